/-
  What the functions of this group compute on the abstract machine, and the plain laws of it. Part B: conditions stand in each theorem.
-/
import Derived.Test.YtmhldlnlgjpkaaaScrA

/-
  Script: whether two acts, two settings are alike.
-/
namespace Go.Proofs.Ytmhldlnlgjpkaaa.scr
open Go.Am
set_option linter.unusedSimpArgs false
set_option linter.unusedVariables false
set_option maxRecDepth 20000

theorem und35 : ∃ d, tb1.und 35 = some d ∧ isAggD d = true := by
  have h : (tb1.und 35).map isAggD = some true := by kernel_rfl
  cases hq : tb1.und 35 with
  | none => rw [hq] at h; cases h
  | some d => rw [hq] at h; exact ⟨d, rfl, by simpa using h⟩
theorem size35 : sizeF tb1 35 = .ok 5 := by kernel_rfl
theorem und72 : ∃ d, tb1.und 72 = some d ∧ isAggD d = false := by
  have h : (tb1.und 72).map isAggD = some false := by kernel_rfl
  cases hq : tb1.und 72 with
  | none => rw [hq] at h; cases h
  | some d => rw [hq] at h; exact ⟨d, rfl, by simpa using h⟩
noncomputable def c25 : Code := Try.f25.body.getD .skip
theorem c25_eq : Try.f25.body = some (.seq (sub c25 [0]) (.seq (sub c25 [1,0]) (sub c25 [1,1]))) := by kernel_rfl
set_option maxHeartbeats 4000000 in
theorem run_actEq {A : Mem} {bc : Nat} {d d' : ActG} {l l' : List Value} (hbc : bc < A.next) (hcl : Vals A 72 bc (.var 1) [.func (.func 23) ⟨[]⟩ ⟨[]⟩]) (h : ActGR A d l) (h' : ActGR A d' l') :
    ∃ A', Ans tb1 25 [.agg ⟨l⟩, .agg ⟨l'⟩, .pointer (some ⟨bc, 0, none⟩)] A (.bool (decide (d = d'))) A' ∧ Ext A A' := by
  obtain ⟨xs, xo, rfl, k2, k3, k4⟩ := h
  obtain ⟨ys, yo, rfl, k2', k3', k4'⟩ := h'
  obtain ⟨v, A', ha, rfl, he⟩ : ∃ v A', Ans tb1 25 [.agg ⟨cellsG d xs xo⟩, .agg ⟨cellsG d' ys yo⟩, .pointer (some ⟨bc, 0, none⟩)] A v A' ∧ v = .bool (decide (d = d')) ∧ Ext A A' := by
    refine ans_of_W (fn_at Try.func25) c25_eq (by rw [Try.ntmps25]; simp) (by kernel_rfl) (by kernel_rfl) ?_
    have hv0 : Vals ((A.alloc (rowOb 39 (cellsG d xs xo))).alloc (rowOb 39 (cellsG d' ys yo))) 39 A.next (.var 9) (cellsG d xs xo) := (Go.Am.vals_new A 39 _).same (get_alloc_ne (by rw [next_alloc]; omega))
    have hv1 : Vals ((A.alloc (rowOb 39 (cellsG d xs xo))).alloc (rowOb 39 (cellsG d' ys yo))) 39 (A.next + 1) (.var 9) (cellsG d' ys yo) := Go.Am.vals_new (A.alloc _) 39 _
    have hE : Ext A ((A.alloc (rowOb 39 (cellsG d xs xo))).alloc (rowOb 39 (cellsG d' ys yo))) := (Ext.alloc A _).trans (Ext.alloc _ _)
    obtain ⟨d35, hd1, hd2⟩ := und35
    obtain ⟨d72, hd3, hd4⟩ := und72
    have a0 := load_part (tb := tb1) (t := 35) (o := 0) (n := 5) hd1 hd2 size35 hv0 (by show 5 ≤ 9; omega)
    rw [show ((cellsG d xs xo).drop 0).take 5 = [.int .i64 d.kind, strOf d.word, .int .u32 (d.weight : Int), .int .i64 d.k, .int .i64 d.n] from rfl] at a0
    have a1 := load_vals (tb := tb1) (t := 3) und3 rfl hv0 (show (cellsG d xs xo)[5]? = _ from rfl)
    have a2 := load_vals (tb := tb1) (t := 4) und4 rfl hv0 (show (cellsG d xs xo)[6]? = _ from rfl)
    have a3 := load_vals (tb := tb1) (t := 36) und36 rfl hv0 (show (cellsG d xs xo)[7]? = _ from rfl)
    have a4 := load_vals (tb := tb1) (t := 37) und37 rfl hv0 (show (cellsG d xs xo)[8]? = _ from rfl)
    have b0 := load_part (tb := tb1) (t := 35) (o := 0) (n := 5) hd1 hd2 size35 hv1 (by show 5 ≤ 9; omega)
    rw [show ((cellsG d' ys yo).drop 0).take 5 = [.int .i64 d'.kind, strOf d'.word, .int .u32 (d'.weight : Int), .int .i64 d'.k, .int .i64 d'.n] from rfl] at b0
    have b1 := load_vals (tb := tb1) (t := 3) und3 rfl hv1 (show (cellsG d' ys yo)[5]? = _ from rfl)
    have b2 := load_vals (tb := tb1) (t := 4) und4 rfl hv1 (show (cellsG d' ys yo)[6]? = _ from rfl)
    have b3 := load_vals (tb := tb1) (t := 36) und36 rfl hv1 (show (cellsG d' ys yo)[7]? = _ from rfl)
    have b4 := load_vals (tb := tb1) (t := 37) und37 rfl hv1 (show (cellsG d' ys yo)[8]? = _ from rfl)
    have hcl' := load_box (tb := tb1) (t := 72) hd3 hd4 (hcl.same (hE.g _ hbc))
    obtain ⟨g1, hg1⟩ := run_eqs k3 (k2.ext hE) (k2'.ext hE)
    obtain ⟨F, ⟨g2, hg2⟩, hEF⟩ := run_eqOps (k4.ext hE) (k4'.ext hE)
    apply W.seq
    apply W.run 20
    · intro M
      simp (config := { maxSteps := 4000000 }) (disch := first | decide +kernel | omega) only [c25, Try.f25, Option.getD_some, sub_seq0, sub_nil, T.puts_cons, Nat.reduceAdd, T.puts_nil, exec_region, runOps_cons, opF_box, ev_tmp, T.get_set, Nat.reduceEqDiff, T.get_e, if_true, if_false, evG_some, at_ptr, putT_some, opF_assign, ev_bool, runOps_nil, R.ok_bind, cells_agg]
      with_reducible rfl
    apply W.seq
    by_cases h1 : d.kind = d'.kind ∧ d.word = d'.word ∧ d.weight = d'.weight ∧ d.k = d'.k ∧ d.n = d'.n
    rotate_left
    · have t1 : decide (d.kind = d'.kind ∧ d.word = d'.word ∧ d.weight = d'.weight ∧ d.k = d'.k ∧ d.n = d'.n) = false := decide_eq_false h1
      apply W.run 20
      · intro M
        simp (config := { maxSteps := 4000000 }) (disch := first | decide +kernel | (rw [wantF_guard]; simp only [wantD_some, dstAt_zero, dstAt_succ, T.get_set, T.get_e, Nat.reduceEqDiff, if_true, if_false, wantV_bool, wantV_unit, unitV, cond_true, cond_false, Bool.not_true, Bool.not_false, List.toList_toArray]) | omega) only [c25, Try.f25, Option.getD_some, sub_seq1, sub_seq0, sub_nil, next_alloc, exec_region, runOps_cons, opF_fieldAddr, ev_tmp, T.get_set, Nat.reduceEqDiff, T.get_e, if_false, if_true, evG_some, putT_some, opF_load, opF_eqlR, opF_move, R.ok_bind, fa39_0, b0, a0, eq35, t1, runOps_no, opF_pick, pickF, ev_bool, opF_assign, runOps_nil]
        with_reducible rfl
      apply W.run 20
      · intro M
        simp (config := { maxSteps := 4000000 }) (disch := first | decide +kernel | omega) only [c25, Try.f25, Option.getD_some, sub_seq1, sub_nil, exec_ret]
        with_reducible rfl
      refine ⟨.inr rfl, _, [.bool false], rfl, ?_, ?_, hE⟩
      · simp only [Try.f25, resF, ev_tmp, T.get_set, Nat.reduceEqDiff, if_true, if_false, evG_some, R.ok_bind]
      · show Value.bool _ = _
        rw [decide_eq_false (fun h => h1 (by subst h; exact ⟨rfl, rfl, rfl, rfl, rfl⟩))]
    have t1 : decide (d.kind = d'.kind ∧ d.word = d'.word ∧ d.weight = d'.weight ∧ d.k = d'.k ∧ d.n = d'.n) = true := decide_eq_true h1
    by_cases h2 : d.arm = d'.arm
    rotate_left
    · have t2 : decide (d.arm = d'.arm) = false := decide_eq_false h2
      apply W.run 20
      · intro M
        simp (config := { maxSteps := 4000000 }) (disch := first | decide +kernel | (rw [wantF_guard]; simp only [wantD_some, dstAt_zero, dstAt_succ, T.get_set, T.get_e, Nat.reduceEqDiff, if_true, if_false, wantV_bool, wantV_unit, unitV, cond_true, cond_false, Bool.not_true, Bool.not_false, List.toList_toArray]) | omega) only [c25, Try.f25, Option.getD_some, sub_seq1, sub_seq0, sub_nil, next_alloc, exec_region, runOps_cons, opF_fieldAddr, ev_tmp, T.get_set, Nat.reduceEqDiff, T.get_e, if_false, if_true, evG_some, putT_some, opF_load, opF_eqlR, opF_move, R.ok_bind, fa39_0, b0, a0, eq35, t1, runOps_yes, opF_eql, und3, opF_pick, pickF, ev_bool, fa39_1, b1, a1, binF_int, op_eqlI, t2, runOps_no, opF_assign, runOps_nil]
        with_reducible rfl
      apply W.run 20
      · intro M
        simp (config := { maxSteps := 4000000 }) (disch := first | decide +kernel | omega) only [c25, Try.f25, Option.getD_some, sub_seq1, sub_nil, exec_ret]
        with_reducible rfl
      refine ⟨.inr rfl, _, [.bool false], rfl, ?_, ?_, hE⟩
      · simp only [Try.f25, resF, ev_tmp, T.get_set, Nat.reduceEqDiff, if_true, if_false, evG_some, R.ok_bind]
      · show Value.bool _ = _
        rw [decide_eq_false (fun h => h2 (by subst h; rfl))]
    have t2 : decide (d.arm = d'.arm) = true := decide_eq_true h2
    by_cases h3 : d.cut = d'.cut
    rotate_left
    · have t3 : decide (d.cut = d'.cut) = false := decide_eq_false h3
      have t3 : (d.cut == d'.cut) = false := beq_eq_false_iff_ne.2 h3
      apply W.run 20
      · intro M
        simp (config := { maxSteps := 4000000 }) (disch := first | decide +kernel | (rw [wantF_guard]; simp only [wantD_some, dstAt_zero, dstAt_succ, T.get_set, T.get_e, Nat.reduceEqDiff, if_true, if_false, wantV_bool, wantV_unit, unitV, cond_true, cond_false, Bool.not_true, Bool.not_false, List.toList_toArray]) | omega) only [c25, Try.f25, Option.getD_some, sub_seq1, sub_seq0, sub_nil, next_alloc, exec_region, runOps_cons, opF_fieldAddr, ev_tmp, T.get_set, Nat.reduceEqDiff, T.get_e, if_false, if_true, evG_some, putT_some, opF_load, opF_eqlR, opF_move, R.ok_bind, fa39_0, b0, a0, eq35, t1, runOps_yes, opF_eql, und3, opF_pick, pickF, ev_bool, fa39_1, b1, a1, binF_int, op_eqlI, t2, und4, fa39_2, b2, a2, bool_eql, t3, runOps_no, opF_assign, runOps_nil]
        with_reducible rfl
      apply W.run 20
      · intro M
        simp (config := { maxSteps := 4000000 }) (disch := first | decide +kernel | omega) only [c25, Try.f25, Option.getD_some, sub_seq1, sub_nil, exec_ret]
        with_reducible rfl
      refine ⟨.inr rfl, _, [.bool false], rfl, ?_, ?_, hE⟩
      · simp only [Try.f25, resF, ev_tmp, T.get_set, Nat.reduceEqDiff, if_true, if_false, evG_some, R.ok_bind]
      · show Value.bool _ = _
        rw [decide_eq_false (fun h => h3 (by subst h; rfl))]
    have t3 : decide (d.cut = d'.cut) = true := decide_eq_true h3
    have t3 : (d.cut == d'.cut) = true := beq_iff_eq.2 h3
    by_cases h4 : d.stays = d'.stays
    rotate_left
    · have t4 : decide (d.stays = d'.stays) = false := decide_eq_false h4
      apply W.runG (g1) 20
      · intro M hM
        simp (config := { maxSteps := 4000000 }) (disch := first | decide +kernel | (rw [wantF_guard]; simp only [wantD_some, dstAt_zero, dstAt_succ, T.get_set, T.get_e, Nat.reduceEqDiff, if_true, if_false, wantV_bool, wantV_unit, unitV, cond_true, cond_false, Bool.not_true, Bool.not_false, List.toList_toArray]) | omega) only [c25, Try.f25, Option.getD_some, sub_seq1, sub_seq0, sub_nil, next_alloc, exec_region, runOps_cons, opF_fieldAddr, ev_tmp, T.get_set, Nat.reduceEqDiff, T.get_e, if_false, if_true, evG_some, putT_some, opF_load, opF_eqlR, opF_move, R.ok_bind, fa39_0, b0, a0, eq35, t1, runOps_yes, opF_eql, und3, opF_pick, pickF, ev_bool, fa39_1, b1, a1, binF_int, op_eqlI, t2, und4, fa39_2, b2, a2, bool_eql, t3, opF_call, evs, resK, fa39_3, b3, a3, hg1, t4, runOps_no, opF_assign, runOps_nil]
        with_reducible rfl
      apply W.run 20
      · intro M
        simp (config := { maxSteps := 4000000 }) (disch := first | decide +kernel | omega) only [c25, Try.f25, Option.getD_some, sub_seq1, sub_nil, exec_ret]
        with_reducible rfl
      refine ⟨.inr rfl, _, [.bool false], rfl, ?_, ?_, hE⟩
      · simp only [Try.f25, resF, ev_tmp, T.get_set, Nat.reduceEqDiff, if_true, if_false, evG_some, R.ok_bind]
      · show Value.bool _ = _
        rw [decide_eq_false (fun h => h4 (by subst h; rfl))]
    have t4 : decide (d.stays = d'.stays) = true := decide_eq_true h4
    apply W.runG ((g1+g2)) 20
    · intro M hM
      simp (config := { maxSteps := 4000000 }) (disch := first | decide +kernel | (rw [wantF_guard]; simp only [wantD_some, dstAt_zero, dstAt_succ, T.get_set, T.get_e, Nat.reduceEqDiff, if_true, if_false, wantV_bool, wantV_unit, unitV, cond_true, cond_false, Bool.not_true, Bool.not_false, List.toList_toArray]) | omega) only [c25, Try.f25, Option.getD_some, sub_seq1, sub_seq0, sub_nil, next_alloc, exec_region, runOps_cons, opF_fieldAddr, ev_tmp, T.get_set, Nat.reduceEqDiff, T.get_e, if_false, if_true, evG_some, putT_some, opF_load, opF_eqlR, opF_move, R.ok_bind, fa39_0, b0, a0, eq35, t1, runOps_yes, opF_eql, und3, opF_pick, pickF, ev_bool, fa39_1, b1, a1, binF_int, op_eqlI, t2, und4, fa39_2, b2, a2, bool_eql, t3, opF_call, evs, resK, fa39_3, b3, a3, hg1, t4, opF_assign, runOps_nil, hcl', fa39_4, b4, a4, hg2]
      with_reducible rfl
    apply W.run 20
    · intro M
      simp (config := { maxSteps := 4000000 }) (disch := first | decide +kernel | omega) only [c25, Try.f25, Option.getD_some, sub_seq1, sub_nil, exec_ret]
      with_reducible rfl
    refine ⟨.inr rfl, _, [.bool (decide (d.opening = d'.opening))], rfl, ?_, ?_, hE.trans hEF⟩
    · simp only [Try.f25, resF, ev_tmp, T.get_set, Nat.reduceEqDiff, if_true, if_false, evG_some, R.ok_bind]
    · show Value.bool _ = _
      congr 1
      exact decide_eq_decide.2 ⟨fun h => ActG.all_inj.1 ⟨h1.1, h1.2.1, h1.2.2.1, h1.2.2.2.1, h1.2.2.2.2, h2, h3, h4, h⟩, fun h => by rw [h]⟩
  exact ⟨A', ha, he⟩

noncomputable def c27 : Code := Try.f27.body.getD .skip
noncomputable def c27b1 : Code := sub c27 [1,1,0,1,0,0]
theorem c27_eq : Try.f27.body = some (.seq (sub c27 [0]) (.seq (sub c27 [1,0]) (.seq (.seq (sub c27 [1,1,0,0]) (.block 0 (.loop c27b1))) (.seq (sub c27 [1,1,1,0]) (sub c27 [1,1,1,1]))))) := by kernel_rfl
theorem c27b1_eq : c27b1 = .seq (sub c27b1 [0]) (.seq (sub c27b1 [1,0]) (.seq (.block 1 (.seq (sub c27b1 [1,1,0,0,0]) (.seq (sub c27b1 [1,1,0,0,1,0]) (sub c27b1 [1,1,0,0,1,1])))) (sub c27b1 [1,1,1]))) := by kernel_rfl
set_option maxHeartbeats 2000000 in
theorem run_eqActs {A : Mem} {ds ds' : List ActG} {x y : Value} {bc : Nat} (hbc : bc < A.next) (hcl : Vals A 72 bc (.var 1) [.func (.func 23) ⟨[]⟩ ⟨[]⟩]) (h : ActsG A ds x) (h' : ActsG A ds' y) : ∃ A', Ans tb1 27 [x, y, .func (.func 25) ⟨[]⟩ ⟨[.pointer (some ⟨bc, 0, none⟩)]⟩] A (.bool (decide (ds = ds'))) A' ∧ Ext A A' := by
  obtain ⟨ls, b, hx, hll, hbd, hall⟩ := h
  obtain ⟨ls', b', hy, hll', hbd', hall'⟩ := h'
  obtain ⟨v, A', ha, rfl, he⟩ : ∃ v A', Ans tb1 27 [x, y, .func (.func 25) ⟨[]⟩ ⟨[.pointer (some ⟨bc, 0, none⟩)]⟩] A v A' ∧ v = .bool (decide (ds = ds')) ∧ Ext A A' := by
    refine ans_of_W (fn_at Try.func27) c27_eq (by rw [Try.ntmps27]; simp) (by kernel_rfl) (by kernel_rfl) ?_
    have lx := hx.len (tb := tb1) (t := 26) und26
    have ly := hy.len (tb := tb1) (t := 26) und26
    rw [hll] at lx
    rw [hll'] at ly
    apply W.seq
    apply W.run 20
    · intro M
      simp (config := { maxSteps := 4000000 }) (disch := first | decide +kernel | omega) only [c27, Try.f27, Option.getD_some, sub_seq0, sub_nil, T.puts_cons, Nat.reduceAdd, T.puts_nil, exec_region, runOps_cons, opF_assign, ev_bool, putT_some, runOps_nil, R.ok_bind]
      with_reducible rfl
    apply W.seq
    by_cases hl : ds.length = ds'.length
    · apply W.run 20
      · intro M
        simp (config := { maxSteps := 4000000 }) (disch := first | decide +kernel | omega) only [c27, Try.f27, Option.getD_some, sub_seq1, sub_seq0, sub_nil, exec_seq, exec_region, runOps_cons, opF_move, ev_tmp, T.get_set, Nat.reduceEqDiff, T.get_e, if_true, if_false, evG_some, putT_some, opF_len, evs, R.ok_bind, opF_neq, runOps_nil, ly, lx, hl, binF_int, op_neqI, ne_eq, not_true_eq_false, decide_false, exec_cond, opF_assign, ev_bool, exec_ret, exec_skip]
        with_reducible rfl
      apply W.seq
      apply W.seq
      apply W.run 20
      · intro M
        simp (config := { maxSteps := 4000000 }) (disch := first | decide +kernel | omega) only [c27, Try.f27, Option.getD_some, sub_seq1, sub_seq0, sub_nil, exec_region, runOps_cons, opF_move, ev_tmp, T.get_set, Nat.reduceEqDiff, T.get_e, if_true, if_false, evG_some, putT_some, opF_len, evs, R.ok_bind, ev_int, runOps_nil, lx]
        with_reducible rfl
      apply W.block
      refine W.up ds.length (fun i t C => Ext A C ∧ ds.take i = ds'.take i ∧ Sl t [(0, x), (1, y), (2, .func (.func 25) ⟨[]⟩ ⟨[.pointer (some ⟨bc, 0, none⟩)]⟩), (15, x), (16, .int .i64 ((ds.length : Nat) : Int)), (17, .int .i64 (i : Int))]) ?_ (Nat.zero_le _) ⟨Ext.refl A, by simp, ?_⟩
      · rintro i t C hi ⟨hE, he, g0, g1, g2, g15, g16, g17, -⟩
        have hEn := hE.n
        by_cases hlt : i < ds.length
        · have hlt' : i < ds'.length := by omega
          have hli : i < ls.length := by omega
          have hli' : i < ls'.length := by omega
          have hO := hall i ds[i] ls[i] (List.getElem?_eq_getElem hlt) (List.getElem?_eq_getElem hli)
          have hO' := hall' i ds'[i] ls'[i] (List.getElem?_eq_getElem hlt') (List.getElem?_eq_getElem hli')
          have hxC := hx.same hE.n (fun hb => hE.g b hb)
          have hyC := hy.same hE.n (fun hb => hE.g b' hb)
          have ix := hxC.idx (tb := tb1) (t := 26) (t' := 39) (kd := .i64) (i := i) und26 size39 hli
          have iy := hyC.idx (tb := tb1) (t := 26) (t' := 39) (kd := .i64) (i := i) und26 size39 hli'
          obtain ⟨d39, hd1, hd2⟩ := und39
          generalize hL : ls[i] = L at hO
          generalize hL' : ls'[i] = L' at hO'
          have hc := hO.cells
          have hc' := hO'.cells
          have lax := hxC.load_all (t := 39) (i := i) hd1 hd2 size39 (show ls[i]? = some L by rw [List.getElem?_eq_getElem hli, hL])
          have hv0 : Vals (C.alloc (rowOb 39 [.int .i64 0, .string ⟨#[]⟩, .int .u32 0, .int .i64 0, .int .i64 0, .int .i64 0, .bool false, .slice none 0 0, .slice none 0 0])) 39 C.next (.var 9) [.int .i64 0, .string ⟨#[]⟩, .int .u32 0, .int .i64 0, .int .i64 0, .int .i64 0, .bool false, .slice none 0 0, .slice none 0 0] := Go.Am.vals_new C 39 _
          have hn0 : (C.alloc (rowOb 39 [.int .i64 0, .string ⟨#[]⟩, .int .u32 0, .int .i64 0, .int .i64 0, .int .i64 0, .bool false, .slice none 0 0, .slice none 0 0])).next = C.next + 1 := next_alloc _ _
          obtain ⟨D, hs1, hv1, hn1, hf1⟩ := store_all (tb := tb1) (t := 39) (l' := L) (by rw [size39]; rfl) hv0 (by rw [hc.1]; rfl) (by simp) hc.2
          have hED : Ext C D := (Ext.alloc C (rowOb 39 [.int .i64 0, .string ⟨#[]⟩, .int .u32 0, .int .i64 0, .int .i64 0, .int .i64 0, .bool false, .slice none 0 0, .slice none 0 0])).put (b := C.next) (Nat.le_refl _) hn1 hf1
          have lay := (hyC.same hED.n (fun hb => hED.g b' hb)).load_all (t := 39) (i := i) hd1 hd2 size39 (show ls'[i]? = some L' by rw [List.getElem?_eq_getElem hli', hL'])
          have hv2 : Vals (D.alloc (rowOb 39 [.int .i64 0, .string ⟨#[]⟩, .int .u32 0, .int .i64 0, .int .i64 0, .int .i64 0, .bool false, .slice none 0 0, .slice none 0 0])) 39 D.next (.var 9) [.int .i64 0, .string ⟨#[]⟩, .int .u32 0, .int .i64 0, .int .i64 0, .int .i64 0, .bool false, .slice none 0 0, .slice none 0 0] := Go.Am.vals_new D 39 _
          have hn2 : (D.alloc (rowOb 39 [.int .i64 0, .string ⟨#[]⟩, .int .u32 0, .int .i64 0, .int .i64 0, .int .i64 0, .bool false, .slice none 0 0, .slice none 0 0])).next = D.next + 1 := next_alloc _ _
          obtain ⟨F, hs2, hv3, hn3, hf3⟩ := store_all (tb := tb1) (t := 39) (l' := L') (by rw [size39]; rfl) hv2 (by rw [hc'.1]; rfl) (by simp) hc'.2
          have hEF : Ext D F := (Ext.alloc D (rowOb 39 [.int .i64 0, .string ⟨#[]⟩, .int .u32 0, .int .i64 0, .int .i64 0, .int .i64 0, .bool false, .slice none 0 0, .slice none 0 0])).put (b := D.next) (Nat.le_refl _) hn3 hf3
          have hv1F : Vals F 39 C.next (.var 9) L := hv1.same (hEF.g _ (by omega))
          have laF := Go.Am.load_all (tb := tb1) (t := 39) hd1 hd2 (by rw [size39, hc.1]) hv1F
          have laF' := Go.Am.load_all (tb := tb1) (t := 39) hd1 hd2 (by rw [size39, hc'.1]) hv3
          have hEAF := (hE.trans hED).trans hEF
          obtain ⟨G, ⟨g, hg⟩, hEG⟩ := run_actEq (Nat.lt_of_lt_of_le hbc hEAF.n) (hcl.same (hEAF.g _ hbc)) (hO.ext hEAF) (hO'.ext hEAF)
          rw [c27b1_eq]
          apply W.seq
          apply W.run 20
          · intro M
            simp (config := { maxSteps := 4000000 }) (disch := first | decide +kernel | omega) only [c27b1, c27, Try.f27, Option.getD_some, sub_seq1, sub_seq0, sub_block, sub_loop, sub_nil, exec_region, runOps_cons, opF_ari, ev_tmp, g17, evG_some, g16, putT_some, runOps_nil, R.ok_bind, binF_int, op_lssI, cast_lt, hlt, decide_true]
            with_reducible rfl
          apply W.seq
          apply W.run 20
          · intro M
            simp (config := { maxSteps := 4000000 }) (disch := first | decide +kernel | omega) only [c27b1, c27, Try.f27, Option.getD_some, sub_seq1, sub_seq0, sub_block, sub_loop, sub_nil, exec_cond, ev_tmp, T.get_set, if_true, evG_some, exec_skip, exec_exit, R.ok_bind]
            with_reducible rfl
          apply W.seq
          apply W.block
          apply W.seq
          apply W.run 20
          · intro M
            simp (config := { maxSteps := 4000000 }) (disch := first | decide +kernel | omega) only [c27b1, c27, Try.f27, Option.getD_some, sub_seq1, sub_seq0, sub_block, sub_loop, sub_nil, exec_region, runOps_cons, opF_move, ev_tmp, T.get_set, Nat.reduceEqDiff, g17, if_false, evG_some, putT_some, opF_indexAddr, g15, opF_load, if_true, opF_alloc, zero39, at_ptr, opF_assign, opF_store, putT_none, runOps_nil, R.ok_bind, cells_agg, ix, lax, hs1]
            with_reducible rfl
          apply W.seq
          apply W.run 20
          · intro M
            simp (config := { maxSteps := 4000000 }) (disch := first | decide +kernel | omega) only [c27b1, c27, Try.f27, Option.getD_some, sub_seq1, sub_seq0, sub_block, sub_loop, sub_nil, exec_region, runOps_cons, opF_move, ev_tmp, T.get_set, Nat.reduceEqDiff, g1, if_false, evG_some, putT_some, if_true, opF_indexAddr, opF_load, opF_alloc, zero39, at_ptr, opF_store, putT_none, runOps_nil, R.ok_bind, cells_agg, iy, lay, hs2]
            with_reducible rfl
          by_cases hv : ds[i] = ds'[i]
          · have hdt := decide_eq_true hv
            apply W.runG (g) 20
            · intro M hM
              simp (config := { maxSteps := 4000000 }) (disch := first | decide +kernel | omega) only [c27b1, c27, Try.f27, Option.getD_some, sub_seq1, sub_seq0, sub_block, sub_loop, sub_nil, exec_seq, exec_region, runOps_cons, opF_move, ev_tmp, T.get_set, Nat.reduceEqDiff, g2, if_false, evG_some, putT_some, opF_load, if_true, opF_callv, evs, R.ok_bind, resK, opF_un, runOps_nil, laF', laF, callV_func, List.nil_append, List.cons_append, hg, hdt, un_not, Bool.not_true, exec_cond, opF_assign, ev_bool, exec_ret, exec_skip]
              with_reducible rfl
            show W tb1 _ _ _
            apply W.run 20
            · intro M
              simp (config := { maxSteps := 4000000 }) (disch := first | decide +kernel | omega) only [c27b1, c27, Try.f27, Option.getD_some, sub_seq1, sub_seq0, sub_block, sub_loop, sub_nil, exec_region, runOps_cons, opF_ari, ev_tmp, T.get_set, Nat.reduceEqDiff, g17, if_false, evG_some, ev_int, putT_some, opF_move, if_true, runOps_nil, R.ok_bind, binF_int, op_add_i64]
              with_reducible rfl
            refine ⟨hlt, _, _, rfl, hEAF.trans hEG, ?_, ?_⟩
            · rw [List.take_succ_eq_append_getElem hlt, List.take_succ_eq_append_getElem hlt', he, hv]
            · simp only [Sl_cons, Sl_nil, T.get_set, T.puts_cons, T.puts_nil, Nat.reduceEqDiff, Nat.reduceAdd, if_true, if_false, and_true, true_and, g0, g1, g2, g15, g16]
          · have hdt := decide_eq_false hv
            apply W.runG (g) 20
            · intro M hM
              simp (config := { maxSteps := 4000000 }) (disch := first | decide +kernel | omega) only [c27b1, c27, Try.f27, Option.getD_some, sub_seq1, sub_seq0, sub_block, sub_loop, sub_nil, exec_seq, exec_region, runOps_cons, opF_move, ev_tmp, T.get_set, Nat.reduceEqDiff, g2, if_false, evG_some, putT_some, opF_load, if_true, opF_callv, evs, R.ok_bind, resK, opF_un, runOps_nil, laF', laF, callV_func, List.nil_append, List.cons_append, hg, hdt, un_not, Bool.not_false, exec_cond, opF_assign, ev_bool, exec_ret, exec_skip]
              with_reducible rfl
            refine ⟨.inr rfl, _, [.bool false], rfl, ?_, ?_, hEAF.trans hEG⟩
            · simp only [Try.f27, resF, ev_tmp, T.get_set, Nat.reduceEqDiff, if_true, if_false, evG_some, R.ok_bind]
            · have : ds ≠ ds' := fun h => hv (by subst h; rfl)
              show Value.bool false = _
              rw [decide_eq_false this]
        · have hin : i = ds.length := by omega
          subst hin
          apply W.run 20
          · intro M
            simp (config := { maxSteps := 4000000 }) (disch := first | decide +kernel | omega) only [c27b1, c27, Try.f27, Option.getD_some, sub_seq1, sub_seq0, sub_block, sub_loop, sub_nil, exec_seq, exec_region, runOps_cons, opF_ari, ev_tmp, g17, evG_some, g16, putT_some, runOps_nil, R.ok_bind, binF_int, op_lssI, cast_lt, Nat.lt_irrefl, decide_false, exec_cond, exec_skip, exec_exit, exec_block, opF_move, opF_assign, ev_bool, exec_ret, ev_int, T.get_set, if_true]
            with_reducible rfl
          show W tb1 _ _ _
          apply W.seq
          apply W.run 20
          · intro M
            simp (config := { maxSteps := 4000000 }) (disch := first | decide +kernel | omega) only [c27, Try.f27, Option.getD_some, sub_seq1, sub_seq0, sub_nil, exec_region, runOps_cons, opF_assign, ev_bool, putT_some, runOps_nil, R.ok_bind]
            with_reducible rfl
          apply W.run 20
          · intro M
            simp (config := { maxSteps := 4000000 }) (disch := first | decide +kernel | omega) only [c27, Try.f27, Option.getD_some, sub_seq1, sub_nil, exec_ret]
            with_reducible rfl
          refine ⟨.inr rfl, _, [.bool true], rfl, ?_, ?_, hE⟩
          · simp only [Try.f27, resF, ev_tmp, T.get_set, Nat.reduceEqDiff, if_true, if_false, evG_some, R.ok_bind]
          · rw [List.take_length, hl, List.take_length] at he
            show Value.bool true = _
            rw [decide_eq_true he]
      · simp only [Sl_cons, Sl_nil, T.get_set, T.puts_cons, T.puts_nil, Nat.reduceEqDiff, Nat.reduceAdd, if_true, if_false, and_true, true_and]
    · apply W.run 20
      · intro M
        simp (config := { maxSteps := 4000000 }) (disch := first | decide +kernel | omega) only [c27, Try.f27, Option.getD_some, sub_seq1, sub_seq0, sub_nil, exec_seq, exec_region, runOps_cons, opF_move, ev_tmp, T.get_set, Nat.reduceEqDiff, T.get_e, if_true, if_false, evG_some, putT_some, opF_len, evs, R.ok_bind, opF_neq, runOps_nil, ly, lx, binF_int, op_neqI, ne_eq, Int.natCast_inj, hl, not_false_eq_true, decide_true, exec_cond, opF_assign, ev_bool, exec_ret, exec_skip]
        with_reducible rfl
      refine ⟨.inr rfl, _, [.bool false], rfl, ?_, ?_, Ext.refl A⟩
      · simp only [Try.f27, resF, ev_tmp, T.get_set, Nat.reduceEqDiff, if_true, if_false, evG_some, R.ok_bind]
      · have : ds ≠ ds' := fun h => hl (by rw [h])
        show Value.bool false = _
        rw [decide_eq_false this]
  exact ⟨A', ha, he⟩
end Go.Proofs.Ytmhldlnlgjpkaaa.scr

/-
  Script: whether two settings are alike: the whole function.
-/
namespace Go.Proofs.Ytmhldlnlgjpkaaa.scr
open Go.Am
set_option linter.unusedSimpArgs false
set_option linter.unusedVariables false
set_option maxRecDepth 20000

/-- A setting; any numbers. -/
structure SetG where
  wal : Int
  fan : Int
  quota : Int
  acts : List ActG
theorem SetG.all_inj {a b : SetG} : ((a.wal = b.wal ∧ a.fan = b.fan) ∧ a.quota = b.quota ∧ a.acts = b.acts) ↔ a = b := by
  cases a; cases b
  simp only [SetG.mk.injEq, and_assoc]
instance : DecidableEq SetG := fun _ _ => decidable_of_iff _ SetG.all_inj
def cellsS (s : SetG) (xa : Value) : List Value := [.int .i64 s.wal, .int .i64 s.fan, .int .i64 s.quota, xa]
def SetR (A : Mem) (s : SetG) (l : List Value) : Prop := ∃ xa, l = cellsS s xa ∧ ActsG A s.acts xa
theorem SetR.ext {A A' : Mem} {s : SetG} {l : List Value} (h : SetR A s l) (e : Ext A A') : SetR A' s l := by
  obtain ⟨xa, h1, h2⟩ := h
  exact ⟨xa, h1, h2.ext e⟩
theorem SetR.cells {A : Mem} {s : SetG} {l : List Value} (h : SetR A s l) : l.length = 4 ∧ ∀ v ∈ l, oneCell v = true := by
  obtain ⟨xa, rfl, h2⟩ := h
  refine ⟨rfl, fun v hv => ?_⟩
  simp only [cellsS, List.mem_cons, List.not_mem_nil, or_false] at hv
  rcases hv with rfl | rfl | rfl | rfl <;> first | rfl | exact h2.cells.2
theorem ev_fn (t : T Value) (f : FuncId) : ev t (.func f) = .ok (.func (.func f) ⟨[]⟩ ⟨[]⟩) := rfl
theorem cells_nilfunc : Value.nilFunc.cells.toList = [.nilFunc] := rfl
theorem zero72 : zeroF tb1 72 = .ok .nilFunc := by kernel_rfl
theorem size72 : sizeF tb1 72 = .ok 1 := by kernel_rfl
noncomputable def c12 : Code := Try.f12.body.getD .skip
theorem c12_eq : Try.f12.body = some (.seq (sub c12 [0]) (.seq (sub c12 [1,0]) (.seq (sub c12 [1,1,0]) (.seq (sub c12 [1,1,1,0]) (sub c12 [1,1,1,1]))))) := by kernel_rfl
set_option maxHeartbeats 4000000 in
theorem run_same {A : Mem} {s s' : SetG} {l l' : List Value} (h : SetR A s l) (h' : SetR A s' l') : ∃ A', Ans tb1 12 [.agg ⟨l⟩, .agg ⟨l'⟩] A (.bool (decide (s = s'))) A' ∧ Ext A A' := by
  obtain ⟨xa, rfl, ka⟩ := h
  obtain ⟨ya, rfl, kb⟩ := h'
  obtain ⟨v, A', ha, rfl, he⟩ : ∃ v A', Ans tb1 12 [.agg ⟨cellsS s xa⟩, .agg ⟨cellsS s' ya⟩] A v A' ∧ v = .bool (decide (s = s')) ∧ Ext A A' := by
    refine ans_of_W (fn_at Try.func12) c12_eq (by rw [Try.ntmps12]; simp) (by kernel_rfl) (by kernel_rfl) ?_
    have hn1 : ((A.alloc (rowOb 28 (cellsS s xa))).alloc (rowOb 28 (cellsS s' ya))).next = A.next + 2 := by simp only [next_alloc]
    have hv0 : Vals ((A.alloc (rowOb 28 (cellsS s xa))).alloc (rowOb 28 (cellsS s' ya))) 28 A.next (.var 4) (cellsS s xa) := (Go.Am.vals_new A 28 _).same (get_alloc_ne (by rw [next_alloc]; omega))
    have hv1 : Vals ((A.alloc (rowOb 28 (cellsS s xa))).alloc (rowOb 28 (cellsS s' ya))) 28 (A.next + 1) (.var 4) (cellsS s' ya) := Go.Am.vals_new (A.alloc _) 28 _
    have hE1 : Ext A ((A.alloc (rowOb 28 (cellsS s xa))).alloc (rowOb 28 (cellsS s' ya))) := (Ext.alloc A _).trans (Ext.alloc _ _)
    apply W.seq
    apply W.run 20
    · intro M
      simp (config := { maxSteps := 4000000 }) (disch := first | decide +kernel | omega) only [c12, Try.f12, Option.getD_some, sub_seq0, sub_nil, T.puts_cons, Nat.reduceAdd, T.puts_nil, exec_region, runOps_cons, opF_box, ev_tmp, T.get_set, Nat.reduceEqDiff, T.get_e, if_true, if_false, evG_some, at_ptr, putT_some, opF_assign, ev_bool, runOps_nil, R.ok_bind, cells_agg]
      with_reducible rfl
    generalize ((A.alloc (rowOb 28 (cellsS s xa))).alloc (rowOb 28 (cellsS s' ya))) = B at hn1 hv0 hv1 hE1
    have hv2 : Vals (B.alloc (rowOb 72 [.nilFunc])) 72 B.next (.var 1) [.nilFunc] := Go.Am.vals_new B 72 _
    obtain ⟨D, hst, hv3, hn3, hf3⟩ := store_box (tb := tb1) (t := 72) (w := .func (.func 23) ⟨[]⟩ ⟨[]⟩) size72 hv2 rfl rfl
    have hED : Ext B D := (Ext.alloc B (rowOb 72 [.nilFunc])).put (b := B.next) (Nat.le_refl _) hn3 hf3
    have hE := hE1.trans hED
    have hBD : B.next < D.next := by rw [hn3, next_alloc]; omega
    obtain ⟨d25, hd1, hd2⟩ := und25
    have a0 := load_part (tb := tb1) (t := 25) (o := 0) (n := 2) hd1 hd2 size25 (hv0.same (hED.g _ (by omega))) (by show 2 ≤ 4; omega)
    rw [show ((cellsS s xa).drop 0).take 2 = [.int .i64 s.wal, .int .i64 s.fan] from rfl] at a0
    have b0 := load_part (tb := tb1) (t := 25) (o := 0) (n := 2) hd1 hd2 size25 (hv1.same (hED.g _ (by omega))) (by show 2 ≤ 4; omega)
    rw [show ((cellsS s' ya).drop 0).take 2 = [.int .i64 s'.wal, .int .i64 s'.fan] from rfl] at b0
    have a1 := load_vals (tb := tb1) (t := 3) und3 rfl (hv0.same (hED.g _ (by omega))) (show (cellsS s xa)[2]? = _ from rfl)
    have b1 := load_vals (tb := tb1) (t := 3) und3 rfl (hv1.same (hED.g _ (by omega))) (show (cellsS s' ya)[2]? = _ from rfl)
    have a2 := load_vals (tb := tb1) (t := 26) und26 rfl (hv0.same (hED.g _ (by omega))) (show (cellsS s xa)[3]? = _ from rfl)
    have b2 := load_vals (tb := tb1) (t := 26) und26 rfl (hv1.same (hED.g _ (by omega))) (show (cellsS s' ya)[3]? = _ from rfl)
    obtain ⟨F, ⟨g, hg⟩, hEF⟩ := run_eqActs (bc := B.next) hBD hv3 (ka.ext hE) (kb.ext hE)
    apply W.seq
    apply W.run 20
    · intro M
      simp (config := { maxSteps := 4000000 }) (disch := first | decide +kernel | omega) only [c12, Try.f12, Option.getD_some, sub_seq1, sub_seq0, sub_nil, exec_region, runOps_cons, opF_alloc, zero72, at_ptr, putT_some, opF_store, ev_tmp, T.get_set, Nat.reduceEqDiff, T.get_e, if_false, if_true, evG_some, ev_fn, putT_none, runOps_nil, R.ok_bind, cells_nilfunc, hst]
      with_reducible rfl
    apply W.seq
    apply W.run 20
    · intro M
      simp (config := { maxSteps := 4000000 }) (disch := first | decide +kernel | omega) only [c12, Try.f12, Option.getD_some, sub_seq1, sub_seq0, sub_nil, exec_region, runOps_cons, opF_makeFunc, evs, ev_tmp, T.get_set, Nat.reduceEqDiff, T.get_e, if_false, if_true, evG_some, R.ok_bind, putT_some, opF_assign, runOps_nil]
      with_reducible rfl
    apply W.seq
    by_cases h1 : s.wal = s'.wal ∧ s.fan = s'.fan
    rotate_left
    · have t1 : decide (s.wal = s'.wal ∧ s.fan = s'.fan) = false := decide_eq_false h1
      apply W.run 20
      · intro M
        simp (config := { maxSteps := 4000000 }) (disch := first | decide +kernel | (rw [wantF_guard]; simp only [wantD_some, dstAt_zero, dstAt_succ, T.get_set, T.get_e, Nat.reduceEqDiff, if_true, if_false, wantV_bool, wantV_unit, unitV, cond_true, cond_false, Bool.not_true, Bool.not_false, List.toList_toArray]) | omega) only [c12, Try.f12, Option.getD_some, sub_seq1, sub_seq0, sub_nil, next_alloc, exec_region, runOps_cons, opF_fieldAddr, ev_tmp, T.get_set, Nat.reduceEqDiff, T.get_e, if_false, if_true, evG_some, putT_some, opF_load, opF_eqlR, opF_move, R.ok_bind, fa28_0, b0, a0, eq25, t1, runOps_no, opF_pick, pickF, ev_bool, opF_assign, runOps_nil]
        with_reducible rfl
      apply W.run 20
      · intro M
        simp (config := { maxSteps := 4000000 }) (disch := first | decide +kernel | omega) only [c12, Try.f12, Option.getD_some, sub_seq1, sub_nil, exec_ret]
        with_reducible rfl
      refine ⟨.inr rfl, _, [.bool false], rfl, ?_, ?_, hE⟩
      · simp only [Try.f12, resF, ev_tmp, T.get_set, Nat.reduceEqDiff, if_true, if_false, evG_some, R.ok_bind]
      · show Value.bool _ = _
        rw [decide_eq_false (fun h => h1 (by subst h; exact ⟨rfl, rfl⟩))]
    have t1 : decide (s.wal = s'.wal ∧ s.fan = s'.fan) = true := decide_eq_true h1
    by_cases h2 : s.quota = s'.quota
    rotate_left
    · have t2 : decide (s.quota = s'.quota) = false := decide_eq_false h2
      apply W.run 20
      · intro M
        simp (config := { maxSteps := 4000000 }) (disch := first | decide +kernel | (rw [wantF_guard]; simp only [wantD_some, dstAt_zero, dstAt_succ, T.get_set, T.get_e, Nat.reduceEqDiff, if_true, if_false, wantV_bool, wantV_unit, unitV, cond_true, cond_false, Bool.not_true, Bool.not_false, List.toList_toArray]) | omega) only [c12, Try.f12, Option.getD_some, sub_seq1, sub_seq0, sub_nil, next_alloc, exec_region, runOps_cons, opF_fieldAddr, ev_tmp, T.get_set, Nat.reduceEqDiff, T.get_e, if_false, if_true, evG_some, putT_some, opF_load, opF_eqlR, opF_move, R.ok_bind, fa28_0, b0, a0, eq25, t1, runOps_yes, opF_eql, und3, opF_pick, pickF, ev_bool, fa28_1, b1, a1, binF_int, op_eqlI, t2, runOps_no, opF_assign, runOps_nil]
        with_reducible rfl
      apply W.run 20
      · intro M
        simp (config := { maxSteps := 4000000 }) (disch := first | decide +kernel | omega) only [c12, Try.f12, Option.getD_some, sub_seq1, sub_nil, exec_ret]
        with_reducible rfl
      refine ⟨.inr rfl, _, [.bool false], rfl, ?_, ?_, hE⟩
      · simp only [Try.f12, resF, ev_tmp, T.get_set, Nat.reduceEqDiff, if_true, if_false, evG_some, R.ok_bind]
      · show Value.bool _ = _
        rw [decide_eq_false (fun h => h2 (by subst h; rfl))]
    have t2 : decide (s.quota = s'.quota) = true := decide_eq_true h2
    apply W.runG (g) 20
    · intro M hM
      simp (config := { maxSteps := 4000000 }) (disch := first | decide +kernel | (rw [wantF_guard]; simp only [wantD_some, dstAt_zero, dstAt_succ, T.get_set, T.get_e, Nat.reduceEqDiff, if_true, if_false, wantV_bool, wantV_unit, unitV, cond_true, cond_false, Bool.not_true, Bool.not_false, List.toList_toArray]) | omega) only [c12, Try.f12, Option.getD_some, sub_seq1, sub_seq0, sub_nil, next_alloc, exec_region, runOps_cons, opF_fieldAddr, ev_tmp, T.get_set, Nat.reduceEqDiff, T.get_e, if_false, if_true, evG_some, putT_some, opF_load, opF_eqlR, opF_move, R.ok_bind, fa28_0, b0, a0, eq25, t1, runOps_yes, opF_eql, und3, opF_pick, pickF, ev_bool, fa28_1, b1, a1, binF_int, op_eqlI, t2, opF_call, evs, resK, opF_assign, runOps_nil, fa28_2, b2, a2, hg]
      with_reducible rfl
    apply W.run 20
    · intro M
      simp (config := { maxSteps := 4000000 }) (disch := first | decide +kernel | omega) only [c12, Try.f12, Option.getD_some, sub_seq1, sub_nil, exec_ret]
      with_reducible rfl
    refine ⟨.inr rfl, _, [.bool (decide (s.acts = s'.acts))], rfl, ?_, ?_, hE.trans hEF⟩
    · simp only [Try.f12, resF, ev_tmp, T.get_set, Nat.reduceEqDiff, if_true, if_false, evG_some, R.ok_bind]
    · show Value.bool _ = _
      congr 1
      exact decide_eq_decide.2 ⟨fun h => SetG.all_inj.1 ⟨h1, h2, h⟩, fun h => by rw [h]⟩
  exact ⟨A', ha, he⟩

/-! ### What Parse tells, as a setting of any numbers -/
def opToG (d : Nat × List Nat) : Int × List Nat := ((d.1 : Int), d.2)
def ActD.toG (d : ActD) : ActG := ⟨d.kind, d.word, d.weight, d.k, d.n, d.arm, d.cut, d.stays, d.opening.map opToG⟩
theorem OpsR.toG {P : Nat → Prop} {A : Mem} {ds : List (Nat × List Nat)} {x : Value} (h : OpsR P A ds x) (hl : ds.length ≤ 1000) (hs : ∀ d ∈ ds, d.2.length ≤ 1000) : OpsG A (ds.map opToG) x := by
  obtain ⟨ls, b, -, h2, h3, h4⟩ := h
  refine ⟨ls, b, SlcM.toRow (by omega) h2, by rw [h3, List.length_map], by rw [List.length_map]; exact hl, fun i d l hd hl => ?_⟩
  rw [List.getElem?_map] at hd
  cases hq : ds[i]? with
  | none => rw [hq] at hd; cases hd
  | some d0 =>
    rw [hq] at hd
    cases hd
    obtain ⟨xs, k1, k2⟩ := h4 i d0 l hq hl
    exact ⟨xs, k1, k2.same (Nat.le_refl _) (fun _ _ _ => ⟨trivial, rfl⟩), hs d0 (List.mem_of_getElem? hq)⟩
theorem ActR.toG {P : Nat → Prop} {A : Mem} {d : ActD} {l : List Value} (h : ActR P A d l) (h1 : d.stays.length ≤ 1000) (h2 : d.opening.length ≤ 1000) (h3 : ∀ o ∈ d.opening, o.2.length ≤ 1000) : ActGR A d.toG l := by
  obtain ⟨xs, xo, k1, k2, k3⟩ := h
  exact ⟨xs, xo, k1, k2.same (Nat.le_refl _) (fun _ _ _ => ⟨trivial, rfl⟩), h1, OpsR.toG k3 h2 h3⟩
end Go.Proofs.Ytmhldlnlgjpkaaa.scr

/-
  Script: what is read hangs on the bytes that are read alone (a plain law).
-/
namespace Go.Proofs.Ytmhldlnlgjpkaaa.scr
open Go.Am
set_option linter.unusedSimpArgs false
set_option linter.unusedVariables false

/-- If something is left, what was read is a beginning, and nothing else was asked. -/
def Lc {α : Type} (F : List UInt8 → α × List UInt8) : Prop := (∀ r, (F r).2.length ≤ r.length) ∧ ∀ r, (F r).2 ≠ [] → ∃ u, r = u ++ (F r).2 ∧ ∀ w, F (u ++ w) = ((F r).1, w)
theorem Lc.pure {α : Type} (a : α) : Lc fun r => (a, r) := ⟨fun _ => Nat.le_refl _, fun _ _ => ⟨[], rfl, fun _ => rfl⟩⟩
theorem Lc.one : Lc fun r => (nx r, r.tail) := ⟨fun r => by simp, fun r h => by
  cases r with
  | nil => exact absurd rfl h
  | cons c r => exact ⟨[c], rfl, fun _ => rfl⟩⟩
theorem Lc.map {α β : Type} {F : List UInt8 → α × List UInt8} (h : Lc F) (f : α → β) : Lc fun r => (f (F r).1, (F r).2) := ⟨h.1, fun r hr => by
  obtain ⟨u, h1, h2⟩ := h.2 r hr
  exact ⟨u, h1, fun w => by
    show (f (F (u ++ w)).1, (F (u ++ w)).2) = _
    rw [h2 w]⟩⟩
theorem Lc.bind {α β : Type} {F : List UInt8 → α × List UInt8} {G : α → List UInt8 → β × List UInt8} (h : Lc F) (hg : ∀ a, Lc (G a)) : Lc fun r => G (F r).1 (F r).2 :=
  ⟨fun r => Nat.le_trans ((hg _).1 _) (h.1 r), fun r hr => by
    have hr : (G (F r).1 (F r).2).2 ≠ [] := hr
    have h1 : (F r).2 ≠ [] := fun e => by
      have := (hg (F r).1).1 (F r).2
      rw [e] at this hr
      exact hr (List.length_eq_zero_iff.1 (by simpa using this))
    obtain ⟨u, e1, f1⟩ := h.2 r h1
    obtain ⟨u2, e2, f2⟩ := (hg (F r).1).2 (F r).2 hr
    refine ⟨u ++ u2, by rw [List.append_assoc, ← e2, ← e1], fun w => ?_⟩
    show G (F (u ++ u2 ++ w)).1 (F (u ++ u2 ++ w)).2 = _
    rw [List.append_assoc, f1]
    exact f2 w⟩
theorem Lc.num : Lc fun r => (numV r, r.tail) := Lc.one.map fun n => if 250 ≤ n then 60000 else n
theorem Lc.let : Lc fun r => (letV r, r.tail) := Lc.one.map fun n => UInt8.ofNat (if n < 128 then 97 + n % 4 else n)
theorem Lc.numbers : ∀ k, Lc fun r => (numbersD r k, r.drop k)
  | 0 => Lc.pure []
  | k + 1 => by
    have e : (fun r : List UInt8 => (numbersD r (k + 1), r.drop (k + 1))) = fun r => ((fun l r => (l ++ [numV r], r.tail)) (numbersD r k) (r.drop k)) := by
      funext r
      simp only [numbersD_succ, drop_tail]
    rw [e]
    exact (Lc.numbers k).bind (G := fun l r => (l ++ [numV r], r.tail)) fun l => Lc.num.map fun v => l ++ [v]
theorem Lc.letters : ∀ k, Lc fun r => (lettersD r k, r.drop k)
  | 0 => Lc.pure []
  | k + 1 => by
    have e : (fun r : List UInt8 => (lettersD r (k + 1), r.drop (k + 1))) = fun r => ((fun l r => (l ++ [letV r], r.tail)) (lettersD r k) (r.drop k)) := by
      funext r
      simp only [lettersD_succ, drop_tail]
    rw [e]
    exact (Lc.letters k).bind (G := fun l r => (l ++ [letV r], r.tail)) fun l => Lc.let.map fun v => l ++ [v]
theorem Lc.word : Lc wordD := by
  have e : wordD = fun r => (fun n r => if 248 ≤ n then (List.replicate (32 * (n - 248 + 1)) 120, r) else (lettersD r (n % 8), r.drop (n % 8))) (nx r) r.tail := by
    funext r
    rfl
  rw [e]
  refine Lc.one.bind (G := fun n r => if 248 ≤ n then (List.replicate (32 * (n - 248 + 1)) 120, r) else (lettersD r (n % 8), r.drop (n % 8))) fun n => ?_
  by_cases h : 248 ≤ n
  · simp only [h, if_true]; exact Lc.pure _
  · simp only [h, if_false]; exact Lc.letters _
theorem Lc.arm (k : Nat) : Lc (armD k) := by
  by_cases h : k / 20 % 2 = 1
  · have e : armD k = fun r => (1 + nx r, r.tail) := by funext r; unfold armD; rw [if_pos h]
    rw [e]; exact Lc.one.map fun n => 1 + n
  · have e : armD k = fun r => (0, r) := by funext r; unfold armD; rw [if_neg h]
    rw [e]; exact Lc.pure _
theorem Lc.more (kd : Nat) : Lc fun r => (((moreD kd r).1, (moreD kd r).2.1, (moreD kd r).2.2.1), (moreD kd r).2.2.2) := by
  by_cases h : weighs kd = true
  · have e : (fun r => (((moreD kd r).1, (moreD kd r).2.1, (moreD kd r).2.2.1), (moreD kd r).2.2.2)) = fun r => ((if nx r = 255 then 4294967295 else nx r, 0, 0), r.tail) := by
      funext r; unfold moreD; rw [if_pos h]
    rw [e]; exact Lc.one.map fun n => (if n = 255 then 4294967295 else n, 0, 0)
  · by_cases h7 : kd = 7
    · have e : (fun r => (((moreD kd r).1, (moreD kd r).2.1, (moreD kd r).2.2.1), (moreD kd r).2.2.2)) = fun r => ((0, ((nx r % 6 : Nat) : Int) - ((1 : Nat) : Int), ((nx r / 6 % 12 : Nat) : Int) - ((1 : Nat) : Int)), r.tail) := by
        funext r; unfold moreD; rw [if_neg h, if_pos h7]
      rw [e]; exact Lc.one.map fun n => (0, ((n % 6 : Nat) : Int) - ((1 : Nat) : Int), ((n / 6 % 12 : Nat) : Int) - ((1 : Nat) : Int))
    · have e : (fun r => (((moreD kd r).1, (moreD kd r).2.1, (moreD kd r).2.2.1), (moreD kd r).2.2.2)) = fun r => ((0, 0, 0), r) := by
        funext r; unfold moreD; rw [if_neg h, if_neg h7]
      rw [e]; exact Lc.pure _
theorem Lc.opening : Lc fun r => (openV r, openRest r) := by
  have e : (fun r => (openV r, openRest r)) = fun r => (fun a r => (fun b r => ((1 + a, numbersD r (b % 4)), r.drop (b % 4))) (nx r) r.tail) (nx r) r.tail := by
    funext r
    unfold openV openRest
    rw [show r.drop 2 = r.tail.tail by cases r with
      | nil => rfl
      | cons a r => cases r <;> rfl]
  rw [e]
  exact Lc.one.bind (G := fun a r => (fun b r' => ((1 + a, numbersD r' (b % 4)), r'.drop (b % 4))) (nx r) r.tail) fun a => Lc.one.bind (G := fun b r => ((1 + a, numbersD r (b % 4)), r.drop (b % 4))) fun b => (Lc.numbers (b % 4)).map fun l => (1 + a, l)
theorem Lc.opens : ∀ k, Lc fun r => (opensL r k, opensRest r k)
  | 0 => Lc.pure []
  | k + 1 => by
    have e : (fun r : List UInt8 => (opensL r (k + 1), opensRest r (k + 1))) = fun r => ((fun l r => (l ++ [openV r], openRest r)) (opensL r k) (opensRest r k)) := by
      funext r
      simp only [opensL, List.range_succ, List.map_append, List.map_cons, List.map_nil, opensRest]
    rw [e]
    exact (Lc.opens k).bind (G := fun l r => (l ++ [openV r], openRest r)) fun l => Lc.opening.map fun v => l ++ [v]
theorem Lc.stop (c : Bool) : Lc fun r => (((stopD c r).1, (stopD c r).2.1), (stopD c r).2.2) := by
  cases c with
  | false =>
    have e : (fun r => (((stopD false r).1, (stopD false r).2.1), (stopD false r).2.2)) = fun r => (([], []), r) := rfl
    rw [e]; exact Lc.pure _
  | true =>
    have e : (fun r => (((stopD true r).1, (stopD true r).2.1), (stopD true r).2.2)) = fun r => (fun n r => (fun l r => ((l, opensL r (n / 6 % 4)), opensRest r (n / 6 % 4))) (numbersD r (n % 6)) (r.drop (n % 6))) (nx r) r.tail := rfl
    rw [e]
    exact Lc.one.bind (G := fun n r => (fun l r => ((l, opensL r (n / 6 % 4)), opensRest r (n / 6 % 4))) (numbersD r (n % 6)) (r.drop (n % 6))) fun n =>
      (Lc.numbers (n % 6)).bind (G := fun l r => ((l, opensL r (n / 6 % 4)), opensRest r (n / 6 % 4))) fun l => (Lc.opens (n / 6 % 4)).map fun m => (l, m)
def actK4 (k a : Nat) (w : List UInt8) (m : Nat × Int × Int) (r : List UInt8) : ActD × List UInt8 := (⟨k % 10, w, m.1, m.2.1, m.2.2, a, cutD k, (stopD (cutD k || decide (0 < a)) r).1, (stopD (cutD k || decide (0 < a)) r).2.1⟩, (stopD (cutD k || decide (0 < a)) r).2.2)
def actK3 (k a : Nat) (w : List UInt8) (r : List UInt8) : ActD × List UInt8 := actK4 k a w ((moreD (k % 10) r).1, (moreD (k % 10) r).2.1, (moreD (k % 10) r).2.2.1) (moreD (k % 10) r).2.2.2
def actK2 (k a : Nat) (r : List UInt8) : ActD × List UInt8 := actK3 k a (wordD r).1 (wordD r).2
def actK1 (k : Nat) (r : List UInt8) : ActD × List UInt8 := actK2 k (armD k r).1 (armD k r).2
theorem Lc.act : Lc actD := by
  have e : actD = fun r => actK1 (nx r) r.tail := rfl
  rw [e]
  refine Lc.one.bind (G := actK1) fun k => ?_
  refine (Lc.arm k).bind (G := actK2 k) fun a => ?_
  refine Lc.word.bind (G := actK3 k a) fun w => ?_
  refine (Lc.more (k % 10)).bind (G := actK4 k a w) fun m => ?_
  exact (Lc.stop (cutD k || decide (0 < a))).map fun s => (⟨k % 10, w, m.1, m.2.1, m.2.2, a, cutD k, s.1, s.2⟩ : ActD)
/-! ### The setting of bytes -/
def setD (b : List UInt8) : SetG := ⟨((1 + nx b : Nat) : Int), ((2 + nx b.tail % 8 : Nat) : Int), ((nx b.tail.tail + 256 * nx b.tail.tail.tail : Nat) : Int), (actsD 60 (restD b)).1.map ActD.toG⟩
def leftD (b : List UInt8) : List UInt8 := (actsD 60 (restD b)).2
theorem leftD_len (b : List UInt8) : (leftD b).length ≤ b.length := by
  have h := actsD_rest 60 (restD b)
  unfold restD at h
  simp only [List.length_tail] at h
  unfold leftD restD
  omega
theorem ActsR.toG {P : Nat → Prop} {A : Mem} {ds : List ActD} {x : Value} (h : ActsR P A ds x) (hl : ds.length ≤ 1000) (hok : ∀ d ∈ ds, ActOk d) : ActsG A (ds.map ActD.toG) x := by
  obtain ⟨ls, b, -, h2, h3, h4⟩ := h
  refine ⟨ls, b, SlcM.toRow (by omega) h2, by rw [h3, List.length_map], by rw [List.length_map]; exact hl, fun i d l hd hl => ?_⟩
  rw [List.getElem?_map] at hd
  cases hq : ds[i]? with
  | none => rw [hq] at hd; cases hd
  | some d0 =>
    rw [hq] at hd
    cases hd
    have ho := hok d0 (List.mem_of_getElem? hq)
    have h1 := ho.stays
    have h5 := ho.opening
    exact ActR.toG (h4 i d0 l hq hl) (by omega) (by omega) (fun o ho' => by have := (ho.each o ho').2.2; omega)
theorem setD_len (b : List UInt8) : (setD b).acts.length ≤ 60 := by
  show ((actsD 60 (restD b)).1.map ActD.toG).length ≤ 60
  rw [List.length_map]; exact actsD_len 60 _
variable {q : Nat}
theorem RdS.first {A : Mem} {l : List UInt8} {x : Value} (h : RdS q A l x) : lenF x = .ok l.length ∧ firstF A.get 1 l.length x = .ok (byts l) := by
  rcases h with ⟨_, ⟨rfl, rfl⟩ | ⟨off, cp, rfl, -, -, h⟩⟩
  · exact ⟨rfl, rfl⟩
  · refine ⟨rfl, ?_⟩
    show elemsF A.get 1 l.length (some ⟨q, off, none⟩) = _
    unfold elemsF
    simp only [Nat.mul_one]
    cases hn : Nat.beq l.length 0 with
    | true =>
      have : l = [] := List.length_eq_zero_iff.1 (Nat.eq_of_beq_eq_true hn)
      subst this; rfl
    | false =>
      rcases h with rfl | ⟨t, kd, fz, c, h1, h2⟩
      · cases hn
      · have hg : c.gets l.length off = some (byts l) := gets_eq _ _ _ _ (byts_len l) fun j hj => by
          rw [h2 j hj, byts_get (getB_some hj)]
        simp only [cond_false, h1, hg]
theorem byts_app (l m : List UInt8) : byts (l ++ m) = byts l ++ byts m := by simp [byts]
theorem byts_one (l : List UInt8) : ∀ v ∈ byts l, oneCell v = true := fun v hv => by
  obtain ⟨c, -, rfl⟩ := List.mem_map.1 hv
  rfl
/-- Bytes are appended to a slice of bytes. -/
theorem app_byts {A : Mem} {b : Nat} {l m : List UInt8} {x y : Value} (h : Slc A 5 b (byts l) x) (hy : RdS q A m y) (hl : l.length + m.length ≤ 16777216) :
    ∃ x' A' b', appendF tb1 A 22 22 x y = .ok (x', A') ∧ Slc A' 5 b' (byts (l ++ m)) x' ∧ A.next ≤ A'.next ∧ (b' = b ∨ A.next ≤ b') ∧ ∀ y, (y = b → x = .slice none 0 0) → y < A.next → A'.get y = A.get y := by
  obtain ⟨i, hi, hib⟩ := ty5
  obtain ⟨e1, e2⟩ := hy.first
  rw [byts_app]
  exact h.appends (st := 22) (xt := 22) (e := 5) (m := m.length) und22 und22 rfl zc5 hi (by omega) (by omega) (by rw [byts_len]; exact hl) e1 e2 (byts_len m) (byts_one m)
theorem sameV_int (d : Nat) (k : IntKind) (n : Int) : sameV (d + 1) (.int k n) (.int k n) = true := by
  rw [sameV]
  simp only [ieqF_iff]
  cases k <;> simp [kindEq]
theorem SetR.self {A : Mem} {s : SetG} {l : List Value} (h : SetR A s l) : sameV 100 (.agg ⟨l⟩) (.agg ⟨l⟩) = true := by
  obtain ⟨xa, rfl, ls, b, h1, -⟩ := h
  show sameV (98 + 2) _ _ = true
  rw [sameV]
  simp [cellsS, sameV_int, h1.self]
end Go.Proofs.Ytmhldlnlgjpkaaa.scr

/-
  Script: what was read is laid again as the same bytes (a plain law).
-/
namespace Go.Proofs.Ytmhldlnlgjpkaaa.scr
open Go.Am
set_option linter.unusedSimpArgs false
set_option linter.unusedVariables false

/-- What F reads is laid by E: as many bytes, and it is read as the same; o: how many may lack behind the end; z: how many bytes are laid for nothing. -/
structure Rg {α : Type} (F : List UInt8 → α × List UInt8) (E : α → List UInt8) (o z : Nat) : Prop where
  rest : ∀ r, (F r).2 = r.drop (E (F r).1).length
  back : ∀ r w, F (E (F r).1 ++ w) = ((F r).1, w)
  over : ∀ r, r ≠ [] → (E (F r).1).length ≤ r.length + o
  none : (E (F []).1).length ≤ z
theorem Rg.mono {α : Type} {F : List UInt8 → α × List UInt8} {E : α → List UInt8} {o z o' z' : Nat} (h : Rg F E o z) (ho : o ≤ o') (hz : z ≤ z') : Rg F E o' z' :=
  ⟨h.rest, h.back, fun r hr => Nat.le_trans (h.over r hr) (by omega), Nat.le_trans h.none hz⟩
theorem Rg.pure {α : Type} (a : α) {E : α → List UInt8} (he : E a = []) : Rg (fun r => (a, r)) E 0 0 :=
  ⟨fun r => by simp [he], fun r w => by simp [he], fun r _ => by simp [he], by simp [he]⟩
theorem nx_ofNat {n : Nat} (h : n < 256) (w : List UInt8) : nx (UInt8.ofNat n :: w) = n := by
  show (UInt8.ofNat n).toNat = n
  rw [UInt8.toNat_ofNat']; omega
theorem Rg.one {β : Type} (f : Nat → β) (E : β → Nat) (h : ∀ n, n < 256 → E (f n) < 256 ∧ f (E (f n)) = f n) : Rg (fun r => (f (nx r), r.tail)) (fun b => [UInt8.ofNat (E b)]) 0 1 :=
  ⟨fun r => by simp, fun r w => by
    obtain ⟨h1, h2⟩ := h (nx r) (nx_lt r)
    show (f (nx (UInt8.ofNat (E (f (nx r))) :: w)), w) = _
    rw [nx_ofNat h1, h2], fun r hr => by
    have := Nat.pos_of_ne_zero fun e => hr (List.length_eq_zero_iff.1 e)
    simp only [List.length_singleton]; omega, by simp⟩
theorem Rg.bind {α β : Type} {F : List UInt8 → α × List UInt8} {G : α → List UInt8 → β × List UInt8} {E : α → List UInt8} {E2 : α → β → List UInt8} {oF zF oG zm : Nat} {zG : α → Nat}
    (h : Rg F E oF zF) (hg : ∀ a, Rg (G a) (E2 a) oG (zG a)) (hz : ∀ a, zG a ≤ zm) :
    Rg (fun r => (((F r).1, (G (F r).1 (F r).2).1), (G (F r).1 (F r).2).2)) (fun p => E p.1 ++ E2 p.1 p.2) (max oG (oF + zm)) (zF + zG (F []).1) where
  rest r := by
    show (G (F r).1 (F r).2).2 = _
    rw [(hg (F r).1).rest, List.length_append, ← List.drop_drop, ← h.rest]
  back r w := by
    have e1 := h.back r (E2 (F r).1 (G (F r).1 (F r).2).1 ++ w)
    have e2 := (hg (F r).1).back (F r).2 w
    show (((F (E (F r).1 ++ E2 (F r).1 (G (F r).1 (F r).2).1 ++ w)).1, _), _) = _
    rw [List.append_assoc]
    simp only [e1, e2]
  over r hr := by
    have h1 := h.over r hr
    have h2 := h.rest r
    show (E (F r).1 ++ E2 (F r).1 (G (F r).1 (F r).2).1).length ≤ _
    rw [List.length_append]
    by_cases hq : (F r).2 = []
    · rw [hq]
      have h3 := (hg (F r).1).none
      have h4 := hz (F r).1
      omega
    · have h3 := (hg (F r).1).over (F r).2 hq
      have h4 := congrArg List.length h2
      rw [List.length_drop] at h4
      have h5 : (F r).2.length ≠ 0 := fun e => hq (List.length_eq_zero_iff.1 e)
      omega
  none := by
    have h1 := h.none
    have h2 := h.rest []
    rw [List.drop_nil] at h2
    show (E (F []).1 ++ E2 (F []).1 (G (F []).1 (F []).2).1).length ≤ _
    rw [List.length_append, h2]
    have h3 := (hg (F []).1).none
    omega
theorem Rg.map {α β : Type} {F : List UInt8 → α × List UInt8} {E : α → List UInt8} {o z : Nat} (h : Rg F E o z) (f : α → β) (E' : β → List UInt8) (he : ∀ r, E' (f (F r).1) = E (F r).1) :
    Rg (fun r => (f (F r).1, (F r).2)) E' o z where
  rest r := by
    show (F r).2 = _
    rw [he, h.rest]
  back r w := by
    show (f (F (E' (f (F r).1) ++ w)).1, (F (E' (f (F r).1) ++ w)).2) = _
    rw [he, h.back]
  over r hr := by
    show (E' (f (F r).1)).length ≤ _
    rw [he]; exact h.over r hr
  none := by
    show (E' (f (F []).1)).length ≤ _
    rw [he]; exact h.none
theorem nx_drop (r : List UInt8) (i : Nat) : nx (r.drop i) = (r.getD i 0).toNat := by
  by_cases h : i < r.length
  · rw [List.drop_eq_getElem_cons h]
    simp [nx, List.getD, List.getElem?_eq_getElem h]
  · rw [List.drop_eq_nil_of_le (by omega)]
    simp [nx, List.getD, List.getElem?_eq_none (by omega : r.length ≤ i)]
theorem Rg.many {β : Type} (f : Nat → β) (E : β → Nat) (h : ∀ n, n < 256 → E (f n) < 256 ∧ f (E (f n)) = f n) (k : Nat) :
    Rg (fun r => ((List.range k).map fun i => f (nx (r.drop i)), r.drop k)) (fun l => l.map fun b => UInt8.ofNat (E b)) k k where
  rest r := by simp
  back r w := by
    have hl : (((List.range k).map fun i => f (nx (r.drop i))).map fun b => UInt8.ofNat (E b)).length = k := by simp
    refine Prod.ext ?_ ?_
    · show (List.range k).map (fun i => f (nx (List.drop i (_ ++ w)))) = (List.range k).map fun i => f (nx (r.drop i))
      refine List.map_congr_left fun i hi => ?_
      have hi' : i < k := List.mem_range.1 hi
      obtain ⟨h1, h2⟩ := h (nx (r.drop i)) (nx_lt _)
      rw [nx_drop (_ ++ w) i]
      have e : (((((List.range k).map fun i => f (nx (r.drop i))).map fun b => UInt8.ofNat (E b)) ++ w).getD i 0).toNat = E (f (nx (r.drop i))) := by
        rw [List.getD, List.getElem?_append_left (by rw [hl]; exact hi')]
        simp only [List.getElem?_map, List.getElem?_range hi', Option.map_some, Option.getD_some]
        rw [UInt8.toNat_ofNat']; omega
      rw [e, h2]
    · show List.drop k (_ ++ w) = w
      rw [List.drop_append_of_le_length (by rw [hl]; exact Nat.le_refl _), List.drop_eq_nil_of_le (by rw [hl]; exact Nat.le_refl _), List.nil_append]
  over r _ := by simp
  none := by simp

/-! ### The parts of an act -/
def encN (v : Nat) : Nat := if v = 60000 then 250 else v
def encC (c : UInt8) : Nat := if c.toNat < 128 then c.toNat - 97 else c.toNat
def encNs (l : List Nat) : List UInt8 := l.map fun v => UInt8.ofNat (encN v)
def encCs (l : List UInt8) : List UInt8 := l.map fun c => UInt8.ofNat (encC c)
def encW (w : List UInt8) : List UInt8 :=
  if 0 < w.length / 32 ∧ w.length / 32 ≤ 8 ∧ w = List.replicate (32 * (w.length / 32)) 120 then [UInt8.ofNat (247 + w.length / 32)] else UInt8.ofNat w.length :: encCs w
def encO (d : Nat × List Nat) : List UInt8 := UInt8.ofNat (d.1 - 1) :: UInt8.ofNat d.2.length :: encNs d.2
def encOs : List (Nat × List Nat) → List UInt8
  | [] => []
  | d :: l => encO d ++ encOs l
theorem encOs_app (l m : List (Nat × List Nat)) : encOs (l ++ m) = encOs l ++ encOs m := by
  induction l with
  | nil => rfl
  | cons d l ih => simp only [List.cons_append, encOs, ih, List.append_assoc]
def encM (kd : Nat) (m : Nat × Int × Int) : List UInt8 :=
  if weighs kd = true then [UInt8.ofNat (if m.1 = 4294967295 then 255 else m.1)] else if kd = 7 then [UInt8.ofNat ((m.2.1 + 1) + 6 * (m.2.2 + 1)).toNat] else []
def encS (c : Bool) (s : List Nat × List (Nat × List Nat)) : List UInt8 :=
  if c = true then UInt8.ofNat (s.1.length + 6 * s.2.length) :: (encNs s.1 ++ encOs s.2) else []
def encR (a : Nat) : List UInt8 := if a = 0 then [] else [UInt8.ofNat (a - 1)]
def encA (d : ActD) : List UInt8 :=
  UInt8.ofNat (d.kind + (if d.cut = true then 10 else 0) + (if d.arm = 0 then 0 else 20)) :: (encR d.arm ++ (encW d.word ++ (encM d.kind (d.weight, d.k, d.n) ++ encS (d.cut || decide (0 < d.arm)) (d.stays, d.opening))))

theorem num_ok : ∀ n, n < 256 → encN (if 250 ≤ n then 60000 else n) < 256 ∧ (if 250 ≤ encN (if 250 ≤ n then 60000 else n) then 60000 else encN (if 250 ≤ n then 60000 else n)) = if 250 ≤ n then 60000 else n := by
  intro n hn
  unfold encN
  by_cases h : 250 ≤ n
  · simp [h]
  · have h2 : n ≠ 60000 := by omega
    simp only [h, h2, if_false]; exact ⟨hn, trivial⟩
theorem let_ok : ∀ n, n < 256 → encC (UInt8.ofNat (if n < 128 then 97 + n % 4 else n)) < 256 ∧ UInt8.ofNat (if encC (UInt8.ofNat (if n < 128 then 97 + n % 4 else n)) < 128 then 97 + encC (UInt8.ofNat (if n < 128 then 97 + n % 4 else n)) % 4 else encC (UInt8.ofNat (if n < 128 then 97 + n % 4 else n))) = UInt8.ofNat (if n < 128 then 97 + n % 4 else n) := by
  intro n hn
  by_cases h : n < 128
  · have e : (UInt8.ofNat (97 + n % 4)).toNat = 97 + n % 4 := by rw [UInt8.toNat_ofNat']; omega
    have e2 : encC (UInt8.ofNat (97 + n % 4)) = n % 4 := by
      unfold encC; rw [e, if_pos (by omega)]; omega
    simp only [h, if_true, e2]
    rw [if_pos (by omega)]
    exact ⟨by omega, by rw [Nat.mod_mod]⟩
  · have e : (UInt8.ofNat n).toNat = n := by rw [UInt8.toNat_ofNat']; omega
    have e2 : encC (UInt8.ofNat n) = n := by
      unfold encC; rw [e, if_neg h]
    simp only [h, if_false, e2]
    exact ⟨hn, trivial⟩
theorem Rg.numbers (k : Nat) : Rg (fun r => (numbersD r k, r.drop k)) encNs k k := Rg.many (fun n => if 250 ≤ n then 60000 else n) encN num_ok k
theorem Rg.letters (k : Nat) : Rg (fun r => (lettersD r k, r.drop k)) encCs k k := Rg.many (fun n => UInt8.ofNat (if n < 128 then 97 + n % 4 else n)) encC let_ok k
theorem Rg.word : Rg wordD encW 7 1 := by
  have h1 : Rg (fun r => ((fun n => if 248 ≤ n then n else n % 8) (nx r), r.tail)) (fun n => [UInt8.ofNat n]) 0 1 := Rg.one (fun n => if 248 ≤ n then n else n % 8) (fun n => n) fun n hn => by
    by_cases h : 248 ≤ n
    · simp only [h, if_true]; exact ⟨hn, trivial⟩
    · simp only [h, if_false]
      exact ⟨by omega, by rw [if_neg (by omega), Nat.mod_mod]⟩
  have h2 : ∀ n, Rg (fun r => if 248 ≤ n then (([] : List UInt8), r) else (lettersD r (n % 8), r.drop (n % 8))) encCs 7 (if 248 ≤ n then 0 else n % 8) := fun n => by
    by_cases h : 248 ≤ n
    · simp only [h, if_true]; exact (Rg.pure [] rfl).mono (by omega) (by omega)
    · simp only [h, if_false]; exact (Rg.letters (n % 8)).mono (by omega) (by omega)
  have h3 := (h1.bind (zm := 7) h2 fun n => by split <;> omega).map (fun p : Nat × List UInt8 => if 248 ≤ p.1 then List.replicate (32 * (p.1 - 248 + 1)) (120 : UInt8) else p.2) encW fun r => by
    have hn := nx_lt r
    by_cases h : 248 ≤ nx r
    · simp only [h, if_true]
      unfold encW
      have e : (32 * (nx r - 248 + 1)) / 32 = nx r - 248 + 1 := by omega
      simp only [List.length_replicate, e]
      rw [if_pos ⟨by omega, by omega, trivial⟩]
      show [UInt8.ofNat (247 + (nx r - 248 + 1))] = [UInt8.ofNat (nx r)] ++ encCs []
      rw [show 247 + (nx r - 248 + 1) = nx r by omega]; rfl
    · have h' : ¬ 248 ≤ nx r % 8 := by omega
      simp only [h, h', if_false, Nat.mod_mod]
      unfold encW
      rw [lettersD_len, if_neg (by omega)]
      rfl
  have e : wordD = fun r => ((fun p : Nat × List UInt8 => if 248 ≤ p.1 then List.replicate (32 * (p.1 - 248 + 1)) (120 : UInt8) else p.2) ((if 248 ≤ nx r then nx r else nx r % 8), (if 248 ≤ (if 248 ≤ nx r then nx r else nx r % 8) then (([] : List UInt8), r.tail) else (lettersD r.tail ((if 248 ≤ nx r then nx r else nx r % 8) % 8), r.tail.drop ((if 248 ≤ nx r then nx r else nx r % 8) % 8))).1), (if 248 ≤ (if 248 ≤ nx r then nx r else nx r % 8) then (([] : List UInt8), r.tail) else (lettersD r.tail ((if 248 ≤ nx r then nx r else nx r % 8) % 8), r.tail.drop ((if 248 ≤ nx r then nx r else nx r % 8) % 8))).2) := by
    funext r
    unfold wordD
    by_cases h : 248 ≤ nx r
    · simp only [h, if_true]
    · have h' : ¬ 248 ≤ nx r % 8 := by omega
      simp only [h, h', if_false, Nat.mod_mod]
  rw [e]
  exact h3.mono (by omega) (by simp [nx])
theorem Rg.opening : Rg (fun r => (openV r, openRest r)) encO 3 2 := by
  have h1 : Rg (fun r => ((fun n => 1 + n) (nx r), r.tail)) (fun a => [UInt8.ofNat (a - 1)]) 0 1 := Rg.one (fun n => 1 + n) (fun a => a - 1) fun n hn => ⟨by omega, by omega⟩
  have h2 : Rg (fun r => ((fun n => n % 4) (nx r), r.tail)) (fun a => [UInt8.ofNat a]) 0 1 := Rg.one (fun n => n % 4) (fun a => a) fun n hn => ⟨by omega, by omega⟩
  have h3 := h2.bind (zm := 3) (zG := fun n => n % 4) (oG := 3) (fun n => (Rg.numbers (n % 4)).mono (by omega) (Nat.le_refl _)) (fun n => by omega)
  have h4 := (h1.bind (zm := 1) (zG := fun _ => 1) (oG := 3) (fun _ => h3.mono (by omega) (by simp [nx])) (fun _ => Nat.le_refl _)).map (fun p : Nat × Nat × List Nat => (p.1, p.2.2)) encO fun r => by
    show encO (1 + nx r, numbersD r.tail.tail (nx r.tail % 4 % 4)) = [UInt8.ofNat (1 + nx r - 1)] ++ ([UInt8.ofNat (nx r.tail % 4)] ++ encNs (numbersD r.tail.tail (nx r.tail % 4 % 4)))
    unfold encO
    simp only [numbersD_len, Nat.mod_mod]
    rfl
  have e : (fun r => (openV r, openRest r)) = fun r => ((1 + nx r, numbersD r.tail.tail (nx r.tail % 4 % 4)), r.tail.tail.drop (nx r.tail % 4 % 4)) := by
    funext r
    unfold openV openRest
    rw [drop2, Nat.mod_mod]
  rw [e]
  exact h4.mono (by omega) (by omega)
theorem Rg.opens : ∀ k, Rg (fun r => (opensL r k, opensRest r k)) encOs (3 + 2 * k) (2 * k)
  | 0 => (Rg.pure [] rfl).mono (by omega) (by omega)
  | k + 1 => by
    have h := ((Rg.opens k).bind (zm := 2) (zG := fun _ => 2) (fun _ => Rg.opening) (fun _ => Nat.le_refl _)).map (fun p : List (Nat × List Nat) × (Nat × List Nat) => p.1 ++ [p.2]) encOs fun r => by
      simp only [encOs_app, encOs, List.append_nil]
    have e : (fun r : List UInt8 => (opensL r (k + 1), opensRest r (k + 1))) = fun r => (opensL r k ++ [openV (opensRest r k)], openRest (opensRest r k)) := by
      funext r
      simp only [opensL, List.range_succ, List.map_append, List.map_cons, List.map_nil, opensRest]
    rw [e]
    exact h.mono (by omega) (by omega)
theorem Rg.stop (c : Bool) : Rg (fun r => (((stopD c r).1, (stopD c r).2.1), (stopD c r).2.2)) (encS c) 11 1 := by
  cases c with
  | false =>
    have e : (fun r => (((stopD false r).1, (stopD false r).2.1), (stopD false r).2.2)) = fun r => (([], []), r) := rfl
    rw [e]; exact (Rg.pure _ rfl).mono (by omega) (by omega)
  | true =>
    have h1 : Rg (fun r => ((fun n => n % 24) (nx r), r.tail)) (fun a => [UInt8.ofNat a]) 0 1 := Rg.one (fun n => n % 24) (fun a => a) fun n hn => ⟨by omega, by omega⟩
    have h2 : ∀ m, Rg (fun r => ((numbersD r (m % 6), opensL (r.drop (m % 6)) (m / 6 % 4)), opensRest (r.drop (m % 6)) (m / 6 % 4))) (fun p => encNs p.1 ++ encOs p.2) 11 (m % 6 + 2 * (m / 6 % 4)) := fun m =>
      ((((Rg.numbers (m % 6)).mono (o' := 5) (by omega) (Nat.le_refl _)).bind (zm := 6) (zG := fun _ => 2 * (m / 6 % 4)) (oG := 9) (fun _ => (Rg.opens (m / 6 % 4)).mono (by omega) (Nat.le_refl _)) (fun _ => by omega))).mono (by omega) (Nat.le_refl _)
    have h3 := (h1.bind (zm := 11) h2 (fun m => by omega)).map (fun p : Nat × List Nat × List (Nat × List Nat) => p.2) (encS true) fun r => by
      show encS true (numbersD r.tail (nx r % 24 % 6), opensL (r.tail.drop (nx r % 24 % 6)) (nx r % 24 / 6 % 4)) = [UInt8.ofNat (nx r % 24)] ++ (encNs (numbersD r.tail (nx r % 24 % 6)) ++ encOs (opensL (r.tail.drop (nx r % 24 % 6)) (nx r % 24 / 6 % 4)))
      unfold encS
      simp only [if_true, numbersD_len, opensL_len]
      rw [show nx r % 24 % 6 + 6 * (nx r % 24 / 6 % 4) = nx r % 24 by omega]
      rfl
    have e : (fun r => (((stopD true r).1, (stopD true r).2.1), (stopD true r).2.2)) = fun r => ((numbersD r.tail (nx r % 24 % 6), opensL (r.tail.drop (nx r % 24 % 6)) (nx r % 24 / 6 % 4)), opensRest (r.tail.drop (nx r % 24 % 6)) (nx r % 24 / 6 % 4)) := by
      funext r
      rw [show nx r % 24 % 6 = nx r % 6 by omega, show nx r % 24 / 6 % 4 = nx r / 6 % 4 by omega]
      rfl
    rw [e]
    exact h3.mono (by omega) (by simp [nx])
theorem Rg.arm (k : Nat) : Rg (armD k) encR 0 1 := by
  by_cases h : k / 20 % 2 = 1
  · have e : armD k = fun r => ((fun n => 1 + n) (nx r), r.tail) := by funext r; unfold armD; rw [if_pos h]
    rw [e]
    have h1 : Rg (fun r => ((fun n => 1 + n) (nx r), r.tail)) (fun a => [UInt8.ofNat (a - 1)]) 0 1 := Rg.one (fun n => 1 + n) (fun a => a - 1) fun n hn => ⟨by omega, by omega⟩
    have h2 := h1.map (fun a => a) encR fun r => by
      show encR (1 + nx r) = _
      unfold encR; rw [if_neg (by omega)]
    exact h2
  · have e : armD k = fun r => (0, r) := by funext r; unfold armD; rw [if_neg h]
    rw [e]; exact (Rg.pure _ rfl).mono (by omega) (by omega)
theorem Rg.more (kd : Nat) : Rg (fun r => (((moreD kd r).1, (moreD kd r).2.1, (moreD kd r).2.2.1), (moreD kd r).2.2.2)) (encM kd) 0 1 := by
  by_cases h : weighs kd = true
  · have e : (fun r => (((moreD kd r).1, (moreD kd r).2.1, (moreD kd r).2.2.1), (moreD kd r).2.2.2)) = fun r => ((fun n : Nat => (if n = 255 then 4294967295 else n, (0 : Int), (0 : Int))) (nx r), r.tail) := by
      funext r; unfold moreD; rw [if_pos h]
    rw [e]
    have h1 : Rg (fun r => ((fun n : Nat => if n = 255 then 4294967295 else n) (nx r), r.tail)) (fun a => [UInt8.ofNat (if a = 4294967295 then 255 else a)]) 0 1 := Rg.one (fun n : Nat => if n = 255 then 4294967295 else n) (fun a => if a = 4294967295 then 255 else a) fun n hn => by
      by_cases h : n = 255
      · simp [h]
      · have h2 : n ≠ 4294967295 := by omega
        simp only [h, h2, if_false]; exact ⟨hn, trivial⟩
    exact h1.map (fun a : Nat => (a, (0 : Int), (0 : Int))) (encM kd) fun r => by unfold encM; rw [if_pos h]
  · by_cases h7 : kd = 7
    · have e : (fun r => (((moreD kd r).1, (moreD kd r).2.1, (moreD kd r).2.2.1), (moreD kd r).2.2.2)) = fun r => ((fun n : Nat => (0, ((n % 72 % 6 : Nat) : Int) - ((1 : Nat) : Int), ((n % 72 / 6 % 12 : Nat) : Int) - ((1 : Nat) : Int))) (nx r), r.tail) := by
        funext r; unfold moreD; rw [if_neg h, if_pos h7]
        show ((0, ((nx r % 6 : Nat) : Int) - ((1 : Nat) : Int), ((nx r / 6 % 12 : Nat) : Int) - ((1 : Nat) : Int)), r.tail) = ((0, ((nx r % 72 % 6 : Nat) : Int) - ((1 : Nat) : Int), ((nx r % 72 / 6 % 12 : Nat) : Int) - ((1 : Nat) : Int)), r.tail)
        rw [show nx r % 72 % 6 = nx r % 6 by omega, show nx r % 72 / 6 % 12 = nx r / 6 % 12 by omega]
      rw [e]
      have h1 : Rg (fun r => ((fun n : Nat => n % 72) (nx r), r.tail)) (fun a => [UInt8.ofNat a]) 0 1 := Rg.one (fun n : Nat => n % 72) (fun a => a) fun n hn => ⟨by omega, by omega⟩
      exact h1.map (fun n : Nat => ((0 : Nat), ((n % 6 : Nat) : Int) - ((1 : Nat) : Int), ((n / 6 % 12 : Nat) : Int) - ((1 : Nat) : Int))) (encM kd) fun r => by
        unfold encM; rw [if_neg h, if_pos h7]
        show [UInt8.ofNat ((((nx r % 72 % 6 : Nat) : Int) - ((1 : Nat) : Int) + 1) + 6 * (((nx r % 72 / 6 % 12 : Nat) : Int) - ((1 : Nat) : Int) + 1)).toNat] = [UInt8.ofNat (nx r % 72)]
        rw [show ((((nx r % 72 % 6 : Nat) : Int) - ((1 : Nat) : Int) + 1) + 6 * (((nx r % 72 / 6 % 12 : Nat) : Int) - ((1 : Nat) : Int) + 1)).toNat = nx r % 72 by omega]
    · have e : (fun r => (((moreD kd r).1, (moreD kd r).2.1, (moreD kd r).2.2.1), (moreD kd r).2.2.2)) = fun r => ((0, 0, 0), r) := by
        funext r; unfold moreD; rw [if_neg h, if_neg h7]
      rw [e]; exact (Rg.pure _ (by unfold encM; rw [if_neg h, if_neg h7])).mono (by omega) (by omega)
def encP (p : Nat × Nat × List UInt8 × (Nat × Int × Int) × (List Nat × List (Nat × List Nat))) : List UInt8 :=
  [UInt8.ofNat p.1] ++ (encR p.2.1 ++ (encW p.2.2.1 ++ (encM (p.1 % 10) p.2.2.2.1 ++ encS (cutD p.1 || decide (0 < p.2.1)) p.2.2.2.2)))
theorem Rg.act : Rg actD encA 11 5 := by
  have h1 : Rg (fun r => ((fun n => n % 40) (nx r), r.tail)) (fun a => [UInt8.ofNat a]) 0 1 := Rg.one (fun n => n % 40) (fun a => a) fun n hn => ⟨by omega, by omega⟩
  have h2 : ∀ (k a : Nat), Rg _ (fun p : (Nat × Int × Int) × (List Nat × List (Nat × List Nat)) => encM (k % 10) p.1 ++ encS (cutD k || decide (0 < a)) p.2) 11 2 := fun k a =>
    ((Rg.more (k % 10)).bind (zm := 1) (zG := fun _ => 1) (fun _ => Rg.stop (cutD k || decide (0 < a))) (fun _ => Nat.le_refl _)).mono (by omega) (by omega)
  have h3 : ∀ (k a : Nat), Rg _ (fun p : List UInt8 × (Nat × Int × Int) × (List Nat × List (Nat × List Nat)) => encW p.1 ++ (encM (k % 10) p.2.1 ++ encS (cutD k || decide (0 < a)) p.2.2)) 11 3 := fun k a =>
    (Rg.word.bind (zm := 2) (zG := fun _ => 2) (fun _ => h2 k a) (fun _ => Nat.le_refl _)).mono (by omega) (by omega)
  have h4 : ∀ k : Nat, Rg _ (fun p : Nat × List UInt8 × (Nat × Int × Int) × (List Nat × List (Nat × List Nat)) => encR p.1 ++ (encW p.2.1 ++ (encM (k % 10) p.2.2.1 ++ encS (cutD k || decide (0 < p.1)) p.2.2.2))) 11 4 := fun k =>
    ((Rg.arm k).bind (zm := 3) (zG := fun _ => 3) (fun a => h3 k a) (fun _ => Nat.le_refl _)).mono (by omega) (by omega)
  have h5 : Rg _ encP 11 5 := (h1.bind (zm := 4) (zG := fun _ => 4) (fun k => h4 k) (fun _ => Nat.le_refl _)).mono (by omega) (by omega)
  have h6 := h5.map (fun p => (⟨p.1 % 10, p.2.2.1, p.2.2.2.1.1, p.2.2.2.1.2.1, p.2.2.2.1.2.2, p.2.1, cutD p.1, p.2.2.2.2.1, p.2.2.2.2.2⟩ : ActD)) encA fun r => by
    unfold encA encP
    simp only
    have hk : nx r % 40 % 10 + (if cutD (nx r % 40) = true then 10 else 0) + (if (armD (nx r % 40) r.tail).1 = 0 then 0 else 20) = nx r % 40 := by
      unfold cutD armD
      by_cases ha : nx r % 40 / 20 % 2 = 1
      · rw [if_pos ha]
        by_cases hc : nx r % 40 / 10 % 2 = 1
        · simp [hc]; omega
        · simp [hc]; omega
      · rw [if_neg ha]
        by_cases hc : nx r % 40 / 10 % 2 = 1
        · simp [hc]; omega
        · simp [hc]; omega
    rw [hk]
    rfl
  have e : actD = fun r => ((fun p => (⟨p.1 % 10, p.2.2.1, p.2.2.2.1.1, p.2.2.2.1.2.1, p.2.2.2.1.2.2, p.2.1, cutD p.1, p.2.2.2.2.1, p.2.2.2.2.2⟩ : ActD)) (nx r % 40, (armD (nx r % 40) r.tail).1, (wordD (armD (nx r % 40) r.tail).2).1, ((moreD (nx r % 40 % 10) (wordD (armD (nx r % 40) r.tail).2).2).1, (moreD (nx r % 40 % 10) (wordD (armD (nx r % 40) r.tail).2).2).2.1, (moreD (nx r % 40 % 10) (wordD (armD (nx r % 40) r.tail).2).2).2.2.1),
      ((stopD (cutD (nx r % 40) || decide (0 < (armD (nx r % 40) r.tail).1)) (moreD (nx r % 40 % 10) (wordD (armD (nx r % 40) r.tail).2).2).2.2.2).1, (stopD (cutD (nx r % 40) || decide (0 < (armD (nx r % 40) r.tail).1)) (moreD (nx r % 40 % 10) (wordD (armD (nx r % 40) r.tail).2).2).2.2.2).2.1)),
      (stopD (cutD (nx r % 40) || decide (0 < (armD (nx r % 40) r.tail).1)) (moreD (nx r % 40 % 10) (wordD (armD (nx r % 40) r.tail).2).2).2.2.2).2.2) := by
    funext r
    have e1 : nx r % 40 % 10 = nx r % 10 := by omega
    have e2 : cutD (nx r % 40) = cutD (nx r) := by
      unfold cutD; rw [show nx r % 40 / 10 % 2 = nx r / 10 % 2 by omega]
    have e3 : ∀ s, armD (nx r % 40) s = armD (nx r) s := fun s => by
      unfold armD; rw [show nx r % 40 / 20 % 2 = nx r / 20 % 2 by omega]
    simp only [e1, e2, e3]
    rfl
  rw [e]
  exact h6

/-! ### All acts -/
def encAs : List ActD → List UInt8
  | [] => []
  | d :: l => encA d ++ encAs l
theorem encA_pos (d : ActD) : encA d ≠ [] := by unfold encA; simp
theorem actsD_rg : ∀ n r, (actsD n r).2 = r.drop (encAs (actsD n r).1).length ∧ actsD n (encAs (actsD n r).1) = ((actsD n r).1, []) ∧ (encAs (actsD n r).1).length ≤ r.length + 11
  | 0, r => ⟨rfl, rfl, by simp [actsD, encAs]⟩
  | n + 1, r => by
    by_cases hr : r.length = 0
    · rw [actsD_nil _ hr]
      exact ⟨rfl, rfl, by simp [encAs]⟩
    · have hr' : r ≠ [] := fun e => hr (by rw [e]; rfl)
      obtain ⟨i1, i2, i3⟩ := actsD_rg n (actD r).2
      have h1 := Rg.act.rest r
      have h2 := Rg.act.back r (encAs (actsD n (actD r).2).1)
      have h3 := Rg.act.over r hr'
      rw [actsD_step n hr]
      simp only [encAs]
      refine ⟨?_, ?_, ?_⟩
      · rw [i1, h1, List.drop_drop, List.length_append, ← h1]
      · have hne : (encA (actD r).1 ++ encAs (actsD n (actD r).2).1).length ≠ 0 := fun e => encA_pos (actD r).1 (List.append_eq_nil_iff.1 (List.length_eq_zero_iff.1 e)).1
        rw [actsD_step n hne, h2]
        simp only [i2]
      · rw [List.length_append]
        by_cases hq : (actD r).2 = []
        · rw [hq, actsD_nil n rfl]
          simp only [encAs, List.length_nil]
          omega
        · have h4 := congrArg List.length h1
          rw [List.length_drop] at h4
          have h5 : (actD r).2.length ≠ 0 := fun e => hq (List.length_eq_zero_iff.1 e)
          omega

/-- What a setting's bytes are laid as. -/
def encB (b : List UInt8) : List UInt8 :=
  UInt8.ofNat (nx b) :: UInt8.ofNat (nx b.tail % 8) :: UInt8.ofNat (nx b.tail.tail) :: UInt8.ofNat (nx b.tail.tail.tail) :: encAs (actsD 60 (restD b)).1
theorem encB_set (b : List UInt8) : setD (encB b) = setD b ∧ leftD (encB b) = [] ∧ (encB b).length ≤ max 4 (b.length - (leftD b).length) + 16 := by
  obtain ⟨h1, h2, h3⟩ := actsD_rg 60 (restD b)
  have n0 := nx_lt b
  have n1 := nx_lt b.tail
  have n2 := nx_lt b.tail.tail
  have n3 := nx_lt b.tail.tail.tail
  have hr : restD (encB b) = encAs (actsD 60 (restD b)).1 := rfl
  refine ⟨?_, ?_, ?_⟩
  · unfold setD
    rw [hr, h2]
    show (⟨((1 + (UInt8.ofNat (nx b)).toNat : Nat) : Int), ((2 + (UInt8.ofNat (nx b.tail % 8)).toNat % 8 : Nat) : Int), (((UInt8.ofNat (nx b.tail.tail)).toNat + 256 * (UInt8.ofNat (nx b.tail.tail.tail)).toNat : Nat) : Int), _⟩ : SetG) = _
    rw [UInt8.toNat_ofNat', UInt8.toNat_ofNat', UInt8.toNat_ofNat', UInt8.toNat_ofNat', show nx b % 2 ^ 8 = nx b by omega, show nx b.tail % 8 % 2 ^ 8 % 8 = nx b.tail % 8 by omega, show nx b.tail.tail % 2 ^ 8 = nx b.tail.tail by omega, show nx b.tail.tail.tail % 2 ^ 8 = nx b.tail.tail.tail by omega]
  · unfold leftD
    rw [hr, h2]
  · have hl : (encB b).length = 4 + (encAs (actsD 60 (restD b)).1).length := by unfold encB; simp only [List.length_cons]; omega
    have hrl : (restD b).length = b.length - 4 := by unfold restD; simp only [List.length_tail]; omega
    have h4 := congrArg List.length h1
    rw [List.length_drop] at h4
    have h5 : (leftD b).length = (restD b).length - (encAs (actsD 60 (restD b)).1).length := h4
    rw [hl]
    by_cases hq : (encAs (actsD 60 (restD b)).1).length ≤ (restD b).length
    · omega
    · have h6 : (restD b).length = 0 → (encAs (actsD 60 (restD b)).1).length = 0 := fun e => by rw [actsD_nil 60 e]; rfl
      omega
end Go.Proofs.Ytmhldlnlgjpkaaa.scr

/-
  Script: the writer.
-/
namespace Go.Proofs.Ytmhldlnlgjpkaaa.scr
open Go.Am
set_option linter.unusedSimpArgs false
set_option linter.unusedVariables false
set_option maxRecDepth 20000

/-- A writer that is not bad, at 'bw'; its bytes lie at 'b'. -/
def WrM (bw b : Nat) (bs : List UInt8) (C : Mem) : Prop :=
  ∃ x, Vals C 85 bw (.var 2) [x, .bool false] ∧ Slc C 5 b (byts bs) x ∧ (x = .slice none 0 0 ∨ b ≠ bw) ∧ bw < C.next ∧ b < C.next
/-- What it leaves. -/
structure Wk (bw b : Nat) (C : Mem) (b' : Nat) (C' : Mem) : Prop where
  n : C.next ≤ C'.next
  o : b' = b ∨ C.next ≤ b'
  g : ∀ y, y < C.next → y ≠ bw → y ≠ b → C'.get y = C.get y
theorem Wk.refl (bw b : Nat) (C : Mem) : Wk bw b C b C := ⟨Nat.le_refl _, .inl rfl, fun _ _ _ _ => rfl⟩
theorem Wk.trans {bw b b' b'' : Nat} {C C' C'' : Mem} (h : Wk bw b C b' C') (h' : Wk bw b' C' b'' C'') : Wk bw b C b'' C'' :=
  ⟨Nat.le_trans h.n h'.n, by have := h.o; have := h'.o; have := h.n; omega, fun y h1 h2 h3 => (h'.g y (Nat.lt_of_lt_of_le h1 h.n) h2 (by have := h.o; omega)).trans (h.g y h1 h2 h3)⟩
theorem Wk.ext {bw b : Nat} {C C' : Mem} (h : Ext C C') : Wk bw b C b C' := ⟨h.n, .inl rfl, fun y h1 _ _ => h.g y h1⟩
theorem WrM.ext {bw b : Nat} {bs : List UInt8} {C C' : Mem} (h : WrM bw b bs C) (e : Ext C C') : WrM bw b bs C' := by
  obtain ⟨x, h1, h2, h3, h4, h5⟩ := h
  exact ⟨x, h1.same (e.g _ h4), h2.same e.n (fun hb => e.g _ hb), h3, Nat.lt_of_lt_of_le h4 e.n, Nat.lt_of_lt_of_le h5 e.n⟩
theorem fa85_0 (b : Nat) : fieldAddrF tb1 85 (.pointer (some ⟨b, 0, none⟩)) 0 = .ok (.pointer (some ⟨b, 0, none⟩)) := by kernel_rfl
theorem fa85_1 (b : Nat) : fieldAddrF tb1 85 (.pointer (some ⟨b, 0, none⟩)) 1 = .ok (.pointer (some ⟨b, 1, none⟩)) := by kernel_rfl
theorem und127 : tb1.und 127 = some (.slice 3) := by kernel_rfl
theorem bs127 (a : Int) : buildSliceF tb1 127 1 [(0, .int .i64 a)] = .ok (rowOb 3 [.int .i64 a], .slc 1 2) := by kernel_rfl
theorem bs22_2 (a b : Int) : buildSliceF tb1 22 2 [(0, .int .u8 a), (1, .int .u8 b)] = .ok (rowOb 5 [.int .u8 a, .int .u8 b], .slc 2 4) := by kernel_rfl
theorem u8_nat {n : Nat} (h : n < 256) : (UInt8.ofNat n).toNat = n := by rw [UInt8.toNat_ofNat']; omega
/-- Some bytes are appended, by hand. -/
theorem wr_apps {bw b : Nat} {bs cs : List UInt8} {C : Mem} (h : WrM bw b bs C) (hl : bs.length ≤ 1000000) (hcs : cs.length ≤ 1000) :
    ∃ x x' C2 C3 b', loadF tb1 C.get 22 (.pointer (some ⟨bw, 0, none⟩)) = .ok x ∧ loadF tb1 (C.alloc (rowOb 5 (byts cs))).get 22 (.pointer (some ⟨bw, 0, none⟩)) = .ok x ∧ appendF tb1 (C.alloc (rowOb 5 (byts cs))) 22 22 x (.slice (some ⟨C.next, 0, none⟩) cs.length (2 * cs.length)) = .ok (x', C2) ∧ storeF tb1 C2 22 (.pointer (some ⟨bw, 0, none⟩)) x' = .ok C3 ∧ WrM bw b' (bs ++ cs) C3 ∧ Wk bw b C b' C3 ∧ sameV 100 x x = true := by
  obtain ⟨x, h1, h2, h3, h4, h5⟩ := h
  have hE := Ext.alloc C (rowOb 5 (byts cs))
  have hn1 : (C.alloc (rowOb 5 (byts cs))).next = C.next + 1 := next_alloc _ _
  obtain ⟨i, hi, hib⟩ := ty5
  have hv : Vals (C.alloc (rowOb 5 (byts cs))) 5 C.next (.var (byts cs).length) (byts cs) := Go.Am.vals_new C 5 _
  have hfirst : firstF (C.alloc (rowOb 5 (byts cs))).get 1 cs.length (.slice (some ⟨C.next, 0, none⟩) cs.length (2 * cs.length)) = .ok (byts cs) := by
    have := elemsF_vals hv
    rwa [byts_len] at this
  obtain ⟨x', C2, b0, ha, hs0, hn2, hb0, hf2⟩ := (h2.same hE.n (fun hb => hE.g _ hb)).appends (tb := tb1) (st := 22) (xt := 22) (m := cs.length) (nl := byts cs) und22 und22 rfl zc5 hi (by omega) (by omega) (by rw [byts_len]; omega) rfl hfirst (byts_len cs) (byts_one cs)
  obtain ⟨b', hs2, hb2, hlt2⟩ : ∃ b', Slc C2 5 b' (byts bs ++ byts cs) x' ∧ (b' = b ∨ C.next ≤ b') ∧ b' < C2.next := by
    rcases hs0 with ⟨hx, hl0⟩ | ⟨k, c, hx, hlt, hv0⟩
    · exact ⟨b, .inl ⟨hx, hl0⟩, .inl rfl, by omega⟩
    · exact ⟨b0, .inr ⟨k, c, hx, hlt, hv0⟩, by rcases hb0 with rfl | hb0; exact .inl rfl; exact .inr (by omega), hlt⟩
  have hbw2 : C2.get bw = C.get bw := by
    rw [hf2 bw (fun e => ?_) (by omega), hE.g bw h4]
    rcases h3 with h3 | h3
    · exact h3
    · exact absurd e.symm h3
  obtain ⟨C3, hst, hv3, hn3, hf3⟩ := store_vals (tb := tb1) (t := 22) (o := 0) (v := x') size22 (h1.same hbw2) (by simp) hs2.cells hs2.one
  have hbb : x' = .slice none 0 0 ∨ b' ≠ bw := by
    rcases hb2 with rfl | hb2
    · rcases h3 with h3 | h3
      · by_cases e : b' = bw
        · left
          rcases hs2 with ⟨hx, _⟩ | ⟨k, c, hx, hlt, hvals, _⟩
          · exact hx
          · exfalso
            subst e
            obtain ⟨cs1, e1, _⟩ := hvals
            obtain ⟨cs2, e2, _⟩ := h1
            rw [hbw2, e2] at e1
            cases e1
        · exact .inr e
      · exact .inr h3
    · exact .inr (by omega)
  refine ⟨x, x', C2, C3, b', load_vals und22 rfl h1 rfl, load_vals und22 rfl (h1.same (hE.g _ h4)) rfl, ha, hst, ⟨x', hv3, ?_, hbb, by omega, by omega⟩, ⟨by omega, by omega, fun y hy hyw hyb => ?_⟩, ?_⟩
  · rw [byts_app]
    rcases hbb with hx | hb
    · rw [hx] at hs2 ⊢
      rcases hs2 with hs2 | ⟨k, c, hs2, _⟩
      · exact .inl hs2
      · cases hs2
    · exact hs2.same (by omega) (fun _ => hf3 _ hb)
  · rw [hf3 y hyw, hf2 y (fun e => absurd e hyb) (by omega), hE.g y hy]
  · rcases h2 with ⟨rfl, _⟩ | ⟨k, c, rfl, _⟩
    · rfl
    · exact sameV_slc _ _ _ _

/-- One byte. -/
theorem wr_app {bw b n : Nat} {bs : List UInt8} {C : Mem} (h : WrM bw b bs C) (hl : bs.length ≤ 1000000) (hn : n < 256) :
    ∃ x x' C2 C3 b', loadF tb1 C.get 22 (.pointer (some ⟨bw, 0, none⟩)) = .ok x ∧ loadF tb1 (C.alloc (rowOb 5 [.int .u8 (n : Int)])).get 22 (.pointer (some ⟨bw, 0, none⟩)) = .ok x ∧ appendF tb1 (C.alloc (rowOb 5 [.int .u8 (n : Int)])) 22 22 x (.slice (some ⟨C.next, 0, none⟩) 1 2) = .ok (x', C2) ∧ storeF tb1 C2 22 (.pointer (some ⟨bw, 0, none⟩)) x' = .ok C3 ∧ WrM bw b' (bs ++ [UInt8.ofNat n]) C3 ∧ Wk bw b C b' C3 ∧ sameV 100 x x = true := by
  have hby : byts [UInt8.ofNat n] = [.int .u8 (n : Int)] := by
    show [Value.int .u8 (((UInt8.ofNat n).toNat : Nat) : Int)] = _
    rw [u8_nat hn]
  have h := wr_apps (cs := [UInt8.ofNat n]) h hl (by simp)
  rw [hby] at h
  exact h

noncomputable def c51 : Code := Try.f51.body.getD .skip
theorem c51_eq : Try.f51.body = some c51 := by kernel_rfl
theorem run_must {bw b : Nat} {bs : List UInt8} {C : Mem} (h : WrM bw b bs C) : ∃ C', Ans tb1 51 [.pointer (some ⟨bw, 0, none⟩), .bool true] C (.tuple ⟨[]⟩) C' ∧ WrM bw b bs C' ∧ Wk bw b C b C' := by
  obtain ⟨x, h1, h2, h3, h4, h5⟩ := h
  obtain ⟨v, A', ha, rfl, hw, hk⟩ : ∃ v A', Ans tb1 51 [.pointer (some ⟨bw, 0, none⟩), .bool true] C v A' ∧ v = .tuple ⟨[]⟩ ∧ WrM bw b bs A' ∧ Wk bw b C b A' := by
    refine ans_of_W (fn_at Try.func51) c51_eq (by rw [Try.ntmps51]; simp) (by kernel_rfl) (by kernel_rfl) ?_
    have l1 : loadF tb1 C.get 4 (.pointer (some ⟨bw, 1, none⟩)) = .ok (.bool false) := load_vals und4 rfl h1 rfl
    obtain ⟨C3, hst, hv3, hn3, hf3⟩ := store_vals (tb := tb1) (t := 4) (o := 1) (v := .bool false) size4 h1 (by simp) rfl rfl
    apply W.run 20
    · intro M
      simp (config := { maxSteps := 4000000 }) (disch := first | decide +kernel | (rw [wantF_guard]; simp only [wantD_some, dstAt_zero, dstAt_succ, T.get_set, T.get_e, Nat.reduceEqDiff, if_true, if_false, wantV_bool, wantV_unit, unitV, cond_true, cond_false, Bool.not_true, Bool.not_false, List.toList_toArray]) | omega) only [c51, Try.f51, Option.getD_some, T.puts_cons, Nat.reduceAdd, T.puts_nil, exec_region, runOps_cons, opF_move, ev_tmp, T.get_set, Nat.reduceEqDiff, T.get_e, if_true, if_false, evG_some, putT_some, opF_nilCheck, opF_fieldAddr, opF_load, R.ok_bind, nil_ptr, fa85_1, l1, runOps_yes, opF_un, opF_pick, pickF, ev_bool, opF_store, putT_none, runOps_nil, un_not, Bool.not_true, hst]
      with_reducible rfl
    refine ⟨.inl rfl, C3, [], rfl, rfl, rfl, ⟨x, hv3, ?_, h3, by omega, by omega⟩, ⟨by omega, .inl rfl, fun y _ hy _ => hf3 y hy⟩⟩
    rcases h3 with rfl | h3
    · rcases h2 with h2 | ⟨k, c, h2, _⟩
      · exact .inl h2
      · cases h2
    · exact h2.same (by omega) (fun _ => hf3 _ h3)
  exact ⟨A', ha, hw, hk⟩

noncomputable def c52 : Code := Try.f52.body.getD .skip
noncomputable def c52b1 : Code := sub c52 [1,0,0]
theorem c52_eq : Try.f52.body = some (.seq (sub c52 [0]) (.block 0 (.loop c52b1))) := by kernel_rfl
theorem c52b1_eq : c52b1 = .seq (sub c52b1 [0]) (.seq (sub c52b1 [1,0]) (.seq (.block 1 (.seq (sub c52b1 [1,1,0,0,0]) (.seq (sub c52b1 [1,1,0,0,1,0]) (sub c52b1 [1,1,0,0,1,1])))) (sub c52b1 [1,1,1]))) := by kernel_rfl
set_option maxHeartbeats 4000000 in
theorem run_put {bw b b2 most n : Nat} {bs : List UInt8} {C : Mem} (h : WrM bw b bs C) (hl : bs.length ≤ 1000000) (hm : n ≤ most) (hn : n < 256) (h2 : C.get b2 = some (rowOb 3 [.int .i64 (n : Int)])) (hb2 : b2 < C.next) (hbw : b2 ≠ bw) (hbb : b2 ≠ b) :
    ∃ b' C', Ans tb1 52 [.pointer (some ⟨bw, 0, none⟩), .int .i64 (most : Int), .slice (some ⟨b2, 0, none⟩) 1 2] C (.tuple ⟨[]⟩) C' ∧ WrM bw b' (bs ++ [UInt8.ofNat n]) C' ∧ Wk bw b C b' C' := by
  obtain ⟨v, A', ha, b', rfl, hw, hk⟩ : ∃ v A', Ans tb1 52 [.pointer (some ⟨bw, 0, none⟩), .int .i64 (most : Int), .slice (some ⟨b2, 0, none⟩) 1 2] C v A' ∧ ∃ b', v = .tuple ⟨[]⟩ ∧ WrM bw b' (bs ++ [UInt8.ofNat n]) A' ∧ Wk bw b C b' A' := by
    refine ans_of_W (fn_at Try.func52) c52_eq (by rw [Try.ntmps52]; simp) (by kernel_rfl) (by kernel_rfl) ?_
    have hS : Slc C 3 b2 [.int .i64 (n : Int)] (.slice (some ⟨b2, 0, none⟩) 1 2) := .inr ⟨.var 1, 2, rfl, hb2, vals_puts h2, .inl rfl⟩
    have hlen := hS.len (tb := tb1) (t := 127) und127
    have hix := hS.idx (tb := tb1) (t := 127) (kd := .i64) (i := 0) und127 size3 (by simp)
    have hld := hS.load (tb := tb1) (t := 3) (o := 0) (v := .int .i64 (n : Int)) und3 rfl rfl
    apply W.seq
    apply W.run 20
    · intro M
      simp (config := { maxSteps := 4000000 }) (disch := first | decide +kernel | omega) only [c52, Try.f52, Option.getD_some, sub_seq0, sub_nil, T.puts_cons, Nat.reduceAdd, T.puts_nil, exec_region, runOps_cons, opF_move, ev_tmp, T.get_set, Nat.reduceEqDiff, T.get_e, if_false, if_true, evG_some, putT_some, opF_len, evs, R.ok_bind, ev_int, runOps_nil, hlen, List.length_cons, List.length_nil]
      with_reducible rfl
    apply W.block
    refine W.up 1 (fun i t D => ∃ b', WrM bw b' (bs ++ ([UInt8.ofNat n].take i)) D ∧ Wk bw b C b' D ∧ (i = 0 → D = C ∧ b' = b) ∧ Sl t [(0, .pointer (some ⟨bw, 0, none⟩)), (1, .int .i64 (most : Int)), (8, .slice (some ⟨b2, 0, none⟩) 1 2), (9, .int .i64 ((1 : Nat) : Int)), (10, .int .i64 (i : Int))]) ?_ (Nat.zero_le _) ⟨b, by rw [List.take_zero, List.append_nil]; exact h, Wk.refl _ _ _, fun _ => ⟨rfl, rfl⟩, ?_⟩
    · rintro i t D hi ⟨b', hwD, hkD, h0, g0, g1, g8, g9, g10, -⟩
      by_cases hlt : i < 1
      · obtain rfl : i = 0 := by omega
        obtain ⟨rfl, rfl⟩ := h0 rfl
        have hm' : ¬ most < n := by omega
        obtain ⟨x, k1, k2, k3, k4, k5⟩ := h
        have l1 : loadF tb1 D.get 4 (.pointer (some ⟨bw, 1, none⟩)) = .ok (.bool false) := load_vals und4 rfl k1 rfl
        obtain ⟨E, hst, hvE, hnE, hfE⟩ := store_vals (tb := tb1) (t := 4) (o := 1) (v := .bool false) size4 k1 (by simp) rfl rfl
        have hwE : WrM bw b' bs E := ⟨x, hvE, by
          rcases k3 with rfl | k3
          · rcases k2 with k2 | ⟨k, c, k2, _⟩
            · exact .inl k2
            · cases k2
          · exact k2.same (by omega) (fun _ => hfE _ k3), k3, by omega, by omega⟩
        obtain ⟨y, y', C2, C3, b3, e1, e2, e3, e4, e5, e6, -⟩ := wr_app hwE hl hn
        have hmod : n % 256 = n := by omega
        rw [c52b1_eq]
        apply W.seq
        apply W.run 20
        · intro M
          simp (config := { maxSteps := 4000000 }) (disch := first | decide +kernel | omega) only [c52b1, c52, Try.f52, Option.getD_some, sub_seq1, sub_block, sub_loop, sub_nil, sub_seq0, exec_region, runOps_cons, opF_ari, ev_tmp, g10, evG_some, g9, putT_some, runOps_nil, R.ok_bind, binF_int, op_lssI, cast_lt, hlt, decide_true]
          with_reducible rfl
        apply W.seq
        apply W.run 20
        · intro M
          simp (config := { maxSteps := 4000000 }) (disch := first | decide +kernel | omega) only [c52b1, c52, Try.f52, Option.getD_some, sub_seq1, sub_block, sub_loop, sub_nil, sub_seq0, exec_cond, ev_tmp, T.get_set, if_true, evG_some, exec_skip, exec_exit, R.ok_bind]
          with_reducible rfl
        apply W.seq
        apply W.block
        apply W.seq
        apply W.run 20
        · intro M
          simp (config := { maxSteps := 4000000 }) (disch := first | decide +kernel | omega) only [c52b1, c52, Try.f52, Option.getD_some, sub_seq1, sub_block, sub_loop, sub_nil, sub_seq0, exec_region, runOps_cons, opF_indexAddr, ev_tmp, T.get_set, Nat.reduceEqDiff, g8, if_false, evG_some, g10, putT_some, opF_load, if_true, opF_assign, runOps_nil, R.ok_bind, hix, hld]
          with_reducible rfl
        apply W.seq
        apply W.run 20
        · intro M
          simp (config := { maxSteps := 4000000 }) (disch := first | decide +kernel | (rw [wantF_guard]; simp only [wantD_some, dstAt_zero, dstAt_succ, T.get_set, T.get_e, Nat.reduceEqDiff, if_true, if_false, wantV_bool, wantV_unit, unitV, cond_true, cond_false, Bool.not_true, Bool.not_false, List.toList_toArray]) | omega) only [c52b1, c52, Try.f52, Option.getD_some, sub_seq1, sub_block, sub_loop, sub_nil, sub_seq0, exec_region, runOps_cons, opF_move, ev_tmp, T.get_set, Nat.reduceEqDiff, g0, if_false, evG_some, putT_some, opF_nilCheck, if_true, opF_fieldAddr, opF_load, R.ok_bind, nil_ptr, fa85_1, l1, runOps_yes, opF_ari, ev_int, opF_pick, pickF, ev_bool, binF_int, op_lssI, cast_lt, Nat.not_lt_zero, decide_false, g1, opF_store, putT_none, runOps_nil, op_gtr, hm', hst]
          with_reducible rfl
        apply W.run 20
        · intro M
          simp (config := { maxSteps := 4000000 }) (disch := first | decide +kernel | omega) only [c52b1, c52, Try.f52, Option.getD_some, sub_seq1, sub_block, sub_loop, sub_nil, sub_seq0, exec_region, runOps_cons, opF_move, ev_tmp, T.get_set, Nat.reduceEqDiff, g0, if_false, evG_some, putT_some, opF_nilCheck, if_true, opF_fieldAddr, opF_load, opF_conv, convPF, und3, und5, opF_buildSlice, evp, R.ok_bind, opF_builtin, evs, opF_store, putT_none, runOps_nil, builtin_append, wrapF_u8, hmod, bs22, at_slc, nil_ptr, fa85_0, e1, e3, e4]
          with_reducible rfl
        show W tb1 _ _ _
        apply W.run 20
        · intro M
          simp (config := { maxSteps := 4000000 }) (disch := first | decide +kernel | omega) only [c52b1, c52, Try.f52, Option.getD_some, sub_seq1, sub_block, sub_loop, sub_nil, exec_region, runOps_cons, opF_ari, ev_tmp, T.get_set, Nat.reduceEqDiff, g10, if_false, evG_some, ev_int, putT_some, opF_move, if_true, runOps_nil, R.ok_bind, binF_int, op_add_i64, Nat.reduceAdd]
          with_reducible rfl
        refine ⟨hlt, _, _, rfl, b3, e5, ?_, fun h => by omega, ?_⟩
        · refine Wk.trans (b' := b') ⟨by omega, .inl rfl, fun y _ hy _ => hfE y hy⟩ e6
        · simp only [Sl_cons, Sl_nil, T.get_set, T.puts_cons, T.puts_nil, Nat.reduceEqDiff, Nat.reduceAdd, if_true, if_false, and_true, true_and, g0, g1, g8, g9]
      · obtain rfl : i = 1 := by omega
        apply W.run 20
        · intro M
          simp (config := { maxSteps := 4000000 }) (disch := first | decide +kernel | omega) only [c52b1, c52, Try.f52, Option.getD_some, sub_seq1, sub_block, sub_loop, sub_nil, exec_seq, exec_region, runOps_cons, opF_ari, ev_tmp, g10, evG_some, g9, putT_some, runOps_nil, R.ok_bind, binF_int, op_lssI, cast_lt, Nat.lt_irrefl, decide_false, exec_cond, exec_skip, exec_exit, exec_block, opF_indexAddr, opF_move, ev_int, T.get_set, if_true]
          with_reducible rfl
        exact ⟨.inl rfl, _, [], rfl, rfl, b', rfl, hwD, hkD⟩
    · simp only [Sl_cons, Sl_nil, T.get_set, T.puts_cons, T.puts_nil, Nat.reduceEqDiff, Nat.reduceAdd, if_true, if_false, and_true, true_and]
  exact ⟨b', A', ha, hw, hk⟩
end Go.Proofs.Ytmhldlnlgjpkaaa.scr

/-
  Script: numbers and words are written.
-/
namespace Go.Proofs.Ytmhldlnlgjpkaaa.scr
open Go.Am
set_option linter.unusedSimpArgs false
set_option linter.unusedVariables false
set_option maxRecDepth 20000

/-- Blocks that are not the writer's. -/
def Nb (bw b : Nat) : Nat → Prop := fun y => y ≠ bw ∧ y ≠ b
theorem Wk.keep {bw b b' : Nat} {C C' : Mem} (h : Wk bw b C b' C') : ∀ y, Nb bw b y → y < C.next → Nb bw b' y ∧ C'.get y = C.get y :=
  fun y hy hl => ⟨⟨hy.1, by have := h.o; have := hy.2; omega⟩, h.g y hl hy.1 hy.2⟩
theorem WrM.lt {bw b : Nat} {bs : List UInt8} {C : Mem} (h : WrM bw b bs C) : bw < C.next ∧ b < C.next := by
  obtain ⟨_, _, _, _, h⟩ := h
  exact h
/-- One number is put; its row is laid first. -/
theorem put_one {bw b most n : Nat} {bs : List UInt8} {C : Mem} (h : WrM bw b bs C) (hl : bs.length ≤ 1000000) (hm : n ≤ most) (hn : n < 256) :
    ∃ b' C', Ans tb1 52 [.pointer (some ⟨bw, 0, none⟩), .int .i64 (most : Int), .slice (some ⟨C.next, 0, none⟩) 1 2] (C.alloc (rowOb 3 [.int .i64 (n : Int)])) (.tuple ⟨[]⟩) C' ∧ WrM bw b' (bs ++ [UInt8.ofNat n]) C' ∧ Wk bw b C b' C' := by
  have hE := Ext.alloc C (rowOb 3 [.int .i64 (n : Int)])
  obtain ⟨h1, h2⟩ := h.lt
  obtain ⟨b', C', e1, e2, e3⟩ := run_put (h.ext hE) hl hm hn (get_alloc_self C _) (by rw [next_alloc]; omega) (by omega) (by omega)
  exact ⟨b', C', e1, e2, (Wk.ext hE).trans e3⟩
def NumOk (v : Nat) : Prop := v < 250 ∨ v = 60000
noncomputable def c65 : Code := Try.f65.body.getD .skip
noncomputable def c65b1 : Code := sub c65 [1,0,0]
theorem c65_eq : Try.f65.body = some (.seq (sub c65 [0]) (.block 0 (.loop c65b1))) := by kernel_rfl
theorem encNs_snoc {l : List Nat} {i : Nat} (h : i < l.length) : encNs (l.take (i + 1)) = encNs (l.take i) ++ [UInt8.ofNat (encN (l.getD i 0))] := by
  rw [List.take_succ_eq_append_getElem h]
  simp only [encNs, List.map_append, List.map_cons, List.map_nil, List.getD, List.getElem?_eq_getElem h, Option.getD_some]
theorem getD_mem {α : Type} {l : List α} {i : Nat} {d : α} (h : i < l.length) : l.getD i d ∈ l := by
  rw [List.getD, List.getElem?_eq_getElem h]; exact List.getElem_mem h
set_option maxHeartbeats 4000000 in
theorem run_nums {bw b : Nat} {bs : List UInt8} {C : Mem} {l : List Nat} {x : Value} (h : WrM bw b bs C) (hl : bs.length + l.length ≤ 1000000) (hx : StR (Nb bw b) C l x) (hok : ∀ v ∈ l, NumOk v) :
    ∃ b' C', Ans tb1 65 [.pointer (some ⟨bw, 0, none⟩), x] C (.tuple ⟨[]⟩) C' ∧ WrM bw b' (bs ++ encNs l) C' ∧ Wk bw b C b' C' := by
  obtain ⟨v, A', ha, b', rfl, hw, hk⟩ : ∃ v A', Ans tb1 65 [.pointer (some ⟨bw, 0, none⟩), x] C v A' ∧ ∃ b', v = .tuple ⟨[]⟩ ∧ WrM bw b' (bs ++ encNs l) A' ∧ Wk bw b C b' A' := by
    refine ans_of_W (fn_at Try.func65) c65_eq (by rw [Try.ntmps65]; simp) (by kernel_rfl) (by kernel_rfl) ?_
    have lx := hx.len
    apply W.seq
    apply W.run 20
    · intro M
      simp (config := { maxSteps := 4000000 }) (disch := first | decide +kernel | omega) only [c65, Try.f65, Option.getD_some, sub_seq0, sub_nil, T.puts_cons, Nat.reduceAdd, T.puts_nil, exec_region, runOps_cons, opF_move, ev_tmp, T.get_set, Nat.reduceEqDiff, T.get_e, if_false, if_true, evG_some, putT_some, opF_len, evs, R.ok_bind, ev_int, runOps_nil, lx]
      with_reducible rfl
    apply W.block
    refine W.up l.length (fun i t D => ∃ b', WrM bw b' (bs ++ encNs (l.take i)) D ∧ Wk bw b C b' D ∧ Sl t [(0, .pointer (some ⟨bw, 0, none⟩)), (6, x), (7, .int .i64 ((l.length : Nat) : Int)), (8, .int .i64 (i : Int))]) ?_ (Nat.zero_le _) ⟨b, by simpa [encNs] using h, Wk.refl _ _ _, ?_⟩
    · rintro i t D hi ⟨b', hwD, hkD, g0, g6, g7, g8, -⟩
      by_cases hlt : i < l.length
      · have hxD : StR (Nb bw b') D l x := hx.same hkD.n hkD.keep
        obtain ⟨p, hp, hpl⟩ := hxD.at hlt
        have hv := hok _ (getD_mem (d := 0) hlt)
        have hsn := encNs_snoc hlt
        have hll : (bs ++ encNs (l.take i)).length ≤ 1000000 := by
          simp only [encNs, List.length_append, List.length_map, List.length_take]; omega
        generalize l.getD i 0 = v at hpl hv hsn
        by_cases h6 : v = 60000
        · subst h6
          obtain ⟨b3, D2, ⟨g, hg⟩, hw2, hk2⟩ := put_one (most := 250) (n := 250) hwD hll (by omega) (by omega)
          apply W.runG (g) 20
          · intro M hM
            simp (config := { maxSteps := 4000000 }) (disch := first | decide +kernel | omega) only [c65b1, c65, Try.f65, Option.getD_some, sub_seq1, sub_block, sub_loop, sub_nil, exec_seq, exec_region, runOps_cons, opF_ari, ev_tmp, g8, evG_some, g7, und3, putT_some, runOps_nil, R.ok_bind, binF_int, op_lssI, cast_lt, hlt, decide_true, exec_cond, exec_skip, exec_exit, exec_block, opF_indexAddr, opF_move, opF_assign, ev_int, T.get_set, if_true, Nat.reduceEqDiff, g6, if_false, opF_load, hp, hpl, opF_eql, und43, op_eql, g0, opF_call, evs, resK, opF_conv, convPF, opF_buildSlice, evp, wrapF_i64, bs127, at_slc, hg, op_add_i64]
            with_reducible rfl
          refine ⟨hlt, _, _, rfl, b3, ?_, hkD.trans hk2, ?_⟩
          · rw [hsn, ← List.append_assoc]
            have e : encN 60000 = 250 := rfl
            rw [e]; exact hw2
          · simp only [Sl_cons, Sl_nil, T.get_set, T.puts_cons, T.puts_nil, Nat.reduceEqDiff, Nat.reduceAdd, if_true, if_false, and_true, true_and, g0, g6, g7]
        · have hv2 : v < 250 := hv.resolve_right h6
          obtain ⟨D1, ⟨g1, hg1⟩, hw1, hk1⟩ := run_must hwD
          obtain ⟨b3, D2, ⟨g2, hg2⟩, hw2, hk2⟩ := put_one (most := 250) (n := v) hw1 hll (by omega) (by omega)
          apply W.runG ((g1+g2)) 20
          · intro M hM
            simp (config := { maxSteps := 4000000 }) (disch := first | decide +kernel | omega) only [c65b1, c65, Try.f65, Option.getD_some, sub_seq1, sub_block, sub_loop, sub_nil, exec_seq, exec_region, runOps_cons, opF_ari, ev_tmp, g8, evG_some, g7, und3, putT_some, runOps_nil, R.ok_bind, binF_int, op_lssI, cast_lt, hlt, decide_true, exec_cond, exec_skip, exec_exit, exec_block, opF_indexAddr, opF_move, opF_assign, ev_int, T.get_set, if_true, Nat.reduceEqDiff, g6, if_false, opF_load, hp, hpl, opF_eql, und43, op_eql, h6, decide_false, g0, opF_call, evs, resK, hv2, hg1, opF_conv, convPF, opF_buildSlice, evp, wrapF_i64, bs127, at_slc, hg2, op_add_i64]
            with_reducible rfl
          refine ⟨hlt, _, _, rfl, b3, ?_, (hkD.trans hk1).trans hk2, ?_⟩
          · rw [hsn, ← List.append_assoc]
            have e : encN v = v := by unfold encN; rw [if_neg h6]
            rw [e]; exact hw2
          · simp only [Sl_cons, Sl_nil, T.get_set, T.puts_cons, T.puts_nil, Nat.reduceEqDiff, Nat.reduceAdd, if_true, if_false, and_true, true_and, g0, g6, g7]
      · have hin : i = l.length := by omega
        subst hin
        rw [List.take_length] at hwD
        apply W.run 20
        · intro M
          simp (config := { maxSteps := 4000000 }) (disch := first | decide +kernel | omega) only [c65b1, c65, Try.f65, Option.getD_some, sub_seq1, sub_block, sub_loop, sub_nil, exec_seq, exec_region, runOps_cons, opF_ari, ev_tmp, g8, evG_some, g7, putT_some, runOps_nil, R.ok_bind, binF_int, op_lssI, cast_lt, Nat.lt_irrefl, decide_false, exec_cond, exec_skip, exec_exit, exec_block, opF_indexAddr, opF_move, opF_assign, ev_int, T.get_set, if_true]
          with_reducible rfl
        exact ⟨.inl rfl, _, [], rfl, rfl, b', rfl, hwD, hkD⟩
    · simp only [Sl_cons, Sl_nil, T.get_set, T.puts_cons, T.puts_nil, Nat.reduceEqDiff, Nat.reduceAdd, if_true, if_false, and_true, true_and]
  exact ⟨b', A', ha, hw, hk⟩

/-! ### A word -/
def WordOk (w : List UInt8) : Prop := (0 < w.length / 32 ∧ w.length / 32 ≤ 8 ∧ w = List.replicate (32 * (w.length / 32)) 120) ∨ (w.length < 8 ∧ ∀ c ∈ w, 128 ≤ c.toNat ∨ (97 ≤ c.toNat ∧ c.toNat < 101))
noncomputable def c64 : Code := Try.f64.body.getD .skip
noncomputable def c64b1 : Code := sub c64 [1,1,1,0,0]
theorem c64_eq : Try.f64.body = some (.seq (.seq (sub c64 [0,0]) (.seq (sub c64 [0,1,0]) (sub c64 [0,1,1]))) (.seq (sub c64 [1,0]) (.seq (sub c64 [1,1,0]) (.block 0 (.loop c64b1))))) := by kernel_rfl
theorem encCs_snoc {l : List UInt8} {i : Nat} (h : i < l.length) : encCs (l.take (i + 1)) = encCs (l.take i) ++ [UInt8.ofNat (encC (l.getD i 0))] := by
  rw [List.take_succ_eq_append_getElem h]
  simp only [encCs, List.map_append, List.map_cons, List.map_nil, List.getD, List.getElem?_eq_getElem h, Option.getD_some]
set_option maxHeartbeats 4000000 in
theorem run_wword {bw b : Nat} {bs w : List UInt8} {C : Mem} (h : WrM bw b bs C) (hl : bs.length ≤ 900000) (hok : WordOk w) :
    ∃ b' C', Ans tb1 64 [.pointer (some ⟨bw, 0, none⟩), strOf w] C (.tuple ⟨[]⟩) C' ∧ WrM bw b' (bs ++ encW w) C' ∧ Wk bw b C b' C' := by
  obtain ⟨v, A', ha, b', rfl, hw, hk⟩ : ∃ v A', Ans tb1 64 [.pointer (some ⟨bw, 0, none⟩), strOf w] C v A' ∧ ∃ b', v = .tuple ⟨[]⟩ ∧ WrM bw b' (bs ++ encW w) A' ∧ Wk bw b C b' A' := by
    refine ans_of_W (fn_at Try.func64) c64_eq (by rw [Try.ntmps64]; simp) (by kernel_rfl) (by kernel_rfl) ?_
    apply W.seq
    apply W.seq
    have hwl : w.length ≤ 256 := by
      rcases hok with ⟨h1, h2, h3⟩ | ⟨h1, -⟩
      · have := congrArg List.length h3
        rw [List.length_replicate] at this; omega
      · omega
    apply W.run 20
    · intro M
      simp (config := { maxSteps := 4000000 }) (disch := first | decide +kernel | omega) only [c64, Try.f64, Option.getD_some, sub_seq0, sub_nil, T.puts_cons, Nat.reduceAdd, T.puts_nil, exec_region, runOps_cons, opF_move, ev_tmp, T.get_set, Nat.reduceEqDiff, T.get_e, if_false, if_true, evG_some, putT_some, opF_len, evs, R.ok_bind, opF_ari, ev_int, opF_assign, runOps_nil, len_str und9, binF_int, op_quo_i64]
      with_reducible rfl
    by_cases hlong : 0 < w.length / 32
    · obtain ⟨h1, h2, h3⟩ := hok.resolve_right (fun h => by omega)
      have hen : encW w = [UInt8.ofNat (247 + w.length / 32)] := by unfold encW; rw [if_pos ⟨h1, h2, h3⟩]
      obtain ⟨b3, D2, ⟨g, hg⟩, hw2, hk2⟩ := put_one (most := 255) (n := 247 + w.length / 32) h (by omega) (by omega) (by omega)
      rw [hen]
      have hk20 := fun A ih => k20 (ih := ih) (A := A) (n := 32 * (w.length / 32)) (by omega) (by omega) (by omega)
      have hadd : w.length / 32 + 247 = 247 + w.length / 32 := by omega
      generalize hq : w.length / 32 = q at *
      apply W.seq
      apply W.run 20
      · intro M
        simp (config := { maxSteps := 4000000 }) (disch := first | decide +kernel | (rw [wantF_guard]; simp only [wantD_some, dstAt_zero, dstAt_succ, T.get_set, T.get_e, Nat.reduceEqDiff, if_true, if_false, wantV_bool, wantV_unit, unitV, cond_true, cond_false, Bool.not_true, Bool.not_false, List.toList_toArray]) | omega) only [c64, Try.f64, Option.getD_some, sub_seq0, sub_seq1, sub_nil, exec_region, runOps_cons, opF_move, ev_tmp, T.get_set, Nat.reduceEqDiff, T.get_e, if_false, if_true, evG_some, putT_some, opF_ari, ev_int, R.ok_bind, binF_int, op_gtr, cast_lt, h1, decide_true, runOps_yes, opF_pick, pickF, ev_bool, op_leq, cast_le, h2, opF_call, evs, ev_str, resK, opF_eql, runOps_nil, op_mul_i64, hk20, ← h3, binF_str, str_eql]
        with_reducible rfl
      apply W.runG (g) 20
      · intro M hM
        simp (config := { maxSteps := 4000000 }) (disch := first | decide +kernel | omega) only [c64, Try.f64, Option.getD_some, sub_seq0, sub_seq1, sub_nil, exec_cond, ev_tmp, T.get_set, Nat.reduceEqDiff, T.get_e, if_false, if_true, evG_some, exec_seq, exec_region, runOps_cons, opF_move, putT_some, opF_ari, ev_int, opF_buildSlice, evp, R.ok_bind, opF_call, evs, resK, runOps_nil, binF_int, op_add_i64, bs127, at_slc, hg, exec_ret, exec_skip]
        with_reducible rfl
      exact ⟨.inr rfl, _, [], rfl, rfl, b3, rfl, hw2, hk2⟩
    · obtain ⟨h1, h2⟩ := hok.resolve_left (fun h => hlong h.1)
      have hen : encW w = UInt8.ofNat w.length :: encCs w := by unfold encW; rw [if_neg (fun h => hlong h.1)]
      rw [hen]
      apply W.seq
      apply W.run 20
      · intro M
        simp (config := { maxSteps := 4000000 }) (disch := first | decide +kernel | (rw [wantF_guard]; simp only [wantD_some, dstAt_zero, dstAt_succ, T.get_set, T.get_e, Nat.reduceEqDiff, if_true, if_false, wantV_bool, wantV_unit, unitV, cond_true, cond_false, Bool.not_true, Bool.not_false, List.toList_toArray]) | omega) only [c64, Try.f64, Option.getD_some, sub_seq0, sub_seq1, sub_nil, exec_region, runOps_cons, opF_move, ev_tmp, T.get_set, Nat.reduceEqDiff, T.get_e, if_false, if_true, evG_some, putT_some, opF_ari, ev_int, R.ok_bind, binF_int, op_gtr, cast_lt, hlong, decide_false, runOps_no, opF_pick, pickF, ev_bool, runOps_nil]
        with_reducible rfl
      apply W.run 20
      · intro M
        simp (config := { maxSteps := 4000000 }) (disch := first | decide +kernel | omega) only [c64, Try.f64, Option.getD_some, sub_seq0, sub_seq1, sub_nil, exec_cond, ev_tmp, T.get_set, Nat.reduceEqDiff, T.get_e, if_false, if_true, evG_some, exec_seq, exec_region, runOps_cons, opF_move, putT_some, opF_ari, ev_int, opF_buildSlice, evp, R.ok_bind, opF_call, evs, resK, runOps_nil, binF_int, op_add_i64, exec_ret, exec_skip]
        with_reducible rfl
      show W tb1 _ _ _
      apply W.seq
      obtain ⟨b1, D1, ⟨g1, hg1⟩, hw1, hk1⟩ := put_one (most := 7) (n := w.length) h (by omega) (by omega) (by omega)
      apply W.runG (g1) 20
      · intro M hM
        simp (config := { maxSteps := 4000000 }) (disch := first | decide +kernel | omega) only [c64, Try.f64, Option.getD_some, sub_seq1, sub_seq0, sub_nil, exec_region, runOps_cons, opF_move, ev_tmp, T.get_set, Nat.reduceEqDiff, T.get_e, if_true, if_false, evG_some, putT_some, opF_len, evs, R.ok_bind, opF_buildSlice, evp, opF_call, ev_int, resK, runOps_nil, len_str und9, bs127, at_slc, hg1]
        with_reducible rfl
      apply W.seq
      apply W.run 20
      · intro M
        simp (config := { maxSteps := 4000000 }) (disch := first | decide +kernel | omega) only [c64, Try.f64, Option.getD_some, sub_seq1, sub_seq0, sub_nil, exec_region, runOps_cons, opF_move, ev_tmp, T.get_set, Nat.reduceEqDiff, T.get_e, if_false, if_true, evG_some, putT_some, opF_convBytes _ _ _ _ _ _ _ _ _ _ und9 und22, opF_len, evs, R.ok_bind, ev_int, runOps_nil, bytes_of_str und9 und22 und5, at_slc, len_slc und22]
        with_reducible rfl
      apply W.block
      obtain ⟨o1, o2⟩ := hw1.lt
      have hkA : Wk bw b C b1 (D1.alloc (.cells 5 .mark 0 (T.puts .e 0 (w.map byteV)))) := hk1.trans (Wk.ext (Ext.alloc D1 _))
      have hvA : Vals (D1.alloc (.cells 5 .mark 0 (T.puts .e 0 (w.map byteV)))) 5 D1.next .mark (byts w) := vals_puts (get_alloc_self D1 _)
      refine W.up w.length (fun i t D => ∃ b', WrM bw b' (bs ++ [UInt8.ofNat w.length] ++ encCs (w.take i)) D ∧ Wk bw b C b' D ∧ Vals D 5 D1.next .mark (byts w) ∧ Nb bw b' D1.next ∧ D1.next < D.next ∧ Sl t [(0, .pointer (some ⟨bw, 0, none⟩)), (34, .slice (some ⟨D1.next, 0, none⟩) w.length (mkX w.length 1)), (35, .int .i64 ((w.length : Nat) : Int)), (36, .int .i64 (i : Int))]) ?_ (Nat.zero_le _) ⟨b1, by simpa [encCs] using hw1.ext (Ext.alloc D1 _), hkA, hvA, ⟨by omega, by omega⟩, by rw [next_alloc]; omega, ?_⟩
      · rintro i t D hi ⟨b', hwD, hkD, hvD, hnb, hlD, g0, g34, g35, g36, -⟩
        by_cases hlt : i < w.length
        · have hS : Slc D 5 D1.next (byts w) (.slice (some ⟨D1.next, 0, none⟩) w.length (mkX w.length 1)) := .inr ⟨.mark, mkX w.length 1, by rw [byts_len], hlD, hvD, .inr ⟨by rw [byts_len], .inr rfl⟩⟩
          have hp := hS.idx (tb := tb1) (t := 22) (t' := 5) (kd := .i64) (i := i) und22 size5 (by rw [byts_len]; exact hlt)
          have hpl := hS.load (tb := tb1) (t := 5) (o := i) und5 rfl (byts_get (getB_some hlt))
          have hv := h2 _ (getD_mem (d := 0) hlt)
          have hsn := encCs_snoc hlt
          have hll : (bs ++ [UInt8.ofNat w.length] ++ encCs (w.take i)).length ≤ 1000000 := by
            simp only [encCs, List.length_append, List.length_map, List.length_take, List.length_singleton]; omega
          have hby := byte_lt (w.getD i 0)
          generalize w.getD i 0 = c at hpl hv hsn hby
          by_cases h6 : c.toNat < 128
          · obtain ⟨e1, e2⟩ : 97 ≤ c.toNat ∧ c.toNat < 101 := by omega
            obtain ⟨D2, ⟨g, hg⟩, hw2, hk2⟩ := run_must hwD
            obtain ⟨y, y', D3, D4, b3, f1, f2, f3, f4, f5, f6, -⟩ := wr_app (n := c.toNat - 97) hw2 hll (by omega)
            have hsub : intOpF .sub .u8 ((c.toNat : Nat) : Int) ((97 : Nat) : Int) = .ok (.int .u8 ((c.toNat - 97 : Nat) : Int)) := by
              show R.ok (Value.int .u8 (wrapF .u8 _)) = _
              rw [← Int.ofNat_sub e1, wrapF_u8, Nat.mod_eq_of_lt (by omega)]
            apply W.runG (g) 20
            · intro M hM
              simp (config := { maxSteps := 4000000 }) (disch := first | decide +kernel | (rw [wantF_guard]; simp only [wantD_some, dstAt_zero, dstAt_succ, T.get_set, T.get_e, Nat.reduceEqDiff, if_true, if_false, wantV_bool, wantV_unit, unitV, cond_true, cond_false, Bool.not_true, Bool.not_false, List.toList_toArray]) | omega) only [c64b1, c64, Try.f64, Option.getD_some, sub_seq1, sub_block, sub_loop, sub_nil, exec_seq, exec_region, runOps_cons, opF_ari, ev_tmp, g36, evG_some, g35, putT_some, runOps_nil, R.ok_bind, binF_int, op_lssI, cast_lt, hlt, decide_true, exec_cond, exec_skip, exec_exit, exec_block, opF_indexAddr, opF_move, ev_int, T.get_set, if_true, Nat.reduceEqDiff, g34, if_false, opF_load, opF_assign, hp, hpl, h6, g0, op_geq, cast_le, e1, runOps_yes, opF_pick, pickF, ev_bool, opF_call, evs, resK, e2, hg, hsub, opF_nilCheck, opF_fieldAddr, opF_buildSlice, evp, opF_builtin, opF_store, putT_none, builtin_append, bs22, at_slc, nil_ptr, fa85_0, f1, f3, f4, op_add_i64]
              with_reducible rfl
            have hk3 := hk2.trans f6
            obtain ⟨n1, n2⟩ := hk3.keep _ hnb hlD
            refine ⟨hlt, _, _, rfl, b3, ?_, hkD.trans hk3, hvD.same n2, n1, Nat.lt_of_lt_of_le hlD hk3.n, ?_⟩
            · rw [hsn, ← List.append_assoc]
              have e : encC c = c.toNat - 97 := by unfold encC; rw [if_pos h6]
              rw [e]; exact f5
            · simp only [Sl_cons, Sl_nil, T.get_set, T.puts_cons, T.puts_nil, Nat.reduceEqDiff, Nat.reduceAdd, if_true, if_false, and_true, true_and, g0, g34, g35]
          · obtain ⟨y, y', D3, D4, b3, f1, f2, f3, f4, f5, f6, -⟩ := wr_app (n := c.toNat) hwD hll hby
            apply W.run 20
            · intro M
              simp (config := { maxSteps := 4000000 }) (disch := first | decide +kernel | omega) only [c64b1, c64, Try.f64, Option.getD_some, sub_seq1, sub_block, sub_loop, sub_nil, exec_seq, exec_region, runOps_cons, opF_ari, ev_tmp, g36, evG_some, g35, putT_some, runOps_nil, R.ok_bind, binF_int, op_lssI, cast_lt, hlt, decide_true, exec_cond, exec_skip, exec_exit, exec_block, opF_indexAddr, opF_move, ev_int, T.get_set, if_true, Nat.reduceEqDiff, g34, if_false, opF_load, opF_assign, hp, hpl, h6, decide_false, g0, op_geq, cast_le, opF_nilCheck, opF_fieldAddr, opF_buildSlice, evp, opF_builtin, evs, opF_store, putT_none, builtin_append, bs22, at_slc, nil_ptr, fa85_0, f1, f3, f4, op_add_i64]
              with_reducible rfl
            obtain ⟨n1, n2⟩ := f6.keep _ hnb hlD
            refine ⟨hlt, _, _, rfl, b3, ?_, hkD.trans f6, hvD.same n2, n1, Nat.lt_of_lt_of_le hlD f6.n, ?_⟩
            · rw [hsn, ← List.append_assoc]
              have e : encC c = c.toNat := by unfold encC; rw [if_neg h6]
              rw [e]; exact f5
            · simp only [Sl_cons, Sl_nil, T.get_set, T.puts_cons, T.puts_nil, Nat.reduceEqDiff, Nat.reduceAdd, if_true, if_false, and_true, true_and, g0, g34, g35]
        · have hin : i = w.length := by omega
          subst hin
          rw [List.take_length, List.append_assoc] at hwD
          apply W.run 20
          · intro M
            simp (config := { maxSteps := 4000000 }) (disch := first | decide +kernel | omega) only [c64b1, c64, Try.f64, Option.getD_some, sub_seq1, sub_block, sub_loop, sub_nil, exec_seq, exec_region, runOps_cons, opF_ari, ev_tmp, g36, evG_some, g35, putT_some, runOps_nil, R.ok_bind, binF_int, op_lssI, cast_lt, Nat.lt_irrefl, decide_false, exec_cond, exec_skip, exec_exit, exec_block, opF_indexAddr, opF_move, ev_int, T.get_set, if_true]
            with_reducible rfl
          exact ⟨.inl rfl, _, [], rfl, rfl, b', rfl, hwD, hkD⟩
      · simp only [Sl_cons, Sl_nil, T.get_set, T.puts_cons, T.puts_nil, Nat.reduceEqDiff, Nat.reduceAdd, if_true, if_false, and_true, true_and]
  exact ⟨b', A', ha, hw, hk⟩
end Go.Proofs.Ytmhldlnlgjpkaaa.scr

/-
  Script: an act is written.
-/
namespace Go.Proofs.Ytmhldlnlgjpkaaa.scr
open Go.Am
set_option linter.unusedSimpArgs false
set_option linter.unusedVariables false
set_option maxRecDepth 20000

/-- What an act that was read is like. -/
structure ActOk2 (d : ActD) : Prop where
  ok : ActOk d
  word : WordOk d.word
  stays : ∀ v ∈ d.stays, NumOk v
  opening : ∀ o ∈ d.opening, ∀ v ∈ o.2, NumOk v
  w1 : weighs d.kind = true → d.weight < 255 ∨ d.weight = 4294967295
  w0 : weighs d.kind = false → d.weight = 0
  kn : d.kind = 7 → ∃ a c : Nat, a < 6 ∧ c < 12 ∧ d.k = (a : Int) - 1 ∧ d.n = (c : Int) - 1
  k0 : d.kind ≠ 7 → d.k = 0 ∧ d.n = 0
theorem OpsR.len {P : Nat → Prop} {A : Mem} {ds : List (Nat × List Nat)} {x : Value} (h : OpsR P A ds x) : builtinPF tb1 .len [37] [x] = .ok (.int .i64 ((ds.length : Nat) : Int)) := by
  obtain ⟨ls, b, -, h2, h3, -⟩ := h
  rw [← h3]; exact h2.len und37
theorem OpsR.at {P : Nat → Prop} {A : Mem} {ds : List (Nat × List Nat)} {x : Value} (h : OpsR P A ds x) {i : Nat} (hi : i < ds.length) :
    ∃ p l, indexAddrF tb1 37 x (.int .i64 (i : Int)) = .ok (.pointer (some p)) ∧ loadF tb1 A.get 41 (.pointer (some p)) = .ok (.agg ⟨l⟩) ∧ OpR P A (ds.getD i (0, [])) l := by
  obtain ⟨ls, b, -, hx, hll, hall⟩ := h
  have hli : i < ls.length := by omega
  have hO := hall i ds[i] ls[i] (List.getElem?_eq_getElem hi) (List.getElem?_eq_getElem hli)
  obtain ⟨d41, hd1, hd2⟩ := und41
  have e : ds.getD i (0, []) = ds[i] := by simp [List.getD, List.getElem?_eq_getElem hi]
  rw [e]
  refine ⟨_, ls[i], hx.idx (tb := tb1) (t := 37) (t' := 41) (kd := .i64) (i := i) und37 size41 hli, ?_, hO⟩
  exact hx.load_all hd1 hd2 size41 (List.getElem?_eq_getElem hli)
theorem und51 : tb1.und 51 = some (.int .i64) := by kernel_rfl
theorem zero35 : zeroF tb1 35 = .ok (.agg ⟨[.int .i64 0, .string ⟨#[]⟩, .int .u32 0, .int .i64 0, .int .i64 0]⟩) := by kernel_rfl

/-- Memory while an act is written: 'b3' holds it, 'b4' its operation. -/
structure WAct (bw b3 b4 : Nat) (d : ActD) (xs xo : Value) (b' : Nat) (bs : List UInt8) (D : Mem) : Prop where
  w : WrM bw b' bs D
  h3 : Vals D 39 b3 (.var 9) (cellsD d.kind d.word d.weight d.k d.n d.arm d.cut xs xo)
  h4 : Vals D 35 b4 (.var 5) [.int .i64 (d.kind : Int), strOf d.word, .int .u32 (d.weight : Int), .int .i64 d.k, .int .i64 d.n]
  n3 : Nb bw b' b3
  n4 : Nb bw b' b4
  l3 : b3 < D.next
  l4 : b4 < D.next
  st : StR (Nb bw b') D d.stays xs
  op : OpsR (Nb bw b') D d.opening xo
section
variable {bw b3 b4 b' b'' : Nat} {d : ActD} {xs xo : Value} {bs bs' : List UInt8} {D D' : Mem} {t : T Value} {K : Ex → St → Prop}
theorem WAct.step (h : WAct bw b3 b4 d xs xo b' bs D) (hw : WrM bw b'' bs' D') (hk : Wk bw b' D b'' D') : WAct bw b3 b4 d xs xo b'' bs' D' where
  w := hw
  h3 := h.h3.same (hk.keep _ h.n3 h.l3).2
  h4 := h.h4.same (hk.keep _ h.n4 h.l4).2
  n3 := (hk.keep _ h.n3 h.l3).1
  n4 := (hk.keep _ h.n4 h.l4).1
  l3 := Nat.lt_of_lt_of_le h.l3 hk.n
  l4 := Nat.lt_of_lt_of_le h.l4 hk.n
  st := h.st.same hk.n hk.keep
  op := h.op.same hk.n hk.keep
theorem WAct.lkind (h : WAct bw b3 b4 d xs xo b' bs D) : loadF tb1 D.get 3 (.pointer (some ⟨b4, 0, none⟩)) = .ok (.int .i64 (d.kind : Int)) := load_vals und3 rfl h.h4 rfl
theorem WAct.lword (h : WAct bw b3 b4 d xs xo b' bs D) : loadF tb1 D.get 9 (.pointer (some ⟨b4, 1, none⟩)) = .ok (strOf d.word) := load_vals und9 rfl h.h4 rfl
theorem WAct.lweight (h : WAct bw b3 b4 d xs xo b' bs D) : loadF tb1 D.get 33 (.pointer (some ⟨b4, 2, none⟩)) = .ok (.int .u32 (d.weight : Int)) := load_vals und33 rfl h.h4 rfl
theorem WAct.lk (h : WAct bw b3 b4 d xs xo b' bs D) : loadF tb1 D.get 3 (.pointer (some ⟨b4, 3, none⟩)) = .ok (.int .i64 d.k) := load_vals und3 rfl h.h4 rfl
theorem WAct.ln (h : WAct bw b3 b4 d xs xo b' bs D) : loadF tb1 D.get 3 (.pointer (some ⟨b4, 4, none⟩)) = .ok (.int .i64 d.n) := load_vals und3 rfl h.h4 rfl
theorem WAct.larm (h : WAct bw b3 b4 d xs xo b' bs D) : loadF tb1 D.get 3 (.pointer (some ⟨b3, 5, none⟩)) = .ok (.int .i64 (d.arm : Int)) := load_vals und3 rfl h.h3 rfl
theorem WAct.lcut (h : WAct bw b3 b4 d xs xo b' bs D) : loadF tb1 D.get 4 (.pointer (some ⟨b3, 6, none⟩)) = .ok (.bool d.cut) := load_vals und4 rfl h.h3 rfl
theorem WAct.lst (h : WAct bw b3 b4 d xs xo b' bs D) : loadF tb1 D.get 36 (.pointer (some ⟨b3, 7, none⟩)) = .ok xs := load_vals und36 rfl h.h3 rfl
theorem WAct.lop (h : WAct bw b3 b4 d xs xo b' bs D) : loadF tb1 D.get 37 (.pointer (some ⟨b3, 8, none⟩)) = .ok xo := load_vals und37 rfl h.h3 rfl

noncomputable def c54 : Code := Try.f54.body.getD .skip
noncomputable def c54b1 : Code := sub c54 [1,1,1,1,1,1,1,1,1,1,1,1,1,1,1,0,0]
theorem c54_eq : Try.f54.body = some (.seq (sub c54 [0]) (.seq (sub c54 [1,0]) (.seq (sub c54 [1,1,0]) (.seq (.seq (sub c54 [1,1,1,0,0]) (sub c54 [1,1,1,0,1])) (.seq (.seq (sub c54 [1,1,1,1,0,0]) (sub c54 [1,1,1,1,0,1])) (.seq (sub c54 [1,1,1,1,1,0]) (.seq (.seq (sub c54 [1,1,1,1,1,1,0,0]) (sub c54 [1,1,1,1,1,1,0,1])) (.seq (sub c54 [1,1,1,1,1,1,1,0]) (.seq (sub c54 [1,1,1,1,1,1,1,1,0]) (.seq (.seq (sub c54 [1,1,1,1,1,1,1,1,1,0,0]) (sub c54 [1,1,1,1,1,1,1,1,1,0,1])) (.seq (.seq (sub c54 [1,1,1,1,1,1,1,1,1,1,0,0]) (sub c54 [1,1,1,1,1,1,1,1,1,1,0,1])) (.seq (sub c54 [1,1,1,1,1,1,1,1,1,1,1,0]) (.seq (sub c54 [1,1,1,1,1,1,1,1,1,1,1,1,0]) (.seq (sub c54 [1,1,1,1,1,1,1,1,1,1,1,1,1,0]) (.seq (sub c54 [1,1,1,1,1,1,1,1,1,1,1,1,1,1,0]) (.block 1 (.loop c54b1))))))))))))))))) := by kernel_rfl
def wpS (bw b3 b4 : Nat) : List (Nat × Value) := [(0, .pointer (some ⟨bw, 0, none⟩)), (3, .pointer (some ⟨b3, 0, none⟩)), (4, .pointer (some ⟨b4, 0, none⟩))]

set_option maxHeartbeats 4000000 in
/-- The weight. -/
theorem wact_switch (hok : ActOk2 d) (hM : WAct bw b3 b4 d xs xo b' bs D) (hl : bs.length ≤ 900000) (hp : Sl t (wpS bw b3 b4))
    (hK : ∀ t' b'' D', WAct bw b3 b4 d xs xo b'' (bs ++ (if weighs d.kind = true then encM d.kind (d.weight, d.k, d.n) else [])) D' → Wk bw b' D b'' D' → Sl t' (wpS bw b3 b4) → K .nrm ⟨t', 206, [], D', none⟩) :
    W tb1 (sub c54 [1,1,1,1,1,1,1,1,0]) ⟨t, 206, [], D, none⟩ K := by
  obtain ⟨g0, g3, g4, -⟩ := hp
  have l1 := hM.lkind
  have l2 := hM.lweight
  obtain ⟨gw, hgw⟩ := run_weighs d.kind D
  cases hw : weighs d.kind with
  | true =>
    rw [hw] at hgw
    have he : encM d.kind (d.weight, d.k, d.n) = [UInt8.ofNat (if d.weight = 4294967295 then 255 else d.weight)] := by unfold encM; rw [if_pos hw]
    rw [hw, if_pos rfl, he] at hK
    by_cases hm : d.weight = 4294967295
    · obtain ⟨b3', D2, ⟨g, hg⟩, hw2, hk2⟩ := put_one (most := 255) (n := 255) hM.w (by omega) (by omega) (by omega)
      rw [hm] at l2
      rw [if_pos hm] at hK
      apply W.runG ((gw+g)) 20
      · intro M hM
        simp (config := { maxSteps := 4000000 }) (disch := first | decide +kernel | omega) only [c54, Try.f54, Option.getD_some, sub_seq1, sub_seq0, sub_nil, exec_block, exec_seq, exec_region, runOps_cons, opF_fieldAddr, ev_tmp, g4, evG_some, putT_some, opF_load, T.get_set, if_true, opF_call, evs, Nat.reduceEqDiff, if_false, R.ok_bind, resK, opF_un, opF_assign, runOps_nil, fa35_0, l1, hgw, un_not, Bool.not_true, exec_cond, opF_move, g0, opF_eql, ev_int, fa35_2, l2, binF_int, op_eql, decide_false, decide_true, opF_buildSlice, evp, bs127, at_slc, hg, opF_conv]
        with_reducible rfl
      refine hK _ b3' _ (hM.step hw2 hk2) hk2 ?_
      unfold wpS; simp only [Sl_cons, Sl_nil, T.get_set, T.puts_cons, T.puts_nil, Nat.reduceEqDiff, Nat.reduceAdd, if_true, if_false, and_true, true_and, g0, g3, g4]
    · have hlt : d.weight < 255 := (hok.w1 hw).resolve_right hm
      obtain ⟨b3', D2, ⟨g, hg⟩, hw2, hk2⟩ := put_one (most := 254) (n := d.weight) hM.w (by omega) (by omega) (by omega)
      rw [if_neg hm] at hK
      apply W.runG ((gw+g)) 20
      · intro M hM
        simp (config := { maxSteps := 4000000 }) (disch := first | decide +kernel | omega) only [c54, Try.f54, Option.getD_some, sub_seq1, sub_seq0, sub_nil, exec_block, exec_seq, exec_region, runOps_cons, opF_fieldAddr, ev_tmp, g4, evG_some, putT_some, opF_load, T.get_set, if_true, opF_call, evs, Nat.reduceEqDiff, if_false, R.ok_bind, resK, opF_un, opF_assign, runOps_nil, fa35_0, l1, hgw, un_not, Bool.not_true, exec_cond, opF_move, g0, opF_eql, ev_int, und33, fa35_2, l2, binF_int, op_eql, hm, decide_false, opF_buildSlice, evp, bs127, at_slc, opF_conv, convPF, und3, wrapF_i64, hg]
        with_reducible rfl
      refine hK _ b3' _ (hM.step hw2 hk2) hk2 ?_
      unfold wpS; simp only [Sl_cons, Sl_nil, T.get_set, T.puts_cons, T.puts_nil, Nat.reduceEqDiff, Nat.reduceAdd, if_true, if_false, and_true, true_and, g0, g3, g4]
  | false =>
    rw [hw] at hgw
    have h0 := hok.w0 hw
    rw [h0] at l2
    rw [hw, if_neg (by decide), List.append_nil] at hK
    obtain ⟨D2, ⟨g, hg⟩, hw2, hk2⟩ := run_must hM.w
    apply W.runG ((gw+g)) 20
    · intro M hM
      simp (config := { maxSteps := 4000000 }) (disch := first | decide +kernel | omega) only [c54, Try.f54, Option.getD_some, sub_seq1, sub_seq0, sub_nil, exec_block, exec_seq, exec_region, runOps_cons, opF_fieldAddr, ev_tmp, g4, evG_some, putT_some, opF_load, T.get_set, if_true, opF_call, evs, Nat.reduceEqDiff, if_false, R.ok_bind, resK, opF_un, opF_assign, runOps_nil, fa35_0, l1, hgw, un_not, Bool.not_false, exec_cond, opF_move, g0, opF_eql, ev_int, fa35_2, l2, binF_int, op_eql, decide_true, hg, decide_false, opF_buildSlice, evp, opF_conv]
      with_reducible rfl
    refine hK _ b' _ (hM.step hw2 hk2) hk2 ?_
    unfold wpS; simp only [Sl_cons, Sl_nil, T.get_set, T.puts_cons, T.puts_nil, Nat.reduceEqDiff, Nat.reduceAdd, if_true, if_false, and_true, true_and, g0, g3, g4]

theorem c54_ask_eq : sub c54 [1,1,1,1,1,1,1,1,1,0,1] = .cond (.tmp 79) (.seq (sub c54 [1,1,1,1,1,1,1,1,1,0,1,0,0]) (sub c54 [1,1,1,1,1,1,1,1,1,0,1,0,1])) (sub c54 [1,1,1,1,1,1,1,1,1,0,1,1]) := by kernel_rfl
set_option maxHeartbeats 4000000 in
/-- What a Suggest asks. -/
theorem wact_ask (hok : ActOk2 d) (hM : WAct bw b3 b4 d xs xo b' bs D) (hl : bs.length ≤ 900000) (hp : Sl t (wpS bw b3 b4))
    (hK : ∀ t' b'' D', WAct bw b3 b4 d xs xo b'' (bs ++ (if weighs d.kind = true then [] else encM d.kind (d.weight, d.k, d.n))) D' → Wk bw b' D b'' D' → Sl t' (wpS bw b3 b4) → K .nrm ⟨t', 206, [], D', none⟩) :
    W tb1 (.seq (sub c54 [1,1,1,1,1,1,1,1,1,0,0]) (sub c54 [1,1,1,1,1,1,1,1,1,0,1])) ⟨t, 206, [], D, none⟩ K := by
  obtain ⟨g0, g3, g4, -⟩ := hp
  have l1 := hM.lkind
  have l2 := hM.lk
  have l3 := hM.ln
  apply W.seq
  by_cases h7 : d.kind = 7
  · have hwf : weighs d.kind = false := by rw [h7]; rfl
    obtain ⟨a, c, ha, hc, hka, hnc⟩ := hok.kn h7
    have he : encM d.kind (d.weight, d.k, d.n) = [UInt8.ofNat (a + 6 * c)] := by
      unfold encM
      rw [hwf, if_neg (by decide), if_pos h7]
      simp only [hka, hnc]
      rw [show ((a : Int) - 1 + 1 + 6 * ((c : Int) - 1 + 1)).toNat = a + 6 * c by omega]
    rw [hwf, if_neg (by decide), he] at hK
    rw [h7] at l1
    have i1 : (-1 : Int) ≤ d.k := by omega
    have i2 : d.k < ((5 : Nat) : Int) := by omega
    have i3 : (-1 : Int) ≤ d.n := by omega
    have i4 : d.n < ((11 : Nat) : Int) := by omega
    obtain ⟨D1, ⟨g1, hg1⟩, hw1, hk1⟩ := run_must hM.w
    have hM1 := hM.step hw1 hk1
    have l2' := hM1.lk
    have l3' := hM1.ln
    have a1 : intOpF .add .i64 d.k ((1 : Nat) : Int) = .ok (.int .i64 ((a : Nat) : Int)) := by rw [op_addI (by omega) (by omega), hka]; congr 2; omega
    have a2 : intOpF .add .i64 d.n ((1 : Nat) : Int) = .ok (.int .i64 ((c : Nat) : Int)) := by rw [op_addI (by omega) (by omega), hnc]; congr 2; omega
    have hmod : (a + 6 * c) % 256 = a + 6 * c := by omega
    have b6 : 6 * c < 9223372036854775808 := by omega
    have b7 : a + 6 * c < 9223372036854775808 := by omega
    obtain ⟨y, y', D2, D3, b3', f1, f2, f3, f4, f5, f6, -⟩ := wr_app (n := a + 6 * c) hw1 (by omega) (by omega)
    apply W.run 20
    · intro M
      simp (config := { maxSteps := 4000000 }) (disch := first | decide +kernel | omega) only [c54, Try.f54, Option.getD_some, sub_seq1, sub_seq0, sub_nil, exec_region, runOps_cons, opF_fieldAddr, ev_tmp, g4, evG_some, putT_some, opF_load, T.get_set, if_true, opF_eql, Nat.reduceEqDiff, if_false, ev_int, runOps_nil, R.ok_bind, fa35_0, l1, binF_int, op_eql, decide_true]
      with_reducible rfl
    show W tb1 _ _ _
    apply W.runG (g1) 20
    · intro M hM
      simp (config := { maxSteps := 4000000 }) (disch := first | decide +kernel | (rw [wantF_guard]; simp only [wantD_some, dstAt_zero, dstAt_succ, T.get_set, T.get_e, Nat.reduceEqDiff, if_true, if_false, wantV_bool, wantV_unit, unitV, cond_true, cond_false, Bool.not_true, Bool.not_false, List.toList_toArray]) | omega) only [c54, Try.f54, Option.getD_some, sub_seq1, sub_seq0, sub_nil, exec_cond, ev_tmp, T.get_set, Nat.reduceEqDiff, if_false, if_true, evG_some, exec_seq, exec_region, runOps_cons, opF_move, g0, putT_some, opF_fieldAddr, g4, opF_load, opF_ari, ev_neg1, und3, R.ok_bind, fa35_3, l2, binF_int, op_geq, i1, decide_true, runOps_yes, ev_int, opF_pick, pickF, ev_bool, op_lssI, i2, fa35_4, l3, i3, opF_call, evs, resK, runOps_nil, i4, hg1, exec_draw, opF_nilCheck, opF_conv, convPF, und5, opF_buildSlice, evp, opF_builtin, opF_store, putT_none, builtin_append, l3', a2, op_mul_i64, l2', a1, op_add_i64, wrapF_u8, hmod, bs22, at_slc, nil_ptr, fa85_0, f1, f3, f4, opF_eql]
      with_reducible rfl
    refine hK _ b3' _ (hM1.step f5 f6) (hk1.trans f6) ?_
    unfold wpS; simp only [Sl_cons, Sl_nil, T.get_set, T.puts_cons, T.puts_nil, Nat.reduceEqDiff, Nat.reduceAdd, if_true, if_false, and_true, true_and, g0, g3, g4]
  · obtain ⟨e1, e2⟩ := hok.k0 h7
    have q1 : intOpF .eql .i64 d.k ((0 : Nat) : Int) = .ok (.bool true) := by rw [e1]; rfl
    have q2 : intOpF .eql .i64 d.n ((0 : Nat) : Int) = .ok (.bool true) := by rw [e2]; rfl
    have he : (if weighs d.kind = true then [] else encM d.kind (d.weight, d.k, d.n)) = [] := by
      unfold encM
      by_cases hw : weighs d.kind = true
      · rw [if_pos hw]
      · rw [if_neg hw, if_neg hw, if_neg h7]
    rw [he, List.append_nil] at hK
    obtain ⟨D1, ⟨g1, hg1⟩, hw1, hk1⟩ := run_must hM.w
    apply W.run 20
    · intro M
      simp (config := { maxSteps := 4000000 }) (disch := first | decide +kernel | omega) only [c54, Try.f54, Option.getD_some, sub_seq1, sub_seq0, sub_nil, exec_region, runOps_cons, opF_fieldAddr, ev_tmp, g4, evG_some, putT_some, opF_load, T.get_set, if_true, opF_eql, Nat.reduceEqDiff, if_false, ev_int, runOps_nil, R.ok_bind, fa35_0, l1, binF_int, op_eql, h7, decide_false]
      with_reducible rfl
    show W tb1 _ _ _
    rw [c54_ask_eq]
    refine W.cond (p := false) (by simp only [ev_tmp, T.get_set, if_true, evG_some]) (fun h => by cases h) (fun _ => ?_)
    apply W.runG (g1) 20
    · intro M hM
      simp (config := { maxSteps := 4000000 }) (disch := first | decide +kernel | (rw [wantF_guard]; simp only [wantD_some, dstAt_zero, dstAt_succ, T.get_set, T.get_e, Nat.reduceEqDiff, if_true, if_false, wantV_bool, wantV_unit, unitV, cond_true, cond_false, Bool.not_true, Bool.not_false, List.toList_toArray]) | omega) only [c54, Try.f54, Option.getD_some, sub_seq1, sub_seq0, sub_cond1, sub_nil, exec_region, runOps_cons, opF_move, ev_tmp, T.get_set, Nat.reduceEqDiff, g0, if_false, evG_some, putT_some, opF_fieldAddr, g4, opF_load, if_true, opF_eql, ev_int, R.ok_bind, fa35_3, l2, binF_int, q1, runOps_yes, opF_pick, pickF, ev_bool, opF_call, evs, resK, runOps_nil, fa35_4, l3, q2, hg1]
      with_reducible rfl
    refine hK _ b' _ (hM.step hw1 hk1) hk1 ?_
    unfold wpS; simp only [Sl_cons, Sl_nil, T.get_set, T.puts_cons, T.puts_nil, Nat.reduceEqDiff, Nat.reduceAdd, if_true, if_false, and_true, true_and, g0, g3, g4]
end
end Go.Proofs.Ytmhldlnlgjpkaaa.scr

/-
  Script: an act is written, whole.
-/
namespace Go.Proofs.Ytmhldlnlgjpkaaa.scr
open Go.Am
set_option linter.unusedSimpArgs false
set_option linter.unusedVariables false
set_option maxRecDepth 20000

theorem encW_len (w : List UInt8) : (encW w).length ≤ w.length + 1 := by
  unfold encW
  split
  · simp
  · simp [encCs]
theorem encM_len (k : Nat) (m : Nat × Int × Int) : (encM k m).length ≤ 1 := by
  unfold encM
  split
  · simp
  · split <;> simp
theorem encR_len (a : Nat) : (encR a).length ≤ 1 := by unfold encR; split <;> simp
theorem encOs_take {l : List (Nat × List Nat)} {i : Nat} (h : i < l.length) : encOs (l.take (i + 1)) = encOs (l.take i) ++ encO (l.getD i (0, [])) := by
  rw [List.take_succ_eq_append_getElem h, encOs_app]
  simp only [encOs, List.append_nil, List.getD, List.getElem?_eq_getElem h, Option.getD_some]
theorem encOs_len {l : List (Nat × List Nat)} {m : Nat} (h : ∀ o ∈ l, o.2.length ≤ m) : (encOs l).length ≤ l.length * (2 + m) := by
  induction l with
  | nil => simp [encOs]
  | cons d l ih =>
    have h1 := h d (List.mem_cons_self ..)
    have h2 := ih fun o ho => h o (List.mem_cons_of_mem _ ho)
    simp only [encOs, encO, encNs, List.length_append, List.length_cons, List.length_map, Nat.succ_mul]
    omega
section
variable {bw b3 b4 b' b'' : Nat} {d : ActD} {xs xo : Value} {bs bs' : List UInt8} {D D' : Mem} {t : T Value} {K : Ex → St → Prop}
theorem c54b1_eq : c54b1 = (.seq (sub c54b1 [0]) (.seq (sub c54b1 [1,0]) (.seq (.block 2 (.seq (sub c54b1 [1,1,0,0,0]) (.seq (sub c54b1 [1,1,0,0,1,0]) (.seq (sub c54b1 [1,1,0,0,1,1,0]) (sub c54b1 [1,1,0,0,1,1,1]))))) (sub c54b1 [1,1,1])))) := by kernel_rfl
set_option maxHeartbeats 8000000 in
/-- The openings. -/
theorem wact_opens {m : Nat} (hm : ∀ o ∈ d.opening, 1 ≤ o.1 ∧ o.1 ≤ 256 ∧ o.2.length ≤ 3) (hn : ∀ o ∈ d.opening, ∀ v ∈ o.2, NumOk v) (hM : WAct bw b3 b4 d xs xo b' bs D) (hl : bs.length ≤ 800000) (hol : d.opening.length ≤ 3) (hp : Sl t (wpS bw b3 b4)) (h183 : t.get 183 = some xo) (h184 : t.get 184 = some (.int .i64 ((d.opening.length : Nat) : Int))) (h185 : t.get 185 = some (.int .i64 ((0 : Nat) : Int)))
    (hK : ∀ t' b'' D', WAct bw b3 b4 d xs xo b'' (bs ++ encOs d.opening) D' → Wk bw b' D b'' D' → K .nrm ⟨t', 206, [], D', none⟩) :
    W tb1 (.block 1 (.loop c54b1)) ⟨t, 206, [], D, none⟩ K := by
  obtain ⟨g0, g3, g4, -⟩ := hp
  apply W.block
  refine W.up d.opening.length (fun i t E => ∃ b2, WAct bw b3 b4 d xs xo b2 (bs ++ encOs (d.opening.take i)) E ∧ Wk bw b' D b2 E ∧ Sl t [(0, .pointer (some ⟨bw, 0, none⟩)), (183, xo), (184, .int .i64 ((d.opening.length : Nat) : Int)), (185, .int .i64 (i : Int))]) ?_ (Nat.zero_le _) ⟨b', by simpa [encOs] using hM, Wk.refl _ _ _, ?_⟩
  · rintro i t E hi ⟨b2, hME, hkE, f0, f183, f184, f185, -⟩
    by_cases hlt : i < d.opening.length
    · obtain ⟨p, l, hix, hld, hO⟩ := hME.op.at hlt
      have hmem := getD_mem (d := (0, [])) hlt
      obtain ⟨m1, m2, m3⟩ := hm _ hmem
      have hns := hn _ hmem
      have hsn := encOs_take hlt
      have htl : (encOs (d.opening.take i)).length ≤ 15 := by
        have h := encOs_len (l := d.opening.take i) (m := 3) fun o ho => (hm o (List.mem_of_mem_take ho)).2.2
        rw [List.length_take] at h
        have : min i d.opening.length ≤ 3 := by omega
        have := Nat.mul_le_mul_right 5 this
        omega
      have hll : (bs ++ encOs (d.opening.take i)).length ≤ 800015 := by rw [List.length_append]; omega
      generalize d.opening.getD i (0, []) = o at hO m1 m2 m3 hns hsn
      obtain ⟨xs2, rfl, hst2⟩ := hO
      have hlE := hME.w.lt
      have hE1 : Ext E (E.alloc (rowOb 41 [.int .i64 0, .slice none 0 0])) := Ext.alloc E _
      have hv0 : Vals (E.alloc (rowOb 41 [.int .i64 0, .slice none 0 0])) 41 E.next (.var 2) [.int .i64 0, .slice none 0 0] := Go.Am.vals_new E 41 _
      have hn5 : (E.alloc (rowOb 41 [.int .i64 0, .slice none 0 0])).next = E.next + 1 := next_alloc _ _
      obtain ⟨F, hstF, hvF, hnF, hfF⟩ := store_all (tb := tb1) (t := 41) (l' := [.int .i64 (o.1 : Int), xs2]) (by rw [size41]; rfl) hv0 rfl (by simp) (fun v hv => by
        simp only [List.mem_cons, List.not_mem_nil, or_false] at hv
        rcases hv with rfl | rfl
        · rfl
        · exact hst2.cells.2)
      have hEF : Ext E F := hE1.put (b := E.next) (Nat.le_refl _) hnF hfF
      have hkF : Wk bw b2 E b2 F := Wk.ext hEF
      have hMF := hME.step (hME.w.ext hEF) hkF
      have hnb7 : Nb bw b2 E.next := ⟨by omega, by omega⟩
      have hl7 : E.next < F.next := by omega
      have hst2F : StR (Nb bw b2) F o.2 xs2 := hst2.same hkF.n hkF.keep
      have la : loadF tb1 F.get 3 (.pointer (some ⟨E.next, 0, none⟩)) = .ok (.int .i64 (o.1 : Int)) := load_vals und3 rfl hvF rfl
      have hsub : intOpF .sub .i64 ((o.1 : Nat) : Int) ((1 : Nat) : Int) = .ok (.int .i64 ((o.1 - 1 : Nat) : Int)) := op_sub_i64 (by omega) (by omega)
      obtain ⟨e1, F1, ⟨g1, hg1⟩, hw1, hk1⟩ := put_one (most := 255) (n := o.1 - 1) hMF.w (by omega) (by omega) (by omega)
      obtain ⟨n71, h71⟩ := hk1.keep _ hnb7 hl7
      have hst21 : StR (Nb bw e1) F1 o.2 xs2 := hst2F.same hk1.n hk1.keep
      have lb : loadF tb1 F1.get 36 (.pointer (some ⟨E.next, 1, none⟩)) = .ok xs2 := load_vals und36 rfl (hvF.same h71) rfl
      have hlen := hst21.len
      obtain ⟨e2, F2, ⟨g2, hg2⟩, hw2, hk2⟩ := put_one (most := 3) (n := o.2.length) hw1 (by rw [List.length_append, List.length_singleton]; omega) (by omega) (by omega)
      obtain ⟨n72, h72⟩ := hk2.keep _ n71 (Nat.lt_of_lt_of_le hl7 hk1.n)
      have hst22 : StR (Nb bw e2) F2 o.2 xs2 := hst21.same hk2.n hk2.keep
      have lc : loadF tb1 F2.get 36 (.pointer (some ⟨E.next, 1, none⟩)) = .ok xs2 := load_vals und36 rfl ((hvF.same h71).same h72) rfl
      obtain ⟨e3, F3, ⟨g3', hg3⟩, hw3, hk3⟩ := run_nums hw2 (by simp only [List.length_append, List.length_singleton]; omega) hst22 hns
      rw [c54b1_eq]
      apply W.seq
      apply W.run 20
      · intro M
        simp (config := { maxSteps := 4000000 }) (disch := first | decide +kernel | omega) only [c54b1, c54, Try.f54, Option.getD_some, sub_seq1, sub_block, sub_loop, sub_nil, sub_seq0, exec_region, runOps_cons, opF_ari, ev_tmp, f185, evG_some, f184, putT_some, runOps_nil, R.ok_bind, binF_int, op_lssI, cast_lt, hlt, decide_true]
        with_reducible rfl
      apply W.seq
      apply W.run 20
      · intro M
        simp (config := { maxSteps := 4000000 }) (disch := first | decide +kernel | omega) only [c54b1, c54, Try.f54, Option.getD_some, sub_seq1, sub_block, sub_loop, sub_nil, sub_seq0, exec_cond, ev_tmp, T.get_set, if_true, evG_some, exec_skip, exec_exit, R.ok_bind]
        with_reducible rfl
      apply W.seq
      apply W.block
      apply W.seq
      apply W.run 20
      · intro M
        simp (config := { maxSteps := 4000000 }) (disch := first | decide +kernel | omega) only [c54b1, c54, Try.f54, Option.getD_some, sub_seq1, sub_block, sub_loop, sub_nil, sub_seq0, exec_region, runOps_cons, opF_indexAddr, ev_tmp, T.get_set, Nat.reduceEqDiff, f183, if_false, evG_some, f185, putT_some, opF_load, if_true, opF_alloc, zero41, at_ptr, opF_store, putT_none, runOps_nil, R.ok_bind, cells_agg, hix, hld, hstF]
        with_reducible rfl
      apply W.seq
      apply W.runG (g1) 20
      · intro M hM
        simp (config := { maxSteps := 4000000 }) (disch := first | decide +kernel | omega) only [c54b1, c54, Try.f54, Option.getD_some, sub_seq1, sub_block, sub_loop, sub_nil, sub_seq0, exec_region, runOps_cons, opF_move, ev_tmp, T.get_set, Nat.reduceEqDiff, f0, if_false, evG_some, putT_some, opF_fieldAddr, if_true, opF_load, opF_ari, ev_int, opF_buildSlice, evp, R.ok_bind, opF_call, evs, resK, runOps_nil, fa41_0', la, binF_int, hsub, bs127, at_slc, hg1]
        with_reducible rfl
      apply W.seq
      apply W.runG (g2) 20
      · intro M hM
        simp (config := { maxSteps := 4000000 }) (disch := first | decide +kernel | omega) only [c54b1, c54, Try.f54, Option.getD_some, sub_seq1, sub_block, sub_loop, sub_nil, sub_seq0, exec_region, runOps_cons, opF_move, ev_tmp, T.get_set, Nat.reduceEqDiff, f0, if_false, evG_some, putT_some, opF_fieldAddr, if_true, opF_load, opF_len, evs, R.ok_bind, opF_buildSlice, evp, opF_call, ev_int, resK, runOps_nil, fa41_1', Nat.zero_add, lb, hlen, bs127, at_slc, hg2]
        with_reducible rfl
      apply W.runG (g3') 20
      · intro M hM
        simp (config := { maxSteps := 4000000 }) (disch := first | decide +kernel | omega) only [c54b1, c54, Try.f54, Option.getD_some, sub_seq1, sub_block, sub_loop, sub_nil, sub_seq0, exec_region, runOps_cons, opF_move, ev_tmp, T.get_set, Nat.reduceEqDiff, f0, if_false, evG_some, putT_some, opF_fieldAddr, if_true, opF_load, opF_call, evs, R.ok_bind, resK, runOps_nil, fa41_1', Nat.zero_add, lc, hg3]
        with_reducible rfl
      show W tb1 _ _ _
      have hkk := ((hkF.trans hk1).trans hk2).trans hk3
      apply W.run 20
      · intro M
        simp (config := { maxSteps := 4000000 }) (disch := first | decide +kernel | omega) only [c54b1, c54, Try.f54, Option.getD_some, sub_seq1, sub_block, sub_loop, sub_nil, exec_region, runOps_cons, opF_ari, ev_tmp, T.get_set, Nat.reduceEqDiff, f185, if_false, evG_some, ev_int, putT_some, opF_move, if_true, runOps_nil, R.ok_bind, binF_int, op_add_i64]
        with_reducible rfl
      refine ⟨hlt, _, _, rfl, e3, ?_, hkE.trans hkk, ?_⟩
      · have hM3 := hME.step hw3 hkk
        rw [hsn]
        have e : bs ++ encOs (List.take i d.opening) ++ [UInt8.ofNat (o.1 - 1)] ++ [UInt8.ofNat o.2.length] ++ encNs o.2 = bs ++ (encOs (List.take i d.opening) ++ encO o) := by
          unfold encO; simp
        rw [e] at hM3; exact hM3
      · simp only [Sl_cons, Sl_nil, T.get_set, T.puts_cons, T.puts_nil, Nat.reduceEqDiff, Nat.reduceAdd, if_true, if_false, and_true, true_and, f0, f183, f184]
    · have hin : i = d.opening.length := by omega
      subst hin
      rw [List.take_length] at hME
      apply W.run 20
      · intro M
        simp (config := { maxSteps := 4000000 }) (disch := first | decide +kernel | omega) only [c54b1, c54, Try.f54, Option.getD_some, sub_seq1, sub_block, sub_loop, sub_nil, exec_seq, exec_region, runOps_cons, opF_ari, ev_tmp, f185, evG_some, f184, putT_some, runOps_nil, R.ok_bind, binF_int, op_lssI, cast_lt, Nat.lt_irrefl, decide_false, exec_cond, exec_skip, exec_exit, exec_block, opF_indexAddr, opF_move, ev_int, T.get_set, if_true]
        with_reducible rfl
      exact hK _ b2 _ hME hkE
  · simp only [Sl_cons, Sl_nil, T.get_set, T.puts_cons, T.puts_nil, Nat.reduceEqDiff, Nat.reduceAdd, if_true, if_false, and_true, true_and, g0, h183, h184, h185]
end
end Go.Proofs.Ytmhldlnlgjpkaaa.scr

/-
  Script: an act is written: its head, its tail, the whole.
-/
namespace Go.Proofs.Ytmhldlnlgjpkaaa.scr
open Go.Am
set_option linter.unusedSimpArgs false
set_option linter.unusedVariables false
set_option maxRecDepth 20000

section
variable {bw b3 b4 b' b'' : Nat} {d : ActD} {xs xo : Value} {bs bs' : List UInt8} {D D' : Mem} {t : T Value} {K : Ex → St → Prop}
set_option maxHeartbeats 4000000 in
theorem wact_cut {k : Nat} (hM : WAct bw b3 b4 d xs xo b' bs D) (hk : k < 100) (hp : Sl t (wpS bw b3 b4)) (h5 : t.get 5 = some (.int .i64 (k : Int)))
    (hK : ∀ t', Sl t' (wpS bw b3 b4) → t'.get 5 = some (.int .i64 ((k + (if d.cut = true then 10 else 0) : Nat) : Int)) → K .nrm ⟨t', 206, [], D, none⟩) :
    W tb1 (.seq (sub c54 [1,1,1,0,0]) (sub c54 [1,1,1,0,1])) ⟨t, 206, [], D, none⟩ K := by
  obtain ⟨g0, g3, g4, -⟩ := hp
  have l1 := hM.lcut
  apply W.seq
  cases hc : d.cut with
  | true =>
    rw [hc] at l1
    rw [hc, if_pos rfl] at hK
    apply W.run 20
    · intro M
      simp (config := { maxSteps := 4000000 }) (disch := first | decide +kernel | omega) only [c54, Try.f54, Option.getD_some, sub_seq1, sub_seq0, sub_nil, exec_region, runOps_cons, opF_fieldAddr, ev_tmp, g3, evG_some, putT_some, opF_load, T.get_set, if_true, runOps_nil, R.ok_bind, fa39_2, l1]
      with_reducible rfl
    show W tb1 _ _ _
    apply W.run 20
    · intro M
      simp (config := { maxSteps := 4000000 }) (disch := first | decide +kernel | omega) only [c54, Try.f54, Option.getD_some, sub_seq1, sub_seq0, sub_nil, exec_cond, ev_tmp, T.get_set, Nat.reduceEqDiff, if_false, if_true, evG_some, exec_region, runOps_cons, opF_move, h5, putT_some, opF_ari, ev_int, opF_assign, runOps_nil, R.ok_bind, binF_int, op_add_i64, exec_skip]
      with_reducible rfl
    refine hK _ ?_ (by simp only [T.get_set, Nat.reduceEqDiff, if_true, if_false])
    unfold wpS; simp only [Sl_cons, Sl_nil, T.get_set, T.puts_cons, T.puts_nil, Nat.reduceEqDiff, Nat.reduceAdd, if_true, if_false, and_true, true_and, g0, g3, g4]
  | false =>
    rw [hc] at l1
    rw [hc, if_neg (by decide)] at hK
    apply W.run 20
    · intro M
      simp (config := { maxSteps := 4000000 }) (disch := first | decide +kernel | omega) only [c54, Try.f54, Option.getD_some, sub_seq1, sub_seq0, sub_nil, exec_region, runOps_cons, opF_fieldAddr, ev_tmp, g3, evG_some, putT_some, opF_load, T.get_set, if_true, runOps_nil, R.ok_bind, fa39_2, l1]
      with_reducible rfl
    show W tb1 _ _ _
    apply W.run 20
    · intro M
      simp (config := { maxSteps := 4000000 }) (disch := first | decide +kernel | omega) only [c54, Try.f54, Option.getD_some, sub_seq1, sub_seq0, sub_nil, exec_cond, ev_tmp, T.get_set, Nat.reduceEqDiff, if_false, if_true, evG_some, exec_region, runOps_cons, opF_move, putT_some, opF_ari, ev_int, opF_assign, runOps_nil, R.ok_bind, exec_skip]
      with_reducible rfl
    refine hK _ ?_ (by simp only [T.get_set, Nat.reduceEqDiff, if_true, if_false, h5, Nat.add_zero])
    unfold wpS; simp only [Sl_cons, Sl_nil, T.get_set, T.puts_cons, T.puts_nil, Nat.reduceEqDiff, Nat.reduceAdd, if_true, if_false, and_true, true_and, g0, g3, g4]
set_option maxHeartbeats 4000000 in
theorem wact_arm {k : Nat} (hM : WAct bw b3 b4 d xs xo b' bs D) (hk : k < 100) (hp : Sl t (wpS bw b3 b4)) (h5 : t.get 5 = some (.int .i64 (k : Int)))
    (hK : ∀ t', Sl t' (wpS bw b3 b4) → t'.get 5 = some (.int .i64 ((k + (if d.arm = 0 then 0 else 20) : Nat) : Int)) → K .nrm ⟨t', 206, [], D, none⟩) :
    W tb1 (.seq (sub c54 [1,1,1,1,0,0]) (sub c54 [1,1,1,1,0,1])) ⟨t, 206, [], D, none⟩ K := by
  obtain ⟨g0, g3, g4, -⟩ := hp
  have l1 := hM.larm
  apply W.seq
  by_cases hc : d.arm = 0
  · rw [hc] at l1
    rw [if_pos hc] at hK
    apply W.run 20
    · intro M
      simp (config := { maxSteps := 4000000 }) (disch := first | decide +kernel | omega) only [c54, Try.f54, Option.getD_some, sub_seq1, sub_seq0, sub_nil, exec_region, runOps_cons, opF_fieldAddr, ev_tmp, g3, evG_some, putT_some, opF_load, T.get_set, if_true, opF_neq, Nat.reduceEqDiff, if_false, ev_int, runOps_nil, R.ok_bind, fa39_1, l1, binF_int, op_neq, ne_eq, not_true_eq_false, decide_false]
      with_reducible rfl
    show W tb1 _ _ _
    apply W.run 20
    · intro M
      simp (config := { maxSteps := 4000000 }) (disch := first | decide +kernel | omega) only [c54, Try.f54, Option.getD_some, sub_seq1, sub_seq0, sub_nil, exec_cond, ev_tmp, T.get_set, Nat.reduceEqDiff, if_false, if_true, evG_some, exec_region, runOps_cons, opF_move, putT_some, opF_ari, ev_int, opF_assign, runOps_nil, R.ok_bind, exec_skip]
      with_reducible rfl
    refine hK _ ?_ (by simp only [T.get_set, Nat.reduceEqDiff, if_true, if_false, h5, Nat.add_zero])
    unfold wpS; simp only [Sl_cons, Sl_nil, T.get_set, T.puts_cons, T.puts_nil, Nat.reduceEqDiff, Nat.reduceAdd, if_true, if_false, and_true, true_and, g0, g3, g4]
  · rw [if_neg hc] at hK
    apply W.run 20
    · intro M
      simp (config := { maxSteps := 4000000 }) (disch := first | decide +kernel | omega) only [c54, Try.f54, Option.getD_some, sub_seq1, sub_seq0, sub_nil, exec_region, runOps_cons, opF_fieldAddr, ev_tmp, g3, evG_some, putT_some, opF_load, T.get_set, if_true, opF_neq, Nat.reduceEqDiff, if_false, ev_int, runOps_nil, R.ok_bind, fa39_1, l1, binF_int, op_neq, ne_eq, hc, not_false_eq_true, decide_true]
      with_reducible rfl
    show W tb1 _ _ _
    apply W.run 20
    · intro M
      simp (config := { maxSteps := 4000000 }) (disch := first | decide +kernel | omega) only [c54, Try.f54, Option.getD_some, sub_seq1, sub_seq0, sub_nil, exec_cond, ev_tmp, T.get_set, Nat.reduceEqDiff, if_false, if_true, evG_some, exec_region, runOps_cons, opF_move, h5, putT_some, opF_ari, ev_int, opF_assign, runOps_nil, R.ok_bind, binF_int, op_add_i64, exec_skip]
      with_reducible rfl
    refine hK _ ?_ (by simp only [T.get_set, Nat.reduceEqDiff, if_true, if_false])
    unfold wpS; simp only [Sl_cons, Sl_nil, T.get_set, T.puts_cons, T.puts_nil, Nat.reduceEqDiff, Nat.reduceAdd, if_true, if_false, and_true, true_and, g0, g3, g4]
set_option maxHeartbeats 4000000 in
theorem wact_armed (hM : WAct bw b3 b4 d xs xo b' bs D) (ha : d.arm ≤ 256) (hl : bs.length ≤ 900000) (hp : Sl t (wpS bw b3 b4))
    (hK : ∀ t' b'' D', WAct bw b3 b4 d xs xo b'' (bs ++ encR d.arm) D' → Wk bw b' D b'' D' → Sl t' (wpS bw b3 b4) → K .nrm ⟨t', 206, [], D', none⟩) :
    W tb1 (.seq (sub c54 [1,1,1,1,1,1,0,0]) (sub c54 [1,1,1,1,1,1,0,1])) ⟨t, 206, [], D, none⟩ K := by
  obtain ⟨g0, g3, g4, -⟩ := hp
  have l1 := hM.larm
  apply W.seq
  by_cases hc : d.arm = 0
  · have he : encR d.arm = [] := by unfold encR; rw [if_pos hc]
    rw [he, List.append_nil] at hK
    rw [hc] at l1
    apply W.run 20
    · intro M
      simp (config := { maxSteps := 4000000 }) (disch := first | decide +kernel | omega) only [c54, Try.f54, Option.getD_some, sub_seq1, sub_seq0, sub_nil, exec_region, runOps_cons, opF_fieldAddr, ev_tmp, g3, evG_some, putT_some, opF_load, T.get_set, if_true, opF_neq, Nat.reduceEqDiff, if_false, ev_int, runOps_nil, R.ok_bind, fa39_1, l1, binF_int, op_neq, ne_eq, not_true_eq_false, decide_false]
      with_reducible rfl
    show W tb1 _ _ _
    apply W.run 20
    · intro M
      simp (config := { maxSteps := 4000000 }) (disch := first | decide +kernel | omega) only [c54, Try.f54, Option.getD_some, sub_seq1, sub_seq0, sub_nil, exec_cond, ev_tmp, T.get_set, Nat.reduceEqDiff, if_false, if_true, evG_some, exec_region, runOps_cons, opF_move, putT_some, opF_fieldAddr, opF_load, opF_ari, ev_int, opF_buildSlice, evp, R.ok_bind, opF_call, evs, resK, runOps_nil, exec_skip]
      with_reducible rfl
    refine hK _ b' _ hM (Wk.refl _ _ _) ?_
    unfold wpS; simp only [Sl_cons, Sl_nil, T.get_set, T.puts_cons, T.puts_nil, Nat.reduceEqDiff, Nat.reduceAdd, if_true, if_false, and_true, true_and, g0, g3, g4]
  · have he : encR d.arm = [UInt8.ofNat (d.arm - 1)] := by unfold encR; rw [if_neg hc]
    rw [he] at hK
    have hsub : intOpF .sub .i64 ((d.arm : Nat) : Int) ((1 : Nat) : Int) = .ok (.int .i64 ((d.arm - 1 : Nat) : Int)) := op_sub_i64 (by omega) (by omega)
    obtain ⟨e1, F1, ⟨g1, hg1⟩, hw1, hk1⟩ := put_one (most := 255) (n := d.arm - 1) hM.w (by omega) (by omega) (by omega)
    apply W.run 20
    · intro M
      simp (config := { maxSteps := 4000000 }) (disch := first | decide +kernel | omega) only [c54, Try.f54, Option.getD_some, sub_seq1, sub_seq0, sub_nil, exec_region, runOps_cons, opF_fieldAddr, ev_tmp, g3, evG_some, putT_some, opF_load, T.get_set, if_true, opF_neq, Nat.reduceEqDiff, if_false, ev_int, runOps_nil, R.ok_bind, fa39_1, l1, binF_int, op_neq, ne_eq, hc, not_false_eq_true, decide_true]
      with_reducible rfl
    show W tb1 _ _ _
    apply W.runG (g1) 20
    · intro M hM
      simp (config := { maxSteps := 4000000 }) (disch := first | decide +kernel | omega) only [c54, Try.f54, Option.getD_some, sub_seq1, sub_seq0, sub_nil, exec_cond, ev_tmp, T.get_set, Nat.reduceEqDiff, if_false, if_true, evG_some, exec_region, runOps_cons, opF_move, g0, putT_some, opF_fieldAddr, g3, opF_load, opF_ari, ev_int, opF_buildSlice, evp, R.ok_bind, opF_call, evs, resK, runOps_nil, fa39_1, l1, binF_int, hsub, bs127, at_slc, hg1, exec_skip]
      with_reducible rfl
    refine hK _ e1 _ (hM.step hw1 hk1) hk1 ?_
    unfold wpS; simp only [Sl_cons, Sl_nil, T.get_set, T.puts_cons, T.puts_nil, Nat.reduceEqDiff, Nat.reduceAdd, if_true, if_false, and_true, true_and, g0, g3, g4]

set_option maxHeartbeats 8000000 in
/-- What stays, and the openings. -/
theorem wact_tail (hok : ActOk2 d) (hM : WAct bw b3 b4 d xs xo b' bs D) (hl : bs.length ≤ 700000) (hp : Sl t (wpS bw b3 b4))
    (hK : ∀ e t' b'' D', (e = .nrm ∨ e = .ret) → WrM bw b'' (bs ++ encS (d.cut || decide (0 < d.arm)) (d.stays, d.opening)) D' → Wk bw b' D b'' D' → K e ⟨t', 206, [], D', none⟩) :
    W tb1 (.seq (.seq (sub c54 [1,1,1,1,1,1,1,1,1,1,0,0]) (sub c54 [1,1,1,1,1,1,1,1,1,1,0,1])) (.seq (sub c54 [1,1,1,1,1,1,1,1,1,1,1,0]) (.seq (sub c54 [1,1,1,1,1,1,1,1,1,1,1,1,0]) (.seq (sub c54 [1,1,1,1,1,1,1,1,1,1,1,1,1,0]) (.seq (sub c54 [1,1,1,1,1,1,1,1,1,1,1,1,1,1,0]) (.block 1 (.loop c54b1))))))) ⟨t, 206, [], D, none⟩ K := by
  have hp' := hp
  obtain ⟨g0, g3, g4, -⟩ := hp'
  have l1 := hM.lcut
  have l2 := hM.larm
  have l3 := hM.lst
  have l4 := hM.lop
  have n3 := hM.st.len
  have n4 := hM.op.len
  have s5 := hok.ok.stays
  have s3 := hok.ok.opening
  apply W.seq
  apply W.seq
  by_cases hc : d.cut = false ∧ d.arm = 0
  · obtain ⟨h1, h2⟩ := hc
    obtain ⟨z1, z2⟩ := hok.ok.none h1 h2
    have he : encS (d.cut || decide (0 < d.arm)) (d.stays, d.opening) = [] := by rw [h1, h2]; rfl
    rw [he, List.append_nil] at hK
    rw [h1] at l1
    rw [h2] at l2
    rw [z1] at n3
    rw [z2] at n4
    obtain ⟨D1, ⟨g1, hg1⟩, hw1, hk1⟩ := run_must hM.w
    apply W.run 20
    · intro M
      simp (config := { maxSteps := 4000000 }) (disch := first | decide +kernel | (rw [wantF_guard]; simp only [wantD_some, dstAt_zero, dstAt_succ, T.get_set, T.get_e, Nat.reduceEqDiff, if_true, if_false, wantV_bool, wantV_unit, unitV, cond_true, cond_false, Bool.not_true, Bool.not_false, List.toList_toArray]) | omega) only [c54, Try.f54, Option.getD_some, sub_seq1, sub_seq0, sub_nil, exec_region, runOps_cons, opF_fieldAddr, ev_tmp, g3, evG_some, putT_some, opF_load, T.get_set, if_true, opF_un, Nat.reduceEqDiff, if_false, opF_move, R.ok_bind, fa39_2, l1, un_not, Bool.not_false, runOps_yes, opF_eql, ev_int, opF_pick, pickF, ev_bool, runOps_nil, fa39_1, l2, binF_int, op_eql, decide_true]
      with_reducible rfl
    show W tb1 _ _ _
    apply W.runG (g1) 20
    · intro M hM
      simp (config := { maxSteps := 4000000 }) (disch := first | decide +kernel | (rw [wantF_guard]; simp only [wantD_some, dstAt_zero, dstAt_succ, T.get_set, T.get_e, Nat.reduceEqDiff, if_true, if_false, wantV_bool, wantV_unit, unitV, cond_true, cond_false, Bool.not_true, Bool.not_false, List.toList_toArray]) | omega) only [c54, Try.f54, Option.getD_some, sub_seq1, sub_seq0, sub_nil, exec_cond, ev_tmp, T.get_set, Nat.reduceEqDiff, if_false, if_true, evG_some, exec_seq, exec_region, runOps_cons, opF_move, g0, putT_some, opF_fieldAddr, g3, opF_load, opF_len, evs, R.ok_bind, opF_eql, ev_int, fa39_3, l3, n3, binF_int, op_eql, decide_true, runOps_yes, opF_pick, pickF, ev_bool, opF_call, resK, runOps_nil, fa39_4, l4, n4, hg1, exec_ret, exec_skip]
      with_reducible rfl
    exact hK _ _ b' _ (.inr rfl) hw1 hk1
  · have hcc : (d.cut || decide (0 < d.arm)) = true := by
      cases h1 : d.cut with
      | true => rfl
      | false =>
        have : d.arm ≠ 0 := fun h => hc ⟨h1, h⟩
        simp; omega
    have he : encS (d.cut || decide (0 < d.arm)) (d.stays, d.opening) = [UInt8.ofNat (d.stays.length + 6 * d.opening.length)] ++ encNs d.stays ++ encOs d.opening := by
      rw [hcc]; unfold encS; rw [if_pos rfl]; simp
    rw [he] at hK
    have first : ∀ {K : Ex → St → Prop}, (∀ t', Sl t' (wpS bw b3 b4) → K .nrm ⟨t', 206, [], D, none⟩) → W tb1 (sub c54 [1,1,1,1,1,1,1,1,1,1,0,0]) ⟨t, 206, [], D, none⟩ (Then tb1 (sub c54 [1,1,1,1,1,1,1,1,1,1,0,1]) K) := by
      intro K hK
      cases h1 : d.cut with
      | true =>
        rw [h1] at l1
        apply W.run 20
        · intro M
          simp (config := { maxSteps := 4000000 }) (disch := first | decide +kernel | (rw [wantF_guard]; simp only [wantD_some, dstAt_zero, dstAt_succ, T.get_set, T.get_e, Nat.reduceEqDiff, if_true, if_false, wantV_bool, wantV_unit, unitV, cond_true, cond_false, Bool.not_true, Bool.not_false, List.toList_toArray]) | omega) only [c54, Try.f54, Option.getD_some, sub_seq1, sub_seq0, sub_nil, exec_region, runOps_cons, opF_fieldAddr, ev_tmp, g3, evG_some, putT_some, opF_load, T.get_set, if_true, opF_un, Nat.reduceEqDiff, if_false, opF_move, R.ok_bind, fa39_2, l1, un_not, Bool.not_true, runOps_no, opF_pick, pickF, ev_bool, runOps_nil]
          with_reducible rfl
        show W tb1 _ _ _
        apply W.run 20
        · intro M
          simp (config := { maxSteps := 4000000 }) (disch := first | decide +kernel | omega) only [c54, Try.f54, Option.getD_some, sub_seq1, sub_seq0, sub_nil, exec_cond, ev_tmp, T.get_set, Nat.reduceEqDiff, if_false, if_true, evG_some, exec_seq, exec_region, runOps_cons, opF_move, putT_some, opF_fieldAddr, opF_load, opF_len, evs, R.ok_bind, opF_eql, ev_int, exec_ret, exec_skip]
          with_reducible rfl
        apply hK
        unfold wpS; simp only [Sl_cons, Sl_nil, T.get_set, T.puts_cons, T.puts_nil, Nat.reduceEqDiff, Nat.reduceAdd, if_true, if_false, and_true, true_and, g0, g3, g4]
      | false =>
        have h2 : d.arm ≠ 0 := fun h => hc ⟨h1, h⟩
        rw [h1] at l1
        apply W.run 20
        · intro M
          simp (config := { maxSteps := 4000000 }) (disch := first | decide +kernel | (rw [wantF_guard]; simp only [wantD_some, dstAt_zero, dstAt_succ, T.get_set, T.get_e, Nat.reduceEqDiff, if_true, if_false, wantV_bool, wantV_unit, unitV, cond_true, cond_false, Bool.not_true, Bool.not_false, List.toList_toArray]) | omega) only [c54, Try.f54, Option.getD_some, sub_seq1, sub_seq0, sub_nil, exec_region, runOps_cons, opF_fieldAddr, ev_tmp, g3, evG_some, putT_some, opF_load, T.get_set, if_true, opF_un, Nat.reduceEqDiff, if_false, opF_move, R.ok_bind, fa39_2, l1, un_not, Bool.not_false, runOps_yes, opF_eql, ev_int, opF_pick, pickF, ev_bool, runOps_nil, fa39_1, l2, binF_int, op_eql, h2, decide_false]
          with_reducible rfl
        show W tb1 _ _ _
        apply W.run 20
        · intro M
          simp (config := { maxSteps := 4000000 }) (disch := first | decide +kernel | omega) only [c54, Try.f54, Option.getD_some, sub_seq1, sub_seq0, sub_nil, exec_cond, ev_tmp, T.get_set, Nat.reduceEqDiff, if_false, if_true, evG_some, exec_seq, exec_region, runOps_cons, opF_move, putT_some, opF_fieldAddr, opF_load, opF_len, evs, R.ok_bind, opF_eql, ev_int, exec_ret, exec_skip]
          with_reducible rfl
        apply hK
        unfold wpS; simp only [Sl_cons, Sl_nil, T.get_set, T.puts_cons, T.puts_nil, Nat.reduceEqDiff, Nat.reduceAdd, if_true, if_false, and_true, true_and, g0, g3, g4]
    refine first ?_
    rintro t1 ⟨f0, f3, f4, -⟩
    show W tb1 _ _ _
    have c6 : d.stays.length < 6 := by omega
    have c4 : d.opening.length < 4 := by omega
    obtain ⟨D1, ⟨g1, hg1⟩, hw1, hk1⟩ := run_must hM.w
    have hM1 := hM.step hw1 hk1
    have m3 := hM1.lst
    have m4 := hM1.lop
    have k3 := hM1.st.len
    have k4 := hM1.op.len
    obtain ⟨y, y', D2, D3, b3', f1, f2, f3', f4', f5, f6, -⟩ := wr_app (n := d.stays.length + 6 * d.opening.length) hw1 (by omega) (by omega)
    have hmod : (d.stays.length + 6 * d.opening.length) % 256 = d.stays.length + 6 * d.opening.length := by omega
    have b6 : 6 * d.opening.length < 9223372036854775808 := by omega
    have b7 : d.stays.length + 6 * d.opening.length < 9223372036854775808 := by omega
    have hM3 := hM1.step f5 f6
    have o3 := hM3.lst
    obtain ⟨b5, D4, ⟨g4', hg4⟩, hw4, hk4⟩ := run_nums hM3.w (by simp only [List.length_append, List.length_singleton]; omega) hM3.st hok.stays
    have hM4 := hM3.step hw4 hk4
    have p4 := hM4.lop
    have p5 := hM4.op.len
    apply W.seq
    apply W.runG (g1) 20
    · intro M hM
      simp (config := { maxSteps := 4000000 }) (disch := first | decide +kernel | (rw [wantF_guard]; simp only [wantD_some, dstAt_zero, dstAt_succ, T.get_set, T.get_e, Nat.reduceEqDiff, if_true, if_false, wantV_bool, wantV_unit, unitV, cond_true, cond_false, Bool.not_true, Bool.not_false, List.toList_toArray]) | omega) only [c54, Try.f54, Option.getD_some, sub_seq1, sub_seq0, sub_nil, exec_region, runOps_cons, opF_move, ev_tmp, f0, evG_some, putT_some, opF_fieldAddr, T.get_set, Nat.reduceEqDiff, f3, if_false, opF_load, if_true, opF_len, evs, R.ok_bind, opF_ari, ev_int, fa39_3, l3, n3, binF_int, op_lssI, cast_lt, c6, decide_true, runOps_yes, opF_pick, pickF, ev_bool, opF_call, resK, runOps_nil, fa39_4, l4, n4, c4, hg1]
      with_reducible rfl
    apply W.seq
    apply W.run 20
    · intro M
      simp (config := { maxSteps := 4000000 }) (disch := first | decide +kernel | omega) only [c54, Try.f54, Option.getD_some, sub_seq1, sub_seq0, sub_nil, exec_draw, runOps_cons, opF_move, ev_tmp, T.get_set, Nat.reduceEqDiff, f0, if_false, evG_some, putT_some, opF_nilCheck, if_true, opF_fieldAddr, opF_load, f3, opF_len, evs, R.ok_bind, opF_ari, ev_int, und3, opF_conv, convPF, und5, opF_buildSlice, evp, opF_builtin, opF_store, putT_none, runOps_nil, builtin_append, fa39_4, m4, k4, binF_int, op_mul_i64, fa39_3, m3, k3, op_add_i64, wrapF_u8, hmod, bs22, at_slc, nil_ptr, fa85_0, f1, f3', f4']
      with_reducible rfl
    apply W.seq
    apply W.runG (g4') 20
    · intro M hM
      simp (config := { maxSteps := 4000000 }) (disch := first | decide +kernel | omega) only [c54, Try.f54, Option.getD_some, sub_seq1, sub_seq0, sub_nil, exec_region, runOps_cons, opF_move, ev_tmp, T.get_set, Nat.reduceEqDiff, f0, if_false, evG_some, putT_some, opF_fieldAddr, f3, opF_load, if_true, opF_call, evs, R.ok_bind, resK, runOps_nil, fa39_3, o3, hg4]
      with_reducible rfl
    apply W.seq
    apply W.run 20
    · intro M
      simp (config := { maxSteps := 4000000 }) (disch := first | decide +kernel | omega) only [c54, Try.f54, Option.getD_some, sub_seq1, sub_seq0, sub_nil, exec_region, runOps_cons, opF_fieldAddr, ev_tmp, T.get_set, Nat.reduceEqDiff, f3, if_false, evG_some, putT_some, opF_load, if_true, opF_len, evs, R.ok_bind, opF_move, ev_int, runOps_nil, fa39_4, p4, p5]
      with_reducible rfl
    refine wact_opens (m := 3) (fun o ho => hok.ok.each o ho) hok.opening hM4 ?_ s3 ?_ ?_ ?_ ?_ ?_
    · simp only [encNs, List.length_append, List.length_singleton, List.length_map]; omega
    · unfold wpS; simp only [Sl_cons, Sl_nil, T.get_set, T.puts_cons, T.puts_nil, Nat.reduceEqDiff, Nat.reduceAdd, if_true, if_false, and_true, true_and, f0, f3, f4]
    · simp only [T.get_set, Nat.reduceEqDiff, if_true, if_false]
    · simp only [T.get_set, Nat.reduceEqDiff, if_true, if_false]
    · simp only [T.get_set, Nat.reduceEqDiff, if_true, if_false]
    · intro t2 b6' D5 hM5 hk5
      have e : bs ++ [UInt8.ofNat (d.stays.length + 6 * d.opening.length)] ++ encNs d.stays ++ encOs d.opening = bs ++ ([UInt8.ofNat (d.stays.length + 6 * d.opening.length)] ++ encNs d.stays ++ encOs d.opening) := by simp
      have hw5 := hM5.w
      rw [e] at hw5
      exact hK _ _ b6' _ (.inl rfl) hw5 (((hk1.trans f6).trans hk4).trans hk5)
end

set_option maxHeartbeats 8000000 in
theorem run_wact {bw b : Nat} {bs : List UInt8} {C : Mem} {d : ActD} {l : List Value} (h : WrM bw b bs C) (hl : bs.length ≤ 600000) (hok : ActOk2 d) (hA : ActR (Nb bw b) C d l) :
    ∃ b' C', Ans tb1 54 [.pointer (some ⟨bw, 0, none⟩), .agg ⟨l⟩] C (.tuple ⟨[]⟩) C' ∧ WrM bw b' (bs ++ encA d) C' ∧ Wk bw b C b' C' := by
  obtain ⟨xs, xo, rfl, hxs, hxo⟩ := hA
  obtain ⟨v, A', ha, b', rfl, hw, hk⟩ : ∃ v A', Ans tb1 54 [.pointer (some ⟨bw, 0, none⟩), .agg ⟨cellsD d.kind d.word d.weight d.k d.n d.arm d.cut xs xo⟩] C v A' ∧ ∃ b', v = .tuple ⟨[]⟩ ∧ WrM bw b' (bs ++ encA d) A' ∧ Wk bw b C b' A' := by
    refine ans_of_W (fn_at Try.func54) c54_eq (by rw [Try.ntmps54]; simp) (by kernel_rfl) (by kernel_rfl) ?_
    obtain ⟨o1, o2⟩ := h.lt
    have hE1 : Ext C (C.alloc (rowOb 39 (cellsD d.kind d.word d.weight d.k d.n d.arm d.cut xs xo))) := Ext.alloc C _
    have hn1 : (C.alloc (rowOb 39 (cellsD d.kind d.word d.weight d.k d.n d.arm d.cut xs xo))).next = C.next + 1 := next_alloc _ _
    have hv1 : Vals (C.alloc (rowOb 39 (cellsD d.kind d.word d.weight d.k d.n d.arm d.cut xs xo))) 39 C.next (.var 9) (cellsD d.kind d.word d.weight d.k d.n d.arm d.cut xs xo) := Go.Am.vals_new C 39 _
    generalize hC1 : C.alloc (rowOb 39 (cellsD d.kind d.word d.weight d.k d.n d.arm d.cut xs xo)) = C1 at hE1 hn1 hv1
    obtain ⟨d35, hd1, hd2⟩ := und35
    have a0 := load_part (tb := tb1) (t := 35) (o := 0) (n := 5) hd1 hd2 size35 hv1 (by show 5 ≤ 9; omega)
    rw [show ((cellsD d.kind d.word d.weight d.k d.n d.arm d.cut xs xo).drop 0).take 5 = [.int .i64 (d.kind : Int), strOf d.word, .int .u32 (d.weight : Int), .int .i64 d.k, .int .i64 d.n] from rfl] at a0
    have a1 : loadF tb1 C1.get 3 (.pointer (some ⟨C.next, 0, none⟩)) = .ok (.int .i64 (d.kind : Int)) := load_vals und3 rfl hv1 rfl
    have hE2 : Ext C1 (C1.alloc (rowOb 35 [.int .i64 0, .string ⟨#[]⟩, .int .u32 0, .int .i64 0, .int .i64 0])) := Ext.alloc C1 _
    have hn2 : (C1.alloc (rowOb 35 [.int .i64 0, .string ⟨#[]⟩, .int .u32 0, .int .i64 0, .int .i64 0])).next = C1.next + 1 := next_alloc _ _
    have hv2 : Vals (C1.alloc (rowOb 35 [.int .i64 0, .string ⟨#[]⟩, .int .u32 0, .int .i64 0, .int .i64 0])) 35 C1.next (.var 5) [.int .i64 0, .string ⟨#[]⟩, .int .u32 0, .int .i64 0, .int .i64 0] := Go.Am.vals_new C1 35 _
    obtain ⟨C3, hst, hv3, hn3, hf3⟩ := store_all (tb := tb1) (t := 35) (l' := [.int .i64 (d.kind : Int), strOf d.word, .int .u32 (d.weight : Int), .int .i64 d.k, .int .i64 d.n]) (by rw [size35]; rfl) hv2 rfl (by simp) (fun v hv => by
      simp only [List.mem_cons, List.not_mem_nil, or_false] at hv
      rcases hv with rfl | rfl | rfl | rfl | rfl <;> rfl)
    have hE3 : Ext C1 C3 := hE2.put (b := C1.next) (Nat.le_refl _) hn3 hf3
    have hEC := hE1.trans hE3
    have hkC : Wk bw b C b C3 := Wk.ext hEC
    have a1' : loadF tb1 C3.get 3 (.pointer (some ⟨C.next, 0, none⟩)) = .ok (.int .i64 (d.kind : Int)) := load_vals und3 rfl (hv1.same (hE3.g _ (by omega))) rfl
    have hself := sameV_int 99 .i64 (d.kind : Int)
    have hM : WAct bw C.next C1.next d xs xo b bs C3 := {
      w := h.ext hEC
      h3 := hv1.same (hE3.g _ (by omega))
      h4 := hv3
      n3 := ⟨by omega, by omega⟩
      n4 := ⟨by omega, by omega⟩
      l3 := by omega
      l4 := by omega
      st := hxs.same hkC.n hkC.keep
      op := hxo.same hkC.n hkC.keep }
    have k9 := hok.ok.kind
    have k10 : d.kind < 10 := by omega
    obtain ⟨D1, ⟨g1, hg1⟩, hw1, hk1⟩ := run_must hM.w
    have hM1 := hM.step hw1 hk1
    apply W.seq
    apply W.run 20
    · intro M
      simp (config := { maxSteps := 4000000 }) (disch := first | decide +kernel | omega) only [c54, Try.f54, Option.getD_some, sub_seq0, sub_nil, T.puts_cons, Nat.reduceAdd, T.puts_nil, exec_region, runOps_cons, opF_box, ev_tmp, T.get_set, Nat.reduceEqDiff, T.get_e, if_false, if_true, evG_some, at_ptr, putT_some, runOps_nil, R.ok_bind, cells_agg, hC1]
      with_reducible rfl
    apply W.seq
    apply W.run 20
    · intro M
      simp (config := { maxSteps := 4000000 }) (disch := first | decide +kernel | omega) only [c54, Try.f54, Option.getD_some, sub_seq1, sub_seq0, sub_nil, exec_float [(4, 6)], runD_P, Nat.reduceAdd, opF_fieldAddr, ev_tmp, T.get_set, Nat.reduceEqDiff, T.get_e, if_false, if_true, evG_some, putT_some, runD_Rd, rOp_load, R.ok_bind, selF_nil, rereadM_nil, runD_Al, opF_alloc, zero35, at_ptr, runD_L, selF_no, List.map_nil, hide_nil, backF_nil, selR_yes, selR_no, selR_nil, rereadR_cons, reread_load, rereadR_nil, Bool.and_true, opF_assign, opF_store, putT_none, runD_end, cells_agg, cond_true, fa39_0, fa35_0, a1, a0, hst, a1', rereadV_eq, hself]
      with_reducible rfl
    apply W.seq
    apply W.runG (g1) 20
    · intro M hM
      simp (config := { maxSteps := 4000000 }) (disch := first | decide +kernel | (rw [wantF_guard]; simp only [wantD_some, dstAt_zero, dstAt_succ, T.get_set, T.get_e, Nat.reduceEqDiff, if_true, if_false, wantV_bool, wantV_unit, unitV, cond_true, cond_false, Bool.not_true, Bool.not_false, List.toList_toArray]) | omega) only [c54, Try.f54, Option.getD_some, sub_seq1, sub_seq0, sub_nil, exec_region, runOps_cons, opF_move, ev_tmp, T.get_set, Nat.reduceEqDiff, T.get_e, if_true, if_false, evG_some, putT_some, opF_ari, ev_int, R.ok_bind, binF_int, op_geq, cast_le, Nat.zero_le, decide_true, runOps_yes, opF_pick, pickF, ev_bool, opF_call, evs, resK, runOps_nil, op_lssI, cast_lt, k10, hg1]
      with_reducible rfl
    apply W.seq
    refine wact_cut (k := d.kind) hM1 (by omega) ?_ ?_ ?_
    · unfold wpS; simp only [Sl_cons, Sl_nil, T.get_set, T.puts_cons, T.puts_nil, Nat.reduceEqDiff, Nat.reduceAdd, if_true, if_false, and_true, true_and]
    · simp only [T.get_set, T.puts_cons, T.puts_nil, Nat.reduceEqDiff, Nat.reduceAdd, if_true, if_false]
    intro t1 hp1 h51
    show W tb1 _ _ _
    apply W.seq
    refine wact_arm hM1 (by split <;> omega) hp1 h51 ?_
    intro t2 hp2 h52
    show W tb1 _ _ _
    obtain ⟨kk, hkk⟩ : ∃ kk, d.kind + (if d.cut = true then 10 else 0) + (if d.arm = 0 then 0 else 20) = kk := ⟨_, rfl⟩
    rw [hkk] at h52
    have hkl : kk < 256 := by rw [← hkk]; split <;> split <;> omega
    have hkm : kk % 256 = kk := by omega
    obtain ⟨y, y', D2, D3, b2, f1, f2, f3, f4, f5, f6, -⟩ := wr_app (n := kk) hM1.w (by omega) hkl
    have hM2 := hM1.step f5 f6
    have hp2' := hp2
    obtain ⟨g0, g3, g4, -⟩ := hp2'
    apply W.seq
    apply W.run 20
    · intro M
      simp (config := { maxSteps := 4000000 }) (disch := first | decide +kernel | omega) only [c54, Try.f54, Option.getD_some, sub_seq1, sub_seq0, sub_nil, exec_region, runOps_cons, opF_move, ev_tmp, g0, evG_some, putT_some, T.get_set, Nat.reduceEqDiff, if_false, opF_nilCheck, if_true, opF_fieldAddr, opF_load, h52, opF_conv, convPF, und3, und5, opF_buildSlice, evp, R.ok_bind, opF_builtin, evs, opF_store, putT_none, runOps_nil, builtin_append, wrapF_u8, hkm, bs22, at_slc, nil_ptr, fa85_0, f1, f3, f4]
      with_reducible rfl
    apply W.seq
    refine wact_armed hM2 hok.ok.arm (by simp only [List.length_append, List.length_singleton]; omega) ?_ ?_
    · unfold wpS; simp only [Sl_cons, Sl_nil, T.get_set, T.puts_cons, T.puts_nil, Nat.reduceEqDiff, Nat.reduceAdd, if_true, if_false, and_true, true_and, g0, g3, g4]
    intro t3 b5 D4 hM3 hk3 hp3
    show W tb1 _ _ _
    have lr := encR_len d.arm
    have lw := encW_len d.word
    have lwl := hok.ok.word
    have lm := encM_len d.kind (d.weight, d.k, d.n)
    have m1 := hM3.lword
    obtain ⟨b6, D5, ⟨g5, hg5⟩, hw5, hk5⟩ := run_wword hM3.w (by simp only [List.length_append, List.length_singleton]; omega) hok.word
    have hM4 := hM3.step hw5 hk5
    obtain ⟨e0, e3, e4, -⟩ := hp3
    apply W.seq
    apply W.runG (g5) 20
    · intro M hM
      simp (config := { maxSteps := 4000000 }) (disch := first | decide +kernel | omega) only [c54, Try.f54, Option.getD_some, sub_seq1, sub_seq0, sub_nil, exec_region, runOps_cons, opF_move, ev_tmp, e0, evG_some, putT_some, opF_fieldAddr, T.get_set, Nat.reduceEqDiff, e4, if_false, opF_load, if_true, opF_call, evs, R.ok_bind, resK, runOps_nil, fa35_1, m1, hg5]
      with_reducible rfl
    apply W.seq
    refine wact_switch hok hM4 (by simp only [List.length_append, List.length_singleton]; omega) ?_ ?_
    · unfold wpS; simp only [Sl_cons, Sl_nil, T.get_set, T.puts_cons, T.puts_nil, Nat.reduceEqDiff, Nat.reduceAdd, if_true, if_false, and_true, true_and, e0, e3, e4]
    intro t4 b7 D6 hM5 hk6 hp4
    show W tb1 _ _ _
    apply W.seq
    have li : (if weighs d.kind = true then encM d.kind (d.weight, d.k, d.n) else []).length ≤ 1 := by split <;> simp [lm]
    refine wact_ask hok hM5 (by simp only [List.length_append, List.length_singleton]; omega) hp4 ?_
    intro t5 b8 D7 hM6 hk7 hp5
    show W tb1 _ _ _
    have li2 : (if weighs d.kind = true then [] else encM d.kind (d.weight, d.k, d.n)).length ≤ 1 := by split <;> simp [lm]
    refine wact_tail hok hM6 (by simp only [List.length_append, List.length_singleton]; omega) hp5 ?_
    intro e t6 b9 D8 he hw9 hk9
    refine ⟨he, D8, [], rfl, rfl, b9, rfl, ?_, ?_⟩
    · have e2 : bs ++ [UInt8.ofNat kk] ++ encR d.arm ++ encW d.word ++ (if weighs d.kind = true then encM d.kind (d.weight, d.k, d.n) else []) ++ (if weighs d.kind = true then [] else encM d.kind (d.weight, d.k, d.n)) ++ encS (d.cut || decide (0 < d.arm)) (d.stays, d.opening) = bs ++ encA d := by
        unfold encA
        rw [hkk]
        cases weighs d.kind <;> simp
      rw [e2] at hw9
      exact hw9
    · exact ((((((hkC.trans hk1).trans f6).trans hk3).trans hk5).trans hk6).trans hk7).trans hk9
  exact ⟨b', A', ha, hw, hk⟩
end Go.Proofs.Ytmhldlnlgjpkaaa.scr

/-
  Script: a setting is written.
-/
namespace Go.Proofs.Ytmhldlnlgjpkaaa.scr
open Go.Am
set_option linter.unusedSimpArgs false
set_option linter.unusedVariables false
set_option maxRecDepth 20000

theorem encA_len {d : ActD} (h : ActOk2 d) : (encA d).length ≤ 300 := by
  have h1 := encR_len d.arm
  have h2 := encW_len d.word
  have h3 := h.ok.word
  have h4 := encM_len d.kind (d.weight, d.k, d.n)
  have h5 := h.ok.stays
  have h6 := h.ok.opening
  have h7 := encOs_len (l := d.opening) (m := 3) fun o ho => (h.ok.each o ho).2.2
  have h8 := Nat.mul_le_mul_right 5 h6
  have h9 : (encS (d.cut || decide (0 < d.arm)) (d.stays, d.opening)).length ≤ 21 := by
    unfold encS
    split
    · simp only [List.length_cons, List.length_append, encNs, List.length_map]; omega
    · simp
  unfold encA
  simp only [List.length_cons, List.length_append]
  omega
theorem encAs_app (l m : List ActD) : encAs (l ++ m) = encAs l ++ encAs m := by
  induction l with
  | nil => rfl
  | cons d l ih => simp only [List.cons_append, encAs, ih, List.append_assoc]
theorem encAs_len {l : List ActD} (h : ∀ d ∈ l, ActOk2 d) : (encAs l).length ≤ l.length * 300 := by
  induction l with
  | nil => simp [encAs]
  | cons d l ih =>
    have h1 := encA_len (h d (List.mem_cons_self ..))
    have h2 := ih fun d hd => h d (List.mem_cons_of_mem _ hd)
    simp only [encAs, List.length_append, List.length_cons, Nat.succ_mul]
    omega
def headB (w f qu : Nat) : List UInt8 := [UInt8.ofNat (w - 1)] ++ [UInt8.ofNat (f - 2)] ++ [UInt8.ofNat (qu % 256), UInt8.ofNat (qu / 256)]
theorem ActsR.len {P : Nat → Prop} {A : Mem} {ds : List ActD} {x : Value} (h : ActsR P A ds x) : builtinPF tb1 .len [26] [x] = .ok (.int .i64 ((ds.length : Nat) : Int)) := by
  obtain ⟨ls, b, -, h2, h3, -⟩ := h
  rw [← h3]; exact h2.len und26
noncomputable def c50 : Code := Try.f50.body.getD .skip
theorem c50_eq : Try.f50.body = some (.seq (sub c50 [0]) (.seq (sub c50 [1,0]) (.seq (sub c50 [1,1,0]) (sub c50 [1,1,1])))) := by kernel_rfl
set_option maxHeartbeats 4000000 in
/-- The head. -/
theorem run_head {bw b sb w f qu : Nat} {bs : List UInt8} {C : Mem} {xa : Value} {ds : List ActD} {P : Nat → Prop} (h : WrM bw b bs C) (hl : bs.length ≤ 900000) (hv : Vals C 28 sb (.var 4) (headC w f qu xa)) (hnb : Nb bw b sb) (hsl : sb < C.next) (hA : ActsR P C ds xa) (h60 : ds.length ≤ 60)
    (hw : 1 ≤ w ∧ w ≤ 256) (hf : 2 ≤ f ∧ f ≤ 9) (hq : qu < 65536) :
    ∃ b' C', Ans tb1 50 [.pointer (some ⟨bw, 0, none⟩), .pointer (some ⟨sb, 0, none⟩)] C (.tuple ⟨[]⟩) C' ∧ WrM bw b' (bs ++ headB w f qu) C' ∧ Wk bw b C b' C' := by
  obtain ⟨v, A', ha, b', rfl, hw', hk⟩ : ∃ v A', Ans tb1 50 [.pointer (some ⟨bw, 0, none⟩), .pointer (some ⟨sb, 0, none⟩)] C v A' ∧ ∃ b', v = .tuple ⟨[]⟩ ∧ WrM bw b' (bs ++ headB w f qu) A' ∧ Wk bw b C b' A' := by
    refine ans_of_W (fn_at Try.func50) c50_eq (by rw [Try.ntmps50]; simp) (by kernel_rfl) (by kernel_rfl) ?_
    have hlen := hA.len
    have l2 : loadF tb1 C.get 26 (.pointer (some ⟨sb, 3, none⟩)) = .ok xa := load_vals und26 rfl hv rfl
    have l1 : loadF tb1 C.get 3 (.pointer (some ⟨sb, 2, none⟩)) = .ok (.int .i64 (qu : Int)) := load_vals und3 rfl hv rfl
    obtain ⟨D1, ⟨g1, hg1⟩, hw1, hk1⟩ := run_must h
    obtain ⟨n1, e1⟩ := hk1.keep _ hnb hsl
    have hv1 := hv.same e1
    have hs1 := Nat.lt_of_lt_of_le hsl hk1.n
    have l3 : loadF tb1 D1.get 3 (.pointer (some ⟨sb, 0, none⟩)) = .ok (.int .i64 (w : Int)) := load_vals und3 rfl hv1 rfl
    have s1 : intOpF .sub .i64 ((w : Nat) : Int) ((1 : Nat) : Int) = .ok (.int .i64 ((w - 1 : Nat) : Int)) := op_sub_i64 (by omega) (by omega)
    obtain ⟨b2, D2, ⟨g2, hg2⟩, hw2, hk2⟩ := put_one (most := 255) (n := w - 1) hw1 (by omega) (by omega) (by omega)
    obtain ⟨n2, e2⟩ := hk2.keep _ n1 hs1
    have hv2 := hv1.same e2
    have hs2 := Nat.lt_of_lt_of_le hs1 hk2.n
    have l4 : loadF tb1 D2.get 3 (.pointer (some ⟨sb, 1, none⟩)) = .ok (.int .i64 (f : Int)) := load_vals und3 rfl hv2 rfl
    have s2 : intOpF .sub .i64 ((f : Nat) : Int) ((2 : Nat) : Int) = .ok (.int .i64 ((f - 2 : Nat) : Int)) := op_sub_i64 (by omega) (by omega)
    obtain ⟨b3, D3, ⟨g3, hg3⟩, hw3, hk3⟩ := put_one (most := 7) (n := f - 2) hw2 (by rw [List.length_append, List.length_singleton]; omega) (by omega) (by omega)
    obtain ⟨n3, e3⟩ := hk3.keep _ n2 hs2
    have hv3 := hv2.same e3
    have l5 : loadF tb1 D3.get 3 (.pointer (some ⟨sb, 2, none⟩)) = .ok (.int .i64 (qu : Int)) := load_vals und3 rfl hv3 rfl
    obtain ⟨y, y', D4, D5, b4, f1, f2, f3, f4, f5, f6, -⟩ := wr_apps (cs := [UInt8.ofNat (qu % 256), UInt8.ofNat (qu / 256)]) hw3 (by simp only [List.length_append, List.length_singleton]; omega) (by simp)
    have hby : byts [UInt8.ofNat (qu % 256), UInt8.ofNat (qu / 256)] = [.int .u8 ((qu % 256 : Nat) : Int), .int .u8 ((qu / 256 : Nat) : Int)] := by
      show [Value.int .u8 (((UInt8.ofNat (qu % 256)).toNat : Nat) : Int), Value.int .u8 (((UInt8.ofNat (qu / 256)).toNat : Nat) : Int)] = _
      rw [u8_nat (by omega), u8_nat (by omega)]
    rw [hby] at f2 f3
    have f3' : appendF tb1 (D3.alloc (rowOb 5 [.int .u8 ((qu % 256 : Nat) : Int), .int .u8 ((qu / 256 : Nat) : Int)])) 22 22 y (.slice (some ⟨D3.next, 0, none⟩) 2 4) = .ok (y', D4) := f3
    have hm2 : qu / 256 % 256 = qu / 256 := by omega
    apply W.seq
    apply W.runG (g1) 20
    · intro M hM
      simp (config := { maxSteps := 4000000 }) (disch := first | decide +kernel | (rw [wantF_guard]; simp only [wantD_some, dstAt_zero, dstAt_succ, T.get_set, T.get_e, Nat.reduceEqDiff, if_true, if_false, wantV_bool, wantV_unit, unitV, cond_true, cond_false, Bool.not_true, Bool.not_false, List.toList_toArray]) | omega) only [c50, Try.f50, Option.getD_some, sub_seq0, sub_nil, T.puts_cons, Nat.reduceAdd, T.puts_nil, exec_region, runOps_cons, opF_move, ev_tmp, T.get_set, Nat.reduceEqDiff, T.get_e, if_true, if_false, evG_some, putT_some, opF_fieldAddr, opF_load, opF_len, evs, R.ok_bind, opF_ari, ev_int, fa28_2, l2, hlen, binF_int, op_leq, cast_le, h60, decide_true, runOps_yes, opF_pick, pickF, ev_bool, fa28_1, l1, op_geq, Nat.zero_le, opF_call, resK, runOps_nil, op_lssI, cast_lt, hq, hg1]
      with_reducible rfl
    apply W.seq
    apply W.runG (g2) 20
    · intro M hM
      simp (config := { maxSteps := 4000000 }) (disch := first | decide +kernel | omega) only [c50, Try.f50, Option.getD_some, sub_seq1, sub_seq0, sub_nil, exec_region, runOps_cons, opF_move, ev_tmp, T.get_set, Nat.reduceEqDiff, T.get_e, if_true, if_false, evG_some, putT_some, opF_fieldAddr, opF_load, opF_ari, ev_int, opF_buildSlice, evp, R.ok_bind, opF_call, evs, resK, runOps_nil, fa28_0, fa25_0, l3, binF_int, s1, bs127, at_slc, hg2]
      with_reducible rfl
    apply W.seq
    apply W.runG (g3) 20
    · intro M hM
      simp (config := { maxSteps := 4000000 }) (disch := first | decide +kernel | omega) only [c50, Try.f50, Option.getD_some, sub_seq1, sub_seq0, sub_nil, exec_region, runOps_cons, opF_move, ev_tmp, T.get_set, Nat.reduceEqDiff, T.get_e, if_true, if_false, evG_some, putT_some, opF_fieldAddr, opF_load, opF_ari, ev_int, opF_buildSlice, evp, R.ok_bind, opF_call, evs, resK, runOps_nil, fa28_0, fa25_1, l4, binF_int, s2, bs127, at_slc, hg3]
      with_reducible rfl
    apply W.run 20
    · intro M
      simp (config := { maxSteps := 4000000 }) (disch := first | decide +kernel | omega) only [c50, Try.f50, Option.getD_some, sub_seq1, sub_nil, exec_draw, runOps_cons, opF_move, ev_tmp, T.get_set, Nat.reduceEqDiff, T.get_e, if_true, if_false, evG_some, putT_some, opF_nilCheck, opF_fieldAddr, opF_load, opF_conv, convPF, und3, und5, opF_ari, ev_int, opF_buildSlice, evp, R.ok_bind, opF_builtin, evs, opF_store, putT_none, runOps_nil, builtin_append, fa28_1, l5, binF_int, op_quo_i64, wrapF_u8, hm2, bs22_2, at_slc, nil_ptr, fa85_0, f1, f3', f4]
      with_reducible rfl
    refine ⟨.inl rfl, D5, [], rfl, rfl, b4, rfl, ?_, ((hk1.trans hk2).trans hk3).trans f6⟩
    have e : bs ++ [UInt8.ofNat (w - 1)] ++ [UInt8.ofNat (f - 2)] ++ [UInt8.ofNat (qu % 256), UInt8.ofNat (qu / 256)] = bs ++ headB w f qu := by
      unfold headB; simp
    rw [← e]; exact f5
  exact ⟨b', A', ha, hw', hk⟩
noncomputable def c53 : Code := Try.f53.body.getD .skip
theorem c53_eq : Try.f53.body = some c53 := by kernel_rfl
/-- An act, out of its box. -/
theorem run_boxed {bw b ab : Nat} {bs : List UInt8} {C : Mem} {d : ActD} {l : List Value} (h : WrM bw b bs C) (hl : bs.length ≤ 600000) (hok : ActOk2 d) (hA : ActR (Nb bw b) C d l) (hv : Vals C 39 ab (.var 9) l) :
    ∃ b' C', Ans tb1 53 [.pointer (some ⟨bw, 0, none⟩), .pointer (some ⟨ab, 0, none⟩)] C (.tuple ⟨[]⟩) C' ∧ WrM bw b' (bs ++ encA d) C' ∧ Wk bw b C b' C' := by
  obtain ⟨v, A', ha, b', rfl, hw', hk⟩ : ∃ v A', Ans tb1 53 [.pointer (some ⟨bw, 0, none⟩), .pointer (some ⟨ab, 0, none⟩)] C v A' ∧ ∃ b', v = .tuple ⟨[]⟩ ∧ WrM bw b' (bs ++ encA d) A' ∧ Wk bw b C b' A' := by
    refine ans_of_W (fn_at Try.func53) c53_eq (by rw [Try.ntmps53]; simp) (by kernel_rfl) (by kernel_rfl) ?_
    obtain ⟨d39, hd1, hd2⟩ := und39
    have ll := Go.Am.load_all (tb := tb1) (t := 39) hd1 hd2 (by rw [size39, hA.cells.1]) hv
    obtain ⟨b2, D2, ⟨g2, hg2⟩, hw2, hk2⟩ := run_wact h hl hok hA
    apply W.runG (g2) 20
    · intro M hM
      simp (config := { maxSteps := 4000000 }) (disch := first | decide +kernel | omega) only [c53, Try.f53, Option.getD_some, T.puts_cons, Nat.reduceAdd, T.puts_nil, exec_region, runOps_cons, opF_move, ev_tmp, T.get_set, Nat.reduceEqDiff, T.get_e, if_true, if_false, evG_some, putT_some, opF_load, opF_call, evs, R.ok_bind, resK, runOps_nil, ll, hg2]
      with_reducible rfl
    exact ⟨.inl rfl, _, [], rfl, rfl, b2, rfl, hw2, hk2⟩
  exact ⟨b', A', ha, hw', hk⟩

/-! ### The loop over the parts -/
theorem und83 : ∃ d, tb1.und 83 = some d ∧ isAggD d = false := by
  have h : (tb1.und 83).map isAggD = some false := by kernel_rfl
  cases hq : tb1.und 83 with
  | none => rw [hq] at h; cases h
  | some d => rw [hq] at h; exact ⟨d, rfl, by simpa using h⟩
noncomputable def c14 : Code := Try.f14.body.getD .skip
noncomputable def putL (t0 : T Value) (d : Nat) : ALoop := loop0 t0 22 [10] (sub c14 [1,1,0,1,0,0]) (sub c14 [1,1,0,1,0,1]) d
structure PutM (B0 : Mem) (bw b : Nat) (t0 : T Value) (bs : List UInt8) (C : Mem) : Prop where
  w : WrM bw b bs C
  hd : C.get B0.next = some .defd
  hl : C.get (B0.next + 1) = some (.loop (putL t0 B0.next))
  hb : bw < B0.next
  n1 : b = bw ∨ B0.next + 2 ≤ b
  hn : B0.next + 2 ≤ C.next
  old : ∀ y, y < B0.next → y ≠ bw → C.get y = B0.get y
theorem PutM.step {B0 : Mem} {bw b b' : Nat} {t0 : T Value} {bs bs' : List UInt8} {C C' : Mem} (h : PutM B0 bw b t0 bs C) (hw : WrM bw b' bs' C') (hk : Wk bw b C b' C') : PutM B0 bw b' t0 bs' C' := by
  have h1 := h.hb
  have h2 := h.n1
  have h3 := h.hn
  have h4 := hk.o
  exact {
    w := hw
    hd := by rw [hk.g _ (by omega) (by omega) (by omega)]; exact h.hd
    hl := by rw [hk.g _ (by omega) (by omega) (by omega)]; exact h.hl
    hb := h1
    n1 := by omega
    hn := Nat.le_trans h3 hk.n
    old := fun y hy hyb => by rw [hk.g y (by omega) hyb (by omega), h.old y hy hyb] }
set_option maxHeartbeats 4000000 in
theorem put_round {B0 : Mem} {bw b b4 fid : Nat} {t0 : T Value} {bs bs' : List UInt8} {C : Mem} {p : Value} (hP : PutM B0 bw b t0 bs C) (h4 : t0.get 4 = some (.pointer (some ⟨b4, 0, none⟩))) (hv4 : Vals B0 83 b4 (.var 1) [.pointer (some ⟨bw, 0, none⟩)]) (hb4 : b4 < B0.next ∧ b4 ≠ bw)
    (hclo : ∀ E, WrM bw b bs E → E.next = C.next → (∀ y, y ≠ B0.next + 1 → E.get y = C.get y) → ∃ b' E', Ans tb1 fid [.pointer (some ⟨bw, 0, none⟩), p] E (.tuple ⟨[]⟩) E' ∧ WrM bw b' bs' E' ∧ Wk bw b E b' E') :
    ∃ b' C', (∃ g, ∀ M, g ≤ M → callF tb1 (exec tb1 M) (.round (B0.next + 1) [.func (.func fid) ⟨[]⟩ ⟨[p]⟩]) C = .ok (.val (.bool true) C')) ∧ PutM B0 bw b' t0 bs' C' := by
  obtain ⟨C', hr, b', hP'⟩ : ∃ C', (∃ g, ∀ M, g ≤ M → callF tb1 (exec tb1 M) (.round (B0.next + 1) [.func (.func fid) ⟨[]⟩ ⟨[p]⟩]) C = .ok (.val (.bool true) C')) ∧ ∃ b', PutM B0 bw b' t0 bs' C' := by
    have hCn := hP.hn
    obtain ⟨d83, hd83, hd83'⟩ := und83
    have hCb := hP.hb
    have hn1 := hP.n1
    refine round_of_W hP.hl (t := t0.set 10 (.func (.func fid) ⟨[]⟩ ⟨[p]⟩)) rfl ?_
    show W tb1 (sub c14 [1,1,0,1,0,0]) ⟨t0.set 10 (.func (.func fid) ⟨[]⟩ ⟨[p]⟩), 22, [], C, some (B0.next + 1)⟩ _
    apply W.run 20
    · intro M
      simp (config := { maxSteps := 4000000 }) (disch := first | decide +kernel | omega) only [c14, Try.f14, Option.getD_some, sub_seq1, sub_seq0, sub_block, sub_range0, sub_nil, exec_region, runOps_cons, opF_assign, ev_tmp, T.get_set, if_true, evG_some, putT_some, runOps_nil, R.ok_bind]
      with_reducible rfl
    refine ⟨rfl, _, hP.hl, rfl, ?_⟩
    show W tb1 (sub c14 [1,1,0,1,0,1]) ⟨_, 22, [], C.set (B0.next + 1) (.loop { (putL t0 B0.next) with state := .busy }), some (B0.next + 1)⟩ _
    have hn0 : (C.set (B0.next + 1) (.loop { (putL t0 B0.next) with state := .busy })).next = C.next := next_set _ _ _
    have hg0 : ∀ y, y ≠ B0.next + 1 → (C.set (B0.next + 1) (.loop { (putL t0 B0.next) with state := .busy })).get y = C.get y := fun y hy => by rw [get_setMem, if_neg hy]
    have hl0 : (C.set (B0.next + 1) (.loop { (putL t0 B0.next) with state := .busy })).get (B0.next + 1) = some (.loop { (putL t0 B0.next) with state := .busy }) := by rw [get_setMem, if_pos rfl]
    revert hn0 hg0 hl0
    generalize C.set (B0.next + 1) (.loop { (putL t0 B0.next) with state := .busy }) = E
    intro hn0 hg0 hl0
    have hwE : WrM bw b bs E := by
      obtain ⟨x, k1, k2, k3, k4, k5⟩ := hP.w
      exact ⟨x, k1.same (hg0 _ (by omega)), k2.same (by omega) (fun _ => hg0 _ (by omega)), k3, by omega, by omega⟩
    obtain ⟨b', E', ⟨g, hg⟩, hw', hk'⟩ := hclo E hwE hn0 hg0
    have l4 : loadF tb1 E.get 83 (.pointer (some ⟨b4, 0, none⟩)) = .ok (.pointer (some ⟨bw, 0, none⟩)) := load_vals hd83 hd83' (hv4.same (by rw [hg0 _ (by omega), hP.old _ hb4.1 hb4.2])) rfl
    have l4' : loadF tb1 E'.get 83 (.pointer (some ⟨b4, 0, none⟩)) = .ok (.pointer (some ⟨bw, 0, none⟩)) := load_vals hd83 hd83' (hv4.same (by rw [hk'.g _ (by omega) hb4.2 (by omega), hg0 _ (by omega), hP.old _ hb4.1 hb4.2])) rfl
    have lb : loadF tb1 E'.get 4 (.pointer (some ⟨bw, 1, none⟩)) = .ok (.bool false) := by
      obtain ⟨x, k1, -⟩ := hw'
      exact load_vals und4 rfl k1 rfl
    apply W.runG (g) 20
    · intro M hM
      simp (config := { maxSteps := 4000000 }) (disch := first | decide +kernel | omega) only [c14, Try.f14, Option.getD_some, sub_seq1, sub_seq0, sub_block, sub_range1, sub_nil, exec_block, exec_seq, exec_region, runOps_cons, opF_move, ev_tmp, T.get_set, Nat.reduceEqDiff, if_false, if_true, evG_some, putT_some, opF_load, h4, opF_callv, evs, R.ok_bind, resK, runOps_nil, l4, callV_func, List.nil_append, List.cons_append, hg, exec_cond, opF_store, ev_nilslice, putT_none, ev_int, exec_ret, exec_skip, opF_nilCheck, opF_fieldAddr, l4', nil_ptr, fa85_1, lb]
      with_reducible rfl
    have hlE' : E'.get (B0.next + 1) = some (.loop { (putL t0 B0.next) with state := .busy }) := by rw [hk'.g _ (by omega) (by omega) (by omega)]; exact hl0
    refine ⟨rfl, rfl, _, hlE', b', ?_⟩
    have hko := hk'.o
    have hkn := hk'.n
    obtain ⟨x, k1, k2, k3, k4, k5⟩ := hw'
    show PutM B0 bw b' t0 bs' (E'.set (B0.next + 1) (.loop (putL t0 B0.next)))
    have hset : ∀ y, y ≠ B0.next + 1 → (E'.set (B0.next + 1) (.loop (putL t0 B0.next))).get y = E'.get y := fun y hy => by rw [get_setMem, if_neg hy]
    have hsn : (E'.set (B0.next + 1) (.loop (putL t0 B0.next))).next = E'.next := next_set _ _ _
    exact {
      w := ⟨x, k1.same (hset _ (by omega)), k2.same (by omega) (fun _ => hset _ (by omega)), k3, by omega, by omega⟩
      hd := by
        rw [hset _ (by omega), hk'.g _ (by omega) (by omega) (by omega), hg0 _ (by omega)]; exact hP.hd
      hl := by rw [get_setMem, if_pos rfl]
      hb := hCb
      n1 := by omega
      hn := by rw [hsn]; omega
      old := fun y hy hyb => by
        rw [hset _ (by omega), hk'.g _ (by omega) hyb (by omega), hg0 _ (by omega), hP.old y hy hyb] }
  exact ⟨b', C', hr, hP'⟩
end Go.Proofs.Ytmhldlnlgjpkaaa.scr

