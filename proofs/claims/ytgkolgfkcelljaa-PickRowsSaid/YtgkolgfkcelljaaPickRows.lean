/-
  The statement PickRows holds, for every input: the program, run on the abstract machine AM on values of which parts are variables, answers true; what AM answers the model answers. No conditions.
-/
import Derived.Test.YtgkolgfkcelljaaRows
import Derived.Test.YtgkolgfkcelljaaPckB
import Derived.WalkKit
import Derived.ProofKit
import Derived.OpenShut
import Derived.ShutString
import Derived.ChangeOld
import Derived.Below
namespace Go.Proofs.Ytgkolgfkcelljaa.pck
open Go.Am Go.Pick
set_option linter.unusedSimpArgs false
set_option linter.unusedVariables false
set_option linter.unusedVariables false
set_option maxRecDepth 20000

set_option maxHeartbeats 8000000 in
/-- One row. -/
theorem rows_round {D : Mem} {xo y : Value} {f i by_ : Nat} {own : List Nat} {rs : List Row} {r : Row} {bo : Option Nat} {t : T Value} {K : Ex → St → Prop} (f2 : 2 ≤ f) (f9 : f ≤ 9) (hob : ∀ n ∈ own, n ≤ 40000) (hlen : own.length ≤ 60) (hO : Own D own xo) (hS : SlcM D 28 2 by_ (pairs rs) y) (hrs : rs.length ≤ 1000) (hr : rs[i]? = some r) (hok : ∀ i r, rs[i]? = some r → RowOk f 0 own rs i r)
    (hb : bestP f rs i bo) (hp : Sl t (rwS xo y (bestV bo) f (atR 0 rs i) i))
    (hK : ∀ t' bo', bestP f rs (i + 1) bo' → Sl t' (rwS xo y (bestV bo') f (atR 0 rs (i + 1)) (i + 1)) → K .nrm ⟨t', 216, [], D, none⟩) : W tb1 c3b1 ⟨t, 216, [], D, none⟩ K := by
  have hi : i < rs.length := (List.getElem?_eq_some_iff.1 hr).1
  have ho := hok i r hr
  have h1 := ho.lt
  have h3 := ho.le
  rw [Nat.zero_add] at h3
  have ht := ho.t
  simp only [Nat.sub_zero] at ht
  have hbeg := ho.beg
  have hnext : atR 0 rs (i + 1) = r.b := by show (rs.getD i r0).b = r.b; simp [List.getD, hr]
  rw [hnext] at hK
  rw [← hbeg] at hp
  have hlenr : builtinPF tb1 .len [26] [y] = .ok (.int .i64 ((rs.length : Nat) : Int)) := by rw [hS.len (tb := tb1) (t := 26) und26, pairs_len]
  have hR := row_at hS hr
  obtain ⟨p, hpx, hpl⟩ := hO.at (show r.a < own.length by omega)
  have hoj : own.getD r.a 0 ≤ 40000 := by
    rw [List.getD, List.getElem?_eq_getElem (show r.a < own.length by omega)]; exact hob _ (List.getElem_mem _)
  have hk9 := fun ih => k9 (ih := ih) (A := D) (n := own.getD r.a 0) (f := f) f2 (by omega)
  rw [ht r.a (Nat.le_refl _) h1] at hk9
  have hp' := hp
  obtain ⟨g5, g6, g7, g8, g9, g10, -⟩ := hp'
  rw [c3b1_eq]
  apply W.seq
  apply W.seq
  apply W.run 20
  · intro M
    simp (config := { maxSteps := 4000000 }) (disch := first | decide +kernel | (rw [wantF_guard]; simp only [wantD_some, dstAt_zero, dstAt_succ, T.get_set, T.get_e, Nat.reduceEqDiff, if_true, if_false, wantV_bool, wantV_unit, unitV, cond_true, cond_false, Bool.not_true, Bool.not_false, List.toList_toArray]) | omega) only [c3b1, c3, Try.f3, Option.getD_some, sub_seq1, sub_seq0, sub_block, sub_loop, sub_nil, exec_region, runOps_cons, opF_move, ev_tmp, g10, evG_some, putT_some, T.get_set, Nat.reduceEqDiff, g7, if_false, opF_len, evs, if_true, R.ok_bind, opF_ari, runOps_nil, hlenr, binF_int, op_lssI, cast_lt, hi, decide_true]
    with_reducible rfl
  apply W.run 20
  · intro M
    simp (config := { maxSteps := 4000000 }) (disch := first | decide +kernel | (rw [wantF_guard]; simp only [wantD_some, dstAt_zero, dstAt_succ, T.get_set, T.get_e, Nat.reduceEqDiff, if_true, if_false, wantV_bool, wantV_unit, unitV, cond_true, cond_false, Bool.not_true, Bool.not_false, List.toList_toArray]) | omega) only [c3b1, c3, Try.f3, Option.getD_some, sub_seq1, sub_seq0, sub_block, sub_loop, sub_nil, exec_cond, ev_tmp, T.get_set, Nat.reduceEqDiff, if_false, if_true, evG_some, exec_skip, exec_exit, R.ok_bind]
    with_reducible rfl
  show W tb1 _ _ _
  apply W.seq
  apply W.block
  apply W.seq
  refine rows_first (xo := xo) (y := y) (bv := bestV bo) (f := f) (own := own) (r := r) (by_ := by_) hO hR h1 h3 ?_ ?_
  · unfold rwS; simp only [Sl_cons, Sl_nil, T.get_set, T.puts_cons, T.puts_nil, Nat.reduceEqDiff, Nat.reduceAdd, if_true, if_false, and_true, true_and, g5, g6, g7, g8, g9, g10]
  rintro t1 ⟨a5, a6, a7, a8, a9, a10, -⟩
  show W tb1 _ _ _
  apply W.seq
  apply W.run 20
  · intro M
    simp (config := { maxSteps := 4000000 }) (disch := first | decide +kernel | (rw [wantF_guard]; simp only [wantD_some, dstAt_zero, dstAt_succ, T.get_set, T.get_e, Nat.reduceEqDiff, if_true, if_false, wantV_bool, wantV_unit, unitV, cond_true, cond_false, Bool.not_true, Bool.not_false, List.toList_toArray]) | omega) only [c3b1, c3, Try.f3, Option.getD_some, sub_seq1, sub_seq0, sub_block, sub_loop, sub_nil, exec_region, runOps_cons, opF_move, ev_tmp, a5, evG_some, putT_some, T.get_set, Nat.reduceEqDiff, a8, if_false, opF_indexAddr, if_true, opF_load, a6, opF_call, evs, R.ok_bind, resK, opF_assign, runOps_nil, hpx, hpl, hk9]
    with_reducible rfl
  apply W.seq
  refine rows_each (own := own) (r := r) (by_ := by_) (i := i) (xo := xo) (y := y) (bv := bestV bo) f2 f9 hob hO hR h1 h3 hlen ht ?_ ?_ ?_
  · unfold rwS; simp only [Sl_cons, Sl_nil, T.get_set, T.puts_cons, T.puts_nil, Nat.reduceEqDiff, Nat.reduceAdd, if_true, if_false, and_true, true_and, a5, a6, a7, a8, a9, a10]
  · simp only [T.get_set, if_true]
  intro t2 hp2 b11
  show W tb1 _ _ _
  apply W.seq
  refine rows_ahead (own := own) (r := r) (i := i) (xo := xo) (y := y) (bv := bestV bo) f2 hob hO (by omega) h3 h1 hlen (fun h0 => ?_) hp2 b11 ?_
  · obtain ⟨j, rfl⟩ : ∃ j, i = j + 1 := ⟨i - 1, by omega⟩
    have hj : j < rs.length := by omega
    have hqj : rs[j]? = some rs[j] := List.getElem?_eq_getElem hj
    have hoq := hok j rs[j] hqj
    have hab : r.a = rs[j].b := by rw [hbeg]; show (rs.getD j r0).b = _; simp [List.getD, hqj]
    have hq1 := hoq.lt
    have hqt := hoq.t (rs[j].b - 1) (by omega) (by omega)
    rw [Nat.sub_zero] at hqt
    refine ⟨by omega, ?_⟩
    rw [hab, hqt]
    exact ho.ne j rs[j] rfl hqj
  rintro t3 ⟨c5, c6, c7, c8, c9, c10, -⟩ c11
  show W tb1 _ _ _
  obtain ⟨ix, l0, l1⟩ := hR
  apply W.seq
  apply W.run 20
  · intro M
    simp (config := { maxSteps := 4000000 }) (disch := first | decide +kernel | (rw [wantF_guard]; simp only [wantD_some, dstAt_zero, dstAt_succ, T.get_set, T.get_e, Nat.reduceEqDiff, if_true, if_false, wantV_bool, wantV_unit, unitV, cond_true, cond_false, Bool.not_true, Bool.not_false, List.toList_toArray]) | omega) only [c3b1, c3, Try.f3, Option.getD_some, sub_seq1, sub_seq0, sub_block, sub_loop, sub_nil, exec_region, runOps_cons, opF_move, ev_tmp, c7, evG_some, putT_some, T.get_set, Nat.reduceEqDiff, c10, if_false, opF_indexAddr, if_true, ev_int, opF_load, opF_assign, runOps_nil, R.ok_bind, ix, ia28_1, l1]
    with_reducible rfl
  refine rows_best (rs := rs) (bo := bo) (own := own) (r := r) (i := i) (xo := xo) (y := y) (by_ := by_) f2 f9 hob hO hS hr h1 h3 hlen (fun s hs => ?_) hb ?_ ?_ ?_
  · obtain ⟨k, hk, rfl⟩ := List.mem_iff_getElem.1 hs
    have hos := hok k rs[k] (List.getElem?_eq_getElem hk)
    have q1 := hos.lt
    have q2 := hos.le
    have q3 := hos.t rs[k].a (Nat.le_refl _) q1
    rw [Nat.sub_zero] at q3
    exact ⟨by omega, q3⟩
  · unfold rwS; simp only [Sl_cons, Sl_nil, T.get_set, T.puts_cons, T.puts_nil, Nat.reduceEqDiff, Nat.reduceAdd, if_true, if_false, and_true, true_and, c5, c6, c7, c9, c10]
  · simp only [T.get_set, Nat.reduceEqDiff, if_false, c11]
  intro t4 bo' hb' hp4
  show W tb1 _ _ _
  obtain ⟨d5, d6, d7, d8, d9, d10, -⟩ := hp4
  have hadd : intOpF .add .i64 ((i : Nat) : Int) ((1 : Nat) : Int) = .ok (.int .i64 ((i + 1 : Nat) : Int)) := op_add_i64 (by omega)
  apply W.run 20
  · intro M
    simp (config := { maxSteps := 4000000 }) (disch := first | decide +kernel | (rw [wantF_guard]; simp only [wantD_some, dstAt_zero, dstAt_succ, T.get_set, T.get_e, Nat.reduceEqDiff, if_true, if_false, wantV_bool, wantV_unit, unitV, cond_true, cond_false, Bool.not_true, Bool.not_false, List.toList_toArray]) | omega) only [c3b1, c3, Try.f3, Option.getD_some, sub_seq1, sub_seq0, sub_block, sub_loop, sub_nil, exec_region, runOps_cons, opF_move, ev_tmp, d10, evG_some, putT_some, opF_ari, T.get_set, if_true, ev_int, opF_assign, Nat.reduceEqDiff, if_false, runOps_nil, R.ok_bind, binF_int, hadd]
    with_reducible rfl
  refine hK _ bo' hb' ?_
  unfold rwS; simp only [Sl_cons, Sl_nil, T.get_set, T.puts_cons, T.puts_nil, Nat.reduceEqDiff, Nat.reduceAdd, if_true, if_false, and_true, true_and, d5, d6, d7, d8, d9]

set_option maxHeartbeats 8000000 in
theorem run_pickRows {A : Mem} {x : Value} (ls : List Nat) (fv : Nat) (hb : ∀ v ∈ ls, v < 65536) (hfv : fv < 256) (hA : 0 < A.next) (hx : ParS A (shorts ls) x) : ∃ A', CallsTo tb1 3 [x, .int .u8 (fv : Int)] A (.bool true) A' := by
  obtain ⟨v, A', h1, h2⟩ : ∃ v A', CallsTo tb1 3 [x, .int .u8 (fv : Int)] A v A' ∧ v = .bool true := by
    refine call_of_W (fn_at Try.func3) c3_eq (by rw [Try.ntmps3]; simp) ?_
    obtain ⟨xo, B, ⟨g1, hg1⟩, hO, EAB⟩ := run_numbersOf hb hx hA
    have hol := ownL_len ls
    have hob := ownL_le hb
    have hBn := EAB.n
    generalize ownL ls = own at hO hol hob
    obtain ⟨bo, hS, hbo⟩ := hO.block (by omega)
    obtain ⟨f, hf⟩ : ∃ f, 2 + fv % 8 = f := ⟨_, rfl⟩
    have f2 : 2 ≤ f := by omega
    have f9 : f ≤ 9 := by omega
    have hob2 : ∀ n ∈ own, n < 4611686018427387904 := fun n hn => by have := hob n hn; omega
    obtain ⟨y, D, by_, ⟨g2, hg2⟩, hY, EBD⟩ := run_rows f2 (by omega) (by omega) hob2 hS hbo
    have hSD := hS.same EBD.n (fun h => EBD.g _ h)
    have hOD : Own D own xo := ⟨bo, hSD⟩
    obtain ⟨G, ⟨g3, hg3⟩, EDG⟩ := run_pick f2 (by omega) (by omega) hob2 hSD (by have := EBD.n; omega)
    obtain ⟨hch, hend⟩ := rows_chain f own.length 0 own (Nat.le_refl _)
    have hrl : (rows f own).length ≤ 1000 := Nat.le_trans (rowsL_len f _ _ _) (by omega)
    have hok : ∀ i r, (rows f own)[i]? = some r → RowOk f 0 own (rows f own) i r := hch
    have hend' : atR 0 (rows f own) (rows f own).length = own.length := by rw [Nat.zero_add] at hend; exact hend
    have hpk : ((rows f own).filter (fullR f)).foldl better none = pickO f own := rfl
    generalize rows f own = rs at hY hok hend' hpk hrl
    have hlenr : builtinPF tb1 .len [26] [y] = .ok (.int .i64 ((rs.length : Nat) : Int)) := by rw [hY.len (tb := tb1) (t := 26) und26, pairs_len]
    apply W.seq
    apply W.run 20
    · intro M
      simp (config := { maxSteps := 4000000 }) (disch := first | decide +kernel | (rw [wantF_guard]; simp only [wantD_some, dstAt_zero, dstAt_succ, T.get_set, T.get_e, Nat.reduceEqDiff, if_true, if_false, wantV_bool, wantV_unit, unitV, cond_true, cond_false, Bool.not_true, Bool.not_false, List.toList_toArray]) | omega) only [c3, Try.f3, Option.getD_some, sub_seq0, sub_nil, T.puts_cons, Nat.reduceAdd, T.puts_nil, exec_region, runOps_cons, opF_assign, ev_bool, putT_some, runOps_nil, R.ok_bind]
      with_reducible rfl
    apply W.seq
    apply W.seq
    apply W.run 20
    · intro M
      simp (config := { maxSteps := 4000000 }) (disch := first | decide +kernel | (rw [wantF_guard]; simp only [wantD_some, dstAt_zero, dstAt_succ, T.get_set, T.get_e, Nat.reduceEqDiff, if_true, if_false, wantV_bool, wantV_unit, unitV, cond_true, cond_false, Bool.not_true, Bool.not_false, List.toList_toArray]) | omega) only [c3, Try.f3, Option.getD_some, sub_seq1, sub_seq0, sub_nil, exec_region, runOps_cons, opF_call, evs, resK, putT_some, opF_un, ev_tmp, T.get_set, Nat.reduceEqDiff, T.get_e, if_false, if_true, evG_some, runOps_nil, R.ok_bind, k6, un_not, Bool.not_true]
      with_reducible rfl
    apply W.run 20
    · intro M
      simp (config := { maxSteps := 4000000 }) (disch := first | decide +kernel | (rw [wantF_guard]; simp only [wantD_some, dstAt_zero, dstAt_succ, T.get_set, T.get_e, Nat.reduceEqDiff, if_true, if_false, wantV_bool, wantV_unit, unitV, cond_true, cond_false, Bool.not_true, Bool.not_false, List.toList_toArray]) | omega) only [c3, Try.f3, Option.getD_some, sub_seq1, sub_seq0, sub_nil, exec_cond, ev_tmp, T.get_set, Nat.reduceEqDiff, T.get_e, if_false, if_true, evG_some, exec_seq, exec_region, runOps_cons, opF_assign, ev_bool, putT_some, runOps_nil, R.ok_bind, exec_ret, exec_skip]
      with_reducible rfl
    show W tb1 _ _ _
    apply W.seq
    apply W.runG (g1) 20
    · intro M hM
      simp (config := { maxSteps := 4000000 }) (disch := first | decide +kernel | (rw [wantF_guard]; simp only [wantD_some, dstAt_zero, dstAt_succ, T.get_set, T.get_e, Nat.reduceEqDiff, if_true, if_false, wantV_bool, wantV_unit, unitV, cond_true, cond_false, Bool.not_true, Bool.not_false, List.toList_toArray]) | omega) only [c3, Try.f3, Option.getD_some, sub_seq1, sub_seq0, sub_nil, exec_region, runOps_cons, opF_move, ev_tmp, T.get_set, Nat.reduceEqDiff, T.get_e, if_true, if_false, evG_some, putT_some, opF_call, evs, R.ok_bind, resK, opF_assign, runOps_nil, hg1]
      with_reducible rfl
    apply W.seq
    apply W.run 20
    · intro M
      simp (config := { maxSteps := 4000000 }) (disch := first | decide +kernel | (rw [wantF_guard]; simp only [wantD_some, dstAt_zero, dstAt_succ, T.get_set, T.get_e, Nat.reduceEqDiff, if_true, if_false, wantV_bool, wantV_unit, unitV, cond_true, cond_false, Bool.not_true, Bool.not_false, List.toList_toArray]) | omega) only [c3, Try.f3, Option.getD_some, sub_seq1, sub_seq0, sub_nil, exec_region, runOps_cons, opF_move, ev_tmp, T.get_set, Nat.reduceEqDiff, T.get_e, if_false, if_true, evG_some, putT_some, opF_ari, ev_int, und5, opF_conv, convPF, und3, opF_assign, runOps_nil, R.ok_bind, binF_int, op_rem, wrapF_i64, op_add_i64, hf]
      with_reducible rfl
    apply W.seq
    apply W.runG (g2) 20
    · intro M hM
      simp (config := { maxSteps := 4000000 }) (disch := first | decide +kernel | (rw [wantF_guard]; simp only [wantD_some, dstAt_zero, dstAt_succ, T.get_set, T.get_e, Nat.reduceEqDiff, if_true, if_false, wantV_bool, wantV_unit, unitV, cond_true, cond_false, Bool.not_true, Bool.not_false, List.toList_toArray]) | omega) only [c3, Try.f3, Option.getD_some, sub_seq1, sub_seq0, sub_nil, exec_region, runOps_cons, opF_move, ev_tmp, T.get_set, Nat.reduceEqDiff, T.get_e, if_false, if_true, evG_some, putT_some, opF_call, evs, R.ok_bind, resK, opF_assign, runOps_nil, hg2]
      with_reducible rfl
    apply W.seq
    apply W.run 20
    · intro M
      simp (config := { maxSteps := 4000000 }) (disch := first | decide +kernel | (rw [wantF_guard]; simp only [wantD_some, dstAt_zero, dstAt_succ, T.get_set, T.get_e, Nat.reduceEqDiff, if_true, if_false, wantV_bool, wantV_unit, unitV, cond_true, cond_false, Bool.not_true, Bool.not_false, List.toList_toArray]) | omega) only [c3, Try.f3, Option.getD_some, sub_seq1, sub_seq0, sub_nil, exec_region, runOps_cons, opF_assign, ev_int, putT_some, ev_neg1, runOps_nil, R.ok_bind]
      with_reducible rfl
    apply W.seq
    apply W.seq
    apply W.run 20
    · intro M
      simp (config := { maxSteps := 4000000 }) (disch := first | decide +kernel | (rw [wantF_guard]; simp only [wantD_some, dstAt_zero, dstAt_succ, T.get_set, T.get_e, Nat.reduceEqDiff, if_true, if_false, wantV_bool, wantV_unit, unitV, cond_true, cond_false, Bool.not_true, Bool.not_false, List.toList_toArray]) | omega) only [c3, Try.f3, Option.getD_some, sub_seq1, sub_seq0, sub_nil, exec_region, runOps_cons, opF_assign, ev_int, putT_some, runOps_nil, R.ok_bind]
      with_reducible rfl
    apply W.block
    refine W.up rs.length (fun i t E => E = D ∧ ∃ bo, bestP f rs i bo ∧ Sl t (rwS xo y (bestV bo) f (atR 0 rs i) i)) ?_ (Nat.zero_le _) ⟨rfl, none, rfl, ?_⟩
    · rintro i t E hi ⟨rfl, bo', hbp, hp⟩
      by_cases hlt : i < rs.length
      · refine rows_round f2 f9 hob hol hOD hY hrl (List.getElem?_eq_getElem hlt) hok hbp hp ?_
        intro t' bo2 hb2 hp2
        exact ⟨hlt, _, _, rfl, rfl, bo2, hb2, hp2⟩
      · have hin : i = rs.length := by omega
        subst hin
        obtain ⟨u5, u6, u7, u8, u9, u10, -⟩ := hp
        rw [hend'] at u8
        rw [c3b1_eq]
        apply W.seq
        apply W.seq
        apply W.run 20
        · intro M
          simp (config := { maxSteps := 4000000 }) (disch := first | decide +kernel | (rw [wantF_guard]; simp only [wantD_some, dstAt_zero, dstAt_succ, T.get_set, T.get_e, Nat.reduceEqDiff, if_true, if_false, wantV_bool, wantV_unit, unitV, cond_true, cond_false, Bool.not_true, Bool.not_false, List.toList_toArray]) | omega) only [c3b1, c3, Try.f3, Option.getD_some, sub_seq1, sub_seq0, sub_block, sub_loop, sub_nil, exec_region, runOps_cons, opF_move, ev_tmp, u10, evG_some, putT_some, T.get_set, Nat.reduceEqDiff, u7, if_false, opF_len, evs, if_true, R.ok_bind, opF_ari, runOps_nil, hlenr, binF_int, op_lssI, cast_lt, Nat.lt_irrefl, decide_false]
          with_reducible rfl
        apply W.run 20
        · intro M
          simp (config := { maxSteps := 4000000 }) (disch := first | decide +kernel | (rw [wantF_guard]; simp only [wantD_some, dstAt_zero, dstAt_succ, T.get_set, T.get_e, Nat.reduceEqDiff, if_true, if_false, wantV_bool, wantV_unit, unitV, cond_true, cond_false, Bool.not_true, Bool.not_false, List.toList_toArray]) | omega) only [c3b1, c3, Try.f3, Option.getD_some, sub_seq1, sub_seq0, sub_block, sub_loop, sub_nil, exec_cond, ev_tmp, T.get_set, Nat.reduceEqDiff, if_false, if_true, evG_some, exec_skip, exec_exit, R.ok_bind]
          with_reducible rfl
        show W tb1 _ _ _
        have lo := (hOD.ext EDG).len
        cases bo' with
        | none =>
          have hbn : pickO f own = none := by
            have h : ((rs.take rs.length).filter (fullR f)).foldl better none = none := hbp
            rw [List.take_length, hpk] at h; exact h
          rw [hbn] at hg3
          unfold pickV at hg3
          have u9' : t.get 9 = some (.int .i64 (-1)) := u9
          apply W.seq
          apply W.runG (g3) 20
          · intro M hM
            simp (config := { maxSteps := 4000000 }) (disch := first | decide +kernel | (rw [wantF_guard]; simp only [wantD_some, dstAt_zero, dstAt_succ, T.get_set, T.get_e, Nat.reduceEqDiff, if_true, if_false, wantV_bool, wantV_unit, unitV, cond_true, cond_false, Bool.not_true, Bool.not_false, List.toList_toArray]) | omega) only [c3, Try.f3, Option.getD_some, sub_seq1, sub_seq0, sub_nil, exec_region, runOps_cons, opF_move, ev_tmp, T.get_set, Nat.reduceEqDiff, u6, if_false, evG_some, putT_some, u5, opF_call, evs, if_true, R.ok_bind, resK, opF_extract, extractF, opF_assign, runOps_nil, hg3, List.getElem?_cons_zero, List.getElem?_cons_succ]
            with_reducible rfl
          apply W.seq
          apply W.seq
          apply W.run 20
          · intro M
            simp (config := { maxSteps := 4000000 }) (disch := first | decide +kernel | (rw [wantF_guard]; simp only [wantD_some, dstAt_zero, dstAt_succ, T.get_set, T.get_e, Nat.reduceEqDiff, if_true, if_false, wantV_bool, wantV_unit, unitV, cond_true, cond_false, Bool.not_true, Bool.not_false, List.toList_toArray]) | omega) only [c3, Try.f3, Option.getD_some, sub_seq1, sub_seq0, sub_nil, exec_region, runOps_cons, opF_move, ev_tmp, T.get_set, Nat.reduceEqDiff, u9', if_false, evG_some, putT_some, opF_ari, if_true, ev_int, runOps_nil, R.ok_bind, binF_int, op_lssI, neg1_lt, decide_true]
            with_reducible rfl
          show W tb1 _ _ _
          apply W.run 20
          · intro M
            simp (config := { maxSteps := 4000000 }) (disch := first | decide +kernel | (rw [wantF_guard]; simp only [wantD_some, dstAt_zero, dstAt_succ, T.get_set, T.get_e, Nat.reduceEqDiff, if_true, if_false, wantV_bool, wantV_unit, unitV, cond_true, cond_false, Bool.not_true, Bool.not_false, List.toList_toArray]) | omega) only [c3, Try.f3, Option.getD_some, sub_seq1, sub_seq0, sub_nil, exec_cond, ev_tmp, T.get_set, Nat.reduceEqDiff, if_false, if_true, evG_some, exec_seq, exec_region, runOps_cons, opF_move, u8, putT_some, u5, opF_len, evs, R.ok_bind, opF_eql, lo, binF_int, op_eql, decide_true, runOps_yes, ev_int, opF_pick, pickF, ev_bool, opF_assign, runOps_nil, exec_ret, exec_skip]
            with_reducible rfl
          refine ⟨.inr rfl, _, [.bool true], rfl, ?_, rfl⟩
          simp only [Try.f3, resF, ev_tmp, T.get_set, Nat.reduceEqDiff, if_true, if_false, evG_some, R.ok_bind]
        | some j =>
          obtain ⟨hj, r, hrj, hbn⟩ := hbp
          rw [List.take_length, hpk] at hbn
          rw [hbn] at hg3
          unfold pickV at hg3
          have u9' : t.get 9 = some (.int .i64 (j : Int)) := u9
          have hYG : SlcM G 28 2 by_ (pairs rs) y := hY.same EDG.n (fun h => EDG.g _ h)
          obtain ⟨ix, l0, l1⟩ := row_at hYG hrj
          apply W.seq
          apply W.runG (g3) 20
          · intro M hM
            simp (config := { maxSteps := 4000000 }) (disch := first | decide +kernel | (rw [wantF_guard]; simp only [wantD_some, dstAt_zero, dstAt_succ, T.get_set, T.get_e, Nat.reduceEqDiff, if_true, if_false, wantV_bool, wantV_unit, unitV, cond_true, cond_false, Bool.not_true, Bool.not_false, List.toList_toArray]) | omega) only [c3, Try.f3, Option.getD_some, sub_seq1, sub_seq0, sub_nil, exec_region, runOps_cons, opF_move, ev_tmp, T.get_set, Nat.reduceEqDiff, u6, if_false, evG_some, putT_some, u5, opF_call, evs, if_true, R.ok_bind, resK, opF_extract, extractF, opF_assign, runOps_nil, hg3, List.getElem?_cons_zero, List.getElem?_cons_succ]
            with_reducible rfl
          apply W.seq
          apply W.seq
          apply W.run 20
          · intro M
            simp (config := { maxSteps := 4000000 }) (disch := first | decide +kernel | (rw [wantF_guard]; simp only [wantD_some, dstAt_zero, dstAt_succ, T.get_set, T.get_e, Nat.reduceEqDiff, if_true, if_false, wantV_bool, wantV_unit, unitV, cond_true, cond_false, Bool.not_true, Bool.not_false, List.toList_toArray]) | omega) only [c3, Try.f3, Option.getD_some, sub_seq1, sub_seq0, sub_nil, exec_region, runOps_cons, opF_move, ev_tmp, T.get_set, Nat.reduceEqDiff, u9', if_false, evG_some, putT_some, opF_ari, if_true, ev_int, runOps_nil, R.ok_bind, binF_int, op_lssI, cast_lt, Nat.not_lt_zero, decide_false]
            with_reducible rfl
          show W tb1 _ _ _
          apply W.run 20
          · intro M
            simp (config := { maxSteps := 4000000 }) (disch := first | decide +kernel | (rw [wantF_guard]; simp only [wantD_some, dstAt_zero, dstAt_succ, T.get_set, T.get_e, Nat.reduceEqDiff, if_true, if_false, wantV_bool, wantV_unit, unitV, cond_true, cond_false, Bool.not_true, Bool.not_false, List.toList_toArray]) | omega) only [c3, Try.f3, Option.getD_some, sub_seq1, sub_seq0, sub_nil, exec_cond, ev_tmp, T.get_set, Nat.reduceEqDiff, if_false, if_true, evG_some, exec_seq, exec_region, runOps_cons, opF_move, putT_some, opF_len, evs, R.ok_bind, opF_eql, exec_ret, exec_skip]
            with_reducible rfl
          show W tb1 _ _ _
          apply W.seq
          apply W.run 20
          · intro M
            simp (config := { maxSteps := 4000000 }) (disch := first | decide +kernel | (rw [wantF_guard]; simp only [wantD_some, dstAt_zero, dstAt_succ, T.get_set, T.get_e, Nat.reduceEqDiff, if_true, if_false, wantV_bool, wantV_unit, unitV, cond_true, cond_false, Bool.not_true, Bool.not_false, List.toList_toArray]) | omega) only [c3, Try.f3, Option.getD_some, sub_seq1, sub_seq0, sub_nil, exec_region, runOps_cons, opF_move, ev_tmp, T.get_set, Nat.reduceEqDiff, u8, if_false, evG_some, putT_some, u5, opF_len, evs, if_true, R.ok_bind, opF_eql, lo, binF_int, op_eql, decide_true, runOps_yes, ev_int, opF_pick, pickF, ev_bool, u7, u9', opF_indexAddr, opF_load, ix, ia28_0, l0, opF_assign, runOps_nil, ia28_1, l1]
            with_reducible rfl
          apply W.run 20
          · intro M
            simp (config := { maxSteps := 4000000 }) (disch := first | decide +kernel | (rw [wantF_guard]; simp only [wantD_some, dstAt_zero, dstAt_succ, T.get_set, T.get_e, Nat.reduceEqDiff, if_true, if_false, wantV_bool, wantV_unit, unitV, cond_true, cond_false, Bool.not_true, Bool.not_false, List.toList_toArray]) | omega) only [c3, Try.f3, Option.getD_some, sub_seq1, sub_nil, exec_ret]
            with_reducible rfl
          refine ⟨.inr rfl, _, [.bool true], rfl, ?_, rfl⟩
          simp only [Try.f3, resF, ev_tmp, T.get_set, Nat.reduceEqDiff, if_true, if_false, evG_some, R.ok_bind]
    · unfold rwS bestV atR; simp only [Sl_cons, Sl_nil, T.get_set, T.puts_cons, T.puts_nil, Nat.reduceEqDiff, Nat.reduceAdd, if_true, if_false, and_true, true_and]
  subst h2
  exact ⟨A', h1⟩
end Go.Proofs.Ytgkolgfkcelljaa.pck

namespace Go.Proofs.Ytgkolgfkcelljaa.pickRows
open Go.ChangeShapes Go.WideShapes Go.ChangeAt Go.RowKit Go.Am
open Go.ChangeMaps (open_string shut_string)
set_option linter.unusedVariables false

theorem own : ownKnob Try.prog.godebug = none := by kernel_rfl
theorem laidOut : laidOutB Try.prog = true := by kernel_rfl

/-- A slice of integers that came in. -/
def IsRow (k : IntKind) (w : World) (a : Option Addr) (len cap : Nat) (zs : List Int) : Prop := ParW k w a len cap zs ∧ ∀ n ∈ zs, (Lit.int k n).wf = true
theorem slice_has {P : Program} {w : World} {base : Nat} {t e : TypeId} {x : Addr} {len cap : Nat} (ht : P.underlying t = some (.slice e)) (h : Value.okWide P w .any base t (.slice (some x) len cap)) : x.spot = none ∧ x.block < w.heap.size := by
  simp only [Value.okWide, Cell.okWide, Cell.ok, ht] at h
  obtain ⟨_, _, _, hsp, row, cells, hsh, _⟩ := h
  refine ⟨hsp, ?_⟩
  unfold World.shape? at hsh
  split at hsh
  · rename_i h2
    exact (Array.getElem?_eq_some_iff.1 h2).1
  · cases hsh

/-! ### The run -/
theorem walk (a0 : Option Addr) (len0 cap0 : Nat) (z0 : List Int) (a1 : Int) (w : World) (w0 : IsRow .u16 w a0 len0 cap0 z0) (w1 : (Lit.int .u8 a1).wf = true) :
    Calls Try.prog 3 #[.slice a0 len0 cap0, .int .u8 a1] w fun e w' => e = .returned (.bool true) ∧ Below w.heap.size w w' := by
  obtain ⟨hp, hz⟩ := w0
  have b1 := bounds_u8 w1

  have hsh : (z0.take len0).map (.int .u16) = pck.shorts ((z0.take len0).map fun z => z.toNat) := by
    simp only [pck.shorts, List.map_map]
    apply List.map_congr_left
    intro n hn
    obtain ⟨h0, h1⟩ := bounds_u16 (hz n (List.mem_of_mem_take hn))
    simp only [Function.comp]
    congr 1
    omega
  have hbd : ∀ v ∈ (z0.take len0).map (fun z => z.toNat), v < 65536 := fun v hv => by
    obtain ⟨n, hn, rfl⟩ := List.mem_map.1 hv
    have := bounds_u16 (hz n (List.mem_of_mem_take hn))
    omega
  have e1 : (Value.int .u8 a1) = .int .u8 ((a1.toNat : Nat) : Int) := by rw [Int.toNat_of_nonneg (by omega)]
  exact (par_true pck.tb1_ok hp (pck.fn_at Try.func3) pck.c3_eq (pre := []) (pre' := []) (post := [.int .u8 a1]) (post' := [.int .u8 a1]) (fun ι => .nil) (fun ι => .cons (.int _ _) .nil) (fun A x hn hwf hP => by
    rw [hsh] at hP
    rw [e1]
    exact pck.run_pickRows _ a1.toNat hbd (by omega) (by omega) hP) (w := w)).mono fun e w' h => ⟨h.1, h.2.below⟩

/-! ### THE ROW's STEP: WRITTEN OUT: LEAVE IT -/
set_option maxRecDepth 100000 in
theorem lifted (os : Os) (started : os.Started) (H : Type) (enc : TypeId × Value → H) :
    ReturnsInHanded {} Try.checked os 3 .any (Rows.pickRowsSpec.pre6 enc Try.prog Try.f3 Rows.pickRowsRow.domain false) (Rows.pickRowsSpec.post enc Try.prog Try.f3 false true false false) := by
  refine returnsInHanded_of_change (C := Try.checked) own started (by kernel_rfl) Try.func3
    (ChangeSpec.witness6 (enc := enc) (C := Try.checked) false ⟨#[], #[.slice none 0 0, .int .u8 0], []⟩ 8 (by kernel_rfl) (by kernel_rfl) (by kernel_rfl) (by kernel_rfl)) ?_
  intro W base args ds gs before hval0 hW hcnd _
  have hval : ∀ (j : Nat) t v, Try.f3.params[j]? = some t → args[j]? = some v → Value.okWide Try.prog W .any base t v := hval0
  have hW' := hW
  obtain ⟨p, q, hA0, hV, rfl, hfz, hnd⟩ := hW
  have hA : DataW.TrodAll enc Try.prog W 0 (fun _ => true) true Try.f3.params.toList args.toList ds p := hA0
  rw [Try.params3] at hA hval
  obtain ⟨v0, vs0, d0, ds0, p0, q0, hargs, rfl, rfl, h0, r0⟩ := trodAll_cons hA
  obtain ⟨v1, vs1, d1, ds1, p1, q1, rfl, rfl, rfl, h1, r1⟩ := trodAll_cons r0
  obtain ⟨rfl, rfl, rfl⟩ := trodAll_nil r1
  obtain rfl : args = #[v0, v1] := by cases args; simp_all
  obtain ⟨rfl, rfl⟩ := trodVars_none hV
  obtain ⟨a0, len0, cap0, rfl⟩ := okWide_slice Try.underlying22 (hval 0 22 v0 rfl rfl)
  have k0 := h0
  have lt0 : ∀ x ∈ p0, x.block < W.heap.size := by obtain ⟨m, hm⟩ := k0; exact DataW.trod_lt m _ _ _ hm
  obtain ⟨z0, w0⟩ : ∃ zs, IsRow .u16 W a0 len0 cap0 zs := by
    obtain ⟨fuel, hf⟩ := h0
    rcases open_ints Try.underlying22 Try.underlying38 (by kernel_rfl) hf with ⟨hcs, _⟩ | ⟨x, l, c, zs, hcs, _, hl, hm, hz, _, hcell, hwz⟩
    · simp [Value.cells] at hcs
      obtain ⟨rfl, rfl, rfl⟩ := hcs
      exact ⟨[], .inl ⟨rfl, rfl, rfl, rfl⟩, fun n h => by cases h⟩
    · simp [Value.cells] at hcs
      obtain ⟨rfl, rfl, rfl⟩ := hcs
      exact ⟨zs, .inr ⟨_, rfl, (slice_has Try.underlying22 (hval 0 22 _ rfl rfl)).1, (slice_has Try.underlying22 (hval 0 22 _ rfl rfl)).2, hl, Nat.lt_of_le_of_lt hm (by decide), by simpa using hz, hcell⟩, hwz⟩
  obtain ⟨a1, rfl, rfl, rfl, w1⟩ := open_int Try.underlying5 (hval 1 5 v1 rfl rfl) h1
  clear hA0 hval0
  refine (walk a0 len0 cap0 z0 a1 W w0 w1).mono fun e W' ⟨he, bel⟩ => ?_
  subst he
  exact ⟨_, rfl, _, _, _, [], _, [], hW', trodAll_mk1 (shut_bool Try.underlying4 _), (trodAll_cons_mk (Below.trod laidOut (by kernel_rfl) (of_decide_eq_true (by kernel_rfl)) k0 bel lt0) (trodAll_cons_mk (shut_int Try.underlying5 w1) trodAll_mk0)), rfl, bel.frame _, fun h => by cases h⟩

theorem over : Rows.pickRowsRow.holds Try.pinned (OpenSpec.ofChange Rows.pickRowsSpec) :=
  OpenClaim.holds_of_wide 3 Try.f3 rfl rfl rfl rfl rfl rfl rfl ⟨rfl, rfl, rfl, rfl, rfl⟩ rfl rfl rfl rfl rfl (by kernel_rfl) Try.func3 (by kernel_rfl)
    (of_decide_eq_true (by kernel_rfl)) (by unfold Func.isWrapper; first | (rw [if_pos (by decide +kernel)]; kernel_rfl) | (rw [if_neg (by decide +kernel)]; exact ⟨rfl, rfl⟩))
    (fun os started H enc _ => lifted os started H enc)

/-- ████ THE STATEMENT ████ -/
theorem proved : Rows.PickRowsSaid := over
#print axioms proved
end Go.Proofs.Ytgkolgfkcelljaa.pickRows
