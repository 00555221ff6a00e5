/-
  What the functions of this group compute on the abstract machine, and the plain laws of it. Part C: conditions stand in each theorem.
-/
import Derived.Test.YtmhldlnlgjpkaaaScrB

/-
  Script: an act is written: its head, its tail, the whole.
-/
namespace Go.Proofs.Ytmhldlnlgjpkaaa.scr
open Go.Am
set_option linter.unusedSimpArgs false
set_option linter.unusedVariables false
set_option maxRecDepth 20000

section
variable {bw b3 b4 b' b'' : Nat} {d : ActD} {xs xo : Value} {bs bs' : List UInt8} {D D' : Mem} {t : T Value} {K : Ex → St → Prop}
set_option maxHeartbeats 4000000 in
theorem wact_cut {k : Nat} (hM : WAct bw b3 b4 d xs xo b' bs D) (hk : k < 100) (hp : Sl t (wpS bw b3 b4)) (h5 : t.get 5 = some (.int .i64 (k : Int)))
    (hK : ∀ t', Sl t' (wpS bw b3 b4) → t'.get 5 = some (.int .i64 ((k + (if d.cut = true then 10 else 0) : Nat) : Int)) → K .nrm ⟨t', 206, [], D, none⟩) :
    W tb1 (.seq (sub c54 [1,1,1,0,0]) (sub c54 [1,1,1,0,1])) ⟨t, 206, [], D, none⟩ K := by
  obtain ⟨g0, g3, g4, -⟩ := hp
  have l1 := hM.lcut
  apply W.seq
  cases hc : d.cut with
  | true =>
    rw [hc] at l1
    rw [hc, if_pos rfl] at hK
    apply W.run 20
    · intro M
      simp (config := { maxSteps := 4000000 }) (disch := first | decide +kernel | (rw [wantF_guard]; simp only [wantD_some, dstAt_zero, dstAt_succ, T.get_set, T.get_e, Nat.reduceEqDiff, if_true, if_false, wantV_bool, wantV_unit, unitV, cond_true, cond_false, Bool.not_true, Bool.not_false, List.toList_toArray]) | omega) only [c54, Try.f54, Option.getD_some, sub_seq1, sub_seq0, sub_nil, exec_region, runOps_cons, opF_fieldAddr, ev_tmp, g3, evG_some, putT_some, opF_load, T.get_set, if_true, runOps_nil, R.ok_bind, fa39_2, l1]
      with_reducible rfl
    show W tb1 _ _ _
    apply W.run 20
    · intro M
      simp (config := { maxSteps := 4000000 }) (disch := first | decide +kernel | (rw [wantF_guard]; simp only [wantD_some, dstAt_zero, dstAt_succ, T.get_set, T.get_e, Nat.reduceEqDiff, if_true, if_false, wantV_bool, wantV_unit, unitV, cond_true, cond_false, Bool.not_true, Bool.not_false, List.toList_toArray]) | omega) only [c54, Try.f54, Option.getD_some, sub_seq1, sub_seq0, sub_nil, exec_cond, ev_tmp, T.get_set, Nat.reduceEqDiff, if_false, if_true, evG_some, exec_region, runOps_cons, opF_move, h5, putT_some, opF_ari, ev_int, opF_assign, runOps_nil, R.ok_bind, binF_int, op_add_i64, exec_skip]
      with_reducible rfl
    refine hK _ ?_ (by simp only [T.get_set, Nat.reduceEqDiff, if_true, if_false])
    unfold wpS; simp only [Sl_cons, Sl_nil, T.get_set, T.puts_cons, T.puts_nil, Nat.reduceEqDiff, Nat.reduceAdd, if_true, if_false, and_true, true_and, g0, g3, g4]
  | false =>
    rw [hc] at l1
    rw [hc, if_neg (by decide)] at hK
    apply W.run 20
    · intro M
      simp (config := { maxSteps := 4000000 }) (disch := first | decide +kernel | (rw [wantF_guard]; simp only [wantD_some, dstAt_zero, dstAt_succ, T.get_set, T.get_e, Nat.reduceEqDiff, if_true, if_false, wantV_bool, wantV_unit, unitV, cond_true, cond_false, Bool.not_true, Bool.not_false, List.toList_toArray]) | omega) only [c54, Try.f54, Option.getD_some, sub_seq1, sub_seq0, sub_nil, exec_region, runOps_cons, opF_fieldAddr, ev_tmp, g3, evG_some, putT_some, opF_load, T.get_set, if_true, runOps_nil, R.ok_bind, fa39_2, l1]
      with_reducible rfl
    show W tb1 _ _ _
    apply W.run 20
    · intro M
      simp (config := { maxSteps := 4000000 }) (disch := first | decide +kernel | (rw [wantF_guard]; simp only [wantD_some, dstAt_zero, dstAt_succ, T.get_set, T.get_e, Nat.reduceEqDiff, if_true, if_false, wantV_bool, wantV_unit, unitV, cond_true, cond_false, Bool.not_true, Bool.not_false, List.toList_toArray]) | omega) only [c54, Try.f54, Option.getD_some, sub_seq1, sub_seq0, sub_nil, exec_cond, ev_tmp, T.get_set, Nat.reduceEqDiff, if_false, if_true, evG_some, exec_region, runOps_cons, opF_move, putT_some, opF_ari, ev_int, opF_assign, runOps_nil, R.ok_bind, exec_skip]
      with_reducible rfl
    refine hK _ ?_ (by simp only [T.get_set, Nat.reduceEqDiff, if_true, if_false, h5, Nat.add_zero])
    unfold wpS; simp only [Sl_cons, Sl_nil, T.get_set, T.puts_cons, T.puts_nil, Nat.reduceEqDiff, Nat.reduceAdd, if_true, if_false, and_true, true_and, g0, g3, g4]
set_option maxHeartbeats 4000000 in
theorem wact_arm {k : Nat} (hM : WAct bw b3 b4 d xs xo b' bs D) (hk : k < 100) (hp : Sl t (wpS bw b3 b4)) (h5 : t.get 5 = some (.int .i64 (k : Int)))
    (hK : ∀ t', Sl t' (wpS bw b3 b4) → t'.get 5 = some (.int .i64 ((k + (if d.arm = 0 then 0 else 20) : Nat) : Int)) → K .nrm ⟨t', 206, [], D, none⟩) :
    W tb1 (.seq (sub c54 [1,1,1,1,0,0]) (sub c54 [1,1,1,1,0,1])) ⟨t, 206, [], D, none⟩ K := by
  obtain ⟨g0, g3, g4, -⟩ := hp
  have l1 := hM.larm
  apply W.seq
  by_cases hc : d.arm = 0
  · rw [hc] at l1
    rw [if_pos hc] at hK
    apply W.run 20
    · intro M
      simp (config := { maxSteps := 4000000 }) (disch := first | decide +kernel | (rw [wantF_guard]; simp only [wantD_some, dstAt_zero, dstAt_succ, T.get_set, T.get_e, Nat.reduceEqDiff, if_true, if_false, wantV_bool, wantV_unit, unitV, cond_true, cond_false, Bool.not_true, Bool.not_false, List.toList_toArray]) | omega) only [c54, Try.f54, Option.getD_some, sub_seq1, sub_seq0, sub_nil, exec_region, runOps_cons, opF_fieldAddr, ev_tmp, g3, evG_some, putT_some, opF_load, T.get_set, if_true, opF_neq, Nat.reduceEqDiff, if_false, ev_int, runOps_nil, R.ok_bind, fa39_1, l1, binF_int, op_neq, ne_eq, not_true_eq_false, decide_false]
      with_reducible rfl
    show W tb1 _ _ _
    apply W.run 20
    · intro M
      simp (config := { maxSteps := 4000000 }) (disch := first | decide +kernel | (rw [wantF_guard]; simp only [wantD_some, dstAt_zero, dstAt_succ, T.get_set, T.get_e, Nat.reduceEqDiff, if_true, if_false, wantV_bool, wantV_unit, unitV, cond_true, cond_false, Bool.not_true, Bool.not_false, List.toList_toArray]) | omega) only [c54, Try.f54, Option.getD_some, sub_seq1, sub_seq0, sub_nil, exec_cond, ev_tmp, T.get_set, Nat.reduceEqDiff, if_false, if_true, evG_some, exec_region, runOps_cons, opF_move, putT_some, opF_ari, ev_int, opF_assign, runOps_nil, R.ok_bind, exec_skip]
      with_reducible rfl
    refine hK _ ?_ (by simp only [T.get_set, Nat.reduceEqDiff, if_true, if_false, h5, Nat.add_zero])
    unfold wpS; simp only [Sl_cons, Sl_nil, T.get_set, T.puts_cons, T.puts_nil, Nat.reduceEqDiff, Nat.reduceAdd, if_true, if_false, and_true, true_and, g0, g3, g4]
  · rw [if_neg hc] at hK
    apply W.run 20
    · intro M
      simp (config := { maxSteps := 4000000 }) (disch := first | decide +kernel | (rw [wantF_guard]; simp only [wantD_some, dstAt_zero, dstAt_succ, T.get_set, T.get_e, Nat.reduceEqDiff, if_true, if_false, wantV_bool, wantV_unit, unitV, cond_true, cond_false, Bool.not_true, Bool.not_false, List.toList_toArray]) | omega) only [c54, Try.f54, Option.getD_some, sub_seq1, sub_seq0, sub_nil, exec_region, runOps_cons, opF_fieldAddr, ev_tmp, g3, evG_some, putT_some, opF_load, T.get_set, if_true, opF_neq, Nat.reduceEqDiff, if_false, ev_int, runOps_nil, R.ok_bind, fa39_1, l1, binF_int, op_neq, ne_eq, hc, not_false_eq_true, decide_true]
      with_reducible rfl
    show W tb1 _ _ _
    apply W.run 20
    · intro M
      simp (config := { maxSteps := 4000000 }) (disch := first | decide +kernel | (rw [wantF_guard]; simp only [wantD_some, dstAt_zero, dstAt_succ, T.get_set, T.get_e, Nat.reduceEqDiff, if_true, if_false, wantV_bool, wantV_unit, unitV, cond_true, cond_false, Bool.not_true, Bool.not_false, List.toList_toArray]) | omega) only [c54, Try.f54, Option.getD_some, sub_seq1, sub_seq0, sub_nil, exec_cond, ev_tmp, T.get_set, Nat.reduceEqDiff, if_false, if_true, evG_some, exec_region, runOps_cons, opF_move, h5, putT_some, opF_ari, ev_int, opF_assign, runOps_nil, R.ok_bind, binF_int, op_add_i64, exec_skip]
      with_reducible rfl
    refine hK _ ?_ (by simp only [T.get_set, Nat.reduceEqDiff, if_true, if_false])
    unfold wpS; simp only [Sl_cons, Sl_nil, T.get_set, T.puts_cons, T.puts_nil, Nat.reduceEqDiff, Nat.reduceAdd, if_true, if_false, and_true, true_and, g0, g3, g4]
set_option maxHeartbeats 4000000 in
theorem wact_armed (hM : WAct bw b3 b4 d xs xo b' bs D) (ha : d.arm ≤ 256) (hl : bs.length ≤ 900000) (hp : Sl t (wpS bw b3 b4))
    (hK : ∀ t' b'' D', WAct bw b3 b4 d xs xo b'' (bs ++ encR d.arm) D' → Wk bw b' D b'' D' → Sl t' (wpS bw b3 b4) → K .nrm ⟨t', 206, [], D', none⟩) :
    W tb1 (.seq (sub c54 [1,1,1,1,1,1,0,0]) (sub c54 [1,1,1,1,1,1,0,1])) ⟨t, 206, [], D, none⟩ K := by
  obtain ⟨g0, g3, g4, -⟩ := hp
  have l1 := hM.larm
  apply W.seq
  by_cases hc : d.arm = 0
  · have he : encR d.arm = [] := by unfold encR; rw [if_pos hc]
    rw [he, List.append_nil] at hK
    rw [hc] at l1
    apply W.run 20
    · intro M
      simp (config := { maxSteps := 4000000 }) (disch := first | decide +kernel | (rw [wantF_guard]; simp only [wantD_some, dstAt_zero, dstAt_succ, T.get_set, T.get_e, Nat.reduceEqDiff, if_true, if_false, wantV_bool, wantV_unit, unitV, cond_true, cond_false, Bool.not_true, Bool.not_false, List.toList_toArray]) | omega) only [c54, Try.f54, Option.getD_some, sub_seq1, sub_seq0, sub_nil, exec_region, runOps_cons, opF_fieldAddr, ev_tmp, g3, evG_some, putT_some, opF_load, T.get_set, if_true, opF_neq, Nat.reduceEqDiff, if_false, ev_int, runOps_nil, R.ok_bind, fa39_1, l1, binF_int, op_neq, ne_eq, not_true_eq_false, decide_false]
      with_reducible rfl
    show W tb1 _ _ _
    apply W.run 20
    · intro M
      simp (config := { maxSteps := 4000000 }) (disch := first | decide +kernel | (rw [wantF_guard]; simp only [wantD_some, dstAt_zero, dstAt_succ, T.get_set, T.get_e, Nat.reduceEqDiff, if_true, if_false, wantV_bool, wantV_unit, unitV, cond_true, cond_false, Bool.not_true, Bool.not_false, List.toList_toArray]) | omega) only [c54, Try.f54, Option.getD_some, sub_seq1, sub_seq0, sub_nil, exec_cond, ev_tmp, T.get_set, Nat.reduceEqDiff, if_false, if_true, evG_some, exec_region, runOps_cons, opF_move, putT_some, opF_fieldAddr, opF_load, opF_ari, ev_int, opF_buildSlice, evp, R.ok_bind, opF_call, evs, resK, runOps_nil, exec_skip]
      with_reducible rfl
    refine hK _ b' _ hM (Wk.refl _ _ _) ?_
    unfold wpS; simp only [Sl_cons, Sl_nil, T.get_set, T.puts_cons, T.puts_nil, Nat.reduceEqDiff, Nat.reduceAdd, if_true, if_false, and_true, true_and, g0, g3, g4]
  · have he : encR d.arm = [UInt8.ofNat (d.arm - 1)] := by unfold encR; rw [if_neg hc]
    rw [he] at hK
    have hsub : intOpF .sub .i64 ((d.arm : Nat) : Int) ((1 : Nat) : Int) = .ok (.int .i64 ((d.arm - 1 : Nat) : Int)) := op_sub_i64 (by omega) (by omega)
    obtain ⟨e1, F1, ⟨g1, hg1⟩, hw1, hk1⟩ := put_one (most := 255) (n := d.arm - 1) hM.w (by omega) (by omega) (by omega)
    apply W.run 20
    · intro M
      simp (config := { maxSteps := 4000000 }) (disch := first | decide +kernel | (rw [wantF_guard]; simp only [wantD_some, dstAt_zero, dstAt_succ, T.get_set, T.get_e, Nat.reduceEqDiff, if_true, if_false, wantV_bool, wantV_unit, unitV, cond_true, cond_false, Bool.not_true, Bool.not_false, List.toList_toArray]) | omega) only [c54, Try.f54, Option.getD_some, sub_seq1, sub_seq0, sub_nil, exec_region, runOps_cons, opF_fieldAddr, ev_tmp, g3, evG_some, putT_some, opF_load, T.get_set, if_true, opF_neq, Nat.reduceEqDiff, if_false, ev_int, runOps_nil, R.ok_bind, fa39_1, l1, binF_int, op_neq, ne_eq, hc, not_false_eq_true, decide_true]
      with_reducible rfl
    show W tb1 _ _ _
    apply W.runG (g1) 20
    · intro M hM
      simp (config := { maxSteps := 4000000 }) (disch := first | decide +kernel | (rw [wantF_guard]; simp only [wantD_some, dstAt_zero, dstAt_succ, T.get_set, T.get_e, Nat.reduceEqDiff, if_true, if_false, wantV_bool, wantV_unit, unitV, cond_true, cond_false, Bool.not_true, Bool.not_false, List.toList_toArray]) | omega) only [c54, Try.f54, Option.getD_some, sub_seq1, sub_seq0, sub_nil, exec_cond, ev_tmp, T.get_set, Nat.reduceEqDiff, if_false, if_true, evG_some, exec_region, runOps_cons, opF_move, g0, putT_some, opF_fieldAddr, g3, opF_load, opF_ari, ev_int, opF_buildSlice, evp, R.ok_bind, opF_call, evs, resK, runOps_nil, fa39_1, l1, binF_int, hsub, bs127, at_slc, hg1, exec_skip]
      with_reducible rfl
    refine hK _ e1 _ (hM.step hw1 hk1) hk1 ?_
    unfold wpS; simp only [Sl_cons, Sl_nil, T.get_set, T.puts_cons, T.puts_nil, Nat.reduceEqDiff, Nat.reduceAdd, if_true, if_false, and_true, true_and, g0, g3, g4]

set_option maxHeartbeats 8000000 in
/-- What stays, and the openings. -/
theorem wact_tail (hok : ActOk2 d) (hM : WAct bw b3 b4 d xs xo b' bs D) (hl : bs.length ≤ 700000) (hp : Sl t (wpS bw b3 b4))
    (hK : ∀ e t' b'' D', (e = .nrm ∨ e = .ret) → WrM bw b'' (bs ++ encS (d.cut || decide (0 < d.arm)) (d.stays, d.opening)) D' → Wk bw b' D b'' D' → K e ⟨t', 206, [], D', none⟩) :
    W tb1 (.seq (.seq (sub c54 [1,1,1,1,1,1,1,1,1,1,0,0]) (sub c54 [1,1,1,1,1,1,1,1,1,1,0,1])) (.seq (sub c54 [1,1,1,1,1,1,1,1,1,1,1,0]) (.seq (sub c54 [1,1,1,1,1,1,1,1,1,1,1,1,0]) (.seq (sub c54 [1,1,1,1,1,1,1,1,1,1,1,1,1,0]) (.seq (sub c54 [1,1,1,1,1,1,1,1,1,1,1,1,1,1,0]) (.block 1 (.loop c54b1))))))) ⟨t, 206, [], D, none⟩ K := by
  have hp' := hp
  obtain ⟨g0, g3, g4, -⟩ := hp'
  have l1 := hM.lcut
  have l2 := hM.larm
  have l3 := hM.lst
  have l4 := hM.lop
  have n3 := hM.st.len
  have n4 := hM.op.len
  have s5 := hok.ok.stays
  have s3 := hok.ok.opening
  apply W.seq
  apply W.seq
  by_cases hc : d.cut = false ∧ d.arm = 0
  · obtain ⟨h1, h2⟩ := hc
    obtain ⟨z1, z2⟩ := hok.ok.none h1 h2
    have he : encS (d.cut || decide (0 < d.arm)) (d.stays, d.opening) = [] := by rw [h1, h2]; rfl
    rw [he, List.append_nil] at hK
    rw [h1] at l1
    rw [h2] at l2
    rw [z1] at n3
    rw [z2] at n4
    obtain ⟨D1, ⟨g1, hg1⟩, hw1, hk1⟩ := run_must hM.w
    apply W.run 20
    · intro M
      simp (config := { maxSteps := 4000000 }) (disch := first | decide +kernel | (rw [wantF_guard]; simp only [wantD_some, dstAt_zero, dstAt_succ, T.get_set, T.get_e, Nat.reduceEqDiff, if_true, if_false, wantV_bool, wantV_unit, unitV, cond_true, cond_false, Bool.not_true, Bool.not_false, List.toList_toArray]) | omega) only [c54, Try.f54, Option.getD_some, sub_seq1, sub_seq0, sub_nil, exec_region, runOps_cons, opF_fieldAddr, ev_tmp, g3, evG_some, putT_some, opF_load, T.get_set, if_true, opF_un, Nat.reduceEqDiff, if_false, opF_move, R.ok_bind, fa39_2, l1, un_not, Bool.not_false, runOps_yes, opF_eql, ev_int, opF_pick, pickF, ev_bool, runOps_nil, fa39_1, l2, binF_int, op_eql, decide_true]
      with_reducible rfl
    show W tb1 _ _ _
    apply W.runG (g1) 20
    · intro M hM
      simp (config := { maxSteps := 4000000 }) (disch := first | decide +kernel | (rw [wantF_guard]; simp only [wantD_some, dstAt_zero, dstAt_succ, T.get_set, T.get_e, Nat.reduceEqDiff, if_true, if_false, wantV_bool, wantV_unit, unitV, cond_true, cond_false, Bool.not_true, Bool.not_false, List.toList_toArray]) | omega) only [c54, Try.f54, Option.getD_some, sub_seq1, sub_seq0, sub_nil, exec_cond, ev_tmp, T.get_set, Nat.reduceEqDiff, if_false, if_true, evG_some, exec_seq, exec_region, runOps_cons, opF_move, g0, putT_some, opF_fieldAddr, g3, opF_load, opF_len, evs, R.ok_bind, opF_eql, ev_int, fa39_3, l3, n3, binF_int, op_eql, decide_true, runOps_yes, opF_pick, pickF, ev_bool, opF_call, resK, runOps_nil, fa39_4, l4, n4, hg1, exec_ret, exec_skip]
      with_reducible rfl
    exact hK _ _ b' _ (.inr rfl) hw1 hk1
  · have hcc : (d.cut || decide (0 < d.arm)) = true := by
      cases h1 : d.cut with
      | true => rfl
      | false =>
        have : d.arm ≠ 0 := fun h => hc ⟨h1, h⟩
        simp; omega
    have he : encS (d.cut || decide (0 < d.arm)) (d.stays, d.opening) = [UInt8.ofNat (d.stays.length + 6 * d.opening.length)] ++ encNs d.stays ++ encOs d.opening := by
      rw [hcc]; unfold encS; rw [if_pos rfl]; simp
    rw [he] at hK
    have first : ∀ {K : Ex → St → Prop}, (∀ t', Sl t' (wpS bw b3 b4) → K .nrm ⟨t', 206, [], D, none⟩) → W tb1 (sub c54 [1,1,1,1,1,1,1,1,1,1,0,0]) ⟨t, 206, [], D, none⟩ (Then tb1 (sub c54 [1,1,1,1,1,1,1,1,1,1,0,1]) K) := by
      intro K hK
      cases h1 : d.cut with
      | true =>
        rw [h1] at l1
        apply W.run 20
        · intro M
          simp (config := { maxSteps := 4000000 }) (disch := first | decide +kernel | (rw [wantF_guard]; simp only [wantD_some, dstAt_zero, dstAt_succ, T.get_set, T.get_e, Nat.reduceEqDiff, if_true, if_false, wantV_bool, wantV_unit, unitV, cond_true, cond_false, Bool.not_true, Bool.not_false, List.toList_toArray]) | omega) only [c54, Try.f54, Option.getD_some, sub_seq1, sub_seq0, sub_nil, exec_region, runOps_cons, opF_fieldAddr, ev_tmp, g3, evG_some, putT_some, opF_load, T.get_set, if_true, opF_un, Nat.reduceEqDiff, if_false, opF_move, R.ok_bind, fa39_2, l1, un_not, Bool.not_true, runOps_no, opF_pick, pickF, ev_bool, runOps_nil]
          with_reducible rfl
        show W tb1 _ _ _
        apply W.run 20
        · intro M
          simp (config := { maxSteps := 4000000 }) (disch := first | decide +kernel | (rw [wantF_guard]; simp only [wantD_some, dstAt_zero, dstAt_succ, T.get_set, T.get_e, Nat.reduceEqDiff, if_true, if_false, wantV_bool, wantV_unit, unitV, cond_true, cond_false, Bool.not_true, Bool.not_false, List.toList_toArray]) | omega) only [c54, Try.f54, Option.getD_some, sub_seq1, sub_seq0, sub_nil, exec_cond, ev_tmp, T.get_set, Nat.reduceEqDiff, if_false, if_true, evG_some, exec_seq, exec_region, runOps_cons, opF_move, putT_some, opF_fieldAddr, opF_load, opF_len, evs, R.ok_bind, opF_eql, ev_int, exec_ret, exec_skip]
          with_reducible rfl
        apply hK
        unfold wpS; simp only [Sl_cons, Sl_nil, T.get_set, T.puts_cons, T.puts_nil, Nat.reduceEqDiff, Nat.reduceAdd, if_true, if_false, and_true, true_and, g0, g3, g4]
      | false =>
        have h2 : d.arm ≠ 0 := fun h => hc ⟨h1, h⟩
        rw [h1] at l1
        apply W.run 20
        · intro M
          simp (config := { maxSteps := 4000000 }) (disch := first | decide +kernel | (rw [wantF_guard]; simp only [wantD_some, dstAt_zero, dstAt_succ, T.get_set, T.get_e, Nat.reduceEqDiff, if_true, if_false, wantV_bool, wantV_unit, unitV, cond_true, cond_false, Bool.not_true, Bool.not_false, List.toList_toArray]) | omega) only [c54, Try.f54, Option.getD_some, sub_seq1, sub_seq0, sub_nil, exec_region, runOps_cons, opF_fieldAddr, ev_tmp, g3, evG_some, putT_some, opF_load, T.get_set, if_true, opF_un, Nat.reduceEqDiff, if_false, opF_move, R.ok_bind, fa39_2, l1, un_not, Bool.not_false, runOps_yes, opF_eql, ev_int, opF_pick, pickF, ev_bool, runOps_nil, fa39_1, l2, binF_int, op_eql, h2, decide_false]
          with_reducible rfl
        show W tb1 _ _ _
        apply W.run 20
        · intro M
          simp (config := { maxSteps := 4000000 }) (disch := first | decide +kernel | (rw [wantF_guard]; simp only [wantD_some, dstAt_zero, dstAt_succ, T.get_set, T.get_e, Nat.reduceEqDiff, if_true, if_false, wantV_bool, wantV_unit, unitV, cond_true, cond_false, Bool.not_true, Bool.not_false, List.toList_toArray]) | omega) only [c54, Try.f54, Option.getD_some, sub_seq1, sub_seq0, sub_nil, exec_cond, ev_tmp, T.get_set, Nat.reduceEqDiff, if_false, if_true, evG_some, exec_seq, exec_region, runOps_cons, opF_move, putT_some, opF_fieldAddr, opF_load, opF_len, evs, R.ok_bind, opF_eql, ev_int, exec_ret, exec_skip]
          with_reducible rfl
        apply hK
        unfold wpS; simp only [Sl_cons, Sl_nil, T.get_set, T.puts_cons, T.puts_nil, Nat.reduceEqDiff, Nat.reduceAdd, if_true, if_false, and_true, true_and, g0, g3, g4]
    refine first ?_
    rintro t1 ⟨f0, f3, f4, -⟩
    show W tb1 _ _ _
    have c6 : d.stays.length < 6 := by omega
    have c4 : d.opening.length < 4 := by omega
    obtain ⟨D1, ⟨g1, hg1⟩, hw1, hk1⟩ := run_must hM.w
    have hM1 := hM.step hw1 hk1
    have m3 := hM1.lst
    have m4 := hM1.lop
    have k3 := hM1.st.len
    have k4 := hM1.op.len
    obtain ⟨y, y', D2, D3, b3', f1, f2, f3', f4', f5, f6, -⟩ := wr_app (n := d.stays.length + 6 * d.opening.length) hw1 (by omega) (by omega)
    have hmod : (d.stays.length + 6 * d.opening.length) % 256 = d.stays.length + 6 * d.opening.length := by omega
    have b6 : 6 * d.opening.length < 9223372036854775808 := by omega
    have b7 : d.stays.length + 6 * d.opening.length < 9223372036854775808 := by omega
    have hM3 := hM1.step f5 f6
    have o3 := hM3.lst
    obtain ⟨b5, D4, ⟨g4', hg4⟩, hw4, hk4⟩ := run_nums hM3.w (by simp only [List.length_append, List.length_singleton]; omega) hM3.st hok.stays
    have hM4 := hM3.step hw4 hk4
    have p4 := hM4.lop
    have p5 := hM4.op.len
    apply W.seq
    apply W.runG (g1) 20
    · intro M hM
      simp (config := { maxSteps := 4000000 }) (disch := first | decide +kernel | (rw [wantF_guard]; simp only [wantD_some, dstAt_zero, dstAt_succ, T.get_set, T.get_e, Nat.reduceEqDiff, if_true, if_false, wantV_bool, wantV_unit, unitV, cond_true, cond_false, Bool.not_true, Bool.not_false, List.toList_toArray]) | omega) only [c54, Try.f54, Option.getD_some, sub_seq1, sub_seq0, sub_nil, exec_region, runOps_cons, opF_move, ev_tmp, f0, evG_some, putT_some, opF_fieldAddr, T.get_set, Nat.reduceEqDiff, f3, if_false, opF_load, if_true, opF_len, evs, R.ok_bind, opF_ari, ev_int, fa39_3, l3, n3, binF_int, op_lssI, cast_lt, c6, decide_true, runOps_yes, opF_pick, pickF, ev_bool, opF_call, resK, runOps_nil, fa39_4, l4, n4, c4, hg1]
      with_reducible rfl
    apply W.seq
    apply W.run 20
    · intro M
      simp (config := { maxSteps := 4000000 }) (disch := first | decide +kernel | (rw [wantF_guard]; simp only [wantD_some, dstAt_zero, dstAt_succ, T.get_set, T.get_e, Nat.reduceEqDiff, if_true, if_false, wantV_bool, wantV_unit, unitV, cond_true, cond_false, Bool.not_true, Bool.not_false, List.toList_toArray]) | omega) only [c54, Try.f54, Option.getD_some, sub_seq1, sub_seq0, sub_nil, exec_draw, runOps_cons, opF_move, ev_tmp, T.get_set, Nat.reduceEqDiff, f0, if_false, evG_some, putT_some, opF_nilCheck, if_true, opF_fieldAddr, opF_load, f3, opF_len, evs, R.ok_bind, opF_ari, ev_int, und3, opF_conv, convPF, und5, opF_buildSlice, evp, opF_builtin, opF_store, putT_none, runOps_nil, builtin_append, fa39_4, m4, k4, binF_int, op_mul_i64, fa39_3, m3, k3, op_add_i64, wrapF_u8, hmod, bs22, at_slc, nil_ptr, fa85_0, f1, f3', f4']
      with_reducible rfl
    apply W.seq
    apply W.runG (g4') 20
    · intro M hM
      simp (config := { maxSteps := 4000000 }) (disch := first | decide +kernel | (rw [wantF_guard]; simp only [wantD_some, dstAt_zero, dstAt_succ, T.get_set, T.get_e, Nat.reduceEqDiff, if_true, if_false, wantV_bool, wantV_unit, unitV, cond_true, cond_false, Bool.not_true, Bool.not_false, List.toList_toArray]) | omega) only [c54, Try.f54, Option.getD_some, sub_seq1, sub_seq0, sub_nil, exec_region, runOps_cons, opF_move, ev_tmp, T.get_set, Nat.reduceEqDiff, f0, if_false, evG_some, putT_some, opF_fieldAddr, f3, opF_load, if_true, opF_call, evs, R.ok_bind, resK, runOps_nil, fa39_3, o3, hg4]
      with_reducible rfl
    apply W.seq
    apply W.run 20
    · intro M
      simp (config := { maxSteps := 4000000 }) (disch := first | decide +kernel | (rw [wantF_guard]; simp only [wantD_some, dstAt_zero, dstAt_succ, T.get_set, T.get_e, Nat.reduceEqDiff, if_true, if_false, wantV_bool, wantV_unit, unitV, cond_true, cond_false, Bool.not_true, Bool.not_false, List.toList_toArray]) | omega) only [c54, Try.f54, Option.getD_some, sub_seq1, sub_seq0, sub_nil, exec_region, runOps_cons, opF_fieldAddr, ev_tmp, T.get_set, Nat.reduceEqDiff, f3, if_false, evG_some, putT_some, opF_load, if_true, opF_len, evs, R.ok_bind, opF_move, ev_int, runOps_nil, fa39_4, p4, p5]
      with_reducible rfl
    refine wact_opens (m := 3) (fun o ho => hok.ok.each o ho) hok.opening hM4 ?_ s3 ?_ ?_ ?_ ?_ ?_
    · simp only [encNs, List.length_append, List.length_singleton, List.length_map]; omega
    · unfold wpS; simp only [Sl_cons, Sl_nil, T.get_set, T.puts_cons, T.puts_nil, Nat.reduceEqDiff, Nat.reduceAdd, if_true, if_false, and_true, true_and, f0, f3, f4]
    · simp only [T.get_set, Nat.reduceEqDiff, if_true, if_false]
    · simp only [T.get_set, Nat.reduceEqDiff, if_true, if_false]
    · simp only [T.get_set, Nat.reduceEqDiff, if_true, if_false]
    · intro t2 b6' D5 hM5 hk5
      have e : bs ++ [UInt8.ofNat (d.stays.length + 6 * d.opening.length)] ++ encNs d.stays ++ encOs d.opening = bs ++ ([UInt8.ofNat (d.stays.length + 6 * d.opening.length)] ++ encNs d.stays ++ encOs d.opening) := by simp
      have hw5 := hM5.w
      rw [e] at hw5
      exact hK _ _ b6' _ (.inl rfl) hw5 (((hk1.trans f6).trans hk4).trans hk5)
end

set_option maxHeartbeats 8000000 in
theorem run_wact {bw b : Nat} {bs : List UInt8} {C : Mem} {d : ActD} {l : List Value} (h : WrM bw b bs C) (hl : bs.length ≤ 600000) (hok : ActOk2 d) (hA : ActR (Nb bw b) C d l) :
    ∃ b' C', Ans tb1 54 [.pointer (some ⟨bw, 0, none⟩), .agg ⟨l⟩] C (.tuple ⟨[]⟩) C' ∧ WrM bw b' (bs ++ encA d) C' ∧ Wk bw b C b' C' := by
  obtain ⟨xs, xo, rfl, hxs, hxo⟩ := hA
  obtain ⟨v, A', ha, b', rfl, hw, hk⟩ : ∃ v A', Ans tb1 54 [.pointer (some ⟨bw, 0, none⟩), .agg ⟨cellsD d.kind d.word d.weight d.k d.n d.arm d.cut xs xo⟩] C v A' ∧ ∃ b', v = .tuple ⟨[]⟩ ∧ WrM bw b' (bs ++ encA d) A' ∧ Wk bw b C b' A' := by
    refine ans_of_W (fn_at Try.func54) c54_eq (by rw [Try.ntmps54]; simp) (by kernel_rfl) (by kernel_rfl) ?_
    obtain ⟨o1, o2⟩ := h.lt
    have hE1 : Ext C (C.alloc (rowOb 39 (cellsD d.kind d.word d.weight d.k d.n d.arm d.cut xs xo))) := Ext.alloc C _
    have hn1 : (C.alloc (rowOb 39 (cellsD d.kind d.word d.weight d.k d.n d.arm d.cut xs xo))).next = C.next + 1 := next_alloc _ _
    have hv1 : Vals (C.alloc (rowOb 39 (cellsD d.kind d.word d.weight d.k d.n d.arm d.cut xs xo))) 39 C.next (.var 9) (cellsD d.kind d.word d.weight d.k d.n d.arm d.cut xs xo) := Go.Am.vals_new C 39 _
    generalize hC1 : C.alloc (rowOb 39 (cellsD d.kind d.word d.weight d.k d.n d.arm d.cut xs xo)) = C1 at hE1 hn1 hv1
    obtain ⟨d35, hd1, hd2⟩ := und35
    have a0 := load_part (tb := tb1) (t := 35) (o := 0) (n := 5) hd1 hd2 size35 hv1 (by show 5 ≤ 9; omega)
    rw [show ((cellsD d.kind d.word d.weight d.k d.n d.arm d.cut xs xo).drop 0).take 5 = [.int .i64 (d.kind : Int), strOf d.word, .int .u32 (d.weight : Int), .int .i64 d.k, .int .i64 d.n] from rfl] at a0
    have a1 : loadF tb1 C1.get 3 (.pointer (some ⟨C.next, 0, none⟩)) = .ok (.int .i64 (d.kind : Int)) := load_vals und3 rfl hv1 rfl
    have hE2 : Ext C1 (C1.alloc (rowOb 35 [.int .i64 0, .string ⟨#[]⟩, .int .u32 0, .int .i64 0, .int .i64 0])) := Ext.alloc C1 _
    have hn2 : (C1.alloc (rowOb 35 [.int .i64 0, .string ⟨#[]⟩, .int .u32 0, .int .i64 0, .int .i64 0])).next = C1.next + 1 := next_alloc _ _
    have hv2 : Vals (C1.alloc (rowOb 35 [.int .i64 0, .string ⟨#[]⟩, .int .u32 0, .int .i64 0, .int .i64 0])) 35 C1.next (.var 5) [.int .i64 0, .string ⟨#[]⟩, .int .u32 0, .int .i64 0, .int .i64 0] := Go.Am.vals_new C1 35 _
    obtain ⟨C3, hst, hv3, hn3, hf3⟩ := store_all (tb := tb1) (t := 35) (l' := [.int .i64 (d.kind : Int), strOf d.word, .int .u32 (d.weight : Int), .int .i64 d.k, .int .i64 d.n]) (by rw [size35]; rfl) hv2 rfl (by simp) (fun v hv => by
      simp only [List.mem_cons, List.not_mem_nil, or_false] at hv
      rcases hv with rfl | rfl | rfl | rfl | rfl <;> rfl)
    have hE3 : Ext C1 C3 := hE2.put (b := C1.next) (Nat.le_refl _) hn3 hf3
    have hEC := hE1.trans hE3
    have hkC : Wk bw b C b C3 := Wk.ext hEC
    have a1' : loadF tb1 C3.get 3 (.pointer (some ⟨C.next, 0, none⟩)) = .ok (.int .i64 (d.kind : Int)) := load_vals und3 rfl (hv1.same (hE3.g _ (by omega))) rfl
    have hself := sameV_int 99 .i64 (d.kind : Int)
    have hM : WAct bw C.next C1.next d xs xo b bs C3 := {
      w := h.ext hEC
      h3 := hv1.same (hE3.g _ (by omega))
      h4 := hv3
      n3 := ⟨by omega, by omega⟩
      n4 := ⟨by omega, by omega⟩
      l3 := by omega
      l4 := by omega
      st := hxs.same hkC.n hkC.keep
      op := hxo.same hkC.n hkC.keep }
    have k9 := hok.ok.kind
    have k10 : d.kind < 10 := by omega
    obtain ⟨D1, ⟨g1, hg1⟩, hw1, hk1⟩ := run_must hM.w
    have hM1 := hM.step hw1 hk1
    apply W.seq
    apply W.run 20
    · intro M
      simp (config := { maxSteps := 4000000 }) (disch := first | decide +kernel | (rw [wantF_guard]; simp only [wantD_some, dstAt_zero, dstAt_succ, T.get_set, T.get_e, Nat.reduceEqDiff, if_true, if_false, wantV_bool, wantV_unit, unitV, cond_true, cond_false, Bool.not_true, Bool.not_false, List.toList_toArray]) | omega) only [c54, Try.f54, Option.getD_some, sub_seq0, sub_nil, T.puts_cons, Nat.reduceAdd, T.puts_nil, exec_region, runOps_cons, opF_box, ev_tmp, T.get_set, Nat.reduceEqDiff, T.get_e, if_false, if_true, evG_some, at_ptr, putT_some, runOps_nil, R.ok_bind, cells_agg, hC1]
      with_reducible rfl
    apply W.seq
    apply W.run 20
    · intro M
      simp (config := { maxSteps := 4000000 }) (disch := first | decide +kernel | (rw [wantF_guard]; simp only [wantD_some, dstAt_zero, dstAt_succ, T.get_set, T.get_e, Nat.reduceEqDiff, if_true, if_false, wantV_bool, wantV_unit, unitV, cond_true, cond_false, Bool.not_true, Bool.not_false, List.toList_toArray]) | omega) only [c54, Try.f54, Option.getD_some, sub_seq1, sub_seq0, sub_nil, exec_float [(4, 6)], runD_P, Nat.reduceAdd, opF_fieldAddr, ev_tmp, T.get_set, Nat.reduceEqDiff, T.get_e, if_false, if_true, evG_some, putT_some, runD_Rd, rOp_load, R.ok_bind, selF_nil, rereadM_nil, runD_Al, opF_alloc, zero35, at_ptr, runD_L, selF_no, List.map_nil, hide_nil, backF_nil, selR_yes, selR_no, selR_nil, rereadR_cons, reread_load, rereadR_nil, Bool.and_true, opF_assign, opF_store, putT_none, runD_end, cells_agg, cond_true, fa39_0, fa35_0, a1, a0, hst, a1', rereadV_eq, hself]
      with_reducible rfl
    apply W.seq
    apply W.runG (g1) 20
    · intro M hM
      simp (config := { maxSteps := 4000000 }) (disch := first | decide +kernel | (rw [wantF_guard]; simp only [wantD_some, dstAt_zero, dstAt_succ, T.get_set, T.get_e, Nat.reduceEqDiff, if_true, if_false, wantV_bool, wantV_unit, unitV, cond_true, cond_false, Bool.not_true, Bool.not_false, List.toList_toArray]) | omega) only [c54, Try.f54, Option.getD_some, sub_seq1, sub_seq0, sub_nil, exec_region, runOps_cons, opF_move, ev_tmp, T.get_set, Nat.reduceEqDiff, T.get_e, if_true, if_false, evG_some, putT_some, opF_ari, ev_int, R.ok_bind, binF_int, op_geq, cast_le, Nat.zero_le, decide_true, runOps_yes, opF_pick, pickF, ev_bool, opF_call, evs, resK, runOps_nil, op_lssI, cast_lt, k10, hg1]
      with_reducible rfl
    apply W.seq
    refine wact_cut (k := d.kind) hM1 (by omega) ?_ ?_ ?_
    · unfold wpS; simp only [Sl_cons, Sl_nil, T.get_set, T.puts_cons, T.puts_nil, Nat.reduceEqDiff, Nat.reduceAdd, if_true, if_false, and_true, true_and]
    · simp only [T.get_set, T.puts_cons, T.puts_nil, Nat.reduceEqDiff, Nat.reduceAdd, if_true, if_false]
    intro t1 hp1 h51
    show W tb1 _ _ _
    apply W.seq
    refine wact_arm hM1 (by split <;> omega) hp1 h51 ?_
    intro t2 hp2 h52
    show W tb1 _ _ _
    obtain ⟨kk, hkk⟩ : ∃ kk, d.kind + (if d.cut = true then 10 else 0) + (if d.arm = 0 then 0 else 20) = kk := ⟨_, rfl⟩
    rw [hkk] at h52
    have hkl : kk < 256 := by rw [← hkk]; split <;> split <;> omega
    have hkm : kk % 256 = kk := by omega
    obtain ⟨y, y', D2, D3, b2, f1, f2, f3, f4, f5, f6, -⟩ := wr_app (n := kk) hM1.w (by omega) hkl
    have hM2 := hM1.step f5 f6
    have hp2' := hp2
    obtain ⟨g0, g3, g4, -⟩ := hp2'
    apply W.seq
    apply W.run 20
    · intro M
      simp (config := { maxSteps := 4000000 }) (disch := first | decide +kernel | (rw [wantF_guard]; simp only [wantD_some, dstAt_zero, dstAt_succ, T.get_set, T.get_e, Nat.reduceEqDiff, if_true, if_false, wantV_bool, wantV_unit, unitV, cond_true, cond_false, Bool.not_true, Bool.not_false, List.toList_toArray]) | omega) only [c54, Try.f54, Option.getD_some, sub_seq1, sub_seq0, sub_nil, exec_region, runOps_cons, opF_move, ev_tmp, g0, evG_some, putT_some, T.get_set, Nat.reduceEqDiff, if_false, opF_nilCheck, if_true, opF_fieldAddr, opF_load, h52, opF_conv, convPF, und3, und5, opF_buildSlice, evp, R.ok_bind, opF_builtin, evs, opF_store, putT_none, runOps_nil, builtin_append, wrapF_u8, hkm, bs22, at_slc, nil_ptr, fa85_0, f1, f3, f4]
      with_reducible rfl
    apply W.seq
    refine wact_armed hM2 hok.ok.arm (by simp only [List.length_append, List.length_singleton]; omega) ?_ ?_
    · unfold wpS; simp only [Sl_cons, Sl_nil, T.get_set, T.puts_cons, T.puts_nil, Nat.reduceEqDiff, Nat.reduceAdd, if_true, if_false, and_true, true_and, g0, g3, g4]
    intro t3 b5 D4 hM3 hk3 hp3
    show W tb1 _ _ _
    have lr := encR_len d.arm
    have lw := encW_len d.word
    have lwl := hok.ok.word
    have lm := encM_len d.kind (d.weight, d.k, d.n)
    have m1 := hM3.lword
    obtain ⟨b6, D5, ⟨g5, hg5⟩, hw5, hk5⟩ := run_wword hM3.w (by simp only [List.length_append, List.length_singleton]; omega) hok.word
    have hM4 := hM3.step hw5 hk5
    obtain ⟨e0, e3, e4, -⟩ := hp3
    apply W.seq
    apply W.runG (g5) 20
    · intro M hM
      simp (config := { maxSteps := 4000000 }) (disch := first | decide +kernel | (rw [wantF_guard]; simp only [wantD_some, dstAt_zero, dstAt_succ, T.get_set, T.get_e, Nat.reduceEqDiff, if_true, if_false, wantV_bool, wantV_unit, unitV, cond_true, cond_false, Bool.not_true, Bool.not_false, List.toList_toArray]) | omega) only [c54, Try.f54, Option.getD_some, sub_seq1, sub_seq0, sub_nil, exec_region, runOps_cons, opF_move, ev_tmp, e0, evG_some, putT_some, opF_fieldAddr, T.get_set, Nat.reduceEqDiff, e4, if_false, opF_load, if_true, opF_call, evs, R.ok_bind, resK, runOps_nil, fa35_1, m1, hg5]
      with_reducible rfl
    apply W.seq
    refine wact_switch hok hM4 (by simp only [List.length_append, List.length_singleton]; omega) ?_ ?_
    · unfold wpS; simp only [Sl_cons, Sl_nil, T.get_set, T.puts_cons, T.puts_nil, Nat.reduceEqDiff, Nat.reduceAdd, if_true, if_false, and_true, true_and, e0, e3, e4]
    intro t4 b7 D6 hM5 hk6 hp4
    show W tb1 _ _ _
    apply W.seq
    have li : (if weighs d.kind = true then encM d.kind (d.weight, d.k, d.n) else []).length ≤ 1 := by split <;> simp [lm]
    refine wact_ask hok hM5 (by simp only [List.length_append, List.length_singleton]; omega) hp4 ?_
    intro t5 b8 D7 hM6 hk7 hp5
    show W tb1 _ _ _
    have li2 : (if weighs d.kind = true then [] else encM d.kind (d.weight, d.k, d.n)).length ≤ 1 := by split <;> simp [lm]
    refine wact_tail hok hM6 (by simp only [List.length_append, List.length_singleton]; omega) hp5 ?_
    intro e t6 b9 D8 he hw9 hk9
    refine ⟨he, D8, [], rfl, rfl, b9, rfl, ?_, ?_⟩
    · have e2 : bs ++ [UInt8.ofNat kk] ++ encR d.arm ++ encW d.word ++ (if weighs d.kind = true then encM d.kind (d.weight, d.k, d.n) else []) ++ (if weighs d.kind = true then [] else encM d.kind (d.weight, d.k, d.n)) ++ encS (d.cut || decide (0 < d.arm)) (d.stays, d.opening) = bs ++ encA d := by
        unfold encA
        rw [hkk]
        cases weighs d.kind <;> simp
      rw [e2] at hw9
      exact hw9
    · exact ((((((hkC.trans hk1).trans f6).trans hk3).trans hk5).trans hk6).trans hk7).trans hk9
  exact ⟨b', A', ha, hw, hk⟩
end Go.Proofs.Ytmhldlnlgjpkaaa.scr

/-
  Script: a setting is written.
-/
namespace Go.Proofs.Ytmhldlnlgjpkaaa.scr
open Go.Am
set_option linter.unusedSimpArgs false
set_option linter.unusedVariables false
set_option maxRecDepth 20000

theorem encA_len {d : ActD} (h : ActOk2 d) : (encA d).length ≤ 300 := by
  have h1 := encR_len d.arm
  have h2 := encW_len d.word
  have h3 := h.ok.word
  have h4 := encM_len d.kind (d.weight, d.k, d.n)
  have h5 := h.ok.stays
  have h6 := h.ok.opening
  have h7 := encOs_len (l := d.opening) (m := 3) fun o ho => (h.ok.each o ho).2.2
  have h8 := Nat.mul_le_mul_right 5 h6
  have h9 : (encS (d.cut || decide (0 < d.arm)) (d.stays, d.opening)).length ≤ 21 := by
    unfold encS
    split
    · simp only [List.length_cons, List.length_append, encNs, List.length_map]; omega
    · simp
  unfold encA
  simp only [List.length_cons, List.length_append]
  omega
theorem encAs_app (l m : List ActD) : encAs (l ++ m) = encAs l ++ encAs m := by
  induction l with
  | nil => rfl
  | cons d l ih => simp only [List.cons_append, encAs, ih, List.append_assoc]
theorem encAs_len {l : List ActD} (h : ∀ d ∈ l, ActOk2 d) : (encAs l).length ≤ l.length * 300 := by
  induction l with
  | nil => simp [encAs]
  | cons d l ih =>
    have h1 := encA_len (h d (List.mem_cons_self ..))
    have h2 := ih fun d hd => h d (List.mem_cons_of_mem _ hd)
    simp only [encAs, List.length_append, List.length_cons, Nat.succ_mul]
    omega
def headB (w f qu : Nat) : List UInt8 := [UInt8.ofNat (w - 1)] ++ [UInt8.ofNat (f - 2)] ++ [UInt8.ofNat (qu % 256), UInt8.ofNat (qu / 256)]
theorem ActsR.len {P : Nat → Prop} {A : Mem} {ds : List ActD} {x : Value} (h : ActsR P A ds x) : builtinPF tb1 .len [26] [x] = .ok (.int .i64 ((ds.length : Nat) : Int)) := by
  obtain ⟨ls, b, -, h2, h3, -⟩ := h
  rw [← h3]; exact h2.len und26
noncomputable def c50 : Code := Try.f50.body.getD .skip
theorem c50_eq : Try.f50.body = some (.seq (sub c50 [0]) (.seq (sub c50 [1,0]) (.seq (sub c50 [1,1,0]) (sub c50 [1,1,1])))) := by kernel_rfl
set_option maxHeartbeats 4000000 in
/-- The head. -/
theorem run_head {bw b sb w f qu : Nat} {bs : List UInt8} {C : Mem} {xa : Value} {ds : List ActD} {P : Nat → Prop} (h : WrM bw b bs C) (hl : bs.length ≤ 900000) (hv : Vals C 28 sb (.var 4) (headC w f qu xa)) (hnb : Nb bw b sb) (hsl : sb < C.next) (hA : ActsR P C ds xa) (h60 : ds.length ≤ 60)
    (hw : 1 ≤ w ∧ w ≤ 256) (hf : 2 ≤ f ∧ f ≤ 9) (hq : qu < 65536) :
    ∃ b' C', Ans tb1 50 [.pointer (some ⟨bw, 0, none⟩), .pointer (some ⟨sb, 0, none⟩)] C (.tuple ⟨[]⟩) C' ∧ WrM bw b' (bs ++ headB w f qu) C' ∧ Wk bw b C b' C' := by
  obtain ⟨v, A', ha, b', rfl, hw', hk⟩ : ∃ v A', Ans tb1 50 [.pointer (some ⟨bw, 0, none⟩), .pointer (some ⟨sb, 0, none⟩)] C v A' ∧ ∃ b', v = .tuple ⟨[]⟩ ∧ WrM bw b' (bs ++ headB w f qu) A' ∧ Wk bw b C b' A' := by
    refine ans_of_W (fn_at Try.func50) c50_eq (by rw [Try.ntmps50]; simp) (by kernel_rfl) (by kernel_rfl) ?_
    have hlen := hA.len
    have l2 : loadF tb1 C.get 26 (.pointer (some ⟨sb, 3, none⟩)) = .ok xa := load_vals und26 rfl hv rfl
    have l1 : loadF tb1 C.get 3 (.pointer (some ⟨sb, 2, none⟩)) = .ok (.int .i64 (qu : Int)) := load_vals und3 rfl hv rfl
    obtain ⟨D1, ⟨g1, hg1⟩, hw1, hk1⟩ := run_must h
    obtain ⟨n1, e1⟩ := hk1.keep _ hnb hsl
    have hv1 := hv.same e1
    have hs1 := Nat.lt_of_lt_of_le hsl hk1.n
    have l3 : loadF tb1 D1.get 3 (.pointer (some ⟨sb, 0, none⟩)) = .ok (.int .i64 (w : Int)) := load_vals und3 rfl hv1 rfl
    have s1 : intOpF .sub .i64 ((w : Nat) : Int) ((1 : Nat) : Int) = .ok (.int .i64 ((w - 1 : Nat) : Int)) := op_sub_i64 (by omega) (by omega)
    obtain ⟨b2, D2, ⟨g2, hg2⟩, hw2, hk2⟩ := put_one (most := 255) (n := w - 1) hw1 (by omega) (by omega) (by omega)
    obtain ⟨n2, e2⟩ := hk2.keep _ n1 hs1
    have hv2 := hv1.same e2
    have hs2 := Nat.lt_of_lt_of_le hs1 hk2.n
    have l4 : loadF tb1 D2.get 3 (.pointer (some ⟨sb, 1, none⟩)) = .ok (.int .i64 (f : Int)) := load_vals und3 rfl hv2 rfl
    have s2 : intOpF .sub .i64 ((f : Nat) : Int) ((2 : Nat) : Int) = .ok (.int .i64 ((f - 2 : Nat) : Int)) := op_sub_i64 (by omega) (by omega)
    obtain ⟨b3, D3, ⟨g3, hg3⟩, hw3, hk3⟩ := put_one (most := 7) (n := f - 2) hw2 (by rw [List.length_append, List.length_singleton]; omega) (by omega) (by omega)
    obtain ⟨n3, e3⟩ := hk3.keep _ n2 hs2
    have hv3 := hv2.same e3
    have l5 : loadF tb1 D3.get 3 (.pointer (some ⟨sb, 2, none⟩)) = .ok (.int .i64 (qu : Int)) := load_vals und3 rfl hv3 rfl
    obtain ⟨y, y', D4, D5, b4, f1, f2, f3, f4, f5, f6, -⟩ := wr_apps (cs := [UInt8.ofNat (qu % 256), UInt8.ofNat (qu / 256)]) hw3 (by simp only [List.length_append, List.length_singleton]; omega) (by simp)
    have hby : byts [UInt8.ofNat (qu % 256), UInt8.ofNat (qu / 256)] = [.int .u8 ((qu % 256 : Nat) : Int), .int .u8 ((qu / 256 : Nat) : Int)] := by
      show [Value.int .u8 (((UInt8.ofNat (qu % 256)).toNat : Nat) : Int), Value.int .u8 (((UInt8.ofNat (qu / 256)).toNat : Nat) : Int)] = _
      rw [u8_nat (by omega), u8_nat (by omega)]
    rw [hby] at f2 f3
    have f3' : appendF tb1 (D3.alloc (rowOb 5 [.int .u8 ((qu % 256 : Nat) : Int), .int .u8 ((qu / 256 : Nat) : Int)])) 22 22 y (.slice (some ⟨D3.next, 0, none⟩) 2 4) = .ok (y', D4) := f3
    have hm2 : qu / 256 % 256 = qu / 256 := by omega
    apply W.seq
    apply W.runG (g1) 20
    · intro M hM
      simp (config := { maxSteps := 4000000 }) (disch := first | decide +kernel | (rw [wantF_guard]; simp only [wantD_some, dstAt_zero, dstAt_succ, T.get_set, T.get_e, Nat.reduceEqDiff, if_true, if_false, wantV_bool, wantV_unit, unitV, cond_true, cond_false, Bool.not_true, Bool.not_false, List.toList_toArray]) | omega) only [c50, Try.f50, Option.getD_some, sub_seq0, sub_nil, T.puts_cons, Nat.reduceAdd, T.puts_nil, exec_region, runOps_cons, opF_move, ev_tmp, T.get_set, Nat.reduceEqDiff, T.get_e, if_true, if_false, evG_some, putT_some, opF_fieldAddr, opF_load, opF_len, evs, R.ok_bind, opF_ari, ev_int, fa28_2, l2, hlen, binF_int, op_leq, cast_le, h60, decide_true, runOps_yes, opF_pick, pickF, ev_bool, fa28_1, l1, op_geq, Nat.zero_le, opF_call, resK, runOps_nil, op_lssI, cast_lt, hq, hg1]
      with_reducible rfl
    apply W.seq
    apply W.runG (g2) 20
    · intro M hM
      simp (config := { maxSteps := 4000000 }) (disch := first | decide +kernel | (rw [wantF_guard]; simp only [wantD_some, dstAt_zero, dstAt_succ, T.get_set, T.get_e, Nat.reduceEqDiff, if_true, if_false, wantV_bool, wantV_unit, unitV, cond_true, cond_false, Bool.not_true, Bool.not_false, List.toList_toArray]) | omega) only [c50, Try.f50, Option.getD_some, sub_seq1, sub_seq0, sub_nil, exec_region, runOps_cons, opF_move, ev_tmp, T.get_set, Nat.reduceEqDiff, T.get_e, if_true, if_false, evG_some, putT_some, opF_fieldAddr, opF_load, opF_ari, ev_int, opF_buildSlice, evp, R.ok_bind, opF_call, evs, resK, runOps_nil, fa28_0, fa25_0, l3, binF_int, s1, bs127, at_slc, hg2]
      with_reducible rfl
    apply W.seq
    apply W.runG (g3) 20
    · intro M hM
      simp (config := { maxSteps := 4000000 }) (disch := first | decide +kernel | (rw [wantF_guard]; simp only [wantD_some, dstAt_zero, dstAt_succ, T.get_set, T.get_e, Nat.reduceEqDiff, if_true, if_false, wantV_bool, wantV_unit, unitV, cond_true, cond_false, Bool.not_true, Bool.not_false, List.toList_toArray]) | omega) only [c50, Try.f50, Option.getD_some, sub_seq1, sub_seq0, sub_nil, exec_region, runOps_cons, opF_move, ev_tmp, T.get_set, Nat.reduceEqDiff, T.get_e, if_true, if_false, evG_some, putT_some, opF_fieldAddr, opF_load, opF_ari, ev_int, opF_buildSlice, evp, R.ok_bind, opF_call, evs, resK, runOps_nil, fa28_0, fa25_1, l4, binF_int, s2, bs127, at_slc, hg3]
      with_reducible rfl
    apply W.run 20
    · intro M
      simp (config := { maxSteps := 4000000 }) (disch := first | decide +kernel | (rw [wantF_guard]; simp only [wantD_some, dstAt_zero, dstAt_succ, T.get_set, T.get_e, Nat.reduceEqDiff, if_true, if_false, wantV_bool, wantV_unit, unitV, cond_true, cond_false, Bool.not_true, Bool.not_false, List.toList_toArray]) | omega) only [c50, Try.f50, Option.getD_some, sub_seq1, sub_nil, exec_draw, runOps_cons, opF_move, ev_tmp, T.get_set, Nat.reduceEqDiff, T.get_e, if_true, if_false, evG_some, putT_some, opF_nilCheck, opF_fieldAddr, opF_load, opF_conv, convPF, und3, und5, opF_ari, ev_int, opF_buildSlice, evp, R.ok_bind, opF_builtin, evs, opF_store, putT_none, runOps_nil, builtin_append, fa28_1, l5, binF_int, op_quo_i64, wrapF_u8, hm2, bs22_2, at_slc, nil_ptr, fa85_0, f1, f3', f4]
      with_reducible rfl
    refine ⟨.inl rfl, D5, [], rfl, rfl, b4, rfl, ?_, ((hk1.trans hk2).trans hk3).trans f6⟩
    have e : bs ++ [UInt8.ofNat (w - 1)] ++ [UInt8.ofNat (f - 2)] ++ [UInt8.ofNat (qu % 256), UInt8.ofNat (qu / 256)] = bs ++ headB w f qu := by
      unfold headB; simp
    rw [← e]; exact f5
  exact ⟨b', A', ha, hw', hk⟩
noncomputable def c53 : Code := Try.f53.body.getD .skip
theorem c53_eq : Try.f53.body = some c53 := by kernel_rfl
/-- An act, out of its box. -/
theorem run_boxed {bw b ab : Nat} {bs : List UInt8} {C : Mem} {d : ActD} {l : List Value} (h : WrM bw b bs C) (hl : bs.length ≤ 600000) (hok : ActOk2 d) (hA : ActR (Nb bw b) C d l) (hv : Vals C 39 ab (.var 9) l) :
    ∃ b' C', Ans tb1 53 [.pointer (some ⟨bw, 0, none⟩), .pointer (some ⟨ab, 0, none⟩)] C (.tuple ⟨[]⟩) C' ∧ WrM bw b' (bs ++ encA d) C' ∧ Wk bw b C b' C' := by
  obtain ⟨v, A', ha, b', rfl, hw', hk⟩ : ∃ v A', Ans tb1 53 [.pointer (some ⟨bw, 0, none⟩), .pointer (some ⟨ab, 0, none⟩)] C v A' ∧ ∃ b', v = .tuple ⟨[]⟩ ∧ WrM bw b' (bs ++ encA d) A' ∧ Wk bw b C b' A' := by
    refine ans_of_W (fn_at Try.func53) c53_eq (by rw [Try.ntmps53]; simp) (by kernel_rfl) (by kernel_rfl) ?_
    obtain ⟨d39, hd1, hd2⟩ := und39
    have ll := Go.Am.load_all (tb := tb1) (t := 39) hd1 hd2 (by rw [size39, hA.cells.1]) hv
    obtain ⟨b2, D2, ⟨g2, hg2⟩, hw2, hk2⟩ := run_wact h hl hok hA
    apply W.runG (g2) 20
    · intro M hM
      simp (config := { maxSteps := 4000000 }) (disch := first | decide +kernel | (rw [wantF_guard]; simp only [wantD_some, dstAt_zero, dstAt_succ, T.get_set, T.get_e, Nat.reduceEqDiff, if_true, if_false, wantV_bool, wantV_unit, unitV, cond_true, cond_false, Bool.not_true, Bool.not_false, List.toList_toArray]) | omega) only [c53, Try.f53, Option.getD_some, T.puts_cons, Nat.reduceAdd, T.puts_nil, exec_region, runOps_cons, opF_move, ev_tmp, T.get_set, Nat.reduceEqDiff, T.get_e, if_true, if_false, evG_some, putT_some, opF_load, opF_call, evs, R.ok_bind, resK, runOps_nil, ll, hg2]
      with_reducible rfl
    exact ⟨.inl rfl, _, [], rfl, rfl, b2, rfl, hw2, hk2⟩
  exact ⟨b', A', ha, hw', hk⟩

/-! ### The loop over the parts -/
theorem und83 : ∃ d, tb1.und 83 = some d ∧ isAggD d = false := by
  have h : (tb1.und 83).map isAggD = some false := by kernel_rfl
  cases hq : tb1.und 83 with
  | none => rw [hq] at h; cases h
  | some d => rw [hq] at h; exact ⟨d, rfl, by simpa using h⟩
noncomputable def c14 : Code := Try.f14.body.getD .skip
noncomputable def putL (t0 : T Value) (d : Nat) : ALoop := loop0 t0 22 [10] (sub c14 [1,1,0,1,0,0]) (sub c14 [1,1,0,1,0,1]) d
structure PutM (B0 : Mem) (bw b : Nat) (t0 : T Value) (bs : List UInt8) (C : Mem) : Prop where
  w : WrM bw b bs C
  hd : C.get B0.next = some .defd
  hl : C.get (B0.next + 1) = some (.loop (putL t0 B0.next))
  hb : bw < B0.next
  n1 : b = bw ∨ B0.next + 2 ≤ b
  hn : B0.next + 2 ≤ C.next
  old : ∀ y, y < B0.next → y ≠ bw → C.get y = B0.get y
theorem PutM.step {B0 : Mem} {bw b b' : Nat} {t0 : T Value} {bs bs' : List UInt8} {C C' : Mem} (h : PutM B0 bw b t0 bs C) (hw : WrM bw b' bs' C') (hk : Wk bw b C b' C') : PutM B0 bw b' t0 bs' C' := by
  have h1 := h.hb
  have h2 := h.n1
  have h3 := h.hn
  have h4 := hk.o
  exact {
    w := hw
    hd := by rw [hk.g _ (by omega) (by omega) (by omega)]; exact h.hd
    hl := by rw [hk.g _ (by omega) (by omega) (by omega)]; exact h.hl
    hb := h1
    n1 := by omega
    hn := Nat.le_trans h3 hk.n
    old := fun y hy hyb => by rw [hk.g y (by omega) hyb (by omega), h.old y hy hyb] }
set_option maxHeartbeats 4000000 in
theorem put_round {B0 : Mem} {bw b b4 fid : Nat} {t0 : T Value} {bs bs' : List UInt8} {C : Mem} {p : Value} (hP : PutM B0 bw b t0 bs C) (h4 : t0.get 4 = some (.pointer (some ⟨b4, 0, none⟩))) (hv4 : Vals B0 83 b4 (.var 1) [.pointer (some ⟨bw, 0, none⟩)]) (hb4 : b4 < B0.next ∧ b4 ≠ bw)
    (hclo : ∀ E, WrM bw b bs E → E.next = C.next → (∀ y, y ≠ B0.next + 1 → E.get y = C.get y) → ∃ b' E', Ans tb1 fid [.pointer (some ⟨bw, 0, none⟩), p] E (.tuple ⟨[]⟩) E' ∧ WrM bw b' bs' E' ∧ Wk bw b E b' E') :
    ∃ b' C', (∃ g, ∀ M, g ≤ M → callF tb1 (exec tb1 M) (.round (B0.next + 1) [.func (.func fid) ⟨[]⟩ ⟨[p]⟩]) C = .ok (.val (.bool true) C')) ∧ PutM B0 bw b' t0 bs' C' := by
  obtain ⟨C', hr, b', hP'⟩ : ∃ C', (∃ g, ∀ M, g ≤ M → callF tb1 (exec tb1 M) (.round (B0.next + 1) [.func (.func fid) ⟨[]⟩ ⟨[p]⟩]) C = .ok (.val (.bool true) C')) ∧ ∃ b', PutM B0 bw b' t0 bs' C' := by
    have hCn := hP.hn
    obtain ⟨d83, hd83, hd83'⟩ := und83
    have hCb := hP.hb
    have hn1 := hP.n1
    refine round_of_W hP.hl (t := t0.set 10 (.func (.func fid) ⟨[]⟩ ⟨[p]⟩)) rfl ?_
    show W tb1 (sub c14 [1,1,0,1,0,0]) ⟨t0.set 10 (.func (.func fid) ⟨[]⟩ ⟨[p]⟩), 22, [], C, some (B0.next + 1)⟩ _
    apply W.run 20
    · intro M
      simp (config := { maxSteps := 4000000 }) (disch := first | decide +kernel | (rw [wantF_guard]; simp only [wantD_some, dstAt_zero, dstAt_succ, T.get_set, T.get_e, Nat.reduceEqDiff, if_true, if_false, wantV_bool, wantV_unit, unitV, cond_true, cond_false, Bool.not_true, Bool.not_false, List.toList_toArray]) | omega) only [c14, Try.f14, Option.getD_some, sub_seq1, sub_seq0, sub_block, sub_range0, sub_nil, exec_region, runOps_cons, opF_assign, ev_tmp, T.get_set, if_true, evG_some, putT_some, runOps_nil, R.ok_bind]
      with_reducible rfl
    refine ⟨rfl, _, hP.hl, rfl, ?_⟩
    show W tb1 (sub c14 [1,1,0,1,0,1]) ⟨_, 22, [], C.set (B0.next + 1) (.loop { (putL t0 B0.next) with state := .busy }), some (B0.next + 1)⟩ _
    have hn0 : (C.set (B0.next + 1) (.loop { (putL t0 B0.next) with state := .busy })).next = C.next := next_set _ _ _
    have hg0 : ∀ y, y ≠ B0.next + 1 → (C.set (B0.next + 1) (.loop { (putL t0 B0.next) with state := .busy })).get y = C.get y := fun y hy => by rw [get_setMem, if_neg hy]
    have hl0 : (C.set (B0.next + 1) (.loop { (putL t0 B0.next) with state := .busy })).get (B0.next + 1) = some (.loop { (putL t0 B0.next) with state := .busy }) := by rw [get_setMem, if_pos rfl]
    revert hn0 hg0 hl0
    generalize C.set (B0.next + 1) (.loop { (putL t0 B0.next) with state := .busy }) = E
    intro hn0 hg0 hl0
    have hwE : WrM bw b bs E := by
      obtain ⟨x, k1, k2, k3, k4, k5⟩ := hP.w
      exact ⟨x, k1.same (hg0 _ (by omega)), k2.same (by omega) (fun _ => hg0 _ (by omega)), k3, by omega, by omega⟩
    obtain ⟨b', E', ⟨g, hg⟩, hw', hk'⟩ := hclo E hwE hn0 hg0
    have l4 : loadF tb1 E.get 83 (.pointer (some ⟨b4, 0, none⟩)) = .ok (.pointer (some ⟨bw, 0, none⟩)) := load_vals hd83 hd83' (hv4.same (by rw [hg0 _ (by omega), hP.old _ hb4.1 hb4.2])) rfl
    have l4' : loadF tb1 E'.get 83 (.pointer (some ⟨b4, 0, none⟩)) = .ok (.pointer (some ⟨bw, 0, none⟩)) := load_vals hd83 hd83' (hv4.same (by rw [hk'.g _ (by omega) hb4.2 (by omega), hg0 _ (by omega), hP.old _ hb4.1 hb4.2])) rfl
    have lb : loadF tb1 E'.get 4 (.pointer (some ⟨bw, 1, none⟩)) = .ok (.bool false) := by
      obtain ⟨x, k1, -⟩ := hw'
      exact load_vals und4 rfl k1 rfl
    apply W.runG (g) 20
    · intro M hM
      simp (config := { maxSteps := 4000000 }) (disch := first | decide +kernel | (rw [wantF_guard]; simp only [wantD_some, dstAt_zero, dstAt_succ, T.get_set, T.get_e, Nat.reduceEqDiff, if_true, if_false, wantV_bool, wantV_unit, unitV, cond_true, cond_false, Bool.not_true, Bool.not_false, List.toList_toArray]) | omega) only [c14, Try.f14, Option.getD_some, sub_seq1, sub_seq0, sub_block, sub_range1, sub_nil, exec_block, exec_seq, exec_region, runOps_cons, opF_move, ev_tmp, T.get_set, Nat.reduceEqDiff, if_false, if_true, evG_some, putT_some, opF_load, h4, opF_callv, evs, R.ok_bind, resK, runOps_nil, l4, callV_func, List.nil_append, List.cons_append, hg, exec_cond, opF_store, ev_nilslice, putT_none, ev_int, exec_ret, exec_skip, opF_nilCheck, opF_fieldAddr, l4', nil_ptr, fa85_1, lb]
      with_reducible rfl
    have hlE' : E'.get (B0.next + 1) = some (.loop { (putL t0 B0.next) with state := .busy }) := by rw [hk'.g _ (by omega) (by omega) (by omega)]; exact hl0
    refine ⟨rfl, rfl, _, hlE', b', ?_⟩
    have hko := hk'.o
    have hkn := hk'.n
    obtain ⟨x, k1, k2, k3, k4, k5⟩ := hw'
    show PutM B0 bw b' t0 bs' (E'.set (B0.next + 1) (.loop (putL t0 B0.next)))
    have hset : ∀ y, y ≠ B0.next + 1 → (E'.set (B0.next + 1) (.loop (putL t0 B0.next))).get y = E'.get y := fun y hy => by rw [get_setMem, if_neg hy]
    have hsn : (E'.set (B0.next + 1) (.loop (putL t0 B0.next))).next = E'.next := next_set _ _ _
    exact {
      w := ⟨x, k1.same (hset _ (by omega)), k2.same (by omega) (fun _ => hset _ (by omega)), k3, by omega, by omega⟩
      hd := by
        rw [hset _ (by omega), hk'.g _ (by omega) (by omega) (by omega), hg0 _ (by omega)]; exact hP.hd
      hl := by rw [get_setMem, if_pos rfl]
      hb := hCb
      n1 := by omega
      hn := by rw [hsn]; omega
      old := fun y hy hyb => by
        rw [hset _ (by omega), hk'.g _ (by omega) hyb (by omega), hg0 _ (by omega), hP.old y hy hyb] }
  exact ⟨b', C', hr, hP'⟩
end Go.Proofs.Ytmhldlnlgjpkaaa.scr

/-
  Script: Put.
-/
namespace Go.Proofs.Ytmhldlnlgjpkaaa.scr
open Go.Am
set_option linter.unusedSimpArgs false
set_option linter.unusedVariables false
set_option maxRecDepth 20000

noncomputable def c49 : Code := Try.f49.body.getD .skip
noncomputable def c49b1 : Code := sub c49 [1,1,1,0,0]
theorem c49_eq : Try.f49.body = some (.seq (sub c49 [0]) (.seq (.seq (sub c49 [1,0,0]) (sub c49 [1,0,1])) (.seq (sub c49 [1,1,0]) (.block 0 (.loop c49b1))))) := by kernel_rfl
theorem encAs_take {l : List ActD} {i : Nat} {d : ActD} (h : l[i]? = some d) : encAs (l.take (i + 1)) = encAs (l.take i) ++ encA d := by
  have hi : i < l.length := (List.getElem?_eq_some_iff.1 h).1
  have e : l[i] = d := (List.getElem?_eq_some_iff.1 h).2
  rw [List.take_succ_eq_append_getElem hi, encAs_app, e]
  simp only [encAs, List.append_nil]
set_option maxHeartbeats 8000000 in
/-- The closure of a setting's parts, called with Put's loop. -/
theorem run_parts1 {B0 : Mem} {bw b b4 sb n0 w f qu : Nat} {t0 : T Value} {C : Mem} {xa : Value} {ds : List ActD} (hP : PutM B0 bw b t0 [] C) (h4 : t0.get 4 = some (.pointer (some ⟨b4, 0, none⟩))) (hv4 : Vals B0 83 b4 (.var 1) [.pointer (some ⟨bw, 0, none⟩)]) (hb4 : b4 < B0.next ∧ b4 ≠ bw)
    (hsb : Vals B0 28 sb (.var 4) (headC w f qu xa)) (hsl : sb < B0.next ∧ sb ≠ bw) (hacts : ActsR (fun c => c < n0) B0 ds xa) (hn0 : n0 ≤ bw) (h60 : ds.length ≤ 60) (hok : ∀ d ∈ ds, ActOk2 d)
    (hw : 1 ≤ w ∧ w ≤ 256) (hf : 2 ≤ f ∧ f ≤ 9) (hq : qu < 65536) :
    ∃ v C', Ans tb1 49 [.func (.yield (B0.next + 1)) ⟨[]⟩ ⟨[]⟩, .pointer (some ⟨sb, 0, none⟩)] C v C' ∧ ∃ b', PutM B0 bw b' t0 (headB w f qu ++ encAs ds) C' := by
  refine ans_of_W (fn_at Try.func49) c49_eq (by rw [Try.ntmps49]; simp) (by kernel_rfl) (by kernel_rfl) ?_
  have hbw := hP.hb
  have acts : ∀ {b : Nat} {bs : List UInt8} {D : Mem}, PutM B0 bw b t0 bs D → ActsR (fun c => c < n0) D ds xa := fun {b bs D} h => hacts.same (by have := h.hn; omega) (fun c hc hl => ⟨hc, h.old c hl (by omega)⟩)
  have sets : ∀ {b : Nat} {bs : List UInt8} {D : Mem}, PutM B0 bw b t0 bs D → Vals D 28 sb (.var 4) (headC w f qu xa) := fun {b bs D} h => hsb.same (h.old sb hsl.1 hsl.2)
  have hal := encAs_len hok
  have hlh : (headB w f qu).length = 4 := by simp [headB]
  obtain ⟨b1, C1, ⟨g1, hg1⟩, hP1⟩ := put_round (fid := 50) (p := .pointer (some ⟨sb, 0, none⟩)) (bs' := [] ++ headB w f qu) hP h4 hv4 hb4 (fun E hwE hnE hgE => by
    have h1 := hP.hn
    have h2 := hP.n1
    refine run_head (P := fun c => c < n0) hwE (by simp) ((sets hP).same (hgE _ (by omega))) ⟨hsl.2, by omega⟩ (by omega) ((acts hP).same (by omega) (fun c hc hl => ⟨hc, hgE c (by have : c < n0 := hc; omega)⟩)) h60 hw hf hq)
  rw [List.nil_append] at hP1
  have l2 : loadF tb1 C1.get 26 (.pointer (some ⟨sb, 3, none⟩)) = .ok xa := load_vals und26 rfl (sets hP1) rfl
  have hlen := hacts.len
  apply W.seq
  apply W.run 20
  · intro M
    simp (config := { maxSteps := 4000000 }) (disch := first | decide +kernel | (rw [wantF_guard]; simp only [wantD_some, dstAt_zero, dstAt_succ, T.get_set, T.get_e, Nat.reduceEqDiff, if_true, if_false, wantV_bool, wantV_unit, unitV, cond_true, cond_false, Bool.not_true, Bool.not_false, List.toList_toArray]) | omega) only [c49, Try.f49, Option.getD_some, sub_seq0, sub_nil, T.puts_cons, Nat.reduceAdd, T.puts_nil, exec_region, runOps_cons, opF_makeFunc, evs, ev_tmp, T.get_set, Nat.reduceEqDiff, T.get_e, if_false, if_true, evG_some, R.ok_bind, putT_some, opF_assign, runOps_nil]
    with_reducible rfl
  apply W.seq
  apply W.seq
  apply W.runG (g1) 20
  · intro M hM
    simp (config := { maxSteps := 4000000 }) (disch := first | decide +kernel | (rw [wantF_guard]; simp only [wantD_some, dstAt_zero, dstAt_succ, T.get_set, T.get_e, Nat.reduceEqDiff, if_true, if_false, wantV_bool, wantV_unit, unitV, cond_true, cond_false, Bool.not_true, Bool.not_false, List.toList_toArray]) | omega) only [c49, Try.f49, Option.getD_some, sub_seq1, sub_seq0, sub_nil, exec_region, runOps_cons, opF_move, ev_tmp, T.get_set, Nat.reduceEqDiff, T.get_e, if_true, if_false, evG_some, putT_some, opF_callv, evs, R.ok_bind, resK, opF_un, runOps_nil, callV_yield, hg1, un_not, Bool.not_true]
    with_reducible rfl
  show W tb1 _ _ _
  apply W.run 20
  · intro M
    simp (config := { maxSteps := 4000000 }) (disch := first | decide +kernel | (rw [wantF_guard]; simp only [wantD_some, dstAt_zero, dstAt_succ, T.get_set, T.get_e, Nat.reduceEqDiff, if_true, if_false, wantV_bool, wantV_unit, unitV, cond_true, cond_false, Bool.not_true, Bool.not_false, List.toList_toArray]) | omega) only [c49, Try.f49, Option.getD_some, sub_seq1, sub_seq0, sub_nil, exec_cond, ev_tmp, T.get_set, Nat.reduceEqDiff, T.get_e, if_false, if_true, evG_some, exec_ret, exec_skip, R.ok_bind]
    with_reducible rfl
  show W tb1 _ _ _
  apply W.seq
  apply W.run 20
  · intro M
    simp (config := { maxSteps := 4000000 }) (disch := first | decide +kernel | (rw [wantF_guard]; simp only [wantD_some, dstAt_zero, dstAt_succ, T.get_set, T.get_e, Nat.reduceEqDiff, if_true, if_false, wantV_bool, wantV_unit, unitV, cond_true, cond_false, Bool.not_true, Bool.not_false, List.toList_toArray]) | omega) only [c49, Try.f49, Option.getD_some, sub_seq1, sub_seq0, sub_nil, exec_region, runOps_cons, opF_fieldAddr, ev_tmp, T.get_set, Nat.reduceEqDiff, T.get_e, if_false, if_true, evG_some, putT_some, opF_load, opF_len, evs, R.ok_bind, opF_move, ev_int, runOps_nil, fa28_2, l2, hlen]
    with_reducible rfl
  apply W.block
  refine W.up ds.length (fun i t D => ∃ b', PutM B0 bw b' t0 (headB w f qu ++ encAs (ds.take i)) D ∧ Sl t [(0, .func (.yield (B0.next + 1)) ⟨[]⟩ ⟨[]⟩), (12, xa), (13, .int .i64 ((ds.length : Nat) : Int)), (14, .int .i64 (i : Int))]) ?_ (Nat.zero_le _) ⟨b1, by simpa [encAs] using hP1, ?_⟩
  · rintro i t D hi ⟨b', hPD, g0, g12, g13, g14, -⟩
    by_cases hlt : i < ds.length
    · have hAD := acts hPD
      obtain ⟨ls, bA, hbA, hx, hll, hall⟩ := hAD
      have hli : i < ls.length := by omega
      have hO := hall i ds[i] ls[i] (List.getElem?_eq_getElem hlt) (List.getElem?_eq_getElem hli)
      have ix := hx.idx (tb := tb1) (t := 26) (t' := 39) (kd := .i64) (i := i) und26 size39 hli
      obtain ⟨d39, hd1, hd2⟩ := und39
      have lld := hx.load_all (tb := tb1) (t := 39) hd1 hd2 size39 (List.getElem?_eq_getElem hli)
      have hsn := encAs_take (List.getElem?_eq_getElem hlt)
      have hokd := hok ds[i] (List.getElem_mem hlt)
      have htl : (encAs (ds.take i)).length ≤ 18000 := by
        have h := encAs_len (l := ds.take i) fun d hd => hok d (List.mem_of_mem_take hd)
        rw [List.length_take] at h
        have : min i ds.length ≤ 60 := by omega
        have := Nat.mul_le_mul_right 300 this
        omega
      generalize ls[i] = l at hO lld
      generalize ds[i] = d at hO hsn hokd
      have hDn := hPD.hn
      have hD1 := hPD.n1
      obtain ⟨z, hz, hz9⟩ : ∃ z, zeroF tb1 39 = .ok (.agg ⟨z⟩) ∧ z.length = 9 := ⟨_, zero39, rfl⟩
      have hv0 : Vals (D.alloc (rowOb 39 z)) 39 D.next (.var z.length) z := Go.Am.vals_new D 39 _
      rw [hz9] at hv0
      have hn5 : (D.alloc (rowOb 39 z)).next = D.next + 1 := next_alloc _ _
      obtain ⟨E, hst, hvE, hnE, hfE⟩ := store_all (tb := tb1) (t := 39) (l' := l) (by rw [size39, hz9]) hv0 (by rw [hO.cells.1, hz9]) (by intro h; rw [h] at hz9; cases hz9) hO.cells.2
      have hEE : Ext D E := (Ext.alloc D (rowOb 39 z)).put (b := D.next) (Nat.le_refl _) hnE hfE
      have hPE := hPD.step (hPD.w.ext hEE) (Wk.ext hEE)
      have hOE : ActR (Nb bw b') E d l := hO.same hEE.n (fun c hc hl => ⟨⟨by have : c < n0 := hc; omega, by have : c < n0 := hc; omega⟩, hEE.g c hl⟩)
      obtain ⟨b2, F, ⟨g, hg⟩, hPF⟩ := put_round (fid := 53) (p := .pointer (some ⟨D.next, 0, none⟩)) (bs' := headB w f qu ++ encAs (ds.take i) ++ encA d) hPE h4 hv4 hb4 (fun G hwG hnG hgG => by
        refine run_boxed hwG (by rw [List.length_append]; omega) hokd (hO.same (by rw [hnG]; exact hEE.n) (fun c hc hl => ⟨⟨by have : c < n0 := hc; omega, by have : c < n0 := hc; omega⟩, by rw [hgG c (by have : c < n0 := hc; omega), hEE.g c hl]⟩)) (hvE.same (hgG _ (by omega))))
      apply W.runG (g) 20
      · intro M hM
        simp (config := { maxSteps := 4000000 }) (disch := first | decide +kernel | (rw [wantF_guard]; simp only [wantD_some, dstAt_zero, dstAt_succ, T.get_set, T.get_e, Nat.reduceEqDiff, if_true, if_false, wantV_bool, wantV_unit, unitV, cond_true, cond_false, Bool.not_true, Bool.not_false, List.toList_toArray]) | omega) only [c49b1, c49, Try.f49, Option.getD_some, sub_seq1, sub_block, sub_loop, sub_nil, exec_seq, exec_region, runOps_cons, opF_ari, ev_tmp, g14, evG_some, g13, putT_some, runOps_nil, R.ok_bind, binF_int, op_lssI, cast_lt, hlt, decide_true, exec_cond, exec_skip, exec_exit, exec_block, opF_indexAddr, opF_move, exec_ret, ev_int, T.get_set, if_true, Nat.reduceEqDiff, g12, if_false, opF_load, opF_alloc, hz, at_ptr, opF_store, putT_none, cells_agg, ix, lld, hst, g0, opF_makeFunc, evs, opF_callv, resK, opF_un, callV_yield, hg, un_not, Bool.not_true, op_add_i64]
        with_reducible rfl
      refine ⟨hlt, _, _, rfl, b2, ?_, ?_⟩
      · rw [hsn, ← List.append_assoc]; exact hPF
      · simp only [Sl_cons, Sl_nil, T.get_set, T.puts_cons, T.puts_nil, Nat.reduceEqDiff, Nat.reduceAdd, if_true, if_false, and_true, true_and, g0, g12, g13]
    · have hin : i = ds.length := by omega
      subst hin
      rw [List.take_length] at hPD
      apply W.run 20
      · intro M
        simp (config := { maxSteps := 4000000 }) (disch := first | decide +kernel | (rw [wantF_guard]; simp only [wantD_some, dstAt_zero, dstAt_succ, T.get_set, T.get_e, Nat.reduceEqDiff, if_true, if_false, wantV_bool, wantV_unit, unitV, cond_true, cond_false, Bool.not_true, Bool.not_false, List.toList_toArray]) | omega) only [c49b1, c49, Try.f49, Option.getD_some, sub_seq1, sub_block, sub_loop, sub_nil, exec_seq, exec_region, runOps_cons, opF_ari, ev_tmp, g14, evG_some, g13, putT_some, runOps_nil, R.ok_bind, binF_int, op_lssI, cast_lt, Nat.lt_irrefl, decide_false, exec_cond, exec_skip, exec_exit, exec_block, opF_indexAddr, opF_move, exec_ret, ev_int, T.get_set, if_true]
        with_reducible rfl
      exact ⟨.inl rfl, _, [], rfl, rfl, b', hPD⟩
  · simp only [Sl_cons, Sl_nil, T.get_set, T.puts_cons, T.puts_nil, Nat.reduceEqDiff, Nat.reduceAdd, if_true, if_false, and_true, true_and]

noncomputable def c30 : Code := Try.f30.body.getD .skip
theorem c30_eq : Try.f30.body = some (.seq (sub c30 [0]) (.seq (sub c30 [1,0]) (sub c30 [1,1]))) := by kernel_rfl
theorem run_partsF {A : Mem} {l : List Value} : Ans tb1 30 [.agg ⟨l⟩] A (.func (.func 49) ⟨[]⟩ ⟨[.pointer (some ⟨A.next, 0, none⟩)]⟩) (A.alloc (rowOb 28 l)) := by
  obtain ⟨v, A', ha, rfl, rfl⟩ : ∃ v A', Ans tb1 30 [.agg ⟨l⟩] A v A' ∧ v = .func (.func 49) ⟨[]⟩ ⟨[.pointer (some ⟨A.next, 0, none⟩)]⟩ ∧ A' = A.alloc (rowOb 28 l) := by
    refine ans_of_W (fn_at Try.func30) c30_eq (by rw [Try.ntmps30]; simp) (by kernel_rfl) (by kernel_rfl) ?_
    apply W.seq
    apply W.run 20
    · intro M
      simp (config := { maxSteps := 4000000 }) (disch := first | decide +kernel | (rw [wantF_guard]; simp only [wantD_some, dstAt_zero, dstAt_succ, T.get_set, T.get_e, Nat.reduceEqDiff, if_true, if_false, wantV_bool, wantV_unit, unitV, cond_true, cond_false, Bool.not_true, Bool.not_false, List.toList_toArray]) | omega) only [c30, Try.f30, Option.getD_some, sub_seq0, sub_nil, T.puts_cons, Nat.reduceAdd, T.puts_nil, exec_region, runOps_cons, opF_box, ev_tmp, T.get_set, T.get_e, if_true, evG_some, at_ptr, putT_some, opF_assign, ev_nilfunc, runOps_nil, R.ok_bind, cells_agg]
      with_reducible rfl
    apply W.seq
    apply W.run 20
    · intro M
      simp (config := { maxSteps := 4000000 }) (disch := first | decide +kernel | (rw [wantF_guard]; simp only [wantD_some, dstAt_zero, dstAt_succ, T.get_set, T.get_e, Nat.reduceEqDiff, if_true, if_false, wantV_bool, wantV_unit, unitV, cond_true, cond_false, Bool.not_true, Bool.not_false, List.toList_toArray]) | omega) only [c30, Try.f30, Option.getD_some, sub_seq1, sub_seq0, sub_nil, exec_region, runOps_cons, opF_makeFunc, evs, ev_tmp, T.get_set, Nat.reduceEqDiff, T.get_e, if_false, if_true, evG_some, R.ok_bind, putT_some, opF_assign, runOps_nil]
      with_reducible rfl
    apply W.run 20
    · intro M
      simp (config := { maxSteps := 4000000 }) (disch := first | decide +kernel | (rw [wantF_guard]; simp only [wantD_some, dstAt_zero, dstAt_succ, T.get_set, T.get_e, Nat.reduceEqDiff, if_true, if_false, wantV_bool, wantV_unit, unitV, cond_true, cond_false, Bool.not_true, Bool.not_false, List.toList_toArray]) | omega) only [c30, Try.f30, Option.getD_some, sub_seq1, sub_nil, exec_ret]
      with_reducible rfl
    refine ⟨.inr rfl, _, [.func (.func 49) ⟨[]⟩ ⟨[.pointer (some ⟨A.next, 0, none⟩)]⟩], rfl, ?_, rfl, rfl⟩
    simp only [Try.f30, resF, ev_tmp, T.get_set, Nat.reduceEqDiff, if_true, if_false, evG_some, R.ok_bind]
  exact ha
end Go.Proofs.Ytmhldlnlgjpkaaa.scr

/-
  Script: Put, whole.
-/
namespace Go.Proofs.Ytmhldlnlgjpkaaa.scr
open Go.Am
set_option linter.unusedSimpArgs false
set_option linter.unusedVariables false
set_option maxRecDepth 20000

theorem cells_ptr (a : Option Addr) : (Value.pointer a).cells.toList = [.pointer a] := rfl
theorem zero22 : zeroF tb1 22 = .ok (.slice none 0 0) := by kernel_rfl
theorem zero51 : zeroF tb1 51 = .ok (.int .i64 0) := by kernel_rfl
theorem zero83 : zeroF tb1 83 = .ok (.pointer none) := by kernel_rfl
theorem size83 : sizeF tb1 83 = .ok 1 := by kernel_rfl
theorem size51 : sizeF tb1 51 = .ok 1 := by kernel_rfl
theorem bf85 : buildF tb1 85 [] = .ok (.agg ⟨[.slice none 0 0, .bool false]⟩) := by kernel_rfl
theorem c14_eq : Try.f14.body = some (.seq (sub c14 [0]) (.seq (sub c14 [1,0]) (.seq (.seq (sub c14 [1,1,0,0]) (sub c14 [1,1,0,1])) (.seq (sub c14 [1,1,1,0]) (sub c14 [1,1,1,1]))))) := by kernel_rfl
theorem c14r_eq : sub c14 [1,1,0,1] = .block 0 (.rangeFunc (.tmp 9) #[10] (sub c14 [1,1,0,1,0,0]) (sub c14 [1,1,0,1,0,1])) := by kernel_rfl
set_option maxHeartbeats 8000000 in
theorem run_putS {A : Mem} {n0 w f qu : Nat} {xa : Value} {ds : List ActD} (hacts : ActsR (fun c => c < n0) A ds xa) (hn0 : n0 ≤ A.next) (h60 : ds.length ≤ 60) (hok : ∀ d ∈ ds, ActOk2 d)
    (hw : 1 ≤ w ∧ w ≤ 256) (hf : 2 ≤ f ∧ f ≤ 9) (hq : qu < 65536) :
    ∃ x A' b, Ans tb1 14 [.agg ⟨headC w f qu xa⟩] A (.tuple ⟨[x, .int .i64 ((0 : Nat) : Int)]⟩) A' ∧ Slc A' 5 b (byts (headB w f qu ++ encAs ds)) x ∧ Ext A A' := by
  obtain ⟨v, A', ha, x, b, hv, hs, hE⟩ : ∃ v A', Ans tb1 14 [.agg ⟨headC w f qu xa⟩] A v A' ∧ ∃ x b, v = .tuple ⟨[x, .int .i64 ((0 : Nat) : Int)]⟩ ∧ Slc A' 5 b (byts (headB w f qu ++ encAs ds)) x ∧ Ext A A' := by
    refine ans_of_W (fn_at Try.func14) c14_eq (by rw [Try.ntmps14]; simp) (by kernel_rfl) (by kernel_rfl) ?_
    have hone : ∀ v ∈ headC w f qu xa, oneCell v = true := fun v hv => by
      obtain ⟨ls, bA, -, hx, -⟩ := hacts
      simp only [headC, List.mem_cons, List.not_mem_nil, or_false] at hv
      rcases hv with rfl | rfl | rfl | rfl <;> first | rfl | exact (SlcM.cells hx).2.1
    apply W.seq
    apply W.run 20
    · intro M
      simp (config := { maxSteps := 4000000 }) (disch := first | decide +kernel | (rw [wantF_guard]; simp only [wantD_some, dstAt_zero, dstAt_succ, T.get_set, T.get_e, Nat.reduceEqDiff, if_true, if_false, wantV_bool, wantV_unit, unitV, cond_true, cond_false, Bool.not_true, Bool.not_false, List.toList_toArray]) | omega) only [c14, Try.f14, Option.getD_some, sub_seq0, sub_nil, T.puts_cons, Nat.reduceAdd, T.puts_nil, exec_region, runOps_cons, opF_box, ev_tmp, T.get_set, T.get_e, if_true, evG_some, at_ptr, putT_some, opF_alloc, zero22, zero51, runOps_nil, R.ok_bind, cells_int, cells_slc, cells_agg]
      with_reducible rfl
    -- the memory behind the first piece
    have n1 : (A.alloc (rowOb 28 (headC w f qu xa))).next = A.next + 1 := next_alloc _ _
    have v1 : Vals (A.alloc (rowOb 28 (headC w f qu xa))) 28 A.next (.var 4) (headC w f qu xa) := Go.Am.vals_new A 28 _
    have E1 := Ext.alloc A (rowOb 28 (headC w f qu xa))
    revert n1 v1 E1
    generalize A.alloc (rowOb 28 (headC w f qu xa)) = A1
    intro n1 v1 E1
    have n2 : (A1.alloc (rowOb 22 [.slice none 0 0])).next = A1.next + 1 := next_alloc _ _
    have v2 : Vals (A1.alloc (rowOb 22 [.slice none 0 0])) 22 A1.next (.var 1) [.slice none 0 0] := Go.Am.vals_new A1 22 _
    have E2 := Ext.alloc A1 (rowOb 22 [.slice none 0 0])
    revert n2 v2 E2
    generalize A1.alloc (rowOb 22 [.slice none 0 0]) = A2
    intro n2 v2 E2
    have n3 : (A2.alloc (rowOb 51 [.int .i64 0])).next = A2.next + 1 := next_alloc _ _
    have v3 : Vals (A2.alloc (rowOb 51 [.int .i64 0])) 51 A2.next (.var 1) [.int .i64 0] := Go.Am.vals_new A2 51 _
    have E3 := Ext.alloc A2 (rowOb 51 [.int .i64 0])
    revert n3 v3 E3
    generalize A2.alloc (rowOb 51 [.int .i64 0]) = A3
    intro n3 v3 E3
    have n4 : (A3.alloc (rowOb 85 [.slice none 0 0, .bool false])).next = A3.next + 1 := next_alloc _ _
    have v4 : Vals (A3.alloc (rowOb 85 [.slice none 0 0, .bool false])) 85 A3.next (.var 2) [.slice none 0 0, .bool false] := Go.Am.vals_new A3 85 _
    have E4 := Ext.alloc A3 (rowOb 85 [.slice none 0 0, .bool false])
    have n5 : ((A3.alloc (rowOb 85 [.slice none 0 0, .bool false])).alloc (rowOb 83 [.pointer none])).next = A3.next + 2 := by rw [next_alloc, n4]
    have v5 : Vals ((A3.alloc (rowOb 85 [.slice none 0 0, .bool false])).alloc (rowOb 83 [.pointer none])) 83 (A3.alloc (rowOb 85 [.slice none 0 0, .bool false])).next (.var 1) [.pointer none] := Go.Am.vals_new _ 83 _
    have E5 := Ext.alloc (A3.alloc (rowOb 85 [.slice none 0 0, .bool false])) (rowOb 83 [.pointer none])
    rw [n4] at v5
    obtain ⟨A6, hst, v6, n6, f6⟩ := store_vals (tb := tb1) (t := 83) (o := 0) (v := .pointer (some ⟨A3.next, 0, none⟩)) size83 v5 (by simp) rfl rfl
    have E36 : Ext A3 A6 := (E4.trans E5).put (b := A3.next + 1) (by omega) n6 f6
    have hst' : storeF tb1 ((A3.alloc (rowOb 85 [.slice none 0 0, .bool false])).alloc (rowOb 83 [.pointer none])) 83 (.pointer (some ⟨A3.next + 1, 0, none⟩)) (.pointer (some ⟨A3.next, 0, none⟩)) = .ok A6 := hst
    have v4' : Vals A6 85 A3.next (.var 2) [.slice none 0 0, .bool false] := v4.same (by rw [f6 _ (by omega), E5.g _ (by omega)])
    apply W.seq
    apply W.run 20
    · intro M
      simp (config := { maxSteps := 4000000 }) (disch := first | decide +kernel | (rw [wantF_guard]; simp only [wantD_some, dstAt_zero, dstAt_succ, T.get_set, T.get_e, Nat.reduceEqDiff, if_true, if_false, wantV_bool, wantV_unit, unitV, cond_true, cond_false, Bool.not_true, Bool.not_false, List.toList_toArray]) | omega) only [c14, Try.f14, Option.getD_some, sub_seq1, sub_seq0, sub_nil, exec_region, runOps_cons, opF_build, evp, putT_some, opF_box, ev_tmp, T.get_set, Nat.reduceEqDiff, T.get_e, if_false, if_true, evG_some, at_ptr, opF_alloc, zero83, next_alloc, opF_store, putT_none, runOps_nil, R.ok_bind, cells_ptr, bf85, cells_agg, hst']
      with_reducible rfl
    have E06 : Ext A A6 := ((E1.trans E2).trans E3).trans E36
    obtain ⟨d28, hd1, hd2⟩ := und28
    have l28 := Go.Am.load_all (tb := tb1) (t := 28) hd1 hd2 (by rw [size28]; rfl) (v1.same (((E2.trans E3).trans E36).g _ (by omega)))
    obtain ⟨gp, hgp⟩ := run_partsF (A := A6) (l := headC w f qu xa)
    apply W.seq
    apply W.seq
    apply W.runG (gp) 20
    · intro M hM
      simp (config := { maxSteps := 4000000 }) (disch := first | decide +kernel | (rw [wantF_guard]; simp only [wantD_some, dstAt_zero, dstAt_succ, T.get_set, T.get_e, Nat.reduceEqDiff, if_true, if_false, wantV_bool, wantV_unit, unitV, cond_true, cond_false, Bool.not_true, Bool.not_false, List.toList_toArray]) | omega) only [c14, Try.f14, Option.getD_some, sub_seq1, sub_seq0, sub_nil, exec_region, runOps_cons, opF_load, ev_tmp, T.get_set, Nat.reduceEqDiff, T.get_e, if_false, if_true, evG_some, putT_some, opF_call, evs, R.ok_bind, resK, runOps_nil, l28, hgp]
      with_reducible rfl
    show W tb1 _ _ _
    rw [c14r_eq]
    have n7 : (A6.alloc (rowOb 28 (headC w f qu xa))).next = A6.next + 1 := next_alloc _ _
    have v7 : Vals (A6.alloc (rowOb 28 (headC w f qu xa))) 28 A6.next (.var 4) (headC w f qu xa) := Go.Am.vals_new A6 28 _
    have E7 := Ext.alloc A6 (rowOb 28 (headC w f qu xa))
    revert n7 v7 E7
    generalize A6.alloc (rowOb 28 (headC w f qu xa)) = B0
    intro n7 v7 E7
    apply W.block
    generalize htt : (T.set _ 9 _ : T Value) = tt
    have t2 : tt.get 2 = some (.pointer (some ⟨A1.next, 0, none⟩)) := by rw [← htt]; simp only [T.get_set, Nat.reduceEqDiff, if_true, if_false]
    have t3 : tt.get 3 = some (.pointer (some ⟨A2.next, 0, none⟩)) := by rw [← htt]; simp only [T.get_set, Nat.reduceEqDiff, if_true, if_false]
    have t4 : tt.get 4 = some (.pointer (some ⟨A3.next + 1, 0, none⟩)) := by rw [← htt]; simp only [T.get_set, Nat.reduceEqDiff, if_true, if_false]
    have t9 : tt.get 9 = some (.func (.func 49) ⟨[]⟩ ⟨[.pointer (some ⟨A6.next, 0, none⟩)]⟩) := by rw [← htt]; simp only [T.get_set, if_true]
    have hL1 : (B0.alloc .defd).next = B0.next + 1 := next_alloc _ _
    have hL2 : ((B0.alloc .defd).alloc (.loop (putL tt B0.next))).next = B0.next + 2 := by rw [next_alloc, hL1]
    have hEL : Ext B0 ((B0.alloc .defd).alloc (.loop (putL tt B0.next))) := (Ext.alloc B0 _).trans (Ext.alloc _ _)
    have hP0 : PutM B0 A3.next A3.next tt [] ((B0.alloc .defd).alloc (.loop (putL tt B0.next))) := {
      w := ⟨.slice none 0 0, (v4'.same (E7.g _ (by omega))).same (hEL.g _ (by omega)), .inl ⟨rfl, rfl⟩, .inl rfl, by omega, by omega⟩
      hd := by rw [get_alloc_ne (by omega), get_alloc_self]
      hl := by rw [← hL1, get_alloc_self]
      hb := by omega
      n1 := .inl rfl
      hn := by omega
      old := fun y hy _ => hEL.g y hy }
    have hactsB : ActsR (fun c => c < n0) B0 ds xa := hacts.same (by have := E06.n; have := E7.n; omega) (fun c hc hl => ⟨hc, by rw [E7.g c (by have := E06.n; omega), E06.g c hl]⟩)
    obtain ⟨v, C, hc, b', hPC⟩ := run_parts1 (n0 := n0) hP0 t4 (v6.same (E7.g _ (by omega))) ⟨by omega, by omega⟩ v7 ⟨by omega, by omega⟩ hactsB (by omega) h60 hok hw hf hq
    have hfv : ev tt (.tmp 9) = .ok (.func (.func 49) ⟨[]⟩ ⟨[.pointer (some ⟨A6.next, 0, none⟩)]⟩) := by rw [ev_tmp, t9]; rfl
    refine W.rangeF hfv hc hPC.hl (by intro h; cases h) rfl ?_
    show W tb1 _ _ _
    have hCn := hPC.hn
    have hCb := hPC.n1
    obtain ⟨x, k1, k2, k3, k4, k5⟩ := hPC.w
    have hset : ∀ y, y ≠ B0.next + 1 → (C.set (B0.next + 1) (.loop { (putL tt B0.next) with state := .exhausted })).get y = C.get y := fun y hy => by rw [get_setMem, if_neg hy]
    have hsn : (C.set (B0.next + 1) (.loop { (putL tt B0.next) with state := .exhausted })).next = C.next := next_set _ _ _
    show W tb1 _ ⟨_, _, _, C.set (B0.next + 1) (.loop { (putL tt B0.next) with state := .exhausted }), _⟩ _
    revert hset hsn
    generalize C.set (B0.next + 1) (.loop { (putL tt B0.next) with state := .exhausted }) = D
    intro hset hsn
    have old : ∀ y, y < B0.next → y ≠ A3.next → D.get y = B0.get y := fun y hy hyb => by rw [hset _ (by omega), hPC.old y hy hyb]
    have E37 : Ext A3 B0 := E36.trans E7
    have m4 : Vals D 83 (A3.next + 1) (.var 1) [.pointer (some ⟨A3.next, 0, none⟩)] := (v6.same (E7.g _ (by omega))).same (old _ (by omega) (by omega))
    have m1 : Vals D 22 A1.next (.var 1) [.slice none 0 0] := (v2.same ((E3.trans E37).g _ (by omega))).same (old _ (by omega) (by omega))
    have m2 : Vals D 51 A2.next (.var 1) [.int .i64 0] := (v3.same (E37.g _ (by omega))).same (old _ (by omega) (by omega))
    have mw : Vals D 85 A3.next (.var 2) [x, .bool false] := k1.same (hset _ (by omega))
    have ms : Slc D 5 b' (byts (headB w f qu ++ encAs ds)) x := k2.same (by omega) (fun _ => hset _ (by omega))
    obtain ⟨d83, hd83, hd83'⟩ := und83
    have l4 : loadF tb1 D.get 83 (.pointer (some ⟨A3.next + 1, 0, none⟩)) = .ok (.pointer (some ⟨A3.next, 0, none⟩)) := load_vals hd83 hd83' m4 rfl
    have lx : loadF tb1 D.get 22 (.pointer (some ⟨A3.next, 0, none⟩)) = .ok x := load_vals und22 rfl mw rfl
    obtain ⟨D1, hst1, w1, nD1, fD1⟩ := store_vals (tb := tb1) (t := 22) (o := 0) (v := x) size22 m1 (by simp) ms.cells ms.one
    obtain ⟨D2, hst2, w2, nD2, fD2⟩ := store_vals (tb := tb1) (t := 51) (o := 0) (v := .int .i64 ((0 : Nat) : Int)) size51 (m2.same (fD1 _ (by omega))) (by simp) rfl rfl
    apply W.seq
    apply W.run 20
    · intro M
      simp (config := { maxSteps := 4000000 }) (disch := first | decide +kernel | (rw [wantF_guard]; simp only [wantD_some, dstAt_zero, dstAt_succ, T.get_set, T.get_e, Nat.reduceEqDiff, if_true, if_false, wantV_bool, wantV_unit, unitV, cond_true, cond_false, Bool.not_true, Bool.not_false, List.toList_toArray]) | omega) only [c14, Try.f14, Option.getD_some, sub_seq1, sub_seq0, sub_nil, exec_region, runOps_cons, opF_load, ev_tmp, t4, evG_some, putT_some, opF_nilCheck, T.get_set, if_true, opF_fieldAddr, Nat.reduceEqDiff, if_false, opF_store, t2, putT_none, t3, ev_int, runOps_nil, R.ok_bind, l4, nil_ptr, fa85_0, lx, hst1, hst2]
      with_reducible rfl
    apply W.run 20
    · intro M
      simp (config := { maxSteps := 4000000 }) (disch := first | decide +kernel | (rw [wantF_guard]; simp only [wantD_some, dstAt_zero, dstAt_succ, T.get_set, T.get_e, Nat.reduceEqDiff, if_true, if_false, wantV_bool, wantV_unit, unitV, cond_true, cond_false, Bool.not_true, Bool.not_false, List.toList_toArray]) | omega) only [c14, Try.f14, Option.getD_some, sub_seq1, sub_nil, exec_ret]
      with_reducible rfl
    have w1' : Vals D2 22 A1.next (.var 1) [x] := w1.same (fD2 _ (by omega))
    have hdd : D2.get B0.next = some .defd := by rw [fD2 _ (by omega), fD1 _ (by omega), hset _ (by omega)]; exact hPC.hd
    have hFs : ∀ y, y ≠ B0.next → (D2.set B0.next .dead).get y = D2.get y := fun y hy => by rw [get_setMem, if_neg hy]
    have hFn : (D2.set B0.next .dead).next = D2.next := next_set _ _ _
    refine ⟨.inr rfl, D2.set B0.next .dead, [x, .int .i64 ((0 : Nat) : Int)], ?_, ?_, x, b', rfl, ?_, ⟨?_, ?_⟩⟩
    · show takeF [B0.next] D2 = _
      unfold takeF
      rw [hdd]
      rfl
    · have r1 : loadF tb1 (D2.set B0.next .dead).get 22 (.pointer (some ⟨A1.next, 0, none⟩)) = .ok x := load_vals und22 rfl (w1'.same (hFs _ (by omega))) rfl
      have r2 : loadF tb1 (D2.set B0.next .dead).get 51 (.pointer (some ⟨A2.next, 0, none⟩)) = .ok (.int .i64 ((0 : Nat) : Int)) := load_vals und51 rfl (w2.same (hFs _ (by omega))) rfl
      simp only [Try.f14, resF, ev_tmp, T.get_set, Nat.reduceEqDiff, if_true, if_false, evG_some, R.ok_bind, t2, t3, r1, r2]
    · refine ms.same (by omega) (fun hl => ?_)
      rcases hCb with hq2 | hq2
      · rcases k3 with k3 | k3
        · rcases ms with ⟨-, e⟩ | ⟨k, c, e, -⟩
          · exact absurd e (by simp [byts, headB])
          · rw [k3] at e; cases e
        · exact absurd hq2 k3
      · rw [hFs _ (by omega), fD2 _ (by omega), fD1 _ (by omega)]
    · omega
    · intro y hy
      rw [hFs _ (by omega), fD2 _ (by omega), fD1 _ (by omega), old _ (by omega) (by omega), E7.g _ (by omega), E06.g _ hy]
  subst hv
  exact ⟨x, A', b, ha, hs, hE⟩
end Go.Proofs.Ytmhldlnlgjpkaaa.scr

/-
  Script: what was read can be laid.
-/
namespace Go.Proofs.Ytmhldlnlgjpkaaa.scr
open Go.Am
set_option linter.unusedSimpArgs false
set_option linter.unusedVariables false

theorem numV_ok (r : List UInt8) : NumOk (numV r) := by
  have h := nx_lt r
  unfold numV NumOk
  split
  · exact .inr rfl
  · exact .inl (by omega)
theorem numbersD_ok (r : List UInt8) (k : Nat) : ∀ v ∈ numbersD r k, NumOk v := fun v hv => by
  simp only [numbersD, List.mem_map] at hv
  obtain ⟨i, -, rfl⟩ := hv
  exact numV_ok _
theorem wordD_ok (r : List UInt8) : WordOk (wordD r).1 := by
  have hn := nx_lt r
  unfold wordD
  split
  · left
    simp only [List.length_replicate]
    have e : 32 * (nx r - 248 + 1) / 32 = nx r - 248 + 1 := by omega
    rw [e]
    exact ⟨by omega, by omega, rfl⟩
  · right
    simp only [lettersD_len]
    refine ⟨by omega, fun c hc => ?_⟩
    simp only [lettersD, List.mem_map] at hc
    obtain ⟨i, -, rfl⟩ := hc
    have h := nx_lt (r.tail.drop i)
    rw [letV_nat]
    split <;> omega
theorem stopD_ok (c : Bool) (s : List UInt8) : (∀ v ∈ (stopD c s).1, NumOk v) ∧ ∀ o ∈ (stopD c s).2.1, ∀ v ∈ o.2, NumOk v := by
  cases c with
  | false => exact ⟨fun v hv => (by cases hv), fun o ho => (by cases ho)⟩
  | true =>
    have e : stopD true s = (numbersD s.tail (nx s % 6), opensL (s.tail.drop (nx s % 6)) (nx s / 6 % 4), opensRest (s.tail.drop (nx s % 6)) (nx s / 6 % 4)) := rfl
    rw [e]
    refine ⟨numbersD_ok _ _, fun o ho => ?_⟩
    simp only [opensL, List.mem_map] at ho
    obtain ⟨i, -, rfl⟩ := ho
    exact numbersD_ok _ _
theorem moreD_ok (kd : Nat) (s : List UInt8) : (weighs kd = true → (moreD kd s).1 < 255 ∨ (moreD kd s).1 = 4294967295) ∧ (weighs kd = false → (moreD kd s).1 = 0) ∧
    (kd = 7 → ∃ a c : Nat, a < 6 ∧ c < 12 ∧ (moreD kd s).2.1 = (a : Int) - 1 ∧ (moreD kd s).2.2.1 = (c : Int) - 1) ∧ (kd ≠ 7 → (moreD kd s).2.1 = 0 ∧ (moreD kd s).2.2.1 = 0) := by
  have hn := nx_lt s
  unfold moreD
  by_cases hw : weighs kd = true
  · have h7 : kd ≠ 7 := fun h => by subst h; cases hw
    rw [if_pos hw]
    refine ⟨fun _ => ?_, fun h => (by rw [hw] at h; cases h), fun h => absurd h h7, fun _ => ⟨rfl, rfl⟩⟩
    simp only
    split
    · exact .inr rfl
    · exact .inl (by omega)
  · rw [if_neg hw]
    by_cases h7 : kd = 7
    · rw [if_pos h7]
      refine ⟨fun h => absurd h hw, fun _ => rfl, fun _ => ⟨nx s % 6, nx s / 6 % 12, by omega, by omega, by simp, by simp⟩, fun h => absurd h7 h⟩
    · rw [if_neg h7]
      exact ⟨fun h => absurd h hw, fun _ => rfl, fun h => absurd h h7, fun _ => ⟨rfl, rfl⟩⟩
theorem actD_ok2 (r : List UInt8) : ActOk2 (actD r).1 := by
  obtain ⟨m1, m2, m3, m4⟩ := moreD_ok (nx r % 10) (wordD (armD (nx r) r.tail).2).2
  obtain ⟨s1, s2⟩ := stopD_ok (cutD (nx r) || decide (0 < (armD (nx r) r.tail).1)) (moreD (nx r % 10) (wordD (armD (nx r) r.tail).2).2).2.2.2
  exact { ok := actD_ok r, word := wordD_ok _, stays := s1, opening := s2, w1 := m1, w0 := m2, kn := m3, k0 := m4 }
theorem actsD_ok2 : ∀ n r, ∀ d ∈ (actsD n r).1, ActOk2 d
  | 0, r, d, h => by cases h
  | n + 1, r, d, h => by
    unfold actsD at h
    split at h
    · cases h
    · rcases List.mem_cons.1 h with rfl | h
      · exact actD_ok2 r
      · exact actsD_ok2 n _ d h
theorem headB_eq (b : List UInt8) (ds : List ActD) : headB (1 + nx b) (2 + nx b.tail % 8) (nx b.tail.tail + 256 * nx b.tail.tail.tail) ++ encAs ds = UInt8.ofNat (nx b) :: UInt8.ofNat (nx b.tail % 8) :: UInt8.ofNat (nx b.tail.tail) :: UInt8.ofNat (nx b.tail.tail.tail) :: encAs ds := by
  have h2 := nx_lt b.tail.tail
  unfold headB
  rw [show 1 + nx b - 1 = nx b by omega, show 2 + nx b.tail % 8 - 2 = nx b.tail % 8 by omega, show (nx b.tail.tail + 256 * nx b.tail.tail.tail) % 256 = nx b.tail.tail by omega, show (nx b.tail.tail + 256 * nx b.tail.tail.tail) / 256 = nx b.tail.tail.tail by omega]
  rfl
/-- What is laid of what was read is read as it was. -/
theorem encB_back (b : List UInt8) : nx (encB b) = nx b ∧ nx (encB b).tail % 8 = nx b.tail % 8 ∧ nx (encB b).tail.tail = nx b.tail.tail ∧ nx (encB b).tail.tail.tail = nx b.tail.tail.tail ∧ actsD 60 (restD (encB b)) = ((actsD 60 (restD b)).1, []) := by
  have n0 := nx_lt b
  have n1 := nx_lt b.tail
  have n2 := nx_lt b.tail.tail
  have n3 := nx_lt b.tail.tail.tail
  refine ⟨nx_ofNat n0 _, ?_, nx_ofNat n2 _, nx_ofNat n3 _, (actsD_rg 60 (restD b)).2.1⟩
  have e : nx (encB b).tail = nx b.tail % 8 := nx_ofNat (by omega) _
  rw [e]; omega
end Go.Proofs.Ytmhldlnlgjpkaaa.scr

