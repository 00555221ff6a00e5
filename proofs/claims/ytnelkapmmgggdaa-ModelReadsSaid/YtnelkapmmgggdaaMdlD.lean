/-
  What the functions of this group compute on the abstract machine, and the plain laws of it. Part D: conditions stand in each theorem.
-/
import Derived.Test.YtnelkapmmgggdaaMdlC

set_option maxHeartbeats 16000000
set_option maxRecDepth 20000
/-
  Model: changed.
-/
namespace Go.Proofs.Ytnelkapmmgggdaa.mdl
open Go.Am Go.Mdl
open Go.Proofs.Ytnelkapmmgggdaa.rnk (HitD hitC ordD lessB sortH ordK lessK hitC_len sortH_len)
set_option linter.unusedSimpArgs false
set_option linter.unusedVariables false
set_option linter.unusedVariables false

def chT (s : MdlS) (d' : List EntD) (e told : Nat) : MdlS × Nat :=
  if e ≠ 0 then (s, e) else if (keepD s told).2 = 0 then (⟨d', (keepD s told).1.bad, (keepD s told).1.closed⟩, 0) else keepD s told
def chE (bad : Bool) (e : Nat) : Nat := if e ≠ 7 ∧ bad = true then 11 else e
def changeD (s : MdlS) (o : OpV) (told : Nat) : MdlS × Nat := chT s (runU [o] (s.d, 0)).1 (chE s.bad (runU [o] (s.d, 0)).2) told
noncomputable def c40 : Code := Try.f40.body.getD .skip
theorem c40_eq : Try.f40.body = some (.seq (sub c40 [0]) (.seq (sub c40 [1,0]) (.seq (.seq (sub c40 [1,1,0,0]) (sub c40 [1,1,0,1])) (.seq (.seq (sub c40 [1,1,1,0,0]) (sub c40 [1,1,1,0,1])) (.seq (sub c40 [1,1,1,1,0]) (.seq (.seq (sub c40 [1,1,1,1,1,0,0]) (sub c40 [1,1,1,1,1,0,1])) (.seq (sub c40 [1,1,1,1,1,1,0]) (sub c40 [1,1,1,1,1,1,1])))))))) := by kernel_rfl
theorem change_tail {C : Mem} {q p told e : Nat} {s : MdlS} {o : OpV} {d' : List EntD} {y : Value} {t : T Value} {K : Ex → St → Prop} (hm : ModV C q s) (vO : VarO C p o) (vR : Vals C 53 (p + 1) (.var 3) repZ) (hp1 : p + 1 < C.next) (hy : EntE C d' y) (hq : q < p)
    (ht : Sl t [(0, .pointer (some ⟨q, 0, none⟩)), (2, .int .i64 (told : Int)), (4, .pointer (some ⟨p, 0, none⟩)), (6, .pointer (some ⟨p + 1, 0, none⟩)), (7, y), (8, .int .i64 (e : Int))])
    (hK : ∀ t' C', t'.get 6 = some (.pointer (some ⟨p + 1, 0, none⟩)) → ModV C' q (chT s d' e told).1 → C.next ≤ C'.next → (∀ z, z < C.next → z ≠ q → z ≠ p + 1 → C'.get z = C.get z) → loadF tb4 C'.get 53 (.pointer (some ⟨p + 1, 0, none⟩)) = .ok (repO (chT s d' e told).2) → K .ret ⟨t', 44, [], C', none⟩) :
    W tb4 (.seq (.seq (sub c40 [1,1,1,0,0]) (sub c40 [1,1,1,0,1])) (.seq (sub c40 [1,1,1,1,0]) (.seq (.seq (sub c40 [1,1,1,1,1,0,0]) (sub c40 [1,1,1,1,1,0,1])) (.seq (sub c40 [1,1,1,1,1,1,0]) (sub c40 [1,1,1,1,1,1,1]))))) ⟨t, 44, [], C, none⟩ K := by
  obtain ⟨g0, g2, g4, g6, g7, g8, -⟩ := ht
  apply W.seq
  apply W.seq
  by_cases he : e = 0
  · subst he
    apply W.run 20
    · intro M
      simp (disch := first | decide +kernel | omega) only [c40, Try.f40, Option.getD_some, sub_seq1, sub_seq0, sub_nil, exec_region, runOps_cons, opF_move, ev_tmp, g8, evG_some, putT_some, opF_neq, T.get_set, if_true, ev_int, runOps_nil, R.ok_bind, binF_int, op_neq, ne_eq, not_true_eq_false, decide_false]
      with_reducible rfl
    apply W.run 20
    · intro M
      simp (disch := first | decide +kernel | omega) only [c40, Try.f40, Option.getD_some, sub_seq1, sub_seq0, sub_nil, exec_cond, ev_tmp, T.get_set, Nat.reduceEqDiff, if_false, if_true, evG_some, exec_seq, exec_region, runOps_cons, opF_move, putT_some, opF_build, evp, R.ok_bind, opF_store, putT_none, runOps_nil, exec_ret, exec_skip]
      with_reducible rfl
    show W tb4 _ _ _
    have lo := vO.all
    obtain ⟨v, D, ⟨g, hg⟩, rfl, mD, kD⟩ := run_keep (told := told) (o := o) hm
    have kDn := kD.1
    obtain ⟨ls, hv68⟩ := hm.v
    have hyD := hy.kq hv68 kD
    have vRD : Vals D 53 (p + 1) (.var 3) repZ := vR.same (kD.2 _ hp1 (by omega))
    have z9 : Vals (D.alloc (rowOb 53 repZ)) 53 D.next (.var 3) repZ := vals_puts (get_alloc_self _ _)
    have kA := Kp.alloc D (rowOb 53 repZ)
    obtain ⟨E, s1, v1, l1, n1, k1⟩ := rep_store (e' := (keepD s told).2) (w' := 0) (x' := .slice none 0 0) z9 rfl
    rw [next_alloc] at n1
    have kDE : Kp D E := ⟨by omega, fun z hz => by rw [k1 z (by omega), kA.2 z hz]⟩
    have mE := mD.kp kDE
    have vRE : Vals E 53 (p + 1) (.var 3) repZ := vRD.same (kDE.2 _ (by omega))
    have lE : loadF tb4 E.get 40 (.pointer (some ⟨D.next, 0, none⟩)) = .ok (.int .i64 ((keepD s told).2 : Int)) := load_vals und40' rfl v1 rfl
    have s1' : storeF tb4 (D.alloc (rowOb 53 repZ)) 53 (.pointer (some ⟨D.next, 0, none⟩)) (repO (keepD s told).2) = .ok E := s1
    apply W.seq
    apply W.runG (g) 20
    · intro M hM
      simp (disch := first | decide +kernel | omega) only [c40, Try.f40, Option.getD_some, sub_seq1, sub_seq0, sub_nil, exec_region, runOps_cons, opF_move, ev_tmp, T.get_set, Nat.reduceEqDiff, g0, if_false, evG_some, putT_some, opF_load, g4, g2, opF_call, evs, if_true, R.ok_bind, resK, opF_alloc, z53, at_ptr, opF_store, putT_none, runOps_nil, cells_agg, lo, hg, s1']
      with_reducible rfl
    apply W.seq
    apply W.seq
    by_cases hk : (keepD s told).2 = 0
    · rw [hk] at lE l1
      have hr : chT s d' 0 told = (⟨d', (keepD s told).1.bad, (keepD s told).1.closed⟩, 0) := by
        unfold chT; rw [if_neg (by decide), if_pos hk]
      obtain ⟨F, s2, m2, n2, k2⟩ := mE.setD (hyD.kp kDE)
      have lF : loadF tb4 F.get 53 (.pointer (some ⟨D.next, 0, none⟩)) = .ok (.agg ⟨repC 0 0 (.slice none 0 0)⟩) := by
        obtain ⟨d53, hd1, hd2⟩ := und53
        rw [hk] at v1
        exact load_all (tb := tb4) hd1 hd2 (l := repC 0 0 (.slice none 0 0)) size53 (v1.same (k2 _ (by omega)))
      have vRF : Vals F 53 (p + 1) (.var 3) repZ := vRE.same (k2 _ (by omega))
      obtain ⟨G, s3, v3, l3, n3, k3⟩ := rep_store (e' := 0) (w' := 0) (x' := .slice none 0 0) vRF rfl
      apply W.run 20
      · intro M
        simp (disch := first | decide +kernel | omega) only [c40, Try.f40, Option.getD_some, sub_seq1, sub_seq0, sub_nil, exec_region, runOps_cons, opF_fieldAddr, ev_tmp, T.get_set, Nat.reduceEqDiff, if_false, if_true, evG_some, putT_some, opF_load, opF_eql, ev_int, runOps_nil, R.ok_bind, f53_0, lE, binF_int, op_eql, decide_true]
        with_reducible rfl
      apply W.run 20
      · intro M
        simp (disch := first | decide +kernel | omega) only [c40, Try.f40, Option.getD_some, sub_seq1, sub_seq0, sub_nil, exec_cond, ev_tmp, T.get_set, Nat.reduceEqDiff, if_false, if_true, evG_some, exec_region, runOps_cons, opF_move, g0, putT_some, g7, opF_nilCheck, opF_fieldAddr, opF_store, putT_none, runOps_nil, R.ok_bind, nil_ptr, fm0, s2, exec_skip]
        with_reducible rfl
      apply W.seq
      apply W.run 20
      · intro M
        simp (disch := first | decide +kernel | omega) only [c40, Try.f40, Option.getD_some, sub_seq1, sub_seq0, sub_nil, exec_region, runOps_cons, opF_load, ev_tmp, T.get_set, Nat.reduceEqDiff, if_false, if_true, evG_some, putT_some, opF_store, g6, putT_none, runOps_nil, R.ok_bind, lF, s3]
        with_reducible rfl
      apply W.run 20
      · intro M
        simp (disch := first | decide +kernel | omega) only [c40, Try.f40, Option.getD_some, sub_seq1, sub_nil, exec_ret]
        with_reducible rfl
      refine hK _ G ?_ (by rw [hr]; exact m2.rep vRF n3 k3) (by omega) (fun z hz h1 h2 => by rw [k3 z h2, k2 z h1, kDE.2 z (by omega), kD.2 z hz h1]) (by rw [hr]; exact l3)
      simp only [T.get_set, Nat.reduceEqDiff, if_false, g6]
    · have hr : chT s d' 0 told = keepD s told := by
        unfold chT; rw [if_neg (by decide), if_neg hk]
      obtain ⟨G, s3, v3, l3, n3, k3⟩ := rep_store (e' := (keepD s told).2) (w' := 0) (x' := .slice none 0 0) vRE rfl
      apply W.run 20
      · intro M
        simp (disch := first | decide +kernel | omega) only [c40, Try.f40, Option.getD_some, sub_seq1, sub_seq0, sub_nil, exec_region, runOps_cons, opF_fieldAddr, ev_tmp, T.get_set, Nat.reduceEqDiff, if_false, if_true, evG_some, putT_some, opF_load, opF_eql, ev_int, runOps_nil, R.ok_bind, f53_0, lE, binF_int, op_eql, hk, decide_false]
        with_reducible rfl
      apply W.run 20
      · intro M
        simp (disch := first | decide +kernel | omega) only [c40, Try.f40, Option.getD_some, sub_seq1, sub_seq0, sub_nil, exec_cond, ev_tmp, T.get_set, Nat.reduceEqDiff, if_false, if_true, evG_some, exec_region, runOps_cons, opF_move, putT_some, exec_skip, R.ok_bind]
        with_reducible rfl
      apply W.seq
      apply W.run 20
      · intro M
        simp (disch := first | decide +kernel | omega) only [c40, Try.f40, Option.getD_some, sub_seq1, sub_seq0, sub_nil, exec_region, runOps_cons, opF_load, ev_tmp, T.get_set, Nat.reduceEqDiff, if_false, if_true, evG_some, putT_some, opF_store, g6, putT_none, runOps_nil, R.ok_bind, l1, s3]
        with_reducible rfl
      apply W.run 20
      · intro M
        simp (disch := first | decide +kernel | omega) only [c40, Try.f40, Option.getD_some, sub_seq1, sub_nil, exec_ret]
        with_reducible rfl
      refine hK _ G ?_ (by rw [hr]; exact mE.rep vRE n3 k3) (by omega) (fun z hz h1 h2 => by rw [k3 z h2, kDE.2 z (by omega), kD.2 z hz h1]) (by rw [hr]; exact l3)
      simp only [T.get_set, Nat.reduceEqDiff, if_false, g6]
  · have hr : chT s d' e told = (s, e) := by unfold chT; rw [if_pos he]
    obtain ⟨D, s1, v1, l1, n1, k1⟩ := rep_store (e' := e) (w' := 0) (x' := .slice none 0 0) vR rfl
    apply W.run 20
    · intro M
      simp (disch := first | decide +kernel | omega) only [c40, Try.f40, Option.getD_some, sub_seq1, sub_seq0, sub_nil, exec_region, runOps_cons, opF_move, ev_tmp, g8, evG_some, putT_some, opF_neq, T.get_set, if_true, ev_int, runOps_nil, R.ok_bind, binF_int, op_neq, ne_eq, he, not_false_eq_true, decide_true]
      with_reducible rfl
    apply W.run 20
    · intro M
      simp (disch := first | decide +kernel | omega) only [c40, Try.f40, Option.getD_some, sub_seq1, sub_seq0, sub_nil, exec_cond, ev_tmp, T.get_set, Nat.reduceEqDiff, if_false, if_true, evG_some, exec_seq, exec_region, runOps_cons, opF_move, g8, putT_some, opF_build, evp, R.ok_bind, opF_store, g6, putT_none, runOps_nil, bld53, s1, exec_ret, exec_skip]
      with_reducible rfl
    refine hK _ D ?_ (by rw [hr]; exact hm.rep vR n1 k1) (by omega) (fun z hz h1 h2 => k1 z h2) (by rw [hr]; exact l1)
    simp only [T.get_set, Nat.reduceEqDiff, if_false, g6]
theorem run_change {A : Mem} {q told : Nat} {s : MdlS} {o : OpV} (h : ModV A q s) (hd : OkM s.d) :
    ∃ v A', Ans tb4 40 [.pointer (some ⟨q, 0, none⟩), .agg ⟨opC o⟩, .int .i64 (told : Int)] A v A' ∧ v = repO (changeD s o told).2 ∧ ModV A' q (changeD s o told).1 ∧ Kq q A A' := by
  refine ans_of_W (fn_at Try.func40) c40_eq (by rw [Try.ntmps40]; simp) (by kernel_rfl) (by kernel_rfl) ?_
  obtain ⟨vO, vR, k0, n0⟩ := two_vars A o
  have hqA := h.lt
  have hm := h.kp k0
  apply W.seq
  apply W.run 20
  · intro M
    simp (disch := first | decide +kernel | omega) only [c40, Try.f40, Option.getD_some, sub_seq0, sub_nil, T.puts_cons, Nat.reduceAdd, T.puts_nil, exec_region, runOps_cons, opF_box, ev_tmp, T.get_set, Nat.reduceEqDiff, T.get_e, if_false, if_true, evG_some, at_ptr, putT_some, opF_alloc, z53, next_alloc, runOps_nil, R.ok_bind, cells_agg]
    with_reducible rfl
  show W tb4 _ _ _
  generalize (A.alloc (rowOb 38 (opC o))).alloc (rowOb 53 repZ) = B at vO vR k0 n0 hm
  obtain ⟨x, lx, hx⟩ := hm.d
  have lo := vO.all
  have kF := Kp.alloc B (rowOb 38 (opC o))
  obtain ⟨y, C, ⟨g, hg⟩, hy, kC⟩ := run_update (hx.kp kF) hd.1 ops_one (by have := hd.2.1; simp only [List.length_cons, List.length_nil]; omega)
  have kBC := kF.trans kC
  have kn := kBC.1
  obtain ⟨e, he⟩ : ∃ e, (runU [o] (s.d, 0)).2 = e := ⟨_, rfl⟩
  rw [he] at hg
  have mC := hm.kp kBC
  have vRC : Vals C 53 (A.next + 1) (.var 3) repZ := vR.same (kBC.2 _ (by omega))
  have lb := mC.bad
  have hch : changeD s o told = chT s (runU [o] (s.d, 0)).1 (chE s.bad e) told := by unfold changeD; rw [he]
  apply W.seq
  apply W.runG (g) 20
  · intro M hM
    simp (disch := first | decide +kernel | omega) only [c40, Try.f40, Option.getD_some, sub_seq1, sub_seq0, sub_nil, exec_draw, runOps_cons, opF_move, ev_tmp, T.get_set, Nat.reduceEqDiff, T.get_e, if_true, if_false, evG_some, putT_some, opF_nilCheck, opF_fieldAddr, opF_load, opF_buildSlice, evp, R.ok_bind, opF_call, evs, resK, opF_extract, extractF, opF_assign, runOps_nil, lo, bs70, at_slc, nil_ptr, fm0, lx, hg, List.getElem?_cons_zero, List.getElem?_cons_succ]
    with_reducible rfl
  show W tb4 _ _ _
  refine W_gen [(0, .pointer (some ⟨q, 0, none⟩)), (2, .int .i64 (told : Int)), (4, .pointer (some ⟨A.next, 0, none⟩)), (6, .pointer (some ⟨A.next + 1, 0, none⟩)), (7, y), (8, .int .i64 (e : Int))] (by simp only [Sl_cons, Sl_nil, T.get_set, T.puts_cons, T.puts_nil, Nat.reduceEqDiff, Nat.reduceAdd, if_true, if_false, and_true, true_and]) fun t ht => ?_
  obtain ⟨g0, g2, g4, g6, g7, g8, -⟩ := ht
  have fin : ∀ (t : T Value), Sl t [(0, .pointer (some ⟨q, 0, none⟩)), (2, .int .i64 (told : Int)), (4, .pointer (some ⟨A.next, 0, none⟩)), (6, .pointer (some ⟨A.next + 1, 0, none⟩)), (7, y), (8, .int .i64 ((chE s.bad e : Nat) : Int))] →
      W tb4 (.seq (.seq (sub c40 [1,1,1,0,0]) (sub c40 [1,1,1,0,1])) (.seq (sub c40 [1,1,1,1,0]) (.seq (.seq (sub c40 [1,1,1,1,1,0,0]) (sub c40 [1,1,1,1,1,0,1])) (.seq (sub c40 [1,1,1,1,1,1,0]) (sub c40 [1,1,1,1,1,1,1]))))) ⟨t, 44, [], C, none⟩ (fun e s_1 => (e = .nrm ∨ e = .ret) ∧ ∃ A' vs, takeF s_1.d s_1.m = .ok A' ∧ resF tb4 s_1.t A'.get Try.f40.results.toList = .ok vs ∧ oneOf vs = repO (changeD s o told).2 ∧ ModV A' q (changeD s o told).1 ∧ Kq q A A') := by
    intro t ht
    refine change_tail mC (vO.kp kBC) vRC (by omega) hy hqA ht fun t' D h6 mD nD kD lD => ?_
    rw [hch]
    refine ⟨.inr rfl, D, [repO (chT s (runU [o] (s.d, 0)).1 (chE s.bad e) told).2], rfl, ?_, rfl, mD, ⟨by omega, fun z hz hne => by rw [kD z (by omega) hne (by omega), kBC.2 z (by omega), k0.2 z hz]⟩⟩
    simp only [Try.f40, resF, ev_tmp, T.get_set, Nat.reduceEqDiff, if_true, if_false, evG_some, R.ok_bind, h6, lD]
  apply W.seq
  apply W.seq
  by_cases h7 : e = 7
  · subst h7
    have hce : chE s.bad 7 = 7 := by unfold chE; rw [if_neg (fun h => h.1 rfl)]
    apply W.run 20
    · intro M
      simp (config := { maxSteps := 4000000 }) (disch := first | decide +kernel | (rw [wantF_guard]; simp only [wantD_some, dstAt_zero, dstAt_succ, T.get_set, T.get_e, Nat.reduceEqDiff, if_true, if_false, wantV_bool, wantV_unit, unitV, cond_true, cond_false, Bool.not_true, Bool.not_false, List.toList_toArray]) | omega) only [c40, Try.f40, Option.getD_some, sub_seq1, sub_seq0, sub_nil, exec_region, runOps_cons, opF_move, ev_tmp, g8, evG_some, putT_some, opF_neq, T.get_set, if_true, ev_int, Nat.reduceEqDiff, if_false, R.ok_bind, binF_int, op_neq, ne_eq, not_true_eq_false, decide_false, runOps_no, opF_pick, pickF, ev_bool, runOps_nil]
      with_reducible rfl
    apply W.run 20
    · intro M
      simp (disch := first | decide +kernel | omega) only [c40, Try.f40, Option.getD_some, sub_seq1, sub_seq0, sub_nil, exec_cond, ev_tmp, T.get_set, Nat.reduceEqDiff, if_false, if_true, evG_some, exec_region, runOps_cons, opF_assign, ev_int, putT_some, runOps_nil, R.ok_bind, exec_skip]
      with_reducible rfl
    refine fin _ ?_
    rw [hce]
    simp only [Sl_cons, Sl_nil, T.get_set, T.puts_cons, T.puts_nil, Nat.reduceEqDiff, Nat.reduceAdd, if_true, if_false, and_true, true_and, g0, g2, g4, g6, g7, g8]
  · cases hb : s.bad with
    | true =>
      have hce : chE s.bad e = 11 := by unfold chE; rw [if_pos ⟨h7, hb⟩]
      rw [hb] at lb
      apply W.run 20
      · intro M
        simp (config := { maxSteps := 4000000 }) (disch := first | decide +kernel | (rw [wantF_guard]; simp only [wantD_some, dstAt_zero, dstAt_succ, T.get_set, T.get_e, Nat.reduceEqDiff, if_true, if_false, wantV_bool, wantV_unit, unitV, cond_true, cond_false, Bool.not_true, Bool.not_false, List.toList_toArray]) | omega) only [c40, Try.f40, Option.getD_some, sub_seq1, sub_seq0, sub_nil, exec_region, runOps_cons, opF_move, ev_tmp, g8, evG_some, putT_some, opF_neq, T.get_set, if_true, ev_int, Nat.reduceEqDiff, if_false, R.ok_bind, binF_int, op_neq, ne_eq, h7, not_false_eq_true, decide_true, runOps_yes, g0, opF_nilCheck, opF_fieldAddr, opF_load, opF_pick, pickF, ev_bool, runOps_nil, nil_ptr, fm1, lb]
        with_reducible rfl
      apply W.run 20
      · intro M
        simp (disch := first | decide +kernel | omega) only [c40, Try.f40, Option.getD_some, sub_seq1, sub_seq0, sub_nil, exec_cond, ev_tmp, T.get_set, Nat.reduceEqDiff, if_false, if_true, evG_some, exec_region, runOps_cons, opF_assign, ev_int, putT_some, runOps_nil, R.ok_bind, exec_skip]
        with_reducible rfl
      refine fin _ ?_
      rw [hce]
      simp only [Sl_cons, Sl_nil, T.get_set, T.puts_cons, T.puts_nil, Nat.reduceEqDiff, Nat.reduceAdd, if_true, if_false, and_true, true_and, g0, g2, g4, g6, g7]
    | false =>
      have hce : chE s.bad e = e := by unfold chE; rw [if_neg (fun h => by rw [hb] at h; cases h.2)]
      rw [hb] at lb
      apply W.run 20
      · intro M
        simp (config := { maxSteps := 4000000 }) (disch := first | decide +kernel | (rw [wantF_guard]; simp only [wantD_some, dstAt_zero, dstAt_succ, T.get_set, T.get_e, Nat.reduceEqDiff, if_true, if_false, wantV_bool, wantV_unit, unitV, cond_true, cond_false, Bool.not_true, Bool.not_false, List.toList_toArray]) | omega) only [c40, Try.f40, Option.getD_some, sub_seq1, sub_seq0, sub_nil, exec_region, runOps_cons, opF_move, ev_tmp, g8, evG_some, putT_some, opF_neq, T.get_set, if_true, ev_int, Nat.reduceEqDiff, if_false, R.ok_bind, binF_int, op_neq, ne_eq, h7, not_false_eq_true, decide_true, runOps_yes, g0, opF_nilCheck, opF_fieldAddr, opF_load, opF_pick, pickF, ev_bool, runOps_nil, nil_ptr, fm1, lb]
        with_reducible rfl
      apply W.run 20
      · intro M
        simp (disch := first | decide +kernel | omega) only [c40, Try.f40, Option.getD_some, sub_seq1, sub_seq0, sub_nil, exec_cond, ev_tmp, T.get_set, Nat.reduceEqDiff, if_false, if_true, evG_some, exec_region, runOps_cons, opF_assign, ev_int, putT_some, runOps_nil, R.ok_bind, exec_skip]
        with_reducible rfl
      refine fin _ ?_
      rw [hce]
      simp only [Sl_cons, Sl_nil, T.get_set, T.puts_cons, T.puts_nil, Nat.reduceEqDiff, Nat.reduceAdd, if_true, if_false, and_true, true_and, g0, g2, g4, g6, g7, g8]
end Go.Proofs.Ytnelkapmmgggdaa.mdl

/-
  Model: what is done, by kinds; Do.
-/
namespace Go.Proofs.Ytnelkapmmgggdaa.mdl
open Go.Am Go.Mdl
open Go.Proofs.Ytnelkapmmgggdaa.rnk (HitD hitC ordD lessB sortH ordK lessK hitC_len sortH_len)
set_option linter.unusedSimpArgs false
set_option linter.unusedVariables false
set_option linter.unusedVariables false

def fnV (f : Nat) : Value := .func (.func f) ⟨[]⟩ ⟨[]⟩
def fk (n : Nat) : Nat := if n ≤ 2 then 40 else if n ≤ 5 then 41 else if n ≤ 7 then 42 else 43
def doE (n : Nat) : List MapEntry := (List.range n).map fun k => ⟨.int .i64 ((k : Nat) : Int), fnV (fk k), k⟩
theorem doE_succ (n : Nat) : doE (n + 1) = doE n ++ [⟨.int .i64 ((n : Nat) : Int), fnV (fk n), n⟩] := by
  unfold doE
  rw [List.range_succ, List.map_append]; rfl
theorem mm78 : makeMapF tb4 78 none = .ok (.map [] 0, .mp) := by kernel_rfl
theorem und78z : ∃ vt, tb4.und 78 = some (.map 3 vt) ∧ zeroF tb4 vt = .ok nilFn := by
  have h : (match tb4.und 78 with | some (.map k v) => Nat.beq k 3 && (match zeroF tb4 v with | .ok .nilFunc => true | _ => false) | _ => false) = true := by kernel_rfl
  cases hq : tb4.und 78 with
  | none => rw [hq] at h; cases h
  | some d =>
    rw [hq] at h
    cases d with
    | map k v =>
      simp only [Bool.and_eq_true] at h
      refine ⟨v, by rw [Nat.eq_of_beq_eq_true h.1], ?_⟩
      have h2 := h.2
      split at h2
      · rename_i e; exact e
      · cases h2
    | _ => cases h
theorem step78 {A : Mem} {q n f : Nat} (h : A.get q = some (.map (doE n) n)) (hf : findF (.int .i64 ((n : Nat) : Int)) (doE n) 0 = some none) (hv : f = fk n) : ∃ A', mapUpdateF tb4 A 78 (.map (some q)) (.int .i64 ((n : Nat) : Int)) (fnV f) = .ok A' ∧ A'.get q = some (.map (doE (n + 1)) (n + 1)) ∧ A'.next = A.next ∧ ∀ z, z ≠ q → A'.get z = A.get z := by
  obtain ⟨vt, hu, -⟩ := und78z
  subst hv
  have hk : keyOk tb4 3 (.int .i64 ((n : Nat) : Int)) = true := by unfold keyOk; rw [und3']
  refine ⟨A.set q (.map (doE (n + 1)) (n + 1)), ?_, ?_, next_set _ _ _, fun z hz => ?_⟩
  · unfold mapUpdateF
    simp only [hu, hk, cond_true, h, hf, doE_succ]
  · rw [get_setMem, if_pos rfl]
  · rw [get_setMem, if_neg hz]
theorem ev_fn (t : T Value) (f : Nat) : ev t (Operand.func f) = .ok (fnV f) := rfl
noncomputable def c27 : Code := Try.f27.body.getD .skip
theorem c27_eq : Try.f27.body = some (.seq (sub c27 [0]) (.seq (sub c27 [1,0]) (sub c27 [1,1]))) := by kernel_rfl
theorem run_doings {A : Mem} : ∃ v A', Ans tb4 27 [] A v A' ∧ v = .map (some A.next) ∧ A'.get A.next = some (.map (doE 9) 9) ∧ A'.next = A.next + 1 ∧ Kp A A' := by
  refine ans_of_W (fn_at Try.func27) c27_eq (by rw [Try.ntmps27]; simp) (by kernel_rfl) (by kernel_rfl) ?_
  have m0 : (A.alloc (.map [] 0)).get A.next = some (.map (doE 0) 0) := get_alloc_self _ _
  have n0 : (A.alloc (.map [] 0)).next = A.next + 1 := next_alloc _ _
  have k0 : Kp A (A.alloc (.map [] 0)) := Kp.alloc _ _
  obtain ⟨A1, i1, m1, n1, k1⟩ := step78 (n := 0) (f := 40) m0 rfl rfl
  obtain ⟨A2, i2, m2, n2, k2⟩ := step78 (n := 1) (f := 40) m1 rfl rfl
  obtain ⟨A3, i3, m3, n3, k3⟩ := step78 (n := 2) (f := 40) m2 rfl rfl
  obtain ⟨A4, i4, m4, n4, k4⟩ := step78 (n := 3) (f := 41) m3 rfl rfl
  obtain ⟨A5, i5, m5, n5, k5⟩ := step78 (n := 4) (f := 41) m4 rfl rfl
  obtain ⟨A6, i6, m6, n6, k6⟩ := step78 (n := 5) (f := 41) m5 rfl rfl
  obtain ⟨A7, i7, m7, n7, k7⟩ := step78 (n := 6) (f := 42) m6 rfl rfl
  obtain ⟨A8, i8, m8, n8, k8⟩ := step78 (n := 7) (f := 42) m7 rfl rfl
  obtain ⟨A9, i9, m9, n9, k9⟩ := step78 (n := 8) (f := 43) m8 rfl rfl
  apply W.seq
  apply W.run 20
  · intro M
    simp (disch := first | decide +kernel | omega) only [c27, Try.f27, Option.getD_some, sub_seq0, sub_nil, T.puts_nil, exec_region, runOps_cons, opF_assign, ev_nilmap, putT_some, runOps_nil, R.ok_bind]
    with_reducible rfl
  apply W.seq
  apply W.run 20
  · intro M
    simp (disch := first | decide +kernel | omega) only [c27, Try.f27, Option.getD_some, sub_seq1, sub_seq0, sub_nil, exec_region, runOps_cons, opF_makeMap, evo, putT_some, opF_insert, ev_tmp, T.get_set, Nat.reduceEqDiff, T.get_e, if_false, if_true, evG_some, ev_int, ev_fn, putT_none, opF_move, opF_assign, runOps_nil, R.ok_bind, mm78, at_mp, i1, i2, i3, i4, i5, i6, i7, i8, i9]
    with_reducible rfl
  apply W.run 20
  · intro M
    simp (disch := first | decide +kernel | omega) only [c27, Try.f27, Option.getD_some, sub_seq1, sub_nil, exec_ret]
    with_reducible rfl
  refine ⟨.inr rfl, A9, [.map (some A.next)], rfl, ?_, rfl, m9, by omega, ⟨by omega, fun z hz => ?_⟩⟩
  · simp only [Try.f27, resF, ev_tmp, T.get_set, Nat.reduceEqDiff, if_true, if_false, evG_some, R.ok_bind]
  · rw [k9 z (by omega), k8 z (by omega), k7 z (by omega), k6 z (by omega), k5 z (by omega), k4 z (by omega), k3 z (by omega), k2 z (by omega), k1 z (by omega), k0.2 z hz]
def actK (k : Int) : Option Nat :=
  if k = 0 ∨ k = 1 ∨ k = 2 then some 40 else if k = 3 ∨ k = 4 ∨ k = 5 then some 41 else if k = 6 ∨ k = 7 then some 42 else if k = 8 then some 43 else none
def actV : Option Nat → Value
  | some f => fnV f
  | none => nilFn
theorem look78 {A : Mem} {q : Nat} {k : Int} (h : A.get q = some (.map (doE 9) 9)) : lookupF tb4 A.get 78 (.map (some q)) (.int .i64 k) true = .ok (.tuple ⟨[actV (actK k), .bool (actK k).isSome]⟩) := by
  obtain ⟨vt, hu, hz⟩ := und78z
  have hk : keyOk tb4 3 (.int .i64 k) = true := by unfold keyOk; rw [und3']
  have he : entriesF A.get (.map (some q)) = .ok (doE 9) := by unfold entriesF; simp only [h]
  have hl : lookupF tb4 A.get 78 (.map (some q)) (.int .i64 k) true = match findF (.int .i64 k) (doE 9) 0 with
      | some (some (_, v)) => .ok (.tuple ⟨[v, .bool true]⟩)
      | some none => .ok (.tuple ⟨[nilFn, .bool false]⟩)
      | none => .no 80 := by
    unfold lookupF
    simp only [hu, hk, cond_true, he, R.ok_bind, hz]
    cases findF (.int .i64 k) (doE 9) 0 with
    | none => rfl
    | some y => cases y with
      | none => rfl
      | some z => rfl
  have kq : ∀ a b : Int, keyEq (.int .i64 a) (.int .i64 b) = some (decide (a = b)) := fun a b => by
    show (bif kindEq .i64 .i64 then some (ieqF a b) else none) = _
    rw [ieqF_eq]; rfl
  have fc : ∀ (a : Int) (n : Nat) (v : Value) (c : Nat) (es : List MapEntry) (i : Nat), findF (.int .i64 a) (⟨.int .i64 ((n : Nat) : Int), v, c⟩ :: es) i = if a = ((n : Nat) : Int) then some (some (i, v)) else findF (.int .i64 a) es (i + 1) := fun a n v c es i => by
    show (match keyEq (.int .i64 a) (.int .i64 ((n : Nat) : Int)) with | some true => some (some (i, v)) | some false => findF (.int .i64 a) es (Nat.succ i) | none => none) = _
    rw [kq]
    by_cases hab : a = ((n : Nat) : Int) <;> simp [hab]
  have hE : doE 9 = [⟨.int .i64 ((0 : Nat) : Int), fnV 40, 0⟩, ⟨.int .i64 ((1 : Nat) : Int), fnV 40, 1⟩, ⟨.int .i64 ((2 : Nat) : Int), fnV 40, 2⟩, ⟨.int .i64 ((3 : Nat) : Int), fnV 41, 3⟩, ⟨.int .i64 ((4 : Nat) : Int), fnV 41, 4⟩, ⟨.int .i64 ((5 : Nat) : Int), fnV 41, 5⟩, ⟨.int .i64 ((6 : Nat) : Int), fnV 42, 6⟩, ⟨.int .i64 ((7 : Nat) : Int), fnV 42, 7⟩, ⟨.int .i64 ((8 : Nat) : Int), fnV 43, 8⟩] := rfl
  rw [hl, hE]
  simp only [fc]
  have hcase : k = 0 ∨ k = 1 ∨ k = 2 ∨ k = 3 ∨ k = 4 ∨ k = 5 ∨ k = 6 ∨ k = 7 ∨ k = 8 ∨ (k ≠ 0 ∧ k ≠ 1 ∧ k ≠ 2 ∧ k ≠ 3 ∧ k ≠ 4 ∧ k ≠ 5 ∧ k ≠ 6 ∧ k ≠ 7 ∧ k ≠ 8) := by omega
  rcases hcase with rfl | rfl | rfl | rfl | rfl | rfl | rfl | rfl | rfl | ⟨h0, h1, h2, h3, h4, h5, h6, h7, h8⟩
  · rfl
  · rfl
  · rfl
  · rfl
  · rfl
  · rfl
  · rfl
  · rfl
  · rfl
  · have ha : actK k = none := by
      unfold actK
      rw [if_neg (by omega), if_neg (by omega), if_neg (by omega), if_neg (by omega)]
    rw [ha, if_neg (by omega), if_neg (by omega), if_neg (by omega), if_neg (by omega), if_neg (by omega), if_neg (by omega), if_neg (by omega), if_neg (by omega), if_neg (by omega)]
    rfl
def actD (f : Nat) (s : MdlS) (o : OpV) (told : Nat) : MdlS × RepD :=
  if f = 40 then ((changeD s o told).1, ⟨(changeD s o told).2, 0, []⟩) else if f = 41 then ((keepD s told).1, ⟨(keepD s told).2, 0, []⟩) else if f = 42 then (s, ansD s.d o) else ((reopD s told).1, ⟨(reopD s told).2, 0, []⟩)
theorem actK_cases {k : Int} {f : Nat} (h : actK k = some f) : f = 40 ∨ f = 41 ∨ f = 42 ∨ f = 43 := by
  unfold actK at h
  split at h
  · injection h with h; omega
  · split at h
    · injection h with h; omega
    · split at h
      · injection h with h; omega
      · split at h
        · injection h with h; omega
        · cases h
theorem run_act {A : Mem} {q told f : Nat} {s : MdlS} {o : OpV} (hf : f = 40 ∨ f = 41 ∨ f = 42 ∨ f = 43) (h : ModV A q s) (hd : OkM s.d) :
    ∃ v A', Ans tb4 f [.pointer (some ⟨q, 0, none⟩), .agg ⟨opC o⟩, .int .i64 (told : Int)] A v A' ∧ RepE A' (actD f s o told).2 v ∧ ModV A' q (actD f s o told).1 ∧ Kq q A A' := by
  rcases hf with rfl | rfl | rfl | rfl
  · obtain ⟨v, A', hg, rfl, h1, h2⟩ := run_change (told := told) (o := o) h hd
    exact ⟨_, A', hg, repO_E _ _, h1, h2⟩
  · obtain ⟨v, A', hg, rfl, h1, h2⟩ := run_keep (told := told) (o := o) h
    exact ⟨_, A', hg, repO_E _ _, h1, h2⟩
  · exact run_read (told := told) (o := o) h hd
  · obtain ⟨v, A', hg, rfl, h1, h2⟩ := run_reopen (told := told) (o := o) h
    exact ⟨_, A', hg, repO_E _ _, h1, h2⟩
def toldD (told : Nat) : Nat := if told ≠ 10 ∧ told ≠ 13 then 0 else told
def doD (s : MdlS) (o : OpV) (told : Nat) : MdlS × RepD :=
  if s.closed = true then (s, ⟨14, 0, []⟩) else match actK o.kind with
  | none => (s, ⟨7, 0, []⟩)
  | some f => actD f s o (toldD told)
noncomputable def c16 : Code := Try.f16.body.getD .skip
theorem c16_eq : Try.f16.body = some (.seq (sub c16 [0]) (.seq (.seq (sub c16 [1,0,0]) (sub c16 [1,0,1])) (.seq (.seq (sub c16 [1,1,0,0]) (sub c16 [1,1,0,1])) (.seq (.seq (sub c16 [1,1,1,0,0]) (sub c16 [1,1,1,0,1])) (.seq (sub c16 [1,1,1,1,0]) (.seq (.seq (sub c16 [1,1,1,1,1,0,0]) (sub c16 [1,1,1,1,1,0,1])) (.seq (sub c16 [1,1,1,1,1,1,0]) (sub c16 [1,1,1,1,1,1,1])))))))) := by kernel_rfl
theorem do_tail {A B : Mem} {q told : Nat} {s : MdlS} {o : OpV} {t : T Value} (hq : q < A.next) (hm : ModV B q s) (hd : OkM s.d) (vO : VarO B A.next o) (vR : Vals B 53 (A.next + 1) (.var 3) repZ) (k0 : Kp A B) (n0 : B.next = A.next + 2)
    (ht : Sl t [(0, .pointer (some ⟨q, 0, none⟩)), (2, .int .i64 (told : Int)), (4, .pointer (some ⟨A.next, 0, none⟩)), (6, .pointer (some ⟨A.next + 1, 0, none⟩))]) :
    W tb4 (.seq (.seq (sub c16 [1,1,1,0,0]) (sub c16 [1,1,1,0,1])) (.seq (sub c16 [1,1,1,1,0]) (.seq (.seq (sub c16 [1,1,1,1,1,0,0]) (sub c16 [1,1,1,1,1,0,1])) (.seq (sub c16 [1,1,1,1,1,1,0]) (sub c16 [1,1,1,1,1,1,1]))))) ⟨t, 38, [], B, none⟩ (fun e s_1 => (e = .nrm ∨ e = .ret) ∧ ∃ A' vs, takeF s_1.d s_1.m = .ok A' ∧ resF tb4 s_1.t A'.get Try.f16.results.toList = .ok vs ∧ RepE A' (if s.closed = true then (s, (⟨14, 0, []⟩ : RepD)) else match actK o.kind with
      | none => (s, ⟨7, 0, []⟩)
      | some f => actD f s o told).2 (oneOf vs) ∧ ModV A' q (if s.closed = true then (s, (⟨14, 0, []⟩ : RepD)) else match actK o.kind with
      | none => (s, ⟨7, 0, []⟩)
      | some f => actD f s o told).1 ∧ Kq q A A') := by
  obtain ⟨g0, g2, g4, g6, -⟩ := ht
  have lc := hm.closed
  apply W.seq
  apply W.seq
  cases hc : s.closed with
  | true =>
    rw [hc] at lc
    rw [if_pos rfl]
    obtain ⟨C, s1, v1, l1, n1, k1⟩ := rep_store (e' := 14) (w' := 0) (x' := .slice none 0 0) vR rfl
    apply W.run 20
    · intro M
      simp (disch := first | decide +kernel | omega) only [c16, Try.f16, Option.getD_some, sub_seq1, sub_seq0, sub_nil, exec_region, runOps_cons, opF_move, ev_tmp, g0, evG_some, putT_some, opF_nilCheck, T.get_set, if_true, opF_fieldAddr, Nat.reduceEqDiff, if_false, opF_load, runOps_nil, R.ok_bind, nil_ptr, fm2, lc]
      with_reducible rfl
    apply W.run 20
    · intro M
      simp (disch := first | decide +kernel | omega) only [c16, Try.f16, Option.getD_some, sub_seq1, sub_seq0, sub_nil, exec_cond, ev_tmp, T.get_set, Nat.reduceEqDiff, if_false, if_true, evG_some, exec_seq, exec_region, runOps_cons, opF_build, evp, ev_int, R.ok_bind, putT_some, opF_store, g6, putT_none, runOps_nil, bld53, s1, exec_ret, exec_skip]
      with_reducible rfl
    refine ⟨.inr rfl, C, [repO 14], rfl, ?_, repO_E _ _, hm.rep vR n1 k1, ⟨by omega, fun z hz _ => by rw [k1 z (by omega), k0.2 z hz]⟩⟩
    simp only [Try.f16, resF, ev_tmp, T.get_set, Nat.reduceEqDiff, if_true, if_false, evG_some, R.ok_bind, g6, l1]
    rfl
  | false =>
    rw [hc] at lc
    rw [if_neg (by decide)]
    obtain ⟨v, C, ⟨g, hg⟩, rfl, mm, nC, kC⟩ := run_doings (A := B)
    have lk := vO.kind
    have lk2 := (vO.kp kC).kind
    have hself := selfI o.kind
    have hlk := look78 (k := o.kind) mm
    have vRC : Vals C 53 (A.next + 1) (.var 3) repZ := vR.same (kC.2 _ (by omega))
    have mC := hm.kp kC
    apply W.run 20
    · intro M
      simp (disch := first | decide +kernel | omega) only [c16, Try.f16, Option.getD_some, sub_seq1, sub_seq0, sub_nil, exec_region, runOps_cons, opF_move, ev_tmp, g0, evG_some, putT_some, opF_nilCheck, T.get_set, if_true, opF_fieldAddr, Nat.reduceEqDiff, if_false, opF_load, runOps_nil, R.ok_bind, nil_ptr, fm2, lc]
      with_reducible rfl
    apply W.run 20
    · intro M
      simp (disch := first | decide +kernel | omega) only [c16, Try.f16, Option.getD_some, sub_seq1, sub_seq0, sub_nil, exec_cond, ev_tmp, T.get_set, Nat.reduceEqDiff, if_false, if_true, evG_some, exec_seq, exec_region, runOps_cons, opF_build, evp, ev_int, R.ok_bind, putT_some, opF_store, putT_none, runOps_nil, exec_ret, exec_skip]
      with_reducible rfl
    apply W.seq
    apply W.runG (g) 20
    · intro M hM
      simp (config := { maxSteps := 4000000 }) (disch := first | decide +kernel | omega) only [c16, Try.f16, Option.getD_some, sub_seq1, sub_seq0, sub_nil, exec_float [(2, 0)], runD_L, selF_nil, List.map_nil, hide_nil, backF_nil, selR_nil, rereadR_nil, Nat.reduceAdd, runD_P, opF_fieldAddr, ev_tmp, cond_true, R.ok_bind, opF_call, evs, resK, putT_some, T.get_set, Nat.reduceEqDiff, g4, if_false, evG_some, runD_Rd, rOp_load, if_true, selF_yes, rereadM_cons, reread_load, rereadM_nil, Bool.and_true, rOp_lookup, selF_no, opF_move, opF_extract, extractF, opF_assign, runD_end, f38_0, lk, rereadV_eq, hg, lk2, hself, hlk, List.getElem?_cons_zero, List.getElem?_cons_succ]
      with_reducible rfl
    apply W.seq
    apply W.seq
    cases ha : actK o.kind with
    | none =>
      obtain ⟨D, s1, v1, l1, n1, k1⟩ := rep_store (e' := 7) (w' := 0) (x' := .slice none 0 0) vRC rfl
      apply W.run 20
      · intro M
        simp (disch := first | decide +kernel | omega) only [c16, Try.f16, Option.getD_some, sub_seq1, sub_seq0, sub_nil, Option.isSome_none, exec_region, runOps_cons, opF_move, ev_tmp, T.get_set, Nat.reduceEqDiff, if_false, if_true, evG_some, putT_some, opF_un, runOps_nil, R.ok_bind, un_not, Bool.not_false]
        with_reducible rfl
      apply W.run 20
      · intro M
        simp (disch := first | decide +kernel | omega) only [c16, Try.f16, Option.getD_some, sub_seq1, sub_seq0, sub_nil, exec_cond, ev_tmp, T.get_set, Nat.reduceEqDiff, if_false, if_true, evG_some, exec_seq, exec_region, runOps_cons, opF_build, evp, ev_int, R.ok_bind, putT_some, opF_store, g6, putT_none, runOps_nil, bld53, s1, exec_ret, exec_skip]
        with_reducible rfl
      refine ⟨.inr rfl, D, [repO 7], rfl, ?_, repO_E _ _, mC.rep vRC n1 k1, ⟨by omega, fun z hz _ => by rw [k1 z (by omega), kC.2 z (by omega), k0.2 z hz]⟩⟩
      simp only [Try.f16, resF, ev_tmp, T.get_set, Nat.reduceEqDiff, if_true, if_false, evG_some, R.ok_bind, g6, l1]
      rfl
    | some f =>
      obtain ⟨v, D, ⟨g2', hg2⟩, ⟨y, rfl, hy⟩, mD, kD⟩ := run_act (told := told) (o := o) (actK_cases ha) mC hd
      have kDn := kD.1
      have lo := (vO.kp kC).all
      have vRD : Vals D 53 (A.next + 1) (.var 3) repZ := vRC.same (kD.2 _ (by omega) (by omega))
      obtain ⟨E, s1, v1, l1, n1, k1⟩ := rep_store (e' := (actD f s o told).2.err) (w' := (actD f s o told).2.weight) (x' := y) vRD hy.cells.2.1
      have hav : actV (some f) = .func (.func f) ⟨[]⟩ ⟨[]⟩ := rfl
      apply W.run 20
      · intro M
        simp (disch := first | decide +kernel | omega) only [c16, Try.f16, Option.getD_some, sub_seq1, sub_seq0, sub_nil, Option.isSome_some, exec_region, runOps_cons, opF_move, ev_tmp, T.get_set, Nat.reduceEqDiff, if_false, if_true, evG_some, putT_some, opF_un, runOps_nil, R.ok_bind, un_not, Bool.not_true]
        with_reducible rfl
      apply W.run 20
      · intro M
        simp (disch := first | decide +kernel | omega) only [c16, Try.f16, Option.getD_some, sub_seq1, sub_seq0, sub_nil, exec_cond, ev_tmp, T.get_set, Nat.reduceEqDiff, if_false, if_true, evG_some, exec_seq, exec_region, runOps_cons, opF_build, evp, ev_int, R.ok_bind, putT_some, opF_store, putT_none, runOps_nil, exec_ret, exec_skip]
        with_reducible rfl
      apply W.seq
      apply W.runG (g2') 20
      · intro M hM
        simp (disch := first | decide +kernel | omega) only [c16, Try.f16, Option.getD_some, sub_seq1, sub_seq0, sub_nil, hav, exec_region, runOps_cons, opF_move, ev_tmp, T.get_set, Nat.reduceEqDiff, if_false, if_true, evG_some, putT_some, g0, opF_load, g4, g2, opF_callv, evs, R.ok_bind, resK, opF_store, g6, putT_none, runOps_nil, lo, callV_func, List.nil_append, List.append_nil, hg2, s1]
        with_reducible rfl
      apply W.run 20
      · intro M
        simp (disch := first | decide +kernel | omega) only [c16, Try.f16, Option.getD_some, sub_seq1, sub_nil, exec_ret]
        with_reducible rfl
      refine ⟨.inr rfl, E, [.agg ⟨repC (actD f s o told).2.err (actD f s o told).2.weight y⟩], rfl, ?_, ⟨y, rfl, HitE.put hy (q := A.next + 1) (Vals.not vRD (by decide)) (by omega) (fun z _ hne => k1 z hne)⟩, mD.rep vRD n1 k1, ⟨by omega, fun z hz hne => by rw [k1 z (by omega), kD.2 z (by omega) hne, kC.2 z (by omega), k0.2 z hz]⟩⟩
      simp only [Try.f16, resF, ev_tmp, T.get_set, Nat.reduceEqDiff, if_true, if_false, evG_some, R.ok_bind, g6, l1]
theorem run_Do {A : Mem} {q told : Nat} {s : MdlS} {o : OpV} (h : ModV A q s) (hd : OkM s.d) :
    ∃ v A', Ans tb4 16 [.pointer (some ⟨q, 0, none⟩), .agg ⟨opC o⟩, .int .i64 (told : Int)] A v A' ∧ RepE A' (doD s o told).2 v ∧ ModV A' q (doD s o told).1 ∧ Kq q A A' := by
  refine ans_of_W (fn_at Try.func16) c16_eq (by rw [Try.ntmps16]; simp) (by kernel_rfl) (by kernel_rfl) ?_
  obtain ⟨vO, vR, k0, n0⟩ := two_vars A o
  have hqA := h.lt
  have hm := h.kp k0
  apply W.seq
  apply W.run 20
  · intro M
    simp (disch := first | decide +kernel | omega) only [c16, Try.f16, Option.getD_some, sub_seq0, sub_nil, T.puts_cons, Nat.reduceAdd, T.puts_nil, exec_region, runOps_cons, opF_box, ev_tmp, T.get_set, Nat.reduceEqDiff, T.get_e, if_false, if_true, evG_some, at_ptr, putT_some, opF_alloc, z53, next_alloc, runOps_nil, R.ok_bind, cells_agg]
    with_reducible rfl
  show W tb4 _ _ _
  generalize (A.alloc (rowOb 38 (opC o))).alloc (rowOb 53 repZ) = B at vO vR k0 n0 hm
  have he : eqF tb4 B.get .eql 33 (.tmp 9) (.const (.pointer none)) (.pointer (some ⟨q, 0, none⟩)) (.pointer none) = .ok (.bool false) := by kernel_rfl
  apply W.seq
  apply W.seq
  apply W.run 20
  · intro M
    simp (disch := first | decide +kernel | omega) only [c16, Try.f16, Option.getD_some, sub_seq1, sub_seq0, sub_nil, exec_region, runOps_cons, opF_move, ev_tmp, T.get_set, Nat.reduceEqDiff, T.get_e, if_true, if_false, evG_some, putT_some, opF_eqlR, ev_nilptr, runOps_nil, R.ok_bind, he]
    with_reducible rfl
  apply W.run 20
  · intro M
    simp (disch := first | decide +kernel | omega) only [c16, Try.f16, Option.getD_some, sub_seq1, sub_seq0, sub_nil, exec_cond, ev_tmp, T.get_set, Nat.reduceEqDiff, T.get_e, if_false, if_true, evG_some, exec_seq, exec_region, runOps_cons, opF_build, evp, ev_int, R.ok_bind, putT_some, opF_store, putT_none, runOps_nil, exec_ret, exec_skip]
    with_reducible rfl
  show W tb4 _ _ _
  refine W_gen [(0, .pointer (some ⟨q, 0, none⟩)), (2, .int .i64 (told : Int)), (4, .pointer (some ⟨A.next, 0, none⟩)), (6, .pointer (some ⟨A.next + 1, 0, none⟩))] (by simp only [Sl_cons, Sl_nil, T.get_set, T.puts_cons, T.puts_nil, Nat.reduceEqDiff, Nat.reduceAdd, if_true, if_false, and_true, true_and]) fun t ht => ?_
  obtain ⟨g0, g2, g4, g6, -⟩ := ht
  apply W.seq
  apply W.seq
  unfold doD
  by_cases h10 : told = 10
  · subst h10
    have htl : toldD 10 = 10 := rfl
    rw [htl]
    apply W.run 20
    · intro M
      simp (config := { maxSteps := 4000000 }) (disch := first | decide +kernel | (rw [wantF_guard]; simp only [wantD_some, dstAt_zero, dstAt_succ, T.get_set, T.get_e, Nat.reduceEqDiff, if_true, if_false, wantV_bool, wantV_unit, unitV, cond_true, cond_false, Bool.not_true, Bool.not_false, List.toList_toArray]) | omega) only [c16, Try.f16, Option.getD_some, sub_seq1, sub_seq0, sub_nil, exec_region, runOps_cons, opF_move, ev_tmp, g2, evG_some, putT_some, opF_neq, T.get_set, if_true, ev_int, Nat.reduceEqDiff, if_false, R.ok_bind, binF_int, op_neq, ne_eq, not_true_eq_false, decide_false, runOps_no, opF_pick, pickF, ev_bool, runOps_nil]
      with_reducible rfl
    apply W.run 20
    · intro M
      simp (disch := first | decide +kernel | omega) only [c16, Try.f16, Option.getD_some, sub_seq1, sub_seq0, sub_nil, exec_cond, ev_tmp, T.get_set, Nat.reduceEqDiff, if_false, if_true, evG_some, exec_region, runOps_cons, opF_assign, ev_int, putT_some, runOps_nil, R.ok_bind, exec_skip]
      with_reducible rfl
    refine do_tail hqA hm hd vO vR k0 n0 ?_
    simp only [Sl_cons, Sl_nil, T.get_set, T.puts_cons, T.puts_nil, Nat.reduceEqDiff, Nat.reduceAdd, if_true, if_false, and_true, true_and, g0, g2, g4, g6]
  · by_cases h13 : told = 13
    · subst h13
      have htl : toldD 13 = 13 := rfl
      rw [htl]
      apply W.run 20
      · intro M
        simp (config := { maxSteps := 4000000 }) (disch := first | decide +kernel | (rw [wantF_guard]; simp only [wantD_some, dstAt_zero, dstAt_succ, T.get_set, T.get_e, Nat.reduceEqDiff, if_true, if_false, wantV_bool, wantV_unit, unitV, cond_true, cond_false, Bool.not_true, Bool.not_false, List.toList_toArray]) | omega) only [c16, Try.f16, Option.getD_some, sub_seq1, sub_seq0, sub_nil, exec_region, runOps_cons, opF_move, ev_tmp, g2, evG_some, putT_some, opF_neq, T.get_set, if_true, ev_int, Nat.reduceEqDiff, if_false, R.ok_bind, binF_int, op_neq, ne_eq, not_false_eq_true, decide_true, runOps_yes, opF_pick, pickF, ev_bool, runOps_nil, not_true_eq_false, decide_false]
        with_reducible rfl
      apply W.run 20
      · intro M
        simp (disch := first | decide +kernel | omega) only [c16, Try.f16, Option.getD_some, sub_seq1, sub_seq0, sub_nil, exec_cond, ev_tmp, T.get_set, Nat.reduceEqDiff, if_false, if_true, evG_some, exec_region, runOps_cons, opF_assign, ev_int, putT_some, runOps_nil, R.ok_bind, exec_skip]
        with_reducible rfl
      refine do_tail hqA hm hd vO vR k0 n0 ?_
      simp only [Sl_cons, Sl_nil, T.get_set, T.puts_cons, T.puts_nil, Nat.reduceEqDiff, Nat.reduceAdd, if_true, if_false, and_true, true_and, g0, g2, g4, g6]
    · have htl : toldD told = 0 := by unfold toldD; rw [if_pos ⟨h10, h13⟩]
      rw [htl]
      apply W.run 20
      · intro M
        simp (config := { maxSteps := 4000000 }) (disch := first | decide +kernel | (rw [wantF_guard]; simp only [wantD_some, dstAt_zero, dstAt_succ, T.get_set, T.get_e, Nat.reduceEqDiff, if_true, if_false, wantV_bool, wantV_unit, unitV, cond_true, cond_false, Bool.not_true, Bool.not_false, List.toList_toArray]) | omega) only [c16, Try.f16, Option.getD_some, sub_seq1, sub_seq0, sub_nil, exec_region, runOps_cons, opF_move, ev_tmp, g2, evG_some, putT_some, opF_neq, T.get_set, if_true, ev_int, Nat.reduceEqDiff, if_false, R.ok_bind, binF_int, op_neq, ne_eq, h10, not_false_eq_true, decide_true, runOps_yes, opF_pick, pickF, ev_bool, runOps_nil, h13]
        with_reducible rfl
      apply W.run 20
      · intro M
        simp (disch := first | decide +kernel | omega) only [c16, Try.f16, Option.getD_some, sub_seq1, sub_seq0, sub_nil, exec_cond, ev_tmp, T.get_set, Nat.reduceEqDiff, if_false, if_true, evG_some, exec_region, runOps_cons, opF_assign, ev_int, putT_some, runOps_nil, R.ok_bind, exec_skip]
        with_reducible rfl
      refine do_tail hqA hm hd vO vR k0 n0 ?_
      simp only [Sl_cons, Sl_nil, T.get_set, T.puts_cons, T.puts_nil, Nat.reduceEqDiff, Nat.reduceAdd, if_true, if_false, and_true, true_and, g0, g4, g6]
end Go.Proofs.Ytnelkapmmgggdaa.mdl

/-
  Model: do; is it poisoned, closed; its words; two replies are alike.
-/
namespace Go.Proofs.Ytnelkapmmgggdaa.mdl
open Go.Am Go.Mdl
open Go.Proofs.Ytnelkapmmgggdaa.rnk (HitD hitC ordD lessB sortH ordK lessK hitC_len sortH_len)
set_option linter.unusedSimpArgs false
set_option linter.unusedVariables false
set_option linter.unusedVariables false

noncomputable def c15 : Code := Try.f15.body.getD .skip
theorem c15_eq : Try.f15.body = some (.seq (sub c15 [0]) (.seq (sub c15 [1,0]) (sub c15 [1,1]))) := by kernel_rfl
theorem run_poisoned {A : Mem} {q : Nat} {s : MdlS} (h : ModV A q s) : Ans tb4 15 [.pointer (some ⟨q, 0, none⟩)] A (.bool s.bad) A := by
  obtain ⟨v, A', hg, rfl, rfl⟩ : ∃ v A', Ans tb4 15 [.pointer (some ⟨q, 0, none⟩)] A v A' ∧ v = .bool s.bad ∧ A' = A := by
    refine ans_of_W (fn_at Try.func15) c15_eq (by rw [Try.ntmps15]; simp) (by kernel_rfl) (by kernel_rfl) ?_
    have lb := h.bad
    have he : eqF tb4 A.get .eql 33 (.tmp 3) (.const (.pointer none)) (.pointer (some ⟨q, 0, none⟩)) (.pointer none) = .ok (.bool false) := by kernel_rfl
    apply W.seq
    apply W.run 20
    · intro M
      simp (disch := first | decide +kernel | omega) only [c15, Try.f15, Option.getD_some, sub_seq0, sub_nil, T.puts_cons, Nat.reduceAdd, T.puts_nil, exec_region, runOps_cons, opF_assign, ev_bool, putT_some, runOps_nil, R.ok_bind]
      with_reducible rfl
    apply W.seq
    apply W.run 20
    · intro M
      simp (config := { maxSteps := 4000000 }) (disch := first | decide +kernel | (rw [wantF_guard]; simp only [wantD_some, dstAt_zero, dstAt_succ, T.get_set, T.get_e, Nat.reduceEqDiff, if_true, if_false, wantV_bool, wantV_unit, unitV, cond_true, cond_false, Bool.not_true, Bool.not_false, List.toList_toArray]) | omega) only [c15, Try.f15, Option.getD_some, sub_seq1, sub_seq0, sub_nil, exec_region, runOps_cons, opF_move, ev_tmp, T.get_set, Nat.reduceEqDiff, T.get_e, if_true, if_false, evG_some, putT_some, opF_eqlR, ev_nilptr, R.ok_bind, he, runOps_yes, opF_nilCheck, opF_fieldAddr, opF_load, opF_pick, pickF, ev_bool, opF_assign, runOps_nil, nil_ptr, fm1, lb]
      with_reducible rfl
    apply W.run 20
    · intro M
      simp (disch := first | decide +kernel | omega) only [c15, Try.f15, Option.getD_some, sub_seq1, sub_nil, exec_ret]
      with_reducible rfl
    refine ⟨.inr rfl, A, [.bool s.bad], rfl, ?_, rfl, rfl⟩
    simp only [Try.f15, resF, ev_tmp, T.get_set, Nat.reduceEqDiff, if_true, if_false, evG_some, R.ok_bind]
  exact hg
noncomputable def c19 : Code := Try.f19.body.getD .skip
theorem c19_eq : Try.f19.body = some (.seq (sub c19 [0]) (.seq (sub c19 [1,0]) (sub c19 [1,1]))) := by kernel_rfl
theorem run_closed {A : Mem} {q : Nat} {s : MdlS} (h : ModV A q s) : Ans tb4 19 [.pointer (some ⟨q, 0, none⟩)] A (.bool s.closed) A := by
  obtain ⟨v, A', hg, rfl, rfl⟩ : ∃ v A', Ans tb4 19 [.pointer (some ⟨q, 0, none⟩)] A v A' ∧ v = .bool s.closed ∧ A' = A := by
    refine ans_of_W (fn_at Try.func19) c19_eq (by rw [Try.ntmps19]; simp) (by kernel_rfl) (by kernel_rfl) ?_
    have lb := h.closed
    have he : eqF tb4 A.get .eql 33 (.tmp 3) (.const (.pointer none)) (.pointer (some ⟨q, 0, none⟩)) (.pointer none) = .ok (.bool false) := by kernel_rfl
    apply W.seq
    apply W.run 20
    · intro M
      simp (disch := first | decide +kernel | omega) only [c19, Try.f19, Option.getD_some, sub_seq0, sub_nil, T.puts_cons, Nat.reduceAdd, T.puts_nil, exec_region, runOps_cons, opF_assign, ev_bool, putT_some, runOps_nil, R.ok_bind]
      with_reducible rfl
    apply W.seq
    apply W.run 20
    · intro M
      simp (config := { maxSteps := 4000000 }) (disch := first | decide +kernel | (rw [wantF_guard]; simp only [wantD_some, dstAt_zero, dstAt_succ, T.get_set, T.get_e, Nat.reduceEqDiff, if_true, if_false, wantV_bool, wantV_unit, unitV, cond_true, cond_false, Bool.not_true, Bool.not_false, List.toList_toArray]) | omega) only [c19, Try.f19, Option.getD_some, sub_seq1, sub_seq0, sub_nil, exec_region, runOps_cons, opF_move, ev_tmp, T.get_set, Nat.reduceEqDiff, T.get_e, if_true, if_false, evG_some, putT_some, opF_eqlR, ev_nilptr, R.ok_bind, he, runOps_yes, opF_nilCheck, opF_fieldAddr, opF_load, opF_pick, pickF, ev_bool, opF_assign, runOps_nil, nil_ptr, fm2, lb]
      with_reducible rfl
    apply W.run 20
    · intro M
      simp (disch := first | decide +kernel | omega) only [c19, Try.f19, Option.getD_some, sub_seq1, sub_nil, exec_ret]
      with_reducible rfl
    refine ⟨.inr rfl, A, [.bool s.closed], rfl, ?_, rfl, rfl⟩
    simp only [Try.f19, resF, ev_tmp, T.get_set, Nat.reduceEqDiff, if_true, if_false, evG_some, R.ok_bind]
  exact hg
theorem run_wordsM {A : Mem} {q : Nat} {s : MdlS} (h : ModV A q s) (hl : s.d.length < 1000000) : ∃ y A', Ans tb4 9 [.pointer (some ⟨q, 0, none⟩)] A y A' ∧ EntE A' (Go.Mdl.live s.d) y ∧ Kp A A' := by
  obtain ⟨x, hld, b, hb⟩ := h.d
  obtain ⟨y2, A2, b2, ⟨g2, hg2⟩, w2, n2, o2, hn2, k2⟩ := run_live hb hb.lt hl
  obtain ⟨v, A', hg, rfl, rfl⟩ : ∃ v A', Ans tb4 9 [.pointer (some ⟨q, 0, none⟩)] A v A' ∧ v = y2 ∧ A' = A2 := by
    refine ans_of_W (fn_at Try.func9) c9_eq (by rw [Try.ntmps9]; simp) (by kernel_rfl) (by kernel_rfl) ?_
    apply W.seq
    apply W.run 20
    · intro M
      simp (disch := first | decide +kernel | omega) only [c9, Try.f9, Option.getD_some, sub_seq0, sub_nil, T.puts_cons, Nat.reduceAdd, T.puts_nil, exec_region, runOps_cons, opF_assign, ev_nilslice, putT_some, runOps_nil, R.ok_bind]
      with_reducible rfl
    apply W.seq
    apply W.seq
    have he : eqF tb4 A.get .eql 33 (.tmp 3) (.const (.pointer none)) (.pointer (some ⟨q, 0, none⟩)) (.pointer none) = .ok (.bool false) := by kernel_rfl
    apply W.run 20
    · intro M
      simp (disch := first | decide +kernel | omega) only [c9, Try.f9, Option.getD_some, sub_seq1, sub_seq0, sub_nil, exec_region, runOps_cons, opF_move, ev_tmp, T.get_set, Nat.reduceEqDiff, T.get_e, if_true, if_false, evG_some, putT_some, opF_eqlR, ev_nilptr, runOps_nil, R.ok_bind, he]
      with_reducible rfl
    apply W.run 20
    · intro M
      simp (disch := first | decide +kernel | omega) only [c9, Try.f9, Option.getD_some, sub_seq1, sub_seq0, sub_nil, exec_cond, ev_tmp, T.get_set, Nat.reduceEqDiff, T.get_e, if_false, if_true, evG_some, exec_seq, exec_region, runOps_cons, opF_assign, ev_nilslice, putT_some, runOps_nil, R.ok_bind, exec_ret, exec_skip]
      with_reducible rfl
    apply W.seq
    apply W.runG (g2) 20
    · intro M hM
      simp (disch := first | decide +kernel | omega) only [c9, Try.f9, Option.getD_some, sub_seq1, sub_seq0, sub_nil, exec_region, runOps_cons, opF_move, ev_tmp, T.get_set, Nat.reduceEqDiff, T.get_e, if_true, if_false, evG_some, putT_some, opF_nilCheck, opF_fieldAddr, opF_load, opF_call, evs, R.ok_bind, resK, opF_assign, runOps_nil, nil_ptr, fm0, hld, hg2]
      with_reducible rfl
    apply W.run 20
    · intro M
      simp (disch := first | decide +kernel | omega) only [c9, Try.f9, Option.getD_some, sub_seq1, sub_nil, exec_ret]
      with_reducible rfl
    refine ⟨.inr rfl, _, [y2], rfl, ?_, rfl, rfl⟩
    simp only [Try.f9, resF, ev_tmp, T.get_set, Nat.reduceEqDiff, if_true, if_false, evG_some, R.ok_bind]
  exact ⟨_, _, hg, ⟨b2, w2⟩, n2, k2⟩
theorem foldT_len (n : Int) : ∀ (l m : List HitD), (l.foldl (stepT n) m).length ≤ m.length + l.length
  | [], m => Nat.le_refl _
  | x :: l, m => by
    have h1 := foldT_len n l (stepT n m x)
    have h2 := stepT_len (n := n) (w := m) (x := x)
    simp only [List.foldl_cons, List.length_cons]
    omega
theorem topL_len (n : Int) (l : List HitD) : (topL n l).length ≤ l.length := by
  unfold topL
  rw [sortH_len]
  have := foldT_len n l []
  simpa using this
theorem ansD_len (d : List EntD) (o : OpV) : (ansD d o).hits.length ≤ d.length := by
  unfold ansD
  split
  · exact Nat.zero_le _
  · split
    · split
      · exact Nat.zero_le _
      · exact Nat.le_trans (topL_len _ _) (nearL_len _ _ _)
    · exact Nat.zero_le _
theorem shape63 : fieldsOf (tb4.und 63) = [(false, 45, 0), (false, 3, 3)] := by kernel_rfl
theorem eqm63 (x y : Operand) (a b : Array Value) : eqMay tb4 63 x y (.agg a) (.agg b) = true := by
  show (!tb4.P.eqGuardType tb4.P.depth 63) = true
  have : tb4.P.eqGuardType tb4.P.depth 63 = false := by decide +kernel
  rw [this]; rfl
theorem equal45d {g : Nat → Option Ob} {e : EntD} {d : Nat} : equalF tb4 g (d + 2) 45 (.agg ⟨entC e⟩) (.agg ⟨entC e⟩) = .ok true := by
  rw [equal_struct (by kernel_rfl) shape45 (by kernel_rfl)]
  simp only [fieldsEqS, cond_false, entC]
  rw [part_one und9' rfl rfl, part_one (o := 1) und24' rfl rfl, part_one (o := 2) und4' rfl rfl]
  simp only [R.ok_bind, equal_int (tb := tb4) (t := 24) und24', equal_str (tb := tb4) (t := 9) und9', equal_bool (tb := tb4) (t := 4) und4', decide_true]
theorem equal63 {g : Nat → Option Ob} {h : HitD} : equalF tb4 g 100 63 (.agg ⟨hitC h⟩) (.agg ⟨hitC h⟩) = .ok true := by
  rw [equal_struct (by kernel_rfl) shape63 (by kernel_rfl)]
  obtain ⟨d45, hd1, hd2⟩ := und45'
  have p0 : partF tb4 45 (hitC h) 0 = .ok (.agg ⟨entC h.e⟩) := by
    unfold partF
    simp only [hd1, hd2, cond_true, size45', R.ok_bind]
    rfl
  simp only [fieldsEqS, cond_false]
  rw [p0, part_one (o := 3) (v := .int .i64 (h.dist : Int)) und3' rfl rfl]
  simp only [R.ok_bind, equal45d, equal_int (tb := tb4) (t := 3) und3', decide_true]
theorem neq63 {g : Nat → Option Ob} {x y : Operand} {h : HitD} : eqF tb4 g .neq 63 x y (.agg ⟨hitC h⟩) (.agg ⟨hitC h⟩) = .ok (.bool false) := by
  unfold eqF
  rw [eqm63, cond_true]
  simp only []
  rw [equal63]
  rfl
noncomputable def c17 : Code := Try.f17.body.getD .skip
noncomputable def c17b1 : Code := sub c17 [1,1,0,1,0,0]
theorem c17_eq : Try.f17.body = some (.seq (sub c17 [0]) (.seq (.seq (sub c17 [1,0,0]) (sub c17 [1,0,1])) (.seq (.seq (sub c17 [1,1,0,0]) (.block 0 (.loop c17b1))) (.seq (sub c17 [1,1,1,0]) (sub c17 [1,1,1,1]))))) := by kernel_rfl
theorem c17b1_eq : c17b1 = .seq (.seq (sub c17b1 [0,0]) (sub c17b1 [0,1])) (.seq (.block 1 (.seq (sub c17b1 [1,0,0,0]) (sub c17b1 [1,0,0,1]))) (sub c17b1 [1,1])) := by kernel_rfl
theorem run_rsame {A : Mem} {r : RepD} {v v' : Value} (h : RepE A r v) (h' : RepE A r v') (hl : r.hits.length < 1000000) : ∃ A', Ans tb4 17 [v, v'] A (.bool true) A' ∧ Kp A A' := by
  obtain ⟨x, rfl, b, hx⟩ := h
  obtain ⟨x', rfl, b', hx'⟩ := h'
  obtain ⟨v, A', hg, rfl, hk⟩ : ∃ v A', Ans tb4 17 [.agg ⟨repC r.err r.weight x⟩, .agg ⟨repC r.err r.weight x'⟩] A v A' ∧ v = .bool true ∧ Kp A A' := by
    refine ans_of_W (fn_at Try.func17) c17_eq (by rw [Try.ntmps17]; simp) (by kernel_rfl) (by kernel_rfl) ?_
    have k0 : Kp A ((A.alloc (rowOb 53 (repC r.err r.weight x))).alloc (rowOb 53 (repC r.err r.weight x'))) := (Kp.alloc _ _).trans (Kp.alloc _ _)
    have v1 : Vals ((A.alloc (rowOb 53 (repC r.err r.weight x))).alloc (rowOb 53 (repC r.err r.weight x'))) 53 A.next (.var 3) (repC r.err r.weight x) := (vals_puts (get_alloc_self _ _)).same (get_alloc_ne (by rw [next_alloc]; omega))
    have v2 : Vals ((A.alloc (rowOb 53 (repC r.err r.weight x))).alloc (rowOb 53 (repC r.err r.weight x'))) 53 (A.next + 1) (.var 3) (repC r.err r.weight x') := vals_puts (get_alloc_self _ _)
    apply W.seq
    apply W.run 20
    · intro M
      simp (disch := first | decide +kernel | omega) only [c17, Try.f17, Option.getD_some, sub_seq0, sub_nil, T.puts_cons, Nat.reduceAdd, T.puts_nil, exec_region, runOps_cons, opF_box, ev_tmp, T.get_set, Nat.reduceEqDiff, T.get_e, if_true, if_false, evG_some, at_ptr, putT_some, next_alloc, opF_assign, ev_bool, runOps_nil, R.ok_bind, cells_agg]
      with_reducible rfl
    show W tb4 _ _ _
    generalize (A.alloc (rowOb 53 (repC r.err r.weight x))).alloc (rowOb 53 (repC r.err r.weight x')) = B at k0 v1 v2
    have e1 : loadF tb4 B.get 40 (.pointer (some ⟨A.next, 0, none⟩)) = .ok (.int .i64 (r.err : Int)) := load_vals und40' rfl v1 rfl
    have e2 : loadF tb4 B.get 40 (.pointer (some ⟨A.next + 1, 0, none⟩)) = .ok (.int .i64 (r.err : Int)) := load_vals und40' rfl v2 rfl
    have w1 : loadF tb4 B.get 24 (.pointer (some ⟨A.next, 1, none⟩)) = .ok (.int .u32 (r.weight : Int)) := load_vals und24' rfl v1 rfl
    have w2 : loadF tb4 B.get 24 (.pointer (some ⟨A.next + 1, 1, none⟩)) = .ok (.int .u32 (r.weight : Int)) := load_vals und24' rfl v2 rfl
    have x1 : loadF tb4 B.get 51 (.pointer (some ⟨A.next, 2, none⟩)) = .ok x := load_vals und51 rfl v1 rfl
    have x2 : loadF tb4 B.get 51 (.pointer (some ⟨A.next + 1, 2, none⟩)) = .ok x' := load_vals und51 rfl v2 rfl
    have l1 := HitS.lens hx
    have l2 := HitS.lens hx'
    have hxB : HitS B b r.hits x := HitS.kp hx k0
    have hxB' : HitS B b' r.hits x' := HitS.kp hx' k0
    apply W.seq
    apply W.seq
    apply W.run 20
    · intro M
      simp (config := { maxSteps := 4000000 }) (disch := first | decide +kernel | (rw [wantF_guard]; simp only [wantD_some, dstAt_zero, dstAt_succ, T.get_set, T.get_e, Nat.reduceEqDiff, if_true, if_false, wantV_bool, wantV_unit, unitV, cond_true, cond_false, Bool.not_true, Bool.not_false, List.toList_toArray]) | omega) only [c17, Try.f17, Option.getD_some, sub_seq1, sub_seq0, sub_nil, exec_region, runOps_cons, opF_fieldAddr, ev_tmp, T.get_set, Nat.reduceEqDiff, T.get_e, if_false, if_true, evG_some, putT_some, opF_load, opF_neq, opF_move, R.ok_bind, f53_0, e2, e1, binF_int, op_neq, ne_eq, not_true_eq_false, decide_false, runOps_yes, opF_pick, pickF, ev_bool, f53_1, w2, w1, opF_len, evs, runOps_nil, f53_2, x2, l2, x1, l1]
      with_reducible rfl
    apply W.run 20
    · intro M
      simp (disch := first | decide +kernel | omega) only [c17, Try.f17, Option.getD_some, sub_seq1, sub_seq0, sub_nil, exec_cond, ev_tmp, T.get_set, Nat.reduceEqDiff, T.get_e, if_false, if_true, evG_some, exec_seq, exec_region, runOps_cons, opF_assign, ev_bool, putT_some, runOps_nil, R.ok_bind, exec_ret, exec_skip]
      with_reducible rfl
    apply W.seq
    apply W.seq
    apply W.run 20
    · intro M
      simp (disch := first | decide +kernel | omega) only [c17, Try.f17, Option.getD_some, sub_seq1, sub_seq0, sub_nil, exec_region, runOps_cons, opF_assign, ev_int, putT_some, runOps_nil, R.ok_bind]
      with_reducible rfl
    apply W.block
    refine W.up r.hits.length (fun i t C => C = B ∧ Sl t [(2, .pointer (some ⟨A.next, 0, none⟩)), (3, .pointer (some ⟨A.next + 1, 0, none⟩)), (5, .int .i64 (i : Int))]) ?_ (Nat.zero_le _) ⟨rfl, ?_⟩
    · rintro i t C hi ⟨rfl, g2, g3, g5, -⟩
      rw [c17b1_eq]
      apply W.seq
      apply W.seq
      by_cases hlt : i < r.hits.length
      · have ek : r.hits[i]? = some r.hits[i] := List.getElem?_eq_getElem hlt
        obtain ⟨a1, a2⟩ := HitS.at hxB ek
        obtain ⟨b1, b2⟩ := HitS.at hxB' ek
        have nq := fun x y => neq63 (g := C.get) (x := x) (y := y) (h := r.hits[i])
        apply W.run 20
        · intro M
          simp (disch := first | decide +kernel | omega) only [c17b1, c17, Try.f17, Option.getD_some, sub_seq1, sub_seq0, sub_block, sub_loop, sub_nil, exec_region, runOps_cons, opF_move, ev_tmp, g5, evG_some, putT_some, opF_fieldAddr, T.get_set, Nat.reduceEqDiff, g2, if_false, opF_load, if_true, opF_len, evs, R.ok_bind, opF_ari, runOps_nil, f53_2, x1, l1, binF_int, op_lssI, cast_lt, hlt, decide_true]
          with_reducible rfl
        apply W.run 20
        · intro M
          simp (disch := first | decide +kernel | omega) only [c17b1, c17, Try.f17, Option.getD_some, sub_seq1, sub_seq0, sub_block, sub_loop, sub_nil, exec_cond, ev_tmp, T.get_set, Nat.reduceEqDiff, if_false, if_true, evG_some, exec_skip, exec_exit, R.ok_bind]
          with_reducible rfl
        apply W.seq
        apply W.block
        apply W.seq
        apply W.run 20
        · intro M
          simp (disch := first | decide +kernel | omega) only [c17b1, c17, Try.f17, Option.getD_some, sub_seq1, sub_seq0, sub_block, sub_loop, sub_nil, exec_draw, runOps_cons, opF_fieldAddr, ev_tmp, T.get_set, Nat.reduceEqDiff, g2, if_false, evG_some, putT_some, opF_load, if_true, opF_move, g5, opF_indexAddr, g3, opF_neqR, runOps_nil, R.ok_bind, f53_2, x2, b1, b2, x1, a1, a2, nq]
          with_reducible rfl
        apply W.run 20
        · intro M
          simp (disch := first | decide +kernel | omega) only [c17b1, c17, Try.f17, Option.getD_some, sub_seq1, sub_seq0, sub_block, sub_loop, sub_nil, exec_cond, ev_tmp, T.get_set, Nat.reduceEqDiff, if_false, if_true, evG_some, exec_seq, exec_region, runOps_cons, opF_assign, ev_bool, putT_some, runOps_nil, R.ok_bind, exec_ret, exec_skip]
          with_reducible rfl
        apply W.run 20
        · intro M
          simp (disch := first | decide +kernel | omega) only [c17b1, c17, Try.f17, Option.getD_some, sub_seq1, sub_seq0, sub_block, sub_loop, sub_nil, exec_region, runOps_cons, opF_move, ev_tmp, T.get_set, Nat.reduceEqDiff, g5, if_false, evG_some, putT_some, opF_ari, if_true, ev_int, opF_assign, runOps_nil, R.ok_bind, binF_int, op_add_i64]
          with_reducible rfl
        refine ⟨hlt, _, _, rfl, rfl, ?_⟩
        simp only [Sl_cons, Sl_nil, T.get_set, T.puts_cons, T.puts_nil, Nat.reduceEqDiff, Nat.reduceAdd, if_true, if_false, and_true, true_and, g2, g3]
      · have hin : i = r.hits.length := by omega
        subst hin
        apply W.run 20
        · intro M
          simp (disch := first | decide +kernel | omega) only [c17b1, c17, Try.f17, Option.getD_some, sub_seq1, sub_seq0, sub_block, sub_loop, sub_nil, exec_region, runOps_cons, opF_move, ev_tmp, g5, evG_some, putT_some, opF_fieldAddr, T.get_set, Nat.reduceEqDiff, g2, if_false, opF_load, if_true, opF_len, evs, R.ok_bind, opF_ari, runOps_nil, f53_2, x1, l1, binF_int, op_lssI, cast_lt, Nat.lt_irrefl, decide_false]
          with_reducible rfl
        apply W.run 20
        · intro M
          simp (disch := first | decide +kernel | omega) only [c17b1, c17, Try.f17, Option.getD_some, sub_seq1, sub_seq0, sub_block, sub_loop, sub_nil, exec_cond, ev_tmp, T.get_set, Nat.reduceEqDiff, if_false, if_true, evG_some, exec_skip, exec_exit, R.ok_bind]
          with_reducible rfl
        apply W.seq
        apply W.run 20
        · intro M
          simp (disch := first | decide +kernel | omega) only [c17, Try.f17, Option.getD_some, sub_seq1, sub_seq0, sub_nil, exec_region, runOps_cons, opF_assign, ev_bool, putT_some, runOps_nil, R.ok_bind]
          with_reducible rfl
        apply W.run 20
        · intro M
          simp (disch := first | decide +kernel | omega) only [c17, Try.f17, Option.getD_some, sub_seq1, sub_nil, exec_ret]
          with_reducible rfl
        refine ⟨.inr rfl, _, [.bool true], rfl, ?_, rfl, k0⟩
        simp only [Try.f17, resF, ev_tmp, T.get_set, Nat.reduceEqDiff, if_true, if_false, evG_some, R.ok_bind]
    · simp only [Sl_cons, Sl_nil, T.get_set, T.puts_cons, T.puts_nil, Nat.reduceEqDiff, Nat.reduceAdd, if_true, if_false, and_true, true_and]
  exact ⟨A', hg, hk⟩
theorem HitE.self {A : Mem} {l : List HitD} {x : Value} (h : HitE A l x) (d : Nat) : sameV (d + 1) x x = true := by
  obtain ⟨b, h⟩ := h
  rcases h with ⟨rfl, -⟩ | ⟨k, c, rfl, -⟩
  · simp [sameV]
  · simp [sameV, sameA, sameN]
end Go.Proofs.Ytnelkapmmgggdaa.mdl

/-
  ModelPoison: operations' drafts, in a list; plain facts.
-/
namespace Go.Proofs.Ytnelkapmmgggdaa.mdl
open Go.Am Go.Mdl
open Go.Proofs.Ytnelkapmmgggdaa.rnk (HitD hitC ordD lessB sortH ordK lessK hitC_len sortH_len)
set_option linter.unusedSimpArgs false
set_option linter.unusedVariables false
set_option linter.unusedVariables false

def OpL (A : Mem) (os : List OpI) (x : Value) : Prop :=
  (x = .slice none 0 0 ∧ os = []) ∨ (x = empV ∧ os = []) ∨ ∃ q off cp, x = .slice (some ⟨q, off, none⟩) os.length cp ∧ (os = [] ∨ (q < A.next ∧ ∃ t kd fz c, A.get q = some (.cells t kd fz c) ∧
    ∀ (i : Nat) (o : OpI), os[i]? = some o → (∀ j v, (inC o)[j]? = some v → c.get (off + i * 8 + j) = some v) ∧ InOk A o))
theorem und49 : tb4.und 49 = some (.slice 29) := by kernel_rfl
theorem size29' : sizeF tb4 29 = .ok 8 := by kernel_rfl
theorem und29' : ∃ d, tb4.und 29 = some d ∧ isAggD d = true := by
  have h : (tb4.und 29).map isAggD = some true := by kernel_rfl
  cases hq : tb4.und 29 with
  | none => rw [hq] at h; cases h
  | some d => rw [hq] at h; exact ⟨d, rfl, by simpa using h⟩
theorem OpL.kp {A A' : Mem} {os : List OpI} {x : Value} (h : OpL A os x) (k : Kp A A') : OpL A' os x := by
  rcases h with h | h | ⟨q, off, cp, h1, h2⟩
  · exact .inl h
  · exact .inr (.inl h)
  · refine .inr (.inr ⟨q, off, cp, h1, ?_⟩)
    rcases h2 with h2 | ⟨h2, t, kd, fz, c, h3, h4⟩
    · exact .inl h2
    · exact .inr ⟨Nat.lt_of_lt_of_le h2 k.1, t, kd, fz, c, by rw [k.2 _ h2]; exact h3, fun i d hd => ⟨(h4 i d hd).1, (h4 i d hd).2.kp k⟩⟩
theorem OpL.len {A : Mem} {os : List OpI} {x : Value} (h : OpL A os x) : builtinPF tb4 .len [49] [x] = .ok (.int .i64 ((os.length : Nat) : Int)) := by
  rcases h with ⟨rfl, rfl⟩ | ⟨rfl, rfl⟩ | ⟨q, off, cp, rfl, -⟩
  · exact len_slc und49
  · kernel_rfl
  · exact len_slc und49
theorem OpL.at {A : Mem} {os : List OpI} {x : Value} (h : OpL A os x) {i : Nat} {o : OpI} (hi : os[i]? = some o) :
    (∃ p, indexAddrF tb4 49 x (.int .i64 (i : Int)) = .ok (.pointer (some p)) ∧ loadF tb4 A.get 29 (.pointer (some p)) = .ok (.agg ⟨inC o⟩)) ∧ InOk A o := by
  rcases h with ⟨-, rfl⟩ | ⟨-, rfl⟩ | ⟨q, off, cp, rfl, h2⟩
  · simp at hi
  · simp at hi
  · rcases h2 with rfl | ⟨h2, t, kd, fz, c, h3, h4⟩
    · simp at hi
    · obtain ⟨c0, hok⟩ := h4 i o hi
      obtain ⟨d29, hd1, hd2⟩ := und29'
      have hlt := (List.getElem?_eq_some_iff.1 hi).1
      have hb : Nat.blt i os.length = true := by rw [Nat.blt_eq]; exact hlt
      have hn : natV (.int .i64 (i : Int)) = .ok i := rfl
      refine ⟨⟨⟨q, off + i * 8, none⟩, ?_, ?_⟩, hok⟩
      · unfold indexAddrF
        simp only [hn, und49, hb, cond_true, size29', R.ok_bind, addA]
      · have hgs : c.gets 8 (off + i * 8) = some (inC o) := gets_eq _ _ _ _ rfl fun j hj => by
          have hv : (inC o)[j]? = some ((inC o)[j]'(by show j < 8; exact hj)) := List.getElem?_eq_getElem _
          rw [hv]
          exact c0 j _ hv
        unfold loadF
        simp only [h3, hd1, hd2, cond_true, size29', R.ok_bind, hgs]

theorem withL_mem : ∀ {more own : List EntD} {y : EntD}, y ∈ withL own more → y ∈ own ∨ ∃ m ∈ more, y.word = m.word
  | [], own, y, h => .inl h
  | m :: more, own, y, h => by
    have h' : y ∈ withL (oneL (norm m) own) more := h
    rcases withL_mem h' with h1 | ⟨e, h1, h2⟩
    · rcases one_mem h1 with rfl | h1
      · refine .inr ⟨m, List.mem_cons_self .., ?_⟩
        unfold norm
        split <;> rfl
      · exact .inl h1
    · exact .inr ⟨e, List.mem_cons_of_mem _ h1, h2⟩
theorem mem_live {l : List EntD} {y : EntD} (h : y ∈ Go.Mdl.live l) : y ∈ l := (List.mem_filter.1 h).1
theorem newL_mem {l : List EntD} {y : EntD} (h : y ∈ newL l) : ∃ m ∈ l, y.word = m.word := by
  rcases withL_mem (mem_live h) with h | h
  · cases h
  · exact h
theorem live_id {l : List EntD} (h : ∀ e ∈ l, e.gone = false) : Go.Mdl.live l = l := by
  unfold Go.Mdl.live
  rw [List.filter_eq_self]
  intro e he
  rw [h e he]; rfl
theorem wordD_len9 (ls : List UInt8) : (wordD ls).length ≤ 9 := by
  unfold wordD
  split
  · simp
  · rw [List.length_map, List.length_take]; omega
theorem dE_word (d : DrD) : (dE d).word.length ≤ 9 := by
  have h2 : (dE d).word = wordD d.ls := by
    unfold dE entD norm
    split <;> rfl
  rw [h2]
  exact wordD_len9 _
theorem new_ok {ds : List DrD} {n : Nat} (hn : n ≤ 1000) : OkD (newL ((ds.take n).map dE)) ∧ (newL ((ds.take n).map dE)).length ≤ n ∧ ∀ e ∈ newL ((ds.take n).map dE), e.word.length ≤ 9 := by
  refine ⟨live_ok (withL_asc (by trivial)), ?_, fun e he => ?_⟩
  · have e1 := live_le (withL [] ((ds.take n).map dE))
    have e2 := withL_len (own := []) (more := (ds.take n).map dE) trivial
    rw [List.length_map, List.length_take] at e2
    simp only [List.length_nil] at e2
    show (Go.Mdl.live _).length ≤ n
    omega
  · obtain ⟨m, hm, hw⟩ := newL_mem he
    obtain ⟨d, -, rfl⟩ := List.mem_map.1 hm
    rw [hw]
    exact dE_word d
theorem okM_of {d : List EntD} (h : OkD d) (hl : d.length < 1000) (hw : ∀ e ∈ d, e.word.length ≤ 300) : OkM d := ⟨h.1, by omega, fun e he => by have := hw e he; omega⟩
end Go.Proofs.Ytnelkapmmgggdaa.mdl

/-
  Model: the heap is one: what is taken is the worst; what is left are the best.
-/
namespace Go.Proofs.Ytnelkapmmgggdaa.mdl
open Go.Am Go.Mdl
open Go.Proofs.Ytnelkapmmgggdaa.rnk (HitD hitC ordD lessB sortH ordK lessK hitC_len sortH_len ltH lessB_iff ltH_irr ltH_tr ltH_tri)
set_option linter.unusedSimpArgs false
set_option linter.unusedVariables false
set_option linter.unusedVariables false

def ge (a b : HitD) : Prop := ¬ ltH a b
theorem ge_tr {a b c : HitD} (h : ge a b) (k : ge b c) : ge a c := by
  intro hac
  by_cases hba : ltH b a
  · exact k (ltH_tr hba hac)
  · exact k (by rw [← ltH_tri h hba]; exact hac)
theorem ge_lt {a b : HitD} (h : ltH b a) : ge a b := fun k => ltH_irr _ (ltH_tr h k)
theorem ge_lt_tr {a b c : HitD} (h : ltH a b) (k : ge a c) : ge b c := ge_tr (ge_lt h) k
theorem lessB_f {a b : HitD} : ¬ lessB a b = true ↔ ge a b := by rw [lessB_iff]; exact Iff.rfl
def at_ (l : List HitD) (k : Nat) : HitD := l.getD k default
theorem at_some {l : List HitD} {k : Nat} (h : k < l.length) : l[k]? = some (at_ l k) := by
  unfold at_
  rw [List.getD_eq_getElem?_getD, List.getElem?_eq_getElem h]; rfl
theorem at_get {l : List HitD} {k : Nat} (h : k < l.length) : l[k] = at_ l k := by
  have := at_some h
  rw [List.getElem?_eq_getElem h] at this
  exact Option.some.inj this
theorem at_swap {l : List HitD} {i j : Nat} (hi : i < l.length) (hj : j < l.length) (k : Nat) : at_ (swapL l i j) k = if k = j then at_ l i else if k = i then at_ l j else at_ l k := by
  unfold swapL
  rw [at_some hi, at_some hj]
  unfold at_
  rw [List.getD_eq_getElem?_getD, List.getElem?_set, List.getElem?_set]
  by_cases h1 : k = j
  · rw [if_pos h1, if_pos h1.symm]
    simp [hj]
  · rw [if_neg h1, if_neg (fun e => h1 e.symm)]
    by_cases h2 : k = i
    · rw [if_pos h2, if_pos h2.symm]
      simp [hi]
    · rw [if_neg h2, if_neg (fun e => h2 e.symm)]
      rw [List.getD_eq_getElem?_getD]
theorem swap_perm {l : List HitD} {i j : Nat} (hi : i < l.length) (hj : j < l.length) : (swapL l i j).Perm l := by
  unfold swapL
  rw [List.getElem?_eq_getElem hi, List.getElem?_eq_getElem hj]
  exact List.set_set_perm hi hj
def HeapF (l : List HitD) (n : Nat) : Prop := ∀ j, 0 < j → j < n → ge (at_ l ((j - 1) / 2)) (at_ l j)
theorem up_heap : ∀ (j : Nat) (l : List HitD), j < l.length → (∀ k, 0 < k → k < l.length → k ≠ j → ge (at_ l ((k - 1) / 2)) (at_ l k)) → (∀ k, 0 < k → k < l.length → (k - 1) / 2 = j → 0 < j → ge (at_ l ((j - 1) / 2)) (at_ l k)) → HeapF (upL l j) l.length ∧ (upL l j).Perm l := by
  intro j
  induction j using Nat.strongRecOn with
  | ind j ih =>
    intro l hj h1 h2
    by_cases h0 : j = 0
    · subst h0
      rw [upL_zero]
      exact ⟨fun k hk hkl => h1 k hk hkl (by omega), List.Perm.refl _⟩
    · have hp : (j - 1) / 2 < l.length := by omega
      rw [upL_step h0 (at_some hp) (at_some hj)]
      by_cases hl : lessB (at_ l ((j - 1) / 2)) (at_ l j) = true
      · rw [if_pos hl]
        rw [lessB_iff] at hl
        have hs := at_swap hp hj
        have hlen := swapL_len l ((j - 1) / 2) j
        have hA : ∀ k, 0 < k → k < (swapL l ((j - 1) / 2) j).length → k ≠ (j - 1) / 2 → ge (at_ (swapL l ((j - 1) / 2) j) ((k - 1) / 2)) (at_ (swapL l ((j - 1) / 2) j) k) := by
          intro k hk hkl hkp
          rw [hlen] at hkl
          rw [hs, hs]
          by_cases e1 : k = j
          · subst e1
            rw [if_pos rfl, if_neg (by omega), if_pos rfl]
            exact ge_lt hl
          · rw [if_neg e1, if_neg hkp]
            by_cases e2 : (k - 1) / 2 = j
            · rw [if_pos e2]
              exact h2 k hk hkl e2 (by omega)
            · rw [if_neg e2]
              by_cases e3 : (k - 1) / 2 = (j - 1) / 2
              · rw [if_pos e3]
                have := h1 k hk hkl e1
                rw [e3] at this
                exact ge_lt_tr hl this
              · rw [if_neg e3]
                exact h1 k hk hkl e1
        have hB : ∀ k, 0 < k → k < (swapL l ((j - 1) / 2) j).length → (k - 1) / 2 = (j - 1) / 2 → 0 < (j - 1) / 2 → ge (at_ (swapL l ((j - 1) / 2) j) (((j - 1) / 2 - 1) / 2)) (at_ (swapL l ((j - 1) / 2) j) k) := by
          intro k hk hkl hkp hp0
          rw [hlen] at hkl
          have hg := h1 ((j - 1) / 2) hp0 hp (by omega)
          rw [hs, hs, if_neg (by omega), if_neg (by omega)]
          by_cases e1 : k = j
          · rw [if_pos e1]
            exact hg
          · rw [if_neg e1, if_neg (by omega)]
            have := h1 k hk hkl e1
            rw [hkp] at this
            exact ge_tr hg this
        obtain ⟨i1, i2⟩ := ih ((j - 1) / 2) (by omega) (swapL l ((j - 1) / 2) j) (by omega) hA hB
        rw [hlen] at i1
        exact ⟨i1, i2.trans (swap_perm hp hj)⟩
      · rw [if_neg hl]
        rw [lessB_f] at hl
        refine ⟨fun k hk hkl => ?_, List.Perm.refl _⟩
        by_cases e : k = j
        · subst e; exact hl
        · exact h1 k hk hkl e
theorem child_spec {l : List HitD} {i n : Nat} (h : 2 * i + 1 < n) (hn : n ≤ l.length) : (childL l i n = 2 * i + 1 ∨ (childL l i n = 2 * i + 2 ∧ 2 * i + 2 < n)) ∧ ∀ k, 0 < k → k < n → (k - 1) / 2 = i → ge (at_ l (childL l i n)) (at_ l k) := by
  unfold childL
  rw [at_some (by omega : 2 * i + 1 < l.length)]
  by_cases h2 : 2 * i + 2 < l.length
  · rw [at_some h2]
    simp only []
    by_cases hc : 2 * i + 2 < n ∧ lessB (at_ l (2 * i + 1)) (at_ l (2 * i + 2)) = true
    · rw [if_pos hc]
      refine ⟨.inr ⟨rfl, hc.1⟩, fun k hk hkn hki => ?_⟩
      have : k = 2 * i + 1 ∨ k = 2 * i + 2 := by omega
      rcases this with rfl | rfl
      · exact ge_lt (lessB_iff.1 hc.2)
      · exact ltH_irr _
    · rw [if_neg hc]
      refine ⟨.inl rfl, fun k hk hkn hki => ?_⟩
      have : k = 2 * i + 1 ∨ k = 2 * i + 2 := by omega
      rcases this with rfl | rfl
      · exact ltH_irr _
      · exact lessB_f.1 fun h => hc ⟨hkn, h⟩
  · rw [List.getElem?_eq_none (by omega)]
    refine ⟨.inl rfl, fun k hk hkn hki => ?_⟩
    have : k = 2 * i + 1 := by omega
    subst this
    exact ltH_irr _
theorem down_heap (n : Nat) : ∀ (m i : Nat) (l : List HitD), n - i = m → n ≤ l.length → i < l.length → (∀ k, 0 < k → k < n → (k - 1) / 2 ≠ i → ge (at_ l ((k - 1) / 2)) (at_ l k)) → (∀ k, 0 < k → k < n → (k - 1) / 2 = i → 0 < i → ge (at_ l ((i - 1) / 2)) (at_ l k)) → HeapF (downL l i n) n ∧ (downL l i n).Perm l ∧ ∀ k, n ≤ k → i < n → at_ (downL l i n) k = at_ l k := by
  intro m
  induction m using Nat.strongRecOn with
  | ind m ih =>
    intro i l hm hn hi h1 h2
    by_cases hc : 2 * i + 1 < n
    · obtain ⟨c1, c2⟩ := child_spec hc hn
      have hcl := childL_lt (l := l) hc
      generalize hcc : childL l i n = c at c1 c2 hcl
      have hcL : c < l.length := by omega
      rw [downL_step hc (at_some hi) (by rw [hcc]; exact at_some hcL), hcc]
      by_cases hl : lessB (at_ l i) (at_ l c) = true
      · rw [if_pos hl]
        rw [lessB_iff] at hl
        have hs := at_swap hi hcL
        have hlen := swapL_len l i c
        have hA : ∀ k, 0 < k → k < n → (k - 1) / 2 ≠ c → ge (at_ (swapL l i c) ((k - 1) / 2)) (at_ (swapL l i c) k) := by
          intro k hk hkn hkp
          rw [hs, hs, if_neg hkp]
          by_cases e1 : k = c
          · subst e1
            have hpk : (k - 1) / 2 = i := by omega
            rw [if_pos hpk, if_pos rfl]
            exact ge_lt hl
          · rw [if_neg e1]
            by_cases e2 : (k - 1) / 2 = i
            · rw [if_pos e2, if_neg (by omega)]
              exact c2 k hk hkn e2
            · rw [if_neg e2]
              by_cases e3 : k = i
              · rw [if_pos e3]
                subst e3
                exact h2 c (by omega) hcl.2 (by omega) (by omega)
              · rw [if_neg e3]
                exact h1 k hk hkn e2
        have hB : ∀ k, 0 < k → k < n → (k - 1) / 2 = c → 0 < c → ge (at_ (swapL l i c) ((c - 1) / 2)) (at_ (swapL l i c) k) := by
          intro k hk hkn hkp hc0
          have hpc : (c - 1) / 2 = i := by omega
          rw [hs, hs, hpc, if_neg (by omega), if_pos rfl, if_neg (by omega), if_neg (by omega)]
          have := h1 k hk hkn (by omega)
          rw [hkp] at this
          exact this
        obtain ⟨i1, i2, i3⟩ := ih (n - c) (by omega) c (swapL l i c) rfl (by omega) (by omega) hA hB
        refine ⟨i1, i2.trans (swap_perm hi hcL), fun k hk _ => ?_⟩
        rw [i3 k hk (by omega), hs, if_neg (by omega), if_neg (by omega)]
      · rw [if_neg hl]
        rw [lessB_f] at hl
        refine ⟨fun k hk hkn => ?_, List.Perm.refl _, fun _ _ _ => rfl⟩
        by_cases e : (k - 1) / 2 = i
        · rw [e]
          exact ge_tr hl (c2 k hk hkn e)
        · exact h1 k hk hkn e
    · rw [downL_stop hc]
      refine ⟨fun k hk hkn => h1 k hk hkn (by omega), List.Perm.refl _, fun _ _ _ => rfl⟩
theorem at_append {l : List HitD} {h : HitD} {k : Nat} (hk : k < l.length) : at_ (l ++ [h]) k = at_ l k := by
  unfold at_
  rw [List.getD_eq_getElem?_getD, List.getElem?_append_left hk, List.getD_eq_getElem?_getD]
theorem push_heap {l : List HitD} {h : HitD} (hh : HeapF l l.length) : HeapF (pushL l h) (pushL l h).length ∧ (pushL l h).Perm (h :: l) := by
  have hlen : (l ++ [h]).length = l.length + 1 := by simp
  obtain ⟨h1, h2⟩ := up_heap l.length (l ++ [h]) (by omega) (fun k hk hkl hne => by
    rw [hlen] at hkl
    rw [at_append (by omega), at_append (by omega)]
    exact hh k hk (by omega)) (fun k hk hkl hkp h0 => by omega)
  rw [pushL_len]
  rw [hlen] at h1
  exact ⟨h1, h2.trans (List.perm_append_comm (l₁ := l) (l₂ := [h]))⟩
theorem root_max {l : List HitD} (hh : HeapF l l.length) : ∀ k, k < l.length → ge (at_ l 0) (at_ l k) := by
  intro k
  induction k using Nat.strongRecOn with
  | ind k ih =>
    intro hk
    by_cases h0 : k = 0
    · subst h0; exact ltH_irr _
    · exact ge_tr (ih ((k - 1) / 2) (by omega) (by omega)) (hh k (by omega) hk)
theorem at_take {l : List HitD} {n k : Nat} (h : k < n) : at_ (l.take n) k = at_ l k := by
  unfold at_
  rw [List.getD_eq_getElem?_getD, List.getElem?_take, if_pos h, List.getD_eq_getElem?_getD]
theorem pop_heap {l : List HitD} (hh : HeapF l l.length) (h0 : 0 < l.length) : HeapF (popL l) (popL l).length ∧ ∃ r, l.Perm (r :: popL l) ∧ ∀ y ∈ l, ge r y := by
  have hm : l.length - 1 < l.length := by omega
  have hs := at_swap h0 hm
  have hlen := swapL_len l 0 (l.length - 1)
  obtain ⟨h1, h2, h3⟩ := down_heap (l.length - 1) _ 0 (swapL l 0 (l.length - 1)) rfl (by omega) (by omega) (fun k hk hkn hkp => by
    rw [hs, hs, if_neg (by omega), if_neg (by omega), if_neg (by omega), if_neg (by omega)]
    exact hh k hk (by omega)) (fun k hk hkn hkp hi => by omega)
  have hdl : (downL (swapL l 0 (l.length - 1)) 0 (l.length - 1)).length = l.length := by rw [downL_len _ _ _ _ rfl, hlen]
  have hlast : at_ (downL (swapL l 0 (l.length - 1)) 0 (l.length - 1)) (l.length - 1) = at_ l 0 := by
    by_cases h1' : 0 < l.length - 1
    · rw [h3 _ (Nat.le_refl _) h1', hs, if_pos rfl]
    · have e0 : l.length - 1 = 0 := by omega
      rw [downL_stop (by omega), hs, if_pos rfl]
  refine ⟨?_, at_ l 0, ?_, fun y hy => ?_⟩
  · intro j hj hjl
    rw [popL_len] at hjl
    unfold popL
    rw [at_take (by omega), at_take (by omega)]
    exact h1 j hj hjl
  · have e : downL (swapL l 0 (l.length - 1)) 0 (l.length - 1) = popL l ++ [at_ l 0] := by
      unfold popL
      conv => lhs; rw [← List.take_append_drop (l.length - 1) (downL (swapL l 0 (l.length - 1)) 0 (l.length - 1))]
      rw [List.drop_eq_getElem_cons (by omega), at_get (by omega), hlast, List.drop_of_length_le (by omega)]
    have p1 : (popL l ++ [at_ l 0]).Perm l := by
      rw [← e]
      exact h2.trans (swap_perm h0 hm)
    exact p1.symm.trans (List.perm_append_comm (l₁ := popL l) (l₂ := [at_ l 0]))
  · obtain ⟨k, hk, rfl⟩ := List.mem_iff_getElem.1 hy
    rw [at_get hk]
    exact root_max hh k hk

def BestI (n : Nat) (l w rest : List HitD) : Prop := HeapF w w.length ∧ l.Perm (w ++ rest) ∧ w.length ≤ n ∧ (rest ≠ [] → w.length = n) ∧ ∀ y ∈ w, ∀ z ∈ rest, ge z y
theorem best_step {n : Nat} {l w rest : List HitD} {x : HitD} (h : BestI n l w rest) : ∃ rest', BestI n (x :: l) (stepT (n : Int) w x) rest' := by
  obtain ⟨h1, h2, h3, h4, h5⟩ := h
  obtain ⟨p1, p2⟩ := push_heap (h := x) h1
  have hpl := pushL_len w x
  unfold stepT
  by_cases hn : (n : Int) < ((pushL w x).length : Int)
  · rw [if_pos hn]
    obtain ⟨q1, r, q2, q3⟩ := pop_heap p1 (by omega)
    have hq := popL_len (pushL w x)
    have q4 : (x :: w).Perm (r :: popL (pushL w x)) := p2.symm.trans q2
    have hrm : ∀ y ∈ x :: w, ge r y := fun y hy => q3 y (p2.mem_iff.2 hy)
    refine ⟨r :: rest, q1, ?_, by omega, fun _ => by omega, fun y hy z hz => ?_⟩
    · have a1 : (x :: l).Perm (x :: (w ++ rest)) := h2.cons x
      have a2 : (x :: (w ++ rest)).Perm ((r :: popL (pushL w x)) ++ rest) := q4.append_right rest
      exact a1.trans (a2.trans (List.perm_middle.symm))
    · have hyx : y ∈ x :: w := q4.mem_iff.2 (List.mem_cons_of_mem _ hy)
      rcases List.mem_cons.1 hz with rfl | hz
      · exact hrm y hyx
      · rcases List.mem_cons.1 hyx with rfl | hyw
        · have hr : r ∈ y :: w := q4.mem_iff.2 (List.mem_cons_self ..)
          rcases List.mem_cons.1 hr with hry | hrw
          · rw [hry] at q4
            have : y ∈ w := (q4.cons_inv).mem_iff.2 hy
            exact h5 y this z hz
          · exact ge_tr (h5 r hrw z hz) (hrm y (List.mem_cons_self ..))
        · exact h5 y hyw z hz
  · rw [if_neg hn]
    have hr : rest = [] := Classical.byContradiction fun hr => by
      have := h4 hr
      omega
    subst hr
    rw [List.append_nil] at h2
    refine ⟨[], p1, ?_, by omega, fun h => absurd rfl h, fun y _ z hz => by cases hz⟩
    rw [List.append_nil]
    exact (h2.cons x).trans p2.symm
theorem best_fold {n : Nat} : ∀ (l l0 w rest : List HitD), BestI n l0 w rest → ∃ rest', BestI n (l.reverse ++ l0) (l.foldl (stepT (n : Int)) w) rest'
  | [], l0, w, rest, h => ⟨rest, h⟩
  | x :: l, l0, w, rest, h => by
    obtain ⟨r1, h1⟩ := best_step (x := x) h
    obtain ⟨r2, h2⟩ := best_fold l (x :: l0) _ r1 h1
    refine ⟨r2, ?_⟩
    rw [List.reverse_cons, List.append_assoc]
    exact h2
theorem top_best {n : Int} {l : List HitD} (hn : 0 ≤ n) : ∃ rest, l.Perm (topL n l ++ rest) ∧ ((topL n l).length : Int) ≤ n ∧ (rest ≠ [] → ((topL n l).length : Int) = n) ∧ ∀ y ∈ topL n l, ∀ z ∈ rest, ge z y := by
  obtain ⟨k, rfl⟩ : ∃ k : Nat, n = (k : Int) := ⟨n.toNat, by omega⟩
  obtain ⟨rest, h1, h2, h3, h4, h5⟩ := best_fold (n := k) l [] [] [] ⟨fun j _ hj => by simp at hj, List.Perm.refl _, Nat.zero_le _, fun h => absurd rfl h, fun y hy => by cases hy⟩
  have hp : (topL (k : Int) l).Perm (l.foldl (stepT (k : Int)) []) := List.mergeSort_perm _ _
  have hl := hp.length_eq
  refine ⟨rest, ?_, by omega, fun h => by have := h4 h; omega, fun y hy z hz => h5 y (hp.mem_iff.1 hy) z hz⟩
  rw [List.append_nil] at h2
  exact (List.reverse_perm l).symm.trans (h2.trans (hp.symm.append_right rest))
def rankL (l : List HitD) (h : HitD) : Nat := l.countP fun y => lessB y h
theorem rank_count {n : Int} {l : List HitD} (hn : 0 ≤ n) (hd : l.Nodup) : l.countP (fun h => decide (rankL (topL n l) h < (topL n l).length)) = (topL n l).length := by
  obtain ⟨rest, h1, h2, h3, h4⟩ := top_best (l := l) hn
  rw [h1.countP_eq, List.countP_append]
  have hnd : (topL n l ++ rest).Nodup := h1.nodup_iff.1 hd
  have e1 : (topL n l).countP (fun h => decide (rankL (topL n l) h < (topL n l).length)) = (topL n l).length := by
    rw [List.countP_eq_length]
    intro h hh
    refine decide_eq_true ?_
    refine Nat.lt_of_le_of_ne List.countP_le_length fun e => ?_
    have := (List.countP_eq_length.1 e) h hh
    rw [lessB_iff] at this
    exact ltH_irr _ this
  have e2 : rest.countP (fun h => decide (rankL (topL n l) h < (topL n l).length)) = 0 := by
    rw [List.countP_eq_zero]
    intro z hz
    have : rankL (topL n l) z = (topL n l).length := by
      refine List.countP_eq_length.2 fun y hy => ?_
      rw [lessB_iff]
      have hge := h4 y hy z hz
      refine Classical.byContradiction fun hyz => ?_
      have : y = z := ltH_tri hyz hge
      subst this
      exact (List.nodup_append.1 hnd).2.2 _ hy _ hz rfl
    rw [this]
    simp
  rw [e1, e2]; rfl
end Go.Proofs.Ytnelkapmmgggdaa.mdl

/-
  ModelReads: Rank; what it was told; plain facts.
-/
namespace Go.Proofs.Ytnelkapmmgggdaa.mdl
open Go.Am Go.Mdl
open Go.Proofs.Ytnelkapmmgggdaa.rnk (HitD hitC ordD lessB sortH ordK lessK hitC_len sortH_len bitI bitK)
set_option linter.unusedSimpArgs false
set_option linter.unusedVariables false
set_option linter.unusedVariables false

theorem k33' {ih : Code → St → R (Ex × St)} {A : Mem} {b : Bool} : callF tb4 ih (.fn 33 [.bool b]) A = .ok (.val (.int .i64 (bitI b)) A) :=
  callF_known (c := (Try.f33.body).getD .skip) (fn_at Try.func33) (by kernel_rfl) (by kernel_rfl) (h := pureHook bitK) (by kernel_rfl) rfl
noncomputable def c22 : Code := Try.f22.body.getD .skip
noncomputable def c22b1 : Code := sub c22 [1,0,1,0,0]
theorem c22_eq : Try.f22.body = some (.seq (sub c22 [0]) (.seq (.seq (sub c22 [1,0,0]) (.block 0 (.loop c22b1))) (.seq (sub c22 [1,1,0]) (sub c22 [1,1,1])))) := by kernel_rfl
theorem c22b1_eq : c22b1 = .seq (sub c22b1 [0]) (.seq (sub c22b1 [1,0]) (.seq (.block 1 (.seq (sub c22b1 [1,1,0,0,0]) (sub c22b1 [1,1,0,0,1]))) (sub c22b1 [1,1,1]))) := by kernel_rfl
theorem rankL_le (l : List HitD) (h : HitD) : rankL l h ≤ l.length := List.countP_le_length
theorem rankL_succ {l : List HitD} {i : Nat} {h y : HitD} (hi : l[i]? = some y) : rankL (l.take (i + 1)) h = rankL (l.take i) h + (if lessB y h = true then 1 else 0) := by
  obtain ⟨hl, rfl⟩ := List.getElem?_eq_some_iff.1 hi
  rw [List.take_succ_eq_append_getElem hl]
  unfold rankL
  rw [List.countP_append, List.countP_singleton]
theorem run_rank {A : Mem} {b : Nat} {l : List HitD} {x : Value} {h : HitD} (hx : HitS A b l x) (hl : l.length < 1000000) :
    ∃ v A', Ans tb4 22 [x, .agg ⟨hitC h⟩] A v A' ∧ v = .int .i64 ((rankL l h : Nat) : Int) ∧ Kp A A' := by
  refine ans_of_W (fn_at Try.func22) c22_eq (by rw [Try.ntmps22]; simp) (by kernel_rfl) (by kernel_rfl) ?_
  obtain ⟨d63, hd1, hd2⟩ := und63'
  have k0 := Kp.alloc A (rowOb 63 (hitC h))
  have v0 : Vals (A.alloc (rowOb 63 (hitC h))) 63 A.next (.var 4) (hitC h) := vals_puts (get_alloc_self _ _)
  have n0 : (A.alloc (rowOb 63 (hitC h))).next = A.next + 1 := next_alloc _ _
  have hlen := HitS.lens hx
  apply W.seq
  apply W.run 20
  · intro M
    simp (disch := first | decide +kernel | omega) only [c22, Try.f22, Option.getD_some, sub_seq0, sub_nil, T.puts_cons, Nat.reduceAdd, T.puts_nil, exec_region, runOps_cons, opF_box, ev_tmp, T.get_set, Nat.reduceEqDiff, T.get_e, if_false, if_true, evG_some, at_ptr, putT_some, opF_assign, ev_int, runOps_nil, R.ok_bind, cells_agg]
    with_reducible rfl
  show W tb4 _ _ _
  generalize A.alloc (rowOb 63 (hitC h)) = B at k0 v0 n0
  apply W.seq
  apply W.seq
  apply W.run 20
  · intro M
    simp (disch := first | decide +kernel | omega) only [c22, Try.f22, Option.getD_some, sub_seq1, sub_seq0, sub_nil, exec_region, runOps_cons, opF_move, ev_tmp, T.get_set, Nat.reduceEqDiff, T.get_e, if_true, if_false, evG_some, putT_some, opF_len, evs, R.ok_bind, ev_int, runOps_nil, hlen]
    with_reducible rfl
  apply W.block
  refine W.up l.length (fun i t C => Kp B C ∧ Sl t [(3, .pointer (some ⟨A.next, 0, none⟩)), (4, .int .i64 ((rankL (l.take i) h : Nat) : Int)), (7, x), (8, .int .i64 (l.length : Int)), (9, .int .i64 (i : Int))]) ?_ (Nat.zero_le _) ⟨Kp.refl _, ?_⟩
  · rintro i t C hi ⟨kC, g3, g4, g7, g8, g9, -⟩
    have kn := kC.1
    rw [c22b1_eq]
    apply W.seq
    by_cases hlt : i < l.length
    · have he : l[i]? = some l[i] := List.getElem?_eq_getElem hlt
      obtain ⟨i1, i2⟩ := HitS.at (HitS.kp (HitS.kp hx k0) kC) he
      have z1 : Vals (C.alloc (rowOb 63 hitZ)) 63 C.next (.var 4) hitZ := vals_puts (get_alloc_self _ _)
      obtain ⟨D, s1, v1, n1, k1⟩ := store_all (tb := tb4) (t := 63) (l := hitZ) (l' := hitC l[i]) size63' z1 rfl (by simp [hitZ]) (hitC_one _)
      rw [next_alloc] at n1
      have kD : Kp C D := ⟨by omega, fun z hz => by rw [k1 z (by omega), get_alloc_ne (by omega)]⟩
      have l1 := load_all (tb := tb4) hd1 hd2 (l := hitC l[i]) size63' v1
      have l2 := load_all (tb := tb4) hd1 hd2 (l := hitC h) size63' ((v0.same (kC.2 _ (by omega))).same (kD.2 _ (by omega)))
      have hrl := rankL_le (l.take i) h
      rw [List.length_take] at hrl
      have hbit : intOpF .add .i64 ((rankL (l.take i) h : Nat) : Int) (bitI (lessB l[i] h)) = .ok (.int .i64 ((rankL (l.take (i + 1)) h : Nat) : Int)) := by
        rw [rankL_succ he]
        cases lessB l[i] h with
        | true =>
          show intOpF .add .i64 ((rankL (l.take i) h : Nat) : Int) ((1 : Nat) : Int) = _
          rw [op_add_i64 (by omega)]; rfl
        | false =>
          show intOpF .add .i64 ((rankL (l.take i) h : Nat) : Int) ((0 : Nat) : Int) = _
          rw [op_add_i64 (by omega)]; rfl
      apply W.run 20
      · intro M
        simp (disch := first | decide +kernel | omega) only [c22b1, c22, Try.f22, Option.getD_some, sub_seq1, sub_seq0, sub_block, sub_loop, sub_nil, exec_region, runOps_cons, opF_ari, ev_tmp, g9, evG_some, g8, putT_some, runOps_nil, R.ok_bind, binF_int, op_lssI, cast_lt, hlt, decide_true]
        with_reducible rfl
      apply W.seq
      apply W.run 20
      · intro M
        simp (disch := first | decide +kernel | omega) only [c22b1, c22, Try.f22, Option.getD_some, sub_seq1, sub_seq0, sub_block, sub_loop, sub_nil, exec_cond, ev_tmp, T.get_set, if_true, evG_some, exec_skip, exec_exit, R.ok_bind]
        with_reducible rfl
      apply W.seq
      apply W.block
      apply W.seq
      apply W.run 20
      · intro M
        simp (disch := first | decide +kernel | omega) only [c22b1, c22, Try.f22, Option.getD_some, sub_seq1, sub_seq0, sub_block, sub_loop, sub_nil, exec_region, runOps_cons, opF_indexAddr, ev_tmp, T.get_set, Nat.reduceEqDiff, g7, if_false, evG_some, g9, putT_some, opF_load, if_true, opF_alloc, z63, at_ptr, opF_store, putT_none, runOps_nil, R.ok_bind, cells_agg, i1, i2, s1]
        with_reducible rfl
      apply W.run 20
      · intro M
        simp (disch := first | decide +kernel | omega) only [c22b1, c22, Try.f22, Option.getD_some, sub_seq1, sub_seq0, sub_block, sub_loop, sub_nil, exec_region, runOps_cons, opF_move, ev_tmp, T.get_set, Nat.reduceEqDiff, g4, if_false, evG_some, putT_some, opF_load, if_true, g3, opF_call, evs, R.ok_bind, resK, opF_ari, opF_assign, runOps_nil, l2, l1, k34, k33', binF_int, hbit]
        with_reducible rfl
      apply W.run 20
      · intro M
        simp (disch := first | decide +kernel | omega) only [c22b1, c22, Try.f22, Option.getD_some, sub_seq1, sub_seq0, sub_block, sub_loop, sub_nil, exec_region, runOps_cons, opF_ari, ev_tmp, T.get_set, Nat.reduceEqDiff, g9, if_false, evG_some, ev_int, putT_some, opF_move, if_true, runOps_nil, R.ok_bind, binF_int, op_add_i64]
        with_reducible rfl
      refine ⟨hlt, _, _, rfl, kC.trans kD, ?_⟩
      simp only [Sl_cons, Sl_nil, T.get_set, T.puts_cons, T.puts_nil, Nat.reduceEqDiff, Nat.reduceAdd, if_true, if_false, and_true, true_and, g3, g7, g8]
    · have hin : i = l.length := by omega
      subst hin
      rw [List.take_length] at g4
      apply W.run 20
      · intro M
        simp (disch := first | decide +kernel | omega) only [c22b1, c22, Try.f22, Option.getD_some, sub_seq1, sub_seq0, sub_block, sub_loop, sub_nil, exec_region, runOps_cons, opF_ari, ev_tmp, g9, evG_some, g8, putT_some, runOps_nil, R.ok_bind, binF_int, op_lssI, cast_lt, hlt, decide_false]
        with_reducible rfl
      apply W.seq
      apply W.run 20
      · intro M
        simp (disch := first | decide +kernel | omega) only [c22b1, c22, Try.f22, Option.getD_some, sub_seq1, sub_seq0, sub_block, sub_loop, sub_nil, exec_cond, ev_tmp, T.get_set, if_true, evG_some, exec_skip, exec_exit, R.ok_bind]
        with_reducible rfl
      apply W.seq
      apply W.run 20
      · intro M
        simp (disch := first | decide +kernel | omega) only [c22, Try.f22, Option.getD_some, sub_seq1, sub_seq0, sub_nil, exec_region, runOps_cons, opF_move, ev_tmp, T.get_set, Nat.reduceEqDiff, g4, if_false, evG_some, putT_some, opF_assign, if_true, runOps_nil, R.ok_bind]
        with_reducible rfl
      apply W.run 20
      · intro M
        simp (disch := first | decide +kernel | omega) only [c22, Try.f22, Option.getD_some, sub_seq1, sub_nil, exec_ret]
        with_reducible rfl
      refine ⟨.inr rfl, C, [.int .i64 ((rankL l h : Nat) : Int)], rfl, ?_, rfl, k0.trans kC⟩
      simp only [Try.f22, resF, ev_tmp, T.get_set, Nat.reduceEqDiff, if_true, if_false, evG_some, R.ok_bind]
  · simp only [Sl_cons, Sl_nil, T.get_set, T.puts_cons, T.puts_nil, Nat.reduceEqDiff, Nat.reduceAdd, if_true, if_false, and_true, true_and]
    rfl
def toldI (o : OpI) : Nat := if o.told % 32 = 1 then 10 else if o.told % 32 = 2 then 13 else if o.told % 32 = 3 then 8 else 0
noncomputable def c20 : Code := Try.f20.body.getD .skip
theorem c20_eq : Try.f20.body = some (.seq (sub c20 [0]) (.seq (.seq (sub c20 [1,0,0]) (sub c20 [1,0,1])) (.seq (.seq (sub c20 [1,1,0,0]) (sub c20 [1,1,0,1])) (.seq (.seq (sub c20 [1,1,1,0,0]) (sub c20 [1,1,1,0,1])) (.seq (sub c20 [1,1,1,1,0]) (sub c20 [1,1,1,1,1])))))) := by kernel_rfl
theorem run_told {A : Mem} {o : OpI} (h : InOk A o) : ∃ v A', Ans tb4 20 [.agg ⟨inC o⟩] A v A' ∧ v = .int .i64 ((toldI o : Nat) : Int) ∧ Kp A A' := by
  refine ans_of_W (fn_at Try.func20) c20_eq (by rw [Try.ntmps20]; simp) (by kernel_rfl) (by kernel_rfl) ?_
  have k0 := Kp.alloc A (rowOb 29 (inC o))
  have v0 : Vals (A.alloc (rowOb 29 (inC o))) 29 A.next (.var 8) (inC o) := vals_puts (get_alloc_self _ _)
  have p1 : loadF tb4 (A.alloc (rowOb 29 (inC o))).get 5 (.pointer (some ⟨A.next, 1, none⟩)) = .ok (.int .u8 (o.told : Int)) := load_vals und5' rfl v0 rfl
  apply W.seq
  apply W.run 20
  · intro M
    simp (disch := first | decide +kernel | omega) only [c20, Try.f20, Option.getD_some, sub_seq0, sub_nil, T.puts_cons, Nat.reduceAdd, T.puts_nil, exec_region, runOps_cons, opF_box, ev_tmp, T.get_set, T.get_e, if_true, evG_some, at_ptr, putT_some, opF_assign, ev_int, runOps_nil, R.ok_bind, cells_agg]
    with_reducible rfl
  show W tb4 _ _ _
  generalize A.alloc (rowOb 29 (inC o)) = B at k0 v0 p1
  apply W.seq
  apply W.seq
  by_cases h1 : o.told % 32 = 1
  · have ht : toldI o = 10 := by unfold toldI; rw [if_pos h1]
    apply W.run 20
    · intro M
      simp (disch := first | decide +kernel | omega) only [c20, Try.f20, Option.getD_some, sub_seq1, sub_seq0, sub_nil, exec_region, runOps_cons, opF_fieldAddr, ev_tmp, T.get_set, Nat.reduceEqDiff, T.get_e, if_false, if_true, evG_some, putT_some, opF_load, opF_ari, ev_int, opF_eql, runOps_nil, R.ok_bind, f29_1, p1, binF_int, op_rem, h1, op_eql, decide_true]
      with_reducible rfl
    apply W.run 20
    · intro M
      simp (disch := first | decide +kernel | omega) only [c20, Try.f20, Option.getD_some, sub_seq1, sub_seq0, sub_nil, exec_cond, ev_tmp, T.get_set, Nat.reduceEqDiff, T.get_e, if_false, if_true, evG_some, exec_seq, exec_region, runOps_cons, opF_assign, ev_int, putT_some, runOps_nil, R.ok_bind, exec_ret, exec_skip]
      with_reducible rfl
    rw [ht]
    refine ⟨.inr rfl, B, [.int .i64 ((10 : Nat) : Int)], rfl, ?_, rfl, k0⟩
    simp only [Try.f20, resF, ev_tmp, T.get_set, Nat.reduceEqDiff, if_true, if_false, evG_some, R.ok_bind]
  · apply W.run 20
    · intro M
      simp (disch := first | decide +kernel | omega) only [c20, Try.f20, Option.getD_some, sub_seq1, sub_seq0, sub_nil, exec_region, runOps_cons, opF_fieldAddr, ev_tmp, T.get_set, Nat.reduceEqDiff, T.get_e, if_false, if_true, evG_some, putT_some, opF_load, opF_ari, ev_int, opF_eql, runOps_nil, R.ok_bind, f29_1, p1, binF_int, op_rem, op_eql, h1, decide_false]
      with_reducible rfl
    apply W.run 20
    · intro M
      simp (disch := first | decide +kernel | omega) only [c20, Try.f20, Option.getD_some, sub_seq1, sub_seq0, sub_nil, exec_cond, ev_tmp, T.get_set, Nat.reduceEqDiff, T.get_e, if_false, if_true, evG_some, exec_seq, exec_region, runOps_cons, opF_assign, ev_int, putT_some, runOps_nil, R.ok_bind, exec_ret, exec_skip]
      with_reducible rfl
    apply W.seq
    apply W.seq
    by_cases h2 : o.told % 32 = 2
    · have ht : toldI o = 13 := by unfold toldI; rw [if_neg h1, if_pos h2]
      apply W.run 20
      · intro M
        simp (disch := first | decide +kernel | omega) only [c20, Try.f20, Option.getD_some, sub_seq1, sub_seq0, sub_nil, h2, exec_region, runOps_cons, opF_fieldAddr, ev_tmp, T.get_set, Nat.reduceEqDiff, T.get_e, if_false, if_true, evG_some, putT_some, opF_load, opF_ari, ev_int, opF_eql, runOps_nil, R.ok_bind, f29_1, p1, binF_int, op_rem, op_eql, decide_true]
        with_reducible rfl
      apply W.run 20
      · intro M
        simp (disch := first | decide +kernel | omega) only [c20, Try.f20, Option.getD_some, sub_seq1, sub_seq0, sub_nil, exec_cond, ev_tmp, T.get_set, Nat.reduceEqDiff, T.get_e, if_false, if_true, evG_some, exec_seq, exec_region, runOps_cons, opF_assign, ev_int, putT_some, runOps_nil, R.ok_bind, exec_ret, exec_skip]
        with_reducible rfl
      rw [ht]
      refine ⟨.inr rfl, B, [.int .i64 ((13 : Nat) : Int)], rfl, ?_, rfl, k0⟩
      simp only [Try.f20, resF, ev_tmp, T.get_set, Nat.reduceEqDiff, if_true, if_false, evG_some, R.ok_bind]
    · apply W.run 20
      · intro M
        simp (disch := first | decide +kernel | omega) only [c20, Try.f20, Option.getD_some, sub_seq1, sub_seq0, sub_nil, exec_region, runOps_cons, opF_fieldAddr, ev_tmp, T.get_set, Nat.reduceEqDiff, T.get_e, if_false, if_true, evG_some, putT_some, opF_load, opF_ari, ev_int, opF_eql, runOps_nil, R.ok_bind, f29_1, p1, binF_int, op_rem, op_eql, h2, decide_false]
        with_reducible rfl
      apply W.run 20
      · intro M
        simp (disch := first | decide +kernel | omega) only [c20, Try.f20, Option.getD_some, sub_seq1, sub_seq0, sub_nil, exec_cond, ev_tmp, T.get_set, Nat.reduceEqDiff, T.get_e, if_false, if_true, evG_some, exec_seq, exec_region, runOps_cons, opF_assign, ev_int, putT_some, runOps_nil, R.ok_bind, exec_ret, exec_skip]
        with_reducible rfl
      apply W.seq
      apply W.seq
      by_cases h3 : o.told % 32 = 3
      · have ht : toldI o = 8 := by unfold toldI; rw [if_neg h1, if_neg h2, if_pos h3]
        apply W.run 20
        · intro M
          simp (disch := first | decide +kernel | omega) only [c20, Try.f20, Option.getD_some, sub_seq1, sub_seq0, sub_nil, h3, exec_region, runOps_cons, opF_fieldAddr, ev_tmp, T.get_set, Nat.reduceEqDiff, T.get_e, if_false, if_true, evG_some, putT_some, opF_load, opF_ari, ev_int, opF_eql, runOps_nil, R.ok_bind, f29_1, p1, binF_int, op_rem, op_eql, decide_true]
          with_reducible rfl
        apply W.run 20
        · intro M
          simp (disch := first | decide +kernel | omega) only [c20, Try.f20, Option.getD_some, sub_seq1, sub_seq0, sub_nil, exec_cond, ev_tmp, T.get_set, Nat.reduceEqDiff, T.get_e, if_false, if_true, evG_some, exec_seq, exec_region, runOps_cons, opF_assign, ev_int, putT_some, runOps_nil, R.ok_bind, exec_ret, exec_skip]
          with_reducible rfl
        rw [ht]
        refine ⟨.inr rfl, B, [.int .i64 ((8 : Nat) : Int)], rfl, ?_, rfl, k0⟩
        simp only [Try.f20, resF, ev_tmp, T.get_set, Nat.reduceEqDiff, if_true, if_false, evG_some, R.ok_bind]
      · have ht : toldI o = 0 := by unfold toldI; rw [if_neg h1, if_neg h2, if_neg h3]
        apply W.run 20
        · intro M
          simp (disch := first | decide +kernel | omega) only [c20, Try.f20, Option.getD_some, sub_seq1, sub_seq0, sub_nil, exec_region, runOps_cons, opF_fieldAddr, ev_tmp, T.get_set, Nat.reduceEqDiff, T.get_e, if_false, if_true, evG_some, putT_some, opF_load, opF_ari, ev_int, opF_eql, runOps_nil, R.ok_bind, f29_1, p1, binF_int, op_rem, op_eql, h3, decide_false]
          with_reducible rfl
        apply W.run 20
        · intro M
          simp (disch := first | decide +kernel | omega) only [c20, Try.f20, Option.getD_some, sub_seq1, sub_seq0, sub_nil, exec_cond, ev_tmp, T.get_set, Nat.reduceEqDiff, T.get_e, if_false, if_true, evG_some, exec_seq, exec_region, runOps_cons, opF_assign, ev_int, putT_some, runOps_nil, R.ok_bind, exec_ret, exec_skip]
          with_reducible rfl
        apply W.seq
        apply W.run 20
        · intro M
          simp (disch := first | decide +kernel | omega) only [c20, Try.f20, Option.getD_some, sub_seq1, sub_seq0, sub_nil, exec_region, runOps_cons, opF_assign, ev_int, putT_some, runOps_nil, R.ok_bind]
          with_reducible rfl
        apply W.run 20
        · intro M
          simp (disch := first | decide +kernel | omega) only [c20, Try.f20, Option.getD_some, sub_seq1, sub_nil, exec_ret]
          with_reducible rfl
        rw [ht]
        refine ⟨.inr rfl, B, [.int .i64 ((0 : Nat) : Int)], rfl, ?_, rfl, k0⟩
        simp only [Try.f20, resF, ev_tmp, T.get_set, Nat.reduceEqDiff, if_true, if_false, evG_some, R.ok_bind]
theorem read_any {s : MdlS} {o : OpV} {told : Nat} (hc : s.closed = false) (h : o.kind = 6 ∨ o.kind = 7) : doD s o told = (s, ansD s.d o) := by
  have ha : actK o.kind = some 42 := by unfold actK; rw [if_neg (by omega), if_neg (by omega), if_pos h]
  unfold doD
  rw [if_neg (by rw [hc]; exact fun h => Bool.noConfusion h), ha]
  rfl
theorem near_mem {w : List UInt8} {k : Int} {d : List EntD} {h : HitD} (hh : h ∈ nearL w k d) : h.e ∈ d := by
  unfold nearL at hh
  obtain ⟨e, he, hf⟩ := List.mem_filterMap.1 hh
  unfold nearH at hf
  split at hf
  · injection hf with hf
    rw [← hf]; exact he
  · cases hf
theorem near_nodup {w : List UInt8} {k : Int} : ∀ {d : List EntD}, Asc d → (nearL w k d).Nodup
  | [], _ => List.nodup_nil
  | e :: d, h => by
    have ih := near_nodup (w := w) (k := k) h.2
    unfold nearL
    rw [List.filterMap_cons]
    cases hq : nearH w k e with
    | none => exact ih
    | some x =>
      refine List.nodup_cons.2 ⟨fun hm => ?_, ih⟩
      have he : x.e = e := by
        unfold nearH at hq
        split at hq
        · injection hq with hq
          rw [← hq]
        · cases hq
      have := h.1 _ (near_mem hm)
      rw [he] at this
      exact lt_irr _ this
theorem max0 {ts : List TypeId} {n : Int} : builtinPF tb4 .max ts [.int .i64 ((0 : Nat) : Int), .int .i64 n] = .ok (.int .i64 ((n.toNat : Nat) : Int)) := by
  cases n with
  | ofNat a =>
    have := max_i64 (tb := tb4) (ts := ts) (a := 0) (b := a)
    rw [Nat.zero_max] at this
    exact this
  | negSucc a => cases ts <;> rfl
end Go.Proofs.Ytnelkapmmgggdaa.mdl

/-
  ModelPoison: a round of the loop.
-/
namespace Go.Proofs.Ytnelkapmmgggdaa.mdl
open Go.Am Go.Mdl
open Go.Proofs.Ytnelkapmmgggdaa.rnk (HitD hitC ordD lessB sortH ordK lessK hitC_len sortH_len)
set_option linter.unusedSimpArgs false
set_option linter.unusedVariables false
set_option linter.unusedVariables false

noncomputable def c4 : Code := Try.f4.body.getD .skip
theorem int_sameV (d : Nat) (k : IntKind) (n : Int) : sameV (d + 1) (.int k n) (.int k n) = true := by
  rw [sameV]
  simp only [ieqF_iff]
  cases k <;> simp [kindEq]
theorem selfRep {A : Mem} {e w : Nat} {l : List HitD} {y : Value} (h : HitE A l y) : sameV 100 (.agg ⟨repC e w y⟩) (.agg ⟨repC e w y⟩) = true := by
  show sameV (98 + 2) _ _ = true
  rw [sameV]
  simp [repC, int_sameV, h.self]
theorem rep_load {C : Mem} {p e w : Nat} {y : Value} (v : Vals C 53 p (.var 3) (repC e w y)) : loadF tb4 C.get 53 (.pointer (some ⟨p, 0, none⟩)) = .ok (.agg ⟨repC e w y⟩) := by
  obtain ⟨d53, hd1, hd2⟩ := und53
  exact load_all (tb := tb4) hd1 hd2 (l := repC e w y) size53 v
theorem rep_err {C : Mem} {p e w : Nat} {y : Value} (v : Vals C 53 p (.var 3) (repC e w y)) : loadF tb4 C.get 40 (.pointer (some ⟨p, 0, none⟩)) = .ok (.int .i64 (e : Int)) := load_vals und40' rfl v rfl
end Go.Proofs.Ytnelkapmmgggdaa.mdl

/-
  ModelReads: the words that are ahead.
-/
namespace Go.Proofs.Ytnelkapmmgggdaa.mdl
open Go.Am Go.Mdl
open Go.Proofs.Ytnelkapmmgggdaa.rnk (HitD hitC ordD lessB sortH ordK lessK hitC_len sortH_len)
open Go.Proofs.Ytnelkapmmgggdaa.wth (withinD run_within)
set_option linter.unusedSimpArgs false
set_option linter.unusedVariables false
set_option linter.unusedVariables false

noncomputable def c5 : Code := Try.f5.body.getD .skip
noncomputable def c5b1 : Code := sub c5 [1,1,1,1,0,1,0,0]
theorem c5_eq : Try.f5.body = some (.seq (sub c5 [0]) (.seq (.seq (sub c5 [1,0,0]) (sub c5 [1,0,1])) (.seq (sub c5 [1,1,0]) (.seq (sub c5 [1,1,1,0]) (.seq (.seq (sub c5 [1,1,1,1,0,0]) (.block 0 (.loop c5b1))) (.seq (sub c5 [1,1,1,1,1,0]) (sub c5 [1,1,1,1,1,1]))))))) := by kernel_rfl
noncomputable def c5B : Code := sub c5b1 [1,0,0]
noncomputable def c5K : Code := sub c5B [1,1,1,1,0,1,0]
noncomputable def c5R : Code := sub c5B [1,1,1,1,1]
noncomputable def c5b2 : Code := sub c5R [1,1,0,1,0,0]
noncomputable def c5D : Code := sub c5b2 [1,0,0]
theorem c5b1_eq : c5b1 = .seq (.seq (sub c5b1 [0,0]) (sub c5b1 [0,1])) (.seq (.block 1 c5B) (sub c5b1 [1,1])) := by kernel_rfl
theorem c5B_eq : c5B = .seq (sub c5B [0]) (.seq (sub c5B [1,0]) (.seq (sub c5B [1,1,0]) (.seq (.seq (sub c5B [1,1,1,0,0]) (sub c5B [1,1,1,0,1])) (.seq (.seq (sub c5B [1,1,1,1,0,0]) (.cond (.tmp 73) c5K .skip)) c5R)))) := by kernel_rfl
theorem c5K_eq : c5K = .seq (sub c5K [0]) (.seq (.seq (sub c5K [1,0,0]) (sub c5K [1,0,1])) (.exit 1)) := by kernel_rfl
theorem c5R_eq : c5R = .seq (.seq (sub c5R [0,0]) (sub c5R [0,1])) (.seq (sub c5R [1,0]) (.seq (.seq (sub c5R [1,1,0,0]) (.block 2 (.loop c5b2))) (.seq (sub c5R [1,1,1,0]) (sub c5R [1,1,1,1])))) := by kernel_rfl
theorem c5b2_eq : c5b2 = .seq (.seq (sub c5b2 [0,0]) (sub c5b2 [0,1])) (.seq (.block 3 c5D) (sub c5b2 [1,1])) := by kernel_rfl
theorem c5D_eq : c5D = .seq (sub c5D [0]) (.seq (sub c5D [1,0]) (sub c5D [1,1])) := by kernel_rfl
def rdS (x1 x6 : Value) (q i p pr : Nat) : List (Nat × Value) := [(1, x1), (5, .pointer (some ⟨q, 0, none⟩)), (6, x6), (7, .int .i64 (i : Int)), (8, .pointer (some ⟨p, 0, none⟩)), (9, .pointer (some ⟨pr, 0, none⟩))]
def cntL (hits : List HitD) (w : List UInt8) (k : Int) (d : List EntD) : Nat := (nearL w k d).countP fun h => decide (rankL hits h < hits.length)
theorem cntL_le (hits : List HitD) (w : List UInt8) (k : Int) (d : List EntD) : cntL hits w k d ≤ d.length := Nat.le_trans List.countP_le_length (nearL_len _ _ _)
theorem cntL_succ {hits : List HitD} {w : List UInt8} {k : Int} {d : List EntD} {i : Nat} {e : EntD} (he : d[i]? = some e) : cntL hits w k (d.take (i + 1)) = cntL hits w k (d.take i) + (match nearH w k e with | some h => if rankL hits h < hits.length then 1 else 0 | none => 0) := by
  unfold cntL
  rw [nearL_succ he, List.countP_append]
  cases nearH w k e with
  | none => rfl
  | some h =>
    show _ + List.countP _ [h] = _
    rw [List.countP_singleton]
    by_cases hr : rankL hits h < hits.length <;> simp [hr]
theorem rep_hits {C : Mem} {p e w : Nat} {y : Value} (v : Vals C 53 p (.var 3) (repC e w y)) : loadF tb4 C.get 51 (.pointer (some ⟨p, 2, none⟩)) = .ok y := load_vals und51 rfl v rfl
theorem rep_wt {C : Mem} {p e w : Nat} {y : Value} (v : Vals C 53 p (.var 3) (repC e w y)) : loadF tb4 C.get 24 (.pointer (some ⟨p, 1, none⟩)) = .ok (.int .u32 (w : Int)) := load_vals und24' rfl v rfl
theorem rd_D {C : Mem} {q i p pr j N : Nat} {d : List EntD} {o : OpV} {hits : List HitD} {x1 x6 y : Value} {e : EntD} {t : T Value} {K : Ex → St → Prop} (h6 : EntE C d x6) (hw : ∀ e ∈ d, e.word.length ≤ 900000) (hd : d.length < 1000000) (how : o.word.length ≤ 900000) (vO : VarO C p o) (hpr : pr < C.next) (vR : Vals C 53 pr (.var 3) (repC 0 0 y)) (hy : HitE C hits y) (hh : hits.length < 1000000) (hN : o.n = (N : Int)) (hle : hits.length ≤ N)
    (he : d[j]? = some e) (ht : Sl t (rdS x1 x6 q i p pr ++ [(12, .int .i64 ((cntL hits o.word o.k (d.take j) : Nat) : Int)), (13, .int .i64 (j : Int))]))
    (hK : ∀ t' C', Kp C C' → Sl t' (rdS x1 x6 q i p pr ++ [(12, .int .i64 ((cntL hits o.word o.k (d.take (j + 1)) : Nat) : Int)), (13, .int .i64 (j : Int))]) → K .nrm ⟨t', 181, [], C', none⟩) :
    W tb4 c5D ⟨t, 181, [], C, none⟩ K := by
  obtain ⟨g1, g5, g6, g7, g8, g9, g12, g13, -⟩ := ht
  obtain ⟨b, hb⟩ := h6
  obtain ⟨i1, i2⟩ := EntS.at hb he
  have iw := EntS.word hb he
  have lw := vO.word
  have lk := vO.k
  have hmem : e ∈ d := List.mem_of_getElem? he
  obtain ⟨C1, ⟨gw, hgw⟩, hE1⟩ := run_within o.word e.word o.k how (hw e hmem) C
  have k1 : Kp C C1 := ⟨hE1.1, hE1.2⟩
  have vR1 : Vals C1 53 pr (.var 3) (repC 0 0 y) := vR.same (k1.2 _ hpr)
  have lh1 := rep_hits vR1
  obtain ⟨j1, j2⟩ := EntS.at (EntS.kp hb k1) he
  have hsucc := cntL_succ (hits := hits) (w := o.word) (k := o.k) he
  have hcl := cntL_le hits o.word o.k (d.take j)
  rw [List.length_take] at hcl
  rw [c5D_eq]
  apply W.seq
  by_cases hk : (Go.Dist.dist o.word e.word : Int) ≤ o.k
  · have hN1 : nearH o.word o.k e = some ⟨e, Go.Dist.dist o.word e.word⟩ := by unfold nearH; rw [if_pos hk]
    have hwd : withinD o.word e.word o.k = .tuple ⟨[.int .i64 (Go.Dist.dist o.word e.word : Nat), .bool true]⟩ := by unfold withinD; rw [if_pos hk]
    rw [hwd] at hgw
    obtain ⟨bh, hyb⟩ := hy.kp k1
    obtain ⟨v, C2, ⟨gr, hgr⟩, rfl, k2⟩ := run_rank (h := ⟨e, Go.Dist.dist o.word e.word⟩) hyb hh
    have lh2 := rep_hits (vR1.same (k2.2 _ (by have := k1.1; omega)))
    have ln1 := (vO.kp k1).n
    have ln2 := ((vO.kp k1).kp k2).n
    rw [hN] at ln1 ln2
    have hlen := HitS.lens hyb
    have hmin := min_i64 (tb := tb4) (ts := [3, 3]) (a := hits.length) (b := N)
    rw [Nat.min_eq_left hle] at hmin
    have hs1 := (hy.kp k1).self 99
    have hs2 := selfI ((N : Nat) : Int)
    have hb63 := bld63 (e := e) (n := Go.Dist.dist o.word e.word)
    rw [hN1] at hsucc
    replace hsucc : cntL hits o.word o.k (d.take (j + 1)) = cntL hits o.word o.k (d.take j) + (if rankL hits ⟨e, Go.Dist.dist o.word e.word⟩ < hits.length then 1 else 0) := hsucc
    apply W.runG (gw) 20
    · intro M hM
      simp (disch := first | decide +kernel | omega) only [c5D, c5b2, c5R, c5B, c5b1, c5, Try.f5, Option.getD_some, sub_seq1, sub_seq0, sub_block, sub_loop, sub_nil, exec_draw, runOps_cons, opF_fieldAddr, ev_tmp, g8, evG_some, putT_some, opF_load, T.get_set, if_true, opF_move, Nat.reduceEqDiff, g6, if_false, g13, opF_indexAddr, opF_call, evs, R.ok_bind, resK, opF_extract, extractF, opF_assign, runOps_nil, f38_3, lk, i1, fb0o, iw, f38_1, lw, hgw, List.getElem?_cons_zero, List.getElem?_cons_succ]
      with_reducible rfl
    apply W.seq
    by_cases hr : rankL hits ⟨e, Go.Dist.dist o.word e.word⟩ < hits.length
    · rw [if_pos hr] at hsucc
      apply W.runG (gr) 20
      · intro M hM
        simp (config := { maxSteps := 4000000 }) (disch := first | decide +kernel | (rw [wantF_guard]; simp only [wantD_some, dstAt_zero, dstAt_succ, T.get_set, T.get_e, Nat.reduceEqDiff, if_true, if_false, wantV_bool, wantV_unit, unitV, cond_true, cond_false, Bool.not_true, Bool.not_false, List.toList_toArray]) | omega) only [c5D, c5b2, c5R, c5B, c5b1, c5, Try.f5, Option.getD_some, sub_seq1, sub_seq0, sub_block, sub_loop, sub_nil, exec_float [(12, 10), (15, 10)], runD_P, Nat.reduceAdd, opF_move, ev_tmp, T.get_set, Nat.reduceEqDiff, if_false, if_true, evG_some, putT_some, R.ok_bind, runD_gP, opF_fieldAddr, g9, runD_gRd, rOp_load, selF_nil, rereadM_nil, g6, g13, opF_indexAddr, opF_build, evp, runD_gL, List.map_nil, hide_nil, backF_nil, selR_no, selR_nil, rereadR_nil, cond_true, opF_call, evs, resK, selF_yes, rereadM_cons, reread_load, Bool.and_true, opF_len, g8, opF_minmax, opF_ari, opF_pick, pickF, ev_bool, runD_end, f38_4, ln1, rereadV_eq, f53_2, lh1, j1, j2, hb63, hgr, lh2, ln2, hs2, hs1, hlen, hmin, binF_int, op_lssI, cast_lt, hr, decide_true]
        with_reducible rfl
      apply W.run 20
      · intro M
        simp (disch := first | decide +kernel | omega) only [c5D, c5b2, c5R, c5B, c5b1, c5, Try.f5, Option.getD_some, sub_seq1, sub_seq0, sub_block, sub_loop, sub_nil, exec_cond, ev_tmp, T.get_set, Nat.reduceEqDiff, if_false, if_true, evG_some, exec_region, runOps_cons, opF_move, g12, putT_some, opF_ari, ev_int, opF_assign, runOps_nil, R.ok_bind, binF_int, op_add_i64, exec_skip]
        with_reducible rfl
      refine hK _ C2 (k1.trans k2) ?_
      rw [hsucc]
      simp only [rdS, List.cons_append, List.nil_append]
      simp only [Sl_cons, Sl_nil, T.get_set, T.puts_cons, T.puts_nil, Nat.reduceEqDiff, Nat.reduceAdd, if_true, if_false, and_true, true_and, g1, g5, g6, g7, g8, g9, g13]
    · rw [if_neg hr] at hsucc
      apply W.runG (gr) 20
      · intro M hM
        simp (config := { maxSteps := 4000000 }) (disch := first | decide +kernel | (rw [wantF_guard]; simp only [wantD_some, dstAt_zero, dstAt_succ, T.get_set, T.get_e, Nat.reduceEqDiff, if_true, if_false, wantV_bool, wantV_unit, unitV, cond_true, cond_false, Bool.not_true, Bool.not_false, List.toList_toArray]) | omega) only [c5D, c5b2, c5R, c5B, c5b1, c5, Try.f5, Option.getD_some, sub_seq1, sub_seq0, sub_block, sub_loop, sub_nil, exec_float [(12, 10), (15, 10)], runD_P, Nat.reduceAdd, opF_move, ev_tmp, T.get_set, Nat.reduceEqDiff, if_false, if_true, evG_some, putT_some, R.ok_bind, runD_gP, opF_fieldAddr, g9, runD_gRd, rOp_load, selF_nil, rereadM_nil, g6, g13, opF_indexAddr, opF_build, evp, runD_gL, List.map_nil, hide_nil, backF_nil, selR_no, selR_nil, rereadR_nil, cond_true, opF_call, evs, resK, selF_yes, rereadM_cons, reread_load, Bool.and_true, opF_len, g8, opF_minmax, opF_ari, opF_pick, pickF, ev_bool, runD_end, f38_4, ln1, rereadV_eq, f53_2, lh1, j1, j2, hb63, hgr, lh2, ln2, hs2, hs1, hlen, hmin, binF_int, op_lssI, cast_lt, hr, decide_false]
        with_reducible rfl
      apply W.run 20
      · intro M
        simp (disch := first | decide +kernel | omega) only [c5D, c5b2, c5R, c5B, c5b1, c5, Try.f5, Option.getD_some, sub_seq1, sub_seq0, sub_block, sub_loop, sub_nil, exec_cond, ev_tmp, T.get_set, Nat.reduceEqDiff, if_false, if_true, evG_some, exec_region, runOps_cons, opF_move, putT_some, opF_ari, ev_int, opF_assign, runOps_nil, R.ok_bind, exec_skip]
        with_reducible rfl
      refine hK _ C2 (k1.trans k2) ?_
      rw [hsucc, Nat.add_zero]
      simp only [rdS, List.cons_append, List.nil_append]
      simp only [Sl_cons, Sl_nil, T.get_set, T.puts_cons, T.puts_nil, Nat.reduceEqDiff, Nat.reduceAdd, if_true, if_false, and_true, true_and, g1, g5, g6, g7, g8, g9, g12, g13]
  · have hN1 : nearH o.word o.k e = none := by unfold nearH; rw [if_neg hk]
    have hwd : withinD o.word e.word o.k = .tuple ⟨[.int .i64 ((0 : Nat) : Int), .bool false]⟩ := by unfold withinD; rw [if_neg hk]
    rw [hwd] at hgw
    rw [hN1] at hsucc
    apply W.runG (gw) 20
    · intro M hM
      simp (disch := first | decide +kernel | omega) only [c5D, c5b2, c5R, c5B, c5b1, c5, Try.f5, Option.getD_some, sub_seq1, sub_seq0, sub_block, sub_loop, sub_nil, exec_draw, runOps_cons, opF_fieldAddr, ev_tmp, g8, evG_some, putT_some, opF_load, T.get_set, if_true, opF_move, Nat.reduceEqDiff, g6, if_false, g13, opF_indexAddr, opF_call, evs, R.ok_bind, resK, opF_extract, extractF, opF_assign, runOps_nil, f38_3, lk, i1, fb0o, iw, f38_1, lw, hgw, List.getElem?_cons_zero, List.getElem?_cons_succ]
      with_reducible rfl
    apply W.seq
    apply W.run 20
    · intro M
      simp (config := { maxSteps := 4000000 }) (disch := first | decide +kernel | (rw [wantF_guard]; simp only [wantD_some, dstAt_zero, dstAt_succ, T.get_set, T.get_e, Nat.reduceEqDiff, if_true, if_false, wantV_bool, wantV_unit, unitV, cond_true, cond_false, Bool.not_true, Bool.not_false, List.toList_toArray]) | omega) only [c5D, c5b2, c5R, c5B, c5b1, c5, Try.f5, Option.getD_some, sub_seq1, sub_seq0, sub_block, sub_loop, sub_nil, exec_float [(12, 10), (15, 10)], runD_P, Nat.reduceAdd, opF_move, ev_tmp, T.get_set, Nat.reduceEqDiff, if_false, if_true, evG_some, putT_some, R.ok_bind, runD_gno, opF_pick, pickF, ev_bool, runD_end]
      with_reducible rfl
    apply W.run 20
    · intro M
      simp (disch := first | decide +kernel | omega) only [c5D, c5b2, c5R, c5B, c5b1, c5, Try.f5, Option.getD_some, sub_seq1, sub_seq0, sub_block, sub_loop, sub_nil, exec_cond, ev_tmp, T.get_set, Nat.reduceEqDiff, if_false, if_true, evG_some, exec_region, runOps_cons, opF_move, putT_some, opF_ari, ev_int, opF_assign, runOps_nil, R.ok_bind, exec_skip]
      with_reducible rfl
    refine hK _ C1 k1 ?_
    rw [hsucc]
    simp only [rdS, List.cons_append, List.nil_append, Nat.add_zero]
    simp only [Sl_cons, Sl_nil, T.get_set, T.puts_cons, T.puts_nil, Nat.reduceEqDiff, Nat.reduceAdd, if_true, if_false, and_true, true_and, g1, g5, g6, g7, g8, g9, g12, g13]
theorem rd_loop {C : Mem} {q i p pr N : Nat} {d : List EntD} {o : OpV} {hits : List HitD} {x1 x6 y : Value} {t : T Value} {K : Ex → St → Prop} (h6 : EntE C d x6) (hw : ∀ e ∈ d, e.word.length ≤ 900000) (hd : d.length < 1000000) (how : o.word.length ≤ 900000) (vO : VarO C p o) (hpr : pr < C.next) (vR : Vals C 53 pr (.var 3) (repC 0 0 y)) (hy : HitE C hits y) (hh : hits.length < 1000000) (hN : o.n = (N : Int)) (hle : hits.length ≤ N) (hcnt : cntL hits o.word o.k d = hits.length)
    (ht : Sl t (rdS x1 x6 q i p pr))
    (hK : ∀ t' C', Kp C C' → Sl t' (rdS x1 x6 q i p pr) → K .nrm ⟨t', 181, [], C', none⟩) :
    W tb4 (.seq (sub c5R [1,0]) (.seq (.seq (sub c5R [1,1,0,0]) (.block 2 (.loop c5b2))) (.seq (sub c5R [1,1,1,0]) (sub c5R [1,1,1,1])))) ⟨t, 181, [], C, none⟩ K := by
  obtain ⟨g1, g5, g6, g7, g8, g9, -⟩ := ht
  obtain ⟨b6, hb6⟩ := h6
  have hl6 := EntS.lens hb6
  apply W.seq
  apply W.run 20
  · intro M
    simp (disch := first | decide +kernel | omega) only [c5R, c5B, c5b1, c5, Try.f5, Option.getD_some, sub_seq1, sub_seq0, sub_block, sub_loop, sub_nil, exec_region, runOps_cons, opF_assign, ev_int, putT_some, runOps_nil, R.ok_bind]
    with_reducible rfl
  apply W.seq
  apply W.seq
  apply W.run 20
  · intro M
    simp (disch := first | decide +kernel | omega) only [c5R, c5B, c5b1, c5, Try.f5, Option.getD_some, sub_seq1, sub_seq0, sub_block, sub_loop, sub_nil, exec_region, runOps_cons, opF_assign, ev_int, putT_some, runOps_nil, R.ok_bind]
    with_reducible rfl
  apply W.block
  refine W.up d.length (fun j t D => Kp C D ∧ Sl t (rdS x1 x6 q i p pr ++ [(12, .int .i64 ((cntL hits o.word o.k (d.take j) : Nat) : Int)), (13, .int .i64 (j : Int))])) ?_ (Nat.zero_le _) ⟨Kp.refl _, ?_⟩
  · rintro j t D hj ⟨kD, st⟩
    have kn := kD.1
    have st' := st
    obtain ⟨g1, g5, g6, g7, g8, g9, g12, g13, -⟩ := st
    have vRD : Vals D 53 pr (.var 3) (repC 0 0 y) := vR.same (kD.2 _ hpr)
    have le := rep_err vRD
    rw [c5b2_eq]
    apply W.seq
    apply W.seq
    by_cases hlt : j < d.length
    · have he : d[j]? = some d[j] := List.getElem?_eq_getElem hlt
      apply W.run 20
      · intro M
        simp (config := { maxSteps := 4000000 }) (disch := first | decide +kernel | (rw [wantF_guard]; simp only [wantD_some, dstAt_zero, dstAt_succ, T.get_set, T.get_e, Nat.reduceEqDiff, if_true, if_false, wantV_bool, wantV_unit, unitV, cond_true, cond_false, Bool.not_true, Bool.not_false, List.toList_toArray]) | omega) only [c5b2, c5R, c5B, c5b1, c5, Try.f5, Option.getD_some, sub_seq1, sub_seq0, sub_block, sub_loop, sub_nil, exec_region, runOps_cons, opF_move, ev_tmp, g13, evG_some, putT_some, T.get_set, Nat.reduceEqDiff, g6, if_false, opF_len, evs, if_true, R.ok_bind, opF_ari, hl6, binF_int, op_lssI, cast_lt, hlt, decide_true, runOps_yes, opF_fieldAddr, g9, opF_load, opF_eql, ev_int, opF_pick, pickF, ev_bool, runOps_nil, f53_0, le, op_eql]
        with_reducible rfl
      apply W.run 20
      · intro M
        simp (disch := first | decide +kernel | omega) only [c5b2, c5R, c5B, c5b1, c5, Try.f5, Option.getD_some, sub_seq1, sub_seq0, sub_block, sub_loop, sub_nil, exec_cond, ev_tmp, T.get_set, Nat.reduceEqDiff, if_false, if_true, evG_some, exec_skip, exec_exit, R.ok_bind]
        with_reducible rfl
      apply W.seq
      apply W.block
      refine rd_D (x1 := x1) (q := q) (i := i) (hits := hits) (N := N) ⟨b6, EntS.kp hb6 kD⟩ hw hd how (vO.kp kD) (by omega) vRD (hy.kp kD) hh hN hle he ?_ fun t' D' kD' st' => ?_
      · simp only [rdS, List.cons_append, List.nil_append]
        simp only [Sl_cons, Sl_nil, T.get_set, T.puts_cons, T.puts_nil, Nat.reduceEqDiff, Nat.reduceAdd, if_true, if_false, and_true, true_and, g1, g5, g6, g7, g8, g9, g12, g13]
      · obtain ⟨f1, f5, f6, f7, f8, f9, f12, f13, -⟩ := st'
        apply W.run 20
        · intro M
          simp (disch := first | decide +kernel | omega) only [c5b2, c5R, c5B, c5b1, c5, Try.f5, Option.getD_some, sub_seq1, sub_seq0, sub_block, sub_loop, sub_nil, exec_region, runOps_cons, opF_move, ev_tmp, f13, evG_some, putT_some, opF_ari, T.get_set, if_true, ev_int, opF_assign, Nat.reduceEqDiff, if_false, runOps_nil, R.ok_bind, binF_int, op_add_i64]
          with_reducible rfl
        refine ⟨hlt, _, _, rfl, kD.trans kD', ?_⟩
        simp only [rdS, List.cons_append, List.nil_append]
        simp only [Sl_cons, Sl_nil, T.get_set, T.puts_cons, T.puts_nil, Nat.reduceEqDiff, Nat.reduceAdd, if_true, if_false, and_true, true_and, f1, f5, f6, f7, f8, f9, f12]
    · have hin : j = d.length := by omega
      subst hin
      rw [List.take_length, hcnt] at g12
      have lh := rep_hits vRD
      obtain ⟨bh, hyb⟩ := hy.kp kD
      have hlen := HitS.lens hyb
      apply W.run 20
      · intro M
        simp (config := { maxSteps := 4000000 }) (disch := first | decide +kernel | (rw [wantF_guard]; simp only [wantD_some, dstAt_zero, dstAt_succ, T.get_set, T.get_e, Nat.reduceEqDiff, if_true, if_false, wantV_bool, wantV_unit, unitV, cond_true, cond_false, Bool.not_true, Bool.not_false, List.toList_toArray]) | omega) only [c5b2, c5R, c5B, c5b1, c5, Try.f5, Option.getD_some, sub_seq1, sub_seq0, sub_block, sub_loop, sub_nil, exec_region, runOps_cons, opF_move, ev_tmp, g13, evG_some, putT_some, T.get_set, Nat.reduceEqDiff, g6, if_false, opF_len, evs, if_true, R.ok_bind, opF_ari, hl6, binF_int, op_lssI, cast_lt, Nat.lt_irrefl, decide_false, runOps_no, opF_pick, pickF, ev_bool, runOps_nil]
        with_reducible rfl
      apply W.run 20
      · intro M
        simp (disch := first | decide +kernel | omega) only [c5b2, c5R, c5B, c5b1, c5, Try.f5, Option.getD_some, sub_seq1, sub_seq0, sub_block, sub_loop, sub_nil, exec_cond, ev_tmp, T.get_set, Nat.reduceEqDiff, if_false, if_true, evG_some, exec_skip, exec_exit, R.ok_bind]
        with_reducible rfl
      apply W.seq
      apply W.run 20
      · intro M
        simp (disch := first | decide +kernel | omega) only [c5R, c5B, c5b1, c5, Try.f5, Option.getD_some, sub_seq1, sub_seq0, sub_block, sub_loop, sub_nil, exec_region, runOps_cons, opF_move, ev_tmp, T.get_set, Nat.reduceEqDiff, g12, if_false, evG_some, putT_some, opF_fieldAddr, g9, opF_load, if_true, opF_len, evs, R.ok_bind, opF_neq, runOps_nil, f53_2, lh, hlen, binF_int, op_neq, ne_eq, not_true_eq_false, decide_false]
        with_reducible rfl
      apply W.run 20
      · intro M
        simp (disch := first | decide +kernel | omega) only [c5R, c5B, c5b1, c5, Try.f5, Option.getD_some, sub_seq1, sub_seq0, sub_block, sub_loop, sub_nil, exec_cond, ev_tmp, T.get_set, Nat.reduceEqDiff, if_false, if_true, evG_some, exec_seq, exec_region, runOps_cons, opF_assign, ev_bool, putT_some, runOps_nil, R.ok_bind, exec_ret, exec_skip]
        with_reducible rfl
      refine hK _ D kD ?_
      unfold rdS
      simp only [Sl_cons, Sl_nil, T.get_set, T.puts_cons, T.puts_nil, Nat.reduceEqDiff, Nat.reduceAdd, if_true, if_false, and_true, true_and, g1, g5, g6, g7, g8, g9]
  · simp only [rdS, List.cons_append, List.nil_append]
    simp only [Sl_cons, Sl_nil, T.get_set, T.puts_cons, T.puts_nil, Nat.reduceEqDiff, Nat.reduceAdd, if_true, if_false, and_true, true_and, g1, g5, g6, g7, g8, g9]
    rfl
theorem rd_loop0 {C : Mem} {q i p pr e : Nat} {d : List EntD} {x1 x6 y : Value} {t : T Value} {K : Ex → St → Prop} (h6 : EntE C d x6) (vR : Vals C 53 pr (.var 3) (repC e 0 y)) (hy : HitE C [] y) (he : e ≠ 0) 
    (ht : Sl t (rdS x1 x6 q i p pr))
    (hK : ∀ t' C', Kp C C' → Sl t' (rdS x1 x6 q i p pr) → K .nrm ⟨t', 181, [], C', none⟩) :
    W tb4 (.seq (sub c5R [1,0]) (.seq (.seq (sub c5R [1,1,0,0]) (.block 2 (.loop c5b2))) (.seq (sub c5R [1,1,1,0]) (sub c5R [1,1,1,1])))) ⟨t, 181, [], C, none⟩ K := by
  obtain ⟨g1, g5, g6, g7, g8, g9, -⟩ := ht
  obtain ⟨b6, hb6⟩ := h6
  have hl6 := EntS.lens hb6
  have le := rep_err vR
  have lh := rep_hits vR
  obtain ⟨bh, hyb⟩ := hy
  have hlen := HitS.lens hyb
  rw [List.length_nil] at hlen
  apply W.seq
  apply W.run 20
  · intro M
    simp (disch := first | decide +kernel | omega) only [c5R, c5B, c5b1, c5, Try.f5, Option.getD_some, sub_seq1, sub_seq0, sub_block, sub_loop, sub_nil, exec_region, runOps_cons, opF_assign, ev_int, putT_some, runOps_nil, R.ok_bind]
    with_reducible rfl
  apply W.seq
  apply W.seq
  apply W.run 20
  · intro M
    simp (disch := first | decide +kernel | omega) only [c5R, c5B, c5b1, c5, Try.f5, Option.getD_some, sub_seq1, sub_seq0, sub_block, sub_loop, sub_nil, exec_region, runOps_cons, opF_assign, ev_int, putT_some, runOps_nil, R.ok_bind]
    with_reducible rfl
  apply W.block
  refine W.up 1 (fun j t D => j = 0 ∧ D = C ∧ Sl t (rdS x1 x6 q i p pr ++ [(12, .int .i64 ((0 : Nat) : Int)), (13, .int .i64 ((0 : Nat) : Int))])) ?_ (Nat.zero_le _) ⟨rfl, rfl, ?_⟩
  · rintro j t D hj ⟨rfl, rfl, st⟩
    obtain ⟨g1, g5, g6, g7, g8, g9, g12, g13, -⟩ := st
    rw [c5b2_eq]
    apply W.seq
    apply W.seq
    have out : ∀ t, Sl t (rdS x1 x6 q i p pr ++ [(12, .int .i64 ((0 : Nat) : Int))]) → W tb4 (.seq (sub c5R [1,1,1,0]) (sub c5R [1,1,1,1])) ⟨t, 181, [], D, none⟩ K := by
      rintro t ⟨g1, g5, g6, g7, g8, g9, g12, -⟩
      apply W.seq
      apply W.run 20
      · intro M
        simp (disch := first | decide +kernel | omega) only [c5R, c5B, c5b1, c5, Try.f5, Option.getD_some, sub_seq1, sub_seq0, sub_block, sub_loop, sub_nil, exec_region, runOps_cons, opF_move, ev_tmp, g12, evG_some, putT_some, opF_fieldAddr, T.get_set, Nat.reduceEqDiff, g9, if_false, opF_load, if_true, opF_len, evs, R.ok_bind, opF_neq, runOps_nil, f53_2, lh, hlen, binF_int, op_neq, ne_eq, not_true_eq_false, decide_false]
        with_reducible rfl
      apply W.run 20
      · intro M
        simp (disch := first | decide +kernel | omega) only [c5R, c5B, c5b1, c5, Try.f5, Option.getD_some, sub_seq1, sub_seq0, sub_block, sub_loop, sub_nil, exec_cond, ev_tmp, T.get_set, Nat.reduceEqDiff, if_false, if_true, evG_some, exec_seq, exec_region, runOps_cons, opF_assign, ev_bool, putT_some, runOps_nil, R.ok_bind, exec_ret, exec_skip]
        with_reducible rfl
      refine hK _ D (Kp.refl _) ?_
      unfold rdS
      simp only [Sl_cons, Sl_nil, T.get_set, T.puts_cons, T.puts_nil, Nat.reduceEqDiff, Nat.reduceAdd, if_true, if_false, and_true, true_and, g1, g5, g6, g7, g8, g9]
    by_cases hlt : 0 < d.length
    · apply W.run 20
      · intro M
        simp (config := { maxSteps := 4000000 }) (disch := first | decide +kernel | (rw [wantF_guard]; simp only [wantD_some, dstAt_zero, dstAt_succ, T.get_set, T.get_e, Nat.reduceEqDiff, if_true, if_false, wantV_bool, wantV_unit, unitV, cond_true, cond_false, Bool.not_true, Bool.not_false, List.toList_toArray]) | omega) only [c5b2, c5R, c5B, c5b1, c5, Try.f5, Option.getD_some, sub_seq1, sub_seq0, sub_block, sub_loop, sub_nil, exec_region, runOps_cons, opF_move, ev_tmp, g13, evG_some, putT_some, T.get_set, Nat.reduceEqDiff, g6, if_false, opF_len, evs, if_true, R.ok_bind, opF_ari, hl6, binF_int, op_lssI, cast_lt, hlt, decide_true, runOps_yes, opF_fieldAddr, g9, opF_load, opF_eql, ev_int, opF_pick, pickF, ev_bool, runOps_nil, f53_0, le, op_eql, he, decide_false]
        with_reducible rfl
      apply W.run 20
      · intro M
        simp (disch := first | decide +kernel | omega) only [c5b2, c5R, c5B, c5b1, c5, Try.f5, Option.getD_some, sub_seq1, sub_seq0, sub_block, sub_loop, sub_nil, exec_cond, ev_tmp, T.get_set, Nat.reduceEqDiff, if_false, if_true, evG_some, exec_skip, exec_exit, R.ok_bind]
        with_reducible rfl
      refine out _ ?_
      simp only [rdS, List.cons_append, List.nil_append]
      simp only [Sl_cons, Sl_nil, T.get_set, T.puts_cons, T.puts_nil, Nat.reduceEqDiff, Nat.reduceAdd, if_true, if_false, and_true, true_and, g1, g5, g6, g7, g8, g9, g12]
    · have hin : d.length = 0 := by omega
      rw [hin] at hl6
      apply W.run 20
      · intro M
        simp (config := { maxSteps := 4000000 }) (disch := first | decide +kernel | (rw [wantF_guard]; simp only [wantD_some, dstAt_zero, dstAt_succ, T.get_set, T.get_e, Nat.reduceEqDiff, if_true, if_false, wantV_bool, wantV_unit, unitV, cond_true, cond_false, Bool.not_true, Bool.not_false, List.toList_toArray]) | omega) only [c5b2, c5R, c5B, c5b1, c5, Try.f5, Option.getD_some, sub_seq1, sub_seq0, sub_block, sub_loop, sub_nil, exec_region, runOps_cons, opF_move, ev_tmp, g13, evG_some, putT_some, T.get_set, Nat.reduceEqDiff, g6, if_false, opF_len, evs, if_true, R.ok_bind, opF_ari, hl6, binF_int, op_lssI, cast_lt, Nat.lt_irrefl, decide_false, runOps_no, opF_pick, pickF, ev_bool, runOps_nil]
        with_reducible rfl
      apply W.run 20
      · intro M
        simp (disch := first | decide +kernel | omega) only [c5b2, c5R, c5B, c5b1, c5, Try.f5, Option.getD_some, sub_seq1, sub_seq0, sub_block, sub_loop, sub_nil, exec_cond, ev_tmp, T.get_set, Nat.reduceEqDiff, if_false, if_true, evG_some, exec_skip, exec_exit, R.ok_bind]
        with_reducible rfl
      refine out _ ?_
      simp only [rdS, List.cons_append, List.nil_append]
      simp only [Sl_cons, Sl_nil, T.get_set, T.puts_cons, T.puts_nil, Nat.reduceEqDiff, Nat.reduceAdd, if_true, if_false, and_true, true_and, g1, g5, g6, g7, g8, g9, g12]
  · simp only [rdS, List.cons_append, List.nil_append]
    simp only [Sl_cons, Sl_nil, T.get_set, T.puts_cons, T.puts_nil, Nat.reduceEqDiff, Nat.reduceAdd, if_true, if_false, and_true, true_and, g1, g5, g6, g7, g8, g9]
end Go.Proofs.Ytnelkapmmgggdaa.mdl

/-
  ModelReads: a Suggest, a Lookup.
-/
namespace Go.Proofs.Ytnelkapmmgggdaa.mdl
open Go.Am Go.Mdl
open Go.Proofs.Ytnelkapmmgggdaa.rnk (HitD hitC ordD lessB sortH ordK lessK hitC_len sortH_len)
set_option linter.unusedSimpArgs false
set_option linter.unusedVariables false
set_option linter.unusedVariables false

theorem find_some {w : List UInt8} {l : List EntD} {e : EntD} (h : find w l = some e) : e ∈ l ∧ e.word = w := by
  unfold find at h
  exact ⟨List.mem_of_find?_eq_some h, by simpa using List.find?_some h⟩
theorem rd_R {C : Mem} {q i p pr : Nat} {d : List EntD} {o : OpV} {x1 x6 y : Value} {t : T Value} {K : Ex → St → Prop} (h6 : EntE C d x6) (ha : Asc d) (hw : ∀ e ∈ d, e.word.length ≤ 900000) (hd : d.length < 50000) (vO : VarO C p o) (hpr : pr < C.next) (hk7 : o.kind = 7) (vR : Vals C 53 pr (.var 3) (repC (ansD d o).err (ansD d o).weight y)) (hy : HitE C (ansD d o).hits y)
    (ht : Sl t (rdS x1 x6 q i p pr)) (hK : ∀ t' C', Kp C C' → Sl t' (rdS x1 x6 q i p pr) → K .nrm ⟨t', 181, [], C', none⟩) :
    W tb4 c5R ⟨t, 181, [], C, none⟩ K := by
  have st := ht
  obtain ⟨g1, g5, g6, g7, g8, g9, -⟩ := ht
  have lw := vO.word
  have lk := vO.k
  have ln := vO.n
  have hlen := len_str (tb := tb4) und9' (l := o.word)
  have hmx := max0 (ts := [3, 3]) (n := o.n)
  rw [c5R_eq]
  apply W.seq
  apply W.seq
  by_cases hb : badS o
  · have hr : ansD d o = ⟨7, 0, []⟩ := by unfold ansD; rw [if_neg (by omega), if_pos hk7, if_pos hb]
    rw [hr] at vR hy
    have le := rep_err vR
    have lh := rep_hits vR
    obtain ⟨bh, hyb⟩ := hy
    have hl0 := HitS.lens hyb
    rw [List.length_nil] at hl0
    have fin : ∀ t, Sl t (rdS x1 x6 q i p pr) → W tb4 (.seq (sub c5R [1,0]) (.seq (.seq (sub c5R [1,1,0,0]) (.block 2 (.loop c5b2))) (.seq (sub c5R [1,1,1,0]) (sub c5R [1,1,1,1])))) ⟨t, 181, [], C, none⟩ K := fun t st => rd_loop0 h6 vR ⟨bh, hyb⟩ (by decide) st hK
    by_cases h1 : o.word.length ≤ 255
    · by_cases h2 : ((0 : Nat) : Int) ≤ o.k
      · by_cases h3 : o.k ≤ ((3 : Nat) : Int)
        · have h4 : ¬ ((0 : Nat) : Int) ≤ o.n := by
            rcases hb with hb | hb | hb | hb <;> omega
          apply W.run 20
          · intro M
            simp (config := { maxSteps := 4000000 }) (disch := first | decide +kernel | (rw [wantF_guard]; simp only [wantD_some, dstAt_zero, dstAt_succ, T.get_set, T.get_e, Nat.reduceEqDiff, if_true, if_false, wantV_bool, wantV_unit, unitV, cond_true, cond_false, Bool.not_true, Bool.not_false, List.toList_toArray]) | omega) only [c5R, c5B, c5b1, c5, Try.f5, Option.getD_some, sub_seq1, sub_seq0, sub_block, sub_loop, sub_nil, exec_region, runOps_cons, opF_fieldAddr, ev_tmp, g9, evG_some, putT_some, opF_load, T.get_set, if_true, opF_eql, Nat.reduceEqDiff, if_false, ev_int, g8, opF_len, evs, R.ok_bind, opF_ari, opF_move, f38_1, lw, hlen, binF_int, op_leq, cast_le, h1, decide_true, runOps_yes, opF_pick, pickF, ev_bool, f38_3, lk, op_geq, h2, h3, opF_neq, und4', f38_4, ln, h4, decide_false, f53_0, le, op_eql, bool_neq, bne_self_eq_false, opF_minmax, runOps_nil, hmx, f53_2, lh, hl0, op_gtr, cast_lt, Nat.not_lt_zero]
            with_reducible rfl
          apply W.run 20
          · intro M
            simp (disch := first | decide +kernel | omega) only [c5R, c5B, c5b1, c5, Try.f5, Option.getD_some, sub_seq1, sub_seq0, sub_block, sub_loop, sub_nil, exec_cond, ev_tmp, T.get_set, Nat.reduceEqDiff, if_false, if_true, evG_some, exec_seq, exec_region, runOps_cons, opF_assign, ev_bool, putT_some, runOps_nil, R.ok_bind, exec_ret, exec_skip]
            with_reducible rfl
          refine fin _ ?_
          unfold rdS
          simp only [Sl_cons, Sl_nil, T.get_set, T.puts_cons, T.puts_nil, Nat.reduceEqDiff, Nat.reduceAdd, if_true, if_false, and_true, true_and, g1, g5, g6, g7, g8, g9]
        · apply W.run 20
          · intro M
            simp (config := { maxSteps := 4000000 }) (disch := first | decide +kernel | (rw [wantF_guard]; simp only [wantD_some, dstAt_zero, dstAt_succ, T.get_set, T.get_e, Nat.reduceEqDiff, if_true, if_false, wantV_bool, wantV_unit, unitV, cond_true, cond_false, Bool.not_true, Bool.not_false, List.toList_toArray]) | omega) only [c5R, c5B, c5b1, c5, Try.f5, Option.getD_some, sub_seq1, sub_seq0, sub_block, sub_loop, sub_nil, exec_region, runOps_cons, opF_fieldAddr, ev_tmp, g9, evG_some, putT_some, opF_load, T.get_set, if_true, opF_eql, Nat.reduceEqDiff, if_false, ev_int, g8, opF_len, evs, R.ok_bind, opF_ari, opF_move, f38_1, lw, hlen, binF_int, op_leq, cast_le, h1, decide_true, runOps_yes, opF_pick, pickF, ev_bool, f38_3, lk, op_geq, h2, h3, decide_false, runOps_no, opF_neq, und4', f53_0, le, op_eql, bool_neq, bne_self_eq_false, opF_minmax, runOps_nil, f38_4, ln, hmx, f53_2, lh, hl0, op_gtr, cast_lt, Nat.not_lt_zero]
            with_reducible rfl
          apply W.run 20
          · intro M
            simp (disch := first | decide +kernel | omega) only [c5R, c5B, c5b1, c5, Try.f5, Option.getD_some, sub_seq1, sub_seq0, sub_block, sub_loop, sub_nil, exec_cond, ev_tmp, T.get_set, Nat.reduceEqDiff, if_false, if_true, evG_some, exec_seq, exec_region, runOps_cons, opF_assign, ev_bool, putT_some, runOps_nil, R.ok_bind, exec_ret, exec_skip]
            with_reducible rfl
          refine fin _ ?_
          unfold rdS
          simp only [Sl_cons, Sl_nil, T.get_set, T.puts_cons, T.puts_nil, Nat.reduceEqDiff, Nat.reduceAdd, if_true, if_false, and_true, true_and, g1, g5, g6, g7, g8, g9]
      · apply W.run 20
        · intro M
          simp (config := { maxSteps := 4000000 }) (disch := first | decide +kernel | (rw [wantF_guard]; simp only [wantD_some, dstAt_zero, dstAt_succ, T.get_set, T.get_e, Nat.reduceEqDiff, if_true, if_false, wantV_bool, wantV_unit, unitV, cond_true, cond_false, Bool.not_true, Bool.not_false, List.toList_toArray]) | omega) only [c5R, c5B, c5b1, c5, Try.f5, Option.getD_some, sub_seq1, sub_seq0, sub_block, sub_loop, sub_nil, exec_region, runOps_cons, opF_fieldAddr, ev_tmp, g9, evG_some, putT_some, opF_load, T.get_set, if_true, opF_eql, Nat.reduceEqDiff, if_false, ev_int, g8, opF_len, evs, R.ok_bind, opF_ari, opF_move, f38_1, lw, hlen, binF_int, op_leq, cast_le, h1, decide_true, runOps_yes, opF_pick, pickF, ev_bool, f38_3, lk, op_geq, h2, decide_false, runOps_no, opF_neq, und4', f53_0, le, op_eql, bool_neq, bne_self_eq_false, opF_minmax, runOps_nil, f38_4, ln, hmx, f53_2, lh, hl0, op_gtr, cast_lt, Nat.not_lt_zero]
          with_reducible rfl
        apply W.run 20
        · intro M
          simp (disch := first | decide +kernel | omega) only [c5R, c5B, c5b1, c5, Try.f5, Option.getD_some, sub_seq1, sub_seq0, sub_block, sub_loop, sub_nil, exec_cond, ev_tmp, T.get_set, Nat.reduceEqDiff, if_false, if_true, evG_some, exec_seq, exec_region, runOps_cons, opF_assign, ev_bool, putT_some, runOps_nil, R.ok_bind, exec_ret, exec_skip]
          with_reducible rfl
        refine fin _ ?_
        unfold rdS
        simp only [Sl_cons, Sl_nil, T.get_set, T.puts_cons, T.puts_nil, Nat.reduceEqDiff, Nat.reduceAdd, if_true, if_false, and_true, true_and, g1, g5, g6, g7, g8, g9]
    · apply W.run 20
      · intro M
        simp (config := { maxSteps := 4000000 }) (disch := first | decide +kernel | (rw [wantF_guard]; simp only [wantD_some, dstAt_zero, dstAt_succ, T.get_set, T.get_e, Nat.reduceEqDiff, if_true, if_false, wantV_bool, wantV_unit, unitV, cond_true, cond_false, Bool.not_true, Bool.not_false, List.toList_toArray]) | omega) only [c5R, c5B, c5b1, c5, Try.f5, Option.getD_some, sub_seq1, sub_seq0, sub_block, sub_loop, sub_nil, exec_region, runOps_cons, opF_fieldAddr, ev_tmp, g9, evG_some, putT_some, opF_load, T.get_set, if_true, opF_eql, Nat.reduceEqDiff, if_false, ev_int, g8, opF_len, evs, R.ok_bind, opF_ari, opF_move, f38_1, lw, hlen, binF_int, op_leq, cast_le, h1, decide_false, runOps_no, opF_pick, pickF, ev_bool, opF_neq, und4', f53_0, le, op_eql, bool_neq, bne_self_eq_false, runOps_yes, opF_minmax, runOps_nil, f38_4, ln, hmx, f53_2, lh, hl0, op_gtr, cast_lt, Nat.not_lt_zero]
        with_reducible rfl
      apply W.run 20
      · intro M
        simp (disch := first | decide +kernel | omega) only [c5R, c5B, c5b1, c5, Try.f5, Option.getD_some, sub_seq1, sub_seq0, sub_block, sub_loop, sub_nil, exec_cond, ev_tmp, T.get_set, Nat.reduceEqDiff, if_false, if_true, evG_some, exec_seq, exec_region, runOps_cons, opF_assign, ev_bool, putT_some, runOps_nil, R.ok_bind, exec_ret, exec_skip]
        with_reducible rfl
      refine fin _ ?_
      unfold rdS
      simp only [Sl_cons, Sl_nil, T.get_set, T.puts_cons, T.puts_nil, Nat.reduceEqDiff, Nat.reduceAdd, if_true, if_false, and_true, true_and, g1, g5, g6, g7, g8, g9]
  · have hr : ansD d o = ⟨0, 0, topL o.n (nearL o.word o.k d)⟩ := by unfold ansD; rw [if_neg (by omega), if_pos hk7, if_neg hb]
    rw [hr] at vR hy
    have le := rep_err vR
    have lh := rep_hits vR
    have h1 : o.word.length ≤ 255 := by
      refine Classical.byContradiction fun h => hb (.inl (by omega))
    have h2 : ((0 : Nat) : Int) ≤ o.k := by
      refine Classical.byContradiction fun h => hb (.inr (.inl (by omega)))
    have h3 : o.k ≤ ((3 : Nat) : Int) := by
      refine Classical.byContradiction fun h => hb (.inr (.inr (.inl (by omega))))
    have h4 : ((0 : Nat) : Int) ≤ o.n := by
      refine Classical.byContradiction fun h => hb (.inr (.inr (.inr (by omega))))
    obtain ⟨rest, -, b2, -, -⟩ := top_best (l := nearL o.word o.k d) (n := o.n) h4
    have hcnt : cntL (topL o.n (nearL o.word o.k d)) o.word o.k d = (topL o.n (nearL o.word o.k d)).length := rank_count h4 (near_nodup ha)
    have htl := Nat.le_trans (topL_len o.n (nearL o.word o.k d)) (nearL_len o.word o.k d)
    have hng : ¬ o.n.toNat < (topL o.n (nearL o.word o.k d)).length := by omega
    have hN : o.n = ((o.n.toNat : Nat) : Int) := by omega
    generalize topL o.n (nearL o.word o.k d) = hits at hy hcnt htl hng b2
    have hy' := hy
    obtain ⟨bh, hyb⟩ := hy'
    have hl0 := HitS.lens hyb
    apply W.run 20
    · intro M
      simp (config := { maxSteps := 4000000 }) (disch := first | decide +kernel | (rw [wantF_guard]; simp only [wantD_some, dstAt_zero, dstAt_succ, T.get_set, T.get_e, Nat.reduceEqDiff, if_true, if_false, wantV_bool, wantV_unit, unitV, cond_true, cond_false, Bool.not_true, Bool.not_false, List.toList_toArray]) | omega) only [c5R, c5B, c5b1, c5, Try.f5, Option.getD_some, sub_seq1, sub_seq0, sub_block, sub_loop, sub_nil, exec_region, runOps_cons, opF_fieldAddr, ev_tmp, g9, evG_some, putT_some, opF_load, T.get_set, if_true, opF_eql, Nat.reduceEqDiff, if_false, ev_int, g8, opF_len, evs, R.ok_bind, opF_ari, opF_move, f38_1, lw, hlen, binF_int, op_leq, cast_le, h1, decide_true, runOps_yes, opF_pick, pickF, ev_bool, f38_3, lk, op_geq, h2, h3, opF_neq, und4', f38_4, ln, h4, f53_0, le, op_eql, bool_neq, bne_self_eq_false, opF_minmax, runOps_nil, hmx, f53_2, lh, hl0, op_gtr, cast_lt, hng, decide_false]
      with_reducible rfl
    apply W.run 20
    · intro M
      simp (disch := first | decide +kernel | omega) only [c5R, c5B, c5b1, c5, Try.f5, Option.getD_some, sub_seq1, sub_seq0, sub_block, sub_loop, sub_nil, exec_cond, ev_tmp, T.get_set, Nat.reduceEqDiff, if_false, if_true, evG_some, exec_seq, exec_region, runOps_cons, opF_assign, ev_bool, putT_some, runOps_nil, R.ok_bind, exec_ret, exec_skip]
      with_reducible rfl
    refine rd_loop (x1 := x1) (q := q) (i := i) (hits := hits) h6 hw (by omega) (by omega) vO hpr vR hy (by omega) hN (by omega) hcnt ?_ hK
    unfold rdS
    simp only [Sl_cons, Sl_nil, T.get_set, T.puts_cons, T.puts_nil, Nat.reduceEqDiff, Nat.reduceAdd, if_true, if_false, and_true, true_and, g1, g5, g6, g7, g8, g9]
theorem rd_K {C : Mem} {q i p pr : Nat} {d : List EntD} {o : OpV} {x1 x6 y : Value} {t : T Value} {K : Ex → St → Prop} (h6 : EntE C d x6) (hd : d.length < 50000) (hok : ∀ e ∈ d, okW e.word = true) (vO : VarO C p o) (hpr : pr < C.next) (hk6 : o.kind = 6) (vR : Vals C 53 pr (.var 3) (repC (ansD d o).err (ansD d o).weight y)) (hy : HitE C (ansD d o).hits y)
    (ht : Sl t (rdS x1 x6 q i p pr)) (hK : ∀ t' C', Kp C C' → Sl t' (rdS x1 x6 q i p pr) → K (.exit 1) ⟨t', 181, [], C', none⟩) :
    W tb4 c5K ⟨t, 181, [], C, none⟩ K := by
  obtain ⟨g1, g5, g6, g7, g8, g9, -⟩ := ht
  have hr : ansD d o = ⟨if okW o.word = true then (if (find o.word d).isSome = true then 0 else 9) else 7, ((find o.word d).getD zeroE).weight, []⟩ := by unfold ansD; rw [if_pos hk6]
  rw [hr] at vR hy
  have lw := vO.word
  obtain ⟨D, ⟨g, hg⟩, kD⟩ := run_rfind (w := o.word) h6 (by omega)
  have z2 : Vals (D.alloc (rowOb 45 [.string .empty, .int .u32 0, .bool false])) 45 D.next (.var 3) [.string .empty, .int .u32 0, .bool false] := vals_puts (get_alloc_self _ _)
  obtain ⟨E, s2, v2, n2, e2⟩ := store_all (tb := tb4) (t := 45) (l := [.string .empty, .int .u32 0, .bool false]) (l' := entC ((find o.word d).getD zeroE)) size45' z2 rfl (by simp) (entC_one _)
  rw [next_alloc] at n2
  have kE : Kp C E := kD.trans ⟨by omega, fun z hz => by rw [e2 z (by omega), get_alloc_ne (by omega)]⟩
  have lwt : loadF tb4 E.get 24 (.pointer (some ⟨D.next, 1, none⟩)) = .ok (.int .u32 (((find o.word d).getD zeroE).weight : Int)) := load_vals und24' rfl v2 rfl
  have vE := vR.same (kE.2 _ hpr)
  have lh := rep_hits vE
  have lw2 := rep_wt vE
  obtain ⟨bh, hyb⟩ := hy
  have hl0 := HitS.lens hyb
  rw [List.length_nil] at hl0
  rw [c5K_eq]
  apply W.seq
  apply W.runG (g) 20
  · intro M hM
    simp (disch := first | decide +kernel | omega) only [c5K, c5B, c5b1, c5, Try.f5, Option.getD_some, sub_seq1, sub_seq0, sub_block, sub_loop, sub_nil, sub_cond0, exec_region, runOps_cons, opF_move, ev_tmp, g6, evG_some, putT_some, opF_fieldAddr, T.get_set, Nat.reduceEqDiff, g8, if_false, opF_load, if_true, opF_call, evs, R.ok_bind, resK, opF_extract, extractF, opF_alloc, z45, at_ptr, opF_store, putT_none, opF_assign, runOps_nil, cells_agg, f38_1, lw, hg, List.getElem?_cons_zero, List.getElem?_cons_succ, s2]
    with_reducible rfl
  apply W.seq
  apply W.seq
  have fin : ∀ t, Sl t (rdS x1 x6 q i p pr) → W tb4 (.exit 1) ⟨t, 181, [], E, none⟩ K := fun t st => by
    apply W.run 20
    · intro M
      simp (disch := first | decide +kernel | omega) only [exec_exit]
      with_reducible rfl
    exact hK _ E kE st
  cases his : (find o.word d).isSome with
  | true =>
    have hwk : okW o.word = true := by
      cases hf : find o.word d with
      | none => rw [hf] at his; cases his
      | some e =>
        obtain ⟨h1, h2⟩ := find_some hf
        rw [← h2]; exact hok e h1
    have he : (if okW o.word = true then (if (find o.word d).isSome = true then 0 else 9) else 7) = 0 := by rw [if_pos hwk, if_pos his]
    rw [he] at vE
    have le := rep_err vE
    apply W.run 20
    · intro M
      simp (config := { maxSteps := 4000000 }) (disch := first | decide +kernel | (rw [wantF_guard]; simp only [wantD_some, dstAt_zero, dstAt_succ, T.get_set, T.get_e, Nat.reduceEqDiff, if_true, if_false, wantV_bool, wantV_unit, unitV, cond_true, cond_false, Bool.not_true, Bool.not_false, List.toList_toArray]) | omega) only [c5K, c5B, c5b1, c5, Try.f5, Option.getD_some, sub_seq1, sub_seq0, sub_block, sub_loop, sub_nil, sub_cond0, exec_region, runOps_cons, opF_move, ev_tmp, T.get_set, Nat.reduceEqDiff, if_false, if_true, evG_some, putT_some, opF_fieldAddr, g9, opF_load, opF_eql, ev_int, opF_neq, und4', R.ok_bind, f53_0, le, binF_int, op_eql, decide_true, bool_neq, bne_self_eq_false, runOps_yes, opF_pick, pickF, ev_bool, fb1', lwt, f53_1, lw2, op_neq, ne_eq, not_true_eq_false, decide_false, opF_len, evs, opF_ari, runOps_nil, f53_2, lh, hl0, op_gtr, cast_lt, Nat.lt_irrefl]
      with_reducible rfl
    apply W.run 20
    · intro M
      simp (disch := first | decide +kernel | omega) only [c5K, c5B, c5b1, c5, Try.f5, Option.getD_some, sub_seq1, sub_seq0, sub_block, sub_loop, sub_nil, sub_cond0, exec_cond, ev_tmp, T.get_set, Nat.reduceEqDiff, if_false, if_true, evG_some, exec_seq, exec_region, runOps_cons, opF_assign, ev_bool, putT_some, runOps_nil, R.ok_bind, exec_ret, exec_skip]
      with_reducible rfl
    refine fin _ ?_
    unfold rdS
    simp only [Sl_cons, Sl_nil, T.get_set, T.puts_cons, T.puts_nil, Nat.reduceEqDiff, Nat.reduceAdd, if_true, if_false, and_true, true_and, g1, g5, g6, g7, g8, g9]
  | false =>
    obtain ⟨e, he, hne⟩ : ∃ e, (if okW o.word = true then (if (find o.word d).isSome = true then 0 else 9) else 7) = e ∧ ¬ e = 0 := by
      by_cases hwk : okW o.word = true
      · exact ⟨9, by rw [if_pos hwk, if_neg (by rw [his]; decide)], by decide⟩
      · exact ⟨7, by rw [if_neg hwk], by decide⟩
    rw [he] at vE
    have le := rep_err vE
    apply W.run 20
    · intro M
      simp (config := { maxSteps := 4000000 }) (disch := first | decide +kernel | (rw [wantF_guard]; simp only [wantD_some, dstAt_zero, dstAt_succ, T.get_set, T.get_e, Nat.reduceEqDiff, if_true, if_false, wantV_bool, wantV_unit, unitV, cond_true, cond_false, Bool.not_true, Bool.not_false, List.toList_toArray]) | omega) only [c5K, c5B, c5b1, c5, Try.f5, Option.getD_some, sub_seq1, sub_seq0, sub_block, sub_loop, sub_nil, sub_cond0, exec_region, runOps_cons, opF_move, ev_tmp, T.get_set, Nat.reduceEqDiff, if_false, if_true, evG_some, putT_some, opF_fieldAddr, g9, opF_load, opF_eql, ev_int, opF_neq, und4', R.ok_bind, f53_0, le, binF_int, op_eql, hne, decide_false, bool_neq, bne_self_eq_false, runOps_yes, opF_pick, pickF, ev_bool, fb1', lwt, f53_1, lw2, op_neq, ne_eq, not_true_eq_false, opF_len, evs, opF_ari, runOps_nil, f53_2, lh, hl0, op_gtr, cast_lt, Nat.lt_irrefl]
      with_reducible rfl
    apply W.run 20
    · intro M
      simp (disch := first | decide +kernel | omega) only [c5K, c5B, c5b1, c5, Try.f5, Option.getD_some, sub_seq1, sub_seq0, sub_block, sub_loop, sub_nil, sub_cond0, exec_cond, ev_tmp, T.get_set, Nat.reduceEqDiff, if_false, if_true, evG_some, exec_seq, exec_region, runOps_cons, opF_assign, ev_bool, putT_some, runOps_nil, R.ok_bind, exec_ret, exec_skip]
      with_reducible rfl
    refine fin _ ?_
    unfold rdS
    simp only [Sl_cons, Sl_nil, T.get_set, T.puts_cons, T.puts_nil, Nat.reduceEqDiff, Nat.reduceAdd, if_true, if_false, and_true, true_and, g1, g5, g6, g7, g8, g9]
end Go.Proofs.Ytnelkapmmgggdaa.mdl

