/-
  The statement ModelReads holds, for every input: the program, run on the abstract machine AM on values of which parts are variables, answers true; what AM answers the model answers. No conditions.
-/
import Derived.Test.YtnelkapmmgggdaaRows
import Derived.Test.YtnelkapmmgggdaaMdlD
import Derived.WalkKit
import Derived.ProofKit
import Derived.OpenShut
import Derived.ShutString
import Derived.ChangeOld
import Derived.Below
import Derived.Deep.Slices
import Derived.Deep.Fields
import Derived.ChangeSame
set_option maxHeartbeats 16000000
set_option maxRecDepth 20000
namespace Go.Proofs.Ytnelkapmmgggdaa.mdl
open Go.Am Go.Mdl
open Go.Proofs.Ytnelkapmmgggdaa.rnk (HitD hitC ordD lessB sortH ordK lessK hitC_len sortH_len)
set_option linter.unusedSimpArgs false
set_option linter.unusedVariables false
set_option linter.unusedVariables false

theorem str_sameV (d : Nat) (l : List UInt8) : sameV (d + 1) (strOf l) (strOf l) = true := by
  show bytesEq _ _ = true
  rw [bytesEq_eq]
  simp
theorem selfOp (o : OpV) : sameV 100 (.agg ⟨opC o⟩) (.agg ⟨opC o⟩) = true := by
  show sameV (98 + 2) _ _ = true
  rw [sameV]
  simp [opC, int_sameV, str_sameV]
theorem VarO.setKind {C : Mem} {p : Nat} {o : OpV} (h : VarO C p o) (k : Int) : ∃ C', storeF tb4 C 3 (.pointer (some ⟨p, 0, none⟩)) (.int .i64 k) = .ok C' ∧ VarO C' p { o with kind := k } ∧ C'.next = C.next ∧ ∀ z, z ≠ p → C'.get z = C.get z := by
  obtain ⟨C3, s3, v3, n3, k3⟩ := store_vals (tb := tb4) (t := 3) (o := 0) (v := .int .i64 k) size3' h.2 (by show 0 < 5; decide) rfl rfl
  exact ⟨C3, s3, ⟨by rw [n3]; exact h.1, v3⟩, n3, k3⟩
def rdO (o : OpI) (i : Nat) : OpV := { opD o with kind := ((6 + i % 2 : Nat) : Int) }
theorem rd_round {C : Mem} {q i : Nat} {d : List EntD} {os : List OpI} {o : OpI} {x1 x6 : Value} {t : T Value} {K : Ex → St → Prop} (hm : ModV C q ⟨d, false, false⟩) (h6 : EntE C d x6) (hok : OkD d) (hd : d.length < 1000) (hM : OkM d) (hwk : ∀ e ∈ d, okW e.word = true) (hL : OpL C os x1) (hi : os[i]? = some o) (hi30 : i < 30)
    (ht : Sl t [(1, x1), (5, .pointer (some ⟨q, 0, none⟩)), (6, x6), (7, .int .i64 (i : Int))]) (hK : ∀ e t' C', (e = .nrm ∨ e = .exit 1) → Kq q C C' → ModV C' q ⟨d, false, false⟩ → Sl t' [(1, x1), (5, .pointer (some ⟨q, 0, none⟩)), (6, x6), (7, .int .i64 (i : Int))] → K e ⟨t', 181, [], C', none⟩) :
    W tb4 c5B ⟨t, 181, [], C, none⟩ K := by
  obtain ⟨g1, g5, g6, g7, -⟩ := ht
  obtain ⟨⟨a, i1, i2⟩, hin⟩ := hL.at hi
  obtain ⟨C1, ⟨go, hgo⟩, k1⟩ := run_op hin
  obtain ⟨C2, s1, v1, n1, k2⟩ := VarO.new C1 (opD o)
  obtain ⟨C3, s3, v3, n3, k3⟩ := v1.setKind ((6 + i % 2 : Nat) : Int)
  have v3' : VarO C3 C1.next (rdO o i) := v3
  have k13 : Kp C C3 := ⟨by have := k1.1; omega, fun z hz => by have := k1.1; rw [k3 z (by omega), k2.2 z (by omega), k1.2 z hz]⟩
  obtain ⟨⟨a', j1, j2⟩, hin3⟩ := (hL.kp k13).at hi
  obtain ⟨vt, C4, ⟨gt, hgt⟩, rfl, k4⟩ := run_told hin3
  have v4 := v3'.kp k4
  have k14 := k13.trans k4
  have hkind : (rdO o i).kind = 6 ∨ (rdO o i).kind = 7 := by
    show ((6 + i % 2 : Nat) : Int) = 6 ∨ ((6 + i % 2 : Nat) : Int) = 7
    omega
  have lo3 := v3'.all
  have lo4 := v4.all
  have hso := selfOp (rdO o i)
  have hqC := hm.lt
  have hq1 := k1.1
  obtain ⟨vv, C5, ⟨gD, hgD⟩, hR, m5, k5⟩ := run_Do (told := toldI o) (o := rdO o i) (hm.kp k14) hM
  rw [read_any rfl hkind] at hR m5
  obtain ⟨y, rfl, hy⟩ := hR
  have hn5 := k5.1
  have z3 : Vals (C5.alloc (rowOb 53 repZ)) 53 C5.next (.var 3) repZ := vals_puts (get_alloc_self _ _)
  obtain ⟨C6, s6, v6, l6, n6, k6⟩ := rep_store (e' := (ansD d (rdO o i)).err) (w' := (ansD d (rdO o i)).weight) (x' := y) z3 hy.cells.2.1
  rw [next_alloc] at n6
  have k56 : Kp C5 C6 := ⟨by omega, fun z hz => by rw [k6 z (by omega), get_alloc_ne (by omega)]⟩
  have kq : Kq q C C6 := (k14.kq q).trans (k5.trans (k56.kq q))
  have m6 := m5.kp k56
  have hy6 := hy.kp k56
  have hk14n := k14.1
  have hk4n := k4.1
  have vO6 : VarO C6 C1.next (rdO o i) := by
    refine ⟨by omega, v4.2.same ?_⟩
    rw [k56.2 _ (by omega), k5.2 _ (by omega) (by omega)]
  obtain ⟨ls, hv68⟩ := hm.v
  have h66 : EntE C6 d x6 := h6.kq hv68 kq
  -- the words, and so on
  obtain ⟨yw, C7, ⟨gw, hgw⟩, hyw, k7⟩ := run_wordsM m6 (by show d.length < _; omega)
  have hl : Go.Mdl.live (⟨d, false, false⟩ : MdlS).d = d := live_id hok.2
  rw [hl] at hyw
  obtain ⟨gs, hgs⟩ := run_same hyw (h66.kp k7) (by omega) (by omega)
  rw [decide_eq_true rfl] at hgs
  obtain ⟨gp, hgp⟩ := run_poisoned (m6.kp k7)
  obtain ⟨gc, hgc⟩ := run_closed (m6.kp k7)
  have hb1 : (⟨d, false, false⟩ : MdlS).bad = false := rfl
  have hb2 : (⟨d, false, false⟩ : MdlS).closed = false := rfl
  rw [hb1] at hgp
  rw [hb2] at hgc
  obtain ⟨va, C8, ⟨ga, hga⟩, hRa, k8⟩ := run_answer (o := rdO o i) (h66.kp k7) hM.1 (by have := hM.2.1; omega) hM.2.2
  have hR1 : RepE C8 (ansD d (rdO o i)) (.agg ⟨repC (ansD d (rdO o i)).err (ansD d (rdO o i)).weight y⟩) := ⟨y, rfl, (hy6.kp k7).kp k8⟩
  have hlen := ansD_len d (rdO o i)
  obtain ⟨C9, ⟨gz, hgz⟩, k9⟩ := run_rsame hR1 hRa (by omega)
  have lr7 := rep_load (v6.same (k7.2 C5.next (by omega)))
  have lr8 := rep_load ((v6.same (k7.2 C5.next (by omega))).same (k8.2 C5.next (by have := k7.1; omega)))
  have hsr := selfRep (e := (ansD d (rdO o i)).err) (w := (ansD d (rdO o i)).weight) hy6
  have lo7 := (vO6.kp k7).all
  have k69 := (k7.trans k8).trans k9
  have vO9 := vO6.kp k69
  have vR9 := v6.same (k69.2 C5.next (by omega))
  have lk9 := vO9.kind
  have h69 := h66.kp k69
  have hy9 := hy6.kp k69
  have hn9 := k69.1
  rw [c5B_eq]
  apply W.seq
  apply W.runG (go) 20
  · intro M hM
    simp (disch := first | decide +kernel | omega) only [c5B, c5b1, c5, Try.f5, Option.getD_some, sub_seq1, sub_seq0, sub_block, sub_loop, sub_nil, exec_region, runOps_cons, opF_move, ev_tmp, g1, evG_some, putT_some, T.get_set, Nat.reduceEqDiff, g7, if_false, opF_indexAddr, if_true, opF_load, opF_call, evs, R.ok_bind, resK, opF_alloc, z38, at_ptr, opF_store, putT_none, runOps_nil, cells_agg, i1, i2, hgo, s1]
    with_reducible rfl
  apply W.seq
  apply W.run 20
  · intro M
    simp (disch := first | decide +kernel | omega) only [c5B, c5b1, c5, Try.f5, Option.getD_some, sub_seq1, sub_seq0, sub_block, sub_loop, sub_nil, exec_region, runOps_cons, opF_move, ev_tmp, T.get_set, Nat.reduceEqDiff, g7, if_false, evG_some, putT_some, opF_ari, if_true, ev_int, opF_fieldAddr, opF_store, putT_none, runOps_nil, R.ok_bind, f38_0, binF_int, op_rem, op_add_i64, s3]
    with_reducible rfl
  apply W.seq
  apply W.runG ((gt+gD)) 20
  · intro M hM
    simp (config := { maxSteps := 4000000 }) (disch := first | decide +kernel | omega) only [c5B, c5b1, c5, Try.f5, Option.getD_some, sub_seq1, sub_seq0, sub_block, sub_loop, sub_nil, exec_float [(1, 6)], runD_P, Nat.reduceAdd, opF_move, ev_tmp, T.get_set, Nat.reduceEqDiff, g5, if_false, evG_some, putT_some, runD_Rd, rOp_load, if_true, R.ok_bind, lo3, selF_nil, rereadM_nil, g1, g7, opF_indexAddr, runD_L, List.map_nil, hide_nil, backF_nil, selR_no, selR_yes, selR_nil, rereadR_cons, reread_load, rereadR_nil, Bool.and_true, runD_Al, opF_alloc, z53, at_ptr, cells_agg, cond_true, opF_call, evs, resK, selF_no, runD_end, opF_store, putT_none, j1, j2, hgt, lo4, rereadV_eq, hso, hgD, s6]
    with_reducible rfl
  show W tb4 _ _ _
  refine W_gen (rdS x1 x6 q i C1.next C5.next) (by unfold rdS; simp only [Sl_cons, Sl_nil, T.get_set, T.puts_cons, T.puts_nil, Nat.reduceEqDiff, Nat.reduceAdd, if_true, if_false, and_true, true_and, g1, g5, g6, g7]) fun t ht => ?_
  clear g1 g5 g6 g7
  obtain ⟨g1, g5, g6, g7, g8, g9, -⟩ := ht
  apply W.seq
  apply W.seq
  apply W.runG ((gw+gs+gp+gc+ga+gz)) 20
  · intro M hM
    simp (config := { maxSteps := 4000000 }) (disch := first | decide +kernel | (rw [wantF_guard]; simp only [wantD_some, dstAt_zero, dstAt_succ, T.get_set, T.get_e, Nat.reduceEqDiff, if_true, if_false, wantV_bool, wantV_unit, unitV, cond_true, cond_false, Bool.not_true, Bool.not_false, List.toList_toArray]) | omega) only [c5B, c5b1, c5, Try.f5, Option.getD_some, sub_seq1, sub_seq0, sub_block, sub_loop, sub_nil, exec_float [(14, 17)], runD_P, Nat.reduceAdd, opF_move, ev_tmp, g5, evG_some, putT_some, runD_L, selF_nil, List.map_nil, hide_nil, backF_nil, selR_nil, rereadR_nil, cond_true, R.ok_bind, opF_call, evs, T.get_set, if_true, resK, Nat.reduceEqDiff, g6, if_false, opF_un, hgw, hgs, un_not, Bool.not_true, runD_gP, runD_gL, opF_pick, pickF, ev_bool, hgp, hgc, runD_gRd, rOp_load, g9, lr7, selF_no, rereadM_nil, g8, lo7, selR_no, selR_yes, rereadR_cons, reread_load, Bool.and_true, runD_end, hga, lr8, rereadV_eq, hsr, hgz]
    with_reducible rfl
  apply W.run 20
  · intro M
    simp (disch := first | decide +kernel | omega) only [c5B, c5b1, c5, Try.f5, Option.getD_some, sub_seq1, sub_seq0, sub_block, sub_loop, sub_nil, exec_cond, ev_tmp, T.get_set, Nat.reduceEqDiff, if_false, if_true, evG_some, exec_seq, exec_region, runOps_cons, opF_assign, ev_bool, putT_some, runOps_nil, R.ok_bind, exec_ret, exec_skip]
    with_reducible rfl
  show W tb4 _ _ _
  refine W_gen (rdS x1 x6 q i C1.next C5.next) (by unfold rdS; simp only [Sl_cons, Sl_nil, T.get_set, T.puts_cons, T.puts_nil, Nat.reduceEqDiff, Nat.reduceAdd, if_true, if_false, and_true, true_and, g1, g5, g6, g7, g8, g9]) fun t ht => ?_
  clear g1 g5 g6 g7 g8 g9
  obtain ⟨g1, g5, g6, g7, g8, g9, -⟩ := ht
  apply W.seq
  apply W.seq
  have done : ∀ e t' D, (e = .nrm ∨ e = .exit 1) → Kp C9 D → Sl t' (rdS x1 x6 q i C1.next C5.next) → K e ⟨t', 181, [], D, none⟩ := by
    rintro e t' D he kD ⟨f1, f5, f6, f7, f8, f9, -⟩
    refine hK e t' D he (kq.trans ((k69.trans kD).kq q)) (m6.kp (k69.trans kD)) ?_
    simp only [Sl_cons, Sl_nil, T.get_set, T.puts_cons, T.puts_nil, Nat.reduceEqDiff, Nat.reduceAdd, if_true, if_false, and_true, true_and, f1, f5, f6, f7]
  rcases hkind with h6k | h7k
  · have he6 : intOpF .eql .i64 (rdO o i).kind ((6 : Nat) : Int) = .ok (.bool true) := by rw [op_eqlI, decide_eq_true (show (rdO o i).kind = ((6 : Nat) : Int) from h6k)]
    apply W.run 20
    · intro M
      simp (disch := first | decide +kernel | omega) only [c5B, c5b1, c5, Try.f5, Option.getD_some, sub_seq1, sub_seq0, sub_block, sub_loop, sub_nil, exec_region, runOps_cons, opF_fieldAddr, ev_tmp, g8, evG_some, putT_some, opF_load, T.get_set, if_true, opF_eql, Nat.reduceEqDiff, if_false, ev_int, runOps_nil, R.ok_bind, f38_0, lk9, binF_int, he6]
      with_reducible rfl
    show W tb4 _ _ _
    refine W.cond (p := true) ?_ (fun _ => ?_) (fun h => by cases h)
    · simp only [ev_tmp, T.get_set, Nat.reduceEqDiff, if_true, if_false, evG_some]
    refine rd_K (x1 := x1) (q := q) (i := i) (o := rdO o i) h69 (by omega) hwk vO9 (by omega) h6k vR9 hy9 ?_ fun t' D kD st => ?_
    · unfold rdS
      simp only [Sl_cons, Sl_nil, T.get_set, T.puts_cons, T.puts_nil, Nat.reduceEqDiff, Nat.reduceAdd, if_true, if_false, and_true, true_and, g1, g5, g6, g7, g8, g9]
    · exact done _ _ _ (.inr rfl) kD st
  · have he6 : intOpF .eql .i64 (rdO o i).kind ((6 : Nat) : Int) = .ok (.bool false) := by rw [op_eqlI, decide_eq_false (show ¬ (rdO o i).kind = ((6 : Nat) : Int) by omega)]
    apply W.run 20
    · intro M
      simp (disch := first | decide +kernel | omega) only [c5B, c5b1, c5, Try.f5, Option.getD_some, sub_seq1, sub_seq0, sub_block, sub_loop, sub_nil, exec_region, runOps_cons, opF_fieldAddr, ev_tmp, g8, evG_some, putT_some, opF_load, T.get_set, if_true, opF_eql, Nat.reduceEqDiff, if_false, ev_int, runOps_nil, R.ok_bind, f38_0, lk9, binF_int, he6]
      with_reducible rfl
    show W tb4 _ _ _
    refine W.cond (p := false) ?_ (fun h => by cases h) (fun _ => ?_)
    · simp only [ev_tmp, T.get_set, Nat.reduceEqDiff, if_true, if_false, evG_some]
    apply W.run 20
    · intro M
      simp (disch := first | decide +kernel | omega) only [exec_skip]
      with_reducible rfl
    show W tb4 _ _ _
    refine rd_R (x1 := x1) (q := q) (i := i) (o := rdO o i) h69 hM.1 hM.2.2 hM.2.1 vO9 (by omega) h7k vR9 hy9 ?_ fun t' D kD st => ?_
    · unfold rdS
      simp only [Sl_cons, Sl_nil, T.get_set, T.puts_cons, T.puts_nil, Nat.reduceEqDiff, Nat.reduceAdd, if_true, if_false, and_true, true_and, g1, g5, g6, g7, g8, g9]
    · exact done _ _ _ (.inl rfl) kD st
theorem rd_all {C : Mem} {q : Nat} {d : List EntD} {os : List OpI} {x1 x6 : Value} {t : T Value} {K : Ex → St → Prop} (hm : ModV C q ⟨d, false, false⟩) (h6 : EntE C d x6) (hok : OkD d) (hd : d.length < 1000) (hM : OkM d) (hwk : ∀ e ∈ d, okW e.word = true) {A0 : Mem} (h0 : Kp A0 C) (hq : A0.next ≤ q) (hL : OpL A0 os x1) (hll : os.length < 9223372036854775808)
    (ht : Sl t [(1, x1), (5, .pointer (some ⟨q, 0, none⟩)), (6, x6)]) (hR : ∀ t' C', t'.get 4 = some (.bool true) → K .ret ⟨t', 181, [], C', none⟩) :
    W tb4 (.seq (.seq (sub c5 [1,1,1,1,0,0]) (.block 0 (.loop c5b1))) (.seq (sub c5 [1,1,1,1,1,0]) (sub c5 [1,1,1,1,1,1]))) ⟨t, 181, [], C, none⟩ K := by
  obtain ⟨g1, g5, g6, -⟩ := ht
  obtain ⟨ls, hv68⟩ := hm.v
  have hlen := hL.len
  apply W.seq
  apply W.seq
  apply W.run 20
  · intro M
    simp (disch := first | decide +kernel | omega) only [c5, Try.f5, Option.getD_some, sub_seq1, sub_seq0, sub_nil, exec_region, runOps_cons, opF_assign, ev_int, putT_some, runOps_nil, R.ok_bind]
    with_reducible rfl
  apply W.block
  refine W.up os.length (fun i t D => Kq q C D ∧ ModV D q ⟨d, false, false⟩ ∧ Sl t [(1, x1), (5, .pointer (some ⟨q, 0, none⟩)), (6, x6), (7, .int .i64 (i : Int))]) ?_ (Nat.zero_le _) ⟨Kq.refl _ _, hm, ?_⟩
  · rintro i t D hi ⟨kD, mD, g1, g5, g6, g7, -⟩
    have k0D : Kp A0 D := ⟨by have := h0.1; have := kD.1; omega, fun z hz => by rw [kD.2 z (by have := h0.1; omega) (by omega), h0.2 z hz]⟩
    have out : ∀ t : T Value, W tb4 (.seq (sub c5 [1,1,1,1,1,0]) (sub c5 [1,1,1,1,1,1])) ⟨t, 181, [], D, none⟩ K := fun t => by
      apply W.seq
      apply W.run 20
      · intro M
        simp (disch := first | decide +kernel | omega) only [c5, Try.f5, Option.getD_some, sub_seq1, sub_seq0, sub_nil, exec_region, runOps_cons, opF_assign, ev_bool, putT_some, runOps_nil, R.ok_bind]
        with_reducible rfl
      apply W.run 20
      · intro M
        simp (disch := first | decide +kernel | omega) only [c5, Try.f5, Option.getD_some, sub_seq1, sub_nil, exec_ret]
        with_reducible rfl
      refine hR _ D ?_
      simp only [T.get_set, if_true]
    rw [c5b1_eq]
    apply W.seq
    apply W.seq
    by_cases h30 : i < 30
    · by_cases hlt : i < os.length
      · have he : os[i]? = some os[i] := List.getElem?_eq_getElem hlt
        apply W.run 20
        · intro M
          simp (disch := first | decide +kernel | (rw [wantF_guard]; simp only [wantD_some, dstAt_zero, dstAt_succ, T.get_set, T.get_e, Nat.reduceEqDiff, if_true, if_false, wantV_bool, wantV_unit, unitV, cond_true, cond_false, Bool.not_true, Bool.not_false, List.toList_toArray]) | omega) only [c5b1, c5, Try.f5, Option.getD_some, sub_seq1, sub_seq0, sub_block, sub_loop, sub_nil, exec_region, runOps_cons, opF_move, ev_tmp, g7, evG_some, putT_some, T.get_set, Nat.reduceEqDiff, g1, if_false, opF_len, evs, if_true, R.ok_bind, opF_ari, hlen, binF_int, op_lssI, cast_lt, hlt, decide_true, runOps_yes, ev_int, opF_pick, pickF, ev_bool, runOps_nil, h30]
          with_reducible rfl
        apply W.run 20
        · intro M
          simp (disch := first | decide +kernel | omega) only [c5b1, c5, Try.f5, Option.getD_some, sub_seq1, sub_seq0, sub_block, sub_loop, sub_nil, exec_cond, ev_tmp, T.get_set, Nat.reduceEqDiff, if_false, if_true, evG_some, exec_skip, exec_exit, R.ok_bind]
          with_reducible rfl
        apply W.seq
        apply W.block
        refine rd_round (q := q) mD (h6.kq hv68 kD) hok hd hM hwk (hL.kp k0D) he h30 ?_ (fun e t' D' he' kD' mD' st' => ?_)
        · simp only [Sl_cons, Sl_nil, T.get_set, T.puts_cons, T.puts_nil, Nat.reduceEqDiff, Nat.reduceAdd, if_true, if_false, and_true, true_and, g1, g5, g6, g7]
        · obtain ⟨f1, f5, f6, f7, -⟩ := st'
          have go : W tb4 (sub c5b1 [1,1]) ⟨t', 181, [], D', none⟩ (fun e s' => match e with
              | .nrm => i < os.length ∧ ∃ t' A', s' = ⟨t', 181, [], A', none⟩ ∧ (Kq q C A' ∧ ModV A' q ⟨d, false, false⟩ ∧ Sl t' [(1, x1), (5, .pointer (some ⟨q, 0, none⟩)), (6, x6), (7, .int .i64 ((i + 1 : Nat) : Int))])
              | e => Blk 0 (Then tb4 (.seq (sub c5 [1,1,1,1,1,0]) (sub c5 [1,1,1,1,1,1])) K) e s') := by
            apply W.run 20
            · intro M
              simp (disch := first | decide +kernel | omega) only [c5b1, c5, Try.f5, Option.getD_some, sub_seq1, sub_seq0, sub_block, sub_loop, sub_nil, exec_region, runOps_cons, opF_move, ev_tmp, f7, evG_some, putT_some, opF_ari, T.get_set, if_true, ev_int, opF_assign, Nat.reduceEqDiff, if_false, runOps_nil, R.ok_bind, binF_int, op_add_i64]
              with_reducible rfl
            refine ⟨hlt, _, _, rfl, kD.trans kD', mD', ?_⟩
            simp only [Sl_cons, Sl_nil, T.get_set, T.puts_cons, T.puts_nil, Nat.reduceEqDiff, Nat.reduceAdd, if_true, if_false, and_true, true_and, f1, f5, f6]
          rcases he' with rfl | rfl
          · exact go
          · exact go
      · have hin : i = os.length := by omega
        subst hin
        apply W.run 20
        · intro M
          simp (disch := first | decide +kernel | (rw [wantF_guard]; simp only [wantD_some, dstAt_zero, dstAt_succ, T.get_set, T.get_e, Nat.reduceEqDiff, if_true, if_false, wantV_bool, wantV_unit, unitV, cond_true, cond_false, Bool.not_true, Bool.not_false, List.toList_toArray]) | omega) only [c5b1, c5, Try.f5, Option.getD_some, sub_seq1, sub_seq0, sub_block, sub_loop, sub_nil, exec_region, runOps_cons, opF_move, ev_tmp, g7, evG_some, putT_some, T.get_set, Nat.reduceEqDiff, g1, if_false, opF_len, evs, if_true, R.ok_bind, opF_ari, hlen, binF_int, op_lssI, cast_lt, Nat.lt_irrefl, decide_false, runOps_no, opF_pick, pickF, ev_bool, runOps_nil]
          with_reducible rfl
        apply W.run 20
        · intro M
          simp (disch := first | decide +kernel | omega) only [c5b1, c5, Try.f5, Option.getD_some, sub_seq1, sub_seq0, sub_block, sub_loop, sub_nil, exec_cond, ev_tmp, T.get_set, Nat.reduceEqDiff, if_false, if_true, evG_some, exec_skip, exec_exit, R.ok_bind]
          with_reducible rfl
        exact out _
    · by_cases hlt : i < os.length
      · apply W.run 20
        · intro M
          simp (disch := first | decide +kernel | (rw [wantF_guard]; simp only [wantD_some, dstAt_zero, dstAt_succ, T.get_set, T.get_e, Nat.reduceEqDiff, if_true, if_false, wantV_bool, wantV_unit, unitV, cond_true, cond_false, Bool.not_true, Bool.not_false, List.toList_toArray]) | omega) only [c5b1, c5, Try.f5, Option.getD_some, sub_seq1, sub_seq0, sub_block, sub_loop, sub_nil, exec_region, runOps_cons, opF_move, ev_tmp, g7, evG_some, putT_some, T.get_set, Nat.reduceEqDiff, g1, if_false, opF_len, evs, if_true, R.ok_bind, opF_ari, hlen, binF_int, op_lssI, cast_lt, hlt, decide_true, runOps_yes, ev_int, opF_pick, pickF, ev_bool, runOps_nil, h30, decide_false]
          with_reducible rfl
        apply W.run 20
        · intro M
          simp (disch := first | decide +kernel | omega) only [c5b1, c5, Try.f5, Option.getD_some, sub_seq1, sub_seq0, sub_block, sub_loop, sub_nil, exec_cond, ev_tmp, T.get_set, Nat.reduceEqDiff, if_false, if_true, evG_some, exec_skip, exec_exit, R.ok_bind]
          with_reducible rfl
        exact out _
      · have hin : i = os.length := by omega
        subst hin
        apply W.run 20
        · intro M
          simp (disch := first | decide +kernel | (rw [wantF_guard]; simp only [wantD_some, dstAt_zero, dstAt_succ, T.get_set, T.get_e, Nat.reduceEqDiff, if_true, if_false, wantV_bool, wantV_unit, unitV, cond_true, cond_false, Bool.not_true, Bool.not_false, List.toList_toArray]) | omega) only [c5b1, c5, Try.f5, Option.getD_some, sub_seq1, sub_seq0, sub_block, sub_loop, sub_nil, exec_region, runOps_cons, opF_move, ev_tmp, g7, evG_some, putT_some, T.get_set, Nat.reduceEqDiff, g1, if_false, opF_len, evs, if_true, R.ok_bind, opF_ari, hlen, binF_int, op_lssI, cast_lt, Nat.lt_irrefl, decide_false, runOps_no, opF_pick, pickF, ev_bool, runOps_nil]
          with_reducible rfl
        apply W.run 20
        · intro M
          simp (disch := first | decide +kernel | omega) only [c5b1, c5, Try.f5, Option.getD_some, sub_seq1, sub_seq0, sub_block, sub_loop, sub_nil, exec_cond, ev_tmp, T.get_set, Nat.reduceEqDiff, if_false, if_true, evG_some, exec_skip, exec_exit, R.ok_bind]
          with_reducible rfl
        exact out _
  · simp only [Sl_cons, Sl_nil, T.get_set, T.puts_cons, T.puts_nil, Nat.reduceEqDiff, Nat.reduceAdd, if_true, if_false, and_true, true_and, g1, g5, g6]
theorem wordD_ne (ls : List UInt8) : 1 ≤ (wordD ls).length := by
  unfold wordD
  split
  · simp
  · rename_i h
    cases hq : (ls.take 9).map letF with
    | nil => exact absurd hq h
    | cons a l => simp
theorem dE_ok (d : DrD) : okW (dE d).word = true := by
  have h2 : (dE d).word = wordD d.ls := by
    unfold dE entD norm
    split <;> rfl
  unfold okW
  rw [h2]
  have h1 := wordD_ne d.ls
  have h3 := wordD_len9 d.ls
  exact decide_eq_true ⟨h1, by omega⟩
theorem new_okW {ds : List DrD} {n : Nat} : ∀ e ∈ newL ((ds.take n).map dE), okW e.word = true := by
  intro e he
  obtain ⟨m, hm, hw⟩ := newL_mem he
  obtain ⟨d, -, rfl⟩ := List.mem_map.1 hm
  rw [hw]
  exact dE_ok d
theorem run_modelReads {A : Mem} {x0 x1 : Value} {ds : List DrD} {os : List OpI} (hx : DrS A ds x0) (hL : OpL A os x1) (hll : os.length < 9223372036854775808) : ∃ A', CallsTo tb4 5 [x0, x1] A (.bool true) A' := by
  obtain ⟨v, A', hg, rfl⟩ : ∃ v A', CallsTo tb4 5 [x0, x1] A v A' ∧ v = .bool true := by
    refine call_of_W (fn_at Try.func5) c5_eq (by rw [Try.ntmps5]; simp) ?_
    obtain ⟨hok, hln, hwd⟩ := new_ok (ds := ds) (n := 20) (by omega)
    have hwk := new_okW (ds := ds) (n := 20)
    obtain ⟨y1, B1, ⟨g1, hg1⟩, ⟨bo, hb⟩, k1⟩ := run_entries (n := 20) hx (by omega)
    have hl : ((ds.take 20).map dE).length ≤ 20 := by rw [List.length_map, List.length_take]; omega
    obtain ⟨q, B2, b2, y2, ⟨g2, hg2⟩, hN, hq, hq1, hq2, -, -, kk2⟩ := run_new hb hb.lt (by omega)
    generalize newL ((ds.take 20).map dE) = d at hok hln hwd hN hwk
    have hM : OkM d := okM_of hok (by omega) (fun e he => by have := hwd e he; omega)
    have mB : ModV B2 q ⟨d, false, false⟩ := ⟨y2, hq2, vals_puts (k := .var 3) hq, b2, hN⟩
    obtain ⟨y3, B3, ⟨g3, hg3⟩, hD, kk3⟩ := run_wordsM mB (by show d.length < _; omega)
    have hlv : Go.Mdl.live (⟨d, false, false⟩ : MdlS).d = d := live_id hok.2
    rw [hlv] at hD
    have k2 : Kp B1 B2 := ⟨by omega, kk2⟩
    have kB := (k1.trans k2).trans kk3
    apply W.seq
    apply W.run 20
    · intro M
      simp (disch := first | decide +kernel | omega) only [c5, Try.f5, Option.getD_some, sub_seq0, sub_nil, T.puts_cons, Nat.reduceAdd, T.puts_nil, exec_region, runOps_cons, opF_assign, ev_bool, putT_some, runOps_nil, R.ok_bind]
      with_reducible rfl
    apply W.seq
    apply W.seq
    apply W.run 20
    · intro M
      simp (disch := first | decide +kernel | omega) only [c5, Try.f5, Option.getD_some, sub_seq1, sub_seq0, sub_nil, exec_region, runOps_cons, opF_call, evs, resK, putT_some, opF_un, ev_tmp, T.get_set, Nat.reduceEqDiff, T.get_e, if_false, if_true, evG_some, runOps_nil, R.ok_bind, k6, un_not, Bool.not_true]
      with_reducible rfl
    apply W.run 20
    · intro M
      simp (disch := first | decide +kernel | omega) only [c5, Try.f5, Option.getD_some, sub_seq1, sub_seq0, sub_nil, exec_cond, ev_tmp, T.get_set, Nat.reduceEqDiff, T.get_e, if_false, if_true, evG_some, exec_seq, exec_region, runOps_cons, opF_assign, ev_bool, putT_some, runOps_nil, R.ok_bind, exec_ret, exec_skip]
      with_reducible rfl
    apply W.seq
    apply W.runG ((g1+g2)) 20
    · intro M hM
      simp (disch := first | decide +kernel | omega) only [c5, Try.f5, Option.getD_some, sub_seq1, sub_seq0, sub_nil, exec_region, runOps_cons, opF_move, ev_tmp, T.get_set, Nat.reduceEqDiff, T.get_e, if_true, if_false, evG_some, putT_some, opF_call, evs, ev_int, R.ok_bind, resK, opF_assign, runOps_nil, hg1, hg2]
      with_reducible rfl
    apply W.seq
    apply W.runG (g3) 20
    · intro M hM
      simp (disch := first | decide +kernel | omega) only [c5, Try.f5, Option.getD_some, sub_seq1, sub_seq0, sub_nil, exec_region, runOps_cons, opF_move, ev_tmp, T.get_set, Nat.reduceEqDiff, T.get_e, if_false, if_true, evG_some, putT_some, opF_call, evs, R.ok_bind, resK, opF_assign, runOps_nil, hg3]
      with_reducible rfl
    show W tb4 _ _ _
    refine rd_all (mB.kp kk3) hD hok (by omega) hM hwk kB (by have := k1.1; omega) hL hll (by simp only [Sl_cons, Sl_nil, T.get_set, T.puts_cons, T.puts_nil, Nat.reduceEqDiff, Nat.reduceAdd, if_true, if_false, and_true, true_and]) fun t' C' h4 => ?_
    refine ⟨.inr rfl, C', [.bool true], rfl, ?_, rfl⟩
    simp only [Try.f5, resF, h4, evG_some, R.ok_bind, ev_tmp]
  exact ⟨A', hg⟩
end Go.Proofs.Ytnelkapmmgggdaa.mdl

namespace Go.Proofs.Ytnelkapmmgggdaa.modelReads
open Go.ChangeShapes Go.WideShapes Go.ChangeAt Go.RowKit Go.Deep Go.Am
open Go.ChangeMaps (open_string shut_string)
set_option linter.unusedVariables false

theorem own : ownKnob Try.prog.godebug = none := by kernel_rfl
theorem laidOut : laidOutB Try.prog = true := by kernel_rfl
theorem byte_eq {x : Int} (h : (Lit.int .u8 x).wf = true) : Value.int .u8 x = .int .u8 ((x.toNat : Nat) : Int) ∧ x.toNat < 256 := by
  obtain ⟨h0, h1⟩ := bounds_u8 h
  rw [Int.toNat_of_nonneg h0]
  exact ⟨rfl, by omega⟩
theorem small_eq {x : Int} (h : (Lit.int .i8 x).wf = true) : -128 ≤ x ∧ x ≤ 127 := by
  simp [Lit.wf, IntKind.min, IntKind.max, IntKind.signed, IntKind.bits] at h
  omega
theorem word_eq {x : Int} (h : (Lit.int .u32 x).wf = true) : Value.int .u32 x = .int .u32 ((x.toNat : Nat) : Int) := by
  simp [Lit.wf, IntKind.min, IntKind.max, IntKind.signed, IntKind.bits] at h
  rw [Int.toNat_of_nonneg (by omega)]
section
variable {H : Type} {enc : TypeId × Value → H} {P : Program} {w : World} {base : Nat} {spare : Nat → Bool} {held : Bool}
theorem open_slice_fields {t e : TypeId} {fs : Array Field} {fuel : Nat} {cs : List Value} {x : DataW H × List MemPlace} (ht : P.underlying t = some (.slice e)) (he : P.underlying e = some (.struct fs))
    (hone : oneCellFields P fs = true) (hC : P.cellsOf e = fs.size) (h : DataW.trod enc P w base spare held fuel t cs = some x) :
    (cs = [.slice none 0 0] ∧ x = (.nil, [])) ∨
    ∃ (a : Addr) (len cap m : Nat), cs = [.slice (some a) len cap] ∧ len ≤ cap ∧ cap ≤ maxLen ∧ m = (if spare a.block then cap else len) ∧
      ∀ i, i < m → ∃ (n : Nat), ∀ (j : Nat) (f : Field), fs[j]? = some f → ∃ (v : Value) (y : DataW H × List MemPlace), w.cell? (a.add (i * fs.size + j)) = some v ∧ DataW.trod enc P w base spare held n f.type [v] = some y := by
  rcases open_slice ht h with h0 | ⟨a, len, cap, m, n, D, Pl, hcs, hb, hl, hm, hmm, hx, hi⟩
  · exact .inl h0
  · refine .inr ⟨a, len, cap, m, hcs, hl, hm, hmm, fun i him => ?_⟩
    obtain ⟨cs', hc, ht'⟩ := hi i him
    rw [hC] at hc
    obtain ⟨ys, n', hn', hy, hlen, hyl, hf⟩ := DataW.trod_struct he ht'
    obtain ⟨_, hcl, hat⟩ := World.cells?_some hc
    refine ⟨n', fun j f hj => ?_⟩
    obtain ⟨ho, hk⟩ := hone_of hone j f hj
    have hjl : j < fs.size := (Array.getElem?_eq_some_iff.1 hj).1
    have hcell := hat j hjl
    have hv : cs'[j]? = some (cs'[j]'(by omega)) := List.getElem?_eq_getElem (by omega)
    have h1 := hf j f hj
    rw [ho, hk] at h1
    have hone' : (cs'.drop j).take 1 = [cs'[j]'(by omega)] := by
      rw [List.drop_eq_getElem_cons (by omega)]
      rfl
    rw [hone'] at h1
    have hys : ys[j]? = some (ys[j]'(by omega)) := List.getElem?_eq_getElem (by omega)
    refine ⟨_, _, ?_, h1.trans hys⟩
    rw [← Go.Deep.add_add, hcell, hv]
end

/-! ### Letters, drafts, operations in the model's memory -/
def bytV (ls : List UInt8) : List Value := ls.map fun b => .int .u8 ((b.toNat : Nat) : Int)
/-- Letters. -/
def LetW (w : World) (v : Value) (ls : List UInt8) : Prop := ParN w 1 v ls.length (bytV ls)
section
variable {H : Type} {enc : TypeId × Value → H} {w : World} {base fuel : Nat} {held : Bool}
theorem letters_of {v : Value} {x : DataW H × List MemPlace} (h : DataW.trod enc Try.prog w base (fun _ => true) held fuel 23 [v] = some x) : ∃ ls, LetW w v ls := by
  rcases open_ints Try.underlying23 Try.underlying5 (by kernel_rfl) h with ⟨hcs, _⟩ | ⟨a, len, cap, zs, hcs, -, hl, hm, hz, -, hcell, hwf⟩
  · simp only [List.cons.injEq, and_true] at hcs
    subst hcs
    exact ⟨[], .inl ⟨rfl, rfl⟩⟩
  · simp only [List.cons.injEq, and_true] at hcs
    subst hcs
    simp only [if_true] at hz
    by_cases hc0 : cap = 0
    · subst hc0
      have hl0 : len = 0 := by omega
      subst hl0
      exact ⟨[], .inr (.inl ⟨a, rfl, rfl⟩)⟩
    · have hlen : ((zs.take len).map fun z => UInt8.ofNat z.toNat).length = len := by
        rw [List.length_map, List.length_take]; omega
      refine ⟨(zs.take len).map fun z => UInt8.ofNat z.toNat, .inr (.inr ⟨a, cap, by rw [hlen], by omega, by rw [hlen]; exact hl, Nat.lt_of_le_of_lt hm (by decide), fun i hi => ⟨_, hcell i (by omega)⟩, by rw [bytV, List.length_map, Nat.mul_one], fun i c hi => ?_⟩)⟩
      have hil := (List.getElem?_eq_some_iff.1 hi).1
      rw [bytV, List.length_map, hlen] at hil
      rw [hcell i (by omega)]
      unfold bytV at hi
      rw [List.getElem?_map, List.getElem?_map, List.getElem?_take, if_pos hil, List.getElem?_eq_getElem (by omega)] at hi
      simp only [Option.map_some, Option.some.injEq] at hi
      have hzi : zs.getD i 0 = zs[i]'(by omega) := by
        rw [List.getD_eq_getElem?_getD, List.getElem?_eq_getElem (by omega)]; rfl
      have hb := byte_eq (hwf (zs[i]'(by omega)) (List.getElem_mem _))
      rw [hzi, ← hi, hb.1, UInt8.toNat_ofNat', Nat.mod_eq_of_lt hb.2]
/-- A draft, in the model. -/
structure DrM where
  v : Value
  ls : List UInt8
  wt : Nat
  gone : Bool
def drMC (d : DrM) : List Value := [d.v, .int .u32 (d.wt : Int), .bool d.gone]
theorem one_draft {v0 v1 v2 : Value} {n0 n1 n2 : Nat} {y0 y1 y2 : DataW H × List MemPlace} (t0 : DataW.trod enc Try.prog w base (fun _ => true) held n0 23 [v0] = some y0) (t1 : DataW.trod enc Try.prog w base (fun _ => true) held n1 24 [v1] = some y1) (t2 : DataW.trod enc Try.prog w base (fun _ => true) held n2 4 [v2] = some y2) :
    ∃ d : DrM, drMC d = [v0, v1, v2] ∧ LetW w d.v d.ls := by
  obtain ⟨ls, hl⟩ := letters_of t0
  obtain ⟨m, c1, -, w1⟩ := DataW.trod_int Try.underlying24 t1
  obtain ⟨b, c2, -⟩ := DataW.trod_bool Try.underlying4 t2
  simp only [List.cons.injEq, and_true] at c1 c2
  subst c1 c2
  exact ⟨⟨v0, ls, m.toNat, b⟩, by unfold drMC; rw [← word_eq w1], hl⟩
theorem drafts_of {v : Value} {x : DataW H × List MemPlace} (h : DataW.trod enc Try.prog w base (fun _ => true) held fuel 22 [v] = some x) :
    ∃ ms : List DrM, (∀ m ∈ ms, LetW w m.v m.ls) ∧ ParN w 3 v ms.length (ms.map drMC).flatten := by
  rcases open_slice_fields Try.underlying22 Try.underlying26 (by kernel_rfl) (by kernel_rfl) h with ⟨hcs, _⟩ | ⟨a, len, cap, m, hcs, hl, hm, hz, hcell⟩
  · simp only [List.cons.injEq, and_true] at hcs
    subst hcs
    exact ⟨[], (fun m hm => by cases hm), .inl ⟨rfl, rfl⟩⟩
  · simp only [List.cons.injEq, and_true] at hcs
    subst hcs
    simp only [if_true] at hz
    subst hz
    by_cases hc0 : m = 0
    · subst hc0
      have hl0 : len = 0 := by omega
      subst hl0
      exact ⟨[], (fun m hm => by cases hm), .inr (.inl ⟨a, rfl, rfl⟩)⟩
    · obtain ⟨f, hf⟩ := Classical.axiomOfChoice (r := fun (i : Nat) (d : DrM) => i < m → LetW w d.v d.ls ∧ ∀ j, j < 3 → w.cell? (a.add (i * 3 + j)) = (drMC d)[j]?) (fun i => by
        by_cases hi : i < m
        · obtain ⟨n, hfi⟩ := hcell i hi
          obtain ⟨u0, y0, e0, t0⟩ := hfi 0 _ rfl
          obtain ⟨u1, y1, e1, t1⟩ := hfi 1 _ rfl
          obtain ⟨u2, y2, e2, t2⟩ := hfi 2 _ rfl
          obtain ⟨d, hd, hlw⟩ := one_draft t0 t1 t2
          refine ⟨d, fun _ => ⟨hlw, fun j hj => ?_⟩⟩
          rw [hd]
          have : j = 0 ∨ j = 1 ∨ j = 2 := by omega
          rcases this with rfl | rfl | rfl
          · exact e0
          · exact e1
          · exact e2
        · exact ⟨⟨.bool true, [], 0, false⟩, fun h => absurd h hi⟩)
      have hlen3 : ∀ l ∈ ((List.range len).map f).map drMC, l.length = 3 := fun l hl => by
        obtain ⟨d, -, rfl⟩ := List.mem_map.1 hl
        rfl
      have hll : ((List.range len).map f).length = len := by rw [List.length_map, List.length_range]
      refine ⟨(List.range len).map f, fun d hd => ?_, .inr (.inr ⟨a, m, by rw [hll], by omega, by rw [hll]; exact hl, Nat.lt_of_le_of_lt hm (by decide), fun i hi => ?_, by rw [flat_len hlen3, List.length_map], fun i c hi => ?_⟩)⟩
      · obtain ⟨i, hi, rfl⟩ := List.mem_map.1 hd
        exact (hf i (by have := List.mem_range.1 hi; omega)).1
      · have hi3 : i / 3 < m := by omega
        have e : i / 3 * 3 + i % 3 = i := by omega
        have := (hf (i / 3) hi3).2 (i % 3) (Nat.mod_lt _ (by omega))
        rw [e] at this
        rw [this, List.getElem?_eq_getElem (show i % 3 < (drMC (f (i / 3))).length from Nat.mod_lt _ (by omega))]
        exact ⟨_, rfl⟩
      · have hiv := (List.getElem?_eq_some_iff.1 hi).1
        rw [flat_len hlen3, List.length_map, hll] at hiv
        have hi3 : i / 3 < len := by omega
        have e : i / 3 * 3 + i % 3 = i := by omega
        have g := flat_get hlen3 (i := i / 3) (j := i % 3) (l := drMC (f (i / 3))) (by rw [List.getElem?_map, List.getElem?_map, List.getElem?_range hi3]; rfl) (Nat.mod_lt _ (by omega))
        rw [e, hi] at g
        have := (hf (i / 3) (by omega)).2 (i % 3) (Nat.mod_lt _ (by omega))
        rw [e] at this
        rw [this, ← g]
/-- An operation's draft, in the model. -/
structure OpM where
  kd : Nat
  told : Nat
  dr : DrM
  k : Int
  n : Int
  raw : ByteArray
def opMC (o : OpM) : List Value := [.int .u8 (o.kd : Int), .int .u8 (o.told : Int), o.dr.v, .int .u32 (o.dr.wt : Int), .bool o.dr.gone, .int .i8 o.k, .int .i8 o.n, .string o.raw]
structure OpOk (w : World) (o : OpM) : Prop where
  kd : o.kd < 256
  told : o.told < 256
  k : -128 ≤ o.k ∧ o.k ≤ 127
  n : -128 ≤ o.n ∧ o.n ≤ 127
  raw : o.raw.size ≤ maxLen
  dr : LetW w o.dr.v o.dr.ls
set_option maxRecDepth 100000 in
theorem op_of {cs : List Value} {x : DataW H × List MemPlace} (h : DataW.trod enc Try.prog w base (fun _ => true) held fuel 29 cs = some x) : ∃ o : OpM, cs = opMC o ∧ OpOk w o := by
  obtain ⟨xs, n, -, -, hlen, hxl0, hf⟩ := DataW.trod_struct Try.underlying29 h
  have h8 : Try.prog.cellsOf 29 = 8 := by kernel_rfl
  rw [h8] at hlen
  have k5 : Try.prog.cellsOf 5 = 1 := by kernel_rfl
  have k26 : Try.prog.cellsOf 26 = 3 := by kernel_rfl
  have k27 : Try.prog.cellsOf 27 = 1 := by kernel_rfl
  have k9 : Try.prog.cellsOf 9 = 1 := by kernel_rfl
  have k23 : Try.prog.cellsOf 23 = 1 := by kernel_rfl
  have k24 : Try.prog.cellsOf 24 = 1 := by kernel_rfl
  have k4 : Try.prog.cellsOf 4 = 1 := by kernel_rfl
  match cs, hlen with
  | [c0, c1, c2, c3, c4, c5, c6, c7], _ =>
    have f0 := hf 0 { name := "Kind", type := 5, offset := 0, embedded := false, tag := "", pkgPath := "", byteOffset := 0 } rfl
    have f1 := hf 1 { name := "Told", type := 5, offset := 1, embedded := false, tag := "", pkgPath := "", byteOffset := 1 } rfl
    have f2 := hf 2 { name := "E", type := 26, offset := 2, embedded := false, tag := "", pkgPath := "", byteOffset := 8 } rfl
    have f3 := hf 3 { name := "K", type := 27, offset := 5, embedded := false, tag := "", pkgPath := "", byteOffset := 40 } rfl
    have f4 := hf 4 { name := "N", type := 27, offset := 6, embedded := false, tag := "", pkgPath := "", byteOffset := 41 } rfl
    have f5 := hf 5 { name := "Raw", type := 9, offset := 7, embedded := false, tag := "", pkgPath := "", byteOffset := 48 } rfl
    simp only [k5, k26, k27, k9, List.drop_zero, List.drop_succ_cons, List.take_succ_cons, List.take_zero] at f0 f1 f2 f3 f4 f5
    have some_of : ∀ {i : Nat} {t : TypeId} {cs : List Value}, i < xs.length → DataW.trod enc Try.prog w base (fun _ => true) held n t cs = xs[i]? → ∃ y, DataW.trod enc Try.prog w base (fun _ => true) held n t cs = some y := fun hi he => ⟨_, he.trans (List.getElem?_eq_getElem hi)⟩
    have hxl : xs.length = 6 := hxl0
    obtain ⟨y0, f0⟩ := some_of (by omega) f0
    obtain ⟨y1, f1⟩ := some_of (by omega) f1
    obtain ⟨y2, f2⟩ := some_of (by omega) f2
    obtain ⟨y3, f3⟩ := some_of (by omega) f3
    obtain ⟨y4, f4⟩ := some_of (by omega) f4
    obtain ⟨y5, f5⟩ := some_of (by omega) f5
    obtain ⟨m0, e0, -, b0⟩ := DataW.trod_int Try.underlying5 f0
    obtain ⟨m1, e1, -, b1⟩ := DataW.trod_int Try.underlying5 f1
    obtain ⟨m3, e3, -, b3⟩ := DataW.trod_int Try.underlying27 f3
    obtain ⟨m4, e4, -, b4⟩ := DataW.trod_int Try.underlying27 f4
    obtain ⟨s5, e5, -, b5⟩ := DataW.trod_string Try.underlying9 f5
    obtain ⟨zs, n2, -, -, -, hzl, hz⟩ := DataW.trod_struct Try.underlying26 f2
    have z0 := hz 0 { name := "Letters", type := 23, offset := 0, embedded := false, tag := "", pkgPath := "", byteOffset := 0 } rfl
    have z1 := hz 1 { name := "Weight", type := 24, offset := 1, embedded := false, tag := "", pkgPath := "", byteOffset := 24 } rfl
    have z2 := hz 2 { name := "Gone", type := 4, offset := 2, embedded := false, tag := "", pkgPath := "", byteOffset := 28 } rfl
    simp only [k23, k24, k4, List.drop_zero, List.drop_succ_cons, List.take_succ_cons, List.take_zero] at z0 z1 z2
    have hzl' : zs.length = 3 := hzl
    obtain ⟨d, hd, hlw⟩ := one_draft (z0.trans (List.getElem?_eq_getElem (by omega))) (z1.trans (List.getElem?_eq_getElem (by omega))) (z2.trans (List.getElem?_eq_getElem (by omega)))
    simp only [List.cons.injEq, and_true] at e0 e1 e3 e4 e5
    subst e0 e1 e3 e4 e5
    obtain ⟨dv, dls, dwt, dg⟩ := d
    simp only [drMC, List.cons.injEq, and_true] at hd
    obtain ⟨rfl, rfl, rfl⟩ := hd
    refine ⟨⟨m0.toNat, m1.toNat, ⟨dv, dls, dwt, dg⟩, m3, m4, s5⟩, ?_, ⟨(byte_eq b0).2, (byte_eq b1).2, small_eq b3, small_eq b4, b5, hlw⟩⟩
    unfold opMC
    rw [← (byte_eq b0).1, ← (byte_eq b1).1]
end

/-! ### On the abstract machine -/
noncomputable def nN (w : World) : Nat → Nat → Value → Option Value := fun _ _ v => amN w 1 v
theorem nN_ok (w : World) : NOk w [] (nN w) := fun _ _ _ _ h => amN_VR h
theorem bytS_of {w : World} {ls : List UInt8} {v : Value} (h : LetW w v ls) : ∃ x, amN w 1 v = some x ∧ mdl.BytS (wMemN w 0 (nN w)) ls x := by
  obtain ⟨x, h1, h2⟩ := par_N (N := nN w) (by omega) (by omega) h
  refine ⟨x, h1, ?_⟩
  rcases h2 with ⟨rfl, h0⟩ | ⟨rfl, h0⟩ | ⟨q, off, rfl, hq, h3⟩
  · exact .inl ⟨rfl, List.length_eq_zero_iff.1 h0⟩
  · exact .inr (.inl ⟨rfl, List.length_eq_zero_iff.1 h0⟩)
  · refine .inr (.inr ⟨q, off, _, rfl, ?_⟩)
    rcases h3 with h3 | ⟨t, fz, c, h4, h5⟩
    · exact .inl (List.length_eq_zero_iff.1 (by omega))
    · refine .inr ⟨hq, t, .row, fz, c, h4, fun i b hi => ?_⟩
      have hil := (List.getElem?_eq_some_iff.1 hi).1
      exact h5 i (.int .u8 ((b.toNat : Nat) : Int)) _ (by omega) (by unfold bytV; rw [List.getElem?_map, hi]; rfl) (amN_plain rfl)
noncomputable def toD (w : World) (m : DrM) : mdl.DrD := ⟨(amN w 1 m.v).getD empV, m.ls, m.wt, m.gone⟩
theorem toD_xl {w : World} {m : DrM} (h : LetW w m.v m.ls) : amN w 1 m.v = some (toD w m).xl ∧ mdl.BytS (wMemN w 0 (nN w)) (toD w m).ls (toD w m).xl := by
  obtain ⟨x, h1, h2⟩ := bytS_of h
  have e : (toD w m).xl = x := by unfold toD; rw [h1]; rfl
  rw [e]
  exact ⟨h1, h2⟩
theorem drS_of {w : World} {v : Value} {ms : List DrM} (hl : ∀ m ∈ ms, LetW w m.v m.ls) (h : ParN w 3 v ms.length (ms.map drMC).flatten) : ∃ x, amN w 3 v = some x ∧ mdl.DrS (wMemN w 0 (nN w)) (ms.map (toD w)) x := by
  obtain ⟨x, h1, h2⟩ := par_N (N := nN w) (by omega) (by omega) h
  refine ⟨x, h1, ?_⟩
  rcases h2 with ⟨rfl, h0⟩ | ⟨rfl, h0⟩ | ⟨q, off, rfl, hq, h3⟩
  · rw [List.length_eq_zero_iff.1 h0]
    exact .inl ⟨rfl, rfl⟩
  · rw [List.length_eq_zero_iff.1 h0]
    exact .inr (.inl ⟨rfl, rfl⟩)
  · refine .inr (.inr ⟨q, off, mkX ms.length 3, by rw [List.length_map], ?_⟩)
    rcases h3 with h3 | ⟨t, fz, c, h4, h5⟩
    · have h0 : ms.length = 0 := by omega
      rw [List.length_eq_zero_iff.1 h0]
      exact .inl rfl
    · refine .inr ⟨hq, t, .row, fz, c, h4, fun i d hi => ?_⟩
      rw [List.getElem?_map] at hi
      obtain ⟨m, hm, rfl⟩ := Option.map_eq_some_iff.1 hi
      have hil := (List.getElem?_eq_some_iff.1 hm).1
      obtain ⟨x1, x2⟩ := toD_xl (hl m (List.mem_of_getElem? hm))
      have hlen3 : ∀ l ∈ ms.map drMC, l.length = 3 := fun l hl => by
        obtain ⟨d, -, rfl⟩ := List.mem_map.1 hl
        rfl
      have g : ∀ {j : Nat} {v u : Value}, j < 3 → (drMC m)[j]? = some v → nN w q (off + (i * 3 + j)) v = some u → c.get (off + (i * 3 + j)) = some u := fun {j v u} hj hv hu =>
        h5 (i * 3 + j) v u (by omega) (by rw [flat_get hlen3 (l := drMC m) (by rw [List.getElem?_map, hm]; rfl) hj]; exact hv) hu
      have g0 := g (j := 0) (by omega) rfl x1
      have g1 := g (j := 1) (by omega) rfl (amN_plain rfl)
      have g2 := g (j := 2) (by omega) rfl (amN_plain rfl)
      simp only [Nat.add_zero, ← Nat.add_assoc] at g0 g1 g2
      exact ⟨g0, g1, g2, x2⟩
noncomputable def toI (w : World) (o : OpM) : mdl.OpI := ⟨o.kd, o.told, toD w o.dr, o.k, o.n, o.raw.data.toList⟩
theorem toI_ok {w : World} {o : OpM} (h : OpOk w o) : mdl.InOk (wMemN w 0 (nN w)) (toI w o) :=
  ⟨h.kd, h.told, h.k.1, h.k.2, h.n.1, h.n.2, Nat.lt_of_le_of_lt h.raw (by decide), (toD_xl h.dr).2⟩
theorem toI_VRs {w : World} {o : OpM} (h : OpOk w o) : VRs (wInj w []) (mdl.inC (toI w o)) (opMC o) :=
  .cons (.int _ _) (.cons (.int _ _) (.cons (amN_VR (toD_xl h.dr).1) (.cons (.int _ _) (.cons (.bool _) (.cons (.int _ _) (.cons (.int _ _) (.cons (by show VR _ (strOf o.raw.data.toList) _; rw [← string_eq]; exact .string _) .nil)))))))
theorem vrs_app {ι : Inj} : ∀ {a a' b b' : List Value}, VRs ι a a' → VRs ι b b' → VRs ι (a ++ b) (a' ++ b')
  | _, _, _, _, .nil, k => k
  | _, _, _, _, .cons h t, k => .cons h (vrs_app t k)

set_option maxRecDepth 100000 in
theorem ops_of {H : Type} {enc : TypeId × Value → H} {w : World} {base fuel : Nat} {held : Bool} {v : Value} {x : DataW H × List MemPlace} (h : DataW.trod enc Try.prog w base (fun _ => true) held fuel 49 [v] = some x) :
    ∃ os : List OpM, (∀ o ∈ os, OpOk w o) ∧ os.length ≤ maxLen ∧ ParN w 8 v os.length (os.map opMC).flatten := by
  have h8 : Try.prog.cellsOf 29 = 8 := by kernel_rfl
  rcases open_slice Try.underlying49 h with ⟨hcs, _⟩ | ⟨a, len, cap, m, n, D, Pl, hcs, hb, hl, hm, hz, hx, hi⟩
  · simp only [List.cons.injEq, and_true] at hcs
    subst hcs
    exact ⟨[], (fun m hm => by cases hm), Nat.zero_le _, .inl ⟨rfl, rfl⟩⟩
  · simp only [List.cons.injEq, and_true] at hcs
    subst hcs
    simp only [if_true] at hz
    subst hz
    by_cases hc0 : m = 0
    · subst hc0
      have hl0 : len = 0 := by omega
      subst hl0
      exact ⟨[], (fun m hm => by cases hm), Nat.zero_le _, .inr (.inl ⟨a, rfl, rfl⟩)⟩
    · obtain ⟨f, hf⟩ := Classical.axiomOfChoice (r := fun (i : Nat) (d : OpM) => i < m → OpOk w d ∧ ∀ j, j < 8 → w.cell? (a.add (i * 8 + j)) = (opMC d)[j]?) (fun i => by
        by_cases him : i < m
        · obtain ⟨cs', hc, ht'⟩ := hi i him
          rw [h8] at hc
          obtain ⟨_, hcl, hat⟩ := World.cells?_some hc
          obtain ⟨o, rfl, hok⟩ := op_of ht'
          refine ⟨o, fun _ => ⟨hok, fun j hj => ?_⟩⟩
          rw [← Go.Deep.add_add]
          exact hat j hj
        · exact ⟨⟨0, 0, ⟨.bool true, [], 0, false⟩, 0, 0, .empty⟩, fun h => absurd h him⟩)
      have hlen8 : ∀ l ∈ ((List.range len).map f).map opMC, l.length = 8 := fun l hl => by
        obtain ⟨d, -, rfl⟩ := List.mem_map.1 hl
        rfl
      have hll : ((List.range len).map f).length = len := by rw [List.length_map, List.length_range]
      refine ⟨(List.range len).map f, fun d hd => ?_, by rw [hll]; omega, .inr (.inr ⟨a, m, by rw [hll], by omega, by rw [hll]; exact hl, Nat.lt_of_le_of_lt hm (by decide), fun i hi => ?_, by rw [flat_len hlen8, List.length_map], fun i c hi => ?_⟩)⟩
      · obtain ⟨i, hi, rfl⟩ := List.mem_map.1 hd
        exact (hf i (by have := List.mem_range.1 hi; omega)).1
      · have hi8 : i / 8 < m := by omega
        have e : i / 8 * 8 + i % 8 = i := by omega
        have := (hf (i / 8) hi8).2 (i % 8) (Nat.mod_lt _ (by omega))
        rw [e] at this
        rw [this, List.getElem?_eq_getElem (show i % 8 < (opMC (f (i / 8))).length from Nat.mod_lt _ (by omega))]
        exact ⟨_, rfl⟩
      · have hiv := (List.getElem?_eq_some_iff.1 hi).1
        rw [flat_len hlen8, List.length_map, hll] at hiv
        have hi8 : i / 8 < len := by omega
        have e : i / 8 * 8 + i % 8 = i := by omega
        have g := flat_get hlen8 (i := i / 8) (j := i % 8) (l := opMC (f (i / 8))) (by rw [List.getElem?_map, List.getElem?_map, List.getElem?_range hi8]; rfl) (Nat.mod_lt _ (by omega))
        rw [e, hi] at g
        have := (hf (i / 8) (by omega)).2 (i % 8) (Nat.mod_lt _ (by omega))
        rw [e] at this
        rw [this, ← g]
theorem opL_of {w : World} {v : Value} {os : List OpM} (hl : ∀ o ∈ os, OpOk w o) (h : ParN w 8 v os.length (os.map opMC).flatten) : ∃ x, amN w 8 v = some x ∧ mdl.OpL (wMemN w 0 (nN w)) (os.map (toI w)) x := by
  obtain ⟨x, h1, h2⟩ := par_N (N := nN w) (by omega) (by omega) h
  refine ⟨x, h1, ?_⟩
  rcases h2 with ⟨rfl, h0⟩ | ⟨rfl, h0⟩ | ⟨q, off, rfl, hq, h3⟩
  · rw [List.length_eq_zero_iff.1 h0]
    exact .inl ⟨rfl, rfl⟩
  · rw [List.length_eq_zero_iff.1 h0]
    exact .inr (.inl ⟨rfl, rfl⟩)
  · refine .inr (.inr ⟨q, off, mkX os.length 8, by rw [List.length_map], ?_⟩)
    rcases h3 with h3 | ⟨t, fz, c, h4, h5⟩
    · have h0 : os.length = 0 := by omega
      rw [List.length_eq_zero_iff.1 h0]
      exact .inl rfl
    · refine .inr ⟨hq, t, .row, fz, c, h4, fun i d hi => ?_⟩
      rw [List.getElem?_map] at hi
      obtain ⟨m, hm, rfl⟩ := Option.map_eq_some_iff.1 hi
      have hil := (List.getElem?_eq_some_iff.1 hm).1
      have hok := hl m (List.mem_of_getElem? hm)
      obtain ⟨x1, x2⟩ := toD_xl hok.dr
      have hlen8 : ∀ l ∈ os.map opMC, l.length = 8 := fun l hl => by
        obtain ⟨d, -, rfl⟩ := List.mem_map.1 hl
        rfl
      have g : ∀ {j : Nat} {v u : Value}, j < 8 → (opMC m)[j]? = some v → nN w q (off + (i * 8 + j)) v = some u → c.get (off + i * 8 + j) = some u := fun {j v u} hj hv hu => by
        rw [Nat.add_assoc]
        exact h5 (i * 8 + j) v u (by omega) (by rw [flat_get hlen8 (l := opMC m) (by rw [List.getElem?_map, hm]; rfl) hj]; exact hv) hu
      refine ⟨fun j u hj => ?_, toI_ok hok⟩
      have hj8 : j < 8 := (List.getElem?_eq_some_iff.1 hj).1
      have hcase : j = 0 ∨ j = 1 ∨ j = 2 ∨ j = 3 ∨ j = 4 ∨ j = 5 ∨ j = 6 ∨ j = 7 := by omega
      rcases hcase with rfl | rfl | rfl | rfl | rfl | rfl | rfl | rfl
      · injection hj with hj; subst hj; exact g (by omega) rfl (amN_plain rfl)
      · injection hj with hj; subst hj; exact g (by omega) rfl (amN_plain rfl)
      · injection hj with hj; subst hj; exact g (by omega) rfl x1
      · injection hj with hj; subst hj; exact g (by omega) rfl (amN_plain rfl)
      · injection hj with hj; subst hj; exact g (by omega) rfl (amN_plain rfl)
      · injection hj with hj; subst hj; exact g (by omega) rfl (amN_plain rfl)
      · injection hj with hj; subst hj; exact g (by omega) rfl (amN_plain rfl)
      · injection hj with hj; subst hj
        refine g (by omega) rfl ?_
        rw [show strOf (toI w m).raw = .string m.raw from (string_eq _).symm]
        exact amN_plain rfl

/-! ### The run -/
theorem walk (v0 v1 : Value) (ms : List DrM) (os : List OpM) (w : World) (hl : ∀ m ∈ ms, LetW w m.v m.ls) (hp : ParN w 3 v0 ms.length (ms.map drMC).flatten) (hol : ∀ o ∈ os, OpOk w o) (hop : ParN w 8 v1 os.length (os.map opMC).flatten) (hml : os.length ≤ maxLen) :
    Calls Try.prog 5 #[v0, v1] w fun e w' => e = .returned (.bool true) ∧ Below w.heap.size w w' := by
  refine (?_ : Calls Try.prog 5 #[v0, v1] w fun e w' => e = .returned (.bool true) ∧ Go.Am.Leaves w w').mono fun e w' h => ⟨h.1, h.2.below⟩
  obtain ⟨x0, e0, d0⟩ := drS_of hl hp
  obtain ⟨x1, e1, d1⟩ := opL_of hol hop
  refine all_trueN mdl.tb4_ok [] (fun l hl => by cases hl) (nN_ok w) (mdl.fn_at Try.func5) mdl.c5_eq (args := [x0, x1]) (.cons (amN_VR e0) (.cons (amN_VR e1) .nil)) ?_
  exact mdl.run_modelReads d0 d1 (by rw [List.length_map]; exact Nat.lt_of_le_of_lt hml (by decide))

/-! ### THE ROW's STEP: WRITTEN OUT: LEAVE IT -/
set_option maxRecDepth 100000 in
theorem lifted (os : Os) (started : os.Started) (H : Type) (enc : TypeId × Value → H) :
    ReturnsInHanded {} Try.checked os 5 .any (Rows.modelReadsSpec.pre6 enc Try.prog Try.f5 Rows.modelReadsRow.domain false) (Rows.modelReadsSpec.post enc Try.prog Try.f5 false true false false) := by
  refine returnsInHanded_of_change (C := Try.checked) own started (by kernel_rfl) Try.func5
    (ChangeSpec.witness6 (enc := enc) (C := Try.checked) false ⟨#[], #[.slice none 0 0, .slice none 0 0], []⟩ 12 (by kernel_rfl) (by kernel_rfl) (by kernel_rfl) (by kernel_rfl)) ?_
  intro W base args ds gs before hval0 hW hcnd _
  have hval : ∀ (j : Nat) t v, Try.f5.params[j]? = some t → args[j]? = some v → Value.okWide Try.prog W .any base t v := hval0
  have hW' := hW
  obtain ⟨p, q, hA0, hV, rfl, hfz, hnd⟩ := hW
  have hA : DataW.TrodAll enc Try.prog W 0 (fun _ => true) true Try.f5.params.toList args.toList ds p := hA0
  rw [Try.params5] at hA hval
  obtain ⟨v0, vs0, d0, ds0, p0, q0, hargs, rfl, rfl, h0, r0⟩ := trodAll_cons hA
  obtain ⟨v1, vs1, d1, ds1, p1, q1, rfl, rfl, rfl, h1, r1⟩ := trodAll_cons r0
  obtain ⟨rfl, rfl, rfl⟩ := trodAll_nil r1
  obtain rfl : args = #[v0, v1] := by cases args; simp_all
  obtain ⟨rfl, rfl⟩ := trodVars_none hV
  have k0 := h0
  have lt0 : ∀ x ∈ p0, x.block < W.heap.size := by obtain ⟨m, hm⟩ := k0; exact DataW.trod_lt m _ _ _ hm
  obtain ⟨a0, len0, cap0, rfl⟩ := okWide_slice Try.underlying22 (hval 0 22 v0 rfl rfl)
  obtain ⟨ms, hl, hp⟩ : ∃ ms : List DrM, (∀ m ∈ ms, LetW W m.v m.ls) ∧ ParN W 3 (.slice a0 len0 cap0) ms.length (ms.map drMC).flatten := by
    obtain ⟨fuel, hf⟩ := h0
    exact drafts_of hf
  have k1 := h1
  have lt1 : ∀ x ∈ p1, x.block < W.heap.size := by obtain ⟨m, hm⟩ := k1; exact DataW.trod_lt m _ _ _ hm
  obtain ⟨a1, len1, cap1, rfl⟩ := okWide_slice Try.underlying49 (hval 1 49 v1 rfl rfl)
  obtain ⟨os1, hol, hml, hop⟩ : ∃ os : List OpM, (∀ o ∈ os, OpOk W o) ∧ os.length ≤ maxLen ∧ ParN W 8 (.slice a1 len1 cap1) os.length (os.map opMC).flatten := by
    obtain ⟨fuel, hf⟩ := h1
    exact ops_of hf
  clear hA0 hval0
  refine (walk (.slice a0 len0 cap0) (.slice a1 len1 cap1) ms os1 W hl hp hol hop hml).mono fun e W' ⟨he, bel⟩ => ?_
  subst he
  exact ⟨_, rfl, _, _, _, [], _, [], hW', trodAll_mk1 (shut_bool Try.underlying4 _), (trodAll_cons_mk (Below.trod laidOut (by kernel_rfl) (of_decide_eq_true (by kernel_rfl)) k0 bel lt0) (trodAll_cons_mk (Below.trod laidOut (by kernel_rfl) (of_decide_eq_true (by kernel_rfl)) k1 bel lt1) trodAll_mk0)), rfl, bel.frame _, fun h => by cases h⟩

theorem over : Rows.modelReadsRow.holds Try.pinned (OpenSpec.ofChange Rows.modelReadsSpec) :=
  OpenClaim.holds_of_wide 5 Try.f5 rfl rfl rfl rfl rfl rfl rfl ⟨rfl, rfl, rfl, rfl, rfl⟩ rfl rfl rfl rfl rfl (by kernel_rfl) Try.func5 (by kernel_rfl)
    (of_decide_eq_true (by kernel_rfl)) (by unfold Func.isWrapper; first | (rw [if_pos (by decide +kernel)]; kernel_rfl) | (rw [if_neg (by decide +kernel)]; exact ⟨rfl, rfl⟩))
    (fun os started H enc _ => lifted os started H enc)

/-- ████ THE STATEMENT ████ -/
theorem proved : Rows.ModelReadsSaid := over
#print axioms proved
end Go.Proofs.Ytnelkapmmgggdaa.modelReads
