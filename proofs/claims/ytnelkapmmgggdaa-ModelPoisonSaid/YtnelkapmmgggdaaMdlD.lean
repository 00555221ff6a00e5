/-
  What the functions of this group compute on the abstract machine, and the plain laws of it. Part D: conditions stand in each theorem.
-/
import Derived.Test.YtnelkapmmgggdaaMdlC

/-
  Model: a model; what is kept; opened again; read.
-/
namespace Go.Proofs.Ytnelkapmmgggdaa.mdl
open Go.Am Go.Mdl
open Go.Proofs.Ytnelkapmmgggdaa.rnk (HitD hitC ordD lessB sortH ordK lessK hitC_len sortH_len)
set_option linter.unusedSimpArgs false
set_option linter.unusedVariables false
set_option linter.unusedVariables false

/-- A model. -/
structure MdlS where
  d : List EntD
  bad : Bool
  closed : Bool
def ModV (A : Mem) (q : Nat) (s : MdlS) : Prop := ∃ x, q < A.next ∧ Vals A 68 q (.var 3) [x, .bool s.bad, .bool s.closed] ∧ EntE A s.d x
/-- Kept, but for one block. -/
def Kq (q : Nat) (A A' : Mem) : Prop := A.next ≤ A'.next ∧ ∀ z, z < A.next → z ≠ q → A'.get z = A.get z
theorem Kq.trans {q : Nat} {A B C : Mem} (h : Kq q A B) (k : Kq q B C) : Kq q A C := ⟨Nat.le_trans h.1 k.1, fun z hz hne => by rw [k.2 z (by have := h.1; omega) hne, h.2 z hz hne]⟩
theorem Kp.kq {A A' : Mem} (h : Kp A A') (q : Nat) : Kq q A A' := ⟨h.1, fun z hz _ => h.2 z hz⟩
theorem ModV.kp {A A' : Mem} {q : Nat} {s : MdlS} (h : ModV A q s) (k : Kp A A') : ModV A' q s := by
  obtain ⟨x, h1, h2, h3⟩ := h
  exact ⟨x, Nat.lt_of_lt_of_le h1 k.1, h2.same (k.2 _ h1), h3.kp k⟩
theorem EntE.kq {A A' : Mem} {q : Nat} {l : List EntD} {x : Value} {ls : List Value} (h : EntE A l x) (hv : Vals A 68 q (.var 3) ls) (k : Kq q A A') : EntE A' l x := by
  obtain ⟨b, h⟩ := h
  exact ⟨b, SlcM.put h (Vals.not hv (by decide)) k.1 k.2⟩
theorem EntE.cells {A : Mem} {l : List EntD} {x : Value} (h : EntE A l x) : x.cells.toList = [x] ∧ oneCell x = true ∧ sameV 100 x x = true := by
  obtain ⟨b, h⟩ := h
  exact h.cells
theorem size32 : sizeF tb4 32 = .ok 1 := by kernel_rfl
theorem size4' : sizeF tb4 4 = .ok 1 := by kernel_rfl
theorem fm1 {b : Nat} : fieldAddrF tb4 68 (.pointer (some ⟨b, 0, none⟩)) 1 = .ok (.pointer (some ⟨b, 1, none⟩)) := by kernel_rfl
theorem fm2 {b : Nat} : fieldAddrF tb4 68 (.pointer (some ⟨b, 0, none⟩)) 2 = .ok (.pointer (some ⟨b, 2, none⟩)) := by kernel_rfl
theorem ModV.bad {A : Mem} {q : Nat} {s : MdlS} (h : ModV A q s) : loadF tb4 A.get 4 (.pointer (some ⟨q, 1, none⟩)) = .ok (.bool s.bad) := by
  obtain ⟨x, h1, h2, h3⟩ := h
  exact load_vals und4' rfl h2 rfl
theorem ModV.closed {A : Mem} {q : Nat} {s : MdlS} (h : ModV A q s) : loadF tb4 A.get 4 (.pointer (some ⟨q, 2, none⟩)) = .ok (.bool s.closed) := by
  obtain ⟨x, h1, h2, h3⟩ := h
  exact load_vals und4' rfl h2 rfl
theorem ModV.d {A : Mem} {q : Nat} {s : MdlS} (h : ModV A q s) : ∃ x, loadF tb4 A.get 32 (.pointer (some ⟨q, 0, none⟩)) = .ok x ∧ EntE A s.d x := by
  obtain ⟨x, h1, h2, h3⟩ := h
  exact ⟨x, load_vals und32' rfl h2 rfl, h3⟩
theorem ModV.setBad {A : Mem} {q : Nat} {s : MdlS} (h : ModV A q s) (p : Bool) : ∃ A', storeF tb4 A 4 (.pointer (some ⟨q, 1, none⟩)) (.bool p) = .ok A' ∧ ModV A' q ⟨s.d, p, s.closed⟩ ∧ A'.next = A.next ∧ ∀ z, z ≠ q → A'.get z = A.get z := by
  obtain ⟨x, h1, h2, h3⟩ := h
  obtain ⟨A', s1, v1, n1, k1⟩ := store_vals (tb := tb4) (t := 4) (o := 1) (v := .bool p) size4' h2 (by show 1 < 3; decide) rfl rfl
  exact ⟨A', s1, ⟨x, by omega, v1, h3.kq h2 ⟨by omega, fun z _ hz => k1 z hz⟩⟩, n1, k1⟩
theorem ModV.setClosed {A : Mem} {q : Nat} {s : MdlS} (h : ModV A q s) (p : Bool) : ∃ A', storeF tb4 A 4 (.pointer (some ⟨q, 2, none⟩)) (.bool p) = .ok A' ∧ ModV A' q ⟨s.d, s.bad, p⟩ ∧ A'.next = A.next ∧ ∀ z, z ≠ q → A'.get z = A.get z := by
  obtain ⟨x, h1, h2, h3⟩ := h
  obtain ⟨A', s1, v1, n1, k1⟩ := store_vals (tb := tb4) (t := 4) (o := 2) (v := .bool p) size4' h2 (by show 2 < 3; decide) rfl rfl
  exact ⟨A', s1, ⟨x, by omega, v1, h3.kq h2 ⟨by omega, fun z _ hz => k1 z hz⟩⟩, n1, k1⟩
theorem ModV.setD {A : Mem} {q : Nat} {s : MdlS} {d : List EntD} {y : Value} (h : ModV A q s) (hy : EntE A d y) : ∃ A', storeF tb4 A 32 (.pointer (some ⟨q, 0, none⟩)) y = .ok A' ∧ ModV A' q ⟨d, s.bad, s.closed⟩ ∧ A'.next = A.next ∧ ∀ z, z ≠ q → A'.get z = A.get z := by
  obtain ⟨x, h1, h2, h3⟩ := h
  obtain ⟨A', s1, v1, n1, k1⟩ := store_vals (tb := tb4) (t := 32) (o := 0) (v := y) size32 h2 (by show 0 < 3; decide) hy.cells.1 hy.cells.2.1
  exact ⟨A', s1, ⟨y, by omega, v1, hy.kq h2 ⟨by omega, fun z _ hz => k1 z hz⟩⟩, n1, k1⟩
theorem bld53 {e : Nat} : buildF tb4 53 [(0, .int .i64 (e : Int))] = .ok (.agg ⟨repC e 0 (.slice none 0 0)⟩) := by kernel_rfl
/-- A reply is stored. -/
theorem rep_store {C : Mem} {p e w e' w' : Nat} {x x' : Value} (v : Vals C 53 p (.var 3) (repC e w x)) (hx : oneCell x' = true) : ∃ C', storeF tb4 C 53 (.pointer (some ⟨p, 0, none⟩)) (.agg ⟨repC e' w' x'⟩) = .ok C' ∧ Vals C' 53 p (.var 3) (repC e' w' x') ∧ loadF tb4 C'.get 53 (.pointer (some ⟨p, 0, none⟩)) = .ok (.agg ⟨repC e' w' x'⟩) ∧ C'.next = C.next ∧ ∀ z, z ≠ p → C'.get z = C.get z := by
  obtain ⟨d53, hd1, hd2⟩ := und53
  obtain ⟨C1, s1, v1, n1, k1⟩ := store_all (tb := tb4) (t := 53) (l := repC e w x) (l' := repC e' w' x') size53 v rfl (by simp [repC]) (repC_one hx)
  exact ⟨C1, s1, v1, load_all (tb := tb4) hd1 hd2 (l := repC e' w' x') size53 v1, n1, k1⟩
/-- A reply's variable and an operation's. -/
theorem two_vars (A : Mem) (o : OpV) : VarO ((A.alloc (rowOb 38 (opC o))).alloc (rowOb 53 repZ)) A.next o ∧ Vals ((A.alloc (rowOb 38 (opC o))).alloc (rowOb 53 repZ)) 53 (A.next + 1) (.var 3) repZ ∧ Kp A ((A.alloc (rowOb 38 (opC o))).alloc (rowOb 53 repZ)) ∧ ((A.alloc (rowOb 38 (opC o))).alloc (rowOb 53 repZ)).next = A.next + 2 :=
  ⟨⟨by show A.next < A.next + 1 + 1; omega, (vals_puts (get_alloc_self _ _)).same (get_alloc_ne (by rw [next_alloc]; omega))⟩, vals_puts (get_alloc_self _ _), (Kp.alloc _ _).trans (Kp.alloc _ _), rfl⟩
/-- What is kept. -/
def keepD (s : MdlS) (told : Nat) : MdlS × Nat := if s.bad = true then (s, 11) else (⟨s.d, decide (told ≠ 0), s.closed⟩, told)
def repO (e : Nat) : Value := .agg ⟨repC e 0 (.slice none 0 0)⟩
theorem repO_E (A : Mem) (e : Nat) : RepE A ⟨e, 0, []⟩ (repO e) := ⟨_, rfl, HitE.nil A⟩
noncomputable def c41 : Code := Try.f41.body.getD .skip
theorem c41_eq : Try.f41.body = some (.seq (sub c41 [0]) (.seq (.seq (sub c41 [1,0,0]) (sub c41 [1,0,1])) (.seq (sub c41 [1,1,0]) (.seq (sub c41 [1,1,1,0]) (sub c41 [1,1,1,1]))))) := by kernel_rfl
set_option maxHeartbeats 8000000 in
set_option maxRecDepth 20000 in
theorem run_keep {A : Mem} {q told : Nat} {s : MdlS} {o : OpV} (h : ModV A q s) :
    ∃ v A', Ans tb4 41 [.pointer (some ⟨q, 0, none⟩), .agg ⟨opC o⟩, .int .i64 (told : Int)] A v A' ∧ v = repO (keepD s told).2 ∧ ModV A' q (keepD s told).1 ∧ Kq q A A' := by
  refine ans_of_W (fn_at Try.func41) c41_eq (by rw [Try.ntmps41]; simp) (by kernel_rfl) (by kernel_rfl) ?_
  obtain ⟨vO, vR, k0, n0⟩ := two_vars A o
  have hqA : q < A.next := by obtain ⟨x, h1, _⟩ := h; exact h1
  have hm := h.kp k0
  apply W.seq
  apply W.run 20
  · intro M
    simp (config := { maxSteps := 4000000 }) (disch := first | decide +kernel | omega) only [c41, Try.f41, Option.getD_some, sub_seq0, sub_nil, T.puts_cons, Nat.reduceAdd, T.puts_nil, exec_region, runOps_cons, opF_box, ev_tmp, T.get_set, Nat.reduceEqDiff, T.get_e, if_false, if_true, evG_some, at_ptr, putT_some, opF_alloc, z53, next_alloc, runOps_nil, R.ok_bind, cells_agg]
    with_reducible rfl
  show W tb4 _ _ _
  generalize (A.alloc (rowOb 38 (opC o))).alloc (rowOb 53 repZ) = B at vO vR k0 n0 hm
  have lb := hm.bad
  apply W.seq
  apply W.seq
  cases hb : s.bad with
  | true =>
    rw [hb] at lb
    have hr : keepD s told = (s, 11) := by unfold keepD; rw [if_pos hb]
    obtain ⟨C, s1, v1, l1, n1, k1⟩ := rep_store (e' := 11) (w' := 0) (x' := .slice none 0 0) vR rfl
    apply W.run 20
    · intro M
      simp (config := { maxSteps := 4000000 }) (disch := first | decide +kernel | omega) only [c41, Try.f41, Option.getD_some, sub_seq1, sub_seq0, sub_nil, exec_region, runOps_cons, opF_move, ev_tmp, T.get_set, Nat.reduceEqDiff, T.get_e, if_true, if_false, evG_some, putT_some, opF_nilCheck, opF_fieldAddr, opF_load, runOps_nil, R.ok_bind, nil_ptr, fm1, lb]
      with_reducible rfl
    show W tb4 _ _ _
    apply W.run 20
    · intro M
      simp (config := { maxSteps := 4000000 }) (disch := first | decide +kernel | omega) only [c41, Try.f41, Option.getD_some, sub_seq1, sub_seq0, sub_nil, exec_cond, ev_tmp, T.get_set, Nat.reduceEqDiff, T.get_e, if_false, if_true, evG_some, exec_seq, exec_region, runOps_cons, opF_build, evp, ev_int, R.ok_bind, putT_some, opF_store, putT_none, runOps_nil, bld53, s1, exec_ret, exec_skip]
      with_reducible rfl
    rw [hr]
    refine ⟨.inr rfl, C, [repO 11], rfl, ?_, rfl, ?_, ?_⟩
    · simp only [Try.f41, resF, ev_tmp, T.get_set, T.puts_cons, T.puts_nil, Nat.reduceEqDiff, if_true, if_false, evG_some, R.ok_bind, l1]
      rfl
    · obtain ⟨x, h1, h2, h3⟩ := hm
      obtain ⟨b, h3⟩ := h3
      exact ⟨x, by omega, h2.same (k1 _ (by omega)), b, SlcM.put h3 (Vals.not vR (by decide)) (by omega) (fun z _ hz => k1 z hz)⟩
    · exact ⟨by omega, fun z hz _ => by rw [k1 z (by omega), k0.2 z hz]⟩
  | false =>
    rw [hb] at lb
    have hr : keepD s told = (⟨s.d, decide (told ≠ 0), s.closed⟩, told) := by unfold keepD; rw [if_neg (by rw [hb]; decide)]
    obtain ⟨C, s1, m1, n1, k1⟩ := hm.setBad (decide (told ≠ 0))
    obtain ⟨D, s2, v2, l2, n2, k2⟩ := rep_store (e' := told) (w' := 0) (x' := .slice none 0 0) (vR.same (k1 _ (by omega))) rfl
    have hne : intOpF .neq .i64 (told : Int) ((0 : Nat) : Int) = .ok (.bool (decide (told ≠ 0))) := by
      rw [op_neqI]
      congr 2
      apply decide_eq_decide.2
      omega
    apply W.run 20
    · intro M
      simp (config := { maxSteps := 4000000 }) (disch := first | decide +kernel | omega) only [c41, Try.f41, Option.getD_some, sub_seq1, sub_seq0, sub_nil, exec_region, runOps_cons, opF_move, ev_tmp, T.get_set, Nat.reduceEqDiff, T.get_e, if_true, if_false, evG_some, putT_some, opF_nilCheck, opF_fieldAddr, opF_load, runOps_nil, R.ok_bind, nil_ptr, fm1, lb]
      with_reducible rfl
    show W tb4 _ _ _
    apply W.run 20
    · intro M
      simp (config := { maxSteps := 4000000 }) (disch := first | decide +kernel | omega) only [c41, Try.f41, Option.getD_some, sub_seq1, sub_seq0, sub_nil, exec_cond, ev_tmp, T.get_set, Nat.reduceEqDiff, T.get_e, if_false, if_true, evG_some, exec_seq, exec_region, runOps_cons, opF_build, evp, ev_int, R.ok_bind, putT_some, opF_store, putT_none, runOps_nil, exec_ret, exec_skip]
      with_reducible rfl
    show W tb4 _ _ _
    apply W.seq
    apply W.run 20
    · intro M
      simp (config := { maxSteps := 4000000 }) (disch := first | decide +kernel | omega) only [c41, Try.f41, Option.getD_some, sub_seq1, sub_seq0, sub_nil, exec_region, runOps_cons, opF_move, ev_tmp, T.get_set, Nat.reduceEqDiff, T.get_e, if_true, if_false, evG_some, putT_some, opF_neq, ev_int, opF_nilCheck, opF_fieldAddr, opF_store, putT_none, runOps_nil, R.ok_bind, binF_int, hne, ne_eq, nil_ptr, fm1, s1]
      with_reducible rfl
    show W tb4 _ _ _
    apply W.seq
    apply W.run 20
    · intro M
      simp (config := { maxSteps := 4000000 }) (disch := first | decide +kernel | omega) only [c41, Try.f41, Option.getD_some, sub_seq1, sub_seq0, sub_nil, exec_region, runOps_cons, opF_move, ev_tmp, T.get_set, Nat.reduceEqDiff, T.get_e, if_false, if_true, evG_some, putT_some, opF_build, evp, R.ok_bind, opF_store, putT_none, runOps_nil, bld53, s2]
      with_reducible rfl
    show W tb4 _ _ _
    apply W.run 20
    · intro M
      simp (config := { maxSteps := 4000000 }) (disch := first | decide +kernel | omega) only [c41, Try.f41, Option.getD_some, sub_seq1, sub_nil, exec_ret]
      with_reducible rfl
    rw [hr]
    refine ⟨.inr rfl, D, [repO told], rfl, ?_, rfl, ?_, ?_⟩
    · simp only [Try.f41, resF, ev_tmp, T.get_set, T.puts_cons, T.puts_nil, Nat.reduceEqDiff, if_true, if_false, evG_some, R.ok_bind, l2]
      rfl
    · obtain ⟨x, h1, h2, h3⟩ := m1
      obtain ⟨b, h3⟩ := h3
      exact ⟨x, by omega, h2.same (k2 _ (by omega)), b, SlcM.put h3 (Vals.not (vR.same (k1 _ (by omega)) : Vals C 53 (A.next + 1) (.var 3) repZ) (by decide)) (by omega) (fun z _ hz => k2 z hz)⟩
    · exact ⟨by omega, fun z hz hne' => by rw [k2 z (by omega), k1 z hne', k0.2 z hz]⟩
end Go.Proofs.Ytnelkapmmgggdaa.mdl

/-
  Model: opened again; read; changed.
-/
namespace Go.Proofs.Ytnelkapmmgggdaa.mdl
open Go.Am Go.Mdl
open Go.Proofs.Ytnelkapmmgggdaa.rnk (HitD hitC ordD lessB sortH ordK lessK hitC_len sortH_len)
set_option linter.unusedSimpArgs false
set_option linter.unusedVariables false
set_option linter.unusedVariables false

theorem ModV.lt {A : Mem} {q : Nat} {s : MdlS} (h : ModV A q s) : q < A.next := by obtain ⟨x, h1, _⟩ := h; exact h1
theorem ModV.v {A : Mem} {q : Nat} {s : MdlS} (h : ModV A q s) : ∃ ls, Vals A 68 q (.var 3) ls := by obtain ⟨x, _, h2, _⟩ := h; exact ⟨_, h2⟩
/-- A reply's variable is another block. -/
theorem ModV.rep {A A' : Mem} {q p : Nat} {s : MdlS} {ls : List Value} (h : ModV A q s) (vR : Vals A 53 p (.var 3) ls) (hn : A'.next = A.next) (hk : ∀ z, z ≠ p → A'.get z = A.get z) : ModV A' q s := by
  obtain ⟨x, h1, h2, b, h3⟩ := h
  have hne : q ≠ p := fun e => by
    obtain ⟨c, hc, -⟩ := h2
    rw [e] at hc
    exact Vals.not vR (by decide) _ _ _ hc
  exact ⟨x, by omega, h2.same (hk _ hne), b, SlcM.put h3 (Vals.not vR (by decide)) (by omega) (fun z _ hz => hk z hz)⟩
def reopD (s : MdlS) (told : Nat) : MdlS × Nat := (⟨s.d, if told = 0 then false else s.bad, decide (told ≠ 0)⟩, told)
noncomputable def c43 : Code := Try.f43.body.getD .skip
theorem c43_eq : Try.f43.body = some (.seq (sub c43 [0]) (.seq (.seq (sub c43 [1,0,0]) (.seq (sub c43 [1,0,1,0]) (sub c43 [1,0,1,1]))) (.seq (sub c43 [1,1,0]) (sub c43 [1,1,1])))) := by kernel_rfl
set_option maxHeartbeats 8000000 in
set_option maxRecDepth 20000 in
theorem run_reopen {A : Mem} {q told : Nat} {s : MdlS} {o : OpV} (h : ModV A q s) :
    ∃ v A', Ans tb4 43 [.pointer (some ⟨q, 0, none⟩), .agg ⟨opC o⟩, .int .i64 (told : Int)] A v A' ∧ v = repO (reopD s told).2 ∧ ModV A' q (reopD s told).1 ∧ Kq q A A' := by
  refine ans_of_W (fn_at Try.func43) c43_eq (by rw [Try.ntmps43]; simp) (by kernel_rfl) (by kernel_rfl) ?_
  obtain ⟨vO, vR, k0, n0⟩ := two_vars A o
  have hqA := h.lt
  have hm := h.kp k0
  apply W.seq
  apply W.run 20
  · intro M
    simp (config := { maxSteps := 4000000 }) (disch := first | decide +kernel | omega) only [c43, Try.f43, Option.getD_some, sub_seq0, sub_nil, T.puts_cons, Nat.reduceAdd, T.puts_nil, exec_region, runOps_cons, opF_box, ev_tmp, T.get_set, Nat.reduceEqDiff, T.get_e, if_false, if_true, evG_some, at_ptr, putT_some, opF_alloc, z53, next_alloc, runOps_nil, R.ok_bind, cells_agg]
    with_reducible rfl
  show W tb4 _ _ _
  generalize (A.alloc (rowOb 38 (opC o))).alloc (rowOb 53 repZ) = B at vO vR k0 n0 hm
  obtain ⟨C, s1, m1, n1, k1⟩ := hm.setClosed (decide (told ≠ 0))
  have vR1 : Vals C 53 (A.next + 1) (.var 3) repZ := vR.same (k1 _ (by omega))
  have lc := m1.closed
  apply W.seq
  apply W.seq
  by_cases ht : told = 0
  · subst ht
    have hr : reopD s 0 = (⟨s.d, false, false⟩, 0) := rfl
    have hdf : decide ((0 : Nat) ≠ 0) = false := rfl
    rw [hdf] at s1 lc m1
    obtain ⟨D, s2, m2, n2, k2⟩ := m1.setBad false
    have vR2 : Vals D 53 (A.next + 1) (.var 3) repZ := vR1.same (k2 _ (by omega))
    obtain ⟨E, s3, v3, l3, n3, k3⟩ := rep_store (e' := 0) (w' := 0) (x' := .slice none 0 0) vR2 rfl
    apply W.run 20
    · intro M
      simp (config := { maxSteps := 4000000 }) (disch := first | decide +kernel | omega) only [c43, Try.f43, Option.getD_some, sub_seq1, sub_seq0, sub_nil, exec_region, runOps_cons, opF_move, ev_tmp, T.get_set, Nat.reduceEqDiff, T.get_e, if_true, if_false, evG_some, putT_some, opF_neq, ev_int, opF_nilCheck, opF_fieldAddr, opF_store, putT_none, runOps_nil, R.ok_bind, binF_int, op_neq, ne_eq, not_true_eq_false, decide_false, nil_ptr, fm2, s1]
      with_reducible rfl
    show W tb4 _ _ _
    apply W.seq
    apply W.run 20
    · intro M
      simp (config := { maxSteps := 4000000 }) (disch := first | decide +kernel | omega) only [c43, Try.f43, Option.getD_some, sub_seq1, sub_seq0, sub_nil, exec_region, runOps_cons, opF_move, ev_tmp, T.get_set, Nat.reduceEqDiff, T.get_e, if_true, if_false, evG_some, putT_some, opF_nilCheck, opF_fieldAddr, opF_load, opF_un, runOps_nil, R.ok_bind, nil_ptr, fm2, lc, un_not, Bool.not_false]
      with_reducible rfl
    show W tb4 _ _ _
    apply W.run 20
    · intro M
      simp (config := { maxSteps := 4000000 }) (disch := first | decide +kernel | omega) only [c43, Try.f43, Option.getD_some, sub_seq1, sub_seq0, sub_nil, exec_cond, ev_tmp, T.get_set, Nat.reduceEqDiff, T.get_e, if_false, if_true, evG_some, exec_region, runOps_cons, opF_move, putT_some, opF_nilCheck, opF_fieldAddr, opF_store, ev_bool, putT_none, runOps_nil, R.ok_bind, nil_ptr, fm1, s2, exec_skip]
      with_reducible rfl
    show W tb4 _ _ _
    apply W.seq
    apply W.run 20
    · intro M
      simp (config := { maxSteps := 4000000 }) (disch := first | decide +kernel | omega) only [c43, Try.f43, Option.getD_some, sub_seq1, sub_seq0, sub_nil, exec_region, runOps_cons, opF_move, ev_tmp, T.get_set, Nat.reduceEqDiff, T.get_e, if_false, if_true, evG_some, putT_some, opF_build, evp, R.ok_bind, opF_store, putT_none, runOps_nil, bld53, s3]
      with_reducible rfl
    show W tb4 _ _ _
    apply W.run 20
    · intro M
      simp (config := { maxSteps := 4000000 }) (disch := first | decide +kernel | omega) only [c43, Try.f43, Option.getD_some, sub_seq1, sub_nil, exec_ret]
      with_reducible rfl
    rw [hr]
    refine ⟨.inr rfl, E, [repO 0], rfl, ?_, rfl, m2.rep vR2 n3 k3, ⟨by omega, fun z hz hne => by rw [k3 z (by omega), k2 z hne, k1 z hne, k0.2 z hz]⟩⟩
    simp only [Try.f43, resF, ev_tmp, T.get_set, T.puts_cons, T.puts_nil, Nat.reduceEqDiff, if_true, if_false, evG_some, R.ok_bind, l3]
    rfl
  · have hdf : decide (told ≠ 0) = true := decide_eq_true ht
    have hr : reopD s told = (⟨s.d, s.bad, true⟩, told) := by unfold reopD; rw [if_neg ht, hdf]
    rw [hdf] at s1 lc m1
    obtain ⟨E, s3, v3, l3, n3, k3⟩ := rep_store (e' := told) (w' := 0) (x' := .slice none 0 0) vR1 rfl
    apply W.run 20
    · intro M
      simp (config := { maxSteps := 4000000 }) (disch := first | decide +kernel | omega) only [c43, Try.f43, Option.getD_some, sub_seq1, sub_seq0, sub_nil, exec_region, runOps_cons, opF_move, ev_tmp, T.get_set, Nat.reduceEqDiff, T.get_e, if_true, if_false, evG_some, putT_some, opF_neq, ev_int, opF_nilCheck, opF_fieldAddr, opF_store, putT_none, runOps_nil, R.ok_bind, binF_int, op_neq, ne_eq, ht, not_false_eq_true, decide_true, nil_ptr, fm2, s1]
      with_reducible rfl
    show W tb4 _ _ _
    apply W.seq
    apply W.run 20
    · intro M
      simp (config := { maxSteps := 4000000 }) (disch := first | decide +kernel | omega) only [c43, Try.f43, Option.getD_some, sub_seq1, sub_seq0, sub_nil, exec_region, runOps_cons, opF_move, ev_tmp, T.get_set, Nat.reduceEqDiff, T.get_e, if_true, if_false, evG_some, putT_some, opF_nilCheck, opF_fieldAddr, opF_load, opF_un, runOps_nil, R.ok_bind, nil_ptr, fm2, lc, un_not, Bool.not_true]
      with_reducible rfl
    show W tb4 _ _ _
    apply W.run 20
    · intro M
      simp (config := { maxSteps := 4000000 }) (disch := first | decide +kernel | omega) only [c43, Try.f43, Option.getD_some, sub_seq1, sub_seq0, sub_nil, exec_cond, ev_tmp, T.get_set, Nat.reduceEqDiff, T.get_e, if_false, if_true, evG_some, exec_region, runOps_cons, opF_move, putT_some, R.ok_bind, exec_skip]
      with_reducible rfl
    show W tb4 _ _ _
    apply W.seq
    apply W.run 20
    · intro M
      simp (config := { maxSteps := 4000000 }) (disch := first | decide +kernel | omega) only [c43, Try.f43, Option.getD_some, sub_seq1, sub_seq0, sub_nil, exec_region, runOps_cons, opF_move, ev_tmp, T.get_set, Nat.reduceEqDiff, T.get_e, if_false, if_true, evG_some, putT_some, opF_build, evp, R.ok_bind, opF_store, putT_none, runOps_nil, bld53, s3]
      with_reducible rfl
    show W tb4 _ _ _
    apply W.run 20
    · intro M
      simp (config := { maxSteps := 4000000 }) (disch := first | decide +kernel | omega) only [c43, Try.f43, Option.getD_some, sub_seq1, sub_nil, exec_ret]
      with_reducible rfl
    rw [hr]
    refine ⟨.inr rfl, E, [repO told], rfl, ?_, rfl, m1.rep vR1 n3 k3, ⟨by omega, fun z hz hne => by rw [k3 z (by omega), k1 z hne, k0.2 z hz]⟩⟩
    simp only [Try.f43, resF, ev_tmp, T.get_set, T.puts_cons, T.puts_nil, Nat.reduceEqDiff, if_true, if_false, evG_some, R.ok_bind, l3]
    rfl
/-- What a model is. -/
def OkM (d : List EntD) : Prop := Asc d ∧ d.length < 50000 ∧ ∀ e ∈ d, e.word.length ≤ 900000
noncomputable def c42 : Code := Try.f42.body.getD .skip
theorem c42_eq : Try.f42.body = some (.seq (sub c42 [0]) (.seq (sub c42 [1,0]) (sub c42 [1,1]))) := by kernel_rfl
set_option maxHeartbeats 8000000 in
set_option maxRecDepth 20000 in
theorem run_read {A : Mem} {q told : Nat} {s : MdlS} {o : OpV} (h : ModV A q s) (hd : OkM s.d) :
    ∃ v A', Ans tb4 42 [.pointer (some ⟨q, 0, none⟩), .agg ⟨opC o⟩, .int .i64 (told : Int)] A v A' ∧ RepE A' (ansD s.d o) v ∧ ModV A' q s ∧ Kq q A A' := by
  refine ans_of_W (fn_at Try.func42) c42_eq (by rw [Try.ntmps42]; simp) (by kernel_rfl) (by kernel_rfl) ?_
  obtain ⟨vO, vR, k0, n0⟩ := two_vars A o
  have hqA := h.lt
  have hm := h.kp k0
  apply W.seq
  apply W.run 20
  · intro M
    simp (config := { maxSteps := 4000000 }) (disch := first | decide +kernel | omega) only [c42, Try.f42, Option.getD_some, sub_seq0, sub_nil, T.puts_cons, Nat.reduceAdd, T.puts_nil, exec_region, runOps_cons, opF_box, ev_tmp, T.get_set, Nat.reduceEqDiff, T.get_e, if_false, if_true, evG_some, at_ptr, putT_some, opF_alloc, z53, next_alloc, runOps_nil, R.ok_bind, cells_agg]
    with_reducible rfl
  show W tb4 _ _ _
  generalize (A.alloc (rowOb 38 (opC o))).alloc (rowOb 53 repZ) = B at vO vR k0 n0 hm
  obtain ⟨x, lx, hx⟩ := hm.d
  have lo := vO.all
  obtain ⟨v, C, ⟨g, hg⟩, ⟨y, rfl, hy⟩, kC⟩ := run_answer (o := o) hx hd.1 (by have := hd.2.1; omega) hd.2.2
  have vR1 : Vals C 53 (A.next + 1) (.var 3) repZ := vR.same (kC.2 _ (by omega))
  obtain ⟨D, s3, v3, l3, n3, k3⟩ := rep_store (e' := (ansD s.d o).err) (w' := (ansD s.d o).weight) (x' := y) vR1 hy.cells.2.1
  have hkn := kC.1
  apply W.seq
  apply W.runG (g) 20
  · intro M hM
    simp (config := { maxSteps := 4000000 }) (disch := first | decide +kernel | omega) only [c42, Try.f42, Option.getD_some, sub_seq1, sub_seq0, sub_nil, exec_draw, runOps_cons, opF_move, ev_tmp, T.get_set, Nat.reduceEqDiff, T.get_e, if_true, if_false, evG_some, putT_some, opF_nilCheck, opF_fieldAddr, opF_load, opF_call, evs, R.ok_bind, resK, opF_store, putT_none, runOps_nil, lo, nil_ptr, fm0, lx, hg, s3]
    with_reducible rfl
  show W tb4 _ _ _
  apply W.run 20
  · intro M
    simp (config := { maxSteps := 4000000 }) (disch := first | decide +kernel | omega) only [c42, Try.f42, Option.getD_some, sub_seq1, sub_nil, exec_ret]
    with_reducible rfl
  refine ⟨.inr rfl, D, [.agg ⟨repC (ansD s.d o).err (ansD s.d o).weight y⟩], rfl, ?_, ⟨y, rfl, HitE.put hy (q := A.next + 1) (Vals.not vR1 (by decide)) (by omega) (fun z _ hne => k3 z hne)⟩, (hm.kp kC).rep vR1 n3 k3, ⟨by omega, fun z hz hne => by rw [k3 z (by omega), kC.2 z (by omega), k0.2 z hz]⟩⟩
  simp only [Try.f42, resF, ev_tmp, T.get_set, T.puts_cons, T.puts_nil, Nat.reduceEqDiff, if_true, if_false, evG_some, R.ok_bind, l3]
end Go.Proofs.Ytnelkapmmgggdaa.mdl

/-
  Model: changed.
-/
namespace Go.Proofs.Ytnelkapmmgggdaa.mdl
open Go.Am Go.Mdl
open Go.Proofs.Ytnelkapmmgggdaa.rnk (HitD hitC ordD lessB sortH ordK lessK hitC_len sortH_len)
set_option linter.unusedSimpArgs false
set_option linter.unusedVariables false
set_option linter.unusedVariables false

/-- A change, when its error is known. -/
def chT (s : MdlS) (d' : List EntD) (e told : Nat) : MdlS × Nat :=
  if e ≠ 0 then (s, e) else if (keepD s told).2 = 0 then (⟨d', (keepD s told).1.bad, (keepD s told).1.closed⟩, 0) else keepD s told
def chE (bad : Bool) (e : Nat) : Nat := if e ≠ 7 ∧ bad = true then 11 else e
def changeD (s : MdlS) (o : OpV) (told : Nat) : MdlS × Nat := chT s (runU [o] (s.d, 0)).1 (chE s.bad (runU [o] (s.d, 0)).2) told
noncomputable def c40 : Code := Try.f40.body.getD .skip
theorem c40_eq : Try.f40.body = some (.seq (sub c40 [0]) (.seq (sub c40 [1,0]) (.seq (.seq (sub c40 [1,1,0,0]) (sub c40 [1,1,0,1])) (.seq (.seq (sub c40 [1,1,1,0,0]) (sub c40 [1,1,1,0,1])) (.seq (sub c40 [1,1,1,1,0]) (.seq (.seq (sub c40 [1,1,1,1,1,0,0]) (sub c40 [1,1,1,1,1,0,1])) (.seq (sub c40 [1,1,1,1,1,1,0]) (sub c40 [1,1,1,1,1,1,1])))))))) := by kernel_rfl
set_option maxHeartbeats 8000000 in
set_option maxRecDepth 20000 in
theorem change_tail {C : Mem} {q p told e : Nat} {s : MdlS} {o : OpV} {d' : List EntD} {y : Value} {t : T Value} {K : Ex → St → Prop} (hm : ModV C q s) (vO : VarO C p o) (vR : Vals C 53 (p + 1) (.var 3) repZ) (hp1 : p + 1 < C.next) (hy : EntE C d' y) (hq : q < p)
    (ht : Sl t [(0, .pointer (some ⟨q, 0, none⟩)), (2, .int .i64 (told : Int)), (4, .pointer (some ⟨p, 0, none⟩)), (6, .pointer (some ⟨p + 1, 0, none⟩)), (7, y), (8, .int .i64 (e : Int))])
    (hK : ∀ t' C', t'.get 6 = some (.pointer (some ⟨p + 1, 0, none⟩)) → ModV C' q (chT s d' e told).1 → C.next ≤ C'.next → (∀ z, z < C.next → z ≠ q → z ≠ p + 1 → C'.get z = C.get z) → loadF tb4 C'.get 53 (.pointer (some ⟨p + 1, 0, none⟩)) = .ok (repO (chT s d' e told).2) → K .ret ⟨t', 44, [], C', none⟩) :
    W tb4 (.seq (.seq (sub c40 [1,1,1,0,0]) (sub c40 [1,1,1,0,1])) (.seq (sub c40 [1,1,1,1,0]) (.seq (.seq (sub c40 [1,1,1,1,1,0,0]) (sub c40 [1,1,1,1,1,0,1])) (.seq (sub c40 [1,1,1,1,1,1,0]) (sub c40 [1,1,1,1,1,1,1]))))) ⟨t, 44, [], C, none⟩ K := by
  obtain ⟨g0, g2, g4, g6, g7, g8, -⟩ := ht
  apply W.seq
  apply W.seq
  by_cases he : e = 0
  · subst he
    apply W.run 20
    · intro M
      simp (config := { maxSteps := 4000000 }) (disch := first | decide +kernel | omega) only [c40, Try.f40, Option.getD_some, sub_seq1, sub_seq0, sub_nil, exec_region, runOps_cons, opF_move, ev_tmp, g8, evG_some, putT_some, opF_neq, T.get_set, if_true, ev_int, runOps_nil, R.ok_bind, binF_int, op_neq, ne_eq, not_true_eq_false, decide_false]
      with_reducible rfl
    show W tb4 _ _ _
    apply W.run 20
    · intro M
      simp (config := { maxSteps := 4000000 }) (disch := first | decide +kernel | omega) only [c40, Try.f40, Option.getD_some, sub_seq1, sub_seq0, sub_nil, exec_cond, ev_tmp, T.get_set, Nat.reduceEqDiff, if_false, if_true, evG_some, exec_seq, exec_region, runOps_cons, opF_move, putT_some, opF_build, evp, R.ok_bind, opF_store, putT_none, runOps_nil, exec_ret, exec_skip]
      with_reducible rfl
    show W tb4 _ _ _
    have lo := vO.all
    obtain ⟨v, D, ⟨g, hg⟩, rfl, mD, kD⟩ := run_keep (told := told) (o := o) hm
    have kDn := kD.1
    obtain ⟨ls, hv68⟩ := hm.v
    have hyD := hy.kq hv68 kD
    have vRD : Vals D 53 (p + 1) (.var 3) repZ := vR.same (kD.2 _ hp1 (by omega))
    have z9 : Vals (D.alloc (rowOb 53 repZ)) 53 D.next (.var 3) repZ := vals_puts (get_alloc_self _ _)
    have kA := Kp.alloc D (rowOb 53 repZ)
    obtain ⟨E, s1, v1, l1, n1, k1⟩ := rep_store (e' := (keepD s told).2) (w' := 0) (x' := .slice none 0 0) z9 rfl
    rw [next_alloc] at n1
    have kDE : Kp D E := ⟨by omega, fun z hz => by rw [k1 z (by omega), kA.2 z hz]⟩
    have mE := mD.kp kDE
    have vRE : Vals E 53 (p + 1) (.var 3) repZ := vRD.same (kDE.2 _ (by omega))
    have lE : loadF tb4 E.get 40 (.pointer (some ⟨D.next, 0, none⟩)) = .ok (.int .i64 ((keepD s told).2 : Int)) := load_vals und40' rfl v1 rfl
    have s1' : storeF tb4 (D.alloc (rowOb 53 repZ)) 53 (.pointer (some ⟨D.next, 0, none⟩)) (repO (keepD s told).2) = .ok E := s1
    apply W.seq
    apply W.runG (g) 20
    · intro M hM
      simp (config := { maxSteps := 4000000 }) (disch := first | decide +kernel | omega) only [c40, Try.f40, Option.getD_some, sub_seq1, sub_seq0, sub_nil, exec_region, runOps_cons, opF_move, ev_tmp, T.get_set, Nat.reduceEqDiff, g0, if_false, evG_some, putT_some, opF_load, g4, g2, opF_call, evs, if_true, R.ok_bind, resK, opF_alloc, z53, at_ptr, opF_store, putT_none, runOps_nil, cells_agg, lo, hg, s1']
      with_reducible rfl
    show W tb4 _ _ _
    apply W.seq
    apply W.seq
    by_cases hk : (keepD s told).2 = 0
    · rw [hk] at lE l1
      have hr : chT s d' 0 told = (⟨d', (keepD s told).1.bad, (keepD s told).1.closed⟩, 0) := by
        unfold chT; rw [if_neg (by decide), if_pos hk]
      obtain ⟨F, s2, m2, n2, k2⟩ := mE.setD (hyD.kp kDE)
      have lF : loadF tb4 F.get 53 (.pointer (some ⟨D.next, 0, none⟩)) = .ok (.agg ⟨repC 0 0 (.slice none 0 0)⟩) := by
        obtain ⟨d53, hd1, hd2⟩ := und53
        rw [hk] at v1
        exact load_all (tb := tb4) hd1 hd2 (l := repC 0 0 (.slice none 0 0)) size53 (v1.same (k2 _ (by omega)))
      have vRF : Vals F 53 (p + 1) (.var 3) repZ := vRE.same (k2 _ (by omega))
      obtain ⟨G, s3, v3, l3, n3, k3⟩ := rep_store (e' := 0) (w' := 0) (x' := .slice none 0 0) vRF rfl
      apply W.run 20
      · intro M
        simp (config := { maxSteps := 4000000 }) (disch := first | decide +kernel | omega) only [c40, Try.f40, Option.getD_some, sub_seq1, sub_seq0, sub_nil, exec_region, runOps_cons, opF_fieldAddr, ev_tmp, T.get_set, Nat.reduceEqDiff, if_false, if_true, evG_some, putT_some, opF_load, opF_eql, ev_int, runOps_nil, R.ok_bind, f53_0, lE, binF_int, op_eql, decide_true]
        with_reducible rfl
      show W tb4 _ _ _
      apply W.run 20
      · intro M
        simp (config := { maxSteps := 4000000 }) (disch := first | decide +kernel | omega) only [c40, Try.f40, Option.getD_some, sub_seq1, sub_seq0, sub_nil, exec_cond, ev_tmp, T.get_set, Nat.reduceEqDiff, if_false, if_true, evG_some, exec_region, runOps_cons, opF_move, g0, putT_some, g7, opF_nilCheck, opF_fieldAddr, opF_store, putT_none, runOps_nil, R.ok_bind, nil_ptr, fm0, s2, exec_skip]
        with_reducible rfl
      show W tb4 _ _ _
      apply W.seq
      apply W.run 20
      · intro M
        simp (config := { maxSteps := 4000000 }) (disch := first | decide +kernel | omega) only [c40, Try.f40, Option.getD_some, sub_seq1, sub_seq0, sub_nil, exec_region, runOps_cons, opF_load, ev_tmp, T.get_set, Nat.reduceEqDiff, if_false, if_true, evG_some, putT_some, opF_store, g6, putT_none, runOps_nil, R.ok_bind, lF, s3]
        with_reducible rfl
      show W tb4 _ _ _
      apply W.run 20
      · intro M
        simp (config := { maxSteps := 4000000 }) (disch := first | decide +kernel | omega) only [c40, Try.f40, Option.getD_some, sub_seq1, sub_nil, exec_ret]
        with_reducible rfl
      refine hK _ G ?_ (by rw [hr]; exact m2.rep vRF n3 k3) (by omega) (fun z hz h1 h2 => by rw [k3 z h2, k2 z h1, kDE.2 z (by omega), kD.2 z hz h1]) (by rw [hr]; exact l3)
      simp only [T.get_set, Nat.reduceEqDiff, if_false, g6]
    · have hr : chT s d' 0 told = keepD s told := by
        unfold chT; rw [if_neg (by decide), if_neg hk]
      obtain ⟨G, s3, v3, l3, n3, k3⟩ := rep_store (e' := (keepD s told).2) (w' := 0) (x' := .slice none 0 0) vRE rfl
      apply W.run 20
      · intro M
        simp (config := { maxSteps := 4000000 }) (disch := first | decide +kernel | omega) only [c40, Try.f40, Option.getD_some, sub_seq1, sub_seq0, sub_nil, exec_region, runOps_cons, opF_fieldAddr, ev_tmp, T.get_set, Nat.reduceEqDiff, if_false, if_true, evG_some, putT_some, opF_load, opF_eql, ev_int, runOps_nil, R.ok_bind, f53_0, lE, binF_int, op_eql, hk, decide_false]
        with_reducible rfl
      show W tb4 _ _ _
      apply W.run 20
      · intro M
        simp (config := { maxSteps := 4000000 }) (disch := first | decide +kernel | omega) only [c40, Try.f40, Option.getD_some, sub_seq1, sub_seq0, sub_nil, exec_cond, ev_tmp, T.get_set, Nat.reduceEqDiff, if_false, if_true, evG_some, exec_region, runOps_cons, opF_move, putT_some, exec_skip, R.ok_bind]
        with_reducible rfl
      show W tb4 _ _ _
      apply W.seq
      apply W.run 20
      · intro M
        simp (config := { maxSteps := 4000000 }) (disch := first | decide +kernel | omega) only [c40, Try.f40, Option.getD_some, sub_seq1, sub_seq0, sub_nil, exec_region, runOps_cons, opF_load, ev_tmp, T.get_set, Nat.reduceEqDiff, if_false, if_true, evG_some, putT_some, opF_store, g6, putT_none, runOps_nil, R.ok_bind, l1, s3]
        with_reducible rfl
      show W tb4 _ _ _
      apply W.run 20
      · intro M
        simp (config := { maxSteps := 4000000 }) (disch := first | decide +kernel | omega) only [c40, Try.f40, Option.getD_some, sub_seq1, sub_nil, exec_ret]
        with_reducible rfl
      refine hK _ G ?_ (by rw [hr]; exact mE.rep vRE n3 k3) (by omega) (fun z hz h1 h2 => by rw [k3 z h2, kDE.2 z (by omega), kD.2 z hz h1]) (by rw [hr]; exact l3)
      simp only [T.get_set, Nat.reduceEqDiff, if_false, g6]
  · have hr : chT s d' e told = (s, e) := by unfold chT; rw [if_pos he]
    obtain ⟨D, s1, v1, l1, n1, k1⟩ := rep_store (e' := e) (w' := 0) (x' := .slice none 0 0) vR rfl
    apply W.run 20
    · intro M
      simp (config := { maxSteps := 4000000 }) (disch := first | decide +kernel | omega) only [c40, Try.f40, Option.getD_some, sub_seq1, sub_seq0, sub_nil, exec_region, runOps_cons, opF_move, ev_tmp, g8, evG_some, putT_some, opF_neq, T.get_set, if_true, ev_int, runOps_nil, R.ok_bind, binF_int, op_neq, ne_eq, he, not_false_eq_true, decide_true]
      with_reducible rfl
    show W tb4 _ _ _
    apply W.run 20
    · intro M
      simp (config := { maxSteps := 4000000 }) (disch := first | decide +kernel | omega) only [c40, Try.f40, Option.getD_some, sub_seq1, sub_seq0, sub_nil, exec_cond, ev_tmp, T.get_set, Nat.reduceEqDiff, if_false, if_true, evG_some, exec_seq, exec_region, runOps_cons, opF_move, g8, putT_some, opF_build, evp, R.ok_bind, opF_store, g6, putT_none, runOps_nil, bld53, s1, exec_ret, exec_skip]
      with_reducible rfl
    refine hK _ D ?_ (by rw [hr]; exact hm.rep vR n1 k1) (by omega) (fun z hz h1 h2 => k1 z h2) (by rw [hr]; exact l1)
    simp only [T.get_set, Nat.reduceEqDiff, if_false, g6]
set_option maxHeartbeats 8000000 in
set_option maxRecDepth 20000 in
theorem run_change {A : Mem} {q told : Nat} {s : MdlS} {o : OpV} (h : ModV A q s) (hd : OkM s.d) :
    ∃ v A', Ans tb4 40 [.pointer (some ⟨q, 0, none⟩), .agg ⟨opC o⟩, .int .i64 (told : Int)] A v A' ∧ v = repO (changeD s o told).2 ∧ ModV A' q (changeD s o told).1 ∧ Kq q A A' := by
  refine ans_of_W (fn_at Try.func40) c40_eq (by rw [Try.ntmps40]; simp) (by kernel_rfl) (by kernel_rfl) ?_
  obtain ⟨vO, vR, k0, n0⟩ := two_vars A o
  have hqA := h.lt
  have hm := h.kp k0
  apply W.seq
  apply W.run 20
  · intro M
    simp (config := { maxSteps := 4000000 }) (disch := first | decide +kernel | omega) only [c40, Try.f40, Option.getD_some, sub_seq0, sub_nil, T.puts_cons, Nat.reduceAdd, T.puts_nil, exec_region, runOps_cons, opF_box, ev_tmp, T.get_set, Nat.reduceEqDiff, T.get_e, if_false, if_true, evG_some, at_ptr, putT_some, opF_alloc, z53, next_alloc, runOps_nil, R.ok_bind, cells_agg]
    with_reducible rfl
  show W tb4 _ _ _
  generalize (A.alloc (rowOb 38 (opC o))).alloc (rowOb 53 repZ) = B at vO vR k0 n0 hm
  obtain ⟨x, lx, hx⟩ := hm.d
  have lo := vO.all
  have kF := Kp.alloc B (rowOb 38 (opC o))
  obtain ⟨y, C, ⟨g, hg⟩, hy, kC⟩ := run_update (hx.kp kF) hd.1 ops_one (by have := hd.2.1; simp only [List.length_cons, List.length_nil]; omega)
  have kBC := kF.trans kC
  have kn := kBC.1
  obtain ⟨e, he⟩ : ∃ e, (runU [o] (s.d, 0)).2 = e := ⟨_, rfl⟩
  rw [he] at hg
  have mC := hm.kp kBC
  have vRC : Vals C 53 (A.next + 1) (.var 3) repZ := vR.same (kBC.2 _ (by omega))
  have lb := mC.bad
  have hch : changeD s o told = chT s (runU [o] (s.d, 0)).1 (chE s.bad e) told := by unfold changeD; rw [he]
  apply W.seq
  apply W.runG (g) 20
  · intro M hM
    simp (config := { maxSteps := 4000000 }) (disch := first | decide +kernel | omega) only [c40, Try.f40, Option.getD_some, sub_seq1, sub_seq0, sub_nil, exec_draw, runOps_cons, opF_move, ev_tmp, T.get_set, Nat.reduceEqDiff, T.get_e, if_true, if_false, evG_some, putT_some, opF_nilCheck, opF_fieldAddr, opF_load, opF_buildSlice, evp, R.ok_bind, opF_call, evs, resK, opF_extract, extractF, opF_assign, runOps_nil, lo, bs70, at_slc, nil_ptr, fm0, lx, hg, List.getElem?_cons_zero, List.getElem?_cons_succ]
    with_reducible rfl
  show W tb4 _ _ _
  refine W_gen [(0, .pointer (some ⟨q, 0, none⟩)), (2, .int .i64 (told : Int)), (4, .pointer (some ⟨A.next, 0, none⟩)), (6, .pointer (some ⟨A.next + 1, 0, none⟩)), (7, y), (8, .int .i64 (e : Int))] (by simp only [Sl_cons, Sl_nil, T.get_set, T.puts_cons, T.puts_nil, Nat.reduceEqDiff, Nat.reduceAdd, if_true, if_false, and_true, true_and]) fun t ht => ?_
  obtain ⟨g0, g2, g4, g6, g7, g8, -⟩ := ht
  have fin : ∀ (t : T Value), Sl t [(0, .pointer (some ⟨q, 0, none⟩)), (2, .int .i64 (told : Int)), (4, .pointer (some ⟨A.next, 0, none⟩)), (6, .pointer (some ⟨A.next + 1, 0, none⟩)), (7, y), (8, .int .i64 ((chE s.bad e : Nat) : Int))] →
      W tb4 (.seq (.seq (sub c40 [1,1,1,0,0]) (sub c40 [1,1,1,0,1])) (.seq (sub c40 [1,1,1,1,0]) (.seq (.seq (sub c40 [1,1,1,1,1,0,0]) (sub c40 [1,1,1,1,1,0,1])) (.seq (sub c40 [1,1,1,1,1,1,0]) (sub c40 [1,1,1,1,1,1,1]))))) ⟨t, 44, [], C, none⟩ (fun e s_1 => (e = .nrm ∨ e = .ret) ∧ ∃ A' vs, takeF s_1.d s_1.m = .ok A' ∧ resF tb4 s_1.t A'.get Try.f40.results.toList = .ok vs ∧ oneOf vs = repO (changeD s o told).2 ∧ ModV A' q (changeD s o told).1 ∧ Kq q A A') := by
    intro t ht
    refine change_tail mC (vO.kp kBC) vRC (by omega) hy hqA ht fun t' D h6 mD nD kD lD => ?_
    rw [hch]
    refine ⟨.inr rfl, D, [repO (chT s (runU [o] (s.d, 0)).1 (chE s.bad e) told).2], rfl, ?_, rfl, mD, ⟨by omega, fun z hz hne => by rw [kD z (by omega) hne (by omega), kBC.2 z (by omega), k0.2 z hz]⟩⟩
    simp only [Try.f40, resF, ev_tmp, T.get_set, Nat.reduceEqDiff, if_true, if_false, evG_some, R.ok_bind, h6, lD]
  apply W.seq
  apply W.seq
  by_cases h7 : e = 7
  · subst h7
    have hce : chE s.bad 7 = 7 := by unfold chE; rw [if_neg (fun h => h.1 rfl)]
    apply W.run 20
    · intro M
      simp (config := { maxSteps := 4000000 }) (disch := first | decide +kernel | (rw [wantF_guard]; simp only [wantD_some, dstAt_zero, dstAt_succ, T.get_set, T.get_e, Nat.reduceEqDiff, if_true, if_false, wantV_bool, wantV_unit, unitV, cond_true, cond_false, Bool.not_true, Bool.not_false, List.toList_toArray]) | omega) only [c40, Try.f40, Option.getD_some, sub_seq1, sub_seq0, sub_nil, exec_region, runOps_cons, opF_move, ev_tmp, g8, evG_some, putT_some, opF_neq, T.get_set, if_true, ev_int, Nat.reduceEqDiff, if_false, R.ok_bind, binF_int, op_neq, ne_eq, not_true_eq_false, decide_false, runOps_no, opF_pick, pickF, ev_bool, runOps_nil]
      with_reducible rfl
    show W tb4 _ _ _
    apply W.run 20
    · intro M
      simp (config := { maxSteps := 4000000 }) (disch := first | decide +kernel | omega) only [c40, Try.f40, Option.getD_some, sub_seq1, sub_seq0, sub_nil, exec_cond, ev_tmp, T.get_set, Nat.reduceEqDiff, if_false, if_true, evG_some, exec_region, runOps_cons, opF_assign, ev_int, putT_some, runOps_nil, R.ok_bind, exec_skip]
      with_reducible rfl
    refine fin _ ?_
    rw [hce]
    simp only [Sl_cons, Sl_nil, T.get_set, T.puts_cons, T.puts_nil, Nat.reduceEqDiff, Nat.reduceAdd, if_true, if_false, and_true, true_and, g0, g2, g4, g6, g7, g8]
  · cases hb : s.bad with
    | true =>
      have hce : chE s.bad e = 11 := by unfold chE; rw [if_pos ⟨h7, hb⟩]
      rw [hb] at lb
      apply W.run 20
      · intro M
        simp (config := { maxSteps := 4000000 }) (disch := first | decide +kernel | (rw [wantF_guard]; simp only [wantD_some, dstAt_zero, dstAt_succ, T.get_set, T.get_e, Nat.reduceEqDiff, if_true, if_false, wantV_bool, wantV_unit, unitV, cond_true, cond_false, Bool.not_true, Bool.not_false, List.toList_toArray]) | omega) only [c40, Try.f40, Option.getD_some, sub_seq1, sub_seq0, sub_nil, exec_region, runOps_cons, opF_move, ev_tmp, g8, evG_some, putT_some, opF_neq, T.get_set, if_true, ev_int, Nat.reduceEqDiff, if_false, R.ok_bind, binF_int, op_neq, ne_eq, h7, not_false_eq_true, decide_true, runOps_yes, g0, opF_nilCheck, opF_fieldAddr, opF_load, opF_pick, pickF, ev_bool, runOps_nil, nil_ptr, fm1, lb]
        with_reducible rfl
      show W tb4 _ _ _
      apply W.run 20
      · intro M
        simp (config := { maxSteps := 4000000 }) (disch := first | decide +kernel | omega) only [c40, Try.f40, Option.getD_some, sub_seq1, sub_seq0, sub_nil, exec_cond, ev_tmp, T.get_set, Nat.reduceEqDiff, if_false, if_true, evG_some, exec_region, runOps_cons, opF_assign, ev_int, putT_some, runOps_nil, R.ok_bind, exec_skip]
        with_reducible rfl
      refine fin _ ?_
      rw [hce]
      simp only [Sl_cons, Sl_nil, T.get_set, T.puts_cons, T.puts_nil, Nat.reduceEqDiff, Nat.reduceAdd, if_true, if_false, and_true, true_and, g0, g2, g4, g6, g7]
    | false =>
      have hce : chE s.bad e = e := by unfold chE; rw [if_neg (fun h => by rw [hb] at h; cases h.2)]
      rw [hb] at lb
      apply W.run 20
      · intro M
        simp (config := { maxSteps := 4000000 }) (disch := first | decide +kernel | (rw [wantF_guard]; simp only [wantD_some, dstAt_zero, dstAt_succ, T.get_set, T.get_e, Nat.reduceEqDiff, if_true, if_false, wantV_bool, wantV_unit, unitV, cond_true, cond_false, Bool.not_true, Bool.not_false, List.toList_toArray]) | omega) only [c40, Try.f40, Option.getD_some, sub_seq1, sub_seq0, sub_nil, exec_region, runOps_cons, opF_move, ev_tmp, g8, evG_some, putT_some, opF_neq, T.get_set, if_true, ev_int, Nat.reduceEqDiff, if_false, R.ok_bind, binF_int, op_neq, ne_eq, h7, not_false_eq_true, decide_true, runOps_yes, g0, opF_nilCheck, opF_fieldAddr, opF_load, opF_pick, pickF, ev_bool, runOps_nil, nil_ptr, fm1, lb]
        with_reducible rfl
      show W tb4 _ _ _
      apply W.run 20
      · intro M
        simp (config := { maxSteps := 4000000 }) (disch := first | decide +kernel | omega) only [c40, Try.f40, Option.getD_some, sub_seq1, sub_seq0, sub_nil, exec_cond, ev_tmp, T.get_set, Nat.reduceEqDiff, if_false, if_true, evG_some, exec_region, runOps_cons, opF_assign, ev_int, putT_some, runOps_nil, R.ok_bind, exec_skip]
        with_reducible rfl
      refine fin _ ?_
      rw [hce]
      simp only [Sl_cons, Sl_nil, T.get_set, T.puts_cons, T.puts_nil, Nat.reduceEqDiff, Nat.reduceAdd, if_true, if_false, and_true, true_and, g0, g2, g4, g6, g7, g8]
end Go.Proofs.Ytnelkapmmgggdaa.mdl

/-
  Model: what is done, by kinds; Do.
-/
namespace Go.Proofs.Ytnelkapmmgggdaa.mdl
open Go.Am Go.Mdl
open Go.Proofs.Ytnelkapmmgggdaa.rnk (HitD hitC ordD lessB sortH ordK lessK hitC_len sortH_len)
set_option linter.unusedSimpArgs false
set_option linter.unusedVariables false
set_option linter.unusedVariables false

def fnV (f : Nat) : Value := .func (.func f) ⟨[]⟩ ⟨[]⟩
def fk (n : Nat) : Nat := if n ≤ 2 then 40 else if n ≤ 5 then 41 else if n ≤ 7 then 42 else 43
def doE (n : Nat) : List MapEntry := (List.range n).map fun k => ⟨.int .i64 ((k : Nat) : Int), fnV (fk k), k⟩
theorem doE_succ (n : Nat) : doE (n + 1) = doE n ++ [⟨.int .i64 ((n : Nat) : Int), fnV (fk n), n⟩] := by
  unfold doE
  rw [List.range_succ, List.map_append]; rfl
theorem mm78 : makeMapF tb4 78 none = .ok (.map [] 0, .mp) := by kernel_rfl
theorem und78z : ∃ vt, tb4.und 78 = some (.map 3 vt) ∧ zeroF tb4 vt = .ok nilFn := by
  have h : (match tb4.und 78 with | some (.map k v) => Nat.beq k 3 && (match zeroF tb4 v with | .ok .nilFunc => true | _ => false) | _ => false) = true := by kernel_rfl
  cases hq : tb4.und 78 with
  | none => rw [hq] at h; cases h
  | some d =>
    rw [hq] at h
    cases d with
    | map k v =>
      simp only [Bool.and_eq_true] at h
      refine ⟨v, by rw [Nat.eq_of_beq_eq_true h.1], ?_⟩
      have h2 := h.2
      split at h2
      · rename_i e; exact e
      · cases h2
    | _ => cases h
theorem step78 {A : Mem} {q n f : Nat} (h : A.get q = some (.map (doE n) n)) (hf : findF (.int .i64 ((n : Nat) : Int)) (doE n) 0 = some none) (hv : f = fk n) : ∃ A', mapUpdateF tb4 A 78 (.map (some q)) (.int .i64 ((n : Nat) : Int)) (fnV f) = .ok A' ∧ A'.get q = some (.map (doE (n + 1)) (n + 1)) ∧ A'.next = A.next ∧ ∀ z, z ≠ q → A'.get z = A.get z := by
  obtain ⟨vt, hu, -⟩ := und78z
  subst hv
  have hk : keyOk tb4 3 (.int .i64 ((n : Nat) : Int)) = true := by unfold keyOk; rw [und3']
  refine ⟨A.set q (.map (doE (n + 1)) (n + 1)), ?_, ?_, next_set _ _ _, fun z hz => ?_⟩
  · unfold mapUpdateF
    simp only [hu, hk, cond_true, h, hf, doE_succ]
  · rw [get_setMem, if_pos rfl]
  · rw [get_setMem, if_neg hz]
theorem ev_fn (t : T Value) (f : Nat) : ev t (Operand.func f) = .ok (fnV f) := rfl
noncomputable def c27 : Code := Try.f27.body.getD .skip
theorem c27_eq : Try.f27.body = some (.seq (sub c27 [0]) (.seq (sub c27 [1,0]) (sub c27 [1,1]))) := by kernel_rfl
set_option maxHeartbeats 8000000 in
set_option maxRecDepth 20000 in
theorem run_doings {A : Mem} : ∃ v A', Ans tb4 27 [] A v A' ∧ v = .map (some A.next) ∧ A'.get A.next = some (.map (doE 9) 9) ∧ A'.next = A.next + 1 ∧ Kp A A' := by
  refine ans_of_W (fn_at Try.func27) c27_eq (by rw [Try.ntmps27]; simp) (by kernel_rfl) (by kernel_rfl) ?_
  have m0 : (A.alloc (.map [] 0)).get A.next = some (.map (doE 0) 0) := get_alloc_self _ _
  have n0 : (A.alloc (.map [] 0)).next = A.next + 1 := next_alloc _ _
  have k0 : Kp A (A.alloc (.map [] 0)) := Kp.alloc _ _
  obtain ⟨A1, i1, m1, n1, k1⟩ := step78 (n := 0) (f := 40) m0 rfl rfl
  obtain ⟨A2, i2, m2, n2, k2⟩ := step78 (n := 1) (f := 40) m1 rfl rfl
  obtain ⟨A3, i3, m3, n3, k3⟩ := step78 (n := 2) (f := 40) m2 rfl rfl
  obtain ⟨A4, i4, m4, n4, k4⟩ := step78 (n := 3) (f := 41) m3 rfl rfl
  obtain ⟨A5, i5, m5, n5, k5⟩ := step78 (n := 4) (f := 41) m4 rfl rfl
  obtain ⟨A6, i6, m6, n6, k6⟩ := step78 (n := 5) (f := 41) m5 rfl rfl
  obtain ⟨A7, i7, m7, n7, k7⟩ := step78 (n := 6) (f := 42) m6 rfl rfl
  obtain ⟨A8, i8, m8, n8, k8⟩ := step78 (n := 7) (f := 42) m7 rfl rfl
  obtain ⟨A9, i9, m9, n9, k9⟩ := step78 (n := 8) (f := 43) m8 rfl rfl
  apply W.seq
  apply W.run 20
  · intro M
    simp (config := { maxSteps := 4000000 }) (disch := first | decide +kernel | omega) only [c27, Try.f27, Option.getD_some, sub_seq0, sub_nil, T.puts_nil, exec_region, runOps_cons, opF_assign, ev_nilmap, putT_some, runOps_nil, R.ok_bind]
    with_reducible rfl
  show W tb4 _ _ _
  apply W.seq
  apply W.run 20
  · intro M
    simp (config := { maxSteps := 4000000 }) (disch := first | decide +kernel | omega) only [c27, Try.f27, Option.getD_some, sub_seq1, sub_seq0, sub_nil, exec_region, runOps_cons, opF_makeMap, evo, putT_some, opF_insert, ev_tmp, T.get_set, Nat.reduceEqDiff, T.get_e, if_false, if_true, evG_some, ev_int, ev_fn, putT_none, opF_move, opF_assign, runOps_nil, R.ok_bind, mm78, at_mp, i1, i2, i3, i4, i5, i6, i7, i8, i9]
    with_reducible rfl
  show W tb4 _ _ _
  apply W.run 20
  · intro M
    simp (config := { maxSteps := 4000000 }) (disch := first | decide +kernel | omega) only [c27, Try.f27, Option.getD_some, sub_seq1, sub_nil, exec_ret]
    with_reducible rfl
  refine ⟨.inr rfl, A9, [.map (some A.next)], rfl, ?_, rfl, m9, by omega, ⟨by omega, fun z hz => ?_⟩⟩
  · simp only [Try.f27, resF, ev_tmp, T.get_set, Nat.reduceEqDiff, if_true, if_false, evG_some, R.ok_bind]
  · rw [k9 z (by omega), k8 z (by omega), k7 z (by omega), k6 z (by omega), k5 z (by omega), k4 z (by omega), k3 z (by omega), k2 z (by omega), k1 z (by omega), k0.2 z hz]
/-- Which one does it. -/
def actK (k : Int) : Option Nat :=
  if k = 0 ∨ k = 1 ∨ k = 2 then some 40 else if k = 3 ∨ k = 4 ∨ k = 5 then some 41 else if k = 6 ∨ k = 7 then some 42 else if k = 8 then some 43 else none
def actV : Option Nat → Value
  | some f => fnV f
  | none => nilFn
theorem look78 {A : Mem} {q : Nat} {k : Int} (h : A.get q = some (.map (doE 9) 9)) : lookupF tb4 A.get 78 (.map (some q)) (.int .i64 k) true = .ok (.tuple ⟨[actV (actK k), .bool (actK k).isSome]⟩) := by
  obtain ⟨vt, hu, hz⟩ := und78z
  have hk : keyOk tb4 3 (.int .i64 k) = true := by unfold keyOk; rw [und3']
  have he : entriesF A.get (.map (some q)) = .ok (doE 9) := by unfold entriesF; simp only [h]
  have hl : lookupF tb4 A.get 78 (.map (some q)) (.int .i64 k) true = match findF (.int .i64 k) (doE 9) 0 with
      | some (some (_, v)) => .ok (.tuple ⟨[v, .bool true]⟩)
      | some none => .ok (.tuple ⟨[nilFn, .bool false]⟩)
      | none => .no 80 := by
    unfold lookupF
    simp only [hu, hk, cond_true, he, R.ok_bind, hz]
    cases findF (.int .i64 k) (doE 9) 0 with
    | none => rfl
    | some y => cases y with
      | none => rfl
      | some z => rfl
  have kq : ∀ a b : Int, keyEq (.int .i64 a) (.int .i64 b) = some (decide (a = b)) := fun a b => by
    show (bif kindEq .i64 .i64 then some (ieqF a b) else none) = _
    rw [ieqF_eq]; rfl
  have fc : ∀ (a : Int) (n : Nat) (v : Value) (c : Nat) (es : List MapEntry) (i : Nat), findF (.int .i64 a) (⟨.int .i64 ((n : Nat) : Int), v, c⟩ :: es) i = if a = ((n : Nat) : Int) then some (some (i, v)) else findF (.int .i64 a) es (i + 1) := fun a n v c es i => by
    show (match keyEq (.int .i64 a) (.int .i64 ((n : Nat) : Int)) with | some true => some (some (i, v)) | some false => findF (.int .i64 a) es (Nat.succ i) | none => none) = _
    rw [kq]
    by_cases hab : a = ((n : Nat) : Int) <;> simp [hab]
  have hE : doE 9 = [⟨.int .i64 ((0 : Nat) : Int), fnV 40, 0⟩, ⟨.int .i64 ((1 : Nat) : Int), fnV 40, 1⟩, ⟨.int .i64 ((2 : Nat) : Int), fnV 40, 2⟩, ⟨.int .i64 ((3 : Nat) : Int), fnV 41, 3⟩, ⟨.int .i64 ((4 : Nat) : Int), fnV 41, 4⟩, ⟨.int .i64 ((5 : Nat) : Int), fnV 41, 5⟩, ⟨.int .i64 ((6 : Nat) : Int), fnV 42, 6⟩, ⟨.int .i64 ((7 : Nat) : Int), fnV 42, 7⟩, ⟨.int .i64 ((8 : Nat) : Int), fnV 43, 8⟩] := rfl
  rw [hl, hE]
  simp only [fc]
  have hcase : k = 0 ∨ k = 1 ∨ k = 2 ∨ k = 3 ∨ k = 4 ∨ k = 5 ∨ k = 6 ∨ k = 7 ∨ k = 8 ∨ (k ≠ 0 ∧ k ≠ 1 ∧ k ≠ 2 ∧ k ≠ 3 ∧ k ≠ 4 ∧ k ≠ 5 ∧ k ≠ 6 ∧ k ≠ 7 ∧ k ≠ 8) := by omega
  rcases hcase with rfl | rfl | rfl | rfl | rfl | rfl | rfl | rfl | rfl | ⟨h0, h1, h2, h3, h4, h5, h6, h7, h8⟩
  · rfl
  · rfl
  · rfl
  · rfl
  · rfl
  · rfl
  · rfl
  · rfl
  · rfl
  · have ha : actK k = none := by
      unfold actK
      rw [if_neg (by omega), if_neg (by omega), if_neg (by omega), if_neg (by omega)]
    rw [ha, if_neg (by omega), if_neg (by omega), if_neg (by omega), if_neg (by omega), if_neg (by omega), if_neg (by omega), if_neg (by omega), if_neg (by omega), if_neg (by omega)]
    rfl
/-- What is done. -/
def actD (f : Nat) (s : MdlS) (o : OpV) (told : Nat) : MdlS × RepD :=
  if f = 40 then ((changeD s o told).1, ⟨(changeD s o told).2, 0, []⟩) else if f = 41 then ((keepD s told).1, ⟨(keepD s told).2, 0, []⟩) else if f = 42 then (s, ansD s.d o) else ((reopD s told).1, ⟨(reopD s told).2, 0, []⟩)
theorem actK_cases {k : Int} {f : Nat} (h : actK k = some f) : f = 40 ∨ f = 41 ∨ f = 42 ∨ f = 43 := by
  unfold actK at h
  split at h
  · injection h with h; omega
  · split at h
    · injection h with h; omega
    · split at h
      · injection h with h; omega
      · split at h
        · injection h with h; omega
        · cases h
theorem run_act {A : Mem} {q told f : Nat} {s : MdlS} {o : OpV} (hf : f = 40 ∨ f = 41 ∨ f = 42 ∨ f = 43) (h : ModV A q s) (hd : OkM s.d) :
    ∃ v A', Ans tb4 f [.pointer (some ⟨q, 0, none⟩), .agg ⟨opC o⟩, .int .i64 (told : Int)] A v A' ∧ RepE A' (actD f s o told).2 v ∧ ModV A' q (actD f s o told).1 ∧ Kq q A A' := by
  rcases hf with rfl | rfl | rfl | rfl
  · obtain ⟨v, A', hg, rfl, h1, h2⟩ := run_change (told := told) (o := o) h hd
    exact ⟨_, A', hg, repO_E _ _, h1, h2⟩
  · obtain ⟨v, A', hg, rfl, h1, h2⟩ := run_keep (told := told) (o := o) h
    exact ⟨_, A', hg, repO_E _ _, h1, h2⟩
  · exact run_read (told := told) (o := o) h hd
  · obtain ⟨v, A', hg, rfl, h1, h2⟩ := run_reopen (told := told) (o := o) h
    exact ⟨_, A', hg, repO_E _ _, h1, h2⟩
def toldD (told : Nat) : Nat := if told ≠ 10 ∧ told ≠ 13 then 0 else told
def doD (s : MdlS) (o : OpV) (told : Nat) : MdlS × RepD :=
  if s.closed = true then (s, ⟨14, 0, []⟩) else match actK o.kind with
  | none => (s, ⟨7, 0, []⟩)
  | some f => actD f s o (toldD told)
noncomputable def c16 : Code := Try.f16.body.getD .skip
theorem c16_eq : Try.f16.body = some (.seq (sub c16 [0]) (.seq (.seq (sub c16 [1,0,0]) (sub c16 [1,0,1])) (.seq (.seq (sub c16 [1,1,0,0]) (sub c16 [1,1,0,1])) (.seq (.seq (sub c16 [1,1,1,0,0]) (sub c16 [1,1,1,0,1])) (.seq (sub c16 [1,1,1,1,0]) (.seq (.seq (sub c16 [1,1,1,1,1,0,0]) (sub c16 [1,1,1,1,1,0,1])) (.seq (sub c16 [1,1,1,1,1,1,0]) (sub c16 [1,1,1,1,1,1,1])))))))) := by kernel_rfl
set_option maxHeartbeats 8000000 in
set_option maxRecDepth 20000 in
theorem do_tail {A B : Mem} {q told : Nat} {s : MdlS} {o : OpV} {t : T Value} (hq : q < A.next) (hm : ModV B q s) (hd : OkM s.d) (vO : VarO B A.next o) (vR : Vals B 53 (A.next + 1) (.var 3) repZ) (k0 : Kp A B) (n0 : B.next = A.next + 2)
    (ht : Sl t [(0, .pointer (some ⟨q, 0, none⟩)), (2, .int .i64 (told : Int)), (4, .pointer (some ⟨A.next, 0, none⟩)), (6, .pointer (some ⟨A.next + 1, 0, none⟩))]) :
    W tb4 (.seq (.seq (sub c16 [1,1,1,0,0]) (sub c16 [1,1,1,0,1])) (.seq (sub c16 [1,1,1,1,0]) (.seq (.seq (sub c16 [1,1,1,1,1,0,0]) (sub c16 [1,1,1,1,1,0,1])) (.seq (sub c16 [1,1,1,1,1,1,0]) (sub c16 [1,1,1,1,1,1,1]))))) ⟨t, 38, [], B, none⟩ (fun e s_1 => (e = .nrm ∨ e = .ret) ∧ ∃ A' vs, takeF s_1.d s_1.m = .ok A' ∧ resF tb4 s_1.t A'.get Try.f16.results.toList = .ok vs ∧ RepE A' (if s.closed = true then (s, (⟨14, 0, []⟩ : RepD)) else match actK o.kind with
      | none => (s, ⟨7, 0, []⟩)
      | some f => actD f s o told).2 (oneOf vs) ∧ ModV A' q (if s.closed = true then (s, (⟨14, 0, []⟩ : RepD)) else match actK o.kind with
      | none => (s, ⟨7, 0, []⟩)
      | some f => actD f s o told).1 ∧ Kq q A A') := by
  obtain ⟨g0, g2, g4, g6, -⟩ := ht
  have lc := hm.closed
  apply W.seq
  apply W.seq
  cases hc : s.closed with
  | true =>
    rw [hc] at lc
    rw [if_pos rfl]
    obtain ⟨C, s1, v1, l1, n1, k1⟩ := rep_store (e' := 14) (w' := 0) (x' := .slice none 0 0) vR rfl
    apply W.run 20
    · intro M
      simp (config := { maxSteps := 4000000 }) (disch := first | decide +kernel | omega) only [c16, Try.f16, Option.getD_some, sub_seq1, sub_seq0, sub_nil, exec_region, runOps_cons, opF_move, ev_tmp, g0, evG_some, putT_some, opF_nilCheck, T.get_set, if_true, opF_fieldAddr, Nat.reduceEqDiff, if_false, opF_load, runOps_nil, R.ok_bind, nil_ptr, fm2, lc]
      with_reducible rfl
    show W tb4 _ _ _
    apply W.run 20
    · intro M
      simp (config := { maxSteps := 4000000 }) (disch := first | decide +kernel | omega) only [c16, Try.f16, Option.getD_some, sub_seq1, sub_seq0, sub_nil, exec_cond, ev_tmp, T.get_set, Nat.reduceEqDiff, if_false, if_true, evG_some, exec_seq, exec_region, runOps_cons, opF_build, evp, ev_int, R.ok_bind, putT_some, opF_store, g6, putT_none, runOps_nil, bld53, s1, exec_ret, exec_skip]
      with_reducible rfl
    refine ⟨.inr rfl, C, [repO 14], rfl, ?_, repO_E _ _, hm.rep vR n1 k1, ⟨by omega, fun z hz _ => by rw [k1 z (by omega), k0.2 z hz]⟩⟩
    simp only [Try.f16, resF, ev_tmp, T.get_set, Nat.reduceEqDiff, if_true, if_false, evG_some, R.ok_bind, g6, l1]
    rfl
  | false =>
    rw [hc] at lc
    rw [if_neg (by decide)]
    obtain ⟨v, C, ⟨g, hg⟩, rfl, mm, nC, kC⟩ := run_doings (A := B)
    have lk := vO.kind
    have lk2 := (vO.kp kC).kind
    have hself := selfI o.kind
    have hlk := look78 (k := o.kind) mm
    have vRC : Vals C 53 (A.next + 1) (.var 3) repZ := vR.same (kC.2 _ (by omega))
    have mC := hm.kp kC
    apply W.run 20
    · intro M
      simp (config := { maxSteps := 4000000 }) (disch := first | decide +kernel | omega) only [c16, Try.f16, Option.getD_some, sub_seq1, sub_seq0, sub_nil, exec_region, runOps_cons, opF_move, ev_tmp, g0, evG_some, putT_some, opF_nilCheck, T.get_set, if_true, opF_fieldAddr, Nat.reduceEqDiff, if_false, opF_load, runOps_nil, R.ok_bind, nil_ptr, fm2, lc]
      with_reducible rfl
    show W tb4 _ _ _
    apply W.run 20
    · intro M
      simp (config := { maxSteps := 4000000 }) (disch := first | decide +kernel | omega) only [c16, Try.f16, Option.getD_some, sub_seq1, sub_seq0, sub_nil, exec_cond, ev_tmp, T.get_set, Nat.reduceEqDiff, if_false, if_true, evG_some, exec_seq, exec_region, runOps_cons, opF_build, evp, ev_int, R.ok_bind, putT_some, opF_store, putT_none, runOps_nil, exec_ret, exec_skip]
      with_reducible rfl
    show W tb4 _ _ _
    apply W.seq
    apply W.runG (g) 20
    · intro M hM
      simp (config := { maxSteps := 4000000 }) (disch := first | decide +kernel | omega) only [c16, Try.f16, Option.getD_some, sub_seq1, sub_seq0, sub_nil, exec_float [(2, 0)], runD_L, selF_nil, List.map_nil, hide_nil, backF_nil, selR_nil, rereadR_nil, Nat.reduceAdd, runD_P, opF_fieldAddr, ev_tmp, cond_true, R.ok_bind, opF_call, evs, resK, putT_some, T.get_set, Nat.reduceEqDiff, g4, if_false, evG_some, runD_Rd, rOp_load, if_true, selF_yes, rereadM_cons, reread_load, rereadM_nil, Bool.and_true, rOp_lookup, selF_no, opF_move, opF_extract, extractF, opF_assign, runD_end, f38_0, lk, rereadV_eq, hg, lk2, hself, hlk, List.getElem?_cons_zero, List.getElem?_cons_succ]
      with_reducible rfl
    show W tb4 _ _ _
    apply W.seq
    apply W.seq
    cases ha : actK o.kind with
    | none =>
      obtain ⟨D, s1, v1, l1, n1, k1⟩ := rep_store (e' := 7) (w' := 0) (x' := .slice none 0 0) vRC rfl
      apply W.run 20
      · intro M
        simp (config := { maxSteps := 4000000 }) (disch := first | decide +kernel | omega) only [c16, Try.f16, Option.getD_some, sub_seq1, sub_seq0, sub_nil, Option.isSome_none, exec_region, runOps_cons, opF_move, ev_tmp, T.get_set, Nat.reduceEqDiff, if_false, if_true, evG_some, putT_some, opF_un, runOps_nil, R.ok_bind, un_not, Bool.not_false]
        with_reducible rfl
      show W tb4 _ _ _
      apply W.run 20
      · intro M
        simp (config := { maxSteps := 4000000 }) (disch := first | decide +kernel | omega) only [c16, Try.f16, Option.getD_some, sub_seq1, sub_seq0, sub_nil, exec_cond, ev_tmp, T.get_set, Nat.reduceEqDiff, if_false, if_true, evG_some, exec_seq, exec_region, runOps_cons, opF_build, evp, ev_int, R.ok_bind, putT_some, opF_store, g6, putT_none, runOps_nil, bld53, s1, exec_ret, exec_skip]
        with_reducible rfl
      refine ⟨.inr rfl, D, [repO 7], rfl, ?_, repO_E _ _, mC.rep vRC n1 k1, ⟨by omega, fun z hz _ => by rw [k1 z (by omega), kC.2 z (by omega), k0.2 z hz]⟩⟩
      simp only [Try.f16, resF, ev_tmp, T.get_set, Nat.reduceEqDiff, if_true, if_false, evG_some, R.ok_bind, g6, l1]
      rfl
    | some f =>
      obtain ⟨v, D, ⟨g2', hg2⟩, ⟨y, rfl, hy⟩, mD, kD⟩ := run_act (told := told) (o := o) (actK_cases ha) mC hd
      have kDn := kD.1
      have lo := (vO.kp kC).all
      have vRD : Vals D 53 (A.next + 1) (.var 3) repZ := vRC.same (kD.2 _ (by omega) (by omega))
      obtain ⟨E, s1, v1, l1, n1, k1⟩ := rep_store (e' := (actD f s o told).2.err) (w' := (actD f s o told).2.weight) (x' := y) vRD hy.cells.2.1
      have hav : actV (some f) = .func (.func f) ⟨[]⟩ ⟨[]⟩ := rfl
      apply W.run 20
      · intro M
        simp (config := { maxSteps := 4000000 }) (disch := first | decide +kernel | omega) only [c16, Try.f16, Option.getD_some, sub_seq1, sub_seq0, sub_nil, Option.isSome_some, exec_region, runOps_cons, opF_move, ev_tmp, T.get_set, Nat.reduceEqDiff, if_false, if_true, evG_some, putT_some, opF_un, runOps_nil, R.ok_bind, un_not, Bool.not_true]
        with_reducible rfl
      show W tb4 _ _ _
      apply W.run 20
      · intro M
        simp (config := { maxSteps := 4000000 }) (disch := first | decide +kernel | omega) only [c16, Try.f16, Option.getD_some, sub_seq1, sub_seq0, sub_nil, exec_cond, ev_tmp, T.get_set, Nat.reduceEqDiff, if_false, if_true, evG_some, exec_seq, exec_region, runOps_cons, opF_build, evp, ev_int, R.ok_bind, putT_some, opF_store, putT_none, runOps_nil, exec_ret, exec_skip]
        with_reducible rfl
      show W tb4 _ _ _
      apply W.seq
      apply W.runG (g2') 20
      · intro M hM
        simp (config := { maxSteps := 4000000 }) (disch := first | decide +kernel | omega) only [c16, Try.f16, Option.getD_some, sub_seq1, sub_seq0, sub_nil, hav, exec_region, runOps_cons, opF_move, ev_tmp, T.get_set, Nat.reduceEqDiff, if_false, if_true, evG_some, putT_some, g0, opF_load, g4, g2, opF_callv, evs, R.ok_bind, resK, opF_store, g6, putT_none, runOps_nil, lo, callV_func, List.nil_append, List.append_nil, hg2, s1]
        with_reducible rfl
      show W tb4 _ _ _
      apply W.run 20
      · intro M
        simp (config := { maxSteps := 4000000 }) (disch := first | decide +kernel | omega) only [c16, Try.f16, Option.getD_some, sub_seq1, sub_nil, exec_ret]
        with_reducible rfl
      refine ⟨.inr rfl, E, [.agg ⟨repC (actD f s o told).2.err (actD f s o told).2.weight y⟩], rfl, ?_, ⟨y, rfl, HitE.put hy (q := A.next + 1) (Vals.not vRD (by decide)) (by omega) (fun z _ hne => k1 z hne)⟩, mD.rep vRD n1 k1, ⟨by omega, fun z hz hne => by rw [k1 z (by omega), kD.2 z (by omega) hne, kC.2 z (by omega), k0.2 z hz]⟩⟩
      simp only [Try.f16, resF, ev_tmp, T.get_set, Nat.reduceEqDiff, if_true, if_false, evG_some, R.ok_bind, g6, l1]
set_option maxHeartbeats 8000000 in
set_option maxRecDepth 20000 in
theorem run_Do {A : Mem} {q told : Nat} {s : MdlS} {o : OpV} (h : ModV A q s) (hd : OkM s.d) :
    ∃ v A', Ans tb4 16 [.pointer (some ⟨q, 0, none⟩), .agg ⟨opC o⟩, .int .i64 (told : Int)] A v A' ∧ RepE A' (doD s o told).2 v ∧ ModV A' q (doD s o told).1 ∧ Kq q A A' := by
  refine ans_of_W (fn_at Try.func16) c16_eq (by rw [Try.ntmps16]; simp) (by kernel_rfl) (by kernel_rfl) ?_
  obtain ⟨vO, vR, k0, n0⟩ := two_vars A o
  have hqA := h.lt
  have hm := h.kp k0
  apply W.seq
  apply W.run 20
  · intro M
    simp (config := { maxSteps := 4000000 }) (disch := first | decide +kernel | omega) only [c16, Try.f16, Option.getD_some, sub_seq0, sub_nil, T.puts_cons, Nat.reduceAdd, T.puts_nil, exec_region, runOps_cons, opF_box, ev_tmp, T.get_set, Nat.reduceEqDiff, T.get_e, if_false, if_true, evG_some, at_ptr, putT_some, opF_alloc, z53, next_alloc, runOps_nil, R.ok_bind, cells_agg]
    with_reducible rfl
  show W tb4 _ _ _
  generalize (A.alloc (rowOb 38 (opC o))).alloc (rowOb 53 repZ) = B at vO vR k0 n0 hm
  have he : eqF tb4 B.get .eql 33 (.tmp 9) (.const (.pointer none)) (.pointer (some ⟨q, 0, none⟩)) (.pointer none) = .ok (.bool false) := by kernel_rfl
  apply W.seq
  apply W.seq
  apply W.run 20
  · intro M
    simp (config := { maxSteps := 4000000 }) (disch := first | decide +kernel | omega) only [c16, Try.f16, Option.getD_some, sub_seq1, sub_seq0, sub_nil, exec_region, runOps_cons, opF_move, ev_tmp, T.get_set, Nat.reduceEqDiff, T.get_e, if_true, if_false, evG_some, putT_some, opF_eqlR, ev_nilptr, runOps_nil, R.ok_bind, he]
    with_reducible rfl
  show W tb4 _ _ _
  apply W.run 20
  · intro M
    simp (config := { maxSteps := 4000000 }) (disch := first | decide +kernel | omega) only [c16, Try.f16, Option.getD_some, sub_seq1, sub_seq0, sub_nil, exec_cond, ev_tmp, T.get_set, Nat.reduceEqDiff, T.get_e, if_false, if_true, evG_some, exec_seq, exec_region, runOps_cons, opF_build, evp, ev_int, R.ok_bind, putT_some, opF_store, putT_none, runOps_nil, exec_ret, exec_skip]
    with_reducible rfl
  show W tb4 _ _ _
  refine W_gen [(0, .pointer (some ⟨q, 0, none⟩)), (2, .int .i64 (told : Int)), (4, .pointer (some ⟨A.next, 0, none⟩)), (6, .pointer (some ⟨A.next + 1, 0, none⟩))] (by simp only [Sl_cons, Sl_nil, T.get_set, T.puts_cons, T.puts_nil, Nat.reduceEqDiff, Nat.reduceAdd, if_true, if_false, and_true, true_and]) fun t ht => ?_
  obtain ⟨g0, g2, g4, g6, -⟩ := ht
  apply W.seq
  apply W.seq
  unfold doD
  by_cases h10 : told = 10
  · subst h10
    have htl : toldD 10 = 10 := rfl
    rw [htl]
    apply W.run 20
    · intro M
      simp (config := { maxSteps := 4000000 }) (disch := first | decide +kernel | (rw [wantF_guard]; simp only [wantD_some, dstAt_zero, dstAt_succ, T.get_set, T.get_e, Nat.reduceEqDiff, if_true, if_false, wantV_bool, wantV_unit, unitV, cond_true, cond_false, Bool.not_true, Bool.not_false, List.toList_toArray]) | omega) only [c16, Try.f16, Option.getD_some, sub_seq1, sub_seq0, sub_nil, exec_region, runOps_cons, opF_move, ev_tmp, g2, evG_some, putT_some, opF_neq, T.get_set, if_true, ev_int, Nat.reduceEqDiff, if_false, R.ok_bind, binF_int, op_neq, ne_eq, not_true_eq_false, decide_false, runOps_no, opF_pick, pickF, ev_bool, runOps_nil]
      with_reducible rfl
    show W tb4 _ _ _
    apply W.run 20
    · intro M
      simp (config := { maxSteps := 4000000 }) (disch := first | decide +kernel | omega) only [c16, Try.f16, Option.getD_some, sub_seq1, sub_seq0, sub_nil, exec_cond, ev_tmp, T.get_set, Nat.reduceEqDiff, if_false, if_true, evG_some, exec_region, runOps_cons, opF_assign, ev_int, putT_some, runOps_nil, R.ok_bind, exec_skip]
      with_reducible rfl
    refine do_tail hqA hm hd vO vR k0 n0 ?_
    simp only [Sl_cons, Sl_nil, T.get_set, T.puts_cons, T.puts_nil, Nat.reduceEqDiff, Nat.reduceAdd, if_true, if_false, and_true, true_and, g0, g2, g4, g6]
  · by_cases h13 : told = 13
    · subst h13
      have htl : toldD 13 = 13 := rfl
      rw [htl]
      apply W.run 20
      · intro M
        simp (config := { maxSteps := 4000000 }) (disch := first | decide +kernel | (rw [wantF_guard]; simp only [wantD_some, dstAt_zero, dstAt_succ, T.get_set, T.get_e, Nat.reduceEqDiff, if_true, if_false, wantV_bool, wantV_unit, unitV, cond_true, cond_false, Bool.not_true, Bool.not_false, List.toList_toArray]) | omega) only [c16, Try.f16, Option.getD_some, sub_seq1, sub_seq0, sub_nil, exec_region, runOps_cons, opF_move, ev_tmp, g2, evG_some, putT_some, opF_neq, T.get_set, if_true, ev_int, Nat.reduceEqDiff, if_false, R.ok_bind, binF_int, op_neq, ne_eq, not_false_eq_true, decide_true, runOps_yes, opF_pick, pickF, ev_bool, runOps_nil, not_true_eq_false, decide_false]
        with_reducible rfl
      show W tb4 _ _ _
      apply W.run 20
      · intro M
        simp (config := { maxSteps := 4000000 }) (disch := first | decide +kernel | omega) only [c16, Try.f16, Option.getD_some, sub_seq1, sub_seq0, sub_nil, exec_cond, ev_tmp, T.get_set, Nat.reduceEqDiff, if_false, if_true, evG_some, exec_region, runOps_cons, opF_assign, ev_int, putT_some, runOps_nil, R.ok_bind, exec_skip]
        with_reducible rfl
      refine do_tail hqA hm hd vO vR k0 n0 ?_
      simp only [Sl_cons, Sl_nil, T.get_set, T.puts_cons, T.puts_nil, Nat.reduceEqDiff, Nat.reduceAdd, if_true, if_false, and_true, true_and, g0, g2, g4, g6]
    · have htl : toldD told = 0 := by unfold toldD; rw [if_pos ⟨h10, h13⟩]
      rw [htl]
      apply W.run 20
      · intro M
        simp (config := { maxSteps := 4000000 }) (disch := first | decide +kernel | (rw [wantF_guard]; simp only [wantD_some, dstAt_zero, dstAt_succ, T.get_set, T.get_e, Nat.reduceEqDiff, if_true, if_false, wantV_bool, wantV_unit, unitV, cond_true, cond_false, Bool.not_true, Bool.not_false, List.toList_toArray]) | omega) only [c16, Try.f16, Option.getD_some, sub_seq1, sub_seq0, sub_nil, exec_region, runOps_cons, opF_move, ev_tmp, g2, evG_some, putT_some, opF_neq, T.get_set, if_true, ev_int, Nat.reduceEqDiff, if_false, R.ok_bind, binF_int, op_neq, ne_eq, h10, not_false_eq_true, decide_true, runOps_yes, opF_pick, pickF, ev_bool, runOps_nil, h13]
        with_reducible rfl
      show W tb4 _ _ _
      apply W.run 20
      · intro M
        simp (config := { maxSteps := 4000000 }) (disch := first | decide +kernel | omega) only [c16, Try.f16, Option.getD_some, sub_seq1, sub_seq0, sub_nil, exec_cond, ev_tmp, T.get_set, Nat.reduceEqDiff, if_false, if_true, evG_some, exec_region, runOps_cons, opF_assign, ev_int, putT_some, runOps_nil, R.ok_bind, exec_skip]
        with_reducible rfl
      refine do_tail hqA hm hd vO vR k0 n0 ?_
      simp only [Sl_cons, Sl_nil, T.get_set, T.puts_cons, T.puts_nil, Nat.reduceEqDiff, Nat.reduceAdd, if_true, if_false, and_true, true_and, g0, g4, g6]
end Go.Proofs.Ytnelkapmmgggdaa.mdl

/-
  Model: do; is it poisoned, closed; its words; two replies are alike.
-/
namespace Go.Proofs.Ytnelkapmmgggdaa.mdl
open Go.Am Go.Mdl
open Go.Proofs.Ytnelkapmmgggdaa.rnk (HitD hitC ordD lessB sortH ordK lessK hitC_len sortH_len)
set_option linter.unusedSimpArgs false
set_option linter.unusedVariables false
set_option linter.unusedVariables false

theorem bld38k {k : Int} {w : List UInt8} {n : Nat} : buildF tb4 38 [(0, .int .i64 k), (1, strOf w), (2, .int .u32 (n : Int))] = .ok (.agg ⟨opC ⟨k, w, n, 0, 0⟩⟩) := by kernel_rfl
theorem fld53 {e w : Nat} {x : Value} : fieldF tb4 53 (.agg ⟨repC e w x⟩) 0 = .ok (.int .i64 (e : Int)) := by kernel_rfl
noncomputable def c14 : Code := Try.f14.body.getD .skip
theorem c14_eq : Try.f14.body = some (.seq (sub c14 [0]) (.seq (sub c14 [1,0]) (sub c14 [1,1]))) := by kernel_rfl
set_option maxHeartbeats 4000000 in
set_option maxRecDepth 20000 in
theorem run_do {A : Mem} {q told wt : Nat} {k : Int} {w : List UInt8} {s : MdlS} (h : ModV A q s) (hd : OkM s.d) :
    ∃ v A', Ans tb4 14 [.pointer (some ⟨q, 0, none⟩), .int .i64 k, strOf w, .int .u32 (wt : Int), .int .i64 (told : Int)] A v A' ∧ v = .int .i64 (((doD s ⟨k, w, wt, 0, 0⟩ told).2.err : Nat) : Int) ∧ ModV A' q (doD s ⟨k, w, wt, 0, 0⟩ told).1 ∧ Kq q A A' := by
  refine ans_of_W (fn_at Try.func14) c14_eq (by rw [Try.ntmps14]; simp) (by kernel_rfl) (by kernel_rfl) ?_
  obtain ⟨v, B, ⟨g, hg⟩, ⟨y, rfl, hy⟩, mB, kB⟩ := run_Do (told := told) (o := ⟨k, w, wt, 0, 0⟩) h hd
  apply W.seq
  apply W.run 20
  · intro M
    simp (config := { maxSteps := 4000000 }) (disch := first | decide +kernel | omega) only [c14, Try.f14, Option.getD_some, sub_seq0, sub_nil, T.puts_cons, Nat.reduceAdd, T.puts_nil, exec_region, runOps_cons, opF_assign, ev_int, putT_some, runOps_nil, R.ok_bind]
    with_reducible rfl
  show W tb4 _ _ _
  apply W.seq
  apply W.runG (g) 20
  · intro M hM
    simp (config := { maxSteps := 4000000 }) (disch := first | decide +kernel | omega) only [c14, Try.f14, Option.getD_some, sub_seq1, sub_seq0, sub_nil, exec_region, runOps_cons, opF_move, ev_tmp, T.get_set, Nat.reduceEqDiff, T.get_e, if_true, if_false, evG_some, putT_some, opF_build, evp, R.ok_bind, opF_call, evs, resK, opF_field, opF_assign, runOps_nil, bld38k, hg, fld53]
    with_reducible rfl
  show W tb4 _ _ _
  apply W.run 20
  · intro M
    simp (config := { maxSteps := 4000000 }) (disch := first | decide +kernel | omega) only [c14, Try.f14, Option.getD_some, sub_seq1, sub_nil, exec_ret]
    with_reducible rfl
  refine ⟨.inr rfl, B, [.int .i64 (((doD s ⟨k, w, wt, 0, 0⟩ told).2.err : Nat) : Int)], rfl, ?_, rfl, mB, kB⟩
  simp only [Try.f14, resF, ev_tmp, T.get_set, Nat.reduceEqDiff, if_true, if_false, evG_some, R.ok_bind]
noncomputable def c15 : Code := Try.f15.body.getD .skip
theorem c15_eq : Try.f15.body = some (.seq (sub c15 [0]) (.seq (sub c15 [1,0]) (sub c15 [1,1]))) := by kernel_rfl
set_option maxHeartbeats 4000000 in
set_option maxRecDepth 20000 in
theorem run_poisoned {A : Mem} {q : Nat} {s : MdlS} (h : ModV A q s) : Ans tb4 15 [.pointer (some ⟨q, 0, none⟩)] A (.bool s.bad) A := by
  obtain ⟨v, A', hg, rfl, rfl⟩ : ∃ v A', Ans tb4 15 [.pointer (some ⟨q, 0, none⟩)] A v A' ∧ v = .bool s.bad ∧ A' = A := by
    refine ans_of_W (fn_at Try.func15) c15_eq (by rw [Try.ntmps15]; simp) (by kernel_rfl) (by kernel_rfl) ?_
    have lb := h.bad
    have he : eqF tb4 A.get .eql 33 (.tmp 3) (.const (.pointer none)) (.pointer (some ⟨q, 0, none⟩)) (.pointer none) = .ok (.bool false) := by kernel_rfl
    apply W.seq
    apply W.run 20
    · intro M
      simp (config := { maxSteps := 4000000 }) (disch := first | decide +kernel | omega) only [c15, Try.f15, Option.getD_some, sub_seq0, sub_nil, T.puts_cons, Nat.reduceAdd, T.puts_nil, exec_region, runOps_cons, opF_assign, ev_bool, putT_some, runOps_nil, R.ok_bind]
      with_reducible rfl
    show W tb4 _ _ _
    apply W.seq
    apply W.run 20
    · intro M
      simp (config := { maxSteps := 4000000 }) (disch := first | decide +kernel | (rw [wantF_guard]; simp only [wantD_some, dstAt_zero, dstAt_succ, T.get_set, T.get_e, Nat.reduceEqDiff, if_true, if_false, wantV_bool, wantV_unit, unitV, cond_true, cond_false, Bool.not_true, Bool.not_false, List.toList_toArray]) | omega) only [c15, Try.f15, Option.getD_some, sub_seq1, sub_seq0, sub_nil, exec_region, runOps_cons, opF_move, ev_tmp, T.get_set, Nat.reduceEqDiff, T.get_e, if_true, if_false, evG_some, putT_some, opF_eqlR, ev_nilptr, R.ok_bind, he, runOps_yes, opF_nilCheck, opF_fieldAddr, opF_load, opF_pick, pickF, ev_bool, opF_assign, runOps_nil, nil_ptr, fm1, lb]
      with_reducible rfl
    show W tb4 _ _ _
    apply W.run 20
    · intro M
      simp (config := { maxSteps := 4000000 }) (disch := first | decide +kernel | omega) only [c15, Try.f15, Option.getD_some, sub_seq1, sub_nil, exec_ret]
      with_reducible rfl
    refine ⟨.inr rfl, A, [.bool s.bad], rfl, ?_, rfl, rfl⟩
    simp only [Try.f15, resF, ev_tmp, T.get_set, Nat.reduceEqDiff, if_true, if_false, evG_some, R.ok_bind]
  exact hg
noncomputable def c19 : Code := Try.f19.body.getD .skip
theorem c19_eq : Try.f19.body = some (.seq (sub c19 [0]) (.seq (sub c19 [1,0]) (sub c19 [1,1]))) := by kernel_rfl
set_option maxHeartbeats 4000000 in
set_option maxRecDepth 20000 in
theorem run_closed {A : Mem} {q : Nat} {s : MdlS} (h : ModV A q s) : Ans tb4 19 [.pointer (some ⟨q, 0, none⟩)] A (.bool s.closed) A := by
  obtain ⟨v, A', hg, rfl, rfl⟩ : ∃ v A', Ans tb4 19 [.pointer (some ⟨q, 0, none⟩)] A v A' ∧ v = .bool s.closed ∧ A' = A := by
    refine ans_of_W (fn_at Try.func19) c19_eq (by rw [Try.ntmps19]; simp) (by kernel_rfl) (by kernel_rfl) ?_
    have lb := h.closed
    have he : eqF tb4 A.get .eql 33 (.tmp 3) (.const (.pointer none)) (.pointer (some ⟨q, 0, none⟩)) (.pointer none) = .ok (.bool false) := by kernel_rfl
    apply W.seq
    apply W.run 20
    · intro M
      simp (config := { maxSteps := 4000000 }) (disch := first | decide +kernel | omega) only [c19, Try.f19, Option.getD_some, sub_seq0, sub_nil, T.puts_cons, Nat.reduceAdd, T.puts_nil, exec_region, runOps_cons, opF_assign, ev_bool, putT_some, runOps_nil, R.ok_bind]
      with_reducible rfl
    show W tb4 _ _ _
    apply W.seq
    apply W.run 20
    · intro M
      simp (config := { maxSteps := 4000000 }) (disch := first | decide +kernel | (rw [wantF_guard]; simp only [wantD_some, dstAt_zero, dstAt_succ, T.get_set, T.get_e, Nat.reduceEqDiff, if_true, if_false, wantV_bool, wantV_unit, unitV, cond_true, cond_false, Bool.not_true, Bool.not_false, List.toList_toArray]) | omega) only [c19, Try.f19, Option.getD_some, sub_seq1, sub_seq0, sub_nil, exec_region, runOps_cons, opF_move, ev_tmp, T.get_set, Nat.reduceEqDiff, T.get_e, if_true, if_false, evG_some, putT_some, opF_eqlR, ev_nilptr, R.ok_bind, he, runOps_yes, opF_nilCheck, opF_fieldAddr, opF_load, opF_pick, pickF, ev_bool, opF_assign, runOps_nil, nil_ptr, fm2, lb]
      with_reducible rfl
    show W tb4 _ _ _
    apply W.run 20
    · intro M
      simp (config := { maxSteps := 4000000 }) (disch := first | decide +kernel | omega) only [c19, Try.f19, Option.getD_some, sub_seq1, sub_nil, exec_ret]
      with_reducible rfl
    refine ⟨.inr rfl, A, [.bool s.closed], rfl, ?_, rfl, rfl⟩
    simp only [Try.f19, resF, ev_tmp, T.get_set, Nat.reduceEqDiff, if_true, if_false, evG_some, R.ok_bind]
  exact hg
set_option maxHeartbeats 4000000 in
set_option maxRecDepth 20000 in
theorem run_wordsM {A : Mem} {q : Nat} {s : MdlS} (h : ModV A q s) (hl : s.d.length < 1000000) : ∃ y A', Ans tb4 9 [.pointer (some ⟨q, 0, none⟩)] A y A' ∧ EntE A' (Go.Mdl.live s.d) y ∧ Kp A A' := by
  obtain ⟨x, hld, b, hb⟩ := h.d
  obtain ⟨y2, A2, b2, ⟨g2, hg2⟩, w2, n2, o2, hn2, k2⟩ := run_live hb hb.lt hl
  obtain ⟨v, A', hg, rfl, rfl⟩ : ∃ v A', Ans tb4 9 [.pointer (some ⟨q, 0, none⟩)] A v A' ∧ v = y2 ∧ A' = A2 := by
    refine ans_of_W (fn_at Try.func9) c9_eq (by rw [Try.ntmps9]; simp) (by kernel_rfl) (by kernel_rfl) ?_
    apply W.seq
    apply W.run 20
    · intro M
      simp (config := { maxSteps := 4000000 }) (disch := first | decide +kernel | omega) only [c9, Try.f9, Option.getD_some, sub_seq0, sub_nil, T.puts_cons, Nat.reduceAdd, T.puts_nil, exec_region, runOps_cons, opF_assign, ev_nilslice, putT_some, runOps_nil, R.ok_bind]
      with_reducible rfl
    show W tb4 _ _ _
    apply W.seq
    apply W.seq
    have he : eqF tb4 A.get .eql 33 (.tmp 3) (.const (.pointer none)) (.pointer (some ⟨q, 0, none⟩)) (.pointer none) = .ok (.bool false) := by kernel_rfl
    apply W.run 20
    · intro M
      simp (config := { maxSteps := 4000000 }) (disch := first | decide +kernel | omega) only [c9, Try.f9, Option.getD_some, sub_seq1, sub_seq0, sub_nil, exec_region, runOps_cons, opF_move, ev_tmp, T.get_set, Nat.reduceEqDiff, T.get_e, if_true, if_false, evG_some, putT_some, opF_eqlR, ev_nilptr, runOps_nil, R.ok_bind, he]
      with_reducible rfl
    show W tb4 _ _ _
    apply W.run 20
    · intro M
      simp (config := { maxSteps := 4000000 }) (disch := first | decide +kernel | omega) only [c9, Try.f9, Option.getD_some, sub_seq1, sub_seq0, sub_nil, exec_cond, ev_tmp, T.get_set, Nat.reduceEqDiff, T.get_e, if_false, if_true, evG_some, exec_seq, exec_region, runOps_cons, opF_assign, ev_nilslice, putT_some, runOps_nil, R.ok_bind, exec_ret, exec_skip]
      with_reducible rfl
    show W tb4 _ _ _
    apply W.seq
    apply W.runG (g2) 20
    · intro M hM
      simp (config := { maxSteps := 4000000 }) (disch := first | decide +kernel | omega) only [c9, Try.f9, Option.getD_some, sub_seq1, sub_seq0, sub_nil, exec_region, runOps_cons, opF_move, ev_tmp, T.get_set, Nat.reduceEqDiff, T.get_e, if_true, if_false, evG_some, putT_some, opF_nilCheck, opF_fieldAddr, opF_load, opF_call, evs, R.ok_bind, resK, opF_assign, runOps_nil, nil_ptr, fm0, hld, hg2]
      with_reducible rfl
    show W tb4 _ _ _
    apply W.run 20
    · intro M
      simp (config := { maxSteps := 4000000 }) (disch := first | decide +kernel | omega) only [c9, Try.f9, Option.getD_some, sub_seq1, sub_nil, exec_ret]
      with_reducible rfl
    refine ⟨.inr rfl, _, [y2], rfl, ?_, rfl, rfl⟩
    simp only [Try.f9, resF, ev_tmp, T.get_set, Nat.reduceEqDiff, if_true, if_false, evG_some, R.ok_bind]
  exact ⟨_, _, hg, ⟨b2, w2⟩, n2, k2⟩
/-! ### Replies -/
theorem foldT_len (n : Int) : ∀ (l m : List HitD), (l.foldl (stepT n) m).length ≤ m.length + l.length
  | [], m => Nat.le_refl _
  | x :: l, m => by
    have h1 := foldT_len n l (stepT n m x)
    have h2 := stepT_len (n := n) (w := m) (x := x)
    simp only [List.foldl_cons, List.length_cons]
    omega
theorem topL_len (n : Int) (l : List HitD) : (topL n l).length ≤ l.length := by
  unfold topL
  rw [sortH_len]
  have := foldT_len n l []
  simpa using this
theorem ansD_len (d : List EntD) (o : OpV) : (ansD d o).hits.length ≤ d.length := by
  unfold ansD
  split
  · exact Nat.zero_le _
  · split
    · split
      · exact Nat.zero_le _
      · exact Nat.le_trans (topL_len _ _) (nearL_len _ _ _)
    · exact Nat.zero_le _
theorem shape63 : fieldsOf (tb4.und 63) = [(false, 45, 0), (false, 3, 3)] := by kernel_rfl
theorem eqm63 (x y : Operand) (a b : Array Value) : eqMay tb4 63 x y (.agg a) (.agg b) = true := by
  show (!tb4.P.eqGuardType tb4.P.depth 63) = true
  have : tb4.P.eqGuardType tb4.P.depth 63 = false := by decide +kernel
  rw [this]; rfl
theorem equal45d {g : Nat → Option Ob} {e : EntD} {d : Nat} : equalF tb4 g (d + 2) 45 (.agg ⟨entC e⟩) (.agg ⟨entC e⟩) = .ok true := by
  rw [equal_struct (by kernel_rfl) shape45 (by kernel_rfl)]
  simp only [fieldsEqS, cond_false, entC]
  rw [part_one und9' rfl rfl, part_one (o := 1) und24' rfl rfl, part_one (o := 2) und4' rfl rfl]
  simp only [R.ok_bind, equal_int (tb := tb4) (t := 24) und24', equal_str (tb := tb4) (t := 9) und9', equal_bool (tb := tb4) (t := 4) und4', decide_true]
theorem equal63 {g : Nat → Option Ob} {h : HitD} : equalF tb4 g 100 63 (.agg ⟨hitC h⟩) (.agg ⟨hitC h⟩) = .ok true := by
  rw [equal_struct (by kernel_rfl) shape63 (by kernel_rfl)]
  obtain ⟨d45, hd1, hd2⟩ := und45'
  have p0 : partF tb4 45 (hitC h) 0 = .ok (.agg ⟨entC h.e⟩) := by
    unfold partF
    simp only [hd1, hd2, cond_true, size45', R.ok_bind]
    rfl
  simp only [fieldsEqS, cond_false]
  rw [p0, part_one (o := 3) (v := .int .i64 (h.dist : Int)) und3' rfl rfl]
  simp only [R.ok_bind, equal45d, equal_int (tb := tb4) (t := 3) und3', decide_true]
theorem neq63 {g : Nat → Option Ob} {x y : Operand} {h : HitD} : eqF tb4 g .neq 63 x y (.agg ⟨hitC h⟩) (.agg ⟨hitC h⟩) = .ok (.bool false) := by
  unfold eqF
  rw [eqm63, cond_true]
  simp only []
  rw [equal63]
  rfl
noncomputable def c17 : Code := Try.f17.body.getD .skip
noncomputable def c17b1 : Code := sub c17 [1,1,0,1,0,0]
theorem c17_eq : Try.f17.body = some (.seq (sub c17 [0]) (.seq (.seq (sub c17 [1,0,0]) (sub c17 [1,0,1])) (.seq (.seq (sub c17 [1,1,0,0]) (.block 0 (.loop c17b1))) (.seq (sub c17 [1,1,1,0]) (sub c17 [1,1,1,1]))))) := by kernel_rfl
theorem c17b1_eq : c17b1 = .seq (.seq (sub c17b1 [0,0]) (sub c17b1 [0,1])) (.seq (.block 1 (.seq (sub c17b1 [1,0,0,0]) (sub c17b1 [1,0,0,1]))) (sub c17b1 [1,1])) := by kernel_rfl
set_option maxHeartbeats 8000000 in
set_option maxRecDepth 20000 in
theorem run_rsame {A : Mem} {r : RepD} {v v' : Value} (h : RepE A r v) (h' : RepE A r v') (hl : r.hits.length < 1000000) : ∃ A', Ans tb4 17 [v, v'] A (.bool true) A' ∧ Kp A A' := by
  obtain ⟨x, rfl, b, hx⟩ := h
  obtain ⟨x', rfl, b', hx'⟩ := h'
  obtain ⟨v, A', hg, rfl, hk⟩ : ∃ v A', Ans tb4 17 [.agg ⟨repC r.err r.weight x⟩, .agg ⟨repC r.err r.weight x'⟩] A v A' ∧ v = .bool true ∧ Kp A A' := by
    refine ans_of_W (fn_at Try.func17) c17_eq (by rw [Try.ntmps17]; simp) (by kernel_rfl) (by kernel_rfl) ?_
    have k0 : Kp A ((A.alloc (rowOb 53 (repC r.err r.weight x))).alloc (rowOb 53 (repC r.err r.weight x'))) := (Kp.alloc _ _).trans (Kp.alloc _ _)
    have v1 : Vals ((A.alloc (rowOb 53 (repC r.err r.weight x))).alloc (rowOb 53 (repC r.err r.weight x'))) 53 A.next (.var 3) (repC r.err r.weight x) := (vals_puts (get_alloc_self _ _)).same (get_alloc_ne (by rw [next_alloc]; omega))
    have v2 : Vals ((A.alloc (rowOb 53 (repC r.err r.weight x))).alloc (rowOb 53 (repC r.err r.weight x'))) 53 (A.next + 1) (.var 3) (repC r.err r.weight x') := vals_puts (get_alloc_self _ _)
    apply W.seq
    apply W.run 20
    · intro M
      simp (config := { maxSteps := 4000000 }) (disch := first | decide +kernel | omega) only [c17, Try.f17, Option.getD_some, sub_seq0, sub_nil, T.puts_cons, Nat.reduceAdd, T.puts_nil, exec_region, runOps_cons, opF_box, ev_tmp, T.get_set, Nat.reduceEqDiff, T.get_e, if_true, if_false, evG_some, at_ptr, putT_some, next_alloc, opF_assign, ev_bool, runOps_nil, R.ok_bind, cells_agg]
      with_reducible rfl
    show W tb4 _ _ _
    generalize (A.alloc (rowOb 53 (repC r.err r.weight x))).alloc (rowOb 53 (repC r.err r.weight x')) = B at k0 v1 v2
    have e1 : loadF tb4 B.get 40 (.pointer (some ⟨A.next, 0, none⟩)) = .ok (.int .i64 (r.err : Int)) := load_vals und40' rfl v1 rfl
    have e2 : loadF tb4 B.get 40 (.pointer (some ⟨A.next + 1, 0, none⟩)) = .ok (.int .i64 (r.err : Int)) := load_vals und40' rfl v2 rfl
    have w1 : loadF tb4 B.get 24 (.pointer (some ⟨A.next, 1, none⟩)) = .ok (.int .u32 (r.weight : Int)) := load_vals und24' rfl v1 rfl
    have w2 : loadF tb4 B.get 24 (.pointer (some ⟨A.next + 1, 1, none⟩)) = .ok (.int .u32 (r.weight : Int)) := load_vals und24' rfl v2 rfl
    have x1 : loadF tb4 B.get 51 (.pointer (some ⟨A.next, 2, none⟩)) = .ok x := load_vals und51 rfl v1 rfl
    have x2 : loadF tb4 B.get 51 (.pointer (some ⟨A.next + 1, 2, none⟩)) = .ok x' := load_vals und51 rfl v2 rfl
    have l1 := HitS.lens hx
    have l2 := HitS.lens hx'
    have hxB : HitS B b r.hits x := HitS.kp hx k0
    have hxB' : HitS B b' r.hits x' := HitS.kp hx' k0
    apply W.seq
    apply W.seq
    apply W.run 20
    · intro M
      simp (config := { maxSteps := 4000000 }) (disch := first | decide +kernel | (rw [wantF_guard]; simp only [wantD_some, dstAt_zero, dstAt_succ, T.get_set, T.get_e, Nat.reduceEqDiff, if_true, if_false, wantV_bool, wantV_unit, unitV, cond_true, cond_false, Bool.not_true, Bool.not_false, List.toList_toArray]) | omega) only [c17, Try.f17, Option.getD_some, sub_seq1, sub_seq0, sub_nil, exec_region, runOps_cons, opF_fieldAddr, ev_tmp, T.get_set, Nat.reduceEqDiff, T.get_e, if_false, if_true, evG_some, putT_some, opF_load, opF_neq, opF_move, R.ok_bind, f53_0, e2, e1, binF_int, op_neq, ne_eq, not_true_eq_false, decide_false, runOps_yes, opF_pick, pickF, ev_bool, f53_1, w2, w1, opF_len, evs, runOps_nil, f53_2, x2, l2, x1, l1]
      with_reducible rfl
    show W tb4 _ _ _
    apply W.run 20
    · intro M
      simp (config := { maxSteps := 4000000 }) (disch := first | decide +kernel | omega) only [c17, Try.f17, Option.getD_some, sub_seq1, sub_seq0, sub_nil, exec_cond, ev_tmp, T.get_set, Nat.reduceEqDiff, T.get_e, if_false, if_true, evG_some, exec_seq, exec_region, runOps_cons, opF_assign, ev_bool, putT_some, runOps_nil, R.ok_bind, exec_ret, exec_skip]
      with_reducible rfl
    show W tb4 _ _ _
    apply W.seq
    apply W.seq
    apply W.run 20
    · intro M
      simp (config := { maxSteps := 4000000 }) (disch := first | decide +kernel | omega) only [c17, Try.f17, Option.getD_some, sub_seq1, sub_seq0, sub_nil, exec_region, runOps_cons, opF_assign, ev_int, putT_some, runOps_nil, R.ok_bind]
      with_reducible rfl
    show W tb4 _ _ _
    apply W.block
    refine W.up r.hits.length (fun i t C => C = B ∧ Sl t [(2, .pointer (some ⟨A.next, 0, none⟩)), (3, .pointer (some ⟨A.next + 1, 0, none⟩)), (5, .int .i64 (i : Int))]) ?_ (Nat.zero_le _) ⟨rfl, ?_⟩
    · rintro i t C hi ⟨rfl, g2, g3, g5, -⟩
      rw [c17b1_eq]
      apply W.seq
      apply W.seq
      by_cases hlt : i < r.hits.length
      · have ek : r.hits[i]? = some r.hits[i] := List.getElem?_eq_getElem hlt
        obtain ⟨a1, a2⟩ := HitS.at hxB ek
        obtain ⟨b1, b2⟩ := HitS.at hxB' ek
        have nq := fun x y => neq63 (g := C.get) (x := x) (y := y) (h := r.hits[i])
        apply W.run 20
        · intro M
          simp (config := { maxSteps := 4000000 }) (disch := first | decide +kernel | omega) only [c17b1, c17, Try.f17, Option.getD_some, sub_seq1, sub_seq0, sub_block, sub_loop, sub_nil, exec_region, runOps_cons, opF_move, ev_tmp, g5, evG_some, putT_some, opF_fieldAddr, T.get_set, Nat.reduceEqDiff, g2, if_false, opF_load, if_true, opF_len, evs, R.ok_bind, opF_ari, runOps_nil, f53_2, x1, l1, binF_int, op_lssI, cast_lt, hlt, decide_true]
          with_reducible rfl
        show W tb4 _ _ _
        apply W.run 20
        · intro M
          simp (config := { maxSteps := 4000000 }) (disch := first | decide +kernel | omega) only [c17b1, c17, Try.f17, Option.getD_some, sub_seq1, sub_seq0, sub_block, sub_loop, sub_nil, exec_cond, ev_tmp, T.get_set, Nat.reduceEqDiff, if_false, if_true, evG_some, exec_skip, exec_exit, R.ok_bind]
          with_reducible rfl
        show W tb4 _ _ _
        apply W.seq
        apply W.block
        apply W.seq
        apply W.run 20
        · intro M
          simp (config := { maxSteps := 4000000 }) (disch := first | decide +kernel | omega) only [c17b1, c17, Try.f17, Option.getD_some, sub_seq1, sub_seq0, sub_block, sub_loop, sub_nil, exec_draw, runOps_cons, opF_fieldAddr, ev_tmp, T.get_set, Nat.reduceEqDiff, g2, if_false, evG_some, putT_some, opF_load, if_true, opF_move, g5, opF_indexAddr, g3, opF_neqR, runOps_nil, R.ok_bind, f53_2, x2, b1, b2, x1, a1, a2, nq]
          with_reducible rfl
        show W tb4 _ _ _
        apply W.run 20
        · intro M
          simp (config := { maxSteps := 4000000 }) (disch := first | decide +kernel | omega) only [c17b1, c17, Try.f17, Option.getD_some, sub_seq1, sub_seq0, sub_block, sub_loop, sub_nil, exec_cond, ev_tmp, T.get_set, Nat.reduceEqDiff, if_false, if_true, evG_some, exec_seq, exec_region, runOps_cons, opF_assign, ev_bool, putT_some, runOps_nil, R.ok_bind, exec_ret, exec_skip]
          with_reducible rfl
        show W tb4 _ _ _
        apply W.run 20
        · intro M
          simp (config := { maxSteps := 4000000 }) (disch := first | decide +kernel | omega) only [c17b1, c17, Try.f17, Option.getD_some, sub_seq1, sub_seq0, sub_block, sub_loop, sub_nil, exec_region, runOps_cons, opF_move, ev_tmp, T.get_set, Nat.reduceEqDiff, g5, if_false, evG_some, putT_some, opF_ari, if_true, ev_int, opF_assign, runOps_nil, R.ok_bind, binF_int, op_add_i64]
          with_reducible rfl
        refine ⟨hlt, _, _, rfl, rfl, ?_⟩
        simp only [Sl_cons, Sl_nil, T.get_set, T.puts_cons, T.puts_nil, Nat.reduceEqDiff, Nat.reduceAdd, if_true, if_false, and_true, true_and, g2, g3]
      · have hin : i = r.hits.length := by omega
        subst hin
        apply W.run 20
        · intro M
          simp (config := { maxSteps := 4000000 }) (disch := first | decide +kernel | omega) only [c17b1, c17, Try.f17, Option.getD_some, sub_seq1, sub_seq0, sub_block, sub_loop, sub_nil, exec_region, runOps_cons, opF_move, ev_tmp, g5, evG_some, putT_some, opF_fieldAddr, T.get_set, Nat.reduceEqDiff, g2, if_false, opF_load, if_true, opF_len, evs, R.ok_bind, opF_ari, runOps_nil, f53_2, x1, l1, binF_int, op_lssI, cast_lt, Nat.lt_irrefl, decide_false]
          with_reducible rfl
        show W tb4 _ _ _
        apply W.run 20
        · intro M
          simp (config := { maxSteps := 4000000 }) (disch := first | decide +kernel | omega) only [c17b1, c17, Try.f17, Option.getD_some, sub_seq1, sub_seq0, sub_block, sub_loop, sub_nil, exec_cond, ev_tmp, T.get_set, Nat.reduceEqDiff, if_false, if_true, evG_some, exec_skip, exec_exit, R.ok_bind]
          with_reducible rfl
        show W tb4 _ _ _
        apply W.seq
        apply W.run 20
        · intro M
          simp (config := { maxSteps := 4000000 }) (disch := first | decide +kernel | omega) only [c17, Try.f17, Option.getD_some, sub_seq1, sub_seq0, sub_nil, exec_region, runOps_cons, opF_assign, ev_bool, putT_some, runOps_nil, R.ok_bind]
          with_reducible rfl
        show W tb4 _ _ _
        apply W.run 20
        · intro M
          simp (config := { maxSteps := 4000000 }) (disch := first | decide +kernel | omega) only [c17, Try.f17, Option.getD_some, sub_seq1, sub_nil, exec_ret]
          with_reducible rfl
        refine ⟨.inr rfl, _, [.bool true], rfl, ?_, rfl, k0⟩
        simp only [Try.f17, resF, ev_tmp, T.get_set, Nat.reduceEqDiff, if_true, if_false, evG_some, R.ok_bind]
    · simp only [Sl_cons, Sl_nil, T.get_set, T.puts_cons, T.puts_nil, Nat.reduceEqDiff, Nat.reduceAdd, if_true, if_false, and_true, true_and]
  exact ⟨A', hg, hk⟩
theorem HitE.self {A : Mem} {l : List HitD} {x : Value} (h : HitE A l x) (d : Nat) : sameV (d + 1) x x = true := by
  obtain ⟨b, h⟩ := h
  rcases h with ⟨rfl, -⟩ | ⟨k, c, rfl, -⟩
  · simp [sameV]
  · simp [sameV, sameA, sameN]
end Go.Proofs.Ytnelkapmmgggdaa.mdl

/-
  ModelPoison: operations' drafts, in a list; plain facts.
-/
namespace Go.Proofs.Ytnelkapmmgggdaa.mdl
open Go.Am Go.Mdl
open Go.Proofs.Ytnelkapmmgggdaa.rnk (HitD hitC ordD lessB sortH ordK lessK hitC_len sortH_len)
set_option linter.unusedSimpArgs false
set_option linter.unusedVariables false
set_option linter.unusedVariables false

/-- Drafts of operations, wherever they begin. -/
def OpL (A : Mem) (os : List OpI) (x : Value) : Prop :=
  (x = .slice none 0 0 ∧ os = []) ∨ (x = empV ∧ os = []) ∨ ∃ q off cp, x = .slice (some ⟨q, off, none⟩) os.length cp ∧ (os = [] ∨ (q < A.next ∧ ∃ t kd fz c, A.get q = some (.cells t kd fz c) ∧
    ∀ (i : Nat) (o : OpI), os[i]? = some o → (∀ j v, (inC o)[j]? = some v → c.get (off + i * 8 + j) = some v) ∧ InOk A o))
theorem und49 : tb4.und 49 = some (.slice 29) := by kernel_rfl
theorem size29' : sizeF tb4 29 = .ok 8 := by kernel_rfl
theorem und29' : ∃ d, tb4.und 29 = some d ∧ isAggD d = true := by
  have h : (tb4.und 29).map isAggD = some true := by kernel_rfl
  cases hq : tb4.und 29 with
  | none => rw [hq] at h; cases h
  | some d => rw [hq] at h; exact ⟨d, rfl, by simpa using h⟩
theorem OpL.kp {A A' : Mem} {os : List OpI} {x : Value} (h : OpL A os x) (k : Kp A A') : OpL A' os x := by
  rcases h with h | h | ⟨q, off, cp, h1, h2⟩
  · exact .inl h
  · exact .inr (.inl h)
  · refine .inr (.inr ⟨q, off, cp, h1, ?_⟩)
    rcases h2 with h2 | ⟨h2, t, kd, fz, c, h3, h4⟩
    · exact .inl h2
    · exact .inr ⟨Nat.lt_of_lt_of_le h2 k.1, t, kd, fz, c, by rw [k.2 _ h2]; exact h3, fun i d hd => ⟨(h4 i d hd).1, (h4 i d hd).2.kp k⟩⟩
theorem OpL.len {A : Mem} {os : List OpI} {x : Value} (h : OpL A os x) : builtinPF tb4 .len [49] [x] = .ok (.int .i64 ((os.length : Nat) : Int)) := by
  rcases h with ⟨rfl, rfl⟩ | ⟨rfl, rfl⟩ | ⟨q, off, cp, rfl, -⟩
  · exact len_slc und49
  · kernel_rfl
  · exact len_slc und49
theorem OpL.at {A : Mem} {os : List OpI} {x : Value} (h : OpL A os x) {i : Nat} {o : OpI} (hi : os[i]? = some o) :
    (∃ p, indexAddrF tb4 49 x (.int .i64 (i : Int)) = .ok (.pointer (some p)) ∧ loadF tb4 A.get 29 (.pointer (some p)) = .ok (.agg ⟨inC o⟩)) ∧ InOk A o := by
  rcases h with ⟨-, rfl⟩ | ⟨-, rfl⟩ | ⟨q, off, cp, rfl, h2⟩
  · simp at hi
  · simp at hi
  · rcases h2 with rfl | ⟨h2, t, kd, fz, c, h3, h4⟩
    · simp at hi
    · obtain ⟨c0, hok⟩ := h4 i o hi
      obtain ⟨d29, hd1, hd2⟩ := und29'
      have hlt := (List.getElem?_eq_some_iff.1 hi).1
      have hb : Nat.blt i os.length = true := by rw [Nat.blt_eq]; exact hlt
      have hn : natV (.int .i64 (i : Int)) = .ok i := rfl
      refine ⟨⟨⟨q, off + i * 8, none⟩, ?_, ?_⟩, hok⟩
      · unfold indexAddrF
        simp only [hn, und49, hb, cond_true, size29', R.ok_bind, addA]
      · have hgs : c.gets 8 (off + i * 8) = some (inC o) := gets_eq _ _ _ _ rfl fun j hj => by
          have hv : (inC o)[j]? = some ((inC o)[j]'(by show j < 8; exact hj)) := List.getElem?_eq_getElem _
          rw [hv]
          exact c0 j _ hv
        unfold loadF
        simp only [h3, hd1, hd2, cond_true, size29', R.ok_bind, hgs]

/-! ### Plain facts -/
theorem withL_mem : ∀ {more own : List EntD} {y : EntD}, y ∈ withL own more → y ∈ own ∨ ∃ m ∈ more, y.word = m.word
  | [], own, y, h => .inl h
  | m :: more, own, y, h => by
    have h' : y ∈ withL (oneL (norm m) own) more := h
    rcases withL_mem h' with h1 | ⟨e, h1, h2⟩
    · rcases one_mem h1 with rfl | h1
      · refine .inr ⟨m, List.mem_cons_self .., ?_⟩
        unfold norm
        split <;> rfl
      · exact .inl h1
    · exact .inr ⟨e, List.mem_cons_of_mem _ h1, h2⟩
theorem mem_live {l : List EntD} {y : EntD} (h : y ∈ Go.Mdl.live l) : y ∈ l := (List.mem_filter.1 h).1
theorem newL_mem {l : List EntD} {y : EntD} (h : y ∈ newL l) : ∃ m ∈ l, y.word = m.word := by
  rcases withL_mem (mem_live h) with h | h
  · cases h
  · exact h
theorem live_id {l : List EntD} (h : ∀ e ∈ l, e.gone = false) : Go.Mdl.live l = l := by
  unfold Go.Mdl.live
  rw [List.filter_eq_self]
  intro e he
  rw [h e he]; rfl
theorem wordD_len9 (ls : List UInt8) : (wordD ls).length ≤ 9 := by
  unfold wordD
  split
  · simp
  · rw [List.length_map, List.length_take]; omega
theorem dE_word (d : DrD) : (dE d).word.length ≤ 9 := by
  have h2 : (dE d).word = wordD d.ls := by
    unfold dE entD norm
    split <;> rfl
  rw [h2]
  exact wordD_len9 _
/-- A list that has been drawn. -/
theorem new_ok {ds : List DrD} {n : Nat} (hn : n ≤ 1000) : OkD (newL ((ds.take n).map dE)) ∧ (newL ((ds.take n).map dE)).length ≤ n ∧ ∀ e ∈ newL ((ds.take n).map dE), e.word.length ≤ 9 := by
  refine ⟨live_ok (withL_asc (by trivial)), ?_, fun e he => ?_⟩
  · have e1 := live_le (withL [] ((ds.take n).map dE))
    have e2 := withL_len (own := []) (more := (ds.take n).map dE) trivial
    rw [List.length_map, List.length_take] at e2
    simp only [List.length_nil] at e2
    show (Go.Mdl.live _).length ≤ n
    omega
  · obtain ⟨m, hm, hw⟩ := newL_mem he
    obtain ⟨d, -, rfl⟩ := List.mem_map.1 hm
    rw [hw]
    exact dE_word d
theorem okM_of {d : List EntD} (h : OkD d) (hl : d.length < 1000) (hw : ∀ e ∈ d, e.word.length ≤ 300) : OkM d := ⟨h.1, by omega, fun e he => by have := hw e he; omega⟩
/-! ### What a poisoned model does -/
theorem psn_read {d : List EntD} {o : OpV} (h : o.kind = 6 ∨ o.kind = 7) : doD ⟨d, true, false⟩ o 0 = (⟨d, true, false⟩, ansD d o) := by
  have ha : actK o.kind = some 42 := by unfold actK; rw [if_neg (by omega), if_neg (by omega), if_pos h]
  unfold doD
  rw [if_neg (fun h => Bool.noConfusion h), ha]
  rfl
theorem psn_open {d : List EntD} {o : OpV} (h : o.kind = 8) : doD ⟨d, true, false⟩ o 0 = (⟨d, false, false⟩, ⟨0, 0, []⟩) := by
  have ha : actK o.kind = some 43 := by unfold actK; rw [if_neg (by omega), if_neg (by omega), if_neg (by omega), if_pos h]
  unfold doD
  rw [if_neg (fun h => Bool.noConfusion h), ha]
  rfl
theorem psn_else {d : List EntD} {o : OpV} (h6 : o.kind ≠ 6) (h7 : o.kind ≠ 7) (h8 : o.kind ≠ 8) : ∃ e, doD ⟨d, true, false⟩ o 0 = (⟨d, true, false⟩, ⟨e, 0, []⟩) ∧ (e = 11 ∨ (e = 7 ∧ (o.kind < 3 ∨ 8 < o.kind))) := by
  unfold doD
  rw [if_neg (fun h => Bool.noConfusion h)]
  by_cases h0 : o.kind = 0 ∨ o.kind = 1 ∨ o.kind = 2
  · have ha : actK o.kind = some 40 := by unfold actK; rw [if_pos h0]
    rw [ha]
    obtain ⟨e, he⟩ : ∃ e, (runU [o] (d, 0)).2 = e := ⟨_, rfl⟩
    have hc : changeD ⟨d, true, false⟩ o (toldD 0) = (⟨d, true, false⟩, chE true e) := by
      unfold changeD chT
      show (if chE true (runU [o] (d, 0)).2 ≠ 0 then _ else _) = _
      rw [he, if_pos]
      unfold chE
      split
      · decide
      · rename_i hh
        have : e = 7 := Classical.byContradiction fun hne => hh ⟨hne, rfl⟩
        rw [this]; decide
    refine ⟨chE true e, ?_, ?_⟩
    · show actD 40 _ o (toldD 0) = _
      unfold actD
      rw [if_pos rfl, hc]
    · unfold chE
      split
      · exact .inl rfl
      · rename_i hh
        have : e = 7 := Classical.byContradiction fun hne => hh ⟨hne, rfl⟩
        exact .inr ⟨this, .inl (by omega)⟩
  · by_cases h3 : o.kind = 3 ∨ o.kind = 4 ∨ o.kind = 5
    · have ha : actK o.kind = some 41 := by unfold actK; rw [if_neg h0, if_pos h3]
      rw [ha]
      exact ⟨11, rfl, .inl rfl⟩
    · have ha : actK o.kind = none := by unfold actK; rw [if_neg h0, if_neg h3, if_neg (by omega), if_neg h8]
      rw [ha]
      exact ⟨7, rfl, .inr ⟨rfl, by omega⟩⟩
theorem psn_flush {d : List EntD} {told : Nat} (h : told = 10 ∨ told = 13) : doD ⟨d, false, false⟩ ⟨4, [], 0, 0, 0⟩ told = (⟨d, true, false⟩, ⟨told, 0, []⟩) := by
  rcases h with rfl | rfl <;> rfl
theorem psn_sync {d : List EntD} : doD ⟨d, false, false⟩ ⟨3, [], 0, 0, 0⟩ 0 = (⟨d, false, false⟩, ⟨0, 0, []⟩) := rfl
theorem psn_shut {d : List EntD} {told : Nat} (h : told = 10 ∨ told = 13) : doD ⟨d, true, false⟩ ⟨8, [], 0, 0, 0⟩ told = (⟨d, true, true⟩, ⟨told, 0, []⟩) := by
  rcases h with rfl | rfl <;> rfl
theorem psn_closed {d : List EntD} {o : OpV} {told : Nat} : doD ⟨d, true, true⟩ o told = (⟨d, true, true⟩, ⟨14, 0, []⟩) := rfl
end Go.Proofs.Ytnelkapmmgggdaa.mdl

/-
  ModelPoison: a round of the loop.
-/
namespace Go.Proofs.Ytnelkapmmgggdaa.mdl
open Go.Am Go.Mdl
open Go.Proofs.Ytnelkapmmgggdaa.rnk (HitD hitC ordD lessB sortH ordK lessK hitC_len sortH_len)
set_option linter.unusedSimpArgs false
set_option linter.unusedVariables false
set_option linter.unusedVariables false

noncomputable def c4 : Code := Try.f4.body.getD .skip
noncomputable def c4b1 : Code := sub c4 [1,1,1,1,1,1,1,0,1,0,0]
theorem c4_eq : Try.f4.body = some (.seq (sub c4 [0]) (.seq (.seq (sub c4 [1,0,0]) (sub c4 [1,0,1])) (.seq (sub c4 [1,1,0]) (.seq (sub c4 [1,1,1,0]) (.seq (sub c4 [1,1,1,1,0]) (.seq (.seq (sub c4 [1,1,1,1,1,0,0]) (sub c4 [1,1,1,1,1,0,1])) (.seq (.seq (sub c4 [1,1,1,1,1,1,0,0]) (sub c4 [1,1,1,1,1,1,0,1])) (.seq (.seq (sub c4 [1,1,1,1,1,1,1,0,0]) (.block 0 (.loop c4b1))) (.seq (sub c4 [1,1,1,1,1,1,1,1,0]) (sub c4 [1,1,1,1,1,1,1,1,1])))))))))) := by kernel_rfl
noncomputable def c4B : Code := sub c4b1 [1,0,0]
noncomputable def c4C : Code := sub c4B [1,1,1,0,1,0]
theorem c4b1_eq : c4b1 = .seq (.seq (sub c4b1 [0,0]) (sub c4b1 [0,1])) (.seq (.block 1 c4B) (sub c4b1 [1,1])) := by kernel_rfl
theorem c4B_eq : c4B = .seq (sub c4B [0]) (.seq (sub c4B [1,0]) (.seq (.seq (sub c4B [1,1,0,0]) (sub c4B [1,1,0,1])) (.seq (.seq (sub c4B [1,1,1,0,0]) (.block 2 c4C)) (.seq (sub c4B [1,1,1,1,0]) (sub c4B [1,1,1,1,1]))))) := by kernel_rfl
theorem c4C_eq : c4C = .seq (.seq (sub c4C [0,0]) (sub c4C [0,1])) (.cond (.tmp 96) (.seq (sub c4C [1,0,0]) (sub c4C [1,0,1])) (.seq (sub c4C [1,1,0]) (sub c4C [1,1,1]))) := by kernel_rfl
def psS (x1 x8 : Value) (q told i : Nat) : List (Nat × Value) := [(1, x1), (7, .pointer (some ⟨q, 0, none⟩)), (8, x8), (9, .int .i64 (told : Int)), (10, .int .i64 (i : Int))]
theorem int_sameV (d : Nat) (k : IntKind) (n : Int) : sameV (d + 1) (.int k n) (.int k n) = true := by
  rw [sameV]
  simp only [ieqF_iff]
  cases k <;> simp [kindEq]
theorem selfRep {A : Mem} {e w : Nat} {l : List HitD} {y : Value} (h : HitE A l y) : sameV 100 (.agg ⟨repC e w y⟩) (.agg ⟨repC e w y⟩) = true := by
  show sameV (98 + 2) _ _ = true
  rw [sameV]
  simp [repC, int_sameV, h.self]
theorem rep_load {C : Mem} {p e w : Nat} {y : Value} (v : Vals C 53 p (.var 3) (repC e w y)) : loadF tb4 C.get 53 (.pointer (some ⟨p, 0, none⟩)) = .ok (.agg ⟨repC e w y⟩) := by
  obtain ⟨d53, hd1, hd2⟩ := und53
  exact load_all (tb := tb4) hd1 hd2 (l := repC e w y) size53 v
theorem rep_err {C : Mem} {p e w : Nat} {y : Value} (v : Vals C 53 p (.var 3) (repC e w y)) : loadF tb4 C.get 40 (.pointer (some ⟨p, 0, none⟩)) = .ok (.int .i64 (e : Int)) := load_vals und40' rfl v rfl
set_option maxHeartbeats 8000000 in
set_option maxRecDepth 20000 in
/-- Is it still so? -/
theorem psn_24 {C : Mem} {q told i : Nat} {d : List EntD} {x1 x8 : Value} {t : T Value} {K : Ex → St → Prop} (hm : ModV C q ⟨d, true, false⟩) (h8 : EntE C d x8) (hok : OkD d) (hd : d.length < 1000) (ht : Sl t (psS x1 x8 q told i))
    (hK : ∀ t' C', Kp C C' → ModV C' q ⟨d, true, false⟩ → Sl t' (psS x1 x8 q told i) → K .nrm ⟨t', 134, [], C', none⟩) :
    W tb4 (.seq (sub c4B [1,1,1,1,0]) (sub c4B [1,1,1,1,1])) ⟨t, 134, [], C, none⟩ K := by
  obtain ⟨g1, g7, g8, g9, g10, -⟩ := ht
  obtain ⟨g, hg⟩ := run_poisoned hm
  obtain ⟨y, D, ⟨gw, hgw⟩, hy, kD⟩ := run_wordsM hm (by show d.length < _; omega)
  have hl : Go.Mdl.live (⟨d, true, false⟩ : MdlS).d = d := live_id hok.2
  rw [hl] at hy
  obtain ⟨gs, hgs⟩ := run_same hy (h8.kp kD) (by omega) (by omega)
  rw [decide_eq_true rfl] at hgs
  apply W.seq
  apply W.runG ((g+gw+gs)) 20
  · intro M hM
    simp (config := { maxSteps := 4000000 }) (disch := first | decide +kernel | (rw [wantF_guard]; simp only [wantD_some, dstAt_zero, dstAt_succ, T.get_set, T.get_e, Nat.reduceEqDiff, if_true, if_false, wantV_bool, wantV_unit, unitV, cond_true, cond_false, Bool.not_true, Bool.not_false, List.toList_toArray]) | omega) only [c4B, c4b1, c4, Try.f4, Option.getD_some, sub_seq1, sub_seq0, sub_block, sub_loop, sub_nil, exec_region, runOps_cons, opF_move, ev_tmp, g7, evG_some, putT_some, opF_call, evs, T.get_set, if_true, R.ok_bind, resK, opF_un, Nat.reduceEqDiff, if_false, hg, un_not, Bool.not_true, runOps_yes, g8, opF_pick, pickF, ev_bool, runOps_nil, hgw, hgs]
    with_reducible rfl
  show W tb4 _ _ _
  apply W.run 20
  · intro M
    simp (config := { maxSteps := 4000000 }) (disch := first | decide +kernel | omega) only [c4B, c4b1, c4, Try.f4, Option.getD_some, sub_seq1, sub_seq0, sub_block, sub_loop, sub_nil, exec_cond, ev_tmp, T.get_set, Nat.reduceEqDiff, if_false, if_true, evG_some, exec_seq, exec_region, runOps_cons, opF_assign, ev_bool, putT_some, runOps_nil, R.ok_bind, exec_ret, exec_skip]
    with_reducible rfl
  refine hK _ D kD (hm.kp kD) ?_
  unfold psS
  simp only [Sl_cons, Sl_nil, T.get_set, T.puts_cons, T.puts_nil, Nat.reduceEqDiff, Nat.reduceAdd, if_true, if_false, and_true, true_and, g1, g7, g8, g9, g10]
set_option maxHeartbeats 8000000 in
set_option maxRecDepth 20000 in
/-- The reply is looked at. -/
theorem psn_C {C : Mem} {q p pr told i : Nat} {d : List EntD} {o : OpV} {x1 x8 : Value} {t : T Value} {K : Ex → St → Prop} {e w : Nat} {y : Value} (hm : ModV C q ⟨d, true, false⟩) (h8 : EntE C d x8) (hok : OkM d) (vO : VarO C p o) (hpr : pr < C.next) (vR : Vals C 53 pr (.var 3) (repC e w y)) 
    (hr : ∃ hs, (⟨e, w, hs⟩ : RepD) = (doD ⟨d, true, false⟩ o 0).2 ∧ HitE C hs y) (hn8 : o.kind ≠ 8)
    (ht : Sl t (psS x1 x8 q told i ++ [(11, .pointer (some ⟨p, 0, none⟩)), (12, .pointer (some ⟨pr, 0, none⟩)), (72, .int .i64 o.kind)]))
    (hK : ∀ t' C', Kp C C' → Sl t' (psS x1 x8 q told i) → K .nrm ⟨t', 134, [], C', none⟩) :
    W tb4 c4C ⟨t, 134, [], C, none⟩ K := by
  obtain ⟨g1, g7, g8, g9, g10, g11, g12, g72, -⟩ := ht
  have le := rep_err vR
  have lk := vO.kind
  have read : (o.kind = 6 ∨ o.kind = 7) → ∀ t : T Value, Sl t (psS x1 x8 q told i ++ [(11, .pointer (some ⟨p, 0, none⟩)), (12, .pointer (some ⟨pr, 0, none⟩)), (96, .bool true)]) → W tb4 (.cond (.tmp 96) (.seq (sub c4C [1,0,0]) (sub c4C [1,0,1])) (.seq (sub c4C [1,1,0]) (sub c4C [1,1,1]))) ⟨t, 134, [], C, none⟩ K := by
    rintro h67 t ⟨g1, g7, g8, g9, g10, g11, g12, g96, -⟩
    obtain ⟨hs, hr, hy⟩ := hr
    rw [psn_read h67] at hr
    obtain ⟨v, D, ⟨g, hg⟩, hv, kD⟩ := run_answer (o := o) h8 hok.1 (by have := hok.2.1; omega) hok.2.2
    have hlen := ansD_len d o
    have hR1 : RepE D (ansD d o) (.agg ⟨repC e w y⟩) := by
      have hr' : (⟨e, w, hs⟩ : RepD) = ansD d o := hr
      rw [← hr']
      exact ⟨y, rfl, hy.kp kD⟩
    obtain ⟨E, ⟨gs, hgs⟩, kE⟩ := run_rsame hR1 hv (by have := hok.2.1; omega)
    have l1 := rep_load vR
    have l2 := rep_load (vR.same (kD.2 _ hpr))
    have lo := vO.all
    have hself := selfRep (e := e) (w := w) hy
    refine W.cond (p := true) ?_ (fun _ => ?_) (fun h => by cases h)
    · simp only [ev_tmp, g96, evG_some]
    apply W.seq
    apply W.runG ((g+gs)) 20
    · intro M hM
      simp (config := { maxSteps := 4000000 }) (disch := first | decide +kernel | omega) only [c4C, c4B, c4b1, c4, Try.f4, Option.getD_some, sub_seq1, sub_seq0, sub_block, sub_loop, sub_nil, sub_cond0, exec_float [(0, 3)], runD_Rd, rOp_load, ev_tmp, g12, evG_some, R.ok_bind, l1, selF_nil, rereadM_nil, Nat.reduceAdd, putT_some, runD_P, opF_move, T.get_set, Nat.reduceEqDiff, g8, if_false, g11, lo, runD_L, List.map_nil, hide_nil, backF_nil, selR_no, selR_yes, selR_nil, rereadR_cons, reread_load, rereadR_nil, Bool.and_true, opF_un, cond_true, opF_call, evs, resK, if_true, runD_end, hg, l2, rereadV_eq, hself, hgs, un_not, Bool.not_true]
      with_reducible rfl
    show W tb4 _ _ _
    apply W.run 20
    · intro M
      simp (config := { maxSteps := 4000000 }) (disch := first | decide +kernel | omega) only [c4C, c4B, c4b1, c4, Try.f4, Option.getD_some, sub_seq1, sub_seq0, sub_block, sub_loop, sub_nil, sub_cond0, exec_cond, ev_tmp, T.get_set, Nat.reduceEqDiff, if_false, if_true, evG_some, exec_seq, exec_region, runOps_cons, opF_assign, ev_bool, putT_some, runOps_nil, R.ok_bind, exec_ret, exec_skip]
      with_reducible rfl
    refine hK _ E (kD.trans kE) ?_
    unfold psS
    simp only [Sl_cons, Sl_nil, T.get_set, T.puts_cons, T.puts_nil, Nat.reduceEqDiff, Nat.reduceAdd, if_true, if_false, and_true, true_and, g1, g7, g8, g9, g10]
  rw [c4C_eq]
  apply W.seq
  apply W.seq
  by_cases h6 : o.kind = 6
  · have he6 : intOpF .eql .i64 o.kind ((6 : Nat) : Int) = .ok (.bool true) := by rw [op_eqlI, decide_eq_true (show o.kind = ((6 : Nat) : Int) from h6)]
    apply W.run 20
    · intro M
      simp (config := { maxSteps := 4000000 }) (disch := first | decide +kernel | omega) only [c4C, c4B, c4b1, c4, Try.f4, Option.getD_some, sub_seq1, sub_seq0, sub_block, sub_loop, sub_nil, exec_region, runOps_cons, opF_eql, ev_tmp, g72, evG_some, ev_int, putT_some, opF_assign, T.get_set, if_true, runOps_nil, R.ok_bind, binF_int, he6]
      with_reducible rfl
    show W tb4 _ _ _
    apply W.run 20
    · intro M
      simp (config := { maxSteps := 4000000 }) (disch := first | decide +kernel | omega) only [c4C, c4B, c4b1, c4, Try.f4, Option.getD_some, sub_seq1, sub_seq0, sub_block, sub_loop, sub_nil, exec_cond, ev_tmp, T.get_set, Nat.reduceEqDiff, if_false, if_true, evG_some, exec_skip, exec_region, runOps_cons, opF_eql, ev_int, putT_some, opF_assign, runOps_nil, R.ok_bind]
      with_reducible rfl
    refine read (.inl h6) _ ?_
    simp only [psS, List.cons_append, List.nil_append]
    simp only [Sl_cons, Sl_nil, T.get_set, T.puts_cons, T.puts_nil, Nat.reduceEqDiff, Nat.reduceAdd, if_true, if_false, and_true, true_and, g1, g7, g8, g9, g10, g11, g12]
  · have he6 : intOpF .eql .i64 o.kind ((6 : Nat) : Int) = .ok (.bool false) := by rw [op_eqlI, decide_eq_false (show ¬ o.kind = ((6 : Nat) : Int) from h6)]
    by_cases h7 : o.kind = 7
    · have he7 : intOpF .eql .i64 o.kind ((7 : Nat) : Int) = .ok (.bool true) := by rw [op_eqlI, decide_eq_true (show o.kind = ((7 : Nat) : Int) from h7)]
      apply W.run 20
      · intro M
        simp (config := { maxSteps := 4000000 }) (disch := first | decide +kernel | omega) only [c4C, c4B, c4b1, c4, Try.f4, Option.getD_some, sub_seq1, sub_seq0, sub_block, sub_loop, sub_nil, exec_region, runOps_cons, opF_eql, ev_tmp, g72, evG_some, ev_int, putT_some, opF_assign, T.get_set, if_true, runOps_nil, R.ok_bind, binF_int, he6]
        with_reducible rfl
      show W tb4 _ _ _
      apply W.run 20
      · intro M
        simp (config := { maxSteps := 4000000 }) (disch := first | decide +kernel | omega) only [c4C, c4B, c4b1, c4, Try.f4, Option.getD_some, sub_seq1, sub_seq0, sub_block, sub_loop, sub_nil, exec_cond, ev_tmp, T.get_set, Nat.reduceEqDiff, if_false, if_true, evG_some, exec_skip, exec_region, runOps_cons, opF_eql, g72, ev_int, putT_some, opF_assign, runOps_nil, R.ok_bind, binF_int, he7]
        with_reducible rfl
      refine read (.inr h7) _ ?_
      simp only [psS, List.cons_append, List.nil_append]
      simp only [Sl_cons, Sl_nil, T.get_set, T.puts_cons, T.puts_nil, Nat.reduceEqDiff, Nat.reduceAdd, if_true, if_false, and_true, true_and, g1, g7, g8, g9, g10, g11, g12]
    · have he7 : intOpF .eql .i64 o.kind ((7 : Nat) : Int) = .ok (.bool false) := by rw [op_eqlI, decide_eq_false (show ¬ o.kind = ((7 : Nat) : Int) from h7)]
      obtain ⟨e', hdo, hcase⟩ := psn_else (d := d) h6 h7 hn8
      obtain ⟨hs, hr, hy⟩ := hr
      rw [hdo] at hr
      have hee : e = e' := congrArg RepD.err hr
      subst hee
      apply W.run 20
      · intro M
        simp (config := { maxSteps := 4000000 }) (disch := first | decide +kernel | omega) only [c4C, c4B, c4b1, c4, Try.f4, Option.getD_some, sub_seq1, sub_seq0, sub_block, sub_loop, sub_nil, exec_region, runOps_cons, opF_eql, ev_tmp, g72, evG_some, ev_int, putT_some, opF_assign, T.get_set, if_true, runOps_nil, R.ok_bind, binF_int, he6]
        with_reducible rfl
      show W tb4 _ _ _
      apply W.run 20
      · intro M
        simp (config := { maxSteps := 4000000 }) (disch := first | decide +kernel | omega) only [c4C, c4B, c4b1, c4, Try.f4, Option.getD_some, sub_seq1, sub_seq0, sub_block, sub_loop, sub_nil, exec_cond, ev_tmp, T.get_set, Nat.reduceEqDiff, if_false, if_true, evG_some, exec_skip, exec_region, runOps_cons, opF_eql, g72, ev_int, putT_some, opF_assign, runOps_nil, R.ok_bind, binF_int, he7]
        with_reducible rfl
      show W tb4 _ _ _
      refine W.cond (p := false) ?_ (fun h => by cases h) (fun _ => ?_)
      · simp only [ev_tmp, T.get_set, Nat.reduceEqDiff, if_true, if_false, evG_some]
      apply W.seq
      rcases hcase with rfl | ⟨rfl, hk⟩
      · apply W.run 20
        · intro M
          simp (config := { maxSteps := 4000000 }) (disch := first | decide +kernel | (rw [wantF_guard]; simp only [wantD_some, dstAt_zero, dstAt_succ, T.get_set, T.get_e, Nat.reduceEqDiff, if_true, if_false, wantV_bool, wantV_unit, unitV, cond_true, cond_false, Bool.not_true, Bool.not_false, List.toList_toArray]) | omega) only [c4C, c4B, c4b1, c4, Try.f4, Option.getD_some, sub_seq1, sub_seq0, sub_block, sub_loop, sub_nil, sub_cond1, exec_region, runOps_cons, opF_fieldAddr, ev_tmp, T.get_set, Nat.reduceEqDiff, g12, if_false, evG_some, putT_some, opF_load, if_true, opF_neq, ev_int, opF_move, R.ok_bind, f53_0, le, binF_int, op_neq, ne_eq, not_true_eq_false, decide_false, runOps_no, opF_pick, pickF, ev_bool, runOps_yes, opF_eql, op_eql, runOps_nil]
          with_reducible rfl
        show W tb4 _ _ _
        apply W.run 20
        · intro M
          simp (config := { maxSteps := 4000000 }) (disch := first | decide +kernel | omega) only [c4C, c4B, c4b1, c4, Try.f4, Option.getD_some, sub_seq1, sub_seq0, sub_block, sub_loop, sub_nil, sub_cond1, exec_cond, ev_tmp, T.get_set, Nat.reduceEqDiff, if_false, if_true, evG_some, exec_seq, exec_region, runOps_cons, opF_assign, ev_bool, putT_some, runOps_nil, R.ok_bind, exec_ret, exec_skip]
          with_reducible rfl
        refine hK _ C (Kp.refl _) ?_
        unfold psS
        simp only [Sl_cons, Sl_nil, T.get_set, T.puts_cons, T.puts_nil, Nat.reduceEqDiff, Nat.reduceAdd, if_true, if_false, and_true, true_and, g1, g7, g8, g9, g10]
      · by_cases h3 : ((3 : Nat) : Int) ≤ o.kind
        · have hn : ¬ o.kind ≤ ((8 : Nat) : Int) := by omega
          apply W.run 20
          · intro M
            simp (config := { maxSteps := 4000000 }) (disch := first | decide +kernel | (rw [wantF_guard]; simp only [wantD_some, dstAt_zero, dstAt_succ, T.get_set, T.get_e, Nat.reduceEqDiff, if_true, if_false, wantV_bool, wantV_unit, unitV, cond_true, cond_false, Bool.not_true, Bool.not_false, List.toList_toArray]) | omega) only [c4C, c4B, c4b1, c4, Try.f4, Option.getD_some, sub_seq1, sub_seq0, sub_block, sub_loop, sub_nil, sub_cond1, exec_region, runOps_cons, opF_fieldAddr, ev_tmp, T.get_set, Nat.reduceEqDiff, g12, if_false, evG_some, putT_some, opF_load, if_true, opF_neq, ev_int, opF_move, R.ok_bind, f53_0, le, binF_int, op_neq, ne_eq, not_false_eq_true, decide_true, runOps_yes, opF_pick, pickF, ev_bool, not_true_eq_false, decide_false, opF_eql, op_eql, g11, opF_ari, f38_0, lk, op_geq, h3, runOps_nil, op_leq, hn]
            with_reducible rfl
          show W tb4 _ _ _
          apply W.run 20
          · intro M
            simp (config := { maxSteps := 4000000 }) (disch := first | decide +kernel | omega) only [c4C, c4B, c4b1, c4, Try.f4, Option.getD_some, sub_seq1, sub_seq0, sub_block, sub_loop, sub_nil, sub_cond1, exec_cond, ev_tmp, T.get_set, Nat.reduceEqDiff, if_false, if_true, evG_some, exec_seq, exec_region, runOps_cons, opF_assign, ev_bool, putT_some, runOps_nil, R.ok_bind, exec_ret, exec_skip]
            with_reducible rfl
          refine hK _ C (Kp.refl _) ?_
          unfold psS
          simp only [Sl_cons, Sl_nil, T.get_set, T.puts_cons, T.puts_nil, Nat.reduceEqDiff, Nat.reduceAdd, if_true, if_false, and_true, true_and, g1, g7, g8, g9, g10]
        · apply W.run 20
          · intro M
            simp (config := { maxSteps := 4000000 }) (disch := first | decide +kernel | (rw [wantF_guard]; simp only [wantD_some, dstAt_zero, dstAt_succ, T.get_set, T.get_e, Nat.reduceEqDiff, if_true, if_false, wantV_bool, wantV_unit, unitV, cond_true, cond_false, Bool.not_true, Bool.not_false, List.toList_toArray]) | omega) only [c4C, c4B, c4b1, c4, Try.f4, Option.getD_some, sub_seq1, sub_seq0, sub_block, sub_loop, sub_nil, sub_cond1, exec_region, runOps_cons, opF_fieldAddr, ev_tmp, T.get_set, Nat.reduceEqDiff, g12, if_false, evG_some, putT_some, opF_load, if_true, opF_neq, ev_int, opF_move, R.ok_bind, f53_0, le, binF_int, op_neq, ne_eq, not_false_eq_true, decide_true, runOps_yes, opF_pick, pickF, ev_bool, not_true_eq_false, decide_false, opF_eql, op_eql, g11, opF_ari, f38_0, lk, op_geq, h3, runOps_no, runOps_nil]
            with_reducible rfl
          show W tb4 _ _ _
          apply W.run 20
          · intro M
            simp (config := { maxSteps := 4000000 }) (disch := first | decide +kernel | omega) only [c4C, c4B, c4b1, c4, Try.f4, Option.getD_some, sub_seq1, sub_seq0, sub_block, sub_loop, sub_nil, sub_cond1, exec_cond, ev_tmp, T.get_set, Nat.reduceEqDiff, if_false, if_true, evG_some, exec_seq, exec_region, runOps_cons, opF_assign, ev_bool, putT_some, runOps_nil, R.ok_bind, exec_ret, exec_skip]
            with_reducible rfl
          refine hK _ C (Kp.refl _) ?_
          unfold psS
          simp only [Sl_cons, Sl_nil, T.get_set, T.puts_cons, T.puts_nil, Nat.reduceEqDiff, Nat.reduceAdd, if_true, if_false, and_true, true_and, g1, g7, g8, g9, g10]
end Go.Proofs.Ytnelkapmmgggdaa.mdl

/-
  ModelPoison: a round, whole.
-/
namespace Go.Proofs.Ytnelkapmmgggdaa.mdl
open Go.Am Go.Mdl
open Go.Proofs.Ytnelkapmmgggdaa.rnk (HitD hitC ordD lessB sortH ordK lessK hitC_len sortH_len)
set_option linter.unusedSimpArgs false
set_option linter.unusedVariables false
set_option linter.unusedVariables false

set_option maxHeartbeats 8000000 in
set_option maxRecDepth 20000 in
/-- Opened again. -/
theorem psn_16 {C : Mem} {q p pr told i : Nat} {d : List EntD} {x1 x8 : Value} {t : T Value} {K : Ex → St → Prop} {w : Nat} {y : Value} (hm : ModV C q ⟨d, false, false⟩) (h8 : EntE C d x8) (hok : OkD d) (hd : d.length < 1000) (hM : OkM d) (vR : Vals C 53 pr (.var 3) (repC 0 w y))
    (ht : Sl t (psS x1 x8 q told i ++ [(11, .pointer (some ⟨p, 0, none⟩)), (12, .pointer (some ⟨pr, 0, none⟩))])) (hK : ∀ t' C', t'.get 6 = some (.bool true) → K .ret ⟨t', 134, [], C', none⟩) :
    W tb4 (.seq (sub c4B [1,1,0,1,0,0]) (sub c4B [1,1,0,1,0,1])) ⟨t, 134, [], C, none⟩ K := by
  obtain ⟨g1, g7, g8, g9, g10, g11, g12, -⟩ := ht
  have le := rep_err vR
  obtain ⟨g, hg⟩ := run_poisoned hm
  obtain ⟨yw, D, ⟨gw, hgw⟩, hy, kD⟩ := run_wordsM hm (by show d.length < _; omega)
  have hl : Go.Mdl.live (⟨d, false, false⟩ : MdlS).d = d := live_id hok.2
  rw [hl] at hy
  obtain ⟨gs, hgs⟩ := run_same hy (h8.kp kD) (by omega) (by omega)
  rw [decide_eq_true rfl] at hgs
  obtain ⟨v, E, ⟨gd, hgd⟩, rfl, mE, kE⟩ := run_do (k := ((3 : Nat) : Int)) (w := []) (wt := 0) (told := 0) (hm.kp kD) hM
  have hdo : doD ⟨d, false, false⟩ ⟨((3 : Nat) : Int), [], 0, 0, 0⟩ 0 = (⟨d, false, false⟩, ⟨0, 0, []⟩) := psn_sync
  rw [hdo] at hgd
  have hbd : (⟨d, false, false⟩ : MdlS).bad = false := rfl
  rw [hbd] at hg
  apply W.seq
  apply W.runG ((g+gw+gs+gd)) 20
  · intro M hM
    simp (config := { maxSteps := 4000000 }) (disch := first | decide +kernel | (rw [wantF_guard]; simp only [wantD_some, dstAt_zero, dstAt_succ, T.get_set, T.get_e, Nat.reduceEqDiff, if_true, if_false, wantV_bool, wantV_unit, unitV, cond_true, cond_false, Bool.not_true, Bool.not_false, List.toList_toArray]) | omega) only [c4B, c4b1, c4, Try.f4, Option.getD_some, sub_seq1, sub_seq0, sub_block, sub_loop, sub_nil, sub_cond0, exec_region, runOps_cons, opF_fieldAddr, ev_tmp, g12, evG_some, putT_some, opF_load, T.get_set, if_true, opF_eql, Nat.reduceEqDiff, if_false, ev_int, opF_move, R.ok_bind, f53_0, le, binF_int, op_eql, decide_true, runOps_yes, g7, opF_call, evs, resK, opF_un, opF_pick, pickF, ev_bool, hg, un_not, Bool.not_false, g8, hgw, hgs, ev_str, opF_assign, runOps_nil, hgd]
    with_reducible rfl
  show W tb4 _ _ _
  apply W.run 20
  · intro M
    simp (config := { maxSteps := 4000000 }) (disch := first | decide +kernel | omega) only [c4B, c4b1, c4, Try.f4, Option.getD_some, sub_seq1, sub_seq0, sub_block, sub_loop, sub_nil, sub_cond0, exec_ret]
    with_reducible rfl
  refine hK _ E ?_
  simp only [T.get_set, Nat.reduceEqDiff, if_true]
theorem c4k_eq : sub c4B [1,1,0,1] = .cond (.tmp 51) (.seq (sub c4B [1,1,0,1,0,0]) (sub c4B [1,1,0,1,0,1])) .skip := by kernel_rfl
set_option maxHeartbeats 8000000 in
set_option maxRecDepth 20000 in
theorem psn_round {C : Mem} {q told i : Nat} {d : List EntD} {os : List OpI} {o : OpI} {x1 x8 : Value} {t : T Value} {K : Ex → St → Prop} (hm : ModV C q ⟨d, true, false⟩) (h8 : EntE C d x8) (hok : OkD d) (hd : d.length < 1000) (hM : OkM d) (hL : OpL C os x1) (hi : os[i]? = some o)
    (ht : Sl t (psS x1 x8 q told i)) (hK : ∀ t' C', Kq q C C' → ModV C' q ⟨d, true, false⟩ → Sl t' (psS x1 x8 q told i) → K .nrm ⟨t', 134, [], C', none⟩) (hR : ∀ t' C', t'.get 6 = some (.bool true) → K .ret ⟨t', 134, [], C', none⟩) :
    W tb4 c4B ⟨t, 134, [], C, none⟩ K := by
  obtain ⟨g1, g7, g8, g9, g10, -⟩ := ht
  obtain ⟨⟨a, i1, i2⟩, hin⟩ := hL.at hi
  obtain ⟨C1, ⟨go, hgo⟩, k1⟩ := run_op hin
  obtain ⟨C2, s1, v1, n1, k2⟩ := VarO.new C1 (opD o)
  have k12 := k1.trans k2
  have hqC := hm.lt
  have hq1 := k1.1
  have m2 := hm.kp k12
  have lo := v1.all
  obtain ⟨v, C3, ⟨gD, hgD⟩, ⟨y, rfl, hy⟩, m3, k3⟩ := run_Do (told := 0) (o := opD o) m2 hM
  have hn3 := k3.1
  have z3 : Vals (C3.alloc (rowOb 53 repZ)) 53 C3.next (.var 3) repZ := vals_puts (get_alloc_self _ _)
  obtain ⟨C4, s4, v4, l4, n4, k4⟩ := rep_store (e' := (doD ⟨d, true, false⟩ (opD o) 0).2.err) (w' := (doD ⟨d, true, false⟩ (opD o) 0).2.weight) (x' := y) z3 hy.cells.2.1
  rw [next_alloc] at n4
  have k34 : Kp C3 C4 := ⟨by omega, fun z hz => by rw [k4 z (by omega), get_alloc_ne (by omega)]⟩
  have kq : Kq q C C4 := (k12.kq q).trans (k3.trans (k34.kq q))
  have m4 := m3.kp k34
  have hy4 := hy.kp k34
  have vO4 : VarO C4 C1.next (opD o) := by
    refine ⟨by omega, v1.2.same ?_⟩
    rw [k34.2 _ (by omega), k3.2 _ (by omega) (by omega)]
  obtain ⟨ls, hv68⟩ := hm.v
  have h84 : EntE C4 d x8 := h8.kq hv68 kq
  have lk := vO4.kind
  rw [c4B_eq]
  apply W.seq
  apply W.runG (go) 20
  · intro M hM
    simp (config := { maxSteps := 4000000 }) (disch := first | decide +kernel | omega) only [c4B, c4b1, c4, Try.f4, Option.getD_some, sub_seq1, sub_seq0, sub_block, sub_loop, sub_nil, exec_region, runOps_cons, opF_move, ev_tmp, g1, evG_some, putT_some, T.get_set, Nat.reduceEqDiff, g10, if_false, opF_indexAddr, if_true, opF_load, opF_call, evs, R.ok_bind, resK, opF_alloc, z38, at_ptr, opF_store, putT_none, runOps_nil, cells_agg, i1, i2, hgo, s1]
    with_reducible rfl
  show W tb4 _ _ _
  apply W.seq
  apply W.runG (gD) 20
  · intro M hM
    simp (config := { maxSteps := 4000000 }) (disch := first | decide +kernel | omega) only [c4B, c4b1, c4, Try.f4, Option.getD_some, sub_seq1, sub_seq0, sub_block, sub_loop, sub_nil, exec_region, runOps_cons, opF_move, ev_tmp, T.get_set, Nat.reduceEqDiff, g7, if_false, evG_some, putT_some, opF_load, if_true, opF_call, evs, ev_int, R.ok_bind, resK, opF_alloc, z53, at_ptr, opF_store, putT_none, runOps_nil, cells_agg, lo, hgD, s4]
    with_reducible rfl
  show W tb4 _ _ _
  apply W.seq
  apply W.seq
  by_cases h8k : (opD o).kind = 8
  · have he8 : intOpF .eql .i64 (opD o).kind ((8 : Nat) : Int) = .ok (.bool true) := by rw [op_eqlI, decide_eq_true (show (opD o).kind = ((8 : Nat) : Int) from h8k)]
    have hdo := psn_open (d := d) h8k
    rw [hdo] at m4 v4
    apply W.run 20
    · intro M
      simp (config := { maxSteps := 4000000 }) (disch := first | decide +kernel | omega) only [c4B, c4b1, c4, Try.f4, Option.getD_some, sub_seq1, sub_seq0, sub_block, sub_loop, sub_nil, exec_region, runOps_cons, opF_fieldAddr, ev_tmp, T.get_set, Nat.reduceEqDiff, if_false, if_true, evG_some, putT_some, opF_load, opF_eql, ev_int, runOps_nil, R.ok_bind, f38_0, lk, binF_int, he8]
      with_reducible rfl
    show W tb4 _ _ _
    rw [c4k_eq]
    refine W.cond (p := true) ?_ (fun _ => ?_) (fun h => by cases h)
    · simp only [ev_tmp, T.get_set, Nat.reduceEqDiff, if_true, if_false, evG_some]
    refine psn_16 (x1 := x1) (told := told) (i := i) (p := C1.next) m4 h84 hok hd hM v4 ?_ hR
    simp only [psS, List.cons_append, List.nil_append]
    simp only [Sl_cons, Sl_nil, T.get_set, T.puts_cons, T.puts_nil, Nat.reduceEqDiff, Nat.reduceAdd, if_true, if_false, and_true, true_and, g1, g7, g8, g9, g10]
  · have he8 : intOpF .eql .i64 (opD o).kind ((8 : Nat) : Int) = .ok (.bool false) := by rw [op_eqlI, decide_eq_false (show ¬ (opD o).kind = ((8 : Nat) : Int) from h8k)]
    have hs : (doD ⟨d, true, false⟩ (opD o) 0).1 = ⟨d, true, false⟩ := by
      by_cases h67 : (opD o).kind = 6 ∨ (opD o).kind = 7
      · rw [psn_read h67]
      · obtain ⟨e, he, -⟩ := psn_else (d := d) (o := opD o) (fun h => h67 (.inl h)) (fun h => h67 (.inr h)) h8k
        rw [he]
    rw [hs] at m4
    apply W.run 20
    · intro M
      simp (config := { maxSteps := 4000000 }) (disch := first | decide +kernel | omega) only [c4B, c4b1, c4, Try.f4, Option.getD_some, sub_seq1, sub_seq0, sub_block, sub_loop, sub_nil, exec_region, runOps_cons, opF_fieldAddr, ev_tmp, T.get_set, Nat.reduceEqDiff, if_false, if_true, evG_some, putT_some, opF_load, opF_eql, ev_int, runOps_nil, R.ok_bind, f38_0, lk, binF_int, he8]
      with_reducible rfl
    show W tb4 _ _ _
    rw [c4k_eq]
    refine W.cond (p := false) ?_ (fun h => by cases h) (fun _ => ?_)
    · simp only [ev_tmp, T.get_set, Nat.reduceEqDiff, if_true, if_false, evG_some]
    apply W.run 20
    · intro M
      simp (config := { maxSteps := 4000000 }) (disch := first | decide +kernel | omega) only [exec_skip]
      with_reducible rfl
    show W tb4 _ _ _
    apply W.seq
    apply W.seq
    apply W.run 20
    · intro M
      simp (config := { maxSteps := 4000000 }) (disch := first | decide +kernel | omega) only [c4B, c4b1, c4, Try.f4, Option.getD_some, sub_seq1, sub_seq0, sub_block, sub_loop, sub_nil, exec_region, runOps_cons, opF_fieldAddr, ev_tmp, T.get_set, Nat.reduceEqDiff, if_false, if_true, evG_some, putT_some, opF_load, runOps_nil, R.ok_bind, f38_0, lk]
      with_reducible rfl
    show W tb4 _ _ _
    apply W.block
    refine psn_C (x1 := x1) (told := told) (i := i) (p := C1.next) (pr := C3.next) (o := opD o) m4 h84 hM vO4 (by omega) v4 ⟨_, rfl, hy4⟩ h8k ?_ fun t' C' kC st => ?_
    · simp only [psS, List.cons_append, List.nil_append]
      simp only [Sl_cons, Sl_nil, T.get_set, T.puts_cons, T.puts_nil, Nat.reduceEqDiff, Nat.reduceAdd, if_true, if_false, and_true, true_and, g1, g7, g8, g9, g10]
    · show W tb4 _ _ _
      refine psn_24 (x1 := x1) (told := told) (i := i) (m4.kp kC) (h84.kp kC) hok hd st fun t2 C2' kC2 mC2 st2 => ?_
      exact hK t2 C2' (kq.trans ((kC.trans kC2).kq q)) mC2 st2
end Go.Proofs.Ytnelkapmmgggdaa.mdl

