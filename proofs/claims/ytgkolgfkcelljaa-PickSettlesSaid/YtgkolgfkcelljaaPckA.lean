/-
  What the functions of this group compute on the abstract machine, and the plain laws of it. Part A: conditions stand in each theorem.
-/
import Derived.Test.YtgkolgfkcelljaaAmG
import Derived.Test.YtgkolgfkcelljaaChecked
import Derived.KernelRfl

/-
  Pick: tiers, rows and picks of lists of numbers (a plain law, no program in sight).
-/
namespace Go.Pick
set_option linter.unusedSimpArgs false
set_option linter.unusedVariables false

/-- How often a number can be divided. -/
def tier (f n : Nat) : Nat := if 2 ≤ f ∧ f ≤ n then tier f (n / f) + 1 else 0
termination_by n
decreasing_by exact Nat.div_lt_self (by omega) (by omega)
theorem tier_lt {f n : Nat} (h : n < f) : tier f n = 0 := by rw [tier, if_neg (by omega)]
theorem tier_step {f n : Nat} (h2 : 2 ≤ f) (h : f ≤ n) : tier f n = tier f (n / f) + 1 := by rw [tier, if_pos ⟨h2, h⟩]
theorem tier_lo {f : Nat} (h2 : 2 ≤ f) : ∀ n, 0 < tier f n → f ^ tier f n ≤ n := by
  intro n
  induction n using Nat.strongRecOn with
  | ind n ih =>
    intro h
    by_cases hn : n < f
    · rw [tier_lt hn] at h; omega
    · have hn' : f ≤ n := by omega
      rw [tier_step h2 hn', Nat.pow_succ]
      have hlt : n / f < n := Nat.div_lt_self (by omega) (by omega)
      have hd : f ^ tier f (n / f) ≤ n / f := by
        by_cases h0 : 0 < tier f (n / f)
        · exact ih _ hlt h0
        · rw [show tier f (n / f) = 0 by omega, Nat.pow_zero]
          exact (Nat.le_div_iff_mul_le (by omega)).2 (by omega)
      exact (Nat.le_div_iff_mul_le (by omega)).1 hd
theorem tier_hi {f : Nat} (h2 : 2 ≤ f) : ∀ n, n < f ^ (tier f n + 1) := by
  intro n
  induction n using Nat.strongRecOn with
  | ind n ih =>
    by_cases hn : n < f
    · rw [tier_lt hn]; simpa using hn
    · have hn' : f ≤ n := by omega
      rw [tier_step h2 hn', Nat.pow_succ]
      exact (Nat.div_lt_iff_lt_mul (by omega)).1 (ih _ (Nat.div_lt_self (by omega) (by omega)))
theorem tier_pow {f : Nat} (h2 : 2 ≤ f) : ∀ t, tier f (f ^ t) = t := by
  intro t
  induction t with
  | zero => exact tier_lt (by rw [Nat.pow_zero]; omega)
  | succ t ih =>
    have hp : 0 < f ^ t := Nat.pow_pos (by omega)
    have hle : f ≤ f ^ (t + 1) := by rw [Nat.pow_succ]; exact Nat.le_mul_of_pos_left _ hp
    rw [tier_step h2 hle, Nat.pow_succ, Nat.mul_div_cancel _ (by omega), ih]

/-- How many of a list are of one tier, from its beginning. -/
def runL (f t : Nat) : List Nat → Nat
  | [] => 0
  | n :: l => if tier f n = t then runL f t l + 1 else 0
theorem runL_le (f t : Nat) : ∀ l, runL f t l ≤ l.length
  | [] => Nat.le_refl _
  | n :: l => by
    unfold runL
    split
    · exact Nat.succ_le_succ (runL_le f t l)
    · exact Nat.zero_le _
theorem runL_get {f t : Nat} : ∀ {l : List Nat} {i : Nat}, i < runL f t l → tier f (l.getD i 0) = t
  | [], i, h => by simp [runL] at h
  | n :: l, i, h => by
    unfold runL at h
    split at h
    · rename_i e
      cases i with
      | zero => simpa using e
      | succ i => simpa using runL_get (l := l) (i := i) (by omega)
    · omega
theorem runL_stop {f t : Nat} : ∀ {l : List Nat}, runL f t l < l.length → tier f (l.getD (runL f t l) 0) ≠ t
  | [], h => by simp at h
  | n :: l, h => by
    unfold runL at h ⊢
    split
    · rename_i e
      rw [if_pos e] at h
      simpa using runL_stop (l := l) (by simpa using h)
    · rename_i e
      simpa using e
theorem runL_pos {f n : Nat} {l : List Nat} : 0 < runL f (tier f n) (n :: l) := by
  unfold runL
  rw [if_pos rfl]; omega

/-- A row: where it begins, where it ends, its tier. -/
structure Row where
  a : Nat
  b : Nat
  t : Nat
/-- The rows of a list that stands at a place. -/
def rowsL (f : Nat) : Nat → Nat → List Nat → List Row
  | 0, _, _ => []
  | _ + 1, _, [] => []
  | k + 1, at_, n :: l => ⟨at_, at_ + runL f (tier f n) (n :: l), tier f n⟩ :: rowsL f k (at_ + runL f (tier f n) (n :: l)) ((n :: l).drop (runL f (tier f n) (n :: l)))
def rows (f : Nat) (l : List Nat) : List Row := rowsL f l.length 0 l
theorem rowsL_nil (f k at_ : Nat) : rowsL f k at_ [] = [] := by cases k <;> rfl
theorem rowsL_more (f : Nat) : ∀ (k k' at_ : Nat) (l : List Nat), l.length ≤ k → l.length ≤ k' → rowsL f k at_ l = rowsL f k' at_ l
  | 0, k', at_, l, h, _ => by
    have : l = [] := List.length_eq_zero_iff.1 (by omega)
    subst this; rw [rowsL_nil, rowsL_nil]
  | k + 1, 0, at_, l, _, h => by
    have : l = [] := List.length_eq_zero_iff.1 (by omega)
    subst this; rw [rowsL_nil, rowsL_nil]
  | k + 1, k' + 1, at_, [], _, _ => rfl
  | k + 1, k' + 1, at_, n :: l, h, h' => by
    have hp : 0 < runL f (tier f n) (n :: l) := runL_pos
    have hl : ((n :: l).drop (runL f (tier f n) (n :: l))).length ≤ l.length := by rw [List.length_drop, List.length_cons]; omega
    simp only [List.length_cons] at h h'
    unfold rowsL
    rw [rowsL_more f k k' _ _ (by omega) (by omega)]
/-- The last one of the least tier, of the full ones. -/
def better (x : Option Row) (y : Row) : Option Row := match x with
  | none => some y
  | some x => if x.t < y.t then some x else some y
def fullR (f : Nat) (r : Row) : Bool := decide (f ≤ r.b - r.a)
def pickO (f : Nat) (l : List Nat) : Option Row := ((rows f l).filter (fullR f)).foldl better none
end Go.Pick

/-
  Pick: the tables; what is known at once; tiers; the numbers that are drawn.
-/
namespace Go.Proofs.Ytgkolgfkcelljaa.pck
open Go.Am Go.Pick
set_option linter.unusedSimpArgs false
set_option linter.unusedVariables false
set_option linter.unusedVariables false

noncomputable def tb0 : Tab := tabOf Try.checked.prog .e
theorem tb0_ok : TabOk tb0 := tabOf_ok Try.checked _ fun f k fn h => by cases h
theorem fn_at {k : Nat} {fn : Func} (h : Try.prog.funcs[k]? = some fn) : tb0.fn.get k = some fn := by
  show (T.ofList Try.checked.prog.funcs.toList).get k = _
  rw [T.get_ofList, Array.getElem?_toList]
  exact h
theorem works_true : isTrue (call tb0 1000000 6 [] mem0) = true := by decide +kernel
def worksK : List Value → Option Value
  | [] => some (.bool true)
  | _ => none
theorem hook_works : HookOk tb0.P 6 (pureHook worksK) := by
  refine hook_pure tb0_ok (f := 6) (fn := Try.f6) (fn_at Try.func6) (c := (Try.f6.body).getD .skip) (by kernel_rfl) fun args v h => ?_
  unfold worksK at h
  split at h
  · cases h
    have hw := works_true
    revert hw
    cases hc : call tb0 1000000 6 [] mem0 with
    | no _ => intro hw; cases hw
    | ok r =>
      cases r with
      | pan _ _ => intro hw; cases hw
      | val v A =>
        intro hw
        cases v with
        | bool b =>
          cases (show b = true from hw)
          exact ⟨by simp, by simp [flat], 1000000, A, hc⟩
        | _ => cases hw
  · cases h

/-! ### Tier -/
noncomputable def c9 : Code := Try.f9.body.getD .skip
noncomputable def c9b1 : Code := sub c9 [1,1,0,0,0]
theorem c9_eq : Try.f9.body = some (.seq (sub c9 [0]) (.seq (.seq (sub c9 [1,0,0]) (sub c9 [1,0,1])) (.seq (.block 0 (.loop c9b1)) (.seq (sub c9 [1,1,1,0]) (sub c9 [1,1,1,1]))))) := by kernel_rfl
theorem c9b1_eq : c9b1 = (.seq (.seq (sub c9b1 [0,0]) (sub c9b1 [0,1])) (.seq (sub c9b1 [1,0]) (sub c9b1 [1,1]))) := by kernel_rfl
theorem run_tier (f n : Nat) (h2 : 2 ≤ f) (hn : n < 4611686018427387904) : ∃ A', CallsTo tb0 9 [.int .i64 (n : Int), .int .i64 (f : Int)] mem0 (.int .i64 ((tier f n : Nat) : Int)) A' := by
  obtain ⟨v, A', h1, h2'⟩ : ∃ v A', CallsTo tb0 9 [.int .i64 (n : Int), .int .i64 (f : Int)] mem0 v A' ∧ v = .int .i64 ((tier f n : Nat) : Int) := by
    refine call_of_W (fn_at Try.func9) c9_eq (by rw [Try.ntmps9]; simp) ?_
    have n2 : ¬ f < 2 := by omega
    apply W.seq
    apply W.run 20
    · intro M
      simp (config := { maxSteps := 4000000 }) (disch := first | decide +kernel | (rw [wantF_guard]; simp only [wantD_some, dstAt_zero, dstAt_succ, T.get_set, T.get_e, Nat.reduceEqDiff, if_true, if_false, wantV_bool, wantV_unit, unitV, cond_true, cond_false, Bool.not_true, Bool.not_false, List.toList_toArray]) | omega) only [c9, Try.f9, Option.getD_some, sub_seq0, sub_nil, T.puts_cons, Nat.reduceAdd, T.puts_nil, exec_region, runOps_cons, opF_assign, ev_int, putT_some, runOps_nil, R.ok_bind]
      with_reducible rfl
    apply W.seq
    apply W.seq
    apply W.run 20
    · intro M
      simp (config := { maxSteps := 4000000 }) (disch := first | decide +kernel | (rw [wantF_guard]; simp only [wantD_some, dstAt_zero, dstAt_succ, T.get_set, T.get_e, Nat.reduceEqDiff, if_true, if_false, wantV_bool, wantV_unit, unitV, cond_true, cond_false, Bool.not_true, Bool.not_false, List.toList_toArray]) | omega) only [c9, Try.f9, Option.getD_some, sub_seq1, sub_seq0, sub_nil, exec_region, runOps_cons, opF_move, ev_tmp, T.get_set, Nat.reduceEqDiff, T.get_e, if_false, if_true, evG_some, putT_some, opF_ari, ev_int, runOps_nil, R.ok_bind, binF_int, op_lssI, cast_lt, n2, decide_false]
      with_reducible rfl
    apply W.run 20
    · intro M
      simp (config := { maxSteps := 4000000 }) (disch := first | decide +kernel | (rw [wantF_guard]; simp only [wantD_some, dstAt_zero, dstAt_succ, T.get_set, T.get_e, Nat.reduceEqDiff, if_true, if_false, wantV_bool, wantV_unit, unitV, cond_true, cond_false, Bool.not_true, Bool.not_false, List.toList_toArray]) | omega) only [c9, Try.f9, Option.getD_some, sub_seq1, sub_seq0, sub_nil, exec_cond, ev_tmp, T.get_set, Nat.reduceEqDiff, T.get_e, if_false, if_true, evG_some, exec_seq, exec_region, runOps_cons, opF_assign, ev_int, putT_some, runOps_nil, R.ok_bind, exec_ret, exec_skip]
      with_reducible rfl
    show W tb0 _ _ _
    apply W.seq
    apply W.block
    refine W.fall (fun m t C => ∃ c, C = mem0 ∧ tier f m + c = tier f n ∧ m + c ≤ n ∧ Sl t [(0, .int .i64 (m : Int)), (1, .int .i64 (f : Int)), (4, .int .i64 (c : Int))]) ?_ (k := n) ⟨0, rfl, rfl, Nat.le_refl _, ?_⟩
    · rintro m t C ⟨c, rfl, hc, hb, g0, g1, g4, -⟩
      by_cases hm : f ≤ m
      · have hp : 0 < f := by omega
        have hlt : m / f < m := Nat.div_lt_self (by omega) (by omega)
        have hst := tier_step h2 hm
        have hqu : intOpF .quo .i64 (m : Int) (f : Int) = .ok (.int .i64 ((m / f : Nat) : Int)) := op_quo_i64 (by omega) (by omega)
        have hc1 : c + 1 < 9223372036854775808 := by omega
        rw [c9b1_eq]
        apply W.seq
        apply W.seq
        apply W.run 20
        · intro M
          simp (config := { maxSteps := 4000000 }) (disch := first | decide +kernel | (rw [wantF_guard]; simp only [wantD_some, dstAt_zero, dstAt_succ, T.get_set, T.get_e, Nat.reduceEqDiff, if_true, if_false, wantV_bool, wantV_unit, unitV, cond_true, cond_false, Bool.not_true, Bool.not_false, List.toList_toArray]) | omega) only [c9b1, c9, Try.f9, Option.getD_some, sub_seq1, sub_seq0, sub_block, sub_loop, sub_nil, exec_region, runOps_cons, opF_move, ev_tmp, g0, evG_some, putT_some, T.get_set, Nat.reduceEqDiff, g1, if_false, opF_ari, if_true, runOps_nil, R.ok_bind, binF_int, op_geq, cast_le, hm, decide_true]
          with_reducible rfl
        apply W.run 20
        · intro M
          simp (config := { maxSteps := 4000000 }) (disch := first | decide +kernel | (rw [wantF_guard]; simp only [wantD_some, dstAt_zero, dstAt_succ, T.get_set, T.get_e, Nat.reduceEqDiff, if_true, if_false, wantV_bool, wantV_unit, unitV, cond_true, cond_false, Bool.not_true, Bool.not_false, List.toList_toArray]) | omega) only [c9b1, c9, Try.f9, Option.getD_some, sub_seq1, sub_seq0, sub_block, sub_loop, sub_nil, exec_cond, ev_tmp, T.get_set, Nat.reduceEqDiff, if_false, if_true, evG_some, exec_skip, exec_exit, R.ok_bind]
          with_reducible rfl
        show W tb0 _ _ _
        apply W.run 20
        · intro M
          simp (config := { maxSteps := 4000000 }) (disch := first | decide +kernel | (rw [wantF_guard]; simp only [wantD_some, dstAt_zero, dstAt_succ, T.get_set, T.get_e, Nat.reduceEqDiff, if_true, if_false, wantV_bool, wantV_unit, unitV, cond_true, cond_false, Bool.not_true, Bool.not_false, List.toList_toArray]) | omega) only [c9b1, c9, Try.f9, Option.getD_some, sub_seq1, sub_seq0, sub_block, sub_loop, sub_nil, exec_seq, exec_block, exec_region, runOps_cons, opF_move, ev_tmp, T.get_set, Nat.reduceEqDiff, g0, if_false, evG_some, putT_some, g1, opF_ari, if_true, opF_assign, runOps_nil, R.ok_bind, binF_int, hqu, g4, ev_int, op_add_i64]
          with_reducible rfl
        refine ⟨m / f, _, _, hlt, rfl, c + 1, rfl, by omega, by omega, ?_⟩
        simp only [Sl_cons, Sl_nil, T.get_set, T.puts_cons, T.puts_nil, Nat.reduceEqDiff, Nat.reduceAdd, if_true, if_false, and_true, true_and, g1]
      · have h0 : tier f m = 0 := tier_lt (by omega)
        rw [c9b1_eq]
        apply W.seq
        apply W.seq
        apply W.run 20
        · intro M
          simp (config := { maxSteps := 4000000 }) (disch := first | decide +kernel | (rw [wantF_guard]; simp only [wantD_some, dstAt_zero, dstAt_succ, T.get_set, T.get_e, Nat.reduceEqDiff, if_true, if_false, wantV_bool, wantV_unit, unitV, cond_true, cond_false, Bool.not_true, Bool.not_false, List.toList_toArray]) | omega) only [c9b1, c9, Try.f9, Option.getD_some, sub_seq1, sub_seq0, sub_block, sub_loop, sub_nil, exec_region, runOps_cons, opF_move, ev_tmp, g0, evG_some, putT_some, T.get_set, Nat.reduceEqDiff, g1, if_false, opF_ari, if_true, runOps_nil, R.ok_bind, binF_int, op_geq, cast_le, hm, decide_false]
          with_reducible rfl
        apply W.run 20
        · intro M
          simp (config := { maxSteps := 4000000 }) (disch := first | decide +kernel | (rw [wantF_guard]; simp only [wantD_some, dstAt_zero, dstAt_succ, T.get_set, T.get_e, Nat.reduceEqDiff, if_true, if_false, wantV_bool, wantV_unit, unitV, cond_true, cond_false, Bool.not_true, Bool.not_false, List.toList_toArray]) | omega) only [c9b1, c9, Try.f9, Option.getD_some, sub_seq1, sub_seq0, sub_block, sub_loop, sub_nil, exec_cond, ev_tmp, T.get_set, Nat.reduceEqDiff, if_false, if_true, evG_some, exec_skip, exec_exit, R.ok_bind]
          with_reducible rfl
        show W tb0 _ _ _
        apply W.seq
        apply W.run 20
        · intro M
          simp (config := { maxSteps := 4000000 }) (disch := first | decide +kernel | (rw [wantF_guard]; simp only [wantD_some, dstAt_zero, dstAt_succ, T.get_set, T.get_e, Nat.reduceEqDiff, if_true, if_false, wantV_bool, wantV_unit, unitV, cond_true, cond_false, Bool.not_true, Bool.not_false, List.toList_toArray]) | omega) only [c9, Try.f9, Option.getD_some, sub_seq1, sub_seq0, sub_nil, exec_region, runOps_cons, opF_move, ev_tmp, T.get_set, Nat.reduceEqDiff, g4, if_false, evG_some, putT_some, opF_assign, if_true, runOps_nil, R.ok_bind]
          with_reducible rfl
        apply W.run 20
        · intro M
          simp (config := { maxSteps := 4000000 }) (disch := first | decide +kernel | (rw [wantF_guard]; simp only [wantD_some, dstAt_zero, dstAt_succ, T.get_set, T.get_e, Nat.reduceEqDiff, if_true, if_false, wantV_bool, wantV_unit, unitV, cond_true, cond_false, Bool.not_true, Bool.not_false, List.toList_toArray]) | omega) only [c9, Try.f9, Option.getD_some, sub_seq1, sub_nil, exec_ret]
          with_reducible rfl
        refine ⟨.inr rfl, _, [.int .i64 ((tier f n : Nat) : Int)], rfl, ?_, rfl⟩
        have hcn : c = tier f n := by omega
        subst hcn
        simp only [Try.f9, resF, ev_tmp, T.get_set, Nat.reduceEqDiff, if_true, if_false, evG_some, R.ok_bind]
    · simp only [Sl_cons, Sl_nil, T.get_set, T.puts_cons, T.puts_nil, Nat.reduceEqDiff, Nat.reduceAdd, if_true, if_false, and_true, true_and]
  subst h2'
  exact ⟨A', h1⟩
def tierK : List Value → Option Value
  | [.int .i64 (.ofNat n), .int .i64 (.ofNat f)] => if 2 ≤ f ∧ n < 4611686018427387904 then some (.int .i64 ((tier f n : Nat) : Int)) else none
  | _ => none
theorem hook_tier : HookOk tb0.P 9 (pureHook tierK) := by
  refine hook_pure tb0_ok (f := 9) (fn := Try.f9) (fn_at Try.func9) (c := (Try.f9.body).getD .skip) (by kernel_rfl) fun args v h => ?_
  unfold tierK at h
  split at h
  · rename_i n f
    split at h
    · rename_i hn
      cases h
      obtain ⟨A', k, hk⟩ := run_tier f n hn.1 hn.2
      exact ⟨by simp [flat], by simp [flat], k, A', hk⟩
    · cases h
  · cases h
noncomputable def tb1 : Tab := (tb0.know 6 (pureHook worksK)).know 9 (pureHook tierK)
theorem tb1_ok : TabOk tb1 := know_ok (know_ok tb0_ok hook_works) hook_tier
section
variable {ih : Code → St → R (Ex × St)} {A : Mem}
theorem k6 : callF tb1 ih (.fn 6 []) A = .ok (.val (.bool true) A) :=
  callF_known (c := (Try.f6.body).getD .skip) (fn_at Try.func6) (by kernel_rfl) (by kernel_rfl) (h := pureHook worksK) (by kernel_rfl) rfl
theorem k9 {n f : Nat} (h2 : 2 ≤ f) (hn : n < 4611686018427387904) : callF tb1 ih (.fn 9 [.int .i64 (n : Int), .int .i64 (f : Int)]) A = .ok (.val (.int .i64 ((tier f n : Nat) : Int)) A) :=
  callF_known (c := (Try.f9.body).getD .skip) (fn_at Try.func9) (by kernel_rfl) (by kernel_rfl) (h := pureHook tierK) (by kernel_rfl) (by
    unfold pureHook
    show (match tierK [.int .i64 (.ofNat n), .int .i64 (.ofNat f)] with | some v => R.ok (v, A) | none => .no 600) = _
    simp only [tierK]
    rw [if_pos ⟨h2, hn⟩])
end
theorem und3 : tb1.und 3 = some (.int .i64) := by kernel_rfl
theorem und4 : tb1.und 4 = some .bool := by kernel_rfl
theorem und5 : tb1.und 5 = some (.int .u8) := by kernel_rfl
theorem und22 : tb1.und 22 = some (.slice 38) := by kernel_rfl
theorem und24 : tb1.und 24 = some (.slice 3) := by kernel_rfl
theorem und26 : tb1.und 26 = some (.slice 28) := by kernel_rfl
theorem und30 : tb1.und 30 = some (.int .i64) := by kernel_rfl
theorem und38 : tb1.und 38 = some (.int .u16) := by kernel_rfl
theorem size3 : sizeF tb1 3 = .ok 1 := by kernel_rfl
theorem size4 : sizeF tb1 4 = .ok 1 := by kernel_rfl
theorem size24 : sizeF tb1 24 = .ok 1 := by kernel_rfl
theorem size26 : sizeF tb1 26 = .ok 1 := by kernel_rfl
theorem size28 : sizeF tb1 28 = .ok 2 := by kernel_rfl
theorem size38 : sizeF tb1 38 = .ok 1 := by kernel_rfl
theorem size44 : sizeF tb1 44 = .ok 3 := by kernel_rfl
end Go.Proofs.Ytgkolgfkcelljaa.pck

/-
  Pick: the numbers that are drawn.
-/
namespace Go.Proofs.Ytgkolgfkcelljaa.pck
open Go.Am Go.Pick
set_option linter.unusedSimpArgs false
set_option linter.unusedVariables false
set_option linter.unusedVariables false
set_option maxRecDepth 20000

def shorts (l : List Nat) : List Value := l.map fun n : Nat => Value.int .u16 (n : Int)
theorem shorts_len (l : List Nat) : (shorts l).length = l.length := by simp [shorts]
def ints (l : List Nat) : List Value := l.map fun n : Nat => Value.int .i64 (n : Int)
theorem ints_len (l : List Nat) : (ints l).length = l.length := by simp [ints]
theorem ints_get {l : List Nat} {i : Nat} (h : i < l.length) : (ints l)[i]? = some (.int .i64 ((l.getD i 0 : Nat) : Int)) := by
  simp [ints, List.getD, List.getElem?_eq_getElem h]
theorem ints_app (l m : List Nat) : ints (l ++ m) = ints l ++ ints m := by simp [ints]
/-- What a drawn number becomes. -/
def numberOf (v : Nat) : Nat :=
  if v % 8 < 4 then v / 8 % 7 else if v % 8 = 4 then 1 <<< (v / 8 % 16) - 1 + v / 8 / 16 % 3 else if v % 8 = 5 then v / 8 % 100 else v / 8
theorem shl_small : ∀ k, k < 16 → 1 ≤ 1 <<< k ∧ 1 <<< k ≤ 32768 := by decide
theorem numberOf_le {v : Nat} (h : v < 65536) : numberOf v ≤ 40000 := by
  have hs := shl_small (v / 8 % 16) (by omega)
  unfold numberOf
  split
  · omega
  · split
    · omega
    · split <;> omega
def ownL (l : List Nat) : List Nat := (l.take 60).map numberOf
theorem ownL_len (l : List Nat) : (ownL l).length ≤ 60 := by simp [ownL]; omega
theorem ownL_le {l : List Nat} (h : ∀ v ∈ l, v < 65536) : ∀ n ∈ ownL l, n ≤ 40000 := fun n hn => by
  simp only [ownL, List.mem_map] at hn
  obtain ⟨v, hv, rfl⟩ := hn
  exact numberOf_le (h v (List.mem_of_mem_take hv))
theorem binF_shr_u16 {d : Option TypeDesc} {k' : IntKind} {a b : Nat} (h : b < 16) : binF .shr d (.int .u16 (a : Int)) (.int k' (b : Int)) = .ok (.int .u16 ((a >>> b : Nat) : Int)) := binF_shr h
theorem binF_shl_i64 {d : Option TypeDesc} {k' : IntKind} {a b : Nat} (h : b < 64) (h2 : a <<< b < 9223372036854775808) : binF .shl d (.int .i64 (a : Int)) (.int k' (b : Int)) = .ok (.int .i64 ((a <<< b : Nat) : Int)) := by
  have e : binF .shl d (.int .i64 (a : Int)) (.int k' (b : Int)) = (bif Nat.blt b 64 then R.ok (Value.int .i64 (wrapF .i64 ((a <<< b : Nat) : Int))) else .ok (.int .i64 0)) := rfl
  have hb : Nat.blt b 64 = true := by rw [Nat.blt_eq]; exact h
  rw [e, hb, cond_true, wrapF_i64 h2]
theorem zc3 : zcellsF tb1 3 = .ok (1, [.int .i64 0]) := by kernel_rfl
theorem ty3 : ∃ i, tb1.ty.get 3 = some i ∧ i.bytes = 8 := by
  have h : ((tb1.ty.get 3).map fun i => i.bytes) = some 8 := by kernel_rfl
  cases hq : tb1.ty.get 3 with
  | none => rw [hq] at h; cases h
  | some i => rw [hq] at h; exact ⟨i, rfl, by simpa using h⟩
theorem bs24 (a : Int) : buildSliceF tb1 24 1 [(0, .int .i64 a)] = .ok (rowOb 3 [.int .i64 a], .slc 1 2) := by kernel_rfl
noncomputable def c7 : Code := Try.f7.body.getD .skip
noncomputable def c7b1 : Code := sub c7 [1,1,0,1,0,0]
theorem c7_eq : Try.f7.body = some (.seq (sub c7 [0]) (.seq (sub c7 [1,0]) (.seq (.seq (sub c7 [1,1,0,0]) (.block 0 (.loop c7b1))) (.seq (sub c7 [1,1,1,0]) (sub c7 [1,1,1,1]))))) := by kernel_rfl
theorem c7b1_eq : c7b1 = (.seq (.seq (sub c7b1 [0,0]) (sub c7b1 [0,1])) (.seq (.block 1 (.seq (sub c7b1 [1,0,0,0]) (.seq (.seq (sub c7b1 [1,0,0,1,0,0]) (sub c7b1 [1,0,0,1,0,1])) (sub c7b1 [1,0,0,1,1])))) (sub c7b1 [1,1]))) := by kernel_rfl
/-- The row that 'numbersOf' makes. -/
structure Ext (A A' : Mem) : Prop where
  n : A.next ≤ A'.next
  g : ∀ y, y < A.next → A'.get y = A.get y
theorem Ext.refl (A : Mem) : Ext A A := ⟨Nat.le_refl _, fun _ _ => rfl⟩
theorem Ext.trans {A B C : Mem} (h : Ext A B) (h' : Ext B C) : Ext A C := ⟨Nat.le_trans h.n h'.n, fun y hy => (h'.g y (Nat.lt_of_lt_of_le hy h.n)).trans (h.g y hy)⟩
theorem Ext.alloc (A : Mem) (o : Ob) : Ext A (A.alloc o) := ⟨by rw [next_alloc]; omega, fun y hy => get_alloc_ne (by omega)⟩
theorem Ext.put {A B C : Mem} {b : Nat} (h : Ext A B) (hb : A.next ≤ b) (hn : C.next = B.next) (hg : ∀ y, y ≠ b → C.get y = B.get y) : Ext A C := ⟨by rw [hn]; exact h.n, fun y hy => by rw [hg y (by omega), h.g y hy]⟩
/-- Numbers in memory, somewhere. -/
def Own (A : Mem) (l : List Nat) (x : Value) : Prop := ∃ b, Slc A 3 b (ints l) x
theorem Own.ext {A A' : Mem} {l : List Nat} {x : Value} (h : Own A l x) (e : Ext A A') : Own A' l x := by
  obtain ⟨b, h⟩ := h
  exact ⟨b, h.same e.n (fun hb => e.g b hb)⟩
theorem Own.len {A : Mem} {l : List Nat} {x : Value} (h : Own A l x) : builtinPF tb1 .len [24] [x] = .ok (.int .i64 ((l.length : Nat) : Int)) := by
  obtain ⟨b, h⟩ := h
  rw [h.len (tb := tb1) (t := 24) und24, ints_len]
theorem Own.at {A : Mem} {l : List Nat} {x : Value} (h : Own A l x) {i : Nat} (hi : i < l.length) : ∃ p, indexAddrF tb1 24 x (.int .i64 (i : Int)) = .ok (.pointer (some p)) ∧ loadF tb1 A.get 3 (.pointer (some p)) = .ok (.int .i64 ((l.getD i 0 : Nat) : Int)) := by
  obtain ⟨b, h⟩ := h
  exact ⟨_, h.idx (tb := tb1) (t := 24) (kd := .i64) und24 size3 (by rw [ints_len]; exact hi), h.load und3 rfl (ints_get hi)⟩
theorem Own.cells {A : Mem} {l : List Nat} {x : Value} (h : Own A l x) : x.cells.toList = [x] ∧ oneCell x = true ∧ sameV 100 x x = true := by
  obtain ⟨b, h⟩ := h
  exact ⟨h.cells, h.one, h.self⟩
set_option maxHeartbeats 8000000 in
theorem num_switch {v k : Nat} {t : T Value} {D : Mem} {x xo p : Value} {K : Ex → St → Prop} (hv : v < 65536) (hp : indexAddrF tb1 22 x (.int .i64 (k : Int)) = .ok p) (hl : loadF tb1 D.get 38 p = .ok (.int .u16 (v : Int))) (hpp : ∃ a, p = .pointer (some a)) (g0 : t.get 0 = some x) (g3 : t.get 3 = some xo) (g4 : t.get 4 = some (.int .i64 (k : Int))) (g5 : t.get 5 = some (.int .i64 ((v / 8 : Nat) : Int)))
    (hK : ∀ t', Sl t' [(0, x), (3, xo), (4, .int .i64 (k : Int)), (5, .int .i64 ((numberOf v : Nat) : Int))] → K .nrm ⟨t', 53, [], D, none⟩) :
    W tb1 (.seq (sub c7b1 [1,0,0,1,0,0]) (sub c7b1 [1,0,0,1,0,1])) ⟨t, 53, [], D, none⟩ K := by
  obtain ⟨a, rfl⟩ := hpp
  apply W.seq
  apply W.run 20
  · intro M
    simp (config := { maxSteps := 4000000 }) (disch := first | decide +kernel | (rw [wantF_guard]; simp only [wantD_some, dstAt_zero, dstAt_succ, T.get_set, T.get_e, Nat.reduceEqDiff, if_true, if_false, wantV_bool, wantV_unit, unitV, cond_true, cond_false, Bool.not_true, Bool.not_false, List.toList_toArray]) | omega) only [c7b1, c7, Try.f7, Option.getD_some, sub_seq1, sub_seq0, sub_block, sub_loop, sub_nil, exec_region, runOps_cons, opF_move, ev_tmp, g0, evG_some, putT_some, T.get_set, Nat.reduceEqDiff, g4, if_false, opF_indexAddr, if_true, opF_load, opF_ari, ev_int, runOps_nil, R.ok_bind, hp, hl, binF_int, op_rem]
    with_reducible rfl
  show W tb1 _ _ _
  have hs := shl_small (v / 8 % 16) (by omega)
  have hc : v % 8 = 0 ∨ v % 8 = 1 ∨ v % 8 = 2 ∨ v % 8 = 3 ∨ v % 8 = 4 ∨ v % 8 = 5 ∨ v % 8 = 6 ∨ v % 8 = 7 := by omega
  have b1 : v / 8 < 9223372036854775808 := by omega
  rcases hc with h | h | h | h | h | h | h | h
  · have e : numberOf v = v / 8 % 7 := by unfold numberOf; rw [h]; rfl
    rw [e] at hK
    apply W.run 20
    · intro M
      simp (config := { maxSteps := 4000000 }) (disch := first | decide +kernel | (rw [wantF_guard]; simp only [wantD_some, dstAt_zero, dstAt_succ, T.get_set, T.get_e, Nat.reduceEqDiff, if_true, if_false, wantV_bool, wantV_unit, unitV, cond_true, cond_false, Bool.not_true, Bool.not_false, List.toList_toArray]) | omega) only [c7b1, c7, Try.f7, Option.getD_some, sub_seq1, sub_seq0, sub_block, sub_loop, sub_nil, h, exec_block, exec_seq, exec_region, runOps_cons, opF_eql, ev_tmp, T.get_set, Nat.reduceEqDiff, if_false, if_true, evG_some, ev_int, putT_some, opF_assign, runOps_nil, R.ok_bind, binF_int, op_eql, decide_true, exec_cond, exec_skip, decide_false, opF_move, g5, opF_ari, op_rem, op_quo_i64]
      with_reducible rfl
    apply hK; simp only [Sl_cons, Sl_nil, T.get_set, T.puts_cons, T.puts_nil, Nat.reduceEqDiff, Nat.reduceAdd, if_true, if_false, and_true, true_and, g0, g3, g4]
  · have e : numberOf v = v / 8 % 7 := by unfold numberOf; rw [h]; rfl
    rw [e] at hK
    apply W.run 20
    · intro M
      simp (config := { maxSteps := 4000000 }) (disch := first | decide +kernel | (rw [wantF_guard]; simp only [wantD_some, dstAt_zero, dstAt_succ, T.get_set, T.get_e, Nat.reduceEqDiff, if_true, if_false, wantV_bool, wantV_unit, unitV, cond_true, cond_false, Bool.not_true, Bool.not_false, List.toList_toArray]) | omega) only [c7b1, c7, Try.f7, Option.getD_some, sub_seq1, sub_seq0, sub_block, sub_loop, sub_nil, h, exec_block, exec_seq, exec_region, runOps_cons, opF_eql, ev_tmp, T.get_set, Nat.reduceEqDiff, if_false, if_true, evG_some, ev_int, putT_some, opF_assign, runOps_nil, R.ok_bind, binF_int, op_eql, decide_false, exec_cond, exec_skip, decide_true, opF_move, g5, opF_ari, op_rem, op_quo_i64]
      with_reducible rfl
    apply hK; simp only [Sl_cons, Sl_nil, T.get_set, T.puts_cons, T.puts_nil, Nat.reduceEqDiff, Nat.reduceAdd, if_true, if_false, and_true, true_and, g0, g3, g4]
  · have e : numberOf v = v / 8 % 7 := by unfold numberOf; rw [h]; rfl
    rw [e] at hK
    apply W.run 20
    · intro M
      simp (config := { maxSteps := 4000000 }) (disch := first | decide +kernel | (rw [wantF_guard]; simp only [wantD_some, dstAt_zero, dstAt_succ, T.get_set, T.get_e, Nat.reduceEqDiff, if_true, if_false, wantV_bool, wantV_unit, unitV, cond_true, cond_false, Bool.not_true, Bool.not_false, List.toList_toArray]) | omega) only [c7b1, c7, Try.f7, Option.getD_some, sub_seq1, sub_seq0, sub_block, sub_loop, sub_nil, h, exec_block, exec_seq, exec_region, runOps_cons, opF_eql, ev_tmp, T.get_set, Nat.reduceEqDiff, if_false, if_true, evG_some, ev_int, putT_some, opF_assign, runOps_nil, R.ok_bind, binF_int, op_eql, decide_false, exec_cond, exec_skip, decide_true, opF_move, g5, opF_ari, op_rem, op_quo_i64]
      with_reducible rfl
    apply hK; simp only [Sl_cons, Sl_nil, T.get_set, T.puts_cons, T.puts_nil, Nat.reduceEqDiff, Nat.reduceAdd, if_true, if_false, and_true, true_and, g0, g3, g4]
  · have e : numberOf v = v / 8 % 7 := by unfold numberOf; rw [h]; rfl
    rw [e] at hK
    apply W.run 20
    · intro M
      simp (config := { maxSteps := 4000000 }) (disch := first | decide +kernel | (rw [wantF_guard]; simp only [wantD_some, dstAt_zero, dstAt_succ, T.get_set, T.get_e, Nat.reduceEqDiff, if_true, if_false, wantV_bool, wantV_unit, unitV, cond_true, cond_false, Bool.not_true, Bool.not_false, List.toList_toArray]) | omega) only [c7b1, c7, Try.f7, Option.getD_some, sub_seq1, sub_seq0, sub_block, sub_loop, sub_nil, h, exec_block, exec_seq, exec_region, runOps_cons, opF_eql, ev_tmp, T.get_set, Nat.reduceEqDiff, if_false, if_true, evG_some, ev_int, putT_some, opF_assign, runOps_nil, R.ok_bind, binF_int, op_eql, decide_false, exec_cond, exec_skip, decide_true, opF_move, g5, opF_ari, op_rem, op_quo_i64]
      with_reducible rfl
    apply hK; simp only [Sl_cons, Sl_nil, T.get_set, T.puts_cons, T.puts_nil, Nat.reduceEqDiff, Nat.reduceAdd, if_true, if_false, and_true, true_and, g0, g3, g4]
  · have e : numberOf v = 1 <<< (v / 8 % 16) - 1 + v / 8 / 16 % 3 := by unfold numberOf; rw [h]; rfl
    rw [e] at hK
    have s1 : intOpF .sub .i64 ((1 <<< (v / 8 % 16) : Nat) : Int) ((1 : Nat) : Int) = .ok (.int .i64 ((1 <<< (v / 8 % 16) - 1 : Nat) : Int)) := op_sub_i64 (by omega) (by omega)
    have s2 : ∀ d, binF .shl d (.int .i64 ((1 : Nat) : Int)) (.int .i64 ((v / 8 % 16 : Nat) : Int)) = .ok (.int .i64 ((1 <<< (v / 8 % 16) : Nat) : Int)) := fun d => binF_shl_i64 (by omega) (by omega)
    have s3 : 1 <<< (v / 8 % 16) - 1 + v / 8 / 16 % 3 < 9223372036854775808 := by omega
    have s4 : intOpF .quo .i64 ((v / 8 : Nat) : Int) ((16 : Nat) : Int) = .ok (.int .i64 ((v / 8 / 16 : Nat) : Int)) := op_quo_i64 (by omega) (by omega)
    apply W.run 20
    · intro M
      simp (config := { maxSteps := 4000000 }) (disch := first | decide +kernel | (rw [wantF_guard]; simp only [wantD_some, dstAt_zero, dstAt_succ, T.get_set, T.get_e, Nat.reduceEqDiff, if_true, if_false, wantV_bool, wantV_unit, unitV, cond_true, cond_false, Bool.not_true, Bool.not_false, List.toList_toArray]) | omega) only [c7b1, c7, Try.f7, Option.getD_some, sub_seq1, sub_seq0, sub_block, sub_loop, sub_nil, h, exec_block, exec_seq, exec_region, runOps_cons, opF_eql, ev_tmp, T.get_set, Nat.reduceEqDiff, if_false, if_true, evG_some, ev_int, putT_some, opF_assign, runOps_nil, R.ok_bind, binF_int, op_eql, decide_false, exec_cond, exec_skip, opF_move, g5, opF_ari, op_rem, decide_true, s4, s2, s1, op_add_i64]
      with_reducible rfl
    apply hK; simp only [Sl_cons, Sl_nil, T.get_set, T.puts_cons, T.puts_nil, Nat.reduceEqDiff, Nat.reduceAdd, if_true, if_false, and_true, true_and, g0, g3, g4]
  · have e : numberOf v = v / 8 % 100 := by unfold numberOf; rw [h]; rfl
    rw [e] at hK
    apply W.run 20
    · intro M
      simp (config := { maxSteps := 4000000 }) (disch := first | decide +kernel | (rw [wantF_guard]; simp only [wantD_some, dstAt_zero, dstAt_succ, T.get_set, T.get_e, Nat.reduceEqDiff, if_true, if_false, wantV_bool, wantV_unit, unitV, cond_true, cond_false, Bool.not_true, Bool.not_false, List.toList_toArray]) | omega) only [c7b1, c7, Try.f7, Option.getD_some, sub_seq1, sub_seq0, sub_block, sub_loop, sub_nil, h, exec_block, exec_seq, exec_region, runOps_cons, opF_eql, ev_tmp, T.get_set, Nat.reduceEqDiff, if_false, if_true, evG_some, ev_int, putT_some, opF_assign, runOps_nil, R.ok_bind, binF_int, op_eql, decide_false, exec_cond, exec_skip, opF_move, g5, opF_ari, op_rem, op_quo_i64, decide_true]
      with_reducible rfl
    apply hK; simp only [Sl_cons, Sl_nil, T.get_set, T.puts_cons, T.puts_nil, Nat.reduceEqDiff, Nat.reduceAdd, if_true, if_false, and_true, true_and, g0, g3, g4]
  · have e : numberOf v = v / 8 := by unfold numberOf; rw [h]; rfl
    rw [e] at hK
    apply W.run 20
    · intro M
      simp (config := { maxSteps := 4000000 }) (disch := first | decide +kernel | (rw [wantF_guard]; simp only [wantD_some, dstAt_zero, dstAt_succ, T.get_set, T.get_e, Nat.reduceEqDiff, if_true, if_false, wantV_bool, wantV_unit, unitV, cond_true, cond_false, Bool.not_true, Bool.not_false, List.toList_toArray]) | omega) only [c7b1, c7, Try.f7, Option.getD_some, sub_seq1, sub_seq0, sub_block, sub_loop, sub_nil, h, exec_block, exec_seq, exec_region, runOps_cons, opF_eql, ev_tmp, T.get_set, Nat.reduceEqDiff, if_false, if_true, evG_some, ev_int, putT_some, opF_assign, runOps_nil, R.ok_bind, binF_int, op_eql, decide_false, exec_cond, exec_skip, opF_move, g5, opF_ari, op_rem, op_quo_i64]
      with_reducible rfl
    apply hK; simp only [Sl_cons, Sl_nil, T.get_set, T.puts_cons, T.puts_nil, Nat.reduceEqDiff, Nat.reduceAdd, if_true, if_false, and_true, true_and, g0, g3, g4, g5]
  · have e : numberOf v = v / 8 := by unfold numberOf; rw [h]; rfl
    rw [e] at hK
    apply W.run 20
    · intro M
      simp (config := { maxSteps := 4000000 }) (disch := first | decide +kernel | (rw [wantF_guard]; simp only [wantD_some, dstAt_zero, dstAt_succ, T.get_set, T.get_e, Nat.reduceEqDiff, if_true, if_false, wantV_bool, wantV_unit, unitV, cond_true, cond_false, Bool.not_true, Bool.not_false, List.toList_toArray]) | omega) only [c7b1, c7, Try.f7, Option.getD_some, sub_seq1, sub_seq0, sub_block, sub_loop, sub_nil, h, exec_block, exec_seq, exec_region, runOps_cons, opF_eql, ev_tmp, T.get_set, Nat.reduceEqDiff, if_false, if_true, evG_some, ev_int, putT_some, opF_assign, runOps_nil, R.ok_bind, binF_int, op_eql, decide_false, exec_cond, exec_skip, opF_move, g5, opF_ari, op_rem, op_quo_i64]
      with_reducible rfl
    apply hK; simp only [Sl_cons, Sl_nil, T.get_set, T.puts_cons, T.puts_nil, Nat.reduceEqDiff, Nat.reduceAdd, if_true, if_false, and_true, true_and, g0, g3, g4, g5]
set_option maxHeartbeats 8000000 in
theorem run_numbersOf {A : Mem} {l : List Nat} {x : Value} (hb : ∀ v ∈ l, v < 65536) (hx : ParS A (shorts l) x) (hA : 0 < A.next) : ∃ xo A', Ans tb1 7 [x] A xo A' ∧ Own A' (ownL l) xo ∧ Ext A A' := by
  obtain ⟨v, A', ha, h1, h2⟩ : ∃ v A', Ans tb1 7 [x] A v A' ∧ Own A' (ownL l) v ∧ Ext A A' := by
    refine ans_of_W (fn_at Try.func7) c7_eq (by rw [Try.ntmps7]; simp) (by kernel_rfl) (by kernel_rfl) ?_
    have lx := hx.len (tb := tb1) (t := 22) und22
    rw [shorts_len] at lx
    apply W.seq
    apply W.run 20
    · intro M
      simp (config := { maxSteps := 4000000 }) (disch := first | decide +kernel | (rw [wantF_guard]; simp only [wantD_some, dstAt_zero, dstAt_succ, T.get_set, T.get_e, Nat.reduceEqDiff, if_true, if_false, wantV_bool, wantV_unit, unitV, cond_true, cond_false, Bool.not_true, Bool.not_false, List.toList_toArray]) | omega) only [c7, Try.f7, Option.getD_some, sub_seq0, sub_nil, T.puts_cons, Nat.reduceAdd, T.puts_nil, exec_region, runOps_cons, opF_assign, ev_nilslice, putT_some, runOps_nil, R.ok_bind]
      with_reducible rfl
    apply W.seq
    apply W.run 20
    · intro M
      simp (config := { maxSteps := 4000000 }) (disch := first | decide +kernel | (rw [wantF_guard]; simp only [wantD_some, dstAt_zero, dstAt_succ, T.get_set, T.get_e, Nat.reduceEqDiff, if_true, if_false, wantV_bool, wantV_unit, unitV, cond_true, cond_false, Bool.not_true, Bool.not_false, List.toList_toArray]) | omega) only [c7, Try.f7, Option.getD_some, sub_seq1, sub_seq0, sub_nil, exec_region, runOps_cons, opF_assign, ev_nilslice, putT_some, runOps_nil, R.ok_bind]
      with_reducible rfl
    apply W.seq
    apply W.seq
    apply W.run 20
    · intro M
      simp (config := { maxSteps := 4000000 }) (disch := first | decide +kernel | (rw [wantF_guard]; simp only [wantD_some, dstAt_zero, dstAt_succ, T.get_set, T.get_e, Nat.reduceEqDiff, if_true, if_false, wantV_bool, wantV_unit, unitV, cond_true, cond_false, Bool.not_true, Bool.not_false, List.toList_toArray]) | omega) only [c7, Try.f7, Option.getD_some, sub_seq1, sub_seq0, sub_nil, exec_region, runOps_cons, opF_assign, ev_int, putT_some, runOps_nil, R.ok_bind]
      with_reducible rfl
    apply W.block
    refine W.up (min l.length 60) (fun i t D => ∃ xo b, Slc D 3 b (ints ((l.take i).map numberOf)) xo ∧ A.next ≤ b ∧ Ext A D ∧ Sl t [(0, x), (3, xo), (4, .int .i64 (i : Int))]) ?_ (Nat.zero_le _) ⟨.slice none 0 0, A.next, .inl ⟨rfl, rfl⟩, Nat.le_refl _, Ext.refl A, ?_⟩
    · rintro i t D hi ⟨xo, b, hs, hnb, hE, g0, g3, g4, -⟩
      by_cases hlt : i < min l.length 60
      · have h1 : i < l.length := by omega
        have h2 : i < 60 := by omega
        have hxD := hx.same hE.n (fun h0 => hE.g 0 h0)
        have hix := hxD.idx (tb := tb1) (t := 22) (kd := .i64) (i := i) und22 size38 (by rw [shorts_len]; exact h1)
        have hgt : (shorts l)[i]? = some (.int .u16 ((l.getD i 0 : Nat) : Int)) := by simp [shorts, List.getD, List.getElem?_eq_getElem h1]
        have hld := hxD.load (tb := tb1) (t := 38) und38 rfl hgt
        have hvb : l.getD i 0 < 65536 := by
          rw [List.getD, List.getElem?_eq_getElem h1]; exact hb _ (List.getElem_mem h1)
        have htk : (l.take (i + 1)).map numberOf = (l.take i).map numberOf ++ [numberOf (l.getD i 0)] := by
          rw [List.take_succ_eq_append_getElem h1, List.map_append]
          simp [List.getD, List.getElem?_eq_getElem h1]
        generalize l.getD i 0 = v at hld hvb htk
        have hnl := numberOf_le hvb
        have hsh : v >>> 3 = v / 8 := by rw [Nat.shiftRight_eq_div_pow]
        have hln : ((l.take i).map numberOf).length ≤ 60 := by simp; omega
        rw [c7b1_eq]
        apply W.seq
        apply W.seq
        apply W.run 20
        · intro M
          simp (config := { maxSteps := 4000000 }) (disch := first | decide +kernel | (rw [wantF_guard]; simp only [wantD_some, dstAt_zero, dstAt_succ, T.get_set, T.get_e, Nat.reduceEqDiff, if_true, if_false, wantV_bool, wantV_unit, unitV, cond_true, cond_false, Bool.not_true, Bool.not_false, List.toList_toArray]) | omega) only [c7b1, c7, Try.f7, Option.getD_some, sub_seq1, sub_seq0, sub_block, sub_loop, sub_nil, exec_region, runOps_cons, opF_move, ev_tmp, g4, evG_some, putT_some, T.get_set, Nat.reduceEqDiff, g0, if_false, opF_len, evs, if_true, R.ok_bind, opF_ari, lx, binF_int, op_lssI, cast_lt, h1, decide_true, runOps_yes, ev_int, opF_pick, pickF, ev_bool, runOps_nil, h2]
          with_reducible rfl
        apply W.run 20
        · intro M
          simp (config := { maxSteps := 4000000 }) (disch := first | decide +kernel | (rw [wantF_guard]; simp only [wantD_some, dstAt_zero, dstAt_succ, T.get_set, T.get_e, Nat.reduceEqDiff, if_true, if_false, wantV_bool, wantV_unit, unitV, cond_true, cond_false, Bool.not_true, Bool.not_false, List.toList_toArray]) | omega) only [c7b1, c7, Try.f7, Option.getD_some, sub_seq1, sub_seq0, sub_block, sub_loop, sub_nil, exec_cond, ev_tmp, T.get_set, Nat.reduceEqDiff, if_false, if_true, evG_some, exec_skip, exec_exit, R.ok_bind]
          with_reducible rfl
        show W tb1 _ _ _
        apply W.seq
        apply W.block
        apply W.seq
        apply W.run 20
        · intro M
          simp (config := { maxSteps := 4000000 }) (disch := first | decide +kernel | (rw [wantF_guard]; simp only [wantD_some, dstAt_zero, dstAt_succ, T.get_set, T.get_e, Nat.reduceEqDiff, if_true, if_false, wantV_bool, wantV_unit, unitV, cond_true, cond_false, Bool.not_true, Bool.not_false, List.toList_toArray]) | omega) only [c7b1, c7, Try.f7, Option.getD_some, sub_seq1, sub_seq0, sub_block, sub_loop, sub_nil, exec_region, runOps_cons, opF_move, ev_tmp, T.get_set, Nat.reduceEqDiff, g0, if_false, evG_some, putT_some, g4, opF_indexAddr, if_true, opF_load, opF_ari, ev_int, und38, opF_conv, convPF, und3, opF_assign, runOps_nil, R.ok_bind, hix, hld, binF_shr_u16, hsh, wrapF_i64]
          with_reducible rfl
        apply W.seq
        refine num_switch (xo := xo) hvb hix hld ⟨_, rfl⟩ ?_ ?_ ?_ ?_ ?_
        · simp only [T.get_set, Nat.reduceEqDiff, if_true, if_false, g0]
        · simp only [T.get_set, Nat.reduceEqDiff, if_true, if_false, g3]
        · simp only [T.get_set, Nat.reduceEqDiff, if_true, if_false, g4]
        · simp only [T.get_set, Nat.reduceEqDiff, if_true, if_false]
        rintro t2 ⟨f0, f3, f4, f5, -⟩
        show W tb1 _ _ _
        obtain ⟨ti, ht1, ht2⟩ := ty3
        have hE2 := Ext.alloc D (rowOb 3 [.int .i64 ((numberOf v : Nat) : Int)])
        obtain ⟨x', D3, happ, hs3, hn3, hf3⟩ := (hs.same hE2.n (fun hl => hE2.g b hl)).append (tb := tb1) (st := 24) (xt := 24) und24 und24 zc3 ht1 (by omega) (by omega) (by rw [ints_len]; omega) (get_alloc_self D _) rfl
        have hn2 : (D.alloc (rowOb 3 [.int .i64 ((numberOf v : Nat) : Int)])).next = D.next + 1 := next_alloc _ _
        have hEn := hE.n
        apply W.run 20
        · intro M
          simp (config := { maxSteps := 4000000 }) (disch := first | decide +kernel | (rw [wantF_guard]; simp only [wantD_some, dstAt_zero, dstAt_succ, T.get_set, T.get_e, Nat.reduceEqDiff, if_true, if_false, wantV_bool, wantV_unit, unitV, cond_true, cond_false, Bool.not_true, Bool.not_false, List.toList_toArray]) | omega) only [c7b1, c7, Try.f7, Option.getD_some, sub_seq1, sub_seq0, sub_block, sub_loop, sub_nil, exec_region, runOps_cons, opF_move, ev_tmp, f3, evG_some, putT_some, T.get_set, Nat.reduceEqDiff, f5, if_false, opF_buildSlice, evp, if_true, R.ok_bind, opF_builtin, evs, opF_assign, runOps_nil, builtin_append, bs24, at_slc, happ]
          with_reducible rfl
        show W tb1 _ _ _
        apply W.run 20
        · intro M
          simp (config := { maxSteps := 4000000 }) (disch := first | decide +kernel | (rw [wantF_guard]; simp only [wantD_some, dstAt_zero, dstAt_succ, T.get_set, T.get_e, Nat.reduceEqDiff, if_true, if_false, wantV_bool, wantV_unit, unitV, cond_true, cond_false, Bool.not_true, Bool.not_false, List.toList_toArray]) | omega) only [c7b1, c7, Try.f7, Option.getD_some, sub_seq1, sub_seq0, sub_block, sub_loop, sub_nil, exec_region, runOps_cons, opF_move, ev_tmp, T.get_set, Nat.reduceEqDiff, f4, if_false, evG_some, putT_some, opF_ari, if_true, ev_int, opF_assign, runOps_nil, R.ok_bind, binF_int, op_add_i64]
          with_reducible rfl
        refine ⟨hlt, _, _, rfl, x', (D.alloc (rowOb 3 [.int .i64 ((numberOf v : Nat) : Int)])).next, ?_, by omega, ⟨by omega, fun y hy => ?_⟩, ?_⟩
        · rw [htk, ints_app]; exact hs3
        · rw [hf3 y (by omega) (by omega), hE2.g y (by omega), hE.g y hy]
        · simp only [Sl_cons, Sl_nil, T.get_set, T.puts_cons, T.puts_nil, Nat.reduceEqDiff, Nat.reduceAdd, if_true, if_false, and_true, true_and, f0]
      · have e : ownL l = (l.take i).map numberOf := by
          unfold ownL
          by_cases h60 : l.length ≤ 60
          · have hil : i = l.length := by omega
            rw [List.take_of_length_le (by omega), hil, List.take_length]
          · have hil : i = 60 := by omega
            rw [hil]
        have fin : ∀ {K : Ex → St → Prop}, (∀ t' : T Value, t'.get 3 = some xo → K (.exit 0) ⟨t', 53, [], D, none⟩) → W tb1 c7b1 ⟨t, 53, [], D, none⟩ K := by
          intro K hK
          rw [c7b1_eq]
          apply W.seq
          apply W.seq
          by_cases h1 : i < l.length
          · have h2 : ¬ i < 60 := by omega
            apply W.run 20
            · intro M
              simp (config := { maxSteps := 4000000 }) (disch := first | decide +kernel | (rw [wantF_guard]; simp only [wantD_some, dstAt_zero, dstAt_succ, T.get_set, T.get_e, Nat.reduceEqDiff, if_true, if_false, wantV_bool, wantV_unit, unitV, cond_true, cond_false, Bool.not_true, Bool.not_false, List.toList_toArray]) | omega) only [c7b1, c7, Try.f7, Option.getD_some, sub_seq1, sub_seq0, sub_block, sub_loop, sub_nil, exec_region, runOps_cons, opF_move, ev_tmp, g4, evG_some, putT_some, T.get_set, Nat.reduceEqDiff, g0, if_false, opF_len, evs, if_true, R.ok_bind, opF_ari, lx, binF_int, op_lssI, cast_lt, h1, decide_true, runOps_yes, ev_int, opF_pick, pickF, ev_bool, runOps_nil, h2, decide_false]
              with_reducible rfl
            apply W.run 20
            · intro M
              simp (config := { maxSteps := 4000000 }) (disch := first | decide +kernel | (rw [wantF_guard]; simp only [wantD_some, dstAt_zero, dstAt_succ, T.get_set, T.get_e, Nat.reduceEqDiff, if_true, if_false, wantV_bool, wantV_unit, unitV, cond_true, cond_false, Bool.not_true, Bool.not_false, List.toList_toArray]) | omega) only [c7b1, c7, Try.f7, Option.getD_some, sub_seq1, sub_seq0, sub_block, sub_loop, sub_nil, exec_cond, ev_tmp, T.get_set, Nat.reduceEqDiff, if_false, if_true, evG_some, exec_skip, exec_exit, R.ok_bind]
              with_reducible rfl
            exact hK _ (by simp only [T.get_set, Nat.reduceEqDiff, if_true, if_false, g3])
          · apply W.run 20
            · intro M
              simp (config := { maxSteps := 4000000 }) (disch := first | decide +kernel | (rw [wantF_guard]; simp only [wantD_some, dstAt_zero, dstAt_succ, T.get_set, T.get_e, Nat.reduceEqDiff, if_true, if_false, wantV_bool, wantV_unit, unitV, cond_true, cond_false, Bool.not_true, Bool.not_false, List.toList_toArray]) | omega) only [c7b1, c7, Try.f7, Option.getD_some, sub_seq1, sub_seq0, sub_block, sub_loop, sub_nil, exec_region, runOps_cons, opF_move, ev_tmp, g4, evG_some, putT_some, T.get_set, Nat.reduceEqDiff, g0, if_false, opF_len, evs, if_true, R.ok_bind, opF_ari, lx, binF_int, op_lssI, cast_lt, h1, decide_false, runOps_no, opF_pick, pickF, ev_bool, runOps_nil]
              with_reducible rfl
            apply W.run 20
            · intro M
              simp (config := { maxSteps := 4000000 }) (disch := first | decide +kernel | (rw [wantF_guard]; simp only [wantD_some, dstAt_zero, dstAt_succ, T.get_set, T.get_e, Nat.reduceEqDiff, if_true, if_false, wantV_bool, wantV_unit, unitV, cond_true, cond_false, Bool.not_true, Bool.not_false, List.toList_toArray]) | omega) only [c7b1, c7, Try.f7, Option.getD_some, sub_seq1, sub_seq0, sub_block, sub_loop, sub_nil, exec_cond, ev_tmp, T.get_set, Nat.reduceEqDiff, if_false, if_true, evG_some, exec_skip, exec_exit, R.ok_bind]
              with_reducible rfl
            exact hK _ (by simp only [T.get_set, Nat.reduceEqDiff, if_true, if_false, g3])
        refine fin ?_
        intro t2 f3
        show W tb1 _ _ _
        apply W.seq
        apply W.run 20
        · intro M
          simp (config := { maxSteps := 4000000 }) (disch := first | decide +kernel | (rw [wantF_guard]; simp only [wantD_some, dstAt_zero, dstAt_succ, T.get_set, T.get_e, Nat.reduceEqDiff, if_true, if_false, wantV_bool, wantV_unit, unitV, cond_true, cond_false, Bool.not_true, Bool.not_false, List.toList_toArray]) | omega) only [c7, Try.f7, Option.getD_some, sub_seq1, sub_seq0, sub_nil, exec_region, runOps_cons, opF_move, ev_tmp, f3, evG_some, putT_some, opF_assign, T.get_set, if_true, runOps_nil, R.ok_bind]
          with_reducible rfl
        apply W.run 20
        · intro M
          simp (config := { maxSteps := 4000000 }) (disch := first | decide +kernel | (rw [wantF_guard]; simp only [wantD_some, dstAt_zero, dstAt_succ, T.get_set, T.get_e, Nat.reduceEqDiff, if_true, if_false, wantV_bool, wantV_unit, unitV, cond_true, cond_false, Bool.not_true, Bool.not_false, List.toList_toArray]) | omega) only [c7, Try.f7, Option.getD_some, sub_seq1, sub_nil, exec_ret]
          with_reducible rfl
        refine ⟨.inr rfl, _, [xo], rfl, ?_, ⟨b, by rw [e]; exact hs⟩, hE⟩
        simp only [Try.f7, resF, ev_tmp, T.get_set, Nat.reduceEqDiff, if_true, if_false, evG_some, R.ok_bind]
    · simp only [Sl_cons, Sl_nil, T.get_set, T.puts_cons, T.puts_nil, Nat.reduceEqDiff, Nat.reduceAdd, if_true, if_false, and_true, true_and]
  exact ⟨v, A', ha, h1, h2⟩
end Go.Proofs.Ytgkolgfkcelljaa.pck

/-
  Pick: the rows, one by one.
-/
namespace Go.Proofs.Ytgkolgfkcelljaa.pck
open Go.Am Go.Pick
set_option linter.unusedSimpArgs false
set_option linter.unusedVariables false
set_option linter.unusedVariables false
set_option maxRecDepth 20000

theorem fa44_0 (b : Nat) : fieldAddrF tb1 44 (.pointer (some ⟨b, 0, none⟩)) 0 = .ok (.pointer (some ⟨b, 0, none⟩)) := by kernel_rfl
theorem fa44_1 (b : Nat) : fieldAddrF tb1 44 (.pointer (some ⟨b, 0, none⟩)) 1 = .ok (.pointer (some ⟨b, 1, none⟩)) := by kernel_rfl
theorem fa44_2 (b : Nat) : fieldAddrF tb1 44 (.pointer (some ⟨b, 0, none⟩)) 2 = .ok (.pointer (some ⟨b, 2, none⟩)) := by kernel_rfl
theorem bf44 (a t : Int) : buildF tb1 44 [(0, .int .i64 a), (2, .int .i64 t)] = .ok (.agg ⟨[.int .i64 a, .int .i64 0, .int .i64 t]⟩) := by kernel_rfl
theorem zero44 : zeroF tb1 44 = .ok (.agg ⟨[.int .i64 0, .int .i64 0, .int .i64 0]⟩) := by kernel_rfl
theorem und44 : ∃ d, tb1.und 44 = some d ∧ isAggD d = true := by
  have h : (tb1.und 44).map isAggD = some true := by kernel_rfl
  cases hq : tb1.und 44 with
  | none => rw [hq] at h; cases h
  | some d => rw [hq] at h; exact ⟨d, rfl, by simpa using h⟩
def rowC (r : Row) : List Value := [.int .i64 (r.a : Int), .int .i64 (r.b : Int), .int .i64 (r.t : Int)]
def rowV (r : Row) : Value := .agg ⟨rowC r⟩
theorem rowC_one (r : Row) : ∀ v ∈ rowC r, oneCell v = true := fun v hv => by
  simp only [rowC, List.mem_cons, List.not_mem_nil, or_false] at hv
  rcases hv with rfl | rfl | rfl <;> rfl

theorem ev_neg1 (t : T Value) : ev t (.const (.int .i64 (-1))) = .ok (.int .i64 (-1)) := rfl
noncomputable def c20 : Code := Try.f20.body.getD .skip
theorem c20_eq : Try.f20.body = some (.seq (sub c20 [0]) (.seq (sub c20 [1,0]) (sub c20 [1,1]))) := by kernel_rfl
theorem run_other {A : Mem} {f n fb rb t : Nat} {u v : Value} (h2 : 2 ≤ f) (hn : n < 4611686018427387904) (hf : Vals A 3 fb (.var 1) [.int .i64 (f : Int)]) (hr : Vals A 44 rb (.var 3) [u, v, .int .i64 (t : Int)]) :
    Ans tb1 20 [.int .i64 (n : Int), .pointer (some ⟨fb, 0, none⟩), .pointer (some ⟨rb, 0, none⟩)] A (.bool (decide (tier f n ≠ t))) A := by
  obtain ⟨w, A', ha, rfl, rfl⟩ : ∃ w A', Ans tb1 20 [.int .i64 (n : Int), .pointer (some ⟨fb, 0, none⟩), .pointer (some ⟨rb, 0, none⟩)] A w A' ∧ w = .bool (decide (tier f n ≠ t)) ∧ A' = A := by
    refine ans_of_W (fn_at Try.func20) c20_eq (by rw [Try.ntmps20]; simp) (by kernel_rfl) (by kernel_rfl) ?_
    have l1 : loadF tb1 A.get 3 (.pointer (some ⟨fb, 0, none⟩)) = .ok (.int .i64 (f : Int)) := load_vals und3 rfl hf rfl
    have l2 : loadF tb1 A.get 3 (.pointer (some ⟨rb, 2, none⟩)) = .ok (.int .i64 (t : Int)) := load_vals und3 rfl hr rfl
    have hs := sameV_int .i64 t rfl
    have hk9 := fun ih => k9 (ih := ih) (A := A) (n := n) (f := f) h2 hn
    apply W.seq
    apply W.run 20
    · intro M
      simp (config := { maxSteps := 4000000 }) (disch := first | decide +kernel | (rw [wantF_guard]; simp only [wantD_some, dstAt_zero, dstAt_succ, T.get_set, T.get_e, Nat.reduceEqDiff, if_true, if_false, wantV_bool, wantV_unit, unitV, cond_true, cond_false, Bool.not_true, Bool.not_false, List.toList_toArray]) | omega) only [c20, Try.f20, Option.getD_some, sub_seq0, sub_nil, T.puts_cons, Nat.reduceAdd, T.puts_nil, exec_region, runOps_cons, opF_assign, ev_bool, putT_some, runOps_nil, R.ok_bind]
      with_reducible rfl
    apply W.seq
    apply W.run 20
    · intro M
      simp (config := { maxSteps := 4000000 }) (disch := first | decide +kernel | (rw [wantF_guard]; simp only [wantD_some, dstAt_zero, dstAt_succ, T.get_set, T.get_e, Nat.reduceEqDiff, if_true, if_false, wantV_bool, wantV_unit, unitV, cond_true, cond_false, Bool.not_true, Bool.not_false, List.toList_toArray]) | omega) only [c20, Try.f20, Option.getD_some, sub_seq1, sub_seq0, sub_nil, exec_float [(4, 2)], runD_P, Nat.reduceAdd, opF_move, ev_tmp, T.get_set, Nat.reduceEqDiff, T.get_e, if_true, if_false, evG_some, putT_some, runD_Rd, rOp_load, R.ok_bind, l1, selF_nil, rereadM_nil, runD_L, List.map_nil, hide_nil, backF_nil, selR_no, selR_nil, rereadR_nil, opF_fieldAddr, cond_true, opF_call, evs, resK, selF_yes, rereadM_cons, reread_load, Bool.and_true, opF_neq, opF_assign, runD_end, fa44_2, l2, rereadV_eq, hk9, hs, binF_int, op_neq, ne_eq]
      with_reducible rfl
    apply W.run 20
    · intro M
      simp (config := { maxSteps := 4000000 }) (disch := first | decide +kernel | (rw [wantF_guard]; simp only [wantD_some, dstAt_zero, dstAt_succ, T.get_set, T.get_e, Nat.reduceEqDiff, if_true, if_false, wantV_bool, wantV_unit, unitV, cond_true, cond_false, Bool.not_true, Bool.not_false, List.toList_toArray]) | omega) only [c20, Try.f20, Option.getD_some, sub_seq1, sub_nil, exec_ret]
      with_reducible rfl
    refine ⟨.inr rfl, _, [.bool (decide (tier f n ≠ t))], rfl, ?_, rfl, rfl⟩
    simp only [Try.f20, resF, ev_tmp, T.get_set, Nat.reduceEqDiff, if_true, if_false, evG_some, R.ok_bind]
  exact ha

/-- A row of numbers that can be looked at. -/
def Seen (A : Mem) (l : List Nat) (x : Value) : Prop := builtinPF tb1 .len [24] [x] = .ok (.int .i64 ((l.length : Nat) : Int)) ∧
  ∀ i, i < l.length → ∃ p, indexAddrF tb1 24 x (.int .i64 (i : Int)) = .ok (.pointer (some p)) ∧ loadF tb1 A.get 3 (.pointer (some p)) = .ok (.int .i64 ((l.getD i 0 : Nat) : Int))
/-- Numbers in memory from a block's beginning on, with whatever room behind them. -/
def Rw (A : Mem) (b : Nat) (l : List Nat) (x : Value) : Prop :=
  (x = .slice none 0 0 ∧ l = []) ∨ ∃ k c, x = .slice (some ⟨b, 0, none⟩) l.length c ∧ b < A.next ∧ Vals A 3 b k (ints l) ∧ l.length ≤ capN c ∧ capFit c 1 = true
theorem rw_of {A : Mem} {b : Nat} {l : List Nat} {x : Value} (h : Slc A 3 b (ints l) x) : Rw A b l x := by
  rcases h with ⟨h1, h2⟩ | ⟨k, c, h1, h2, h3, h4⟩
  · have h0 : l.length = 0 := by rw [← ints_len, h2]; rfl
    exact .inl ⟨h1, List.length_eq_zero_iff.1 h0⟩
  · rw [ints_len] at h1 h4
    refine .inr ⟨k, c, h1, h2, h3, ?_⟩
    rcases h4 with rfl | ⟨rfl, -⟩
    · exact ⟨by rw [capN_two]; exact Nat.le_refl _, by unfold capFit; rw [capX_two]; rfl⟩
    · exact ⟨by rw [capN_mkX (by omega)]; exact Nat.le_refl _, by unfold capFit; rw [capX_mkX, capE_mkX (by omega)]; rfl⟩
theorem Rw.same {A A' : Mem} {b : Nat} {l : List Nat} {x : Value} (h : Rw A b l x) (hn : A.next ≤ A'.next) (hg : b < A.next → A'.get b = A.get b) : Rw A' b l x := by
  rcases h with h | ⟨k, c, h1, h2, h3, h4⟩
  · exact .inl h
  · exact .inr ⟨k, c, h1, Nat.lt_of_lt_of_le h2 hn, h3.same (hg h2), h4⟩
theorem Rw.len {A : Mem} {b : Nat} {l : List Nat} {x : Value} (h : Rw A b l x) : builtinPF tb1 .len [24] [x] = .ok (.int .i64 ((l.length : Nat) : Int)) := by
  rcases h with ⟨rfl, rfl⟩ | ⟨k, c, rfl, -⟩ <;> exact len_slc und24
theorem Rw.cells {A : Mem} {b : Nat} {l : List Nat} {x : Value} (h : Rw A b l x) : x.cells.toList = [x] := by
  rcases h with ⟨rfl, rfl⟩ | ⟨k, c, rfl, -⟩ <;> rfl
theorem Rw.at {A : Mem} {b : Nat} {l : List Nat} {x : Value} (h : Rw A b l x) {i : Nat} (hi : i < l.length) : ∃ p, indexAddrF tb1 24 x (.int .i64 (i : Int)) = .ok (.pointer (some p)) ∧ loadF tb1 A.get 3 (.pointer (some p)) = .ok (.int .i64 ((l.getD i 0 : Nat) : Int)) := by
  rcases h with ⟨rfl, rfl⟩ | ⟨k, c, rfl, h2, h3, h4⟩
  · simp at hi
  · refine ⟨⟨b, 0 + i, none⟩, indexAddr_slc (k := .i64) und24 size3 hi, ?_⟩
    rw [Nat.zero_add]
    exact load_vals und3 rfl h3 (ints_get hi)
theorem Rw.drop {A : Mem} {b m : Nat} {l : List Nat} {x : Value} (h : Rw A b l x) (hm : m < l.length) : ∃ x', sliceF tb1 24 x (some (.int .i64 (m : Int))) none none = .ok x' ∧ Seen A (l.drop m) x' := by
  rcases h with ⟨_, rfl⟩ | ⟨k, cn, rfl, hb, hv, hc1, hc2⟩
  · simp at hm
  · have e1 : bound (some (.int .i64 (m : Int))) 0 l.length = .ok m := bound_some (by omega)
    have hx : (capX cn && Nat.beq (capN cn) m) = false := by
      have : Nat.beq (capN cn) m = false := by
        cases hq : Nat.beq (capN cn) m with
        | false => rfl
        | true => have := Nat.eq_of_beq_eq_true hq; omega
      rw [this, Bool.and_false]
    refine ⟨.slice (some ⟨b, 0 + m * 1, none⟩) (l.length - m) (capSub cn m), ?_, ?_, fun i hi => ?_⟩
    · unfold sliceF
      simp only [und24, bound_none, R.ok_bind, e1, size3, hx, cond_false, hc2, cond_true, addA]
    · rw [List.length_drop]; exact len_slc und24
    · rw [List.length_drop] at hi
      have hi2 := indexAddr_slc (tb := tb1) (t := 24) (b := b) (o := 0 + m * 1) (cap := capSub cn m) (k := .i64) und24 size3 hi
      refine ⟨_, hi2, ?_⟩
      have h3 : loadF tb1 A.get 3 (.pointer (some ⟨b, m + i, none⟩)) = .ok (.int .i64 ((l.getD (m + i) 0 : Nat) : Int)) := load_vals und3 rfl hv (ints_get (by omega))
      rw [show 0 + m * 1 + i = m + i by omega]
      rw [h3]
      simp [List.getD, List.getElem?_drop]
noncomputable def c21 : Code := Try.f21.body.getD .skip
noncomputable def c21b1 : Code := sub c21 [1,0,1,0,0]
theorem c21_eq : Try.f21.body = some (.seq (sub c21 [0]) (.seq (.seq (sub c21 [1,0,0]) (.block 0 (.loop c21b1))) (.seq (sub c21 [1,1,0]) (sub c21 [1,1,1])))) := by kernel_rfl
theorem c21b1_eq : c21b1 = (.seq (sub c21b1 [0]) (.seq (sub c21b1 [1,0]) (.seq (.block 1 (.seq (sub c21b1 [1,1,0,0,0]) (.seq (sub c21b1 [1,1,0,0,1,0]) (sub c21b1 [1,1,0,0,1,1])))) (sub c21b1 [1,1,1])))) := by kernel_rfl
set_option maxHeartbeats 4000000 in
theorem run_indexF {A : Mem} {f fb rb t : Nat} {u v x : Value} {l : List Nat} (h2 : 2 ≤ f) (hb : ∀ n ∈ l, n < 4611686018427387904) (hl : l.length ≤ 1000) (hf : Vals A 3 fb (.var 1) [.int .i64 (f : Int)]) (hr : Vals A 44 rb (.var 3) [u, v, .int .i64 (t : Int)]) (hx : Seen A l x) :
    Ans tb1 21 [x, .func (.func 20) ⟨[]⟩ ⟨[.pointer (some ⟨fb, 0, none⟩), .pointer (some ⟨rb, 0, none⟩)]⟩] A (.int .i64 (if runL f t l < l.length then ((runL f t l : Nat) : Int) else -1)) A := by
  obtain ⟨w, A', ha, rfl, rfl⟩ : ∃ w A', Ans tb1 21 [x, .func (.func 20) ⟨[]⟩ ⟨[.pointer (some ⟨fb, 0, none⟩), .pointer (some ⟨rb, 0, none⟩)]⟩] A w A' ∧ w = .int .i64 (if runL f t l < l.length then ((runL f t l : Nat) : Int) else -1) ∧ A' = A := by
    refine ans_of_W (fn_at Try.func21) c21_eq (by rw [Try.ntmps21]; simp) (by kernel_rfl) (by kernel_rfl) ?_
    have lx := hx.1
    apply W.seq
    apply W.run 20
    · intro M
      simp (config := { maxSteps := 4000000 }) (disch := first | decide +kernel | (rw [wantF_guard]; simp only [wantD_some, dstAt_zero, dstAt_succ, T.get_set, T.get_e, Nat.reduceEqDiff, if_true, if_false, wantV_bool, wantV_unit, unitV, cond_true, cond_false, Bool.not_true, Bool.not_false, List.toList_toArray]) | omega) only [c21, Try.f21, Option.getD_some, sub_seq0, sub_nil, T.puts_cons, Nat.reduceAdd, T.puts_nil, exec_region, runOps_cons, opF_assign, ev_int, putT_some, runOps_nil, R.ok_bind]
      with_reducible rfl
    apply W.seq
    apply W.seq
    apply W.run 20
    · intro M
      simp (config := { maxSteps := 4000000 }) (disch := first | decide +kernel | (rw [wantF_guard]; simp only [wantD_some, dstAt_zero, dstAt_succ, T.get_set, T.get_e, Nat.reduceEqDiff, if_true, if_false, wantV_bool, wantV_unit, unitV, cond_true, cond_false, Bool.not_true, Bool.not_false, List.toList_toArray]) | omega) only [c21, Try.f21, Option.getD_some, sub_seq1, sub_seq0, sub_nil, exec_region, runOps_cons, opF_move, ev_tmp, T.get_set, Nat.reduceEqDiff, T.get_e, if_true, if_false, evG_some, putT_some, opF_len, evs, R.ok_bind, ev_int, runOps_nil, lx]
      with_reducible rfl
    apply W.block
    refine W.up l.length (fun i tt C => C = A ∧ i ≤ runL f t l ∧ Sl tt [(0, x), (1, .func (.func 20) ⟨[]⟩ ⟨[.pointer (some ⟨fb, 0, none⟩), .pointer (some ⟨rb, 0, none⟩)]⟩), (7, .int .i64 ((l.length : Nat) : Int)), (8, .int .i64 (i : Int))]) ?_ (Nat.zero_le _) ⟨rfl, Nat.zero_le _, ?_⟩
    · rintro i tt C hi ⟨rfl, hri, g0, g1, g7, g8, -⟩
      by_cases hlt : i < l.length
      · obtain ⟨p, hp, hpl⟩ := hx.2 i hlt
        have hnb : l.getD i 0 < 4611686018427387904 := by rw [List.getD, List.getElem?_eq_getElem hlt]; exact hb _ (List.getElem_mem hlt)
        obtain ⟨g, hg⟩ := run_other (n := l.getD i 0) h2 hnb hf hr
        by_cases hr2 : i < runL f t l
        · have ht := runL_get (f := f) (t := t) hr2
          rw [decide_eq_false (fun h => h ht)] at hg
          apply W.runG (g) 20
          · intro M hM
            simp (config := { maxSteps := 4000000 }) (disch := first | decide +kernel | (rw [wantF_guard]; simp only [wantD_some, dstAt_zero, dstAt_succ, T.get_set, T.get_e, Nat.reduceEqDiff, if_true, if_false, wantV_bool, wantV_unit, unitV, cond_true, cond_false, Bool.not_true, Bool.not_false, List.toList_toArray]) | omega) only [c21b1, c21, Try.f21, Option.getD_some, sub_seq1, sub_seq0, sub_block, sub_loop, sub_nil, exec_seq, exec_region, runOps_cons, opF_ari, ev_tmp, g8, evG_some, g7, putT_some, runOps_nil, R.ok_bind, binF_int, op_lssI, cast_lt, hlt, decide_true, exec_cond, exec_skip, exec_exit, exec_block, opF_move, exec_ret, ev_int, T.get_set, if_true, Nat.reduceEqDiff, if_false, opF_assign, g1, g0, opF_indexAddr, opF_load, opF_callv, evs, resK, hp, hpl, callV_func, List.nil_append, List.cons_append, hg, op_add_i64]
            with_reducible rfl
          refine ⟨hlt, _, _, rfl, rfl, hr2, ?_⟩
          simp only [Sl_cons, Sl_nil, T.get_set, T.puts_cons, T.puts_nil, Nat.reduceEqDiff, Nat.reduceAdd, if_true, if_false, and_true, true_and, g0, g1, g7]
        · have hie : i = runL f t l := by omega
          have hst := runL_stop (f := f) (t := t) (l := l) (by omega)
          rw [← hie] at hst
          rw [decide_eq_true hst] at hg
          rw [if_pos (by omega), ← hie]
          apply W.runG (g) 20
          · intro M hM
            simp (config := { maxSteps := 4000000 }) (disch := first | decide +kernel | (rw [wantF_guard]; simp only [wantD_some, dstAt_zero, dstAt_succ, T.get_set, T.get_e, Nat.reduceEqDiff, if_true, if_false, wantV_bool, wantV_unit, unitV, cond_true, cond_false, Bool.not_true, Bool.not_false, List.toList_toArray]) | omega) only [c21b1, c21, Try.f21, Option.getD_some, sub_seq1, sub_seq0, sub_block, sub_loop, sub_nil, exec_seq, exec_region, runOps_cons, opF_ari, ev_tmp, g8, evG_some, g7, putT_some, runOps_nil, R.ok_bind, binF_int, op_lssI, cast_lt, hlt, decide_true, exec_cond, exec_skip, exec_exit, exec_block, opF_move, exec_ret, ev_int, T.get_set, if_true, Nat.reduceEqDiff, if_false, opF_assign, g1, g0, opF_indexAddr, opF_load, opF_callv, evs, resK, hp, hpl, callV_func, List.nil_append, List.cons_append, hg]
            with_reducible rfl
          refine ⟨.inr rfl, _, [.int .i64 (i : Int)], rfl, ?_, rfl, rfl⟩
          simp only [Try.f21, resF, ev_tmp, T.get_set, Nat.reduceEqDiff, if_true, if_false, evG_some, R.ok_bind]
      · have hrl := runL_le f t l
        rw [if_neg (by omega)]
        apply W.run 20
        · intro M
          simp (config := { maxSteps := 4000000 }) (disch := first | decide +kernel | (rw [wantF_guard]; simp only [wantD_some, dstAt_zero, dstAt_succ, T.get_set, T.get_e, Nat.reduceEqDiff, if_true, if_false, wantV_bool, wantV_unit, unitV, cond_true, cond_false, Bool.not_true, Bool.not_false, List.toList_toArray]) | omega) only [c21b1, c21, Try.f21, Option.getD_some, sub_seq1, sub_seq0, sub_block, sub_loop, sub_nil, exec_seq, exec_region, runOps_cons, opF_ari, ev_tmp, g8, evG_some, g7, putT_some, runOps_nil, R.ok_bind, binF_int, op_lssI, cast_lt, hlt, decide_false, exec_cond, exec_skip, exec_exit, exec_block, opF_move, exec_ret, ev_int, T.get_set, if_true]
          with_reducible rfl
        show W tb1 _ _ _
        apply W.seq
        apply W.run 20
        · intro M
          simp (config := { maxSteps := 4000000 }) (disch := first | decide +kernel | (rw [wantF_guard]; simp only [wantD_some, dstAt_zero, dstAt_succ, T.get_set, T.get_e, Nat.reduceEqDiff, if_true, if_false, wantV_bool, wantV_unit, unitV, cond_true, cond_false, Bool.not_true, Bool.not_false, List.toList_toArray]) | omega) only [c21, Try.f21, Option.getD_some, sub_seq1, sub_seq0, sub_nil, exec_region, runOps_cons, opF_assign, ev_neg1, putT_some, runOps_nil, R.ok_bind]
          with_reducible rfl
        apply W.run 20
        · intro M
          simp (config := { maxSteps := 4000000 }) (disch := first | decide +kernel | (rw [wantF_guard]; simp only [wantD_some, dstAt_zero, dstAt_succ, T.get_set, T.get_e, Nat.reduceEqDiff, if_true, if_false, wantV_bool, wantV_unit, unitV, cond_true, cond_false, Bool.not_true, Bool.not_false, List.toList_toArray]) | omega) only [c21, Try.f21, Option.getD_some, sub_seq1, sub_nil, exec_ret]
          with_reducible rfl
        refine ⟨.inr rfl, _, [.int .i64 (-1)], rfl, ?_, rfl, rfl⟩
        simp only [Try.f21, resF, ev_tmp, T.get_set, Nat.reduceEqDiff, if_true, if_false, evG_some, R.ok_bind]
    · simp only [Sl_cons, Sl_nil, T.get_set, T.puts_cons, T.puts_nil, Nat.reduceEqDiff, Nat.reduceAdd, if_true, if_false, and_true, true_and]
  exact ha
end Go.Proofs.Ytgkolgfkcelljaa.pck

/-
  Pick: the closure of the rows, called with any loop that goes on.
-/
namespace Go.Proofs.Ytgkolgfkcelljaa.pck
open Go.Am Go.Pick
set_option linter.unusedSimpArgs false
set_option linter.unusedVariables false
set_option linter.unusedVariables false
set_option maxRecDepth 20000

/-- A loop over rows, that goes on: what holds behind so many rounds; 'S': the old blocks that it changes; below N0 all that it looks at; beside these it has one block of its own. -/
structure Cons (S : Nat → Prop) (N0 lp : Nat) (Inv : Nat → Nat → Mem → Prop) (rs : List Row) : Prop where
  lt : ∀ i b C, Inv i b C → b < C.next
  ext : ∀ i b C C', Inv i b C → C.next ≤ C'.next → (∀ y, y < N0 ∨ y = b → C'.get y = C.get y) → Inv i b C'
  step : ∀ i r b C, rs[i]? = some r → Inv i b C → ∃ b' C', (∃ g, ∀ M, g ≤ M → callF tb1 (exec tb1 M) (.round lp [rowV r]) C = .ok (.val (.bool true) C')) ∧ Inv (i + 1) b' C' ∧ C.next ≤ C'.next ∧ (b' = b ∨ C.next ≤ b') ∧ ∀ y, y < C.next → ¬ S y → y ≠ b → C'.get y = C.get y
theorem rowsL_step {f k a n : Nat} {l : List Nat} : rowsL f (k + 1) a (n :: l) = ⟨a, a + runL f (tier f n) (n :: l), tier f n⟩ :: rowsL f k (a + runL f (tier f n) (n :: l)) ((n :: l).drop (runL f (tier f n) (n :: l))) := rfl
noncomputable def c19 : Code := Try.f19.body.getD .skip
noncomputable def c19b1 : Code := sub c19 [1,0,0]
theorem c19_eq : Try.f19.body = some (.seq (sub c19 [0]) (.block 0 (.loop c19b1))) := by kernel_rfl
theorem c19b1_eq : c19b1 = (.seq (.seq (sub c19b1 [0,0]) (sub c19b1 [0,1])) (.block 1 (.seq (sub c19b1 [1,0,0]) (.seq (sub c19b1 [1,0,1,0]) (.seq (sub c19b1 [1,0,1,1,0]) (.seq (.seq (sub c19b1 [1,0,1,1,1,0,0]) (.seq (sub c19b1 [1,0,1,1,1,0,1,0]) (sub c19b1 [1,0,1,1,1,0,1,1]))) (.seq (.seq (sub c19b1 [1,0,1,1,1,1,0,0]) (sub c19b1 [1,0,1,1,1,1,0,1])) (sub c19b1 [1,0,1,1,1,1,1])))))))) := by kernel_rfl
set_option maxHeartbeats 8000000 in
theorem run_rows1 {S : Nat → Prop} {N0 lp f eb fb bo b0 : Nat} {l : List Nat} {x : Value} {Inv : Nat → Nat → Mem → Prop} {C0 : Mem} (h2 : 2 ≤ f) (hf40 : f < 1000) (hl : l.length ≤ 1000) (hb : ∀ n ∈ l, n < 4611686018427387904) (hN : N0 ≤ C0.next) (hc : Cons S N0 lp Inv (rows f l)) (hI : Inv 0 b0 C0)
    (hx : Rw C0 bo l x) (he : Vals C0 24 eb (.var 1) [x]) (hf : Vals C0 3 fb (.var 1) [.int .i64 (f : Int)]) (hbo : bo < C0.next ∧ ¬ S bo ∧ bo ≠ b0) (heb : eb < C0.next ∧ ¬ S eb ∧ eb ≠ b0) (hfb : fb < C0.next ∧ ¬ S fb ∧ fb ≠ b0) (hS : ∀ y, S y → y < C0.next) :
    ∃ v C', Ans tb1 19 [.func (.yield lp) ⟨[]⟩ ⟨[]⟩, .pointer (some ⟨eb, 0, none⟩), .pointer (some ⟨fb, 0, none⟩)] C0 v C' ∧ ∃ b', Inv (rows f l).length b' C' ∧ C0.next ≤ C'.next ∧ (b' = b0 ∨ C0.next ≤ b') ∧ ∀ y, y < C0.next → ¬ S y → y ≠ b0 → C'.get y = C0.get y := by
  refine ans_of_W (fn_at Try.func19) c19_eq (by rw [Try.ntmps19]; simp) (by kernel_rfl) (by kernel_rfl) ?_
  apply W.seq
  apply W.run 20
  · intro M
    simp (config := { maxSteps := 4000000 }) (disch := first | decide +kernel | (rw [wantF_guard]; simp only [wantD_some, dstAt_zero, dstAt_succ, T.get_set, T.get_e, Nat.reduceEqDiff, if_true, if_false, wantV_bool, wantV_unit, unitV, cond_true, cond_false, Bool.not_true, Bool.not_false, List.toList_toArray]) | omega) only [c19, Try.f19, Option.getD_some, sub_seq0, sub_nil, T.puts_cons, Nat.reduceAdd, T.puts_nil, exec_region, runOps_cons, opF_assign, ev_int, putT_some, runOps_nil, R.ok_bind]
    with_reducible rfl
  apply W.block
  refine W.fall (fun m t C => ∃ a i k b, m = l.length - a ∧ a ≤ l.length ∧ l.length - a ≤ k ∧ (rows f l).drop i = rowsL f k a (l.drop a) ∧ i ≤ (rows f l).length ∧ Inv i b C ∧ C0.next ≤ C.next ∧ (b = b0 ∨ C0.next ≤ b) ∧ (∀ y, y < C0.next → ¬ S y → y ≠ b0 → C.get y = C0.get y) ∧ Sl t [(0, .func (.yield lp) ⟨[]⟩ ⟨[]⟩), (1, .pointer (some ⟨eb, 0, none⟩)), (2, .pointer (some ⟨fb, 0, none⟩)), (4, .int .i64 (a : Int))]) ?_ (k := l.length) ⟨0, 0, l.length, b0, rfl, Nat.zero_le _, Nat.le_refl _, rfl, Nat.zero_le _, hI, Nat.le_refl _, .inl rfl, fun _ _ _ _ => rfl, ?_⟩
  · rintro m t C ⟨a, i, k, b, rfl, ha, hk, hdrop, hi, hInv, hn, hbb, hold, g0, g1, g2, g4, -⟩
    have hxC : Rw C bo l x := hx.same hn (fun _ => hold bo hbo.1 hbo.2.1 hbo.2.2)
    have heC := he.same (hold eb heb.1 heb.2.1 heb.2.2)
    have hfC := hf.same (hold fb hfb.1 hfb.2.1 hfb.2.2)
    have hlen : builtinPF tb1 .len [24] [x] = .ok (.int .i64 ((l.length : Nat) : Int)) := hxC.len
    have lx : loadF tb1 C.get 24 (.pointer (some ⟨eb, 0, none⟩)) = .ok x := load_vals und24 rfl heC rfl
    by_cases hlt : a < l.length
    · obtain ⟨k, rfl⟩ : ∃ k', k = k' + 1 := ⟨k - 1, by omega⟩
      obtain ⟨n, r, hnr⟩ : ∃ n r, l.drop a = n :: r := ⟨l[a], l.drop (a + 1), List.drop_eq_getElem_cons hlt⟩
      have hna : l.getD a 0 = n := by
        have := congrArg (fun q => q.getD 0 0) hnr
        simpa [List.getD, List.getElem?_drop] using this
      have hnb : n < 4611686018427387904 := by
        have : n ∈ l.drop a := by rw [hnr]; exact List.mem_cons_self ..
        exact hb n (List.mem_of_mem_drop this)
      rw [hnr, rowsL_step] at hdrop
      obtain ⟨q, hq⟩ : ∃ q, runL f (tier f n) (n :: r) = q := ⟨_, rfl⟩
      have hqp : 0 < q := by rw [← hq]; exact runL_pos
      have hdl : (n :: r).length = l.length - a := by rw [← hnr, List.length_drop]
      have hql : q ≤ l.length - a := by rw [← hdl, ← hq]; exact runL_le _ _ _
      rw [hq] at hdrop
      have hri : (rows f l)[i]? = some ⟨a, a + q, tier f n⟩ := by
        have h := congrArg (fun z => z[0]?) hdrop
        simpa [List.getElem?_drop] using h
      have hri1 : i < (rows f l).length := (List.getElem?_eq_some_iff.1 hri).1
      have hdrop2 : (rows f l).drop (i + 1) = rowsL f k (a + q) (l.drop (a + q)) := by
        have h := congrArg (fun z => z.drop 1) hdrop
        simp only [List.drop_drop, List.drop_succ_cons, List.drop_zero] at h
        rw [h, ← hnr, List.drop_drop]
      obtain ⟨p, hp, hpl⟩ : ∃ p, indexAddrF tb1 24 x (.int .i64 (a : Int)) = .ok (.pointer (some p)) ∧ loadF tb1 C.get 3 (.pointer (some p)) = .ok (.int .i64 (n : Int)) := by
        obtain ⟨p, h1, h3⟩ := hxC.at hlt
        rw [hna] at h3
        exact ⟨p, h1, h3⟩
      have lf : loadF tb1 C.get 3 (.pointer (some ⟨fb, 0, none⟩)) = .ok (.int .i64 (f : Int)) := load_vals und3 rfl hfC rfl
      have hk9 := fun ih => k9 (ih := ih) (A := C) (n := n) (f := f) h2 hnb
      -- the row's box
      have hE1 : Ext C (C.alloc (rowOb 44 [.int .i64 0, .int .i64 0, .int .i64 0])) := Ext.alloc C _
      have hv0 : Vals (C.alloc (rowOb 44 [.int .i64 0, .int .i64 0, .int .i64 0])) 44 C.next (.var 3) [.int .i64 0, .int .i64 0, .int .i64 0] := Go.Am.vals_new C 44 _
      obtain ⟨D, hst, hvD, hnD, hfD⟩ := store_all (tb := tb1) (t := 44) (l' := [.int .i64 (a : Int), .int .i64 0, .int .i64 ((tier f n : Nat) : Int)]) (by rw [size44]; rfl) hv0 rfl (by simp) (fun v hv => by
        simp only [List.mem_cons, List.not_mem_nil, or_false] at hv
        rcases hv with rfl | rfl | rfl <;> rfl)
      have hCD : Ext C D := hE1.put (b := C.next) (Nat.le_refl _) hnD hfD
      have hnD1 : D.next = C.next + 1 := by rw [hnD, next_alloc]
      have lx2 : loadF tb1 D.get 24 (.pointer (some ⟨eb, 0, none⟩)) = .ok x := load_vals und24 rfl (heC.same (hCD.g _ (by omega))) rfl
      obtain ⟨E, hst2, hvE, hnE, hfE⟩ := store_vals (tb := tb1) (t := 3) (o := 1) (v := .int .i64 ((l.length : Nat) : Int)) size3 hvD (by simp) rfl rfl
      have hCE : Ext C E := hCD.put (b := C.next) (Nat.le_refl _) hnE hfE
      have lx3 : loadF tb1 E.get 24 (.pointer (some ⟨eb, 0, none⟩)) = .ok x := load_vals und24 rfl (heC.same (hCE.g _ (by omega))) rfl
      obtain ⟨x', hcut, hsn⟩ := Rw.drop (hxC.same hCE.n (fun h => hCE.g bo h)) hlt
      obtain ⟨gi, hgi⟩ := run_indexF (t := tier f n) h2 (fun z hz => hb z (List.mem_of_mem_drop hz)) (by rw [List.length_drop]; omega) (hfC.same (hCE.g _ (by omega))) hvE hsn
      rw [hnr, hq, hdl] at hgi
      have hvE' : Vals E 44 C.next (.var 3) [.int .i64 (a : Int), .int .i64 ((l.length : Nat) : Int), .int .i64 ((tier f n : Nat) : Int)] := hvE
      have hadd : intOpF .add .i64 (a : Int) (q : Int) = .ok (.int .i64 ((a + q : Nat) : Int)) := op_add_i64 (by omega)
      rw [c19b1_eq]
      apply W.seq
      apply W.seq
      apply W.run 20
      · intro M
        simp (config := { maxSteps := 4000000 }) (disch := first | decide +kernel | (rw [wantF_guard]; simp only [wantD_some, dstAt_zero, dstAt_succ, T.get_set, T.get_e, Nat.reduceEqDiff, if_true, if_false, wantV_bool, wantV_unit, unitV, cond_true, cond_false, Bool.not_true, Bool.not_false, List.toList_toArray]) | omega) only [c19b1, c19, Try.f19, Option.getD_some, sub_seq1, sub_block, sub_loop, sub_nil, sub_seq0, exec_region, runOps_cons, opF_move, ev_tmp, g4, evG_some, putT_some, opF_load, T.get_set, Nat.reduceEqDiff, g1, if_false, opF_len, evs, if_true, R.ok_bind, opF_ari, runOps_nil, lx, hlen, binF_int, op_lssI, cast_lt, hlt, decide_true]
        with_reducible rfl
      apply W.run 20
      · intro M
        simp (config := { maxSteps := 4000000 }) (disch := first | decide +kernel | (rw [wantF_guard]; simp only [wantD_some, dstAt_zero, dstAt_succ, T.get_set, T.get_e, Nat.reduceEqDiff, if_true, if_false, wantV_bool, wantV_unit, unitV, cond_true, cond_false, Bool.not_true, Bool.not_false, List.toList_toArray]) | omega) only [c19b1, c19, Try.f19, Option.getD_some, sub_seq1, sub_block, sub_loop, sub_nil, sub_seq0, exec_cond, ev_tmp, T.get_set, Nat.reduceEqDiff, if_false, if_true, evG_some, exec_skip, exec_exit, R.ok_bind]
        with_reducible rfl
      show W tb1 _ _ _
      apply W.block
      apply W.seq
      apply W.run 20
      · intro M
        simp (config := { maxSteps := 4000000 }) (disch := first | decide +kernel | (rw [wantF_guard]; simp only [wantD_some, dstAt_zero, dstAt_succ, T.get_set, T.get_e, Nat.reduceEqDiff, if_true, if_false, wantV_bool, wantV_unit, unitV, cond_true, cond_false, Bool.not_true, Bool.not_false, List.toList_toArray]) | omega) only [c19b1, c19, Try.f19, Option.getD_some, sub_seq1, sub_block, sub_loop, sub_nil, sub_seq0, exec_draw, runOps_cons, opF_move, ev_tmp, T.get_set, Nat.reduceEqDiff, g4, if_false, evG_some, putT_some, opF_load, g1, opF_indexAddr, if_true, g2, opF_call, evs, R.ok_bind, resK, opF_build, evp, opF_alloc, zero44, at_ptr, opF_store, putT_none, runOps_nil, cells_agg, lf, lx, hp, hpl, hk9, bf44, hst]
        with_reducible rfl
      apply W.seq
      apply W.run 20
      · intro M
        simp (config := { maxSteps := 4000000 }) (disch := first | decide +kernel | (rw [wantF_guard]; simp only [wantD_some, dstAt_zero, dstAt_succ, T.get_set, T.get_e, Nat.reduceEqDiff, if_true, if_false, wantV_bool, wantV_unit, unitV, cond_true, cond_false, Bool.not_true, Bool.not_false, List.toList_toArray]) | omega) only [c19b1, c19, Try.f19, Option.getD_some, sub_seq1, sub_block, sub_loop, sub_nil, sub_seq0, exec_region, runOps_cons, opF_makeFunc, evs, ev_tmp, T.get_set, Nat.reduceEqDiff, g2, if_false, evG_some, if_true, R.ok_bind, putT_some, opF_assign, runOps_nil]
        with_reducible rfl
      apply W.seq
      apply W.run 20
      · intro M
        simp (config := { maxSteps := 4000000 }) (disch := first | decide +kernel | (rw [wantF_guard]; simp only [wantD_some, dstAt_zero, dstAt_succ, T.get_set, T.get_e, Nat.reduceEqDiff, if_true, if_false, wantV_bool, wantV_unit, unitV, cond_true, cond_false, Bool.not_true, Bool.not_false, List.toList_toArray]) | omega) only [c19b1, c19, Try.f19, Option.getD_some, sub_seq1, sub_block, sub_loop, sub_nil, sub_seq0, exec_region, runOps_cons, opF_load, ev_tmp, T.get_set, Nat.reduceEqDiff, g1, if_false, evG_some, putT_some, opF_len, evs, if_true, R.ok_bind, opF_fieldAddr, opF_store, putT_none, runOps_nil, fa44_1, lx2, hlen, hst2]
        with_reducible rfl
      apply W.seq
      -- where it ends
      have mid : ∀ {K : Ex → St → Prop} {t1 : T Value}, Sl t1 [(0, .func (.yield lp) ⟨[]⟩ ⟨[]⟩), (1, .pointer (some ⟨eb, 0, none⟩)), (2, .pointer (some ⟨fb, 0, none⟩)), (4, .int .i64 (a : Int)), (5, .pointer (some ⟨C.next, 0, none⟩)), (6, .func (.func 20) ⟨[]⟩ ⟨[.pointer (some ⟨fb, 0, none⟩), .pointer (some ⟨C.next, 0, none⟩)]⟩)] →
          (∀ t2 F, Ext C F → Vals F 44 C.next (.var 3) (rowC ⟨a, a + q, tier f n⟩) → F.next = C.next + 1 → Sl t2 [(0, .func (.yield lp) ⟨[]⟩ ⟨[]⟩), (1, .pointer (some ⟨eb, 0, none⟩)), (2, .pointer (some ⟨fb, 0, none⟩)), (5, .pointer (some ⟨C.next, 0, none⟩))] → K .nrm ⟨t2, 41, [], F, none⟩) →
          W tb1 (.seq (sub c19b1 [1,0,1,1,1,0,0]) (.seq (sub c19b1 [1,0,1,1,1,0,1,0]) (sub c19b1 [1,0,1,1,1,0,1,1]))) ⟨t1, 41, [], E, none⟩ K := by
        rintro K t1 ⟨f0, f1, f2, f4, f5, f6, -⟩ hK
        apply W.seq
        by_cases hqe : q < l.length - a
        · rw [if_pos hqe] at hgi
          obtain ⟨F, hst3, hvF, hnF, hfF⟩ := store_vals (tb := tb1) (t := 3) (o := 1) (v := .int .i64 ((a + q : Nat) : Int)) size3 hvE' (by simp) rfl rfl
          have hq0 : 0 ≤ q := Nat.zero_le _
          apply W.runG (gi) 20
          · intro M hM
            simp (config := { maxSteps := 4000000 }) (disch := first | decide +kernel | (rw [wantF_guard]; simp only [wantD_some, dstAt_zero, dstAt_succ, T.get_set, T.get_e, Nat.reduceEqDiff, if_true, if_false, wantV_bool, wantV_unit, unitV, cond_true, cond_false, Bool.not_true, Bool.not_false, List.toList_toArray]) | omega) only [c19b1, c19, Try.f19, Option.getD_some, sub_seq1, sub_block, sub_loop, sub_nil, sub_seq0, exec_region, runOps_cons, opF_load, ev_tmp, f1, evG_some, putT_some, opF_move, T.get_set, Nat.reduceEqDiff, f4, if_false, opF_slice, if_true, evo, R.ok_bind, f6, opF_call, evs, resK, opF_assign, runOps_nil, lx3, hcut, hgi]
            with_reducible rfl
          show W tb1 _ _ _
          apply W.seq
          apply W.run 20
          · intro M
            simp (config := { maxSteps := 4000000 }) (disch := first | decide +kernel | (rw [wantF_guard]; simp only [wantD_some, dstAt_zero, dstAt_succ, T.get_set, T.get_e, Nat.reduceEqDiff, if_true, if_false, wantV_bool, wantV_unit, unitV, cond_true, cond_false, Bool.not_true, Bool.not_false, List.toList_toArray]) | omega) only [c19b1, c19, Try.f19, Option.getD_some, sub_seq1, sub_block, sub_loop, sub_nil, sub_seq0, exec_region, runOps_cons, opF_move, ev_tmp, T.get_set, Nat.reduceEqDiff, if_false, if_true, evG_some, putT_some, opF_ari, ev_int, runOps_nil, R.ok_bind, binF_int, op_geq, cast_le, Nat.zero_le, decide_true]
            with_reducible rfl
          apply W.run 20
          · intro M
            simp (config := { maxSteps := 4000000 }) (disch := first | decide +kernel | (rw [wantF_guard]; simp only [wantD_some, dstAt_zero, dstAt_succ, T.get_set, T.get_e, Nat.reduceEqDiff, if_true, if_false, wantV_bool, wantV_unit, unitV, cond_true, cond_false, Bool.not_true, Bool.not_false, List.toList_toArray]) | omega) only [c19b1, c19, Try.f19, Option.getD_some, sub_seq1, sub_block, sub_loop, sub_nil, sub_seq0, exec_cond, ev_tmp, T.get_set, Nat.reduceEqDiff, if_false, if_true, evG_some, exec_region, runOps_cons, opF_move, f4, putT_some, opF_ari, opF_fieldAddr, f5, opF_store, putT_none, runOps_nil, R.ok_bind, fa44_1, binF_int, hadd, hst3, exec_skip]
            with_reducible rfl
          refine hK _ F (hCE.put (b := C.next) (Nat.le_refl _) hnF hfF) hvF (by omega) ?_
          simp only [Sl_cons, Sl_nil, T.get_set, T.puts_cons, T.puts_nil, Nat.reduceEqDiff, Nat.reduceAdd, if_true, if_false, and_true, true_and, f0, f1, f2, f5]
        · rw [if_neg hqe] at hgi
          have hqq : a + q = l.length := by omega
          rw [hqq] at hK
          have hneg : intOpF .geq .i64 (-1) ((0 : Nat) : Int) = .ok (.bool false) := rfl
          apply W.runG (gi) 20
          · intro M hM
            simp (config := { maxSteps := 4000000 }) (disch := first | decide +kernel | (rw [wantF_guard]; simp only [wantD_some, dstAt_zero, dstAt_succ, T.get_set, T.get_e, Nat.reduceEqDiff, if_true, if_false, wantV_bool, wantV_unit, unitV, cond_true, cond_false, Bool.not_true, Bool.not_false, List.toList_toArray]) | omega) only [c19b1, c19, Try.f19, Option.getD_some, sub_seq1, sub_block, sub_loop, sub_nil, sub_seq0, exec_region, runOps_cons, opF_load, ev_tmp, f1, evG_some, putT_some, opF_move, T.get_set, Nat.reduceEqDiff, f4, if_false, opF_slice, if_true, evo, R.ok_bind, f6, opF_call, evs, resK, opF_assign, runOps_nil, lx3, hcut, hgi]
            with_reducible rfl
          show W tb1 _ _ _
          apply W.seq
          apply W.run 20
          · intro M
            simp (config := { maxSteps := 4000000 }) (disch := first | decide +kernel | (rw [wantF_guard]; simp only [wantD_some, dstAt_zero, dstAt_succ, T.get_set, T.get_e, Nat.reduceEqDiff, if_true, if_false, wantV_bool, wantV_unit, unitV, cond_true, cond_false, Bool.not_true, Bool.not_false, List.toList_toArray]) | omega) only [c19b1, c19, Try.f19, Option.getD_some, sub_seq1, sub_block, sub_loop, sub_nil, sub_seq0, exec_region, runOps_cons, opF_move, ev_tmp, T.get_set, Nat.reduceEqDiff, if_false, if_true, evG_some, putT_some, opF_ari, ev_int, runOps_nil, R.ok_bind, binF_int, hneg]
            with_reducible rfl
          apply W.run 20
          · intro M
            simp (config := { maxSteps := 4000000 }) (disch := first | decide +kernel | (rw [wantF_guard]; simp only [wantD_some, dstAt_zero, dstAt_succ, T.get_set, T.get_e, Nat.reduceEqDiff, if_true, if_false, wantV_bool, wantV_unit, unitV, cond_true, cond_false, Bool.not_true, Bool.not_false, List.toList_toArray]) | omega) only [c19b1, c19, Try.f19, Option.getD_some, sub_seq1, sub_block, sub_loop, sub_nil, sub_seq0, exec_cond, ev_tmp, T.get_set, Nat.reduceEqDiff, if_false, if_true, evG_some, exec_region, runOps_cons, opF_move, putT_some, opF_ari, opF_fieldAddr, opF_store, putT_none, runOps_nil, R.ok_bind, exec_skip]
            with_reducible rfl
          refine hK _ E hCE hvE' (by omega) ?_
          simp only [Sl_cons, Sl_nil, T.get_set, T.puts_cons, T.puts_nil, Nat.reduceEqDiff, Nat.reduceAdd, if_true, if_false, and_true, true_and, f0, f1, f2, f5]
      refine mid ?_ ?_
      · simp only [Sl_cons, Sl_nil, T.get_set, T.puts_cons, T.puts_nil, Nat.reduceEqDiff, Nat.reduceAdd, if_true, if_false, and_true, true_and, g0, g1, g2, g4]
      rintro t2 F hCF hvF hnF ⟨f0, f1, f2, f5, -⟩
      show W tb1 _ _ _
      obtain ⟨b', G, ⟨gy, hgy⟩, hInvG, hnG, hbG, hfrG⟩ := hc.step i _ b F hri (hc.ext i b C F hInv hCF.n (fun y hy => hCF.g y (by have := hc.lt i b C hInv; rcases hy with h | h <;> omega)))
      obtain ⟨d44, hd1, hd2⟩ := und44
      have lF : loadF tb1 F.get 44 (.pointer (some ⟨C.next, 0, none⟩)) = .ok (rowV ⟨a, a + q, tier f n⟩) := Go.Am.load_all (tb := tb1) (t := 44) hd1 hd2 (by rw [size44]; rfl) hvF
      have hSc : ¬ S C.next := fun h => by have := hS _ h; omega
      have hbc : C.next ≠ b := by have := hc.lt i b C hInv; omega
      have lG : loadF tb1 G.get 3 (.pointer (some ⟨C.next, 1, none⟩)) = .ok (.int .i64 ((a + q : Nat) : Int)) := load_vals und3 rfl (hvF.same (hfrG _ (by omega) hSc hbc)) rfl
      apply W.seq
      apply W.seq
      apply W.runG (gy) 20
      · intro M hM
        simp (config := { maxSteps := 4000000 }) (disch := first | decide +kernel | (rw [wantF_guard]; simp only [wantD_some, dstAt_zero, dstAt_succ, T.get_set, T.get_e, Nat.reduceEqDiff, if_true, if_false, wantV_bool, wantV_unit, unitV, cond_true, cond_false, Bool.not_true, Bool.not_false, List.toList_toArray]) | omega) only [c19b1, c19, Try.f19, Option.getD_some, sub_seq1, sub_block, sub_loop, sub_nil, sub_seq0, exec_region, runOps_cons, opF_move, ev_tmp, f0, evG_some, putT_some, opF_load, T.get_set, Nat.reduceEqDiff, f5, if_false, opF_callv, evs, if_true, R.ok_bind, resK, opF_un, runOps_nil, lF, callV_yield, hgy, un_not, Bool.not_true]
        with_reducible rfl
      show W tb1 _ _ _
      apply W.run 20
      · intro M
        simp (config := { maxSteps := 4000000 }) (disch := first | decide +kernel | (rw [wantF_guard]; simp only [wantD_some, dstAt_zero, dstAt_succ, T.get_set, T.get_e, Nat.reduceEqDiff, if_true, if_false, wantV_bool, wantV_unit, unitV, cond_true, cond_false, Bool.not_true, Bool.not_false, List.toList_toArray]) | omega) only [c19b1, c19, Try.f19, Option.getD_some, sub_seq1, sub_block, sub_loop, sub_nil, sub_seq0, exec_cond, ev_tmp, T.get_set, Nat.reduceEqDiff, if_false, if_true, evG_some, exec_ret, exec_skip, R.ok_bind]
        with_reducible rfl
      show W tb1 _ _ _
      apply W.run 20
      · intro M
        simp (config := { maxSteps := 4000000 }) (disch := first | decide +kernel | (rw [wantF_guard]; simp only [wantD_some, dstAt_zero, dstAt_succ, T.get_set, T.get_e, Nat.reduceEqDiff, if_true, if_false, wantV_bool, wantV_unit, unitV, cond_true, cond_false, Bool.not_true, Bool.not_false, List.toList_toArray]) | omega) only [c19b1, c19, Try.f19, Option.getD_some, sub_seq1, sub_block, sub_loop, sub_nil, exec_region, runOps_cons, opF_fieldAddr, ev_tmp, T.get_set, Nat.reduceEqDiff, f5, if_false, evG_some, putT_some, opF_load, if_true, opF_assign, runOps_nil, R.ok_bind, fa44_1, lG]
        with_reducible rfl
      refine ⟨l.length - (a + q), _, _, by omega, rfl, a + q, i + 1, k, b', rfl, by omega, by omega, hdrop2, by omega, hInvG, by omega, ?_, ?_, ?_⟩
      · rcases hbG with rfl | h
        · exact hbb
        · exact .inr (by omega)
      · intro y hy h1 h3
        rw [hfrG y (by omega) h1 (by omega), hCF.g y (by omega), hold y hy h1 h3]
      · simp only [Sl_cons, Sl_nil, T.get_set, T.puts_cons, T.puts_nil, Nat.reduceEqDiff, Nat.reduceAdd, if_true, if_false, and_true, true_and, f0, f1, f2]
    · have hae : a = l.length := by omega
      subst hae
      rw [List.drop_length, rowsL_nil] at hdrop
      have hie : i = (rows f l).length := by
        have h := congrArg List.length hdrop
        rw [List.length_drop] at h
        simp at h; omega
      subst hie
      rw [c19b1_eq]
      apply W.seq
      apply W.seq
      apply W.run 20
      · intro M
        simp (config := { maxSteps := 4000000 }) (disch := first | decide +kernel | (rw [wantF_guard]; simp only [wantD_some, dstAt_zero, dstAt_succ, T.get_set, T.get_e, Nat.reduceEqDiff, if_true, if_false, wantV_bool, wantV_unit, unitV, cond_true, cond_false, Bool.not_true, Bool.not_false, List.toList_toArray]) | omega) only [c19b1, c19, Try.f19, Option.getD_some, sub_seq1, sub_block, sub_loop, sub_nil, sub_seq0, exec_region, runOps_cons, opF_move, ev_tmp, g4, evG_some, putT_some, opF_load, T.get_set, Nat.reduceEqDiff, g1, if_false, opF_len, evs, if_true, R.ok_bind, opF_ari, runOps_nil, lx, hlen, binF_int, op_lssI, cast_lt, hlt, decide_false]
        with_reducible rfl
      apply W.run 20
      · intro M
        simp (config := { maxSteps := 4000000 }) (disch := first | decide +kernel | (rw [wantF_guard]; simp only [wantD_some, dstAt_zero, dstAt_succ, T.get_set, T.get_e, Nat.reduceEqDiff, if_true, if_false, wantV_bool, wantV_unit, unitV, cond_true, cond_false, Bool.not_true, Bool.not_false, List.toList_toArray]) | omega) only [c19b1, c19, Try.f19, Option.getD_some, sub_seq1, sub_block, sub_loop, sub_nil, sub_seq0, exec_cond, ev_tmp, T.get_set, Nat.reduceEqDiff, if_false, if_true, evG_some, exec_skip, exec_exit, R.ok_bind]
        with_reducible rfl
      exact ⟨.inl rfl, _, [], rfl, rfl, b, hInv, hn, hbb, hold⟩
  · simp only [Sl_cons, Sl_nil, T.get_set, T.puts_cons, T.puts_nil, Nat.reduceEqDiff, Nat.reduceAdd, if_true, if_false, and_true, true_and]
end Go.Proofs.Ytgkolgfkcelljaa.pck

/-
  Pick: the full rows, the best one.
-/
namespace Go.Proofs.Ytgkolgfkcelljaa.pck
open Go.Am Go.Pick
set_option linter.unusedSimpArgs false
set_option linter.unusedVariables false
set_option linter.unusedVariables false
set_option maxRecDepth 20000

noncomputable def c14 : Code := Try.f14.body.getD .skip
theorem c14_eq : Try.f14.body = some (.seq (sub c14 [0]) (.seq (sub c14 [1,0]) (sub c14 [1,1]))) := by kernel_rfl
theorem run_rowsF {A : Mem} {f : Nat} {x : Value} (hx : x.cells.toList = [x]) :
    Ans tb1 14 [.int .i64 (f : Int), x] A (.func (.func 19) ⟨[]⟩ ⟨[.pointer (some ⟨A.next + 1, 0, none⟩), .pointer (some ⟨A.next, 0, none⟩)]⟩) ((A.alloc (rowOb 3 [.int .i64 (f : Int)])).alloc (rowOb 24 [x])) := by
  obtain ⟨v, A', ha, rfl, rfl⟩ : ∃ v A', Ans tb1 14 [.int .i64 (f : Int), x] A v A' ∧ v = .func (.func 19) ⟨[]⟩ ⟨[.pointer (some ⟨A.next + 1, 0, none⟩), .pointer (some ⟨A.next, 0, none⟩)]⟩ ∧ A' = (A.alloc (rowOb 3 [.int .i64 (f : Int)])).alloc (rowOb 24 [x]) := by
    refine ans_of_W (fn_at Try.func14) c14_eq (by rw [Try.ntmps14]; simp) (by kernel_rfl) (by kernel_rfl) ?_
    apply W.seq
    apply W.run 20
    · intro M
      simp (config := { maxSteps := 4000000 }) (disch := first | decide +kernel | (rw [wantF_guard]; simp only [wantD_some, dstAt_zero, dstAt_succ, T.get_set, T.get_e, Nat.reduceEqDiff, if_true, if_false, wantV_bool, wantV_unit, unitV, cond_true, cond_false, Bool.not_true, Bool.not_false, List.toList_toArray]) | omega) only [c14, Try.f14, Option.getD_some, sub_seq0, sub_nil, T.puts_cons, Nat.reduceAdd, T.puts_nil, exec_region, runOps_cons, opF_box, ev_tmp, T.get_set, Nat.reduceEqDiff, T.get_e, if_true, if_false, evG_some, at_ptr, putT_some, next_alloc, opF_assign, ev_nilfunc, runOps_nil, R.ok_bind, hx, cells_int]
      with_reducible rfl
    apply W.seq
    apply W.run 20
    · intro M
      simp (config := { maxSteps := 4000000 }) (disch := first | decide +kernel | (rw [wantF_guard]; simp only [wantD_some, dstAt_zero, dstAt_succ, T.get_set, T.get_e, Nat.reduceEqDiff, if_true, if_false, wantV_bool, wantV_unit, unitV, cond_true, cond_false, Bool.not_true, Bool.not_false, List.toList_toArray]) | omega) only [c14, Try.f14, Option.getD_some, sub_seq1, sub_seq0, sub_nil, exec_region, runOps_cons, opF_makeFunc, evs, ev_tmp, T.get_set, Nat.reduceEqDiff, T.get_e, if_false, if_true, evG_some, R.ok_bind, putT_some, opF_assign, runOps_nil]
      with_reducible rfl
    apply W.run 20
    · intro M
      simp (config := { maxSteps := 4000000 }) (disch := first | decide +kernel | (rw [wantF_guard]; simp only [wantD_some, dstAt_zero, dstAt_succ, T.get_set, T.get_e, Nat.reduceEqDiff, if_true, if_false, wantV_bool, wantV_unit, unitV, cond_true, cond_false, Bool.not_true, Bool.not_false, List.toList_toArray]) | omega) only [c14, Try.f14, Option.getD_some, sub_seq1, sub_nil, exec_ret]
      with_reducible rfl
    refine ⟨.inr rfl, _, [.func (.func 19) ⟨[]⟩ ⟨[.pointer (some ⟨A.next + 1, 0, none⟩), .pointer (some ⟨A.next, 0, none⟩)]⟩], rfl, ?_, rfl, rfl⟩
    simp only [Try.f14, resF, ev_tmp, T.get_set, Nat.reduceEqDiff, if_true, if_false, evG_some, R.ok_bind]
  exact ha
noncomputable def c16 : Code := Try.f16.body.getD .skip
theorem c16_eq : Try.f16.body = some (.seq (sub c16 [0]) (.seq (sub c16 [1,0]) (sub c16 [1,1]))) := by kernel_rfl
theorem run_fullF {A : Mem} {f : Nat} {x : Value} (hx : x.cells.toList = [x]) :
    Ans tb1 16 [.int .i64 (f : Int), x] A (.func (.func 22) ⟨[]⟩ ⟨[.pointer (some ⟨A.next, 0, none⟩), .pointer (some ⟨A.next + 1, 0, none⟩)]⟩) ((A.alloc (rowOb 3 [.int .i64 (f : Int)])).alloc (rowOb 24 [x])) := by
  obtain ⟨v, A', ha, rfl, rfl⟩ : ∃ v A', Ans tb1 16 [.int .i64 (f : Int), x] A v A' ∧ v = .func (.func 22) ⟨[]⟩ ⟨[.pointer (some ⟨A.next, 0, none⟩), .pointer (some ⟨A.next + 1, 0, none⟩)]⟩ ∧ A' = (A.alloc (rowOb 3 [.int .i64 (f : Int)])).alloc (rowOb 24 [x]) := by
    refine ans_of_W (fn_at Try.func16) c16_eq (by rw [Try.ntmps16]; simp) (by kernel_rfl) (by kernel_rfl) ?_
    apply W.seq
    apply W.run 20
    · intro M
      simp (config := { maxSteps := 4000000 }) (disch := first | decide +kernel | (rw [wantF_guard]; simp only [wantD_some, dstAt_zero, dstAt_succ, T.get_set, T.get_e, Nat.reduceEqDiff, if_true, if_false, wantV_bool, wantV_unit, unitV, cond_true, cond_false, Bool.not_true, Bool.not_false, List.toList_toArray]) | omega) only [c16, Try.f16, Option.getD_some, sub_seq0, sub_nil, T.puts_cons, Nat.reduceAdd, T.puts_nil, exec_region, runOps_cons, opF_box, ev_tmp, T.get_set, Nat.reduceEqDiff, T.get_e, if_true, if_false, evG_some, at_ptr, putT_some, next_alloc, opF_assign, ev_nilfunc, runOps_nil, R.ok_bind, hx, cells_int]
      with_reducible rfl
    apply W.seq
    apply W.run 20
    · intro M
      simp (config := { maxSteps := 4000000 }) (disch := first | decide +kernel | (rw [wantF_guard]; simp only [wantD_some, dstAt_zero, dstAt_succ, T.get_set, T.get_e, Nat.reduceEqDiff, if_true, if_false, wantV_bool, wantV_unit, unitV, cond_true, cond_false, Bool.not_true, Bool.not_false, List.toList_toArray]) | omega) only [c16, Try.f16, Option.getD_some, sub_seq1, sub_seq0, sub_nil, exec_region, runOps_cons, opF_makeFunc, evs, ev_tmp, T.get_set, Nat.reduceEqDiff, T.get_e, if_false, if_true, evG_some, R.ok_bind, putT_some, opF_assign, runOps_nil]
      with_reducible rfl
    apply W.run 20
    · intro M
      simp (config := { maxSteps := 4000000 }) (disch := first | decide +kernel | (rw [wantF_guard]; simp only [wantD_some, dstAt_zero, dstAt_succ, T.get_set, T.get_e, Nat.reduceEqDiff, if_true, if_false, wantV_bool, wantV_unit, unitV, cond_true, cond_false, Bool.not_true, Bool.not_false, List.toList_toArray]) | omega) only [c16, Try.f16, Option.getD_some, sub_seq1, sub_nil, exec_ret]
      with_reducible rfl
    refine ⟨.inr rfl, _, [.func (.func 22) ⟨[]⟩ ⟨[.pointer (some ⟨A.next, 0, none⟩), .pointer (some ⟨A.next + 1, 0, none⟩)]⟩], rfl, ?_, rfl, rfl⟩
    simp only [Try.f16, resF, ev_tmp, T.get_set, Nat.reduceEqDiff, if_true, if_false, evG_some, R.ok_bind]
  exact ha

/-! ### The full rows: a loop within a loop -/
theorem und49 : ∃ d, tb1.und 49 = some d ∧ isAggD d = false := by
  have h : (tb1.und 49).map isAggD = some false := by kernel_rfl
  cases hq : tb1.und 49 with
  | none => rw [hq] at h; cases h
  | some d => rw [hq] at h; exact ⟨d, rfl, by simpa using h⟩
noncomputable def c22 : Code := Try.f22.body.getD .skip
theorem c22_eq : Try.f22.body = some (.seq (sub c22 [0]) (.seq (sub c22 [1,0]) (sub c22 [1,1]))) := by kernel_rfl
theorem c22r_eq : sub c22 [1,1] = .block 0 (.rangeFunc (.tmp 7) #[8] (sub c22 [1,1,0,0]) (sub c22 [1,1,0,1])) := by kernel_rfl
theorem c22b_eq : sub c22 [1,1,0,1] = .block 1 (.seq (sub c22 [1,1,0,1,0,0]) (sub c22 [1,1,0,1,0,1])) := by kernel_rfl
noncomputable def fullLp (t0 : T Value) (d : Nat) : ALoop := loop0 t0 22 [8] (sub c22 [1,1,0,0]) (sub c22 [1,1,0,1]) d
/-- How many of so many rows are full. -/
def fulls (f : Nat) (rs : List Row) (i : Nat) : Nat := ((rs.take i).filter (fullR f)).length
theorem filter_at (p : Row → Bool) : ∀ (rs : List Row) (i : Nat) (r : Row), rs[i]? = some r → (p r = true → (rs.filter p)[((rs.take i).filter p).length]? = some r ∧ ((rs.take (i + 1)).filter p).length = ((rs.take i).filter p).length + 1) ∧ (p r = false → ((rs.take (i + 1)).filter p).length = ((rs.take i).filter p).length)
  | [], i, r, h => by simp at h
  | q :: rs, 0, r, h => by
    simp only [List.getElem?_cons_zero, Option.some.injEq] at h
    subst h
    refine ⟨fun hp => ?_, fun hp => ?_⟩
    · simp [hp]
    · simp [hp]
  | q :: rs, i + 1, r, h => by
    have ih := filter_at p rs i r (by simpa using h)
    refine ⟨fun hp => ?_, fun hp => ?_⟩
    · obtain ⟨h1, h2⟩ := ih.1 hp
      cases hq : p q with
      | true =>
        simp only [List.take_succ_cons, List.filter_cons_of_pos hq, List.length_cons]
        exact ⟨by simpa using h1, by omega⟩
      | false =>
        have hq' : ¬ p q = true := by rw [hq]; decide
        simp only [List.take_succ_cons, List.filter_cons_of_neg hq']
        exact ⟨h1, h2⟩
    · have h2 := ih.2 hp
      cases hq : p q with
      | true =>
        simp only [List.take_succ_cons, List.filter_cons_of_pos hq, List.length_cons]
        omega
      | false =>
        have hq' : ¬ p q = true := by rw [hq]; decide
        simp only [List.take_succ_cons, List.filter_cons_of_neg hq']
        exact h2
structure FullI (Inv : Nat → Nat → Mem → Prop) (B0 : Mem) (f lp yb fb b0 : Nat) (t0 : T Value) (rs : List Row) (i b : Nat) (C : Mem) : Prop where
  inv : Inv (fulls f rs i) b C
  hd : C.get B0.next = some .defd
  hl : C.get (B0.next + 1) = some (.loop (fullLp t0 B0.next))
  hn : B0.next + 2 ≤ C.next
  n1 : b = b0 ∨ B0.next + 2 ≤ b
  hy : Vals C 49 yb (.var 1) [.func (.yield lp) ⟨[]⟩ ⟨[]⟩]
  hf : Vals C 3 fb (.var 1) [.int .i64 (f : Int)]
  lt : b < C.next
set_option maxHeartbeats 8000000 in
theorem cons_full {S : Nat → Prop} {N0 lp f yb fb b0 : Nat} {Inv : Nat → Nat → Mem → Prop} {B0 : Mem} {t0 : T Value} {rs : List Row} (hc : Cons S N0 lp Inv (rs.filter (fullR f))) (hN : N0 ≤ B0.next) (hyb : yb < B0.next ∧ ¬ S yb ∧ yb ≠ b0) (hfb : fb < B0.next ∧ ¬ S fb ∧ fb ≠ b0) (hb0 : b0 < B0.next) (hS : ∀ y, S y → y < B0.next)
    (hrs : ∀ r ∈ rs, r.a ≤ r.b ∧ r.b < 100000) (h1 : t0.get 1 = some (.pointer (some ⟨fb, 0, none⟩))) (h3 : t0.get 3 = some (.pointer (some ⟨yb, 0, none⟩))) :
    Cons S (B0.next + 2) (B0.next + 1) (FullI Inv B0 f lp yb fb b0 t0 rs) rs where
  lt i b C h := h.lt
  ext i b C C' h hn hg := by
    have hnn := h.hn
    exact {
      inv := hc.ext _ b C C' h.inv hn (fun y hy => hg y (by rcases hy with hy | hy; exact .inl (by omega); exact .inr hy))
      hd := by rw [hg _ (.inl (by omega))]; exact h.hd
      hl := by rw [hg _ (.inl (by omega))]; exact h.hl
      hn := by omega
      n1 := h.n1
      hy := h.hy.same (hg _ (.inl (by omega)))
      hf := h.hf.same (hg _ (.inl (by omega)))
      lt := Nat.lt_of_lt_of_le h.lt hn }
  step i r b C hr h := by
    have hCn := h.hn
    have hn1 := h.n1
    have hblt := h.lt
    obtain ⟨hra, hrb⟩ := hrs r (List.mem_of_getElem? hr)
    obtain ⟨C', hcall, b', hI, hn', hb', hfr⟩ : ∃ C', (∃ g, ∀ M, g ≤ M → callF tb1 (exec tb1 M) (.round (B0.next + 1) [rowV r]) C = .ok (.val (.bool true) C')) ∧ ∃ b', FullI Inv B0 f lp yb fb b0 t0 rs (i + 1) b' C' ∧ C.next ≤ C'.next ∧ (b' = b ∨ C.next ≤ b') ∧ ∀ y, y < C.next → ¬ S y → y ≠ b → C'.get y = C.get y := by
      refine round_of_W h.hl (t := t0.set 8 (rowV r)) rfl ?_
      show W tb1 (sub c22 [1,1,0,0]) ⟨t0.set 8 (rowV r), 22, [], C, some (B0.next + 1)⟩ _
      have hE1 : Ext C (C.alloc (rowOb 44 [.int .i64 0, .int .i64 0, .int .i64 0])) := Ext.alloc C _
      have hv0 : Vals (C.alloc (rowOb 44 [.int .i64 0, .int .i64 0, .int .i64 0])) 44 C.next (.var 3) [.int .i64 0, .int .i64 0, .int .i64 0] := Go.Am.vals_new C 44 _
      obtain ⟨D, hst, hvD, hnD, hfD⟩ := store_all (tb := tb1) (t := 44) (l' := rowC r) (by rw [size44]; rfl) hv0 rfl (by simp) (rowC_one r)
      have hCD : Ext C D := hE1.put (b := C.next) (Nat.le_refl _) hnD hfD
      have hnD1 : D.next = C.next + 1 := by rw [hnD, next_alloc]
      have hst' : storeF tb1 (C.alloc (rowOb 44 [.int .i64 0, .int .i64 0, .int .i64 0])) 44 (.pointer (some ⟨C.next, 0, none⟩)) (rowV r) = .ok D := hst
      apply W.run 20
      · intro M
        simp (config := { maxSteps := 4000000 }) (disch := first | decide +kernel | (rw [wantF_guard]; simp only [wantD_some, dstAt_zero, dstAt_succ, T.get_set, T.get_e, Nat.reduceEqDiff, if_true, if_false, wantV_bool, wantV_unit, unitV, cond_true, cond_false, Bool.not_true, Bool.not_false, List.toList_toArray]) | omega) only [c22, Try.f22, Option.getD_some, sub_seq1, sub_block, sub_range0, sub_nil, exec_region, runOps_cons, opF_alloc, zero44, at_ptr, putT_some, opF_store, ev_tmp, T.get_set, Nat.reduceEqDiff, if_false, if_true, evG_some, putT_none, runOps_nil, R.ok_bind, cells_agg, hst']
        with_reducible rfl
      refine ⟨rfl, _, by show D.get _ = _; rw [hCD.g _ (by omega)]; exact h.hl, rfl, ?_⟩
      show W tb1 (sub c22 [1,1,0,1]) ⟨_, 22, [], D.set (B0.next + 1) (.loop { (fullLp t0 B0.next) with state := .busy }), some (B0.next + 1)⟩ _
      have hn0 : (D.set (B0.next + 1) (.loop { (fullLp t0 B0.next) with state := .busy })).next = D.next := next_set _ _ _
      have hg0 : ∀ y, y ≠ B0.next + 1 → (D.set (B0.next + 1) (.loop { (fullLp t0 B0.next) with state := .busy })).get y = D.get y := fun y hy => by rw [get_setMem, if_neg hy]
      have hl0 : (D.set (B0.next + 1) (.loop { (fullLp t0 B0.next) with state := .busy })).get (B0.next + 1) = some (.loop { (fullLp t0 B0.next) with state := .busy }) := by rw [get_setMem, if_pos rfl]
      revert hn0 hg0 hl0
      generalize D.set (B0.next + 1) (.loop { (fullLp t0 B0.next) with state := .busy }) = E
      intro hn0 hg0 hl0
      have hDI : ∀ (G : Mem) (n b' : Nat), Inv n b' G → G.get (B0.next + 1) = some (.loop { (fullLp t0 B0.next) with state := .busy }) → E.next ≤ G.next → (b' = b ∨ E.next ≤ b') → (∀ y, y < E.next → ¬ S y → y ≠ b → G.get y = E.get y) → fulls f rs (i + 1) = n →
          FullI Inv B0 f lp yb fb b0 t0 rs (i + 1) b' (G.set (B0.next + 1) (.loop (fullLp t0 B0.next))) ∧ C.next ≤ (G.set (B0.next + 1) (.loop (fullLp t0 B0.next))).next ∧ (b' = b ∨ C.next ≤ b') ∧ ∀ y, y < C.next → ¬ S y → y ≠ b → (G.set (B0.next + 1) (.loop (fullLp t0 B0.next))).get y = C.get y := by
        intro G n b' hIG hlG hnG hbG hfG hfu
        have hset : ∀ y, y ≠ B0.next + 1 → (G.set (B0.next + 1) (.loop (fullLp t0 B0.next))).get y = G.get y := fun y hy => by rw [get_setMem, if_neg hy]
        have hsn : (G.set (B0.next + 1) (.loop (fullLp t0 B0.next))).next = G.next := next_set _ _ _
        have hSl : ¬ S (B0.next + 1) := fun hh => by have := hS _ hh; omega
        have hSd : ¬ S B0.next := fun hh => by have := hS _ hh; omega
        have hblG := hc.lt _ _ _ hIG
        have old : ∀ y, y < C.next → y ≠ B0.next + 1 → ¬ S y → y ≠ b → (G.set (B0.next + 1) (.loop (fullLp t0 B0.next))).get y = C.get y := fun y hy hyl hys hyb => by
          rw [hset _ hyl, hfG y (by omega) hys hyb, hg0 y hyl, hCD.g y hy]
        refine ⟨{
          inv := by
            rw [hfu]
            exact hc.ext _ b' G _ hIG (by omega) (fun y hy => hset y (by rcases hy with hy | hy <;> omega))
          hd := by rw [old _ (by omega) (by omega) hSd (by omega)]; exact h.hd
          hl := by rw [get_setMem, if_pos rfl]
          hn := by omega
          n1 := by omega
          hy := h.hy.same (old _ (by omega) (by omega) hyb.2.1 (by omega))
          hf := h.hf.same (old _ (by omega) (by omega) hfb.2.1 (by omega))
          lt := by omega }, by omega, by omega, fun y hy hys hyb => ?_⟩
        by_cases hyl : y = B0.next + 1
        · subst hyl
          rw [get_setMem, if_pos rfl]; exact h.hl.symm
        · exact old y hy hyl hys hyb
      have hInvE : Inv (fulls f rs i) b E := hc.ext _ b C E h.inv (by omega) (fun y hy => by rw [hg0 _ (by rcases hy with hy | hy <;> omega), hCD.g _ (by rcases hy with hy | hy <;> omega)])
      have hvE : Vals E 44 C.next (.var 3) (rowC r) := hvD.same (hg0 _ (by omega))
      have l1 : loadF tb1 E.get 3 (.pointer (some ⟨C.next, 1, none⟩)) = .ok (.int .i64 (r.b : Int)) := load_vals und3 rfl hvE rfl
      have l0 : loadF tb1 E.get 3 (.pointer (some ⟨C.next, 0, none⟩)) = .ok (.int .i64 (r.a : Int)) := load_vals und3 rfl hvE rfl
      obtain ⟨d44, hd1, hd2⟩ := und44
      have lr : loadF tb1 E.get 44 (.pointer (some ⟨C.next, 0, none⟩)) = .ok (rowV r) := Go.Am.load_all (tb := tb1) (t := 44) hd1 hd2 (by rw [size44]; rfl) hvE
      have lf : loadF tb1 E.get 3 (.pointer (some ⟨fb, 0, none⟩)) = .ok (.int .i64 (f : Int)) := load_vals und3 rfl (h.hf.same (by rw [hg0 _ (by omega), hCD.g _ (by omega)])) rfl
      obtain ⟨d49, hy1, hy2⟩ := und49
      have ly : loadF tb1 E.get 49 (.pointer (some ⟨yb, 0, none⟩)) = .ok (.func (.yield lp) ⟨[]⟩ ⟨[]⟩) := load_vals hy1 hy2 (h.hy.same (by rw [hg0 _ (by omega), hCD.g _ (by omega)])) rfl
      have hsub : intOpF .sub .i64 ((r.b : Nat) : Int) ((r.a : Nat) : Int) = .ok (.int .i64 ((r.b - r.a : Nat) : Int)) := op_sub_i64 hra (by omega)
      rw [c22b_eq]
      apply W.block
      apply W.seq
      by_cases hfull : f ≤ r.b - r.a
      · have hfr : fullR f r = true := by unfold fullR; rw [decide_eq_true hfull]
        obtain ⟨e1, e2⟩ := (filter_at (fullR f) rs i r hr).1 hfr
        obtain ⟨b', G, ⟨gy, hgy⟩, hIG, hnG, hbG, hfG⟩ := hc.step _ r b E e1 hInvE
        apply W.runG (gy) 20
        · intro M hM
          simp (config := { maxSteps := 4000000 }) (disch := first | decide +kernel | (rw [wantF_guard]; simp only [wantD_some, dstAt_zero, dstAt_succ, T.get_set, T.get_e, Nat.reduceEqDiff, if_true, if_false, wantV_bool, wantV_unit, unitV, cond_true, cond_false, Bool.not_true, Bool.not_false, List.toList_toArray]) | omega) only [c22, Try.f22, Option.getD_some, sub_seq1, sub_block, sub_range1, sub_seq0, sub_nil, exec_region, runOps_cons, opF_fieldAddr, ev_tmp, T.get_set, Nat.reduceEqDiff, if_false, if_true, evG_some, putT_some, opF_load, opF_ari, h1, opF_move, R.ok_bind, lf, fa44_0, l0, fa44_1, l1, binF_int, hsub, op_geq, cast_le, hfull, decide_true, runOps_yes, h3, opF_callv, evs, resK, opF_un, opF_pick, pickF, ev_bool, runOps_nil, lr, ly, callV_yield, hgy, un_not, Bool.not_true]
          with_reducible rfl
        show W tb1 _ _ _
        apply W.run 20
        · intro M
          simp (config := { maxSteps := 4000000 }) (disch := first | decide +kernel | (rw [wantF_guard]; simp only [wantD_some, dstAt_zero, dstAt_succ, T.get_set, T.get_e, Nat.reduceEqDiff, if_true, if_false, wantV_bool, wantV_unit, unitV, cond_true, cond_false, Bool.not_true, Bool.not_false, List.toList_toArray]) | omega) only [c22, Try.f22, Option.getD_some, sub_seq1, sub_block, sub_range1, sub_nil, exec_cond, ev_tmp, T.get_set, Nat.reduceEqDiff, if_false, if_true, evG_some, exec_ret, exec_skip, R.ok_bind]
          with_reducible rfl
        have hlG : G.get (B0.next + 1) = some (.loop { (fullLp t0 B0.next) with state := .busy }) := by rw [hfG _ (by omega) (fun hh => by have := hS _ hh; omega) (by omega)]; exact hl0
        obtain ⟨k1, k2, k3, k4⟩ := hDI G _ b' hIG hlG hnG hbG hfG e2
        exact ⟨rfl, rfl, _, hlG, b', k1, k2, k3, k4⟩
      · have hfr : fullR f r = false := by unfold fullR; rw [decide_eq_false hfull]
        have e2 := (filter_at (fullR f) rs i r hr).2 hfr
        apply W.run 20
        · intro M
          simp (config := { maxSteps := 4000000 }) (disch := first | decide +kernel | (rw [wantF_guard]; simp only [wantD_some, dstAt_zero, dstAt_succ, T.get_set, T.get_e, Nat.reduceEqDiff, if_true, if_false, wantV_bool, wantV_unit, unitV, cond_true, cond_false, Bool.not_true, Bool.not_false, List.toList_toArray]) | omega) only [c22, Try.f22, Option.getD_some, sub_seq1, sub_block, sub_range1, sub_seq0, sub_nil, exec_region, runOps_cons, opF_fieldAddr, ev_tmp, T.get_set, Nat.reduceEqDiff, if_false, if_true, evG_some, putT_some, opF_load, opF_ari, h1, opF_move, R.ok_bind, lf, fa44_0, l0, fa44_1, l1, binF_int, hsub, op_geq, cast_le, hfull, decide_false, runOps_no, opF_pick, pickF, ev_bool, runOps_nil]
          with_reducible rfl
        show W tb1 _ _ _
        apply W.run 20
        · intro M
          simp (config := { maxSteps := 4000000 }) (disch := first | decide +kernel | (rw [wantF_guard]; simp only [wantD_some, dstAt_zero, dstAt_succ, T.get_set, T.get_e, Nat.reduceEqDiff, if_true, if_false, wantV_bool, wantV_unit, unitV, cond_true, cond_false, Bool.not_true, Bool.not_false, List.toList_toArray]) | omega) only [c22, Try.f22, Option.getD_some, sub_seq1, sub_block, sub_range1, sub_nil, exec_cond, ev_tmp, T.get_set, Nat.reduceEqDiff, if_false, if_true, evG_some, exec_ret, exec_skip, R.ok_bind]
          with_reducible rfl
        obtain ⟨k1, k2, k3, k4⟩ := hDI E _ b hInvE hl0 (Nat.le_refl _) (.inl rfl) (fun _ _ _ _ => rfl) e2
        exact ⟨rfl, rfl, _, hl0, b, k1, k2, k3, k4⟩
    exact ⟨b', C', hcall, hI, hn', hb', hfr⟩
end Go.Proofs.Ytgkolgfkcelljaa.pck

/-
  Pick: the pick.
-/
namespace Go.Proofs.Ytgkolgfkcelljaa.pck
open Go.Am Go.Pick
set_option linter.unusedSimpArgs false
set_option linter.unusedVariables false
set_option linter.unusedVariables false
set_option maxRecDepth 20000

/-- What is known of rows. -/
theorem rowsL_ok (f : Nat) : ∀ (k a : Nat) (l : List Nat), ∀ r ∈ rowsL f k a l, r.a ≤ r.b ∧ r.b ≤ a + l.length
  | 0, a, l, r, h => by cases h
  | k + 1, a, [], r, h => by cases h
  | k + 1, a, n :: l, r, h => by
    rw [rowsL_step] at h
    have h1 := runL_le f (tier f n) (n :: l)
    rcases List.mem_cons.1 h with rfl | h
    · exact ⟨by show a ≤ a + _; omega, by show a + _ ≤ _; omega⟩
    · have h2 := rowsL_ok f k _ _ r h
      rw [List.length_drop] at h2
      exact ⟨h2.1, by omega⟩
theorem rows_ok (f : Nat) (l : List Nat) (h : l.length ≤ 1000) : ∀ r ∈ rows f l, r.a ≤ r.b ∧ r.b < 100000 := fun r hr => by
  have := rowsL_ok f _ _ _ r hr
  exact ⟨this.1, by omega⟩
theorem cells_yield (a : Fn) (b c : Array Value) : (Value.func a b c).cells.toList = [.func a b c] := rfl
set_option maxHeartbeats 8000000 in
theorem run_full1 {S : Nat → Prop} {N0 lp f eb fb bo b0 : Nat} {l : List Nat} {x : Value} {Inv : Nat → Nat → Mem → Prop} {C0 : Mem} (h2 : 2 ≤ f) (hf40 : f < 1000) (hl : l.length ≤ 1000) (hb : ∀ n ∈ l, n < 4611686018427387904) (hN : N0 ≤ C0.next) (hc : Cons S N0 lp Inv ((rows f l).filter (fullR f))) (hI : Inv 0 b0 C0)
    (hx : Rw C0 bo l x) (he : Vals C0 24 eb (.var 1) [x]) (hf : Vals C0 3 fb (.var 1) [.int .i64 (f : Int)]) (hbo : bo < C0.next ∧ ¬ S bo ∧ bo ≠ b0) (heb : eb < C0.next ∧ ¬ S eb ∧ eb ≠ b0) (hfb : fb < C0.next ∧ ¬ S fb ∧ fb ≠ b0) (hS : ∀ y, S y → y < C0.next) :
    ∃ v C', Ans tb1 22 [.func (.yield lp) ⟨[]⟩ ⟨[]⟩, .pointer (some ⟨fb, 0, none⟩), .pointer (some ⟨eb, 0, none⟩)] C0 v C' ∧ ∃ b', Inv ((rows f l).filter (fullR f)).length b' C' ∧ C0.next ≤ C'.next ∧ (b' = b0 ∨ C0.next ≤ b') ∧ ∀ y, y < C0.next → ¬ S y → y ≠ b0 → C'.get y = C0.get y := by
  refine ans_of_W (fn_at Try.func22) c22_eq (by rw [Try.ntmps22]; simp) (by kernel_rfl) (by kernel_rfl) ?_
  have hb0 := hc.lt 0 b0 C0 hI
  have n1 : (C0.alloc (rowOb 49 [.func (.yield lp) ⟨[]⟩ ⟨[]⟩])).next = C0.next + 1 := next_alloc _ _
  have v1 : Vals (C0.alloc (rowOb 49 [.func (.yield lp) ⟨[]⟩ ⟨[]⟩])) 49 C0.next (.var 1) [.func (.yield lp) ⟨[]⟩ ⟨[]⟩] := Go.Am.vals_new C0 49 _
  have E1 := Ext.alloc C0 (rowOb 49 [.func (.yield lp) ⟨[]⟩ ⟨[]⟩])
  apply W.seq
  apply W.run 20
  · intro M
    simp (config := { maxSteps := 4000000 }) (disch := first | decide +kernel | (rw [wantF_guard]; simp only [wantD_some, dstAt_zero, dstAt_succ, T.get_set, T.get_e, Nat.reduceEqDiff, if_true, if_false, wantV_bool, wantV_unit, unitV, cond_true, cond_false, Bool.not_true, Bool.not_false, List.toList_toArray]) | omega) only [c22, Try.f22, Option.getD_some, sub_seq0, sub_nil, T.puts_cons, Nat.reduceAdd, T.puts_nil, exec_region, runOps_cons, opF_box, ev_tmp, T.get_set, Nat.reduceEqDiff, T.get_e, if_true, if_false, evG_some, at_ptr, putT_some, runOps_nil, R.ok_bind, cells_func]
    with_reducible rfl
  revert n1 v1 E1
  generalize C0.alloc (rowOb 49 [.func (.yield lp) ⟨[]⟩ ⟨[]⟩]) = C1
  intro n1 v1 E1
  have hxc : x.cells.toList = [x] := hx.cells
  have lf : loadF tb1 C1.get 3 (.pointer (some ⟨fb, 0, none⟩)) = .ok (.int .i64 (f : Int)) := load_vals und3 rfl (hf.same (E1.g _ hfb.1)) rfl
  have le : loadF tb1 C1.get 24 (.pointer (some ⟨eb, 0, none⟩)) = .ok x := load_vals und24 rfl (he.same (E1.g _ heb.1)) rfl
  obtain ⟨gr, hgr⟩ := run_rowsF (A := C1) (f := f) hxc
  have n2 : (C1.alloc (rowOb 3 [.int .i64 (f : Int)])).next = C1.next + 1 := next_alloc _ _
  have n3 : ((C1.alloc (rowOb 3 [.int .i64 (f : Int)])).alloc (rowOb 24 [x])).next = C1.next + 2 := by rw [next_alloc, n2]
  have v2 : Vals ((C1.alloc (rowOb 3 [.int .i64 (f : Int)])).alloc (rowOb 24 [x])) 3 C1.next (.var 1) [.int .i64 (f : Int)] := (Go.Am.vals_new C1 3 _).same (get_alloc_ne (by omega))
  have v3 : Vals ((C1.alloc (rowOb 3 [.int .i64 (f : Int)])).alloc (rowOb 24 [x])) 24 (C1.next + 1) (.var 1) [x] := by
    have := Go.Am.vals_new (C1.alloc (rowOb 3 [.int .i64 (f : Int)])) 24 [x]
    rw [n2] at this; exact this
  have E2 : Ext C1 ((C1.alloc (rowOb 3 [.int .i64 (f : Int)])).alloc (rowOb 24 [x])) := (Ext.alloc _ _).trans (Ext.alloc _ _)
  apply W.seq
  apply W.runG (gr) 20
  · intro M hM
    simp (config := { maxSteps := 4000000 }) (disch := first | decide +kernel | (rw [wantF_guard]; simp only [wantD_some, dstAt_zero, dstAt_succ, T.get_set, T.get_e, Nat.reduceEqDiff, if_true, if_false, wantV_bool, wantV_unit, unitV, cond_true, cond_false, Bool.not_true, Bool.not_false, List.toList_toArray]) | omega) only [c22, Try.f22, Option.getD_some, sub_seq1, sub_seq0, sub_nil, exec_region, runOps_cons, opF_load, ev_tmp, T.get_set, Nat.reduceEqDiff, T.get_e, if_false, if_true, evG_some, putT_some, opF_call, evs, R.ok_bind, resK, runOps_nil, le, lf, hgr]
    with_reducible rfl
  revert n3 v2 v3 E2
  generalize (C1.alloc (rowOb 3 [.int .i64 (f : Int)])).alloc (rowOb 24 [x]) = B0
  intro n3 v2 v3 E2
  rw [c22r_eq]
  apply W.block
  generalize htt : (T.set _ 7 _ : T Value) = tt
  have t1 : tt.get 1 = some (.pointer (some ⟨fb, 0, none⟩)) := by rw [← htt]; simp only [T.get_set, T.puts_cons, T.puts_nil, Nat.reduceEqDiff, Nat.reduceAdd, if_true, if_false]
  have t3 : tt.get 3 = some (.pointer (some ⟨C0.next, 0, none⟩)) := by rw [← htt]; simp only [T.get_set, Nat.reduceEqDiff, if_true, if_false]
  have t7 : tt.get 7 = some (.func (.func 19) ⟨[]⟩ ⟨[.pointer (some ⟨C1.next + 1, 0, none⟩), .pointer (some ⟨C1.next, 0, none⟩)]⟩) := by rw [← htt]; simp only [T.get_set, if_true]
  have hE0 := E1.trans E2
  have hL1 : (B0.alloc .defd).next = B0.next + 1 := next_alloc _ _
  have hL2 : ((B0.alloc .defd).alloc (.loop (fullLp tt B0.next))).next = B0.next + 2 := by rw [next_alloc, hL1]
  have hEL : Ext B0 ((B0.alloc .defd).alloc (.loop (fullLp tt B0.next))) := (Ext.alloc B0 _).trans (Ext.alloc _ _)
  have hE3 := hE0.trans hEL
  have hcons := cons_full (B0 := B0) (t0 := tt) (yb := C0.next) (fb := fb) (b0 := b0) hc (by omega) ⟨by omega, fun h => by have := hS _ h; omega, by omega⟩ ⟨by omega, hfb.2.1, hfb.2.2⟩ (by omega) (fun y hy => by have := hS y hy; omega) (rows_ok f l hl) t1 t3
  have hI0 : FullI Inv B0 f lp C0.next fb b0 tt (rows f l) 0 b0 ((B0.alloc .defd).alloc (.loop (fullLp tt B0.next))) := {
    inv := hc.ext _ b0 C0 _ hI (by omega) (fun y hy => hE3.g y (by rcases hy with hy | hy <;> omega))
    hd := by rw [get_alloc_ne (by omega), get_alloc_self]
    hl := by rw [← hL1, get_alloc_self]
    hn := by omega
    n1 := .inl rfl
    hy := (v1.same (E2.g _ (by omega))).same (hEL.g _ (by omega))
    hf := hf.same (hE3.g _ hfb.1)
    lt := by omega }
  obtain ⟨v, C, hcl, b', hIC, hnC, hbC, hfC⟩ := run_rows1 (eb := C1.next + 1) (fb := C1.next) (bo := bo) h2 hf40 hl hb (by omega) hcons hI0 (hx.same hE3.n (fun h => hE3.g _ h)) (v3.same (hEL.g _ (by omega))) (v2.same (hEL.g _ (by omega))) ⟨by omega, hbo.2.1, hbo.2.2⟩ ⟨by omega, fun h => by have := hS _ h; omega, by omega⟩ ⟨by omega, fun h => by have := hS _ h; omega, by omega⟩ (fun y hy => by have := hS y hy; omega)
  have hfv : ev tt (.tmp 7) = .ok (.func (.func 19) ⟨[]⟩ ⟨[.pointer (some ⟨C1.next + 1, 0, none⟩), .pointer (some ⟨C1.next, 0, none⟩)]⟩) := by rw [ev_tmp, t7]; rfl
  refine W.rangeF hfv hcl hIC.hl (by intro h; cases h) rfl ?_
  have hSl : ¬ S (B0.next + 1) := fun hh => by have := hS _ hh; omega
  have hCn := hIC.hn
  have hCb := hIC.n1
  have hClt := hIC.lt
  have hinv := hIC.inv
  have hful : fulls f (rows f l) (rows f l).length = ((rows f l).filter (fullR f)).length := by unfold fulls; rw [List.take_length]
  rw [hful] at hinv
  have hg : ∀ y, y ≠ B0.next → y ≠ B0.next + 1 → ((C.set (B0.next + 1) (.loop { (fullLp tt B0.next) with state := .exhausted })).set B0.next .dead).get y = C.get y := fun y h1 h3 => by rw [get_setMem, if_neg h1, get_setMem, if_neg h3]
  have hgn : ((C.set (B0.next + 1) (.loop { (fullLp tt B0.next) with state := .exhausted })).set B0.next .dead).next = C.next := by rw [next_set, next_set]
  refine ⟨.inl rfl, (C.set (B0.next + 1) (.loop { (fullLp tt B0.next) with state := .exhausted })).set B0.next .dead, [], ?_, rfl, b', ?_, by omega, by omega, fun y hy hys hyb => ?_⟩
  · show takeF [B0.next] (C.set (B0.next + 1) (.loop { (fullLp tt B0.next) with state := .exhausted })) = _
    unfold takeF
    rw [get_setMem, if_neg (by omega), hIC.hd]
    rfl
  · exact hc.ext _ b' C _ hinv (by omega) (fun y hy => hg y (by rcases hy with hy | hy <;> omega) (by rcases hy with hy | hy <;> omega))
  · rw [hg y (by omega) (by omega), hfC y (by omega) hys hyb, hE3.g y hy]

/-! ### The best one -/
noncomputable def c17 : Code := Try.f17.body.getD .skip
theorem c17_eq : Try.f17.body = some (.seq (sub c17 [0]) (.seq (sub c17 [1,0]) (sub c17 [1,1]))) := by kernel_rfl
theorem run_better {A : Mem} (r s : Row) : ∃ A', Ans tb1 17 [rowV r, rowV s] A (.bool (decide (r.t < s.t))) A' ∧ Ext A A' := by
  obtain ⟨v, A', ha, rfl, hE⟩ : ∃ v A', Ans tb1 17 [rowV r, rowV s] A v A' ∧ v = .bool (decide (r.t < s.t)) ∧ Ext A A' := by
    refine ans_of_W (fn_at Try.func17) c17_eq (by rw [Try.ntmps17]; simp) (by kernel_rfl) (by kernel_rfl) ?_
    have n1 : (A.alloc (rowOb 44 (rowC r))).next = A.next + 1 := next_alloc _ _
    have v1 : Vals ((A.alloc (rowOb 44 (rowC r))).alloc (rowOb 44 (rowC s))) 44 A.next (.var 3) (rowC r) := (Go.Am.vals_new A 44 _).same (get_alloc_ne (by omega))
    have v2 : Vals ((A.alloc (rowOb 44 (rowC r))).alloc (rowOb 44 (rowC s))) 44 (A.next + 1) (.var 3) (rowC s) := by
      have := Go.Am.vals_new (A.alloc (rowOb 44 (rowC r))) 44 (rowC s)
      rw [n1] at this; exact this
    have E : Ext A ((A.alloc (rowOb 44 (rowC r))).alloc (rowOb 44 (rowC s))) := (Ext.alloc _ _).trans (Ext.alloc _ _)
    have hcr : (rowV r).cells.toList = rowC r := rfl
    have hcs : (rowV s).cells.toList = rowC s := rfl
    apply W.seq
    apply W.run 20
    · intro M
      simp (config := { maxSteps := 4000000 }) (disch := first | decide +kernel | (rw [wantF_guard]; simp only [wantD_some, dstAt_zero, dstAt_succ, T.get_set, T.get_e, Nat.reduceEqDiff, if_true, if_false, wantV_bool, wantV_unit, unitV, cond_true, cond_false, Bool.not_true, Bool.not_false, List.toList_toArray]) | omega) only [c17, Try.f17, Option.getD_some, sub_seq0, sub_nil, T.puts_cons, Nat.reduceAdd, T.puts_nil, exec_region, runOps_cons, opF_box, ev_tmp, T.get_set, Nat.reduceEqDiff, T.get_e, if_true, if_false, evG_some, at_ptr, putT_some, next_alloc, opF_assign, ev_bool, runOps_nil, R.ok_bind, hcs, hcr]
      with_reducible rfl
    revert v1 v2 E
    generalize (A.alloc (rowOb 44 (rowC r))).alloc (rowOb 44 (rowC s)) = B
    intro v1 v2 E
    have l1 : loadF tb1 B.get 3 (.pointer (some ⟨A.next, 2, none⟩)) = .ok (.int .i64 (r.t : Int)) := load_vals und3 rfl v1 rfl
    have l2 : loadF tb1 B.get 3 (.pointer (some ⟨A.next + 1, 2, none⟩)) = .ok (.int .i64 (s.t : Int)) := load_vals und3 rfl v2 rfl
    apply W.seq
    apply W.run 20
    · intro M
      simp (config := { maxSteps := 4000000 }) (disch := first | decide +kernel | (rw [wantF_guard]; simp only [wantD_some, dstAt_zero, dstAt_succ, T.get_set, T.get_e, Nat.reduceEqDiff, if_true, if_false, wantV_bool, wantV_unit, unitV, cond_true, cond_false, Bool.not_true, Bool.not_false, List.toList_toArray]) | omega) only [c17, Try.f17, Option.getD_some, sub_seq1, sub_seq0, sub_nil, exec_region, runOps_cons, opF_fieldAddr, ev_tmp, T.get_set, Nat.reduceEqDiff, T.get_e, if_false, if_true, evG_some, putT_some, opF_load, opF_ari, opF_assign, runOps_nil, R.ok_bind, fa44_2, l2, l1, binF_int, op_lssI, cast_lt]
      with_reducible rfl
    apply W.run 20
    · intro M
      simp (config := { maxSteps := 4000000 }) (disch := first | decide +kernel | (rw [wantF_guard]; simp only [wantD_some, dstAt_zero, dstAt_succ, T.get_set, T.get_e, Nat.reduceEqDiff, if_true, if_false, wantV_bool, wantV_unit, unitV, cond_true, cond_false, Bool.not_true, Bool.not_false, List.toList_toArray]) | omega) only [c17, Try.f17, Option.getD_some, sub_seq1, sub_nil, exec_ret]
      with_reducible rfl
    refine ⟨.inr rfl, _, [.bool (decide (r.t < s.t))], rfl, ?_, rfl, E⟩
    simp only [Try.f17, resF, ev_tmp, T.get_set, Nat.reduceEqDiff, if_true, if_false, evG_some, R.ok_bind]
  exact ⟨A', ha, hE⟩
theorem und47 : ∃ d, tb1.und 47 = some d ∧ isAggD d = false := by
  have h : (tb1.und 47).map isAggD = some false := by kernel_rfl
  cases hq : tb1.und 47 with
  | none => rw [hq] at h; cases h
  | some d => rw [hq] at h; exact ⟨d, rfl, by simpa using h⟩
def rowO : Option Row → List Value
  | none => [.int .i64 0, .int .i64 0, .int .i64 0]
  | some r => rowC r
theorem rowO_len (o : Option Row) : (rowO o).length = 3 := by cases o <;> rfl
theorem rowO_one (o : Option Row) : ∀ v ∈ rowO o, oneCell v = true := by
  cases o with
  | none =>
    intro v hv
    simp only [rowO, List.mem_cons, List.not_mem_nil, or_false] at hv
    rcases hv with rfl | rfl | rfl <;> rfl
  | some r => exact rowC_one r
noncomputable def c15 : Code := Try.f15.body.getD .skip
theorem c15_eq : Try.f15.body = some (.seq (sub c15 [0]) (.seq (.seq (sub c15 [1,0,0]) (sub c15 [1,0,1])) (.seq (sub c15 [1,1,0]) (sub c15 [1,1,1])))) := by kernel_rfl
theorem c15r_eq : sub c15 [1,0,1] = .block 0 (.rangeFunc (.tmp 7) #[8] (sub c15 [1,0,1,0,0]) (sub c15 [1,0,1,0,1])) := by kernel_rfl
theorem c15b_eq : sub c15 [1,0,1,0,1] = .block 1 (.seq (sub c15 [1,0,1,0,1,0,0]) (sub c15 [1,0,1,0,1,0,1])) := by kernel_rfl
noncomputable def bestLp (t0 : T Value) (d : Nat) : ALoop := loop0 t0 21 [8] (sub c15 [1,0,1,0,0]) (sub c15 [1,0,1,0,1]) d
structure BestI (B0 : Mem) (xb ib bb : Nat) (t0 : T Value) (rs : List Row) (i b : Nat) (C : Mem) : Prop where
  hd : C.get B0.next = some .defd
  hl : C.get (B0.next + 1) = some (.loop (bestLp t0 B0.next))
  hn : B0.next + 2 ≤ C.next
  hb : b = xb
  hx : Vals C 44 xb (.var 3) (rowO ((rs.take i).foldl better none))
  hi : Vals C 4 ib (.var 1) [.bool ((rs.take i).foldl better none).isSome]
  hf : Vals C 47 bb (.var 1) [.func (.func 17) ⟨[]⟩ ⟨[]⟩]
set_option maxHeartbeats 8000000 in
theorem cons_best {xb ib bb : Nat} {B0 : Mem} {t0 : T Value} {rs : List Row} (hxb : xb < B0.next) (hib : ib < B0.next) (hbb : bb < B0.next) (hne : xb ≠ ib ∧ xb ≠ bb ∧ ib ≠ bb) (h3 : t0.get 3 = some (.pointer (some ⟨bb, 0, none⟩))) (h4 : t0.get 4 = some (.pointer (some ⟨xb, 0, none⟩))) (h5 : t0.get 5 = some (.pointer (some ⟨ib, 0, none⟩))) :
    Cons (fun y => y = xb ∨ y = ib) (B0.next + 2) (B0.next + 1) (BestI B0 xb ib bb t0 rs) rs where
  lt i b C h := by have := h.hb; have := h.hn; omega
  ext i b C C' h hn hg := by
    have hnn := h.hn
    exact {
      hd := by rw [hg _ (.inl (by omega))]; exact h.hd
      hl := by rw [hg _ (.inl (by omega))]; exact h.hl
      hn := by omega
      hb := h.hb
      hx := h.hx.same (hg _ (.inl (by omega)))
      hi := h.hi.same (hg _ (.inl (by omega)))
      hf := h.hf.same (hg _ (.inl (by omega))) }
  step i r b C hr h := by
    have hCn := h.hn
    have hbx := h.hb
    obtain ⟨C', hcall, hI, hn', hfr⟩ : ∃ C', (∃ g, ∀ M, g ≤ M → callF tb1 (exec tb1 M) (.round (B0.next + 1) [rowV r]) C = .ok (.val (.bool true) C')) ∧ BestI B0 xb ib bb t0 rs (i + 1) b C' ∧ C.next ≤ C'.next ∧ ∀ y, y < C.next → ¬ (y = xb ∨ y = ib) → C'.get y = C.get y := by
      refine round_of_W h.hl (t := t0.set 8 (rowV r)) rfl ?_
      show W tb1 (sub c15 [1,0,1,0,0]) ⟨t0.set 8 (rowV r), 21, [], C, some (B0.next + 1)⟩ _
      have hE1 : Ext C (C.alloc (rowOb 44 [.int .i64 0, .int .i64 0, .int .i64 0])) := Ext.alloc C _
      have hv0 : Vals (C.alloc (rowOb 44 [.int .i64 0, .int .i64 0, .int .i64 0])) 44 C.next (.var 3) [.int .i64 0, .int .i64 0, .int .i64 0] := Go.Am.vals_new C 44 _
      obtain ⟨D, hst, hvD, hnD, hfD⟩ := store_all (tb := tb1) (t := 44) (l' := rowC r) (by rw [size44]; rfl) hv0 rfl (by simp) (rowC_one r)
      have hCD : Ext C D := hE1.put (b := C.next) (Nat.le_refl _) hnD hfD
      have hnD1 : D.next = C.next + 1 := by rw [hnD, next_alloc]
      have hst' : storeF tb1 (C.alloc (rowOb 44 [.int .i64 0, .int .i64 0, .int .i64 0])) 44 (.pointer (some ⟨C.next, 0, none⟩)) (rowV r) = .ok D := hst
      apply W.run 20
      · intro M
        simp (config := { maxSteps := 4000000 }) (disch := first | decide +kernel | (rw [wantF_guard]; simp only [wantD_some, dstAt_zero, dstAt_succ, T.get_set, T.get_e, Nat.reduceEqDiff, if_true, if_false, wantV_bool, wantV_unit, unitV, cond_true, cond_false, Bool.not_true, Bool.not_false, List.toList_toArray]) | omega) only [c15, Try.f15, Option.getD_some, sub_seq1, sub_seq0, sub_block, sub_range0, sub_nil, exec_region, runOps_cons, opF_alloc, zero44, at_ptr, putT_some, opF_store, ev_tmp, T.get_set, Nat.reduceEqDiff, if_false, if_true, evG_some, putT_none, runOps_nil, R.ok_bind, cells_agg, hst']
        with_reducible rfl
      refine ⟨rfl, _, by show D.get _ = _; rw [hCD.g _ (by omega)]; exact h.hl, rfl, ?_⟩
      show W tb1 (sub c15 [1,0,1,0,1]) ⟨_, 21, [], D.set (B0.next + 1) (.loop { (bestLp t0 B0.next) with state := .busy }), some (B0.next + 1)⟩ _
      have hn0 : (D.set (B0.next + 1) (.loop { (bestLp t0 B0.next) with state := .busy })).next = D.next := next_set _ _ _
      have hg0 : ∀ y, y ≠ B0.next + 1 → (D.set (B0.next + 1) (.loop { (bestLp t0 B0.next) with state := .busy })).get y = D.get y := fun y hy => by rw [get_setMem, if_neg hy]
      have hl0 : (D.set (B0.next + 1) (.loop { (bestLp t0 B0.next) with state := .busy })).get (B0.next + 1) = some (.loop { (bestLp t0 B0.next) with state := .busy }) := by rw [get_setMem, if_pos rfl]
      revert hn0 hg0 hl0
      generalize D.set (B0.next + 1) (.loop { (bestLp t0 B0.next) with state := .busy }) = E
      intro hn0 hg0 hl0
      have hfold : (rs.take (i + 1)).foldl better none = better ((rs.take i).foldl better none) r := by
        have hi : i < rs.length := (List.getElem?_eq_some_iff.1 hr).1
        have e : rs[i] = r := (List.getElem?_eq_some_iff.1 hr).2
        rw [List.take_succ_eq_append_getElem hi, List.foldl_append, e]; rfl
      have hxE : Vals E 44 xb (.var 3) (rowO ((rs.take i).foldl better none)) := h.hx.same (by rw [hg0 _ (by omega), hCD.g _ (by omega)])
      have hiE : Vals E 4 ib (.var 1) [.bool ((rs.take i).foldl better none).isSome] := h.hi.same (by rw [hg0 _ (by omega), hCD.g _ (by omega)])
      have hfE : Vals E 47 bb (.var 1) [.func (.func 17) ⟨[]⟩ ⟨[]⟩] := h.hf.same (by rw [hg0 _ (by omega), hCD.g _ (by omega)])
      have hvE : Vals E 44 C.next (.var 3) (rowC r) := hvD.same (hg0 _ (by omega))
      obtain ⟨d44, hd1, hd2⟩ := und44
      obtain ⟨d47, hk1, hk2⟩ := und47
      have ly : loadF tb1 E.get 44 (.pointer (some ⟨C.next, 0, none⟩)) = .ok (rowV r) := Go.Am.load_all (tb := tb1) (t := 44) hd1 hd2 (by rw [size44]; rfl) hvE
      have fin : ∀ (G : Mem), G.get (B0.next + 1) = some (.loop { (bestLp t0 B0.next) with state := .busy }) → E.next ≤ G.next → (∀ y, y < E.next → ¬ (y = xb ∨ y = ib) → G.get y = E.get y) → Vals G 44 xb (.var 3) (rowO ((rs.take (i + 1)).foldl better none)) → Vals G 4 ib (.var 1) [.bool ((rs.take (i + 1)).foldl better none).isSome] →
          BestI B0 xb ib bb t0 rs (i + 1) b (G.set (B0.next + 1) (.loop (bestLp t0 B0.next))) ∧ C.next ≤ (G.set (B0.next + 1) (.loop (bestLp t0 B0.next))).next ∧ ∀ y, y < C.next → ¬ (y = xb ∨ y = ib) → (G.set (B0.next + 1) (.loop (bestLp t0 B0.next))).get y = C.get y := by
        intro G hlG hnG hfG hxG hiG
        have hset : ∀ y, y ≠ B0.next + 1 → (G.set (B0.next + 1) (.loop (bestLp t0 B0.next))).get y = G.get y := fun y hy => by rw [get_setMem, if_neg hy]
        have hsn : (G.set (B0.next + 1) (.loop (bestLp t0 B0.next))).next = G.next := next_set _ _ _
        have old : ∀ y, y < C.next → y ≠ B0.next + 1 → ¬ (y = xb ∨ y = ib) → (G.set (B0.next + 1) (.loop (bestLp t0 B0.next))).get y = C.get y := fun y hy hyl hys => by
          rw [hset _ hyl, hfG y (by omega) hys, hg0 y hyl, hCD.g y hy]
        refine ⟨{
          hd := by rw [old _ (by omega) (by omega) (by omega)]; exact h.hd
          hl := by rw [get_setMem, if_pos rfl]
          hn := by omega
          hb := hbx
          hx := hxG.same (hset _ (by omega))
          hi := hiG.same (hset _ (by omega))
          hf := h.hf.same (old _ (by omega) (by omega) (by omega)) }, by omega, fun y hy hys => ?_⟩
        by_cases hyl : y = B0.next + 1
        · subst hyl
          rw [get_setMem, if_pos rfl]; exact h.hl.symm
        · exact old y hy hyl hys
      have put : ∀ (F : Mem), E.next ≤ F.next → (∀ y, y < E.next → F.get y = E.get y) → ∃ G H, storeF tb1 F 44 (.pointer (some ⟨xb, 0, none⟩)) (rowV r) = .ok G ∧ storeF tb1 G 4 (.pointer (some ⟨ib, 0, none⟩)) (.bool true) = .ok H ∧ H.get (B0.next + 1) = some (.loop { (bestLp t0 B0.next) with state := .busy }) ∧ E.next ≤ H.next ∧ (∀ y, y < E.next → ¬ (y = xb ∨ y = ib) → H.get y = E.get y) ∧ Vals H 44 xb (.var 3) (rowC r) ∧ Vals H 4 ib (.var 1) [.bool true] := by
        intro F hnF hfF
        obtain ⟨G, s1, w1, m1, q1⟩ := store_all (tb := tb1) (t := 44) (l' := rowC r) (by rw [size44, rowO_len]) (hxE.same (hfF _ (by omega))) (by rw [rowO_len]; rfl) (by intro hh; have := rowO_len ((rs.take i).foldl better none); rw [hh] at this; cases this) (rowC_one r)
        obtain ⟨H, s2, w2, m2, q2⟩ := store_vals (tb := tb1) (t := 4) (o := 0) (v := .bool true) size4 ((hiE.same (hfF _ (by omega))).same (q1 _ (by omega))) (by simp) rfl rfl
        refine ⟨G, H, s1, s2, ?_, by omega, fun y hy hys => ?_, w1.same (q2 _ (by omega)), w2⟩
        · rw [q2 _ (by omega), q1 _ (by omega), hfF _ (by omega)]; exact hl0
        · rw [q2 _ (by omega), q1 _ (by omega), hfF _ hy]
      have li : loadF tb1 E.get 4 (.pointer (some ⟨ib, 0, none⟩)) = .ok (.bool ((rs.take i).foldl better none).isSome) := load_vals und4 rfl hiE rfl
      have lx : loadF tb1 E.get 44 (.pointer (some ⟨xb, 0, none⟩)) = .ok (.agg ⟨rowO ((rs.take i).foldl better none)⟩) := Go.Am.load_all (tb := tb1) (t := 44) hd1 hd2 (by rw [size44, rowO_len]) hxE
      have lb : loadF tb1 E.get 47 (.pointer (some ⟨bb, 0, none⟩)) = .ok (.func (.func 17) ⟨[]⟩ ⟨[]⟩) := load_vals hk1 hk2 hfE rfl
      rw [hfold] at fin
      rw [c15b_eq]
      apply W.block
      apply W.seq
      cases ho : (rs.take i).foldl better none with
      | none =>
        rw [ho] at li fin
        obtain ⟨G, H, s1, s2, p1, p2, p3, p4, p5⟩ := put E (Nat.le_refl _) (fun _ _ => rfl)
        have li' : loadF tb1 E.get 4 (.pointer (some ⟨ib, 0, none⟩)) = .ok (.bool false) := li
        apply W.run 20
        · intro M
          simp (config := { maxSteps := 4000000 }) (disch := first | decide +kernel | (rw [wantF_guard]; simp only [wantD_some, dstAt_zero, dstAt_succ, T.get_set, T.get_e, Nat.reduceEqDiff, if_true, if_false, wantV_bool, wantV_unit, unitV, cond_true, cond_false, Bool.not_true, Bool.not_false, List.toList_toArray]) | omega) only [c15, Try.f15, Option.getD_some, sub_seq1, sub_seq0, sub_block, sub_range1, sub_nil, exec_region, runOps_cons, opF_load, ev_tmp, T.get_set, Nat.reduceEqDiff, h5, if_false, evG_some, putT_some, opF_un, if_true, opF_move, R.ok_bind, li', un_not, Bool.not_false, runOps_no, opF_pick, pickF, ev_bool, runOps_nil]
          with_reducible rfl
        show W tb1 _ _ _
        apply W.run 20
        · intro M
          simp (config := { maxSteps := 4000000 }) (disch := first | decide +kernel | (rw [wantF_guard]; simp only [wantD_some, dstAt_zero, dstAt_succ, T.get_set, T.get_e, Nat.reduceEqDiff, if_true, if_false, wantV_bool, wantV_unit, unitV, cond_true, cond_false, Bool.not_true, Bool.not_false, List.toList_toArray]) | omega) only [c15, Try.f15, Option.getD_some, sub_seq1, sub_seq0, sub_block, sub_range1, sub_nil, exec_cond, ev_tmp, T.get_set, Nat.reduceEqDiff, if_false, if_true, evG_some, exec_region, runOps_cons, opF_load, putT_some, opF_store, h4, putT_none, h5, ev_bool, runOps_nil, R.ok_bind, ly, s1, s2, exec_skip]
          with_reducible rfl
        obtain ⟨k1, k2, k3⟩ := fin H p1 p2 p3 p4 p5
        exact ⟨rfl, rfl, _, p1, k1, k2, k3⟩
      | some s =>
        rw [ho] at li lx fin
        have li' : loadF tb1 E.get 4 (.pointer (some ⟨ib, 0, none⟩)) = .ok (.bool true) := li
        have lx' : loadF tb1 E.get 44 (.pointer (some ⟨xb, 0, none⟩)) = .ok (rowV s) := lx
        obtain ⟨F, ⟨gb, hgb⟩, hEF⟩ := run_better (A := E) s r
        by_cases hlt : s.t < r.t
        · have e : better (some s) r = some s := by unfold better; simp only [hlt, if_true]
          rw [e] at fin
          rw [decide_eq_true hlt] at hgb
          apply W.runG (gb) 20
          · intro M hM
            simp (config := { maxSteps := 4000000 }) (disch := first | decide +kernel | (rw [wantF_guard]; simp only [wantD_some, dstAt_zero, dstAt_succ, T.get_set, T.get_e, Nat.reduceEqDiff, if_true, if_false, wantV_bool, wantV_unit, unitV, cond_true, cond_false, Bool.not_true, Bool.not_false, List.toList_toArray]) | omega) only [c15, Try.f15, Option.getD_some, sub_seq1, sub_seq0, sub_block, sub_range1, sub_nil, exec_region, runOps_cons, opF_load, ev_tmp, T.get_set, Nat.reduceEqDiff, h5, if_false, evG_some, putT_some, opF_un, if_true, opF_move, R.ok_bind, li', un_not, Bool.not_true, runOps_yes, h3, h4, opF_callv, evs, resK, opF_pick, pickF, ev_bool, runOps_nil, ly, lx', lb, callV_func, List.nil_append, List.append_nil, hgb]
            with_reducible rfl
          show W tb1 _ _ _
          apply W.run 20
          · intro M
            simp (config := { maxSteps := 4000000 }) (disch := first | decide +kernel | (rw [wantF_guard]; simp only [wantD_some, dstAt_zero, dstAt_succ, T.get_set, T.get_e, Nat.reduceEqDiff, if_true, if_false, wantV_bool, wantV_unit, unitV, cond_true, cond_false, Bool.not_true, Bool.not_false, List.toList_toArray]) | omega) only [c15, Try.f15, Option.getD_some, sub_seq1, sub_seq0, sub_block, sub_range1, sub_nil, exec_cond, ev_tmp, T.get_set, Nat.reduceEqDiff, if_false, if_true, evG_some, exec_region, runOps_cons, opF_load, putT_some, opF_store, putT_none, ev_bool, runOps_nil, R.ok_bind, exec_skip]
            with_reducible rfl
          have hlF : F.get (B0.next + 1) = some (.loop { (bestLp t0 B0.next) with state := .busy }) := by rw [hEF.g _ (by omega)]; exact hl0
          rw [ho] at hxE hiE
          obtain ⟨k1, k2, k3⟩ := fin F hlF hEF.n (fun y hy _ => hEF.g y hy) (hxE.same (hEF.g _ (by omega))) (hiE.same (hEF.g _ (by omega)))
          exact ⟨rfl, rfl, _, hlF, k1, k2, k3⟩
        · have e : better (some s) r = some r := by unfold better; simp only [hlt, if_false]
          rw [e] at fin
          rw [decide_eq_false hlt] at hgb
          obtain ⟨G, H, s1, s2, p1, p2, p3, p4, p5⟩ := put F hEF.n hEF.g
          obtain ⟨q1, q2⟩ : loadF tb1 F.get 44 (.pointer (some ⟨C.next, 0, none⟩)) = .ok (rowV r) ∧ True := ⟨Go.Am.load_all (tb := tb1) (t := 44) hd1 hd2 (by rw [size44]; rfl) (hvE.same (hEF.g _ (by omega))), trivial⟩
          apply W.runG (gb) 20
          · intro M hM
            simp (config := { maxSteps := 4000000 }) (disch := first | decide +kernel | (rw [wantF_guard]; simp only [wantD_some, dstAt_zero, dstAt_succ, T.get_set, T.get_e, Nat.reduceEqDiff, if_true, if_false, wantV_bool, wantV_unit, unitV, cond_true, cond_false, Bool.not_true, Bool.not_false, List.toList_toArray]) | omega) only [c15, Try.f15, Option.getD_some, sub_seq1, sub_seq0, sub_block, sub_range1, sub_nil, exec_region, runOps_cons, opF_load, ev_tmp, T.get_set, Nat.reduceEqDiff, h5, if_false, evG_some, putT_some, opF_un, if_true, opF_move, R.ok_bind, li', un_not, Bool.not_true, runOps_yes, h3, h4, opF_callv, evs, resK, opF_pick, pickF, ev_bool, runOps_nil, ly, lx', lb, callV_func, List.nil_append, List.append_nil, hgb, Bool.not_false]
            with_reducible rfl
          show W tb1 _ _ _
          apply W.run 20
          · intro M
            simp (config := { maxSteps := 4000000 }) (disch := first | decide +kernel | (rw [wantF_guard]; simp only [wantD_some, dstAt_zero, dstAt_succ, T.get_set, T.get_e, Nat.reduceEqDiff, if_true, if_false, wantV_bool, wantV_unit, unitV, cond_true, cond_false, Bool.not_true, Bool.not_false, List.toList_toArray]) | omega) only [c15, Try.f15, Option.getD_some, sub_seq1, sub_seq0, sub_block, sub_range1, sub_nil, exec_cond, ev_tmp, T.get_set, Nat.reduceEqDiff, if_false, if_true, evG_some, exec_region, runOps_cons, opF_load, putT_some, opF_store, h4, putT_none, h5, ev_bool, runOps_nil, R.ok_bind, q1, s1, s2, exec_skip]
            with_reducible rfl
          obtain ⟨k1, k2, k3⟩ := fin H p1 p2 p3 p4 p5
          exact ⟨rfl, rfl, _, p1, k1, k2, k3⟩
    exact ⟨b, C', hcall, hI, hn', .inl rfl, fun y hy hys _ => hfr y hy hys⟩
end Go.Proofs.Ytgkolgfkcelljaa.pck

/-
  Pick: Pick, whole.
-/
namespace Go.Proofs.Ytgkolgfkcelljaa.pck
open Go.Am Go.Pick
set_option linter.unusedSimpArgs false
set_option linter.unusedVariables false
set_option linter.unusedVariables false
set_option maxRecDepth 20000

theorem zero4 : zeroF tb1 4 = .ok (.bool false) := by kernel_rfl
theorem cells_bool (b : Bool) : (Value.bool b).cells.toList = [.bool b] := rfl
theorem ev_fn (t : T Value) (f : FuncId) : ev t (.func f) = .ok (.func (.func f) ⟨[]⟩ ⟨[]⟩) := rfl
set_option maxHeartbeats 8000000 in
/-- The best full row. -/
theorem run_best {A : Mem} {f eb fb bo : Nat} {l : List Nat} {x : Value} (h2 : 2 ≤ f) (hf40 : f < 1000) (hl : l.length ≤ 1000) (hb : ∀ n ∈ l, n < 4611686018427387904) (hx : Rw A bo l x) (hbo : bo < A.next) (he : Vals A 24 eb (.var 1) [x]) (heb : eb < A.next) (hf : Vals A 3 fb (.var 1) [.int .i64 (f : Int)]) (hfb : fb < A.next) :
    ∃ A', Ans tb1 15 [.func (.func 22) ⟨[]⟩ ⟨[.pointer (some ⟨fb, 0, none⟩), .pointer (some ⟨eb, 0, none⟩)]⟩, .func (.func 17) ⟨[]⟩ ⟨[]⟩] A (.tuple ⟨[.agg ⟨rowO (pickO f l)⟩, .bool (pickO f l).isSome]⟩) A' ∧ Ext A A' := by
  obtain ⟨v, A', ha, rfl, hE⟩ : ∃ v A', Ans tb1 15 [.func (.func 22) ⟨[]⟩ ⟨[.pointer (some ⟨fb, 0, none⟩), .pointer (some ⟨eb, 0, none⟩)]⟩, .func (.func 17) ⟨[]⟩ ⟨[]⟩] A v A' ∧ v = .tuple ⟨[.agg ⟨rowO (pickO f l)⟩, .bool (pickO f l).isSome]⟩ ∧ Ext A A' := by
    refine ans_of_W (fn_at Try.func15) c15_eq (by rw [Try.ntmps15]; simp) (by kernel_rfl) (by kernel_rfl) ?_
    have n1 : (A.alloc (rowOb 47 [.func (.func 17) ⟨[]⟩ ⟨[]⟩])).next = A.next + 1 := next_alloc _ _
    have n2 : ((A.alloc (rowOb 47 [.func (.func 17) ⟨[]⟩ ⟨[]⟩])).alloc (rowOb 44 [.int .i64 0, .int .i64 0, .int .i64 0])).next = A.next + 2 := by rw [next_alloc, n1]
    have n3 : (((A.alloc (rowOb 47 [.func (.func 17) ⟨[]⟩ ⟨[]⟩])).alloc (rowOb 44 [.int .i64 0, .int .i64 0, .int .i64 0])).alloc (rowOb 4 [.bool false])).next = A.next + 3 := by rw [next_alloc, n2]
    have v1 : Vals (((A.alloc (rowOb 47 [.func (.func 17) ⟨[]⟩ ⟨[]⟩])).alloc (rowOb 44 [.int .i64 0, .int .i64 0, .int .i64 0])).alloc (rowOb 4 [.bool false])) 47 A.next (.var 1) [.func (.func 17) ⟨[]⟩ ⟨[]⟩] := (Go.Am.vals_new A 47 _).same (((Ext.alloc _ _).trans (Ext.alloc _ _)).g _ (by omega))
    have v2 : Vals (((A.alloc (rowOb 47 [.func (.func 17) ⟨[]⟩ ⟨[]⟩])).alloc (rowOb 44 [.int .i64 0, .int .i64 0, .int .i64 0])).alloc (rowOb 4 [.bool false])) 44 (A.next + 1) (.var 3) (rowO none) := by
      have := Go.Am.vals_new (A.alloc (rowOb 47 [.func (.func 17) ⟨[]⟩ ⟨[]⟩])) 44 [.int .i64 0, .int .i64 0, .int .i64 0]
      rw [n1] at this
      exact this.same (get_alloc_ne (by omega))
    have v3 : Vals (((A.alloc (rowOb 47 [.func (.func 17) ⟨[]⟩ ⟨[]⟩])).alloc (rowOb 44 [.int .i64 0, .int .i64 0, .int .i64 0])).alloc (rowOb 4 [.bool false])) 4 (A.next + 2) (.var 1) [.bool false] := by
      have := Go.Am.vals_new ((A.alloc (rowOb 47 [.func (.func 17) ⟨[]⟩ ⟨[]⟩])).alloc (rowOb 44 [.int .i64 0, .int .i64 0, .int .i64 0])) 4 [.bool false]
      rw [n2] at this; exact this
    have E1 : Ext A (((A.alloc (rowOb 47 [.func (.func 17) ⟨[]⟩ ⟨[]⟩])).alloc (rowOb 44 [.int .i64 0, .int .i64 0, .int .i64 0])).alloc (rowOb 4 [.bool false])) := ((Ext.alloc _ _).trans (Ext.alloc _ _)).trans (Ext.alloc _ _)
    apply W.seq
    apply W.run 20
    · intro M
      simp (config := { maxSteps := 4000000 }) (disch := first | decide +kernel | (rw [wantF_guard]; simp only [wantD_some, dstAt_zero, dstAt_succ, T.get_set, T.get_e, Nat.reduceEqDiff, if_true, if_false, wantV_bool, wantV_unit, unitV, cond_true, cond_false, Bool.not_true, Bool.not_false, List.toList_toArray]) | omega) only [c15, Try.f15, Option.getD_some, sub_seq0, sub_nil, T.puts_cons, Nat.reduceAdd, T.puts_nil, exec_region, runOps_cons, opF_box, ev_tmp, T.get_set, Nat.reduceEqDiff, T.get_e, if_false, if_true, evG_some, at_ptr, putT_some, opF_alloc, zero44, next_alloc, zero4, runOps_nil, R.ok_bind, cells_bool, cells_agg, cells_func]
      with_reducible rfl
    revert n3 v1 v2 v3 E1
    generalize ((A.alloc (rowOb 47 [.func (.func 17) ⟨[]⟩ ⟨[]⟩])).alloc (rowOb 44 [.int .i64 0, .int .i64 0, .int .i64 0])).alloc (rowOb 4 [.bool false]) = B0
    intro n3 v1 v2 v3 E1
    apply W.seq
    apply W.seq
    apply W.run 20
    · intro M
      simp (config := { maxSteps := 4000000 }) (disch := first | decide +kernel | (rw [wantF_guard]; simp only [wantD_some, dstAt_zero, dstAt_succ, T.get_set, T.get_e, Nat.reduceEqDiff, if_true, if_false, wantV_bool, wantV_unit, unitV, cond_true, cond_false, Bool.not_true, Bool.not_false, List.toList_toArray]) | omega) only [c15, Try.f15, Option.getD_some, sub_seq1, sub_seq0, sub_nil, exec_region, runOps_cons, opF_move, ev_tmp, T.get_set, Nat.reduceEqDiff, T.get_e, if_true, if_false, evG_some, putT_some, runOps_nil, R.ok_bind]
      with_reducible rfl
    show W tb1 _ _ _
    rw [c15r_eq]
    apply W.block
    generalize htt : (T.set _ 7 _ : T Value) = tt
    have t3 : tt.get 3 = some (.pointer (some ⟨A.next, 0, none⟩)) := by rw [← htt]; simp only [T.get_set, Nat.reduceEqDiff, if_true, if_false]
    have t4 : tt.get 4 = some (.pointer (some ⟨A.next + 1, 0, none⟩)) := by rw [← htt]; simp only [T.get_set, Nat.reduceEqDiff, if_true, if_false]
    have t5 : tt.get 5 = some (.pointer (some ⟨A.next + 2, 0, none⟩)) := by rw [← htt]; simp only [T.get_set, Nat.reduceEqDiff, if_true, if_false]
    have t7 : tt.get 7 = some (.func (.func 22) ⟨[]⟩ ⟨[.pointer (some ⟨fb, 0, none⟩), .pointer (some ⟨eb, 0, none⟩)]⟩) := by rw [← htt]; simp only [T.get_set, if_true]
    have hL1 : (B0.alloc .defd).next = B0.next + 1 := next_alloc _ _
    have hL2 : ((B0.alloc .defd).alloc (.loop (bestLp tt B0.next))).next = B0.next + 2 := by rw [next_alloc, hL1]
    have hEL : Ext B0 ((B0.alloc .defd).alloc (.loop (bestLp tt B0.next))) := (Ext.alloc B0 _).trans (Ext.alloc _ _)
    have hE3 := E1.trans hEL
    have hcons := cons_best (B0 := B0) (t0 := tt) (xb := A.next + 1) (ib := A.next + 2) (bb := A.next) (rs := (rows f l).filter (fullR f)) (by omega) (by omega) (by omega) ⟨by omega, by omega, by omega⟩ t3 t4 t5
    have hI0 : BestI B0 (A.next + 1) (A.next + 2) A.next tt ((rows f l).filter (fullR f)) 0 (A.next + 1) ((B0.alloc .defd).alloc (.loop (bestLp tt B0.next))) := {
      hd := by rw [get_alloc_ne (by omega), get_alloc_self]
      hl := by rw [← hL1, get_alloc_self]
      hn := by omega
      hb := rfl
      hx := v2.same (hEL.g _ (by omega))
      hi := v3.same (hEL.g _ (by omega))
      hf := v1.same (hEL.g _ (by omega)) }
    obtain ⟨v, C, hcl, b', hIC, hnC, hbC, hfC⟩ := run_full1 (eb := eb) (fb := fb) (bo := bo) h2 hf40 hl hb (by omega) hcons hI0 (hx.same hE3.n (fun h => hE3.g _ h)) (he.same (hE3.g _ heb)) (hf.same (hE3.g _ hfb)) ⟨by omega, by omega, by omega⟩ ⟨by omega, by omega, by omega⟩ ⟨by omega, by omega, by omega⟩ (fun y hy => by omega)
    have hfv : ev tt (.tmp 7) = .ok (.func (.func 22) ⟨[]⟩ ⟨[.pointer (some ⟨fb, 0, none⟩), .pointer (some ⟨eb, 0, none⟩)]⟩) := by rw [ev_tmp, t7]; rfl
    refine W.rangeF hfv hcl hIC.hl (by intro h; cases h) rfl ?_
    show W tb1 _ _ _
    have hCn := hIC.hn
    have cx := hIC.hx
    have ci := hIC.hi
    have chd := hIC.hd
    rw [List.take_length] at cx ci
    have hpk : ((rows f l).filter (fullR f)).foldl better none = pickO f l := rfl
    rw [hpk] at cx ci
    show W tb1 _ ⟨_, _, _, C.set (B0.next + 1) (.loop { (bestLp tt B0.next) with state := .exhausted }), _⟩ _
    have hg : ∀ y, y ≠ B0.next + 1 → (C.set (B0.next + 1) (.loop { (bestLp tt B0.next) with state := .exhausted })).get y = C.get y := fun y hy => by rw [get_setMem, if_neg hy]
    have hgn : (C.set (B0.next + 1) (.loop { (bestLp tt B0.next) with state := .exhausted })).next = C.next := next_set _ _ _
    revert hg hgn
    generalize C.set (B0.next + 1) (.loop { (bestLp tt B0.next) with state := .exhausted }) = D
    intro hg hgn
    have dx : Vals D 44 (A.next + 1) (.var 3) (rowO (pickO f l)) := cx.same (hg _ (by omega))
    have di : Vals D 4 (A.next + 2) (.var 1) [.bool (pickO f l).isSome] := ci.same (hg _ (by omega))
    have dd : D.get B0.next = some .defd := by rw [hg _ (by omega)]; exact chd
    have old : ∀ y, y < A.next → D.get y = A.get y := fun y hy => by rw [hg _ (by omega), hfC y (by omega) (by omega) (by omega), hE3.g y hy]
    obtain ⟨d44, hd1, hd2⟩ := und44
    have lx : loadF tb1 D.get 44 (.pointer (some ⟨A.next + 1, 0, none⟩)) = .ok (.agg ⟨rowO (pickO f l)⟩) := Go.Am.load_all (tb := tb1) (t := 44) hd1 hd2 (by rw [size44, rowO_len]) dx
    have li : loadF tb1 D.get 4 (.pointer (some ⟨A.next + 2, 0, none⟩)) = .ok (.bool (pickO f l).isSome) := load_vals und4 rfl di rfl
    obtain ⟨G, s1, w1, m1, q1⟩ := store_all (tb := tb1) (t := 44) (l' := rowO (pickO f l)) (by rw [size44, rowO_len]) dx rfl (by intro hh; have := rowO_len (pickO f l); rw [hh] at this; cases this) (rowO_one _)
    have li2 : loadF tb1 G.get 4 (.pointer (some ⟨A.next + 2, 0, none⟩)) = .ok (.bool (pickO f l).isSome) := load_vals und4 rfl (di.same (q1 _ (by omega))) rfl
    obtain ⟨H, s2, w2, m2, q2⟩ := store_vals (tb := tb1) (t := 4) (o := 0) (v := .bool (pickO f l).isSome) size4 (di.same (q1 _ (by omega))) (by simp) rfl rfl
    have hsv : sameV 100 (.bool (pickO f l).isSome) (.bool (pickO f l).isSome) = true := by cases (pickO f l).isSome <;> rfl
    apply W.seq
    apply W.run 20
    · intro M
      simp (config := { maxSteps := 4000000 }) (disch := first | decide +kernel | (rw [wantF_guard]; simp only [wantD_some, dstAt_zero, dstAt_succ, T.get_set, T.get_e, Nat.reduceEqDiff, if_true, if_false, wantV_bool, wantV_unit, unitV, cond_true, cond_false, Bool.not_true, Bool.not_false, List.toList_toArray]) | omega) only [c15, Try.f15, Option.getD_some, sub_seq1, sub_seq0, sub_nil, exec_float [(1, 2)], runD_Rd, rOp_load, ev_tmp, t4, evG_some, R.ok_bind, lx, selF_nil, rereadM_nil, Nat.reduceAdd, putT_some, T.get_set, Nat.reduceEqDiff, t5, if_false, li, runD_L, List.map_nil, hide_nil, backF_nil, selR_yes, selR_no, selR_nil, rereadR_cons, reread_load, rereadR_nil, Bool.and_true, runD_end, cond_true, opF_store, putT_none, if_true, s1, li2, rereadV_eq, hsv, s2]
      with_reducible rfl
    apply W.run 20
    · intro M
      simp (config := { maxSteps := 4000000 }) (disch := first | decide +kernel | (rw [wantF_guard]; simp only [wantD_some, dstAt_zero, dstAt_succ, T.get_set, T.get_e, Nat.reduceEqDiff, if_true, if_false, wantV_bool, wantV_unit, unitV, cond_true, cond_false, Bool.not_true, Bool.not_false, List.toList_toArray]) | omega) only [c15, Try.f15, Option.getD_some, sub_seq1, sub_nil, exec_ret]
      with_reducible rfl
    have hgs : ∀ y, y ≠ B0.next → (H.set B0.next .dead).get y = H.get y := fun y h1 => by rw [get_setMem, if_neg h1]
    have hgsn : (H.set B0.next .dead).next = H.next := next_set _ _ _
    have r1 : loadF tb1 (H.set B0.next .dead).get 44 (.pointer (some ⟨A.next + 1, 0, none⟩)) = .ok (.agg ⟨rowO (pickO f l)⟩) := Go.Am.load_all (tb := tb1) (t := 44) hd1 hd2 (by rw [size44, rowO_len]) ((w1.same (q2 _ (by omega))).same (hgs _ (by omega)))
    have r2 : loadF tb1 (H.set B0.next .dead).get 4 (.pointer (some ⟨A.next + 2, 0, none⟩)) = .ok (.bool (pickO f l).isSome) := load_vals und4 rfl (w2.same (hgs _ (by omega))) rfl
    refine ⟨.inr rfl, H.set B0.next .dead, [.agg ⟨rowO (pickO f l)⟩, .bool (pickO f l).isSome], ?_, ?_, rfl, ⟨by omega, fun y hy => ?_⟩⟩
    · show takeF [B0.next] H = _
      unfold takeF
      rw [q2 _ (by omega), q1 _ (by omega), dd]
      rfl
    · simp only [Try.f15, resF, ev_tmp, T.get_set, Nat.reduceEqDiff, if_true, if_false, evG_some, R.ok_bind, t4, t5, r1, r2]
    · rw [hgs _ (by omega), q2 _ (by omega), q1 _ (by omega), old y hy]
  exact ⟨A', ha, hE⟩

/-- What Pick answers. -/
def pickV : Option Row → List Value
  | none => [.int .i64 ((0 : Nat) : Int), .int .i64 ((0 : Nat) : Int), .int .i64 ((9 : Nat) : Int)]
  | some r => [.int .i64 (r.a : Int), .int .i64 (r.b : Int), .int .i64 ((0 : Nat) : Int)]
noncomputable def c10 : Code := Try.f10.body.getD .skip
theorem c10_eq : Try.f10.body = some (.seq (sub c10 [0]) (.seq (.seq (sub c10 [1,0,0]) (sub c10 [1,0,1])) (.seq (sub c10 [1,1,0]) (.seq (.seq (sub c10 [1,1,1,0,0]) (sub c10 [1,1,1,0,1])) (.seq (sub c10 [1,1,1,1,0]) (sub c10 [1,1,1,1,1])))))) := by kernel_rfl
set_option maxHeartbeats 8000000 in
theorem run_pickR {A : Mem} {f bo : Nat} {l : List Nat} {x : Value} (h2 : 2 ≤ f) (hf40 : f < 1000) (hl : l.length ≤ 1000) (hb : ∀ n ∈ l, n < 4611686018427387904) (hx : Rw A bo l x) (hbo : bo < A.next) :
    ∃ A', Ans tb1 10 [.int .i64 (f : Int), x] A (.tuple ⟨pickV (pickO f l)⟩) A' ∧ Ext A A' := by
  obtain ⟨v, A', ha, rfl, hE⟩ : ∃ v A', Ans tb1 10 [.int .i64 (f : Int), x] A v A' ∧ v = .tuple ⟨pickV (pickO f l)⟩ ∧ Ext A A' := by
    refine ans_of_W (fn_at Try.func10) c10_eq (by rw [Try.ntmps10]; simp) (by kernel_rfl) (by kernel_rfl) ?_
    have n2 : ¬ f < 2 := by omega
    have hxc : x.cells.toList = [x] := hx.cells
    obtain ⟨gr, hgr⟩ := run_fullF (A := A) (f := f) hxc
    have m2 : (A.alloc (rowOb 3 [.int .i64 (f : Int)])).next = A.next + 1 := next_alloc _ _
    have m3 : ((A.alloc (rowOb 3 [.int .i64 (f : Int)])).alloc (rowOb 24 [x])).next = A.next + 2 := by rw [next_alloc, m2]
    have v2 : Vals ((A.alloc (rowOb 3 [.int .i64 (f : Int)])).alloc (rowOb 24 [x])) 3 A.next (.var 1) [.int .i64 (f : Int)] := (Go.Am.vals_new A 3 _).same (get_alloc_ne (by omega))
    have v3 : Vals ((A.alloc (rowOb 3 [.int .i64 (f : Int)])).alloc (rowOb 24 [x])) 24 (A.next + 1) (.var 1) [x] := by
      have := Go.Am.vals_new (A.alloc (rowOb 3 [.int .i64 (f : Int)])) 24 [x]
      rw [m2] at this; exact this
    have E2 : Ext A ((A.alloc (rowOb 3 [.int .i64 (f : Int)])).alloc (rowOb 24 [x])) := (Ext.alloc _ _).trans (Ext.alloc _ _)
    revert hgr m3 v2 v3 E2
    generalize (A.alloc (rowOb 3 [.int .i64 (f : Int)])).alloc (rowOb 24 [x]) = B
    intro hgr m3 v2 v3 E2
    obtain ⟨C, ⟨gb, hgb⟩, EBC⟩ := run_best (eb := A.next + 1) (fb := A.next) (bo := bo) h2 hf40 hl hb (hx.same E2.n (fun h => E2.g _ h)) (by omega) v3 (by omega) v2 (by omega)
    have hE1 : Ext C (C.alloc (rowOb 44 [.int .i64 0, .int .i64 0, .int .i64 0])) := Ext.alloc C _
    have hv0 : Vals (C.alloc (rowOb 44 [.int .i64 0, .int .i64 0, .int .i64 0])) 44 C.next (.var 3) [.int .i64 0, .int .i64 0, .int .i64 0] := Go.Am.vals_new C 44 _
    obtain ⟨D, hst, hvD, hnD, hfD⟩ := store_all (tb := tb1) (t := 44) (l' := rowO (pickO f l)) (by rw [size44]; rfl) hv0 (by rw [rowO_len]; rfl) (by simp) (rowO_one _)
    have hCD : Ext C D := hE1.put (b := C.next) (Nat.le_refl _) hnD hfD
    have EAD := (E2.trans EBC).trans hCD
    apply W.seq
    apply W.run 20
    · intro M
      simp (config := { maxSteps := 4000000 }) (disch := first | decide +kernel | (rw [wantF_guard]; simp only [wantD_some, dstAt_zero, dstAt_succ, T.get_set, T.get_e, Nat.reduceEqDiff, if_true, if_false, wantV_bool, wantV_unit, unitV, cond_true, cond_false, Bool.not_true, Bool.not_false, List.toList_toArray]) | omega) only [c10, Try.f10, Option.getD_some, sub_seq0, sub_nil, T.puts_cons, Nat.reduceAdd, T.puts_nil, exec_region, runOps_cons, opF_assign, ev_int, putT_some, runOps_nil, R.ok_bind]
      with_reducible rfl
    apply W.seq
    apply W.seq
    apply W.run 20
    · intro M
      simp (config := { maxSteps := 4000000 }) (disch := first | decide +kernel | (rw [wantF_guard]; simp only [wantD_some, dstAt_zero, dstAt_succ, T.get_set, T.get_e, Nat.reduceEqDiff, if_true, if_false, wantV_bool, wantV_unit, unitV, cond_true, cond_false, Bool.not_true, Bool.not_false, List.toList_toArray]) | omega) only [c10, Try.f10, Option.getD_some, sub_seq1, sub_seq0, sub_nil, exec_region, runOps_cons, opF_move, ev_tmp, T.get_set, Nat.reduceEqDiff, T.get_e, if_true, if_false, evG_some, putT_some, opF_ari, ev_int, runOps_nil, R.ok_bind, binF_int, op_lssI, cast_lt, n2, decide_false]
      with_reducible rfl
    apply W.run 20
    · intro M
      simp (config := { maxSteps := 4000000 }) (disch := first | decide +kernel | (rw [wantF_guard]; simp only [wantD_some, dstAt_zero, dstAt_succ, T.get_set, T.get_e, Nat.reduceEqDiff, if_true, if_false, wantV_bool, wantV_unit, unitV, cond_true, cond_false, Bool.not_true, Bool.not_false, List.toList_toArray]) | omega) only [c10, Try.f10, Option.getD_some, sub_seq1, sub_seq0, sub_nil, exec_cond, ev_tmp, T.get_set, Nat.reduceEqDiff, T.get_e, if_false, if_true, evG_some, exec_seq, exec_region, runOps_cons, opF_assign, ev_int, putT_some, runOps_nil, R.ok_bind, exec_ret, exec_skip]
      with_reducible rfl
    show W tb1 _ _ _
    apply W.seq
    apply W.runG ((gr+gb)) 20
    · intro M hM
      simp (config := { maxSteps := 4000000 }) (disch := first | decide +kernel | (rw [wantF_guard]; simp only [wantD_some, dstAt_zero, dstAt_succ, T.get_set, T.get_e, Nat.reduceEqDiff, if_true, if_false, wantV_bool, wantV_unit, unitV, cond_true, cond_false, Bool.not_true, Bool.not_false, List.toList_toArray]) | omega) only [c10, Try.f10, Option.getD_some, sub_seq1, sub_seq0, sub_nil, exec_region, runOps_cons, opF_move, ev_tmp, T.get_set, Nat.reduceEqDiff, T.get_e, if_true, if_false, evG_some, putT_some, opF_call, evs, R.ok_bind, resK, ev_fn, opF_extract, extractF, opF_alloc, zero44, at_ptr, opF_store, putT_none, opF_assign, runOps_nil, cells_agg, hgr, hgb, List.getElem?_cons_zero, List.getElem?_cons_succ, hst]
      with_reducible rfl
    apply W.seq
    apply W.seq
    cases ho : pickO f l with
    | none =>
      rw [ho] at hvD
      have e1 : (none : Option Row).isSome = false := rfl
      apply W.run 20
      · intro M
        simp (config := { maxSteps := 4000000 }) (disch := first | decide +kernel | (rw [wantF_guard]; simp only [wantD_some, dstAt_zero, dstAt_succ, T.get_set, T.get_e, Nat.reduceEqDiff, if_true, if_false, wantV_bool, wantV_unit, unitV, cond_true, cond_false, Bool.not_true, Bool.not_false, List.toList_toArray]) | omega) only [c10, Try.f10, Option.getD_some, sub_seq1, sub_seq0, sub_nil, e1, exec_region, runOps_cons, opF_move, ev_tmp, T.get_set, Nat.reduceEqDiff, T.get_e, if_false, if_true, evG_some, putT_some, opF_un, runOps_nil, R.ok_bind, un_not, Bool.not_false]
        with_reducible rfl
      show W tb1 _ _ _
      apply W.run 20
      · intro M
        simp (config := { maxSteps := 4000000 }) (disch := first | decide +kernel | (rw [wantF_guard]; simp only [wantD_some, dstAt_zero, dstAt_succ, T.get_set, T.get_e, Nat.reduceEqDiff, if_true, if_false, wantV_bool, wantV_unit, unitV, cond_true, cond_false, Bool.not_true, Bool.not_false, List.toList_toArray]) | omega) only [c10, Try.f10, Option.getD_some, sub_seq1, sub_seq0, sub_nil, exec_cond, ev_tmp, T.get_set, Nat.reduceEqDiff, T.get_e, if_false, if_true, evG_some, exec_seq, exec_region, runOps_cons, opF_assign, ev_int, putT_some, runOps_nil, R.ok_bind, exec_ret, exec_skip]
        with_reducible rfl
      refine ⟨.inr rfl, _, pickV none, rfl, ?_, rfl, EAD⟩
      simp only [Try.f10, resF, ev_tmp, T.get_set, Nat.reduceEqDiff, if_true, if_false, evG_some, R.ok_bind, pickV]
    | some r =>
      rw [ho] at hvD
      have e1 : (some r : Option Row).isSome = true := rfl
      have l0 : loadF tb1 D.get 3 (.pointer (some ⟨C.next, 0, none⟩)) = .ok (.int .i64 (r.a : Int)) := load_vals und3 rfl hvD rfl
      have l1 : loadF tb1 D.get 3 (.pointer (some ⟨C.next, 1, none⟩)) = .ok (.int .i64 (r.b : Int)) := load_vals und3 rfl hvD rfl
      apply W.run 20
      · intro M
        simp (config := { maxSteps := 4000000 }) (disch := first | decide +kernel | (rw [wantF_guard]; simp only [wantD_some, dstAt_zero, dstAt_succ, T.get_set, T.get_e, Nat.reduceEqDiff, if_true, if_false, wantV_bool, wantV_unit, unitV, cond_true, cond_false, Bool.not_true, Bool.not_false, List.toList_toArray]) | omega) only [c10, Try.f10, Option.getD_some, sub_seq1, sub_seq0, sub_nil, e1, exec_region, runOps_cons, opF_move, ev_tmp, T.get_set, Nat.reduceEqDiff, T.get_e, if_false, if_true, evG_some, putT_some, opF_un, runOps_nil, R.ok_bind, un_not, Bool.not_true]
        with_reducible rfl
      show W tb1 _ _ _
      apply W.run 20
      · intro M
        simp (config := { maxSteps := 4000000 }) (disch := first | decide +kernel | (rw [wantF_guard]; simp only [wantD_some, dstAt_zero, dstAt_succ, T.get_set, T.get_e, Nat.reduceEqDiff, if_true, if_false, wantV_bool, wantV_unit, unitV, cond_true, cond_false, Bool.not_true, Bool.not_false, List.toList_toArray]) | omega) only [c10, Try.f10, Option.getD_some, sub_seq1, sub_seq0, sub_nil, exec_cond, ev_tmp, T.get_set, Nat.reduceEqDiff, T.get_e, if_false, if_true, evG_some, exec_seq, exec_region, runOps_cons, opF_assign, ev_int, putT_some, runOps_nil, R.ok_bind, exec_ret, exec_skip]
        with_reducible rfl
      show W tb1 _ _ _
      apply W.seq
      apply W.run 20
      · intro M
        simp (config := { maxSteps := 4000000 }) (disch := first | decide +kernel | (rw [wantF_guard]; simp only [wantD_some, dstAt_zero, dstAt_succ, T.get_set, T.get_e, Nat.reduceEqDiff, if_true, if_false, wantV_bool, wantV_unit, unitV, cond_true, cond_false, Bool.not_true, Bool.not_false, List.toList_toArray]) | omega) only [c10, Try.f10, Option.getD_some, sub_seq1, sub_seq0, sub_nil, exec_draw, runOps_cons, opF_fieldAddr, ev_tmp, T.get_set, Nat.reduceEqDiff, T.get_e, if_false, if_true, evG_some, putT_some, opF_load, opF_assign, ev_int, runOps_nil, R.ok_bind, fa44_1, l1, fa44_0, l0]
        with_reducible rfl
      apply W.run 20
      · intro M
        simp (config := { maxSteps := 4000000 }) (disch := first | decide +kernel | (rw [wantF_guard]; simp only [wantD_some, dstAt_zero, dstAt_succ, T.get_set, T.get_e, Nat.reduceEqDiff, if_true, if_false, wantV_bool, wantV_unit, unitV, cond_true, cond_false, Bool.not_true, Bool.not_false, List.toList_toArray]) | omega) only [c10, Try.f10, Option.getD_some, sub_seq1, sub_nil, exec_ret]
        with_reducible rfl
      refine ⟨.inr rfl, _, pickV (some r), rfl, ?_, rfl, EAD⟩
      simp only [Try.f10, resF, ev_tmp, T.get_set, Nat.reduceEqDiff, if_true, if_false, evG_some, R.ok_bind, pickV]
  exact ⟨A', ha, hE⟩
theorem run_pick {A : Mem} {f bo : Nat} {l : List Nat} {x : Value} (h2 : 2 ≤ f) (hf40 : f < 1000) (hl : l.length ≤ 1000) (hb : ∀ n ∈ l, n < 4611686018427387904) (hx : Slc A 3 bo (ints l) x) (hbo : bo < A.next) :
    ∃ A', Ans tb1 10 [.int .i64 (f : Int), x] A (.tuple ⟨pickV (pickO f l)⟩) A' ∧ Ext A A' := run_pickR h2 hf40 hl hb (rw_of hx) hbo
end Go.Proofs.Ytgkolgfkcelljaa.pck

/-
  Pick: what comes ahead of a list (a plain law).
-/
namespace Go.Pick
set_option linter.unusedSimpArgs false
set_option linter.unusedVariables false
set_option linter.unusedVariables false

def shift (s : Nat) (r : Row) : Row := ⟨r.a + s, r.b + s, r.t⟩
theorem rowsL_cons {f k a n : Nat} {l : List Nat} : rowsL f (k + 1) a (n :: l) = ⟨a, a + runL f (tier f n) (n :: l), tier f n⟩ :: rowsL f k (a + runL f (tier f n) (n :: l)) ((n :: l).drop (runL f (tier f n) (n :: l))) := rfl
theorem rowsL_shift (f s : Nat) : ∀ (k a : Nat) (l : List Nat), rowsL f k (a + s) l = (rowsL f k a l).map (shift s)
  | 0, a, l => rfl
  | k + 1, a, [] => rfl
  | k + 1, a, n :: l => by
    rw [rowsL_cons, rowsL_cons, List.map_cons, ← rowsL_shift f s k]
    simp only [shift]
    rw [Nat.add_right_comm]
/-- Each row's tier is that of its first number. -/
theorem rowsL_tier (f : Nat) : ∀ (k a : Nat) (l : List Nat), ∀ r ∈ rowsL f k a l, a ≤ r.a ∧ r.a < r.b ∧ r.b ≤ a + l.length ∧ tier f (l.getD (r.a - a) 0) = r.t
  | 0, a, l, r, h => by cases h
  | k + 1, a, [], r, h => by cases h
  | k + 1, a, n :: l, r, h => by
    rw [rowsL_cons] at h
    have h1 := runL_le f (tier f n) (n :: l)
    have h0 : 0 < runL f (tier f n) (n :: l) := runL_pos
    rcases List.mem_cons.1 h with rfl | h
    · refine ⟨Nat.le_refl _, by show a < a + _; omega, by show a + _ ≤ _; omega, ?_⟩
      show tier f ((n :: l).getD (a - a) 0) = tier f n
      rw [Nat.sub_self]; rfl
    · obtain ⟨h2, h3, h4, h5⟩ := rowsL_tier f k _ _ r h
      rw [List.length_drop] at h4
      refine ⟨by omega, h3, by omega, ?_⟩
      rw [← h5]
      congr 1
      simp only [List.getD, List.getElem?_drop]
      congr 2
      omega
/-- So many of one tier, and then another one. -/
theorem runL_rep (f g t : Nat) (hg : tier f g = t) : ∀ (m : Nat) (l : List Nat), (∀ n, l.head? = some n → tier f n ≠ t) → runL f t (List.replicate m g ++ l) = m
  | 0, l, h => by
    cases l with
    | nil => rfl
    | cons n l =>
      have := h n rfl
      show runL f t (n :: l) = 0
      unfold runL
      rw [if_neg this]
  | m + 1, l, h => by
    rw [List.replicate_succ, List.cons_append]
    unfold runL
    rw [if_pos hg, runL_rep f g t hg m l h]
theorem rows_rep (f g m : Nat) (l : List Nat) (hm : 0 < m) (h : ∀ n, l.head? = some n → tier f n ≠ tier f g) : rows f (List.replicate m g ++ l) = ⟨0, m, tier f g⟩ :: (rows f l).map (shift m) := by
  obtain ⟨m, rfl⟩ : ∃ m', m = m' + 1 := ⟨m - 1, by omega⟩
  have hr := runL_rep f g (tier f g) rfl (m + 1) l h
  rw [List.replicate_succ, List.cons_append] at hr
  unfold rows
  rw [List.replicate_succ, List.cons_append]
  show rowsL f ((List.replicate m g ++ l).length + 1) 0 (g :: (List.replicate m g ++ l)) = _
  rw [rowsL_cons, hr]
  have hd : (g :: (List.replicate m g ++ l)).drop (m + 1) = l := by
    rw [List.drop_succ_cons, List.drop_append_of_le_length (by simp), List.drop_eq_nil_of_le (by simp), List.nil_append]
  rw [hd, rowsL_shift f (m + 1), rowsL_more f _ l.length 0 l (by simp) (Nat.le_refl _), Nat.zero_add]
theorem better_fold_shift (s : Nat) : ∀ (rs : List Row) (o : Option Row), (rs.map (shift s)).foldl better (o.map (shift s)) = (rs.foldl better o).map (shift s)
  | [], o => rfl
  | r :: rs, o => by
    rw [List.map_cons, List.foldl_cons, List.foldl_cons, ← better_fold_shift s rs]
    congr 1
    cases o with
    | none => rfl
    | some x =>
      show better (some (shift s x)) (shift s r) = _
      unfold better
      show (if (shift s x).t < (shift s r).t then _ else _) = _
      by_cases h : x.t < r.t
      · have h' : (shift s x).t < (shift s r).t := h
        simp only [h, h', if_true]; rfl
      · have h' : ¬ (shift s x).t < (shift s r).t := h
        simp only [h, h', if_false]; rfl
theorem filter_shift (f s : Nat) (rs : List Row) : (rs.map (shift s)).filter (fullR f) = (rs.filter (fullR f)).map (shift s) := by
  induction rs with
  | nil => rfl
  | cons r rs ih =>
    have e : fullR f (shift s r) = fullR f r := by
      unfold fullR shift
      have : r.b + s - (r.a + s) = r.b - r.a := by omega
      simp only [this]
    rw [List.map_cons]
    cases h : fullR f r with
    | true => rw [List.filter_cons_of_pos (by rw [e, h]), List.filter_cons_of_pos h, ih]; rfl
    | false => rw [List.filter_cons_of_neg (by rw [e, h]; decide), List.filter_cons_of_neg (by rw [h]; decide), ih]
/-- What is not full ahead of a list moves its pick. -/
theorem pick_ahead (f g m : Nat) (l : List Nat) (hm : m < f) (h : ∀ n, l.head? = some n → tier f n ≠ tier f g) : pickO f (List.replicate m g ++ l) = (pickO f l).map (shift m) := by
  by_cases h0 : m = 0
  · subst h0
    have e : ∀ o : Option Row, o.map (shift 0) = o := fun o => by cases o <;> rfl
    rw [e]; rfl
  · unfold pickO
    rw [rows_rep f g m l (by omega) h, List.filter_cons_of_neg (by unfold fullR; simp; omega), filter_shift]
    exact better_fold_shift m _ none
theorem better_join (z : Row) : ∀ (rs : List Row), rs.foldl better (some z) = match rs.foldl better none with
    | none => some z
    | some r => better (some z) r := by
  have assoc : ∀ x y w : Row, (match better (some x) y with | none => none | some q => better (some q) w) = (match better (some y) w with | none => none | some q => better (some x) q) := by
    intro x y w
    unfold better
    simp only
    by_cases h1 : x.t < y.t <;> by_cases h2 : y.t < w.t <;> by_cases h3 : x.t < w.t <;> simp only [h1, h2, h3, if_true, if_false] <;> omega
  intro rs
  induction rs generalizing z with
  | nil => rfl
  | cons r rs ih =>
    rw [List.foldl_cons, List.foldl_cons]
    show rs.foldl better (better (some z) r) = match rs.foldl better (some r) with | none => some z | some r => better (some z) r
    rw [ih r]
    have hz : ∃ q, better (some z) r = some q := by
      unfold better
      simp only
      split
      · exact ⟨_, rfl⟩
      · exact ⟨_, rfl⟩
    obtain ⟨q, hq⟩ := hz
    rw [hq, ih q]
    cases hf : rs.foldl better none with
    | none => simp only; exact hq.symm
    | some w =>
      simp only
      have h := assoc z r w
      rw [hq] at h
      simp only at h
      rw [h]
      cases hb : better (some r) w with
      | none =>
        exfalso
        unfold better at hb
        simp only at hb
        split at hb <;> cases hb
      | some u => rfl
theorem pow_one_le (f t : Nat) (h2 : 2 ≤ f) : f ^ (t + 1) ≤ f * f ^ t := by rw [Nat.pow_succ, Nat.mul_comm]; exact Nat.le_refl _
/-- A full row of noughts, and one that is greater by a tier, ahead of a list. -/
theorem pick_zeros (f T : Nat) (l : List Nat) (h2 : 2 ≤ f) (r : Row) (hr : pickO f l = some r) (ht : r.t = T) (h : ∀ n, l.head? = some n → tier f n ≠ T + 1) :
    pickO f (List.replicate f 0 ++ (f ^ (T + 1) :: l)) = if T = 0 then some (shift (f + 1) r) else some ⟨0, f, 0⟩ := by
  have hg : tier f (f ^ (T + 1)) = T + 1 := tier_pow h2 _
  have h0 : tier f 0 = 0 := tier_lt (by omega)
  have e1 : rows f (f ^ (T + 1) :: l) = ⟨0, 1, T + 1⟩ :: (rows f l).map (shift 1) := by
    have := rows_rep f (f ^ (T + 1)) 1 l (by omega) (fun n hn => by rw [hg]; exact h n hn)
    rw [hg] at this
    exact this
  have e2 := rows_rep f 0 f (f ^ (T + 1) :: l) (by omega) (fun n hn => by
    simp only [List.head?_cons, Option.some.injEq] at hn
    rw [← hn, hg, h0]; omega)
  unfold pickO
  rw [e2, e1, h0, List.filter_cons_of_pos (by unfold fullR; simp), filter_shift, List.filter_cons_of_neg (by unfold fullR; simp; omega), filter_shift, List.foldl_cons]
  show List.foldl better (some ⟨0, f, 0⟩) _ = _
  rw [better_join]
  have e3 : List.foldl better none (List.map (shift f) (List.map (shift 1) (List.filter (fullR f) (rows f l)))) = some (shift f (shift 1 r)) := by
    have k1 := better_fold_shift f (List.map (shift 1) (List.filter (fullR f) (rows f l))) none
    have k2 := better_fold_shift 1 (List.filter (fullR f) (rows f l)) none
    have k3 : List.foldl better none (List.filter (fullR f) (rows f l)) = some r := hr
    simp only [Option.map_none] at k1 k2
    rw [k1, k2, k3]; rfl
  rw [e3]
  show better (some ⟨0, f, 0⟩) (shift f (shift 1 r)) = _
  have e4 : shift f (shift 1 r) = shift (f + 1) r := by unfold shift; simp only [Row.mk.injEq, and_true]; omega
  rw [e4]
  unfold better
  have e5 : (shift (f + 1) r).t = T := ht
  simp only [e5]
  by_cases hT : T = 0
  · simp [hT]
  · rw [if_pos (by omega), if_neg hT]
theorem pickO_row {f : Nat} {l : List Nat} {r : Row} (h : pickO f l = some r) : r ∈ rows f l := by
  have aux : ∀ (rs : List Row) (o : Option Row), (rs.foldl better o) = some r → o = some r ∨ r ∈ rs := by
    intro rs
    induction rs with
    | nil => intro o h; exact .inl h
    | cons q rs ih =>
      intro o h
      rw [List.foldl_cons] at h
      rcases ih _ h with h | h
      · unfold better at h
        split at h
        · cases h; exact .inr (List.mem_cons_self ..)
        · split at h
          · exact .inl h
          · cases h; exact .inr (List.mem_cons_self ..)
      · exact .inr (List.mem_cons_of_mem _ h)
  rcases aux _ none h with h | h
  · cases h
  · exact (List.mem_filter.1 h).1
end Go.Pick

/-
  Pick: parts of the law PickAhead on the abstract machine.
-/
namespace Go.Proofs.Ytgkolgfkcelljaa.pck
open Go.Am Go.Pick
set_option linter.unusedSimpArgs false
set_option linter.unusedVariables false
set_option linter.unusedVariables false
set_option maxRecDepth 20000

theorem bs24_0 : buildSliceF tb1 24 0 [] = .ok (rowOb 3 [], .slc 0 0) := by kernel_rfl
theorem ints_one (l : List Nat) : ∀ v ∈ ints l, oneCell v = true := fun v hv => by
  obtain ⟨c, -, rfl⟩ := List.mem_map.1 hv
  rfl
theorem Slc.first {A : Mem} {b : Nat} {l : List Nat} {x : Value} (h : Slc A 3 b (ints l) x) : lenF x = .ok l.length ∧ firstF A.get 1 l.length x = .ok (ints l) := by
  rcases h with ⟨rfl, h⟩ | ⟨k, c, rfl, -, hv, -⟩
  · have h0 : l = [] := by
      have : l.length = 0 := by rw [← ints_len, h]; rfl
      exact List.length_eq_zero_iff.1 this
    subst h0
    exact ⟨rfl, rfl⟩
  · rw [ints_len]
    have := elemsF_vals hv
    rw [ints_len] at this
    exact ⟨rfl, this⟩
theorem app_ints {A : Mem} {b bm : Nat} {l m : List Nat} {x y : Value} (h : Slc A 3 b (ints l) x) (hy : Slc A 3 bm (ints m) y) (hl : l.length + m.length ≤ 16777216) :
    ∃ x' A' b', appendF tb1 A 24 24 x y = .ok (x', A') ∧ Slc A' 3 b' (ints (l ++ m)) x' ∧ A.next ≤ A'.next ∧ (b' = b ∨ A.next ≤ b') ∧ ∀ y, (y = b → x = .slice none 0 0) → y < A.next → A'.get y = A.get y := by
  obtain ⟨i, hi, hib⟩ := ty3
  obtain ⟨e1, e2⟩ := Slc.first hy
  rw [ints_app]
  exact h.appends (st := 24) (xt := 24) (e := 3) (m := m.length) und24 und24 rfl zc3 hi (by omega) (by omega) (by rw [ints_len]; exact hl) e1 e2 (ints_len m) (ints_one m)
theorem Own.block {A : Mem} {l : List Nat} {x : Value} (h : Own A l x) (hA : 0 < A.next) : ∃ b, Slc A 3 b (ints l) x ∧ b < A.next := by
  obtain ⟨b, h⟩ := h
  rcases h with ⟨h1, h3⟩ | ⟨k, c, h1, hb, hv, hc⟩
  · exact ⟨0, .inl ⟨h1, h3⟩, hA⟩
  · exact ⟨b, .inr ⟨k, c, h1, hb, hv, hc⟩, hb⟩
/-- Two rows, one behind the other, in a new one. -/
theorem cat2 {D : Mem} {bu bv : Nat} {lu lv : List Nat} {u v : Value} (hu : Slc D 3 bu (ints lu) u) (hv : Slc D 3 bv (ints lv) v) (hl : lu.length ≤ 1000 ∧ lv.length ≤ 1000) :
    ∃ x1 D1 x2 D2 b2, appendF tb1 (D.alloc (rowOb 3 [])) 24 24 (.slice (some ⟨D.next, 0, none⟩) 0 0) u = .ok (x1, D1) ∧ appendF tb1 D1 24 24 x1 v = .ok (x2, D2) ∧ Slc D2 3 b2 (ints (lu ++ lv)) x2 ∧ Ext D D2 := by
  have hE := Ext.alloc D (rowOb 3 [])
  have hn : (D.alloc (rowOb 3 [])).next = D.next + 1 := next_alloc _ _
  have hS : Slc (D.alloc (rowOb 3 [])) 3 D.next (ints []) (.slice (some ⟨D.next, 0, none⟩) 0 0) := .inr ⟨.var 0, 0, rfl, by omega, Go.Am.vals_new D 3 [], .inl rfl⟩
  obtain ⟨x1, D1, b1, e1, s1, n1, o1, f1⟩ := app_ints hS (hu.same hE.n (fun h => hE.g _ h)) (by rw [List.length_nil]; omega)
  rw [List.nil_append] at s1
  have E1 : Ext D D1 := ⟨by omega, fun y hy => by rw [f1 y (fun e => by omega) (by omega), hE.g y hy]⟩
  obtain ⟨x2, D2, b2, e2, s2, n2, o2, f2⟩ := app_ints s1 (hv.same E1.n (fun h => E1.g _ h)) (by omega)
  exact ⟨x1, D1, x2, D2, b2, e1, e2, s2, ⟨by omega, fun y hy => by rw [f2 y (fun e => by omega) (by omega), E1.g y hy]⟩⟩
/-- A row, a number, a row. -/
theorem cat3 {D : Mem} {bu bv g : Nat} {lu lv : List Nat} {u v : Value} (hu : Slc D 3 bu (ints lu) u) (hv : Slc D 3 bv (ints lv) v) (hl : lu.length ≤ 1000 ∧ lv.length ≤ 1000) :
    ∃ x1 D1 x2 D2 x3 D3 b3, appendF tb1 (D.alloc (rowOb 3 [])) 24 24 (.slice (some ⟨D.next, 0, none⟩) 0 0) u = .ok (x1, D1) ∧ appendF tb1 (D1.alloc (rowOb 3 [.int .i64 (g : Int)])) 24 24 x1 (.slice (some ⟨D1.next, 0, none⟩) 1 2) = .ok (x2, D2) ∧ appendF tb1 D2 24 24 x2 v = .ok (x3, D3) ∧ Slc D3 3 b3 (ints (lu ++ (g :: lv))) x3 ∧ Ext D D3 := by
  have hE := Ext.alloc D (rowOb 3 [])
  have hn : (D.alloc (rowOb 3 [])).next = D.next + 1 := next_alloc _ _
  have hS : Slc (D.alloc (rowOb 3 [])) 3 D.next (ints []) (.slice (some ⟨D.next, 0, none⟩) 0 0) := .inr ⟨.var 0, 0, rfl, by omega, Go.Am.vals_new D 3 [], .inl rfl⟩
  obtain ⟨x1, D1, b1, e1, s1, n1, o1, f1⟩ := app_ints hS (hu.same hE.n (fun h => hE.g _ h)) (by rw [List.length_nil]; omega)
  rw [List.nil_append] at s1
  have E1 : Ext D D1 := ⟨by omega, fun y hy => by rw [f1 y (fun e => by omega) (by omega), hE.g y hy]⟩
  have hE2 := Ext.alloc D1 (rowOb 3 [.int .i64 (g : Int)])
  have hn2 : (D1.alloc (rowOb 3 [.int .i64 (g : Int)])).next = D1.next + 1 := next_alloc _ _
  have hG : Slc (D1.alloc (rowOb 3 [.int .i64 (g : Int)])) 3 D1.next (ints [g]) (.slice (some ⟨D1.next, 0, none⟩) 1 2) := .inr ⟨.var 1, 2, rfl, by omega, Go.Am.vals_new D1 3 _, .inl rfl⟩
  obtain ⟨x2, D2, b2, e2, s2, n2, o2, f2⟩ := app_ints (s1.same hE2.n (fun h => hE2.g _ h)) hG (by rw [List.length_singleton]; omega)
  have E2 : Ext D D2 := ⟨by omega, fun y hy => by rw [f2 y (fun e => by omega) (by omega), hE2.g y (by have := E1.n; omega), E1.g y hy]⟩
  obtain ⟨x3, D3, b3, e3, s3, n3, o3, f3⟩ := app_ints s2 (hv.same E2.n (fun h => E2.g _ h)) (by rw [List.length_append, List.length_singleton]; omega)
  have el : lu ++ [g] ++ lv = lu ++ (g :: lv) := by simp
  rw [el] at s3
  refine ⟨x1, D1, x2, D2, x3, D3, b3, e1, e2, e3, s3, ⟨by omega, fun y hy => ?_⟩⟩
  have h1 := E1.n
  have h2 := E2.n
  rw [f3 y (fun e => by omega) (by omega), E2.g y hy]

noncomputable def c5 : Code := Try.f5.body.getD .skip
noncomputable def c5b1 : Code := sub c5 [1,1,1,1,1,1,1,1,0,1,0,0]
noncomputable def c5b2 : Code := sub c5 [1,1,1,1,1,1,1,1,1,1,1,0,1,0,0]
noncomputable def c5b3 : Code := sub c5 [1,1,1,1,1,1,1,1,1,1,1,1,0,1,0,0]
theorem c5_eq : Try.f5.body = some (.seq (sub c5 [0]) (.seq (.seq (sub c5 [1,0,0]) (sub c5 [1,0,1])) (.seq (sub c5 [1,1,0]) (.seq (sub c5 [1,1,1,0]) (.seq (sub c5 [1,1,1,1,0]) (.seq (.seq (sub c5 [1,1,1,1,1,0,0]) (sub c5 [1,1,1,1,1,0,1])) (.seq (sub c5 [1,1,1,1,1,1,0]) (.seq (sub c5 [1,1,1,1,1,1,1,0]) (.seq (.seq (sub c5 [1,1,1,1,1,1,1,1,0,0]) (.block 0 (.loop c5b1))) (.seq (.seq (sub c5 [1,1,1,1,1,1,1,1,1,0,0]) (sub c5 [1,1,1,1,1,1,1,1,1,0,1])) (.seq (sub c5 [1,1,1,1,1,1,1,1,1,1,0]) (.seq (.seq (sub c5 [1,1,1,1,1,1,1,1,1,1,1,0,0]) (.block 2 (.loop c5b2))) (.seq (.seq (sub c5 [1,1,1,1,1,1,1,1,1,1,1,1,0,0]) (.block 4 (.loop c5b3))) (.seq (sub c5 [1,1,1,1,1,1,1,1,1,1,1,1,1,0]) (.seq (.seq (sub c5 [1,1,1,1,1,1,1,1,1,1,1,1,1,1,0,0]) (sub c5 [1,1,1,1,1,1,1,1,1,1,1,1,1,1,0,1])) (.seq (sub c5 [1,1,1,1,1,1,1,1,1,1,1,1,1,1,1,0]) (.seq (.seq (sub c5 [1,1,1,1,1,1,1,1,1,1,1,1,1,1,1,1,0,0]) (sub c5 [1,1,1,1,1,1,1,1,1,1,1,1,1,1,1,1,0,1])) (.seq (sub c5 [1,1,1,1,1,1,1,1,1,1,1,1,1,1,1,1,1,0]) (sub c5 [1,1,1,1,1,1,1,1,1,1,1,1,1,1,1,1,1,1]))))))))))))))))))) := by kernel_rfl
theorem c5b1_eq : c5b1 = (.seq (.seq (sub c5b1 [0,0]) (sub c5b1 [0,1])) (.seq (sub c5b1 [1,0]) (sub c5b1 [1,1]))) := by kernel_rfl
theorem c5b2_eq : c5b2 = (.seq (.seq (sub c5b2 [0,0]) (sub c5b2 [0,1])) (.seq (sub c5b2 [1,0]) (sub c5b2 [1,1]))) := by kernel_rfl
theorem c5b3_eq : c5b3 = (.seq (.seq (sub c5b3 [0,0]) (sub c5b3 [0,1])) (.seq (sub c5b3 [1,0]) (sub c5b3 [1,1]))) := by kernel_rfl
def ahS (mv f ra rb ti0 : Nat) (xo : Value) : List (Nat × Value) := [(2, .int .u8 (mv : Int)), (7, xo), (8, .int .i64 (f : Int)), (9, .int .i64 (ra : Int)), (10, .int .i64 (rb : Int)), (12, .int .i64 (ti0 : Int))]
set_option maxHeartbeats 4000000 in
theorem ahead_great {mv f ra rb ti0 : Nat} {xo : Value} {t : T Value} {D : Mem} {K : Ex → St → Prop} (h2 : 2 ≤ f) (hp : f ^ (ti0 + 1) < 1000000000) (hs : Sl t (ahS mv f ra rb ti0 xo)) (h13 : t.get 13 = some (.int .i64 ((1 : Nat) : Int)))
    (hK : ∀ t', Sl t' (ahS mv f ra rb ti0 xo) → t'.get 13 = some (.int .i64 ((f ^ (ti0 + 1) : Nat) : Int)) → K .nrm ⟨t', 158, [], D, none⟩) :
    W tb1 (.seq (sub c5 [1,1,1,1,1,1,1,1,0,0]) (.block 0 (.loop c5b1))) ⟨t, 158, [], D, none⟩ K := by
  obtain ⟨g2, g7, g8, g9, g10, g12, -⟩ := hs
  apply W.seq
  apply W.run 20
  · intro M
    simp (config := { maxSteps := 4000000 }) (disch := first | decide +kernel | (rw [wantF_guard]; simp only [wantD_some, dstAt_zero, dstAt_succ, T.get_set, T.get_e, Nat.reduceEqDiff, if_true, if_false, wantV_bool, wantV_unit, unitV, cond_true, cond_false, Bool.not_true, Bool.not_false, List.toList_toArray]) | omega) only [c5, Try.f5, Option.getD_some, sub_seq1, sub_seq0, sub_nil, exec_region, runOps_cons, opF_assign, ev_int, putT_some, runOps_nil, R.ok_bind]
    with_reducible rfl
  apply W.block
  refine W.up (ti0 + 1) (fun i t E => E = D ∧ Sl t [(2, .int .u8 (mv : Int)), (7, xo), (8, .int .i64 (f : Int)), (9, .int .i64 (ra : Int)), (10, .int .i64 (rb : Int)), (12, .int .i64 (ti0 : Int)), (13, .int .i64 ((f ^ i : Nat) : Int)), (14, .int .i64 (i : Int))]) ?_ (Nat.zero_le _) ⟨rfl, ?_⟩
  · rintro i t E hi ⟨rfl, f2, f7, f8, f9, f10, f12, f13, f14, -⟩
    rw [c5b1_eq]
    apply W.seq
    apply W.seq
    by_cases hlt : i ≤ ti0
    · have hpi : f ^ (i + 1) ≤ f ^ (ti0 + 1) := Nat.pow_le_pow_right (by omega) (by omega)
      rw [Nat.pow_succ] at hpi
      have hmul : intOpF .mul .i64 ((f ^ i : Nat) : Int) (f : Int) = .ok (.int .i64 ((f ^ i * f : Nat) : Int)) := op_mul_i64 (by omega)
      have hT : ti0 < 1000000000 := Nat.lt_of_le_of_lt (Nat.le_of_lt (Nat.lt_pow_self (by omega : 1 < f))) (Nat.lt_of_le_of_lt (Nat.pow_le_pow_right (by omega) (Nat.le_succ ti0)) hp)
      apply W.run 20
      · intro M
        simp (config := { maxSteps := 4000000 }) (disch := first | decide +kernel | (rw [wantF_guard]; simp only [wantD_some, dstAt_zero, dstAt_succ, T.get_set, T.get_e, Nat.reduceEqDiff, if_true, if_false, wantV_bool, wantV_unit, unitV, cond_true, cond_false, Bool.not_true, Bool.not_false, List.toList_toArray]) | omega) only [c5b1, c5, Try.f5, Option.getD_some, sub_seq1, sub_seq0, sub_block, sub_loop, sub_nil, exec_region, runOps_cons, opF_move, ev_tmp, f14, evG_some, putT_some, T.get_set, Nat.reduceEqDiff, f12, if_false, opF_ari, if_true, runOps_nil, R.ok_bind, binF_int, op_leq, cast_le, hlt, decide_true]
        with_reducible rfl
      apply W.run 20
      · intro M
        simp (config := { maxSteps := 4000000 }) (disch := first | decide +kernel | (rw [wantF_guard]; simp only [wantD_some, dstAt_zero, dstAt_succ, T.get_set, T.get_e, Nat.reduceEqDiff, if_true, if_false, wantV_bool, wantV_unit, unitV, cond_true, cond_false, Bool.not_true, Bool.not_false, List.toList_toArray]) | omega) only [c5b1, c5, Try.f5, Option.getD_some, sub_seq1, sub_seq0, sub_block, sub_loop, sub_nil, exec_cond, ev_tmp, T.get_set, Nat.reduceEqDiff, if_false, if_true, evG_some, exec_skip, exec_exit, R.ok_bind]
        with_reducible rfl
      show W tb1 _ _ _
      apply W.run 20
      · intro M
        simp (config := { maxSteps := 4000000 }) (disch := first | decide +kernel | (rw [wantF_guard]; simp only [wantD_some, dstAt_zero, dstAt_succ, T.get_set, T.get_e, Nat.reduceEqDiff, if_true, if_false, wantV_bool, wantV_unit, unitV, cond_true, cond_false, Bool.not_true, Bool.not_false, List.toList_toArray]) | omega) only [c5b1, c5, Try.f5, Option.getD_some, sub_seq1, sub_seq0, sub_block, sub_loop, sub_nil, exec_seq, exec_block, exec_region, runOps_cons, opF_move, ev_tmp, T.get_set, Nat.reduceEqDiff, f13, if_false, evG_some, putT_some, f8, opF_ari, if_true, opF_assign, runOps_nil, R.ok_bind, binF_int, hmul, f14, ev_int, op_add_i64]
        with_reducible rfl
      refine ⟨by omega, _, _, rfl, rfl, ?_⟩
      rw [Nat.pow_succ]
      simp only [Sl_cons, Sl_nil, T.get_set, T.puts_cons, T.puts_nil, Nat.reduceEqDiff, Nat.reduceAdd, if_true, if_false, and_true, true_and, f2, f7, f8, f9, f10, f12]
    · have hin : i = ti0 + 1 := by omega
      subst hin
      have hnl : ¬ ti0 + 1 ≤ ti0 := by omega
      apply W.run 20
      · intro M
        simp (config := { maxSteps := 4000000 }) (disch := first | decide +kernel | (rw [wantF_guard]; simp only [wantD_some, dstAt_zero, dstAt_succ, T.get_set, T.get_e, Nat.reduceEqDiff, if_true, if_false, wantV_bool, wantV_unit, unitV, cond_true, cond_false, Bool.not_true, Bool.not_false, List.toList_toArray]) | omega) only [c5b1, c5, Try.f5, Option.getD_some, sub_seq1, sub_seq0, sub_block, sub_loop, sub_nil, exec_region, runOps_cons, opF_move, ev_tmp, f14, evG_some, putT_some, T.get_set, Nat.reduceEqDiff, f12, if_false, opF_ari, if_true, runOps_nil, R.ok_bind, binF_int, op_leq, cast_le, hnl, decide_false]
        with_reducible rfl
      apply W.run 20
      · intro M
        simp (config := { maxSteps := 4000000 }) (disch := first | decide +kernel | (rw [wantF_guard]; simp only [wantD_some, dstAt_zero, dstAt_succ, T.get_set, T.get_e, Nat.reduceEqDiff, if_true, if_false, wantV_bool, wantV_unit, unitV, cond_true, cond_false, Bool.not_true, Bool.not_false, List.toList_toArray]) | omega) only [c5b1, c5, Try.f5, Option.getD_some, sub_seq1, sub_seq0, sub_block, sub_loop, sub_nil, exec_cond, ev_tmp, T.get_set, Nat.reduceEqDiff, if_false, if_true, evG_some, exec_skip, exec_exit, R.ok_bind]
        with_reducible rfl
      apply hK
      · unfold ahS; simp only [Sl_cons, Sl_nil, T.get_set, T.puts_cons, T.puts_nil, Nat.reduceEqDiff, Nat.reduceAdd, if_true, if_false, and_true, true_and, f2, f7, f8, f9, f10, f12]
      · simp only [T.get_set, Nat.reduceEqDiff, if_true, if_false, f13]
  · have e0 : f ^ 0 = 1 := Nat.pow_zero f
    rw [e0]
    simp only [Sl_cons, Sl_nil, T.get_set, T.puts_cons, T.puts_nil, Nat.reduceEqDiff, Nat.reduceAdd, if_true, if_false, and_true, true_and, g2, g7, g8, g9, g10, g12, h13]

set_option maxHeartbeats 4000000 in
theorem ahead_rows {mv f ra rb ti0 g : Nat} {xo : Value} {t : T Value} {D : Mem} {K : Ex → St → Prop} (h2 : 2 ≤ f) (h9 : f ≤ 9) (hmv : mv < 256) (hs : Sl t (ahS mv f ra rb ti0 xo)) (h13 : t.get 13 = some (.int .i64 (g : Int))) (h15 : t.get 15 = some (.slice none 0 0))  (h16 : t.get 16 = some (.slice none 0 0))
    (hK : ∀ t' x D' b, Slc D' 3 b (ints (List.replicate (mv % f) g)) x → Ext D D' → Sl t' (ahS mv f ra rb ti0 xo) → t'.get 13 = some (.int .i64 (g : Int)) → t'.get 15 = some x → t'.get 16 = some (.slice none 0 0) → K .nrm ⟨t', 158, [], D', none⟩) :
    W tb1 (.seq (sub c5 [1,1,1,1,1,1,1,1,1,1,1,0,0]) (.block 2 (.loop c5b2))) ⟨t, 158, [], D, none⟩ K := by
  obtain ⟨g2, g7, g8, g9, g10, g12, -⟩ := hs
  have hmod : mv % f < f := Nat.mod_lt _ (by omega)
  apply W.seq
  apply W.run 20
  · intro M
    simp (config := { maxSteps := 4000000 }) (disch := first | decide +kernel | (rw [wantF_guard]; simp only [wantD_some, dstAt_zero, dstAt_succ, T.get_set, T.get_e, Nat.reduceEqDiff, if_true, if_false, wantV_bool, wantV_unit, unitV, cond_true, cond_false, Bool.not_true, Bool.not_false, List.toList_toArray]) | omega) only [c5, Try.f5, Option.getD_some, sub_seq1, sub_seq0, sub_nil, exec_region, runOps_cons, opF_assign, ev_int, putT_some, runOps_nil, R.ok_bind]
    with_reducible rfl
  apply W.block
  refine W.up (mv % f) (fun i t E => ∃ x b, Slc E 3 b (ints (List.replicate i g)) x ∧ D.next ≤ b ∧ Ext D E ∧ Sl t [(2, .int .u8 (mv : Int)), (7, xo), (8, .int .i64 (f : Int)), (9, .int .i64 (ra : Int)), (10, .int .i64 (rb : Int)), (12, .int .i64 (ti0 : Int)), (13, .int .i64 (g : Int)), (15, x), (16, .slice none 0 0), (17, .int .i64 (i : Int))]) ?_ (Nat.zero_le _) ⟨.slice none 0 0, D.next, .inl ⟨rfl, rfl⟩, Nat.le_refl _, Ext.refl D, ?_⟩
  · rintro i t E hi ⟨x, b, hx, hb, hE, f2, f7, f8, f9, f10, f12, f13, f15, f16, f17, -⟩
    have hrem : intOpF .rem .i64 ((mv : Nat) : Int) ((f : Nat) : Int) = .ok (.int .i64 ((mv % f : Nat) : Int)) := op_rem (by omega)
    rw [c5b2_eq]
    apply W.seq
    apply W.seq
    by_cases hlt : i < mv % f
    · obtain ⟨ti, ht1, ht2⟩ := ty3
      have hE2 := Ext.alloc E (rowOb 3 [.int .i64 (g : Int)])
      obtain ⟨x', F, happ, hs3, hn3, hf3⟩ := (hx.same hE2.n (fun hl => hE2.g b hl)).append (tb := tb1) (st := 24) (xt := 24) und24 und24 zc3 ht1 (by omega) (by omega) (by rw [ints_len, List.length_replicate]; omega) (get_alloc_self E _) rfl
      have hn2 : (E.alloc (rowOb 3 [.int .i64 (g : Int)])).next = E.next + 1 := next_alloc _ _
      have hEn := hE.n
      apply W.run 20
      · intro M
        simp (config := { maxSteps := 4000000 }) (disch := first | decide +kernel | (rw [wantF_guard]; simp only [wantD_some, dstAt_zero, dstAt_succ, T.get_set, T.get_e, Nat.reduceEqDiff, if_true, if_false, wantV_bool, wantV_unit, unitV, cond_true, cond_false, Bool.not_true, Bool.not_false, List.toList_toArray]) | omega) only [c5b2, c5, Try.f5, Option.getD_some, sub_seq1, sub_seq0, sub_block, sub_loop, sub_nil, exec_region, runOps_cons, opF_move, ev_tmp, f17, evG_some, putT_some, T.get_set, Nat.reduceEqDiff, f2, if_false, opF_conv, if_true, convPF, und5, und3, f8, opF_ari, runOps_nil, R.ok_bind, wrapF_i64, binF_int, hrem, op_lssI, cast_lt, hlt, decide_true]
        with_reducible rfl
      apply W.run 20
      · intro M
        simp (config := { maxSteps := 4000000 }) (disch := first | decide +kernel | (rw [wantF_guard]; simp only [wantD_some, dstAt_zero, dstAt_succ, T.get_set, T.get_e, Nat.reduceEqDiff, if_true, if_false, wantV_bool, wantV_unit, unitV, cond_true, cond_false, Bool.not_true, Bool.not_false, List.toList_toArray]) | omega) only [c5b2, c5, Try.f5, Option.getD_some, sub_seq1, sub_seq0, sub_block, sub_loop, sub_nil, exec_cond, ev_tmp, T.get_set, Nat.reduceEqDiff, if_false, if_true, evG_some, exec_skip, exec_exit, R.ok_bind]
        with_reducible rfl
      show W tb1 _ _ _
      apply W.run 20
      · intro M
        simp (config := { maxSteps := 4000000 }) (disch := first | decide +kernel | (rw [wantF_guard]; simp only [wantD_some, dstAt_zero, dstAt_succ, T.get_set, T.get_e, Nat.reduceEqDiff, if_true, if_false, wantV_bool, wantV_unit, unitV, cond_true, cond_false, Bool.not_true, Bool.not_false, List.toList_toArray]) | omega) only [c5b2, c5, Try.f5, Option.getD_some, sub_seq1, sub_seq0, sub_block, sub_loop, sub_nil, exec_seq, exec_block, exec_region, runOps_cons, opF_move, ev_tmp, T.get_set, Nat.reduceEqDiff, f15, if_false, evG_some, putT_some, f13, opF_buildSlice, evp, if_true, R.ok_bind, opF_builtin, evs, opF_assign, runOps_nil, builtin_append, bs24, at_slc, happ, f17, opF_ari, ev_int, binF_int, op_add_i64]
        with_reducible rfl
      have e : ints (List.replicate (i + 1) g) = ints (List.replicate i g) ++ [.int .i64 (g : Int)] := by
        rw [List.replicate_succ', ints_app]; rfl
      refine ⟨hlt, _, _, rfl, x', _, by rw [e]; exact hs3, by omega, ⟨by omega, fun y hy => by rw [hf3 y (by omega) (by omega), hE2.g y (by omega), hE.g y hy]⟩, ?_⟩
      simp only [Sl_cons, Sl_nil, T.get_set, T.puts_cons, T.puts_nil, Nat.reduceEqDiff, Nat.reduceAdd, if_true, if_false, and_true, true_and, f2, f7, f8, f9, f10, f12, f13, f16]
    · have hin : i = mv % f := by omega
      subst hin
      apply W.run 20
      · intro M
        simp (config := { maxSteps := 4000000 }) (disch := first | decide +kernel | (rw [wantF_guard]; simp only [wantD_some, dstAt_zero, dstAt_succ, T.get_set, T.get_e, Nat.reduceEqDiff, if_true, if_false, wantV_bool, wantV_unit, unitV, cond_true, cond_false, Bool.not_true, Bool.not_false, List.toList_toArray]) | omega) only [c5b2, c5, Try.f5, Option.getD_some, sub_seq1, sub_seq0, sub_block, sub_loop, sub_nil, exec_region, runOps_cons, opF_move, ev_tmp, f17, evG_some, putT_some, T.get_set, Nat.reduceEqDiff, f2, if_false, opF_conv, if_true, convPF, und5, und3, f8, opF_ari, runOps_nil, R.ok_bind, wrapF_i64, binF_int, hrem, op_lssI, cast_lt, hlt, decide_false]
        with_reducible rfl
      apply W.run 20
      · intro M
        simp (config := { maxSteps := 4000000 }) (disch := first | decide +kernel | (rw [wantF_guard]; simp only [wantD_some, dstAt_zero, dstAt_succ, T.get_set, T.get_e, Nat.reduceEqDiff, if_true, if_false, wantV_bool, wantV_unit, unitV, cond_true, cond_false, Bool.not_true, Bool.not_false, List.toList_toArray]) | omega) only [c5b2, c5, Try.f5, Option.getD_some, sub_seq1, sub_seq0, sub_block, sub_loop, sub_nil, exec_cond, ev_tmp, T.get_set, Nat.reduceEqDiff, if_false, if_true, evG_some, exec_skip, exec_exit, R.ok_bind]
        with_reducible rfl
      refine hK _ x E b hx hE ?_ ?_ ?_ ?_
      · unfold ahS; simp only [Sl_cons, Sl_nil, T.get_set, T.puts_cons, T.puts_nil, Nat.reduceEqDiff, Nat.reduceAdd, if_true, if_false, and_true, true_and, f2, f7, f8, f9, f10, f12]
      · simp only [T.get_set, Nat.reduceEqDiff, if_true, if_false, f13]
      · simp only [T.get_set, Nat.reduceEqDiff, if_true, if_false, f15]
      · simp only [T.get_set, Nat.reduceEqDiff, if_true, if_false, f16]
  · simp only [Sl_cons, Sl_nil, T.get_set, T.puts_cons, T.puts_nil, Nat.reduceEqDiff, Nat.reduceAdd, if_true, if_false, and_true, true_and, g2, g7, g8, g9, g10, g12, h13, h15, h16]

set_option maxHeartbeats 4000000 in
theorem ahead_noughts {mv f ra rb ti0 g : Nat} {xo xa : Value} {t : T Value} {D : Mem} {K : Ex → St → Prop} (h2 : 2 ≤ f) (h9 : f ≤ 9) (hs : Sl t (ahS mv f ra rb ti0 xo)) (h13 : t.get 13 = some (.int .i64 (g : Int))) (h15 : t.get 15 = some xa)  (h16 : t.get 16 = some (.slice none 0 0))
    (hK : ∀ t' x D' b, Slc D' 3 b (ints (List.replicate f 0)) x → Ext D D' → Sl t' (ahS mv f ra rb ti0 xo) → t'.get 13 = some (.int .i64 (g : Int)) → t'.get 15 = some xa → t'.get 16 = some x → K .nrm ⟨t', 158, [], D', none⟩) :
    W tb1 (.seq (sub c5 [1,1,1,1,1,1,1,1,1,1,1,1,0,0]) (.block 4 (.loop c5b3))) ⟨t, 158, [], D, none⟩ K := by
  obtain ⟨g2, g7, g8, g9, g10, g12, -⟩ := hs
  apply W.seq
  apply W.run 20
  · intro M
    simp (config := { maxSteps := 4000000 }) (disch := first | decide +kernel | (rw [wantF_guard]; simp only [wantD_some, dstAt_zero, dstAt_succ, T.get_set, T.get_e, Nat.reduceEqDiff, if_true, if_false, wantV_bool, wantV_unit, unitV, cond_true, cond_false, Bool.not_true, Bool.not_false, List.toList_toArray]) | omega) only [c5, Try.f5, Option.getD_some, sub_seq1, sub_seq0, sub_nil, exec_region, runOps_cons, opF_assign, ev_int, putT_some, runOps_nil, R.ok_bind]
    with_reducible rfl
  apply W.block
  refine W.up f (fun i t E => ∃ x b, Slc E 3 b (ints (List.replicate i 0)) x ∧ D.next ≤ b ∧ Ext D E ∧ Sl t [(2, .int .u8 (mv : Int)), (7, xo), (8, .int .i64 (f : Int)), (9, .int .i64 (ra : Int)), (10, .int .i64 (rb : Int)), (12, .int .i64 (ti0 : Int)), (13, .int .i64 (g : Int)), (15, xa), (16, x), (18, .int .i64 (i : Int))]) ?_ (Nat.zero_le _) ⟨.slice none 0 0, D.next, .inl ⟨rfl, rfl⟩, Nat.le_refl _, Ext.refl D, ?_⟩
  · rintro i t E hi ⟨x, b, hx, hb, hE, f2, f7, f8, f9, f10, f12, f13, f15, f16, f18, -⟩
    rw [c5b3_eq]
    apply W.seq
    apply W.seq
    by_cases hlt : i < f
    · obtain ⟨ti, ht1, ht2⟩ := ty3
      have hE2 := Ext.alloc E (rowOb 3 [.int .i64 ((0 : Nat) : Int)])
      obtain ⟨x', F, happ, hs3, hn3, hf3⟩ := (hx.same hE2.n (fun hl => hE2.g b hl)).append (tb := tb1) (st := 24) (xt := 24) und24 und24 zc3 ht1 (by omega) (by omega) (by rw [ints_len, List.length_replicate]; omega) (get_alloc_self E _) rfl
      have hn2 : (E.alloc (rowOb 3 [.int .i64 ((0 : Nat) : Int)])).next = E.next + 1 := next_alloc _ _
      have hEn := hE.n
      apply W.run 20
      · intro M
        simp (config := { maxSteps := 4000000 }) (disch := first | decide +kernel | (rw [wantF_guard]; simp only [wantD_some, dstAt_zero, dstAt_succ, T.get_set, T.get_e, Nat.reduceEqDiff, if_true, if_false, wantV_bool, wantV_unit, unitV, cond_true, cond_false, Bool.not_true, Bool.not_false, List.toList_toArray]) | omega) only [c5b3, c5, Try.f5, Option.getD_some, sub_seq1, sub_seq0, sub_block, sub_loop, sub_nil, exec_region, runOps_cons, opF_move, ev_tmp, f18, evG_some, putT_some, T.get_set, Nat.reduceEqDiff, f8, if_false, opF_ari, if_true, runOps_nil, R.ok_bind, binF_int, op_lssI, cast_lt, hlt, decide_true]
        with_reducible rfl
      apply W.run 20
      · intro M
        simp (config := { maxSteps := 4000000 }) (disch := first | decide +kernel | (rw [wantF_guard]; simp only [wantD_some, dstAt_zero, dstAt_succ, T.get_set, T.get_e, Nat.reduceEqDiff, if_true, if_false, wantV_bool, wantV_unit, unitV, cond_true, cond_false, Bool.not_true, Bool.not_false, List.toList_toArray]) | omega) only [c5b3, c5, Try.f5, Option.getD_some, sub_seq1, sub_seq0, sub_block, sub_loop, sub_nil, exec_cond, ev_tmp, T.get_set, Nat.reduceEqDiff, if_false, if_true, evG_some, exec_skip, exec_exit, R.ok_bind]
        with_reducible rfl
      show W tb1 _ _ _
      apply W.run 20
      · intro M
        simp (config := { maxSteps := 4000000 }) (disch := first | decide +kernel | (rw [wantF_guard]; simp only [wantD_some, dstAt_zero, dstAt_succ, T.get_set, T.get_e, Nat.reduceEqDiff, if_true, if_false, wantV_bool, wantV_unit, unitV, cond_true, cond_false, Bool.not_true, Bool.not_false, List.toList_toArray]) | omega) only [c5b3, c5, Try.f5, Option.getD_some, sub_seq1, sub_seq0, sub_block, sub_loop, sub_nil, exec_seq, exec_block, exec_region, runOps_cons, opF_move, ev_tmp, T.get_set, Nat.reduceEqDiff, f16, if_false, evG_some, putT_some, opF_buildSlice, evp, ev_int, R.ok_bind, opF_builtin, evs, if_true, opF_assign, runOps_nil, builtin_append, bs24, at_slc, happ, f18, opF_ari, binF_int, op_add_i64]
        with_reducible rfl
      have e : ints (List.replicate (i + 1) 0) = ints (List.replicate i 0) ++ [.int .i64 ((0 : Nat) : Int)] := by
        rw [List.replicate_succ', ints_app]; rfl
      refine ⟨hlt, _, _, rfl, x', _, by rw [e]; exact hs3, by omega, ⟨by omega, fun y hy => by rw [hf3 y (by omega) (by omega), hE2.g y (by omega), hE.g y hy]⟩, ?_⟩
      simp only [Sl_cons, Sl_nil, T.get_set, T.puts_cons, T.puts_nil, Nat.reduceEqDiff, Nat.reduceAdd, if_true, if_false, and_true, true_and, f2, f7, f8, f9, f10, f12, f13, f15]
    · have hin : i = f := by omega
      subst hin
      apply W.run 20
      · intro M
        simp (config := { maxSteps := 4000000 }) (disch := first | decide +kernel | (rw [wantF_guard]; simp only [wantD_some, dstAt_zero, dstAt_succ, T.get_set, T.get_e, Nat.reduceEqDiff, if_true, if_false, wantV_bool, wantV_unit, unitV, cond_true, cond_false, Bool.not_true, Bool.not_false, List.toList_toArray]) | omega) only [c5b3, c5, Try.f5, Option.getD_some, sub_seq1, sub_seq0, sub_block, sub_loop, sub_nil, exec_region, runOps_cons, opF_move, ev_tmp, f18, evG_some, putT_some, T.get_set, Nat.reduceEqDiff, f8, if_false, opF_ari, if_true, runOps_nil, R.ok_bind, binF_int, op_lssI, cast_lt, Nat.lt_irrefl, decide_false]
        with_reducible rfl
      apply W.run 20
      · intro M
        simp (config := { maxSteps := 4000000 }) (disch := first | decide +kernel | (rw [wantF_guard]; simp only [wantD_some, dstAt_zero, dstAt_succ, T.get_set, T.get_e, Nat.reduceEqDiff, if_true, if_false, wantV_bool, wantV_unit, unitV, cond_true, cond_false, Bool.not_true, Bool.not_false, List.toList_toArray]) | omega) only [c5b3, c5, Try.f5, Option.getD_some, sub_seq1, sub_seq0, sub_block, sub_loop, sub_nil, exec_cond, ev_tmp, T.get_set, Nat.reduceEqDiff, if_false, if_true, evG_some, exec_skip, exec_exit, R.ok_bind]
        with_reducible rfl
      refine hK _ x E b hx hE ?_ ?_ ?_ ?_
      · unfold ahS; simp only [Sl_cons, Sl_nil, T.get_set, T.puts_cons, T.puts_nil, Nat.reduceEqDiff, Nat.reduceAdd, if_true, if_false, and_true, true_and, f2, f7, f8, f9, f10, f12]
      · simp only [T.get_set, Nat.reduceEqDiff, if_true, if_false, f13]
      · simp only [T.get_set, Nat.reduceEqDiff, if_true, if_false, f15]
      · simp only [T.get_set, Nat.reduceEqDiff, if_true, if_false, f16]
  · simp only [Sl_cons, Sl_nil, T.get_set, T.puts_cons, T.puts_nil, Nat.reduceEqDiff, Nat.reduceAdd, if_true, if_false, and_true, true_and, g2, g7, g8, g9, g10, g12, h13, h15, h16]
end Go.Proofs.Ytgkolgfkcelljaa.pck

/-
  Pick: what is put together, again and again (a plain law).
-/
namespace Go.Pick
set_option linter.unusedSimpArgs false
set_option linter.unusedVariables false
set_option linter.unusedVariables false

def addC (s n : Nat) : Nat := min 100000 (s + min 100000 n)
def sumC (l : List Nat) : Nat := l.foldl addC 0
theorem sumC_ok : ∀ (l : List Nat) (s : Nat), s ≤ 100000 → l.foldl addC s ≤ 100000 ∧ l.foldl addC s ≤ s + l.sum ∧ (s + l.sum ≤ 100000 → l.foldl addC s = s + l.sum)
  | [], s, h => ⟨h, by simp, fun _ => by simp⟩
  | n :: l, s, h => by
    have h0 : addC s n ≤ 100000 := by unfold addC; omega
    obtain ⟨h1, h2, h3⟩ := sumC_ok l (addC s n) h0
    rw [List.foldl_cons, List.sum_cons]
    have h4 : addC s n ≤ s + n := by unfold addC; omega
    refine ⟨h1, by omega, fun h5 => ?_⟩
    have h6 : addC s n = s + n := by unfold addC; omega
    rw [h3 (by omega), h6]; omega
def seg (r : Row) (l : List Nat) : List Nat := (l.drop r.a).take (r.b - r.a)
def repl (r : Row) (l : List Nat) : List Nat := l.take r.a ++ sumC (seg r l) :: l.drop r.b
theorem pickO_full {f : Nat} {l : List Nat} {r : Row} (h2 : 2 ≤ f) (h : pickO f l = some r) : r.a + 2 ≤ r.b ∧ r.b ≤ l.length := by
  have aux : ∀ (rs : List Row) (o : Option Row), (rs.foldl better o) = some r → o = some r ∨ r ∈ rs := by
    intro rs
    induction rs with
    | nil => intro o h; exact .inl h
    | cons q rs ih =>
      intro o h
      rw [List.foldl_cons] at h
      rcases ih _ h with h | h
      · unfold better at h
        split at h
        · cases h; exact .inr (List.mem_cons_self ..)
        · split at h
          · exact .inl h
          · cases h; exact .inr (List.mem_cons_self ..)
      · exact .inr (List.mem_cons_of_mem _ h)
  have hr := (rowsL_tier f _ _ _ r (pickO_row h)).2.2.1
  rcases aux _ none h with h | h
  · cases h
  · have hf := (List.mem_filter.1 h).2
    unfold fullR at hf
    have := of_decide_eq_true hf
    exact ⟨by omega, by omega⟩
theorem repl_len {r : Row} {l : List Nat} (h1 : r.a + 2 ≤ r.b) (h2 : r.b ≤ l.length) : (repl r l).length < l.length := by
  unfold repl
  simp only [List.length_append, List.length_take, List.length_cons, List.length_drop]
  omega
theorem repl_sum {r : Row} {l : List Nat} (h1 : r.a + 2 ≤ r.b) (h2 : r.b ≤ l.length) : (repl r l).sum ≤ l.sum ∧ (l.sum ≤ 100000 → (repl r l).sum = l.sum) := by
  have e1 : l.sum = (l.take r.a).sum + ((seg r l).sum + (l.drop r.b).sum) := by
    have : l = l.take r.a ++ (seg r l ++ l.drop r.b) := by
      unfold seg
      have : (l.drop r.a).take (r.b - r.a) ++ l.drop r.b = l.drop r.a := by
        have h : l.drop r.b = (l.drop r.a).drop (r.b - r.a) := by rw [List.drop_drop]; congr 1; omega
        rw [h, List.take_append_drop]
      rw [this, List.take_append_drop]
    conv => lhs; rw [this]
    rw [List.sum_append, List.sum_append]
  have e2 : (repl r l).sum = (l.take r.a).sum + (sumC (seg r l) + (l.drop r.b).sum) := by
    unfold repl
    rw [List.sum_append, List.sum_cons]
  obtain ⟨q1, q2, q3⟩ := sumC_ok (seg r l) 0 (by omega)
  have q2' : sumC (seg r l) ≤ (seg r l).sum := by unfold sumC; omega
  refine ⟨by omega, fun h => ?_⟩
  have q3' : sumC (seg r l) = (seg r l).sum := by unfold sumC; rw [q3 (by omega)]; omega
  omega
/-- As long as there is something. -/
def settleN (f : Nat) : Nat → List Nat → List Nat
  | 0, l => l
  | k + 1, l => match pickO f l with
    | none => l
    | some r => settleN f k (repl r l)
def settleL (f : Nat) (l : List Nat) : List Nat := settleN f l.length l
theorem settleN_ok {f : Nat} (h2 : 2 ≤ f) : ∀ (k : Nat) (l : List Nat), l.length ≤ k → pickO f (settleN f k l) = none ∧ (settleN f k l).length ≤ l.length ∧ (settleN f k l).sum ≤ l.sum ∧ (l.sum ≤ 100000 → (settleN f k l).sum = l.sum)
  | 0, l, h => by
    have : l = [] := List.length_eq_zero_iff.1 (by omega)
    subst this
    exact ⟨rfl, Nat.le_refl _, Nat.le_refl _, fun _ => rfl⟩
  | k + 1, l, h => by
    unfold settleN
    cases hp : pickO f l with
    | none => exact ⟨hp, Nat.le_refl _, Nat.le_refl _, fun _ => rfl⟩
    | some r =>
      obtain ⟨r1, r2⟩ := pickO_full h2 hp
      have hl := repl_len r1 r2
      obtain ⟨s1, s2⟩ := repl_sum r1 r2
      obtain ⟨i1, i2, i3, i4⟩ := settleN_ok h2 k (repl r l) (by omega)
      simp only
      refine ⟨i1, by omega, by omega, fun hs => ?_⟩
      rw [i4 (by rw [s2 hs]; exact hs), s2 hs]
theorem settle_none {f : Nat} {l : List Nat} (h : pickO f l = none) : settleL f l = l := by
  unfold settleL
  cases l with
  | nil => rfl
  | cons n l =>
    rw [List.length_cons]
    unfold settleN
    rw [h]
theorem settleN_step {f k : Nat} {l : List Nat} {r : Row} (h : pickO f l = some r) : settleN f (k + 1) l = settleN f k (repl r l) := by
  rw [settleN, h]
/-- All numbers stay small. -/
theorem settleN_le {f m : Nat} (hm : 100000 ≤ m) : ∀ (k : Nat) (l : List Nat), (∀ n ∈ l, n ≤ m) → ∀ n ∈ settleN f k l, n ≤ m
  | 0, l, h => h
  | k + 1, l, h => by
    unfold settleN
    cases hp : pickO f l with
    | none => exact h
    | some r =>
      simp only
      refine settleN_le hm k (repl r l) fun n hn => ?_
      unfold repl at hn
      rcases List.mem_append.1 hn with h1 | h1
      · exact h n (List.mem_of_mem_take h1)
      · rcases List.mem_cons.1 h1 with h1 | h1
        · rw [h1]
          have := (sumC_ok (seg r l) 0 (by omega)).1
          unfold sumC; omega
        · exact h n (List.mem_of_mem_drop h1)
end Go.Pick

