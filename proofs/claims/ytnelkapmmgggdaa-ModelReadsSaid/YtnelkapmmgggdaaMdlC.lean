/-
  What the functions of this group compute on the abstract machine, and the plain laws of it. Part C: conditions stand in each theorem.
-/
import Derived.Test.YtnelkapmmgggdaaMdlB

set_option maxHeartbeats 16000000
set_option maxRecDepth 20000
/-
  Model: the distance; within.
-/
namespace Go.Proofs.Ytnelkapmmgggdaa.wth
open Go.Am
open Go.Dist
open Go.Proofs.Ytnelkapmmgggdaa.mdl (tb4 tb4_ok fn_at)
set_option linter.unusedSimpArgs false
set_option linter.unusedVariables false
set_option linter.unusedVariables false


def rowOf (q s : List UInt8) : List Nat := (List.range (q.length + 1)).map fun i => Go.Dist.dist (q.take i) s
theorem rowOf_len (q s : List UInt8) : (rowOf q s).length = q.length + 1 := by simp [rowOf]
theorem rowOf_get {q s : List UInt8} {i : Nat} (h : i ≤ q.length) : (rowOf q s).getD i 0 = Go.Dist.dist (q.take i) s := by
  simp [rowOf, List.getD, List.getElem?_eq_getElem (show i < (List.range (q.length + 1)).length by simp; omega)]
theorem rowOf_nil (q : List UInt8) : rowOf q [] = List.range (q.length + 1) := by
  unfold rowOf
  conv => rhs; rw [← List.map_id (List.range (q.length + 1))]
  apply List.map_congr_left
  intro i hi
  rw [List.mem_range] at hi
  rw [dist_nil', List.length_take]
  show min i q.length = i
  omega
theorem take_getD {q : List UInt8} {i : Nat} (h : i < q.length) : q.take (i + 1) = q.take i ++ [q.getD i 0] := by
  rw [List.take_succ_eq_append_getElem h]; simp [List.getD, List.getElem?_eq_getElem h]
theorem nextL_eq (q s : List UInt8) (c : UInt8) : ∀ i, i ≤ q.length → nextL q (rowOf q s) c i = (rowOf q (s ++ [c])).take (i + 1)
  | 0, h => by
    have e : (rowOf q (s ++ [c])).take 1 = [(rowOf q (s ++ [c])).getD 0 0] := by
      have hl := rowOf_len q (s ++ [c])
      cases hr : rowOf q (s ++ [c]) with
      | nil => rw [hr] at hl; simp at hl
      | cons x l => simp
    show [_] = _
    rw [e, rowOf_get h, rowOf_get h]
    simp [dist_nil]
  | i + 1, h => by
    show nextL q (rowOf q s) c i ++ [stepD q (rowOf q s) (nextL q (rowOf q s) c i) c i] = _
    rw [nextL_eq q s c i (by omega)]
    have hl := rowOf_len q (s ++ [c])
    have e : (rowOf q (s ++ [c])).take (i + 1 + 1) = (rowOf q (s ++ [c])).take (i + 1) ++ [(rowOf q (s ++ [c])).getD (i + 1) 0] := by
      rw [List.take_succ_eq_append_getElem (by omega)]; simp [List.getD, List.getElem?_eq_getElem (show i + 1 < (rowOf q (s ++ [c])).length by omega)]
    rw [e]
    congr 2
    have eg : ((rowOf q (s ++ [c])).take (i + 1)).getD i 0 = Go.Dist.dist (q.take i) (s ++ [c]) := by
      rw [← rowOf_get (by omega)]
      simp [List.getD, List.getElem?_take]
    rw [rowOf_get h, stepD, rowOf_get (by omega), rowOf_get h, eg, take_getD (by omega)]
    by_cases hc : q.getD i 0 = c
    · rw [if_pos hc, hc, dist_snoc]
    · rw [if_neg hc, dist_snoc_ne hc]; omega
theorem nextD_eq (q s : List UInt8) (c : UInt8) : nextD q (rowOf q s) c = rowOf q (s ++ [c]) := by
  show nextL q _ c q.length = _
  rw [nextL_eq q s c _ (Nat.le_refl _), ← rowOf_len q (s ++ [c]), List.take_length]
theorem rowOf_small {q s : List UInt8} (hq : q.length ≤ 900000) (hs : s.length ≤ 900000) : ∀ n ∈ rowOf q s, n ≤ 2000000 := by
  intro n hn
  simp only [rowOf, List.mem_map, List.mem_range] at hn
  obtain ⟨i, hi, rfl⟩ := hn
  have := dist_max (q.take i) s
  rw [List.length_take] at this
  omega

noncomputable def c32 : Code := Try.f32.body.getD .skip
noncomputable def c32b1 : Code := sub c32 [1,1,0,1,0,0]
theorem c32_eq : Try.f32.body = some (.seq (sub c32 [0]) (.seq (sub c32 [1,0]) (.seq (.seq (sub c32 [1,1,0,0]) (.block 0 (.loop c32b1))) (.seq (sub c32 [1,1,1,0]) (sub c32 [1,1,1,1]))))) := by kernel_rfl
theorem run_of (a b : List UInt8) (ha : a.length ≤ 900000) (hb : b.length ≤ 900000) (A : Mem) : ∃ A', Ans tb4 32 [strOf a, strOf b] A (.int .i64 (Go.Dist.dist a b : Nat)) A' ∧ Ext A A' := by
  obtain ⟨v, A', h1, h2, h3⟩ : ∃ v A', Ans tb4 32 [strOf a, strOf b] A v A' ∧ v = .int .i64 (Go.Dist.dist a b : Nat) ∧ Ext A A' := by
    refine ans_of_W (fn_at Try.func32) c32_eq (by rw [Try.ntmps32]; simp) (by kernel_rfl) (by kernel_rfl) ?_
    apply W.seq
    apply W.run 20
    · intro M
      simp (disch := first | decide +kernel | omega) only [c32, Try.f32, Option.getD_some, sub_seq0, sub_nil, T.puts_cons, Nat.reduceAdd, T.puts_nil, exec_region, runOps_cons, opF_assign, ev_int, putT_some, runOps_nil, R.ok_bind]
      with_reducible rfl
    apply W.seq
    obtain ⟨xr, B, ⟨g, hg⟩, hs, hE⟩ := run_row a ha A
    apply W.runG (g) 20
    · intro M hM
      simp (disch := first | decide +kernel | omega) only [c32, Try.f32, Option.getD_some, sub_seq1, sub_seq0, sub_nil, exec_region, runOps_cons, opF_move, ev_tmp, T.get_set, Nat.reduceEqDiff, T.get_e, if_true, if_false, evG_some, putT_some, opF_call, evs, R.ok_bind, resK, opF_assign, runOps_nil, hg]
      with_reducible rfl
    apply W.seq
    apply W.seq
    apply W.run 20
    · intro M
      simp (disch := first | decide +kernel | omega) only [c32, Try.f32, Option.getD_some, sub_seq1, sub_seq0, sub_nil, exec_region, runOps_cons, opF_move, ev_tmp, T.get_set, Nat.reduceEqDiff, T.get_e, if_false, if_true, evG_some, putT_some, opF_len, evs, R.ok_bind, ev_int, runOps_nil, len_str und9]
      with_reducible rfl
    apply W.block
    refine W.up b.length (fun k t C => ∃ bs xr, Slc C 3 bs (ints (rowOf a (b.take k))) xr ∧ Ext A C ∧ Sl t [(0, strOf a), (1, strOf b), (5, xr), (10, .int .i64 (b.length : Int)), (11, .int .i64 (k : Int))]) ?_ (Nat.zero_le _) ⟨A.next, xr, by rw [List.take_zero, rowOf_nil]; exact hs, hE, ?_⟩
    · rintro k t C hk ⟨bs, xr, hs, hEC, g0, g1, g5, g10, g11, -⟩
      by_cases hlt : k < b.length
      · obtain ⟨v, D, ⟨g, hg⟩, hE, bd, hbd, hsd⟩ := run_next (c := b.getD k 0) ha (rowOf_small ha (by rw [List.length_take]; omega)) hs
        rw [if_pos (rowOf_len _ _), nextD_eq, ← take_getD hlt] at hsd
        apply W.runG (g) 20
        · intro M hM
          simp (disch := first | decide +kernel | omega) only [c32b1, c32, Try.f32, Option.getD_some, sub_seq1, sub_seq0, sub_block, sub_loop, sub_nil, exec_seq, exec_region, runOps_cons, opF_ari, ev_tmp, g11, evG_some, g10, putT_some, runOps_nil, R.ok_bind, binF_int, op_lssI, cast_lt, hlt, decide_true, exec_cond, exec_skip, exec_exit, exec_block, opF_move, ev_int, T.get_set, if_true, Nat.reduceEqDiff, if_false, opF_assign, g0, g5, g1, opF_index, opF_call, evs, resK, index_str und9, hg, op_add_i64]
          with_reducible rfl
        refine ⟨hlt, _, _, rfl, bd, v, hsd, hEC.trans hE, ?_⟩
        simp only [Sl_cons, Sl_nil, T.get_set, T.puts_cons, T.puts_nil, Nat.reduceEqDiff, Nat.reduceAdd, if_true, if_false, and_true, true_and, g0, g1, g10]
      · have hkn : k = b.length := by omega
        subst hkn
        rw [List.take_length] at hs
        apply W.run 20
        · intro M
          simp (disch := first | decide +kernel | omega) only [c32b1, c32, Try.f32, Option.getD_some, sub_seq1, sub_seq0, sub_block, sub_loop, sub_nil, exec_seq, exec_region, runOps_cons, opF_ari, ev_tmp, g11, evG_some, g10, putT_some, runOps_nil, R.ok_bind, binF_int, op_lssI, cast_lt, Nat.lt_irrefl, decide_false, exec_cond, exec_skip, exec_exit, exec_block, opF_move, ev_int, T.get_set, if_true]
          with_reducible rfl
        apply W.seq
        have hix := hs.idx (tb := tb4) (t := 104) (t' := 3) (kd := .i64) (i := a.length) und104 size3 (by rw [ints_len, rowOf_len]; omega)
        have hld := hs.load (tb := tb4) (t := 3) (o := a.length) und3 rfl (ints_get (getD_some (by rw [rowOf_len]; omega)))
        rw [rowOf_get (Nat.le_refl _), List.take_length] at hld
        apply W.run 20
        · intro M
          simp (disch := first | decide +kernel | omega) only [c32, Try.f32, Option.getD_some, sub_seq1, sub_seq0, sub_nil, exec_region, runOps_cons, opF_move, ev_tmp, T.get_set, Nat.reduceEqDiff, g5, if_false, evG_some, putT_some, g0, opF_len, evs, if_true, R.ok_bind, opF_indexAddr, opF_load, opF_assign, runOps_nil, len_str und9, hix, hld]
          with_reducible rfl
        apply W.run 20
        · intro M
          simp (disch := first | decide +kernel | omega) only [c32, Try.f32, Option.getD_some, sub_seq1, sub_nil, exec_ret]
          with_reducible rfl
        refine ⟨.inr rfl, _, [.int .i64 (Go.Dist.dist a b : Nat)], rfl, ?_, rfl, hEC⟩
        simp only [Try.f32, resF, ev_tmp, T.get_set, Nat.reduceEqDiff, if_true, if_false, evG_some, R.ok_bind]
    · simp only [Sl_cons, Sl_nil, T.get_set, T.puts_cons, T.puts_nil, Nat.reduceEqDiff, Nat.reduceAdd, if_true, if_false, and_true, true_and]
  subst h2
  exact ⟨A', h1, h3⟩

noncomputable def c21 : Code := Try.f21.body.getD .skip
theorem c21_eq : Try.f21.body = some (.seq (sub c21 [0]) (.seq (.seq (sub c21 [1,0,0]) (.seq (sub c21 [1,0,1,0]) (sub c21 [1,0,1,1]))) (.seq (sub c21 [1,1,0]) (sub c21 [1,1,1])))) := by kernel_rfl
def withinD (a b : List UInt8) (k : Int) : Value := if (Go.Dist.dist a b : Int) ≤ k then .tuple ⟨[.int .i64 (Go.Dist.dist a b : Nat), .bool true]⟩ else .tuple ⟨[.int .i64 ((0 : Nat) : Int), .bool false]⟩
theorem run_within (a b : List UInt8) (k : Int) (ha : a.length ≤ 900000) (hb : b.length ≤ 900000) (A : Mem) : ∃ A', Ans tb4 21 [strOf a, strOf b, .int .i64 k] A (withinD a b k) A' ∧ Ext A A' := by
  obtain ⟨v, A', h1, h2, h3⟩ : ∃ v A', Ans tb4 21 [strOf a, strOf b, .int .i64 k] A v A' ∧ v = withinD a b k ∧ Ext A A' := by
    refine ans_of_W (fn_at Try.func21) c21_eq (by rw [Try.ntmps21]; simp) (by kernel_rfl) (by kernel_rfl) ?_
    obtain ⟨B, ⟨g, hg⟩, hEB⟩ := run_of a b ha hb A
    apply W.seq
    apply W.run 20
    · intro M
      simp (disch := first | decide +kernel | omega) only [c21, Try.f21, Option.getD_some, sub_seq0, sub_nil, T.puts_cons, Nat.reduceAdd, T.puts_nil, exec_region, runOps_cons, opF_assign, ev_int, putT_some, ev_bool, runOps_nil, R.ok_bind]
      with_reducible rfl
    apply W.seq
    apply W.seq
    apply W.runG (g) 20
    · intro M hM
      simp (disch := first | decide +kernel | omega) only [c21, Try.f21, Option.getD_some, sub_seq1, sub_seq0, sub_nil, exec_region, runOps_cons, opF_move, ev_tmp, T.get_set, Nat.reduceEqDiff, T.get_e, if_true, if_false, evG_some, putT_some, opF_call, evs, R.ok_bind, resK, opF_assign, runOps_nil, hg]
      with_reducible rfl
    apply W.seq
    apply W.run 20
    · intro M
      simp (disch := first | decide +kernel | omega) only [c21, Try.f21, Option.getD_some, sub_seq1, sub_seq0, sub_nil, exec_region, runOps_cons, opF_move, ev_tmp, T.get_set, Nat.reduceEqDiff, T.get_e, if_false, if_true, evG_some, putT_some, opF_ari, runOps_nil, R.ok_bind, binF_int, op_leq]
      with_reducible rfl
    by_cases hk : (Go.Dist.dist a b : Int) ≤ k
    · apply W.run 20
      · intro M
        simp (disch := first | decide +kernel | omega) only [c21, Try.f21, Option.getD_some, sub_seq1, sub_seq0, sub_nil, hk, decide_true, exec_cond, ev_tmp, T.get_set, Nat.reduceEqDiff, T.get_e, if_false, if_true, evG_some, exec_seq, exec_region, runOps_cons, opF_move, putT_some, opF_assign, ev_bool, runOps_nil, R.ok_bind, exec_ret, exec_skip]
        with_reducible rfl
      refine ⟨.inr rfl, _, [.int .i64 (Go.Dist.dist a b : Nat), .bool true], rfl, ?_, by rw [withinD, if_pos hk]; rfl, hEB⟩
      simp only [Try.f21, resF, ev_tmp, T.get_set, Nat.reduceEqDiff, if_true, if_false, evG_some, R.ok_bind]
    · apply W.run 20
      · intro M
        simp (disch := first | decide +kernel | omega) only [c21, Try.f21, Option.getD_some, sub_seq1, sub_seq0, sub_nil, hk, decide_false, exec_cond, ev_tmp, T.get_set, Nat.reduceEqDiff, T.get_e, if_false, if_true, evG_some, exec_seq, exec_region, runOps_cons, opF_move, putT_some, opF_assign, ev_bool, runOps_nil, R.ok_bind, exec_ret, exec_skip]
        with_reducible rfl
      apply W.seq
      apply W.run 20
      · intro M
        simp (disch := first | decide +kernel | omega) only [c21, Try.f21, Option.getD_some, sub_seq1, sub_seq0, sub_nil, exec_region, runOps_cons, opF_assign, ev_int, putT_some, ev_bool, runOps_nil, R.ok_bind]
        with_reducible rfl
      apply W.run 20
      · intro M
        simp (disch := first | decide +kernel | omega) only [c21, Try.f21, Option.getD_some, sub_seq1, sub_nil, exec_ret]
        with_reducible rfl
      refine ⟨.inr rfl, _, [.int .i64 ((0 : Nat) : Int), .bool false], rfl, ?_, by rw [withinD, if_neg hk]; rfl, hEB⟩
      simp only [Try.f21, resF, ev_tmp, T.get_set, Nat.reduceEqDiff, if_true, if_false, evG_some, R.ok_bind]
  subst h2
  exact ⟨A', h1, h3⟩
end Go.Proofs.Ytnelkapmmgggdaa.wth

/-
  Model: the row of a heap of hits: read, written, appended to.
-/
namespace Go.Proofs.Ytnelkapmmgggdaa.mdl
open Go.Am Go.Mdl
open Go.Proofs.Ytnelkapmmgggdaa.rnk (HitD hitC ordD lessB sortH ordK lessK hitC_len)
set_option linter.unusedSimpArgs false
set_option linter.unusedVariables false
set_option linter.unusedVariables false

theorem und99 : tb4.und 99 = some (.slice 63) := by kernel_rfl
theorem und51 : tb4.und 51 = some (.slice 63) := by kernel_rfl
theorem size63' : sizeF tb4 63 = .ok 4 := by kernel_rfl
def hitZ : List Value := [.string .empty, .int .u32 0, .bool false, .int .i64 0]
theorem zc63 : zcellsF tb4 63 = .ok (4, hitZ) := by kernel_rfl
theorem z63 : zeroF tb4 63 = .ok (.agg ⟨hitZ⟩) := by kernel_rfl
theorem ty63 : ∃ ti, tb4.ty.get 63 = some ti ∧ 0 < ti.bytes ∧ ti.bytes ≤ 65536 := by
  cases h : tb4.ty.get 63 with
  | none => exact absurd (show (tb4.ty.get 63).isSome = true by kernel_rfl) (by rw [h]; decide)
  | some ti =>
    have e : (tb4.ty.get 63).map (fun i => (Nat.blt 0 i.bytes && Nat.ble i.bytes 65536)) = some true := by kernel_rfl
    rw [h, Option.map_some, Option.some.injEq, Bool.and_eq_true, Nat.blt_eq] at e
    exact ⟨ti, rfl, e.1, Nat.le_of_ble_eq_true e.2⟩
theorem und63' : ∃ d, tb4.und 63 = some d ∧ isAggD d = true := by
  have h : (tb4.und 63).map isAggD = some true := by kernel_rfl
  cases hq : tb4.und 63 with
  | none => rw [hq] at h; cases h
  | some d => rw [hq] at h; exact ⟨d, rfl, by simpa using h⟩
theorem hitC_one (h : HitD) : ∀ v ∈ hitC h, oneCell v = true := by
  intro v hv
  unfold hitC at hv
  simp only [List.mem_cons, List.not_mem_nil, or_false] at hv
  rcases hv with rfl | rfl | rfl | rfl <;> rfl
def HCells (cs : T Value) (l : List HitD) (m : Nat) : Prop := (∀ (i : Nat) (h : HitD) (j : Nat), l[i]? = some h → j < 4 → cs.get (i * 4 + j) = (hitC h)[j]?) ∧ ∀ i, i < m * 4 → ∃ v, cs.get i = some v
def HRow (A : Mem) (b : Nat) (l : List HitD) (c : Nat) : Prop :=
  (l = [] ∧ c = 0 ∧ ∃ k cs, A.get b = some (.cells 63 k 0 cs)) ∨ ∃ m cs, c = mkX m 4 ∧ l.length ≤ m ∧ m ≤ 100000 ∧ A.get b = some (.cells 63 .row 0 cs) ∧ HCells cs l m
theorem HRow.same {A A' : Mem} {b c : Nat} {l : List HitD} (h : HRow A b l c) (hg : A'.get b = A.get b) : HRow A' b l c := by
  rcases h with ⟨h1, h2, k, cs, h3⟩ | ⟨m, cs, h1, h2, h3, h4, h5⟩
  · exact .inl ⟨h1, h2, k, cs, by rw [hg]; exact h3⟩
  · exact .inr ⟨m, cs, h1, h2, h3, by rw [hg]; exact h4, h5⟩
theorem HRow.at {A : Mem} {b c i : Nat} {l : List HitD} {h : HitD} (hr : HRow A b l c) (hi : l[i]? = some h) :
    indexAddrF tb4 99 (.slice (some ⟨b, 0, none⟩) l.length c) (.int .i64 ((i : Nat) : Int)) = .ok (.pointer (some ⟨b, i * 4, none⟩)) ∧ loadF tb4 A.get 63 (.pointer (some ⟨b, i * 4, none⟩)) = .ok (.agg ⟨hitC h⟩) := by
  have hlt := (List.getElem?_eq_some_iff.1 hi).1
  obtain ⟨d63, hd1, hd2⟩ := und63'
  rcases hr with ⟨h1, -⟩ | ⟨m, cs, h1, h2, h3, h4, h5, h6⟩
  · subst h1; simp at hi
  · refine ⟨?_, ?_⟩
    · have hb : Nat.blt i l.length = true := by rw [Nat.blt_eq]; exact hlt
      have hn : natV (.int .i64 (i : Int)) = .ok i := rfl
      unfold indexAddrF
      simp only [hn, und99, hb, cond_true, size63', R.ok_bind, addA, Nat.zero_add]
    · have hgs : cs.gets 4 (i * 4) = some (hitC h) := gets_eq _ _ _ _ rfl fun j hj => h5 i h j hi hj
      unfold loadF
      simp only [h4, hd1, hd2, cond_true, size63', R.ok_bind, hgs]
theorem HCells.put {cs : T Value} {l l' : List HitD} {m i : Nat} {h : HitD} (hc : HCells cs l m) (him : i < m) (hl : ∀ j x, l'[j]? = some x → (j = i ∧ x = h) ∨ (j ≠ i ∧ l[j]? = some x)) :
    storesF 0 0 (hitC h) (i * 4) cs = .ok (cs.puts (i * 4) (hitC h)) ∧ HCells (cs.puts (i * 4) (hitC h)) l' m := by
  refine ⟨stores_in 0 _ _ _ (hitC_one h) fun j hj => .inl (hc.2 _ (by have : j < 4 := hj; omega)), fun k x j hk hj => ?_, fun k hk => ?_⟩
  · rw [T.get_puts]
    have h4 : (hitC h).length = 4 := rfl
    rcases hl k x hk with ⟨rfl, rfl⟩ | ⟨hne, hk'⟩
    · rw [if_pos ⟨by omega, by omega⟩, Nat.add_sub_cancel_left]
    · rw [if_neg (by rintro ⟨h1, h2⟩; rw [h4] at h2; omega)]
      exact hc.1 k x j hk' hj
  · rw [T.get_puts]
    split
    · rename_i hh
      have h4 : (hitC h).length = 4 := rfl
      exact ⟨_, List.getElem?_eq_getElem (by omega)⟩
    · exact hc.2 k hk
theorem HRow.put {A : Mem} {b c i : Nat} {l : List HitD} {h : HitD} (hr : HRow A b l c) (hi : i < l.length) :
    ∃ A', storeF tb4 A 63 (.pointer (some ⟨b, i * 4, none⟩)) (.agg ⟨hitC h⟩) = .ok A' ∧ HRow A' b (l.set i h) c ∧ A'.next = A.next ∧ ∀ y, y ≠ b → A'.get y = A.get y := by
  rcases hr with ⟨h1, -⟩ | ⟨m, cs, h1, h2, h3, h4, hc⟩
  · subst h1; simp at hi
  · obtain ⟨s1, s2⟩ := hc.put (l' := l.set i h) (h := h) (i := i) (by omega) fun j x hj => by
      rw [List.getElem?_set] at hj
      by_cases hij : i = j
      · subst hij
        rw [if_pos rfl, if_pos hi] at hj
        exact .inl ⟨rfl, (Option.some.inj hj).symm⟩
      · rw [if_neg hij] at hj
        exact .inr ⟨fun e => hij e.symm, hj⟩
    refine ⟨A.set b (.cells 63 .row 0 (cs.puts (i * 4) (hitC h))), ?_, .inr ⟨m, _, h1, by rw [List.length_set]; exact h2, h3, by rw [get_setMem, if_pos rfl], s2⟩, rfl, fun y hy => by rw [get_setMem, if_neg hy]⟩
    unfold storeF
    have hcl : (Value.agg ⟨hitC h⟩).cells.toList = hitC h := rfl
    simp only [size63', R.ok_bind, hcl]
    have hb : Nat.beq (hitC h).length 4 = true := rfl
    rw [hb, cond_true]
    unfold storeAtF
    unfold hitC at s1 ⊢
    have s1' : storesF (roomK .row) 0 [strOf h.e.word, .int .u32 (h.e.weight : Int), .bool h.e.gone, .int .i64 (h.dist : Int)] (i * 4) cs = .ok (cs.puts (i * 4) [strOf h.e.word, .int .u32 (h.e.weight : Int), .bool h.e.gone, .int .i64 (h.dist : Int)]) := s1
    simp only [h4, s1', R.ok_bind]
theorem hits_len (l : List HitD) : ((l.map hitC).flatten).length = l.length * 4 := by
  have := flat_len (n := 4) (ls := l.map hitC) (fun x hx => by obtain ⟨e, _, rfl⟩ := List.mem_map.1 hx; rfl)
  rw [this, List.length_map]
theorem hits_get {l : List HitD} {h : HitD} {i j : Nat} (hi : l[i]? = some h) (hj : j < 4) : ((l.map hitC).flatten)[i * 4 + j]? = (hitC h)[j]? :=
  flat_get (n := 4) (ls := l.map hitC) (fun x hx => by obtain ⟨e, _, rfl⟩ := List.mem_map.1 hx; rfl) (by rw [List.getElem?_map, hi]; rfl) hj
theorem hcells_new (l : List HitD) : HCells (T.puts .e 0 ((l.map hitC).flatten)) l l.length := by
  refine ⟨fun i h j hi hj => ?_, fun i hi => ?_⟩
  · have hlt := (List.getElem?_eq_some_iff.1 hi).1
    rw [T.get_puts, Nat.zero_add, if_pos ⟨Nat.zero_le _, by rw [hits_len]; omega⟩, Nat.sub_zero, hits_get hi hj]
  · rw [T.get_puts, Nat.zero_add, if_pos ⟨Nat.zero_le _, by rw [hits_len]; exact hi⟩, Nat.sub_zero]
    exact ⟨_, List.getElem?_eq_getElem (by rw [hits_len]; exact hi)⟩
theorem HRow.elems {A : Mem} {b c : Nat} {l : List HitD} (hr : HRow A b l c) : elemsF A.get 4 l.length (some ⟨b, 0, none⟩) = .ok ((l.map hitC).flatten) := by
  rcases hr with ⟨h1, -⟩ | ⟨m, cs, h1, h2, h3, h4, hc⟩
  · subst h1; rfl
  · refine elemsF_at h4 (hits_len l) fun j hj => ?_
    rw [hits_len] at hj
    have hq : j / 4 < l.length := by omega
    have e : j / 4 * 4 + j % 4 = j := by omega
    have h4' : j % 4 < 4 := Nat.mod_lt _ (by decide)
    have g1 := hc.1 (j / 4) l[j / 4] (j % 4) (List.getElem?_eq_getElem hq) h4'
    have g2 := hits_get (l := l) (h := l[j / 4]) (i := j / 4) (j := j % 4) (List.getElem?_eq_getElem hq) h4'
    rw [e] at g1 g2
    rw [Nat.zero_add, g1, g2]
theorem HRow.app {A : Mem} {b c q : Nat} {l : List HitD} {h : HitD} (hr : HRow A b l c) (hb : b < A.next) (hq : A.get q = some (rowOb 63 (hitC h))) (hl : l.length < 90000) :
    ∃ b' c' A', appendF tb4 A 99 99 (.slice (some ⟨b, 0, none⟩) l.length c) (.slice (some ⟨q, 0, none⟩) 1 2) = .ok (.slice (some ⟨b', 0, none⟩) (l.length + 1) c', A') ∧ HRow A' b' (l ++ [h]) c' ∧ (b' = b ∨ b' = A.next) ∧ b' < A'.next ∧ A.next ≤ A'.next ∧ ∀ y, y ≠ b → y < A.next → A'.get y = A.get y := by
  obtain ⟨ti, hti, hb1, hb2⟩ := ty63
  have hnew : firstF A.get 4 1 (.slice (some ⟨q, 0, none⟩) 1 2) = .ok (hitC h) := by
    have h4 : (hitC h).length = 1 * 4 := rfl
    exact elemsF_valsN (n := 4) (vals_puts (e := 63) (k := .var (hitC h).length) hq) h4
  have hel := hr.elems
  have hlim : (Nat.ble (l.length + 1) 16777216 && Nat.ble ti.bytes 65536 && Nat.blt 0 ti.bytes && Nat.blt 0 4 && Nat.blt 4 65536) = true := by
    have a1 : Nat.ble (l.length + 1) 16777216 = true := Nat.ble_eq_true_of_le (by omega)
    have a2 : Nat.ble ti.bytes 65536 = true := Nat.ble_eq_true_of_le hb2
    have a3 : Nat.blt 0 ti.bytes = true := by rw [Nat.blt_eq]; exact hb1
    rw [a1, a2, a3]; rfl
  have hfl : (l.map hitC).flatten ++ hitC h = ((l ++ [h]).map hitC).flatten := by simp
  have hll : (l ++ [h]).length = l.length + 1 := by simp
  have grown : ∀ (A0 : Mem), A0.next = A.next → (∀ y, y ≠ b → A0.get y = A.get y) →
      HRow (A0.alloc (.cells 63 .row 0 (T.puts .e 0 ((l.map hitC).flatten ++ hitC h)))) A.next (l ++ [h]) (mkX (l.length + 1) 4) ∧ A.next < (A0.alloc (.cells 63 .row 0 (T.puts .e 0 ((l.map hitC).flatten ++ hitC h)))).next ∧ ∀ y, y ≠ b → y < A.next → (A0.alloc (.cells 63 .row 0 (T.puts .e 0 ((l.map hitC).flatten ++ hitC h)))).get y = A.get y := by
    intro A0 hn hg
    refine ⟨.inr ⟨l.length + 1, _, rfl, by rw [hll]; exact Nat.le_refl _, by omega, by rw [← hn]; exact get_alloc_self _ _, ?_⟩, by rw [next_alloc]; omega, fun y hy hlt => by rw [get_alloc_ne (by omega), hg y hy]⟩
    rw [hfl, ← hll]
    exact hcells_new _
  rcases hr with ⟨h1, h2, k, cs, h3⟩ | ⟨m, cs, h1, h2, h3, h4, hc⟩
  · subst h1 h2
    obtain ⟨g1, g2, g3⟩ := grown A rfl (fun _ _ => rfl)
    refine ⟨A.next, _, _, ?_, g1, .inr rfl, g2, by omega, g3⟩
    have hble : Nat.ble (0 + 1) (capN 0) = false := rfl
    have hx : capX 0 = true := rfl
    unfold appendF appendG
    simp only [und99, isIntD, cond_false, zc63, R.ok_bind, lenF, hnew, List.length_nil, hble, hti]
    simp only [List.length_nil, Nat.zero_add] at hlim hel
    simp only [Nat.zero_add, hlim, cond_true, hel, R.ok_bind, hx]
  · subst h1
    have hcn : capN (mkX m 4) = m := capN_mkX (by decide)
    by_cases hlt : l.length < m
    · obtain ⟨s1, s2⟩ := hc.put (l' := l ++ [h]) (h := h) (i := l.length) hlt fun j x hj => by
        rcases Nat.lt_trichotomy j l.length with h1 | h1 | h1
        · rw [List.getElem?_append_left h1] at hj
          exact .inr ⟨by omega, hj⟩
        · subst h1
          rw [List.getElem?_append_right (Nat.le_refl _), Nat.sub_self] at hj
          exact .inl ⟨rfl, (Option.some.inj hj).symm⟩
        · rw [List.getElem?_eq_none (by rw [hll]; omega)] at hj
          cases hj
      refine ⟨b, mkX m 4, A.set b (.cells 63 .row 0 (cs.puts (l.length * 4) (hitC h))), ?_, .inr ⟨m, _, rfl, by rw [hll]; omega, h3, by rw [get_setMem, if_pos rfl], s2⟩, .inl rfl, hb, Nat.le_refl _, fun y hy _ => by rw [get_setMem, if_neg hy]⟩
      have hble : Nat.ble (l.length + 1) m = true := Nat.ble_eq_true_of_le (by omega)
      unfold appendF appendG
      simp only [und99, isIntD, cond_false, zc63, R.ok_bind, lenF, hnew, hcn, hble, cond_true, addA, Nat.zero_add]
      unfold storeAtF
      unfold hitC at s1 ⊢
      have s1' : storesF (roomK .row) 0 [strOf h.e.word, .int .u32 (h.e.weight : Int), .bool h.e.gone, .int .i64 (h.dist : Int)] (l.length * 4) cs = .ok (cs.puts (l.length * 4) [strOf h.e.word, .int .u32 (h.e.weight : Int), .bool h.e.gone, .int .i64 (h.dist : Int)]) := s1
      simp only [h4, s1', R.ok_bind]
    · have hm : m = l.length := by omega
      subst hm
      obtain ⟨g1, g2, g3⟩ := grown (A.set b .dead) rfl (fun y hy => by rw [get_setMem, if_neg hy])
      refine ⟨A.next, _, _, ?_, g1, .inr rfl, g2, by omega, g3⟩
      have hble : Nat.ble (l.length + 1) l.length = false := by
        cases hq : Nat.ble (l.length + 1) l.length with
        | false => rfl
        | true => have := Nat.le_of_ble_eq_true hq; omega
      have hx : capX (mkX l.length 4) = false := capX_mkX _ _
      have he : capE (mkX l.length 4) = 4 := capE_mkX (by decide)
      have hone : (hitC h).all oneCell = true := List.all_eq_true.2 (hitC_one h)
      have hbq : (Nat.beq 4 4 && (hitC h).all oneCell) = true := by rw [hone]; rfl
      have hf0 : (Nat.ble 0 (0 + l.length * 4) && (Nat.beq 63 63 && Nat.blt 0 9223372036854775808)) = true := by
        have : Nat.ble 0 (0 + l.length * 4) = true := Nat.ble_eq_true_of_le (Nat.zero_le _)
        rw [this]; rfl
      unfold appendF appendG
      simp only [und99, isIntD, cond_false, zc63, R.ok_bind, lenF, hnew, hcn, hble, hti, hlim, cond_true, hel, hx, he, hbq, h4, hf0, Nat.sub_zero]
end Go.Proofs.Ytnelkapmmgggdaa.mdl

/-
  Model: the methods of a heap of hits.
-/
namespace Go.Am
section
variable {tb : Tab} {ih : Code → St → R (Ex × St)}
variable (dst : Option Tmp) (ty : TypeId) (pos : String) (after : Array Edge) (g : Option (Nat × Bool)) (s : St) (k : St → R (Ex × St))
noncomputable def ifaceF (tb : Tab) (t : TypeId) (x : Value) : R Value := match tb.und t with
  | some (.interface _) => .no 208
  | some _ => .ok (.iface t x)
  | none => .no 209
theorem opF_makeIface (t : TypeId) (x : Operand) : opF tb ih { dst, op := .makeInterface t x, type := ty, pos, after, guard := g } s k = (ev s.t x).bind fun x => (ifaceF tb t x).bind fun v => putT s dst v k := by
  rw [opF_P _ _ _ _ _ _ _ rfl rfl]; simp only [pOp, R.bind_bind]; rfl
theorem opF_assert (x : Operand) (t u : TypeId) (b : Bool) : opF tb ih { dst, op := .typeAssert x t u b, type := ty, pos, after, guard := g } s k = (ev s.t x).bind fun x => (assertF tb x u b).bind fun v => putT s dst v k := by
  rw [opF_P _ _ _ _ _ _ _ rfl rfl]; simp only [pOp, R.bind_bind]
theorem opF_invoke (x : Operand) (name : String) (args : Array Operand) (ts : Array TypeId) : opF tb ih { dst, op := .call { callee := .invoke x name, args, argTypes := ts }, type := ty, pos, after, guard := g } s k =
    (evs s.t args.toList).bind fun a => (ev s.t x).bind fun rv => (methodCl tb s.m.get rv name a).bind fun cl => (callF tb ih cl s.m).bind fun r => resK s dst k r := by
  unfold opF
  show ((clOf tb s.t s.m.get { callee := .invoke x name, args, argTypes := ts }).bind fun cl => (callF tb ih cl s.m).bind fun r => match r with
    | .val v A => putT { s with m := A } dst v k
    | .pan v A => .ok (.pan v, { s with m := A })) = _
  unfold clOf
  simp only [R.bind_bind]
  cases evs s.t args.toList with
  | no _ => rfl
  | ok a => rfl
end
end Go.Am
namespace Go.Proofs.Ytnelkapmmgggdaa.mdl
open Go.Am Go.Mdl
open Go.Proofs.Ytnelkapmmgggdaa.rnk (HitD hitC ordD lessB sortH ordK lessK hitC_len)
set_option linter.unusedSimpArgs false
set_option linter.unusedVariables false
set_option linter.unusedVariables false

theorem k34 {ih : Code → St → R (Ex × St)} {A : Mem} {x y : HitD} : callF tb4 ih (.fn 34 [.agg ⟨hitC x⟩, .agg ⟨hitC y⟩]) A = .ok (.val (.bool (lessB x y)) A) :=
  callF_known (c := (Try.f34.body).getD .skip) (fn_at Try.func34) (by kernel_rfl) (by kernel_rfl) (h := pureHook lessK) (by kernel_rfl) rfl
theorem len99 {b : Option Addr} {n c : Nat} : builtinPF tb4 .len [99] [.slice b n c] = .ok (.int .i64 ((n : Nat) : Int)) := len_slc und99

noncomputable def c48 : Code := Try.f48.body.getD .skip
theorem c48_eq : Try.f48.body = some (.seq (sub c48 [0]) (.seq (sub c48 [1,0]) (sub c48 [1,1]))) := by kernel_rfl
theorem run_len {A : Mem} {b : Option Addr} {n c : Nat} : Ans tb4 48 [.slice b n c] A (.int .i64 ((n : Nat) : Int)) A := by
  obtain ⟨v, A', hg, rfl, rfl⟩ : ∃ v A', Ans tb4 48 [.slice b n c] A v A' ∧ v = .int .i64 ((n : Nat) : Int) ∧ A' = A := by
    refine ans_of_W (fn_at Try.func48) c48_eq (by rw [Try.ntmps48]; simp) (by kernel_rfl) (by kernel_rfl) ?_
    apply W.seq
    apply W.run 20
    · intro M
      simp (disch := first | decide +kernel | omega) only [c48, Try.f48, Option.getD_some, sub_seq0, sub_nil, T.puts_cons, Nat.reduceAdd, T.puts_nil, exec_region, runOps_cons, opF_assign, ev_int, putT_some, runOps_nil, R.ok_bind]
      with_reducible rfl
    apply W.seq
    apply W.run 20
    · intro M
      simp (disch := first | decide +kernel | omega) only [c48, Try.f48, Option.getD_some, sub_seq1, sub_seq0, sub_nil, exec_region, runOps_cons, opF_move, ev_tmp, T.get_set, Nat.reduceEqDiff, T.get_e, if_true, if_false, evG_some, putT_some, opF_len, evs, R.ok_bind, opF_assign, runOps_nil, len99]
      with_reducible rfl
    apply W.run 20
    · intro M
      simp (disch := first | decide +kernel | omega) only [c48, Try.f48, Option.getD_some, sub_seq1, sub_nil, exec_ret]
      with_reducible rfl
    refine ⟨.inr rfl, _, [.int .i64 ((n : Nat) : Int)], rfl, ?_, rfl, rfl⟩
    simp only [Try.f48, resF, ev_tmp, T.get_set, Nat.reduceEqDiff, if_true, if_false, evG_some, R.ok_bind]
  exact hg
noncomputable def c106 : Code := Try.f106.body.getD .skip
theorem c106_eq : Try.f106.body = some (.seq (sub c106 [0]) (.seq (sub c106 [1,0]) (sub c106 [1,1]))) := by kernel_rfl
theorem run_wless {A : Mem} {b c i j : Nat} {l : List HitD} {x y : HitD} (hr : HRow A b l c) (hi : l[i]? = some x) (hj : l[j]? = some y) : Ans tb4 106 [.slice (some ⟨b, 0, none⟩) l.length c, .int .i64 ((i : Nat) : Int), .int .i64 ((j : Nat) : Int)] A (.bool (lessB y x)) A := by
  obtain ⟨v, A', hg, rfl, rfl⟩ : ∃ v A', Ans tb4 106 [.slice (some ⟨b, 0, none⟩) l.length c, .int .i64 ((i : Nat) : Int), .int .i64 ((j : Nat) : Int)] A v A' ∧ v = .bool (lessB y x) ∧ A' = A := by
    refine ans_of_W (fn_at Try.func106) c106_eq (by rw [Try.ntmps106]; simp) (by kernel_rfl) (by kernel_rfl) ?_
    obtain ⟨i1, i2⟩ := hr.at hi
    obtain ⟨j1, j2⟩ := hr.at hj
    apply W.seq
    apply W.run 20
    · intro M
      simp (disch := first | decide +kernel | omega) only [c106, Try.f106, Option.getD_some, sub_seq0, sub_nil, T.puts_cons, Nat.reduceAdd, T.puts_nil, exec_region, runOps_cons, opF_assign, ev_bool, putT_some, runOps_nil, R.ok_bind]
      with_reducible rfl
    apply W.seq
    apply W.run 20
    · intro M
      simp (disch := first | decide +kernel | omega) only [c106, Try.f106, Option.getD_some, sub_seq1, sub_seq0, sub_nil, exec_draw, runOps_cons, opF_move, ev_tmp, T.get_set, Nat.reduceEqDiff, T.get_e, if_true, if_false, evG_some, putT_some, opF_indexAddr, opF_load, opF_call, evs, R.ok_bind, resK, opF_assign, runOps_nil, i1, i2, j1, j2, k34]
      with_reducible rfl
    apply W.run 20
    · intro M
      simp (disch := first | decide +kernel | omega) only [c106, Try.f106, Option.getD_some, sub_seq1, sub_nil, exec_ret]
      with_reducible rfl
    refine ⟨.inr rfl, _, [.bool (lessB y x)], rfl, ?_, rfl, rfl⟩
    simp only [Try.f106, resF, ev_tmp, T.get_set, Nat.reduceEqDiff, if_true, if_false, evG_some, R.ok_bind]
  exact hg
def swapL (l : List HitD) (i j : Nat) : List HitD := match l[i]?, l[j]? with
  | some x, some y => (l.set i y).set j x
  | _, _ => l
theorem swapL_len (l : List HitD) (i j : Nat) : (swapL l i j).length = l.length := by
  unfold swapL
  split
  · simp
  · rfl
noncomputable def c109 : Code := Try.f109.body.getD .skip
theorem c109_eq : Try.f109.body = some c109 := by kernel_rfl
theorem run_swap {A : Mem} {b c i j : Nat} {l : List HitD} (hr : HRow A b l c) (hi : i < l.length) (hj : j < l.length) :
    ∃ A', Ans tb4 109 [.slice (some ⟨b, 0, none⟩) l.length c, .int .i64 ((i : Nat) : Int), .int .i64 ((j : Nat) : Int)] A (.tuple ⟨[]⟩) A' ∧ HRow A' b (swapL l i j) c ∧ A'.next = A.next ∧ ∀ y, y ≠ b → A'.get y = A.get y := by
  obtain ⟨v, A', hg, rfl, h1, h2, h3⟩ : ∃ v A', Ans tb4 109 [.slice (some ⟨b, 0, none⟩) l.length c, .int .i64 ((i : Nat) : Int), .int .i64 ((j : Nat) : Int)] A v A' ∧ v = .tuple ⟨[]⟩ ∧ HRow A' b (swapL l i j) c ∧ A'.next = A.next ∧ ∀ y, y ≠ b → A'.get y = A.get y := by
    refine ans_of_W (fn_at Try.func109) c109_eq (by rw [Try.ntmps109]; simp) (by kernel_rfl) (by kernel_rfl) ?_
    have ei : l[i]? = some l[i] := List.getElem?_eq_getElem hi
    have ej : l[j]? = some l[j] := List.getElem?_eq_getElem hj
    have hsw : swapL l i j = (l.set i l[j]).set j l[i] := by unfold swapL; rw [ei, ej]
    obtain ⟨i1, i2⟩ := hr.at ei
    obtain ⟨j1, j2⟩ := hr.at ej
    obtain ⟨A1, s1, r1, n1, k1⟩ := hr.put (h := l[j]) hi
    obtain ⟨A2, s2, r2, n2, k2⟩ := r1.put (h := l[i]) (i := j) (by rw [List.length_set]; exact hj)
    apply W.run 20
    · intro M
      simp (disch := first | decide +kernel | omega) only [c109, Try.f109, Option.getD_some, T.puts_cons, Nat.reduceAdd, T.puts_nil, exec_draw, runOps_cons, opF_move, ev_tmp, T.get_set, Nat.reduceEqDiff, T.get_e, if_true, if_false, evG_some, putT_some, opF_indexAddr, opF_load, opF_store, putT_none, runOps_nil, R.ok_bind, i1, i2, j1, j2, s1, s2]
      with_reducible rfl
    refine ⟨.inl rfl, A2, [], rfl, ?_, rfl, by rw [hsw]; exact r2, by omega, fun y hy => by rw [k2 y hy, k1 y hy]⟩
    simp only [Try.f109, resF, ev_tmp, T.get_set, Nat.reduceEqDiff, if_true, if_false, evG_some, R.ok_bind]
  exact ⟨A', hg, h1, h2, h3⟩
end Go.Proofs.Ytnelkapmmgggdaa.mdl

/-
  Model: a heap's variable; Push and Pop of it.
-/
namespace Go.Proofs.Ytnelkapmmgggdaa.mdl
open Go.Am Go.Mdl
open Go.Proofs.Ytnelkapmmgggdaa.rnk (HitD hitC ordD lessB sortH ordK lessK hitC_len)
set_option linter.unusedSimpArgs false
set_option linter.unusedVariables false
set_option linter.unusedVariables false

def KL (lo : Nat) (A A' : Mem) : Prop := A.next ≤ A'.next ∧ ∀ z, z < lo → A'.get z = A.get z
theorem KL.refl (lo : Nat) (A : Mem) : KL lo A A := ⟨Nat.le_refl _, fun _ _ => rfl⟩
theorem KL.trans {lo : Nat} {A B C : Mem} (h : KL lo A B) (k : KL lo B C) : KL lo A C := ⟨Nat.le_trans h.1 k.1, fun z hz => by rw [k.2 z hz, h.2 z hz]⟩
theorem Kp.kl {lo : Nat} {A A' : Mem} (h : Kp A A') (hlo : lo ≤ A.next) : KL lo A A' := ⟨h.1, fun z hz => h.2 z (by omega)⟩
structure HpS (A : Mem) (lo bw : Nat) (l : List HitD) (b c : Nat) : Prop where
  lw : lo ≤ bw
  ltw : bw < A.next
  lb : lo ≤ b
  ltb : b < A.next
  ne : b ≠ bw
  v : Vals A 99 bw (.var 1) [.slice (some ⟨b, 0, none⟩) l.length c]
  r : HRow A b l c
def Hp (A : Mem) (lo bw : Nat) (l : List HitD) : Prop := ∃ b c, HpS A lo bw l b c
theorem HpS.kp {A A' : Mem} {lo bw b c : Nat} {l : List HitD} (h : HpS A lo bw l b c) (k : Kp A A') : HpS A' lo bw l b c :=
  ⟨h.lw, Nat.lt_of_lt_of_le h.ltw k.1, h.lb, Nat.lt_of_lt_of_le h.ltb k.1, h.ne, h.v.same (k.2 _ h.ltw), h.r.same (k.2 _ h.ltb)⟩
theorem HpS.load {A : Mem} {lo bw b c : Nat} {l : List HitD} (h : HpS A lo bw l b c) : loadF tb4 A.get 99 (.pointer (some ⟨bw, 0, none⟩)) = .ok (.slice (some ⟨b, 0, none⟩) l.length c) := load_vals und99 rfl h.v rfl
theorem ev_nili {t : T Value} : ev t (Operand.const Value.nilIface) = .ok .nilIface := rfl
theorem size99 : sizeF tb4 99 = .ok 1 := by kernel_rfl
theorem bs99 {h : HitD} : buildSliceF tb4 99 1 [(0, .agg ⟨hitC h⟩)] = .ok (rowOb 63 (hitC h), .slc 1 2) := by kernel_rfl
theorem as63 {h : HitD} : assertF tb4 (.iface 63 (.agg ⟨hitC h⟩)) 63 false = .ok (.agg ⟨hitC h⟩) := by kernel_rfl
theorem if63 {h : HitD} : ifaceF tb4 63 (.agg ⟨hitC h⟩) = .ok (.iface 63 (.agg ⟨hitC h⟩)) := by kernel_rfl
noncomputable def c108 : Code := Try.f108.body.getD .skip
theorem c108_eq : Try.f108.body = some c108 := by kernel_rfl
theorem run_wpush {A : Mem} {lo bw : Nat} {l : List HitD} {h : HitD} (hp : Hp A lo bw l) (hl : l.length < 90000) :
    ∃ A', Ans tb4 108 [.pointer (some ⟨bw, 0, none⟩), .iface 63 (.agg ⟨hitC h⟩)] A (.tuple ⟨[]⟩) A' ∧ Hp A' lo bw (l ++ [h]) ∧ KL lo A A' := by
  obtain ⟨b, c, hp⟩ := hp
  obtain ⟨v, A', hg, rfl, h1, h2⟩ : ∃ v A', Ans tb4 108 [.pointer (some ⟨bw, 0, none⟩), .iface 63 (.agg ⟨hitC h⟩)] A v A' ∧ v = .tuple ⟨[]⟩ ∧ Hp A' lo bw (l ++ [h]) ∧ KL lo A A' := by
    refine ans_of_W (fn_at Try.func108) c108_eq (by rw [Try.ntmps108]; simp) (by kernel_rfl) (by kernel_rfl) ?_
    have hlw := hp.lw
    have hltw := hp.ltw
    have hlb := hp.lb
    have hltb := hp.ltb
    have hne := hp.ne
    have k1 := Kp.alloc A (rowOb 63 (hitC h))
    have hn1 := next_alloc A (rowOb 63 (hitC h))
    have hp1 := hp.kp k1
    have l0 := hp.load
    obtain ⟨b', c', A2, happ, hr2, hb', hb2, hn2, k2⟩ := hp1.r.app hp1.ltb (get_alloc_self A (rowOb 63 (hitC h))) hl
    have v2 : Vals A2 99 bw (.var 1) [.slice (some ⟨b, 0, none⟩) l.length c] := hp1.v.same (k2 bw (fun e => hne e.symm) hp1.ltw)
    obtain ⟨A3, s3, v3, n3, k3⟩ := store_box (tb := tb4) (t := 99) (w := .slice (some ⟨b', 0, none⟩) (l.length + 1) c') size99 v2 rfl rfl
    have hbw : b' ≠ bw := by rcases hb' with h | h <;> omega
    apply W.run 20
    · intro M
      simp (disch := first | decide +kernel | omega) only [c108, Try.f108, Option.getD_some, T.puts_cons, Nat.reduceAdd, T.puts_nil, exec_draw, runOps_cons, opF_move, ev_tmp, T.get_set, Nat.reduceEqDiff, T.get_e, if_true, if_false, evG_some, putT_some, opF_nilCheck, opF_load, opF_assert, opF_buildSlice, evp, R.ok_bind, opF_builtin, evs, opF_store, putT_none, runOps_nil, builtin_append, as63, bs99, at_slc, nil_ptr, l0, happ, s3]
      with_reducible rfl
    refine ⟨.inl rfl, A3, [], rfl, ?_, rfl, ⟨b', c', hlw, by omega, by rcases hb' with h | h <;> omega, by omega, hbw, ?_, hr2.same (k3 b' hbw)⟩, ⟨by omega, fun z hz => by rw [k3 z (by omega), k2 z (by omega) (by omega), k1.2 z (by omega)]⟩⟩
    · simp only [Try.f108, resF, ev_tmp, T.get_set, Nat.reduceEqDiff, if_true, if_false, evG_some, R.ok_bind]
    · rw [List.length_append]; exact v3
  exact ⟨A', hg, h1, h2⟩

theorem capSub_mkX {m e : Nat} (he : e < 65536) : capSub (mkX m e) 0 = mkX m e := by
  unfold capSub
  rw [capX_mkX, cond_false, capN_mkX he, capE_mkX he, Nat.sub_zero]
noncomputable def c107 : Code := Try.f107.body.getD .skip
theorem c107_eq : Try.f107.body = some (.seq (sub c107 [0]) (.seq (sub c107 [1,0]) (.seq (sub c107 [1,1,0]) (.seq (sub c107 [1,1,1,0]) (.seq (sub c107 [1,1,1,1,0]) (sub c107 [1,1,1,1,1])))))) := by kernel_rfl
theorem run_wpop {A : Mem} {lo bw : Nat} {l : List HitD} (hp : Hp A lo bw l) (h0 : 0 < l.length) (hl : l.length < 90000) :
    ∃ A', Ans tb4 107 [.pointer (some ⟨bw, 0, none⟩)] A (.iface 63 (.agg ⟨hitC (l[l.length - 1]'(by omega))⟩)) A' ∧ Hp A' lo bw (l.take (l.length - 1)) ∧ KL lo A A' := by
  obtain ⟨b, c, hp⟩ := hp
  obtain ⟨v, A', hg, rfl, h1, h2⟩ : ∃ v A', Ans tb4 107 [.pointer (some ⟨bw, 0, none⟩)] A v A' ∧ v = .iface 63 (.agg ⟨hitC (l[l.length - 1]'(by omega))⟩) ∧ Hp A' lo bw (l.take (l.length - 1)) ∧ KL lo A A' := by
    refine ans_of_W (fn_at Try.func107) c107_eq (by rw [Try.ntmps107]; simp) (by kernel_rfl) (by kernel_rfl) ?_
    have hlw := hp.lw
    have hltw := hp.ltw
    have hlb := hp.lb
    have hltb := hp.ltb
    have hne := hp.ne
    obtain ⟨d63, hd1, hd2⟩ := und63'
    have l0 := hp.load
    have hlast : l[l.length - 1]? = some (l[l.length - 1]'(by omega)) := List.getElem?_eq_getElem (by omega)
    generalize l[l.length - 1]'(by omega) = h at hlast
    obtain ⟨i1, i2⟩ := hp.r.at hlast
    have z1 : Vals (A.alloc (rowOb 63 hitZ)) 63 A.next (.var 4) hitZ := vals_puts (get_alloc_self _ _)
    obtain ⟨A1, s1, v1, n1, k1⟩ := store_all (tb := tb4) (t := 63) (l := hitZ) (l' := hitC h) size63' z1 rfl (by simp [hitZ]) (hitC_one h)
    rw [next_alloc] at n1
    have kA1 : Kp A A1 := ⟨by omega, fun z hz => by rw [k1 z (by omega), get_alloc_ne (by omega)]⟩
    have hp1 := hp.kp kA1
    have l1 := hp1.load
    have htk : (l.take (l.length - 1)).length = l.length - 1 := by rw [List.length_take]; omega
    obtain ⟨m, hcm, hlm⟩ : ∃ m, c = mkX m 4 ∧ l.length ≤ m := by
      rcases hp.r with ⟨h1, -⟩ | ⟨m, cs, h1, h2, -⟩
      · rw [h1] at h0; simp at h0
      · exact ⟨m, h1, h2⟩
    have hsl : sliceF tb4 99 (.slice (some ⟨b, 0, none⟩) l.length c) none (some (.int .i64 ((l.length - 1 : Nat) : Int))) none = .ok (.slice (some ⟨b, 0, none⟩) (l.length - 1) c) := by
      have e1 : bound (some (.int .i64 ((l.length - 1 : Nat) : Int))) l.length (capN c) = .ok (l.length - 1) := bound_some (by rw [hcm, capN_mkX (by decide)]; omega)
      have hx : (capX c && Nat.beq (capN c) 0) = false := by rw [hcm, capX_mkX]; rfl
      have h5 : capFit c 4 = true := by rw [hcm]; unfold capFit; rw [capX_mkX, capE_mkX (by decide), cond_false]; rfl
      unfold sliceF
      simp only [und99, e1, R.ok_bind, bound_none, size63', hx, cond_false, h5, cond_true, addA, Nat.zero_mul, Nat.add_zero, Nat.sub_zero]
      rw [hcm, capSub_mkX (by decide)]
    have hr1 : HRow A1 b (l.take (l.length - 1)) c := by
      rcases hp1.r with ⟨h1, -⟩ | ⟨m', cs, q1, q2, q3, q4, q5, q6⟩
      · rw [h1] at h0; simp at h0
      · refine .inr ⟨m', cs, q1, by omega, q3, q4, fun i x j hi hj => q5 i x j ?_ hj, q6⟩
        rw [List.getElem?_take] at hi
        split at hi
        · exact hi
        · cases hi
    obtain ⟨A3, s3, v3, n3, k3⟩ := store_box (tb := tb4) (t := 99) (w := .slice (some ⟨b, 0, none⟩) (l.length - 1) c) size99 hp1.v rfl rfl
    have lA : loadF tb4 A3.get 63 (.pointer (some ⟨A.next, 0, none⟩)) = .ok (.agg ⟨hitC h⟩) := load_all hd1 hd2 (l := hitC h) size63' (v1.same (k3 _ (by omega)))
    apply W.seq
    apply W.run 20
    · intro M
      simp (disch := first | decide +kernel | omega) only [c107, Try.f107, Option.getD_some, sub_seq0, sub_nil, T.puts_cons, Nat.reduceAdd, T.puts_nil, exec_region, runOps_cons, opF_assign, ev_nili, putT_some, runOps_nil, R.ok_bind]
      with_reducible rfl
    apply W.seq
    apply W.run 20
    · intro M
      simp (disch := first | decide +kernel | omega) only [c107, Try.f107, Option.getD_some, sub_seq1, sub_seq0, sub_nil, exec_region, runOps_cons, opF_move, ev_tmp, T.get_set, Nat.reduceEqDiff, T.get_e, if_true, if_false, evG_some, putT_some, opF_nilCheck, opF_load, opF_len, evs, R.ok_bind, opF_ari, ev_int, opF_assign, runOps_nil, nil_ptr, l0, len99, binF_int, op_sub_i64]
      with_reducible rfl
    apply W.seq
    apply W.run 20
    · intro M
      simp (disch := first | decide +kernel | omega) only [c107, Try.f107, Option.getD_some, sub_seq1, sub_seq0, sub_nil, exec_region, runOps_cons, opF_move, ev_tmp, T.get_set, Nat.reduceEqDiff, T.get_e, if_true, if_false, evG_some, putT_some, opF_nilCheck, opF_load, opF_indexAddr, opF_alloc, z63, at_ptr, opF_store, putT_none, runOps_nil, R.ok_bind, cells_agg, nil_ptr, l0, i1, i2, s1]
      with_reducible rfl
    apply W.seq
    apply W.run 20
    · intro M
      simp (disch := first | decide +kernel | omega) only [c107, Try.f107, Option.getD_some, sub_seq1, sub_seq0, sub_nil, exec_region, runOps_cons, opF_move, ev_tmp, T.get_set, Nat.reduceEqDiff, T.get_e, if_true, if_false, evG_some, putT_some, opF_nilCheck, opF_load, opF_slice, evo, R.ok_bind, opF_store, putT_none, runOps_nil, nil_ptr, l1, hsl, s3]
      with_reducible rfl
    apply W.seq
    apply W.run 20
    · intro M
      simp (disch := first | decide +kernel | omega) only [c107, Try.f107, Option.getD_some, sub_seq1, sub_seq0, sub_nil, exec_region, runOps_cons, opF_load, ev_tmp, T.get_set, Nat.reduceEqDiff, T.get_e, if_false, if_true, evG_some, putT_some, opF_makeIface, opF_assign, runOps_nil, R.ok_bind, lA, if63]
      with_reducible rfl
    apply W.run 20
    · intro M
      simp (disch := first | decide +kernel | omega) only [c107, Try.f107, Option.getD_some, sub_seq1, sub_nil, exec_ret]
      with_reducible rfl
    refine ⟨.inr rfl, A3, [.iface 63 (.agg ⟨hitC h⟩)], rfl, ?_, rfl, ⟨b, c, hlw, by omega, hlb, by omega, hne, by rw [htk]; exact v3, hr1.same (k3 b hne)⟩, ⟨by omega, fun z hz => by rw [k3 z (by omega), kA1.2 z (by omega)]⟩⟩
    simp only [Try.f107, resF, ev_tmp, T.get_set, Nat.reduceEqDiff, if_true, if_false, evG_some, R.ok_bind]
  exact ⟨A', hg, h1, h2⟩
end Go.Proofs.Ytnelkapmmgggdaa.mdl

/-
  Model: container/heap over hits: up, and Push.
-/
namespace Go.Proofs.Ytnelkapmmgggdaa.mdl
open Go.Am Go.Mdl
open Go.Proofs.Ytnelkapmmgggdaa.rnk (HitD hitC ordD lessB sortH ordK lessK hitC_len)
set_option linter.unusedSimpArgs false
set_option linter.unusedVariables false
set_option linter.unusedVariables false

def wV (bw : Nat) : Value := .iface 98 (.pointer (some ⟨bw, 0, none⟩))
theorem m_len {g : Nat → Option Ob} {bw : Nat} {xs : Value} (h : loadF tb4 g 99 (.pointer (some ⟨bw, 0, none⟩)) = .ok xs) : methodCl tb4 g (wV bw) "Len" [] = .ok (.fn 48 [xs]) := by
  have e : methodCl tb4 g (wV bw) "Len" [] = ((loadF tb4 g 99 (.pointer (some ⟨bw, 0, none⟩))).bind fun r => R.ok (48, r)).bind fun p => R.ok (Cl.fn p.1 (p.2 :: [])) := by kernel_rfl
  rw [e, h]; rfl
theorem m_less {g : Nat → Option Ob} {bw : Nat} {xs a b : Value} (h : loadF tb4 g 99 (.pointer (some ⟨bw, 0, none⟩)) = .ok xs) : methodCl tb4 g (wV bw) "Less" [a, b] = .ok (.fn 106 [xs, a, b]) := by
  have e : methodCl tb4 g (wV bw) "Less" [a, b] = ((loadF tb4 g 99 (.pointer (some ⟨bw, 0, none⟩))).bind fun r => R.ok (106, r)).bind fun p => R.ok (Cl.fn p.1 (p.2 :: [a, b])) := by kernel_rfl
  rw [e, h]; rfl
theorem m_swap {g : Nat → Option Ob} {bw : Nat} {xs a b : Value} (h : loadF tb4 g 99 (.pointer (some ⟨bw, 0, none⟩)) = .ok xs) : methodCl tb4 g (wV bw) "Swap" [a, b] = .ok (.fn 109 [xs, a, b]) := by
  have e : methodCl tb4 g (wV bw) "Swap" [a, b] = ((loadF tb4 g 99 (.pointer (some ⟨bw, 0, none⟩))).bind fun r => R.ok (109, r)).bind fun p => R.ok (Cl.fn p.1 (p.2 :: [a, b])) := by kernel_rfl
  rw [e, h]; rfl
theorem m_push {g : Nat → Option Ob} {bw : Nat} {a : Value} : methodCl tb4 g (wV bw) "Push" [a] = .ok (.fn 108 [.pointer (some ⟨bw, 0, none⟩), a]) := by kernel_rfl
theorem m_pop {g : Nat → Option Ob} {bw : Nat} : methodCl tb4 g (wV bw) "Pop" [] = .ok (.fn 107 [.pointer (some ⟨bw, 0, none⟩)]) := by kernel_rfl
theorem HpS.swap {A : Mem} {lo bw b c i j : Nat} {l : List HitD} (h : HpS A lo bw l b c) (hi : i < l.length) (hj : j < l.length) :
    ∃ A', Ans tb4 109 [.slice (some ⟨b, 0, none⟩) l.length c, .int .i64 ((i : Nat) : Int), .int .i64 ((j : Nat) : Int)] A (.tuple ⟨[]⟩) A' ∧ HpS A' lo bw (swapL l i j) b c ∧ KL lo A A' := by
  obtain ⟨A', hg, h1, h2, h3⟩ := run_swap h.r hi hj
  have hlb := h.lb
  exact ⟨A', hg, ⟨h.lw, by rw [h2]; exact h.ltw, h.lb, by rw [h2]; exact h.ltb, h.ne, by rw [swapL_len]; exact h.v.same (h3 _ (fun e => h.ne e.symm)), h1⟩, ⟨by omega, fun z hz => h3 z (by omega)⟩⟩

def upL (l : List HitD) (j : Nat) : List HitD :=
  if h : j = 0 then l else
  match l[(j - 1) / 2]?, l[j]? with
  | some x, some y => if lessB x y = true then upL (swapL l ((j - 1) / 2) j) ((j - 1) / 2) else l
  | _, _ => l
termination_by j
decreasing_by omega
theorem upL_zero (l : List HitD) : upL l 0 = l := by rw [upL]; rfl
theorem upL_step {l : List HitD} {j : Nat} {x y : HitD} (h0 : j ≠ 0) (hx : l[(j - 1) / 2]? = some x) (hy : l[j]? = some y) : upL l j = if lessB x y = true then upL (swapL l ((j - 1) / 2) j) ((j - 1) / 2) else l := by
  rw [upL, dif_neg h0, hx, hy]
noncomputable def c58 : Code := Try.f58.body.getD .skip
noncomputable def c58b1 : Code := sub c58 [0,0]
theorem c58_eq : Try.f58.body = some (.block 0 (.loop c58b1)) := by kernel_rfl
theorem c58b1_eq : c58b1 = .block 1 (.seq (sub c58b1 [0,0]) (.seq (sub c58b1 [0,1,0]) (.seq (sub c58b1 [0,1,1,0]) (sub c58b1 [0,1,1,1])))) := by kernel_rfl
theorem quo_m1 : intOpF .quo .i64 (-((1 : Nat) : Int)) ((2 : Nat) : Int) = .ok (.int .i64 ((0 : Nat) : Int)) := by kernel_rfl
theorem run_up {A : Mem} {lo bw j : Nat} {l : List HitD} (hp : Hp A lo bw l) (hj : j < l.length) (hl : l.length < 90000) :
    ∃ A', Ans tb4 58 [wV bw, .int .i64 ((j : Nat) : Int)] A (.tuple ⟨[]⟩) A' ∧ Hp A' lo bw (upL l j) ∧ KL lo A A' := by
  obtain ⟨v, A', hg, rfl, h1, h2⟩ : ∃ v A', Ans tb4 58 [wV bw, .int .i64 ((j : Nat) : Int)] A v A' ∧ v = .tuple ⟨[]⟩ ∧ Hp A' lo bw (upL l j) ∧ KL lo A A' := by
    refine ans_of_W (fn_at Try.func58) c58_eq (by rw [Try.ntmps58]; simp) (by kernel_rfl) (by kernel_rfl) ?_
    apply W.block
    refine W.fall (fun k t C => ∃ m, Hp C lo bw m ∧ m.length = l.length ∧ k < l.length ∧ upL m k = upL l j ∧ KL lo A C ∧ Sl t [(0, wV bw), (1, .int .i64 ((k : Nat) : Int))]) ?_ (k := j) ⟨l, hp, rfl, hj, rfl, KL.refl _ _, ?_⟩
    · rintro k t C ⟨m, hm, hml, hk, heq, hK, g0, g1, -⟩
      obtain ⟨b, c, hm⟩ := hm
      have l0 := hm.load
      rw [c58b1_eq]
      apply W.block
      have fin : ∀ t', upL m k = m → W tb4 (sub c58b1 [0,1,0]) ⟨t', 23, [], C, none⟩ (fun e s' => e = .exit 0 ∧ s'.m = C ∧ s'.d = []) → W tb4 (sub c58b1 [0,1,0]) ⟨t', 23, [], C, none⟩ (Then tb4 (.seq (sub c58b1 [0,1,1,0]) (sub c58b1 [0,1,1,1])) (Blk 1 fun e s' => match e with
          | .nrm => ∃ k' t' A', k' < k ∧ s' = ⟨t', 23, [], A', none⟩ ∧ ∃ m, Hp A' lo bw m ∧ m.length = l.length ∧ k' < l.length ∧ upL m k' = upL l j ∧ KL lo A A' ∧ Sl t' [(0, wV bw), (1, .int .i64 ((k' : Nat) : Int))]
          | e => Blk 0 (fun e s => (e = .nrm ∨ e = .ret) ∧ ∃ A' vs, takeF s.d s.m = .ok A' ∧ resF tb4 s.t A'.get Try.f58.results.toList = .ok vs ∧ oneOf vs = .tuple ⟨[]⟩ ∧ Hp A' lo bw (upL l j) ∧ KL lo A A') e s')) := by
        intro t' hu h
        refine h.mono ?_
        rintro e ⟨t2, n2, d2, C2, r2⟩ ⟨rfl, rfl, rfl⟩
        refine ⟨.inl rfl, C2, [], rfl, ?_, rfl, by rw [← heq, hu]; exact ⟨b, c, hm⟩, hK⟩
        simp only [Try.f58, resF]
      by_cases h0 : k = 0
      · subst h0
        apply W.seq
        apply W.run 20
        · intro M
          simp (disch := first | decide +kernel | omega) only [c58b1, c58, Try.f58, Option.getD_some, sub_block, sub_loop, sub_nil, sub_seq0, exec_region, runOps_cons, opF_move, ev_tmp, g1, evG_some, putT_some, opF_ari, T.get_set, if_true, ev_int, Nat.reduceEqDiff, if_false, opF_assign, runOps_nil, R.ok_bind, binF_int, op_sub_neg, Nat.sub_zero, quo_m1]
          with_reducible rfl
        apply W.seq
        refine fin _ (upL_zero m) ?_
        apply W.run 20
        · intro M
          simp (disch := first | decide +kernel | (rw [wantF_guard]; simp only [wantD_some, dstAt_zero, dstAt_succ, T.get_set, T.get_e, Nat.reduceEqDiff, if_true, if_false, wantV_bool, wantV_unit, unitV, cond_true, cond_false, Bool.not_true, Bool.not_false, List.toList_toArray]) | omega) only [c58b1, c58, Try.f58, Option.getD_some, sub_block, sub_loop, sub_nil, sub_seq1, sub_seq0, exec_seq, exec_region, runOps_cons, opF_move, ev_tmp, T.get_set, Nat.reduceEqDiff, if_false, if_true, evG_some, putT_some, g1, opF_eql, R.ok_bind, binF_int, op_eql, decide_true, runOps_no, opF_pick, pickF, ev_bool, runOps_nil, exec_cond, exec_exit, exec_skip]
          with_reducible rfl
        exact ⟨rfl, rfl, rfl⟩
      · have hi : (k - 1) / 2 < m.length := by omega
        have hkm : k < m.length := by omega
        have ex : m[(k - 1) / 2]? = some (m[(k - 1) / 2]'hi) := List.getElem?_eq_getElem hi
        have ey : m[k]? = some (m[k]'hkm) := List.getElem?_eq_getElem hkm
        have hst := upL_step h0 ex ey
        have hne : ¬ (k - 1) / 2 = k := by omega
        obtain ⟨gl, hgl⟩ := run_wless hm.r ey ex
        have ml := fun a b => m_less (a := a) (b := b) l0
        apply W.seq
        apply W.run 20
        · intro M
          simp (disch := first | decide +kernel | omega) only [c58b1, c58, Try.f58, Option.getD_some, sub_block, sub_loop, sub_nil, sub_seq0, exec_region, runOps_cons, opF_move, ev_tmp, g1, evG_some, putT_some, opF_ari, T.get_set, if_true, ev_int, Nat.reduceEqDiff, if_false, opF_assign, runOps_nil, R.ok_bind, binF_int, op_sub_i64, op_quo_i64]
          with_reducible rfl
        apply W.seq
        cases hless : lessB (m[(k - 1) / 2]'hi) (m[k]'hkm) with
        | false =>
          rw [hless] at hgl hst
          refine fin _ (by rw [hst]; rfl) ?_
          apply W.runG (gl) 20
          · intro M hM
            simp (disch := first | decide +kernel | (rw [wantF_guard]; simp only [wantD_some, dstAt_zero, dstAt_succ, T.get_set, T.get_e, Nat.reduceEqDiff, if_true, if_false, wantV_bool, wantV_unit, unitV, cond_true, cond_false, Bool.not_true, Bool.not_false, List.toList_toArray]) | omega) only [c58b1, c58, Try.f58, Option.getD_some, sub_block, sub_loop, sub_nil, sub_seq1, sub_seq0, exec_seq, exec_region, runOps_cons, opF_move, ev_tmp, T.get_set, Nat.reduceEqDiff, if_false, if_true, evG_some, putT_some, g1, opF_eql, R.ok_bind, binF_int, op_eql, hne, decide_false, runOps_yes, g0, opF_invoke, evs, resK, opF_un, opF_pick, pickF, ev_bool, runOps_nil, ml, hgl, un_not, Bool.not_false, exec_cond, exec_exit, exec_skip]
            with_reducible rfl
          exact ⟨rfl, rfl, rfl⟩
        | true =>
          rw [hless, if_pos rfl] at hst
          rw [hless] at hgl
          have ms := fun a b => m_swap (a := a) (b := b) l0
          obtain ⟨C2, ⟨g2, hg2⟩, hp2, k2⟩ := hm.swap hi hkm
          apply W.runG (gl) 20
          · intro M hM
            simp (disch := first | decide +kernel | (rw [wantF_guard]; simp only [wantD_some, dstAt_zero, dstAt_succ, T.get_set, T.get_e, Nat.reduceEqDiff, if_true, if_false, wantV_bool, wantV_unit, unitV, cond_true, cond_false, Bool.not_true, Bool.not_false, List.toList_toArray]) | omega) only [c58b1, c58, Try.f58, Option.getD_some, sub_block, sub_loop, sub_nil, sub_seq1, sub_seq0, exec_seq, exec_region, runOps_cons, opF_move, ev_tmp, T.get_set, Nat.reduceEqDiff, if_false, if_true, evG_some, putT_some, g1, opF_eql, R.ok_bind, binF_int, op_eql, hne, decide_false, runOps_yes, g0, opF_invoke, evs, resK, opF_un, opF_pick, pickF, ev_bool, runOps_nil, ml, hgl, un_not, Bool.not_true, exec_cond, exec_exit, exec_skip]
            with_reducible rfl
          apply W.seq
          apply W.runG (g2) 20
          · intro M hM
            simp (disch := first | decide +kernel | omega) only [c58b1, c58, Try.f58, Option.getD_some, sub_block, sub_loop, sub_nil, sub_seq1, sub_seq0, exec_region, runOps_cons, opF_move, ev_tmp, T.get_set, Nat.reduceEqDiff, g0, if_false, evG_some, putT_some, if_true, g1, opF_invoke, evs, R.ok_bind, resK, runOps_nil, ms, hg2]
            with_reducible rfl
          apply W.run 20
          · intro M
            simp (disch := first | decide +kernel | omega) only [c58b1, c58, Try.f58, Option.getD_some, sub_block, sub_loop, sub_nil, sub_seq1, exec_region, runOps_cons, opF_move, ev_tmp, T.get_set, Nat.reduceEqDiff, if_false, if_true, evG_some, putT_some, opF_assign, runOps_nil, R.ok_bind]
            with_reducible rfl
          refine ⟨(k - 1) / 2, _, _, by omega, rfl, swapL m ((k - 1) / 2) k, ⟨b, c, hp2⟩, by rw [swapL_len, hml], by omega, by rw [← heq, hst], hK.trans k2, ?_⟩
          simp only [Sl_cons, Sl_nil, T.get_set, T.puts_cons, T.puts_nil, Nat.reduceEqDiff, Nat.reduceAdd, if_true, if_false, and_true, true_and, g0]
    · simp only [Sl_cons, Sl_nil, T.get_set, T.puts_cons, T.puts_nil, Nat.reduceEqDiff, Nat.reduceAdd, if_true, if_false, and_true, true_and]
  exact ⟨A', hg, h1, h2⟩
end Go.Proofs.Ytnelkapmmgggdaa.mdl

/-
  Model: container/heap over hits: down, Push and Pop.
-/
namespace Go.Proofs.Ytnelkapmmgggdaa.mdl
open Go.Am Go.Mdl
open Go.Proofs.Ytnelkapmmgggdaa.rnk (HitD hitC ordD lessB sortH ordK lessK hitC_len)
set_option linter.unusedSimpArgs false
set_option linter.unusedVariables false
set_option linter.unusedVariables false

def childL (l : List HitD) (i n : Nat) : Nat := match l[2 * i + 1]?, l[2 * i + 2]? with
  | some a, some b => if 2 * i + 2 < n ∧ lessB a b = true then 2 * i + 2 else 2 * i + 1
  | _, _ => 2 * i + 1
theorem childL_lt {l : List HitD} {i n : Nat} (h : 2 * i + 1 < n) : i < childL l i n ∧ childL l i n < n := by
  unfold childL
  split
  · split <;> omega
  · omega
def downL (l : List HitD) (i n : Nat) : List HitD :=
  if h : 2 * i + 1 < n then
    match l[i]?, l[childL l i n]? with
    | some x, some y => if lessB x y = true then downL (swapL l i (childL l i n)) (childL l i n) n else l
    | _, _ => l
  else l
termination_by n - i
decreasing_by
  have := childL_lt (l := l) h
  omega
theorem downL_stop {l : List HitD} {i n : Nat} (h : ¬ 2 * i + 1 < n) : downL l i n = l := by rw [downL, dif_neg h]
theorem downL_step {l : List HitD} {i n : Nat} {x y : HitD} (h : 2 * i + 1 < n) (hx : l[i]? = some x) (hy : l[childL l i n]? = some y) : downL l i n = if lessB x y = true then downL (swapL l i (childL l i n)) (childL l i n) n else l := by
  rw [downL, dif_pos h, hx, hy]
noncomputable def c59 : Code := Try.f59.body.getD .skip
noncomputable def c59b1 : Code := sub c59 [1,1,0,0,0]
theorem c59_eq : Try.f59.body = some (.seq (sub c59 [0]) (.seq (sub c59 [1,0]) (.seq (.block 0 (.loop c59b1)) (.seq (sub c59 [1,1,1,0]) (sub c59 [1,1,1,1]))))) := by kernel_rfl
theorem c59b1_eq : c59b1 = .block 1 (.seq (sub c59b1 [0,0]) (.seq (sub c59b1 [0,1,0]) (.seq (sub c59b1 [0,1,1,0]) (.seq (sub c59b1 [0,1,1,1,0]) (.seq (sub c59b1 [0,1,1,1,1,0]) (.seq (sub c59b1 [0,1,1,1,1,1,0]) (sub c59b1 [0,1,1,1,1,1,1]))))))) := by kernel_rfl
theorem run_down {A : Mem} {lo bw n : Nat} {l : List HitD} (hp : Hp A lo bw l) (hn : n ≤ l.length) (hl : l.length < 90000) :
    ∃ v A', Ans tb4 59 [wV bw, .int .i64 ((0 : Nat) : Int), .int .i64 ((n : Nat) : Int)] A v A' ∧ Hp A' lo bw (downL l 0 n) ∧ KL lo A A' := by
  refine ans_of_W (fn_at Try.func59) c59_eq (by rw [Try.ntmps59]; simp) (by kernel_rfl) (by kernel_rfl) ?_
  apply W.seq
  apply W.run 20
  · intro M
    simp (disch := first | decide +kernel | omega) only [c59, Try.f59, Option.getD_some, sub_seq0, sub_nil, T.puts_cons, Nat.reduceAdd, T.puts_nil, exec_region, runOps_cons, opF_assign, ev_bool, putT_some, runOps_nil, R.ok_bind]
    with_reducible rfl
  apply W.seq
  apply W.run 20
  · intro M
    simp (disch := first | decide +kernel | omega) only [c59, Try.f59, Option.getD_some, sub_seq1, sub_seq0, sub_nil, exec_region, runOps_cons, opF_move, ev_tmp, T.get_set, Nat.reduceEqDiff, T.get_e, if_false, if_true, evG_some, putT_some, opF_assign, runOps_nil, R.ok_bind]
    with_reducible rfl
  apply W.seq
  apply W.block
  refine W.fall (fun k t C => ∃ i m, k = n - i ∧ Hp C lo bw m ∧ m.length = l.length ∧ (i < n ∨ i = 0) ∧ downL m i n = downL l 0 n ∧ KL lo A C ∧ Sl t [(0, wV bw), (1, .int .i64 ((0 : Nat) : Int)), (2, .int .i64 ((n : Nat) : Int)), (7, .int .i64 ((i : Nat) : Int))]) ?_ (k := n) ⟨0, l, rfl, hp, rfl, .inr rfl, rfl, KL.refl _ _, ?_⟩
  · rintro k t C ⟨i, m, rfl, hm, hml, hin, heq, hK, g0, g1, g2, g7, -⟩
    obtain ⟨b, c, hm⟩ := hm
    have l0 := hm.load
    rw [c59b1_eq]
    apply W.block
    -- what is behind the loop
    have fin : ∀ t', downL m i n = m → (∃ z : Nat, t'.get 7 = some (.int .i64 ((z : Nat) : Int))) → t'.get 1 = some (.int .i64 ((0 : Nat) : Int)) → W tb4 (.seq (sub c59 [1,1,1,0]) (sub c59 [1,1,1,1])) ⟨t', 48, [], C, none⟩ (fun e s => (e = .nrm ∨ e = .ret) ∧ ∃ A' vs, takeF s.d s.m = .ok A' ∧ resF tb4 s.t A'.get Try.f59.results.toList = .ok vs ∧ Hp A' lo bw (downL l 0 n) ∧ KL lo A A') := by
      rintro t' hu ⟨z, h7⟩ h1
      apply W.seq
      apply W.run 20
      · intro M
        simp (disch := first | decide +kernel | omega) only [c59, Try.f59, Option.getD_some, sub_seq1, sub_seq0, sub_nil, exec_region, runOps_cons, opF_move, ev_tmp, h7, evG_some, putT_some, T.get_set, Nat.reduceEqDiff, h1, if_false, opF_ari, if_true, opF_assign, runOps_nil, R.ok_bind, binF_int, op_gtr, cast_lt]
        with_reducible rfl
      apply W.run 20
      · intro M
        simp (disch := first | decide +kernel | omega) only [c59, Try.f59, Option.getD_some, sub_seq1, sub_nil, exec_ret]
        with_reducible rfl
      refine ⟨.inr rfl, C, [.bool (decide (0 < z))], rfl, ?_, by rw [← heq, hu]; exact ⟨b, c, hm⟩, hK⟩
      simp only [Try.f59, resF, ev_tmp, T.get_set, Nat.reduceEqDiff, if_true, if_false, evG_some, R.ok_bind]
    have hi9 : i ≤ 90000 := by omega
    apply W.seq
    apply W.run 20
    · intro M
      simp (disch := first | decide +kernel | omega) only [c59b1, c59, Try.f59, Option.getD_some, sub_seq1, sub_seq0, sub_block, sub_loop, sub_nil, exec_region, runOps_cons, opF_move, ev_tmp, g7, evG_some, putT_some, opF_ari, ev_int, T.get_set, if_true, Nat.reduceEqDiff, if_false, opF_assign, runOps_nil, R.ok_bind, binF_int, op_mul_i64, op_add_i64]
      with_reducible rfl
    apply W.seq
    by_cases h1 : 2 * i + 1 < n
    · have h1' : ¬ (n ≤ 2 * i + 1) := by omega
      have h1n : ¬ ((2 * i + 1 : Nat) < 0) := by omega
      apply W.run 20
      · intro M
        simp (disch := first | decide +kernel | (rw [wantF_guard]; simp only [wantD_some, dstAt_zero, dstAt_succ, T.get_set, T.get_e, Nat.reduceEqDiff, if_true, if_false, wantV_bool, wantV_unit, unitV, cond_true, cond_false, Bool.not_true, Bool.not_false, List.toList_toArray]) | omega) only [c59b1, c59, Try.f59, Option.getD_some, sub_seq1, sub_seq0, sub_block, sub_loop, sub_nil, exec_seq, exec_region, runOps_cons, opF_move, ev_tmp, T.get_set, Nat.reduceEqDiff, if_false, if_true, evG_some, putT_some, g2, opF_ari, R.ok_bind, binF_int, op_geq, cast_le, h1', decide_false, runOps_yes, ev_int, opF_pick, pickF, ev_bool, runOps_nil, op_lssI, cast_lt, h1n, exec_cond, exec_exit, exec_skip]
        with_reducible rfl
      apply W.seq
      apply W.run 20
      · intro M
        simp (disch := first | decide +kernel | omega) only [c59b1, c59, Try.f59, Option.getD_some, sub_seq1, sub_seq0, sub_block, sub_loop, sub_nil, exec_region, runOps_cons, opF_move, ev_tmp, T.get_set, Nat.reduceEqDiff, if_false, if_true, evG_some, putT_some, opF_assign, runOps_nil, R.ok_bind]
        with_reducible rfl
      show W tb4 _ _ _
      have e1 : m[2 * i + 1]? = some (m[2 * i + 1]'(by omega)) := List.getElem?_eq_getElem (by omega)
      have hc := childL_lt (l := m) h1
      have ml := fun a b => m_less (a := a) (b := b) l0
      -- the child
      have step : ∀ t', Sl t' [(0, wV bw), (1, .int .i64 ((0 : Nat) : Int)), (2, .int .i64 ((n : Nat) : Int)), (7, .int .i64 ((i : Nat) : Int)), (8, .int .i64 ((2 * i + 1 : Nat) : Int)), (9, .int .i64 ((2 * i + 1 : Nat) : Int))] →
          W tb4 (sub c59b1 [0,1,1,1,0]) ⟨t', 48, [], C, none⟩ (fun e s' => ∃ t2, e = .nrm ∧ s' = ⟨t2, 48, [], C, none⟩ ∧ Sl t2 [(0, wV bw), (1, .int .i64 ((0 : Nat) : Int)), (2, .int .i64 ((n : Nat) : Int)), (7, .int .i64 ((i : Nat) : Int)), (9, .int .i64 ((childL m i n : Nat) : Int))]) := by
        rintro t' ⟨f0, f1, f2, f7, f8, f9, -⟩
        by_cases h2 : 2 * i + 2 < n
        · have h2' : 2 * i + 1 + 1 < n := h2
          have e2 : m[2 * i + 2]? = some (m[2 * i + 2]'(by omega)) := List.getElem?_eq_getElem (by omega)
          obtain ⟨gl, hgl⟩ := run_wless hm.r (i := 2 * i + 1 + 1) e2 e1
          cases hless : lessB (m[2 * i + 1]'(by omega)) (m[2 * i + 2]'(by omega)) with
          | true =>
            have hch : childL m i n = 2 * i + 1 + 1 := by
              unfold childL
              rw [e1, e2]
              simp only
              rw [if_pos ⟨h2, hless⟩]
            rw [hless] at hgl
            apply W.runG (gl) 20
            · intro M hM
              simp (disch := first | decide +kernel | (rw [wantF_guard]; simp only [wantD_some, dstAt_zero, dstAt_succ, T.get_set, T.get_e, Nat.reduceEqDiff, if_true, if_false, wantV_bool, wantV_unit, unitV, cond_true, cond_false, Bool.not_true, Bool.not_false, List.toList_toArray]) | omega) only [c59b1, c59, Try.f59, Option.getD_some, sub_seq1, sub_seq0, sub_block, sub_loop, sub_nil, exec_seq, exec_region, runOps_cons, opF_move, ev_tmp, f8, evG_some, putT_some, opF_ari, T.get_set, if_true, ev_int, opF_assign, Nat.reduceEqDiff, if_false, runOps_nil, R.ok_bind, binF_int, op_add_i64, exec_cond, exec_skip, f2, op_lssI, cast_lt, h2', decide_true, runOps_yes, f0, opF_invoke, evs, resK, opF_pick, pickF, ev_bool, ml, hgl]
              with_reducible rfl
            refine ⟨_, rfl, rfl, ?_⟩
            rw [hch]
            simp only [Sl_cons, Sl_nil, T.get_set, T.puts_cons, T.puts_nil, Nat.reduceEqDiff, Nat.reduceAdd, if_true, if_false, and_true, true_and, f0, f1, f2, f7]
          | false =>
            have hch : childL m i n = 2 * i + 1 := by
              unfold childL
              rw [e1, e2]
              simp only
              rw [if_neg (fun h => by rw [hless] at h; exact Bool.noConfusion h.2)]
            rw [hless] at hgl
            apply W.runG (gl) 20
            · intro M hM
              simp (disch := first | decide +kernel | (rw [wantF_guard]; simp only [wantD_some, dstAt_zero, dstAt_succ, T.get_set, T.get_e, Nat.reduceEqDiff, if_true, if_false, wantV_bool, wantV_unit, unitV, cond_true, cond_false, Bool.not_true, Bool.not_false, List.toList_toArray]) | omega) only [c59b1, c59, Try.f59, Option.getD_some, sub_seq1, sub_seq0, sub_block, sub_loop, sub_nil, exec_seq, exec_region, runOps_cons, opF_move, ev_tmp, f8, evG_some, putT_some, opF_ari, T.get_set, if_true, ev_int, opF_assign, Nat.reduceEqDiff, if_false, runOps_nil, R.ok_bind, binF_int, op_add_i64, exec_cond, exec_skip, f2, op_lssI, cast_lt, h2', decide_true, runOps_yes, f0, opF_invoke, evs, resK, opF_pick, pickF, ev_bool, ml, hgl]
              with_reducible rfl
            refine ⟨_, rfl, rfl, ?_⟩
            rw [hch]
            simp only [Sl_cons, Sl_nil, T.get_set, T.puts_cons, T.puts_nil, Nat.reduceEqDiff, Nat.reduceAdd, if_true, if_false, and_true, true_and, f0, f1, f2, f7, f9]
        · have h2' : ¬ 2 * i + 1 + 1 < n := h2
          have hch : childL m i n = 2 * i + 1 := by
            unfold childL
            split
            · rw [if_neg (fun h => h2 h.1)]
            · rfl
          apply W.run 20
          · intro M
            simp (disch := first | decide +kernel | (rw [wantF_guard]; simp only [wantD_some, dstAt_zero, dstAt_succ, T.get_set, T.get_e, Nat.reduceEqDiff, if_true, if_false, wantV_bool, wantV_unit, unitV, cond_true, cond_false, Bool.not_true, Bool.not_false, List.toList_toArray]) | omega) only [c59b1, c59, Try.f59, Option.getD_some, sub_seq1, sub_seq0, sub_block, sub_loop, sub_nil, exec_seq, exec_region, runOps_cons, opF_move, ev_tmp, f8, evG_some, putT_some, opF_ari, T.get_set, if_true, ev_int, opF_assign, Nat.reduceEqDiff, if_false, runOps_nil, R.ok_bind, binF_int, op_add_i64, exec_cond, exec_skip, f2, op_lssI, cast_lt, h2', decide_false, runOps_no, opF_pick, pickF, ev_bool]
            with_reducible rfl
          refine ⟨_, rfl, rfl, ?_⟩
          rw [hch]
          simp only [Sl_cons, Sl_nil, T.get_set, T.puts_cons, T.puts_nil, Nat.reduceEqDiff, Nat.reduceAdd, if_true, if_false, and_true, true_and, f0, f1, f2, f7, f9]
      apply W.seq
      refine (step _ (by simp only [Sl_cons, Sl_nil, T.get_set, T.puts_cons, T.puts_nil, Nat.reduceEqDiff, Nat.reduceAdd, if_true, if_false, and_true, true_and, g0, g1, g2, g7])).mono ?_
      rintro e s' ⟨t2, rfl, rfl, f0, f1, f2, f7, f9, -⟩
      show W tb4 _ _ _
      have him : i < m.length := by omega
      have hcm : childL m i n < m.length := by omega
      have ex : m[i]? = some (m[i]'him) := List.getElem?_eq_getElem him
      have ey : m[childL m i n]? = some (m[childL m i n]'hcm) := List.getElem?_eq_getElem hcm
      have hst := downL_step h1 ex ey
      obtain ⟨gl, hgl⟩ := run_wless hm.r ey ex
      apply W.seq
      cases hless : lessB (m[i]'him) (m[childL m i n]'hcm) with
      | false =>
        rw [hless] at hgl hst
        apply W.runG (gl) 20
        · intro M hM
          simp (disch := first | decide +kernel | omega) only [c59b1, c59, Try.f59, Option.getD_some, sub_seq1, sub_seq0, sub_block, sub_loop, sub_nil, exec_seq, exec_region, runOps_cons, opF_move, ev_tmp, f0, evG_some, putT_some, T.get_set, Nat.reduceEqDiff, f9, if_false, f7, opF_invoke, evs, if_true, R.ok_bind, resK, opF_un, runOps_nil, ml, hgl, un_not, Bool.not_false, exec_cond, exec_exit, exec_skip]
          with_reducible rfl
        show W tb4 _ _ _
        exact fin _ (by rw [hst]; rfl) ⟨i, by simp only [T.get_set, Nat.reduceEqDiff, if_true, if_false]; exact f7⟩ (by simp only [T.get_set, Nat.reduceEqDiff, if_true, if_false]; exact f1)
      | true =>
        rw [hless, if_pos rfl] at hst
        rw [hless] at hgl
        have ms := fun a b => m_swap (a := a) (b := b) l0
        obtain ⟨C2, ⟨gs, hgs⟩, hp2, k2⟩ := hm.swap him hcm
        apply W.runG (gl) 20
        · intro M hM
          simp (disch := first | decide +kernel | omega) only [c59b1, c59, Try.f59, Option.getD_some, sub_seq1, sub_seq0, sub_block, sub_loop, sub_nil, exec_seq, exec_region, runOps_cons, opF_move, ev_tmp, f0, evG_some, putT_some, T.get_set, Nat.reduceEqDiff, f9, if_false, f7, opF_invoke, evs, if_true, R.ok_bind, resK, opF_un, runOps_nil, ml, hgl, un_not, Bool.not_true, exec_cond, exec_exit, exec_skip]
          with_reducible rfl
        apply W.seq
        apply W.runG (gs) 20
        · intro M hM
          simp (disch := first | decide +kernel | omega) only [c59b1, c59, Try.f59, Option.getD_some, sub_seq1, sub_seq0, sub_block, sub_loop, sub_nil, exec_region, runOps_cons, opF_move, ev_tmp, T.get_set, Nat.reduceEqDiff, f0, if_false, evG_some, putT_some, f7, f9, opF_invoke, evs, if_true, R.ok_bind, resK, runOps_nil, ms, hgs]
          with_reducible rfl
        apply W.run 20
        · intro M
          simp (disch := first | decide +kernel | omega) only [c59b1, c59, Try.f59, Option.getD_some, sub_seq1, sub_seq0, sub_block, sub_loop, sub_nil, exec_region, runOps_cons, opF_move, ev_tmp, T.get_set, Nat.reduceEqDiff, f9, if_false, evG_some, putT_some, opF_assign, if_true, runOps_nil, R.ok_bind]
          with_reducible rfl
        refine ⟨n - childL m i n, _, _, by omega, rfl, childL m i n, swapL m i (childL m i n), rfl, ⟨b, c, hp2⟩, by rw [swapL_len, hml], .inl hc.2, by rw [← heq, hst], hK.trans k2, ?_⟩
        simp only [Sl_cons, Sl_nil, T.get_set, T.puts_cons, T.puts_nil, Nat.reduceEqDiff, Nat.reduceAdd, if_true, if_false, and_true, true_and, f0, f1, f2]
    · have h1' : n ≤ 2 * i + 1 := by omega
      apply W.run 20
      · intro M
        simp (disch := first | decide +kernel | (rw [wantF_guard]; simp only [wantD_some, dstAt_zero, dstAt_succ, T.get_set, T.get_e, Nat.reduceEqDiff, if_true, if_false, wantV_bool, wantV_unit, unitV, cond_true, cond_false, Bool.not_true, Bool.not_false, List.toList_toArray]) | omega) only [c59b1, c59, Try.f59, Option.getD_some, sub_seq1, sub_seq0, sub_block, sub_loop, sub_nil, exec_seq, exec_region, runOps_cons, opF_move, ev_tmp, T.get_set, Nat.reduceEqDiff, if_false, if_true, evG_some, putT_some, g2, opF_ari, R.ok_bind, binF_int, op_geq, cast_le, h1', decide_true, runOps_no, opF_pick, pickF, ev_bool, runOps_nil, exec_cond, exec_exit, exec_skip]
        with_reducible rfl
      show W tb4 _ _ _
      exact fin _ (downL_stop h1) ⟨i, by simp only [T.get_set, Nat.reduceEqDiff, if_true, if_false]; exact g7⟩ (by simp only [T.get_set, Nat.reduceEqDiff, if_true, if_false]; exact g1)
  · simp only [Sl_cons, Sl_nil, T.get_set, T.puts_cons, T.puts_nil, Nat.reduceEqDiff, Nat.reduceAdd, if_true, if_false, and_true, true_and]
end Go.Proofs.Ytnelkapmmgggdaa.mdl

/-
  Model: container/heap over hits: Push and Pop, whole; Top.
-/
namespace Go.Proofs.Ytnelkapmmgggdaa.mdl
open Go.Am Go.Mdl
open Go.Proofs.Ytnelkapmmgggdaa.rnk (HitD hitC ordD lessB sortH ordK lessK hitC_len)
set_option linter.unusedSimpArgs false
set_option linter.unusedVariables false
set_option linter.unusedVariables false

theorem upL_len : ∀ (j : Nat) (l : List HitD), (upL l j).length = l.length := by
  intro j
  induction j using Nat.strongRecOn with
  | ind j ih =>
    intro l
    rw [upL]
    split
    · rfl
    · rename_i h
      split
      · split
        · rw [ih _ (by omega), swapL_len]
        · rfl
      · rfl
theorem downL_len (n : Nat) : ∀ (k i : Nat) (l : List HitD), n - i = k → (downL l i n).length = l.length := by
  intro k
  induction k using Nat.strongRecOn with
  | ind k ih =>
    intro i l hk
    rw [downL]
    split
    · rename_i h
      split
      · split
        · have := childL_lt (l := l) h
          rw [ih (n - childL l i n) (by omega) _ _ rfl, swapL_len]
        · rfl
      · rfl
    · rfl
def pushL (l : List HitD) (h : HitD) : List HitD := upL (l ++ [h]) l.length
def popL (l : List HitD) : List HitD := (downL (swapL l 0 (l.length - 1)) 0 (l.length - 1)).take (l.length - 1)
theorem pushL_len (l : List HitD) (h : HitD) : (pushL l h).length = l.length + 1 := by unfold pushL; rw [upL_len]; simp
theorem popL_len (l : List HitD) : (popL l).length = l.length - 1 := by unfold popL; rw [List.length_take, downL_len _ _ _ _ rfl, swapL_len]; omega
noncomputable def c47 : Code := Try.f47.body.getD .skip
theorem c47_eq : Try.f47.body = some (.seq (sub c47 [0]) (sub c47 [1])) := by kernel_rfl
theorem run_hpush {A : Mem} {lo bw : Nat} {l : List HitD} {h : HitD} (hp : Hp A lo bw l) (hl : l.length < 80000) :
    ∃ A', Ans tb4 47 [wV bw, .iface 63 (.agg ⟨hitC h⟩)] A (.tuple ⟨[]⟩) A' ∧ Hp A' lo bw (pushL l h) ∧ KL lo A A' := by
  obtain ⟨v, A', hg, rfl, h1, h2⟩ : ∃ v A', Ans tb4 47 [wV bw, .iface 63 (.agg ⟨hitC h⟩)] A v A' ∧ v = .tuple ⟨[]⟩ ∧ Hp A' lo bw (pushL l h) ∧ KL lo A A' := by
    refine ans_of_W (fn_at Try.func47) c47_eq (by rw [Try.ntmps47]; simp) (by kernel_rfl) (by kernel_rfl) ?_
    obtain ⟨B, ⟨g1, hg1⟩, hp1, k1⟩ := run_wpush (h := h) hp (by omega)
    have hll : (l ++ [h]).length = l.length + 1 := by simp
    have mp := fun a => m_push (g := A.get) (bw := bw) (a := a)
    apply W.seq
    apply W.runG (g1) 20
    · intro M hM
      simp (disch := first | decide +kernel | omega) only [c47, Try.f47, Option.getD_some, sub_seq0, sub_nil, T.puts_cons, Nat.reduceAdd, T.puts_nil, exec_region, runOps_cons, opF_move, ev_tmp, T.get_set, Nat.reduceEqDiff, T.get_e, if_true, if_false, evG_some, putT_some, opF_invoke, evs, R.ok_bind, resK, runOps_nil, mp, hg1]
      with_reducible rfl
    show W tb4 _ _ _
    obtain ⟨C, ⟨g2, hg2⟩, hp2, k2⟩ := run_up (j := l.length) hp1 (by rw [hll]; omega) (by rw [hll]; omega)
    obtain ⟨b, c, hpb⟩ := hp1
    have ml := m_len hpb.load
    rw [hll] at ml
    obtain ⟨g3, hg3⟩ := run_len (A := B) (b := some ⟨b, 0, none⟩) (n := l.length + 1) (c := c)
    apply W.runG ((g2+g3)) 20
    · intro M hM
      simp (disch := first | decide +kernel | omega) only [c47, Try.f47, Option.getD_some, sub_seq1, sub_nil, exec_region, runOps_cons, opF_move, ev_tmp, T.get_set, Nat.reduceEqDiff, T.get_e, if_true, if_false, evG_some, putT_some, opF_invoke, evs, resK, opF_ari, ev_int, opF_call, R.ok_bind, runOps_nil, ml, hg3, binF_int, op_sub_i64, Nat.add_sub_cancel, hg2]
      with_reducible rfl
    refine ⟨.inl rfl, C, [], rfl, ?_, rfl, hp2, k1.trans k2⟩
    simp only [Try.f47, resF, ev_tmp, T.get_set, Nat.reduceEqDiff, if_true, if_false, evG_some, R.ok_bind]
  exact ⟨A', hg, h1, h2⟩
noncomputable def c49 : Code := Try.f49.body.getD .skip
theorem c49_eq : Try.f49.body = some (.seq (sub c49 [0]) (.seq (sub c49 [1,0]) (.seq (sub c49 [1,1,0]) (.seq (sub c49 [1,1,1,0]) (.seq (sub c49 [1,1,1,1,0]) (sub c49 [1,1,1,1,1])))))) := by kernel_rfl
theorem run_hpop {A : Mem} {lo bw : Nat} {l : List HitD} (hp : Hp A lo bw l) (h0 : 0 < l.length) (hl : l.length < 80000) :
    ∃ v A', Ans tb4 49 [wV bw] A v A' ∧ Hp A' lo bw (popL l) ∧ KL lo A A' := by
  refine ans_of_W (fn_at Try.func49) c49_eq (by rw [Try.ntmps49]; simp) (by kernel_rfl) (by kernel_rfl) ?_
  obtain ⟨b, c, hpb⟩ := hp
  have ml := m_len hpb.load
  obtain ⟨g1, hg1⟩ := run_len (A := A) (b := some ⟨b, 0, none⟩) (n := l.length) (c := c)
  apply W.seq
  apply W.run 20
  · intro M
    simp (disch := first | decide +kernel | omega) only [c49, Try.f49, Option.getD_some, sub_seq0, sub_nil, T.puts_cons, Nat.reduceAdd, T.puts_nil, exec_region, runOps_cons, opF_assign, ev_nili, putT_some, runOps_nil, R.ok_bind]
    with_reducible rfl
  apply W.seq
  apply W.runG (g1) 20
  · intro M hM
    simp (disch := first | decide +kernel | omega) only [c49, Try.f49, Option.getD_some, sub_seq1, sub_seq0, sub_nil, exec_region, runOps_cons, opF_move, ev_tmp, T.get_set, Nat.reduceEqDiff, T.get_e, if_true, if_false, evG_some, putT_some, opF_invoke, evs, resK, opF_ari, ev_int, opF_assign, runOps_nil, R.ok_bind, ml, hg1, binF_int, op_sub_i64]
    with_reducible rfl
  show W tb4 _ _ _
  have ms := fun a b => m_swap (a := a) (b := b) hpb.load
  obtain ⟨B, ⟨g2, hg2⟩, hp1, k1⟩ := hpb.swap (i := 0) (j := l.length - 1) h0 (by omega)
  apply W.seq
  apply W.runG (g2) 20
  · intro M hM
    simp (disch := first | decide +kernel | omega) only [c49, Try.f49, Option.getD_some, sub_seq1, sub_seq0, sub_nil, exec_region, runOps_cons, opF_move, ev_tmp, T.get_set, Nat.reduceEqDiff, T.get_e, if_true, if_false, evG_some, putT_some, opF_invoke, evs, ev_int, R.ok_bind, resK, runOps_nil, ms, hg2]
    with_reducible rfl
  show W tb4 _ _ _
  have hsl := swapL_len l 0 (l.length - 1)
  obtain ⟨v3, C, ⟨g3, hg3⟩, hp2, k2⟩ := run_down (n := l.length - 1) ⟨b, c, hp1⟩ (by rw [hsl]; omega) (by rw [hsl]; omega)
  apply W.seq
  apply W.runG (g3) 20
  · intro M hM
    simp (disch := first | decide +kernel | omega) only [c49, Try.f49, Option.getD_some, sub_seq1, sub_seq0, sub_nil, exec_region, runOps_cons, opF_move, ev_tmp, T.get_set, Nat.reduceEqDiff, T.get_e, if_true, if_false, evG_some, putT_some, opF_call, evs, ev_int, R.ok_bind, resK, runOps_nil, hg3]
    with_reducible rfl
  show W tb4 _ _ _
  have hdl := downL_len (l.length - 1) _ 0 (swapL l 0 (l.length - 1)) rfl
  obtain ⟨D, ⟨g4, hg4⟩, hp3, k3⟩ := run_wpop hp2 (by rw [hdl, hsl]; exact h0) (by rw [hdl, hsl]; omega)
  rw [hdl, hsl] at hp3
  have mp := m_pop (g := C.get) (bw := bw)
  generalize Value.iface 63 (.agg ⟨hitC _⟩) = vi at hg4
  apply W.seq
  apply W.runG (g4) 20
  · intro M hM
    simp (disch := first | decide +kernel | omega) only [c49, Try.f49, Option.getD_some, sub_seq1, sub_seq0, sub_nil, exec_region, runOps_cons, opF_move, ev_tmp, T.get_set, Nat.reduceEqDiff, T.get_e, if_true, if_false, evG_some, putT_some, opF_invoke, evs, resK, opF_assign, runOps_nil, R.ok_bind, mp, hg4]
    with_reducible rfl
  apply W.run 20
  · intro M
    simp (disch := first | decide +kernel | omega) only [c49, Try.f49, Option.getD_some, sub_seq1, sub_nil, exec_ret]
    with_reducible rfl
  refine ⟨.inr rfl, D, [vi], rfl, ?_, hp3, (k1.trans k2).trans k3⟩
  simp only [Try.f49, resF, ev_tmp, T.get_set, Nat.reduceEqDiff, if_true, if_false, evG_some, R.ok_bind]
end Go.Proofs.Ytnelkapmmgggdaa.mdl

/-
  Model: rank.Sort, rank.Top.
-/
namespace Go.Proofs.Ytnelkapmmgggdaa.mdl
open Go.Am Go.Mdl
open Go.Proofs.Ytnelkapmmgggdaa.rnk (HitD hitC ordD lessB sortH ordK lessK hitC_len sortH_len)
set_option linter.unusedSimpArgs false
set_option linter.unusedVariables false
set_option linter.unusedVariables false

abbrev HitS (A : Mem) (b : Nat) (l : List HitD) (x : Value) : Prop := SlcM A 63 4 b (l.map hitC) x
theorem HitS.kp {A A' : Mem} {b : Nat} {l : List HitD} {x : Value} (h : HitS A b l x) (k : Kp A A') : HitS A' b l x := SlcM.same h k.1 (fun h => k.2 _ h)
def HitE (A : Mem) (l : List HitD) (x : Value) : Prop := ∃ b, HitS A b l x
theorem HitE.kp {A A' : Mem} {l : List HitD} {x : Value} (h : HitE A l x) (k : Kp A A') : HitE A' l x := by
  obtain ⟨b, h⟩ := h
  exact ⟨b, h.kp k⟩
theorem strOf_inj {a b : List UInt8} (h : strOf a = strOf b) : a = b := by
  unfold strOf at h
  injection h with h
  injection h with h
  injection h with h
theorem hitC_inj {x y : HitD} (h : hitC x = hitC y) : x = y := by
  unfold hitC at h
  simp only [List.cons.injEq, Value.int.injEq, Value.bool.injEq, and_true, true_and] at h
  obtain ⟨h1, h2, h3, h4⟩ := h
  obtain ⟨⟨a, b, c⟩, d⟩ := x
  obtain ⟨⟨a', b', c'⟩, d'⟩ := y
  have e1 := strOf_inj h1
  have e2 : b = b' := Int.ofNat.inj h2
  have e4 : d = d' := Int.ofNat.inj h4
  simp only at e1 h3
  subst e1 e2 h3 e4
  rfl
theorem rowOf_uniq {cs : T Value} {d d' : List HitD} (h : RowOf hitC 4 cs d) (h' : RowOf hitC 4 cs d') (hl : d.length = d'.length) : d = d' := by
  apply List.ext_getElem? 
  intro i
  by_cases hi : i < d.length
  · have e1 : d[i]? = some d[i] := List.getElem?_eq_getElem hi
    have e2 : d'[i]? = some (d'[i]'(by omega)) := List.getElem?_eq_getElem (by omega)
    rw [e1, e2]
    congr 1
    apply hitC_inj
    apply List.ext_getElem?
    intro j
    by_cases hj : j < 4
    · rw [← h i _ j e1 hj, h' i _ j e2 hj]
    · rw [List.getElem?_eq_none (by show 4 ≤ j; omega), List.getElem?_eq_none (by show 4 ≤ j; omega)]
  · rw [List.getElem?_eq_none (by omega), List.getElem?_eq_none (by omega)]
theorem k60 {ih : Code → St → R (Ex × St)} {A : Mem} {b n c : Nat} {t : TypeId} {l : List HitD} {cs : T Value} (hg : A.get b = some (.cells t .row 0 cs)) (hrow : RowOf hitC 4 cs l) (hn : l.length = n) (hb : n < 1000000) :
    callF tb4 ih (.fn 60 [.slice (some ⟨b, 0, none⟩) n c, .func (.func 53) ⟨[]⟩ ⟨[]⟩]) A = .ok (.val (.tuple ⟨[]⟩) (A.set b (.cells t .row 0 (T.puts cs 0 ((sortH l).map hitC).flatten)))) := by
  refine callF_known (c := (Try.f60.body).getD .skip) (fn_at Try.func60) (by kernel_rfl) (by kernel_rfl) (h := sortFHook hitC 4 53 sortH) (by kernel_rfl) ?_
  have hh : (53 : Nat) = 53 ∧ n < 4611686018427387904 ∧ ∃ d : List HitD, d.length = n ∧ RowOf hitC 4 cs d := ⟨rfl, by omega, l, hn, hrow⟩
  have hch : Classical.choose hh.2.2 = l := by
    have hs := Classical.choose_spec hh.2.2
    exact rowOf_uniq hs.2 hrow (by rw [hs.1, hn])
  unfold sortFHook
  simp only [hg]
  rw [dif_pos hh, hch]
theorem k60n {ih : Code → St → R (Ex × St)} {A : Mem} : callF tb4 ih (.fn 60 [.slice none 0 0, .func (.func 53) ⟨[]⟩ ⟨[]⟩]) A = .ok (.val (.tuple ⟨[]⟩) A) := by
  refine callF_known (c := (Try.f60.body).getD .skip) (fn_at Try.func60) (by kernel_rfl) (by kernel_rfl) (h := sortFHook hitC 4 53 sortH) (by kernel_rfl) ?_
  unfold sortFHook
  simp only [if_true]
theorem ev_f53 {t : T Value} : ev t (Operand.func 53) = .ok (.func (.func 53) ⟨[]⟩ ⟨[]⟩) := rfl
theorem app_hits {A : Mem} {b c : Nat} {l : List HitD} (hr : HRow A b l c) (hl : l.length ≤ 16777216) (h0 : l ≠ []) :
    appendF tb4 A 51 51 (.slice none 0 0) (.slice (some ⟨b, 0, none⟩) l.length c) = .ok (.slice (some ⟨A.next, 0, none⟩) l.length (mkX l.length 4), A.alloc (.cells 63 .row 0 (T.puts .e 0 ((l.map hitC).flatten)))) := by
  obtain ⟨ti, hti, hb1, hb2⟩ := ty63
  have hlp : 0 < l.length := List.length_pos_iff.2 h0
  have hf : firstF A.get 4 l.length (.slice (some ⟨b, 0, none⟩) l.length c) = .ok ((l.map hitC).flatten) := hr.elems
  have hlim : (Nat.ble (0 + l.length) 16777216 && Nat.ble ti.bytes 65536 && Nat.blt 0 ti.bytes && Nat.blt 0 4 && Nat.blt 4 65536) = true := by
    have a1 : Nat.ble (0 + l.length) 16777216 = true := Nat.ble_eq_true_of_le (by omega)
    have a2 : Nat.ble ti.bytes 65536 = true := Nat.ble_eq_true_of_le hb2
    have a3 : Nat.blt 0 ti.bytes = true := by rw [Nat.blt_eq]; exact hb1
    rw [a1, a2, a3]; rfl
  have hble : Nat.ble (0 + l.length) (capN 0) = false := by
    cases hq : Nat.ble (0 + l.length) (capN 0) with
    | false => rfl
    | true =>
      have h1 := Nat.le_of_ble_eq_true hq
      have h2 : capN 0 = 0 := rfl
      omega
  have hx : capX 0 = true := rfl
  have hel : elemsF A.get 4 0 none = .ok [] := rfl
  unfold appendF appendG
  simp only [und51, isIntD, cond_false, zc63, R.ok_bind, lenF, hf, hble, hti, hlim, cond_true, hel, hx, List.nil_append, Nat.zero_add]
  rw [Nat.zero_add] at hble hlim
  rw [hble, cond_false, hlim, cond_true]
theorem app_hits0 {A : Mem} {b c : Nat} : appendF tb4 A 51 51 (.slice none 0 0) (.slice (some ⟨b, 0, none⟩) 0 c) = .ok (.slice none 0 0, A) := by
  have hf : firstF A.get 4 0 (.slice (some ⟨b, 0, none⟩) 0 c) = .ok [] := rfl
  unfold appendF appendG
  simp only [und51, isIntD, cond_false, zc63, R.ok_bind, lenF, hf]
  rfl
noncomputable def c50 : Code := Try.f50.body.getD .skip
theorem c50_eq : Try.f50.body = some (.seq (sub c50 [0]) (.seq (sub c50 [1,0]) (.seq (sub c50 [1,1,0]) (.seq (sub c50 [1,1,1,0]) (sub c50 [1,1,1,1]))))) := by kernel_rfl
theorem run_sort {A : Mem} {b c : Nat} {l : List HitD} (hr : HRow A b l c) (hl : l.length < 90000) :
    ∃ y A', Ans tb4 50 [.slice (some ⟨b, 0, none⟩) l.length c] A y A' ∧ HitE A' (sortH l) y ∧ Kp A A' := by
  obtain ⟨v, A', hg, h1, h2⟩ : ∃ v A', Ans tb4 50 [.slice (some ⟨b, 0, none⟩) l.length c] A v A' ∧ HitE A' (sortH l) v ∧ Kp A A' := by
    refine ans_of_W (fn_at Try.func50) c50_eq (by rw [Try.ntmps50]; simp) (by kernel_rfl) (by kernel_rfl) ?_
    apply W.seq
    apply W.run 20
    · intro M
      simp (disch := first | decide +kernel | omega) only [c50, Try.f50, Option.getD_some, sub_seq0, sub_nil, T.puts_cons, Nat.reduceAdd, T.puts_nil, exec_region, runOps_cons, opF_assign, ev_nilslice, putT_some, runOps_nil, R.ok_bind]
      with_reducible rfl
    apply W.seq
    by_cases h0 : l = []
    · subst h0
      have ha := app_hits0 (A := A) (b := b) (c := c)
      apply W.run 20
      · intro M
        simp (disch := first | decide +kernel | omega) only [c50, Try.f50, Option.getD_some, sub_seq1, sub_seq0, sub_nil, List.length_nil, exec_region, runOps_cons, opF_move, ev_tmp, T.get_set, Nat.reduceEqDiff, T.get_e, if_true, if_false, evG_some, putT_some, opF_builtin, evs, ev_nilslice, R.ok_bind, opF_assign, runOps_nil, builtin_append, ha]
        with_reducible rfl
      apply W.seq
      apply W.run 20
      · intro M
        simp (disch := first | decide +kernel | omega) only [c50, Try.f50, Option.getD_some, sub_seq1, sub_seq0, sub_nil, exec_region, runOps_cons, opF_move, ev_tmp, T.get_set, Nat.reduceEqDiff, T.get_e, if_false, if_true, evG_some, putT_some, opF_call, evs, ev_f53, R.ok_bind, resK, runOps_nil, k60n]
        with_reducible rfl
      apply W.seq
      apply W.run 20
      · intro M
        simp (disch := first | decide +kernel | omega) only [c50, Try.f50, Option.getD_some, sub_seq1, sub_seq0, sub_nil, exec_region, runOps_cons, opF_move, ev_tmp, T.get_set, Nat.reduceEqDiff, T.get_e, if_false, if_true, evG_some, putT_some, opF_assign, runOps_nil, R.ok_bind]
        with_reducible rfl
      apply W.run 20
      · intro M
        simp (disch := first | decide +kernel | omega) only [c50, Try.f50, Option.getD_some, sub_seq1, sub_nil, exec_ret]
        with_reducible rfl
      refine ⟨.inr rfl, A, [.slice none 0 0], rfl, ?_, ⟨0, .inl ⟨rfl, by rw [show sortH [] = [] from List.length_eq_zero_iff.1 (sortH_len [])]; rfl⟩⟩, Kp.refl _⟩
      simp only [Try.f50, resF, ev_tmp, T.get_set, Nat.reduceEqDiff, if_true, if_false, evG_some, R.ok_bind]
    · have ha := app_hits hr (by omega) h0
      have hget := get_alloc_self A (.cells 63 .row 0 (T.puts .e 0 ((l.map hitC).flatten)))
      have hrow : RowOf hitC 4 (T.puts .e 0 ((l.map hitC).flatten)) l := fun i x j hi hj => (hcells_new l).1 i x j hi hj
      have hk := fun ih => k60 (ih := ih) (c := mkX l.length 4) hget hrow rfl (by omega)
      apply W.run 20
      · intro M
        simp (disch := first | decide +kernel | omega) only [c50, Try.f50, Option.getD_some, sub_seq1, sub_seq0, sub_nil, exec_region, runOps_cons, opF_move, ev_tmp, T.get_set, Nat.reduceEqDiff, T.get_e, if_true, if_false, evG_some, putT_some, opF_builtin, evs, ev_nilslice, R.ok_bind, opF_assign, runOps_nil, builtin_append, ha]
        with_reducible rfl
      apply W.seq
      apply W.run 20
      · intro M
        simp (disch := first | decide +kernel | omega) only [c50, Try.f50, Option.getD_some, sub_seq1, sub_seq0, sub_nil, exec_region, runOps_cons, opF_move, ev_tmp, T.get_set, Nat.reduceEqDiff, T.get_e, if_false, if_true, evG_some, putT_some, opF_call, evs, ev_f53, R.ok_bind, resK, runOps_nil, hk]
        with_reducible rfl
      apply W.seq
      apply W.run 20
      · intro M
        simp (disch := first | decide +kernel | omega) only [c50, Try.f50, Option.getD_some, sub_seq1, sub_seq0, sub_nil, exec_region, runOps_cons, opF_move, ev_tmp, T.get_set, Nat.reduceEqDiff, T.get_e, if_false, if_true, evG_some, putT_some, opF_assign, runOps_nil, R.ok_bind]
        with_reducible rfl
      apply W.run 20
      · intro M
        simp (disch := first | decide +kernel | omega) only [c50, Try.f50, Option.getD_some, sub_seq1, sub_nil, exec_ret]
        with_reducible rfl
      refine ⟨.inr rfl, _, [.slice (some ⟨A.next, 0, none⟩) l.length (mkX l.length 4)], rfl, ?_, ⟨A.next, .inr ⟨.row, mkX l.length 4, ?_, ?_, ⟨_, by rw [get_setMem, if_pos rfl], fun i hi => ?_⟩, fun x hx => (by obtain ⟨e, _, rfl⟩ := List.mem_map.1 hx; rfl), .inr ⟨by rw [List.length_map, sortH_len], .inl rfl⟩⟩⟩, ⟨?_, fun z hz => ?_⟩⟩
      · simp only [Try.f50, resF, ev_tmp, T.get_set, Nat.reduceEqDiff, if_true, if_false, evG_some, R.ok_bind]
      · rw [List.length_map, sortH_len]; rfl
      · show A.next < A.next + 1; omega
      · rw [T.get_puts, Nat.zero_add, if_pos ⟨Nat.zero_le _, hi⟩, Nat.sub_zero]
      · show A.next ≤ A.next + 1; omega
      · rw [get_setMem, if_neg (by omega), get_alloc_ne (by omega)]
  exact ⟨v, A', hg, h1, h2⟩
end Go.Proofs.Ytnelkapmmgggdaa.mdl

/-
  Model: rank.Top.
-/
namespace Go.Proofs.Ytnelkapmmgggdaa.mdl
open Go.Am Go.Mdl
open Go.Proofs.Ytnelkapmmgggdaa.rnk (HitD hitC ordD lessB sortH ordK lessK hitC_len sortH_len)
set_option linter.unusedSimpArgs false
set_option linter.unusedVariables false
set_option linter.unusedVariables false

def stepT (n : Int) (w : List HitD) (x : HitD) : List HitD := if n < ((pushL w x).length : Int) then popL (pushL w x) else pushL w x
def topL (n : Int) (l : List HitD) : List HitD := sortH (l.foldl (stepT n) [])
theorem stepT_len {n : Int} {w : List HitD} {x : HitD} : (stepT n w x).length ≤ w.length + 1 := by
  unfold stepT
  split
  · rw [popL_len, pushL_len]; omega
  · rw [pushL_len]; omega
theorem if98 {bw : Nat} : ifaceF tb4 98 (.pointer (some ⟨bw, 0, none⟩)) = .ok (wV bw) := by kernel_rfl
theorem bs99z : buildSliceF tb4 99 0 [] = .ok (rowOb 63 [], .slc 0 0) := by kernel_rfl
theorem HitS.at {A : Mem} {b i : Nat} {l : List HitD} {x : Value} {h : HitD} (hs : HitS A b l x) (hi : l[i]? = some h) : indexAddrF tb4 51 x (.int .i64 ((i : Nat) : Int)) = .ok (.pointer (some ⟨b, i * 4, none⟩)) ∧ loadF tb4 A.get 63 (.pointer (some ⟨b, i * 4, none⟩)) = .ok (.agg ⟨hitC h⟩) := by
  obtain ⟨d63, hd1, hd2⟩ := und63'
  exact ⟨SlcM.idx hs und51 size63' (by rw [List.length_map]; exact (List.getElem?_eq_some_iff.1 hi).1), SlcM.load_all hs hd1 hd2 size63' (by rw [List.getElem?_map, hi]; rfl)⟩
theorem HitS.lens {A : Mem} {b : Nat} {l : List HitD} {x : Value} (h : HitS A b l x) : builtinPF tb4 .len [51] [x] = .ok (.int .i64 ((l.length : Nat) : Int)) := by
  have := SlcM.len (tb := tb4) h und51
  rwa [List.length_map] at this
noncomputable def c31 : Code := Try.f31.body.getD .skip
noncomputable def c31b1 : Code := sub c31 [1,1,1,0,1,0,0]
theorem c31_eq : Try.f31.body = some (.seq (sub c31 [0]) (.seq (.seq (sub c31 [1,0,0]) (sub c31 [1,0,1])) (.seq (sub c31 [1,1,0]) (.seq (.seq (sub c31 [1,1,1,0,0]) (.block 0 (.loop c31b1))) (.seq (sub c31 [1,1,1,1,0]) (sub c31 [1,1,1,1,1])))))) := by kernel_rfl
theorem c31b1_eq : c31b1 = .seq (sub c31b1 [0]) (.seq (sub c31b1 [1,0]) (.seq (.block 1 (.seq (sub c31b1 [1,1,0,0,0]) (.seq (sub c31b1 [1,1,0,0,1,0]) (sub c31b1 [1,1,0,0,1,1])))) (sub c31b1 [1,1,1]))) := by kernel_rfl
theorem top_round {C : Mem} {lo bw i : Nat} {bx len : Nat} {n : Int} {l m : List HitD} {h : HitD} {x : Value} {t : T Value} {K : Ex → St → Prop} (hx : HitS C bx l x) (hm : Hp C lo bw m) (hlo : lo ≤ C.next) (hi : l[i]? = some h) (hml : m.length < 70000)
    (ht : Sl t [(0, .int .i64 n), (6, .pointer (some ⟨bw, 0, none⟩)), (13, x), (14, .int .i64 (len : Int)), (15, .int .i64 (i : Int))])
    (hK : ∀ t' C', Hp C' lo bw (stepT n m h) → KL lo C C' → Sl t' [(0, .int .i64 n), (6, .pointer (some ⟨bw, 0, none⟩)), (13, x), (14, .int .i64 (len : Int)), (15, .int .i64 (i : Int))] → K .nrm ⟨t', 38, [], C', none⟩) :
    W tb4 (.seq (sub c31b1 [1,1,0,0,0]) (.seq (sub c31b1 [1,1,0,0,1,0]) (sub c31b1 [1,1,0,0,1,1]))) ⟨t, 38, [], C, none⟩ K := by
  obtain ⟨g0, g6, g13, g14, g15, -⟩ := ht
  obtain ⟨d63, hd1, hd2⟩ := und63'
  obtain ⟨i1, i2⟩ := hx.at hi
  have z1 : Vals (C.alloc (rowOb 63 hitZ)) 63 C.next (.var 4) hitZ := vals_puts (get_alloc_self _ _)
  obtain ⟨C1, s1, v1, n1, k1⟩ := store_all (tb := tb4) (t := 63) (l := hitZ) (l' := hitC h) size63' z1 rfl (by simp [hitZ]) (hitC_one h)
  rw [next_alloc] at n1
  have kC1 : Kp C C1 := ⟨by omega, fun z hz => by rw [k1 z (by omega), get_alloc_ne (by omega)]⟩
  have lh := load_all (tb := tb4) hd1 hd2 (l := hitC h) size63' v1
  obtain ⟨b0, c0, hm0⟩ := hm
  obtain ⟨C2, ⟨g1, hg1⟩, hp2, k2⟩ := run_hpush (h := h) ⟨b0, c0, hm0.kp kC1⟩ (by omega)
  have hpl := pushL_len m h
  obtain ⟨b2, c2, hm2⟩ := hp2
  have l2 := hm2.load
  rw [hpl] at l2
  obtain ⟨g2, hg2⟩ := run_len (A := C2) (b := some ⟨b2, 0, none⟩) (n := m.length + 1) (c := c2)
  have kk := (kC1.kl hlo).trans k2
  have e98 := if98 (bw := bw)
  have e63 := if63 (h := h)
  apply W.seq
  apply W.run 20
  · intro M
    simp (disch := first | decide +kernel | omega) only [c31b1, c31, Try.f31, Option.getD_some, sub_seq1, sub_seq0, sub_block, sub_loop, sub_nil, exec_region, runOps_cons, opF_indexAddr, ev_tmp, g13, evG_some, g15, putT_some, opF_load, T.get_set, if_true, opF_alloc, z63, at_ptr, opF_store, Nat.reduceEqDiff, if_false, putT_none, runOps_nil, R.ok_bind, cells_agg, i1, i2, s1]
    with_reducible rfl
  apply W.seq
  apply W.runG (g1) 20
  · intro M hM
    simp (disch := first | decide +kernel | omega) only [c31b1, c31, Try.f31, Option.getD_some, sub_seq1, sub_seq0, sub_block, sub_loop, sub_nil, exec_region, runOps_cons, opF_move, ev_tmp, T.get_set, Nat.reduceEqDiff, g6, if_false, evG_some, putT_some, opF_makeIface, if_true, opF_load, opF_call, evs, R.ok_bind, resK, runOps_nil, lh, e63, e98, hg1]
    with_reducible rfl
  show W tb4 _ _ _
  by_cases hn : n < ((m.length + 1 : Nat) : Int)
  · have hst : stepT n m h = popL (pushL m h) := by unfold stepT; rw [hpl, if_pos hn]
    obtain ⟨v3, C3, ⟨g3, hg3⟩, hp3, k3⟩ := run_hpop ⟨b2, c2, hm2⟩ (by omega) (by omega)
    have hd : decide (n < ((m.length + 1 : Nat) : Int)) = true := decide_eq_true hn
    apply W.runG ((g2+g3)) 20
    · intro M hM
      simp (disch := first | decide +kernel | omega) only [c31b1, c31, Try.f31, Option.getD_some, sub_seq1, sub_seq0, sub_block, sub_loop, sub_nil, exec_seq, exec_region, runOps_cons, opF_move, ev_tmp, T.get_set, Nat.reduceEqDiff, g6, if_false, evG_some, putT_some, opF_nilCheck, if_true, opF_load, opF_call, evs, R.ok_bind, resK, g0, opF_ari, runOps_nil, nil_ptr, l2, hg2, binF_int, op_gtr, hn, decide_true, exec_cond, exec_skip, opF_makeIface, e98, hg3]
      with_reducible rfl
    refine hK _ C3 (by rw [hst]; exact hp3) (kk.trans k3) ?_
    simp only [Sl_cons, Sl_nil, T.get_set, T.puts_cons, T.puts_nil, Nat.reduceEqDiff, Nat.reduceAdd, if_true, if_false, and_true, true_and, g0, g6, g13, g14, g15]
  · have hst : stepT n m h = pushL m h := by unfold stepT; rw [hpl, if_neg hn]
    have hd : decide (n < ((m.length + 1 : Nat) : Int)) = false := decide_eq_false hn
    apply W.runG (g2) 20
    · intro M hM
      simp (disch := first | decide +kernel | omega) only [c31b1, c31, Try.f31, Option.getD_some, sub_seq1, sub_seq0, sub_block, sub_loop, sub_nil, exec_seq, exec_region, runOps_cons, opF_move, ev_tmp, T.get_set, Nat.reduceEqDiff, g6, if_false, evG_some, putT_some, opF_nilCheck, if_true, opF_load, opF_call, evs, R.ok_bind, resK, g0, opF_ari, runOps_nil, nil_ptr, l2, hg2, binF_int, op_gtr, hn, decide_false, exec_cond, exec_skip]
      with_reducible rfl
    refine hK _ C2 (by rw [hst]; exact ⟨b2, c2, hm2⟩) kk ?_
    simp only [Sl_cons, Sl_nil, T.get_set, T.puts_cons, T.puts_nil, Nat.reduceEqDiff, Nat.reduceAdd, if_true, if_false, and_true, true_and, g0, g6, g13, g14, g15]
end Go.Proofs.Ytnelkapmmgggdaa.mdl

/-
  Model: rank.Top, whole.
-/
namespace Go.Proofs.Ytnelkapmmgggdaa.mdl
open Go.Am Go.Mdl
open Go.Proofs.Ytnelkapmmgggdaa.rnk (HitD hitC ordD lessB sortH ordK lessK hitC_len sortH_len)
set_option linter.unusedSimpArgs false
set_option linter.unusedVariables false
set_option linter.unusedVariables false

theorem run_top {A : Mem} {bx : Nat} {n : Int} {l : List HitD} {x : Value} (h : HitS A bx l x) (hn : 0 ≤ n) (hl : l.length < 60000) :
    ∃ y A', Ans tb4 31 [.int .i64 n, x] A (.tuple ⟨[y, .int .i64 ((0 : Nat) : Int)]⟩) A' ∧ HitE A' (topL n l) y ∧ Kp A A' := by
  obtain ⟨v, A', hg, y, rfl, h1, h2⟩ : ∃ v A', Ans tb4 31 [.int .i64 n, x] A v A' ∧ ∃ y, v = .tuple ⟨[y, .int .i64 ((0 : Nat) : Int)]⟩ ∧ HitE A' (topL n l) y ∧ Kp A A' := by
    refine ans_of_W (fn_at Try.func31) c31_eq (by rw [Try.ntmps31]; simp) (by kernel_rfl) (by kernel_rfl) ?_
    have hn' : ¬ n < ((0 : Nat) : Int) := by omega
    have k0 : Kp A ((A.alloc (rowOb 63 [])).alloc (rowOb 99 [.slice (some ⟨A.next, 0, none⟩) 0 0])) := (Kp.alloc _ _).trans (Kp.alloc _ _)
    have hp0 : HpS ((A.alloc (rowOb 63 [])).alloc (rowOb 99 [.slice (some ⟨A.next, 0, none⟩) 0 0])) A.next (A.next + 1) [] A.next 0 := by
      refine ⟨by omega, by rw [next_alloc, next_alloc]; omega, Nat.le_refl _, by rw [next_alloc, next_alloc]; omega, by omega, vals_puts (get_alloc_self _ _), .inl ⟨rfl, rfl, .var 0, T.puts .e 0 [], ?_⟩⟩
      rw [get_alloc_ne (by rw [next_alloc]; omega), get_alloc_self]
      rfl
    have n0 : ((A.alloc (rowOb 63 [])).alloc (rowOb 99 [.slice (some ⟨A.next, 0, none⟩) 0 0])).next = A.next + 2 := rfl
    apply W.seq
    apply W.run 20
    · intro M
      simp (disch := first | decide +kernel | omega) only [c31, Try.f31, Option.getD_some, sub_seq0, sub_nil, T.puts_cons, Nat.reduceAdd, T.puts_nil, exec_region, runOps_cons, opF_assign, ev_nilslice, putT_some, ev_int, runOps_nil, R.ok_bind]
      with_reducible rfl
    apply W.seq
    apply W.seq
    apply W.run 20
    · intro M
      simp (disch := first | decide +kernel | omega) only [c31, Try.f31, Option.getD_some, sub_seq1, sub_seq0, sub_nil, exec_region, runOps_cons, opF_move, ev_tmp, T.get_set, Nat.reduceEqDiff, T.get_e, if_true, if_false, evG_some, putT_some, opF_ari, ev_int, runOps_nil, R.ok_bind, binF_int, op_lssI, hn', decide_false]
      with_reducible rfl
    apply W.run 20
    · intro M
      simp (disch := first | decide +kernel | omega) only [c31, Try.f31, Option.getD_some, sub_seq1, sub_seq0, sub_nil, exec_cond, ev_tmp, T.get_set, Nat.reduceEqDiff, T.get_e, if_false, if_true, evG_some, exec_seq, exec_region, runOps_cons, opF_assign, ev_nilslice, putT_some, ev_int, runOps_nil, R.ok_bind, exec_ret, exec_skip]
      with_reducible rfl
    apply W.seq
    apply W.run 20
    · intro M
      simp (disch := first | decide +kernel | omega) only [c31, Try.f31, Option.getD_some, sub_seq1, sub_seq0, sub_nil, exec_region, runOps_cons, opF_buildSlice, evp, putT_some, opF_box, ev_tmp, T.get_set, Nat.reduceEqDiff, T.get_e, if_false, if_true, evG_some, next_alloc, at_ptr, opF_assign, runOps_nil, R.ok_bind, bs99z, at_slc, cells_slc]
      with_reducible rfl
    show W tb4 _ _ _
    generalize (A.alloc (rowOb 63 [])).alloc (rowOb 99 [.slice (some ⟨A.next, 0, none⟩) 0 0]) = B at k0 hp0 n0
    have hlen := (h.kp k0).lens
    apply W.seq
    apply W.seq
    apply W.run 20
    · intro M
      simp (disch := first | decide +kernel | omega) only [c31, Try.f31, Option.getD_some, sub_seq1, sub_seq0, sub_nil, exec_region, runOps_cons, opF_move, ev_tmp, T.get_set, Nat.reduceEqDiff, T.get_e, if_false, if_true, evG_some, putT_some, opF_len, evs, R.ok_bind, ev_int, runOps_nil, hlen]
      with_reducible rfl
    apply W.block
    refine W.up l.length (fun i t C => ∃ m, Hp C A.next (A.next + 1) m ∧ m = (l.take i).foldl (stepT n) [] ∧ m.length ≤ i ∧ KL A.next A C ∧ Sl t [(0, .int .i64 n), (6, .pointer (some ⟨A.next + 1, 0, none⟩)), (13, x), (14, .int .i64 (l.length : Int)), (15, .int .i64 (i : Int))]) ?_ (Nat.zero_le _) ⟨[], ⟨_, _, hp0⟩, rfl, Nat.le_refl _, k0.kl (Nat.le_refl _), ?_⟩
    · rintro i t C hi ⟨m, hm, hmeq, hml, hK, g0, g6, g13, g14, g15, -⟩
      have hxC : HitS C bx l x := h.kp hK
      rw [c31b1_eq]
      apply W.seq
      by_cases hlt : i < l.length
      · have he : l[i]? = some l[i] := List.getElem?_eq_getElem hlt
        apply W.run 20
        · intro M
          simp (disch := first | decide +kernel | omega) only [c31b1, c31, Try.f31, Option.getD_some, sub_seq1, sub_seq0, sub_block, sub_loop, sub_nil, exec_region, runOps_cons, opF_ari, ev_tmp, g15, evG_some, g14, putT_some, runOps_nil, R.ok_bind, binF_int, op_lssI, cast_lt, hlt, decide_true]
          with_reducible rfl
        apply W.seq
        apply W.run 20
        · intro M
          simp (disch := first | decide +kernel | omega) only [c31b1, c31, Try.f31, Option.getD_some, sub_seq1, sub_seq0, sub_block, sub_loop, sub_nil, exec_cond, ev_tmp, T.get_set, if_true, evG_some, exec_skip, exec_exit, R.ok_bind]
          with_reducible rfl
        apply W.seq
        apply W.block
        refine top_round (len := l.length) (n := n) (m := m) hxC hm hK.1 he (by omega) (by simp only [Sl_cons, Sl_nil, T.get_set, T.puts_cons, T.puts_nil, Nat.reduceEqDiff, Nat.reduceAdd, if_true, if_false, and_true, true_and, g0, g6, g13, g14, g15]) fun t2 C2 hp2 k2 ht2 => ?_
        obtain ⟨f0, f6, f13, f14, f15, -⟩ := ht2
        apply W.run 20
        · intro M
          simp (disch := first | decide +kernel | omega) only [c31b1, c31, Try.f31, Option.getD_some, sub_seq1, sub_seq0, sub_block, sub_loop, sub_nil, exec_region, runOps_cons, opF_ari, ev_tmp, f15, evG_some, ev_int, putT_some, opF_move, T.get_set, if_true, runOps_nil, R.ok_bind, binF_int, op_add_i64]
          with_reducible rfl
        refine ⟨hlt, _, _, rfl, stepT n m l[i], hp2, ?_, ?_, hK.trans k2, ?_⟩
        · rw [List.take_succ_eq_append_getElem hlt, List.foldl_append, hmeq]; rfl
        · have := stepT_len (n := n) (w := m) (x := l[i]); omega
        · simp only [Sl_cons, Sl_nil, T.get_set, T.puts_cons, T.puts_nil, Nat.reduceEqDiff, Nat.reduceAdd, if_true, if_false, and_true, true_and, f0, f6, f13, f14]
      · have hin : i = l.length := by omega
        subst hin
        rw [List.take_length] at hmeq
        apply W.run 20
        · intro M
          simp (disch := first | decide +kernel | omega) only [c31b1, c31, Try.f31, Option.getD_some, sub_seq1, sub_seq0, sub_block, sub_loop, sub_nil, exec_region, runOps_cons, opF_ari, ev_tmp, g15, evG_some, g14, putT_some, runOps_nil, R.ok_bind, binF_int, op_lssI, cast_lt, hlt, decide_false]
          with_reducible rfl
        apply W.seq
        apply W.run 20
        · intro M
          simp (disch := first | decide +kernel | omega) only [c31b1, c31, Try.f31, Option.getD_some, sub_seq1, sub_seq0, sub_block, sub_loop, sub_nil, exec_cond, ev_tmp, T.get_set, if_true, evG_some, exec_skip, exec_exit, R.ok_bind]
          with_reducible rfl
        show W tb4 _ _ _
        obtain ⟨b, c, hm⟩ := hm
        have l0 := hm.load
        obtain ⟨y, D, ⟨gs, hgs⟩, hy, kD⟩ := run_sort hm.r (by omega)
        apply W.seq
        apply W.runG (gs) 20
        · intro M hM
          simp (disch := first | decide +kernel | omega) only [c31, Try.f31, Option.getD_some, sub_seq1, sub_seq0, sub_nil, exec_region, runOps_cons, opF_move, ev_tmp, T.get_set, Nat.reduceEqDiff, g6, if_false, evG_some, putT_some, opF_nilCheck, if_true, opF_load, opF_call, evs, R.ok_bind, resK, opF_assign, ev_int, runOps_nil, nil_ptr, l0, hgs]
          with_reducible rfl
        apply W.run 20
        · intro M
          simp (disch := first | decide +kernel | omega) only [c31, Try.f31, Option.getD_some, sub_seq1, sub_nil, exec_ret]
          with_reducible rfl
        refine ⟨.inr rfl, D, [y, .int .i64 ((0 : Nat) : Int)], rfl, ?_, y, rfl, ?_, ?_⟩
        · simp only [Try.f31, resF, ev_tmp, T.get_set, Nat.reduceEqDiff, if_true, if_false, evG_some, R.ok_bind]
        · unfold topL
          rw [← hmeq]
          exact hy
        · have h3 := hK.trans (kD.kl hK.1)
          exact ⟨h3.1, h3.2⟩
    · simp only [Sl_cons, Sl_nil, T.get_set, T.puts_cons, T.puts_nil, Nat.reduceEqDiff, Nat.reduceAdd, if_true, if_false, and_true, true_and]
  exact ⟨y, A', hg, h1, h2⟩
end Go.Proofs.Ytnelkapmmgggdaa.mdl

/-
  Model: the words that are near, called with any loop that goes on.
-/
namespace Go.Proofs.Ytnelkapmmgggdaa.mdl
open Go.Am Go.Mdl
open Go.Proofs.Ytnelkapmmgggdaa.rnk (HitD hitC ordD lessB sortH ordK lessK hitC_len sortH_len)
open Go.Proofs.Ytnelkapmmgggdaa.wth (withinD run_within)
set_option linter.unusedSimpArgs false
set_option linter.unusedVariables false
set_option linter.unusedVariables false

def nearH (w : List UInt8) (k : Int) (e : EntD) : Option HitD := if (Go.Dist.dist w e.word : Int) ≤ k then some ⟨e, Go.Dist.dist w e.word⟩ else none
def nearL (w : List UInt8) (k : Int) (l : List EntD) : List HitD := l.filterMap (nearH w k)
theorem nearL_len (w : List UInt8) (k : Int) (l : List EntD) : (nearL w k l).length ≤ l.length := List.length_filterMap_le _ _
theorem nearL_at {w : List UInt8} {k : Int} {l : List EntD} {i : Nat} {e : EntD} {h : HitD} (he : l[i]? = some e) (hh : nearH w k e = some h) : (nearL w k l)[(nearL w k (l.take i)).length]? = some h := by
  obtain ⟨hi, rfl⟩ := List.getElem?_eq_some_iff.1 he
  have e1 : l = l.take i ++ l[i] :: l.drop (i + 1) := by rw [← List.drop_eq_getElem_cons hi, List.take_append_drop]
  have e2 : nearL w k l = nearL w k (l.take i) ++ h :: nearL w k (l.drop (i + 1)) := by
    conv => lhs; rw [e1]
    unfold nearL
    rw [List.filterMap_append, List.filterMap_cons, hh]
  rw [e2, List.getElem?_append_right (Nat.le_refl _), Nat.sub_self]; rfl
theorem nearL_succ {w : List UInt8} {k : Int} {l : List EntD} {i : Nat} {e : EntD} (he : l[i]? = some e) : nearL w k (l.take (i + 1)) = nearL w k (l.take i) ++ (nearH w k e).toList := by
  obtain ⟨hi, rfl⟩ := List.getElem?_eq_some_iff.1 he
  rw [List.take_succ_eq_append_getElem hi]
  unfold nearL
  rw [List.filterMap_append, List.filterMap_cons]
  cases nearH w k l[i] <;> rfl
structure Cons (S : Nat → Prop) (N0 lp : Nat) (Inv : Nat → Nat → Mem → Prop) (rs : List HitD) : Prop where
  lt : ∀ i b C, Inv i b C → b < C.next
  ext : ∀ i b C C', Inv i b C → C.next ≤ C'.next → (∀ y, y < N0 ∨ y = b → C'.get y = C.get y) → Inv i b C'
  step : ∀ i r b C, rs[i]? = some r → Inv i b C → ∃ b' C', (∃ g, ∀ M, g ≤ M → callF tb4 (exec tb4 M) (.round lp [.agg ⟨hitC r⟩]) C = .ok (.val (.bool true) C')) ∧ Inv (i + 1) b' C' ∧ C.next ≤ C'.next ∧ (b' = b ∨ C.next ≤ b') ∧ ∀ y, y < C.next → ¬ S y → y ≠ b → C'.get y = C.get y
theorem bld63 {e : EntD} {n : Nat} : buildF tb4 63 [(0, .agg ⟨entC e⟩), (1, .int .i64 (n : Int))] = .ok (.agg ⟨hitC ⟨e, n⟩⟩) := by kernel_rfl
noncomputable def c46 : Code := Try.f46.body.getD .skip
noncomputable def c46b1 : Code := sub c46 [1,0,0]
theorem c46_eq : Try.f46.body = some (.seq (sub c46 [0]) (.block 0 (.loop c46b1))) := by kernel_rfl
theorem c46b1_eq : c46b1 = .seq (sub c46b1 [0]) (.seq (sub c46b1 [1,0]) (.seq (.block 1 (.seq (sub c46b1 [1,1,0,0,0]) (.seq (sub c46b1 [1,1,0,0,1,0]) (.seq (sub c46b1 [1,1,0,0,1,1,0]) (sub c46b1 [1,1,0,0,1,1,1]))))) (sub c46b1 [1,1,1]))) := by kernel_rfl
theorem EntS.or_nil {A : Mem} {b : Nat} {l : List EntD} {x : Value} (h : EntS A b l x) : ∃ b', EntS A b' l x ∧ (b' < A.next ∨ b' = 0) := by
  rcases h with h | ⟨k, c, h1, h2, h3⟩
  · exact ⟨0, .inl h, .inr rfl⟩
  · exact ⟨b, .inr ⟨k, c, h1, h2, h3⟩, .inl h2⟩
theorem run_near1 {S : Nat → Prop} {N0 lp be p b0 : Nat} {l : List EntD} {x : Value} {w : List UInt8} {k : Int} {Inv : Nat → Nat → Mem → Prop} {C0 : Mem} (hw : w.length ≤ 900000) (hl : ∀ e ∈ l, e.word.length ≤ 900000) (hll : l.length < 1000000) (hN : N0 ≤ C0.next) (hc : Cons S N0 lp Inv (nearL w k l)) (hI : Inv 0 b0 C0)
    (hx : EntS C0 be l x) (hd : Vals C0 32 p (.var 1) [x]) (hq : Vals C0 9 (p + 1) (.var 1) [strOf w]) (hk : Vals C0 3 (p + 2) (.var 1) [.int .i64 k]) (hbe : be < C0.next → ¬ S be ∧ be ≠ b0) (hp : p + 2 < C0.next) (hpS : ∀ y, p ≤ y → y ≤ p + 2 → ¬ S y ∧ y ≠ b0) (hS : ∀ y, S y → y < C0.next) :
    ∃ v C', Ans tb4 46 [.func (.yield lp) ⟨[]⟩ ⟨[]⟩, .pointer (some ⟨p, 0, none⟩), .pointer (some ⟨p + 1, 0, none⟩), .pointer (some ⟨p + 2, 0, none⟩)] C0 v C' ∧ ∃ b', Inv (nearL w k l).length b' C' ∧ C0.next ≤ C'.next ∧ (b' = b0 ∨ C0.next ≤ b') ∧ ∀ y, y < C0.next → ¬ S y → y ≠ b0 → C'.get y = C0.get y := by
  refine ans_of_W (fn_at Try.func46) c46_eq (by rw [Try.ntmps46]; simp) (by kernel_rfl) (by kernel_rfl) ?_
  have ld : loadF tb4 C0.get 32 (.pointer (some ⟨p, 0, none⟩)) = .ok x := load_vals und32' rfl hd rfl
  have hlen := EntS.lens hx
  apply W.seq
  apply W.run 20
  · intro M
    simp (disch := first | decide +kernel | omega) only [c46, Try.f46, Option.getD_some, sub_seq0, sub_nil, T.puts_cons, Nat.reduceAdd, T.puts_nil, exec_region, runOps_cons, opF_load, ev_tmp, T.get_set, Nat.reduceEqDiff, T.get_e, if_false, if_true, evG_some, putT_some, opF_len, evs, R.ok_bind, opF_move, ev_int, runOps_nil, ld, hlen]
    with_reducible rfl
  apply W.block
  refine W.up l.length (fun i t C => ∃ b, Inv (nearL w k (l.take i)).length b C ∧ C0.next ≤ C.next ∧ (b = b0 ∨ C0.next ≤ b) ∧ (∀ y, y < C0.next → ¬ S y → y ≠ b0 → C.get y = C0.get y) ∧ Sl t [(0, .func (.yield lp) ⟨[]⟩ ⟨[]⟩), (1, .pointer (some ⟨p, 0, none⟩)), (2, .pointer (some ⟨p + 1, 0, none⟩)), (3, .pointer (some ⟨p + 2, 0, none⟩)), (9, x), (10, .int .i64 (l.length : Int)), (11, .int .i64 (i : Int))]) ?_ (Nat.zero_le _) ⟨b0, hI, Nat.le_refl _, .inl rfl, fun _ _ _ _ => rfl, ?_⟩
  · rintro i t C hi ⟨b, hInv, hn, hbb, hold, g0, g1, g2, g3, g9, g10, g11, -⟩
    have hbC := hc.lt _ b C hInv
    rw [c46b1_eq]
    apply W.seq
    by_cases hlt : i < l.length
    · have he : l[i]? = some l[i] := List.getElem?_eq_getElem hlt
      have hxC : EntS C be l x := SlcM.same hx hn (fun h => hold be h (hbe h).1 (hbe h).2)
      obtain ⟨i1, i2⟩ := EntS.at hxC he
      obtain ⟨d45, hd1, hd2⟩ := und45'
      have hz : Vals (C.alloc (rowOb 45 [.string .empty, .int .u32 0, .bool false])) 45 C.next (.var 3) [.string .empty, .int .u32 0, .bool false] := vals_puts (get_alloc_self _ _)
      obtain ⟨D, s1, v1, n1, k1⟩ := store_all (tb := tb4) (t := 45) (l := [.string .empty, .int .u32 0, .bool false]) (l' := entC l[i]) size45' hz rfl (by simp) (entC_one _)
      rw [next_alloc] at n1
      have kD : Kp C D := ⟨by omega, fun z hz => by rw [k1 z (by omega), get_alloc_ne (by omega)]⟩
      have lw : loadF tb4 D.get 9 (.pointer (some ⟨C.next, 0, none⟩)) = .ok (strOf (l[i]).word) := load_vals und9' rfl v1 rfl
      have hqD : Vals D 9 (p + 1) (.var 1) [strOf w] := hq.same (by rw [kD.2 _ (by omega), hold _ (by omega) (hpS _ (by omega) (by omega)).1 (hpS _ (by omega) (by omega)).2])
      have hkD : Vals D 3 (p + 2) (.var 1) [.int .i64 k] := hk.same (by rw [kD.2 _ (by omega), hold _ (by omega) (hpS _ (by omega) (by omega)).1 (hpS _ (by omega) (by omega)).2])
      have lq : loadF tb4 D.get 9 (.pointer (some ⟨p + 1, 0, none⟩)) = .ok (strOf w) := load_vals und9' rfl hqD rfl
      have lk : loadF tb4 D.get 3 (.pointer (some ⟨p + 2, 0, none⟩)) = .ok (.int .i64 k) := load_vals und3' rfl hkD rfl
      obtain ⟨E, ⟨g, hg⟩, hE⟩ := run_within w (l[i]).word k hw (hl _ (List.getElem_mem hlt)) D
      have hE1 := hE.1
      have kE : Kp C E := ⟨by omega, fun z hz => by rw [hE.2 z (by omega), kD.2 z hz]⟩
      have vE : Vals E 45 C.next (.var 3) (entC l[i]) := v1.same (hE.2 _ (by omega))
      have lE := load_all (tb := tb4) hd1 hd2 (l := entC l[i]) size45' vE
      have hInvE := hc.ext _ b C E hInv kE.1 (fun y hy => kE.2 y (by rcases hy with h | h <;> omega))
      apply W.run 20
      · intro M
        simp (disch := first | decide +kernel | omega) only [c46b1, c46, Try.f46, Option.getD_some, sub_seq1, sub_block, sub_loop, sub_nil, sub_seq0, exec_region, runOps_cons, opF_ari, ev_tmp, g11, evG_some, g10, putT_some, runOps_nil, R.ok_bind, binF_int, op_lssI, cast_lt, hlt, decide_true]
        with_reducible rfl
      apply W.seq
      apply W.run 20
      · intro M
        simp (disch := first | decide +kernel | omega) only [c46b1, c46, Try.f46, Option.getD_some, sub_seq1, sub_block, sub_loop, sub_nil, sub_seq0, exec_cond, ev_tmp, T.get_set, if_true, evG_some, exec_skip, exec_exit, R.ok_bind]
        with_reducible rfl
      apply W.seq
      apply W.block
      apply W.seq
      apply W.run 20
      · intro M
        simp (disch := first | decide +kernel | omega) only [c46b1, c46, Try.f46, Option.getD_some, sub_seq1, sub_block, sub_loop, sub_nil, sub_seq0, exec_region, runOps_cons, opF_indexAddr, ev_tmp, T.get_set, Nat.reduceEqDiff, g9, if_false, evG_some, g11, putT_some, opF_load, if_true, opF_alloc, z45, at_ptr, opF_store, putT_none, runOps_nil, R.ok_bind, cells_agg, i1, i2, s1]
        with_reducible rfl
      apply W.seq
      by_cases hk : (Go.Dist.dist w (l[i]).word : Int) ≤ k
      · have hN1 : nearH w k l[i] = some ⟨l[i], Go.Dist.dist w (l[i]).word⟩ := by unfold nearH; rw [if_pos hk]
        have hwd : withinD w (l[i]).word k = .tuple ⟨[.int .i64 (Go.Dist.dist w (l[i]).word : Nat), .bool true]⟩ := by unfold withinD; rw [if_pos hk]
        rw [hwd] at hg
        obtain ⟨b', G, ⟨gy, hgy⟩, hInvG, hnG, hbG, hfG⟩ := hc.step _ _ b E (nearL_at he hN1) hInvE
        have hb63 := bld63 (e := l[i]) (n := Go.Dist.dist w (l[i]).word)
        apply W.runG (g) 20
        · intro M hM
          simp (disch := first | decide +kernel | omega) only [c46b1, c46, Try.f46, Option.getD_some, sub_seq1, sub_block, sub_loop, sub_nil, sub_seq0, exec_region, runOps_cons, opF_load, ev_tmp, T.get_set, Nat.reduceEqDiff, g2, if_false, evG_some, putT_some, opF_fieldAddr, if_true, g3, opF_call, evs, R.ok_bind, resK, opF_move, opF_extract, extractF, opF_assign, runOps_nil, lk, fb0, lw, lq, hg, List.getElem?_cons_zero, List.getElem?_cons_succ]
          with_reducible rfl
        apply W.seq
        apply W.runG (gy) 20
        · intro M hM
          simp (disch := first | decide +kernel | (rw [wantF_guard]; simp only [wantD_some, dstAt_zero, dstAt_succ, T.get_set, T.get_e, Nat.reduceEqDiff, if_true, if_false, wantV_bool, wantV_unit, unitV, cond_true, cond_false, Bool.not_true, Bool.not_false, List.toList_toArray]) | omega) only [c46b1, c46, Try.f46, Option.getD_some, sub_seq1, sub_block, sub_loop, sub_nil, sub_seq0, exec_region, runOps_cons, opF_move, ev_tmp, T.get_set, Nat.reduceEqDiff, if_false, if_true, evG_some, putT_some, R.ok_bind, runOps_yes, g0, opF_load, opF_build, evp, opF_callv, evs, resK, opF_un, opF_pick, pickF, ev_bool, runOps_nil, lE, hb63, callV_yield, hgy, un_not, Bool.not_true]
          with_reducible rfl
        apply W.run 20
        · intro M
          simp (disch := first | decide +kernel | omega) only [c46b1, c46, Try.f46, Option.getD_some, sub_seq1, sub_block, sub_loop, sub_nil, sub_seq0, exec_cond, ev_tmp, T.get_set, Nat.reduceEqDiff, if_false, if_true, evG_some, exec_ret, exec_skip, R.ok_bind]
          with_reducible rfl
        apply W.run 20
        · intro M
          simp (disch := first | decide +kernel | omega) only [c46b1, c46, Try.f46, Option.getD_some, sub_seq1, sub_block, sub_loop, sub_nil, exec_region, runOps_cons, opF_ari, ev_tmp, T.get_set, Nat.reduceEqDiff, g11, if_false, evG_some, ev_int, putT_some, opF_move, if_true, runOps_nil, R.ok_bind, binF_int, op_add_i64]
          with_reducible rfl
        refine ⟨hlt, _, _, rfl, b', ?_, by omega, ?_, ?_, ?_⟩
        · rw [nearL_succ he, hN1, List.length_append]; exact hInvG
        · rcases hbG with rfl | h
          · exact hbb
          · exact .inr (by have := kE.1; omega)
        · intro y hy h1 h2
          rw [hfG y (by have := kE.1; omega) h1 (by omega), kE.2 y (by omega), hold y hy h1 h2]
        · simp only [Sl_cons, Sl_nil, T.get_set, T.puts_cons, T.puts_nil, Nat.reduceEqDiff, Nat.reduceAdd, if_true, if_false, and_true, true_and, g0, g1, g2, g3, g9, g10]
      · have hN1 : nearH w k l[i] = none := by unfold nearH; rw [if_neg hk]
        have hwd : withinD w (l[i]).word k = .tuple ⟨[.int .i64 ((0 : Nat) : Int), .bool false]⟩ := by unfold withinD; rw [if_neg hk]
        rw [hwd] at hg
        apply W.runG (g) 20
        · intro M hM
          simp (disch := first | decide +kernel | omega) only [c46b1, c46, Try.f46, Option.getD_some, sub_seq1, sub_block, sub_loop, sub_nil, sub_seq0, exec_region, runOps_cons, opF_load, ev_tmp, T.get_set, Nat.reduceEqDiff, g2, if_false, evG_some, putT_some, opF_fieldAddr, if_true, g3, opF_call, evs, R.ok_bind, resK, opF_move, opF_extract, extractF, opF_assign, runOps_nil, lk, fb0, lw, lq, hg, List.getElem?_cons_zero, List.getElem?_cons_succ]
          with_reducible rfl
        apply W.seq
        apply W.run 20
        · intro M
          simp (disch := first | decide +kernel | (rw [wantF_guard]; simp only [wantD_some, dstAt_zero, dstAt_succ, T.get_set, T.get_e, Nat.reduceEqDiff, if_true, if_false, wantV_bool, wantV_unit, unitV, cond_true, cond_false, Bool.not_true, Bool.not_false, List.toList_toArray]) | omega) only [c46b1, c46, Try.f46, Option.getD_some, sub_seq1, sub_block, sub_loop, sub_nil, sub_seq0, exec_region, runOps_cons, opF_move, ev_tmp, T.get_set, Nat.reduceEqDiff, if_false, if_true, evG_some, putT_some, R.ok_bind, runOps_no, opF_pick, pickF, ev_bool, runOps_nil]
          with_reducible rfl
        apply W.run 20
        · intro M
          simp (disch := first | decide +kernel | omega) only [c46b1, c46, Try.f46, Option.getD_some, sub_seq1, sub_block, sub_loop, sub_nil, sub_seq0, exec_cond, ev_tmp, T.get_set, Nat.reduceEqDiff, if_false, if_true, evG_some, exec_ret, exec_skip, R.ok_bind]
          with_reducible rfl
        apply W.run 20
        · intro M
          simp (disch := first | decide +kernel | omega) only [c46b1, c46, Try.f46, Option.getD_some, sub_seq1, sub_block, sub_loop, sub_nil, exec_region, runOps_cons, opF_ari, ev_tmp, T.get_set, Nat.reduceEqDiff, g11, if_false, evG_some, ev_int, putT_some, opF_move, if_true, runOps_nil, R.ok_bind, binF_int, op_add_i64]
          with_reducible rfl
        refine ⟨hlt, _, _, rfl, b, ?_, by omega, hbb, ?_, ?_⟩
        · rw [nearL_succ he, hN1]; simpa using hInvE
        · intro y hy h1 h2
          rw [kE.2 y (by omega), hold y hy h1 h2]
        · simp only [Sl_cons, Sl_nil, T.get_set, T.puts_cons, T.puts_nil, Nat.reduceEqDiff, Nat.reduceAdd, if_true, if_false, and_true, true_and, g0, g1, g2, g3, g9, g10]
    · have hin : i = l.length := by omega
      subst hin
      rw [List.take_length] at hInv
      apply W.run 20
      · intro M
        simp (disch := first | decide +kernel | omega) only [c46b1, c46, Try.f46, Option.getD_some, sub_seq1, sub_block, sub_loop, sub_nil, sub_seq0, exec_region, runOps_cons, opF_ari, ev_tmp, g11, evG_some, g10, putT_some, runOps_nil, R.ok_bind, binF_int, op_lssI, cast_lt, hlt, decide_false]
        with_reducible rfl
      apply W.seq
      apply W.run 20
      · intro M
        simp (disch := first | decide +kernel | omega) only [c46b1, c46, Try.f46, Option.getD_some, sub_seq1, sub_block, sub_loop, sub_nil, sub_seq0, exec_cond, ev_tmp, T.get_set, if_true, evG_some, exec_skip, exec_exit, R.ok_bind]
        with_reducible rfl
      exact ⟨.inl rfl, _, [], rfl, rfl, b, hInv, hn, hbb, hold⟩
  · simp only [Sl_cons, Sl_nil, T.get_set, T.puts_cons, T.puts_nil, Nat.reduceEqDiff, Nat.reduceAdd, if_true, if_false, and_true, true_and]
noncomputable def c30 : Code := Try.f30.body.getD .skip
theorem c30_eq : Try.f30.body = some (.seq (sub c30 [0]) (.seq (sub c30 [1,0]) (sub c30 [1,1]))) := by kernel_rfl
def nearF (p : Nat) : Value := .func (.func 46) ⟨[]⟩ ⟨[.pointer (some ⟨p, 0, none⟩), .pointer (some ⟨p + 1, 0, none⟩), .pointer (some ⟨p + 2, 0, none⟩)]⟩
theorem EntS.cells {A : Mem} {b : Nat} {l : List EntD} {x : Value} (h : EntS A b l x) : x.cells.toList = [x] ∧ oneCell x = true ∧ sameV 100 x x = true := by
  rcases h with ⟨rfl, -⟩ | ⟨k, c, rfl, -⟩
  · exact ⟨rfl, rfl, rfl⟩
  · exact ⟨rfl, rfl, sameV_slc _ _ _ _⟩
theorem run_near {A : Mem} {be : Nat} {l : List EntD} {x : Value} {w : List UInt8} {k : Int} (hx : EntS A be l x) :
    Ans tb4 30 [x, strOf w, .int .i64 k] A (nearF A.next) (((A.alloc (rowOb 32 [x])).alloc (rowOb 9 [strOf w])).alloc (rowOb 3 [.int .i64 k])) := by
  obtain ⟨v, A', hg, rfl, rfl⟩ : ∃ v A', Ans tb4 30 [x, strOf w, .int .i64 k] A v A' ∧ v = nearF A.next ∧ A' = ((A.alloc (rowOb 32 [x])).alloc (rowOb 9 [strOf w])).alloc (rowOb 3 [.int .i64 k]) := by
    refine ans_of_W (fn_at Try.func30) c30_eq (by rw [Try.ntmps30]; simp) (by kernel_rfl) (by kernel_rfl) ?_
    have hxc := hx.cells.1
    apply W.seq
    apply W.run 20
    · intro M
      simp (disch := first | decide +kernel | omega) only [c30, Try.f30, Option.getD_some, sub_seq0, sub_nil, T.puts_cons, Nat.reduceAdd, T.puts_nil, exec_region, runOps_cons, opF_box, ev_tmp, T.get_set, Nat.reduceEqDiff, T.get_e, if_true, if_false, evG_some, at_ptr, putT_some, next_alloc, opF_assign, ev_nilfunc, runOps_nil, R.ok_bind, cells_int, cells_str, hxc]
      with_reducible rfl
    apply W.seq
    apply W.run 20
    · intro M
      simp (disch := first | decide +kernel | omega) only [c30, Try.f30, Option.getD_some, sub_seq1, sub_seq0, sub_nil, exec_region, runOps_cons, opF_makeFunc, evs, ev_tmp, T.get_set, Nat.reduceEqDiff, T.get_e, if_false, if_true, evG_some, R.ok_bind, putT_some, opF_assign, runOps_nil]
      with_reducible rfl
    apply W.run 20
    · intro M
      simp (disch := first | decide +kernel | omega) only [c30, Try.f30, Option.getD_some, sub_seq1, sub_nil, exec_ret]
      with_reducible rfl
    refine ⟨.inr rfl, _, [nearF A.next], rfl, ?_, rfl, rfl⟩
    simp only [Try.f30, resF, ev_tmp, T.get_set, Nat.reduceEqDiff, if_true, if_false, evG_some, R.ok_bind]
    rfl
  exact hg
end Go.Proofs.Ytnelkapmmgggdaa.mdl

/-
  Model: the loop over the hits.
-/
namespace Go.Proofs.Ytnelkapmmgggdaa.mdl
open Go.Am Go.Mdl
open Go.Proofs.Ytnelkapmmgggdaa.rnk (HitD hitC ordD lessB sortH ordK lessK hitC_len sortH_len)
set_option linter.unusedSimpArgs false
set_option linter.unusedVariables false
set_option linter.unusedVariables false

theorem z51 : zeroF tb4 51 = .ok (.slice none 0 0) := by kernel_rfl
theorem bs51 {h : HitD} : buildSliceF tb4 51 1 [(0, .agg ⟨hitC h⟩)] = .ok (rowOb 63 (hitC h), .slc 1 2) := by kernel_rfl
theorem size51 : sizeF tb4 51 = .ok 1 := by kernel_rfl
theorem HitS.cells {A : Mem} {b : Nat} {l : List HitD} {x : Value} (h : HitS A b l x) : x.cells.toList = [x] ∧ oneCell x = true ∧ sameV 100 x x = true := by
  rcases h with ⟨rfl, -⟩ | ⟨k, c, rfl, -⟩
  · exact ⟨rfl, rfl, rfl⟩
  · exact ⟨rfl, rfl, sameV_slc _ _ _ _⟩
noncomputable def c18 : Code := Try.f18.body.getD .skip
noncomputable def c18s : Code := sub c18 [1,0,1,0,1,1,1,0]
theorem c18r_eq : sub c18s [1,1,0,1] = .block 2 (.rangeFunc (.tmp 62) #[63] (sub c18s [1,1,0,1,0,0]) (sub c18s [1,1,0,1,0,1])) := by kernel_rfl
theorem c18b_eq : sub c18s [1,1,0,1,0,1] = .block 3 (sub c18s [1,1,0,1,0,1,0]) := by kernel_rfl
noncomputable def hitsLp (t0 : T Value) (d : Nat) : ALoop := loop0 t0 78 [63] (sub c18s [1,1,0,1,0,0]) (sub c18s [1,1,0,1,0,1]) d
structure HitsI (B0 : Mem) (xb : Nat) (t0 : T Value) (rs : List HitD) (i b : Nat) (C : Mem) : Prop where
  hd : C.get B0.next = some .defd
  hl : C.get (B0.next + 1) = some (.loop (hitsLp t0 B0.next))
  hn : B0.next + 2 ≤ C.next
  n1 : b = xb ∨ B0.next + 2 ≤ b
  lt : b < C.next
  hx : ∃ x, HitS C b (rs.take i) x ∧ Vals C 51 xb (.var 1) [x] ∧ (b = xb → x = .slice none 0 0)
theorem cons_hits {xb : Nat} {B0 : Mem} {t0 : T Value} {rs : List HitD} (hl : rs.length ≤ 1000000) (hxb : xb < B0.next) (h7 : t0.get 7 = some (.pointer (some ⟨xb, 0, none⟩))) :
    Cons (fun y => y = xb) (B0.next + 2) (B0.next + 1) (HitsI B0 xb t0 rs) rs where
  lt i b C h := h.lt
  ext i b C C' h hn hg := by
    have hnn := h.hn
    obtain ⟨x, h1, h2, h3⟩ := h.hx
    exact {
      hd := by rw [hg _ (.inl (by omega))]; exact h.hd
      hl := by rw [hg _ (.inl (by omega))]; exact h.hl
      hn := by omega
      n1 := h.n1
      lt := Nat.lt_of_lt_of_le h.lt hn
      hx := ⟨x, SlcM.same h1 hn (fun _ => hg _ (.inr rfl)), h2.same (hg _ (.inl (by omega))), h3⟩ }
  step i r b C hr h := by
    have hCn := h.hn
    have hn1 := h.n1
    have hblt := h.lt
    have hi : i < rs.length := (List.getElem?_eq_some_iff.1 hr).1
    have he : rs[i] = r := (List.getElem?_eq_some_iff.1 hr).2
    obtain ⟨x, hs, hv, hnil⟩ := h.hx
    obtain ⟨C', hcall, b', hI, hn', hb', hfr⟩ : ∃ C', (∃ g, ∀ M, g ≤ M → callF tb4 (exec tb4 M) (.round (B0.next + 1) [.agg ⟨hitC r⟩]) C = .ok (.val (.bool true) C')) ∧ ∃ b', HitsI B0 xb t0 rs (i + 1) b' C' ∧ C.next ≤ C'.next ∧ (b' = b ∨ C.next ≤ b') ∧ ∀ y, y < C.next → ¬ y = xb → y ≠ b → C'.get y = C.get y := by
      refine round_of_W h.hl (t := t0.set 63 (.agg ⟨hitC r⟩)) rfl ?_
      show W tb4 (sub c18s [1,1,0,1,0,0]) ⟨t0.set 63 (.agg ⟨hitC r⟩), 78, [], C, some (B0.next + 1)⟩ _
      obtain ⟨d63, hd1, hd2⟩ := und63'
      have hv0 : Vals (C.alloc (rowOb 63 hitZ)) 63 C.next (.var 4) hitZ := vals_puts (get_alloc_self _ _)
      obtain ⟨D, hst, hvD, hnD, hfD⟩ := store_all (tb := tb4) (t := 63) (l := hitZ) (l' := hitC r) size63' hv0 rfl (by simp [hitZ]) (hitC_one r)
      rw [next_alloc] at hnD
      have hCD : Kp C D := ⟨by omega, fun z hz => by rw [hfD z (by omega), get_alloc_ne (by omega)]⟩
      apply W.run 20
      · intro M
        simp (disch := first | decide +kernel | omega) only [c18s, c18, Try.f18, Option.getD_some, sub_seq1, sub_seq0, sub_block, sub_cond1, sub_cond0, sub_nil, sub_range0, exec_region, runOps_cons, opF_alloc, z63, at_ptr, putT_some, opF_store, ev_tmp, T.get_set, Nat.reduceEqDiff, if_false, if_true, evG_some, putT_none, runOps_nil, R.ok_bind, cells_agg, hst]
        with_reducible rfl
      refine ⟨rfl, _, by show D.get _ = _; rw [hCD.2 _ (by omega)]; exact h.hl, rfl, ?_⟩
      show W tb4 (sub c18s [1,1,0,1,0,1]) ⟨_, 78, [], D.set (B0.next + 1) (.loop { (hitsLp t0 B0.next) with state := .busy }), some (B0.next + 1)⟩ _
      have hn0 : (D.set (B0.next + 1) (.loop { (hitsLp t0 B0.next) with state := .busy })).next = D.next := next_set _ _ _
      have hg0 : ∀ y, y ≠ B0.next + 1 → (D.set (B0.next + 1) (.loop { (hitsLp t0 B0.next) with state := .busy })).get y = D.get y := fun y hy => by rw [get_setMem, if_neg hy]
      have hl0 : (D.set (B0.next + 1) (.loop { (hitsLp t0 B0.next) with state := .busy })).get (B0.next + 1) = some (.loop { (hitsLp t0 B0.next) with state := .busy }) := by rw [get_setMem, if_pos rfl]
      revert hn0 hg0 hl0
      generalize D.set (B0.next + 1) (.loop { (hitsLp t0 B0.next) with state := .busy }) = E
      intro hn0 hg0 hl0
      have hvE : Vals E 63 C.next (.var 4) (hitC r) := hvD.same (hg0 _ (by omega))
      have l0 := load_all (tb := tb4) hd1 hd2 (l := hitC r) size63' hvE
      have hvx : Vals E 51 xb (.var 1) [x] := hv.same (by rw [hg0 _ (by omega), hCD.2 _ (by omega)])
      have lx : loadF tb4 E.get 51 (.pointer (some ⟨xb, 0, none⟩)) = .ok x := load_vals und51 rfl hvx rfl
      have hsE : HitS E b (rs.take i) x := SlcM.same hs (by omega) (fun _ => by rw [hg0 _ (by omega), hCD.2 _ (by omega)])
      have hE2 := Kp.alloc E (rowOb 63 (hitC r))
      have hn2 : (E.alloc (rowOb 63 (hitC r))).next = E.next + 1 := next_alloc _ _
      obtain ⟨ti, ht1, ht2, ht3⟩ := ty63
      have hlt : ((rs.take i).map hitC).length < 16777216 := by rw [List.length_map, List.length_take]; omega
      obtain ⟨x', F, happ, hs3, hn3, hf3⟩ := SlcM.append (tb := tb4) (st := 51) (xt := 51) (SlcM.same hsE hE2.1 (fun hl => hE2.2 b hl)) und51 und51 zc63 ht1 ht2 ht3 (by omega) (by omega) hlt (get_alloc_self E _) rfl (hitC_one r)
      have hs3' : HitS F (E.alloc (rowOb 63 (hitC r))).next (rs.take (i + 1)) x' := by
        rw [List.take_succ_eq_append_getElem hi, he]
        show SlcM F 63 4 _ ((rs.take i ++ [r]).map hitC) x'
        rw [List.map_append]
        exact hs3
      have hxF : Vals F 51 xb (.var 1) [x] := hvx.same (by rw [hf3 xb (fun e => hnil e.symm) (by omega), hE2.2 _ (by omega)])
      obtain ⟨G, hst2, hvG, hnG, hfG⟩ := store_vals (tb := tb4) (t := 51) (o := 0) (v := x') size51 hxF (by simp) (HitS.cells hs3').1 (HitS.cells hs3').2.1
      have hlG : G.get (B0.next + 1) = some (.loop { (hitsLp t0 B0.next) with state := .busy }) := by
        rw [hfG _ (by omega), hf3 _ (fun e => by omega) (by omega), hE2.2 _ (by omega)]; exact hl0
      rw [c18b_eq]
      apply W.block
      apply W.run 20
      · intro M
        simp (disch := first | decide +kernel | omega) only [c18s, c18, Try.f18, Option.getD_some, sub_seq1, sub_seq0, sub_block, sub_cond1, sub_cond0, sub_nil, sub_range1, exec_region, runOps_cons, opF_load, ev_tmp, T.get_set, Nat.reduceEqDiff, h7, if_false, evG_some, putT_some, if_true, opF_buildSlice, evp, R.ok_bind, opF_builtin, evs, opF_store, putT_none, runOps_nil, builtin_append, l0, bs51, at_slc, lx, happ, hst2]
        with_reducible rfl
      have hset : ∀ y, y ≠ B0.next + 1 → (G.set (B0.next + 1) (.loop (hitsLp t0 B0.next))).get y = G.get y := fun y hy => by rw [get_setMem, if_neg hy]
      have hsn : (G.set (B0.next + 1) (.loop (hitsLp t0 B0.next))).next = G.next := next_set _ _ _
      have old : ∀ y, y < C.next → y ≠ B0.next + 1 → ¬ y = xb → y ≠ b → (G.set (B0.next + 1) (.loop (hitsLp t0 B0.next))).get y = C.get y := fun y hy hyl hys hyb => by
        rw [hset _ hyl, hfG _ hys, hf3 _ (fun e => absurd e hyb) (by omega), hE2.2 _ (by omega), hg0 y hyl, hCD.2 y hy]
      refine ⟨rfl, rfl, _, hlG, (E.alloc (rowOb 63 (hitC r))).next, ?_⟩
      show HitsI B0 xb t0 rs (i + 1) _ (G.set (B0.next + 1) (.loop (hitsLp t0 B0.next))) ∧ C.next ≤ (G.set (B0.next + 1) (.loop (hitsLp t0 B0.next))).next ∧ _ ∧ ∀ y, y < C.next → ¬ y = xb → y ≠ b → (G.set (B0.next + 1) (.loop (hitsLp t0 B0.next))).get y = C.get y
      refine ⟨{
        hd := by rw [old _ (by omega) (by omega) (by omega) (by omega)]; exact h.hd
        hl := by rw [get_setMem, if_pos rfl]
        hn := by omega
        n1 := by omega
        lt := by omega
        hx := ⟨x', SlcM.same hs3' (by omega) (fun _ => by rw [hset _ (by omega), hfG _ (by omega)]), hvG.same (hset _ (by omega)), fun e => by omega⟩ }, by omega, by omega, fun y hy hys hyb => ?_⟩
      by_cases hyl : y = B0.next + 1
      · subst hyl
        rw [get_setMem, if_pos rfl]; exact h.hl.symm
      · exact old y hy hyl hys hyb
    exact ⟨b', C', hcall, hI, hn', hb', hfr⟩
end Go.Proofs.Ytnelkapmmgggdaa.mdl

/-
  Model: an operation's variable; works.
-/
namespace Go.Proofs.Ytnelkapmmgggdaa.mdl
open Go.Am Go.Mdl
set_option linter.unusedSimpArgs false
set_option linter.unusedVariables false
set_option linter.unusedVariables false

theorem k6 {ih : Code → St → R (Ex × St)} {A : Mem} : callF tb4 ih (.fn 6 []) A = .ok (.val (.bool true) A) :=
  callF_known (c := (Try.f6.body).getD .skip) (fn_at Try.func6) (by kernel_rfl) (by kernel_rfl) (h := pureHook worksK) (by kernel_rfl) rfl
theorem W_gen {c : Code} {t : T Value} {n : Nat} {d : List Nat} {A : Mem} {ro : Option Nat} {K : Ex → St → Prop} (l : List (Nat × Value)) (h : Sl t l) (k : ∀ t', Sl t' l → W tb4 c ⟨t', n, d, A, ro⟩ K) : W tb4 c ⟨t, n, d, A, ro⟩ K := k t h
def VarO (C : Mem) (p : Nat) (o : OpV) : Prop := p < C.next ∧ Vals C 38 p (.var 5) (opC o)
theorem VarO.kp {A A' : Mem} {p : Nat} {o : OpV} (h : VarO A p o) (k : Kp A A') : VarO A' p o := ⟨Nat.lt_of_lt_of_le h.1 k.1, h.2.same (k.2 _ h.1)⟩
theorem VarO.all {C : Mem} {p : Nat} {o : OpV} (h : VarO C p o) : loadF tb4 C.get 38 (.pointer (some ⟨p, 0, none⟩)) = .ok (.agg ⟨opC o⟩) := by
  obtain ⟨d38, hf1, hf2⟩ := und38
  exact load_all hf1 hf2 size38 h.2
theorem VarO.kind {C : Mem} {p : Nat} {o : OpV} (h : VarO C p o) : loadF tb4 C.get 3 (.pointer (some ⟨p, 0, none⟩)) = .ok (.int .i64 o.kind) := load_vals und3' rfl h.2 rfl
theorem VarO.word {C : Mem} {p : Nat} {o : OpV} (h : VarO C p o) : loadF tb4 C.get 9 (.pointer (some ⟨p, 1, none⟩)) = .ok (strOf o.word) := load_vals und9' rfl h.2 rfl
theorem VarO.new (C : Mem) (o : OpV) : ∃ C', storeF tb4 (C.alloc (rowOb 38 opZ)) 38 (.pointer (some ⟨C.next, 0, none⟩)) (.agg ⟨opC o⟩) = .ok C' ∧ VarO C' C.next o ∧ C'.next = C.next + 1 ∧ Kp C C' := by
  have z2 : Vals (C.alloc (rowOb 38 opZ)) 38 C.next (.var 5) opZ := vals_puts (get_alloc_self _ _)
  obtain ⟨C1, s1, v1, n1, k1⟩ := store_all (tb := tb4) (t := 38) (l := opZ) (l' := opC o) size38 z2 rfl (by simp [opZ]) (opC_one _)
  rw [next_alloc] at n1
  exact ⟨C1, s1, ⟨by omega, v1⟩, n1, ⟨by omega, fun z hz => by rw [k1 z (by omega), get_alloc_ne (by omega)]⟩⟩
end Go.Proofs.Ytnelkapmmgggdaa.mdl

/-
  Model: Answer.
-/
namespace Go.Proofs.Ytnelkapmmgggdaa.mdl
open Go.Am Go.Mdl
open Go.Proofs.Ytnelkapmmgggdaa.rnk (HitD hitC ordD lessB sortH ordK lessK hitC_len sortH_len)
set_option linter.unusedSimpArgs false
set_option linter.unusedVariables false
set_option linter.unusedVariables false

theorem VarO.k {C : Mem} {p : Nat} {o : OpV} (h : VarO C p o) : loadF tb4 C.get 3 (.pointer (some ⟨p, 3, none⟩)) = .ok (.int .i64 o.k) := load_vals und3' rfl h.2 rfl
theorem VarO.n {C : Mem} {p : Nat} {o : OpV} (h : VarO C p o) : loadF tb4 C.get 3 (.pointer (some ⟨p, 4, none⟩)) = .ok (.int .i64 o.n) := load_vals und3' rfl h.2 rfl
theorem f38_3 {b : Nat} : fieldAddrF tb4 38 (.pointer (some ⟨b, 0, none⟩)) 3 = .ok (.pointer (some ⟨b, 3, none⟩)) := by kernel_rfl
theorem f38_4 {b : Nat} : fieldAddrF tb4 38 (.pointer (some ⟨b, 0, none⟩)) 4 = .ok (.pointer (some ⟨b, 4, none⟩)) := by kernel_rfl
theorem f53_0 {b : Nat} : fieldAddrF tb4 53 (.pointer (some ⟨b, 0, none⟩)) 0 = .ok (.pointer (some ⟨b, 0, none⟩)) := by kernel_rfl
theorem f53_1 {b : Nat} : fieldAddrF tb4 53 (.pointer (some ⟨b, 0, none⟩)) 1 = .ok (.pointer (some ⟨b, 1, none⟩)) := by kernel_rfl
theorem f53_2 {b : Nat} : fieldAddrF tb4 53 (.pointer (some ⟨b, 0, none⟩)) 2 = .ok (.pointer (some ⟨b, 2, none⟩)) := by kernel_rfl
theorem size53 : sizeF tb4 53 = .ok 3 := by kernel_rfl
theorem size40' : sizeF tb4 40 = .ok 1 := by kernel_rfl
theorem und53 : ∃ d, tb4.und 53 = some d ∧ isAggD d = true := by
  have h : (tb4.und 53).map isAggD = some true := by kernel_rfl
  cases hq : tb4.und 53 with
  | none => rw [hq] at h; cases h
  | some d => rw [hq] at h; exact ⟨d, rfl, by simpa using h⟩
structure RepD where
  err : Nat
  weight : Nat
  hits : List HitD
def repC (e w : Nat) (x : Value) : List Value := [.int .i64 (e : Int), .int .u32 (w : Int), x]
def repZ : List Value := repC 0 0 (.slice none 0 0)
theorem z53 : zeroF tb4 53 = .ok (.agg ⟨repZ⟩) := by kernel_rfl
def RepE (A : Mem) (r : RepD) (v : Value) : Prop := ∃ x, v = .agg ⟨repC r.err r.weight x⟩ ∧ HitE A r.hits x
theorem HitE.nil (A : Mem) : HitE A [] (.slice none 0 0) := ⟨0, .inl ⟨rfl, rfl⟩⟩
theorem HitE.cells {A : Mem} {l : List HitD} {x : Value} (h : HitE A l x) : x.cells.toList = [x] ∧ oneCell x = true ∧ sameV 100 x x = true := by
  obtain ⟨b, h⟩ := h
  exact h.cells
theorem repC_one {e w : Nat} {x : Value} (h : oneCell x = true) : ∀ v ∈ repC e w x, oneCell v = true := by
  intro v hv
  unfold repC at hv
  simp only [List.mem_cons, List.not_mem_nil, or_false] at hv
  rcases hv with rfl | rfl | rfl
  · rfl
  · rfl
  · exact h
theorem SlcM.put {A A' : Mem} {e : TypeId} {n b q : Nat} {ls : List (List Value)} {x : Value} (h : SlcM A e n b ls x) (hq : ∀ k c z, A.get q ≠ some (.cells e k c z)) (hn : A.next ≤ A'.next) (hg : ∀ z, z < A.next → z ≠ q → A'.get z = A.get z) : SlcM A' e n b ls x := by
  rcases h with h | ⟨k, c, h1, h2, h3, h4⟩
  · exact .inl h
  · have hne : b ≠ q := fun e' => by
      obtain ⟨z, hz, -⟩ := h3
      rw [e'] at hz
      exact hq _ _ _ hz
    exact .inr ⟨k, c, h1, Nat.lt_of_lt_of_le h2 hn, h3.same (hg b h2 hne), h4⟩
theorem HitE.put {A A' : Mem} {q : Nat} {l : List HitD} {x : Value} (h : HitE A l x) (hq : ∀ k c z, A.get q ≠ some (.cells 63 k c z)) (hn : A.next ≤ A'.next) (hg : ∀ z, z < A.next → z ≠ q → A'.get z = A.get z) : HitE A' l x := by
  obtain ⟨b, h⟩ := h
  exact ⟨b, SlcM.put h hq hn hg⟩
theorem Vals.not {A : Mem} {e e' : TypeId} {b : Nat} {k : Kd} {l : List Value} (h : Vals A e b k l) (hne : e ≠ e') : ∀ k c z, A.get b ≠ some (.cells e' k c z) := by
  obtain ⟨c, h1, -⟩ := h
  intro k' c' z hh
  rw [h1] at hh
  injection hh with hh
  injection hh with h1 h2 h3 h4
  exact hne h1
def badS (o : OpV) : Prop := 255 < o.word.length ∨ o.k < 0 ∨ 3 < o.k ∨ o.n < 0
instance (o : OpV) : Decidable (badS o) := by unfold badS; infer_instance
def ansD (d : List EntD) (o : OpV) : RepD :=
  if o.kind = 6 then ⟨if okW o.word = true then (if (find o.word d).isSome = true then 0 else 9) else 7, ((find o.word d).getD zeroE).weight, []⟩
  else if o.kind = 7 then (if badS o then ⟨7, 0, []⟩ else ⟨0, 0, topL o.n (nearL o.word o.k d)⟩)
  else ⟨2, 0, []⟩
theorem c18_eq : Try.f18.body = some (.seq (sub c18 [0]) (.seq (.seq (sub c18 [1,0,0]) (.block 0 (.seq (sub c18 [1,0,1,0,0]) (.cond (.tmp 12) (sub c18 [1,0,1,0,1,0]) (sub c18 [1,0,1,0,1,1]))))) (.seq (sub c18 [1,1,0]) (sub c18 [1,1,1])))) := by kernel_rfl
noncomputable def c18l : Code := sub c18 [1,0,1,0,1,0]
theorem c18l_eq : sub c18 [1,0,1,0,1,0] = .seq (sub c18l [0]) (.seq (sub c18l [1,0]) (.block 1 (.seq (sub c18l [1,1,0,0]) (sub c18l [1,1,0,1])))) := by kernel_rfl
theorem c18e_eq : sub c18 [1,0,1,0,1,1] = .seq (sub c18 [1,0,1,0,1,1,0]) (.cond (.tmp 35) c18s (sub c18 [1,0,1,0,1,1,1,1])) := by kernel_rfl
theorem c18s_eq : c18s = .seq (.seq (sub c18s [0,0]) (.cond (.tmp 55) (sub c18s [0,1,0]) .skip)) (.seq (sub c18s [1,0]) (.seq (.seq (sub c18s [1,1,0,0]) (sub c18s [1,1,0,1])) (sub c18s [1,1,1]))) := by kernel_rfl
theorem ans_end {C : Mem} {p e w : Nat} {x : Value} {t : T Value} {ds : List Nat} {K : Ex → St → Prop} (v : Vals C 53 p (.var 3) (repC e w x)) (hx : oneCell x = true) (h4 : t.get 4 = some (.pointer (some ⟨p, 0, none⟩)))
    (hK : ∀ t' C', t'.get 4 = some (.pointer (some ⟨p, 0, none⟩)) → C'.next = C.next → (∀ z, z ≠ p → C'.get z = C.get z) → Vals C' 53 p (.var 3) (repC e w x) → K .ret ⟨t', 78, ds, C', none⟩) :
    W tb4 (.seq (sub c18 [1,1,0]) (sub c18 [1,1,1])) ⟨t, 78, ds, C, none⟩ K := by
  obtain ⟨d53, hd1, hd2⟩ := und53
  have l0 := load_all (tb := tb4) hd1 hd2 (l := repC e w x) size53 v
  obtain ⟨C1, s1, v1, n1, k1⟩ := store_all (tb := tb4) (t := 53) (l := repC e w x) (l' := repC e w x) size53 v rfl (by simp [repC]) (repC_one hx)
  apply W.seq
  apply W.run 20
  · intro M
    simp (disch := first | decide +kernel | omega) only [c18, Try.f18, Option.getD_some, sub_seq1, sub_seq0, sub_nil, exec_region, runOps_cons, opF_load, ev_tmp, h4, evG_some, putT_some, opF_store, T.get_set, Nat.reduceEqDiff, if_false, if_true, putT_none, runOps_nil, R.ok_bind, l0, s1]
    with_reducible rfl
  apply W.run 20
  · intro M
    simp (disch := first | decide +kernel | omega) only [c18, Try.f18, Option.getD_some, sub_seq1, sub_nil, exec_ret]
    with_reducible rfl
  exact hK _ C1 (by simp only [T.get_set, Nat.reduceEqDiff, if_false]; exact h4) n1 k1 v1
theorem ans_look {B : Mem} {d : List EntD} {x : Value} {o : OpV} {q : Nat} {t : T Value} {K : Ex → St → Prop} (h : EntE B d x) (ha : Asc d) (hl : d.length < 1000000) (vO : VarO B q o) (v : Vals B 53 (q + 1) (.var 3) repZ) (hq : q + 1 < B.next)
    (ht : Sl t [(0, x), (3, .pointer (some ⟨q, 0, none⟩)), (4, .pointer (some ⟨q + 1, 0, none⟩))])
    (hK : ∀ t' C', t'.get 4 = some (.pointer (some ⟨q + 1, 0, none⟩)) → B.next ≤ C'.next → (∀ z, z < B.next → z ≠ q + 1 → C'.get z = B.get z) → Vals C' 53 (q + 1) (.var 3) (repC (if okW o.word = true then (if (find o.word d).isSome = true then 0 else 9) else 7) ((find o.word d).getD zeroE).weight (.slice none 0 0)) → K .nrm ⟨t', 78, [], C', none⟩) :
    W tb4 (sub c18 [1,0,1,0,1,0]) ⟨t, 78, [], B, none⟩ K := by
  obtain ⟨g0, g3, g4, -⟩ := ht
  rw [c18l_eq]
  obtain ⟨b, hb⟩ := h
  have lw := vO.word
  obtain ⟨D, ⟨g, hg⟩, nD, kD⟩ := run_find (w := o.word) hb hb.lt ha (by omega)
  have kBD : Kp B D := ⟨nD, kD⟩
  have z2 : Vals (D.alloc (rowOb 45 [.string .empty, .int .u32 0, .bool false])) 45 D.next (.var 3) [.string .empty, .int .u32 0, .bool false] := vals_puts (get_alloc_self _ _)
  obtain ⟨E, s2, v2, n2, e2⟩ := store_all (tb := tb4) (t := 45) (l := [.string .empty, .int .u32 0, .bool false]) (l' := entC ((find o.word d).getD zeroE)) size45' z2 rfl (by simp) (entC_one _)
  rw [next_alloc] at n2
  have kE : Kp B E := kBD.trans ⟨by omega, fun z hz => by rw [e2 z (by omega), get_alloc_ne (by omega)]⟩
  have lwt : loadF tb4 E.get 24 (.pointer (some ⟨D.next, 1, none⟩)) = .ok (.int .u32 (((find o.word d).getD zeroE).weight : Int)) := load_vals und24' rfl v2 rfl
  obtain ⟨F, s3, v3, n3, k3⟩ := store_vals (tb := tb4) (t := 24) (o := 1) (v := .int .u32 (((find o.word d).getD zeroE).weight : Int)) size24' (v.same (kE.2 _ hq)) (by show 1 < 3; decide) rfl rfl
  have vF : VarO F q o := ⟨by rw [n3]; exact (vO.kp kE).1, (vO.kp kE).2.same (k3 _ (by omega))⟩
  have lw3 := vF.word
  obtain ⟨g1, hg1⟩ := run_check (get_alloc_self F (rowOb 9 [strOf o.word]))
  have kG := Kp.alloc F (rowOb 9 [strOf o.word])
  have vG : Vals (F.alloc (rowOb 9 [strOf o.word])) 53 (q + 1) (.var 3) (repC 0 ((find o.word d).getD zeroE).weight (.slice none 0 0)) := v3.same (kG.2 _ (by have := kE.1; omega))
  have old : ∀ z, z < B.next → z ≠ q + 1 → (F.alloc (rowOb 9 [strOf o.word])).get z = B.get z := fun z hz hne => by
    rw [kG.2 z (by have := kE.1; omega), k3 z hne, kE.2 z hz]
  have nG : B.next ≤ (F.alloc (rowOb 9 [strOf o.word])).next := by have := kE.1; have := kG.1; omega
  apply W.seq
  apply W.runG (g) 20
  · intro M hM
    simp (disch := first | decide +kernel | omega) only [c18l, c18, Try.f18, Option.getD_some, sub_seq1, sub_seq0, sub_block, sub_cond0, sub_nil, exec_region, runOps_cons, opF_move, ev_tmp, g0, evG_some, putT_some, opF_fieldAddr, T.get_set, Nat.reduceEqDiff, g3, if_false, opF_load, if_true, opF_call, evs, R.ok_bind, resK, opF_extract, extractF, opF_alloc, z45, at_ptr, opF_store, putT_none, opF_assign, runOps_nil, cells_agg, f38_1, lw, hg, List.getElem?_cons_zero, List.getElem?_cons_succ, s2]
    with_reducible rfl
  apply W.seq
  apply W.run 20
  · intro M
    simp (disch := first | decide +kernel | omega) only [c18l, c18, Try.f18, Option.getD_some, sub_seq1, sub_seq0, sub_block, sub_cond0, sub_nil, exec_region, runOps_cons, opF_fieldAddr, ev_tmp, T.get_set, Nat.reduceEqDiff, if_false, if_true, evG_some, putT_some, opF_load, g4, opF_store, putT_none, runOps_nil, R.ok_bind, f53_1, fb1', lwt, s3]
    with_reducible rfl
  apply W.block
  apply W.seq
  cases hw : okW o.word with
  | false =>
    have hch : chk o.word = 7 := by unfold chk; rw [hw]; rfl
    rw [hch] at hg1
    rw [hw] at hK
    obtain ⟨G, s4, v4, n4, k4⟩ := store_vals (tb := tb4) (t := 40) (o := 0) (v := .int .i64 ((7 : Nat) : Int)) size40' vG (by show 0 < 3; decide) rfl rfl
    apply W.runG (g1) 20
    · intro M hM
      simp (disch := first | decide +kernel | omega) only [c18l, c18, Try.f18, Option.getD_some, sub_seq1, sub_seq0, sub_block, sub_cond0, sub_nil, exec_region, runOps_cons, opF_fieldAddr, ev_tmp, T.get_set, Nat.reduceEqDiff, g3, if_false, evG_some, putT_some, opF_load, if_true, opF_buildSlice, evp, R.ok_bind, opF_call, evs, resK, opF_neq, ev_int, opF_assign, runOps_nil, f38_1, lw3, bs94, at_slc, hg1, binF_int, op_neq, ne_eq, not_false_eq_true, decide_true]
      with_reducible rfl
    apply W.run 20
    · intro M
      simp (disch := first | decide +kernel | omega) only [c18l, c18, Try.f18, Option.getD_some, sub_seq1, sub_seq0, sub_block, sub_cond0, sub_nil, exec_cond, ev_tmp, T.get_set, Nat.reduceEqDiff, if_false, if_true, evG_some, exec_region, runOps_cons, opF_fieldAddr, g4, putT_some, opF_store, ev_int, putT_none, runOps_nil, R.ok_bind, f53_0, s4, exec_seq, opF_move, opF_un, opF_assign, un_not, exec_skip, cond_val]
      with_reducible rfl
    refine hK _ G ?_ (by omega) (fun z hz hne => by rw [k4 z hne, old z hz hne]) ?_
    · simp only [T.get_set, Nat.reduceEqDiff, if_false, g4]
    · exact v4
  | true =>
    have hch : chk o.word = 0 := by unfold chk; rw [hw]; rfl
    rw [hch] at hg1
    rw [hw] at hK
    apply W.runG (g1) 20
    · intro M hM
      simp (disch := first | decide +kernel | omega) only [c18l, c18, Try.f18, Option.getD_some, sub_seq1, sub_seq0, sub_block, sub_cond0, sub_nil, exec_region, runOps_cons, opF_fieldAddr, ev_tmp, T.get_set, Nat.reduceEqDiff, g3, if_false, evG_some, putT_some, opF_load, if_true, opF_buildSlice, evp, R.ok_bind, opF_call, evs, resK, opF_neq, ev_int, opF_assign, runOps_nil, f38_1, lw3, bs94, at_slc, hg1, binF_int, op_neq, ne_eq, not_true_eq_false, decide_false]
      with_reducible rfl
    show W tb4 _ _ _
    cases his : (find o.word d).isSome with
    | true =>
      rw [his] at hK
      apply W.run 20
      · intro M
        simp (disch := first | decide +kernel | omega) only [c18l, c18, Try.f18, Option.getD_some, sub_seq1, sub_seq0, sub_block, sub_cond0, sub_nil, exec_cond, ev_tmp, T.get_set, Nat.reduceEqDiff, if_false, if_true, evG_some, exec_region, runOps_cons, opF_fieldAddr, putT_some, opF_store, ev_int, putT_none, runOps_nil, R.ok_bind, exec_seq, opF_move, opF_un, opF_assign, un_not, Bool.not_true, exec_skip]
        with_reducible rfl
      refine hK _ _ ?_ nG old vG
      · simp only [T.get_set, Nat.reduceEqDiff, if_false, g4]
    | false =>
      rw [his] at hK
      obtain ⟨G, s4, v4, n4, k4⟩ := store_vals (tb := tb4) (t := 40) (o := 0) (v := .int .i64 ((9 : Nat) : Int)) size40' vG (by show 0 < 3; decide) rfl rfl
      apply W.run 20
      · intro M
        simp (disch := first | decide +kernel | omega) only [c18l, c18, Try.f18, Option.getD_some, sub_seq1, sub_seq0, sub_block, sub_cond0, sub_nil, exec_cond, ev_tmp, T.get_set, Nat.reduceEqDiff, if_false, if_true, evG_some, exec_region, runOps_cons, opF_fieldAddr, g4, putT_some, opF_store, ev_int, putT_none, runOps_nil, R.ok_bind, f53_0, exec_seq, opF_move, opF_un, opF_assign, un_not, Bool.not_false, exec_skip, s4]
        with_reducible rfl
      refine hK _ G ?_ (by omega) (fun z hz hne => by rw [k4 z hne, old z hz hne]) ?_
      · simp only [T.get_set, Nat.reduceEqDiff, if_false, g4]
      · exact v4
end Go.Proofs.Ytnelkapmmgggdaa.mdl

/-
  Model: Answer, the suggestions.
-/
namespace Go.Proofs.Ytnelkapmmgggdaa.mdl
open Go.Am Go.Mdl
open Go.Proofs.Ytnelkapmmgggdaa.rnk (HitD hitC ordD lessB sortH ordK lessK hitC_len sortH_len)
set_option linter.unusedSimpArgs false
set_option linter.unusedVariables false
set_option linter.unusedVariables false

theorem sug_test {B : Mem} {x : Value} {o : OpV} {q : Nat} {t : T Value} (vO : VarO B q o) (ht : Sl t [(0, x), (3, .pointer (some ⟨q, 0, none⟩)), (4, .pointer (some ⟨q + 1, 0, none⟩))]) :
    W tb4 (sub c18s [0,0]) ⟨t, 78, [], B, none⟩ (fun e s => ∃ t', e = .nrm ∧ s = ⟨t', 78, [], B, none⟩ ∧ Sl t' [(0, x), (3, .pointer (some ⟨q, 0, none⟩)), (4, .pointer (some ⟨q + 1, 0, none⟩)), (55, .bool (decide (badS o)))]) := by
  obtain ⟨g0, g3, g4, -⟩ := ht
  have lw := vO.word
  have lk := vO.k
  have ln := vO.n
  have hlen := len_str (tb := tb4) und9' (l := o.word)
  by_cases h1 : 255 < o.word.length
  · have hb : decide (badS o) = true := decide_eq_true (.inl h1)
    apply W.run 20
    · intro M
      simp (disch := first | decide +kernel | (rw [wantF_guard]; simp only [wantD_some, dstAt_zero, dstAt_succ, T.get_set, T.get_e, Nat.reduceEqDiff, if_true, if_false, wantV_bool, wantV_unit, unitV, cond_true, cond_false, Bool.not_true, Bool.not_false, List.toList_toArray]) | omega) only [c18s, c18, Try.f18, Option.getD_some, sub_seq1, sub_seq0, sub_block, sub_cond1, sub_cond0, sub_nil, exec_region, runOps_cons, opF_fieldAddr, ev_tmp, g3, evG_some, putT_some, opF_load, T.get_set, if_true, opF_len, evs, Nat.reduceEqDiff, if_false, R.ok_bind, opF_ari, ev_int, opF_move, f38_1, lw, hlen, binF_int, op_gtr, cast_lt, h1, decide_true, runOps_no, opF_pick, pickF, ev_bool, runOps_nil]
      with_reducible rfl
    refine ⟨_, rfl, rfl, ?_⟩
    rw [hb]
    simp only [Sl_cons, Sl_nil, T.get_set, T.puts_cons, T.puts_nil, Nat.reduceEqDiff, Nat.reduceAdd, if_true, if_false, and_true, true_and, g0, g3, g4]
  · by_cases h2 : o.k < ((0 : Nat) : Int)
    · have hb : decide (badS o) = true := decide_eq_true (.inr (.inl h2))
      apply W.run 20
      · intro M
        simp (disch := first | decide +kernel | (rw [wantF_guard]; simp only [wantD_some, dstAt_zero, dstAt_succ, T.get_set, T.get_e, Nat.reduceEqDiff, if_true, if_false, wantV_bool, wantV_unit, unitV, cond_true, cond_false, Bool.not_true, Bool.not_false, List.toList_toArray]) | omega) only [c18s, c18, Try.f18, Option.getD_some, sub_seq1, sub_seq0, sub_block, sub_cond1, sub_cond0, sub_nil, exec_region, runOps_cons, opF_fieldAddr, ev_tmp, g3, evG_some, putT_some, opF_load, T.get_set, if_true, opF_len, evs, Nat.reduceEqDiff, if_false, R.ok_bind, opF_ari, ev_int, opF_move, f38_1, lw, hlen, binF_int, op_gtr, cast_lt, h1, decide_false, runOps_yes, opF_pick, pickF, ev_bool, f38_3, lk, op_lssI, h2, decide_true, runOps_no, runOps_nil]
        with_reducible rfl
      refine ⟨_, rfl, rfl, ?_⟩
      rw [hb]
      simp only [Sl_cons, Sl_nil, T.get_set, T.puts_cons, T.puts_nil, Nat.reduceEqDiff, Nat.reduceAdd, if_true, if_false, and_true, true_and, g0, g3, g4]
    · by_cases h3 : ((3 : Nat) : Int) < o.k
      · have hb : decide (badS o) = true := decide_eq_true (.inr (.inr (.inl h3)))
        apply W.run 20
        · intro M
          simp (disch := first | decide +kernel | (rw [wantF_guard]; simp only [wantD_some, dstAt_zero, dstAt_succ, T.get_set, T.get_e, Nat.reduceEqDiff, if_true, if_false, wantV_bool, wantV_unit, unitV, cond_true, cond_false, Bool.not_true, Bool.not_false, List.toList_toArray]) | omega) only [c18s, c18, Try.f18, Option.getD_some, sub_seq1, sub_seq0, sub_block, sub_cond1, sub_cond0, sub_nil, exec_region, runOps_cons, opF_fieldAddr, ev_tmp, g3, evG_some, putT_some, opF_load, T.get_set, if_true, opF_len, evs, Nat.reduceEqDiff, if_false, R.ok_bind, opF_ari, ev_int, opF_move, f38_1, lw, hlen, binF_int, op_gtr, cast_lt, h1, decide_false, runOps_yes, opF_pick, pickF, ev_bool, f38_3, lk, op_lssI, h2, h3, decide_true, runOps_no, runOps_nil]
          with_reducible rfl
        refine ⟨_, rfl, rfl, ?_⟩
        rw [hb]
        simp only [Sl_cons, Sl_nil, T.get_set, T.puts_cons, T.puts_nil, Nat.reduceEqDiff, Nat.reduceAdd, if_true, if_false, and_true, true_and, g0, g3, g4]
      · by_cases h4 : o.n < ((0 : Nat) : Int)
        · have hb : decide (badS o) = true := decide_eq_true (.inr (.inr (.inr h4)))
          apply W.run 20
          · intro M
            simp (disch := first | decide +kernel | (rw [wantF_guard]; simp only [wantD_some, dstAt_zero, dstAt_succ, T.get_set, T.get_e, Nat.reduceEqDiff, if_true, if_false, wantV_bool, wantV_unit, unitV, cond_true, cond_false, Bool.not_true, Bool.not_false, List.toList_toArray]) | omega) only [c18s, c18, Try.f18, Option.getD_some, sub_seq1, sub_seq0, sub_block, sub_cond1, sub_cond0, sub_nil, exec_region, runOps_cons, opF_fieldAddr, ev_tmp, g3, evG_some, putT_some, opF_load, T.get_set, if_true, opF_len, evs, Nat.reduceEqDiff, if_false, R.ok_bind, opF_ari, ev_int, opF_move, f38_1, lw, hlen, binF_int, op_gtr, cast_lt, h1, decide_false, runOps_yes, opF_pick, pickF, ev_bool, f38_3, lk, op_lssI, h2, h3, runOps_nil, f38_4, ln, h4, decide_true]
            with_reducible rfl
          refine ⟨_, rfl, rfl, ?_⟩
          rw [hb]
          simp only [Sl_cons, Sl_nil, T.get_set, T.puts_cons, T.puts_nil, Nat.reduceEqDiff, Nat.reduceAdd, if_true, if_false, and_true, true_and, g0, g3, g4]
        · have hb : decide (badS o) = false := decide_eq_false (fun h => by
            rcases h with h | h | h | h
            · exact h1 h
            · exact h2 h
            · exact h3 h
            · exact h4 h)
          apply W.run 20
          · intro M
            simp (disch := first | decide +kernel | (rw [wantF_guard]; simp only [wantD_some, dstAt_zero, dstAt_succ, T.get_set, T.get_e, Nat.reduceEqDiff, if_true, if_false, wantV_bool, wantV_unit, unitV, cond_true, cond_false, Bool.not_true, Bool.not_false, List.toList_toArray]) | omega) only [c18s, c18, Try.f18, Option.getD_some, sub_seq1, sub_seq0, sub_block, sub_cond1, sub_cond0, sub_nil, exec_region, runOps_cons, opF_fieldAddr, ev_tmp, g3, evG_some, putT_some, opF_load, T.get_set, if_true, opF_len, evs, Nat.reduceEqDiff, if_false, R.ok_bind, opF_ari, ev_int, opF_move, f38_1, lw, hlen, binF_int, op_gtr, cast_lt, h1, decide_false, runOps_yes, opF_pick, pickF, ev_bool, f38_3, lk, op_lssI, h2, h3, runOps_nil, f38_4, ln, h4]
            with_reducible rfl
          refine ⟨_, rfl, rfl, ?_⟩
          rw [hb]
          simp only [Sl_cons, Sl_nil, T.get_set, T.puts_cons, T.puts_nil, Nat.reduceEqDiff, Nat.reduceAdd, if_true, if_false, and_true, true_and, g0, g3, g4]
theorem ans_sug {B : Mem} {d : List EntD} {x : Value} {o : OpV} {q : Nat} {t : T Value} {K : Ex → St → Prop} (h : EntE B d x) (hl : d.length < 60000) (hw : ∀ e ∈ d, e.word.length ≤ 900000) (vO : VarO B q o) (v : Vals B 53 (q + 1) (.var 3) repZ) (hq : q + 1 < B.next) (hb : ¬ badS o)
    (ht : Sl t [(0, x), (3, .pointer (some ⟨q, 0, none⟩)), (4, .pointer (some ⟨q + 1, 0, none⟩))])
    (hK : ∀ t' C' y dd, t'.get 4 = some (.pointer (some ⟨q + 1, 0, none⟩)) → B.next ≤ dd → B.next ≤ C'.next → (∀ z, z < B.next → z ≠ q + 1 → C'.get z = B.get z) → Vals C' 53 (q + 1) (.var 3) (repC 0 0 y) → HitE C' (topL o.n (nearL o.word o.k d)) y → C'.get dd = some .defd → K .nrm ⟨t', 78, [dd], C', none⟩) :
    W tb4 (.seq (sub c18s [1,0]) (.seq (.seq (sub c18s [1,1,0,0]) (sub c18s [1,1,0,1])) (sub c18s [1,1,1]))) ⟨t, 78, [], B, none⟩ K := by
  obtain ⟨g0, g3, g4, -⟩ := ht
  have h255 : ¬ 255 < o.word.length := fun h => hb (.inl h)
  have hn0 : 0 ≤ o.n := Int.not_lt.1 fun h => hb (.inr (.inr (.inr h)))
  apply W.seq
  apply W.run 20
  · intro M
    simp (disch := first | decide +kernel | omega) only [c18s, c18, Try.f18, Option.getD_some, sub_seq1, sub_seq0, sub_block, sub_cond1, sub_cond0, sub_nil, exec_region, runOps_cons, opF_alloc, z51, at_ptr, putT_some, runOps_nil, R.ok_bind, cells_slc]
    with_reducible rfl
  show W tb4 _ _ _
  have kB1 := Kp.alloc B (rowOb 51 [.slice none 0 0])
  have n1 : (B.alloc (rowOb 51 [.slice none 0 0])).next = B.next + 1 := next_alloc _ _
  have v1 : Vals (B.alloc (rowOb 51 [.slice none 0 0])) 51 B.next (.var 1) [.slice none 0 0] := vals_puts (get_alloc_self _ _)
  generalize B.alloc (rowOb 51 [.slice none 0 0]) = B1 at kB1 n1 v1
  have vO1 := vO.kp kB1
  have lw := vO1.word
  have lk := vO1.k
  obtain ⟨be, hbe, hbl⟩ := EntS.or_nil h.choose_spec
  have hbe1 : EntS B1 be d x := SlcM.same hbe kB1.1 (fun h => kB1.2 _ h)
  obtain ⟨gn, hgn⟩ := run_near (w := o.word) (k := o.k) hbe1
  have kB2 : Kp B1 (((B1.alloc (rowOb 32 [x])).alloc (rowOb 9 [strOf o.word])).alloc (rowOb 3 [.int .i64 o.k])) := ((Kp.alloc _ _).trans (Kp.alloc _ _)).trans (Kp.alloc _ _)
  have n2 : (((B1.alloc (rowOb 32 [x])).alloc (rowOb 9 [strOf o.word])).alloc (rowOb 3 [.int .i64 o.k])).next = B1.next + 3 := rfl
  have w1 : Vals (((B1.alloc (rowOb 32 [x])).alloc (rowOb 9 [strOf o.word])).alloc (rowOb 3 [.int .i64 o.k])) 32 B1.next (.var 1) [x] := ((vals_puts (get_alloc_self _ _) : Vals (B1.alloc (rowOb 32 [x])) 32 B1.next (.var 1) [x]).same (get_alloc_ne (by simp only [next_alloc]; omega))).same (get_alloc_ne (by simp only [next_alloc]; omega))
  have w2 : Vals (((B1.alloc (rowOb 32 [x])).alloc (rowOb 9 [strOf o.word])).alloc (rowOb 3 [.int .i64 o.k])) 9 (B1.next + 1) (.var 1) [strOf o.word] := (vals_puts (get_alloc_self (B1.alloc (rowOb 32 [x])) _) : Vals ((B1.alloc (rowOb 32 [x])).alloc (rowOb 9 [strOf o.word])) 9 (B1.next + 1) (.var 1) [strOf o.word]).same (get_alloc_ne (by simp only [next_alloc]; omega))
  have w3 : Vals (((B1.alloc (rowOb 32 [x])).alloc (rowOb 9 [strOf o.word])).alloc (rowOb 3 [.int .i64 o.k])) 3 (B1.next + 2) (.var 1) [.int .i64 o.k] := vals_puts (get_alloc_self ((B1.alloc (rowOb 32 [x])).alloc (rowOb 9 [strOf o.word])) _)
  apply W.seq
  apply W.seq
  apply W.runG (gn) 20
  · intro M hM
    simp (disch := first | decide +kernel | omega) only [c18s, c18, Try.f18, Option.getD_some, sub_seq1, sub_seq0, sub_block, sub_cond1, sub_cond0, sub_nil, exec_region, runOps_cons, opF_move, ev_tmp, T.get_set, Nat.reduceEqDiff, g0, if_false, evG_some, putT_some, opF_fieldAddr, g3, opF_load, if_true, opF_call, evs, R.ok_bind, resK, runOps_nil, f38_3, lk, f38_1, lw, hgn]
    with_reducible rfl
  show W tb4 _ _ _
  generalize ((B1.alloc (rowOb 32 [x])).alloc (rowOb 9 [strOf o.word])).alloc (rowOb 3 [.int .i64 o.k]) = B0 at kB2 n2 w1 w2 w3
  rw [c18r_eq]
  apply W.block
  generalize htt : (T.set _ 62 _ : T Value) = tt
  have t4 : tt.get 4 = some (.pointer (some ⟨q + 1, 0, none⟩)) := by rw [← htt]; simp only [T.get_set, Nat.reduceEqDiff, if_true, if_false, g4]
  have t3 : tt.get 3 = some (.pointer (some ⟨q, 0, none⟩)) := by rw [← htt]; simp only [T.get_set, Nat.reduceEqDiff, if_true, if_false, g3]
  have t7 : tt.get 7 = some (.pointer (some ⟨B.next, 0, none⟩)) := by rw [← htt]; simp only [T.get_set, Nat.reduceEqDiff, if_true, if_false]
  have t62 : tt.get 62 = some (nearF B1.next) := by rw [← htt]; simp only [T.get_set, if_true]
  have hL1 : (B0.alloc .defd).next = B0.next + 1 := next_alloc _ _
  have hL2 : ((B0.alloc .defd).alloc (.loop (hitsLp tt B0.next))).next = B0.next + 2 := by rw [next_alloc, hL1]
  have hEL : Kp B0 ((B0.alloc .defd).alloc (.loop (hitsLp tt B0.next))) := (Kp.alloc B0 _).trans (Kp.alloc _ _)
  have hE3 := (kB1.trans kB2).trans hEL
  have hrl : (nearL o.word o.k d).length ≤ 1000000 := Nat.le_trans (nearL_len _ _ _) (by omega)
  have hcons := cons_hits (B0 := B0) (t0 := tt) (xb := B.next) hrl (by omega) t7
  have hI0 : HitsI B0 B.next tt (nearL o.word o.k d) 0 B.next ((B0.alloc .defd).alloc (.loop (hitsLp tt B0.next))) := {
    hd := by rw [get_alloc_ne (by omega), get_alloc_self]
    hl := by rw [← hL1, get_alloc_self]
    hn := by omega
    n1 := .inl rfl
    lt := by omega
    hx := ⟨.slice none 0 0, .inl ⟨rfl, rfl⟩, (v1.same (kB2.2 _ (by omega))).same (hEL.2 _ (by omega)), fun _ => rfl⟩ }
  obtain ⟨vv, C, hcl, b', hIC, hnC, hbC, hfC⟩ := run_near1 (p := B1.next) (be := be) (by omega) hw (by omega) (by omega) hcons hI0 (SlcM.same hbe hE3.1 (fun h => hE3.2 _ h)) (w1.same (hEL.2 _ (by omega))) (w2.same (hEL.2 _ (by omega))) (w3.same (hEL.2 _ (by omega))) (fun _ => by omega) (by omega) (fun y h1 h2 => by omega) (fun y hy => by omega)
  have hfv : ev tt (.tmp 62) = .ok (.func (.func 46) ⟨[]⟩ ⟨[.pointer (some ⟨B1.next, 0, none⟩), .pointer (some ⟨B1.next + 1, 0, none⟩), .pointer (some ⟨B1.next + 2, 0, none⟩)]⟩) := by rw [ev_tmp, t62]; rfl
  refine W.rangeF hfv hcl hIC.hl (by intro h; cases h) rfl ?_
  show W tb4 _ _ _
  have hCn := hIC.hn
  have hCb := hIC.n1
  have hClt := hIC.lt
  have chd := hIC.hd
  obtain ⟨y, hy1, hy2, hy3⟩ := hIC.hx
  rw [List.take_length] at hy1
  show W tb4 _ ⟨_, _, _, C.set (B0.next + 1) (.loop { (hitsLp tt B0.next) with state := .exhausted }), _⟩ _
  have hg : ∀ z, z ≠ B0.next + 1 → (C.set (B0.next + 1) (.loop { (hitsLp tt B0.next) with state := .exhausted })).get z = C.get z := fun z hz => by rw [get_setMem, if_neg hz]
  have hgn' : (C.set (B0.next + 1) (.loop { (hitsLp tt B0.next) with state := .exhausted })).next = C.next := next_set _ _ _
  revert hg hgn'
  generalize C.set (B0.next + 1) (.loop { (hitsLp tt B0.next) with state := .exhausted }) = D
  intro hg hgn'
  have dx : Vals D 51 B.next (.var 1) [y] := hy2.same (hg _ (by omega))
  have ly : loadF tb4 D.get 51 (.pointer (some ⟨B.next, 0, none⟩)) = .ok y := load_vals und51 rfl dx rfl
  have oldD : ∀ z, z < B.next → D.get z = B.get z := fun z hz => by
    rw [hg z (by omega), hfC z (by omega) (by omega) (by omega), hE3.2 z hz]
  have vOD : VarO D q o := ⟨by omega, vO.2.same (oldD _ (by omega))⟩
  have ln := vOD.n
  have hyD : HitS D b' (nearL o.word o.k d) y := by
    rcases hCb with hq' | hq'
    · have hnil := hy3 hq'
      subst hnil
      rcases hy1 with hy1 | ⟨k, c, e, _⟩
      · exact .inl hy1
      · cases e
    · exact SlcM.same hy1 (by omega) (fun _ => hg _ (by omega))
  have hdD : D.get B0.next = some .defd := by rw [hg _ (by omega)]; exact chd
  have hD53 : Vals D 53 (q + 1) (.var 3) repZ := v.same (oldD _ hq)
  obtain ⟨ys, E, ⟨gt, hgt⟩, hE, kE⟩ := run_top hyD hn0 (Nat.lt_of_le_of_lt (nearL_len _ _ _) hl)
  have vE : Vals E 53 (q + 1) (.var 3) repZ := hD53.same (kE.2 _ (by omega))
  obtain ⟨F, s1, v1', n1', k1⟩ := store_vals (tb := tb4) (t := 51) (o := 2) (v := ys) size51 vE (by show 2 < 3; decide) hE.cells.1 hE.cells.2.1
  obtain ⟨G, s2, v2', n2', k2⟩ := store_vals (tb := tb4) (t := 40) (o := 0) (v := .int .i64 ((0 : Nat) : Int)) size40' v1' (by show 0 < 3; decide) rfl rfl
  have kDE := kE.1
  apply W.runG (gt) 20
  · intro M hM
    simp (disch := first | decide +kernel | omega) only [c18s, c18, Try.f18, Option.getD_some, sub_seq1, sub_seq0, sub_block, sub_cond1, sub_cond0, sub_nil, exec_region, runOps_cons, opF_fieldAddr, ev_tmp, t3, evG_some, putT_some, opF_load, T.get_set, if_true, Nat.reduceEqDiff, t7, if_false, opF_call, evs, R.ok_bind, resK, opF_move, opF_extract, extractF, t4, opF_store, putT_none, runOps_nil, f53_0, f53_2, ly, f38_4, ln, hgt, List.getElem?_cons_zero, List.getElem?_cons_succ, s1, s2]
    with_reducible rfl
  refine hK _ G ys B0.next ?_ (by omega) (by omega) (fun z hz hne => by rw [k2 z hne, k1 z hne, kE.2 z (by omega), oldD z hz]) v2' ?_ ?_
  · simp only [T.get_set, Nat.reduceEqDiff, if_false, t4]
  · exact HitE.put hE (q := q + 1) (Vals.not vE (by decide)) (by omega) (fun z hz hne => by rw [k2 z hne, k1 z hne])
  · rw [k2 _ (by omega), k1 _ (by omega), kE.2 _ (by omega)]; exact hdD
end Go.Proofs.Ytnelkapmmgggdaa.mdl

/-
  Model: Answer, whole.
-/
namespace Go.Proofs.Ytnelkapmmgggdaa.mdl
open Go.Am Go.Mdl
open Go.Proofs.Ytnelkapmmgggdaa.rnk (HitD hitC ordD lessB sortH ordK lessK hitC_len sortH_len)
set_option linter.unusedSimpArgs false
set_option linter.unusedVariables false
set_option linter.unusedVariables false

theorem run_answer {A : Mem} {d : List EntD} {x : Value} {o : OpV} (h : EntE A d x) (ha : Asc d) (hl : d.length < 60000) (hw : ∀ e ∈ d, e.word.length ≤ 900000) :
    ∃ v A', Ans tb4 18 [x, .agg ⟨opC o⟩] A v A' ∧ RepE A' (ansD d o) v ∧ Kp A A' := by
  refine ans_of_W (fn_at Try.func18) c18_eq (by rw [Try.ntmps18]; simp) (by kernel_rfl) (by kernel_rfl) ?_
  obtain ⟨d53, hd1, hd2⟩ := und53
  have hv0 : Vals ((A.alloc (rowOb 38 (opC o))).alloc (rowOb 53 repZ)) 38 A.next (.var 5) (opC o) := (vals_puts (get_alloc_self _ _)).same (get_alloc_ne (by rw [next_alloc]; omega))
  have hz0 : Vals ((A.alloc (rowOb 38 (opC o))).alloc (rowOb 53 repZ)) 53 (A.next + 1) (.var 3) repZ := vals_puts (get_alloc_self _ _)
  have hk0 : Kp A ((A.alloc (rowOb 38 (opC o))).alloc (rowOb 53 repZ)) := (Kp.alloc _ _).trans (Kp.alloc _ _)
  have hn0 : ((A.alloc (rowOb 38 (opC o))).alloc (rowOb 53 repZ)).next = A.next + 2 := rfl
  apply W.seq
  apply W.run 20
  · intro M
    simp (disch := first | decide +kernel | omega) only [c18, Try.f18, Option.getD_some, sub_seq0, sub_nil, T.puts_cons, Nat.reduceAdd, T.puts_nil, exec_region, runOps_cons, opF_box, ev_tmp, T.get_set, Nat.reduceEqDiff, T.get_e, if_false, if_true, evG_some, at_ptr, putT_some, opF_alloc, z53, next_alloc, runOps_nil, R.ok_bind, cells_agg]
    with_reducible rfl
  show W tb4 _ _ _
  generalize (A.alloc (rowOb 38 (opC o))).alloc (rowOb 53 repZ) = B at hv0 hz0 hk0 hn0
  refine W_gen [(0, x), (3, .pointer (some ⟨A.next, 0, none⟩)), (4, .pointer (some ⟨A.next + 1, 0, none⟩))] (by simp only [Sl_cons, Sl_nil, T.get_set, T.puts_cons, T.puts_nil, Nat.reduceEqDiff, Nat.reduceAdd, if_true, if_false, and_true, true_and]) fun t ht => ?_
  obtain ⟨g0, g3, g4, -⟩ := ht
  have vO : VarO B A.next o := ⟨by omega, hv0⟩
  have hE := h.kp hk0
  have lk := vO.kind
  apply W.seq
  apply W.seq
  apply W.run 20
  · intro M
    simp (disch := first | decide +kernel | omega) only [c18, Try.f18, Option.getD_some, sub_seq1, sub_seq0, sub_nil, exec_region, runOps_cons, opF_fieldAddr, ev_tmp, g3, evG_some, putT_some, opF_load, T.get_set, if_true, runOps_nil, R.ok_bind, f38_0, lk]
    with_reducible rfl
  apply W.block
  apply W.seq
  by_cases h6 : o.kind = 6
  · have he6 : intOpF .eql .i64 o.kind ((6 : Nat) : Int) = .ok (.bool true) := by rw [op_eqlI, decide_eq_true (show o.kind = ((6 : Nat) : Int) from h6)]
    have hr : ansD d o = ⟨if okW o.word = true then (if (find o.word d).isSome = true then 0 else 9) else 7, ((find o.word d).getD zeroE).weight, []⟩ := by unfold ansD; rw [if_pos h6]
    apply W.run 20
    · intro M
      simp (disch := first | decide +kernel | omega) only [c18, Try.f18, Option.getD_some, sub_seq1, sub_seq0, sub_block, sub_nil, exec_region, runOps_cons, opF_eql, ev_tmp, T.get_set, Nat.reduceEqDiff, if_false, if_true, evG_some, ev_int, putT_some, opF_assign, runOps_nil, R.ok_bind, binF_int, he6]
      with_reducible rfl
    refine W.cond (p := true) ?_ (fun _ => ?_) (fun h => by cases h)
    · simp only [ev_tmp, T.get_set, Nat.reduceEqDiff, if_true, if_false, evG_some]
    refine ans_look (q := A.next) (x := x) hE ha (by omega) vO hz0 (by omega) (by simp only [Sl_cons, Sl_nil, T.get_set, T.puts_cons, T.puts_nil, Nat.reduceEqDiff, Nat.reduceAdd, if_true, if_false, and_true, true_and, g0, g3, g4]) fun t' C h4 nC kC vC => ?_
    show W tb4 _ _ _
    refine ans_end vC rfl h4 fun t2 C2 h42 n2 k2 v2 => ?_
    have l2 := load_all (tb := tb4) hd1 hd2 (l := repC (if okW o.word = true then (if (find o.word d).isSome = true then 0 else 9) else 7) ((find o.word d).getD zeroE).weight (.slice none 0 0)) size53 v2
    refine ⟨.inr rfl, C2, [.agg ⟨repC (if okW o.word = true then (if (find o.word d).isSome = true then 0 else 9) else 7) ((find o.word d).getD zeroE).weight (.slice none 0 0)⟩], rfl, ?_, ⟨.slice none 0 0, by rw [hr]; rfl, by rw [hr]; exact HitE.nil _⟩, ⟨by omega, fun z hz => by rw [k2 z (by omega), kC z (by omega) (by omega), hk0.2 z hz]⟩⟩
    simp only [Try.f18, resF, ev_tmp, T.get_set, Nat.reduceEqDiff, if_true, if_false, evG_some, R.ok_bind, h42, l2]
  · have he6 : intOpF .eql .i64 o.kind ((6 : Nat) : Int) = .ok (.bool false) := by rw [op_eqlI, decide_eq_false (show ¬ o.kind = ((6 : Nat) : Int) from h6)]
    apply W.run 20
    · intro M
      simp (disch := first | decide +kernel | omega) only [c18, Try.f18, Option.getD_some, sub_seq1, sub_seq0, sub_block, sub_nil, exec_region, runOps_cons, opF_eql, ev_tmp, T.get_set, Nat.reduceEqDiff, if_false, if_true, evG_some, ev_int, putT_some, opF_assign, runOps_nil, R.ok_bind, binF_int, he6]
      with_reducible rfl
    refine W.cond (p := false) ?_ (fun h => by cases h) (fun _ => ?_)
    · simp only [ev_tmp, T.get_set, Nat.reduceEqDiff, if_true, if_false, evG_some]
    rw [c18e_eq]
    apply W.seq
    by_cases h7 : o.kind = 7
    · have he7 : intOpF .eql .i64 o.kind ((7 : Nat) : Int) = .ok (.bool true) := by rw [op_eqlI, decide_eq_true (show o.kind = ((7 : Nat) : Int) from h7)]
      apply W.run 20
      · intro M
        simp (disch := first | decide +kernel | omega) only [c18, Try.f18, Option.getD_some, sub_seq1, sub_seq0, sub_block, sub_cond1, sub_nil, exec_region, runOps_cons, opF_eql, ev_tmp, T.get_set, Nat.reduceEqDiff, if_false, if_true, evG_some, ev_int, putT_some, opF_assign, runOps_nil, R.ok_bind, binF_int, he7]
        with_reducible rfl
      refine W.cond (p := true) ?_ (fun _ => ?_) (fun h => by cases h)
      · simp only [ev_tmp, T.get_set, Nat.reduceEqDiff, if_true, if_false, evG_some]
      rw [c18s_eq]
      apply W.seq
      apply W.seq
      refine (sug_test (x := x) vO (by simp only [Sl_cons, Sl_nil, T.get_set, T.puts_cons, T.puts_nil, Nat.reduceEqDiff, Nat.reduceAdd, if_true, if_false, and_true, true_and, g0, g3, g4])).mono ?_
      rintro e s ⟨t5, rfl, rfl, f0, f3, f4, f55, -⟩
      show W tb4 _ _ _
      by_cases hb : badS o
      · have hr : ansD d o = ⟨7, 0, []⟩ := by unfold ansD; rw [if_neg h6, if_pos h7, if_pos hb]
        rw [decide_eq_true hb] at f55
        obtain ⟨C, s1, v1, n1, k1⟩ := store_vals (tb := tb4) (t := 40) (o := 0) (v := .int .i64 ((7 : Nat) : Int)) size40' hz0 (by show 0 < 3; decide) rfl rfl
        refine W.cond (p := true) ?_ (fun _ => ?_) (fun h => by cases h)
        · simp only [ev_tmp, f55, evG_some]
        apply W.run 20
        · intro M
          simp (disch := first | decide +kernel | omega) only [c18s, c18, Try.f18, Option.getD_some, sub_seq1, sub_seq0, sub_block, sub_cond1, sub_cond0, sub_nil, exec_seq, exec_region, runOps_cons, opF_fieldAddr, ev_tmp, f4, evG_some, putT_some, opF_store, T.get_set, if_true, ev_int, putT_none, runOps_nil, R.ok_bind, f53_0, s1, exec_exit]
          with_reducible rfl
        show W tb4 _ _ _
        have v1' : Vals C 53 (A.next + 1) (.var 3) (repC 7 0 (.slice none 0 0)) := v1
        refine ans_end v1' rfl ?_ fun t2 C2 h42 n2 k2 v2 => ?_
        · simp only [T.get_set, Nat.reduceEqDiff, if_false, f4]
        have l2 := load_all (tb := tb4) hd1 hd2 (l := repC 7 0 (.slice none 0 0)) size53 v2
        refine ⟨.inr rfl, C2, [.agg ⟨repC 7 0 (.slice none 0 0)⟩], rfl, ?_, ⟨.slice none 0 0, by rw [hr]; rfl, by rw [hr]; exact HitE.nil _⟩, ⟨by omega, fun z hz => by rw [k2 z (by omega), k1 z (by omega), hk0.2 z hz]⟩⟩
        simp only [Try.f18, resF, ev_tmp, T.get_set, Nat.reduceEqDiff, if_true, if_false, evG_some, R.ok_bind, h42, l2]
      · have hr : ansD d o = ⟨0, 0, topL o.n (nearL o.word o.k d)⟩ := by unfold ansD; rw [if_neg h6, if_pos h7, if_neg hb]
        rw [decide_eq_false hb] at f55
        refine W.cond (p := false) ?_ (fun h => by cases h) (fun _ => ?_)
        · simp only [ev_tmp, f55, evG_some]
        apply W.run 20
        · intro M
          simp (disch := first | decide +kernel | omega) only [exec_skip]
          with_reducible rfl
        show W tb4 _ _ _
        refine ans_sug (q := A.next) (x := x) hE hl hw vO hz0 (by omega) hb (by simp only [Sl_cons, Sl_nil, T.get_set, T.puts_cons, T.puts_nil, Nat.reduceEqDiff, Nat.reduceAdd, if_true, if_false, and_true, true_and, f0, f3, f4]) fun t' C y dd h4 hdd nC kC vC hy hdf => ?_
        show W tb4 _ _ _
        refine ans_end vC hy.cells.2.1 h4 fun t2 C2 h42 n2 k2 v2 => ?_
        have hgs : ∀ z, z ≠ dd → (C2.set dd .dead).get z = C2.get z := fun z h1 => by rw [get_setMem, if_neg h1]
        have hgsn : (C2.set dd .dead).next = C2.next := next_set _ _ _
        have v3 : Vals (C2.set dd .dead) 53 (A.next + 1) (.var 3) (repC 0 0 y) := v2.same (hgs _ (by omega))
        have l2 := load_all (tb := tb4) hd1 hd2 (l := repC 0 0 y) size53 v3
        have hdd2 : C2.get dd = some .defd := by rw [k2 _ (by omega)]; exact hdf
        have hy2 : HitE C2 (topL o.n (nearL o.word o.k d)) y := HitE.put hy (q := A.next + 1) (Vals.not vC (by decide)) (by omega) (fun z hz hne => by rw [k2 z hne])
        have hy3 : HitE (C2.set dd .dead) (topL o.n (nearL o.word o.k d)) y := HitE.put hy2 (q := dd) (fun k c z hh => by rw [hdd2] at hh; cases hh) (by omega) (fun z hz hne => hgs z hne)
        refine ⟨.inr rfl, C2.set dd .dead, [.agg ⟨repC 0 0 y⟩], ?_, ?_, ⟨y, by rw [hr]; rfl, by rw [hr]; exact hy3⟩, ⟨by omega, fun z hz => by rw [hgs z (by omega), k2 z (by omega), kC z (by omega) (by omega), hk0.2 z hz]⟩⟩
        · show takeF [dd] C2 = _
          unfold takeF
          rw [hdd2]
          rfl
        · simp only [Try.f18, resF, ev_tmp, T.get_set, Nat.reduceEqDiff, if_true, if_false, evG_some, R.ok_bind, h42, l2]
    · have he7 : intOpF .eql .i64 o.kind ((7 : Nat) : Int) = .ok (.bool false) := by rw [op_eqlI, decide_eq_false (show ¬ o.kind = ((7 : Nat) : Int) from h7)]
      have hr : ansD d o = ⟨2, 0, []⟩ := by unfold ansD; rw [if_neg h6, if_neg h7]
      obtain ⟨C, s1, v1, n1, k1⟩ := store_vals (tb := tb4) (t := 40) (o := 0) (v := .int .i64 ((2 : Nat) : Int)) size40' hz0 (by show 0 < 3; decide) rfl rfl
      apply W.run 20
      · intro M
        simp (disch := first | decide +kernel | omega) only [c18, Try.f18, Option.getD_some, sub_seq1, sub_seq0, sub_block, sub_cond1, sub_nil, exec_region, runOps_cons, opF_eql, ev_tmp, T.get_set, Nat.reduceEqDiff, if_false, if_true, evG_some, ev_int, putT_some, opF_assign, runOps_nil, R.ok_bind, binF_int, he7]
        with_reducible rfl
      refine W.cond (p := false) ?_ (fun h => by cases h) (fun _ => ?_)
      · simp only [ev_tmp, T.get_set, Nat.reduceEqDiff, if_true, if_false, evG_some]
      apply W.run 20
      · intro M
        simp (disch := first | decide +kernel | omega) only [c18, Try.f18, Option.getD_some, sub_seq1, sub_seq0, sub_block, sub_cond1, sub_nil, exec_region, runOps_cons, opF_fieldAddr, ev_tmp, T.get_set, Nat.reduceEqDiff, g4, if_false, evG_some, putT_some, opF_store, if_true, ev_int, putT_none, runOps_nil, R.ok_bind, f53_0, s1]
        with_reducible rfl
      show W tb4 _ _ _
      have v1' : Vals C 53 (A.next + 1) (.var 3) (repC 2 0 (.slice none 0 0)) := v1
      refine ans_end v1' rfl ?_ fun t2 C2 h42 n2 k2 v2 => ?_
      · simp only [T.get_set, Nat.reduceEqDiff, if_false, g4]
      have l2 := load_all (tb := tb4) hd1 hd2 (l := repC 2 0 (.slice none 0 0)) size53 v2
      refine ⟨.inr rfl, C2, [.agg ⟨repC 2 0 (.slice none 0 0)⟩], rfl, ?_, ⟨.slice none 0 0, by rw [hr]; rfl, by rw [hr]; exact HitE.nil _⟩, ⟨by omega, fun z hz => by rw [k2 z (by omega), k1 z (by omega), hk0.2 z hz]⟩⟩
      simp only [Try.f18, resF, ev_tmp, T.get_set, Nat.reduceEqDiff, if_true, if_false, evG_some, R.ok_bind, h42, l2]
end Go.Proofs.Ytnelkapmmgggdaa.mdl

/-
  Model: a model; what is kept; opened again; read.
-/
namespace Go.Proofs.Ytnelkapmmgggdaa.mdl
open Go.Am Go.Mdl
open Go.Proofs.Ytnelkapmmgggdaa.rnk (HitD hitC ordD lessB sortH ordK lessK hitC_len sortH_len)
set_option linter.unusedSimpArgs false
set_option linter.unusedVariables false
set_option linter.unusedVariables false

structure MdlS where
  d : List EntD
  bad : Bool
  closed : Bool
def ModV (A : Mem) (q : Nat) (s : MdlS) : Prop := ∃ x, q < A.next ∧ Vals A 68 q (.var 3) [x, .bool s.bad, .bool s.closed] ∧ EntE A s.d x
def Kq (q : Nat) (A A' : Mem) : Prop := A.next ≤ A'.next ∧ ∀ z, z < A.next → z ≠ q → A'.get z = A.get z
theorem Kq.refl (q : Nat) (A : Mem) : Kq q A A := ⟨Nat.le_refl _, fun _ _ _ => rfl⟩
theorem Kq.trans {q : Nat} {A B C : Mem} (h : Kq q A B) (k : Kq q B C) : Kq q A C := ⟨Nat.le_trans h.1 k.1, fun z hz hne => by rw [k.2 z (by have := h.1; omega) hne, h.2 z hz hne]⟩
theorem Kp.kq {A A' : Mem} (h : Kp A A') (q : Nat) : Kq q A A' := ⟨h.1, fun z hz _ => h.2 z hz⟩
theorem ModV.kp {A A' : Mem} {q : Nat} {s : MdlS} (h : ModV A q s) (k : Kp A A') : ModV A' q s := by
  obtain ⟨x, h1, h2, h3⟩ := h
  exact ⟨x, Nat.lt_of_lt_of_le h1 k.1, h2.same (k.2 _ h1), h3.kp k⟩
theorem EntE.kq {A A' : Mem} {q : Nat} {l : List EntD} {x : Value} {ls : List Value} (h : EntE A l x) (hv : Vals A 68 q (.var 3) ls) (k : Kq q A A') : EntE A' l x := by
  obtain ⟨b, h⟩ := h
  exact ⟨b, SlcM.put h (Vals.not hv (by decide)) k.1 k.2⟩
theorem EntE.cells {A : Mem} {l : List EntD} {x : Value} (h : EntE A l x) : x.cells.toList = [x] ∧ oneCell x = true ∧ sameV 100 x x = true := by
  obtain ⟨b, h⟩ := h
  exact h.cells
theorem size32 : sizeF tb4 32 = .ok 1 := by kernel_rfl
theorem size4' : sizeF tb4 4 = .ok 1 := by kernel_rfl
theorem fm1 {b : Nat} : fieldAddrF tb4 68 (.pointer (some ⟨b, 0, none⟩)) 1 = .ok (.pointer (some ⟨b, 1, none⟩)) := by kernel_rfl
theorem fm2 {b : Nat} : fieldAddrF tb4 68 (.pointer (some ⟨b, 0, none⟩)) 2 = .ok (.pointer (some ⟨b, 2, none⟩)) := by kernel_rfl
theorem ModV.bad {A : Mem} {q : Nat} {s : MdlS} (h : ModV A q s) : loadF tb4 A.get 4 (.pointer (some ⟨q, 1, none⟩)) = .ok (.bool s.bad) := by
  obtain ⟨x, h1, h2, h3⟩ := h
  exact load_vals und4' rfl h2 rfl
theorem ModV.closed {A : Mem} {q : Nat} {s : MdlS} (h : ModV A q s) : loadF tb4 A.get 4 (.pointer (some ⟨q, 2, none⟩)) = .ok (.bool s.closed) := by
  obtain ⟨x, h1, h2, h3⟩ := h
  exact load_vals und4' rfl h2 rfl
theorem ModV.d {A : Mem} {q : Nat} {s : MdlS} (h : ModV A q s) : ∃ x, loadF tb4 A.get 32 (.pointer (some ⟨q, 0, none⟩)) = .ok x ∧ EntE A s.d x := by
  obtain ⟨x, h1, h2, h3⟩ := h
  exact ⟨x, load_vals und32' rfl h2 rfl, h3⟩
theorem ModV.setBad {A : Mem} {q : Nat} {s : MdlS} (h : ModV A q s) (p : Bool) : ∃ A', storeF tb4 A 4 (.pointer (some ⟨q, 1, none⟩)) (.bool p) = .ok A' ∧ ModV A' q ⟨s.d, p, s.closed⟩ ∧ A'.next = A.next ∧ ∀ z, z ≠ q → A'.get z = A.get z := by
  obtain ⟨x, h1, h2, h3⟩ := h
  obtain ⟨A', s1, v1, n1, k1⟩ := store_vals (tb := tb4) (t := 4) (o := 1) (v := .bool p) size4' h2 (by show 1 < 3; decide) rfl rfl
  exact ⟨A', s1, ⟨x, by omega, v1, h3.kq h2 ⟨by omega, fun z _ hz => k1 z hz⟩⟩, n1, k1⟩
theorem ModV.setClosed {A : Mem} {q : Nat} {s : MdlS} (h : ModV A q s) (p : Bool) : ∃ A', storeF tb4 A 4 (.pointer (some ⟨q, 2, none⟩)) (.bool p) = .ok A' ∧ ModV A' q ⟨s.d, s.bad, p⟩ ∧ A'.next = A.next ∧ ∀ z, z ≠ q → A'.get z = A.get z := by
  obtain ⟨x, h1, h2, h3⟩ := h
  obtain ⟨A', s1, v1, n1, k1⟩ := store_vals (tb := tb4) (t := 4) (o := 2) (v := .bool p) size4' h2 (by show 2 < 3; decide) rfl rfl
  exact ⟨A', s1, ⟨x, by omega, v1, h3.kq h2 ⟨by omega, fun z _ hz => k1 z hz⟩⟩, n1, k1⟩
theorem ModV.setD {A : Mem} {q : Nat} {s : MdlS} {d : List EntD} {y : Value} (h : ModV A q s) (hy : EntE A d y) : ∃ A', storeF tb4 A 32 (.pointer (some ⟨q, 0, none⟩)) y = .ok A' ∧ ModV A' q ⟨d, s.bad, s.closed⟩ ∧ A'.next = A.next ∧ ∀ z, z ≠ q → A'.get z = A.get z := by
  obtain ⟨x, h1, h2, h3⟩ := h
  obtain ⟨A', s1, v1, n1, k1⟩ := store_vals (tb := tb4) (t := 32) (o := 0) (v := y) size32 h2 (by show 0 < 3; decide) hy.cells.1 hy.cells.2.1
  exact ⟨A', s1, ⟨y, by omega, v1, hy.kq h2 ⟨by omega, fun z _ hz => k1 z hz⟩⟩, n1, k1⟩
theorem bld53 {e : Nat} : buildF tb4 53 [(0, .int .i64 (e : Int))] = .ok (.agg ⟨repC e 0 (.slice none 0 0)⟩) := by kernel_rfl
theorem rep_store {C : Mem} {p e w e' w' : Nat} {x x' : Value} (v : Vals C 53 p (.var 3) (repC e w x)) (hx : oneCell x' = true) : ∃ C', storeF tb4 C 53 (.pointer (some ⟨p, 0, none⟩)) (.agg ⟨repC e' w' x'⟩) = .ok C' ∧ Vals C' 53 p (.var 3) (repC e' w' x') ∧ loadF tb4 C'.get 53 (.pointer (some ⟨p, 0, none⟩)) = .ok (.agg ⟨repC e' w' x'⟩) ∧ C'.next = C.next ∧ ∀ z, z ≠ p → C'.get z = C.get z := by
  obtain ⟨d53, hd1, hd2⟩ := und53
  obtain ⟨C1, s1, v1, n1, k1⟩ := store_all (tb := tb4) (t := 53) (l := repC e w x) (l' := repC e' w' x') size53 v rfl (by simp [repC]) (repC_one hx)
  exact ⟨C1, s1, v1, load_all (tb := tb4) hd1 hd2 (l := repC e' w' x') size53 v1, n1, k1⟩
theorem two_vars (A : Mem) (o : OpV) : VarO ((A.alloc (rowOb 38 (opC o))).alloc (rowOb 53 repZ)) A.next o ∧ Vals ((A.alloc (rowOb 38 (opC o))).alloc (rowOb 53 repZ)) 53 (A.next + 1) (.var 3) repZ ∧ Kp A ((A.alloc (rowOb 38 (opC o))).alloc (rowOb 53 repZ)) ∧ ((A.alloc (rowOb 38 (opC o))).alloc (rowOb 53 repZ)).next = A.next + 2 :=
  ⟨⟨by show A.next < A.next + 1 + 1; omega, (vals_puts (get_alloc_self _ _)).same (get_alloc_ne (by rw [next_alloc]; omega))⟩, vals_puts (get_alloc_self _ _), (Kp.alloc _ _).trans (Kp.alloc _ _), rfl⟩
def keepD (s : MdlS) (told : Nat) : MdlS × Nat := if s.bad = true then (s, 11) else (⟨s.d, decide (told ≠ 0), s.closed⟩, told)
def repO (e : Nat) : Value := .agg ⟨repC e 0 (.slice none 0 0)⟩
theorem repO_E (A : Mem) (e : Nat) : RepE A ⟨e, 0, []⟩ (repO e) := ⟨_, rfl, HitE.nil A⟩
noncomputable def c41 : Code := Try.f41.body.getD .skip
theorem c41_eq : Try.f41.body = some (.seq (sub c41 [0]) (.seq (.seq (sub c41 [1,0,0]) (sub c41 [1,0,1])) (.seq (sub c41 [1,1,0]) (.seq (sub c41 [1,1,1,0]) (sub c41 [1,1,1,1]))))) := by kernel_rfl
theorem run_keep {A : Mem} {q told : Nat} {s : MdlS} {o : OpV} (h : ModV A q s) :
    ∃ v A', Ans tb4 41 [.pointer (some ⟨q, 0, none⟩), .agg ⟨opC o⟩, .int .i64 (told : Int)] A v A' ∧ v = repO (keepD s told).2 ∧ ModV A' q (keepD s told).1 ∧ Kq q A A' := by
  refine ans_of_W (fn_at Try.func41) c41_eq (by rw [Try.ntmps41]; simp) (by kernel_rfl) (by kernel_rfl) ?_
  obtain ⟨vO, vR, k0, n0⟩ := two_vars A o
  have hqA : q < A.next := by obtain ⟨x, h1, _⟩ := h; exact h1
  have hm := h.kp k0
  apply W.seq
  apply W.run 20
  · intro M
    simp (disch := first | decide +kernel | omega) only [c41, Try.f41, Option.getD_some, sub_seq0, sub_nil, T.puts_cons, Nat.reduceAdd, T.puts_nil, exec_region, runOps_cons, opF_box, ev_tmp, T.get_set, Nat.reduceEqDiff, T.get_e, if_false, if_true, evG_some, at_ptr, putT_some, opF_alloc, z53, next_alloc, runOps_nil, R.ok_bind, cells_agg]
    with_reducible rfl
  show W tb4 _ _ _
  generalize (A.alloc (rowOb 38 (opC o))).alloc (rowOb 53 repZ) = B at vO vR k0 n0 hm
  have lb := hm.bad
  apply W.seq
  apply W.seq
  cases hb : s.bad with
  | true =>
    rw [hb] at lb
    have hr : keepD s told = (s, 11) := by unfold keepD; rw [if_pos hb]
    obtain ⟨C, s1, v1, l1, n1, k1⟩ := rep_store (e' := 11) (w' := 0) (x' := .slice none 0 0) vR rfl
    apply W.run 20
    · intro M
      simp (disch := first | decide +kernel | omega) only [c41, Try.f41, Option.getD_some, sub_seq1, sub_seq0, sub_nil, exec_region, runOps_cons, opF_move, ev_tmp, T.get_set, Nat.reduceEqDiff, T.get_e, if_true, if_false, evG_some, putT_some, opF_nilCheck, opF_fieldAddr, opF_load, runOps_nil, R.ok_bind, nil_ptr, fm1, lb]
      with_reducible rfl
    apply W.run 20
    · intro M
      simp (disch := first | decide +kernel | omega) only [c41, Try.f41, Option.getD_some, sub_seq1, sub_seq0, sub_nil, exec_cond, ev_tmp, T.get_set, Nat.reduceEqDiff, T.get_e, if_false, if_true, evG_some, exec_seq, exec_region, runOps_cons, opF_build, evp, ev_int, R.ok_bind, putT_some, opF_store, putT_none, runOps_nil, bld53, s1, exec_ret, exec_skip]
      with_reducible rfl
    rw [hr]
    refine ⟨.inr rfl, C, [repO 11], rfl, ?_, rfl, ?_, ?_⟩
    · simp only [Try.f41, resF, ev_tmp, T.get_set, T.puts_cons, T.puts_nil, Nat.reduceEqDiff, if_true, if_false, evG_some, R.ok_bind, l1]
      rfl
    · obtain ⟨x, h1, h2, h3⟩ := hm
      obtain ⟨b, h3⟩ := h3
      exact ⟨x, by omega, h2.same (k1 _ (by omega)), b, SlcM.put h3 (Vals.not vR (by decide)) (by omega) (fun z _ hz => k1 z hz)⟩
    · exact ⟨by omega, fun z hz _ => by rw [k1 z (by omega), k0.2 z hz]⟩
  | false =>
    rw [hb] at lb
    have hr : keepD s told = (⟨s.d, decide (told ≠ 0), s.closed⟩, told) := by unfold keepD; rw [if_neg (by rw [hb]; decide)]
    obtain ⟨C, s1, m1, n1, k1⟩ := hm.setBad (decide (told ≠ 0))
    obtain ⟨D, s2, v2, l2, n2, k2⟩ := rep_store (e' := told) (w' := 0) (x' := .slice none 0 0) (vR.same (k1 _ (by omega))) rfl
    have hne : intOpF .neq .i64 (told : Int) ((0 : Nat) : Int) = .ok (.bool (decide (told ≠ 0))) := by
      rw [op_neqI]
      congr 2
      apply decide_eq_decide.2
      omega
    apply W.run 20
    · intro M
      simp (disch := first | decide +kernel | omega) only [c41, Try.f41, Option.getD_some, sub_seq1, sub_seq0, sub_nil, exec_region, runOps_cons, opF_move, ev_tmp, T.get_set, Nat.reduceEqDiff, T.get_e, if_true, if_false, evG_some, putT_some, opF_nilCheck, opF_fieldAddr, opF_load, runOps_nil, R.ok_bind, nil_ptr, fm1, lb]
      with_reducible rfl
    apply W.run 20
    · intro M
      simp (disch := first | decide +kernel | omega) only [c41, Try.f41, Option.getD_some, sub_seq1, sub_seq0, sub_nil, exec_cond, ev_tmp, T.get_set, Nat.reduceEqDiff, T.get_e, if_false, if_true, evG_some, exec_seq, exec_region, runOps_cons, opF_build, evp, ev_int, R.ok_bind, putT_some, opF_store, putT_none, runOps_nil, exec_ret, exec_skip]
      with_reducible rfl
    apply W.seq
    apply W.run 20
    · intro M
      simp (disch := first | decide +kernel | omega) only [c41, Try.f41, Option.getD_some, sub_seq1, sub_seq0, sub_nil, exec_region, runOps_cons, opF_move, ev_tmp, T.get_set, Nat.reduceEqDiff, T.get_e, if_true, if_false, evG_some, putT_some, opF_neq, ev_int, opF_nilCheck, opF_fieldAddr, opF_store, putT_none, runOps_nil, R.ok_bind, binF_int, hne, ne_eq, nil_ptr, fm1, s1]
      with_reducible rfl
    apply W.seq
    apply W.run 20
    · intro M
      simp (disch := first | decide +kernel | omega) only [c41, Try.f41, Option.getD_some, sub_seq1, sub_seq0, sub_nil, exec_region, runOps_cons, opF_move, ev_tmp, T.get_set, Nat.reduceEqDiff, T.get_e, if_false, if_true, evG_some, putT_some, opF_build, evp, R.ok_bind, opF_store, putT_none, runOps_nil, bld53, s2]
      with_reducible rfl
    apply W.run 20
    · intro M
      simp (disch := first | decide +kernel | omega) only [c41, Try.f41, Option.getD_some, sub_seq1, sub_nil, exec_ret]
      with_reducible rfl
    rw [hr]
    refine ⟨.inr rfl, D, [repO told], rfl, ?_, rfl, ?_, ?_⟩
    · simp only [Try.f41, resF, ev_tmp, T.get_set, T.puts_cons, T.puts_nil, Nat.reduceEqDiff, if_true, if_false, evG_some, R.ok_bind, l2]
      rfl
    · obtain ⟨x, h1, h2, h3⟩ := m1
      obtain ⟨b, h3⟩ := h3
      exact ⟨x, by omega, h2.same (k2 _ (by omega)), b, SlcM.put h3 (Vals.not (vR.same (k1 _ (by omega)) : Vals C 53 (A.next + 1) (.var 3) repZ) (by decide)) (by omega) (fun z _ hz => k2 z hz)⟩
    · exact ⟨by omega, fun z hz hne' => by rw [k2 z (by omega), k1 z hne', k0.2 z hz]⟩
end Go.Proofs.Ytnelkapmmgggdaa.mdl

/-
  Model: opened again; read; changed.
-/
namespace Go.Proofs.Ytnelkapmmgggdaa.mdl
open Go.Am Go.Mdl
open Go.Proofs.Ytnelkapmmgggdaa.rnk (HitD hitC ordD lessB sortH ordK lessK hitC_len sortH_len)
set_option linter.unusedSimpArgs false
set_option linter.unusedVariables false
set_option linter.unusedVariables false

theorem ModV.lt {A : Mem} {q : Nat} {s : MdlS} (h : ModV A q s) : q < A.next := by obtain ⟨x, h1, _⟩ := h; exact h1
theorem ModV.v {A : Mem} {q : Nat} {s : MdlS} (h : ModV A q s) : ∃ ls, Vals A 68 q (.var 3) ls := by obtain ⟨x, _, h2, _⟩ := h; exact ⟨_, h2⟩
theorem ModV.rep {A A' : Mem} {q p : Nat} {s : MdlS} {ls : List Value} (h : ModV A q s) (vR : Vals A 53 p (.var 3) ls) (hn : A'.next = A.next) (hk : ∀ z, z ≠ p → A'.get z = A.get z) : ModV A' q s := by
  obtain ⟨x, h1, h2, b, h3⟩ := h
  have hne : q ≠ p := fun e => by
    obtain ⟨c, hc, -⟩ := h2
    rw [e] at hc
    exact Vals.not vR (by decide) _ _ _ hc
  exact ⟨x, by omega, h2.same (hk _ hne), b, SlcM.put h3 (Vals.not vR (by decide)) (by omega) (fun z _ hz => hk z hz)⟩
def reopD (s : MdlS) (told : Nat) : MdlS × Nat := (⟨s.d, if told = 0 then false else s.bad, decide (told ≠ 0)⟩, told)
noncomputable def c43 : Code := Try.f43.body.getD .skip
theorem c43_eq : Try.f43.body = some (.seq (sub c43 [0]) (.seq (.seq (sub c43 [1,0,0]) (.seq (sub c43 [1,0,1,0]) (sub c43 [1,0,1,1]))) (.seq (sub c43 [1,1,0]) (sub c43 [1,1,1])))) := by kernel_rfl
theorem run_reopen {A : Mem} {q told : Nat} {s : MdlS} {o : OpV} (h : ModV A q s) :
    ∃ v A', Ans tb4 43 [.pointer (some ⟨q, 0, none⟩), .agg ⟨opC o⟩, .int .i64 (told : Int)] A v A' ∧ v = repO (reopD s told).2 ∧ ModV A' q (reopD s told).1 ∧ Kq q A A' := by
  refine ans_of_W (fn_at Try.func43) c43_eq (by rw [Try.ntmps43]; simp) (by kernel_rfl) (by kernel_rfl) ?_
  obtain ⟨vO, vR, k0, n0⟩ := two_vars A o
  have hqA := h.lt
  have hm := h.kp k0
  apply W.seq
  apply W.run 20
  · intro M
    simp (disch := first | decide +kernel | omega) only [c43, Try.f43, Option.getD_some, sub_seq0, sub_nil, T.puts_cons, Nat.reduceAdd, T.puts_nil, exec_region, runOps_cons, opF_box, ev_tmp, T.get_set, Nat.reduceEqDiff, T.get_e, if_false, if_true, evG_some, at_ptr, putT_some, opF_alloc, z53, next_alloc, runOps_nil, R.ok_bind, cells_agg]
    with_reducible rfl
  show W tb4 _ _ _
  generalize (A.alloc (rowOb 38 (opC o))).alloc (rowOb 53 repZ) = B at vO vR k0 n0 hm
  obtain ⟨C, s1, m1, n1, k1⟩ := hm.setClosed (decide (told ≠ 0))
  have vR1 : Vals C 53 (A.next + 1) (.var 3) repZ := vR.same (k1 _ (by omega))
  have lc := m1.closed
  apply W.seq
  apply W.seq
  by_cases ht : told = 0
  · subst ht
    have hr : reopD s 0 = (⟨s.d, false, false⟩, 0) := rfl
    have hdf : decide ((0 : Nat) ≠ 0) = false := rfl
    rw [hdf] at s1 lc m1
    obtain ⟨D, s2, m2, n2, k2⟩ := m1.setBad false
    have vR2 : Vals D 53 (A.next + 1) (.var 3) repZ := vR1.same (k2 _ (by omega))
    obtain ⟨E, s3, v3, l3, n3, k3⟩ := rep_store (e' := 0) (w' := 0) (x' := .slice none 0 0) vR2 rfl
    apply W.run 20
    · intro M
      simp (disch := first | decide +kernel | omega) only [c43, Try.f43, Option.getD_some, sub_seq1, sub_seq0, sub_nil, exec_region, runOps_cons, opF_move, ev_tmp, T.get_set, Nat.reduceEqDiff, T.get_e, if_true, if_false, evG_some, putT_some, opF_neq, ev_int, opF_nilCheck, opF_fieldAddr, opF_store, putT_none, runOps_nil, R.ok_bind, binF_int, op_neq, ne_eq, not_true_eq_false, decide_false, nil_ptr, fm2, s1]
      with_reducible rfl
    apply W.seq
    apply W.run 20
    · intro M
      simp (disch := first | decide +kernel | omega) only [c43, Try.f43, Option.getD_some, sub_seq1, sub_seq0, sub_nil, exec_region, runOps_cons, opF_move, ev_tmp, T.get_set, Nat.reduceEqDiff, T.get_e, if_true, if_false, evG_some, putT_some, opF_nilCheck, opF_fieldAddr, opF_load, opF_un, runOps_nil, R.ok_bind, nil_ptr, fm2, lc, un_not, Bool.not_false]
      with_reducible rfl
    apply W.run 20
    · intro M
      simp (disch := first | decide +kernel | omega) only [c43, Try.f43, Option.getD_some, sub_seq1, sub_seq0, sub_nil, exec_cond, ev_tmp, T.get_set, Nat.reduceEqDiff, T.get_e, if_false, if_true, evG_some, exec_region, runOps_cons, opF_move, putT_some, opF_nilCheck, opF_fieldAddr, opF_store, ev_bool, putT_none, runOps_nil, R.ok_bind, nil_ptr, fm1, s2, exec_skip]
      with_reducible rfl
    apply W.seq
    apply W.run 20
    · intro M
      simp (disch := first | decide +kernel | omega) only [c43, Try.f43, Option.getD_some, sub_seq1, sub_seq0, sub_nil, exec_region, runOps_cons, opF_move, ev_tmp, T.get_set, Nat.reduceEqDiff, T.get_e, if_false, if_true, evG_some, putT_some, opF_build, evp, R.ok_bind, opF_store, putT_none, runOps_nil, bld53, s3]
      with_reducible rfl
    apply W.run 20
    · intro M
      simp (disch := first | decide +kernel | omega) only [c43, Try.f43, Option.getD_some, sub_seq1, sub_nil, exec_ret]
      with_reducible rfl
    rw [hr]
    refine ⟨.inr rfl, E, [repO 0], rfl, ?_, rfl, m2.rep vR2 n3 k3, ⟨by omega, fun z hz hne => by rw [k3 z (by omega), k2 z hne, k1 z hne, k0.2 z hz]⟩⟩
    simp only [Try.f43, resF, ev_tmp, T.get_set, T.puts_cons, T.puts_nil, Nat.reduceEqDiff, if_true, if_false, evG_some, R.ok_bind, l3]
    rfl
  · have hdf : decide (told ≠ 0) = true := decide_eq_true ht
    have hr : reopD s told = (⟨s.d, s.bad, true⟩, told) := by unfold reopD; rw [if_neg ht, hdf]
    rw [hdf] at s1 lc m1
    obtain ⟨E, s3, v3, l3, n3, k3⟩ := rep_store (e' := told) (w' := 0) (x' := .slice none 0 0) vR1 rfl
    apply W.run 20
    · intro M
      simp (disch := first | decide +kernel | omega) only [c43, Try.f43, Option.getD_some, sub_seq1, sub_seq0, sub_nil, exec_region, runOps_cons, opF_move, ev_tmp, T.get_set, Nat.reduceEqDiff, T.get_e, if_true, if_false, evG_some, putT_some, opF_neq, ev_int, opF_nilCheck, opF_fieldAddr, opF_store, putT_none, runOps_nil, R.ok_bind, binF_int, op_neq, ne_eq, ht, not_false_eq_true, decide_true, nil_ptr, fm2, s1]
      with_reducible rfl
    apply W.seq
    apply W.run 20
    · intro M
      simp (disch := first | decide +kernel | omega) only [c43, Try.f43, Option.getD_some, sub_seq1, sub_seq0, sub_nil, exec_region, runOps_cons, opF_move, ev_tmp, T.get_set, Nat.reduceEqDiff, T.get_e, if_true, if_false, evG_some, putT_some, opF_nilCheck, opF_fieldAddr, opF_load, opF_un, runOps_nil, R.ok_bind, nil_ptr, fm2, lc, un_not, Bool.not_true]
      with_reducible rfl
    apply W.run 20
    · intro M
      simp (disch := first | decide +kernel | omega) only [c43, Try.f43, Option.getD_some, sub_seq1, sub_seq0, sub_nil, exec_cond, ev_tmp, T.get_set, Nat.reduceEqDiff, T.get_e, if_false, if_true, evG_some, exec_region, runOps_cons, opF_move, putT_some, R.ok_bind, exec_skip]
      with_reducible rfl
    apply W.seq
    apply W.run 20
    · intro M
      simp (disch := first | decide +kernel | omega) only [c43, Try.f43, Option.getD_some, sub_seq1, sub_seq0, sub_nil, exec_region, runOps_cons, opF_move, ev_tmp, T.get_set, Nat.reduceEqDiff, T.get_e, if_false, if_true, evG_some, putT_some, opF_build, evp, R.ok_bind, opF_store, putT_none, runOps_nil, bld53, s3]
      with_reducible rfl
    apply W.run 20
    · intro M
      simp (disch := first | decide +kernel | omega) only [c43, Try.f43, Option.getD_some, sub_seq1, sub_nil, exec_ret]
      with_reducible rfl
    rw [hr]
    refine ⟨.inr rfl, E, [repO told], rfl, ?_, rfl, m1.rep vR1 n3 k3, ⟨by omega, fun z hz hne => by rw [k3 z (by omega), k1 z hne, k0.2 z hz]⟩⟩
    simp only [Try.f43, resF, ev_tmp, T.get_set, T.puts_cons, T.puts_nil, Nat.reduceEqDiff, if_true, if_false, evG_some, R.ok_bind, l3]
    rfl
def OkM (d : List EntD) : Prop := Asc d ∧ d.length < 50000 ∧ ∀ e ∈ d, e.word.length ≤ 900000
noncomputable def c42 : Code := Try.f42.body.getD .skip
theorem c42_eq : Try.f42.body = some (.seq (sub c42 [0]) (.seq (sub c42 [1,0]) (sub c42 [1,1]))) := by kernel_rfl
theorem run_read {A : Mem} {q told : Nat} {s : MdlS} {o : OpV} (h : ModV A q s) (hd : OkM s.d) :
    ∃ v A', Ans tb4 42 [.pointer (some ⟨q, 0, none⟩), .agg ⟨opC o⟩, .int .i64 (told : Int)] A v A' ∧ RepE A' (ansD s.d o) v ∧ ModV A' q s ∧ Kq q A A' := by
  refine ans_of_W (fn_at Try.func42) c42_eq (by rw [Try.ntmps42]; simp) (by kernel_rfl) (by kernel_rfl) ?_
  obtain ⟨vO, vR, k0, n0⟩ := two_vars A o
  have hqA := h.lt
  have hm := h.kp k0
  apply W.seq
  apply W.run 20
  · intro M
    simp (disch := first | decide +kernel | omega) only [c42, Try.f42, Option.getD_some, sub_seq0, sub_nil, T.puts_cons, Nat.reduceAdd, T.puts_nil, exec_region, runOps_cons, opF_box, ev_tmp, T.get_set, Nat.reduceEqDiff, T.get_e, if_false, if_true, evG_some, at_ptr, putT_some, opF_alloc, z53, next_alloc, runOps_nil, R.ok_bind, cells_agg]
    with_reducible rfl
  show W tb4 _ _ _
  generalize (A.alloc (rowOb 38 (opC o))).alloc (rowOb 53 repZ) = B at vO vR k0 n0 hm
  obtain ⟨x, lx, hx⟩ := hm.d
  have lo := vO.all
  obtain ⟨v, C, ⟨g, hg⟩, ⟨y, rfl, hy⟩, kC⟩ := run_answer (o := o) hx hd.1 (by have := hd.2.1; omega) hd.2.2
  have vR1 : Vals C 53 (A.next + 1) (.var 3) repZ := vR.same (kC.2 _ (by omega))
  obtain ⟨D, s3, v3, l3, n3, k3⟩ := rep_store (e' := (ansD s.d o).err) (w' := (ansD s.d o).weight) (x' := y) vR1 hy.cells.2.1
  have hkn := kC.1
  apply W.seq
  apply W.runG (g) 20
  · intro M hM
    simp (disch := first | decide +kernel | omega) only [c42, Try.f42, Option.getD_some, sub_seq1, sub_seq0, sub_nil, exec_draw, runOps_cons, opF_move, ev_tmp, T.get_set, Nat.reduceEqDiff, T.get_e, if_true, if_false, evG_some, putT_some, opF_nilCheck, opF_fieldAddr, opF_load, opF_call, evs, R.ok_bind, resK, opF_store, putT_none, runOps_nil, lo, nil_ptr, fm0, lx, hg, s3]
    with_reducible rfl
  apply W.run 20
  · intro M
    simp (disch := first | decide +kernel | omega) only [c42, Try.f42, Option.getD_some, sub_seq1, sub_nil, exec_ret]
    with_reducible rfl
  refine ⟨.inr rfl, D, [.agg ⟨repC (ansD s.d o).err (ansD s.d o).weight y⟩], rfl, ?_, ⟨y, rfl, HitE.put hy (q := A.next + 1) (Vals.not vR1 (by decide)) (by omega) (fun z _ hne => k3 z hne)⟩, (hm.kp kC).rep vR1 n3 k3, ⟨by omega, fun z hz hne => by rw [k3 z (by omega), kC.2 z (by omega), k0.2 z hz]⟩⟩
  simp only [Try.f42, resF, ev_tmp, T.get_set, T.puts_cons, T.puts_nil, Nat.reduceEqDiff, if_true, if_false, evG_some, R.ok_bind, l3]
end Go.Proofs.Ytnelkapmmgggdaa.mdl

