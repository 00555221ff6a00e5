/-
  What the functions of this group compute on the abstract machine, and the plain laws of it. Part B: conditions stand in each theorem.
-/
import Derived.Test.YtgkolgfkcelljaaPckA

/-
  Pick: Rows.
-/
namespace Go.Proofs.Ytgkolgfkcelljaa.pck
open Go.Am Go.Pick
set_option linter.unusedSimpArgs false
set_option linter.unusedVariables false
set_option linter.unusedVariables false
set_option maxRecDepth 20000

def pairs (rs : List Row) : List (List Value) := rs.map fun r => [.int .i64 (r.a : Int), .int .i64 (r.b : Int)]
theorem pairs_len (rs : List Row) : (pairs rs).length = rs.length := by simp [pairs]
theorem zero26 : zeroF tb1 26 = .ok (.slice none 0 0) := by kernel_rfl
theorem bf28 (a b : Int) : buildF tb1 28 [(0, .int .i64 a), (1, .int .i64 b)] = .ok (.agg ⟨[.int .i64 a, .int .i64 b]⟩) := by kernel_rfl
theorem bs26 (a b : Int) : buildSliceF tb1 26 1 [(0, .agg ⟨[.int .i64 a, .int .i64 b]⟩)] = .ok (rowOb 28 [.int .i64 a, .int .i64 b], .slc 1 2) := by kernel_rfl
theorem zc28 : ∃ z, zcellsF tb1 28 = .ok (2, z) := ⟨[.int .i64 0, .int .i64 0], by kernel_rfl⟩
theorem ty28 : ∃ i, tb1.ty.get 28 = some i ∧ 0 < i.bytes ∧ i.bytes ≤ 65536 := by
  have h : ((tb1.ty.get 28).map fun i => decide (0 < i.bytes) && decide (i.bytes ≤ 65536)) = some true := by kernel_rfl
  cases hq : tb1.ty.get 28 with
  | none => rw [hq] at h; cases h
  | some i =>
    rw [hq] at h
    simp only [Option.map_some, Option.some.injEq, Bool.and_eq_true, decide_eq_true_eq] at h
    exact ⟨i, rfl, h⟩
theorem SlcM.cells {A : Mem} {e : TypeId} {n b : Nat} {ls : List (List Value)} {x : Value} (h : SlcM A e n b ls x) : x.cells.toList = [x] ∧ oneCell x = true ∧ sameV 100 x x = true := by
  rcases h with ⟨rfl, -⟩ | ⟨k, c, rfl, -⟩
  · exact ⟨rfl, rfl, rfl⟩
  · exact ⟨rfl, rfl, sameV_slc _ _ _ _⟩
noncomputable def c8 : Code := Try.f8.body.getD .skip
theorem c8_eq : Try.f8.body = some (.seq (sub c8 [0]) (.seq (.seq (sub c8 [1,0,0]) (sub c8 [1,0,1])) (.seq (.seq (sub c8 [1,1,0,0]) (sub c8 [1,1,0,1])) (.seq (sub c8 [1,1,1,0]) (sub c8 [1,1,1,1]))))) := by kernel_rfl
theorem c8r_eq : sub c8 [1,1,0,1] = .block 0 (.rangeFunc (.tmp 10) #[11] (sub c8 [1,1,0,1,0,0]) (sub c8 [1,1,0,1,0,1])) := by kernel_rfl
noncomputable def rowsLp (t0 : T Value) (d : Nat) : ALoop := loop0 t0 21 [11] (sub c8 [1,1,0,1,0,0]) (sub c8 [1,1,0,1,0,1]) d
structure RowsI (B0 : Mem) (xb : Nat) (t0 : T Value) (rs : List Row) (i b : Nat) (C : Mem) : Prop where
  hd : C.get B0.next = some .defd
  hl : C.get (B0.next + 1) = some (.loop (rowsLp t0 B0.next))
  hn : B0.next + 2 ≤ C.next
  n1 : b = xb ∨ B0.next + 2 ≤ b
  lt : b < C.next
  hx : ∃ x, SlcM C 28 2 b (pairs (rs.take i)) x ∧ Vals C 26 xb (.var 1) [x] ∧ (b = xb → x = .slice none 0 0)
set_option maxHeartbeats 8000000 in
theorem cons_rows {xb : Nat} {B0 : Mem} {t0 : T Value} {rs : List Row} (hl : rs.length ≤ 1000) (hxb : xb < B0.next) (h4 : t0.get 4 = some (.pointer (some ⟨xb, 0, none⟩))) :
    Cons (fun y => y = xb) (B0.next + 2) (B0.next + 1) (RowsI B0 xb t0 rs) rs where
  lt i b C h := h.lt
  ext i b C C' h hn hg := by
    have hnn := h.hn
    obtain ⟨x, h1, h2, h3⟩ := h.hx
    exact {
      hd := by rw [hg _ (.inl (by omega))]; exact h.hd
      hl := by rw [hg _ (.inl (by omega))]; exact h.hl
      hn := by omega
      n1 := h.n1
      lt := Nat.lt_of_lt_of_le h.lt hn
      hx := ⟨x, h1.same hn (fun _ => hg _ (.inr rfl)), h2.same (hg _ (.inl (by omega))), h3⟩ }
  step i r b C hr h := by
    have hCn := h.hn
    have hn1 := h.n1
    have hblt := h.lt
    have hi : i < rs.length := (List.getElem?_eq_some_iff.1 hr).1
    have he : rs[i] = r := (List.getElem?_eq_some_iff.1 hr).2
    obtain ⟨x, hs, hv, hnil⟩ := h.hx
    obtain ⟨C', hcall, b', hI, hn', hb', hfr⟩ : ∃ C', (∃ g, ∀ M, g ≤ M → callF tb1 (exec tb1 M) (.round (B0.next + 1) [rowV r]) C = .ok (.val (.bool true) C')) ∧ ∃ b', RowsI B0 xb t0 rs (i + 1) b' C' ∧ C.next ≤ C'.next ∧ (b' = b ∨ C.next ≤ b') ∧ ∀ y, y < C.next → ¬ y = xb → y ≠ b → C'.get y = C.get y := by
      refine round_of_W h.hl (t := t0.set 11 (rowV r)) rfl ?_
      show W tb1 (sub c8 [1,1,0,1,0,0]) ⟨t0.set 11 (rowV r), 21, [], C, some (B0.next + 1)⟩ _
      have hE1 : Ext C (C.alloc (rowOb 44 [.int .i64 0, .int .i64 0, .int .i64 0])) := Ext.alloc C _
      have hv0 : Vals (C.alloc (rowOb 44 [.int .i64 0, .int .i64 0, .int .i64 0])) 44 C.next (.var 3) [.int .i64 0, .int .i64 0, .int .i64 0] := Go.Am.vals_new C 44 _
      obtain ⟨D, hst, hvD, hnD, hfD⟩ := store_all (tb := tb1) (t := 44) (l' := rowC r) (by rw [size44]; rfl) hv0 rfl (by simp) (rowC_one r)
      have hCD : Ext C D := hE1.put (b := C.next) (Nat.le_refl _) hnD hfD
      have hnD1 : D.next = C.next + 1 := by rw [hnD, next_alloc]
      have hst' : storeF tb1 (C.alloc (rowOb 44 [.int .i64 0, .int .i64 0, .int .i64 0])) 44 (.pointer (some ⟨C.next, 0, none⟩)) (rowV r) = .ok D := hst
      apply W.run 20
      · intro M
        simp (config := { maxSteps := 4000000 }) (disch := first | decide +kernel | (rw [wantF_guard]; simp only [wantD_some, dstAt_zero, dstAt_succ, T.get_set, T.get_e, Nat.reduceEqDiff, if_true, if_false, wantV_bool, wantV_unit, unitV, cond_true, cond_false, Bool.not_true, Bool.not_false, List.toList_toArray]) | omega) only [c8, Try.f8, Option.getD_some, sub_seq1, sub_seq0, sub_block, sub_range0, sub_nil, exec_region, runOps_cons, opF_alloc, zero44, at_ptr, putT_some, opF_store, ev_tmp, T.get_set, Nat.reduceEqDiff, if_false, if_true, evG_some, putT_none, runOps_nil, R.ok_bind, cells_agg, hst']
        with_reducible rfl
      refine ⟨rfl, _, by show D.get _ = _; rw [hCD.g _ (by omega)]; exact h.hl, rfl, ?_⟩
      show W tb1 (sub c8 [1,1,0,1,0,1]) ⟨_, 21, [], D.set (B0.next + 1) (.loop { (rowsLp t0 B0.next) with state := .busy }), some (B0.next + 1)⟩ _
      have hn0 : (D.set (B0.next + 1) (.loop { (rowsLp t0 B0.next) with state := .busy })).next = D.next := next_set _ _ _
      have hg0 : ∀ y, y ≠ B0.next + 1 → (D.set (B0.next + 1) (.loop { (rowsLp t0 B0.next) with state := .busy })).get y = D.get y := fun y hy => by rw [get_setMem, if_neg hy]
      have hl0 : (D.set (B0.next + 1) (.loop { (rowsLp t0 B0.next) with state := .busy })).get (B0.next + 1) = some (.loop { (rowsLp t0 B0.next) with state := .busy }) := by rw [get_setMem, if_pos rfl]
      revert hn0 hg0 hl0
      generalize D.set (B0.next + 1) (.loop { (rowsLp t0 B0.next) with state := .busy }) = E
      intro hn0 hg0 hl0
      have hvE : Vals E 44 C.next (.var 3) (rowC r) := hvD.same (hg0 _ (by omega))
      have l0 : loadF tb1 E.get 3 (.pointer (some ⟨C.next, 0, none⟩)) = .ok (.int .i64 (r.a : Int)) := load_vals und3 rfl hvE rfl
      have l1 : loadF tb1 E.get 3 (.pointer (some ⟨C.next, 1, none⟩)) = .ok (.int .i64 (r.b : Int)) := load_vals und3 rfl hvE rfl
      have hvx : Vals E 26 xb (.var 1) [x] := hv.same (by rw [hg0 _ (by omega), hCD.g _ (by omega)])
      have lx : loadF tb1 E.get 26 (.pointer (some ⟨xb, 0, none⟩)) = .ok x := load_vals und26 rfl hvx rfl
      have hsE : SlcM E 28 2 b (pairs (rs.take i)) x := hs.same (by omega) (fun _ => by rw [hg0 _ (by omega), hCD.g _ (by omega)])
      have hE2 := Ext.alloc E (rowOb 28 [.int .i64 (r.a : Int), .int .i64 (r.b : Int)])
      have hn2 : (E.alloc (rowOb 28 [.int .i64 (r.a : Int), .int .i64 (r.b : Int)])).next = E.next + 1 := next_alloc _ _
      obtain ⟨ti, ht1, ht2, ht3⟩ := ty28
      obtain ⟨z, hz⟩ := zc28
      have hlt : (pairs (rs.take i)).length ≤ 1000 := by rw [pairs_len, List.length_take]; omega
      obtain ⟨x', F, happ, hs3, hn3, hf3⟩ := (hsE.same hE2.n (fun hl => hE2.g b hl)).append (tb := tb1) (st := 26) (xt := 26) und26 und26 hz ht1 ht2 ht3 (by omega) (by omega) (by omega) (get_alloc_self E _) rfl (fun v hv => by
        simp only [List.mem_cons, List.not_mem_nil, or_false] at hv
        rcases hv with rfl | rfl <;> rfl)
      have hxF : Vals F 26 xb (.var 1) [x] := hvx.same (by rw [hf3 xb (fun e => hnil e.symm) (by omega), hE2.g _ (by omega)])
      obtain ⟨G, hst2, hvG, hnG, hfG⟩ := store_vals (tb := tb1) (t := 26) (o := 0) (v := x') size26 hxF (by simp) (SlcM.cells hs3).1 (SlcM.cells hs3).2.1
      have hlG : G.get (B0.next + 1) = some (.loop { (rowsLp t0 B0.next) with state := .busy }) := by
        rw [hfG _ (by omega), hf3 _ (fun e => by omega) (by omega), hE2.g _ (by omega)]; exact hl0
      apply W.run 20
      · intro M
        simp (config := { maxSteps := 4000000 }) (disch := first | decide +kernel | (rw [wantF_guard]; simp only [wantD_some, dstAt_zero, dstAt_succ, T.get_set, T.get_e, Nat.reduceEqDiff, if_true, if_false, wantV_bool, wantV_unit, unitV, cond_true, cond_false, Bool.not_true, Bool.not_false, List.toList_toArray]) | omega) only [c8, Try.f8, Option.getD_some, sub_seq1, sub_seq0, sub_block, sub_range1, sub_nil, exec_block, exec_region, runOps_cons, opF_load, ev_tmp, T.get_set, Nat.reduceEqDiff, h4, if_false, evG_some, putT_some, opF_fieldAddr, if_true, opF_build, evp, R.ok_bind, opF_buildSlice, opF_builtin, evs, opF_store, putT_none, runOps_nil, builtin_append, fa44_1, l1, fa44_0, l0, bf28, bs26, at_slc, lx, happ, hst2]
        with_reducible rfl
      have hset : ∀ y, y ≠ B0.next + 1 → (G.set (B0.next + 1) (.loop (rowsLp t0 B0.next))).get y = G.get y := fun y hy => by rw [get_setMem, if_neg hy]
      have hsn : (G.set (B0.next + 1) (.loop (rowsLp t0 B0.next))).next = G.next := next_set _ _ _
      have old : ∀ y, y < C.next → y ≠ B0.next + 1 → ¬ y = xb → y ≠ b → (G.set (B0.next + 1) (.loop (rowsLp t0 B0.next))).get y = C.get y := fun y hy hyl hys hyb => by
        rw [hset _ hyl, hfG _ hys, hf3 _ (fun e => absurd e hyb) (by omega), hE2.g _ (by omega), hg0 y hyl, hCD.g y hy]
      have hpr : pairs (rs.take (i + 1)) = pairs (rs.take i) ++ [[.int .i64 (r.a : Int), .int .i64 (r.b : Int)]] := by
        rw [List.take_succ_eq_append_getElem hi, he]; simp [pairs]
      refine ⟨rfl, rfl, _, hlG, (E.alloc (rowOb 28 [.int .i64 (r.a : Int), .int .i64 (r.b : Int)])).next, ?_⟩
      show RowsI B0 xb t0 rs (i + 1) _ (G.set (B0.next + 1) (.loop (rowsLp t0 B0.next))) ∧ C.next ≤ (G.set (B0.next + 1) (.loop (rowsLp t0 B0.next))).next ∧ _ ∧ ∀ y, y < C.next → ¬ y = xb → y ≠ b → (G.set (B0.next + 1) (.loop (rowsLp t0 B0.next))).get y = C.get y
      refine ⟨{
        hd := by rw [old _ (by omega) (by omega) (by omega) (by omega)]; exact h.hd
        hl := by rw [get_setMem, if_pos rfl]
        hn := by omega
        n1 := by omega
        lt := by omega
        hx := ⟨x', by rw [hpr]; exact hs3.same (by omega) (fun _ => by rw [hset _ (by omega), hfG _ (by omega)]), hvG.same (hset _ (by omega)), fun e => by omega⟩ }, by omega, by omega, fun y hy hys hyb => ?_⟩
      by_cases hyl : y = B0.next + 1
      · subst hyl
        rw [get_setMem, if_pos rfl]; exact h.hl.symm
      · exact old y hy hyl hys hyb
    exact ⟨b', C', hcall, hI, hn', hb', hfr⟩
theorem rowsL_len (f : Nat) : ∀ (k a : Nat) (l : List Nat), (rowsL f k a l).length ≤ k
  | 0, a, l => Nat.le_refl _
  | k + 1, a, [] => Nat.zero_le _
  | k + 1, a, n :: l => by
    rw [rowsL_step, List.length_cons]
    exact Nat.succ_le_succ (rowsL_len f k _ _)
set_option maxHeartbeats 8000000 in
theorem run_rows {A : Mem} {f bo : Nat} {l : List Nat} {x : Value} (h2 : 2 ≤ f) (hf40 : f < 1000) (hl : l.length ≤ 1000) (hb : ∀ n ∈ l, n < 4611686018427387904) (hx : Slc A 3 bo (ints l) x) (hbo : bo < A.next) :
    ∃ y A' b, Ans tb1 8 [.int .i64 (f : Int), x] A y A' ∧ SlcM A' 28 2 b (pairs (rows f l)) y ∧ Ext A A' := by
  obtain ⟨v, A', ha, b, hS, hE⟩ : ∃ v A', Ans tb1 8 [.int .i64 (f : Int), x] A v A' ∧ ∃ b, SlcM A' 28 2 b (pairs (rows f l)) v ∧ Ext A A' := by
    refine ans_of_W (fn_at Try.func8) c8_eq (by rw [Try.ntmps8]; simp) (by kernel_rfl) (by kernel_rfl) ?_
    have nf : ¬ f < 2 := by omega
    have hxc : x.cells.toList = [x] := hx.cells
    have n1 : (A.alloc (rowOb 26 [.slice none 0 0])).next = A.next + 1 := next_alloc _ _
    have v1 : Vals (A.alloc (rowOb 26 [.slice none 0 0])) 26 A.next (.var 1) [.slice none 0 0] := Go.Am.vals_new A 26 _
    have E1 := Ext.alloc A (rowOb 26 [.slice none 0 0])
    apply W.seq
    apply W.run 20
    · intro M
      simp (config := { maxSteps := 4000000 }) (disch := first | decide +kernel | (rw [wantF_guard]; simp only [wantD_some, dstAt_zero, dstAt_succ, T.get_set, T.get_e, Nat.reduceEqDiff, if_true, if_false, wantV_bool, wantV_unit, unitV, cond_true, cond_false, Bool.not_true, Bool.not_false, List.toList_toArray]) | omega) only [c8, Try.f8, Option.getD_some, sub_seq0, sub_nil, T.puts_cons, Nat.reduceAdd, T.puts_nil, exec_region, runOps_cons, opF_alloc, zero26, at_ptr, putT_some, runOps_nil, R.ok_bind, cells_slc]
      with_reducible rfl
    revert n1 v1 E1
    generalize A.alloc (rowOb 26 [.slice none 0 0]) = A1
    intro n1 v1 E1
    apply W.seq
    apply W.seq
    apply W.run 20
    · intro M
      simp (config := { maxSteps := 4000000 }) (disch := first | decide +kernel | (rw [wantF_guard]; simp only [wantD_some, dstAt_zero, dstAt_succ, T.get_set, T.get_e, Nat.reduceEqDiff, if_true, if_false, wantV_bool, wantV_unit, unitV, cond_true, cond_false, Bool.not_true, Bool.not_false, List.toList_toArray]) | omega) only [c8, Try.f8, Option.getD_some, sub_seq1, sub_seq0, sub_nil, exec_region, runOps_cons, opF_move, ev_tmp, T.get_set, Nat.reduceEqDiff, T.get_e, if_true, if_false, evG_some, putT_some, opF_ari, ev_int, runOps_nil, R.ok_bind, binF_int, op_lssI, cast_lt, nf, decide_false]
      with_reducible rfl
    apply W.run 20
    · intro M
      simp (config := { maxSteps := 4000000 }) (disch := first | decide +kernel | (rw [wantF_guard]; simp only [wantD_some, dstAt_zero, dstAt_succ, T.get_set, T.get_e, Nat.reduceEqDiff, if_true, if_false, wantV_bool, wantV_unit, unitV, cond_true, cond_false, Bool.not_true, Bool.not_false, List.toList_toArray]) | omega) only [c8, Try.f8, Option.getD_some, sub_seq1, sub_seq0, sub_nil, exec_cond, ev_tmp, T.get_set, Nat.reduceEqDiff, T.get_e, if_false, if_true, evG_some, exec_seq, exec_region, runOps_cons, opF_store, ev_nilslice, putT_none, runOps_nil, R.ok_bind, exec_ret, exec_skip]
      with_reducible rfl
    show W tb1 _ _ _
    obtain ⟨gr, hgr⟩ := run_rowsF (A := A1) (f := f) hxc
    have n2 : (A1.alloc (rowOb 3 [.int .i64 (f : Int)])).next = A1.next + 1 := next_alloc _ _
    have n3 : ((A1.alloc (rowOb 3 [.int .i64 (f : Int)])).alloc (rowOb 24 [x])).next = A1.next + 2 := by rw [next_alloc, n2]
    have v2 : Vals ((A1.alloc (rowOb 3 [.int .i64 (f : Int)])).alloc (rowOb 24 [x])) 3 A1.next (.var 1) [.int .i64 (f : Int)] := (Go.Am.vals_new A1 3 _).same (get_alloc_ne (by omega))
    have v3 : Vals ((A1.alloc (rowOb 3 [.int .i64 (f : Int)])).alloc (rowOb 24 [x])) 24 (A1.next + 1) (.var 1) [x] := by
      have := Go.Am.vals_new (A1.alloc (rowOb 3 [.int .i64 (f : Int)])) 24 [x]
      rw [n2] at this; exact this
    have E2 : Ext A1 ((A1.alloc (rowOb 3 [.int .i64 (f : Int)])).alloc (rowOb 24 [x])) := (Ext.alloc _ _).trans (Ext.alloc _ _)
    apply W.seq
    apply W.seq
    apply W.runG (gr) 20
    · intro M hM
      simp (config := { maxSteps := 4000000 }) (disch := first | decide +kernel | (rw [wantF_guard]; simp only [wantD_some, dstAt_zero, dstAt_succ, T.get_set, T.get_e, Nat.reduceEqDiff, if_true, if_false, wantV_bool, wantV_unit, unitV, cond_true, cond_false, Bool.not_true, Bool.not_false, List.toList_toArray]) | omega) only [c8, Try.f8, Option.getD_some, sub_seq1, sub_seq0, sub_nil, exec_region, runOps_cons, opF_move, ev_tmp, T.get_set, Nat.reduceEqDiff, T.get_e, if_true, if_false, evG_some, putT_some, opF_call, evs, R.ok_bind, resK, runOps_nil, hgr]
      with_reducible rfl
    revert n3 v2 v3 E2
    generalize (A1.alloc (rowOb 3 [.int .i64 (f : Int)])).alloc (rowOb 24 [x]) = B0
    intro n3 v2 v3 E2
    show W tb1 _ _ _
    rw [c8r_eq]
    apply W.block
    generalize htt : (T.set _ 10 _ : T Value) = tt
    have t4 : tt.get 4 = some (.pointer (some ⟨A.next, 0, none⟩)) := by rw [← htt]; simp only [T.get_set, Nat.reduceEqDiff, if_true, if_false]
    have t10 : tt.get 10 = some (.func (.func 19) ⟨[]⟩ ⟨[.pointer (some ⟨A1.next + 1, 0, none⟩), .pointer (some ⟨A1.next, 0, none⟩)]⟩) := by rw [← htt]; simp only [T.get_set, if_true]
    have hL1 : (B0.alloc .defd).next = B0.next + 1 := next_alloc _ _
    have hL2 : ((B0.alloc .defd).alloc (.loop (rowsLp tt B0.next))).next = B0.next + 2 := by rw [next_alloc, hL1]
    have hEL : Ext B0 ((B0.alloc .defd).alloc (.loop (rowsLp tt B0.next))) := (Ext.alloc B0 _).trans (Ext.alloc _ _)
    have hE3 := (E1.trans E2).trans hEL
    have hrl : (rows f l).length ≤ 1000 := Nat.le_trans (rowsL_len f _ _ _) hl
    have hcons := cons_rows (B0 := B0) (t0 := tt) (xb := A.next) hrl (by omega) t4
    have hI0 : RowsI B0 A.next tt (rows f l) 0 A.next ((B0.alloc .defd).alloc (.loop (rowsLp tt B0.next))) := {
      hd := by rw [get_alloc_ne (by omega), get_alloc_self]
      hl := by rw [← hL1, get_alloc_self]
      hn := by omega
      n1 := .inl rfl
      lt := by omega
      hx := ⟨.slice none 0 0, .inl ⟨rfl, rfl⟩, (v1.same (E2.g _ (by omega))).same (hEL.g _ (by omega)), fun _ => rfl⟩ }
    obtain ⟨v, C, hcl, b', hIC, hnC, hbC, hfC⟩ := run_rows1 (eb := A1.next + 1) (fb := A1.next) (bo := bo) h2 hf40 hl hb (by omega) hcons hI0 (hx.same hE3.n (fun h => hE3.g _ h)) (v3.same (hEL.g _ (by omega))) (v2.same (hEL.g _ (by omega))) ⟨by omega, by omega, by omega⟩ ⟨by omega, by omega, by omega⟩ ⟨by omega, by omega, by omega⟩ (fun y hy => by omega)
    have hfv : ev tt (.tmp 10) = .ok (.func (.func 19) ⟨[]⟩ ⟨[.pointer (some ⟨A1.next + 1, 0, none⟩), .pointer (some ⟨A1.next, 0, none⟩)]⟩) := by rw [ev_tmp, t10]; rfl
    refine W.rangeF hfv hcl hIC.hl (by intro h; cases h) rfl ?_
    show W tb1 _ _ _
    have hCn := hIC.hn
    have hCb := hIC.n1
    have hClt := hIC.lt
    have chd := hIC.hd
    obtain ⟨y, hy1, hy2, hy3⟩ := hIC.hx
    rw [List.take_length] at hy1
    show W tb1 _ ⟨_, _, _, C.set (B0.next + 1) (.loop { (rowsLp tt B0.next) with state := .exhausted }), _⟩ _
    have hg : ∀ z, z ≠ B0.next + 1 → (C.set (B0.next + 1) (.loop { (rowsLp tt B0.next) with state := .exhausted })).get z = C.get z := fun z hz => by rw [get_setMem, if_neg hz]
    have hgn : (C.set (B0.next + 1) (.loop { (rowsLp tt B0.next) with state := .exhausted })).next = C.next := next_set _ _ _
    revert hg hgn
    generalize C.set (B0.next + 1) (.loop { (rowsLp tt B0.next) with state := .exhausted }) = D
    intro hg hgn
    have dx : Vals D 26 A.next (.var 1) [y] := hy2.same (hg _ (by omega))
    have dd : D.get B0.next = some .defd := by rw [hg _ (by omega)]; exact chd
    have ly : loadF tb1 D.get 26 (.pointer (some ⟨A.next, 0, none⟩)) = .ok y := load_vals und26 rfl dx rfl
    obtain ⟨H, s2, w2, m2, q2⟩ := store_vals (tb := tb1) (t := 26) (o := 0) (v := y) size26 dx (by simp) (SlcM.cells hy1).1 (SlcM.cells hy1).2.1
    apply W.seq
    apply W.run 20
    · intro M
      simp (config := { maxSteps := 4000000 }) (disch := first | decide +kernel | (rw [wantF_guard]; simp only [wantD_some, dstAt_zero, dstAt_succ, T.get_set, T.get_e, Nat.reduceEqDiff, if_true, if_false, wantV_bool, wantV_unit, unitV, cond_true, cond_false, Bool.not_true, Bool.not_false, List.toList_toArray]) | omega) only [c8, Try.f8, Option.getD_some, sub_seq1, sub_seq0, sub_nil, exec_region, runOps_cons, opF_load, ev_tmp, t4, evG_some, putT_some, opF_store, T.get_set, Nat.reduceEqDiff, if_false, if_true, putT_none, runOps_nil, R.ok_bind, ly, s2]
      with_reducible rfl
    apply W.run 20
    · intro M
      simp (config := { maxSteps := 4000000 }) (disch := first | decide +kernel | (rw [wantF_guard]; simp only [wantD_some, dstAt_zero, dstAt_succ, T.get_set, T.get_e, Nat.reduceEqDiff, if_true, if_false, wantV_bool, wantV_unit, unitV, cond_true, cond_false, Bool.not_true, Bool.not_false, List.toList_toArray]) | omega) only [c8, Try.f8, Option.getD_some, sub_seq1, sub_nil, exec_ret]
      with_reducible rfl
    have hgs : ∀ z, z ≠ B0.next → (H.set B0.next .dead).get z = H.get z := fun z h1 => by rw [get_setMem, if_neg h1]
    have hgsn : (H.set B0.next .dead).next = H.next := next_set _ _ _
    have r1 : loadF tb1 (H.set B0.next .dead).get 26 (.pointer (some ⟨A.next, 0, none⟩)) = .ok y := load_vals und26 rfl (w2.same (hgs _ (by omega))) rfl
    refine ⟨.inr rfl, H.set B0.next .dead, [y], ?_, ?_, b', ?_, ⟨by omega, fun z hz => ?_⟩⟩
    · show takeF [B0.next] H = _
      unfold takeF
      rw [q2 _ (by omega), dd]
      rfl
    · simp only [Try.f8, resF, ev_tmp, T.get_set, Nat.reduceEqDiff, if_true, if_false, evG_some, R.ok_bind, t4, r1]
    · show SlcM _ 28 2 b' (pairs (rows f l)) y
      rcases hCb with hq | hq
      · have hnil := hy3 hq
        subst hnil
        rcases hy1 with hy1 | ⟨k, c, e, _⟩
        · exact .inl hy1
        · cases e
      · exact hy1.same (by omega) (fun _ => by rw [hgs _ (by omega), q2 _ (by omega), hg _ (by omega)])
    · rw [hgs _ (by omega), q2 _ (by omega), hg _ (by omega), hfC z (by omega) (by omega) (by omega), hE3.g z hz]
  exact ⟨v, A', b, ha, hS, hE⟩
end Go.Proofs.Ytgkolgfkcelljaa.pck

/-
  Pick: rows stand one behind the other (a plain law).
-/
namespace Go.Pick
set_option linter.unusedSimpArgs false
set_option linter.unusedVariables false
set_option linter.unusedVariables false

def r0 : Row := ⟨0, 0, 0⟩
/-- Where the row of a number begins, told by the one ahead of it. -/
def atR (a : Nat) (rs : List Row) : Nat → Nat
  | 0 => a
  | i + 1 => (rs.getD i r0).b
theorem atR_cons (a : Nat) (r : Row) (rs : List Row) (i : Nat) : atR a (r :: rs) (i + 1) = atR r.b rs i := by
  cases i with
  | zero => rfl
  | succ i => show ((r :: rs).getD (i + 1) r0).b = (rs.getD i r0).b; simp [List.getD]
structure RowOk (f a : Nat) (l : List Nat) (rs : List Row) (i : Nat) (r : Row) : Prop where
  beg : r.a = atR a rs i
  lt : r.a < r.b
  le : r.b ≤ a + l.length
  t : ∀ j, r.a ≤ j → j < r.b → tier f (l.getD (j - a) 0) = r.t
  ne : ∀ j q, i = j + 1 → rs[j]? = some q → q.t ≠ r.t
theorem rows_chain (f : Nat) : ∀ (k a : Nat) (l : List Nat), l.length ≤ k → (∀ i r, (rowsL f k a l)[i]? = some r → RowOk f a l (rowsL f k a l) i r) ∧ atR a (rowsL f k a l) (rowsL f k a l).length = a + l.length
  | 0, a, l, h => by
    have : l = [] := List.length_eq_zero_iff.1 (by omega)
    subst this
    exact ⟨fun i r hr => by simp [rowsL] at hr, rfl⟩
  | k + 1, a, [], h => ⟨fun i r hr => by simp [rowsL] at hr, rfl⟩
  | k + 1, a, n :: l, h => by
    have hq1 := runL_le f (tier f n) (n :: l)
    have hq0 : 0 < runL f (tier f n) (n :: l) := runL_pos
    have hget := fun (i : Nat) (hi : i < runL f (tier f n) (n :: l)) => runL_get (f := f) (t := tier f n) (l := n :: l) hi
    have hstop := fun hi => runL_stop (f := f) (t := tier f n) (l := n :: l) hi
    rw [rowsL_cons]
    generalize runL f (tier f n) (n :: l) = q at hq1 hq0 hget hstop
    have hdl : ((n :: l).drop q).length = (n :: l).length - q := List.length_drop
    simp only [List.length_cons] at h hq1 hdl
    obtain ⟨ih1, ih2⟩ := rows_chain f k (a + q) ((n :: l).drop q) (by rw [hdl]; omega)
    have hgd : ∀ j, a + q ≤ j → ((n :: l).drop q).getD (j - (a + q)) 0 = (n :: l).getD (j - a) 0 := fun j hj => by
      simp only [List.getD, List.getElem?_drop]
      congr 2
      omega
    refine ⟨fun i r hr => ?_, ?_⟩
    · cases i with
      | zero =>
        simp only [List.getElem?_cons_zero, Option.some.injEq] at hr
        subst hr
        exact ⟨rfl, by show a < a + q; omega, by show a + q ≤ a + (n :: l).length; simp only [List.length_cons]; omega, fun j h1 h2 => hget (j - a) (by have : j < a + q := h2; have : a ≤ j := h1; omega), fun j q' h1 => by omega⟩
      | succ i =>
        simp only [List.getElem?_cons_succ] at hr
        have hok := ih1 i r hr
        have hra : a + q ≤ r.a := by
          have : ∀ k a l, ∀ r ∈ rowsL f k a l, a ≤ r.a := fun k a l r hr => (rowsL_tier f k a l r hr).1
          exact this _ _ _ r (List.mem_of_getElem? hr)
        refine ⟨by rw [atR_cons]; exact hok.beg, hok.lt, ?_, fun j h1 h2 => ?_, fun j q' h1 h2 => ?_⟩
        · have := hok.le
          rw [hdl] at this
          simp only [List.length_cons]; omega
        · rw [← hgd j (by omega)]
          exact hok.t j h1 h2
        · have hij : i = j := by omega
          subst hij
          cases i with
          | zero =>
            simp only [List.getElem?_cons_zero, Option.some.injEq] at h2
            subst h2
            have hb := hok.beg
            have hle := hok.le
            have hlt := hok.lt
            have ht := hok.t r.a (Nat.le_refl _) hok.lt
            rw [hgd r.a hra] at ht
            have e : r.a - a = q := by have : r.a = a + q := hb; omega
            rw [e] at ht
            rw [hdl] at hle
            have hs := hstop (by simp only [List.length_cons]; omega)
            rw [ht] at hs
            exact fun e => hs e.symm
          | succ i =>
            simp only [List.getElem?_cons_succ] at h2
            exact hok.ne i q' rfl h2
    · rw [List.length_cons, atR_cons]
      show atR (a + q) _ _ = _
      rw [ih2, hdl]
      simp only [List.length_cons]
      omega
/-- The best of the first rows, told by its place. -/
def bestP (f : Nat) (rs : List Row) (i : Nat) (b : Option Nat) : Prop :=
  match b with
  | none => ((rs.take i).filter (fullR f)).foldl better none = none
  | some j => j < i ∧ ∃ r, rs[j]? = some r ∧ ((rs.take i).filter (fullR f)).foldl better none = some r
theorem best_step {f i : Nat} {rs : List Row} {r : Row} (hr : rs[i]? = some r) : ((rs.take (i + 1)).filter (fullR f)).foldl better none = if fullR f r = true then better (((rs.take i).filter (fullR f)).foldl better none) r else ((rs.take i).filter (fullR f)).foldl better none := by
  have hi : i < rs.length := (List.getElem?_eq_some_iff.1 hr).1
  have he : rs[i] = r := (List.getElem?_eq_some_iff.1 hr).2
  rw [List.take_succ_eq_append_getElem hi, he, List.filter_append]
  cases hf : fullR f r with
  | true => rw [List.filter_cons_of_pos hf, List.foldl_append]; rfl
  | false => rw [List.filter_cons_of_neg (by rw [hf]; decide)]; simp
end Go.Pick

/-
  Pick: parts of the law PickRows on the abstract machine.
-/
namespace Go.Proofs.Ytgkolgfkcelljaa.pck
open Go.Am Go.Pick
set_option linter.unusedSimpArgs false
set_option linter.unusedVariables false
set_option linter.unusedVariables false
set_option maxRecDepth 20000

theorem ia28_0 (b o : Nat) : indexAddrF tb1 28 (.pointer (some ⟨b, o, none⟩)) (.int .i64 ((0 : Nat) : Int)) = .ok (.pointer (some ⟨b, o, none⟩)) := by kernel_rfl
theorem ia28_1 (b o : Nat) : indexAddrF tb1 28 (.pointer (some ⟨b, o, none⟩)) (.int .i64 ((1 : Nat) : Int)) = .ok (.pointer (some ⟨b, o + 1, none⟩)) := by kernel_rfl
/-- Where a row's ends lie. -/
structure RowAt (D : Mem) (y : Value) (i : Nat) (r : Row) (b : Nat) : Prop where
  ix : indexAddrF tb1 26 y (.int .i64 (i : Int)) = .ok (.pointer (some ⟨b, i * 2, none⟩))
  l0 : loadF tb1 D.get 3 (.pointer (some ⟨b, i * 2, none⟩)) = .ok (.int .i64 (r.a : Int))
  l1 : loadF tb1 D.get 3 (.pointer (some ⟨b, i * 2 + 1, none⟩)) = .ok (.int .i64 (r.b : Int))
theorem row_at {D : Mem} {b i : Nat} {rs : List Row} {y : Value} {r : Row} (h : SlcM D 28 2 b (pairs rs) y) (hr : rs[i]? = some r) : RowAt D y i r b := by
  have hi : i < rs.length := (List.getElem?_eq_some_iff.1 hr).1
  have hp : (pairs rs)[i]? = some [.int .i64 (r.a : Int), .int .i64 (r.b : Int)] := by simp [pairs, hr]
  exact ⟨h.idx (tb := tb1) (t := 26) (kd := .i64) und26 size28 (by rw [pairs_len]; exact hi), h.load (tb := tb1) (j := 0) und3 rfl hp rfl (by omega), h.load (tb := tb1) (j := 1) und3 rfl hp rfl (by omega)⟩
noncomputable def c3 : Code := Try.f3.body.getD .skip
noncomputable def c3b1 : Code := sub c3 [1,1,1,1,1,1,0,1,0,0]
noncomputable def c3b2 : Code := sub c3b1 [1,0,0,1,1,0,1,0,0]
noncomputable def c3b3 : Code := sub c3b2 [1,0,0,1,0,1,0,0]
theorem c3_eq : Try.f3.body = some (.seq (sub c3 [0]) (.seq (.seq (sub c3 [1,0,0]) (sub c3 [1,0,1])) (.seq (sub c3 [1,1,0]) (.seq (sub c3 [1,1,1,0]) (.seq (sub c3 [1,1,1,1,0]) (.seq (sub c3 [1,1,1,1,1,0]) (.seq (.seq (sub c3 [1,1,1,1,1,1,0,0]) (.block 0 (.loop c3b1))) (.seq (sub c3 [1,1,1,1,1,1,1,0]) (.seq (.seq (sub c3 [1,1,1,1,1,1,1,1,0,0]) (sub c3 [1,1,1,1,1,1,1,1,0,1])) (.seq (sub c3 [1,1,1,1,1,1,1,1,1,0]) (sub c3 [1,1,1,1,1,1,1,1,1,1]))))))))))) := by kernel_rfl
theorem c3b1_eq : c3b1 = (.seq (.seq (sub c3b1 [0,0]) (sub c3b1 [0,1])) (.seq (.block 1 (.seq (.seq (sub c3b1 [1,0,0,0,0]) (sub c3b1 [1,0,0,0,1])) (.seq (sub c3b1 [1,0,0,1,0]) (.seq (.seq (sub c3b1 [1,0,0,1,1,0,0]) (.block 2 (.loop c3b2))) (.seq (.seq (sub c3b1 [1,0,0,1,1,1,0,0]) (sub c3b1 [1,0,0,1,1,1,0,1])) (.seq (sub c3b1 [1,0,0,1,1,1,1,0]) (.seq (sub c3b1 [1,0,0,1,1,1,1,1,0]) (sub c3b1 [1,0,0,1,1,1,1,1,1])))))))) (sub c3b1 [1,1]))) := by kernel_rfl
theorem c3b2_eq : c3b2 = (.seq (.seq (sub c3b2 [0,0]) (sub c3b2 [0,1])) (.seq (.block 3 (.seq (sub c3b2 [1,0,0,0]) (.seq (.seq (sub c3b2 [1,0,0,1,0,0]) (.block 4 (.loop c3b3))) (.seq (sub c3b2 [1,0,0,1,1,0]) (sub c3b2 [1,0,0,1,1,1]))))) (sub c3b2 [1,1]))) := by kernel_rfl
theorem c3b3_eq : c3b3 = (.seq (.seq (sub c3b3 [0,0]) (sub c3b3 [0,1])) (.seq (sub c3b3 [1,0]) (sub c3b3 [1,1]))) := by kernel_rfl
def bestV : Option Nat → Value
  | none => .int .i64 (-1)
  | some j => .int .i64 (j : Int)
def rwS (xo y bv : Value) (f a i : Nat) : List (Nat × Value) := [(5, xo), (6, .int .i64 (f : Int)), (7, y), (8, .int .i64 (a : Int)), (9, bv), (10, .int .i64 (i : Int))]
section
variable {D : Mem} {xo y bv : Value} {f i by_ : Nat} {own : List Nat} {r : Row} {t : T Value} {K : Ex → St → Prop}
set_option maxHeartbeats 8000000 in
/-- The row stands where the one ahead of it ends. -/
theorem rows_first (hO : Own D own xo) (hR : RowAt D y i r by_) (h1 : r.a < r.b) (h3 : r.b ≤ own.length) (hp : Sl t (rwS xo y bv f r.a i))
    (hK : ∀ t', Sl t' (rwS xo y bv f r.a i) → K .nrm ⟨t', 216, [], D, none⟩) : W tb1 (.seq (sub c3b1 [1,0,0,0,0]) (sub c3b1 [1,0,0,0,1])) ⟨t, 216, [], D, none⟩ K := by
  obtain ⟨g5, g6, g7, g8, g9, g10, -⟩ := hp
  have lo := hO.len
  have n1 : ¬ r.b ≤ r.a := by omega
  have n2 : ¬ own.length < r.b := by omega
  obtain ⟨ix, l0, l1⟩ := hR
  apply W.seq
  apply W.run 20
  · intro M
    simp (config := { maxSteps := 4000000 }) (disch := first | decide +kernel | (rw [wantF_guard]; simp only [wantD_some, dstAt_zero, dstAt_succ, T.get_set, T.get_e, Nat.reduceEqDiff, if_true, if_false, wantV_bool, wantV_unit, unitV, cond_true, cond_false, Bool.not_true, Bool.not_false, List.toList_toArray]) | omega) only [c3b1, c3, Try.f3, Option.getD_some, sub_seq1, sub_seq0, sub_block, sub_loop, sub_nil, exec_region, runOps_cons, opF_move, ev_tmp, g7, evG_some, putT_some, T.get_set, Nat.reduceEqDiff, g10, if_false, opF_indexAddr, if_true, ev_int, opF_load, g8, opF_neq, R.ok_bind, ix, ia28_0, l0, binF_int, op_neq, ne_eq, not_true_eq_false, decide_false, runOps_yes, opF_ari, opF_pick, pickF, ev_bool, ia28_1, l1, op_leq, cast_le, n1, g5, opF_len, evs, runOps_nil, lo, op_gtr, cast_lt, n2]
    with_reducible rfl
  show W tb1 _ _ _
  apply W.run 20
  · intro M
    simp (config := { maxSteps := 4000000 }) (disch := first | decide +kernel | (rw [wantF_guard]; simp only [wantD_some, dstAt_zero, dstAt_succ, T.get_set, T.get_e, Nat.reduceEqDiff, if_true, if_false, wantV_bool, wantV_unit, unitV, cond_true, cond_false, Bool.not_true, Bool.not_false, List.toList_toArray]) | omega) only [c3b1, c3, Try.f3, Option.getD_some, sub_seq1, sub_seq0, sub_block, sub_loop, sub_nil, exec_cond, ev_tmp, T.get_set, Nat.reduceEqDiff, if_false, if_true, evG_some, exec_seq, exec_region, runOps_cons, opF_assign, ev_bool, putT_some, runOps_nil, R.ok_bind, exec_ret, exec_skip]
    with_reducible rfl
  apply hK
  unfold rwS; simp only [Sl_cons, Sl_nil, T.get_set, T.puts_cons, T.puts_nil, Nat.reduceEqDiff, Nat.reduceAdd, if_true, if_false, and_true, true_and, g5, g6, g7, g8, g9, g10]
set_option maxHeartbeats 8000000 in
/-- All its numbers are of its tier. -/
theorem rows_each (f2 : 2 ≤ f) (f9 : f ≤ 9) (hob : ∀ n ∈ own, n ≤ 40000) (hO : Own D own xo) (hR : RowAt D y i r by_) (h1 : r.a < r.b) (h3 : r.b ≤ own.length) (hlen : own.length ≤ 60) (ht : ∀ j, r.a ≤ j → j < r.b → tier f (own.getD j 0) = r.t) (hp : Sl t (rwS xo y bv f r.a i)) (h11 : t.get 11 = some (.int .i64 (r.t : Int)))
    (hK : ∀ t', Sl t' (rwS xo y bv f r.a i) → t'.get 11 = some (.int .i64 (r.t : Int)) → K .nrm ⟨t', 216, [], D, none⟩) : W tb1 (.seq (sub c3b1 [1,0,0,1,1,0,0]) (.block 2 (.loop c3b2))) ⟨t, 216, [], D, none⟩ K := by
  obtain ⟨g5, g6, g7, g8, g9, g10, -⟩ := hp
  obtain ⟨ix, l0, l1⟩ := hR
  have hoj : ∀ j, j < own.length → own.getD j 0 ≤ 40000 := fun j hj => by
    rw [List.getD, List.getElem?_eq_getElem hj]; exact hob _ (List.getElem_mem _)
  have hpow : f ^ r.t ≤ 40000 := by
    have hta := ht r.a (Nat.le_refl _) h1
    have hoa := hoj r.a (by omega)
    by_cases h0 : 0 < r.t
    · have := tier_lo f2 (own.getD r.a 0) (by rw [hta]; exact h0)
      rw [hta] at this; omega
    · rw [show r.t = 0 by omega, Nat.pow_zero]; omega
  have hT : r.t < 40001 := Nat.lt_of_lt_of_le (Nat.lt_pow_self (by omega : 1 < f)) (by omega)
  apply W.seq
  apply W.run 20
  · intro M
    simp (config := { maxSteps := 4000000 }) (disch := first | decide +kernel | (rw [wantF_guard]; simp only [wantD_some, dstAt_zero, dstAt_succ, T.get_set, T.get_e, Nat.reduceEqDiff, if_true, if_false, wantV_bool, wantV_unit, unitV, cond_true, cond_false, Bool.not_true, Bool.not_false, List.toList_toArray]) | omega) only [c3b1, c3, Try.f3, Option.getD_some, sub_seq1, sub_seq0, sub_block, sub_loop, sub_nil, exec_region, runOps_cons, opF_move, ev_tmp, g8, evG_some, putT_some, opF_assign, T.get_set, if_true, runOps_nil, R.ok_bind]
    with_reducible rfl
  apply W.block
  refine W.up r.b (fun k t E => E = D ∧ r.a ≤ k ∧ Sl t [(5, xo), (6, .int .i64 (f : Int)), (7, y), (8, .int .i64 (r.a : Int)), (9, bv), (10, .int .i64 (i : Int)), (11, .int .i64 (r.t : Int)), (12, .int .i64 (k : Int))]) ?_ (k := r.a) (by omega) ⟨rfl, Nat.le_refl _, ?_⟩
  · rintro k t E hk ⟨rfl, hka, u5, u6, u7, u8, u9, u10, u11, u12, -⟩
    rw [c3b2_eq]
    apply W.seq
    apply W.seq
    by_cases hlt : k < r.b
    · obtain ⟨p, hp, hpl⟩ := hO.at (show k < own.length by omega)
      have hok := hoj k (by omega)
      have htk := ht k hka hlt
      have hk9 := fun ih => k9 (ih := ih) (A := E) (n := own.getD k 0) (f := f) f2 (by omega)
      rw [htk] at hk9
      have hhi := tier_hi f2 (own.getD k 0)
      rw [htk, Nat.pow_succ] at hhi
      have hlo : 0 < r.t → f ^ r.t ≤ own.getD k 0 := fun h0 => by
        have := tier_lo f2 (own.getD k 0) (by rw [htk]; exact h0)
        rw [htk] at this; exact this
      apply W.run 20
      · intro M
        simp (config := { maxSteps := 4000000 }) (disch := first | decide +kernel | (rw [wantF_guard]; simp only [wantD_some, dstAt_zero, dstAt_succ, T.get_set, T.get_e, Nat.reduceEqDiff, if_true, if_false, wantV_bool, wantV_unit, unitV, cond_true, cond_false, Bool.not_true, Bool.not_false, List.toList_toArray]) | omega) only [c3b2, c3b1, c3, Try.f3, Option.getD_some, sub_seq1, sub_seq0, sub_block, sub_loop, sub_nil, exec_region, runOps_cons, opF_move, ev_tmp, u12, evG_some, putT_some, T.get_set, Nat.reduceEqDiff, u7, if_false, u10, opF_indexAddr, if_true, ev_int, opF_load, opF_ari, runOps_nil, R.ok_bind, ix, ia28_1, l1, binF_int, op_lssI, cast_lt, hlt, decide_true]
        with_reducible rfl
      apply W.run 20
      · intro M
        simp (config := { maxSteps := 4000000 }) (disch := first | decide +kernel | (rw [wantF_guard]; simp only [wantD_some, dstAt_zero, dstAt_succ, T.get_set, T.get_e, Nat.reduceEqDiff, if_true, if_false, wantV_bool, wantV_unit, unitV, cond_true, cond_false, Bool.not_true, Bool.not_false, List.toList_toArray]) | omega) only [c3b2, c3b1, c3, Try.f3, Option.getD_some, sub_seq1, sub_seq0, sub_block, sub_loop, sub_nil, exec_cond, ev_tmp, T.get_set, Nat.reduceEqDiff, if_false, if_true, evG_some, exec_skip, exec_exit, R.ok_bind]
        with_reducible rfl
      show W tb1 _ _ _
      apply W.seq
      apply W.block
      apply W.seq
      apply W.run 20
      · intro M
        simp (config := { maxSteps := 4000000 }) (disch := first | decide +kernel | (rw [wantF_guard]; simp only [wantD_some, dstAt_zero, dstAt_succ, T.get_set, T.get_e, Nat.reduceEqDiff, if_true, if_false, wantV_bool, wantV_unit, unitV, cond_true, cond_false, Bool.not_true, Bool.not_false, List.toList_toArray]) | omega) only [c3b2, c3b1, c3, Try.f3, Option.getD_some, sub_seq1, sub_seq0, sub_block, sub_loop, sub_nil, exec_region, runOps_cons, opF_assign, ev_int, putT_some, runOps_nil, R.ok_bind]
        with_reducible rfl
      apply W.seq
      apply W.seq
      apply W.run 20
      · intro M
        simp (config := { maxSteps := 4000000 }) (disch := first | decide +kernel | (rw [wantF_guard]; simp only [wantD_some, dstAt_zero, dstAt_succ, T.get_set, T.get_e, Nat.reduceEqDiff, if_true, if_false, wantV_bool, wantV_unit, unitV, cond_true, cond_false, Bool.not_true, Bool.not_false, List.toList_toArray]) | omega) only [c3b2, c3b1, c3, Try.f3, Option.getD_some, sub_seq1, sub_seq0, sub_block, sub_loop, sub_nil, exec_region, runOps_cons, opF_assign, ev_int, putT_some, runOps_nil, R.ok_bind]
        with_reducible rfl
      apply W.block
      refine W.up r.t (fun n t G => G = E ∧ Sl t [(5, xo), (6, .int .i64 (f : Int)), (7, y), (8, .int .i64 (r.a : Int)), (9, bv), (10, .int .i64 (i : Int)), (11, .int .i64 (r.t : Int)), (12, .int .i64 (k : Int)), (13, .int .i64 ((f ^ n : Nat) : Int)), (14, .int .i64 (n : Int))]) ?_ (Nat.zero_le _) ⟨rfl, ?_⟩
      · rintro n t G hn ⟨rfl, w5, w6, w7, w8, w9, w10, w11, w12, w13, w14, -⟩
        rw [c3b3_eq]
        apply W.seq
        apply W.seq
        by_cases hnt : n < r.t
        · have hpi : f ^ (n + 1) ≤ f ^ r.t := Nat.pow_le_pow_right (by omega) (by omega)
          rw [Nat.pow_succ] at hpi
          have hmul : intOpF .mul .i64 ((f ^ n : Nat) : Int) (f : Int) = .ok (.int .i64 ((f ^ n * f : Nat) : Int)) := op_mul_i64 (by omega)
          apply W.run 20
          · intro M
            simp (config := { maxSteps := 4000000 }) (disch := first | decide +kernel | (rw [wantF_guard]; simp only [wantD_some, dstAt_zero, dstAt_succ, T.get_set, T.get_e, Nat.reduceEqDiff, if_true, if_false, wantV_bool, wantV_unit, unitV, cond_true, cond_false, Bool.not_true, Bool.not_false, List.toList_toArray]) | omega) only [c3b3, c3b2, c3b1, c3, Try.f3, Option.getD_some, sub_seq1, sub_seq0, sub_block, sub_loop, sub_nil, exec_region, runOps_cons, opF_move, ev_tmp, w14, evG_some, putT_some, T.get_set, Nat.reduceEqDiff, w11, if_false, opF_ari, if_true, runOps_nil, R.ok_bind, binF_int, op_lssI, cast_lt, hnt, decide_true]
            with_reducible rfl
          apply W.run 20
          · intro M
            simp (config := { maxSteps := 4000000 }) (disch := first | decide +kernel | (rw [wantF_guard]; simp only [wantD_some, dstAt_zero, dstAt_succ, T.get_set, T.get_e, Nat.reduceEqDiff, if_true, if_false, wantV_bool, wantV_unit, unitV, cond_true, cond_false, Bool.not_true, Bool.not_false, List.toList_toArray]) | omega) only [c3b3, c3b2, c3b1, c3, Try.f3, Option.getD_some, sub_seq1, sub_seq0, sub_block, sub_loop, sub_nil, exec_cond, ev_tmp, T.get_set, Nat.reduceEqDiff, if_false, if_true, evG_some, exec_skip, exec_exit, R.ok_bind]
            with_reducible rfl
          show W tb1 _ _ _
          apply W.run 20
          · intro M
            simp (config := { maxSteps := 4000000 }) (disch := first | decide +kernel | (rw [wantF_guard]; simp only [wantD_some, dstAt_zero, dstAt_succ, T.get_set, T.get_e, Nat.reduceEqDiff, if_true, if_false, wantV_bool, wantV_unit, unitV, cond_true, cond_false, Bool.not_true, Bool.not_false, List.toList_toArray]) | omega) only [c3b3, c3b2, c3b1, c3, Try.f3, Option.getD_some, sub_seq1, sub_seq0, sub_block, sub_loop, sub_nil, exec_seq, exec_block, exec_region, runOps_cons, opF_move, ev_tmp, T.get_set, Nat.reduceEqDiff, w13, if_false, evG_some, putT_some, w6, opF_ari, if_true, opF_assign, runOps_nil, R.ok_bind, binF_int, hmul, w14, ev_int, op_add_i64]
            with_reducible rfl
          refine ⟨hnt, _, _, rfl, rfl, ?_⟩
          rw [Nat.pow_succ]
          simp only [Sl_cons, Sl_nil, T.get_set, T.puts_cons, T.puts_nil, Nat.reduceEqDiff, Nat.reduceAdd, if_true, if_false, and_true, true_and, w5, w6, w7, w8, w9, w10, w11, w12]
        · have hnn : n = r.t := by omega
          subst hnn
          apply W.run 20
          · intro M
            simp (config := { maxSteps := 4000000 }) (disch := first | decide +kernel | (rw [wantF_guard]; simp only [wantD_some, dstAt_zero, dstAt_succ, T.get_set, T.get_e, Nat.reduceEqDiff, if_true, if_false, wantV_bool, wantV_unit, unitV, cond_true, cond_false, Bool.not_true, Bool.not_false, List.toList_toArray]) | omega) only [c3b3, c3b2, c3b1, c3, Try.f3, Option.getD_some, sub_seq1, sub_seq0, sub_block, sub_loop, sub_nil, exec_region, runOps_cons, opF_move, ev_tmp, w14, evG_some, putT_some, T.get_set, Nat.reduceEqDiff, w11, if_false, opF_ari, if_true, runOps_nil, R.ok_bind, binF_int, op_lssI, cast_lt, Nat.lt_irrefl, decide_false]
            with_reducible rfl
          apply W.run 20
          · intro M
            simp (config := { maxSteps := 4000000 }) (disch := first | decide +kernel | (rw [wantF_guard]; simp only [wantD_some, dstAt_zero, dstAt_succ, T.get_set, T.get_e, Nat.reduceEqDiff, if_true, if_false, wantV_bool, wantV_unit, unitV, cond_true, cond_false, Bool.not_true, Bool.not_false, List.toList_toArray]) | omega) only [c3b3, c3b2, c3b1, c3, Try.f3, Option.getD_some, sub_seq1, sub_seq0, sub_block, sub_loop, sub_nil, exec_cond, ev_tmp, T.get_set, Nat.reduceEqDiff, if_false, if_true, evG_some, exec_skip, exec_exit, R.ok_bind]
            with_reducible rfl
          show W tb1 _ _ _
          have hmul : intOpF .mul .i64 ((f ^ r.t : Nat) : Int) (f : Int) = .ok (.int .i64 ((f ^ r.t * f : Nat) : Int)) := op_mul_i64 (by
            have := Nat.mul_le_mul hpow f9; omega)
          have hge : ¬ f ^ r.t * f ≤ own.getD k 0 := by omega
          apply W.seq
          have chk : ∀ {K : Ex → St → Prop} {t2 : T Value}, Sl t2 [(5, xo), (6, .int .i64 (f : Int)), (7, y), (8, .int .i64 (r.a : Int)), (9, bv), (10, .int .i64 (i : Int)), (11, .int .i64 (r.t : Int)), (12, .int .i64 (k : Int)), (13, .int .i64 ((f ^ r.t : Nat) : Int))] → (∀ t', Sl t' [(5, xo), (6, .int .i64 (f : Int)), (7, y), (8, .int .i64 (r.a : Int)), (9, bv), (10, .int .i64 (i : Int)), (11, .int .i64 (r.t : Int)), (12, .int .i64 (k : Int))] → t'.get 114 = some (.bool false) → K .nrm ⟨t', 216, [], G, none⟩) →
              W tb1 (sub c3b2 [1,0,0,1,1,0]) ⟨t2, 216, [], G, none⟩ K := by
            rintro K t2 ⟨x5, x6, x7, x8, x9, x10, x11, x12, x13, -⟩ hK
            by_cases h0 : 0 < r.t
            · have hnlo : ¬ own.getD k 0 < f ^ r.t := by have := hlo h0; omega
              apply W.run 20
              · intro M
                simp (config := { maxSteps := 4000000 }) (disch := first | decide +kernel | (rw [wantF_guard]; simp only [wantD_some, dstAt_zero, dstAt_succ, T.get_set, T.get_e, Nat.reduceEqDiff, if_true, if_false, wantV_bool, wantV_unit, unitV, cond_true, cond_false, Bool.not_true, Bool.not_false, List.toList_toArray]) | omega) only [c3b2, c3b1, c3, Try.f3, Option.getD_some, sub_seq1, sub_seq0, sub_block, sub_loop, sub_nil, exec_region, runOps_cons, opF_move, ev_tmp, x5, evG_some, putT_some, T.get_set, Nat.reduceEqDiff, x12, if_false, opF_indexAddr, if_true, opF_load, x6, opF_call, evs, R.ok_bind, resK, x11, opF_neq, hp, hpl, hk9, binF_int, op_neq, ne_eq, not_true_eq_false, decide_false, runOps_yes, opF_ari, ev_int, op_gtr, cast_lt, h0, decide_true, x13, opF_pick, pickF, ev_bool, op_lssI, hnlo, runOps_nil, hmul, op_geq, cast_le, hge]
                with_reducible rfl
              apply hK
              · simp only [Sl_cons, Sl_nil, T.get_set, T.puts_cons, T.puts_nil, Nat.reduceEqDiff, Nat.reduceAdd, if_true, if_false, and_true, true_and, x5, x6, x7, x8, x9, x10, x11, x12]
              · simp only [T.get_set, if_true]
            · apply W.run 20
              · intro M
                simp (config := { maxSteps := 4000000 }) (disch := first | decide +kernel | (rw [wantF_guard]; simp only [wantD_some, dstAt_zero, dstAt_succ, T.get_set, T.get_e, Nat.reduceEqDiff, if_true, if_false, wantV_bool, wantV_unit, unitV, cond_true, cond_false, Bool.not_true, Bool.not_false, List.toList_toArray]) | omega) only [c3b2, c3b1, c3, Try.f3, Option.getD_some, sub_seq1, sub_seq0, sub_block, sub_loop, sub_nil, exec_region, runOps_cons, opF_move, ev_tmp, x5, evG_some, putT_some, T.get_set, Nat.reduceEqDiff, x12, if_false, opF_indexAddr, if_true, opF_load, x6, opF_call, evs, R.ok_bind, resK, x11, opF_neq, hp, hpl, hk9, binF_int, op_neq, ne_eq, not_true_eq_false, decide_false, runOps_yes, opF_ari, ev_int, op_gtr, cast_lt, h0, runOps_no, opF_pick, pickF, ev_bool, x13, runOps_nil, hmul, op_geq, cast_le, hge]
                with_reducible rfl
              apply hK
              · simp only [Sl_cons, Sl_nil, T.get_set, T.puts_cons, T.puts_nil, Nat.reduceEqDiff, Nat.reduceAdd, if_true, if_false, and_true, true_and, x5, x6, x7, x8, x9, x10, x11, x12]
              · simp only [T.get_set, if_true]
          refine chk ?_ ?_
          · simp only [Sl_cons, Sl_nil, T.get_set, T.puts_cons, T.puts_nil, Nat.reduceEqDiff, Nat.reduceAdd, if_true, if_false, and_true, true_and, w5, w6, w7, w8, w9, w10, w11, w12, w13]
          rintro t3 ⟨z5, z6, z7, z8, z9, z10, z11, z12, -⟩ z114
          show W tb1 _ _ _
          apply W.run 20
          · intro M
            simp (config := { maxSteps := 4000000 }) (disch := first | decide +kernel | (rw [wantF_guard]; simp only [wantD_some, dstAt_zero, dstAt_succ, T.get_set, T.get_e, Nat.reduceEqDiff, if_true, if_false, wantV_bool, wantV_unit, unitV, cond_true, cond_false, Bool.not_true, Bool.not_false, List.toList_toArray]) | omega) only [c3b2, c3b1, c3, Try.f3, Option.getD_some, sub_seq1, sub_seq0, sub_block, sub_loop, sub_nil, exec_cond, ev_tmp, z114, evG_some, exec_seq, exec_region, runOps_cons, opF_assign, ev_bool, putT_some, runOps_nil, R.ok_bind, exec_ret, exec_skip]
            with_reducible rfl
          show W tb1 _ _ _
          apply W.run 20
          · intro M
            simp (config := { maxSteps := 4000000 }) (disch := first | decide +kernel | (rw [wantF_guard]; simp only [wantD_some, dstAt_zero, dstAt_succ, T.get_set, T.get_e, Nat.reduceEqDiff, if_true, if_false, wantV_bool, wantV_unit, unitV, cond_true, cond_false, Bool.not_true, Bool.not_false, List.toList_toArray]) | omega) only [c3b2, c3b1, c3, Try.f3, Option.getD_some, sub_seq1, sub_seq0, sub_block, sub_loop, sub_nil, exec_region, runOps_cons, opF_move, ev_tmp, z12, evG_some, putT_some, opF_ari, T.get_set, if_true, ev_int, opF_assign, Nat.reduceEqDiff, if_false, runOps_nil, R.ok_bind, binF_int, op_add_i64]
            with_reducible rfl
          refine ⟨hlt, _, _, rfl, rfl, by omega, ?_⟩
          simp only [Sl_cons, Sl_nil, T.get_set, T.puts_cons, T.puts_nil, Nat.reduceEqDiff, Nat.reduceAdd, if_true, if_false, and_true, true_and, z5, z6, z7, z8, z9, z10, z11]
      · have e0 : f ^ 0 = 1 := Nat.pow_zero f
        rw [e0]
        simp only [Sl_cons, Sl_nil, T.get_set, T.puts_cons, T.puts_nil, Nat.reduceEqDiff, Nat.reduceAdd, if_true, if_false, and_true, true_and, u5, u6, u7, u8, u9, u10, u11, u12]
    · apply W.run 20
      · intro M
        simp (config := { maxSteps := 4000000 }) (disch := first | decide +kernel | (rw [wantF_guard]; simp only [wantD_some, dstAt_zero, dstAt_succ, T.get_set, T.get_e, Nat.reduceEqDiff, if_true, if_false, wantV_bool, wantV_unit, unitV, cond_true, cond_false, Bool.not_true, Bool.not_false, List.toList_toArray]) | omega) only [c3b2, c3b1, c3, Try.f3, Option.getD_some, sub_seq1, sub_seq0, sub_block, sub_loop, sub_nil, exec_region, runOps_cons, opF_move, ev_tmp, u12, evG_some, putT_some, T.get_set, Nat.reduceEqDiff, u7, if_false, u10, opF_indexAddr, if_true, ev_int, opF_load, opF_ari, runOps_nil, R.ok_bind, ix, ia28_1, l1, binF_int, op_lssI, cast_lt, hlt, decide_false]
        with_reducible rfl
      apply W.run 20
      · intro M
        simp (config := { maxSteps := 4000000 }) (disch := first | decide +kernel | (rw [wantF_guard]; simp only [wantD_some, dstAt_zero, dstAt_succ, T.get_set, T.get_e, Nat.reduceEqDiff, if_true, if_false, wantV_bool, wantV_unit, unitV, cond_true, cond_false, Bool.not_true, Bool.not_false, List.toList_toArray]) | omega) only [c3b2, c3b1, c3, Try.f3, Option.getD_some, sub_seq1, sub_seq0, sub_block, sub_loop, sub_nil, exec_cond, ev_tmp, T.get_set, Nat.reduceEqDiff, if_false, if_true, evG_some, exec_skip, exec_exit, R.ok_bind]
        with_reducible rfl
      apply hK
      · unfold rwS; simp only [Sl_cons, Sl_nil, T.get_set, T.puts_cons, T.puts_nil, Nat.reduceEqDiff, Nat.reduceAdd, if_true, if_false, and_true, true_and, u5, u6, u7, u8, u9, u10]
      · simp only [T.get_set, Nat.reduceEqDiff, if_true, if_false, u11]
  · simp only [Sl_cons, Sl_nil, T.get_set, T.puts_cons, T.puts_nil, Nat.reduceEqDiff, Nat.reduceAdd, if_true, if_false, and_true, true_and, g5, g6, g7, g8, g9, g10, h11]
end
end Go.Proofs.Ytgkolgfkcelljaa.pck

/-
  Pick: more parts of the law PickRows on the abstract machine.
-/
namespace Go.Proofs.Ytgkolgfkcelljaa.pck
open Go.Am Go.Pick
set_option linter.unusedSimpArgs false
set_option linter.unusedVariables false
set_option linter.unusedVariables false
set_option maxRecDepth 20000

section
variable {D : Mem} {xo y bv : Value} {f i by_ : Nat} {own : List Nat} {r : Row} {t : T Value} {K : Ex → St → Prop}
set_option maxHeartbeats 8000000 in
/-- The row ahead is of another tier. -/
theorem rows_ahead (f2 : 2 ≤ f) (hob : ∀ n ∈ own, n ≤ 40000) (hO : Own D own xo) (hi1000 : i < 1000000) (h3 : r.b ≤ own.length) (h1 : r.a < r.b) (hlen : own.length ≤ 60) (hne : 0 < i → 0 < r.a ∧ tier f (own.getD (r.a - 1) 0) ≠ r.t) (hp : Sl t (rwS xo y bv f r.a i)) (h11 : t.get 11 = some (.int .i64 (r.t : Int)))
    (hK : ∀ t', Sl t' (rwS xo y bv f r.a i) → t'.get 11 = some (.int .i64 (r.t : Int)) → K .nrm ⟨t', 216, [], D, none⟩) : W tb1 (.seq (sub c3b1 [1,0,0,1,1,1,0,0]) (sub c3b1 [1,0,0,1,1,1,0,1])) ⟨t, 216, [], D, none⟩ K := by
  obtain ⟨g5, g6, g7, g8, g9, g10, -⟩ := hp
  apply W.seq
  by_cases h0 : 0 < i
  · obtain ⟨ha, hn⟩ := hne h0
    obtain ⟨p, hpx, hpl⟩ := hO.at (show r.a - 1 < own.length by omega)
    have hoj : own.getD (r.a - 1) 0 ≤ 40000 := by
      rw [List.getD, List.getElem?_eq_getElem (show r.a - 1 < own.length by omega)]; exact hob _ (List.getElem_mem _)
    have hk9 := fun ih => k9 (ih := ih) (A := D) (n := own.getD (r.a - 1) 0) (f := f) f2 (by omega)
    have hsub : intOpF .sub .i64 ((r.a : Nat) : Int) ((1 : Nat) : Int) = .ok (.int .i64 ((r.a - 1 : Nat) : Int)) := op_sub_i64 (by omega) (by omega)
    apply W.run 20
    · intro M
      simp (config := { maxSteps := 4000000 }) (disch := first | decide +kernel | (rw [wantF_guard]; simp only [wantD_some, dstAt_zero, dstAt_succ, T.get_set, T.get_e, Nat.reduceEqDiff, if_true, if_false, wantV_bool, wantV_unit, unitV, cond_true, cond_false, Bool.not_true, Bool.not_false, List.toList_toArray]) | omega) only [c3b1, c3, Try.f3, Option.getD_some, sub_seq1, sub_seq0, sub_block, sub_loop, sub_nil, exec_region, runOps_cons, opF_move, ev_tmp, g10, evG_some, putT_some, opF_ari, T.get_set, if_true, ev_int, Nat.reduceEqDiff, if_false, R.ok_bind, binF_int, op_gtr, cast_lt, h0, decide_true, runOps_yes, g5, g8, opF_indexAddr, opF_load, g6, opF_call, evs, resK, h11, opF_eql, opF_pick, pickF, ev_bool, runOps_nil, hsub, hpx, hpl, hk9, op_eql, hn, decide_false]
      with_reducible rfl
    show W tb1 _ _ _
    apply W.run 20
    · intro M
      simp (config := { maxSteps := 4000000 }) (disch := first | decide +kernel | (rw [wantF_guard]; simp only [wantD_some, dstAt_zero, dstAt_succ, T.get_set, T.get_e, Nat.reduceEqDiff, if_true, if_false, wantV_bool, wantV_unit, unitV, cond_true, cond_false, Bool.not_true, Bool.not_false, List.toList_toArray]) | omega) only [c3b1, c3, Try.f3, Option.getD_some, sub_seq1, sub_seq0, sub_block, sub_loop, sub_nil, exec_cond, ev_tmp, T.get_set, Nat.reduceEqDiff, if_false, if_true, evG_some, exec_seq, exec_region, runOps_cons, opF_assign, ev_bool, putT_some, runOps_nil, R.ok_bind, exec_ret, exec_skip]
      with_reducible rfl
    apply hK
    · unfold rwS; simp only [Sl_cons, Sl_nil, T.get_set, T.puts_cons, T.puts_nil, Nat.reduceEqDiff, Nat.reduceAdd, if_true, if_false, and_true, true_and, g5, g6, g7, g8, g9, g10]
    · simp only [T.get_set, Nat.reduceEqDiff, if_true, if_false, h11]
  · apply W.run 20
    · intro M
      simp (config := { maxSteps := 4000000 }) (disch := first | decide +kernel | (rw [wantF_guard]; simp only [wantD_some, dstAt_zero, dstAt_succ, T.get_set, T.get_e, Nat.reduceEqDiff, if_true, if_false, wantV_bool, wantV_unit, unitV, cond_true, cond_false, Bool.not_true, Bool.not_false, List.toList_toArray]) | omega) only [c3b1, c3, Try.f3, Option.getD_some, sub_seq1, sub_seq0, sub_block, sub_loop, sub_nil, exec_region, runOps_cons, opF_move, ev_tmp, g10, evG_some, putT_some, opF_ari, T.get_set, if_true, ev_int, Nat.reduceEqDiff, if_false, R.ok_bind, binF_int, op_gtr, cast_lt, h0, decide_false, runOps_no, opF_pick, pickF, ev_bool, runOps_nil]
      with_reducible rfl
    show W tb1 _ _ _
    apply W.run 20
    · intro M
      simp (config := { maxSteps := 4000000 }) (disch := first | decide +kernel | (rw [wantF_guard]; simp only [wantD_some, dstAt_zero, dstAt_succ, T.get_set, T.get_e, Nat.reduceEqDiff, if_true, if_false, wantV_bool, wantV_unit, unitV, cond_true, cond_false, Bool.not_true, Bool.not_false, List.toList_toArray]) | omega) only [c3b1, c3, Try.f3, Option.getD_some, sub_seq1, sub_seq0, sub_block, sub_loop, sub_nil, exec_cond, ev_tmp, T.get_set, Nat.reduceEqDiff, if_false, if_true, evG_some, exec_seq, exec_region, runOps_cons, opF_assign, ev_bool, putT_some, runOps_nil, R.ok_bind, exec_ret, exec_skip]
      with_reducible rfl
    apply hK
    · unfold rwS; simp only [Sl_cons, Sl_nil, T.get_set, T.puts_cons, T.puts_nil, Nat.reduceEqDiff, Nat.reduceAdd, if_true, if_false, and_true, true_and, g5, g6, g7, g8, g9, g10]
    · simp only [T.get_set, Nat.reduceEqDiff, if_true, if_false, h11]
theorem ev_neg1c (t : T Value) : ev t (.const (.int .i64 (-1))) = .ok (.int .i64 (-1)) := rfl
theorem neg1_lt : ((-1 : Int) < ((0 : Nat) : Int)) = True := by simp
set_option maxHeartbeats 8000000 in
/-- The best one so far. -/
theorem rows_best {rs : List Row} {bo : Option Nat} (f2 : 2 ≤ f) (hf9 : f ≤ 9) (hob : ∀ n ∈ own, n ≤ 40000) (hO : Own D own xo) (hS : SlcM D 28 2 by_ (pairs rs) y) (hr : rs[i]? = some r) (h1 : r.a < r.b) (h3 : r.b ≤ own.length) (hlen : own.length ≤ 60) (hall : ∀ s ∈ rs, s.a < own.length ∧ tier f (own.getD s.a 0) = s.t) (hb : bestP f rs i bo) (hp : Sl t (rwS xo y (bestV bo) f r.b i)) (h11 : t.get 11 = some (.int .i64 (r.t : Int)))
    (hK : ∀ t' bo', bestP f rs (i + 1) bo' → Sl t' (rwS xo y (bestV bo') f r.b i) → K .nrm ⟨t', 216, [], D, none⟩) : W tb1 (.seq (sub c3b1 [1,0,0,1,1,1,1,1,0]) (sub c3b1 [1,0,0,1,1,1,1,1,1])) ⟨t, 216, [], D, none⟩ K := by
  obtain ⟨g5, g6, g7, g8, g9, g10, -⟩ := hp
  obtain ⟨ix, l0, l1⟩ := row_at hS hr
  have hsub : intOpF .sub .i64 ((r.b : Nat) : Int) ((r.a : Nat) : Int) = .ok (.int .i64 ((r.b - r.a : Nat) : Int)) := op_sub_i64 (by omega) (by omega)
  have hstep := best_step (f := f) hr
  have hi : i < rs.length := (List.getElem?_eq_some_iff.1 hr).1
  apply W.seq
  by_cases hfull : f ≤ r.b - r.a
  · have hfr : fullR f r = true := by unfold fullR; rw [decide_eq_true hfull]
    rw [if_pos hfr] at hstep
    cases bo with
    | none =>
      have hb' : ((rs.take i).filter (fullR f)).foldl better none = none := hb
      rw [hb'] at hstep
      have g9' : t.get 9 = some (.int .i64 (-1)) := g9
      apply W.run 20
      · intro M
        simp (config := { maxSteps := 4000000 }) (disch := first | decide +kernel | (rw [wantF_guard]; simp only [wantD_some, dstAt_zero, dstAt_succ, T.get_set, T.get_e, Nat.reduceEqDiff, if_true, if_false, wantV_bool, wantV_unit, unitV, cond_true, cond_false, Bool.not_true, Bool.not_false, List.toList_toArray]) | omega) only [c3b1, c3, Try.f3, Option.getD_some, sub_seq1, sub_seq0, sub_block, sub_loop, sub_nil, exec_draw, runOps_cons, opF_move, ev_tmp, g7, evG_some, putT_some, T.get_set, Nat.reduceEqDiff, g10, if_false, opF_indexAddr, if_true, ev_int, opF_load, opF_ari, g6, R.ok_bind, ix, ia28_0, l0, ia28_1, l1, binF_int, hsub, op_geq, cast_le, hfull, decide_true, runOps_yes, g9', op_lssI, neg1_lt, runOps_no, opF_pick, pickF, ev_bool, runOps_nil]
        with_reducible rfl
      show W tb1 _ _ _
      apply W.run 20
      · intro M
        simp (config := { maxSteps := 4000000 }) (disch := first | decide +kernel | (rw [wantF_guard]; simp only [wantD_some, dstAt_zero, dstAt_succ, T.get_set, T.get_e, Nat.reduceEqDiff, if_true, if_false, wantV_bool, wantV_unit, unitV, cond_true, cond_false, Bool.not_true, Bool.not_false, List.toList_toArray]) | omega) only [c3b1, c3, Try.f3, Option.getD_some, sub_seq1, sub_seq0, sub_block, sub_loop, sub_nil, exec_cond, ev_tmp, T.get_set, Nat.reduceEqDiff, if_false, if_true, evG_some, exec_region, runOps_cons, opF_move, g10, putT_some, opF_assign, runOps_nil, R.ok_bind, exec_skip]
        with_reducible rfl
      refine hK _ (some i) ⟨by omega, r, hr, hstep⟩ ?_
      unfold rwS bestV; simp only [Sl_cons, Sl_nil, T.get_set, T.puts_cons, T.puts_nil, Nat.reduceEqDiff, Nat.reduceAdd, if_true, if_false, and_true, true_and, g5, g6, g7, g8, g10]
    | some j =>
      obtain ⟨hji, s, hsj, hb'⟩ := hb
      rw [hb'] at hstep
      have g9' : t.get 9 = some (.int .i64 (j : Int)) := g9
      obtain ⟨jx, k0, k1⟩ := row_at hS hsj
      obtain ⟨hsa, hst⟩ := hall s (List.mem_of_getElem? hsj)
      obtain ⟨p, hpx, hpl⟩ := hO.at hsa
      have hoj : own.getD s.a 0 ≤ 40000 := by
        rw [List.getD, List.getElem?_eq_getElem hsa]; exact hob _ (List.getElem_mem _)
      have hk9 := fun ih => k9 (ih := ih) (A := D) (n := own.getD s.a 0) (f := f) f2 (by omega)
      rw [hst] at hk9
      by_cases hle : r.t ≤ s.t
      · have e : better (some s) r = some r := by unfold better; simp only [show ¬ s.t < r.t by omega, if_false]
        rw [e] at hstep
        apply W.run 20
        · intro M
          simp (config := { maxSteps := 4000000 }) (disch := first | decide +kernel | (rw [wantF_guard]; simp only [wantD_some, dstAt_zero, dstAt_succ, T.get_set, T.get_e, Nat.reduceEqDiff, if_true, if_false, wantV_bool, wantV_unit, unitV, cond_true, cond_false, Bool.not_true, Bool.not_false, List.toList_toArray]) | omega) only [c3b1, c3, Try.f3, Option.getD_some, sub_seq1, sub_seq0, sub_block, sub_loop, sub_nil, exec_draw, runOps_cons, opF_move, ev_tmp, g7, evG_some, putT_some, T.get_set, Nat.reduceEqDiff, g10, if_false, opF_indexAddr, if_true, ev_int, opF_load, opF_ari, g6, R.ok_bind, ix, ia28_0, l0, ia28_1, l1, binF_int, hsub, op_geq, cast_le, hfull, decide_true, runOps_yes, g9', op_lssI, cast_lt, Nat.not_lt_zero, decide_false, h11, g5, opF_call, evs, resK, opF_pick, pickF, ev_bool, runOps_nil, jx, k0, hpx, hpl, hk9, op_leq, hle]
          with_reducible rfl
        show W tb1 _ _ _
        apply W.run 20
        · intro M
          simp (config := { maxSteps := 4000000 }) (disch := first | decide +kernel | (rw [wantF_guard]; simp only [wantD_some, dstAt_zero, dstAt_succ, T.get_set, T.get_e, Nat.reduceEqDiff, if_true, if_false, wantV_bool, wantV_unit, unitV, cond_true, cond_false, Bool.not_true, Bool.not_false, List.toList_toArray]) | omega) only [c3b1, c3, Try.f3, Option.getD_some, sub_seq1, sub_seq0, sub_block, sub_loop, sub_nil, exec_cond, ev_tmp, T.get_set, Nat.reduceEqDiff, if_false, if_true, evG_some, exec_region, runOps_cons, opF_move, g10, putT_some, opF_assign, runOps_nil, R.ok_bind, exec_skip]
          with_reducible rfl
        refine hK _ (some i) ⟨by omega, r, hr, hstep⟩ ?_
        unfold rwS bestV; simp only [Sl_cons, Sl_nil, T.get_set, T.puts_cons, T.puts_nil, Nat.reduceEqDiff, Nat.reduceAdd, if_true, if_false, and_true, true_and, g5, g6, g7, g8, g10]
      · have e : better (some s) r = some s := by unfold better; simp only [show s.t < r.t by omega, if_true]
        rw [e] at hstep
        apply W.run 20
        · intro M
          simp (config := { maxSteps := 4000000 }) (disch := first | decide +kernel | (rw [wantF_guard]; simp only [wantD_some, dstAt_zero, dstAt_succ, T.get_set, T.get_e, Nat.reduceEqDiff, if_true, if_false, wantV_bool, wantV_unit, unitV, cond_true, cond_false, Bool.not_true, Bool.not_false, List.toList_toArray]) | omega) only [c3b1, c3, Try.f3, Option.getD_some, sub_seq1, sub_seq0, sub_block, sub_loop, sub_nil, exec_draw, runOps_cons, opF_move, ev_tmp, g7, evG_some, putT_some, T.get_set, Nat.reduceEqDiff, g10, if_false, opF_indexAddr, if_true, ev_int, opF_load, opF_ari, g6, R.ok_bind, ix, ia28_0, l0, ia28_1, l1, binF_int, hsub, op_geq, cast_le, hfull, decide_true, runOps_yes, g9', op_lssI, cast_lt, Nat.not_lt_zero, decide_false, h11, g5, opF_call, evs, resK, opF_pick, pickF, ev_bool, runOps_nil, jx, k0, hpx, hpl, hk9, op_leq, hle]
          with_reducible rfl
        show W tb1 _ _ _
        apply W.run 20
        · intro M
          simp (config := { maxSteps := 4000000 }) (disch := first | decide +kernel | (rw [wantF_guard]; simp only [wantD_some, dstAt_zero, dstAt_succ, T.get_set, T.get_e, Nat.reduceEqDiff, if_true, if_false, wantV_bool, wantV_unit, unitV, cond_true, cond_false, Bool.not_true, Bool.not_false, List.toList_toArray]) | omega) only [c3b1, c3, Try.f3, Option.getD_some, sub_seq1, sub_seq0, sub_block, sub_loop, sub_nil, exec_cond, ev_tmp, T.get_set, Nat.reduceEqDiff, if_false, if_true, evG_some, exec_region, runOps_cons, opF_move, putT_some, opF_assign, runOps_nil, R.ok_bind, exec_skip]
          with_reducible rfl
        refine hK _ (some j) ⟨by omega, s, hsj, hstep⟩ ?_
        unfold rwS bestV; simp only [Sl_cons, Sl_nil, T.get_set, T.puts_cons, T.puts_nil, Nat.reduceEqDiff, Nat.reduceAdd, if_true, if_false, and_true, true_and, g5, g6, g7, g8, g9', g10]
  · have hfr : fullR f r = false := by unfold fullR; rw [decide_eq_false hfull]
    rw [if_neg (by rw [hfr]; decide)] at hstep
    apply W.run 20
    · intro M
      simp (config := { maxSteps := 4000000 }) (disch := first | decide +kernel | (rw [wantF_guard]; simp only [wantD_some, dstAt_zero, dstAt_succ, T.get_set, T.get_e, Nat.reduceEqDiff, if_true, if_false, wantV_bool, wantV_unit, unitV, cond_true, cond_false, Bool.not_true, Bool.not_false, List.toList_toArray]) | omega) only [c3b1, c3, Try.f3, Option.getD_some, sub_seq1, sub_seq0, sub_block, sub_loop, sub_nil, exec_draw, runOps_cons, opF_move, ev_tmp, g7, evG_some, putT_some, T.get_set, Nat.reduceEqDiff, g10, if_false, opF_indexAddr, if_true, ev_int, opF_load, opF_ari, g6, R.ok_bind, ix, ia28_0, l0, ia28_1, l1, binF_int, hsub, op_geq, cast_le, hfull, decide_false, runOps_no, opF_pick, pickF, ev_bool, runOps_nil]
      with_reducible rfl
    show W tb1 _ _ _
    apply W.run 20
    · intro M
      simp (config := { maxSteps := 4000000 }) (disch := first | decide +kernel | (rw [wantF_guard]; simp only [wantD_some, dstAt_zero, dstAt_succ, T.get_set, T.get_e, Nat.reduceEqDiff, if_true, if_false, wantV_bool, wantV_unit, unitV, cond_true, cond_false, Bool.not_true, Bool.not_false, List.toList_toArray]) | omega) only [c3b1, c3, Try.f3, Option.getD_some, sub_seq1, sub_seq0, sub_block, sub_loop, sub_nil, exec_cond, ev_tmp, T.get_set, Nat.reduceEqDiff, if_false, if_true, evG_some, exec_region, runOps_cons, opF_move, putT_some, opF_assign, runOps_nil, R.ok_bind, exec_skip]
      with_reducible rfl
    refine hK _ bo ?_ ?_
    · cases bo with
      | none =>
        show List.foldl _ _ _ = _
        rw [hstep]; exact hb
      | some j =>
        obtain ⟨hji, s, hsj, hb'⟩ := hb
        exact ⟨by omega, s, hsj, by rw [hstep]; exact hb'⟩
    · unfold rwS; simp only [Sl_cons, Sl_nil, T.get_set, T.puts_cons, T.puts_nil, Nat.reduceEqDiff, Nat.reduceAdd, if_true, if_false, and_true, true_and, g5, g6, g7, g8, g9, g10]
end
end Go.Proofs.Ytgkolgfkcelljaa.pck

