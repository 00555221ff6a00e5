/-
  What the functions of this group compute on the abstract machine, and the plain laws of it. Part E: conditions stand in each theorem.
-/
import Derived.Test.YtmhldlnlgjpkaaaScrD

/-
  Script: a setting, as the document's.
-/
namespace Go.Proofs.Ytmhldlnlgjpkaaa.scr
open Go.Am
set_option linter.unusedSimpArgs false
set_option linter.unusedVariables false
set_option linter.unusedVariables false
set_option maxRecDepth 20000

theorem bf48 (a b q : Int) : buildF tb1 48 [(0, .agg ⟨[.int .i64 a, .int .i64 b]⟩), (1, .int .i64 q)] = .ok (.agg ⟨[.int .i64 a, .int .i64 b, .int .i64 q, .slice none 0 0]⟩) := by kernel_rfl
theorem bf81a (a k n arm : Int) (w : List UInt8) (wt : Nat) (cut : Bool) (p : Option Addr) (m c : Nat) : buildF tb1 81 [(0, .agg ⟨[.int .i64 a, strOf w, .int .u32 (wt : Int), .int .i64 k, .int .i64 n]⟩), (1, .int .i64 arm), (2, .bool cut), (3, .slice p m c)] = .ok (.agg ⟨[.int .i64 a, strOf w, .int .u32 (wt : Int), .int .i64 k, .int .i64 n, .int .i64 arm, .bool cut, .slice p m c, .slice none 0 0]⟩) := by kernel_rfl
theorem bf92a (a : Int) (p : Option Addr) (m c : Nat) : buildF tb1 92 [(0, .int .i64 a), (1, .slice p m c)] = .ok (.agg ⟨[.int .i64 a, .slice p m c]⟩) := by kernel_rfl
theorem StR.slc {P : Nat → Prop} {A : Mem} {l : List Nat} {x : Value} (h : StR P A l x) : ∃ p n c, x = .slice p n c := by
  rcases h with ⟨rfl, -⟩ | ⟨b, -, -, h⟩
  · exact ⟨_, _, _, rfl⟩
  · rcases h with ⟨rfl, -⟩ | ⟨k, c, rfl, -⟩ <;> exact ⟨_, _, _, rfl⟩
theorem StR.low {P : Nat → Prop} {A : Mem} {l : List Nat} {x : Value} (h : StR P A l x) : StR (fun c => c < A.next) A l x := h.same (Nat.le_refl _) (fun c _ hl => ⟨hl, rfl⟩)
noncomputable def c17 : Code := Try.f17.body.getD .skip
noncomputable def c17b1 : Code := sub c17 [1,1,0,1,0,0]
noncomputable def c17b2 : Code := sub c17b1 [1,0,0,1,1,0,1,0,0]
theorem c17_eq : Try.f17.body = some (.seq (sub c17 [0]) (.seq (sub c17 [1,0]) (.seq (.seq (sub c17 [1,1,0,0]) (.block 0 (.loop c17b1))) (.seq (sub c17 [1,1,1,0]) (sub c17 [1,1,1,1]))))) := by kernel_rfl
theorem c17b1_eq : c17b1 = .seq (sub c17b1 [0]) (.seq (.block 1 (.seq (sub c17b1 [1,0,0,0]) (.seq (sub c17b1 [1,0,0,1,0]) (.seq (.seq (sub c17b1 [1,0,0,1,1,0,0]) (.block 2 (.loop c17b2))) (sub c17b1 [1,0,0,1,1,1]))))) (sub c17b1 [1,1])) := by kernel_rfl
section
variable {A C : Mem} {d : ActG} {xs xo : Value} {t : T Value} {K : Ex → St → Prop}
def asS (A C : Mem) (i : Nat) : List (Nat × Value) := [(1, .pointer (some ⟨A.next, 0, none⟩)), (2, .pointer (some ⟨A.next + 1, 0, none⟩)), (3, .pointer (some ⟨A.next + 2, 0, none⟩)), (4, .int .i64 (i : Int)), (5, .pointer (some ⟨C.next, 0, none⟩)), (6, .pointer (some ⟨C.next + 1, 0, none⟩))]
/-- The openings of an act, as the document's: a new row. -/
def OpA (A C : Mem) (ds : List (Int × List Nat)) (D : Mem) (yo : Value) : Prop := ∃ bo, (yo = .slice none 0 0 ∨ C.next + 2 ≤ bo) ∧ Lst OpP 92 2 bo (fun c => c < A.next ∨ C.next + 2 ≤ c) D ds yo
set_option maxHeartbeats 16000000 in
theorem as_opens {i : Nat} {D0 : Mem} (hE : Ext A C) (hx : OpsG A d.opening xo) (h5 : Vals D0 39 C.next (.var 9) (cellsG d xs xo)) (h6 : Vals D0 81 (C.next + 1) (.var 9) (cellsG d xs (.slice none 0 0))) (hn : D0.next = C.next + 2) (he : Ext C D0) (hp : Sl t (asS A C i))
    (hK : ∀ t' D yo, OpA A C d.opening D yo → Vals D 81 (C.next + 1) (.var 9) (cellsG d xs yo) → Ext C D → C.next + 2 ≤ D.next → Sl t' (asS A C i) → K .nrm ⟨t', 66, [], D, none⟩) :
    W tb1 (.seq (sub c17b1 [1,0,0,1,1,0,0]) (.block 2 (.loop c17b2))) ⟨t, 66, [], D0, none⟩ K := by
  obtain ⟨g1, g2, g3, g4, g5, g6, -⟩ := hp
  obtain ⟨ls, bs, hrow, hll, hbd, hall⟩ := hx
  apply W.seq
  apply W.run 20
  · intro M
    simp (config := { maxSteps := 4000000 }) (disch := first | decide +kernel | omega) only [c17b1, c17, Try.f17, Option.getD_some, sub_seq1, sub_seq0, sub_block, sub_loop, sub_nil, exec_region, runOps_cons, opF_assign, ev_int, putT_some, runOps_nil, R.ok_bind]
    with_reducible rfl
  apply W.block
  refine W.up d.opening.length (fun k t D => ∃ yo, OpA A C (d.opening.take k) D yo ∧ Vals D 39 C.next (.var 9) (cellsG d xs xo) ∧ Vals D 81 (C.next + 1) (.var 9) (cellsG d xs yo) ∧ Ext C D ∧ C.next + 2 ≤ D.next ∧ Sl t (asS A C i ++ [(7, .int .i64 (k : Int))])) ?_ (Nat.zero_le _) ⟨.slice none 0 0, ⟨0, .inl rfl, Lst.nil⟩, h5, h6, he, by omega, ?_⟩
  · rintro k t D hk ⟨yo, ⟨bo, hbo, hy⟩, v5, v6, hED, hDn, g1, g2, g3, g4, g5, g6, g7, -⟩
    have hAD := hE.trans hED
    have hAC := hE.n
    have hrD := hrow.same hAD.n (fun hl => hAD.g _ hl)
    have k5 : loadF tb1 D.get 37 (.pointer (some ⟨C.next, 8, none⟩)) = .ok xo := load_vals und37 rfl v5 rfl
    have lx := hrD.len (tb := tb1) (t := 37) und37
    rw [hll] at lx
    by_cases hlt : k < d.opening.length
    · have hli : k < ls.length := by omega
      obtain ⟨zs, hz1, hz2, hz3⟩ := hall k d.opening[k] ls[k] (List.getElem?_eq_getElem hlt) (List.getElem?_eq_getElem hli)
      have ix := hrD.idx (tb := tb1) (t := 37) (t' := 41) (kd := .i64) (i := k) und37 size41 hli
      have e0 : ls[k]? = some [.int .i64 d.opening[k].1, zs] := by rw [List.getElem?_eq_getElem hli, hz1]
      have m0 := hrD.load (tb := tb1) (t := 3) (i := k) (j := 0) und3 rfl e0 rfl (by omega)
      rw [Nat.add_zero] at m0
      have m1 := hrD.load (tb := tb1) (t := 36) (i := k) (j := 1) und36 rfl e0 rfl (by omega)
      obtain ⟨zp, zn, zc, rfl⟩ := hz2.slc
      have k6 : loadF tb1 D.get 79 (.pointer (some ⟨C.next + 1, 8, none⟩)) = .ok yo := load_vals und79 rfl v6 rfl
      have hlt2 := hy.lt
      have hop : OpP (fun c => (c < A.next ∨ C.next + 2 ≤ c) ∧ (yo = .slice none 0 0 ∨ c ≠ bo)) D d.opening[k] [.int .i64 d.opening[k].1, .slice zp zn zc] := ⟨_, rfl, hz2.low.same hAD.n (fun c hc hcl => ⟨⟨.inl hc, by
        rcases hbo with h | h
        · exact .inl h
        · exact .inr (by omega)⟩, hAD.g c hcl⟩), hz3⟩
      obtain ⟨yo', G, happ, hy', hnG, hfG⟩ := hy.push OpP.mono OpP.cells und79 zc92 ty92 (by omega) (by omega) (by rw [List.length_take]; omega) hop
      have hfr : ∀ y, y < C.next + 2 → G.get y = D.get y := fun y hy => hfG y (fun e => hbo.resolve_right (by omega)) (by omega)
      obtain ⟨H, hst, v6', hnH, hfH⟩ := store_vals (tb := tb1) (t := 79) (o := 8) (v := yo') size79 (v6.same (hfr _ (by omega))) (by simp [cellsG]) hy'.cells.1 hy'.cells.2
      apply W.run 20
      · intro M
        simp (config := { maxSteps := 4000000 }) (disch := first | decide +kernel | omega) only [c17b2, c17b1, c17, Try.f17, Option.getD_some, sub_seq1, sub_seq0, sub_block, sub_loop, sub_nil, exec_seq, exec_region, runOps_cons, opF_move, ev_tmp, g7, evG_some, putT_some, opF_fieldAddr, T.get_set, Nat.reduceEqDiff, g5, if_false, opF_load, if_true, opF_len, evs, R.ok_bind, opF_ari, runOps_nil, fa39_4, k5, lx, binF_int, op_lssI, cast_lt, hlt, decide_true, exec_cond, exec_skip, exec_exit, exec_block, exec_draw, g6, opF_indexAddr, opF_build, evp, opF_buildSlice, opF_builtin, opF_store, putT_none, fa81_4, builtin_append, ix, fa41_1', m1, fa41_0', m0, bf92a, bs79, at_slc, k6, happ, hst, ev_int, opF_assign, op_add_i64]
        with_reducible rfl
      refine ⟨hlt, _, _, rfl, yo', ⟨D.next + 1, .inr (by omega), ?_⟩, ?_, v6', ?_, by omega, ?_⟩
      · rw [List.take_succ_eq_append_getElem hlt]
        exact hy'.same OpP.mono (by omega) (.inr (fun _ => hfH _ (by omega))) (fun c hc hcl _ => ⟨hc, hfH c (by omega)⟩)
      · exact v5.same (by rw [hfH _ (by omega), hfr _ (by omega)])
      · exact ⟨by omega, fun y hy => by rw [hfH _ (by omega), hfr _ (by omega), hED.g y hy]⟩
      · unfold asS; simp only [Sl_cons, Sl_nil, T.get_set, T.puts_cons, T.puts_nil, Nat.reduceEqDiff, Nat.reduceAdd, if_true, if_false, and_true, true_and, List.cons_append, List.nil_append, g1, g2, g3, g4, g5, g6]
    · have hin : k = d.opening.length := by omega
      subst hin
      rw [List.take_length] at hy
      apply W.run 20
      · intro M
        simp (config := { maxSteps := 4000000 }) (disch := first | decide +kernel | omega) only [c17b2, c17b1, c17, Try.f17, Option.getD_some, sub_seq1, sub_seq0, sub_block, sub_loop, sub_nil, exec_seq, exec_region, runOps_cons, opF_move, ev_tmp, g7, evG_some, putT_some, opF_fieldAddr, T.get_set, Nat.reduceEqDiff, g5, if_false, opF_load, if_true, opF_len, evs, R.ok_bind, opF_ari, runOps_nil, fa39_4, k5, lx, binF_int, op_lssI, cast_lt, Nat.lt_irrefl, decide_false, exec_cond, exec_skip, exec_exit, exec_block, exec_draw]
        with_reducible rfl
      refine hK _ D yo ⟨bo, hbo, hy⟩ v6 hED hDn ?_
      unfold asS; simp only [Sl_cons, Sl_nil, T.get_set, T.puts_cons, T.puts_nil, Nat.reduceEqDiff, Nat.reduceAdd, if_true, if_false, and_true, true_and, g1, g2, g3, g4, g5, g6]
  · unfold asS; simp only [Sl_cons, Sl_nil, T.get_set, T.puts_cons, T.puts_nil, Nat.reduceEqDiff, Nat.reduceAdd, if_true, if_false, and_true, true_and, List.cons_append, List.nil_append, g1, g2, g3, g4, g5, g6]
end
set_option maxHeartbeats 32000000 in
theorem run_as {A : Mem} {s : SetG} {l : List Value} (h : SetR A s l) : ∃ l' A', Ans tb1 17 [.agg ⟨l⟩] A (.agg ⟨l'⟩) A' ∧ SetP (fun _ => True) A' s l' ∧ Ext A A' := by
  obtain ⟨v, A', ha, l', hv, h1, h2⟩ : ∃ v A', Ans tb1 17 [.agg ⟨l⟩] A v A' ∧ ∃ l', v = .agg ⟨l'⟩ ∧ SetP (fun _ => True) A' s l' ∧ Ext A A' := by
    obtain ⟨xa, rfl, ka⟩ := h
    have kac := ka.cells
    refine ans_of_W (fn_at Try.func17) c17_eq (by rw [Try.ntmps17]; simp) (by kernel_rfl) (by kernel_rfl) ?_
    have v0 : Vals (A.alloc (rowOb 28 (cellsS s xa))) 28 A.next (.var 4) (cellsS s xa) := Go.Am.vals_new A 28 _
    have n0 : (A.alloc (rowOb 28 (cellsS s xa))).next = A.next + 1 := next_alloc _ _
    have E0 := Ext.alloc A (rowOb 28 (cellsS s xa))
    have v1 : Vals ((A.alloc (rowOb 28 (cellsS s xa))).alloc (rowOb 48 [.int .i64 0, .int .i64 0, .int .i64 0, .slice none 0 0])) 48 (A.alloc (rowOb 28 (cellsS s xa))).next (.var 4) [.int .i64 0, .int .i64 0, .int .i64 0, .slice none 0 0] := Go.Am.vals_new _ 48 _
    have n1 : ((A.alloc (rowOb 28 (cellsS s xa))).alloc (rowOb 48 [.int .i64 0, .int .i64 0, .int .i64 0, .slice none 0 0])).next = A.next + 2 := by rw [next_alloc, n0]
    have E1 := Ext.alloc (A.alloc (rowOb 28 (cellsS s xa))) (rowOb 48 [.int .i64 0, .int .i64 0, .int .i64 0, .slice none 0 0])
    rw [n0] at v1
    apply W.seq
    apply W.run 20
    · intro M
      simp (config := { maxSteps := 4000000 }) (disch := first | decide +kernel | omega) only [c17, Try.f17, Option.getD_some, sub_seq0, sub_nil, T.puts_cons, Nat.reduceAdd, T.puts_nil, exec_region, runOps_cons, opF_box, ev_tmp, T.get_set, T.get_e, if_true, evG_some, at_ptr, putT_some, opF_alloc, zero48, runOps_nil, R.ok_bind, cells_agg, n0]
      with_reducible rfl
    have v0' : Vals ((A.alloc (rowOb 28 (cellsS s xa))).alloc (rowOb 48 [.int .i64 0, .int .i64 0, .int .i64 0, .slice none 0 0])) 28 A.next (.var 4) (cellsS s xa) := v0.same (E1.g _ (by omega))
    have E01 := E0.trans E1
    revert v0' v1 n1 E01
    generalize (A.alloc (rowOb 28 (cellsS s xa))).alloc (rowOb 48 [.int .i64 0, .int .i64 0, .int .i64 0, .slice none 0 0]) = B
    intro v1 n1 v0' E01
    obtain ⟨d25, hd1, hd2⟩ := und25
    have a0 := load_part (tb := tb1) (t := 25) (o := 0) (n := 2) hd1 hd2 size25 v0' (by show 2 ≤ 4; omega)
    rw [show ((cellsS s xa).drop 0).take 2 = [.int .i64 s.wal, .int .i64 s.fan] from rfl] at a0
    have a1 : loadF tb1 B.get 3 (.pointer (some ⟨A.next, 2, none⟩)) = .ok (.int .i64 s.quota) := load_vals und3 rfl v0' rfl
    have w0 : Vals (B.alloc (rowOb 48 [.int .i64 0, .int .i64 0, .int .i64 0, .slice none 0 0])) 48 B.next (.var 4) [.int .i64 0, .int .i64 0, .int .i64 0, .slice none 0 0] := Go.Am.vals_new B 48 _
    have EB := Ext.alloc B (rowOb 48 [.int .i64 0, .int .i64 0, .int .i64 0, .slice none 0 0])
    have nB := next_alloc B (rowOb 48 [.int .i64 0, .int .i64 0, .int .i64 0, .slice none 0 0])
    obtain ⟨B1, hst, w1, nB1, fB1⟩ := store_all (tb := tb1) (t := 48) (l' := cellsS s (.slice none 0 0)) (by rw [size48]; rfl) w0 rfl (by simp) (fun v hv => by
      simp only [cellsS, List.mem_cons, List.not_mem_nil, or_false] at hv
      rcases hv with rfl | rfl | rfl | rfl <;> rfl)
    have EB1 : Ext B B1 := EB.put (b := B.next) (Nat.le_refl _) nB1 fB1
    have hst' : storeF tb1 (B.alloc (rowOb 48 [.int .i64 0, .int .i64 0, .int .i64 0, .slice none 0 0])) 48 (.pointer (some ⟨B.next, 0, none⟩)) (.agg ⟨[.int .i64 s.wal, .int .i64 s.fan, .int .i64 s.quota, .slice none 0 0]⟩) = .ok B1 := hst
    apply W.seq
    apply W.run 20
    · intro M
      simp (config := { maxSteps := 4000000 }) (disch := first | decide +kernel | omega) only [c17, Try.f17, Option.getD_some, sub_seq1, sub_seq0, sub_nil, exec_region, runOps_cons, opF_fieldAddr, ev_tmp, T.get_set, Nat.reduceEqDiff, T.get_e, if_false, if_true, evG_some, putT_some, opF_load, opF_build, evp, R.ok_bind, opF_alloc, zero48, at_ptr, opF_store, putT_none, runOps_nil, cells_agg, fa28_1, a1, fa28_0, a0, bf48, hst']
      with_reducible rfl
    rw [n1] at w1 nB
    have E1' := E01.trans EB1
    apply W.seq
    apply W.seq
    apply W.run 20
    · intro M
      simp (config := { maxSteps := 4000000 }) (disch := first | decide +kernel | omega) only [c17, Try.f17, Option.getD_some, sub_seq1, sub_seq0, sub_nil, exec_region, runOps_cons, opF_assign, ev_int, putT_some, runOps_nil, R.ok_bind]
      with_reducible rfl
    apply W.block
    refine W.up s.acts.length (fun i t C => ∃ y bA, Ext A C ∧ A.next + 3 ≤ C.next ∧ Vals C 28 A.next (.var 4) (cellsS s xa) ∧ Vals C 48 (A.next + 1) (.var 4) [.int .i64 0, .int .i64 0, .int .i64 0, .slice none 0 0] ∧ Vals C 48 (A.next + 2) (.var 4) (cellsS s y) ∧ (y = .slice none 0 0 ∨ A.next + 3 ≤ bA) ∧ Lst ActP 81 9 bA (fun c => c < A.next ∨ A.next + 3 ≤ c) C (s.acts.take i) y ∧
      Sl t [(1, .pointer (some ⟨A.next, 0, none⟩)), (2, .pointer (some ⟨A.next + 1, 0, none⟩)), (3, .pointer (some ⟨A.next + 2, 0, none⟩)), (4, .int .i64 (i : Int))]) ?_ (Nat.zero_le _) ⟨.slice none 0 0, 0, E1', by omega, v0'.same (EB1.g _ (by omega)), v1.same (EB1.g _ (by omega)), w1, .inl rfl, Lst.nil, ?_⟩
    · rintro i t C hi ⟨y, bA, hE, hCn, u1, u2, u3, hb, hy, g1, g2, g3, g4, -⟩
      have lC : loadF tb1 C.get 26 (.pointer (some ⟨A.next, 3, none⟩)) = .ok xa := load_vals und26 rfl u1 rfl
      have kaC := ka.ext hE
      have lx := kaC.len
      have hac : s.acts.length ≤ 1000 := by obtain ⟨_, _, _, _, h, _⟩ := ka; exact h
      rw [c17b1_eq]
      apply W.seq
      by_cases hlt : i < s.acts.length
      · obtain ⟨ls, bs, hrow, hll, -, hall⟩ := ka
        have hrC := hrow.same hE.n (fun hl => hE.g _ hl)
        have hli : i < ls.length := by omega
        have hact := hall i s.acts[i] ls[i] (List.getElem?_eq_getElem hlt) (List.getElem?_eq_getElem hli)
        have ix := hrC.idx (tb := tb1) (t := 26) (t' := 39) (kd := .i64) (i := i) und26 size39 hli
        obtain ⟨d39, hq1, hq2⟩ := und39
        have lld := hrC.load_all (tb := tb1) (t := 39) hq1 hq2 size39 (List.getElem?_eq_getElem hli)
        have hcl := hact.cells
        generalize ls[i] = la at hact lld hcl
        obtain ⟨xs, xo, rfl, k2, k3, k4⟩ := hact
        obtain ⟨zp, zn, zc, rfl⟩ := k2.slc
        have r0 : Vals (C.alloc (rowOb 39 zero9)) 39 C.next (.var 9) zero9 := Go.Am.vals_new C 39 _
        have nr0 : (C.alloc (rowOb 39 zero9)).next = C.next + 1 := next_alloc _ _
        obtain ⟨C1, st1, r1, nC1, fC1⟩ := store_all (tb := tb1) (t := 39) (l' := cellsG s.acts[i] (.slice zp zn zc) xo) (by rw [size39]; rfl) r0 (by rw [hcl.1]; rfl) (by simp [zero9]) hcl.2
        have eC1 : Ext C C1 := (Ext.alloc C _).put (b := C.next) (Nat.le_refl _) nC1 fC1
        have st1' : storeF tb1 (C.alloc (rowOb 39 [.int .i64 0, .string ⟨#[]⟩, .int .u32 0, .int .i64 0, .int .i64 0, .int .i64 0, .bool false, .slice none 0 0, .slice none 0 0])) 39 (.pointer (some ⟨C.next, 0, none⟩)) (.agg ⟨cellsG s.acts[i] (.slice zp zn zc) xo⟩) = .ok C1 := st1
        have r2 : Vals (C1.alloc (rowOb 81 zero9)) 81 C1.next (.var 9) zero9 := Go.Am.vals_new C1 81 _
        have nr2 : (C1.alloc (rowOb 81 zero9)).next = C1.next + 1 := next_alloc _ _
        obtain ⟨C2, st2, r3, nC2, fC2⟩ := store_all (tb := tb1) (t := 81) (l' := cellsG s.acts[i] (.slice zp zn zc) (.slice none 0 0)) (by rw [size81]; rfl) r2 rfl (by simp [zero9]) (fun v hv => by
          simp only [cellsG, List.mem_cons, List.not_mem_nil, or_false] at hv
          rcases hv with rfl | rfl | rfl | rfl | rfl | rfl | rfl | rfl | rfl <;> rfl)
        have eC2 : Ext C1 C2 := (Ext.alloc C1 _).put (b := C1.next) (Nat.le_refl _) nC2 fC2
        have st2' : storeF tb1 (C1.alloc (rowOb 81 [.int .i64 0, .string ⟨#[]⟩, .int .u32 0, .int .i64 0, .int .i64 0, .int .i64 0, .bool false, .slice none 0 0, .slice none 0 0])) 81 (.pointer (some ⟨C1.next, 0, none⟩)) (.agg ⟨[.int .i64 s.acts[i].kind, strOf s.acts[i].word, .int .u32 (s.acts[i].weight : Int), .int .i64 s.acts[i].k, .int .i64 s.acts[i].n, .int .i64 s.acts[i].arm, .bool s.acts[i].cut, .slice zp zn zc, .slice none 0 0]⟩) = .ok C2 := st2
        obtain ⟨d35, hd1, hd2⟩ := und35
        have p0 := load_part (tb := tb1) (t := 35) (o := 0) (n := 5) hd1 hd2 size35 r1 (by show 5 ≤ 9; omega)
        rw [show ((cellsG s.acts[i] (.slice zp zn zc) xo).drop 0).take 5 = [.int .i64 s.acts[i].kind, strOf s.acts[i].word, .int .u32 (s.acts[i].weight : Int), .int .i64 s.acts[i].k, .int .i64 s.acts[i].n] from rfl] at p0
        have p1 : loadF tb1 C1.get 3 (.pointer (some ⟨C.next, 5, none⟩)) = .ok (.int .i64 s.acts[i].arm) := load_vals und3 rfl r1 rfl
        have p2 : loadF tb1 C1.get 4 (.pointer (some ⟨C.next, 6, none⟩)) = .ok (.bool s.acts[i].cut) := load_vals und4 rfl r1 rfl
        have p3 : loadF tb1 C1.get 36 (.pointer (some ⟨C.next, 7, none⟩)) = .ok (.slice zp zn zc) := load_vals und36 rfl r1 rfl
        have nC1' : C1.next = C.next + 1 := by rw [nC1, nr0]
        apply W.run 20
        · intro M
          simp (config := { maxSteps := 4000000 }) (disch := first | decide +kernel | omega) only [c17b1, c17, Try.f17, Option.getD_some, sub_seq1, sub_seq0, sub_block, sub_loop, sub_nil, exec_seq, exec_region, runOps_cons, opF_move, ev_tmp, g4, evG_some, putT_some, opF_fieldAddr, T.get_set, Nat.reduceEqDiff, g1, if_false, opF_load, if_true, opF_len, evs, R.ok_bind, opF_ari, runOps_nil, fa28_2, lC, lx, binF_int, op_lssI, cast_lt, hlt, decide_true, exec_cond, exec_skip, exec_exit]
          with_reducible rfl
        apply W.seq
        apply W.block
        apply W.seq
        apply W.run 20
        · intro M
          simp (config := { maxSteps := 4000000 }) (disch := first | decide +kernel | omega) only [c17b1, c17, Try.f17, Option.getD_some, sub_seq1, sub_seq0, sub_block, sub_loop, sub_nil, exec_region, runOps_cons, opF_fieldAddr, ev_tmp, T.get_set, Nat.reduceEqDiff, g1, if_false, evG_some, putT_some, opF_load, if_true, opF_move, g4, opF_indexAddr, opF_alloc, zero39, at_ptr, opF_store, putT_none, runOps_nil, R.ok_bind, cells_agg, fa28_2, lC, ix, lld, st1']
          with_reducible rfl
        apply W.seq
        apply W.run 20
        · intro M
          simp (config := { maxSteps := 4000000 }) (disch := first | decide +kernel | omega) only [c17b1, c17, Try.f17, Option.getD_some, sub_seq1, sub_seq0, sub_block, sub_loop, sub_nil, exec_region, runOps_cons, opF_fieldAddr, ev_tmp, T.get_set, Nat.reduceEqDiff, if_false, if_true, evG_some, putT_some, opF_load, opF_build, evp, R.ok_bind, opF_alloc, zero81, at_ptr, opF_store, putT_none, runOps_nil, cells_agg, fa39_3, p3, fa39_2, p2, fa39_1, p1, fa39_0, p0, bf81a, st2']
          with_reducible rfl
        rw [nC1'] at r3
        apply W.seq
        refine as_opens (A := A) (C := C) (d := s.acts[i]) (xs := .slice zp zn zc) (xo := xo) (i := i) hE k4 (r1.same (eC2.g _ (by omega))) r3 (by omega) (eC1.trans eC2) ?_ ?_
        · unfold asS; simp only [Sl_cons, Sl_nil, T.get_set, T.puts_cons, T.puts_nil, Nat.reduceEqDiff, Nat.reduceAdd, if_true, if_false, and_true, true_and, g1, g2, g3, g4, nC1']
        rintro t' D yo ⟨bo, hbo, hyo⟩ v6 hED hDn ⟨q1, q2, q3, q4, q5, q6, -⟩
        have hAD := hE.trans hED
        obtain ⟨d81, hw1, hw2⟩ := und81
        have l6 := Go.Am.load_all (tb := tb1) (t := 81) hw1 hw2 (by rw [size81]; rfl) v6
        have u3D := u3.same (hED.g _ (by omega))
        have lo : loadF tb1 D.get 46 (.pointer (some ⟨A.next + 2, 3, none⟩)) = .ok y := load_vals und46 rfl u3D rfl
        have hlt3 := hy.lt
        have hyD : Lst ActP 81 9 bA (fun c => c < A.next ∨ A.next + 3 ≤ c) D (s.acts.take i) y := hy.same ActP.mono hED.n (.inr (fun hl => hED.g _ hl)) (fun c hc hcl _ => ⟨hc, hED.g c hcl⟩)
        have hkn : ∀ c, (c < A.next ∨ C.next + 2 ≤ c) → (c < A.next ∨ A.next + 3 ≤ c) ∧ (y = .slice none 0 0 ∨ c ≠ bA) := fun c hc => ⟨by omega, by
          rcases hb with h | h
          · exact .inl h
          · rcases hlt3 with h3 | h3
            · exact .inl h3
            · exact .inr (by omega)⟩
        have hact2 : ActP (fun c => (c < A.next ∨ A.next + 3 ≤ c) ∧ (y = .slice none 0 0 ∨ c ≠ bA)) D s.acts[i] (cellsG s.acts[i] (.slice zp zn zc) yo) := by
          refine ⟨_, yo, rfl, k2.low.same hAD.n (fun c hc hcl => ⟨hkn c (.inl hc), hAD.g c hcl⟩), k3, bo, ?_, ?_, ?_⟩
          · rcases hbo with h | h
            · exact .inl h
            · exact .inr (hkn bo (.inr h))
          · obtain ⟨_, _, _, _, h, _⟩ := k4; exact h
          · exact hyo.same OpP.mono (Nat.le_refl _) (.inr (fun _ => rfl)) (fun c hc hcl _ => ⟨hkn c hc, rfl⟩)
        obtain ⟨y', G, happ, hy', hnG, hfG⟩ := hyD.push ActP.mono ActP.cells und46 zc81 ty81 (by omega) (by omega) (by rw [List.length_take]; omega) hact2
        have hfr : ∀ z, z < A.next + 3 → G.get z = D.get z := fun z hz => hfG z (fun e => hb.resolve_right (by omega)) (by omega)
        obtain ⟨H, hstH, u3', hnH, hfH⟩ := store_vals (tb := tb1) (t := 46) (o := 3) (v := y') size46 (u3D.same (hfr _ (by omega))) (by simp [cellsS]) hy'.cells.1 hy'.cells.2
        have bsl : buildSliceF tb1 46 1 [(0, .agg ⟨cellsG s.acts[i] (.slice zp zn zc) yo⟩)] = .ok (rowOb 81 (cellsG s.acts[i] (.slice zp zn zc) yo), .slc 1 2) := bs46 _ _ _ _ _ _ _ _ _
        show W tb1 _ _ _
        apply W.run 20
        · intro M
          simp (config := { maxSteps := 4000000 }) (disch := first | decide +kernel | omega) only [c17b1, c17, Try.f17, Option.getD_some, sub_seq1, sub_seq0, sub_block, sub_loop, sub_nil, exec_region, runOps_cons, opF_fieldAddr, ev_tmp, q3, evG_some, putT_some, opF_load, T.get_set, if_true, Nat.reduceEqDiff, q6, if_false, opF_buildSlice, evp, R.ok_bind, opF_builtin, evs, opF_store, putT_none, runOps_nil, fa48_2, builtin_append, l6, bsl, at_slc, lo, happ, hstH]
          with_reducible rfl
        show W tb1 _ _ _
        apply W.run 20
        · intro M
          simp (config := { maxSteps := 4000000 }) (disch := first | decide +kernel | omega) only [c17b1, c17, Try.f17, Option.getD_some, sub_seq1, sub_seq0, sub_block, sub_loop, sub_nil, exec_region, runOps_cons, opF_move, ev_tmp, T.get_set, Nat.reduceEqDiff, q4, if_false, evG_some, putT_some, opF_ari, if_true, ev_int, opF_assign, runOps_nil, R.ok_bind, binF_int, op_add_i64]
          with_reducible rfl
        refine ⟨hlt, _, _, rfl, y', D.next + 1, ⟨by omega, fun z hz => by rw [hfH z (by omega), hfr z (by omega), hAD.g z hz]⟩, by omega, ?_, ?_, u3', .inr (by omega), ?_, ?_⟩
        · exact u1.same (by rw [hfH _ (by omega), hfr _ (by omega), hED.g _ (by omega)])
        · exact u2.same (by rw [hfH _ (by omega), hfr _ (by omega), hED.g _ (by omega)])
        · rw [List.take_succ_eq_append_getElem hlt]
          exact hy'.same ActP.mono (by omega) (.inr (fun _ => hfH _ (by omega))) (fun c hc hcl _ => ⟨hc, hfH c (by omega)⟩)
        · simp only [Sl_cons, Sl_nil, T.get_set, T.puts_cons, T.puts_nil, Nat.reduceEqDiff, Nat.reduceAdd, if_true, if_false, and_true, true_and, q1, q2, q3]
      · have hin : i = s.acts.length := by omega
        subst hin
        rw [List.take_length] at hy
        obtain ⟨d48, hw1, hw2⟩ := und48
        have l3 := Go.Am.load_all (tb := tb1) (t := 48) hw1 hw2 (by rw [size48]; rfl) u3
        have hyc := hy.cells
        obtain ⟨D, stD, vD, nD, fD⟩ := store_all (tb := tb1) (t := 48) (l' := cellsS s y) (by rw [size48]; rfl) u2 rfl (by simp) (fun v hv => by
          simp only [cellsS, List.mem_cons, List.not_mem_nil, or_false] at hv
          rcases hv with rfl | rfl | rfl | rfl <;> first | rfl | exact hyc.2)
        have lD := Go.Am.load_all (tb := tb1) (t := 48) hw1 hw2 (by rw [size48]; rfl) vD
        apply W.run 20
        · intro M
          simp (config := { maxSteps := 4000000 }) (disch := first | decide +kernel | omega) only [c17b1, c17, Try.f17, Option.getD_some, sub_seq1, sub_seq0, sub_block, sub_loop, sub_nil, exec_seq, exec_region, runOps_cons, opF_move, ev_tmp, g4, evG_some, putT_some, opF_fieldAddr, T.get_set, Nat.reduceEqDiff, g1, if_false, opF_load, if_true, opF_len, evs, R.ok_bind, opF_ari, runOps_nil, fa28_2, lC, lx, binF_int, op_lssI, cast_lt, Nat.lt_irrefl, decide_false, exec_cond, exec_skip, exec_exit]
          with_reducible rfl
        show W tb1 _ _ _
        apply W.seq
        apply W.run 20
        · intro M
          simp (config := { maxSteps := 4000000 }) (disch := first | decide +kernel | omega) only [c17, Try.f17, Option.getD_some, sub_seq1, sub_seq0, sub_nil, exec_region, runOps_cons, opF_load, ev_tmp, T.get_set, Nat.reduceEqDiff, g3, if_false, evG_some, putT_some, opF_store, g2, if_true, putT_none, runOps_nil, R.ok_bind, l3, stD]
          with_reducible rfl
        apply W.run 20
        · intro M
          simp (config := { maxSteps := 4000000 }) (disch := first | decide +kernel | omega) only [c17, Try.f17, Option.getD_some, sub_seq1, sub_nil, exec_ret]
          with_reducible rfl
        refine ⟨.inr rfl, D, [.agg ⟨cellsS s y⟩], rfl, ?_, cellsS s y, rfl, ⟨y, rfl, bA, ?_, hac, ?_⟩, ⟨by have := hE.n; omega, fun z hz => by rw [fD z (by omega), hE.g z hz]⟩⟩
        · simp only [Try.f17, resF, ev_tmp, T.get_set, Nat.reduceEqDiff, if_true, if_false, evG_some, R.ok_bind, g2, lD]
        · exact .inr trivial
        · exact hy.same ActP.mono (by omega) (hb.imp id (fun hb _ => fD _ (by omega))) (fun c hc hcl _ => ⟨trivial, fD c (by omega)⟩)
    · simp only [Sl_cons, Sl_nil, T.get_set, T.puts_cons, T.puts_nil, Nat.reduceEqDiff, Nat.reduceAdd, if_true, if_false, and_true, true_and, n1]
  subst hv
  exact ⟨l', A', ha, h1, h2⟩
end Go.Proofs.Ytmhldlnlgjpkaaa.scr

/-
  Script: what was read is laid by the document as by the program.
-/
namespace Go.Proofs.Ytmhldlnlgjpkaaa.scr
open Go.Am
set_option linter.unusedSimpArgs false
set_option linter.unusedVariables false
set_option linter.unusedVariables false
set_option maxRecDepth 20000

end Go.Proofs.Ytmhldlnlgjpkaaa.scr

/-
  Script: a writer that may go bad.
-/
namespace Go.Proofs.Ytmhldlnlgjpkaaa.scr
open Go.Am
set_option linter.unusedSimpArgs false
set_option linter.unusedVariables false
set_option linter.unusedVariables false
set_option maxRecDepth 20000

theorem wrap_u8 (m : Int) : ∃ v : Nat, v < 256 ∧ wrapF .u8 m = (v : Int) ∧ (0 ≤ m → m < 256 → v = m.toNat) := by
  refine ⟨(m % 256).toNat, by omega, ?_, by omega⟩
  rw [wrapF_eq]
  simp [IntKind.wrap, IntKind.signed, IntKind.bits]
  omega
def WrG (bw b : Nat) (bs : List UInt8) (bad : Bool) (C : Mem) : Prop :=
  ∃ x, Vals C 85 bw (.var 2) [x, .bool bad] ∧ Slc C 5 b (byts bs) x ∧ (x = .slice none 0 0 ∨ b ≠ bw) ∧ bw < C.next ∧ b < C.next
theorem WrG.ext {bw b : Nat} {bs : List UInt8} {bad : Bool} {C C' : Mem} (h : WrG bw b bs bad C) (e : Ext C C') : WrG bw b bs bad C' := by
  obtain ⟨x, h1, h2, h3, h4, h5⟩ := h
  exact ⟨x, h1.same (e.g _ h4), h2.same e.n (fun hb => e.g _ hb), h3, Nat.lt_of_lt_of_le h4 e.n, Nat.lt_of_lt_of_le h5 e.n⟩
theorem WrG.lt {bw b : Nat} {bs : List UInt8} {bad : Bool} {C : Mem} (h : WrG bw b bs bad C) : bw < C.next ∧ b < C.next := by
  obtain ⟨_, _, _, _, h⟩ := h
  exact h
theorem wr_appsG {bw b : Nat} {bs cs : List UInt8} {bad : Bool} {C : Mem} (h : WrG bw b bs bad C) (hl : bs.length ≤ 1000000) (hcs : cs.length ≤ 1000) :
    ∃ x x' C2 C3 b', loadF tb1 C.get 22 (.pointer (some ⟨bw, 0, none⟩)) = .ok x ∧ appendF tb1 (C.alloc (rowOb 5 (byts cs))) 22 22 x (.slice (some ⟨C.next, 0, none⟩) cs.length (2 * cs.length)) = .ok (x', C2) ∧ storeF tb1 C2 22 (.pointer (some ⟨bw, 0, none⟩)) x' = .ok C3 ∧ WrG bw b' (bs ++ cs) bad C3 ∧ Wk bw b C b' C3 := by
  obtain ⟨x, h1, h2, h3, h4, h5⟩ := h
  have hE := Ext.alloc C (rowOb 5 (byts cs))
  have hn1 : (C.alloc (rowOb 5 (byts cs))).next = C.next + 1 := next_alloc _ _
  obtain ⟨i, hi, hib⟩ := ty5
  have hv : Vals (C.alloc (rowOb 5 (byts cs))) 5 C.next (.var (byts cs).length) (byts cs) := Go.Am.vals_new C 5 _
  have hfirst : firstF (C.alloc (rowOb 5 (byts cs))).get 1 cs.length (.slice (some ⟨C.next, 0, none⟩) cs.length (2 * cs.length)) = .ok (byts cs) := by
    have := elemsF_vals hv
    rwa [byts_len] at this
  obtain ⟨x', C2, b0, ha, hs0, hn2, hb0, hf2⟩ := (h2.same hE.n (fun hb => hE.g _ hb)).appends (tb := tb1) (st := 22) (xt := 22) (m := cs.length) (nl := byts cs) und22 und22 rfl zc5 hi (by omega) (by omega) (by rw [byts_len]; omega) rfl hfirst (byts_len cs) (byts_one cs)
  obtain ⟨b', hs2, hb2, hlt2⟩ : ∃ b', Slc C2 5 b' (byts bs ++ byts cs) x' ∧ (b' = b ∨ C.next ≤ b') ∧ b' < C2.next := by
    rcases hs0 with ⟨hx, hl0⟩ | ⟨k, c, hx, hlt, hv0⟩
    · exact ⟨b, .inl ⟨hx, hl0⟩, .inl rfl, by omega⟩
    · exact ⟨b0, .inr ⟨k, c, hx, hlt, hv0⟩, by rcases hb0 with rfl | hb0; exact .inl rfl; exact .inr (by omega), hlt⟩
  have hbw2 : C2.get bw = C.get bw := by
    rw [hf2 bw (fun e => ?_) (by omega), hE.g bw h4]
    rcases h3 with h3 | h3
    · exact h3
    · exact absurd e.symm h3
  obtain ⟨C3, hst, hv3, hn3, hf3⟩ := store_vals (tb := tb1) (t := 22) (o := 0) (v := x') size22 (h1.same hbw2) (by simp) hs2.cells hs2.one
  have hbb : x' = .slice none 0 0 ∨ b' ≠ bw := by
    rcases hb2 with rfl | hb2
    · rcases h3 with h3 | h3
      · by_cases e : b' = bw
        · left
          rcases hs2 with ⟨hx, _⟩ | ⟨k, c, hx, hlt, hvals, _⟩
          · exact hx
          · exfalso
            subst e
            obtain ⟨cs1, e1, _⟩ := hvals
            obtain ⟨cs2, e2, _⟩ := h1
            rw [hbw2, e2] at e1
            cases e1
        · exact .inr e
      · exact .inr h3
    · exact .inr (by omega)
  refine ⟨x, x', C2, C3, b', load_vals und22 rfl h1 rfl, ha, hst, ⟨x', hv3, ?_, hbb, by omega, by omega⟩, ⟨by omega, by omega, fun y hy hyw hyb => ?_⟩⟩
  · rw [byts_app]
    rcases hbb with hx | hb
    · rw [hx] at hs2 ⊢
      rcases hs2 with hs2 | ⟨k, c, hs2, _⟩
      · exact .inl hs2
      · cases hs2
    · exact hs2.same (by omega) (fun _ => hf3 _ hb)
  · rw [hf3 y hyw, hf2 y (fun e => absurd e hyb) (by omega), hE.g y hy]
/-- What is written so far, if it is not bad. -/
def WR (bw : Nat) (ok : Bool) (enc : List UInt8) (n b : Nat) (C : Mem) : Prop := ∃ bs, WrG bw b bs (!ok) C ∧ bs.length ≤ n ∧ (ok = true → bs = enc)
section
variable {bw b n : Nat} {ok : Bool} {enc : List UInt8} {C C' : Mem}
theorem WR.ext (h : WR bw ok enc n b C) (e : Ext C C') : WR bw ok enc n b C' := by
  obtain ⟨bs, h1, h2, h3⟩ := h
  exact ⟨bs, h1.ext e, h2, h3⟩
theorem WR.lt (h : WR bw ok enc n b C) : bw < C.next ∧ b < C.next := by
  obtain ⟨bs, h1, h2, h3⟩ := h
  exact h1.lt
theorem WR.mono (h : WR bw ok enc n b C) {m : Nat} (hm : n ≤ m) : WR bw ok enc m b C := by
  obtain ⟨bs, h1, h2, h3⟩ := h
  exact ⟨bs, h1, Nat.le_trans h2 hm, h3⟩
theorem WR.cast (h : WR bw ok enc n b C) {ok' : Bool} {enc' : List UInt8} (ho : ok = ok') (he : ok' = true → enc = enc') : WR bw ok' enc' n b C := by
  subst ho
  obtain ⟨bs, h1, h2, h3⟩ := h
  exact ⟨bs, h1, h2, fun h => (h3 h).trans (he h)⟩
/-- Some bytes, by hand; 'e' is what they are, if it is not bad. -/
theorem WR.apps (h : WR bw ok enc n b C) (hn : n ≤ 1000000) {cs e : List UInt8} (hcs : cs.length ≤ 1000) (he : ok = true → cs = e) :
    ∃ x x' C2 C3 b', loadF tb1 C.get 22 (.pointer (some ⟨bw, 0, none⟩)) = .ok x ∧ appendF tb1 (C.alloc (rowOb 5 (byts cs))) 22 22 x (.slice (some ⟨C.next, 0, none⟩) cs.length (2 * cs.length)) = .ok (x', C2) ∧ storeF tb1 C2 22 (.pointer (some ⟨bw, 0, none⟩)) x' = .ok C3 ∧ WR bw ok (enc ++ e) (n + cs.length) b' C3 ∧ Wk bw b C b' C3 := by
  obtain ⟨bs, h1, h2, h3⟩ := h
  obtain ⟨x, x', C2, C3, b', k1, k2, k3, k4, k5⟩ := wr_appsG (cs := cs) h1 (by omega) hcs
  refine ⟨x, x', C2, C3, b', k1, k2, k3, ⟨_, k4, by rw [List.length_append]; omega, fun h => by rw [h3 h, he h]⟩, k5⟩
theorem WR.app (h : WR bw ok enc n b C) (hn : n ≤ 1000000) {v : Nat} (hv : v < 256) {c : UInt8} (he : ok = true → UInt8.ofNat v = c) :
    ∃ x x' C2 C3 b', loadF tb1 C.get 22 (.pointer (some ⟨bw, 0, none⟩)) = .ok x ∧ appendF tb1 (C.alloc (rowOb 5 [.int .u8 (v : Int)])) 22 22 x (.slice (some ⟨C.next, 0, none⟩) 1 2) = .ok (x', C2) ∧ storeF tb1 C2 22 (.pointer (some ⟨bw, 0, none⟩)) x' = .ok C3 ∧ WR bw ok (enc ++ [c]) (n + 1) b' C3 ∧ Wk bw b C b' C3 := by
  have h := h.apps hn (cs := [UInt8.ofNat v]) (e := [c]) (by simp) (fun h => by rw [he h])
  rw [byts_ofNat hv] at h
  exact h
set_option maxHeartbeats 4000000 in
theorem run_mustG {p : Bool} (h : WR bw ok enc n b C) : ∃ C', Ans tb1 51 [.pointer (some ⟨bw, 0, none⟩), .bool p] C (.tuple ⟨[]⟩) C' ∧ WR bw (ok && p) enc n b C' ∧ Wk bw b C b C' := by
  obtain ⟨bs, ⟨x, h1, h2, h3, h4, h5⟩, hl, he⟩ := h
  obtain ⟨v, A', ha, rfl, hw, hk⟩ : ∃ v A', Ans tb1 51 [.pointer (some ⟨bw, 0, none⟩), .bool p] C v A' ∧ v = .tuple ⟨[]⟩ ∧ WR bw (ok && p) enc n b A' ∧ Wk bw b C b A' := by
    refine ans_of_W (fn_at Try.func51) c51_eq (by rw [Try.ntmps51]; simp) (by kernel_rfl) (by kernel_rfl) ?_
    have l1 : loadF tb1 C.get 4 (.pointer (some ⟨bw, 1, none⟩)) = .ok (.bool (!ok)) := load_vals und4 rfl h1 rfl
    obtain ⟨C3, hst, hv3, hn3, hf3⟩ := store_vals (tb := tb1) (t := 4) (o := 1) (v := .bool (!(ok && p))) size4 h1 (by simp) rfl rfl
    have hfin : WR bw (ok && p) enc n b C3 ∧ Wk bw b C b C3 := by
      refine ⟨⟨bs, ⟨x, hv3, ?_, h3, by omega, by omega⟩, hl, fun h => he (by cases ok <;> simp_all)⟩, ⟨by omega, .inl rfl, fun y _ hy _ => hf3 y hy⟩⟩
      rcases h3 with rfl | h3
      · rcases h2 with h2 | ⟨k, c, h2, _⟩
        · exact .inl h2
        · cases h2
      · exact h2.same (by omega) (fun _ => hf3 _ h3)
    cases ok with
    | true =>
      cases p with
      | true =>
        simp only [Bool.and_self, Bool.true_and, Bool.false_and, Bool.and_false, Bool.not_true, Bool.not_false] at hst
        apply W.run 20
        · intro M
          simp (config := { maxSteps := 4000000 }) (disch := first | decide +kernel | (rw [wantF_guard]; simp only [wantD_some, dstAt_zero, dstAt_succ, T.get_set, T.get_e, Nat.reduceEqDiff, if_true, if_false, wantV_bool, wantV_unit, unitV, cond_true, cond_false, Bool.not_true, Bool.not_false, List.toList_toArray]) | omega) only [c51, Try.f51, Option.getD_some, T.puts_cons, Nat.reduceAdd, T.puts_nil, exec_region, runOps_cons, opF_move, ev_tmp, T.get_set, Nat.reduceEqDiff, T.get_e, if_true, if_false, evG_some, putT_some, opF_nilCheck, opF_fieldAddr, opF_load, R.ok_bind, nil_ptr, fa85_1, l1, Bool.not_true, runOps_yes, opF_un, opF_pick, pickF, ev_bool, opF_store, putT_none, runOps_nil, un_not, hst]
          with_reducible rfl
        exact ⟨.inl rfl, C3, [], rfl, rfl, rfl, hfin⟩
      | false =>
        simp only [Bool.and_self, Bool.true_and, Bool.false_and, Bool.and_false, Bool.not_true, Bool.not_false] at hst
        apply W.run 20
        · intro M
          simp (config := { maxSteps := 4000000 }) (disch := first | decide +kernel | (rw [wantF_guard]; simp only [wantD_some, dstAt_zero, dstAt_succ, T.get_set, T.get_e, Nat.reduceEqDiff, if_true, if_false, wantV_bool, wantV_unit, unitV, cond_true, cond_false, Bool.not_true, Bool.not_false, List.toList_toArray]) | omega) only [c51, Try.f51, Option.getD_some, T.puts_cons, Nat.reduceAdd, T.puts_nil, exec_region, runOps_cons, opF_move, ev_tmp, T.get_set, Nat.reduceEqDiff, T.get_e, if_true, if_false, evG_some, putT_some, opF_nilCheck, opF_fieldAddr, opF_load, R.ok_bind, nil_ptr, fa85_1, l1, Bool.not_true, runOps_yes, opF_un, opF_pick, pickF, ev_bool, opF_store, putT_none, runOps_nil, un_not, Bool.not_false, hst]
          with_reducible rfl
        exact ⟨.inl rfl, C3, [], rfl, rfl, rfl, hfin⟩
    | false =>
      simp only [Bool.and_self, Bool.true_and, Bool.false_and, Bool.and_false, Bool.not_true, Bool.not_false] at hst
      apply W.run 20
      · intro M
        simp (config := { maxSteps := 4000000 }) (disch := first | decide +kernel | (rw [wantF_guard]; simp only [wantD_some, dstAt_zero, dstAt_succ, T.get_set, T.get_e, Nat.reduceEqDiff, if_true, if_false, wantV_bool, wantV_unit, unitV, cond_true, cond_false, Bool.not_true, Bool.not_false, List.toList_toArray]) | omega) only [c51, Try.f51, Option.getD_some, T.puts_cons, Nat.reduceAdd, T.puts_nil, exec_region, runOps_cons, opF_move, ev_tmp, T.get_set, Nat.reduceEqDiff, T.get_e, if_true, if_false, evG_some, putT_some, opF_nilCheck, opF_fieldAddr, opF_load, R.ok_bind, nil_ptr, fa85_1, l1, Bool.not_false, runOps_no, opF_pick, pickF, ev_bool, opF_store, putT_none, runOps_nil, hst]
        with_reducible rfl
      exact ⟨.inl rfl, C3, [], rfl, rfl, rfl, hfin⟩
  exact ⟨A', ha, hw, hk⟩
set_option maxHeartbeats 8000000 in
theorem run_putG {most : Nat} {m : Int} (h : WR bw ok enc n b C) (hn : n ≤ 1000000) (hmost : most < 256) {c : UInt8} (hc : 0 ≤ m → m ≤ (most : Int) → UInt8.ofNat m.toNat = c) :
    ∃ b' C', Ans tb1 52 [.pointer (some ⟨bw, 0, none⟩), .int .i64 (most : Int), .slice (some ⟨C.next, 0, none⟩) 1 2] (C.alloc (rowOb 3 [.int .i64 m])) (.tuple ⟨[]⟩) C' ∧ WR bw (ok && decide (0 ≤ m ∧ m ≤ (most : Int))) (enc ++ [c]) (n + 1) b' C' ∧ Wk bw b C b' C' := by
  obtain ⟨v, hv, hwv, hev⟩ := wrap_u8 m
  have hE := Ext.alloc C (rowOb 3 [.int .i64 m])
  have hlt := h.lt
  have hnx := next_alloc C (rowOb 3 [.int .i64 m])
  obtain ⟨u, A', ha, b', rfl, hw, hk⟩ : ∃ u A', Ans tb1 52 [.pointer (some ⟨bw, 0, none⟩), .int .i64 (most : Int), .slice (some ⟨C.next, 0, none⟩) 1 2] (C.alloc (rowOb 3 [.int .i64 m])) u A' ∧ ∃ b', u = .tuple ⟨[]⟩ ∧ WR bw (ok && decide (0 ≤ m ∧ m ≤ (most : Int))) (enc ++ [c]) (n + 1) b' A' ∧ Wk bw b C b' A' := by
    refine ans_of_W (fn_at Try.func52) c52_eq (by rw [Try.ntmps52]; simp) (by kernel_rfl) (by kernel_rfl) ?_
    have hS : Slc (C.alloc (rowOb 3 [.int .i64 m])) 3 C.next [.int .i64 m] (.slice (some ⟨C.next, 0, none⟩) 1 2) := .inr ⟨.var 1, 2, rfl, by omega, vals_puts (get_alloc_self C _), .inl rfl⟩
    have hlen := hS.len (tb := tb1) (t := 127) und127
    have hix := hS.idx (tb := tb1) (t := 127) (kd := .i64) (i := 0) und127 size3 (by simp)
    have hld := hS.load (tb := tb1) (t := 3) (o := 0) (v := .int .i64 m) und3 rfl rfl
    apply W.seq
    apply W.run 20
    · intro M
      simp (config := { maxSteps := 4000000 }) (disch := first | decide +kernel | omega) only [c52, Try.f52, Option.getD_some, sub_seq0, sub_nil, T.puts_cons, Nat.reduceAdd, T.puts_nil, exec_region, runOps_cons, opF_move, ev_tmp, T.get_set, Nat.reduceEqDiff, T.get_e, if_false, if_true, evG_some, putT_some, opF_len, evs, R.ok_bind, ev_int, runOps_nil, hlen, List.length_cons, List.length_nil]
      with_reducible rfl
    apply W.block
    refine W.up 1 (fun i t D => ∃ b' ok' enc' n', WR bw ok' enc' n' b' D ∧ Wk bw b C b' D ∧ (i = 0 → D = C.alloc (rowOb 3 [.int .i64 m]) ∧ b' = b ∧ ok' = ok ∧ enc' = enc ∧ n' = n) ∧ (i = 1 → ok' = (ok && decide (0 ≤ m ∧ m ≤ (most : Int))) ∧ enc' = enc ++ [c] ∧ n' = n + 1) ∧ Sl t [(0, .pointer (some ⟨bw, 0, none⟩)), (1, .int .i64 (most : Int)), (8, .slice (some ⟨C.next, 0, none⟩) 1 2), (9, .int .i64 ((1 : Nat) : Int)), (10, .int .i64 (i : Int))]) ?_ (Nat.zero_le _) ⟨b, ok, enc, n, h.ext hE, Wk.ext hE, fun _ => ⟨rfl, rfl, rfl, rfl, rfl⟩, fun h => by omega, ?_⟩
    · rintro i t D hi ⟨b', ok', enc', n', hwD, hkD, h0, h1, g0, g1, g8, g9, g10, -⟩
      by_cases hlt1 : i < 1
      · obtain rfl : i = 0 := by omega
        obtain ⟨rfl, rfl, rfl, rfl, rfl⟩ := h0 rfl
        obtain ⟨bs, ⟨x, k1, k2, k3, k4, k5⟩, hbl, hbe⟩ := hwD
        have l1 : loadF tb1 (C.alloc (rowOb 3 [.int .i64 m])).get 4 (.pointer (some ⟨bw, 1, none⟩)) = .ok (.bool (!ok')) := load_vals und4 rfl k1 rfl
        obtain ⟨E, hst, hvE, hnE, hfE⟩ := store_vals (tb := tb1) (t := 4) (o := 1) (v := .bool (!(ok' && decide (0 ≤ m ∧ m ≤ (most : Int))))) size4 k1 (by simp) rfl rfl
        have hwE : WR bw (ok' && decide (0 ≤ m ∧ m ≤ (most : Int))) enc' n' b' E := ⟨bs, ⟨x, hvE, by
          rcases k3 with rfl | k3
          · rcases k2 with k2 | ⟨k, c, k2, _⟩
            · exact .inl k2
            · cases k2
          · exact k2.same (by omega) (fun _ => hfE _ k3), k3, by omega, by omega⟩, hbl, fun h => hbe (by rw [Bool.and_eq_true] at h; exact h.1)⟩
        have hkE : Wk bw b' (C.alloc (rowOb 3 [.int .i64 m])) b' E := ⟨by omega, .inl rfl, fun y _ hy _ => hfE y hy⟩
        obtain ⟨y, y', C2, C3, b3, e1, e3, e4, e5, e6⟩ := hwE.app hn hv (c := c) (fun h => by
          rw [Bool.and_eq_true, decide_eq_true_eq] at h
          rw [hev h.2.1 (by omega)]; exact hc h.2.1 h.2.2)
        have first : ∀ {t : T Value} {K : Ex → St → Prop}, Sl t [(0, .pointer (some ⟨bw, 0, none⟩)), (1, .int .i64 (most : Int)), (7, .int .i64 m), (8, .slice (some ⟨C.next, 0, none⟩) 1 2), (9, .int .i64 ((1 : Nat) : Int)), (10, .int .i64 ((0 : Nat) : Int))] →
            (∀ t', Sl t' [(0, .pointer (some ⟨bw, 0, none⟩)), (1, .int .i64 (most : Int)), (7, .int .i64 m), (8, .slice (some ⟨C.next, 0, none⟩) 1 2), (9, .int .i64 ((1 : Nat) : Int)), (10, .int .i64 ((0 : Nat) : Int))] → K .nrm ⟨t', 42, [], E, none⟩) → W tb1 (sub c52b1 [1,1,0,0,1,0]) ⟨t, 42, [], C.alloc (rowOb 3 [.int .i64 m]), none⟩ K := by
          rintro t K ⟨g0, g1, g7, g8, g9, g10, -⟩ hK
          cases ok' with
          | false =>
            simp only [Bool.and_self, Bool.true_and, Bool.false_and, Bool.and_false, Bool.not_true, Bool.not_false] at hst
            apply W.run 20
            · intro M
              simp (config := { maxSteps := 4000000 }) (disch := first | decide +kernel | (rw [wantF_guard]; simp only [wantD_some, dstAt_zero, dstAt_succ, T.get_set, T.get_e, Nat.reduceEqDiff, if_true, if_false, wantV_bool, wantV_unit, unitV, cond_true, cond_false, Bool.not_true, Bool.not_false, List.toList_toArray]) | omega) only [c52b1, c52, Try.f52, Option.getD_some, sub_seq1, sub_block, sub_loop, sub_nil, sub_seq0, exec_region, runOps_cons, opF_move, ev_tmp, g0, evG_some, putT_some, T.get_set, Nat.reduceEqDiff, if_false, opF_nilCheck, if_true, opF_fieldAddr, opF_load, R.ok_bind, nil_ptr, fa85_1, l1, Bool.not_false, runOps_no, opF_pick, pickF, ev_bool, opF_store, putT_none, runOps_nil, hst]
              with_reducible rfl
            apply hK
            simp only [Sl_cons, Sl_nil, T.get_set, T.puts_cons, T.puts_nil, Nat.reduceEqDiff, Nat.reduceAdd, if_true, if_false, and_true, true_and, g0, g1, g7, g8, g9, g10]
          | true =>
            by_cases a1 : m < ((0 : Nat) : Int)
            · rw [decide_eq_false (by omega)] at hst; simp only [Bool.and_self, Bool.true_and, Bool.false_and, Bool.and_false, Bool.not_true, Bool.not_false] at hst
              apply W.run 20
              · intro M
                simp (config := { maxSteps := 4000000 }) (disch := first | decide +kernel | (rw [wantF_guard]; simp only [wantD_some, dstAt_zero, dstAt_succ, T.get_set, T.get_e, Nat.reduceEqDiff, if_true, if_false, wantV_bool, wantV_unit, unitV, cond_true, cond_false, Bool.not_true, Bool.not_false, List.toList_toArray]) | omega) only [c52b1, c52, Try.f52, Option.getD_some, sub_seq1, sub_block, sub_loop, sub_nil, sub_seq0, exec_region, runOps_cons, opF_move, ev_tmp, g0, evG_some, putT_some, T.get_set, Nat.reduceEqDiff, if_false, opF_nilCheck, if_true, opF_fieldAddr, opF_load, R.ok_bind, nil_ptr, fa85_1, l1, Bool.not_true, runOps_yes, g7, opF_ari, ev_int, opF_pick, pickF, ev_bool, binF_int, op_lssI, a1, decide_true, runOps_no, opF_store, putT_none, runOps_nil, hst]
                with_reducible rfl
              apply hK
              simp only [Sl_cons, Sl_nil, T.get_set, T.puts_cons, T.puts_nil, Nat.reduceEqDiff, Nat.reduceAdd, if_true, if_false, and_true, true_and, g0, g1, g7, g8, g9, g10]
            · by_cases a2 : (most : Int) < m
              · rw [decide_eq_false (by omega)] at hst; simp only [Bool.and_self, Bool.true_and, Bool.false_and, Bool.and_false, Bool.not_true, Bool.not_false] at hst
                apply W.run 20
                · intro M
                  simp (config := { maxSteps := 4000000 }) (disch := first | decide +kernel | (rw [wantF_guard]; simp only [wantD_some, dstAt_zero, dstAt_succ, T.get_set, T.get_e, Nat.reduceEqDiff, if_true, if_false, wantV_bool, wantV_unit, unitV, cond_true, cond_false, Bool.not_true, Bool.not_false, List.toList_toArray]) | omega) only [c52b1, c52, Try.f52, Option.getD_some, sub_seq1, sub_block, sub_loop, sub_nil, sub_seq0, exec_region, runOps_cons, opF_move, ev_tmp, g0, evG_some, putT_some, T.get_set, Nat.reduceEqDiff, if_false, opF_nilCheck, if_true, opF_fieldAddr, opF_load, R.ok_bind, nil_ptr, fa85_1, l1, Bool.not_true, runOps_yes, g7, opF_ari, ev_int, opF_pick, pickF, ev_bool, binF_int, op_lssI, a1, decide_false, g1, opF_store, putT_none, runOps_nil, op_gtr, a2, decide_true, hst]
                  with_reducible rfl
                apply hK
                simp only [Sl_cons, Sl_nil, T.get_set, T.puts_cons, T.puts_nil, Nat.reduceEqDiff, Nat.reduceAdd, if_true, if_false, and_true, true_and, g0, g1, g7, g8, g9, g10]
              · rw [decide_eq_true (by omega)] at hst; simp only [Bool.and_self, Bool.true_and, Bool.false_and, Bool.and_false, Bool.not_true, Bool.not_false] at hst
                apply W.run 20
                · intro M
                  simp (config := { maxSteps := 4000000 }) (disch := first | decide +kernel | (rw [wantF_guard]; simp only [wantD_some, dstAt_zero, dstAt_succ, T.get_set, T.get_e, Nat.reduceEqDiff, if_true, if_false, wantV_bool, wantV_unit, unitV, cond_true, cond_false, Bool.not_true, Bool.not_false, List.toList_toArray]) | omega) only [c52b1, c52, Try.f52, Option.getD_some, sub_seq1, sub_block, sub_loop, sub_nil, sub_seq0, exec_region, runOps_cons, opF_move, ev_tmp, g0, evG_some, putT_some, T.get_set, Nat.reduceEqDiff, if_false, opF_nilCheck, if_true, opF_fieldAddr, opF_load, R.ok_bind, nil_ptr, fa85_1, l1, Bool.not_true, runOps_yes, g7, opF_ari, ev_int, opF_pick, pickF, ev_bool, binF_int, op_lssI, a1, decide_false, g1, opF_store, putT_none, runOps_nil, op_gtr, a2, hst]
                  with_reducible rfl
                apply hK
                simp only [Sl_cons, Sl_nil, T.get_set, T.puts_cons, T.puts_nil, Nat.reduceEqDiff, Nat.reduceAdd, if_true, if_false, and_true, true_and, g0, g1, g7, g8, g9, g10]
        rw [c52b1_eq]
        apply W.seq
        apply W.run 20
        · intro M
          simp (config := { maxSteps := 4000000 }) (disch := first | decide +kernel | omega) only [c52b1, c52, Try.f52, Option.getD_some, sub_seq1, sub_block, sub_loop, sub_nil, sub_seq0, exec_region, runOps_cons, opF_ari, ev_tmp, g10, evG_some, g9, putT_some, runOps_nil, R.ok_bind, binF_int, op_lssI, cast_lt, hlt1, decide_true]
          with_reducible rfl
        apply W.seq
        apply W.run 20
        · intro M
          simp (config := { maxSteps := 4000000 }) (disch := first | decide +kernel | omega) only [c52b1, c52, Try.f52, Option.getD_some, sub_seq1, sub_block, sub_loop, sub_nil, sub_seq0, exec_cond, ev_tmp, T.get_set, if_true, evG_some, exec_skip, exec_exit, R.ok_bind]
          with_reducible rfl
        apply W.seq
        apply W.block
        apply W.seq
        apply W.run 20
        · intro M
          simp (config := { maxSteps := 4000000 }) (disch := first | decide +kernel | omega) only [c52b1, c52, Try.f52, Option.getD_some, sub_seq1, sub_block, sub_loop, sub_nil, sub_seq0, exec_region, runOps_cons, opF_indexAddr, ev_tmp, T.get_set, Nat.reduceEqDiff, g8, if_false, evG_some, g10, putT_some, opF_load, if_true, opF_assign, runOps_nil, R.ok_bind, hix, hld]
          with_reducible rfl
        apply W.seq
        refine first (by simp only [Sl_cons, Sl_nil, T.get_set, T.puts_cons, T.puts_nil, Nat.reduceEqDiff, Nat.reduceAdd, if_true, if_false, and_true, true_and, g0, g1, g8, g9, g10]) ?_
        rintro t' ⟨g0, g1, g7, g8, g9, g10, -⟩
        show W tb1 _ _ _
        apply W.run 20
        · intro M
          simp (config := { maxSteps := 4000000 }) (disch := first | decide +kernel | omega) only [c52b1, c52, Try.f52, Option.getD_some, sub_seq1, sub_block, sub_loop, sub_nil, sub_seq0, exec_region, runOps_cons, opF_move, ev_tmp, g0, evG_some, putT_some, T.get_set, Nat.reduceEqDiff, if_false, opF_nilCheck, if_true, opF_fieldAddr, opF_load, g7, opF_conv, convPF, und3, und5, opF_buildSlice, evp, R.ok_bind, opF_builtin, evs, opF_store, putT_none, runOps_nil, builtin_append, hwv, bs22, at_slc, nil_ptr, fa85_0, e1, e3, e4]
          with_reducible rfl
        show W tb1 _ _ _
        apply W.run 20
        · intro M
          simp (config := { maxSteps := 4000000 }) (disch := first | decide +kernel | omega) only [c52b1, c52, Try.f52, Option.getD_some, sub_seq1, sub_block, sub_loop, sub_nil, exec_region, runOps_cons, opF_ari, ev_tmp, T.get_set, Nat.reduceEqDiff, g10, if_false, evG_some, ev_int, putT_some, opF_move, if_true, runOps_nil, R.ok_bind, binF_int, op_add_i64, Nat.reduceAdd]
          with_reducible rfl
        refine ⟨hlt1, _, _, rfl, b3, _, _, _, e5, (hkD.trans hkE).trans e6, fun h => by omega, fun _ => ⟨rfl, rfl, rfl⟩, ?_⟩
        simp only [Sl_cons, Sl_nil, T.get_set, T.puts_cons, T.puts_nil, Nat.reduceEqDiff, Nat.reduceAdd, if_true, if_false, and_true, true_and, g0, g1, g8, g9]
      · obtain rfl : i = 1 := by omega
        obtain ⟨rfl, rfl, rfl⟩ := h1 rfl
        apply W.run 20
        · intro M
          simp (config := { maxSteps := 4000000 }) (disch := first | decide +kernel | omega) only [c52b1, c52, Try.f52, Option.getD_some, sub_seq1, sub_block, sub_loop, sub_nil, exec_seq, exec_region, runOps_cons, opF_ari, ev_tmp, g10, evG_some, g9, putT_some, runOps_nil, R.ok_bind, binF_int, op_lssI, cast_lt, Nat.lt_irrefl, decide_false, exec_cond, exec_skip, exec_exit, exec_block, opF_indexAddr, opF_move, ev_int, T.get_set, if_true]
          with_reducible rfl
        exact ⟨.inl rfl, _, [], rfl, rfl, b', rfl, hwD, hkD⟩
    · simp only [Sl_cons, Sl_nil, T.get_set, T.puts_cons, T.puts_nil, Nat.reduceEqDiff, Nat.reduceAdd, if_true, if_false, and_true, true_and]
  exact ⟨b', A', ha, hw, hk⟩
end
end Go.Proofs.Ytmhldlnlgjpkaaa.scr

/-
  Script: numbers and words are written, whatever they are.
-/
namespace Go.Proofs.Ytmhldlnlgjpkaaa.scr
open Go.Am
set_option linter.unusedSimpArgs false
set_option linter.unusedVariables false
set_option linter.unusedVariables false
set_option maxRecDepth 20000

theorem numOk_no {v : Nat} (h : v ≠ 60000) : numOk v = decide (v < 250) := by unfold numOk; rw [decide_eq_false h, Bool.or_false]
theorem dec_and {p q : Prop} [Decidable p] [Decidable q] (h : p → q) : (decide p && decide q) = decide p := by
  by_cases hp : p
  · rw [decide_eq_true hp, decide_eq_true (h hp)]; rfl
  · rw [decide_eq_false hp]; rfl
section
variable {bw b n : Nat} {ok : Bool} {enc : List UInt8} {C C' : Mem}
set_option maxHeartbeats 8000000 in
theorem run_numsG {l : List Nat} {x : Value} (h : WR bw ok enc n b C) (hl : n + l.length ≤ 1000000) (hx : StR (Nb bw b) C l x) (hb : ∀ v ∈ l, v < 65536) :
    ∃ b' C', Ans tb1 65 [.pointer (some ⟨bw, 0, none⟩), x] C (.tuple ⟨[]⟩) C' ∧ WR bw (ok && layOk l) (enc ++ encNs l) (n + l.length) b' C' ∧ Wk bw b C b' C' := by
  obtain ⟨v, A', ha, b', rfl, hw, hk⟩ : ∃ v A', Ans tb1 65 [.pointer (some ⟨bw, 0, none⟩), x] C v A' ∧ ∃ b', v = .tuple ⟨[]⟩ ∧ WR bw (ok && layOk l) (enc ++ encNs l) (n + l.length) b' A' ∧ Wk bw b C b' A' := by
    refine ans_of_W (fn_at Try.func65) c65_eq (by rw [Try.ntmps65]; simp) (by kernel_rfl) (by kernel_rfl) ?_
    have lx := hx.len
    apply W.seq
    apply W.run 20
    · intro M
      simp (config := { maxSteps := 4000000 }) (disch := first | decide +kernel | omega) only [c65, Try.f65, Option.getD_some, sub_seq0, sub_nil, T.puts_cons, Nat.reduceAdd, T.puts_nil, exec_region, runOps_cons, opF_move, ev_tmp, T.get_set, Nat.reduceEqDiff, T.get_e, if_false, if_true, evG_some, putT_some, opF_len, evs, R.ok_bind, ev_int, runOps_nil, lx]
      with_reducible rfl
    apply W.block
    refine W.up l.length (fun i t D => ∃ b', WR bw (ok && layOk (l.take i)) (enc ++ encNs (l.take i)) (n + i) b' D ∧ Wk bw b C b' D ∧ Sl t [(0, .pointer (some ⟨bw, 0, none⟩)), (6, x), (7, .int .i64 ((l.length : Nat) : Int)), (8, .int .i64 (i : Int))]) ?_ (Nat.zero_le _) ⟨b, h.cast (by simp [layOk]) (fun _ => by simp [encNs]), Wk.refl _ _ _, ?_⟩
    · rintro i t D hi ⟨b', hwD, hkD, g0, g6, g7, g8, -⟩
      by_cases hlt : i < l.length
      · have hxD : StR (Nb bw b') D l x := hx.same hkD.n hkD.keep
        obtain ⟨p, hp, hpl⟩ := hxD.at hlt
        have hv := hb _ (getD_mem (d := 0) hlt)
        have hsn := encNs_snoc hlt
        have hta : layOk (l.take (i + 1)) = (layOk (l.take i) && numOk (l.getD i 0)) := by
          have e1 : l.getD i 0 = l[i] := by simp [List.getD, List.getElem?_eq_getElem hlt]
          unfold layOk; rw [take_all hlt, e1]
        generalize l.getD i 0 = v at hpl hv hsn hta
        by_cases h6 : v = 60000
        · subst h6
          obtain ⟨b3, D2, ⟨g, hg⟩, hw2, hk2⟩ := run_putG (most := 250) (m := ((250 : Nat) : Int)) (c := UInt8.ofNat (encN 60000)) hwD (by omega) (by omega) (fun _ _ => rfl)
          apply W.runG (g) 20
          · intro M hM
            simp (config := { maxSteps := 4000000 }) (disch := first | decide +kernel | omega) only [c65b1, c65, Try.f65, Option.getD_some, sub_seq1, sub_block, sub_loop, sub_nil, exec_seq, exec_region, runOps_cons, opF_ari, ev_tmp, g8, evG_some, g7, und3, putT_some, runOps_nil, R.ok_bind, binF_int, op_lssI, cast_lt, hlt, decide_true, exec_cond, exec_skip, exec_exit, exec_block, opF_indexAddr, opF_move, opF_assign, ev_int, T.get_set, if_true, Nat.reduceEqDiff, g6, if_false, opF_load, hp, hpl, opF_eql, und43, op_eql, g0, opF_call, evs, resK, opF_conv, convPF, opF_buildSlice, evp, wrapF_i64, bs127, at_slc, hg, op_add_i64]
            with_reducible rfl
          refine ⟨hlt, _, _, rfl, b3, hw2.cast ?_ (fun _ => by rw [hsn, List.append_assoc]), hkD.trans hk2, ?_⟩
          · rw [hta, ← Bool.and_assoc]; rfl
          · simp only [Sl_cons, Sl_nil, T.get_set, T.puts_cons, T.puts_nil, Nat.reduceEqDiff, Nat.reduceAdd, if_true, if_false, and_true, true_and, g0, g6, g7]
        · obtain ⟨D1, ⟨g1, hg1⟩, hw1, hk1⟩ := run_mustG (p := decide (v < 250)) hwD
          obtain ⟨b3, D2, ⟨g2, hg2⟩, hw2, hk2⟩ := run_putG (most := 250) (m := (v : Int)) (c := UInt8.ofNat (encN v)) hw1 (by omega) (by omega) (fun _ _ => by unfold encN; rw [if_neg h6, Int.toNat_natCast])
          have hmx : v < 9223372036854775808 := by omega
          apply W.runG ((g1+g2)) 20
          · intro M hM
            simp (config := { maxSteps := 4000000 }) (disch := first | decide +kernel | omega) only [c65b1, c65, Try.f65, Option.getD_some, sub_seq1, sub_block, sub_loop, sub_nil, exec_seq, exec_region, runOps_cons, opF_ari, ev_tmp, g8, evG_some, g7, und3, putT_some, runOps_nil, R.ok_bind, binF_int, op_lssI, cast_lt, hlt, decide_true, exec_cond, exec_skip, exec_exit, exec_block, opF_indexAddr, opF_move, opF_assign, ev_int, T.get_set, if_true, Nat.reduceEqDiff, g6, if_false, opF_load, hp, hpl, opF_eql, und43, op_eql, h6, decide_false, g0, opF_call, evs, resK, hg1, opF_conv, convPF, opF_buildSlice, evp, wrapF_i64, bs127, at_slc, hg2, op_add_i64]
            with_reducible rfl
          refine ⟨hlt, _, _, rfl, b3, hw2.cast ?_ (fun _ => by rw [hsn, List.append_assoc]), (hkD.trans hk1).trans hk2, ?_⟩
          · rw [hta, numOk_no h6, Bool.and_assoc, Bool.and_assoc, dec_and (fun h => by omega)]
          · simp only [Sl_cons, Sl_nil, T.get_set, T.puts_cons, T.puts_nil, Nat.reduceEqDiff, Nat.reduceAdd, if_true, if_false, and_true, true_and, g0, g6, g7]
      · have hin : i = l.length := by omega
        subst hin
        rw [List.take_length] at hwD
        apply W.run 20
        · intro M
          simp (config := { maxSteps := 4000000 }) (disch := first | decide +kernel | omega) only [c65b1, c65, Try.f65, Option.getD_some, sub_seq1, sub_block, sub_loop, sub_nil, exec_seq, exec_region, runOps_cons, opF_ari, ev_tmp, g8, evG_some, g7, putT_some, runOps_nil, R.ok_bind, binF_int, op_lssI, cast_lt, Nat.lt_irrefl, decide_false, exec_cond, exec_skip, exec_exit, exec_block, opF_indexAddr, opF_move, opF_assign, ev_int, T.get_set, if_true]
          with_reducible rfl
        exact ⟨.inl rfl, _, [], rfl, rfl, b', rfl, hwD, hkD⟩
    · simp only [Sl_cons, Sl_nil, T.get_set, T.puts_cons, T.puts_nil, Nat.reduceEqDiff, Nat.reduceAdd, if_true, if_false, and_true, true_and]
  exact ⟨b', A', ha, hw, hk⟩
theorem letOk_lo {c : UInt8} (h : c.toNat < 128) : letOk c = (decide (97 ≤ c.toNat) && decide (c.toNat < 101)) := by
  unfold letOk
  rw [decide_eq_false (by omega), Bool.false_or]
  congr 1
  rw [decide_eq_decide]; omega
set_option maxHeartbeats 16000000 in
theorem run_wwordG {w : List UInt8} (h : WR bw ok enc n b C) (hl : n ≤ 900000) (hwl : w.length ≤ 1000) :
    ∃ b' C', Ans tb1 64 [.pointer (some ⟨bw, 0, none⟩), strOf w] C (.tuple ⟨[]⟩) C' ∧ WR bw (ok && spellOk w) (enc ++ encW w) (n + w.length + 1) b' C' ∧ Wk bw b C b' C' := by
  obtain ⟨v, A', ha, b', rfl, hw, hk⟩ : ∃ v A', Ans tb1 64 [.pointer (some ⟨bw, 0, none⟩), strOf w] C v A' ∧ ∃ b', v = .tuple ⟨[]⟩ ∧ WR bw (ok && spellOk w) (enc ++ encW w) (n + w.length + 1) b' A' ∧ Wk bw b C b' A' := by
    refine ans_of_W (fn_at Try.func64) c64_eq (by rw [Try.ntmps64]; simp) (by kernel_rfl) (by kernel_rfl) ?_
    apply W.seq
    apply W.seq
    have hls := len_str (tb := tb1) (l := w) und9
    apply W.run 20
    · intro M
      simp (config := { maxSteps := 4000000 }) (disch := first | decide +kernel | omega) only [c64, Try.f64, Option.getD_some, sub_seq0, sub_nil, T.puts_cons, Nat.reduceAdd, T.puts_nil, exec_region, runOps_cons, opF_move, ev_tmp, T.get_set, Nat.reduceEqDiff, T.get_e, if_false, if_true, evG_some, putT_some, opF_len, evs, R.ok_bind, opF_ari, ev_int, opF_assign, runOps_nil, hls, binF_int, op_quo_i64]
      with_reducible rfl
    obtain ⟨q, hq⟩ : ∃ q, w.length / 32 = q := ⟨_, rfl⟩
    have hlw : longW w = decide (0 < q ∧ q ≤ 8 ∧ w = List.replicate (32 * q) 120) := by unfold longW; rw [hq]
    -- whether it is long
    have first : ∀ {t : T Value} {K : Ex → St → Prop}, Sl t [(0, .pointer (some ⟨bw, 0, none⟩)), (1, strOf w), (4, .int .i64 (q : Int))] →
        (∀ t', Sl t' [(0, .pointer (some ⟨bw, 0, none⟩)), (1, strOf w), (4, .int .i64 (q : Int)), (22, .bool (longW w))] → K .nrm ⟨t', 63, [], C, none⟩) → W tb1 (sub c64 [0,1,0]) ⟨t, 63, [], C, none⟩ K := by
      rintro t K ⟨g0, g1, g4, -⟩ hK
      by_cases h1 : 0 < q
      · by_cases h2 : q ≤ 8
        · have hk20 := fun A ih => k20 (ih := ih) (A := A) (n := 32 * q) (by omega) (by omega) (by omega)
          have e : longW w = decide (w = List.replicate (32 * q) 120) := by rw [hlw, decide_eq_decide]; exact ⟨fun h => h.2.2, fun h => ⟨h1, h2, h⟩⟩
          rw [e] at hK
          apply W.run 20
          · intro M
            simp (config := { maxSteps := 4000000 }) (disch := first | decide +kernel | (rw [wantF_guard]; simp only [wantD_some, dstAt_zero, dstAt_succ, T.get_set, T.get_e, Nat.reduceEqDiff, if_true, if_false, wantV_bool, wantV_unit, unitV, cond_true, cond_false, Bool.not_true, Bool.not_false, List.toList_toArray]) | omega) only [c64, Try.f64, Option.getD_some, sub_seq0, sub_seq1, sub_nil, exec_region, runOps_cons, opF_move, ev_tmp, g4, evG_some, putT_some, opF_ari, T.get_set, if_true, ev_int, Nat.reduceEqDiff, if_false, R.ok_bind, binF_int, op_gtr, cast_lt, h1, decide_true, runOps_yes, opF_pick, pickF, ev_bool, op_leq, cast_le, h2, g1, opF_call, evs, ev_str, resK, opF_eql, runOps_nil, op_mul_i64, hk20, binF_str, str_eql]
            with_reducible rfl
          apply hK
          simp only [Sl_cons, Sl_nil, T.get_set, T.puts_cons, T.puts_nil, Nat.reduceEqDiff, Nat.reduceAdd, if_true, if_false, and_true, true_and, g0, g1, g4]
        · have e : longW w = false := by rw [hlw]; exact decide_eq_false (fun h => h2 h.2.1)
          rw [e] at hK
          apply W.run 20
          · intro M
            simp (config := { maxSteps := 4000000 }) (disch := first | decide +kernel | (rw [wantF_guard]; simp only [wantD_some, dstAt_zero, dstAt_succ, T.get_set, T.get_e, Nat.reduceEqDiff, if_true, if_false, wantV_bool, wantV_unit, unitV, cond_true, cond_false, Bool.not_true, Bool.not_false, List.toList_toArray]) | omega) only [c64, Try.f64, Option.getD_some, sub_seq0, sub_seq1, sub_nil, exec_region, runOps_cons, opF_move, ev_tmp, g4, evG_some, putT_some, opF_ari, T.get_set, if_true, ev_int, Nat.reduceEqDiff, if_false, R.ok_bind, binF_int, op_gtr, cast_lt, h1, decide_true, runOps_yes, opF_pick, pickF, ev_bool, op_leq, cast_le, h2, decide_false, runOps_no, runOps_nil]
            with_reducible rfl
          apply hK
          simp only [Sl_cons, Sl_nil, T.get_set, T.puts_cons, T.puts_nil, Nat.reduceEqDiff, Nat.reduceAdd, if_true, if_false, and_true, true_and, g0, g1, g4]
      · have e : longW w = false := by rw [hlw]; exact decide_eq_false (fun h => h1 h.1)
        rw [e] at hK
        apply W.run 20
        · intro M
          simp (config := { maxSteps := 4000000 }) (disch := first | decide +kernel | (rw [wantF_guard]; simp only [wantD_some, dstAt_zero, dstAt_succ, T.get_set, T.get_e, Nat.reduceEqDiff, if_true, if_false, wantV_bool, wantV_unit, unitV, cond_true, cond_false, Bool.not_true, Bool.not_false, List.toList_toArray]) | omega) only [c64, Try.f64, Option.getD_some, sub_seq0, sub_seq1, sub_nil, exec_region, runOps_cons, opF_move, ev_tmp, g4, evG_some, putT_some, opF_ari, T.get_set, if_true, ev_int, Nat.reduceEqDiff, if_false, R.ok_bind, binF_int, op_gtr, cast_lt, h1, decide_false, runOps_no, opF_pick, pickF, ev_bool, runOps_nil]
          with_reducible rfl
        apply hK
        simp only [Sl_cons, Sl_nil, T.get_set, T.puts_cons, T.puts_nil, Nat.reduceEqDiff, Nat.reduceAdd, if_true, if_false, and_true, true_and, g0, g1, g4]
    rw [hq]
    apply W.seq
    refine first (by simp only [Sl_cons, Sl_nil, T.get_set, T.puts_cons, T.puts_nil, Nat.reduceEqDiff, Nat.reduceAdd, if_true, if_false, and_true, true_and]) ?_
    rintro t ⟨g0, g1, g4, g22, -⟩
    show W tb1 _ _ _
    obtain ⟨lg, hlg⟩ : ∃ lg, longW w = lg := ⟨_, rfl⟩
    rw [hlg] at g22
    cases lg with
    | true =>
      rw [hlw, decide_eq_true_eq] at hlg
      have hen : encW w = [UInt8.ofNat (247 + q)] := by unfold encW; rw [if_pos (by rw [hq]; exact hlg), hq]
      obtain ⟨b3, D2, ⟨g, hg⟩, hw2, hk2⟩ := run_putG (most := 255) (m := ((247 + q : Nat) : Int)) (c := UInt8.ofNat (247 + q)) h (by omega) (by omega) (fun _ _ => by rw [Int.toNat_natCast])
      apply W.runG (g) 20
      · intro M hM
        simp (config := { maxSteps := 4000000 }) (disch := first | decide +kernel | omega) only [c64, Try.f64, Option.getD_some, sub_seq0, sub_seq1, sub_nil, exec_cond, ev_tmp, g22, evG_some, exec_seq, exec_region, runOps_cons, opF_move, g0, putT_some, T.get_set, Nat.reduceEqDiff, g4, if_false, opF_ari, ev_int, if_true, opF_buildSlice, evp, R.ok_bind, opF_call, evs, resK, runOps_nil, binF_int, op_add_i64, bs127, at_slc, hg, exec_ret, exec_skip]
        with_reducible rfl
      refine ⟨.inr rfl, _, [], rfl, rfl, b3, rfl, (hw2.mono (by omega)).cast ?_ (fun _ => by rw [hen]), hk2⟩
      have : spellOk w = true := by unfold spellOk; rw [hlw, decide_eq_true hlg]; rfl
      rw [this, decide_eq_true (by omega)]
    | false =>
      have hsp : spellOk w = (w.all letOk && decide (w.length < 8)) := by unfold spellOk; rw [hlg]; rfl
      have hen : encW w = UInt8.ofNat w.length :: encCs w := by unfold encW; rw [if_neg (of_decide_eq_false hlg)]
      apply W.run 20
      · intro M
        simp (config := { maxSteps := 4000000 }) (disch := first | decide +kernel | omega) only [c64, Try.f64, Option.getD_some, sub_seq0, sub_seq1, sub_nil, exec_cond, ev_tmp, g22, evG_some, exec_seq, exec_region, runOps_cons, opF_move, putT_some, T.get_set, Nat.reduceEqDiff, if_false, opF_ari, ev_int, if_true, opF_buildSlice, evp, R.ok_bind, opF_call, evs, resK, runOps_nil, exec_ret, exec_skip]
        with_reducible rfl
      show W tb1 _ _ _
      apply W.seq
      obtain ⟨b1, D1, ⟨g1', hg1⟩, hw1, hk1⟩ := run_putG (most := 7) (m := ((w.length : Nat) : Int)) (c := UInt8.ofNat w.length) h (by omega) (by omega) (fun _ _ => by rw [Int.toNat_natCast])
      apply W.runG (g1') 20
      · intro M hM
        simp (config := { maxSteps := 4000000 }) (disch := first | decide +kernel | omega) only [c64, Try.f64, Option.getD_some, sub_seq1, sub_seq0, sub_nil, exec_region, runOps_cons, opF_move, ev_tmp, g0, evG_some, putT_some, T.get_set, Nat.reduceEqDiff, g1, if_false, opF_len, evs, if_true, R.ok_bind, opF_buildSlice, evp, opF_call, ev_int, resK, runOps_nil, hls, bs127, at_slc, hg1]
        with_reducible rfl
      apply W.seq
      apply W.run 20
      · intro M
        simp (config := { maxSteps := 4000000 }) (disch := first | decide +kernel | omega) only [c64, Try.f64, Option.getD_some, sub_seq1, sub_seq0, sub_nil, exec_region, runOps_cons, opF_move, ev_tmp, T.get_set, Nat.reduceEqDiff, g1, if_false, evG_some, putT_some, opF_convBytes _ _ _ _ _ _ _ _ _ _ und9 und22, if_true, opF_len, evs, R.ok_bind, ev_int, runOps_nil, bytes_of_str und9 und22 und5, at_slc, len_slc und22]
        with_reducible rfl
      apply W.block
      obtain ⟨o1, o2⟩ := hw1.lt
      have hkA : Wk bw b C b1 (D1.alloc (.cells 5 .mark 0 (T.puts .e 0 (w.map byteV)))) := hk1.trans (Wk.ext (Ext.alloc D1 _))
      have hvA : Vals (D1.alloc (.cells 5 .mark 0 (T.puts .e 0 (w.map byteV)))) 5 D1.next .mark (byts w) := vals_puts (get_alloc_self D1 _)
      have h7 : decide (0 ≤ ((w.length : Nat) : Int) ∧ ((w.length : Nat) : Int) ≤ ((7 : Nat) : Int)) = decide (w.length < 8) := by rw [decide_eq_decide]; omega
      rw [h7] at hw1
      refine W.up w.length (fun i t D => ∃ b', WR bw ((ok && decide (w.length < 8)) && (w.take i).all letOk) (enc ++ [UInt8.ofNat w.length] ++ encCs (w.take i)) (n + 1 + i) b' D ∧ Wk bw b C b' D ∧ Vals D 5 D1.next .mark (byts w) ∧ Nb bw b' D1.next ∧ D1.next < D.next ∧ Sl t [(0, .pointer (some ⟨bw, 0, none⟩)), (34, .slice (some ⟨D1.next, 0, none⟩) w.length (mkX w.length 1)), (35, .int .i64 ((w.length : Nat) : Int)), (36, .int .i64 (i : Int))]) ?_ (Nat.zero_le _) ⟨b1, (hw1.ext (Ext.alloc D1 _)).cast (by simp) (fun _ => by simp [encCs]), hkA, hvA, ⟨by omega, by omega⟩, by rw [next_alloc]; omega, ?_⟩
      · rintro i t D hi ⟨b', hwD, hkD, hvD, hnb, hlD, g0, g34, g35, g36, -⟩
        by_cases hlt : i < w.length
        · have hS : Slc D 5 D1.next (byts w) (.slice (some ⟨D1.next, 0, none⟩) w.length (mkX w.length 1)) := .inr ⟨.mark, mkX w.length 1, by rw [byts_len], hlD, hvD, .inr ⟨by rw [byts_len], .inr rfl⟩⟩
          have hp := hS.idx (tb := tb1) (t := 22) (t' := 5) (kd := .i64) (i := i) und22 size5 (by rw [byts_len]; exact hlt)
          have hpl := hS.load (tb := tb1) (t := 5) (o := i) und5 rfl (byts_get (getB_some hlt))
          have hsn := encCs_snoc hlt
          have hta : (w.take (i + 1)).all letOk = ((w.take i).all letOk && letOk (w.getD i 0)) := by
            have e1 : w.getD i 0 = w[i] := by simp [List.getD, List.getElem?_eq_getElem hlt]
            rw [take_all hlt, e1]
          have hby := byte_lt (w.getD i 0)
          generalize w.getD i 0 = c at hpl hsn hby hta
          by_cases h6 : c.toNat < 128
          · have e : encC c = c.toNat - 97 := by unfold encC; rw [if_pos h6]
            obtain ⟨D2, ⟨g, hg⟩, hw2, hk2⟩ := run_mustG (p := decide (97 ≤ c.toNat) && decide (c.toNat < 101)) hwD
            obtain ⟨u, hu1, hu2, hu3⟩ := wrap_u8 (((c.toNat : Nat) : Int) - ((97 : Nat) : Int))
            have hsub : intOpF .sub .u8 ((c.toNat : Nat) : Int) ((97 : Nat) : Int) = .ok (.int .u8 (u : Int)) := by
              show R.ok (Value.int .u8 (wrapF .u8 _)) = _
              rw [hu2]
            obtain ⟨y, y', D3, D4, b3, f1, f3, f4, f5, f6⟩ := hw2.app (by omega) hu1 (c := UInt8.ofNat (encC c)) (fun h => by
              simp only [Bool.and_eq_true, decide_eq_true_eq] at h
              rw [e, hu3 (by omega) (by omega)]; congr 1; omega)
            have hk3 := hk2.trans f6
            obtain ⟨n1, n2⟩ := hk3.keep _ hnb hlD
            have fin : ∀ {K : Ex → St → Prop}, (∀ t', Sl t' [(0, .pointer (some ⟨bw, 0, none⟩)), (34, .slice (some ⟨D1.next, 0, none⟩) w.length (mkX w.length 1)), (35, .int .i64 ((w.length : Nat) : Int)), (36, .int .i64 ((i + 1 : Nat) : Int))] → K .nrm ⟨t', 63, [], D4, none⟩) → W tb1 c64b1 ⟨t, 63, [], D, none⟩ K := by
              intro K hK
              by_cases e1 : 97 ≤ c.toNat
              · rw [decide_eq_true e1, Bool.true_and] at hg
                apply W.runG (g) 20
                · intro M hM
                  simp (config := { maxSteps := 4000000 }) (disch := first | decide +kernel | (rw [wantF_guard]; simp only [wantD_some, dstAt_zero, dstAt_succ, T.get_set, T.get_e, Nat.reduceEqDiff, if_true, if_false, wantV_bool, wantV_unit, unitV, cond_true, cond_false, Bool.not_true, Bool.not_false, List.toList_toArray]) | omega) only [c64b1, c64, Try.f64, Option.getD_some, sub_seq1, sub_block, sub_loop, sub_nil, exec_seq, exec_region, runOps_cons, opF_ari, ev_tmp, g36, evG_some, g35, putT_some, runOps_nil, R.ok_bind, binF_int, op_lssI, cast_lt, hlt, decide_true, exec_cond, exec_skip, exec_exit, exec_block, opF_indexAddr, opF_move, ev_int, T.get_set, if_true, Nat.reduceEqDiff, g34, if_false, opF_load, opF_assign, hp, hpl, h6, g0, op_geq, cast_le, e1, runOps_yes, opF_pick, pickF, ev_bool, opF_call, evs, resK, hg, hsub, opF_nilCheck, opF_fieldAddr, opF_buildSlice, evp, opF_builtin, opF_store, putT_none, builtin_append, bs22, at_slc, nil_ptr, fa85_0, f1, f3, f4, op_add_i64]
                  with_reducible rfl
                apply hK
                simp only [Sl_cons, Sl_nil, T.get_set, T.puts_cons, T.puts_nil, Nat.reduceEqDiff, Nat.reduceAdd, if_true, if_false, and_true, true_and, g0, g34, g35]
              · rw [decide_eq_false e1, Bool.false_and] at hg
                apply W.runG (g) 20
                · intro M hM
                  simp (config := { maxSteps := 4000000 }) (disch := first | decide +kernel | (rw [wantF_guard]; simp only [wantD_some, dstAt_zero, dstAt_succ, T.get_set, T.get_e, Nat.reduceEqDiff, if_true, if_false, wantV_bool, wantV_unit, unitV, cond_true, cond_false, Bool.not_true, Bool.not_false, List.toList_toArray]) | omega) only [c64b1, c64, Try.f64, Option.getD_some, sub_seq1, sub_block, sub_loop, sub_nil, exec_seq, exec_region, runOps_cons, opF_ari, ev_tmp, g36, evG_some, g35, putT_some, runOps_nil, R.ok_bind, binF_int, op_lssI, cast_lt, hlt, decide_true, exec_cond, exec_skip, exec_exit, exec_block, opF_indexAddr, opF_move, ev_int, T.get_set, if_true, Nat.reduceEqDiff, g34, if_false, opF_load, opF_assign, hp, hpl, h6, g0, op_geq, cast_le, e1, decide_false, runOps_no, opF_pick, pickF, ev_bool, opF_call, evs, resK, hg, hsub, opF_nilCheck, opF_fieldAddr, opF_buildSlice, evp, opF_builtin, opF_store, putT_none, builtin_append, bs22, at_slc, nil_ptr, fa85_0, f1, f3, f4, op_add_i64]
                  with_reducible rfl
                apply hK
                simp only [Sl_cons, Sl_nil, T.get_set, T.puts_cons, T.puts_nil, Nat.reduceEqDiff, Nat.reduceAdd, if_true, if_false, and_true, true_and, g0, g34, g35]
            refine fin fun t' hp' => ⟨hlt, _, _, rfl, b3, f5.cast ?_ (fun _ => by rw [hsn, List.append_assoc _ (encCs _)]), hkD.trans hk3, hvD.same n2, n1, Nat.lt_of_lt_of_le hlD hk3.n, hp'⟩
            rw [hta, letOk_lo h6, ← Bool.and_assoc (_ && decide (w.length < 8))]
          · have e : encC c = c.toNat := by unfold encC; rw [if_neg h6]
            obtain ⟨y, y', D3, D4, b3, f1, f3, f4, f5, f6⟩ := hwD.app (by omega) hby (c := UInt8.ofNat (encC c)) (fun _ => by rw [e])
            apply W.run 20
            · intro M
              simp (config := { maxSteps := 4000000 }) (disch := first | decide +kernel | omega) only [c64b1, c64, Try.f64, Option.getD_some, sub_seq1, sub_block, sub_loop, sub_nil, exec_seq, exec_region, runOps_cons, opF_ari, ev_tmp, g36, evG_some, g35, putT_some, runOps_nil, R.ok_bind, binF_int, op_lssI, cast_lt, hlt, decide_true, exec_cond, exec_skip, exec_exit, exec_block, opF_indexAddr, opF_move, ev_int, T.get_set, if_true, Nat.reduceEqDiff, g34, if_false, opF_load, opF_assign, hp, hpl, h6, decide_false, g0, op_geq, cast_le, opF_nilCheck, opF_fieldAddr, opF_buildSlice, evp, opF_builtin, evs, opF_store, putT_none, builtin_append, bs22, at_slc, nil_ptr, fa85_0, f1, f3, f4, op_add_i64]
              with_reducible rfl
            obtain ⟨n1, n2⟩ := f6.keep _ hnb hlD
            refine ⟨hlt, _, _, rfl, b3, f5.cast ?_ (fun _ => by rw [hsn, List.append_assoc _ (encCs _)]), hkD.trans f6, hvD.same n2, n1, Nat.lt_of_lt_of_le hlD f6.n, ?_⟩
            · have hlo : letOk c = true := by unfold letOk; rw [decide_eq_true (by omega)]; rfl
              rw [hta, hlo, Bool.and_true]
            · simp only [Sl_cons, Sl_nil, T.get_set, T.puts_cons, T.puts_nil, Nat.reduceEqDiff, Nat.reduceAdd, if_true, if_false, and_true, true_and, g0, g34, g35]
        · have hin : i = w.length := by omega
          subst hin
          rw [List.take_length] at hwD
          apply W.run 20
          · intro M
            simp (config := { maxSteps := 4000000 }) (disch := first | decide +kernel | omega) only [c64b1, c64, Try.f64, Option.getD_some, sub_seq1, sub_block, sub_loop, sub_nil, exec_seq, exec_region, runOps_cons, opF_ari, ev_tmp, g36, evG_some, g35, putT_some, runOps_nil, R.ok_bind, binF_int, op_lssI, cast_lt, Nat.lt_irrefl, decide_false, exec_cond, exec_skip, exec_exit, exec_block, opF_indexAddr, opF_move, ev_int, T.get_set, if_true]
            with_reducible rfl
          refine ⟨.inl rfl, _, [], rfl, rfl, b', rfl, (hwD.mono (by omega)).cast ?_ (fun _ => by rw [hen, List.append_assoc]; rfl), hkD⟩
          rw [hsp, Bool.and_assoc, Bool.and_comm (decide _)]
      · simp only [Sl_cons, Sl_nil, T.get_set, T.puts_cons, T.puts_nil, Nat.reduceEqDiff, Nat.reduceAdd, if_true, if_false, and_true, true_and, g0]
  exact ⟨b', A', ha, hw, hk⟩
end
end Go.Proofs.Ytmhldlnlgjpkaaa.scr

/-
  Script: an act is written, whatever it is.
-/
namespace Go.Proofs.Ytmhldlnlgjpkaaa.scr
open Go.Am
set_option linter.unusedSimpArgs false
set_option linter.unusedVariables false
set_option linter.unusedVariables false
set_option maxRecDepth 20000

theorem op_mulI {a b : Int} (h1 : -9223372036854775808 ≤ a * b) (h2 : a * b ≤ 9223372036854775807) : intOpF .mul .i64 a b = .ok (.int .i64 (a * b)) := by
  have e : wrapF .i64 (a * b) = a * b := by
    rw [wrapF_eq]; simp [IntKind.wrap, IntKind.signed, IntKind.bits]; omega
  show R.ok (Value.int .i64 (wrapF .i64 (a * b))) = _
  rw [e]
/-- How great the numbers of an act are. -/
structure ActB (d : ActG) : Prop where
  kind : -100000 ≤ d.kind ∧ d.kind ≤ 100000
  k : -100000 ≤ d.k ∧ d.k ≤ 100000
  n : -100000 ≤ d.n ∧ d.n ≤ 100000
  arm : -100000 ≤ d.arm ∧ d.arm ≤ 100000
  weight : d.weight < 4294967296
  word : d.word.length ≤ 1000
  stays : d.stays.length ≤ 100
  svals : ∀ v ∈ d.stays, v < 65536
  opening : d.opening.length ≤ 20
  oarm : ∀ o ∈ d.opening, -100000 ≤ o.1 ∧ o.1 ≤ 100000
  olen : ∀ o ∈ d.opening, o.2.length ≤ 100
  ovals : ∀ o ∈ d.opening, ∀ v ∈ o.2, v < 65536
theorem OpsG.at {A : Mem} {ds : List (Int × List Nat)} {x : Value} (h : OpsG A ds x) {i : Nat} (hi : i < ds.length) :
    ∃ p xs, indexAddrF tb1 37 x (.int .i64 (i : Int)) = .ok (.pointer (some p)) ∧ loadF tb1 A.get 41 (.pointer (some p)) = .ok (.agg ⟨[.int .i64 ds[i].1, xs]⟩) ∧ StR (fun _ => True) A ds[i].2 xs := by
  obtain ⟨ls, b, hr, hll, -, hall⟩ := h
  have hli : i < ls.length := by omega
  obtain ⟨xs, e, h1, -⟩ := hall i ds[i] ls[i] (List.getElem?_eq_getElem hi) (List.getElem?_eq_getElem hli)
  obtain ⟨d41, hd1, hd2⟩ := und41
  refine ⟨_, xs, hr.idx (tb := tb1) (t := 37) (t' := 41) (kd := .i64) (i := i) und37 size41 hli, ?_, h1⟩
  rw [← e]
  exact hr.load_all hd1 hd2 size41 (List.getElem?_eq_getElem hli)
/-- Memory while an act is written; 'A0' is what was there ahead of the writer. -/
structure WA (A0 : Mem) (bw b3 b4 : Nat) (d : ActG) (xs xo : Value) (ok : Bool) (enc : List UInt8) (n b : Nat) (D : Mem) : Prop where
  w : WR bw ok enc n b D
  e : Ext A0 D
  hw : A0.next ≤ bw
  hb : A0.next ≤ b
  h3 : Vals D 39 b3 (.var 9) (cellsG d xs xo)
  h4 : Vals D 35 b4 (.var 5) [.int .i64 d.kind, strOf d.word, .int .u32 (d.weight : Int), .int .i64 d.k, .int .i64 d.n]
  n3 : Nb bw b b3
  n4 : Nb bw b b4
  l3 : b3 < D.next
  l4 : b4 < D.next
  st0 : StR (fun _ => True) A0 d.stays xs
  op0 : OpsG A0 d.opening xo
section
variable {A0 : Mem} {bw b3 b4 b b' n n' : Nat} {d : ActG} {xs xo : Value} {ok ok' : Bool} {enc enc' : List UInt8} {D D' : Mem} {t : T Value} {K : Ex → St → Prop}
theorem WA.step (h : WA A0 bw b3 b4 d xs xo ok enc n b D) (hw : WR bw ok' enc' n' b' D') (hk : Wk bw b D b' D') : WA A0 bw b3 b4 d xs xo ok' enc' n' b' D' where
  w := hw
  e := ⟨Nat.le_trans h.e.n hk.n, fun y hy => by
    have := h.hw; have := h.hb; have := h.e.n
    rw [hk.g y (by omega) (by omega) (by omega), h.e.g y hy]⟩
  hw := h.hw
  hb := by have := hk.o; have := h.hb; have := h.e.n; omega
  h3 := h.h3.same (hk.keep _ h.n3 h.l3).2
  h4 := h.h4.same (hk.keep _ h.n4 h.l4).2
  n3 := (hk.keep _ h.n3 h.l3).1
  n4 := (hk.keep _ h.n4 h.l4).1
  l3 := Nat.lt_of_lt_of_le h.l3 hk.n
  l4 := Nat.lt_of_lt_of_le h.l4 hk.n
  st0 := h.st0
  op0 := h.op0
theorem WA.st (h : WA A0 bw b3 b4 d xs xo ok enc n b D) : StR (Nb bw b) D d.stays xs := h.st0.low.same h.e.n (fun c hc hl => ⟨⟨by have := h.hw; omega, by have := h.hb; omega⟩, h.e.g c hl⟩)
theorem WA.op (h : WA A0 bw b3 b4 d xs xo ok enc n b D) : OpsG D d.opening xo := h.op0.ext h.e
theorem WA.lkind (h : WA A0 bw b3 b4 d xs xo ok enc n b D) : loadF tb1 D.get 3 (.pointer (some ⟨b4, 0, none⟩)) = .ok (.int .i64 d.kind) := load_vals und3 rfl h.h4 rfl
theorem WA.lword (h : WA A0 bw b3 b4 d xs xo ok enc n b D) : loadF tb1 D.get 9 (.pointer (some ⟨b4, 1, none⟩)) = .ok (strOf d.word) := load_vals und9 rfl h.h4 rfl
theorem WA.lweight (h : WA A0 bw b3 b4 d xs xo ok enc n b D) : loadF tb1 D.get 33 (.pointer (some ⟨b4, 2, none⟩)) = .ok (.int .u32 (d.weight : Int)) := load_vals und33 rfl h.h4 rfl
theorem WA.lk (h : WA A0 bw b3 b4 d xs xo ok enc n b D) : loadF tb1 D.get 3 (.pointer (some ⟨b4, 3, none⟩)) = .ok (.int .i64 d.k) := load_vals und3 rfl h.h4 rfl
theorem WA.ln (h : WA A0 bw b3 b4 d xs xo ok enc n b D) : loadF tb1 D.get 3 (.pointer (some ⟨b4, 4, none⟩)) = .ok (.int .i64 d.n) := load_vals und3 rfl h.h4 rfl
theorem WA.larm (h : WA A0 bw b3 b4 d xs xo ok enc n b D) : loadF tb1 D.get 3 (.pointer (some ⟨b3, 5, none⟩)) = .ok (.int .i64 d.arm) := load_vals und3 rfl h.h3 rfl
theorem WA.lcut (h : WA A0 bw b3 b4 d xs xo ok enc n b D) : loadF tb1 D.get 4 (.pointer (some ⟨b3, 6, none⟩)) = .ok (.bool d.cut) := load_vals und4 rfl h.h3 rfl
theorem WA.lst (h : WA A0 bw b3 b4 d xs xo ok enc n b D) : loadF tb1 D.get 36 (.pointer (some ⟨b3, 7, none⟩)) = .ok xs := load_vals und36 rfl h.h3 rfl
theorem WA.lop (h : WA A0 bw b3 b4 d xs xo ok enc n b D) : loadF tb1 D.get 37 (.pointer (some ⟨b3, 8, none⟩)) = .ok xo := load_vals und37 rfl h.h3 rfl

/-! ### The pieces, one by one -/
def kB (d : ActG) : Bool := decide (0 ≤ d.kind) && decide (d.kind < 10)
set_option maxHeartbeats 8000000 in
theorem lay_kind (hM : WA A0 bw b3 b4 d xs xo ok enc n b D) (hp : Sl t (wpS bw b3 b4)) (h5 : t.get 5 = some (.int .i64 d.kind))
    (hK : ∀ t' D', WA A0 bw b3 b4 d xs xo (ok && kB d) enc n b D' → Wk bw b D b D' → Sl t' (wpS bw b3 b4) → t'.get 5 = some (.int .i64 d.kind) → K .nrm ⟨t', 206, [], D', none⟩) :
    W tb1 (sub c54 [1,1,0]) ⟨t, 206, [], D, none⟩ K := by
  obtain ⟨g0, g3, g4, -⟩ := hp
  obtain ⟨D1, ⟨g, hg⟩, hw1, hk1⟩ := run_mustG (p := kB d) hM.w
  have hM1 := hM.step hw1 hk1
  by_cases a1 : ((0 : Nat) : Int) ≤ d.kind
  · have e : kB d = decide (d.kind < ((10 : Nat) : Int)) := by unfold kB; rw [decide_eq_true (by omega)]; rfl
    rw [e] at hg
    apply W.runG (g) 20
    · intro M hM
      simp (config := { maxSteps := 4000000 }) (disch := first | decide +kernel | (rw [wantF_guard]; simp only [wantD_some, dstAt_zero, dstAt_succ, T.get_set, T.get_e, Nat.reduceEqDiff, if_true, if_false, wantV_bool, wantV_unit, unitV, cond_true, cond_false, Bool.not_true, Bool.not_false, List.toList_toArray]) | omega) only [c54, Try.f54, Option.getD_some, sub_seq1, sub_seq0, sub_nil, exec_region, runOps_cons, opF_move, ev_tmp, g0, evG_some, putT_some, T.get_set, Nat.reduceEqDiff, h5, if_false, opF_ari, if_true, ev_int, R.ok_bind, binF_int, op_geq, a1, decide_true, runOps_yes, opF_pick, pickF, ev_bool, opF_call, evs, resK, runOps_nil, op_lssI, hg]
      with_reducible rfl
    refine hK _ _ hM1 hk1 ?_ (by simp only [T.get_set, Nat.reduceEqDiff, if_true, if_false, h5])
    unfold wpS; simp only [Sl_cons, Sl_nil, T.get_set, T.puts_cons, T.puts_nil, Nat.reduceEqDiff, Nat.reduceAdd, if_true, if_false, and_true, true_and, g0, g3, g4]
  · have e : kB d = false := by unfold kB; rw [decide_eq_false (by omega)]; rfl
    rw [e] at hg
    apply W.runG (g) 20
    · intro M hM
      simp (config := { maxSteps := 4000000 }) (disch := first | decide +kernel | (rw [wantF_guard]; simp only [wantD_some, dstAt_zero, dstAt_succ, T.get_set, T.get_e, Nat.reduceEqDiff, if_true, if_false, wantV_bool, wantV_unit, unitV, cond_true, cond_false, Bool.not_true, Bool.not_false, List.toList_toArray]) | omega) only [c54, Try.f54, Option.getD_some, sub_seq1, sub_seq0, sub_nil, exec_region, runOps_cons, opF_move, ev_tmp, g0, evG_some, putT_some, T.get_set, Nat.reduceEqDiff, h5, if_false, opF_ari, if_true, ev_int, R.ok_bind, binF_int, op_geq, a1, decide_false, runOps_no, opF_pick, pickF, ev_bool, opF_call, evs, resK, runOps_nil, hg]
      with_reducible rfl
    refine hK _ _ hM1 hk1 ?_ (by simp only [T.get_set, Nat.reduceEqDiff, if_true, if_false, h5])
    unfold wpS; simp only [Sl_cons, Sl_nil, T.get_set, T.puts_cons, T.puts_nil, Nat.reduceEqDiff, Nat.reduceAdd, if_true, if_false, and_true, true_and, g0, g3, g4]
set_option maxHeartbeats 8000000 in
theorem lay_cut {k : Int} (hM : WA A0 bw b3 b4 d xs xo ok enc n b D) (hk : -200000 ≤ k ∧ k ≤ 200000) (hp : Sl t (wpS bw b3 b4)) (h5 : t.get 5 = some (.int .i64 k))
    (hK : ∀ t', Sl t' (wpS bw b3 b4) → t'.get 5 = some (.int .i64 (k + (if d.cut = true then 10 else 0))) → K .nrm ⟨t', 206, [], D, none⟩) :
    W tb1 (.seq (sub c54 [1,1,1,0,0]) (sub c54 [1,1,1,0,1])) ⟨t, 206, [], D, none⟩ K := by
  obtain ⟨g0, g3, g4, -⟩ := hp
  have l1 := hM.lcut
  apply W.seq
  cases hc : d.cut with
  | true =>
    rw [hc] at l1
    rw [hc, if_pos rfl] at hK
    have i1 : intOpF .add .i64 k ((10 : Nat) : Int) = .ok (.int .i64 (k + 10)) := op_addI (by omega) (by omega)
    apply W.run 20
    · intro M
      simp (config := { maxSteps := 4000000 }) (disch := first | decide +kernel | omega) only [c54, Try.f54, Option.getD_some, sub_seq1, sub_seq0, sub_nil, exec_region, runOps_cons, opF_fieldAddr, ev_tmp, g3, evG_some, putT_some, opF_load, T.get_set, if_true, runOps_nil, R.ok_bind, fa39_2, l1]
      with_reducible rfl
    show W tb1 _ _ _
    apply W.run 20
    · intro M
      simp (config := { maxSteps := 4000000 }) (disch := first | decide +kernel | omega) only [c54, Try.f54, Option.getD_some, sub_seq1, sub_seq0, sub_nil, exec_cond, ev_tmp, T.get_set, Nat.reduceEqDiff, if_false, if_true, evG_some, exec_region, runOps_cons, opF_move, h5, putT_some, opF_ari, ev_int, opF_assign, runOps_nil, R.ok_bind, binF_int, i1, exec_skip]
      with_reducible rfl
    refine hK _ ?_ (by simp only [T.get_set, Nat.reduceEqDiff, if_true, if_false])
    unfold wpS; simp only [Sl_cons, Sl_nil, T.get_set, T.puts_cons, T.puts_nil, Nat.reduceEqDiff, Nat.reduceAdd, if_true, if_false, and_true, true_and, g0, g3, g4]
  | false =>
    rw [hc] at l1
    rw [hc, if_neg (by decide)] at hK
    apply W.run 20
    · intro M
      simp (config := { maxSteps := 4000000 }) (disch := first | decide +kernel | omega) only [c54, Try.f54, Option.getD_some, sub_seq1, sub_seq0, sub_nil, exec_region, runOps_cons, opF_fieldAddr, ev_tmp, g3, evG_some, putT_some, opF_load, T.get_set, if_true, runOps_nil, R.ok_bind, fa39_2, l1]
      with_reducible rfl
    show W tb1 _ _ _
    apply W.run 20
    · intro M
      simp (config := { maxSteps := 4000000 }) (disch := first | decide +kernel | omega) only [c54, Try.f54, Option.getD_some, sub_seq1, sub_seq0, sub_nil, exec_cond, ev_tmp, T.get_set, Nat.reduceEqDiff, if_false, if_true, evG_some, exec_region, runOps_cons, opF_move, putT_some, opF_ari, ev_int, opF_assign, runOps_nil, R.ok_bind, exec_skip]
      with_reducible rfl
    refine hK _ ?_ (by simp only [T.get_set, Nat.reduceEqDiff, if_true, if_false, h5, Int.add_zero])
    unfold wpS; simp only [Sl_cons, Sl_nil, T.get_set, T.puts_cons, T.puts_nil, Nat.reduceEqDiff, Nat.reduceAdd, if_true, if_false, and_true, true_and, g0, g3, g4]
set_option maxHeartbeats 8000000 in
theorem lay_arm {k : Int} (hM : WA A0 bw b3 b4 d xs xo ok enc n b D) (hk : -200000 ≤ k ∧ k ≤ 200000) (hp : Sl t (wpS bw b3 b4)) (h5 : t.get 5 = some (.int .i64 k))
    (hK : ∀ t', Sl t' (wpS bw b3 b4) → t'.get 5 = some (.int .i64 (k + (if d.arm = 0 then 0 else 20))) → K .nrm ⟨t', 206, [], D, none⟩) :
    W tb1 (.seq (sub c54 [1,1,1,1,0,0]) (sub c54 [1,1,1,1,0,1])) ⟨t, 206, [], D, none⟩ K := by
  obtain ⟨g0, g3, g4, -⟩ := hp
  have l1 := hM.larm
  apply W.seq
  by_cases hc : d.arm = 0
  · rw [hc] at l1
    rw [if_pos hc] at hK
    have z0 : intOpF .neq .i64 0 ((0 : Nat) : Int) = .ok (.bool false) := by rfl
    apply W.run 20
    · intro M
      simp (config := { maxSteps := 4000000 }) (disch := first | decide +kernel | omega) only [c54, Try.f54, Option.getD_some, sub_seq1, sub_seq0, sub_nil, exec_region, runOps_cons, opF_fieldAddr, ev_tmp, g3, evG_some, putT_some, opF_load, T.get_set, if_true, opF_neq, Nat.reduceEqDiff, if_false, ev_int, runOps_nil, R.ok_bind, fa39_1, l1, binF_int, z0]
      with_reducible rfl
    show W tb1 _ _ _
    apply W.run 20
    · intro M
      simp (config := { maxSteps := 4000000 }) (disch := first | decide +kernel | omega) only [c54, Try.f54, Option.getD_some, sub_seq1, sub_seq0, sub_nil, exec_cond, ev_tmp, T.get_set, Nat.reduceEqDiff, if_false, if_true, evG_some, exec_region, runOps_cons, opF_move, putT_some, opF_ari, ev_int, opF_assign, runOps_nil, R.ok_bind, exec_skip]
      with_reducible rfl
    refine hK _ ?_ (by simp only [T.get_set, Nat.reduceEqDiff, if_true, if_false, h5, Int.add_zero])
    unfold wpS; simp only [Sl_cons, Sl_nil, T.get_set, T.puts_cons, T.puts_nil, Nat.reduceEqDiff, Nat.reduceAdd, if_true, if_false, and_true, true_and, g0, g3, g4]
  · rw [if_neg hc] at hK
    have z1 : intOpF .neq .i64 d.arm ((0 : Nat) : Int) = .ok (.bool true) := by rw [op_neqI, decide_eq_true (by omega)]
    have i1 : intOpF .add .i64 k ((20 : Nat) : Int) = .ok (.int .i64 (k + 20)) := op_addI (by omega) (by omega)
    apply W.run 20
    · intro M
      simp (config := { maxSteps := 4000000 }) (disch := first | decide +kernel | omega) only [c54, Try.f54, Option.getD_some, sub_seq1, sub_seq0, sub_nil, exec_region, runOps_cons, opF_fieldAddr, ev_tmp, g3, evG_some, putT_some, opF_load, T.get_set, if_true, opF_neq, Nat.reduceEqDiff, if_false, ev_int, runOps_nil, R.ok_bind, fa39_1, l1, binF_int, z1]
      with_reducible rfl
    show W tb1 _ _ _
    apply W.run 20
    · intro M
      simp (config := { maxSteps := 4000000 }) (disch := first | decide +kernel | omega) only [c54, Try.f54, Option.getD_some, sub_seq1, sub_seq0, sub_nil, exec_cond, ev_tmp, T.get_set, Nat.reduceEqDiff, if_false, if_true, evG_some, exec_region, runOps_cons, opF_move, h5, putT_some, opF_ari, ev_int, opF_assign, runOps_nil, R.ok_bind, binF_int, i1, exec_skip]
      with_reducible rfl
    refine hK _ ?_ (by simp only [T.get_set, Nat.reduceEqDiff, if_true, if_false])
    unfold wpS; simp only [Sl_cons, Sl_nil, T.get_set, T.puts_cons, T.puts_nil, Nat.reduceEqDiff, Nat.reduceAdd, if_true, if_false, and_true, true_and, g0, g3, g4]
set_option maxHeartbeats 8000000 in
theorem lay_byte {k : Int} {c : UInt8} (hM : WA A0 bw b3 b4 d xs xo ok enc n b D) (hn : n ≤ 900000) (hc : ok = true → 0 ≤ k ∧ k < 256 ∧ UInt8.ofNat k.toNat = c) (hp : Sl t (wpS bw b3 b4)) (h5 : t.get 5 = some (.int .i64 k))
    (hK : ∀ t' b' D', WA A0 bw b3 b4 d xs xo ok (enc ++ [c]) (n + 1) b' D' → Wk bw b D b' D' → Sl t' (wpS bw b3 b4) → K .nrm ⟨t', 206, [], D', none⟩) :
    W tb1 (sub c54 [1,1,1,1,1,0]) ⟨t, 206, [], D, none⟩ K := by
  obtain ⟨g0, g3, g4, -⟩ := hp
  obtain ⟨v, hv, hwv, hev⟩ := wrap_u8 k
  obtain ⟨y, y', D2, D3, b2, f1, f3, f4, f5, f6⟩ := hM.w.app (by omega) hv (c := c) (fun h => by rw [hev (hc h).1 (hc h).2.1]; exact (hc h).2.2)
  apply W.run 20
  · intro M
    simp (config := { maxSteps := 4000000 }) (disch := first | decide +kernel | omega) only [c54, Try.f54, Option.getD_some, sub_seq1, sub_seq0, sub_nil, exec_region, runOps_cons, opF_move, ev_tmp, g0, evG_some, putT_some, T.get_set, Nat.reduceEqDiff, if_false, opF_nilCheck, if_true, opF_fieldAddr, opF_load, h5, opF_conv, convPF, und3, und5, opF_buildSlice, evp, R.ok_bind, opF_builtin, evs, opF_store, putT_none, runOps_nil, builtin_append, hwv, bs22, at_slc, nil_ptr, fa85_0, f1, f3, f4]
    with_reducible rfl
  refine hK _ b2 _ (hM.step f5 f6) f6 ?_
  unfold wpS; simp only [Sl_cons, Sl_nil, T.get_set, T.puts_cons, T.puts_nil, Nat.reduceEqDiff, Nat.reduceAdd, if_true, if_false, and_true, true_and, g0, g3, g4]
def rOk (d : ActG) : Bool := decide (d.arm = 0) || decide (0 ≤ d.arm - 1 ∧ d.arm - 1 ≤ 255)
set_option maxHeartbeats 8000000 in
theorem lay_armed (hB : ActB d) (hM : WA A0 bw b3 b4 d xs xo ok enc n b D) (hn : n ≤ 900000) (hp : Sl t (wpS bw b3 b4))
    (hK : ∀ t' b' D', WA A0 bw b3 b4 d xs xo (ok && rOk d) (enc ++ (if d.arm = 0 then [] else [UInt8.ofNat (d.arm - 1).toNat])) (n + 1) b' D' → Wk bw b D b' D' → Sl t' (wpS bw b3 b4) → K .nrm ⟨t', 206, [], D', none⟩) :
    W tb1 (.seq (sub c54 [1,1,1,1,1,1,0,0]) (sub c54 [1,1,1,1,1,1,0,1])) ⟨t, 206, [], D, none⟩ K := by
  obtain ⟨g0, g3, g4, -⟩ := hp
  have l1 := hM.larm
  have ha := hB.arm
  apply W.seq
  by_cases hc : d.arm = 0
  · rw [hc] at l1
    have e : rOk d = true := by unfold rOk; rw [decide_eq_true hc]; rfl
    rw [if_pos hc, e, Bool.and_true, List.append_nil] at hK
    have z0 : intOpF .neq .i64 0 ((0 : Nat) : Int) = .ok (.bool false) := by rfl
    apply W.run 20
    · intro M
      simp (config := { maxSteps := 4000000 }) (disch := first | decide +kernel | omega) only [c54, Try.f54, Option.getD_some, sub_seq1, sub_seq0, sub_nil, exec_region, runOps_cons, opF_fieldAddr, ev_tmp, g3, evG_some, putT_some, opF_load, T.get_set, if_true, opF_neq, Nat.reduceEqDiff, if_false, ev_int, runOps_nil, R.ok_bind, fa39_1, l1, binF_int, z0]
      with_reducible rfl
    show W tb1 _ _ _
    apply W.run 20
    · intro M
      simp (config := { maxSteps := 4000000 }) (disch := first | decide +kernel | omega) only [c54, Try.f54, Option.getD_some, sub_seq1, sub_seq0, sub_nil, exec_cond, ev_tmp, T.get_set, Nat.reduceEqDiff, if_false, if_true, evG_some, exec_region, runOps_cons, opF_move, putT_some, opF_fieldAddr, opF_load, opF_ari, ev_int, opF_buildSlice, evp, R.ok_bind, opF_call, evs, resK, runOps_nil, exec_skip]
      with_reducible rfl
    refine hK _ b _ (hM.step (hM.w.mono (by omega)) (Wk.refl _ _ _)) (Wk.refl _ _ _) ?_
    unfold wpS; simp only [Sl_cons, Sl_nil, T.get_set, T.puts_cons, T.puts_nil, Nat.reduceEqDiff, Nat.reduceAdd, if_true, if_false, and_true, true_and, g0, g3, g4]
  · have e : rOk d = decide (0 ≤ d.arm - 1 ∧ d.arm - 1 ≤ ((255 : Nat) : Int)) := by unfold rOk; rw [decide_eq_false hc]; rfl
    rw [if_neg hc, e] at hK
    have z1 : intOpF .neq .i64 d.arm ((0 : Nat) : Int) = .ok (.bool true) := by rw [op_neqI, decide_eq_true (by omega)]
    have hsub : intOpF .sub .i64 d.arm ((1 : Nat) : Int) = .ok (.int .i64 (d.arm - 1)) := op_subI (by omega) (by omega)
    obtain ⟨e1, F1, ⟨g1, hg1⟩, hw1, hk1⟩ := run_putG (most := 255) (m := d.arm - 1) (c := UInt8.ofNat (d.arm - 1).toNat) hM.w (by omega) (by omega) (fun _ _ => rfl)
    apply W.run 20
    · intro M
      simp (config := { maxSteps := 4000000 }) (disch := first | decide +kernel | omega) only [c54, Try.f54, Option.getD_some, sub_seq1, sub_seq0, sub_nil, exec_region, runOps_cons, opF_fieldAddr, ev_tmp, g3, evG_some, putT_some, opF_load, T.get_set, if_true, opF_neq, Nat.reduceEqDiff, if_false, ev_int, runOps_nil, R.ok_bind, fa39_1, l1, binF_int, z1]
      with_reducible rfl
    show W tb1 _ _ _
    apply W.runG (g1) 20
    · intro M hM
      simp (config := { maxSteps := 4000000 }) (disch := first | decide +kernel | omega) only [c54, Try.f54, Option.getD_some, sub_seq1, sub_seq0, sub_nil, exec_cond, ev_tmp, T.get_set, Nat.reduceEqDiff, if_false, if_true, evG_some, exec_region, runOps_cons, opF_move, g0, putT_some, opF_fieldAddr, g3, opF_load, opF_ari, ev_int, opF_buildSlice, evp, R.ok_bind, opF_call, evs, resK, runOps_nil, fa39_1, l1, binF_int, hsub, bs127, at_slc, hg1, exec_skip]
      with_reducible rfl
    refine hK _ e1 _ (hM.step hw1 hk1) hk1 ?_
    unfold wpS; simp only [Sl_cons, Sl_nil, T.get_set, T.puts_cons, T.puts_nil, Nat.reduceEqDiff, Nat.reduceAdd, if_true, if_false, and_true, true_and, g0, g3, g4]
end
end Go.Proofs.Ytmhldlnlgjpkaaa.scr

/-
  Script: an act is written, whatever it is: its weight, its question, its tail.
-/
namespace Go.Proofs.Ytmhldlnlgjpkaaa.scr
open Go.Am
set_option linter.unusedSimpArgs false
set_option linter.unusedVariables false
set_option linter.unusedVariables false
set_option maxRecDepth 20000

def weighsI (k : Int) : Bool := decide (k = 0 ∨ k = 2)
theorem run_weighsI (k : Int) (A : Mem) : Ans tb1 42 [.int .i64 k] A (.bool (weighsI k)) A := by
  obtain ⟨v, A', ha, rfl, rfl⟩ : ∃ v A', Ans tb1 42 [.int .i64 k] A v A' ∧ v = .bool (weighsI k) ∧ A' = A := by
    refine ans_of_W (fn_at Try.func42) c42_eq (by rw [Try.ntmps42]; simp) (by kernel_rfl) (by kernel_rfl) ?_
    apply W.seq
    apply W.run 20
    · intro M
      simp (config := { maxSteps := 4000000 }) (disch := first | decide +kernel | omega) only [c42, Try.f42, Option.getD_some, sub_seq0, sub_nil, T.puts_cons, Nat.reduceAdd, T.puts_nil, exec_region, runOps_cons, opF_assign, ev_bool, putT_some, runOps_nil, R.ok_bind]
      with_reducible rfl
    apply W.seq
    by_cases h0 : k = 0
    · have z : intOpF .eql .i64 k ((0 : Nat) : Int) = .ok (.bool true) := by rw [h0]; rfl
      apply W.run 20
      · intro M
        simp (config := { maxSteps := 4000000 }) (disch := first | decide +kernel | (rw [wantF_guard]; simp only [wantD_some, dstAt_zero, dstAt_succ, T.get_set, T.get_e, Nat.reduceEqDiff, if_true, if_false, wantV_bool, wantV_unit, unitV, cond_true, cond_false, Bool.not_true, Bool.not_false, List.toList_toArray]) | omega) only [c42, Try.f42, Option.getD_some, sub_seq1, sub_seq0, sub_nil, exec_region, runOps_cons, opF_move, ev_tmp, T.get_set, Nat.reduceEqDiff, T.get_e, if_true, if_false, evG_some, putT_some, opF_eql, ev_int, R.ok_bind, binF_int, z, runOps_no, opF_pick, pickF, ev_bool, opF_assign, runOps_nil]
        with_reducible rfl
      apply W.run 20
      · intro M
        simp (config := { maxSteps := 4000000 }) (disch := first | decide +kernel | omega) only [c42, Try.f42, Option.getD_some, sub_seq1, sub_nil, exec_ret]
        with_reducible rfl
      refine ⟨.inr rfl, A, [.bool true], rfl, ?_, ?_, rfl⟩
      · simp only [Try.f42, resF, ev_tmp, T.get_set, Nat.reduceEqDiff, if_true, if_false, evG_some, R.ok_bind]
      · show Value.bool true = _
        unfold weighsI; rw [decide_eq_true (.inl h0)]
    · have z : intOpF .eql .i64 k ((0 : Nat) : Int) = .ok (.bool false) := by rw [op_eqlI, decide_eq_false (by omega)]
      have z2 : intOpF .eql .i64 k ((2 : Nat) : Int) = .ok (.bool (weighsI k)) := by rw [op_eqlI]; unfold weighsI; congr 2; rw [decide_eq_decide]; omega
      apply W.run 20
      · intro M
        simp (config := { maxSteps := 4000000 }) (disch := first | decide +kernel | (rw [wantF_guard]; simp only [wantD_some, dstAt_zero, dstAt_succ, T.get_set, T.get_e, Nat.reduceEqDiff, if_true, if_false, wantV_bool, wantV_unit, unitV, cond_true, cond_false, Bool.not_true, Bool.not_false, List.toList_toArray]) | omega) only [c42, Try.f42, Option.getD_some, sub_seq1, sub_seq0, sub_nil, exec_region, runOps_cons, opF_move, ev_tmp, T.get_set, Nat.reduceEqDiff, T.get_e, if_true, if_false, evG_some, putT_some, opF_eql, ev_int, R.ok_bind, binF_int, z, runOps_yes, opF_pick, pickF, ev_bool, opF_assign, runOps_nil, z2]
        with_reducible rfl
      apply W.run 20
      · intro M
        simp (config := { maxSteps := 4000000 }) (disch := first | decide +kernel | omega) only [c42, Try.f42, Option.getD_some, sub_seq1, sub_nil, exec_ret]
        with_reducible rfl
      refine ⟨.inr rfl, A, [.bool (weighsI k)], rfl, ?_, rfl, rfl⟩
      simp only [Try.f42, resF, ev_tmp, T.get_set, Nat.reduceEqDiff, if_true, if_false, evG_some, R.ok_bind]
  exact ha
section
variable {A0 : Mem} {bw b3 b4 b b' n n' : Nat} {d : ActG} {xs xo : Value} {ok ok' : Bool} {enc enc' : List UInt8} {D D' : Mem} {t : T Value} {K : Ex → St → Prop}
def wOk (d : ActG) : Bool := if weighsI d.kind = true then (if d.weight = 4294967295 then true else decide (d.weight < 255)) else decide (d.weight = 0)
def wB (d : ActG) : List UInt8 := if weighsI d.kind = true then [UInt8.ofNat (if d.weight = 4294967295 then 255 else d.weight)] else []
set_option maxHeartbeats 8000000 in
theorem lay_weight (hB : ActB d) (hM : WA A0 bw b3 b4 d xs xo ok enc n b D) (hn : n ≤ 900000) (hp : Sl t (wpS bw b3 b4))
    (hK : ∀ t' b' D', WA A0 bw b3 b4 d xs xo (ok && wOk d) (enc ++ wB d) (n + 1) b' D' → Wk bw b D b' D' → Sl t' (wpS bw b3 b4) → K .nrm ⟨t', 206, [], D', none⟩) :
    W tb1 (sub c54 [1,1,1,1,1,1,1,1,0]) ⟨t, 206, [], D, none⟩ K := by
  obtain ⟨g0, g3, g4, -⟩ := hp
  have l1 := hM.lkind
  have l2 := hM.lweight
  have hwt := hB.weight
  obtain ⟨gw, hgw⟩ := run_weighsI d.kind D
  cases hw : weighsI d.kind with
  | true =>
    rw [hw] at hgw
    by_cases hm : d.weight = 4294967295
    · have e1 : wOk d = true := by unfold wOk; rw [if_pos hw, if_pos hm]
      have e2 : wB d = [UInt8.ofNat 255] := by unfold wB; rw [if_pos hw, if_pos hm]
      obtain ⟨b3', D2, ⟨g, hg⟩, hw2, hk2⟩ := run_putG (most := 255) (m := ((255 : Nat) : Int)) (c := UInt8.ofNat 255) hM.w (by omega) (by omega) (fun _ _ => rfl)
      rw [show (ok && decide (0 ≤ ((255 : Nat) : Int) ∧ ((255 : Nat) : Int) ≤ ((255 : Nat) : Int))) = (ok && wOk d) by rw [e1]; rfl] at hw2
      rw [e2] at hK
      rw [hm] at l2
      apply W.runG ((gw+g)) 20
      · intro M hM
        simp (config := { maxSteps := 4000000 }) (disch := first | decide +kernel | omega) only [c54, Try.f54, Option.getD_some, sub_seq1, sub_seq0, sub_nil, exec_block, exec_seq, exec_region, runOps_cons, opF_fieldAddr, ev_tmp, g4, evG_some, putT_some, opF_load, T.get_set, if_true, opF_call, evs, Nat.reduceEqDiff, if_false, R.ok_bind, resK, opF_un, opF_assign, runOps_nil, fa35_0, l1, hgw, un_not, Bool.not_true, exec_cond, opF_move, g0, opF_eql, ev_int, fa35_2, l2, binF_int, op_eql, decide_false, decide_true, opF_buildSlice, evp, bs127, at_slc, hg, opF_conv]
        with_reducible rfl
      refine hK _ b3' _ (hM.step hw2 hk2) hk2 ?_
      unfold wpS; simp only [Sl_cons, Sl_nil, T.get_set, T.puts_cons, T.puts_nil, Nat.reduceEqDiff, Nat.reduceAdd, if_true, if_false, and_true, true_and, g0, g3, g4]
    · have e1 : wOk d = decide (d.weight < 255) := by unfold wOk; rw [if_pos hw, if_neg hm]
      have e2 : wB d = [UInt8.ofNat d.weight] := by unfold wB; rw [if_pos hw, if_neg hm]
      obtain ⟨b3', D2, ⟨g, hg⟩, hw2, hk2⟩ := run_putG (most := 254) (m := (d.weight : Int)) (c := UInt8.ofNat d.weight) hM.w (by omega) (by omega) (fun _ _ => by rw [Int.toNat_natCast])
      rw [show (ok && decide (0 ≤ (d.weight : Int) ∧ (d.weight : Int) ≤ ((254 : Nat) : Int))) = (ok && wOk d) by rw [e1]; congr 1; rw [decide_eq_decide]; omega] at hw2
      rw [e2] at hK
      have hmx : d.weight < 9223372036854775808 := by omega
      apply W.runG ((gw+g)) 20
      · intro M hM
        simp (config := { maxSteps := 4000000 }) (disch := first | decide +kernel | omega) only [c54, Try.f54, Option.getD_some, sub_seq1, sub_seq0, sub_nil, exec_block, exec_seq, exec_region, runOps_cons, opF_fieldAddr, ev_tmp, g4, evG_some, putT_some, opF_load, T.get_set, if_true, opF_call, evs, Nat.reduceEqDiff, if_false, R.ok_bind, resK, opF_un, opF_assign, runOps_nil, fa35_0, l1, hgw, un_not, Bool.not_true, exec_cond, opF_move, g0, opF_eql, ev_int, und33, fa35_2, l2, binF_int, op_eql, hm, decide_false, opF_buildSlice, evp, bs127, at_slc, opF_conv, convPF, und3, wrapF_i64, hg]
        with_reducible rfl
      refine hK _ b3' _ (hM.step hw2 hk2) hk2 ?_
      unfold wpS; simp only [Sl_cons, Sl_nil, T.get_set, T.puts_cons, T.puts_nil, Nat.reduceEqDiff, Nat.reduceAdd, if_true, if_false, and_true, true_and, g0, g3, g4]
  | false =>
    rw [hw] at hgw
    have e1 : wOk d = decide (d.weight = 0) := by unfold wOk; rw [if_neg (by rw [hw]; decide)]
    have e2 : wB d = [] := by unfold wB; rw [if_neg (by rw [hw]; decide)]
    obtain ⟨D2, ⟨g, hg⟩, hw2, hk2⟩ := run_mustG (p := decide (d.weight = 0)) hM.w
    rw [e1, e2, List.append_nil] at hK
    apply W.runG ((gw+g)) 20
    · intro M hM
      simp (config := { maxSteps := 4000000 }) (disch := first | decide +kernel | omega) only [c54, Try.f54, Option.getD_some, sub_seq1, sub_seq0, sub_nil, exec_block, exec_seq, exec_region, runOps_cons, opF_fieldAddr, ev_tmp, g4, evG_some, putT_some, opF_load, T.get_set, if_true, opF_call, evs, Nat.reduceEqDiff, if_false, R.ok_bind, resK, opF_un, opF_assign, runOps_nil, fa35_0, l1, hgw, un_not, Bool.not_false, exec_cond, opF_move, g0, opF_eql, ev_int, fa35_2, l2, binF_int, op_eql, hg, opF_buildSlice, evp, opF_conv, cond_val]
      with_reducible rfl
    refine hK _ b _ (hM.step (hw2.mono (by omega)) hk2) hk2 ?_
    unfold wpS; simp only [Sl_cons, Sl_nil, T.get_set, T.puts_cons, T.puts_nil, Nat.reduceEqDiff, Nat.reduceAdd, if_true, if_false, and_true, true_and, g0, g3, g4]
def qOk (d : ActG) : Bool := if d.kind = 7 then (decide (-1 ≤ d.k) && (decide (d.k < 5) && (decide (-1 ≤ d.n) && decide (d.n < 11)))) else (decide (d.k = 0) && decide (d.n = 0))
def qB (d : ActG) : List UInt8 := if d.kind = 7 then [UInt8.ofNat ((d.k + 1) + 6 * (d.n + 1)).toNat] else []
set_option maxHeartbeats 16000000 in
theorem lay_ask (hB : ActB d) (hM : WA A0 bw b3 b4 d xs xo ok enc n b D) (hn : n ≤ 900000) (hp : Sl t (wpS bw b3 b4))
    (hK : ∀ t' b' D', WA A0 bw b3 b4 d xs xo (ok && qOk d) (enc ++ qB d) (n + 1) b' D' → Wk bw b D b' D' → Sl t' (wpS bw b3 b4) → K .nrm ⟨t', 206, [], D', none⟩) :
    W tb1 (.seq (sub c54 [1,1,1,1,1,1,1,1,1,0,0]) (sub c54 [1,1,1,1,1,1,1,1,1,0,1])) ⟨t, 206, [], D, none⟩ K := by
  obtain ⟨g0, g3, g4, -⟩ := hp
  have l1 := hM.lkind
  have l2 := hM.lk
  have l3 := hM.ln
  have hbk := hB.k
  have hbn := hB.n
  apply W.seq
  by_cases h7 : d.kind = 7
  · have e2 : qB d = [UInt8.ofNat ((d.k + 1) + 6 * (d.n + 1)).toNat] := by unfold qB; rw [if_pos h7]
    have e1 : qOk d = (decide (-1 ≤ d.k) && (decide (d.k < 5) && (decide (-1 ≤ d.n) && decide (d.n < 11)))) := by unfold qOk; rw [if_pos h7]
    rw [e2] at hK
    rw [h7] at l1
    have z7 : intOpF .eql .i64 7 ((7 : Nat) : Int) = .ok (.bool true) := by rfl
    obtain ⟨D1, ⟨g1, hg1⟩, hw1, hk1⟩ := run_mustG (p := qOk d) hM.w
    have hM1 := hM.step hw1 hk1
    have l2' := hM1.lk
    have l3' := hM1.ln
    have a1 : intOpF .add .i64 d.k ((1 : Nat) : Int) = .ok (.int .i64 (d.k + 1)) := op_addI (by omega) (by omega)
    have a2 : intOpF .add .i64 d.n ((1 : Nat) : Int) = .ok (.int .i64 (d.n + 1)) := op_addI (by omega) (by omega)
    have a3 : intOpF .mul .i64 ((6 : Nat) : Int) (d.n + 1) = .ok (.int .i64 (6 * (d.n + 1))) := op_mulI (by omega) (by omega)
    have a4 : intOpF .add .i64 (d.k + 1) (6 * (d.n + 1)) = .ok (.int .i64 ((d.k + 1) + 6 * (d.n + 1))) := op_addI (by omega) (by omega)
    obtain ⟨v, hv, hwv, hev⟩ := wrap_u8 ((d.k + 1) + 6 * (d.n + 1))
    obtain ⟨y, y', D2, D3, b3', f1, f3, f4, f5, f6⟩ := hw1.app (by omega) hv (c := UInt8.ofNat ((d.k + 1) + 6 * (d.n + 1)).toNat) (fun h => by
      rw [e1] at h
      simp only [Bool.and_eq_true, decide_eq_true_eq] at h
      rw [hev (by omega) (by omega)])
    have first : ∀ {t : T Value} {K : Ex → St → Prop}, Sl t (wpS bw b3 b4) → (∀ t', Sl t' (wpS bw b3 b4) → K .nrm ⟨t', 206, [], D1, none⟩) → W tb1 (sub c54 [1,1,1,1,1,1,1,1,1,0,1,0,0]) ⟨t, 206, [], D, none⟩ K := by
      rintro t K ⟨g0, g3, g4, -⟩ hK
      by_cases i1 : (-1 : Int) ≤ d.k
      · by_cases i2 : d.k < ((5 : Nat) : Int)
        · by_cases i3 : (-1 : Int) ≤ d.n
          · have e : qOk d = decide (d.n < ((11 : Nat) : Int)) := by rw [e1, decide_eq_true i1, decide_eq_true (by omega), decide_eq_true i3]; rfl
            rw [e] at hg1
            apply W.runG (g1) 20
            · intro M hM
              simp (config := { maxSteps := 4000000 }) (disch := first | decide +kernel | (rw [wantF_guard]; simp only [wantD_some, dstAt_zero, dstAt_succ, T.get_set, T.get_e, Nat.reduceEqDiff, if_true, if_false, wantV_bool, wantV_unit, unitV, cond_true, cond_false, Bool.not_true, Bool.not_false, List.toList_toArray]) | omega) only [c54, Try.f54, Option.getD_some, sub_seq1, sub_seq0, sub_cond0, sub_nil, exec_region, runOps_cons, opF_move, ev_tmp, g0, evG_some, putT_some, opF_fieldAddr, T.get_set, Nat.reduceEqDiff, g4, if_false, opF_load, if_true, opF_ari, ev_neg1, R.ok_bind, fa35_3, l2, binF_int, op_geq, i1, decide_true, runOps_yes, ev_int, opF_pick, pickF, ev_bool, op_lssI, i2, fa35_4, l3, i3, opF_call, evs, resK, runOps_nil, hg1]
              with_reducible rfl
            apply hK
            unfold wpS; simp only [Sl_cons, Sl_nil, T.get_set, T.puts_cons, T.puts_nil, Nat.reduceEqDiff, Nat.reduceAdd, if_true, if_false, and_true, true_and, g0, g3, g4]
          · have e : qOk d = false := by rw [e1, decide_eq_false i3, Bool.false_and, Bool.and_false, Bool.and_false]
            rw [e] at hg1
            apply W.runG (g1) 20
            · intro M hM
              simp (config := { maxSteps := 4000000 }) (disch := first | decide +kernel | (rw [wantF_guard]; simp only [wantD_some, dstAt_zero, dstAt_succ, T.get_set, T.get_e, Nat.reduceEqDiff, if_true, if_false, wantV_bool, wantV_unit, unitV, cond_true, cond_false, Bool.not_true, Bool.not_false, List.toList_toArray]) | omega) only [c54, Try.f54, Option.getD_some, sub_seq1, sub_seq0, sub_cond0, sub_nil, exec_region, runOps_cons, opF_move, ev_tmp, g0, evG_some, putT_some, opF_fieldAddr, T.get_set, Nat.reduceEqDiff, g4, if_false, opF_load, if_true, opF_ari, ev_neg1, R.ok_bind, fa35_3, l2, binF_int, op_geq, i1, decide_true, runOps_yes, ev_int, opF_pick, pickF, ev_bool, op_lssI, i2, fa35_4, l3, i3, decide_false, runOps_no, opF_call, evs, resK, runOps_nil, hg1]
              with_reducible rfl
            apply hK
            unfold wpS; simp only [Sl_cons, Sl_nil, T.get_set, T.puts_cons, T.puts_nil, Nat.reduceEqDiff, Nat.reduceAdd, if_true, if_false, and_true, true_and, g0, g3, g4]
        · have e : qOk d = false := by rw [e1, decide_eq_false (show ¬ d.k < 5 by omega), Bool.false_and, Bool.and_false]
          rw [e] at hg1
          apply W.runG (g1) 20
          · intro M hM
            simp (config := { maxSteps := 4000000 }) (disch := first | decide +kernel | (rw [wantF_guard]; simp only [wantD_some, dstAt_zero, dstAt_succ, T.get_set, T.get_e, Nat.reduceEqDiff, if_true, if_false, wantV_bool, wantV_unit, unitV, cond_true, cond_false, Bool.not_true, Bool.not_false, List.toList_toArray]) | omega) only [c54, Try.f54, Option.getD_some, sub_seq1, sub_seq0, sub_cond0, sub_nil, exec_region, runOps_cons, opF_move, ev_tmp, g0, evG_some, putT_some, opF_fieldAddr, T.get_set, Nat.reduceEqDiff, g4, if_false, opF_load, if_true, opF_ari, ev_neg1, R.ok_bind, fa35_3, l2, binF_int, op_geq, i1, decide_true, runOps_yes, ev_int, opF_pick, pickF, ev_bool, op_lssI, i2, decide_false, runOps_no, opF_call, evs, resK, runOps_nil, hg1]
            with_reducible rfl
          apply hK
          unfold wpS; simp only [Sl_cons, Sl_nil, T.get_set, T.puts_cons, T.puts_nil, Nat.reduceEqDiff, Nat.reduceAdd, if_true, if_false, and_true, true_and, g0, g3, g4]
      · have e : qOk d = false := by rw [e1, decide_eq_false i1, Bool.false_and]
        rw [e] at hg1
        apply W.runG (g1) 20
        · intro M hM
          simp (config := { maxSteps := 4000000 }) (disch := first | decide +kernel | (rw [wantF_guard]; simp only [wantD_some, dstAt_zero, dstAt_succ, T.get_set, T.get_e, Nat.reduceEqDiff, if_true, if_false, wantV_bool, wantV_unit, unitV, cond_true, cond_false, Bool.not_true, Bool.not_false, List.toList_toArray]) | omega) only [c54, Try.f54, Option.getD_some, sub_seq1, sub_seq0, sub_cond0, sub_nil, exec_region, runOps_cons, opF_move, ev_tmp, g0, evG_some, putT_some, opF_fieldAddr, T.get_set, Nat.reduceEqDiff, g4, if_false, opF_load, if_true, opF_ari, ev_neg1, R.ok_bind, fa35_3, l2, binF_int, op_geq, i1, decide_false, runOps_no, opF_pick, pickF, ev_bool, opF_call, evs, resK, runOps_nil, hg1]
          with_reducible rfl
        apply hK
        unfold wpS; simp only [Sl_cons, Sl_nil, T.get_set, T.puts_cons, T.puts_nil, Nat.reduceEqDiff, Nat.reduceAdd, if_true, if_false, and_true, true_and, g0, g3, g4]
    apply W.run 20
    · intro M
      simp (config := { maxSteps := 4000000 }) (disch := first | decide +kernel | omega) only [c54, Try.f54, Option.getD_some, sub_seq1, sub_seq0, sub_nil, exec_region, runOps_cons, opF_fieldAddr, ev_tmp, g4, evG_some, putT_some, opF_load, T.get_set, if_true, opF_eql, Nat.reduceEqDiff, if_false, ev_int, runOps_nil, R.ok_bind, fa35_0, l1, binF_int, z7]
      with_reducible rfl
    show W tb1 _ _ _
    rw [c54_ask_eq]
    refine W.cond (p := true) (by simp only [ev_tmp, T.get_set, if_true, evG_some]) (fun _ => ?_) (fun h => by cases h)
    apply W.seq
    refine first (by unfold wpS; simp only [Sl_cons, Sl_nil, T.get_set, T.puts_cons, T.puts_nil, Nat.reduceEqDiff, Nat.reduceAdd, if_true, if_false, and_true, true_and, g0, g3, g4]) ?_
    rintro t' ⟨q0, q3, q4, -⟩
    show W tb1 _ _ _
    apply W.run 20
    · intro M
      simp (config := { maxSteps := 4000000 }) (disch := first | decide +kernel | omega) only [c54, Try.f54, Option.getD_some, sub_seq1, sub_seq0, sub_cond0, sub_nil, exec_draw, runOps_cons, opF_move, ev_tmp, q0, evG_some, putT_some, T.get_set, Nat.reduceEqDiff, if_false, opF_nilCheck, if_true, opF_fieldAddr, opF_load, q4, opF_ari, ev_int, und3, opF_conv, convPF, und5, opF_buildSlice, evp, R.ok_bind, opF_builtin, evs, opF_store, putT_none, runOps_nil, builtin_append, fa35_4, l3', binF_int, a2, a3, fa35_3, l2', a1, a4, hwv, bs22, at_slc, nil_ptr, fa85_0, f1, f3, f4]
      with_reducible rfl
    refine hK _ b3' _ (hM1.step f5 f6) (hk1.trans f6) ?_
    unfold wpS; simp only [Sl_cons, Sl_nil, T.get_set, T.puts_cons, T.puts_nil, Nat.reduceEqDiff, Nat.reduceAdd, if_true, if_false, and_true, true_and, q0, q3, q4]
  · have e2 : qB d = [] := by unfold qB; rw [if_neg h7]
    have e1 : qOk d = (decide (d.k = 0) && decide (d.n = 0)) := by unfold qOk; rw [if_neg h7]
    have z7 : intOpF .eql .i64 d.kind ((7 : Nat) : Int) = .ok (.bool false) := by rw [op_eqlI, decide_eq_false (by omega)]
    obtain ⟨D1, ⟨g1, hg1⟩, hw1, hk1⟩ := run_mustG (p := qOk d) hM.w
    rw [e2, List.append_nil] at hK
    have fin := fun t' => hK t' b _ (hM.step (hw1.mono (by omega)) hk1) hk1
    apply W.run 20
    · intro M
      simp (config := { maxSteps := 4000000 }) (disch := first | decide +kernel | omega) only [c54, Try.f54, Option.getD_some, sub_seq1, sub_seq0, sub_nil, exec_region, runOps_cons, opF_fieldAddr, ev_tmp, g4, evG_some, putT_some, opF_load, T.get_set, if_true, opF_eql, Nat.reduceEqDiff, if_false, ev_int, runOps_nil, R.ok_bind, fa35_0, l1, binF_int, z7]
      with_reducible rfl
    show W tb1 _ _ _
    rw [c54_ask_eq]
    refine W.cond (p := false) (by simp only [ev_tmp, T.get_set, if_true, evG_some]) (fun h => by cases h) (fun _ => ?_)
    by_cases k0 : d.k = 0
    · have e : qOk d = decide (d.n = 0) := by rw [e1, decide_eq_true k0]; rfl
      have q1 : intOpF .eql .i64 d.k ((0 : Nat) : Int) = .ok (.bool true) := by rw [k0]; rfl
      have q2 : intOpF .eql .i64 d.n ((0 : Nat) : Int) = .ok (.bool (decide (d.n = 0))) := by rw [op_eqlI]; rfl
      rw [e] at hg1
      apply W.runG (g1) 20
      · intro M hM
        simp (config := { maxSteps := 4000000 }) (disch := first | decide +kernel | (rw [wantF_guard]; simp only [wantD_some, dstAt_zero, dstAt_succ, T.get_set, T.get_e, Nat.reduceEqDiff, if_true, if_false, wantV_bool, wantV_unit, unitV, cond_true, cond_false, Bool.not_true, Bool.not_false, List.toList_toArray]) | omega) only [c54, Try.f54, Option.getD_some, sub_seq1, sub_seq0, sub_cond1, sub_nil, exec_region, runOps_cons, opF_move, ev_tmp, T.get_set, Nat.reduceEqDiff, g0, if_false, evG_some, putT_some, opF_fieldAddr, g4, opF_load, if_true, opF_eql, ev_int, R.ok_bind, fa35_3, l2, binF_int, q1, runOps_yes, opF_pick, pickF, ev_bool, opF_call, evs, resK, runOps_nil, fa35_4, l3, q2, hg1]
        with_reducible rfl
      refine fin _ ?_
      unfold wpS; simp only [Sl_cons, Sl_nil, T.get_set, T.puts_cons, T.puts_nil, Nat.reduceEqDiff, Nat.reduceAdd, if_true, if_false, and_true, true_and, g0, g3, g4]
    · have e : qOk d = false := by rw [e1, decide_eq_false k0]; rfl
      have q1 : intOpF .eql .i64 d.k ((0 : Nat) : Int) = .ok (.bool false) := by rw [op_eqlI, decide_eq_false (by omega)]
      rw [e] at hg1
      apply W.runG (g1) 20
      · intro M hM
        simp (config := { maxSteps := 4000000 }) (disch := first | decide +kernel | (rw [wantF_guard]; simp only [wantD_some, dstAt_zero, dstAt_succ, T.get_set, T.get_e, Nat.reduceEqDiff, if_true, if_false, wantV_bool, wantV_unit, unitV, cond_true, cond_false, Bool.not_true, Bool.not_false, List.toList_toArray]) | omega) only [c54, Try.f54, Option.getD_some, sub_seq1, sub_seq0, sub_cond1, sub_nil, exec_region, runOps_cons, opF_move, ev_tmp, T.get_set, Nat.reduceEqDiff, g0, if_false, evG_some, putT_some, opF_fieldAddr, g4, opF_load, if_true, opF_eql, ev_int, R.ok_bind, fa35_3, l2, binF_int, q1, runOps_no, opF_pick, pickF, ev_bool, opF_call, evs, resK, runOps_nil, hg1]
        with_reducible rfl
      refine fin _ ?_
      unfold wpS; simp only [Sl_cons, Sl_nil, T.get_set, T.puts_cons, T.puts_nil, Nat.reduceEqDiff, Nat.reduceAdd, if_true, if_false, and_true, true_and, g0, g3, g4]

/-! ### The openings -/
theorem encO_nat (p : Int × List Nat) : encO (opNat p) = [UInt8.ofNat (p.1 - 1).toNat] ++ [UInt8.ofNat p.2.length] ++ encNs p.2 := by
  unfold encO opNat
  rw [show p.1.toNat - 1 = (p.1 - 1).toNat by omega]; rfl
set_option maxHeartbeats 16000000 in
theorem lay_opens (hB : ActB d) (hM : WA A0 bw b3 b4 d xs xo ok enc n b D) (hn : n ≤ 800000) (hp : Sl t (wpS bw b3 b4)) (h183 : t.get 183 = some xo) (h184 : t.get 184 = some (.int .i64 ((d.opening.length : Nat) : Int))) (h185 : t.get 185 = some (.int .i64 ((0 : Nat) : Int)))
    (hK : ∀ t' b' D', WA A0 bw b3 b4 d xs xo (ok && d.opening.all openOk) (enc ++ encOs (d.opening.map opNat)) (n + 102 * d.opening.length) b' D' → Wk bw b D b' D' → K .nrm ⟨t', 206, [], D', none⟩) :
    W tb1 (.block 1 (.loop c54b1)) ⟨t, 206, [], D, none⟩ K := by
  obtain ⟨g0, g3, g4, -⟩ := hp
  have hol := hB.opening
  apply W.block
  refine W.up d.opening.length (fun i t E => ∃ b2, WA A0 bw b3 b4 d xs xo (ok && (d.opening.take i).all openOk) (enc ++ encOs ((d.opening.take i).map opNat)) (n + 102 * i) b2 E ∧ Wk bw b D b2 E ∧ Sl t [(0, .pointer (some ⟨bw, 0, none⟩)), (183, xo), (184, .int .i64 ((d.opening.length : Nat) : Int)), (185, .int .i64 (i : Int))]) ?_ (Nat.zero_le _) ⟨b, hM.step (hM.w.cast (by simp) (fun _ => by simp [encOs])) (Wk.refl _ _ _), Wk.refl _ _ _, ?_⟩
  · rintro i t E hi ⟨b2, hME, hkE, f0, f183, f184, f185, -⟩
    by_cases hlt : i < d.opening.length
    · obtain ⟨p, xs2, hix, hld, hst2⟩ := hME.op.at hlt
      have hst20 : StR (fun c => c < A0.next) E d.opening[i].2 xs2 := by
        obtain ⟨p', xs2', hix', hld', hst'⟩ := hME.op0.at hlt
        have hh := hst'.low.same hME.e.n (Q := fun c => c < A0.next) (fun c hc hl => ⟨hc, hME.e.g c hl⟩)
        obtain ⟨ls, br, hr, hll, -, hall⟩ := hME.op0
        have hli : i < ls.length := by omega
        obtain ⟨d41, hd1, hd2⟩ := und41
        have y1 := hr.load_all (t := 41) (i := i) hd1 hd2 size41 (List.getElem?_eq_getElem hli)
        have y2 := (hr.same hME.e.n (fun hl => hME.e.g _ hl)).load_all (t := 41) (i := i) hd1 hd2 size41 (List.getElem?_eq_getElem hli)
        have x1 := hr.idx (tb := tb1) (t := 37) (t' := 41) (kd := .i64) (i := i) und37 size41 hli
        have x2 := hix.symm.trans x1
        cases x2
        have x3 := hix'.symm.trans x1
        cases x3
        have z1 := hld.symm.trans y2
        have z2 := hld'.symm.trans y1
        have z3 := z1.trans z2.symm
        cases z3
        exact hh
      have hoa := hB.oarm _ (List.getElem_mem hlt)
      have hol2 := hB.olen _ (List.getElem_mem hlt)
      have hov := hB.ovals _ (List.getElem_mem hlt)
      have hta : (d.opening.take (i + 1)).all openOk = ((d.opening.take i).all openOk && openOk d.opening[i]) := take_all hlt
      have hen := encOsN_take hlt
      rw [encO_nat] at hen
      have hoo : openOk d.opening[i] = ((decide (0 ≤ d.opening[i].1 - 1 ∧ d.opening[i].1 - 1 ≤ ((255 : Nat) : Int)) && decide (0 ≤ ((d.opening[i].2.length : Nat) : Int) ∧ ((d.opening[i].2.length : Nat) : Int) ≤ ((3 : Nat) : Int))) && layOk d.opening[i].2) := by
        unfold openOk
        rw [Bool.and_comm (layOk _)]
        congr 1
        apply Bool.eq_iff_iff.2
        simp only [Bool.and_eq_true, decide_eq_true_eq]
        omega
      generalize d.opening[i] = o at hst2 hst20 hld hoa hol2 hov hta hen hoo
      have hlE := hME.w.lt
      have hE1 : Ext E (E.alloc (rowOb 41 [.int .i64 0, .slice none 0 0])) := Ext.alloc E _
      have hv0 : Vals (E.alloc (rowOb 41 [.int .i64 0, .slice none 0 0])) 41 E.next (.var 2) [.int .i64 0, .slice none 0 0] := Go.Am.vals_new E 41 _
      have hn5 : (E.alloc (rowOb 41 [.int .i64 0, .slice none 0 0])).next = E.next + 1 := next_alloc _ _
      obtain ⟨F, hstF, hvF, hnF, hfF⟩ := store_all (tb := tb1) (t := 41) (l' := [.int .i64 o.1, xs2]) (by rw [size41]; rfl) hv0 rfl (by simp) (fun v hv => by
        simp only [List.mem_cons, List.not_mem_nil, or_false] at hv
        rcases hv with rfl | rfl
        · rfl
        · exact hst2.cells.2)
      have hEF : Ext E F := hE1.put (b := E.next) (Nat.le_refl _) hnF hfF
      have hkF : Wk bw b2 E b2 F := Wk.ext hEF
      have hMF := hME.step (hME.w.ext hEF) hkF
      have hnb7 : Nb bw b2 E.next := ⟨by omega, by omega⟩
      have hl7 : E.next < F.next := by omega
      have hst2F : StR (Nb bw b2) F o.2 xs2 := hst20.same hEF.n (fun c hc hl => ⟨⟨by have := hME.hw; omega, by have := hME.hb; omega⟩, hEF.g c hl⟩)
      have la : loadF tb1 F.get 3 (.pointer (some ⟨E.next, 0, none⟩)) = .ok (.int .i64 o.1) := load_vals und3 rfl hvF rfl
      have hsub : intOpF .sub .i64 o.1 ((1 : Nat) : Int) = .ok (.int .i64 (o.1 - 1)) := op_subI (by omega) (by omega)
      obtain ⟨e1, F1, ⟨g1, hg1⟩, hw1, hk1⟩ := run_putG (most := 255) (m := o.1 - 1) (c := UInt8.ofNat (o.1 - 1).toNat) hMF.w (by omega) (by omega) (fun _ _ => rfl)
      obtain ⟨n71, h71⟩ := hk1.keep _ hnb7 hl7
      have hst21 : StR (Nb bw e1) F1 o.2 xs2 := hst2F.same hk1.n hk1.keep
      have lb : loadF tb1 F1.get 36 (.pointer (some ⟨E.next, 1, none⟩)) = .ok xs2 := load_vals und36 rfl (hvF.same h71) rfl
      have hlen := hst21.len
      obtain ⟨e2, F2, ⟨g2, hg2⟩, hw2, hk2⟩ := run_putG (most := 3) (m := ((o.2.length : Nat) : Int)) (c := UInt8.ofNat o.2.length) hw1 (by omega) (by omega) (fun _ _ => by rw [Int.toNat_natCast])
      obtain ⟨n72, h72⟩ := hk2.keep _ n71 (Nat.lt_of_lt_of_le hl7 hk1.n)
      have hst22 : StR (Nb bw e2) F2 o.2 xs2 := hst21.same hk2.n hk2.keep
      have lc : loadF tb1 F2.get 36 (.pointer (some ⟨E.next, 1, none⟩)) = .ok xs2 := load_vals und36 rfl ((hvF.same h71).same h72) rfl
      obtain ⟨e3, F3, ⟨g3', hg3⟩, hw3, hk3⟩ := run_numsG hw2 (by omega) hst22 hov
      rw [c54b1_eq]
      apply W.seq
      apply W.run 20
      · intro M
        simp (config := { maxSteps := 4000000 }) (disch := first | decide +kernel | omega) only [c54b1, c54, Try.f54, Option.getD_some, sub_seq1, sub_block, sub_loop, sub_nil, sub_seq0, exec_region, runOps_cons, opF_ari, ev_tmp, f185, evG_some, f184, putT_some, runOps_nil, R.ok_bind, binF_int, op_lssI, cast_lt, hlt, decide_true]
        with_reducible rfl
      apply W.seq
      apply W.run 20
      · intro M
        simp (config := { maxSteps := 4000000 }) (disch := first | decide +kernel | omega) only [c54b1, c54, Try.f54, Option.getD_some, sub_seq1, sub_block, sub_loop, sub_nil, sub_seq0, exec_cond, ev_tmp, T.get_set, if_true, evG_some, exec_skip, exec_exit, R.ok_bind]
        with_reducible rfl
      apply W.seq
      apply W.block
      apply W.seq
      apply W.run 20
      · intro M
        simp (config := { maxSteps := 4000000 }) (disch := first | decide +kernel | omega) only [c54b1, c54, Try.f54, Option.getD_some, sub_seq1, sub_block, sub_loop, sub_nil, sub_seq0, exec_region, runOps_cons, opF_indexAddr, ev_tmp, T.get_set, Nat.reduceEqDiff, f183, if_false, evG_some, f185, putT_some, opF_load, if_true, opF_alloc, zero41, at_ptr, opF_store, putT_none, runOps_nil, R.ok_bind, cells_agg, hix, hld, hstF]
        with_reducible rfl
      apply W.seq
      apply W.runG (g1) 20
      · intro M hM
        simp (config := { maxSteps := 4000000 }) (disch := first | decide +kernel | omega) only [c54b1, c54, Try.f54, Option.getD_some, sub_seq1, sub_block, sub_loop, sub_nil, sub_seq0, exec_region, runOps_cons, opF_move, ev_tmp, T.get_set, Nat.reduceEqDiff, f0, if_false, evG_some, putT_some, opF_fieldAddr, if_true, opF_load, opF_ari, ev_int, opF_buildSlice, evp, R.ok_bind, opF_call, evs, resK, runOps_nil, fa41_0', la, binF_int, hsub, bs127, at_slc, hg1]
        with_reducible rfl
      apply W.seq
      apply W.runG (g2) 20
      · intro M hM
        simp (config := { maxSteps := 4000000 }) (disch := first | decide +kernel | omega) only [c54b1, c54, Try.f54, Option.getD_some, sub_seq1, sub_block, sub_loop, sub_nil, sub_seq0, exec_region, runOps_cons, opF_move, ev_tmp, T.get_set, Nat.reduceEqDiff, f0, if_false, evG_some, putT_some, opF_fieldAddr, if_true, opF_load, opF_len, evs, R.ok_bind, opF_buildSlice, evp, opF_call, ev_int, resK, runOps_nil, fa41_1', Nat.zero_add, lb, hlen, bs127, at_slc, hg2]
        with_reducible rfl
      apply W.runG (g3') 20
      · intro M hM
        simp (config := { maxSteps := 4000000 }) (disch := first | decide +kernel | omega) only [c54b1, c54, Try.f54, Option.getD_some, sub_seq1, sub_block, sub_loop, sub_nil, sub_seq0, exec_region, runOps_cons, opF_move, ev_tmp, T.get_set, Nat.reduceEqDiff, f0, if_false, evG_some, putT_some, opF_fieldAddr, if_true, opF_load, opF_call, evs, R.ok_bind, resK, runOps_nil, fa41_1', Nat.zero_add, lc, hg3]
        with_reducible rfl
      show W tb1 _ _ _
      have hkk := ((hkF.trans hk1).trans hk2).trans hk3
      apply W.run 20
      · intro M
        simp (config := { maxSteps := 4000000 }) (disch := first | decide +kernel | omega) only [c54b1, c54, Try.f54, Option.getD_some, sub_seq1, sub_block, sub_loop, sub_nil, exec_region, runOps_cons, opF_ari, ev_tmp, T.get_set, Nat.reduceEqDiff, f185, if_false, evG_some, ev_int, putT_some, opF_move, if_true, runOps_nil, R.ok_bind, binF_int, op_add_i64]
        with_reducible rfl
      refine ⟨hlt, _, _, rfl, e3, ?_, hkE.trans hkk, ?_⟩
      · refine hME.step ((hw3.mono (by omega)).cast ?_ (fun _ => ?_)) hkk
        · rw [hta, hoo]
          simp only [Bool.and_assoc]
        · rw [hen]
          simp only [List.append_assoc]
      · simp only [Sl_cons, Sl_nil, T.get_set, T.puts_cons, T.puts_nil, Nat.reduceEqDiff, Nat.reduceAdd, if_true, if_false, and_true, true_and, f0, f183, f184]
    · have hin : i = d.opening.length := by omega
      subst hin
      rw [List.take_length] at hME
      apply W.run 20
      · intro M
        simp (config := { maxSteps := 4000000 }) (disch := first | decide +kernel | omega) only [c54b1, c54, Try.f54, Option.getD_some, sub_seq1, sub_block, sub_loop, sub_nil, exec_seq, exec_region, runOps_cons, opF_ari, ev_tmp, f185, evG_some, f184, putT_some, runOps_nil, R.ok_bind, binF_int, op_lssI, cast_lt, Nat.lt_irrefl, decide_false, exec_cond, exec_skip, exec_exit, exec_block, opF_indexAddr, opF_move, ev_int, T.get_set, if_true]
        with_reducible rfl
      exact hK _ b2 _ hME hkE
  · simp only [Sl_cons, Sl_nil, T.get_set, T.puts_cons, T.puts_nil, Nat.reduceEqDiff, Nat.reduceAdd, if_true, if_false, and_true, true_and, g0, h183, h184, h185]
end
end Go.Proofs.Ytmhldlnlgjpkaaa.scr

/-
  Script: an act is written, whatever it is: the whole.
-/
namespace Go.Proofs.Ytmhldlnlgjpkaaa.scr
open Go.Am
set_option linter.unusedSimpArgs false
set_option linter.unusedVariables false
set_option linter.unusedVariables false
set_option maxRecDepth 20000

def armedI (d : ActG) : Bool := d.cut || decide (d.arm ≠ 0)
def tOk (d : ActG) : Bool := if armedI d = true then ((decide (d.stays.length < 6) && decide (d.opening.length < 4)) && (layOk d.stays && d.opening.all openOk)) else (decide (d.stays.length = 0) && decide (d.opening.length = 0))
section
variable {A0 : Mem} {bw b3 b4 b b' n n' : Nat} {d : ActG} {xs xo : Value} {ok ok' : Bool} {enc enc' : List UInt8} {D D' C : Mem} {t : T Value} {K : Ex → St → Prop}
set_option maxHeartbeats 16000000 in
theorem lay_tail (hB : ActB d) (hM : WA A0 bw b3 b4 d xs xo ok enc n b D) (hn : n ≤ 780000) (hp : Sl t (wpS bw b3 b4))
    (hK : ∀ e t' b' D', (e = .nrm ∨ e = .ret) → WR bw (ok && tOk d) (enc ++ encS (armedI d) (d.stays, d.opening.map opNat)) (n + 2500) b' D' → Wk bw b D b' D' → K e ⟨t', 206, [], D', none⟩) :
    W tb1 (.seq (.seq (sub c54 [1,1,1,1,1,1,1,1,1,1,0,0]) (sub c54 [1,1,1,1,1,1,1,1,1,1,0,1])) (.seq (sub c54 [1,1,1,1,1,1,1,1,1,1,1,0]) (.seq (sub c54 [1,1,1,1,1,1,1,1,1,1,1,1,0]) (.seq (sub c54 [1,1,1,1,1,1,1,1,1,1,1,1,1,0]) (.seq (sub c54 [1,1,1,1,1,1,1,1,1,1,1,1,1,1,0]) (.block 1 (.loop c54b1))))))) ⟨t, 206, [], D, none⟩ K := by
  have hp' := hp
  obtain ⟨g0, g3, g4, -⟩ := hp'
  have l1 := hM.lcut
  have l2 := hM.larm
  have l3 := hM.lst
  have l4 := hM.lop
  have n3 := hM.st.len
  have n4 := hM.op.len
  have s5 := hB.stays
  have s3 := hB.opening
  apply W.seq
  apply W.seq
  by_cases hc : d.cut = false ∧ d.arm = 0
  · obtain ⟨h1, h2⟩ := hc
    have hcc : armedI d = false := by unfold armedI; rw [h1, decide_eq_false (fun h => h h2)]; rfl
    have he : encS (armedI d) (d.stays, d.opening.map opNat) = [] := by rw [hcc]; rfl
    have ht : tOk d = (decide (d.stays.length = 0) && decide (d.opening.length = 0)) := by unfold tOk; rw [hcc]; rfl
    rw [he, List.append_nil] at hK
    rw [h1] at l1
    rw [h2] at l2
    have z0 : intOpF .eql .i64 0 ((0 : Nat) : Int) = .ok (.bool true) := by rfl
    obtain ⟨D1, ⟨g1, hg1⟩, hw1, hk1⟩ := run_mustG (p := tOk d) hM.w
    have fin := fun e t' he => hK e t' b _ he (hw1.mono (by omega)) hk1
    apply W.run 20
    · intro M
      simp (config := { maxSteps := 4000000 }) (disch := first | decide +kernel | (rw [wantF_guard]; simp only [wantD_some, dstAt_zero, dstAt_succ, T.get_set, T.get_e, Nat.reduceEqDiff, if_true, if_false, wantV_bool, wantV_unit, unitV, cond_true, cond_false, Bool.not_true, Bool.not_false, List.toList_toArray]) | omega) only [c54, Try.f54, Option.getD_some, sub_seq1, sub_seq0, sub_nil, exec_region, runOps_cons, opF_fieldAddr, ev_tmp, g3, evG_some, putT_some, opF_load, T.get_set, if_true, opF_un, Nat.reduceEqDiff, if_false, opF_move, R.ok_bind, fa39_2, l1, un_not, Bool.not_false, runOps_yes, opF_eql, ev_int, opF_pick, pickF, ev_bool, runOps_nil, fa39_1, l2, binF_int, z0]
      with_reducible rfl
    show W tb1 _ _ _
    by_cases z1 : d.stays.length = 0
    · have e : tOk d = decide (d.opening.length = 0) := by rw [ht, decide_eq_true z1]; rfl
      rw [e] at hg1
      rw [z1] at n3
      apply W.runG (g1) 20
      · intro M hM
        simp (config := { maxSteps := 4000000 }) (disch := first | decide +kernel | (rw [wantF_guard]; simp only [wantD_some, dstAt_zero, dstAt_succ, T.get_set, T.get_e, Nat.reduceEqDiff, if_true, if_false, wantV_bool, wantV_unit, unitV, cond_true, cond_false, Bool.not_true, Bool.not_false, List.toList_toArray]) | omega) only [c54, Try.f54, Option.getD_some, sub_seq1, sub_seq0, sub_nil, exec_cond, ev_tmp, T.get_set, Nat.reduceEqDiff, if_false, if_true, evG_some, exec_seq, exec_region, runOps_cons, opF_move, g0, putT_some, opF_fieldAddr, g3, opF_load, opF_len, evs, R.ok_bind, opF_eql, ev_int, fa39_3, l3, n3, binF_int, op_eql, decide_true, runOps_yes, opF_pick, pickF, ev_bool, opF_call, resK, runOps_nil, fa39_4, l4, n4, hg1, exec_ret, exec_skip]
        with_reducible rfl
      exact fin _ _ (.inr rfl)
    · have e : tOk d = false := by rw [ht, decide_eq_false z1]; rfl
      rw [e] at hg1
      apply W.runG (g1) 20
      · intro M hM
        simp (config := { maxSteps := 4000000 }) (disch := first | decide +kernel | (rw [wantF_guard]; simp only [wantD_some, dstAt_zero, dstAt_succ, T.get_set, T.get_e, Nat.reduceEqDiff, if_true, if_false, wantV_bool, wantV_unit, unitV, cond_true, cond_false, Bool.not_true, Bool.not_false, List.toList_toArray]) | omega) only [c54, Try.f54, Option.getD_some, sub_seq1, sub_seq0, sub_nil, exec_cond, ev_tmp, T.get_set, Nat.reduceEqDiff, if_false, if_true, evG_some, exec_seq, exec_region, runOps_cons, opF_move, g0, putT_some, opF_fieldAddr, g3, opF_load, opF_len, evs, R.ok_bind, opF_eql, ev_int, fa39_3, l3, n3, binF_int, op_eql, z1, decide_false, runOps_no, opF_pick, pickF, ev_bool, opF_call, resK, runOps_nil, hg1, exec_ret, exec_skip]
        with_reducible rfl
      exact fin _ _ (.inr rfl)
  · have hcc : armedI d = true := by
      unfold armedI
      cases h1 : d.cut with
      | true => rfl
      | false => rw [decide_eq_true (show d.arm ≠ 0 from fun h => hc ⟨h1, h⟩)]; rfl
    have he : encS (armedI d) (d.stays, d.opening.map opNat) = [UInt8.ofNat (d.stays.length + 6 * d.opening.length)] ++ encNs d.stays ++ encOs (d.opening.map opNat) := by
      rw [hcc]; unfold encS; rw [if_pos rfl, List.length_map]; simp
    have ht : tOk d = ((decide (d.stays.length < 6) && decide (d.opening.length < 4)) && (layOk d.stays && d.opening.all openOk)) := by unfold tOk; rw [hcc]; rfl
    rw [he, ht] at hK
    have first : ∀ {K : Ex → St → Prop}, (∀ t', Sl t' (wpS bw b3 b4) → K .nrm ⟨t', 206, [], D, none⟩) → W tb1 (sub c54 [1,1,1,1,1,1,1,1,1,1,0,0]) ⟨t, 206, [], D, none⟩ (Then tb1 (sub c54 [1,1,1,1,1,1,1,1,1,1,0,1]) K) := by
      intro K hK
      cases h1 : d.cut with
      | true =>
        rw [h1] at l1
        apply W.run 20
        · intro M
          simp (config := { maxSteps := 4000000 }) (disch := first | decide +kernel | (rw [wantF_guard]; simp only [wantD_some, dstAt_zero, dstAt_succ, T.get_set, T.get_e, Nat.reduceEqDiff, if_true, if_false, wantV_bool, wantV_unit, unitV, cond_true, cond_false, Bool.not_true, Bool.not_false, List.toList_toArray]) | omega) only [c54, Try.f54, Option.getD_some, sub_seq1, sub_seq0, sub_nil, exec_region, runOps_cons, opF_fieldAddr, ev_tmp, g3, evG_some, putT_some, opF_load, T.get_set, if_true, opF_un, Nat.reduceEqDiff, if_false, opF_move, R.ok_bind, fa39_2, l1, un_not, Bool.not_true, runOps_no, opF_pick, pickF, ev_bool, runOps_nil]
          with_reducible rfl
        show W tb1 _ _ _
        apply W.run 20
        · intro M
          simp (config := { maxSteps := 4000000 }) (disch := first | decide +kernel | omega) only [c54, Try.f54, Option.getD_some, sub_seq1, sub_seq0, sub_nil, exec_cond, ev_tmp, T.get_set, Nat.reduceEqDiff, if_false, if_true, evG_some, exec_seq, exec_region, runOps_cons, opF_move, putT_some, opF_fieldAddr, opF_load, opF_len, evs, R.ok_bind, opF_eql, ev_int, exec_ret, exec_skip]
          with_reducible rfl
        apply hK
        unfold wpS; simp only [Sl_cons, Sl_nil, T.get_set, T.puts_cons, T.puts_nil, Nat.reduceEqDiff, Nat.reduceAdd, if_true, if_false, and_true, true_and, g0, g3, g4]
      | false =>
        have h2 : d.arm ≠ 0 := fun h => hc ⟨h1, h⟩
        rw [h1] at l1
        have z0 : intOpF .eql .i64 d.arm ((0 : Nat) : Int) = .ok (.bool false) := by rw [op_eqlI, decide_eq_false (by omega)]
        apply W.run 20
        · intro M
          simp (config := { maxSteps := 4000000 }) (disch := first | decide +kernel | (rw [wantF_guard]; simp only [wantD_some, dstAt_zero, dstAt_succ, T.get_set, T.get_e, Nat.reduceEqDiff, if_true, if_false, wantV_bool, wantV_unit, unitV, cond_true, cond_false, Bool.not_true, Bool.not_false, List.toList_toArray]) | omega) only [c54, Try.f54, Option.getD_some, sub_seq1, sub_seq0, sub_nil, exec_region, runOps_cons, opF_fieldAddr, ev_tmp, g3, evG_some, putT_some, opF_load, T.get_set, if_true, opF_un, Nat.reduceEqDiff, if_false, opF_move, R.ok_bind, fa39_2, l1, un_not, Bool.not_false, runOps_yes, opF_eql, ev_int, opF_pick, pickF, ev_bool, runOps_nil, fa39_1, l2, binF_int, z0]
          with_reducible rfl
        show W tb1 _ _ _
        apply W.run 20
        · intro M
          simp (config := { maxSteps := 4000000 }) (disch := first | decide +kernel | omega) only [c54, Try.f54, Option.getD_some, sub_seq1, sub_seq0, sub_nil, exec_cond, ev_tmp, T.get_set, Nat.reduceEqDiff, if_false, if_true, evG_some, exec_seq, exec_region, runOps_cons, opF_move, putT_some, opF_fieldAddr, opF_load, opF_len, evs, R.ok_bind, opF_eql, ev_int, exec_ret, exec_skip]
          with_reducible rfl
        apply hK
        unfold wpS; simp only [Sl_cons, Sl_nil, T.get_set, T.puts_cons, T.puts_nil, Nat.reduceEqDiff, Nat.reduceAdd, if_true, if_false, and_true, true_and, g0, g3, g4]
    refine first ?_
    rintro t1 ⟨f0, f3, f4, -⟩
    show W tb1 _ _ _
    obtain ⟨D1, ⟨g1, hg1⟩, hw1, hk1⟩ := run_mustG (p := decide (d.stays.length < 6) && decide (d.opening.length < 4)) hM.w
    have hM1 := hM.step hw1 hk1
    have m3 := hM1.lst
    have m4 := hM1.lop
    have k3 := hM1.st.len
    have k4 := hM1.op.len
    have hvb : d.stays.length + 6 * d.opening.length < 256 := by omega
    have hmod : (d.stays.length + 6 * d.opening.length) % 256 = d.stays.length + 6 * d.opening.length := Nat.mod_eq_of_lt hvb
    obtain ⟨y, y', D2, D3, b3', f1, f3', f4', f5, f6⟩ := hw1.app (by omega) hvb (c := UInt8.ofNat (d.stays.length + 6 * d.opening.length)) (fun _ => rfl)
    have b6 : 6 * d.opening.length < 9223372036854775808 := by omega
    have b7 : d.stays.length + 6 * d.opening.length < 9223372036854775808 := by omega
    have hM3 := hM1.step f5 f6
    have o3 := hM3.lst
    obtain ⟨b5, D4, ⟨g4', hg4⟩, hw4, hk4⟩ := run_numsG hM3.w (by omega) hM3.st hB.svals
    have hM4 := hM3.step hw4 hk4
    have p4 := hM4.lop
    have p5 := hM4.op.len
    have second : ∀ {K : Ex → St → Prop}, (∀ t', Sl t' (wpS bw b3 b4) → K .nrm ⟨t', 206, [], D1, none⟩) → W tb1 (sub c54 [1,1,1,1,1,1,1,1,1,1,1,0]) ⟨t1, 206, [], D, none⟩ K := by
      intro K hK
      by_cases c6 : d.stays.length < 6
      · rw [decide_eq_true c6, Bool.true_and] at hg1
        apply W.runG (g1) 20
        · intro M hM
          simp (config := { maxSteps := 4000000 }) (disch := first | decide +kernel | (rw [wantF_guard]; simp only [wantD_some, dstAt_zero, dstAt_succ, T.get_set, T.get_e, Nat.reduceEqDiff, if_true, if_false, wantV_bool, wantV_unit, unitV, cond_true, cond_false, Bool.not_true, Bool.not_false, List.toList_toArray]) | omega) only [c54, Try.f54, Option.getD_some, sub_seq1, sub_seq0, sub_nil, exec_region, runOps_cons, opF_move, ev_tmp, f0, evG_some, putT_some, opF_fieldAddr, T.get_set, Nat.reduceEqDiff, f3, if_false, opF_load, if_true, opF_len, evs, R.ok_bind, opF_ari, ev_int, fa39_3, l3, n3, binF_int, op_lssI, cast_lt, c6, decide_true, runOps_yes, opF_pick, pickF, ev_bool, opF_call, resK, runOps_nil, fa39_4, l4, n4, hg1]
          with_reducible rfl
        apply hK
        unfold wpS; simp only [Sl_cons, Sl_nil, T.get_set, T.puts_cons, T.puts_nil, Nat.reduceEqDiff, Nat.reduceAdd, if_true, if_false, and_true, true_and, f0, f3, f4]
      · rw [decide_eq_false c6, Bool.false_and] at hg1
        apply W.runG (g1) 20
        · intro M hM
          simp (config := { maxSteps := 4000000 }) (disch := first | decide +kernel | (rw [wantF_guard]; simp only [wantD_some, dstAt_zero, dstAt_succ, T.get_set, T.get_e, Nat.reduceEqDiff, if_true, if_false, wantV_bool, wantV_unit, unitV, cond_true, cond_false, Bool.not_true, Bool.not_false, List.toList_toArray]) | omega) only [c54, Try.f54, Option.getD_some, sub_seq1, sub_seq0, sub_nil, exec_region, runOps_cons, opF_move, ev_tmp, f0, evG_some, putT_some, opF_fieldAddr, T.get_set, Nat.reduceEqDiff, f3, if_false, opF_load, if_true, opF_len, evs, R.ok_bind, opF_ari, ev_int, fa39_3, l3, n3, binF_int, op_lssI, cast_lt, c6, decide_false, runOps_no, opF_pick, pickF, ev_bool, opF_call, resK, runOps_nil, hg1]
          with_reducible rfl
        apply hK
        unfold wpS; simp only [Sl_cons, Sl_nil, T.get_set, T.puts_cons, T.puts_nil, Nat.reduceEqDiff, Nat.reduceAdd, if_true, if_false, and_true, true_and, f0, f3, f4]
    apply W.seq
    refine second ?_
    rintro t2 ⟨f0, f3, f4, -⟩
    show W tb1 _ _ _
    apply W.seq
    apply W.run 20
    · intro M
      simp (config := { maxSteps := 4000000 }) (disch := first | decide +kernel | omega) only [c54, Try.f54, Option.getD_some, sub_seq1, sub_seq0, sub_nil, exec_draw, runOps_cons, opF_move, ev_tmp, f0, evG_some, putT_some, T.get_set, Nat.reduceEqDiff, if_false, opF_nilCheck, if_true, opF_fieldAddr, opF_load, f3, opF_len, evs, R.ok_bind, opF_ari, ev_int, und3, opF_conv, convPF, und5, opF_buildSlice, evp, opF_builtin, opF_store, putT_none, runOps_nil, builtin_append, fa39_4, m4, k4, binF_int, op_mul_i64, fa39_3, m3, k3, op_add_i64, wrapF_u8, hmod, bs22, at_slc, nil_ptr, fa85_0, f1, f3', f4']
      with_reducible rfl
    apply W.seq
    apply W.runG (g4') 20
    · intro M hM
      simp (config := { maxSteps := 4000000 }) (disch := first | decide +kernel | omega) only [c54, Try.f54, Option.getD_some, sub_seq1, sub_seq0, sub_nil, exec_region, runOps_cons, opF_move, ev_tmp, T.get_set, Nat.reduceEqDiff, f0, if_false, evG_some, putT_some, opF_fieldAddr, f3, opF_load, if_true, opF_call, evs, R.ok_bind, resK, runOps_nil, fa39_3, o3, hg4]
      with_reducible rfl
    apply W.seq
    apply W.run 20
    · intro M
      simp (config := { maxSteps := 4000000 }) (disch := first | decide +kernel | omega) only [c54, Try.f54, Option.getD_some, sub_seq1, sub_seq0, sub_nil, exec_region, runOps_cons, opF_fieldAddr, ev_tmp, T.get_set, Nat.reduceEqDiff, f3, if_false, evG_some, putT_some, opF_load, if_true, opF_len, evs, R.ok_bind, opF_move, ev_int, runOps_nil, fa39_4, p4, p5]
      with_reducible rfl
    refine lay_opens hB hM4 (by omega) ?_ ?_ ?_ ?_ ?_
    · unfold wpS; simp only [Sl_cons, Sl_nil, T.get_set, T.puts_cons, T.puts_nil, Nat.reduceEqDiff, Nat.reduceAdd, if_true, if_false, and_true, true_and, f0, f3, f4]
    · simp only [T.get_set, Nat.reduceEqDiff, if_true, if_false]
    · simp only [T.get_set, Nat.reduceEqDiff, if_true, if_false]
    · simp only [T.get_set, Nat.reduceEqDiff, if_true, if_false]
    · intro t' b9 D9 hM9 hk9
      refine hK _ _ b9 _ (.inl rfl) ((hM9.w.mono (by omega)).cast ?_ (fun _ => ?_)) (((hk1.trans f6).trans hk4).trans hk9)
      · simp only [Bool.and_assoc]
      · simp only [List.append_assoc]
/-! ### What can be laid -/
open Classical in
theorem put_bool (d : ActG) : (kB d && (rOk d && (spellOk d.word && (wOk d && (qOk d && tOk d))))) = putOk d ∧ (putOk d = true → armedI d = (d.cut || decide (0 < d.arm.toNat))) := by
  have key : 0 ≤ d.kind ∧ d.kind < 10 → (weighsI d.kind = weighs d.kind.toNat ∧ (d.kind = 7 ↔ d.kind.toNat = 7)) := fun h => by
    refine ⟨?_, by omega⟩
    unfold weighsI weighs
    rw [decide_eq_decide]; omega
  have karm : (d.arm = 0 ∨ (0 ≤ d.arm - 1 ∧ d.arm - 1 ≤ 255)) → armedI d = (d.cut || decide (0 < d.arm.toNat)) := fun h => by
    unfold armedI; congr 1; rw [decide_eq_decide]; omega
  have hr : rOk d = true ↔ (d.arm = 0 ∨ (0 ≤ d.arm - 1 ∧ d.arm - 1 ≤ 255)) := by unfold rOk; simp only [Bool.or_eq_true, decide_eq_true_eq]
  have hk : kB d = true ↔ (0 ≤ d.kind ∧ d.kind < 10) := by unfold kB; simp only [Bool.and_eq_true, decide_eq_true_eq]
  have hw : 0 ≤ d.kind ∧ d.kind < 10 → (wOk d = true ↔ weightOk d.kind.toNat d.weight) := fun h => by
    obtain ⟨h1, -⟩ := key h
    unfold wOk weightOk
    rw [h1]
    split
    · split
      · rename_i e; simp [e]
      · rename_i e; simp only [decide_eq_true_eq]; omega
    · simp only [decide_eq_true_eq]
  have hq : 0 ≤ d.kind ∧ d.kind < 10 → (qOk d = true ↔ askOk d.kind.toNat d.k d.n) := fun h => by
    obtain ⟨-, h1⟩ := key h
    unfold qOk askOk
    by_cases h7 : d.kind = 7
    · rw [if_pos h7, if_pos (h1.1 h7)]
      simp only [Bool.and_eq_true, decide_eq_true_eq]; omega
    · rw [if_neg h7, if_neg (fun e => h7 (h1.2 e))]
      simp only [Bool.and_eq_true, decide_eq_true_eq]
  have htl : (d.arm = 0 ∨ (0 ≤ d.arm - 1 ∧ d.arm - 1 ≤ 255)) → (tOk d = true ↔ (tailOk (d.cut || decide (0 < d.arm.toNat)) d = true ∧ d.stays.length ≤ 5 ∧ d.opening.length ≤ 3)) := fun h => by
    have e := karm h
    unfold tOk tailOk
    rw [e]
    split
    · simp only [Bool.and_eq_true, decide_eq_true_eq]
      constructor
      · rintro ⟨⟨a, b⟩, c⟩; exact ⟨c, by omega, by omega⟩
      · rintro ⟨c, a, b⟩; exact ⟨⟨by omega, by omega⟩, c⟩
    · simp only [Bool.and_eq_true, decide_eq_true_eq]
      omega
  constructor
  · apply Bool.eq_iff_iff.2
    unfold putOk
    simp only [Bool.and_eq_true, decide_eq_true_eq, hk, hr]
    unfold headOk
    constructor
    · rintro ⟨h1, h2, h3, h4, h5, h6⟩
      obtain ⟨t1, t2, t3⟩ := (htl h2).1 h6
      exact ⟨⟨by omega, by omega, t2, t3⟩, h3, (hw h1).1 h4, (hq h1).1 h5, t1⟩
    · rintro ⟨⟨h1, h2, t2, t3⟩, h3, h4, h5, t1⟩
      have h1' : 0 ≤ d.kind ∧ d.kind < 10 := by omega
      have h2' : d.arm = 0 ∨ (0 ≤ d.arm - 1 ∧ d.arm - 1 ≤ 255) := by omega
      exact ⟨h1', h2', h3, (hw h1').2 h4, (hq h1').2 h5, (htl h2').2 ⟨t1, t2, t3⟩⟩
  · intro h
    unfold putOk at h
    simp only [Bool.and_eq_true, decide_eq_true_eq] at h
    have h2 := h.1
    unfold headOk at h2
    exact karm (by omega)
theorem put_enc {d : ActG} (h : putOk d = true) : [UInt8.ofNat (d.kind + (if d.cut = true then 10 else 0) + (if d.arm = 0 then 0 else 20)).toNat] ++ (if d.arm = 0 then [] else [UInt8.ofNat (d.arm - 1).toNat]) ++ encW d.word ++ wB d ++ qB d ++ encS (armedI d) (d.stays, d.opening.map opNat) = encG d := by
  obtain ⟨h1, h2⟩ := put_bool d
  have h3 := h
  rw [← h1] at h3
  simp only [Bool.and_eq_true] at h3
  have hk : 0 ≤ d.kind ∧ d.kind < 10 := by have := h3.1; unfold kB at this; simpa only [Bool.and_eq_true, decide_eq_true_eq] using this
  have ha : d.arm = 0 ∨ (0 ≤ d.arm - 1 ∧ d.arm - 1 ≤ 255) := by have := h3.2.1; unfold rOk at this; simpa only [Bool.or_eq_true, decide_eq_true_eq] using this
  unfold encG
  rw [← h2 h]
  have e1 : (d.kind + (if d.cut = true then 10 else 0) + (if d.arm = 0 then 0 else 20)).toNat = kindB d.kind.toNat d.arm.toNat d.cut := by
    unfold kindB
    by_cases h0 : d.arm = 0
    · have hat : d.arm.toNat = 0 := by omega
      rw [if_pos h0, if_pos hat]
      cases d.cut <;> simp only [if_true, if_false, Bool.false_eq_true] <;> omega
    · have hat : ¬ d.arm.toNat = 0 := by omega
      rw [if_neg h0, if_neg hat]
      cases d.cut <;> simp only [if_true, if_false, Bool.false_eq_true] <;> omega
  have e2 : (if d.arm = 0 then [] else [UInt8.ofNat (d.arm - 1).toNat]) = encR d.arm.toNat := by
    unfold encR
    by_cases h0 : d.arm = 0
    · rw [if_pos h0, if_pos (by omega)]
    · rw [if_neg h0, if_neg (by omega), show (d.arm - 1).toNat = d.arm.toNat - 1 by omega]
  have e3 : weighsI d.kind = weighs d.kind.toNat := by unfold weighsI weighs; rw [decide_eq_decide]; omega
  have e4 : wB d = weightB d.kind.toNat d.weight := by unfold wB weightB; rw [e3]
  have e5 : qB d = askB d.kind.toNat d.k d.n := by
    unfold qB askB
    by_cases h7 : d.kind = 7
    · rw [if_pos h7, if_pos (by omega)]
    · rw [if_neg h7, if_neg (by omega)]
  rw [e1, e2, e4, e5]
set_option maxHeartbeats 16000000 in
theorem run_wactG {l : List Value} (h : WR bw ok enc n b C) (he : Ext A0 C) (hbw : A0.next ≤ bw) (hb : A0.next ≤ b) (hn : n ≤ 700000) (hA : ActGR A0 d l) (hB : ActB d) :
    ∃ b' C', Ans tb1 54 [.pointer (some ⟨bw, 0, none⟩), .agg ⟨l⟩] C (.tuple ⟨[]⟩) C' ∧ WR bw (ok && putOk d) (enc ++ encG d) (n + 4000) b' C' ∧ Wk bw b C b' C' := by
  obtain ⟨v, A', ha, b', rfl, hw, hk⟩ : ∃ v A', Ans tb1 54 [.pointer (some ⟨bw, 0, none⟩), .agg ⟨l⟩] C v A' ∧ ∃ b', v = .tuple ⟨[]⟩ ∧ WR bw (ok && putOk d) (enc ++ encG d) (n + 4000) b' A' ∧ Wk bw b C b' A' := by
    refine ans_of_W (fn_at Try.func54) c54_eq (by rw [Try.ntmps54]; simp) (by kernel_rfl) (by kernel_rfl) ?_
    obtain ⟨xs, xo, rfl, k2, k3, k4⟩ := hA
    have hlt := h.lt
    have hE1 := Ext.alloc C (rowOb 39 (cellsG d xs xo))
    have hv1 : Vals (C.alloc (rowOb 39 (cellsG d xs xo))) 39 C.next (.var 9) (cellsG d xs xo) := Go.Am.vals_new C 39 _
    have hn1 := next_alloc C (rowOb 39 (cellsG d xs xo))
    apply W.seq
    apply W.run 20
    · intro M
      simp (config := { maxSteps := 4000000 }) (disch := first | decide +kernel | omega) only [c54, Try.f54, Option.getD_some, sub_seq0, sub_nil, T.puts_cons, Nat.reduceAdd, T.puts_nil, exec_region, runOps_cons, opF_box, ev_tmp, T.get_set, Nat.reduceEqDiff, T.get_e, if_false, if_true, evG_some, at_ptr, putT_some, runOps_nil, R.ok_bind, cells_agg]
      with_reducible rfl
    revert hE1 hv1 hn1
    generalize C.alloc (rowOb 39 (cellsG d xs xo)) = C1
    intro hE1 hv1 hn1
    obtain ⟨d35, hd1, hd2⟩ := und35
    have a0 := load_part (tb := tb1) (t := 35) (o := 0) (n := 5) hd1 hd2 size35 hv1 (by show 5 ≤ 9; omega)
    rw [show ((cellsG d xs xo).drop 0).take 5 = [.int .i64 d.kind, strOf d.word, .int .u32 (d.weight : Int), .int .i64 d.k, .int .i64 d.n] from rfl] at a0
    have a1 : loadF tb1 C1.get 3 (.pointer (some ⟨C.next, 0, none⟩)) = .ok (.int .i64 d.kind) := load_vals und3 rfl hv1 rfl
    have hE2 := Ext.alloc C1 (rowOb 35 [.int .i64 0, .string ⟨#[]⟩, .int .u32 0, .int .i64 0, .int .i64 0])
    have hn2 := next_alloc C1 (rowOb 35 [.int .i64 0, .string ⟨#[]⟩, .int .u32 0, .int .i64 0, .int .i64 0])
    have hv2 : Vals (C1.alloc (rowOb 35 [.int .i64 0, .string ⟨#[]⟩, .int .u32 0, .int .i64 0, .int .i64 0])) 35 C1.next (.var 5) [.int .i64 0, .string ⟨#[]⟩, .int .u32 0, .int .i64 0, .int .i64 0] := Go.Am.vals_new C1 35 _
    obtain ⟨C3, hst, hv3, hn3, hf3⟩ := store_all (tb := tb1) (t := 35) (l' := [.int .i64 d.kind, strOf d.word, .int .u32 (d.weight : Int), .int .i64 d.k, .int .i64 d.n]) (by rw [size35]; rfl) hv2 rfl (by simp) (fun v hv => by
      simp only [List.mem_cons, List.not_mem_nil, or_false] at hv
      rcases hv with rfl | rfl | rfl | rfl | rfl <;> rfl)
    have hE3 : Ext C1 C3 := hE2.put (b := C1.next) (Nat.le_refl _) hn3 hf3
    have hEC := hE1.trans hE3
    have hkC : Wk bw b C b C3 := Wk.ext hEC
    have a1' : loadF tb1 C3.get 3 (.pointer (some ⟨C.next, 0, none⟩)) = .ok (.int .i64 d.kind) := load_vals und3 rfl (hv1.same (hE3.g _ (by omega))) rfl
    have hself := sameV_int 99 .i64 d.kind
    have hM : WA A0 bw C.next C1.next d xs xo ok enc n b C3 := {
      w := h.ext hEC
      e := he.trans hEC
      hw := hbw
      hb := hb
      h3 := hv1.same (hE3.g _ (by omega))
      h4 := hv3
      n3 := ⟨by omega, by omega⟩
      n4 := ⟨by omega, by omega⟩
      l3 := by omega
      l4 := by omega
      st0 := k2
      op0 := k4 }
    have hkb := hB.kind
    have hwl := hB.word
    apply W.seq
    apply W.run 20
    · intro M
      simp (config := { maxSteps := 4000000 }) (disch := first | decide +kernel | omega) only [c54, Try.f54, Option.getD_some, sub_seq1, sub_seq0, sub_nil, exec_float [(4, 6)], runD_P, Nat.reduceAdd, opF_fieldAddr, ev_tmp, T.get_set, Nat.reduceEqDiff, T.get_e, if_false, if_true, evG_some, putT_some, runD_Rd, rOp_load, R.ok_bind, selF_nil, rereadM_nil, runD_Al, opF_alloc, zero35, at_ptr, runD_L, selF_no, List.map_nil, hide_nil, backF_nil, selR_yes, selR_no, selR_nil, rereadR_cons, reread_load, rereadR_nil, Bool.and_true, opF_assign, opF_store, putT_none, runD_end, cells_agg, cond_true, fa39_0, fa35_0, a1, a0, hst, a1', rereadV_eq, hself]
      with_reducible rfl
    apply W.seq
    refine lay_kind hM ?_ ?_ ?_
    · unfold wpS; simp only [Sl_cons, Sl_nil, T.get_set, T.puts_cons, T.puts_nil, Nat.reduceEqDiff, Nat.reduceAdd, if_true, if_false, and_true, true_and]
    · simp only [T.get_set, T.puts_cons, T.puts_nil, Nat.reduceEqDiff, Nat.reduceAdd, if_true, if_false]
    intro t1 D1 hM1 hk1 hp1 h51
    show W tb1 _ _ _
    apply W.seq
    refine lay_cut hM1 (by omega) hp1 h51 ?_
    clear hp1 h51 t1
    intro t1 hp1 h51
    show W tb1 _ _ _
    apply W.seq
    refine lay_arm hM1 (by split <;> omega) hp1 h51 ?_
    clear hp1 h51 t1
    intro t1 hp1 h51
    show W tb1 _ _ _
    apply W.seq
    refine lay_byte (c := UInt8.ofNat (d.kind + (if d.cut = true then 10 else 0) + (if d.arm = 0 then 0 else 20)).toNat) hM1 (by omega) (fun hh => ?_) hp1 h51 ?_
    · rw [Bool.and_eq_true] at hh
      have := hh.2
      unfold kB at this
      simp only [Bool.and_eq_true, decide_eq_true_eq] at this
      exact ⟨by split <;> split <;> omega, by split <;> split <;> omega, rfl⟩
    clear hp1 h51 t1
    intro t1 b2 D2 hM2 hk2 hp1
    show W tb1 _ _ _
    apply W.seq
    refine lay_armed hB hM2 (by omega) hp1 ?_
    clear hp1 t1
    intro t1 b3 D3 hM3 hk3 hp1
    show W tb1 _ _ _
    have m1 := hM3.lword
    obtain ⟨b6, D5, ⟨g5, hg5⟩, hw5, hk5⟩ := run_wwordG hM3.w (by omega) hwl
    have hM4 := hM3.step hw5 hk5
    obtain ⟨e0, e3, e4, -⟩ := hp1
    apply W.seq
    apply W.runG (g5) 20
    · intro M hM
      simp (config := { maxSteps := 4000000 }) (disch := first | decide +kernel | omega) only [c54, Try.f54, Option.getD_some, sub_seq1, sub_seq0, sub_nil, exec_region, runOps_cons, opF_move, ev_tmp, e0, evG_some, putT_some, opF_fieldAddr, T.get_set, Nat.reduceEqDiff, e4, if_false, opF_load, if_true, opF_call, evs, R.ok_bind, resK, runOps_nil, fa35_1, m1, hg5]
      with_reducible rfl
    apply W.seq
    refine lay_weight hB hM4 (by omega) ?_ ?_
    · unfold wpS; simp only [Sl_cons, Sl_nil, T.get_set, T.puts_cons, T.puts_nil, Nat.reduceEqDiff, Nat.reduceAdd, if_true, if_false, and_true, true_and, e0, e3, e4]
    intro t4 b7 D6 hM5 hk6 hp4
    show W tb1 _ _ _
    apply W.seq
    refine lay_ask hB hM5 (by omega) hp4 ?_
    intro t5 b8 D7 hM6 hk7 hp5
    show W tb1 _ _ _
    refine lay_tail hB hM6 (by omega) hp5 ?_
    intro e t6 b9 D8 he2 hw9 hk9
    refine ⟨he2, D8, [], rfl, rfl, b9, rfl, (hw9.mono (by omega)).cast ?_ (fun hh => ?_), ?_⟩
    · rw [← (put_bool d).1]; simp only [Bool.and_assoc]
    · rw [Bool.and_eq_true] at hh
      rw [← put_enc hh.2]; simp only [List.append_assoc]
    · exact ((((((hkC.trans hk1).trans hk2).trans hk3).trans hk5).trans hk6).trans hk7).trans hk9
  exact ⟨b', A', ha, hw, hk⟩
end
end Go.Proofs.Ytmhldlnlgjpkaaa.scr

/-
  Script: a setting is written, whatever it is: its head, its acts; a loop over a function that stops.
-/
namespace Go.Proofs.Ytmhldlnlgjpkaaa.scr
open Go.Am
set_option linter.unusedSimpArgs false
set_option linter.unusedVariables false
set_option linter.unusedVariables false
set_option maxRecDepth 20000

/-- A loop over a function of which a round returned. -/
theorem W.rangeR {f : Operand} {ps : Array Tmp} {a b : Code} {t : T Value} {n : Nat} {A A' : Mem} {K : Ex → St → Prop} {fid : FuncId} {first capt : List Value} {v : Value} {r : ALoop}
    (hf : ev t f = .ok (.func (.func fid) ⟨first⟩ ⟨capt⟩))
    (hc : Ans tb1 fid (first ++ [.func (.yield (A.next + 1)) ⟨[]⟩ ⟨[]⟩] ++ capt) ((A.alloc .defd).alloc (.loop (loop0 t n ps.toList a b A.next))) v A')
    (hr : A'.get (A.next + 1) = some (.loop r)) (hst : r.state ≠ .busy) (hp : r.pending = some .ret)
    (k : K .ret ⟨t, n, [A.next], A'.set (A.next + 1) (.loop { r with state := .exhausted }), none⟩) : W tb1 (.rangeFunc f ps a b) ⟨t, n, [], A, none⟩ K := by
  obtain ⟨g, hg⟩ := hc
  refine ⟨_, _, ⟨g + 1, fun m => ?_⟩, k⟩
  rw [show m + (g + 1) = (m + g) + 1 by omega, exec_rangeFunc]
  have h1 := hg (m + g) (by omega)
  unfold rangeFuncF
  simp only [hf, R.ok_bind]
  have hn : (A.alloc .defd).next = A.next + 1 := next_alloc _ _
  rw [hn]
  have hcal : ∀ g' : Nat → Option Ob, calleeF tb1 g' (.func (.func fid) ⟨first⟩ ⟨capt⟩) [.func (.yield (A.next + 1)) ⟨[]⟩ ⟨[]⟩] = .ok (.fn fid (first ++ [.func (.yield (A.next + 1)) ⟨[]⟩ ⟨[]⟩] ++ capt)) := fun _ => rfl
  rw [hcal, R.ok_bind]
  unfold loop0 at h1
  rw [h1, R.ok_bind]
  simp only [hr, hp]
  cases hs : r.state with
  | busy => exact absurd hs hst
  | _ => rfl
/-- A round that returns. -/
theorem round_of_R {l : Nat} {args : List Value} {A : Mem} {r : ALoop} {t : T Value} {Q : Mem → Prop} (hl : A.get l = some (.loop r)) (ht : setArgs r.n r.params args r.tmps = .ok t)
    (h : W tb1 r.assign ⟨t, r.n, [], A, some l⟩ fun e s1 => e = .nrm ∧ ∃ r1, s1.m.get l = some (.loop r1) ∧ r1.state = .ready ∧ W tb1 r.body ⟨s1.t, s1.n, s1.d, s1.m.set l (.loop { r1 with state := .busy }), s1.ro⟩ fun e s2 => e = .ret ∧ s2.d = [] ∧ ∃ r2, s2.m.get l = some (.loop r2) ∧ Q (s2.m.set l (.loop { r2 with state := .done, pending := some .ret }))) :
    ∃ A', (∃ g, ∀ M, g ≤ M → callF tb1 (exec tb1 M) (.round l args) A = .ok (.val (.bool false) A')) ∧ Q A' := by
  obtain ⟨e, s1, ⟨f1, h1⟩, rfl, r1, hr1, hst1, e2, s2, ⟨f2, h2⟩, rfl, hd, r2, hr2, hQ⟩ := h
  refine ⟨_, ⟨f1 + f2, fun M hM => ?_⟩, hQ⟩
  show roundF (exec tb1 M) l args A = _
  unfold roundF
  have e1 := h1 (M - f1)
  rw [Nat.sub_add_cancel (by omega)] at e1
  have e2 := h2 (M - f2)
  rw [Nat.sub_add_cancel (by omega)] at e2
  simp only [hl, ht, R.ok_bind, e1, hr1, hst1, e2, hd, hr2]

theorem wrap_u8e (m : Int) : wrapF .u8 m = (((m % 256).toNat : Nat) : Int) := by
  rw [wrapF_eq]
  simp [IntKind.wrap, IntKind.signed, IntKind.bits]
  omega
theorem op_quoI {a : Int} : ∃ q : Int, intOpF .quo .i64 a ((256 : Nat) : Int) = .ok (.int .i64 q) ∧ (0 ≤ a → a < 9223372036854775808 → q = a / 256) := by
  by_cases h : 0 ≤ a ∧ a < 9223372036854775808
  · obtain ⟨x, rfl⟩ : ∃ x : Nat, a = (x : Int) := ⟨a.toNat, by omega⟩
    exact ⟨((x / 256 : Nat) : Int), op_quo_i64 (by omega) (by omega), fun _ _ => by omega⟩
  · cases a with
    | ofNat x => exact ⟨_, rfl, fun h1 h2 => absurd ⟨h1, h2⟩ h⟩
    | negSucc x => exact ⟨_, rfl, fun h1 h2 => absurd ⟨h1, h2⟩ h⟩
/-- How great the numbers of a setting are. -/
structure SetB (s : SetG) : Prop where
  wal : -1000000 ≤ s.wal ∧ s.wal ≤ 1000000
  fan : -1000000 ≤ s.fan ∧ s.fan ≤ 1000000
  quota : -1000000 ≤ s.quota ∧ s.quota ≤ 1000000
  acts : ∀ d ∈ s.acts, ActB d
  len : s.acts.length ≤ 60
def hOk (s : SetG) : Bool := ((decide (s.acts.length ≤ 60) && (decide (0 ≤ s.quota) && decide (s.quota < 65536))) && decide (0 ≤ s.wal - 1 ∧ s.wal - 1 ≤ ((255 : Nat) : Int))) && decide (0 ≤ s.fan - 2 ∧ s.fan - 2 ≤ ((7 : Nat) : Int))
open Classical in
theorem hOk_eq (s : SetG) : hOk s = decide (headSOk s) := by
  apply Bool.eq_iff_iff.2
  unfold hOk headSOk
  simp only [Bool.and_eq_true, decide_eq_true_eq]
  omega
section
variable {bw b n : Nat} {ok : Bool} {enc : List UInt8} {C : Mem} {s : SetG} {xa : Value} {sb : Nat}
set_option maxHeartbeats 8000000 in
theorem run_headG (h : WR bw ok enc n b C) (hn : n ≤ 900000) (hv : Vals C 28 sb (.var 4) (cellsS s xa)) (hnb : Nb bw b sb) (hsl : sb < C.next) (hA : ActsG C s.acts xa) (hB : SetB s) :
    ∃ b' C', Ans tb1 50 [.pointer (some ⟨bw, 0, none⟩), .pointer (some ⟨sb, 0, none⟩)] C (.tuple ⟨[]⟩) C' ∧ WR bw (ok && hOk s) (enc ++ headG s) (n + 4) b' C' ∧ Wk bw b C b' C' := by
  obtain ⟨v, A', ha, b', rfl, hw', hk⟩ : ∃ v A', Ans tb1 50 [.pointer (some ⟨bw, 0, none⟩), .pointer (some ⟨sb, 0, none⟩)] C v A' ∧ ∃ b', v = .tuple ⟨[]⟩ ∧ WR bw (ok && hOk s) (enc ++ headG s) (n + 4) b' A' ∧ Wk bw b C b' A' := by
    refine ans_of_W (fn_at Try.func50) c50_eq (by rw [Try.ntmps50]; simp) (by kernel_rfl) (by kernel_rfl) ?_
    have hwl := hB.wal
    have hfn := hB.fan
    have hqu := hB.quota
    have h60 := hB.len
    have hlen := hA.len
    have l2 : loadF tb1 C.get 26 (.pointer (some ⟨sb, 3, none⟩)) = .ok xa := load_vals und26 rfl hv rfl
    have l1 : loadF tb1 C.get 3 (.pointer (some ⟨sb, 2, none⟩)) = .ok (.int .i64 s.quota) := load_vals und3 rfl hv rfl
    obtain ⟨p, hp⟩ : ∃ p, (decide (0 ≤ s.quota) && decide (s.quota < 65536)) = p := ⟨_, rfl⟩
    obtain ⟨D1, ⟨g1, hg1⟩, hw1, hk1⟩ := run_mustG (p := p) h
    obtain ⟨n1, e1⟩ := hk1.keep _ hnb hsl
    have hv1 := hv.same e1
    have hs1 := Nat.lt_of_lt_of_le hsl hk1.n
    have l3 : loadF tb1 D1.get 3 (.pointer (some ⟨sb, 0, none⟩)) = .ok (.int .i64 s.wal) := load_vals und3 rfl hv1 rfl
    have s1 : intOpF .sub .i64 s.wal ((1 : Nat) : Int) = .ok (.int .i64 (s.wal - 1)) := op_subI (by omega) (by omega)
    obtain ⟨b2, D2, ⟨g2, hg2⟩, hw2, hk2⟩ := run_putG (most := 255) (m := s.wal - 1) (c := UInt8.ofNat (s.wal.toNat - 1)) hw1 (by omega) (by omega) (fun _ _ => by congr 1; omega)
    obtain ⟨n2, e2⟩ := hk2.keep _ n1 hs1
    have hv2 := hv1.same e2
    have hs2 := Nat.lt_of_lt_of_le hs1 hk2.n
    have l4 : loadF tb1 D2.get 3 (.pointer (some ⟨sb, 1, none⟩)) = .ok (.int .i64 s.fan) := load_vals und3 rfl hv2 rfl
    have s2 : intOpF .sub .i64 s.fan ((2 : Nat) : Int) = .ok (.int .i64 (s.fan - 2)) := op_subI (by omega) (by omega)
    obtain ⟨b3, D3, ⟨g3, hg3⟩, hw3, hk3⟩ := run_putG (most := 7) (m := s.fan - 2) (c := UInt8.ofNat (s.fan.toNat - 2)) hw2 (by omega) (by omega) (fun _ _ => by congr 1; omega)
    obtain ⟨n3, e3⟩ := hk3.keep _ n2 hs2
    have hv3 := hv2.same e3
    have l5 : loadF tb1 D3.get 3 (.pointer (some ⟨sb, 2, none⟩)) = .ok (.int .i64 s.quota) := load_vals und3 rfl hv3 rfl
    obtain ⟨q, hq1, hq2⟩ := op_quoI (a := s.quota)
    have w1 := wrap_u8e s.quota
    have w2 := wrap_u8e q
    have v1 : (s.quota % 256).toNat < 256 := by omega
    have v2 : (q % 256).toNat < 256 := by omega
    obtain ⟨y, y', D4, D5, b4, f1, f3, f4, f5, f6⟩ := hw3.apps (by omega) (cs := [UInt8.ofNat (s.quota % 256).toNat, UInt8.ofNat (q % 256).toNat]) (e := [UInt8.ofNat (s.quota.toNat % 256), UInt8.ofNat (s.quota.toNat / 256)]) (by simp) (fun hh => by
      rw [← hp] at hh
      simp only [Bool.and_eq_true, decide_eq_true_eq] at hh
      have hr := hh.1.1.2
      have := hq2 (by omega) (by omega)
      congr 2
      · omega
      · congr 1; omega)
    have hby : byts [UInt8.ofNat (s.quota % 256).toNat, UInt8.ofNat (q % 256).toNat] = [.int .u8 (((s.quota % 256).toNat : Nat) : Int), .int .u8 (((q % 256).toNat : Nat) : Int)] := by
      simp only [byts, List.map_cons, List.map_nil, u8_nat v1, u8_nat v2]
    rw [hby] at f3
    have f3' : appendF tb1 (D3.alloc (rowOb 5 [.int .u8 (((s.quota % 256).toNat : Nat) : Int), .int .u8 (((q % 256).toNat : Nat) : Int)])) 22 22 y (.slice (some ⟨D3.next, 0, none⟩) 2 4) = .ok (y', D4) := f3
    have first : ∀ {t : T Value} {K : Ex → St → Prop}, Sl t [(0, .pointer (some ⟨bw, 0, none⟩)), (1, .pointer (some ⟨sb, 0, none⟩))] → (∀ t', Sl t' [(0, .pointer (some ⟨bw, 0, none⟩)), (1, .pointer (some ⟨sb, 0, none⟩))] → K .nrm ⟨t', 49, [], D1, none⟩) → W tb1 (sub c50 [0]) ⟨t, 49, [], C, none⟩ K := by
      rintro t K ⟨u0, u1, -⟩ hK
      by_cases a1 : ((0 : Nat) : Int) ≤ s.quota
      · have e : p = decide (s.quota < ((65536 : Nat) : Int)) := by rw [← hp, decide_eq_true (by omega)]; rfl
        rw [e] at hg1
        apply W.runG (g1) 20
        · intro M hM
          simp (config := { maxSteps := 4000000 }) (disch := first | decide +kernel | (rw [wantF_guard]; simp only [wantD_some, dstAt_zero, dstAt_succ, T.get_set, T.get_e, Nat.reduceEqDiff, if_true, if_false, wantV_bool, wantV_unit, unitV, cond_true, cond_false, Bool.not_true, Bool.not_false, List.toList_toArray]) | omega) only [c50, Try.f50, Option.getD_some, sub_seq0, sub_nil, exec_region, runOps_cons, opF_move, ev_tmp, u0, evG_some, putT_some, opF_fieldAddr, T.get_set, Nat.reduceEqDiff, u1, if_false, opF_load, if_true, opF_len, evs, R.ok_bind, opF_ari, ev_int, fa28_2, l2, hlen, binF_int, op_leq, cast_le, h60, decide_true, runOps_yes, opF_pick, pickF, ev_bool, fa28_1, l1, op_geq, a1, opF_call, resK, runOps_nil, op_lssI, hg1]
          with_reducible rfl
        apply hK
        simp only [Sl_cons, Sl_nil, T.get_set, T.puts_cons, T.puts_nil, Nat.reduceEqDiff, Nat.reduceAdd, if_true, if_false, and_true, true_and, u0, u1]
      · have e : p = false := by rw [← hp, decide_eq_false (by omega)]; rfl
        rw [e] at hg1
        apply W.runG (g1) 20
        · intro M hM
          simp (config := { maxSteps := 4000000 }) (disch := first | decide +kernel | (rw [wantF_guard]; simp only [wantD_some, dstAt_zero, dstAt_succ, T.get_set, T.get_e, Nat.reduceEqDiff, if_true, if_false, wantV_bool, wantV_unit, unitV, cond_true, cond_false, Bool.not_true, Bool.not_false, List.toList_toArray]) | omega) only [c50, Try.f50, Option.getD_some, sub_seq0, sub_nil, exec_region, runOps_cons, opF_move, ev_tmp, u0, evG_some, putT_some, opF_fieldAddr, T.get_set, Nat.reduceEqDiff, u1, if_false, opF_load, if_true, opF_len, evs, R.ok_bind, opF_ari, ev_int, fa28_2, l2, hlen, binF_int, op_leq, cast_le, h60, decide_true, runOps_yes, opF_pick, pickF, ev_bool, fa28_1, l1, op_geq, a1, decide_false, runOps_no, opF_call, resK, runOps_nil, hg1]
          with_reducible rfl
        apply hK
        simp only [Sl_cons, Sl_nil, T.get_set, T.puts_cons, T.puts_nil, Nat.reduceEqDiff, Nat.reduceAdd, if_true, if_false, and_true, true_and, u0, u1]
    apply W.seq
    refine first (by simp only [Sl_cons, Sl_nil, T.get_set, T.puts_cons, T.puts_nil, Nat.reduceEqDiff, Nat.reduceAdd, if_true, if_false, and_true, true_and]) ?_
    rintro t ⟨g0, g1', -⟩
    show W tb1 _ _ _
    apply W.seq
    apply W.runG (g2) 20
    · intro M hM
      simp (config := { maxSteps := 4000000 }) (disch := first | decide +kernel | omega) only [c50, Try.f50, Option.getD_some, sub_seq1, sub_seq0, sub_nil, exec_region, runOps_cons, opF_move, ev_tmp, g0, evG_some, putT_some, opF_fieldAddr, T.get_set, Nat.reduceEqDiff, g1', if_false, if_true, opF_load, opF_ari, ev_int, opF_buildSlice, evp, R.ok_bind, opF_call, evs, resK, runOps_nil, fa28_0, fa25_0, l3, binF_int, s1, bs127, at_slc, hg2]
      with_reducible rfl
    apply W.seq
    apply W.runG (g3) 20
    · intro M hM
      simp (config := { maxSteps := 4000000 }) (disch := first | decide +kernel | omega) only [c50, Try.f50, Option.getD_some, sub_seq1, sub_seq0, sub_nil, exec_region, runOps_cons, opF_move, ev_tmp, T.get_set, Nat.reduceEqDiff, g0, if_false, evG_some, putT_some, opF_fieldAddr, g1', if_true, opF_load, opF_ari, ev_int, opF_buildSlice, evp, R.ok_bind, opF_call, evs, resK, runOps_nil, fa28_0, fa25_1, l4, binF_int, s2, bs127, at_slc, hg3]
      with_reducible rfl
    apply W.run 20
    · intro M
      simp (config := { maxSteps := 4000000 }) (disch := first | decide +kernel | omega) only [c50, Try.f50, Option.getD_some, sub_seq1, sub_nil, exec_draw, runOps_cons, opF_move, ev_tmp, T.get_set, Nat.reduceEqDiff, g0, if_false, evG_some, putT_some, opF_nilCheck, if_true, opF_fieldAddr, opF_load, g1', opF_conv, convPF, und3, und5, opF_ari, ev_int, opF_buildSlice, evp, R.ok_bind, opF_builtin, evs, opF_store, putT_none, runOps_nil, builtin_append, fa28_1, l5, binF_int, hq1, w2, w1, bs22_2, at_slc, nil_ptr, fa85_0, f1, f3', f4]
      with_reducible rfl
    refine ⟨.inl rfl, D5, [], rfl, rfl, b4, rfl, (f5.mono (by simp)).cast ?_ (fun _ => ?_), ((hk1.trans hk2).trans hk3).trans f6⟩
    · unfold hOk; rw [hp, decide_eq_true h60]; simp only [Bool.and_assoc, Bool.true_and]
    · unfold headG; simp
  exact ⟨b', A', ha, hw', hk⟩
/-- An act, out of its box. -/
theorem run_boxedG {A0 : Mem} {ab : Nat} {d : ActG} {l : List Value} (h : WR bw ok enc n b C) (he : Ext A0 C) (hbw : A0.next ≤ bw) (hb : A0.next ≤ b) (hn : n ≤ 700000) (hA : ActGR A0 d l) (hB : ActB d) (hv : Vals C 39 ab (.var 9) l) :
    ∃ b' C', Ans tb1 53 [.pointer (some ⟨bw, 0, none⟩), .pointer (some ⟨ab, 0, none⟩)] C (.tuple ⟨[]⟩) C' ∧ WR bw (ok && putOk d) (enc ++ encG d) (n + 4000) b' C' ∧ Wk bw b C b' C' := by
  obtain ⟨v, A', ha, b', rfl, hw', hk⟩ : ∃ v A', Ans tb1 53 [.pointer (some ⟨bw, 0, none⟩), .pointer (some ⟨ab, 0, none⟩)] C v A' ∧ ∃ b', v = .tuple ⟨[]⟩ ∧ WR bw (ok && putOk d) (enc ++ encG d) (n + 4000) b' A' ∧ Wk bw b C b' A' := by
    refine ans_of_W (fn_at Try.func53) c53_eq (by rw [Try.ntmps53]; simp) (by kernel_rfl) (by kernel_rfl) ?_
    obtain ⟨d39, hd1, hd2⟩ := und39
    have ll := Go.Am.load_all (tb := tb1) (t := 39) hd1 hd2 (by rw [size39, hA.cells.1]) hv
    obtain ⟨b2, D2, ⟨g2, hg2⟩, hw2, hk2⟩ := run_wactG h he hbw hb hn hA hB
    apply W.runG (g2) 20
    · intro M hM
      simp (config := { maxSteps := 4000000 }) (disch := first | decide +kernel | omega) only [c53, Try.f53, Option.getD_some, T.puts_cons, Nat.reduceAdd, T.puts_nil, exec_region, runOps_cons, opF_move, ev_tmp, T.get_set, Nat.reduceEqDiff, T.get_e, if_true, if_false, evG_some, putT_some, opF_load, opF_call, evs, R.ok_bind, resK, runOps_nil, ll, hg2]
      with_reducible rfl
    exact ⟨.inl rfl, _, [], rfl, rfl, b2, rfl, hw2, hk2⟩
  exact ⟨b', A', ha, hw', hk⟩
end
end Go.Proofs.Ytmhldlnlgjpkaaa.scr

/-
  Script: the loop over a setting's parts, that may stop.
-/
namespace Go.Proofs.Ytmhldlnlgjpkaaa.scr
open Go.Am
set_option linter.unusedSimpArgs false
set_option linter.unusedVariables false
set_option linter.unusedVariables false
set_option maxRecDepth 20000

structure PutG (B0 : Mem) (bw : Nat) (t0 : T Value) (enc : List UInt8) (n b : Nat) (C : Mem) : Prop where
  w : WR bw true enc n b C
  hd : C.get B0.next = some .defd
  hl : C.get (B0.next + 1) = some (.loop (putL t0 B0.next))
  hb : bw < B0.next
  n1 : b = bw ∨ B0.next + 2 ≤ b
  hn : B0.next + 2 ≤ C.next
  old : ∀ y, y < B0.next → y ≠ bw → C.get y = B0.get y
/-- What the frame of Put holds. -/
structure PutF (B0 : Mem) (bw b2 b3 b4 : Nat) (t0 : T Value) : Prop where
  t2 : t0.get 2 = some (.pointer (some ⟨b2, 0, none⟩))
  t3 : t0.get 3 = some (.pointer (some ⟨b3, 0, none⟩))
  t4 : t0.get 4 = some (.pointer (some ⟨b4, 0, none⟩))
  v2 : Vals B0 22 b2 (.var 1) [.slice none 0 0]
  v3 : Vals B0 51 b3 (.var 1) [.int .i64 0]
  v4 : Vals B0 83 b4 (.var 1) [.pointer (some ⟨bw, 0, none⟩)]
  l2 : b2 < B0.next ∧ b2 ≠ bw ∧ b2 ≠ b3 ∧ b2 ≠ b4
  l3 : b3 < B0.next ∧ b3 ≠ bw ∧ b3 ≠ b4
  l4 : b4 < B0.next ∧ b4 ≠ bw
/-- Put's memory, once a part could not be laid. -/
structure BadM (B0 : Mem) (bw b2 b3 : Nat) (t0 : T Value) (C : Mem) : Prop where
  hd : C.get B0.next = some .defd
  hl : C.get (B0.next + 1) = some (.loop { (putL t0 B0.next) with state := .done, pending := some .ret })
  v2 : Vals C 22 b2 (.var 1) [.slice none 0 0]
  v3 : Vals C 51 b3 (.var 1) [.int .i64 ((2 : Nat) : Int)]
  hn : B0.next + 2 ≤ C.next
  old : ∀ y, y < B0.next → y ≠ bw → y ≠ b2 → y ≠ b3 → C.get y = B0.get y
section
variable {B0 : Mem} {bw b2 b3 b4 : Nat} {t0 : T Value} {enc enc' : List UInt8} {n n' b b' : Nat} {C C' : Mem}
theorem PutG.step (h : PutG B0 bw t0 enc n b C) (hw : WR bw true enc' n' b' C') (hk : Wk bw b C b' C') : PutG B0 bw t0 enc' n' b' C' := by
  have h1 := h.hb
  have h2 := h.n1
  have h3 := h.hn
  have h4 := hk.o
  exact {
    w := hw
    hd := by rw [hk.g _ (by omega) (by omega) (by omega)]; exact h.hd
    hl := by rw [hk.g _ (by omega) (by omega) (by omega)]; exact h.hl
    hb := h1
    n1 := by omega
    hn := Nat.le_trans h3 hk.n
    old := fun y hy hyb => by rw [hk.g y (by omega) hyb (by omega), h.old y hy hyb] }
theorem WR.same (h : WR bw true enc n b C) (hn : C.next ≤ C'.next) (h1 : C'.get bw = C.get bw) (h2 : C'.get b = C.get b) : WR bw true enc n b C' := by
  obtain ⟨bs, ⟨x, k1, k2, k3, k4, k5⟩, hl, he⟩ := h
  exact ⟨bs, ⟨x, k1.same h1, k2.same hn (fun _ => h2), k3, by omega, by omega⟩, hl, he⟩
theorem c14b_eq : sub c14 [1,1,0,1,0,1] = .block 1 (.seq (sub c14 [1,1,0,1,0,1,0,0]) (.seq (sub c14 [1,1,0,1,0,1,0,1,0]) (.cond (.tmp 17) (.seq (sub c14 [1,1,0,1,0,1,0,1,1,0,0]) .ret) .skip))) := by kernel_rfl
set_option maxHeartbeats 8000000 in
/-- A round: the part is laid; or it can't be, and the loop stops. -/
theorem put_roundG {fid : Nat} {p : Value} {pb : Bool} (hP : PutG B0 bw t0 enc n b C) (hF : PutF B0 bw b2 b3 b4 t0)
    (hclo : ∀ E, WR bw true enc n b E → E.next = C.next → (∀ y, y ≠ B0.next + 1 → E.get y = C.get y) → ∃ b' E', Ans tb1 fid [.pointer (some ⟨bw, 0, none⟩), p] E (.tuple ⟨[]⟩) E' ∧ WR bw pb enc' n' b' E' ∧ Wk bw b E b' E') :
    ∃ C', (∃ g, ∀ M, g ≤ M → callF tb1 (exec tb1 M) (.round (B0.next + 1) [.func (.func fid) ⟨[]⟩ ⟨[p]⟩]) C = .ok (.val (.bool pb) C')) ∧ (pb = true → ∃ b', PutG B0 bw t0 enc' n' b' C') ∧ (pb = false → BadM B0 bw b2 b3 t0 C') := by
  have hCn := hP.hn
  obtain ⟨d83, hd83, hd83'⟩ := und83
  have hCb := hP.hb
  have hn1 := hP.n1
  obtain ⟨m2, m2b, m2c, m2d⟩ := hF.l2
  obtain ⟨m3, m3b, m3c⟩ := hF.l3
  obtain ⟨m4, m4b⟩ := hF.l4
  have hn0 : (C.set (B0.next + 1) (.loop { (putL t0 B0.next) with state := .busy })).next = C.next := next_set _ _ _
  have hg0 : ∀ y, y ≠ B0.next + 1 → (C.set (B0.next + 1) (.loop { (putL t0 B0.next) with state := .busy })).get y = C.get y := fun y hy => by rw [get_setMem, if_neg hy]
  have hl0 : (C.set (B0.next + 1) (.loop { (putL t0 B0.next) with state := .busy })).get (B0.next + 1) = some (.loop { (putL t0 B0.next) with state := .busy }) := by rw [get_setMem, if_pos rfl]
  obtain ⟨E, hE⟩ : ∃ E, C.set (B0.next + 1) (.loop { (putL t0 B0.next) with state := .busy }) = E := ⟨_, rfl⟩
  rw [hE] at hn0 hg0 hl0
  have hwE : WR bw true enc n b E := hP.w.same (by omega) (hg0 _ (by omega)) (hg0 _ (by omega))
  obtain ⟨b', E', ⟨g, hg⟩, hw', hk'⟩ := hclo E hwE hn0 hg0
  have hko := hk'.o
  have hkn := hk'.n
  have old' : ∀ y, y < B0.next → y ≠ bw → E'.get y = B0.get y := fun y hy hyb => by rw [hk'.g y (by omega) hyb (by omega), hg0 y (by omega), hP.old y hy hyb]
  have l4 : loadF tb1 E.get 83 (.pointer (some ⟨b4, 0, none⟩)) = .ok (.pointer (some ⟨bw, 0, none⟩)) := load_vals hd83 hd83' (hF.v4.same (by rw [hg0 _ (by omega), hP.old _ m4 m4b])) rfl
  have l4' : loadF tb1 E'.get 83 (.pointer (some ⟨b4, 0, none⟩)) = .ok (.pointer (some ⟨bw, 0, none⟩)) := load_vals hd83 hd83' (hF.v4.same (old' _ m4 m4b)) rfl
  have hlE' : E'.get (B0.next + 1) = some (.loop { (putL t0 B0.next) with state := .busy }) := by rw [hk'.g _ (by omega) (by omega) (by omega)]; exact hl0
  have hdE' : E'.get B0.next = some .defd := by rw [hk'.g _ (by omega) (by omega) (by omega), hg0 _ (by omega)]; exact hP.hd
  have lb : loadF tb1 E'.get 4 (.pointer (some ⟨bw, 1, none⟩)) = .ok (.bool (!pb)) := by
    obtain ⟨bs, ⟨x, k1, -⟩, -⟩ := hw'
    exact load_vals und4 rfl k1 rfl
  have g4 := hF.t4
  have g2 := hF.t2
  have g3 := hF.t3
  cases pb with
  | true =>
    obtain ⟨C', hr, b', hP'⟩ : ∃ C', (∃ g, ∀ M, g ≤ M → callF tb1 (exec tb1 M) (.round (B0.next + 1) [.func (.func fid) ⟨[]⟩ ⟨[p]⟩]) C = .ok (.val (.bool true) C')) ∧ ∃ b', PutG B0 bw t0 enc' n' b' C' := by
      refine round_of_W hP.hl (t := t0.set 10 (.func (.func fid) ⟨[]⟩ ⟨[p]⟩)) rfl ?_
      show W tb1 (sub c14 [1,1,0,1,0,0]) ⟨t0.set 10 (.func (.func fid) ⟨[]⟩ ⟨[p]⟩), 22, [], C, some (B0.next + 1)⟩ _
      apply W.run 20
      · intro M
        simp (config := { maxSteps := 4000000 }) (disch := first | decide +kernel | omega) only [c14, Try.f14, Option.getD_some, sub_seq1, sub_seq0, sub_block, sub_range0, sub_nil, exec_region, runOps_cons, opF_assign, ev_tmp, T.get_set, if_true, evG_some, putT_some, runOps_nil, R.ok_bind]
        with_reducible rfl
      refine ⟨rfl, _, hP.hl, rfl, ?_⟩
      show W tb1 (sub c14 [1,1,0,1,0,1]) ⟨_, 22, [], C.set (B0.next + 1) (.loop { (putL t0 B0.next) with state := .busy }), some (B0.next + 1)⟩ _
      rw [hE]
      apply W.runG (g) 20
      · intro M hM
        simp (config := { maxSteps := 4000000 }) (disch := first | decide +kernel | omega) only [c14, Try.f14, Option.getD_some, sub_seq1, sub_seq0, sub_block, sub_range1, sub_nil, exec_block, exec_seq, exec_region, runOps_cons, opF_move, ev_tmp, T.get_set, Nat.reduceEqDiff, if_false, if_true, evG_some, putT_some, opF_load, g4, opF_callv, evs, R.ok_bind, resK, runOps_nil, l4, callV_func, List.nil_append, List.cons_append, hg, exec_cond, opF_store, ev_nilslice, putT_none, ev_int, exec_ret, exec_skip, opF_nilCheck, opF_fieldAddr, l4', nil_ptr, fa85_1, lb, Bool.not_true]
        with_reducible rfl
      refine ⟨rfl, rfl, _, hlE', b', ?_⟩
      show PutG B0 bw t0 enc' n' b' (E'.set (B0.next + 1) (.loop (putL t0 B0.next)))
      have hset : ∀ y, y ≠ B0.next + 1 → (E'.set (B0.next + 1) (.loop (putL t0 B0.next))).get y = E'.get y := fun y hy => by rw [get_setMem, if_neg hy]
      have hsn : (E'.set (B0.next + 1) (.loop (putL t0 B0.next))).next = E'.next := next_set _ _ _
      exact {
        w := hw'.same (by omega) (hset _ (by omega)) (hset _ (by omega))
        hd := by rw [hset _ (by omega)]; exact hdE'
        hl := by rw [get_setMem, if_pos rfl]
        hb := hCb
        n1 := by omega
        hn := by rw [hsn]; omega
        old := fun y hy hyb => by rw [hset _ (by omega), old' y hy hyb] }
    exact ⟨C', hr, fun _ => ⟨b', hP'⟩, fun h => by cases h⟩
  | false =>
    obtain ⟨E1, st1, u2, nE1, fE1⟩ := store_vals (tb := tb1) (t := 22) (o := 0) (v := .slice none 0 0) size22 (hF.v2.same (old' _ m2 m2b)) (by simp) rfl rfl
    obtain ⟨E2, st2, u3, nE2, fE2⟩ := store_vals (tb := tb1) (t := 51) (o := 0) (v := .int .i64 ((2 : Nat) : Int)) size51 ((hF.v3.same (old' _ m3 m3b)).same (fE1 _ (by omega))) (by simp) rfl rfl
    obtain ⟨C', hr, hP'⟩ : ∃ C', (∃ g, ∀ M, g ≤ M → callF tb1 (exec tb1 M) (.round (B0.next + 1) [.func (.func fid) ⟨[]⟩ ⟨[p]⟩]) C = .ok (.val (.bool false) C')) ∧ BadM B0 bw b2 b3 t0 C' := by
      refine round_of_R hP.hl (t := t0.set 10 (.func (.func fid) ⟨[]⟩ ⟨[p]⟩)) rfl ?_
      show W tb1 (sub c14 [1,1,0,1,0,0]) ⟨t0.set 10 (.func (.func fid) ⟨[]⟩ ⟨[p]⟩), 22, [], C, some (B0.next + 1)⟩ _
      apply W.run 20
      · intro M
        simp (config := { maxSteps := 4000000 }) (disch := first | decide +kernel | omega) only [c14, Try.f14, Option.getD_some, sub_seq1, sub_seq0, sub_block, sub_range0, sub_nil, exec_region, runOps_cons, opF_assign, ev_tmp, T.get_set, if_true, evG_some, putT_some, runOps_nil, R.ok_bind]
        with_reducible rfl
      refine ⟨rfl, _, hP.hl, rfl, ?_⟩
      show W tb1 (sub c14 [1,1,0,1,0,1]) ⟨_, 22, [], C.set (B0.next + 1) (.loop { (putL t0 B0.next) with state := .busy }), some (B0.next + 1)⟩ _
      rw [hE, c14b_eq]
      apply W.block
      apply W.seq
      apply W.runG (g) 20
      · intro M hM
        simp (config := { maxSteps := 4000000 }) (disch := first | decide +kernel | omega) only [c14, Try.f14, Option.getD_some, sub_seq1, sub_seq0, sub_block, sub_range1, sub_nil, exec_region, runOps_cons, opF_move, ev_tmp, T.get_set, Nat.reduceEqDiff, if_false, if_true, evG_some, putT_some, opF_load, g4, opF_callv, evs, R.ok_bind, resK, runOps_nil, l4, callV_func, List.nil_append, List.cons_append, hg]
        with_reducible rfl
      apply W.seq
      apply W.run 20
      · intro M
        simp (config := { maxSteps := 4000000 }) (disch := first | decide +kernel | omega) only [c14, Try.f14, Option.getD_some, sub_seq1, sub_seq0, sub_block, sub_range1, sub_nil, exec_region, runOps_cons, opF_load, ev_tmp, T.get_set, Nat.reduceEqDiff, g4, if_false, evG_some, putT_some, opF_nilCheck, if_true, opF_fieldAddr, runOps_nil, R.ok_bind, l4', nil_ptr, fa85_1, lb, Bool.not_false]
        with_reducible rfl
      refine W.cond (p := true) (by simp only [ev_tmp, T.get_set, if_true, evG_some]) (fun _ => ?_) (fun h => by cases h)
      apply W.run 20
      · intro M
        simp (config := { maxSteps := 4000000 }) (disch := first | decide +kernel | omega) only [c14, Try.f14, Option.getD_some, sub_seq1, sub_seq0, sub_block, sub_range1, sub_cond0, sub_nil, exec_seq, exec_region, runOps_cons, opF_store, ev_tmp, T.get_set, Nat.reduceEqDiff, g2, if_false, evG_some, ev_nilslice, putT_none, g3, ev_int, runOps_nil, R.ok_bind, st1, st2, exec_ret]
        with_reducible rfl
      refine ⟨rfl, rfl, _, by rw [fE2 _ (by omega), fE1 _ (by omega)]; exact hlE', ?_⟩
      show BadM B0 bw b2 b3 t0 (E2.set (B0.next + 1) (.loop { (putL t0 B0.next) with state := .done, pending := some .ret }))
      have hset : ∀ y, y ≠ B0.next + 1 → (E2.set (B0.next + 1) (.loop { (putL t0 B0.next) with state := .done, pending := some .ret })).get y = E2.get y := fun y hy => by rw [get_setMem, if_neg hy]
      have hsn : (E2.set (B0.next + 1) (.loop { (putL t0 B0.next) with state := .done, pending := some .ret })).next = E2.next := next_set _ _ _
      exact {
        hd := by rw [hset _ (by omega), fE2 _ (by omega), fE1 _ (by omega)]; exact hdE'
        hl := by rw [get_setMem, if_pos rfl]
        v2 := (u2.same (fE2 _ (by omega))).same (hset _ (by omega))
        v3 := u3.same (hset _ (by omega))
        hn := by rw [hsn]; omega
        old := fun y hy hyb hy2 hy3 => by rw [hset _ (by omega), fE2 _ hy3, fE1 _ hy2, old' y hy hyb] }
    exact ⟨C', hr, (fun h => by cases h), fun _ => hP'⟩
end
end Go.Proofs.Ytmhldlnlgjpkaaa.scr

