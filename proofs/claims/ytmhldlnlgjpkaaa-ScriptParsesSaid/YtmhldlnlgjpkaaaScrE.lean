/-
  What the functions of this group compute on the abstract machine, and the plain laws of it. Part E: conditions stand in each theorem.
-/
import Derived.Test.YtmhldlnlgjpkaaaScrD

/-
  Script: a setting, as the document's.
-/
namespace Go.Proofs.Ytmhldlnlgjpkaaa.scr
open Go.Am
set_option linter.unusedSimpArgs false
set_option linter.unusedVariables false
set_option linter.unusedVariables false
set_option maxRecDepth 20000

theorem bf48 (a b q : Int) : buildF tb1 48 [(0, .agg ⟨[.int .i64 a, .int .i64 b]⟩), (1, .int .i64 q)] = .ok (.agg ⟨[.int .i64 a, .int .i64 b, .int .i64 q, .slice none 0 0]⟩) := by kernel_rfl
theorem bf81a (a k n arm : Int) (w : List UInt8) (wt : Nat) (cut : Bool) (p : Option Addr) (m c : Nat) : buildF tb1 81 [(0, .agg ⟨[.int .i64 a, strOf w, .int .u32 (wt : Int), .int .i64 k, .int .i64 n]⟩), (1, .int .i64 arm), (2, .bool cut), (3, .slice p m c)] = .ok (.agg ⟨[.int .i64 a, strOf w, .int .u32 (wt : Int), .int .i64 k, .int .i64 n, .int .i64 arm, .bool cut, .slice p m c, .slice none 0 0]⟩) := by kernel_rfl
theorem bf92a (a : Int) (p : Option Addr) (m c : Nat) : buildF tb1 92 [(0, .int .i64 a), (1, .slice p m c)] = .ok (.agg ⟨[.int .i64 a, .slice p m c]⟩) := by kernel_rfl
theorem StR.slc {P : Nat → Prop} {A : Mem} {l : List Nat} {x : Value} (h : StR P A l x) : ∃ p n c, x = .slice p n c := by
  rcases h with ⟨rfl, -⟩ | ⟨b, -, -, h⟩
  · exact ⟨_, _, _, rfl⟩
  · rcases h with ⟨rfl, -⟩ | ⟨k, c, rfl, -⟩ <;> exact ⟨_, _, _, rfl⟩
theorem StR.low {P : Nat → Prop} {A : Mem} {l : List Nat} {x : Value} (h : StR P A l x) : StR (fun c => c < A.next) A l x := h.same (Nat.le_refl _) (fun c _ hl => ⟨hl, rfl⟩)
noncomputable def c17 : Code := Try.f17.body.getD .skip
noncomputable def c17b1 : Code := sub c17 [1,1,0,1,0,0]
noncomputable def c17b2 : Code := sub c17b1 [1,0,0,1,1,0,1,0,0]
theorem c17_eq : Try.f17.body = some (.seq (sub c17 [0]) (.seq (sub c17 [1,0]) (.seq (.seq (sub c17 [1,1,0,0]) (.block 0 (.loop c17b1))) (.seq (sub c17 [1,1,1,0]) (sub c17 [1,1,1,1]))))) := by kernel_rfl
theorem c17b1_eq : c17b1 = .seq (sub c17b1 [0]) (.seq (.block 1 (.seq (sub c17b1 [1,0,0,0]) (.seq (sub c17b1 [1,0,0,1,0]) (.seq (.seq (sub c17b1 [1,0,0,1,1,0,0]) (.block 2 (.loop c17b2))) (sub c17b1 [1,0,0,1,1,1]))))) (sub c17b1 [1,1])) := by kernel_rfl
section
variable {A C : Mem} {d : ActG} {xs xo : Value} {t : T Value} {K : Ex → St → Prop}
def asS (A C : Mem) (i : Nat) : List (Nat × Value) := [(1, .pointer (some ⟨A.next, 0, none⟩)), (2, .pointer (some ⟨A.next + 1, 0, none⟩)), (3, .pointer (some ⟨A.next + 2, 0, none⟩)), (4, .int .i64 (i : Int)), (5, .pointer (some ⟨C.next, 0, none⟩)), (6, .pointer (some ⟨C.next + 1, 0, none⟩))]
/-- The openings of an act, as the document's: a new row. -/
def OpA (A C : Mem) (ds : List (Int × List Nat)) (D : Mem) (yo : Value) : Prop := ∃ bo, (yo = .slice none 0 0 ∨ C.next + 2 ≤ bo) ∧ Lst OpP 92 2 bo (fun c => c < A.next ∨ C.next + 2 ≤ c) D ds yo
set_option maxHeartbeats 16000000 in
theorem as_opens {i : Nat} {D0 : Mem} (hE : Ext A C) (hx : OpsG A d.opening xo) (h5 : Vals D0 39 C.next (.var 9) (cellsG d xs xo)) (h6 : Vals D0 81 (C.next + 1) (.var 9) (cellsG d xs (.slice none 0 0))) (hn : D0.next = C.next + 2) (he : Ext C D0) (hp : Sl t (asS A C i))
    (hK : ∀ t' D yo, OpA A C d.opening D yo → Vals D 81 (C.next + 1) (.var 9) (cellsG d xs yo) → Ext C D → C.next + 2 ≤ D.next → Sl t' (asS A C i) → K .nrm ⟨t', 66, [], D, none⟩) :
    W tb1 (.seq (sub c17b1 [1,0,0,1,1,0,0]) (.block 2 (.loop c17b2))) ⟨t, 66, [], D0, none⟩ K := by
  obtain ⟨g1, g2, g3, g4, g5, g6, -⟩ := hp
  obtain ⟨ls, bs, hrow, hll, hbd, hall⟩ := hx
  apply W.seq
  apply W.run 20
  · intro M
    simp (config := { maxSteps := 4000000 }) (disch := first | decide +kernel | omega) only [c17b1, c17, Try.f17, Option.getD_some, sub_seq1, sub_seq0, sub_block, sub_loop, sub_nil, exec_region, runOps_cons, opF_assign, ev_int, putT_some, runOps_nil, R.ok_bind]
    with_reducible rfl
  apply W.block
  refine W.up d.opening.length (fun k t D => ∃ yo, OpA A C (d.opening.take k) D yo ∧ Vals D 39 C.next (.var 9) (cellsG d xs xo) ∧ Vals D 81 (C.next + 1) (.var 9) (cellsG d xs yo) ∧ Ext C D ∧ C.next + 2 ≤ D.next ∧ Sl t (asS A C i ++ [(7, .int .i64 (k : Int))])) ?_ (Nat.zero_le _) ⟨.slice none 0 0, ⟨0, .inl rfl, Lst.nil⟩, h5, h6, he, by omega, ?_⟩
  · rintro k t D hk ⟨yo, ⟨bo, hbo, hy⟩, v5, v6, hED, hDn, g1, g2, g3, g4, g5, g6, g7, -⟩
    have hAD := hE.trans hED
    have hAC := hE.n
    have hrD := hrow.same hAD.n (fun hl => hAD.g _ hl)
    have k5 : loadF tb1 D.get 37 (.pointer (some ⟨C.next, 8, none⟩)) = .ok xo := load_vals und37 rfl v5 rfl
    have lx := hrD.len (tb := tb1) (t := 37) und37
    rw [hll] at lx
    by_cases hlt : k < d.opening.length
    · have hli : k < ls.length := by omega
      obtain ⟨zs, hz1, hz2, hz3⟩ := hall k d.opening[k] ls[k] (List.getElem?_eq_getElem hlt) (List.getElem?_eq_getElem hli)
      have ix := hrD.idx (tb := tb1) (t := 37) (t' := 41) (kd := .i64) (i := k) und37 size41 hli
      have e0 : ls[k]? = some [.int .i64 d.opening[k].1, zs] := by rw [List.getElem?_eq_getElem hli, hz1]
      have m0 := hrD.load (tb := tb1) (t := 3) (i := k) (j := 0) und3 rfl e0 rfl (by omega)
      rw [Nat.add_zero] at m0
      have m1 := hrD.load (tb := tb1) (t := 36) (i := k) (j := 1) und36 rfl e0 rfl (by omega)
      obtain ⟨zp, zn, zc, rfl⟩ := hz2.slc
      have k6 : loadF tb1 D.get 79 (.pointer (some ⟨C.next + 1, 8, none⟩)) = .ok yo := load_vals und79 rfl v6 rfl
      have hlt2 := hy.lt
      have hop : OpP (fun c => (c < A.next ∨ C.next + 2 ≤ c) ∧ (yo = .slice none 0 0 ∨ c ≠ bo)) D d.opening[k] [.int .i64 d.opening[k].1, .slice zp zn zc] := ⟨_, rfl, hz2.low.same hAD.n (fun c hc hcl => ⟨⟨.inl hc, by
        rcases hbo with h | h
        · exact .inl h
        · exact .inr (by omega)⟩, hAD.g c hcl⟩), hz3⟩
      obtain ⟨yo', G, happ, hy', hnG, hfG⟩ := hy.push OpP.mono OpP.cells und79 zc92 ty92 (by omega) (by omega) (by rw [List.length_take]; omega) hop
      have hfr : ∀ y, y < C.next + 2 → G.get y = D.get y := fun y hy => hfG y (fun e => hbo.resolve_right (by omega)) (by omega)
      obtain ⟨H, hst, v6', hnH, hfH⟩ := store_vals (tb := tb1) (t := 79) (o := 8) (v := yo') size79 (v6.same (hfr _ (by omega))) (by simp [cellsG]) hy'.cells.1 hy'.cells.2
      apply W.run 20
      · intro M
        simp (config := { maxSteps := 4000000 }) (disch := first | decide +kernel | omega) only [c17b2, c17b1, c17, Try.f17, Option.getD_some, sub_seq1, sub_seq0, sub_block, sub_loop, sub_nil, exec_seq, exec_region, runOps_cons, opF_move, ev_tmp, g7, evG_some, putT_some, opF_fieldAddr, T.get_set, Nat.reduceEqDiff, g5, if_false, opF_load, if_true, opF_len, evs, R.ok_bind, opF_ari, runOps_nil, fa39_4, k5, lx, binF_int, op_lssI, cast_lt, hlt, decide_true, exec_cond, exec_skip, exec_exit, exec_block, exec_draw, g6, opF_indexAddr, opF_build, evp, opF_buildSlice, opF_builtin, opF_store, putT_none, fa81_4, builtin_append, ix, fa41_1', m1, fa41_0', m0, bf92a, bs79, at_slc, k6, happ, hst, ev_int, opF_assign, op_add_i64]
        with_reducible rfl
      refine ⟨hlt, _, _, rfl, yo', ⟨D.next + 1, .inr (by omega), ?_⟩, ?_, v6', ?_, by omega, ?_⟩
      · rw [List.take_succ_eq_append_getElem hlt]
        exact hy'.same OpP.mono (by omega) (.inr (fun _ => hfH _ (by omega))) (fun c hc hcl _ => ⟨hc, hfH c (by omega)⟩)
      · exact v5.same (by rw [hfH _ (by omega), hfr _ (by omega)])
      · exact ⟨by omega, fun y hy => by rw [hfH _ (by omega), hfr _ (by omega), hED.g y hy]⟩
      · unfold asS; simp only [Sl_cons, Sl_nil, T.get_set, T.puts_cons, T.puts_nil, Nat.reduceEqDiff, Nat.reduceAdd, if_true, if_false, and_true, true_and, List.cons_append, List.nil_append, g1, g2, g3, g4, g5, g6]
    · have hin : k = d.opening.length := by omega
      subst hin
      rw [List.take_length] at hy
      apply W.run 20
      · intro M
        simp (config := { maxSteps := 4000000 }) (disch := first | decide +kernel | omega) only [c17b2, c17b1, c17, Try.f17, Option.getD_some, sub_seq1, sub_seq0, sub_block, sub_loop, sub_nil, exec_seq, exec_region, runOps_cons, opF_move, ev_tmp, g7, evG_some, putT_some, opF_fieldAddr, T.get_set, Nat.reduceEqDiff, g5, if_false, opF_load, if_true, opF_len, evs, R.ok_bind, opF_ari, runOps_nil, fa39_4, k5, lx, binF_int, op_lssI, cast_lt, Nat.lt_irrefl, decide_false, exec_cond, exec_skip, exec_exit, exec_block, exec_draw]
        with_reducible rfl
      refine hK _ D yo ⟨bo, hbo, hy⟩ v6 hED hDn ?_
      unfold asS; simp only [Sl_cons, Sl_nil, T.get_set, T.puts_cons, T.puts_nil, Nat.reduceEqDiff, Nat.reduceAdd, if_true, if_false, and_true, true_and, g1, g2, g3, g4, g5, g6]
  · unfold asS; simp only [Sl_cons, Sl_nil, T.get_set, T.puts_cons, T.puts_nil, Nat.reduceEqDiff, Nat.reduceAdd, if_true, if_false, and_true, true_and, List.cons_append, List.nil_append, g1, g2, g3, g4, g5, g6]
end
set_option maxHeartbeats 32000000 in
theorem run_as {A : Mem} {s : SetG} {l : List Value} (h : SetR A s l) : ∃ l' A', Ans tb1 17 [.agg ⟨l⟩] A (.agg ⟨l'⟩) A' ∧ SetP (fun _ => True) A' s l' ∧ Ext A A' := by
  obtain ⟨v, A', ha, l', hv, h1, h2⟩ : ∃ v A', Ans tb1 17 [.agg ⟨l⟩] A v A' ∧ ∃ l', v = .agg ⟨l'⟩ ∧ SetP (fun _ => True) A' s l' ∧ Ext A A' := by
    obtain ⟨xa, rfl, ka⟩ := h
    have kac := ka.cells
    refine ans_of_W (fn_at Try.func17) c17_eq (by rw [Try.ntmps17]; simp) (by kernel_rfl) (by kernel_rfl) ?_
    have v0 : Vals (A.alloc (rowOb 28 (cellsS s xa))) 28 A.next (.var 4) (cellsS s xa) := Go.Am.vals_new A 28 _
    have n0 : (A.alloc (rowOb 28 (cellsS s xa))).next = A.next + 1 := next_alloc _ _
    have E0 := Ext.alloc A (rowOb 28 (cellsS s xa))
    have v1 : Vals ((A.alloc (rowOb 28 (cellsS s xa))).alloc (rowOb 48 [.int .i64 0, .int .i64 0, .int .i64 0, .slice none 0 0])) 48 (A.alloc (rowOb 28 (cellsS s xa))).next (.var 4) [.int .i64 0, .int .i64 0, .int .i64 0, .slice none 0 0] := Go.Am.vals_new _ 48 _
    have n1 : ((A.alloc (rowOb 28 (cellsS s xa))).alloc (rowOb 48 [.int .i64 0, .int .i64 0, .int .i64 0, .slice none 0 0])).next = A.next + 2 := by rw [next_alloc, n0]
    have E1 := Ext.alloc (A.alloc (rowOb 28 (cellsS s xa))) (rowOb 48 [.int .i64 0, .int .i64 0, .int .i64 0, .slice none 0 0])
    rw [n0] at v1
    apply W.seq
    apply W.run 20
    · intro M
      simp (config := { maxSteps := 4000000 }) (disch := first | decide +kernel | omega) only [c17, Try.f17, Option.getD_some, sub_seq0, sub_nil, T.puts_cons, Nat.reduceAdd, T.puts_nil, exec_region, runOps_cons, opF_box, ev_tmp, T.get_set, T.get_e, if_true, evG_some, at_ptr, putT_some, opF_alloc, zero48, runOps_nil, R.ok_bind, cells_agg, n0]
      with_reducible rfl
    have v0' : Vals ((A.alloc (rowOb 28 (cellsS s xa))).alloc (rowOb 48 [.int .i64 0, .int .i64 0, .int .i64 0, .slice none 0 0])) 28 A.next (.var 4) (cellsS s xa) := v0.same (E1.g _ (by omega))
    have E01 := E0.trans E1
    revert v0' v1 n1 E01
    generalize (A.alloc (rowOb 28 (cellsS s xa))).alloc (rowOb 48 [.int .i64 0, .int .i64 0, .int .i64 0, .slice none 0 0]) = B
    intro v1 n1 v0' E01
    obtain ⟨d25, hd1, hd2⟩ := und25
    have a0 := load_part (tb := tb1) (t := 25) (o := 0) (n := 2) hd1 hd2 size25 v0' (by show 2 ≤ 4; omega)
    rw [show ((cellsS s xa).drop 0).take 2 = [.int .i64 s.wal, .int .i64 s.fan] from rfl] at a0
    have a1 : loadF tb1 B.get 3 (.pointer (some ⟨A.next, 2, none⟩)) = .ok (.int .i64 s.quota) := load_vals und3 rfl v0' rfl
    have w0 : Vals (B.alloc (rowOb 48 [.int .i64 0, .int .i64 0, .int .i64 0, .slice none 0 0])) 48 B.next (.var 4) [.int .i64 0, .int .i64 0, .int .i64 0, .slice none 0 0] := Go.Am.vals_new B 48 _
    have EB := Ext.alloc B (rowOb 48 [.int .i64 0, .int .i64 0, .int .i64 0, .slice none 0 0])
    have nB := next_alloc B (rowOb 48 [.int .i64 0, .int .i64 0, .int .i64 0, .slice none 0 0])
    obtain ⟨B1, hst, w1, nB1, fB1⟩ := store_all (tb := tb1) (t := 48) (l' := cellsS s (.slice none 0 0)) (by rw [size48]; rfl) w0 rfl (by simp) (fun v hv => by
      simp only [cellsS, List.mem_cons, List.not_mem_nil, or_false] at hv
      rcases hv with rfl | rfl | rfl | rfl <;> rfl)
    have EB1 : Ext B B1 := EB.put (b := B.next) (Nat.le_refl _) nB1 fB1
    have hst' : storeF tb1 (B.alloc (rowOb 48 [.int .i64 0, .int .i64 0, .int .i64 0, .slice none 0 0])) 48 (.pointer (some ⟨B.next, 0, none⟩)) (.agg ⟨[.int .i64 s.wal, .int .i64 s.fan, .int .i64 s.quota, .slice none 0 0]⟩) = .ok B1 := hst
    apply W.seq
    apply W.run 20
    · intro M
      simp (config := { maxSteps := 4000000 }) (disch := first | decide +kernel | omega) only [c17, Try.f17, Option.getD_some, sub_seq1, sub_seq0, sub_nil, exec_region, runOps_cons, opF_fieldAddr, ev_tmp, T.get_set, Nat.reduceEqDiff, T.get_e, if_false, if_true, evG_some, putT_some, opF_load, opF_build, evp, R.ok_bind, opF_alloc, zero48, at_ptr, opF_store, putT_none, runOps_nil, cells_agg, fa28_1, a1, fa28_0, a0, bf48, hst']
      with_reducible rfl
    rw [n1] at w1 nB
    have E1' := E01.trans EB1
    apply W.seq
    apply W.seq
    apply W.run 20
    · intro M
      simp (config := { maxSteps := 4000000 }) (disch := first | decide +kernel | omega) only [c17, Try.f17, Option.getD_some, sub_seq1, sub_seq0, sub_nil, exec_region, runOps_cons, opF_assign, ev_int, putT_some, runOps_nil, R.ok_bind]
      with_reducible rfl
    apply W.block
    refine W.up s.acts.length (fun i t C => ∃ y bA, Ext A C ∧ A.next + 3 ≤ C.next ∧ Vals C 28 A.next (.var 4) (cellsS s xa) ∧ Vals C 48 (A.next + 1) (.var 4) [.int .i64 0, .int .i64 0, .int .i64 0, .slice none 0 0] ∧ Vals C 48 (A.next + 2) (.var 4) (cellsS s y) ∧ (y = .slice none 0 0 ∨ A.next + 3 ≤ bA) ∧ Lst ActP 81 9 bA (fun c => c < A.next ∨ A.next + 3 ≤ c) C (s.acts.take i) y ∧
      Sl t [(1, .pointer (some ⟨A.next, 0, none⟩)), (2, .pointer (some ⟨A.next + 1, 0, none⟩)), (3, .pointer (some ⟨A.next + 2, 0, none⟩)), (4, .int .i64 (i : Int))]) ?_ (Nat.zero_le _) ⟨.slice none 0 0, 0, E1', by omega, v0'.same (EB1.g _ (by omega)), v1.same (EB1.g _ (by omega)), w1, .inl rfl, Lst.nil, ?_⟩
    · rintro i t C hi ⟨y, bA, hE, hCn, u1, u2, u3, hb, hy, g1, g2, g3, g4, -⟩
      have lC : loadF tb1 C.get 26 (.pointer (some ⟨A.next, 3, none⟩)) = .ok xa := load_vals und26 rfl u1 rfl
      have kaC := ka.ext hE
      have lx := kaC.len
      have hac : s.acts.length ≤ 1000 := by obtain ⟨_, _, _, _, h, _⟩ := ka; exact h
      rw [c17b1_eq]
      apply W.seq
      by_cases hlt : i < s.acts.length
      · obtain ⟨ls, bs, hrow, hll, -, hall⟩ := ka
        have hrC := hrow.same hE.n (fun hl => hE.g _ hl)
        have hli : i < ls.length := by omega
        have hact := hall i s.acts[i] ls[i] (List.getElem?_eq_getElem hlt) (List.getElem?_eq_getElem hli)
        have ix := hrC.idx (tb := tb1) (t := 26) (t' := 39) (kd := .i64) (i := i) und26 size39 hli
        obtain ⟨d39, hq1, hq2⟩ := und39
        have lld := hrC.load_all (tb := tb1) (t := 39) hq1 hq2 size39 (List.getElem?_eq_getElem hli)
        have hcl := hact.cells
        generalize ls[i] = la at hact lld hcl
        obtain ⟨xs, xo, rfl, k2, k3, k4⟩ := hact
        obtain ⟨zp, zn, zc, rfl⟩ := k2.slc
        have r0 : Vals (C.alloc (rowOb 39 zero9)) 39 C.next (.var 9) zero9 := Go.Am.vals_new C 39 _
        have nr0 : (C.alloc (rowOb 39 zero9)).next = C.next + 1 := next_alloc _ _
        obtain ⟨C1, st1, r1, nC1, fC1⟩ := store_all (tb := tb1) (t := 39) (l' := cellsG s.acts[i] (.slice zp zn zc) xo) (by rw [size39]; rfl) r0 (by rw [hcl.1]; rfl) (by simp [zero9]) hcl.2
        have eC1 : Ext C C1 := (Ext.alloc C _).put (b := C.next) (Nat.le_refl _) nC1 fC1
        have st1' : storeF tb1 (C.alloc (rowOb 39 [.int .i64 0, .string ⟨#[]⟩, .int .u32 0, .int .i64 0, .int .i64 0, .int .i64 0, .bool false, .slice none 0 0, .slice none 0 0])) 39 (.pointer (some ⟨C.next, 0, none⟩)) (.agg ⟨cellsG s.acts[i] (.slice zp zn zc) xo⟩) = .ok C1 := st1
        have r2 : Vals (C1.alloc (rowOb 81 zero9)) 81 C1.next (.var 9) zero9 := Go.Am.vals_new C1 81 _
        have nr2 : (C1.alloc (rowOb 81 zero9)).next = C1.next + 1 := next_alloc _ _
        obtain ⟨C2, st2, r3, nC2, fC2⟩ := store_all (tb := tb1) (t := 81) (l' := cellsG s.acts[i] (.slice zp zn zc) (.slice none 0 0)) (by rw [size81]; rfl) r2 rfl (by simp [zero9]) (fun v hv => by
          simp only [cellsG, List.mem_cons, List.not_mem_nil, or_false] at hv
          rcases hv with rfl | rfl | rfl | rfl | rfl | rfl | rfl | rfl | rfl <;> rfl)
        have eC2 : Ext C1 C2 := (Ext.alloc C1 _).put (b := C1.next) (Nat.le_refl _) nC2 fC2
        have st2' : storeF tb1 (C1.alloc (rowOb 81 [.int .i64 0, .string ⟨#[]⟩, .int .u32 0, .int .i64 0, .int .i64 0, .int .i64 0, .bool false, .slice none 0 0, .slice none 0 0])) 81 (.pointer (some ⟨C1.next, 0, none⟩)) (.agg ⟨[.int .i64 s.acts[i].kind, strOf s.acts[i].word, .int .u32 (s.acts[i].weight : Int), .int .i64 s.acts[i].k, .int .i64 s.acts[i].n, .int .i64 s.acts[i].arm, .bool s.acts[i].cut, .slice zp zn zc, .slice none 0 0]⟩) = .ok C2 := st2
        obtain ⟨d35, hd1, hd2⟩ := und35
        have p0 := load_part (tb := tb1) (t := 35) (o := 0) (n := 5) hd1 hd2 size35 r1 (by show 5 ≤ 9; omega)
        rw [show ((cellsG s.acts[i] (.slice zp zn zc) xo).drop 0).take 5 = [.int .i64 s.acts[i].kind, strOf s.acts[i].word, .int .u32 (s.acts[i].weight : Int), .int .i64 s.acts[i].k, .int .i64 s.acts[i].n] from rfl] at p0
        have p1 : loadF tb1 C1.get 3 (.pointer (some ⟨C.next, 5, none⟩)) = .ok (.int .i64 s.acts[i].arm) := load_vals und3 rfl r1 rfl
        have p2 : loadF tb1 C1.get 4 (.pointer (some ⟨C.next, 6, none⟩)) = .ok (.bool s.acts[i].cut) := load_vals und4 rfl r1 rfl
        have p3 : loadF tb1 C1.get 36 (.pointer (some ⟨C.next, 7, none⟩)) = .ok (.slice zp zn zc) := load_vals und36 rfl r1 rfl
        have nC1' : C1.next = C.next + 1 := by rw [nC1, nr0]
        apply W.run 20
        · intro M
          simp (config := { maxSteps := 4000000 }) (disch := first | decide +kernel | omega) only [c17b1, c17, Try.f17, Option.getD_some, sub_seq1, sub_seq0, sub_block, sub_loop, sub_nil, exec_seq, exec_region, runOps_cons, opF_move, ev_tmp, g4, evG_some, putT_some, opF_fieldAddr, T.get_set, Nat.reduceEqDiff, g1, if_false, opF_load, if_true, opF_len, evs, R.ok_bind, opF_ari, runOps_nil, fa28_2, lC, lx, binF_int, op_lssI, cast_lt, hlt, decide_true, exec_cond, exec_skip, exec_exit]
          with_reducible rfl
        apply W.seq
        apply W.block
        apply W.seq
        apply W.run 20
        · intro M
          simp (config := { maxSteps := 4000000 }) (disch := first | decide +kernel | omega) only [c17b1, c17, Try.f17, Option.getD_some, sub_seq1, sub_seq0, sub_block, sub_loop, sub_nil, exec_region, runOps_cons, opF_fieldAddr, ev_tmp, T.get_set, Nat.reduceEqDiff, g1, if_false, evG_some, putT_some, opF_load, if_true, opF_move, g4, opF_indexAddr, opF_alloc, zero39, at_ptr, opF_store, putT_none, runOps_nil, R.ok_bind, cells_agg, fa28_2, lC, ix, lld, st1']
          with_reducible rfl
        apply W.seq
        apply W.run 20
        · intro M
          simp (config := { maxSteps := 4000000 }) (disch := first | decide +kernel | omega) only [c17b1, c17, Try.f17, Option.getD_some, sub_seq1, sub_seq0, sub_block, sub_loop, sub_nil, exec_region, runOps_cons, opF_fieldAddr, ev_tmp, T.get_set, Nat.reduceEqDiff, if_false, if_true, evG_some, putT_some, opF_load, opF_build, evp, R.ok_bind, opF_alloc, zero81, at_ptr, opF_store, putT_none, runOps_nil, cells_agg, fa39_3, p3, fa39_2, p2, fa39_1, p1, fa39_0, p0, bf81a, st2']
          with_reducible rfl
        rw [nC1'] at r3
        apply W.seq
        refine as_opens (A := A) (C := C) (d := s.acts[i]) (xs := .slice zp zn zc) (xo := xo) (i := i) hE k4 (r1.same (eC2.g _ (by omega))) r3 (by omega) (eC1.trans eC2) ?_ ?_
        · unfold asS; simp only [Sl_cons, Sl_nil, T.get_set, T.puts_cons, T.puts_nil, Nat.reduceEqDiff, Nat.reduceAdd, if_true, if_false, and_true, true_and, g1, g2, g3, g4, nC1']
        rintro t' D yo ⟨bo, hbo, hyo⟩ v6 hED hDn ⟨q1, q2, q3, q4, q5, q6, -⟩
        have hAD := hE.trans hED
        obtain ⟨d81, hw1, hw2⟩ := und81
        have l6 := Go.Am.load_all (tb := tb1) (t := 81) hw1 hw2 (by rw [size81]; rfl) v6
        have u3D := u3.same (hED.g _ (by omega))
        have lo : loadF tb1 D.get 46 (.pointer (some ⟨A.next + 2, 3, none⟩)) = .ok y := load_vals und46 rfl u3D rfl
        have hlt3 := hy.lt
        have hyD : Lst ActP 81 9 bA (fun c => c < A.next ∨ A.next + 3 ≤ c) D (s.acts.take i) y := hy.same ActP.mono hED.n (.inr (fun hl => hED.g _ hl)) (fun c hc hcl _ => ⟨hc, hED.g c hcl⟩)
        have hkn : ∀ c, (c < A.next ∨ C.next + 2 ≤ c) → (c < A.next ∨ A.next + 3 ≤ c) ∧ (y = .slice none 0 0 ∨ c ≠ bA) := fun c hc => ⟨by omega, by
          rcases hb with h | h
          · exact .inl h
          · rcases hlt3 with h3 | h3
            · exact .inl h3
            · exact .inr (by omega)⟩
        have hact2 : ActP (fun c => (c < A.next ∨ A.next + 3 ≤ c) ∧ (y = .slice none 0 0 ∨ c ≠ bA)) D s.acts[i] (cellsG s.acts[i] (.slice zp zn zc) yo) := by
          refine ⟨_, yo, rfl, k2.low.same hAD.n (fun c hc hcl => ⟨hkn c (.inl hc), hAD.g c hcl⟩), k3, bo, ?_, ?_, ?_⟩
          · rcases hbo with h | h
            · exact .inl h
            · exact .inr (hkn bo (.inr h))
          · obtain ⟨_, _, _, _, h, _⟩ := k4; exact h
          · exact hyo.same OpP.mono (Nat.le_refl _) (.inr (fun _ => rfl)) (fun c hc hcl _ => ⟨hkn c hc, rfl⟩)
        obtain ⟨y', G, happ, hy', hnG, hfG⟩ := hyD.push ActP.mono ActP.cells und46 zc81 ty81 (by omega) (by omega) (by rw [List.length_take]; omega) hact2
        have hfr : ∀ z, z < A.next + 3 → G.get z = D.get z := fun z hz => hfG z (fun e => hb.resolve_right (by omega)) (by omega)
        obtain ⟨H, hstH, u3', hnH, hfH⟩ := store_vals (tb := tb1) (t := 46) (o := 3) (v := y') size46 (u3D.same (hfr _ (by omega))) (by simp [cellsS]) hy'.cells.1 hy'.cells.2
        have bsl : buildSliceF tb1 46 1 [(0, .agg ⟨cellsG s.acts[i] (.slice zp zn zc) yo⟩)] = .ok (rowOb 81 (cellsG s.acts[i] (.slice zp zn zc) yo), .slc 1 2) := bs46 _ _ _ _ _ _ _ _ _
        show W tb1 _ _ _
        apply W.run 20
        · intro M
          simp (config := { maxSteps := 4000000 }) (disch := first | decide +kernel | omega) only [c17b1, c17, Try.f17, Option.getD_some, sub_seq1, sub_seq0, sub_block, sub_loop, sub_nil, exec_region, runOps_cons, opF_fieldAddr, ev_tmp, q3, evG_some, putT_some, opF_load, T.get_set, if_true, Nat.reduceEqDiff, q6, if_false, opF_buildSlice, evp, R.ok_bind, opF_builtin, evs, opF_store, putT_none, runOps_nil, fa48_2, builtin_append, l6, bsl, at_slc, lo, happ, hstH]
          with_reducible rfl
        show W tb1 _ _ _
        apply W.run 20
        · intro M
          simp (config := { maxSteps := 4000000 }) (disch := first | decide +kernel | omega) only [c17b1, c17, Try.f17, Option.getD_some, sub_seq1, sub_seq0, sub_block, sub_loop, sub_nil, exec_region, runOps_cons, opF_move, ev_tmp, T.get_set, Nat.reduceEqDiff, q4, if_false, evG_some, putT_some, opF_ari, if_true, ev_int, opF_assign, runOps_nil, R.ok_bind, binF_int, op_add_i64]
          with_reducible rfl
        refine ⟨hlt, _, _, rfl, y', D.next + 1, ⟨by omega, fun z hz => by rw [hfH z (by omega), hfr z (by omega), hAD.g z hz]⟩, by omega, ?_, ?_, u3', .inr (by omega), ?_, ?_⟩
        · exact u1.same (by rw [hfH _ (by omega), hfr _ (by omega), hED.g _ (by omega)])
        · exact u2.same (by rw [hfH _ (by omega), hfr _ (by omega), hED.g _ (by omega)])
        · rw [List.take_succ_eq_append_getElem hlt]
          exact hy'.same ActP.mono (by omega) (.inr (fun _ => hfH _ (by omega))) (fun c hc hcl _ => ⟨hc, hfH c (by omega)⟩)
        · simp only [Sl_cons, Sl_nil, T.get_set, T.puts_cons, T.puts_nil, Nat.reduceEqDiff, Nat.reduceAdd, if_true, if_false, and_true, true_and, q1, q2, q3]
      · have hin : i = s.acts.length := by omega
        subst hin
        rw [List.take_length] at hy
        obtain ⟨d48, hw1, hw2⟩ := und48
        have l3 := Go.Am.load_all (tb := tb1) (t := 48) hw1 hw2 (by rw [size48]; rfl) u3
        have hyc := hy.cells
        obtain ⟨D, stD, vD, nD, fD⟩ := store_all (tb := tb1) (t := 48) (l' := cellsS s y) (by rw [size48]; rfl) u2 rfl (by simp) (fun v hv => by
          simp only [cellsS, List.mem_cons, List.not_mem_nil, or_false] at hv
          rcases hv with rfl | rfl | rfl | rfl <;> first | rfl | exact hyc.2)
        have lD := Go.Am.load_all (tb := tb1) (t := 48) hw1 hw2 (by rw [size48]; rfl) vD
        apply W.run 20
        · intro M
          simp (config := { maxSteps := 4000000 }) (disch := first | decide +kernel | omega) only [c17b1, c17, Try.f17, Option.getD_some, sub_seq1, sub_seq0, sub_block, sub_loop, sub_nil, exec_seq, exec_region, runOps_cons, opF_move, ev_tmp, g4, evG_some, putT_some, opF_fieldAddr, T.get_set, Nat.reduceEqDiff, g1, if_false, opF_load, if_true, opF_len, evs, R.ok_bind, opF_ari, runOps_nil, fa28_2, lC, lx, binF_int, op_lssI, cast_lt, Nat.lt_irrefl, decide_false, exec_cond, exec_skip, exec_exit]
          with_reducible rfl
        show W tb1 _ _ _
        apply W.seq
        apply W.run 20
        · intro M
          simp (config := { maxSteps := 4000000 }) (disch := first | decide +kernel | omega) only [c17, Try.f17, Option.getD_some, sub_seq1, sub_seq0, sub_nil, exec_region, runOps_cons, opF_load, ev_tmp, T.get_set, Nat.reduceEqDiff, g3, if_false, evG_some, putT_some, opF_store, g2, if_true, putT_none, runOps_nil, R.ok_bind, l3, stD]
          with_reducible rfl
        apply W.run 20
        · intro M
          simp (config := { maxSteps := 4000000 }) (disch := first | decide +kernel | omega) only [c17, Try.f17, Option.getD_some, sub_seq1, sub_nil, exec_ret]
          with_reducible rfl
        refine ⟨.inr rfl, D, [.agg ⟨cellsS s y⟩], rfl, ?_, cellsS s y, rfl, ⟨y, rfl, bA, ?_, hac, ?_⟩, ⟨by have := hE.n; omega, fun z hz => by rw [fD z (by omega), hE.g z hz]⟩⟩
        · simp only [Try.f17, resF, ev_tmp, T.get_set, Nat.reduceEqDiff, if_true, if_false, evG_some, R.ok_bind, g2, lD]
        · exact .inr trivial
        · exact hy.same ActP.mono (by omega) (hb.imp id (fun hb _ => fD _ (by omega))) (fun c hc hcl _ => ⟨trivial, fD c (by omega)⟩)
    · simp only [Sl_cons, Sl_nil, T.get_set, T.puts_cons, T.puts_nil, Nat.reduceEqDiff, Nat.reduceAdd, if_true, if_false, and_true, true_and, n1]
  subst hv
  exact ⟨l', A', ha, h1, h2⟩
end Go.Proofs.Ytmhldlnlgjpkaaa.scr

/-
  Script: what was read is laid by the document as by the program.
-/
namespace Go.Proofs.Ytmhldlnlgjpkaaa.scr
open Go.Am
set_option linter.unusedSimpArgs false
set_option linter.unusedVariables false
set_option linter.unusedVariables false
set_option maxRecDepth 20000

theorem layOk_of {l : List Nat} (h : ∀ v ∈ l, NumOk v) : layOk l = true := by
  unfold layOk
  rw [List.all_eq_true]
  intro v hv
  unfold numOk
  rcases h v hv with h | h <;> simp [h]
theorem spellOk_of {w : List UInt8} (h : WordOk w) : spellOk w = true := by
  unfold spellOk
  rcases h with h | ⟨h1, h2⟩
  · rw [show longW w = true from decide_eq_true h, Bool.true_or]
  · have e : w.all letOk = true := by
      rw [List.all_eq_true]
      intro c hc
      unfold letOk
      rcases h2 c hc with h | h
      · simp [h]
      · have : c.toNat ≤ 100 := by omega
        simp [h.1, this]
    rw [e, decide_eq_true h1, Bool.and_self, Bool.or_true]
theorem opNat_back (l : List (Nat × List Nat)) : (l.map opToG).map opNat = l := by
  rw [List.map_map]
  conv => rhs; rw [← List.map_id l]
  rfl
open Classical in
theorem putOk_toG {d : ActD} (h : ActOk2 d) : putOk d.toG = true ∧ encG d.toG = encA d := by
  have h0 := h.ok
  have hk : d.toG.kind.toNat = d.kind := by show ((d.kind : Nat) : Int).toNat = _; omega
  have ha : d.toG.arm.toNat = d.arm := by show ((d.arm : Nat) : Int).toNat = _; omega
  have hop : d.toG.opening.length = d.opening.length := List.length_map _
  have hh : headOk d.toG := by
    have e1 := h0.kind
    have e2 := h0.arm
    have e3 := h0.stays
    have e4 := h0.opening
    refine ⟨⟨?_, ?_⟩, ⟨?_, ?_⟩, e3, by rw [hop]; exact e4⟩
    · show (0 : Int) ≤ ((d.kind : Nat) : Int); omega
    · show ((d.kind : Nat) : Int) ≤ 9; omega
    · show (0 : Int) ≤ ((d.arm : Nat) : Int); omega
    · show ((d.arm : Nat) : Int) ≤ 256; omega
  have hs : spellOk d.toG.word = true := spellOk_of h.word
  have hw : weightOk d.toG.kind.toNat d.toG.weight := by
    rw [hk]
    unfold weightOk
    split
    · rename_i hx; exact h.w1 hx
    · rename_i hx; exact h.w0 (by simpa using hx)
  have hq : askOk d.toG.kind.toNat d.toG.k d.toG.n := by
    rw [hk]
    unfold askOk
    split
    · exact ⟨⟨h0.k1, h0.k2⟩, h0.n1, h0.n2⟩
    · rename_i hx; exact h.k0 hx
  have ht : tailOk (d.toG.cut || decide (0 < d.toG.arm.toNat)) d.toG = true := by
    rw [ha]
    unfold tailOk
    split
    · rw [show layOk d.toG.stays = true from layOk_of h.stays, Bool.true_and, List.all_eq_true]
      intro p hp
      obtain ⟨o, ho, rfl⟩ := List.mem_map.1 hp
      obtain ⟨f1, f2, f3⟩ := h0.each o ho
      unfold openOk
      rw [show layOk (opToG o).2 = true from layOk_of (h.opening o ho), Bool.true_and]
      apply decide_eq_true
      refine ⟨⟨?_, ?_⟩, f3⟩
      · show (1 : Int) ≤ ((o.1 : Nat) : Int); omega
      · show ((o.1 : Nat) : Int) ≤ 256; omega
    · rename_i hx
      have hx' : d.cut = false ∧ d.arm = 0 := by
        simp only [Bool.or_eq_true, decide_eq_true_eq, not_or, Bool.not_eq_true, Nat.not_lt, Nat.le_zero] at hx
        exact hx
      obtain ⟨f1, f2⟩ := h0.none hx'.1 hx'.2
      rw [hop]
      show (decide (d.stays.length = 0) && _) = true
      rw [decide_eq_true f1, decide_eq_true f2]; rfl
  refine ⟨by unfold putOk; rw [decide_eq_true hh, hs, decide_eq_true hw, decide_eq_true hq, ht]; rfl, ?_⟩
  unfold encG encA
  rw [hk, ha]
  have e1 : (d.toG.opening.map opNat) = d.opening := opNat_back _
  rw [e1]
  have e2 : weightB d.kind d.toG.weight ++ askB d.kind d.toG.k d.toG.n = encM d.kind (d.weight, d.k, d.n) := by
    unfold weightB askB encM
    show (if weighs d.kind = true then [UInt8.ofNat (if d.weight = 4294967295 then 255 else d.weight)] else []) ++ (if d.kind = 7 then [UInt8.ofNat ((d.k + 1) + 6 * (d.n + 1)).toNat] else []) = _
    split
    · rename_i hx
      have : d.kind ≠ 7 := by intro e; rw [e] at hx; cases hx
      rw [if_neg this, List.append_nil]
    · rw [List.nil_append]
  show [UInt8.ofNat (kindB d.kind d.arm d.cut)] ++ encR d.arm ++ encW d.word ++ weightB d.kind d.toG.weight ++ askB d.kind d.toG.k d.toG.n ++ encS (d.cut || decide (0 < d.arm)) (d.stays, d.opening) = _
  rw [← e2]
  unfold kindB
  simp only [List.append_assoc, List.singleton_append, List.cons_append, List.nil_append]
theorem encGs_toG {l : List ActD} (h : ∀ d ∈ l, ActOk2 d) : (l.map ActD.toG).all putOk = true ∧ encGs (l.map ActD.toG) = encAs l := by
  induction l with
  | nil => exact ⟨rfl, rfl⟩
  | cons d l ih =>
    obtain ⟨h1, h2⟩ := ih fun d hd => h d (List.mem_cons_of_mem _ hd)
    obtain ⟨h3, h4⟩ := putOk_toG (h d List.mem_cons_self)
    rw [List.map_cons, List.all_cons, h1, h3]
    exact ⟨rfl, by rw [encGs, encAs, h2, h4]⟩
open Classical in
theorem putSOk_set (b : List UInt8) : putSOk (setD b) = true ∧ headG (setD b) ++ encGs (setD b).acts = encB b := by
  obtain ⟨h1, h2⟩ := encGs_toG (actsD_ok2 60 (restD b))
  have hl := setD_len b
  have i0 := nx_lt b
  have i2 := nx_lt b.tail.tail
  have i3 := nx_lt b.tail.tail.tail
  have hh : headSOk (setD b) := by
    unfold headSOk setD
    simp only [List.length_map]
    have := actsD_len 60 (restD b)
    omega
  refine ⟨by unfold putSOk; rw [decide_eq_true hh]; exact h1, ?_⟩
  show headG (setD b) ++ encGs ((actsD 60 (restD b)).1.map ActD.toG) = encB b
  rw [h2]
  have e : headG (setD b) = headB (1 + nx b) (2 + nx b.tail % 8) (nx b.tail.tail + 256 * nx b.tail.tail.tail) := by
    unfold headG headB setD
    simp only [Int.toNat_natCast]
    rfl
  rw [e, headB_eq]; rfl
theorem setD_words (b : List UInt8) : ∀ d ∈ (setD b).acts, d.word.length ≤ 1000 := fun d hd => by
  obtain ⟨e, he, rfl⟩ := List.mem_map.1 hd
  have := (actsD_ok2 60 (restD b) e he).ok.word
  show e.word.length ≤ 1000
  omega
theorem SetP.self {P : Nat → Prop} {A : Mem} {s : SetG} {l : List Value} (h : SetP P A s l) : sameV 100 (.agg ⟨l⟩) (.agg ⟨l⟩) = true := by
  obtain ⟨xa, rfl, h⟩ := h
  show sameV (98 + 2) _ _ = true
  rw [sameV]
  simp [cellsS, sameV_int, h.self]
end Go.Proofs.Ytmhldlnlgjpkaaa.scr

