/-
  What the functions of this group compute on the abstract machine, and the plain laws of it. Part F: conditions stand in each theorem.
-/
import Derived.Test.YtmhldlnlgjpkaaaScrE

/-
  Script: Put, whatever the setting is.
-/
namespace Go.Proofs.Ytmhldlnlgjpkaaa.scr
open Go.Am
set_option linter.unusedSimpArgs false
set_option linter.unusedVariables false
set_option linter.unusedVariables false
set_option maxRecDepth 20000

theorem PutG.ext0 {A0 B0 : Mem} {bw : Nat} {t0 : T Value} {enc : List UInt8} {n b : Nat} {C : Mem} (h : PutG B0 bw t0 enc n b C) (e : Ext A0 B0) (hb : A0.next ≤ bw) : Ext A0 C :=
  ⟨by have := h.hn; have := e.n; omega, fun y hy => by rw [h.old y (by have := e.n; omega) (by omega), e.g y hy]⟩
theorem c49b1_eq : c49b1 = .seq (sub c49b1 [0]) (.seq (sub c49b1 [1,0]) (.seq (.block 1 (.seq (sub c49b1 [1,1,0,0,0]) (.seq (sub c49b1 [1,1,0,0,1,0]) (sub c49b1 [1,1,0,0,1,1])))) (sub c49b1 [1,1,1]))) := by kernel_rfl
set_option maxHeartbeats 16000000 in
/-- The closure of a setting's parts, called with Put's loop. -/
theorem run_parts1G {A0 B0 : Mem} {bw b b2 b3 b4 sb : Nat} {t0 : T Value} {C : Mem} {xa : Value} {s : SetG} (hP : PutG B0 bw t0 [] 0 b C) (hF : PutF B0 bw b2 b3 b4 t0) (hE : Ext A0 B0) (hbw : A0.next ≤ bw)
    (hsb : Vals B0 28 sb (.var 4) (cellsS s xa)) (hsl : sb < B0.next ∧ sb ≠ bw) (hA : ActsG A0 s.acts xa) (hB : SetB s) :
    ∃ v C', Ans tb1 49 [.func (.yield (B0.next + 1)) ⟨[]⟩ ⟨[]⟩, .pointer (some ⟨sb, 0, none⟩)] C v C' ∧ (putSOk s = true → ∃ b' n', PutG B0 bw t0 (headG s ++ encGs s.acts) n' b' C') ∧ (putSOk s = false → BadM B0 bw b2 b3 t0 C') := by
  refine ans_of_W (fn_at Try.func49) c49_eq (by rw [Try.ntmps49]; simp) (by kernel_rfl) (by kernel_rfl) ?_
  have hbw' := hP.hb
  have hAB := hE.n
  have sets : ∀ {enc n b} {D : Mem}, PutG B0 bw t0 enc n b D → Vals D 28 sb (.var 4) (cellsS s xa) := fun {enc n b D} h => hsb.same (h.old sb hsl.1 hsl.2)
  have hput : putSOk s = (hOk s && s.acts.all putOk) := by unfold putSOk; rw [hOk_eq]
  obtain ⟨C1, ⟨g1, hg1⟩, hy1, hn1⟩ := put_roundG (fid := 50) (p := .pointer (some ⟨sb, 0, none⟩)) (pb := hOk s) (enc' := [] ++ headG s) (n' := 4) hP hF (fun E hwE hnE hgE => by
    have h1 := hP.hn
    have h2 := hP.n1
    have e0 := hP.ext0 hE hbw
    obtain ⟨b', E', k1, k2, k3⟩ := run_headG hwE (by omega) ((sets hP).same (hgE _ (by omega))) ⟨hsl.2, by omega⟩ (by omega) (hA.ext ⟨by rw [hnE]; exact e0.n, fun y hy => by rw [hgE y (by omega), e0.g y hy]⟩) hB
    rw [Bool.true_and] at k2
    exact ⟨b', E', k1, k2, k3⟩)
  apply W.seq
  apply W.run 20
  · intro M
    simp (config := { maxSteps := 4000000 }) (disch := first | decide +kernel | omega) only [c49, Try.f49, Option.getD_some, sub_seq0, sub_nil, T.puts_cons, Nat.reduceAdd, T.puts_nil, exec_region, runOps_cons, opF_makeFunc, evs, ev_tmp, T.get_set, Nat.reduceEqDiff, T.get_e, if_false, if_true, evG_some, R.ok_bind, putT_some, opF_assign, runOps_nil]
    with_reducible rfl
  apply W.seq
  apply W.seq
  apply W.runG (g1) 20
  · intro M hM
    simp (config := { maxSteps := 4000000 }) (disch := first | decide +kernel | omega) only [c49, Try.f49, Option.getD_some, sub_seq1, sub_seq0, sub_nil, exec_region, runOps_cons, opF_move, ev_tmp, T.get_set, Nat.reduceEqDiff, T.get_e, if_true, if_false, evG_some, putT_some, opF_callv, evs, R.ok_bind, resK, opF_un, runOps_nil, callV_yield, hg1, un_not]
    with_reducible rfl
  show W tb1 _ _ _
  cases hh : hOk s with
  | false =>
    rw [hh] at hn1
    apply W.run 20
    · intro M
      simp (config := { maxSteps := 4000000 }) (disch := first | decide +kernel | omega) only [c49, Try.f49, Option.getD_some, sub_seq1, sub_seq0, sub_nil, Bool.not_false, exec_cond, ev_tmp, T.get_set, Nat.reduceEqDiff, T.get_e, if_false, if_true, evG_some, exec_ret, exec_skip, R.ok_bind]
      with_reducible rfl
    have hno : putSOk s = false := by rw [hput, hh]; rfl
    rw [hno]
    exact ⟨.inr rfl, _, [], rfl, rfl, (fun h => by cases h), fun _ => hn1 rfl⟩
  | true =>
    obtain ⟨b1, hP1⟩ := hy1 hh
    rw [List.nil_append] at hP1
    have l2 : loadF tb1 C1.get 26 (.pointer (some ⟨sb, 3, none⟩)) = .ok xa := load_vals und26 rfl (sets hP1) rfl
    have hlen := (hA.ext (hP1.ext0 hE hbw)).len
    have h60 := hB.len
    apply W.run 20
    · intro M
      simp (config := { maxSteps := 4000000 }) (disch := first | decide +kernel | omega) only [c49, Try.f49, Option.getD_some, sub_seq1, sub_seq0, sub_nil, Bool.not_true, exec_cond, ev_tmp, T.get_set, Nat.reduceEqDiff, T.get_e, if_false, if_true, evG_some, exec_ret, exec_skip, R.ok_bind]
      with_reducible rfl
    show W tb1 _ _ _
    apply W.seq
    apply W.run 20
    · intro M
      simp (config := { maxSteps := 4000000 }) (disch := first | decide +kernel | omega) only [c49, Try.f49, Option.getD_some, sub_seq1, sub_seq0, sub_nil, exec_region, runOps_cons, opF_fieldAddr, ev_tmp, T.get_set, Nat.reduceEqDiff, T.get_e, if_false, if_true, evG_some, putT_some, opF_load, opF_len, evs, R.ok_bind, opF_move, ev_int, runOps_nil, fa28_2, l2, hlen]
      with_reducible rfl
    apply W.block
    refine W.up s.acts.length (fun i t D => (s.acts.take i).all putOk = true ∧ ∃ b', PutG B0 bw t0 (headG s ++ encGs (s.acts.take i)) (4 + 4000 * i) b' D ∧ Sl t [(0, .func (.yield (B0.next + 1)) ⟨[]⟩ ⟨[]⟩), (12, xa), (13, .int .i64 ((s.acts.length : Nat) : Int)), (14, .int .i64 (i : Int))]) ?_ (Nat.zero_le _) ⟨rfl, b1, by simpa [encGs] using hP1, ?_⟩
    · rintro i t D hi ⟨hok, b', hPD, g0, g12, g13, g14, -⟩
      by_cases hlt : i < s.acts.length
      · have eD := hPD.ext0 hE hbw
        obtain ⟨ls, bA, hx, hll, -, hall⟩ := hA
        have hli : i < ls.length := by omega
        have hO := hall i s.acts[i] ls[i] (List.getElem?_eq_getElem hlt) (List.getElem?_eq_getElem hli)
        have hxD := hx.same eD.n (fun hl => eD.g _ hl)
        have ix := hxD.idx (tb := tb1) (t := 26) (t' := 39) (kd := .i64) (i := i) und26 size39 hli
        obtain ⟨d39, hd1, hd2⟩ := und39
        have lld := hxD.load_all (tb := tb1) (t := 39) hd1 hd2 size39 (List.getElem?_eq_getElem hli)
        have hsn := encGs_take hlt
        have hta : (s.acts.take (i + 1)).all putOk = putOk s.acts[i] := by rw [take_all hlt, hok, Bool.true_and]
        have hBd := hB.acts _ (List.getElem_mem hlt)
        have hna : putOk s.acts[i] = false → putSOk s = false := fun h => by rw [hput, not_all hlt h, Bool.and_false]
        generalize ls[i] = l at hO lld
        generalize s.acts[i] = d at hO hsn hBd hta hna
        have hDn := hPD.hn
        have hD1 := hPD.n1
        obtain ⟨z, hz, hz9⟩ : ∃ z, zeroF tb1 39 = .ok (.agg ⟨z⟩) ∧ z.length = 9 := ⟨_, zero39, rfl⟩
        have hv0 : Vals (D.alloc (rowOb 39 z)) 39 D.next (.var z.length) z := Go.Am.vals_new D 39 _
        rw [hz9] at hv0
        have hn5 : (D.alloc (rowOb 39 z)).next = D.next + 1 := next_alloc _ _
        obtain ⟨E, hst, hvE, hnE, hfE⟩ := store_all (tb := tb1) (t := 39) (l' := l) (by rw [size39, hz9]) hv0 (by rw [hO.cells.1, hz9]) (by intro h; rw [h] at hz9; cases hz9) hO.cells.2
        have hEE : Ext D E := (Ext.alloc D (rowOb 39 z)).put (b := D.next) (Nat.le_refl _) hnE hfE
        have hPE := hPD.step (hPD.w.ext hEE) (Wk.ext hEE)
        obtain ⟨F, ⟨g, hg⟩, hy2, hn2⟩ := put_roundG (fid := 53) (p := .pointer (some ⟨D.next, 0, none⟩)) (pb := putOk d) (enc' := headG s ++ encGs (s.acts.take i) ++ encG d) (n' := 4 + 4000 * i + 4000) hPE hF (fun G hwG hnG hgG => by
          have e0 := eD.trans hEE
          obtain ⟨b', E', k1, k2, k3⟩ := run_boxedG (A0 := A0) hwG ⟨by rw [hnG]; exact e0.n, fun y hy => by rw [hgG y (by omega), e0.g y hy]⟩ hbw (by omega) (by omega) hO hBd (hvE.same (hgG _ (by omega)))
          rw [Bool.true_and] at k2
          exact ⟨b', E', k1, k2, k3⟩)
        cases hpk : putOk d with
        | true =>
          rw [hpk] at hg
          obtain ⟨b2', hPF⟩ := hy2 hpk
          apply W.runG (g) 20
          · intro M hM
            simp (config := { maxSteps := 4000000 }) (disch := first | decide +kernel | omega) only [c49b1, c49, Try.f49, Option.getD_some, sub_seq1, sub_block, sub_loop, sub_nil, exec_seq, exec_region, runOps_cons, opF_ari, ev_tmp, g14, evG_some, g13, putT_some, runOps_nil, R.ok_bind, binF_int, op_lssI, cast_lt, hlt, decide_true, exec_cond, exec_skip, exec_exit, exec_block, opF_indexAddr, opF_move, exec_ret, ev_int, T.get_set, if_true, Nat.reduceEqDiff, g12, if_false, opF_load, opF_alloc, hz, at_ptr, opF_store, putT_none, cells_agg, ix, lld, hst, g0, opF_makeFunc, evs, opF_callv, resK, opF_un, callV_yield, hg, un_not, Bool.not_true, op_add_i64]
            with_reducible rfl
          refine ⟨hlt, _, _, rfl, by rw [hta]; exact hpk, b2', ?_, ?_⟩
          · rw [hsn, ← List.append_assoc]; exact hPF
          · simp only [Sl_cons, Sl_nil, T.get_set, T.puts_cons, T.puts_nil, Nat.reduceEqDiff, Nat.reduceAdd, if_true, if_false, and_true, true_and, g0, g12, g13]
        | false =>
          rw [hpk] at hg
          rw [c49b1_eq]
          apply W.seq
          apply W.run 20
          · intro M
            simp (config := { maxSteps := 4000000 }) (disch := first | decide +kernel | omega) only [c49b1, c49, Try.f49, Option.getD_some, sub_seq1, sub_block, sub_loop, sub_nil, sub_seq0, exec_region, runOps_cons, opF_ari, ev_tmp, g14, evG_some, g13, putT_some, runOps_nil, R.ok_bind, binF_int, op_lssI, cast_lt, hlt, decide_true]
            with_reducible rfl
          apply W.seq
          apply W.run 20
          · intro M
            simp (config := { maxSteps := 4000000 }) (disch := first | decide +kernel | omega) only [c49b1, c49, Try.f49, Option.getD_some, sub_seq1, sub_block, sub_loop, sub_nil, sub_seq0, exec_cond, ev_tmp, T.get_set, if_true, evG_some, exec_skip, exec_exit, R.ok_bind]
            with_reducible rfl
          apply W.seq
          apply W.block
          apply W.seq
          apply W.run 20
          · intro M
            simp (config := { maxSteps := 4000000 }) (disch := first | decide +kernel | omega) only [c49b1, c49, Try.f49, Option.getD_some, sub_seq1, sub_block, sub_loop, sub_nil, sub_seq0, exec_region, runOps_cons, opF_indexAddr, ev_tmp, T.get_set, Nat.reduceEqDiff, g12, if_false, evG_some, g14, putT_some, opF_load, if_true, opF_alloc, hz, at_ptr, opF_store, putT_none, runOps_nil, R.ok_bind, cells_agg, ix, lld, hst]
            with_reducible rfl
          apply W.seq
          apply W.runG (g) 20
          · intro M hM
            simp (config := { maxSteps := 4000000 }) (disch := first | decide +kernel | omega) only [c49b1, c49, Try.f49, Option.getD_some, sub_seq1, sub_block, sub_loop, sub_nil, sub_seq0, exec_region, runOps_cons, opF_move, ev_tmp, T.get_set, Nat.reduceEqDiff, g0, if_false, evG_some, putT_some, opF_makeFunc, evs, if_true, R.ok_bind, opF_callv, resK, opF_un, runOps_nil, callV_yield, hg, un_not, Bool.not_false]
            with_reducible rfl
          apply W.run 20
          · intro M
            simp (config := { maxSteps := 4000000 }) (disch := first | decide +kernel | omega) only [c49b1, c49, Try.f49, Option.getD_some, sub_seq1, sub_block, sub_loop, sub_nil, sub_seq0, exec_cond, ev_tmp, T.get_set, Nat.reduceEqDiff, if_false, if_true, evG_some, exec_ret, exec_skip, R.ok_bind]
            with_reducible rfl
          rw [hna hpk]
          exact ⟨.inr rfl, _, [], rfl, rfl, (fun h => by cases h), fun _ => hn2 hpk⟩
      · have hin : i = s.acts.length := by omega
        subst hin
        rw [List.take_length] at hPD hok
        apply W.run 20
        · intro M
          simp (config := { maxSteps := 4000000 }) (disch := first | decide +kernel | omega) only [c49b1, c49, Try.f49, Option.getD_some, sub_seq1, sub_block, sub_loop, sub_nil, exec_seq, exec_region, runOps_cons, opF_ari, ev_tmp, g14, evG_some, g13, putT_some, runOps_nil, R.ok_bind, binF_int, op_lssI, cast_lt, Nat.lt_irrefl, decide_false, exec_cond, exec_skip, exec_exit, exec_block, opF_indexAddr, opF_move, exec_ret, ev_int, T.get_set, if_true]
          with_reducible rfl
        have hyes : putSOk s = true := by rw [hput, hh, hok]; rfl
        rw [hyes]
        exact ⟨.inl rfl, _, [], rfl, rfl, fun _ => ⟨b', _, hPD⟩, (fun h => by cases h)⟩
    · simp only [Sl_cons, Sl_nil, T.get_set, T.puts_cons, T.puts_nil, Nat.reduceEqDiff, Nat.reduceAdd, if_true, if_false, and_true, true_and]
set_option maxHeartbeats 16000000 in
theorem run_putSG {A : Mem} {s : SetG} {l : List Value} (h : SetR A s l) (hB : SetB s) :
    ∃ x A', Ans tb1 14 [.agg ⟨l⟩] A (.tuple ⟨[x, .int .i64 ((if putSOk s = true then 0 else 2 : Nat) : Int)]⟩) A' ∧ Ext A A' ∧ (putSOk s = true → ∃ b, Slc A' 5 b (byts (headG s ++ encGs s.acts)) x) ∧ (putSOk s = false → x = .slice none 0 0) := by
  have hone := h.cells.2
  obtain ⟨xa, rfl, hacts⟩ := h
  obtain ⟨v, A', ha, x, hv, hE, hs, hs2⟩ : ∃ v A', Ans tb1 14 [.agg ⟨cellsS s xa⟩] A v A' ∧ ∃ x, v = .tuple ⟨[x, .int .i64 ((if putSOk s = true then 0 else 2 : Nat) : Int)]⟩ ∧ Ext A A' ∧ (putSOk s = true → ∃ b, Slc A' 5 b (byts (headG s ++ encGs s.acts)) x) ∧ (putSOk s = false → x = .slice none 0 0) := by
    refine ans_of_W (fn_at Try.func14) c14_eq (by rw [Try.ntmps14]; simp) (by kernel_rfl) (by kernel_rfl) ?_
    apply W.seq
    apply W.run 20
    · intro M
      simp (config := { maxSteps := 4000000 }) (disch := first | decide +kernel | omega) only [c14, Try.f14, Option.getD_some, sub_seq0, sub_nil, T.puts_cons, Nat.reduceAdd, T.puts_nil, exec_region, runOps_cons, opF_box, ev_tmp, T.get_set, T.get_e, if_true, evG_some, at_ptr, putT_some, opF_alloc, zero22, zero51, runOps_nil, R.ok_bind, cells_int, cells_slc, cells_agg]
      with_reducible rfl
    have n1 : (A.alloc (rowOb 28 (cellsS s xa))).next = A.next + 1 := next_alloc _ _
    have v1 : Vals (A.alloc (rowOb 28 (cellsS s xa))) 28 A.next (.var 4) (cellsS s xa) := Go.Am.vals_new A 28 _
    have E1 := Ext.alloc A (rowOb 28 (cellsS s xa))
    revert n1 v1 E1
    generalize A.alloc (rowOb 28 (cellsS s xa)) = A1
    intro n1 v1 E1
    have n2 : (A1.alloc (rowOb 22 [.slice none 0 0])).next = A1.next + 1 := next_alloc _ _
    have v2 : Vals (A1.alloc (rowOb 22 [.slice none 0 0])) 22 A1.next (.var 1) [.slice none 0 0] := Go.Am.vals_new A1 22 _
    have E2 := Ext.alloc A1 (rowOb 22 [.slice none 0 0])
    revert n2 v2 E2
    generalize A1.alloc (rowOb 22 [.slice none 0 0]) = A2
    intro n2 v2 E2
    have n3 : (A2.alloc (rowOb 51 [.int .i64 0])).next = A2.next + 1 := next_alloc _ _
    have v3 : Vals (A2.alloc (rowOb 51 [.int .i64 0])) 51 A2.next (.var 1) [.int .i64 0] := Go.Am.vals_new A2 51 _
    have E3 := Ext.alloc A2 (rowOb 51 [.int .i64 0])
    revert n3 v3 E3
    generalize A2.alloc (rowOb 51 [.int .i64 0]) = A3
    intro n3 v3 E3
    have n4 : (A3.alloc (rowOb 85 [.slice none 0 0, .bool false])).next = A3.next + 1 := next_alloc _ _
    have v4 : Vals (A3.alloc (rowOb 85 [.slice none 0 0, .bool false])) 85 A3.next (.var 2) [.slice none 0 0, .bool false] := Go.Am.vals_new A3 85 _
    have E4 := Ext.alloc A3 (rowOb 85 [.slice none 0 0, .bool false])
    have n5 : ((A3.alloc (rowOb 85 [.slice none 0 0, .bool false])).alloc (rowOb 83 [.pointer none])).next = A3.next + 2 := by rw [next_alloc, n4]
    have v5 : Vals ((A3.alloc (rowOb 85 [.slice none 0 0, .bool false])).alloc (rowOb 83 [.pointer none])) 83 (A3.alloc (rowOb 85 [.slice none 0 0, .bool false])).next (.var 1) [.pointer none] := Go.Am.vals_new _ 83 _
    have E5 := Ext.alloc (A3.alloc (rowOb 85 [.slice none 0 0, .bool false])) (rowOb 83 [.pointer none])
    rw [n4] at v5
    obtain ⟨A6, hst, v6, n6, f6⟩ := store_vals (tb := tb1) (t := 83) (o := 0) (v := .pointer (some ⟨A3.next, 0, none⟩)) size83 v5 (by simp) rfl rfl
    have E36 : Ext A3 A6 := (E4.trans E5).put (b := A3.next + 1) (by omega) n6 f6
    have hst' : storeF tb1 ((A3.alloc (rowOb 85 [.slice none 0 0, .bool false])).alloc (rowOb 83 [.pointer none])) 83 (.pointer (some ⟨A3.next + 1, 0, none⟩)) (.pointer (some ⟨A3.next, 0, none⟩)) = .ok A6 := hst
    have v4' : Vals A6 85 A3.next (.var 2) [.slice none 0 0, .bool false] := v4.same (by rw [f6 _ (by omega), E5.g _ (by omega)])
    apply W.seq
    apply W.run 20
    · intro M
      simp (config := { maxSteps := 4000000 }) (disch := first | decide +kernel | omega) only [c14, Try.f14, Option.getD_some, sub_seq1, sub_seq0, sub_nil, exec_region, runOps_cons, opF_build, evp, putT_some, opF_box, ev_tmp, T.get_set, Nat.reduceEqDiff, T.get_e, if_false, if_true, evG_some, at_ptr, opF_alloc, zero83, next_alloc, opF_store, putT_none, runOps_nil, R.ok_bind, cells_ptr, bf85, cells_agg, hst']
      with_reducible rfl
    have E06 : Ext A A6 := ((E1.trans E2).trans E3).trans E36
    obtain ⟨d28, hd1, hd2⟩ := und28
    have l28 := Go.Am.load_all (tb := tb1) (t := 28) hd1 hd2 (by rw [size28]; rfl) (v1.same (((E2.trans E3).trans E36).g _ (by omega)))
    obtain ⟨gp, hgp⟩ := run_partsF (A := A6) (l := cellsS s xa)
    apply W.seq
    apply W.seq
    apply W.runG (gp) 20
    · intro M hM
      simp (config := { maxSteps := 4000000 }) (disch := first | decide +kernel | omega) only [c14, Try.f14, Option.getD_some, sub_seq1, sub_seq0, sub_nil, exec_region, runOps_cons, opF_load, ev_tmp, T.get_set, Nat.reduceEqDiff, T.get_e, if_false, if_true, evG_some, putT_some, opF_call, evs, R.ok_bind, resK, runOps_nil, l28, hgp]
      with_reducible rfl
    show W tb1 _ _ _
    rw [c14r_eq]
    have n7 : (A6.alloc (rowOb 28 (cellsS s xa))).next = A6.next + 1 := next_alloc _ _
    have v7 : Vals (A6.alloc (rowOb 28 (cellsS s xa))) 28 A6.next (.var 4) (cellsS s xa) := Go.Am.vals_new A6 28 _
    have E7 := Ext.alloc A6 (rowOb 28 (cellsS s xa))
    revert n7 v7 E7
    generalize A6.alloc (rowOb 28 (cellsS s xa)) = B0
    intro n7 v7 E7
    apply W.block
    generalize htt : (T.set _ 9 _ : T Value) = tt
    have t2 : tt.get 2 = some (.pointer (some ⟨A1.next, 0, none⟩)) := by rw [← htt]; simp only [T.get_set, Nat.reduceEqDiff, if_true, if_false]
    have t3 : tt.get 3 = some (.pointer (some ⟨A2.next, 0, none⟩)) := by rw [← htt]; simp only [T.get_set, Nat.reduceEqDiff, if_true, if_false]
    have t4 : tt.get 4 = some (.pointer (some ⟨A3.next + 1, 0, none⟩)) := by rw [← htt]; simp only [T.get_set, Nat.reduceEqDiff, if_true, if_false]
    have t9 : tt.get 9 = some (.func (.func 49) ⟨[]⟩ ⟨[.pointer (some ⟨A6.next, 0, none⟩)]⟩) := by rw [← htt]; simp only [T.get_set, if_true]
    have hL1 : (B0.alloc .defd).next = B0.next + 1 := next_alloc _ _
    have hL2 : ((B0.alloc .defd).alloc (.loop (putL tt B0.next))).next = B0.next + 2 := by rw [next_alloc, hL1]
    have hEL : Ext B0 ((B0.alloc .defd).alloc (.loop (putL tt B0.next))) := (Ext.alloc B0 _).trans (Ext.alloc _ _)
    have hP0 : PutG B0 A3.next tt [] 0 A3.next ((B0.alloc .defd).alloc (.loop (putL tt B0.next))) := {
      w := ⟨[], ⟨.slice none 0 0, (v4'.same (E7.g _ (by omega))).same (hEL.g _ (by omega)), .inl ⟨rfl, rfl⟩, .inl rfl, by omega, by omega⟩, Nat.le_refl _, fun _ => rfl⟩
      hd := by rw [get_alloc_ne (by omega), get_alloc_self]
      hl := by rw [← hL1, get_alloc_self]
      hb := by omega
      n1 := .inl rfl
      hn := by omega
      old := fun y hy _ => hEL.g y hy }
    have E37 : Ext A3 B0 := E36.trans E7
    have hF : PutF B0 A3.next A1.next A2.next (A3.next + 1) tt := {
      t2 := t2
      t3 := t3
      t4 := t4
      v2 := v2.same ((E3.trans E37).g _ (by omega))
      v3 := v3.same (E37.g _ (by omega))
      v4 := v6.same (E7.g _ (by omega))
      l2 := ⟨by omega, by omega, by omega, by omega⟩
      l3 := ⟨by omega, by omega, by omega⟩
      l4 := ⟨by omega, by omega⟩ }
    obtain ⟨v, C, hc, hyes, hno⟩ := run_parts1G (A0 := A) hP0 hF (E06.trans E7) (by omega) v7 ⟨by omega, by omega⟩ hacts hB
    have hfv : ev tt (.tmp 9) = .ok (.func (.func 49) ⟨[]⟩ ⟨[.pointer (some ⟨A6.next, 0, none⟩)]⟩) := by rw [ev_tmp, t9]; rfl
    cases hok : putSOk s with
    | false =>
      have hBM := hno hok
      refine W.rangeR hfv hc hBM.hl (by intro h; cases h) rfl ?_
      have hCn := hBM.hn
      have hset : ∀ y, y ≠ B0.next + 1 → (C.set (B0.next + 1) (.loop { (putL tt B0.next) with state := .exhausted, pending := some .ret })).get y = C.get y := fun y hy => by rw [get_setMem, if_neg hy]
      have hsn : (C.set (B0.next + 1) (.loop { (putL tt B0.next) with state := .exhausted, pending := some .ret })).next = C.next := next_set _ _ _
      have hFs : ∀ y, y ≠ B0.next → ((C.set (B0.next + 1) (.loop { (putL tt B0.next) with state := .exhausted, pending := some .ret })).set B0.next .dead).get y = (C.set (B0.next + 1) (.loop { (putL tt B0.next) with state := .exhausted, pending := some .ret })).get y := fun y hy => by rw [get_setMem, if_neg hy]
      have hFn : ((C.set (B0.next + 1) (.loop { (putL tt B0.next) with state := .exhausted, pending := some .ret })).set B0.next .dead).next = C.next := by rw [next_set, hsn]
      refine ⟨.inr rfl, (C.set (B0.next + 1) (.loop { (putL tt B0.next) with state := .exhausted, pending := some .ret })).set B0.next .dead, [.slice none 0 0, .int .i64 ((2 : Nat) : Int)], ?_, ?_, .slice none 0 0, rfl, ⟨by omega, fun y hy => ?_⟩, (fun h => by cases h), fun _ => rfl⟩
      · show takeF [B0.next] (C.set (B0.next + 1) _) = _
        unfold takeF
        rw [hset _ (by omega), hBM.hd]
        rfl
      · have r1 : loadF tb1 ((C.set (B0.next + 1) (.loop { (putL tt B0.next) with state := .exhausted, pending := some .ret })).set B0.next .dead).get 22 (.pointer (some ⟨A1.next, 0, none⟩)) = .ok (.slice none 0 0) := load_vals und22 rfl ((hBM.v2.same (hset _ (by omega))).same (hFs _ (by omega))) rfl
        have r2 : loadF tb1 ((C.set (B0.next + 1) (.loop { (putL tt B0.next) with state := .exhausted, pending := some .ret })).set B0.next .dead).get 51 (.pointer (some ⟨A2.next, 0, none⟩)) = .ok (.int .i64 ((2 : Nat) : Int)) := load_vals und51 rfl ((hBM.v3.same (hset _ (by omega))).same (hFs _ (by omega))) rfl
        simp only [Try.f14, resF, ev_tmp, evG_some, R.ok_bind, t2, t3, r1, r2]
      · rw [hFs _ (by omega), hset _ (by omega), hBM.old _ (by omega) (by omega) (by omega) (by omega), E7.g _ (by omega), E06.g _ hy]
    | true =>
      obtain ⟨b', n', hPC⟩ := hyes hok
      refine W.rangeF hfv hc hPC.hl (by intro h; cases h) rfl ?_
      show W tb1 _ _ _
      have hCn := hPC.hn
      have hCb := hPC.n1
      obtain ⟨bs, ⟨x, k1, k2, k3, k4, k5⟩, hbl, hbe⟩ := hPC.w
      rw [hbe rfl] at k2
      have hset : ∀ y, y ≠ B0.next + 1 → (C.set (B0.next + 1) (.loop { (putL tt B0.next) with state := .exhausted })).get y = C.get y := fun y hy => by rw [get_setMem, if_neg hy]
      have hsn : (C.set (B0.next + 1) (.loop { (putL tt B0.next) with state := .exhausted })).next = C.next := next_set _ _ _
      show W tb1 _ ⟨_, _, _, C.set (B0.next + 1) (.loop { (putL tt B0.next) with state := .exhausted }), _⟩ _
      revert hset hsn
      generalize C.set (B0.next + 1) (.loop { (putL tt B0.next) with state := .exhausted }) = D
      intro hset hsn
      have old : ∀ y, y < B0.next → y ≠ A3.next → D.get y = B0.get y := fun y hy hyb => by rw [hset _ (by omega), hPC.old y hy hyb]
      have m4 : Vals D 83 (A3.next + 1) (.var 1) [.pointer (some ⟨A3.next, 0, none⟩)] := hF.v4.same (old _ (by omega) (by omega))
      have m1 : Vals D 22 A1.next (.var 1) [.slice none 0 0] := hF.v2.same (old _ (by omega) (by omega))
      have m2 : Vals D 51 A2.next (.var 1) [.int .i64 0] := hF.v3.same (old _ (by omega) (by omega))
      have mw : Vals D 85 A3.next (.var 2) [x, .bool false] := k1.same (hset _ (by omega))
      have ms : Slc D 5 b' (byts (headG s ++ encGs s.acts)) x := k2.same (by omega) (fun _ => hset _ (by omega))
      obtain ⟨d83, hd83, hd83'⟩ := und83
      have l4 : loadF tb1 D.get 83 (.pointer (some ⟨A3.next + 1, 0, none⟩)) = .ok (.pointer (some ⟨A3.next, 0, none⟩)) := load_vals hd83 hd83' m4 rfl
      have lx : loadF tb1 D.get 22 (.pointer (some ⟨A3.next, 0, none⟩)) = .ok x := load_vals und22 rfl mw rfl
      obtain ⟨D1, hst1, w1, nD1, fD1⟩ := store_vals (tb := tb1) (t := 22) (o := 0) (v := x) size22 m1 (by simp) ms.cells ms.one
      obtain ⟨D2, hst2, w2, nD2, fD2⟩ := store_vals (tb := tb1) (t := 51) (o := 0) (v := .int .i64 ((0 : Nat) : Int)) size51 (m2.same (fD1 _ (by omega))) (by simp) rfl rfl
      apply W.seq
      apply W.run 20
      · intro M
        simp (config := { maxSteps := 4000000 }) (disch := first | decide +kernel | omega) only [c14, Try.f14, Option.getD_some, sub_seq1, sub_seq0, sub_nil, exec_region, runOps_cons, opF_load, ev_tmp, t4, evG_some, putT_some, opF_nilCheck, T.get_set, if_true, opF_fieldAddr, Nat.reduceEqDiff, if_false, opF_store, t2, putT_none, t3, ev_int, runOps_nil, R.ok_bind, l4, nil_ptr, fa85_0, lx, hst1, hst2]
        with_reducible rfl
      apply W.run 20
      · intro M
        simp (config := { maxSteps := 4000000 }) (disch := first | decide +kernel | omega) only [c14, Try.f14, Option.getD_some, sub_seq1, sub_nil, exec_ret]
        with_reducible rfl
      have w1' : Vals D2 22 A1.next (.var 1) [x] := w1.same (fD2 _ (by omega))
      have hdd : D2.get B0.next = some .defd := by rw [fD2 _ (by omega), fD1 _ (by omega), hset _ (by omega)]; exact hPC.hd
      have hFs : ∀ y, y ≠ B0.next → (D2.set B0.next .dead).get y = D2.get y := fun y hy => by rw [get_setMem, if_neg hy]
      have hFn : (D2.set B0.next .dead).next = D2.next := next_set _ _ _
      refine ⟨.inr rfl, D2.set B0.next .dead, [x, .int .i64 ((0 : Nat) : Int)], ?_, ?_, x, rfl, ⟨?_, ?_⟩, fun _ => ⟨b', ?_⟩, (fun h => by cases h)⟩
      · show takeF [B0.next] D2 = _
        unfold takeF
        rw [hdd]
        rfl
      · have r1 : loadF tb1 (D2.set B0.next .dead).get 22 (.pointer (some ⟨A1.next, 0, none⟩)) = .ok x := load_vals und22 rfl (w1'.same (hFs _ (by omega))) rfl
        have r2 : loadF tb1 (D2.set B0.next .dead).get 51 (.pointer (some ⟨A2.next, 0, none⟩)) = .ok (.int .i64 ((0 : Nat) : Int)) := load_vals und51 rfl (w2.same (hFs _ (by omega))) rfl
        simp only [Try.f14, resF, ev_tmp, T.get_set, Nat.reduceEqDiff, if_true, if_false, evG_some, R.ok_bind, t2, t3, r1, r2]
      · omega
      · intro y hy
        rw [hFs _ (by omega), fD2 _ (by omega), fD1 _ (by omega), old _ (by omega) (by omega), E7.g _ (by omega), E06.g _ hy]
      · refine ms.same (by omega) (fun hl => ?_)
        rcases hCb with hq2 | hq2
        · rcases k3 with k3 | k3
          · rcases ms with ⟨-, e⟩ | ⟨k, c, e, -⟩
            · exact absurd e (by simp [byts, headG])
            · rw [k3] at e; cases e
          · exact absurd hq2 k3
        · rw [hFs _ (by omega), fD2 _ (by omega), fD1 _ (by omega)]
  subst hv
  exact ⟨x, A', ha, hE, hs, hs2⟩
end Go.Proofs.Ytmhldlnlgjpkaaa.scr

/-
  Script: rows are copied, and one value of them is turned.
-/
namespace Go.Proofs.Ytmhldlnlgjpkaaa.scr
open Go.Am
set_option linter.unusedSimpArgs false
set_option linter.unusedVariables false
set_option linter.unusedVariables false
set_option maxRecDepth 20000

theorem RowM.first {A : Mem} {e : TypeId} {n b : Nat} {ls : List (List Value)} {x : Value} (h : RowM A e n b ls x) : lenF x = .ok ls.length ∧ firstF A.get n ls.length x = .ok ls.flatten := by
  rcases h with ⟨rfl, rfl⟩ | ⟨k, c, ex, rfl, h2, ⟨cs, h5, h6⟩, h4, -⟩
  · exact ⟨rfl, rfl⟩
  · refine ⟨rfl, ?_⟩
    show elemsF A.get n ls.length (some ⟨b, 0, none⟩) = _
    unfold elemsF
    have hfl := flat_len h4
    cases hn : Nat.beq (ls.length * n) 0 with
    | true =>
      have : ls.flatten = [] := List.length_eq_zero_iff.1 (by rw [hfl]; exact Nat.eq_of_beq_eq_true hn)
      rw [this]; rfl
    | false =>
      have hg : cs.gets (ls.length * n) 0 = some ls.flatten := gets_eq _ _ _ _ hfl fun j hj => by
        rw [Nat.zero_add, h6 j (by rw [List.length_append]; omega), List.getElem?_append_left (by omega)]
      simp only [cond_false, h5, hg]
theorem RowM.all {A : Mem} {e : TypeId} {n b : Nat} {ls : List (List Value)} {x : Value} (h : RowM A e n b ls x) : ∀ l ∈ ls, l.length = n := by
  rcases h with ⟨rfl, rfl⟩ | ⟨k, c, ex, rfl, h2, h3, h4, -⟩
  · intro l hl; cases hl
  · exact h4
/-- A row is copied: appended to an empty one that is new. -/
theorem RowM.copy {A A1 : Mem} {st e : TypeId} {i : TypeInfo} {z : List Value} {n b : Nat} {ls : List (List Value)} {x : Value} (h : RowM A e n b ls x) (hst : tb1.und st = some (.slice e)) (hz : zcellsF tb1 e = .ok (n, z)) (hi : tb1.ty.get e = some i) (hib : 0 < i.bytes) (hib' : i.bytes ≤ 65536)
    (hn0 : 0 < n) (hn1 : n < 65536) (hls : ls.length ≤ 1000) (h1c : ∀ v ∈ ls.flatten, oneCell v = true) (hA1 : A1 = A.alloc (rowOb e [])) :
    ∃ x' A' b', appendF tb1 A1 st st (.slice (some ⟨A.next, 0, none⟩) 0 0) x = .ok (x', A') ∧ SlcM A' e n b' ls x' ∧ A.next ≤ b' ∧ Ext A A' := by
  subst hA1
  have e1 := Ext.alloc A (rowOb e [])
  have hn := next_alloc A (rowOb e [])
  have h0 : SlcM (A.alloc (rowOb e [])) e n A.next [] (.slice (some ⟨A.next, 0, none⟩) 0 0) := .inr ⟨_, 0, rfl, by omega, vals_puts (get_alloc_self A _), (fun l hl => by cases hl), .inl rfl⟩
  obtain ⟨f1, f2⟩ := RowM.first (h.same e1.n (fun hl => e1.g _ hl))
  obtain ⟨x', A', b', k1, k2, k3, k4, k5⟩ := h0.appends (m := ls.length) (nl := ls) hst hst rfl hz hi hib hib' hn0 hn1 (by simp; omega) f1 f2 rfl (RowM.all h) h1c
  rw [List.nil_append] at k2
  refine ⟨x', A', b', k1, k2, by rcases k4 with rfl | k4 <;> omega, by omega, fun y hy => ?_⟩
  rw [k5 y (fun e => by omega) (by omega), e1.g y hy]
theorem flat_set {n : Nat} : ∀ {ls : List (List Value)} {i j : Nat} {v : Value}, (∀ l ∈ ls, l.length = n) → j < n → i < ls.length → ls.flatten.set (i * n + j) v = (ls.set i ((ls.getD i []).set j v)).flatten
  | [], i, j, v, _, _, hi => by simp at hi
  | l :: ls, 0, j, v, h, hj, hi => by
    have hl := h l List.mem_cons_self
    simp only [Nat.zero_mul, Nat.zero_add, List.flatten_cons, List.set_cons_zero, List.getD_cons_zero]
    rw [List.set_append_left _ _ (by omega)]
  | l :: ls, i + 1, j, v, h, hj, hi => by
    have hl := h l List.mem_cons_self
    have := flat_set (ls := ls) (i := i) (j := j) (v := v) (fun x hx => h x (List.mem_cons_of_mem _ hx)) hj (by simpa using hi)
    simp only [List.flatten_cons, List.set_cons_succ, List.getD_cons_succ]
    rw [List.set_append_right _ _ (by rw [hl, Nat.add_mul]; omega), hl, show (i + 1) * n + j - n = i * n + j by rw [Nat.add_mul, Nat.one_mul]; omega, this]
/-- One cell of one value of a row is stored. -/
theorem SlcM.put {A : Mem} {e t : TypeId} {n b i j : Nat} {ls : List (List Value)} {l : List Value} {x v : Value} (h : SlcM A e n b ls x) (hs : sizeF tb1 t = .ok 1) (hi : ls[i]? = some l) (hj : j < n) (hv : v.cells.toList = [v]) (h1c : oneCell v = true) :
    ∃ A', storeF tb1 A t (.pointer (some ⟨b, i * n + j, none⟩)) v = .ok A' ∧ SlcM A' e n b (ls.set i (l.set j v)) x ∧ A'.next = A.next ∧ ∀ y, y ≠ b → A'.get y = A.get y := by
  rcases h with ⟨rfl, rfl⟩ | ⟨k, c, rfl, h2, h3, h4, h5⟩
  · simp at hi
  · have hil : i < ls.length := (List.getElem?_eq_some_iff.1 hi).1
    have hlt := flat_lt h4 hil hj
    obtain ⟨A', k1, k2, k3, k4⟩ := store_vals (tb := tb1) (t := t) hs h3 hlt hv h1c
    have hg : ls.getD i [] = l := by rw [List.getD, hi]; rfl
    rw [flat_set h4 hj hil, hg] at k2
    refine ⟨A', k1, .inr ⟨k, c, by rw [List.length_set], by omega, k2, fun y hy => ?_, by rw [List.length_set]; exact h5⟩, k3, k4⟩
    rcases List.mem_or_eq_of_mem_set hy with hy | rfl
    · exact h4 y hy
    · rw [List.length_set]; exact h4 l (List.mem_of_getElem? hi)
section
variable (b o : Nat)
theorem fo39_0 : fieldAddrF tb1 39 (.pointer (some ⟨b, o, none⟩)) 0 = .ok (.pointer (some ⟨b, o, none⟩)) := by kernel_rfl
theorem fo39_1 : fieldAddrF tb1 39 (.pointer (some ⟨b, o, none⟩)) 1 = .ok (.pointer (some ⟨b, o + 5, none⟩)) := by kernel_rfl
theorem fo39_2 : fieldAddrF tb1 39 (.pointer (some ⟨b, o, none⟩)) 2 = .ok (.pointer (some ⟨b, o + 6, none⟩)) := by kernel_rfl
theorem fo39_3 : fieldAddrF tb1 39 (.pointer (some ⟨b, o, none⟩)) 3 = .ok (.pointer (some ⟨b, o + 7, none⟩)) := by kernel_rfl
theorem fo39_4 : fieldAddrF tb1 39 (.pointer (some ⟨b, o, none⟩)) 4 = .ok (.pointer (some ⟨b, o + 8, none⟩)) := by kernel_rfl
theorem fo35_0 : fieldAddrF tb1 35 (.pointer (some ⟨b, o, none⟩)) 0 = .ok (.pointer (some ⟨b, o, none⟩)) := by kernel_rfl
theorem fo35_1 : fieldAddrF tb1 35 (.pointer (some ⟨b, o, none⟩)) 1 = .ok (.pointer (some ⟨b, o + 1, none⟩)) := by kernel_rfl
theorem fo35_2 : fieldAddrF tb1 35 (.pointer (some ⟨b, o, none⟩)) 2 = .ok (.pointer (some ⟨b, o + 2, none⟩)) := by kernel_rfl
theorem fo35_3 : fieldAddrF tb1 35 (.pointer (some ⟨b, o, none⟩)) 3 = .ok (.pointer (some ⟨b, o + 3, none⟩)) := by kernel_rfl
theorem fo35_4 : fieldAddrF tb1 35 (.pointer (some ⟨b, o, none⟩)) 4 = .ok (.pointer (some ⟨b, o + 4, none⟩)) := by kernel_rfl
theorem fa60_0 : fieldAddrF tb1 60 (.pointer (some ⟨b, 0, none⟩)) 0 = .ok (.pointer (some ⟨b, 0, none⟩)) := by kernel_rfl
theorem fa60_1 : fieldAddrF tb1 60 (.pointer (some ⟨b, 0, none⟩)) 1 = .ok (.pointer (some ⟨b, 1, none⟩)) := by kernel_rfl
theorem fa60_2 : fieldAddrF tb1 60 (.pointer (some ⟨b, 0, none⟩)) 2 = .ok (.pointer (some ⟨b, 2, none⟩)) := by kernel_rfl
theorem fa60_3 : fieldAddrF tb1 60 (.pointer (some ⟨b, 0, none⟩)) 3 = .ok (.pointer (some ⟨b, 3, none⟩)) := by kernel_rfl
end
theorem und58 : tb1.und 58 = some (.int .i16) := by kernel_rfl
theorem bs26_0 : buildSliceF tb1 26 0 [] = .ok (rowOb 39 [], .slc 0 0) := by kernel_rfl
theorem bs36_0 : buildSliceF tb1 36 0 [] = .ok (rowOb 43 [], .slc 0 0) := by kernel_rfl
theorem bs37_0 : buildSliceF tb1 37 0 [] = .ok (rowOb 41 [], .slc 0 0) := by kernel_rfl
theorem bs36_2 (a b : Int) : buildSliceF tb1 36 2 [(0, .int .u16 a), (1, .int .u16 b)] = .ok (rowOb 43 [.int .u16 a, .int .u16 b], .slc 2 4) := by kernel_rfl
theorem bf41a (a : Int) (p : Option Addr) (m c : Nat) : buildF tb1 41 [(0, .int .i64 a), (1, .slice p m c)] = .ok (.agg ⟨[.int .i64 a, .slice p m c]⟩) := by kernel_rfl
theorem bs37a (a : Int) (x : Value) : buildSliceF tb1 37 1 [(0, .agg ⟨[.int .i64 a, x]⟩)] = .ok (rowOb 41 [.int .i64 a, x], .slc 1 2) := by kernel_rfl
theorem wrap_i64I {n : Int} (h : -1000000 ≤ n ∧ n ≤ 1000000) : wrapF .i64 n = n := by
  rw [wrapF_eq]; simp [IntKind.wrap, IntKind.signed, IntKind.bits]; omega
theorem wrap_u16 (m : Int) : ∃ v : Nat, v < 65536 ∧ wrapF .u16 m = (v : Int) := by
  refine ⟨(m % 65536).toNat, by omega, ?_⟩
  rw [wrapF_eq]
  simp [IntKind.wrap, IntKind.signed, IntKind.bits]
  omega
theorem wrap_u32 (m : Int) : ∃ v : Nat, v < 4294967296 ∧ wrapF .u32 m = (v : Int) := by
  refine ⟨(m % 4294967296).toNat, by omega, ?_⟩
  rw [wrapF_eq]
  simp [IntKind.wrap, IntKind.signed, IntKind.bits]
  omega
/-- How great an act is, behind so many turns. -/
structure ActC (r : Nat) (d : ActG) : Prop where
  kind : -100000 ≤ d.kind ∧ d.kind ≤ 100000
  k : -100000 ≤ d.k ∧ d.k ≤ 100000
  n : -100000 ≤ d.n ∧ d.n ≤ 100000
  arm : -100000 ≤ d.arm ∧ d.arm ≤ 100000
  weight : d.weight < 4294967296
  word : d.word.length ≤ 1000
  stays : d.stays.length ≤ 10 + 2 * r
  svals : ∀ v ∈ d.stays, v < 65536
  opening : d.opening.length ≤ 4 + r
  oarm : ∀ o ∈ d.opening, -100000 ≤ o.1 ∧ o.1 ≤ 100000
  olen : ∀ o ∈ d.opening, o.2.length ≤ 100
  ovals : ∀ o ∈ d.opening, ∀ v ∈ o.2, v < 65536
structure SetC (r : Nat) (s : SetG) : Prop where
  wal : -1000000 ≤ s.wal ∧ s.wal ≤ 1000000
  fan : -1000000 ≤ s.fan ∧ s.fan ≤ 1000000
  quota : -1000000 ≤ s.quota ∧ s.quota ≤ 1000000
  acts : ∀ d ∈ s.acts, ActC r d
  len : s.acts.length ≤ 60
theorem ActC.mono {r r' : Nat} (hr : r ≤ r') {d : ActG} (h : ActC r d) : ActC r' d := { h with stays := by have := h.stays; omega, opening := by have := h.opening; omega }
theorem SetC.mono {r r' : Nat} (hr : r ≤ r') {s : SetG} (h : SetC r s) : SetC r' s := { h with acts := fun d hd => (h.acts d hd).mono hr }
theorem SetC.toB {s : SetG} (h : SetC 4 s) : SetB s where
  wal := h.wal
  fan := h.fan
  quota := h.quota
  len := h.len
  acts := fun d hd => by
    have k := h.acts d hd
    exact { kind := k.kind, k := k.k, n := k.n, arm := k.arm, weight := k.weight, word := k.word, stays := by have := k.stays; omega, svals := k.svals, opening := by have := k.opening; omega, oarm := k.oarm, olen := k.olen, ovals := k.ovals }
end Go.Proofs.Ytmhldlnlgjpkaaa.scr

/-
  Script: a setting is turned.
-/
namespace Go.Proofs.Ytmhldlnlgjpkaaa.scr
open Go.Am
set_option linter.unusedSimpArgs false
set_option linter.unusedVariables false
set_option linter.unusedVariables false
set_option maxRecDepth 20000

theorem shorts_one (l : List Nat) : ∀ v ∈ (shorts l), oneCell v = true := fun v hv => by
  obtain ⟨n, -, rfl⟩ := List.mem_map.1 hv
  rfl
theorem flat1 (l : List Value) : (l.map fun v => [v]).flatten = l := flat_ones l
theorem shorts_app (l m : List Nat) : shorts (l ++ m) = shorts l ++ shorts m := by simp [shorts]
theorem StR.copy {P : Nat → Prop} {A : Mem} {l : List Nat} {x : Value} (h : StR P A l x) (hl : l.length ≤ 1000) :
    ∃ y G b1, appendF tb1 (A.alloc (rowOb 43 [])) 36 36 (.slice (some ⟨A.next, 0, none⟩) 0 0) x = .ok (y, G) ∧ Slc G 43 b1 (shorts l) y ∧ A.next ≤ b1 ∧ Ext A G := by
  obtain ⟨ti, ht1, ht2⟩ := ty43
  have hr : ∃ b, RowM A 43 1 b ((shorts l).map fun v => [v]) x := by
    rcases h with ⟨rfl, rfl⟩ | ⟨b, -, -, h⟩
    · exact ⟨0, .inl ⟨rfl, rfl⟩⟩
    · exact ⟨b, SlcM.toRow (by omega) h.toM⟩
  obtain ⟨b, hr⟩ := hr
  obtain ⟨y, G, b1, k1, k2, k3, k4⟩ := RowM.copy hr und36 zc43 ht1 (by omega) (by omega) (by omega) (by omega) (by rw [List.length_map, shorts_len]; exact hl) (by rw [flat1]; exact shorts_one l) rfl
  exact ⟨y, G, b1, k1, k2.toOne, k3, k4⟩
theorem slc_two {G : Mem} {b1 u v : Nat} {l : List Nat} {y : Value} (h : Slc G 43 b1 (shorts l) y) (hl : l.length ≤ 1000) :
    ∃ y2 H b2, appendF tb1 (G.alloc (rowOb 43 [.int .u16 (u : Int), .int .u16 (v : Int)])) 36 36 y (.slice (some ⟨G.next, 0, none⟩) 2 4) = .ok (y2, H) ∧ Slc H 43 b2 (shorts (l ++ [u, v])) y2 ∧ (b2 = b1 ∨ G.next ≤ b2) ∧ G.next ≤ H.next ∧ ∀ z, z ≠ b1 → z < G.next → H.get z = G.get z := by
  obtain ⟨ti, ht1, ht2⟩ := ty43
  have e1 := Ext.alloc G (rowOb 43 [.int .u16 (u : Int), .int .u16 (v : Int)])
  have hn := next_alloc G (rowOb 43 [.int .u16 (u : Int), .int .u16 (v : Int)])
  have hv : Vals (G.alloc (rowOb 43 [.int .u16 (u : Int), .int .u16 (v : Int)])) 43 G.next (.var 2) [.int .u16 (u : Int), .int .u16 (v : Int)] := Go.Am.vals_new G 43 _
  have hf : firstF (G.alloc (rowOb 43 [.int .u16 (u : Int), .int .u16 (v : Int)])).get 1 2 (.slice (some ⟨G.next, 0, none⟩) 2 4) = .ok [.int .u16 (u : Int), .int .u16 (v : Int)] := elemsF_vals hv
  obtain ⟨y2, H, b2, k1, k2, k3, k4, k5⟩ := (h.same e1.n (fun hl => e1.g _ hl)).appends (tb := tb1) (st := 36) (xt := 36) (m := 2) (nl := [.int .u16 (u : Int), .int .u16 (v : Int)]) und36 und36 rfl zc43 ht1 (by omega) (by omega) (by rw [shorts_len]; omega) rfl hf rfl (fun w hw => by
    simp only [List.mem_cons, List.not_mem_nil, or_false] at hw
    rcases hw with rfl | rfl <;> rfl)
  refine ⟨y2, H, b2, k1, by rw [shorts_app]; exact k2, by rcases k4 with rfl | k4; exact .inl rfl; exact .inr (by omega), by omega, fun z hz hzl => ?_⟩
  rw [k5 z (fun e => absurd e hz) (by omega), e1.g z hzl]
theorem tmod_b (n : Int) {m : Nat} (h : 0 < m) : -(m : Int) ≤ n.tmod (m : Int) ∧ n.tmod (m : Int) ≤ (m : Int) := by
  cases n with
  | ofNat x =>
    have := Nat.mod_lt x h
    show -(m : Int) ≤ ((x % m : Nat) : Int) ∧ ((x % m : Nat) : Int) ≤ (m : Int)
    omega
  | negSucc x =>
    have := Nat.mod_lt (x + 1) h
    show -(m : Int) ≤ -(((x + 1) % m : Nat) : Int) ∧ -(((x + 1) % m : Nat) : Int) ≤ (m : Int)
    omega
noncomputable def c18 : Code := Try.f18.body.getD .skip
theorem c18_eq : Try.f18.body = some (.seq (sub c18 [0]) (.seq (sub c18 [1,0]) (.seq (sub c18 [1,1,0]) (.seq (sub c18 [1,1,1,0]) (.seq (sub c18 [1,1,1,1,0]) (.seq (sub c18 [1,1,1,1,1,0]) (.seq (sub c18 [1,1,1,1,1,1,0]) (.seq (sub c18 [1,1,1,1,1,1,1,0]) (sub c18 [1,1,1,1,1,1,1,1]))))))))) := by kernel_rfl
/-- A turn: what, where, how much, a word. -/
structure TurnD where
  what : Nat
  at_ : Nat
  n : Int
  w : List UInt8
def turnV (u : TurnD) : Value := .agg ⟨[.int .u8 (u.what : Int), .int .u8 (u.at_ : Int), .int .i16 u.n, strOf u.w]⟩
def trS (A : Mem) (n : Int) : List (Nat × Value) := [(2, .pointer (some ⟨A.next, 0, none⟩)), (3, .pointer (some ⟨A.next + 1, 0, none⟩)), (4, .pointer (some ⟨A.next + 2, 0, none⟩)), (5, .int .i64 n)]
section
variable {A B C : Mem} {u : TurnD} {s : SetG} {xa : Value} {t : T Value} {K : Ex → St → Prop} {r : Nat}
set_option maxHeartbeats 16000000 in
theorem turn_first (hn : -40000 ≤ u.n ∧ u.n ≤ 40000) (hwb : u.what < 256) (hC : SetC r s) (hu : Vals B 60 A.next (.var 4) [.int .u8 (u.what : Int), .int .u8 (u.at_ : Int), .int .i16 u.n, strOf u.w]) (hv : Vals B 28 (A.next + 1) (.var 4) (cellsS s xa)) (hp : Sl t (trS A u.n))
    (hK : ∀ t' C s1, s1.acts = s.acts → SetC r s1 → Vals C 28 (A.next + 1) (.var 4) (cellsS s1 xa) → C.next = B.next → (∀ y, y ≠ A.next + 1 → C.get y = B.get y) → Sl t' (trS A u.n) → K .nrm ⟨t', 152, [], C, none⟩) :
    W tb1 (sub c18 [1,1,0]) ⟨t, 152, [], B, none⟩ K := by
  obtain ⟨g2, g3, g4, g5, -⟩ := hp
  have lw : loadF tb1 B.get 5 (.pointer (some ⟨A.next, 0, none⟩)) = .ok (.int .u8 (u.what : Int)) := load_vals und5 rfl hu rfl
  obtain ⟨k, hk⟩ : ∃ k, u.what % 12 = k := ⟨_, rfl⟩
  by_cases h0 : k = 0
  · subst h0
    obtain ⟨D, hst, v1, n1, f1⟩ := store_vals (tb := tb1) (t := 3) (o := 0) (v := .int .i64 u.n) size3 hv (by simp [cellsS]) rfl rfl
    apply W.run 20
    · intro M
      simp (config := { maxSteps := 4000000 }) (disch := first | decide +kernel | omega) only [c18, Try.f18, Option.getD_some, sub_seq1, sub_seq0, sub_nil, exec_seq, exec_region, runOps_cons, opF_fieldAddr, ev_tmp, g2, evG_some, putT_some, opF_load, T.get_set, if_true, opF_ari, Nat.reduceEqDiff, if_false, ev_int, runOps_nil, R.ok_bind, fa60_0, lw, binF_int, op_rem, hk, exec_block, opF_eql, exec_cond, opF_move, exec_skip, opF_assign, op_eql, decide_true, g5, g3, opF_store, putT_none, fa28_0, fa25_0, hst, decide_false]
      with_reducible rfl
    refine hK _ D { s with wal := u.n } rfl { hC with wal := by show -1000000 ≤ u.n ∧ u.n ≤ 1000000; omega } v1 n1 f1 ?_
    unfold trS; simp only [Sl_cons, Sl_nil, T.get_set, T.puts_cons, T.puts_nil, Nat.reduceEqDiff, Nat.reduceAdd, if_true, if_false, and_true, true_and, g2, g3, g4, g5]
  by_cases h1 : k = 1
  · subst h1
    have hb1 : -12 ≤ u.n.tmod 12 ∧ u.n.tmod 12 ≤ 12 := tmod_b u.n (m := 12) (by omega)
    have i1 : intOpF .rem .i64 u.n ((12 : Nat) : Int) = .ok (.int .i64 (u.n.tmod 12)) := op_remI (by omega)
    obtain ⟨D, hst, v1, n1, f1⟩ := store_vals (tb := tb1) (t := 3) (o := 1) (v := .int .i64 (u.n.tmod 12)) size3 hv (by simp [cellsS]) rfl rfl
    apply W.run 20
    · intro M
      simp (config := { maxSteps := 4000000 }) (disch := first | decide +kernel | omega) only [c18, Try.f18, Option.getD_some, sub_seq1, sub_seq0, sub_nil, exec_seq, exec_region, runOps_cons, opF_fieldAddr, ev_tmp, g2, evG_some, putT_some, opF_load, T.get_set, if_true, opF_ari, Nat.reduceEqDiff, if_false, ev_int, runOps_nil, R.ok_bind, fa60_0, lw, binF_int, op_rem, hk, exec_block, opF_eql, exec_cond, opF_move, exec_skip, opF_assign, op_eql, decide_false, g5, g3, opF_store, putT_none, fa28_0, decide_true, fa25_1, i1, hst]
      with_reducible rfl
    refine hK _ D { s with fan := u.n.tmod 12 } rfl { hC with fan := by show -1000000 ≤ u.n.tmod 12 ∧ u.n.tmod 12 ≤ 1000000; omega } v1 n1 f1 ?_
    unfold trS; simp only [Sl_cons, Sl_nil, T.get_set, T.puts_cons, T.puts_nil, Nat.reduceEqDiff, Nat.reduceAdd, if_true, if_false, and_true, true_and, g2, g3, g4, g5]
  by_cases h2 : k = 2
  · subst h2
    have i1 : intOpF .mul .i64 u.n ((7 : Nat) : Int) = .ok (.int .i64 (u.n * 7)) := op_mulI (by omega) (by omega)
    obtain ⟨D, hst, v1, n1, f1⟩ := store_vals (tb := tb1) (t := 3) (o := 2) (v := .int .i64 (u.n * 7)) size3 hv (by simp [cellsS]) rfl rfl
    apply W.run 20
    · intro M
      simp (config := { maxSteps := 4000000 }) (disch := first | decide +kernel | omega) only [c18, Try.f18, Option.getD_some, sub_seq1, sub_seq0, sub_nil, exec_seq, exec_region, runOps_cons, opF_fieldAddr, ev_tmp, g2, evG_some, putT_some, opF_load, T.get_set, if_true, opF_ari, Nat.reduceEqDiff, if_false, ev_int, runOps_nil, R.ok_bind, fa60_0, lw, binF_int, op_rem, hk, exec_block, opF_eql, exec_cond, opF_move, exec_skip, opF_assign, op_eql, decide_false, g5, g3, opF_store, putT_none, decide_true, fa28_1, i1, hst]
      with_reducible rfl
    refine hK _ D { s with quota := u.n * 7 } rfl { hC with quota := by show -1000000 ≤ u.n * 7 ∧ u.n * 7 ≤ 1000000; omega } v1 n1 f1 ?_
    unfold trS; simp only [Sl_cons, Sl_nil, T.get_set, T.puts_cons, T.puts_nil, Nat.reduceEqDiff, Nat.reduceAdd, if_true, if_false, and_true, true_and, g2, g3, g4, g5]
  · apply W.run 20
    · intro M
      simp (config := { maxSteps := 4000000 }) (disch := first | decide +kernel | omega) only [c18, Try.f18, Option.getD_some, sub_seq1, sub_seq0, sub_nil, exec_seq, exec_region, runOps_cons, opF_fieldAddr, ev_tmp, g2, evG_some, putT_some, opF_load, T.get_set, if_true, opF_ari, Nat.reduceEqDiff, if_false, ev_int, runOps_nil, R.ok_bind, fa60_0, lw, binF_int, op_rem, hk, exec_block, opF_eql, exec_cond, opF_move, exec_skip, opF_assign, op_eql, h0, decide_false, g5, g3, opF_store, putT_none, h1, h2]
      with_reducible rfl
    refine hK _ B s rfl hC hv rfl (fun _ _ => rfl) ?_
    unfold trS; simp only [Sl_cons, Sl_nil, T.get_set, T.puts_cons, T.puts_nil, Nat.reduceEqDiff, Nat.reduceAdd, if_true, if_false, and_true, true_and, g2, g3, g4, g5]
end
end Go.Proofs.Ytmhldlnlgjpkaaa.scr

/-
  Script: an act is turned.
-/
namespace Go.Proofs.Ytmhldlnlgjpkaaa.scr
open Go.Am
set_option linter.unusedSimpArgs false
set_option linter.unusedVariables false
set_option linter.unusedVariables false
set_option maxRecDepth 20000

section
variable {A E : Mem} {n : Int} {p : Value} {k : Nat} {K : Ex → St → Prop}
theorem sw3_eq : sub c18 [1,1,1,1,1,1,0,1,0] = .seq (sub c18 [1,1,1,1,1,1,0,1,0,0]) (.cond (.tmp 52) (sub c18 [1,1,1,1,1,1,0,1,0,1,0]) (sub c18 [1,1,1,1,1,1,0,1,0,1,1])) := by kernel_rfl
set_option maxHeartbeats 4000000 in
theorem sw3 {t : T Value} (h51 : t.get 51 = some (.int .u8 (k : Int))) (hp : Sl t (trS A n ++ [(6, p)]))
    (h1 : k = 3 → ∀ t', Sl t' (trS A n ++ [(6, p)]) → W tb1 (sub c18 [1,1,1,1,1,1,0,1,0,1,0]) ⟨t', 152, [], E, none⟩ K)
    (h2 : k ≠ 3 → ∀ t', Sl t' (trS A n ++ [(6, p)]) → t'.get 51 = some (.int .u8 (k : Int)) → W tb1 (sub c18 [1,1,1,1,1,1,0,1,0,1,1]) ⟨t', 152, [], E, none⟩ K) : W tb1 (sub c18 [1,1,1,1,1,1,0,1,0]) ⟨t, 152, [], E, none⟩ K := by
  obtain ⟨g2, g3, g4, g5, g6, -⟩ := hp
  rw [sw3_eq]
  apply W.seq
  by_cases hk : k = 3
  · subst hk
    apply W.run 20
    · intro M
      simp (config := { maxSteps := 4000000 }) (disch := first | decide +kernel | omega) only [c18, Try.f18, Option.getD_some, sub_seq1, sub_seq0, sub_block, sub_nil, exec_region, runOps_cons, opF_eql, ev_tmp, h51, evG_some, ev_int, putT_some, opF_assign, T.get_set, if_true, runOps_nil, R.ok_bind, binF_int, op_eql, decide_true]
      with_reducible rfl
    refine W.cond (p := true) (by simp only [ev_tmp, T.get_set, if_true, evG_some]) (fun _ => ?_) (fun h => by cases h)
    refine h1 rfl _ ?_
    unfold trS; simp only [Sl_cons, Sl_nil, T.get_set, T.puts_cons, T.puts_nil, Nat.reduceEqDiff, Nat.reduceAdd, if_true, if_false, and_true, true_and, List.cons_append, List.nil_append, g2, g3, g4, g5, g6]
  · apply W.run 20
    · intro M
      simp (config := { maxSteps := 4000000 }) (disch := first | decide +kernel | omega) only [c18, Try.f18, Option.getD_some, sub_seq1, sub_seq0, sub_block, sub_nil, exec_region, runOps_cons, opF_eql, ev_tmp, h51, evG_some, ev_int, putT_some, opF_assign, T.get_set, if_true, runOps_nil, R.ok_bind, binF_int, op_eql, hk, decide_false]
      with_reducible rfl
    refine W.cond (p := false) (by simp only [ev_tmp, T.get_set, if_true, evG_some]) (fun h => by cases h) (fun _ => ?_)
    refine h2 hk _ ?_ (by simp only [T.get_set, Nat.reduceEqDiff, if_true, if_false, h51])
    unfold trS; simp only [Sl_cons, Sl_nil, T.get_set, T.puts_cons, T.puts_nil, Nat.reduceEqDiff, Nat.reduceAdd, if_true, if_false, and_true, true_and, List.cons_append, List.nil_append, g2, g3, g4, g5, g6]
theorem sw4_eq : sub c18 [1,1,1,1,1,1,0,1,0,1,1] = .seq (sub c18 [1,1,1,1,1,1,0,1,0,1,1,0]) (.cond (.tmp 60) (sub c18 [1,1,1,1,1,1,0,1,0,1,1,1,0]) (sub c18 [1,1,1,1,1,1,0,1,0,1,1,1,1])) := by kernel_rfl
set_option maxHeartbeats 4000000 in
theorem sw4 {t : T Value} (h51 : t.get 51 = some (.int .u8 (k : Int))) (hp : Sl t (trS A n ++ [(6, p)]))
    (h1 : k = 4 → ∀ t', Sl t' (trS A n ++ [(6, p)]) → W tb1 (sub c18 [1,1,1,1,1,1,0,1,0,1,1,1,0]) ⟨t', 152, [], E, none⟩ K)
    (h2 : k ≠ 4 → ∀ t', Sl t' (trS A n ++ [(6, p)]) → t'.get 51 = some (.int .u8 (k : Int)) → W tb1 (sub c18 [1,1,1,1,1,1,0,1,0,1,1,1,1]) ⟨t', 152, [], E, none⟩ K) : W tb1 (sub c18 [1,1,1,1,1,1,0,1,0,1,1]) ⟨t, 152, [], E, none⟩ K := by
  obtain ⟨g2, g3, g4, g5, g6, -⟩ := hp
  rw [sw4_eq]
  apply W.seq
  by_cases hk : k = 4
  · subst hk
    apply W.run 20
    · intro M
      simp (config := { maxSteps := 4000000 }) (disch := first | decide +kernel | omega) only [c18, Try.f18, Option.getD_some, sub_seq1, sub_seq0, sub_block, sub_cond1, sub_nil, exec_region, runOps_cons, opF_eql, ev_tmp, h51, evG_some, ev_int, putT_some, opF_assign, T.get_set, if_true, runOps_nil, R.ok_bind, binF_int, op_eql, decide_true]
      with_reducible rfl
    refine W.cond (p := true) (by simp only [ev_tmp, T.get_set, if_true, evG_some]) (fun _ => ?_) (fun h => by cases h)
    refine h1 rfl _ ?_
    unfold trS; simp only [Sl_cons, Sl_nil, T.get_set, T.puts_cons, T.puts_nil, Nat.reduceEqDiff, Nat.reduceAdd, if_true, if_false, and_true, true_and, List.cons_append, List.nil_append, g2, g3, g4, g5, g6]
  · apply W.run 20
    · intro M
      simp (config := { maxSteps := 4000000 }) (disch := first | decide +kernel | omega) only [c18, Try.f18, Option.getD_some, sub_seq1, sub_seq0, sub_block, sub_cond1, sub_nil, exec_region, runOps_cons, opF_eql, ev_tmp, h51, evG_some, ev_int, putT_some, opF_assign, T.get_set, if_true, runOps_nil, R.ok_bind, binF_int, op_eql, hk, decide_false]
      with_reducible rfl
    refine W.cond (p := false) (by simp only [ev_tmp, T.get_set, if_true, evG_some]) (fun h => by cases h) (fun _ => ?_)
    refine h2 hk _ ?_ (by simp only [T.get_set, Nat.reduceEqDiff, if_true, if_false, h51])
    unfold trS; simp only [Sl_cons, Sl_nil, T.get_set, T.puts_cons, T.puts_nil, Nat.reduceEqDiff, Nat.reduceAdd, if_true, if_false, and_true, true_and, List.cons_append, List.nil_append, g2, g3, g4, g5, g6]
theorem sw5_eq : sub c18 [1,1,1,1,1,1,0,1,0,1,1,1,1] = .seq (sub c18 [1,1,1,1,1,1,0,1,0,1,1,1,1,0]) (.cond (.tmp 73) (sub c18 [1,1,1,1,1,1,0,1,0,1,1,1,1,1,0]) (sub c18 [1,1,1,1,1,1,0,1,0,1,1,1,1,1,1])) := by kernel_rfl
set_option maxHeartbeats 4000000 in
theorem sw5 {t : T Value} (h51 : t.get 51 = some (.int .u8 (k : Int))) (hp : Sl t (trS A n ++ [(6, p)]))
    (h1 : k = 5 → ∀ t', Sl t' (trS A n ++ [(6, p)]) → W tb1 (sub c18 [1,1,1,1,1,1,0,1,0,1,1,1,1,1,0]) ⟨t', 152, [], E, none⟩ K)
    (h2 : k ≠ 5 → ∀ t', Sl t' (trS A n ++ [(6, p)]) → t'.get 51 = some (.int .u8 (k : Int)) → W tb1 (sub c18 [1,1,1,1,1,1,0,1,0,1,1,1,1,1,1]) ⟨t', 152, [], E, none⟩ K) : W tb1 (sub c18 [1,1,1,1,1,1,0,1,0,1,1,1,1]) ⟨t, 152, [], E, none⟩ K := by
  obtain ⟨g2, g3, g4, g5, g6, -⟩ := hp
  rw [sw5_eq]
  apply W.seq
  by_cases hk : k = 5
  · subst hk
    apply W.run 20
    · intro M
      simp (config := { maxSteps := 4000000 }) (disch := first | decide +kernel | omega) only [c18, Try.f18, Option.getD_some, sub_seq1, sub_seq0, sub_block, sub_cond1, sub_nil, exec_region, runOps_cons, opF_eql, ev_tmp, h51, evG_some, ev_int, putT_some, opF_assign, T.get_set, if_true, runOps_nil, R.ok_bind, binF_int, op_eql, decide_true]
      with_reducible rfl
    refine W.cond (p := true) (by simp only [ev_tmp, T.get_set, if_true, evG_some]) (fun _ => ?_) (fun h => by cases h)
    refine h1 rfl _ ?_
    unfold trS; simp only [Sl_cons, Sl_nil, T.get_set, T.puts_cons, T.puts_nil, Nat.reduceEqDiff, Nat.reduceAdd, if_true, if_false, and_true, true_and, List.cons_append, List.nil_append, g2, g3, g4, g5, g6]
  · apply W.run 20
    · intro M
      simp (config := { maxSteps := 4000000 }) (disch := first | decide +kernel | omega) only [c18, Try.f18, Option.getD_some, sub_seq1, sub_seq0, sub_block, sub_cond1, sub_nil, exec_region, runOps_cons, opF_eql, ev_tmp, h51, evG_some, ev_int, putT_some, opF_assign, T.get_set, if_true, runOps_nil, R.ok_bind, binF_int, op_eql, hk, decide_false]
      with_reducible rfl
    refine W.cond (p := false) (by simp only [ev_tmp, T.get_set, if_true, evG_some]) (fun h => by cases h) (fun _ => ?_)
    refine h2 hk _ ?_ (by simp only [T.get_set, Nat.reduceEqDiff, if_true, if_false, h51])
    unfold trS; simp only [Sl_cons, Sl_nil, T.get_set, T.puts_cons, T.puts_nil, Nat.reduceEqDiff, Nat.reduceAdd, if_true, if_false, and_true, true_and, List.cons_append, List.nil_append, g2, g3, g4, g5, g6]
theorem sw6_eq : sub c18 [1,1,1,1,1,1,0,1,0,1,1,1,1,1,1] = .seq (sub c18 [1,1,1,1,1,1,0,1,0,1,1,1,1,1,1,0]) (.cond (.tmp 81) (sub c18 [1,1,1,1,1,1,0,1,0,1,1,1,1,1,1,1,0]) (sub c18 [1,1,1,1,1,1,0,1,0,1,1,1,1,1,1,1,1])) := by kernel_rfl
set_option maxHeartbeats 4000000 in
theorem sw6 {t : T Value} (h51 : t.get 51 = some (.int .u8 (k : Int))) (hp : Sl t (trS A n ++ [(6, p)]))
    (h1 : k = 6 → ∀ t', Sl t' (trS A n ++ [(6, p)]) → W tb1 (sub c18 [1,1,1,1,1,1,0,1,0,1,1,1,1,1,1,1,0]) ⟨t', 152, [], E, none⟩ K)
    (h2 : k ≠ 6 → ∀ t', Sl t' (trS A n ++ [(6, p)]) → t'.get 51 = some (.int .u8 (k : Int)) → W tb1 (sub c18 [1,1,1,1,1,1,0,1,0,1,1,1,1,1,1,1,1]) ⟨t', 152, [], E, none⟩ K) : W tb1 (sub c18 [1,1,1,1,1,1,0,1,0,1,1,1,1,1,1]) ⟨t, 152, [], E, none⟩ K := by
  obtain ⟨g2, g3, g4, g5, g6, -⟩ := hp
  rw [sw6_eq]
  apply W.seq
  by_cases hk : k = 6
  · subst hk
    apply W.run 20
    · intro M
      simp (config := { maxSteps := 4000000 }) (disch := first | decide +kernel | omega) only [c18, Try.f18, Option.getD_some, sub_seq1, sub_seq0, sub_block, sub_cond1, sub_nil, exec_region, runOps_cons, opF_eql, ev_tmp, h51, evG_some, ev_int, putT_some, opF_assign, T.get_set, if_true, runOps_nil, R.ok_bind, binF_int, op_eql, decide_true]
      with_reducible rfl
    refine W.cond (p := true) (by simp only [ev_tmp, T.get_set, if_true, evG_some]) (fun _ => ?_) (fun h => by cases h)
    refine h1 rfl _ ?_
    unfold trS; simp only [Sl_cons, Sl_nil, T.get_set, T.puts_cons, T.puts_nil, Nat.reduceEqDiff, Nat.reduceAdd, if_true, if_false, and_true, true_and, List.cons_append, List.nil_append, g2, g3, g4, g5, g6]
  · apply W.run 20
    · intro M
      simp (config := { maxSteps := 4000000 }) (disch := first | decide +kernel | omega) only [c18, Try.f18, Option.getD_some, sub_seq1, sub_seq0, sub_block, sub_cond1, sub_nil, exec_region, runOps_cons, opF_eql, ev_tmp, h51, evG_some, ev_int, putT_some, opF_assign, T.get_set, if_true, runOps_nil, R.ok_bind, binF_int, op_eql, hk, decide_false]
      with_reducible rfl
    refine W.cond (p := false) (by simp only [ev_tmp, T.get_set, if_true, evG_some]) (fun h => by cases h) (fun _ => ?_)
    refine h2 hk _ ?_ (by simp only [T.get_set, Nat.reduceEqDiff, if_true, if_false, h51])
    unfold trS; simp only [Sl_cons, Sl_nil, T.get_set, T.puts_cons, T.puts_nil, Nat.reduceEqDiff, Nat.reduceAdd, if_true, if_false, and_true, true_and, List.cons_append, List.nil_append, g2, g3, g4, g5, g6]
theorem sw7_eq : sub c18 [1,1,1,1,1,1,0,1,0,1,1,1,1,1,1,1,1] = .seq (sub c18 [1,1,1,1,1,1,0,1,0,1,1,1,1,1,1,1,1,0]) (.cond (.tmp 89) (sub c18 [1,1,1,1,1,1,0,1,0,1,1,1,1,1,1,1,1,1,0]) (sub c18 [1,1,1,1,1,1,0,1,0,1,1,1,1,1,1,1,1,1,1])) := by kernel_rfl
set_option maxHeartbeats 4000000 in
theorem sw7 {t : T Value} (h51 : t.get 51 = some (.int .u8 (k : Int))) (hp : Sl t (trS A n ++ [(6, p)]))
    (h1 : k = 7 → ∀ t', Sl t' (trS A n ++ [(6, p)]) → W tb1 (sub c18 [1,1,1,1,1,1,0,1,0,1,1,1,1,1,1,1,1,1,0]) ⟨t', 152, [], E, none⟩ K)
    (h2 : k ≠ 7 → ∀ t', Sl t' (trS A n ++ [(6, p)]) → t'.get 51 = some (.int .u8 (k : Int)) → W tb1 (sub c18 [1,1,1,1,1,1,0,1,0,1,1,1,1,1,1,1,1,1,1]) ⟨t', 152, [], E, none⟩ K) : W tb1 (sub c18 [1,1,1,1,1,1,0,1,0,1,1,1,1,1,1,1,1]) ⟨t, 152, [], E, none⟩ K := by
  obtain ⟨g2, g3, g4, g5, g6, -⟩ := hp
  rw [sw7_eq]
  apply W.seq
  by_cases hk : k = 7
  · subst hk
    apply W.run 20
    · intro M
      simp (config := { maxSteps := 4000000 }) (disch := first | decide +kernel | omega) only [c18, Try.f18, Option.getD_some, sub_seq1, sub_seq0, sub_block, sub_cond1, sub_nil, exec_region, runOps_cons, opF_eql, ev_tmp, h51, evG_some, ev_int, putT_some, opF_assign, T.get_set, if_true, runOps_nil, R.ok_bind, binF_int, op_eql, decide_true]
      with_reducible rfl
    refine W.cond (p := true) (by simp only [ev_tmp, T.get_set, if_true, evG_some]) (fun _ => ?_) (fun h => by cases h)
    refine h1 rfl _ ?_
    unfold trS; simp only [Sl_cons, Sl_nil, T.get_set, T.puts_cons, T.puts_nil, Nat.reduceEqDiff, Nat.reduceAdd, if_true, if_false, and_true, true_and, List.cons_append, List.nil_append, g2, g3, g4, g5, g6]
  · apply W.run 20
    · intro M
      simp (config := { maxSteps := 4000000 }) (disch := first | decide +kernel | omega) only [c18, Try.f18, Option.getD_some, sub_seq1, sub_seq0, sub_block, sub_cond1, sub_nil, exec_region, runOps_cons, opF_eql, ev_tmp, h51, evG_some, ev_int, putT_some, opF_assign, T.get_set, if_true, runOps_nil, R.ok_bind, binF_int, op_eql, hk, decide_false]
      with_reducible rfl
    refine W.cond (p := false) (by simp only [ev_tmp, T.get_set, if_true, evG_some]) (fun h => by cases h) (fun _ => ?_)
    refine h2 hk _ ?_ (by simp only [T.get_set, Nat.reduceEqDiff, if_true, if_false, h51])
    unfold trS; simp only [Sl_cons, Sl_nil, T.get_set, T.puts_cons, T.puts_nil, Nat.reduceEqDiff, Nat.reduceAdd, if_true, if_false, and_true, true_and, List.cons_append, List.nil_append, g2, g3, g4, g5, g6]
theorem sw8_eq : sub c18 [1,1,1,1,1,1,0,1,0,1,1,1,1,1,1,1,1,1,1] = .seq (sub c18 [1,1,1,1,1,1,0,1,0,1,1,1,1,1,1,1,1,1,1,0]) (.cond (.tmp 97) (sub c18 [1,1,1,1,1,1,0,1,0,1,1,1,1,1,1,1,1,1,1,1,0]) (sub c18 [1,1,1,1,1,1,0,1,0,1,1,1,1,1,1,1,1,1,1,1,1])) := by kernel_rfl
set_option maxHeartbeats 4000000 in
theorem sw8 {t : T Value} (h51 : t.get 51 = some (.int .u8 (k : Int))) (hp : Sl t (trS A n ++ [(6, p)]))
    (h1 : k = 8 → ∀ t', Sl t' (trS A n ++ [(6, p)]) → W tb1 (sub c18 [1,1,1,1,1,1,0,1,0,1,1,1,1,1,1,1,1,1,1,1,0]) ⟨t', 152, [], E, none⟩ K)
    (h2 : k ≠ 8 → ∀ t', Sl t' (trS A n ++ [(6, p)]) → t'.get 51 = some (.int .u8 (k : Int)) → W tb1 (sub c18 [1,1,1,1,1,1,0,1,0,1,1,1,1,1,1,1,1,1,1,1,1]) ⟨t', 152, [], E, none⟩ K) : W tb1 (sub c18 [1,1,1,1,1,1,0,1,0,1,1,1,1,1,1,1,1,1,1]) ⟨t, 152, [], E, none⟩ K := by
  obtain ⟨g2, g3, g4, g5, g6, -⟩ := hp
  rw [sw8_eq]
  apply W.seq
  by_cases hk : k = 8
  · subst hk
    apply W.run 20
    · intro M
      simp (config := { maxSteps := 4000000 }) (disch := first | decide +kernel | omega) only [c18, Try.f18, Option.getD_some, sub_seq1, sub_seq0, sub_block, sub_cond1, sub_nil, exec_region, runOps_cons, opF_eql, ev_tmp, h51, evG_some, ev_int, putT_some, opF_assign, T.get_set, if_true, runOps_nil, R.ok_bind, binF_int, op_eql, decide_true]
      with_reducible rfl
    refine W.cond (p := true) (by simp only [ev_tmp, T.get_set, if_true, evG_some]) (fun _ => ?_) (fun h => by cases h)
    refine h1 rfl _ ?_
    unfold trS; simp only [Sl_cons, Sl_nil, T.get_set, T.puts_cons, T.puts_nil, Nat.reduceEqDiff, Nat.reduceAdd, if_true, if_false, and_true, true_and, List.cons_append, List.nil_append, g2, g3, g4, g5, g6]
  · apply W.run 20
    · intro M
      simp (config := { maxSteps := 4000000 }) (disch := first | decide +kernel | omega) only [c18, Try.f18, Option.getD_some, sub_seq1, sub_seq0, sub_block, sub_cond1, sub_nil, exec_region, runOps_cons, opF_eql, ev_tmp, h51, evG_some, ev_int, putT_some, opF_assign, T.get_set, if_true, runOps_nil, R.ok_bind, binF_int, op_eql, hk, decide_false]
      with_reducible rfl
    refine W.cond (p := false) (by simp only [ev_tmp, T.get_set, if_true, evG_some]) (fun h => by cases h) (fun _ => ?_)
    refine h2 hk _ ?_ (by simp only [T.get_set, Nat.reduceEqDiff, if_true, if_false, h51])
    unfold trS; simp only [Sl_cons, Sl_nil, T.get_set, T.puts_cons, T.puts_nil, Nat.reduceEqDiff, Nat.reduceAdd, if_true, if_false, and_true, true_and, List.cons_append, List.nil_append, g2, g3, g4, g5, g6]
theorem sw9_eq : sub c18 [1,1,1,1,1,1,0,1,0,1,1,1,1,1,1,1,1,1,1,1,1] = .seq (sub c18 [1,1,1,1,1,1,0,1,0,1,1,1,1,1,1,1,1,1,1,1,1,0]) (.cond (.tmp 104) (sub c18 [1,1,1,1,1,1,0,1,0,1,1,1,1,1,1,1,1,1,1,1,1,1,0]) (sub c18 [1,1,1,1,1,1,0,1,0,1,1,1,1,1,1,1,1,1,1,1,1,1,1])) := by kernel_rfl
set_option maxHeartbeats 4000000 in
theorem sw9 {t : T Value} (h51 : t.get 51 = some (.int .u8 (k : Int))) (hp : Sl t (trS A n ++ [(6, p)]))
    (h1 : k = 9 → ∀ t', Sl t' (trS A n ++ [(6, p)]) → W tb1 (sub c18 [1,1,1,1,1,1,0,1,0,1,1,1,1,1,1,1,1,1,1,1,1,1,0]) ⟨t', 152, [], E, none⟩ K)
    (h2 : k ≠ 9 → ∀ t', Sl t' (trS A n ++ [(6, p)]) → t'.get 51 = some (.int .u8 (k : Int)) → W tb1 (sub c18 [1,1,1,1,1,1,0,1,0,1,1,1,1,1,1,1,1,1,1,1,1,1,1]) ⟨t', 152, [], E, none⟩ K) : W tb1 (sub c18 [1,1,1,1,1,1,0,1,0,1,1,1,1,1,1,1,1,1,1,1,1]) ⟨t, 152, [], E, none⟩ K := by
  obtain ⟨g2, g3, g4, g5, g6, -⟩ := hp
  rw [sw9_eq]
  apply W.seq
  by_cases hk : k = 9
  · subst hk
    apply W.run 20
    · intro M
      simp (config := { maxSteps := 4000000 }) (disch := first | decide +kernel | omega) only [c18, Try.f18, Option.getD_some, sub_seq1, sub_seq0, sub_block, sub_cond1, sub_nil, exec_region, runOps_cons, opF_eql, ev_tmp, h51, evG_some, ev_int, putT_some, opF_assign, T.get_set, if_true, runOps_nil, R.ok_bind, binF_int, op_eql, decide_true]
      with_reducible rfl
    refine W.cond (p := true) (by simp only [ev_tmp, T.get_set, if_true, evG_some]) (fun _ => ?_) (fun h => by cases h)
    refine h1 rfl _ ?_
    unfold trS; simp only [Sl_cons, Sl_nil, T.get_set, T.puts_cons, T.puts_nil, Nat.reduceEqDiff, Nat.reduceAdd, if_true, if_false, and_true, true_and, List.cons_append, List.nil_append, g2, g3, g4, g5, g6]
  · apply W.run 20
    · intro M
      simp (config := { maxSteps := 4000000 }) (disch := first | decide +kernel | omega) only [c18, Try.f18, Option.getD_some, sub_seq1, sub_seq0, sub_block, sub_cond1, sub_nil, exec_region, runOps_cons, opF_eql, ev_tmp, h51, evG_some, ev_int, putT_some, opF_assign, T.get_set, if_true, runOps_nil, R.ok_bind, binF_int, op_eql, hk, decide_false]
      with_reducible rfl
    refine W.cond (p := false) (by simp only [ev_tmp, T.get_set, if_true, evG_some]) (fun h => by cases h) (fun _ => ?_)
    refine h2 hk _ ?_ (by simp only [T.get_set, Nat.reduceEqDiff, if_true, if_false, h51])
    unfold trS; simp only [Sl_cons, Sl_nil, T.get_set, T.puts_cons, T.puts_nil, Nat.reduceEqDiff, Nat.reduceAdd, if_true, if_false, and_true, true_and, List.cons_append, List.nil_append, g2, g3, g4, g5, g6]
theorem sw10_eq : sub c18 [1,1,1,1,1,1,0,1,0,1,1,1,1,1,1,1,1,1,1,1,1,1,1] = .seq (sub c18 [1,1,1,1,1,1,0,1,0,1,1,1,1,1,1,1,1,1,1,1,1,1,1,0]) (.cond (.tmp 114) (sub c18 [1,1,1,1,1,1,0,1,0,1,1,1,1,1,1,1,1,1,1,1,1,1,1,1,0]) (sub c18 [1,1,1,1,1,1,0,1,0,1,1,1,1,1,1,1,1,1,1,1,1,1,1,1,1])) := by kernel_rfl
set_option maxHeartbeats 4000000 in
theorem sw10 {t : T Value} (h51 : t.get 51 = some (.int .u8 (k : Int))) (hp : Sl t (trS A n ++ [(6, p)]))
    (h1 : k = 10 → ∀ t', Sl t' (trS A n ++ [(6, p)]) → W tb1 (sub c18 [1,1,1,1,1,1,0,1,0,1,1,1,1,1,1,1,1,1,1,1,1,1,1,1,0]) ⟨t', 152, [], E, none⟩ K)
    (h2 : k ≠ 10 → ∀ t', Sl t' (trS A n ++ [(6, p)]) → t'.get 51 = some (.int .u8 (k : Int)) → W tb1 (sub c18 [1,1,1,1,1,1,0,1,0,1,1,1,1,1,1,1,1,1,1,1,1,1,1,1,1]) ⟨t', 152, [], E, none⟩ K) : W tb1 (sub c18 [1,1,1,1,1,1,0,1,0,1,1,1,1,1,1,1,1,1,1,1,1,1,1]) ⟨t, 152, [], E, none⟩ K := by
  obtain ⟨g2, g3, g4, g5, g6, -⟩ := hp
  rw [sw10_eq]
  apply W.seq
  by_cases hk : k = 10
  · subst hk
    apply W.run 20
    · intro M
      simp (config := { maxSteps := 4000000 }) (disch := first | decide +kernel | omega) only [c18, Try.f18, Option.getD_some, sub_seq1, sub_seq0, sub_block, sub_cond1, sub_nil, exec_region, runOps_cons, opF_eql, ev_tmp, h51, evG_some, ev_int, putT_some, opF_assign, T.get_set, if_true, runOps_nil, R.ok_bind, binF_int, op_eql, decide_true]
      with_reducible rfl
    refine W.cond (p := true) (by simp only [ev_tmp, T.get_set, if_true, evG_some]) (fun _ => ?_) (fun h => by cases h)
    refine h1 rfl _ ?_
    unfold trS; simp only [Sl_cons, Sl_nil, T.get_set, T.puts_cons, T.puts_nil, Nat.reduceEqDiff, Nat.reduceAdd, if_true, if_false, and_true, true_and, List.cons_append, List.nil_append, g2, g3, g4, g5, g6]
  · apply W.run 20
    · intro M
      simp (config := { maxSteps := 4000000 }) (disch := first | decide +kernel | omega) only [c18, Try.f18, Option.getD_some, sub_seq1, sub_seq0, sub_block, sub_cond1, sub_nil, exec_region, runOps_cons, opF_eql, ev_tmp, h51, evG_some, ev_int, putT_some, opF_assign, T.get_set, if_true, runOps_nil, R.ok_bind, binF_int, op_eql, hk, decide_false]
      with_reducible rfl
    refine W.cond (p := false) (by simp only [ev_tmp, T.get_set, if_true, evG_some]) (fun h => by cases h) (fun _ => ?_)
    refine h2 hk _ ?_ (by simp only [T.get_set, Nat.reduceEqDiff, if_true, if_false, h51])
    unfold trS; simp only [Sl_cons, Sl_nil, T.get_set, T.puts_cons, T.puts_nil, Nat.reduceEqDiff, Nat.reduceAdd, if_true, if_false, and_true, true_and, List.cons_append, List.nil_append, g2, g3, g4, g5, g6]
theorem sw11_eq : sub c18 [1,1,1,1,1,1,0,1,0,1,1,1,1,1,1,1,1,1,1,1,1,1,1,1,1] = .seq (sub c18 [1,1,1,1,1,1,0,1,0,1,1,1,1,1,1,1,1,1,1,1,1,1,1,1,1,0]) (.cond (.tmp 130) (sub c18 [1,1,1,1,1,1,0,1,0,1,1,1,1,1,1,1,1,1,1,1,1,1,1,1,1,1,0]) (sub c18 [1,1,1,1,1,1,0,1,0,1,1,1,1,1,1,1,1,1,1,1,1,1,1,1,1,1,1])) := by kernel_rfl
set_option maxHeartbeats 4000000 in
theorem sw11 {t : T Value} (h51 : t.get 51 = some (.int .u8 (k : Int))) (hp : Sl t (trS A n ++ [(6, p)]))
    (h1 : k = 11 → ∀ t', Sl t' (trS A n ++ [(6, p)]) → W tb1 (sub c18 [1,1,1,1,1,1,0,1,0,1,1,1,1,1,1,1,1,1,1,1,1,1,1,1,1,1,0]) ⟨t', 152, [], E, none⟩ K)
    (h2 : k ≠ 11 → ∀ t', Sl t' (trS A n ++ [(6, p)]) → t'.get 51 = some (.int .u8 (k : Int)) → W tb1 (sub c18 [1,1,1,1,1,1,0,1,0,1,1,1,1,1,1,1,1,1,1,1,1,1,1,1,1,1,1]) ⟨t', 152, [], E, none⟩ K) : W tb1 (sub c18 [1,1,1,1,1,1,0,1,0,1,1,1,1,1,1,1,1,1,1,1,1,1,1,1,1]) ⟨t, 152, [], E, none⟩ K := by
  obtain ⟨g2, g3, g4, g5, g6, -⟩ := hp
  rw [sw11_eq]
  apply W.seq
  by_cases hk : k = 11
  · subst hk
    apply W.run 20
    · intro M
      simp (config := { maxSteps := 4000000 }) (disch := first | decide +kernel | omega) only [c18, Try.f18, Option.getD_some, sub_seq1, sub_seq0, sub_block, sub_cond1, sub_nil, exec_region, runOps_cons, opF_eql, ev_tmp, h51, evG_some, ev_int, putT_some, opF_assign, T.get_set, if_true, runOps_nil, R.ok_bind, binF_int, op_eql, decide_true]
      with_reducible rfl
    refine W.cond (p := true) (by simp only [ev_tmp, T.get_set, if_true, evG_some]) (fun _ => ?_) (fun h => by cases h)
    refine h1 rfl _ ?_
    unfold trS; simp only [Sl_cons, Sl_nil, T.get_set, T.puts_cons, T.puts_nil, Nat.reduceEqDiff, Nat.reduceAdd, if_true, if_false, and_true, true_and, List.cons_append, List.nil_append, g2, g3, g4, g5, g6]
  · apply W.run 20
    · intro M
      simp (config := { maxSteps := 4000000 }) (disch := first | decide +kernel | omega) only [c18, Try.f18, Option.getD_some, sub_seq1, sub_seq0, sub_block, sub_cond1, sub_nil, exec_region, runOps_cons, opF_eql, ev_tmp, h51, evG_some, ev_int, putT_some, opF_assign, T.get_set, if_true, runOps_nil, R.ok_bind, binF_int, op_eql, hk, decide_false]
      with_reducible rfl
    refine W.cond (p := false) (by simp only [ev_tmp, T.get_set, if_true, evG_some]) (fun h => by cases h) (fun _ => ?_)
    refine h2 hk _ ?_ (by simp only [T.get_set, Nat.reduceEqDiff, if_true, if_false, h51])
    unfold trS; simp only [Sl_cons, Sl_nil, T.get_set, T.puts_cons, T.puts_nil, Nat.reduceEqDiff, Nat.reduceAdd, if_true, if_false, and_true, true_and, List.cons_append, List.nil_append, g2, g3, g4, g5, g6]
end
theorem c18_6_eq : sub c18 [1,1,1,1,1,1,0] = .seq (sub c18 [1,1,1,1,1,1,0,0]) (.block 1 (sub c18 [1,1,1,1,1,1,0,1,0])) := by kernel_rfl
section
variable {A E : Mem} {u : TurnD} {d : ActG} {xs xo x' : Value} {ls : List (List Value)} {t : T Value} {K : Ex → St → Prop} {r b' j : Nat}
set_option maxHeartbeats 64000000 in
theorem turn_act (hn : -40000 ≤ u.n ∧ u.n ≤ 40000) (hwl : u.w.length < 9223372036854775808) (hC : ActC r d) (hr : r ≤ 10) (hE : Ext A E) (hEn : A.next + 3 ≤ b') (hb' : b' < E.next) (hu : Vals E 60 A.next (.var 4) [.int .u8 (u.what : Int), .int .u8 (u.at_ : Int), .int .i16 u.n, strOf u.w])
    (hs : SlcM E 39 9 b' ls x') (hj : ls[j]? = some (cellsG d xs xo)) (hA : ActGR A d (cellsG d xs xo)) (hp : Sl t (trS A u.n ++ [(6, .pointer (some ⟨b', j * 9, none⟩))]))
    (hK : ∀ t' F l' d', (∀ G : Mem, F.next ≤ G.next → (∀ y, y < A.next ∨ E.next ≤ y → G.get y = F.get y) → ActGR G d' l') → ActC (r + 1) d' → SlcM F 39 9 b' (ls.set j l') x' → E.next ≤ F.next → (∀ y, y < E.next → y ≠ b' → F.get y = E.get y) → Sl t' (trS A u.n) → K .nrm ⟨t', 152, [], F, none⟩) :
    W tb1 (sub c18 [1,1,1,1,1,1,0]) ⟨t, 152, [], E, none⟩ K := by
  obtain ⟨g2, g3, g4, g5, g6, -⟩ := hp
  have lw : loadF tb1 E.get 5 (.pointer (some ⟨A.next, 0, none⟩)) = .ok (.int .u8 (u.what : Int)) := load_vals und5 rfl hu rfl
  have lstr : loadF tb1 E.get 9 (.pointer (some ⟨A.next, 3, none⟩)) = .ok (strOf u.w) := load_vals und9 rfl hu rfl
  obtain ⟨xs0, xo0, e0, q2, q3, q4⟩ := hA
  have e0' : xs = xs0 ∧ xo = xo0 := by
    simp only [cellsG, List.cons.injEq, and_true, true_and] at e0
    exact e0
  obtain ⟨rfl, rfl⟩ := e0'
  have hAn := hE.n
  have C1 := hC.mono (show r ≤ r + 1 by omega)
  -- one cell that is stored
  have one : ∀ {ty off : Nat} {v : Value} {d' : ActG} {K : Ex → St → Prop}, sizeF tb1 ty = .ok 1 → off < 7 → v.cells.toList = [v] → oneCell v = true → (cellsG d xs xo).set off v = cellsG d' xs xo → d'.stays = d.stays → d'.opening = d.opening → ActC (r + 1) d' →
      (∀ t' F l' d', (∀ G : Mem, F.next ≤ G.next → (∀ y, y < A.next ∨ E.next ≤ y → G.get y = F.get y) → ActGR G d' l') → ActC (r + 1) d' → SlcM F 39 9 b' (ls.set j l') x' → E.next ≤ F.next → (∀ y, y < E.next → y ≠ b' → F.get y = E.get y) → Sl t' (trS A u.n) → K .nrm ⟨t', 152, [], F, none⟩) →
      ∃ F, storeF tb1 E ty (.pointer (some ⟨b', j * 9 + off, none⟩)) v = .ok F ∧ ∀ t', Sl t' (trS A u.n) → K .nrm ⟨t', 152, [], F, none⟩ := by
    intro ty off v d' K hsz hoff hv h1 hcs hst hop hC' hK
    obtain ⟨F, k1, k2, k3, k4⟩ := SlcM.put (j := off) hs hsz hj (by omega) hv h1
    have eF : Ext A F := ⟨by omega, fun y hy => by rw [k4 y (by omega), hE.g y hy]⟩
    refine ⟨F, k1, fun t' ht => hK t' F _ d' (fun G hG1 hG2 => by
      have eG : Ext A G := ⟨by have := eF.n; omega, fun y hy => by rw [hG2 y (.inl hy), eF.g y hy]⟩
      rw [hcs]; exact ⟨xs, xo, rfl, by rw [hst]; exact q2.ext eG, by rw [hst]; exact q3, by rw [hop]; exact q4.ext eG⟩) hC' k2 (by omega) (fun y hy hyb => k4 y hyb) ht⟩
  obtain ⟨k, hk⟩ : ∃ k, u.what % 12 = k := ⟨_, rfl⟩
  rw [c18_6_eq]
  apply W.seq
  apply W.run 20
  · intro M
    simp (config := { maxSteps := 4000000 }) (disch := first | decide +kernel | omega) only [c18, Try.f18, Option.getD_some, sub_seq1, sub_seq0, sub_nil, exec_region, runOps_cons, opF_fieldAddr, ev_tmp, g2, evG_some, putT_some, opF_load, T.get_set, if_true, opF_ari, Nat.reduceEqDiff, if_false, ev_int, runOps_nil, R.ok_bind, fa60_0, lw, binF_int, op_rem, hk]
    with_reducible rfl
  apply W.block
  refine sw3 (A := A) (n := u.n) (p := .pointer (some ⟨b', j * 9, none⟩)) (k := k) (by simp only [T.get_set, if_true]) (by unfold trS; simp only [Sl_cons, Sl_nil, T.get_set, T.puts_cons, T.puts_nil, Nat.reduceEqDiff, Nat.reduceAdd, if_true, if_false, and_true, true_and, List.cons_append, List.nil_append, g2, g3, g4, g5, g6]) (fun h3 t hp => ?_) (fun h3 t hp h51 => ?_)
  · obtain ⟨g2, g3, g4, g5, g6, -⟩ := hp
    subst h3
    have hb1 : -12 ≤ u.n.tmod 12 ∧ u.n.tmod 12 ≤ 12 := tmod_b u.n (m := 12) (by omega)
    have i1 : intOpF .rem .i64 u.n ((12 : Nat) : Int) = .ok (.int .i64 (u.n.tmod 12)) := op_remI (by omega)
    obtain ⟨F, hst, fin⟩ := one (ty := 3) (off := 0) (v := .int .i64 (u.n.tmod 12)) (d' := { d with kind := u.n.tmod 12 }) size3 (by omega) rfl rfl rfl rfl rfl { C1 with kind := by show -100000 ≤ u.n.tmod 12 ∧ u.n.tmod 12 ≤ 100000; omega } hK
    rw [Nat.add_zero] at hst
    apply W.run 20
    · intro M
      simp (config := { maxSteps := 4000000 }) (disch := first | decide +kernel | omega) only [c18, Try.f18, Option.getD_some, sub_seq1, sub_seq0, sub_block, sub_cond0, sub_nil, exec_region, runOps_cons, opF_move, ev_tmp, g6, evG_some, putT_some, T.get_set, Nat.reduceEqDiff, g5, if_false, opF_ari, if_true, ev_int, opF_nilCheck, opF_fieldAddr, opF_store, putT_none, runOps_nil, R.ok_bind, binF_int, i1, nil_ptr, fo39_0, fo35_0, hst]
      with_reducible rfl
    refine fin _ ?_
    unfold trS; simp only [Sl_cons, Sl_nil, T.get_set, T.puts_cons, T.puts_nil, Nat.reduceEqDiff, Nat.reduceAdd, if_true, if_false, and_true, true_and, g2, g3, g4, g5]
  refine sw4 h51 hp (fun h4 t hp => ?_) (fun h4 t hp h51 => ?_)
  · obtain ⟨g2, g3, g4, g5, g6, -⟩ := hp
    subst h4
    have hl := len_str (tb := tb1) (l := u.w) und9
    have hm : min u.w.length 10 ≤ u.w.length := Nat.min_le_left _ _
    have hsl := slice_to (tb := tb1) (t := 9) (l := u.w) (k := .i64) (n := min u.w.length 10) und9 hm
    obtain ⟨F, hst, fin⟩ := one (ty := 9) (off := 1) (v := strOf (u.w.take (min u.w.length 10))) (d' := { d with word := u.w.take (min u.w.length 10) }) size9 (by omega) rfl rfl rfl rfl rfl { C1 with word := by show (u.w.take (min u.w.length 10)).length ≤ 1000; rw [List.length_take]; omega } hK
    apply W.run 20
    · intro M
      simp (config := { maxSteps := 4000000 }) (disch := first | decide +kernel | omega) only [c18, Try.f18, Option.getD_some, sub_seq1, sub_seq0, sub_block, sub_cond1, sub_cond0, sub_nil, exec_region, runOps_cons, opF_move, ev_tmp, g6, evG_some, putT_some, opF_fieldAddr, T.get_set, Nat.reduceEqDiff, g2, if_false, opF_load, if_true, opF_len, evs, R.ok_bind, opF_minmax, ev_int, opF_slice, evo, opF_nilCheck, opF_store, putT_none, runOps_nil, fa60_3, lstr, hl, min_i64, hsl, nil_ptr, fo39_0, fo35_1, hst]
      with_reducible rfl
    refine fin _ ?_
    unfold trS; simp only [Sl_cons, Sl_nil, T.get_set, T.puts_cons, T.puts_nil, Nat.reduceEqDiff, Nat.reduceAdd, if_true, if_false, and_true, true_and, g2, g3, g4, g5]
  refine sw5 h51 hp (fun h5 t hp => ?_) (fun h5 t hp h51 => ?_)
  · obtain ⟨g2, g3, g4, g5, g6, -⟩ := hp
    subst h5
    obtain ⟨v, hv1, hv2⟩ := wrap_u32 u.n
    obtain ⟨F, hst, fin⟩ := one (ty := 33) (off := 2) (v := .int .u32 (v : Int)) (d' := { d with weight := v }) size33 (by omega) rfl rfl rfl rfl rfl { C1 with weight := hv1 } hK
    apply W.run 20
    · intro M
      simp (config := { maxSteps := 4000000 }) (disch := first | decide +kernel | omega) only [c18, Try.f18, Option.getD_some, sub_seq1, sub_seq0, sub_block, sub_cond1, sub_cond0, sub_nil, exec_region, runOps_cons, opF_move, ev_tmp, g6, evG_some, putT_some, T.get_set, Nat.reduceEqDiff, g5, if_false, opF_conv, if_true, convPF, und3, und33, opF_nilCheck, opF_fieldAddr, opF_store, putT_none, runOps_nil, R.ok_bind, hv2, nil_ptr, fo39_0, fo35_2, hst]
      with_reducible rfl
    refine fin _ ?_
    unfold trS; simp only [Sl_cons, Sl_nil, T.get_set, T.puts_cons, T.puts_nil, Nat.reduceEqDiff, Nat.reduceAdd, if_true, if_false, and_true, true_and, g2, g3, g4, g5]
  refine sw6 h51 hp (fun h6 t hp => ?_) (fun h6 t hp h51 => ?_)
  · obtain ⟨g2, g3, g4, g5, g6, -⟩ := hp
    subst h6
    have hb1 : -7 ≤ u.n.tmod 7 ∧ u.n.tmod 7 ≤ 7 := tmod_b u.n (m := 7) (by omega)
    have i1 : intOpF .rem .i64 u.n ((7 : Nat) : Int) = .ok (.int .i64 (u.n.tmod 7)) := op_remI (by omega)
    obtain ⟨F, hst, fin⟩ := one (ty := 3) (off := 3) (v := .int .i64 (u.n.tmod 7)) (d' := { d with k := u.n.tmod 7 }) size3 (by omega) rfl rfl rfl rfl rfl { C1 with k := by show -100000 ≤ u.n.tmod 7 ∧ u.n.tmod 7 ≤ 100000; omega } hK
    apply W.run 20
    · intro M
      simp (config := { maxSteps := 4000000 }) (disch := first | decide +kernel | omega) only [c18, Try.f18, Option.getD_some, sub_seq1, sub_seq0, sub_block, sub_cond1, sub_cond0, sub_nil, exec_region, runOps_cons, opF_move, ev_tmp, g6, evG_some, putT_some, T.get_set, Nat.reduceEqDiff, g5, if_false, opF_ari, if_true, ev_int, opF_nilCheck, opF_fieldAddr, opF_store, putT_none, runOps_nil, R.ok_bind, binF_int, i1, nil_ptr, fo39_0, fo35_3, hst]
      with_reducible rfl
    refine fin _ ?_
    unfold trS; simp only [Sl_cons, Sl_nil, T.get_set, T.puts_cons, T.puts_nil, Nat.reduceEqDiff, Nat.reduceAdd, if_true, if_false, and_true, true_and, g2, g3, g4, g5]
  refine sw7 h51 hp (fun h7 t hp => ?_) (fun h7 t hp h51 => ?_)
  · obtain ⟨g2, g3, g4, g5, g6, -⟩ := hp
    subst h7
    have hb1 : -14 ≤ u.n.tmod 14 ∧ u.n.tmod 14 ≤ 14 := tmod_b u.n (m := 14) (by omega)
    have i1 : intOpF .rem .i64 u.n ((14 : Nat) : Int) = .ok (.int .i64 (u.n.tmod 14)) := op_remI (by omega)
    obtain ⟨F, hst, fin⟩ := one (ty := 3) (off := 4) (v := .int .i64 (u.n.tmod 14)) (d' := { d with n := u.n.tmod 14 }) size3 (by omega) rfl rfl rfl rfl rfl { C1 with n := by show -100000 ≤ u.n.tmod 14 ∧ u.n.tmod 14 ≤ 100000; omega } hK
    apply W.run 20
    · intro M
      simp (config := { maxSteps := 4000000 }) (disch := first | decide +kernel | omega) only [c18, Try.f18, Option.getD_some, sub_seq1, sub_seq0, sub_block, sub_cond1, sub_cond0, sub_nil, exec_region, runOps_cons, opF_move, ev_tmp, g6, evG_some, putT_some, T.get_set, Nat.reduceEqDiff, g5, if_false, opF_ari, if_true, ev_int, opF_nilCheck, opF_fieldAddr, opF_store, putT_none, runOps_nil, R.ok_bind, binF_int, i1, nil_ptr, fo39_0, fo35_4, hst]
      with_reducible rfl
    refine fin _ ?_
    unfold trS; simp only [Sl_cons, Sl_nil, T.get_set, T.puts_cons, T.puts_nil, Nat.reduceEqDiff, Nat.reduceAdd, if_true, if_false, and_true, true_and, g2, g3, g4, g5]
  refine sw8 h51 hp (fun h8 t hp => ?_) (fun h8 t hp h51 => ?_)
  · obtain ⟨g2, g3, g4, g5, g6, -⟩ := hp
    subst h8
    have hb1 : -300 ≤ u.n.tmod 300 ∧ u.n.tmod 300 ≤ 300 := tmod_b u.n (m := 300) (by omega)
    have i1 : intOpF .rem .i64 u.n ((300 : Nat) : Int) = .ok (.int .i64 (u.n.tmod 300)) := op_remI (by omega)
    obtain ⟨F, hst, fin⟩ := one (ty := 3) (off := 5) (v := .int .i64 (u.n.tmod 300)) (d' := { d with arm := u.n.tmod 300 }) size3 (by omega) rfl rfl rfl rfl rfl { C1 with arm := by show -100000 ≤ u.n.tmod 300 ∧ u.n.tmod 300 ≤ 100000; omega } hK
    apply W.run 20
    · intro M
      simp (config := { maxSteps := 4000000 }) (disch := first | decide +kernel | omega) only [c18, Try.f18, Option.getD_some, sub_seq1, sub_seq0, sub_block, sub_cond1, sub_cond0, sub_nil, exec_region, runOps_cons, opF_move, ev_tmp, g6, evG_some, putT_some, T.get_set, Nat.reduceEqDiff, g5, if_false, opF_ari, if_true, ev_int, opF_nilCheck, opF_fieldAddr, opF_store, putT_none, runOps_nil, R.ok_bind, binF_int, i1, nil_ptr, fo39_1, hst]
      with_reducible rfl
    refine fin _ ?_
    unfold trS; simp only [Sl_cons, Sl_nil, T.get_set, T.puts_cons, T.puts_nil, Nat.reduceEqDiff, Nat.reduceAdd, if_true, if_false, and_true, true_and, g2, g3, g4, g5]
  refine sw9 h51 hp (fun h9 t hp => ?_) (fun h9 t hp h51 => ?_)
  · obtain ⟨g2, g3, g4, g5, g6, -⟩ := hp
    subst h9
    have lc := hs.load (tb := tb1) (t := 4) (i := j) (j := 6) und4 rfl hj (show (cellsG d xs xo)[6]? = some (.bool d.cut) from rfl) (by omega)
    obtain ⟨F, hst, fin⟩ := one (ty := 4) (off := 6) (v := .bool (!d.cut)) (d' := { d with cut := !d.cut }) size4 (by omega) rfl rfl rfl rfl rfl { C1 with } hK
    apply W.run 20
    · intro M
      simp (config := { maxSteps := 4000000 }) (disch := first | decide +kernel | omega) only [c18, Try.f18, Option.getD_some, sub_seq1, sub_seq0, sub_block, sub_cond1, sub_cond0, sub_nil, exec_region, runOps_cons, opF_move, ev_tmp, g6, evG_some, putT_some, T.get_set, Nat.reduceEqDiff, if_false, opF_nilCheck, if_true, opF_fieldAddr, opF_load, opF_un, opF_store, putT_none, runOps_nil, R.ok_bind, nil_ptr, fo39_2, lc, un_not, hst]
      with_reducible rfl
    refine fin _ ?_
    unfold trS; simp only [Sl_cons, Sl_nil, T.get_set, T.puts_cons, T.puts_nil, Nat.reduceEqDiff, Nat.reduceAdd, if_true, if_false, and_true, true_and, g2, g3, g4, g5]
  refine sw10 h51 hp (fun h10 t hp => ?_) (fun h10 t hp h51 => ?_)
  · obtain ⟨g2, g3, g4, g5, g6, -⟩ := hp
    subst h10
    obtain ⟨v, hv1, hv2⟩ := wrap_u16 u.n
    have lst := hs.load (tb := tb1) (t := 36) (i := j) (j := 7) und36 rfl hj (show (cellsG d xs xo)[7]? = some xs from rfl) (by omega)
    have e1 := Ext.alloc E (rowOb 43 [])
    have lst1 := (hs.same e1.n (fun hl => e1.g _ hl)).load (tb := tb1) (t := 36) (i := j) (j := 7) und36 rfl hj (show (cellsG d xs xo)[7]? = some xs from rfl) (by omega)
    obtain ⟨y, G, b1, k1, k2, k3, k4⟩ := StR.copy (q2.ext hE) q3
    have hGn := k4.n
    have ln1 : loadF tb1 (E.alloc (rowOb 43 [])).get 58 (.pointer (some ⟨A.next, 2, none⟩)) = .ok (.int .i16 u.n) := load_vals und58 rfl (hu.same (e1.g _ (by omega))) rfl
    have ln2 : loadF tb1 G.get 58 (.pointer (some ⟨A.next, 2, none⟩)) = .ok (.int .i16 u.n) := load_vals und58 rfl (hu.same (k4.g _ (by omega))) rfl
    have hself := sameV_int 99 .i16 u.n
    obtain ⟨y2, H, b2, m1, m2, m3, m4, m5⟩ := slc_two (u := v) (v := 5) k2 q3
    have hsH : SlcM H 39 9 b' ls x' := hs.same (by omega) (fun hl => by rw [m5 _ (by omega) (by omega), k4.g _ hl])
    obtain ⟨F, st1, p2, p3, p4⟩ := SlcM.put (t := 36) (v := y2) hsH size36 hj (show 7 < 9 by omega) m2.cells m2.one
    have eF : Ext A F := ⟨by omega, fun y hy => by rw [p4 y (by omega), m5 y (by omega) (by omega), k4.g y (by omega), hE.g y hy]⟩
    have hb2 : b2 ≠ b' := by omega
    have hact : ∀ G : Mem, F.next ≤ G.next → (∀ y, y < A.next ∨ E.next ≤ y → G.get y = F.get y) → ActGR G { d with stays := d.stays ++ [v, 5] } ((cellsG d xs xo).set 7 y2) := by
      intro G' hG1 hG2
      have eG : Ext A G' := ⟨by have := eF.n; omega, fun y hy => by rw [hG2 y (.inl hy), eF.g y hy]⟩
      refine ⟨y2, xo, rfl, ?_, ?_, q4.ext eG⟩
      · exact StR.of (m2.same (by omega) (fun _ => by rw [hG2 _ (.inr (by omega)), p4 _ hb2])) trivial
      · have := hC.stays
        show (d.stays ++ [v, 5]).length ≤ 1000
        rw [List.length_append]; simp only [List.length_cons, List.length_nil]; omega
    apply W.run 20
    · intro M
      simp (config := { maxSteps := 4000000 }) (disch := first | decide +kernel | omega) only [c18, Try.f18, Option.getD_some, sub_seq1, sub_seq0, sub_block, sub_cond1, sub_cond0, sub_nil, exec_float [(8, 6)], runD_P, Nat.reduceAdd, opF_move, ev_tmp, g6, evG_some, putT_some, runD_Al, opF_buildSlice, evp, T.get_set, Nat.reduceEqDiff, if_false, opF_nilCheck, if_true, opF_fieldAddr, runD_Rd, rOp_load, R.ok_bind, selF_nil, rereadM_nil, runD_L, selF_no, List.map_nil, hide_nil, backF_nil, selR_no, selR_nil, rereadR_nil, cond_true, opF_builtin, evs, g2, selF_yes, rereadM_cons, reread_load, Bool.and_true, opF_conv, convPF, und58, und43, ev_int, runD_end, opF_store, putT_none, builtin_append, fa60_2, nil_ptr, fo39_3, bs36_0, lst1, at_slc, ln1, rereadV_eq, k1, ln2, hself, hv2, bs36_2, m1, st1]
      with_reducible rfl
    refine hK _ F _ _ hact ?_ p2 (by omega) (fun y hy hyb => by rw [p4 y hyb, m5 y (by omega) (by omega), k4.g y hy]) ?_
    · exact { C1 with
        stays := by
          have := hC.stays
          show (d.stays ++ [v, 5]).length ≤ 10 + 2 * (r + 1)
          rw [List.length_append]; simp only [List.length_cons, List.length_nil]; omega
        svals := fun w hw => by
          rcases List.mem_append.1 hw with hw | hw
          · exact hC.svals w hw
          · simp only [List.mem_cons, List.not_mem_nil, or_false] at hw
            omega }
    · unfold trS; simp only [Sl_cons, Sl_nil, T.get_set, T.puts_cons, T.puts_nil, Nat.reduceEqDiff, Nat.reduceAdd, if_true, if_false, and_true, true_and, g2, g3, g4, g5]
  refine sw11 h51 hp (fun h11 t hp => ?_) (fun h11 t hp h51 => ?_)
  · obtain ⟨g2, g3, g4, g5, g6, -⟩ := hp
    subst h11
    obtain ⟨v, hv1, hv2⟩ := wrap_u16 u.n
    have hb1 : -300 ≤ u.n.tmod 300 ∧ u.n.tmod 300 ≤ 300 := tmod_b u.n (m := 300) (by omega)
    have i1 : intOpF .rem .i64 u.n ((300 : Nat) : Int) = .ok (.int .i64 (u.n.tmod 300)) := op_remI (by omega)
    have e1 := Ext.alloc E (rowOb 41 [])
    have lst1 := (hs.same e1.n (fun hl => e1.g _ hl)).load (tb := tb1) (t := 37) (i := j) (j := 8) und37 rfl hj (show (cellsG d xs xo)[8]? = some xo from rfl) (by omega)
    obtain ⟨ls2, bo, o1, o2, o3, o4⟩ := q4
    have o1E := o1.same hE.n (fun hl => hE.g _ hl)
    obtain ⟨ti, ht1, ht2, ht3⟩ := ty41
    have hone2 : ∀ v ∈ ls2.flatten, oneCell v = true := fun v hv => by
      obtain ⟨l, hl, hvl⟩ := List.mem_flatten.1 hv
      obtain ⟨i, hi⟩ := List.getElem?_of_mem hl
      have hil : i < ls2.length := (List.getElem?_eq_some_iff.1 hi).1
      exact (o4 i _ l (List.getElem?_eq_getElem (show i < d.opening.length by omega)) hi).cells.2 v hvl
    obtain ⟨y, G, b1, k1, k2, k3, k4⟩ := RowM.copy (A1 := E.alloc (rowOb 41 [])) o1E und37 zc41 ht1 ht2 ht3 (by omega) (by omega) (by omega) hone2 rfl
    have hGn := k4.n
    have ln1 : loadF tb1 (E.alloc (rowOb 41 [])).get 58 (.pointer (some ⟨A.next, 2, none⟩)) = .ok (.int .i16 u.n) := load_vals und58 rfl (hu.same (e1.g _ (by omega))) rfl
    have ln2 : loadF tb1 G.get 58 (.pointer (some ⟨A.next, 2, none⟩)) = .ok (.int .i16 u.n) := load_vals und58 rfl (hu.same (k4.g _ (by omega))) rfl
    have hself := sameV_int 99 .i16 u.n
    have e2 := Ext.alloc G (rowOb 43 [.int .u16 ((v % 300 : Nat) : Int)])
    have n2 := next_alloc G (rowOb 43 [.int .u16 ((v % 300 : Nat) : Int)])
    have vN : Vals (G.alloc (rowOb 43 [.int .u16 ((v % 300 : Nat) : Int)])) 43 G.next (.var 1) [.int .u16 ((v % 300 : Nat) : Int)] := Go.Am.vals_new G 43 _
    obtain ⟨G1, hG1⟩ : ∃ G1, G.alloc (rowOb 43 [.int .u16 ((v % 300 : Nat) : Int)]) = G1 := ⟨_, rfl⟩
    rw [hG1] at e2 n2 vN
    have e3 := Ext.alloc G1 (rowOb 41 [.int .i64 (u.n.tmod 300), .slice (some ⟨G.next, 0, none⟩) 1 2])
    have n3 := next_alloc G1 (rowOb 41 [.int .i64 (u.n.tmod 300), .slice (some ⟨G.next, 0, none⟩) 1 2])
    obtain ⟨y2, H, m1, m2, m3, m5⟩ := (k2.same (e2.trans e3).n (fun hl => (e2.trans e3).g _ hl)).append (tb := tb1) (st := 37) (xt := 37) (l := [.int .i64 (u.n.tmod 300), .slice (some ⟨G.next, 0, none⟩) 1 2]) und37 und37 zc41 ht1 ht2 ht3 (by omega) (by omega) (by omega) (get_alloc_self G1 _) rfl (fun w hw => by
      simp only [List.mem_cons, List.not_mem_nil, or_false] at hw
      rcases hw with rfl | rfl <;> rfl)
    have m1' : appendF tb1 (G1.alloc (rowOb 41 [.int .i64 (u.n.tmod 300), .slice (some ⟨G.next, 0, none⟩) 1 2])) 37 37 y (.slice (some ⟨G1.next, 0, none⟩) 1 2) = .ok (y2, H) := m1
    have fr : ∀ z, z ≠ b1 → z < G.next → H.get z = G.get z := fun z hz hzl => by
      rw [m5 z (fun e => absurd e hz) (by omega), (e2.trans e3).g z hzl]
    have hlt1 : y = .slice none 0 0 ∨ b1 < G.next := SlcM.lt k2
    have vH : Vals H 43 G.next (.var 1) [.int .u16 ((v % 300 : Nat) : Int)] := by
      refine (vN.same (e3.g _ (by omega))).same (m5 _ (fun e => ?_) (by omega))
      rcases hlt1 with h | h
      · exact h
      · omega
    have hsH : SlcM H 39 9 b' ls x' := hs.same (by omega) (fun hl => by rw [fr _ (by omega) (by omega), k4.g _ hl])
    have hyc := SlcM.cells m2
    obtain ⟨F, st1, p2, p3, p4⟩ := SlcM.put (t := 37) (v := y2) hsH size37 hj (show 8 < 9 by omega) hyc.1 hyc.2.1
    have eF : Ext A F := ⟨by omega, fun y hy => by rw [p4 y (by omega), fr y (by omega) (by omega), k4.g y (by omega), hE.g y hy]⟩
    have hact : ∀ G : Mem, F.next ≤ G.next → (∀ y, y < A.next ∨ E.next ≤ y → G.get y = F.get y) → ActGR G { d with opening := d.opening ++ [(u.n.tmod 300, [v % 300])] } ((cellsG d xs xo).set 8 y2) := by
      intro G' hG1' hG2'
      have eG : Ext A G' := ⟨by have := eF.n; omega, fun y hy => by rw [hG2' y (.inl hy), eF.g y hy]⟩
      refine ⟨xs, y2, rfl, q2.ext eG, q3, ls2 ++ [[.int .i64 (u.n.tmod 300), .slice (some ⟨G.next, 0, none⟩) 1 2]], _, SlcM.toRow (by omega) (m2.same (by omega) (fun _ => by rw [hG2' _ (.inr (by omega)), p4 _ (by omega)])), ?_, ?_, fun i d1 l1 hd1 hl1 => ?_⟩
      · rw [List.length_append, o2]
        show _ = (d.opening ++ [_]).length
        rw [List.length_append]; rfl
      · have := hC.opening
        show (d.opening ++ [_]).length ≤ 1000
        rw [List.length_append]; simp only [List.length_cons, List.length_nil]; omega
      · have hd1' : (d.opening ++ [(u.n.tmod 300, [v % 300])])[i]? = some d1 := hd1
        by_cases hi : i < d.opening.length
        · rw [List.getElem?_append_left hi] at hd1'
          rw [List.getElem?_append_left (by omega)] at hl1
          exact (o4 i d1 l1 hd1' hl1).ext eG
        · have hi2 : i = d.opening.length := by
            have := (List.getElem?_eq_some_iff.1 hd1').1
            rw [List.length_append] at this
            simp only [List.length_cons, List.length_nil] at this
            omega
          subst hi2
          rw [List.getElem?_append_right (by omega), Nat.sub_self] at hd1'
          rw [List.getElem?_append_right (by omega), o2, Nat.sub_self] at hl1
          simp only [List.getElem?_cons_zero, Option.some.injEq] at hd1' hl1
          subst hd1' hl1
          refine ⟨_, rfl, StR.of (b := G.next) (.inr ⟨_, 2, rfl, by omega, vH.same (by rw [hG2' _ (.inr (by omega)), p4 _ (by omega)]), .inl rfl⟩) trivial, by simp⟩
    apply W.run 20
    · intro M
      simp (config := { maxSteps := 4000000 }) (disch := first | decide +kernel | omega) only [c18, Try.f18, Option.getD_some, sub_seq1, sub_seq0, sub_block, sub_cond1, sub_cond0, sub_nil, exec_float [(10, 6)], runD_P, Nat.reduceAdd, opF_move, ev_tmp, g6, evG_some, putT_some, runD_Al, opF_buildSlice, evp, T.get_set, Nat.reduceEqDiff, if_false, opF_nilCheck, if_true, opF_fieldAddr, runD_Rd, rOp_load, R.ok_bind, selF_nil, rereadM_nil, runD_L, selF_no, List.map_nil, hide_nil, backF_nil, selR_no, selR_nil, rereadR_nil, cond_true, opF_builtin, evs, g5, opF_ari, ev_int, g2, selF_yes, rereadM_cons, reread_load, Bool.and_true, opF_conv, convPF, und58, und43, opF_build, runD_end, opF_store, putT_none, builtin_append, fa60_2, binF_int, i1, nil_ptr, fo39_4, bs37_0, lst1, at_slc, ln1, rereadV_eq, k1, ln2, hself, hv2, op_rem, bs36, bf41a, hG1, bs37a, m1', st1]
      with_reducible rfl
    refine hK _ F _ _ hact ?_ p2 (by omega) (fun y hy hyb => by rw [p4 y hyb, fr y (by omega) (by omega), k4.g y hy]) ?_
    · exact { C1 with
        opening := by
          have := hC.opening
          show (d.opening ++ [_]).length ≤ 4 + (r + 1)
          rw [List.length_append]; simp only [List.length_cons, List.length_nil]; omega
        oarm := fun o ho => by
          rcases List.mem_append.1 ho with ho | ho
          · exact hC.oarm o ho
          · simp only [List.mem_cons, List.not_mem_nil, or_false] at ho
            subst ho
            show -100000 ≤ u.n.tmod 300 ∧ u.n.tmod 300 ≤ 100000
            omega
        olen := fun o ho => by
          rcases List.mem_append.1 ho with ho | ho
          · exact hC.olen o ho
          · simp only [List.mem_cons, List.not_mem_nil, or_false] at ho
            subst ho
            simp
        ovals := fun o ho w hw => by
          rcases List.mem_append.1 ho with ho | ho
          · exact hC.ovals o ho w hw
          · simp only [List.mem_cons, List.not_mem_nil, or_false] at ho
            subst ho
            simp only [List.mem_cons, List.not_mem_nil, or_false] at hw
            omega }
    · unfold trS; simp only [Sl_cons, Sl_nil, T.get_set, T.puts_cons, T.puts_nil, Nat.reduceEqDiff, Nat.reduceAdd, if_true, if_false, and_true, true_and, g2, g3, g4, g5]
  · obtain ⟨g2, g3, g4, g5, g6, -⟩ := hp
    apply W.run 20
    · intro M
      simp (config := { maxSteps := 4000000 }) (disch := first | decide +kernel | omega) only [c18, Try.f18, Option.getD_some, sub_seq1, sub_seq0, sub_block, sub_cond1, sub_nil, exec_skip]
      with_reducible rfl
    refine hK _ E (cellsG d xs xo) d (fun G hG1 hG2 => by
      have eG : Ext A G := ⟨by omega, fun y hy => by rw [hG2 y (.inl hy), hE.g y hy]⟩
      exact ⟨xs, xo, rfl, q2.ext eG, q3, q4.ext eG⟩) C1 ?_ (Nat.le_refl _) (fun _ _ _ => rfl) ?_
    · have : ls.set j (cellsG d xs xo) = ls := by
        have hjl : j < ls.length := (List.getElem?_eq_some_iff.1 hj).1
        have he : ls[j] = cellsG d xs xo := (List.getElem?_eq_some_iff.1 hj).2
        rw [← he]; exact List.set_getElem_self hjl
      rw [this]; exact hs
    · unfold trS; simp only [Sl_cons, Sl_nil, T.get_set, T.puts_cons, T.puts_nil, Nat.reduceEqDiff, Nat.reduceAdd, if_true, if_false, and_true, true_and, g2, g3, g4, g5]
end
end Go.Proofs.Ytmhldlnlgjpkaaa.scr

/-
  Script: a setting is turned, whole.
-/
namespace Go.Proofs.Ytmhldlnlgjpkaaa.scr
open Go.Am
set_option linter.unusedSimpArgs false
set_option linter.unusedVariables false
set_option linter.unusedVariables false
set_option maxRecDepth 20000

set_option maxHeartbeats 16000000 in
theorem run_turned {A : Mem} {u : TurnD} {s : SetG} {l : List Value} {r : Nat} (hn : -40000 ≤ u.n ∧ u.n ≤ 40000) (hwb : u.what < 256) (hab : u.at_ < 256) (hwl : u.w.length < 9223372036854775808) (hr : r ≤ 10) (h : SetR A s l) (hC : SetC r s) :
    ∃ l' A' s', Ans tb1 18 [turnV u, .agg ⟨l⟩] A (.agg ⟨l'⟩) A' ∧ SetR A' s' l' ∧ SetC (r + 1) s' ∧ Ext A A' := by
  obtain ⟨v, A', ha, l', s', hv, h1, h2, h3⟩ : ∃ v A', Ans tb1 18 [turnV u, .agg ⟨l⟩] A v A' ∧ ∃ l' s', v = .agg ⟨l'⟩ ∧ SetR A' s' l' ∧ SetC (r + 1) s' ∧ Ext A A' := by
    obtain ⟨xa, rfl, ka⟩ := h
    refine ans_of_W (fn_at Try.func18) c18_eq (by rw [Try.ntmps18]; simp) (by kernel_rfl) (by kernel_rfl) ?_
    unfold turnV
    have v0 : Vals (A.alloc (rowOb 60 [.int .u8 (u.what : Int), .int .u8 (u.at_ : Int), .int .i16 u.n, strOf u.w])) 60 A.next (.var 4) [.int .u8 (u.what : Int), .int .u8 (u.at_ : Int), .int .i16 u.n, strOf u.w] := Go.Am.vals_new A 60 _
    have n0 := next_alloc A (rowOb 60 [.int .u8 (u.what : Int), .int .u8 (u.at_ : Int), .int .i16 u.n, strOf u.w])
    have E0 := Ext.alloc A (rowOb 60 [.int .u8 (u.what : Int), .int .u8 (u.at_ : Int), .int .i16 u.n, strOf u.w])
    obtain ⟨A1, hA1⟩ : ∃ A1, A.alloc (rowOb 60 [.int .u8 (u.what : Int), .int .u8 (u.at_ : Int), .int .i16 u.n, strOf u.w]) = A1 := ⟨_, rfl⟩
    rw [hA1] at v0 n0 E0
    have v1 : Vals (A1.alloc (rowOb 28 (cellsS s xa))) 28 A1.next (.var 4) (cellsS s xa) := Go.Am.vals_new A1 28 _
    have n1 := next_alloc A1 (rowOb 28 (cellsS s xa))
    have E1 := Ext.alloc A1 (rowOb 28 (cellsS s xa))
    obtain ⟨A2, hA2⟩ : ∃ A2, A1.alloc (rowOb 28 (cellsS s xa)) = A2 := ⟨_, rfl⟩
    rw [hA2] at v1 n1 E1
    have v2 : Vals (A2.alloc (rowOb 28 [.int .i64 0, .int .i64 0, .int .i64 0, .slice none 0 0])) 28 A2.next (.var 4) [.int .i64 0, .int .i64 0, .int .i64 0, .slice none 0 0] := Go.Am.vals_new A2 28 _
    have n2 := next_alloc A2 (rowOb 28 [.int .i64 0, .int .i64 0, .int .i64 0, .slice none 0 0])
    have E2 := Ext.alloc A2 (rowOb 28 [.int .i64 0, .int .i64 0, .int .i64 0, .slice none 0 0])
    obtain ⟨B, hB⟩ : ∃ B, A2.alloc (rowOb 28 [.int .i64 0, .int .i64 0, .int .i64 0, .slice none 0 0]) = B := ⟨_, rfl⟩
    rw [hB] at v2 n2 E2
    have w0 := (v0.same (E1.g _ (by omega))).same (E2.g _ (by omega))
    have w1 := v1.same (E2.g _ (by omega))
    have EB := (E0.trans E1).trans E2
    have e2 : A2.next = A.next + 2 := by omega
    rw [n0] at w1
    rw [e2] at v2
    have lN : loadF tb1 B.get 58 (.pointer (some ⟨A.next, 2, none⟩)) = .ok (.int .i16 u.n) := load_vals und58 rfl w0 rfl
    have hwr := wrap_i64I (n := u.n) (by omega)
    have hzr := zero28
    apply W.seq
    apply W.run 20
    · intro M
      simp (config := { maxSteps := 4000000 }) (disch := first | decide +kernel | omega) only [c18, Try.f18, Option.getD_some, sub_seq0, sub_nil, T.puts_cons, Nat.reduceAdd, T.puts_nil, exec_region, runOps_cons, opF_box, ev_tmp, T.get_set, Nat.reduceEqDiff, T.get_e, if_true, if_false, evG_some, at_ptr, putT_some, opF_alloc, zero28, runOps_nil, R.ok_bind, cells_agg, hA1, hA2, hB]
      with_reducible rfl
    apply W.seq
    apply W.run 20
    · intro M
      simp (config := { maxSteps := 4000000 }) (disch := first | decide +kernel | omega) only [c18, Try.f18, Option.getD_some, sub_seq1, sub_seq0, sub_nil, exec_region, runOps_cons, opF_fieldAddr, ev_tmp, T.get_set, Nat.reduceEqDiff, T.get_e, if_false, if_true, evG_some, putT_some, opF_load, opF_conv, convPF, und58, und3, opF_assign, runOps_nil, R.ok_bind, fa60_2, lN, hwr]
      with_reducible rfl
    apply W.seq
    refine turn_first (A := A) (u := u) (s := s) (xa := xa) hn hwb hC w0 w1 ?_ ?_
    · unfold trS; simp only [Sl_cons, Sl_nil, T.get_set, T.puts_cons, T.puts_nil, Nat.reduceEqDiff, Nat.reduceAdd, if_true, if_false, and_true, true_and, n0, e2]
    rintro t C s1 hsa hC1 u1 nC fC hp
    have hp' := hp
    obtain ⟨g2, g3, g4, g5, -⟩ := hp'
    have EAC : Ext A C := ⟨by omega, fun y hy => by rw [fC y (by omega), EB.g y hy]⟩
    have kaC := ka.ext EAC
    have u0 := w0.same (fC _ (by omega))
    have u2 := v2.same (fC _ (by omega))
    have lx : loadF tb1 C.get 26 (.pointer (some ⟨A.next + 1, 3, none⟩)) = .ok xa := load_vals und26 rfl u1 rfl
    have hlen := kaC.len
    have kac := ka.cells
    obtain ⟨d28, hd1, hd2⟩ := und28
    -- the end: what is told is copied out
    have fin : ∀ {F : Mem} {t : T Value} {s2 : SetG} {x2 : Value} {K : Ex → St → Prop}, Ext A F → A.next + 3 ≤ F.next → Vals F 28 (A.next + 1) (.var 4) (cellsS s2 x2) → Vals F 28 (A.next + 2) (.var 4) [.int .i64 0, .int .i64 0, .int .i64 0, .slice none 0 0] → ActsG F s2.acts x2 →
        ∃ G, loadF tb1 F.get 28 (.pointer (some ⟨A.next + 1, 0, none⟩)) = .ok (.agg ⟨cellsS s2 x2⟩) ∧ storeF tb1 F 28 (.pointer (some ⟨A.next + 2, 0, none⟩)) (.agg ⟨cellsS s2 x2⟩) = .ok G ∧ loadF tb1 G.get 28 (.pointer (some ⟨A.next + 2, 0, none⟩)) = .ok (.agg ⟨cellsS s2 x2⟩) ∧ (ActsG G s2.acts x2 → SetR G s2 (cellsS s2 x2)) ∧ Ext A G ∧ G.next = F.next ∧ ∀ y, y ≠ A.next + 2 → G.get y = F.get y := by
      intro F t s2 x2 K hEF hFn p1 p2 p3
      have hc := p3.cells
      obtain ⟨G, k1, k2, k3, k4⟩ := store_all (tb := tb1) (t := 28) (l' := cellsS s2 x2) (by rw [size28]; rfl) p2 rfl (by simp) (fun v hv => by
        simp only [cellsS, List.mem_cons, List.not_mem_nil, or_false] at hv
        rcases hv with rfl | rfl | rfl | rfl <;> first | rfl | exact hc.2)
      exact ⟨G, Go.Am.load_all (tb := tb1) (t := 28) hd1 hd2 (by rw [size28]; rfl) p1, k1, Go.Am.load_all (tb := tb1) (t := 28) hd1 hd2 (by rw [size28]; rfl) k2, fun hh => ⟨x2, rfl, hh⟩, ⟨by have := hEF.n; omega, fun y hy => by rw [k4 y (by omega), hEF.g y hy]⟩, k3, k4⟩
    have eb : sub c18 [1,1,1,0] = .seq (sub c18 [1,1,1,0,0]) (.cond (.tmp 32) (.seq (sub c18 [1,1,1,0,1,0,0]) .ret) .skip) := by kernel_rfl
    show W tb1 _ _ _
    apply W.seq
    rw [eb]
    apply W.seq
    by_cases h0 : s.acts.length = 0
    · obtain ⟨G, k1, k2, k3, k4, k5, k6, k7⟩ := fin (K := fun _ _ => True) (t := t) EAC (by omega) u1 u2 (by rw [hsa]; exact kaC)
      rw [h0] at hlen
      apply W.run 20
      · intro M
        simp (config := { maxSteps := 4000000 }) (disch := first | decide +kernel | omega) only [c18, Try.f18, Option.getD_some, sub_seq1, sub_seq0, sub_nil, exec_region, runOps_cons, opF_fieldAddr, ev_tmp, g3, evG_some, putT_some, opF_load, T.get_set, if_true, opF_len, evs, Nat.reduceEqDiff, if_false, R.ok_bind, opF_eql, ev_int, runOps_nil, fa28_2, lx, hlen, binF_int, op_eql, decide_true]
        with_reducible rfl
      refine W.cond (p := true) (by simp only [ev_tmp, T.get_set, if_true, evG_some]) (fun _ => ?_) (fun h => by cases h)
      apply W.run 20
      · intro M
        simp (config := { maxSteps := 4000000 }) (disch := first | decide +kernel | omega) only [c18, Try.f18, Option.getD_some, sub_seq1, sub_seq0, sub_cond0, sub_nil, exec_seq, exec_region, runOps_cons, opF_load, ev_tmp, T.get_set, Nat.reduceEqDiff, g3, if_false, evG_some, putT_some, opF_store, g4, if_true, putT_none, runOps_nil, R.ok_bind, k1, k2, exec_ret]
        with_reducible rfl
      refine ⟨.inr rfl, G, [.agg ⟨cellsS s1 xa⟩], rfl, ?_, cellsS s1 xa, s1, rfl, k4 ?_, hC1.mono (by omega), k5⟩
      · simp only [Try.f18, resF, ev_tmp, T.get_set, Nat.reduceEqDiff, if_true, if_false, evG_some, R.ok_bind, g4, k3]
      · rw [hsa]; exact ka.ext k5
    have hpos : 0 < s.acts.length := by omega
    apply W.run 20
    · intro M
      simp (config := { maxSteps := 4000000 }) (disch := first | decide +kernel | omega) only [c18, Try.f18, Option.getD_some, sub_seq1, sub_seq0, sub_nil, exec_region, runOps_cons, opF_fieldAddr, ev_tmp, g3, evG_some, putT_some, opF_load, T.get_set, if_true, opF_len, evs, Nat.reduceEqDiff, if_false, R.ok_bind, opF_eql, ev_int, runOps_nil, fa28_2, lx, hlen, binF_int, op_eql, h0, decide_false]
      with_reducible rfl
    refine W.cond (p := false) (by simp only [ev_tmp, T.get_set, if_true, evG_some]) (fun h => by cases h) (fun _ => ?_)
    apply W.run 20
    · intro M
      simp (config := { maxSteps := 4000000 }) (disch := first | decide +kernel | omega) only [exec_skip]
      with_reducible rfl
    show W tb1 _ _ _
    -- the acts are copied
    obtain ⟨ls, bs, hrow, hll, hal, hall⟩ := ka
    obtain ⟨z39, hz39⟩ := zc39
    obtain ⟨ti, ht1, ht2, ht3⟩ := ty39
    have hone : ∀ v ∈ ls.flatten, oneCell v = true := fun v hv => by
      obtain ⟨l, hl, hvl⟩ := List.mem_flatten.1 hv
      obtain ⟨i, hi⟩ := List.getElem?_of_mem hl
      have hil : i < ls.length := (List.getElem?_eq_some_iff.1 hi).1
      exact (hall i _ l (List.getElem?_eq_getElem (show i < s.acts.length by omega)) hi).cells.2 v hvl
    have hs60 := hC.len
    obtain ⟨x', D, b', k1, k2, k3, k4⟩ := RowM.copy (A1 := C.alloc (rowOb 39 [])) (hrow.same EAC.n (fun hl => EAC.g _ hl)) und26 hz39 ht1 ht2 ht3 (by omega) (by omega) (by omega) hone rfl
    have eA := Ext.alloc C (rowOb 39 [])
    have lx1 : loadF tb1 (C.alloc (rowOb 39 [])).get 26 (.pointer (some ⟨A.next + 1, 3, none⟩)) = .ok xa := load_vals und26 rfl (u1.same (eA.g _ (by omega))) rfl
    have kc := SlcM.cells k2
    obtain ⟨E, st1, p1, p2, p3⟩ := store_vals (tb := tb1) (t := 26) (o := 3) (v := x') size26 (u1.same (k4.g _ (by omega))) (by simp [cellsS]) kc.1 kc.2.1
    have hDn := k4.n
    have kE := k2.same (A' := E) (by omega) (fun _ => p3 _ (by omega))
    have EAE : Ext A E := ⟨by omega, fun y hy => by rw [p3 y (by omega), k4.g y (by omega), EAC.g y hy]⟩
    apply W.seq
    apply W.run 20
    · intro M
      simp (config := { maxSteps := 4000000 }) (disch := first | decide +kernel | omega) only [c18, Try.f18, Option.getD_some, sub_seq1, sub_seq0, sub_nil, exec_region, runOps_cons, opF_buildSlice, evp, putT_some, opF_fieldAddr, ev_tmp, T.get_set, Nat.reduceEqDiff, g3, if_false, evG_some, opF_load, if_true, opF_builtin, evs, R.ok_bind, opF_store, putT_none, runOps_nil, fa28_2, builtin_append, bs26_0, lx1, at_slc, k1, st1]
      with_reducible rfl
    -- one of them
    obtain ⟨j, hj⟩ : ∃ j, u.at_ % ls.length = j := ⟨_, rfl⟩
    have hlp : 0 < ls.length := by omega
    have hjl : j < ls.length := by rw [← hj]; exact Nat.mod_lt _ hlp
    have lat : loadF tb1 E.get 5 (.pointer (some ⟨A.next, 1, none⟩)) = .ok (.int .u8 (u.at_ : Int)) := load_vals und5 rfl ((u0.same (k4.g _ (by omega))).same (p3 _ (by omega))) rfl
    have lx2 : loadF tb1 E.get 26 (.pointer (some ⟨A.next + 1, 3, none⟩)) = .ok x' := load_vals und26 rfl p1 rfl
    have hlx := kE.len (tb := tb1) (t := 26) und26
    have hix := kE.idx (tb := tb1) (t := 26) (kd := .i64) (i := j) und26 size39 hjl
    have hmx : u.at_ < 9223372036854775808 := by omega
    apply W.seq
    apply W.run 20
    · intro M
      simp (config := { maxSteps := 4000000 }) (disch := first | decide +kernel | omega) only [c18, Try.f18, Option.getD_some, sub_seq1, sub_seq0, sub_nil, exec_draw, runOps_cons, opF_fieldAddr, ev_tmp, T.get_set, Nat.reduceEqDiff, g3, if_false, evG_some, putT_some, opF_load, if_true, g2, opF_conv, convPF, und5, und3, opF_len, evs, R.ok_bind, opF_ari, opF_indexAddr, opF_assign, runOps_nil, fa28_2, lx2, hlx, fa60_1, lat, wrapF_i64, binF_int, op_rem, hj, hix]
      with_reducible rfl
    have hact := hall j s.acts[j] ls[j] (List.getElem?_eq_getElem (by omega)) (List.getElem?_eq_getElem hjl)
    have hact0 := hact
    obtain ⟨xs, xo, hle, -⟩ := hact0
    rw [hle] at hact
    have hb3 : A.next + 3 ≤ b' := by omega
    have hb4 : b' < E.next := by
      rcases SlcM.lt kE with h | h
      · exfalso
        rcases kE with ⟨-, h2⟩ | ⟨k, c, h2, -⟩
        · rw [h2] at hjl; simp at hjl
        · rw [h] at h2; cases h2
      · exact h
    apply W.seq
    refine turn_act (A := A) (u := u) (d := s.acts[j]) (xs := xs) (xo := xo) (x' := x') (ls := ls) (r := r) (b' := b') (j := j) hn hwl (hC.acts _ (List.getElem_mem (by omega))) hr EAE hb3 hb4 ((u0.same (k4.g _ (by omega))).same (p3 _ (by omega))) kE (by rw [List.getElem?_eq_getElem hjl, hle]) hact ?_ ?_
    · unfold trS; simp only [Sl_cons, Sl_nil, T.get_set, T.puts_cons, T.puts_nil, Nat.reduceEqDiff, Nat.reduceAdd, if_true, if_false, and_true, true_and, List.cons_append, List.nil_append, g2, g3, g4, g5]
    rintro t' F l2 d' hA2' hC2 kF hFn hfr ⟨q2, q3, q4, q5, -⟩
    have EAF : Ext A F := ⟨by omega, fun y hy => by rw [hfr y (by omega) (by omega), EAE.g y hy]⟩
    have r1 := p1.same (hfr _ (by omega) (by omega))
    have r2 := ((u2.same (k4.g _ (by omega))).same (p3 _ (by omega))).same (hfr _ (by omega) (by omega))
    have acts2 : ∀ {G : Mem}, Ext A G → ActGR G d' l2 → SlcM G 39 9 b' (ls.set j l2) x' → ActsG G (s.acts.set j d') x' := fun {G} eG hd hG => by
      refine ⟨ls.set j l2, b', SlcM.toRow (by omega) hG, by rw [List.length_set, List.length_set]; exact hll, by rw [List.length_set]; omega, fun i d1 l1 hd1 hl1 => ?_⟩
      by_cases hij : j = i
      · subst hij
        rw [List.getElem?_set_self (by omega)] at hd1
        rw [List.getElem?_set_self hjl] at hl1
        cases hd1; cases hl1
        exact hd
      · rw [List.getElem?_set_ne hij] at hd1
        rw [List.getElem?_set_ne hij] at hl1
        exact (hall i d1 l1 hd1 hl1).ext eG
    have r1' : Vals F 28 (A.next + 1) (.var 4) (cellsS { s1 with acts := s.acts.set j d' } x') := r1
    obtain ⟨G, m1, m2, m3, m4, m5, m6, m7⟩ := fin (K := fun _ _ => True) (t := t') EAF (by omega) r1' r2 (acts2 EAF (hA2' F (Nat.le_refl _) (fun _ _ => rfl)) kF)
    show W tb1 _ _ _
    apply W.seq
    apply W.run 20
    · intro M
      simp (config := { maxSteps := 4000000 }) (disch := first | decide +kernel | omega) only [c18, Try.f18, Option.getD_some, sub_seq1, sub_seq0, sub_nil, exec_region, runOps_cons, opF_load, ev_tmp, q3, evG_some, putT_some, opF_store, T.get_set, Nat.reduceEqDiff, q4, if_false, if_true, putT_none, runOps_nil, R.ok_bind, m1, m2]
      with_reducible rfl
    apply W.run 20
    · intro M
      simp (config := { maxSteps := 4000000 }) (disch := first | decide +kernel | omega) only [c18, Try.f18, Option.getD_some, sub_seq1, sub_nil, exec_ret]
      with_reducible rfl
    refine ⟨.inr rfl, G, [.agg ⟨cellsS { s1 with acts := s.acts.set j d' } x'⟩], rfl, ?_, _, { s1 with acts := s.acts.set j d' }, rfl, m4 (acts2 m5 ?_ (kF.same (by omega) (fun _ => m7 _ (by omega)))), ?_, m5⟩
    · simp only [Try.f18, resF, ev_tmp, T.get_set, Nat.reduceEqDiff, if_true, if_false, evG_some, R.ok_bind, q4, m3]
    · exact hA2' G (by omega) (fun y hy => m7 y (by omega))
    · exact { hC1 with
        acts := fun d1 hd1 => by
          rcases List.mem_or_eq_of_mem_set hd1 with hd1 | rfl
          · exact (hC.acts d1 hd1).mono (by omega)
          · exact hC2
        len := by show (s.acts.set j d').length ≤ 60; rw [List.length_set]; exact hs60 }
  subst hv
  exact ⟨l', A', s', ha, h1, h2, h3⟩
end Go.Proofs.Ytmhldlnlgjpkaaa.scr

