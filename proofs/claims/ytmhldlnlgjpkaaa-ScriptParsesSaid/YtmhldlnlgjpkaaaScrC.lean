/-
  What the functions of this group compute on the abstract machine, and the plain laws of it. Part C: conditions stand in each theorem.
-/
import Derived.Test.YtmhldlnlgjpkaaaScrB

/-
  Script: Put.
-/
namespace Go.Proofs.Ytmhldlnlgjpkaaa.scr
open Go.Am
set_option linter.unusedSimpArgs false
set_option linter.unusedVariables false
set_option maxRecDepth 20000

noncomputable def c49 : Code := Try.f49.body.getD .skip
noncomputable def c49b1 : Code := sub c49 [1,1,1,0,0]
theorem c49_eq : Try.f49.body = some (.seq (sub c49 [0]) (.seq (.seq (sub c49 [1,0,0]) (sub c49 [1,0,1])) (.seq (sub c49 [1,1,0]) (.block 0 (.loop c49b1))))) := by kernel_rfl
theorem encAs_take {l : List ActD} {i : Nat} {d : ActD} (h : l[i]? = some d) : encAs (l.take (i + 1)) = encAs (l.take i) ++ encA d := by
  have hi : i < l.length := (List.getElem?_eq_some_iff.1 h).1
  have e : l[i] = d := (List.getElem?_eq_some_iff.1 h).2
  rw [List.take_succ_eq_append_getElem hi, encAs_app, e]
  simp only [encAs, List.append_nil]
set_option maxHeartbeats 8000000 in
/-- The closure of a setting's parts, called with Put's loop. -/
theorem run_parts1 {B0 : Mem} {bw b b4 sb n0 w f qu : Nat} {t0 : T Value} {C : Mem} {xa : Value} {ds : List ActD} (hP : PutM B0 bw b t0 [] C) (h4 : t0.get 4 = some (.pointer (some ⟨b4, 0, none⟩))) (hv4 : Vals B0 83 b4 (.var 1) [.pointer (some ⟨bw, 0, none⟩)]) (hb4 : b4 < B0.next ∧ b4 ≠ bw)
    (hsb : Vals B0 28 sb (.var 4) (headC w f qu xa)) (hsl : sb < B0.next ∧ sb ≠ bw) (hacts : ActsR (fun c => c < n0) B0 ds xa) (hn0 : n0 ≤ bw) (h60 : ds.length ≤ 60) (hok : ∀ d ∈ ds, ActOk2 d)
    (hw : 1 ≤ w ∧ w ≤ 256) (hf : 2 ≤ f ∧ f ≤ 9) (hq : qu < 65536) :
    ∃ v C', Ans tb1 49 [.func (.yield (B0.next + 1)) ⟨[]⟩ ⟨[]⟩, .pointer (some ⟨sb, 0, none⟩)] C v C' ∧ ∃ b', PutM B0 bw b' t0 (headB w f qu ++ encAs ds) C' := by
  refine ans_of_W (fn_at Try.func49) c49_eq (by rw [Try.ntmps49]; simp) (by kernel_rfl) (by kernel_rfl) ?_
  have hbw := hP.hb
  have acts : ∀ {b : Nat} {bs : List UInt8} {D : Mem}, PutM B0 bw b t0 bs D → ActsR (fun c => c < n0) D ds xa := fun {b bs D} h => hacts.same (by have := h.hn; omega) (fun c hc hl => ⟨hc, h.old c hl (by omega)⟩)
  have sets : ∀ {b : Nat} {bs : List UInt8} {D : Mem}, PutM B0 bw b t0 bs D → Vals D 28 sb (.var 4) (headC w f qu xa) := fun {b bs D} h => hsb.same (h.old sb hsl.1 hsl.2)
  have hal := encAs_len hok
  have hlh : (headB w f qu).length = 4 := by simp [headB]
  obtain ⟨b1, C1, ⟨g1, hg1⟩, hP1⟩ := put_round (fid := 50) (p := .pointer (some ⟨sb, 0, none⟩)) (bs' := [] ++ headB w f qu) hP h4 hv4 hb4 (fun E hwE hnE hgE => by
    have h1 := hP.hn
    have h2 := hP.n1
    refine run_head (P := fun c => c < n0) hwE (by simp) ((sets hP).same (hgE _ (by omega))) ⟨hsl.2, by omega⟩ (by omega) ((acts hP).same (by omega) (fun c hc hl => ⟨hc, hgE c (by have : c < n0 := hc; omega)⟩)) h60 hw hf hq)
  rw [List.nil_append] at hP1
  have l2 : loadF tb1 C1.get 26 (.pointer (some ⟨sb, 3, none⟩)) = .ok xa := load_vals und26 rfl (sets hP1) rfl
  have hlen := hacts.len
  apply W.seq
  apply W.run 20
  · intro M
    simp (config := { maxSteps := 4000000 }) (disch := first | decide +kernel | omega) only [c49, Try.f49, Option.getD_some, sub_seq0, sub_nil, T.puts_cons, Nat.reduceAdd, T.puts_nil, exec_region, runOps_cons, opF_makeFunc, evs, ev_tmp, T.get_set, Nat.reduceEqDiff, T.get_e, if_false, if_true, evG_some, R.ok_bind, putT_some, opF_assign, runOps_nil]
    with_reducible rfl
  apply W.seq
  apply W.seq
  apply W.runG (g1) 20
  · intro M hM
    simp (config := { maxSteps := 4000000 }) (disch := first | decide +kernel | omega) only [c49, Try.f49, Option.getD_some, sub_seq1, sub_seq0, sub_nil, exec_region, runOps_cons, opF_move, ev_tmp, T.get_set, Nat.reduceEqDiff, T.get_e, if_true, if_false, evG_some, putT_some, opF_callv, evs, R.ok_bind, resK, opF_un, runOps_nil, callV_yield, hg1, un_not, Bool.not_true]
    with_reducible rfl
  show W tb1 _ _ _
  apply W.run 20
  · intro M
    simp (config := { maxSteps := 4000000 }) (disch := first | decide +kernel | omega) only [c49, Try.f49, Option.getD_some, sub_seq1, sub_seq0, sub_nil, exec_cond, ev_tmp, T.get_set, Nat.reduceEqDiff, T.get_e, if_false, if_true, evG_some, exec_ret, exec_skip, R.ok_bind]
    with_reducible rfl
  show W tb1 _ _ _
  apply W.seq
  apply W.run 20
  · intro M
    simp (config := { maxSteps := 4000000 }) (disch := first | decide +kernel | omega) only [c49, Try.f49, Option.getD_some, sub_seq1, sub_seq0, sub_nil, exec_region, runOps_cons, opF_fieldAddr, ev_tmp, T.get_set, Nat.reduceEqDiff, T.get_e, if_false, if_true, evG_some, putT_some, opF_load, opF_len, evs, R.ok_bind, opF_move, ev_int, runOps_nil, fa28_2, l2, hlen]
    with_reducible rfl
  apply W.block
  refine W.up ds.length (fun i t D => ∃ b', PutM B0 bw b' t0 (headB w f qu ++ encAs (ds.take i)) D ∧ Sl t [(0, .func (.yield (B0.next + 1)) ⟨[]⟩ ⟨[]⟩), (12, xa), (13, .int .i64 ((ds.length : Nat) : Int)), (14, .int .i64 (i : Int))]) ?_ (Nat.zero_le _) ⟨b1, by simpa [encAs] using hP1, ?_⟩
  · rintro i t D hi ⟨b', hPD, g0, g12, g13, g14, -⟩
    by_cases hlt : i < ds.length
    · have hAD := acts hPD
      obtain ⟨ls, bA, hbA, hx, hll, hall⟩ := hAD
      have hli : i < ls.length := by omega
      have hO := hall i ds[i] ls[i] (List.getElem?_eq_getElem hlt) (List.getElem?_eq_getElem hli)
      have ix := hx.idx (tb := tb1) (t := 26) (t' := 39) (kd := .i64) (i := i) und26 size39 hli
      obtain ⟨d39, hd1, hd2⟩ := und39
      have lld := hx.load_all (tb := tb1) (t := 39) hd1 hd2 size39 (List.getElem?_eq_getElem hli)
      have hsn := encAs_take (List.getElem?_eq_getElem hlt)
      have hokd := hok ds[i] (List.getElem_mem hlt)
      have htl : (encAs (ds.take i)).length ≤ 18000 := by
        have h := encAs_len (l := ds.take i) fun d hd => hok d (List.mem_of_mem_take hd)
        rw [List.length_take] at h
        have : min i ds.length ≤ 60 := by omega
        have := Nat.mul_le_mul_right 300 this
        omega
      generalize ls[i] = l at hO lld
      generalize ds[i] = d at hO hsn hokd
      have hDn := hPD.hn
      have hD1 := hPD.n1
      obtain ⟨z, hz, hz9⟩ : ∃ z, zeroF tb1 39 = .ok (.agg ⟨z⟩) ∧ z.length = 9 := ⟨_, zero39, rfl⟩
      have hv0 : Vals (D.alloc (rowOb 39 z)) 39 D.next (.var z.length) z := Go.Am.vals_new D 39 _
      rw [hz9] at hv0
      have hn5 : (D.alloc (rowOb 39 z)).next = D.next + 1 := next_alloc _ _
      obtain ⟨E, hst, hvE, hnE, hfE⟩ := store_all (tb := tb1) (t := 39) (l' := l) (by rw [size39, hz9]) hv0 (by rw [hO.cells.1, hz9]) (by intro h; rw [h] at hz9; cases hz9) hO.cells.2
      have hEE : Ext D E := (Ext.alloc D (rowOb 39 z)).put (b := D.next) (Nat.le_refl _) hnE hfE
      have hPE := hPD.step (hPD.w.ext hEE) (Wk.ext hEE)
      have hOE : ActR (Nb bw b') E d l := hO.same hEE.n (fun c hc hl => ⟨⟨by have : c < n0 := hc; omega, by have : c < n0 := hc; omega⟩, hEE.g c hl⟩)
      obtain ⟨b2, F, ⟨g, hg⟩, hPF⟩ := put_round (fid := 53) (p := .pointer (some ⟨D.next, 0, none⟩)) (bs' := headB w f qu ++ encAs (ds.take i) ++ encA d) hPE h4 hv4 hb4 (fun G hwG hnG hgG => by
        refine run_boxed hwG (by rw [List.length_append]; omega) hokd (hO.same (by rw [hnG]; exact hEE.n) (fun c hc hl => ⟨⟨by have : c < n0 := hc; omega, by have : c < n0 := hc; omega⟩, by rw [hgG c (by have : c < n0 := hc; omega), hEE.g c hl]⟩)) (hvE.same (hgG _ (by omega))))
      apply W.runG (g) 20
      · intro M hM
        simp (config := { maxSteps := 4000000 }) (disch := first | decide +kernel | omega) only [c49b1, c49, Try.f49, Option.getD_some, sub_seq1, sub_block, sub_loop, sub_nil, exec_seq, exec_region, runOps_cons, opF_ari, ev_tmp, g14, evG_some, g13, putT_some, runOps_nil, R.ok_bind, binF_int, op_lssI, cast_lt, hlt, decide_true, exec_cond, exec_skip, exec_exit, exec_block, opF_indexAddr, opF_move, exec_ret, ev_int, T.get_set, if_true, Nat.reduceEqDiff, g12, if_false, opF_load, opF_alloc, hz, at_ptr, opF_store, putT_none, cells_agg, ix, lld, hst, g0, opF_makeFunc, evs, opF_callv, resK, opF_un, callV_yield, hg, un_not, Bool.not_true, op_add_i64]
        with_reducible rfl
      refine ⟨hlt, _, _, rfl, b2, ?_, ?_⟩
      · rw [hsn, ← List.append_assoc]; exact hPF
      · simp only [Sl_cons, Sl_nil, T.get_set, T.puts_cons, T.puts_nil, Nat.reduceEqDiff, Nat.reduceAdd, if_true, if_false, and_true, true_and, g0, g12, g13]
    · have hin : i = ds.length := by omega
      subst hin
      rw [List.take_length] at hPD
      apply W.run 20
      · intro M
        simp (config := { maxSteps := 4000000 }) (disch := first | decide +kernel | omega) only [c49b1, c49, Try.f49, Option.getD_some, sub_seq1, sub_block, sub_loop, sub_nil, exec_seq, exec_region, runOps_cons, opF_ari, ev_tmp, g14, evG_some, g13, putT_some, runOps_nil, R.ok_bind, binF_int, op_lssI, cast_lt, Nat.lt_irrefl, decide_false, exec_cond, exec_skip, exec_exit, exec_block, opF_indexAddr, opF_move, exec_ret, ev_int, T.get_set, if_true]
        with_reducible rfl
      exact ⟨.inl rfl, _, [], rfl, rfl, b', hPD⟩
  · simp only [Sl_cons, Sl_nil, T.get_set, T.puts_cons, T.puts_nil, Nat.reduceEqDiff, Nat.reduceAdd, if_true, if_false, and_true, true_and]

noncomputable def c30 : Code := Try.f30.body.getD .skip
theorem c30_eq : Try.f30.body = some (.seq (sub c30 [0]) (.seq (sub c30 [1,0]) (sub c30 [1,1]))) := by kernel_rfl
theorem run_partsF {A : Mem} {l : List Value} : Ans tb1 30 [.agg ⟨l⟩] A (.func (.func 49) ⟨[]⟩ ⟨[.pointer (some ⟨A.next, 0, none⟩)]⟩) (A.alloc (rowOb 28 l)) := by
  obtain ⟨v, A', ha, rfl, rfl⟩ : ∃ v A', Ans tb1 30 [.agg ⟨l⟩] A v A' ∧ v = .func (.func 49) ⟨[]⟩ ⟨[.pointer (some ⟨A.next, 0, none⟩)]⟩ ∧ A' = A.alloc (rowOb 28 l) := by
    refine ans_of_W (fn_at Try.func30) c30_eq (by rw [Try.ntmps30]; simp) (by kernel_rfl) (by kernel_rfl) ?_
    apply W.seq
    apply W.run 20
    · intro M
      simp (config := { maxSteps := 4000000 }) (disch := first | decide +kernel | omega) only [c30, Try.f30, Option.getD_some, sub_seq0, sub_nil, T.puts_cons, Nat.reduceAdd, T.puts_nil, exec_region, runOps_cons, opF_box, ev_tmp, T.get_set, T.get_e, if_true, evG_some, at_ptr, putT_some, opF_assign, ev_nilfunc, runOps_nil, R.ok_bind, cells_agg]
      with_reducible rfl
    apply W.seq
    apply W.run 20
    · intro M
      simp (config := { maxSteps := 4000000 }) (disch := first | decide +kernel | omega) only [c30, Try.f30, Option.getD_some, sub_seq1, sub_seq0, sub_nil, exec_region, runOps_cons, opF_makeFunc, evs, ev_tmp, T.get_set, Nat.reduceEqDiff, T.get_e, if_false, if_true, evG_some, R.ok_bind, putT_some, opF_assign, runOps_nil]
      with_reducible rfl
    apply W.run 20
    · intro M
      simp (config := { maxSteps := 4000000 }) (disch := first | decide +kernel | omega) only [c30, Try.f30, Option.getD_some, sub_seq1, sub_nil, exec_ret]
      with_reducible rfl
    refine ⟨.inr rfl, _, [.func (.func 49) ⟨[]⟩ ⟨[.pointer (some ⟨A.next, 0, none⟩)]⟩], rfl, ?_, rfl, rfl⟩
    simp only [Try.f30, resF, ev_tmp, T.get_set, Nat.reduceEqDiff, if_true, if_false, evG_some, R.ok_bind]
  exact ha
end Go.Proofs.Ytmhldlnlgjpkaaa.scr

/-
  Script: Put, whole.
-/
namespace Go.Proofs.Ytmhldlnlgjpkaaa.scr
open Go.Am
set_option linter.unusedSimpArgs false
set_option linter.unusedVariables false
set_option maxRecDepth 20000

theorem cells_ptr (a : Option Addr) : (Value.pointer a).cells.toList = [.pointer a] := rfl
theorem zero22 : zeroF tb1 22 = .ok (.slice none 0 0) := by kernel_rfl
theorem zero51 : zeroF tb1 51 = .ok (.int .i64 0) := by kernel_rfl
theorem zero83 : zeroF tb1 83 = .ok (.pointer none) := by kernel_rfl
theorem size83 : sizeF tb1 83 = .ok 1 := by kernel_rfl
theorem size51 : sizeF tb1 51 = .ok 1 := by kernel_rfl
theorem bf85 : buildF tb1 85 [] = .ok (.agg ⟨[.slice none 0 0, .bool false]⟩) := by kernel_rfl
theorem c14_eq : Try.f14.body = some (.seq (sub c14 [0]) (.seq (sub c14 [1,0]) (.seq (.seq (sub c14 [1,1,0,0]) (sub c14 [1,1,0,1])) (.seq (sub c14 [1,1,1,0]) (sub c14 [1,1,1,1]))))) := by kernel_rfl
theorem c14r_eq : sub c14 [1,1,0,1] = .block 0 (.rangeFunc (.tmp 9) #[10] (sub c14 [1,1,0,1,0,0]) (sub c14 [1,1,0,1,0,1])) := by kernel_rfl
set_option maxHeartbeats 8000000 in
theorem run_putS {A : Mem} {n0 w f qu : Nat} {xa : Value} {ds : List ActD} (hacts : ActsR (fun c => c < n0) A ds xa) (hn0 : n0 ≤ A.next) (h60 : ds.length ≤ 60) (hok : ∀ d ∈ ds, ActOk2 d)
    (hw : 1 ≤ w ∧ w ≤ 256) (hf : 2 ≤ f ∧ f ≤ 9) (hq : qu < 65536) :
    ∃ x A' b, Ans tb1 14 [.agg ⟨headC w f qu xa⟩] A (.tuple ⟨[x, .int .i64 ((0 : Nat) : Int)]⟩) A' ∧ Slc A' 5 b (byts (headB w f qu ++ encAs ds)) x ∧ Ext A A' := by
  obtain ⟨v, A', ha, x, b, hv, hs, hE⟩ : ∃ v A', Ans tb1 14 [.agg ⟨headC w f qu xa⟩] A v A' ∧ ∃ x b, v = .tuple ⟨[x, .int .i64 ((0 : Nat) : Int)]⟩ ∧ Slc A' 5 b (byts (headB w f qu ++ encAs ds)) x ∧ Ext A A' := by
    refine ans_of_W (fn_at Try.func14) c14_eq (by rw [Try.ntmps14]; simp) (by kernel_rfl) (by kernel_rfl) ?_
    have hone : ∀ v ∈ headC w f qu xa, oneCell v = true := fun v hv => by
      obtain ⟨ls, bA, -, hx, -⟩ := hacts
      simp only [headC, List.mem_cons, List.not_mem_nil, or_false] at hv
      rcases hv with rfl | rfl | rfl | rfl <;> first | rfl | exact (SlcM.cells hx).2.1
    apply W.seq
    apply W.run 20
    · intro M
      simp (config := { maxSteps := 4000000 }) (disch := first | decide +kernel | omega) only [c14, Try.f14, Option.getD_some, sub_seq0, sub_nil, T.puts_cons, Nat.reduceAdd, T.puts_nil, exec_region, runOps_cons, opF_box, ev_tmp, T.get_set, T.get_e, if_true, evG_some, at_ptr, putT_some, opF_alloc, zero22, zero51, runOps_nil, R.ok_bind, cells_int, cells_slc, cells_agg]
      with_reducible rfl
    -- the memory behind the first piece
    have n1 : (A.alloc (rowOb 28 (headC w f qu xa))).next = A.next + 1 := next_alloc _ _
    have v1 : Vals (A.alloc (rowOb 28 (headC w f qu xa))) 28 A.next (.var 4) (headC w f qu xa) := Go.Am.vals_new A 28 _
    have E1 := Ext.alloc A (rowOb 28 (headC w f qu xa))
    revert n1 v1 E1
    generalize A.alloc (rowOb 28 (headC w f qu xa)) = A1
    intro n1 v1 E1
    have n2 : (A1.alloc (rowOb 22 [.slice none 0 0])).next = A1.next + 1 := next_alloc _ _
    have v2 : Vals (A1.alloc (rowOb 22 [.slice none 0 0])) 22 A1.next (.var 1) [.slice none 0 0] := Go.Am.vals_new A1 22 _
    have E2 := Ext.alloc A1 (rowOb 22 [.slice none 0 0])
    revert n2 v2 E2
    generalize A1.alloc (rowOb 22 [.slice none 0 0]) = A2
    intro n2 v2 E2
    have n3 : (A2.alloc (rowOb 51 [.int .i64 0])).next = A2.next + 1 := next_alloc _ _
    have v3 : Vals (A2.alloc (rowOb 51 [.int .i64 0])) 51 A2.next (.var 1) [.int .i64 0] := Go.Am.vals_new A2 51 _
    have E3 := Ext.alloc A2 (rowOb 51 [.int .i64 0])
    revert n3 v3 E3
    generalize A2.alloc (rowOb 51 [.int .i64 0]) = A3
    intro n3 v3 E3
    have n4 : (A3.alloc (rowOb 85 [.slice none 0 0, .bool false])).next = A3.next + 1 := next_alloc _ _
    have v4 : Vals (A3.alloc (rowOb 85 [.slice none 0 0, .bool false])) 85 A3.next (.var 2) [.slice none 0 0, .bool false] := Go.Am.vals_new A3 85 _
    have E4 := Ext.alloc A3 (rowOb 85 [.slice none 0 0, .bool false])
    have n5 : ((A3.alloc (rowOb 85 [.slice none 0 0, .bool false])).alloc (rowOb 83 [.pointer none])).next = A3.next + 2 := by rw [next_alloc, n4]
    have v5 : Vals ((A3.alloc (rowOb 85 [.slice none 0 0, .bool false])).alloc (rowOb 83 [.pointer none])) 83 (A3.alloc (rowOb 85 [.slice none 0 0, .bool false])).next (.var 1) [.pointer none] := Go.Am.vals_new _ 83 _
    have E5 := Ext.alloc (A3.alloc (rowOb 85 [.slice none 0 0, .bool false])) (rowOb 83 [.pointer none])
    rw [n4] at v5
    obtain ⟨A6, hst, v6, n6, f6⟩ := store_vals (tb := tb1) (t := 83) (o := 0) (v := .pointer (some ⟨A3.next, 0, none⟩)) size83 v5 (by simp) rfl rfl
    have E36 : Ext A3 A6 := (E4.trans E5).put (b := A3.next + 1) (by omega) n6 f6
    have hst' : storeF tb1 ((A3.alloc (rowOb 85 [.slice none 0 0, .bool false])).alloc (rowOb 83 [.pointer none])) 83 (.pointer (some ⟨A3.next + 1, 0, none⟩)) (.pointer (some ⟨A3.next, 0, none⟩)) = .ok A6 := hst
    have v4' : Vals A6 85 A3.next (.var 2) [.slice none 0 0, .bool false] := v4.same (by rw [f6 _ (by omega), E5.g _ (by omega)])
    apply W.seq
    apply W.run 20
    · intro M
      simp (config := { maxSteps := 4000000 }) (disch := first | decide +kernel | omega) only [c14, Try.f14, Option.getD_some, sub_seq1, sub_seq0, sub_nil, exec_region, runOps_cons, opF_build, evp, putT_some, opF_box, ev_tmp, T.get_set, Nat.reduceEqDiff, T.get_e, if_false, if_true, evG_some, at_ptr, opF_alloc, zero83, next_alloc, opF_store, putT_none, runOps_nil, R.ok_bind, cells_ptr, bf85, cells_agg, hst']
      with_reducible rfl
    have E06 : Ext A A6 := ((E1.trans E2).trans E3).trans E36
    obtain ⟨d28, hd1, hd2⟩ := und28
    have l28 := Go.Am.load_all (tb := tb1) (t := 28) hd1 hd2 (by rw [size28]; rfl) (v1.same (((E2.trans E3).trans E36).g _ (by omega)))
    obtain ⟨gp, hgp⟩ := run_partsF (A := A6) (l := headC w f qu xa)
    apply W.seq
    apply W.seq
    apply W.runG (gp) 20
    · intro M hM
      simp (config := { maxSteps := 4000000 }) (disch := first | decide +kernel | omega) only [c14, Try.f14, Option.getD_some, sub_seq1, sub_seq0, sub_nil, exec_region, runOps_cons, opF_load, ev_tmp, T.get_set, Nat.reduceEqDiff, T.get_e, if_false, if_true, evG_some, putT_some, opF_call, evs, R.ok_bind, resK, runOps_nil, l28, hgp]
      with_reducible rfl
    show W tb1 _ _ _
    rw [c14r_eq]
    have n7 : (A6.alloc (rowOb 28 (headC w f qu xa))).next = A6.next + 1 := next_alloc _ _
    have v7 : Vals (A6.alloc (rowOb 28 (headC w f qu xa))) 28 A6.next (.var 4) (headC w f qu xa) := Go.Am.vals_new A6 28 _
    have E7 := Ext.alloc A6 (rowOb 28 (headC w f qu xa))
    revert n7 v7 E7
    generalize A6.alloc (rowOb 28 (headC w f qu xa)) = B0
    intro n7 v7 E7
    apply W.block
    generalize htt : (T.set _ 9 _ : T Value) = tt
    have t2 : tt.get 2 = some (.pointer (some ⟨A1.next, 0, none⟩)) := by rw [← htt]; simp only [T.get_set, Nat.reduceEqDiff, if_true, if_false]
    have t3 : tt.get 3 = some (.pointer (some ⟨A2.next, 0, none⟩)) := by rw [← htt]; simp only [T.get_set, Nat.reduceEqDiff, if_true, if_false]
    have t4 : tt.get 4 = some (.pointer (some ⟨A3.next + 1, 0, none⟩)) := by rw [← htt]; simp only [T.get_set, Nat.reduceEqDiff, if_true, if_false]
    have t9 : tt.get 9 = some (.func (.func 49) ⟨[]⟩ ⟨[.pointer (some ⟨A6.next, 0, none⟩)]⟩) := by rw [← htt]; simp only [T.get_set, if_true]
    have hL1 : (B0.alloc .defd).next = B0.next + 1 := next_alloc _ _
    have hL2 : ((B0.alloc .defd).alloc (.loop (putL tt B0.next))).next = B0.next + 2 := by rw [next_alloc, hL1]
    have hEL : Ext B0 ((B0.alloc .defd).alloc (.loop (putL tt B0.next))) := (Ext.alloc B0 _).trans (Ext.alloc _ _)
    have hP0 : PutM B0 A3.next A3.next tt [] ((B0.alloc .defd).alloc (.loop (putL tt B0.next))) := {
      w := ⟨.slice none 0 0, (v4'.same (E7.g _ (by omega))).same (hEL.g _ (by omega)), .inl ⟨rfl, rfl⟩, .inl rfl, by omega, by omega⟩
      hd := by rw [get_alloc_ne (by omega), get_alloc_self]
      hl := by rw [← hL1, get_alloc_self]
      hb := by omega
      n1 := .inl rfl
      hn := by omega
      old := fun y hy _ => hEL.g y hy }
    have hactsB : ActsR (fun c => c < n0) B0 ds xa := hacts.same (by have := E06.n; have := E7.n; omega) (fun c hc hl => ⟨hc, by rw [E7.g c (by have := E06.n; omega), E06.g c hl]⟩)
    obtain ⟨v, C, hc, b', hPC⟩ := run_parts1 (n0 := n0) hP0 t4 (v6.same (E7.g _ (by omega))) ⟨by omega, by omega⟩ v7 ⟨by omega, by omega⟩ hactsB (by omega) h60 hok hw hf hq
    have hfv : ev tt (.tmp 9) = .ok (.func (.func 49) ⟨[]⟩ ⟨[.pointer (some ⟨A6.next, 0, none⟩)]⟩) := by rw [ev_tmp, t9]; rfl
    refine W.rangeF hfv hc hPC.hl (by intro h; cases h) rfl ?_
    show W tb1 _ _ _
    have hCn := hPC.hn
    have hCb := hPC.n1
    obtain ⟨x, k1, k2, k3, k4, k5⟩ := hPC.w
    have hset : ∀ y, y ≠ B0.next + 1 → (C.set (B0.next + 1) (.loop { (putL tt B0.next) with state := .exhausted })).get y = C.get y := fun y hy => by rw [get_setMem, if_neg hy]
    have hsn : (C.set (B0.next + 1) (.loop { (putL tt B0.next) with state := .exhausted })).next = C.next := next_set _ _ _
    show W tb1 _ ⟨_, _, _, C.set (B0.next + 1) (.loop { (putL tt B0.next) with state := .exhausted }), _⟩ _
    revert hset hsn
    generalize C.set (B0.next + 1) (.loop { (putL tt B0.next) with state := .exhausted }) = D
    intro hset hsn
    have old : ∀ y, y < B0.next → y ≠ A3.next → D.get y = B0.get y := fun y hy hyb => by rw [hset _ (by omega), hPC.old y hy hyb]
    have E37 : Ext A3 B0 := E36.trans E7
    have m4 : Vals D 83 (A3.next + 1) (.var 1) [.pointer (some ⟨A3.next, 0, none⟩)] := (v6.same (E7.g _ (by omega))).same (old _ (by omega) (by omega))
    have m1 : Vals D 22 A1.next (.var 1) [.slice none 0 0] := (v2.same ((E3.trans E37).g _ (by omega))).same (old _ (by omega) (by omega))
    have m2 : Vals D 51 A2.next (.var 1) [.int .i64 0] := (v3.same (E37.g _ (by omega))).same (old _ (by omega) (by omega))
    have mw : Vals D 85 A3.next (.var 2) [x, .bool false] := k1.same (hset _ (by omega))
    have ms : Slc D 5 b' (byts (headB w f qu ++ encAs ds)) x := k2.same (by omega) (fun _ => hset _ (by omega))
    obtain ⟨d83, hd83, hd83'⟩ := und83
    have l4 : loadF tb1 D.get 83 (.pointer (some ⟨A3.next + 1, 0, none⟩)) = .ok (.pointer (some ⟨A3.next, 0, none⟩)) := load_vals hd83 hd83' m4 rfl
    have lx : loadF tb1 D.get 22 (.pointer (some ⟨A3.next, 0, none⟩)) = .ok x := load_vals und22 rfl mw rfl
    obtain ⟨D1, hst1, w1, nD1, fD1⟩ := store_vals (tb := tb1) (t := 22) (o := 0) (v := x) size22 m1 (by simp) ms.cells ms.one
    obtain ⟨D2, hst2, w2, nD2, fD2⟩ := store_vals (tb := tb1) (t := 51) (o := 0) (v := .int .i64 ((0 : Nat) : Int)) size51 (m2.same (fD1 _ (by omega))) (by simp) rfl rfl
    apply W.seq
    apply W.run 20
    · intro M
      simp (config := { maxSteps := 4000000 }) (disch := first | decide +kernel | omega) only [c14, Try.f14, Option.getD_some, sub_seq1, sub_seq0, sub_nil, exec_region, runOps_cons, opF_load, ev_tmp, t4, evG_some, putT_some, opF_nilCheck, T.get_set, if_true, opF_fieldAddr, Nat.reduceEqDiff, if_false, opF_store, t2, putT_none, t3, ev_int, runOps_nil, R.ok_bind, l4, nil_ptr, fa85_0, lx, hst1, hst2]
      with_reducible rfl
    apply W.run 20
    · intro M
      simp (config := { maxSteps := 4000000 }) (disch := first | decide +kernel | omega) only [c14, Try.f14, Option.getD_some, sub_seq1, sub_nil, exec_ret]
      with_reducible rfl
    have w1' : Vals D2 22 A1.next (.var 1) [x] := w1.same (fD2 _ (by omega))
    have hdd : D2.get B0.next = some .defd := by rw [fD2 _ (by omega), fD1 _ (by omega), hset _ (by omega)]; exact hPC.hd
    have hFs : ∀ y, y ≠ B0.next → (D2.set B0.next .dead).get y = D2.get y := fun y hy => by rw [get_setMem, if_neg hy]
    have hFn : (D2.set B0.next .dead).next = D2.next := next_set _ _ _
    refine ⟨.inr rfl, D2.set B0.next .dead, [x, .int .i64 ((0 : Nat) : Int)], ?_, ?_, x, b', rfl, ?_, ⟨?_, ?_⟩⟩
    · show takeF [B0.next] D2 = _
      unfold takeF
      rw [hdd]
      rfl
    · have r1 : loadF tb1 (D2.set B0.next .dead).get 22 (.pointer (some ⟨A1.next, 0, none⟩)) = .ok x := load_vals und22 rfl (w1'.same (hFs _ (by omega))) rfl
      have r2 : loadF tb1 (D2.set B0.next .dead).get 51 (.pointer (some ⟨A2.next, 0, none⟩)) = .ok (.int .i64 ((0 : Nat) : Int)) := load_vals und51 rfl (w2.same (hFs _ (by omega))) rfl
      simp only [Try.f14, resF, ev_tmp, T.get_set, Nat.reduceEqDiff, if_true, if_false, evG_some, R.ok_bind, t2, t3, r1, r2]
    · refine ms.same (by omega) (fun hl => ?_)
      rcases hCb with hq2 | hq2
      · rcases k3 with k3 | k3
        · rcases ms with ⟨-, e⟩ | ⟨k, c, e, -⟩
          · exact absurd e (by simp [byts, headB])
          · rw [k3] at e; cases e
        · exact absurd hq2 k3
      · rw [hFs _ (by omega), fD2 _ (by omega), fD1 _ (by omega)]
    · omega
    · intro y hy
      rw [hFs _ (by omega), fD2 _ (by omega), fD1 _ (by omega), old _ (by omega) (by omega), E7.g _ (by omega), E06.g _ hy]
  subst hv
  exact ⟨x, A', b, ha, hs, hE⟩
end Go.Proofs.Ytmhldlnlgjpkaaa.scr

/-
  Script: what was read can be laid.
-/
namespace Go.Proofs.Ytmhldlnlgjpkaaa.scr
open Go.Am
set_option linter.unusedSimpArgs false
set_option linter.unusedVariables false

theorem numV_ok (r : List UInt8) : NumOk (numV r) := by
  have h := nx_lt r
  unfold numV NumOk
  split
  · exact .inr rfl
  · exact .inl (by omega)
theorem numbersD_ok (r : List UInt8) (k : Nat) : ∀ v ∈ numbersD r k, NumOk v := fun v hv => by
  simp only [numbersD, List.mem_map] at hv
  obtain ⟨i, -, rfl⟩ := hv
  exact numV_ok _
theorem wordD_ok (r : List UInt8) : WordOk (wordD r).1 := by
  have hn := nx_lt r
  unfold wordD
  split
  · left
    simp only [List.length_replicate]
    have e : 32 * (nx r - 248 + 1) / 32 = nx r - 248 + 1 := by omega
    rw [e]
    exact ⟨by omega, by omega, rfl⟩
  · right
    simp only [lettersD_len]
    refine ⟨by omega, fun c hc => ?_⟩
    simp only [lettersD, List.mem_map] at hc
    obtain ⟨i, -, rfl⟩ := hc
    have h := nx_lt (r.tail.drop i)
    rw [letV_nat]
    split <;> omega
theorem stopD_ok (c : Bool) (s : List UInt8) : (∀ v ∈ (stopD c s).1, NumOk v) ∧ ∀ o ∈ (stopD c s).2.1, ∀ v ∈ o.2, NumOk v := by
  cases c with
  | false => exact ⟨fun v hv => (by cases hv), fun o ho => (by cases ho)⟩
  | true =>
    have e : stopD true s = (numbersD s.tail (nx s % 6), opensL (s.tail.drop (nx s % 6)) (nx s / 6 % 4), opensRest (s.tail.drop (nx s % 6)) (nx s / 6 % 4)) := rfl
    rw [e]
    refine ⟨numbersD_ok _ _, fun o ho => ?_⟩
    simp only [opensL, List.mem_map] at ho
    obtain ⟨i, -, rfl⟩ := ho
    exact numbersD_ok _ _
theorem moreD_ok (kd : Nat) (s : List UInt8) : (weighs kd = true → (moreD kd s).1 < 255 ∨ (moreD kd s).1 = 4294967295) ∧ (weighs kd = false → (moreD kd s).1 = 0) ∧
    (kd = 7 → ∃ a c : Nat, a < 6 ∧ c < 12 ∧ (moreD kd s).2.1 = (a : Int) - 1 ∧ (moreD kd s).2.2.1 = (c : Int) - 1) ∧ (kd ≠ 7 → (moreD kd s).2.1 = 0 ∧ (moreD kd s).2.2.1 = 0) := by
  have hn := nx_lt s
  unfold moreD
  by_cases hw : weighs kd = true
  · have h7 : kd ≠ 7 := fun h => by subst h; cases hw
    rw [if_pos hw]
    refine ⟨fun _ => ?_, fun h => (by rw [hw] at h; cases h), fun h => absurd h h7, fun _ => ⟨rfl, rfl⟩⟩
    simp only
    split
    · exact .inr rfl
    · exact .inl (by omega)
  · rw [if_neg hw]
    by_cases h7 : kd = 7
    · rw [if_pos h7]
      refine ⟨fun h => absurd h hw, fun _ => rfl, fun _ => ⟨nx s % 6, nx s / 6 % 12, by omega, by omega, by simp, by simp⟩, fun h => absurd h7 h⟩
    · rw [if_neg h7]
      exact ⟨fun h => absurd h hw, fun _ => rfl, fun h => absurd h h7, fun _ => ⟨rfl, rfl⟩⟩
theorem actD_ok2 (r : List UInt8) : ActOk2 (actD r).1 := by
  obtain ⟨m1, m2, m3, m4⟩ := moreD_ok (nx r % 10) (wordD (armD (nx r) r.tail).2).2
  obtain ⟨s1, s2⟩ := stopD_ok (cutD (nx r) || decide (0 < (armD (nx r) r.tail).1)) (moreD (nx r % 10) (wordD (armD (nx r) r.tail).2).2).2.2.2
  exact { ok := actD_ok r, word := wordD_ok _, stays := s1, opening := s2, w1 := m1, w0 := m2, kn := m3, k0 := m4 }
theorem actsD_ok2 : ∀ n r, ∀ d ∈ (actsD n r).1, ActOk2 d
  | 0, r, d, h => by cases h
  | n + 1, r, d, h => by
    unfold actsD at h
    split at h
    · cases h
    · rcases List.mem_cons.1 h with rfl | h
      · exact actD_ok2 r
      · exact actsD_ok2 n _ d h
theorem headB_eq (b : List UInt8) (ds : List ActD) : headB (1 + nx b) (2 + nx b.tail % 8) (nx b.tail.tail + 256 * nx b.tail.tail.tail) ++ encAs ds = UInt8.ofNat (nx b) :: UInt8.ofNat (nx b.tail % 8) :: UInt8.ofNat (nx b.tail.tail) :: UInt8.ofNat (nx b.tail.tail.tail) :: encAs ds := by
  have h2 := nx_lt b.tail.tail
  unfold headB
  rw [show 1 + nx b - 1 = nx b by omega, show 2 + nx b.tail % 8 - 2 = nx b.tail % 8 by omega, show (nx b.tail.tail + 256 * nx b.tail.tail.tail) % 256 = nx b.tail.tail by omega, show (nx b.tail.tail + 256 * nx b.tail.tail.tail) / 256 = nx b.tail.tail.tail by omega]
  rfl
end Go.Proofs.Ytmhldlnlgjpkaaa.scr

/-
  Script: the document's reader.
-/
namespace Go.Proofs.Ytmhldlnlgjpkaaa.scr
open Go.Am
variable {q : Nat}
set_option linter.unusedSimpArgs false
set_option linter.unusedVariables false
set_option linter.unusedVariables false
set_option maxRecDepth 20000

theorem fa78_0 (b : Nat) : fieldAddrF tb1 78 (.pointer (some ⟨b, 0, none⟩)) 0 = .ok (.pointer (some ⟨b, 0, none⟩)) := by kernel_rfl
theorem fa78_1 (b : Nat) : fieldAddrF tb1 78 (.pointer (some ⟨b, 0, none⟩)) 1 = .ok (.pointer (some ⟨b, 1, none⟩)) := by kernel_rfl
/-- The document's reader at 'ib': all bytes, and how many were read. -/
def Ri (q : Nat) (A : Mem) (ib : Nat) (b : List UInt8) (x : Value) (rem : List UInt8) : Prop :=
  ∃ at_, Vals A 78 ib (.var 2) [x, .int .i64 ((at_ : Nat) : Int)] ∧ RdS q A b x ∧ at_ ≤ b.length ∧ rem = b.drop at_ ∧ ib < A.next ∧ ib ≠ q
theorem Ri.alloc {A : Mem} {ib : Nat} {b rem : List UInt8} {x : Value} (h : Ri q A ib b x rem) (o : Ob) : Ri q (A.alloc o) ib b x rem := by
  obtain ⟨a, h1, h2, h3, h4, h5, h6⟩ := h
  exact ⟨a, h1.same (get_alloc_ne (by omega)), h2.same (by rw [next_alloc]; omega) (fun h0 => get_alloc_ne (by omega)), h3, h4, by rw [next_alloc]; omega, h6⟩
theorem RdS.at {A : Mem} {l : List UInt8} {x : Value} (h : RdS q A l x) {i : Nat} (hi : i < l.length) : ∃ p, indexAddrF tb1 22 x (.int .i64 (i : Int)) = .ok (.pointer (some p)) ∧ loadF tb1 A.get 5 (.pointer (some p)) = .ok (.int .u8 (((l.getD i 0).toNat : Nat) : Int)) := by
  rcases h with ⟨_, ⟨rfl, rfl⟩ | ⟨off, cp, rfl, -, -, h⟩⟩
  · simp at hi
  · refine ⟨⟨q, off + i, none⟩, indexAddr_slc (k := .i64) und22 size5 hi, ?_⟩
    rcases h with rfl | ⟨t, kd, fz, c, h1, h2⟩
    · simp at hi
    · have h3 := h2 i hi
      unfold loadF
      simp only [h1, und5, isAggD, cond_false, h3]
noncomputable def c28 : Code := Try.f28.body.getD .skip
theorem c28_eq : Try.f28.body = some (.seq (sub c28 [0]) (.seq (.seq (sub c28 [1,0,0]) (sub c28 [1,0,1])) (.seq (sub c28 [1,1,0]) (.seq (sub c28 [1,1,1,0]) (sub c28 [1,1,1,1]))))) := by kernel_rfl
set_option maxHeartbeats 4000000 in
theorem run_one {A : Mem} {ib : Nat} {b rem : List UInt8} {x : Value} (h : Ri q A ib b x rem) (hl : b.length ≤ 1000000) : ∃ A', Ans tb1 28 [.pointer (some ⟨ib, 0, none⟩)] A (.int .i64 (nx rem : Nat)) A' ∧ Ri q A' ib b x rem.tail ∧ Kp ib A A' := by
  obtain ⟨at_, h1, h2, h3, h4, h5, h6⟩ := h
  obtain ⟨v, A', ha, hv, hr, hk⟩ : ∃ v A', Ans tb1 28 [.pointer (some ⟨ib, 0, none⟩)] A v A' ∧ v = .int .i64 (nx rem : Nat) ∧ Ri q A' ib b x rem.tail ∧ Kp ib A A' := by
    refine ans_of_W (fn_at Try.func28) c28_eq (by rw [Try.ntmps28]; simp) (by kernel_rfl) (by kernel_rfl) ?_
    have l0 : loadF tb1 A.get 22 (.pointer (some ⟨ib, 0, none⟩)) = .ok x := load_vals und22 rfl h1 rfl
    have l1 : loadF tb1 A.get 3 (.pointer (some ⟨ib, 1, none⟩)) = .ok (.int .i64 ((at_ : Nat) : Int)) := load_vals und3 rfl h1 rfl
    have hlen := h2.len (tb := tb1) (t := 22) und22
    apply W.seq
    apply W.run 20
    · intro M
      simp (config := { maxSteps := 4000000 }) (disch := first | decide +kernel | omega) only [c28, Try.f28, Option.getD_some, sub_seq0, sub_nil, T.puts_cons, Nat.reduceAdd, T.puts_nil, exec_region, runOps_cons, opF_assign, ev_int, putT_some, runOps_nil, R.ok_bind]
      with_reducible rfl
    apply W.seq
    apply W.seq
    by_cases hlt : b.length ≤ at_
    · have hn : rem = [] := by rw [h4]; exact List.drop_eq_nil_of_le hlt
      apply W.run 20
      · intro M
        simp (config := { maxSteps := 4000000 }) (disch := first | decide +kernel | omega) only [c28, Try.f28, Option.getD_some, sub_seq1, sub_seq0, sub_nil, exec_draw, runOps_cons, opF_move, ev_tmp, T.get_set, Nat.reduceEqDiff, T.get_e, if_true, if_false, evG_some, putT_some, opF_nilCheck, opF_fieldAddr, opF_load, opF_len, evs, R.ok_bind, opF_ari, runOps_nil, nil_ptr, fa78_0, l0, hlen, fa78_1, l1, binF_int, op_geq, cast_le, hlt, decide_true]
        with_reducible rfl
      show W tb1 _ _ _
      apply W.run 20
      · intro M
        simp (config := { maxSteps := 4000000 }) (disch := first | decide +kernel | omega) only [c28, Try.f28, Option.getD_some, sub_seq1, sub_seq0, sub_nil, exec_cond, ev_tmp, T.get_set, Nat.reduceEqDiff, T.get_e, if_false, if_true, evG_some, exec_seq, exec_region, runOps_cons, opF_assign, ev_int, putT_some, runOps_nil, R.ok_bind, exec_ret, exec_skip]
        with_reducible rfl
      refine ⟨.inr rfl, _, [.int .i64 ((0 : Nat) : Int)], rfl, ?_, by rw [hn]; rfl, ⟨at_, h1, h2, h3, by rw [hn]; show [] = _; rw [← hn]; exact h4, h5, h6⟩, Kp.refl _ _⟩
      simp only [Try.f28, resF, ev_tmp, T.get_set, Nat.reduceEqDiff, if_true, if_false, evG_some, R.ok_bind]
    · have hlt' : at_ < b.length := by omega
      have hrem : rem = b.getD at_ 0 :: b.drop (at_ + 1) := by
        rw [h4, List.drop_eq_getElem_cons hlt']
        simp [List.getD, List.getElem?_eq_getElem hlt']
      obtain ⟨B, hst, hvB, hnB, hfB⟩ := store_vals (tb := tb1) (t := 3) (o := 1) (v := .int .i64 ((at_ + 1 : Nat) : Int)) size3 h1 (by simp) rfl rfl
      have h2B : RdS q B b x := h2.same (by omega) (fun _ => hfB q (fun e => h6 e.symm))
      have l0' : loadF tb1 B.get 22 (.pointer (some ⟨ib, 0, none⟩)) = .ok x := load_vals und22 rfl hvB rfl
      have l1' : loadF tb1 B.get 3 (.pointer (some ⟨ib, 1, none⟩)) = .ok (.int .i64 ((at_ + 1 : Nat) : Int)) := load_vals und3 rfl hvB rfl
      have hsub : intOpF .sub .i64 ((at_ + 1 : Nat) : Int) ((1 : Nat) : Int) = .ok (.int .i64 ((at_ : Nat) : Int)) := op_sub_i64 (by omega) (by omega)
      have hadd : intOpF .add .i64 ((at_ : Nat) : Int) ((1 : Nat) : Int) = .ok (.int .i64 ((at_ + 1 : Nat) : Int)) := op_add_i64 (by omega)
      obtain ⟨p, hp, hpl⟩ := h2B.at hlt'
      have hby := byte_lt (b.getD at_ 0)
      apply W.run 20
      · intro M
        simp (config := { maxSteps := 4000000 }) (disch := first | decide +kernel | omega) only [c28, Try.f28, Option.getD_some, sub_seq1, sub_seq0, sub_nil, exec_draw, runOps_cons, opF_move, ev_tmp, T.get_set, Nat.reduceEqDiff, T.get_e, if_true, if_false, evG_some, putT_some, opF_nilCheck, opF_fieldAddr, opF_load, opF_len, evs, R.ok_bind, opF_ari, runOps_nil, nil_ptr, fa78_0, l0, hlen, fa78_1, l1, binF_int, op_geq, cast_le, hlt, decide_false]
        with_reducible rfl
      show W tb1 _ _ _
      apply W.run 20
      · intro M
        simp (config := { maxSteps := 4000000 }) (disch := first | decide +kernel | omega) only [c28, Try.f28, Option.getD_some, sub_seq1, sub_seq0, sub_nil, exec_cond, ev_tmp, T.get_set, Nat.reduceEqDiff, T.get_e, if_false, if_true, evG_some, exec_seq, exec_region, runOps_cons, opF_assign, ev_int, putT_some, runOps_nil, R.ok_bind, exec_ret, exec_skip]
        with_reducible rfl
      show W tb1 _ _ _
      apply W.seq
      apply W.run 20
      · intro M
        simp (config := { maxSteps := 4000000 }) (disch := first | decide +kernel | omega) only [c28, Try.f28, Option.getD_some, sub_seq1, sub_seq0, sub_nil, exec_region, runOps_cons, opF_move, ev_tmp, T.get_set, Nat.reduceEqDiff, T.get_e, if_true, if_false, evG_some, putT_some, opF_nilCheck, opF_fieldAddr, opF_load, opF_ari, ev_int, opF_store, putT_none, runOps_nil, R.ok_bind, nil_ptr, fa78_1, l1, binF_int, hadd, hst]
        with_reducible rfl
      apply W.seq
      apply W.run 20
      · intro M
        simp (config := { maxSteps := 4000000 }) (disch := first | decide +kernel | omega) only [c28, Try.f28, Option.getD_some, sub_seq1, sub_seq0, sub_nil, exec_draw, runOps_cons, opF_move, ev_tmp, T.get_set, Nat.reduceEqDiff, T.get_e, if_true, if_false, evG_some, putT_some, opF_nilCheck, opF_fieldAddr, opF_load, opF_ari, ev_int, und3, opF_indexAddr, opF_conv, convPF, und5, opF_assign, runOps_nil, R.ok_bind, nil_ptr, fa78_1, l1', binF_int, hsub, fa78_0, l0', hp, hpl, wrapF_i64]
        with_reducible rfl
      apply W.run 20
      · intro M
        simp (config := { maxSteps := 4000000 }) (disch := first | decide +kernel | omega) only [c28, Try.f28, Option.getD_some, sub_seq1, sub_nil, exec_ret]
        with_reducible rfl
      refine ⟨.inr rfl, B, [.int .i64 (((b.getD at_ 0).toNat : Nat) : Int)], rfl, ?_, by rw [hrem]; rfl, ⟨at_ + 1, hvB, h2B, by omega, by rw [hrem]; rfl, by omega, h6⟩, ⟨by omega, fun y _ hy => hfB y hy⟩⟩
      simp only [Try.f28, resF, ev_tmp, T.get_set, Nat.reduceEqDiff, if_true, if_false, evG_some, R.ok_bind]
  subst hv
  exact ⟨A', ha, hr, hk⟩
end Go.Proofs.Ytmhldlnlgjpkaaa.scr

/-
  Script: the document's numbers and words.
-/
namespace Go.Proofs.Ytmhldlnlgjpkaaa.scr
open Go.Am
variable {q : Nat}
set_option linter.unusedSimpArgs false
set_option linter.unusedVariables false
set_option linter.unusedVariables false
set_option maxRecDepth 20000

theorem Ri.keep {A A' : Mem} {ib : Nat} {b rem : List UInt8} {x : Value} (h : Ri q A ib b x rem) (hn : A.next ≤ A'.next) (hg : ∀ y, y < A.next → y = ib ∨ y = q → A'.get y = A.get y) : Ri q A' ib b x rem := by
  obtain ⟨a, h1, h2, h3, h4, h5, h6⟩ := h
  exact ⟨a, h1.same (hg _ h5 (.inl rfl)), h2.same hn (fun h0 => hg _ h0 (.inr rfl)), h3, h4, by omega, h6⟩
theorem Ri.lt {A : Mem} {ib : Nat} {b rem : List UInt8} {x : Value} (h : Ri q A ib b x rem) : ib < A.next ∧ q < A.next := by
  obtain ⟨a, h1, h2, h3, h4, h5, h6⟩ := h
  exact ⟨h5, h2.1⟩
noncomputable def c48 : Code := Try.f48.body.getD .skip
noncomputable def c48b1 : Code := sub c48 [1,1,0,1,0,0]
theorem c48_eq : Try.f48.body = some (.seq (sub c48 [0]) (.seq (sub c48 [1,0]) (.seq (.seq (sub c48 [1,1,0,0]) (.block 0 (.loop c48b1))) (.seq (sub c48 [1,1,1,0]) (sub c48 [1,1,1,1]))))) := by kernel_rfl
set_option maxHeartbeats 4000000 in
theorem run_rnums {A : Mem} {ib : Nat} {b rem : List UInt8} {x : Value} (h : Ri q A ib b x rem) (hl : b.length ≤ 1000000) (n : Nat) (hn : n ≤ 1000) :
    ∃ y A', Ans tb1 48 [.pointer (some ⟨ib, 0, none⟩), .int .i64 (n : Int)] A y A' ∧ Ri q A' ib b x (rem.drop n) ∧ Kp ib A A' ∧ ∃ bb, A.next ≤ bb ∧ Slc A' 43 bb (shorts (numbersD rem n)) y := by
  refine ans_of_W (fn_at Try.func48) c48_eq (by rw [Try.ntmps48]; simp) (by kernel_rfl) (by kernel_rfl) ?_
  apply W.seq
  apply W.run 20
  · intro M
    simp (config := { maxSteps := 4000000 }) (disch := first | decide +kernel | omega) only [c48, Try.f48, Option.getD_some, sub_seq0, sub_nil, T.puts_cons, Nat.reduceAdd, T.puts_nil, exec_region, runOps_cons, opF_assign, ev_nilslice, putT_some, runOps_nil, R.ok_bind]
    with_reducible rfl
  apply W.seq
  apply W.run 20
  · intro M
    simp (config := { maxSteps := 4000000 }) (disch := first | decide +kernel | omega) only [c48, Try.f48, Option.getD_some, sub_seq1, sub_seq0, sub_nil, exec_region, runOps_cons, opF_assign, ev_nilslice, putT_some, runOps_nil, R.ok_bind]
    with_reducible rfl
  apply W.seq
  apply W.seq
  apply W.run 20
  · intro M
    simp (config := { maxSteps := 4000000 }) (disch := first | decide +kernel | omega) only [c48, Try.f48, Option.getD_some, sub_seq1, sub_seq0, sub_nil, exec_region, runOps_cons, opF_assign, ev_int, putT_some, runOps_nil, R.ok_bind]
    with_reducible rfl
  apply W.block
  refine W.up n (fun i t D => ∃ y bb, Slc D 43 bb (shorts (numbersD rem i)) y ∧ A.next ≤ bb ∧ Kp ib A D ∧ Ri q D ib b x (rem.drop i) ∧ Sl t [(0, .pointer (some ⟨ib, 0, none⟩)), (1, .int .i64 (n : Int)), (5, y), (6, .int .i64 (i : Int))]) ?_ (Nat.zero_le _) ⟨.slice none 0 0, A.next, nil_slc _ _ _, Nat.le_refl _, Kp.refl _ _, by simpa using h, ?_⟩
  · rintro i t D hi ⟨y, bb, hs, hbb, hk, hR, g0, g1, g5, g6, -⟩
    have hkn := hk.1
    have hib := h.lt
    by_cases hlt : i < n
    · obtain ⟨E, ⟨g, hg⟩, hRE, hkE⟩ := run_one hR hl
      rw [drop_tail] at hRE
      have hkEn := hkE.1
      have hnx := nx_lt (rem.drop i)
      have hsE : Slc E 43 bb (shorts (numbersD rem i)) y := hs.same hkE.1 (fun hl2 => hkE.2 bb hl2 (by omega))
      obtain ⟨v, hv⟩ : ∃ v, numV (rem.drop i) = v := ⟨_, rfl⟩
      have hE2 := Ext.alloc E (rowOb 43 [.int .u16 (v : Int)])
      have hn2 : (E.alloc (rowOb 43 [.int .u16 (v : Int)])).next = E.next + 1 := next_alloc _ _
      obtain ⟨ti, ht1, ht2⟩ := ty43
      obtain ⟨y', F, happ, hs3, hn3, hf3⟩ := (hsE.same hE2.n (fun hl2 => hE2.g bb hl2)).append (tb := tb1) (st := 36) (xt := 36) und36 und36 zc43 ht1 (by omega) (by omega) (by rw [shorts_len, numbersD_len]; omega) (get_alloc_self E _) rfl
      have hsn : shorts (numbersD rem (i + 1)) = shorts (numbersD rem i) ++ [.int .u16 (v : Int)] := by rw [numbersD_succ, hv]; simp [shorts]
      have hfr : ∀ z, z ≠ bb → z < E.next → F.get z = E.get z := fun z h1 h2 => by rw [hf3 z h1 (by omega), hE2.g z h2]
      have fin : ∀ {K : Ex → St → Prop}, (∀ t', Sl t' [(0, .pointer (some ⟨ib, 0, none⟩)), (1, .int .i64 (n : Int)), (5, y'), (6, .int .i64 ((i + 1 : Nat) : Int))] → K .nrm ⟨t', 23, [], F, none⟩) → W tb1 c48b1 ⟨t, 23, [], D, none⟩ K := by
        intro K hK
        unfold numV at hv
        by_cases h250 : 250 ≤ nx (rem.drop i)
        · rw [if_pos h250] at hv
          subst hv
          apply W.runG (g) 20
          · intro M hM
            simp (config := { maxSteps := 4000000 }) (disch := first | decide +kernel | omega) only [c48b1, c48, Try.f48, Option.getD_some, sub_seq1, sub_seq0, sub_block, sub_loop, sub_nil, exec_seq, exec_region, runOps_cons, opF_move, ev_tmp, g6, evG_some, putT_some, T.get_set, Nat.reduceEqDiff, g1, if_false, opF_ari, if_true, und3, runOps_nil, R.ok_bind, binF_int, op_lssI, cast_lt, hlt, decide_true, exec_cond, exec_skip, exec_exit, exec_block, opF_assign, ev_int, g0, opF_call, evs, resK, hg, op_geq, cast_le, h250, g5, opF_conv, convPF, und43, opF_buildSlice, evp, opF_builtin, builtin_append, wrapF_u16, Nat.reduceMod, bs36, at_slc, happ, op_add_i64]
            with_reducible rfl
          apply hK
          simp only [Sl_cons, Sl_nil, T.get_set, T.puts_cons, T.puts_nil, Nat.reduceEqDiff, Nat.reduceAdd, if_true, if_false, and_true, true_and, g0, g1]
        · rw [if_neg h250] at hv
          subst hv
          have hmod : nx (rem.drop i) % 65536 = nx (rem.drop i) := by omega
          apply W.runG (g) 20
          · intro M hM
            simp (config := { maxSteps := 4000000 }) (disch := first | decide +kernel | omega) only [c48b1, c48, Try.f48, Option.getD_some, sub_seq1, sub_seq0, sub_block, sub_loop, sub_nil, exec_seq, exec_region, runOps_cons, opF_move, ev_tmp, g6, evG_some, putT_some, T.get_set, Nat.reduceEqDiff, g1, if_false, opF_ari, if_true, und3, runOps_nil, R.ok_bind, binF_int, op_lssI, cast_lt, hlt, decide_true, exec_cond, exec_skip, exec_exit, exec_block, opF_assign, ev_int, g0, opF_call, evs, resK, hg, op_geq, cast_le, h250, decide_false, g5, opF_conv, convPF, und43, opF_buildSlice, evp, opF_builtin, builtin_append, wrapF_u16, hmod, bs36, at_slc, happ, op_add_i64]
            with_reducible rfl
          apply hK
          simp only [Sl_cons, Sl_nil, T.get_set, T.puts_cons, T.puts_nil, Nat.reduceEqDiff, Nat.reduceAdd, if_true, if_false, and_true, true_and, g0, g1]
      refine fin ?_
      intro t' hp'
      have hq := hRE.lt
      refine ⟨hlt, _, _, rfl, y', _, by rw [hsn]; exact hs3, by omega, ⟨by omega, fun z hz1 hz2 => by rw [hfr z (by omega) (by omega), hkE.2 z (by omega) hz2, hk.2 z hz1 hz2]⟩, hRE.keep (by omega) (fun z hz hzz => hfr z ?_ hz), hp'⟩
      rcases hzz with rfl | rfl <;> omega
    · have hin : i = n := by omega
      subst hin
      apply W.run 20
      · intro M
        simp (config := { maxSteps := 4000000 }) (disch := first | decide +kernel | omega) only [c48b1, c48, Try.f48, Option.getD_some, sub_seq1, sub_seq0, sub_block, sub_loop, sub_nil, exec_seq, exec_region, runOps_cons, opF_move, ev_tmp, g6, evG_some, putT_some, T.get_set, Nat.reduceEqDiff, g1, if_false, opF_ari, if_true, runOps_nil, R.ok_bind, binF_int, op_lssI, cast_lt, Nat.lt_irrefl, decide_false, exec_cond, exec_skip, exec_exit, exec_block, opF_assign, ev_int]
        with_reducible rfl
      show W tb1 _ _ _
      apply W.seq
      apply W.run 20
      · intro M
        simp (config := { maxSteps := 4000000 }) (disch := first | decide +kernel | omega) only [c48, Try.f48, Option.getD_some, sub_seq1, sub_seq0, sub_nil, exec_region, runOps_cons, opF_move, ev_tmp, T.get_set, Nat.reduceEqDiff, g5, if_false, evG_some, putT_some, opF_assign, if_true, runOps_nil, R.ok_bind]
        with_reducible rfl
      apply W.run 20
      · intro M
        simp (config := { maxSteps := 4000000 }) (disch := first | decide +kernel | omega) only [c48, Try.f48, Option.getD_some, sub_seq1, sub_nil, exec_ret]
        with_reducible rfl
      refine ⟨.inr rfl, D, [y], rfl, ?_, hR, hk, bb, hbb, hs⟩
      simp only [Try.f48, resF, ev_tmp, T.get_set, Nat.reduceEqDiff, if_true, if_false, evG_some, R.ok_bind]
  · simp only [Sl_cons, Sl_nil, T.get_set, T.puts_cons, T.puts_nil, Nat.reduceEqDiff, Nat.reduceAdd, if_true, if_false, and_true, true_and]
end Go.Proofs.Ytmhldlnlgjpkaaa.scr

/-
  Script: the document's words.
-/
namespace Go.Proofs.Ytmhldlnlgjpkaaa.scr
open Go.Am
variable {q : Nat}
set_option linter.unusedSimpArgs false
set_option linter.unusedVariables false
set_option linter.unusedVariables false
set_option maxRecDepth 20000

noncomputable def c47 : Code := Try.f47.body.getD .skip
noncomputable def c47b1 : Code := sub c47 [1,1,1,0,1,0,0,1,0,0]
noncomputable def c47b2 : Code := sub c47 [1,1,1,1,0,1,0,0]
theorem c47_eq : Try.f47.body = some (.seq (sub c47 [0]) (.seq (sub c47 [1,0]) (.seq (sub c47 [1,1,0]) (.seq (.seq (sub c47 [1,1,1,0,0]) (.cond (.tmp 11) (.seq (.seq (sub c47 [1,1,1,0,1,0,0,0]) (.block 0 (.loop c47b1))) (.seq (sub c47 [1,1,1,0,1,0,1,0]) (sub c47 [1,1,1,0,1,0,1,1]))) .skip)) (.seq (.seq (sub c47 [1,1,1,1,0,0]) (.block 2 (.loop c47b2))) (.seq (sub c47 [1,1,1,1,1,0]) (sub c47 [1,1,1,1,1,1]))))))) := by kernel_rfl
set_option maxHeartbeats 8000000 in
theorem run_rword {A : Mem} {ib : Nat} {b rem : List UInt8} {x : Value} (h : Ri q A ib b x rem) (hl : b.length ≤ 1000000) :
    ∃ A', Ans tb1 47 [.pointer (some ⟨ib, 0, none⟩)] A (strOf (wordD rem).1) A' ∧ Ri q A' ib b x (wordD rem).2 ∧ Kp ib A A' := by
  obtain ⟨v, A', ha, rfl, hr, hk⟩ : ∃ v A', Ans tb1 47 [.pointer (some ⟨ib, 0, none⟩)] A v A' ∧ v = strOf (wordD rem).1 ∧ Ri q A' ib b x (wordD rem).2 ∧ Kp ib A A' := by
    refine ans_of_W (fn_at Try.func47) c47_eq (by rw [Try.ntmps47]; simp) (by kernel_rfl) (by kernel_rfl) ?_
    obtain ⟨B, ⟨g, hg⟩, hRB, hkB⟩ := run_one h hl
    have hnx := nx_lt rem
    apply W.seq
    apply W.run 20
    · intro M
      simp (config := { maxSteps := 4000000 }) (disch := first | decide +kernel | omega) only [c47, Try.f47, Option.getD_some, sub_seq0, sub_nil, T.puts_cons, Nat.reduceAdd, T.puts_nil, exec_region, runOps_cons, opF_assign, ev_str, putT_some, runOps_nil, R.ok_bind]
      with_reducible rfl
    apply W.seq
    apply W.runG (g) 20
    · intro M hM
      simp (config := { maxSteps := 4000000 }) (disch := first | decide +kernel | omega) only [c47, Try.f47, Option.getD_some, sub_seq1, sub_seq0, sub_nil, exec_region, runOps_cons, opF_move, ev_tmp, T.get_set, Nat.reduceEqDiff, T.get_e, if_true, if_false, evG_some, putT_some, opF_call, evs, R.ok_bind, resK, opF_assign, runOps_nil, hg]
      with_reducible rfl
    apply W.seq
    apply W.run 20
    · intro M
      simp (config := { maxSteps := 4000000 }) (disch := first | decide +kernel | omega) only [c47, Try.f47, Option.getD_some, sub_seq1, sub_seq0, sub_nil, exec_region, runOps_cons, opF_assign, ev_str, putT_some, runOps_nil, R.ok_bind]
      with_reducible rfl
    apply W.seq
    apply W.seq
    by_cases h248 : 248 ≤ nx rem
    · have hw : wordD rem = (List.replicate (32 * (nx rem - 248 + 1)) 120, rem.tail) := by unfold wordD; rw [if_pos h248]
      have s1 : intOpF .sub .i64 ((nx rem : Nat) : Int) ((247 : Nat) : Int) = .ok (.int .i64 ((nx rem - 247 : Nat) : Int)) := op_sub_i64 (by omega) (by omega)
      have s2 : intOpF .mul .i64 ((32 : Nat) : Int) ((nx rem - 247 : Nat) : Int) = .ok (.int .i64 ((32 * (nx rem - 247) : Nat) : Int)) := op_mul_i64 (by omega)
      apply W.run 20
      · intro M
        simp (config := { maxSteps := 4000000 }) (disch := first | decide +kernel | omega) only [c47, Try.f47, Option.getD_some, sub_seq1, sub_seq0, sub_nil, exec_region, runOps_cons, opF_move, ev_tmp, T.get_set, Nat.reduceEqDiff, T.get_e, if_false, if_true, evG_some, putT_some, opF_ari, ev_int, runOps_nil, R.ok_bind, binF_int, op_geq, cast_le, h248, decide_true]
        with_reducible rfl
      show W tb1 _ _ _
      refine W.cond (p := true) (by simp only [ev_tmp, T.get_set, if_true, evG_some]) (fun _ => ?_) (fun h => by cases h)
      apply W.seq
      apply W.seq
      apply W.run 20
      · intro M
        simp (config := { maxSteps := 4000000 }) (disch := first | decide +kernel | omega) only [c47, Try.f47, Option.getD_some, sub_seq1, sub_seq0, sub_cond0, sub_nil, exec_region, runOps_cons, opF_assign, ev_int, putT_some, runOps_nil, R.ok_bind]
        with_reducible rfl
      apply W.block
      refine W.up (32 * (nx rem - 247)) (fun i t D => D = B ∧ Sl t [(3, .int .i64 ((nx rem : Nat) : Int)), (4, strOf (List.replicate i 120)), (5, .int .i64 (i : Int))]) ?_ (Nat.zero_le _) ⟨rfl, ?_⟩
      · rintro i t D hi ⟨rfl, g3, g4, g5, -⟩
        by_cases hlt : i < 32 * (nx rem - 247)
        · have had : List.replicate i (120 : UInt8) ++ [120] = List.replicate (i + 1) 120 := by rw [List.replicate_succ']
          have hsa : strOpF .add (List.replicate i 120) [120] = .ok (strOf (List.replicate i 120 ++ [120])) := str_add (by simp only [List.length_replicate, List.length_singleton]; omega)
          apply W.run 20
          · intro M
            simp (config := { maxSteps := 4000000 }) (disch := first | decide +kernel | omega) only [c47b1, c47, Try.f47, Option.getD_some, sub_seq1, sub_seq0, sub_cond0, sub_block, sub_loop, sub_nil, exec_seq, exec_region, runOps_cons, opF_move, ev_tmp, g5, evG_some, putT_some, T.get_set, Nat.reduceEqDiff, g3, if_false, opF_ari, if_true, ev_int, runOps_nil, R.ok_bind, binF_int, s1, s2, op_lssI, cast_lt, hlt, decide_true, exec_cond, exec_skip, exec_exit, exec_block, g4, ev_str, opF_assign, binF_str, hsa, op_add_i64]
            with_reducible rfl
          refine ⟨hlt, _, _, rfl, rfl, ?_⟩
          rw [← had]
          simp only [Sl_cons, Sl_nil, T.get_set, T.puts_cons, T.puts_nil, Nat.reduceEqDiff, Nat.reduceAdd, if_true, if_false, and_true, true_and, g3]
        · have hin : i = 32 * (nx rem - 247) := by omega
          subst hin
          apply W.run 20
          · intro M
            simp (config := { maxSteps := 4000000 }) (disch := first | decide +kernel | omega) only [c47b1, c47, Try.f47, Option.getD_some, sub_seq1, sub_seq0, sub_cond0, sub_block, sub_loop, sub_nil, exec_seq, exec_region, runOps_cons, opF_move, ev_tmp, g5, evG_some, putT_some, T.get_set, Nat.reduceEqDiff, g3, if_false, opF_ari, if_true, ev_int, runOps_nil, R.ok_bind, binF_int, s1, s2, op_lssI, cast_lt, Nat.lt_irrefl, decide_false, exec_cond, exec_skip, exec_exit, exec_block]
            with_reducible rfl
          show W tb1 _ _ _
          apply W.seq
          apply W.run 20
          · intro M
            simp (config := { maxSteps := 4000000 }) (disch := first | decide +kernel | omega) only [c47, Try.f47, Option.getD_some, sub_seq1, sub_seq0, sub_cond0, sub_nil, exec_region, runOps_cons, opF_move, ev_tmp, T.get_set, Nat.reduceEqDiff, g4, if_false, evG_some, putT_some, opF_assign, if_true, runOps_nil, R.ok_bind]
            with_reducible rfl
          apply W.run 20
          · intro M
            simp (config := { maxSteps := 4000000 }) (disch := first | decide +kernel | omega) only [c47, Try.f47, Option.getD_some, sub_seq1, sub_seq0, sub_cond0, sub_nil, exec_ret]
            with_reducible rfl
          refine ⟨.inr rfl, D, [strOf (List.replicate (32 * (nx rem - 247)) 120)], rfl, ?_, ?_, by rw [hw]; exact hRB, hkB⟩
          · simp only [Try.f47, resF, ev_tmp, T.get_set, Nat.reduceEqDiff, if_true, if_false, evG_some, R.ok_bind]
          · rw [hw, show nx rem - 248 + 1 = nx rem - 247 by omega]; rfl
      · simp only [Sl_cons, Sl_nil, T.get_set, T.puts_cons, T.puts_nil, Nat.reduceEqDiff, Nat.reduceAdd, if_true, if_false, and_true, true_and]
        rfl
    · have hw : wordD rem = (lettersD rem.tail (nx rem % 8), rem.tail.drop (nx rem % 8)) := by unfold wordD; rw [if_neg h248]
      apply W.run 20
      · intro M
        simp (config := { maxSteps := 4000000 }) (disch := first | decide +kernel | omega) only [c47, Try.f47, Option.getD_some, sub_seq1, sub_seq0, sub_nil, exec_region, runOps_cons, opF_move, ev_tmp, T.get_set, Nat.reduceEqDiff, T.get_e, if_false, if_true, evG_some, putT_some, opF_ari, ev_int, runOps_nil, R.ok_bind, binF_int, op_geq, cast_le, h248, decide_false]
        with_reducible rfl
      show W tb1 _ _ _
      refine W.cond (p := false) (by simp only [ev_tmp, T.get_set, if_true, evG_some]) (fun h => by cases h) (fun _ => ?_)
      apply W.run 20
      · intro M
        simp (config := { maxSteps := 4000000 }) (disch := first | decide +kernel | omega) only [exec_skip]
        with_reducible rfl
      show W tb1 _ _ _
      apply W.seq
      apply W.seq
      apply W.run 20
      · intro M
        simp (config := { maxSteps := 4000000 }) (disch := first | decide +kernel | omega) only [c47, Try.f47, Option.getD_some, sub_seq1, sub_seq0, sub_nil, exec_region, runOps_cons, opF_assign, ev_int, putT_some, runOps_nil, R.ok_bind]
        with_reducible rfl
      apply W.block
      refine W.up (nx rem % 8) (fun i t D => Ri q D ib b x (rem.tail.drop i) ∧ Kp ib A D ∧ Sl t [(0, .pointer (some ⟨ib, 0, none⟩)), (3, .int .i64 ((nx rem : Nat) : Int)), (4, strOf (lettersD rem.tail i)), (6, .int .i64 (i : Int))]) ?_ (Nat.zero_le _) ⟨by simpa using hRB, hkB, ?_⟩
      · rintro i t D hi ⟨hR, hkD, g0, g3, g4, g6, -⟩
        by_cases hlt : i < nx rem % 8
        · obtain ⟨E, ⟨g2, hg2⟩, hRE, hkE⟩ := run_one hR hl
          rw [drop_tail] at hRE
          have hnx2 := nx_lt (rem.tail.drop i)
          obtain ⟨c, hc⟩ : ∃ c, letV (rem.tail.drop i) = c := ⟨_, rfl⟩
          have hcn := letV_nat (rem.tail.drop i)
          rw [hc] at hcn
          have hsa : strOpF .add (lettersD rem.tail i) [c] = .ok (strOf (lettersD rem.tail i ++ [c])) := str_add (by simp only [lettersD_len, List.length_singleton]; omega)
          have hsn : lettersD rem.tail (i + 1) = lettersD rem.tail i ++ [c] := by rw [lettersD_succ, hc]
          have hE2 : Kp ib E (E.alloc (rowOb 5 [.int .u8 ((c.toNat : Nat) : Int)])) := Kp.alloc ib E _
          have hS : Slc (E.alloc (rowOb 5 [.int .u8 ((c.toNat : Nat) : Int)])) 5 E.next (byts [c]) (.slice (some ⟨E.next, 0, none⟩) 1 2) := .inr ⟨.var 1, 2, rfl, by rw [next_alloc]; omega, Go.Am.vals_new E 5 _, .inl rfl⟩
          have hst := slc_str (tb := tb1) (s := 22) (d := 9) und22 und9 und5 hS
          have hRF := hRE.alloc (rowOb 5 [.int .u8 ((c.toNat : Nat) : Int)])
          have fin : ∀ {K : Ex → St → Prop}, (∀ t', Sl t' [(0, .pointer (some ⟨ib, 0, none⟩)), (3, .int .i64 ((nx rem : Nat) : Int)), (4, strOf (lettersD rem.tail (i + 1))), (6, .int .i64 ((i + 1 : Nat) : Int))] → K .nrm ⟨t', 42, [], E.alloc (rowOb 5 [.int .u8 ((c.toNat : Nat) : Int)]), none⟩) → W tb1 c47b2 ⟨t, 42, [], D, none⟩ K := by
            intro K hK
            rw [hsn] at hK
            by_cases h128 : nx (rem.tail.drop i) < 128
            · rw [if_pos h128] at hcn
              have hmod : (97 + nx (rem.tail.drop i) % 4) % 256 = c.toNat := by omega
              apply W.runG (g2) 20
              · intro M hM
                simp (config := { maxSteps := 4000000 }) (disch := first | decide +kernel | omega) only [c47b2, c47, Try.f47, Option.getD_some, sub_seq1, sub_seq0, sub_block, sub_loop, sub_nil, exec_seq, exec_region, runOps_cons, opF_move, ev_tmp, g6, evG_some, putT_some, T.get_set, Nat.reduceEqDiff, g3, if_false, opF_ari, if_true, ev_int, und3, runOps_nil, R.ok_bind, binF_int, op_rem, op_lssI, cast_lt, hlt, decide_true, exec_cond, exec_skip, exec_exit, exec_block, g0, opF_call, evs, resK, opF_assign, hg2, h128, op_add_i64, g4, opF_conv, convPF, und5, opF_buildSlice, evp, opF_convStr _ _ _ _ _ _ _ _ _ _ und22 und9, wrapF_u8, hmod, bs22, at_slc, hst, binF_str, hsa]
                with_reducible rfl
              apply hK
              simp only [Sl_cons, Sl_nil, T.get_set, T.puts_cons, T.puts_nil, Nat.reduceEqDiff, Nat.reduceAdd, if_true, if_false, and_true, true_and, g0, g3]
            · rw [if_neg h128] at hcn
              have hmod : nx (rem.tail.drop i) % 256 = c.toNat := by omega
              apply W.runG (g2) 20
              · intro M hM
                simp (config := { maxSteps := 4000000 }) (disch := first | decide +kernel | omega) only [c47b2, c47, Try.f47, Option.getD_some, sub_seq1, sub_seq0, sub_block, sub_loop, sub_nil, exec_seq, exec_region, runOps_cons, opF_move, ev_tmp, g6, evG_some, putT_some, T.get_set, Nat.reduceEqDiff, g3, if_false, opF_ari, if_true, ev_int, und3, runOps_nil, R.ok_bind, binF_int, op_rem, op_lssI, cast_lt, hlt, decide_true, exec_cond, exec_skip, exec_exit, exec_block, g0, opF_call, evs, resK, opF_assign, hg2, h128, decide_false, op_add_i64, g4, opF_conv, convPF, und5, opF_buildSlice, evp, opF_convStr _ _ _ _ _ _ _ _ _ _ und22 und9, wrapF_u8, hmod, bs22, at_slc, hst, binF_str, hsa]
                with_reducible rfl
              apply hK
              simp only [Sl_cons, Sl_nil, T.get_set, T.puts_cons, T.puts_nil, Nat.reduceEqDiff, Nat.reduceAdd, if_true, if_false, and_true, true_and, g0, g3]
          refine fin ?_
          intro t' hp'
          exact ⟨hlt, _, _, rfl, hRF, (hkD.trans hkE).trans hE2, hp'⟩
        · have hin : i = nx rem % 8 := by omega
          subst hin
          apply W.run 20
          · intro M
            simp (config := { maxSteps := 4000000 }) (disch := first | decide +kernel | omega) only [c47b2, c47, Try.f47, Option.getD_some, sub_seq1, sub_seq0, sub_block, sub_loop, sub_nil, exec_seq, exec_region, runOps_cons, opF_move, ev_tmp, g6, evG_some, putT_some, T.get_set, Nat.reduceEqDiff, g3, if_false, opF_ari, if_true, ev_int, runOps_nil, R.ok_bind, binF_int, op_rem, op_lssI, cast_lt, Nat.lt_irrefl, decide_false, exec_cond, exec_skip, exec_exit, exec_block]
            with_reducible rfl
          show W tb1 _ _ _
          apply W.seq
          apply W.run 20
          · intro M
            simp (config := { maxSteps := 4000000 }) (disch := first | decide +kernel | omega) only [c47, Try.f47, Option.getD_some, sub_seq1, sub_seq0, sub_nil, exec_region, runOps_cons, opF_move, ev_tmp, T.get_set, Nat.reduceEqDiff, g4, if_false, evG_some, putT_some, opF_assign, if_true, runOps_nil, R.ok_bind]
            with_reducible rfl
          apply W.run 20
          · intro M
            simp (config := { maxSteps := 4000000 }) (disch := first | decide +kernel | omega) only [c47, Try.f47, Option.getD_some, sub_seq1, sub_nil, exec_ret]
            with_reducible rfl
          refine ⟨.inr rfl, D, [strOf (lettersD rem.tail (nx rem % 8))], rfl, ?_, by rw [hw]; rfl, by rw [hw]; exact hR, hkD⟩
          simp only [Try.f47, resF, ev_tmp, T.get_set, Nat.reduceEqDiff, if_true, if_false, evG_some, R.ok_bind]
      · simp only [Sl_cons, Sl_nil, T.get_set, T.puts_cons, T.puts_nil, Nat.reduceEqDiff, Nat.reduceAdd, if_true, if_false, and_true, true_and]
        rfl
  exact ⟨A', ha, hr, hk⟩
end Go.Proofs.Ytmhldlnlgjpkaaa.scr

/-
  Script: rows that grow, of any kind; the document's values.
-/
namespace Go.Proofs.Ytmhldlnlgjpkaaa.scr
open Go.Am
set_option linter.unusedSimpArgs false
set_option linter.unusedVariables false
set_option linter.unusedVariables false

section
variable {D : Type} {R : (Nat → Prop) → Mem → D → List Value → Prop}
/-- A row of values at 'b', each of which keeps to blocks that are not the row's. -/
def Lst (R : (Nat → Prop) → Mem → D → List Value → Prop) (e : TypeId) (n b : Nat) (P : Nat → Prop) (A : Mem) (ds : List D) (x : Value) : Prop :=
  ∃ ls, SlcM A e n b ls x ∧ ls.length = ds.length ∧ ∀ (i : Nat) (d : D) (l : List Value), ds[i]? = some d → ls[i]? = some l → R (fun c => P c ∧ (x = .slice none 0 0 ∨ c ≠ b)) A d l
def Mono (R : (Nat → Prop) → Mem → D → List Value → Prop) : Prop :=
  ∀ (P Q : Nat → Prop) (A A' : Mem) (d : D) (l : List Value), R P A d l → A.next ≤ A'.next → (∀ c, P c → c < A.next → Q c ∧ A'.get c = A.get c) → R Q A' d l
variable {e n b : Nat} {P Q : Nat → Prop} {A A' : Mem} {ds : List D} {x : Value}
theorem Lst.nil : Lst R e n b P A [] (.slice none 0 0) := ⟨[], SlcM.nil _ _ _ _, rfl, fun i d l hd _ => by simp at hd⟩
theorem Lst.same (hR : Mono R) (h : Lst R e n b P A ds x) (hn : A.next ≤ A'.next) (hb : x = .slice none 0 0 ∨ (b < A.next → A'.get b = A.get b)) (hP : ∀ c, P c → c < A.next → (x = .slice none 0 0 ∨ c ≠ b) → Q c ∧ A'.get c = A.get c) : Lst R e n b Q A' ds x := by
  obtain ⟨ls, h1, h2, h3⟩ := h
  refine ⟨ls, ?_, h2, fun i d l hd hl => hR _ _ _ _ _ _ (h3 i d l hd hl) hn fun c hc hcl => ?_⟩
  · rcases hb with rfl | hb
    · rcases h1 with h1 | ⟨k, c, h1, _⟩
      · exact .inl h1
      · cases h1
    · exact h1.same hn hb
  · obtain ⟨q1, q2⟩ := hP c hc.1 hcl hc.2
    exact ⟨⟨q1, hc.2⟩, q2⟩
theorem Lst.lt (h : Lst R e n b P A ds x) : x = .slice none 0 0 ∨ b < A.next := by
  obtain ⟨ls, h1, -⟩ := h
  exact SlcM.lt h1
theorem Lst.cells (h : Lst R e n b P A ds x) : x.cells.toList = [x] ∧ oneCell x = true := by
  obtain ⟨ls, h1, -⟩ := h
  exact ⟨(SlcM.cells h1).1, (SlcM.cells h1).2.1⟩
theorem Lst.self (h : Lst R e n b P A ds x) (d : Nat) : sameV (d + 1) x x = true := by
  obtain ⟨ls, h1, -⟩ := h
  exact SlcM.self h1 d
theorem Lst.len (h : Lst R e n b P A ds x) {t t' : TypeId} (hu : tb1.und t = some (.slice t')) : builtinPF tb1 .len [t] [x] = .ok (.int .i64 ((ds.length : Nat) : Int)) := by
  obtain ⟨ls, h1, h2, -⟩ := h
  rw [← h2]; exact h1.len hu
theorem Lst.at (h : Lst R e n b P A ds x) {t : TypeId} {td : TypeDesc} (hu : tb1.und t = some (.slice e)) (hs : sizeF tb1 e = .ok n) (he : tb1.und e = some td) (ha : isAggD td = true) {i : Nat} (hi : i < ds.length) :
    ∃ o l, indexAddrF tb1 t x (.int .i64 (i : Int)) = .ok (.pointer (some ⟨b, o, none⟩)) ∧ loadF tb1 A.get e (.pointer (some ⟨b, o, none⟩)) = .ok (.agg ⟨l⟩) ∧ R (fun c => P c ∧ (x = .slice none 0 0 ∨ c ≠ b)) A ds[i] l ∧
      ∀ (j : Nat) (t : TypeId) (d : TypeDesc) (v : Value), tb1.und t = some d → isAggD d = false → j < n → l[j]? = some v → loadF tb1 A.get t (.pointer (some ⟨b, o + j, none⟩)) = .ok v := by
  obtain ⟨ls, h1, h2, h3⟩ := h
  have hli : i < ls.length := by omega
  exact ⟨i * n, ls[i], h1.idx hu hs hli, h1.load_all he ha hs (List.getElem?_eq_getElem hli), h3 i ds[i] ls[i] (List.getElem?_eq_getElem hi) (List.getElem?_eq_getElem hli), fun j t d v h4 h5 h6 h7 => h1.load h4 h5 (List.getElem?_eq_getElem hli) h7 h6⟩
theorem Lst.push (hR : Mono R) (hc : ∀ P A d l, R P A d l → l.length = n ∧ ∀ v ∈ l, oneCell v = true) {st : TypeId} (hst : tb1.und st = some (.slice e)) (hz : ∃ z, zcellsF tb1 e = .ok (n, z)) (hi : ∃ i, tb1.ty.get e = some i ∧ 0 < i.bytes ∧ i.bytes ≤ 65536) (hn0 : 0 < n) (hn1 : n < 65536)
    (h : Lst R e n b P A ds x) (hl : ds.length < 16777216) {d : D} {l : List Value} (hd : R (fun c => P c ∧ (x = .slice none 0 0 ∨ c ≠ b)) A d l) :
    ∃ x' A', appendF tb1 (A.alloc (rowOb e l)) st st x (.slice (some ⟨A.next, 0, none⟩) 1 2) = .ok (x', A') ∧ Lst R e n (A.next + 1) P A' (ds ++ [d]) x' ∧ A'.next = A.next + 2 ∧ ∀ y, (y = b → x = .slice none 0 0) → y < A.next → A'.get y = A.get y := by
  have hlt := h.lt
  obtain ⟨ls, h1, h2, h3⟩ := h
  obtain ⟨z, hz⟩ := hz
  obtain ⟨ti, t1, t2, t3⟩ := hi
  obtain ⟨c1, c2⟩ := hc _ _ _ _ hd
  have hn2 : (A.alloc (rowOb e l)).next = A.next + 1 := next_alloc _ _
  have h1' : SlcM (A.alloc (rowOb e l)) e n b ls x := h1.same (by omega) (fun hl => get_alloc_ne (by omega))
  obtain ⟨x', A', happ, hs3, hn3, hf3⟩ := h1'.append (tb := tb1) (st := st) (xt := st) hst hst hz t1 t2 t3 hn0 hn1 (by omega) (get_alloc_self A _) c1 c2
  have hfr : ∀ y, (y = b → x = .slice none 0 0) → y < A.next → A'.get y = A.get y := fun y h1 h2 => by rw [hf3 y h1 (by omega), get_alloc_ne (by omega)]
  have step : ∀ d l, R (fun c => P c ∧ (x = .slice none 0 0 ∨ c ≠ b)) A d l → R (fun c => P c ∧ (x' = .slice none 0 0 ∨ c ≠ A.next + 1)) A' d l := fun d l hd => hR _ _ _ _ _ _ hd (by omega) fun c hc hcl =>
    ⟨⟨hc.1, .inr (by omega)⟩, hfr c (fun e => hc.2.resolve_right (fun hne => hne e)) hcl⟩
  rw [hn2] at hs3
  refine ⟨x', A', happ, ⟨ls ++ [l], hs3, by simp [h2], fun i d' l' hd' hl' => ?_⟩, by omega, hfr⟩
  by_cases hj : i < ds.length
  · rw [List.getElem?_append_left (by omega)] at hd' hl'
    exact step _ _ (h3 i d' l' hd' hl')
  · have hji : i = ds.length := by
      have := (List.getElem?_eq_some_iff.1 hd').1
      rw [List.length_append] at this
      simp at this; omega
    subst hji
    rw [List.getElem?_append_right (by omega), Nat.sub_self] at hd'
    rw [List.getElem?_append_right (by omega), h2, Nat.sub_self] at hl'
    simp only [List.getElem?_cons_zero, Option.some.injEq] at hd' hl'
    subst hd' hl'
    exact step _ _ hd
end

/-! ### The document's openings, acts, settings -/
def OpP (P : Nat → Prop) (A : Mem) (d : Int × List Nat) (l : List Value) : Prop := ∃ xs, l = [.int .i64 d.1, xs] ∧ StR P A d.2 xs ∧ d.2.length ≤ 1000
theorem OpP.mono : Mono OpP := fun P Q A A' d l h hn hg => by
  obtain ⟨xs, h1, h2, h3⟩ := h
  exact ⟨xs, h1, h2.same hn hg, h3⟩
theorem OpP.cells (P : Nat → Prop) (A : Mem) (d : Int × List Nat) (l : List Value) (h : OpP P A d l) : l.length = 2 ∧ ∀ v ∈ l, oneCell v = true := by
  obtain ⟨xs, rfl, h2, -⟩ := h
  refine ⟨rfl, fun v hv => ?_⟩
  simp only [List.mem_cons, List.not_mem_nil, or_false] at hv
  rcases hv with rfl | rfl
  · rfl
  · exact h2.cells.2
def OpsP (P : Nat → Prop) (A : Mem) (ds : List (Int × List Nat)) (x : Value) : Prop := ∃ b, (x = .slice none 0 0 ∨ P b) ∧ ds.length ≤ 1000 ∧ Lst OpP 92 2 b P A ds x
theorem OpsP.same {P Q : Nat → Prop} {A A' : Mem} {ds : List (Int × List Nat)} {x : Value} (h : OpsP P A ds x) (hn : A.next ≤ A'.next) (hg : ∀ c, P c → c < A.next → Q c ∧ A'.get c = A.get c) : OpsP Q A' ds x := by
  obtain ⟨b, h1, h2, h3⟩ := h
  rcases h1 with rfl | h1
  · exact ⟨b, .inl rfl, h2, h3.same OpP.mono hn (.inl rfl) (fun c hc hcl _ => hg c hc hcl)⟩
  · rcases h3.lt with rfl | hb
    · exact ⟨b, .inl rfl, h2, h3.same OpP.mono hn (.inl rfl) (fun c hc hcl _ => hg c hc hcl)⟩
    · exact ⟨b, .inr (hg b h1 hb).1, h2, h3.same OpP.mono hn (.inr (fun hb => (hg b h1 hb).2)) (fun c hc hcl _ => hg c hc hcl)⟩
theorem OpsP.nil (P : Nat → Prop) (A : Mem) : OpsP P A [] (.slice none 0 0) := ⟨0, .inl rfl, by simp, Lst.nil⟩
theorem OpsP.cells {P : Nat → Prop} {A : Mem} {ds : List (Int × List Nat)} {x : Value} (h : OpsP P A ds x) : x.cells.toList = [x] ∧ oneCell x = true := by
  obtain ⟨b, -, -, h⟩ := h
  exact h.cells
theorem und79 : tb1.und 79 = some (.slice 92) := by kernel_rfl
theorem und46 : tb1.und 46 = some (.slice 81) := by kernel_rfl
theorem und92 : ∃ d, tb1.und 92 = some d ∧ isAggD d = true := by
  have h : (tb1.und 92).map isAggD = some true := by kernel_rfl
  cases hq : tb1.und 92 with
  | none => rw [hq] at h; cases h
  | some d => rw [hq] at h; exact ⟨d, rfl, by simpa using h⟩
theorem und81 : ∃ d, tb1.und 81 = some d ∧ isAggD d = true := by
  have h : (tb1.und 81).map isAggD = some true := by kernel_rfl
  cases hq : tb1.und 81 with
  | none => rw [hq] at h; cases h
  | some d => rw [hq] at h; exact ⟨d, rfl, by simpa using h⟩
theorem und48 : ∃ d, tb1.und 48 = some d ∧ isAggD d = true := by
  have h : (tb1.und 48).map isAggD = some true := by kernel_rfl
  cases hq : tb1.und 48 with
  | none => rw [hq] at h; cases h
  | some d => rw [hq] at h; exact ⟨d, rfl, by simpa using h⟩
theorem size92 : sizeF tb1 92 = .ok 2 := by kernel_rfl
theorem size81 : sizeF tb1 81 = .ok 9 := by kernel_rfl
theorem size48 : sizeF tb1 48 = .ok 4 := by kernel_rfl
theorem size79 : sizeF tb1 79 = .ok 1 := by kernel_rfl
theorem size46 : sizeF tb1 46 = .ok 1 := by kernel_rfl
theorem zero92 : zeroF tb1 92 = .ok (.agg ⟨[.int .i64 0, .slice none 0 0]⟩) := by kernel_rfl
theorem zero81 : zeroF tb1 81 = .ok (.agg ⟨[.int .i64 0, .string ⟨#[]⟩, .int .u32 0, .int .i64 0, .int .i64 0, .int .i64 0, .bool false, .slice none 0 0, .slice none 0 0]⟩) := by kernel_rfl
theorem zero48 : zeroF tb1 48 = .ok (.agg ⟨[.int .i64 0, .int .i64 0, .int .i64 0, .slice none 0 0]⟩) := by kernel_rfl
theorem bf92 (a : Int) : buildF tb1 92 [(0, .int .i64 a)] = .ok (.agg ⟨[.int .i64 a, .slice none 0 0]⟩) := by kernel_rfl
theorem bf81 (c : Bool) : buildF tb1 81 [(2, .bool c)] = .ok (.agg ⟨[.int .i64 0, .string ⟨#[]⟩, .int .u32 0, .int .i64 0, .int .i64 0, .int .i64 0, .bool c, .slice none 0 0, .slice none 0 0]⟩) := by kernel_rfl
theorem bs79 (a xs : Value) : buildSliceF tb1 79 1 [(0, .agg ⟨[a, xs]⟩)] = .ok (rowOb 92 [a, xs], .slc 1 2) := by kernel_rfl
theorem bs46 (a0 a1 a2 a3 a4 a5 a6 a7 a8 : Value) : buildSliceF tb1 46 1 [(0, .agg ⟨[a0, a1, a2, a3, a4, a5, a6, a7, a8]⟩)] = .ok (rowOb 81 [a0, a1, a2, a3, a4, a5, a6, a7, a8], .slc 1 2) := by kernel_rfl
theorem zc92 : ∃ z, zcellsF tb1 92 = .ok (2, z) := ⟨_, by unfold zcellsF; rw [zero92, R.ok_bind, size92]; rfl⟩
theorem zc81 : ∃ z, zcellsF tb1 81 = .ok (9, z) := ⟨_, by unfold zcellsF; rw [zero81, R.ok_bind, size81]; rfl⟩
theorem ty92 : ∃ i, tb1.ty.get 92 = some i ∧ 0 < i.bytes ∧ i.bytes ≤ 65536 := by
  have h : ((tb1.ty.get 92).map fun i => decide (0 < i.bytes) && decide (i.bytes ≤ 65536)) = some true := by kernel_rfl
  cases hq : tb1.ty.get 92 with
  | none => rw [hq] at h; cases h
  | some i =>
    rw [hq] at h
    simp only [Option.map_some, Option.some.injEq, Bool.and_eq_true, decide_eq_true_eq] at h
    exact ⟨i, rfl, h⟩
theorem ty81 : ∃ i, tb1.ty.get 81 = some i ∧ 0 < i.bytes ∧ i.bytes ≤ 65536 := by
  have h : ((tb1.ty.get 81).map fun i => decide (0 < i.bytes) && decide (i.bytes ≤ 65536)) = some true := by kernel_rfl
  cases hq : tb1.ty.get 81 with
  | none => rw [hq] at h; cases h
  | some i =>
    rw [hq] at h
    simp only [Option.map_some, Option.some.injEq, Bool.and_eq_true, decide_eq_true_eq] at h
    exact ⟨i, rfl, h⟩
section
variable (b o : Nat)
theorem fa81_0 : fieldAddrF tb1 81 (.pointer (some ⟨b, 0, none⟩)) 0 = .ok (.pointer (some ⟨b, 0, none⟩)) := by kernel_rfl
theorem fa81_1 : fieldAddrF tb1 81 (.pointer (some ⟨b, 0, none⟩)) 1 = .ok (.pointer (some ⟨b, 5, none⟩)) := by kernel_rfl
theorem fa81_2 : fieldAddrF tb1 81 (.pointer (some ⟨b, 0, none⟩)) 2 = .ok (.pointer (some ⟨b, 6, none⟩)) := by kernel_rfl
theorem fa81_3 : fieldAddrF tb1 81 (.pointer (some ⟨b, 0, none⟩)) 3 = .ok (.pointer (some ⟨b, 7, none⟩)) := by kernel_rfl
theorem fa81_4 : fieldAddrF tb1 81 (.pointer (some ⟨b, 0, none⟩)) 4 = .ok (.pointer (some ⟨b, 8, none⟩)) := by kernel_rfl
theorem fa92_0 : fieldAddrF tb1 92 (.pointer (some ⟨b, o, none⟩)) 0 = .ok (.pointer (some ⟨b, o, none⟩)) := by kernel_rfl
theorem fa92_1 : fieldAddrF tb1 92 (.pointer (some ⟨b, o, none⟩)) 1 = .ok (.pointer (some ⟨b, o + 1, none⟩)) := by kernel_rfl
theorem fa92_1z : fieldAddrF tb1 92 (.pointer (some ⟨b, 0, none⟩)) 1 = .ok (.pointer (some ⟨b, 1, none⟩)) := by kernel_rfl
theorem fa48_0 : fieldAddrF tb1 48 (.pointer (some ⟨b, 0, none⟩)) 0 = .ok (.pointer (some ⟨b, 0, none⟩)) := by kernel_rfl
theorem fa48_1 : fieldAddrF tb1 48 (.pointer (some ⟨b, 0, none⟩)) 1 = .ok (.pointer (some ⟨b, 2, none⟩)) := by kernel_rfl
theorem fa48_2 : fieldAddrF tb1 48 (.pointer (some ⟨b, 0, none⟩)) 2 = .ok (.pointer (some ⟨b, 3, none⟩)) := by kernel_rfl
end
theorem OpsP.len {P : Nat → Prop} {A : Mem} {ds : List (Int × List Nat)} {x : Value} (h : OpsP P A ds x) : builtinPF tb1 .len [79] [x] = .ok (.int .i64 ((ds.length : Nat) : Int)) := by
  obtain ⟨b, -, -, h⟩ := h
  exact h.len und79
theorem OpsP.at {P : Nat → Prop} {A : Mem} {ds : List (Int × List Nat)} {x : Value} (h : OpsP P A ds x) {i : Nat} (hi : i < ds.length) :
    ∃ b o xs, indexAddrF tb1 79 x (.int .i64 (i : Int)) = .ok (.pointer (some ⟨b, o, none⟩)) ∧ loadF tb1 A.get 92 (.pointer (some ⟨b, o, none⟩)) = .ok (.agg ⟨[.int .i64 ds[i].1, xs]⟩) ∧ loadF tb1 A.get 3 (.pointer (some ⟨b, o, none⟩)) = .ok (.int .i64 ds[i].1) ∧ loadF tb1 A.get 36 (.pointer (some ⟨b, o + 1, none⟩)) = .ok xs ∧ StR P A ds[i].2 xs ∧ ds[i].2.length ≤ 1000 := by
  obtain ⟨b, -, -, h⟩ := h
  obtain ⟨d92, hd1, hd2⟩ := und92
  obtain ⟨o, l, h1, h2, ⟨xs, rfl, h3, h5⟩, h4⟩ := h.at und79 size92 hd1 hd2 hi
  exact ⟨b, o, xs, h1, h2, h4 0 3 _ _ und3 rfl (by omega) rfl, h4 1 36 _ _ und36 rfl (by omega) rfl, h3.same (Nat.le_refl _) (fun c hc _ => ⟨hc.1, rfl⟩), h5⟩
def ActP (P : Nat → Prop) (A : Mem) (d : ActG) (l : List Value) : Prop := ∃ xs xo, l = cellsG d xs xo ∧ StR P A d.stays xs ∧ d.stays.length ≤ 1000 ∧ OpsP P A d.opening xo
theorem ActP.mono : Mono ActP := fun P Q A A' d l h hn hg => by
  obtain ⟨xs, xo, h1, h2, h3, h4⟩ := h
  exact ⟨xs, xo, h1, h2.same hn hg, h3, h4.same hn hg⟩
theorem ActP.cells (P : Nat → Prop) (A : Mem) (d : ActG) (l : List Value) (h : ActP P A d l) : l.length = 9 ∧ ∀ v ∈ l, oneCell v = true := by
  obtain ⟨xs, xo, rfl, h2, -, h3⟩ := h
  refine ⟨rfl, fun v hv => ?_⟩
  simp only [cellsG, List.mem_cons, List.not_mem_nil, or_false] at hv
  rcases hv with rfl | rfl | rfl | rfl | rfl | rfl | rfl | rfl | rfl <;> first | rfl | exact h2.cells.2 | exact h3.cells.2
def ActsP (P : Nat → Prop) (A : Mem) (ds : List ActG) (x : Value) : Prop := ∃ b, (x = .slice none 0 0 ∨ P b) ∧ ds.length ≤ 1000 ∧ Lst ActP 81 9 b P A ds x
theorem ActsP.same {P Q : Nat → Prop} {A A' : Mem} {ds : List ActG} {x : Value} (h : ActsP P A ds x) (hn : A.next ≤ A'.next) (hg : ∀ c, P c → c < A.next → Q c ∧ A'.get c = A.get c) : ActsP Q A' ds x := by
  obtain ⟨b, h1, h2, h3⟩ := h
  rcases h1 with rfl | h1
  · exact ⟨b, .inl rfl, h2, h3.same ActP.mono hn (.inl rfl) (fun c hc hcl _ => hg c hc hcl)⟩
  · rcases h3.lt with rfl | hb
    · exact ⟨b, .inl rfl, h2, h3.same ActP.mono hn (.inl rfl) (fun c hc hcl _ => hg c hc hcl)⟩
    · exact ⟨b, .inr (hg b h1 hb).1, h2, h3.same ActP.mono hn (.inr (fun hb => (hg b h1 hb).2)) (fun c hc hcl _ => hg c hc hcl)⟩
theorem ActsP.nil (P : Nat → Prop) (A : Mem) : ActsP P A [] (.slice none 0 0) := ⟨0, .inl rfl, by simp, Lst.nil⟩
theorem ActsP.cells {P : Nat → Prop} {A : Mem} {ds : List ActG} {x : Value} (h : ActsP P A ds x) : x.cells.toList = [x] ∧ oneCell x = true := by
  obtain ⟨b, -, -, h⟩ := h
  exact h.cells
theorem ActsP.self {P : Nat → Prop} {A : Mem} {ds : List ActG} {x : Value} (h : ActsP P A ds x) (d : Nat) : sameV (d + 1) x x = true := by
  obtain ⟨b, -, -, h⟩ := h
  exact h.self d
theorem ActsP.len {P : Nat → Prop} {A : Mem} {ds : List ActG} {x : Value} (h : ActsP P A ds x) : builtinPF tb1 .len [46] [x] = .ok (.int .i64 ((ds.length : Nat) : Int)) := by
  obtain ⟨b, -, -, h⟩ := h
  exact h.len und46
theorem ActsP.at {P : Nat → Prop} {A : Mem} {ds : List ActG} {x : Value} (h : ActsP P A ds x) {i : Nat} (hi : i < ds.length) :
    ∃ b o l, indexAddrF tb1 46 x (.int .i64 (i : Int)) = .ok (.pointer (some ⟨b, o, none⟩)) ∧ loadF tb1 A.get 81 (.pointer (some ⟨b, o, none⟩)) = .ok (.agg ⟨l⟩) ∧ ActP P A ds[i] l := by
  obtain ⟨b, -, -, h⟩ := h
  obtain ⟨d81, hd1, hd2⟩ := und81
  obtain ⟨o, l, h1, h2, h3, h4⟩ := h.at und46 size81 hd1 hd2 hi
  exact ⟨b, o, l, h1, h2, ActP.mono _ _ _ _ _ _ h3 (Nat.le_refl _) (fun c hc _ => ⟨hc.1, rfl⟩)⟩
def SetP (P : Nat → Prop) (A : Mem) (s : SetG) (l : List Value) : Prop := ∃ xa, l = cellsS s xa ∧ ActsP P A s.acts xa
theorem SetP.same {P Q : Nat → Prop} {A A' : Mem} {s : SetG} {l : List Value} (h : SetP P A s l) (hn : A.next ≤ A'.next) (hg : ∀ c, P c → c < A.next → Q c ∧ A'.get c = A.get c) : SetP Q A' s l := by
  obtain ⟨xa, h1, h2⟩ := h
  exact ⟨xa, h1, h2.same hn hg⟩
theorem SetP.ext {P : Nat → Prop} {A A' : Mem} {s : SetG} {l : List Value} (h : SetP P A s l) (e : Ext A A') : SetP P A' s l := h.same e.n (fun c hc hl => ⟨hc, e.g c hl⟩)
theorem SetP.cells {P : Nat → Prop} {A : Mem} {s : SetG} {l : List Value} (h : SetP P A s l) : l.length = 4 ∧ ∀ v ∈ l, oneCell v = true := by
  obtain ⟨xa, rfl, h2⟩ := h
  refine ⟨rfl, fun v hv => ?_⟩
  simp only [cellsS, List.mem_cons, List.not_mem_nil, or_false] at hv
  rcases hv with rfl | rfl | rfl | rfl <;> first | rfl | exact h2.cells.2
end Go.Proofs.Ytmhldlnlgjpkaaa.scr

/-
  Script: the document's act: its arm, its weight, what it asks.
-/
namespace Go.Proofs.Ytmhldlnlgjpkaaa.scr
open Go.Am
variable {q : Nat}
set_option linter.unusedSimpArgs false
set_option linter.unusedVariables false
set_option linter.unusedVariables false
set_option maxRecDepth 20000

def zero9 : List Value := [.int .i64 0, .string ⟨#[]⟩, .int .u32 0, .int .i64 0, .int .i64 0, .int .i64 0, .bool false, .slice none 0 0, .slice none 0 0]
/-- Memory while an act is read. -/
structure RA (q : Nat) (A : Mem) (ib : Nat) (b : List UInt8) (x : Value) (b4 : Nat) (l : List Value) (rem : List UInt8) (C : Mem) : Prop where
  h1 : Vals C 81 A.next (.var 9) zero9
  h2 : Vals C 81 b4 (.var 9) l
  hr : Ri q C ib b x rem
  hk : Kp ib A C
  hb4 : A.next < b4 ∧ b4 < C.next
  hib : ib < A.next ∧ q < A.next
theorem RA.step {A : Mem} {ib b4 : Nat} {b : List UInt8} {x : Value} {l : List Value} {rem rem' : List UInt8} {C C' : Mem} (h : RA q A ib b x b4 l rem C) (hr : Ri q C' ib b x rem') (hk : Kp ib C C') : RA q A ib b x b4 l rem' C' := by
  have hn := h.hb4
  have hb := h.hib
  have hn' := hk.1
  exact ⟨h.h1.same (hk.2 _ (by omega) (by omega)), h.h2.same (hk.2 _ (by omega) (by omega)), hr, h.hk.trans hk, by omega, hb⟩
theorem RA.put {A : Mem} {ib b4 : Nat} {b : List UInt8} {x : Value} {l : List Value} {rem : List UInt8} {C : Mem} (h : RA q A ib b x b4 l rem C) {t : TypeId} {o : Nat} {v : Value} (hs : sizeF tb1 t = .ok 1) (ho : o < l.length) (hv : v.cells.toList = [v]) (h1c : oneCell v = true) :
    ∃ C', storeF tb1 C t (.pointer (some ⟨b4, o, none⟩)) v = .ok C' ∧ RA q A ib b x b4 (l.set o v) rem C' ∧ C'.next = C.next ∧ ∀ y, y ≠ b4 → C'.get y = C.get y := by
  obtain ⟨C', e1, e2, e3, e4⟩ := store_vals (tb := tb1) (t := t) hs h.h2 ho hv h1c
  have hn := h.hb4
  have hb := h.hib
  refine ⟨C', e1, ⟨h.h1.same (e4 _ (by omega)), e2, h.hr.keep (by omega) (fun y _ hy => e4 y (by rcases hy with rfl | rfl <;> omega)), ⟨by have := h.hk.1; omega, fun y hy hyb => by rw [e4 y (by omega), h.hk.2 y hy hyb]⟩, by omega, hb⟩, e3, e4⟩

noncomputable def c29 : Code := Try.f29.body.getD .skip
noncomputable def c29b1 : Code := sub c29 [1,1,1,1,1,1,1,1,1,0,1,0,1,1,1,0,0]
theorem c29_eq : Try.f29.body = some (.seq (sub c29 [0]) (.seq (sub c29 [1,0]) (.seq (sub c29 [1,1,0]) (.seq (sub c29 [1,1,1,0]) (.seq (sub c29 [1,1,1,1,0]) (.seq (.seq (sub c29 [1,1,1,1,1,0,0]) (.cond (.tmp 26) (sub c29 [1,1,1,1,1,0,1,0]) .skip)) (.seq (sub c29 [1,1,1,1,1,1,0]) (.seq
    (.seq (sub c29 [1,1,1,1,1,1,1,0,0]) (.cond (.tmp 44) (.seq (sub c29 [1,1,1,1,1,1,1,0,1,0,0]) (.seq (sub c29 [1,1,1,1,1,1,1,0,1,0,1,0]) (.seq (sub c29 [1,1,1,1,1,1,1,0,1,0,1,1,0]) (.cond (.tmp 52) (sub c29 [1,1,1,1,1,1,1,0,1,0,1,1,1,0]) .skip)))) .skip)) (.seq
    (.seq (sub c29 [1,1,1,1,1,1,1,1,0,0]) (.cond (.tmp 58) (.seq (sub c29 [1,1,1,1,1,1,1,1,0,1,0,0]) (.seq (sub c29 [1,1,1,1,1,1,1,1,0,1,0,1,0]) (sub c29 [1,1,1,1,1,1,1,1,0,1,0,1,1]))) .skip)) (.seq
    (.seq (sub c29 [1,1,1,1,1,1,1,1,1,0,0]) (.cond (.tmp 76) (.seq (sub c29 [1,1,1,1,1,1,1,1,1,0,1,0,0]) (.seq (sub c29 [1,1,1,1,1,1,1,1,1,0,1,0,1,0]) (.seq (sub c29 [1,1,1,1,1,1,1,1,1,0,1,0,1,1,0]) (.block 0 (.loop c29b1))))) .skip)) (.seq (sub c29 [1,1,1,1,1,1,1,1,1,1,0]) (sub c29 [1,1,1,1,1,1,1,1,1,1,1])))))))))))) := by kernel_rfl
section
variable {A : Mem} {ib b4 : Nat} {b : List UInt8} {x : Value} {rem : List UInt8} {C : Mem} {t : T Value} {K : Ex → St → Prop}
def rS (A : Mem) (ib b4 k : Nat) (ar : Bool) : List (Nat × Value) := [(0, .pointer (some ⟨ib, 0, none⟩)), (2, .pointer (some ⟨A.next, 0, none⟩)), (3, .int .i64 (k : Int)), (4, .pointer (some ⟨b4, 0, none⟩)), (5, .bool ar)]
set_option maxHeartbeats 2000000 in
theorem ract_arm {kind k : Nat} {cut : Bool} (hl : b.length ≤ 1000000) (hM : RA q A ib b x b4 (cellsD kind [] 0 0 0 0 cut (.slice none 0 0) (.slice none 0 0)) rem C) (hp : Sl t (rS A ib b4 k (decide (k / 20 % 2 = 1))))
    (hK : ∀ t' C', RA q A ib b x b4 (cellsD kind [] 0 0 0 (armD k rem).1 cut (.slice none 0 0) (.slice none 0 0)) (armD k rem).2 C' → Sl t' (rS A ib b4 k (decide (k / 20 % 2 = 1))) → K .nrm ⟨t', 108, [], C', none⟩) :
    W tb1 (.seq (sub c29 [1,1,1,1,1,0,0]) (.cond (.tmp 26) (sub c29 [1,1,1,1,1,0,1,0]) .skip)) ⟨t, 108, [], C, none⟩ K := by
  obtain ⟨g0, g2, g3, g4, g5, -⟩ := hp
  have hlt := nx_lt rem
  apply W.seq
  by_cases h : k / 20 % 2 = 1
  · have e : armD k rem = (1 + nx rem, rem.tail) := by unfold armD; rw [if_pos h]
    rw [e] at hK
    rw [decide_eq_true h] at hK g5
    obtain ⟨C1, ⟨g, hg⟩, hr, hk⟩ := run_one hM.hr hl
    obtain ⟨C2, hst, hM2, -, -⟩ := (hM.step hr hk).put (t := 3) (o := 5) (v := .int .i64 ((1 + nx rem : Nat) : Int)) size3 (by simp [cellsD]) rfl rfl
    apply W.run 20
    · intro M
      simp (config := { maxSteps := 4000000 }) (disch := first | decide +kernel | omega) only [c29, Try.f29, Option.getD_some, sub_seq1, sub_seq0, sub_nil, exec_region, runOps_cons, opF_move, ev_tmp, g5, evG_some, putT_some, runOps_nil, R.ok_bind]
      with_reducible rfl
    refine W.cond (p := true) (by simp only [ev_tmp, T.get_set, if_true, evG_some]) (fun _ => ?_) (fun h => by cases h)
    apply W.runG (g) 20
    · intro M hM
      simp (config := { maxSteps := 4000000 }) (disch := first | decide +kernel | omega) only [c29, Try.f29, Option.getD_some, sub_seq1, sub_seq0, sub_cond0, sub_nil, exec_region, runOps_cons, opF_move, ev_tmp, T.get_set, Nat.reduceEqDiff, g0, if_false, evG_some, putT_some, opF_call, evs, if_true, R.ok_bind, resK, opF_ari, ev_int, opF_fieldAddr, g4, opF_store, putT_none, runOps_nil, fa81_1, hg, binF_int, op_add_i64, hst]
      with_reducible rfl
    refine hK _ _ hM2 ?_
    unfold rS; simp only [Sl_cons, Sl_nil, T.get_set, T.puts_cons, T.puts_nil, Nat.reduceEqDiff, Nat.reduceAdd, if_true, if_false, and_true, true_and, g0, g2, g3, g4, g5]
  · have e : armD k rem = (0, rem) := by unfold armD; rw [if_neg h]
    rw [e] at hK
    rw [decide_eq_false h] at hK g5
    apply W.run 20
    · intro M
      simp (config := { maxSteps := 4000000 }) (disch := first | decide +kernel | omega) only [c29, Try.f29, Option.getD_some, sub_seq1, sub_seq0, sub_nil, exec_region, runOps_cons, opF_move, ev_tmp, g5, evG_some, putT_some, runOps_nil, R.ok_bind]
      with_reducible rfl
    refine W.cond (p := false) (by simp only [ev_tmp, T.get_set, if_true, evG_some]) (fun h => by cases h) (fun _ => ?_)
    apply W.run 20
    · intro M
      simp (config := { maxSteps := 4000000 }) (disch := first | decide +kernel | omega) only [exec_skip]
      with_reducible rfl
    refine hK _ _ hM ?_
    unfold rS; simp only [Sl_cons, Sl_nil, T.get_set, T.puts_cons, T.puts_nil, Nat.reduceEqDiff, Nat.reduceAdd, if_true, if_false, and_true, true_and, g0, g2, g3, g4, g5]

set_option maxHeartbeats 4000000 in
theorem ract_weight {kind k : Nat} {word : List UInt8} {arm : Nat} {cut ar : Bool} (hl : b.length ≤ 1000000) (hM : RA q A ib b x b4 (cellsD kind word 0 0 0 arm cut (.slice none 0 0) (.slice none 0 0)) rem C) (hp : Sl t (rS A ib b4 k ar))
    (hK : ∀ t' C', RA q A ib b x b4 (cellsD kind word (moreD kind rem).1 0 0 arm cut (.slice none 0 0) (.slice none 0 0)) (if weighs kind = true then rem.tail else rem) C' → Sl t' (rS A ib b4 k ar) → K .nrm ⟨t', 108, [], C', none⟩) :
    W tb1 (.seq (sub c29 [1,1,1,1,1,1,1,0,0]) (.cond (.tmp 44) (.seq (sub c29 [1,1,1,1,1,1,1,0,1,0,0]) (.seq (sub c29 [1,1,1,1,1,1,1,0,1,0,1,0]) (.seq (sub c29 [1,1,1,1,1,1,1,0,1,0,1,1,0]) (.cond (.tmp 52) (sub c29 [1,1,1,1,1,1,1,0,1,0,1,1,1,0]) .skip)))) .skip)) ⟨t, 108, [], C, none⟩ K := by
  obtain ⟨g0, g2, g3, g4, g5, -⟩ := hp
  have hlt := nx_lt rem
  have hkd : loadF tb1 C.get 3 (.pointer (some ⟨b4, 0, none⟩)) = .ok (.int .i64 (kind : Int)) := load_vals und3 rfl hM.h2 rfl
  obtain ⟨C1, ⟨g, hg⟩, hr, hk⟩ := run_one hM.hr hl
  have hM1 := hM.step hr hk
  have hw32 : wrapF .u32 ((nx rem : Nat) : Int) = ((nx rem : Nat) : Int) := by rw [wrapF_u32, Nat.mod_eq_of_lt (by omega)]
  have first : ∀ {K : Ex → St → Prop}, (∀ t' : T Value, Sl t' (rS A ib b4 k ar) → t'.get 44 = some (.bool (weighs kind)) → K .nrm ⟨t', 108, [], C, none⟩) → W tb1 (sub c29 [1,1,1,1,1,1,1,0,0]) ⟨t, 108, [], C, none⟩ K := by
    intro K hK
    by_cases h0 : kind = 0
    · subst h0
      apply W.run 20
      · intro M
        simp (config := { maxSteps := 4000000 }) (disch := first | decide +kernel | (rw [wantF_guard]; simp only [wantD_some, dstAt_zero, dstAt_succ, T.get_set, T.get_e, Nat.reduceEqDiff, if_true, if_false, wantV_bool, wantV_unit, unitV, cond_true, cond_false, Bool.not_true, Bool.not_false, List.toList_toArray]) | omega) only [c29, Try.f29, Option.getD_some, sub_seq1, sub_seq0, sub_nil, exec_region, runOps_cons, opF_fieldAddr, ev_tmp, g4, evG_some, putT_some, T.get_set, if_true, opF_load, Nat.reduceEqDiff, if_false, opF_eql, ev_int, opF_move, R.ok_bind, fa81_0, fa35_0, hkd, binF_int, op_eql, decide_true, runOps_no, opF_pick, pickF, ev_bool, runOps_nil]
        with_reducible rfl
      refine hK _ ?_ ?_
      · unfold rS; simp only [Sl_cons, Sl_nil, T.get_set, T.puts_cons, T.puts_nil, Nat.reduceEqDiff, Nat.reduceAdd, if_true, if_false, and_true, true_and, g0, g2, g3, g4, g5]
      · simp only [T.get_set, Nat.reduceEqDiff, if_true, if_false]; rfl
    · by_cases h2 : kind = 2
      · subst h2
        apply W.run 20
        · intro M
          simp (config := { maxSteps := 4000000 }) (disch := first | decide +kernel | (rw [wantF_guard]; simp only [wantD_some, dstAt_zero, dstAt_succ, T.get_set, T.get_e, Nat.reduceEqDiff, if_true, if_false, wantV_bool, wantV_unit, unitV, cond_true, cond_false, Bool.not_true, Bool.not_false, List.toList_toArray]) | omega) only [c29, Try.f29, Option.getD_some, sub_seq1, sub_seq0, sub_nil, exec_region, runOps_cons, opF_fieldAddr, ev_tmp, g4, evG_some, putT_some, T.get_set, if_true, opF_load, Nat.reduceEqDiff, if_false, opF_eql, ev_int, opF_move, R.ok_bind, fa81_0, fa35_0, hkd, binF_int, op_eql, decide_false, runOps_yes, opF_pick, pickF, ev_bool, runOps_nil, decide_true]
          with_reducible rfl
        refine hK _ ?_ ?_
        · unfold rS; simp only [Sl_cons, Sl_nil, T.get_set, T.puts_cons, T.puts_nil, Nat.reduceEqDiff, Nat.reduceAdd, if_true, if_false, and_true, true_and, g0, g2, g3, g4, g5]
        · simp only [T.get_set, Nat.reduceEqDiff, if_true, if_false]; rfl
      · apply W.run 20
        · intro M
          simp (config := { maxSteps := 4000000 }) (disch := first | decide +kernel | (rw [wantF_guard]; simp only [wantD_some, dstAt_zero, dstAt_succ, T.get_set, T.get_e, Nat.reduceEqDiff, if_true, if_false, wantV_bool, wantV_unit, unitV, cond_true, cond_false, Bool.not_true, Bool.not_false, List.toList_toArray]) | omega) only [c29, Try.f29, Option.getD_some, sub_seq1, sub_seq0, sub_nil, exec_region, runOps_cons, opF_fieldAddr, ev_tmp, g4, evG_some, putT_some, T.get_set, if_true, opF_load, Nat.reduceEqDiff, if_false, opF_eql, ev_int, opF_move, R.ok_bind, fa81_0, fa35_0, hkd, binF_int, op_eql, h0, decide_false, runOps_yes, opF_pick, pickF, ev_bool, runOps_nil, h2]
          with_reducible rfl
        refine hK _ ?_ ?_
        · unfold rS; simp only [Sl_cons, Sl_nil, T.get_set, T.puts_cons, T.puts_nil, Nat.reduceEqDiff, Nat.reduceAdd, if_true, if_false, and_true, true_and, g0, g2, g3, g4, g5]
        · simp only [T.get_set, Nat.reduceEqDiff, if_true, if_false]
          congr 2
          simp [weighs, h0, h2]
  apply W.seq
  refine first ?_
  rintro t1 ⟨f0, f2, f3, f4, f5, -⟩ f44
  show W tb1 _ _ _
  cases hwg : weighs kind with
  | true =>
    rw [hwg] at f44 hK
    rw [if_pos rfl] at hK
    refine W.cond (p := true) (by simp only [ev_tmp, f44, evG_some]) (fun _ => ?_) (fun h => by cases h)
    obtain ⟨C2, hst, hM2, -, -⟩ := hM1.put (t := 33) (o := 2) (v := .int .u32 ((nx rem : Nat) : Int)) size33 (by simp [cellsD]) rfl rfl
    apply W.seq
    apply W.runG (g) 20
    · intro M hM
      simp (config := { maxSteps := 4000000 }) (disch := first | decide +kernel | omega) only [c29, Try.f29, Option.getD_some, sub_seq1, sub_seq0, sub_cond0, sub_nil, exec_region, runOps_cons, opF_move, ev_tmp, f0, evG_some, putT_some, opF_call, evs, T.get_set, if_true, R.ok_bind, resK, opF_assign, Nat.reduceEqDiff, if_false, runOps_nil, hg]
      with_reducible rfl
    apply W.seq
    apply W.run 20
    · intro M
      simp (config := { maxSteps := 4000000 }) (disch := first | decide +kernel | omega) only [c29, Try.f29, Option.getD_some, sub_seq1, sub_seq0, sub_cond0, sub_nil, exec_region, runOps_cons, opF_move, ev_tmp, T.get_set, Nat.reduceEqDiff, if_false, if_true, evG_some, putT_some, opF_conv, convPF, und3, und33, opF_fieldAddr, f4, opF_store, putT_none, runOps_nil, R.ok_bind, fa81_0, fa35_2, hw32, hst]
      with_reducible rfl
    apply W.seq
    by_cases h255 : nx rem = 255
    · have e : (moreD kind rem).1 = 4294967295 := by unfold moreD; rw [if_pos hwg, if_pos h255]
      rw [e] at hK
      obtain ⟨C3, hst3, hM3, -, -⟩ := hM2.put (t := 33) (o := 2) (v := .int .u32 ((4294967295 : Nat) : Int)) size33 (by simp [cellsD]) rfl rfl
      apply W.run 20
      · intro M
        simp (config := { maxSteps := 4000000 }) (disch := first | decide +kernel | omega) only [c29, Try.f29, Option.getD_some, sub_seq1, sub_seq0, sub_cond0, sub_nil, h255, exec_region, runOps_cons, opF_move, ev_tmp, T.get_set, Nat.reduceEqDiff, if_false, if_true, evG_some, putT_some, opF_eql, ev_int, runOps_nil, R.ok_bind, binF_int, op_eql, decide_true]
        with_reducible rfl
      refine W.cond (p := true) (by simp only [ev_tmp, T.get_set, if_true, evG_some]) (fun _ => ?_) (fun h => by cases h)
      apply W.run 20
      · intro M
        simp (config := { maxSteps := 4000000 }) (disch := first | decide +kernel | omega) only [c29, Try.f29, Option.getD_some, sub_seq1, sub_seq0, sub_cond0, sub_nil, exec_region, runOps_cons, opF_fieldAddr, ev_tmp, T.get_set, Nat.reduceEqDiff, f4, if_false, evG_some, putT_some, if_true, opF_store, ev_int, putT_none, runOps_nil, R.ok_bind, fa81_0, fa35_2, hst3]
        with_reducible rfl
      refine hK _ _ hM3 ?_
      unfold rS; simp only [Sl_cons, Sl_nil, T.get_set, T.puts_cons, T.puts_nil, Nat.reduceEqDiff, Nat.reduceAdd, if_true, if_false, and_true, true_and, f0, f2, f3, f4, f5]
    · have e : (moreD kind rem).1 = nx rem := by unfold moreD; rw [if_pos hwg, if_neg h255]
      rw [e] at hK
      apply W.run 20
      · intro M
        simp (config := { maxSteps := 4000000 }) (disch := first | decide +kernel | omega) only [c29, Try.f29, Option.getD_some, sub_seq1, sub_seq0, sub_cond0, sub_nil, exec_region, runOps_cons, opF_move, ev_tmp, T.get_set, Nat.reduceEqDiff, if_false, if_true, evG_some, putT_some, opF_eql, ev_int, runOps_nil, R.ok_bind, binF_int, op_eql, h255, decide_false]
        with_reducible rfl
      refine W.cond (p := false) (by simp only [ev_tmp, T.get_set, if_true, evG_some]) (fun h => by cases h) (fun _ => ?_)
      apply W.run 20
      · intro M
        simp (config := { maxSteps := 4000000 }) (disch := first | decide +kernel | omega) only [exec_skip]
        with_reducible rfl
      refine hK _ _ hM2 ?_
      unfold rS; simp only [Sl_cons, Sl_nil, T.get_set, T.puts_cons, T.puts_nil, Nat.reduceEqDiff, Nat.reduceAdd, if_true, if_false, and_true, true_and, f0, f2, f3, f4, f5]
  | false =>
    rw [hwg] at f44 hK
    rw [if_neg (by simp)] at hK
    have e : (moreD kind rem).1 = 0 := by
      unfold moreD
      rw [if_neg (by rw [hwg]; simp)]
      split <;> rfl
    rw [e] at hK
    refine W.cond (p := false) (by simp only [ev_tmp, f44, evG_some]) (fun h => by cases h) (fun _ => ?_)
    apply W.run 20
    · intro M
      simp (config := { maxSteps := 4000000 }) (disch := first | decide +kernel | omega) only [exec_skip]
      with_reducible rfl
    refine hK _ _ hM ?_
    unfold rS; simp only [Sl_cons, Sl_nil, T.get_set, T.puts_cons, T.puts_nil, Nat.reduceEqDiff, Nat.reduceAdd, if_true, if_false, and_true, true_and, f0, f2, f3, f4, f5]

set_option maxHeartbeats 4000000 in
theorem ract_ask {kind k weight : Nat} {word : List UInt8} {arm : Nat} {cut ar : Bool} (hl : b.length ≤ 1000000) (hM : RA q A ib b x b4 (cellsD kind word weight 0 0 arm cut (.slice none 0 0) (.slice none 0 0)) (if weighs kind = true then rem.tail else rem) C) (hp : Sl t (rS A ib b4 k ar))
    (hK : ∀ t' C', RA q A ib b x b4 (cellsD kind word weight (moreD kind rem).2.1 (moreD kind rem).2.2.1 arm cut (.slice none 0 0) (.slice none 0 0)) (moreD kind rem).2.2.2 C' → Sl t' (rS A ib b4 k ar) → K .nrm ⟨t', 108, [], C', none⟩) :
    W tb1 (.seq (sub c29 [1,1,1,1,1,1,1,1,0,0]) (.cond (.tmp 58) (.seq (sub c29 [1,1,1,1,1,1,1,1,0,1,0,0]) (.seq (sub c29 [1,1,1,1,1,1,1,1,0,1,0,1,0]) (sub c29 [1,1,1,1,1,1,1,1,0,1,0,1,1]))) .skip)) ⟨t, 108, [], C, none⟩ K := by
  obtain ⟨g0, g2, g3, g4, g5, -⟩ := hp
  have hlt := nx_lt rem
  have hkd : loadF tb1 C.get 3 (.pointer (some ⟨b4, 0, none⟩)) = .ok (.int .i64 (kind : Int)) := load_vals und3 rfl hM.h2 rfl
  apply W.seq
  by_cases h7 : kind = 7
  · subst h7
    have hwg : weighs 7 = false := rfl
    rw [hwg, if_neg (by simp)] at hM
    have e : moreD 7 rem = (0, ((nx rem % 6 : Nat) : Int) - ((1 : Nat) : Int), ((nx rem / 6 % 12 : Nat) : Int) - ((1 : Nat) : Int), rem.tail) := by unfold moreD; rw [if_neg (by rw [hwg]; simp), if_pos rfl]
    rw [e] at hK
    obtain ⟨C1, ⟨g, hg⟩, hr, hk⟩ := run_one hM.hr hl
    have hM1 := hM.step hr hk
    obtain ⟨C2, hst, hM2, -, -⟩ := hM1.put (t := 3) (o := 3) (v := .int .i64 (((nx rem % 6 : Nat) : Int) - ((1 : Nat) : Int))) size3 (by simp [cellsD]) rfl rfl
    obtain ⟨C3, hst3, hM3, -, -⟩ := hM2.put (t := 3) (o := 4) (v := .int .i64 (((nx rem / 6 % 12 : Nat) : Int) - ((1 : Nat) : Int))) size3 (by simp [cellsD]) rfl rfl
    have s1 : intOpF .sub .i64 ((nx rem % 6 : Nat) : Int) ((1 : Nat) : Int) = .ok (.int .i64 (((nx rem % 6 : Nat) : Int) - ((1 : Nat) : Int))) := op_subI (by omega) (by omega)
    have s2 : intOpF .sub .i64 ((nx rem / 6 % 12 : Nat) : Int) ((1 : Nat) : Int) = .ok (.int .i64 (((nx rem / 6 % 12 : Nat) : Int) - ((1 : Nat) : Int))) := op_subI (by omega) (by omega)
    apply W.run 20
    · intro M
      simp (config := { maxSteps := 4000000 }) (disch := first | decide +kernel | omega) only [c29, Try.f29, Option.getD_some, sub_seq1, sub_seq0, sub_nil, exec_region, runOps_cons, opF_fieldAddr, ev_tmp, g4, evG_some, putT_some, T.get_set, if_true, opF_load, Nat.reduceEqDiff, if_false, opF_eql, ev_int, runOps_nil, R.ok_bind, fa81_0, fa35_0, hkd, binF_int, op_eql, decide_true]
      with_reducible rfl
    refine W.cond (p := true) (by simp only [ev_tmp, T.get_set, if_true, evG_some]) (fun _ => ?_) (fun h => by cases h)
    apply W.seq
    apply W.runG (g) 20
    · intro M hM
      simp (config := { maxSteps := 4000000 }) (disch := first | decide +kernel | omega) only [c29, Try.f29, Option.getD_some, sub_seq1, sub_seq0, sub_cond0, sub_nil, exec_region, runOps_cons, opF_move, ev_tmp, T.get_set, Nat.reduceEqDiff, g0, if_false, evG_some, putT_some, opF_call, evs, if_true, R.ok_bind, resK, opF_assign, runOps_nil, hg]
      with_reducible rfl
    apply W.seq
    apply W.run 20
    · intro M
      simp (config := { maxSteps := 4000000 }) (disch := first | decide +kernel | omega) only [c29, Try.f29, Option.getD_some, sub_seq1, sub_seq0, sub_cond0, sub_nil, exec_region, runOps_cons, opF_move, ev_tmp, T.get_set, Nat.reduceEqDiff, if_false, if_true, evG_some, putT_some, opF_ari, ev_int, opF_fieldAddr, g4, opF_store, putT_none, runOps_nil, R.ok_bind, fa81_0, fa35_3, binF_int, op_rem, s1, hst]
      with_reducible rfl
    apply W.run 20
    · intro M
      simp (config := { maxSteps := 4000000 }) (disch := first | decide +kernel | omega) only [c29, Try.f29, Option.getD_some, sub_seq1, sub_seq0, sub_cond0, sub_nil, exec_region, runOps_cons, opF_move, ev_tmp, T.get_set, Nat.reduceEqDiff, if_false, if_true, evG_some, putT_some, opF_ari, ev_int, opF_fieldAddr, g4, opF_store, putT_none, runOps_nil, R.ok_bind, fa81_0, fa35_4, binF_int, op_quo_i64, op_rem, s2, hst3]
      with_reducible rfl
    refine hK _ _ hM3 ?_
    unfold rS; simp only [Sl_cons, Sl_nil, T.get_set, T.puts_cons, T.puts_nil, Nat.reduceEqDiff, Nat.reduceAdd, if_true, if_false, and_true, true_and, g0, g2, g3, g4, g5]
  · have e : ((moreD kind rem).2.1, (moreD kind rem).2.2.1, (moreD kind rem).2.2.2) = ((0 : Int), (0 : Int), if weighs kind = true then rem.tail else rem) := by
      unfold moreD
      by_cases hw : weighs kind = true
      · rw [if_pos hw, if_pos hw]
      · rw [if_neg hw, if_neg hw, if_neg h7]
    simp only [Prod.mk.injEq] at e
    rw [e.1, e.2.1, e.2.2] at hK
    apply W.run 20
    · intro M
      simp (config := { maxSteps := 4000000 }) (disch := first | decide +kernel | omega) only [c29, Try.f29, Option.getD_some, sub_seq1, sub_seq0, sub_nil, exec_region, runOps_cons, opF_fieldAddr, ev_tmp, g4, evG_some, putT_some, T.get_set, if_true, opF_load, Nat.reduceEqDiff, if_false, opF_eql, ev_int, runOps_nil, R.ok_bind, fa81_0, fa35_0, hkd, binF_int, op_eql, h7, decide_false]
      with_reducible rfl
    refine W.cond (p := false) (by simp only [ev_tmp, T.get_set, if_true, evG_some]) (fun h => by cases h) (fun _ => ?_)
    apply W.run 20
    · intro M
      simp (config := { maxSteps := 4000000 }) (disch := first | decide +kernel | omega) only [exec_skip]
      with_reducible rfl
    refine hK _ _ hM ?_
    unfold rS; simp only [Sl_cons, Sl_nil, T.get_set, T.puts_cons, T.puts_nil, Nat.reduceEqDiff, Nat.reduceAdd, if_true, if_false, and_true, true_and, g0, g2, g3, g4, g5]
end
end Go.Proofs.Ytmhldlnlgjpkaaa.scr

/-
  Script: the document's act, whole.
-/
namespace Go.Proofs.Ytmhldlnlgjpkaaa.scr
open Go.Am
variable {q : Nat}
set_option linter.unusedSimpArgs false
set_option linter.unusedVariables false
set_option linter.unusedVariables false
set_option maxRecDepth 20000

section
variable {A : Mem} {ib b4 : Nat} {b : List UInt8} {x : Value} {l : List Value} {rem : List UInt8} {C C' : Mem} {t : T Value} {K : Ex → St → Prop}
theorem RA.grow (h : RA q A ib b x b4 l rem C) (e : Ext C C') : RA q A ib b x b4 l rem C' := by
  have hn := h.hb4
  have hb := h.hib
  have he := e.n
  have hk := h.hk.1
  exact ⟨h.h1.same (e.g _ (by omega)), h.h2.same (e.g _ (by omega)), h.hr.keep e.n (fun y hy _ => e.g y hy), ⟨by omega, fun y hy hyb => by rw [e.g y (by omega), h.hk.2 y hy hyb]⟩, by omega, hb⟩
theorem RA.other (h : RA q A ib b x b4 l rem C) {z : Nat} (hz : b4 < z) (hn : C'.next = C.next) (hg : ∀ y, y ≠ z → C'.get y = C.get y) : RA q A ib b x b4 l rem C' := by
  have h4 := h.hb4
  have hb := h.hib
  have hk := h.hk.1
  exact ⟨h.h1.same (hg _ (by omega)), h.h2.same (hg _ (by omega)), h.hr.keep (by omega) (fun y _ hy => hg y (by rcases hy with rfl | rfl <;> omega)), ⟨by omega, fun y hy hyb => by rw [hg y (by omega), h.hk.2 y hy hyb]⟩, by omega, hb⟩
theorem c29b1_eq : c29b1 = .seq (sub c29b1 [0]) (.seq (.block 1 (.seq (sub c29b1 [1,0,0,0]) (.seq (sub c29b1 [1,0,0,1,0]) (sub c29b1 [1,0,0,1,1])))) (sub c29b1 [1,1])) := by kernel_rfl
set_option maxHeartbeats 8000000 in
theorem ract_opens {kind k weight arm m : Nat} {word : List UInt8} {kk nn : Int} {cut ar : Bool} {xs : Value} (hm : m < 256) (hl : b.length ≤ 1000000) (hM : RA q A ib b x b4 (cellsD kind word weight kk nn arm cut xs (.slice none 0 0)) rem C) (hp : Sl t (rS A ib b4 k ar ++ [(8, .int .i64 (m : Int)), (9, .int .i64 ((0 : Nat) : Int))]))
    (hK : ∀ t' C' xo, RA q A ib b x b4 (cellsD kind word weight kk nn arm cut xs xo) (opensRest rem (m / 6 % 4)) C' → OpsP (fun c => C.next ≤ c) C' ((opensL rem (m / 6 % 4)).map opToG) xo → C.next ≤ C'.next → (∀ y, y < C.next → y ≠ ib → y ≠ b4 → C'.get y = C.get y) → Sl t' (rS A ib b4 k ar) → K .nrm ⟨t', 108, [], C', none⟩) :
    W tb1 (.block 0 (.loop c29b1)) ⟨t, 108, [], C, none⟩ K := by
  have hb40 := hM.hb4
  have hk0 := hM.hk.1
  apply W.block
  refine W.up (m / 6 % 4) (fun i t D => ∃ xo bo, RA q A ib b x b4 (cellsD kind word weight kk nn arm cut xs xo) (opensRest rem i) D ∧ Lst OpP 92 2 bo (fun c => C.next ≤ c) D ((opensL rem i).map opToG) xo ∧ (xo = .slice none 0 0 ∨ C.next ≤ bo) ∧ C.next ≤ D.next ∧ (∀ y, y < C.next → y ≠ ib → y ≠ b4 → D.get y = C.get y) ∧
    Sl t (rS A ib b4 k ar ++ [(8, .int .i64 (m : Int)), (9, .int .i64 (i : Int))])) ?_ (Nat.zero_le _) ⟨_, 0, hM, Lst.nil, .inl rfl, Nat.le_refl _, fun _ _ _ _ => rfl, hp⟩
  rintro i t D hi ⟨xo, bo, hM, hx, hbo, hDn, hDf, g0, g2, g3, g4, g5, g8, g9, -⟩
  have hb4 := hM.hb4
  have hib := hM.hib
  by_cases hlt : i < m / 6 % 4
  · obtain ⟨r, hr⟩ : ∃ r, opensRest rem i = r := ⟨_, rfl⟩
    rw [hr] at hM
    have hnx := nx_lt r
    obtain ⟨E1, ⟨g, hg⟩, hR1, hK1⟩ := run_one hM.hr hl
    have hM1 := hM.step hR1 hK1
    have n1 := hK1.1
    have v0 : Vals (E1.alloc (rowOb 92 [.int .i64 0, .slice none 0 0])) 92 E1.next (.var 2) [.int .i64 0, .slice none 0 0] := Go.Am.vals_new E1 92 _
    have hn0 : (E1.alloc (rowOb 92 [.int .i64 0, .slice none 0 0])).next = E1.next + 1 := next_alloc _ _
    obtain ⟨F1, hst1, v1, hn1, hf1⟩ := store_all (tb := tb1) (t := 92) (l' := [.int .i64 ((1 + nx r : Nat) : Int), .slice none 0 0]) (by rw [size92]; rfl) v0 rfl (by simp) (fun v hv => by
      simp only [List.mem_cons, List.not_mem_nil, or_false] at hv
      rcases hv with rfl | rfl <;> rfl)
    have e1 : Ext E1 F1 := (Ext.alloc E1 _).put (b := E1.next) (Nat.le_refl _) hn1 hf1
    have hM2 := hM1.grow e1
    obtain ⟨E2, ⟨g2', hg2⟩, hR2, hK2⟩ := run_one hM2.hr hl
    have hM3 := hM2.step hR2 hK2
    have n2 := hK2.1
    obtain ⟨ys, E3, ⟨g3', hg3⟩, hR3, hK3, bb, hbb, hys⟩ := run_rnums hM3.hr hl (nx r.tail % 4) (by omega)
    have hM4 := hM3.step hR3 hK3
    have n3 := hK3.1
    have v3 : Vals E3 92 E1.next (.var 2) [.int .i64 ((1 + nx r : Nat) : Int), .slice none 0 0] := (v1.same (hK2.2 _ (by omega) (by omega))).same (hK3.2 _ (by omega) (by omega))
    have hsR : StR (fun c => E2.next ≤ c) E3 (numbersD r.tail.tail (nx r.tail % 4)) ys := StR.of hys hbb
    obtain ⟨F3, hst3, v4, hn3, hf3⟩ := store_vals (tb := tb1) (t := 36) (o := 1) size36 v3 (by simp) hsR.cells.1 hsR.cells.2
    have v4' : Vals F3 92 E1.next (.var 2) [.int .i64 ((1 + nx r : Nat) : Int), ys] := v4
    have hM5 := hM4.other (z := E1.next) (by omega) hn3 hf3
    have hl1 : loadF tb1 F3.get 79 (.pointer (some ⟨b4, 8, none⟩)) = .ok xo := load_vals und79 rfl hM5.h2 rfl
    obtain ⟨d92, hd1, hd2⟩ := und92
    have hl2 : loadF tb1 F3.get 92 (.pointer (some ⟨E1.next, 0, none⟩)) = .ok (.agg ⟨[.int .i64 ((1 + nx r : Nat) : Int), ys]⟩) := Go.Am.load_all hd1 hd2 (by rw [size92]; rfl) v4'
    have hfr : ∀ y, y < D.next → y ≠ ib → F3.get y = D.get y := fun y hy hyb => by
      rw [hf3 y (by omega), hK3.2 y (by omega) hyb, hK2.2 y (by omega) hyb, e1.g y (by omega), hK1.2 y hy hyb]
    have hnF : D.next ≤ F3.next := by omega
    have hlt2 := hx.lt
    have hx5 : Lst OpP 92 2 bo (fun c => C.next ≤ c) F3 ((opensL rem i).map opToG) xo := hx.same OpP.mono hnF (by
      rcases hbo with h | h
      · exact .inl h
      · exact .inr (fun hb => hfr bo hb (by have := hM.hk.1; omega))) (fun c hc hcl _ => ⟨hc, hfr c hcl (by omega)⟩)
    have hop : OpP (fun c => C.next ≤ c ∧ (xo = .slice none 0 0 ∨ c ≠ bo)) F3 (opToG (openV r)) [.int .i64 ((1 + nx r : Nat) : Int), ys] := by
      refine ⟨ys, rfl, ?_, ?_⟩
      · show StR _ _ (numbersD (r.drop 2) (nx r.tail % 4)) ys
        rw [drop2]
        exact hsR.same (by omega) (fun c hc hcl => ⟨⟨by omega, by
          rcases hlt2 with h | h
          · exact .inl h
          · exact .inr (by omega)⟩, hf3 c (by omega)⟩)
      · show (numbersD _ _).length ≤ 1000
        rw [numbersD_len]; omega
    obtain ⟨xo', G, happ, hx6, hnG, hfG⟩ := hx5.push OpP.mono OpP.cells und79 zc92 ty92 (by omega) (by omega) (by rw [List.length_map, opensL_len]; omega) hop
    have hboD : xo = .slice none 0 0 ∨ b4 < bo := by
      rcases hbo with h | h
      · exact .inl h
      · exact .inr (by omega)
    have hM6 : RA q A ib b x b4 (cellsD kind word weight kk nn arm cut xs xo) ((r.tail.tail).drop (nx r.tail % 4)) G := by
      have hb5 := hM5.hb4
      have hk5 := hM5.hk.1
      have key : ∀ y, y ≤ b4 → G.get y = F3.get y := fun y hy => hfG y (fun e => hboD.resolve_right (by omega)) (by omega)
      exact ⟨hM5.h1.same (key _ (by omega)), hM5.h2.same (key _ (by omega)), hM5.hr.keep (by omega) (fun y hy hyy => key y (by rcases hyy with rfl | rfl <;> omega)), ⟨by omega, fun y hy hyb => by rw [key y (by omega), hM5.hk.2 y hy hyb]⟩, by omega, hib⟩
    obtain ⟨H, hst6, hM7, hnH, hfH⟩ := hM6.put (t := 79) (o := 8) (v := xo') size79 (by simp [cellsD]) hx6.cells.1 hx6.cells.2
    rw [c29b1_eq]
    apply W.seq
    apply W.run 20
    · intro M
      simp (config := { maxSteps := 4000000 }) (disch := first | decide +kernel | omega) only [c29b1, c29, Try.f29, Option.getD_some, sub_seq1, sub_seq0, sub_cond0, sub_block, sub_loop, sub_nil, exec_seq, exec_region, runOps_cons, opF_move, ev_tmp, g9, evG_some, putT_some, T.get_set, Nat.reduceEqDiff, g8, if_false, opF_ari, if_true, ev_int, runOps_nil, R.ok_bind, binF_int, op_quo_i64, op_rem, op_lssI, cast_lt, hlt, decide_true, exec_cond, exec_skip, exec_exit]
      with_reducible rfl
    apply W.seq
    apply W.block
    apply W.seq
    apply W.runG (g) 20
    · intro M hM
      simp (config := { maxSteps := 4000000 }) (disch := first | decide +kernel | omega) only [c29b1, c29, Try.f29, Option.getD_some, sub_seq1, sub_seq0, sub_cond0, sub_block, sub_loop, sub_nil, exec_region, runOps_cons, opF_move, ev_tmp, T.get_set, Nat.reduceEqDiff, g0, if_false, evG_some, putT_some, opF_call, evs, if_true, R.ok_bind, resK, opF_ari, ev_int, opF_build, evp, opF_alloc, zero92, at_ptr, opF_store, putT_none, runOps_nil, cells_agg, hg, binF_int, op_add_i64, bf92, hst1]
      with_reducible rfl
    apply W.seq
    apply W.runG ((g2'+g3')) 20
    · intro M hM
      simp (config := { maxSteps := 4000000 }) (disch := first | decide +kernel | omega) only [c29b1, c29, Try.f29, Option.getD_some, sub_seq1, sub_seq0, sub_cond0, sub_block, sub_loop, sub_nil, exec_region, runOps_cons, opF_move, ev_tmp, T.get_set, Nat.reduceEqDiff, g0, if_false, evG_some, putT_some, opF_call, evs, if_true, R.ok_bind, resK, opF_ari, ev_int, opF_fieldAddr, opF_store, putT_none, runOps_nil, fa92_1z, hg2, binF_int, op_rem, hg3, hst3]
      with_reducible rfl
    apply W.run 20
    · intro M
      simp (config := { maxSteps := 4000000 }) (disch := first | decide +kernel | omega) only [c29b1, c29, Try.f29, Option.getD_some, sub_seq1, sub_seq0, sub_cond0, sub_block, sub_loop, sub_nil, exec_region, runOps_cons, opF_fieldAddr, ev_tmp, T.get_set, Nat.reduceEqDiff, g4, if_false, evG_some, putT_some, opF_load, if_true, opF_buildSlice, evp, R.ok_bind, opF_builtin, evs, opF_store, putT_none, runOps_nil, fa81_4, builtin_append, hl2, bs79, at_slc, hl1, happ, hst6]
      with_reducible rfl
    show W tb1 _ _ _
    apply W.run 20
    · intro M
      simp (config := { maxSteps := 4000000 }) (disch := first | decide +kernel | omega) only [c29b1, c29, Try.f29, Option.getD_some, sub_seq1, sub_seq0, sub_cond0, sub_block, sub_loop, sub_nil, exec_region, runOps_cons, opF_move, ev_tmp, T.get_set, Nat.reduceEqDiff, g9, if_false, evG_some, putT_some, opF_ari, if_true, ev_int, opF_assign, runOps_nil, R.ok_bind, binF_int, op_add_i64]
      with_reducible rfl
    have e : opensRest rem (i + 1) = (r.tail.tail).drop (nx r.tail % 4) := by
      show openRest (opensRest rem i) = _
      rw [hr]; unfold openRest; rw [drop2]
    refine ⟨hlt, _, _, rfl, xo', F3.next + 1, by rw [e]; exact hM7, ?_, .inr (by omega), by omega, fun y hy hyb hyb4 => ?_, ?_⟩
    · have e2 : (opensL rem (i + 1)).map opToG = (opensL rem i).map opToG ++ [opToG (openV r)] := by rw [opensL_succ, hr, List.map_append]; rfl
      rw [e2]
      exact hx6.same OpP.mono (by omega) (.inr (fun _ => hfH _ (by omega))) (fun c hc hcl _ => ⟨hc, hfH c (by omega)⟩)
    · rw [hfH y hyb4, hfG y (fun e => by
        rcases hbo with h | h
        · exact h
        · omega) (by omega), hfr y (by omega) hyb, hDf y hy hyb hyb4]
    · unfold rS; simp only [Sl_cons, Sl_nil, T.get_set, T.puts_cons, T.puts_nil, Nat.reduceEqDiff, Nat.reduceAdd, if_true, if_false, and_true, true_and, List.cons_append, List.nil_append, g0, g2, g3, g4, g5, g8]
  · have hin : i = m / 6 % 4 := by omega
    subst hin
    apply W.run 20
    · intro M
      simp (config := { maxSteps := 4000000 }) (disch := first | decide +kernel | omega) only [c29b1, c29, Try.f29, Option.getD_some, sub_seq1, sub_seq0, sub_cond0, sub_block, sub_loop, sub_nil, exec_seq, exec_region, runOps_cons, opF_move, ev_tmp, g9, evG_some, putT_some, T.get_set, Nat.reduceEqDiff, g8, if_false, opF_ari, if_true, ev_int, runOps_nil, R.ok_bind, binF_int, op_quo_i64, op_rem, op_lssI, cast_lt, Nat.lt_irrefl, decide_false, exec_cond, exec_skip, exec_exit, exec_block, opF_fieldAddr]
      with_reducible rfl
    refine hK _ D xo hM ⟨bo, hbo, by rw [List.length_map, opensL_len]; omega, hx⟩ hDn hDf ?_
    unfold rS; simp only [Sl_cons, Sl_nil, T.get_set, T.puts_cons, T.puts_nil, Nat.reduceEqDiff, Nat.reduceAdd, if_true, if_false, and_true, true_and, g0, g2, g3, g4, g5]

set_option maxHeartbeats 8000000 in
theorem ract_stop {kind k weight arm : Nat} {word : List UInt8} {kk nn : Int} {cut ar : Bool} (hl : b.length ≤ 1000000) (hM : RA q A ib b x b4 (cellsD kind word weight kk nn arm cut (.slice none 0 0) (.slice none 0 0)) rem C) (hp : Sl t (rS A ib b4 k ar))
    (hK : ∀ t' C' xs xo, RA q A ib b x b4 (cellsD kind word weight kk nn arm cut xs xo) (stopD (cut || ar) rem).2.2 C' → StR (fun c => b4 < c) C' (stopD (cut || ar) rem).1 xs → OpsP (fun c => b4 < c) C' ((stopD (cut || ar) rem).2.1.map opToG) xo → Sl t' (rS A ib b4 k ar) → K .nrm ⟨t', 108, [], C', none⟩) :
    W tb1 (.seq (sub c29 [1,1,1,1,1,1,1,1,1,0,0]) (.cond (.tmp 76) (.seq (sub c29 [1,1,1,1,1,1,1,1,1,0,1,0,0]) (.seq (sub c29 [1,1,1,1,1,1,1,1,1,0,1,0,1,0]) (.seq (sub c29 [1,1,1,1,1,1,1,1,1,0,1,0,1,1,0]) (.block 0 (.loop c29b1))))) .skip)) ⟨t, 108, [], C, none⟩ K := by
  obtain ⟨g0, g2, g3, g4, g5, -⟩ := hp
  have hlt := nx_lt rem
  have hcut : loadF tb1 C.get 4 (.pointer (some ⟨b4, 6, none⟩)) = .ok (.bool cut) := load_vals und4 rfl hM.h2 rfl
  apply W.seq
  have first : ∀ {K : Ex → St → Prop}, (∀ t' : T Value, Sl t' (rS A ib b4 k ar) → t'.get 76 = some (.bool (cut || ar)) → K .nrm ⟨t', 108, [], C, none⟩) → W tb1 (sub c29 [1,1,1,1,1,1,1,1,1,0,0]) ⟨t, 108, [], C, none⟩ K := by
    intro K hK
    cases cut with
    | true =>
      apply W.run 20
      · intro M
        simp (config := { maxSteps := 4000000 }) (disch := first | decide +kernel | (rw [wantF_guard]; simp only [wantD_some, dstAt_zero, dstAt_succ, T.get_set, T.get_e, Nat.reduceEqDiff, if_true, if_false, wantV_bool, wantV_unit, unitV, cond_true, cond_false, Bool.not_true, Bool.not_false, List.toList_toArray]) | omega) only [c29, Try.f29, Option.getD_some, sub_seq1, sub_seq0, sub_nil, exec_region, runOps_cons, opF_fieldAddr, ev_tmp, g4, evG_some, putT_some, opF_load, T.get_set, if_true, opF_move, Nat.reduceEqDiff, if_false, R.ok_bind, fa81_2, hcut, runOps_no, opF_pick, pickF, ev_bool, runOps_nil]
        with_reducible rfl
      apply hK
      · unfold rS; simp only [Sl_cons, Sl_nil, T.get_set, T.puts_cons, T.puts_nil, Nat.reduceEqDiff, Nat.reduceAdd, if_true, if_false, and_true, true_and, g0, g2, g3, g4, g5]
      · simp only [T.get_set, Nat.reduceEqDiff, if_true, if_false, Bool.true_or]
    | false =>
      apply W.run 20
      · intro M
        simp (config := { maxSteps := 4000000 }) (disch := first | decide +kernel | (rw [wantF_guard]; simp only [wantD_some, dstAt_zero, dstAt_succ, T.get_set, T.get_e, Nat.reduceEqDiff, if_true, if_false, wantV_bool, wantV_unit, unitV, cond_true, cond_false, Bool.not_true, Bool.not_false, List.toList_toArray]) | omega) only [c29, Try.f29, Option.getD_some, sub_seq1, sub_seq0, sub_nil, exec_region, runOps_cons, opF_fieldAddr, ev_tmp, g4, evG_some, putT_some, opF_load, T.get_set, if_true, opF_move, Nat.reduceEqDiff, if_false, R.ok_bind, fa81_2, hcut, runOps_yes, g5, opF_pick, pickF, ev_bool, runOps_nil]
        with_reducible rfl
      apply hK
      · unfold rS; simp only [Sl_cons, Sl_nil, T.get_set, T.puts_cons, T.puts_nil, Nat.reduceEqDiff, Nat.reduceAdd, if_true, if_false, and_true, true_and, g0, g2, g3, g4, g5]
      · simp only [T.get_set, Nat.reduceEqDiff, if_true, if_false, Bool.false_or]
  refine first ?_
  rintro t1 ⟨f0, f2, f3, f4, f5, -⟩ f76
  show W tb1 _ _ _
  cases hc : (cut || ar) with
  | false =>
    rw [hc] at f76 hK
    have e : stopD false rem = ([], [], rem) := rfl
    rw [e] at hK
    refine W.cond (p := false) (by simp only [ev_tmp, f76, evG_some]) (fun h => by cases h) (fun _ => ?_)
    apply W.run 20
    · intro M
      simp (config := { maxSteps := 4000000 }) (disch := first | decide +kernel | omega) only [exec_skip]
      with_reducible rfl
    refine hK _ _ _ _ hM (.inl ⟨rfl, rfl⟩) (OpsP.nil _ _) ?_
    unfold rS; simp only [Sl_cons, Sl_nil, T.get_set, T.puts_cons, T.puts_nil, Nat.reduceEqDiff, Nat.reduceAdd, if_true, if_false, and_true, true_and, f0, f2, f3, f4, f5]
  | true =>
    rw [hc] at f76 hK
    have e : stopD true rem = (numbersD rem.tail (nx rem % 6), opensL (rem.tail.drop (nx rem % 6)) (nx rem / 6 % 4), opensRest (rem.tail.drop (nx rem % 6)) (nx rem / 6 % 4)) := rfl
    rw [e] at hK
    refine W.cond (p := true) (by simp only [ev_tmp, f76, evG_some]) (fun _ => ?_) (fun h => by cases h)
    obtain ⟨C1, ⟨g, hg⟩, hr1, hk1⟩ := run_one hM.hr hl
    have hM1 := hM.step hr1 hk1
    obtain ⟨xs, C2, ⟨g2', hg2⟩, hr2, hk2, bb, hbb, hx⟩ := run_rnums hM1.hr hl (nx rem % 6) (by omega)
    have hM2 := hM1.step hr2 hk2
    have hb1 := hM1.hb4
    have hsR : StR (fun c => b4 < c) C2 (numbersD rem.tail (nx rem % 6)) xs := StR.of hx (by omega)
    obtain ⟨C3, hst3, hM3, hn3, hf3⟩ := hM2.put (t := 36) (o := 7) size36 (by simp [cellsD]) hsR.cells.1 hsR.cells.2
    have hsR3 : StR (fun c => b4 < c) C3 (numbersD rem.tail (nx rem % 6)) xs := hsR.same (by omega) (fun y hy _ => ⟨hy, hf3 y (by omega)⟩)
    have hb3 := hM3.hb4
    have hib := hM3.hib
    apply W.seq
    apply W.runG (g) 20
    · intro M hM
      simp (config := { maxSteps := 4000000 }) (disch := first | decide +kernel | omega) only [c29, Try.f29, Option.getD_some, sub_seq1, sub_seq0, sub_cond0, sub_nil, exec_region, runOps_cons, opF_move, ev_tmp, f0, evG_some, putT_some, opF_call, evs, T.get_set, if_true, R.ok_bind, resK, opF_assign, Nat.reduceEqDiff, if_false, runOps_nil, hg]
      with_reducible rfl
    apply W.seq
    apply W.runG (g2') 20
    · intro M hM
      simp (config := { maxSteps := 4000000 }) (disch := first | decide +kernel | omega) only [c29, Try.f29, Option.getD_some, sub_seq1, sub_seq0, sub_cond0, sub_nil, exec_region, runOps_cons, opF_move, ev_tmp, T.get_set, Nat.reduceEqDiff, f0, if_false, evG_some, putT_some, if_true, opF_ari, ev_int, opF_call, evs, R.ok_bind, resK, opF_fieldAddr, f4, opF_store, putT_none, runOps_nil, fa81_3, binF_int, op_rem, hg2, hst3]
      with_reducible rfl
    apply W.seq
    apply W.run 20
    · intro M
      simp (config := { maxSteps := 4000000 }) (disch := first | decide +kernel | omega) only [c29, Try.f29, Option.getD_some, sub_seq1, sub_seq0, sub_cond0, sub_nil, exec_region, runOps_cons, opF_assign, ev_int, putT_some, runOps_nil, R.ok_bind]
      with_reducible rfl
    refine ract_opens (m := nx rem) (k := k) (ar := ar) hlt hl hM3 ?_ ?_
    · unfold rS; simp only [Sl_cons, Sl_nil, T.get_set, T.puts_cons, T.puts_nil, Nat.reduceEqDiff, Nat.reduceAdd, if_true, if_false, and_true, true_and, List.cons_append, List.nil_append, f0, f2, f3, f4, f5]
    intro t4 C4 xo hM4 hoR hn4 hf4 hp4
    refine hK _ _ xs xo hM4 (hsR3.same hn4 (fun c hc hcl => ⟨hc, hf4 c hcl (by omega) (by omega)⟩)) (hoR.same (Nat.le_refl _) (fun c hc _ => ⟨by omega, rfl⟩)) hp4
end
end Go.Proofs.Ytmhldlnlgjpkaaa.scr

/-
  Script: the document's act, as a call.
-/
namespace Go.Proofs.Ytmhldlnlgjpkaaa.scr
open Go.Am
variable {q : Nat}
set_option linter.unusedSimpArgs false
set_option linter.unusedVariables false
set_option linter.unusedVariables false
set_option maxRecDepth 20000

theorem armD_pos (k : Nat) (r : List UInt8) : decide (0 < (armD k r).1) = decide (k / 20 % 2 = 1) := by
  unfold armD
  by_cases h : k / 20 % 2 = 1
  · rw [if_pos h]; simp only [h, decide_true, decide_eq_true_eq]; omega
  · rw [if_neg h]; simp [h]
theorem stopD_lens (c : Bool) (r : List UInt8) : (stopD c r).1.length ≤ 1000 ∧ (stopD c r).2.1.length ≤ 1000 := by
  cases c with
  | false => exact ⟨Nat.zero_le _, Nat.zero_le _⟩
  | true =>
    have e : stopD true r = (numbersD r.tail (nx r % 6), opensL (r.tail.drop (nx r % 6)) (nx r / 6 % 4), opensRest (r.tail.drop (nx r % 6)) (nx r / 6 % 4)) := rfl
    rw [e]
    simp only [numbersD_len, opensL_len]
    omega
set_option maxHeartbeats 8000000 in
theorem run_ract {A : Mem} {ib : Nat} {b rem : List UInt8} {x : Value} (h : Ri q A ib b x rem) (hl : b.length ≤ 1000000) :
    ∃ l A', Ans tb1 29 [.pointer (some ⟨ib, 0, none⟩)] A (.agg ⟨l⟩) A' ∧ ActP (fun c => A.next ≤ c) A' (actD rem).1.toG l ∧ Ri q A' ib b x (actD rem).2 ∧ Kp ib A A' := by
  obtain ⟨v, A', ha, l, hv, ho, hr, hk⟩ : ∃ v A', Ans tb1 29 [.pointer (some ⟨ib, 0, none⟩)] A v A' ∧ ∃ l, v = .agg ⟨l⟩ ∧ ActP (fun c => A.next ≤ c) A' (actD rem).1.toG l ∧ Ri q A' ib b x (actD rem).2 ∧ Kp ib A A' := by
    refine ans_of_W (fn_at Try.func29) c29_eq (by rw [Try.ntmps29]; simp) (by kernel_rfl) (by kernel_rfl) ?_
    have hq := h.lt
    have hlt := nx_lt rem
    apply W.seq
    apply W.run 20
    · intro M
      simp (config := { maxSteps := 4000000 }) (disch := first | decide +kernel | omega) only [c29, Try.f29, Option.getD_some, sub_seq0, sub_nil, T.puts_cons, Nat.reduceAdd, T.puts_nil, exec_region, runOps_cons, opF_alloc, zero81, at_ptr, putT_some, runOps_nil, R.ok_bind, cells_agg]
      with_reducible rfl
    have v0 : Vals (A.alloc (rowOb 81 zero9)) 81 A.next (.var 9) zero9 := Go.Am.vals_new A 81 zero9
    obtain ⟨B, ⟨g1, hg1⟩, hR1, hK1⟩ := run_one (h.alloc (rowOb 81 zero9)) hl
    have n0 : (A.alloc (rowOb 81 zero9)).next = A.next + 1 := next_alloc _ _
    have n1 := hK1.1
    apply W.seq
    show W tb1 _ ⟨_, _, _, A.alloc (rowOb 81 zero9), _⟩ _
    apply W.runG (g1) 20
    · intro M hM
      simp (config := { maxSteps := 4000000 }) (disch := first | decide +kernel | omega) only [c29, Try.f29, Option.getD_some, sub_seq1, sub_seq0, sub_nil, exec_region, runOps_cons, opF_move, ev_tmp, T.get_set, Nat.reduceEqDiff, T.get_e, if_true, if_false, evG_some, putT_some, opF_call, evs, R.ok_bind, resK, opF_assign, runOps_nil, hg1]
      with_reducible rfl
    have v1 : Vals (B.alloc (rowOb 81 zero9)) 81 B.next (.var 9) zero9 := Go.Am.vals_new B 81 zero9
    have n2 : (B.alloc (rowOb 81 zero9)).next = B.next + 1 := next_alloc _ _
    obtain ⟨C, hst1, v2, hnC, hfC⟩ := store_all (tb := tb1) (t := 81) (l' := cellsD 0 [] 0 0 0 0 (decide (nx rem / 10 % 2 = 1)) (.slice none 0 0) (.slice none 0 0)) (by rw [size81]; rfl) v1 rfl (by simp [zero9]) (fun v hv => by
      simp only [cellsD, List.mem_cons, List.not_mem_nil, or_false] at hv
      rcases hv with rfl | rfl | rfl | rfl | rfl | rfl | rfl | rfl | rfl <;> rfl)
    have eBC : Ext B C := (Ext.alloc B (rowOb 81 zero9)).put (b := B.next) (Nat.le_refl _) hnC hfC
    have hM1 : RA q A ib b x B.next (cellsD 0 [] 0 0 0 0 (decide (nx rem / 10 % 2 = 1)) (.slice none 0 0) (.slice none 0 0)) rem.tail C := by
      refine ⟨(v0.same (hK1.2 _ (by omega) (by omega))).same (eBC.g _ (by omega)), v2, hR1.keep eBC.n (fun y hy _ => eBC.g y hy), ⟨by omega, fun y hy hyb => by rw [eBC.g y (by omega), hK1.2 y (by omega) hyb, get_alloc_ne (by omega)]⟩, by omega, hq⟩
    obtain ⟨D, hst2, hM2, -, -⟩ := hM1.put (t := 3) (o := 0) (v := .int .i64 ((nx rem % 10 : Nat) : Int)) size3 (by simp [cellsD]) rfl rfl
    have hzz : ∀ M : Mem, M.alloc (rowOb 81 zero9) = M.alloc (rowOb 81 [.int .i64 0, .string ⟨#[]⟩, .int .u32 0, .int .i64 0, .int .i64 0, .int .i64 0, .bool false, .slice none 0 0, .slice none 0 0]) := fun _ => rfl
    rw [hzz B] at hst1
    have hst1' : storeF tb1 (B.alloc (rowOb 81 [.int .i64 0, .string ⟨#[]⟩, .int .u32 0, .int .i64 0, .int .i64 0, .int .i64 0, .bool false, .slice none 0 0, .slice none 0 0])) 81 (.pointer (some ⟨B.next, 0, none⟩)) (.agg ⟨[.int .i64 0, .string ⟨#[]⟩, .int .u32 0, .int .i64 0, .int .i64 0, .int .i64 0, .bool (decide (nx rem / 10 % 2 = 1)), .slice none 0 0, .slice none 0 0]⟩) = .ok C := hst1
    apply W.seq
    apply W.run 20
    · intro M
      simp (config := { maxSteps := 4000000 }) (disch := first | decide +kernel | omega) only [c29, Try.f29, Option.getD_some, sub_seq1, sub_seq0, sub_nil, exec_region, runOps_cons, opF_move, ev_tmp, T.get_set, Nat.reduceEqDiff, T.get_e, if_false, if_true, evG_some, putT_some, opF_ari, ev_int, opF_eql, opF_build, evp, R.ok_bind, opF_alloc, zero81, at_ptr, opF_store, putT_none, runOps_nil, cells_agg, binF_int, op_quo_i64, op_rem, op_eql, bf81, hst1']
      with_reducible rfl
    apply W.seq
    apply W.run 20
    · intro M
      simp (config := { maxSteps := 4000000 }) (disch := first | decide +kernel | omega) only [c29, Try.f29, Option.getD_some, sub_seq1, sub_seq0, sub_nil, exec_region, runOps_cons, opF_move, ev_tmp, T.get_set, Nat.reduceEqDiff, T.get_e, if_false, if_true, evG_some, putT_some, opF_ari, ev_int, opF_fieldAddr, opF_store, putT_none, runOps_nil, R.ok_bind, fa81_0, fa35_0, binF_int, op_rem, hst2]
      with_reducible rfl
    apply W.seq
    apply W.run 20
    · intro M
      simp (config := { maxSteps := 4000000 }) (disch := first | decide +kernel | omega) only [c29, Try.f29, Option.getD_some, sub_seq1, sub_seq0, sub_nil, exec_region, runOps_cons, opF_move, ev_tmp, T.get_set, Nat.reduceEqDiff, T.get_e, if_false, if_true, evG_some, putT_some, opF_ari, ev_int, opF_eql, opF_assign, runOps_nil, R.ok_bind, binF_int, op_quo_i64, op_rem, op_eql]
      with_reducible rfl
    apply W.seq
    refine ract_arm (kind := nx rem % 10) (cut := cutD (nx rem)) hl hM2 (k := nx rem) ?_ ?_
    · unfold rS; simp only [Sl_cons, Sl_nil, T.get_set, T.puts_cons, T.puts_nil, Nat.reduceEqDiff, Nat.reduceAdd, if_true, if_false, and_true, true_and]
    intro t4 C4 hM4 hp4
    have hp4' := hp4
    obtain ⟨p0, p2, p3, p4, p5, -⟩ := hp4'
    show W tb1 _ _ _
    obtain ⟨C5, ⟨g5, hg5⟩, hr5, hk5⟩ := run_rword hM4.hr hl
    have hM5 := hM4.step hr5 hk5
    obtain ⟨C6, hst6, hM6, -, -⟩ := hM5.put (t := 9) (o := 1) (v := strOf (wordD (armD (nx rem) rem.tail).2).1) size9 (by simp [cellsD]) rfl rfl
    apply W.seq
    apply W.runG (g5) 20
    · intro M hM
      simp (config := { maxSteps := 4000000 }) (disch := first | decide +kernel | omega) only [c29, Try.f29, Option.getD_some, sub_seq1, sub_seq0, sub_nil, exec_region, runOps_cons, opF_move, ev_tmp, p0, evG_some, putT_some, opF_call, evs, T.get_set, if_true, R.ok_bind, resK, opF_fieldAddr, Nat.reduceEqDiff, p4, if_false, opF_store, putT_none, runOps_nil, fa81_0, fa35_1, hg5, hst6]
      with_reducible rfl
    apply W.seq
    refine ract_weight (kind := nx rem % 10) (word := (wordD (armD (nx rem) rem.tail).2).1) (arm := (armD (nx rem) rem.tail).1) (cut := cutD (nx rem)) (k := nx rem) hl hM6 (ar := decide (nx rem / 20 % 2 = 1)) ?_ ?_
    · unfold rS; simp only [Sl_cons, Sl_nil, T.get_set, T.puts_cons, T.puts_nil, Nat.reduceEqDiff, Nat.reduceAdd, if_true, if_false, and_true, true_and, p0, p2, p3, p4, p5]
    intro t7 C7 hM7 hp7
    show W tb1 _ _ _
    apply W.seq
    refine ract_ask (k := nx rem) hl hM7 hp7 ?_
    intro t8 C8 hM8 hp8
    show W tb1 _ _ _
    apply W.seq
    refine ract_stop (k := nx rem) hl hM8 hp8 ?_
    rintro t9 C9 xs xo hM9 hsR hoR ⟨q0, q2, q3, q4, q5, -⟩
    show W tb1 _ _ _
    rw [← armD_pos (nx rem) rem.tail] at hM9 hsR hoR
    obtain ⟨d81, hd1, hd2⟩ := und81
    have hl8 := Go.Am.load_all hd1 hd2 (by rw [size81]; rfl) hM9.h2
    have hb9 := hM9.hb4
    have hlens := stopD_lens (cutD (nx rem) || decide (0 < (armD (nx rem) rem.tail).1)) (moreD (nx rem % 10) (wordD (armD (nx rem) rem.tail).2).2).2.2.2
    have hact : ActP (fun c => B.next < c) C9 (actD rem).1.toG (cellsD (nx rem % 10) (wordD (armD (nx rem) rem.tail).2).1 (moreD (nx rem % 10) (wordD (armD (nx rem) rem.tail).2).2).1 (moreD (nx rem % 10) (wordD (armD (nx rem) rem.tail).2).2).2.1 (moreD (nx rem % 10) (wordD (armD (nx rem) rem.tail).2).2).2.2.1 (armD (nx rem) rem.tail).1 (cutD (nx rem)) xs xo) := ⟨xs, xo, rfl, hsR, hlens.1, hoR⟩
    have hcell := ActP.cells _ _ _ _ hact
    obtain ⟨C10, hst9, hv9, hn9, hf9⟩ := store_all (tb := tb1) (t := 81) (by rw [size81]; rfl) hM9.h1 hcell.1 (by simp [zero9]) hcell.2
    apply W.seq
    apply W.run 20
    · intro M
      simp (config := { maxSteps := 4000000 }) (disch := first | decide +kernel | omega) only [c29, Try.f29, Option.getD_some, sub_seq1, sub_seq0, sub_nil, exec_region, runOps_cons, opF_load, ev_tmp, q4, evG_some, putT_some, opF_store, T.get_set, Nat.reduceEqDiff, q2, if_false, if_true, putT_none, runOps_nil, R.ok_bind, hl8, hst9]
      with_reducible rfl
    apply W.run 20
    · intro M
      simp (config := { maxSteps := 4000000 }) (disch := first | decide +kernel | omega) only [c29, Try.f29, Option.getD_some, sub_seq1, sub_nil, exec_ret]
      with_reducible rfl
    refine ⟨.inr rfl, C10, [.agg ⟨cellsD (nx rem % 10) (wordD (armD (nx rem) rem.tail).2).1 (moreD (nx rem % 10) (wordD (armD (nx rem) rem.tail).2).2).1 (moreD (nx rem % 10) (wordD (armD (nx rem) rem.tail).2).2).2.1 (moreD (nx rem % 10) (wordD (armD (nx rem) rem.tail).2).2).2.2.1 (armD (nx rem) rem.tail).1 (cutD (nx rem)) xs xo⟩], rfl, ?_, _, rfl, ActP.mono _ _ _ _ _ _ hact (by omega) (fun c hc hcl => ⟨by omega, hf9 c (by omega)⟩), ?_, ⟨by have := hM9.hk.1; omega, fun y hy hyb => by rw [hf9 y (by omega), hM9.hk.2 y hy hyb]⟩⟩
    · have hl9 := Go.Am.load_all hd1 hd2 (by rw [size81, hcell.1]) hv9
      simp only [Try.f29, resF, ev_tmp, T.get_set, Nat.reduceEqDiff, if_true, if_false, evG_some, R.ok_bind, q2, hl9]
    · exact hM9.hr.keep (by omega) (fun y _ hy => hf9 y (by rcases hy with rfl | rfl <;> omega))
  subst hv
  exact ⟨l, A', ha, ho, hr, hk⟩
end Go.Proofs.Ytmhldlnlgjpkaaa.scr

/-
  Script: the document's setting.
-/
namespace Go.Proofs.Ytmhldlnlgjpkaaa.scr
open Go.Am
variable {q : Nat}
set_option linter.unusedSimpArgs false
set_option linter.unusedVariables false
set_option linter.unusedVariables false
set_option maxRecDepth 20000

theorem bf78 (p : Option Addr) (n c : Nat) : buildF tb1 78 [(0, .slice p n c)] = .ok (.agg ⟨[.slice p n c, .int .i64 0]⟩) := by kernel_rfl
theorem RdS.build {A : Mem} {l : List UInt8} {x : Value} (h : RdS q A l x) : buildF tb1 78 [(0, x)] = .ok (.agg ⟨[x, .int .i64 0]⟩) := by
  rcases h with ⟨_, ⟨rfl, -⟩ | ⟨off, cp, rfl, -⟩⟩ <;> exact bf78 _ _ _
def zero4 : List Value := [.int .i64 0, .int .i64 0, .int .i64 0, .slice none 0 0]
/-- Memory while a setting is read. -/
structure RP (q : Nat) (A : Mem) (b : List UInt8) (x : Value) (l : List Value) (rem : List UInt8) (C : Mem) : Prop where
  h1 : Vals C 48 A.next (.var 4) zero4
  h2 : Vals C 48 (A.next + 1 + 1) (.var 4) l
  hr : Ri q C (A.next + 1) b x rem
  hn : A.next + 3 ≤ C.next
  h0 : q < A.next
  hf : ∀ y, y < A.next → C.get y = A.get y
section
variable {A : Mem} {b : List UInt8} {x : Value} {l : List Value} {rem rem' : List UInt8} {C C' : Mem}
theorem RP.step (h : RP q A b x l rem C) (hr : Ri q C' (A.next + 1) b x rem') (hk : Kp (A.next + 1) C C') : RP q A b x l rem' C' := by
  have hn := h.hn
  have hn' := hk.1
  exact ⟨h.h1.same (hk.2 _ (by omega) (by omega)), h.h2.same (hk.2 _ (by omega) (by omega)), hr, by omega, h.h0, fun y hy => by rw [hk.2 y (by omega) (by omega), h.hf y hy]⟩
theorem RP.put (h : RP q A b x l rem C) {t : TypeId} {o : Nat} {v : Value} (hs : sizeF tb1 t = .ok 1) (ho : o < l.length) (hv : v.cells.toList = [v]) (h1c : oneCell v = true) :
    ∃ C', storeF tb1 C t (.pointer (some ⟨A.next + 1 + 1, o, none⟩)) v = .ok C' ∧ RP q A b x (l.set o v) rem C' ∧ C'.next = C.next ∧ ∀ y, y ≠ A.next + 1 + 1 → C'.get y = C.get y := by
  obtain ⟨C', e1, e2, e3, e4⟩ := store_vals (tb := tb1) (t := t) hs h.h2 ho hv h1c
  have hn := h.hn
  have h0 := h.h0
  refine ⟨C', e1, ⟨h.h1.same (e4 _ (by omega)), e2, h.hr.keep (by omega) (fun y _ hy => e4 y (by rcases hy with rfl | rfl <;> omega)), by omega, h0, fun y hy => by rw [e4 y (by omega), h.hf y hy]⟩, e3, e4⟩
theorem RP.keep (h : RP q A b x l rem C) (hn : C.next ≤ C'.next) (hg : ∀ y, y < A.next + 3 → C'.get y = C.get y) : RP q A b x l rem C' := by
  have hn0 := h.hn
  have h0 := h.h0
  exact ⟨h.h1.same (hg _ (by omega)), h.h2.same (hg _ (by omega)), h.hr.keep hn (fun y hy hyy => hg y (by rcases hyy with rfl | rfl <;> omega)), by omega, h0, fun y hy => by rw [hg y (by omega), h.hf y hy]⟩
theorem Ri.pos {ib : Nat} (h : Ri q C ib b x rem) : ∃ at_, loadF tb1 C.get 3 (.pointer (some ⟨ib, 1, none⟩)) = .ok (.int .i64 ((at_ : Nat) : Int)) ∧ at_ + rem.length = b.length ∧ builtinPF tb1 .len [22] [x] = .ok (.int .i64 ((b.length : Nat) : Int)) := by
  obtain ⟨a, h1, h2, h3, h4, -⟩ := h
  refine ⟨a, load_vals und3 rfl h1 rfl, ?_, h2.len und22⟩
  rw [h4, List.length_drop]; omega

noncomputable def c13 : Code := Try.f13.body.getD .skip
noncomputable def c13b1 : Code := sub c13 [1,1,1,1,1,1,1,0,0,0]
theorem c13_eq : Try.f13.body = some (.seq (sub c13 [0]) (.seq (sub c13 [1,0]) (.seq (sub c13 [1,1,0]) (.seq (sub c13 [1,1,1,0]) (.seq (sub c13 [1,1,1,1,0]) (.seq (sub c13 [1,1,1,1,1,0]) (.seq (sub c13 [1,1,1,1,1,1,0]) (.seq (.block 0 (.loop c13b1)) (.seq (sub c13 [1,1,1,1,1,1,1,1,0]) (sub c13 [1,1,1,1,1,1,1,1,1])))))))))) := by kernel_rfl
theorem c13b1_eq : c13b1 = .seq (.seq (sub c13b1 [0,0]) (.cond (.tmp 42) .skip (.exit 0))) (.block 1 (sub c13b1 [1,0])) := by kernel_rfl
def rpS (A : Mem) (x : Value) : List (Nat × Value) := [(0, x), (2, .pointer (some ⟨A.next, 0, none⟩)), (4, .pointer (some ⟨A.next + 1, 0, none⟩)), (5, .pointer (some ⟨A.next + 1 + 1, 0, none⟩))]
set_option maxHeartbeats 8000000 in
theorem rparse_head {x : Value} (h : RdS q A b x) (hl : b.length ≤ 1000000) {K : Ex → St → Prop}
    (hK : ∀ t C, RP q A b x (headC (1 + nx b) (2 + nx b.tail % 8) (nx b.tail.tail + 256 * nx b.tail.tail.tail) (.slice none 0 0)) b.tail.tail.tail.tail C → Sl t (rpS A x) →
      W tb1 (.seq (.block 0 (.loop c13b1)) (.seq (sub c13 [1,1,1,1,1,1,1,1,0]) (sub c13 [1,1,1,1,1,1,1,1,1]))) ⟨t, 55, [], C, none⟩ K) :
    W tb1 (.seq (sub c13 [0]) (.seq (sub c13 [1,0]) (.seq (sub c13 [1,1,0]) (.seq (sub c13 [1,1,1,0]) (.seq (sub c13 [1,1,1,1,0]) (.seq (sub c13 [1,1,1,1,1,0]) (.seq (sub c13 [1,1,1,1,1,1,0]) (.seq (.block 0 (.loop c13b1)) (.seq (sub c13 [1,1,1,1,1,1,1,1,0]) (sub c13 [1,1,1,1,1,1,1,1,1])))))))))) ⟨T.puts .e 0 [x], 55, [], A, none⟩ K := by
  have h0 : q < A.next := h.1
  have b0 := nx_lt b
  have b1 := nx_lt b.tail
  have b2 := nx_lt b.tail.tail
  have b3 := nx_lt b.tail.tail.tail
  have hbf := h.build
  apply W.seq
  apply W.run 20
  · intro M
    simp (config := { maxSteps := 4000000 }) (disch := first | decide +kernel | omega) only [c13, Try.f13, Option.getD_some, sub_seq0, sub_nil, T.puts_cons, Nat.reduceAdd, T.puts_nil, exec_region, runOps_cons, opF_alloc, zero48, at_ptr, putT_some, opF_assign, ev_int, runOps_nil, R.ok_bind, cells_agg]
    with_reducible rfl
  apply W.seq
  apply W.run 20
  · intro M
    simp (config := { maxSteps := 4000000 }) (disch := first | decide +kernel | omega) only [c13, Try.f13, Option.getD_some, sub_seq1, sub_seq0, sub_nil, exec_region, runOps_cons, opF_move, ev_tmp, T.get_set, Nat.reduceEqDiff, T.get_e, if_true, if_false, evG_some, putT_some, opF_build, evp, R.ok_bind, opF_box, next_alloc, at_ptr, opF_assign, runOps_nil, hbf, cells_agg]
    with_reducible rfl
  apply W.seq
  apply W.run 20
  · intro M
    simp (config := { maxSteps := 4000000 }) (disch := first | decide +kernel | omega) only [c13, Try.f13, Option.getD_some, sub_seq1, sub_seq0, sub_nil, exec_region, runOps_cons, opF_alloc, zero48, next_alloc, at_ptr, putT_some, runOps_nil, R.ok_bind, cells_agg]
    with_reducible rfl
  have hM : RP q A b x zero4 b (((A.alloc (rowOb 48 zero4)).alloc (rowOb 78 [x, .int .i64 0])).alloc (rowOb 48 zero4)) := by
    refine ⟨?_, Go.Am.vals_new ((A.alloc (rowOb 48 zero4)).alloc (rowOb 78 [x, .int .i64 0])) 48 zero4, ⟨0, ?_, ?_, Nat.zero_le _, rfl, by simp only [next_alloc]; omega, by omega⟩, by simp only [next_alloc]; omega, h0, fun y hy => ?_⟩
    · exact ((Go.Am.vals_new A 48 zero4).same (get_alloc_ne (by simp only [next_alloc]; omega))).same (get_alloc_ne (by simp only [next_alloc]; omega))
    · exact (Go.Am.vals_new (A.alloc (rowOb 48 zero4)) 78 [x, .int .i64 0]).same (get_alloc_ne (by simp only [next_alloc]; omega))
    · exact h.same (by simp only [next_alloc]; omega) (fun h0 => by rw [get_alloc_ne (by simp only [next_alloc]; omega), get_alloc_ne (by simp only [next_alloc]; omega), get_alloc_ne (by omega)])
    · rw [get_alloc_ne (by simp only [next_alloc]; omega), get_alloc_ne (by simp only [next_alloc]; omega), get_alloc_ne (by omega)]
  revert hM
  show RP q A b x zero4 b (((A.alloc (rowOb 48 [.int .i64 0, .int .i64 0, .int .i64 0, .slice none 0 0])).alloc (rowOb 78 [x, .int .i64 0])).alloc (rowOb 48 [.int .i64 0, .int .i64 0, .int .i64 0, .slice none 0 0])) → _
  generalize ((A.alloc (rowOb 48 [.int .i64 0, .int .i64 0, .int .i64 0, .slice none 0 0])).alloc (rowOb 78 [x, .int .i64 0])).alloc (rowOb 48 [.int .i64 0, .int .i64 0, .int .i64 0, .slice none 0 0]) = B
  intro hM
  obtain ⟨D1, ⟨g1, hg1⟩, hr1, hk1⟩ := run_one hM.hr hl
  obtain ⟨E1, hst1, hM1, -, -⟩ := (hM.step hr1 hk1).put (t := 3) (o := 0) (v := .int .i64 ((1 + nx b : Nat) : Int)) size3 (by simp [zero4]) rfl rfl
  apply W.seq
  apply W.runG (g1) 20
  · intro M hM
    simp (config := { maxSteps := 4000000 }) (disch := first | decide +kernel | omega) only [c13, Try.f13, Option.getD_some, sub_seq1, sub_seq0, sub_nil, exec_region, runOps_cons, opF_move, ev_tmp, T.get_set, Nat.reduceEqDiff, T.get_e, if_false, if_true, evG_some, putT_some, opF_call, evs, R.ok_bind, resK, opF_ari, ev_int, opF_fieldAddr, opF_store, putT_none, runOps_nil, fa48_0, fa25_0, hg1, binF_int, op_add_i64, hst1]
    with_reducible rfl
  obtain ⟨D2, ⟨g2, hg2⟩, hr2, hk2⟩ := run_one hM1.hr hl
  obtain ⟨E2, hst2, hM2, -, -⟩ := (hM1.step hr2 hk2).put (t := 3) (o := 1) (v := .int .i64 ((2 + nx b.tail % 8 : Nat) : Int)) size3 (by simp [zero4]) rfl rfl
  apply W.seq
  apply W.runG (g2) 20
  · intro M hM
    simp (config := { maxSteps := 4000000 }) (disch := first | decide +kernel | omega) only [c13, Try.f13, Option.getD_some, sub_seq1, sub_seq0, sub_nil, exec_region, runOps_cons, opF_move, ev_tmp, T.get_set, Nat.reduceEqDiff, T.get_e, if_false, if_true, evG_some, putT_some, opF_call, evs, R.ok_bind, resK, opF_ari, ev_int, opF_fieldAddr, opF_store, putT_none, runOps_nil, fa48_0, fa25_1, hg2, binF_int, op_rem, op_add_i64, hst2]
    with_reducible rfl
  obtain ⟨D3, ⟨g3, hg3⟩, hr3, hk3⟩ := run_one hM2.hr hl
  obtain ⟨E3, hst3, hM3, -, -⟩ := (hM2.step hr3 hk3).put (t := 3) (o := 2) (v := .int .i64 ((nx b.tail.tail : Nat) : Int)) size3 (by simp [zero4]) rfl rfl
  apply W.seq
  apply W.runG (g3) 20
  · intro M hM
    simp (config := { maxSteps := 4000000 }) (disch := first | decide +kernel | omega) only [c13, Try.f13, Option.getD_some, sub_seq1, sub_seq0, sub_nil, exec_region, runOps_cons, opF_move, ev_tmp, T.get_set, Nat.reduceEqDiff, T.get_e, if_false, if_true, evG_some, putT_some, opF_call, evs, R.ok_bind, resK, opF_fieldAddr, opF_store, putT_none, runOps_nil, fa48_1, hg3, hst3]
    with_reducible rfl
  obtain ⟨D4, ⟨g4, hg4⟩, hr4, hk4⟩ := run_one hM3.hr hl
  have hM4' := hM3.step hr4 hk4
  have hq1 : loadF tb1 E3.get 3 (.pointer (some ⟨A.next + 1 + 1, 2, none⟩)) = .ok (.int .i64 ((nx b.tail.tail : Nat) : Int)) := load_vals und3 rfl hM3.h2 rfl
  have hq2 : loadF tb1 D4.get 3 (.pointer (some ⟨A.next + 1 + 1, 2, none⟩)) = .ok (.int .i64 ((nx b.tail.tail : Nat) : Int)) := load_vals und3 rfl hM4'.h2 rfl
  have hself : sameV 100 (.int .i64 ((nx b.tail.tail : Nat) : Int)) (.int .i64 ((nx b.tail.tail : Nat) : Int)) = true := sameV_int 99 .i64 _
  obtain ⟨E4, hst4, hM4, -, -⟩ := hM4'.put (t := 3) (o := 2) (v := .int .i64 ((nx b.tail.tail + 256 * nx b.tail.tail.tail : Nat) : Int)) size3 (by simp [zero4]) rfl rfl
  apply W.seq
  apply W.runG (g4) 20
  · intro M hM
    simp (config := { maxSteps := 4000000 }) (disch := first | decide +kernel | omega) only [c13, Try.f13, Option.getD_some, sub_seq1, sub_seq0, sub_nil, exec_float [(1, 3)], runD_P, Nat.reduceAdd, opF_fieldAddr, ev_tmp, T.get_set, Nat.reduceEqDiff, T.get_e, if_false, if_true, evG_some, putT_some, runD_Rd, rOp_load, R.ok_bind, selF_nil, rereadM_nil, opF_move, runD_L, List.map_nil, hide_nil, backF_nil, selR_yes, selR_nil, rereadR_cons, reread_load, rereadR_nil, Bool.and_true, opF_ari, ev_int, opF_call, evs, resK, selR_no, runD_end, cond_true, opF_store, putT_none, fa48_1, hg4, binF_int, op_mul_i64, hq1, hq2, rereadV_eq, hself, op_add_i64, hst4]
    with_reducible rfl
  refine hK _ _ hM4 ?_
  unfold rpS; simp only [Sl_cons, Sl_nil, T.get_set, T.puts_cons, T.puts_nil, Nat.reduceEqDiff, Nat.reduceAdd, if_true, if_false, and_true, true_and]
end
end Go.Proofs.Ytmhldlnlgjpkaaa.scr

/-
  Script: the document's setting, whole.
-/
namespace Go.Proofs.Ytmhldlnlgjpkaaa.scr
open Go.Am
variable {q : Nat}
set_option linter.unusedSimpArgs false
set_option linter.unusedVariables false
set_option linter.unusedVariables false
set_option maxRecDepth 20000

section
variable {A : Mem} {b : List UInt8} {x : Value} {l : List Value} {rem rem' : List UInt8} {C C' : Mem}
set_option maxHeartbeats 8000000 in
theorem rparse_acts {w f qu : Nat} {t : T Value} {K : Ex → St → Prop} (hl : b.length ≤ 1000000) (hM : RP q A b x (headC w f qu (.slice none 0 0)) rem C) (hp : Sl t (rpS A x))
    (hK : ∀ t' C' xa, RP q A b x (headC w f qu xa) (actsD 60 rem).2 C' → ActsP (fun c => A.next + 3 ≤ c) C' ((actsD 60 rem).1.map ActD.toG) xa → Sl t' (rpS A x) → K .nrm ⟨t', 55, [], C', none⟩) : W tb1 (.block 0 (.loop c13b1)) ⟨t, 55, [], C, none⟩ K := by
  apply W.block
  refine W.up 60 (fun i t C => ∃ xa bA r ds, RP q A b x (headC w f qu xa) r C ∧ Lst ActP 81 9 bA (fun c => A.next + 3 ≤ c) C (ds.map ActD.toG) xa ∧ (xa = .slice none 0 0 ∨ A.next + 3 ≤ bA) ∧ ds.length = i ∧
    (ds ++ (actsD (60 - i) r).1, (actsD (60 - i) r).2) = actsD 60 rem ∧ Sl t (rpS A x)) ?_ (Nat.zero_le _) ⟨.slice none 0 0, 0, rem, [], hM, Lst.nil, .inl rfl, rfl, rfl, hp⟩
  rintro i t C hi ⟨xa, bA, r, ds, hM, hx, hb, hds, htot, g0, g2, g4, g5, -⟩
  have hla : loadF tb1 C.get 46 (.pointer (some ⟨A.next + 1 + 1, 3, none⟩)) = .ok xa := load_vals und46 rfl hM.h2 rfl
  have hlen := hx.len und46
  rw [List.length_map, hds] at hlen
  obtain ⟨at_, hat, hatl, hbl⟩ := hM.hr.pos
  have hn := hM.hn
  have fin : ActsP (fun c => A.next + 3 ≤ c) C (ds.map ActD.toG) xa := ⟨bA, hb, by rw [List.length_map]; omega, hx⟩
  rw [c13b1_eq]
  apply W.seq
  apply W.seq
  by_cases hlt : i < 60
  · by_cases hr0 : r.length = 0
    · have e := actsD_nil (60 - i) hr0
      rw [e, List.append_nil] at htot
      have n0 : ¬ at_ < b.length := by omega
      apply W.run 20
      · intro M
        simp (config := { maxSteps := 4000000 }) (disch := first | decide +kernel | (rw [wantF_guard]; simp only [wantD_some, dstAt_zero, dstAt_succ, T.get_set, T.get_e, Nat.reduceEqDiff, if_true, if_false, wantV_bool, wantV_unit, unitV, cond_true, cond_false, Bool.not_true, Bool.not_false, List.toList_toArray]) | omega) only [c13b1, c13, Try.f13, Option.getD_some, sub_seq1, sub_seq0, sub_block, sub_loop, sub_nil, exec_region, runOps_cons, opF_fieldAddr, ev_tmp, g5, evG_some, putT_some, opF_load, T.get_set, if_true, opF_len, evs, Nat.reduceEqDiff, if_false, R.ok_bind, opF_ari, ev_int, opF_move, fa48_2, hla, hlen, binF_int, op_lssI, cast_lt, hlt, decide_true, runOps_yes, g4, opF_nilCheck, g0, opF_pick, pickF, ev_bool, runOps_nil, hbl, nil_ptr, fa78_1, hat, n0, decide_false]
        with_reducible rfl
      refine W.cond (p := false) (by simp only [ev_tmp, T.get_set, if_true, evG_some]) (fun h => by cases h) (fun _ => ?_)
      apply W.run 20
      · intro M
        simp (config := { maxSteps := 4000000 }) (disch := first | decide +kernel | omega) only [exec_exit]
        with_reducible rfl
      rw [← htot] at hK
      refine hK _ _ xa hM fin ?_
      unfold rpS; simp only [Sl_cons, Sl_nil, T.get_set, T.puts_cons, T.puts_nil, Nat.reduceEqDiff, Nat.reduceAdd, if_true, if_false, and_true, true_and, g0, g2, g4, g5]
    · have p0 : at_ < b.length := by omega
      obtain ⟨l, C1, ⟨g, hg⟩, hA1, hr1, hk1⟩ := run_ract hM.hr hl
      have hM1 := hM.step hr1 hk1
      have hla1 : loadF tb1 C1.get 46 (.pointer (some ⟨A.next + 1 + 1, 3, none⟩)) = .ok xa := load_vals und46 rfl hM1.h2 rfl
      have hself := hx.self 99
      have hbsl : buildSliceF tb1 46 1 [(0, .agg ⟨l⟩)] = .ok (rowOb 81 l, .slc 1 2) := by
        obtain ⟨xs, xo, e, _⟩ := hA1
        rw [e]; exact bs46 _ _ _ _ _ _ _ _ _
      have hn1 := hk1.1
      have hbl2 := hx.lt
      have hx1 : Lst ActP 81 9 bA (fun c => A.next + 3 ≤ c) C1 (ds.map ActD.toG) xa := hx.same ActP.mono hn1 (by
        rcases hb with h | h
        · exact .inl h
        · exact .inr (fun hlt => hk1.2 bA hlt (by omega))) (fun c hc hcl _ => ⟨hc, hk1.2 c hcl (by omega)⟩)
      have hA2 : ActP (fun c => A.next + 3 ≤ c ∧ (xa = .slice none 0 0 ∨ c ≠ bA)) C1 (actD r).1.toG l := ActP.mono _ _ _ _ _ _ hA1 (Nat.le_refl _) (fun c hc hcl => ⟨⟨by omega, by
        rcases hbl2 with h | h
        · exact .inl h
        · exact .inr (by omega)⟩, rfl⟩)
      obtain ⟨xa', C3, happ, hs3, hn3, hf3⟩ := hx1.push ActP.mono ActP.cells und46 zc81 ty81 (by omega) (by omega) (by rw [List.length_map]; omega) hA2
      have hM3 : RP q A b x (headC w f qu xa) (actD r).2 C3 := hM1.keep (by omega) (fun y hy => hf3 y (fun e => by rcases hb with he | hb2; exact he; omega) (by omega))
      obtain ⟨C4, hst4, hM4, hn4, hf4⟩ := hM3.put (t := 46) (o := 3) (v := xa') size46 (by simp [headC]) hs3.cells.1 hs3.cells.2
      apply W.run 20
      · intro M
        simp (config := { maxSteps := 4000000 }) (disch := first | decide +kernel | (rw [wantF_guard]; simp only [wantD_some, dstAt_zero, dstAt_succ, T.get_set, T.get_e, Nat.reduceEqDiff, if_true, if_false, wantV_bool, wantV_unit, unitV, cond_true, cond_false, Bool.not_true, Bool.not_false, List.toList_toArray]) | omega) only [c13b1, c13, Try.f13, Option.getD_some, sub_seq1, sub_seq0, sub_block, sub_loop, sub_nil, exec_region, runOps_cons, opF_fieldAddr, ev_tmp, g5, evG_some, putT_some, opF_load, T.get_set, if_true, opF_len, evs, Nat.reduceEqDiff, if_false, R.ok_bind, opF_ari, ev_int, opF_move, fa48_2, hla, hlen, binF_int, op_lssI, cast_lt, hlt, decide_true, runOps_yes, g4, opF_nilCheck, g0, opF_pick, pickF, ev_bool, runOps_nil, hbl, nil_ptr, fa78_1, hat, p0]
        with_reducible rfl
      refine W.cond (p := true) (by simp only [ev_tmp, T.get_set, if_true, evG_some]) (fun _ => ?_) (fun h => by cases h)
      apply W.run 20
      · intro M
        simp (config := { maxSteps := 4000000 }) (disch := first | decide +kernel | omega) only [exec_skip]
        with_reducible rfl
      show W tb1 _ _ _
      apply W.block
      apply W.runG (g) 20
      · intro M hM
        simp (config := { maxSteps := 4000000 }) (disch := first | decide +kernel | omega) only [c13b1, c13, Try.f13, Option.getD_some, sub_seq1, sub_seq0, sub_block, sub_loop, sub_nil, exec_float [(1, 3)], runD_P, Nat.reduceAdd, opF_fieldAddr, ev_tmp, T.get_set, Nat.reduceEqDiff, g5, if_false, evG_some, putT_some, runD_Rd, rOp_load, if_true, R.ok_bind, selF_nil, rereadM_nil, opF_move, g4, runD_L, List.map_nil, hide_nil, backF_nil, selR_yes, selR_nil, rereadR_cons, reread_load, rereadR_nil, Bool.and_true, runD_Al, opF_buildSlice, evp, opF_call, evs, resK, selF_no, selR_no, cond_true, opF_builtin, runD_end, opF_store, putT_none, fa48_2, builtin_append, hg, hbsl, at_slc, hla, hla1, rereadV_eq, hself, happ, hst4]
        with_reducible rfl
      refine ⟨hlt, _, _, rfl, xa', C1.next + 1, (actD r).2, ds ++ [(actD r).1], hM4, ?_, .inr (by omega), by rw [List.length_append, hds]; rfl, ?_, ?_⟩
      · rw [List.map_append]
        exact hs3.same ActP.mono (by omega) (.inr (fun _ => hf4 _ (by omega))) (fun c hc hcl _ => ⟨hc, hf4 c (by omega)⟩)
      · rw [← htot, show 60 - i = (60 - (i + 1)) + 1 by omega, actsD_step _ hr0]
        simp
      · unfold rpS; simp only [Sl_cons, Sl_nil, T.get_set, T.puts_cons, T.puts_nil, Nat.reduceEqDiff, Nat.reduceAdd, if_true, if_false, and_true, true_and, g0, g2, g4, g5]
  · have hi60 : i = 60 := by omega
    subst hi60
    have e : actsD (60 - 60) r = ([], r) := rfl
    rw [e, List.append_nil] at htot
    apply W.run 20
    · intro M
      simp (config := { maxSteps := 4000000 }) (disch := first | decide +kernel | (rw [wantF_guard]; simp only [wantD_some, dstAt_zero, dstAt_succ, T.get_set, T.get_e, Nat.reduceEqDiff, if_true, if_false, wantV_bool, wantV_unit, unitV, cond_true, cond_false, Bool.not_true, Bool.not_false, List.toList_toArray]) | omega) only [c13b1, c13, Try.f13, Option.getD_some, sub_seq1, sub_seq0, sub_block, sub_loop, sub_nil, exec_region, runOps_cons, opF_fieldAddr, ev_tmp, g5, evG_some, putT_some, opF_load, T.get_set, if_true, opF_len, evs, Nat.reduceEqDiff, if_false, R.ok_bind, opF_ari, ev_int, opF_move, fa48_2, hla, hlen, binF_int, op_lssI, cast_lt, Nat.lt_irrefl, decide_false, runOps_no, opF_pick, pickF, ev_bool, runOps_nil]
      with_reducible rfl
    refine W.cond (p := false) (by simp only [ev_tmp, T.get_set, if_true, evG_some]) (fun h => by cases h) (fun _ => ?_)
    apply W.run 20
    · intro M
      simp (config := { maxSteps := 4000000 }) (disch := first | decide +kernel | omega) only [exec_exit]
      with_reducible rfl
    rw [← htot] at hK
    refine hK _ _ xa hM fin ?_
    unfold rpS; simp only [Sl_cons, Sl_nil, T.get_set, T.puts_cons, T.puts_nil, Nat.reduceEqDiff, Nat.reduceAdd, if_true, if_false, and_true, true_and, g0, g2, g4, g5]
set_option maxHeartbeats 8000000 in
theorem run_rparse (h : RdS q A b x) (hl : b.length ≤ 1000000) : ∃ A' l, Ans tb1 13 [x] A (.tuple ⟨[.agg ⟨l⟩, .int .i64 ((b.length - (leftD b).length : Nat) : Int)]⟩) A' ∧ SetP (fun c => A.next ≤ c) A' (setD b) l ∧ Ext A A' := by
  obtain ⟨v, A', ha, l, hv, h1, h2⟩ : ∃ v A', Ans tb1 13 [x] A v A' ∧ ∃ l, v = .tuple ⟨[.agg ⟨l⟩, .int .i64 ((b.length - (leftD b).length : Nat) : Int)]⟩ ∧ SetP (fun c => A.next ≤ c) A' (setD b) l ∧ Ext A A' := by
    refine ans_of_W (fn_at Try.func13) c13_eq (by rw [Try.ntmps13]; simp) (by kernel_rfl) (by kernel_rfl) ?_
    refine rparse_head h hl ?_
    intro t C hM hp
    apply W.seq
    refine rparse_acts hl hM hp ?_
    rintro t2 D xa hM2 hA2 ⟨g0, g2, g4, g5, -⟩
    show W tb1 _ _ _
    obtain ⟨at_, hat, hatl, -⟩ := hM2.hr.pos
    obtain ⟨d48, hd1, hd2⟩ := und48
    have hl48 := Go.Am.load_all hd1 hd2 (by rw [size48]; rfl) hM2.h2
    have hset : SetP (fun c => A.next + 3 ≤ c) D (setD b) (headC (1 + nx b) (2 + nx b.tail % 8) (nx b.tail.tail + 256 * nx b.tail.tail.tail) xa) := ⟨xa, rfl, hA2⟩
    obtain ⟨E, hst, hv2, hn2, hf2⟩ := store_all (tb := tb1) (t := 48) (l' := headC (1 + nx b) (2 + nx b.tail % 8) (nx b.tail.tail + 256 * nx b.tail.tail.tail) xa) (by rw [size48]; rfl) hM2.h1 rfl (by simp [zero4]) hset.cells.2
    have hn := hM2.hn
    have hatE : loadF tb1 E.get 3 (.pointer (some ⟨A.next + 1, 1, none⟩)) = .ok (.int .i64 ((at_ : Nat) : Int)) := by
      obtain ⟨a, k1, -⟩ := hM2.hr
      have e1 : loadF tb1 D.get 3 (.pointer (some ⟨A.next + 1, 1, none⟩)) = .ok (.int .i64 ((a : Nat) : Int)) := load_vals und3 rfl k1 rfl
      rw [hat] at e1
      rw [load_vals und3 rfl (k1.same (hf2 _ (by omega))) rfl]
      exact e1.symm
    have hself : sameV 100 (.int .i64 ((at_ : Nat) : Int)) (.int .i64 ((at_ : Nat) : Int)) = true := sameV_int 99 .i64 _
    have hself2 := sameV_head (w := 1 + nx b) (f := 2 + nx b.tail % 8) (qu := nx b.tail.tail + 256 * nx b.tail.tail.tail) hA2.self
    apply W.seq
    apply W.run 20
    · intro M
      simp (config := { maxSteps := 4000000 }) (disch := first | decide +kernel | omega) only [c13, Try.f13, Option.getD_some, sub_seq1, sub_seq0, sub_nil, exec_float [(4, 5)], runD_Rd, rOp_load, ev_tmp, g5, evG_some, R.ok_bind, hl48, selF_nil, rereadM_nil, Nat.reduceAdd, putT_some, runD_P, opF_move, T.get_set, Nat.reduceEqDiff, g4, if_false, opF_nilCheck, if_true, opF_fieldAddr, runD_L, List.map_nil, hide_nil, backF_nil, selR_yes, selR_no, selR_nil, rereadR_cons, reread_load, rereadR_nil, Bool.and_true, opF_assign, opF_store, g2, putT_none, runD_end, cond_true, nil_ptr, fa78_1, hat, hst, hatE, rereadV_eq, hself]
      with_reducible rfl
    apply W.run 20
    · intro M
      simp (config := { maxSteps := 4000000 }) (disch := first | decide +kernel | omega) only [c13, Try.f13, Option.getD_some, sub_seq1, sub_nil, exec_ret]
      with_reducible rfl
    have hle : (leftD b).length ≤ b.length := leftD_len b
    have hlq : (actsD 60 b.tail.tail.tail.tail).2 = leftD b := rfl
    rw [hlq] at hatl
    refine ⟨.inr rfl, E, [.agg ⟨headC (1 + nx b) (2 + nx b.tail % 8) (nx b.tail.tail + 256 * nx b.tail.tail.tail) xa⟩, .int .i64 ((at_ : Nat) : Int)], rfl, ?_, _, ?_, hset.same (by omega) (fun c hc _ => ⟨by omega, hf2 c (by omega)⟩), ⟨by omega, fun y hy => by rw [hf2 y (by omega), hM2.hf y hy]⟩⟩
    · have hlE := Go.Am.load_all hd1 hd2 (by rw [size48]; rfl) hv2
      simp only [Try.f13, resF, ev_tmp, T.get_set, Nat.reduceEqDiff, if_true, if_false, evG_some, R.ok_bind, g2, hlE]
    · rw [show b.length - (leftD b).length = at_ by omega]; rfl
  subst hv
  exact ⟨A', l, ha, h1, h2⟩
end
end Go.Proofs.Ytmhldlnlgjpkaaa.scr

/-
  Script: the document's numbers: whether two rows are alike.
-/
namespace Go.Proofs.Ytmhldlnlgjpkaaa.scr
open Go.Am
set_option linter.unusedSimpArgs false
set_option linter.unusedVariables false
set_option linter.unusedVariables false
set_option maxRecDepth 20000

noncomputable def c32 : Code := Try.f32.body.getD .skip
noncomputable def c32b1 : Code := sub c32 [1,1,0,1,0,0]
theorem c32_eq : Try.f32.body = some (.seq (sub c32 [0]) (.seq (.seq (sub c32 [1,0,0]) (.cond (.tmp 10) (.seq (sub c32 [1,0,1,0,0]) .ret) .skip)) (.seq (.seq (sub c32 [1,1,0,0]) (.block 0 (.loop c32b1))) (.seq (sub c32 [1,1,1,0]) (sub c32 [1,1,1,1]))))) := by kernel_rfl
theorem c32b1_eq : c32b1 = .seq (sub c32b1 [0]) (.seq (.block 1 (.seq (sub c32b1 [1,0,0,0]) (.cond (.tmp 25) (.seq (sub c32b1 [1,0,0,1,0,0]) .ret) .skip))) (sub c32b1 [1,1])) := by kernel_rfl
set_option maxHeartbeats 4000000 in
theorem run_rnumeq {P P' : Nat → Prop} {A : Mem} {l m : List Nat} {x y : Value} (hbd : l.length ≤ 1000) (hx : StR P A l x) (hy : StR P' A m y) : Ans tb1 32 [x, y] A (.bool (decide (l = m))) A := by
  obtain ⟨v, A', ha, rfl, rfl⟩ : ∃ v A', Ans tb1 32 [x, y] A v A' ∧ v = .bool (decide (l = m)) ∧ A' = A := by
    refine ans_of_W (fn_at Try.func32) c32_eq (by rw [Try.ntmps32]; simp) (by kernel_rfl) (by kernel_rfl) ?_
    have lx := hx.len
    have ly := hy.len
    apply W.seq
    apply W.run 20
    · intro M
      simp (config := { maxSteps := 4000000 }) (disch := first | decide +kernel | omega) only [c32, Try.f32, Option.getD_some, sub_seq0, sub_nil, T.puts_cons, Nat.reduceAdd, T.puts_nil, exec_region, runOps_cons, opF_assign, ev_bool, putT_some, runOps_nil, R.ok_bind]
      with_reducible rfl
    apply W.seq
    apply W.seq
    by_cases hl : l.length = m.length
    · apply W.run 20
      · intro M
        simp (config := { maxSteps := 4000000 }) (disch := first | decide +kernel | omega) only [c32, Try.f32, Option.getD_some, sub_seq1, sub_seq0, sub_nil, exec_region, runOps_cons, opF_move, ev_tmp, T.get_set, Nat.reduceEqDiff, T.get_e, if_true, if_false, evG_some, putT_some, opF_len, evs, R.ok_bind, opF_neq, runOps_nil, ly, lx, hl, binF_int, op_neqI, ne_eq, not_true_eq_false, decide_false]
        with_reducible rfl
      refine W.cond (p := false) (by simp only [ev_tmp, T.get_set, if_true, evG_some]) (fun h => by cases h) (fun _ => ?_)
      apply W.run 20
      · intro M
        simp (config := { maxSteps := 4000000 }) (disch := first | decide +kernel | omega) only [exec_skip]
        with_reducible rfl
      show W tb1 _ _ _
      apply W.seq
      apply W.seq
      apply W.run 20
      · intro M
        simp (config := { maxSteps := 4000000 }) (disch := first | decide +kernel | omega) only [c32, Try.f32, Option.getD_some, sub_seq1, sub_seq0, sub_nil, exec_region, runOps_cons, opF_assign, ev_int, putT_some, runOps_nil, R.ok_bind]
        with_reducible rfl
      apply W.block
      refine W.up l.length (fun i t C => C = A ∧ l.take i = m.take i ∧ Sl t [(0, x), (1, y), (5, .int .i64 (i : Int))]) ?_ (Nat.zero_le _) ⟨rfl, by simp, ?_⟩
      · rintro i t C hi ⟨rfl, he, g0, g1, g5, -⟩
        rw [c32b1_eq]
        apply W.seq
        by_cases hlt : i < l.length
        · obtain ⟨p, hp, hpl⟩ := hx.at hlt
          obtain ⟨p', hp', hpl'⟩ := hy.at (show i < m.length by omega)
          have e1 : l.getD i 0 = l[i] := by simp [List.getD, List.getElem?_eq_getElem hlt]
          have e2 : m.getD i 0 = m[i] := by simp [List.getD, List.getElem?_eq_getElem (show i < m.length by omega)]
          rw [e1] at hpl
          rw [e2] at hpl'
          apply W.run 20
          · intro M
            simp (config := { maxSteps := 4000000 }) (disch := first | decide +kernel | omega) only [c32b1, c32, Try.f32, Option.getD_some, sub_seq1, sub_seq0, sub_block, sub_loop, sub_nil, exec_seq, exec_region, runOps_cons, opF_move, ev_tmp, g5, evG_some, putT_some, T.get_set, Nat.reduceEqDiff, g0, if_false, opF_len, evs, if_true, R.ok_bind, opF_ari, runOps_nil, lx, binF_int, op_lssI, cast_lt, hlt, decide_true, exec_cond, exec_skip, exec_exit]
            with_reducible rfl
          apply W.seq
          apply W.block
          apply W.seq
          by_cases hv : l[i] = m[i]
          · rw [hv] at hpl
            apply W.run 20
            · intro M
              simp (config := { maxSteps := 4000000 }) (disch := first | decide +kernel | omega) only [c32b1, c32, Try.f32, Option.getD_some, sub_seq1, sub_seq0, sub_block, sub_loop, sub_nil, exec_draw, runOps_cons, opF_move, ev_tmp, T.get_set, Nat.reduceEqDiff, g0, if_false, evG_some, putT_some, g5, opF_indexAddr, if_true, opF_load, g1, opF_neq, runOps_nil, R.ok_bind, hp', hpl', hp, hpl, binF_int, op_neq, ne_eq, not_true_eq_false, decide_false]
              with_reducible rfl
            refine W.cond (p := false) (by simp only [ev_tmp, T.get_set, if_true, evG_some]) (fun h => by cases h) (fun _ => ?_)
            apply W.run 20
            · intro M
              simp (config := { maxSteps := 4000000 }) (disch := first | decide +kernel | omega) only [exec_skip]
              with_reducible rfl
            show W tb1 _ _ _
            apply W.run 20
            · intro M
              simp (config := { maxSteps := 4000000 }) (disch := first | decide +kernel | omega) only [c32b1, c32, Try.f32, Option.getD_some, sub_seq1, sub_seq0, sub_block, sub_loop, sub_nil, exec_region, runOps_cons, opF_move, ev_tmp, T.get_set, Nat.reduceEqDiff, g5, if_false, evG_some, putT_some, opF_ari, if_true, ev_int, opF_assign, runOps_nil, R.ok_bind, binF_int, op_add_i64]
              with_reducible rfl
            refine ⟨hlt, _, _, rfl, rfl, ?_, ?_⟩
            · rw [List.take_succ_eq_append_getElem hlt, List.take_succ_eq_append_getElem (show i < m.length by omega), he, hv]
            · simp only [Sl_cons, Sl_nil, T.get_set, T.puts_cons, T.puts_nil, Nat.reduceEqDiff, Nat.reduceAdd, if_true, if_false, and_true, true_and, g0, g1]
          · apply W.run 20
            · intro M
              simp (config := { maxSteps := 4000000 }) (disch := first | decide +kernel | omega) only [c32b1, c32, Try.f32, Option.getD_some, sub_seq1, sub_seq0, sub_block, sub_loop, sub_nil, exec_draw, runOps_cons, opF_move, ev_tmp, T.get_set, Nat.reduceEqDiff, g0, if_false, evG_some, putT_some, g5, opF_indexAddr, if_true, opF_load, g1, opF_neq, runOps_nil, R.ok_bind, hp', hpl', hp, hpl, binF_int, op_neq, ne_eq, hv, not_false_eq_true, decide_true]
              with_reducible rfl
            refine W.cond (p := true) (by simp only [ev_tmp, T.get_set, if_true, evG_some]) (fun _ => ?_) (fun h => by cases h)
            apply W.run 20
            · intro M
              simp (config := { maxSteps := 4000000 }) (disch := first | decide +kernel | omega) only [c32b1, c32, Try.f32, Option.getD_some, sub_seq1, sub_seq0, sub_block, sub_loop, sub_nil, sub_cond0, exec_seq, exec_region, runOps_cons, opF_assign, ev_bool, putT_some, runOps_nil, R.ok_bind, exec_ret]
              with_reducible rfl
            refine ⟨.inr rfl, _, [.bool false], rfl, ?_, ?_, rfl⟩
            · simp only [Try.f32, resF, ev_tmp, T.get_set, Nat.reduceEqDiff, if_true, if_false, evG_some, R.ok_bind]
            · have : l ≠ m := fun h => hv (by subst h; rfl)
              show Value.bool false = _
              rw [decide_eq_false this]
        · have hin : i = l.length := by omega
          subst hin
          apply W.run 20
          · intro M
            simp (config := { maxSteps := 4000000 }) (disch := first | decide +kernel | omega) only [c32b1, c32, Try.f32, Option.getD_some, sub_seq1, sub_seq0, sub_block, sub_loop, sub_nil, exec_seq, exec_region, runOps_cons, opF_move, ev_tmp, g5, evG_some, putT_some, T.get_set, Nat.reduceEqDiff, g0, if_false, opF_len, evs, if_true, R.ok_bind, opF_ari, runOps_nil, lx, binF_int, op_lssI, cast_lt, Nat.lt_irrefl, decide_false, exec_cond, exec_skip, exec_exit]
            with_reducible rfl
          show W tb1 _ _ _
          apply W.seq
          apply W.run 20
          · intro M
            simp (config := { maxSteps := 4000000 }) (disch := first | decide +kernel | omega) only [c32, Try.f32, Option.getD_some, sub_seq1, sub_seq0, sub_nil, exec_region, runOps_cons, opF_assign, ev_bool, putT_some, runOps_nil, R.ok_bind]
            with_reducible rfl
          apply W.run 20
          · intro M
            simp (config := { maxSteps := 4000000 }) (disch := first | decide +kernel | omega) only [c32, Try.f32, Option.getD_some, sub_seq1, sub_nil, exec_ret]
            with_reducible rfl
          refine ⟨.inr rfl, _, [.bool true], rfl, ?_, ?_, rfl⟩
          · simp only [Try.f32, resF, ev_tmp, T.get_set, Nat.reduceEqDiff, if_true, if_false, evG_some, R.ok_bind]
          · rw [List.take_length, hl, List.take_length] at he
            show Value.bool true = _
            rw [decide_eq_true he]
      · simp only [Sl_cons, Sl_nil, T.get_set, T.puts_cons, T.puts_nil, Nat.reduceEqDiff, Nat.reduceAdd, if_true, if_false, and_true, true_and]
    · apply W.run 20
      · intro M
        simp (config := { maxSteps := 4000000 }) (disch := first | decide +kernel | omega) only [c32, Try.f32, Option.getD_some, sub_seq1, sub_seq0, sub_nil, exec_region, runOps_cons, opF_move, ev_tmp, T.get_set, Nat.reduceEqDiff, T.get_e, if_true, if_false, evG_some, putT_some, opF_len, evs, R.ok_bind, opF_neq, runOps_nil, ly, lx, binF_int, op_neqI, ne_eq, Int.natCast_inj, hl, not_false_eq_true, decide_true]
        with_reducible rfl
      refine W.cond (p := true) (by simp only [ev_tmp, T.get_set, if_true, evG_some]) (fun _ => ?_) (fun h => by cases h)
      apply W.run 20
      · intro M
        simp (config := { maxSteps := 4000000 }) (disch := first | decide +kernel | omega) only [c32, Try.f32, Option.getD_some, sub_seq1, sub_seq0, sub_cond0, sub_nil, exec_seq, exec_region, runOps_cons, opF_assign, ev_bool, putT_some, runOps_nil, R.ok_bind, exec_ret]
        with_reducible rfl
      refine ⟨.inr rfl, _, [.bool false], rfl, ?_, ?_, rfl⟩
      · simp only [Try.f32, resF, ev_tmp, T.get_set, Nat.reduceEqDiff, if_true, if_false, evG_some, R.ok_bind]
      · have : l ≠ m := fun h => hl (by rw [h])
        show Value.bool false = _
        rw [decide_eq_false this]
  exact ha
end Go.Proofs.Ytmhldlnlgjpkaaa.scr

/-
  Script: the document's Same: two acts.
-/
namespace Go.Proofs.Ytmhldlnlgjpkaaa.scr
open Go.Am
set_option linter.unusedSimpArgs false
set_option linter.unusedVariables false
set_option linter.unusedVariables false
set_option maxRecDepth 20000

theorem eqF_not {g : Nat → Option Ob} {t : TypeId} {x y : Operand} {a b : Value} {r : Bool} (h : eqF tb1 g .eql t x y a b = .ok (.bool r)) : eqF tb1 g .neq t x y a b = .ok (.bool (!r)) := by
  unfold eqF at h ⊢
  cases hm : eqMay tb1 t x y a b with
  | false => rw [hm] at h; cases h
  | true =>
    rw [hm, cond_true] at h
    rw [cond_true]
    simp only [] at h ⊢
    cases he : equalF tb1 g 100 t a b with
    | no n => rw [he] at h; cases h
    | ok v =>
      rw [he] at h
      simp only [R.ok_bind] at h ⊢
      cases h
      rfl
theorem neq35 {g : Nat → Option Ob} {x y : Operand} {a0 a3 a4 b0 b3 b4 : Int} {a1 b1 : List UInt8} {a2 b2 : Nat} :
    eqF tb1 g .neq 35 x y (.agg ⟨[.int .i64 a0, strOf a1, .int .u32 (a2 : Int), .int .i64 a3, .int .i64 a4]⟩) (.agg ⟨[.int .i64 b0, strOf b1, .int .u32 (b2 : Int), .int .i64 b3, .int .i64 b4]⟩) = .ok (.bool (!decide (a0 = b0 ∧ a1 = b1 ∧ a2 = b2 ∧ a3 = b3 ∧ a4 = b4))) := eqF_not eq35
theorem neq25 {g : Nat → Option Ob} {x y : Operand} {a0 a1 b0 b1 : Int} :
    eqF tb1 g .neq 25 x y (.agg ⟨[.int .i64 a0, .int .i64 a1]⟩) (.agg ⟨[.int .i64 b0, .int .i64 b1]⟩) = .ok (.bool (!decide (a0 = b0 ∧ a1 = b1))) := eqF_not (eq25 rfl)
theorem StR.self {P : Nat → Prop} {A : Mem} {l : List Nat} {x : Value} (h : StR P A l x) (d : Nat) : sameV (d + 1) x x = true := by
  rcases h with ⟨rfl, -⟩ | ⟨b, -, -, h⟩
  · simp [sameV]
  · rcases h with ⟨rfl, -⟩ | ⟨k, c, rfl, -⟩
    · simp [sameV]
    · simp [sameV, sameA, sameN]
theorem OpsP.self {P : Nat → Prop} {A : Mem} {ds : List (Int × List Nat)} {x : Value} (h : OpsP P A ds x) (d : Nat) : sameV (d + 1) x x = true := by
  obtain ⟨b, -, -, h⟩ := h
  exact h.self d
theorem sameV_str (d : Nat) (l : List UInt8) : sameV (d + 1) (strOf l) (strOf l) = true := by
  simp [sameV, strOf, bytesEq_eq]
theorem sameV_bool (d : Nat) (c : Bool) : sameV (d + 1) (.bool c) (.bool c) = true := by cases c <;> rfl
theorem ActP.self {P : Nat → Prop} {A : Mem} {d : ActG} {l : List Value} (h : ActP P A d l) : sameV 100 (.agg ⟨l⟩) (.agg ⟨l⟩) = true := by
  obtain ⟨xs, xo, rfl, h2, -, h3⟩ := h
  show sameV (98 + 2) _ _ = true
  rw [sameV]
  simp [cellsG, sameV_int, sameV_str, sameV_bool, h2.self, h3.self]

noncomputable def c16 : Code := Try.f16.body.getD .skip
noncomputable def c16b1 : Code := sub c16 [1,1,0,1,0,0]
noncomputable def c16b2 : Code := sub c16b1 [1,0,0,1,1,1,0,0]
theorem c16_eq : Try.f16.body = some (.seq (sub c16 [0]) (.seq (.seq (sub c16 [1,0,0]) (.cond (.tmp 29) (.seq (sub c16 [1,0,1,0,0]) .ret) .skip)) (.seq (.seq (sub c16 [1,1,0,0]) (.block 0 (.loop c16b1))) (.seq (sub c16 [1,1,1,0]) (sub c16 [1,1,1,1]))))) := by kernel_rfl
theorem c16b1_eq : c16b1 = .seq (sub c16b1 [0]) (.seq (.block 1 (.seq (sub c16b1 [1,0,0,0]) (.seq (.seq (sub c16b1 [1,0,0,1,0,0]) (.cond (.tmp 82) (.seq (sub c16b1 [1,0,0,1,0,1,0,0]) .ret) .skip)) (.seq (sub c16b1 [1,0,0,1,1,0]) (.block 2 (.loop c16b2)))))) (sub c16b1 [1,1])) := by kernel_rfl
theorem c16b2_eq : c16b2 = .seq (sub c16b2 [0]) (.seq (.block 3 (.seq (sub c16b2 [1,0,0,0]) (.cond (.tmp 118) (.seq (sub c16b2 [1,0,0,1,0,0]) .ret) .skip))) (sub c16b2 [1,1])) := by kernel_rfl
section
variable {P P' : Nat → Prop} {C : Mem} {d d' : ActG} {l l' : List Value} {b6 b7 : Nat} {t : T Value} {K : Ex → St → Prop}
/-- The slots while two acts are compared. -/
def reS (b2 b3 i b6 b7 : Nat) : List (Nat × Value) := [(2, .pointer (some ⟨b2, 0, none⟩)), (3, .pointer (some ⟨b3, 0, none⟩)), (5, .int .i64 (i : Int)), (6, .pointer (some ⟨b6, 0, none⟩)), (7, .pointer (some ⟨b7, 0, none⟩))]
set_option maxHeartbeats 8000000 in
theorem req_ops {b2 b3 i : Nat} {xs ys xo yo : Value} (h6 : Vals C 81 b6 (.var 9) (cellsG d xs xo)) (h7 : Vals C 81 b7 (.var 9) (cellsG d' ys yo)) (hx : OpsP P C d.opening xo) (hy : OpsP P' C d'.opening yo) (hl : d.opening.length = d'.opening.length) (hp : Sl t (reS b2 b3 i b6 b7 ++ [(8, .int .i64 ((0 : Nat) : Int))]))
    (hK1 : d.opening = d'.opening → ∀ t', Sl t' (reS b2 b3 i b6 b7) → K .nrm ⟨t', 119, [], C, none⟩)
    (hK2 : d.opening ≠ d'.opening → ∀ t', t'.get 4 = some (.bool false) → K .ret ⟨t', 119, [], C, none⟩) : W tb1 (.block 2 (.loop c16b2)) ⟨t, 119, [], C, none⟩ K := by
  have lo6 : loadF tb1 C.get 79 (.pointer (some ⟨b6, 8, none⟩)) = .ok xo := load_vals und79 rfl h6 rfl
  have lo7 : loadF tb1 C.get 79 (.pointer (some ⟨b7, 8, none⟩)) = .ok yo := load_vals und79 rfl h7 rfl
  have lx := hx.len
  have hbd : d.opening.length ≤ 1000 := by obtain ⟨b, _, h, _⟩ := hx; exact h
  apply W.block
  refine W.up d.opening.length (fun j t D => D = C ∧ d.opening.take j = d'.opening.take j ∧ Sl t (reS b2 b3 i b6 b7 ++ [(8, .int .i64 (j : Int))])) ?_ (Nat.zero_le _) ⟨rfl, by simp, hp⟩
  rintro j t D hj ⟨rfl, he, g2, g3, g5, g6, g7, g8, -⟩
  rw [c16b2_eq]
  apply W.seq
  by_cases hlt : j < d.opening.length
  · have hlt' : j < d'.opening.length := by omega
    obtain ⟨p1, o1, zs1, i1, -, a1, s1, r1, m1⟩ := hx.at hlt
    obtain ⟨p2, o2, zs2, i2, -, a2, s2, r2, m2⟩ := hy.at hlt'
    obtain ⟨g, hg⟩ := run_rnumeq m1 r1 r2
    apply W.run 20
    · intro M
      simp (config := { maxSteps := 4000000 }) (disch := first | decide +kernel | omega) only [c16b2, c16b1, c16, Try.f16, Option.getD_some, sub_seq1, sub_seq0, sub_block, sub_loop, sub_nil, exec_seq, exec_region, runOps_cons, opF_move, ev_tmp, g8, evG_some, putT_some, opF_fieldAddr, T.get_set, Nat.reduceEqDiff, g6, if_false, opF_load, if_true, opF_len, evs, R.ok_bind, opF_ari, runOps_nil, fa81_4, lo6, lx, binF_int, op_lssI, cast_lt, hlt, decide_true, exec_cond, exec_skip, exec_exit]
      with_reducible rfl
    apply W.seq
    apply W.block
    apply W.seq
    by_cases hv : d.opening[j].1 = d'.opening[j].1
    · by_cases hw : d.opening[j].2 = d'.opening[j].2
      · have hdt := decide_eq_true hw
        apply W.runG (g) 20
        · intro M hM
          simp (config := { maxSteps := 4000000 }) (disch := first | decide +kernel | (rw [wantF_guard]; simp only [wantD_some, dstAt_zero, dstAt_succ, T.get_set, T.get_e, Nat.reduceEqDiff, if_true, if_false, wantV_bool, wantV_unit, unitV, cond_true, cond_false, Bool.not_true, Bool.not_false, List.toList_toArray]) | omega) only [c16b2, c16b1, c16, Try.f16, Option.getD_some, sub_seq1, sub_seq0, sub_block, sub_loop, sub_nil, exec_draw, runOps_cons, opF_fieldAddr, ev_tmp, T.get_set, Nat.reduceEqDiff, g6, if_false, evG_some, putT_some, opF_load, if_true, opF_move, g8, opF_indexAddr, g7, opF_neq, und3, R.ok_bind, fa81_4, lo7, i2, fa92_0, a2, lo6, i1, a1, hv, binF_int, op_neqI, ne_eq, not_true_eq_false, decide_false, runOps_yes, opF_call, evs, resK, opF_un, opF_pick, pickF, ev_bool, runOps_nil, fa92_1, s2, s1, hg, hdt, un_not, Bool.not_true]
          with_reducible rfl
        refine W.cond (p := false) (by simp only [ev_tmp, T.get_set, if_true, evG_some]) (fun h => by cases h) (fun _ => ?_)
        apply W.run 20
        · intro M
          simp (config := { maxSteps := 4000000 }) (disch := first | decide +kernel | omega) only [exec_skip]
          with_reducible rfl
        show W tb1 _ _ _
        apply W.run 20
        · intro M
          simp (config := { maxSteps := 4000000 }) (disch := first | decide +kernel | omega) only [c16b2, c16b1, c16, Try.f16, Option.getD_some, sub_seq1, sub_seq0, sub_block, sub_loop, sub_nil, exec_region, runOps_cons, opF_move, ev_tmp, T.get_set, Nat.reduceEqDiff, g8, if_false, evG_some, putT_some, opF_ari, if_true, ev_int, opF_assign, runOps_nil, R.ok_bind, binF_int, op_add_i64]
          with_reducible rfl
        refine ⟨hlt, _, _, rfl, rfl, ?_, ?_⟩
        · rw [List.take_succ_eq_append_getElem hlt, List.take_succ_eq_append_getElem hlt', he, Prod.ext hv hw]
        · unfold reS; simp only [Sl_cons, Sl_nil, T.get_set, T.puts_cons, T.puts_nil, Nat.reduceEqDiff, Nat.reduceAdd, if_true, if_false, and_true, true_and, List.cons_append, List.nil_append, g2, g3, g5, g6, g7]
      · have hdt := decide_eq_false hw
        apply W.runG (g) 20
        · intro M hM
          simp (config := { maxSteps := 4000000 }) (disch := first | decide +kernel | (rw [wantF_guard]; simp only [wantD_some, dstAt_zero, dstAt_succ, T.get_set, T.get_e, Nat.reduceEqDiff, if_true, if_false, wantV_bool, wantV_unit, unitV, cond_true, cond_false, Bool.not_true, Bool.not_false, List.toList_toArray]) | omega) only [c16b2, c16b1, c16, Try.f16, Option.getD_some, sub_seq1, sub_seq0, sub_block, sub_loop, sub_nil, exec_draw, runOps_cons, opF_fieldAddr, ev_tmp, T.get_set, Nat.reduceEqDiff, g6, if_false, evG_some, putT_some, opF_load, if_true, opF_move, g8, opF_indexAddr, g7, opF_neq, und3, R.ok_bind, fa81_4, lo7, i2, fa92_0, a2, lo6, i1, a1, hv, binF_int, op_neqI, ne_eq, not_true_eq_false, decide_false, runOps_yes, opF_call, evs, resK, opF_un, opF_pick, pickF, ev_bool, runOps_nil, fa92_1, s2, s1, hg, hdt, un_not, Bool.not_false]
          with_reducible rfl
        refine W.cond (p := true) (by simp only [ev_tmp, T.get_set, if_true, evG_some]) (fun _ => ?_) (fun h => by cases h)
        apply W.run 20
        · intro M
          simp (config := { maxSteps := 4000000 }) (disch := first | decide +kernel | omega) only [c16b2, c16b1, c16, Try.f16, Option.getD_some, sub_seq1, sub_seq0, sub_block, sub_loop, sub_nil, sub_cond0, exec_seq, exec_region, runOps_cons, opF_assign, ev_bool, putT_some, runOps_nil, R.ok_bind, exec_ret]
          with_reducible rfl
        refine hK2 (fun e => hw (by simp only [e])) _ ?_
        simp only [T.get_set, if_true]
    · apply W.run 20
      · intro M
        simp (config := { maxSteps := 4000000 }) (disch := first | decide +kernel | (rw [wantF_guard]; simp only [wantD_some, dstAt_zero, dstAt_succ, T.get_set, T.get_e, Nat.reduceEqDiff, if_true, if_false, wantV_bool, wantV_unit, unitV, cond_true, cond_false, Bool.not_true, Bool.not_false, List.toList_toArray]) | omega) only [c16b2, c16b1, c16, Try.f16, Option.getD_some, sub_seq1, sub_seq0, sub_block, sub_loop, sub_nil, exec_draw, runOps_cons, opF_fieldAddr, ev_tmp, T.get_set, Nat.reduceEqDiff, g6, if_false, evG_some, putT_some, opF_load, if_true, opF_move, g8, opF_indexAddr, g7, opF_neq, und3, R.ok_bind, fa81_4, lo7, i2, fa92_0, a2, lo6, i1, a1, binF_int, op_neqI, ne_eq, hv, not_false_eq_true, decide_true, runOps_no, opF_pick, pickF, ev_bool, runOps_nil]
        with_reducible rfl
      refine W.cond (p := true) (by simp only [ev_tmp, T.get_set, if_true, evG_some]) (fun _ => ?_) (fun h => by cases h)
      apply W.run 20
      · intro M
        simp (config := { maxSteps := 4000000 }) (disch := first | decide +kernel | omega) only [c16b2, c16b1, c16, Try.f16, Option.getD_some, sub_seq1, sub_seq0, sub_block, sub_loop, sub_nil, sub_cond0, exec_seq, exec_region, runOps_cons, opF_assign, ev_bool, putT_some, runOps_nil, R.ok_bind, exec_ret]
        with_reducible rfl
      refine hK2 (fun e => hv (by simp only [e])) _ ?_
      simp only [T.get_set, if_true]
  · have hin : j = d.opening.length := by omega
    subst hin
    apply W.run 20
    · intro M
      simp (config := { maxSteps := 4000000 }) (disch := first | decide +kernel | omega) only [c16b2, c16b1, c16, Try.f16, Option.getD_some, sub_seq1, sub_seq0, sub_block, sub_loop, sub_nil, exec_seq, exec_region, runOps_cons, opF_move, ev_tmp, g8, evG_some, putT_some, opF_fieldAddr, T.get_set, Nat.reduceEqDiff, g6, if_false, opF_load, if_true, opF_len, evs, R.ok_bind, opF_ari, runOps_nil, fa81_4, lo6, lx, binF_int, op_lssI, cast_lt, Nat.lt_irrefl, decide_false, exec_cond, exec_skip, exec_exit]
      with_reducible rfl
    rw [List.take_length, hl, List.take_length] at he
    refine hK1 he _ ?_
    unfold reS; simp only [Sl_cons, Sl_nil, T.get_set, T.puts_cons, T.puts_nil, Nat.reduceEqDiff, Nat.reduceAdd, if_true, if_false, and_true, true_and, g2, g3, g5, g6, g7]
end
end Go.Proofs.Ytmhldlnlgjpkaaa.scr

