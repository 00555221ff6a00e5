/-
  The statement ScriptBack holds, for every input: the program, run on the abstract machine AM on values of which parts are variables, answers true; what AM answers the model answers. No conditions.
-/
import Derived.Test.YtmhldlnlgjpkaaaRows
import Derived.Test.YtmhldlnlgjpkaaaScrC
import Derived.WalkKit
import Derived.ProofKit
import Derived.OpenShut
import Derived.ShutString
import Derived.ChangeOld
import Derived.Below
namespace Go.Proofs.Ytmhldlnlgjpkaaa.scr
open Go.Am
variable {q : Nat}
set_option linter.unusedSimpArgs false
set_option linter.unusedVariables false
set_option maxRecDepth 20000

noncomputable def c7 : Code := Try.f7.body.getD .skip
theorem c7_eq : Try.f7.body = some (.seq (sub c7 [0]) (.seq (.seq (sub c7 [1,0,0]) (sub c7 [1,0,1])) (.seq (sub c7 [1,1,0]) (.seq (sub c7 [1,1,1,0]) (.seq (sub c7 [1,1,1,1,0]) (.seq (sub c7 [1,1,1,1,1,0]) (.seq (sub c7 [1,1,1,1,1,1,0]) (sub c7 [1,1,1,1,1,1,1])))))))) := by kernel_rfl
theorem und52 : tb1.und 51 = some (.int .i64) := und51
set_option maxHeartbeats 8000000 in
theorem run_scriptBack (l0 : List UInt8) {A : Mem} {x0 : Value} (hx : RdS q A l0 x0) : ∃ A', CallsTo tb1 7 [x0] A (.bool true) A' := by
  obtain ⟨v, A', h1, h2⟩ : ∃ v A', CallsTo tb1 7 [x0] A v A' ∧ v = .bool true := by
    refine call_of_W (fn_at Try.func7) c7_eq (by rw [Try.ntmps7]; simp) ?_
    have hl0 := hx.len (tb := tb1) (t := 22) und22
    obtain ⟨x', ⟨g1, hg1⟩, hx'⟩ := run_few (n := 800) hx
    have hbl : (l0.take (min l0.length 800)).length ≤ 800 := by rw [List.length_take]; omega
    have hbl0 : (l0.take (min l0.length 800)).length ≤ l0.length := by rw [List.length_take]; omega
    generalize l0.take (min l0.length 800) = b at hx' hbl hbl0
    -- the first setting
    obtain ⟨B, xa, lo, ⟨g2, hg2⟩, hA1, hlo, hBn, hBf⟩ := run_parse hx'.1 hx' (by omega)
    have hds := actsD_ok2 60 (restD b)
    have hdl := actsD_len 60 (restD b)
    have hleft : leftD b = (actsD 60 (restD b)).2 := rfl
    obtain ⟨s1, s2, s3⟩ := encB_set b
    obtain ⟨e0, e1, e2, e3, e4⟩ := encB_back b
    have henc : ∀ ds, ds = (actsD 60 (restD b)).1 → headB (1 + nx b) (2 + nx b.tail % 8) (nx b.tail.tail + 256 * nx b.tail.tail.tail) ++ encAs ds = encB b := fun ds h => by rw [headB_eq, h]; rfl
    have i0 := nx_lt b
    have i2 := nx_lt b.tail.tail
    have i3 := nx_lt b.tail.tail.tail
    have henl : (encB b).length ≤ 1000 := by omega
    rw [← hleft] at hg2
    obtain ⟨n, hn⟩ : ∃ n, b.length - (leftD b).length = n := ⟨_, rfl⟩
    rw [hn] at hg2 s3
    have hnb : n ≤ b.length := by omega
    have hxa : ∀ {P : Nat → Prop} {M : Mem} {ya : Value}, ActsR P M (actsD 60 (restD b)).1 ya → ∀ v ∈ headC (1 + nx b) (2 + nx b.tail % 8) (nx b.tail.tail + 256 * nx b.tail.tail.tail) ya, oneCell v = true := fun {P M ya} h v hv => by
      obtain ⟨ls, bA, -, hx, -⟩ := h
      simp only [headC, List.mem_cons, List.not_mem_nil, or_false] at hv
      rcases hv with rfl | rfl | rfl | rfl <;> first | rfl | exact (SlcM.cells hx).2.1
    have v0 : Vals (B.alloc (rowOb 28 [.int .i64 0, .int .i64 0, .int .i64 0, .slice none 0 0])) 28 B.next (.var 4) [.int .i64 0, .int .i64 0, .int .i64 0, .slice none 0 0] := Go.Am.vals_new B 28 _
    have n0 : (B.alloc (rowOb 28 [.int .i64 0, .int .i64 0, .int .i64 0, .slice none 0 0])).next = B.next + 1 := next_alloc _ _
    obtain ⟨C, hst, v1, n1, f1⟩ := store_all (tb := tb1) (t := 28) (l' := headC (1 + nx b) (2 + nx b.tail % 8) (nx b.tail.tail + 256 * nx b.tail.tail.tail) xa) (by rw [size28]; rfl) v0 rfl (by simp) (hxa hA1)
    have EBC : Ext B C := (Ext.alloc B _).put (b := B.next) (Nat.le_refl _) n1 f1
    obtain ⟨d28, hd1, hd2⟩ := und28
    have l1 := Go.Am.load_all (tb := tb1) (t := 28) hd1 hd2 (by rw [size28]; rfl) v1
    have hA2 : ActsR (fun c => c < B.next) C (actsD 60 (restD b)).1 xa := hA1.same EBC.n (fun c _ hl => ⟨hl, EBC.g c hl⟩)
    -- it is laid
    obtain ⟨x, D, bx, ⟨g3, hg3⟩, hsx, ECD⟩ := run_putS (w := 1 + nx b) (f := 2 + nx b.tail % 8) (qu := nx b.tail.tail + 256 * nx b.tail.tail.tail) hA2 (by omega) hdl hds ⟨by omega, by omega⟩ ⟨by omega, by omega⟩ (by omega)
    rw [henc _ rfl] at hsx
    have hD0 : 0 < D.next := by have := ECD.n; omega
    obtain ⟨q2, hrx, -⟩ := RdS.of_slc hsx hD0
    -- and read again
    obtain ⟨E, xa2, lo2, ⟨g4, hg4⟩, hA3, hlo2, hEn, hEf⟩ := run_parse hrx.1 hrx (by omega)
    have EDE : Ext D E := ⟨hEn, hEf⟩
    rw [e0, e1, e2, e3, e4] at hg4
    rw [e4] at hA3
    simp only [List.length_nil, Nat.sub_zero] at hg4
    have v2 : Vals (E.alloc (rowOb 28 [.int .i64 0, .int .i64 0, .int .i64 0, .slice none 0 0])) 28 E.next (.var 4) [.int .i64 0, .int .i64 0, .int .i64 0, .slice none 0 0] := Go.Am.vals_new E 28 _
    have n2 : (E.alloc (rowOb 28 [.int .i64 0, .int .i64 0, .int .i64 0, .slice none 0 0])).next = E.next + 1 := next_alloc _ _
    obtain ⟨F, hst2, v3, n3, f3⟩ := store_all (tb := tb1) (t := 28) (l' := headC (1 + nx b) (2 + nx b.tail % 8) (nx b.tail.tail + 256 * nx b.tail.tail.tail) xa2) (by rw [size28]; rfl) v2 rfl (by simp) (hxa hA3)
    have EEF : Ext E F := (Ext.alloc E _).put (b := E.next) (Nat.le_refl _) n3 f3
    have l2 := Go.Am.load_all (tb := tb1) (t := 28) hd1 hd2 (by rw [size28]; rfl) v3
    have hA4 : ActsR (fun c => c < E.next) F (actsD 60 (restD b)).1 xa2 := hA3.same EEF.n (fun c _ hl => ⟨hl, EEF.g c hl⟩)
    obtain ⟨y, G, byy, ⟨g5, hg5⟩, hsy, EFG⟩ := run_putS (w := 1 + nx b) (f := 2 + nx b.tail % 8) (qu := nx b.tail.tail + 256 * nx b.tail.tail.tail) hA4 (by omega) hdl hds ⟨by omega, by omega⟩ ⟨by omega, by omega⟩ (by omega)
    rw [henc _ rfl] at hsy
    -- both settings are alike
    have ECG : Ext C G := ((ECD.trans EDE).trans EEF).trans EFG
    have l3 := Go.Am.load_all (tb := tb1) (t := 28) hd1 hd2 (by rw [size28]; rfl) (v1.same (ECG.g _ (by omega)))
    have l4 := Go.Am.load_all (tb := tb1) (t := 28) hd1 hd2 (by rw [size28]; rfl) (v3.same (EFG.g _ (by omega)))
    have hok : ∀ d ∈ (actsD 60 (restD b)).1, ActOk d := fun d hd => (hds d hd).ok
    have hS1 : SetR G (setD b) (headC (1 + nx b) (2 + nx b.tail % 8) (nx b.tail.tail + 256 * nx b.tail.tail.tail) xa) := ⟨xa, rfl, (hA2.toG (by omega) hok).ext ECG⟩
    have hS2 : SetR G (setD b) (headC (1 + nx b) (2 + nx b.tail % 8) (nx b.tail.tail + 256 * nx b.tail.tail.tail) xa2) := ⟨xa2, rfl, (hA4.toG (by omega) hok).ext EFG⟩
    obtain ⟨H, ⟨g6, hg6⟩, EGH⟩ := run_same hS1 hS2
    rw [decide_eq_true rfl] at hg6
    have hsxH : Slc H 5 bx (byts (encB b)) x := hsx.same (((EDE.trans EEF).trans EFG).trans EGH).n (fun hl => (((EDE.trans EEF).trans EFG).trans EGH).g _ hl)
    have hsyH : Slc H 5 byy (byts (encB b)) y := hsy.same EGH.n (fun hl => EGH.g _ hl)
    have hlx := hsxH.len (tb := tb1) (t := 22) und22
    rw [byts_len] at hlx
    have cx := slc_str (tb := tb1) (s := 22) (d := 9) und22 und9 und5 hsxH
    have cy := slc_str (tb := tb1) (s := 22) (d := 9) und22 und9 und5 hsyH
    have hmx : max 4 n + 16 < 9223372036854775808 := by omega
    have hn0 : n ≤ l0.length := by omega
    clear hxa henc
    apply W.seq
    apply W.run 20
    · intro M
      simp (config := { maxSteps := 4000000 }) (disch := first | decide +kernel | (rw [wantF_guard]; simp only [wantD_some, dstAt_zero, dstAt_succ, T.get_set, T.get_e, Nat.reduceEqDiff, if_true, if_false, wantV_bool, wantV_unit, unitV, cond_true, cond_false, Bool.not_true, Bool.not_false, List.toList_toArray]) | omega) only [c7, Try.f7, Option.getD_some, sub_seq0, sub_nil, T.puts_cons, Nat.reduceAdd, T.puts_nil, exec_region, runOps_cons, opF_assign, ev_bool, putT_some, runOps_nil, R.ok_bind]
      with_reducible rfl
    apply W.seq
    apply W.seq
    apply W.run 20
    · intro M
      simp (config := { maxSteps := 4000000 }) (disch := first | decide +kernel | (rw [wantF_guard]; simp only [wantD_some, dstAt_zero, dstAt_succ, T.get_set, T.get_e, Nat.reduceEqDiff, if_true, if_false, wantV_bool, wantV_unit, unitV, cond_true, cond_false, Bool.not_true, Bool.not_false, List.toList_toArray]) | omega) only [c7, Try.f7, Option.getD_some, sub_seq1, sub_seq0, sub_nil, exec_region, runOps_cons, opF_call, evs, resK, putT_some, opF_un, ev_tmp, T.get_set, Nat.reduceEqDiff, T.get_e, if_false, if_true, evG_some, runOps_nil, R.ok_bind, k8, un_not, Bool.not_true]
      with_reducible rfl
    apply W.run 20
    · intro M
      simp (config := { maxSteps := 4000000 }) (disch := first | decide +kernel | (rw [wantF_guard]; simp only [wantD_some, dstAt_zero, dstAt_succ, T.get_set, T.get_e, Nat.reduceEqDiff, if_true, if_false, wantV_bool, wantV_unit, unitV, cond_true, cond_false, Bool.not_true, Bool.not_false, List.toList_toArray]) | omega) only [c7, Try.f7, Option.getD_some, sub_seq1, sub_seq0, sub_nil, exec_cond, ev_tmp, T.get_set, Nat.reduceEqDiff, T.get_e, if_false, if_true, evG_some, exec_seq, exec_region, runOps_cons, opF_assign, ev_bool, putT_some, runOps_nil, R.ok_bind, exec_ret, exec_skip]
      with_reducible rfl
    show W tb1 _ _ _
    apply W.seq
    apply W.runG ((g1+g2)) 20
    · intro M hM
      simp (config := { maxSteps := 4000000 }) (disch := first | decide +kernel | (rw [wantF_guard]; simp only [wantD_some, dstAt_zero, dstAt_succ, T.get_set, T.get_e, Nat.reduceEqDiff, if_true, if_false, wantV_bool, wantV_unit, unitV, cond_true, cond_false, Bool.not_true, Bool.not_false, List.toList_toArray]) | omega) only [c7, Try.f7, Option.getD_some, sub_seq1, sub_seq0, sub_nil, exec_region, runOps_cons, opF_move, ev_tmp, T.get_set, Nat.reduceEqDiff, T.get_e, if_true, if_false, evG_some, putT_some, opF_call, evs, ev_int, R.ok_bind, resK, opF_extract, extractF, opF_alloc, zero28, at_ptr, opF_store, putT_none, opF_assign, runOps_nil, cells_agg, hg1, hg2, List.getElem?_cons_zero, List.getElem?_cons_succ, hst]
      with_reducible rfl
    apply W.seq
    apply W.runG (g3) 20
    · intro M hM
      simp (config := { maxSteps := 4000000 }) (disch := first | decide +kernel | (rw [wantF_guard]; simp only [wantD_some, dstAt_zero, dstAt_succ, T.get_set, T.get_e, Nat.reduceEqDiff, if_true, if_false, wantV_bool, wantV_unit, unitV, cond_true, cond_false, Bool.not_true, Bool.not_false, List.toList_toArray]) | omega) only [c7, Try.f7, Option.getD_some, sub_seq1, sub_seq0, sub_nil, exec_region, runOps_cons, opF_load, ev_tmp, T.get_set, Nat.reduceEqDiff, T.get_e, if_false, if_true, evG_some, putT_some, opF_call, evs, R.ok_bind, resK, opF_move, opF_extract, extractF, opF_assign, runOps_nil, l1, hg3, List.getElem?_cons_zero, List.getElem?_cons_succ]
      with_reducible rfl
    apply W.seq
    apply W.runG (g4) 20
    · intro M hM
      simp (config := { maxSteps := 4000000 }) (disch := first | decide +kernel | (rw [wantF_guard]; simp only [wantD_some, dstAt_zero, dstAt_succ, T.get_set, T.get_e, Nat.reduceEqDiff, if_true, if_false, wantV_bool, wantV_unit, unitV, cond_true, cond_false, Bool.not_true, Bool.not_false, List.toList_toArray]) | omega) only [c7, Try.f7, Option.getD_some, sub_seq1, sub_seq0, sub_nil, exec_region, runOps_cons, opF_move, ev_tmp, T.get_set, Nat.reduceEqDiff, T.get_e, if_false, if_true, evG_some, putT_some, opF_call, evs, R.ok_bind, resK, opF_extract, extractF, opF_alloc, zero28, at_ptr, opF_store, putT_none, opF_assign, runOps_nil, cells_agg, hg4, List.getElem?_cons_zero, List.getElem?_cons_succ, hst2]
      with_reducible rfl
    apply W.seq
    apply W.runG (g5) 20
    · intro M hM
      simp (config := { maxSteps := 4000000 }) (disch := first | decide +kernel | (rw [wantF_guard]; simp only [wantD_some, dstAt_zero, dstAt_succ, T.get_set, T.get_e, Nat.reduceEqDiff, if_true, if_false, wantV_bool, wantV_unit, unitV, cond_true, cond_false, Bool.not_true, Bool.not_false, List.toList_toArray]) | omega) only [c7, Try.f7, Option.getD_some, sub_seq1, sub_seq0, sub_nil, exec_region, runOps_cons, opF_load, ev_tmp, T.get_set, Nat.reduceEqDiff, T.get_e, if_false, if_true, evG_some, putT_some, opF_call, evs, R.ok_bind, resK, opF_move, opF_extract, extractF, opF_assign, runOps_nil, l2, hg5, List.getElem?_cons_zero, List.getElem?_cons_succ]
      with_reducible rfl
    apply W.seq
    apply W.runG (g6) 20
    · intro M hM
      simp (config := { maxSteps := 4000000 }) (disch := first | decide +kernel | (rw [wantF_guard]; simp only [wantD_some, dstAt_zero, dstAt_succ, T.get_set, T.get_e, Nat.reduceEqDiff, if_true, if_false, wantV_bool, wantV_unit, unitV, cond_true, cond_false, Bool.not_true, Bool.not_false, List.toList_toArray]) | omega) only [c7, Try.f7, Option.getD_some, sub_seq1, sub_seq0, sub_nil, exec_region, runOps_cons, opF_move, ev_tmp, T.get_set, Nat.reduceEqDiff, T.get_e, if_false, if_true, evG_some, putT_some, opF_eql, ev_int, R.ok_bind, binF_int, op_eql, decide_true, runOps_yes, opF_pick, pickF, ev_bool, opF_load, opF_call, evs, resK, l4, l3, hg6, opF_len, hlx, opF_convStr _ _ _ _ _ _ _ _ _ _ und22 und9, cy, cx, binF_str, str_eql, opF_minmax, opF_ari, max_i64, op_add_i64, op_leq, cast_le, s3, opF_assign, runOps_nil, hl0, hn0]
      with_reducible rfl
    apply W.run 20
    · intro M
      simp (config := { maxSteps := 4000000 }) (disch := first | decide +kernel | (rw [wantF_guard]; simp only [wantD_some, dstAt_zero, dstAt_succ, T.get_set, T.get_e, Nat.reduceEqDiff, if_true, if_false, wantV_bool, wantV_unit, unitV, cond_true, cond_false, Bool.not_true, Bool.not_false, List.toList_toArray]) | omega) only [c7, Try.f7, Option.getD_some, sub_seq1, sub_nil, exec_ret]
      with_reducible rfl
    refine ⟨.inr rfl, _, [.bool true], rfl, ?_, rfl⟩
    simp only [Try.f7, resF, ev_tmp, T.get_set, Nat.reduceEqDiff, if_true, if_false, evG_some, R.ok_bind]
  subst h2
  exact ⟨A', h1⟩
end Go.Proofs.Ytmhldlnlgjpkaaa.scr

namespace Go.Proofs.Ytmhldlnlgjpkaaa.scriptBack
open Go.ChangeShapes Go.WideShapes Go.ChangeAt Go.RowKit Go.Am
open Go.ChangeMaps (open_string shut_string)
set_option linter.unusedVariables false

theorem own : ownKnob Try.prog.godebug = none := by kernel_rfl
theorem laidOut : laidOutB Try.prog = true := by kernel_rfl

/-- A slice of integers that came in. -/
def IsRow (k : IntKind) (w : World) (a : Option Addr) (len cap : Nat) (zs : List Int) : Prop := ParW k w a len cap zs ∧ ∀ n ∈ zs, (Lit.int k n).wf = true
theorem slice_has {P : Program} {w : World} {base : Nat} {t e : TypeId} {x : Addr} {len cap : Nat} (ht : P.underlying t = some (.slice e)) (h : Value.okWide P w .any base t (.slice (some x) len cap)) : x.spot = none ∧ x.block < w.heap.size := by
  simp only [Value.okWide, Cell.okWide, Cell.ok, ht] at h
  obtain ⟨_, _, _, hsp, row, cells, hsh, _⟩ := h
  refine ⟨hsp, ?_⟩
  unfold World.shape? at hsh
  split at hsh
  · rename_i h2
    exact (Array.getElem?_eq_some_iff.1 h2).1
  · cases hsh

/-! ### The run -/
theorem walk (a0 : Option Addr) (len0 cap0 : Nat) (z0 : List Int) (w : World) (w0 : IsRow .u8 w a0 len0 cap0 z0) :
    Calls Try.prog 7 #[.slice a0 len0 cap0] w fun e w' => e = .returned (.bool true) ∧ Below w.heap.size w w' := by
  obtain ⟨hp, hz⟩ := w0
  have hsh : (z0.take len0).map (.int .u8) = scr.byts ((z0.take len0).map fun z => UInt8.ofNat z.toNat) := by
    simp only [scr.byts, List.map_map]
    apply List.map_congr_left
    intro n hn
    obtain ⟨h0, h1⟩ := bounds_u8 (hz n (List.mem_of_mem_take hn))
    simp only [Function.comp]
    congr 1
    rw [UInt8.toNat_ofNat']
    omega
  exact (par_true scr.tb1_ok hp (scr.fn_at Try.func7) scr.c7_eq (pre := []) (pre' := []) (post := []) (post' := []) (fun ι => .nil) (fun ι => .nil) (fun A x hn hwf hP => by
    rw [hsh] at hP
    exact scr.run_scriptBack _ (scr.RdS.of_par (by omega) hP)) (w := w)).mono fun e w' h => ⟨h.1, h.2.below⟩

/-! ### THE ROW's STEP: WRITTEN OUT: LEAVE IT -/
set_option maxRecDepth 100000 in
theorem lifted (os : Os) (started : os.Started) (H : Type) (enc : TypeId × Value → H) :
    ReturnsInHanded {} Try.checked os 7 .any (Rows.scriptBackSpec.pre6 enc Try.prog Try.f7 Rows.scriptBackRow.domain false) (Rows.scriptBackSpec.post enc Try.prog Try.f7 false true false false) := by
  refine returnsInHanded_of_change (C := Try.checked) own started (by kernel_rfl) Try.func7
    (ChangeSpec.witness6 (enc := enc) (C := Try.checked) false ⟨#[], #[.slice none 0 0], []⟩ 8 (by kernel_rfl) (by kernel_rfl) (by kernel_rfl) (by kernel_rfl)) ?_
  intro W base args ds gs before hval0 hW hcnd _
  have hval : ∀ (j : Nat) t v, Try.f7.params[j]? = some t → args[j]? = some v → Value.okWide Try.prog W .any base t v := hval0
  have hW' := hW
  obtain ⟨p, q, hA0, hV, rfl, hfz, hnd⟩ := hW
  have hA : DataW.TrodAll enc Try.prog W 0 (fun _ => true) true Try.f7.params.toList args.toList ds p := hA0
  rw [Try.params7] at hA hval
  obtain ⟨v0, vs0, d0, ds0, p0, q0, hargs, rfl, rfl, h0, r0⟩ := trodAll_cons hA
  obtain ⟨rfl, rfl, rfl⟩ := trodAll_nil r0
  obtain rfl : args = #[v0] := by cases args; simp_all
  obtain ⟨rfl, rfl⟩ := trodVars_none hV
  obtain ⟨a0, len0, cap0, rfl⟩ := okWide_slice Try.underlying22 (hval 0 22 v0 rfl rfl)
  have k0 := h0
  have lt0 : ∀ x ∈ p0, x.block < W.heap.size := by obtain ⟨m, hm⟩ := k0; exact DataW.trod_lt m _ _ _ hm
  obtain ⟨z0, w0⟩ : ∃ zs, IsRow .u8 W a0 len0 cap0 zs := by
    obtain ⟨fuel, hf⟩ := h0
    rcases open_ints Try.underlying22 Try.underlying5 (by kernel_rfl) hf with ⟨hcs, _⟩ | ⟨x, l, c, zs, hcs, _, hl, hm, hz, _, hcell, hwz⟩
    · simp [Value.cells] at hcs
      obtain ⟨rfl, rfl, rfl⟩ := hcs
      exact ⟨[], .inl ⟨rfl, rfl, rfl, rfl⟩, fun n h => by cases h⟩
    · simp [Value.cells] at hcs
      obtain ⟨rfl, rfl, rfl⟩ := hcs
      exact ⟨zs, .inr ⟨_, rfl, (slice_has Try.underlying22 (hval 0 22 _ rfl rfl)).1, (slice_has Try.underlying22 (hval 0 22 _ rfl rfl)).2, hl, Nat.lt_of_le_of_lt hm (by decide), by simpa using hz, hcell⟩, hwz⟩
  clear hA0 hval0
  refine (walk a0 len0 cap0 z0 W w0).mono fun e W' ⟨he, bel⟩ => ?_
  subst he
  exact ⟨_, rfl, _, _, _, [], _, [], hW', trodAll_mk1 (shut_bool Try.underlying4 _), (trodAll_cons_mk (Below.trod laidOut (by kernel_rfl) (of_decide_eq_true (by kernel_rfl)) k0 bel lt0) trodAll_mk0), rfl, bel.frame _, fun h => by cases h⟩

theorem over : Rows.scriptBackRow.holds Try.pinned (OpenSpec.ofChange Rows.scriptBackSpec) :=
  OpenClaim.holds_of_wide 7 Try.f7 rfl rfl rfl rfl rfl rfl rfl ⟨rfl, rfl, rfl, rfl, rfl⟩ rfl rfl rfl rfl rfl (by kernel_rfl) Try.func7 (by kernel_rfl)
    (of_decide_eq_true (by kernel_rfl)) (by unfold Func.isWrapper; first | (rw [if_pos (by decide +kernel)]; kernel_rfl) | (rw [if_neg (by decide +kernel)]; exact ⟨rfl, rfl⟩))
    (fun os started H enc _ => lifted os started H enc)

/-- ████ THE STATEMENT ████ -/
theorem proved : Rows.ScriptBackSaid := over
#print axioms proved
end Go.Proofs.Ytmhldlnlgjpkaaa.scriptBack
