/-
  The statement ScriptParses holds, for every input: the program, run on the abstract machine AM on values of which parts are variables, answers true; what AM answers the model answers. No conditions.
-/
import Derived.Test.YtmhldlnlgjpkaaaRows
import Derived.Test.YtmhldlnlgjpkaaaScrE
import Derived.WalkKit
import Derived.ProofKit
import Derived.OpenShut
import Derived.ShutString
import Derived.ChangeOld
import Derived.Below
namespace Go.Proofs.Ytmhldlnlgjpkaaa.scr
open Go.Am
variable {q : Nat}
set_option linter.unusedSimpArgs false
set_option linter.unusedVariables false
set_option linter.unusedVariables false
set_option maxRecDepth 20000

noncomputable def c5 : Code := Try.f5.body.getD .skip
theorem c5_eq : Try.f5.body = some (.seq (sub c5 [0]) (.seq (sub c5 [1,0]) (.seq (sub c5 [1,1,0]) (.seq (sub c5 [1,1,1,0]) (.seq (sub c5 [1,1,1,1,0]) (.seq (sub c5 [1,1,1,1,1,0]) (.seq (sub c5 [1,1,1,1,1,1,0]) (sub c5 [1,1,1,1,1,1,1])))))))) := by kernel_rfl
theorem rOp_conv (t : T Value) (g : Nat → Option Ob) (s d : TypeId) (x : Operand) : rOp tb1 t g (.convert s d x) = (ev t x).bind fun x => convRF tb1 g s d x := rfl
set_option maxHeartbeats 16000000 in
theorem run_scriptParses (l0 : List UInt8) {A : Mem} {x0 : Value} (hx : RdS q A l0 x0) : ∃ A', CallsTo tb1 5 [x0] A (.bool true) A' := by
  obtain ⟨v, A', h1, h2⟩ : ∃ v A', CallsTo tb1 5 [x0] A v A' ∧ v = .bool true := by
    refine call_of_W (fn_at Try.func5) c5_eq (by rw [Try.ntmps5]; simp) ?_
    obtain ⟨x', ⟨g1, hg1⟩, hx'⟩ := run_few (n := 800) hx
    have hbl : (l0.take (min l0.length 800)).length ≤ 800 := by rw [List.length_take]; omega
    generalize l0.take (min l0.length 800) = b at hx' hbl
    have hA0 : 0 < A.next := by have := hx'.1; omega
    -- the program's setting
    obtain ⟨B, xa, lo, ⟨g2, hg2⟩, hA1, hlo, hBn, hBf⟩ := run_parse hx'.1 hx' (by omega)
    have hds := actsD_ok2 60 (restD b)
    have hdl := actsD_len 60 (restD b)
    have hleft : leftD b = (actsD 60 (restD b)).2 := rfl
    obtain ⟨s1, s2, s3⟩ := encB_set b
    have henc : headB (1 + nx b) (2 + nx b.tail % 8) (nx b.tail.tail + 256 * nx b.tail.tail.tail) ++ encAs (actsD 60 (restD b)).1 = encB b := by rw [headB_eq]; rfl
    have i0 := nx_lt b
    have i2 := nx_lt b.tail.tail
    have i3 := nx_lt b.tail.tail.tail
    rw [← hleft] at hg2
    obtain ⟨n, hn⟩ : ∃ n, b.length - (leftD b).length = n := ⟨_, rfl⟩
    rw [hn] at hg2 s3
    have hnb : n ≤ b.length := by omega
    have hxa : ∀ v ∈ headC (1 + nx b) (2 + nx b.tail % 8) (nx b.tail.tail + 256 * nx b.tail.tail.tail) xa, oneCell v = true := fun v hv => by
      obtain ⟨ls, bA, -, hx, -⟩ := hA1
      simp only [headC, List.mem_cons, List.not_mem_nil, or_false] at hv
      rcases hv with rfl | rfl | rfl | rfl <;> first | rfl | exact (SlcM.cells hx).2.1
    have EAB : Ext A B := ⟨hBn, hBf⟩
    have v0 : Vals (B.alloc (rowOb 28 [.int .i64 0, .int .i64 0, .int .i64 0, .slice none 0 0])) 28 B.next (.var 4) [.int .i64 0, .int .i64 0, .int .i64 0, .slice none 0 0] := Go.Am.vals_new B 28 _
    have n0 : (B.alloc (rowOb 28 [.int .i64 0, .int .i64 0, .int .i64 0, .slice none 0 0])).next = B.next + 1 := next_alloc _ _
    obtain ⟨C, hst, v1, n1, f1⟩ := store_all (tb := tb1) (t := 28) (l' := headC (1 + nx b) (2 + nx b.tail % 8) (nx b.tail.tail + 256 * nx b.tail.tail.tail) xa) (by rw [size28]; rfl) v0 rfl (by simp) hxa
    have EBC : Ext B C := (Ext.alloc B _).put (b := B.next) (Nat.le_refl _) n1 f1
    obtain ⟨d28, hd1, hd2⟩ := und28
    have hA2 : ActsR (fun c => c < B.next) C (actsD 60 (restD b)).1 xa := hA1.same EBC.n (fun c _ hl => ⟨hl, EBC.g c hl⟩)
    -- the document's setting
    have EAC := EAB.trans EBC
    have hxC : RdS q C b x' := hx'.same EAC.n (fun h => EAC.g _ h)
    obtain ⟨D, lt, ⟨g3, hg3⟩, hT, ECD⟩ := run_rparse hxC (by omega)
    rw [hn] at hg3
    have hTc := hT.cells
    have w0 : Vals (D.alloc (rowOb 48 [.int .i64 0, .int .i64 0, .int .i64 0, .slice none 0 0])) 48 D.next (.var 4) [.int .i64 0, .int .i64 0, .int .i64 0, .slice none 0 0] := Go.Am.vals_new D 48 _
    have nd0 : (D.alloc (rowOb 48 [.int .i64 0, .int .i64 0, .int .i64 0, .slice none 0 0])).next = D.next + 1 := next_alloc _ _
    obtain ⟨E, hst2, w1, n2, f2⟩ := store_all (tb := tb1) (t := 48) (l' := lt) (by rw [size48]; rfl) w0 (by rw [hTc.1]; rfl) (by simp) hTc.2
    have EDE : Ext D E := (Ext.alloc D _).put (b := D.next) (Nat.le_refl _) n2 f2
    have hTE := hT.ext EDE
    have hCn := EBC.n
    have hDn := ECD.n
    have hEn := EDE.n
    have ECE := ECD.trans EDE
    -- both are laid
    have l1 : loadF tb1 E.get 28 (.pointer (some ⟨B.next, 0, none⟩)) = .ok (.agg ⟨headC (1 + nx b) (2 + nx b.tail % 8) (nx b.tail.tail + 256 * nx b.tail.tail.tail) xa⟩) := Go.Am.load_all (tb := tb1) (t := 28) hd1 hd2 (by rw [size28]; rfl) (v1.same (ECE.g _ (by omega)))
    have hAE : ActsR (fun c => c < B.next) E (actsD 60 (restD b)).1 xa := hA2.same ECE.n (fun c hc hl => ⟨hc, ECE.g c hl⟩)
    obtain ⟨x, F, bx, ⟨g4, hg4⟩, hsx, EEF⟩ := run_putS (w := 1 + nx b) (f := 2 + nx b.tail % 8) (qu := nx b.tail.tail + 256 * nx b.tail.tail.tail) hAE (by omega) hdl hds ⟨by omega, by omega⟩ ⟨by omega, by omega⟩ (by omega)
    rw [henc] at hsx
    have hFn := EEF.n
    obtain ⟨d48, hw1, hw2⟩ := und48
    have ht : ∀ {M : Mem}, Ext E M → loadF tb1 M.get 48 (.pointer (some ⟨D.next, 0, none⟩)) = .ok (.agg ⟨lt⟩) := fun e => Go.Am.load_all (tb := tb1) (t := 48) hw1 hw2 (by rw [size48, hTc.1]) (by rw [← hTc.1] at w1; exact w1.same (e.g _ (by omega)))
    have hs28 : ∀ {M : Mem}, Ext E M → loadF tb1 M.get 28 (.pointer (some ⟨B.next, 0, none⟩)) = .ok (.agg ⟨headC (1 + nx b) (2 + nx b.tail % 8) (nx b.tail.tail + 256 * nx b.tail.tail.tail) xa⟩) := fun e => Go.Am.load_all (tb := tb1) (t := 28) hd1 hd2 (by rw [size28]; rfl) (v1.same ((ECE.trans e).g _ (by omega)))
    obtain ⟨hpok, hpenc⟩ := putSOk_set b
    obtain ⟨y, G, ⟨g5, hg5⟩, EFG, hy, -⟩ := run_rPut (hTE.ext EEF) (by omega) (setD_words b)
    have hy := hy hpok
    rw [hpenc] at hy
    rw [hpok, if_pos rfl] at hg5
    -- both settings are alike
    have EEG := EEF.trans EFG
    have hok : ∀ d ∈ (actsD 60 (restD b)).1, ActOk d := fun d hd => (hds d hd).ok
    have hSE : SetR E (setD b) (headC (1 + nx b) (2 + nx b.tail % 8) (nx b.tail.tail + 256 * nx b.tail.tail.tail) xa) := ⟨xa, rfl, hAE.toG (by omega) hok⟩
    obtain ⟨la, H, ⟨g6, hg6⟩, hTa, EGH⟩ := run_as (hSE.ext EEG)
    have EEH := EEG.trans EGH
    obtain ⟨I, ⟨g7, hg7⟩, EHI⟩ := run_rsame hTa (hTE.ext EEH)
    rw [decide_eq_true rfl] at hg7
    have EEI := EEH.trans EHI
    have hsxI : Slc I 5 bx (byts (encB b)) x := hsx.same ((EFG.trans EGH).trans EHI).n (fun hl => ((EFG.trans EGH).trans EHI).g _ hl)
    obtain ⟨-, bY, hbY, hsy⟩ := hy
    have hsyI : Slc I 5 bY (byts (encB b)) y := hsy.same (EGH.trans EHI).n (fun hl => (EGH.trans EHI).g _ hl)
    have cx := slc_str (tb := tb1) (s := 22) (d := 9) und22 und9 und5 hsxI
    have cy := slc_str (tb := tb1) (s := 22) (d := 9) und22 und9 und5 hsyI
    obtain ⟨J, ⟨g8, hg8⟩, EIJ⟩ := run_same (hSE.ext EEI) (hSE.ext EEI)
    rw [decide_eq_true rfl] at hg8
    have hself := hTE.self
    have t1 := ht (Ext.refl E)
    have t2 := ht EEF
    have t3 := ht EEG
    have t4 := ht EEH
    have r3 := hs28 EEG
    have r5 := hs28 EEI
    clear hxa henc
    apply W.seq
    apply W.run 20
    · intro M
      simp (config := { maxSteps := 4000000 }) (disch := first | decide +kernel | omega) only [c5, Try.f5, Option.getD_some, sub_seq0, sub_nil, T.puts_cons, Nat.reduceAdd, T.puts_nil, exec_region, runOps_cons, opF_assign, ev_bool, putT_some, runOps_nil, R.ok_bind]
      with_reducible rfl
    apply W.seq
    apply W.runG (g1) 20
    · intro M hM
      simp (config := { maxSteps := 4000000 }) (disch := first | decide +kernel | omega) only [c5, Try.f5, Option.getD_some, sub_seq1, sub_seq0, sub_nil, exec_region, runOps_cons, opF_move, ev_tmp, T.get_set, Nat.reduceEqDiff, T.get_e, if_true, if_false, evG_some, putT_some, opF_call, evs, ev_int, R.ok_bind, resK, opF_assign, runOps_nil, hg1]
      with_reducible rfl
    apply W.seq
    apply W.runG (g2) 20
    · intro M hM
      simp (config := { maxSteps := 4000000 }) (disch := first | decide +kernel | omega) only [c5, Try.f5, Option.getD_some, sub_seq1, sub_seq0, sub_nil, exec_region, runOps_cons, opF_move, ev_tmp, T.get_set, Nat.reduceEqDiff, T.get_e, if_true, if_false, evG_some, putT_some, opF_call, evs, R.ok_bind, resK, opF_extract, extractF, opF_alloc, zero28, at_ptr, opF_store, putT_none, opF_assign, runOps_nil, cells_agg, hg2, List.getElem?_cons_zero, List.getElem?_cons_succ, hst]
      with_reducible rfl
    apply W.seq
    apply W.runG (g3) 20
    · intro M hM
      simp (config := { maxSteps := 4000000 }) (disch := first | decide +kernel | omega) only [c5, Try.f5, Option.getD_some, sub_seq1, sub_seq0, sub_nil, exec_region, runOps_cons, opF_move, ev_tmp, T.get_set, Nat.reduceEqDiff, T.get_e, if_true, if_false, evG_some, putT_some, opF_call, evs, R.ok_bind, resK, opF_extract, extractF, opF_alloc, zero48, at_ptr, opF_store, putT_none, opF_assign, runOps_nil, cells_agg, hg3, List.getElem?_cons_zero, List.getElem?_cons_succ, hst2]
      with_reducible rfl
    apply W.seq
    apply W.runG (g4) 20
    · intro M hM
      simp (config := { maxSteps := 4000000 }) (disch := first | decide +kernel | omega) only [c5, Try.f5, Option.getD_some, sub_seq1, sub_seq0, sub_nil, exec_region, runOps_cons, opF_load, ev_tmp, T.get_set, Nat.reduceEqDiff, T.get_e, if_false, if_true, evG_some, putT_some, opF_call, evs, R.ok_bind, resK, opF_move, opF_extract, extractF, opF_assign, runOps_nil, l1, hg4, List.getElem?_cons_zero, List.getElem?_cons_succ]
      with_reducible rfl
    apply W.seq
    apply W.runG (g5) 20
    · intro M hM
      simp (config := { maxSteps := 4000000 }) (disch := first | decide +kernel | omega) only [c5, Try.f5, Option.getD_some, sub_seq1, sub_seq0, sub_nil, exec_region, runOps_cons, opF_load, ev_tmp, T.get_set, Nat.reduceEqDiff, T.get_e, if_false, if_true, evG_some, putT_some, opF_call, evs, R.ok_bind, resK, opF_move, opF_extract, extractF, opF_assign, runOps_nil, t2, hg5, List.getElem?_cons_zero, List.getElem?_cons_succ]
      with_reducible rfl
    apply W.seq
    apply W.runG ((g6+g7+g8)) 20
    · intro M hM
      simp (config := { maxSteps := 4000000 }) (disch := first | decide +kernel | (rw [wantF_guard]; simp only [wantD_some, dstAt_zero, dstAt_succ, T.get_set, T.get_e, Nat.reduceEqDiff, if_true, if_false, wantV_bool, wantV_unit, unitV, cond_true, cond_false, Bool.not_true, Bool.not_false, List.toList_toArray]) | omega) only [c5, Try.f5, Option.getD_some, sub_seq1, sub_seq0, sub_nil, exec_float [(2, 1)], runD_Rd, rOp_load, ev_tmp, T.get_set, Nat.reduceEqDiff, T.get_e, if_false, if_true, evG_some, R.ok_bind, r3, selF_nil, rereadM_nil, Nat.reduceAdd, putT_some, runD_L, List.map_nil, hide_nil, backF_nil, selR_no, selR_nil, rereadR_nil, selF_yes, rereadM_cons, reread_load, Bool.and_true, cond_true, opF_call, evs, resK, t3, rereadV_eq, runD_P, opF_move, hg6, t4, hself, hg7, runD_gP, opF_eql, opF_pick, pickF, ev_bool, binF_int, op_eql, decide_true, runD_gRd, rOp_conv, selF_no, cy, cx, binF_str, str_eql, r5, runD_gL, hg8, opF_assign, runD_end, k8]
      with_reducible rfl
    apply W.run 20
    · intro M
      simp (config := { maxSteps := 4000000 }) (disch := first | decide +kernel | omega) only [c5, Try.f5, Option.getD_some, sub_seq1, sub_nil, exec_ret]
      with_reducible rfl
    refine ⟨.inr rfl, _, [.bool true], rfl, ?_, rfl⟩
    simp only [Try.f5, resF, ev_tmp, T.get_set, Nat.reduceEqDiff, if_true, if_false, evG_some, R.ok_bind]
  subst h2
  exact ⟨A', h1⟩
end Go.Proofs.Ytmhldlnlgjpkaaa.scr

namespace Go.Proofs.Ytmhldlnlgjpkaaa.scriptParses
open Go.ChangeShapes Go.WideShapes Go.ChangeAt Go.RowKit Go.Am
open Go.ChangeMaps (open_string shut_string)
set_option linter.unusedVariables false

theorem own : ownKnob Try.prog.godebug = none := by kernel_rfl
theorem laidOut : laidOutB Try.prog = true := by kernel_rfl

/-- A slice of integers that came in. -/
def IsRow (k : IntKind) (w : World) (a : Option Addr) (len cap : Nat) (zs : List Int) : Prop := ParW k w a len cap zs ∧ ∀ n ∈ zs, (Lit.int k n).wf = true
theorem slice_has {P : Program} {w : World} {base : Nat} {t e : TypeId} {x : Addr} {len cap : Nat} (ht : P.underlying t = some (.slice e)) (h : Value.okWide P w .any base t (.slice (some x) len cap)) : x.spot = none ∧ x.block < w.heap.size := by
  simp only [Value.okWide, Cell.okWide, Cell.ok, ht] at h
  obtain ⟨_, _, _, hsp, row, cells, hsh, _⟩ := h
  refine ⟨hsp, ?_⟩
  unfold World.shape? at hsh
  split at hsh
  · rename_i h2
    exact (Array.getElem?_eq_some_iff.1 h2).1
  · cases hsh

/-! ### The run -/
theorem walk (a0 : Option Addr) (len0 cap0 : Nat) (z0 : List Int) (w : World) (w0 : IsRow .u8 w a0 len0 cap0 z0) :
    Calls Try.prog 5 #[.slice a0 len0 cap0] w fun e w' => e = .returned (.bool true) ∧ Below w.heap.size w w' := by
  obtain ⟨hp, hz⟩ := w0
  have hsh : (z0.take len0).map (.int .u8) = scr.byts ((z0.take len0).map fun z => UInt8.ofNat z.toNat) := by
    simp only [scr.byts, List.map_map]
    apply List.map_congr_left
    intro n hn
    obtain ⟨h0, h1⟩ := bounds_u8 (hz n (List.mem_of_mem_take hn))
    simp only [Function.comp]
    congr 1
    rw [UInt8.toNat_ofNat']
    omega
  exact (par_true scr.tb1_ok hp (scr.fn_at Try.func5) scr.c5_eq (pre := []) (pre' := []) (post := []) (post' := []) (fun ι => .nil) (fun ι => .nil) (fun A x hn hwf hP => by
    rw [hsh] at hP
    exact scr.run_scriptParses _ (scr.RdS.of_par (by omega) hP)) (w := w)).mono fun e w' h => ⟨h.1, h.2.below⟩

/-! ### THE ROW's STEP: WRITTEN OUT: LEAVE IT -/
set_option maxRecDepth 100000 in
theorem lifted (os : Os) (started : os.Started) (H : Type) (enc : TypeId × Value → H) :
    ReturnsInHanded {} Try.checked os 5 .any (Rows.scriptParsesSpec.pre6 enc Try.prog Try.f5 Rows.scriptParsesRow.domain false) (Rows.scriptParsesSpec.post enc Try.prog Try.f5 false true false false) := by
  refine returnsInHanded_of_change (C := Try.checked) own started (by kernel_rfl) Try.func5
    (ChangeSpec.witness6 (enc := enc) (C := Try.checked) false ⟨#[], #[.slice none 0 0], []⟩ 8 (by kernel_rfl) (by kernel_rfl) (by kernel_rfl) (by kernel_rfl)) ?_
  intro W base args ds gs before hval0 hW hcnd _
  have hval : ∀ (j : Nat) t v, Try.f5.params[j]? = some t → args[j]? = some v → Value.okWide Try.prog W .any base t v := hval0
  have hW' := hW
  obtain ⟨p, q, hA0, hV, rfl, hfz, hnd⟩ := hW
  have hA : DataW.TrodAll enc Try.prog W 0 (fun _ => true) true Try.f5.params.toList args.toList ds p := hA0
  rw [Try.params5] at hA hval
  obtain ⟨v0, vs0, d0, ds0, p0, q0, hargs, rfl, rfl, h0, r0⟩ := trodAll_cons hA
  obtain ⟨rfl, rfl, rfl⟩ := trodAll_nil r0
  obtain rfl : args = #[v0] := by cases args; simp_all
  obtain ⟨rfl, rfl⟩ := trodVars_none hV
  obtain ⟨a0, len0, cap0, rfl⟩ := okWide_slice Try.underlying22 (hval 0 22 v0 rfl rfl)
  have k0 := h0
  have lt0 : ∀ x ∈ p0, x.block < W.heap.size := by obtain ⟨m, hm⟩ := k0; exact DataW.trod_lt m _ _ _ hm
  obtain ⟨z0, w0⟩ : ∃ zs, IsRow .u8 W a0 len0 cap0 zs := by
    obtain ⟨fuel, hf⟩ := h0
    rcases open_ints Try.underlying22 Try.underlying5 (by kernel_rfl) hf with ⟨hcs, _⟩ | ⟨x, l, c, zs, hcs, _, hl, hm, hz, _, hcell, hwz⟩
    · simp [Value.cells] at hcs
      obtain ⟨rfl, rfl, rfl⟩ := hcs
      exact ⟨[], .inl ⟨rfl, rfl, rfl, rfl⟩, fun n h => by cases h⟩
    · simp [Value.cells] at hcs
      obtain ⟨rfl, rfl, rfl⟩ := hcs
      exact ⟨zs, .inr ⟨_, rfl, (slice_has Try.underlying22 (hval 0 22 _ rfl rfl)).1, (slice_has Try.underlying22 (hval 0 22 _ rfl rfl)).2, hl, Nat.lt_of_le_of_lt hm (by decide), by simpa using hz, hcell⟩, hwz⟩
  clear hA0 hval0
  refine (walk a0 len0 cap0 z0 W w0).mono fun e W' ⟨he, bel⟩ => ?_
  subst he
  exact ⟨_, rfl, _, _, _, [], _, [], hW', trodAll_mk1 (shut_bool Try.underlying4 _), (trodAll_cons_mk (Below.trod laidOut (by kernel_rfl) (of_decide_eq_true (by kernel_rfl)) k0 bel lt0) trodAll_mk0), rfl, bel.frame _, fun h => by cases h⟩

theorem over : Rows.scriptParsesRow.holds Try.pinned (OpenSpec.ofChange Rows.scriptParsesSpec) :=
  OpenClaim.holds_of_wide 5 Try.f5 rfl rfl rfl rfl rfl rfl rfl ⟨rfl, rfl, rfl, rfl, rfl⟩ rfl rfl rfl rfl rfl (by kernel_rfl) Try.func5 (by kernel_rfl)
    (of_decide_eq_true (by kernel_rfl)) (by unfold Func.isWrapper; first | (rw [if_pos (by decide +kernel)]; kernel_rfl) | (rw [if_neg (by decide +kernel)]; exact ⟨rfl, rfl⟩))
    (fun os started H enc _ => lifted os started H enc)

/-- ████ THE STATEMENT ████ -/
theorem proved : Rows.ScriptParsesSaid := over
#print axioms proved
end Go.Proofs.Ytmhldlnlgjpkaaa.scriptParses
