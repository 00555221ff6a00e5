/-
  The statement ModelUpdates holds, for every input: the program, run on the abstract machine AM on values of which parts are variables, answers true; what AM answers the model answers. No conditions.
-/
import Derived.Test.YtnelkapmmgggdaaRows
import Derived.Test.YtnelkapmmgggdaaMdlB
import Derived.WalkKit
import Derived.ProofKit
import Derived.OpenShut
import Derived.ShutString
import Derived.ChangeOld
import Derived.Below
import Derived.Deep.Slices
import Derived.Deep.Fields
import Derived.ChangeSame
namespace Go.Proofs.Ytnelkapmmgggdaa.mdl
open Go.Am Go.Mdl
set_option linter.unusedSimpArgs false
set_option linter.unusedVariables false
set_option linter.unusedVariables false

theorem selfIntD (d : Nat) (k : IntKind) (n : Int) : sameV (d + 1) (.int k n) (.int k n) = true := by
  rw [sameV]
  simp only [ieqF_iff]
  cases k <;> simp [kindEq]
theorem selfStrD (d : Nat) (l : List UInt8) : sameV (d + 1) (strOf l) (strOf l) = true := by
  show bytesEq _ _ = true
  rw [bytesEq_eq]
  simp
theorem selfBoolD (d : Nat) (b : Bool) : sameV (d + 1) (.bool b) (.bool b) = true := by cases b <;> rfl
theorem BytS.selfD {A : Mem} {ls : List UInt8} {x : Value} (h : BytS A ls x) (d : Nat) : sameV (d + 1) x x = true := by
  rcases h with ⟨rfl, rfl⟩ | ⟨rfl, rfl⟩ | ⟨q, off, cp, rfl, -⟩
  · simp [sameV]
  · rfl
  · simp [sameV, sameA, sameN]
theorem selfIn {A : Mem} {o : OpI} (h : BytS A o.dr.ls o.dr.xl) : sameV 100 (.agg ⟨inC o⟩) (.agg ⟨inC o⟩) = true := by
  show sameV (98 + 2) _ _ = true
  rw [sameV]
  simp [inC, selfIntD, selfStrD, selfBoolD, h.selfD]
theorem i30_0 {b : Nat} : indexAddrF tb4 30 (.pointer (some ⟨b, 0, none⟩)) (.int .i64 ((0 : Nat) : Int)) = .ok (.pointer (some ⟨b, 0, none⟩)) := by kernel_rfl
theorem i30_1 {b : Nat} : indexAddrF tb4 30 (.pointer (some ⟨b, 0, none⟩)) (.int .i64 ((1 : Nat) : Int)) = .ok (.pointer (some ⟨b, 8, none⟩)) := by kernel_rfl
theorem size29 : sizeF tb4 29 = .ok 8 := by kernel_rfl
theorem und29 : ∃ d, tb4.und 29 = some d ∧ isAggD d = true := by
  have h : (tb4.und 29).map isAggD = some true := by kernel_rfl
  cases hq : tb4.und 29 with
  | none => rw [hq] at h; cases h
  | some d => rw [hq] at h; exact ⟨d, rfl, by simpa using h⟩
/-- The law's own kinds. -/
def newK (o : OpI) : OpV := { opD o with kind := ((opD o).kind + ((1 : Nat) : Int)).tmod ((3 : Nat) : Int) }
theorem opD_kind (o : OpI) : -1 ≤ (opD o).kind ∧ (opD o).kind ≤ 9 := by
  unfold opD
  show -1 ≤ (if 100 < o.kd then ((o.kd % 3 : Nat) : Int) else ((o.kd % 11 : Nat) : Int) - 1) ∧ (if 100 < o.kd then ((o.kd % 3 : Nat) : Int) else ((o.kd % 11 : Nat) : Int) - 1) ≤ 9
  split <;> omega
theorem newK_ok (o : OpI) : KOk (newK o) := by
  obtain ⟨h1, h2⟩ := opD_kind o
  have h3 : (newK o).kind = ((opD o).kind + 1) % 3 := Int.tmod_eq_emod_of_nonneg (by omega)
  unfold KOk
  rw [h3]
  omega
theorem wordD_len (ls : List UInt8) : (wordD ls).length ≤ 9 := by
  unfold wordD
  split
  · simp
  · rw [List.length_map, List.length_take]; omega
theorem opD_word (o : OpI) : (opD o).word.length ≤ 300 := by
  unfold opD
  show (if o.told % 16 = 9 then o.raw.take (min o.raw.length 300) else (dE o.dr).word).length ≤ 300
  split
  · rw [List.length_take]; omega
  · have h1 := wordD_len o.dr.ls
    have h2 : (dE o.dr).word = wordD o.dr.ls := by
      unfold dE entD norm
      split <;> rfl
    rw [h2]; omega
theorem c3_3 : sub c3 [1,1,1] = .seq (sub c3 [1,1,1,0]) (.seq (sub c3 [1,1,1,1,0]) (.seq (sub c3 [1,1,1,1,1,0]) (sub c3 [1,1,1,1,1,1]))) := by kernel_rfl
set_option maxHeartbeats 8000000 in
set_option maxRecDepth 20000 in
theorem law_3 {C : Mem} {d : List EntD} {x5 : Value} {p : Nat} {o1 o2 : OpI} {t : T Value} {K : Ex → St → Prop} (h5 : EntE C d x5) (hok : OkD d) (hd : d.length < 900) (hp : p < C.next) (hv : Vals C 30 p (.var 16) (inC o1 ++ inC o2)) (h1 : InOk C o1) (h2 : InOk C o2)
    (ht : Sl t [(3, .pointer (some ⟨p, 0, none⟩)), (5, x5)]) (hK : ∀ t' C', t'.get 4 = some (.bool true) → K .ret ⟨t', 224, [], C', none⟩) :
    W tb4 (sub c3 [1,1,1]) ⟨t, 224, [], C, none⟩ K := by
  obtain ⟨g3, g5, -⟩ := ht
  rw [c3_3]
  obtain ⟨d29, e1, e2⟩ := und29
  have l1 : ∀ D : Mem, Vals D 30 p (.var 16) (inC o1 ++ inC o2) → loadF tb4 D.get 29 (.pointer (some ⟨p, 0, none⟩)) = .ok (.agg ⟨inC o1⟩) := fun D hD => load_part e1 e2 size29 hD rfl (by show 0 + 8 ≤ 16; decide) fun j hj => by
    rw [Nat.zero_add, List.getElem?_append_left (by show j < 8; exact hj)]
  have l2 : ∀ D : Mem, Vals D 30 p (.var 16) (inC o1 ++ inC o2) → loadF tb4 D.get 29 (.pointer (some ⟨p, 8, none⟩)) = .ok (.agg ⟨inC o2⟩) := fun D hD => load_part e1 e2 size29 hD rfl (by show 8 + 8 ≤ 16; decide) fun j hj => by
    rw [List.getElem?_append_right (by show 8 ≤ 8 + j; omega)]
    show (inC o2)[8 + j - 8]? = _
    rw [Nat.add_sub_cancel_left]
  obtain ⟨C1, ⟨ga, hga⟩, k1⟩ := run_op h1
  obtain ⟨C2, ⟨gb, hgb⟩, k2⟩ := run_op (h2.kp k1)
  have a1 := l1 C hv
  have b0 := l2 C hv
  have hv1 := hv.same (k1.2 _ hp)
  have b1 := l2 C1 hv1
  have hself := selfIn h2.by_
  -- the two variables
  have z1 : Vals ((C2.alloc (rowOb 38 opZ)).alloc (rowOb 38 opZ)) 38 C2.next (.var 5) opZ := (vals_puts (get_alloc_self _ _)).same (get_alloc_ne (by rw [next_alloc]; omega))
  have z2 : Vals ((C2.alloc (rowOb 38 opZ)).alloc (rowOb 38 opZ)) 38 (C2.next + 1) (.var 5) opZ := vals_puts (get_alloc_self _ _)
  obtain ⟨D1, s1, v1, n1, f1⟩ := store_all (tb := tb4) (t := 38) (l := opZ) (l' := opC (opD o1)) size38 z1 rfl (by simp [opZ]) (opC_one _)
  obtain ⟨D2, s2, v2, n2, f2⟩ := store_all (tb := tb4) (t := 38) (l := opZ) (l' := opC (opD o2)) size38 (z2.same (f1 _ (by omega))) rfl (by simp [opZ]) (opC_one _)
  rw [next_alloc, next_alloc] at n1
  have v1' : Vals D2 38 C2.next (.var 5) (opC (opD o1)) := v1.same (f2 _ (by omega))
  have kC2 := k1.trans k2
  have kD2 : Kp C2 D2 := ⟨by omega, fun z hz => by rw [f2 z (by omega), f1 z (by omega), get_alloc_ne (by rw [next_alloc]; omega), get_alloc_ne (by omega)]⟩
  apply W.seq
  apply W.runG ((ga+gb)) 20
  · intro M hM
    simp (config := { maxSteps := 4000000 }) (disch := first | decide +kernel | omega) only [c3, Try.f3, Option.getD_some, sub_seq1, sub_seq0, sub_nil, exec_float [(4, 2)], runD_P, Nat.reduceAdd, opF_indexAddr, ev_tmp, g3, evG_some, ev_int, putT_some, runD_Rd, rOp_load, T.get_set, if_true, R.ok_bind, selF_nil, rereadM_nil, runD_L, List.map_nil, hide_nil, backF_nil, selR_no, selR_nil, rereadR_nil, cond_true, opF_call, evs, Nat.reduceEqDiff, if_false, resK, selF_yes, rereadM_cons, reread_load, Bool.and_true, runD_Al, opF_alloc, z38, at_ptr, cells_agg, next_alloc, selF_no, runD_end, opF_store, putT_none, i30_1, b0, rereadV_eq, i30_0, a1, hga, b1, hself, hgb, s1, s2]
    with_reducible rfl
  show W tb4 _ _ _
  refine W_gen [(5, x5), (6, .pointer (some ⟨C2.next, 0, none⟩)), (7, .pointer (some ⟨C2.next + 1, 0, none⟩))] (by simp only [Sl_cons, Sl_nil, T.get_set, T.puts_cons, T.puts_nil, Nat.reduceEqDiff, Nat.reduceAdd, if_true, if_false, and_true, true_and, g5]) fun t ht => ?_
  clear g3 g5
  obtain ⟨g5, g6, g7, -⟩ := ht
  -- the kinds
  have lk1 : loadF tb4 D2.get 3 (.pointer (some ⟨C2.next, 0, none⟩)) = .ok (.int .i64 (opD o1).kind) := load_vals und3' rfl v1' rfl
  obtain ⟨q1, q2⟩ := opD_kind o1
  obtain ⟨r1, r2⟩ := opD_kind o2
  have ad1 := op_addI (a := (opD o1).kind) (b := ((1 : Nat) : Int)) (by omega) (by omega)
  have ad2 := op_addI (a := (opD o2).kind) (b := ((1 : Nat) : Int)) (by omega) (by omega)
  have rm1 : intOpF .rem .i64 ((opD o1).kind + ((1 : Nat) : Int)) ((3 : Nat) : Int) = .ok (.int .i64 (newK o1).kind) := op_remI (by decide)
  have rm2 : intOpF .rem .i64 ((opD o2).kind + ((1 : Nat) : Int)) ((3 : Nat) : Int) = .ok (.int .i64 (newK o2).kind) := op_remI (by decide)
  obtain ⟨E1, s3, w1, m1, u1⟩ := store_vals (tb := tb4) (t := 3) (o := 0) (v := .int .i64 (newK o1).kind) size3' v1' (by show 0 < 5; decide) rfl rfl
  have v2' : Vals E1 38 (C2.next + 1) (.var 5) (opC (opD o2)) := v2.same (u1 _ (by omega))
  have lk2 : loadF tb4 E1.get 3 (.pointer (some ⟨C2.next + 1, 0, none⟩)) = .ok (.int .i64 (opD o2).kind) := load_vals und3' rfl v2' rfl
  obtain ⟨E2, s4, w2, m2, u2⟩ := store_vals (tb := tb4) (t := 3) (o := 0) (v := .int .i64 (newK o2).kind) size3' v2' (by show 0 < 5; decide) rfl rfl
  have x1 : VarO E2 C2.next (newK o1) := ⟨by omega, Vals.same w1 (u2 _ (by omega))⟩
  have x2 : VarO E2 (C2.next + 1) (newK o2) := ⟨by omega, w2⟩
  have kE2 : Kp C2 E2 := ⟨by omega, fun z hz => by rw [u2 z (by omega), u1 z (by omega), kD2.2 z hz]⟩
  apply W.seq
  apply W.run 20
  · intro M
    simp (config := { maxSteps := 4000000 }) (disch := first | decide +kernel | omega) only [c3, Try.f3, Option.getD_some, sub_seq1, sub_seq0, sub_nil, exec_region, runOps_cons, opF_fieldAddr, ev_tmp, g6, evG_some, putT_some, opF_load, T.get_set, if_true, opF_ari, Nat.reduceEqDiff, if_false, ev_int, opF_store, putT_none, runOps_nil, R.ok_bind, f38_0, lk1, binF_int, ad1, rm1, s3]
    with_reducible rfl
  show W tb4 _ _ _
  refine W_gen [(5, x5), (6, .pointer (some ⟨C2.next, 0, none⟩)), (7, .pointer (some ⟨C2.next + 1, 0, none⟩))] (by simp only [Sl_cons, Sl_nil, T.get_set, T.puts_cons, T.puts_nil, Nat.reduceEqDiff, Nat.reduceAdd, if_true, if_false, and_true, true_and, g5, g6, g7]) fun t ht => ?_
  clear g5 g6 g7
  obtain ⟨g5, g6, g7, -⟩ := ht
  apply W.seq
  apply W.run 20
  · intro M
    simp (config := { maxSteps := 4000000 }) (disch := first | decide +kernel | omega) only [c3, Try.f3, Option.getD_some, sub_seq1, sub_seq0, sub_nil, exec_region, runOps_cons, opF_fieldAddr, ev_tmp, g7, evG_some, putT_some, opF_load, T.get_set, if_true, opF_ari, Nat.reduceEqDiff, if_false, ev_int, opF_store, putT_none, runOps_nil, R.ok_bind, f38_0, lk2, binF_int, ad2, rm2, s4]
    with_reducible rfl
  show W tb4 _ _ _
  have hw := opD_word o1
  exact law_6 (a := newK o1) (b := newK o2) (h5.kp (kC2.trans kE2)) hok hd x1 x2 (newK_ok o1) (newK_ok o2) (by show (opD o1).word.length < _; omega) (by simp only [Sl_cons, Sl_nil, T.get_set, T.puts_cons, T.puts_nil, Nat.reduceEqDiff, Nat.reduceAdd, if_true, if_false, and_true, true_and, g5, g6, g7]) hK
theorem c3_eq : Try.f3.body = some (.seq (sub c3 [0]) (.seq (sub c3 [1,0]) (.seq (sub c3 [1,1,0]) (sub c3 [1,1,1])))) := by kernel_rfl
set_option maxHeartbeats 8000000 in
set_option maxRecDepth 20000 in
/-- THE LAW. -/
theorem run_modelUpdates {A : Mem} {x0 : Value} {ds : List DrD} {o1 o2 : OpI} (hx : DrS A ds x0) (h1 : InOk A o1) (h2 : InOk A o2) : ∃ A', CallsTo tb4 3 [x0, .agg ⟨inC o1 ++ inC o2⟩] A (.bool true) A' := by
  obtain ⟨v, A', hg, rfl⟩ : ∃ v A', CallsTo tb4 3 [x0, .agg ⟨inC o1 ++ inC o2⟩] A v A' ∧ v = .bool true := by
    refine call_of_W (fn_at Try.func3) c3_eq (by rw [Try.ntmps3]; simp) ?_
    have k0 := Kp.alloc A (rowOb 30 (inC o1 ++ inC o2))
    have hv : Vals (A.alloc (rowOb 30 (inC o1 ++ inC o2))) 30 A.next (.var 16) (inC o1 ++ inC o2) := vals_puts (get_alloc_self _ _)
    have hn := next_alloc A (rowOb 30 (inC o1 ++ inC o2))
    apply W.seq
    apply W.run 20
    · intro M
      simp (config := { maxSteps := 4000000 }) (disch := first | decide +kernel | omega) only [c3, Try.f3, Option.getD_some, sub_seq0, sub_nil, T.puts_cons, Nat.reduceAdd, T.puts_nil, exec_region, runOps_cons, opF_box, ev_tmp, T.get_set, Nat.reduceEqDiff, T.get_e, if_false, if_true, evG_some, at_ptr, putT_some, opF_assign, ev_bool, runOps_nil, R.ok_bind, cells_agg]
      with_reducible rfl
    show W tb4 _ _ _
    generalize A.alloc (rowOb 30 (inC o1 ++ inC o2)) = B at k0 hv hn
    apply W.seq
    apply W.run 20
    · intro M
      simp (config := { maxSteps := 4000000 }) (disch := first | decide +kernel | omega) only [c3, Try.f3, Option.getD_some, sub_seq1, sub_seq0, sub_nil, exec_seq, exec_region, runOps_cons, opF_call, evs, resK, putT_some, opF_un, ev_tmp, T.get_set, Nat.reduceEqDiff, T.get_e, if_false, if_true, evG_some, runOps_nil, R.ok_bind, k6, un_not, Bool.not_true, exec_cond, opF_assign, ev_bool, exec_ret, exec_skip]
      with_reducible rfl
    show W tb4 _ _ _
    obtain ⟨y1, B1, ⟨g1, hg1⟩, he1, k1⟩ := run_entries (n := 20) (hx.kp k0) (by omega)
    obtain ⟨bo, hb⟩ := he1
    have hl : ((ds.take 20).map dE).length ≤ 20 := by rw [List.length_map, List.length_take]; omega
    generalize (ds.take 20).map dE = own at hb hl
    obtain ⟨q, B2, b2, y2, ⟨g2, hg2⟩, hN, hq, hq1, hq2, -, -, kk2⟩ := run_new hb hb.lt (by omega)
    have hasc : Asc (newL own) := live_asc (withL_asc (by trivial))
    have hln : (newL own).length ≤ 20 := by
      have e1 := live_le (withL [] own)
      have e2 := withL_len (own := []) (more := own) trivial
      simp only [List.length_nil] at e2
      show (Go.Mdl.live _).length ≤ 20
      omega
    obtain ⟨y3, B3, b3, ⟨g3, hg3⟩, hD, n3, -, -, kk3⟩ := run_words hN hq hN.lt (by omega)
    have k2 : Kp B1 B2 := ⟨by omega, kk2⟩
    have k3 : Kp B2 B3 := ⟨n3, kk3⟩
    have kB := (k1.trans k2).trans k3
    apply W.seq
    apply W.runG ((g1+g2+g3)) 20
    · intro M hM
      simp (config := { maxSteps := 4000000 }) (disch := first | decide +kernel | omega) only [c3, Try.f3, Option.getD_some, sub_seq1, sub_seq0, sub_nil, exec_region, runOps_cons, opF_move, ev_tmp, T.get_set, Nat.reduceEqDiff, T.get_e, if_true, if_false, evG_some, putT_some, opF_call, evs, ev_int, R.ok_bind, resK, opF_assign, runOps_nil, hg1, hg2, hg3]
      with_reducible rfl
    show W tb4 _ _ _
    refine law_3 (d := Go.Mdl.live (newL own)) (x5 := y3) (p := A.next) (o1 := o1) (o2 := o2) ⟨b3, hD⟩ (live_ok hasc) ?_ ?_ (hv.same (kB.2 _ (by omega))) ((h1.kp k0).kp kB) ((h2.kp k0).kp kB) (by simp only [Sl_cons, Sl_nil, T.get_set, T.puts_cons, T.puts_nil, Nat.reduceEqDiff, Nat.reduceAdd, if_true, if_false, and_true, true_and]) fun t' C' h4 => ?_
    · have := live_le (newL own); omega
    · have := kB.1; omega
    · refine ⟨.inr rfl, C', [.bool true], rfl, ?_, rfl⟩
      simp only [Try.f3, resF, h4, evG_some, R.ok_bind, ev_tmp]
  exact ⟨A', hg⟩
end Go.Proofs.Ytnelkapmmgggdaa.mdl

namespace Go.Proofs.Ytnelkapmmgggdaa.modelUpdates
open Go.ChangeShapes Go.WideShapes Go.ChangeAt Go.RowKit Go.Deep Go.Am
open Go.ChangeMaps (open_string shut_string)
set_option linter.unusedVariables false

theorem own : ownKnob Try.prog.godebug = none := by kernel_rfl
theorem laidOut : laidOutB Try.prog = true := by kernel_rfl
theorem byte_eq {x : Int} (h : (Lit.int .u8 x).wf = true) : Value.int .u8 x = .int .u8 ((x.toNat : Nat) : Int) ∧ x.toNat < 256 := by
  obtain ⟨h0, h1⟩ := bounds_u8 h
  rw [Int.toNat_of_nonneg h0]
  exact ⟨rfl, by omega⟩
theorem small_eq {x : Int} (h : (Lit.int .i8 x).wf = true) : -128 ≤ x ∧ x ≤ 127 := by
  simp [Lit.wf, IntKind.min, IntKind.max, IntKind.signed, IntKind.bits] at h
  omega
theorem word_eq {x : Int} (h : (Lit.int .u32 x).wf = true) : Value.int .u32 x = .int .u32 ((x.toNat : Nat) : Int) := by
  simp [Lit.wf, IntKind.min, IntKind.max, IntKind.signed, IntKind.bits] at h
  rw [Int.toNat_of_nonneg (by omega)]
section
variable {H : Type} {enc : TypeId × Value → H} {P : Program} {w : World} {base : Nat} {spare : Nat → Bool} {held : Bool}
theorem open_slice_fields {t e : TypeId} {fs : Array Field} {fuel : Nat} {cs : List Value} {x : DataW H × List MemPlace} (ht : P.underlying t = some (.slice e)) (he : P.underlying e = some (.struct fs))
    (hone : oneCellFields P fs = true) (hC : P.cellsOf e = fs.size) (h : DataW.trod enc P w base spare held fuel t cs = some x) :
    (cs = [.slice none 0 0] ∧ x = (.nil, [])) ∨
    ∃ (a : Addr) (len cap m : Nat), cs = [.slice (some a) len cap] ∧ len ≤ cap ∧ cap ≤ maxLen ∧ m = (if spare a.block then cap else len) ∧
      ∀ i, i < m → ∃ (n : Nat), ∀ (j : Nat) (f : Field), fs[j]? = some f → ∃ (v : Value) (y : DataW H × List MemPlace), w.cell? (a.add (i * fs.size + j)) = some v ∧ DataW.trod enc P w base spare held n f.type [v] = some y := by
  rcases open_slice ht h with h0 | ⟨a, len, cap, m, n, D, Pl, hcs, hb, hl, hm, hmm, hx, hi⟩
  · exact .inl h0
  · refine .inr ⟨a, len, cap, m, hcs, hl, hm, hmm, fun i him => ?_⟩
    obtain ⟨cs', hc, ht'⟩ := hi i him
    rw [hC] at hc
    obtain ⟨ys, n', hn', hy, hlen, hyl, hf⟩ := DataW.trod_struct he ht'
    obtain ⟨_, hcl, hat⟩ := World.cells?_some hc
    refine ⟨n', fun j f hj => ?_⟩
    obtain ⟨ho, hk⟩ := hone_of hone j f hj
    have hjl : j < fs.size := (Array.getElem?_eq_some_iff.1 hj).1
    have hcell := hat j hjl
    have hv : cs'[j]? = some (cs'[j]'(by omega)) := List.getElem?_eq_getElem (by omega)
    have h1 := hf j f hj
    rw [ho, hk] at h1
    have hone' : (cs'.drop j).take 1 = [cs'[j]'(by omega)] := by
      rw [List.drop_eq_getElem_cons (by omega)]
      rfl
    rw [hone'] at h1
    have hys : ys[j]? = some (ys[j]'(by omega)) := List.getElem?_eq_getElem (by omega)
    refine ⟨_, _, ?_, h1.trans hys⟩
    rw [← Go.Deep.add_add, hcell, hv]
end

/-! ### Letters, drafts, operations in the model's memory -/
def bytV (ls : List UInt8) : List Value := ls.map fun b => .int .u8 ((b.toNat : Nat) : Int)
/-- Letters. -/
def LetW (w : World) (v : Value) (ls : List UInt8) : Prop := ParN w 1 v ls.length (bytV ls)
section
variable {H : Type} {enc : TypeId × Value → H} {w : World} {base fuel : Nat} {held : Bool}
theorem letters_of {v : Value} {x : DataW H × List MemPlace} (h : DataW.trod enc Try.prog w base (fun _ => true) held fuel 23 [v] = some x) : ∃ ls, LetW w v ls := by
  rcases open_ints Try.underlying23 Try.underlying5 (by kernel_rfl) h with ⟨hcs, _⟩ | ⟨a, len, cap, zs, hcs, -, hl, hm, hz, -, hcell, hwf⟩
  · simp only [List.cons.injEq, and_true] at hcs
    subst hcs
    exact ⟨[], .inl ⟨rfl, rfl⟩⟩
  · simp only [List.cons.injEq, and_true] at hcs
    subst hcs
    simp only [if_true] at hz
    by_cases hc0 : cap = 0
    · subst hc0
      have hl0 : len = 0 := by omega
      subst hl0
      exact ⟨[], .inr (.inl ⟨a, rfl, rfl⟩)⟩
    · have hlen : ((zs.take len).map fun z => UInt8.ofNat z.toNat).length = len := by
        rw [List.length_map, List.length_take]; omega
      refine ⟨(zs.take len).map fun z => UInt8.ofNat z.toNat, .inr (.inr ⟨a, cap, by rw [hlen], by omega, by rw [hlen]; exact hl, Nat.lt_of_le_of_lt hm (by decide), fun i hi => ⟨_, hcell i (by omega)⟩, by rw [bytV, List.length_map, Nat.mul_one], fun i c hi => ?_⟩)⟩
      have hil := (List.getElem?_eq_some_iff.1 hi).1
      rw [bytV, List.length_map, hlen] at hil
      rw [hcell i (by omega)]
      unfold bytV at hi
      rw [List.getElem?_map, List.getElem?_map, List.getElem?_take, if_pos hil, List.getElem?_eq_getElem (by omega)] at hi
      simp only [Option.map_some, Option.some.injEq] at hi
      have hzi : zs.getD i 0 = zs[i]'(by omega) := by
        rw [List.getD_eq_getElem?_getD, List.getElem?_eq_getElem (by omega)]; rfl
      have hb := byte_eq (hwf (zs[i]'(by omega)) (List.getElem_mem _))
      rw [hzi, ← hi, hb.1, UInt8.toNat_ofNat', Nat.mod_eq_of_lt hb.2]
/-- A draft, in the model. -/
structure DrM where
  v : Value
  ls : List UInt8
  wt : Nat
  gone : Bool
def drMC (d : DrM) : List Value := [d.v, .int .u32 (d.wt : Int), .bool d.gone]
theorem one_draft {v0 v1 v2 : Value} {n0 n1 n2 : Nat} {y0 y1 y2 : DataW H × List MemPlace} (t0 : DataW.trod enc Try.prog w base (fun _ => true) held n0 23 [v0] = some y0) (t1 : DataW.trod enc Try.prog w base (fun _ => true) held n1 24 [v1] = some y1) (t2 : DataW.trod enc Try.prog w base (fun _ => true) held n2 4 [v2] = some y2) :
    ∃ d : DrM, drMC d = [v0, v1, v2] ∧ LetW w d.v d.ls := by
  obtain ⟨ls, hl⟩ := letters_of t0
  obtain ⟨m, c1, -, w1⟩ := DataW.trod_int Try.underlying24 t1
  obtain ⟨b, c2, -⟩ := DataW.trod_bool Try.underlying4 t2
  simp only [List.cons.injEq, and_true] at c1 c2
  subst c1 c2
  exact ⟨⟨v0, ls, m.toNat, b⟩, by unfold drMC; rw [← word_eq w1], hl⟩
theorem drafts_of {v : Value} {x : DataW H × List MemPlace} (h : DataW.trod enc Try.prog w base (fun _ => true) held fuel 22 [v] = some x) :
    ∃ ms : List DrM, (∀ m ∈ ms, LetW w m.v m.ls) ∧ ParN w 3 v ms.length (ms.map drMC).flatten := by
  rcases open_slice_fields Try.underlying22 Try.underlying26 (by kernel_rfl) (by kernel_rfl) h with ⟨hcs, _⟩ | ⟨a, len, cap, m, hcs, hl, hm, hz, hcell⟩
  · simp only [List.cons.injEq, and_true] at hcs
    subst hcs
    exact ⟨[], (fun m hm => by cases hm), .inl ⟨rfl, rfl⟩⟩
  · simp only [List.cons.injEq, and_true] at hcs
    subst hcs
    simp only [if_true] at hz
    subst hz
    by_cases hc0 : m = 0
    · subst hc0
      have hl0 : len = 0 := by omega
      subst hl0
      exact ⟨[], (fun m hm => by cases hm), .inr (.inl ⟨a, rfl, rfl⟩)⟩
    · obtain ⟨f, hf⟩ := Classical.axiomOfChoice (r := fun (i : Nat) (d : DrM) => i < m → LetW w d.v d.ls ∧ ∀ j, j < 3 → w.cell? (a.add (i * 3 + j)) = (drMC d)[j]?) (fun i => by
        by_cases hi : i < m
        · obtain ⟨n, hfi⟩ := hcell i hi
          obtain ⟨u0, y0, e0, t0⟩ := hfi 0 _ rfl
          obtain ⟨u1, y1, e1, t1⟩ := hfi 1 _ rfl
          obtain ⟨u2, y2, e2, t2⟩ := hfi 2 _ rfl
          obtain ⟨d, hd, hlw⟩ := one_draft t0 t1 t2
          refine ⟨d, fun _ => ⟨hlw, fun j hj => ?_⟩⟩
          rw [hd]
          have : j = 0 ∨ j = 1 ∨ j = 2 := by omega
          rcases this with rfl | rfl | rfl
          · exact e0
          · exact e1
          · exact e2
        · exact ⟨⟨.bool true, [], 0, false⟩, fun h => absurd h hi⟩)
      have hlen3 : ∀ l ∈ ((List.range len).map f).map drMC, l.length = 3 := fun l hl => by
        obtain ⟨d, -, rfl⟩ := List.mem_map.1 hl
        rfl
      have hll : ((List.range len).map f).length = len := by rw [List.length_map, List.length_range]
      refine ⟨(List.range len).map f, fun d hd => ?_, .inr (.inr ⟨a, m, by rw [hll], by omega, by rw [hll]; exact hl, Nat.lt_of_le_of_lt hm (by decide), fun i hi => ?_, by rw [flat_len hlen3, List.length_map], fun i c hi => ?_⟩)⟩
      · obtain ⟨i, hi, rfl⟩ := List.mem_map.1 hd
        exact (hf i (by have := List.mem_range.1 hi; omega)).1
      · have hi3 : i / 3 < m := by omega
        have e : i / 3 * 3 + i % 3 = i := by omega
        have := (hf (i / 3) hi3).2 (i % 3) (Nat.mod_lt _ (by omega))
        rw [e] at this
        rw [this, List.getElem?_eq_getElem (show i % 3 < (drMC (f (i / 3))).length from Nat.mod_lt _ (by omega))]
        exact ⟨_, rfl⟩
      · have hiv := (List.getElem?_eq_some_iff.1 hi).1
        rw [flat_len hlen3, List.length_map, hll] at hiv
        have hi3 : i / 3 < len := by omega
        have e : i / 3 * 3 + i % 3 = i := by omega
        have g := flat_get hlen3 (i := i / 3) (j := i % 3) (l := drMC (f (i / 3))) (by rw [List.getElem?_map, List.getElem?_map, List.getElem?_range hi3]; rfl) (Nat.mod_lt _ (by omega))
        rw [e, hi] at g
        have := (hf (i / 3) (by omega)).2 (i % 3) (Nat.mod_lt _ (by omega))
        rw [e] at this
        rw [this, ← g]
/-- An operation's draft, in the model. -/
structure OpM where
  kd : Nat
  told : Nat
  dr : DrM
  k : Int
  n : Int
  raw : ByteArray
def opMC (o : OpM) : List Value := [.int .u8 (o.kd : Int), .int .u8 (o.told : Int), o.dr.v, .int .u32 (o.dr.wt : Int), .bool o.dr.gone, .int .i8 o.k, .int .i8 o.n, .string o.raw]
structure OpOk (w : World) (o : OpM) : Prop where
  kd : o.kd < 256
  told : o.told < 256
  k : -128 ≤ o.k ∧ o.k ≤ 127
  n : -128 ≤ o.n ∧ o.n ≤ 127
  raw : o.raw.size ≤ maxLen
  dr : LetW w o.dr.v o.dr.ls
set_option maxRecDepth 100000 in
theorem op_of {cs : List Value} {x : DataW H × List MemPlace} (h : DataW.trod enc Try.prog w base (fun _ => true) held fuel 29 cs = some x) : ∃ o : OpM, cs = opMC o ∧ OpOk w o := by
  obtain ⟨xs, n, -, -, hlen, hxl0, hf⟩ := DataW.trod_struct Try.underlying29 h
  have h8 : Try.prog.cellsOf 29 = 8 := by kernel_rfl
  rw [h8] at hlen
  have k5 : Try.prog.cellsOf 5 = 1 := by kernel_rfl
  have k26 : Try.prog.cellsOf 26 = 3 := by kernel_rfl
  have k27 : Try.prog.cellsOf 27 = 1 := by kernel_rfl
  have k9 : Try.prog.cellsOf 9 = 1 := by kernel_rfl
  have k23 : Try.prog.cellsOf 23 = 1 := by kernel_rfl
  have k24 : Try.prog.cellsOf 24 = 1 := by kernel_rfl
  have k4 : Try.prog.cellsOf 4 = 1 := by kernel_rfl
  match cs, hlen with
  | [c0, c1, c2, c3, c4, c5, c6, c7], _ =>
    have f0 := hf 0 { name := "Kind", type := 5, offset := 0, embedded := false, tag := "", pkgPath := "", byteOffset := 0 } rfl
    have f1 := hf 1 { name := "Told", type := 5, offset := 1, embedded := false, tag := "", pkgPath := "", byteOffset := 1 } rfl
    have f2 := hf 2 { name := "E", type := 26, offset := 2, embedded := false, tag := "", pkgPath := "", byteOffset := 8 } rfl
    have f3 := hf 3 { name := "K", type := 27, offset := 5, embedded := false, tag := "", pkgPath := "", byteOffset := 40 } rfl
    have f4 := hf 4 { name := "N", type := 27, offset := 6, embedded := false, tag := "", pkgPath := "", byteOffset := 41 } rfl
    have f5 := hf 5 { name := "Raw", type := 9, offset := 7, embedded := false, tag := "", pkgPath := "", byteOffset := 48 } rfl
    simp only [k5, k26, k27, k9, List.drop_zero, List.drop_succ_cons, List.take_succ_cons, List.take_zero] at f0 f1 f2 f3 f4 f5
    have some_of : ∀ {i : Nat} {t : TypeId} {cs : List Value}, i < xs.length → DataW.trod enc Try.prog w base (fun _ => true) held n t cs = xs[i]? → ∃ y, DataW.trod enc Try.prog w base (fun _ => true) held n t cs = some y := fun hi he => ⟨_, he.trans (List.getElem?_eq_getElem hi)⟩
    have hxl : xs.length = 6 := hxl0
    obtain ⟨y0, f0⟩ := some_of (by omega) f0
    obtain ⟨y1, f1⟩ := some_of (by omega) f1
    obtain ⟨y2, f2⟩ := some_of (by omega) f2
    obtain ⟨y3, f3⟩ := some_of (by omega) f3
    obtain ⟨y4, f4⟩ := some_of (by omega) f4
    obtain ⟨y5, f5⟩ := some_of (by omega) f5
    obtain ⟨m0, e0, -, b0⟩ := DataW.trod_int Try.underlying5 f0
    obtain ⟨m1, e1, -, b1⟩ := DataW.trod_int Try.underlying5 f1
    obtain ⟨m3, e3, -, b3⟩ := DataW.trod_int Try.underlying27 f3
    obtain ⟨m4, e4, -, b4⟩ := DataW.trod_int Try.underlying27 f4
    obtain ⟨s5, e5, -, b5⟩ := DataW.trod_string Try.underlying9 f5
    obtain ⟨zs, n2, -, -, -, hzl, hz⟩ := DataW.trod_struct Try.underlying26 f2
    have z0 := hz 0 { name := "Letters", type := 23, offset := 0, embedded := false, tag := "", pkgPath := "", byteOffset := 0 } rfl
    have z1 := hz 1 { name := "Weight", type := 24, offset := 1, embedded := false, tag := "", pkgPath := "", byteOffset := 24 } rfl
    have z2 := hz 2 { name := "Gone", type := 4, offset := 2, embedded := false, tag := "", pkgPath := "", byteOffset := 28 } rfl
    simp only [k23, k24, k4, List.drop_zero, List.drop_succ_cons, List.take_succ_cons, List.take_zero] at z0 z1 z2
    have hzl' : zs.length = 3 := hzl
    obtain ⟨d, hd, hlw⟩ := one_draft (z0.trans (List.getElem?_eq_getElem (by omega))) (z1.trans (List.getElem?_eq_getElem (by omega))) (z2.trans (List.getElem?_eq_getElem (by omega)))
    simp only [List.cons.injEq, and_true] at e0 e1 e3 e4 e5
    subst e0 e1 e3 e4 e5
    obtain ⟨dv, dls, dwt, dg⟩ := d
    simp only [drMC, List.cons.injEq, and_true] at hd
    obtain ⟨rfl, rfl, rfl⟩ := hd
    refine ⟨⟨m0.toNat, m1.toNat, ⟨dv, dls, dwt, dg⟩, m3, m4, s5⟩, ?_, ⟨(byte_eq b0).2, (byte_eq b1).2, small_eq b3, small_eq b4, b5, hlw⟩⟩
    unfold opMC
    rw [← (byte_eq b0).1, ← (byte_eq b1).1]
end

/-! ### On the abstract machine -/
noncomputable def nN (w : World) : Nat → Nat → Value → Option Value := fun _ _ v => amN w 1 v
theorem nN_ok (w : World) : NOk w [] (nN w) := fun _ _ _ _ h => amN_VR h
theorem bytS_of {w : World} {ls : List UInt8} {v : Value} (h : LetW w v ls) : ∃ x, amN w 1 v = some x ∧ mdl.BytS (wMemN w 0 (nN w)) ls x := by
  obtain ⟨x, h1, h2⟩ := par_N (N := nN w) (by omega) (by omega) h
  refine ⟨x, h1, ?_⟩
  rcases h2 with ⟨rfl, h0⟩ | ⟨rfl, h0⟩ | ⟨q, off, rfl, hq, h3⟩
  · exact .inl ⟨rfl, List.length_eq_zero_iff.1 h0⟩
  · exact .inr (.inl ⟨rfl, List.length_eq_zero_iff.1 h0⟩)
  · refine .inr (.inr ⟨q, off, _, rfl, ?_⟩)
    rcases h3 with h3 | ⟨t, fz, c, h4, h5⟩
    · exact .inl (List.length_eq_zero_iff.1 (by omega))
    · refine .inr ⟨hq, t, .row, fz, c, h4, fun i b hi => ?_⟩
      have hil := (List.getElem?_eq_some_iff.1 hi).1
      exact h5 i (.int .u8 ((b.toNat : Nat) : Int)) _ (by omega) (by unfold bytV; rw [List.getElem?_map, hi]; rfl) (amN_plain rfl)
noncomputable def toD (w : World) (m : DrM) : mdl.DrD := ⟨(amN w 1 m.v).getD empV, m.ls, m.wt, m.gone⟩
theorem toD_xl {w : World} {m : DrM} (h : LetW w m.v m.ls) : amN w 1 m.v = some (toD w m).xl ∧ mdl.BytS (wMemN w 0 (nN w)) (toD w m).ls (toD w m).xl := by
  obtain ⟨x, h1, h2⟩ := bytS_of h
  have e : (toD w m).xl = x := by unfold toD; rw [h1]; rfl
  rw [e]
  exact ⟨h1, h2⟩
theorem drS_of {w : World} {v : Value} {ms : List DrM} (hl : ∀ m ∈ ms, LetW w m.v m.ls) (h : ParN w 3 v ms.length (ms.map drMC).flatten) : ∃ x, amN w 3 v = some x ∧ mdl.DrS (wMemN w 0 (nN w)) (ms.map (toD w)) x := by
  obtain ⟨x, h1, h2⟩ := par_N (N := nN w) (by omega) (by omega) h
  refine ⟨x, h1, ?_⟩
  rcases h2 with ⟨rfl, h0⟩ | ⟨rfl, h0⟩ | ⟨q, off, rfl, hq, h3⟩
  · rw [List.length_eq_zero_iff.1 h0]
    exact .inl ⟨rfl, rfl⟩
  · rw [List.length_eq_zero_iff.1 h0]
    exact .inr (.inl ⟨rfl, rfl⟩)
  · refine .inr (.inr ⟨q, off, mkX ms.length 3, by rw [List.length_map], ?_⟩)
    rcases h3 with h3 | ⟨t, fz, c, h4, h5⟩
    · have h0 : ms.length = 0 := by omega
      rw [List.length_eq_zero_iff.1 h0]
      exact .inl rfl
    · refine .inr ⟨hq, t, .row, fz, c, h4, fun i d hi => ?_⟩
      rw [List.getElem?_map] at hi
      obtain ⟨m, hm, rfl⟩ := Option.map_eq_some_iff.1 hi
      have hil := (List.getElem?_eq_some_iff.1 hm).1
      obtain ⟨x1, x2⟩ := toD_xl (hl m (List.mem_of_getElem? hm))
      have hlen3 : ∀ l ∈ ms.map drMC, l.length = 3 := fun l hl => by
        obtain ⟨d, -, rfl⟩ := List.mem_map.1 hl
        rfl
      have g : ∀ {j : Nat} {v u : Value}, j < 3 → (drMC m)[j]? = some v → nN w q (off + (i * 3 + j)) v = some u → c.get (off + (i * 3 + j)) = some u := fun {j v u} hj hv hu =>
        h5 (i * 3 + j) v u (by omega) (by rw [flat_get hlen3 (l := drMC m) (by rw [List.getElem?_map, hm]; rfl) hj]; exact hv) hu
      have g0 := g (j := 0) (by omega) rfl x1
      have g1 := g (j := 1) (by omega) rfl (amN_plain rfl)
      have g2 := g (j := 2) (by omega) rfl (amN_plain rfl)
      simp only [Nat.add_zero, ← Nat.add_assoc] at g0 g1 g2
      exact ⟨g0, g1, g2, x2⟩
noncomputable def toI (w : World) (o : OpM) : mdl.OpI := ⟨o.kd, o.told, toD w o.dr, o.k, o.n, o.raw.data.toList⟩
theorem toI_ok {w : World} {o : OpM} (h : OpOk w o) : mdl.InOk (wMemN w 0 (nN w)) (toI w o) :=
  ⟨h.kd, h.told, h.k.1, h.k.2, h.n.1, h.n.2, Nat.lt_of_le_of_lt h.raw (by decide), (toD_xl h.dr).2⟩
theorem toI_VRs {w : World} {o : OpM} (h : OpOk w o) : VRs (wInj w []) (mdl.inC (toI w o)) (opMC o) :=
  .cons (.int _ _) (.cons (.int _ _) (.cons (amN_VR (toD_xl h.dr).1) (.cons (.int _ _) (.cons (.bool _) (.cons (.int _ _) (.cons (.int _ _) (.cons (by show VR _ (strOf o.raw.data.toList) _; rw [← string_eq]; exact .string _) .nil)))))))
theorem vrs_app {ι : Inj} : ∀ {a a' b b' : List Value}, VRs ι a a' → VRs ι b b' → VRs ι (a ++ b) (a' ++ b')
  | _, _, _, _, .nil, k => k
  | _, _, _, _, .cons h t, k => .cons h (vrs_app t k)

/-! ### The run -/
theorem walk (v0 : Value) (cs : Array Value) (ms : List DrM) (o1 o2 : OpM) (w : World) (hl : ∀ m ∈ ms, LetW w m.v m.ls) (hp : ParN w 3 v0 ms.length (ms.map drMC).flatten) (h1 : OpOk w o1) (h2 : OpOk w o2) (hcs : cs.toList = opMC o1 ++ opMC o2) :
    Calls Try.prog 3 #[v0, .agg cs] w fun e w' => e = .returned (.bool true) ∧ Below w.heap.size w w' := by
  refine (?_ : Calls Try.prog 3 #[v0, .agg cs] w fun e w' => e = .returned (.bool true) ∧ Go.Am.Leaves w w').mono fun e w' h => ⟨h.1, h.2.below⟩
  obtain ⟨x0, e0, d0⟩ := drS_of hl hp
  refine all_trueN mdl.tb4_ok [] (fun l hl => by cases hl) (nN_ok w) (mdl.fn_at Try.func3) mdl.c3_eq (args := [x0, .agg ⟨mdl.inC (toI w o1) ++ mdl.inC (toI w o2)⟩]) (.cons (amN_VR e0) (.cons (.agg (by rw [hcs]; exact vrs_app (toI_VRs h1) (toI_VRs h2))) .nil)) ?_
  exact mdl.run_modelUpdates d0 (toI_ok h1) (toI_ok h2)
theorem okWide_array {P : Program} {w : World} {r : Reach} {base n : Nat} {t e : TypeId} {v : Value} (ht : P.underlying t = some (.array n e)) (h : Value.okWide P w r base t v) : ∃ cs, v = .agg cs ∧ cs.size = P.cellsOf t := by
  unfold Value.okWide at h
  rw [ht] at h
  obtain ⟨cs, h1, h2, -⟩ := h
  exact ⟨cs, h1, h2⟩

/-! ### THE ROW's STEP: WRITTEN OUT: LEAVE IT -/
set_option maxRecDepth 100000 in
theorem lifted (os : Os) (started : os.Started) (H : Type) (enc : TypeId × Value → H) :
    ReturnsInHanded {} Try.checked os 3 .any (Rows.modelUpdatesSpec.pre6 enc Try.prog Try.f3 Rows.modelUpdatesRow.domain false) (Rows.modelUpdatesSpec.post enc Try.prog Try.f3 false true false false) := by
  refine returnsInHanded_of_change (C := Try.checked) own started (by kernel_rfl) Try.func3
    (ChangeSpec.witness6 (enc := enc) (C := Try.checked) false ⟨#[], #[.slice none 0 0, .agg #[.int .u8 0, .int .u8 0, .slice none 0 0, .int .u32 0, .bool false, .int .i8 0, .int .i8 0, .string .empty, .int .u8 0, .int .u8 0, .slice none 0 0, .int .u32 0, .bool false, .int .i8 0, .int .i8 0, .string .empty]], []⟩ 12 (by kernel_rfl) (by kernel_rfl) (by kernel_rfl) (by kernel_rfl)) ?_
  intro W base args ds gs before hval0 hW hcnd _
  have hval : ∀ (j : Nat) t v, Try.f3.params[j]? = some t → args[j]? = some v → Value.okWide Try.prog W .any base t v := hval0
  have hW' := hW
  obtain ⟨p, q, hA0, hV, rfl, hfz, hnd⟩ := hW
  have hA : DataW.TrodAll enc Try.prog W 0 (fun _ => true) true Try.f3.params.toList args.toList ds p := hA0
  rw [Try.params3] at hA hval
  obtain ⟨v0, vs0, d0, ds0, p0, q0, hargs, rfl, rfl, h0, r0⟩ := trodAll_cons hA
  obtain ⟨v1, vs1, d1, ds1, p1, q1, rfl, rfl, rfl, h1, r1⟩ := trodAll_cons r0
  obtain ⟨rfl, rfl, rfl⟩ := trodAll_nil r1
  obtain rfl : args = #[v0, v1] := by cases args; simp_all
  obtain ⟨rfl, rfl⟩ := trodVars_none hV
  have k0 := h0
  have lt0 : ∀ x ∈ p0, x.block < W.heap.size := by obtain ⟨m, hm⟩ := k0; exact DataW.trod_lt m _ _ _ hm
  obtain ⟨a0, len0, cap0, rfl⟩ := okWide_slice Try.underlying22 (hval 0 22 v0 rfl rfl)
  obtain ⟨ms, hl, hp⟩ : ∃ ms : List DrM, (∀ m ∈ ms, LetW W m.v m.ls) ∧ ParN W 3 (.slice a0 len0 cap0) ms.length (ms.map drMC).flatten := by
    obtain ⟨fuel, hf⟩ := h0
    exact drafts_of hf
  have k1 := h1
  have lt1 : ∀ x ∈ p1, x.block < W.heap.size := by obtain ⟨m, hm⟩ := k1; exact DataW.trod_lt m _ _ _ hm
  obtain ⟨cs, rfl, hsz⟩ := okWide_array Try.underlying30 (hval 1 30 v1 rfl rfl)
  obtain ⟨o1, o2, ho1, ho2, hcs⟩ : ∃ o1 o2 : OpM, OpOk W o1 ∧ OpOk W o2 ∧ cs.toList = opMC o1 ++ opMC o2 := by
    obtain ⟨fuel, hf⟩ := h1
    obtain ⟨xs, m, -, -, hlen, hxl, hat⟩ := DataW.trod_array Try.underlying30 hf
    have h16 : Try.prog.cellsOf 30 = 16 := by kernel_rfl
    have h8 : Try.prog.cellsOf 29 = 8 := by kernel_rfl
    have hcl : (Value.agg cs).cells.toList = cs.toList := rfl
    rw [hcl] at hlen hat
    rw [h16] at hlen
    have t0 := hat 0 (by omega)
    have t1 := hat 1 (by omega)
    rw [h8] at t0 t1
    rw [List.getElem?_eq_getElem (by omega)] at t0 t1
    obtain ⟨o1, e1, g1⟩ := op_of t0
    obtain ⟨o2, e2, g2⟩ := op_of t1
    refine ⟨o1, o2, g1, g2, ?_⟩
    rw [← e1, ← e2, Nat.zero_mul, List.drop_zero, Nat.one_mul, List.take_of_length_le (l := cs.toList.drop 8) (by rw [List.length_drop]; omega), List.take_append_drop]
  clear hA0 hval0
  refine (walk (.slice a0 len0 cap0) cs ms o1 o2 W hl hp ho1 ho2 hcs).mono fun e W' ⟨he, bel⟩ => ?_
  subst he
  exact ⟨_, rfl, _, _, _, [], _, [], hW', trodAll_mk1 (shut_bool Try.underlying4 _), (trodAll_cons_mk (Below.trod laidOut (by kernel_rfl) (of_decide_eq_true (by kernel_rfl)) k0 bel lt0) (trodAll_cons_mk (Below.trod laidOut (by kernel_rfl) (of_decide_eq_true (by kernel_rfl)) k1 bel lt1) trodAll_mk0)), rfl, bel.frame _, fun h => by cases h⟩

theorem over : Rows.modelUpdatesRow.holds Try.pinned (OpenSpec.ofChange Rows.modelUpdatesSpec) :=
  OpenClaim.holds_of_wide 3 Try.f3 rfl rfl rfl rfl rfl rfl rfl ⟨rfl, rfl, rfl, rfl, rfl⟩ rfl rfl rfl rfl rfl (by kernel_rfl) Try.func3 (by kernel_rfl)
    (of_decide_eq_true (by kernel_rfl)) (by unfold Func.isWrapper; first | (rw [if_pos (by decide +kernel)]; kernel_rfl) | (rw [if_neg (by decide +kernel)]; exact ⟨rfl, rfl⟩))
    (fun os started H enc _ => lifted os started H enc)

/-- ████ THE STATEMENT ████ -/
theorem proved : Rows.ModelUpdatesSaid := over
#print axioms proved
end Go.Proofs.Ytnelkapmmgggdaa.modelUpdates
