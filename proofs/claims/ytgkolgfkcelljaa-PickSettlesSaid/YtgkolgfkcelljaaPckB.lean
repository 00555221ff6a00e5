/-
  What the functions of this group compute on the abstract machine, and the plain laws of it. Part B: conditions stand in each theorem.
-/
import Derived.Test.YtgkolgfkcelljaaPckA

/-
  Pick: slices.Replace of a row by one number.
-/
namespace Go.Proofs.Ytgkolgfkcelljaa.pck
open Go.Am Go.Pick
set_option linter.unusedSimpArgs false
set_option linter.unusedVariables false
set_option linter.unusedVariables false
set_option maxRecDepth 20000

theorem capFit_sub {c : Nat} (l : Nat) (h : capFit c 1 = true) : capFit (capSub c l) 1 = true := by
  unfold capSub
  cases hx : capX c with
  | true => rw [cond_true]; unfold capFit; rw [capX_two]; rfl
  | false =>
    unfold capFit at h
    rw [hx, cond_false] at h
    rw [cond_false, Nat.eq_of_beq_eq_true h]
    unfold capFit
    rw [capX_mkX, capE_mkX (by omega)]; rfl
/-- A part of a row. -/
theorem cut {b o len c h l : Nat} {lo hi : Option Value} (h1 : bound hi len (capN c) = .ok h) (h2 : bound lo 0 h = .ok l) (hf : capFit c 1 = true) :
    ∃ o' c', sliceF tb1 24 (.slice (some ⟨b, o, none⟩) len c) lo hi none = .ok (.slice (some ⟨b, o', none⟩) (h - l) c') ∧ (l < capN c → o' = o + l ∧ c' = capSub c l) ∧ capFit c' 1 = true := by
  cases hx : capX c && Nat.beq (capN c) l with
  | true =>
    have hc1 : capN c = l := Nat.eq_of_beq_eq_true (Bool.and_eq_true_iff.1 hx).2
    refine ⟨o, 0, ?_, fun h => by omega, rfl⟩
    unfold sliceF
    simp only [und24, h1, h2, R.ok_bind, size3, hx, cond_true]
  | false =>
    refine ⟨o + l * 1, capSub c l, ?_, fun _ => ⟨by omega, rfl⟩, capFit_sub l hf⟩
    unfold sliceF
    simp only [und24, h1, h2, R.ok_bind, size3, hx, cond_false, hf, cond_true, addA]
theorem storeAt {A : Mem} {b o : Nat} {k : Kd} {c : T Value} {vs : List Value} (h : A.get b = some (.cells 3 k 0 c)) (h1 : ∀ v ∈ vs, oneCell v = true) (h2 : ∀ j, j < vs.length → ∃ y, c.get (o + j) = some y) :
    ∃ A', storeAtF A ⟨b, o, none⟩ vs = .ok A' ∧ A'.get b = some (.cells 3 k 0 (c.puts o vs)) ∧ A'.next = A.next ∧ ∀ y, y ≠ b → A'.get y = A.get y := by
  cases vs with
  | nil => exact ⟨A, rfl, by rw [T.puts_nil]; exact h, rfl, fun _ _ => rfl⟩
  | cons v vs =>
    refine ⟨A.set b (.cells 3 k 0 (c.puts o (v :: vs))), ?_, by rw [get_setMem, if_pos rfl], next_set _ _ _, fun y hy => by rw [get_setMem, if_neg hy]⟩
    unfold storeAtF
    simp only [h, stores_all _ _ _ h1 h2, R.ok_bind]
theorem elems {A : Mem} {b o n : Nat} {k : Kd} {c : T Value} {vs : List Value} (h : A.get b = some (.cells 3 k 0 c)) (hl : vs.length = n) (h1 : ∀ j, j < n → c.get (o + j) = vs[j]?) : elemsF A.get 1 n (some ⟨b, o, none⟩) = .ok vs := by
  unfold elemsF
  simp only [Nat.mul_one]
  cases hn : Nat.beq n 0 with
  | true =>
    have h0 : n = 0 := Nat.eq_of_beq_eq_true hn
    rw [h0] at hl
    have : vs = [] := List.length_eq_zero_iff.1 hl
    subst this; rfl
  | false =>
    have hg : c.gets n o = some vs := gets_eq _ _ _ _ hl h1
    simp only [cond_false, h, hg]
theorem copy_ok {A A' : Mem} {b o dl c b2 o2 sl c2 n : Nat} {vs : List Value} (hn : (bif Nat.ble sl dl then sl else dl) = n) (he : elemsF A.get 1 n (some ⟨b2, o2, none⟩) = .ok vs) (hs : storeAtF A ⟨b, o, none⟩ vs = .ok A') :
    copyF tb1 A 24 (.slice (some ⟨b, o, none⟩) dl c) (.slice (some ⟨b2, o2, none⟩) sl c2) = .ok (.int .i64 ((n : Nat) : Int), A') := by
  have hf : firstF A.get 1 n (.slice (some ⟨b2, o2, none⟩) sl c2) = .ok vs := he
  unfold copyF
  simp only [und24, size3, R.ok_bind]
  show ((R.ok sl).bind fun sl => _) = _
  simp only [R.ok_bind, hn, hf, hs]
  rfl
theorem repF_ok (z : Value) : ∀ n, (repF [z] n).length = n ∧ ∀ v ∈ repF [z] n, v = z
  | 0 => ⟨rfl, fun v h => by cases h⟩
  | n + 1 => by
    obtain ⟨h1, h2⟩ := repF_ok z n
    have e : repF [z] (n + 1) = [z] ++ repF [z] n := rfl
    rw [e]
    refine ⟨by rw [List.length_append, h1]; simp; omega, fun v hv => ?_⟩
    rcases List.mem_append.1 hv with h | h
    · simpa using h
    · exact h2 v h
theorem clear_ok {A : Mem} {b o n c : Nat} {k : Kd} {t : T Value} (h : A.get b = some (.cells 3 k 0 t)) (h2 : ∀ j, j < n → ∃ y, t.get (o + j) = some y) :
    ∃ A' zs, clearF tb1 A 24 (.slice (some ⟨b, o, none⟩) n c) = .ok (unitV, A') ∧ A'.get b = some (.cells 3 k 0 (t.puts o zs)) ∧ zs.length = n ∧ A'.next = A.next ∧ ∀ y, y ≠ b → A'.get y = A.get y := by
  obtain ⟨z1, z2⟩ := repF_ok (.int .i64 0) n
  cases hn : Nat.beq n 0 with
  | true =>
    have h0 : n = 0 := Nat.eq_of_beq_eq_true hn
    refine ⟨A, [], ?_, by rw [T.puts_nil]; exact h, by rw [h0]; rfl, rfl, fun _ _ => rfl⟩
    unfold clearF
    simp only [und24, hn, cond_true]
  | false =>
    obtain ⟨A', e1, e2, e3, e4⟩ := storeAt (o := o) (vs := repF [.int .i64 0] n) h (fun v hv => by rw [z2 v hv]; rfl) (fun j hj => h2 j (by rw [z1] at hj; exact hj))
    refine ⟨A', repF [.int .i64 0] n, ?_, e2, z1, e3, e4⟩
    unfold clearF
    simp only [und24, hn, cond_false, zc3, R.ok_bind, e1]
theorem opF_clear {ih : Code → St → R (Ex × St)} {dst : Option Tmp} {ty : TypeId} {pos : String} {after : Array Edge} {g : Option (Nat × Bool)} {s : St} {k : St → R (Ex × St)} (args : Array Operand) (ts : Array TypeId) : opF tb1 ih { dst, op := .call { callee := .builtin .clear, args, argTypes := ts }, type := ty, pos, after, guard := g } s k =
    (evs s.t args.toList).bind fun a => (builtinLF tb1 s.m .clear ts.toList a).bind fun (v, A) => putT { s with m := A } dst v k := by
  unfold opF
  show ((lOp tb1 s.t s.m (.call _)).bind fun (v, A) => putT { s with m := A } dst v k) = _
  simp only [lOp, R.bind_bind]
theorem builtin_copy (A : Mem) (dt st : TypeId) (d s : Value) : builtinLF tb1 A .copy [dt, st] [d, s] = copyF tb1 A dt d s := rfl
theorem builtin_clear (A : Mem) (t : TypeId) (x : Value) : builtinLF tb1 A .clear [t] [x] = clearF tb1 A t x := rfl
theorem cap_ok {L n c : Nat} {a : Option Addr} (h : n ≤ capN c) : ∃ v, builtinPF tb1 .cap [24] [.slice a L c] = .ok v ∧ ∀ d, binF .gtr d (.int .i64 (n : Int)) v = .ok (.bool false) := by
  have e : builtinPF tb1 .cap [24] [.slice a L c] = capPF tb1 24 (.slice a L c) := by cases a <;> rfl
  cases hx : capX c with
  | true =>
    refine ⟨.int .i64 ((capN c : Nat) : Int), ?_, fun d => ?_⟩
    · rw [e]; unfold capPF
      simp only [und24, hx, cond_true]; rfl
    · show intOpF .gtr .i64 (n : Int) ((capN c : Nat) : Int) = _
      rw [op_gtr]
      simp; omega
  | false =>
    refine ⟨someInt (capN c), ?_, fun d => ?_⟩
    · rw [e]; unfold capPF
      simp only [und24, hx, cond_false]
    · show (bif Nat.ble n (capN c) then R.ok (Value.bool false) else .no 17) = _
      have : Nat.ble n (capN c) = true := by rw [Nat.ble_eq]; exact h
      rw [this]; rfl
end Go.Proofs.Ytgkolgfkcelljaa.pck

/-
  Pick: slices.Replace, run.
-/
namespace Go.Proofs.Ytgkolgfkcelljaa.pck
open Go.Am Go.Pick
set_option linter.unusedSimpArgs false
set_option linter.unusedVariables false
set_option linter.unusedVariables false
set_option maxRecDepth 20000

noncomputable def c18 : Code := Try.f18.body.getD .skip
theorem c18_eq : Try.f18.body = some (.seq (sub c18 [0]) (.seq (sub c18 [1,0]) (.seq (.seq (sub c18 [1,1,0,0]) (sub c18 [1,1,0,1])) (.seq (.seq (sub c18 [1,1,1,0,0]) (sub c18 [1,1,1,0,1])) (.seq (sub c18 [1,1,1,1,0]) (.seq (.seq (sub c18 [1,1,1,1,1,0,0]) (sub c18 [1,1,1,1,1,0,1])) (.seq (sub c18 [1,1,1,1,1,1,0]) (.seq (.seq (sub c18 [1,1,1,1,1,1,1,0,0]) (sub c18 [1,1,1,1,1,1,1,0,1])) (sub c18 [1,1,1,1,1,1,1,1]))))))))) := by kernel_rfl
theorem c18_a : sub c18 [1,1,1,0,1] = .cond (.tmp 29) (.seq (sub c18 [1,1,1,0,1,0,0]) (.seq (.seq (sub c18 [1,1,1,0,1,0,1,0,0]) (sub c18 [1,1,1,0,1,0,1,0,1])) (.seq (sub c18 [1,1,1,0,1,0,1,1,0]) (sub c18 [1,1,1,0,1,0,1,1,1])))) .skip := by kernel_rfl
theorem c18_b : sub c18 [1,1,1,1,1,1,1,0,1] = .cond (.tmp 92) (.seq (sub c18 [1,1,1,1,1,1,1,0,1,0,0]) (.seq (sub c18 [1,1,1,1,1,1,1,0,1,0,1,0]) (.seq (sub c18 [1,1,1,1,1,1,1,0,1,0,1,1,0]) (.seq (sub c18 [1,1,1,1,1,1,1,0,1,0,1,1,1,0]) (sub c18 [1,1,1,1,1,1,1,0,1,0,1,1,1,1]))))) .skip := by kernel_rfl
theorem rep_get {l : List Nat} {i j s m : Nat} (hij : i + 2 ≤ j) (hj : j ≤ l.length) : (ints (l.take i ++ s :: l.drop j))[m]? = if m < i then (ints l)[m]? else if m = i then some (.int .i64 (s : Int)) else (ints (l.drop j))[m - i - 1]? := by
  have hl : (ints (l.take i)).length = i := by rw [ints_len, List.length_take]; omega
  rw [ints_app]
  by_cases h : m < i
  · rw [if_pos h, List.getElem?_append_left (by rw [hl]; exact h)]
    simp [ints, List.getElem?_take, h]
  · rw [if_neg h, List.getElem?_append_right (by rw [hl]; omega), hl]
    by_cases h2 : m = i
    · subst h2; simp [ints]
    · rw [if_neg h2]
      obtain ⟨q, hq⟩ : ∃ q, m - i = q + 1 := ⟨m - i - 1, by omega⟩
      rw [hq]
      simp [ints]
set_option maxHeartbeats 8000000 in
theorem run_replace {A : Mem} {b i j s bv : Nat} {l : List Nat} {x : Value} (hx : Rw A b l x) (hij : i + 2 ≤ j) (hj : j ≤ l.length) (hl : l.length ≤ 1000) (hv : A.get bv = some (rowOb 3 [.int .i64 (s : Int)])) (hbv : bv < A.next) (hne : bv ≠ b) :
    ∃ x' A', Ans tb1 18 [x, .int .i64 (i : Int), .int .i64 (j : Int), .slice (some ⟨bv, 0, none⟩) 1 2] A x' A' ∧ Rw A' b (l.take i ++ s :: l.drop j) x' ∧ A'.next = A.next ∧ ∀ y, y ≠ b → A'.get y = A.get y := by
  rcases hx with ⟨_, rfl⟩ | ⟨k, c, rfl, hb, ⟨cs, hcs, hcv⟩, hcap, hfit⟩
  · simp at hj; omega
  obtain ⟨x', A', ha, hR, hn, hg⟩ : ∃ x' A', Ans tb1 18 [.slice (some ⟨b, 0, none⟩) l.length c, .int .i64 (i : Int), .int .i64 (j : Int), .slice (some ⟨bv, 0, none⟩) 1 2] A x' A' ∧ Rw A' b (l.take i ++ s :: l.drop j) x' ∧ A'.next = A.next ∧ ∀ y, y ≠ b → A'.get y = A.get y := by
    refine ans_of_W (fn_at Try.func18) c18_eq (by rw [Try.ntmps18]; simp) (by kernel_rfl) (by kernel_rfl) ?_
    rw [ints_len] at hcv
    have hex : ∀ m, m < l.length → ∃ y, cs.get m = some y := fun m hm => ⟨_, by rw [hcv m hm]; exact ints_get hm⟩
    obtain ⟨o1, d1, q1, -, -⟩ := cut (b := b) (o := 0) (len := l.length) (c := c) (h := j) (l := i) (lo := some (.int .i64 (i : Int))) (hi := some (.int .i64 (j : Int))) (bound_some (by omega)) (bound_some (by omega)) hfit
    obtain ⟨o2, d2, q2, q2', q2f⟩ := cut (b := b) (o := 0) (len := l.length) (c := c) (h := i) (l := 0) (lo := none) (hi := some (.int .i64 (i : Int))) (bound_some (by omega)) bound_none hfit
    obtain ⟨rfl, rfl⟩ := q2' (by omega)
    rw [Nat.sub_zero] at q2
    have hij1 : ¬ i = j := by omega
    have hlen : ∀ (a : Option Addr) (n c : Nat), builtinPF tb1 .len [24] [.slice a n c] = .ok (.int .i64 ((n : Nat) : Int)) := fun a n c => len_slc und24
    have hcap0 : capN (capSub c 0) = capN c := by rw [capN_sub, Nat.sub_zero]
    have hvl : (l.take i ++ s :: l.drop j).length = i + 1 + (l.length - j) := by simp; omega
    have h1i : i + 1 < 9223372036854775808 := by omega
    apply W.seq
    apply W.run 20
    · intro M
      simp (config := { maxSteps := 4000000 }) (disch := first | decide +kernel | (rw [wantF_guard]; simp only [wantD_some, dstAt_zero, dstAt_succ, T.get_set, T.get_e, Nat.reduceEqDiff, if_true, if_false, wantV_bool, wantV_unit, unitV, cond_true, cond_false, Bool.not_true, Bool.not_false, List.toList_toArray]) | omega) only [c18, Try.f18, Option.getD_some, sub_seq0, sub_nil, T.puts_cons, Nat.reduceAdd, T.puts_nil, exec_region, runOps_cons, opF_assign, ev_nilslice, putT_some, runOps_nil, R.ok_bind]
      with_reducible rfl
    apply W.seq
    apply W.run 20
    · intro M
      simp (config := { maxSteps := 4000000 }) (disch := first | decide +kernel | (rw [wantF_guard]; simp only [wantD_some, dstAt_zero, dstAt_succ, T.get_set, T.get_e, Nat.reduceEqDiff, if_true, if_false, wantV_bool, wantV_unit, unitV, cond_true, cond_false, Bool.not_true, Bool.not_false, List.toList_toArray]) | omega) only [c18, Try.f18, Option.getD_some, sub_seq1, sub_seq0, sub_nil, exec_region, runOps_cons, opF_move, ev_tmp, T.get_set, Nat.reduceEqDiff, T.get_e, if_true, if_false, evG_some, putT_some, opF_slice, evo, R.ok_bind, runOps_nil, q1]
      with_reducible rfl
    apply W.seq
    apply W.seq
    apply W.run 20
    · intro M
      simp (config := { maxSteps := 4000000 }) (disch := first | decide +kernel | (rw [wantF_guard]; simp only [wantD_some, dstAt_zero, dstAt_succ, T.get_set, T.get_e, Nat.reduceEqDiff, if_true, if_false, wantV_bool, wantV_unit, unitV, cond_true, cond_false, Bool.not_true, Bool.not_false, List.toList_toArray]) | omega) only [c18, Try.f18, Option.getD_some, sub_seq1, sub_seq0, sub_nil, exec_region, runOps_cons, opF_move, ev_tmp, T.get_set, Nat.reduceEqDiff, T.get_e, if_false, if_true, evG_some, putT_some, opF_eql, runOps_nil, R.ok_bind, binF_int, op_eql, hij1, decide_false]
      with_reducible rfl
    apply W.run 20
    · intro M
      simp (config := { maxSteps := 4000000 }) (disch := first | decide +kernel | (rw [wantF_guard]; simp only [wantD_some, dstAt_zero, dstAt_succ, T.get_set, T.get_e, Nat.reduceEqDiff, if_true, if_false, wantV_bool, wantV_unit, unitV, cond_true, cond_false, Bool.not_true, Bool.not_false, List.toList_toArray]) | omega) only [c18, Try.f18, Option.getD_some, sub_seq1, sub_seq0, sub_nil, exec_cond, ev_tmp, T.get_set, Nat.reduceEqDiff, T.get_e, if_false, if_true, evG_some, exec_seq, exec_region, runOps_cons, opF_move, putT_some, opF_call, evs, R.ok_bind, resK, opF_assign, runOps_nil, exec_ret, exec_skip]
      with_reducible rfl
    show W tb1 _ _ _
    apply W.seq
    apply W.seq
    by_cases hjl : j = l.length
    · -- what is replaced is the end
      obtain ⟨A1, s1, s2, s3, s4⟩ := storeAt (o := 0 + i * 1) (vs := [.int .i64 (s : Int)]) hcs (fun v hv => by simp only [List.mem_cons, List.not_mem_nil, or_false] at hv; subst hv; rfl) (fun m hm => by
        simp only [List.length_singleton] at hm
        exact hex _ (by omega))
      have happ : appendF tb1 A 24 24 (.slice (some ⟨b, 0 + 0, none⟩) i (capSub c 0)) (.slice (some ⟨bv, 0, none⟩) 1 2) = .ok (.slice (some ⟨b, 0 + 0, none⟩) (i + 1) (capSub c 0), A1) := by
        have hfirst : firstF A.get 1 1 (.slice (some ⟨bv, 0, none⟩) 1 2) = .ok [.int .i64 (s : Int)] := elemsF_vals (l := [.int .i64 (s : Int)]) (vals_puts (e := 3) (k := .var 1) hv)
        have hble : Nat.ble (i + 1) (capN (capSub c 0)) = true := by rw [Nat.ble_eq, hcap0]; omega
        have hd : isIntD (TypeDesc.slice 3) = false := rfl
        have hl1 : lenF (.slice (some ⟨bv, 0, none⟩) 1 2) = .ok 1 := rfl
        unfold appendF
        simp only [und24, hd, cond_false, zc3, R.ok_bind, hl1, hfirst]
        unfold appendG
        rw [hble, cond_true]
        show (storeAtF A ⟨b, 0 + 0 + i * 1, none⟩ [.int .i64 (s : Int)]).bind _ = _
        rw [show 0 + 0 + i * 1 = 0 + i * 1 by omega, s1, R.ok_bind]
      obtain ⟨o3, d3, q3, q3', q3f⟩ := cut (b := b) (o := 0) (len := l.length) (c := c) (h := l.length) (l := i + 1) (lo := some (.int .i64 ((i + 1 : Nat) : Int))) (hi := none) bound_none (bound_some (by omega)) hfit
      obtain ⟨rfl, rfl⟩ := q3' (by omega)
      obtain ⟨A2, zs, z1, z2, z3, z4, z5⟩ := clear_ok (n := l.length - (i + 1)) (o := 0 + (i + 1)) (c := capSub c (i + 1)) s2 (fun m hm => by
        rw [T.get_puts]
        split
        · rename_i h
          simp only [List.length_singleton] at h
          exact ⟨_, List.getElem?_eq_getElem (by simp; omega)⟩
        · exact hex _ (by omega))
      have hlt1 : i + 1 < l.length := by omega
      apply W.run 20
      · intro M
        simp (config := { maxSteps := 4000000 }) (disch := first | decide +kernel | (rw [wantF_guard]; simp only [wantD_some, dstAt_zero, dstAt_succ, T.get_set, T.get_e, Nat.reduceEqDiff, if_true, if_false, wantV_bool, wantV_unit, unitV, cond_true, cond_false, Bool.not_true, Bool.not_false, List.toList_toArray]) | omega) only [c18, Try.f18, Option.getD_some, sub_seq1, sub_seq0, sub_nil, hjl, exec_region, runOps_cons, opF_move, ev_tmp, T.get_set, Nat.reduceEqDiff, T.get_e, if_false, if_true, evG_some, putT_some, opF_len, evs, R.ok_bind, opF_eql, runOps_nil, hlen, binF_int, op_eql, decide_true]
        with_reducible rfl
      show W tb1 _ _ _
      rw [c18_a]
      refine W.cond (p := true) (by simp only [ev_tmp, T.get_set, if_true, evG_some]) (fun _ => ?_) (fun h => by cases h)
      apply W.seq
      apply W.run 20
      · intro M
        simp (config := { maxSteps := 4000000 }) (disch := first | decide +kernel | (rw [wantF_guard]; simp only [wantD_some, dstAt_zero, dstAt_succ, T.get_set, T.get_e, Nat.reduceEqDiff, if_true, if_false, wantV_bool, wantV_unit, unitV, cond_true, cond_false, Bool.not_true, Bool.not_false, List.toList_toArray]) | omega) only [c18, Try.f18, Option.getD_some, sub_seq1, sub_seq0, sub_cond0, sub_nil, exec_region, runOps_cons, opF_move, ev_tmp, T.get_set, Nat.reduceEqDiff, T.get_e, if_true, if_false, evG_some, putT_some, opF_slice, evo, R.ok_bind, opF_builtin, evs, opF_assign, runOps_nil, builtin_append, q2, Nat.reduceAdd, happ]
        with_reducible rfl
      apply W.seq
      apply W.seq
      apply W.run 20
      · intro M
        simp (config := { maxSteps := 4000000 }) (disch := first | decide +kernel | (rw [wantF_guard]; simp only [wantD_some, dstAt_zero, dstAt_succ, T.get_set, T.get_e, Nat.reduceEqDiff, if_true, if_false, wantV_bool, wantV_unit, unitV, cond_true, cond_false, Bool.not_true, Bool.not_false, List.toList_toArray]) | omega) only [c18, Try.f18, Option.getD_some, sub_seq1, sub_seq0, sub_cond0, sub_nil, exec_region, runOps_cons, opF_move, ev_tmp, T.get_set, Nat.reduceEqDiff, T.get_e, if_false, if_true, evG_some, putT_some, opF_len, evs, R.ok_bind, opF_ari, runOps_nil, hlen, binF_int, op_lssI, cast_lt, hlt1, decide_true]
        with_reducible rfl
      apply W.run 20
      · intro M
        simp (config := { maxSteps := 4000000 }) (disch := first | decide +kernel | (rw [wantF_guard]; simp only [wantD_some, dstAt_zero, dstAt_succ, T.get_set, T.get_e, Nat.reduceEqDiff, if_true, if_false, wantV_bool, wantV_unit, unitV, cond_true, cond_false, Bool.not_true, Bool.not_false, List.toList_toArray]) | omega) only [c18, Try.f18, Option.getD_some, sub_seq1, sub_seq0, sub_cond0, sub_nil, exec_cond, ev_tmp, T.get_set, Nat.reduceEqDiff, T.get_e, if_false, if_true, evG_some, exec_region, runOps_cons, opF_move, putT_some, opF_len, evs, R.ok_bind, opF_slice, evo, opF_clear, putT_none, runOps_nil, builtin_clear, hlen, q3, z1, exec_skip]
        with_reducible rfl
      show W tb1 _ _ _
      apply W.seq
      apply W.run 20
      · intro M
        simp (config := { maxSteps := 4000000 }) (disch := first | decide +kernel | (rw [wantF_guard]; simp only [wantD_some, dstAt_zero, dstAt_succ, T.get_set, T.get_e, Nat.reduceEqDiff, if_true, if_false, wantV_bool, wantV_unit, unitV, cond_true, cond_false, Bool.not_true, Bool.not_false, List.toList_toArray]) | omega) only [c18, Try.f18, Option.getD_some, sub_seq1, sub_seq0, sub_cond0, sub_nil, exec_region, runOps_cons, opF_move, ev_tmp, T.get_set, Nat.reduceEqDiff, T.get_e, if_false, if_true, evG_some, putT_some, opF_assign, runOps_nil, R.ok_bind]
        with_reducible rfl
      apply W.run 20
      · intro M
        simp (config := { maxSteps := 4000000 }) (disch := first | decide +kernel | (rw [wantF_guard]; simp only [wantD_some, dstAt_zero, dstAt_succ, T.get_set, T.get_e, Nat.reduceEqDiff, if_true, if_false, wantV_bool, wantV_unit, unitV, cond_true, cond_false, Bool.not_true, Bool.not_false, List.toList_toArray]) | omega) only [c18, Try.f18, Option.getD_some, sub_seq1, sub_seq0, sub_cond0, sub_nil, exec_ret]
        with_reducible rfl
      have hle : (l.take i ++ s :: l.drop j).length = i + 1 := by rw [hvl]; omega
      refine ⟨.inr rfl, _, [.slice (some ⟨b, 0 + 0, none⟩) (i + 1) (capSub c 0)], rfl, ?_, .inr ⟨k, capSub c 0, by rw [hle]; rfl, (show b < A2.next by omega), ⟨_, z2, fun m hm => ?_⟩, by rw [hle, hcap0]; omega, q2f⟩, (show A2.next = A.next by omega), fun y hy => by rw [z5 y hy, s4 y hy]⟩
      · simp only [Try.f18, resF, ev_tmp, T.get_set, Nat.reduceEqDiff, if_true, if_false, evG_some, R.ok_bind]
      · rw [ints_len, hle] at hm
        rw [rep_get hij hj, T.get_puts, if_neg (by omega), T.get_puts]
        by_cases h : m < i
        · rw [if_neg (by rw [List.length_singleton]; omega), if_pos h, hcv m (by omega)]
        · have hmi : m = i := by omega
          subst hmi
          rw [if_pos (by simp), if_neg (by omega), if_pos rfl]
          simp
    · -- what is behind it moves
      have hjl2 : j < l.length := by omega
      obtain ⟨n, hn⟩ : ∃ n, i + 1 + (l.length - j) = n := ⟨_, rfl⟩
      obtain ⟨o3, d3, q3, q3', q3f⟩ := cut (b := b) (o := 0) (len := l.length) (c := c) (h := l.length) (l := j) (lo := some (.int .i64 ((j : Nat) : Int))) (hi := none) bound_none (bound_some (by omega)) hfit
      obtain ⟨rfl, rfl⟩ := q3' (by omega)
      obtain ⟨cv, hcv1, hcv2⟩ := cap_ok (a := some ⟨b, 0, none⟩) (L := l.length) (n := n) (c := c) (by omega)
      obtain ⟨o4, d4, q4, q4', q4f⟩ := cut (b := b) (o := 0) (len := l.length) (c := c) (h := n) (l := 0) (lo := none) (hi := some (.int .i64 ((n : Nat) : Int))) (bound_some (by omega)) bound_none hfit
      obtain ⟨rfl, rfl⟩ := q4' (by omega)
      rw [Nat.sub_zero] at q4
      obtain ⟨o5, d5, q5, q5', q5f⟩ := cut (b := b) (o := 0 + 0) (len := n) (c := capSub c 0) (h := n) (l := i) (lo := some (.int .i64 ((i : Nat) : Int))) (hi := none) bound_none (bound_some (by omega)) q4f
      obtain ⟨rfl, rfl⟩ := q5' (by omega)
      obtain ⟨A1, s1, s2, s3, s4⟩ := storeAt (o := 0 + 0 + i) (vs := [.int .i64 (s : Int)]) hcs (fun v hv => by simp only [List.mem_cons, List.not_mem_nil, or_false] at hv; subst hv; rfl) (fun m hm => by
        simp only [List.length_singleton] at hm
        exact hex _ (by omega))
      have hcp1 : copyF tb1 A 24 (.slice (some ⟨b, 0 + 0 + i, none⟩) (n - i) (capSub (capSub c 0) i)) (.slice (some ⟨bv, 0, none⟩) 1 2) = .ok (.int .i64 ((1 : Nat) : Int), A1) :=
        copy_ok (by have : Nat.ble 1 (n - i) = true := by rw [Nat.ble_eq]; omega
                    rw [this]; rfl) (elemsF_vals (l := [.int .i64 (s : Int)]) (vals_puts (e := 3) (k := .var 1) hv)) s1
      obtain ⟨o6, d6, q6, q6', q6f⟩ := cut (b := b) (o := 0 + 0) (len := n) (c := capSub c 0) (h := n) (l := i + 1) (lo := some (.int .i64 ((i + 1 : Nat) : Int))) (hi := none) bound_none (bound_some (by omega)) q4f
      obtain ⟨rfl, rfl⟩ := q6' (by omega)
      have hel : elemsF A1.get 1 (l.length - j) (some ⟨b, 0 + j, none⟩) = .ok (ints (l.drop j)) := elems s2 (by rw [ints_len, List.length_drop]) (fun m hm => by
        rw [T.get_puts, if_neg (by rw [List.length_singleton]; omega), hcv _ (by omega)]
        simp [ints, List.getElem?_drop])
      obtain ⟨A2, t1, t2, t3, t4⟩ := storeAt (o := 0 + 0 + (i + 1)) (vs := ints (l.drop j)) s2 (fun v hv => by
        obtain ⟨w, -, rfl⟩ := List.mem_map.1 hv; rfl) (fun m hm => by
        rw [ints_len, List.length_drop] at hm
        rw [T.get_puts, if_neg (by rw [List.length_singleton]; omega)]
        exact hex _ (by omega))
      have hcp2 : copyF tb1 A1 24 (.slice (some ⟨b, 0 + 0 + (i + 1), none⟩) (n - (i + 1)) (capSub (capSub c 0) (i + 1))) (.slice (some ⟨b, 0 + j, none⟩) (l.length - j) (capSub c j)) = .ok (.int .i64 ((l.length - j : Nat) : Int), A2) :=
        copy_ok (by have : Nat.ble (l.length - j) (n - (i + 1)) = true := by rw [Nat.ble_eq]; omega
                    rw [this, cond_true]) hel t1
      obtain ⟨o7, d7, q7, q7', q7f⟩ := cut (b := b) (o := 0) (len := l.length) (c := c) (h := l.length) (l := n) (lo := some (.int .i64 ((n : Nat) : Int))) (hi := none) bound_none (bound_some (by omega)) hfit
      obtain ⟨rfl, rfl⟩ := q7' (by omega)
      obtain ⟨A3, zs, z1, z2, z3, z4, z5⟩ := clear_ok (n := l.length - n) (o := 0 + n) (c := capSub c n) t2 (fun m hm => by
        rw [T.get_puts]
        split
        · rename_i h
          rw [ints_len, List.length_drop] at h
          exact ⟨_, List.getElem?_eq_getElem (by rw [ints_len, List.length_drop]; omega)⟩
        · rw [T.get_puts]
          split
          · rename_i h
            simp only [List.length_singleton] at h
            exact ⟨_, List.getElem?_eq_getElem (by simp; omega)⟩
          · exact hex _ (by omega))
      have e1 : intOpF .add .i64 ((i : Nat) : Int) ((1 : Nat) : Int) = .ok (.int .i64 ((i + 1 : Nat) : Int)) := op_add_i64 (by omega)
      have e2 : intOpF .add .i64 ((i + 1 : Nat) : Int) ((l.length - j : Nat) : Int) = .ok (.int .i64 ((n : Nat) : Int)) := by rw [op_add_i64 (by omega), hn]
      have e3 : i + 1 ≤ j := by omega
      apply W.run 20
      · intro M
        simp (config := { maxSteps := 4000000 }) (disch := first | decide +kernel | (rw [wantF_guard]; simp only [wantD_some, dstAt_zero, dstAt_succ, T.get_set, T.get_e, Nat.reduceEqDiff, if_true, if_false, wantV_bool, wantV_unit, unitV, cond_true, cond_false, Bool.not_true, Bool.not_false, List.toList_toArray]) | omega) only [c18, Try.f18, Option.getD_some, sub_seq1, sub_seq0, sub_nil, exec_region, runOps_cons, opF_move, ev_tmp, T.get_set, Nat.reduceEqDiff, T.get_e, if_false, if_true, evG_some, putT_some, opF_len, evs, R.ok_bind, opF_eql, runOps_nil, hlen, binF_int, op_eql, hjl, decide_false]
        with_reducible rfl
      show W tb1 _ _ _
      apply W.run 20
      · intro M
        simp (config := { maxSteps := 4000000 }) (disch := first | decide +kernel | (rw [wantF_guard]; simp only [wantD_some, dstAt_zero, dstAt_succ, T.get_set, T.get_e, Nat.reduceEqDiff, if_true, if_false, wantV_bool, wantV_unit, unitV, cond_true, cond_false, Bool.not_true, Bool.not_false, List.toList_toArray]) | omega) only [c18, Try.f18, Option.getD_some, sub_seq1, sub_seq0, sub_nil, exec_cond, ev_tmp, T.get_set, Nat.reduceEqDiff, T.get_e, if_false, if_true, evG_some, exec_seq, exec_region, runOps_cons, opF_move, putT_some, opF_slice, evo, R.ok_bind, opF_builtin, evs, opF_assign, runOps_nil, builtin_append, exec_skip, exec_ret]
        with_reducible rfl
      show W tb1 _ _ _
      apply W.seq
      apply W.run 20
      · intro M
        simp (config := { maxSteps := 4000000 }) (disch := first | decide +kernel | (rw [wantF_guard]; simp only [wantD_some, dstAt_zero, dstAt_succ, T.get_set, T.get_e, Nat.reduceEqDiff, if_true, if_false, wantV_bool, wantV_unit, unitV, cond_true, cond_false, Bool.not_true, Bool.not_false, List.toList_toArray]) | omega) only [c18, Try.f18, Option.getD_some, sub_seq1, sub_seq0, sub_nil, exec_draw, runOps_cons, opF_move, ev_tmp, T.get_set, Nat.reduceEqDiff, T.get_e, if_true, if_false, evG_some, putT_some, opF_slice, evo, R.ok_bind, opF_len, evs, opF_ari, opF_assign, runOps_nil, q3, hlen, q2, Nat.reduceAdd, binF_int, e1, e2]
        with_reducible rfl
      apply W.seq
      apply W.seq
      apply W.run 20
      · intro M
        simp (config := { maxSteps := 4000000 }) (disch := first | decide +kernel | (rw [wantF_guard]; simp only [wantD_some, dstAt_zero, dstAt_succ, T.get_set, T.get_e, Nat.reduceEqDiff, if_true, if_false, wantV_bool, wantV_unit, unitV, cond_true, cond_false, Bool.not_true, Bool.not_false, List.toList_toArray]) | omega) only [c18, Try.f18, Option.getD_some, sub_seq1, sub_seq0, sub_nil, exec_region, runOps_cons, opF_move, ev_tmp, T.get_set, Nat.reduceEqDiff, T.get_e, if_false, if_true, evG_some, putT_some, opF_minmax, evs, R.ok_bind, opF_ari, runOps_nil, hcv1, hcv2]
        with_reducible rfl
      apply W.run 20
      · intro M
        simp (config := { maxSteps := 4000000 }) (disch := first | decide +kernel | (rw [wantF_guard]; simp only [wantD_some, dstAt_zero, dstAt_succ, T.get_set, T.get_e, Nat.reduceEqDiff, if_true, if_false, wantV_bool, wantV_unit, unitV, cond_true, cond_false, Bool.not_true, Bool.not_false, List.toList_toArray]) | omega) only [c18, Try.f18, Option.getD_some, sub_seq1, sub_seq0, sub_nil, exec_cond, ev_tmp, T.get_set, Nat.reduceEqDiff, T.get_e, if_false, if_true, evG_some, exec_seq, exec_region, runOps_cons, opF_move, putT_some, opF_slice, evo, R.ok_bind, opF_ari, opF_builtin, evs, opF_assign, runOps_nil, builtin_append, binF_int, op_sub_i64, exec_draw, exec_ret, exec_skip]
        with_reducible rfl
      show W tb1 _ _ _
      apply W.seq
      apply W.run 20
      · intro M
        simp (config := { maxSteps := 4000000 }) (disch := first | decide +kernel | (rw [wantF_guard]; simp only [wantD_some, dstAt_zero, dstAt_succ, T.get_set, T.get_e, Nat.reduceEqDiff, if_true, if_false, wantV_bool, wantV_unit, unitV, cond_true, cond_false, Bool.not_true, Bool.not_false, List.toList_toArray]) | omega) only [c18, Try.f18, Option.getD_some, sub_seq1, sub_seq0, sub_nil, exec_region, runOps_cons, opF_move, ev_tmp, T.get_set, Nat.reduceEqDiff, T.get_e, if_true, if_false, evG_some, putT_some, opF_slice, evo, R.ok_bind, opF_assign, runOps_nil, q4, Nat.reduceAdd]
        with_reducible rfl
      apply W.seq
      apply W.seq
      apply W.run 20
      · intro M
        simp (config := { maxSteps := 4000000 }) (disch := first | decide +kernel | (rw [wantF_guard]; simp only [wantD_some, dstAt_zero, dstAt_succ, T.get_set, T.get_e, Nat.reduceEqDiff, if_true, if_false, wantV_bool, wantV_unit, unitV, cond_true, cond_false, Bool.not_true, Bool.not_false, List.toList_toArray]) | omega) only [c18, Try.f18, Option.getD_some, sub_seq1, sub_seq0, sub_nil, exec_region, runOps_cons, opF_move, ev_tmp, T.get_set, Nat.reduceEqDiff, T.get_e, if_false, if_true, evG_some, putT_some, opF_len, evs, R.ok_bind, opF_ari, runOps_nil, hlen, binF_int, e1, op_leq, cast_le, e3, decide_true]
        with_reducible rfl
      show W tb1 _ _ _
      rw [c18_b]
      refine W.cond (p := true) (by simp only [ev_tmp, T.get_set, if_true, evG_some]) (fun _ => ?_) (fun h => by cases h)
      apply W.seq
      apply W.run 20
      · intro M
        simp (config := { maxSteps := 4000000 }) (disch := first | decide +kernel | (rw [wantF_guard]; simp only [wantD_some, dstAt_zero, dstAt_succ, T.get_set, T.get_e, Nat.reduceEqDiff, if_true, if_false, wantV_bool, wantV_unit, unitV, cond_true, cond_false, Bool.not_true, Bool.not_false, List.toList_toArray]) | omega) only [c18, Try.f18, Option.getD_some, sub_seq1, sub_seq0, sub_cond0, sub_nil, exec_region, runOps_cons, opF_move, ev_tmp, T.get_set, Nat.reduceEqDiff, T.get_e, if_false, if_true, evG_some, putT_some, opF_slice, evo, R.ok_bind, opF_builtin, evs, runOps_nil, builtin_copy, q5, Nat.reduceAdd, hcp1]
        with_reducible rfl
      apply W.seq
      apply W.run 20
      · intro M
        simp (config := { maxSteps := 4000000 }) (disch := first | decide +kernel | (rw [wantF_guard]; simp only [wantD_some, dstAt_zero, dstAt_succ, T.get_set, T.get_e, Nat.reduceEqDiff, if_true, if_false, wantV_bool, wantV_unit, unitV, cond_true, cond_false, Bool.not_true, Bool.not_false, List.toList_toArray]) | omega) only [c18, Try.f18, Option.getD_some, sub_seq1, sub_seq0, sub_cond0, sub_nil, exec_draw, runOps_cons, opF_move, ev_tmp, T.get_set, Nat.reduceEqDiff, T.get_e, if_false, if_true, evG_some, putT_some, opF_len, evs, R.ok_bind, opF_ari, opF_slice, evo, opF_builtin, runOps_nil, builtin_copy, q3, hlen, binF_int, e1, q6, Nat.reduceAdd, hcp2]
        with_reducible rfl
      apply W.seq
      apply W.run 20
      · intro M
        simp (config := { maxSteps := 4000000 }) (disch := first | decide +kernel | (rw [wantF_guard]; simp only [wantD_some, dstAt_zero, dstAt_succ, T.get_set, T.get_e, Nat.reduceEqDiff, if_true, if_false, wantV_bool, wantV_unit, unitV, cond_true, cond_false, Bool.not_true, Bool.not_false, List.toList_toArray]) | omega) only [c18, Try.f18, Option.getD_some, sub_seq1, sub_seq0, sub_cond0, sub_nil, exec_region, runOps_cons, opF_move, ev_tmp, T.get_set, Nat.reduceEqDiff, T.get_e, if_true, if_false, evG_some, putT_some, opF_slice, evo, R.ok_bind, opF_clear, evs, putT_none, runOps_nil, builtin_clear, q7, z1]
        with_reducible rfl
      apply W.seq
      apply W.run 20
      · intro M
        simp (config := { maxSteps := 4000000 }) (disch := first | decide +kernel | (rw [wantF_guard]; simp only [wantD_some, dstAt_zero, dstAt_succ, T.get_set, T.get_e, Nat.reduceEqDiff, if_true, if_false, wantV_bool, wantV_unit, unitV, cond_true, cond_false, Bool.not_true, Bool.not_false, List.toList_toArray]) | omega) only [c18, Try.f18, Option.getD_some, sub_seq1, sub_seq0, sub_cond0, sub_nil, exec_region, runOps_cons, opF_move, ev_tmp, T.get_set, Nat.reduceEqDiff, T.get_e, if_false, if_true, evG_some, putT_some, opF_assign, runOps_nil, R.ok_bind]
        with_reducible rfl
      apply W.run 20
      · intro M
        simp (config := { maxSteps := 4000000 }) (disch := first | decide +kernel | (rw [wantF_guard]; simp only [wantD_some, dstAt_zero, dstAt_succ, T.get_set, T.get_e, Nat.reduceEqDiff, if_true, if_false, wantV_bool, wantV_unit, unitV, cond_true, cond_false, Bool.not_true, Bool.not_false, List.toList_toArray]) | omega) only [c18, Try.f18, Option.getD_some, sub_seq1, sub_seq0, sub_cond0, sub_nil, exec_ret]
        with_reducible rfl
      have hle : (l.take i ++ s :: l.drop j).length = n := by rw [hvl]; omega
      refine ⟨.inr rfl, _, [.slice (some ⟨b, 0 + 0, none⟩) n (capSub c 0)], rfl, ?_, .inr ⟨k, capSub c 0, by rw [hle]; rfl, (show b < A3.next by omega), ⟨_, z2, fun m hm => ?_⟩, by rw [hle, hcap0]; omega, q4f⟩, (show A3.next = A.next by omega), fun y hy => by rw [z5 y hy, t4 y hy, s4 y hy]⟩
      · simp only [Try.f18, resF, ev_tmp, T.get_set, Nat.reduceEqDiff, if_true, if_false, evG_some, R.ok_bind]
      · rw [ints_len, hle] at hm
        rw [rep_get hij hj, T.get_puts, if_neg (by omega), T.get_puts]
        by_cases h : m < i
        · rw [if_neg (by omega), T.get_puts, if_neg (by rw [List.length_singleton]; omega), if_pos h, hcv m (by omega)]
        · rw [if_neg h]
          by_cases hmi : m = i
          · subst hmi
            rw [if_neg (by omega), T.get_puts, if_pos (by simp), if_pos rfl]
            simp
          · rw [if_neg hmi, if_pos (by rw [ints_len, List.length_drop]; omega)]
            congr 1
            omega
  exact ⟨x', A', ha, hR, hn, hg⟩
end Go.Proofs.Ytgkolgfkcelljaa.pck

/-
  Pick: Settle; whether two rows are alike.
-/
namespace Go.Proofs.Ytgkolgfkcelljaa.pck
open Go.Am Go.Pick
set_option linter.unusedSimpArgs false
set_option linter.unusedVariables false
set_option linter.unusedVariables false
set_option maxRecDepth 20000

theorem Rw.mid {A : Mem} {b m n : Nat} {l : List Nat} {x : Value} (h : Rw A b l x) (hm : m < n) (hn : n ≤ l.length) : ∃ x', sliceF tb1 24 x (some (.int .i64 (m : Int))) (some (.int .i64 (n : Int))) none = .ok x' ∧ Seen A ((l.drop m).take (n - m)) x' := by
  rcases h with ⟨_, rfl⟩ | ⟨k, cn, rfl, hb, hv, hc1, hc2⟩
  · simp at hn; omega
  · have e1 : bound (some (.int .i64 (n : Int))) l.length (capN cn) = .ok n := bound_some (by omega)
    have e2 : bound (some (.int .i64 (m : Int))) 0 n = .ok m := bound_some (by omega)
    have hx : (capX cn && Nat.beq (capN cn) m) = false := by
      have : Nat.beq (capN cn) m = false := by
        cases hq : Nat.beq (capN cn) m with
        | false => rfl
        | true => have := Nat.eq_of_beq_eq_true hq; omega
      rw [this, Bool.and_false]
    have hlen : ((l.drop m).take (n - m)).length = n - m := by rw [List.length_take, List.length_drop]; omega
    refine ⟨.slice (some ⟨b, 0 + m * 1, none⟩) (n - m) (capSub cn m), ?_, ?_, fun i hi => ?_⟩
    · unfold sliceF
      simp only [und24, R.ok_bind, e1, e2, size3, hx, cond_false, hc2, cond_true, addA]
    · rw [hlen]; exact len_slc und24
    · rw [hlen] at hi
      have hi2 := indexAddr_slc (tb := tb1) (t := 24) (b := b) (o := 0 + m * 1) (cap := capSub cn m) (k := .i64) und24 size3 hi
      refine ⟨_, hi2, ?_⟩
      have h3 : loadF tb1 A.get 3 (.pointer (some ⟨b, m + i, none⟩)) = .ok (.int .i64 ((l.getD (m + i) 0 : Nat) : Int)) := load_vals und3 rfl hv (ints_get (by omega))
      rw [show 0 + m * 1 + i = m + i by omega, h3]
      simp [List.getD, List.getElem?_take, List.getElem?_drop, hi]
noncomputable def c11 : Code := Try.f11.body.getD .skip
noncomputable def c11b1 : Code := sub c11 [1,1,0,1,0,0]
noncomputable def c11b2 : Code := sub c11 [1,1,1,0,0]
noncomputable def c11b3 : Code := sub c11b2 [0,1,1,1,0,1,0,0]
theorem c11_eq : Try.f11.body = some (.seq (sub c11 [0]) (.seq (sub c11 [1,0]) (.seq (.seq (sub c11 [1,1,0,0]) (.block 0 (.loop c11b1))) (.block 2 (.loop c11b2))))) := by kernel_rfl
theorem c11b2_eq : c11b2 = (.block 3 (.seq (sub c11b2 [0,0]) (.seq (.seq (sub c11b2 [0,1,0,0]) (sub c11b2 [0,1,0,1])) (.seq (sub c11b2 [0,1,1,0]) (.seq (.seq (sub c11b2 [0,1,1,1,0,0]) (.block 4 (.loop c11b3))) (sub c11b2 [0,1,1,1,1])))))) := by kernel_rfl
set_option maxHeartbeats 8000000 in
theorem run_settle {A : Mem} {f b0 : Nat} {l : List Nat} {x : Value} (h2 : 2 ≤ f) (hf : f < 1000) (hl : l.length ≤ 100) (hb : ∀ n ∈ l, n ≤ 100000) (hx : Rw A b0 l x) (hA : 0 < A.next) :
    ∃ y A' b, Ans tb1 11 [.int .i64 (f : Int), x] A y A' ∧ Rw A' b (settleL f l) y ∧ b < A'.next ∧ Ext A A' := by
  obtain ⟨v, A', ha, b, hR, hbl, hE⟩ : ∃ v A', Ans tb1 11 [.int .i64 (f : Int), x] A v A' ∧ ∃ b, Rw A' b (settleL f l) v ∧ b < A'.next ∧ Ext A A' := by
    refine ans_of_W (fn_at Try.func11) c11_eq (by rw [Try.ntmps11]; simp) (by kernel_rfl) (by kernel_rfl) ?_
    have lx := hx.len
    apply W.seq
    apply W.run 20
    · intro M
      simp (config := { maxSteps := 4000000 }) (disch := first | decide +kernel | (rw [wantF_guard]; simp only [wantD_some, dstAt_zero, dstAt_succ, T.get_set, T.get_e, Nat.reduceEqDiff, if_true, if_false, wantV_bool, wantV_unit, unitV, cond_true, cond_false, Bool.not_true, Bool.not_false, List.toList_toArray]) | omega) only [c11, Try.f11, Option.getD_some, sub_seq0, sub_nil, T.puts_cons, Nat.reduceAdd, T.puts_nil, exec_region, runOps_cons, opF_assign, ev_nilslice, putT_some, runOps_nil, R.ok_bind]
      with_reducible rfl
    apply W.seq
    apply W.run 20
    · intro M
      simp (config := { maxSteps := 4000000 }) (disch := first | decide +kernel | (rw [wantF_guard]; simp only [wantD_some, dstAt_zero, dstAt_succ, T.get_set, T.get_e, Nat.reduceEqDiff, if_true, if_false, wantV_bool, wantV_unit, unitV, cond_true, cond_false, Bool.not_true, Bool.not_false, List.toList_toArray]) | omega) only [c11, Try.f11, Option.getD_some, sub_seq1, sub_seq0, sub_nil, exec_region, runOps_cons, opF_assign, ev_nilslice, putT_some, runOps_nil, R.ok_bind]
      with_reducible rfl
    apply W.seq
    apply W.seq
    apply W.run 20
    · intro M
      simp (config := { maxSteps := 4000000 }) (disch := first | decide +kernel | (rw [wantF_guard]; simp only [wantD_some, dstAt_zero, dstAt_succ, T.get_set, T.get_e, Nat.reduceEqDiff, if_true, if_false, wantV_bool, wantV_unit, unitV, cond_true, cond_false, Bool.not_true, Bool.not_false, List.toList_toArray]) | omega) only [c11, Try.f11, Option.getD_some, sub_seq1, sub_seq0, sub_nil, exec_region, runOps_cons, opF_move, ev_tmp, T.get_set, Nat.reduceEqDiff, T.get_e, if_false, if_true, evG_some, putT_some, opF_len, evs, R.ok_bind, ev_int, runOps_nil, lx]
      with_reducible rfl
    apply W.block
    refine W.up l.length (fun i t D => ∃ xo b, Slc D 3 b (ints (l.take i)) xo ∧ A.next ≤ b ∧ Ext A D ∧ Sl t [(0, .int .i64 (f : Int)), (5, xo), (14, x), (15, .int .i64 ((l.length : Nat) : Int)), (16, .int .i64 (i : Int))]) ?_ (Nat.zero_le _) ⟨.slice none 0 0, A.next, .inl ⟨rfl, rfl⟩, Nat.le_refl _, Ext.refl A, ?_⟩
    · rintro i t D hi ⟨xo, b, hs, hnb, hE, g0, g5, g14, g15, g16, -⟩
      by_cases hlt : i < l.length
      · obtain ⟨p, hp, hpl⟩ := (hx.same hE.n (fun h => hE.g _ h)).at hlt
        have htk : l.take (i + 1) = l.take i ++ [l.getD i 0] := by
          rw [List.take_succ_eq_append_getElem hlt]
          simp [List.getD, List.getElem?_eq_getElem hlt]
        generalize l.getD i 0 = n at hpl htk
        have hmx : max 0 n = n := by omega
        obtain ⟨ti, ht1, ht2⟩ := ty3
        have hE2 := Ext.alloc D (rowOb 3 [.int .i64 (n : Int)])
        have hln : (l.take i).length ≤ 100 := by rw [List.length_take]; omega
        obtain ⟨x', D3, happ, hs3, hn3, hf3⟩ := (hs.same hE2.n (fun hl => hE2.g b hl)).append (tb := tb1) (st := 24) (xt := 24) und24 und24 zc3 ht1 (by omega) (by omega) (by rw [ints_len]; omega) (get_alloc_self D _) rfl
        have hn2 : (D.alloc (rowOb 3 [.int .i64 (n : Int)])).next = D.next + 1 := next_alloc _ _
        have hEn := hE.n
        apply W.run 20
        · intro M
          simp (config := { maxSteps := 4000000 }) (disch := first | decide +kernel | (rw [wantF_guard]; simp only [wantD_some, dstAt_zero, dstAt_succ, T.get_set, T.get_e, Nat.reduceEqDiff, if_true, if_false, wantV_bool, wantV_unit, unitV, cond_true, cond_false, Bool.not_true, Bool.not_false, List.toList_toArray]) | omega) only [c11b1, c11, Try.f11, Option.getD_some, sub_seq1, sub_seq0, sub_block, sub_loop, sub_nil, exec_seq, exec_region, runOps_cons, opF_ari, ev_tmp, g16, evG_some, g15, putT_some, runOps_nil, R.ok_bind, binF_int, op_lssI, cast_lt, hlt, decide_true, exec_cond, exec_skip, exec_exit, exec_block, opF_indexAddr, opF_move, ev_int, T.get_set, if_true, Nat.reduceEqDiff, g14, if_false, opF_load, opF_assign, hp, hpl, g5, opF_minmax, evs, opF_buildSlice, evp, opF_builtin, builtin_append, max_i64, hmx, bs24, at_slc, happ, op_add_i64]
          with_reducible rfl
        refine ⟨hlt, _, _, rfl, x', (D.alloc (rowOb 3 [.int .i64 (n : Int)])).next, ?_, by omega, ⟨by omega, fun y hy => by rw [hf3 y (by omega) (by omega), hE2.g y (by omega), hE.g y hy]⟩, ?_⟩
        · rw [htk, ints_app]; exact hs3
        · simp only [Sl_cons, Sl_nil, T.get_set, T.puts_cons, T.puts_nil, Nat.reduceEqDiff, Nat.reduceAdd, if_true, if_false, and_true, true_and, g0, g14, g15]
      · have hin : i = l.length := by omega
        subst hin
        rw [List.take_length] at hs
        apply W.run 20
        · intro M
          simp (config := { maxSteps := 4000000 }) (disch := first | decide +kernel | (rw [wantF_guard]; simp only [wantD_some, dstAt_zero, dstAt_succ, T.get_set, T.get_e, Nat.reduceEqDiff, if_true, if_false, wantV_bool, wantV_unit, unitV, cond_true, cond_false, Bool.not_true, Bool.not_false, List.toList_toArray]) | omega) only [c11b1, c11, Try.f11, Option.getD_some, sub_seq1, sub_seq0, sub_block, sub_loop, sub_nil, exec_seq, exec_region, runOps_cons, opF_ari, ev_tmp, g16, evG_some, g15, putT_some, runOps_nil, R.ok_bind, binF_int, op_lssI, cast_lt, Nat.lt_irrefl, decide_false, exec_cond, exec_skip, exec_exit, exec_block, opF_indexAddr, opF_move, ev_int, T.get_set, if_true]
          with_reducible rfl
        show W tb1 _ _ _
        apply W.block
        obtain ⟨b1, hR1, hb1, hbA⟩ : ∃ b1, Rw D b1 l xo ∧ b1 < D.next ∧ (A.next ≤ b1 ∨ l = []) := by
          rcases rw_of hs with ⟨q1, q2⟩ | ⟨k, c, q1, q2, q3⟩
          · exact ⟨0, .inl ⟨q1, q2⟩, by have := hE.n; omega, .inr q2⟩
          · exact ⟨b, .inr ⟨k, c, q1, q2, q3⟩, q2, .inl hnb⟩
        refine W.fall (fun m t C => ∃ cur xc bc k, m = cur.length ∧ cur.length ≤ k ∧ cur.length ≤ 100 ∧ (∀ n ∈ cur, n ≤ 100000) ∧ settleN f k cur = settleL f l ∧ Rw C bc cur xc ∧ bc < C.next ∧ (A.next ≤ bc ∨ cur = []) ∧ Ext A C ∧ Sl t [(0, .int .i64 (f : Int)), (5, xc)]) ?_ (k := l.length) ⟨l, xo, b1, l.length, rfl, Nat.le_refl _, hl, hb, rfl, hR1, hb1, hbA, hE, ?_⟩
        · rintro m t C ⟨cur, xc, bc, k, rfl, hk, hcl, hcb, hst, hRC, hbc, hbcA, hEC, u0, u5, -⟩
          obtain ⟨G, ⟨g, hg⟩, ECG⟩ := run_pickR h2 hf (by omega) (fun n hn => by have := hcb n hn; omega) hRC hbc
          have hRG := hRC.same ECG.n (fun h => ECG.g _ h)
          rw [c11b2_eq]
          apply W.block
          apply W.seq
          cases ho : pickO f cur with
          | none =>
            rw [ho] at hg
            unfold pickV at hg
            apply W.runG (g) 20
            · intro M hM
              simp (config := { maxSteps := 4000000 }) (disch := first | decide +kernel | (rw [wantF_guard]; simp only [wantD_some, dstAt_zero, dstAt_succ, T.get_set, T.get_e, Nat.reduceEqDiff, if_true, if_false, wantV_bool, wantV_unit, unitV, cond_true, cond_false, Bool.not_true, Bool.not_false, List.toList_toArray]) | omega) only [c11b2, c11, Try.f11, Option.getD_some, sub_seq1, sub_block, sub_loop, sub_nil, sub_seq0, exec_region, runOps_cons, opF_move, ev_tmp, u0, evG_some, putT_some, T.get_set, Nat.reduceEqDiff, u5, if_false, opF_call, evs, if_true, R.ok_bind, resK, opF_extract, extractF, opF_assign, runOps_nil, hg, List.getElem?_cons_zero, List.getElem?_cons_succ]
              with_reducible rfl
            apply W.seq
            apply W.seq
            apply W.run 20
            · intro M
              simp (config := { maxSteps := 4000000 }) (disch := first | decide +kernel | (rw [wantF_guard]; simp only [wantD_some, dstAt_zero, dstAt_succ, T.get_set, T.get_e, Nat.reduceEqDiff, if_true, if_false, wantV_bool, wantV_unit, unitV, cond_true, cond_false, Bool.not_true, Bool.not_false, List.toList_toArray]) | omega) only [c11b2, c11, Try.f11, Option.getD_some, sub_seq1, sub_block, sub_loop, sub_nil, sub_seq0, exec_region, runOps_cons, opF_move, ev_tmp, T.get_set, Nat.reduceEqDiff, if_false, if_true, evG_some, putT_some, opF_neq, ev_int, runOps_nil, R.ok_bind, binF_int, op_neq, ne_eq, not_false_eq_true, decide_true]
              with_reducible rfl
            show W tb1 _ _ _
            apply W.run 20
            · intro M
              simp (config := { maxSteps := 4000000 }) (disch := first | decide +kernel | (rw [wantF_guard]; simp only [wantD_some, dstAt_zero, dstAt_succ, T.get_set, T.get_e, Nat.reduceEqDiff, if_true, if_false, wantV_bool, wantV_unit, unitV, cond_true, cond_false, Bool.not_true, Bool.not_false, List.toList_toArray]) | omega) only [c11b2, c11, Try.f11, Option.getD_some, sub_seq1, sub_block, sub_loop, sub_nil, sub_seq0, exec_cond, ev_tmp, T.get_set, Nat.reduceEqDiff, if_false, if_true, evG_some, exec_seq, exec_region, runOps_cons, opF_move, u5, putT_some, opF_assign, runOps_nil, R.ok_bind, exec_ret, exec_skip]
              with_reducible rfl
            have he : settleL f l = cur := by
              rw [← hst]
              cases k with
              | zero => rfl
              | succ k => unfold settleN; rw [ho]
            refine ⟨.inr rfl, _, [xc], rfl, ?_, bc, by rw [he]; exact hRG, by have := ECG.n; (show bc < G.next); omega, hEC.trans ECG⟩
            simp only [Try.f11, resF, ev_tmp, T.get_set, Nat.reduceEqDiff, if_true, if_false, evG_some, R.ok_bind]
          | some r =>
            obtain ⟨r1, r2⟩ := pickO_full h2 ho
            obtain ⟨k, rfl⟩ : ∃ k', k = k' + 1 := ⟨k - 1, by omega⟩
            rw [settleN_step ho] at hst
            rw [ho] at hg
            unfold pickV at hg
            obtain ⟨xs, hcut, hseen⟩ := hRG.mid (show r.a < r.b by omega) r2
            have hsl : ((cur.drop r.a).take (r.b - r.a)).length = r.b - r.a := by rw [List.length_take, List.length_drop]; omega
            have hlen := hseen.1
            rw [hsl] at hlen
            apply W.runG (g) 20
            · intro M hM
              simp (config := { maxSteps := 4000000 }) (disch := first | decide +kernel | (rw [wantF_guard]; simp only [wantD_some, dstAt_zero, dstAt_succ, T.get_set, T.get_e, Nat.reduceEqDiff, if_true, if_false, wantV_bool, wantV_unit, unitV, cond_true, cond_false, Bool.not_true, Bool.not_false, List.toList_toArray]) | omega) only [c11b2, c11, Try.f11, Option.getD_some, sub_seq1, sub_block, sub_loop, sub_nil, sub_seq0, exec_region, runOps_cons, opF_move, ev_tmp, u0, evG_some, putT_some, T.get_set, Nat.reduceEqDiff, u5, if_false, opF_call, evs, if_true, R.ok_bind, resK, opF_extract, extractF, opF_assign, runOps_nil, hg, List.getElem?_cons_zero, List.getElem?_cons_succ]
              with_reducible rfl
            apply W.seq
            apply W.seq
            apply W.run 20
            · intro M
              simp (config := { maxSteps := 4000000 }) (disch := first | decide +kernel | (rw [wantF_guard]; simp only [wantD_some, dstAt_zero, dstAt_succ, T.get_set, T.get_e, Nat.reduceEqDiff, if_true, if_false, wantV_bool, wantV_unit, unitV, cond_true, cond_false, Bool.not_true, Bool.not_false, List.toList_toArray]) | omega) only [c11b2, c11, Try.f11, Option.getD_some, sub_seq1, sub_block, sub_loop, sub_nil, sub_seq0, exec_region, runOps_cons, opF_move, ev_tmp, T.get_set, Nat.reduceEqDiff, if_false, if_true, evG_some, putT_some, opF_neq, ev_int, runOps_nil, R.ok_bind, binF_int, op_neq, ne_eq, not_true_eq_false, decide_false]
              with_reducible rfl
            show W tb1 _ _ _
            apply W.run 20
            · intro M
              simp (config := { maxSteps := 4000000 }) (disch := first | decide +kernel | (rw [wantF_guard]; simp only [wantD_some, dstAt_zero, dstAt_succ, T.get_set, T.get_e, Nat.reduceEqDiff, if_true, if_false, wantV_bool, wantV_unit, unitV, cond_true, cond_false, Bool.not_true, Bool.not_false, List.toList_toArray]) | omega) only [c11b2, c11, Try.f11, Option.getD_some, sub_seq1, sub_block, sub_loop, sub_nil, sub_seq0, exec_cond, ev_tmp, T.get_set, Nat.reduceEqDiff, if_false, if_true, evG_some, exec_seq, exec_region, runOps_cons, opF_move, putT_some, opF_assign, runOps_nil, R.ok_bind, exec_ret, exec_skip]
              with_reducible rfl
            show W tb1 _ _ _
            apply W.seq
            apply W.run 20
            · intro M
              simp (config := { maxSteps := 4000000 }) (disch := first | decide +kernel | (rw [wantF_guard]; simp only [wantD_some, dstAt_zero, dstAt_succ, T.get_set, T.get_e, Nat.reduceEqDiff, if_true, if_false, wantV_bool, wantV_unit, unitV, cond_true, cond_false, Bool.not_true, Bool.not_false, List.toList_toArray]) | omega) only [c11b2, c11, Try.f11, Option.getD_some, sub_seq1, sub_block, sub_loop, sub_nil, sub_seq0, exec_region, runOps_cons, opF_assign, ev_int, putT_some, runOps_nil, R.ok_bind]
              with_reducible rfl
            apply W.seq
            apply W.seq
            apply W.run 20
            · intro M
              simp (config := { maxSteps := 4000000 }) (disch := first | decide +kernel | (rw [wantF_guard]; simp only [wantD_some, dstAt_zero, dstAt_succ, T.get_set, T.get_e, Nat.reduceEqDiff, if_true, if_false, wantV_bool, wantV_unit, unitV, cond_true, cond_false, Bool.not_true, Bool.not_false, List.toList_toArray]) | omega) only [c11b2, c11, Try.f11, Option.getD_some, sub_seq1, sub_block, sub_loop, sub_nil, sub_seq0, exec_region, runOps_cons, opF_move, ev_tmp, T.get_set, Nat.reduceEqDiff, u5, if_false, evG_some, putT_some, if_true, opF_slice, evo, R.ok_bind, opF_len, evs, ev_int, runOps_nil, hcut, hlen]
              with_reducible rfl
            apply W.block
            refine W.up (r.b - r.a) (fun i t E => E = G ∧ Sl t [(0, .int .i64 (f : Int)), (5, xc), (8, .int .i64 (r.a : Int)), (9, .int .i64 (r.b : Int)), (11, .int .i64 ((((seg r cur).take i).foldl addC 0 : Nat) : Int)), (39, xs), (40, .int .i64 ((r.b - r.a : Nat) : Int)), (41, .int .i64 (i : Int))]) ?_ (Nat.zero_le _) ⟨rfl, ?_⟩
            · rintro i t E hi ⟨rfl, w0, w5, w8, w9, w11, w39, w40, w41, -⟩
              by_cases hlt2 : i < r.b - r.a
              · obtain ⟨p, hp, hpl⟩ := hseen.2 i (by rw [hsl]; exact hlt2)
                have htk : ((seg r cur).take (i + 1)).foldl addC 0 = addC (((seg r cur).take i).foldl addC 0) ((seg r cur).getD i 0) := by
                  have hi2 : i < (seg r cur).length := by unfold seg; rw [hsl]; exact hlt2
                  rw [List.take_succ_eq_append_getElem hi2, List.foldl_append]
                  simp [List.getD, List.getElem?_eq_getElem hi2]
                have hc0 : ((seg r cur).take i).foldl addC 0 ≤ 100000 := (sumC_ok _ 0 (by omega)).1
                have hpl' : loadF tb1 E.get 3 (.pointer (some p)) = .ok (.int .i64 (((seg r cur).getD i 0 : Nat) : Int)) := hpl
                generalize ((seg r cur).take i).foldl addC 0 = sm at w11 htk hc0
                generalize (seg r cur).getD i 0 = n at hpl' htk
                have had : intOpF .add .i64 ((sm : Nat) : Int) ((min 100000 n : Nat) : Int) = .ok (.int .i64 ((sm + min 100000 n : Nat) : Int)) := op_add_i64 (by omega)
                apply W.run 20
                · intro M
                  simp (config := { maxSteps := 4000000 }) (disch := first | decide +kernel | (rw [wantF_guard]; simp only [wantD_some, dstAt_zero, dstAt_succ, T.get_set, T.get_e, Nat.reduceEqDiff, if_true, if_false, wantV_bool, wantV_unit, unitV, cond_true, cond_false, Bool.not_true, Bool.not_false, List.toList_toArray]) | omega) only [c11b3, c11b2, c11, Try.f11, Option.getD_some, sub_seq1, sub_block, sub_loop, sub_nil, sub_seq0, exec_seq, exec_region, runOps_cons, opF_ari, ev_tmp, w41, evG_some, w40, putT_some, runOps_nil, R.ok_bind, binF_int, op_lssI, cast_lt, hlt2, decide_true, exec_cond, exec_skip, exec_exit, exec_block, opF_indexAddr, opF_move, ev_int, T.get_set, if_true, Nat.reduceEqDiff, w39, if_false, opF_load, opF_assign, hp, hpl', w11, opF_minmax, evs, min_i64, had, op_add_i64]
                  with_reducible rfl
                refine ⟨hlt2, _, _, rfl, rfl, ?_⟩
                rw [htk]
                unfold addC
                simp only [Sl_cons, Sl_nil, T.get_set, T.puts_cons, T.puts_nil, Nat.reduceEqDiff, Nat.reduceAdd, if_true, if_false, and_true, true_and, w0, w5, w8, w9, w39, w40]
              · have hin2 : i = r.b - r.a := by omega
                subst hin2
                have hall : ((seg r cur).take (r.b - r.a)).foldl addC 0 = sumC (seg r cur) := by
                  rw [List.take_of_length_le (by unfold seg; rw [hsl]; exact Nat.le_refl _)]; rfl
                rw [hall] at w11
                have hE2 := Ext.alloc E (rowOb 3 [.int .i64 ((sumC (seg r cur) : Nat) : Int)])
                have hn2 : (E.alloc (rowOb 3 [.int .i64 ((sumC (seg r cur) : Nat) : Int)])).next = E.next + 1 := next_alloc _ _
                have hbE : bc < E.next := by have := ECG.n; omega
                obtain ⟨xr, H, ⟨gr, hgr⟩, hRH, hnH, hfH⟩ := run_replace (bv := E.next) (s := sumC (seg r cur)) (i := r.a) (j := r.b) (hRG.same hE2.n (fun h => hE2.g _ h)) r1 r2 (by omega) (get_alloc_self E _) (by omega) (by omega)
                have hEAE := hEC.trans ECG
                have hl2 := repl_len (r := r) (l := cur) r1 r2
                have hcur : cur ≠ [] := fun h => by rw [h] at r2; simp at r2; omega
                apply W.run 20
                · intro M
                  simp (config := { maxSteps := 4000000 }) (disch := first | decide +kernel | (rw [wantF_guard]; simp only [wantD_some, dstAt_zero, dstAt_succ, T.get_set, T.get_e, Nat.reduceEqDiff, if_true, if_false, wantV_bool, wantV_unit, unitV, cond_true, cond_false, Bool.not_true, Bool.not_false, List.toList_toArray]) | omega) only [c11b3, c11b2, c11, Try.f11, Option.getD_some, sub_seq1, sub_block, sub_loop, sub_nil, sub_seq0, exec_seq, exec_region, runOps_cons, opF_ari, ev_tmp, w41, evG_some, w40, putT_some, runOps_nil, R.ok_bind, binF_int, op_lssI, cast_lt, Nat.lt_irrefl, decide_false, exec_cond, exec_skip, exec_exit, exec_block, opF_indexAddr, opF_move, ev_int, T.get_set, if_true]
                  with_reducible rfl
                show W tb1 _ _ _
                apply W.runG (gr) 20
                · intro M hM
                  simp (config := { maxSteps := 4000000 }) (disch := first | decide +kernel | (rw [wantF_guard]; simp only [wantD_some, dstAt_zero, dstAt_succ, T.get_set, T.get_e, Nat.reduceEqDiff, if_true, if_false, wantV_bool, wantV_unit, unitV, cond_true, cond_false, Bool.not_true, Bool.not_false, List.toList_toArray]) | omega) only [c11b2, c11, Try.f11, Option.getD_some, sub_seq1, sub_block, sub_loop, sub_nil, exec_region, runOps_cons, opF_move, ev_tmp, T.get_set, Nat.reduceEqDiff, w5, if_false, evG_some, putT_some, w8, w9, w11, opF_buildSlice, evp, if_true, R.ok_bind, opF_call, evs, resK, opF_assign, runOps_nil, bs24, at_slc, hgr]
                  with_reducible rfl
                refine ⟨(repl r cur).length, _, _, hl2, rfl, repl r cur, xr, bc, k, rfl, by omega, by omega, fun n hn => ?_, hst, hRH, by omega, .inl (hbcA.resolve_right hcur), ⟨by have := hEAE.n; omega, fun y hy => ?_⟩, ?_⟩
                · unfold repl at hn
                  rcases List.mem_append.1 hn with h1 | h1
                  · exact hcb n (List.mem_of_mem_take h1)
                  · rcases List.mem_cons.1 h1 with h1 | h1
                    · rw [h1]; exact (sumC_ok (seg r cur) 0 (by omega)).1
                    · exact hcb n (List.mem_of_mem_drop h1)
                · have h9 := hbcA.resolve_right hcur
                  have h8 := hEAE.n
                  rw [hfH y (by omega), hE2.g y (by omega), hEAE.g y hy]
                · simp only [Sl_cons, Sl_nil, T.get_set, T.puts_cons, T.puts_nil, Nat.reduceEqDiff, Nat.reduceAdd, if_true, if_false, and_true, true_and, w0]
            · have e0 : ((seg r cur).take 0).foldl addC 0 = 0 := rfl
              rw [e0]
              simp only [Sl_cons, Sl_nil, T.get_set, T.puts_cons, T.puts_nil, Nat.reduceEqDiff, Nat.reduceAdd, if_true, if_false, and_true, true_and, u0, u5]
        · simp only [Sl_cons, Sl_nil, T.get_set, T.puts_cons, T.puts_nil, Nat.reduceEqDiff, Nat.reduceAdd, if_true, if_false, and_true, true_and, g0, g5]
    · simp only [Sl_cons, Sl_nil, T.get_set, T.puts_cons, T.puts_nil, Nat.reduceEqDiff, Nat.reduceAdd, if_true, if_false, and_true, true_and]
  exact ⟨v, A', b, ha, hR, hbl, hE⟩

noncomputable def c12 : Code := Try.f12.body.getD .skip
noncomputable def c12b1 : Code := sub c12 [1,1,0,1,0,0]
theorem c12_eq : Try.f12.body = some (.seq (sub c12 [0]) (.seq (.seq (sub c12 [1,0,0]) (sub c12 [1,0,1])) (.seq (.seq (sub c12 [1,1,0,0]) (.block 0 (.loop c12b1))) (.seq (sub c12 [1,1,1,0]) (sub c12 [1,1,1,1]))))) := by kernel_rfl
set_option maxHeartbeats 8000000 in
/-- A row is like itself. -/
theorem run_alike {A : Mem} {b b2 : Nat} {l : List Nat} {x y : Value} (hl : l.length ≤ 1000) (hx : Rw A b l x) (hy : Rw A b2 l y) : Ans tb1 12 [x, y] A (.bool true) A := by
  obtain ⟨v, A', ha, rfl, rfl⟩ : ∃ v A', Ans tb1 12 [x, y] A v A' ∧ v = .bool true ∧ A' = A := by
    refine ans_of_W (fn_at Try.func12) c12_eq (by rw [Try.ntmps12]; simp) (by kernel_rfl) (by kernel_rfl) ?_
    have lx := hx.len
    have ly := hy.len
    apply W.seq
    apply W.run 20
    · intro M
      simp (config := { maxSteps := 4000000 }) (disch := first | decide +kernel | (rw [wantF_guard]; simp only [wantD_some, dstAt_zero, dstAt_succ, T.get_set, T.get_e, Nat.reduceEqDiff, if_true, if_false, wantV_bool, wantV_unit, unitV, cond_true, cond_false, Bool.not_true, Bool.not_false, List.toList_toArray]) | omega) only [c12, Try.f12, Option.getD_some, sub_seq0, sub_nil, T.puts_cons, Nat.reduceAdd, T.puts_nil, exec_region, runOps_cons, opF_assign, ev_bool, putT_some, runOps_nil, R.ok_bind]
      with_reducible rfl
    apply W.seq
    apply W.seq
    apply W.run 20
    · intro M
      simp (config := { maxSteps := 4000000 }) (disch := first | decide +kernel | (rw [wantF_guard]; simp only [wantD_some, dstAt_zero, dstAt_succ, T.get_set, T.get_e, Nat.reduceEqDiff, if_true, if_false, wantV_bool, wantV_unit, unitV, cond_true, cond_false, Bool.not_true, Bool.not_false, List.toList_toArray]) | omega) only [c12, Try.f12, Option.getD_some, sub_seq1, sub_seq0, sub_nil, exec_region, runOps_cons, opF_move, ev_tmp, T.get_set, Nat.reduceEqDiff, T.get_e, if_true, if_false, evG_some, putT_some, opF_len, evs, R.ok_bind, opF_neq, runOps_nil, ly, lx, binF_int, op_neq, ne_eq, not_true_eq_false, decide_false]
      with_reducible rfl
    apply W.run 20
    · intro M
      simp (config := { maxSteps := 4000000 }) (disch := first | decide +kernel | (rw [wantF_guard]; simp only [wantD_some, dstAt_zero, dstAt_succ, T.get_set, T.get_e, Nat.reduceEqDiff, if_true, if_false, wantV_bool, wantV_unit, unitV, cond_true, cond_false, Bool.not_true, Bool.not_false, List.toList_toArray]) | omega) only [c12, Try.f12, Option.getD_some, sub_seq1, sub_seq0, sub_nil, exec_cond, ev_tmp, T.get_set, Nat.reduceEqDiff, T.get_e, if_false, if_true, evG_some, exec_seq, exec_region, runOps_cons, opF_assign, ev_bool, putT_some, runOps_nil, R.ok_bind, exec_ret, exec_skip]
      with_reducible rfl
    show W tb1 _ _ _
    apply W.seq
    apply W.seq
    apply W.run 20
    · intro M
      simp (config := { maxSteps := 4000000 }) (disch := first | decide +kernel | (rw [wantF_guard]; simp only [wantD_some, dstAt_zero, dstAt_succ, T.get_set, T.get_e, Nat.reduceEqDiff, if_true, if_false, wantV_bool, wantV_unit, unitV, cond_true, cond_false, Bool.not_true, Bool.not_false, List.toList_toArray]) | omega) only [c12, Try.f12, Option.getD_some, sub_seq1, sub_seq0, sub_nil, exec_region, runOps_cons, opF_assign, ev_int, putT_some, runOps_nil, R.ok_bind]
      with_reducible rfl
    apply W.block
    refine W.up l.length (fun i t D => D = A ∧ Sl t [(0, x), (1, y), (5, .int .i64 (i : Int))]) ?_ (Nat.zero_le _) ⟨rfl, ?_⟩
    · rintro i t D hi ⟨rfl, g0, g1, g5, -⟩
      by_cases hlt : i < l.length
      · obtain ⟨p, hp, hpl⟩ := hx.at hlt
        obtain ⟨p', hp', hpl'⟩ := hy.at hlt
        generalize l.getD i 0 = n at hpl hpl'
        apply W.run 20
        · intro M
          simp (config := { maxSteps := 4000000 }) (disch := first | decide +kernel | (rw [wantF_guard]; simp only [wantD_some, dstAt_zero, dstAt_succ, T.get_set, T.get_e, Nat.reduceEqDiff, if_true, if_false, wantV_bool, wantV_unit, unitV, cond_true, cond_false, Bool.not_true, Bool.not_false, List.toList_toArray]) | omega) only [c12b1, c12, Try.f12, Option.getD_some, sub_seq1, sub_seq0, sub_block, sub_loop, sub_nil, exec_seq, exec_region, runOps_cons, opF_move, ev_tmp, g5, evG_some, putT_some, T.get_set, Nat.reduceEqDiff, g0, if_false, opF_len, evs, if_true, R.ok_bind, opF_ari, runOps_nil, lx, binF_int, op_lssI, cast_lt, hlt, decide_true, exec_cond, exec_skip, exec_exit, exec_block, exec_draw, opF_assign, ev_bool, exec_ret, opF_indexAddr, opF_load, g1, opF_neq, hp', hpl', hp, hpl, op_neq, ne_eq, not_true_eq_false, decide_false, ev_int, op_add_i64]
          with_reducible rfl
        refine ⟨hlt, _, _, rfl, rfl, ?_⟩
        simp only [Sl_cons, Sl_nil, T.get_set, T.puts_cons, T.puts_nil, Nat.reduceEqDiff, Nat.reduceAdd, if_true, if_false, and_true, true_and, g0, g1]
      · have hin : i = l.length := by omega
        subst hin
        apply W.run 20
        · intro M
          simp (config := { maxSteps := 4000000 }) (disch := first | decide +kernel | (rw [wantF_guard]; simp only [wantD_some, dstAt_zero, dstAt_succ, T.get_set, T.get_e, Nat.reduceEqDiff, if_true, if_false, wantV_bool, wantV_unit, unitV, cond_true, cond_false, Bool.not_true, Bool.not_false, List.toList_toArray]) | omega) only [c12b1, c12, Try.f12, Option.getD_some, sub_seq1, sub_seq0, sub_block, sub_loop, sub_nil, exec_seq, exec_region, runOps_cons, opF_move, ev_tmp, g5, evG_some, putT_some, T.get_set, Nat.reduceEqDiff, g0, if_false, opF_len, evs, if_true, R.ok_bind, opF_ari, runOps_nil, lx, binF_int, op_lssI, cast_lt, Nat.lt_irrefl, decide_false, exec_cond, exec_skip, exec_exit, exec_block, exec_draw, opF_assign, ev_bool, exec_ret]
          with_reducible rfl
        show W tb1 _ _ _
        apply W.seq
        apply W.run 20
        · intro M
          simp (config := { maxSteps := 4000000 }) (disch := first | decide +kernel | (rw [wantF_guard]; simp only [wantD_some, dstAt_zero, dstAt_succ, T.get_set, T.get_e, Nat.reduceEqDiff, if_true, if_false, wantV_bool, wantV_unit, unitV, cond_true, cond_false, Bool.not_true, Bool.not_false, List.toList_toArray]) | omega) only [c12, Try.f12, Option.getD_some, sub_seq1, sub_seq0, sub_nil, exec_region, runOps_cons, opF_assign, ev_bool, putT_some, runOps_nil, R.ok_bind]
          with_reducible rfl
        apply W.run 20
        · intro M
          simp (config := { maxSteps := 4000000 }) (disch := first | decide +kernel | (rw [wantF_guard]; simp only [wantD_some, dstAt_zero, dstAt_succ, T.get_set, T.get_e, Nat.reduceEqDiff, if_true, if_false, wantV_bool, wantV_unit, unitV, cond_true, cond_false, Bool.not_true, Bool.not_false, List.toList_toArray]) | omega) only [c12, Try.f12, Option.getD_some, sub_seq1, sub_nil, exec_ret]
          with_reducible rfl
        refine ⟨.inr rfl, _, [.bool true], rfl, ?_, rfl, rfl⟩
        simp only [Try.f12, resF, ev_tmp, T.get_set, Nat.reduceEqDiff, if_true, if_false, evG_some, R.ok_bind]
    · simp only [Sl_cons, Sl_nil, T.get_set, T.puts_cons, T.puts_nil, Nat.reduceEqDiff, Nat.reduceAdd, if_true, if_false, and_true, true_and]
  exact ha
end Go.Proofs.Ytgkolgfkcelljaa.pck

