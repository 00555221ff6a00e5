/-
  What the functions of this group compute on the abstract machine, and the plain laws of it. Part B: conditions stand in each theorem.
-/
import Derived.Test.YtnelkapmmgggdaaMdlA

/-
  Model: an entry that is drawn.
-/
namespace Go.Proofs.Ytnelkapmmgggdaa.mdl
open Go.Am Go.Mdl
set_option linter.unusedSimpArgs false
set_option linter.unusedVariables false
set_option linter.unusedVariables false

/-! ### Bytes that are read only, wherever they begin -/
def BytS (A : Mem) (ls : List UInt8) (x : Value) : Prop :=
  (x = .slice none 0 0 ∧ ls = []) ∨ (x = empV ∧ ls = []) ∨ ∃ q off cp, x = .slice (some ⟨q, off, none⟩) ls.length cp ∧ (ls = [] ∨ (q < A.next ∧ ∃ t kd fz c, A.get q = some (.cells t kd fz c) ∧ ∀ (i : Nat) (b : UInt8), ls[i]? = some b → c.get (off + i) = some (.int .u8 ((b.toNat : Nat) : Int))))
theorem und23 : tb4.und 23 = some (.slice 5) := by kernel_rfl
theorem und5' : tb4.und 5 = some (.int .u8) := by kernel_rfl
theorem size5' : sizeF tb4 5 = .ok 1 := by kernel_rfl
theorem BytS.kp {A A' : Mem} {ls : List UInt8} {x : Value} (h : BytS A ls x) (k : Kp A A') : BytS A' ls x := by
  rcases h with h | h | ⟨q, off, cp, h1, h2⟩
  · exact .inl h
  · exact .inr (.inl h)
  · refine .inr (.inr ⟨q, off, cp, h1, ?_⟩)
    rcases h2 with h2 | ⟨h2, t, kd, fz, c, h3, h4⟩
    · exact .inl h2
    · exact .inr ⟨Nat.lt_of_lt_of_le h2 k.1, t, kd, fz, c, by rw [k.2 _ h2]; exact h3, h4⟩
theorem BytS.len {A : Mem} {ls : List UInt8} {x : Value} (h : BytS A ls x) : builtinPF tb4 .len [23] [x] = .ok (.int .i64 ((ls.length : Nat) : Int)) := by
  rcases h with ⟨rfl, rfl⟩ | ⟨rfl, rfl⟩ | ⟨q, off, cp, rfl, -⟩
  · exact len_slc und23
  · kernel_rfl
  · exact len_slc und23
theorem BytS.cell {A : Mem} {ls : List UInt8} {x : Value} (h : BytS A ls x) : oneCell x = true := by
  rcases h with ⟨rfl, rfl⟩ | ⟨rfl, rfl⟩ | ⟨q, off, cp, rfl, -⟩ <;> rfl
theorem BytS.at {A : Mem} {ls : List UInt8} {x : Value} (h : BytS A ls x) {i : Nat} {b : UInt8} (hi : ls[i]? = some b) :
    ∃ p, indexAddrF tb4 23 x (.int .i64 (i : Int)) = .ok (.pointer (some p)) ∧ loadF tb4 A.get 5 (.pointer (some p)) = .ok (.int .u8 ((b.toNat : Nat) : Int)) := by
  rcases h with ⟨-, rfl⟩ | ⟨-, rfl⟩ | ⟨q, off, cp, rfl, h2⟩
  · simp at hi
  · simp at hi
  · rcases h2 with rfl | ⟨h2, t, kd, fz, c, h3, h4⟩
    · simp at hi
    · have hlt := (List.getElem?_eq_some_iff.1 hi).1
      have hb : Nat.blt i ls.length = true := by rw [Nat.blt_eq]; exact hlt
      have hn : natV (.int .i64 (i : Int)) = .ok i := rfl
      refine ⟨⟨q, off + i * 1, none⟩, ?_, ?_⟩
      · unfold indexAddrF
        simp only [hn, und23, hb, cond_true, size5', R.ok_bind, addA]
      · unfold loadF
        have hg := h4 i b hi
        have hag : isAggD (.int .u8) = false := rfl
        simp only [h3, und5', hag, cond_false, Nat.mul_one, hg]
/-- A letter, a word. -/
def letF (c : UInt8) : UInt8 := if c.toNat % 8 < 7 then UInt8.ofNat (97 + c.toNat % 8 % 3) else c
def wordD (ls : List UInt8) : List UInt8 := if (ls.take 9).map letF = [] then [97] else (ls.take 9).map letF
theorem letF_nat (c : UInt8) : (letF c).toNat = if c.toNat % 8 < 7 then 97 + c.toNat % 8 % 3 else c.toNat := by
  unfold letF
  split
  · rw [UInt8.toNat_ofNat']; omega
  · rfl
theorem one_str {A : Mem} {q : Nat} {b : UInt8} (h : A.get q = some (rowOb 5 [.int .u8 ((b.toNat : Nat) : Int)])) : convRF tb4 A.get 23 9 (.slice (some ⟨q, 0, none⟩) 1 2) = .ok (strOf [b]) := by
  have hb : Byt A q 5 (.var 1) [b] := ⟨_, h, fun i hi => by
    have hi0 : i = 0 := by simp at hi; exact hi
    subst hi0
    rfl⟩
  exact str_of_byt (l := [b]) und23 und9' und5' hb
theorem bs23 {a : Int} : buildSliceF tb4 23 1 [(0, .int .u8 a)] = .ok (rowOb 5 [.int .u8 a], .slc 1 2) := by kernel_rfl
theorem op_add_u8 {a b : Nat} (h : a + b < 256) : intOpF .add .u8 (a : Int) (b : Int) = .ok (.int .u8 ((a + b : Nat) : Int)) := by
  show R.ok (Value.int .u8 (wrapF .u8 ((a + b : Nat) : Int))) = _
  rw [wrapF_u8, Nat.mod_eq_of_lt h]
theorem f26_0 {b o : Nat} : fieldAddrF tb4 26 (.pointer (some ⟨b, o, none⟩)) 0 = .ok (.pointer (some ⟨b, o, none⟩)) := by kernel_rfl
theorem f26_1 {b o : Nat} : fieldAddrF tb4 26 (.pointer (some ⟨b, o, none⟩)) 1 = .ok (.pointer (some ⟨b, o + 1, none⟩)) := by kernel_rfl
theorem f26_2 {b o : Nat} : fieldAddrF tb4 26 (.pointer (some ⟨b, o, none⟩)) 2 = .ok (.pointer (some ⟨b, o + 2, none⟩)) := by kernel_rfl
theorem und23a : ∃ d, tb4.und 23 = some d ∧ isAggD d = false := ⟨_, und23, rfl⟩
noncomputable def c25 : Code := Try.f25.body.getD .skip
noncomputable def c25b1 : Code := sub c25 [1,1,0,1,0,0]
theorem c25_eq : Try.f25.body = some (.seq (sub c25 [0]) (.seq (sub c25 [1,0]) (.seq (.seq (sub c25 [1,1,0,0]) (.block 0 (.loop c25b1))) (.seq (sub c25 [1,1,1,0]) (.seq (sub c25 [1,1,1,1,0]) (sub c25 [1,1,1,1,1])))))) := by kernel_rfl
theorem c25b1_eq : c25b1 = .seq (.seq (sub c25b1 [0,0]) (sub c25b1 [0,1])) (.seq (.block 1 (.seq (sub c25b1 [1,0,0,0]) (.seq (sub c25b1 [1,0,0,1,0]) (sub c25b1 [1,0,0,1,1])))) (sub c25b1 [1,1])) := by kernel_rfl
def enS (q : Nat) (w : List UInt8) (i : Nat) : List (Nat × Value) := [(1, .pointer (some ⟨q, 0, none⟩)), (2, .pointer (some ⟨q + 1, 0, none⟩)), (3, strOf w), (4, .int .i64 (i : Int))]
set_option maxHeartbeats 4000000 in
set_option maxRecDepth 20000 in
/-- The word's last step. -/
theorem entry_round {C : Mem} {q i : Nat} {ls w : List UInt8} {xl : Value} {t : T Value} {K : Ex → St → Prop} {wt : Int} {g : Bool} (hx : BytS C ls xl) (hv : Vals C 26 q (.var 3) [xl, .int .u32 wt, .bool g]) {b : UInt8} (hb : ls[i]? = some b) (hw : w.length = i) (hi : i < 9) (ht : Sl t (enS q w i))
    (hK : ∀ t', Sl t' (enS q (w ++ [letF b]) i) → K .nrm ⟨t', 43, [], C.alloc (rowOb 5 [.int .u8 (((letF b).toNat : Nat) : Int)]), none⟩) :
    W tb4 (.seq (sub c25b1 [1,0,0,0]) (.seq (sub c25b1 [1,0,0,1,0]) (sub c25b1 [1,0,0,1,1]))) ⟨t, 43, [], C, none⟩ K := by
  obtain ⟨g1, g2, g3, g4, -⟩ := ht
  obtain ⟨p, a1, a2⟩ := hx.at hb
  have hl : loadF tb4 C.get 23 (.pointer (some ⟨q, 0, none⟩)) = .ok xl := load_vals und23 rfl hv rfl
  have hlt := byte_lt b
  have hnat := letF_nat b
  have hadd := str_add (a := w) (b := [letF b]) (by rw [hw]; show i + 1 < _; omega)
  have hs := one_str (get_alloc_self C (rowOb 5 [.int .u8 (((letF b).toNat : Nat) : Int)]))
  apply W.seq
  apply W.run 20
  · intro M
    simp (config := { maxSteps := 4000000 }) (disch := first | decide +kernel | omega) only [c25b1, c25, Try.f25, Option.getD_some, sub_seq1, sub_seq0, sub_block, sub_loop, sub_nil, exec_region, runOps_cons, opF_fieldAddr, ev_tmp, g1, evG_some, putT_some, opF_load, T.get_set, if_true, opF_move, Nat.reduceEqDiff, g4, if_false, opF_indexAddr, opF_assign, runOps_nil, R.ok_bind, f26_0, hl, a1, a2]
    with_reducible rfl
  show W tb4 _ _ _
  apply W.seq
  by_cases h7 : b.toNat % 8 < 7
  · rw [if_pos h7] at hnat
    apply W.run 20
    · intro M
      simp (config := { maxSteps := 4000000 }) (disch := first | decide +kernel | omega) only [c25b1, c25, Try.f25, Option.getD_some, sub_seq1, sub_seq0, sub_block, sub_loop, sub_nil, exec_seq, exec_region, runOps_cons, opF_move, ev_tmp, T.get_set, Nat.reduceEqDiff, if_false, if_true, evG_some, putT_some, opF_ari, ev_int, runOps_nil, R.ok_bind, binF_int, op_rem, op_lssI, cast_lt, h7, decide_true, exec_cond, exec_skip, opF_assign, op_add_u8]
      with_reducible rfl
    show W tb4 _ _ _
    rw [← hnat]
    apply W.run 20
    · intro M
      simp (config := { maxSteps := 4000000 }) (disch := first | decide +kernel | omega) only [c25b1, c25, Try.f25, Option.getD_some, sub_seq1, sub_seq0, sub_block, sub_loop, sub_nil, exec_region, runOps_cons, opF_move, ev_tmp, T.get_set, Nat.reduceEqDiff, g3, if_false, evG_some, putT_some, if_true, opF_buildSlice, evp, R.ok_bind, opF_convStr _ _ _ _ _ _ _ _ _ _ und23 und9', opF_ari, opF_assign, runOps_nil, bs23, at_slc, hs, binF_str, hadd]
      with_reducible rfl
    refine hK _ ?_
    unfold enS; simp only [Sl_cons, Sl_nil, T.get_set, T.puts_cons, T.puts_nil, Nat.reduceEqDiff, Nat.reduceAdd, if_true, if_false, and_true, true_and, g1, g2, g4]
  · rw [if_neg h7] at hnat
    apply W.run 20
    · intro M
      simp (config := { maxSteps := 4000000 }) (disch := first | decide +kernel | omega) only [c25b1, c25, Try.f25, Option.getD_some, sub_seq1, sub_seq0, sub_block, sub_loop, sub_nil, exec_seq, exec_region, runOps_cons, opF_move, ev_tmp, T.get_set, Nat.reduceEqDiff, if_false, if_true, evG_some, putT_some, opF_ari, ev_int, runOps_nil, R.ok_bind, binF_int, op_rem, op_lssI, cast_lt, h7, decide_false, exec_cond, exec_skip, opF_assign]
      with_reducible rfl
    show W tb4 _ _ _
    rw [← hnat]
    apply W.run 20
    · intro M
      simp (config := { maxSteps := 4000000 }) (disch := first | decide +kernel | omega) only [c25b1, c25, Try.f25, Option.getD_some, sub_seq1, sub_seq0, sub_block, sub_loop, sub_nil, exec_region, runOps_cons, opF_move, ev_tmp, T.get_set, Nat.reduceEqDiff, g3, if_false, evG_some, putT_some, if_true, opF_buildSlice, evp, R.ok_bind, opF_convStr _ _ _ _ _ _ _ _ _ _ und23 und9', opF_ari, opF_assign, runOps_nil, bs23, at_slc, hs, binF_str, hadd]
      with_reducible rfl
    refine hK _ ?_
    unfold enS; simp only [Sl_cons, Sl_nil, T.get_set, T.puts_cons, T.puts_nil, Nat.reduceEqDiff, Nat.reduceAdd, if_true, if_false, and_true, true_and, g1, g2, g4]
end Go.Proofs.Ytnelkapmmgggdaa.mdl

/-
  Model: an entry that is drawn, whole.
-/
namespace Go.Proofs.Ytnelkapmmgggdaa.mdl
open Go.Am Go.Mdl
set_option linter.unusedSimpArgs false
set_option linter.unusedVariables false
set_option linter.unusedVariables false

theorem size26 : sizeF tb4 26 = .ok 3 := by kernel_rfl
theorem take_map_succ {ls : List UInt8} {i : Nat} {b : UInt8} (h : ls[i]? = some b) : (ls.take (i + 1)).map letF = (ls.take i).map letF ++ [letF b] := by
  obtain ⟨hlt, rfl⟩ := List.getElem?_eq_some_iff.1 h
  rw [List.take_succ_eq_append_getElem hlt, List.map_append]
  rfl
/-- The entry of a draft. -/
def entD (ls : List UInt8) (wt : Nat) (g : Bool) : EntD := norm ⟨wordD ls, wt, g⟩
theorem bld45 {w : List UInt8} {wt : Nat} {g : Bool} : buildF tb4 45 [(0, strOf w), (1, .int .u32 (wt : Int)), (2, .bool g)] = .ok (.agg ⟨entC ⟨w, wt, g⟩⟩) := by kernel_rfl
set_option maxHeartbeats 4000000 in
set_option maxRecDepth 20000 in
theorem run_entry {A : Mem} {ls : List UInt8} {xl : Value} {wt : Nat} {g : Bool} (hx : BytS A ls xl) :
    ∃ A', Ans tb4 25 [.agg ⟨[xl, .int .u32 (wt : Int), .bool g]⟩] A (.agg ⟨entC (entD ls wt g)⟩) A' ∧ Kp A A' := by
  obtain ⟨v, A', hg, rfl, hk⟩ : ∃ v A', Ans tb4 25 [.agg ⟨[xl, .int .u32 (wt : Int), .bool g]⟩] A v A' ∧ v = .agg ⟨entC (entD ls wt g)⟩ ∧ Kp A A' := by
    refine ans_of_W (fn_at Try.func25) c25_eq (by rw [Try.ntmps25]; simp) (by kernel_rfl) (by kernel_rfl) ?_
    obtain ⟨d45, hd1, hd2⟩ := und45'
    have hv0 : Vals ((A.alloc (rowOb 26 [xl, .int .u32 (wt : Int), .bool g])).alloc (rowOb 45 [.string .empty, .int .u32 0, .bool false])) 26 A.next (.var 3) [xl, .int .u32 (wt : Int), .bool g] := (vals_puts (get_alloc_self _ _)).same (get_alloc_ne (by rw [next_alloc]; omega))
    have hz0 : Vals ((A.alloc (rowOb 26 [xl, .int .u32 (wt : Int), .bool g])).alloc (rowOb 45 [.string .empty, .int .u32 0, .bool false])) 45 (A.next + 1) (.var 3) [.string .empty, .int .u32 0, .bool false] := vals_puts (get_alloc_self _ _)
    have hk0 : Kp A ((A.alloc (rowOb 26 [xl, .int .u32 (wt : Int), .bool g])).alloc (rowOb 45 [.string .empty, .int .u32 0, .bool false])) := (Kp.alloc _ _).trans (Kp.alloc _ _)
    have hn0 : ((A.alloc (rowOb 26 [xl, .int .u32 (wt : Int), .bool g])).alloc (rowOb 45 [.string .empty, .int .u32 0, .bool false])).next = A.next + 2 := rfl
    apply W.seq
    apply W.run 20
    · intro M
      simp (config := { maxSteps := 4000000 }) (disch := first | decide +kernel | omega) only [c25, Try.f25, Option.getD_some, sub_seq0, sub_nil, T.puts_cons, Nat.reduceAdd, T.puts_nil, exec_region, runOps_cons, opF_box, ev_tmp, T.get_set, T.get_e, if_true, evG_some, at_ptr, putT_some, opF_alloc, z45, next_alloc, runOps_nil, R.ok_bind, cells_agg]
      with_reducible rfl
    show W tb4 _ _ _
    generalize (A.alloc (rowOb 26 [xl, .int .u32 (wt : Int), .bool g])).alloc (rowOb 45 [.string .empty, .int .u32 0, .bool false]) = B at hv0 hz0 hk0 hn0
    apply W.seq
    apply W.run 20
    · intro M
      simp (config := { maxSteps := 4000000 }) (disch := first | decide +kernel | omega) only [c25, Try.f25, Option.getD_some, sub_seq1, sub_seq0, sub_nil, exec_region, runOps_cons, opF_assign, ev_str, putT_some, runOps_nil, R.ok_bind]
      with_reducible rfl
    show W tb4 _ _ _
    apply W.seq
    apply W.seq
    apply W.run 20
    · intro M
      simp (config := { maxSteps := 4000000 }) (disch := first | decide +kernel | omega) only [c25, Try.f25, Option.getD_some, sub_seq1, sub_seq0, sub_nil, exec_region, runOps_cons, opF_assign, ev_int, putT_some, runOps_nil, R.ok_bind]
      with_reducible rfl
    show W tb4 _ _ _
    apply W.block
    have hmin : min ls.length 9 ≤ ls.length ∧ min ls.length 9 ≤ 9 := ⟨Nat.min_le_left _ _, Nat.min_le_right _ _⟩
    have hmin2 : min ls.length 9 = ls.length ∨ min ls.length 9 = 9 := by omega
    refine W.up (min ls.length 9) (fun i t C => Kp B C ∧ Sl t (enS A.next ((ls.take i).map letF) i)) ?_ (Nat.zero_le _) ⟨Kp.refl _, ?_⟩
    · rintro i t C hi ⟨hk, g1, g2, g3, g4, -⟩
      have hxC := hx.kp (hk0.trans hk)
      have hvC : Vals C 26 A.next (.var 3) [xl, .int .u32 (wt : Int), .bool g] := hv0.same (hk.2 _ (by omega))
      have hl : loadF tb4 C.get 23 (.pointer (some ⟨A.next, 0, none⟩)) = .ok xl := load_vals und23 rfl hvC rfl
      have hlen := hxC.len
      by_cases hlt : i < min ls.length 9
      · have h1 : i < ls.length := by omega
        have h2 : i < 9 := by omega
        have hb : ls[i]? = some ls[i] := List.getElem?_eq_getElem h1
        rw [c25b1_eq]
        apply W.seq
        apply W.run 20
        · intro M
          simp (config := { maxSteps := 4000000 }) (disch := first | decide +kernel | (rw [wantF_guard]; simp only [wantD_some, dstAt_zero, dstAt_succ, T.get_set, T.get_e, Nat.reduceEqDiff, if_true, if_false, wantV_bool, wantV_unit, unitV, cond_true, cond_false, Bool.not_true, Bool.not_false, List.toList_toArray]) | omega) only [c25b1, c25, Try.f25, Option.getD_some, sub_seq1, sub_seq0, sub_block, sub_loop, sub_nil, exec_seq, exec_region, runOps_cons, opF_move, ev_tmp, g4, evG_some, putT_some, opF_fieldAddr, T.get_set, Nat.reduceEqDiff, g1, if_false, opF_load, if_true, opF_len, evs, R.ok_bind, opF_ari, f26_0, hl, hlen, binF_int, op_lssI, cast_lt, h1, decide_true, runOps_yes, ev_int, opF_pick, pickF, ev_bool, runOps_nil, h2, exec_cond, exec_skip, exec_exit]
          with_reducible rfl
        show W tb4 _ _ _
        apply W.seq
        apply W.block
        refine entry_round (w := (ls.take i).map letF) (i := i) (q := A.next) hxC hvC hb (by rw [List.length_map, List.length_take]; omega) h2 (by unfold enS; simp only [Sl_cons, Sl_nil, T.get_set, T.puts_cons, T.puts_nil, Nat.reduceEqDiff, Nat.reduceAdd, if_true, if_false, and_true, true_and, g1, g2, g3, g4]) fun t' ht' => ?_
        obtain ⟨f1, f2, f3, f4, -⟩ := ht'
        show W tb4 _ _ _
        apply W.run 20
        · intro M
          simp (config := { maxSteps := 4000000 }) (disch := first | decide +kernel | omega) only [c25b1, c25, Try.f25, Option.getD_some, sub_seq1, sub_seq0, sub_block, sub_loop, sub_nil, exec_region, runOps_cons, opF_move, ev_tmp, f4, evG_some, putT_some, opF_ari, T.get_set, if_true, ev_int, opF_assign, Nat.reduceEqDiff, if_false, runOps_nil, R.ok_bind, binF_int, op_add_i64]
          with_reducible rfl
        refine ⟨hlt, _, _, rfl, hk.trans (Kp.alloc _ _), ?_⟩
        rw [take_map_succ hb]
        unfold enS; simp only [Sl_cons, Sl_nil, T.get_set, T.puts_cons, T.puts_nil, Nat.reduceEqDiff, Nat.reduceAdd, if_true, if_false, and_true, true_and, f1, f2, f3]
      · have hin : i = min ls.length 9 := by omega
        have htk : (ls.take i) = ls.take 9 := by
          rcases hmin2 with h | h
          · rw [hin, h, List.take_length, List.take_of_length_le (by omega)]
          · rw [hin, h]
        rw [htk] at g3
        have hex : W tb4 (.seq (sub c25b1 [0,0]) (sub c25b1 [0,1])) ⟨t, 43, [], C, none⟩ (fun e s' => ∃ t', e = .exit 0 ∧ s' = ⟨t', 43, [], C, none⟩ ∧ Sl t' (enS A.next ((ls.take 9).map letF) i)) := by
          by_cases h1 : i < ls.length
          · have h2 : ¬ i < 9 := by omega
            apply W.run 20
            · intro M
              simp (config := { maxSteps := 4000000 }) (disch := first | decide +kernel | (rw [wantF_guard]; simp only [wantD_some, dstAt_zero, dstAt_succ, T.get_set, T.get_e, Nat.reduceEqDiff, if_true, if_false, wantV_bool, wantV_unit, unitV, cond_true, cond_false, Bool.not_true, Bool.not_false, List.toList_toArray]) | omega) only [c25b1, c25, Try.f25, Option.getD_some, sub_seq1, sub_seq0, sub_block, sub_loop, sub_nil, exec_seq, exec_region, runOps_cons, opF_move, ev_tmp, g4, evG_some, putT_some, opF_fieldAddr, T.get_set, Nat.reduceEqDiff, g1, if_false, opF_load, if_true, opF_len, evs, R.ok_bind, opF_ari, f26_0, hl, hlen, binF_int, op_lssI, cast_lt, h1, decide_true, runOps_yes, ev_int, opF_pick, pickF, ev_bool, runOps_nil, h2, decide_false, exec_cond, exec_skip, exec_exit]
              with_reducible rfl
            refine ⟨_, rfl, rfl, ?_⟩
            unfold enS; simp only [Sl_cons, Sl_nil, T.get_set, T.puts_cons, T.puts_nil, Nat.reduceEqDiff, Nat.reduceAdd, if_true, if_false, and_true, true_and, g1, g2, g3, g4]
          · apply W.run 20
            · intro M
              simp (config := { maxSteps := 4000000 }) (disch := first | decide +kernel | (rw [wantF_guard]; simp only [wantD_some, dstAt_zero, dstAt_succ, T.get_set, T.get_e, Nat.reduceEqDiff, if_true, if_false, wantV_bool, wantV_unit, unitV, cond_true, cond_false, Bool.not_true, Bool.not_false, List.toList_toArray]) | omega) only [c25b1, c25, Try.f25, Option.getD_some, sub_seq1, sub_seq0, sub_block, sub_loop, sub_nil, exec_seq, exec_region, runOps_cons, opF_move, ev_tmp, g4, evG_some, putT_some, opF_fieldAddr, T.get_set, Nat.reduceEqDiff, g1, if_false, opF_load, if_true, opF_len, evs, R.ok_bind, opF_ari, f26_0, hl, hlen, binF_int, op_lssI, cast_lt, h1, decide_false, runOps_no, opF_pick, pickF, ev_bool, runOps_nil, exec_cond, exec_skip, exec_exit]
              with_reducible rfl
            refine ⟨_, rfl, rfl, ?_⟩
            unfold enS; simp only [Sl_cons, Sl_nil, T.get_set, T.puts_cons, T.puts_nil, Nat.reduceEqDiff, Nat.reduceAdd, if_true, if_false, and_true, true_and, g1, g2, g3, g4]
        rw [c25b1_eq]
        apply W.seq
        refine hex.mono ?_
        rintro e s' ⟨t', rfl, rfl, f1, f2, f3, f4, -⟩
        show W tb4 _ _ _
        apply W.seq
        have hw : W tb4 (sub c25 [1,1,1,0]) ⟨t', 43, [], C, none⟩ (fun e s' => ∃ t2, e = .nrm ∧ s' = ⟨t2, 43, [], C, none⟩ ∧ Sl t2 [(1, .pointer (some ⟨A.next, 0, none⟩)), (2, .pointer (some ⟨A.next + 1, 0, none⟩)), (3, strOf (wordD ls))]) := by
          by_cases h0 : (ls.take 9).map letF = []
          · have hwd : wordD ls = [97] := by unfold wordD; rw [if_pos h0]
            have f3' : t'.get 3 = some (strOf []) := by rw [f3, h0]
            apply W.run 20
            · intro M
              simp (config := { maxSteps := 4000000 }) (disch := first | decide +kernel | omega) only [c25, Try.f25, Option.getD_some, sub_seq1, sub_seq0, sub_nil, exec_seq, exec_region, runOps_cons, opF_move, ev_tmp, f3', evG_some, putT_some, opF_eql, T.get_set, if_true, ev_str, runOps_nil, R.ok_bind, binF_str, str_eql, decide_true, exec_cond, opF_assign, exec_skip, Nat.reduceEqDiff, if_false]
              with_reducible rfl
            refine ⟨_, rfl, rfl, ?_⟩
            rw [hwd]
            simp only [Sl_cons, Sl_nil, T.get_set, T.puts_cons, T.puts_nil, Nat.reduceEqDiff, Nat.reduceAdd, if_true, if_false, and_true, true_and, f1, f2]
          · have hwd : wordD ls = (ls.take 9).map letF := by unfold wordD; rw [if_neg h0]
            rw [← hwd] at f3 h0
            apply W.run 20
            · intro M
              simp (config := { maxSteps := 4000000 }) (disch := first | decide +kernel | omega) only [c25, Try.f25, Option.getD_some, sub_seq1, sub_seq0, sub_nil, exec_seq, exec_region, runOps_cons, opF_move, ev_tmp, f3, evG_some, putT_some, opF_eql, T.get_set, if_true, ev_str, runOps_nil, R.ok_bind, binF_str, str_eql, h0, decide_false, exec_cond, opF_assign, exec_skip, Nat.reduceEqDiff, if_false]
              with_reducible rfl
            refine ⟨_, rfl, rfl, ?_⟩
            simp only [Sl_cons, Sl_nil, T.get_set, T.puts_cons, T.puts_nil, Nat.reduceEqDiff, Nat.reduceAdd, if_true, if_false, and_true, true_and, f1, f2, f3]
        refine hw.mono ?_
        rintro e s' ⟨t2, rfl, rfl, f1, f2, f3, -⟩
        show W tb4 _ _ _
        apply W.seq
        have l1 : loadF tb4 C.get 24 (.pointer (some ⟨A.next, 0 + 1, none⟩)) = .ok (.int .u32 (wt : Int)) := load_vals und24' rfl hvC rfl
        have l2 : loadF tb4 C.get 4 (.pointer (some ⟨A.next, 0 + 2, none⟩)) = .ok (.bool g) := load_vals und4' rfl hvC rfl
        obtain ⟨D, ⟨gb, hgb⟩, kD⟩ := run_bare (A := C) (e := ⟨wordD ls, wt, g⟩)
        have hzD : Vals D 45 (A.next + 1) (.var 3) [.string .empty, .int .u32 0, .bool false] := (hz0.same (hk.2 _ (by omega))).same (kD.2 _ (by have := hk.1; omega))
        obtain ⟨C2, s2, v2, n2, k2⟩ := store_all (tb := tb4) (t := 45) (l := [.string .empty, .int .u32 0, .bool false]) (l' := entC (entD ls wt g)) size45' hzD rfl (by simp) (entC_one _)
        have hl2 := load_all (tb := tb4) hd1 hd2 (l := entC (entD ls wt g)) size45' v2
        have hk1 := (hk0.trans hk).trans kD
        unfold entD at s2 hl2 ⊢
        apply W.runG (gb) 20
        · intro M hM
          simp (config := { maxSteps := 4000000 }) (disch := first | decide +kernel | omega) only [c25, Try.f25, Option.getD_some, sub_seq1, sub_seq0, sub_nil, exec_region, runOps_cons, opF_move, ev_tmp, f3, evG_some, putT_some, opF_fieldAddr, T.get_set, Nat.reduceEqDiff, f1, if_false, opF_load, if_true, opF_build, evp, R.ok_bind, opF_call, evs, resK, opF_store, f2, putT_none, runOps_nil, f26_2, Nat.reduceAdd, l2, f26_1, l1, bld45, hgb, s2]
          with_reducible rfl
        show W tb4 _ _ _
        apply W.run 20
        · intro M
          simp (config := { maxSteps := 4000000 }) (disch := first | decide +kernel | omega) only [c25, Try.f25, Option.getD_some, sub_seq1, sub_nil, exec_ret]
          with_reducible rfl
        refine ⟨.inr rfl, C2, [.agg ⟨entC (norm ⟨wordD ls, wt, g⟩)⟩], rfl, ?_, rfl, ?_⟩
        · simp only [Try.f25, resF, ev_tmp, T.get_set, Nat.reduceEqDiff, if_true, if_false, evG_some, R.ok_bind, f2, hl2]
        · exact ⟨by rw [n2]; exact hk1.1, fun z hz => by rw [k2 z (by omega), hk1.2 z hz]⟩
    · unfold enS; simp only [Sl_cons, Sl_nil, T.get_set, T.puts_cons, T.puts_nil, Nat.reduceEqDiff, Nat.reduceAdd, if_true, if_false, and_true, true_and]
      rfl
  exact ⟨A', hg, hk⟩
end Go.Proofs.Ytnelkapmmgggdaa.mdl

/-
  Model: entries of drafts.
-/
namespace Go.Proofs.Ytnelkapmmgggdaa.mdl
open Go.Am Go.Mdl
set_option linter.unusedSimpArgs false
set_option linter.unusedVariables false
set_option linter.unusedVariables false

structure DrD where
  xl : Value
  ls : List UInt8
  wt : Nat
  gone : Bool
def drV (d : DrD) : Value := .agg ⟨[d.xl, .int .u32 (d.wt : Int), .bool d.gone]⟩
def DrS (A : Mem) (ds : List DrD) (x : Value) : Prop :=
  (x = .slice none 0 0 ∧ ds = []) ∨ (x = empV ∧ ds = []) ∨ ∃ q off cp, x = .slice (some ⟨q, off, none⟩) ds.length cp ∧ (ds = [] ∨ (q < A.next ∧ ∃ t kd fz c, A.get q = some (.cells t kd fz c) ∧
    ∀ (i : Nat) (d : DrD), ds[i]? = some d → c.get (off + i * 3) = some d.xl ∧ c.get (off + i * 3 + 1) = some (.int .u32 (d.wt : Int)) ∧ c.get (off + i * 3 + 2) = some (.bool d.gone) ∧ BytS A d.ls d.xl))
theorem und22 : tb4.und 22 = some (.slice 26) := by kernel_rfl
theorem und26 : ∃ d, tb4.und 26 = some d ∧ isAggD d = true := by
  have h : (tb4.und 26).map isAggD = some true := by kernel_rfl
  cases hq : tb4.und 26 with
  | none => rw [hq] at h; cases h
  | some d => rw [hq] at h; exact ⟨d, rfl, by simpa using h⟩
theorem DrS.kp {A A' : Mem} {ds : List DrD} {x : Value} (h : DrS A ds x) (k : Kp A A') : DrS A' ds x := by
  rcases h with h | h | ⟨q, off, cp, h1, h2⟩
  · exact .inl h
  · exact .inr (.inl h)
  · refine .inr (.inr ⟨q, off, cp, h1, ?_⟩)
    rcases h2 with h2 | ⟨h2, t, kd, fz, c, h3, h4⟩
    · exact .inl h2
    · exact .inr ⟨Nat.lt_of_lt_of_le h2 k.1, t, kd, fz, c, by rw [k.2 _ h2]; exact h3, fun i d hd => ⟨(h4 i d hd).1, (h4 i d hd).2.1, (h4 i d hd).2.2.1, (h4 i d hd).2.2.2.kp k⟩⟩
theorem DrS.len {A : Mem} {ds : List DrD} {x : Value} (h : DrS A ds x) : builtinPF tb4 .len [22] [x] = .ok (.int .i64 ((ds.length : Nat) : Int)) := by
  rcases h with ⟨rfl, rfl⟩ | ⟨rfl, rfl⟩ | ⟨q, off, cp, rfl, -⟩
  · exact len_slc und22
  · kernel_rfl
  · exact len_slc und22
theorem DrS.at {A : Mem} {ds : List DrD} {x : Value} (h : DrS A ds x) {i : Nat} {d : DrD} (hi : ds[i]? = some d) :
    (∃ p, indexAddrF tb4 22 x (.int .i64 (i : Int)) = .ok (.pointer (some p)) ∧ loadF tb4 A.get 26 (.pointer (some p)) = .ok (drV d)) ∧ BytS A d.ls d.xl := by
  rcases h with ⟨-, rfl⟩ | ⟨-, rfl⟩ | ⟨q, off, cp, rfl, h2⟩
  · simp at hi
  · simp at hi
  · rcases h2 with rfl | ⟨h2, t, kd, fz, c, h3, h4⟩
    · simp at hi
    · obtain ⟨c0, c1, c2, hby⟩ := h4 i d hi
      obtain ⟨d26, hd1, hd2⟩ := und26
      have hlt := (List.getElem?_eq_some_iff.1 hi).1
      have hb : Nat.blt i ds.length = true := by rw [Nat.blt_eq]; exact hlt
      have hn : natV (.int .i64 (i : Int)) = .ok i := rfl
      refine ⟨⟨⟨q, off + i * 3, none⟩, ?_, ?_⟩, hby⟩
      · unfold indexAddrF
        simp only [hn, und22, hb, cond_true, size26, R.ok_bind, addA]
      · have hgs : c.gets 3 (off + i * 3) = some [d.xl, .int .u32 (d.wt : Int), .bool d.gone] := gets_eq _ _ _ _ rfl fun j hj => by
          have : j = 0 ∨ j = 1 ∨ j = 2 := by omega
          rcases this with rfl | rfl | rfl
          · exact c0
          · exact c1
          · exact c2
        unfold loadF
        simp only [h3, hd1, hd2, cond_true, size26, R.ok_bind, hgs]
        rfl
def dE (d : DrD) : EntD := entD d.ls d.wt d.gone
noncomputable def c8 : Code := Try.f8.body.getD .skip
noncomputable def c8b1 : Code := sub c8 [1,1,0,1,0,0]
theorem c8_eq : Try.f8.body = some (.seq (sub c8 [0]) (.seq (sub c8 [1,0]) (.seq (.seq (sub c8 [1,1,0,0]) (.block 0 (.loop c8b1))) (.seq (sub c8 [1,1,1,0]) (sub c8 [1,1,1,1]))))) := by kernel_rfl
set_option maxHeartbeats 4000000 in
set_option maxRecDepth 20000 in
theorem run_entries {A : Mem} {ds : List DrD} {x : Value} {n : Nat} (h : DrS A ds x) (hn : n ≤ 1000) :
    ∃ y A', Ans tb4 8 [x, .int .i64 ((n : Nat) : Int)] A y A' ∧ EntE A' ((ds.take n).map dE) y ∧ Kp A A' := by
  obtain ⟨v, A', hg, he, hk⟩ : ∃ v A', Ans tb4 8 [x, .int .i64 ((n : Nat) : Int)] A v A' ∧ EntE A' ((ds.take n).map dE) v ∧ Kp A A' := by
    refine ans_of_W (fn_at Try.func8) c8_eq (by rw [Try.ntmps8]; simp) (by kernel_rfl) (by kernel_rfl) ?_
    obtain ⟨ti, hti, hb1, hb2⟩ := ty45'
    apply W.seq
    apply W.run 20
    · intro M
      simp (config := { maxSteps := 4000000 }) (disch := first | decide +kernel | omega) only [c8, Try.f8, Option.getD_some, sub_seq0, sub_nil, T.puts_cons, Nat.reduceAdd, T.puts_nil, exec_region, runOps_cons, opF_assign, ev_nilslice, putT_some, runOps_nil, R.ok_bind]
      with_reducible rfl
    show W tb4 _ _ _
    apply W.seq
    apply W.run 20
    · intro M
      simp (config := { maxSteps := 4000000 }) (disch := first | decide +kernel | omega) only [c8, Try.f8, Option.getD_some, sub_seq1, sub_seq0, sub_nil, exec_region, runOps_cons, opF_assign, ev_nilslice, putT_some, runOps_nil, R.ok_bind]
      with_reducible rfl
    show W tb4 _ _ _
    apply W.seq
    apply W.seq
    apply W.run 20
    · intro M
      simp (config := { maxSteps := 4000000 }) (disch := first | decide +kernel | omega) only [c8, Try.f8, Option.getD_some, sub_seq1, sub_seq0, sub_nil, exec_region, runOps_cons, opF_assign, ev_int, putT_some, runOps_nil, R.ok_bind]
      with_reducible rfl
    show W tb4 _ _ _
    apply W.block
    have hmin : min ds.length n ≤ ds.length ∧ min ds.length n ≤ n := ⟨Nat.min_le_left _ _, Nat.min_le_right _ _⟩
    have hmin2 : min ds.length n = ds.length ∨ min ds.length n = n := by omega
    refine W.up (min ds.length n) (fun i t C => ∃ bo xo, EntS C bo ((ds.take i).map dE) xo ∧ A.next ≤ bo ∧ Kp A C ∧ Sl t [(0, x), (1, .int .i64 ((n : Nat) : Int)), (5, xo), (6, .int .i64 (i : Int))]) ?_ (Nat.zero_le _) ⟨A.next, .slice none 0 0, .inl ⟨rfl, rfl⟩, Nat.le_refl _, Kp.refl _, ?_⟩
    · rintro i t C hi ⟨bo, xo, ho, hbo, hk, g0, g1, g5, g6, -⟩
      have hC := h.kp hk
      have hlen := hC.len
      by_cases hlt : i < min ds.length n
      · have h1 : i < ds.length := by omega
        have h2 : i < n := by omega
        have hd : ds[i]? = some ds[i] := List.getElem?_eq_getElem h1
        obtain ⟨⟨p, a1, a2⟩, hby⟩ := hC.at hd
        obtain ⟨C1, ⟨g, hg⟩, k1⟩ := run_entry (wt := ds[i].wt) (g := ds[i].gone) hby
        have ho2 : EntS (C1.alloc (rowOb 45 (entC (dE ds[i])))) bo ((ds.take i).map dE) xo := (ho.kp k1).kp (Kp.alloc _ _)
        obtain ⟨x', C2, happ, w2, n2, k2⟩ := ho2.append (st := 32) (xt := 32) und32' und32' zc45' hti hb1 hb2 (by decide) (by decide) (by rw [List.length_map, List.length_map, List.length_take]; omega) (get_alloc_self _ _) rfl (entC_one _)
        have hbe : buildSliceF tb4 32 1 [(0, .agg ⟨entC (entD ds[i].ls ds[i].wt ds[i].gone)⟩)] = .ok (rowOb 45 (entC (dE ds[i])), .slc 1 2) := bs45
        unfold drV at a2
        apply W.runG (g) 20
        · intro M hM
          simp (config := { maxSteps := 4000000 }) (disch := first | decide +kernel | (rw [wantF_guard]; simp only [wantD_some, dstAt_zero, dstAt_succ, T.get_set, T.get_e, Nat.reduceEqDiff, if_true, if_false, wantV_bool, wantV_unit, unitV, cond_true, cond_false, Bool.not_true, Bool.not_false, List.toList_toArray]) | omega) only [c8b1, c8, Try.f8, Option.getD_some, sub_seq1, sub_seq0, sub_block, sub_loop, sub_nil, exec_seq, exec_region, runOps_cons, opF_move, ev_tmp, g6, evG_some, putT_some, T.get_set, Nat.reduceEqDiff, g0, if_false, opF_len, evs, if_true, R.ok_bind, opF_ari, hlen, binF_int, op_lssI, cast_lt, h1, decide_true, runOps_yes, g1, opF_pick, pickF, ev_bool, runOps_nil, h2, exec_cond, exec_skip, exec_exit, exec_block, g5, opF_indexAddr, opF_load, opF_call, resK, opF_buildSlice, evp, opF_builtin, opF_assign, builtin_append, a1, a2, hg, hbe, at_slc, happ, ev_int, op_add_i64]
          with_reducible rfl
        have hkA := (hk.trans k1).trans (Kp.alloc C1 (rowOb 45 (entC (dE ds[i]))))
        refine ⟨hlt, _, _, rfl, (C1.alloc (rowOb 45 (entC (dE ds[i])))).next, x', ?_, ?_, ⟨by rw [n2]; have := hkA.1; omega, fun z hz => ?_⟩, ?_⟩
        · rw [List.take_succ_eq_append_getElem h1, List.map_append]
          unfold EntS
          rw [List.map_append]
          exact w2
        · have := hkA.1; omega
        · rw [k2 z (fun e => by omega) (by have := hkA.1; omega), hkA.2 z hz]
        · simp only [Sl_cons, Sl_nil, T.get_set, T.puts_cons, T.puts_nil, Nat.reduceEqDiff, Nat.reduceAdd, if_true, if_false, and_true, true_and, g0, g1]
      · have hin : i = min ds.length n := by omega
        have htk : ds.take i = ds.take n := by
          rcases hmin2 with h | h
          · rw [hin, h, List.take_length, List.take_of_length_le (by omega)]
          · rw [hin, h]
        rw [htk] at ho
        have hex : W tb4 c8b1 ⟨t, 27, [], C, none⟩ (fun e s' => ∃ t', e = .exit 0 ∧ s' = ⟨t', 27, [], C, none⟩ ∧ Sl t' [(5, xo)]) := by
          by_cases h1 : i < ds.length
          · have h2 : ¬ i < n := by omega
            apply W.run 20
            · intro M
              simp (config := { maxSteps := 4000000 }) (disch := first | decide +kernel | (rw [wantF_guard]; simp only [wantD_some, dstAt_zero, dstAt_succ, T.get_set, T.get_e, Nat.reduceEqDiff, if_true, if_false, wantV_bool, wantV_unit, unitV, cond_true, cond_false, Bool.not_true, Bool.not_false, List.toList_toArray]) | omega) only [c8b1, c8, Try.f8, Option.getD_some, sub_seq1, sub_seq0, sub_block, sub_loop, sub_nil, exec_seq, exec_region, runOps_cons, opF_move, ev_tmp, g6, evG_some, putT_some, T.get_set, Nat.reduceEqDiff, g0, if_false, opF_len, evs, if_true, R.ok_bind, opF_ari, hlen, binF_int, op_lssI, cast_lt, h1, decide_true, runOps_yes, g1, opF_pick, pickF, ev_bool, runOps_nil, h2, decide_false, exec_cond, exec_skip, exec_exit, exec_block]
              with_reducible rfl
            refine ⟨_, rfl, rfl, ?_⟩
            simp only [Sl_cons, Sl_nil, T.get_set, T.puts_cons, T.puts_nil, Nat.reduceEqDiff, Nat.reduceAdd, if_true, if_false, and_true, true_and, g5]
          · apply W.run 20
            · intro M
              simp (config := { maxSteps := 4000000 }) (disch := first | decide +kernel | (rw [wantF_guard]; simp only [wantD_some, dstAt_zero, dstAt_succ, T.get_set, T.get_e, Nat.reduceEqDiff, if_true, if_false, wantV_bool, wantV_unit, unitV, cond_true, cond_false, Bool.not_true, Bool.not_false, List.toList_toArray]) | omega) only [c8b1, c8, Try.f8, Option.getD_some, sub_seq1, sub_seq0, sub_block, sub_loop, sub_nil, exec_seq, exec_region, runOps_cons, opF_move, ev_tmp, g6, evG_some, putT_some, T.get_set, Nat.reduceEqDiff, g0, if_false, opF_len, evs, if_true, R.ok_bind, opF_ari, hlen, binF_int, op_lssI, cast_lt, h1, decide_false, runOps_no, opF_pick, pickF, ev_bool, runOps_nil, exec_cond, exec_skip, exec_exit, exec_block]
              with_reducible rfl
            refine ⟨_, rfl, rfl, ?_⟩
            simp only [Sl_cons, Sl_nil, T.get_set, T.puts_cons, T.puts_nil, Nat.reduceEqDiff, Nat.reduceAdd, if_true, if_false, and_true, true_and, g5]
        refine hex.mono ?_
        rintro e s' ⟨t', rfl, rfl, f5, -⟩
        show W tb4 _ _ _
        apply W.seq
        apply W.run 20
        · intro M
          simp (config := { maxSteps := 4000000 }) (disch := first | decide +kernel | omega) only [c8, Try.f8, Option.getD_some, sub_seq1, sub_seq0, sub_nil, exec_region, runOps_cons, opF_move, ev_tmp, f5, evG_some, putT_some, opF_assign, T.get_set, if_true, runOps_nil, R.ok_bind]
          with_reducible rfl
        apply W.run 20
        · intro M
          simp (config := { maxSteps := 4000000 }) (disch := first | decide +kernel | omega) only [c8, Try.f8, Option.getD_some, sub_seq1, sub_nil, exec_ret]
          with_reducible rfl
        refine ⟨.inr rfl, C, [xo], rfl, ?_, ⟨bo, ho⟩, hk⟩
        simp only [Try.f8, resF, ev_tmp, T.get_set, Nat.reduceEqDiff, if_true, if_false, evG_some, R.ok_bind]
    · simp only [Sl_cons, Sl_nil, T.get_set, T.puts_cons, T.puts_nil, Nat.reduceEqDiff, Nat.reduceAdd, if_true, if_false, and_true, true_and]
  exact ⟨v, A', hg, he, hk⟩
end Go.Proofs.Ytnelkapmmgggdaa.mdl

/-
  Model: an operation that is drawn.
-/
namespace Go.Proofs.Ytnelkapmmgggdaa.mdl
open Go.Am Go.Mdl
set_option linter.unusedSimpArgs false
set_option linter.unusedVariables false
set_option linter.unusedVariables false

/-- An operation. -/
structure OpV where
  kind : Int
  word : List UInt8
  weight : Nat
  k : Int
  n : Int
def opC (o : OpV) : List Value := [.int .i64 o.kind, strOf o.word, .int .u32 (o.weight : Int), .int .i64 o.k, .int .i64 o.n]
/-- Its draft. -/
structure OpI where
  kd : Nat
  told : Nat
  dr : DrD
  k : Int
  n : Int
  raw : List UInt8
def inC (o : OpI) : List Value := [.int .u8 (o.kd : Int), .int .u8 (o.told : Int), o.dr.xl, .int .u32 (o.dr.wt : Int), .bool o.dr.gone, .int .i8 o.k, .int .i8 o.n, strOf o.raw]
structure InOk (A : Mem) (o : OpI) : Prop where
  kd : o.kd < 256
  told : o.told < 256
  k1 : -128 ≤ o.k
  k2 : o.k ≤ 127
  n1 : -128 ≤ o.n
  n2 : o.n ≤ 127
  raw : o.raw.length < 9223372036854775808
  by_ : BytS A o.dr.ls o.dr.xl
theorem InOk.kp {A A' : Mem} {o : OpI} (h : InOk A o) (k : Kp A A') : InOk A' o := ⟨h.kd, h.told, h.k1, h.k2, h.n1, h.n2, h.raw, h.by_.kp k⟩
def opD (o : OpI) : OpV := ⟨if 100 < o.kd then ((o.kd % 3 : Nat) : Int) else ((o.kd % 11 : Nat) : Int) - 1, if o.told % 16 = 9 then o.raw.take (min o.raw.length 300) else (dE o.dr).word, (dE o.dr).weight, o.k, o.n⟩
theorem conv_u8 {n : Nat} (h : n < 256) : convPF tb4 5 3 (.int .u8 (n : Int)) = .ok (.int .i64 (n : Int)) := by
  unfold convPF
  simp only [und3', und5']
  rw [wrapF_i64 (by omega)]
theorem und27 : tb4.und 27 = some (.int .i8) := by kernel_rfl
theorem conv_i8 {n : Int} (h1 : -128 ≤ n) (h2 : n ≤ 127) : convPF tb4 27 3 (.int .i8 n) = .ok (.int .i64 n) := by
  unfold convPF
  simp only [und3', und27]
  rw [wrapF_eq, wrap_in (by show -9223372036854775808 ≤ n; omega) (by show n ≤ 9223372036854775807; omega)]
theorem f29_0 {b : Nat} : fieldAddrF tb4 29 (.pointer (some ⟨b, 0, none⟩)) 0 = .ok (.pointer (some ⟨b, 0, none⟩)) := by kernel_rfl
theorem f29_1 {b : Nat} : fieldAddrF tb4 29 (.pointer (some ⟨b, 0, none⟩)) 1 = .ok (.pointer (some ⟨b, 1, none⟩)) := by kernel_rfl
theorem f29_2 {b : Nat} : fieldAddrF tb4 29 (.pointer (some ⟨b, 0, none⟩)) 2 = .ok (.pointer (some ⟨b, 2, none⟩)) := by kernel_rfl
theorem f29_3 {b : Nat} : fieldAddrF tb4 29 (.pointer (some ⟨b, 0, none⟩)) 3 = .ok (.pointer (some ⟨b, 5, none⟩)) := by kernel_rfl
theorem f29_4 {b : Nat} : fieldAddrF tb4 29 (.pointer (some ⟨b, 0, none⟩)) 4 = .ok (.pointer (some ⟨b, 6, none⟩)) := by kernel_rfl
theorem f29_5 {b : Nat} : fieldAddrF tb4 29 (.pointer (some ⟨b, 0, none⟩)) 5 = .ok (.pointer (some ⟨b, 7, none⟩)) := by kernel_rfl
theorem f38_0 {b : Nat} : fieldAddrF tb4 38 (.pointer (some ⟨b, 0, none⟩)) 0 = .ok (.pointer (some ⟨b, 0, none⟩)) := by kernel_rfl
theorem f38_1 {b : Nat} : fieldAddrF tb4 38 (.pointer (some ⟨b, 0, none⟩)) 1 = .ok (.pointer (some ⟨b, 1, none⟩)) := by kernel_rfl
theorem f38_2 {b : Nat} : fieldAddrF tb4 38 (.pointer (some ⟨b, 0, none⟩)) 2 = .ok (.pointer (some ⟨b, 2, none⟩)) := by kernel_rfl
theorem size38 : sizeF tb4 38 = .ok 5 := by kernel_rfl
theorem size3' : sizeF tb4 3 = .ok 1 := by kernel_rfl
theorem und38 : ∃ d, tb4.und 38 = some d ∧ isAggD d = true := by
  have h : (tb4.und 38).map isAggD = some true := by kernel_rfl
  cases hq : tb4.und 38 with
  | none => rw [hq] at h; cases h
  | some d => rw [hq] at h; exact ⟨d, rfl, by simpa using h⟩
def opZ : List Value := [.int .i64 0, .string .empty, .int .u32 0, .int .i64 0, .int .i64 0]
theorem z38 : zeroF tb4 38 = .ok (.agg ⟨opZ⟩) := by kernel_rfl
theorem bld38 {a c d : Int} {w : List UInt8} {n : Nat} : buildF tb4 38 [(0, .int .i64 a), (1, strOf w), (2, .int .u32 (n : Int)), (3, .int .i64 c), (4, .int .i64 d)] = .ok (.agg ⟨opC ⟨a, w, n, c, d⟩⟩) := by kernel_rfl
theorem opC_one (o : OpV) : ∀ v ∈ opC o, oneCell v = true := by
  intro v hv
  unfold opC at hv
  simp only [List.mem_cons, List.not_mem_nil, or_false] at hv
  rcases hv with rfl | rfl | rfl | rfl | rfl <;> rfl
/-- A part of a variable. -/
theorem load_part {A : Mem} {e t : TypeId} {b o n : Nat} {k : Kd} {l l' : List Value} {d : TypeDesc} (hu : tb4.und t = some d) (ha : isAggD d = true) (hs : sizeF tb4 t = .ok n) (h : Vals A e b k l) (hl : l'.length = n) (hle : o + n ≤ l.length) (hp : ∀ j, j < n → l[o + j]? = l'[j]?) :
    loadF tb4 A.get t (.pointer (some ⟨b, o, none⟩)) = .ok (.agg ⟨l'⟩) := by
  obtain ⟨c, h1, h2⟩ := h
  have hg : c.gets n o = some l' := gets_eq _ _ _ _ hl fun j hj => by rw [h2 (o + j) (by omega), hp j hj]
  unfold loadF
  simp only [h1, hu, ha, cond_true, hs, R.ok_bind, hg]
noncomputable def c10 : Code := Try.f10.body.getD .skip
theorem c10_eq : Try.f10.body = some (.seq (sub c10 [0]) (.seq (sub c10 [1,0]) (.seq (sub c10 [1,1,0]) (.seq (sub c10 [1,1,1,0]) (.seq (sub c10 [1,1,1,1,0]) (.seq (sub c10 [1,1,1,1,1,0]) (sub c10 [1,1,1,1,1,1]))))))) := by kernel_rfl
set_option maxHeartbeats 8000000 in
set_option maxRecDepth 20000 in
theorem run_op {A : Mem} {o : OpI} (h : InOk A o) : ∃ A', Ans tb4 10 [.agg ⟨inC o⟩] A (.agg ⟨opC (opD o)⟩) A' ∧ Kp A A' := by
  obtain ⟨v, A', hg, rfl, hk⟩ : ∃ v A', Ans tb4 10 [.agg ⟨inC o⟩] A v A' ∧ v = .agg ⟨opC (opD o)⟩ ∧ Kp A A' := by
    refine ans_of_W (fn_at Try.func10) c10_eq (by rw [Try.ntmps10]; simp) (by kernel_rfl) (by kernel_rfl) ?_
    obtain ⟨d45, hd1, hd2⟩ := und45'
    obtain ⟨d26, he1, he2⟩ := und26
    obtain ⟨d38, hf1, hf2⟩ := und38
    have hv0 : Vals ((A.alloc (rowOb 29 (inC o))).alloc (rowOb 38 opZ)) 29 A.next (.var 8) (inC o) := (vals_puts (get_alloc_self _ _)).same (get_alloc_ne (by rw [next_alloc]; omega))
    have hz0 : Vals ((A.alloc (rowOb 29 (inC o))).alloc (rowOb 38 opZ)) 38 (A.next + 1) (.var 5) opZ := vals_puts (get_alloc_self _ _)
    have hk0 : Kp A ((A.alloc (rowOb 29 (inC o))).alloc (rowOb 38 opZ)) := (Kp.alloc _ _).trans (Kp.alloc _ _)
    have hn0 : ((A.alloc (rowOb 29 (inC o))).alloc (rowOb 38 opZ)).next = A.next + 2 := rfl
    apply W.seq
    apply W.run 20
    · intro M
      simp (config := { maxSteps := 4000000 }) (disch := first | decide +kernel | omega) only [c10, Try.f10, Option.getD_some, sub_seq0, sub_nil, T.puts_cons, Nat.reduceAdd, T.puts_nil, exec_region, runOps_cons, opF_box, ev_tmp, T.get_set, T.get_e, if_true, evG_some, at_ptr, putT_some, opF_alloc, z38, next_alloc, runOps_nil, R.ok_bind, cells_agg]
      with_reducible rfl
    show W tb4 _ _ _
    generalize (A.alloc (rowOb 29 (inC o))).alloc (rowOb 38 opZ) = B at hv0 hz0 hk0 hn0
    have hl0 : loadF tb4 B.get 26 (.pointer (some ⟨A.next, 2, none⟩)) = .ok (drV o.dr) := load_part he1 he2 size26 hv0 rfl (by show 2 + 3 ≤ 8; decide) fun j hj => by
      have : j = 0 ∨ j = 1 ∨ j = 2 := by omega
      rcases this with rfl | rfl | rfl <;> rfl
    obtain ⟨C, ⟨g, hg⟩, kC⟩ := run_entry (A := B) (wt := o.dr.wt) (g := o.dr.gone) (h.by_.kp hk0)
    have hz1 : Vals (C.alloc (rowOb 45 [.string .empty, .int .u32 0, .bool false])) 45 C.next (.var 3) [.string .empty, .int .u32 0, .bool false] := vals_puts (get_alloc_self _ _)
    obtain ⟨C1, s1, v1, n1, k1⟩ := store_all (tb := tb4) (t := 45) (l := [.string .empty, .int .u32 0, .bool false]) (l' := entC (dE o.dr)) size45' hz1 rfl (by simp) (entC_one _)
    rw [next_alloc] at n1
    have kC1 : Kp B C1 := ⟨by have := kC.1; omega, fun z hz => by have := kC.1; rw [k1 z (by omega), get_alloc_ne (by omega), kC.2 z hz]⟩
    have hw0 : entD o.dr.ls o.dr.wt o.dr.gone = dE o.dr := rfl
    rw [hw0] at hg
    have hcn : A.next + 2 ≤ C.next := by have := kC.1; omega
    unfold drV at hl0
    apply W.seq
    apply W.runG (g) 20
    · intro M hM
      simp (config := { maxSteps := 4000000 }) (disch := first | decide +kernel | omega) only [c10, Try.f10, Option.getD_some, sub_seq1, sub_seq0, sub_nil, exec_region, runOps_cons, opF_fieldAddr, ev_tmp, T.get_set, Nat.reduceEqDiff, T.get_e, if_false, if_true, evG_some, putT_some, opF_load, opF_call, evs, R.ok_bind, resK, opF_alloc, z45, at_ptr, opF_store, putT_none, runOps_nil, cells_agg, f29_2, hl0, hg, s1]
      with_reducible rfl
    show W tb4 _ _ _
    have hv1 : Vals C1 29 A.next (.var 8) (inC o) := hv0.same (kC1.2 _ (by omega))
    have hz2 : Vals C1 38 (A.next + 1) (.var 5) opZ := hz0.same (kC1.2 _ (by omega))
    have r0 : loadF tb4 C1.get 5 (.pointer (some ⟨A.next, 0, none⟩)) = .ok (.int .u8 (o.kd : Int)) := load_vals und5' rfl hv1 rfl
    have r5 : loadF tb4 C1.get 27 (.pointer (some ⟨A.next, 5, none⟩)) = .ok (.int .i8 o.k) := load_vals und27 rfl hv1 rfl
    have r6 : loadF tb4 C1.get 27 (.pointer (some ⟨A.next, 6, none⟩)) = .ok (.int .i8 o.n) := load_vals und27 rfl hv1 rfl
    have w0 : loadF tb4 C1.get 9 (.pointer (some ⟨C.next, 0, none⟩)) = .ok (strOf (dE o.dr).word) := load_vals und9' rfl v1 rfl
    have w1 : loadF tb4 C1.get 24 (.pointer (some ⟨C.next, 1, none⟩)) = .ok (.int .u32 ((dE o.dr).weight : Int)) := load_vals und24' rfl v1 rfl
    have cv := conv_u8 (n := o.kd % 11) (by omega)
    have ci := conv_i8 h.k1 h.k2
    have cn := conv_i8 h.n1 h.n2
    have sb := op_subI (a := ((o.kd % 11 : Nat) : Int)) (b := ((1 : Nat) : Int)) (by omega) (by omega)
    have hz3 : Vals (C1.alloc (rowOb 38 opZ)) 38 C1.next (.var 5) opZ := vals_puts (get_alloc_self _ _)
    obtain ⟨C2, s2, v2, n2, k2⟩ := store_all (tb := tb4) (t := 38) (l := opZ) (l' := opC ⟨((o.kd % 11 : Nat) : Int) - ((1 : Nat) : Int), (dE o.dr).word, (dE o.dr).weight, o.k, o.n⟩) size38 hz3 rfl (by simp [opZ]) (opC_one _)
    rw [next_alloc] at n2
    have kC2 : Kp C1 C2 := ⟨by omega, fun z hz => by rw [k2 z (by omega), get_alloc_ne (by omega)]⟩
    apply W.seq
    apply W.run 20
    · intro M
      simp (config := { maxSteps := 4000000 }) (disch := first | decide +kernel | omega) only [c10, Try.f10, Option.getD_some, sub_seq1, sub_seq0, sub_nil, exec_region, runOps_cons, opF_fieldAddr, ev_tmp, T.get_set, Nat.reduceEqDiff, T.get_e, if_false, if_true, evG_some, putT_some, opF_load, opF_ari, ev_int, opF_conv, opF_build, evp, R.ok_bind, opF_alloc, z38, at_ptr, opF_store, putT_none, runOps_nil, cells_agg, f29_4, r6, cn, f29_3, r5, ci, fb1', w1, fb0, w0, f29_0, r0, binF_int, op_rem, cv, sb, bld38, s2]
      with_reducible rfl
    show W tb4 _ _ _
    have hv2 : Vals C2 29 A.next (.var 8) (inC o) := hv1.same (kC2.2 _ (by omega))
    have q0 : loadF tb4 C2.get 5 (.pointer (some ⟨A.next, 0, none⟩)) = .ok (.int .u8 (o.kd : Int)) := load_vals und5' rfl hv2 rfl
    have cv3 := conv_u8 (n := o.kd % 3) (by omega)
    apply W.seq
    have step3 : ∀ t : T Value, Sl t [(1, .pointer (some ⟨A.next, 0, none⟩)), (2, .pointer (some ⟨A.next + 1, 0, none⟩)), (4, .pointer (some ⟨C1.next, 0, none⟩))] →
        W tb4 (sub c10 [1,1,1,0]) ⟨t, 45, [], C2, none⟩ (fun e s' => ∃ t' D, e = .nrm ∧ s' = ⟨t', 45, [], D, none⟩ ∧ D.next = C2.next ∧ (∀ z, z ≠ C1.next → D.get z = C2.get z) ∧ Vals D 38 C1.next (.var 5) (opC ⟨(opD o).kind, (dE o.dr).word, (dE o.dr).weight, o.k, o.n⟩) ∧ Sl t' [(1, .pointer (some ⟨A.next, 0, none⟩)), (2, .pointer (some ⟨A.next + 1, 0, none⟩)), (4, .pointer (some ⟨C1.next, 0, none⟩))]) := by
      rintro t ⟨g1, g2, g4, -⟩
      by_cases h100 : 100 < o.kd
      · obtain ⟨C3, s3, v3, n3, k3⟩ := store_vals (tb := tb4) (t := 3) (o := 0) (v := .int .i64 ((o.kd % 3 : Nat) : Int)) size3' v2 (by show 0 < 5; decide) rfl rfl
        have hkk : (opD o).kind = ((o.kd % 3 : Nat) : Int) := by unfold opD; rw [if_pos h100]
        apply W.run 20
        · intro M
          simp (config := { maxSteps := 4000000 }) (disch := first | decide +kernel | omega) only [c10, Try.f10, Option.getD_some, sub_seq1, sub_seq0, sub_nil, exec_seq, exec_region, runOps_cons, opF_fieldAddr, ev_tmp, g1, evG_some, putT_some, opF_load, T.get_set, if_true, opF_ari, Nat.reduceEqDiff, if_false, ev_int, runOps_nil, R.ok_bind, f29_0, q0, binF_int, op_gtr, cast_lt, h100, decide_true, exec_cond, exec_skip, opF_conv, g4, opF_store, putT_none, f38_0, op_rem, cv3, s3]
          with_reducible rfl
        refine ⟨_, C3, rfl, rfl, n3, k3, ?_, ?_⟩
        · rw [hkk]; exact v3
        · simp only [Sl_cons, Sl_nil, T.get_set, T.puts_cons, T.puts_nil, Nat.reduceEqDiff, Nat.reduceAdd, if_true, if_false, and_true, true_and, g1, g2, g4]
      · have hkk : (opD o).kind = ((o.kd % 11 : Nat) : Int) - ((1 : Nat) : Int) := by unfold opD; rw [if_neg h100]; rfl
        apply W.run 20
        · intro M
          simp (config := { maxSteps := 4000000 }) (disch := first | decide +kernel | omega) only [c10, Try.f10, Option.getD_some, sub_seq1, sub_seq0, sub_nil, exec_seq, exec_region, runOps_cons, opF_fieldAddr, ev_tmp, g1, evG_some, putT_some, opF_load, T.get_set, if_true, opF_ari, Nat.reduceEqDiff, if_false, ev_int, runOps_nil, R.ok_bind, f29_0, q0, binF_int, op_gtr, cast_lt, h100, decide_false, exec_cond, exec_skip, opF_conv, g4, opF_store, putT_none, op_rem]
          with_reducible rfl
        refine ⟨_, C2, rfl, rfl, rfl, fun _ _ => rfl, ?_, ?_⟩
        · rw [hkk]; exact v2
        · simp only [Sl_cons, Sl_nil, T.get_set, T.puts_cons, T.puts_nil, Nat.reduceEqDiff, Nat.reduceAdd, if_true, if_false, and_true, true_and, g1, g2, g4]
    refine (step3 _ (by simp only [Sl_cons, Sl_nil, T.get_set, T.puts_cons, T.puts_nil, Nat.reduceEqDiff, Nat.reduceAdd, if_true, if_false, and_true, true_and])).mono ?_
    rintro e s' ⟨t3, D, rfl, rfl, nD, kD, vD, g1, g2, g4, -⟩
    show W tb4 _ _ _
    have hv3 : Vals D 29 A.next (.var 8) (inC o) := hv2.same (kD _ (by omega))
    have p1 : loadF tb4 D.get 5 (.pointer (some ⟨A.next, 1, none⟩)) = .ok (.int .u8 (o.told : Int)) := load_vals und5' rfl hv3 rfl
    have p7 : loadF tb4 D.get 9 (.pointer (some ⟨A.next, 7, none⟩)) = .ok (strOf o.raw) := load_vals und9' rfl hv3 rfl
    apply W.seq
    have step5 : W tb4 (sub c10 [1,1,1,1,0]) ⟨t3, 45, [], D, none⟩ (fun e s' => ∃ t' E, e = .nrm ∧ s' = ⟨t', 45, [], E, none⟩ ∧ E.next = C2.next ∧ (∀ z, z ≠ C1.next → E.get z = C2.get z) ∧ Vals E 38 C1.next (.var 5) (opC (opD o)) ∧ Sl t' [(1, .pointer (some ⟨A.next, 0, none⟩)), (2, .pointer (some ⟨A.next + 1, 0, none⟩)), (4, .pointer (some ⟨C1.next, 0, none⟩))]) := by
      by_cases h9 : o.told % 16 = 9
      · obtain ⟨C3, s3, v3, n3, k3⟩ := store_vals (tb := tb4) (t := 9) (o := 1) (v := strOf (o.raw.take (min o.raw.length 300))) size9' vD (by show 1 < 5; decide) rfl rfl
        have hlen := len_str (tb := tb4) und9' (l := o.raw)
        have hmn := min_i64 (tb := tb4) (ts := [3, 3]) (a := o.raw.length) (b := 300)
        have hsl := slice_to (tb := tb4) (t := 9) (k := .i64) (l := o.raw) (n := min o.raw.length 300) und9' (Nat.min_le_left _ _)
        have hkk : opD o = ⟨(opD o).kind, o.raw.take (min o.raw.length 300), (dE o.dr).weight, o.k, o.n⟩ := by
          unfold opD; rw [if_pos h9]
        apply W.run 20
        · intro M
          simp (config := { maxSteps := 4000000 }) (disch := first | decide +kernel | omega) only [c10, Try.f10, Option.getD_some, sub_seq1, sub_seq0, sub_nil, exec_seq, exec_region, runOps_cons, opF_fieldAddr, ev_tmp, g1, evG_some, putT_some, opF_load, T.get_set, if_true, opF_ari, Nat.reduceEqDiff, if_false, ev_int, opF_eql, runOps_nil, R.ok_bind, f29_1, p1, binF_int, op_rem, h9, op_eql, decide_true, exec_cond, exec_skip, opF_len, evs, opF_minmax, opF_slice, evo, g4, opF_store, putT_none, f38_1, f29_5, p7, hlen, hmn, hsl, s3]
          with_reducible rfl
        refine ⟨_, C3, rfl, rfl, by omega, fun z hz => by rw [k3 z hz, kD z hz], ?_, ?_⟩
        · rw [hkk]; exact v3
        · simp only [Sl_cons, Sl_nil, T.get_set, T.puts_cons, T.puts_nil, Nat.reduceEqDiff, Nat.reduceAdd, if_true, if_false, and_true, true_and, g1, g2, g4]
      · have hkk : opD o = ⟨(opD o).kind, (dE o.dr).word, (dE o.dr).weight, o.k, o.n⟩ := by
          unfold opD; rw [if_neg h9]
        apply W.run 20
        · intro M
          simp (config := { maxSteps := 4000000 }) (disch := first | decide +kernel | omega) only [c10, Try.f10, Option.getD_some, sub_seq1, sub_seq0, sub_nil, exec_seq, exec_region, runOps_cons, opF_fieldAddr, ev_tmp, g1, evG_some, putT_some, opF_load, T.get_set, if_true, opF_ari, Nat.reduceEqDiff, if_false, ev_int, opF_eql, runOps_nil, R.ok_bind, f29_1, p1, binF_int, op_rem, op_eql, h9, decide_false, exec_cond, exec_skip, opF_len, evs, opF_minmax, opF_slice, evo, g4, opF_store, putT_none]
          with_reducible rfl
        refine ⟨_, D, rfl, rfl, nD, kD, ?_, ?_⟩
        · rw [hkk]; exact vD
        · simp only [Sl_cons, Sl_nil, T.get_set, T.puts_cons, T.puts_nil, Nat.reduceEqDiff, Nat.reduceAdd, if_true, if_false, and_true, true_and, g1, g2, g4]
    refine step5.mono ?_
    rintro e s' ⟨t5, E, rfl, rfl, nE, kE, vE, f1, f2, f4, -⟩
    show W tb4 _ _ _
    have hzE : Vals E 38 (A.next + 1) (.var 5) opZ := (hz2.same (kC2.2 _ (by omega))).same (kE _ (by omega))
    obtain ⟨F, s6, v6, n6, k6⟩ := store_all (tb := tb4) (t := 38) (l := opZ) (l' := opC (opD o)) size38 hzE rfl (by simp [opZ]) (opC_one _)
    have hlE := load_all (tb := tb4) hf1 hf2 (l := opC (opD o)) size38 vE
    have hlF := load_all (tb := tb4) hf1 hf2 (l := opC (opD o)) size38 v6
    have kBE : Kp A E := ⟨by have := hk0.1; have := kC1.1; omega, fun z hz => by
      have := hk0.1; have := kC1.1
      rw [kE z (by omega), kC2.2 z (by omega), kC1.2 z (by omega), hk0.2 z hz]⟩
    apply W.seq
    apply W.run 20
    · intro M
      simp (config := { maxSteps := 4000000 }) (disch := first | decide +kernel | omega) only [c10, Try.f10, Option.getD_some, sub_seq1, sub_seq0, sub_nil, exec_region, runOps_cons, opF_load, ev_tmp, f4, evG_some, putT_some, opF_store, T.get_set, Nat.reduceEqDiff, f2, if_false, if_true, putT_none, runOps_nil, R.ok_bind, hlE, s6]
      with_reducible rfl
    show W tb4 _ _ _
    apply W.run 20
    · intro M
      simp (config := { maxSteps := 4000000 }) (disch := first | decide +kernel | omega) only [c10, Try.f10, Option.getD_some, sub_seq1, sub_nil, exec_ret]
      with_reducible rfl
    refine ⟨.inr rfl, F, [.agg ⟨opC (opD o)⟩], rfl, ?_, rfl, ?_⟩
    · simp only [Try.f10, resF, ev_tmp, T.get_set, Nat.reduceEqDiff, if_true, if_false, evG_some, R.ok_bind, f2, hlF]
    · exact ⟨by rw [n6]; exact kBE.1, fun z hz => by rw [k6 z (by omega), kBE.2 z hz]⟩
  exact ⟨A', hg, hk⟩
end Go.Proofs.Ytnelkapmmgggdaa.mdl

/-
  Model: what an update does, by its kind.
-/
namespace Go.Am
section
variable {tb : Tab} {ih : Code → St → R (Ex × St)}
variable (dst : Option Tmp) (ty : TypeId) (pos : String) (after : Array Edge) (g : Option (Nat × Bool)) (s : St) (k : St → R (Ex × St))
theorem opF_makeMap (t : TypeId) (r : Option Operand) : opF tb ih { dst, op := .makeMap t r, type := ty, pos, after, guard := g } s k =
    (evo s.t r).bind fun r => (makeMapF tb t r).bind fun (ob, way) => putT { s with m := s.m.alloc ob } dst (way.at s.m.next) k := by
  rw [opF_Al _ _ _ _ _ _ _ rfl rfl]; simp only [aOp, R.bind_bind]
theorem opF_insert (t : TypeId) (m x v : Operand) : opF tb ih { dst, op := .insert t m x v, type := ty, pos, after, guard := g } s k =
    (ev s.t m).bind fun m => (ev s.t x).bind fun x => (ev s.t v).bind fun v => (mapUpdateF tb s.m t m x v).bind fun A => putT { s with m := A } dst unitV k := by
  unfold opF
  show ((lOp tb s.t s.m (.insert t m x v)).bind fun (v, A) => putT { s with m := A } dst v k) = _
  simp only [lOp, R.bind_bind, R.ok_bind]
theorem opF_lookup (t : TypeId) (m x : Operand) (b : Bool) : opF tb ih { dst, op := .lookup t m x b, type := ty, pos, after, guard := g } s k =
    (ev s.t m).bind fun m => (ev s.t x).bind fun x => (lookupF tb s.m.get t m x b).bind fun v => putT s dst v k := by
  rw [opF_Rd _ _ _ _ _ _ _ rfl rfl]; simp only [rOp, R.bind_bind]
theorem rOp_lookup (t : T Value) (g : Nat → Option Ob) (e : TypeId) (m x : Operand) (b : Bool) : rOp tb t g (.lookup e m x b) = (ev t m).bind fun m => (ev t x).bind fun x => lookupF tb g e m x b := rfl
end
theorem cells_bool (b : Bool) : (Value.bool b).cells.toList = [.bool b] := rfl
theorem at_mp (b : Nat) : Way.mp.at b = .map (some b) := rfl
end Go.Am
namespace Go.Proofs.Ytnelkapmmgggdaa.mdl
open Go.Am Go.Mdl
set_option linter.unusedSimpArgs false
set_option linter.unusedVariables false
set_option linter.unusedVariables false

/-- A function that puts a word: its variables lie at q, q + 1, q + 2. -/
def putF (q : Nat) : Value := .func (.func 57) ⟨[]⟩ ⟨[.pointer (some ⟨q, 0, none⟩), .pointer (some ⟨q + 1, 0, none⟩), .pointer (some ⟨q + 2, 0, none⟩)]⟩
structure PutV (A : Mem) (q : Nat) (th : Bool) (no : Nat) (gn : Bool) : Prop where
  lt : q + 2 < A.next
  th : A.get q = some (rowOb 4 [.bool th])
  no : A.get (q + 1) = some (rowOb 40 [.int .i64 (no : Int)])
  gn : A.get (q + 2) = some (rowOb 4 [.bool gn])
theorem PutV.kp {A A' : Mem} {q no : Nat} {th gn : Bool} (h : PutV A q th no gn) (k : Kp A A') : PutV A' q th no gn := by
  have := h.lt
  exact ⟨by have := k.1; omega, by rw [k.2 _ (by omega)]; exact h.th, by rw [k.2 _ (by omega)]; exact h.no, by rw [k.2 _ (by omega)]; exact h.gn⟩
noncomputable def c39 : Code := Try.f39.body.getD .skip
theorem c39_eq : Try.f39.body = some (.seq (sub c39 [0]) (.seq (sub c39 [1,0]) (sub c39 [1,1]))) := by kernel_rfl
set_option maxHeartbeats 4000000 in
set_option maxRecDepth 20000 in
theorem run_put {A : Mem} (th gn : Bool) (no : Nat) : ∃ A', Ans tb4 39 [.bool th, .int .i64 (no : Int), .bool gn] A (putF A.next) A' ∧ PutV A' A.next th no gn ∧ A'.next = A.next + 3 ∧ Kp A A' := by
  obtain ⟨v, A', hg, rfl, rfl⟩ : ∃ v A', Ans tb4 39 [.bool th, .int .i64 (no : Int), .bool gn] A v A' ∧ v = putF A.next ∧ A' = ((A.alloc (rowOb 4 [.bool th])).alloc (rowOb 40 [.int .i64 (no : Int)])).alloc (rowOb 4 [.bool gn]) := by
    refine ans_of_W (fn_at Try.func39) c39_eq (by rw [Try.ntmps39]; simp) (by kernel_rfl) (by kernel_rfl) ?_
    apply W.seq
    apply W.run 20
    · intro M
      simp (config := { maxSteps := 4000000 }) (disch := first | decide +kernel | omega) only [c39, Try.f39, Option.getD_some, sub_seq0, sub_nil, T.puts_cons, Nat.reduceAdd, T.puts_nil, exec_region, runOps_cons, opF_box, ev_tmp, T.get_set, Nat.reduceEqDiff, T.get_e, if_true, if_false, evG_some, at_ptr, putT_some, next_alloc, opF_assign, ev_nilfunc, runOps_nil, R.ok_bind, cells_bool, cells_int]
      with_reducible rfl
    show W tb4 _ _ _
    apply W.seq
    apply W.run 20
    · intro M
      simp (config := { maxSteps := 4000000 }) (disch := first | decide +kernel | omega) only [c39, Try.f39, Option.getD_some, sub_seq1, sub_seq0, sub_nil, exec_region, runOps_cons, opF_makeFunc, evs, ev_tmp, T.get_set, Nat.reduceEqDiff, T.get_e, if_false, if_true, evG_some, R.ok_bind, putT_some, opF_assign, runOps_nil]
      with_reducible rfl
    show W tb4 _ _ _
    apply W.run 20
    · intro M
      simp (config := { maxSteps := 4000000 }) (disch := first | decide +kernel | omega) only [c39, Try.f39, Option.getD_some, sub_seq1, sub_nil, exec_ret]
      with_reducible rfl
    refine ⟨.inr rfl, _, [putF A.next], rfl, ?_, rfl, rfl⟩
    simp only [Try.f39, resF, ev_tmp, T.get_set, Nat.reduceEqDiff, if_true, if_false, evG_some, R.ok_bind]
    rfl
  refine ⟨_, hg, ⟨by simp only [next_alloc]; omega, ?_, ?_, ?_⟩, rfl, ((Kp.alloc _ _).trans (Kp.alloc _ _)).trans (Kp.alloc _ _)⟩
  · rw [get_alloc_ne (by simp only [next_alloc]; omega), get_alloc_ne (by simp only [next_alloc]; omega)]
    exact get_alloc_self _ _
  · rw [get_alloc_ne (by simp only [next_alloc]; omega)]
    exact get_alloc_self _ _
  · exact get_alloc_self _ _

/-! ### The updates, by kinds -/
def updE (q : Nat) : List MapEntry := [⟨.int .i64 0, putF (q + 1), 0⟩, ⟨.int .i64 1, putF (q + 4), 1⟩, ⟨.int .i64 2, putF (q + 7), 2⟩]
structure UpdsV (A : Mem) (q : Nat) : Prop where
  m : A.get q = some (.map (updE q) 3)
  add : PutV A (q + 1) false 8 false
  rem : PutV A (q + 4) true 9 true
  rew : PutV A (q + 7) true 9 false
noncomputable def c26 : Code := Try.f26.body.getD .skip
theorem c26_eq : Try.f26.body = some (.seq (sub c26 [0]) (.seq (sub c26 [1,0]) (sub c26 [1,1]))) := by kernel_rfl
theorem mm74 : makeMapF tb4 74 none = .ok (.map [] 0, .mp) := by kernel_rfl
theorem und74 : ∃ vt, tb4.und 74 = some (.map 3 vt) := by
  have h : (match tb4.und 74 with | some (.map k v) => Nat.beq k 3 | _ => false) = true := by kernel_rfl
  cases hq : tb4.und 74 with
  | none => rw [hq] at h; cases h
  | some d =>
    rw [hq] at h
    cases d with
    | map k v => exact ⟨v, by rw [Nat.eq_of_beq_eq_true h]⟩
    | _ => cases h
theorem ins74 {A : Mem} {q c : Nat} {es : List MapEntry} {k : Int} {v : Value} (h : A.get q = some (.map es c)) (hf : findF (.int .i64 k) es 0 = some none) : mapUpdateF tb4 A 74 (.map (some q)) (.int .i64 k) v = .ok (A.set q (.map (es ++ [⟨.int .i64 k, v, c⟩]) (c + 1))) := by
  obtain ⟨vt, hu⟩ := und74
  have hk : keyOk tb4 3 (.int .i64 k) = true := by unfold keyOk; rw [und3']
  unfold mapUpdateF
  simp only [hu, hk, cond_true, h, hf]
set_option maxHeartbeats 4000000 in
set_option maxRecDepth 20000 in
theorem run_updates {A : Mem} : ∃ A', Ans tb4 26 [] A (.map (some A.next)) A' ∧ UpdsV A' A.next ∧ Kp A A' := by
  obtain ⟨v, A', hg, rfl, h, hk⟩ : ∃ v A', Ans tb4 26 [] A v A' ∧ v = .map (some A.next) ∧ UpdsV A' A.next ∧ Kp A A' := by
    refine ans_of_W (fn_at Try.func26) c26_eq (by rw [Try.ntmps26]; simp) (by kernel_rfl) (by kernel_rfl) ?_
    have hm0 : (A.alloc (.map [] 0)).get A.next = some (.map [] 0) := get_alloc_self _ _
    have n0 : (A.alloc (.map [] 0)).next = A.next + 1 := next_alloc _ _
    have k0 : Kp A (A.alloc (.map [] 0)) := Kp.alloc _ _
    obtain ⟨B1, ⟨g1, hg1⟩, p1, n1, k1⟩ := run_put (A := A.alloc (.map [] 0)) false false 8
    rw [n0] at n1
    have hm1 : B1.get A.next = some (.map [] 0) := by rw [k1.2 _ (by omega)]; exact hm0
    have i1 := ins74 (k := ((0 : Nat) : Int)) (v := putF (A.alloc (.map [] 0)).next) hm1 rfl
    generalize hC1 : B1.set A.next (.map ([] ++ [⟨.int .i64 ((0 : Nat) : Int), putF (A.alloc (.map [] 0)).next, 0⟩]) (0 + 1)) = C1 at i1
    have m1 : C1.get A.next = some (.map [⟨.int .i64 0, putF (A.next + 1), 0⟩] 1) := by rw [← hC1, get_setMem, if_pos rfl, n0]; rfl
    have c1 : ∀ z, z ≠ A.next → C1.get z = B1.get z := fun z hz => by rw [← hC1, get_setMem, if_neg hz]
    have cn1 : C1.next = A.next + 4 := by rw [← hC1]; exact n1
    obtain ⟨B2, ⟨g2, hg2⟩, p2, n2, k2⟩ := run_put (A := C1) true true 9
    rw [cn1] at n2
    have hm2 : B2.get A.next = some (.map [⟨.int .i64 0, putF (A.next + 1), 0⟩] 1) := by rw [k2.2 _ (by omega)]; exact m1
    have i2 := ins74 (k := ((1 : Nat) : Int)) (v := putF C1.next) hm2 rfl
    generalize hC2 : B2.set A.next (.map ([⟨.int .i64 0, putF (A.next + 1), 0⟩] ++ [⟨.int .i64 ((1 : Nat) : Int), putF C1.next, 1⟩]) (1 + 1)) = C2 at i2
    have m2 : C2.get A.next = some (.map [⟨.int .i64 0, putF (A.next + 1), 0⟩, ⟨.int .i64 1, putF (A.next + 4), 1⟩] 2) := by rw [← hC2, get_setMem, if_pos rfl, cn1]; rfl
    have c2 : ∀ z, z ≠ A.next → C2.get z = B2.get z := fun z hz => by rw [← hC2, get_setMem, if_neg hz]
    have cn2 : C2.next = A.next + 7 := by rw [← hC2]; exact n2
    obtain ⟨B3, ⟨g3, hg3⟩, p3, n3, k3⟩ := run_put (A := C2) true false 9
    rw [cn2] at n3
    have hm3 : B3.get A.next = some (.map [⟨.int .i64 0, putF (A.next + 1), 0⟩, ⟨.int .i64 1, putF (A.next + 4), 1⟩] 2) := by rw [k3.2 _ (by omega)]; exact m2
    have i3 := ins74 (k := ((2 : Nat) : Int)) (v := putF C2.next) hm3 rfl
    generalize hC3 : B3.set A.next (.map ([⟨.int .i64 0, putF (A.next + 1), 0⟩, ⟨.int .i64 1, putF (A.next + 4), 1⟩] ++ [⟨.int .i64 ((2 : Nat) : Int), putF C2.next, 2⟩]) (2 + 1)) = C3 at i3
    have m3 : C3.get A.next = some (.map (updE A.next) 3) := by rw [← hC3, get_setMem, if_pos rfl, cn2]; rfl
    have c3 : ∀ z, z ≠ A.next → C3.get z = B3.get z := fun z hz => by rw [← hC3, get_setMem, if_neg hz]
    have cn3 : C3.next = A.next + 10 := by rw [← hC3]; exact n3
    rw [n0] at p1
    rw [cn1] at p2
    rw [cn2] at p3
    have mv : ∀ {X Y : Mem} {q no : Nat} {th gn : Bool}, PutV X q th no gn → A.next < q → X.next ≤ Y.next → (∀ z, z ≠ A.next → z < X.next → Y.get z = X.get z) → PutV Y q th no gn := by
      intro X Y q no th gn h hq hn hz
      have := h.lt
      exact ⟨by omega, by rw [hz _ (by omega) (by omega)]; exact h.th, by rw [hz _ (by omega) (by omega)]; exact h.no, by rw [hz _ (by omega) (by omega)]; exact h.gn⟩
    apply W.seq
    apply W.run 20
    · intro M
      simp (config := { maxSteps := 4000000 }) (disch := first | decide +kernel | omega) only [c26, Try.f26, Option.getD_some, sub_seq0, sub_nil, T.puts_nil, exec_region, runOps_cons, opF_assign, ev_nilmap, putT_some, runOps_nil, R.ok_bind]
      with_reducible rfl
    show W tb4 _ _ _
    apply W.seq
    apply W.runG ((g1+g2+g3)) 20
    · intro M hM
      simp (config := { maxSteps := 4000000 }) (disch := first | decide +kernel | omega) only [c26, Try.f26, Option.getD_some, sub_seq1, sub_seq0, sub_nil, exec_region, runOps_cons, opF_makeMap, evo, putT_some, opF_call, evs, ev_bool, ev_int, R.ok_bind, resK, opF_insert, ev_tmp, T.get_set, Nat.reduceEqDiff, T.get_e, if_false, if_true, evG_some, putT_none, opF_move, opF_assign, runOps_nil, mm74, hg1, at_mp, i1, hg2, i2, hg3, i3]
      with_reducible rfl
    show W tb4 _ _ _
    apply W.run 20
    · intro M
      simp (config := { maxSteps := 4000000 }) (disch := first | decide +kernel | omega) only [c26, Try.f26, Option.getD_some, sub_seq1, sub_nil, exec_ret]
      with_reducible rfl
    refine ⟨.inr rfl, C3, [.map (some A.next)], rfl, ?_, rfl, ⟨m3, ?_, ?_, ?_⟩, ⟨by omega, fun z hz => ?_⟩⟩
    · simp only [Try.f26, resF, ev_tmp, T.get_set, Nat.reduceEqDiff, if_true, if_false, evG_some, R.ok_bind]
    · exact mv p1 (by omega) (by omega) fun z hz hl => by rw [c3 z hz, k3.2 z (by omega), c2 z hz, k2.2 z (by omega), c1 z hz]
    · exact mv p2 (by omega) (by omega) fun z hz hl => by rw [c3 z hz, k3.2 z (by omega), c2 z hz]
    · exact mv p3 (by omega) (by omega) fun z hz hl => by rw [c3 z hz]
    · rw [c3 z (by omega), k3.2 z (by omega), c2 z (by omega), k2.2 z (by omega), c1 z (by omega), k1.2 z (by omega), k0.2 z hz]
  exact ⟨A', hg, h, hk⟩
end Go.Proofs.Ytnelkapmmgggdaa.mdl

/-
  Model: a word that is put.
-/
namespace Go.Proofs.Ytnelkapmmgggdaa.mdl
open Go.Am Go.Mdl
set_option linter.unusedSimpArgs false
set_option linter.unusedVariables false
set_option linter.unusedVariables false

/-- What it makes, and its error. -/
def putD (d : List EntD) (o : OpV) (th : Bool) (no : Nat) (gn : Bool) : List EntD × Nat :=
  if okW o.word = false then (d, 7) else if (find o.word d).isSome ≠ th then (d, no) else (Go.Mdl.live (withL d [⟨o.word, o.weight, gn⟩]), 0)
noncomputable def c57 : Code := Try.f57.body.getD .skip
theorem c57_eq : Try.f57.body = some (.seq (sub c57 [0]) (.seq (.seq (sub c57 [1,0,0]) (sub c57 [1,0,1])) (.seq (.seq (sub c57 [1,1,0,0]) (.seq (sub c57 [1,1,0,1,0]) (sub c57 [1,1,0,1,1]))) (.seq (sub c57 [1,1,1,0]) (sub c57 [1,1,1,1]))))) := by kernel_rfl
theorem bs94 {w : List UInt8} : buildSliceF tb4 94 1 [(0, strOf w)] = .ok (rowOb 9 [strOf w], .slc 1 2) := by kernel_rfl
theorem und40' : tb4.und 40 = some (.int .i64) := by kernel_rfl
set_option maxHeartbeats 8000000 in
set_option maxRecDepth 20000 in
theorem run_put1 {A : Mem} {d : List EntD} {x : Value} {o : OpV} {q no : Nat} {th gn : Bool} (h : EntE A d x) (ha : Asc d) (hl : d.length < 999999) (hp : PutV A q th no gn) :
    ∃ y A', Ans tb4 57 [x, .agg ⟨opC o⟩, .pointer (some ⟨q, 0, none⟩), .pointer (some ⟨q + 1, 0, none⟩), .pointer (some ⟨q + 2, 0, none⟩)] A (.tuple ⟨[y, .int .i64 (((putD d o th no gn).2 : Nat) : Int)]⟩) A' ∧ EntE A' (putD d o th no gn).1 y ∧ Kp A A' := by
  obtain ⟨v, A', hg, y, rfl, he, hk⟩ : ∃ v A', Ans tb4 57 [x, .agg ⟨opC o⟩, .pointer (some ⟨q, 0, none⟩), .pointer (some ⟨q + 1, 0, none⟩), .pointer (some ⟨q + 2, 0, none⟩)] A v A' ∧ ∃ y, v = .tuple ⟨[y, .int .i64 (((putD d o th no gn).2 : Nat) : Int)]⟩ ∧ EntE A' (putD d o th no gn).1 y ∧ Kp A A' := by
    refine ans_of_W (fn_at Try.func57) c57_eq (by rw [Try.ntmps57]; simp) (by kernel_rfl) (by kernel_rfl) ?_
    have hq := hp.lt
    have k0 : Kp A (A.alloc (rowOb 38 (opC o))) := Kp.alloc _ _
    have v0 : Vals (A.alloc (rowOb 38 (opC o))) 38 A.next (.var 5) (opC o) := vals_puts (get_alloc_self _ _)
    have n0 : (A.alloc (rowOb 38 (opC o))).next = A.next + 1 := next_alloc _ _
    apply W.seq
    apply W.run 20
    · intro M
      simp (config := { maxSteps := 4000000 }) (disch := first | decide +kernel | omega) only [c57, Try.f57, Option.getD_some, sub_seq0, sub_nil, T.puts_cons, Nat.reduceAdd, T.puts_nil, exec_region, runOps_cons, opF_box, ev_tmp, T.get_set, Nat.reduceEqDiff, T.get_e, if_false, if_true, evG_some, at_ptr, putT_some, opF_assign, ev_nilslice, ev_int, runOps_nil, R.ok_bind, cells_agg]
      with_reducible rfl
    show W tb4 _ _ _
    generalize A.alloc (rowOb 38 (opC o)) = B at k0 v0 n0
    have lw : loadF tb4 B.get 9 (.pointer (some ⟨A.next, 1, none⟩)) = .ok (strOf o.word) := load_vals und9' rfl v0 rfl
    obtain ⟨g1, hg1⟩ := run_check (get_alloc_self B (rowOb 9 [strOf o.word]))
    have k1 : Kp A (B.alloc (rowOb 9 [strOf o.word])) := k0.trans (Kp.alloc _ _)
    have v1 : Vals (B.alloc (rowOb 9 [strOf o.word])) 38 A.next (.var 5) (opC o) := v0.same (get_alloc_ne (by omega))
    have n1 : (B.alloc (rowOb 9 [strOf o.word])).next = A.next + 2 := by rw [next_alloc, n0]
    apply W.seq
    apply W.seq
    cases hw : okW o.word with
    | false =>
      have hch : chk o.word = 7 := by unfold chk; rw [hw]; rfl
      rw [hch] at hg1
      have hd : putD d o th no gn = (d, 7) := by unfold putD; rw [if_pos hw]
      apply W.runG (g1) 20
      · intro M hM
        simp (config := { maxSteps := 4000000 }) (disch := first | decide +kernel | omega) only [c57, Try.f57, Option.getD_some, sub_seq1, sub_seq0, sub_nil, exec_region, runOps_cons, opF_fieldAddr, ev_tmp, T.get_set, Nat.reduceEqDiff, T.get_e, if_false, if_true, evG_some, putT_some, opF_load, opF_buildSlice, evp, R.ok_bind, opF_call, evs, resK, opF_neq, ev_int, runOps_nil, f38_1, lw, bs94, at_slc, hg1, binF_int, op_neq, ne_eq, not_false_eq_true, decide_true]
        with_reducible rfl
      apply W.run 20
      · intro M
        simp (config := { maxSteps := 4000000 }) (disch := first | decide +kernel | omega) only [c57, Try.f57, Option.getD_some, sub_seq1, sub_seq0, sub_nil, exec_cond, ev_tmp, T.get_set, Nat.reduceEqDiff, T.get_e, if_false, if_true, evG_some, exec_seq, exec_region, runOps_cons, opF_move, putT_some, opF_assign, ev_int, runOps_nil, R.ok_bind, exec_ret, exec_skip]
        with_reducible rfl
      refine ⟨.inr rfl, _, [x, .int .i64 ((7 : Nat) : Int)], rfl, ?_, x, by rw [hd]; rfl, by rw [hd]; exact h.kp k1, k1⟩
      simp only [Try.f57, resF, ev_tmp, T.get_set, Nat.reduceEqDiff, if_true, if_false, evG_some, R.ok_bind]
    | true =>
      have hch : chk o.word = 0 := by unfold chk; rw [hw]; rfl
      rw [hch] at hg1
      apply W.runG (g1) 20
      · intro M hM
        simp (config := { maxSteps := 4000000 }) (disch := first | decide +kernel | omega) only [c57, Try.f57, Option.getD_some, sub_seq1, sub_seq0, sub_nil, exec_region, runOps_cons, opF_fieldAddr, ev_tmp, T.get_set, Nat.reduceEqDiff, T.get_e, if_false, if_true, evG_some, putT_some, opF_load, opF_buildSlice, evp, R.ok_bind, opF_call, evs, resK, opF_neq, ev_int, runOps_nil, f38_1, lw, bs94, at_slc, hg1, binF_int, op_neq, ne_eq, not_true_eq_false, decide_false]
        with_reducible rfl
      apply W.run 20
      · intro M
        simp (config := { maxSteps := 4000000 }) (disch := first | decide +kernel | omega) only [c57, Try.f57, Option.getD_some, sub_seq1, sub_seq0, sub_nil, exec_cond, ev_tmp, T.get_set, Nat.reduceEqDiff, T.get_e, if_false, if_true, evG_some, exec_seq, exec_region, runOps_cons, opF_move, putT_some, opF_assign, ev_int, runOps_nil, R.ok_bind, exec_ret, exec_skip]
        with_reducible rfl
      show W tb4 _ _ _
      generalize B.alloc (rowOb 9 [strOf o.word]) = C at k1 v1 n1
      obtain ⟨b, hb⟩ := h.kp k1
      have lw1 : loadF tb4 C.get 9 (.pointer (some ⟨A.next, 1, none⟩)) = .ok (strOf o.word) := load_vals und9' rfl v1 rfl
      obtain ⟨D, ⟨g2, hg2⟩, nD, kD⟩ := run_find (w := o.word) hb hb.lt ha (by omega)
      have kCD : Kp C D := ⟨nD, kD⟩
      have z2 : Vals (D.alloc (rowOb 45 [.string .empty, .int .u32 0, .bool false])) 45 D.next (.var 3) [.string .empty, .int .u32 0, .bool false] := vals_puts (get_alloc_self _ _)
      obtain ⟨E, s2, v2, n2, e2⟩ := store_all (tb := tb4) (t := 45) (l := [.string .empty, .int .u32 0, .bool false]) (l' := entC ((find o.word d).getD zeroE)) size45' z2 rfl (by simp) (entC_one _)
      rw [next_alloc] at n2
      have kDE : Kp D E := ⟨by omega, fun z hz => by rw [e2 z (by omega), get_alloc_ne (by omega)]⟩
      have kE := (k1.trans kCD).trans kDE
      have pE := hp.kp kE
      have lth : loadF tb4 E.get 4 (.pointer (some ⟨q, 0, none⟩)) = .ok (.bool th) := load_vals und4' rfl (vals_puts (k := .var 1) pE.th) rfl
      apply W.seq
      apply W.seq
      apply W.runG (g2) 20
      · intro M hM
        simp (config := { maxSteps := 4000000 }) (disch := first | decide +kernel | omega) only [c57, Try.f57, Option.getD_some, sub_seq1, sub_seq0, sub_nil, exec_region, runOps_cons, opF_move, ev_tmp, T.get_set, Nat.reduceEqDiff, T.get_e, if_true, if_false, evG_some, putT_some, opF_fieldAddr, opF_load, opF_call, evs, R.ok_bind, resK, opF_extract, extractF, opF_alloc, z45, at_ptr, opF_store, putT_none, opF_assign, runOps_nil, cells_agg, f38_1, lw1, hg2, List.getElem?_cons_zero, List.getElem?_cons_succ, s2]
        with_reducible rfl
      show W tb4 _ _ _
      apply W.seq
      by_cases hth : (find o.word d).isSome = th
      · have hd : putD d o th no gn = (Go.Mdl.live (withL d [⟨o.word, o.weight, gn⟩]), 0) := by
          unfold putD
          rw [if_neg (by rw [hw]; decide), if_neg (fun h => h hth)]
        apply W.run 20
        · intro M
          simp (config := { maxSteps := 4000000 }) (disch := first | decide +kernel | omega) only [c57, Try.f57, Option.getD_some, sub_seq1, sub_seq0, sub_nil, hth, exec_region, runOps_cons, opF_move, ev_tmp, T.get_set, Nat.reduceEqDiff, T.get_e, if_false, if_true, evG_some, putT_some, opF_load, opF_neq, und4', runOps_nil, R.ok_bind, lth, bool_neq, bne_self_eq_false]
          with_reducible rfl
        show W tb4 _ _ _
        apply W.run 20
        · intro M
          simp (config := { maxSteps := 4000000 }) (disch := first | decide +kernel | omega) only [c57, Try.f57, Option.getD_some, sub_seq1, sub_seq0, sub_nil, exec_cond, ev_tmp, T.get_set, Nat.reduceEqDiff, T.get_e, if_false, if_true, evG_some, exec_seq, exec_draw, runOps_cons, opF_move, putT_some, opF_load, opF_assign, runOps_nil, R.ok_bind, exec_ret, exec_skip]
          with_reducible rfl
        show W tb4 _ _ _
        have vE : Vals E 38 A.next (.var 5) (opC o) := (v1.same (kCD.2 _ (by omega))).same (kDE.2 _ (by omega))
        have lw2 : loadF tb4 E.get 9 (.pointer (some ⟨A.next, 1, none⟩)) = .ok (strOf o.word) := load_vals und9' rfl vE rfl
        have lwt : loadF tb4 E.get 24 (.pointer (some ⟨A.next, 2, none⟩)) = .ok (.int .u32 (o.weight : Int)) := load_vals und24' rfl vE rfl
        have lgn : loadF tb4 E.get 4 (.pointer (some ⟨q + 2, 0, none⟩)) = .ok (.bool gn) := load_vals und4' rfl (vals_puts (k := .var 1) pE.gn) rfl
        have kF := kE.trans (Kp.alloc E (rowOb 45 (entC ⟨o.word, o.weight, gn⟩)))
        have hm : EntS (E.alloc (rowOb 45 (entC ⟨o.word, o.weight, gn⟩))) E.next [⟨o.word, o.weight, gn⟩] (.slice (some ⟨E.next, 0, none⟩) 1 2) :=
          .inr ⟨.var 3, 2, rfl, by rw [next_alloc]; omega, vals_puts (get_alloc_self _ _), fun l hl => (by
            simp only [List.map_cons, List.map_nil, List.mem_singleton] at hl
            rw [hl]; rfl), .inl rfl⟩
        obtain ⟨b', hb'⟩ := h.kp kF
        obtain ⟨y1, G1, b1, ⟨g3, hg3⟩, w1, nn1, o1, kk1⟩ := run_with hb' hm hm.lt ha (by simp only [List.length_cons, List.length_nil]; omega)
        have hwl := withL_len (own := d) (more := [⟨o.word, o.weight, gn⟩]) ha
        obtain ⟨y2, G2, b2, ⟨g4, hg4⟩, w2, nn2, o2, hn2, kk2⟩ := run_live w1.ents w1.lt (by simp only [List.length_cons, List.length_nil] at hwl; omega)
        apply W.seq
        apply W.runG ((g3+g4)) 20
        · intro M hM
          simp (config := { maxSteps := 4000000 }) (disch := first | decide +kernel | omega) only [c57, Try.f57, Option.getD_some, sub_seq1, sub_seq0, sub_nil, exec_region, runOps_cons, opF_move, ev_tmp, T.get_set, Nat.reduceEqDiff, T.get_e, if_true, if_false, evG_some, putT_some, opF_fieldAddr, opF_load, opF_build, evp, R.ok_bind, opF_buildSlice, opF_call, evs, resK, opF_assign, ev_int, runOps_nil, lgn, f38_2, lwt, f38_1, lw2, bld45, bs45, at_slc, hg3, hg4]
          with_reducible rfl
        show W tb4 _ _ _
        apply W.run 20
        · intro M
          simp (config := { maxSteps := 4000000 }) (disch := first | decide +kernel | omega) only [c57, Try.f57, Option.getD_some, sub_seq1, sub_nil, exec_ret]
          with_reducible rfl
        refine ⟨.inr rfl, G2, [y2, .int .i64 ((0 : Nat) : Int)], rfl, ?_, y2, by rw [hd]; rfl, by rw [hd]; exact ⟨b2, w2⟩, (kF.trans ⟨nn1, kk1⟩).trans ⟨nn2, kk2⟩⟩
        simp only [Try.f57, resF, ev_tmp, T.get_set, Nat.reduceEqDiff, if_true, if_false, evG_some, R.ok_bind]
      · have hd : putD d o th no gn = (d, no) := by
          unfold putD
          rw [if_neg (by rw [hw]; decide), if_pos hth]
        have lno : loadF tb4 E.get 40 (.pointer (some ⟨q + 1, 0, none⟩)) = .ok (.int .i64 (no : Int)) := load_vals und40' rfl (vals_puts (k := .var 1) pE.no) rfl
        have hx : ((find o.word d).isSome != th) = true := bne_iff_ne.2 hth
        apply W.run 20
        · intro M
          simp (config := { maxSteps := 4000000 }) (disch := first | decide +kernel | omega) only [c57, Try.f57, Option.getD_some, sub_seq1, sub_seq0, sub_nil, exec_region, runOps_cons, opF_move, ev_tmp, T.get_set, Nat.reduceEqDiff, T.get_e, if_false, if_true, evG_some, putT_some, opF_load, opF_neq, und4', runOps_nil, R.ok_bind, lth, bool_neq, hx]
          with_reducible rfl
        show W tb4 _ _ _
        apply W.run 20
        · intro M
          simp (config := { maxSteps := 4000000 }) (disch := first | decide +kernel | omega) only [c57, Try.f57, Option.getD_some, sub_seq1, sub_seq0, sub_nil, exec_cond, ev_tmp, T.get_set, Nat.reduceEqDiff, T.get_e, if_false, if_true, evG_some, exec_seq, exec_draw, runOps_cons, opF_move, putT_some, opF_load, opF_assign, runOps_nil, R.ok_bind, lno, exec_ret, exec_skip]
          with_reducible rfl
        refine ⟨.inr rfl, E, [x, .int .i64 (no : Int)], rfl, ?_, x, by rw [hd]; rfl, by rw [hd]; exact h.kp kE, kE⟩
        simp only [Try.f57, resF, ev_tmp, T.get_set, Nat.reduceEqDiff, if_true, if_false, evG_some, R.ok_bind]
  exact ⟨y, A', hg, he, hk⟩
end Go.Proofs.Ytnelkapmmgggdaa.mdl

/-
  Model: one update of some.
-/
namespace Go.Proofs.Ytnelkapmmgggdaa.mdl
open Go.Am Go.Mdl
set_option linter.unusedSimpArgs false
set_option linter.unusedVariables false
set_option linter.unusedVariables false

/-- What an update makes, and its error. -/
def stepP (d : List EntD) (o : OpV) : List EntD × Nat :=
  if o.kind = 0 then putD d o false 8 false else if o.kind = 1 then putD d o true 9 true else if o.kind = 2 then putD d o true 9 false else (d, 2)
abbrev OpS (A : Mem) (b : Nat) (l : List OpV) (x : Value) : Prop := SlcM A 38 5 b (l.map opC) x
theorem und70 : tb4.und 70 = some (.slice 38) := by kernel_rfl
def nilFn : Value := .nilFunc
theorem und74z : ∃ vt, tb4.und 74 = some (.map 3 vt) ∧ zeroF tb4 vt = .ok nilFn := by
  have h : (match tb4.und 74 with | some (.map k v) => Nat.beq k 3 && (match zeroF tb4 v with | .ok .nilFunc => true | _ => false) | _ => false) = true := by kernel_rfl
  cases hq : tb4.und 74 with
  | none => rw [hq] at h; cases h
  | some d =>
    rw [hq] at h
    cases d with
    | map k v =>
      simp only [Bool.and_eq_true] at h
      refine ⟨v, by rw [Nat.eq_of_beq_eq_true h.1], ?_⟩
      have h2 := h.2
      split at h2
      · rename_i e; exact e
      · cases h2
    | _ => cases h
theorem look74 {A : Mem} {q : Nat} {o : OpV} {d : List EntD} (h : UpdsV A q) :
    (∃ p th no gn, lookupF tb4 A.get 74 (.map (some q)) (.int .i64 o.kind) true = .ok (.tuple ⟨[putF p, .bool true]⟩) ∧ PutV A p th no gn ∧ stepP d o = putD d o th no gn) ∨
    (lookupF tb4 A.get 74 (.map (some q)) (.int .i64 o.kind) true = .ok (.tuple ⟨[nilFn, .bool false]⟩) ∧ stepP d o = (d, 2)) := by
  obtain ⟨vt, hu, hz⟩ := und74z
  have hk : keyOk tb4 3 (.int .i64 o.kind) = true := by unfold keyOk; rw [und3']
  have he : entriesF A.get (.map (some q)) = .ok (updE q) := by unfold entriesF; simp only [h.m]
  have hl : lookupF tb4 A.get 74 (.map (some q)) (.int .i64 o.kind) true = match findF (.int .i64 o.kind) (updE q) 0 with
      | some (some (_, v)) => .ok (.tuple ⟨[v, .bool true]⟩)
      | some none => .ok (.tuple ⟨[nilFn, .bool false]⟩)
      | none => .no 80 := by
    unfold lookupF
    simp only [hu, hk, cond_true, he, R.ok_bind, hz]
    cases findF (.int .i64 o.kind) (updE q) 0 with
    | none => rfl
    | some y => cases y with
      | none => rfl
      | some z => rfl
  have kq : ∀ a b : Int, keyEq (.int .i64 a) (.int .i64 b) = some (decide (a = b)) := fun a b => by
    show (bif kindEq .i64 .i64 then some (ieqF a b) else none) = _
    rw [ieqF_eq]; rfl
  have fc : ∀ (a : Int) (e : MapEntry) (es : List MapEntry) (i : Nat) (b : Int), e.key = .int .i64 b → findF (.int .i64 a) (e :: es) i = if a = b then some (some (i, e.val)) else findF (.int .i64 a) es (i + 1) := fun a e es i b hb => by
    show (match keyEq (.int .i64 a) e.key with | some true => some (some (i, e.val)) | some false => findF (.int .i64 a) es (Nat.succ i) | none => none) = _
    rw [hb, kq]
    by_cases hab : a = b <;> simp [hab]
  rw [hl]
  unfold stepP updE
  by_cases h0 : o.kind = 0
  · left
    refine ⟨q + 1, _, _, _, ?_, h.add, by rw [if_pos h0]⟩
    rw [fc _ _ _ _ 0 rfl, if_pos h0]
  · by_cases h1 : o.kind = 1
    · left
      refine ⟨q + 4, _, _, _, ?_, h.rem, by rw [if_neg h0, if_pos h1]⟩
      rw [fc _ _ _ _ 0 rfl, if_neg h0, fc _ _ _ _ 1 rfl, if_pos h1]
    · by_cases h2 : o.kind = 2
      · left
        refine ⟨q + 7, _, _, _, ?_, h.rew, by rw [if_neg h0, if_neg h1, if_pos h2]⟩
        rw [fc _ _ _ _ 0 rfl, if_neg h0, fc _ _ _ _ 1 rfl, if_neg h1, fc _ _ _ _ 2 rfl, if_pos h2]
      · right
        refine ⟨?_, by rw [if_neg h0, if_neg h1, if_neg h2]⟩
        rw [fc _ _ _ _ 0 rfl, if_neg h0, fc _ _ _ _ 1 rfl, if_neg h1, fc _ _ _ _ 2 rfl, if_neg h2]
        rfl
theorem und3a : ∃ d, tb4.und 3 = some d ∧ isAggD d = false := ⟨_, und3', rfl⟩
theorem selfI (n : Int) : sameV 100 (.int .i64 n) (.int .i64 n) = true := by
  have : ieqF n n = true := by rw [ieqF_iff]; simp
  simp [sameV, kindEq, this]
noncomputable def c11 : Code := Try.f11.body.getD .skip
noncomputable def c11b1 : Code := sub c11 [1,1,0,1,0,0]
theorem c11_eq : Try.f11.body = some (.seq (sub c11 [0]) (.seq (sub c11 [1,0]) (.seq (.seq (sub c11 [1,1,0,0]) (.block 0 (.loop c11b1))) (.seq (sub c11 [1,1,1,0]) (sub c11 [1,1,1,1]))))) := by kernel_rfl
theorem c11b1_eq : c11b1 = .seq (sub c11b1 [0]) (.seq (sub c11b1 [1,0]) (.seq (.block 1 (.seq (sub c11b1 [1,1,0,0,0]) (.seq (sub c11b1 [1,1,0,0,1,0]) (.seq (.seq (sub c11b1 [1,1,0,0,1,1,0,0]) (.seq (sub c11b1 [1,1,0,0,1,1,0,1,0]) (.cond (.tmp 25) (sub c11b1 [1,1,0,0,1,1,0,1,1,0]) .skip))) (sub c11b1 [1,1,0,0,1,1,1]))))) (sub c11b1 [1,1,1]))) := by kernel_rfl
def upS (x xo : Value) (f n k : Nat) : List (Nat × Value) := [(4, x), (5, .int .i64 (f : Int)), (12, xo), (13, .int .i64 (n : Int)), (14, .int .i64 (k : Int))]
set_option maxHeartbeats 8000000 in
set_option maxRecDepth 20000 in
theorem upd_round {C : Mem} {d : List EntD} {l : List OpV} {o : OpV} {x xo : Value} {bo f n k : Nat} {t : T Value} {K : Ex → St → Prop} (h : EntE C d x) (ha : Asc d) (hl : d.length < 999999) (ho : OpS C bo l xo) (hk : l[k]? = some o) (ht : Sl t (upS x xo f n k))
    (hK : ∀ t' C' x', EntE C' (stepP d o).1 x' → Kp C C' → Sl t' (upS x' xo (if f = 0 then (stepP d o).2 else f) n k) → K .nrm ⟨t', 39, [], C', none⟩) :
    W tb4 (.seq (sub c11b1 [1,1,0,0,0]) (.seq (sub c11b1 [1,1,0,0,1,0]) (.seq (.seq (sub c11b1 [1,1,0,0,1,1,0,0]) (.seq (sub c11b1 [1,1,0,0,1,1,0,1,0]) (.cond (.tmp 25) (sub c11b1 [1,1,0,0,1,1,0,1,1,0]) .skip))) (sub c11b1 [1,1,0,0,1,1,1])))) ⟨t, 39, [], C, none⟩ K := by
  obtain ⟨g4, g5, g12, g13, g14, -⟩ := ht
  obtain ⟨d38, hf1, hf2⟩ := und38
  have hkl : k < l.length := (List.getElem?_eq_some_iff.1 hk).1
  have hidx : indexAddrF tb4 70 xo (.int .i64 ((k : Nat) : Int)) = .ok (.pointer (some ⟨bo, k * 5, none⟩)) := ho.idx und70 size38 (by rw [List.length_map]; exact hkl)
  have hld : loadF tb4 C.get 38 (.pointer (some ⟨bo, k * 5, none⟩)) = .ok (.agg ⟨opC o⟩) := ho.load_all hf1 hf2 size38 (by rw [List.getElem?_map, hk]; rfl)
  have z2 : Vals (C.alloc (rowOb 38 opZ)) 38 C.next (.var 5) opZ := vals_puts (get_alloc_self _ _)
  obtain ⟨C1, s1, v1, n1, k1⟩ := store_all (tb := tb4) (t := 38) (l := opZ) (l' := opC o) size38 z2 rfl (by simp [opZ]) (opC_one _)
  rw [next_alloc] at n1
  have kC1 : Kp C C1 := ⟨by omega, fun z hz => by rw [k1 z (by omega), get_alloc_ne (by omega)]⟩
  apply W.seq
  apply W.run 20
  · intro M
    simp (config := { maxSteps := 4000000 }) (disch := first | decide +kernel | omega) only [c11b1, c11, Try.f11, Option.getD_some, sub_seq1, sub_seq0, sub_block, sub_loop, sub_nil, exec_region, runOps_cons, opF_indexAddr, ev_tmp, g12, evG_some, g14, putT_some, opF_load, T.get_set, if_true, opF_alloc, z38, at_ptr, opF_store, Nat.reduceEqDiff, if_false, putT_none, runOps_nil, R.ok_bind, cells_agg, hidx, hld, s1]
    with_reducible rfl
  show W tb4 _ _ _
  apply W.seq
  apply W.run 20
  · intro M
    simp (config := { maxSteps := 4000000 }) (disch := first | decide +kernel | omega) only [c11b1, c11, Try.f11, Option.getD_some, sub_seq1, sub_seq0, sub_block, sub_loop, sub_nil, exec_region, runOps_cons, opF_assign, ev_int, putT_some, runOps_nil, R.ok_bind]
    with_reducible rfl
  show W tb4 _ _ _
  obtain ⟨C2, ⟨g1, hg1⟩, hU, kC2⟩ := run_updates (A := C1)
  have v2 : Vals C2 38 C.next (.var 5) (opC o) := v1.same (kC2.2 _ (by omega))
  have lk1 : loadF tb4 C1.get 3 (.pointer (some ⟨C.next, 0, none⟩)) = .ok (.int .i64 o.kind) := load_vals und3' rfl v1 rfl
  have lk2 : loadF tb4 C2.get 3 (.pointer (some ⟨C.next, 0, none⟩)) = .ok (.int .i64 o.kind) := load_vals und3' rfl v2 rfl
  have hself := selfI o.kind
  have la : loadF tb4 C2.get 38 (.pointer (some ⟨C.next, 0, none⟩)) = .ok (.agg ⟨opC o⟩) := load_all hf1 hf2 size38 v2
  have hE2 := h.kp (kC1.trans kC2)
  apply W.seq
  apply W.seq
  rcases look74 (o := o) (d := d) hU with ⟨p, th, no, gn, hlk, hP, hst⟩ | ⟨hlk, hst⟩
  · apply W.runG (g1) 20
    · intro M hM
      simp (config := { maxSteps := 4000000 }) (disch := first | decide +kernel | omega) only [c11b1, c11, Try.f11, Option.getD_some, sub_seq1, sub_seq0, sub_block, sub_loop, sub_nil, exec_float [(2, 0)], runD_L, selF_nil, List.map_nil, hide_nil, backF_nil, selR_nil, rereadR_nil, Nat.reduceAdd, runD_P, opF_fieldAddr, ev_tmp, cond_true, R.ok_bind, opF_call, evs, resK, putT_some, T.get_set, Nat.reduceEqDiff, if_false, if_true, evG_some, runD_Rd, rOp_load, selF_yes, rereadM_cons, reread_load, rereadM_nil, Bool.and_true, rOp_lookup, selF_no, opF_move, opF_extract, extractF, opF_assign, runD_end, f38_0, lk1, rereadV_eq, hg1, lk2, hself, hlk, List.getElem?_cons_zero, List.getElem?_cons_succ]
      with_reducible rfl
    show W tb4 _ _ _
    apply W.seq
    apply W.run 20
    · intro M
      simp (config := { maxSteps := 4000000 }) (disch := first | decide +kernel | omega) only [c11b1, c11, Try.f11, Option.getD_some, sub_seq1, sub_seq0, sub_block, sub_loop, sub_nil, exec_region, runOps_cons, opF_move, ev_tmp, T.get_set, Nat.reduceEqDiff, if_false, if_true, evG_some, putT_some, runOps_nil, R.ok_bind]
      with_reducible rfl
    show W tb4 _ _ _
    refine W.cond (p := true) ?_ (fun _ => ?_) (fun h => by cases h)
    · simp only [ev_tmp, T.get_set, Nat.reduceEqDiff, if_true, if_false, evG_some]
    obtain ⟨y, C3, ⟨g2, hg2⟩, hy, kC3⟩ := run_put1 (o := o) hE2 ha hl hP
    have hpf : putF p = .func (.func 57) ⟨[]⟩ ⟨[.pointer (some ⟨p, 0, none⟩), .pointer (some ⟨p + 1, 0, none⟩), .pointer (some ⟨p + 2, 0, none⟩)]⟩ := rfl
    rw [← hst] at hg2 hy
    apply W.runG (g2) 20
    · intro M hM
      simp (config := { maxSteps := 4000000 }) (disch := first | decide +kernel | omega) only [c11b1, c11, Try.f11, Option.getD_some, sub_seq1, sub_seq0, sub_block, sub_loop, sub_nil, sub_cond0, hpf, exec_region, runOps_cons, opF_move, ev_tmp, T.get_set, Nat.reduceEqDiff, if_false, if_true, evG_some, putT_some, g4, opF_load, opF_callv, evs, R.ok_bind, resK, opF_extract, extractF, opF_assign, runOps_nil, la, callV_func, List.nil_append, List.cons_append, hg2, List.getElem?_cons_zero, List.getElem?_cons_succ]
      with_reducible rfl
    show W tb4 _ _ _
    by_cases hf : f = 0
    · subst hf
      apply W.run 20
      · intro M
        simp (config := { maxSteps := 4000000 }) (disch := first | decide +kernel | omega) only [c11b1, c11, Try.f11, Option.getD_some, sub_seq1, sub_seq0, sub_block, sub_loop, sub_nil, exec_seq, exec_region, runOps_cons, opF_move, ev_tmp, T.get_set, Nat.reduceEqDiff, g5, if_false, evG_some, putT_some, opF_eql, if_true, ev_int, runOps_nil, R.ok_bind, binF_int, op_eql, decide_true, exec_cond, exec_skip, opF_assign]
        with_reducible rfl
      refine hK _ C3 y hy ((kC1.trans kC2).trans kC3) ?_
      rw [if_pos rfl]
      unfold upS; simp only [Sl_cons, Sl_nil, T.get_set, T.puts_cons, T.puts_nil, Nat.reduceEqDiff, Nat.reduceAdd, if_true, if_false, and_true, true_and, g12, g13, g14]
    · apply W.run 20
      · intro M
        simp (config := { maxSteps := 4000000 }) (disch := first | decide +kernel | omega) only [c11b1, c11, Try.f11, Option.getD_some, sub_seq1, sub_seq0, sub_block, sub_loop, sub_nil, exec_seq, exec_region, runOps_cons, opF_move, ev_tmp, T.get_set, Nat.reduceEqDiff, g5, if_false, evG_some, putT_some, opF_eql, if_true, ev_int, runOps_nil, R.ok_bind, binF_int, op_eql, hf, decide_false, exec_cond, exec_skip, opF_assign]
        with_reducible rfl
      refine hK _ C3 y hy ((kC1.trans kC2).trans kC3) ?_
      rw [if_neg hf]
      unfold upS; simp only [Sl_cons, Sl_nil, T.get_set, T.puts_cons, T.puts_nil, Nat.reduceEqDiff, Nat.reduceAdd, if_true, if_false, and_true, true_and, g5, g12, g13, g14]
  · apply W.runG (g1) 20
    · intro M hM
      simp (config := { maxSteps := 4000000 }) (disch := first | decide +kernel | omega) only [c11b1, c11, Try.f11, Option.getD_some, sub_seq1, sub_seq0, sub_block, sub_loop, sub_nil, exec_float [(2, 0)], runD_L, selF_nil, List.map_nil, hide_nil, backF_nil, selR_nil, rereadR_nil, Nat.reduceAdd, runD_P, opF_fieldAddr, ev_tmp, cond_true, R.ok_bind, opF_call, evs, resK, putT_some, T.get_set, Nat.reduceEqDiff, if_false, if_true, evG_some, runD_Rd, rOp_load, selF_yes, rereadM_cons, reread_load, rereadM_nil, Bool.and_true, rOp_lookup, selF_no, opF_move, opF_extract, extractF, opF_assign, runD_end, f38_0, lk1, rereadV_eq, hg1, lk2, hself, hlk, List.getElem?_cons_zero, List.getElem?_cons_succ]
      with_reducible rfl
    show W tb4 _ _ _
    apply W.seq
    apply W.run 20
    · intro M
      simp (config := { maxSteps := 4000000 }) (disch := first | decide +kernel | omega) only [c11b1, c11, Try.f11, Option.getD_some, sub_seq1, sub_seq0, sub_block, sub_loop, sub_nil, exec_region, runOps_cons, opF_move, ev_tmp, T.get_set, Nat.reduceEqDiff, if_false, if_true, evG_some, putT_some, runOps_nil, R.ok_bind]
      with_reducible rfl
    show W tb4 _ _ _
    refine W.cond (p := false) ?_ (fun h => by cases h) (fun _ => ?_)
    · simp only [ev_tmp, T.get_set, Nat.reduceEqDiff, if_true, if_false, evG_some]
    rw [hst] at hK
    apply W.run 20
    · intro M
      simp (config := { maxSteps := 4000000 }) (disch := first | decide +kernel | omega) only [exec_skip]
      with_reducible rfl
    show W tb4 _ _ _
    by_cases hf : f = 0
    · subst hf
      apply W.run 20
      · intro M
        simp (config := { maxSteps := 4000000 }) (disch := first | decide +kernel | omega) only [c11b1, c11, Try.f11, Option.getD_some, sub_seq1, sub_seq0, sub_block, sub_loop, sub_nil, exec_seq, exec_region, runOps_cons, opF_move, ev_tmp, T.get_set, Nat.reduceEqDiff, g5, if_false, evG_some, putT_some, opF_eql, if_true, ev_int, runOps_nil, R.ok_bind, binF_int, op_eql, decide_true, exec_cond, exec_skip, opF_assign]
        with_reducible rfl
      refine hK _ C2 x hE2 (kC1.trans kC2) ?_
      rw [if_pos rfl]
      unfold upS; simp only [Sl_cons, Sl_nil, T.get_set, T.puts_cons, T.puts_nil, Nat.reduceEqDiff, Nat.reduceAdd, if_true, if_false, and_true, true_and, g4, g12, g13, g14]
    · apply W.run 20
      · intro M
        simp (config := { maxSteps := 4000000 }) (disch := first | decide +kernel | omega) only [c11b1, c11, Try.f11, Option.getD_some, sub_seq1, sub_seq0, sub_block, sub_loop, sub_nil, exec_seq, exec_region, runOps_cons, opF_move, ev_tmp, T.get_set, Nat.reduceEqDiff, g5, if_false, evG_some, putT_some, opF_eql, if_true, ev_int, runOps_nil, R.ok_bind, binF_int, op_eql, hf, decide_false, exec_cond, exec_skip, opF_assign]
        with_reducible rfl
      refine hK _ C2 x hE2 (kC1.trans kC2) ?_
      rw [if_neg hf]
      unfold upS; simp only [Sl_cons, Sl_nil, T.get_set, T.puts_cons, T.puts_nil, Nat.reduceEqDiff, Nat.reduceAdd, if_true, if_false, and_true, true_and, g4, g5, g12, g13, g14]
end Go.Proofs.Ytnelkapmmgggdaa.mdl

/-
  Model: updates of a list.
-/
namespace Go.Proofs.Ytnelkapmmgggdaa.mdl
open Go.Am Go.Mdl
set_option linter.unusedSimpArgs false
set_option linter.unusedVariables false
set_option linter.unusedVariables false

/-- What updates make of a list, and the first error. -/
def runU : List OpV → List EntD × Nat → List EntD × Nat
  | [], s => s
  | o :: l, (d, f) => runU l ((stepP d o).1, if f = 0 then (stepP d o).2 else f)
theorem putD_asc {d : List EntD} {o : OpV} {th gn : Bool} {no : Nat} (h : Asc d) : Asc (putD d o th no gn).1 ∧ (putD d o th no gn).1.length ≤ d.length + 1 := by
  unfold putD
  split
  · exact ⟨h, Nat.le_succ _⟩
  · split
    · exact ⟨h, Nat.le_succ _⟩
    · refine ⟨live_asc (withL_asc h), ?_⟩
      have h1 := withL_len (own := d) (more := [⟨o.word, o.weight, gn⟩]) h
      have h2 := live_le (withL d [⟨o.word, o.weight, gn⟩])
      simp only [List.length_cons, List.length_nil] at h1
      show (Go.Mdl.live _).length ≤ _
      omega
theorem stepP_asc {d : List EntD} {o : OpV} (h : Asc d) : Asc (stepP d o).1 ∧ (stepP d o).1.length ≤ d.length + 1 := by
  unfold stepP
  split
  · exact putD_asc h
  · split
    · exact putD_asc h
    · split
      · exact putD_asc h
      · exact ⟨h, Nat.le_succ _⟩
theorem OpS.len {A : Mem} {b : Nat} {l : List OpV} {x : Value} (h : OpS A b l x) : builtinPF tb4 .len [70] [x] = .ok (.int .i64 ((l.length : Nat) : Int)) := by
  have := SlcM.len (tb := tb4) h und70
  rwa [List.length_map] at this
theorem OpS.kp {A A' : Mem} {b : Nat} {l : List OpV} {x : Value} (h : OpS A b l x) (k : Kp A A') : OpS A' b l x := SlcM.same h k.1 (fun h => k.2 _ h)
set_option maxHeartbeats 8000000 in
set_option maxRecDepth 20000 in
theorem run_update {A : Mem} {d : List EntD} {l : List OpV} {x xo : Value} {bo : Nat} (h : EntE A d x) (ha : Asc d) (ho : OpS A bo l xo) (hl : d.length + l.length < 900000) :
    ∃ y A', Ans tb4 11 [x, xo] A (.tuple ⟨[y, .int .i64 (((runU l (d, 0)).2 : Nat) : Int)]⟩) A' ∧ EntE A' (runU l (d, 0)).1 y ∧ Kp A A' := by
  obtain ⟨v, A', hg, y, rfl, he, hk⟩ : ∃ v A', Ans tb4 11 [x, xo] A v A' ∧ ∃ y, v = .tuple ⟨[y, .int .i64 (((runU l (d, 0)).2 : Nat) : Int)]⟩ ∧ EntE A' (runU l (d, 0)).1 y ∧ Kp A A' := by
    refine ans_of_W (fn_at Try.func11) c11_eq (by rw [Try.ntmps11]; simp) (by kernel_rfl) (by kernel_rfl) ?_
    have hlen := ho.len
    apply W.seq
    apply W.run 20
    · intro M
      simp (config := { maxSteps := 4000000 }) (disch := first | decide +kernel | omega) only [c11, Try.f11, Option.getD_some, sub_seq0, sub_nil, T.puts_cons, Nat.reduceAdd, T.puts_nil, exec_region, runOps_cons, opF_assign, ev_nilslice, putT_some, ev_int, runOps_nil, R.ok_bind]
      with_reducible rfl
    show W tb4 _ _ _
    apply W.seq
    apply W.run 20
    · intro M
      simp (config := { maxSteps := 4000000 }) (disch := first | decide +kernel | omega) only [c11, Try.f11, Option.getD_some, sub_seq1, sub_seq0, sub_nil, exec_region, runOps_cons, opF_move, ev_tmp, T.get_set, Nat.reduceEqDiff, T.get_e, if_true, if_false, evG_some, putT_some, opF_assign, runOps_nil, R.ok_bind]
      with_reducible rfl
    show W tb4 _ _ _
    apply W.seq
    apply W.seq
    apply W.run 20
    · intro M
      simp (config := { maxSteps := 4000000 }) (disch := first | decide +kernel | omega) only [c11, Try.f11, Option.getD_some, sub_seq1, sub_seq0, sub_nil, exec_region, runOps_cons, opF_move, ev_tmp, T.get_set, Nat.reduceEqDiff, T.get_e, if_false, if_true, evG_some, putT_some, opF_len, evs, R.ok_bind, ev_int, runOps_nil, hlen]
      with_reducible rfl
    show W tb4 _ _ _
    apply W.block
    refine W.up l.length (fun k t C => ∃ d' f x', runU (l.drop k) (d', f) = runU l (d, 0) ∧ Asc d' ∧ d'.length ≤ d.length + k ∧ EntE C d' x' ∧ Kp A C ∧ Sl t (upS x' xo f l.length k)) ?_ (Nat.zero_le _) ⟨d, 0, x, rfl, ha, Nat.le_refl _, h, Kp.refl _, ?_⟩
    · rintro k t C hk ⟨d', f, x', heq, has, hle, hE, hK, g4, g5, g12, g13, g14, -⟩
      rw [c11b1_eq]
      apply W.seq
      by_cases hlt : k < l.length
      · have hek : l[k]? = some l[k] := List.getElem?_eq_getElem hlt
        apply W.run 20
        · intro M
          simp (config := { maxSteps := 4000000 }) (disch := first | decide +kernel | omega) only [c11b1, c11, Try.f11, Option.getD_some, sub_seq1, sub_seq0, sub_block, sub_loop, sub_nil, exec_region, runOps_cons, opF_ari, ev_tmp, g14, evG_some, g13, putT_some, runOps_nil, R.ok_bind, binF_int, op_lssI, cast_lt, hlt, decide_true]
          with_reducible rfl
        show W tb4 _ _ _
        apply W.seq
        apply W.run 20
        · intro M
          simp (config := { maxSteps := 4000000 }) (disch := first | decide +kernel | omega) only [c11b1, c11, Try.f11, Option.getD_some, sub_seq1, sub_seq0, sub_block, sub_loop, sub_nil, exec_cond, ev_tmp, T.get_set, if_true, evG_some, exec_skip, exec_exit, R.ok_bind]
          with_reducible rfl
        show W tb4 _ _ _
        apply W.seq
        apply W.block
        refine upd_round (xo := xo) (f := f) (n := l.length) hE has (by omega) (ho.kp hK) hek (by unfold upS; simp only [Sl_cons, Sl_nil, T.get_set, T.puts_cons, T.puts_nil, Nat.reduceEqDiff, Nat.reduceAdd, if_true, if_false, and_true, true_and, g4, g5, g12, g13, g14]) fun t' C' y' hy kC st => ?_
        obtain ⟨f4, f5, f12, f13, f14, -⟩ := st
        show W tb4 _ _ _
        apply W.run 20
        · intro M
          simp (config := { maxSteps := 4000000 }) (disch := first | decide +kernel | omega) only [c11b1, c11, Try.f11, Option.getD_some, sub_seq1, sub_seq0, sub_block, sub_loop, sub_nil, exec_region, runOps_cons, opF_ari, ev_tmp, f14, evG_some, ev_int, putT_some, opF_move, T.get_set, if_true, runOps_nil, R.ok_bind, binF_int, op_add_i64]
          with_reducible rfl
        refine ⟨hlt, _, _, rfl, (stepP d' l[k]).1, (if f = 0 then (stepP d' l[k]).2 else f), y', ?_, (stepP_asc has).1, ?_, hy, hK.trans kC, ?_⟩
        · rw [← heq, List.drop_eq_getElem_cons hlt]; rfl
        · have := (stepP_asc (o := l[k]) has).2; omega
        · unfold upS; simp only [Sl_cons, Sl_nil, T.get_set, T.puts_cons, T.puts_nil, Nat.reduceEqDiff, Nat.reduceAdd, if_true, if_false, and_true, true_and, f4, f5, f12, f13]
      · have hkl : k = l.length := by omega
        rw [hkl, List.drop_length] at heq
        have heq' : runU l (d, 0) = (d', f) := heq.symm
        apply W.run 20
        · intro M
          simp (config := { maxSteps := 4000000 }) (disch := first | decide +kernel | omega) only [c11b1, c11, Try.f11, Option.getD_some, sub_seq1, sub_seq0, sub_block, sub_loop, sub_nil, exec_region, runOps_cons, opF_ari, ev_tmp, g14, evG_some, g13, putT_some, runOps_nil, R.ok_bind, binF_int, op_lssI, cast_lt, hlt, decide_false]
          with_reducible rfl
        show W tb4 _ _ _
        apply W.seq
        apply W.run 20
        · intro M
          simp (config := { maxSteps := 4000000 }) (disch := first | decide +kernel | omega) only [c11b1, c11, Try.f11, Option.getD_some, sub_seq1, sub_seq0, sub_block, sub_loop, sub_nil, exec_cond, ev_tmp, T.get_set, if_true, evG_some, exec_skip, exec_exit, R.ok_bind]
          with_reducible rfl
        show W tb4 _ _ _
        apply W.seq
        apply W.run 20
        · intro M
          simp (config := { maxSteps := 4000000 }) (disch := first | decide +kernel | omega) only [c11, Try.f11, Option.getD_some, sub_seq1, sub_seq0, sub_nil, exec_region, runOps_cons, opF_move, ev_tmp, T.get_set, Nat.reduceEqDiff, g4, if_false, evG_some, putT_some, g5, opF_assign, if_true, runOps_nil, R.ok_bind]
          with_reducible rfl
        show W tb4 _ _ _
        apply W.run 20
        · intro M
          simp (config := { maxSteps := 4000000 }) (disch := first | decide +kernel | omega) only [c11, Try.f11, Option.getD_some, sub_seq1, sub_nil, exec_ret]
          with_reducible rfl
        refine ⟨.inr rfl, C, [x', .int .i64 (f : Int)], rfl, ?_, x', by rw [heq']; rfl, by rw [heq']; exact hE, hK⟩
        simp only [Try.f11, resF, ev_tmp, T.get_set, Nat.reduceEqDiff, if_true, if_false, evG_some, R.ok_bind]
    · unfold upS; simp only [Sl_cons, Sl_nil, T.get_set, T.puts_cons, T.puts_nil, Nat.reduceEqDiff, Nat.reduceAdd, if_true, if_false, and_true, true_and]
  exact ⟨y, A', hg, he, hk⟩
/-- One operation, two, in memory. -/
theorem ops_one {A : Mem} {o : OpV} : OpS (A.alloc (rowOb 38 (opC o))) A.next [o] (.slice (some ⟨A.next, 0, none⟩) 1 2) :=
  .inr ⟨.var 5, 2, rfl, by rw [next_alloc]; omega, vals_puts (get_alloc_self _ _), fun l hl => (by
    simp only [List.map_cons, List.map_nil, List.mem_singleton] at hl
    rw [hl]; rfl), .inl rfl⟩
theorem ops_two {A : Mem} {a b : OpV} : OpS (A.alloc (rowOb 38 (opC a ++ opC b))) A.next [a, b] (.slice (some ⟨A.next, 0, none⟩) 2 4) :=
  .inr ⟨.var 10, 4, rfl, by rw [next_alloc]; omega, vals_puts (get_alloc_self _ _), fun l hl => (by
    simp only [List.map_cons, List.map_nil, List.mem_cons, List.not_mem_nil, or_false] at hl
    rcases hl with rfl | rfl <;> rfl), .inl rfl⟩
theorem bs70 {o : OpV} : buildSliceF tb4 70 1 [(0, .agg ⟨opC o⟩)] = .ok (rowOb 38 (opC o), .slc 1 2) := by kernel_rfl
theorem bs70b {a b : OpV} : buildSliceF tb4 70 2 [(0, .agg ⟨opC a⟩), (1, .agg ⟨opC b⟩)] = .ok (rowOb 38 (opC a ++ opC b), .slc 2 4) := by kernel_rfl

/-! ### Said as the law says it -/
def toD (o : OpV) : OpD := ⟨o.kind.toNat, o.word, o.weight⟩
theorem stepP_eq {d : List EntD} {o : OpV} (h : o.kind = 0 ∨ o.kind = 1 ∨ o.kind = 2) : stepP d o = (upd d (toD o), err d (toD o)) := by
  have hn : norm ⟨o.word, o.weight, true⟩ = ⟨o.word, 0, true⟩ := by unfold norm; rw [if_pos rfl]
  have hn' : norm ⟨o.word, o.weight, false⟩ = ⟨o.word, o.weight, false⟩ := by unfold norm; rw [if_neg (fun h => Bool.noConfusion h)]
  have hw : ∀ g, withL d [⟨o.word, o.weight, g⟩] = one (norm ⟨o.word, o.weight, g⟩) d := fun g => rfl
  unfold stepP putD upd err ent toD
  rcases h with h | h | h <;> rw [h] <;> cases hk : okW o.word <;> cases hf : (find o.word d).isSome <;> simp [hn, hn', hw, hk, hf]
end Go.Proofs.Ytnelkapmmgggdaa.mdl

/-
  ModelUpdates: the law's end.
-/
namespace Go.Proofs.Ytnelkapmmgggdaa.mdl
open Go.Am Go.Mdl
set_option linter.unusedSimpArgs false
set_option linter.unusedVariables false
set_option linter.unusedVariables false

theorem k6 {ih : Code → St → R (Ex × St)} {A : Mem} : callF tb4 ih (.fn 6 []) A = .ok (.val (.bool true) A) :=
  callF_known (c := (Try.f6.body).getD .skip) (fn_at Try.func6) (by kernel_rfl) (by kernel_rfl) (h := pureHook worksK) (by kernel_rfl) rfl
/-- Some slots are enough. -/
theorem W_gen {c : Code} {t : T Value} {n : Nat} {d : List Nat} {A : Mem} {ro : Option Nat} {K : Ex → St → Prop} (l : List (Nat × Value)) (h : Sl t l) (k : ∀ t', Sl t' l → W tb4 c ⟨t', n, d, A, ro⟩ K) : W tb4 c ⟨t, n, d, A, ro⟩ K := k t h
/-- An operation's variable. -/
def VarO (C : Mem) (p : Nat) (o : OpV) : Prop := p < C.next ∧ Vals C 38 p (.var 5) (opC o)
theorem VarO.kp {A A' : Mem} {p : Nat} {o : OpV} (h : VarO A p o) (k : Kp A A') : VarO A' p o := ⟨Nat.lt_of_lt_of_le h.1 k.1, h.2.same (k.2 _ h.1)⟩
theorem VarO.all {C : Mem} {p : Nat} {o : OpV} (h : VarO C p o) : loadF tb4 C.get 38 (.pointer (some ⟨p, 0, none⟩)) = .ok (.agg ⟨opC o⟩) := by
  obtain ⟨d38, hf1, hf2⟩ := und38
  exact load_all hf1 hf2 size38 h.2
theorem VarO.kind {C : Mem} {p : Nat} {o : OpV} (h : VarO C p o) : loadF tb4 C.get 3 (.pointer (some ⟨p, 0, none⟩)) = .ok (.int .i64 o.kind) := load_vals und3' rfl h.2 rfl
theorem VarO.word {C : Mem} {p : Nat} {o : OpV} (h : VarO C p o) : loadF tb4 C.get 9 (.pointer (some ⟨p, 1, none⟩)) = .ok (strOf o.word) := load_vals und9' rfl h.2 rfl
theorem VarO.weight {C : Mem} {p : Nat} {o : OpV} (h : VarO C p o) : loadF tb4 C.get 24 (.pointer (some ⟨p, 2, none⟩)) = .ok (.int .u32 (o.weight : Int)) := load_vals und24' rfl h.2 rfl
/-- A new variable. -/
theorem VarO.new (C : Mem) (o : OpV) : ∃ C', storeF tb4 (C.alloc (rowOb 38 opZ)) 38 (.pointer (some ⟨C.next, 0, none⟩)) (.agg ⟨opC o⟩) = .ok C' ∧ VarO C' C.next o ∧ C'.next = C.next + 1 ∧ Kp C C' := by
  have z2 : Vals (C.alloc (rowOb 38 opZ)) 38 C.next (.var 5) opZ := vals_puts (get_alloc_self _ _)
  obtain ⟨C1, s1, v1, n1, k1⟩ := store_all (tb := tb4) (t := 38) (l := opZ) (l' := opC o) size38 z2 rfl (by simp [opZ]) (opC_one _)
  rw [next_alloc] at n1
  exact ⟨C1, s1, ⟨by omega, v1⟩, n1, ⟨by omega, fun z hz => by rw [k1 z (by omega), get_alloc_ne (by omega)]⟩⟩
noncomputable def c3 : Code := Try.f3.body.getD .skip
theorem c3_17 : sub c3 [1,1,1,1,1,1,1,1,1,1,1,1,1,1,1,1,1] = .seq (sub c3 [1,1,1,1,1,1,1,1,1,1,1,1,1,1,1,1,1,0]) (.seq (sub c3 [1,1,1,1,1,1,1,1,1,1,1,1,1,1,1,1,1,1,0]) (.seq (sub c3 [1,1,1,1,1,1,1,1,1,1,1,1,1,1,1,1,1,1,1,0]) (.seq (sub c3 [1,1,1,1,1,1,1,1,1,1,1,1,1,1,1,1,1,1,1,1,0]) (.seq (sub c3 [1,1,1,1,1,1,1,1,1,1,1,1,1,1,1,1,1,1,1,1,1,0]) (.seq (sub c3 [1,1,1,1,1,1,1,1,1,1,1,1,1,1,1,1,1,1,1,1,1,1,0]) (sub c3 [1,1,1,1,1,1,1,1,1,1,1,1,1,1,1,1,1,1,1,1,1,1,1])))))) := by kernel_rfl
theorem bld38w {w : List UInt8} {n : Nat} : buildF tb4 38 [(0, .int .i64 ((0 : Nat) : Int)), (1, strOf w), (2, .int .u32 (n : Int))] = .ok (.agg ⟨opC ⟨0, w, n, 0, 0⟩⟩) := by kernel_rfl
set_option maxHeartbeats 8000000 in
set_option maxRecDepth 20000 in
/-- The last region. -/
theorem law_end {C : Mem} {d tr : List EntD} {x5 x26 : Value} {pa k : Nat} {a : OpV} {t : T Value} {K : Ex → St → Prop} {is : Bool} (h5 : EntE C d x5) (h26 : EntE C tr x26) (hd : d.length < 1000000) (htr : tr.length < 1000000) (va : VarO C pa a) (hlw : a.word.length < 9223372036854775808)
    (hno : is = false → tr = d ∧ k = if okW a.word = true then 0 else 7) (ht : Sl t [(5, x5), (6, .pointer (some ⟨pa, 0, none⟩)), (25, .bool is), (26, x26), (27, .int .i64 (k : Int))])
    (hK : ∀ t', t'.get 4 = some (.bool true) → K .ret ⟨t', 224, [], C, none⟩) :
    W tb4 (.seq (sub c3 [1,1,1,1,1,1,1,1,1,1,1,1,1,1,1,1,1,1,1,1,1,1,0]) (sub c3 [1,1,1,1,1,1,1,1,1,1,1,1,1,1,1,1,1,1,1,1,1,1,1])) ⟨t, 224, [], C, none⟩ K := by
  obtain ⟨g5, g6, g25, g26, g27, -⟩ := ht
  have fin : ∀ t', t'.get 4 = some (.bool true) → W tb4 (sub c3 [1,1,1,1,1,1,1,1,1,1,1,1,1,1,1,1,1,1,1,1,1,1,1]) ⟨t', 224, [], C, none⟩ K := fun t' h4 => by
    apply W.run 20
    · intro M
      simp (config := { maxSteps := 4000000 }) (disch := first | decide +kernel | omega) only [c3, Try.f3, Option.getD_some, sub_seq1, sub_nil, exec_ret]
      with_reducible rfl
    exact hK _ h4
  apply W.seq
  cases is with
  | true =>
    apply W.run 20
    · intro M
      simp (config := { maxSteps := 4000000 }) (disch := first | decide +kernel | (rw [wantF_guard]; simp only [wantD_some, dstAt_zero, dstAt_succ, T.get_set, T.get_e, Nat.reduceEqDiff, if_true, if_false, wantV_bool, wantV_unit, unitV, cond_true, cond_false, Bool.not_true, Bool.not_false, List.toList_toArray]) | omega) only [c3, Try.f3, Option.getD_some, sub_seq1, sub_seq0, sub_nil, exec_region, runOps_cons, opF_move, ev_tmp, g25, evG_some, putT_some, T.get_set, if_true, R.ok_bind, runOps_no, opF_pick, Nat.reduceEqDiff, if_false, pickF, ev_bool, opF_assign, runOps_nil]
      with_reducible rfl
    exact fin _ (by simp only [T.get_set, Nat.reduceEqDiff, if_true, if_false])
  | false =>
    obtain ⟨rfl, hk⟩ := hno rfl
    have lw := va.word
    have hlen := len_str (tb := tb4) und9' (l := a.word)
    obtain ⟨g, hg⟩ := run_same h26 h5 htr hd
    rw [decide_eq_true rfl] at hg
    by_cases h1 : 1 ≤ a.word.length
    · by_cases h2 : a.word.length ≤ 255
      · have hw : okW a.word = true := by unfold okW; exact decide_eq_true ⟨h1, h2⟩
        rw [if_pos hw] at hk
        subst hk
        apply W.runG (g) 20
        · intro M hM
          simp (config := { maxSteps := 4000000 }) (disch := first | decide +kernel | (rw [wantF_guard]; simp only [wantD_some, dstAt_zero, dstAt_succ, T.get_set, T.get_e, Nat.reduceEqDiff, if_true, if_false, wantV_bool, wantV_unit, unitV, cond_true, cond_false, Bool.not_true, Bool.not_false, List.toList_toArray]) | omega) only [c3, Try.f3, Option.getD_some, sub_seq1, sub_seq0, sub_nil, exec_region, runOps_cons, opF_move, ev_tmp, g25, evG_some, putT_some, T.get_set, if_true, R.ok_bind, runOps_yes, Nat.reduceEqDiff, g27, if_false, opF_eql, ev_int, opF_fieldAddr, g6, opF_load, opF_len, evs, opF_ari, f38_1, lw, hlen, binF_int, op_geq, cast_le, h1, decide_true, opF_pick, pickF, ev_bool, opF_neq, und4', op_leq, h2, op_eql, bool_neq, bne_self_eq_false, bool_eql, beq_self_eq_true, g26, g5, opF_call, resK, opF_assign, runOps_nil, hg]
          with_reducible rfl
        exact fin _ (by simp only [T.get_set, Nat.reduceEqDiff, if_true, if_false])
      · have hw : okW a.word = false := by unfold okW; exact decide_eq_false fun h => h2 h.2
        rw [if_neg (by rw [hw]; decide)] at hk
        subst hk
        apply W.runG (g) 20
        · intro M hM
          simp (config := { maxSteps := 4000000 }) (disch := first | decide +kernel | (rw [wantF_guard]; simp only [wantD_some, dstAt_zero, dstAt_succ, T.get_set, T.get_e, Nat.reduceEqDiff, if_true, if_false, wantV_bool, wantV_unit, unitV, cond_true, cond_false, Bool.not_true, Bool.not_false, List.toList_toArray]) | omega) only [c3, Try.f3, Option.getD_some, sub_seq1, sub_seq0, sub_nil, exec_region, runOps_cons, opF_move, ev_tmp, g25, evG_some, putT_some, T.get_set, if_true, R.ok_bind, runOps_yes, Nat.reduceEqDiff, g27, if_false, opF_eql, ev_int, opF_fieldAddr, g6, opF_load, opF_len, evs, opF_ari, f38_1, lw, hlen, binF_int, op_geq, cast_le, h1, decide_true, opF_pick, pickF, ev_bool, opF_neq, und4', op_leq, h2, decide_false, op_eql, bool_neq, bne_self_eq_false, bool_eql, beq_self_eq_true, g26, g5, opF_call, resK, opF_assign, runOps_nil, hg]
          with_reducible rfl
        exact fin _ (by simp only [T.get_set, Nat.reduceEqDiff, if_true, if_false])
    · have hw : okW a.word = false := by unfold okW; exact decide_eq_false fun h => h1 h.1
      rw [if_neg (by rw [hw]; decide)] at hk
      subst hk
      apply W.runG (g) 20
      · intro M hM
        simp (config := { maxSteps := 4000000 }) (disch := first | decide +kernel | (rw [wantF_guard]; simp only [wantD_some, dstAt_zero, dstAt_succ, T.get_set, T.get_e, Nat.reduceEqDiff, if_true, if_false, wantV_bool, wantV_unit, unitV, cond_true, cond_false, Bool.not_true, Bool.not_false, List.toList_toArray]) | omega) only [c3, Try.f3, Option.getD_some, sub_seq1, sub_seq0, sub_nil, exec_region, runOps_cons, opF_move, ev_tmp, g25, evG_some, putT_some, T.get_set, if_true, R.ok_bind, runOps_yes, Nat.reduceEqDiff, g27, if_false, opF_eql, ev_int, opF_fieldAddr, g6, opF_load, opF_len, evs, opF_ari, f38_1, lw, hlen, binF_int, op_geq, cast_le, h1, decide_false, runOps_no, opF_pick, pickF, ev_bool, opF_neq, und4', op_eql, bool_neq, bne_self_eq_false, bool_eql, beq_self_eq_true, g26, g5, opF_call, resK, opF_assign, runOps_nil, hg]
        with_reducible rfl
      exact fin _ (by simp only [T.get_set, Nat.reduceEqDiff, if_true, if_false])
end Go.Proofs.Ytnelkapmmgggdaa.mdl

/-
  ModelUpdates: a word that is added and removed.
-/
namespace Go.Proofs.Ytnelkapmmgggdaa.mdl
open Go.Am Go.Mdl
set_option linter.unusedSimpArgs false
set_option linter.unusedVariables false
set_option linter.unusedVariables false

def KOk (o : OpV) : Prop := o.kind = 0 ∨ o.kind = 1 ∨ o.kind = 2
theorem runU_one {d : List EntD} {a : OpV} (h : KOk a) : runU [a] (d, 0) = (upd d (toD a), err d (toD a)) := by
  show ((stepP d a).1, if (0 : Nat) = 0 then (stepP d a).2 else 0) = _
  rw [if_pos rfl, stepP_eq h]
theorem runU_two {d : List EntD} {a b : OpV} (h : KOk a) (h' : KOk b) : runU [a, b] (d, 0) = (upd (upd d (toD a)) (toD b), if err d (toD a) = 0 then err (upd d (toD a)) (toD b) else err d (toD a)) := by
  show ((stepP (stepP d a).1 b).1, if (if (0 : Nat) = 0 then (stepP d a).2 else 0) = 0 then (stepP (stepP d a).1 b).2 else (if (0 : Nat) = 0 then (stepP d a).2 else 0)) = _
  rw [if_pos rfl, stepP_eq h, stepP_eq h']
set_option maxHeartbeats 8000000 in
set_option maxRecDepth 20000 in
theorem law_17 {C : Mem} {d : List EntD} {x5 : Value} {pa : Nat} {a : OpV} {t : T Value} {K : Ex → St → Prop} (h5 : EntE C d x5) (hok : OkD d) (hd : d.length < 1000) (va : VarO C pa a) (hlw : a.word.length < 9223372036854775808)
    (ht : Sl t [(5, x5), (6, .pointer (some ⟨pa, 0, none⟩))]) (hK : ∀ t' C', t'.get 4 = some (.bool true) → K .ret ⟨t', 224, [], C', none⟩) :
    W tb4 (sub c3 [1,1,1,1,1,1,1,1,1,1,1,1,1,1,1,1,1]) ⟨t, 224, [], C, none⟩ K := by
  obtain ⟨g5, g6, -⟩ := ht
  rw [c3_17]
  have lw := va.word
  have lt := va.weight
  obtain ⟨C1, s1, v1, n1, k1⟩ := VarO.new C ⟨0, a.word, a.weight, 0, 0⟩
  apply W.seq
  apply W.run 20
  · intro M
    simp (config := { maxSteps := 4000000 }) (disch := first | decide +kernel | omega) only [c3, Try.f3, Option.getD_some, sub_seq1, sub_seq0, sub_nil, exec_region, runOps_cons, opF_fieldAddr, ev_tmp, g6, evG_some, putT_some, opF_load, T.get_set, if_true, Nat.reduceEqDiff, if_false, opF_build, evp, ev_int, R.ok_bind, opF_alloc, z38, at_ptr, opF_store, putT_none, runOps_nil, cells_agg, f38_2, lt, f38_1, lw, bld38w, s1]
    with_reducible rfl
  show W tb4 _ _ _
  refine W_gen [(5, x5), (6, .pointer (some ⟨pa, 0, none⟩)), (22, .pointer (some ⟨C.next, 0, none⟩))] (by simp only [Sl_cons, Sl_nil, T.get_set, T.puts_cons, T.puts_nil, Nat.reduceEqDiff, Nat.reduceAdd, if_true, if_false, and_true, true_and, g5, g6]) fun t ht => ?_
  clear g5 g6
  obtain ⟨g5, g6, g22, -⟩ := ht
  have l22 := v1.all
  obtain ⟨C2, s2, v2, n2, k2⟩ := VarO.new C1 ⟨0, a.word, a.weight, 0, 0⟩
  apply W.seq
  apply W.run 20
  · intro M
    simp (config := { maxSteps := 4000000 }) (disch := first | decide +kernel | omega) only [c3, Try.f3, Option.getD_some, sub_seq1, sub_seq0, sub_nil, exec_region, runOps_cons, opF_load, ev_tmp, g22, evG_some, putT_some, opF_alloc, z38, at_ptr, opF_store, T.get_set, Nat.reduceEqDiff, if_false, if_true, putT_none, runOps_nil, R.ok_bind, cells_agg, l22, s2]
    with_reducible rfl
  show W tb4 _ _ _
  refine W_gen [(5, x5), (6, .pointer (some ⟨pa, 0, none⟩)), (22, .pointer (some ⟨C.next, 0, none⟩)), (23, .pointer (some ⟨C1.next, 0, none⟩))] (by simp only [Sl_cons, Sl_nil, T.get_set, T.puts_cons, T.puts_nil, Nat.reduceEqDiff, Nat.reduceAdd, if_true, if_false, and_true, true_and, g5, g6, g22]) fun t ht => ?_
  clear g5 g6 g22
  obtain ⟨g5, g6, g22, g23, -⟩ := ht
  obtain ⟨C3, s3, v3, n3, k3⟩ := store_vals (tb := tb4) (t := 3) (o := 0) (v := .int .i64 ((1 : Nat) : Int)) size3' v2.2 (by show 0 < 5; decide) rfl rfl
  have v3' : VarO C3 C1.next ⟨1, a.word, a.weight, 0, 0⟩ := ⟨by rw [n3]; exact v2.1, v3⟩
  have kk : Kp C1 C3 := ⟨by omega, fun z hz => by rw [k3 z (by omega), k2.2 z hz]⟩
  have w3 := v1.kp kk
  have va3 := (va.kp k1).kp kk
  have h53 := (h5.kp k1).kp kk
  apply W.seq
  apply W.run 20
  · intro M
    simp (config := { maxSteps := 4000000 }) (disch := first | decide +kernel | omega) only [c3, Try.f3, Option.getD_some, sub_seq1, sub_seq0, sub_nil, exec_region, runOps_cons, opF_fieldAddr, ev_tmp, g23, evG_some, putT_some, opF_store, T.get_set, if_true, ev_int, putT_none, runOps_nil, R.ok_bind, f38_0, s3]
    with_reducible rfl
  show W tb4 _ _ _
  refine W_gen [(5, x5), (6, .pointer (some ⟨pa, 0, none⟩)), (22, .pointer (some ⟨C.next, 0, none⟩)), (23, .pointer (some ⟨C1.next, 0, none⟩))] (by simp only [Sl_cons, Sl_nil, T.get_set, T.puts_cons, T.puts_nil, Nat.reduceEqDiff, Nat.reduceAdd, if_true, if_false, and_true, true_and, g5, g6, g22, g23]) fun t ht => ?_
  clear g5 g6 g22 g23
  obtain ⟨g5, g6, g22, g23, -⟩ := ht
  have lw3 := va3.word
  obtain ⟨D, ⟨g, hg⟩, kD⟩ := run_rfind (w := a.word) h53 (by omega)
  have z2 : Vals (D.alloc (rowOb 45 [.string .empty, .int .u32 0, .bool false])) 45 D.next (.var 3) [.string .empty, .int .u32 0, .bool false] := vals_puts (get_alloc_self _ _)
  obtain ⟨E, s4, v4, n4, e4⟩ := store_all (tb := tb4) (t := 45) (l := [.string .empty, .int .u32 0, .bool false]) (l' := entC ((find a.word d).getD zeroE)) size45' z2 rfl (by simp) (entC_one _)
  rw [next_alloc] at n4
  have kDE : Kp D E := ⟨by omega, fun z hz => by rw [e4 z (by omega), get_alloc_ne (by omega)]⟩
  have kE := kD.trans kDE
  apply W.seq
  apply W.runG (g) 20
  · intro M hM
    simp (config := { maxSteps := 4000000 }) (disch := first | decide +kernel | omega) only [c3, Try.f3, Option.getD_some, sub_seq1, sub_seq0, sub_nil, exec_region, runOps_cons, opF_move, ev_tmp, g5, evG_some, putT_some, opF_fieldAddr, T.get_set, Nat.reduceEqDiff, g6, if_false, opF_load, if_true, opF_call, evs, R.ok_bind, resK, opF_extract, extractF, opF_alloc, z45, at_ptr, opF_store, putT_none, opF_assign, runOps_nil, cells_agg, f38_1, lw3, hg, List.getElem?_cons_zero, List.getElem?_cons_succ, s4]
    with_reducible rfl
  show W tb4 _ _ _
  refine W_gen [(5, x5), (6, .pointer (some ⟨pa, 0, none⟩)), (22, .pointer (some ⟨C.next, 0, none⟩)), (23, .pointer (some ⟨C1.next, 0, none⟩)), (25, .bool (find a.word d).isSome)] (by simp only [Sl_cons, Sl_nil, T.get_set, T.puts_cons, T.puts_nil, Nat.reduceEqDiff, Nat.reduceAdd, if_true, if_false, and_true, true_and, g5, g6, g22, g23]) fun t ht => ?_
  clear g5 g6 g22 g23
  obtain ⟨g5, g6, g22, g23, g25, -⟩ := ht
  have lE1 := (w3.kp kE).all
  have lE2 := (v3'.kp kE).all
  have kF := Kp.alloc E (rowOb 38 (opC ⟨0, a.word, a.weight, 0, 0⟩ ++ opC ⟨1, a.word, a.weight, 0, 0⟩))
  obtain ⟨y, G, ⟨g2, hg2⟩, hy, kG⟩ := run_update ((h53.kp kE).kp kF) hok.1 ops_two (by simp only [List.length_cons, List.length_nil]; omega)
  obtain ⟨tr, k, hrun, htl, hno⟩ : ∃ tr k, runU [⟨0, a.word, a.weight, 0, 0⟩, ⟨1, a.word, a.weight, 0, 0⟩] (d, 0) = (tr, k) ∧ tr.length < 1000000 ∧ ((find a.word d).isSome = false → tr = d ∧ k = if okW a.word = true then 0 else 7) := by
    refine ⟨_, _, runU_two (.inl rfl) (.inr (.inl rfl)), ?_, fun his => ?_⟩
    · have hl1 := (upd_len (o := toD ⟨0, a.word, a.weight, 0, 0⟩) hok).1
      have hl2 := (upd_len (o := toD ⟨1, a.word, a.weight, 0, 0⟩) (upd_ok (o := toD ⟨0, a.word, a.weight, 0, 0⟩) hok)).1
      omega
    · have hn : find a.word d = none := by
        cases hf : find a.word d with
        | none => rfl
        | some e => rw [hf] at his; cases his
      exact upd_trace (wt := a.weight) hok hn
  rw [hrun] at hg2 hy
  apply W.seq
  apply W.runG (g2) 20
  · intro M hM
    simp (config := { maxSteps := 4000000 }) (disch := first | decide +kernel | omega) only [c3, Try.f3, Option.getD_some, sub_seq1, sub_seq0, sub_nil, exec_region, runOps_cons, opF_move, ev_tmp, g5, evG_some, putT_some, opF_load, T.get_set, Nat.reduceEqDiff, g22, if_false, g23, opF_buildSlice, evp, if_true, R.ok_bind, opF_call, evs, resK, opF_extract, extractF, opF_assign, runOps_nil, lE2, lE1, bs70b, at_slc, hg2, List.getElem?_cons_zero, List.getElem?_cons_succ]
    with_reducible rfl
  show W tb4 _ _ _
  exact law_end (is := (find a.word d).isSome) (x5 := x5) (x26 := y) (pa := pa) (a := a) (k := k) (((h53.kp kE).kp kF).kp kG) hy (by omega) htl (((va3.kp kE).kp kF).kp kG) hlw hno (by simp only [Sl_cons, Sl_nil, T.get_set, T.puts_cons, T.puts_nil, Nat.reduceEqDiff, Nat.reduceAdd, if_true, if_false, and_true, true_and, g5, g6, g25]) (fun t' h4 => hK t' _ h4)
end Go.Proofs.Ytnelkapmmgggdaa.mdl

/-
  ModelUpdates: updates in either order.
-/
namespace Go.Proofs.Ytnelkapmmgggdaa.mdl
open Go.Am Go.Mdl
set_option linter.unusedSimpArgs false
set_option linter.unusedVariables false
set_option linter.unusedVariables false

theorem c3_14 : sub c3 [1,1,1,1,1,1,1,1,1,1,1,1,1,1] = .seq (sub c3 [1,1,1,1,1,1,1,1,1,1,1,1,1,1,0]) (.seq (sub c3 [1,1,1,1,1,1,1,1,1,1,1,1,1,1,1,0]) (.seq (sub c3 [1,1,1,1,1,1,1,1,1,1,1,1,1,1,1,1,0]) (sub c3 [1,1,1,1,1,1,1,1,1,1,1,1,1,1,1,1,1]))) := by kernel_rfl
set_option maxHeartbeats 8000000 in
set_option maxRecDepth 20000 in
theorem law_14 {C : Mem} {d : List EntD} {x5 x10 : Value} {pa pb : Nat} {a b : OpV} {t : T Value} {K : Ex → St → Prop} (h5 : EntE C d x5) (h10 : EntE C (upd (upd d (toD a)) (toD b)) x10) (hok : OkD d) (hd : d.length < 900) (va : VarO C pa a) (vb : VarO C pb b) (ka : KOk a) (kb : KOk b) (hlw : a.word.length < 9223372036854775808)
    (ht : Sl t [(5, x5), (6, .pointer (some ⟨pa, 0, none⟩)), (7, .pointer (some ⟨pb, 0, none⟩)), (9, .int .i64 ((err d (toD a) : Nat) : Int)), (10, x10), (11, .int .i64 ((err (upd d (toD a)) (toD b) : Nat) : Int))]) (hK : ∀ t' C', t'.get 4 = some (.bool true) → K .ret ⟨t', 224, [], C', none⟩) :
    W tb4 (sub c3 [1,1,1,1,1,1,1,1,1,1,1,1,1,1]) ⟨t, 224, [], C, none⟩ K := by
  obtain ⟨g5, g6, g7, g9, g10, g11, -⟩ := ht
  rw [c3_14]
  have lb := vb.all
  have kF := Kp.alloc C (rowOb 38 (opC b))
  obtain ⟨y, G, ⟨g, hg⟩, hy, kG⟩ := run_update (h5.kp kF) hok.1 ops_one (by simp only [List.length_cons, List.length_nil]; omega)
  rw [runU_one kb] at hg hy
  have kCG := kF.trans kG
  apply W.seq
  apply W.runG (g) 20
  · intro M hM
    simp (config := { maxSteps := 4000000 }) (disch := first | decide +kernel | omega) only [c3, Try.f3, Option.getD_some, sub_seq1, sub_seq0, sub_nil, exec_region, runOps_cons, opF_move, ev_tmp, g5, evG_some, putT_some, opF_load, T.get_set, Nat.reduceEqDiff, g7, if_false, opF_buildSlice, evp, if_true, R.ok_bind, opF_call, evs, resK, opF_extract, extractF, opF_assign, runOps_nil, lb, bs70, at_slc, hg, List.getElem?_cons_zero, List.getElem?_cons_succ]
    with_reducible rfl
  show W tb4 _ _ _
  refine W_gen [(5, x5), (6, .pointer (some ⟨pa, 0, none⟩)), (7, .pointer (some ⟨pb, 0, none⟩)), (9, .int .i64 ((err d (toD a) : Nat) : Int)), (10, x10), (11, .int .i64 ((err (upd d (toD a)) (toD b) : Nat) : Int)), (18, y), (19, .int .i64 ((err d (toD b) : Nat) : Int))] (by simp only [Sl_cons, Sl_nil, T.get_set, T.puts_cons, T.puts_nil, Nat.reduceEqDiff, Nat.reduceAdd, if_true, if_false, and_true, true_and, g5, g6, g7, g9, g10, g11]) fun t ht => ?_
  clear g5 g6 g7 g9 g10 g11
  obtain ⟨g5, g6, g7, g9, g10, g11, g18, g19, -⟩ := ht
  have okb := upd_ok (o := toD b) hok
  have lnb := (upd_len (o := toD b) hok).1
  have la := (va.kp kCG).all
  have kF2 := Kp.alloc G (rowOb 38 (opC a))
  obtain ⟨z, H, ⟨g2, hg2⟩, hz, kH⟩ := run_update (EntE.kp hy kF2) okb.1 ops_one (by simp only [List.length_cons, List.length_nil]; omega)
  rw [runU_one ka] at hg2 hz
  have kCH := (kCG.trans kF2).trans kH
  apply W.seq
  apply W.runG (g2) 20
  · intro M hM
    simp (config := { maxSteps := 4000000 }) (disch := first | decide +kernel | omega) only [c3, Try.f3, Option.getD_some, sub_seq1, sub_seq0, sub_nil, exec_region, runOps_cons, opF_move, ev_tmp, g18, evG_some, putT_some, opF_load, T.get_set, Nat.reduceEqDiff, g6, if_false, opF_buildSlice, evp, if_true, R.ok_bind, opF_call, evs, resK, opF_extract, extractF, opF_assign, runOps_nil, la, bs70, at_slc, hg2, List.getElem?_cons_zero, List.getElem?_cons_succ]
    with_reducible rfl
  show W tb4 _ _ _
  refine W_gen [(5, x5), (6, .pointer (some ⟨pa, 0, none⟩)), (7, .pointer (some ⟨pb, 0, none⟩)), (9, .int .i64 ((err d (toD a) : Nat) : Int)), (10, x10), (11, .int .i64 ((err (upd d (toD a)) (toD b) : Nat) : Int)), (19, .int .i64 ((err d (toD b) : Nat) : Int)), (20, z), (21, .int .i64 ((err (upd d (toD b)) (toD a) : Nat) : Int))] (by simp only [Sl_cons, Sl_nil, T.get_set, T.puts_cons, T.puts_nil, Nat.reduceEqDiff, Nat.reduceAdd, if_true, if_false, and_true, true_and, g5, g6, g7, g9, g10, g11, g19]) fun t ht => ?_
  clear g5 g6 g7 g9 g10 g11 g18 g19
  obtain ⟨g5, g6, g7, g9, g10, g11, g19, g20, g21, -⟩ := ht
  have fin : ∀ t', Sl t' [(5, x5), (6, .pointer (some ⟨pa, 0, none⟩))] → W tb4 (sub c3 [1,1,1,1,1,1,1,1,1,1,1,1,1,1,1,1,1]) ⟨t', 224, [], H, none⟩ K := fun t' ht' => law_17 (h5.kp kCH) hok (by omega) (va.kp kCH) hlw ht' hK
  have wa := (va.kp kCH).word
  have wb := (vb.kp kCH).word
  apply W.seq
  by_cases hab : a.word = b.word
  · apply W.run 20
    · intro M
      simp (config := { maxSteps := 4000000 }) (disch := first | decide +kernel | (rw [wantF_guard]; simp only [wantD_some, dstAt_zero, dstAt_succ, T.get_set, T.get_e, Nat.reduceEqDiff, if_true, if_false, wantV_bool, wantV_unit, unitV, cond_true, cond_false, Bool.not_true, Bool.not_false, List.toList_toArray]) | omega) only [c3, Try.f3, Option.getD_some, sub_seq1, sub_seq0, sub_nil, exec_seq, exec_region, runOps_cons, opF_fieldAddr, ev_tmp, g6, evG_some, putT_some, opF_load, T.get_set, if_true, Nat.reduceEqDiff, g7, if_false, opF_neq, opF_move, R.ok_bind, f38_1, wb, wa, hab, binF_str, str_neq, ne_eq, not_true_eq_false, decide_false, runOps_no, opF_pick, pickF, ev_bool, runOps_nil, exec_cond, opF_assign, exec_ret, exec_skip]
      with_reducible rfl
    exact fin _ (by simp only [Sl_cons, Sl_nil, T.get_set, T.puts_cons, T.puts_nil, Nat.reduceEqDiff, Nat.reduceAdd, if_true, if_false, and_true, true_and, g5, g6])
  · obtain ⟨e1, e2, e3⟩ := upd_comm (a := toD a) (b := toD b) hok hab
    have okab := upd_ok (o := toD b) (upd_ok (o := toD a) hok)
    have ln1 := (upd_len (o := toD a) hok).1
    have ln2 := (upd_len (o := toD b) (upd_ok (o := toD a) hok)).1
    have ln3 := (upd_len (o := toD a) okb).1
    obtain ⟨g3, hg3⟩ := run_same hz (h10.kp kCH) (by show (upd (upd d (toD b)) (toD a)).length < 1000000; omega) (by omega)
    rw [decide_eq_true (show (upd (upd d (toD b)) (toD a)) = upd (upd d (toD a)) (toD b) from e1)] at hg3
    rw [e2] at g11
    rw [e3] at g21
    apply W.runG (g3) 20
    · intro M hM
      simp (config := { maxSteps := 4000000 }) (disch := first | decide +kernel | (rw [wantF_guard]; simp only [wantD_some, dstAt_zero, dstAt_succ, T.get_set, T.get_e, Nat.reduceEqDiff, if_true, if_false, wantV_bool, wantV_unit, unitV, cond_true, cond_false, Bool.not_true, Bool.not_false, List.toList_toArray]) | omega) only [c3, Try.f3, Option.getD_some, sub_seq1, sub_seq0, sub_nil, exec_seq, exec_region, runOps_cons, opF_fieldAddr, ev_tmp, g6, evG_some, putT_some, opF_load, T.get_set, if_true, Nat.reduceEqDiff, g7, if_false, opF_neq, opF_move, R.ok_bind, f38_1, wb, wa, binF_str, str_neq, ne_eq, hab, not_false_eq_true, decide_true, runOps_yes, g20, g10, opF_call, evs, resK, opF_un, hg3, un_not, Bool.not_true, g19, g11, opF_pick, pickF, ev_bool, binF_int, op_neq, not_true_eq_false, decide_false, g21, g9, runOps_nil, exec_cond, opF_assign, exec_ret, exec_skip]
      with_reducible rfl
    exact fin _ (by simp only [Sl_cons, Sl_nil, T.get_set, T.puts_cons, T.puts_nil, Nat.reduceEqDiff, Nat.reduceAdd, if_true, if_false, and_true, true_and, g5, g6])
end Go.Proofs.Ytnelkapmmgggdaa.mdl

/-
  ModelUpdates: an update changes its own word alone.
-/
namespace Go.Proofs.Ytnelkapmmgggdaa.mdl
open Go.Am Go.Mdl
set_option linter.unusedSimpArgs false
set_option linter.unusedVariables false
set_option linter.unusedVariables false

noncomputable def c3b1 : Code := sub c3 [1,1,1,1,1,1,1,1,1,1,1,1,0,1,0,0]
theorem c3_12 : sub c3 [1,1,1,1,1,1,1,1,1,1,1,1] = .seq (.seq (sub c3 [1,1,1,1,1,1,1,1,1,1,1,1,0,0]) (.block 0 (.loop c3b1))) (.seq (sub c3 [1,1,1,1,1,1,1,1,1,1,1,1,1,0]) (sub c3 [1,1,1,1,1,1,1,1,1,1,1,1,1,1])) := by kernel_rfl
theorem c3b1_eq : c3b1 = .seq (.seq (sub c3b1 [0,0]) (sub c3b1 [0,1])) (.seq (.block 1 (.seq (sub c3b1 [1,0,0,0]) (sub c3b1 [1,0,0,1]))) (sub c3b1 [1,1])) := by kernel_rfl
def l12 (x5 x8 x10 : Value) (pa pb : Nat) (e f : Nat) : List (Nat × Value) := [(5, x5), (6, .pointer (some ⟨pa, 0, none⟩)), (7, .pointer (some ⟨pb, 0, none⟩)), (8, x8), (9, .int .i64 ((e : Nat) : Int)), (10, x10), (11, .int .i64 ((f : Nat) : Int))]
set_option maxHeartbeats 8000000 in
set_option maxRecDepth 20000 in
/-- The numbers of entries. -/
theorem law_13 {C : Mem} {d : List EntD} {x5 x8 x10 : Value} {pa pb : Nat} {a b : OpV} {t : T Value} {K : Ex → St → Prop} (h5 : EntE C d x5) (h8 : EntE C (upd d (toD a)) x8) (h10 : EntE C (upd (upd d (toD a)) (toD b)) x10) (hok : OkD d) (hd : d.length < 900) (va : VarO C pa a) (vb : VarO C pb b) (ka : KOk a) (kb : KOk b) (hlw : a.word.length < 9223372036854775808)
    (ht : Sl t (l12 x5 x8 x10 pa pb (err d (toD a)) (err (upd d (toD a)) (toD b)))) (hK : ∀ t' C', t'.get 4 = some (.bool true) → K .ret ⟨t', 224, [], C', none⟩) :
    W tb4 (.seq (sub c3 [1,1,1,1,1,1,1,1,1,1,1,1,1,0]) (sub c3 [1,1,1,1,1,1,1,1,1,1,1,1,1,1])) ⟨t, 224, [], C, none⟩ K := by
  obtain ⟨g5, g6, g7, g8, g9, g10, g11, -⟩ := ht
  have fin : ∀ t', Sl t' [(5, x5), (6, .pointer (some ⟨pa, 0, none⟩)), (7, .pointer (some ⟨pb, 0, none⟩)), (9, .int .i64 ((err d (toD a) : Nat) : Int)), (10, x10), (11, .int .i64 ((err (upd d (toD a)) (toD b) : Nat) : Int))] → W tb4 (sub c3 [1,1,1,1,1,1,1,1,1,1,1,1,1,1]) ⟨t', 224, [], C, none⟩ K := fun t' ht' => law_14 h5 h10 hok hd va vb ka kb hlw ht' hK
  obtain ⟨b5, hb5⟩ := h5
  obtain ⟨b8, hb8⟩ := h8
  have l5 := hb5.lens
  have l8 := hb8.lens
  obtain ⟨u1, u2⟩ := upd_len (o := toD a) hok
  have n1 : ¬ (d.length + 1 < (upd d (toD a)).length) := by omega
  have sb := op_subI (a := ((d.length : Nat) : Int)) (b := ((1 : Nat) : Int)) (by omega) (by omega)
  have n2 : ¬ (((upd d (toD a)).length : Nat) : Int) < ((d.length : Nat) : Int) - ((1 : Nat) : Int) := by omega
  have n2' : decide ((((upd d (toD a)).length : Nat) : Int) < ((d.length : Nat) : Int) - ((1 : Nat) : Int)) = false := decide_eq_false n2
  have hx : binF .lss (tb4.und 3) (.int .i64 (((upd d (toD a)).length : Nat) : Int)) (.int .i64 (((d.length : Nat) : Int) - ((1 : Nat) : Int))) = .ok (.bool false) := by
    rw [binF_int (by decide) (by decide), op_lssI, n2']
  have hy : binF .sub (tb4.und 3) (.int .i64 ((d.length : Nat) : Int)) (.int .i64 ((1 : Nat) : Int)) = .ok (.int .i64 (((d.length : Nat) : Int) - ((1 : Nat) : Int))) := by
    rw [binF_int (by decide) (by decide), sb]
  apply W.seq
  by_cases he : err d (toD a) = 0
  · rw [he] at g9 fin
    apply W.run 20
    · intro M
      simp (config := { maxSteps := 4000000 }) (disch := first | decide +kernel | (rw [wantF_guard]; simp only [wantD_some, dstAt_zero, dstAt_succ, T.get_set, T.get_e, Nat.reduceEqDiff, if_true, if_false, wantV_bool, wantV_unit, unitV, cond_true, cond_false, Bool.not_true, Bool.not_false, List.toList_toArray]) | omega) only [c3, Try.f3, Option.getD_some, sub_seq1, sub_seq0, sub_nil, exec_seq, exec_region, runOps_cons, opF_move, ev_tmp, g8, evG_some, putT_some, opF_len, evs, T.get_set, if_true, R.ok_bind, Nat.reduceEqDiff, g5, if_false, opF_ari, ev_int, l5, binF_int, op_add_i64, l8, op_gtr, cast_lt, n1, decide_false, runOps_yes, opF_pick, pickF, ev_bool, hy, hx, g9, opF_neq, op_neq, ne_eq, not_true_eq_false, runOps_no, runOps_nil, exec_cond, opF_assign, exec_ret, exec_skip]
      with_reducible rfl
    exact fin _ (by simp only [Sl_cons, Sl_nil, T.get_set, T.puts_cons, T.puts_nil, Nat.reduceEqDiff, Nat.reduceAdd, if_true, if_false, and_true, true_and, g5, g6, g7, g9, g10, g11])
  · have hu : upd d (toD a) = d := by unfold upd; rw [if_neg he]
    obtain ⟨g, hg⟩ := run_same (k := upd d (toD a)) (l := d) ⟨b8, hb8⟩ ⟨b5, hb5⟩ (by omega) (by omega)
    rw [decide_eq_true hu] at hg
    apply W.runG (g) 20
    · intro M hM
      simp (config := { maxSteps := 4000000 }) (disch := first | decide +kernel | (rw [wantF_guard]; simp only [wantD_some, dstAt_zero, dstAt_succ, T.get_set, T.get_e, Nat.reduceEqDiff, if_true, if_false, wantV_bool, wantV_unit, unitV, cond_true, cond_false, Bool.not_true, Bool.not_false, List.toList_toArray]) | omega) only [c3, Try.f3, Option.getD_some, sub_seq1, sub_seq0, sub_nil, exec_seq, exec_region, runOps_cons, opF_move, ev_tmp, g8, evG_some, putT_some, opF_len, evs, T.get_set, if_true, R.ok_bind, Nat.reduceEqDiff, g5, if_false, opF_ari, ev_int, l5, binF_int, op_add_i64, l8, op_gtr, cast_lt, n1, decide_false, runOps_yes, opF_pick, pickF, ev_bool, hy, hx, g9, opF_neq, op_neq, ne_eq, he, not_false_eq_true, decide_true, opF_call, resK, opF_un, runOps_nil, hg, un_not, Bool.not_true, exec_cond, opF_assign, exec_ret, exec_skip]
      with_reducible rfl
    exact fin _ (by simp only [Sl_cons, Sl_nil, T.get_set, T.puts_cons, T.puts_nil, Nat.reduceEqDiff, Nat.reduceAdd, if_true, if_false, and_true, true_and, g5, g6, g7, g9, g10, g11])
end Go.Proofs.Ytnelkapmmgggdaa.mdl

/-
  ModelUpdates: an update changes its own word alone: the loop.
-/
namespace Go.Proofs.Ytnelkapmmgggdaa.mdl
open Go.Am Go.Mdl
set_option linter.unusedSimpArgs false
set_option linter.unusedVariables false
set_option linter.unusedVariables false

set_option maxHeartbeats 8000000 in
set_option maxRecDepth 20000 in
theorem word_round {C : Mem} {d one : List EntD} {x5 x8 x10 : Value} {pa pb e f i : Nat} {a : OpV} {t : T Value} {K : Ex → St → Prop} (h5 : EntE C d x5) (h8 : EntE C one x8) (ho : one.length < 1000000) (va : VarO C pa a) (hlt : i < d.length) (hkeep : d[i].word ≠ a.word → find d[i].word one = some d[i])
    (ht : Sl t ((15, .int .i64 (i : Int)) :: l12 x5 x8 x10 pa pb e f)) (hK : ∀ t' C', Kp C C' → Sl t' ((15, .int .i64 (i : Int)) :: l12 x5 x8 x10 pa pb e f) → K .nrm ⟨t', 224, [], C', none⟩) :
    W tb4 (.seq (sub c3b1 [1,0,0,0]) (sub c3b1 [1,0,0,1])) ⟨t, 224, [], C, none⟩ K := by
  obtain ⟨g15, g5, g6, g7, g8, g9, g10, g11, -⟩ := ht
  obtain ⟨d45, hd1, hd2⟩ := und45'
  have hdi : d[i]? = some d[i] := List.getElem?_eq_getElem hlt
  obtain ⟨b5, hb5⟩ := h5
  obtain ⟨a1, a2⟩ := hb5.at hdi
  have a3 := hb5.word hdi
  obtain ⟨D, ⟨g, hg⟩, kD⟩ := run_rfind (w := d[i].word) h8 ho
  have z2 : Vals (D.alloc (rowOb 45 [.string .empty, .int .u32 0, .bool false])) 45 D.next (.var 3) [.string .empty, .int .u32 0, .bool false] := vals_puts (get_alloc_self _ _)
  obtain ⟨E, s4, v4, n4, e4⟩ := store_all (tb := tb4) (t := 45) (l := [.string .empty, .int .u32 0, .bool false]) (l' := entC ((find d[i].word one).getD zeroE)) size45' z2 rfl (by simp) (entC_one _)
  rw [next_alloc] at n4
  have kDE : Kp D E := ⟨by omega, fun z hz => by rw [e4 z (by omega), get_alloc_ne (by omega)]⟩
  have kE := kD.trans kDE
  apply W.seq
  apply W.runG (g) 20
  · intro M hM
    simp (config := { maxSteps := 4000000 }) (disch := first | decide +kernel | omega) only [c3b1, c3, Try.f3, Option.getD_some, sub_seq1, sub_seq0, sub_block, sub_loop, sub_nil, exec_region, runOps_cons, opF_move, ev_tmp, g8, evG_some, putT_some, T.get_set, Nat.reduceEqDiff, g5, if_false, g15, opF_indexAddr, if_true, opF_fieldAddr, opF_load, opF_call, evs, R.ok_bind, resK, opF_extract, extractF, opF_alloc, z45, at_ptr, opF_store, putT_none, opF_assign, runOps_nil, cells_agg, a1, fb0o, a3, hg, List.getElem?_cons_zero, List.getElem?_cons_succ, s4]
    with_reducible rfl
  show W tb4 _ _ _
  refine W_gen ((15, .int .i64 (i : Int)) :: (16, .pointer (some ⟨D.next, 0, none⟩)) :: (17, .bool (find d[i].word one).isSome) :: l12 x5 x8 x10 pa pb e f) (by unfold l12; simp only [Sl_cons, Sl_nil, T.get_set, T.puts_cons, T.puts_nil, Nat.reduceEqDiff, Nat.reduceAdd, if_true, if_false, and_true, true_and, g5, g6, g7, g8, g9, g10, g11, g15]) fun t ht => ?_
  clear g5 g6 g7 g8 g9 g10 g11 g15
  obtain ⟨g15, g16, g17, g5, g6, g7, g8, g9, g10, g11, -⟩ := ht
  have hb5E := hb5.kp kE
  obtain ⟨a1, a2⟩ := hb5E.at hdi
  have a3 := hb5E.word hdi
  have wa := (va.kp kE).word
  by_cases hw : d[i].word = a.word
  · apply W.run 20
    · intro M
      simp (config := { maxSteps := 4000000 }) (disch := first | decide +kernel | (rw [wantF_guard]; simp only [wantD_some, dstAt_zero, dstAt_succ, T.get_set, T.get_e, Nat.reduceEqDiff, if_true, if_false, wantV_bool, wantV_unit, unitV, cond_true, cond_false, Bool.not_true, Bool.not_false, List.toList_toArray]) | omega) only [c3b1, c3, Try.f3, Option.getD_some, sub_seq1, sub_seq0, sub_block, sub_loop, sub_nil, exec_seq, exec_draw, runOps_cons, opF_move, ev_tmp, g5, evG_some, putT_some, T.get_set, Nat.reduceEqDiff, g15, if_false, opF_indexAddr, if_true, opF_fieldAddr, opF_load, g6, opF_neq, R.ok_bind, f38_1, wa, a1, fb0o, a3, hw, binF_str, str_neq, ne_eq, not_true_eq_false, decide_false, runOps_no, opF_pick, pickF, ev_bool, runOps_nil, exec_cond, exec_region, opF_assign, exec_ret, exec_skip]
      with_reducible rfl
    exact hK _ E kE (by unfold l12; simp only [Sl_cons, Sl_nil, T.get_set, T.puts_cons, T.puts_nil, Nat.reduceEqDiff, Nat.reduceAdd, if_true, if_false, and_true, true_and, g5, g6, g7, g8, g9, g10, g11, g15])
  · have hf := hkeep hw
    rw [hf] at v4 g17
    have hl16 : loadF tb4 E.get 45 (.pointer (some ⟨D.next, 0, none⟩)) = .ok (.agg ⟨entC d[i]⟩) := load_all hd1 hd2 (l := entC d[i]) size45' v4
    have hd : (!decide (d[i] = d[i])) = false := by simp
    have nq := fun x y => neq45 (g := E.get) (x := x) (y := y) (e := d[i]) (f := d[i])
    rw [hd] at nq
    have hsm : (some d[i]).isSome = true := rfl
    apply W.run 20
    · intro M
      simp (config := { maxSteps := 4000000 }) (disch := first | decide +kernel | (rw [wantF_guard]; simp only [wantD_some, dstAt_zero, dstAt_succ, T.get_set, T.get_e, Nat.reduceEqDiff, if_true, if_false, wantV_bool, wantV_unit, unitV, cond_true, cond_false, Bool.not_true, Bool.not_false, List.toList_toArray]) | omega) only [c3b1, c3, Try.f3, Option.getD_some, sub_seq1, sub_seq0, sub_block, sub_loop, sub_nil, exec_seq, exec_draw, runOps_cons, opF_move, ev_tmp, g5, evG_some, putT_some, T.get_set, Nat.reduceEqDiff, g15, if_false, opF_indexAddr, if_true, opF_fieldAddr, opF_load, g6, opF_neq, R.ok_bind, f38_1, wa, a1, fb0o, a3, binF_str, str_neq, ne_eq, hw, not_false_eq_true, decide_true, runOps_yes, g17, hsm, opF_un, un_not, Bool.not_true, g16, opF_neqR, opF_pick, pickF, ev_bool, runOps_nil, a2, hl16, nq, exec_cond, exec_region, opF_assign, exec_ret, exec_skip]
      with_reducible rfl
    exact hK _ E kE (by unfold l12; simp only [Sl_cons, Sl_nil, T.get_set, T.puts_cons, T.puts_nil, Nat.reduceEqDiff, Nat.reduceAdd, if_true, if_false, and_true, true_and, g5, g6, g7, g8, g9, g10, g11, g15])
set_option maxHeartbeats 8000000 in
set_option maxRecDepth 20000 in
theorem law_12 {C : Mem} {d : List EntD} {x5 x8 x10 : Value} {pa pb : Nat} {a b : OpV} {t : T Value} {K : Ex → St → Prop} (h5 : EntE C d x5) (h8 : EntE C (upd d (toD a)) x8) (h10 : EntE C (upd (upd d (toD a)) (toD b)) x10) (hok : OkD d) (hd : d.length < 900) (va : VarO C pa a) (vb : VarO C pb b) (ka : KOk a) (kb : KOk b) (hlw : a.word.length < 9223372036854775808)
    (ht : Sl t (l12 x5 x8 x10 pa pb (err d (toD a)) (err (upd d (toD a)) (toD b)))) (hK : ∀ t' C', t'.get 4 = some (.bool true) → K .ret ⟨t', 224, [], C', none⟩) :
    W tb4 (sub c3 [1,1,1,1,1,1,1,1,1,1,1,1]) ⟨t, 224, [], C, none⟩ K := by
  obtain ⟨g5, g6, g7, g8, g9, g10, g11, -⟩ := ht
  rw [c3_12]
  have u1 := (upd_len (o := toD a) hok).1
  apply W.seq
  apply W.seq
  apply W.run 20
  · intro M
    simp (config := { maxSteps := 4000000 }) (disch := first | decide +kernel | omega) only [c3, Try.f3, Option.getD_some, sub_seq1, sub_seq0, sub_nil, exec_region, runOps_cons, opF_assign, ev_int, putT_some, runOps_nil, R.ok_bind]
    with_reducible rfl
  show W tb4 _ _ _
  apply W.block
  refine W.up d.length (fun i t D => Kp C D ∧ Sl t ((15, .int .i64 (i : Int)) :: l12 x5 x8 x10 pa pb (err d (toD a)) (err (upd d (toD a)) (toD b)))) ?_ (Nat.zero_le _) ⟨Kp.refl _, ?_⟩
  · rintro i t D hi ⟨hk, g15, g5, g6, g7, g8, g9, g10, g11, -⟩
    have h5D := h5.kp hk
    obtain ⟨b5, hb5⟩ := h5.kp hk
    have l5 := hb5.lens
    rw [c3b1_eq]
    apply W.seq
    by_cases hlt : i < d.length
    · apply W.run 20
      · intro M
        simp (config := { maxSteps := 4000000 }) (disch := first | decide +kernel | omega) only [c3b1, c3, Try.f3, Option.getD_some, sub_seq1, sub_seq0, sub_block, sub_loop, sub_nil, exec_seq, exec_region, runOps_cons, opF_move, ev_tmp, g15, evG_some, putT_some, T.get_set, Nat.reduceEqDiff, g5, if_false, opF_len, evs, if_true, R.ok_bind, opF_ari, runOps_nil, l5, binF_int, op_lssI, cast_lt, hlt, decide_true, exec_cond, exec_skip, exec_exit]
        with_reducible rfl
      show W tb4 _ _ _
      apply W.seq
      apply W.block
      refine word_round (x5 := x5) (x8 := x8) (x10 := x10) (pa := pa) (pb := pb) (e := err d (toD a)) (f := err (upd d (toD a)) (toD b)) (a := a) (one := upd d (toD a)) h5D (h8.kp hk) (by omega) (va.kp hk) hlt (fun hne => upd_keeps (o := toD a) hok (List.getElem_mem hlt) hne) (by unfold l12; simp only [Sl_cons, Sl_nil, T.get_set, T.puts_cons, T.puts_nil, Nat.reduceEqDiff, Nat.reduceAdd, if_true, if_false, and_true, true_and, g5, g6, g7, g8, g9, g10, g11, g15]) fun t2 D2 k2 ht2 => ?_
      obtain ⟨f15, f5, f6, f7, f8, f9, f10, f11, -⟩ := ht2
      show W tb4 _ _ _
      apply W.run 20
      · intro M
        simp (config := { maxSteps := 4000000 }) (disch := first | decide +kernel | omega) only [c3b1, c3, Try.f3, Option.getD_some, sub_seq1, sub_seq0, sub_block, sub_loop, sub_nil, exec_region, runOps_cons, opF_move, ev_tmp, f15, evG_some, putT_some, opF_ari, T.get_set, if_true, ev_int, opF_assign, Nat.reduceEqDiff, if_false, runOps_nil, R.ok_bind, binF_int, op_add_i64]
        with_reducible rfl
      refine ⟨hlt, _, _, rfl, hk.trans k2, ?_⟩
      unfold l12; simp only [Sl_cons, Sl_nil, T.get_set, T.puts_cons, T.puts_nil, Nat.reduceEqDiff, Nat.reduceAdd, if_true, if_false, and_true, true_and, f5, f6, f7, f8, f9, f10, f11]
    · apply W.run 20
      · intro M
        simp (config := { maxSteps := 4000000 }) (disch := first | decide +kernel | omega) only [c3b1, c3, Try.f3, Option.getD_some, sub_seq1, sub_seq0, sub_block, sub_loop, sub_nil, exec_seq, exec_region, runOps_cons, opF_move, ev_tmp, g15, evG_some, putT_some, T.get_set, Nat.reduceEqDiff, g5, if_false, opF_len, evs, if_true, R.ok_bind, opF_ari, runOps_nil, l5, binF_int, op_lssI, cast_lt, hlt, decide_false, exec_cond, exec_skip, exec_exit]
        with_reducible rfl
      show W tb4 _ _ _
      exact law_13 h5D (h8.kp hk) (h10.kp hk) hok hd (va.kp hk) (vb.kp hk) ka kb hlw (by unfold l12; simp only [Sl_cons, Sl_nil, T.get_set, T.puts_cons, T.puts_nil, Nat.reduceEqDiff, Nat.reduceAdd, if_true, if_false, and_true, true_and, g5, g6, g7, g8, g9, g10, g11]) hK
  · unfold l12; simp only [Sl_cons, Sl_nil, T.get_set, T.puts_cons, T.puts_nil, Nat.reduceEqDiff, Nat.reduceAdd, if_true, if_false, and_true, true_and, g5, g6, g7, g8, g9, g10, g11]
end Go.Proofs.Ytnelkapmmgggdaa.mdl

/-
  ModelUpdates: one update, two, both.
-/
namespace Go.Proofs.Ytnelkapmmgggdaa.mdl
open Go.Am Go.Mdl
set_option linter.unusedSimpArgs false
set_option linter.unusedVariables false
set_option linter.unusedVariables false

theorem c3_6 : sub c3 [1,1,1,1,1,1] = .seq (sub c3 [1,1,1,1,1,1,0]) (.seq (sub c3 [1,1,1,1,1,1,1,0]) (.seq (sub c3 [1,1,1,1,1,1,1,1,0]) (.seq (sub c3 [1,1,1,1,1,1,1,1,1,0]) (.seq (sub c3 [1,1,1,1,1,1,1,1,1,1,0]) (.seq (sub c3 [1,1,1,1,1,1,1,1,1,1,1,0]) (sub c3 [1,1,1,1,1,1,1,1,1,1,1,1])))))) := by kernel_rfl
set_option maxHeartbeats 8000000 in
set_option maxRecDepth 20000 in
theorem law_6 {C : Mem} {d : List EntD} {x5 : Value} {pa pb : Nat} {a b : OpV} {t : T Value} {K : Ex → St → Prop} (h5 : EntE C d x5) (hok : OkD d) (hd : d.length < 900) (va : VarO C pa a) (vb : VarO C pb b) (ka : KOk a) (kb : KOk b) (hlw : a.word.length < 9223372036854775808)
    (ht : Sl t [(5, x5), (6, .pointer (some ⟨pa, 0, none⟩)), (7, .pointer (some ⟨pb, 0, none⟩))]) (hK : ∀ t' C', t'.get 4 = some (.bool true) → K .ret ⟨t', 224, [], C', none⟩) :
    W tb4 (sub c3 [1,1,1,1,1,1]) ⟨t, 224, [], C, none⟩ K := by
  obtain ⟨g5, g6, g7, -⟩ := ht
  rw [c3_6]
  have oka := upd_ok (o := toD a) hok
  have u1 := (upd_len (o := toD a) hok).1
  have u2 := (upd_len (o := toD b) oka).1
  -- one
  have la := va.all
  have kA := Kp.alloc C (rowOb 38 (opC a))
  obtain ⟨x8, C1, ⟨g1, hg1⟩, h8, k1⟩ := run_update (h5.kp kA) hok.1 ops_one (by simp only [List.length_cons, List.length_nil]; omega)
  rw [runU_one ka] at hg1 h8
  have kC1 := kA.trans k1
  apply W.seq
  apply W.runG (g1) 20
  · intro M hM
    simp (config := { maxSteps := 4000000 }) (disch := first | decide +kernel | omega) only [c3, Try.f3, Option.getD_some, sub_seq1, sub_seq0, sub_nil, exec_region, runOps_cons, opF_move, ev_tmp, g5, evG_some, putT_some, opF_load, T.get_set, Nat.reduceEqDiff, g6, if_false, opF_buildSlice, evp, if_true, R.ok_bind, opF_call, evs, resK, opF_extract, extractF, opF_assign, runOps_nil, la, bs70, at_slc, hg1, List.getElem?_cons_zero, List.getElem?_cons_succ]
    with_reducible rfl
  show W tb4 _ _ _
  refine W_gen [(5, x5), (6, .pointer (some ⟨pa, 0, none⟩)), (7, .pointer (some ⟨pb, 0, none⟩)), (8, x8), (9, .int .i64 ((err d (toD a) : Nat) : Int))] (by simp only [Sl_cons, Sl_nil, T.get_set, T.puts_cons, T.puts_nil, Nat.reduceEqDiff, Nat.reduceAdd, if_true, if_false, and_true, true_and, g5, g6, g7]) fun t ht => ?_
  clear g5 g6 g7
  obtain ⟨g5, g6, g7, g8, g9, -⟩ := ht
  -- two
  have lb := (vb.kp kC1).all
  have kB := Kp.alloc C1 (rowOb 38 (opC b))
  obtain ⟨x10, C2, ⟨g2, hg2⟩, h10, k2⟩ := run_update (EntE.kp h8 kB) oka.1 ops_one (by simp only [List.length_cons, List.length_nil]; omega)
  rw [runU_one kb] at hg2 h10
  have kC2 := (kC1.trans kB).trans k2
  apply W.seq
  apply W.runG (g2) 20
  · intro M hM
    simp (config := { maxSteps := 4000000 }) (disch := first | decide +kernel | omega) only [c3, Try.f3, Option.getD_some, sub_seq1, sub_seq0, sub_nil, exec_region, runOps_cons, opF_move, ev_tmp, g8, evG_some, putT_some, opF_load, T.get_set, Nat.reduceEqDiff, g7, if_false, opF_buildSlice, evp, if_true, R.ok_bind, opF_call, evs, resK, opF_extract, extractF, opF_assign, runOps_nil, lb, bs70, at_slc, hg2, List.getElem?_cons_zero, List.getElem?_cons_succ]
    with_reducible rfl
  show W tb4 _ _ _
  refine W_gen (l12 x5 x8 x10 pa pb (err d (toD a)) (err (upd d (toD a)) (toD b))) (by unfold l12; simp only [Sl_cons, Sl_nil, T.get_set, T.puts_cons, T.puts_nil, Nat.reduceEqDiff, Nat.reduceAdd, if_true, if_false, and_true, true_and, g5, g6, g7, g8, g9]) fun t ht => ?_
  clear g5 g6 g7 g8 g9
  obtain ⟨g5, g6, g7, g8, g9, g10, g11, -⟩ := ht
  -- both
  have la2 := (va.kp kC2).all
  have lb2 := (vb.kp kC2).all
  have kD := Kp.alloc C2 (rowOb 38 (opC a ++ opC b))
  obtain ⟨x12, C3, ⟨g3, hg3⟩, h12, k3⟩ := run_update ((h5.kp kC2).kp kD) hok.1 ops_two (by simp only [List.length_cons, List.length_nil]; omega)
  rw [runU_two ka kb] at hg3 h12
  have kC23 := kD.trans k3
  have kC3 := kC2.trans kC23
  apply W.seq
  apply W.runG (g3) 20
  · intro M hM
    simp (config := { maxSteps := 4000000 }) (disch := first | decide +kernel | omega) only [c3, Try.f3, Option.getD_some, sub_seq1, sub_seq0, sub_nil, exec_region, runOps_cons, opF_move, ev_tmp, g5, evG_some, putT_some, opF_load, T.get_set, Nat.reduceEqDiff, g6, if_false, g7, opF_buildSlice, evp, if_true, R.ok_bind, opF_call, evs, resK, opF_extract, extractF, opF_assign, runOps_nil, lb2, la2, bs70b, at_slc, hg3, List.getElem?_cons_zero, List.getElem?_cons_succ]
    with_reducible rfl
  show W tb4 _ _ _
  generalize hq : (if err d (toD a) = 0 then err (upd d (toD a)) (toD b) else err d (toD a)) = q
  refine W_gen ((12, x12) :: (13, .int .i64 (q : Int)) :: l12 x5 x8 x10 pa pb (err d (toD a)) (err (upd d (toD a)) (toD b))) (by unfold l12; simp only [Sl_cons, Sl_nil, T.get_set, T.puts_cons, T.puts_nil, Nat.reduceEqDiff, Nat.reduceAdd, if_true, if_false, and_true, true_and, g5, g6, g7, g8, g9, g10, g11]) fun t ht => ?_
  clear g5 g6 g7 g8 g9 g10 g11
  obtain ⟨g12, g13, g5, g6, g7, g8, g9, g10, g11, -⟩ := ht
  apply W.seq
  apply W.run 20
  · intro M
    simp (config := { maxSteps := 4000000 }) (disch := first | decide +kernel | omega) only [c3, Try.f3, Option.getD_some, sub_seq1, sub_seq0, sub_nil, exec_region, runOps_cons, opF_move, ev_tmp, g9, evG_some, putT_some, opF_assign, T.get_set, if_true, runOps_nil, R.ok_bind]
    with_reducible rfl
  show W tb4 _ _ _
  apply W.seq
  have s11 : ∀ t', Sl t' ((14, .int .i64 ((err d (toD a) : Nat) : Int)) :: (12, x12) :: (13, .int .i64 (q : Int)) :: l12 x5 x8 x10 pa pb (err d (toD a)) (err (upd d (toD a)) (toD b))) → W tb4 (sub c3 [1,1,1,1,1,1,1,1,1,1,0]) ⟨t', 224, [], C3, none⟩ fun e s' => ∃ t2, e = .nrm ∧ s' = ⟨t2, 224, [], C3, none⟩ ∧ Sl t2 ((14, .int .i64 (q : Int)) :: (12, x12) :: (13, .int .i64 (q : Int)) :: l12 x5 x8 x10 pa pb (err d (toD a)) (err (upd d (toD a)) (toD b))) := by
    rintro t' ⟨f14, f12, f13, f5, f6, f7, f8, f9, f10, f11, -⟩
    by_cases he : err d (toD a) = 0
    · rw [if_pos he] at hq
      subst hq
      have f9' : t'.get 9 = some (.int .i64 ((0 : Nat) : Int)) := by rw [f9, he]
      apply W.run 20
      · intro M
        simp (config := { maxSteps := 4000000 }) (disch := first | decide +kernel | omega) only [c3, Try.f3, Option.getD_some, sub_seq1, sub_seq0, sub_nil, exec_seq, exec_region, runOps_cons, opF_move, ev_tmp, f9', evG_some, putT_some, opF_eql, T.get_set, if_true, ev_int, runOps_nil, R.ok_bind, binF_int, op_eql, decide_true, exec_cond, exec_skip, Nat.reduceEqDiff, if_false, f11, opF_assign]
        with_reducible rfl
      refine ⟨_, rfl, rfl, ?_⟩
      unfold l12; simp only [Sl_cons, Sl_nil, T.get_set, T.puts_cons, T.puts_nil, Nat.reduceEqDiff, Nat.reduceAdd, if_true, if_false, and_true, true_and, f12, f13, f5, f6, f7, f8, f9, f10, f11]
    · rw [if_neg he] at hq
      subst hq
      apply W.run 20
      · intro M
        simp (config := { maxSteps := 4000000 }) (disch := first | decide +kernel | omega) only [c3, Try.f3, Option.getD_some, sub_seq1, sub_seq0, sub_nil, exec_seq, exec_region, runOps_cons, opF_move, ev_tmp, f9, evG_some, putT_some, opF_eql, T.get_set, if_true, ev_int, runOps_nil, R.ok_bind, binF_int, op_eql, he, decide_false, exec_cond, exec_skip, Nat.reduceEqDiff, if_false, opF_assign]
        with_reducible rfl
      refine ⟨_, rfl, rfl, ?_⟩
      unfold l12; simp only [Sl_cons, Sl_nil, T.get_set, T.puts_cons, T.puts_nil, Nat.reduceEqDiff, Nat.reduceAdd, if_true, if_false, and_true, true_and, f14, f12, f13, f5, f6, f7, f8, f9, f10, f11]
  refine (s11 _ (by unfold l12; simp only [Sl_cons, Sl_nil, T.get_set, T.puts_cons, T.puts_nil, Nat.reduceEqDiff, Nat.reduceAdd, if_true, if_false, and_true, true_and, g12, g13, g5, g6, g7, g8, g9, g10, g11])).mono ?_
  rintro e s' ⟨t2, rfl, rfl, f14, f12, f13, f5, f6, f7, f8, f9, f10, f11, -⟩
  show W tb4 _ _ _
  obtain ⟨g4, hg4⟩ := run_same (k := upd (upd d (toD a)) (toD b)) (l := upd (upd d (toD a)) (toD b)) h12 (EntE.kp h10 kC23) (by omega) (by omega)
  rw [decide_eq_true rfl] at hg4
  apply W.seq
  apply W.runG (g4) 20
  · intro M hM
    simp (config := { maxSteps := 4000000 }) (disch := first | decide +kernel | (rw [wantF_guard]; simp only [wantD_some, dstAt_zero, dstAt_succ, T.get_set, T.get_e, Nat.reduceEqDiff, if_true, if_false, wantV_bool, wantV_unit, unitV, cond_true, cond_false, Bool.not_true, Bool.not_false, List.toList_toArray]) | omega) only [c3, Try.f3, Option.getD_some, sub_seq1, sub_seq0, sub_nil, exec_seq, exec_region, runOps_cons, opF_move, ev_tmp, f12, evG_some, putT_some, T.get_set, Nat.reduceEqDiff, f10, if_false, opF_call, evs, if_true, R.ok_bind, resK, opF_un, hg4, un_not, Bool.not_true, runOps_yes, f13, f14, opF_neq, opF_pick, pickF, ev_bool, runOps_nil, binF_int, op_neq, ne_eq, not_true_eq_false, decide_false, exec_cond, opF_assign, exec_ret, exec_skip]
    with_reducible rfl
  show W tb4 _ _ _
  exact law_12 (h5.kp kC3) (EntE.kp h8 ((kB.trans k2).trans kC23)) (EntE.kp h10 kC23) hok hd (va.kp kC3) (vb.kp kC3) ka kb hlw (by unfold l12; simp only [Sl_cons, Sl_nil, T.get_set, T.puts_cons, T.puts_nil, Nat.reduceEqDiff, Nat.reduceAdd, if_true, if_false, and_true, true_and, f5, f6, f7, f8, f9, f10, f11]) hK
end Go.Proofs.Ytnelkapmmgggdaa.mdl

