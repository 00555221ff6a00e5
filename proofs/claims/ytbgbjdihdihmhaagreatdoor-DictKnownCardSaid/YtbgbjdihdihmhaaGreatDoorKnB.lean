/-
  Known: sorted keys of a map, of one kind.
-/
import Derived.Test.YtbgbjdihdihmhaaGreatDoorKnBase
import Derived.Sort.AssemblyPlain
import Derived.Sort.Walk13a
import Derived.KernelRfl
namespace Go.Proofs.YtbgbjdihdihmhaaGreatDoor.knB
open Go.Am Go.Sort Go.Proofs.YtbgbjdihdihmhaaGreatDoor.kn
set_option linter.unusedSimpArgs false
set_option linter.unusedVariables false
set_option maxRecDepth 100000


def ltB (a b : UInt8) : Bool := decide (a.toNat < b.toNat)
theorem swoB : SWO ltB where
  irrefl := fun x => by simp [ltB]
  trans := fun x y z h1 h2 => by simp only [ltB, decide_eq_true_eq] at *; omega
  ntrans := fun x y z h1 h2 => by simp only [ltB, decide_eq_false_iff_not] at *; omega

/-! ### Less -/
noncomputable def zc28 : Code := Tryz.f530.body.getD .skip
theorem zc28_eq : Tryz.f530.body = some zc28 := by kernel_rfl
noncomputable def zc18 : Code := Tryz.f513.body.getD .skip
theorem zc18_eq : Tryz.f513.body = some (.seq (sub zc18 [0]) (.seq (sub zc18 [1,0]) (sub zc18 [1,1]))) := by kernel_rfl
theorem run_nan {a : Nat} {A : Mem} : Ans tbX 530 [.int .u8 (a : Int)] A (.bool false) A := by
  obtain ⟨v, A', hg, rfl, rfl⟩ : ∃ v A', Ans tbX 530 [.int .u8 (a : Int)] A v A' ∧ v = .bool false ∧ A' = A := by
    refine ans_of_W (fn_atX Tryz.func530) zc28_eq (by rw [Tryz.ntmps530]; simp) (by kernel_rfl) (by kernel_rfl) ?_
    apply W.run 20
    · intro M
      simp (config := { maxSteps := 4000000 }) (disch := first | decide +kernel | omega | simp only [Wq, Nat.reduceEqDiff]) only [zc28, Tryz.f530, Aq, Nat.ble, reduceIte, Nat.reduceEqDiff, Nat.reduceAdd]
      with_reducible rfl
    refine ⟨.inr rfl, _, [.bool false], rfl, ?_, rfl, rfl⟩
    simp only [Tryz.f530, resF, ev_tmp, T.get_set, Nat.reduceEqDiff, if_true, if_false, evG_some, R.ok_bind]
  exact hg
theorem run_less {a b : Nat} {A : Mem} : Ans tbX 513 [.int .u8 (a : Int), .int .u8 (b : Int)] A (.bool (decide (a < b))) A := by
  obtain ⟨v, A', hg, rfl, rfl⟩ : ∃ v A', Ans tbX 513 [.int .u8 (a : Int), .int .u8 (b : Int)] A v A' ∧ v = .bool (decide (a < b)) ∧ A' = A := by
    refine ans_of_W (fn_atX Tryz.func513) zc18_eq (by rw [Tryz.ntmps513]; simp) (by kernel_rfl) (by kernel_rfl) ?_
    obtain ⟨g, hg⟩ := run_nan (a := a) (A := A)
    obtain ⟨g', hg'⟩ := run_nan (a := b) (A := A)
    have hg : ∀ M, max g g' ≤ M → _ := fun M hM => hg M (by omega)
    have hg' : ∀ M, max g g' ≤ M → _ := fun M hM => hg' M (by omega)
    apply W.seq
    apply W.run 20
    · intro M
      simp (config := { maxSteps := 4000000 }) (disch := first | decide +kernel | omega | simp only [Wq, Nat.reduceEqDiff]) only [zc18, Tryz.f513, Aq, Nat.ble, reduceIte, Nat.reduceEqDiff, Nat.reduceAdd]
      with_reducible rfl
    apply W.seq
    apply W.runG (max g g') 20
    · intro M hM
      simp (config := { maxSteps := 4000000 }) (disch := first | decide +kernel | omega | simp only [Wq, Nat.reduceEqDiff]) only [zc18, Tryz.f513, Aq, Nat.ble, reduceIte, Nat.reduceEqDiff, Nat.reduceAdd, hg, hg']
      with_reducible rfl
    show W tbX _ _ _
    apply W.run 20
    · intro M
      simp (config := { maxSteps := 4000000 }) (disch := first | decide +kernel | omega | simp only [Wq, Nat.reduceEqDiff]) only [zc18, Tryz.f513, Aq, Nat.ble, reduceIte, Nat.reduceEqDiff, Nat.reduceAdd]
      with_reducible rfl
    refine ⟨.inr rfl, _, [.bool (decide (a < b))], rfl, ?_, rfl, rfl⟩
    simp only [Tryz.f513, resF, ev_tmp, T.get_set, Nat.reduceEqDiff, if_true, if_false, evG_some, R.ok_bind]
  exact hg
def lessK : List Value → Option Value
  | [.int .u8 (.ofNat a), .int .u8 (.ofNat b)] => some (.bool (decide (a < b)))
  | _ => none
theorem hook_less : HookOk tbX.P 513 (pureHook lessK) := by
  refine hook_pure tbX_ok (f := 513) (fn := Tryz.f513) (fn_atX Tryz.func513) zc18_eq fun args v h => ?_
  unfold lessK at h
  split at h
  · rename_i a b
    cases h
    obtain ⟨n, hc⟩ := ans_calls (tb := tbX) (fn_atX Tryz.func513) zc18_eq (by kernel_rfl) (by kernel_rfl) (run_less (a := a) (b := b) (A := mem0))
    exact ⟨by simp [flat], by simp [flat], n, mem0, hc⟩
  · cases h
/-! ### How many bits -/
theorem len_true : ((List.range 64).all fun n => isVal (callX tbX 1000 242 [.int .u64 (.ofNat n)] mem0) (.int .i64 (.ofNat (bitsLen n)))) = true := by kernel_rfl
def lenK : List Value → Option Value
  | [.int .u64 (.ofNat n)] => bif Nat.blt n 64 then some (.int .i64 (.ofNat (bitsLen n))) else none
  | _ => none
theorem isVal_of {r : R Res} {v : Value} (h : isVal r v = true) : ∃ A, r = .ok (.val v A) := by
  unfold isVal at h
  split at h
  · rename_i u A
    exact ⟨A, by rw [sameV_eq _ _ _ h]⟩
  · cases h
theorem hook_len : HookOk tbX.P 242 (pureHook lenK) := by
  refine hook_pure tbX_ok (f := 242) (fn := Tryz.f242) (fn_atX Tryz.func242) (c := (Tryz.f242.body).getD .skip) (by kernel_rfl) fun args v h => ?_
  unfold lenK at h
  split at h
  · rename_i n
    cases hn : Nat.blt n 64 with
    | false => rw [hn] at h; cases h
    | true =>
      rw [hn] at h
      cases h
      have hr := List.all_eq_true.1 len_true n (by rw [List.mem_range]; rw [Nat.blt_eq] at hn; exact hn)
      rw [callX_eq] at hr
      obtain ⟨A, e⟩ := isVal_of hr
      exact ⟨by simp [flat], by simp [flat], 1000, A, e⟩
  · cases h
noncomputable def tb1 : Tab := (tbX.know 242 (pureHook lenK)).know 513 (pureHook lessK)
theorem tb1_ok : TabOk tb1 := know_ok (know_ok tbX_ok hook_len) hook_less
theorem kLen {ih : Code → St → R (Ex × St)} {A : Mem} {n : Nat} (h : n < 64) : callF tb1 ih (.fn 242 [.int .u64 ((n : Nat) : Int)]) A = .ok (.val (.int .i64 ((bitsLen n : Nat) : Int)) A) :=
  callF_known (c := (Tryz.f242.body).getD .skip) (fn_atX Tryz.func242) (by kernel_rfl) (by kernel_rfl) (h := pureHook lenK) (by kernel_rfl) (by
    unfold pureHook
    show (match lenK [.int .u64 (.ofNat n)] with | some v => R.ok (v, A) | none => .no 600) = _
    have e : Nat.blt n 64 = true := by rw [Nat.blt_eq]; exact h
    simp only [lenK, e, cond_true]
    rfl)
theorem kLess {ih : Code → St → R (Ex × St)} {A : Mem} {a b : UInt8} : callF tb1 ih (.fn 513 [.int .u8 ((a.toNat : Nat) : Int), .int .u8 ((b.toNat : Nat) : Int)]) A = .ok (.val (.bool (ltB a b)) A) :=
  callF_known (c := (Tryz.f513.body).getD .skip) (fn_atX Tryz.func513) (by kernel_rfl) (by kernel_rfl) (h := pureHook lessK) (by kernel_rfl) rfl

/-! ### A row of bytes -/
theorem und3 : tb1.und 3 = some (.int .i64) := by kernel_rfl
theorem und5 : tb1.und 5 = some (.int .u8) := by kernel_rfl
theorem und23 : tb1.und 34 = some (.slice 5) := by kernel_rfl
theorem size5 : sizeF tb1 5 = .ok 1 := by kernel_rfl
def vals (d : Array UInt8) : List Value := d.toList.map byteV
theorem vals_len (d : Array UInt8) : (vals d).length = d.size := by simp [vals]
def bv (d : Array UInt8) (i : Nat) : Value := .int .u8 (((d[i]!).toNat : Nat) : Int)
theorem vals_get {d : Array UInt8} {i : Nat} (h : i < d.size) : (vals d)[i]? = some (bv d i) := by
  unfold vals bv
  rw [List.getElem?_map, Array.getElem?_toList, Array.getElem?_eq_getElem h, getElem!_pos d i h]
  rfl
def RB (D : Mem) (b : Nat) (d : Array UInt8) (x : Value) : Prop := (x = .slice none 0 0 ∧ d.size = 0) ∨ ∃ c, x = .slice (some ⟨b, 0, none⟩) d.size c ∧ b < D.next ∧ Vals D 5 b .row (vals d)
theorem RB.idx {D : Mem} {b i : Nat} {d : Array UInt8} {x : Value} (h : RB D b d x) (hi : i < d.size) : indexAddrF tb1 34 x (.int .i64 ((i : Nat) : Int)) = .ok (.pointer (some ⟨b, i, none⟩)) := by
  rcases h with ⟨-, h0⟩ | ⟨c, rfl, -⟩
  · omega
  have := indexAddr_slc (tb := tb1) (t := 34) (len := d.size) (cap := c) (b := b) (o := 0) (i := i) (k := .i64) und23 size5 hi
  rwa [Nat.zero_add] at this
theorem RB.load {D : Mem} {b i : Nat} {d : Array UInt8} {x : Value} (h : RB D b d x) (hi : i < d.size) : loadF tb1 D.get 5 (.pointer (some ⟨b, i, none⟩)) = .ok (bv d i) := by
  rcases h with ⟨-, h0⟩ | ⟨c, rfl, -, h3⟩
  · omega
  exact load_vals und5 rfl h3 (vals_get hi)
theorem RB.same {D D' : Mem} {b : Nat} {d : Array UInt8} {x : Value} (h : RB D b d x) (hn : D.next ≤ D'.next) (hg : D'.get b = D.get b) : RB D' b d x := by
  rcases h with h | ⟨c, h1, h2, h3⟩
  · exact .inl h
  exact .inr ⟨c, h1, by omega, h3.same hg⟩
theorem RB.lt {D : Mem} {b : Nat} {d : Array UInt8} {x : Value} (h : RB D b d x) (h0 : 0 < d.size) : b < D.next := by
  rcases h with ⟨-, h⟩ | ⟨c, -, h, -⟩
  · omega
  · exact h
theorem RB.len {D : Mem} {b : Nat} {d : Array UInt8} {x : Value} (h : RB D b d x) : builtinPF tb1 .len [34] [x] = .ok (.int .i64 ((d.size : Nat) : Int)) := by
  rcases h with ⟨rfl, h⟩ | ⟨c, rfl, -⟩
  · rw [h]; exact len_slc und23
  · exact len_slc und23
theorem RB.store {D : Mem} {b i : Nat} {d : Array UInt8} {x : Value} (h : RB D b d x) (hi : i < d.size) (v : UInt8) : ∃ D', storeF tb1 D 5 (.pointer (some ⟨b, i, none⟩)) (.int .u8 ((v.toNat : Nat) : Int)) = .ok D' ∧ RB D' b (d.setIfInBounds i v) x ∧ D'.next = D.next ∧ ∀ y, y ≠ b → D'.get y = D.get y := by
  rcases h with ⟨-, h0⟩ | ⟨c, rfl, h2, h3⟩
  · omega
  obtain ⟨D', e1, e2, e3, e4⟩ := store_vals (tb := tb1) (t := 5) (o := i) (v := .int .u8 ((v.toNat : Nat) : Int)) size5 h3 (by rw [vals_len]; exact hi) rfl rfl
  refine ⟨D', e1, .inr ⟨c, by simp, by omega, ?_⟩, e3, e4⟩
  have : vals (d.setIfInBounds i v) = (vals d).set i (.int .u8 ((v.toNat : Nat) : Int)) := by
    unfold vals
    rw [Array.toList_setIfInBounds, List.map_set]
    rfl
  rw [this]; exact e2
theorem swp_size (d : Array UInt8) (i j : Nat) : (swp d i j).size = d.size := by simp [swp]
/-- Two bytes change places. -/
theorem RB.swap {D : Mem} {b i j : Nat} {d : Array UInt8} {x : Value} (h : RB D b d x) (hi : i < d.size) (hj : j < d.size) : ∃ D1 D2, storeF tb1 D 5 (.pointer (some ⟨b, i, none⟩)) (bv d j) = .ok D1 ∧ storeF tb1 D1 5 (.pointer (some ⟨b, j, none⟩)) (bv d i) = .ok D2 ∧ RB D2 b (swp d i j) x ∧ D2.next = D.next ∧ ∀ y, y ≠ b → D2.get y = D.get y := by
  obtain ⟨D1, e1, h1, n1, f1⟩ := h.store hi d[j]!
  obtain ⟨D2, e2, h2, n2, f2⟩ := h1.store (i := j) (by simpa using hj) d[i]!
  exact ⟨D1, D2, e1, e2, h2, by omega, fun y hy => by rw [f2 y hy, f1 y hy]⟩
/-- What stays behind a run on a row. -/
structure Kp (b : Nat) (A A' : Mem) : Prop where
  n : A'.next = A.next
  g : ∀ y, y < A.next → y ≠ b → A'.get y = A.get y
theorem Kp.refl (b : Nat) (A : Mem) : Kp b A A := ⟨rfl, fun _ _ _ => rfl⟩
theorem Kp.trans {b : Nat} {A B C : Mem} (h : Kp b A B) (k : Kp b B C) : Kp b A C := ⟨k.n.trans h.n, fun y hy hb => (k.g y (by rw [h.n]; exact hy) hb).trans (h.g y hy hb)⟩
theorem Kp.of {b : Nat} {A A' : Mem} (hn : A'.next = A.next) (hg : ∀ y, y ≠ b → A'.get y = A.get y) : Kp b A A' := ⟨hn, fun y _ hb => hg y hb⟩
/-- The same, where at most k blocks come. -/
structure Ku (b k : Nat) (A A' : Mem) : Prop where
  n : A.next ≤ A'.next
  u : A'.next ≤ A.next + k
  g : ∀ y, y < A.next → y ≠ b → A'.get y = A.get y
theorem Ku.refl (b k : Nat) (A : Mem) : Ku b k A A := ⟨Nat.le_refl _, Nat.le_add_right _ _, fun _ _ _ => rfl⟩
theorem Ku.trans {b k l m : Nat} {A B C : Mem} (h : Ku b k A B) (j : Ku b l B C) (hm : k + l ≤ m) : Ku b m A C := ⟨Nat.le_trans h.n j.n, by have := h.u; have := j.u; omega, fun y hy hb => (j.g y (Nat.lt_of_lt_of_le hy h.n) hb).trans (h.g y hy hb)⟩
theorem Kp.ku {b k : Nat} {A A' : Mem} (h : Kp b A A') : Ku b k A A' := ⟨by rw [h.n]; exact Nat.le_refl _, by rw [h.n]; exact Nat.le_add_right _ _, h.g⟩

noncomputable def zc12 : Code := Tryz.f507.body.getD .skip
noncomputable def zc12o : Code := sub zc12 [1,0,0]
noncomputable def zc12i : Code := sub zc12o [1,0,0,1,0,0]
theorem zc12_eq : Tryz.f507.body = some (.seq (sub zc12 [0]) (.block 0 (.loop zc12o))) := by kernel_rfl
theorem zc12o_eq : zc12o = (.seq (.seq (sub zc12o [0,0]) (sub zc12o [0,1])) (.seq (.block 1 (.seq (sub zc12o [1,0,0,0]) (.block 2 (.loop zc12i)))) (sub zc12o [1,1]))) := by kernel_rfl
theorem zc12i_eq : zc12i = (.seq (.seq (sub zc12i [0,0]) (sub zc12i [0,1])) (.seq (.block 3 (sub zc12i [1,0,0])) (sub zc12i [1,1]))) := by kernel_rfl
theorem insInner_size (a : Nat) : ∀ (j : Nat) (d : Array UInt8), (insInner ltB a j d).size = d.size
  | 0, d => rfl
  | j + 1, d => by
    unfold insInner
    split
    · rw [insInner_size, swp_size]
    · rfl
def insS (x : Value) (a e i : Nat) : List (Nat × Value) := [(0, x), (1, .int .i64 ((a : Nat) : Int)), (2, .int .i64 ((e : Nat) : Int)), (6, .int .i64 ((i : Nat) : Int))]
set_option maxHeartbeats 8000000 in
/-- One goes down. -/
theorem ins_inner {D : Mem} {b a e i : Nat} {d : Array UInt8} {x : Value} {t : T Value} {K : Ex → St → Prop} (h : RB D b d x) (hi : i < d.size) (hz : d.size < 1000000) (hs : Sl t (insS x a e i))
    (hK : ∀ t' D', Sl t' (insS x a e i) → RB D' b (insInner ltB a i d) x → Kp b D D' → K .nrm ⟨t', 49, [], D', none⟩) : W tb1 (.block 1 (.seq (sub zc12o [1,0,0,0]) (.block 2 (.loop zc12i)))) ⟨t, 49, [], D, none⟩ K := by
  obtain ⟨g0, g1, g2, g6, -⟩ := hs
  apply W.block
  apply W.seq
  apply W.run 20
  · intro M
    simp (config := { maxSteps := 4000000 }) (disch := first | decide +kernel | omega | simp only [Wq, Nat.reduceEqDiff]) only [zc12o, zc12, Tryz.f507, Aq, Nat.ble, reduceIte, Nat.reduceEqDiff, Nat.reduceAdd, g6]
    with_reducible rfl
  show W tb1 _ _ _
  apply W.block
  refine W.fall (fun k t C => ∃ q, RB C b q x ∧ q.size = d.size ∧ insInner ltB a k q = insInner ltB a i d ∧ k < d.size ∧ Kp b D C ∧ Sl t (insS x a e i ++ [(7, .int .i64 ((k : Nat) : Int))])) ?_ (k := i) ⟨d, h, rfl, rfl, hi, Kp.refl _ _, ?_⟩
  · rintro k t C ⟨q, hq, hqs, he, hk, hKp, g0, g1, g2, g6, g7, -⟩
    rw [zc12i_eq]
    apply W.seq
    apply W.seq
    cases k with
    | zero =>
      have d1 : decide (a < 0) = false := by simp
      apply W.run 20
      · intro M
        simp (config := { maxSteps := 4000000 }) (disch := first | decide +kernel | omega | simp only [Wq, Nat.reduceEqDiff]) only [zc12i, zc12o, zc12, Tryz.f507, Aq, Nat.ble, reduceIte, Nat.reduceEqDiff, Nat.reduceAdd, g0, g1, g7, d1]
        with_reducible rfl
      show W tb1 _ _ _
      apply W.run 20
      · intro M
        simp (config := { maxSteps := 4000000 }) (disch := first | decide +kernel | omega | simp only [Wq, Nat.reduceEqDiff]) only [zc12i, zc12o, zc12, Tryz.f507, Aq, Nat.ble, reduceIte, Nat.reduceEqDiff, Nat.reduceAdd]
        with_reducible rfl
      refine hK _ _ ?_ (by rw [← he]; exact hq) hKp
      unfold insS
      simp only [Sl_cons, Sl_nil, T.get_set, T.puts_cons, T.puts_nil, Nat.reduceEqDiff, Nat.reduceAdd, if_true, if_false, and_true, true_and, g0, g1, g2, g6]
    | succ j =>
      by_cases ha : a < j + 1
      · have d1 : decide (a < j + 1) = true := decide_eq_true ha
        have s1 : intOpF .sub .i64 ((j + 1 : Nat) : Int) ((1 : Nat) : Int) = .ok (.int .i64 ((j : Nat) : Int)) := by
          have := op_sub_i64 (a := j + 1) (b := 1) (by omega) (by omega)
          rwa [Nat.add_sub_cancel] at this
        have i1 := hq.idx (i := j + 1) (by omega)
        have i0 := hq.idx (i := j) (by omega)
        have l1 := hq.load (i := j + 1) (by omega)
        have l0 := hq.load (i := j) (by omega)
        have hl := fun ih => kLess (ih := ih) (A := C) (a := q[j + 1]!) (b := q[j]!)
        cases hc : ltB q[j + 1]! q[j]! with
        | false =>
          rw [hc] at hl
          have hd : insInner ltB a (j + 1) q = q := by
            unfold insInner
            rw [if_neg (by simp [hc])]
          unfold bv at l1 l0
          apply W.run 20
          · intro M
            simp (config := { maxSteps := 4000000 }) (disch := first | decide +kernel | omega | simp only [Wq, Nat.reduceEqDiff]) only [zc12i, zc12o, zc12, Tryz.f507, Aq, Nat.ble, reduceIte, Nat.reduceEqDiff, Nat.reduceAdd, g0, g1, g7, d1, i1, l1, s1, i0, l0, hl]
            with_reducible rfl
          show W tb1 _ _ _
          apply W.run 20
          · intro M
            simp (config := { maxSteps := 4000000 }) (disch := first | decide +kernel | omega | simp only [Wq, Nat.reduceEqDiff]) only [zc12i, zc12o, zc12, Tryz.f507, Aq, Nat.ble, reduceIte, Nat.reduceEqDiff, Nat.reduceAdd]
            with_reducible rfl
          refine hK _ _ ?_ (by rw [← he, hd]; exact hq) hKp
          unfold insS
          simp only [Sl_cons, Sl_nil, T.get_set, T.puts_cons, T.puts_nil, Nat.reduceEqDiff, Nat.reduceAdd, if_true, if_false, and_true, true_and, g0, g1, g2, g6]
        | true =>
          rw [hc] at hl
          have hd : insInner ltB a (j + 1) q = insInner ltB a j (swp q (j + 1) j) := by
            rw [insInner]
            rw [if_pos (by simp [hc]; omega)]
          obtain ⟨D1, D2, hst1, hst2, hr2, hn2, hf2⟩ := hq.swap (i := j + 1) (j := j) (by omega) (by omega)
          unfold bv at l1 l0 hst1 hst2
          apply W.run 20
          · intro M
            simp (config := { maxSteps := 4000000 }) (disch := first | decide +kernel | omega | simp only [Wq, Nat.reduceEqDiff]) only [zc12i, zc12o, zc12, Tryz.f507, Aq, Nat.ble, reduceIte, Nat.reduceEqDiff, Nat.reduceAdd, g0, g1, g7, d1, i1, l1, s1, i0, l0, hl]
            with_reducible rfl
          show W tb1 _ _ _
          apply W.run 20
          · intro M
            simp (config := { maxSteps := 4000000 }) (disch := first | decide +kernel | omega | simp only [Wq, Nat.reduceEqDiff]) only [zc12i, zc12o, zc12, Tryz.f507, Aq, Nat.ble, reduceIte, Nat.reduceEqDiff, Nat.reduceAdd]
            with_reducible rfl
          show W tb1 _ _ _
          apply W.seq
          apply W.block
          apply W.run 20
          · intro M
            simp (config := { maxSteps := 4000000 }) (disch := first | decide +kernel | omega | simp only [Wq, Nat.reduceEqDiff]) only [zc12i, zc12o, zc12, Tryz.f507, Aq, Nat.ble, reduceIte, Nat.reduceEqDiff, Nat.reduceAdd, Fq, g0, g7, i1, i0, l1, l0, s1, hst1, hst2]
            with_reducible rfl
          show W tb1 _ _ _
          apply W.run 20
          · intro M
            simp (config := { maxSteps := 4000000 }) (disch := first | decide +kernel | omega | simp only [Wq, Nat.reduceEqDiff]) only [zc12i, zc12o, zc12, Tryz.f507, Aq, Nat.ble, reduceIte, Nat.reduceEqDiff, Nat.reduceAdd, g7, s1]
            with_reducible rfl
          refine ⟨j, _, _, by omega, rfl, swp q (j + 1) j, hr2, by rw [swp_size]; exact hqs, by rw [← he, hd], by omega, hKp.trans (Kp.of hn2 hf2), ?_⟩
          unfold insS
          simp only [List.cons_append, List.nil_append]
          simp only [Sl_cons, Sl_nil, T.get_set, T.puts_cons, T.puts_nil, Nat.reduceEqDiff, Nat.reduceAdd, if_true, if_false, and_true, true_and, g0, g1, g2, g6]
      · have d1 : decide (a < j + 1) = false := decide_eq_false ha
        have hd : insInner ltB a (j + 1) q = q := by
          unfold insInner
          rw [if_neg (by simp; omega)]
        apply W.run 20
        · intro M
          simp (config := { maxSteps := 4000000 }) (disch := first | decide +kernel | omega | simp only [Wq, Nat.reduceEqDiff]) only [zc12i, zc12o, zc12, Tryz.f507, Aq, Nat.ble, reduceIte, Nat.reduceEqDiff, Nat.reduceAdd, g0, g1, g7, d1]
          with_reducible rfl
        show W tb1 _ _ _
        apply W.run 20
        · intro M
          simp (config := { maxSteps := 4000000 }) (disch := first | decide +kernel | omega | simp only [Wq, Nat.reduceEqDiff]) only [zc12i, zc12o, zc12, Tryz.f507, Aq, Nat.ble, reduceIte, Nat.reduceEqDiff, Nat.reduceAdd]
          with_reducible rfl
        refine hK _ _ ?_ (by rw [← he, hd]; exact hq) hKp
        unfold insS
        simp only [Sl_cons, Sl_nil, T.get_set, T.puts_cons, T.puts_nil, Nat.reduceEqDiff, Nat.reduceAdd, if_true, if_false, and_true, true_and, g0, g1, g2, g6]
  · unfold insS
    simp only [List.cons_append, List.nil_append]
    simp only [Sl_cons, Sl_nil, T.get_set, T.puts_cons, T.puts_nil, Nat.reduceEqDiff, Nat.reduceAdd, if_true, if_false, and_true, true_and, g0, g1, g2, g6]
theorem insOuter_size (a e : Nat) : ∀ (n i : Nat) (d : Array UInt8), e - i ≤ n → (insOuter ltB a e i d).size = d.size := by
  intro n
  induction n with
  | zero =>
    intro i d h
    rw [insOuter, if_neg (by omega)]
  | succ n ih =>
    intro i d h
    rw [insOuter]
    split
    · rw [ih (i + 1) _ (by omega), insInner_size]
    · rfl
set_option maxHeartbeats 8000000 in
theorem run_ins {D : Mem} {b a e : Nat} {d : Array UInt8} {x : Value} (h : RB D b d x) (he : e ≤ d.size) (hae : a ≤ e) (hz : d.size < 1000000) : ∃ D', Ans tb1 507 [x, .int .i64 ((a : Nat) : Int), .int .i64 ((e : Nat) : Int)] D (.tuple ⟨[]⟩) D' ∧ RB D' b (insertionSort ltB d a e) x ∧ Kp b D D' := by
  obtain ⟨v, D', ha, rfl, h1, h2⟩ : ∃ v D', Ans tb1 507 [x, .int .i64 ((a : Nat) : Int), .int .i64 ((e : Nat) : Int)] D v D' ∧ v = .tuple ⟨[]⟩ ∧ RB D' b (insertionSort ltB d a e) x ∧ Kp b D D' := by
    refine ans_of_W (fn_atX Tryz.func507) zc12_eq (by rw [Tryz.ntmps507]; simp) (by kernel_rfl) (by kernel_rfl) ?_
    apply W.seq
    apply W.run 20
    · intro M
      simp (config := { maxSteps := 4000000 }) (disch := first | decide +kernel | omega | simp only [Wq, Nat.reduceEqDiff]) only [zc12, Tryz.f507, Aq, Nat.ble, reduceIte, Nat.reduceEqDiff, Nat.reduceAdd]
      with_reducible rfl
    show W tb1 _ _ _
    apply W.block
    refine W.fall (fun k t C => ∃ i q, k = e + 1 - i ∧ i ≤ e + 1 ∧ RB C b q x ∧ q.size = d.size ∧ insOuter ltB a e i q = insertionSort ltB d a e ∧ Kp b D C ∧ Sl t (insS x a e i)) ?_ (k := e + 1 - (a + 1)) ⟨a + 1, d, rfl, by omega, h, rfl, rfl, Kp.refl _ _, ?_⟩
    · rintro k t C ⟨i, q, rfl, hi, hq, hqs, heq, hKp, g0, g1, g2, g6, -⟩
      rw [zc12o_eq]
      apply W.seq
      apply W.seq
      by_cases hlt : i < e
      · have d1 : decide (i < e) = true := decide_eq_true hlt
        have hd : insOuter ltB a e i q = insOuter ltB a e (i + 1) (insInner ltB a i q) := by
          rw [insOuter, if_pos hlt]
        apply W.run 20
        · intro M
          simp (config := { maxSteps := 4000000 }) (disch := first | decide +kernel | omega | simp only [Wq, Nat.reduceEqDiff]) only [zc12o, zc12, Tryz.f507, Aq, Nat.ble, reduceIte, Nat.reduceEqDiff, Nat.reduceAdd, g2, g6, d1]
          with_reducible rfl
        show W tb1 _ _ _
        apply W.run 20
        · intro M
          simp (config := { maxSteps := 4000000 }) (disch := first | decide +kernel | omega | simp only [Wq, Nat.reduceEqDiff]) only [zc12o, zc12, Tryz.f507, Aq, Nat.ble, reduceIte, Nat.reduceEqDiff, Nat.reduceAdd]
          with_reducible rfl
        show W tb1 _ _ _
        apply W.seq
        refine ins_inner (e := e) (a := a) (i := i) hq (by omega) (by omega) (t := _) (by unfold insS; simp only [Sl_cons, Sl_nil, T.get_set, T.puts_cons, T.puts_nil, Nat.reduceEqDiff, Nat.reduceAdd, if_true, if_false, and_true, true_and, g0, g1, g2, g6]) ?_
        rintro t' C' ⟨f0, f1, f2, f6, -⟩ hr hk
        show W tb1 _ _ _
        apply W.run 20
        · intro M
          simp (config := { maxSteps := 4000000 }) (disch := first | decide +kernel | omega | simp only [Wq, Nat.reduceEqDiff]) only [zc12o, zc12, Tryz.f507, Aq, Nat.ble, reduceIte, Nat.reduceEqDiff, Nat.reduceAdd, f6]
          with_reducible rfl
        refine ⟨e + 1 - (i + 1), _, _, by omega, rfl, i + 1, _, rfl, by omega, hr, by rw [insInner_size]; exact hqs, by rw [← heq, hd], hKp.trans hk, ?_⟩
        unfold insS
        simp only [Sl_cons, Sl_nil, T.get_set, T.puts_cons, T.puts_nil, Nat.reduceEqDiff, Nat.reduceAdd, if_true, if_false, and_true, true_and, f0, f1, f2]
      · have d1 : decide (i < e) = false := decide_eq_false hlt
        have hd : insOuter ltB a e i q = q := by rw [insOuter, if_neg hlt]
        apply W.run 20
        · intro M
          simp (config := { maxSteps := 4000000 }) (disch := first | decide +kernel | omega | simp only [Wq, Nat.reduceEqDiff]) only [zc12o, zc12, Tryz.f507, Aq, Nat.ble, reduceIte, Nat.reduceEqDiff, Nat.reduceAdd, g2, g6, d1]
          with_reducible rfl
        show W tb1 _ _ _
        apply W.run 20
        · intro M
          simp (config := { maxSteps := 4000000 }) (disch := first | decide +kernel | omega | simp only [Wq, Nat.reduceEqDiff]) only [zc12o, zc12, Tryz.f507, Aq, Nat.ble, reduceIte, Nat.reduceEqDiff, Nat.reduceAdd]
          with_reducible rfl
        refine ⟨.inl rfl, _, [], rfl, ?_, rfl, by rw [← heq, hd]; exact hq, hKp⟩
        simp only [Tryz.f507, resF]
    · unfold insS
      simp only [Sl_cons, Sl_nil, T.get_set, T.puts_cons, T.puts_nil, Nat.reduceEqDiff, Nat.reduceAdd, if_true, if_false, and_true, true_and]
  exact ⟨D', ha, h1, h2⟩


noncomputable def zc23 : Code := Tryz.f527.body.getD .skip
noncomputable def zc23l : Code := sub zc23 [1,0,0]
noncomputable def zc23b : Code := sub zc23l [0]
theorem zc23_eq : Tryz.f527.body = some (.seq (sub zc23 [0]) (.block 0 (.loop zc23l))) := by kernel_rfl
theorem zc23l_eq : zc23l = .block 1 (.seq (sub zc23b [0]) (.seq (.seq (sub zc23b [1,0,0]) (sub zc23b [1,0,1])) (.seq (.seq (sub zc23b [1,1,0,0]) (sub zc23b [1,1,0,1])) (.seq (.seq (sub zc23b [1,1,1,0,0]) (sub zc23b [1,1,1,0,1])) (.seq (sub zc23b [1,1,1,1,0]) (sub zc23b [1,1,1,1,1])))))) := by kernel_rfl
def sdS (x : Value) (lo hi first r : Nat) : List (Nat × Value) := [(0, x), (1, .int .i64 ((lo : Nat) : Int)), (2, .int .i64 ((hi : Nat) : Int)), (3, .int .i64 ((first : Nat) : Int)), (8, .int .i64 ((r : Nat) : Int))]
set_option maxHeartbeats 8000000 in
theorem sift_tail {C : Mem} {b lo hi first r c : Nat} {q : Array UInt8} {x : Value} {t : T Value} {K : Ex → St → Prop} (hq : RB C b q x) (hr : first + r < q.size) (hc : first + c < q.size) (hz : q.size < 1000000) (hs : Sl t (sdS x lo hi first r ++ [(9, .int .i64 ((c : Nat) : Int))]))
    (hno : ltB q[first + r]! q[first + c]! = false → ∀ t', K .ret ⟨t', 76, [], C, none⟩)
    (hyes : ltB q[first + r]! q[first + c]! = true → ∀ t' C', Sl t' (sdS x lo hi first c) → RB C' b (swp q (first + r) (first + c)) x → Kp b C C' → K .nrm ⟨t', 76, [], C', none⟩) :
    W tb1 (.seq (.seq (sub zc23b [1,1,1,0,0]) (sub zc23b [1,1,1,0,1])) (.seq (sub zc23b [1,1,1,1,0]) (sub zc23b [1,1,1,1,1]))) ⟨t, 76, [], C, none⟩ K := by
  obtain ⟨g0, g1, g2, g3, g8, g9, -⟩ := hs
  have a1 : intOpF .add .i64 ((first : Nat) : Int) ((r : Nat) : Int) = .ok (.int .i64 ((first + r : Nat) : Int)) := op_add_i64 (by omega)
  have a2 : intOpF .add .i64 ((first : Nat) : Int) ((c : Nat) : Int) = .ok (.int .i64 ((first + c : Nat) : Int)) := op_add_i64 (by omega)
  have i1 := hq.idx (i := first + r) hr
  have i2 := hq.idx (i := first + c) hc
  have l1 := hq.load (i := first + r) hr
  have l2 := hq.load (i := first + c) hc
  have hl := fun ih => kLess (ih := ih) (A := C) (a := q[first + r]!) (b := q[first + c]!)
  apply W.seq
  apply W.seq
  cases hx : ltB q[first + r]! q[first + c]! with
  | false =>
    rw [hx] at hl
    unfold bv at l1 l2
    apply W.run 20
    · intro M
      simp (config := { maxSteps := 4000000 }) (disch := first | decide +kernel | omega | simp only [Wq, Nat.reduceEqDiff]) only [zc23b, zc23l, zc23, Tryz.f527, Aq, Nat.ble, reduceIte, Nat.reduceEqDiff, Nat.reduceAdd, g0, g3, g8, g9, a1, a2, i1, i2, l1, l2, hl]
      with_reducible rfl
    show W tb1 _ _ _
    apply W.run 20
    · intro M
      simp (config := { maxSteps := 4000000 }) (disch := first | decide +kernel | omega | simp only [Wq, Nat.reduceEqDiff]) only [zc23b, zc23l, zc23, Tryz.f527, Aq, Nat.ble, reduceIte, Nat.reduceEqDiff, Nat.reduceAdd]
      with_reducible rfl
    exact hno hx _
  | true =>
    rw [hx] at hl
    obtain ⟨D1, D2, hst1, hst2, hr2, hn2, hf2⟩ := hq.swap hr hc
    unfold bv at l1 l2 hst1 hst2
    apply W.run 20
    · intro M
      simp (config := { maxSteps := 4000000 }) (disch := first | decide +kernel | omega | simp only [Wq, Nat.reduceEqDiff]) only [zc23b, zc23l, zc23, Tryz.f527, Aq, Nat.ble, reduceIte, Nat.reduceEqDiff, Nat.reduceAdd, g0, g3, g8, g9, a1, a2, i1, i2, l1, l2, hl]
      with_reducible rfl
    show W tb1 _ _ _
    apply W.run 20
    · intro M
      simp (config := { maxSteps := 4000000 }) (disch := first | decide +kernel | omega | simp only [Wq, Nat.reduceEqDiff]) only [zc23b, zc23l, zc23, Tryz.f527, Aq, Nat.ble, reduceIte, Nat.reduceEqDiff, Nat.reduceAdd]
      with_reducible rfl
    show W tb1 _ _ _
    apply W.seq
    apply W.run 20
    · intro M
      simp (config := { maxSteps := 4000000 }) (disch := first | decide +kernel | omega | simp only [Wq, Nat.reduceEqDiff]) only [zc23b, zc23l, zc23, Tryz.f527, Aq, Nat.ble, reduceIte, Nat.reduceEqDiff, Nat.reduceAdd, Fq, g0, g3, g8, g9, a1, a2, i1, i2, l1, l2, hst1, hst2]
      with_reducible rfl
    show W tb1 _ _ _
    apply W.run 20
    · intro M
      simp (config := { maxSteps := 4000000 }) (disch := first | decide +kernel | omega | simp only [Wq, Nat.reduceEqDiff]) only [zc23b, zc23l, zc23, Tryz.f527, Aq, Nat.ble, reduceIte, Nat.reduceEqDiff, Nat.reduceAdd, g9]
      with_reducible rfl
    refine hyes hx _ _ ?_ hr2 (Kp.of hn2 hf2)
    unfold sdS
    simp only [Sl_cons, Sl_nil, T.get_set, T.puts_cons, T.puts_nil, Nat.reduceEqDiff, Nat.reduceAdd, if_true, if_false, and_true, true_and, g0, g1, g2, g3]
theorem sift_child {C : Mem} {b lo hi first r c : Nat} {q : Array UInt8} {x : Value} {t' : T Value} {K : Ex → St → Prop} (hq : RB C b q x) (hb : first + hi ≤ q.size) (hz : q.size < 1000000) (hge : ¬ hi ≤ 2 * r + 1) (hc : c = (if 2 * r + 1 + 1 < hi && ltB q[first + (2 * r + 1)]! q[first + (2 * r + 1) + 1]! then 2 * r + 2 else 2 * r + 1)) (hs : Sl t' (sdS x lo hi first r ++ [(9, .int .i64 ((c : Nat) : Int))]))
    (hno : siftDown ltB hi first r q = q → ∀ t', K .ret ⟨t', 76, [], C, none⟩)
    (hyes : ∀ t' C', Sl t' (sdS x lo hi first c) → r < c → c < hi → RB C' b (swp q (first + r) (first + c)) x → Kp b C C' → siftDown ltB hi first r q = siftDown ltB hi first c (swp q (first + r) (first + c)) → K .nrm ⟨t', 76, [], C', none⟩) :
    W tb1 (.seq (.seq (sub zc23b [1,1,1,0,0]) (sub zc23b [1,1,1,0,1])) (.seq (sub zc23b [1,1,1,1,0]) (sub zc23b [1,1,1,1,1]))) ⟨t', 76, [], C, none⟩ K := by
  by_cases hcc : (2 * r + 1 + 1 < hi && ltB q[first + (2 * r + 1)]! q[first + (2 * r + 1) + 1]!) = true
  · rw [if_pos hcc] at hc
    subst hc
    have hlt : 2 * r + 2 < hi := by simp only [Bool.and_eq_true, decide_eq_true_eq] at hcc; omega
    refine sift_tail hq (by omega) (by omega) (by omega) hs (fun hx t' => hno ?_ t') (fun hx t' C' h1 h2 h3 => hyes t' C' h1 (by omega) hlt h2 h3 ?_)
    · rw [siftDown, dif_neg hge, if_pos hcc, if_pos (by rw [hx]; rfl)]
    · rw [siftDown, dif_neg hge, if_pos hcc, if_neg (by rw [hx]; simp), dif_pos hlt]
  · rw [if_neg hcc] at hc
    subst hc
    refine sift_tail hq (by omega) (by omega) (by omega) hs (fun hx t' => hno ?_ t') (fun hx t' C' h1 h2 h3 => hyes t' C' h1 (by omega) (by omega) h2 h3 ?_)
    · rw [siftDown, dif_neg hge, if_neg hcc, if_pos (by rw [hx]; rfl)]
    · rw [siftDown, dif_neg hge, if_neg hcc, if_neg (by rw [hx]; simp)]
set_option maxHeartbeats 8000000 in
theorem run_sift {D : Mem} {b lo hi first : Nat} {d : Array UInt8} {x : Value} (h : RB D b d x) (hb : first + hi ≤ d.size) (hlo : lo ≤ hi) (hz : d.size < 1000000) : ∃ D', Ans tb1 527 [x, .int .i64 ((lo : Nat) : Int), .int .i64 ((hi : Nat) : Int), .int .i64 ((first : Nat) : Int)] D (.tuple ⟨[]⟩) D' ∧ RB D' b (siftDown ltB hi first lo d) x ∧ (siftDown ltB hi first lo d).size = d.size ∧ Kp b D D' := by
  obtain ⟨v, D', ha, rfl, h1, h2⟩ : ∃ v D', Ans tb1 527 [x, .int .i64 ((lo : Nat) : Int), .int .i64 ((hi : Nat) : Int), .int .i64 ((first : Nat) : Int)] D v D' ∧ v = .tuple ⟨[]⟩ ∧ RB D' b (siftDown ltB hi first lo d) x ∧ (siftDown ltB hi first lo d).size = d.size ∧ Kp b D D' := by
    refine ans_of_W (fn_atX Tryz.func527) zc23_eq (by rw [Tryz.ntmps527]; simp) (by kernel_rfl) (by kernel_rfl) ?_
    apply W.seq
    apply W.run 20
    · intro M
      simp (config := { maxSteps := 4000000 }) (disch := first | decide +kernel | omega | simp only [Wq, Nat.reduceEqDiff]) only [zc23, Tryz.f527, Aq, Nat.ble, reduceIte, Nat.reduceEqDiff, Nat.reduceAdd]
      with_reducible rfl
    show W tb1 _ _ _
    apply W.block
    refine W.fall (fun k t C => ∃ r q, k = hi - r ∧ r ≤ hi ∧ RB C b q x ∧ q.size = d.size ∧ siftDown ltB hi first r q = siftDown ltB hi first lo d ∧ Kp b D C ∧ Sl t (sdS x lo hi first r)) ?_ (k := hi - lo) ⟨lo, d, rfl, hlo, h, rfl, rfl, Kp.refl _ _, ?_⟩
    · rintro k t C ⟨r, q, rfl, hi', hq, hqs, heq, hKp, g0, g1, g2, g3, g8, -⟩
      rw [zc23l_eq]
      apply W.block
      apply W.seq
      have m1 : intOpF .mul .i64 ((2 : Nat) : Int) ((r : Nat) : Int) = .ok (.int .i64 ((2 * r : Nat) : Int)) := op_mul_i64 (by omega)
      have m2 : intOpF .add .i64 ((2 * r : Nat) : Int) ((1 : Nat) : Int) = .ok (.int .i64 ((2 * r + 1 : Nat) : Int)) := op_add_i64 (by omega)
      apply W.run 20
      · intro M
        simp (config := { maxSteps := 4000000 }) (disch := first | decide +kernel | omega | simp only [Wq, Nat.reduceEqDiff]) only [zc23b, zc23l, zc23, Tryz.f527, Aq, Nat.ble, reduceIte, Nat.reduceEqDiff, Nat.reduceAdd, g8, m1, m2]
        with_reducible rfl
      show W tb1 _ _ _
      apply W.seq
      apply W.seq
      by_cases hge : hi ≤ 2 * r + 1
      · have d1 : decide (hi ≤ 2 * r + 1) = true := decide_eq_true hge
        have hd : siftDown ltB hi first r q = q := by rw [siftDown, dif_pos hge]
        apply W.run 20
        · intro M
          simp (config := { maxSteps := 4000000 }) (disch := first | decide +kernel | omega | simp only [Wq, Nat.reduceEqDiff]) only [zc23b, zc23l, zc23, Tryz.f527, Aq, Nat.ble, reduceIte, Nat.reduceEqDiff, Nat.reduceAdd, g2, d1]
          with_reducible rfl
        show W tb1 _ _ _
        apply W.run 20
        · intro M
          simp (config := { maxSteps := 4000000 }) (disch := first | decide +kernel | omega | simp only [Wq, Nat.reduceEqDiff]) only [zc23b, zc23l, zc23, Tryz.f527, Aq, Nat.ble, reduceIte, Nat.reduceEqDiff, Nat.reduceAdd]
          with_reducible rfl
        refine ⟨.inl rfl, _, [], rfl, ?_, rfl, by rw [← heq, hd]; exact hq, by rw [← heq, hd]; exact hqs, hKp⟩
        simp only [Tryz.f527, resF]
      · have d1 : decide (hi ≤ 2 * r + 1) = false := decide_eq_false hge
        apply W.run 20
        · intro M
          simp (config := { maxSteps := 4000000 }) (disch := first | decide +kernel | omega | simp only [Wq, Nat.reduceEqDiff]) only [zc23b, zc23l, zc23, Tryz.f527, Aq, Nat.ble, reduceIte, Nat.reduceEqDiff, Nat.reduceAdd, g2, d1]
          with_reducible rfl
        show W tb1 _ _ _
        apply W.run 20
        · intro M
          simp (config := { maxSteps := 4000000 }) (disch := first | decide +kernel | omega | simp only [Wq, Nat.reduceEqDiff]) only [zc23b, zc23l, zc23, Tryz.f527, Aq, Nat.ble, reduceIte, Nat.reduceEqDiff, Nat.reduceAdd]
          with_reducible rfl
        show W tb1 _ _ _
        apply W.seq
        apply W.seq
        have m3 : intOpF .add .i64 ((2 * r + 1 : Nat) : Int) ((1 : Nat) : Int) = .ok (.int .i64 ((2 * r + 2 : Nat) : Int)) := op_add_i64 (by omega)
        have a1 : intOpF .add .i64 ((first : Nat) : Int) ((2 * r + 1 : Nat) : Int) = .ok (.int .i64 ((first + (2 * r + 1) : Nat) : Int)) := op_add_i64 (by omega)
        have a2 : intOpF .add .i64 ((first + (2 * r + 1) : Nat) : Int) ((1 : Nat) : Int) = .ok (.int .i64 ((first + (2 * r + 1) + 1 : Nat) : Int)) := op_add_i64 (by omega)
        by_cases hlt : 2 * r + 2 < hi
        · have d2 : decide (2 * r + 2 < hi) = true := decide_eq_true hlt
          have i1 := hq.idx (i := first + (2 * r + 1)) (by omega)
          have i2 := hq.idx (i := first + (2 * r + 1) + 1) (by omega)
          have l1 := hq.load (i := first + (2 * r + 1)) (by omega)
          have l2 := hq.load (i := first + (2 * r + 1) + 1) (by omega)
          have hl := fun ih => kLess (ih := ih) (A := C) (a := q[first + (2 * r + 1)]!) (b := q[first + (2 * r + 1) + 1]!)
          unfold bv at l1 l2
          apply W.run 20
          · intro M
            simp (config := { maxSteps := 4000000 }) (disch := first | decide +kernel | omega | simp only [Wq, Nat.reduceEqDiff]) only [zc23b, zc23l, zc23, Tryz.f527, Aq, Nat.ble, reduceIte, Nat.reduceEqDiff, Nat.reduceAdd, g0, g2, g3, m3, d2, a1, a2, i1, i2, l1, l2, hl]
            with_reducible rfl
          show W tb1 _ _ _
          cases hx : ltB q[first + (2 * r + 1)]! q[first + (2 * r + 1) + 1]! with
          | true =>
            apply W.run 20
            · intro M
              simp (config := { maxSteps := 4000000 }) (disch := first | decide +kernel | omega | simp only [Wq, Nat.reduceEqDiff]) only [zc23b, zc23l, zc23, Tryz.f527, Aq, Nat.ble, reduceIte, Nat.reduceEqDiff, Nat.reduceAdd, hx, m3]
              with_reducible rfl
            show W tb1 _ _ _
            refine sift_child (first := first) (r := r) (hi := hi) (lo := lo) (c := 2 * r + 2) hq (by omega) (by omega) hge (by rw [if_pos (by rw [hx]; simp; omega)]) (t' := _) (by unfold sdS; simp only [List.cons_append, List.nil_append]; simp only [Sl_cons, Sl_nil, T.get_set, T.puts_cons, T.puts_nil, Nat.reduceEqDiff, Nat.reduceAdd, if_true, if_false, and_true, true_and, g0, g1, g2, g3, g8]) (fun hd t' => ?_) (fun t' C' f1 f2 f3 f4 f5 f6 => ?_)
            · refine ⟨.inr rfl, _, [], rfl, ?_, rfl, by rw [← heq, hd]; exact hq, by rw [← heq, hd]; exact hqs, hKp⟩
              simp only [Tryz.f527, resF]
            · exact ⟨hi - (2 * r + 2), _, _, by omega, rfl, 2 * r + 2, _, rfl, by omega, f4, by rw [swp_size]; exact hqs, by rw [← heq, f6], hKp.trans f5, f1⟩
          | false =>
            apply W.run 20
            · intro M
              simp (config := { maxSteps := 4000000 }) (disch := first | decide +kernel | omega | simp only [Wq, Nat.reduceEqDiff]) only [zc23b, zc23l, zc23, Tryz.f527, Aq, Nat.ble, reduceIte, Nat.reduceEqDiff, Nat.reduceAdd, hx]
              with_reducible rfl
            show W tb1 _ _ _
            refine sift_child (first := first) (r := r) (hi := hi) (lo := lo) (c := 2 * r + 1) hq (by omega) (by omega) hge (by rw [if_neg (by rw [hx]; simp)]) (t' := _) (by unfold sdS; simp only [List.cons_append, List.nil_append]; simp only [Sl_cons, Sl_nil, T.get_set, T.puts_cons, T.puts_nil, Nat.reduceEqDiff, Nat.reduceAdd, if_true, if_false, and_true, true_and, g0, g1, g2, g3, g8]) (fun hd t' => ?_) (fun t' C' f1 f2 f3 f4 f5 f6 => ?_)
            · refine ⟨.inr rfl, _, [], rfl, ?_, rfl, by rw [← heq, hd]; exact hq, by rw [← heq, hd]; exact hqs, hKp⟩
              simp only [Tryz.f527, resF]
            · exact ⟨hi - (2 * r + 1), _, _, by omega, rfl, 2 * r + 1, _, rfl, by omega, f4, by rw [swp_size]; exact hqs, by rw [← heq, f6], hKp.trans f5, f1⟩
        · have d2 : decide (2 * r + 2 < hi) = false := decide_eq_false hlt
          apply W.run 20
          · intro M
            simp (config := { maxSteps := 4000000 }) (disch := first | decide +kernel | omega | simp only [Wq, Nat.reduceEqDiff]) only [zc23b, zc23l, zc23, Tryz.f527, Aq, Nat.ble, reduceIte, Nat.reduceEqDiff, Nat.reduceAdd, g0, g2, g3, m3, d2]
            with_reducible rfl
          show W tb1 _ _ _
          apply W.run 20
          · intro M
            simp (config := { maxSteps := 4000000 }) (disch := first | decide +kernel | omega | simp only [Wq, Nat.reduceEqDiff]) only [zc23b, zc23l, zc23, Tryz.f527, Aq, Nat.ble, reduceIte, Nat.reduceEqDiff, Nat.reduceAdd]
            with_reducible rfl
          show W tb1 _ _ _
          refine sift_child (first := first) (r := r) (hi := hi) (lo := lo) (c := 2 * r + 1) hq (by omega) (by omega) hge (by rw [if_neg (by simp; omega)]) (t' := _) (by unfold sdS; simp only [List.cons_append, List.nil_append]; simp only [Sl_cons, Sl_nil, T.get_set, T.puts_cons, T.puts_nil, Nat.reduceEqDiff, Nat.reduceAdd, if_true, if_false, and_true, true_and, g0, g1, g2, g3, g8]) (fun hd t' => ?_) (fun t' C' f1 f2 f3 f4 f5 f6 => ?_)
          · refine ⟨.inr rfl, _, [], rfl, ?_, rfl, by rw [← heq, hd]; exact hq, by rw [← heq, hd]; exact hqs, hKp⟩
            simp only [Tryz.f527, resF]
          · exact ⟨hi - (2 * r + 1), _, _, by omega, rfl, 2 * r + 1, _, rfl, by omega, f4, by rw [swp_size]; exact hqs, by rw [← heq, f6], hKp.trans f5, f1⟩
    · unfold sdS
      simp only [Sl_cons, Sl_nil, T.get_set, T.puts_cons, T.puts_nil, Nat.reduceEqDiff, Nat.reduceAdd, if_true, if_false, and_true, true_and]
  exact ⟨D', ha, h1, h2⟩

noncomputable def zc13 : Code := Tryz.f508.body.getD .skip
noncomputable def zc13a : Code := sub zc13 [1,1,1,0,1,0,0]
noncomputable def zc13z : Code := sub zc13 [1,1,1,1,1,0,0]
theorem zc13_eq : Tryz.f508.body = some (.seq (sub zc13 [0]) (.seq (sub zc13 [1,0]) (.seq (sub zc13 [1,1,0]) (.seq (.seq (sub zc13 [1,1,1,0,0]) (.block 0 (.loop zc13a))) (.seq (sub zc13 [1,1,1,1,0]) (.block 2 (.loop zc13z))))))) := by kernel_rfl
theorem zc13a_eq : zc13a = (.seq (.seq (sub zc13a [0,0]) (sub zc13a [0,1])) (.seq (.block 1 (sub zc13a [1,0,0])) (sub zc13a [1,1]))) := by kernel_rfl
theorem zc13z_eq : zc13z = (.seq (.seq (sub zc13z [0,0]) (sub zc13z [0,1])) (.seq (.block 3 (.seq (sub zc13z [1,0,0,0]) (sub zc13z [1,0,0,1]))) (sub zc13z [1,1]))) := by kernel_rfl
def hpS (x : Value) (a n : Nat) : List (Nat × Value) := [(0, x), (6, .int .i64 ((a : Nat) : Int)), (7, .int .i64 ((0 : Nat) : Int)), (8, .int .i64 ((n : Nat) : Int))]
set_option maxHeartbeats 8000000 in
theorem run_heap {D : Mem} {b a e : Nat} {d : Array UInt8} {x : Value} (h : RB D b d x) (he : e ≤ d.size) (hae : a < e) (hz : d.size < 1000000) : ∃ D', Ans tb1 508 [x, .int .i64 ((a : Nat) : Int), .int .i64 ((e : Nat) : Int)] D (.tuple ⟨[]⟩) D' ∧ RB D' b (heapSort ltB d a e) x ∧ Kp b D D' := by
  obtain ⟨n, rfl⟩ : ∃ n, e = a + (n + 1) := ⟨e - a - 1, by omega⟩
  have hes : a + (n + 1) - a = n + 1 := by omega
  obtain ⟨v, D', ha, rfl, h1, h2⟩ : ∃ v D', Ans tb1 508 [x, .int .i64 ((a : Nat) : Int), .int .i64 ((a + (n + 1) : Nat) : Int)] D v D' ∧ v = .tuple ⟨[]⟩ ∧ RB D' b (heapSort ltB d a (a + (n + 1))) x ∧ Kp b D D' := by
    refine ans_of_W (fn_atX Tryz.func508) zc13_eq (by rw [Tryz.ntmps508]; simp) (by kernel_rfl) (by kernel_rfl) ?_
    have s1 : intOpF .sub .i64 ((a + (n + 1) : Nat) : Int) ((a : Nat) : Int) = .ok (.int .i64 ((n + 1 : Nat) : Int)) := by
      have := op_sub_i64 (a := a + (n + 1)) (b := a) (by omega) (by omega)
      rwa [hes] at this
    have s2 : intOpF .sub .i64 ((n + 1 : Nat) : Int) ((1 : Nat) : Int) = .ok (.int .i64 ((n : Nat) : Int)) := by
      have := op_sub_i64 (a := n + 1) (b := 1) (by omega) (by omega)
      rwa [Nat.add_sub_cancel] at this
    have q1 : intOpF .quo .i64 ((n : Nat) : Int) ((2 : Nat) : Int) = .ok (.int .i64 ((n / 2 : Nat) : Int)) := op_quo_i64 (by omega) (by omega)
    apply W.seq
    apply W.run 20
    · intro M
      simp (config := { maxSteps := 4000000 }) (disch := first | decide +kernel | omega | simp only [Wq, Nat.reduceEqDiff]) only [zc13, Tryz.f508, Aq, Nat.ble, reduceIte, Nat.reduceEqDiff, Nat.reduceAdd]
      with_reducible rfl
    show W tb1 _ _ _
    apply W.seq
    apply W.run 20
    · intro M
      simp (config := { maxSteps := 4000000 }) (disch := first | decide +kernel | omega | simp only [Wq, Nat.reduceEqDiff]) only [zc13, Tryz.f508, Aq, Nat.ble, reduceIte, Nat.reduceEqDiff, Nat.reduceAdd]
      with_reducible rfl
    show W tb1 _ _ _
    apply W.seq
    apply W.run 20
    · intro M
      simp (config := { maxSteps := 4000000 }) (disch := first | decide +kernel | omega | simp only [Wq, Nat.reduceEqDiff]) only [zc13, Tryz.f508, Aq, Nat.ble, reduceIte, Nat.reduceEqDiff, Nat.reduceAdd, s1]
      with_reducible rfl
    show W tb1 _ _ _
    apply W.seq
    apply W.seq
    apply W.run 20
    · intro M
      simp (config := { maxSteps := 4000000 }) (disch := first | decide +kernel | omega | simp only [Wq, Nat.reduceEqDiff]) only [zc13, Tryz.f508, Aq, Nat.ble, reduceIte, Nat.reduceEqDiff, Nat.reduceAdd, s2, q1]
      with_reducible rfl
    show W tb1 _ _ _
    apply W.block
    refine W.fall (fun k t C => ∃ q, k ≤ n / 2 + 1 ∧ RB C b q x ∧ q.size = d.size ∧ heapBuild ltB (n + 1) a k q = heapBuild ltB (n + 1) a (n / 2 + 1) d ∧ Kp b D C ∧ Sl t (hpS x a (n + 1) ++ [(9, .int .i64 (((k : Nat) : Int) - 1))])) ?_ (k := n / 2 + 1) ⟨d, Nat.le_refl _, h, rfl, rfl, Kp.refl _ _, ?_⟩
    · rintro k t C ⟨q, hk, hq, hqs, heq, hKp, g0, g6, g7, g8, g9, -⟩
      rw [zc13a_eq]
      apply W.seq
      apply W.seq
      cases k with
      | succ j =>
        have ej : ((j + 1 : Nat) : Int) - 1 = ((j : Nat) : Int) := by omega
        have g9 : t.get 9 = some (.int .i64 ((j : Nat) : Int)) := by rw [← ej]; exact g9
        have d1 : decide (0 ≤ j) = true := by simp
        have s3 : intOpF .sub .i64 ((j : Nat) : Int) ((1 : Nat) : Int) = .ok (.int .i64 (((j : Nat) : Int) - 1)) := op_subI (by omega) (by omega)
        obtain ⟨C1, ⟨g, hg⟩, hr1, hsz1, hk1⟩ := run_sift (lo := j) (hi := n + 1) (first := a) hq (by omega) (by omega) (by omega)
        apply W.run 20
        · intro M
          simp (config := { maxSteps := 4000000 }) (disch := first | decide +kernel | omega | simp only [Wq, Nat.reduceEqDiff]) only [zc13a, zc13, Tryz.f508, Aq, Nat.ble, reduceIte, Nat.reduceEqDiff, Nat.reduceAdd, g9, d1]
          with_reducible rfl
        show W tb1 _ _ _
        apply W.run 20
        · intro M
          simp (config := { maxSteps := 4000000 }) (disch := first | decide +kernel | omega | simp only [Wq, Nat.reduceEqDiff]) only [zc13a, zc13, Tryz.f508, Aq, Nat.ble, reduceIte, Nat.reduceEqDiff, Nat.reduceAdd]
          with_reducible rfl
        show W tb1 _ _ _
        apply W.seq
        apply W.block
        apply W.runG (g) 20
        · intro M hM
          simp (config := { maxSteps := 4000000 }) (disch := first | decide +kernel | omega | simp only [Wq, Nat.reduceEqDiff]) only [zc13a, zc13, Tryz.f508, Aq, Nat.ble, reduceIte, Nat.reduceEqDiff, Nat.reduceAdd, g0, g6, g8, g9, hg]
          with_reducible rfl
        show W tb1 _ _ _
        apply W.run 20
        · intro M
          simp (config := { maxSteps := 4000000 }) (disch := first | decide +kernel | omega | simp only [Wq, Nat.reduceEqDiff]) only [zc13a, zc13, Tryz.f508, Aq, Nat.ble, reduceIte, Nat.reduceEqDiff, Nat.reduceAdd, g9, s3]
          with_reducible rfl
        refine ⟨j, _, _, by omega, rfl, _, by omega, hr1, by rw [hsz1]; exact hqs, by rw [← heq]; rfl, hKp.trans hk1, ?_⟩
        unfold hpS
        simp only [List.cons_append, List.nil_append]
        simp only [Sl_cons, Sl_nil, T.get_set, T.puts_cons, T.puts_nil, Nat.reduceEqDiff, Nat.reduceAdd, if_true, if_false, and_true, true_and, g0, g6, g7, g8]
      | zero =>
        have d1 : decide (((0 : Nat) : Int) ≤ ((0 : Nat) : Int) - 1) = false := by decide
        apply W.run 20
        · intro M
          simp (config := { maxSteps := 4000000 }) (disch := first | decide +kernel | omega | simp only [Wq, Nat.reduceEqDiff]) only [zc13a, zc13, Tryz.f508, Aq, Nat.ble, reduceIte, Nat.reduceEqDiff, Nat.reduceAdd, g9, d1]
          with_reducible rfl
        show W tb1 _ _ _
        apply W.run 20
        · intro M
          simp (config := { maxSteps := 4000000 }) (disch := first | decide +kernel | omega | simp only [Wq, Nat.reduceEqDiff]) only [zc13a, zc13, Tryz.f508, Aq, Nat.ble, reduceIte, Nat.reduceEqDiff, Nat.reduceAdd]
          with_reducible rfl
        show W tb1 _ _ _
        have hq2 : q = heapBuild ltB (n + 1) a (n / 2 + 1) d := heq
        clear heq d1 g9 hk
        apply W.seq
        have ej : ((n + 1 : Nat) : Int) - 1 = ((n : Nat) : Int) := by omega
        apply W.run 20
        · intro M
          simp (config := { maxSteps := 4000000 }) (disch := first | decide +kernel | omega | simp only [Wq, Nat.reduceEqDiff]) only [zc13, Tryz.f508, Aq, Nat.ble, reduceIte, Nat.reduceEqDiff, Nat.reduceAdd, g8, s2]
          with_reducible rfl
        show W tb1 _ _ _
        apply W.block
        refine W.fall (fun k t C' => ∃ q', k ≤ n + 1 ∧ RB C' b q' x ∧ q'.size = d.size ∧ heapPop ltB a k q' = heapPop ltB a (n + 1) q ∧ Kp b D C' ∧ Sl t (hpS x a (n + 1) ++ [(10, .int .i64 (((k : Nat) : Int) - 1))])) ?_ (k := n + 1) ⟨q, Nat.le_refl _, hq, hqs, rfl, hKp, ?_⟩
        · rintro k t C' ⟨q', hk, hq', hqs', heq, hKp', g0, g6, g7, g8, g10, -⟩
          rw [zc13z_eq]
          apply W.seq
          apply W.seq
          cases k with
          | succ j =>
            have ej : ((j + 1 : Nat) : Int) - 1 = ((j : Nat) : Int) := by omega
            have g10 : t.get 10 = some (.int .i64 ((j : Nat) : Int)) := by rw [← ej]; exact g10
            have d1 : decide (0 ≤ j) = true := by simp
            have s3 : intOpF .sub .i64 ((j : Nat) : Int) ((1 : Nat) : Int) = .ok (.int .i64 (((j : Nat) : Int) - 1)) := op_subI (by omega) (by omega)
            have a1 : intOpF .add .i64 ((a : Nat) : Int) ((j : Nat) : Int) = .ok (.int .i64 ((a + j : Nat) : Int)) := op_add_i64 (by omega)
            have i1 := hq'.idx (i := a) (by omega)
            have i2 := hq'.idx (i := a + j) (by omega)
            have l1 := hq'.load (i := a) (by omega)
            have l2 := hq'.load (i := a + j) (by omega)
            obtain ⟨D1, D2, hst1, hst2, hr2, hn2, hf2⟩ := hq'.swap (i := a) (j := a + j) (by omega) (by omega)
            obtain ⟨C1, ⟨g, hg⟩, hr1, hsz1, hk1⟩ := run_sift (lo := 0) (hi := j) (first := a) hr2 (by rw [swp_size]; omega) (by omega) (by rw [swp_size]; omega)
            unfold bv at l1 l2 hst1 hst2
            apply W.run 20
            · intro M
              simp (config := { maxSteps := 4000000 }) (disch := first | decide +kernel | omega | simp only [Wq, Nat.reduceEqDiff]) only [zc13z, zc13, Tryz.f508, Aq, Nat.ble, reduceIte, Nat.reduceEqDiff, Nat.reduceAdd, g10, d1]
              with_reducible rfl
            show W tb1 _ _ _
            apply W.run 20
            · intro M
              simp (config := { maxSteps := 4000000 }) (disch := first | decide +kernel | omega | simp only [Wq, Nat.reduceEqDiff]) only [zc13z, zc13, Tryz.f508, Aq, Nat.ble, reduceIte, Nat.reduceEqDiff, Nat.reduceAdd]
              with_reducible rfl
            show W tb1 _ _ _
            apply W.seq
            apply W.block
            apply W.seq
            apply W.run 20
            · intro M
              simp (config := { maxSteps := 4000000 }) (disch := first | decide +kernel | omega | simp only [Wq, Nat.reduceEqDiff]) only [zc13z, zc13, Tryz.f508, Aq, Nat.ble, reduceIte, Nat.reduceEqDiff, Nat.reduceAdd, Fq, g0, g6, g10, a1, i1, i2, l1, l2, hst1, hst2]
              with_reducible rfl
            show W tb1 _ _ _
            apply W.runG (g) 20
            · intro M hM
              simp (config := { maxSteps := 4000000 }) (disch := first | decide +kernel | omega | simp only [Wq, Nat.reduceEqDiff]) only [zc13z, zc13, Tryz.f508, Aq, Nat.ble, reduceIte, Nat.reduceEqDiff, Nat.reduceAdd, g0, g6, g7, g10, hg]
              with_reducible rfl
            show W tb1 _ _ _
            apply W.run 20
            · intro M
              simp (config := { maxSteps := 4000000 }) (disch := first | decide +kernel | omega | simp only [Wq, Nat.reduceEqDiff]) only [zc13z, zc13, Tryz.f508, Aq, Nat.ble, reduceIte, Nat.reduceEqDiff, Nat.reduceAdd, g10, s3]
              with_reducible rfl
            refine ⟨j, _, _, by omega, rfl, _, by omega, hr1, by rw [hsz1, swp_size]; exact hqs', by rw [← heq]; rfl, (hKp'.trans (Kp.of hn2 hf2)).trans hk1, ?_⟩
            unfold hpS
            simp only [List.cons_append, List.nil_append]
            simp only [Sl_cons, Sl_nil, T.get_set, T.puts_cons, T.puts_nil, Nat.reduceEqDiff, Nat.reduceAdd, if_true, if_false, and_true, true_and, g0, g6, g7, g8]
          | zero =>
            have d1 : decide (((0 : Nat) : Int) ≤ ((0 : Nat) : Int) - 1) = false := by decide
            apply W.run 20
            · intro M
              simp (config := { maxSteps := 4000000 }) (disch := first | decide +kernel | omega | simp only [Wq, Nat.reduceEqDiff]) only [zc13z, zc13, Tryz.f508, Aq, Nat.ble, reduceIte, Nat.reduceEqDiff, Nat.reduceAdd, g10, d1]
              with_reducible rfl
            show W tb1 _ _ _
            apply W.run 20
            · intro M
              simp (config := { maxSteps := 4000000 }) (disch := first | decide +kernel | omega | simp only [Wq, Nat.reduceEqDiff]) only [zc13z, zc13, Tryz.f508, Aq, Nat.ble, reduceIte, Nat.reduceEqDiff, Nat.reduceAdd]
              with_reducible rfl
            have hfin : q' = heapSort ltB d a (a + (n + 1)) := by
              unfold heapSort
              rw [hes, Nat.add_sub_cancel, ← hq2]
              exact heq
            refine ⟨.inl rfl, _, [], rfl, ?_, rfl, by rw [← hfin]; exact hq', hKp'⟩
            simp only [Tryz.f508, resF]
        · unfold hpS
          simp only [List.cons_append, List.nil_append, ej]
          simp only [Sl_cons, Sl_nil, T.get_set, T.puts_cons, T.puts_nil, Nat.reduceEqDiff, Nat.reduceAdd, if_true, if_false, and_true, true_and, g0, g6, g7, g8]
    · have ej : ((n / 2 + 1 : Nat) : Int) - 1 = ((n / 2 : Nat) : Int) := by omega
      unfold hpS
      simp only [List.cons_append, List.nil_append, ej]
      simp only [Sl_cons, Sl_nil, T.get_set, T.puts_cons, T.puts_nil, Nat.reduceEqDiff, Nat.reduceAdd, if_true, if_false, and_true, true_and]
  exact ⟨D', ha, h1, h2⟩

noncomputable def zc20 : Code := Tryz.f515.body.getD .skip
def ptS (x : Value) (a i j : Nat) : List (Nat × Value) := [(0, x), (1, .int .i64 ((a : Nat) : Int)), (10, .int .i64 ((i : Nat) : Int)), (11, .int .i64 ((j : Nat) : Int))]
noncomputable def zc20u : Code := sub zc20 [1,1,1,0,0,0]
theorem zc20u_eq : zc20u = (.seq (.seq (sub zc20u [0,0]) (sub zc20u [0,1])) (.block 1 (sub zc20u [1,0]))) := by kernel_rfl
set_option maxHeartbeats 8000000 in
theorem p_up {D : Mem} {b a i j : Nat} {d : Array UInt8} {x : Value} {t : T Value} {K : Ex → St → Prop} (h : RB D b d x) (ha : a < d.size) (hj : j < d.size) (hi : i ≤ j + 1) (hz : d.size < 1000000) (hs : Sl t (ptS x a i j)) (hK : ∀ t', Sl t' (ptS x a (scanUp (fun y => ltB y d[a]!) d j i) j) → K .nrm ⟨t', 168, [], D, none⟩) : W tb1 (.block 0 (.loop zc20u)) ⟨t, 168, [], D, none⟩ K := by
  obtain ⟨g0, g1, g10, g11, -⟩ := hs
  apply W.block
  refine W.fall (fun k t C => ∃ m, k = j + 1 - m ∧ C = D ∧ m ≤ j + 1 ∧ scanUp (fun y => ltB y d[a]!) d j m = scanUp (fun y => ltB y d[a]!) d j i ∧ Sl t (ptS x a m j)) ?_ (k := j + 1 - i) ⟨i, rfl, rfl, hi, rfl, by unfold ptS; simp only [Sl_cons, Sl_nil, T.get_set, T.puts_cons, T.puts_nil, Nat.reduceEqDiff, Nat.reduceAdd, if_true, if_false, and_true, true_and, g0, g1, g10, g11]⟩
  rintro k t C ⟨m, rfl, rfl, hm, he, g0, g1, g10, g11, -⟩
  rw [zc20u_eq]
  apply W.seq
  apply W.seq
  by_cases hlt : m ≤ j
  · have d1 : decide (m ≤ j) = true := decide_eq_true hlt
    have i1 := h.idx (i := m) (by omega)
    have i2 := h.idx (i := a) ha
    have l1 := h.load (i := m) (by omega)
    have l2 := h.load (i := a) ha
    have hl := fun ih => kLess (ih := ih) (A := C) (a := d[m]!) (b := d[a]!)
    unfold bv at l1 l2
    cases hc : ltB d[m]! d[a]! with
    | false =>
      rw [hc] at hl
      have hd : scanUp (fun y => ltB y d[a]!) d j m = m := by rw [scanUp, if_neg (by simp [hc])]
      apply W.run 20
      · intro M
        simp (config := { maxSteps := 4000000 }) (disch := first | decide +kernel | omega | simp only [Wq, Nat.reduceEqDiff]) only [zc20u, zc20, Tryz.f515, Aq, Nat.ble, reduceIte, Nat.reduceEqDiff, Nat.reduceAdd, g0, g1, g10, g11, d1, i1, i2, l1, l2, hl]
        with_reducible rfl
      show W tb1 _ _ _
      apply W.run 20
      · intro M
        simp (config := { maxSteps := 4000000 }) (disch := first | decide +kernel | omega | simp only [Wq, Nat.reduceEqDiff]) only [zc20u, zc20, Tryz.f515, Aq, Nat.ble, reduceIte, Nat.reduceEqDiff, Nat.reduceAdd]
        with_reducible rfl
      refine hK _ ?_
      rw [← he, hd]; unfold ptS
      simp only [Sl_cons, Sl_nil, T.get_set, T.puts_cons, T.puts_nil, Nat.reduceEqDiff, Nat.reduceAdd, if_true, if_false, and_true, true_and, g0, g1, g10, g11]
    | true =>
      rw [hc] at hl
      have hd : scanUp (fun y => ltB y d[a]!) d j m = scanUp (fun y => ltB y d[a]!) d j (m + 1) := by rw [scanUp, if_pos (by simp [hc]; omega)]
      apply W.run 20
      · intro M
        simp (config := { maxSteps := 4000000 }) (disch := first | decide +kernel | omega | simp only [Wq, Nat.reduceEqDiff]) only [zc20u, zc20, Tryz.f515, Aq, Nat.ble, reduceIte, Nat.reduceEqDiff, Nat.reduceAdd, g0, g1, g10, g11, d1, i1, i2, l1, l2, hl]
        with_reducible rfl
      show W tb1 _ _ _
      apply W.run 20
      · intro M
        simp (config := { maxSteps := 4000000 }) (disch := first | decide +kernel | omega | simp only [Wq, Nat.reduceEqDiff]) only [zc20u, zc20, Tryz.f515, Aq, Nat.ble, reduceIte, Nat.reduceEqDiff, Nat.reduceAdd]
        with_reducible rfl
      show W tb1 _ _ _
      apply W.block
      apply W.run 20
      · intro M
        simp (config := { maxSteps := 4000000 }) (disch := first | decide +kernel | omega | simp only [Wq, Nat.reduceEqDiff]) only [zc20u, zc20, Tryz.f515, Aq, Nat.ble, reduceIte, Nat.reduceEqDiff, Nat.reduceAdd, g10]
        with_reducible rfl
      refine ⟨j + 1 - (m + 1), _, _, by omega, rfl, m + 1, rfl, rfl, by omega, by rw [← he, hd], ?_⟩
      unfold ptS
      simp only [Sl_cons, Sl_nil, T.get_set, T.puts_cons, T.puts_nil, Nat.reduceEqDiff, Nat.reduceAdd, if_true, if_false, and_true, true_and, g0, g1, g10, g11]
  · have d1 : decide (m ≤ j) = false := decide_eq_false hlt
    have hd : scanUp (fun y => ltB y d[a]!) d j m = m := by rw [scanUp, if_neg (by simp; omega)]
    apply W.run 20
    · intro M
      simp (config := { maxSteps := 4000000 }) (disch := first | decide +kernel | omega | simp only [Wq, Nat.reduceEqDiff]) only [zc20u, zc20, Tryz.f515, Aq, Nat.ble, reduceIte, Nat.reduceEqDiff, Nat.reduceAdd, g0, g1, g10, g11, d1]
      with_reducible rfl
    show W tb1 _ _ _
    apply W.run 20
    · intro M
      simp (config := { maxSteps := 4000000 }) (disch := first | decide +kernel | omega | simp only [Wq, Nat.reduceEqDiff]) only [zc20u, zc20, Tryz.f515, Aq, Nat.ble, reduceIte, Nat.reduceEqDiff, Nat.reduceAdd]
      with_reducible rfl
    refine hK _ ?_
    rw [← he, hd]; unfold ptS
    simp only [Sl_cons, Sl_nil, T.get_set, T.puts_cons, T.puts_nil, Nat.reduceEqDiff, Nat.reduceAdd, if_true, if_false, and_true, true_and, g0, g1, g10, g11]
noncomputable def zc20v : Code := sub zc20 [1,1,1,1,0,0,0]
theorem zc20v_eq : zc20v = (.seq (.seq (sub zc20v [0,0]) (sub zc20v [0,1])) (.block 3 (sub zc20v [1,0]))) := by kernel_rfl
set_option maxHeartbeats 8000000 in
theorem p_down {D : Mem} {b a i j : Nat} {d : Array UInt8} {x : Value} {t : T Value} {K : Ex → St → Prop} (h : RB D b d x) (ha : a < d.size) (hj : j < d.size) (hi : 1 ≤ i) (hz : d.size < 1000000) (hs : Sl t (ptS x a i j)) (hK : ∀ t', Sl t' (ptS x a i (scanDown (fun y => !ltB y d[a]!) d i j)) → K .nrm ⟨t', 168, [], D, none⟩) : W tb1 (.block 2 (.loop zc20v)) ⟨t, 168, [], D, none⟩ K := by
  obtain ⟨g0, g1, g10, g11, -⟩ := hs
  apply W.block
  refine W.fall (fun k t C => C = D ∧ k ≤ j ∧ scanDown (fun y => !ltB y d[a]!) d i k = scanDown (fun y => !ltB y d[a]!) d i j ∧ Sl t (ptS x a i k)) ?_ (k := j) ⟨rfl, Nat.le_refl _, rfl, by unfold ptS; simp only [Sl_cons, Sl_nil, T.get_set, T.puts_cons, T.puts_nil, Nat.reduceEqDiff, Nat.reduceAdd, if_true, if_false, and_true, true_and, g0, g1, g10, g11]⟩
  rintro k t C ⟨rfl, hk, he, g0, g1, g10, g11, -⟩
  rw [zc20v_eq]
  apply W.seq
  apply W.seq
  by_cases hlt : i ≤ k
  · obtain ⟨m, rfl⟩ : ∃ m, k = m + 1 := ⟨k - 1, by omega⟩
    have d1 : decide (i ≤ m + 1) = true := decide_eq_true hlt
    have i1 := h.idx (i := m + 1) (by omega)
    have i2 := h.idx (i := a) ha
    have l1 := h.load (i := m + 1) (by omega)
    have l2 := h.load (i := a) ha
    have s1 : intOpF .sub .i64 ((m + 1 : Nat) : Int) ((1 : Nat) : Int) = .ok (.int .i64 ((m : Nat) : Int)) := by
      have := op_sub_i64 (a := m + 1) (b := 1) (by omega) (by omega)
      rwa [Nat.add_sub_cancel] at this
    have hl := fun ih => kLess (ih := ih) (A := C) (a := d[m + 1]!) (b := d[a]!)
    unfold bv at l1 l2
    cases hc : ltB d[m + 1]! d[a]! with
    | false =>
      rw [hc] at hl
      have hd : scanDown (fun y => !ltB y d[a]!) d i (m + 1) = scanDown (fun y => !ltB y d[a]!) d i m := by rw [scanDown, if_pos (by simp [hc]; omega)]
      apply W.run 20
      · intro M
        simp (config := { maxSteps := 4000000 }) (disch := first | decide +kernel | omega | simp only [Wq, Nat.reduceEqDiff]) only [zc20v, zc20, Tryz.f515, Aq, Nat.ble, reduceIte, Nat.reduceEqDiff, Nat.reduceAdd, g0, g1, g10, g11, d1, i1, i2, l1, l2, hl]
        with_reducible rfl
      show W tb1 _ _ _
      apply W.run 20
      · intro M
        simp (config := { maxSteps := 4000000 }) (disch := first | decide +kernel | omega | simp only [Wq, Nat.reduceEqDiff]) only [zc20v, zc20, Tryz.f515, Aq, Nat.ble, reduceIte, Nat.reduceEqDiff, Nat.reduceAdd]
        with_reducible rfl
      show W tb1 _ _ _
      apply W.block
      apply W.run 20
      · intro M
        simp (config := { maxSteps := 4000000 }) (disch := first | decide +kernel | omega | simp only [Wq, Nat.reduceEqDiff]) only [zc20v, zc20, Tryz.f515, Aq, Nat.ble, reduceIte, Nat.reduceEqDiff, Nat.reduceAdd, g11, s1]
        with_reducible rfl
      refine ⟨m, _, _, by omega, rfl, rfl, by omega, by rw [← he, hd], ?_⟩
      unfold ptS
      simp only [Sl_cons, Sl_nil, T.get_set, T.puts_cons, T.puts_nil, Nat.reduceEqDiff, Nat.reduceAdd, if_true, if_false, and_true, true_and, g0, g1, g10, g11]
    | true =>
      rw [hc] at hl
      have hd : scanDown (fun y => !ltB y d[a]!) d i (m + 1) = m + 1 := by rw [scanDown, if_neg (by simp [hc])]
      apply W.run 20
      · intro M
        simp (config := { maxSteps := 4000000 }) (disch := first | decide +kernel | omega | simp only [Wq, Nat.reduceEqDiff]) only [zc20v, zc20, Tryz.f515, Aq, Nat.ble, reduceIte, Nat.reduceEqDiff, Nat.reduceAdd, g0, g1, g10, g11, d1, i1, i2, l1, l2, hl]
        with_reducible rfl
      show W tb1 _ _ _
      apply W.run 20
      · intro M
        simp (config := { maxSteps := 4000000 }) (disch := first | decide +kernel | omega | simp only [Wq, Nat.reduceEqDiff]) only [zc20v, zc20, Tryz.f515, Aq, Nat.ble, reduceIte, Nat.reduceEqDiff, Nat.reduceAdd]
        with_reducible rfl
      refine hK _ ?_
      rw [← he, hd]; unfold ptS
      simp only [Sl_cons, Sl_nil, T.get_set, T.puts_cons, T.puts_nil, Nat.reduceEqDiff, Nat.reduceAdd, if_true, if_false, and_true, true_and, g0, g1, g10, g11]
  · have d1 : decide (i ≤ k) = false := decide_eq_false hlt
    have hd : scanDown (fun y => !ltB y d[a]!) d i k = k := by
      cases k with
      | zero => rfl
      | succ m => rw [scanDown, if_neg (by simp; omega)]
    apply W.run 20
    · intro M
      simp (config := { maxSteps := 4000000 }) (disch := first | decide +kernel | omega | simp only [Wq, Nat.reduceEqDiff]) only [zc20v, zc20, Tryz.f515, Aq, Nat.ble, reduceIte, Nat.reduceEqDiff, Nat.reduceAdd, g0, g1, g10, g11, d1]
      with_reducible rfl
    show W tb1 _ _ _
    apply W.run 20
    · intro M
      simp (config := { maxSteps := 4000000 }) (disch := first | decide +kernel | omega | simp only [Wq, Nat.reduceEqDiff]) only [zc20v, zc20, Tryz.f515, Aq, Nat.ble, reduceIte, Nat.reduceEqDiff, Nat.reduceAdd]
      with_reducible rfl
    refine hK _ ?_
    rw [← he, hd]; unfold ptS
    simp only [Sl_cons, Sl_nil, T.get_set, T.puts_cons, T.puts_nil, Nat.reduceEqDiff, Nat.reduceAdd, if_true, if_false, and_true, true_and, g0, g1, g10, g11]
noncomputable def zc20a : Code := sub zc20 [1,1,1,1,1,1,1,1,1,0,0,0,0,0,0,0]
theorem zc20a_eq : zc20a = (.seq (.seq (sub zc20a [0,0]) (sub zc20a [0,1])) (.block 7 (sub zc20a [1,0]))) := by kernel_rfl
set_option maxHeartbeats 8000000 in
theorem p_up2 {D : Mem} {b a i j : Nat} {d : Array UInt8} {x : Value} {t : T Value} {K : Ex → St → Prop} (h : RB D b d x) (ha : a < d.size) (hj : j < d.size) (hi : i ≤ j + 1) (hz : d.size < 1000000) (hs : Sl t (ptS x a i j)) (hK : ∀ t', Sl t' (ptS x a (scanUp (fun y => ltB y d[a]!) d j i) j) → K .nrm ⟨t', 168, [], D, none⟩) : W tb1 (.block 6 (.loop zc20a)) ⟨t, 168, [], D, none⟩ K := by
  obtain ⟨g0, g1, g10, g11, -⟩ := hs
  apply W.block
  refine W.fall (fun k t C => ∃ m, k = j + 1 - m ∧ C = D ∧ m ≤ j + 1 ∧ scanUp (fun y => ltB y d[a]!) d j m = scanUp (fun y => ltB y d[a]!) d j i ∧ Sl t (ptS x a m j)) ?_ (k := j + 1 - i) ⟨i, rfl, rfl, hi, rfl, by unfold ptS; simp only [Sl_cons, Sl_nil, T.get_set, T.puts_cons, T.puts_nil, Nat.reduceEqDiff, Nat.reduceAdd, if_true, if_false, and_true, true_and, g0, g1, g10, g11]⟩
  rintro k t C ⟨m, rfl, rfl, hm, he, g0, g1, g10, g11, -⟩
  rw [zc20a_eq]
  apply W.seq
  apply W.seq
  by_cases hlt : m ≤ j
  · have d1 : decide (m ≤ j) = true := decide_eq_true hlt
    have i1 := h.idx (i := m) (by omega)
    have i2 := h.idx (i := a) ha
    have l1 := h.load (i := m) (by omega)
    have l2 := h.load (i := a) ha
    have hl := fun ih => kLess (ih := ih) (A := C) (a := d[m]!) (b := d[a]!)
    unfold bv at l1 l2
    cases hc : ltB d[m]! d[a]! with
    | false =>
      rw [hc] at hl
      have hd : scanUp (fun y => ltB y d[a]!) d j m = m := by rw [scanUp, if_neg (by simp [hc])]
      apply W.run 20
      · intro M
        simp (config := { maxSteps := 4000000 }) (disch := first | decide +kernel | omega | simp only [Wq, Nat.reduceEqDiff]) only [zc20a, zc20, Tryz.f515, Aq, Nat.ble, reduceIte, Nat.reduceEqDiff, Nat.reduceAdd, g0, g1, g10, g11, d1, i1, i2, l1, l2, hl]
        with_reducible rfl
      show W tb1 _ _ _
      apply W.run 20
      · intro M
        simp (config := { maxSteps := 4000000 }) (disch := first | decide +kernel | omega | simp only [Wq, Nat.reduceEqDiff]) only [zc20a, zc20, Tryz.f515, Aq, Nat.ble, reduceIte, Nat.reduceEqDiff, Nat.reduceAdd]
        with_reducible rfl
      refine hK _ ?_
      rw [← he, hd]; unfold ptS
      simp only [Sl_cons, Sl_nil, T.get_set, T.puts_cons, T.puts_nil, Nat.reduceEqDiff, Nat.reduceAdd, if_true, if_false, and_true, true_and, g0, g1, g10, g11]
    | true =>
      rw [hc] at hl
      have hd : scanUp (fun y => ltB y d[a]!) d j m = scanUp (fun y => ltB y d[a]!) d j (m + 1) := by rw [scanUp, if_pos (by simp [hc]; omega)]
      apply W.run 20
      · intro M
        simp (config := { maxSteps := 4000000 }) (disch := first | decide +kernel | omega | simp only [Wq, Nat.reduceEqDiff]) only [zc20a, zc20, Tryz.f515, Aq, Nat.ble, reduceIte, Nat.reduceEqDiff, Nat.reduceAdd, g0, g1, g10, g11, d1, i1, i2, l1, l2, hl]
        with_reducible rfl
      show W tb1 _ _ _
      apply W.run 20
      · intro M
        simp (config := { maxSteps := 4000000 }) (disch := first | decide +kernel | omega | simp only [Wq, Nat.reduceEqDiff]) only [zc20a, zc20, Tryz.f515, Aq, Nat.ble, reduceIte, Nat.reduceEqDiff, Nat.reduceAdd]
        with_reducible rfl
      show W tb1 _ _ _
      apply W.block
      apply W.run 20
      · intro M
        simp (config := { maxSteps := 4000000 }) (disch := first | decide +kernel | omega | simp only [Wq, Nat.reduceEqDiff]) only [zc20a, zc20, Tryz.f515, Aq, Nat.ble, reduceIte, Nat.reduceEqDiff, Nat.reduceAdd, g10]
        with_reducible rfl
      refine ⟨j + 1 - (m + 1), _, _, by omega, rfl, m + 1, rfl, rfl, by omega, by rw [← he, hd], ?_⟩
      unfold ptS
      simp only [Sl_cons, Sl_nil, T.get_set, T.puts_cons, T.puts_nil, Nat.reduceEqDiff, Nat.reduceAdd, if_true, if_false, and_true, true_and, g0, g1, g10, g11]
  · have d1 : decide (m ≤ j) = false := decide_eq_false hlt
    have hd : scanUp (fun y => ltB y d[a]!) d j m = m := by rw [scanUp, if_neg (by simp; omega)]
    apply W.run 20
    · intro M
      simp (config := { maxSteps := 4000000 }) (disch := first | decide +kernel | omega | simp only [Wq, Nat.reduceEqDiff]) only [zc20a, zc20, Tryz.f515, Aq, Nat.ble, reduceIte, Nat.reduceEqDiff, Nat.reduceAdd, g0, g1, g10, g11, d1]
      with_reducible rfl
    show W tb1 _ _ _
    apply W.run 20
    · intro M
      simp (config := { maxSteps := 4000000 }) (disch := first | decide +kernel | omega | simp only [Wq, Nat.reduceEqDiff]) only [zc20a, zc20, Tryz.f515, Aq, Nat.ble, reduceIte, Nat.reduceEqDiff, Nat.reduceAdd]
      with_reducible rfl
    refine hK _ ?_
    rw [← he, hd]; unfold ptS
    simp only [Sl_cons, Sl_nil, T.get_set, T.puts_cons, T.puts_nil, Nat.reduceEqDiff, Nat.reduceAdd, if_true, if_false, and_true, true_and, g0, g1, g10, g11]
noncomputable def zc20z : Code := sub zc20 [1,1,1,1,1,1,1,1,1,0,0,0,0,1,0,0,0]
theorem zc20z_eq : zc20z = (.seq (.seq (sub zc20z [0,0]) (sub zc20z [0,1])) (.block 9 (sub zc20z [1,0]))) := by kernel_rfl
set_option maxHeartbeats 8000000 in
theorem p_down2 {D : Mem} {b a i j : Nat} {d : Array UInt8} {x : Value} {t : T Value} {K : Ex → St → Prop} (h : RB D b d x) (ha : a < d.size) (hj : j < d.size) (hi : 1 ≤ i) (hz : d.size < 1000000) (hs : Sl t (ptS x a i j)) (hK : ∀ t', Sl t' (ptS x a i (scanDown (fun y => !ltB y d[a]!) d i j)) → K .nrm ⟨t', 168, [], D, none⟩) : W tb1 (.block 8 (.loop zc20z)) ⟨t, 168, [], D, none⟩ K := by
  obtain ⟨g0, g1, g10, g11, -⟩ := hs
  apply W.block
  refine W.fall (fun k t C => C = D ∧ k ≤ j ∧ scanDown (fun y => !ltB y d[a]!) d i k = scanDown (fun y => !ltB y d[a]!) d i j ∧ Sl t (ptS x a i k)) ?_ (k := j) ⟨rfl, Nat.le_refl _, rfl, by unfold ptS; simp only [Sl_cons, Sl_nil, T.get_set, T.puts_cons, T.puts_nil, Nat.reduceEqDiff, Nat.reduceAdd, if_true, if_false, and_true, true_and, g0, g1, g10, g11]⟩
  rintro k t C ⟨rfl, hk, he, g0, g1, g10, g11, -⟩
  rw [zc20z_eq]
  apply W.seq
  apply W.seq
  by_cases hlt : i ≤ k
  · obtain ⟨m, rfl⟩ : ∃ m, k = m + 1 := ⟨k - 1, by omega⟩
    have d1 : decide (i ≤ m + 1) = true := decide_eq_true hlt
    have i1 := h.idx (i := m + 1) (by omega)
    have i2 := h.idx (i := a) ha
    have l1 := h.load (i := m + 1) (by omega)
    have l2 := h.load (i := a) ha
    have s1 : intOpF .sub .i64 ((m + 1 : Nat) : Int) ((1 : Nat) : Int) = .ok (.int .i64 ((m : Nat) : Int)) := by
      have := op_sub_i64 (a := m + 1) (b := 1) (by omega) (by omega)
      rwa [Nat.add_sub_cancel] at this
    have hl := fun ih => kLess (ih := ih) (A := C) (a := d[m + 1]!) (b := d[a]!)
    unfold bv at l1 l2
    cases hc : ltB d[m + 1]! d[a]! with
    | false =>
      rw [hc] at hl
      have hd : scanDown (fun y => !ltB y d[a]!) d i (m + 1) = scanDown (fun y => !ltB y d[a]!) d i m := by rw [scanDown, if_pos (by simp [hc]; omega)]
      apply W.run 20
      · intro M
        simp (config := { maxSteps := 4000000 }) (disch := first | decide +kernel | omega | simp only [Wq, Nat.reduceEqDiff]) only [zc20z, zc20, Tryz.f515, Aq, Nat.ble, reduceIte, Nat.reduceEqDiff, Nat.reduceAdd, g0, g1, g10, g11, d1, i1, i2, l1, l2, hl]
        with_reducible rfl
      show W tb1 _ _ _
      apply W.run 20
      · intro M
        simp (config := { maxSteps := 4000000 }) (disch := first | decide +kernel | omega | simp only [Wq, Nat.reduceEqDiff]) only [zc20z, zc20, Tryz.f515, Aq, Nat.ble, reduceIte, Nat.reduceEqDiff, Nat.reduceAdd]
        with_reducible rfl
      show W tb1 _ _ _
      apply W.block
      apply W.run 20
      · intro M
        simp (config := { maxSteps := 4000000 }) (disch := first | decide +kernel | omega | simp only [Wq, Nat.reduceEqDiff]) only [zc20z, zc20, Tryz.f515, Aq, Nat.ble, reduceIte, Nat.reduceEqDiff, Nat.reduceAdd, g11, s1]
        with_reducible rfl
      refine ⟨m, _, _, by omega, rfl, rfl, by omega, by rw [← he, hd], ?_⟩
      unfold ptS
      simp only [Sl_cons, Sl_nil, T.get_set, T.puts_cons, T.puts_nil, Nat.reduceEqDiff, Nat.reduceAdd, if_true, if_false, and_true, true_and, g0, g1, g10, g11]
    | true =>
      rw [hc] at hl
      have hd : scanDown (fun y => !ltB y d[a]!) d i (m + 1) = m + 1 := by rw [scanDown, if_neg (by simp [hc])]
      apply W.run 20
      · intro M
        simp (config := { maxSteps := 4000000 }) (disch := first | decide +kernel | omega | simp only [Wq, Nat.reduceEqDiff]) only [zc20z, zc20, Tryz.f515, Aq, Nat.ble, reduceIte, Nat.reduceEqDiff, Nat.reduceAdd, g0, g1, g10, g11, d1, i1, i2, l1, l2, hl]
        with_reducible rfl
      show W tb1 _ _ _
      apply W.run 20
      · intro M
        simp (config := { maxSteps := 4000000 }) (disch := first | decide +kernel | omega | simp only [Wq, Nat.reduceEqDiff]) only [zc20z, zc20, Tryz.f515, Aq, Nat.ble, reduceIte, Nat.reduceEqDiff, Nat.reduceAdd]
        with_reducible rfl
      refine hK _ ?_
      rw [← he, hd]; unfold ptS
      simp only [Sl_cons, Sl_nil, T.get_set, T.puts_cons, T.puts_nil, Nat.reduceEqDiff, Nat.reduceAdd, if_true, if_false, and_true, true_and, g0, g1, g10, g11]
  · have d1 : decide (i ≤ k) = false := decide_eq_false hlt
    have hd : scanDown (fun y => !ltB y d[a]!) d i k = k := by
      cases k with
      | zero => rfl
      | succ m => rw [scanDown, if_neg (by simp; omega)]
    apply W.run 20
    · intro M
      simp (config := { maxSteps := 4000000 }) (disch := first | decide +kernel | omega | simp only [Wq, Nat.reduceEqDiff]) only [zc20z, zc20, Tryz.f515, Aq, Nat.ble, reduceIte, Nat.reduceEqDiff, Nat.reduceAdd, g0, g1, g10, g11, d1]
      with_reducible rfl
    show W tb1 _ _ _
    apply W.run 20
    · intro M
      simp (config := { maxSteps := 4000000 }) (disch := first | decide +kernel | omega | simp only [Wq, Nat.reduceEqDiff]) only [zc20z, zc20, Tryz.f515, Aq, Nat.ble, reduceIte, Nat.reduceEqDiff, Nat.reduceAdd]
      with_reducible rfl
    refine hK _ ?_
    rw [← he, hd]; unfold ptS
    simp only [Sl_cons, Sl_nil, T.get_set, T.puts_cons, T.puts_nil, Nat.reduceEqDiff, Nat.reduceAdd, if_true, if_false, and_true, true_and, g0, g1, g10, g11]

noncomputable def zc20l : Code := sub zc20 [1,1,1,1,1,1,1,1,1,0,0,0]
theorem zc20l_eq : zc20l = .block 5 (.seq (.block 6 (.loop zc20a)) (.seq (.block 8 (.loop zc20z)) (.seq (.seq (sub zc20l [0,1,1,0,0]) (sub zc20l [0,1,1,0,1])) (.seq (sub zc20l [0,1,1,1,0]) (.seq (sub zc20l [0,1,1,1,1,0]) (sub zc20l [0,1,1,1,1,1])))))) := by kernel_rfl
set_option maxHeartbeats 8000000 in
theorem p_loop {D : Mem} {b a i j : Nat} {d : Array UInt8} {x : Value} {t : T Value} {K : Ex → St → Prop} (h : RB D b d x) (hai : a < i) (hij : i ≤ j + 1) (hj : j < d.size) (hz : d.size < 1000000) (hs : Sl t (ptS x a i j)) (hK : ∀ t' C', Sl t' [(0, x), (1, .int .i64 ((a : Nat) : Int)), (11, .int .i64 (((partLoop ltB a i j d).1 : Nat) : Int))] → RB C' b (partLoop ltB a i j d).2 x → (partLoop ltB a i j d).2.size = d.size → a ≤ (partLoop ltB a i j d).1 → (partLoop ltB a i j d).1 < d.size + 1 → ((partLoop ltB a i j d).1 < d.size) → Kp b D C' → K .nrm ⟨t', 168, [], C', none⟩) : W tb1 (.block 4 (.loop zc20l)) ⟨t, 168, [], D, none⟩ K := by
  apply W.block
  refine W.fall (fun k t C => ∃ m n q, k = n + 1 - m ∧ a < m ∧ m ≤ n + 1 ∧ n < d.size ∧ RB C b q x ∧ q.size = d.size ∧ partLoop ltB a m n q = partLoop ltB a i j d ∧ Kp b D C ∧ Sl t (ptS x a m n)) ?_ (k := j + 1 - i) ⟨i, j, d, rfl, hai, hij, hj, h, rfl, rfl, Kp.refl _ _, hs⟩
  rintro k t C ⟨m, n, q, rfl, ham, hmn, hn, hq, hqs, he, hKp, hs⟩
  rw [zc20l_eq]
  apply W.block
  apply W.seq
  refine p_up2 (a := a) (i := m) (j := n) hq (by omega) (by omega) hmn (by omega) hs fun t hs => ?_
  show W tb1 _ _ _
  rw [partLoop_eq] at he
  have u1 := scanUp_ge (fun y => ltB y q[a]!) q n m
  have u2 := (scanUp_spec (fun y => ltB y q[a]!) q n _ m rfl).2.1 hmn
  have w1 := (scanUp_spec (fun y => ltB y q[a]!) q n _ m rfl).2.2.2
  generalize scanUp (fun y => ltB y q[a]!) q n m = I at he u1 u2 w1 hs
  apply W.seq
  refine p_down2 (a := a) (i := I) (j := n) hq (by omega) (by omega) (by omega) (by omega) hs fun t hs => ?_
  show W tb1 _ _ _
  have v1 := scanDown_le (fun y => !ltB y q[a]!) q I n
  have v2 := (scanDown_spec (fun y => !ltB y q[a]!) q I n).2.1 u2
  have w2 := (scanDown_spec (fun y => !ltB y q[a]!) q I n).2.2.2
  generalize scanDown (fun y => !ltB y q[a]!) q I n = J at he v1 v2 w2 hs
  obtain ⟨g0, g1, g10, g11, -⟩ := hs
  apply W.seq
  apply W.seq
  by_cases hgt : J < I
  · have d1 : decide (J < I) = true := decide_eq_true hgt
    rw [if_pos hgt] at he
    apply W.run 20
    · intro M
      simp (config := { maxSteps := 4000000 }) (disch := first | decide +kernel | omega | simp only [Wq, Nat.reduceEqDiff]) only [zc20l, zc20, Tryz.f515, Aq, Nat.ble, reduceIte, Nat.reduceEqDiff, Nat.reduceAdd, g10, g11, d1]
      with_reducible rfl
    show W tb1 _ _ _
    apply W.run 20
    · intro M
      simp (config := { maxSteps := 4000000 }) (disch := first | decide +kernel | omega | simp only [Wq, Nat.reduceEqDiff]) only [zc20l, zc20, Tryz.f515, Aq, Nat.ble, reduceIte, Nat.reduceEqDiff, Nat.reduceAdd]
      with_reducible rfl
    have hK := @hK
    rw [← he] at hK
    refine hK _ _ ?_ hq hqs ?_ ?_ ?_ hKp
    · simp only [Sl_cons, Sl_nil, T.get_set, T.puts_cons, T.puts_nil, Nat.reduceEqDiff, Nat.reduceAdd, if_true, if_false, and_true, true_and, g0, g1, g10, g11]
    · show a ≤ _; omega
    · show _ < d.size + 1; omega
    · show _ < d.size; omega
  · have d1 : decide (J < I) = false := decide_eq_false hgt
    rw [if_neg hgt] at he
    have hne : I ≠ J := by
      intro e; subst e
      have a1 := w1 (by omega)
      have a2 := w2 (Nat.le_refl _) (by omega)
      simp at a1 a2
      simp [a1] at a2
    have i1 := hq.idx (i := I) (by omega)
    have i2 := hq.idx (i := J) (by omega)
    have l1 := hq.load (i := I) (by omega)
    have l2 := hq.load (i := J) (by omega)
    obtain ⟨D1, D2, hst1, hst2, hr2, hn2, hf2⟩ := hq.swap (i := I) (j := J) (by omega) (by omega)
    have s1 : intOpF .sub .i64 ((J : Nat) : Int) ((1 : Nat) : Int) = .ok (.int .i64 ((J - 1 : Nat) : Int)) := op_sub_i64 (by omega) (by omega)
    unfold bv at l1 l2 hst1 hst2
    apply W.run 20
    · intro M
      simp (config := { maxSteps := 4000000 }) (disch := first | decide +kernel | omega | simp only [Wq, Nat.reduceEqDiff]) only [zc20l, zc20, Tryz.f515, Aq, Nat.ble, reduceIte, Nat.reduceEqDiff, Nat.reduceAdd, g10, g11, d1]
      with_reducible rfl
    show W tb1 _ _ _
    apply W.run 20
    · intro M
      simp (config := { maxSteps := 4000000 }) (disch := first | decide +kernel | omega | simp only [Wq, Nat.reduceEqDiff]) only [zc20l, zc20, Tryz.f515, Aq, Nat.ble, reduceIte, Nat.reduceEqDiff, Nat.reduceAdd]
      with_reducible rfl
    show W tb1 _ _ _
    apply W.seq
    apply W.run 20
    · intro M
      simp (config := { maxSteps := 4000000 }) (disch := first | decide +kernel | omega | simp only [Wq, Nat.reduceEqDiff]) only [zc20l, zc20, Tryz.f515, Aq, Nat.ble, reduceIte, Nat.reduceEqDiff, Nat.reduceAdd, Fq, g0, g10, g11, i1, i2, l1, l2, hst1, hst2]
      with_reducible rfl
    show W tb1 _ _ _
    apply W.seq
    apply W.run 20
    · intro M
      simp (config := { maxSteps := 4000000 }) (disch := first | decide +kernel | omega | simp only [Wq, Nat.reduceEqDiff]) only [zc20l, zc20, Tryz.f515, Aq, Nat.ble, reduceIte, Nat.reduceEqDiff, Nat.reduceAdd, g10]
      with_reducible rfl
    show W tb1 _ _ _
    apply W.run 20
    · intro M
      simp (config := { maxSteps := 4000000 }) (disch := first | decide +kernel | omega | simp only [Wq, Nat.reduceEqDiff]) only [zc20l, zc20, Tryz.f515, Aq, Nat.ble, reduceIte, Nat.reduceEqDiff, Nat.reduceAdd, g11, s1]
      with_reducible rfl
    refine ⟨(J - 1) + 1 - (I + 1), _, _, by omega, rfl, I + 1, J - 1, _, rfl, by omega, by omega, by omega, hr2, by rw [swp_size]; exact hqs, he, hKp.trans (Kp.of hn2 hf2), ?_⟩
    unfold ptS
    simp only [Sl_cons, Sl_nil, T.get_set, T.puts_cons, T.puts_nil, Nat.reduceEqDiff, Nat.reduceAdd, if_true, if_false, and_true, true_and, g0, g1]
theorem zc20_eq : Tryz.f515.body = some (.seq (sub zc20 [0]) (.seq (sub zc20 [1,0]) (.seq (sub zc20 [1,1,0]) (.seq (.block 0 (.loop zc20u)) (.seq (.block 2 (.loop zc20v)) (.seq (.seq (sub zc20 [1,1,1,1,1,0,0]) (sub zc20 [1,1,1,1,1,0,1])) (.seq (sub zc20 [1,1,1,1,1,1,0]) (.seq (sub zc20 [1,1,1,1,1,1,1,0]) (.seq (sub zc20 [1,1,1,1,1,1,1,1,0]) (.seq (.block 4 (.loop zc20l)) (.seq (sub zc20 [1,1,1,1,1,1,1,1,1,1,0]) (sub zc20 [1,1,1,1,1,1,1,1,1,1,1])))))))))))) := by kernel_rfl
set_option maxHeartbeats 8000000 in
theorem run_part {D : Mem} {b a e pv : Nat} {d : Array UInt8} {x : Value} (h : RB D b d x) (hap : a ≤ pv) (hpe : pv < e) (he : e ≤ d.size) (hz : d.size < 1000000) : ∃ D', Ans tb1 515 [x, .int .i64 ((a : Nat) : Int), .int .i64 ((e : Nat) : Int), .int .i64 ((pv : Nat) : Int)] D (.tuple ⟨[.int .i64 (((partition ltB d a e pv).1 : Nat) : Int), .bool (partition ltB d a e pv).2.1]⟩) D' ∧ RB D' b (partition ltB d a e pv).2.2 x ∧ (partition ltB d a e pv).2.2.size = d.size ∧ Kp b D D' := by
  obtain ⟨v, D', ha, rfl, h1, h2, h3⟩ : ∃ v D', Ans tb1 515 [x, .int .i64 ((a : Nat) : Int), .int .i64 ((e : Nat) : Int), .int .i64 ((pv : Nat) : Int)] D v D' ∧ v = (.tuple ⟨[.int .i64 (((partition ltB d a e pv).1 : Nat) : Int), .bool (partition ltB d a e pv).2.1]⟩) ∧ RB D' b (partition ltB d a e pv).2.2 x ∧ (partition ltB d a e pv).2.2.size = d.size ∧ Kp b D D' := by
    refine ans_of_W (fn_atX Tryz.func515) zc20_eq (by rw [Tryz.ntmps515]; simp) (by kernel_rfl) (by kernel_rfl) ?_
    apply W.seq
    apply W.run 20
    · intro M
      simp (config := { maxSteps := 4000000 }) (disch := first | decide +kernel | omega | simp only [Wq, Nat.reduceEqDiff]) only [zc20, Tryz.f515, Aq, Nat.ble, reduceIte, Nat.reduceEqDiff, Nat.reduceAdd]
      with_reducible rfl
    show W tb1 _ _ _
    apply W.seq
    have i1 := h.idx (i := a) (by omega)
    have i2 := h.idx (i := pv) (by omega)
    have l1 := h.load (i := a) (by omega)
    have l2 := h.load (i := pv) (by omega)
    obtain ⟨D1, D2, hst1, hst2, hr2, hn2, hf2⟩ := h.swap (i := a) (j := pv) (by omega) (by omega)
    unfold bv at l1 l2 hst1 hst2
    apply W.run 20
    · intro M
      simp (config := { maxSteps := 4000000 }) (disch := first | decide +kernel | omega | simp only [Wq, Nat.reduceEqDiff]) only [zc20, Tryz.f515, Aq, Nat.ble, reduceIte, Nat.reduceEqDiff, Nat.reduceAdd, Fq, i1, i2, l1, l2, hst1, hst2]
      with_reducible rfl
    show W tb1 _ _ _
    apply W.seq
    have s1 : intOpF .sub .i64 ((e : Nat) : Int) ((1 : Nat) : Int) = .ok (.int .i64 ((e - 1 : Nat) : Int)) := op_sub_i64 (by omega) (by omega)
    apply W.run 20
    · intro M
      simp (config := { maxSteps := 4000000 }) (disch := first | decide +kernel | omega | simp only [Wq, Nat.reduceEqDiff]) only [zc20, Tryz.f515, Aq, Nat.ble, reduceIte, Nat.reduceEqDiff, Nat.reduceAdd, s1]
      with_reducible rfl
    show W tb1 _ _ _
    have hsz := swp_size d a pv
    have hd1 : partition ltB d a e pv = (if scanUp (fun y => ltB y (swp d a pv)[a]!) (swp d a pv) (e - 1) (a + 1) > scanDown (fun y => !ltB y (swp d a pv)[a]!) (swp d a pv) (scanUp (fun y => ltB y (swp d a pv)[a]!) (swp d a pv) (e - 1) (a + 1)) (e - 1) then (scanDown (fun y => !ltB y (swp d a pv)[a]!) (swp d a pv) (scanUp (fun y => ltB y (swp d a pv)[a]!) (swp d a pv) (e - 1) (a + 1)) (e - 1), true, swp (swp d a pv) (scanDown (fun y => !ltB y (swp d a pv)[a]!) (swp d a pv) (scanUp (fun y => ltB y (swp d a pv)[a]!) (swp d a pv) (e - 1) (a + 1)) (e - 1)) a) else
      ((partLoop ltB a (scanUp (fun y => ltB y (swp d a pv)[a]!) (swp d a pv) (e - 1) (a + 1) + 1) (scanDown (fun y => !ltB y (swp d a pv)[a]!) (swp d a pv) (scanUp (fun y => ltB y (swp d a pv)[a]!) (swp d a pv) (e - 1) (a + 1)) (e - 1) - 1) (swp (swp d a pv) (scanUp (fun y => ltB y (swp d a pv)[a]!) (swp d a pv) (e - 1) (a + 1)) (scanDown (fun y => !ltB y (swp d a pv)[a]!) (swp d a pv) (scanUp (fun y => ltB y (swp d a pv)[a]!) (swp d a pv) (e - 1) (a + 1)) (e - 1)))).1, false,
        swp (partLoop ltB a (scanUp (fun y => ltB y (swp d a pv)[a]!) (swp d a pv) (e - 1) (a + 1) + 1) (scanDown (fun y => !ltB y (swp d a pv)[a]!) (swp d a pv) (scanUp (fun y => ltB y (swp d a pv)[a]!) (swp d a pv) (e - 1) (a + 1)) (e - 1) - 1) (swp (swp d a pv) (scanUp (fun y => ltB y (swp d a pv)[a]!) (swp d a pv) (e - 1) (a + 1)) (scanDown (fun y => !ltB y (swp d a pv)[a]!) (swp d a pv) (scanUp (fun y => ltB y (swp d a pv)[a]!) (swp d a pv) (e - 1) (a + 1)) (e - 1)))).2 (partLoop ltB a (scanUp (fun y => ltB y (swp d a pv)[a]!) (swp d a pv) (e - 1) (a + 1) + 1) (scanDown (fun y => !ltB y (swp d a pv)[a]!) (swp d a pv) (scanUp (fun y => ltB y (swp d a pv)[a]!) (swp d a pv) (e - 1) (a + 1)) (e - 1) - 1) (swp (swp d a pv) (scanUp (fun y => ltB y (swp d a pv)[a]!) (swp d a pv) (e - 1) (a + 1)) (scanDown (fun y => !ltB y (swp d a pv)[a]!) (swp d a pv) (scanUp (fun y => ltB y (swp d a pv)[a]!) (swp d a pv) (e - 1) (a + 1)) (e - 1)))).1 a)) := rfl
    have hKp := Kp.of hn2 hf2
    rw [hd1]
    clear hd1 hst1 hst2 l1 l2 hn2 hf2
    generalize swp d a pv = q at hr2 hsz ⊢
    apply W.seq
    refine p_up (a := a) (i := a + 1) (j := e - 1) hr2 (by omega) (by omega) (by omega) (by omega) (by unfold ptS; simp only [Sl_cons, Sl_nil, T.get_set, T.puts_cons, T.puts_nil, Nat.reduceEqDiff, Nat.reduceAdd, if_true, if_false, and_true, true_and]) fun t hs => ?_
    show W tb1 _ _ _
    have u1 := scanUp_ge (fun y => ltB y q[a]!) q (e - 1) (a + 1)
    have u2 := (scanUp_spec (fun y => ltB y q[a]!) q (e - 1) _ (a + 1) rfl).2.1 (by omega)
    have w1 := (scanUp_spec (fun y => ltB y q[a]!) q (e - 1) _ (a + 1) rfl).2.2.2
    generalize scanUp (fun y => ltB y q[a]!) q (e - 1) (a + 1) = I at u1 u2 w1 hs ⊢
    apply W.seq
    refine p_down (a := a) (i := I) (j := e - 1) hr2 (by omega) (by omega) (by omega) (by omega) hs fun t hs => ?_
    show W tb1 _ _ _
    have v1 := scanDown_le (fun y => !ltB y q[a]!) q I (e - 1)
    have v2 := (scanDown_spec (fun y => !ltB y q[a]!) q I (e - 1)).2.1 u2
    have w2 := (scanDown_spec (fun y => !ltB y q[a]!) q I (e - 1)).2.2.2
    generalize scanDown (fun y => !ltB y q[a]!) q I (e - 1) = J at v1 v2 w2 hs ⊢
    obtain ⟨g0, g1, g10, g11, -⟩ := hs
    apply W.seq
    apply W.seq
    by_cases hgt : J < I
    · have d1 : decide (J < I) = true := decide_eq_true hgt
      rw [if_pos hgt]
      have i1 := hr2.idx (i := J) (by omega)
      have i2 := hr2.idx (i := a) (by omega)
      have l1 := hr2.load (i := J) (by omega)
      have l2 := hr2.load (i := a) (by omega)
      obtain ⟨D3, D4, hst1, hst2, hr4, hn4, hf4⟩ := hr2.swap (i := J) (j := a) (by omega) (by omega)
      unfold bv at l1 l2 hst1 hst2
      apply W.run 20
      · intro M
        simp (config := { maxSteps := 4000000 }) (disch := first | decide +kernel | omega | simp only [Wq, Nat.reduceEqDiff]) only [zc20, Tryz.f515, Aq, Nat.ble, reduceIte, Nat.reduceEqDiff, Nat.reduceAdd, g10, g11, d1]
        with_reducible rfl
      show W tb1 _ _ _
      apply W.run 20
      · intro M
        simp (config := { maxSteps := 4000000 }) (disch := first | decide +kernel | omega | simp only [Wq, Nat.reduceEqDiff]) only [zc20, Tryz.f515, Aq, Nat.ble, reduceIte, Nat.reduceEqDiff, Nat.reduceAdd, Fq, g0, g1, g11, i1, i2, l1, l2, hst1, hst2]
        with_reducible rfl
      refine ⟨.inr rfl, _, [.int .i64 ((J : Nat) : Int), .bool true], rfl, ?_, rfl, hr4, by rw [swp_size]; exact hsz, hKp.trans (Kp.of hn4 hf4)⟩
      simp only [Tryz.f515, resF, ev_tmp, T.get_set, Nat.reduceEqDiff, if_true, if_false, evG_some, R.ok_bind]
    · have d1 : decide (J < I) = false := decide_eq_false hgt
      rw [if_neg hgt]
      have hne : I ≠ J := by
        intro e; subst e
        have a1 := w1 (by omega)
        have a2 := w2 (Nat.le_refl _) (by omega)
        simp at a1 a2
        simp [a1] at a2
      have i1 := hr2.idx (i := I) (by omega)
      have i2 := hr2.idx (i := J) (by omega)
      have l1 := hr2.load (i := I) (by omega)
      have l2 := hr2.load (i := J) (by omega)
      obtain ⟨D3, D4, hst1, hst2, hr4, hn4, hf4⟩ := hr2.swap (i := I) (j := J) (by omega) (by omega)
      have s2 : intOpF .sub .i64 ((J : Nat) : Int) ((1 : Nat) : Int) = .ok (.int .i64 ((J - 1 : Nat) : Int)) := op_sub_i64 (by omega) (by omega)
      unfold bv at l1 l2 hst1 hst2
      apply W.run 20
      · intro M
        simp (config := { maxSteps := 4000000 }) (disch := first | decide +kernel | omega | simp only [Wq, Nat.reduceEqDiff]) only [zc20, Tryz.f515, Aq, Nat.ble, reduceIte, Nat.reduceEqDiff, Nat.reduceAdd, g10, g11, d1]
        with_reducible rfl
      show W tb1 _ _ _
      apply W.run 20
      · intro M
        simp (config := { maxSteps := 4000000 }) (disch := first | decide +kernel | omega | simp only [Wq, Nat.reduceEqDiff]) only [zc20, Tryz.f515, Aq, Nat.ble, reduceIte, Nat.reduceEqDiff, Nat.reduceAdd]
        with_reducible rfl
      show W tb1 _ _ _
      apply W.seq
      apply W.run 20
      · intro M
        simp (config := { maxSteps := 4000000 }) (disch := first | decide +kernel | omega | simp only [Wq, Nat.reduceEqDiff]) only [zc20, Tryz.f515, Aq, Nat.ble, reduceIte, Nat.reduceEqDiff, Nat.reduceAdd, Fq, g0, g10, g11, i1, i2, l1, l2, hst1, hst2]
        with_reducible rfl
      show W tb1 _ _ _
      apply W.seq
      apply W.run 20
      · intro M
        simp (config := { maxSteps := 4000000 }) (disch := first | decide +kernel | omega | simp only [Wq, Nat.reduceEqDiff]) only [zc20, Tryz.f515, Aq, Nat.ble, reduceIte, Nat.reduceEqDiff, Nat.reduceAdd, g10]
        with_reducible rfl
      show W tb1 _ _ _
      apply W.seq
      apply W.run 20
      · intro M
        simp (config := { maxSteps := 4000000 }) (disch := first | decide +kernel | omega | simp only [Wq, Nat.reduceEqDiff]) only [zc20, Tryz.f515, Aq, Nat.ble, reduceIte, Nat.reduceEqDiff, Nat.reduceAdd, g11, s2]
        with_reducible rfl
      show W tb1 _ _ _
      have hsz4 := swp_size q I J
      have hKp4 := hKp.trans (Kp.of hn4 hf4)
      clear hst1 hst2 l1 l2
      generalize swp q I J = q4 at hr4 hsz4 ⊢
      apply W.seq
      refine p_loop (a := a) (i := I + 1) (j := J - 1) hr4 (by omega) (by omega) (by omega) (by omega) (by unfold ptS; simp only [Sl_cons, Sl_nil, T.get_set, T.puts_cons, T.puts_nil, Nat.reduceEqDiff, Nat.reduceAdd, if_true, if_false, and_true, true_and, g0, g1]) fun t C hs hr5 hsz5 hge _ hlt hK5 => ?_
      show W tb1 _ _ _
      generalize partLoop ltB a (I + 1) (J - 1) q4 = Z at hr5 hsz5 hge hlt hs ⊢
      obtain ⟨f0, f1, f11, -⟩ := hs
      have i1 := hr5.idx (i := Z.1) (by omega)
      have i2 := hr5.idx (i := a) (by omega)
      have l1 := hr5.load (i := Z.1) (by omega)
      have l2 := hr5.load (i := a) (by omega)
      obtain ⟨D5, D6, hst1, hst2, hr6, hn6, hf6⟩ := hr5.swap (i := Z.1) (j := a) (by omega) (by omega)
      unfold bv at l1 l2 hst1 hst2
      apply W.seq
      apply W.run 20
      · intro M
        simp (config := { maxSteps := 4000000 }) (disch := first | decide +kernel | omega | simp only [Wq, Nat.reduceEqDiff]) only [zc20, Tryz.f515, Aq, Nat.ble, reduceIte, Nat.reduceEqDiff, Nat.reduceAdd, Fq, f0, f1, f11, i1, i2, l1, l2, hst1, hst2]
        with_reducible rfl
      show W tb1 _ _ _
      apply W.run 20
      · intro M
        simp (config := { maxSteps := 4000000 }) (disch := first | decide +kernel | omega | simp only [Wq, Nat.reduceEqDiff]) only [zc20, Tryz.f515, Aq, Nat.ble, reduceIte, Nat.reduceEqDiff, Nat.reduceAdd, f11]
        with_reducible rfl
      refine ⟨.inr rfl, _, [.int .i64 ((Z.1 : Nat) : Int), .bool false], rfl, ?_, rfl, hr6, by rw [swp_size]; omega, (hKp4.trans hK5).trans (Kp.of hn6 hf6)⟩
      simp only [Tryz.f515, resF, ev_tmp, T.get_set, Nat.reduceEqDiff, if_true, if_false, evG_some, R.ok_bind]
  exact ⟨D', ha, h1, h2, h3⟩

noncomputable def zc19 : Code := Tryz.f514.body.getD .skip
def peS (x : Value) (a i j : Nat) : List (Nat × Value) := [(0, x), (1, .int .i64 ((a : Nat) : Int)), (9, .int .i64 ((i : Nat) : Int)), (10, .int .i64 ((j : Nat) : Int))]
noncomputable def zc19a : Code := sub zc19 [1,1,1,0,0,0,0,0,0,0]
theorem zc19a_eq : zc19a = (.seq (.seq (sub zc19a [0,0]) (sub zc19a [0,1])) (.block 3 (sub zc19a [1,0]))) := by kernel_rfl
set_option maxHeartbeats 8000000 in
theorem e_up {D : Mem} {b a i j : Nat} {d : Array UInt8} {x : Value} {t : T Value} {K : Ex → St → Prop} (h : RB D b d x) (ha : a < d.size) (hj : j < d.size) (hi : i ≤ j + 1) (hz : d.size < 1000000) (hs : Sl t (peS x a i j)) (hK : ∀ t', Sl t' (peS x a (scanUp (fun y => !ltB d[a]! y) d j i) j) → K .nrm ⟨t', 84, [], D, none⟩) : W tb1 (.block 2 (.loop zc19a)) ⟨t, 84, [], D, none⟩ K := by
  obtain ⟨g0, g1, g9, g10, -⟩ := hs
  apply W.block
  refine W.fall (fun k t C => ∃ m, k = j + 1 - m ∧ C = D ∧ m ≤ j + 1 ∧ scanUp (fun y => !ltB d[a]! y) d j m = scanUp (fun y => !ltB d[a]! y) d j i ∧ Sl t (peS x a m j)) ?_ (k := j + 1 - i) ⟨i, rfl, rfl, hi, rfl, by unfold peS; simp only [Sl_cons, Sl_nil, T.get_set, T.puts_cons, T.puts_nil, Nat.reduceEqDiff, Nat.reduceAdd, if_true, if_false, and_true, true_and, g0, g1, g9, g10]⟩
  rintro k t C ⟨m, rfl, rfl, hm, he, g0, g1, g9, g10, -⟩
  rw [zc19a_eq]
  apply W.seq
  apply W.seq
  by_cases hlt : m ≤ j
  · have d1 : decide (m ≤ j) = true := decide_eq_true hlt
    have i1 := h.idx (i := m) (by omega)
    have i2 := h.idx (i := a) ha
    have l1 := h.load (i := m) (by omega)
    have l2 := h.load (i := a) ha
    have hl := fun ih => kLess (ih := ih) (A := C) (a := d[a]!) (b := d[m]!)
    unfold bv at l1 l2
    cases hc : ltB d[a]! d[m]! with
    | false =>
      rw [hc] at hl
      have hd : scanUp (fun y => !ltB d[a]! y) d j m = scanUp (fun y => !ltB d[a]! y) d j (m + 1) := by rw [scanUp, if_pos (by simp [hc]; omega)]
      apply W.run 20
      · intro M
        simp (config := { maxSteps := 4000000 }) (disch := first | decide +kernel | omega | simp only [Wq, Nat.reduceEqDiff]) only [zc19a, zc19, Tryz.f514, Aq, Nat.ble, reduceIte, Nat.reduceEqDiff, Nat.reduceAdd, g0, g1, g9, g10, d1, i1, i2, l1, l2, hl]
        with_reducible rfl
      show W tb1 _ _ _
      apply W.run 20
      · intro M
        simp (config := { maxSteps := 4000000 }) (disch := first | decide +kernel | omega | simp only [Wq, Nat.reduceEqDiff]) only [zc19a, zc19, Tryz.f514, Aq, Nat.ble, reduceIte, Nat.reduceEqDiff, Nat.reduceAdd]
        with_reducible rfl
      show W tb1 _ _ _
      apply W.block
      apply W.run 20
      · intro M
        simp (config := { maxSteps := 4000000 }) (disch := first | decide +kernel | omega | simp only [Wq, Nat.reduceEqDiff]) only [zc19a, zc19, Tryz.f514, Aq, Nat.ble, reduceIte, Nat.reduceEqDiff, Nat.reduceAdd, g9]
        with_reducible rfl
      refine ⟨j + 1 - (m + 1), _, _, by omega, rfl, m + 1, rfl, rfl, by omega, by rw [← he, hd], ?_⟩
      unfold peS
      simp only [Sl_cons, Sl_nil, T.get_set, T.puts_cons, T.puts_nil, Nat.reduceEqDiff, Nat.reduceAdd, if_true, if_false, and_true, true_and, g0, g1, g9, g10]
    | true =>
      rw [hc] at hl
      have hd : scanUp (fun y => !ltB d[a]! y) d j m = m := by rw [scanUp, if_neg (by simp [hc])]
      apply W.run 20
      · intro M
        simp (config := { maxSteps := 4000000 }) (disch := first | decide +kernel | omega | simp only [Wq, Nat.reduceEqDiff]) only [zc19a, zc19, Tryz.f514, Aq, Nat.ble, reduceIte, Nat.reduceEqDiff, Nat.reduceAdd, g0, g1, g9, g10, d1, i1, i2, l1, l2, hl]
        with_reducible rfl
      show W tb1 _ _ _
      apply W.run 20
      · intro M
        simp (config := { maxSteps := 4000000 }) (disch := first | decide +kernel | omega | simp only [Wq, Nat.reduceEqDiff]) only [zc19a, zc19, Tryz.f514, Aq, Nat.ble, reduceIte, Nat.reduceEqDiff, Nat.reduceAdd]
        with_reducible rfl
      refine hK _ ?_
      rw [← he, hd]; unfold peS
      simp only [Sl_cons, Sl_nil, T.get_set, T.puts_cons, T.puts_nil, Nat.reduceEqDiff, Nat.reduceAdd, if_true, if_false, and_true, true_and, g0, g1, g9, g10]
  · have d1 : decide (m ≤ j) = false := decide_eq_false hlt
    have hd : scanUp (fun y => !ltB d[a]! y) d j m = m := by rw [scanUp, if_neg (by simp; omega)]
    apply W.run 20
    · intro M
      simp (config := { maxSteps := 4000000 }) (disch := first | decide +kernel | omega | simp only [Wq, Nat.reduceEqDiff]) only [zc19a, zc19, Tryz.f514, Aq, Nat.ble, reduceIte, Nat.reduceEqDiff, Nat.reduceAdd, g0, g1, g9, g10, d1]
      with_reducible rfl
    show W tb1 _ _ _
    apply W.run 20
    · intro M
      simp (config := { maxSteps := 4000000 }) (disch := first | decide +kernel | omega | simp only [Wq, Nat.reduceEqDiff]) only [zc19a, zc19, Tryz.f514, Aq, Nat.ble, reduceIte, Nat.reduceEqDiff, Nat.reduceAdd]
      with_reducible rfl
    refine hK _ ?_
    rw [← he, hd]; unfold peS
    simp only [Sl_cons, Sl_nil, T.get_set, T.puts_cons, T.puts_nil, Nat.reduceEqDiff, Nat.reduceAdd, if_true, if_false, and_true, true_and, g0, g1, g9, g10]
noncomputable def zc19z : Code := sub zc19 [1,1,1,0,0,0,0,1,0,0,0]
theorem zc19z_eq : zc19z = (.seq (.seq (sub zc19z [0,0]) (sub zc19z [0,1])) (.block 5 (sub zc19z [1,0]))) := by kernel_rfl
set_option maxHeartbeats 8000000 in
theorem e_down {D : Mem} {b a i j : Nat} {d : Array UInt8} {x : Value} {t : T Value} {K : Ex → St → Prop} (h : RB D b d x) (ha : a < d.size) (hj : j < d.size) (hi : 1 ≤ i) (hz : d.size < 1000000) (hs : Sl t (peS x a i j)) (hK : ∀ t', Sl t' (peS x a i (scanDown (fun y => ltB d[a]! y) d i j)) → K .nrm ⟨t', 84, [], D, none⟩) : W tb1 (.block 4 (.loop zc19z)) ⟨t, 84, [], D, none⟩ K := by
  obtain ⟨g0, g1, g9, g10, -⟩ := hs
  apply W.block
  refine W.fall (fun k t C => C = D ∧ k ≤ j ∧ scanDown (fun y => ltB d[a]! y) d i k = scanDown (fun y => ltB d[a]! y) d i j ∧ Sl t (peS x a i k)) ?_ (k := j) ⟨rfl, Nat.le_refl _, rfl, by unfold peS; simp only [Sl_cons, Sl_nil, T.get_set, T.puts_cons, T.puts_nil, Nat.reduceEqDiff, Nat.reduceAdd, if_true, if_false, and_true, true_and, g0, g1, g9, g10]⟩
  rintro k t C ⟨rfl, hk, he, g0, g1, g9, g10, -⟩
  rw [zc19z_eq]
  apply W.seq
  apply W.seq
  by_cases hlt : i ≤ k
  · obtain ⟨m, rfl⟩ : ∃ m, k = m + 1 := ⟨k - 1, by omega⟩
    have d1 : decide (i ≤ m + 1) = true := decide_eq_true hlt
    have i1 := h.idx (i := m + 1) (by omega)
    have i2 := h.idx (i := a) ha
    have l1 := h.load (i := m + 1) (by omega)
    have l2 := h.load (i := a) ha
    have s1 : intOpF .sub .i64 ((m + 1 : Nat) : Int) ((1 : Nat) : Int) = .ok (.int .i64 ((m : Nat) : Int)) := by
      have := op_sub_i64 (a := m + 1) (b := 1) (by omega) (by omega)
      rwa [Nat.add_sub_cancel] at this
    have hl := fun ih => kLess (ih := ih) (A := C) (a := d[a]!) (b := d[m + 1]!)
    unfold bv at l1 l2
    cases hc : ltB d[a]! d[m + 1]! with
    | false =>
      rw [hc] at hl
      have hd : scanDown (fun y => ltB d[a]! y) d i (m + 1) = m + 1 := by rw [scanDown, if_neg (by simp [hc])]
      apply W.run 20
      · intro M
        simp (config := { maxSteps := 4000000 }) (disch := first | decide +kernel | omega | simp only [Wq, Nat.reduceEqDiff]) only [zc19z, zc19, Tryz.f514, Aq, Nat.ble, reduceIte, Nat.reduceEqDiff, Nat.reduceAdd, g0, g1, g9, g10, d1, i1, i2, l1, l2, hl]
        with_reducible rfl
      show W tb1 _ _ _
      apply W.run 20
      · intro M
        simp (config := { maxSteps := 4000000 }) (disch := first | decide +kernel | omega | simp only [Wq, Nat.reduceEqDiff]) only [zc19z, zc19, Tryz.f514, Aq, Nat.ble, reduceIte, Nat.reduceEqDiff, Nat.reduceAdd]
        with_reducible rfl
      refine hK _ ?_
      rw [← he, hd]; unfold peS
      simp only [Sl_cons, Sl_nil, T.get_set, T.puts_cons, T.puts_nil, Nat.reduceEqDiff, Nat.reduceAdd, if_true, if_false, and_true, true_and, g0, g1, g9, g10]
    | true =>
      rw [hc] at hl
      have hd : scanDown (fun y => ltB d[a]! y) d i (m + 1) = scanDown (fun y => ltB d[a]! y) d i m := by rw [scanDown, if_pos (by simp [hc]; omega)]
      apply W.run 20
      · intro M
        simp (config := { maxSteps := 4000000 }) (disch := first | decide +kernel | omega | simp only [Wq, Nat.reduceEqDiff]) only [zc19z, zc19, Tryz.f514, Aq, Nat.ble, reduceIte, Nat.reduceEqDiff, Nat.reduceAdd, g0, g1, g9, g10, d1, i1, i2, l1, l2, hl]
        with_reducible rfl
      show W tb1 _ _ _
      apply W.run 20
      · intro M
        simp (config := { maxSteps := 4000000 }) (disch := first | decide +kernel | omega | simp only [Wq, Nat.reduceEqDiff]) only [zc19z, zc19, Tryz.f514, Aq, Nat.ble, reduceIte, Nat.reduceEqDiff, Nat.reduceAdd]
        with_reducible rfl
      show W tb1 _ _ _
      apply W.block
      apply W.run 20
      · intro M
        simp (config := { maxSteps := 4000000 }) (disch := first | decide +kernel | omega | simp only [Wq, Nat.reduceEqDiff]) only [zc19z, zc19, Tryz.f514, Aq, Nat.ble, reduceIte, Nat.reduceEqDiff, Nat.reduceAdd, g10, s1]
        with_reducible rfl
      refine ⟨m, _, _, by omega, rfl, rfl, by omega, by rw [← he, hd], ?_⟩
      unfold peS
      simp only [Sl_cons, Sl_nil, T.get_set, T.puts_cons, T.puts_nil, Nat.reduceEqDiff, Nat.reduceAdd, if_true, if_false, and_true, true_and, g0, g1, g9, g10]
  · have d1 : decide (i ≤ k) = false := decide_eq_false hlt
    have hd : scanDown (fun y => ltB d[a]! y) d i k = k := by
      cases k with
      | zero => rfl
      | succ m => rw [scanDown, if_neg (by simp; omega)]
    apply W.run 20
    · intro M
      simp (config := { maxSteps := 4000000 }) (disch := first | decide +kernel | omega | simp only [Wq, Nat.reduceEqDiff]) only [zc19z, zc19, Tryz.f514, Aq, Nat.ble, reduceIte, Nat.reduceEqDiff, Nat.reduceAdd, g0, g1, g9, g10, d1]
      with_reducible rfl
    show W tb1 _ _ _
    apply W.run 20
    · intro M
      simp (config := { maxSteps := 4000000 }) (disch := first | decide +kernel | omega | simp only [Wq, Nat.reduceEqDiff]) only [zc19z, zc19, Tryz.f514, Aq, Nat.ble, reduceIte, Nat.reduceEqDiff, Nat.reduceAdd]
      with_reducible rfl
    refine hK _ ?_
    rw [← he, hd]; unfold peS
    simp only [Sl_cons, Sl_nil, T.get_set, T.puts_cons, T.puts_nil, Nat.reduceEqDiff, Nat.reduceAdd, if_true, if_false, and_true, true_and, g0, g1, g9, g10]

noncomputable def zc19l : Code := sub zc19 [1,1,1,0,0,0]
theorem zc19l_eq : zc19l = .block 1 (.seq (.block 2 (.loop zc19a)) (.seq (.block 4 (.loop zc19z)) (.seq (.seq (sub zc19l [0,1,1,0,0]) (sub zc19l [0,1,1,0,1])) (.seq (sub zc19l [0,1,1,1,0]) (.seq (sub zc19l [0,1,1,1,1,0]) (sub zc19l [0,1,1,1,1,1])))))) := by kernel_rfl
set_option maxHeartbeats 8000000 in
theorem e_loop {D : Mem} {b a i j : Nat} {d : Array UInt8} {x : Value} {t : T Value} {K : Ex → St → Prop} (h : RB D b d x) (hai : a < i) (hij : i ≤ j + 1) (hj : j < d.size) (hz : d.size < 1000000) (hs : Sl t (peS x a i j)) (hK : ∀ t' C', Sl t' [(0, x), (1, .int .i64 ((a : Nat) : Int)), (9, .int .i64 (((partEqLoop ltB a i j d).1 : Nat) : Int))] → RB C' b (partEqLoop ltB a i j d).2 x → (partEqLoop ltB a i j d).2.size = d.size → a ≤ (partEqLoop ltB a i j d).1 → (partEqLoop ltB a i j d).1 < d.size + 1 → (True) → Kp b D C' → K .nrm ⟨t', 84, [], C', none⟩) : W tb1 (.block 0 (.loop zc19l)) ⟨t, 84, [], D, none⟩ K := by
  apply W.block
  refine W.fall (fun k t C => ∃ m n q, k = n + 1 - m ∧ a < m ∧ m ≤ n + 1 ∧ n < d.size ∧ RB C b q x ∧ q.size = d.size ∧ partEqLoop ltB a m n q = partEqLoop ltB a i j d ∧ Kp b D C ∧ Sl t (peS x a m n)) ?_ (k := j + 1 - i) ⟨i, j, d, rfl, hai, hij, hj, h, rfl, rfl, Kp.refl _ _, hs⟩
  rintro k t C ⟨m, n, q, rfl, ham, hmn, hn, hq, hqs, he, hKp, hs⟩
  rw [zc19l_eq]
  apply W.block
  apply W.seq
  refine e_up (a := a) (i := m) (j := n) hq (by omega) (by omega) hmn (by omega) hs fun t hs => ?_
  show W tb1 _ _ _
  rw [partEqLoop_eq] at he
  have u1 := scanUp_ge (fun y => !ltB q[a]! y) q n m
  have u2 := (scanUp_spec (fun y => !ltB q[a]! y) q n _ m rfl).2.1 hmn
  have w1 := (scanUp_spec (fun y => !ltB q[a]! y) q n _ m rfl).2.2.2
  generalize scanUp (fun y => !ltB q[a]! y) q n m = I at he u1 u2 w1 hs
  apply W.seq
  refine e_down (a := a) (i := I) (j := n) hq (by omega) (by omega) (by omega) (by omega) hs fun t hs => ?_
  show W tb1 _ _ _
  have v1 := scanDown_le (fun y => ltB q[a]! y) q I n
  have v2 := (scanDown_spec (fun y => ltB q[a]! y) q I n).2.1 u2
  have w2 := (scanDown_spec (fun y => ltB q[a]! y) q I n).2.2.2
  generalize scanDown (fun y => ltB q[a]! y) q I n = J at he v1 v2 w2 hs
  obtain ⟨g0, g1, g9, g10, -⟩ := hs
  apply W.seq
  apply W.seq
  by_cases hgt : J < I
  · have d1 : decide (J < I) = true := decide_eq_true hgt
    rw [if_pos hgt] at he
    apply W.run 20
    · intro M
      simp (config := { maxSteps := 4000000 }) (disch := first | decide +kernel | omega | simp only [Wq, Nat.reduceEqDiff]) only [zc19l, zc19, Tryz.f514, Aq, Nat.ble, reduceIte, Nat.reduceEqDiff, Nat.reduceAdd, g9, g10, d1]
      with_reducible rfl
    show W tb1 _ _ _
    apply W.run 20
    · intro M
      simp (config := { maxSteps := 4000000 }) (disch := first | decide +kernel | omega | simp only [Wq, Nat.reduceEqDiff]) only [zc19l, zc19, Tryz.f514, Aq, Nat.ble, reduceIte, Nat.reduceEqDiff, Nat.reduceAdd]
      with_reducible rfl
    have hK := @hK
    rw [← he] at hK
    refine hK _ _ ?_ hq hqs ?_ ?_ ?_ hKp
    · simp only [Sl_cons, Sl_nil, T.get_set, T.puts_cons, T.puts_nil, Nat.reduceEqDiff, Nat.reduceAdd, if_true, if_false, and_true, true_and, g0, g1, g9, g10]
    · show a ≤ _; omega
    · show _ < d.size + 1; omega
    · trivial
  · have d1 : decide (J < I) = false := decide_eq_false hgt
    rw [if_neg hgt] at he
    have hne : I ≠ J := by
      intro e; subst e
      have a1 := w1 (by omega)
      have a2 := w2 (Nat.le_refl _) (by omega)
      simp at a1 a2
      simp [a1] at a2
    have i1 := hq.idx (i := I) (by omega)
    have i2 := hq.idx (i := J) (by omega)
    have l1 := hq.load (i := I) (by omega)
    have l2 := hq.load (i := J) (by omega)
    obtain ⟨D1, D2, hst1, hst2, hr2, hn2, hf2⟩ := hq.swap (i := I) (j := J) (by omega) (by omega)
    have s1 : intOpF .sub .i64 ((J : Nat) : Int) ((1 : Nat) : Int) = .ok (.int .i64 ((J - 1 : Nat) : Int)) := op_sub_i64 (by omega) (by omega)
    unfold bv at l1 l2 hst1 hst2
    apply W.run 20
    · intro M
      simp (config := { maxSteps := 4000000 }) (disch := first | decide +kernel | omega | simp only [Wq, Nat.reduceEqDiff]) only [zc19l, zc19, Tryz.f514, Aq, Nat.ble, reduceIte, Nat.reduceEqDiff, Nat.reduceAdd, g9, g10, d1]
      with_reducible rfl
    show W tb1 _ _ _
    apply W.run 20
    · intro M
      simp (config := { maxSteps := 4000000 }) (disch := first | decide +kernel | omega | simp only [Wq, Nat.reduceEqDiff]) only [zc19l, zc19, Tryz.f514, Aq, Nat.ble, reduceIte, Nat.reduceEqDiff, Nat.reduceAdd]
      with_reducible rfl
    show W tb1 _ _ _
    apply W.seq
    apply W.run 20
    · intro M
      simp (config := { maxSteps := 4000000 }) (disch := first | decide +kernel | omega | simp only [Wq, Nat.reduceEqDiff]) only [zc19l, zc19, Tryz.f514, Aq, Nat.ble, reduceIte, Nat.reduceEqDiff, Nat.reduceAdd, Fq, g0, g9, g10, i1, i2, l1, l2, hst1, hst2]
      with_reducible rfl
    show W tb1 _ _ _
    apply W.seq
    apply W.run 20
    · intro M
      simp (config := { maxSteps := 4000000 }) (disch := first | decide +kernel | omega | simp only [Wq, Nat.reduceEqDiff]) only [zc19l, zc19, Tryz.f514, Aq, Nat.ble, reduceIte, Nat.reduceEqDiff, Nat.reduceAdd, g9]
      with_reducible rfl
    show W tb1 _ _ _
    apply W.run 20
    · intro M
      simp (config := { maxSteps := 4000000 }) (disch := first | decide +kernel | omega | simp only [Wq, Nat.reduceEqDiff]) only [zc19l, zc19, Tryz.f514, Aq, Nat.ble, reduceIte, Nat.reduceEqDiff, Nat.reduceAdd, g10, s1]
      with_reducible rfl
    refine ⟨(J - 1) + 1 - (I + 1), _, _, by omega, rfl, I + 1, J - 1, _, rfl, by omega, by omega, by omega, hr2, by rw [swp_size]; exact hqs, he, hKp.trans (Kp.of hn2 hf2), ?_⟩
    unfold peS
    simp only [Sl_cons, Sl_nil, T.get_set, T.puts_cons, T.puts_nil, Nat.reduceEqDiff, Nat.reduceAdd, if_true, if_false, and_true, true_and, g0, g1]
theorem zc19_eq : Tryz.f514.body = some (.seq (sub zc19 [0]) (.seq (sub zc19 [1,0]) (.seq (sub zc19 [1,1,0]) (.seq (.block 0 (.loop zc19l)) (sub zc19 [1,1,1,1]))))) := by kernel_rfl
set_option maxHeartbeats 8000000 in
theorem run_parte {D : Mem} {b a e pv : Nat} {d : Array UInt8} {x : Value} (h : RB D b d x) (hap : a ≤ pv) (hpe : pv < e) (he : e ≤ d.size) (hz : d.size < 1000000) : ∃ D', Ans tb1 514 [x, .int .i64 ((a : Nat) : Int), .int .i64 ((e : Nat) : Int), .int .i64 ((pv : Nat) : Int)] D (.int .i64 (((partitionEqual ltB d a e pv).1 : Nat) : Int)) D' ∧ RB D' b (partitionEqual ltB d a e pv).2 x ∧ (partitionEqual ltB d a e pv).2.size = d.size ∧ Kp b D D' := by
  obtain ⟨v, D', ha, rfl, h1, h2, h3⟩ : ∃ v D', Ans tb1 514 [x, .int .i64 ((a : Nat) : Int), .int .i64 ((e : Nat) : Int), .int .i64 ((pv : Nat) : Int)] D v D' ∧ v = (.int .i64 (((partitionEqual ltB d a e pv).1 : Nat) : Int)) ∧ RB D' b (partitionEqual ltB d a e pv).2 x ∧ (partitionEqual ltB d a e pv).2.size = d.size ∧ Kp b D D' := by
    refine ans_of_W (fn_atX Tryz.func514) zc19_eq (by rw [Tryz.ntmps514]; simp) (by kernel_rfl) (by kernel_rfl) ?_
    apply W.seq
    apply W.run 20
    · intro M
      simp (config := { maxSteps := 4000000 }) (disch := first | decide +kernel | omega | simp only [Wq, Nat.reduceEqDiff]) only [zc19, Tryz.f514, Aq, Nat.ble, reduceIte, Nat.reduceEqDiff, Nat.reduceAdd]
      with_reducible rfl
    show W tb1 _ _ _
    apply W.seq
    have i1 := h.idx (i := a) (by omega)
    have i2 := h.idx (i := pv) (by omega)
    have l1 := h.load (i := a) (by omega)
    have l2 := h.load (i := pv) (by omega)
    obtain ⟨D1, D2, hst1, hst2, hr2, hn2, hf2⟩ := h.swap (i := a) (j := pv) (by omega) (by omega)
    unfold bv at l1 l2 hst1 hst2
    apply W.run 20
    · intro M
      simp (config := { maxSteps := 4000000 }) (disch := first | decide +kernel | omega | simp only [Wq, Nat.reduceEqDiff]) only [zc19, Tryz.f514, Aq, Nat.ble, reduceIte, Nat.reduceEqDiff, Nat.reduceAdd, Fq, i1, i2, l1, l2, hst1, hst2]
      with_reducible rfl
    show W tb1 _ _ _
    apply W.seq
    have s1 : intOpF .sub .i64 ((e : Nat) : Int) ((1 : Nat) : Int) = .ok (.int .i64 ((e - 1 : Nat) : Int)) := op_sub_i64 (by omega) (by omega)
    apply W.run 20
    · intro M
      simp (config := { maxSteps := 4000000 }) (disch := first | decide +kernel | omega | simp only [Wq, Nat.reduceEqDiff]) only [zc19, Tryz.f514, Aq, Nat.ble, reduceIte, Nat.reduceEqDiff, Nat.reduceAdd, s1]
      with_reducible rfl
    show W tb1 _ _ _
    have hsz := swp_size d a pv
    have hKp := Kp.of hn2 hf2
    unfold partitionEqual
    clear hst1 hst2 l1 l2 hn2 hf2
    generalize swp d a pv = q at hr2 hsz ⊢
    apply W.seq
    refine e_loop (a := a) (i := a + 1) (j := e - 1) hr2 (by omega) (by omega) (by omega) (by omega) (by unfold peS; simp only [Sl_cons, Sl_nil, T.get_set, T.puts_cons, T.puts_nil, Nat.reduceEqDiff, Nat.reduceAdd, if_true, if_false, and_true, true_and]) fun t C hs hr5 hsz5 hge hlt _ hK5 => ?_
    show W tb1 _ _ _
    generalize partEqLoop ltB a (a + 1) (e - 1) q = Z at hr5 hsz5 hge hlt hs ⊢
    obtain ⟨f0, f1, f9, -⟩ := hs
    apply W.run 20
    · intro M
      simp (config := { maxSteps := 4000000 }) (disch := first | decide +kernel | omega | simp only [Wq, Nat.reduceEqDiff]) only [zc19, Tryz.f514, Aq, Nat.ble, reduceIte, Nat.reduceEqDiff, Nat.reduceAdd, f9]
      with_reducible rfl
    refine ⟨.inr rfl, _, [.int .i64 ((Z.1 : Nat) : Int)], rfl, ?_, rfl, hr5, by omega, hKp.trans hK5⟩
    simp only [Tryz.f514, resF, ev_tmp, T.get_set, Nat.reduceEqDiff, if_true, if_false, evG_some, R.ok_bind]
  exact ⟨D', ha, h1, h2, h3⟩

theorem size3 : sizeF tb1 3 = .ok 1 := by kernel_rfl
theorem zero3 : zeroF tb1 3 = .ok (.int .i64 ((0 : Nat) : Int)) := by kernel_rfl
noncomputable def zc29 : Code := Tryz.f532.body.getD .skip
theorem zc29_eq : Tryz.f532.body = some (.seq (sub zc29 [0]) (.seq (.seq (sub zc29 [1,0,0]) (sub zc29 [1,0,1])) (sub zc29 [1,1]))) := by kernel_rfl
/-- What stays when only one cell p changes. -/
structure Kq (p : Nat) (A A' : Mem) : Prop where
  n : A'.next = A.next
  g : ∀ y, y ≠ p → A'.get y = A.get y
theorem Kq.refl (p : Nat) (A : Mem) : Kq p A A := ⟨rfl, fun _ _ => rfl⟩
theorem Kq.trans {p : Nat} {A B C : Mem} (h : Kq p A B) (k : Kq p B C) : Kq p A C := ⟨k.n.trans h.n, fun y hy => (k.g y hy).trans (h.g y hy)⟩
theorem RB.kq {D D' : Mem} {b p : Nat} {d : Array UInt8} {x : Value} (h : RB D b d x) (hb : b ≠ p) (k : Kq p D D') : RB D' b d x := h.same (by rw [k.n]; exact Nat.le_refl _) (k.g b hb)
set_option maxHeartbeats 8000000 in
theorem run_ord {D : Mem} {b p i j s : Nat} {k : Kd} {d : Array UInt8} {x : Value} (h : RB D b d x) (hbp : b ≠ p) (hp : Vals D 3 p k [.int .i64 ((s : Nat) : Int)]) (hi : i < d.size) (hj : j < d.size) (hs : s < 1000) :
    ∃ D', Ans tb1 532 [x, .int .i64 ((i : Nat) : Int), .int .i64 ((j : Nat) : Int), .pointer (some ⟨p, 0, none⟩)] D (.tuple ⟨[.int .i64 (((order2 ltB d i j s).1 : Nat) : Int), .int .i64 (((order2 ltB d i j s).2.1 : Nat) : Int)]⟩) D' ∧ Vals D' 3 p k [.int .i64 (((order2 ltB d i j s).2.2 : Nat) : Int)] ∧ Kq p D D' := by
  obtain ⟨v, D', ha, rfl, h1, h2⟩ : ∃ v D', Ans tb1 532 [x, .int .i64 ((i : Nat) : Int), .int .i64 ((j : Nat) : Int), .pointer (some ⟨p, 0, none⟩)] D v D' ∧ v = .tuple ⟨[.int .i64 (((order2 ltB d i j s).1 : Nat) : Int), .int .i64 (((order2 ltB d i j s).2.1 : Nat) : Int)]⟩ ∧ Vals D' 3 p k [.int .i64 (((order2 ltB d i j s).2.2 : Nat) : Int)] ∧ Kq p D D' := by
    refine ans_of_W (fn_atX Tryz.func532) zc29_eq (by rw [Tryz.ntmps532]; simp) (by kernel_rfl) (by kernel_rfl) ?_
    have i1 := h.idx hi
    have i2 := h.idx hj
    have l1 := h.load hi
    have l2 := h.load hj
    have hl := fun ih => kLess (ih := ih) (A := D) (a := d[j]!) (b := d[i]!)
    unfold bv at l1 l2
    apply W.seq
    apply W.run 20
    · intro M
      simp (config := { maxSteps := 4000000 }) (disch := first | decide +kernel | omega | simp only [Wq, Nat.reduceEqDiff]) only [zc29, Tryz.f532, Aq, Nat.ble, reduceIte, Nat.reduceEqDiff, Nat.reduceAdd]
      with_reducible rfl
    show W tb1 _ _ _
    apply W.seq
    apply W.seq
    cases hx : ltB d[j]! d[i]! with
    | true =>
      have hd : order2 ltB d i j s = (j, i, s + 1) := by unfold order2; rw [if_pos hx]
      rw [hd]
      rw [hx] at hl
      have lp := load_box (tb := tb1) und3 rfl hp
      have a1 : intOpF .add .i64 ((s : Nat) : Int) ((1 : Nat) : Int) = .ok (.int .i64 ((s + 1 : Nat) : Int)) := op_add_i64 (by omega)
      obtain ⟨D1, hst, hv, hn, hf⟩ := store_box (tb := tb1) (t := 3) (w := .int .i64 ((s + 1 : Nat) : Int)) size3 hp rfl rfl
      apply W.run 20
      · intro M
        simp (config := { maxSteps := 4000000 }) (disch := first | decide +kernel | omega | simp only [Wq, Nat.reduceEqDiff]) only [zc29, Tryz.f532, Aq, Nat.ble, reduceIte, Nat.reduceEqDiff, Nat.reduceAdd, i1, i2, l1, l2, hl]
        with_reducible rfl
      show W tb1 _ _ _
      apply W.run 20
      · intro M
        simp (config := { maxSteps := 4000000 }) (disch := first | decide +kernel | omega | simp only [Wq, Nat.reduceEqDiff]) only [zc29, Tryz.f532, Aq, Nat.ble, reduceIte, Nat.reduceEqDiff, Nat.reduceAdd, opF_nilCheck, nil_ptr, lp, a1, hst]
        with_reducible rfl
      refine ⟨.inr rfl, _, [.int .i64 ((j : Nat) : Int), .int .i64 ((i : Nat) : Int)], rfl, ?_, rfl, hv, ⟨hn, hf⟩⟩
      simp only [Tryz.f532, resF, ev_tmp, T.get_set, Nat.reduceEqDiff, if_true, if_false, evG_some, R.ok_bind]
    | false =>
      have hd : order2 ltB d i j s = (i, j, s) := by unfold order2; rw [if_neg (by simp [hx])]
      rw [hd]
      rw [hx] at hl
      apply W.run 20
      · intro M
        simp (config := { maxSteps := 4000000 }) (disch := first | decide +kernel | omega | simp only [Wq, Nat.reduceEqDiff]) only [zc29, Tryz.f532, Aq, Nat.ble, reduceIte, Nat.reduceEqDiff, Nat.reduceAdd, i1, i2, l1, l2, hl]
        with_reducible rfl
      show W tb1 _ _ _
      apply W.run 20
      · intro M
        simp (config := { maxSteps := 4000000 }) (disch := first | decide +kernel | omega | simp only [Wq, Nat.reduceEqDiff]) only [zc29, Tryz.f532, Aq, Nat.ble, reduceIte, Nat.reduceEqDiff, Nat.reduceAdd]
        with_reducible rfl
      show W tb1 _ _ _
      apply W.run 20
      · intro M
        simp (config := { maxSteps := 4000000 }) (disch := first | decide +kernel | omega | simp only [Wq, Nat.reduceEqDiff]) only [zc29, Tryz.f532, Aq, Nat.ble, reduceIte, Nat.reduceEqDiff, Nat.reduceAdd]
        with_reducible rfl
      refine ⟨.inr rfl, _, [.int .i64 ((i : Nat) : Int), .int .i64 ((j : Nat) : Int)], rfl, ?_, rfl, hp, Kq.refl _ _⟩
      simp only [Tryz.f532, resF, ev_tmp, T.get_set, Nat.reduceEqDiff, if_true, if_false, evG_some, R.ok_bind]
  exact ⟨D', ha, h1, h2⟩
theorem order2_lt {d : Array UInt8} {i j s n : Nat} (hi : i < n) (hj : j < n) : (order2 ltB d i j s).1 < n ∧ (order2 ltB d i j s).2.1 < n ∧ s ≤ (order2 ltB d i j s).2.2 ∧ (order2 ltB d i j s).2.2 ≤ s + 1 := by
  unfold order2
  split
  · exact ⟨hj, hi, Nat.le_succ _, Nat.le_refl _⟩
  · exact ⟨hi, hj, Nat.le_refl _, Nat.le_succ _⟩
noncomputable def zc27 : Code := Tryz.f529.body.getD .skip
theorem zc27_eq : Tryz.f529.body = some (.seq (sub zc27 [0]) (.seq (sub zc27 [1,0]) (.seq (sub zc27 [1,1,0]) (.seq (sub zc27 [1,1,1,0]) (sub zc27 [1,1,1,1]))))) := by kernel_rfl
set_option maxHeartbeats 8000000 in
theorem run_med {D : Mem} {b p i j l : Nat} {k : Kd} {d : Array UInt8} {x : Value} (h : RB D b d x) (hbp : b ≠ p) (hp : Vals D 3 p k [.int .i64 ((0 : Nat) : Int)]) (hi : i < d.size) (hj : j < d.size) (hl : l < d.size) :
    ∃ D', Ans tb1 529 [x, .int .i64 ((i : Nat) : Int), .int .i64 ((j : Nat) : Int), .int .i64 ((l : Nat) : Int), .pointer (some ⟨p, 0, none⟩)] D (.int .i64 (((median ltB d i j l 0).1 : Nat) : Int)) D' ∧ Vals D' 3 p k [.int .i64 (((median ltB d i j l 0).2 : Nat) : Int)] ∧ (median ltB d i j l 0).2 ≤ 3 ∧ Kq p D D' := by
  obtain ⟨v, D', ha, rfl, h1, h2, h3⟩ : ∃ v D', Ans tb1 529 [x, .int .i64 ((i : Nat) : Int), .int .i64 ((j : Nat) : Int), .int .i64 ((l : Nat) : Int), .pointer (some ⟨p, 0, none⟩)] D v D' ∧ v = (.int .i64 (((median ltB d i j l 0).1 : Nat) : Int)) ∧ Vals D' 3 p k [.int .i64 (((median ltB d i j l 0).2 : Nat) : Int)] ∧ (median ltB d i j l 0).2 ≤ 3 ∧ Kq p D D' := by
    refine ans_of_W (fn_atX Tryz.func529) zc27_eq (by rw [Tryz.ntmps529]; simp) (by kernel_rfl) (by kernel_rfl) ?_
    rw [show median ltB d i j l 0 = ((order2 ltB d (order2 ltB d i j 0).1 (order2 ltB d (order2 ltB d i j 0).2.1 l (order2 ltB d i j 0).2.2).1 (order2 ltB d (order2 ltB d i j 0).2.1 l (order2 ltB d i j 0).2.2).2.2).2.1, (order2 ltB d (order2 ltB d i j 0).1 (order2 ltB d (order2 ltB d i j 0).2.1 l (order2 ltB d i j 0).2.2).1 (order2 ltB d (order2 ltB d i j 0).2.1 l (order2 ltB d i j 0).2.2).2.2).2.2) from rfl]
    obtain ⟨D1, ⟨g1, hg1⟩, hv1, hk1⟩ := run_ord (s := 0) h hbp hp hi hj (by omega)
    obtain ⟨e1, e2, -, e3⟩ := order2_lt (d := d) (s := 0) hi hj
    generalize order2 ltB d i j 0 = r1 at *
    have hb1 := h.kq hbp hk1
    obtain ⟨D2, ⟨g2, hg2⟩, hv2, hk2⟩ := run_ord (s := r1.2.2) hb1 hbp hv1 e2 hl (by omega)
    obtain ⟨f1, f2, -, f3⟩ := order2_lt (d := d) (s := r1.2.2) e2 hl
    generalize order2 ltB d r1.2.1 l r1.2.2 = r2 at *
    have hb2 := hb1.kq hbp hk2
    obtain ⟨D3, ⟨g3, hg3⟩, hv3, hk3⟩ := run_ord (s := r2.2.2) hb2 hbp hv2 e1 f1 (by omega)
    obtain ⟨-, -, -, q3⟩ := order2_lt (d := d) (s := r2.2.2) e1 f1
    generalize order2 ltB d r1.1 r2.1 r2.2.2 = r3 at *
    apply W.seq
    apply W.run 20
    · intro M
      simp (config := { maxSteps := 4000000 }) (disch := first | decide +kernel | omega | simp only [Wq, Nat.reduceEqDiff]) only [zc27, Tryz.f529, Aq, Nat.ble, reduceIte, Nat.reduceEqDiff, Nat.reduceAdd]
      with_reducible rfl
    show W tb1 _ _ _
    apply W.seq
    apply W.runG (g1) 20
    · intro M hM
      simp (config := { maxSteps := 4000000 }) (disch := first | decide +kernel | omega | simp only [Wq, Nat.reduceEqDiff]) only [zc27, Tryz.f529, Aq, Nat.ble, reduceIte, Nat.reduceEqDiff, Nat.reduceAdd, hg1, List.getElem?_cons_zero, List.getElem?_cons_succ]
      with_reducible rfl
    show W tb1 _ _ _
    apply W.seq
    apply W.runG (g2) 20
    · intro M hM
      simp (config := { maxSteps := 4000000 }) (disch := first | decide +kernel | omega | simp only [Wq, Nat.reduceEqDiff]) only [zc27, Tryz.f529, Aq, Nat.ble, reduceIte, Nat.reduceEqDiff, Nat.reduceAdd, hg2, List.getElem?_cons_zero, List.getElem?_cons_succ]
      with_reducible rfl
    show W tb1 _ _ _
    apply W.seq
    apply W.runG (g3) 20
    · intro M hM
      simp (config := { maxSteps := 4000000 }) (disch := first | decide +kernel | omega | simp only [Wq, Nat.reduceEqDiff]) only [zc27, Tryz.f529, Aq, Nat.ble, reduceIte, Nat.reduceEqDiff, Nat.reduceAdd, hg3, List.getElem?_cons_zero, List.getElem?_cons_succ]
      with_reducible rfl
    show W tb1 _ _ _
    apply W.run 20
    · intro M
      simp (config := { maxSteps := 4000000 }) (disch := first | decide +kernel | omega | simp only [Wq, Nat.reduceEqDiff]) only [zc27, Tryz.f529, Aq, Nat.ble, reduceIte, Nat.reduceEqDiff, Nat.reduceAdd]
      with_reducible rfl
    refine ⟨.inr rfl, _, [.int .i64 ((r3.2.1 : Nat) : Int)], rfl, ?_, rfl, ?_, ?_, (hk1.trans hk2).trans hk3⟩
    · simp only [Tryz.f529, resF, ev_tmp, T.get_set, Nat.reduceEqDiff, if_true, if_false, evG_some, R.ok_bind]
    · exact hv3
    · show r3.2.2 ≤ 3; omega
  exact ⟨D', ha, h1, h2, h3⟩
noncomputable def zc15 : Code := Tryz.f510.body.getD .skip
theorem zc15_eq : Tryz.f510.body = some (.seq (sub zc15 [0]) (.seq (sub zc15 [1,0]) (.seq (sub zc15 [1,1,0]) (.seq (sub zc15 [1,1,1,0]) (.seq (sub zc15 [1,1,1,1,0]) (.seq (sub zc15 [1,1,1,1,1,0]) (.seq (.seq (sub zc15 [1,1,1,1,1,1,0,0]) (sub zc15 [1,1,1,1,1,1,0,1])) (.seq (sub zc15 [1,1,1,1,1,1,1,0]) (.block 0 (.seq (sub zc15 [1,1,1,1,1,1,1,1,0,0]) (sub zc15 [1,1,1,1,1,1,1,1,0,1]))))))))))) := by kernel_rfl
def hintN : Hint → Nat
  | .unknown => 0
  | .increasing => 1
  | .decreasing => 2
set_option maxHeartbeats 16000000 in
theorem run_piv {D : Mem} {b a e : Nat} {d : Array UInt8} {x : Value} (h : RB D b d x) (hae : a + 8 ≤ e) (he : e ≤ d.size) (hz : d.size < 50) :
    ∃ D', Ans tb1 510 [x, .int .i64 ((a : Nat) : Int), .int .i64 ((e : Nat) : Int)] D (.tuple ⟨[.int .i64 (((choosePivot ltB d a e).1 : Nat) : Int), .int .i64 ((hintN (choosePivot ltB d a e).2 : Nat) : Int)]⟩) D' ∧ RB D' b d x ∧ (choosePivot ltB d a e).2 ≠ .decreasing ∧ Ku b 1 D D' := by
  obtain ⟨v, D', ha, rfl, h1, h2, h3⟩ : ∃ v D', Ans tb1 510 [x, .int .i64 ((a : Nat) : Int), .int .i64 ((e : Nat) : Int)] D v D' ∧ v = .tuple ⟨[.int .i64 (((choosePivot ltB d a e).1 : Nat) : Int), .int .i64 ((hintN (choosePivot ltB d a e).2 : Nat) : Int)]⟩ ∧ RB D' b d x ∧ (choosePivot ltB d a e).2 ≠ .decreasing ∧ Ku b 1 D D' := by
    refine ans_of_W (fn_atX Tryz.func510) zc15_eq (by rw [Tryz.ntmps510]; simp) (by kernel_rfl) (by kernel_rfl) ?_
    have hb : b < D.next := h.lt (by omega)
    obtain ⟨n, rfl⟩ : ∃ n, e = a + n := ⟨e - a, by omega⟩
    have hch : choosePivot ltB d a (a + n) = ((median ltB d (a + n / 4 * 1) (a + n / 4 * 2) (a + n / 4 * 3) 0).1, if (median ltB d (a + n / 4 * 1) (a + n / 4 * 2) (a + n / 4 * 3) 0).2 = 0 then .increasing else if (median ltB d (a + n / 4 * 1) (a + n / 4 * 2) (a + n / 4 * 3) 0).2 = 12 then .decreasing else .unknown) := by
      unfold choosePivot
      rw [Nat.add_sub_cancel_left]
      simp only []
      rw [if_pos (by omega), if_neg (by omega)]
    have s1 : intOpF .sub .i64 ((a + n : Nat) : Int) ((a : Nat) : Int) = .ok (.int .i64 ((n : Nat) : Int)) := by
      have := op_sub_i64 (a := a + n) (b := a) (by omega) (by omega)
      rwa [Nat.add_sub_cancel_left] at this
    have q1 : intOpF .quo .i64 ((n : Nat) : Int) ((4 : Nat) : Int) = .ok (.int .i64 ((n / 4 : Nat) : Int)) := op_quo_i64 (by omega) (by omega)
    have m1 : intOpF .mul .i64 ((n / 4 : Nat) : Int) ((1 : Nat) : Int) = .ok (.int .i64 ((n / 4 * 1 : Nat) : Int)) := op_mul_i64 (by omega)
    have m2 : intOpF .mul .i64 ((n / 4 : Nat) : Int) ((2 : Nat) : Int) = .ok (.int .i64 ((n / 4 * 2 : Nat) : Int)) := op_mul_i64 (by omega)
    have m3 : intOpF .mul .i64 ((n / 4 : Nat) : Int) ((3 : Nat) : Int) = .ok (.int .i64 ((n / 4 * 3 : Nat) : Int)) := op_mul_i64 (by omega)
    have a1 : intOpF .add .i64 ((a : Nat) : Int) ((n / 4 * 1 : Nat) : Int) = .ok (.int .i64 ((a + n / 4 * 1 : Nat) : Int)) := op_add_i64 (by omega)
    have a2 : intOpF .add .i64 ((a : Nat) : Int) ((n / 4 * 2 : Nat) : Int) = .ok (.int .i64 ((a + n / 4 * 2 : Nat) : Int)) := op_add_i64 (by omega)
    have a3 : intOpF .add .i64 ((a : Nat) : Int) ((n / 4 * 3 : Nat) : Int) = .ok (.int .i64 ((a + n / 4 * 3 : Nat) : Int)) := op_add_i64 (by omega)
    have hv0 : Vals (D.alloc (rowOb 3 [.int .i64 ((0 : Nat) : Int)])) 3 D.next (.var 1) [.int .i64 ((0 : Nat) : Int)] := vals_box (get_alloc_self _ _)
    have hb0 : RB (D.alloc (rowOb 3 [.int .i64 ((0 : Nat) : Int)])) b d x := h.same (by rw [next_alloc]; omega) (get_alloc_ne (by omega))
    obtain ⟨D1, ⟨g1, hg1⟩, hv1, hle, hk1⟩ := run_med (i := a + n / 4 * 1) (j := a + n / 4 * 2) (l := a + n / 4 * 3) hb0 (by omega) hv0 (by omega) (by omega) (by omega)
    have hb1 := hb0.kq (by omega) hk1
    have hkp : Ku b 1 D D1 := ⟨by rw [hk1.n, next_alloc]; omega, by rw [hk1.n, next_alloc]; omega, fun y hy hyb => by rw [hk1.g y (by omega), get_alloc_ne (by omega)]⟩
    rw [hch]
    generalize median ltB d (a + n / 4 * 1) (a + n / 4 * 2) (a + n / 4 * 3) 0 = R1 at *
    have lp := load_box (tb := tb1) und3 rfl hv1
    have d8 : decide (8 ≤ n) = true := decide_eq_true (by omega)
    have d50 : decide (50 ≤ n) = false := decide_eq_false (by omega)
    apply W.seq
    apply W.run 20
    · intro M
      simp (config := { maxSteps := 4000000 }) (disch := first | decide +kernel | omega | simp only [Wq, Nat.reduceEqDiff]) only [zc15, Tryz.f510, Aq, Nat.ble, reduceIte, Nat.reduceEqDiff, Nat.reduceAdd]
      with_reducible rfl
    show W tb1 _ _ _
    apply W.seq
    apply W.run 20
    · intro M
      simp (config := { maxSteps := 4000000 }) (disch := first | decide +kernel | omega | simp only [Wq, Nat.reduceEqDiff]) only [zc15, Tryz.f510, Aq, Nat.ble, reduceIte, Nat.reduceEqDiff, Nat.reduceAdd, s1]
      with_reducible rfl
    show W tb1 _ _ _
    apply W.seq
    apply W.run 20
    · intro M
      simp (config := { maxSteps := 4000000 }) (disch := first | decide +kernel | omega | simp only [Wq, Nat.reduceEqDiff]) only [zc15, Tryz.f510, Aq, Nat.ble, reduceIte, Nat.reduceEqDiff, Nat.reduceAdd, zero3, cells_int]
      with_reducible rfl
    show W tb1 _ _ _
    apply W.seq
    apply W.run 20
    · intro M
      simp (config := { maxSteps := 4000000 }) (disch := first | decide +kernel | omega | simp only [Wq, Nat.reduceEqDiff]) only [zc15, Tryz.f510, Aq, Nat.ble, reduceIte, Nat.reduceEqDiff, Nat.reduceAdd, q1, m1, a1]
      with_reducible rfl
    show W tb1 _ _ _
    apply W.seq
    apply W.run 20
    · intro M
      simp (config := { maxSteps := 4000000 }) (disch := first | decide +kernel | omega | simp only [Wq, Nat.reduceEqDiff]) only [zc15, Tryz.f510, Aq, Nat.ble, reduceIte, Nat.reduceEqDiff, Nat.reduceAdd, q1, m2, a2]
      with_reducible rfl
    show W tb1 _ _ _
    apply W.seq
    apply W.run 20
    · intro M
      simp (config := { maxSteps := 4000000 }) (disch := first | decide +kernel | omega | simp only [Wq, Nat.reduceEqDiff]) only [zc15, Tryz.f510, Aq, Nat.ble, reduceIte, Nat.reduceEqDiff, Nat.reduceAdd, q1, m3, a3]
      with_reducible rfl
    show W tb1 _ _ _
    apply W.seq
    apply W.seq
    apply W.run 20
    · intro M
      simp (config := { maxSteps := 4000000 }) (disch := first | decide +kernel | omega | simp only [Wq, Nat.reduceEqDiff]) only [zc15, Tryz.f510, Aq, Nat.ble, reduceIte, Nat.reduceEqDiff, Nat.reduceAdd, d8]
      with_reducible rfl
    show W tb1 _ _ _
    apply W.runG (g1) 20
    · intro M hM
      simp (config := { maxSteps := 4000000 }) (disch := first | decide +kernel | omega | simp only [Wq, Nat.reduceEqDiff]) only [zc15, Tryz.f510, Aq, Nat.ble, reduceIte, Nat.reduceEqDiff, Nat.reduceAdd, d50, hg1]
      with_reducible rfl
    show W tb1 _ _ _
    apply W.seq
    apply W.run 20
    · intro M
      simp (config := { maxSteps := 4000000 }) (disch := first | decide +kernel | omega | simp only [Wq, Nat.reduceEqDiff]) only [zc15, Tryz.f510, Aq, Nat.ble, reduceIte, Nat.reduceEqDiff, Nat.reduceAdd, lp]
      with_reducible rfl
    show W tb1 _ _ _
    apply W.block
    apply W.seq
    by_cases hz0 : R1.2 = 0
    · rw [hz0, if_pos rfl]
      have dz : decide (R1.2 = 0) = true := decide_eq_true hz0
      apply W.run 20
      · intro M
        simp (config := { maxSteps := 4000000 }) (disch := first | decide +kernel | omega | simp only [Wq, Nat.reduceEqDiff]) only [zc15, Tryz.f510, Aq, Nat.ble, reduceIte, Nat.reduceEqDiff, Nat.reduceAdd, dz]
        with_reducible rfl
      show W tb1 _ _ _
      apply W.run 20
      · intro M
        simp (config := { maxSteps := 4000000 }) (disch := first | decide +kernel | omega | simp only [Wq, Nat.reduceEqDiff]) only [zc15, Tryz.f510, Aq, Nat.ble, reduceIte, Nat.reduceEqDiff, Nat.reduceAdd]
        with_reducible rfl
      refine ⟨.inr rfl, _, [.int .i64 ((R1.1 : Nat) : Int), .int .i64 ((1 : Nat) : Int)], rfl, ?_, rfl, hb1, by simp, hkp⟩
      simp only [Tryz.f510, resF, ev_tmp, T.get_set, Nat.reduceEqDiff, if_true, if_false, evG_some, R.ok_bind]
    · rw [if_neg hz0, if_neg (by omega)]
      have dz : decide (R1.2 = 0) = false := decide_eq_false hz0
      have dz2 : decide (R1.2 = 12) = false := decide_eq_false (by omega)
      apply W.run 20
      · intro M
        simp (config := { maxSteps := 4000000 }) (disch := first | decide +kernel | omega | simp only [Wq, Nat.reduceEqDiff]) only [zc15, Tryz.f510, Aq, Nat.ble, reduceIte, Nat.reduceEqDiff, Nat.reduceAdd, dz]
        with_reducible rfl
      show W tb1 _ _ _
      apply W.run 20
      · intro M
        simp (config := { maxSteps := 4000000 }) (disch := first | decide +kernel | omega | simp only [Wq, Nat.reduceEqDiff]) only [zc15, Tryz.f510, Aq, Nat.ble, reduceIte, Nat.reduceEqDiff, Nat.reduceAdd, dz2]
        with_reducible rfl
      refine ⟨.inr rfl, _, [.int .i64 ((R1.1 : Nat) : Int), .int .i64 ((0 : Nat) : Int)], rfl, ?_, rfl, hb1, by simp, hkp⟩
      simp only [Tryz.f510, resF, ev_tmp, T.get_set, Nat.reduceEqDiff, if_true, if_false, evG_some, R.ok_bind]
  exact ⟨D', ha, h1, h2, h3⟩

noncomputable def zc17 : Code := Tryz.f512.body.getD .skip
noncomputable def zc17l : Code := sub zc17 [1,1,0,1,0,0]
noncomputable def zc17u : Code := sub zc17l [1,0,0,0,0,0]
theorem zc17_eq : Tryz.f512.body = some (.seq (sub zc17 [0]) (.seq (sub zc17 [1,0]) (.seq (.seq (sub zc17 [1,1,0,0]) (.block 0 (.loop zc17l))) (sub zc17 [1,1,1])))) := by kernel_rfl
theorem zc17l_eq : zc17l = .seq (.seq (sub zc17l [0,0]) (sub zc17l [0,1])) (.seq (.block 1 (.seq (.block 2 (.loop zc17u)) (.seq (.seq (sub zc17l [1,0,0,1,0,0]) (sub zc17l [1,0,0,1,0,1])) (.seq (.seq (sub zc17l [1,0,0,1,1,0,0]) (sub zc17l [1,0,0,1,1,0,1])) (sub zc17l [1,0,0,1,1,1]))))) (sub zc17l [1,1])) := by kernel_rfl
theorem zc17u_eq : zc17u = .seq (.seq (sub zc17u [0,0]) (sub zc17u [0,1])) (.block 3 (sub zc17u [1,0])) := by kernel_rfl
def piS (x : Value) (a e i : Nat) : List (Nat × Value) := [(0, x), (1, .int .i64 ((a : Nat) : Int)), (2, .int .i64 ((e : Nat) : Int)), (7, .int .i64 ((i : Nat) : Int)), (8, .int .i64 ((0 : Nat) : Int))]
theorem scanSorted_le {d : Array UInt8} {e : Nat} : ∀ (n i : Nat), e - i ≤ n → i ≤ e → scanSorted ltB d e i ≤ e := by
  intro n
  induction n with
  | zero =>
    intro i h h2
    rw [scanSorted, if_neg (by simp; omega)]
    omega
  | succ n ih =>
    intro i h h2
    rw [scanSorted]
    split
    · rename_i hc
      simp only [Bool.and_eq_true, decide_eq_true_eq] at hc
      exact ih (i + 1) (by omega) (by omega)
    · omega
set_option maxHeartbeats 8000000 in
theorem pi_scan {D : Mem} {b a e i : Nat} {d : Array UInt8} {x : Value} {t : T Value} {K : Ex → St → Prop} (h : RB D b d x) (h1 : 1 ≤ i) (hi : i ≤ e) (he : e ≤ d.size) (hz : d.size < 1000000) (hs : Sl t (piS x a e i)) (hK : ∀ t', Sl t' (piS x a e (scanSorted ltB d e i)) → K .nrm ⟨t', 133, [], D, none⟩) : W tb1 (.block 2 (.loop zc17u)) ⟨t, 133, [], D, none⟩ K := by
  obtain ⟨g0, g1, g2, g7, g8, -⟩ := hs
  apply W.block
  refine W.fall (fun k t C => ∃ m, k = e - m ∧ C = D ∧ 1 ≤ m ∧ m ≤ e ∧ scanSorted ltB d e m = scanSorted ltB d e i ∧ Sl t (piS x a e m)) ?_ (k := e - i) ⟨i, rfl, rfl, h1, hi, rfl, by unfold piS; simp only [Sl_cons, Sl_nil, T.get_set, T.puts_cons, T.puts_nil, Nat.reduceEqDiff, Nat.reduceAdd, if_true, if_false, and_true, true_and, g0, g1, g2, g7, g8]⟩
  rintro k t C ⟨m, rfl, rfl, hm1, hm, hee, g0, g1, g2, g7, g8, -⟩
  rw [zc17u_eq]
  apply W.seq
  apply W.seq
  by_cases hlt : m < e
  · have d1 : decide (m < e) = true := decide_eq_true hlt
    have s1 : intOpF .sub .i64 ((m : Nat) : Int) ((1 : Nat) : Int) = .ok (.int .i64 ((m - 1 : Nat) : Int)) := op_sub_i64 (by omega) (by omega)
    have i1 := h.idx (i := m) (by omega)
    have i2 := h.idx (i := m - 1) (by omega)
    have l1 := h.load (i := m) (by omega)
    have l2 := h.load (i := m - 1) (by omega)
    have hl := fun ih => kLess (ih := ih) (A := C) (a := d[m]!) (b := d[m - 1]!)
    unfold bv at l1 l2
    cases hc : ltB d[m]! d[m - 1]! with
    | true =>
      rw [hc] at hl
      have hd : scanSorted ltB d e m = m := by rw [scanSorted, if_neg (by simp [hc])]
      apply W.run 20
      · intro M
        simp (config := { maxSteps := 4000000 }) (disch := first | decide +kernel | omega | simp only [Wq, Nat.reduceEqDiff]) only [zc17u, zc17l, zc17, Tryz.f512, Aq, Nat.ble, reduceIte, Nat.reduceEqDiff, Nat.reduceAdd, g0, g2, g7, d1, s1, i1, i2, l1, l2, hl]
        with_reducible rfl
      show W tb1 _ _ _
      apply W.run 20
      · intro M
        simp (config := { maxSteps := 4000000 }) (disch := first | decide +kernel | omega | simp only [Wq, Nat.reduceEqDiff]) only [zc17u, zc17l, zc17, Tryz.f512, Aq, Nat.ble, reduceIte, Nat.reduceEqDiff, Nat.reduceAdd]
        with_reducible rfl
      refine hK _ ?_
      rw [← hee, hd]; unfold piS
      simp only [Sl_cons, Sl_nil, T.get_set, T.puts_cons, T.puts_nil, Nat.reduceEqDiff, Nat.reduceAdd, if_true, if_false, and_true, true_and, g0, g1, g2, g7, g8]
    | false =>
      rw [hc] at hl
      have hd : scanSorted ltB d e m = scanSorted ltB d e (m + 1) := by rw [scanSorted, if_pos (by simp [hc]; omega)]
      apply W.run 20
      · intro M
        simp (config := { maxSteps := 4000000 }) (disch := first | decide +kernel | omega | simp only [Wq, Nat.reduceEqDiff]) only [zc17u, zc17l, zc17, Tryz.f512, Aq, Nat.ble, reduceIte, Nat.reduceEqDiff, Nat.reduceAdd, g0, g2, g7, d1, s1, i1, i2, l1, l2, hl]
        with_reducible rfl
      show W tb1 _ _ _
      apply W.run 20
      · intro M
        simp (config := { maxSteps := 4000000 }) (disch := first | decide +kernel | omega | simp only [Wq, Nat.reduceEqDiff]) only [zc17u, zc17l, zc17, Tryz.f512, Aq, Nat.ble, reduceIte, Nat.reduceEqDiff, Nat.reduceAdd]
        with_reducible rfl
      show W tb1 _ _ _
      apply W.block
      apply W.run 20
      · intro M
        simp (config := { maxSteps := 4000000 }) (disch := first | decide +kernel | omega | simp only [Wq, Nat.reduceEqDiff]) only [zc17u, zc17l, zc17, Tryz.f512, Aq, Nat.ble, reduceIte, Nat.reduceEqDiff, Nat.reduceAdd, g7]
        with_reducible rfl
      refine ⟨e - (m + 1), _, _, by omega, rfl, m + 1, rfl, rfl, by omega, by omega, by rw [← hee, hd], ?_⟩
      unfold piS
      simp only [Sl_cons, Sl_nil, T.get_set, T.puts_cons, T.puts_nil, Nat.reduceEqDiff, Nat.reduceAdd, if_true, if_false, and_true, true_and, g0, g1, g2, g7, g8]
  · have d1 : decide (m < e) = false := decide_eq_false hlt
    have hd : scanSorted ltB d e m = m := by rw [scanSorted, if_neg (by simp; omega)]
    apply W.run 20
    · intro M
      simp (config := { maxSteps := 4000000 }) (disch := first | decide +kernel | omega | simp only [Wq, Nat.reduceEqDiff]) only [zc17u, zc17l, zc17, Tryz.f512, Aq, Nat.ble, reduceIte, Nat.reduceEqDiff, Nat.reduceAdd, g0, g2, g7, d1]
      with_reducible rfl
    show W tb1 _ _ _
    apply W.run 20
    · intro M
      simp (config := { maxSteps := 4000000 }) (disch := first | decide +kernel | omega | simp only [Wq, Nat.reduceEqDiff]) only [zc17u, zc17l, zc17, Tryz.f512, Aq, Nat.ble, reduceIte, Nat.reduceEqDiff, Nat.reduceAdd]
      with_reducible rfl
    refine hK _ ?_
    rw [← hee, hd]; unfold piS
    simp only [Sl_cons, Sl_nil, T.get_set, T.puts_cons, T.puts_nil, Nat.reduceEqDiff, Nat.reduceAdd, if_true, if_false, and_true, true_and, g0, g1, g2, g7, g8]
theorem pins_eq {d : Array UInt8} {a e : Nat} (h : e - a < 50) : partialInsertionSort ltB d a e = (d, decide (scanSorted ltB d e (a + 1) = e)) := by
  unfold partialInsertionSort partialIns
  simp only []
  split
  · rename_i h1; rw [decide_eq_true h1]
  · rename_i h1; rw [decide_eq_false h1]
set_option maxHeartbeats 8000000 in
theorem run_pins {D : Mem} {b a e : Nat} {d : Array UInt8} {x : Value} (h : RB D b d x) (hae : a < e) (he : e ≤ d.size) (hz : d.size < 50) : Ans tb1 512 [x, .int .i64 ((a : Nat) : Int), .int .i64 ((e : Nat) : Int)] D (.bool (partialInsertionSort ltB d a e).2) D := by
  obtain ⟨v, D', ha, rfl, rfl⟩ : ∃ v D', Ans tb1 512 [x, .int .i64 ((a : Nat) : Int), .int .i64 ((e : Nat) : Int)] D v D' ∧ v = .bool (partialInsertionSort ltB d a e).2 ∧ D' = D := by
    refine ans_of_W (fn_atX Tryz.func512) zc17_eq (by rw [Tryz.ntmps512]; simp) (by kernel_rfl) (by kernel_rfl) ?_
    rw [pins_eq (by omega)]
    obtain ⟨n, rfl⟩ : ∃ n, e = a + n := ⟨e - a, by omega⟩
    apply W.seq
    apply W.run 20
    · intro M
      simp (config := { maxSteps := 4000000 }) (disch := first | decide +kernel | omega | simp only [Wq, Nat.reduceEqDiff]) only [zc17, Tryz.f512, Aq, Nat.ble, reduceIte, Nat.reduceEqDiff, Nat.reduceAdd]
      with_reducible rfl
    show W tb1 _ _ _
    apply W.seq
    apply W.run 20
    · intro M
      simp (config := { maxSteps := 4000000 }) (disch := first | decide +kernel | omega | simp only [Wq, Nat.reduceEqDiff]) only [zc17, Tryz.f512, Aq, Nat.ble, reduceIte, Nat.reduceEqDiff, Nat.reduceAdd]
      with_reducible rfl
    show W tb1 _ _ _
    apply W.seq
    apply W.seq
    apply W.run 20
    · intro M
      simp (config := { maxSteps := 4000000 }) (disch := first | decide +kernel | omega | simp only [Wq, Nat.reduceEqDiff]) only [zc17, Tryz.f512, Aq, Nat.ble, reduceIte, Nat.reduceEqDiff, Nat.reduceAdd]
      with_reducible rfl
    show W tb1 _ _ _
    apply W.block
    refine W.fall (fun k t C => C = D ∧ Sl t (piS x a (a + n) (a + 1))) ?_ (k := 1) ⟨rfl, by unfold piS; simp only [Sl_cons, Sl_nil, T.get_set, T.puts_cons, T.puts_nil, Nat.reduceEqDiff, Nat.reduceAdd, if_true, if_false, and_true, true_and]⟩
    rintro k t C ⟨rfl, g0, g1, g2, g7, g8, -⟩
    rw [zc17l_eq]
    apply W.seq
    apply W.seq
    apply W.run 20
    · intro M
      simp (config := { maxSteps := 4000000 }) (disch := first | decide +kernel | omega | simp only [Wq, Nat.reduceEqDiff]) only [zc17l, zc17, Tryz.f512, Aq, Nat.ble, reduceIte, Nat.reduceEqDiff, Nat.reduceAdd, g8, Nat.reduceLT, decide_true]
      with_reducible rfl
    show W tb1 _ _ _
    apply W.run 20
    · intro M
      simp (config := { maxSteps := 4000000 }) (disch := first | decide +kernel | omega | simp only [Wq, Nat.reduceEqDiff]) only [zc17l, zc17, Tryz.f512, Aq, Nat.ble, reduceIte, Nat.reduceEqDiff, Nat.reduceAdd]
      with_reducible rfl
    show W tb1 _ _ _
    apply W.seq
    apply W.block
    apply W.seq
    refine pi_scan (a := a) (i := a + 1) h (by omega) (by omega) he (by omega) (by unfold piS; simp only [Sl_cons, Sl_nil, T.get_set, T.puts_cons, T.puts_nil, Nat.reduceEqDiff, Nat.reduceAdd, if_true, if_false, and_true, true_and, g0, g1, g2, g7, g8]) fun t hs => ?_
    show W tb1 _ _ _
    obtain ⟨g0, g1, g2, g7, g8, -⟩ := hs
    apply W.seq
    apply W.seq
    by_cases hq : scanSorted ltB d (a + n) (a + 1) = a + n
    · have d1 : decide (scanSorted ltB d (a + n) (a + 1) = a + n) = true := decide_eq_true hq
      rw [d1]
      apply W.run 20
      · intro M
        simp (config := { maxSteps := 4000000 }) (disch := first | decide +kernel | omega | simp only [Wq, Nat.reduceEqDiff]) only [zc17l, zc17, Tryz.f512, Aq, Nat.ble, reduceIte, Nat.reduceEqDiff, Nat.reduceAdd, g2, g7, d1]
        with_reducible rfl
      show W tb1 _ _ _
      apply W.run 20
      · intro M
        simp (config := { maxSteps := 4000000 }) (disch := first | decide +kernel | omega | simp only [Wq, Nat.reduceEqDiff]) only [zc17l, zc17, Tryz.f512, Aq, Nat.ble, reduceIte, Nat.reduceEqDiff, Nat.reduceAdd]
        with_reducible rfl
      refine ⟨.inr rfl, _, [.bool true], rfl, ?_, rfl, rfl⟩
      simp only [Tryz.f512, resF, ev_tmp, T.get_set, Nat.reduceEqDiff, if_true, if_false, evG_some, R.ok_bind]
    · have d1 : decide (scanSorted ltB d (a + n) (a + 1) = a + n) = false := decide_eq_false hq
      have s1 : intOpF .sub .i64 ((a + n : Nat) : Int) ((a : Nat) : Int) = .ok (.int .i64 ((n : Nat) : Int)) := by
        have := op_sub_i64 (a := a + n) (b := a) (by omega) (by omega)
        rwa [Nat.add_sub_cancel_left] at this
      have d2 : decide (n < 50) = true := decide_eq_true (by omega)
      rw [d1]
      apply W.run 20
      · intro M
        simp (config := { maxSteps := 4000000 }) (disch := first | decide +kernel | omega | simp only [Wq, Nat.reduceEqDiff]) only [zc17l, zc17, Tryz.f512, Aq, Nat.ble, reduceIte, Nat.reduceEqDiff, Nat.reduceAdd, g2, g7, d1]
        with_reducible rfl
      show W tb1 _ _ _
      apply W.run 20
      · intro M
        simp (config := { maxSteps := 4000000 }) (disch := first | decide +kernel | omega | simp only [Wq, Nat.reduceEqDiff]) only [zc17l, zc17, Tryz.f512, Aq, Nat.ble, reduceIte, Nat.reduceEqDiff, Nat.reduceAdd]
        with_reducible rfl
      show W tb1 _ _ _
      apply W.seq
      apply W.seq
      apply W.run 20
      · intro M
        simp (config := { maxSteps := 4000000 }) (disch := first | decide +kernel | omega | simp only [Wq, Nat.reduceEqDiff]) only [zc17l, zc17, Tryz.f512, Aq, Nat.ble, reduceIte, Nat.reduceEqDiff, Nat.reduceAdd, g1, g2, s1, d2]
        with_reducible rfl
      show W tb1 _ _ _
      apply W.run 20
      · intro M
        simp (config := { maxSteps := 4000000 }) (disch := first | decide +kernel | omega | simp only [Wq, Nat.reduceEqDiff]) only [zc17l, zc17, Tryz.f512, Aq, Nat.ble, reduceIte, Nat.reduceEqDiff, Nat.reduceAdd]
        with_reducible rfl
      refine ⟨.inr rfl, _, [.bool false], rfl, ?_, rfl, rfl⟩
      simp only [Tryz.f512, resF, ev_tmp, T.get_set, Nat.reduceEqDiff, if_true, if_false, evG_some, R.ok_bind]
  exact ha

/-! ### Numbers of 64 bits -/
theorem inK_u64 {n : Nat} (h : n < 18446744073709551616) : inK .u64 (n : Int) = true := by
  show Nat.blt n (2 ^ 64) = true
  rw [Nat.blt_eq]; exact h
theorem op_and_u64 {a b : Nat} (ha : a < 18446744073709551616) (hb : b < 18446744073709551616) : intOpF .and .u64 (a : Int) (b : Int) = .ok (.int .u64 ((a &&& b : Nat) : Int)) := by
  show (bif inK .u64 (a : Int) && inK .u64 (b : Int) then R.ok (Value.int .u64 ((a &&& b : Nat) : Int)) else .no 10) = _
  rw [inK_u64 ha, inK_u64 hb]; rfl
theorem op_xor_u64 {a b : Nat} (ha : a < 18446744073709551616) (hb : b < 18446744073709551616) : intOpF .xor .u64 (a : Int) (b : Int) = .ok (.int .u64 ((a ^^^ b : Nat) : Int)) := by
  show (bif inK .u64 (a : Int) && inK .u64 (b : Int) then R.ok (Value.int .u64 ((a ^^^ b : Nat) : Int)) else .no 12) = _
  rw [inK_u64 ha, inK_u64 hb]; rfl
theorem wrapF_u64' (n : Nat) : wrapF .u64 (n : Int) = ((n % 18446744073709551616 : Nat) : Int) := by
  rw [wrapF_eq]
  show ((n : Int) % _) = _
  rfl
theorem binF_shl_u64 {d : Option TypeDesc} {k' : IntKind} {a b : Nat} (h : b < 64) : binF .shl d (.int .u64 (a : Int)) (.int k' (b : Int)) = .ok (.int .u64 ((a <<< b % 18446744073709551616 : Nat) : Int)) := by
  have e : binF .shl d (.int .u64 (a : Int)) (.int k' (b : Int)) = (bif Nat.blt b 64 then R.ok (Value.int .u64 (wrapF .u64 ((a <<< b : Nat) : Int))) else .ok (.int .u64 0)) := rfl
  have hb : Nat.blt b 64 = true := by rw [Nat.blt_eq]; exact h
  rw [e, hb, cond_true, wrapF_u64']
theorem op_sub_u64 {a b : Nat} (h : b ≤ a) (ha : a < 18446744073709551616) : intOpF .sub .u64 (a : Int) (b : Int) = .ok (.int .u64 ((a - b : Nat) : Int)) := by
  show R.ok (Value.int .u64 (wrapF .u64 ((a : Int) - (b : Int)))) = _
  rw [show (a : Int) - (b : Int) = ((a - b : Nat) : Int) by omega, wrapF_u64', Nat.mod_eq_of_lt (by omega)]

/-! ### One random number -/
theorem und48 : tb1.und 514 = some (.int .u64) := by kernel_rfl
theorem size48 : sizeF tb1 514 = .ok 1 := by kernel_rfl
noncomputable def zc25 : Code := Tryz.f408.body.getD .skip
theorem zc25_eq : Tryz.f408.body = some (.seq (sub zc25 [0]) (.seq (sub zc25 [1,0]) (.seq (sub zc25 [1,1,0]) (.seq (sub zc25 [1,1,1,0]) (sub zc25 [1,1,1,1]))))) := by kernel_rfl
theorem u64lt (r : UInt64) : r.toNat < 18446744073709551616 := r.toNat_lt
def uv (r : UInt64) : Value := .int .u64 ((r.toNat : Nat) : Int)
theorem s13 (r : UInt64) : intOpF .xor .u64 ((r.toNat : Nat) : Int) ((r.toNat <<< 13 % 18446744073709551616 : Nat) : Int) = .ok (uv (r ^^^ (r <<< 13))) := by
  rw [op_xor_u64 (u64lt r) (Nat.mod_lt _ (by decide))]
  unfold uv
  rw [UInt64.toNat_xor, UInt64.toNat_shiftLeft]
  rfl
theorem s17 (r : UInt64) : intOpF .xor .u64 ((r.toNat : Nat) : Int) ((r.toNat <<< 17 % 18446744073709551616 : Nat) : Int) = .ok (uv (r ^^^ (r <<< 17))) := by
  rw [op_xor_u64 (u64lt r) (Nat.mod_lt _ (by decide))]
  unfold uv
  rw [UInt64.toNat_xor, UInt64.toNat_shiftLeft]
  rfl
theorem s7 (r : UInt64) : intOpF .xor .u64 ((r.toNat : Nat) : Int) ((r.toNat >>> 7 : Nat) : Int) = .ok (uv (r ^^^ (r >>> 7))) := by
  rw [op_xor_u64 (u64lt r) (Nat.lt_of_le_of_lt (Nat.shiftRight_le _ _) (u64lt r))]
  unfold uv
  rw [UInt64.toNat_xor, UInt64.toNat_shiftRight]
  rfl
theorem bshl (r : UInt64) (d : Option TypeDesc) (n : Nat) (h : n < 64) (k : IntKind) : binF .shl d (uv r) (.int k ((n : Nat) : Int)) = .ok (.int .u64 ((r.toNat <<< n % 18446744073709551616 : Nat) : Int)) := binF_shl_u64 h
theorem bshr (r : UInt64) (d : Option TypeDesc) (n : Nat) (h : n < 64) (k : IntKind) : binF .shr d (uv r) (.int k ((n : Nat) : Int)) = .ok (.int .u64 ((r.toNat >>> n : Nat) : Int)) := binF_shr h
theorem bx13 (r : UInt64) (d : Option TypeDesc) : binF .xor d (uv r) (.int .u64 ((r.toNat <<< 13 % 18446744073709551616 : Nat) : Int)) = .ok (uv (r ^^^ (r <<< 13))) := s13 r
theorem bx17 (r : UInt64) (d : Option TypeDesc) : binF .xor d (uv r) (.int .u64 ((r.toNat <<< 17 % 18446744073709551616 : Nat) : Int)) = .ok (uv (r ^^^ (r <<< 17))) := s17 r
theorem bx7 (r : UInt64) (d : Option TypeDesc) : binF .xor d (uv r) (.int .u64 ((r.toNat >>> 7 : Nat) : Int)) = .ok (uv (r ^^^ (r >>> 7))) := s7 r
set_option maxHeartbeats 8000000 in
theorem run_next {D : Mem} {p : Nat} {k : Kd} {r : UInt64} (hp : Vals D 514 p k [uv r]) : ∃ D', Ans tb1 408 [.pointer (some ⟨p, 0, none⟩)] D (uv (xorNext r)) D' ∧ Vals D' 514 p k [uv (xorNext r)] ∧ Kq p D D' := by
  obtain ⟨v, D', ha, rfl, h1, h2⟩ : ∃ v D', Ans tb1 408 [.pointer (some ⟨p, 0, none⟩)] D v D' ∧ v = uv (xorNext r) ∧ Vals D' 514 p k [uv (xorNext r)] ∧ Kq p D D' := by
    refine ans_of_W (fn_atX Tryz.func408) zc25_eq (by rw [Tryz.ntmps408]; simp) (by kernel_rfl) (by kernel_rfl) ?_
    rw [show xorNext r = ((r ^^^ (r <<< 13)) ^^^ ((r ^^^ (r <<< 13)) >>> 7)) ^^^ (((r ^^^ (r <<< 13)) ^^^ ((r ^^^ (r <<< 13)) >>> 7)) <<< 17) from rfl]
    have l1 := load_box (tb := tb1) und48 rfl hp
    have b1 := fun d => bshl r d 13 (by omega) .u64
    have x1 := bx13 r
    obtain ⟨D1, hst1, hv1, hn1, hf1⟩ := store_box (tb := tb1) (t := 514) (w := uv (r ^^^ (r <<< 13))) size48 hp rfl rfl
    generalize r ^^^ (r <<< 13) = r1 at *
    have l2 := load_box (tb := tb1) und48 rfl hv1
    have b2 := fun d => bshr r1 d 7 (by omega) .u64
    have x2 := bx7 r1
    obtain ⟨D2, hst2, hv2, hn2, hf2⟩ := store_box (tb := tb1) (t := 514) (w := uv (r1 ^^^ (r1 >>> 7))) size48 hv1 rfl rfl
    generalize r1 ^^^ (r1 >>> 7) = r2 at *
    have l3 := load_box (tb := tb1) und48 rfl hv2
    have b3 := fun d => bshl r2 d 17 (by omega) .u64
    have x3 := bx17 r2
    obtain ⟨D3, hst3, hv3, hn3, hf3⟩ := store_box (tb := tb1) (t := 514) (w := uv (r2 ^^^ (r2 <<< 17))) size48 hv2 rfl rfl
    generalize r2 ^^^ (r2 <<< 17) = r3 at *
    have l4 := load_box (tb := tb1) und48 rfl hv3
    have hkq : Kq p D D3 := ⟨by omega, fun y hy => by rw [hf3 y hy, hf2 y hy, hf1 y hy]⟩
    apply W.seq
    apply W.run 20
    · intro M
      simp (config := { maxSteps := 4000000 }) (disch := first | decide +kernel | omega | simp only [Wq, Nat.reduceEqDiff]) only [zc25, Tryz.f408, Aq, Nat.ble, reduceIte, Nat.reduceEqDiff, Nat.reduceAdd]
      with_reducible rfl
    show W tb1 _ _ _
    apply W.seq
    apply W.run 20
    · intro M
      simp (config := { maxSteps := 4000000 }) (disch := first | decide +kernel | omega | simp only [Wq, Nat.reduceEqDiff]) only [zc25, Tryz.f408, Aq, Nat.ble, reduceIte, Nat.reduceEqDiff, Nat.reduceAdd, Fq, opF_nilCheck, nil_ptr, l1, b1, x1, hst1]
      with_reducible rfl
    show W tb1 _ _ _
    apply W.seq
    apply W.run 20
    · intro M
      simp (config := { maxSteps := 4000000 }) (disch := first | decide +kernel | omega | simp only [Wq, Nat.reduceEqDiff]) only [zc25, Tryz.f408, Aq, Nat.ble, reduceIte, Nat.reduceEqDiff, Nat.reduceAdd, Fq, opF_nilCheck, nil_ptr, l2, b2, x2, hst2]
      with_reducible rfl
    show W tb1 _ _ _
    apply W.seq
    apply W.run 20
    · intro M
      simp (config := { maxSteps := 4000000 }) (disch := first | decide +kernel | omega | simp only [Wq, Nat.reduceEqDiff]) only [zc25, Tryz.f408, Aq, Nat.ble, reduceIte, Nat.reduceEqDiff, Nat.reduceAdd, Fq, opF_nilCheck, nil_ptr, l3, b3, x3, hst3]
      with_reducible rfl
    show W tb1 _ _ _
    apply W.run 20
    · intro M
      simp (config := { maxSteps := 4000000 }) (disch := first | decide +kernel | omega | simp only [Wq, Nat.reduceEqDiff]) only [zc25, Tryz.f408, Aq, Nat.ble, reduceIte, Nat.reduceEqDiff, Nat.reduceAdd, opF_nilCheck, nil_ptr, l4]
      with_reducible rfl
    refine ⟨.inr rfl, _, [uv r3], rfl, ?_, rfl, hv3, hkq⟩
    simp only [Tryz.f408, resF, ev_tmp, T.get_set, Nat.reduceEqDiff, if_true, if_false, evG_some, R.ok_bind]
  exact ⟨D', ha, h1, h2⟩

/-! ### Patterns are broken -/
theorem und34 : tb1.und 319 = some (.int .u64) := by kernel_rfl
theorem conv_u64 {t : TypeId} {n : Nat} (ht : tb1.und t = some (.int .u64)) (h : n < 1000000) : convPF tb1 3 t (.int .i64 (n : Int)) = .ok (.int .u64 (n : Int)) := by
  have e : convPF tb1 3 t (.int .i64 (n : Int)) = .ok (.int .u64 (wrapF .u64 (n : Int))) := by
    unfold convPF
    simp only [und3, ht]
  rw [e, wrapF_u64', Nat.mod_eq_of_lt (by omega)]
theorem conv_i64 {n : Nat} (h : n < 1000000) : convPF tb1 319 3 (.int .u64 (n : Int)) = .ok (.int .i64 (n : Int)) := by
  have e : convPF tb1 319 3 (.int .u64 (n : Int)) = .ok (.int .i64 (wrapF .i64 (n : Int))) := by
    unfold convPF
    simp only [und3, und34]
  rw [e, wrapF_i64 (by omega)]
theorem pow_all : ∀ n ∈ List.range 50, 8 ≤ n → bitsLen n < 64 ∧ 1 <<< bitsLen n ≤ 2 * n ∧ 0 < 1 <<< bitsLen n := by decide +kernel
theorem pow_of {n : Nat} (h8 : 8 ≤ n) (h : n < 50) : bitsLen n < 64 ∧ 1 <<< bitsLen n ≤ 2 * n ∧ 0 < 1 <<< bitsLen n := pow_all n (List.mem_range.2 h) h8
noncomputable def zc24 : Code := Tryz.f407.body.getD .skip
theorem zc24_eq : Tryz.f407.body = some (.seq (sub zc24 [0]) (sub zc24 [1])) := by kernel_rfl
theorem run_pow {D : Mem} {n : Nat} (h8 : 8 ≤ n) (h : n < 50) : Ans tb1 407 [.int .i64 ((n : Nat) : Int)] D (.int .u64 ((1 <<< bitsLen n : Nat) : Int)) D := by
  obtain ⟨v, D', ha, rfl, rfl⟩ : ∃ v D', Ans tb1 407 [.int .i64 ((n : Nat) : Int)] D v D' ∧ v = .int .u64 ((1 <<< bitsLen n : Nat) : Int) ∧ D' = D := by
    refine ans_of_W (fn_atX Tryz.func407) zc24_eq (by rw [Tryz.ntmps407]; simp) (by kernel_rfl) (by kernel_rfl) ?_
    obtain ⟨p1, p2, p3⟩ := pow_of h8 h
    have zc1 := conv_u64 (t := 319) (n := n) und34 (by omega)
    have k1 := fun ih => kLen (ih := ih) (A := D) (n := n) (by omega)
    have s1 : ∀ d, binF .shl d (.int .u64 ((1 : Nat) : Int)) (.int .i64 ((bitsLen n : Nat) : Int)) = .ok (.int .u64 ((1 <<< bitsLen n : Nat) : Int)) := fun d => by
      rw [binF_shl_u64 p1, Nat.mod_eq_of_lt (by omega)]
    apply W.seq
    apply W.run 20
    · intro M
      simp (config := { maxSteps := 4000000 }) (disch := first | decide +kernel | omega | simp only [Wq, Nat.reduceEqDiff]) only [zc24, Tryz.f407, Aq, Nat.ble, reduceIte, Nat.reduceEqDiff, Nat.reduceAdd]
      with_reducible rfl
    show W tb1 _ _ _
    apply W.run 20
    · intro M
      simp (config := { maxSteps := 4000000 }) (disch := first | decide +kernel | omega | simp only [Wq, Nat.reduceEqDiff]) only [zc24, Tryz.f407, Aq, Nat.ble, reduceIte, Nat.reduceEqDiff, Nat.reduceAdd, zc1, k1, s1]
      with_reducible rfl
    refine ⟨.inr rfl, _, [.int .u64 ((1 <<< bitsLen n : Nat) : Int)], rfl, ?_, rfl, rfl⟩
    simp only [Tryz.f407, resF, ev_tmp, T.get_set, Nat.reduceEqDiff, if_true, if_false, evG_some, R.ok_bind]
  exact ha
noncomputable def zc14 : Code := Tryz.f509.body.getD .skip
noncomputable def zc14y : Code := sub zc14 [1,1,0]
noncomputable def zc14l : Code := sub zc14y [1,1,1,0,0]
theorem zc14_eq : Tryz.f509.body = some (.seq (sub zc14 [0]) (.seq (sub zc14 [1,0]) (.cond (.tmp 15) zc14y .skip))) := by kernel_rfl
theorem zc14y_eq : zc14y = .seq (sub zc14y [0]) (.seq (sub zc14y [1,0]) (.seq (sub zc14y [1,1,0]) (.block 0 (.loop zc14l)))) := by kernel_rfl
theorem zc14l_eq : zc14l = .seq (.seq (sub zc14l [0,0]) (sub zc14l [0,1])) (.seq (.block 1 (.seq (sub zc14l [1,0,0,0]) (.seq (.seq (sub zc14l [1,0,0,1,0,0]) (sub zc14l [1,0,0,1,0,1])) (sub zc14l [1,0,0,1,1])))) (sub zc14l [1,1])) := by kernel_rfl
theorem zero48 : zeroF tb1 514 = .ok (.int .u64 ((0 : Nat) : Int)) := by kernel_rfl
theorem band (r : UInt64) (d : Option TypeDesc) (n : Nat) (h : n < 18446744073709551616) : binF .and d (uv r) (.int .u64 ((n : Nat) : Int)) = .ok (.int .u64 ((r.toNat &&& n : Nat) : Int)) := op_and_u64 (u64lt r) h
/-- So many rounds were gone. -/
def brk (d : Array UInt8) (a n : Nat) : Nat → UInt64 × Array UInt8
  | 0 => (UInt64.ofNat n, d)
  | m + 1 => breakStep a n (1 <<< bitsLen n) (brk d a n m) (a + n / 4 * 2 - 1 + m)
theorem brk_eq (d : Array UInt8) (a n : Nat) (h : 8 ≤ n) : breakPatterns d a (a + n) = (brk d a n 3).2 := by
  unfold breakPatterns
  rw [Nat.add_sub_cancel_left]
  simp only []
  rw [if_pos h]
  rfl
def bkS (x : Value) (a n p i : Nat) : List (Nat × Value) := [(0, x), (1, .int .i64 ((a : Nat) : Int)), (6, .int .i64 ((n : Nat) : Int)), (7, .pointer (some ⟨p, 0, none⟩)), (8, .int .u64 ((1 <<< bitsLen n : Nat) : Int)), (9, .int .i64 ((i : Nat) : Int))]
set_option maxHeartbeats 16000000 in
theorem brk_tail {C : Mem} {b a n p i o : Nat} {q : Array UInt8} {x : Value} {t : T Value} {K : Ex → St → Prop} (hq : RB C b q x) (hi : i < q.size) (ho : a + o < q.size) (hz : q.size < 50) (hs : Sl t (bkS x a n p i ++ [(10, .int .i64 ((o : Nat) : Int))]))
    (hK : ∀ t' C', Sl t' (bkS x a n p i) → RB C' b (swp q i (a + o)) x → C'.next = C.next → (∀ y, y ≠ b → C'.get y = C.get y) → K .nrm ⟨t', 65, [], C', none⟩) : W tb1 (sub zc14l [1,0,0,1,1]) ⟨t, 65, [], C, none⟩ K := by
  obtain ⟨g0, g1, g6, g7, g8, g9, g10, -⟩ := hs
  have a1 : intOpF .add .i64 ((a : Nat) : Int) ((o : Nat) : Int) = .ok (.int .i64 ((a + o : Nat) : Int)) := op_add_i64 (by omega)
  have i1 := hq.idx hi
  have i2 := hq.idx ho
  have l1 := hq.load hi
  have l2 := hq.load ho
  obtain ⟨D1, D2, hst1, hst2, hr2, hn2, hf2⟩ := hq.swap hi ho
  unfold bv at l1 l2 hst1 hst2
  apply W.run 20
  · intro M
    simp (config := { maxSteps := 4000000 }) (disch := first | decide +kernel | omega | simp only [Wq, Nat.reduceEqDiff]) only [zc14l, zc14y, zc14, Tryz.f509, Aq, Nat.ble, reduceIte, Nat.reduceEqDiff, Nat.reduceAdd, Fq, g0, g1, g9, g10, a1, i1, i2, l1, l2, hst1, hst2]
    with_reducible rfl
  refine hK _ _ ?_ hr2 hn2 hf2
  unfold bkS
  simp only [Sl_cons, Sl_nil, T.get_set, T.puts_cons, T.puts_nil, Nat.reduceEqDiff, Nat.reduceAdd, if_true, if_false, and_true, true_and, g0, g1, g6, g7, g8, g9]
set_option maxHeartbeats 16000000 in
theorem run_brk {D : Mem} {b a e : Nat} {d : Array UInt8} {x : Value} (h : RB D b d x) (hae : a + 8 ≤ e) (he : e ≤ d.size) (hz : d.size < 50) : ∃ D', Ans tb1 509 [x, .int .i64 ((a : Nat) : Int), .int .i64 ((e : Nat) : Int)] D (.tuple ⟨[]⟩) D' ∧ RB D' b (breakPatterns d a e) x ∧ (breakPatterns d a e).size = d.size ∧ Ku b 1 D D' := by
  obtain ⟨v, D', ha, rfl, h1, h2, h3⟩ : ∃ v D', Ans tb1 509 [x, .int .i64 ((a : Nat) : Int), .int .i64 ((e : Nat) : Int)] D v D' ∧ v = .tuple ⟨[]⟩ ∧ RB D' b (breakPatterns d a e) x ∧ (breakPatterns d a e).size = d.size ∧ Ku b 1 D D' := by
    refine ans_of_W (fn_atX Tryz.func509) zc14_eq (by rw [Tryz.ntmps509]; simp) (by kernel_rfl) (by kernel_rfl) ?_
    have hb : b < D.next := h.lt (by omega)
    obtain ⟨n, rfl⟩ : ∃ n, e = a + n := ⟨e - a, by omega⟩
    obtain ⟨p1, p2, p3⟩ := pow_of (n := n) (by omega) (by omega)
    rw [brk_eq d a n (by omega)]
    have s1 : intOpF .sub .i64 ((a + n : Nat) : Int) ((a : Nat) : Int) = .ok (.int .i64 ((n : Nat) : Int)) := by
      have := op_sub_i64 (a := a + n) (b := a) (by omega) (by omega)
      rwa [Nat.add_sub_cancel_left] at this
    have d8 : decide (8 ≤ n) = true := decide_eq_true (by omega)
    have zc1 := conv_u64 (t := 514) (n := n) und48 (by omega)
    have q1 : intOpF .quo .i64 ((n : Nat) : Int) ((4 : Nat) : Int) = .ok (.int .i64 ((n / 4 : Nat) : Int)) := op_quo_i64 (by omega) (by omega)
    have m2 : intOpF .mul .i64 ((n / 4 : Nat) : Int) ((2 : Nat) : Int) = .ok (.int .i64 ((n / 4 * 2 : Nat) : Int)) := op_mul_i64 (by omega)
    have a2 : intOpF .add .i64 ((a : Nat) : Int) ((n / 4 * 2 : Nat) : Int) = .ok (.int .i64 ((a + n / 4 * 2 : Nat) : Int)) := op_add_i64 (by omega)
    have s2 : intOpF .sub .i64 ((a + n / 4 * 2 : Nat) : Int) ((1 : Nat) : Int) = .ok (.int .i64 ((a + n / 4 * 2 - 1 : Nat) : Int)) := op_sub_i64 (by omega) (by omega)
    have a3 : intOpF .add .i64 ((a + n / 4 * 2 : Nat) : Int) ((1 : Nat) : Int) = .ok (.int .i64 ((a + n / 4 * 2 + 1 : Nat) : Int)) := op_add_i64 (by omega)
    have hv0 : Vals (D.alloc (rowOb 514 [.int .u64 ((0 : Nat) : Int)])) 514 D.next (.var 1) [.int .u64 ((0 : Nat) : Int)] := vals_box (get_alloc_self _ _)
    have hb0 : RB (D.alloc (rowOb 514 [.int .u64 ((0 : Nat) : Int)])) b d x := h.same (by rw [next_alloc]; omega) (get_alloc_ne (by omega))
    obtain ⟨D1, hst, hv1, hn1, hf1⟩ := store_box (tb := tb1) (t := 514) (w := .int .u64 ((n : Nat) : Int)) size48 hv0 rfl rfl
    have hb1 : RB D1 b d x := hb0.same (by omega) (hf1 b (by omega))
    have hp : D.next < D1.next := by rw [hn1, next_alloc]; omega
    have hk1 : Ku b 1 D D1 := ⟨by omega, by rw [hn1, next_alloc]; omega, fun y hy hyb => by rw [hf1 y (by omega), get_alloc_ne (by omega)]⟩
    obtain ⟨g2, hg2⟩ := run_pow (D := D1) (n := n) (by omega) (by omega)
    have hu : (UInt64.ofNat n).toNat = n := by
      rw [UInt64.toNat_ofNat']
      exact Nat.mod_eq_of_lt (by omega)
    apply W.seq
    apply W.run 20
    · intro M
      simp (config := { maxSteps := 4000000 }) (disch := first | decide +kernel | omega | simp only [Wq, Nat.reduceEqDiff]) only [zc14, Tryz.f509, Aq, Nat.ble, reduceIte, Nat.reduceEqDiff, Nat.reduceAdd, s1]
      with_reducible rfl
    show W tb1 _ _ _
    apply W.seq
    apply W.run 20
    · intro M
      simp (config := { maxSteps := 4000000 }) (disch := first | decide +kernel | omega | simp only [Wq, Nat.reduceEqDiff]) only [zc14, Tryz.f509, Aq, Nat.ble, reduceIte, Nat.reduceEqDiff, Nat.reduceAdd, d8]
      with_reducible rfl
    refine W.cond (p := true) (by simp only [ev_tmp, T.get_set, Nat.reduceEqDiff, if_true, if_false, evG_some]) (fun _ => ?_) (fun h => by cases h)
    rw [zc14y_eq]
    apply W.seq
    apply W.run 20
    · intro M
      simp (config := { maxSteps := 4000000 }) (disch := first | decide +kernel | omega | simp only [Wq, Nat.reduceEqDiff]) only [zc14y, zc14, Tryz.f509, Aq, Nat.ble, reduceIte, Nat.reduceEqDiff, Nat.reduceAdd, zc1, zero48, cells_int, hst]
      with_reducible rfl
    show W tb1 _ _ _
    apply W.seq
    apply W.runG (g2) 20
    · intro M hM
      simp (config := { maxSteps := 4000000 }) (disch := first | decide +kernel | omega | simp only [Wq, Nat.reduceEqDiff]) only [zc14y, zc14, Tryz.f509, Aq, Nat.ble, reduceIte, Nat.reduceEqDiff, Nat.reduceAdd, hg2]
      with_reducible rfl
    show W tb1 _ _ _
    apply W.seq
    apply W.run 20
    · intro M
      simp (config := { maxSteps := 4000000 }) (disch := first | decide +kernel | omega | simp only [Wq, Nat.reduceEqDiff]) only [zc14y, zc14, Tryz.f509, Aq, Nat.ble, reduceIte, Nat.reduceEqDiff, Nat.reduceAdd, q1, m2, a2, s2]
      with_reducible rfl
    show W tb1 _ _ _
    apply W.block
    refine W.fall (fun k t C => ∃ m, k = 3 - m ∧ m ≤ 3 ∧ RB C b (brk d a n m).2 x ∧ (brk d a n m).2.size = d.size ∧ Vals C 514 D.next (.var 1) [uv (brk d a n m).1] ∧ Ku b 1 D C ∧ D.next < C.next ∧ Sl t (bkS x a n D.next (a + n / 4 * 2 - 1 + m))) ?_ (k := 3) ⟨0, rfl, by omega, hb1, rfl, by unfold uv brk; rw [hu]; exact hv1, hk1, hp, by unfold bkS; simp only [Sl_cons, Sl_nil, T.get_set, T.puts_cons, T.puts_nil, Nat.reduceEqDiff, Nat.reduceAdd, if_true, if_false, and_true, true_and, Nat.add_zero]⟩
    rintro k t C ⟨m, rfl, hm, hq, hqs, hv, hkC, hpC, g0, g1, g6, g7, g8, g9, -⟩
    rw [zc14l_eq]
    apply W.seq
    apply W.seq
    by_cases hm2 : m ≤ 2
    · have d1 : decide (a + n / 4 * 2 - 1 + m ≤ a + n / 4 * 2 + 1) = true := decide_eq_true (by omega)
      obtain ⟨C1, ⟨g3, hg3⟩, hv2, hkq⟩ := run_next hv
      have hb2 := hq.kq (p := D.next) (by omega) hkq
      have e1 : brk d a n (m + 1) = breakStep a n (1 <<< bitsLen n) (brk d a n m) (a + n / 4 * 2 - 1 + m) := rfl
      generalize brk d a n m = st at *
      have e2 : breakStep a n (1 <<< bitsLen n) st (a + n / 4 * 2 - 1 + m) = (xorNext st.1, swp st.2 (a + n / 4 * 2 - 1 + m) (a + (if (xorNext st.1).toNat &&& (1 <<< bitsLen n - 1) ≥ n then ((xorNext st.1).toNat &&& (1 <<< bitsLen n - 1)) - n else (xorNext st.1).toNat &&& (1 <<< bitsLen n - 1)))) := rfl
      rw [e2] at e1
      clear e2
      have s3 : ∀ d, binF .sub d (.int .u64 ((1 <<< bitsLen n : Nat) : Int)) (.int .u64 ((1 : Nat) : Int)) = .ok (.int .u64 ((1 <<< bitsLen n - 1 : Nat) : Int)) := fun d => op_sub_u64 (by omega) (by omega)
      have b1 := fun dd => band (xorNext st.1) dd (1 <<< bitsLen n - 1) (by omega)
      have hob : (xorNext st.1).toNat &&& (1 <<< bitsLen n - 1) ≤ 1 <<< bitsLen n - 1 := Nat.and_le_right
      generalize hr : xorNext st.1 = r' at *
      generalize hmd : 1 <<< bitsLen n = md at *
      generalize r'.toNat &&& (md - 1) = o at *
      have zc3 := conv_i64 (n := o) (by omega)
      apply W.run 20
      · intro M
        simp (config := { maxSteps := 4000000 }) (disch := first | decide +kernel | omega | simp only [Wq, Nat.reduceEqDiff]) only [zc14l, zc14y, zc14, Tryz.f509, Aq, Nat.ble, reduceIte, Nat.reduceEqDiff, Nat.reduceAdd, g1, g6, g9, q1, m2, a2, a3, d1]
        with_reducible rfl
      show W tb1 _ _ _
      apply W.run 20
      · intro M
        simp (config := { maxSteps := 4000000 }) (disch := first | decide +kernel | omega | simp only [Wq, Nat.reduceEqDiff]) only [zc14l, zc14y, zc14, Tryz.f509, Aq, Nat.ble, reduceIte, Nat.reduceEqDiff, Nat.reduceAdd]
        with_reducible rfl
      show W tb1 _ _ _
      apply W.seq
      apply W.block
      apply W.seq
      apply W.runG (g3) 20
      · intro M hM
        simp (config := { maxSteps := 4000000 }) (disch := first | decide +kernel | omega | simp only [Wq, Nat.reduceEqDiff]) only [zc14l, zc14y, zc14, Tryz.f509, Aq, Nat.ble, reduceIte, Nat.reduceEqDiff, Nat.reduceAdd, g7, g8, hg3, s3, b1, zc3]
        with_reducible rfl
      show W tb1 _ _ _
      apply W.seq
      apply W.seq
      by_cases hno : n ≤ o
      · have d2 : decide (n ≤ o) = true := decide_eq_true hno
        have s4 : intOpF .sub .i64 ((o : Nat) : Int) ((n : Nat) : Int) = .ok (.int .i64 ((o - n : Nat) : Int)) := op_sub_i64 hno (by omega)
        rw [if_pos hno] at e1
        apply W.run 20
        · intro M
          simp (config := { maxSteps := 4000000 }) (disch := first | decide +kernel | omega | simp only [Wq, Nat.reduceEqDiff]) only [zc14l, zc14y, zc14, Tryz.f509, Aq, Nat.ble, reduceIte, Nat.reduceEqDiff, Nat.reduceAdd, g6, d2]
          with_reducible rfl
        show W tb1 _ _ _
        apply W.run 20
        · intro M
          simp (config := { maxSteps := 4000000 }) (disch := first | decide +kernel | omega | simp only [Wq, Nat.reduceEqDiff]) only [zc14l, zc14y, zc14, Tryz.f509, Aq, Nat.ble, reduceIte, Nat.reduceEqDiff, Nat.reduceAdd, g6, s4]
          with_reducible rfl
        show W tb1 _ _ _
        refine brk_tail (a := a) (n := n) (p := D.next) (i := a + n / 4 * 2 - 1 + m) (o := o - n) hb2 (by omega) (by omega) (by omega) (by unfold bkS; simp only [List.cons_append, List.nil_append]; simp only [Sl_cons, Sl_nil, T.get_set, T.puts_cons, T.puts_nil, Nat.reduceEqDiff, Nat.reduceAdd, if_true, if_false, and_true, true_and, g0, g1, g6, g7, g8, g9, hmd]) fun t' C' hs' hr' hn' hf' => ?_
        obtain ⟨f0, f1, f6, f7, f8, f9, -⟩ := hs'
        show W tb1 _ _ _
        apply W.run 20
        · intro M
          simp (config := { maxSteps := 4000000 }) (disch := first | decide +kernel | omega | simp only [Wq, Nat.reduceEqDiff]) only [zc14l, zc14y, zc14, Tryz.f509, Aq, Nat.ble, reduceIte, Nat.reduceEqDiff, Nat.reduceAdd, f9]
          with_reducible rfl
        refine ⟨3 - (m + 1), _, _, by omega, rfl, m + 1, rfl, by omega, by rw [e1]; exact hr', by rw [e1, swp_size]; exact hqs, ?_, ?_, ?_, ?_⟩
        · rw [e1]; exact hv2.same (hf' _ (by omega))
        · exact ⟨by rw [hn', hkq.n]; exact hkC.n, by rw [hn', hkq.n]; exact hkC.u, fun y hy hyb => by rw [hf' y hyb, hkq.g y (by omega)]; exact hkC.g y hy hyb⟩
        · show D.next < C'.next
          rw [hn', hkq.n]; exact hpC
        · unfold bkS
          simp only [Sl_cons, Sl_nil, T.get_set, T.puts_cons, T.puts_nil, Nat.reduceEqDiff, Nat.reduceAdd, if_true, if_false, and_true, true_and, f0, f1, f6, f7, f8]
          rfl
      · have d2 : decide (n ≤ o) = false := decide_eq_false hno
        rw [if_neg hno] at e1
        apply W.run 20
        · intro M
          simp (config := { maxSteps := 4000000 }) (disch := first | decide +kernel | omega | simp only [Wq, Nat.reduceEqDiff]) only [zc14l, zc14y, zc14, Tryz.f509, Aq, Nat.ble, reduceIte, Nat.reduceEqDiff, Nat.reduceAdd, g6, d2]
          with_reducible rfl
        show W tb1 _ _ _
        apply W.run 20
        · intro M
          simp (config := { maxSteps := 4000000 }) (disch := first | decide +kernel | omega | simp only [Wq, Nat.reduceEqDiff]) only [zc14l, zc14y, zc14, Tryz.f509, Aq, Nat.ble, reduceIte, Nat.reduceEqDiff, Nat.reduceAdd]
          with_reducible rfl
        show W tb1 _ _ _
        refine brk_tail (a := a) (n := n) (p := D.next) (i := a + n / 4 * 2 - 1 + m) (o := o) hb2 (by omega) (by omega) (by omega) (by unfold bkS; simp only [List.cons_append, List.nil_append]; simp only [Sl_cons, Sl_nil, T.get_set, T.puts_cons, T.puts_nil, Nat.reduceEqDiff, Nat.reduceAdd, if_true, if_false, and_true, true_and, g0, g1, g6, g7, g8, g9, hmd]) fun t' C' hs' hr' hn' hf' => ?_
        obtain ⟨f0, f1, f6, f7, f8, f9, -⟩ := hs'
        show W tb1 _ _ _
        apply W.run 20
        · intro M
          simp (config := { maxSteps := 4000000 }) (disch := first | decide +kernel | omega | simp only [Wq, Nat.reduceEqDiff]) only [zc14l, zc14y, zc14, Tryz.f509, Aq, Nat.ble, reduceIte, Nat.reduceEqDiff, Nat.reduceAdd, f9]
          with_reducible rfl
        refine ⟨3 - (m + 1), _, _, by omega, rfl, m + 1, rfl, by omega, by rw [e1]; exact hr', by rw [e1, swp_size]; exact hqs, ?_, ?_, ?_, ?_⟩
        · rw [e1]; exact hv2.same (hf' _ (by omega))
        · exact ⟨by rw [hn', hkq.n]; exact hkC.n, by rw [hn', hkq.n]; exact hkC.u, fun y hy hyb => by rw [hf' y hyb, hkq.g y (by omega)]; exact hkC.g y hy hyb⟩
        · show D.next < C'.next
          rw [hn', hkq.n]; exact hpC
        · unfold bkS
          simp only [Sl_cons, Sl_nil, T.get_set, T.puts_cons, T.puts_nil, Nat.reduceEqDiff, Nat.reduceAdd, if_true, if_false, and_true, true_and, f0, f1, f6, f7, f8]
          rfl
    · obtain rfl : m = 3 := by omega
      have d1 : decide (a + n / 4 * 2 - 1 + 3 ≤ a + n / 4 * 2 + 1) = false := decide_eq_false (by omega)
      apply W.run 20
      · intro M
        simp (config := { maxSteps := 4000000 }) (disch := first | decide +kernel | omega | simp only [Wq, Nat.reduceEqDiff]) only [zc14l, zc14y, zc14, Tryz.f509, Aq, Nat.ble, reduceIte, Nat.reduceEqDiff, Nat.reduceAdd, g1, g6, g9, q1, m2, a2, a3, d1]
        with_reducible rfl
      show W tb1 _ _ _
      apply W.run 20
      · intro M
        simp (config := { maxSteps := 4000000 }) (disch := first | decide +kernel | omega | simp only [Wq, Nat.reduceEqDiff]) only [zc14l, zc14y, zc14, Tryz.f509, Aq, Nat.ble, reduceIte, Nat.reduceEqDiff, Nat.reduceAdd]
        with_reducible rfl
      refine ⟨.inl rfl, _, [], rfl, ?_, rfl, hq, hqs, hkC⟩
      simp only [Tryz.f509, resF]
  exact ⟨D', ha, h1, h2, h3⟩

noncomputable def zc10 : Code := Tryz.f486.body.getD .skip
noncomputable def zc10l : Code := sub zc10 [1,1,0,0]
noncomputable def zc10t : Code := sub zc10l [0,1,1,1,1,1,1,1]
theorem zc10_eq : Tryz.f486.body = some (.seq (sub zc10 [0]) (.seq (sub zc10 [1,0]) (.block 0 (.loop zc10l)))) := by kernel_rfl
theorem zc10l_eq : zc10l = .block 1 (.seq (sub zc10l [0,0]) (.seq (.seq (sub zc10l [0,1,0,0]) (sub zc10l [0,1,0,1])) (.seq (.seq (sub zc10l [0,1,1,0,0]) (sub zc10l [0,1,1,0,1])) (.seq (.seq (sub zc10l [0,1,1,1,0,0]) (sub zc10l [0,1,1,1,0,1])) (.seq (sub zc10l [0,1,1,1,1,0]) (.seq (.seq (sub zc10l [0,1,1,1,1,1,0,0]) (sub zc10l [0,1,1,1,1,1,0,1])) (.seq (.seq (sub zc10l [0,1,1,1,1,1,1,0,0]) (sub zc10l [0,1,1,1,1,1,1,0,1])) zc10t))))))) := by kernel_rfl
theorem zc10t_eq : zc10t = .seq (.seq (sub zc10t [0,0]) (sub zc10t [0,1])) (.seq (sub zc10t [1,0]) (.seq (sub zc10t [1,1,0]) (.seq (sub zc10t [1,1,1,0]) (.seq (sub zc10t [1,1,1,1,0]) (.seq (sub zc10t [1,1,1,1,1,0]) (sub zc10t [1,1,1,1,1,1])))))) := by kernel_rfl
def pqS (x : Value) (a e lim : Nat) (wb wp : Bool) : List (Nat × Value) := [(0, x), (1, .int .i64 ((a : Nat) : Int)), (2, .int .i64 ((e : Nat) : Int)), (3, .int .i64 ((lim : Nat) : Int)), (8, .bool wb), (9, .bool wp)]
/-- It is called on less. -/
def Ih (b : Nat) (x : Value) (n : Nat) : Prop := ∀ {C : Mem} {a e lim : Nat} {q : Array UInt8}, e - a < n → RB C b q x → a ≤ e → e ≤ q.size → q.size < 50 → lim < 64 →
  ∃ C', Ans tb1 486 [x, .int .i64 ((a : Nat) : Int), .int .i64 ((e : Nat) : Int), .int .i64 ((lim : Nat) : Int)] C (.tuple ⟨[]⟩) C' ∧ RB C' b (pdq ltB q a e lim true true) x ∧ (pdq ltB q a e lim true true).size = q.size ∧ Ku b (2 * (e - a)) C C'
set_option maxHeartbeats 32000000 in
theorem pdq_tail {C : Mem} {b a e lim lim0 pv : Nat} {d q : Array UInt8} {x : Value} {wb wp : Bool} {t : T Value} {K : Ex → St → Prop} (ih : Ih b x (e - a)) (hq : RB C b q x) (h12 : ¬ e - a ≤ 12) (h0 : ¬ lim0 = 0) (he : e ≤ q.size) (hz : q.size < 50) (hl : lim < 64)
    (hpi : (rd ltB d a e lim0 wb wp).pi = (q, false)) (hpv : (rd ltB d a e lim0 wb wp).pivot = pv) (hlim : (rd ltB d a e lim0 wb wp).lim = lim) (hp1 : a ≤ pv) (hp2 : pv < e)
    (hs : Sl t (pqS x a e lim wb wp ++ [(10, .int .i64 ((e - a : Nat) : Int)), (11, .int .i64 ((pv : Nat) : Int))]))
    (hK : ∀ ex t' C' a' e' wb' wp' q', (ex = .nrm ∨ ex = .exit 1) → e' - a' < e - a → a' ≤ e' → e' ≤ q.size → RB C' b q' x → q'.size = q.size → pdq ltB d a e lim0 wb wp = pdq ltB q' a' e' lim wb' wp' → Ku b (2 * ((e - a) - (e' - a')) - 2) C C' → Sl t' (pqS x a' e' lim wb' wp') → K ex ⟨t', 134, [], C', none⟩) :
    W tb1 zc10t ⟨t, 134, [], C, none⟩ K := by
  obtain ⟨g0, g1, g2, g3, g8, g9, g10, g11, -⟩ := hs
  obtain ⟨n, rfl⟩ : ∃ n, e = a + n := ⟨e - a, by omega⟩
  rw [Nat.add_sub_cancel_left] at h12 ih g10
  rw [zc10t_eq]
  apply W.seq
  apply W.seq
  have hE : ((decide (a > 0) && !ltB q[a - 1]! q[pv]!) = true → ∀ t, Sl t (pqS x a (a + n) lim wb wp ++ [(10, .int .i64 ((n : Nat) : Int)), (11, .int .i64 ((pv : Nat) : Int))]) → W tb1 (.seq (sub zc10t [0,1,0,0]) (.seq (sub zc10t [0,1,0,1,0]) (sub zc10t [0,1,0,1,1]))) ⟨t, 134, [], C, none⟩ fun ex s => (ex = .exit 1 ∧ K ex s)) := by
    rintro hc t ⟨g0, g1, g2, g3, g8, g9, g10, g11, -⟩
    obtain ⟨C1, ⟨g, hg⟩, hr1, hsz1, hk1⟩ := run_parte (pv := pv) hq hp1 hp2 he (by omega)
    obtain ⟨r1, r2, -⟩ := partEqLoop_spec ltB a (a + n) _ (a + 1) (a + n - 1) (swp q a pv) (Nat.le_refl _) (Nat.lt_succ_self a) (by omega) (by omega) (by rw [swp_size]; omega) (fun t h1 h2 => by omega) (fun t h1 h2 => by omega)
    have hp : partitionEqual ltB q a (a + n) pv = partEqLoop ltB a (a + 1) (a + n - 1) (swp q a pv) := rfl
    have heq := pdq_eq (lt := ltB) (d := d) (a := a) (b := a + n) (limit := lim0) (wb := wb) (wp := wp) (by omega) h0 (by rw [hpi]) (by rw [hpi, hpv]; exact hc) (by rw [hpi, hpv, hp]; exact ⟨r1, r2⟩)
    rw [hpi, hpv, hlim] at heq
    rw [← hp] at r1 r2
    generalize partitionEqual ltB q a (a + n) pv = Z at *
    apply W.seq
    apply W.runG (g) 20
    · intro M hM
      simp (config := { maxSteps := 4000000 }) (disch := first | decide +kernel | omega | simp only [Wq, Nat.reduceEqDiff]) only [zc10t, zc10l, zc10, Tryz.f486, Aq, Nat.ble, reduceIte, Nat.reduceEqDiff, Nat.reduceAdd, g0, g1, g2, g11, hg]
      with_reducible rfl
    show W tb1 _ _ _
    apply W.run 20
    · intro M
      simp (config := { maxSteps := 4000000 }) (disch := first | decide +kernel | omega | simp only [Wq, Nat.reduceEqDiff]) only [zc10t, zc10l, zc10, Tryz.f486, Aq, Nat.ble, reduceIte, Nat.reduceEqDiff, Nat.reduceAdd]
      with_reducible rfl
    refine ⟨rfl, hK _ _ _ Z.1 (a + n) wb wp Z.2 (.inr rfl) (by omega) (by omega) he hr1 hsz1 heq hk1.ku ?_⟩
    unfold pqS
    simp only [Sl_cons, Sl_nil, T.get_set, T.puts_cons, T.puts_nil, Nat.reduceEqDiff, Nat.reduceAdd, if_true, if_false, and_true, true_and, g0, g2, g3, g8, g9]
  have hP : ((decide (a > 0) && !ltB q[a - 1]! q[pv]!) = false → ∀ t, Sl t (pqS x a (a + n) lim wb wp ++ [(10, .int .i64 ((n : Nat) : Int)), (11, .int .i64 ((pv : Nat) : Int))]) → W tb1 (.seq (sub zc10t [1,0]) (.seq (sub zc10t [1,1,0]) (.seq (sub zc10t [1,1,1,0]) (.seq (sub zc10t [1,1,1,1,0]) (.seq (sub zc10t [1,1,1,1,1,0]) (sub zc10t [1,1,1,1,1,1])))))) ⟨t, 134, [], C, none⟩ K) := by
    rintro hc t ⟨g0, g1, g2, g3, g8, g9, g10, g11, -⟩
    obtain ⟨C1, ⟨g, hg⟩, hr1, hsz1, hk1⟩ := run_part (pv := pv) hq hp1 hp2 he (by omega)
    obtain ⟨r1, r2, -⟩ := partition_holds ltB swoB q a (a + n) pv hp1 hp2 he
    have hL := fun h4 => pdq_left (lt := ltB) (d := d) (a := a) (b := a + n) (limit := lim0) (wb := wb) (wp := wp) (by omega) h0 (by rw [hpi]) (by rw [hpi, hpv]; exact hc) (by rw [hpi, hpv]; exact ⟨r1, r2⟩) h4
    have hR := fun h4 => pdq_right (lt := ltB) (d := d) (a := a) (b := a + n) (limit := lim0) (wb := wb) (wp := wp) (by omega) h0 (by rw [hpi]) (by rw [hpi, hpv]; exact hc) (by rw [hpi, hpv]; exact ⟨r1, r2⟩) h4
    rw [hpi, hpv, hlim] at hL hR
    simp only [] at hL hR
    generalize partition ltB q a (a + n) pv = Z at *
    obtain ⟨m, alr, d4⟩ := Z
    simp only [] at r1 r2 hr1 hsz1 hg hL hR
    have s1 : intOpF .sub .i64 ((m : Nat) : Int) ((a : Nat) : Int) = .ok (.int .i64 ((m - a : Nat) : Int)) := op_sub_i64 (by omega) (by omega)
    have s2 : intOpF .sub .i64 ((a + n : Nat) : Int) ((m : Nat) : Int) = .ok (.int .i64 ((a + n - m : Nat) : Int)) := op_sub_i64 (by omega) (by omega)
    have q1 : intOpF .quo .i64 ((n : Nat) : Int) ((8 : Nat) : Int) = .ok (.int .i64 ((n / 8 : Nat) : Int)) := op_quo_i64 (by omega) (by omega)
    have hn8 : (a + n - a) / 8 = n / 8 := by rw [Nat.add_sub_cancel_left]
    rw [hn8] at hL hR
    apply W.seq
    apply W.runG (g) 20
    · intro M hM
      simp (config := { maxSteps := 4000000 }) (disch := first | decide +kernel | omega | simp only [Wq, Nat.reduceEqDiff]) only [zc10t, zc10l, zc10, Tryz.f486, Aq, Nat.ble, reduceIte, Nat.reduceEqDiff, Nat.reduceAdd, g0, g1, g2, g11, hg, List.getElem?_cons_zero, List.getElem?_cons_succ]
      with_reducible rfl
    show W tb1 _ _ _
    apply W.seq
    apply W.run 20
    · intro M
      simp (config := { maxSteps := 4000000 }) (disch := first | decide +kernel | omega | simp only [Wq, Nat.reduceEqDiff]) only [zc10t, zc10l, zc10, Tryz.f486, Aq, Nat.ble, reduceIte, Nat.reduceEqDiff, Nat.reduceAdd]
      with_reducible rfl
    show W tb1 _ _ _
    apply W.seq
    apply W.run 20
    · intro M
      simp (config := { maxSteps := 4000000 }) (disch := first | decide +kernel | omega | simp only [Wq, Nat.reduceEqDiff]) only [zc10t, zc10l, zc10, Tryz.f486, Aq, Nat.ble, reduceIte, Nat.reduceEqDiff, Nat.reduceAdd, g1, g2, s1, s2]
      with_reducible rfl
    show W tb1 _ _ _
    apply W.seq
    apply W.run 20
    · intro M
      simp (config := { maxSteps := 4000000 }) (disch := first | decide +kernel | omega | simp only [Wq, Nat.reduceEqDiff]) only [zc10t, zc10l, zc10, Tryz.f486, Aq, Nat.ble, reduceIte, Nat.reduceEqDiff, Nat.reduceAdd, g10, q1]
      with_reducible rfl
    show W tb1 _ _ _
    apply W.seq
    by_cases hlt : m - a < a + n - m
    · have d1 : decide (m - a < a + n - m) = true := decide_eq_true hlt
      obtain ⟨C2, ⟨g', hg'⟩, hr2, hsz2, hk2⟩ := ih (a := a) (e := m) (lim := lim) (by omega) hr1 r1 (by omega) (by omega) hl
      apply W.run 20
      · intro M
        simp (config := { maxSteps := 4000000 }) (disch := first | decide +kernel | omega | simp only [Wq, Nat.reduceEqDiff]) only [zc10t, zc10l, zc10, Tryz.f486, Aq, Nat.ble, reduceIte, Nat.reduceEqDiff, Nat.reduceAdd, d1]
        with_reducible rfl
      show W tb1 _ _ _
      apply W.runG (g') 20
      · intro M hM
        simp (config := { maxSteps := 4000000 }) (disch := first | decide +kernel | omega | simp only [Wq, Nat.reduceEqDiff]) only [zc10t, zc10l, zc10, Tryz.f486, Aq, Nat.ble, reduceIte, Nat.reduceEqDiff, Nat.reduceAdd, g0, g1, g3, hg']
        with_reducible rfl
      refine hK _ _ _ (m + 1) (a + n) (decide (n / 8 ≤ m - a)) alr _ (.inl rfl) (by omega) (by omega) he hr2 (by omega) (hL hlt) ((hk1.ku (k := 0)).trans hk2 (by omega)) ?_
      unfold pqS
      simp only [Sl_cons, Sl_nil, T.get_set, T.puts_cons, T.puts_nil, Nat.reduceEqDiff, Nat.reduceAdd, if_true, if_false, and_true, true_and, g0, g2, g3]
    · have d1 : decide (m - a < a + n - m) = false := decide_eq_false hlt
      obtain ⟨C2, ⟨g', hg'⟩, hr2, hsz2, hk2⟩ := ih (a := m + 1) (e := a + n) (lim := lim) (by omega) hr1 (by omega) (by omega) (by omega) hl
      apply W.run 20
      · intro M
        simp (config := { maxSteps := 4000000 }) (disch := first | decide +kernel | omega | simp only [Wq, Nat.reduceEqDiff]) only [zc10t, zc10l, zc10, Tryz.f486, Aq, Nat.ble, reduceIte, Nat.reduceEqDiff, Nat.reduceAdd, d1]
        with_reducible rfl
      show W tb1 _ _ _
      apply W.runG (g') 20
      · intro M hM
        simp (config := { maxSteps := 4000000 }) (disch := first | decide +kernel | omega | simp only [Wq, Nat.reduceEqDiff]) only [zc10t, zc10l, zc10, Tryz.f486, Aq, Nat.ble, reduceIte, Nat.reduceEqDiff, Nat.reduceAdd, g0, g2, g3, hg']
        with_reducible rfl
      refine hK _ _ _ a m (decide (n / 8 ≤ a + n - m)) alr _ (.inl rfl) (by omega) (by omega) (by omega) hr2 (by omega) (hR hlt) ((hk1.ku (k := 0)).trans hk2 (by omega)) ?_
      unfold pqS
      simp only [Sl_cons, Sl_nil, T.get_set, T.puts_cons, T.puts_nil, Nat.reduceEqDiff, Nat.reduceAdd, if_true, if_false, and_true, true_and, g0, g1, g3]
  cases a with
  | zero =>
    have hc : (decide (0 > 0) && !ltB q[0 - 1]! q[pv]!) = false := rfl
    apply W.run 20
    · intro M
      simp (config := { maxSteps := 4000000 }) (disch := first | decide +kernel | omega | simp only [Wq, Nat.reduceEqDiff]) only [zc10t, zc10l, zc10, Tryz.f486, Aq, Nat.ble, reduceIte, Nat.reduceEqDiff, Nat.reduceAdd, g1]
      with_reducible rfl
    show W tb1 _ _ _
    apply W.run 20
    · intro M
      simp (config := { maxSteps := 4000000 }) (disch := first | decide +kernel | omega | simp only [Wq, Nat.reduceEqDiff]) only [zc10t, zc10l, zc10, Tryz.f486, Aq, Nat.ble, reduceIte, Nat.reduceEqDiff, Nat.reduceAdd]
      with_reducible rfl
    show W tb1 _ _ _
    exact hP hc _ (by unfold pqS; simp only [List.cons_append, List.nil_append]; simp only [Sl_cons, Sl_nil, T.get_set, T.puts_cons, T.puts_nil, Nat.reduceEqDiff, Nat.reduceAdd, if_true, if_false, and_true, true_and, g0, g1, g2, g3, g8, g9, g10, g11])
  | succ a' =>
    have s1 : intOpF .sub .i64 ((a' + 1 : Nat) : Int) ((1 : Nat) : Int) = .ok (.int .i64 ((a' : Nat) : Int)) := by
      have := op_sub_i64 (a := a' + 1) (b := 1) (by omega) (by omega)
      rwa [Nat.add_sub_cancel] at this
    have d0 : decide (0 < a' + 1) = true := decide_eq_true (by omega)
    have i1 := hq.idx (i := a') (by omega)
    have i2 := hq.idx (i := pv) (by omega)
    have l1 := hq.load (i := a') (by omega)
    have l2 := hq.load (i := pv) (by omega)
    have hl := fun ih => kLess (ih := ih) (A := C) (a := q[a']!) (b := q[pv]!)
    unfold bv at l1 l2
    rw [show a' + 1 - 1 = a' from rfl, show decide (a' + 1 > 0) = true from d0, Bool.true_and] at hE hP
    cases hx : ltB q[a']! q[pv]! with
    | true =>
      rw [hx] at hl hE hP
      apply W.run 20
      · intro M
        simp (config := { maxSteps := 4000000 }) (disch := first | decide +kernel | omega | simp only [Wq, Nat.reduceEqDiff]) only [zc10t, zc10l, zc10, Tryz.f486, Aq, Nat.ble, reduceIte, Nat.reduceEqDiff, Nat.reduceAdd, g0, g1, g11, d0, s1, i1, i2, l1, l2, hl]
        with_reducible rfl
      show W tb1 _ _ _
      apply W.run 20
      · intro M
        simp (config := { maxSteps := 4000000 }) (disch := first | decide +kernel | omega | simp only [Wq, Nat.reduceEqDiff]) only [zc10t, zc10l, zc10, Tryz.f486, Aq, Nat.ble, reduceIte, Nat.reduceEqDiff, Nat.reduceAdd]
        with_reducible rfl
      show W tb1 _ _ _
      exact hP rfl _ (by unfold pqS; simp only [List.cons_append, List.nil_append]; simp only [Sl_cons, Sl_nil, T.get_set, T.puts_cons, T.puts_nil, Nat.reduceEqDiff, Nat.reduceAdd, if_true, if_false, and_true, true_and, g0, g1, g2, g3, g8, g9, g10, g11])
    | false =>
      rw [hx] at hl hE hP
      apply W.run 20
      · intro M
        simp (config := { maxSteps := 4000000 }) (disch := first | decide +kernel | omega | simp only [Wq, Nat.reduceEqDiff]) only [zc10t, zc10l, zc10, Tryz.f486, Aq, Nat.ble, reduceIte, Nat.reduceEqDiff, Nat.reduceAdd, g0, g1, g11, d0, s1, i1, i2, l1, l2, hl]
        with_reducible rfl
      show W tb1 (.cond (.tmp 87) (.seq (sub zc10t [0,1,0,0]) (.seq (sub zc10t [0,1,0,1,0]) (sub zc10t [0,1,0,1,1]))) .skip) _ _
      refine W.cond (p := true) (by simp only [ev_tmp, T.get_set, Nat.reduceEqDiff, if_true, if_false, evG_some]) (fun _ => ?_) (fun h => by cases h)
      refine W.mono (hE rfl _ (by unfold pqS; simp only [List.cons_append, List.nil_append]; simp only [Sl_cons, Sl_nil, T.get_set, T.puts_cons, T.puts_nil, Nat.reduceEqDiff, Nat.reduceAdd, if_true, if_false, and_true, true_and, g0, g1, g2, g3, g8, g9, g10, g11])) ?_
      rintro ex s ⟨rfl, hk⟩
      exact hk

noncomputable def zc10m : Code := sub zc10l [0,1,1,1,1]
theorem zc10m_eq : zc10m = .seq (sub zc10m [0]) (.seq (.seq (sub zc10m [1,0,0]) (sub zc10m [1,0,1])) (.seq (.seq (sub zc10m [1,1,0,0]) (sub zc10m [1,1,0,1])) zc10t)) := by kernel_rfl
theorem zc10l_eq2 : zc10l = .block 1 (.seq (sub zc10l [0,0]) (.seq (.seq (sub zc10l [0,1,0,0]) (sub zc10l [0,1,0,1])) (.seq (.seq (sub zc10l [0,1,1,0,0]) (sub zc10l [0,1,1,0,1])) (.seq (.seq (sub zc10l [0,1,1,1,0,0]) (sub zc10l [0,1,1,1,0,1])) zc10m)))) := by kernel_rfl
set_option maxHeartbeats 32000000 in
theorem pdq_mid {C : Mem} {b a e lim lim0 : Nat} {d q : Array UInt8} {x : Value} {wb wp : Bool} {t : T Value} {K : Ex → St → Prop} (ih : Ih b x (e - a)) (hq : RB C b q x) (h12 : ¬ e - a ≤ 12) (h0 : ¬ lim0 = 0) (he : e ≤ q.size) (hz : q.size < 50) (hl : lim < 64)
    (hd1 : (rd ltB d a e lim0 wb wp).d1 = q) (hlim : (rd ltB d a e lim0 wb wp).lim = lim)
    (hs : Sl t (pqS x a e lim wb wp ++ [(10, .int .i64 ((e - a : Nat) : Int))]))
    (hR : ∀ t' C', RB C' b q x → pdq ltB d a e lim0 wb wp = q → Ku b 1 C C' → K .ret ⟨t', 134, [], C', none⟩)
    (hK : ∀ ex t' C' a' e' wb' wp' q', (ex = .nrm ∨ ex = .exit 1) → e' - a' < e - a → a' ≤ e' → e' ≤ q.size → RB C' b q' x → q'.size = q.size → pdq ltB d a e lim0 wb wp = pdq ltB q' a' e' lim wb' wp' → Ku b (2 * ((e - a) - (e' - a')) - 1) C C' → Sl t' (pqS x a' e' lim wb' wp') → K ex ⟨t', 134, [], C', none⟩) :
    W tb1 zc10m ⟨t, 134, [], C, none⟩ K := by
  obtain ⟨g0, g1, g2, g3, g8, g9, g10, -⟩ := hs
  obtain ⟨C1, ⟨g, hg⟩, hr1, hnd, hk1⟩ := run_piv (a := a) (e := e) hq (by omega) he hz
  have hrng := choosePivot_holds ltB q a e (by omega)
  have hc : (rd ltB d a e lim0 wb wp).c = choosePivot ltB q a e := by rw [rd_c, hd1]
  have hnd' : (rd ltB d a e lim0 wb wp).c.2 ≠ .decreasing := by rw [hc]; exact hnd
  obtain ⟨f1, f2, f3⟩ := rd_not hnd'
  rw [hd1] at f1
  rw [hc] at f2 f3
  clear hc hnd'
  have hyes := rd_pi_yes (lt := ltB) (d := d) (a := a) (b := e) (limit := lim0) (wb := wb) (wp := wp)
  have hno := rd_pi_no (lt := ltB) (d := d) (a := a) (b := e) (limit := lim0) (wb := wb) (wp := wp)
  rw [f3, f1] at hyes hno
  clear f1 f3
  generalize choosePivot ltB q a e = c at *
  obtain ⟨pv, hint⟩ := c
  simp only [] at hrng f2 hyes hno hnd hg
  have hT : ∀ t, (rd ltB d a e lim0 wb wp).pi = (q, false) → Sl t (pqS x a e lim wb wp ++ [(10, .int .i64 ((e - a : Nat) : Int)), (11, .int .i64 ((pv : Nat) : Int))]) → W tb1 zc10t ⟨t, 134, [], C1, none⟩ K := fun t hpi hs =>
    pdq_tail (d := d) (lim0 := lim0) (pv := pv) ih hr1 h12 h0 he hz hl hpi f2 hlim hrng.1 hrng.2 hs fun ex t' C' a' e' wb' wp' q' h1 h2 h3 h4 h5 h6 h7 h8 h9 => hK ex t' C' a' e' wb' wp' q' h1 h2 h3 h4 h5 h6 h7 (hk1.trans h8 (by omega)) h9
  rw [zc10m_eq]
  apply W.seq
  apply W.runG (g) 20
  · intro M hM
    simp (config := { maxSteps := 4000000 }) (disch := first | decide +kernel | omega | simp only [Wq, Nat.reduceEqDiff]) only [zc10m, zc10l, zc10, Tryz.f486, Aq, Nat.ble, reduceIte, Nat.reduceEqDiff, Nat.reduceAdd, g0, g1, g2, hg, List.getElem?_cons_zero, List.getElem?_cons_succ]
    with_reducible rfl
  show W tb1 _ _ _
  apply W.seq
  apply W.seq
  cases hint with
  | decreasing => exact absurd rfl hnd
  | unknown =>
    rw [show ((hintN .unknown : Nat) : Int) = ((0 : Nat) : Int) from rfl]
    apply W.run 20
    · intro M
      simp (config := { maxSteps := 4000000 }) (disch := first | decide +kernel | omega | simp only [Wq, Nat.reduceEqDiff]) only [zc10m, zc10l, zc10, Tryz.f486, Aq, Nat.ble, reduceIte, Nat.reduceEqDiff, Nat.reduceAdd]
      with_reducible rfl
    show W tb1 _ _ _
    apply W.run 20
    · intro M
      simp (config := { maxSteps := 4000000 }) (disch := first | decide +kernel | omega | simp only [Wq, Nat.reduceEqDiff]) only [zc10m, zc10l, zc10, Tryz.f486, Aq, Nat.ble, reduceIte, Nat.reduceEqDiff, Nat.reduceAdd]
      with_reducible rfl
    show W tb1 _ _ _
    apply W.seq
    apply W.seq
    cases wb with
    | false =>
      cases wp with
      | false =>
        apply W.run 20
        · intro M
          simp (config := { maxSteps := 4000000 }) (disch := first | decide +kernel | omega | simp only [Wq, Nat.reduceEqDiff]) only [zc10m, zc10l, zc10, Tryz.f486, Aq, Nat.ble, reduceIte, Nat.reduceEqDiff, Nat.reduceAdd, g8, g9]
          with_reducible rfl
        show W tb1 _ _ _
        apply W.run 20
        · intro M
          simp (config := { maxSteps := 4000000 }) (disch := first | decide +kernel | omega | simp only [Wq, Nat.reduceEqDiff]) only [zc10m, zc10l, zc10, Tryz.f486, Aq, Nat.ble, reduceIte, Nat.reduceEqDiff, Nat.reduceAdd]
          with_reducible rfl
        show W tb1 _ _ _
        exact hT _ (hno rfl) (by unfold pqS; simp only [List.cons_append, List.nil_append]; simp only [Sl_cons, Sl_nil, T.get_set, T.puts_cons, T.puts_nil, Nat.reduceEqDiff, Nat.reduceAdd, if_true, if_false, and_true, true_and, g0, g1, g2, g3, g8, g9, g10])
      | true =>
        apply W.run 20
        · intro M
          simp (config := { maxSteps := 4000000 }) (disch := first | decide +kernel | omega | simp only [Wq, Nat.reduceEqDiff]) only [zc10m, zc10l, zc10, Tryz.f486, Aq, Nat.ble, reduceIte, Nat.reduceEqDiff, Nat.reduceAdd, g8, g9]
          with_reducible rfl
        show W tb1 _ _ _
        apply W.run 20
        · intro M
          simp (config := { maxSteps := 4000000 }) (disch := first | decide +kernel | omega | simp only [Wq, Nat.reduceEqDiff]) only [zc10m, zc10l, zc10, Tryz.f486, Aq, Nat.ble, reduceIte, Nat.reduceEqDiff, Nat.reduceAdd]
          with_reducible rfl
        show W tb1 _ _ _
        exact hT _ (hno rfl) (by unfold pqS; simp only [List.cons_append, List.nil_append]; simp only [Sl_cons, Sl_nil, T.get_set, T.puts_cons, T.puts_nil, Nat.reduceEqDiff, Nat.reduceAdd, if_true, if_false, and_true, true_and, g0, g1, g2, g3, g8, g9, g10])
    | true =>
      cases wp with
      | false =>
        apply W.run 20
        · intro M
          simp (config := { maxSteps := 4000000 }) (disch := first | decide +kernel | omega | simp only [Wq, Nat.reduceEqDiff]) only [zc10m, zc10l, zc10, Tryz.f486, Aq, Nat.ble, reduceIte, Nat.reduceEqDiff, Nat.reduceAdd, g8, g9]
          with_reducible rfl
        show W tb1 _ _ _
        apply W.run 20
        · intro M
          simp (config := { maxSteps := 4000000 }) (disch := first | decide +kernel | omega | simp only [Wq, Nat.reduceEqDiff]) only [zc10m, zc10l, zc10, Tryz.f486, Aq, Nat.ble, reduceIte, Nat.reduceEqDiff, Nat.reduceAdd]
          with_reducible rfl
        show W tb1 _ _ _
        exact hT _ (hno rfl) (by unfold pqS; simp only [List.cons_append, List.nil_append]; simp only [Sl_cons, Sl_nil, T.get_set, T.puts_cons, T.puts_nil, Nat.reduceEqDiff, Nat.reduceAdd, if_true, if_false, and_true, true_and, g0, g1, g2, g3, g8, g9, g10])
      | true =>
        apply W.run 20
        · intro M
          simp (config := { maxSteps := 4000000 }) (disch := first | decide +kernel | omega | simp only [Wq, Nat.reduceEqDiff]) only [zc10m, zc10l, zc10, Tryz.f486, Aq, Nat.ble, reduceIte, Nat.reduceEqDiff, Nat.reduceAdd, g8, g9]
          with_reducible rfl
        show W tb1 _ _ _
        apply W.run 20
        · intro M
          simp (config := { maxSteps := 4000000 }) (disch := first | decide +kernel | omega | simp only [Wq, Nat.reduceEqDiff]) only [zc10m, zc10l, zc10, Tryz.f486, Aq, Nat.ble, reduceIte, Nat.reduceEqDiff, Nat.reduceAdd]
          with_reducible rfl
        show W tb1 _ _ _
        exact hT _ (hno rfl) (by unfold pqS; simp only [List.cons_append, List.nil_append]; simp only [Sl_cons, Sl_nil, T.get_set, T.puts_cons, T.puts_nil, Nat.reduceEqDiff, Nat.reduceAdd, if_true, if_false, and_true, true_and, g0, g1, g2, g3, g8, g9, g10])
  | increasing =>
    rw [show ((hintN .increasing : Nat) : Int) = ((1 : Nat) : Int) from rfl]
    apply W.run 20
    · intro M
      simp (config := { maxSteps := 4000000 }) (disch := first | decide +kernel | omega | simp only [Wq, Nat.reduceEqDiff]) only [zc10m, zc10l, zc10, Tryz.f486, Aq, Nat.ble, reduceIte, Nat.reduceEqDiff, Nat.reduceAdd]
      with_reducible rfl
    show W tb1 _ _ _
    apply W.run 20
    · intro M
      simp (config := { maxSteps := 4000000 }) (disch := first | decide +kernel | omega | simp only [Wq, Nat.reduceEqDiff]) only [zc10m, zc10l, zc10, Tryz.f486, Aq, Nat.ble, reduceIte, Nat.reduceEqDiff, Nat.reduceAdd]
      with_reducible rfl
    show W tb1 _ _ _
    apply W.seq
    apply W.seq
    cases wb with
    | false =>
      cases wp with
      | false =>
        apply W.run 20
        · intro M
          simp (config := { maxSteps := 4000000 }) (disch := first | decide +kernel | omega | simp only [Wq, Nat.reduceEqDiff]) only [zc10m, zc10l, zc10, Tryz.f486, Aq, Nat.ble, reduceIte, Nat.reduceEqDiff, Nat.reduceAdd, g8, g9]
          with_reducible rfl
        show W tb1 _ _ _
        apply W.run 20
        · intro M
          simp (config := { maxSteps := 4000000 }) (disch := first | decide +kernel | omega | simp only [Wq, Nat.reduceEqDiff]) only [zc10m, zc10l, zc10, Tryz.f486, Aq, Nat.ble, reduceIte, Nat.reduceEqDiff, Nat.reduceAdd]
          with_reducible rfl
        show W tb1 _ _ _
        exact hT _ (hno rfl) (by unfold pqS; simp only [List.cons_append, List.nil_append]; simp only [Sl_cons, Sl_nil, T.get_set, T.puts_cons, T.puts_nil, Nat.reduceEqDiff, Nat.reduceAdd, if_true, if_false, and_true, true_and, g0, g1, g2, g3, g8, g9, g10])
      | true =>
        apply W.run 20
        · intro M
          simp (config := { maxSteps := 4000000 }) (disch := first | decide +kernel | omega | simp only [Wq, Nat.reduceEqDiff]) only [zc10m, zc10l, zc10, Tryz.f486, Aq, Nat.ble, reduceIte, Nat.reduceEqDiff, Nat.reduceAdd, g8, g9]
          with_reducible rfl
        show W tb1 _ _ _
        apply W.run 20
        · intro M
          simp (config := { maxSteps := 4000000 }) (disch := first | decide +kernel | omega | simp only [Wq, Nat.reduceEqDiff]) only [zc10m, zc10l, zc10, Tryz.f486, Aq, Nat.ble, reduceIte, Nat.reduceEqDiff, Nat.reduceAdd]
          with_reducible rfl
        show W tb1 _ _ _
        exact hT _ (hno rfl) (by unfold pqS; simp only [List.cons_append, List.nil_append]; simp only [Sl_cons, Sl_nil, T.get_set, T.puts_cons, T.puts_nil, Nat.reduceEqDiff, Nat.reduceAdd, if_true, if_false, and_true, true_and, g0, g1, g2, g3, g8, g9, g10])
    | true =>
      cases wp with
      | false =>
        apply W.run 20
        · intro M
          simp (config := { maxSteps := 4000000 }) (disch := first | decide +kernel | omega | simp only [Wq, Nat.reduceEqDiff]) only [zc10m, zc10l, zc10, Tryz.f486, Aq, Nat.ble, reduceIte, Nat.reduceEqDiff, Nat.reduceAdd, g8, g9]
          with_reducible rfl
        show W tb1 _ _ _
        apply W.run 20
        · intro M
          simp (config := { maxSteps := 4000000 }) (disch := first | decide +kernel | omega | simp only [Wq, Nat.reduceEqDiff]) only [zc10m, zc10l, zc10, Tryz.f486, Aq, Nat.ble, reduceIte, Nat.reduceEqDiff, Nat.reduceAdd]
          with_reducible rfl
        show W tb1 _ _ _
        exact hT _ (hno rfl) (by unfold pqS; simp only [List.cons_append, List.nil_append]; simp only [Sl_cons, Sl_nil, T.get_set, T.puts_cons, T.puts_nil, Nat.reduceEqDiff, Nat.reduceAdd, if_true, if_false, and_true, true_and, g0, g1, g2, g3, g8, g9, g10])
      | true =>
        have hpi := hyes rfl
        have hpn := run_pins hr1 (a := a) (e := e) (by omega) he hz
        rw [pins_eq (by omega)] at hpi hpn
        obtain ⟨g', hg'⟩ := hpn
        cases hx : decide (scanSorted ltB q e (a + 1) = e) with
        | true =>
          rw [hx] at hpi hg'
          simp only [] at hg'
          apply W.run 20
          · intro M
            simp (config := { maxSteps := 4000000 }) (disch := first | decide +kernel | omega | simp only [Wq, Nat.reduceEqDiff]) only [zc10m, zc10l, zc10, Tryz.f486, Aq, Nat.ble, reduceIte, Nat.reduceEqDiff, Nat.reduceAdd, g8, g9]
            with_reducible rfl
          show W tb1 _ _ _
          apply W.runG (g') 20
          · intro M hM
            simp (config := { maxSteps := 4000000 }) (disch := first | decide +kernel | omega | simp only [Wq, Nat.reduceEqDiff]) only [zc10m, zc10l, zc10, Tryz.f486, Aq, Nat.ble, reduceIte, Nat.reduceEqDiff, Nat.reduceAdd, g0, g1, g2, hg']
            with_reducible rfl
          refine hR _ _ hr1 ?_ hk1
          rw [pdq_done h12 h0 (by rw [hpi]), hpi]
        | false =>
          rw [hx] at hpi hg'
          simp only [] at hg'
          apply W.run 20
          · intro M
            simp (config := { maxSteps := 4000000 }) (disch := first | decide +kernel | omega | simp only [Wq, Nat.reduceEqDiff]) only [zc10m, zc10l, zc10, Tryz.f486, Aq, Nat.ble, reduceIte, Nat.reduceEqDiff, Nat.reduceAdd, g8, g9]
            with_reducible rfl
          show W tb1 _ _ _
          apply W.runG (g') 20
          · intro M hM
            simp (config := { maxSteps := 4000000 }) (disch := first | decide +kernel | omega | simp only [Wq, Nat.reduceEqDiff]) only [zc10m, zc10l, zc10, Tryz.f486, Aq, Nat.ble, reduceIte, Nat.reduceEqDiff, Nat.reduceAdd, g0, g1, g2, hg']
            with_reducible rfl
          show W tb1 _ _ _
          exact hT _ hpi (by unfold pqS; simp only [List.cons_append, List.nil_append]; simp only [Sl_cons, Sl_nil, T.get_set, T.puts_cons, T.puts_nil, Nat.reduceEqDiff, Nat.reduceAdd, if_true, if_false, and_true, true_and, g0, g1, g2, g3, g8, g9, g10])
theorem ins_size (d : Array UInt8) (a e : Nat) : (insertionSort ltB d a e).size = d.size := insOuter_size a e _ _ d (Nat.le_refl _)
set_option maxHeartbeats 32000000 in
theorem run_pdq (b : Nat) (x : Value) : ∀ n, Ih b x n := by
  intro n
  induction n with
  | zero => intro C a e lim q h; exact absurd h (Nat.not_lt_zero _)
  | succ n ih =>
    intro C a e lim q hlt hq hae he hz hl
    obtain ⟨v, D', ha, rfl, h1, h2, h3⟩ : ∃ v D', Ans tb1 486 [x, .int .i64 ((a : Nat) : Int), .int .i64 ((e : Nat) : Int), .int .i64 ((lim : Nat) : Int)] C v D' ∧ v = .tuple ⟨[]⟩ ∧ RB D' b (pdq ltB q a e lim true true) x ∧ (pdq ltB q a e lim true true).size = q.size ∧ Ku b (2 * (e - a)) C D' := by
      refine ans_of_W (fn_atX Tryz.func486) zc10_eq (by rw [Tryz.ntmps486]; simp) (by kernel_rfl) (by kernel_rfl) ?_
      apply W.seq
      apply W.run 20
      · intro M
        simp (config := { maxSteps := 4000000 }) (disch := first | decide +kernel | omega | simp only [Wq, Nat.reduceEqDiff]) only [zc10, Tryz.f486, Aq, Nat.ble, reduceIte, Nat.reduceEqDiff, Nat.reduceAdd]
        with_reducible rfl
      show W tb1 _ _ _
      apply W.seq
      apply W.run 20
      · intro M
        simp (config := { maxSteps := 4000000 }) (disch := first | decide +kernel | omega | simp only [Wq, Nat.reduceEqDiff]) only [zc10, Tryz.f486, Aq, Nat.ble, reduceIte, Nat.reduceEqDiff, Nat.reduceAdd]
        with_reducible rfl
      show W tb1 _ _ _
      apply W.block
      refine W.fall (fun k t C' => ∃ a' e' lim' wb wp q', k = e' - a' ∧ a' ≤ e' ∧ e' ≤ q.size ∧ e' - a' ≤ n ∧ lim' < 64 ∧ RB C' b q' x ∧ q'.size = q.size ∧ pdq ltB q' a' e' lim' wb wp = pdq ltB q a e lim true true ∧ e' - a' ≤ e - a ∧ Ku b (2 * ((e - a) - (e' - a'))) C C' ∧ Sl t (pqS x a' e' lim' wb wp)) ?_ (k := e - a) ⟨a, e, lim, true, true, q, rfl, hae, he, by omega, hl, hq, rfl, rfl, Nat.le_refl _, Ku.refl _ _ _, by unfold pqS; simp only [Sl_cons, Sl_nil, T.get_set, T.puts_cons, T.puts_nil, Nat.reduceEqDiff, Nat.reduceAdd, if_true, if_false, and_true, true_and]⟩
      rintro k t C' ⟨a', e', lim', wb, wp, q', rfl, hae', he', hn, hl', hq', hqs, heq, hle, hKp, g0, g1, g2, g3, g8, g9, -⟩
      have ih' : Ih b x (e' - a') := fun {C a e lim q} h => ih (Nat.lt_of_lt_of_le h hn)
      have s1 : intOpF .sub .i64 ((e' : Nat) : Int) ((a' : Nat) : Int) = .ok (.int .i64 ((e' - a' : Nat) : Int)) := op_sub_i64 hae' (by omega)
      rw [zc10l_eq2]
      apply W.block
      apply W.seq
      apply W.run 20
      · intro M
        simp (config := { maxSteps := 4000000 }) (disch := first | decide +kernel | omega | simp only [Wq, Nat.reduceEqDiff]) only [zc10l, zc10, Tryz.f486, Aq, Nat.ble, reduceIte, Nat.reduceEqDiff, Nat.reduceAdd, g1, g2, s1]
        with_reducible rfl
      show W tb1 _ _ _
      apply W.seq
      apply W.seq
      by_cases h12 : e' - a' ≤ 12
      · have d1 : decide (e' - a' ≤ 12) = true := decide_eq_true h12
        obtain ⟨C1, ⟨g, hg⟩, hr1, hk1⟩ := run_ins (a := a') (e := e') hq' (by omega) hae' (by omega)
        rw [pdq_small h12] at heq
        apply W.run 20
        · intro M
          simp (config := { maxSteps := 4000000 }) (disch := first | decide +kernel | omega | simp only [Wq, Nat.reduceEqDiff]) only [zc10l, zc10, Tryz.f486, Aq, Nat.ble, reduceIte, Nat.reduceEqDiff, Nat.reduceAdd, d1]
          with_reducible rfl
        show W tb1 _ _ _
        apply W.runG (g) 20
        · intro M hM
          simp (config := { maxSteps := 4000000 }) (disch := first | decide +kernel | omega | simp only [Wq, Nat.reduceEqDiff]) only [zc10l, zc10, Tryz.f486, Aq, Nat.ble, reduceIte, Nat.reduceEqDiff, Nat.reduceAdd, g0, g1, g2, hg]
          with_reducible rfl
        refine ⟨.inr rfl, _, [], rfl, ?_, rfl, by rw [← heq]; exact hr1, by rw [← heq, ins_size]; exact hqs, hKp.trans (hk1.ku (k := 0)) (by omega)⟩
        simp only [Tryz.f486, resF]
      · have d1 : decide (e' - a' ≤ 12) = false := decide_eq_false h12
        apply W.run 20
        · intro M
          simp (config := { maxSteps := 4000000 }) (disch := first | decide +kernel | omega | simp only [Wq, Nat.reduceEqDiff]) only [zc10l, zc10, Tryz.f486, Aq, Nat.ble, reduceIte, Nat.reduceEqDiff, Nat.reduceAdd, d1]
          with_reducible rfl
        show W tb1 _ _ _
        apply W.run 20
        · intro M
          simp (config := { maxSteps := 4000000 }) (disch := first | decide +kernel | omega | simp only [Wq, Nat.reduceEqDiff]) only [zc10l, zc10, Tryz.f486, Aq, Nat.ble, reduceIte, Nat.reduceEqDiff, Nat.reduceAdd]
          with_reducible rfl
        show W tb1 _ _ _
        apply W.seq
        apply W.seq
        by_cases h0 : lim' = 0
        · subst h0
          obtain ⟨C1, ⟨g, hg⟩, hr1, hk1⟩ := run_heap (a := a') (e := e') hq' (by omega) (by omega) (by omega)
          have hsz : (heapSort ltB q' a' e').size = q'.size := (heapSort_holds (lt := ltB) swoB q' a' e' hae' (by omega)).1.1
          rw [pdq_heap h12 rfl] at heq
          apply W.run 20
          · intro M
            simp (config := { maxSteps := 4000000 }) (disch := first | decide +kernel | omega | simp only [Wq, Nat.reduceEqDiff]) only [zc10l, zc10, Tryz.f486, Aq, Nat.ble, reduceIte, Nat.reduceEqDiff, Nat.reduceAdd, g3]
            with_reducible rfl
          show W tb1 _ _ _
          apply W.runG (g) 20
          · intro M hM
            simp (config := { maxSteps := 4000000 }) (disch := first | decide +kernel | omega | simp only [Wq, Nat.reduceEqDiff]) only [zc10l, zc10, Tryz.f486, Aq, Nat.ble, reduceIte, Nat.reduceEqDiff, Nat.reduceAdd, g0, g1, g2, hg]
            with_reducible rfl
          refine ⟨.inr rfl, _, [], rfl, ?_, rfl, by rw [← heq]; exact hr1, by rw [← heq, hsz]; exact hqs, hKp.trans (hk1.ku (k := 0)) (by omega)⟩
          simp only [Tryz.f486, resF]
        · have d2 : decide (lim' = 0) = false := decide_eq_false h0
          apply W.run 20
          · intro M
            simp (config := { maxSteps := 4000000 }) (disch := first | decide +kernel | omega | simp only [Wq, Nat.reduceEqDiff]) only [zc10l, zc10, Tryz.f486, Aq, Nat.ble, reduceIte, Nat.reduceEqDiff, Nat.reduceAdd, g3, d2]
            with_reducible rfl
          show W tb1 _ _ _
          apply W.run 20
          · intro M
            simp (config := { maxSteps := 4000000 }) (disch := first | decide +kernel | omega | simp only [Wq, Nat.reduceEqDiff]) only [zc10l, zc10, Tryz.f486, Aq, Nat.ble, reduceIte, Nat.reduceEqDiff, Nat.reduceAdd]
            with_reducible rfl
          show W tb1 _ _ _
          apply W.seq
          apply W.seq
          cases wb with
          | true =>
            apply W.run 20
            · intro M
              simp (config := { maxSteps := 4000000 }) (disch := first | decide +kernel | omega | simp only [Wq, Nat.reduceEqDiff]) only [zc10l, zc10, Tryz.f486, Aq, Nat.ble, reduceIte, Nat.reduceEqDiff, Nat.reduceAdd, g8]
              with_reducible rfl
            show W tb1 _ _ _
            apply W.run 20
            · intro M
              simp (config := { maxSteps := 4000000 }) (disch := first | decide +kernel | omega | simp only [Wq, Nat.reduceEqDiff]) only [zc10l, zc10, Tryz.f486, Aq, Nat.ble, reduceIte, Nat.reduceEqDiff, Nat.reduceAdd]
              with_reducible rfl
            show W tb1 _ _ _
            refine pdq_mid (a := a') (e := e') (lim := lim') (lim0 := lim') (d := q') (wb := true) (wp := wp) ih' hq' h12 h0 (by omega) (by omega) hl' rfl rfl (by unfold pqS; simp only [List.cons_append, List.nil_append]; simp only [Sl_cons, Sl_nil, T.get_set, T.puts_cons, T.puts_nil, Nat.reduceEqDiff, Nat.reduceAdd, if_true, if_false, and_true, true_and, g0, g1, g2, g3, g8, g9]) (fun t' C2 hr hp hk => ?_) (fun ex t' C2 a2 e2 wb2 wp2 q2 hex hlt2 hae2 he2 hr2 hs2 hp2 hk2 hsl2 => ?_)
            · refine ⟨.inr rfl, _, [], rfl, ?_, rfl, by rw [← heq, hp]; exact hr, by rw [← heq, hp]; exact hqs, hKp.trans hk (by omega)⟩
              simp only [Tryz.f486, resF]
            · rcases hex with rfl | rfl
              · exact ⟨e2 - a2, _, _, hlt2, rfl, a2, e2, lim', wb2, wp2, q2, rfl, hae2, by omega, by omega, hl', hr2, by omega, by rw [← hp2]; exact heq, by omega, hKp.trans hk2 (by omega), hsl2⟩
              · exact ⟨e2 - a2, _, _, hlt2, rfl, a2, e2, lim', wb2, wp2, q2, rfl, hae2, by omega, by omega, hl', hr2, by omega, by rw [← hp2]; exact heq, by omega, hKp.trans hk2 (by omega), hsl2⟩
          | false =>
            obtain ⟨C1, ⟨g, hg⟩, hr1, hsz1, hk1⟩ := run_brk (a := a') (e := e') hq' (by omega) (by omega) (by omega)
            have s2 : intOpF .sub .i64 ((lim' : Nat) : Int) ((1 : Nat) : Int) = .ok (.int .i64 ((lim' - 1 : Nat) : Int)) := op_sub_i64 (by omega) (by omega)
            apply W.run 20
            · intro M
              simp (config := { maxSteps := 4000000 }) (disch := first | decide +kernel | omega | simp only [Wq, Nat.reduceEqDiff]) only [zc10l, zc10, Tryz.f486, Aq, Nat.ble, reduceIte, Nat.reduceEqDiff, Nat.reduceAdd, g8]
              with_reducible rfl
            show W tb1 _ _ _
            apply W.runG (g) 20
            · intro M hM
              simp (config := { maxSteps := 4000000 }) (disch := first | decide +kernel | omega | simp only [Wq, Nat.reduceEqDiff]) only [zc10l, zc10, Tryz.f486, Aq, Nat.ble, reduceIte, Nat.reduceEqDiff, Nat.reduceAdd, g0, g1, g2, g3, hg, s2]
              with_reducible rfl
            show W tb1 _ _ _
            refine pdq_mid (a := a') (e := e') (lim := lim' - 1) (lim0 := lim') (d := q') (wb := false) (wp := wp) ih' hr1 h12 h0 (by omega) (by omega) (by omega) rfl rfl (by unfold pqS; simp only [List.cons_append, List.nil_append]; simp only [Sl_cons, Sl_nil, T.get_set, T.puts_cons, T.puts_nil, Nat.reduceEqDiff, Nat.reduceAdd, if_true, if_false, and_true, true_and, g0, g1, g2, g8, g9]) (fun t' C2 hr hp hk => ?_) (fun ex t' C2 a2 e2 wb2 wp2 q2 hex hlt2 hae2 he2 hr2 hs2 hp2 hk2 hsl2 => ?_)
            · refine ⟨.inr rfl, _, [], rfl, ?_, rfl, by rw [← heq, hp]; exact hr, by rw [← heq, hp]; omega, (hKp.trans hk1 (Nat.le_refl _)).trans hk (by omega)⟩
              simp only [Tryz.f486, resF]
            · rcases hex with rfl | rfl
              · exact ⟨e2 - a2, _, _, hlt2, rfl, a2, e2, lim' - 1, wb2, wp2, q2, rfl, hae2, by omega, by omega, by omega, hr2, by omega, by rw [← hp2]; exact heq, by omega, (hKp.trans hk1 (Nat.le_refl _)).trans hk2 (by omega), hsl2⟩
              · exact ⟨e2 - a2, _, _, hlt2, rfl, a2, e2, lim' - 1, wb2, wp2, q2, rfl, hae2, by omega, by omega, by omega, hr2, by omega, by rw [← hp2]; exact heq, by omega, (hKp.trans hk1 (Nat.le_refl _)).trans hk2 (by omega), hsl2⟩
    exact ⟨D', ha, h1, h2, h3⟩

/-! ### slices.Sort -/
noncomputable def zc7 : Code := Tryz.f434.body.getD .skip
theorem zc7_eq : Tryz.f434.body = some (.seq (sub zc7 [0]) (sub zc7 [1])) := by kernel_rfl
set_option maxHeartbeats 8000000 in
theorem run_sortB {D : Mem} {b : Nat} {d : Array UInt8} {x : Value} (h : RB D b d x) (hz : d.size < 50) : ∃ D', Ans tb1 434 [x] D (.tuple ⟨[]⟩) D' ∧ RB D' b (Go.Sort.sort ltB d) x ∧ (Go.Sort.sort ltB d).size = d.size ∧ Ku b (2 * d.size) D D' := by
  obtain ⟨v, D', ha, rfl, h1, h2, h3⟩ : ∃ v D', Ans tb1 434 [x] D v D' ∧ v = .tuple ⟨[]⟩ ∧ RB D' b (Go.Sort.sort ltB d) x ∧ (Go.Sort.sort ltB d).size = d.size ∧ Ku b (2 * d.size) D D' := by
    refine ans_of_W (fn_atX Tryz.func434) zc7_eq (by rw [Tryz.ntmps434]; simp) (by kernel_rfl) (by kernel_rfl) ?_
    have hbl : bitsLen d.size < 64 := by
      have : ∀ n ∈ List.range 50, bitsLen n < 64 := by decide +kernel
      exact this _ (List.mem_range.2 hz)
    obtain ⟨C1, ⟨g, hg⟩, hr1, hsz1, hk1⟩ := run_pdq b x (d.size + 1) (C := D) (a := 0) (e := d.size) (lim := bitsLen d.size) (q := d) (by omega) h (by omega) (Nat.le_refl _) hz hbl
    have zc1 := conv_u64 (t := 319) (n := d.size) und34 (by omega)
    have k1 := fun ih => kLen (ih := ih) (A := D) (n := d.size) (by omega)
    have ln := h.len
    apply W.seq
    apply W.run 20
    · intro M
      simp (config := { maxSteps := 4000000 }) (disch := first | decide +kernel | omega | simp only [Wq, Nat.reduceEqDiff]) only [zc7, Tryz.f434, Aq, Nat.ble, reduceIte, Nat.reduceEqDiff, Nat.reduceAdd, ln]
      with_reducible rfl
    show W tb1 _ _ _
    apply W.runG (g) 20
    · intro M hM
      simp (config := { maxSteps := 4000000 }) (disch := first | decide +kernel | omega | simp only [Wq, Nat.reduceEqDiff]) only [zc7, Tryz.f434, Aq, Nat.ble, reduceIte, Nat.reduceEqDiff, Nat.reduceAdd, zc1, k1, hg]
      with_reducible rfl
    refine ⟨.inl rfl, _, [], rfl, ?_, rfl, hr1, hsz1, hk1⟩
    simp only [Tryz.f434, resF]
  exact ⟨D', ha, h1, h2, h3⟩

/-! ### Keys of a map that were collected are sorted -/
def toB : Value → UInt8
  | .int _ (.ofNat n) => UInt8.ofNat n
  | _ => 0
theorem vals_toB : ∀ (l : List Value), (∀ y ∈ l, isU8V y = true) → vals (l.map toB).toArray = l
  | [], _ => rfl
  | y :: l, h => by
    have ih := vals_toB l fun z hz => h z (List.mem_cons_of_mem _ hz)
    obtain ⟨n, rfl⟩ := isU8_inv (h y (List.mem_cons_self ..))
    have hn := isU8_lt (h _ (List.mem_cons_self ..))
    unfold vals at ih ⊢
    simp only [List.map_cons, List.toList_toArray] at ih ⊢
    rw [ih]
    congr 1
    show Value.int .u8 (((UInt8.ofNat n).toNat : Nat) : Int) = .int .u8 ((n : Nat) : Int)
    rw [UInt8.toNat_ofNat', Nat.mod_eq_of_lt (by omega)]
theorem sortB_law (d : Array UInt8) : (vals (Go.Sort.sort ltB d)).Perm (vals d) ∧ SortedV ltU8V (vals (Go.Sort.sort ltB d)) := by
  obtain ⟨⟨h1, -, h2⟩, h3⟩ := sort_sorts ltB swoB d
  have e1 : (Go.Sort.sort ltB d).extract 0 d.size = Go.Sort.sort ltB d := by rw [← h1]; exact Array.extract_size
  rw [e1, Array.extract_size] at h2
  refine ⟨h2.map _, ?_⟩
  unfold SortedV vals
  rw [List.pairwise_map, List.pairwise_iff_getElem]
  intro i j hi hj hij
  have := h3 i j (Nat.zero_le _) hij (by rw [← h1]; simpa using hj)
  rw [Array.length_toList] at hi hj
  rw [getElem!_pos _ j hj, getElem!_pos _ i hi] at this
  show Nat.blt _ _ = false
  simp only [ltB, decide_eq_false_iff_not] at this
  rw [Array.getElem_toList, Array.getElem_toList]
  cases hx : Nat.blt ((Go.Sort.sort ltB d)[j]).toNat ((Go.Sort.sort ltB d)[i]).toNat with
  | false => rfl
  | true => rw [Nat.blt_eq] at hx; exact absurd hx this
theorem run_sort {l : List Value} {b : Nat} {x : Value} {A : Mem} (h : RowS A 5 b l x) (hk : ∀ y ∈ l, isU8V y = true) (hn : l.length ≤ 49) :
    ∃ A' l', Ans tb1 434 [x] A (.tuple ⟨[]⟩) A' ∧ l'.Perm l ∧ SortedV ltU8V l' ∧ RowS A' 5 b l' x ∧ (A.next ≤ A'.next ∧ A'.next ≤ A.next + 2 * l.length) ∧ ∀ y, y < A.next → y ≠ b → A'.get y = A.get y := by
  have hv := vals_toB l hk
  have hs : ((l.map toB).toArray).size = l.length := by simp
  generalize (l.map toB).toArray = d at hv hs
  have hr : RB A b d x := by
    rcases h with ⟨h1, h2⟩ | ⟨h0, h1, h2, h3⟩
    · exact .inl ⟨h1, by rw [hs, h2]; rfl⟩
    · exact .inr ⟨_, by rw [hs]; exact h1, h2, by rw [hv]; exact h3⟩
  obtain ⟨A', ha, hr', hsz, hk'⟩ := run_sortB hr (by omega)
  obtain ⟨hp, hso⟩ := sortB_law d
  have hl' : (vals (Go.Sort.sort ltB d)).length = l.length := by rw [hp.length_eq, hv]
  refine ⟨A', vals (Go.Sort.sort ltB d), ha, by rw [hv] at hp; exact hp, hso, ?_, ⟨hk'.n, by have := hk'.u; omega⟩, hk'.g⟩
  rcases h with ⟨h1, h2⟩ | ⟨h0, h1, h2, h3⟩
  · refine .inl ⟨h1, List.length_eq_zero_iff.1 ?_⟩
    rw [hl', h2]; rfl
  · refine .inr ⟨fun e => h0 (List.length_eq_zero_iff.1 ?_), by rw [hl']; exact h1, Nat.lt_of_lt_of_le h2 hk'.n, ?_⟩
    · rw [← hl', e]; rfl
    · rcases hr' with ⟨e, -⟩ | ⟨c, -, -, hvv⟩
      · rw [h1] at e; cases e
      · exact hvv
theorem undK : tb1.und 5 = some (.int .u8) := by kernel_rfl
theorem undS : tb1.und 34 = some (.slice 5) := by kernel_rfl
theorem size1 : sizeF tb1 5 = .ok 1 := by kernel_rfl
theorem sizeS : sizeF tb1 34 = .ok 1 := by kernel_rfl
theorem zcK : zcellsF tb1 5 = .ok (1, [.int .u8 0]) := by kernel_rfl
theorem tyK : ∃ i, tb1.ty.get 5 = some i ∧ 0 < i.bytes ∧ i.bytes ≤ 16 := by
  have h : (tb1.ty.get 5).map (fun i => Nat.blt 0 i.bytes && Nat.ble i.bytes 16) = some true := by kernel_rfl
  cases hq : tb1.ty.get 5 with
  | none => rw [hq] at h; cases h
  | some i =>
    rw [hq] at h
    simp only [Option.map_some, Option.some.injEq, Bool.and_eq_true, Nat.blt_eq] at h
    exact ⟨i, rfl, h.1, Nat.le_of_ble_eq_true h.2⟩
theorem neq_self {x : Value} (hx : isU8V x = true) : binF .neq (some (.int .u8)) x x = .ok (.bool false) := by
  obtain ⟨n, rfl⟩ := isU8_inv hx
  show binF .neq (some (.int .u8)) (.int .u8 (n : Int)) (.int .u8 (n : Int)) = _
  rw [binF_int (by simp) (by simp), op_neq]
  simp
theorem lss_key {x y : Value} (hx : isU8V x = true) (hy : isU8V y = true) : binF .lss (some (.int .u8)) x y = .ok (.bool (ltU8V x y)) := by
  obtain ⟨n, rfl⟩ := isU8_inv hx
  obtain ⟨m, rfl⟩ := isU8_inv hy
  show binF .lss (some (.int .u8)) (.int .u8 (n : Int)) (.int .u8 (m : Int)) = .ok (.bool (Nat.blt n m))
  rw [binF_int (by simp) (by simp), op_lss]
  congr 2
  cases h : Nat.blt n m with
  | true => rw [Nat.blt_eq] at h; simp [h]
  | false =>
    have : ¬ n < m := by rw [← Nat.blt_eq, h]; simp
    simp [this]

theorem key_cells {x : Value} (h : isU8V x = true) : x.cells.toList = [x] ∧ oneCell x = true := by
  unfold isU8V at h
  split at h
  · exact ⟨rfl, rfl⟩
  · cases h
theorem run_srt {l : List Value} {b : Nat} {x : Value} {A : Mem} (h : RowS A 5 b l x) (hk : ∀ y ∈ l, isU8V y = true) (hn : l.length ≤ 49) :
    ∃ A' l', Ans tb1 434 [x] A (.tuple ⟨[]⟩) A' ∧ l'.Perm l ∧ SortedV ltU8V l' ∧ RowS A' 5 b l' x ∧ (A.next ≤ A'.next ∧ A'.next ≤ A.next + 2 * l.length) ∧ ∀ y, y < A.next → y ≠ b → A'.get y = A.get y := run_sort h hk hn
/-! ### The keys come, one by one -/
noncomputable def c485 : Code := Tryz.f485.body.getD .skip
theorem c485_eq : Tryz.f485.body = some (.seq (sub c485 [0]) (.seq (.seq (sub c485 [1,0,0]) (.block 0 (.rangeFunc (.tmp 6) #[7] (sub c485 [1,0,1,0,0]) (sub c485 [1,0,1,0,1])))) (.seq (sub c485 [1,1,0]) .ret))) := by kernel_rfl
theorem bsK (v : Value) (hv : isU8V v = true) : buildSliceF tb1 34 1 [(0, v)] = .ok (rowOb 5 [v], .slc 1 2) := by
  obtain ⟨n, rfl⟩ := isU8_inv hv
  kernel_rfl
/-- Memory in the loop that appends. -/
structure AppM (A : Mem) (t0 : T Value) (done : List Value) (C : Mem) : Prop where
  hn : C.next = A.next + (2 * done.length + 4)
  hd : C.get (A.next + 1) = some .defd
  hl : C.get (A.next + 2) = some (.loop (loop0 t0 13 [7] (sub c485 [1,0,1,0,0]) (sub c485 [1,0,1,0,1]) (A.next + 1)))
  hx : ∃ x, RowS C 5 (A.next + (2 * done.length + 3)) done x ∧ Vals C 34 A.next (.var 1) [x]
  hf : ∀ y, y < A.next → C.get y = A.get y
set_option maxHeartbeats 2000000 in
theorem app_round {A : Mem} {t0 : T Value} {done : List Value} {C : Mem} (h2 : t0.get 2 = some (.pointer (some ⟨A.next, 0, none⟩))) (hC : AppM A t0 done C) (hlen : done.length ≤ 49) {v : Value} (hv : isU8V v = true) :
    ∃ C', (∃ g, ∀ M, g ≤ M → callF tb1 (exec tb1 M) (.round (A.next + 2) [v]) C = .ok (.val (.bool true) C')) ∧ AppM A t0 (done ++ [v]) C' := by
  obtain ⟨x, hs, hvx⟩ := hC.hx
  have hCn := hC.hn
  refine round_of_W hC.hl (t := t0.set 7 v) rfl ?_
  show W tb1 (sub c485 [1,0,1,0,0]) ⟨t0.set 7 v, 13, [], C, some (A.next + 2)⟩ _
  apply W.run 20
  · intro M
    simp (config := { maxSteps := 4000000 }) (disch := first | decide +kernel | omega | simp only [Wq, Nat.reduceEqDiff]) only [c485, Tryz.f485, Aq, Nat.ble, reduceIte, Nat.reduceEqDiff, Nat.reduceAdd]
    with_reducible rfl
  refine ⟨rfl, _, hC.hl, rfl, ?_⟩
  show W tb1 (sub c485 [1,0,1,0,1]) ⟨_, 13, [], C.set (A.next + 2) (.loop { (loop0 t0 13 [7] (sub c485 [1,0,1,0,0]) (sub c485 [1,0,1,0,1]) (A.next + 1)) with state := .busy }), some (A.next + 2)⟩ _
  have hn0 : (C.set (A.next + 2) (.loop { (loop0 t0 13 [7] (sub c485 [1,0,1,0,0]) (sub c485 [1,0,1,0,1]) (A.next + 1)) with state := .busy })).next = C.next := next_set _ _ _
  have hg0 : ∀ y, y ≠ A.next + 2 → (C.set (A.next + 2) (.loop { (loop0 t0 13 [7] (sub c485 [1,0,1,0,0]) (sub c485 [1,0,1,0,1]) (A.next + 1)) with state := .busy })).get y = C.get y := fun y hy => by rw [get_setMem, if_neg hy]
  have hl0 : (C.set (A.next + 2) (.loop { (loop0 t0 13 [7] (sub c485 [1,0,1,0,0]) (sub c485 [1,0,1,0,1]) (A.next + 1)) with state := .busy })).get (A.next + 2) = some (.loop { (loop0 t0 13 [7] (sub c485 [1,0,1,0,0]) (sub c485 [1,0,1,0,1]) (A.next + 1)) with state := .busy }) := by rw [get_setMem, if_pos rfl]
  revert hn0 hg0 hl0
  generalize C.set (A.next + 2) (.loop { (loop0 t0 13 [7] (sub c485 [1,0,1,0,0]) (sub c485 [1,0,1,0,1]) (A.next + 1)) with state := .busy }) = E
  intro hn0 hg0 hl0
  have hvE : Vals E 34 A.next (.var 1) [x] := hvx.same (hg0 A.next (by omega))
  have hsE : RowS E 5 (A.next + (2 * done.length + 3)) done x := hs.same (by omega) (fun _ => hg0 _ (by omega))
  have lx := load_box (tb := tb1) undS rfl hvE
  have hE2 := More.alloc E (rowOb 5 [v])
  obtain ⟨ti, ht1, ht2, ht3⟩ := tyK
  obtain ⟨x', E3, happ, hs3, hn3, hf3⟩ := (hsE.same hE2.n (fun hb => hE2.g _ hb)).append (tb := tb1) (st := 34) (xt := 34) undS undS zcK ht1 ht2 (by omega) (by omega) (get_alloc_self E _) (key_cells hv).2
  have hn2 : (E.alloc (rowOb 5 [v])).next = E.next + 1 := next_alloc _ _
  have hv3 : Vals E3 34 A.next (.var 1) [x] := hvE.same (by rw [hf3 A.next (by omega) (by omega), hE2.g A.next (by omega)])
  obtain ⟨E4, hst, hv4, hn4, hf4⟩ := store_box (tb := tb1) (t := 34) sizeS hv3 hs3.slc.cells hs3.slc.one
  have hfr : ∀ y, y ≠ A.next + (2 * done.length + 3) → y ≠ A.next → y < E.next → E4.get y = E.get y := fun y h1 h2 h3 => by rw [hf4 y h2, hf3 y h1 (by omega), hE2.g y h3]
  have hbs := bsK v hv
  apply W.run 20
  · intro M
    simp (config := { maxSteps := 4000000 }) (disch := first | decide +kernel | omega | simp only [Wq, Nat.reduceEqDiff]) only [c485, Tryz.f485, Aq, Nat.ble, reduceIte, Nat.reduceEqDiff, Nat.reduceAdd, h2, lx, hbs, happ, hst]
    with_reducible rfl
  refine ⟨rfl, rfl, _, by rw [hfr _ (by omega) (by omega) (by omega)]; exact hl0, ⟨?_, ?_, ?_, ⟨x', ?_, ?_⟩, ?_⟩⟩
  · rw [next_set, List.length_append]; show E4.next = A.next + (2 * (done.length + 1) + 4); omega
  · show Mem.get _ (A.next + 1) = _
    rw [get_setMem, if_neg (by omega), hfr _ (by omega) (by omega) (by omega), hg0 _ (by omega)]; exact hC.hd
  · show Mem.get _ (A.next + 2) = _
    rw [get_setMem, if_pos rfl]; rfl
  · have hb3 : (E.alloc (rowOb 5 [v])).next = A.next + (2 * (done ++ [v]).length + 3) := by
      rw [hn2, List.length_append]; show E.next + 1 = A.next + (2 * (done.length + 1) + 3); omega
    rw [hb3] at hs3
    refine hs3.same (by rw [next_set]; show E3.next ≤ E4.next; omega) (fun _ => ?_)
    show Mem.get _ _ = _
    rw [get_setMem, if_neg (by rw [List.length_append]; show A.next + (2 * (done.length + 1) + 3) ≠ _; omega), hf4 _ (by rw [List.length_append]; show A.next + (2 * (done.length + 1) + 3) ≠ _; omega)]
  · refine hv4.same ?_
    show Mem.get _ A.next = _
    rw [get_setMem, if_neg (by omega)]
  · intro y hy
    show Mem.get _ y = _
    rw [get_setMem, if_neg (by omega), hfr y (by omega) (by omega) (by omega), hg0 y (by omega)]
    exact hC.hf y hy

noncomputable def c435 : Code := Tryz.f435.body.getD .skip
noncomputable def k435 : KeysF := { f := 435, fn := Tryz.f435, tM := mapT (sub c435 [0]), tK := mapK tb1 (mapT (sub c435 [0])), tV := mapV tb1 (mapT (sub c435 [0])), i0 := 0, i1 := 1, i2 := 2, oL := opAt (sub c435 [0]) 0, oR := opAt (sub c435 [0]) 1, oN := opAt (sub c435 [1,0,0,0]) 0, oX := opAt (sub c435 [1,0,0,0]) 1, oE := opAt (sub c435 [1,0,0,1,1,0,0]) 0, oX2 := opAt (sub c435 [1,0,0,1,1,0,0]) 1, oA := opAt (sub c435 [1,0,0,1,1,0,0]) 2, cT := sub c435 [1,0,0,1,1,0,1] }
theorem k435_ok : KeysOk tb1 k435 where
  hf := fn_atX Tryz.func435
  hb := by kernel_rfl
  hL := ⟨by kernel_rfl, by kernel_rfl, by kernel_rfl⟩
  hR := ⟨by kernel_rfl, by kernel_rfl, by kernel_rfl⟩
  hN := ⟨by kernel_rfl, by kernel_rfl, by kernel_rfl⟩
  hX := ⟨by kernel_rfl, by kernel_rfl, by kernel_rfl⟩
  hE := ⟨by kernel_rfl, by kernel_rfl, by kernel_rfl⟩
  hX2 := ⟨by kernel_rfl, by kernel_rfl, by kernel_rfl⟩
  hA := ⟨by kernel_rfl, by kernel_rfl, by kernel_rfl⟩
  hn := by kernel_rfl
  hng := by kernel_rfl
  hres := by kernel_rfl
  hu := by kernel_rfl
theorem k435_step : ∀ yv itA (t : T Value) (C C' : Mem) (key : Value), t.get 0 = some yv → t.get 3 = some key → t.get 5 = some (.pointer (some ⟨itA, 0, none⟩)) → yv = .func (.yield (itA - 1)) ⟨[]⟩ ⟨[]⟩ → (∃ g, ∀ M, g ≤ M → callF tb1 (exec tb1 M) (.round (itA - 1) [key]) C = .ok (.val (.bool true) C')) →
      W tb1 k435.cT ⟨t, 14, [], C, none⟩ fun e s' => e = .nrm ∧ s'.m = C' ∧ KSt yv itA s' := by
  rintro yv itA t C C' key h0 h3 h5 rfl ⟨g, hg⟩
  show W tb1 (sub c435 [1,0,0,1,1,0,1]) _ _
  apply W.runG (g) 20
  · intro M hM
    simp (config := { maxSteps := 4000000 }) (disch := first | decide +kernel | omega | simp only [Wq, Nat.reduceEqDiff]) only [c435, Tryz.f435, Aq, Nat.ble, reduceIte, Nat.reduceEqDiff, Nat.reduceAdd, h0, h3, hg]
    with_reducible rfl
  refine ⟨rfl, rfl, rfl, rfl, rfl, ?_, ?_⟩
  · simp only [T.get_set, Nat.reduceEqDiff, if_false, h0]
  · simp only [T.get_set, Nat.reduceEqDiff, if_false, h5]
noncomputable def c573 : Code := Tryz.f573.body.getD .skip
noncomputable def k573 : KeysF := { f := 573, fn := Tryz.f573, tM := mapT (sub c573 [0]), tK := mapK tb1 (mapT (sub c573 [0])), tV := mapV tb1 (mapT (sub c573 [0])), i0 := 0, i1 := 1, i2 := 2, oL := opAt (sub c573 [0]) 0, oR := opAt (sub c573 [0]) 1, oN := opAt (sub c573 [1,0,0,0]) 0, oX := opAt (sub c573 [1,0,0,0]) 1, oE := opAt (sub c573 [1,0,0,1,1,0,0]) 0, oX2 := opAt (sub c573 [1,0,0,1,1,0,0]) 1, oA := opAt (sub c573 [1,0,0,1,1,0,0]) 2, cT := sub c573 [1,0,0,1,1,0,1] }
theorem k573_ok : KeysOk tb1 k573 where
  hf := fn_atX Tryz.func573
  hb := by kernel_rfl
  hL := ⟨by kernel_rfl, by kernel_rfl, by kernel_rfl⟩
  hR := ⟨by kernel_rfl, by kernel_rfl, by kernel_rfl⟩
  hN := ⟨by kernel_rfl, by kernel_rfl, by kernel_rfl⟩
  hX := ⟨by kernel_rfl, by kernel_rfl, by kernel_rfl⟩
  hE := ⟨by kernel_rfl, by kernel_rfl, by kernel_rfl⟩
  hX2 := ⟨by kernel_rfl, by kernel_rfl, by kernel_rfl⟩
  hA := ⟨by kernel_rfl, by kernel_rfl, by kernel_rfl⟩
  hn := by kernel_rfl
  hng := by kernel_rfl
  hres := by kernel_rfl
  hu := by kernel_rfl
theorem k573_step : ∀ yv itA (t : T Value) (C C' : Mem) (key : Value), t.get 0 = some yv → t.get 3 = some key → t.get 5 = some (.pointer (some ⟨itA, 0, none⟩)) → yv = .func (.yield (itA - 1)) ⟨[]⟩ ⟨[]⟩ → (∃ g, ∀ M, g ≤ M → callF tb1 (exec tb1 M) (.round (itA - 1) [key]) C = .ok (.val (.bool true) C')) →
      W tb1 k573.cT ⟨t, 14, [], C, none⟩ fun e s' => e = .nrm ∧ s'.m = C' ∧ KSt yv itA s' := by
  rintro yv itA t C C' key h0 h3 h5 rfl ⟨g, hg⟩
  show W tb1 (sub c573 [1,0,0,1,1,0,1]) _ _
  apply W.runG (g) 20
  · intro M hM
    simp (config := { maxSteps := 4000000 }) (disch := first | decide +kernel | omega | simp only [Wq, Nat.reduceEqDiff]) only [c573, Tryz.f573, Aq, Nat.ble, reduceIte, Nat.reduceEqDiff, Nat.reduceAdd, h0, h3, hg]
    with_reducible rfl
  refine ⟨rfl, rfl, rfl, rfl, rfl, ?_, ?_⟩
  · simp only [T.get_set, Nat.reduceEqDiff, if_false, h0]
  · simp only [T.get_set, Nat.reduceEqDiff, if_false, h5]


/-! ### All together -/
theorem rcall_app {D : KeysF} (hD : KeysOk tb1 D) (hcT : ∀ yv itA (t : T Value) (C C' : Mem) (key : Value), t.get 0 = some yv → t.get 3 = some key → t.get 5 = some (.pointer (some ⟨itA, 0, none⟩)) → yv = .func (.yield (itA - 1)) ⟨[]⟩ ⟨[]⟩ → (∃ g, ∀ M, g ≤ M → callF tb1 (exec tb1 M) (.round (itA - 1) [key]) C = .ok (.val (.bool true) C')) →
      W tb1 D.cT ⟨t, 14, [], C, none⟩ fun e s' => e = .nrm ∧ s'.m = C' ∧ KSt yv itA s')
    {A : Mem} {bp clock : Nat} {mv : Value} {es : List MapEntry} (hbox : loadF tb1 A.get D.tM (.pointer (some ⟨bp, 0, none⟩)) = .ok mv) (hbp : bp < A.next) (hm : MapV A mv es clock) (hlt : ∀ e ∈ es, e.born < clock) (hnd : (es.map (·.born)).Nodup) (hlen : es.length ≤ 49) (hk : ∀ e ∈ es, isU8V e.key = true) :
    RCall (A.next + (2 * es.length + 4)) tb1.P (.fn 485 [.slice none 0 0, .func (.func D.f) ⟨[]⟩ ⟨[.pointer (some ⟨bp, 0, none⟩)]⟩]) A fun v A' => A'.next = A.next + (2 * es.length + 4) ∧ (∀ y, y < A.next → A'.get y = A.get y) ∧ ∃ l', l'.Perm (es.map (·.key)) ∧ RowS A' 5 (A.next + (2 * es.length + 3)) l' v := by
  refine RCall.fn (fn_atX Tryz.func485) c485_eq (by kernel_rfl) (by rw [Tryz.ntmps485]; simp) tb1_ok ?_
  apply RC.seq
  apply RC.of_W tb1_ok
  have hv1 : Vals (A.alloc (rowOb 34 [.slice none 0 0])) 34 A.next (.var 1) [.slice none 0 0] := vals_box (get_alloc_self _ _)
  have hn1 : (A.alloc (rowOb 34 [.slice none 0 0])).next = A.next + 1 := next_alloc _ _
  have hg1 : ∀ y, y < A.next → (A.alloc (rowOb 34 [.slice none 0 0])).get y = A.get y := fun y hy => get_alloc_ne (by omega)
  revert hv1 hn1 hg1
  generalize hA1 : A.alloc (rowOb 34 [.slice none 0 0]) = A1
  intro hv1 hn1 hg1
  apply W.run 20
  · intro M
    simp (config := { maxSteps := 4000000 }) (disch := first | decide +kernel | omega | simp only [Wq, Nat.reduceEqDiff]) only [c485, Tryz.f485, Aq, Nat.ble, reduceIte, Nat.reduceEqDiff, Nat.reduceAdd, hA1]
    with_reducible rfl
  refine ⟨(fun _ h => by cases h), by show A1.next ≤ _; omega, ?_⟩
  apply RC.seq
  apply RC.seq
  apply RC.of_W tb1_ok
  apply W.run 20
  · intro M
    simp (config := { maxSteps := 4000000 }) (disch := first | decide +kernel | omega | simp only [Wq, Nat.reduceEqDiff]) only [c485, Tryz.f485, Aq, Nat.ble, reduceIte, Nat.reduceEqDiff, Nat.reduceAdd]
    with_reducible rfl
  refine ⟨(fun _ h => by cases h), by show A1.next ≤ _; omega, ?_⟩
  show RC _ _ _ _ _
  apply RC.block
  generalize hT : (((((T.e : T Value).set 0 _).set 1 _).set 2 _).set 4 _).set 6 _ = t0
  have t2 : t0.get 2 = some (.pointer (some ⟨A.next, 0, none⟩)) := by rw [← hT]; simp [T.get_set]
  have t6 : t0.get 6 = some (.func (.func D.f) ⟨[]⟩ ⟨[.pointer (some ⟨bp, 0, none⟩)]⟩) := by rw [← hT]; simp [T.get_set]
  refine RC.rangeF tb1_ok (fv := .func (.func D.f) ⟨[]⟩ ⟨[.pointer (some ⟨bp, 0, none⟩)]⟩) (cl := .fn D.f [.func (.yield (A1.next + 1)) ⟨[]⟩ ⟨[]⟩, .pointer (some ⟨bp, 0, none⟩)]) (by show A1.next + 2 ≤ _; omega) rfl (by show ev t0 (.tmp 6) = _; rw [ev_tmp, t6]; rfl) rfl ?_
  show RCall _ _ (.fn D.f [.func (.yield (A1.next + 1)) ⟨[]⟩ ⟨[]⟩, .pointer (some ⟨bp, 0, none⟩)]) ((A1.alloc .defd).alloc (.loop (loop0 t0 13 [7] (sub c485 [1,0,1,0,0]) (sub c485 [1,0,1,0,1]) A1.next))) _
  have hn2 : ((A1.alloc .defd).alloc (.loop (loop0 t0 13 [7] (sub c485 [1,0,1,0,0]) (sub c485 [1,0,1,0,1]) A1.next))).next = A.next + 3 := by rw [next_alloc, next_alloc]; omega
  have hg2 : ∀ y, y < A.next → ((A1.alloc .defd).alloc (.loop (loop0 t0 13 [7] (sub c485 [1,0,1,0,0]) (sub c485 [1,0,1,0,1]) A1.next))).get y = A.get y := fun y hy => by
    rw [get_alloc_ne (by rw [next_alloc]; omega), get_alloc_ne (by omega), hg1 y hy]
  have hd2 : ((A1.alloc .defd).alloc (.loop (loop0 t0 13 [7] (sub c485 [1,0,1,0,0]) (sub c485 [1,0,1,0,1]) A1.next))).get (A.next + 1) = some .defd := by
    rw [get_alloc_ne (by rw [next_alloc]; omega), ← hn1, get_alloc_self]
  have hl2 : ((A1.alloc .defd).alloc (.loop (loop0 t0 13 [7] (sub c485 [1,0,1,0,0]) (sub c485 [1,0,1,0,1]) A1.next))).get (A.next + 2) = some (.loop (loop0 t0 13 [7] (sub c485 [1,0,1,0,0]) (sub c485 [1,0,1,0,1]) (A.next + 1))) := by
    have e : A.next + 2 = (A1.alloc .defd).next := by rw [next_alloc]; omega
    rw [e, get_alloc_self, hn1]
  have hx2 : Vals ((A1.alloc .defd).alloc (.loop (loop0 t0 13 [7] (sub c485 [1,0,1,0,0]) (sub c485 [1,0,1,0,1]) A1.next))) 34 A.next (.var 1) [.slice none 0 0] := hv1.same (by rw [get_alloc_ne (by rw [next_alloc]; omega), get_alloc_ne (by omega)])
  rw [hn1]
  rw [hn1] at hn2 hg2 hd2 hl2 hx2
  revert hn2 hg2 hd2 hl2 hx2
  generalize (A1.alloc .defd).alloc (.loop (loop0 t0 13 [7] (sub c485 [1,0,1,0,0]) (sub c485 [1,0,1,0,1]) (A.next + 1))) = B
  intro hn2 hg2 hd2 hl2 hx2
  have hkeys := keys_callV tb1_ok hD (N := A.next + (2 * es.length + 4)) (yv := .func (.yield (A.next + 2)) ⟨[]⟩ ⟨[]⟩) (mv := mv) (bp := bp) (clock := clock) (A := B) (es := es)
    (fun done C => done.length ≤ es.length ∧ (∀ e ∈ done, isU8V e.key = true) ∧ AppM A t0 (done.map (·.key)) C)
    (by rw [load_same (hg2 bp hbp)]; exact hbox) (hm.same (by omega) hg2) hlt hnd
    ⟨Nat.zero_le _, (fun _ h => by cases h), ⟨by rw [next_alloc, hn2]; rfl, by rw [get_alloc_ne (by omega)]; exact hd2, by rw [get_alloc_ne (by omega)]; exact hl2, ⟨.slice none 0 0, .inl ⟨rfl, rfl⟩, hx2.same (get_alloc_ne (by omega))⟩, fun y hy => by rw [get_alloc_ne (by omega), hg2 y hy]⟩⟩
    (fun done C h => hm.same (by have := h.2.2.hn; omega) h.2.2.hf)
    (fun done C h => by have := h.2.2.hn; rw [List.length_map] at this; have := h.1; omega)
    (fun done e s h he hdl hks h3 => by
      obtain ⟨t, n, d, C, ro⟩ := s
      obtain ⟨rfl, rfl, rfl, hy, hi⟩ := hks
      obtain ⟨C', hcall, hC'⟩ := app_round t2 h.2.2 (by rw [List.length_map]; omega) (hk e he)
      obtain ⟨e', s', ⟨f, hf⟩, rfl, hm, hks'⟩ := hcT _ B.next t C C' e.key hy h3 hi (by rw [hn2]; rfl) (by rw [hn2]; exact hcall)
      refine ⟨0 + f, s', hf 0, ⟨by rw [List.length_append]; show done.length + 1 ≤ _; omega, fun e' he' => ?_, ?_⟩, hks'⟩
      · rcases List.mem_append.1 he' with he' | he'
        · exact h.2.1 e' he'
        · simp only [List.mem_singleton] at he'; rw [he']; exact hk e he
      · rw [hm, List.map_append]; exact hC')
  intro ι w s fr cs hr hcl ht
  obtain ⟨v, A', ι', w', v', ⟨rfl, done, hp, hdl, hdk, hM⟩, hnA, rest⟩ := hkeys ι w s fr cs hr hcl ht
  refine ⟨_, A', ι', w', v', ⟨_, hM.hl, by simp [loop0], rfl, ?_⟩, hnA, rest⟩
  have hlen2 : done.length = es.length := hp.length_eq
  obtain ⟨x, hrow, hvx⟩ := hM.hx
  refine ⟨rfl, ?_⟩
  have hM' : ∀ y, y ≠ A.next + 2 → (A'.set (A.next + 2) (.loop { (loop0 t0 13 [7] (sub c485 [1,0,1,0,0]) (sub c485 [1,0,1,0,1]) (A.next + 1)) with state := .exhausted })).get y = A'.get y := fun y hy => by rw [get_setMem, if_neg hy]
  have hnM : (A'.set (A.next + 2) (.loop { (loop0 t0 13 [7] (sub c485 [1,0,1,0,0]) (sub c485 [1,0,1,0,1]) (A.next + 1)) with state := .exhausted })).next = A'.next := next_set _ _ _
  show RC _ _ _ ⟨t0, 13, [A.next + 1], A'.set (A.next + 2) (.loop { (loop0 t0 13 [7] (sub c485 [1,0,1,0,0]) (sub c485 [1,0,1,0,1]) (A.next + 1)) with state := .exhausted }), none⟩ _
  revert hM' hnM
  generalize A'.set (A.next + 2) (.loop { (loop0 t0 13 [7] (sub c485 [1,0,1,0,0]) (sub c485 [1,0,1,0,1]) (A.next + 1)) with state := .exhausted }) = E
  intro hM' hnM
  have hMn := hM.hn
  rw [List.length_map, hlen2] at hMn hrow
  apply RC.seq
  apply RC.of_W tb1_ok
  have lx := load_box (tb := tb1) undS rfl (hvx.same (hM' A.next (by omega)))
  apply W.run 20
  · intro M
    simp (config := { maxSteps := 4000000 }) (disch := first | decide +kernel | omega | simp only [Wq, Nat.reduceEqDiff]) only [c485, Tryz.f485, Aq, Nat.ble, reduceIte, Nat.reduceEqDiff, Nat.reduceAdd, t2, lx]
    with_reducible rfl
  refine ⟨(fun _ h => by cases h), by show E.next ≤ _; omega, ?_⟩
  show RC _ _ _ _ _
  apply RC.of_W tb1_ok
  apply W.run 20
  · intro M
    simp (config := { maxSteps := 4000000 }) (disch := first | decide +kernel | omega | simp only [Wq, Nat.reduceEqDiff]) only [c485, Tryz.f485, Aq, Nat.ble, reduceIte, Nat.reduceEqDiff, Nat.reduceAdd]
    with_reducible rfl
  refine ⟨(fun _ h => by cases h), by show E.next ≤ _; omega, .inr rfl, E.set (A.next + 1) .dead, [x], ?_, ?_, ?_⟩
  · show takeF [A.next + 1] E = _
    unfold takeF
    rw [hM' _ (by omega), hM.hd]
    rfl
  · show (evG (((t0.set 12 x).set 4 x).get 4)).bind (fun v => R.ok [v]) = _
    rw [T.get_set, if_pos rfl]
    rfl
  · have hE : ∀ y, y ≠ A.next + 1 → (E.set (A.next + 1) .dead).get y = E.get y := fun y hy => by rw [get_setMem, if_neg hy]
    refine ⟨by rw [next_set]; omega, fun y hy => by rw [hE y (by omega), hM' y (by omega), hM.hf y hy], done.map (·.key), hp.map _, ?_⟩
    exact hrow.same (by rw [next_set]; omega) (fun _ => by rw [hE _ (by omega), hM' _ (by omega)])

noncomputable def c433 : Code := Tryz.f433.body.getD .skip
theorem c433_eq : Tryz.f433.body = some (.seq (sub c433 [0]) (.seq (.region 1 #[opAt (sub c433 [1,0]) 0, opAt (sub c433 [1,0]) 1, opAt (sub c433 [1,0]) 2] false) .ret)) := by kernel_rfl
noncomputable def c375 : Code := Tryz.f375.body.getD .skip
theorem c375_eq : Tryz.f375.body = some (.seq (sub c375 [0]) (.seq (.region 1 #[opAt (sub c375 [1,0]) 0, opAt (sub c375 [1,0]) 1, opAt (sub c375 [1,0]) 2] false) (.seq (sub c375 [1,1,0]) (.seq (sub c375 [1,1,1,0]) .ret)))) := by kernel_rfl

/-- The seat's own text of a loop over a map's keys goes on with each. -/
def StepSays (D : KeysF) : Prop := ∀ yv itA (t : T Value) (C C' : Mem) (key : Value), t.get 0 = some yv → t.get 3 = some key → t.get 5 = some (.pointer (some ⟨itA, 0, none⟩)) → yv = .func (.yield (itA - 1)) ⟨[]⟩ ⟨[]⟩ → (∃ g, ∀ M, g ≤ M → callF tb1 (exec tb1 M) (.round (itA - 1) [key]) C = .ok (.val (.bool true) C')) →
  W tb1 D.cT ⟨t, 14, [], C, none⟩ fun e s' => e = .nrm ∧ s'.m = C' ∧ KSt yv itA s'
theorem rcall_coll {D : KeysF} (hD : KeysOk tb1 D) (hcT : StepSays D)
    {A : Mem} {bp clock : Nat} {mv : Value} {es : List MapEntry} (hbox : loadF tb1 A.get D.tM (.pointer (some ⟨bp, 0, none⟩)) = .ok mv) (hbp : bp < A.next) (hm : MapV A mv es clock) (hlt : ∀ e ∈ es, e.born < clock) (hnd : (es.map (·.born)).Nodup) (hlen : es.length ≤ 49) (hk : ∀ e ∈ es, isU8V e.key = true) :
    RCall (A.next + (2 * es.length + 4)) tb1.P (.fn 433 [.func (.func D.f) ⟨[]⟩ ⟨[.pointer (some ⟨bp, 0, none⟩)]⟩]) A fun v A' => A'.next = A.next + (2 * es.length + 4) ∧ (∀ y, y < A.next → A'.get y = A.get y) ∧ ∃ l', l'.Perm (es.map (·.key)) ∧ RowS A' 5 (A.next + (2 * es.length + 3)) l' v := by
  refine RCall.fn (fn_atX Tryz.func433) c433_eq (by kernel_rfl) (by rw [Tryz.ntmps433]; simp) tb1_ok ?_
  apply RC.seq
  apply RC.of_W tb1_ok
  apply W.run 20
  · intro M
    simp (config := { maxSteps := 4000000 }) (disch := first | decide +kernel | omega | simp only [Wq, Nat.reduceEqDiff]) only [c433, Tryz.f433, Aq, Nat.ble, reduceIte, Nat.reduceEqDiff, Nat.reduceAdd]
    with_reducible rfl
  refine ⟨(fun _ h => by cases h), by show A.next ≤ _; omega, ?_⟩
  show RC _ _ _ _ _
  generalize hT : ((T.e : T Value).set 0 _).set 2 _ = t0
  have t2 : t0.get 0 = some (.func (.func D.f) ⟨[]⟩ ⟨[.pointer (some ⟨bp, 0, none⟩)]⟩) := by rw [← hT]; simp [T.get_set]
  apply RC.seq
  apply RC.region
  show ROps _ _ _ [0, 1, 2] _ _
  refine ROps.one rfl (by kernel_rfl) (opP tb1_ok (op := .move (.tmp 0)) (d := 3) (by kernel_rfl) (by kernel_rfl) (by kernel_rfl) (by show 3 < 5; omega) rfl rfl (v := .func (.func D.f) ⟨[]⟩ ⟨[.pointer (some ⟨bp, 0, none⟩)]⟩) ?_) (by show A.next ≤ _; omega) ?_
  · show evG (t0.get 0) = _
    rw [t2]; rfl
  have t3 : (t0.set 3 (.func (.func D.f) ⟨[]⟩ ⟨[.pointer (some ⟨bp, 0, none⟩)]⟩)).get 3 = some (.func (.func D.f) ⟨[]⟩ ⟨[.pointer (some ⟨bp, 0, none⟩)]⟩) := by rw [T.get_set, if_pos rfl]
  show ROps _ _ _ _ ⟨t0.set 3 (.func (.func D.f) ⟨[]⟩ ⟨[.pointer (some ⟨bp, 0, none⟩)]⟩), 5, [], A, none⟩ _
  have hdst : (opAt (sub c433 [1,0]) 1).dst = some 4 := by kernel_rfl
  refine ROps.callD (o := opAt (sub c433 [1,0]) 1) tb1_ok rfl (by kernel_rfl) (c := { callee := .value (.func 485), args := #[.const (.slice none 0 0), .tmp 3], argTypes := #[34, 477] }) (by kernel_rfl) (cl := .fn 485 [.slice none 0 0, .func (.func D.f) ⟨[]⟩ ⟨[.pointer (some ⟨bp, 0, none⟩)]⟩]) ?_ hdst (by show (4 : Nat) < 5; decide) ?_
  · show ((ev _ (.const (.slice none 0 0))).bind fun v => ((ev _ (.tmp 3)).bind fun v2 => (R.ok []).bind fun vs => .ok (v2 :: vs)).bind fun vs => .ok (v :: vs)).bind _ = _
    rw [ev_nilslice, R.ok_bind, ev_tmp, t3]
    rfl
  intro ι w s fr cs hr hcl ht
  obtain ⟨v, A', ι', w', v', ⟨h1, h2, l', h3, h4⟩, hn, rest⟩ := rcall_app hD hcT hbox hbp hm hlt hnd hlen hk ι w s fr cs hr hcl ht
  refine ⟨v, A', ι', w', v', ?_, hn, rest⟩
  show ROps _ _ _ _ ⟨(t0.set 3 (.func (.func D.f) ⟨[]⟩ ⟨[.pointer (some ⟨bp, 0, none⟩)]⟩)).set 4 v, 5, [], A', none⟩ _
  refine ROps.one rfl (by kernel_rfl) (opP tb1_ok (op := .assign (.tmp 4)) (d := 2) (by kernel_rfl) (by kernel_rfl) (by kernel_rfl) (by show 2 < 5; omega) rfl rfl (v := v) ?_) hn ?_
  · show evG (((t0.set 3 _).set 4 v).get 4) = _
    rw [T.get_set, if_pos rfl]; rfl
  refine ROps.nil hn ?_
  show RC _ _ _ ⟨((t0.set 3 (.func (.func D.f) ⟨[]⟩ ⟨[.pointer (some ⟨bp, 0, none⟩)]⟩)).set 4 v).set 2 v, 5, [], A', none⟩ _
  apply RC.of_W tb1_ok
  apply W.run 20
  · intro M
    simp (config := { maxSteps := 4000000 }) (disch := first | decide +kernel | omega | simp only [Wq, Nat.reduceEqDiff]) only [c433, Tryz.f433, Aq, Nat.ble, reduceIte, Nat.reduceEqDiff, Nat.reduceAdd]
    with_reducible rfl
  refine ⟨(fun _ h => by cases h), hn, .inr rfl, A', [v], rfl, ?_, h1, h2, l', h3, h4⟩
  show (evG ((((t0.set 3 _).set 4 v).set 2 v).get 2)).bind (fun v => R.ok [v]) = _
  rw [T.get_set, if_pos rfl]
  rfl
theorem says {D : KeysF} (hD : KeysOk tb1 D) (hcT : StepSays D) : SortSays tb1 375 D 49 5 isU8V ltU8V := by
  intro A bp clock mv es hbox hm hwf hlt hnd hlen hk
  have hbp : bp < A.next := by
    rcases Nat.lt_or_ge bp A.next with h | h
    · exact h
    · exfalso
      have h0 := hwf bp h
      rw [load_none h0] at hbox
      cases hbox
  refine RCall.fn (fn_atX Tryz.func375) c375_eq (by kernel_rfl) (by rw [Tryz.ntmps375]; simp) tb1_ok ?_
  apply RC.seq
  apply RC.of_W tb1_ok
  apply W.run 20
  · intro M
    simp (config := { maxSteps := 4000000 }) (disch := first | decide +kernel | omega | simp only [Wq, Nat.reduceEqDiff]) only [c375, Tryz.f375, Aq, Nat.ble, reduceIte, Nat.reduceEqDiff, Nat.reduceAdd]
    with_reducible rfl
  refine ⟨(fun _ h => by cases h), by show A.next ≤ _; omega, ?_⟩
  show RC _ _ _ _ _
  generalize hT : ((T.e : T Value).set 0 _).set 2 _ = t0
  have t2 : t0.get 0 = some (.func (.func D.f) ⟨[]⟩ ⟨[.pointer (some ⟨bp, 0, none⟩)]⟩) := by rw [← hT]; simp [T.get_set]
  apply RC.seq
  apply RC.region
  show ROps _ _ _ [0, 1, 2] _ _
  refine ROps.one rfl (by kernel_rfl) (opP tb1_ok (op := .move (.tmp 0)) (d := 4) (by kernel_rfl) (by kernel_rfl) (by kernel_rfl) (by show 4 < 9; omega) rfl rfl (v := .func (.func D.f) ⟨[]⟩ ⟨[.pointer (some ⟨bp, 0, none⟩)]⟩) ?_) (by show A.next ≤ _; omega) ?_
  · show evG (t0.get 0) = _
    rw [t2]; rfl
  have t3 : (t0.set 4 (.func (.func D.f) ⟨[]⟩ ⟨[.pointer (some ⟨bp, 0, none⟩)]⟩)).get 4 = some (.func (.func D.f) ⟨[]⟩ ⟨[.pointer (some ⟨bp, 0, none⟩)]⟩) := by rw [T.get_set, if_pos rfl]
  show ROps _ _ _ _ ⟨t0.set 4 (.func (.func D.f) ⟨[]⟩ ⟨[.pointer (some ⟨bp, 0, none⟩)]⟩), 9, [], A, none⟩ _
  have hdst : (opAt (sub c375 [1,0]) 1).dst = some 5 := by kernel_rfl
  refine ROps.callD (o := opAt (sub c375 [1,0]) 1) tb1_ok rfl (by kernel_rfl) (c := { callee := .value (.func 433), args := #[.tmp 4], argTypes := #[477] }) (by kernel_rfl) (cl := .fn 433 [.func (.func D.f) ⟨[]⟩ ⟨[.pointer (some ⟨bp, 0, none⟩)]⟩]) ?_ hdst (by show (5 : Nat) < 9; decide) ?_
  · show ((ev _ (.tmp 4)).bind fun v2 => (R.ok []).bind fun vs => .ok (v2 :: vs)).bind _ = _
    rw [ev_tmp, t3]
    rfl
  intro ι w s fr cs hr hcl ht
  obtain ⟨v, A', ι', w', v', ⟨h1, h2, l', h3, h4⟩, hn, rest⟩ := rcall_coll hD hcT hbox hbp hm hlt hnd hlen hk ι w s fr cs hr hcl (fun x h1 h2 => ht x h1 (by omega))
  have hn : A'.next ≤ A.next + (4 * es.length + 4) := by omega
  refine ⟨v, A', ι', w', v', ?_, hn, rest⟩
  show ROps _ _ _ _ ⟨(t0.set 4 (.func (.func D.f) ⟨[]⟩ ⟨[.pointer (some ⟨bp, 0, none⟩)]⟩)).set 5 v, 9, [], A', none⟩ _
  refine ROps.one rfl (by kernel_rfl) (opP tb1_ok (op := .assign (.tmp 5)) (d := 3) (by kernel_rfl) (by kernel_rfl) (by kernel_rfl) (by show 3 < 9; omega) rfl rfl (v := v) ?_) hn ?_
  · show evG (((t0.set 4 _).set 5 v).get 5) = _
    rw [T.get_set, if_pos rfl]; rfl
  refine ROps.nil hn ?_
  show RC _ _ _ ⟨((t0.set 4 (.func (.func D.f) ⟨[]⟩ ⟨[.pointer (some ⟨bp, 0, none⟩)]⟩)).set 5 v).set 3 v, 9, [], A', none⟩ _
  have hkk : ∀ y ∈ l', isU8V y = true := fun y hy => by
    obtain ⟨e, he, rfl⟩ := List.mem_map.1 (h3.mem_iff.1 hy)
    exact hk e he
  have hll : l'.length = es.length := by have := h3.length_eq; rwa [List.length_map] at this
  obtain ⟨A2, l2, ⟨g, hg⟩, q1, q2, q3, q4, q5⟩ := run_srt h4 hkk (by omega)
  generalize hT2 : ((t0.set 4 _).set 5 v).set 3 v = t1
  have u3 : t1.get 3 = some v := by rw [← hT2, T.get_set, if_pos rfl]
  have hb' : ∀ y, y < A.next → A2.get y = A.get y := fun y hy => by rw [q5 y (by omega) (by omega), h2 y hy]
  apply RC.seq
  apply RC.of_W tb1_ok
  apply W.runG (g) 20
  · intro M hM
    simp (config := { maxSteps := 4000000 }) (disch := first | decide +kernel | omega | simp only [Wq, Nat.reduceEqDiff]) only [c375, Tryz.f375, Aq, Nat.ble, reduceIte, Nat.reduceEqDiff, Nat.reduceAdd, u3, hg]
    with_reducible rfl
  refine ⟨(fun _ h => by cases h), by show A2.next ≤ _; omega, ?_⟩
  show RC _ _ _ _ _
  apply RC.seq
  apply RC.of_W tb1_ok
  apply W.run 20
  · intro M
    simp (config := { maxSteps := 4000000 }) (disch := first | decide +kernel | omega | simp only [Wq, Nat.reduceEqDiff]) only [c375, Tryz.f375, Aq, Nat.ble, reduceIte, Nat.reduceEqDiff, Nat.reduceAdd, u3]
    with_reducible rfl
  refine ⟨(fun _ h => by cases h), by show A2.next ≤ _; omega, ?_⟩
  show RC _ _ _ _ _
  apply RC.of_W tb1_ok
  apply W.run 20
  · intro M
    simp (config := { maxSteps := 4000000 }) (disch := first | decide +kernel | omega | simp only [Wq, Nat.reduceEqDiff]) only [c375, Tryz.f375, Aq, Nat.ble, reduceIte, Nat.reduceEqDiff, Nat.reduceAdd]
    with_reducible rfl
  refine ⟨(fun _ h => by cases h), by show A2.next ≤ _; omega, .inr rfl, A2, [v], rfl, ?_, by omega, hb', l2, q1.trans h3, q2, q3⟩
  show (evG ((((((t1.set 6 v).set 7 (.tuple ⟨[]⟩)).set 8 v).set 2 v)).get 2)).bind (fun v => R.ok [v]) = _
  rw [T.get_set, if_pos rfl]
  rfl
theorem says0 {D : KeysF} (hD : KeysOk tb1 D) (hcT : StepSays D) : SortSays kn.tb0 375 D 49 5 isU8V ltU8V := by
  have h := says hD hcT
  unfold tb1 at h
  exact h.know.know.knows
end Go.Proofs.YtbgbjdihdihmhaaGreatDoor.knB
