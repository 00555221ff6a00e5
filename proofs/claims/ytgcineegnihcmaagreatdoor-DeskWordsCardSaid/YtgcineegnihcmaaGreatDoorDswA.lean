/-
  DeskWords: what reads and writes words, run symbolically by AM; the plain laws of reading and writing. Conditions stand in each theorem.
-/
import Derived.Test.YtgcineegnihcmaaGreatDoorKnMemo
import Derived.Test.YtgcineegnihcmaaGreatDoorKnCut0
import Derived.Test.YtgcineegnihcmaaGreatDoorAmD
import Derived.KernelRfl
namespace Go.Proofs.YtgcineegnihcmaaGreatDoor.dsk
open Go.Am
set_option linter.unusedSimpArgs false
set_option linter.unusedVariables false
set_option maxRecDepth 20000
/-- Where the run of the closed statements left the tables. -/
noncomputable def tb0 : Tab := kn.tbM5
theorem tb0_ok : TabOk tb0 := kn.tbM5_ok
theorem fn_at {k : Nat} {fn : Func} (h : Tryz.prog.funcs[k]? = some fn) : tb0.fn.get k = some fn := kn.fn_at h
theorem know_P (t : Tab) (f : FuncId) (h : List Value → Mem → R (Value × Mem)) : (t.know f h).P = t.P := rfl
theorem know_fn (t : Tab) (f : FuncId) (h : List Value → Mem → R (Value × Mem)) : (t.know f h).fn = t.fn := rfl
theorem know_at {t t' : Tab} {f : FuncId} {h : List Value → Mem → R (Value × Mem)} (hP : t'.P = t.P) (ok : TabOk t') (hh : HookOk t.P f h) : TabOk (t'.know f h) := know_ok ok (hP ▸ hh)

def vb (n : Nat) : Value := .int .u8 (.ofNat n)
def vn (n : Nat) : Value := .int .i64 (.ofNat n)
def plainN (n : Nat) : Bool := Nat.blt 32 n && Nat.ble n 126 && !Nat.beq n 37 && !Nat.beq n 58
def hexD (n : Nat) : UInt8 := bif Nat.blt n 10 then .ofNat (48 + n) else .ofNat (87 + n)
def hexV (b : UInt8) : Option Nat := bif Nat.ble 48 b.toNat && Nat.ble b.toNat 57 then some (b.toNat - 48) else bif Nat.ble 97 b.toNat && Nat.ble b.toNat 102 then some (b.toNat - 87) else none
def isB (x : R Res) (v : Value) : Bool := isVal x v
theorem plain_true : ((List.range 256).all fun n => isVal (callX tb0 1000 12 [vb n] mem0) (.bool (plainN n))) = true := by decide +kernel
def plainK : List Value → Option Value
  | [.int .u8 (.ofNat n)] => bif Nat.blt n 256 then some (.bool (plainN n)) else none
  | _ => none
theorem isVal_of {r : R Res} {v : Value} (h : isVal r v = true) : ∃ A, r = .ok (.val v A) := by
  unfold isVal at h
  split at h
  · rename_i u A
    exact ⟨A, by rw [sameV_eq _ _ _ h]⟩
  · cases h
theorem hook_plain : HookOk tb0.P 12 (pureHook plainK) := by
  refine hook_pure tb0_ok (f := 12) (fn := Tryz.f12) (fn_at Tryz.func12) (c := (Tryz.f12.body).getD .skip) (by kernel_rfl) fun args v h => ?_
  unfold plainK at h
  split at h
  · rename_i n
    cases hn : Nat.blt n 256 with
    | false => rw [hn] at h; cases h
    | true =>
      rw [hn] at h
      cases h
      have hr := List.all_eq_true.1 plain_true n (by rw [List.mem_range]; rw [Nat.blt_eq] at hn; exact hn)
      rw [callX_eq] at hr
      obtain ⟨A, e⟩ := isVal_of hr
      exact ⟨by simp [flat], by simp [flat], 1000, A, e⟩
  · cases h

def tab64 : List Nat := [0, 1, 56, 2, 57, 49, 28, 3, 61, 58, 42, 50, 38, 29, 17, 4, 62, 47, 59, 36, 45, 43, 51, 22, 53, 39, 33, 30, 24, 18, 12, 5, 63, 55, 48, 27, 60, 41, 37, 16, 46, 35, 44, 21, 52, 32, 23, 11, 54, 26, 40, 15, 34, 20, 31, 10, 25, 14, 19, 9, 13, 8, 7, 6]
def g64 : Nat := 9
def NG : Nat := 11
def G0 : Glb := [(g64, tab64.map vb)]
def twoD (n : Nat) : List UInt8 := [49, hexD (n / 16), hexD (n % 16)]
theorem form_true (ts : Nat → TypeId) : ((List.range 256).all fun n => isVal (callX tb0 1000 15 [.int .u64 (.ofNat (256 + n)), vn 16] (gMem ts G0 NG)) (strOf (twoD n))) = true := by kernel_rfl
def formK : List Value → Option Value
  | [.int .u64 (.ofNat n), .int .i64 (.ofNat b)] => bif Nat.beq b 16 && Nat.ble 256 n && Nat.blt n 512 then some (strOf (twoD (n - 256))) else none
  | _ => none
theorem hook_form : HookOk tb0.P 15 (globHook G0 formK) := by
  refine hook_glob tb0_ok (f := 15) (fn := Tryz.f15) (N := NG) (fn_at Tryz.func15) (c := (Tryz.f15.body).getD .skip) (by kernel_rfl) (by decide +kernel) fun args v h => ?_
  unfold formK at h
  split at h
  · rename_i n b
    cases hn : (Nat.beq b 16 && Nat.ble 256 n && Nat.blt n 512) with
    | false => rw [hn] at h; cases h
    | true =>
      rw [hn] at h
      cases h
      simp only [Bool.and_eq_true, Nat.blt_eq] at hn
      obtain ⟨⟨h1, h2⟩, h3⟩ := hn
      obtain rfl := Nat.eq_of_beq_eq_true h1
      have h2 := Nat.le_of_ble_eq_true h2
      refine ⟨by simp [flat], by simp [flat, strOf], fun ts => ?_⟩
      have hr := List.all_eq_true.1 (form_true ts) (n - 256) (by rw [List.mem_range]; omega)
      rw [callX_eq] at hr
      obtain ⟨A, e⟩ := isVal_of hr
      have e2 : 256 + (n - 256) = n := by omega
      rw [e2] at e
      exact ⟨1000, A, e⟩
  · cases h

def hexs : List UInt8 := [48, 49, 50, 51, 52, 53, 54, 55, 56, 57, 97, 98, 99, 100, 101, 102]
def hexN (b : UInt8) : Nat := bif Nat.ble b.toNat 57 then b.toNat - 48 else b.toNat - 87
theorem num_true : (hexs.all fun a => hexs.all fun b => isVal (callX tb0 1000 19 [strOf [a, b], vn 16, vn 32] mem0) (.tuple ⟨[.int .u64 (.ofNat (hexN a * 16 + hexN b)), .nilIface]⟩)) = true := by decide +kernel
def numK : List Value → Option Value
  | [.string s, .int .i64 (.ofNat c), .int .i64 (.ofNat d)] => match s.data.toList with
    | [a, b] => bif Nat.beq c 16 && Nat.beq d 32 && hexs.contains a && hexs.contains b then some (.tuple ⟨[.int .u64 (.ofNat (hexN a * 16 + hexN b)), .nilIface]⟩) else none
    | _ => none
  | _ => none
theorem hook_num : HookOk tb0.P 19 (pureHook numK) := by
  refine hook_pure tb0_ok (f := 19) (fn := Tryz.f19) (fn_at Tryz.func19) (c := (Tryz.f19.body).getD .skip) (by kernel_rfl) fun args v h => ?_
  unfold numK at h
  split at h
  · rename_i s c d
    split at h
    · rename_i a b hs
      cases hn : (Nat.beq c 16 && Nat.beq d 32 && hexs.contains a && hexs.contains b) with
      | false => rw [hn] at h; cases h
      | true =>
        rw [hn] at h
        cases h
        simp only [Bool.and_eq_true, List.contains_iff_mem] at hn
        obtain ⟨⟨⟨h1, h2⟩, h3⟩, h4⟩ := hn
        obtain rfl := Nat.eq_of_beq_eq_true h1
        obtain rfl := Nat.eq_of_beq_eq_true h2
        have hr := List.all_eq_true.1 (List.all_eq_true.1 num_true a h3) b h4
        rw [callX_eq] at hr
        obtain ⟨A, e⟩ := isVal_of hr
        have e0 : Value.string s = strOf [a, b] := by rw [string_eq, hs]
        rw [e0]
        exact ⟨by simp [flat, strOf], by simp [flat], 1000, A, e⟩
    · cases h
  · cases h

def hexB (n : Nat) : Bool := (Nat.ble 48 n && Nat.ble n 57) || (Nat.ble 97 n && Nat.ble n 102)
def setL : List Value := (List.range 256).map fun n => Value.bool (hexB n)
def setV : Value := .tuple ⟨[.agg ⟨setL⟩, .bool true]⟩
theorem set_true : isVal (callX tb0 1000 36 [strOf hexs] mem0) setV = true := by decide +kernel
def setK : List Value → Option Value
  | [.string s] => if s.data.toList = hexs then some setV else none
  | _ => none
theorem hook_set : HookOk tb0.P 36 (pureHook setK) := by
  refine hook_pure tb0_ok (f := 36) (fn := Tryz.f36) (fn_at Tryz.func36) (c := (Tryz.f36.body).getD .skip) (by kernel_rfl) fun args v h => ?_
  unfold setK at h
  split at h
  · rename_i s
    split at h
    · rename_i hs
      cases h
      have hr := set_true
      rw [callX_eq] at hr
      obtain ⟨A, e⟩ := isVal_of hr
      have e0 : Value.string s = strOf hexs := by rw [string_eq, hs]
      rw [e0]
      exact ⟨by simp [flat, strOf], by decide +kernel, 1000, A, e⟩
    · cases h
  · cases h
noncomputable def tb1 : Tab := (((tb0.know 12 (pureHook plainK)).know 15 (globHook G0 formK)).know 19 (pureHook numK)).know 36 (pureHook setK)
theorem tb1_ok : TabOk tb1 := know_at (by simp only [know_P]) (know_at (by simp only [know_P]) (know_at (by simp only [know_P]) (know_ok tb0_ok hook_plain) hook_form) hook_num) hook_set
theorem tb1_fn : tb1.fn = tb0.fn := by unfold tb1; simp only [know_fn]
theorem fn_at1 {k : Nat} {fn : Func} (h : Tryz.prog.funcs[k]? = some fn) : tb1.fn.get k = some fn := by rw [tb1_fn]; exact fn_at h
section
variable {ih : Code → St → R (Ex × St)} {A : Mem}
theorem k7 {n : Nat} (h : n < 256) : callF tb1 ih (.fn 12 [.int .u8 (n : Int)]) A = .ok (.val (.bool (plainN n)) A) :=
  callF_known (c := (Tryz.f12.body).getD .skip) (fn_at1 Tryz.func12) (by kernel_rfl) (by kernel_rfl) (h := pureHook plainK) (by kernel_rfl) (by
    unfold pureHook
    show (match plainK [.int .u8 (.ofNat n)] with | some v => R.ok (v, A) | none => .no 600) = _
    have e : Nat.blt n 256 = true := by rw [Nat.blt_eq]; exact h
    simp only [plainK, e, cond_true])
theorem k10 {n : Nat} (hG : hasG A G0 = true) (h : 256 ≤ n) (h2 : n < 512) : callF tb1 ih (.fn 15 [.int .u64 (n : Int), .int .i64 16]) A = .ok (.val (strOf (twoD (n - 256))) A) :=
  callF_known (c := (Tryz.f15.body).getD .skip) (fn_at1 Tryz.func15) (by kernel_rfl) (by kernel_rfl) (h := globHook G0 formK) (by kernel_rfl) (by
    unfold globHook
    rw [hG, cond_true]
    show (match formK [.int .u64 (.ofNat n), .int .i64 (.ofNat 16)] with | some v => R.ok (v, A) | none => .no 602) = _
    have e : Nat.blt n 512 = true := by rw [Nat.blt_eq]; exact h2
    have e2 : Nat.ble 256 n = true := Nat.ble_eq_true_of_le h
    have e3 : Nat.beq 16 16 = true := rfl
    simp only [formK, e, e2, e3, Bool.and_self, cond_true])
theorem k14 {a b : UInt8} (ha : a ∈ hexs) (hb : b ∈ hexs) : callF tb1 ih (.fn 19 [strOf [a, b], .int .i64 16, .int .i64 32]) A = .ok (.val (.tuple ⟨[.int .u64 ((hexN a * 16 + hexN b : Nat) : Int), .nilIface]⟩) A) :=
  callF_known (c := (Tryz.f19.body).getD .skip) (fn_at1 Tryz.func19) (by kernel_rfl) (by kernel_rfl) (h := pureHook numK) (by kernel_rfl) (by
    unfold pureHook
    show (match numK [.string ⟨⟨[a, b]⟩⟩, .int .i64 (.ofNat 16), .int .i64 (.ofNat 32)] with | some v => R.ok (v, A) | none => .no 600) = _
    have e1 : hexs.contains a = true := by simpa using ha
    have e2 : hexs.contains b = true := by simpa using hb
    have e3 : Nat.beq 16 16 = true := rfl
    have e4 : Nat.beq 35 35 = true := rfl
    simp only [numK, e1, e2, e3, e4, Bool.and_self, cond_true]
    rfl)
theorem k22 : callF tb1 ih (.fn 36 [strOf hexs]) A = .ok (.val setV A) :=
  callF_known (c := (Tryz.f36.body).getD .skip) (fn_at1 Tryz.func36) (by kernel_rfl) (by kernel_rfl) (h := pureHook setK) (by kernel_rfl) (by
    unfold pureHook
    show (match setK [strOf hexs] with | some v => R.ok (v, A) | none => .no 600) = _
    rfl)
end
theorem und3 : tb1.und 3 = some (.int .i64) := by kernel_rfl
theorem und4 : tb1.und 4 = some .bool := by kernel_rfl
theorem und5 : tb1.und 5 = some (.int .u8) := by kernel_rfl
theorem und9 : tb1.und 9 = some .string := by kernel_rfl
theorem und29 : tb1.und 32 = some (.slice 5) := by kernel_rfl
theorem und39 : tb1.und 42 = some (.int .u64) := by kernel_rfl
theorem und21 : tb1.und 21 = some (.int .i32) := by kernel_rfl

theorem und51 : tb1.und 74 = some (.array 256 4) := by kernel_rfl
theorem size4 : sizeF tb1 4 = .ok 1 := by kernel_rfl
theorem size51 : sizeF tb1 74 = .ok 256 := by kernel_rfl
noncomputable def c36 : Code := Tryz.f77.body.getD .skip
theorem c36_eq : Tryz.f77.body = some (.seq (sub c36 [0]) (.seq (sub c36 [1,0]) (sub c36 [1,1]))) := by kernel_rfl
theorem setL_len : setL.length = 256 := by simp [setL]
theorem setL_get {n : Nat} (h : n < 256) : setL[n]? = some (.bool (hexB n)) := by
  simp [setL, h]
theorem run_has {A : Mem} {b n : Nat} (hA : Vals A 74 b (.var 256) setL) (hn : n < 256) : Ans tb1 77 [.pointer (some ⟨b, 0, none⟩), .int .u8 (n : Int)] A (.bool (hexB n)) A := by
  have hix : indexAddrF tb1 74 (.pointer (some ⟨b, 0, none⟩)) (.int .u8 (n : Int)) = .ok (.pointer (some ⟨b, 0 + n, none⟩)) := indexAddr_arr (i := n) und51 size4 hn
  rw [Nat.zero_add] at hix
  have hld : loadF tb1 A.get 4 (.pointer (some ⟨b, n, none⟩)) = .ok (.bool (hexB n)) := load_vals und4 rfl hA (setL_get hn)
  obtain ⟨v, A', hg, rfl, rfl⟩ : ∃ v A', Ans tb1 77 [.pointer (some ⟨b, 0, none⟩), .int .u8 (n : Int)] A v A' ∧ v = .bool (hexB n) ∧ A' = A := by
    refine ans_of_W (fn_at1 Tryz.func77) c36_eq (by rw [Tryz.ntmps77]; simp) (by kernel_rfl) (by kernel_rfl) ?_
    apply W.seq
    apply W.run 20
    · intro M
      simp (config := { maxSteps := 4000000 }) (disch := first | decide +kernel | omega | simp only [Wq, Nat.reduceEqDiff]) only [c36, Tryz.f77, Aq, Nat.ble, reduceIte, Nat.reduceEqDiff, Nat.reduceAdd]
      with_reducible rfl
    apply W.seq
    apply W.run 20
    · intro M
      simp (config := { maxSteps := 4000000 }) (disch := first | decide +kernel | omega | simp only [Wq, Nat.reduceEqDiff]) only [c36, Tryz.f77, Aq, Nat.ble, reduceIte, Nat.reduceEqDiff, Nat.reduceAdd, opF_nilCheck, nil_ptr, hix, hld]
      with_reducible rfl
    show W tb1 _ _ _
    apply W.run 20
    · intro M
      simp (config := { maxSteps := 4000000 }) (disch := first | decide +kernel | omega | simp only [Wq, Nat.reduceEqDiff]) only [c36, Tryz.f77, Aq, Nat.ble, reduceIte, Nat.reduceEqDiff, Nat.reduceAdd]
      with_reducible rfl
    refine ⟨.inr rfl, _, [.bool (hexB n)], rfl, ?_, rfl, rfl⟩
    simp only [Tryz.f77, resF, ev_tmp, T.get_set, Nat.reduceEqDiff, if_true, if_false, evG_some, R.ok_bind]
  exact hg

def trimR (l : List UInt8) : List UInt8 := (l.reverse.dropWhile fun b => hexB b.toNat).reverse
def trimL (l : List UInt8) : List UInt8 := l.dropWhile fun b => hexB b.toNat
theorem trimR_yes {q : List UInt8} {c : UInt8} (h : hexB c.toNat = true) : trimR (q ++ [c]) = trimR q := by
  unfold trimR; rw [List.reverse_append, List.reverse_singleton, List.singleton_append, List.dropWhile_cons, if_pos h]
theorem trimR_no {q : List UInt8} {c : UInt8} (h : hexB c.toNat = false) : trimR (q ++ [c]) = q ++ [c] := by
  unfold trimR; rw [List.reverse_append, List.reverse_singleton, List.singleton_append, List.dropWhile_cons, if_neg (by rw [h]; simp)]; simp
theorem trimR_len (l : List UInt8) : (trimR l).length ≤ l.length := by
  unfold trimR
  rw [List.length_reverse]
  have := (List.dropWhile_sublist (fun b : UInt8 => hexB b.toNat) (l := l.reverse)).length_le
  rwa [List.length_reverse] at this
theorem byte_lt (c : UInt8) : c.toNat < 256 := c.toNat_lt
noncomputable def c24 : Code := Tryz.f38.body.getD .skip
noncomputable def c24b : Code := sub c24 [1,0,0,0]
theorem c24_eq : Tryz.f38.body = some (.seq (sub c24 [0]) (.seq (.block 0 (.loop c24b)) (.seq (sub c24 [1,1,0]) (sub c24 [1,1,1])))) := by kernel_rfl
theorem c24b_eq : c24b = (.seq (.seq (sub c24b [0,0]) (sub c24b [0,1])) (.block 1 (.seq (.seq (sub c24b [1,0,0,0]) (sub c24b [1,0,0,1])) (sub c24b [1,0,1])))) := by kernel_rfl
set_option maxHeartbeats 4000000 in
theorem run_trimR {A : Mem} {b : Nat} {l : List UInt8} (hA : Vals A 74 b (.var 256) setL) (hl : l.length < 1000000) : Ans tb1 38 [strOf l, .pointer (some ⟨b, 0, none⟩)] A (strOf (trimR l)) A := by
  obtain ⟨v, A', hg, rfl, rfl⟩ : ∃ v A', Ans tb1 38 [strOf l, .pointer (some ⟨b, 0, none⟩)] A v A' ∧ v = strOf (trimR l) ∧ A' = A := by
    refine ans_of_W (fn_at1 Tryz.func38) c24_eq (by rw [Tryz.ntmps38]; simp) (by kernel_rfl) (by kernel_rfl) ?_
    apply W.seq
    apply W.run 20
    · intro M
      simp (config := { maxSteps := 4000000 }) (disch := first | decide +kernel | omega | simp only [Wq, Nat.reduceEqDiff]) only [c24, Tryz.f38, Aq, Nat.ble, reduceIte, Nat.reduceEqDiff, Nat.reduceAdd]
      with_reducible rfl
    apply W.seq
    apply W.block
    refine W.fall (fun k t D => ∃ l', k = l'.length ∧ trimR l' = trimR l ∧ l'.length < 1000000 ∧ D = A ∧ Sl t [(0, strOf l'), (1, .pointer (some ⟨b, 0, none⟩))]) ?_ (k := l.length) ⟨l, rfl, rfl, hl, rfl, ?_⟩
    · rintro k t D ⟨l', rfl, he, hl', rfl, g0, g1, -⟩
      have ll := len_str (tb := tb1) (t := 9) (l := l') und9
      rw [c24b_eq]
      rcases List.eq_nil_or_concat l' with rfl | ⟨q, c, rfl⟩
      · have ll : builtinPF tb1 .len [9] [strOf []] = .ok (.int .i64 ((0 : Nat) : Int)) := ll
        have z0 : decide (0 < 0) = false := rfl
        apply W.seq
        apply W.seq
        apply W.run 20
        · intro M
          simp (config := { maxSteps := 4000000 }) (disch := first | decide +kernel | omega | simp only [Wq, Nat.reduceEqDiff]) only [c24b, c24, Tryz.f38, Aq, Nat.ble, reduceIte, Nat.reduceEqDiff, Nat.reduceAdd, g0, ll, z0]
          with_reducible rfl
        apply W.run 20
        · intro M
          simp (config := { maxSteps := 4000000 }) (disch := first | decide +kernel | omega | simp only [Wq, Nat.reduceEqDiff]) only [c24b, c24, Tryz.f38, Aq, Nat.ble, reduceIte, Nat.reduceEqDiff, Nat.reduceAdd]
          with_reducible rfl
        show W tb1 _ _ _
        apply W.seq
        apply W.run 20
        · intro M
          simp (config := { maxSteps := 4000000 }) (disch := first | decide +kernel | omega | simp only [Wq, Nat.reduceEqDiff]) only [c24, Tryz.f38, Aq, Nat.ble, reduceIte, Nat.reduceEqDiff, Nat.reduceAdd, g0]
          with_reducible rfl
        show W tb1 _ _ _
        apply W.run 20
        · intro M
          simp (config := { maxSteps := 4000000 }) (disch := first | decide +kernel | omega | simp only [Wq, Nat.reduceEqDiff]) only [c24, Tryz.f38, Aq, Nat.ble, reduceIte, Nat.reduceEqDiff, Nat.reduceAdd]
          with_reducible rfl
        refine ⟨.inr rfl, _, [strOf []], rfl, ?_, by rw [← he]; rfl, rfl⟩
        simp only [Tryz.f38, resF, ev_tmp, T.get_set, Nat.reduceEqDiff, if_true, if_false, evG_some, R.ok_bind]
      · rw [List.concat_eq_append] at *
        have hlq : (q ++ [c]).length = q.length + 1 := by simp
        rw [hlq] at ll hl'
        have hp : 0 < q.length + 1 := by omega
        have h1 : ((q.length + 1 : Nat) : Int) > ((0 : Nat) : Int) := by omega
        have s1 : intOpF .sub .i64 ((q.length + 1 : Nat) : Int) ((1 : Nat) : Int) = .ok (.int .i64 ((q.length : Nat) : Int)) := by
          have := op_sub_i64 (a := q.length + 1) (b := 1) (by omega) (by omega)
          rwa [Nat.add_sub_cancel] at this
        have hix : indexF tb1 9 (strOf (q ++ [c])) (.int .i64 ((q.length : Nat) : Int)) = .ok (.int .u8 ((c.toNat : Nat) : Int)) := by
          rw [index_str und9 (by omega)]; simp [List.getD]
        obtain ⟨g, hg⟩ := run_has hA (byte_lt c)
        apply W.seq
        apply W.seq
        apply W.run 20
        · intro M
          simp (config := { maxSteps := 4000000 }) (disch := first | decide +kernel | omega | simp only [Wq, Nat.reduceEqDiff]) only [c24b, c24, Tryz.f38, Aq, Nat.ble, reduceIte, Nat.reduceEqDiff, Nat.reduceAdd, g0, ll, hp]
          with_reducible rfl
        apply W.run 20
        · intro M
          simp (config := { maxSteps := 4000000 }) (disch := first | decide +kernel | omega | simp only [Wq, Nat.reduceEqDiff]) only [c24b, c24, Tryz.f38, Aq, Nat.ble, reduceIte, Nat.reduceEqDiff, Nat.reduceAdd]
          with_reducible rfl
        show W tb1 _ _ _
        apply W.block
        apply W.seq
        apply W.seq
        apply W.runG (g) 20
        · intro M hM
          simp (config := { maxSteps := 4000000 }) (disch := first | decide +kernel | omega | simp only [Wq, Nat.reduceEqDiff]) only [c24b, c24, Tryz.f38, Aq, Nat.ble, reduceIte, Nat.reduceEqDiff, Nat.reduceAdd, g0, g1, ll, s1, hix, hg]
          with_reducible rfl
        show W tb1 _ _ _
        cases hc : hexB c.toNat with
        | true =>
          apply W.run 20
          · intro M
            simp (config := { maxSteps := 4000000 }) (disch := first | decide +kernel | omega | simp only [Wq, Nat.reduceEqDiff]) only [c24b, c24, Tryz.f38, Aq, Nat.ble, reduceIte, Nat.reduceEqDiff, Nat.reduceAdd, hc]
            with_reducible rfl
          show W tb1 _ _ _
          have hsl : sliceF tb1 9 (strOf (q ++ [c])) none (some (.int .i64 ((q.length : Nat) : Int))) none = .ok (strOf q) := by
            rw [slice_to und9 (by omega)]; simp
          apply W.run 20
          · intro M
            simp (config := { maxSteps := 4000000 }) (disch := first | decide +kernel | omega | simp only [Wq, Nat.reduceEqDiff]) only [c24b, c24, Tryz.f38, Aq, Nat.ble, reduceIte, Nat.reduceEqDiff, Nat.reduceAdd, g0, ll, s1, hsl]
            with_reducible rfl
          refine ⟨q.length, _, _, by omega, rfl, q, rfl, by rw [← he, trimR_yes hc], by omega, rfl, ?_⟩
          simp only [Sl_cons, Sl_nil, T.get_set, T.puts_cons, T.puts_nil, Nat.reduceEqDiff, Nat.reduceAdd, if_true, if_false, and_true, true_and, g1]
        | false =>
          apply W.run 20
          · intro M
            simp (config := { maxSteps := 4000000 }) (disch := first | decide +kernel | omega | simp only [Wq, Nat.reduceEqDiff]) only [c24b, c24, Tryz.f38, Aq, Nat.ble, reduceIte, Nat.reduceEqDiff, Nat.reduceAdd, hc]
            with_reducible rfl
          show W tb1 _ _ _
          apply W.seq
          apply W.run 20
          · intro M
            simp (config := { maxSteps := 4000000 }) (disch := first | decide +kernel | omega | simp only [Wq, Nat.reduceEqDiff]) only [c24, Tryz.f38, Aq, Nat.ble, reduceIte, Nat.reduceEqDiff, Nat.reduceAdd, g0]
            with_reducible rfl
          show W tb1 _ _ _
          apply W.run 20
          · intro M
            simp (config := { maxSteps := 4000000 }) (disch := first | decide +kernel | omega | simp only [Wq, Nat.reduceEqDiff]) only [c24, Tryz.f38, Aq, Nat.ble, reduceIte, Nat.reduceEqDiff, Nat.reduceAdd]
            with_reducible rfl
          refine ⟨.inr rfl, _, [strOf (q ++ [c])], rfl, ?_, by rw [← he, trimR_no hc]; rfl, rfl⟩
          simp only [Tryz.f38, resF, ev_tmp, T.get_set, Nat.reduceEqDiff, if_true, if_false, evG_some, R.ok_bind]
    · simp only [Sl_cons, Sl_nil, T.get_set, T.puts_cons, T.puts_nil, Nat.reduceEqDiff, Nat.reduceAdd, if_true, if_false, and_true, true_and]
  exact hg

noncomputable def c23 : Code := Tryz.f37.body.getD .skip
noncomputable def c23b : Code := sub c23 [1,0,0,0]
theorem c23_eq : Tryz.f37.body = some (.seq (sub c23 [0]) (.seq (.block 0 (.loop c23b)) (.seq (sub c23 [1,1,0]) (sub c23 [1,1,1])))) := by kernel_rfl
theorem c23b_eq : c23b = (.seq (.seq (sub c23b [0,0]) (sub c23b [0,1])) (.block 1 (.seq (.seq (sub c23b [1,0,0,0]) (sub c23b [1,0,0,1])) (sub c23b [1,0,1])))) := by kernel_rfl
set_option maxHeartbeats 4000000 in
theorem run_trimL {A : Mem} {b : Nat} {l : List UInt8} (hA : Vals A 74 b (.var 256) setL) (hl : l.length < 1000000) : Ans tb1 37 [strOf l, .pointer (some ⟨b, 0, none⟩)] A (strOf (trimL l)) A := by
  obtain ⟨v, A', hg, rfl, rfl⟩ : ∃ v A', Ans tb1 37 [strOf l, .pointer (some ⟨b, 0, none⟩)] A v A' ∧ v = strOf (trimL l) ∧ A' = A := by
    refine ans_of_W (fn_at1 Tryz.func37) c23_eq (by rw [Tryz.ntmps37]; simp) (by kernel_rfl) (by kernel_rfl) ?_
    apply W.seq
    apply W.run 20
    · intro M
      simp (config := { maxSteps := 4000000 }) (disch := first | decide +kernel | omega | simp only [Wq, Nat.reduceEqDiff]) only [c23, Tryz.f37, Aq, Nat.ble, reduceIte, Nat.reduceEqDiff, Nat.reduceAdd]
      with_reducible rfl
    apply W.seq
    apply W.block
    refine W.fall (fun k t D => ∃ l', k = l'.length ∧ trimL l' = trimL l ∧ l'.length < 1000000 ∧ D = A ∧ Sl t [(0, strOf l'), (1, .pointer (some ⟨b, 0, none⟩))]) ?_ (k := l.length) ⟨l, rfl, rfl, hl, rfl, ?_⟩
    · rintro k t D ⟨l', rfl, he, hl', rfl, g0, g1, -⟩
      have ll := len_str (tb := tb1) (t := 9) (l := l') und9
      rw [c23b_eq]
      cases l' with
      | nil =>
        have ll : builtinPF tb1 .len [9] [strOf []] = .ok (.int .i64 ((0 : Nat) : Int)) := ll
        have z0 : decide (0 < 0) = false := rfl
        apply W.seq
        apply W.seq
        apply W.run 20
        · intro M
          simp (config := { maxSteps := 4000000 }) (disch := first | decide +kernel | omega | simp only [Wq, Nat.reduceEqDiff]) only [c23b, c23, Tryz.f37, Aq, Nat.ble, reduceIte, Nat.reduceEqDiff, Nat.reduceAdd, g0, ll, z0]
          with_reducible rfl
        apply W.run 20
        · intro M
          simp (config := { maxSteps := 4000000 }) (disch := first | decide +kernel | omega | simp only [Wq, Nat.reduceEqDiff]) only [c23b, c23, Tryz.f37, Aq, Nat.ble, reduceIte, Nat.reduceEqDiff, Nat.reduceAdd]
          with_reducible rfl
        show W tb1 _ _ _
        apply W.seq
        apply W.run 20
        · intro M
          simp (config := { maxSteps := 4000000 }) (disch := first | decide +kernel | omega | simp only [Wq, Nat.reduceEqDiff]) only [c23, Tryz.f37, Aq, Nat.ble, reduceIte, Nat.reduceEqDiff, Nat.reduceAdd, g0]
          with_reducible rfl
        show W tb1 _ _ _
        apply W.run 20
        · intro M
          simp (config := { maxSteps := 4000000 }) (disch := first | decide +kernel | omega | simp only [Wq, Nat.reduceEqDiff]) only [c23, Tryz.f37, Aq, Nat.ble, reduceIte, Nat.reduceEqDiff, Nat.reduceAdd]
          with_reducible rfl
        refine ⟨.inr rfl, _, [strOf []], rfl, ?_, by rw [← he]; rfl, rfl⟩
        simp only [Tryz.f37, resF, ev_tmp, T.get_set, Nat.reduceEqDiff, if_true, if_false, evG_some, R.ok_bind]
      | cons c q =>
        rw [List.length_cons] at ll hl'
        have hp : 0 < q.length + 1 := by omega
        have hix : indexF tb1 9 (strOf (c :: q)) (.int .i64 ((0 : Nat) : Int)) = .ok (.int .u8 ((c.toNat : Nat) : Int)) := by
          rw [index_str und9 (by simp)]; rfl
        obtain ⟨g, hg⟩ := run_has hA (byte_lt c)
        apply W.seq
        apply W.seq
        apply W.run 20
        · intro M
          simp (config := { maxSteps := 4000000 }) (disch := first | decide +kernel | omega | simp only [Wq, Nat.reduceEqDiff]) only [c23b, c23, Tryz.f37, Aq, Nat.ble, reduceIte, Nat.reduceEqDiff, Nat.reduceAdd, g0, ll, hp]
          with_reducible rfl
        apply W.run 20
        · intro M
          simp (config := { maxSteps := 4000000 }) (disch := first | decide +kernel | omega | simp only [Wq, Nat.reduceEqDiff]) only [c23b, c23, Tryz.f37, Aq, Nat.ble, reduceIte, Nat.reduceEqDiff, Nat.reduceAdd]
          with_reducible rfl
        show W tb1 _ _ _
        apply W.block
        apply W.seq
        apply W.seq
        apply W.runG (g) 20
        · intro M hM
          simp (config := { maxSteps := 4000000 }) (disch := first | decide +kernel | omega | simp only [Wq, Nat.reduceEqDiff]) only [c23b, c23, Tryz.f37, Aq, Nat.ble, reduceIte, Nat.reduceEqDiff, Nat.reduceAdd, g0, g1, ll, hix, hg]
          with_reducible rfl
        show W tb1 _ _ _
        cases hc : hexB c.toNat with
        | true =>
          apply W.run 20
          · intro M
            simp (config := { maxSteps := 4000000 }) (disch := first | decide +kernel | omega | simp only [Wq, Nat.reduceEqDiff]) only [c23b, c23, Tryz.f37, Aq, Nat.ble, reduceIte, Nat.reduceEqDiff, Nat.reduceAdd, hc]
            with_reducible rfl
          show W tb1 _ _ _
          have hsl : sliceF tb1 9 (strOf (c :: q)) (some (.int .i64 ((1 : Nat) : Int))) none none = .ok (strOf q) := by
            rw [slice_from und9 (by simp)]; rfl
          apply W.run 20
          · intro M
            simp (config := { maxSteps := 4000000 }) (disch := first | decide +kernel | omega | simp only [Wq, Nat.reduceEqDiff]) only [c23b, c23, Tryz.f37, Aq, Nat.ble, reduceIte, Nat.reduceEqDiff, Nat.reduceAdd, g0, ll, hsl]
            with_reducible rfl
          refine ⟨q.length, _, _, by rw [List.length_cons]; omega, rfl, q, rfl, by rw [← he]; unfold trimL; rw [List.dropWhile_cons, if_pos hc], by omega, rfl, ?_⟩
          simp only [Sl_cons, Sl_nil, T.get_set, T.puts_cons, T.puts_nil, Nat.reduceEqDiff, Nat.reduceAdd, if_true, if_false, and_true, true_and, g1]
        | false =>
          apply W.run 20
          · intro M
            simp (config := { maxSteps := 4000000 }) (disch := first | decide +kernel | omega | simp only [Wq, Nat.reduceEqDiff]) only [c23b, c23, Tryz.f37, Aq, Nat.ble, reduceIte, Nat.reduceEqDiff, Nat.reduceAdd, hc]
            with_reducible rfl
          show W tb1 _ _ _
          apply W.seq
          apply W.run 20
          · intro M
            simp (config := { maxSteps := 4000000 }) (disch := first | decide +kernel | omega | simp only [Wq, Nat.reduceEqDiff]) only [c23, Tryz.f37, Aq, Nat.ble, reduceIte, Nat.reduceEqDiff, Nat.reduceAdd, g0]
            with_reducible rfl
          show W tb1 _ _ _
          apply W.run 20
          · intro M
            simp (config := { maxSteps := 4000000 }) (disch := first | decide +kernel | omega | simp only [Wq, Nat.reduceEqDiff]) only [c23, Tryz.f37, Aq, Nat.ble, reduceIte, Nat.reduceEqDiff, Nat.reduceAdd]
            with_reducible rfl
          refine ⟨.inr rfl, _, [strOf (c :: q)], rfl, ?_, by rw [← he]; unfold trimL; rw [List.dropWhile_cons, if_neg (by rw [hc]; simp)]; rfl, rfl⟩
          simp only [Tryz.f37, resF, ev_tmp, T.get_set, Nat.reduceEqDiff, if_true, if_false, evG_some, R.ok_bind]
    · simp only [Sl_cons, Sl_nil, T.get_set, T.puts_cons, T.puts_nil, Nat.reduceEqDiff, Nat.reduceAdd, if_true, if_false, and_true, true_and]
  exact hg

noncomputable def c13 : Code := Tryz.f18.body.getD .skip
theorem c13_eq : Tryz.f18.body = some (.seq (sub c13 [0]) (.seq (.seq (sub c13 [1,0,0]) (sub c13 [1,0,1])) (.seq (.seq (sub c13 [1,1,0,0]) (sub c13 [1,1,0,1])) (.seq (.seq (sub c13 [1,1,1,0,0]) (.seq (sub c13 [1,1,1,0,1,0]) (sub c13 [1,1,1,0,1,1]))) (sub c13 [1,1,1,1]))))) := by kernel_rfl
theorem zero51 : zeroF tb1 74 = .ok (.agg ⟨List.replicate 256 (.bool false)⟩) := by kernel_rfl
theorem cells51 : (Value.agg ⟨List.replicate 256 (.bool false)⟩).cells.toList = List.replicate 256 (.bool false) := by kernel_rfl
theorem cellsS : (Value.agg ⟨setL⟩).cells.toList = setL := by kernel_rfl
theorem oneS : ∀ v ∈ setL, oneCell v = true := by
  intro v hv
  unfold setL at hv
  obtain ⟨n, -, rfl⟩ := List.mem_map.1 hv
  rfl
def trimD (l : List UInt8) : List UInt8 := trimL (trimR l)
set_option maxHeartbeats 4000000 in
theorem run_trim {A : Mem} {l : List UInt8} (hl : l.length < 1000000) (h0 : l ≠ []) : ∃ A', Ans tb1 18 [strOf l, strOf hexs] A (strOf (trimD l)) A' ∧ A.next ≤ A'.next ∧ ∀ y, y < A.next → A'.get y = A.get y := by
  obtain ⟨v, A', hg, rfl, hfr⟩ : ∃ v A', Ans tb1 18 [strOf l, strOf hexs] A v A' ∧ v = strOf (trimD l) ∧ A.next ≤ A'.next ∧ ∀ y, y < A.next → A'.get y = A.get y := by
    refine ans_of_W (fn_at1 Tryz.func18) c13_eq (by rw [Tryz.ntmps18]; simp) (by kernel_rfl) (by kernel_rfl) ?_
    have e1 : strOpF .eql l [] = .ok (.bool false) := by
      cases l with
      | nil => exact absurd rfl h0
      | cons x q => rfl
    have e2 : strOpF .eql hexs [] = .ok (.bool false) := rfl
    have ll : builtinPF tb1 .len [9] [strOf hexs] = .ok (.int .i64 ((16 : Nat) : Int)) := len_str und9
    have b1 : decide (16 = 1) = false := rfl
    apply W.seq
    apply W.run 20
    · intro M
      simp (config := { maxSteps := 4000000 }) (disch := first | decide +kernel | omega | simp only [Wq, Nat.reduceEqDiff]) only [c13, Tryz.f18, Aq, Nat.ble, reduceIte, Nat.reduceEqDiff, Nat.reduceAdd]
      with_reducible rfl
    apply W.seq
    apply W.seq
    apply W.run 20
    · intro M
      simp (config := { maxSteps := 4000000 }) (disch := first | decide +kernel | omega | simp only [Wq, Nat.reduceEqDiff]) only [c13, Tryz.f18, Aq, Nat.ble, reduceIte, Nat.reduceEqDiff, Nat.reduceAdd, binF_str, e1, e2]
      with_reducible rfl
    show W tb1 _ _ _
    apply W.run 20
    · intro M
      simp (config := { maxSteps := 4000000 }) (disch := first | decide +kernel | omega | simp only [Wq, Nat.reduceEqDiff]) only [c13, Tryz.f18, Aq, Nat.ble, reduceIte, Nat.reduceEqDiff, Nat.reduceAdd]
      with_reducible rfl
    show W tb1 _ _ _
    apply W.seq
    apply W.seq
    apply W.run 20
    · intro M
      simp (config := { maxSteps := 4000000 }) (disch := first | decide +kernel | omega | simp only [Wq, Nat.reduceEqDiff]) only [c13, Tryz.f18, Aq, Nat.ble, reduceIte, Nat.reduceEqDiff, Nat.reduceAdd, ll, b1]
      with_reducible rfl
    show W tb1 _ _ _
    apply W.run 20
    · intro M
      simp (config := { maxSteps := 4000000 }) (disch := first | decide +kernel | omega | simp only [Wq, Nat.reduceEqDiff]) only [c13, Tryz.f18, Aq, Nat.ble, reduceIte, Nat.reduceEqDiff, Nat.reduceAdd]
      with_reducible rfl
    show W tb1 _ _ _
    obtain ⟨A3, hst, hv3, hn3, hg3⟩ := store_all (tb := tb1) (A := A.alloc (rowOb 74 (List.replicate 256 (.bool false)))) (e := 74) (t := 74) (b := A.next) (k := .var 256) (l := List.replicate 256 (.bool false)) (l' := setL) (by rw [size51]; simp) (vals_puts (by rw [get_alloc_self]; unfold rowOb; simp)) (by rw [setL_len]; simp) (by simp) oneS
    have hn2 : (A.alloc (rowOb 74 (List.replicate 256 (.bool false)))).next = A.next + 1 := next_alloc _ _
    have hz : (Way.ptr.at A.next) = .pointer (some ⟨A.next, 0, none⟩) := rfl
    apply W.seq
    apply W.seq
    apply W.run 20
    · intro M
      simp (config := { maxSteps := 4000000 }) (disch := first | decide +kernel | omega | simp only [Wq, Nat.reduceEqDiff]) only [c13, Tryz.f18, Aq, Nat.ble, reduceIte, Nat.reduceEqDiff, Nat.reduceAdd, k22, setV, zero51, cells51, hst, hz, List.getElem?_cons_zero, List.getElem?_cons_succ, R.ok_bind]
      with_reducible rfl
    show W tb1 _ _ _
    apply W.seq
    apply W.run 20
    · intro M
      simp (config := { maxSteps := 4000000 }) (disch := first | decide +kernel | omega | simp only [Wq, Nat.reduceEqDiff]) only [c13, Tryz.f18, Aq, Nat.ble, reduceIte, Nat.reduceEqDiff, Nat.reduceAdd]
      with_reducible rfl
    show W tb1 _ _ _
    obtain ⟨g1, hg1⟩ := run_trimR hv3 hl
    have hlr : (trimR l).length < 1000000 := Nat.lt_of_le_of_lt (trimR_len l) hl
    obtain ⟨g2, hg2⟩ := run_trimL hv3 hlr
    have hg1 : ∀ M, max g1 g2 ≤ M → _ := fun M hM => hg1 M (by omega)
    have hg2 : ∀ M, max g1 g2 ≤ M → _ := fun M hM => hg2 M (by omega)
    apply W.runG (max g1 g2) 20
    · intro M hM
      simp (config := { maxSteps := 4000000 }) (disch := first | decide +kernel | omega | simp only [Wq, Nat.reduceEqDiff]) only [c13, Tryz.f18, Aq, Nat.ble, reduceIte, Nat.reduceEqDiff, Nat.reduceAdd, hg1, hg2]
      with_reducible rfl
    refine ⟨.inr rfl, _, [strOf (trimD l)], rfl, ?_, rfl, (by show A.next ≤ A3.next; omega), fun y hy => by show A3.get y = _; rw [hg3 y (by omega), get_alloc_ne (by omega)]⟩
    simp only [Tryz.f18, resF, ev_tmp, T.get_set, Nat.reduceEqDiff, if_true, if_false, evG_some, R.ok_bind]
    rfl
  exact ⟨_, hg, hfr⟩

def cutP : List UInt8 → List UInt8 × List UInt8 × Bool
  | [] => ([], [], false)
  | x :: l => if x = 37 then ([], l, true) else (x :: (cutP l).1, (cutP l).2.1, (cutP l).2.2)
theorem cutP_yes : ∀ {l : List UInt8}, (cutP l).2.2 = true → l = (cutP l).1 ++ 37 :: (cutP l).2.1
  | [], h => by cases h
  | x :: l, h => by
    unfold cutP at h ⊢
    split at h
    · rename_i e; simp [e]
    · rename_i e
      rw [if_neg e]
      have := cutP_yes h
      simp only [List.cons_append]
      rw [← this]
theorem cutP_no : ∀ {l : List UInt8}, (cutP l).2.2 = false → (cutP l).1 = l ∧ (cutP l).2.1 = []
  | [], _ => ⟨rfl, rfl⟩
  | x :: l, h => by
    unfold cutP at h ⊢
    split at h
    · cases h
    · rename_i e
      rw [if_neg e]
      obtain ⟨h1, h2⟩ := cutP_no h
      exact ⟨by rw [h1], h2⟩
theorem placeB_cut : ∀ (l : List UInt8) (n : Nat), placeB 37 l n = if (cutP l).2.2 then ((n + (cutP l).1.length : Nat) : Int) else -1
  | [], n => rfl
  | x :: l, n => by
    unfold placeB cutP
    by_cases hx : x = 37
    · subst hx
      rfl
    · rw [if_neg hx]
      have : Nat.beq x.toNat 37 = false := by
        cases hq : Nat.beq x.toNat 37 with
        | false => rfl
        | true =>
          have := Nat.eq_of_beq_eq_true hq
          exact absurd (UInt8.toNat_inj.1 (by rw [this]; rfl)) hx
      rw [this, cond_false, placeB_cut l (n + 1)]
      simp only [List.length_cons]
      split
      · congr 1; omega
      · rfl
theorem k61 {ih : Code → St → R (Ex × St)} {A : Mem} {l : List UInt8} : callF tb1 ih (.fn 119 [strOf l, .int .u8 ((37 : Nat) : Int)]) A = .ok (.val (.int .i64 (placeB 37 l 0)) A) := by
  have h1 : tb1.fn.get 119 = some Tryz.f119 := fn_at1 Tryz.func119
  have h2 : Tryz.f119.body = none := by kernel_rfl
  have h3 : tb1.ex.get 119 = some 7 := by kernel_rfl
  have h4 : (Tryz.f119.name == "runtime.NumGoroutine") = false := by kernel_rfl
  have h5 : Nat.blt 37 256 = true := rfl
  unfold callF
  simp only [h1, h2, h3, h4, cond_false]
  show ((externF tb1 7 Tryz.f119 [.string ⟨⟨l⟩⟩, .int .u8 (.ofNat 37)] A).bind fun x => R.ok (Res.val x.1 x.2)) = _
  unfold externF
  simp only [h5, cond_true, R.ok_bind]
noncomputable def c45 : Code := Tryz.f86.body.getD .skip
theorem c45_eq : Tryz.f86.body = some (.seq (sub c45 [0]) (.seq (sub c45 [1,0]) (sub c45 [1,1]))) := by kernel_rfl
theorem run_place {A : Mem} {l : List UInt8} : Ans tb1 86 [strOf l, .int .u8 ((37 : Nat) : Int)] A (.int .i64 (placeB 37 l 0)) A := by
  obtain ⟨v, A', hg, rfl, rfl⟩ : ∃ v A', Ans tb1 86 [strOf l, .int .u8 ((37 : Nat) : Int)] A v A' ∧ v = .int .i64 (placeB 37 l 0) ∧ A' = A := by
    refine ans_of_W (fn_at1 Tryz.func86) c45_eq (by rw [Tryz.ntmps86]; simp) (by kernel_rfl) (by kernel_rfl) ?_
    apply W.seq
    apply W.run 20
    · intro M
      simp (config := { maxSteps := 4000000 }) (disch := first | decide +kernel | omega | simp only [Wq, Nat.reduceEqDiff]) only [c45, Tryz.f86, Aq, Nat.ble, reduceIte, Nat.reduceEqDiff, Nat.reduceAdd]
      with_reducible rfl
    apply W.seq
    apply W.run 20
    · intro M
      simp (config := { maxSteps := 4000000 }) (disch := first | decide +kernel | omega | simp only [Wq, Nat.reduceEqDiff]) only [c45, Tryz.f86, Aq, Nat.ble, reduceIte, Nat.reduceEqDiff, Nat.reduceAdd, k61]
      with_reducible rfl
    show W tb1 _ _ _
    apply W.run 20
    · intro M
      simp (config := { maxSteps := 4000000 }) (disch := first | decide +kernel | omega | simp only [Wq, Nat.reduceEqDiff]) only [c45, Tryz.f86, Aq, Nat.ble, reduceIte, Nat.reduceEqDiff, Nat.reduceAdd]
      with_reducible rfl
    refine ⟨.inr rfl, _, [.int .i64 (placeB 37 l 0)], rfl, ?_, rfl, rfl⟩
    simp only [Tryz.f86, resF, ev_tmp, T.get_set, Nat.reduceEqDiff, if_true, if_false, evG_some, R.ok_bind]
  exact hg
noncomputable def c29 : Code := Tryz.f43.body.getD .skip
theorem c29_eq : Tryz.f43.body = some (.seq (sub c29 [0]) (.seq (sub c29 [1,0]) (.seq (.block 0 (.seq (sub c29 [1,1,0,0,0]) (sub c29 [1,1,0,0,1]))) (sub c29 [1,1,1])))) := by kernel_rfl
def pct : List UInt8 := [37]
theorem run_index {A : Mem} {l : List UInt8} : Ans tb1 43 [strOf l, strOf pct] A (.int .i64 (placeB 37 l 0)) A := by
  obtain ⟨v, A', hg, rfl, rfl⟩ : ∃ v A', Ans tb1 43 [strOf l, strOf pct] A v A' ∧ v = .int .i64 (placeB 37 l 0) ∧ A' = A := by
    refine ans_of_W (fn_at1 Tryz.func43) c29_eq (by rw [Tryz.ntmps43]; simp) (by kernel_rfl) (by kernel_rfl) ?_
    have ll : builtinPF tb1 .len [9] [strOf pct] = .ok (.int .i64 ((1 : Nat) : Int)) := len_str und9
    have z0 : decide (1 = 0) = false := rfl
    have z1 : decide (1 = 1) = true := rfl
    have hix : indexF tb1 9 (strOf pct) (.int .i64 ((0 : Nat) : Int)) = .ok (.int .u8 ((37 : Nat) : Int)) := by
      rw [index_str und9 (by simp [pct])]; rfl
    obtain ⟨g, hg⟩ := run_place (A := A) (l := l)
    apply W.seq
    apply W.run 20
    · intro M
      simp (config := { maxSteps := 4000000 }) (disch := first | decide +kernel | omega | simp only [Wq, Nat.reduceEqDiff]) only [c29, Tryz.f43, Aq, Nat.ble, reduceIte, Nat.reduceEqDiff, Nat.reduceAdd]
      with_reducible rfl
    apply W.seq
    apply W.run 20
    · intro M
      simp (config := { maxSteps := 4000000 }) (disch := first | decide +kernel | omega | simp only [Wq, Nat.reduceEqDiff]) only [c29, Tryz.f43, Aq, Nat.ble, reduceIte, Nat.reduceEqDiff, Nat.reduceAdd, ll]
      with_reducible rfl
    show W tb1 _ _ _
    apply W.seq
    apply W.block
    apply W.seq
    apply W.run 20
    · intro M
      simp (config := { maxSteps := 4000000 }) (disch := first | decide +kernel | omega | simp only [Wq, Nat.reduceEqDiff]) only [c29, Tryz.f43, Aq, Nat.ble, reduceIte, Nat.reduceEqDiff, Nat.reduceAdd, ll, z0, binF_str]
      with_reducible rfl
    show W tb1 _ _ _
    by_cases hl : pct = l
    · have d1 : decide (pct = l) = true := decide_eq_true hl
      apply W.run 20
      · intro M
        simp (config := { maxSteps := 4000000 }) (disch := first | decide +kernel | omega | simp only [Wq, Nat.reduceEqDiff]) only [c29, Tryz.f43, Aq, Nat.ble, reduceIte, Nat.reduceEqDiff, Nat.reduceAdd, d1]
        with_reducible rfl
      refine ⟨.inr rfl, _, [.int .i64 ((0 : Nat) : Int)], rfl, ?_, by rw [← hl]; rfl, rfl⟩
      simp only [Tryz.f43, resF, ev_tmp, T.get_set, Nat.reduceEqDiff, if_true, if_false, evG_some, R.ok_bind]
    · have d1 : decide (pct = l) = false := decide_eq_false hl
      apply W.runG (g) 20
      · intro M hM
        simp (config := { maxSteps := 4000000 }) (disch := first | decide +kernel | omega | simp only [Wq, Nat.reduceEqDiff]) only [c29, Tryz.f43, Aq, Nat.ble, reduceIte, Nat.reduceEqDiff, Nat.reduceAdd, ll, z1, hix, hg, d1]
        with_reducible rfl
      refine ⟨.inr rfl, _, [.int .i64 (placeB 37 l 0)], rfl, ?_, rfl, rfl⟩
      simp only [Tryz.f43, resF, ev_tmp, T.get_set, Nat.reduceEqDiff, if_true, if_false, evG_some, R.ok_bind]
  exact hg
noncomputable def c19 : Code := Tryz.f33.body.getD .skip
theorem c19_eq : Tryz.f33.body = some (.seq (sub c19 [0]) (.seq (.seq (sub c19 [1,0,0]) (.seq (sub c19 [1,0,1,0]) (sub c19 [1,0,1,1]))) (sub c19 [1,1]))) := by kernel_rfl
def cutV (l : List UInt8) : Value := .tuple ⟨[strOf (cutP l).1, strOf (cutP l).2.1, .bool (cutP l).2.2]⟩
set_option maxHeartbeats 4000000 in
theorem run_cut19 {A : Mem} {l : List UInt8} (hl : l.length < 1000000) : Ans tb1 33 [strOf l, strOf pct] A (cutV l) A := by
  obtain ⟨v, A', hg, rfl, rfl⟩ : ∃ v A', Ans tb1 33 [strOf l, strOf pct] A v A' ∧ v = cutV l ∧ A' = A := by
    refine ans_of_W (fn_at1 Tryz.func33) c19_eq (by rw [Tryz.ntmps33]; simp) (by kernel_rfl) (by kernel_rfl) ?_
    have ll : builtinPF tb1 .len [9] [strOf pct] = .ok (.int .i64 ((1 : Nat) : Int)) := len_str und9
    obtain ⟨g, hg⟩ := run_index (A := A) (l := l)
    rw [placeB_cut, Nat.zero_add] at hg
    apply W.seq
    apply W.run 20
    · intro M
      simp (config := { maxSteps := 4000000 }) (disch := first | decide +kernel | omega | simp only [Wq, Nat.reduceEqDiff]) only [c19, Tryz.f33, Aq, Nat.ble, reduceIte, Nat.reduceEqDiff, Nat.reduceAdd]
      with_reducible rfl
    apply W.seq
    apply W.seq
    cases hc : (cutP l).2.2 with
    | true =>
      rw [hc, if_pos rfl] at hg
      have hy := cutP_yes hc
      have hlen : l.length = (cutP l).1.length + 1 + (cutP l).2.1.length := by
        have := congrArg List.length hy
        simp only [List.length_append, List.length_cons] at this
        omega
      have s1 : sliceF tb1 9 (strOf l) none (some (.int .i64 (((cutP l).1.length : Nat) : Int))) none = .ok (strOf (cutP l).1) := by
        rw [slice_to und9 (by omega)]
        congr 2
        rw [show l.take (cutP l).1.length = ((cutP l).1 ++ 37 :: (cutP l).2.1).take (cutP l).1.length by rw [← hy]]
        simp
      have s2 : sliceF tb1 9 (strOf l) (some (.int .i64 (((cutP l).1.length + 1 : Nat) : Int))) none none = .ok (strOf (cutP l).2.1) := by
        rw [slice_from und9 (by omega)]
        congr 2
        rw [show l.drop ((cutP l).1.length + 1) = ((cutP l).1 ++ 37 :: (cutP l).2.1).drop ((cutP l).1.length + 1) by rw [← hy]]
        rw [List.drop_append]
        simp
      generalize hk : (cutP l).1.length = k at *
      have g0 : decide (0 ≤ k) = true := by simp
      have p1 : ∀ d, binF .add d (.int .i64 ((k : Nat) : Int)) (.int .i64 ((1 : Nat) : Int)) = .ok (.int .i64 ((k + 1 : Nat) : Int)) := fun d => op_add_i64 (by omega)
      apply W.runG (g) 20
      · intro M hM
        simp (config := { maxSteps := 4000000 }) (disch := first | decide +kernel | omega | simp only [Wq, Nat.reduceEqDiff]) only [c19, Tryz.f33, Aq, Nat.ble, reduceIte, Nat.reduceEqDiff, Nat.reduceAdd, hg]
        with_reducible rfl
      show W tb1 _ _ _
      apply W.seq
      apply W.run 20
      · intro M
        simp (config := { maxSteps := 4000000 }) (disch := first | decide +kernel | omega | simp only [Wq, Nat.reduceEqDiff]) only [c19, Tryz.f33, Aq, Nat.ble, reduceIte, Nat.reduceEqDiff, Nat.reduceAdd, g0]
        with_reducible rfl
      show W tb1 _ _ _
      apply W.run 20
      · intro M
        simp (config := { maxSteps := 4000000 }) (disch := first | decide +kernel | omega | simp only [Wq, Nat.reduceEqDiff]) only [c19, Tryz.f33, Aq, Nat.ble, reduceIte, Nat.reduceEqDiff, Nat.reduceAdd, ll, s1, s2]
        with_reducible rfl
      refine ⟨.inr rfl, _, [strOf (cutP l).1, strOf (cutP l).2.1, .bool true], rfl, ?_, by unfold cutV; rw [hc]; rfl, rfl⟩
      simp only [Tryz.f33, resF, ev_tmp, T.get_set, Nat.reduceEqDiff, if_true, if_false, evG_some, R.ok_bind]
    | false =>
      rw [hc, if_neg (by simp)] at hg
      obtain ⟨n1, n2⟩ := cutP_no hc
      have g1 : decide (((0 : Nat) : Int) ≤ -1) = false := by decide
      apply W.runG (g) 20
      · intro M hM
        simp (config := { maxSteps := 4000000 }) (disch := first | decide +kernel | omega | simp only [Wq, Nat.reduceEqDiff]) only [c19, Tryz.f33, Aq, Nat.ble, reduceIte, Nat.reduceEqDiff, Nat.reduceAdd, hg]
        with_reducible rfl
      show W tb1 _ _ _
      apply W.seq
      apply W.run 20
      · intro M
        simp (config := { maxSteps := 4000000 }) (disch := first | decide +kernel | omega | simp only [Wq, Nat.reduceEqDiff]) only [c19, Tryz.f33, Aq, Nat.ble, reduceIte, Nat.reduceEqDiff, Nat.reduceAdd, g1]
        with_reducible rfl
      show W tb1 _ _ _
      apply W.run 20
      · intro M
        simp (config := { maxSteps := 4000000 }) (disch := first | decide +kernel | omega | simp only [Wq, Nat.reduceEqDiff]) only [c19, Tryz.f33, Aq, Nat.ble, reduceIte, Nat.reduceEqDiff, Nat.reduceAdd]
        with_reducible rfl
      show W tb1 _ _ _
      apply W.run 20
      · intro M
        simp (config := { maxSteps := 4000000 }) (disch := first | decide +kernel | omega | simp only [Wq, Nat.reduceEqDiff]) only [c19, Tryz.f33, Aq, Nat.ble, reduceIte, Nat.reduceEqDiff, Nat.reduceAdd]
        with_reducible rfl
      refine ⟨.inr rfl, _, [strOf l, strOf [], .bool false], rfl, ?_, by unfold cutV; rw [hc, n1, n2]; rfl, rfl⟩
      simp only [Tryz.f33, resF, ev_tmp, T.get_set, Nat.reduceEqDiff, if_true, if_false, evG_some, R.ok_bind]
  exact hg
noncomputable def c12 : Code := Tryz.f17.body.getD .skip
theorem c12_eq : Tryz.f17.body = some (.seq (sub c12 [0]) (.seq (sub c12 [1,0]) (sub c12 [1,1]))) := by kernel_rfl
theorem run_cut {A : Mem} {l : List UInt8} (hl : l.length < 1000000) : Ans tb1 17 [strOf l, strOf pct] A (cutV l) A := by
  obtain ⟨v, A', hg, rfl, rfl⟩ : ∃ v A', Ans tb1 17 [strOf l, strOf pct] A v A' ∧ v = cutV l ∧ A' = A := by
    refine ans_of_W (fn_at1 Tryz.func17) c12_eq (by rw [Tryz.ntmps17]; simp) (by kernel_rfl) (by kernel_rfl) ?_
    obtain ⟨g, hg⟩ := run_cut19 (A := A) hl
    unfold cutV at hg
    apply W.seq
    apply W.run 20
    · intro M
      simp (config := { maxSteps := 4000000 }) (disch := first | decide +kernel | omega | simp only [Wq, Nat.reduceEqDiff]) only [c12, Tryz.f17, Aq, Nat.ble, reduceIte, Nat.reduceEqDiff, Nat.reduceAdd]
      with_reducible rfl
    apply W.seq
    apply W.runG (g) 20
    · intro M hM
      simp (config := { maxSteps := 4000000 }) (disch := first | decide +kernel | omega | simp only [Wq, Nat.reduceEqDiff]) only [c12, Tryz.f17, Aq, Nat.ble, reduceIte, Nat.reduceEqDiff, Nat.reduceAdd, hg, List.getElem?_cons_zero, List.getElem?_cons_succ, R.ok_bind]
      with_reducible rfl
    show W tb1 _ _ _
    apply W.run 20
    · intro M
      simp (config := { maxSteps := 4000000 }) (disch := first | decide +kernel | omega | simp only [Wq, Nat.reduceEqDiff]) only [c12, Tryz.f17, Aq, Nat.ble, reduceIte, Nat.reduceEqDiff, Nat.reduceAdd]
      with_reducible rfl
    refine ⟨.inr rfl, _, [strOf (cutP l).1, strOf (cutP l).2.1, .bool (cutP l).2.2], rfl, ?_, rfl, rfl⟩
    simp only [Tryz.f17, resF, ev_tmp, T.get_set, Nat.reduceEqDiff, if_true, if_false, evG_some, R.ok_bind]
  exact hg
noncomputable def c15 : Code := Tryz.f20.body.getD .skip
theorem c15_eq : Tryz.f20.body = some (.seq (sub c15 [0]) (.seq (sub c15 [1,0]) (sub c15 [1,1]))) := by kernel_rfl
theorem run_index15 {A : Mem} {l : List UInt8} : Ans tb1 20 [strOf l, strOf pct] A (.int .i64 (placeB 37 l 0)) A := by
  obtain ⟨v, A', hg, rfl, rfl⟩ : ∃ v A', Ans tb1 20 [strOf l, strOf pct] A v A' ∧ v = .int .i64 (placeB 37 l 0) ∧ A' = A := by
    refine ans_of_W (fn_at1 Tryz.func20) c15_eq (by rw [Tryz.ntmps20]; simp) (by kernel_rfl) (by kernel_rfl) ?_
    obtain ⟨g, hg⟩ := run_index (A := A) (l := l)
    apply W.seq
    apply W.run 20
    · intro M
      simp (config := { maxSteps := 4000000 }) (disch := first | decide +kernel | omega | simp only [Wq, Nat.reduceEqDiff]) only [c15, Tryz.f20, Aq, Nat.ble, reduceIte, Nat.reduceEqDiff, Nat.reduceAdd]
      with_reducible rfl
    apply W.seq
    apply W.runG (g) 20
    · intro M hM
      simp (config := { maxSteps := 4000000 }) (disch := first | decide +kernel | omega | simp only [Wq, Nat.reduceEqDiff]) only [c15, Tryz.f20, Aq, Nat.ble, reduceIte, Nat.reduceEqDiff, Nat.reduceAdd, hg]
      with_reducible rfl
    show W tb1 _ _ _
    apply W.run 20
    · intro M
      simp (config := { maxSteps := 4000000 }) (disch := first | decide +kernel | omega | simp only [Wq, Nat.reduceEqDiff]) only [c15, Tryz.f20, Aq, Nat.ble, reduceIte, Nat.reduceEqDiff, Nat.reduceAdd]
      with_reducible rfl
    refine ⟨.inr rfl, _, [.int .i64 (placeB 37 l 0)], rfl, ?_, rfl, rfl⟩
    simp only [Tryz.f20, resF, ev_tmp, T.get_set, Nat.reduceEqDiff, if_true, if_false, evG_some, R.ok_bind]
  exact hg
noncomputable def c6 : Code := Tryz.f8.body.getD .skip
theorem c6_eq : Tryz.f8.body = some (.seq (sub c6 [0]) (.seq (sub c6 [1,0]) (sub c6 [1,1]))) := by kernel_rfl
theorem run_contains {A : Mem} {l : List UInt8} : Ans tb1 8 [strOf l, strOf pct] A (.bool (cutP l).2.2) A := by
  obtain ⟨v, A', hg, rfl, rfl⟩ : ∃ v A', Ans tb1 8 [strOf l, strOf pct] A v A' ∧ v = .bool (cutP l).2.2 ∧ A' = A := by
    refine ans_of_W (fn_at1 Tryz.func8) c6_eq (by rw [Tryz.ntmps8]; simp) (by kernel_rfl) (by kernel_rfl) ?_
    obtain ⟨g, hg⟩ := run_index15 (A := A) (l := l)
    rw [placeB_cut, Nat.zero_add] at hg
    apply W.seq
    apply W.run 20
    · intro M
      simp (config := { maxSteps := 4000000 }) (disch := first | decide +kernel | omega | simp only [Wq, Nat.reduceEqDiff]) only [c6, Tryz.f8, Aq, Nat.ble, reduceIte, Nat.reduceEqDiff, Nat.reduceAdd]
      with_reducible rfl
    apply W.seq
    cases hc : (cutP l).2.2 with
    | true =>
      rw [hc, if_pos rfl] at hg
      generalize (cutP l).1.length = k at *
      have g0 : decide (0 ≤ k) = true := by simp
      apply W.runG (g) 20
      · intro M hM
        simp (config := { maxSteps := 4000000 }) (disch := first | decide +kernel | omega | simp only [Wq, Nat.reduceEqDiff]) only [c6, Tryz.f8, Aq, Nat.ble, reduceIte, Nat.reduceEqDiff, Nat.reduceAdd, hg, g0]
        with_reducible rfl
      show W tb1 _ _ _
      apply W.run 20
      · intro M
        simp (config := { maxSteps := 4000000 }) (disch := first | decide +kernel | omega | simp only [Wq, Nat.reduceEqDiff]) only [c6, Tryz.f8, Aq, Nat.ble, reduceIte, Nat.reduceEqDiff, Nat.reduceAdd]
        with_reducible rfl
      refine ⟨.inr rfl, _, [.bool true], rfl, ?_, rfl, rfl⟩
      simp only [Tryz.f8, resF, ev_tmp, T.get_set, Nat.reduceEqDiff, if_true, if_false, evG_some, R.ok_bind]
    | false =>
      rw [hc, if_neg (by simp)] at hg
      have g1 : decide (((0 : Nat) : Int) ≤ -1) = false := by decide
      apply W.runG (g) 20
      · intro M hM
        simp (config := { maxSteps := 4000000 }) (disch := first | decide +kernel | omega | simp only [Wq, Nat.reduceEqDiff]) only [c6, Tryz.f8, Aq, Nat.ble, reduceIte, Nat.reduceEqDiff, Nat.reduceAdd, hg, g1]
        with_reducible rfl
      show W tb1 _ _ _
      apply W.run 20
      · intro M
        simp (config := { maxSteps := 4000000 }) (disch := first | decide +kernel | omega | simp only [Wq, Nat.reduceEqDiff]) only [c6, Tryz.f8, Aq, Nat.ble, reduceIte, Nat.reduceEqDiff, Nat.reduceAdd]
        with_reducible rfl
      refine ⟨.inr rfl, _, [.bool false], rfl, ?_, rfl, rfl⟩
      simp only [Tryz.f8, resF, ev_tmp, T.get_set, Nat.reduceEqDiff, if_true, if_false, evG_some, R.ok_bind]
  exact hg

def byts (l : List UInt8) : List Value := l.map byteV
theorem byts_len (l : List UInt8) : (byts l).length = l.length := by simp [byts]
theorem byts_app (l m : List UInt8) : byts (l ++ m) = byts l ++ byts m := by simp [byts]
theorem und31 : (tb1.und 34).map isAggD = some true := by kernel_rfl
theorem und28 : ∃ d, tb1.und 31 = some d ∧ isAggD d = false := by
  have h : (tb1.und 31).map isAggD = some false := by kernel_rfl
  cases hq : tb1.und 31 with
  | none => rw [hq] at h; cases h
  | some d => rw [hq] at h; exact ⟨d, rfl, by simpa using h⟩
theorem size28 : sizeF tb1 31 = .ok 1 := by kernel_rfl
theorem size29 : sizeF tb1 32 = .ok 1 := by kernel_rfl
theorem zc5 : zcellsF tb1 5 = .ok (1, [.int .u8 0]) := by kernel_rfl
theorem ty5 : ∃ i, tb1.ty.get 5 = some i ∧ i.bytes = 1 := by
  have h : ((tb1.ty.get 5).map fun i => i.bytes) = some 1 := by kernel_rfl
  cases hq : tb1.ty.get 5 with
  | none => rw [hq] at h; cases h
  | some i => rw [hq] at h; exact ⟨i, rfl, by simpa using h⟩
theorem fa0 (b : Nat) : fieldAddrF tb1 34 (.pointer (some ⟨b, 0, none⟩)) 0 = .ok (.pointer (some ⟨b, 0, none⟩)) := by kernel_rfl
theorem fa1 (b : Nat) : fieldAddrF tb1 34 (.pointer (some ⟨b, 0, none⟩)) 1 = .ok (.pointer (some ⟨b, 1, none⟩)) := by kernel_rfl
def RowT (A : Mem) (e : TypeId) (b : Nat) (l : List Value) (x : Value) : Prop :=
  (x = .slice none 0 0 ∧ l = []) ∨ (l ≠ [] ∧ x = .slice (some ⟨b, 0, none⟩) l.length (mkX l.length 1) ∧ b < A.next ∧ Vals A e b .row l)
theorem RowT.slc {A : Mem} {e : TypeId} {b : Nat} {l : List Value} {x : Value} (h : RowT A e b l x) : Slc A e b l x := by
  rcases h with h | ⟨_, h1, h2, h3⟩
  · exact .inl h
  · exact .inr ⟨.row, _, h1, h2, h3, .inr ⟨rfl, .inl rfl⟩⟩
theorem RowT.same {A A' : Mem} {e : TypeId} {b : Nat} {l : List Value} {x : Value} (h : RowT A e b l x) (hn : A.next ≤ A'.next) (hg : b < A.next → A'.get b = A.get b) : RowT A' e b l x := by
  rcases h with h | ⟨h0, h1, h2, h3⟩
  · exact .inl h
  · exact .inr ⟨h0, h1, Nat.lt_of_lt_of_le h2 hn, h3.same (hg h2)⟩
theorem RowT.appends {tb : Tab} {A : Mem} {st xt e : TypeId} {xd : TypeDesc} {i : TypeInfo} {z : Value} {m b : Nat} {l nl : List Value} {x y : Value} (h : RowT A e b l x) (hst : tb.und st = some (.slice e)) (hxt : tb.und xt = some xd) (hxd : isIntD xd = false) (hz : zcellsF tb e = .ok (1, [z])) (hi : tb.ty.get e = some i) (hib : 0 < i.bytes) (hib' : i.bytes ≤ 65536)
    (hl : l.length + m ≤ 16777216) (hm0 : 0 < m) (hy : lenF y = .ok m) (hnew : firstF A.get 1 m y = .ok nl) (hm : nl.length = m) (h1c : ∀ v ∈ nl, oneCell v = true) :
    ∃ x' A', appendF tb A st xt x y = .ok (x', A') ∧ RowT A' e A.next (l ++ nl) x' ∧ A'.next = A.next + 1 ∧ ∀ z, z ≠ b → z < A.next → A'.get z = A.get z := by
  have he1 : (1 : Nat) < 65536 := by omega
  have hlim : (Nat.ble (l.length + m) 16777216 && Nat.ble i.bytes 65536 && Nat.blt 0 i.bytes && Nat.blt 0 1 && Nat.blt 1 65536) = true := by
    have a1 : Nat.ble (l.length + m) 16777216 = true := Nat.ble_eq_true_of_le (by omega)
    have a2 : Nat.ble i.bytes 65536 = true := Nat.ble_eq_true_of_le hib'
    have a3 : Nat.blt 0 i.bytes = true := by rw [Nat.blt_eq]; exact hib
    rw [a1, a2, a3]; rfl
  have hone : nl.all oneCell = true := List.all_eq_true.2 h1c
  have fin : ∀ (A0 : Mem), A0.next = A.next → (∀ y, y ≠ b → A0.get y = A.get y) →
      RowT (A0.alloc (.cells e .row 0 (T.puts .e 0 (l ++ nl)))) e A.next (l ++ nl) (.slice (some ⟨A.next, 0, none⟩) (l.length + m) (mkX (l.length + m) 1)) ∧ (A0.alloc (.cells e .row 0 (T.puts .e 0 (l ++ nl)))).next = A.next + 1 ∧ ∀ y, y ≠ b → y < A.next → (A0.alloc (.cells e .row 0 (T.puts .e 0 (l ++ nl)))).get y = A.get y := by
    intro A0 hn hg
    refine ⟨.inr ⟨fun h0 => by rw [(List.append_eq_nil_iff.1 h0).2] at hm; simp at hm; omega, by rw [List.length_append, hm], by rw [next_alloc]; omega, vals_puts ?_⟩, by rw [next_alloc, hn], fun y hy hlt => ?_⟩
    · rw [← hn]; exact get_alloc_self _ _
    · rw [get_alloc_ne (by omega), hg y hy]
  rcases h with ⟨rfl, rfl⟩ | ⟨h0, rfl, h2, h3⟩
  · refine ⟨.slice (some ⟨A.next, 0, none⟩) (0 + m) (mkX (0 + m) 1), A.alloc (.cells e .row 0 (T.puts .e 0 ([] ++ nl))), ?_, fin A rfl (fun _ _ => rfl)⟩
    unfold appendF appendG
    have hble : Nat.ble (0 + m) (capN 0) = false := by
      cases hq : Nat.ble (0 + m) (capN 0) with
      | false => rfl
      | true => have := Nat.le_of_ble_eq_true hq; have h9 : capN 0 = 0 := rfl; omega
    have hx : capX 0 = true := rfl
    have hel : elemsF A.get 1 0 none = .ok [] := rfl
    simp only [List.length_nil] at hlim
    simp only [hst, hxt, hxd, cond_false, hz, R.ok_bind, hy, hnew, hble, hi, hlim, cond_true, hel, hx]
  · obtain ⟨cs, hb', hcs⟩ := h3
    have hel : elemsF A.get 1 l.length (some ⟨b, 0, none⟩) = .ok l := elemsF_vals ⟨cs, hb', hcs⟩
    have hble : Nat.ble (l.length + m) (capN (mkX l.length 1)) = false := by
      rw [capN_mkX he1]
      cases hq : Nat.ble (l.length + m) l.length with
      | false => rfl
      | true => have := Nat.le_of_ble_eq_true hq; omega
    have hx : capX (mkX l.length 1) = false := capX_mkX _ _
    have he : Nat.beq (capE (mkX l.length 1)) 1 = true := by rw [capE_mkX he1]; rfl
    have hfz : (Nat.ble 0 (0 + l.length * 1) && (Nat.beq e e && Nat.blt 0 9223372036854775808)) = true := by
      have h0 : Nat.blt 0 9223372036854775808 = true := by rw [Nat.blt_eq]; omega
      rw [h0]; simp
    refine ⟨_, (A.set b .dead).alloc (.cells e .row 0 (T.puts .e 0 (l ++ nl))), ?_, fin (A.set b .dead) (next_set _ _ _) (fun y hy => by rw [get_setMem, if_neg hy])⟩
    unfold appendF appendG
    simp only [hst, hxt, hxd, cond_false, hz, R.ok_bind, hy, hnew, hble, hi, hlim, cond_true, hel, hx, he, hone, Bool.and_true, hb', hfz]
def Bd (bb lo : Nat) (bs : List UInt8) (D : Mem) : Prop := ∃ pa x b, Vals D 34 bb (.var 2) [pa, x] ∧ (pa = .pointer none ∨ pa = .pointer (some ⟨bb, 0, none⟩)) ∧ RowT D 5 b (byts bs) x ∧ (bb < lo ∧ lo ≤ b) ∧ lo ≤ D.next
section
variable {ih : Code → St → R (Ex × St)} {dst : Option Tmp} {ty : TypeId} {pos : String} {after : Array Edge} {g : Option (Nat × Bool)} {s : St} {k : St → R (Ex × St)}
theorem oc1 (x : Operand) : opF tb1 ih { dst, op := .convert 31 108 x, type := ty, pos, after, guard := g } s k = (ev s.t x).bind fun x => (convRF tb1 s.m.get 31 108 x).bind fun v => putT s dst v k := by
  rw [opF_Rd (hc := by kernel_rfl) (hi := rfl)]
  simp only [rOp, R.bind_bind]
theorem oc2 (x : Operand) : opF tb1 ih { dst, op := .convert 108 31 x, type := ty, pos, after, guard := g } s k = (ev s.t x).bind fun x => (convRF tb1 s.m.get 108 31 x).bind fun v => putT s dst v k := by
  rw [opF_Rd (hc := by kernel_rfl) (hi := rfl)]
  simp only [rOp, R.bind_bind]
end
theorem k31 {ih : Code → St → R (Ex × St)} {A : Mem} {x : Value} : callF tb1 ih (.fn 72 [x]) A = .ok (.val x A) := by
  have h1 : tb1.fn.get 72 = some Tryz.f72 := fn_at1 Tryz.func72
  have h2 : Tryz.f72.body = none := by kernel_rfl
  have h3 : tb1.ex.get 72 = some 1 := by kernel_rfl
  have h4 : (Tryz.f72.name == "runtime.NumGoroutine") = false := by kernel_rfl
  unfold callF
  simp only [h1, h2, h3, h4, cond_false]
  rfl
theorem cv1 {D : Mem} {bb : Nat} {l : List Value} (h : Vals D 34 bb (.var 2) l) : convRF tb1 D.get 31 108 (.pointer (some ⟨bb, 0, none⟩)) = .ok (.pointer (some ⟨bb, 0, none⟩)) := by
  obtain ⟨c, e, -⟩ := h
  have u1 : tb1.und 31 = some (.pointer 34) := by kernel_rfl
  have u2 : tb1.und 108 = some .unsafePointer := by kernel_rfl
  have u3 : sizeF tb1 34 = .ok 2 := by kernel_rfl
  unfold convRF
  simp only [u1, u2, e, u3, R.ok_bind]
  rfl
theorem cv2 {D : Mem} {bb : Nat} {l : List Value} (h : Vals D 34 bb (.var 2) l) : convRF tb1 D.get 108 31 (.pointer (some ⟨bb, 0, none⟩)) = .ok (.pointer (some ⟨bb, 0, none⟩)) := by
  obtain ⟨c, e, -⟩ := h
  have u1 : tb1.und 31 = some (.pointer 34) := by kernel_rfl
  have u2 : tb1.und 108 = some .unsafePointer := by kernel_rfl
  have u3 : sizeF tb1 34 = .ok 2 := by kernel_rfl
  have u4 : liesAt tb1.P tb1.P.depth 34 (2 / tb1.P.cellsOf 34) 0 34 1 = true := by kernel_rfl
  unfold convRF
  simp only [u1, u2, e, u3, R.ok_bind, u4, cond_true]
noncomputable def c17 : Code := Tryz.f31.body.getD .skip
theorem c17_eq : Tryz.f31.body = some (.seq (sub c17 [0]) (sub c17 [1])) := by kernel_rfl
set_option maxHeartbeats 4000000 in
theorem run_check {D : Mem} {bb lo : Nat} {bs : List UInt8} (h : Bd bb lo bs D) : ∃ D', Ans tb1 31 [.pointer (some ⟨bb, 0, none⟩)] D unitV D' ∧ Bd bb lo bs D' ∧ D'.next = D.next ∧ ∀ y, y ≠ bb → D'.get y = D.get y := by
  obtain ⟨pa, x, b, hv, hpa, hs, hbb, hn⟩ := h
  obtain ⟨d28, u28, u28'⟩ := und28
  have hl0 : loadF tb1 D.get 31 (.pointer (some ⟨bb, 0, none⟩)) = .ok pa := load_vals u28 u28' hv rfl
  obtain ⟨v, D', hg, rfl, h1⟩ : ∃ v D', Ans tb1 31 [.pointer (some ⟨bb, 0, none⟩)] D v D' ∧ v = unitV ∧ (Bd bb lo bs D' ∧ D'.next = D.next ∧ ∀ y, y ≠ bb → D'.get y = D.get y) := by
    refine ans_of_W (fn_at1 Tryz.func31) c17_eq (by rw [Tryz.ntmps31]; simp) (by kernel_rfl) (by kernel_rfl) ?_
    apply W.seq
    rcases hpa with rfl | rfl
    · have he : eqF tb1 D.get .eql 31 (.tmp 5) (.const (.pointer none)) (.pointer none) (.pointer none) = .ok (.bool true) := by kernel_rfl
      obtain ⟨D1, hst, hv1, hn1, hg1⟩ := store_vals (tb := tb1) (t := 31) (o := 0) (v := .pointer (some ⟨bb, 0, none⟩)) size28 hv (by simp) rfl rfl
      apply W.run 20
      · intro M
        simp (config := { maxSteps := 4000000 }) (disch := first | decide +kernel | omega | simp only [Wq, Nat.reduceEqDiff]) only [c17, Tryz.f31, Aq, Nat.ble, reduceIte, Nat.reduceEqDiff, Nat.reduceAdd, opF_nilCheck, nil_ptr, fa0, hl0, opF_eqlR, he]
        with_reducible rfl
      show W tb1 _ _ _
      apply W.run 20
      · intro M
        simp (config := { maxSteps := 4000000 }) (disch := first | decide +kernel | omega | simp only [Wq, Nat.reduceEqDiff]) only [c17, Tryz.f31, Aq, Nat.ble, reduceIte, Nat.reduceEqDiff, Nat.reduceAdd, opF_nilCheck, nil_ptr, fa0, oc1, oc2, cv1 hv, cv2 hv, k31, hst]
        with_reducible rfl
      refine ⟨.inl rfl, _, [], rfl, ?_, rfl, ⟨_, x, b, hv1, .inr rfl, ?_, hbb, by rw [hn1]; exact hn⟩, hn1, hg1⟩
      · simp only [Tryz.f31, resF]
      · exact hs.same (by rw [hn1]; exact Nat.le_refl _) (fun _ => hg1 b (by omega))
    · have he : eqF tb1 D.get .eql 31 (.tmp 5) (.const (.pointer none)) (.pointer (some ⟨bb, 0, none⟩)) (.pointer none) = .ok (.bool false) := by kernel_rfl
      have he2 : eqF tb1 D.get .neq 31 (.tmp 17) (.tmp 18) (.pointer (some ⟨bb, 0, none⟩)) (.pointer (some ⟨bb, 0, none⟩)) = .ok (.bool false) := by
        have u1 : tb1.und 31 = some (.pointer 34) := by kernel_rfl
        have hb : Nat.beq bb bb = true := Nat.beq_refl bb
        have u2 : sizeF tb1 34 = .ok 2 := by kernel_rfl
        have u3 : Am.ptrEq D.get (some ⟨bb, 0, none⟩) (some ⟨bb, 0, none⟩) = .ok true := by
          unfold Am.ptrEq
          simp only [hb, cond_true]
          rfl
        unfold eqF equalF
        simp only [eqMay, cond_true, u1, u2, u3, R.ok_bind]
        rfl
      apply W.run 20
      · intro M
        simp (config := { maxSteps := 4000000 }) (disch := first | decide +kernel | omega | simp only [Wq, Nat.reduceEqDiff]) only [c17, Tryz.f31, Aq, Nat.ble, reduceIte, Nat.reduceEqDiff, Nat.reduceAdd, opF_nilCheck, nil_ptr, fa0, hl0, opF_eqlR, he]
        with_reducible rfl
      show W tb1 _ _ _
      apply W.run 20
      · intro M
        simp (config := { maxSteps := 4000000 }) (disch := first | decide +kernel | omega | simp only [Wq, Nat.reduceEqDiff]) only [c17, Tryz.f31, Aq, Nat.ble, reduceIte, Nat.reduceEqDiff, Nat.reduceAdd, opF_nilCheck, nil_ptr, fa0, hl0, opF_neqR, he2]
        with_reducible rfl
      refine ⟨.inl rfl, _, [], rfl, ?_, rfl, ⟨_, x, b, hv, .inr rfl, hs, hbb, hn⟩, rfl, fun _ _ => rfl⟩
      simp only [Tryz.f31, resF]
  exact ⟨D', hg, h1⟩

theorem evN (t : T Value) : ev t (.const .nilIface) = .ok .nilIface := rfl
theorem bs29 (a : Int) : buildSliceF tb1 32 1 [(0, .int .u8 a)] = .ok (rowOb 5 [.int .u8 a], .slc 1 2) := by kernel_rfl
structure Kp (bb lo : Nat) (A A' : Mem) : Prop where
  n : A.next ≤ A'.next
  g : ∀ y, y < lo → y ≠ bb → A'.get y = A.get y
theorem Kp.refl (bb lo : Nat) (A : Mem) : Kp bb lo A A := ⟨Nat.le_refl _, fun _ _ _ => rfl⟩
theorem Kp.trans {bb lo : Nat} {A B C : Mem} (h : Kp bb lo A B) (k : Kp bb lo B C) : Kp bb lo A C := ⟨Nat.le_trans h.n k.n, fun y hy hb => (k.g y hy hb).trans (h.g y hy hb)⟩
theorem byts_one (c : UInt8) : byts [c] = [.int .u8 ((c.toNat : Nat) : Int)] := rfl
theorem bd_put {D1 D2 : Mem} {bb lo b' : Nat} {bs : List UInt8} {pa x x' : Value} (hv : Vals D1 34 bb (.var 2) [pa, x]) (hpa : pa = .pointer none ∨ pa = .pointer (some ⟨bb, 0, none⟩)) (hb : bb < lo ∧ lo ≤ b') (hn : lo ≤ D1.next)
    (hs : RowT D2 5 b' (byts bs) x') (hn2 : D1.next ≤ D2.next) (hg : ∀ y, y < lo → D2.get y = D1.get y) : ∃ D3, storeF tb1 D2 32 (.pointer (some ⟨bb, 1, none⟩)) x' = .ok D3 ∧ Bd bb lo bs D3 ∧ Kp bb lo D1 D3 := by
  obtain ⟨D3, hst, hv3, hn3, hg3⟩ := store_vals (tb := tb1) (t := 32) (o := 1) (v := x') size29 (hv.same (hg bb (by omega))) (by simp) hs.slc.cells hs.slc.one
  exact ⟨D3, hst, ⟨pa, x', b', hv3, hpa, hs.same (by rw [hn3]; exact Nat.le_refl _) (fun _ => hg3 b' (by omega)), hb, by omega⟩, ⟨by omega, fun y hy hb' => by rw [hg3 y (by omega), hg y (by omega)]⟩⟩
noncomputable def c8 : Code := Tryz.f13.body.getD .skip
theorem c8_eq : Tryz.f13.body = some (.seq (sub c8 [0]) (.seq (sub c8 [1,0]) (.seq (sub c8 [1,1,0]) (.seq (sub c8 [1,1,1,0]) (sub c8 [1,1,1,1]))))) := by kernel_rfl
theorem und29a : (tb1.und 32).map isAggD = some false := by kernel_rfl
set_option maxHeartbeats 4000000 in
theorem run_byte {D : Mem} {bb lo : Nat} {bs : List UInt8} {c : UInt8} (h : Bd bb lo bs D) (hl : bs.length < 16000000) : ∃ D', Ans tb1 13 [.pointer (some ⟨bb, 0, none⟩), .int .u8 ((c.toNat : Nat) : Int)] D .nilIface D' ∧ Bd bb lo (bs ++ [c]) D' ∧ Kp bb lo D D' := by
  obtain ⟨D1, ⟨g, hg⟩, ⟨pa, x, b, hv, hpa, hs, hbb, hn⟩, hn1, hg1⟩ := run_check h
  have hld : loadF tb1 D1.get 32 (.pointer (some ⟨bb, 1, none⟩)) = .ok x := load_vals und29 rfl hv rfl
  obtain ⟨ti, ht1, ht2⟩ := ty5
  have hn2 : (D1.alloc (rowOb 5 [.int .u8 ((c.toNat : Nat) : Int)])).next = D1.next + 1 := next_alloc _ _
  have hs2 : RowT (D1.alloc (rowOb 5 [.int .u8 ((c.toNat : Nat) : Int)])) 5 b (byts bs) x := hs.same (by omega) (fun hb => get_alloc_ne (by omega))
  obtain ⟨x', D3, happ, hs3, hn3, hf3⟩ := hs2.appends (tb := tb1) (st := 32) (xt := 32) (m := 1) (nl := [.int .u8 ((c.toNat : Nat) : Int)]) (y := .slice (some ⟨D1.next, 0, none⟩) 1 2) und29 und29 rfl zc5 ht1 (by omega) (by omega) (by rw [byts_len]; omega) (by omega) rfl
    (elemsF_vals (l := [.int .u8 ((c.toNat : Nat) : Int)]) (vals_puts (e := 5) (k := .var 1) (get_alloc_self D1 _))) rfl (fun v hv => by
    rw [List.mem_singleton.1 hv]; rfl)
  have hs4 : RowT D3 5 (D1.alloc (rowOb 5 [.int .u8 ((c.toNat : Nat) : Int)])).next (byts (bs ++ [c])) x' := by rw [byts_app, byts_one]; exact hs3
  obtain ⟨D4, hst, hB, hK⟩ := bd_put hv hpa (by omega) hn hs4 (by omega) (fun y hy => by rw [hf3 y (by omega) (by omega), get_alloc_ne (by omega)])
  obtain ⟨v, D', ha, rfl, rfl⟩ : ∃ v D', Ans tb1 13 [.pointer (some ⟨bb, 0, none⟩), .int .u8 ((c.toNat : Nat) : Int)] D v D' ∧ v = .nilIface ∧ D' = D4 := by
    refine ans_of_W (fn_at1 Tryz.func13) c8_eq (by rw [Tryz.ntmps13]; simp) (by kernel_rfl) (by kernel_rfl) ?_
    apply W.seq
    apply W.run 20
    · intro M
      simp (config := { maxSteps := 4000000 }) (disch := first | decide +kernel | omega | simp only [Wq, Nat.reduceEqDiff]) only [c8, Tryz.f13, Aq, Nat.ble, reduceIte, Nat.reduceEqDiff, Nat.reduceAdd, evN]
      with_reducible rfl
    apply W.seq
    apply W.runG (g) 20
    · intro M hM
      simp (config := { maxSteps := 4000000 }) (disch := first | decide +kernel | omega | simp only [Wq, Nat.reduceEqDiff]) only [c8, Tryz.f13, Aq, Nat.ble, reduceIte, Nat.reduceEqDiff, Nat.reduceAdd, hg]
      with_reducible rfl
    show W tb1 _ _ _
    apply W.seq
    apply W.run 20
    · intro M
      simp (config := { maxSteps := 4000000 }) (disch := first | decide +kernel | omega | simp only [Wq, Nat.reduceEqDiff]) only [c8, Tryz.f13, Aq, Nat.ble, reduceIte, Nat.reduceEqDiff, Nat.reduceAdd, opF_nilCheck, nil_ptr, fa1, hld, bs29, happ, hst]
      with_reducible rfl
    show W tb1 _ _ _
    apply W.seq
    apply W.run 20
    · intro M
      simp (config := { maxSteps := 4000000 }) (disch := first | decide +kernel | omega | simp only [Wq, Nat.reduceEqDiff]) only [c8, Tryz.f13, Aq, Nat.ble, reduceIte, Nat.reduceEqDiff, Nat.reduceAdd, evN]
      with_reducible rfl
    show W tb1 _ _ _
    apply W.run 20
    · intro M
      simp (config := { maxSteps := 4000000 }) (disch := first | decide +kernel | omega | simp only [Wq, Nat.reduceEqDiff]) only [c8, Tryz.f13, Aq, Nat.ble, reduceIte, Nat.reduceEqDiff, Nat.reduceAdd, evN]
      with_reducible rfl
    refine ⟨.inr rfl, _, [.nilIface], rfl, ?_, rfl, rfl⟩
    simp only [Tryz.f13, resF, ev_tmp, T.get_set, Nat.reduceEqDiff, if_true, if_false, evG_some, R.ok_bind]
  exact ⟨_, ha, hB, ⟨by rw [← hn1]; exact hK.n, fun y hy hb => by rw [hK.g y hy hb, hg1 y hb]⟩⟩

noncomputable def c9 : Code := Tryz.f14.body.getD .skip
theorem c9_eq : Tryz.f14.body = some (.seq (sub c9 [0]) (.seq (sub c9 [1,0]) (.seq (sub c9 [1,1,0]) (.seq (sub c9 [1,1,1,0]) (sub c9 [1,1,1,1]))))) := by kernel_rfl
theorem first_str {A : Mem} {l : List UInt8} : firstF A.get 1 l.length (strOf l) = .ok (byts l) := by
  show R.ok (List.map byteV (l.take l.length)) = _
  rw [List.take_length]; rfl
theorem lenF_str (l : List UInt8) : lenF (strOf l) = .ok l.length := rfl
set_option maxHeartbeats 4000000 in
theorem run_str {D : Mem} {bb lo : Nat} {bs cs : List UInt8} (h : Bd bb lo bs D) (h0 : 0 < cs.length) (hl : bs.length + cs.length < 16000000) : ∃ v D', Ans tb1 14 [.pointer (some ⟨bb, 0, none⟩), strOf cs] D v D' ∧ Bd bb lo (bs ++ cs) D' ∧ Kp bb lo D D' := by
  obtain ⟨D1, ⟨g, hg⟩, ⟨pa, x, b, hv, hpa, hs, hbb, hn⟩, hn1, hg1⟩ := run_check h
  have hld : loadF tb1 D1.get 32 (.pointer (some ⟨bb, 1, none⟩)) = .ok x := load_vals und29 rfl hv rfl
  have ll := len_str (tb := tb1) (t := 9) (l := cs) und9
  obtain ⟨ti, ht1, ht2⟩ := ty5
  obtain ⟨x', D3, happ, hs3, hn3, hf3⟩ := hs.appends (tb := tb1) (st := 32) (xt := 9) (xd := .string) (m := cs.length) (nl := byts cs) (y := strOf cs) und29 und9 rfl zc5 ht1 (by omega) (by omega) (by rw [byts_len]; omega) h0 (lenF_str cs) first_str (byts_len cs) (fun v hv => by
    unfold byts at hv
    obtain ⟨c, -, rfl⟩ := List.mem_map.1 hv
    rfl)
  have hs4 : RowT D3 5 D1.next (byts (bs ++ cs)) x' := by rw [byts_app]; exact hs3
  obtain ⟨D4, hst, hB, hK⟩ := bd_put hv hpa (by omega) hn hs4 (by omega) (fun y hy => hf3 y (by omega) (by omega))
  obtain ⟨v, D', ha, rfl⟩ : ∃ v D', Ans tb1 14 [.pointer (some ⟨bb, 0, none⟩), strOf cs] D v D' ∧ D' = D4 := by
    refine ans_of_W (fn_at1 Tryz.func14) c9_eq (by rw [Tryz.ntmps14]; simp) (by kernel_rfl) (by kernel_rfl) ?_
    apply W.seq
    apply W.run 20
    · intro M
      simp (config := { maxSteps := 4000000 }) (disch := first | decide +kernel | omega | simp only [Wq, Nat.reduceEqDiff]) only [c9, Tryz.f14, Aq, Nat.ble, reduceIte, Nat.reduceEqDiff, Nat.reduceAdd, evN]
      with_reducible rfl
    apply W.seq
    apply W.runG (g) 20
    · intro M hM
      simp (config := { maxSteps := 4000000 }) (disch := first | decide +kernel | omega | simp only [Wq, Nat.reduceEqDiff]) only [c9, Tryz.f14, Aq, Nat.ble, reduceIte, Nat.reduceEqDiff, Nat.reduceAdd, hg]
      with_reducible rfl
    show W tb1 _ _ _
    apply W.seq
    apply W.run 20
    · intro M
      simp (config := { maxSteps := 4000000 }) (disch := first | decide +kernel | omega | simp only [Wq, Nat.reduceEqDiff]) only [c9, Tryz.f14, Aq, Nat.ble, reduceIte, Nat.reduceEqDiff, Nat.reduceAdd, opF_nilCheck, nil_ptr, fa1, hld, happ, hst]
      with_reducible rfl
    show W tb1 _ _ _
    apply W.seq
    apply W.run 20
    · intro M
      simp (config := { maxSteps := 4000000 }) (disch := first | decide +kernel | omega | simp only [Wq, Nat.reduceEqDiff]) only [c9, Tryz.f14, Aq, Nat.ble, reduceIte, Nat.reduceEqDiff, Nat.reduceAdd, evN, ll]
      with_reducible rfl
    show W tb1 _ _ _
    apply W.run 20
    · intro M
      simp (config := { maxSteps := 4000000 }) (disch := first | decide +kernel | omega | simp only [Wq, Nat.reduceEqDiff]) only [c9, Tryz.f14, Aq, Nat.ble, reduceIte, Nat.reduceEqDiff, Nat.reduceAdd]
      with_reducible rfl
    refine ⟨.inr rfl, _, [.int .i64 ((cs.length : Nat) : Int), .nilIface], rfl, ?_, rfl⟩
    simp only [Tryz.f14, resF, ev_tmp, T.get_set, Nat.reduceEqDiff, if_true, if_false, evG_some, R.ok_bind]
  exact ⟨_, _, ha, hB, ⟨by rw [← hn1]; exact hK.n, fun y hy hb => by rw [hK.g y hy hb, hg1 y hb]⟩⟩
noncomputable def c11 : Code := Tryz.f16.body.getD .skip
theorem c11_eq : Tryz.f16.body = some (.seq (sub c11 [0]) (.seq (sub c11 [1,0]) (sub c11 [1,1]))) := by kernel_rfl
section
variable {ih : Code → St → R (Ex × St)} {dst : Option Tmp} {ty : TypeId} {pos : String} {after : Array Edge} {g : Option (Nat × Bool)} {s : St} {k : St → R (Ex × St)}
theorem ob1 (x : Operand) : opF tb1 ih { dst, op := .call { callee := .builtin .unsafeSliceData, args := #[x], argTypes := #[32] }, type := ty, pos, after, guard := g } s k = (ev s.t x).bind fun v => (builtinPF tb1 .unsafeSliceData [32] [v]).bind fun v => putT s dst v k := by
  have hc : cls tb1 (.call { callee := .builtin .unsafeSliceData, args := #[x], argTypes := #[32] }) = .P := by kernel_rfl
  unfold opF
  simp only [isCall, hc, pOp, evs, R.bind_bind, R.ok_bind]
theorem ob2 (x y : Operand) : opF tb1 ih { dst, op := .call { callee := .builtin .unsafeString, args := #[x, y], argTypes := #[71, 3] }, type := ty, pos, after, guard := g } s k = (ev s.t x).bind fun v => (ev s.t y).bind fun n => (ustrF tb1 s.m 71 v n).bind fun r => putT { s with m := r.2 } dst r.1 k := by
  have hc : cls tb1 (.call { callee := .builtin .unsafeString, args := #[x, y], argTypes := #[71, 3] }) = .L := by kernel_rfl
  unfold opF
  simp only [isCall, hc, lOp, evs, R.bind_bind, R.ok_bind, builtinLF]
end
theorem bytesOf_byts (l : List UInt8) : bytesOf (byts l) = .ok l := bytesOf_map l
theorem ustr_row {D : Mem} {b : Nat} {bs : List UInt8} (h : Vals D 5 b .row (byts bs)) (h0 : 0 < bs.length) (hl : bs.length < 16000000) : ∃ D', ustrF tb1 D 71 (.pointer (some ⟨b, 0, none⟩)) (.int .i64 ((bs.length : Nat) : Int)) = .ok (strOf bs, D') ∧ D'.next = D.next ∧ ∀ y, y ≠ b → D'.get y = D.get y := by
  obtain ⟨c, h1, h2⟩ := h
  have u1 : tb1.und 71 = some (.pointer 5) := by kernel_rfl
  have u2 : sizeF tb1 5 = .ok 1 := by kernel_rfl
  have hn : natV (.int .i64 ((bs.length : Nat) : Int)) = .ok bs.length := rfl
  have hg : c.gets bs.length 0 = some (byts bs) := gets_eq c bs.length 0 (byts bs) (byts_len bs) (fun j hj => by rw [Nat.zero_add]; exact h2 j (by rw [byts_len]; exact hj))
  have hb : (Nat.beq 5 5 && Nat.beq 1 1 && Nat.blt 0 bs.length && Nat.ble bs.length 16777216 && (Nat.blt 0 9223372036854775808 && Nat.blt (0 + bs.length) 9223372036854775808)) = true := by
    have a1 : Nat.blt 0 bs.length = true := by rw [Nat.blt_eq]; exact h0
    have a2 : Nat.ble bs.length 16777216 = true := Nat.ble_eq_true_of_le (by omega)
    have a3 : Nat.blt (0 + bs.length) 9223372036854775808 = true := by rw [Nat.blt_eq]; omega
    rw [a1, a2, a3]; rfl
  refine ⟨D.set b (.cells 5 .row (bif Nat.ble 0 (0 + bs.length) then 0 + bs.length else 0) c), ?_, next_set _ _ _, fun y hy => by rw [get_setMem, if_neg hy]⟩
  unfold ustrF
  simp only [hn, R.ok_bind, u1, h1, und5, u2, hb, cond_true, hg, bytesOf_byts]
set_option maxHeartbeats 4000000 in
theorem run_string {D : Mem} {bb lo : Nat} {bs : List UInt8} (h : Bd bb lo bs D) (h0 : 0 < bs.length) (hl : bs.length < 16000000) : ∃ D', Ans tb1 16 [.pointer (some ⟨bb, 0, none⟩)] D (strOf bs) D' ∧ Kp bb lo D D' := by
  obtain ⟨pa, x, b, hv, hpa, hs, hbb, hn⟩ := h
  have hld : loadF tb1 D.get 32 (.pointer (some ⟨bb, 1, none⟩)) = .ok x := load_vals und29 rfl hv rfl
  rcases hs with ⟨rfl, hnil⟩ | ⟨hne, rfl, hlt, hV⟩
  · have : bs.length = 0 := by rw [← byts_len, hnil]; rfl
    omega
  obtain ⟨D1, hu, hn1, hg1⟩ := ustr_row hV h0 hl
  rw [byts_len] at hld hv
  have hsd : builtinPF tb1 .unsafeSliceData [32] [.slice (some ⟨b, 0, none⟩) bs.length (mkX bs.length 1)] = .ok (.pointer (some ⟨b, 0, none⟩)) := by
    have hc : Nat.blt 0 (capN (mkX bs.length 1)) = true := by rw [capN_mkX (by omega), Nat.blt_eq]; exact h0
    unfold builtinPF
    simp only [hc, cond_true]
  have hln : builtinPF tb1 .len [32] [.slice (some ⟨b, 0, none⟩) bs.length (mkX bs.length 1)] = .ok (.int .i64 ((bs.length : Nat) : Int)) := len_slc und29
  obtain ⟨v, D', ha, rfl, rfl⟩ : ∃ v D', Ans tb1 16 [.pointer (some ⟨bb, 0, none⟩)] D v D' ∧ v = strOf bs ∧ D' = D1 := by
    refine ans_of_W (fn_at1 Tryz.func16) c11_eq (by rw [Tryz.ntmps16]; simp) (by kernel_rfl) (by kernel_rfl) ?_
    apply W.seq
    apply W.run 20
    · intro M
      simp (config := { maxSteps := 4000000 }) (disch := first | decide +kernel | omega | simp only [Wq, Nat.reduceEqDiff]) only [c11, Tryz.f16, Aq, Nat.ble, reduceIte, Nat.reduceEqDiff, Nat.reduceAdd]
      with_reducible rfl
    apply W.seq
    apply W.run 20
    · intro M
      simp (config := { maxSteps := 4000000 }) (disch := first | decide +kernel | omega | simp only [Wq, Nat.reduceEqDiff]) only [c11, Tryz.f16, Aq, Nat.ble, reduceIte, Nat.reduceEqDiff, Nat.reduceAdd, opF_nilCheck, nil_ptr, fa1, hld, ob1, ob2, hsd, hln, hu]
      with_reducible rfl
    show W tb1 _ _ _
    apply W.run 20
    · intro M
      simp (config := { maxSteps := 4000000 }) (disch := first | decide +kernel | omega | simp only [Wq, Nat.reduceEqDiff]) only [c11, Tryz.f16, Aq, Nat.ble, reduceIte, Nat.reduceEqDiff, Nat.reduceAdd]
      with_reducible rfl
    refine ⟨.inr rfl, _, [strOf bs], rfl, ?_, rfl, rfl⟩
    simp only [Tryz.f16, resF, ev_tmp, T.get_set, Nat.reduceEqDiff, if_true, if_false, evG_some, R.ok_bind]
  exact ⟨_, ha, ⟨by omega, fun y hy _ => hg1 y (by omega)⟩⟩

def encC (c : UInt8) : List UInt8 := if plainN c.toNat then [c] else [37, hexD (c.toNat / 16), hexD (c.toNat % 16)]
def encL (w : List UInt8) : List UInt8 := w.flatMap encC
def encW (w : List UInt8) : List UInt8 := if w = [] then [37] else encL w
theorem encC_len (c : UInt8) : 1 ≤ (encC c).length ∧ (encC c).length ≤ 3 := by
  unfold encC; split <;> simp
theorem encL_len : ∀ (w : List UInt8), w.length ≤ (encL w).length ∧ (encL w).length ≤ 3 * w.length
  | [] => by simp [encL]
  | c :: w => by
    have h1 := encC_len c
    have h2 := encL_len w
    unfold encL at *
    rw [List.flatMap_cons, List.length_append, List.length_cons]
    omega
theorem encL_snoc (w : List UInt8) (c : UInt8) : encL (w ++ [c]) = encL w ++ encC c := by simp [encL]
theorem hasG_same {A A' : Mem} : ∀ {G : Glb}, (∀ p ∈ G, A'.get p.1 = A.get p.1) → hasG A G = true → hasG A' G = true
  | [], _, _ => rfl
  | p :: l, h, hA => by
    unfold hasG at hA ⊢
    rw [h p (List.mem_cons_self ..)]
    rw [Bool.and_eq_true] at hA ⊢
    exact ⟨hA.1, hasG_same (fun q hq => h q (List.mem_cons_of_mem _ hq)) hA.2⟩
noncomputable def c4 : Code := Tryz.f6.body.getD .skip
noncomputable def c4b : Code := sub c4 [1,1,1,0,1,0,0]
theorem c4_eq : Tryz.f6.body = some (.seq (sub c4 [0]) (.seq (.seq (sub c4 [1,0,0]) (sub c4 [1,0,1])) (.seq (sub c4 [1,1,0]) (.seq (.seq (sub c4 [1,1,1,0,0]) (.block 0 (.loop c4b))) (.seq (sub c4 [1,1,1,1,0]) (sub c4 [1,1,1,1,1])))))) := by kernel_rfl
theorem c4b_eq : c4b = (.seq (sub c4b [0]) (.seq (sub c4b [1,0]) (.seq (.block 1 (.seq (sub c4b [1,1,0,0,0]) (.seq (.seq (sub c4b [1,1,0,0,1,0,0]) (sub c4b [1,1,0,0,1,0,1])) (.seq (sub c4b [1,1,0,0,1,1,0]) (sub c4b [1,1,0,0,1,1,1]))))) (sub c4b [1,1,1])))) := by kernel_rfl
theorem cv539 {n : Nat} (h : n < 256) : convPF tb1 5 42 (.int .u8 (n : Int)) = .ok (.int .u64 (n : Int)) := by
  have e : convPF tb1 5 42 (.int .u8 (n : Int)) = .ok (.int .u64 (wrapF .u64 (n : Int))) := by
    unfold convPF
    simp only [und5, und39]
  have hb : Nat.blt n 18446744073709551616 = true := by rw [Nat.blt_eq]; omega
  rw [e]
  show R.ok (Value.int .u64 (bif Nat.blt n 18446744073709551616 then ((n : Nat) : Int) else _)) = _
  rw [hb, cond_true]
theorem add256 {n : Nat} (h : n < 256) (d : Option TypeDesc) : binF .add d (.int .u64 ((256 : Nat) : Int)) (.int .u64 (n : Int)) = .ok (.int .u64 ((256 + n : Nat) : Int)) := by
  have hb : Nat.blt (256 + n) 18446744073709551616 = true := by rw [Nat.blt_eq]; omega
  show R.ok (Value.int .u64 (wrapF .u64 (((256 : Nat) : Int) + ((n : Nat) : Int)))) = _
  have e : ((256 : Nat) : Int) + ((n : Nat) : Int) = ((256 + n : Nat) : Int) := by omega
  rw [e]
  show R.ok (Value.int .u64 (bif Nat.blt (256 + n) 18446744073709551616 then ((256 + n : Nat) : Int) else _)) = _
  rw [hb, cond_true]
theorem zero31 : zeroF tb1 34 = .ok (.agg ⟨[.pointer none, .slice none 0 0]⟩) := by kernel_rfl
theorem cells31 : (Value.agg ⟨[.pointer none, .slice none 0 0]⟩).cells.toList = [.pointer none, .slice none 0 0] := by kernel_rfl
set_option maxHeartbeats 8000000 in
theorem run_write {A : Mem} {w : List UInt8} (hw : w.length < 4000000) (hG : hasG A G0 = true) (h7 : g64 < A.next) : ∃ A', Ans tb1 6 [strOf w] A (strOf (encW w)) A' := by
  obtain ⟨v, A', hg, rfl⟩ : ∃ v A', Ans tb1 6 [strOf w] A v A' ∧ v = strOf (encW w) := by
    refine ans_of_W (fn_at1 Tryz.func6) c4_eq (by rw [Tryz.ntmps6]; simp) (by kernel_rfl) (by kernel_rfl) ?_
    apply W.seq
    apply W.run 20
    · intro M
      simp (config := { maxSteps := 4000000 }) (disch := first | decide +kernel | omega | simp only [Wq, Nat.reduceEqDiff]) only [c4, Tryz.f6, Aq, Nat.ble, reduceIte, Nat.reduceEqDiff, Nat.reduceAdd]
      with_reducible rfl
    apply W.seq
    apply W.seq
    by_cases hw0 : w = []
    · subst hw0
      have e1 : strOpF .eql [] [] = .ok (.bool true) := rfl
      apply W.run 20
      · intro M
        simp (config := { maxSteps := 4000000 }) (disch := first | decide +kernel | omega | simp only [Wq, Nat.reduceEqDiff]) only [c4, Tryz.f6, Aq, Nat.ble, reduceIte, Nat.reduceEqDiff, Nat.reduceAdd, binF_str, e1]
        with_reducible rfl
      show W tb1 _ _ _
      apply W.run 20
      · intro M
        simp (config := { maxSteps := 4000000 }) (disch := first | decide +kernel | omega | simp only [Wq, Nat.reduceEqDiff]) only [c4, Tryz.f6, Aq, Nat.ble, reduceIte, Nat.reduceEqDiff, Nat.reduceAdd]
        with_reducible rfl
      refine ⟨.inr rfl, _, [strOf [37]], rfl, ?_, rfl⟩
      simp only [Tryz.f6, resF, ev_tmp, T.get_set, Nat.reduceEqDiff, if_true, if_false, evG_some, R.ok_bind]
    · have e1 : strOpF .eql w [] = .ok (.bool false) := by
        cases w with
        | nil => exact absurd rfl hw0
        | cons x q => rfl
      have hwp : 0 < w.length := List.length_pos_iff.2 hw0
      have hz : (Way.ptr.at A.next) = .pointer (some ⟨A.next, 0, none⟩) := rfl
      have ht := bytes_of_str (tb := tb1) (l := w) (s := 9) (d := 32) (e := 5) und9 und29 und5 (by omega)
      have hsl : (Way.slc w.length (mkX w.length 1)).at (A.next + 1) = .slice (some ⟨A.next + 1, 0, none⟩) w.length (mkX w.length 1) := rfl
      have hln : builtinPF tb1 .len [32] [.slice (some ⟨A.next + 1, 0, none⟩) w.length (mkX w.length 1)] = .ok (.int .i64 ((w.length : Nat) : Int)) := len_slc und29
      apply W.run 20
      · intro M
        simp (config := { maxSteps := 4000000 }) (disch := first | decide +kernel | omega | simp only [Wq, Nat.reduceEqDiff]) only [c4, Tryz.f6, Aq, Nat.ble, reduceIte, Nat.reduceEqDiff, Nat.reduceAdd, binF_str, e1]
        with_reducible rfl
      show W tb1 _ _ _
      apply W.run 20
      · intro M
        simp (config := { maxSteps := 4000000 }) (disch := first | decide +kernel | omega | simp only [Wq, Nat.reduceEqDiff]) only [c4, Tryz.f6, Aq, Nat.ble, reduceIte, Nat.reduceEqDiff, Nat.reduceAdd]
        with_reducible rfl
      show W tb1 _ _ _
      apply W.seq
      apply W.run 20
      · intro M
        simp (config := { maxSteps := 4000000 }) (disch := first | decide +kernel | omega | simp only [Wq, Nat.reduceEqDiff]) only [c4, Tryz.f6, Aq, Nat.ble, reduceIte, Nat.reduceEqDiff, Nat.reduceAdd, zero31, cells31, hz]
        with_reducible rfl
      show W tb1 _ _ _
      apply W.seq
      apply W.seq
      have hn1 : (A.alloc (rowOb 34 [.pointer none, .slice none 0 0])).next = A.next + 1 := next_alloc _ _
      apply W.run 20
      · intro M
        simp (config := { maxSteps := 4000000 }) (disch := first | decide +kernel | omega | simp only [Wq, Nat.reduceEqDiff]) only [c4, Tryz.f6, Aq, Nat.ble, reduceIte, Nat.reduceEqDiff, Nat.reduceAdd, opF_convBytes (h := und9) (h' := und29), ht, hn1, hsl, hln]
        with_reducible rfl
      show W tb1 _ _ _
      apply W.block
      have hn2 : ((A.alloc (rowOb 34 [.pointer none, .slice none 0 0])).alloc (.cells 5 .mark 0 (T.puts .e 0 (w.map byteV)))).next = A.next + 2 := by rw [next_alloc, hn1]
      have hB0 : Bd A.next (A.next + 2) [] ((A.alloc (rowOb 34 [.pointer none, .slice none 0 0])).alloc (.cells 5 .mark 0 (T.puts .e 0 (w.map byteV)))) :=
        ⟨.pointer none, .slice none 0 0, A.next + 2, vals_puts (by rw [get_alloc_ne (by rw [hn1]; omega), get_alloc_self]; rfl), .inl rfl, .inl ⟨rfl, rfl⟩, ⟨by omega, Nat.le_refl _⟩, by rw [hn2]; exact Nat.le_refl _⟩
      have hW0 : Vals ((A.alloc (rowOb 34 [.pointer none, .slice none 0 0])).alloc (.cells 5 .mark 0 (T.puts .e 0 (w.map byteV)))) 5 (A.next + 1) .mark (byts w) := vals_puts (by rw [← hn1]; exact get_alloc_self _ _)
      have hA0 : ∀ y, y < A.next → ((A.alloc (rowOb 34 [.pointer none, .slice none 0 0])).alloc (.cells 5 .mark 0 (T.puts .e 0 (w.map byteV)))).get y = A.get y := fun y hy => by
        rw [get_alloc_ne (by rw [hn1]; omega), get_alloc_ne (by omega)]
      generalize ((A.alloc (rowOb 34 [.pointer none, .slice none 0 0])).alloc (.cells 5 .mark 0 (T.puts .e 0 (w.map byteV)))) = D0 at *
      refine W.up w.length (fun k t D => Bd A.next (A.next + 2) (encL (w.take k)) D ∧ Kp A.next (A.next + 2) D0 D ∧ Sl t [(3, .pointer (some ⟨A.next, 0, none⟩)), (9, .slice (some ⟨A.next + 1, 0, none⟩) w.length (mkX w.length 1)), (10, .int .i64 ((w.length : Nat) : Int)), (11, .int .i64 ((k : Nat) : Int))]) ?_ (Nat.zero_le _) ⟨hB0, Kp.refl _ _ _, ?_⟩
      · rintro k t D hk ⟨hB, hK, g3, g9, g10, g11, -⟩
        have hGD : ∀ D1, Kp A.next (A.next + 2) D D1 → hasG D1 G0 = true := fun D1 h => hasG_same (fun p hp => by
          rw [List.mem_singleton.1 hp]
          show D1.get g64 = A.get g64
          rw [h.g g64 (by omega) (by omega), hK.g g64 (by omega) (by omega), hA0 g64 h7]) hG
        rw [c4b_eq]
        apply W.seq
        rcases Nat.lt_or_eq_of_le hk with hlt | rfl
        · have d1 : decide (k < w.length) = true := decide_eq_true hlt
          have hix : indexAddrF tb1 32 (.slice (some ⟨A.next + 1, 0, none⟩) w.length (mkX w.length 1)) (.int .i64 ((k : Nat) : Int)) = .ok (.pointer (some ⟨A.next + 1, k, none⟩)) := by
            have := indexAddr_slc (tb := tb1) (t := 32) (len := w.length) (cap := mkX w.length 1) (b := A.next + 1) (o := 0) (i := k) (k := .i64) und29 (by kernel_rfl) hlt
            rwa [Nat.zero_add] at this
          have hld : loadF tb1 D.get 5 (.pointer (some ⟨A.next + 1, k, none⟩)) = .ok (.int .u8 (((w[k]).toNat : Nat) : Int)) :=
            load_vals und5 rfl (hW0.same (hK.g (A.next + 1) (by omega) (by omega))) (by unfold byts; rw [List.getElem?_map, List.getElem?_eq_getElem hlt]; rfl)
          have htk : w.take (k + 1) = w.take k ++ [w[k]] := List.take_succ_eq_append_getElem hlt
          have hel := (encL_len (w.take k)).2
          have hkl : (w.take k).length ≤ w.length := by rw [List.length_take]; omega
          have hcb := byte_lt w[k]
          generalize w[k] = c at hld htk hcb
          apply W.run 20
          · intro M
            simp (config := { maxSteps := 4000000 }) (disch := first | decide +kernel | omega | simp only [Wq, Nat.reduceEqDiff]) only [c4b, c4, Tryz.f6, Aq, Nat.ble, reduceIte, Nat.reduceEqDiff, Nat.reduceAdd, g10, g11, d1]
            with_reducible rfl
          show W tb1 _ _ _
          apply W.seq
          apply W.run 20
          · intro M
            simp (config := { maxSteps := 4000000 }) (disch := first | decide +kernel | omega | simp only [Wq, Nat.reduceEqDiff]) only [c4b, c4, Tryz.f6, Aq, Nat.ble, reduceIte, Nat.reduceEqDiff, Nat.reduceAdd]
            with_reducible rfl
          show W tb1 _ _ _
          apply W.seq
          apply W.block
          apply W.seq
          apply W.run 20
          · intro M
            simp (config := { maxSteps := 4000000 }) (disch := first | decide +kernel | omega | simp only [Wq, Nat.reduceEqDiff]) only [c4b, c4, Tryz.f6, Aq, Nat.ble, reduceIte, Nat.reduceEqDiff, Nat.reduceAdd, g9, g11, hix, hld]
            with_reducible rfl
          show W tb1 _ _ _
          apply W.seq
          apply W.seq
          apply W.run 20
          · intro M
            simp (config := { maxSteps := 4000000 }) (disch := first | decide +kernel | omega | simp only [Wq, Nat.reduceEqDiff]) only [c4b, c4, Tryz.f6, Aq, Nat.ble, reduceIte, Nat.reduceEqDiff, Nat.reduceAdd, k7 hcb]
            with_reducible rfl
          show W tb1 _ _ _
          cases hp : plainN c.toNat with
          | true =>
            have he : encC c = [c] := by unfold encC; rw [if_pos hp]
            obtain ⟨D1, ⟨g, hg⟩, hB1, hK1⟩ := run_byte (c := c) hB (by omega)
            apply W.runG (g) 20
            · intro M hM
              simp (config := { maxSteps := 4000000 }) (disch := first | decide +kernel | omega | simp only [Wq, Nat.reduceEqDiff]) only [c4b, c4, Tryz.f6, Aq, Nat.ble, reduceIte, Nat.reduceEqDiff, Nat.reduceAdd, g3, hg]
              with_reducible rfl
            show W tb1 _ _ _
            apply W.run 20
            · intro M
              simp (config := { maxSteps := 4000000 }) (disch := first | decide +kernel | omega | simp only [Wq, Nat.reduceEqDiff]) only [c4b, c4, Tryz.f6, Aq, Nat.ble, reduceIte, Nat.reduceEqDiff, Nat.reduceAdd, g11]
              with_reducible rfl
            refine ⟨hlt, _, _, rfl, by rw [htk, encL_snoc, he]; exact hB1, hK.trans hK1, ?_⟩
            simp only [Sl_cons, Sl_nil, T.get_set, T.puts_cons, T.puts_nil, Nat.reduceEqDiff, Nat.reduceAdd, if_true, if_false, and_true, true_and, g3, g9, g10]
          | false =>
            have he : encC c = [37] ++ [hexD (c.toNat / 16), hexD (c.toNat % 16)] := by unfold encC; rw [if_neg (by rw [hp]; simp)]; rfl
            obtain ⟨D1, ⟨g, hg⟩, hB1, hK1⟩ := run_byte (c := 37) hB (by omega)
            obtain ⟨v2, D2, ⟨g', hg'⟩, hB2, hK2⟩ := run_str (cs := [hexD (c.toNat / 16), hexD (c.toNat % 16)]) hB1 (by simp) (by rw [List.length_append]; simp; omega)
            have hk10 : ∀ ih, callF tb1 ih (.fn 15 [.int .u64 ((256 + c.toNat : Nat) : Int), .int .i64 ((16 : Nat) : Int)]) D1 = .ok (.val (strOf (twoD c.toNat)) D1) := fun ih => by
              have := k10 (ih := ih) (n := 256 + c.toNat) (hGD D1 hK1) (by omega) (by omega)
              rwa [Nat.add_sub_cancel_left] at this
            have hsl : sliceF tb1 9 (strOf (twoD c.toNat)) (some (.int .i64 ((1 : Nat) : Int))) none none = .ok (strOf [hexD (c.toNat / 16), hexD (c.toNat % 16)]) := by
              rw [slice_from und9 (by simp [twoD])]; rfl
            have e37 : (UInt8.toNat 37) = 37 := rfl
            rw [e37] at hg
            apply W.run 20
            · intro M
              simp (config := { maxSteps := 4000000 }) (disch := first | decide +kernel | omega | simp only [Wq, Nat.reduceEqDiff]) only [c4b, c4, Tryz.f6, Aq, Nat.ble, reduceIte, Nat.reduceEqDiff, Nat.reduceAdd]
              with_reducible rfl
            show W tb1 _ _ _
            apply W.seq
            apply W.runG (g) 20
            · intro M hM
              simp (config := { maxSteps := 4000000 }) (disch := first | decide +kernel | omega | simp only [Wq, Nat.reduceEqDiff]) only [c4b, c4, Tryz.f6, Aq, Nat.ble, reduceIte, Nat.reduceEqDiff, Nat.reduceAdd, g3, hg]
              with_reducible rfl
            show W tb1 _ _ _
            apply W.runG (g') 20
            · intro M hM
              simp (config := { maxSteps := 4000000 }) (disch := first | decide +kernel | omega | simp only [Wq, Nat.reduceEqDiff]) only [c4b, c4, Tryz.f6, Aq, Nat.ble, reduceIte, Nat.reduceEqDiff, Nat.reduceAdd, g3, cv539 hcb, add256 hcb, hk10, hsl, hg']
              with_reducible rfl
            show W tb1 _ _ _
            apply W.run 20
            · intro M
              simp (config := { maxSteps := 4000000 }) (disch := first | decide +kernel | omega | simp only [Wq, Nat.reduceEqDiff]) only [c4b, c4, Tryz.f6, Aq, Nat.ble, reduceIte, Nat.reduceEqDiff, Nat.reduceAdd, g11]
              with_reducible rfl
            refine ⟨hlt, _, _, rfl, by rw [htk, encL_snoc, he, ← List.append_assoc]; exact hB2, (hK.trans hK1).trans hK2, ?_⟩
            simp only [Sl_cons, Sl_nil, T.get_set, T.puts_cons, T.puts_nil, Nat.reduceEqDiff, Nat.reduceAdd, if_true, if_false, and_true, true_and, g3, g9, g10]
        · have d1 : decide (w.length < w.length) = false := by simp
          apply W.run 20
          · intro M
            simp (config := { maxSteps := 4000000 }) (disch := first | decide +kernel | omega | simp only [Wq, Nat.reduceEqDiff]) only [c4b, c4, Tryz.f6, Aq, Nat.ble, reduceIte, Nat.reduceEqDiff, Nat.reduceAdd, g10, g11, d1]
            with_reducible rfl
          show W tb1 _ _ _
          apply W.seq
          apply W.run 20
          · intro M
            simp (config := { maxSteps := 4000000 }) (disch := first | decide +kernel | omega | simp only [Wq, Nat.reduceEqDiff]) only [c4b, c4, Tryz.f6, Aq, Nat.ble, reduceIte, Nat.reduceEqDiff, Nat.reduceAdd]
            with_reducible rfl
          show W tb1 _ _ _
          rw [List.take_length] at hB
          have hel := encL_len w
          obtain ⟨D1, ⟨g, hg⟩, -⟩ := run_string hB (by omega) (by omega)
          apply W.seq
          apply W.runG (g) 20
          · intro M hM
            simp (config := { maxSteps := 4000000 }) (disch := first | decide +kernel | omega | simp only [Wq, Nat.reduceEqDiff]) only [c4, Tryz.f6, Aq, Nat.ble, reduceIte, Nat.reduceEqDiff, Nat.reduceAdd, g3, hg]
            with_reducible rfl
          show W tb1 _ _ _
          apply W.run 20
          · intro M
            simp (config := { maxSteps := 4000000 }) (disch := first | decide +kernel | omega | simp only [Wq, Nat.reduceEqDiff]) only [c4, Tryz.f6, Aq, Nat.ble, reduceIte, Nat.reduceEqDiff, Nat.reduceAdd]
            with_reducible rfl
          refine ⟨.inr rfl, _, [strOf (encL w)], rfl, ?_, by unfold encW; rw [if_neg hw0]; rfl⟩
          simp only [Tryz.f6, resF, ev_tmp, T.get_set, Nat.reduceEqDiff, if_true, if_false, evG_some, R.ok_bind]
      · simp only [Sl_cons, Sl_nil, T.get_set, T.puts_cons, T.puts_nil, Nat.reduceEqDiff, Nat.reduceAdd, if_true, if_false, and_true, true_and]
  exact ⟨_, hg⟩

def decB (a b : UInt8) : UInt8 := UInt8.ofNat (hexN a * 16 + hexN b)
def decL : List UInt8 → Option (List UInt8)
  | [] => some []
  | x :: q => if x = 37 then match q with
      | a :: b :: q => if a ∈ hexs ∧ b ∈ hexs then (decL q).map (decB a b :: ·) else none
      | _ => none
    else (decL q).map (x :: ·)
def decW (l : List UInt8) : Option (List UInt8) := if l = [37] then some [] else decL l
theorem decL_nil : decL [] = some [] := by rw [decL]
theorem decL_pct (a b : UInt8) (q : List UInt8) : decL (37 :: a :: b :: q) = if a ∈ hexs ∧ b ∈ hexs then (decL q).map (decB a b :: ·) else none := by
  rw [decL, if_pos rfl]
theorem decL_few {q : List UInt8} (h : q.length < 2) : decL (37 :: q) = none := by
  match q, h with
  | [], _ => rw [decL, if_pos rfl]; intro a b q h; cases h
  | [_], _ => rw [decL, if_pos rfl]; intro a b q h; cases h
theorem decL_other {x : UInt8} (h : x ≠ 37) (q : List UInt8) : decL (x :: q) = (decL q).map (x :: ·) := by
  match q with
  | [] => conv => lhs; rw [decL.eq_def]
          exact if_neg h
  | [_] => conv => lhs; rw [decL.eq_def]
           exact if_neg h
  | a :: b :: q => conv => lhs; rw [decL.eq_def]
                   exact if_neg h
theorem decL_app : ∀ {p : List UInt8}, (∀ x ∈ p, x ≠ 37) → ∀ q, decL (p ++ q) = (decL q).map (p ++ ·)
  | [], _, q => by simp
  | x :: p, h, q => by
    rw [List.cons_append, decL_other (h x (by simp)), decL_app (fun y hy => h y (by simp [hy])) q]
    cases decL q <;> rfl
theorem cutP_not37 : ∀ (l : List UInt8), ∀ x ∈ (cutP l).1, x ≠ 37
  | [], x, h => by cases h
  | y :: l, x, h => by
    unfold cutP at h
    split at h
    · cases h
    · rename_i e
      rcases List.mem_cons.1 h with rfl | h
      · exact e
      · exact cutP_not37 l x h
theorem decL_cut (l : List UInt8) : decL l = if (cutP l).2.2 then (decL (37 :: (cutP l).2.1)).map ((cutP l).1 ++ ·) else some (cutP l).1 := by
  cases hc : (cutP l).2.2 with
  | true =>
    rw [if_pos rfl]
    have := cutP_yes hc
    calc decL l = decL ((cutP l).1 ++ 37 :: (cutP l).2.1) := by rw [← this]
      _ = _ := decL_app (cutP_not37 l) _
  | false =>
    rw [if_neg (by simp)]
    have h2 := decL_app (cutP_not37 l) []
    rw [List.append_nil, decL_nil] at h2
    have h3 := (cutP_no hc).1
    rw [show decL l = decL (cutP l).1 by rw [h3], h2]
    simp
theorem hex_all : ((List.range 256).all fun n => (hexB n == hexs.contains (UInt8.ofNat n)) && Nat.blt (hexN (UInt8.ofNat n)) 256) = true := by decide +kernel
theorem ofNat_toNat (c : UInt8) : UInt8.ofNat c.toNat = c := by
  apply UInt8.toNat_inj.1
  rw [UInt8.toNat_ofNat']
  have := c.toNat_lt
  omega
theorem hexB_mem (c : UInt8) : hexB c.toNat = true ↔ c ∈ hexs := by
  have h := List.all_eq_true.1 hex_all c.toNat (by rw [List.mem_range]; exact c.toNat_lt)
  rw [Bool.and_eq_true, ofNat_toNat, beq_iff_eq] at h
  rw [h.1]; simp
theorem hexN_lt : ∀ {c : UInt8}, c ∈ hexs → hexN c < 16 := by
  have h : hexs.all (fun c => Nat.blt (hexN c) 16) = true := by decide +kernel
  intro c hc
  have := List.all_eq_true.1 h c hc
  rwa [Nat.blt_eq] at this
theorem hexD_mem : ∀ {n : Nat}, n < 16 → hexD n ∈ hexs ∧ hexN (hexD n) = n := by
  have h : ((List.range 16).all fun n => hexs.contains (hexD n) && Nat.beq (hexN (hexD n)) n) = true := by decide +kernel
  intro n hn
  have := List.all_eq_true.1 h n (by simpa using hn)
  rw [Bool.and_eq_true] at this
  exact ⟨by simpa using this.1, Nat.eq_of_beq_eq_true this.2⟩
theorem trimD_two (a b : UInt8) : trimD [a, b] = [] ↔ (a ∈ hexs ∧ b ∈ hexs) := by
  rw [← hexB_mem, ← hexB_mem]
  unfold trimD trimR trimL
  cases ha : hexB a.toNat <;> cases hb : hexB b.toNat <;> simp [List.dropWhile, ha, hb]
theorem encC_dec (c : UInt8) (q : List UInt8) : decL (encC c ++ q) = (decL q).map (c :: ·) := by
  unfold encC
  split
  · rename_i h
    have hc : c ≠ 37 := by
      rintro rfl
      simp [plainN] at h
    rw [List.singleton_append, decL_other hc]
  · have hlt := byte_lt c
    obtain ⟨m1, n1⟩ := hexD_mem (n := c.toNat / 16) (by omega)
    obtain ⟨m2, n2⟩ := hexD_mem (n := c.toNat % 16) (by omega)
    show decL (37 :: hexD (c.toNat / 16) :: hexD (c.toNat % 16) :: q) = _
    rw [decL_pct, if_pos ⟨m1, m2⟩]
    have : decB (hexD (c.toNat / 16)) (hexD (c.toNat % 16)) = c := by
      unfold decB
      rw [n1, n2, Nat.div_add_mod', ofNat_toNat]
    rw [this]
theorem encL_dec : ∀ (w : List UInt8), decL (encL w) = some w
  | [] => decL_nil
  | c :: w => by
    show decL (encC c ++ encL w) = _
    rw [encC_dec, encL_dec w]; rfl
theorem encL_pct (w : List UInt8) : encL w ≠ [37] := by
  intro h
  have := encL_dec w
  rw [h, decL_few (by simp)] at this
  cases this
theorem encW_dec (w : List UInt8) : decW (encW w) = some w := by
  unfold encW decW
  by_cases hw : w = []
  · rw [if_pos hw, if_pos rfl, hw]
  · rw [if_neg hw, if_neg (encL_pct w), encL_dec]
theorem encW_inj {a b : List UInt8} (h : encW a = encW b) : a = b := by
  have h1 := encW_dec a
  rw [h, encW_dec] at h1
  cases h1; rfl
theorem encW_ne (w : List UInt8) : encW w ≠ [] := by
  unfold encW
  split
  · simp
  · rename_i h
    intro h2
    have := (encL_len w).1
    rw [h2] at this
    cases w with
    | nil => exact h rfl
    | cons => simp at this
def okC (c : UInt8) : Bool := Nat.blt 32 c.toNat && Nat.ble c.toNat 126 && !Nat.beq c.toNat 58
theorem hexD_ok : ∀ {n : Nat}, n < 16 → okC (hexD n) = true := by
  have h : ((List.range 16).all fun n => okC (hexD n)) = true := by decide +kernel
  intro n hn
  exact List.all_eq_true.1 h n (by simpa using hn)
theorem encW_ok (w : List UInt8) : ∀ c ∈ encW w, okC c = true := by
  intro c hc
  unfold encW at hc
  split at hc
  · rw [List.mem_singleton.1 hc]; rfl
  · unfold encL at hc
    obtain ⟨x, -, hx⟩ := List.mem_flatMap.1 hc
    unfold encC at hx
    have hlt := byte_lt x
    split at hx
    · rename_i h
      rw [List.mem_singleton.1 hx]
      unfold plainN at h
      unfold okC
      simp only [Bool.and_eq_true] at h ⊢
      exact ⟨h.1.1, h.2⟩
    · simp only [List.mem_cons, List.not_mem_nil, or_false] at hx
      rcases hx with rfl | rfl | rfl
      · rfl
      · exact hexD_ok (by omega)
      · exact hexD_ok (by omega)
theorem decL_len : ∀ (n : Nat) (l w : List UInt8), l.length ≤ n → decL l = some w → w.length ≤ l.length
  | _, [], w, _, h => by rw [decL_nil] at h; cases h; simp
  | 0, x :: q, w, hn, _ => by simp at hn
  | n + 1, x :: q, w, hn, h => by
    rw [List.length_cons] at hn
    by_cases hx : x = 37
    · subst hx
      match q, hn, h with
      | [], _, h => rw [decL_few (by simp)] at h; cases h
      | [_], _, h => rw [decL_few (by simp)] at h; cases h
      | a :: b :: q, hn, h =>
        rw [decL_pct] at h
        split at h
        · obtain ⟨v, hv, rfl⟩ := Option.map_eq_some_iff.1 h
          have := decL_len n q v (by simp at hn; omega) hv
          simp; omega
        · cases h
    · rw [decL_other hx] at h
      obtain ⟨v, hv, rfl⟩ := Option.map_eq_some_iff.1 h
      have := decL_len n q v (by omega) hv
      simp; omega
theorem decW_len {l w : List UInt8} (h : decW l = some w) : w.length ≤ l.length := by
  unfold decW at h
  split at h
  · cases h; simp
  · exact decL_len l.length l w (Nat.le_refl _) h
theorem decW_none {l : List UInt8} (h : decW l = none) : (cutP l).2.2 = true := by
  unfold decW at h
  split at h
  · cases h
  · cases hc : (cutP l).2.2 with
    | true => rfl
    | false => rw [decL_cut, hc, if_neg (by simp)] at h; cases h

theorem slc_str {A : Mem} {b : Nat} {l : List UInt8} {x : Value} (h : Slc A 5 b (byts l) x) : convRF tb1 A.get 32 9 x = .ok (strOf l) := by
  rcases h with ⟨rfl, hl⟩ | ⟨k, c, rfl, h4, h5, h6⟩
  · have : l = [] := by cases l with
      | nil => rfl
      | cons _ _ => simp [byts] at hl
    subst this
    unfold convRF
    simp only [und29, und9, und5]
    rfl
  · have hb : Byt A b 5 k l := by
      obtain ⟨cs, e1, e2⟩ := h5
      exact ⟨cs, e1, fun i hi => e2 i (by rw [byts_len]; exact hi)⟩
    rw [byts_len]
    exact str_of_byt und29 und9 und5 hb
def readV : Option (List UInt8) → Value
  | some w => .tuple ⟨[strOf w, .bool true]⟩
  | none => .tuple ⟨[strOf [], .bool false]⟩
theorem cv395 {n : Nat} (h : n < 256) : convPF tb1 42 5 (.int .u64 (n : Int)) = .ok (.int .u8 (n : Int)) := by
  have e : convPF tb1 42 5 (.int .u64 (n : Int)) = .ok (.int .u8 (wrapF .u8 (n : Int))) := by
    unfold convPF
    simp only [und5, und39]
  have hb : Nat.blt n 256 = true := by rw [Nat.blt_eq]; exact h
  rw [e]
  show R.ok (Value.int .u8 (bif Nat.blt n 256 then ((n : Nat) : Int) else _)) = _
  rw [hb, cond_true]
noncomputable def c5 : Code := Tryz.f7.body.getD .skip
noncomputable def c5b : Code := sub c5 [1,1,1,1,0,0,0]
theorem c5_eq : Tryz.f7.body = some (.seq (sub c5 [0]) (.seq (.seq (sub c5 [1,0,0]) (sub c5 [1,0,1])) (.seq (sub c5 [1,1,0]) (.seq (sub c5 [1,1,1,0]) (.seq (.block 0 (.loop c5b)) (.seq (sub c5 [1,1,1,1,1,0]) (sub c5 [1,1,1,1,1,1]))))))) := by kernel_rfl
theorem c5b_eq : c5b = (.seq (.seq (sub c5b [0,0]) (sub c5b [0,1])) (.block 1 (.seq (.seq (sub c5b [1,0,0,0]) (sub c5b [1,0,0,1])) (.seq (sub c5b [1,0,1,0]) (.seq (sub c5b [1,0,1,1,0]) (.seq (sub c5b [1,0,1,1,1,0]) (sub c5b [1,0,1,1,1,1]))))))) := by kernel_rfl
theorem cutP_len (l : List UInt8) : (cutP l).1.length + (cutP l).2.1.length ≤ l.length := by
  cases hc : (cutP l).2.2 with
  | true =>
    have := congrArg List.length (cutP_yes hc)
    simp only [List.length_append, List.length_cons] at this
    omega
  | false =>
    obtain ⟨h1, h2⟩ := cutP_no hc
    rw [h1, h2]; simp
def restD (more : Bool) (rest : List UInt8) : Option (List UInt8) := if more then decL (37 :: rest) else some []
theorem restD_cut (l : List UInt8) : decL l = (restD (cutP l).2.2 (cutP l).2.1).map ((cutP l).1 ++ ·) := by
  rw [decL_cut]
  unfold restD
  cases (cutP l).2.2 <;> simp
set_option maxHeartbeats 8000000 in
theorem run_read {A : Mem} {l : List UInt8} (hl : l.length < 900000) : ∃ A', Ans tb1 7 [strOf l] A (readV (decW l)) A' := by
  obtain ⟨v, A', hg, rfl⟩ : ∃ v A', Ans tb1 7 [strOf l] A v A' ∧ v = readV (decW l) := by
    refine ans_of_W (fn_at1 Tryz.func7) c5_eq (by rw [Tryz.ntmps7]; simp) (by kernel_rfl) (by kernel_rfl) ?_
    apply W.seq
    apply W.run 20
    · intro M
      simp (config := { maxSteps := 4000000 }) (disch := first | decide +kernel | omega | simp only [Wq, Nat.reduceEqDiff]) only [c5, Tryz.f7, Aq, Nat.ble, reduceIte, Nat.reduceEqDiff, Nat.reduceAdd]
      with_reducible rfl
    apply W.seq
    apply W.seq
    by_cases hp : l = [37]
    · have d1 : strOpF .eql l [37] = .ok (.bool true) := by rw [hp]; rfl
      apply W.run 20
      · intro M
        simp (config := { maxSteps := 4000000 }) (disch := first | decide +kernel | omega | simp only [Wq, Nat.reduceEqDiff]) only [c5, Tryz.f7, Aq, Nat.ble, reduceIte, Nat.reduceEqDiff, Nat.reduceAdd, binF_str, d1]
        with_reducible rfl
      show W tb1 _ _ _
      apply W.run 20
      · intro M
        simp (config := { maxSteps := 4000000 }) (disch := first | decide +kernel | omega | simp only [Wq, Nat.reduceEqDiff]) only [c5, Tryz.f7, Aq, Nat.ble, reduceIte, Nat.reduceEqDiff, Nat.reduceAdd]
        with_reducible rfl
      refine ⟨.inr rfl, _, [strOf [], .bool true], rfl, ?_, by unfold decW; rw [if_pos hp]; rfl⟩
      simp only [Tryz.f7, resF, ev_tmp, T.get_set, Nat.reduceEqDiff, if_true, if_false, evG_some, R.ok_bind]
    · have d1 : decide (l = [37]) = false := decide_eq_false hp
      have hdw : decW l = decL l := by unfold decW; rw [if_neg hp]
      obtain ⟨g, hg⟩ := run_cut (A := A) (l := l) (by omega)
      unfold cutV pct at hg
      have hcl := cutP_len l
      have hrc := restD_cut l
      have ht := bytes_of_str (tb := tb1) (l := (cutP l).1) (s := 9) (d := 32) (e := 5) und9 und29 und5 (by omega)
      have hsl : (Way.slc (cutP l).1.length (mkX (cutP l).1.length 1)).at A.next = .slice (some ⟨A.next, 0, none⟩) (cutP l).1.length (mkX (cutP l).1.length 1) := rfl
      apply W.run 20
      · intro M
        simp (config := { maxSteps := 4000000 }) (disch := first | decide +kernel | omega | simp only [Wq, Nat.reduceEqDiff]) only [c5, Tryz.f7, Aq, Nat.ble, reduceIte, Nat.reduceEqDiff, Nat.reduceAdd, d1]
        with_reducible rfl
      show W tb1 _ _ _
      apply W.run 20
      · intro M
        simp (config := { maxSteps := 4000000 }) (disch := first | decide +kernel | omega | simp only [Wq, Nat.reduceEqDiff]) only [c5, Tryz.f7, Aq, Nat.ble, reduceIte, Nat.reduceEqDiff, Nat.reduceAdd]
        with_reducible rfl
      show W tb1 _ _ _
      apply W.seq
      apply W.runG (g) 20
      · intro M hM
        simp (config := { maxSteps := 4000000 }) (disch := first | decide +kernel | omega | simp only [Wq, Nat.reduceEqDiff]) only [c5, Tryz.f7, Aq, Nat.ble, reduceIte, Nat.reduceEqDiff, Nat.reduceAdd, hg, List.getElem?_cons_zero, List.getElem?_cons_succ, R.ok_bind]
        with_reducible rfl
      show W tb1 _ _ _
      apply W.seq
      apply W.run 20
      · intro M
        simp (config := { maxSteps := 4000000 }) (disch := first | decide +kernel | omega | simp only [Wq, Nat.reduceEqDiff]) only [c5, Tryz.f7, Aq, Nat.ble, reduceIte, Nat.reduceEqDiff, Nat.reduceAdd, opF_convBytes (h := und9) (h' := und29), ht, hsl]
        with_reducible rfl
      show W tb1 _ _ _
      apply W.seq
      apply W.block
      have hS0 : Slc (A.alloc (.cells 5 .mark 0 (T.puts .e 0 ((cutP l).1.map byteV)))) 5 A.next (byts (cutP l).1) (.slice (some ⟨A.next, 0, none⟩) (cutP l).1.length (mkX (cutP l).1.length 1)) :=
        .inr ⟨.mark, _, by rw [byts_len], by rw [next_alloc]; omega, vals_puts (get_alloc_self _ _), .inr ⟨by rw [byts_len], .inr rfl⟩⟩
      generalize (A.alloc (.cells 5 .mark 0 (T.puts .e 0 ((cutP l).1.map byteV)))) = D0 at *
      refine W.fall (fun k t D => ∃ word rest more x b, k = rest.length ∧ decL l = (restD more rest).map (word ++ ·) ∧ word.length + rest.length ≤ l.length ∧ Slc D 5 b (byts word) x ∧ Sl t [(5, strOf rest), (6, .bool more), (7, x)]) ?_ (k := (cutP l).2.1.length) ⟨(cutP l).1, (cutP l).2.1, (cutP l).2.2, _, _, rfl, hrc, hcl, hS0, ?_⟩
      · rintro k t D ⟨word, rest, more, x, b, rfl, hdec, hlen, hS, g5, g6, g7, -⟩
        rw [c5b_eq]
        cases more with
        | false =>
          have hd : decL l = some word := by rw [hdec]; simp [restD]
          have hstr := slc_str hS
          apply W.seq
          apply W.seq
          apply W.run 20
          · intro M
            simp (config := { maxSteps := 4000000 }) (disch := first | decide +kernel | omega | simp only [Wq, Nat.reduceEqDiff]) only [c5b, c5, Tryz.f7, Aq, Nat.ble, reduceIte, Nat.reduceEqDiff, Nat.reduceAdd, g6]
            with_reducible rfl
          show W tb1 _ _ _
          apply W.run 20
          · intro M
            simp (config := { maxSteps := 4000000 }) (disch := first | decide +kernel | omega | simp only [Wq, Nat.reduceEqDiff]) only [c5b, c5, Tryz.f7, Aq, Nat.ble, reduceIte, Nat.reduceEqDiff, Nat.reduceAdd]
            with_reducible rfl
          show W tb1 _ _ _
          apply W.seq
          apply W.run 20
          · intro M
            simp (config := { maxSteps := 4000000 }) (disch := first | decide +kernel | omega | simp only [Wq, Nat.reduceEqDiff]) only [c5, Tryz.f7, Aq, Nat.ble, reduceIte, Nat.reduceEqDiff, Nat.reduceAdd, g7, opF_convStr (h := und29) (h' := und9), hstr]
            with_reducible rfl
          show W tb1 _ _ _
          apply W.run 20
          · intro M
            simp (config := { maxSteps := 4000000 }) (disch := first | decide +kernel | omega | simp only [Wq, Nat.reduceEqDiff]) only [c5, Tryz.f7, Aq, Nat.ble, reduceIte, Nat.reduceEqDiff, Nat.reduceAdd]
            with_reducible rfl
          refine ⟨.inr rfl, _, [strOf word, .bool true], rfl, ?_, by rw [hdw, hd]; rfl⟩
          simp only [Tryz.f7, resF, ev_tmp, T.get_set, Nat.reduceEqDiff, if_true, if_false, evG_some, R.ok_bind]
        | true =>
          have ll := len_str (tb := tb1) (t := 9) (l := rest) und9
          apply W.seq
          apply W.seq
          apply W.run 20
          · intro M
            simp (config := { maxSteps := 4000000 }) (disch := first | decide +kernel | omega | simp only [Wq, Nat.reduceEqDiff]) only [c5b, c5, Tryz.f7, Aq, Nat.ble, reduceIte, Nat.reduceEqDiff, Nat.reduceAdd, g6]
            with_reducible rfl
          show W tb1 _ _ _
          apply W.run 20
          · intro M
            simp (config := { maxSteps := 4000000 }) (disch := first | decide +kernel | omega | simp only [Wq, Nat.reduceEqDiff]) only [c5b, c5, Tryz.f7, Aq, Nat.ble, reduceIte, Nat.reduceEqDiff, Nat.reduceAdd]
            with_reducible rfl
          show W tb1 _ _ _
          apply W.block
          apply W.seq
          apply W.seq
          have hfail : decL (37 :: rest) = none → ∀ {K : Prop}, (decW l = none → K) → K := fun h K k => k (by rw [hdw, hdec]; unfold restD; rw [if_pos rfl, h]; rfl)
          by_cases hr : rest.length < 2
          · have d2 : decide (rest.length < 2) = true := decide_eq_true hr
            apply W.run 20
            · intro M
              simp (config := { maxSteps := 4000000 }) (disch := first | decide +kernel | omega | simp only [Wq, Nat.reduceEqDiff]) only [c5b, c5, Tryz.f7, Aq, Nat.ble, reduceIte, Nat.reduceEqDiff, Nat.reduceAdd, g5, ll, d2]
              with_reducible rfl
            show W tb1 _ _ _
            apply W.run 20
            · intro M
              simp (config := { maxSteps := 4000000 }) (disch := first | decide +kernel | omega | simp only [Wq, Nat.reduceEqDiff]) only [c5b, c5, Tryz.f7, Aq, Nat.ble, reduceIte, Nat.reduceEqDiff, Nat.reduceAdd]
              with_reducible rfl
            refine hfail (decL_few hr) fun hn => ⟨.inr rfl, _, [strOf [], .bool false], rfl, ?_, by rw [hn]; rfl⟩
            simp only [Tryz.f7, resF, ev_tmp, T.get_set, Nat.reduceEqDiff, if_true, if_false, evG_some, R.ok_bind]
          · obtain ⟨a, c, q, rfl⟩ : ∃ a c q, rest = a :: c :: q := by
              match rest, hr with
              | [], h => simp at h
              | [_], h => simp at h
              | a :: c :: q, _ => exact ⟨a, c, q, rfl⟩
            have d2 : decide ((a :: c :: q).length < 2) = false := by simp
            have hs2 : sliceF tb1 9 (strOf (a :: c :: q)) none (some (.int .i64 ((2 : Nat) : Int))) none = .ok (strOf [a, c]) := by
              rw [slice_to und9 (by simp)]; rfl
            obtain ⟨D1, ⟨gt, hgt⟩, hn1, hf1⟩ := run_trim (A := D) (l := [a, c]) (by simp) (by simp)
            have hS1 : Slc D1 5 b (byts word) x := hS.same hn1 (fun h => hf1 b h)
            unfold hexs at hgt
            by_cases hx : trimD [a, c] = []
            · have d3 : strOpF .neq (trimD [a, c]) [] = .ok (.bool false) := by rw [hx]; rfl
              apply W.runG (gt) 20
              · intro M hM
                simp (config := { maxSteps := 4000000 }) (disch := first | decide +kernel | omega | simp only [Wq, Nat.reduceEqDiff]) only [c5b, c5, Tryz.f7, Aq, Nat.ble, reduceIte, Nat.reduceEqDiff, Nat.reduceAdd, g5, ll, d2, hs2, hgt, binF_str, d3]
                with_reducible rfl
              show W tb1 _ _ _
              obtain ⟨m1, m2⟩ := (trimD_two a c).1 hx
              have b1 := hexN_lt m1
              have b2 := hexN_lt m2
              have hk14 : ∀ ih, callF tb1 ih (.fn 19 [strOf [a, c], .int .i64 ((16 : Nat) : Int), .int .i64 ((32 : Nat) : Int)]) D1 = .ok (.val (.tuple ⟨[.int .u64 ((hexN a * 16 + hexN c : Nat) : Int), .nilIface]⟩) D1) := fun ih => k14 m1 m2
              have hby : Value.int .u8 ((hexN a * 16 + hexN c : Nat) : Int) = byteV (decB a c) := byteV_ofNat (by omega)
              have hcv := cv395 (n := hexN a * 16 + hexN c) (by omega)
              have hbs := bs29 ((hexN a * 16 + hexN c : Nat) : Int)
              obtain ⟨ti, ht1, ht2⟩ := ty5
              generalize hexN a * 16 + hexN c = n at hk14 hby hcv hbs
              have hn2 : (D1.alloc (rowOb 5 [.int .u8 (n : Int)])).next = D1.next + 1 := next_alloc _ _
              have hS2 : Slc (D1.alloc (rowOb 5 [.int .u8 (n : Int)])) 5 b (byts word) x := hS1.same (by omega) (fun hb => get_alloc_ne (by omega))
              have hq2 : q.length + 2 = (a :: c :: q).length := rfl
              have hcq := cutP_len q
              obtain ⟨x2, D3, happ, hS3, hn3, hf3⟩ := hS2.append (tb := tb1) (st := 32) (xt := 32) und29 und29 zc5 ht1 (by omega) (by omega) (by rw [byts_len]; omega) (get_alloc_self D1 _) rfl
              have hs3 : sliceF tb1 9 (strOf (a :: c :: q)) (some (.int .i64 ((2 : Nat) : Int))) none none = .ok (strOf q) := by
                rw [slice_from und9 (by simp)]; rfl
              obtain ⟨gc, hgc⟩ := run_cut (A := D3) (l := q) (by omega)
              unfold cutV pct at hgc
              rw [hby] at hS3
              have hS4 : Slc D3 5 (D1.alloc (rowOb 5 [.int .u8 (n : Int)])).next (byts (word ++ [decB a c])) x2 := by rw [byts_app]; exact hS3
              obtain ⟨x5, D5, b5, happ5, hS5, hn5, -⟩ := hS4.appends (tb := tb1) (st := 32) (xt := 9) (xd := .string) (m := (cutP q).1.length) (nl := byts (cutP q).1) (y := strOf (cutP q).1) und29 und9 rfl zc5 ht1 (by omega) (by omega) (by rw [byts_len, List.length_append]; simp; omega) (lenF_str _) first_str (byts_len _) (fun v hv => by
                unfold byts at hv
                obtain ⟨c, -, rfl⟩ := List.mem_map.1 hv
                rfl)
              rw [← byts_app] at hS5
              apply W.run 20
              · intro M
                simp (config := { maxSteps := 4000000 }) (disch := first | decide +kernel | omega | simp only [Wq, Nat.reduceEqDiff]) only [c5b, c5, Tryz.f7, Aq, Nat.ble, reduceIte, Nat.reduceEqDiff, Nat.reduceAdd]
                with_reducible rfl
              show W tb1 _ _ _
              apply W.seq
              apply W.run 20
              · intro M
                simp (config := { maxSteps := 4000000 }) (disch := first | decide +kernel | omega | simp only [Wq, Nat.reduceEqDiff]) only [c5b, c5, Tryz.f7, Aq, Nat.ble, reduceIte, Nat.reduceEqDiff, Nat.reduceAdd, g5, hs2, hk14, List.getElem?_cons_zero, List.getElem?_cons_succ, R.ok_bind]
                with_reducible rfl
              show W tb1 _ _ _
              apply W.seq
              apply W.run 20
              · intro M
                simp (config := { maxSteps := 4000000 }) (disch := first | decide +kernel | omega | simp only [Wq, Nat.reduceEqDiff]) only [c5b, c5, Tryz.f7, Aq, Nat.ble, reduceIte, Nat.reduceEqDiff, Nat.reduceAdd, g7, hcv, hbs, happ]
                with_reducible rfl
              show W tb1 _ _ _
              apply W.seq
              apply W.runG (gc) 20
              · intro M hM
                simp (config := { maxSteps := 4000000 }) (disch := first | decide +kernel | omega | simp only [Wq, Nat.reduceEqDiff]) only [c5b, c5, Tryz.f7, Aq, Nat.ble, reduceIte, Nat.reduceEqDiff, Nat.reduceAdd, g5, hs3, hgc, List.getElem?_cons_zero, List.getElem?_cons_succ, R.ok_bind]
                with_reducible rfl
              show W tb1 _ _ _
              apply W.run 20
              · intro M
                simp (config := { maxSteps := 4000000 }) (disch := first | decide +kernel | omega | simp only [Wq, Nat.reduceEqDiff]) only [c5b, c5, Tryz.f7, Aq, Nat.ble, reduceIte, Nat.reduceEqDiff, Nat.reduceAdd, happ5]
                with_reducible rfl
              refine ⟨(cutP q).2.1.length, _, _, by omega, rfl, word ++ [decB a c] ++ (cutP q).1, (cutP q).2.1, (cutP q).2.2, x5, b5, rfl, ?_, by simp; omega, hS5, ?_⟩
              · rw [hdec]
                unfold restD
                rw [if_pos rfl, decL_pct, if_pos ⟨m1, m2⟩, restD_cut q]
                unfold restD
                generalize (if (cutP q).2.2 = true then decL (37 :: (cutP q).2.1) else some []) = o
                cases o <;> simp
              · simp only [Sl_cons, Sl_nil, T.get_set, T.puts_cons, T.puts_nil, Nat.reduceEqDiff, Nat.reduceAdd, if_true, if_false, and_true, true_and]
            · have d3 : strOpF .neq (trimD [a, c]) [] = .ok (.bool true) := by
                cases hq : trimD [a, c] with
                | nil => exact absurd hq hx
                | cons y z => rfl
              apply W.runG (gt) 20
              · intro M hM
                simp (config := { maxSteps := 4000000 }) (disch := first | decide +kernel | omega | simp only [Wq, Nat.reduceEqDiff]) only [c5b, c5, Tryz.f7, Aq, Nat.ble, reduceIte, Nat.reduceEqDiff, Nat.reduceAdd, g5, ll, d2, hs2, hgt, binF_str, d3]
                with_reducible rfl
              show W tb1 _ _ _
              apply W.run 20
              · intro M
                simp (config := { maxSteps := 4000000 }) (disch := first | decide +kernel | omega | simp only [Wq, Nat.reduceEqDiff]) only [c5b, c5, Tryz.f7, Aq, Nat.ble, reduceIte, Nat.reduceEqDiff, Nat.reduceAdd]
                with_reducible rfl
              refine hfail (by rw [decL_pct, if_neg (fun h => hx ((trimD_two a c).2 h))]) fun hn => ⟨.inr rfl, _, [strOf [], .bool false], rfl, ?_, by rw [hn]; rfl⟩
              simp only [Tryz.f7, resF, ev_tmp, T.get_set, Nat.reduceEqDiff, if_true, if_false, evG_some, R.ok_bind]
      · simp only [Sl_cons, Sl_nil, T.get_set, T.puts_cons, T.puts_nil, Nat.reduceEqDiff, Nat.reduceAdd, if_true, if_false, and_true, true_and]
  exact ⟨_, hg⟩

theorem hasG0 (ts : Nat → TypeId) : hasG (gMem ts G0 NG) G0 = true := by kernel_rfl
def writeK : List Value → Option Value
  | [.string s] => if s.data.toList.length < 4000000 then some (strOf (encW s.data.toList)) else none
  | _ => none
theorem hook_write : HookOk tb1.P 6 (globHook G0 writeK) := by
  refine hook_glob tb1_ok (f := 6) (fn := Tryz.f6) (N := NG) (fn_at1 Tryz.func6) c4_eq (by decide +kernel) fun args v h => ?_
  unfold writeK at h
  split at h
  · rename_i s
    split at h
    · rename_i hs
      cases h
      refine ⟨by simp [flat], by simp [flat, strOf], fun ts => ?_⟩
      obtain ⟨A, ha⟩ := run_write (A := gMem ts G0 NG) hs (hasG0 ts) (by show g64 < NG; decide)
      obtain ⟨n, hc⟩ := ans_calls (tb := tb1) (fn_at1 Tryz.func6) c4_eq (by kernel_rfl) (by kernel_rfl) ha
      exact ⟨n, A, hc⟩
    · cases h
  · cases h
def readK : List Value → Option Value
  | [.string s] => if s.data.toList.length < 900000 then some (readV (decW s.data.toList)) else none
  | _ => none
theorem hook_read : HookOk tb1.P 7 (pureHook readK) := by
  refine hook_pure tb1_ok (f := 7) (fn := Tryz.f7) (fn_at1 Tryz.func7) c5_eq fun args v h => ?_
  unfold readK at h
  split at h
  · rename_i s
    split at h
    · rename_i hs
      cases h
      obtain ⟨A, ha⟩ := run_read (A := mem0) hs
      obtain ⟨n, hc⟩ := ans_calls (tb := tb1) (fn_at1 Tryz.func7) c5_eq (by kernel_rfl) (by kernel_rfl) ha
      refine ⟨by simp [flat], ?_, n, A, hc⟩
      cases decW s.data.toList <;> simp [readV, flat, strOf]
    · cases h
  · cases h
def contK : List Value → Option Value
  | [.string s, .string p] => if p.data.toList = pct then some (.bool (cutP s.data.toList).2.2) else none
  | _ => none
theorem hook_cont : HookOk tb1.P 8 (pureHook contK) := by
  refine hook_pure tb1_ok (f := 8) (fn := Tryz.f8) (fn_at1 Tryz.func8) c6_eq fun args v h => ?_
  unfold contK at h
  split at h
  · rename_i s p
    split at h
    · rename_i hs
      cases h
      obtain ⟨n, hc⟩ := ans_calls (tb := tb1) (fn_at1 Tryz.func8) c6_eq (by kernel_rfl) (by kernel_rfl) (run_contains (A := mem0) (l := s.data.toList))
      have e : Value.string p = strOf pct := by rw [string_eq, hs]
      rw [e]
      exact ⟨by simp [flat, strOf], by simp [flat], n, mem0, hc⟩
    · cases h
  · cases h
noncomputable def tb2 : Tab := ((tb1.know 6 (globHook G0 writeK)).know 7 (pureHook readK)).know 8 (pureHook contK)
theorem tb2_ok : TabOk tb2 := know_at (by simp only [know_P]) (know_at (by simp only [know_P]) (know_ok tb1_ok hook_write) hook_read) hook_cont
theorem tb2_fn : tb2.fn = tb0.fn := by unfold tb2; simp only [know_fn]; exact tb1_fn
theorem fn_at2 {k : Nat} {fn : Func} (h : Tryz.prog.funcs[k]? = some fn) : tb2.fn.get k = some fn := by rw [tb2_fn]; exact fn_at h
section
variable {ih : Code → St → R (Ex × St)} {A : Mem}
theorem k4 {w : List UInt8} (hG : hasG A G0 = true) (h : w.length < 4000000) : callF tb2 ih (.fn 6 [strOf w]) A = .ok (.val (strOf (encW w)) A) :=
  callF_known (c := (Tryz.f6.body).getD .skip) (fn_at2 Tryz.func6) (by kernel_rfl) (by kernel_rfl) (h := globHook G0 writeK) (by kernel_rfl) (by
    unfold globHook
    rw [hG, cond_true]
    show (match writeK [.string ⟨⟨w⟩⟩] with | some v => R.ok (v, A) | none => .no 602) = _
    simp only [writeK]
    rw [if_pos h])
theorem k5 {w : List UInt8} (h : w.length < 900000) : callF tb2 ih (.fn 7 [strOf w]) A = .ok (.val (readV (decW w)) A) :=
  callF_known (c := (Tryz.f7.body).getD .skip) (fn_at2 Tryz.func7) (by kernel_rfl) (by kernel_rfl) (h := pureHook readK) (by kernel_rfl) (by
    unfold pureHook
    show (match readK [.string ⟨⟨w⟩⟩] with | some v => R.ok (v, A) | none => .no 600) = _
    simp only [readK]
    rw [if_pos h])
theorem k6 {w : List UInt8} : callF tb2 ih (.fn 8 [strOf w, strOf pct]) A = .ok (.val (.bool (cutP w).2.2) A) :=
  callF_known (c := (Tryz.f8.body).getD .skip) (fn_at2 Tryz.func8) (by kernel_rfl) (by kernel_rfl) (h := pureHook contK) (by kernel_rfl) (by
    unfold pureHook
    show (match contK [.string ⟨⟨w⟩⟩, .string ⟨⟨pct⟩⟩] with | some v => R.ok (v, A) | none => .no 600) = _
    simp only [contK]
    rw [if_pos trivial])
end
theorem vnd3 : tb2.und 3 = some (.int .i64) := by kernel_rfl
theorem vnd4 : tb2.und 4 = some .bool := by kernel_rfl
theorem vnd5 : tb2.und 5 = some (.int .u8) := by kernel_rfl
theorem vnd9 : tb2.und 9 = some .string := by kernel_rfl

def GW : Glb := kn.gm5
noncomputable def tb3 : Tab := tb2
theorem tb3_ok : TabOk tb3 := tb2_ok
theorem tb3_fn : tb3.fn = tb0.fn := by unfold tb3; exact tb2_fn
theorem fn_at3 {k : Nat} {fn : Func} (h : Tryz.prog.funcs[k]? = some fn) : tb3.fn.get k = some fn := by rw [tb3_fn]; exact fn_at h
section
variable {ih : Code → St → R (Ex × St)} {A : Mem}
theorem kWorks (hG : hasG A GW = true) : callF tb3 ih (.fn 5 []) A = .ok (.val (.bool true) A) :=
  callF_known (c := (Tryz.f5.body).getD .skip) (fn_at3 Tryz.func5) (by kernel_rfl) (by kernel_rfl) (h := globHook kn.gm5 (memoK kn.mm5)) (by kernel_rfl) (by
    unfold globHook
    rw [show hasG A kn.gm5 = true from hG, cond_true]
    rfl)
theorem kWrite {w : List UInt8} (hG : hasG A G0 = true) (h : w.length < 4000000) : callF tb3 ih (.fn 6 [strOf w]) A = .ok (.val (strOf (encW w)) A) :=
  callF_known (c := (Tryz.f6.body).getD .skip) (fn_at3 Tryz.func6) (by kernel_rfl) (by kernel_rfl) (h := globHook G0 writeK) (by kernel_rfl) (by
    unfold globHook
    rw [hG, cond_true]
    show (match writeK [.string ⟨⟨w⟩⟩] with | some v => R.ok (v, A) | none => .no 602) = _
    simp only [writeK]
    rw [if_pos h])
theorem kRead {w : List UInt8} (h : w.length < 900000) : callF tb3 ih (.fn 7 [strOf w]) A = .ok (.val (readV (decW w)) A) :=
  callF_known (c := (Tryz.f7.body).getD .skip) (fn_at3 Tryz.func7) (by kernel_rfl) (by kernel_rfl) (h := pureHook readK) (by kernel_rfl) (by
    unfold pureHook
    show (match readK [.string ⟨⟨w⟩⟩] with | some v => R.ok (v, A) | none => .no 600) = _
    simp only [readK]
    rw [if_pos h])
theorem kCont {w : List UInt8} : callF tb3 ih (.fn 8 [strOf w, strOf [37]]) A = .ok (.val (.bool (cutP w).2.2) A) :=
  callF_known (c := (Tryz.f8.body).getD .skip) (fn_at3 Tryz.func8) (by kernel_rfl) (by kernel_rfl) (h := pureHook contK) (by kernel_rfl) (by
    unfold pureHook
    show (match contK [.string ⟨⟨w⟩⟩, .string ⟨⟨pct⟩⟩] with | some v => R.ok (v, A) | none => .no 600) = _
    simp only [contK]
    rw [if_pos trivial])
end
theorem wnd3 : tb3.und 3 = some (.int .i64) := by kernel_rfl
theorem wnd4 : tb3.und 4 = some .bool := by kernel_rfl
theorem wnd5 : tb3.und 5 = some (.int .u8) := by kernel_rfl
theorem wnd9 : tb3.und 9 = some .string := by kernel_rfl

noncomputable def c3 : Code := Tryz.f3.body.getD .skip
noncomputable def c3b : Code := sub c3 [1,1,1,0,1,0,0]
noncomputable def c3w : Code := sub c3b [1,1,0,0]
noncomputable def c3i : Code := sub c3w [1,1,1,1,1,0,0]
theorem c3_eq : Tryz.f3.body = some (.seq (sub c3 [0]) (.seq (.seq (sub c3 [1,0,0]) (sub c3 [1,0,1])) (.seq (sub c3 [1,1,0]) (.seq (.seq (sub c3 [1,1,1,0,0]) (.block 0 (.loop c3b))) (.seq (.seq (sub c3 [1,1,1,1,0,0]) (sub c3 [1,1,1,1,0,1])) (.seq (sub c3 [1,1,1,1,1,0]) (.seq (.seq (sub c3 [1,1,1,1,1,1,0,0]) (sub c3 [1,1,1,1,1,1,0,1])) (.seq (sub c3 [1,1,1,1,1,1,1,0]) (.seq (sub c3 [1,1,1,1,1,1,1,1,0]) (sub c3 [1,1,1,1,1,1,1,1,1])))))))))) := by kernel_rfl
theorem c3b_eq : c3b = (.seq (sub c3b [0]) (.seq (sub c3b [1,0]) (.seq (.block 1 c3w) (sub c3b [1,1,1])))) := by kernel_rfl
theorem c3w_eq : c3w = (.seq (sub c3w [0]) (.seq (sub c3w [1,0]) (.seq (sub c3w [1,1,0]) (.seq (.seq (sub c3w [1,1,1,0,0]) (sub c3w [1,1,1,0,1])) (.seq (sub c3w [1,1,1,1,0]) (.block 2 (.loop c3i))))))) := by kernel_rfl
theorem c3i_eq : c3i = (.seq (.seq (sub c3i [0,0]) (sub c3i [0,1])) (.seq (.block 3 (.seq (sub c3i [1,0,0,0]) (sub c3i [1,0,0,1]))) (sub c3i [1,1]))) := by kernel_rfl
def arrV (a b : List UInt8) : Value := .agg ⟨[strOf a, strOf b]⟩
def lawS (a b p : List UInt8) (i : Nat) : List (Nat × Value) := [(0, strOf a), (1, strOf b), (2, strOf p), (36, arrV a b), (37, .int .i64 ((i : Nat) : Int))]
set_option maxHeartbeats 8000000 in
theorem law_word {A : Mem} {a b p w : List UInt8} {i : Nat} {t : T Value} {K : Ex → St → Prop} (hG : hasG A G0 = true) (hw : w.length < 1000) (hix : indexF tb3 23 (arrV a b) (.int .i64 ((i : Nat) : Int)) = .ok (strOf w)) (hs : Sl t (lawS a b p i))
    (hK : ∀ t', Sl t' (lawS a b p i) → K .nrm ⟨t', 122, [], A, none⟩) : W tb3 (.block 1 c3w) ⟨t, 122, [], A, none⟩ K := by
  obtain ⟨g0, g1, g2, g36, g37, -⟩ := hs
  have hel := encL_len w
  have hew : (encW w).length ≤ 3000 := by
    unfold encW
    split
    · simp
    · omega
  have hkw := fun ih => kWrite (ih := ih) (A := A) (w := w) hG (by omega)
  have hkr := fun ih => kRead (ih := ih) (A := A) (w := encW w) (by omega)
  rw [encW_dec] at hkr
  unfold readV at hkr
  have hne : decide (encW w = []) = false := decide_eq_false (encW_ne w)
  rw [c3w_eq]
  apply W.block
  apply W.seq
  apply W.run 20
  · intro M
    simp (config := { maxSteps := 4000000 }) (disch := first | decide +kernel | omega | simp only [Wq, Nat.reduceEqDiff]) only [c3w, c3b, c3, Tryz.f3, Aq, Nat.ble, reduceIte, Nat.reduceEqDiff, Nat.reduceAdd, g36, g37, hix]
    with_reducible rfl
  show W tb3 _ _ _
  apply W.seq
  apply W.run 20
  · intro M
    simp (config := { maxSteps := 4000000 }) (disch := first | decide +kernel | omega | simp only [Wq, Nat.reduceEqDiff]) only [c3w, c3b, c3, Tryz.f3, Aq, Nat.ble, reduceIte, Nat.reduceEqDiff, Nat.reduceAdd, hkw]
    with_reducible rfl
  show W tb3 _ _ _
  apply W.seq
  apply W.run 20
  · intro M
    simp (config := { maxSteps := 4000000 }) (disch := first | decide +kernel | omega | simp only [Wq, Nat.reduceEqDiff]) only [c3w, c3b, c3, Tryz.f3, Aq, Nat.ble, reduceIte, Nat.reduceEqDiff, Nat.reduceAdd, hkr, List.getElem?_cons_zero, List.getElem?_cons_succ, R.ok_bind]
    with_reducible rfl
  show W tb3 _ _ _
  apply W.seq
  apply W.seq
  apply W.run 20
  · intro M
    simp (config := { maxSteps := 4000000 }) (disch := first | decide +kernel | omega | simp only [Wq, Nat.reduceEqDiff]) only [c3w, c3b, c3, Tryz.f3, Aq, Nat.ble, reduceIte, Nat.reduceEqDiff, Nat.reduceAdd, hne]
    with_reducible rfl
  show W tb3 _ _ _
  apply W.run 20
  · intro M
    simp (config := { maxSteps := 4000000 }) (disch := first | decide +kernel | omega | simp only [Wq, Nat.reduceEqDiff]) only [c3w, c3b, c3, Tryz.f3, Aq, Nat.ble, reduceIte, Nat.reduceEqDiff, Nat.reduceAdd]
    with_reducible rfl
  show W tb3 _ _ _
  apply W.seq
  apply W.run 20
  · intro M
    simp (config := { maxSteps := 4000000 }) (disch := first | decide +kernel | omega | simp only [Wq, Nat.reduceEqDiff]) only [c3w, c3b, c3, Tryz.f3, Aq, Nat.ble, reduceIte, Nat.reduceEqDiff, Nat.reduceAdd]
    with_reducible rfl
  show W tb3 _ _ _
  have hok := encW_ok w
  generalize encW w = s at *
  have ll := len_str (tb := tb3) (t := 9) (l := s) wnd9
  apply W.block
  refine W.up s.length (fun k t D => D = A ∧ Sl t (lawS a b p i ++ [(9, strOf s), (12, .int .i64 ((k : Nat) : Int))])) ?_ (Nat.zero_le _) ⟨rfl, ?_⟩
  · rintro k t D hk ⟨rfl, g0, g1, g2, g36, g37, g9, g12, -⟩
    rw [c3i_eq]
    apply W.seq
    rcases Nat.lt_or_eq_of_le hk with hlt | rfl
    · have d1 : decide (k < s.length) = true := decide_eq_true hlt
      have hix : indexF tb3 9 (strOf s) (.int .i64 ((k : Nat) : Int)) = .ok (.int .u8 (((s[k]).toNat : Nat) : Int)) := by
        rw [index_str wnd9 hlt]; simp [List.getD, List.getElem?_eq_getElem hlt]
      have hc := hok s[k] (List.getElem_mem hlt)
      generalize s[k] = c at hix hc
      unfold okC at hc
      simp only [Bool.and_eq_true, Nat.blt_eq, Bool.not_eq_true'] at hc
      obtain ⟨⟨h1, h2⟩, h3⟩ := hc
      have h2 := Nat.le_of_ble_eq_true h2
      have h3 : c.toNat ≠ 58 := fun e => by rw [e] at h3; cases h3
      have d2 : decide (c.toNat ≤ 32) = false := decide_eq_false (by omega)
      have d3 : decide (126 < c.toNat) = false := decide_eq_false (by omega)
      have d4 : decide (c.toNat = 58) = false := decide_eq_false h3
      apply W.seq
      apply W.run 20
      · intro M
        simp (config := { maxSteps := 4000000 }) (disch := first | decide +kernel | omega | simp only [Wq, Nat.reduceEqDiff]) only [c3i, c3w, c3b, c3, Tryz.f3, Aq, Nat.ble, reduceIte, Nat.reduceEqDiff, Nat.reduceAdd, g9, g12, ll, d1]
        with_reducible rfl
      show W tb3 _ _ _
      apply W.run 20
      · intro M
        simp (config := { maxSteps := 4000000 }) (disch := first | decide +kernel | omega | simp only [Wq, Nat.reduceEqDiff]) only [c3i, c3w, c3b, c3, Tryz.f3, Aq, Nat.ble, reduceIte, Nat.reduceEqDiff, Nat.reduceAdd]
        with_reducible rfl
      show W tb3 _ _ _
      apply W.seq
      apply W.block
      apply W.seq
      apply W.run 20
      · intro M
        simp (config := { maxSteps := 4000000 }) (disch := first | decide +kernel | omega | simp only [Wq, Nat.reduceEqDiff]) only [c3i, c3w, c3b, c3, Tryz.f3, Aq, Nat.ble, reduceIte, Nat.reduceEqDiff, Nat.reduceAdd, g9, g12, hix, d2, d3, d4]
        with_reducible rfl
      show W tb3 _ _ _
      apply W.run 20
      · intro M
        simp (config := { maxSteps := 4000000 }) (disch := first | decide +kernel | omega | simp only [Wq, Nat.reduceEqDiff]) only [c3i, c3w, c3b, c3, Tryz.f3, Aq, Nat.ble, reduceIte, Nat.reduceEqDiff, Nat.reduceAdd]
        with_reducible rfl
      show W tb3 _ _ _
      apply W.run 20
      · intro M
        simp (config := { maxSteps := 4000000 }) (disch := first | decide +kernel | omega | simp only [Wq, Nat.reduceEqDiff]) only [c3i, c3w, c3b, c3, Tryz.f3, Aq, Nat.ble, reduceIte, Nat.reduceEqDiff, Nat.reduceAdd, g12]
        with_reducible rfl
      refine ⟨hlt, _, _, rfl, rfl, ?_⟩
      simp only [lawS, List.cons_append, List.nil_append]
      simp only [Sl_cons, Sl_nil, T.get_set, T.puts_cons, T.puts_nil, Nat.reduceEqDiff, Nat.reduceAdd, if_true, if_false, and_true, true_and, g0, g1, g2, g36, g37, g9]
    · have d1 : decide (s.length < s.length) = false := by simp
      apply W.seq
      apply W.run 20
      · intro M
        simp (config := { maxSteps := 4000000 }) (disch := first | decide +kernel | omega | simp only [Wq, Nat.reduceEqDiff]) only [c3i, c3w, c3b, c3, Tryz.f3, Aq, Nat.ble, reduceIte, Nat.reduceEqDiff, Nat.reduceAdd, g9, g12, ll, d1]
        with_reducible rfl
      show W tb3 _ _ _
      apply W.run 20
      · intro M
        simp (config := { maxSteps := 4000000 }) (disch := first | decide +kernel | omega | simp only [Wq, Nat.reduceEqDiff]) only [c3i, c3w, c3b, c3, Tryz.f3, Aq, Nat.ble, reduceIte, Nat.reduceEqDiff, Nat.reduceAdd]
        with_reducible rfl
      apply hK
      unfold lawS
      simp only [Sl_cons, Sl_nil, T.get_set, T.puts_cons, T.puts_nil, Nat.reduceEqDiff, Nat.reduceAdd, if_true, if_false, and_true, true_and, g0, g1, g2, g36, g37]
  · simp only [lawS, List.cons_append, List.nil_append]
    simp only [Sl_cons, Sl_nil, T.get_set, T.puts_cons, T.puts_nil, Nat.reduceEqDiff, Nat.reduceAdd, if_true, if_false, and_true, true_and, g0, g1, g2, g36, g37]

theorem min300 (n : Nat) : builtinPF tb3 .min [3, 3] [.int .i64 ((n : Nat) : Int), .int .i64 ((300 : Nat) : Int)] = .ok (.int .i64 ((min n 300 : Nat) : Int)) := by
  have e : builtinPF tb3 .min [3, 3] [.int .i64 ((n : Nat) : Int), .int .i64 ((300 : Nat) : Int)] = (min2F (.int .i64 ((n : Nat) : Int)) (.int .i64 ((300 : Nat) : Int))).bind fun v => R.ok v := rfl
  rw [e]
  show R.ok (Value.int .i64 (bif Nat.blt 300 n then ((300 : Nat) : Int) else ((n : Nat) : Int))) = _
  cases h : Nat.blt 300 n with
  | true => rw [Nat.blt_eq] at h; rw [cond_true, Nat.min_eq_right (by omega)]
  | false =>
    have h : ¬ 300 < n := fun h' => by rw [← Nat.blt_eq, h] at h'; cases h'
    rw [cond_false, Nat.min_eq_left (by omega)]
theorem build23 (a b : List UInt8) : buildF tb3 23 [(0, strOf a), (1, strOf b)] = .ok (arrV a b) := by kernel_rfl
theorem ix0 (a b : List UInt8) : indexF tb3 23 (arrV a b) (.int .i64 ((0 : Nat) : Int)) = .ok (strOf a) := by kernel_rfl
theorem ix1 (a b : List UInt8) : indexF tb3 23 (arrV a b) (.int .i64 ((1 : Nat) : Int)) = .ok (strOf b) := by kernel_rfl
def cut300 (l : List UInt8) : List UInt8 := l.take (min l.length 300)
theorem cut300_len (l : List UInt8) : (cut300 l).length ≤ 300 := by unfold cut300; rw [List.length_take]; omega
theorem slice300 (l : List UInt8) : sliceF tb3 9 (strOf l) none (some (.int .i64 ((min l.length 300 : Nat) : Int))) none = .ok (strOf (cut300 l)) := slice_to wnd9 (by omega)
set_option maxHeartbeats 8000000 in
theorem run_law {A : Mem} {a b p : List UInt8} (hG : hasG A G0 = true) (hW : hasG A GW = true) : Ans tb3 3 [strOf a, strOf b, strOf p] A (.bool true) A := by
  obtain ⟨v, A', hg, rfl, rfl⟩ : ∃ v A', Ans tb3 3 [strOf a, strOf b, strOf p] A v A' ∧ v = .bool true ∧ A' = A := by
    refine ans_of_W (fn_at3 Tryz.func3) c3_eq (by rw [Tryz.ntmps3]; simp) (by kernel_rfl) (by kernel_rfl) ?_
    have hkw := fun ih => kWorks (ih := ih) hW
    have la := len_str (tb := tb3) (t := 9) (l := a) wnd9
    have lb := len_str (tb := tb3) (t := 9) (l := b) wnd9
    have lp := len_str (tb := tb3) (t := 9) (l := p) wnd9
    have sa := slice300 a
    have sb := slice300 b
    have sp := slice300 p
    have ka := cut300_len a
    have kb := cut300_len b
    have kp := cut300_len p
    apply W.seq
    apply W.run 20
    · intro M
      simp (config := { maxSteps := 4000000 }) (disch := first | decide +kernel | omega | simp only [Wq, Nat.reduceEqDiff]) only [c3, Tryz.f3, Aq, Nat.ble, reduceIte, Nat.reduceEqDiff, Nat.reduceAdd]
      with_reducible rfl
    apply W.seq
    apply W.seq
    apply W.run 20
    · intro M
      simp (config := { maxSteps := 4000000 }) (disch := first | decide +kernel | omega | simp only [Wq, Nat.reduceEqDiff]) only [c3, Tryz.f3, Aq, Nat.ble, reduceIte, Nat.reduceEqDiff, Nat.reduceAdd, hkw]
      with_reducible rfl
    show W tb3 _ _ _
    apply W.run 20
    · intro M
      simp (config := { maxSteps := 4000000 }) (disch := first | decide +kernel | omega | simp only [Wq, Nat.reduceEqDiff]) only [c3, Tryz.f3, Aq, Nat.ble, reduceIte, Nat.reduceEqDiff, Nat.reduceAdd]
      with_reducible rfl
    show W tb3 _ _ _
    apply W.seq
    apply W.run 20
    · intro M
      simp (config := { maxSteps := 4000000 }) (disch := first | decide +kernel | omega | simp only [Wq, Nat.reduceEqDiff]) only [c3, Tryz.f3, Aq, Nat.ble, reduceIte, Nat.reduceEqDiff, Nat.reduceAdd, la, lb, lp, min300, sa, sb, sp]
      with_reducible rfl
    show W tb3 _ _ _
    generalize cut300 a = x at *
    generalize cut300 b = y at *
    generalize cut300 p = z at *
    apply W.seq
    apply W.seq
    apply W.run 20
    · intro M
      simp (config := { maxSteps := 4000000 }) (disch := first | decide +kernel | omega | simp only [Wq, Nat.reduceEqDiff]) only [c3, Tryz.f3, Aq, Nat.ble, reduceIte, Nat.reduceEqDiff, Nat.reduceAdd, build23]
      with_reducible rfl
    show W tb3 _ _ _
    apply W.block
    refine W.up 2 (fun k t D => D = A ∧ Sl t (lawS x y z k)) ?_ (Nat.zero_le _) ⟨rfl, ?_⟩
    · rintro k t D hk ⟨rfl, hs⟩
      have hs' := hs
      obtain ⟨g0, g1, g2, g36, g37, -⟩ := hs
      rw [c3b_eq]
      apply W.seq
      rcases (show k = 0 ∨ k = 1 ∨ k = 2 by omega) with rfl | rfl | rfl
      · have d1 : decide (0 < 2) = true := rfl
        apply W.run 20
        · intro M
          simp (config := { maxSteps := 4000000 }) (disch := first | decide +kernel | omega | simp only [Wq, Nat.reduceEqDiff]) only [c3b, c3, Tryz.f3, Aq, Nat.ble, reduceIte, Nat.reduceEqDiff, Nat.reduceAdd, g37, d1]
          with_reducible rfl
        show W tb3 _ _ _
        apply W.seq
        apply W.run 20
        · intro M
          simp (config := { maxSteps := 4000000 }) (disch := first | decide +kernel | omega | simp only [Wq, Nat.reduceEqDiff]) only [c3b, c3, Tryz.f3, Aq, Nat.ble, reduceIte, Nat.reduceEqDiff, Nat.reduceAdd]
          with_reducible rfl
        show W tb3 _ _ _
        apply W.seq
        refine law_word (i := 0) (p := z) hG (by omega) (ix0 x y) (t := _) (by unfold lawS; simp only [Sl_cons, Sl_nil, T.get_set, T.puts_cons, T.puts_nil, Nat.reduceEqDiff, Nat.reduceAdd, if_true, if_false, and_true, true_and, g0, g1, g2, g36, g37]) ?_
        rintro t1 ⟨h0, h1, h2, h36, h37, -⟩
        show W tb3 _ _ _
        apply W.run 20
        · intro M
          simp (config := { maxSteps := 4000000 }) (disch := first | decide +kernel | omega | simp only [Wq, Nat.reduceEqDiff]) only [c3b, c3, Tryz.f3, Aq, Nat.ble, reduceIte, Nat.reduceEqDiff, Nat.reduceAdd, h37]
          with_reducible rfl
        refine ⟨by omega, _, _, rfl, rfl, ?_⟩
        unfold lawS
        simp only [Sl_cons, Sl_nil, T.get_set, T.puts_cons, T.puts_nil, Nat.reduceEqDiff, Nat.reduceAdd, if_true, if_false, and_true, true_and, h0, h1, h2, h36]
      · have d1 : decide (1 < 2) = true := rfl
        apply W.run 20
        · intro M
          simp (config := { maxSteps := 4000000 }) (disch := first | decide +kernel | omega | simp only [Wq, Nat.reduceEqDiff]) only [c3b, c3, Tryz.f3, Aq, Nat.ble, reduceIte, Nat.reduceEqDiff, Nat.reduceAdd, g37, d1]
          with_reducible rfl
        show W tb3 _ _ _
        apply W.seq
        apply W.run 20
        · intro M
          simp (config := { maxSteps := 4000000 }) (disch := first | decide +kernel | omega | simp only [Wq, Nat.reduceEqDiff]) only [c3b, c3, Tryz.f3, Aq, Nat.ble, reduceIte, Nat.reduceEqDiff, Nat.reduceAdd]
          with_reducible rfl
        show W tb3 _ _ _
        apply W.seq
        refine law_word (i := 1) (p := z) hG (by omega) (ix1 x y) (t := _) (by unfold lawS; simp only [Sl_cons, Sl_nil, T.get_set, T.puts_cons, T.puts_nil, Nat.reduceEqDiff, Nat.reduceAdd, if_true, if_false, and_true, true_and, g0, g1, g2, g36, g37]) ?_
        rintro t1 ⟨h0, h1, h2, h36, h37, -⟩
        show W tb3 _ _ _
        apply W.run 20
        · intro M
          simp (config := { maxSteps := 4000000 }) (disch := first | decide +kernel | omega | simp only [Wq, Nat.reduceEqDiff]) only [c3b, c3, Tryz.f3, Aq, Nat.ble, reduceIte, Nat.reduceEqDiff, Nat.reduceAdd, h37]
          with_reducible rfl
        refine ⟨by omega, _, _, rfl, rfl, ?_⟩
        unfold lawS
        simp only [Sl_cons, Sl_nil, T.get_set, T.puts_cons, T.puts_nil, Nat.reduceEqDiff, Nat.reduceAdd, if_true, if_false, and_true, true_and, h0, h1, h2, h36]
      · have d1 : decide (2 < 2) = false := rfl
        apply W.run 20
        · intro M
          simp (config := { maxSteps := 4000000 }) (disch := first | decide +kernel | omega | simp only [Wq, Nat.reduceEqDiff]) only [c3b, c3, Tryz.f3, Aq, Nat.ble, reduceIte, Nat.reduceEqDiff, Nat.reduceAdd, g37, d1]
          with_reducible rfl
        show W tb3 _ _ _
        apply W.seq
        apply W.run 20
        · intro M
          simp (config := { maxSteps := 4000000 }) (disch := first | decide +kernel | omega | simp only [Wq, Nat.reduceEqDiff]) only [c3b, c3, Tryz.f3, Aq, Nat.ble, reduceIte, Nat.reduceEqDiff, Nat.reduceAdd]
          with_reducible rfl
        show W tb3 _ _ _
        -- behind the loop
        have hex := encL_len x
        have hkx := fun ih => kWrite (ih := ih) (A := D) (w := x) hG (by omega)
        have hky := fun ih => kWrite (ih := ih) (A := D) (w := y) hG (by omega)
        have hkz := fun ih => kRead (ih := ih) (A := D) (w := z) (by omega)
        have hxy : decide (encW x = encW y) = decide (x = y) := by
          by_cases h : x = y
          · rw [h]; simp
          · rw [decide_eq_false h, decide_eq_false (fun e => h (encW_inj e))]
        have hne : binF .neq (tb3.und 4) (.bool (decide (x = y))) (.bool (decide (x = y))) = .ok (.bool false) := by rw [wnd4]; cases decide (x = y) <;> rfl
        apply W.seq
        apply W.seq
        apply W.run 20
        · intro M
          simp (config := { maxSteps := 4000000 }) (disch := first | decide +kernel | omega | simp only [Wq, Nat.reduceEqDiff]) only [c3, Tryz.f3, Aq, Nat.ble, reduceIte, Nat.reduceEqDiff, Nat.reduceAdd, g0, g1, hkx, hky, hxy, hne]
          with_reducible rfl
        show W tb3 _ _ _
        apply W.run 20
        · intro M
          simp (config := { maxSteps := 4000000 }) (disch := first | decide +kernel | omega | simp only [Wq, Nat.reduceEqDiff]) only [c3, Tryz.f3, Aq, Nat.ble, reduceIte, Nat.reduceEqDiff, Nat.reduceAdd]
          with_reducible rfl
        show W tb3 _ _ _
        apply W.seq
        cases hz : decW z with
        | none =>
          have hcut := decW_none hz
          rw [hz] at hkz
          unfold readV at hkz
          have hkc := fun ih => kCont (ih := ih) (A := D) (w := z)
          rw [hcut] at hkc
          apply W.run 20
          · intro M
            simp (config := { maxSteps := 4000000 }) (disch := first | decide +kernel | omega | simp only [Wq, Nat.reduceEqDiff]) only [c3, Tryz.f3, Aq, Nat.ble, reduceIte, Nat.reduceEqDiff, Nat.reduceAdd, g2, hkz, List.getElem?_cons_zero, List.getElem?_cons_succ, R.ok_bind]
            with_reducible rfl
          show W tb3 _ _ _
          apply W.seq
          apply W.seq
          apply W.run 20
          · intro M
            simp (config := { maxSteps := 4000000 }) (disch := first | decide +kernel | omega | simp only [Wq, Nat.reduceEqDiff]) only [c3, Tryz.f3, Aq, Nat.ble, reduceIte, Nat.reduceEqDiff, Nat.reduceAdd]
            with_reducible rfl
          show W tb3 _ _ _
          apply W.run 20
          · intro M
            simp (config := { maxSteps := 4000000 }) (disch := first | decide +kernel | omega | simp only [Wq, Nat.reduceEqDiff]) only [c3, Tryz.f3, Aq, Nat.ble, reduceIte, Nat.reduceEqDiff, Nat.reduceAdd, g2, hkc]
            with_reducible rfl
          refine ⟨.inr rfl, _, [.bool true], rfl, ?_, rfl, rfl⟩
          simp only [Tryz.f3, resF, ev_tmp, T.get_set, Nat.reduceEqDiff, if_true, if_false, evG_some, R.ok_bind]
        | some w =>
          have hwl := decW_len hz
          rw [hz] at hkz
          unfold readV at hkz
          have hew := encL_len w
          have hew2 : (encW w).length < 900000 := by
            unfold encW
            split
            · simp
            · omega
          have hkw2 := fun ih => kWrite (ih := ih) (A := D) (w := w) hG (by omega)
          have hkr2 := fun ih => kRead (ih := ih) (A := D) (w := encW w) hew2
          rw [encW_dec] at hkr2
          unfold readV at hkr2
          have lw := len_str (tb := tb3) (t := 9) (l := w) wnd9
          have lz := len_str (tb := tb3) (t := 9) (l := z) wnd9
          have d5 : decide (w.length ≤ z.length) = true := decide_eq_true hwl
          apply W.run 20
          · intro M
            simp (config := { maxSteps := 4000000 }) (disch := first | decide +kernel | omega | simp only [Wq, Nat.reduceEqDiff]) only [c3, Tryz.f3, Aq, Nat.ble, reduceIte, Nat.reduceEqDiff, Nat.reduceAdd, g2, hkz, List.getElem?_cons_zero, List.getElem?_cons_succ, R.ok_bind]
            with_reducible rfl
          show W tb3 _ _ _
          apply W.seq
          apply W.seq
          apply W.run 20
          · intro M
            simp (config := { maxSteps := 4000000 }) (disch := first | decide +kernel | omega | simp only [Wq, Nat.reduceEqDiff]) only [c3, Tryz.f3, Aq, Nat.ble, reduceIte, Nat.reduceEqDiff, Nat.reduceAdd]
            with_reducible rfl
          show W tb3 _ _ _
          apply W.run 20
          · intro M
            simp (config := { maxSteps := 4000000 }) (disch := first | decide +kernel | omega | simp only [Wq, Nat.reduceEqDiff]) only [c3, Tryz.f3, Aq, Nat.ble, reduceIte, Nat.reduceEqDiff, Nat.reduceAdd]
            with_reducible rfl
          show W tb3 _ _ _
          apply W.seq
          apply W.run 20
          · intro M
            simp (config := { maxSteps := 4000000 }) (disch := first | decide +kernel | omega | simp only [Wq, Nat.reduceEqDiff]) only [c3, Tryz.f3, Aq, Nat.ble, reduceIte, Nat.reduceEqDiff, Nat.reduceAdd, hkw2, hkr2, List.getElem?_cons_zero, List.getElem?_cons_succ, R.ok_bind]
            with_reducible rfl
          show W tb3 _ _ _
          apply W.seq
          apply W.run 20
          · intro M
            simp (config := { maxSteps := 4000000 }) (disch := first | decide +kernel | omega | simp only [Wq, Nat.reduceEqDiff]) only [c3, Tryz.f3, Aq, Nat.ble, reduceIte, Nat.reduceEqDiff, Nat.reduceAdd, g2, lw, lz, d5]
            with_reducible rfl
          show W tb3 _ _ _
          apply W.run 20
          · intro M
            simp (config := { maxSteps := 4000000 }) (disch := first | decide +kernel | omega | simp only [Wq, Nat.reduceEqDiff]) only [c3, Tryz.f3, Aq, Nat.ble, reduceIte, Nat.reduceEqDiff, Nat.reduceAdd]
            with_reducible rfl
          refine ⟨.inr rfl, _, [.bool true], rfl, ?_, rfl, rfl⟩
          simp only [Tryz.f3, resF, ev_tmp, T.get_set, Nat.reduceEqDiff, if_true, if_false, evG_some, R.ok_bind]
    · unfold lawS
      simp only [Sl_cons, Sl_nil, T.get_set, T.puts_cons, T.puts_nil, Nat.reduceEqDiff, Nat.reduceAdd, if_true, if_false, and_true, true_and]
  exact hg

def GL : Glb := kn.gl0
theorem hasGL (ts : Nat → TypeId) : hasG (gMem ts GL NG) G0 = true := by kernel_rfl
theorem hasGW (ts : Nat → TypeId) : hasG (gMem ts GL NG) GW = true := by kernel_rfl
theorem law_calls (a b p : ByteArray) (w : World) (hw : ∀ k vs, gOf GL k = some vs → GAt w k vs) : Calls Tryz.prog 3 #[.string a, .string b, .string p] w fun e w' => e = .returned (.bool true) ∧ Go.Am.Leaves w w' := by
  refine glob_calls tb3_ok (N := NG) (l := GL) (by kernel_rfl) (fn_at3 Tryz.func3) c3_eq (args := [strOf a.data.toList, strOf b.data.toList, strOf p.data.toList]) (fun ts => ?_) (.cons (.string _) (.cons (.string _) (.cons (.string _) .nil))) w hw
  obtain ⟨n, hc⟩ := ans_calls (tb := tb3) (fn_at3 Tryz.func3) c3_eq (by kernel_rfl) (by kernel_rfl) (run_law (a := a.data.toList) (b := b.data.toList) (p := p.data.toList) (hasGL ts) (hasGW ts))
  exact ⟨n, _, hc⟩
end Go.Proofs.YtgcineegnihcmaaGreatDoor.dsk
