/-
  What the functions of this group compute on the abstract machine, and the plain laws of it. Part B: conditions stand in each theorem.
-/
import Derived.Test.YtekimgleakjonaaDistA

/-
  Dist: what is known of the distances' functions.
-/
namespace Go.Proofs.Ytekimgleakjonaa.dist
open Go.Am Go.Dist
set_option linter.unusedSimpArgs false

def ofK : List Value → Option Value
  | [.string s, .string r] => if s.data.toList.length ≤ 900000 ∧ r.data.toList.length ≤ 900000 then some (.int .i64 (Go.Dist.dist s.data.toList r.data.toList : Nat)) else none
  | _ => none
def withinK : List Value → Option Value
  | [.string s, .string r, .int .i64 k] => if s.data.toList.length ≤ 900000 ∧ r.data.toList.length ≤ 900000 then some (withinD s.data.toList r.data.toList k) else none
  | _ => none
def worksK : List Value → Option Value
  | [] => some (.bool true)
  | _ => none
theorem flat_within (a b : List UInt8) (k : Int) : flat 9 (withinD a b k) = true := by unfold withinD; split <;> rfl
theorem hook_of : HookOk tb0.P 9 (pureHook ofK) := by
  refine hook_pure tb0_ok (f := 9) (fn := Try.f9) (fn_at Try.func9) c9_eq fun args v h => ?_
  unfold ofK at h
  split at h
  · rename_i s r
    split at h
    · rename_i hn
      cases h
      obtain ⟨A, ha⟩ := run_of s.data.toList r.data.toList hn.1 hn.2 mem0
      obtain ⟨n, hc⟩ := ans_calls (fn_at Try.func9) c9_eq (by kernel_rfl) (by kernel_rfl) ha
      exact ⟨by simp [flat], by simp [flat], n, A, hc⟩
    · cases h
  · cases h
theorem hook_refOf : HookOk tb0.P 8 (pureHook ofK) := by
  refine hook_pure tb0_ok (f := 8) (fn := Try.f8) (fn_at Try.func8) c8_eq fun args v h => ?_
  unfold ofK at h
  split at h
  · rename_i s r
    split at h
    · rename_i hn
      cases h
      obtain ⟨A, ha⟩ := run_refOf s.data.toList r.data.toList hn.1 hn.2 mem0
      obtain ⟨n, hc⟩ := ans_calls (fn_at Try.func8) c8_eq (by kernel_rfl) (by kernel_rfl) ha
      exact ⟨by simp [flat], by simp [flat], n, A, hc⟩
    · cases h
  · cases h
theorem hook_within : HookOk tb0.P 12 (pureHook withinK) := by
  refine hook_pure tb0_ok (f := 12) (fn := Try.f12) (fn_at Try.func12) c12_eq fun args v h => ?_
  unfold withinK at h
  split at h
  · rename_i s r k
    split at h
    · rename_i hn
      cases h
      obtain ⟨A, ha⟩ := run_within s.data.toList r.data.toList k hn.1 hn.2 mem0
      obtain ⟨n, hc⟩ := ans_calls (fn_at Try.func12) c12_eq (by kernel_rfl) (by kernel_rfl) ha
      exact ⟨by simp [flat], flat_within _ _ _, n, A, hc⟩
    · cases h
  · cases h
theorem works_true : isTrue (call tb0 100000 17 [] mem0) = true := by decide +kernel
theorem hook_works : HookOk tb0.P 17 (pureHook worksK) := by
  refine hook_pure tb0_ok (f := 17) (fn := Try.f17) (fn_at Try.func17) (c := (Try.f17.body).getD .skip) (by kernel_rfl) fun args v h => ?_
  unfold worksK at h
  split at h
  · cases h
    have hw := works_true
    revert hw
    cases hc : call tb0 100000 17 [] mem0 with
    | no _ => intro hw; cases hw
    | ok r =>
      cases r with
      | pan _ _ => intro hw; cases hw
      | val v A =>
        intro hw
        cases v with
        | bool b =>
          cases (show b = true from hw)
          exact ⟨by simp, by simp [flat], 100000, A, hc⟩
        | _ => cases hw
  · cases h
def rowQ (args : List Value) (A : Mem) (v : Value) (A' : Mem) : Prop := ∀ q : List UInt8, args = [strOf q] → q.length ≤ 900000 → Slc A' 3 A.next (ints (List.range (q.length + 1))) v ∧ Ext A A'
def nextQ (args : List Value) (A : Mem) (v : Value) (A' : Mem) : Prop := ∀ (q : List UInt8) (row : List Nat) (c : UInt8) (b1 : Nat) (x1 : Value), args = [strOf q, x1, .int .u8 (c.toNat : Nat)] → q.length ≤ 900000 → (∀ n ∈ row, n ≤ 2000000) → Slc A 3 b1 (ints row) x1 →
  Ext A A' ∧ ∃ b, A.next ≤ b ∧ Slc A' 3 b (ints (if row.length = q.length + 1 then nextD q row c else [])) v
theorem ints_inj : ∀ {l m : List Nat}, ints l = ints m → l = m
  | [], [], _ => rfl
  | [], _ :: _, h => by cases h
  | _ :: _, [], h => by cases h
  | a :: l, b :: m, h => by
    simp only [ints, List.map_cons, List.cons.injEq, Value.int.injEq, true_and] at h
    have h1 : a = b := by have := h.1; omega
    rw [h1, ints_inj h.2]
theorem strOf_inj {p q : List UInt8} (h : strOf p = strOf q) : p = q := by
  simp only [strOf, Value.string.injEq, ByteArray.mk.injEq, Array.mk.injEq] at h
  exact h

noncomputable def tb1 : Tab := (((((tb0.know 8 (pureHook ofK)).know 9 (pureHook ofK)).know 12 (pureHook withinK)).know 17 (pureHook worksK)).know 13 (memHook tb0 13 rowQ)).know 16 (memHook tb0 16 nextQ)
theorem tb1_ok : TabOk tb1 := know_ok (know_ok (know_ok (know_ok (know_ok (know_ok tb0_ok hook_refOf) hook_of) hook_within) hook_works) (hook_mem tb0_ok (fn_at Try.func13) c13_eq _)) (hook_mem tb0_ok (fn_at Try.func16) c16_eq _)
section
variable {ih : Code → St → R (Ex × St)} {A : Mem} {a b : List UInt8}
theorem k8 (ha : a.length ≤ 900000) (hb : b.length ≤ 900000) : callF tb1 ih (.fn 8 [strOf a, strOf b]) A = .ok (.val (.int .i64 (Go.Dist.dist a b : Nat)) A) :=
  callF_known (c := (Try.f8.body).getD .skip) (fn_at Try.func8) (by kernel_rfl) (by kernel_rfl) (h := pureHook ofK) (by kernel_rfl) (by
    unfold pureHook
    show (match ofK [.string ⟨⟨a⟩⟩, .string ⟨⟨b⟩⟩] with | some v => R.ok (v, A) | none => .no 600) = _
    simp only [ofK, if_pos (And.intro ha hb)])
theorem k9 (ha : a.length ≤ 900000) (hb : b.length ≤ 900000) : callF tb1 ih (.fn 9 [strOf a, strOf b]) A = .ok (.val (.int .i64 (Go.Dist.dist a b : Nat)) A) :=
  callF_known (c := (Try.f9.body).getD .skip) (fn_at Try.func9) (by kernel_rfl) (by kernel_rfl) (h := pureHook ofK) (by kernel_rfl) (by
    unfold pureHook
    show (match ofK [.string ⟨⟨a⟩⟩, .string ⟨⟨b⟩⟩] with | some v => R.ok (v, A) | none => .no 600) = _
    simp only [ofK, if_pos (And.intro ha hb)])
theorem k12 {k : Int} (ha : a.length ≤ 900000) (hb : b.length ≤ 900000) : callF tb1 ih (.fn 12 [strOf a, strOf b, .int .i64 k]) A = .ok (.val (withinD a b k) A) :=
  callF_known (c := (Try.f12.body).getD .skip) (fn_at Try.func12) (by kernel_rfl) (by kernel_rfl) (h := pureHook withinK) (by kernel_rfl) (by
    unfold pureHook
    show (match withinK [.string ⟨⟨a⟩⟩, .string ⟨⟨b⟩⟩, .int .i64 k] with | some v => R.ok (v, A) | none => .no 600) = _
    simp only [withinK, if_pos (And.intro ha hb)])
theorem k17 : callF tb1 ih (.fn 17 []) A = .ok (.val (.bool true) A) :=
  callF_known (c := (Try.f17.body).getD .skip) (fn_at Try.func17) (by kernel_rfl) (by kernel_rfl) (h := pureHook worksK) (by kernel_rfl) rfl
end
theorem k13 (q : List UInt8) (A : Mem) (hq : q.length ≤ 900000) : ∃ v A', (∀ ih, callF tb1 ih (.fn 13 [strOf q]) A = .ok (.val v A')) ∧ Slc A' 3 A.next (ints (List.range (q.length + 1))) v ∧ Ext A A' := by
  obtain ⟨v, A', ha, h⟩ := run_row q hq A
  have hc := ans_calls (fn_at Try.func13) c13_eq (by kernel_rfl) (by kernel_rfl) ha
  obtain ⟨v, A', h1, h2⟩ := callF_mem (tb' := tb1) (Q := rowQ) (fn_at Try.func13) (by kernel_rfl) c13_eq (by kernel_rfl) ⟨v, A', hc, fun q' e _ => by
    simp only [List.cons.injEq, and_true] at e
    rw [← strOf_inj e]; exact h⟩
  exact ⟨v, A', h1, h2 q rfl hq⟩
theorem k16 {q : List UInt8} {row : List Nat} (c : UInt8) {b1 : Nat} {A : Mem} {x1 : Value} (hql : q.length ≤ 900000) (hsm : ∀ n ∈ row, n ≤ 2000000) (h1 : Slc A 3 b1 (ints row) x1) :
    ∃ v A', (∀ ih, callF tb1 ih (.fn 16 [strOf q, x1, .int .u8 (c.toNat : Nat)]) A = .ok (.val v A')) ∧ Ext A A' ∧ ∃ b, A.next ≤ b ∧ Slc A' 3 b (ints (if row.length = q.length + 1 then nextD q row c else [])) v := by
  obtain ⟨v, A', ha, h⟩ := run_next (c := c) hql hsm h1
  have hc := ans_calls (fn_at Try.func16) c16_eq (by kernel_rfl) (by kernel_rfl) ha
  obtain ⟨v, A', h2, h3⟩ := callF_mem (tb' := tb1) (Q := nextQ) (fn_at Try.func16) (by kernel_rfl) c16_eq (by kernel_rfl) ⟨v, A', hc, fun q' row' c' b1' x1' e _ _ hs => by
    simp only [List.cons.injEq, and_true] at e
    obtain ⟨e1, e2, e3⟩ := e
    subst e2
    have := strOf_inj e1; subst this
    have := ints_inj (h1.uniq hs); subst this
    simp only [Value.int.injEq, true_and] at e3
    have : c = c' := UInt8.toNat_inj.1 (by omega)
    subst this
    exact h⟩
  exact ⟨v, A', h2, h3 q row c b1 x1 rfl hql hsm h1⟩
theorem vnd9 : tb1.und 9 = some .string := by kernel_rfl
theorem vnd3 : tb1.und 3 = some (.int .i64) := by kernel_rfl
theorem vnd4 : tb1.und 4 = some .bool := by kernel_rfl
theorem vnd5 : tb1.und 5 = some (.int .u8) := by kernel_rfl
theorem vnd27 : tb1.und 27 = some (.slice 3) := by kernel_rfl
theorem vnd35 : tb1.und 35 = some (.slice 5) := by kernel_rfl
theorem vnd34 : tb1.und 34 = some (.array 3 9) := by kernel_rfl
theorem vize3 : sizeF tb1 3 = .ok 1 := by kernel_rfl
theorem vize9 : sizeF tb1 9 = .ok 1 := by kernel_rfl

/-- A law that answers true on the abstract machine holds of the model. -/
theorem walk_of {k : Nat} {fn : Func} {c : Code} (hf : Try.prog.funcs[k]? = some fn) (hb : fn.body = some c) {args : List Value} (h : ∃ A, CallsTo tb1 k args mem0 (.bool true) A) (args' : Array Value) (ha : VRs (fun _ => none) args args'.toList) (w : World) :
    Calls Try.prog k args' w fun e w' => e = .returned (.bool true) ∧ Go.Am.Leaves w w' := by
  obtain ⟨A, n, hn⟩ := h
  exact call_true tb1_ok (n := n) (f := k) (args := args) (by rw [hn]; rfl) (fn_at hf) hb args' w ha
end Go.Proofs.Ytekimgleakjonaa.dist

/-
  Dist: texts that are cut.
-/
namespace Go.Proofs.Ytekimgleakjonaa.dist
open Go.Am Go.Dist
set_option linter.unusedSimpArgs false

def cut (n : Nat) (s : List UInt8) : List UInt8 := s.take (min s.length n)
theorem cut_len (n : Nat) (s : List UInt8) : (cut n s).length ≤ n := by unfold cut; rw [List.length_take]; omega
end Go.Proofs.Ytekimgleakjonaa.dist

