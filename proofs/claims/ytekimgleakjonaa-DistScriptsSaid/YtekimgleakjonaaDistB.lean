/-
  What the functions of this group compute on the abstract machine, and the plain laws of it. Part B: conditions stand in each theorem.
-/
import Derived.Test.YtekimgleakjonaaDistA

/-
  Dist: what is known of the distances' functions.
-/
namespace Go.Proofs.Ytekimgleakjonaa.dist
open Go.Am Go.Dist
set_option linter.unusedSimpArgs false

def ofK : List Value → Option Value
  | [.string s, .string r] => if s.data.toList.length ≤ 900000 ∧ r.data.toList.length ≤ 900000 then some (.int .i64 (Go.Dist.dist s.data.toList r.data.toList : Nat)) else none
  | _ => none
def withinK : List Value → Option Value
  | [.string s, .string r, .int .i64 k] => if s.data.toList.length ≤ 900000 ∧ r.data.toList.length ≤ 900000 then some (withinD s.data.toList r.data.toList k) else none
  | _ => none
def worksK : List Value → Option Value
  | [] => some (.bool true)
  | _ => none
theorem flat_within (a b : List UInt8) (k : Int) : flat 9 (withinD a b k) = true := by unfold withinD; split <;> rfl
theorem hook_of : HookOk tb0.P 9 (pureHook ofK) := by
  refine hook_pure tb0_ok (f := 9) (fn := Try.f9) (fn_at Try.func9) c9_eq fun args v h => ?_
  unfold ofK at h
  split at h
  · rename_i s r
    split at h
    · rename_i hn
      cases h
      obtain ⟨A, ha⟩ := run_of s.data.toList r.data.toList hn.1 hn.2 mem0
      obtain ⟨n, hc⟩ := ans_calls (fn_at Try.func9) c9_eq (by kernel_rfl) (by kernel_rfl) ha
      exact ⟨by simp [flat], by simp [flat], n, A, hc⟩
    · cases h
  · cases h
theorem hook_refOf : HookOk tb0.P 8 (pureHook ofK) := by
  refine hook_pure tb0_ok (f := 8) (fn := Try.f8) (fn_at Try.func8) c8_eq fun args v h => ?_
  unfold ofK at h
  split at h
  · rename_i s r
    split at h
    · rename_i hn
      cases h
      obtain ⟨A, ha⟩ := run_refOf s.data.toList r.data.toList hn.1 hn.2 mem0
      obtain ⟨n, hc⟩ := ans_calls (fn_at Try.func8) c8_eq (by kernel_rfl) (by kernel_rfl) ha
      exact ⟨by simp [flat], by simp [flat], n, A, hc⟩
    · cases h
  · cases h
theorem hook_within : HookOk tb0.P 12 (pureHook withinK) := by
  refine hook_pure tb0_ok (f := 12) (fn := Try.f12) (fn_at Try.func12) c12_eq fun args v h => ?_
  unfold withinK at h
  split at h
  · rename_i s r k
    split at h
    · rename_i hn
      cases h
      obtain ⟨A, ha⟩ := run_within s.data.toList r.data.toList k hn.1 hn.2 mem0
      obtain ⟨n, hc⟩ := ans_calls (fn_at Try.func12) c12_eq (by kernel_rfl) (by kernel_rfl) ha
      exact ⟨by simp [flat], flat_within _ _ _, n, A, hc⟩
    · cases h
  · cases h
theorem works_true : isTrue (call tb0 100000 17 [] mem0) = true := by decide +kernel
theorem hook_works : HookOk tb0.P 17 (pureHook worksK) := by
  refine hook_pure tb0_ok (f := 17) (fn := Try.f17) (fn_at Try.func17) (c := (Try.f17.body).getD .skip) (by kernel_rfl) fun args v h => ?_
  unfold worksK at h
  split at h
  · cases h
    have hw := works_true
    revert hw
    cases hc : call tb0 100000 17 [] mem0 with
    | no _ => intro hw; cases hw
    | ok r =>
      cases r with
      | pan _ _ => intro hw; cases hw
      | val v A =>
        intro hw
        cases v with
        | bool b =>
          cases (show b = true from hw)
          exact ⟨by simp, by simp [flat], 100000, A, hc⟩
        | _ => cases hw
  · cases h
def rowQ (args : List Value) (A : Mem) (v : Value) (A' : Mem) : Prop := ∀ q : List UInt8, args = [strOf q] → q.length ≤ 900000 → Slc A' 3 A.next (ints (List.range (q.length + 1))) v ∧ Ext A A'
def nextQ (args : List Value) (A : Mem) (v : Value) (A' : Mem) : Prop := ∀ (q : List UInt8) (row : List Nat) (c : UInt8) (b1 : Nat) (x1 : Value), args = [strOf q, x1, .int .u8 (c.toNat : Nat)] → q.length ≤ 900000 → (∀ n ∈ row, n ≤ 2000000) → Slc A 3 b1 (ints row) x1 →
  Ext A A' ∧ ∃ b, A.next ≤ b ∧ Slc A' 3 b (ints (if row.length = q.length + 1 then nextD q row c else [])) v
theorem ints_inj : ∀ {l m : List Nat}, ints l = ints m → l = m
  | [], [], _ => rfl
  | [], _ :: _, h => by cases h
  | _ :: _, [], h => by cases h
  | a :: l, b :: m, h => by
    simp only [ints, List.map_cons, List.cons.injEq, Value.int.injEq, true_and] at h
    have h1 : a = b := by have := h.1; omega
    rw [h1, ints_inj h.2]
theorem strOf_inj {p q : List UInt8} (h : strOf p = strOf q) : p = q := by
  simp only [strOf, Value.string.injEq, ByteArray.mk.injEq, Array.mk.injEq] at h
  exact h

noncomputable def tb1 : Tab := (((((tb0.know 8 (pureHook ofK)).know 9 (pureHook ofK)).know 12 (pureHook withinK)).know 17 (pureHook worksK)).know 13 (memHook tb0 13 rowQ)).know 16 (memHook tb0 16 nextQ)
theorem tb1_ok : TabOk tb1 := know_ok (know_ok (know_ok (know_ok (know_ok (know_ok tb0_ok hook_refOf) hook_of) hook_within) hook_works) (hook_mem tb0_ok (fn_at Try.func13) c13_eq _)) (hook_mem tb0_ok (fn_at Try.func16) c16_eq _)
section
variable {ih : Code → St → R (Ex × St)} {A : Mem} {a b : List UInt8}
theorem k8 (ha : a.length ≤ 900000) (hb : b.length ≤ 900000) : callF tb1 ih (.fn 8 [strOf a, strOf b]) A = .ok (.val (.int .i64 (Go.Dist.dist a b : Nat)) A) :=
  callF_known (c := (Try.f8.body).getD .skip) (fn_at Try.func8) (by kernel_rfl) (by kernel_rfl) (h := pureHook ofK) (by kernel_rfl) (by
    unfold pureHook
    show (match ofK [.string ⟨⟨a⟩⟩, .string ⟨⟨b⟩⟩] with | some v => R.ok (v, A) | none => .no 600) = _
    simp only [ofK, if_pos (And.intro ha hb)])
theorem k9 (ha : a.length ≤ 900000) (hb : b.length ≤ 900000) : callF tb1 ih (.fn 9 [strOf a, strOf b]) A = .ok (.val (.int .i64 (Go.Dist.dist a b : Nat)) A) :=
  callF_known (c := (Try.f9.body).getD .skip) (fn_at Try.func9) (by kernel_rfl) (by kernel_rfl) (h := pureHook ofK) (by kernel_rfl) (by
    unfold pureHook
    show (match ofK [.string ⟨⟨a⟩⟩, .string ⟨⟨b⟩⟩] with | some v => R.ok (v, A) | none => .no 600) = _
    simp only [ofK, if_pos (And.intro ha hb)])
theorem k12 {k : Int} (ha : a.length ≤ 900000) (hb : b.length ≤ 900000) : callF tb1 ih (.fn 12 [strOf a, strOf b, .int .i64 k]) A = .ok (.val (withinD a b k) A) :=
  callF_known (c := (Try.f12.body).getD .skip) (fn_at Try.func12) (by kernel_rfl) (by kernel_rfl) (h := pureHook withinK) (by kernel_rfl) (by
    unfold pureHook
    show (match withinK [.string ⟨⟨a⟩⟩, .string ⟨⟨b⟩⟩, .int .i64 k] with | some v => R.ok (v, A) | none => .no 600) = _
    simp only [withinK, if_pos (And.intro ha hb)])
theorem k17 : callF tb1 ih (.fn 17 []) A = .ok (.val (.bool true) A) :=
  callF_known (c := (Try.f17.body).getD .skip) (fn_at Try.func17) (by kernel_rfl) (by kernel_rfl) (h := pureHook worksK) (by kernel_rfl) rfl
end
theorem k13 (q : List UInt8) (A : Mem) (hq : q.length ≤ 900000) : ∃ v A', (∀ ih, callF tb1 ih (.fn 13 [strOf q]) A = .ok (.val v A')) ∧ Slc A' 3 A.next (ints (List.range (q.length + 1))) v ∧ Ext A A' := by
  obtain ⟨v, A', ha, h⟩ := run_row q hq A
  have hc := ans_calls (fn_at Try.func13) c13_eq (by kernel_rfl) (by kernel_rfl) ha
  obtain ⟨v, A', h1, h2⟩ := callF_mem (tb' := tb1) (Q := rowQ) (fn_at Try.func13) (by kernel_rfl) c13_eq (by kernel_rfl) ⟨v, A', hc, fun q' e _ => by
    simp only [List.cons.injEq, and_true] at e
    rw [← strOf_inj e]; exact h⟩
  exact ⟨v, A', h1, h2 q rfl hq⟩
theorem k16 {q : List UInt8} {row : List Nat} (c : UInt8) {b1 : Nat} {A : Mem} {x1 : Value} (hql : q.length ≤ 900000) (hsm : ∀ n ∈ row, n ≤ 2000000) (h1 : Slc A 3 b1 (ints row) x1) :
    ∃ v A', (∀ ih, callF tb1 ih (.fn 16 [strOf q, x1, .int .u8 (c.toNat : Nat)]) A = .ok (.val v A')) ∧ Ext A A' ∧ ∃ b, A.next ≤ b ∧ Slc A' 3 b (ints (if row.length = q.length + 1 then nextD q row c else [])) v := by
  obtain ⟨v, A', ha, h⟩ := run_next (c := c) hql hsm h1
  have hc := ans_calls (fn_at Try.func16) c16_eq (by kernel_rfl) (by kernel_rfl) ha
  obtain ⟨v, A', h2, h3⟩ := callF_mem (tb' := tb1) (Q := nextQ) (fn_at Try.func16) (by kernel_rfl) c16_eq (by kernel_rfl) ⟨v, A', hc, fun q' row' c' b1' x1' e _ _ hs => by
    simp only [List.cons.injEq, and_true] at e
    obtain ⟨e1, e2, e3⟩ := e
    subst e2
    have := strOf_inj e1; subst this
    have := ints_inj (h1.uniq hs); subst this
    simp only [Value.int.injEq, true_and] at e3
    have : c = c' := UInt8.toNat_inj.1 (by omega)
    subst this
    exact h⟩
  exact ⟨v, A', h2, h3 q row c b1 x1 rfl hql hsm h1⟩
theorem vnd9 : tb1.und 9 = some .string := by kernel_rfl
theorem vnd3 : tb1.und 3 = some (.int .i64) := by kernel_rfl
theorem vnd4 : tb1.und 4 = some .bool := by kernel_rfl
theorem vnd5 : tb1.und 5 = some (.int .u8) := by kernel_rfl
theorem vnd27 : tb1.und 27 = some (.slice 3) := by kernel_rfl
theorem vnd35 : tb1.und 35 = some (.slice 5) := by kernel_rfl
theorem vnd34 : tb1.und 34 = some (.array 3 9) := by kernel_rfl
theorem vize3 : sizeF tb1 3 = .ok 1 := by kernel_rfl
theorem vize9 : sizeF tb1 9 = .ok 1 := by kernel_rfl

/-- A law that answers true on the abstract machine holds of the model. -/
theorem walk_of {k : Nat} {fn : Func} {c : Code} (hf : Try.prog.funcs[k]? = some fn) (hb : fn.body = some c) {args : List Value} (h : ∃ A, CallsTo tb1 k args mem0 (.bool true) A) (args' : Array Value) (ha : VRs (fun _ => none) args args'.toList) (w : World) :
    Calls Try.prog k args' w fun e w' => e = .returned (.bool true) ∧ Go.Am.Leaves w w' := by
  obtain ⟨A, n, hn⟩ := h
  exact call_true tb1_ok (n := n) (f := k) (args := args) (by rw [hn]; rfl) (fn_at hf) hb args' w ha
end Go.Proofs.Ytekimgleakjonaa.dist

/-
  Dist: texts that are cut.
-/
namespace Go.Proofs.Ytekimgleakjonaa.dist
open Go.Am Go.Dist
set_option linter.unusedSimpArgs false

def cut (n : Nat) (s : List UInt8) : List UInt8 := s.take (min s.length n)
theorem cut_len (n : Nat) (s : List UInt8) : (cut n s).length ≤ n := by unfold cut; rw [List.length_take]; omega
end Go.Proofs.Ytekimgleakjonaa.dist

/-
  Dist: the program's rows, all of them.
-/
namespace Go.Proofs.Ytekimgleakjonaa.dist
open Go.Am Go.Dist
set_option linter.unusedSimpArgs false

theorem vnd42 : tb1.und 42 = some (.slice 27) := by kernel_rfl
theorem vize27 : sizeF tb1 27 = .ok 1 := by kernel_rfl
theorem vize42 : sizeF tb1 42 = .ok 1 := by kernel_rfl
theorem vc27 : zcellsF tb1 27 = .ok (1, [.slice none 0 0]) := by kernel_rfl
theorem vero42 : zeroF tb1 42 = .ok (.slice none 0 0) := by kernel_rfl
theorem vy27 : ∃ i, tb1.ty.get 27 = some i ∧ i.bytes = 24 := by
  have h : (tb1.ty.get 27).map (·.bytes) = some 24 := by kernel_rfl
  cases hq : tb1.ty.get 27 with
  | none => rw [hq] at h; cases h
  | some i => rw [hq] at h; exact ⟨i, rfl, by simpa using h⟩
theorem vs42 (A : Mem) {e : TypeId} {b : Nat} {l : List Value} {x : Value} (h : Slc A e b l x) : buildSliceF tb1 42 1 [(0, x)] = .ok (rowOb 27 [x], .slc 1 2) := by
  rcases h with ⟨rfl, rfl⟩ | ⟨k, c, rfl, -⟩ <;> kernel_rfl

/-- The rows behind the beginnings of a text, in memory. -/
def RowsAt (C : Mem) (a b : List UInt8) (lo bt b5 n : Nat) (xs : List Value) : Prop :=
  xs.length = n ∧ ∀ j, j < n → ∃ x bi, xs[j]? = some x ∧ Slc C 3 bi (ints (rowOf a (b.take j))) x ∧ lo ≤ bi ∧ bi < C.next ∧ bi ≠ bt ∧ bi ≠ b5
/-- What the closure of a script has. -/
structure Clo (C : Mem) (a b : List UInt8) (lo b2 b3 b5 bt n : Nat) (xt : Value) (xs : List Value) : Prop where
  ha : Vals C 9 b2 (.var 1) [strOf a]
  hb : Vals C 9 b3 (.var 1) [strOf b]
  ht : Vals C 42 b5 (.var 1) [xt]
  hs : Slc C 27 bt xs xt
  hr : RowsAt C a b lo bt b5 n xs
  h2 : lo ≤ b2 ∧ b2 < C.next ∧ b2 ≠ b5 ∧ b2 ≠ bt
  h3 : lo ≤ b3 ∧ b3 < C.next ∧ b3 ≠ b5 ∧ b3 ≠ bt
  h5 : lo ≤ b5 ∧ b5 < C.next ∧ b5 ≠ bt
  h6 : lo ≤ bt

noncomputable def c20 : Code := Try.f20.body.getD .skip
noncomputable def c20b1 : Code := sub c20 [1,1,0,1,0,0]
theorem c20_eq : Try.f20.body = some (.seq (sub c20 [0]) (.seq (sub c20 [1,0]) (.seq (.seq (sub c20 [1,1,0,0]) (.block 0 (.loop c20b1))) (.seq (sub c20 [1,1,1,0]) (sub c20 [1,1,1,1]))))) := by kernel_rfl

set_option maxHeartbeats 4000000 in
set_option maxRecDepth 20000 in
theorem back_loop {a b : List UInt8} {lo b2 b3 b5 : Nat} {A : Mem} {t : T Value} {C : Mem} {K : Ex → St → Prop} (ha : a.length ≤ 900000) (hb : b.length ≤ 900000)
    (h : ∃ bt xt xs, Clo C a b lo b2 b3 b5 bt 1 xt xs ∧ Sl t [(2, .pointer (some ⟨b2, 0, none⟩)), (3, .pointer (some ⟨b3, 0, none⟩)), (5, .pointer (some ⟨b5, 0, none⟩)), (11, .int .i64 (b.length : Int)), (12, .int .i64 ((0 : Nat) : Int))] ∧ Ext A C) (hlo : A.next ≤ lo)
    (hk : ∀ t C bt xt xs, Clo C a b lo b2 b3 b5 bt (b.length + 1) xt xs → Sl t [(2, .pointer (some ⟨b2, 0, none⟩)), (3, .pointer (some ⟨b3, 0, none⟩)), (5, .pointer (some ⟨b5, 0, none⟩))] → Ext A C → K (.exit 0) ⟨t, 29, [], C, none⟩) : W tb1 (.loop c20b1) ⟨t, 29, [], C, none⟩ K := by
  refine W.up b.length (fun k t C => ∃ bt xt xs, Clo C a b lo b2 b3 b5 bt (k + 1) xt xs ∧ Sl t [(2, .pointer (some ⟨b2, 0, none⟩)), (3, .pointer (some ⟨b3, 0, none⟩)), (5, .pointer (some ⟨b5, 0, none⟩)), (11, .int .i64 (b.length : Int)), (12, .int .i64 (k : Int))] ∧ Ext A C) ?_ (Nat.zero_le _) h
  rintro k t C hkl ⟨bt, xt, xs, hC, ⟨g2, g3, g5, g11, g12, -⟩, hE⟩
  by_cases hlt : k < b.length
  · have la := load_box (tb := tb1) vnd9 rfl hC.ha
    have lb := load_box (tb := tb1) vnd9 rfl hC.hb
    have lt := load_box (tb := tb1) vnd42 rfl hC.ht
    obtain ⟨x, bi, hx, hsx, hlo1, hbi, hbt, hb5⟩ := hC.hr.2 k (by omega)
    have hix := hC.hs.idx (tb := tb1) (t := 42) (t' := 27) (kd := .i64) (i := k) vnd42 vize27 (by rw [hC.hr.1]; omega)
    have hld := hC.hs.load (tb := tb1) (t := 27) (o := k) vnd27 rfl hx
    obtain ⟨v, C1, hca, hE1, bn, hbn, hsn⟩ := k16 (q := a) (b.getD k 0) ha (rowOf_small ha (by rw [List.length_take]; omega)) hsx
    rw [if_pos (rowOf_len _ _), nextD_eq, ← take_getD hlt] at hsn
    have hbn2 := hsn.lt (by rw [ints_len, rowOf_len]; omega)
    have lt2 := load_box (tb := tb1) vnd42 rfl (hC.ht.same (hE1.2 b5 hC.h5.2.1))
    have hbs := vs42 C1 hsn
    have hE2 := Ext.alloc C1 (rowOb 27 [v])
    have hbtl := hC.hs.lt (by rw [hC.hr.1]; omega)
    obtain ⟨ti, ht1, ht2⟩ := vy27
    obtain ⟨x', C3, happ, hs3, hn3, hf3⟩ := (hE2.slc (hE1.slc hC.hs)).append (tb := tb1) (st := 42) (xt := 42) vnd42 vnd42 vc27 ht1 (by omega) (by omega) (by rw [hC.hr.1]; omega) (get_alloc_self C1 _) hsn.one
    have hn2 : (C1.alloc (rowOb 27 [v])).next = C1.next + 1 := next_alloc _ _
    have hn1 := hE1.1
    have hv3 : Vals C3 42 b5 (.var 1) [xt] := hC.ht.same (by rw [hf3 b5 hC.h5.2.2 (by have := hC.h5.2.1; omega), hE2.2 b5 (by have := hC.h5.2.1; omega), hE1.2 b5 hC.h5.2.1])
    obtain ⟨C4, hst, hv4, hn4, hf4⟩ := store_box (tb := tb1) (t := 42) vize42 hv3 hs3.cells hs3.one
    have hself := hC.hs.self
    have hfr : ∀ y, y ≠ bt → y ≠ b5 → y < C1.next → C4.get y = C1.get y := fun y h1 h2 h3 => by rw [hf4 y h2, hf3 y h1 (by omega), hE2.2 y h3]
    have hfr0 : ∀ y, y ≠ bt → y ≠ b5 → y < C.next → C4.get y = C.get y := fun y h1 h2 h3 => by rw [hfr y h1 h2 (by omega), hE1.2 y h3]
    have q2 := hC.h2
    have q3 := hC.h3
    have q5 := hC.h5
    have q6 := hC.h6
    have hbsn : bi < C.next := hbi
    apply W.run 20
    · intro M
      simp (config := { maxSteps := 4000000 }) (disch := first | decide +kernel | (rw [wantF_guard]; simp only [wantD_some, dstAt_zero, dstAt_succ, T.get_set, T.get_e, Nat.reduceEqDiff, if_true, if_false, wantV_bool, wantV_unit, unitV, cond_true, cond_false, Bool.not_true, Bool.not_false, List.toList_toArray]) | omega) only [c20b1, c20, Try.f20, Nat.ble, cond_true, cond_false, T.puts_cons, T.puts_nil, exec_seq, exec_block, nat_beq_self, exec_region, exec_cond, exec_skip, exec_ret, exec_exit, exec_scope, runOps_cons, runOps_nil, opF_move, opF_assign, opF_ari, opF_neq, opF_eql, opF_un, opF_index, opF_indexAddr, opF_fieldAddr, opF_field, opF_build, opF_slice, opF_extract, opF_pick, opF_load, opF_alloc, opF_box, opF_buildSlice, opF_makeSlice, opF_store, opF_conv, opF_len, opF_minmax, opF_builtin, opF_call, resK, ev_tmp, evG_some, ev_int, ev_bool, ev_str, evs, evp, evo, R.ok_bind, putT_some, putT_none, T.get_set, T.get_e, binF_int, op_rem, op_quo_u32, op_xor_u32, op_neq, op_eql, op_lss, op_add_i64, op_sub_u32, op_and_u8, op_xor_u8, op_not_u32, binF_shr_u32, binF_shr_u8, op_mul_i64, op_quo_i64, op_and_u32, binF_shl_u8, wrapF_u8, wrapF_u32, mod_u8, mod_u32, cond_val, Nat.lt_irrefl, Nat.not_lt_zero, if_true, if_false, reduceIte, Nat.reduceEqDiff, Nat.reduceAdd, ne_eq, not_true_eq_false, not_false_eq_true, decide_true, decide_false, Bool.false_eq_true, Bool.not_true, Bool.not_false, sub_nil, sub_seq0, sub_seq1, sub_cond0, sub_cond1, sub_block, sub_loop, sub_scope, sub_range0, sub_range1, Option.getD_some, at_ptr, at_slc, runOps_yes, runOps_no, exec_draw, op_sub_i64, op_sub_neg, op_lss_neg, binF_str, str_add, str_neq, str_eql, takeF, resF, oneOf, pickF, extractF, cells_str, cells_int, cells_agg, bool_eql, bool_neq, op_lssI, bne_self_eq_false, beq_self_eq_true, eq_self, cells_slc, cells_func, builtin_append, ev_nilslice, ev_nilfunc, ev_nilptr, ev_nilmap, opF_makeFunc, opF_callv, callV_func, callV_yield, op_leq, op_gtr, op_geq, cast_le, cast_lt, List.nil_append, List.cons_append, List.append_nil, un_not, runD_end, runD_P, runD_Rd, runD_Al, runD_L, runD_gno, runD_gP, runD_gRd, runD_gAl, runD_gL, sameV_str, selF_nil, selF_yes, selF_no, selR_nil, selR_yes, selR_no, rereadM_nil, rereadM_cons, rereadR_nil, rereadR_cons, reread_load, rereadV_eq, rOp_load, hide_nil, backF_nil, List.map_nil, Bool.and_true, Bool.true_and, Bool.and_self, exec_float [(0, 9)], g2, g3, g5, g11, g12, hlt, la, lb, lt, lt2, hself, hix, hld, index_str vnd9, hca, hbs, happ, hst]
      with_reducible rfl
    refine ⟨hlt, _, _, rfl, (C1.alloc (rowOb 27 [v])).next, x', xs ++ [v], ⟨?_, ?_, hv4, ?_, ⟨?_, ?_⟩, ?_, ?_, ?_, ?_⟩, ?_, ?_⟩
    · exact hC.ha.same (hfr0 b2 q2.2.2.2 q2.2.2.1 q2.2.1)
    · exact hC.hb.same (hfr0 b3 q3.2.2.2 q3.2.2.1 q3.2.1)
    · exact hs3.same (by omega) (fun _ => hf4 _ (by omega))
    · rw [List.length_append, hC.hr.1]; rfl
    · intro j hj
      by_cases hjk : j < k + 1
      · obtain ⟨x2, bi2, e1, e2, e3, e4, e5, e6⟩ := hC.hr.2 j hjk
        exact ⟨x2, bi2, by rw [List.getElem?_append_left (by rw [hC.hr.1]; exact hjk)]; exact e1, e2.same (by omega) (fun _ => hfr0 bi2 e5 e6 e4), e3, by omega, by omega, e6⟩
      · have hje : j = k + 1 := by omega
        subst hje
        refine ⟨v, bn, by rw [List.getElem?_append_right (by rw [hC.hr.1]; omega), hC.hr.1, Nat.sub_self]; rfl, hsn.same (by omega) (fun _ => hfr bn ?_ ?_ hbn2), ?_, by omega, by omega, ?_⟩
        all_goals omega
    · omega
    · omega
    · omega
    · omega
    · simp only [Sl_cons, Sl_nil, T.get_set, T.puts_cons, T.puts_nil, Nat.reduceEqDiff, Nat.reduceAdd, if_true, if_false, and_true, true_and, g2, g3, g5, g11]
    · refine ⟨by have := hE.1; omega, fun y hy => ?_⟩
      have := hE.1
      rw [hfr0 y (by omega) (by omega) (by omega), hE.2 y hy]
  · have hkb : k = b.length := by omega
    subst hkb
    apply W.run 20
    · intro M
      simp (config := { maxSteps := 4000000 }) (disch := first | decide +kernel | (rw [wantF_guard]; simp only [wantD_some, dstAt_zero, dstAt_succ, T.get_set, T.get_e, Nat.reduceEqDiff, if_true, if_false, wantV_bool, wantV_unit, unitV, cond_true, cond_false, Bool.not_true, Bool.not_false, List.toList_toArray]) | omega) only [c20b1, c20, Try.f20, Nat.ble, cond_true, cond_false, T.puts_cons, T.puts_nil, exec_seq, exec_block, nat_beq_self, exec_region, exec_cond, exec_skip, exec_ret, exec_exit, exec_scope, runOps_cons, runOps_nil, opF_move, opF_assign, opF_ari, opF_neq, opF_eql, opF_un, opF_index, opF_indexAddr, opF_fieldAddr, opF_field, opF_build, opF_slice, opF_extract, opF_pick, opF_load, opF_alloc, opF_box, opF_buildSlice, opF_makeSlice, opF_store, opF_conv, opF_len, opF_minmax, opF_builtin, opF_call, resK, ev_tmp, evG_some, ev_int, ev_bool, ev_str, evs, evp, evo, R.ok_bind, putT_some, putT_none, T.get_set, T.get_e, binF_int, op_rem, op_quo_u32, op_xor_u32, op_neq, op_eql, op_lss, op_add_i64, op_sub_u32, op_and_u8, op_xor_u8, op_not_u32, binF_shr_u32, binF_shr_u8, op_mul_i64, op_quo_i64, op_and_u32, binF_shl_u8, wrapF_u8, wrapF_u32, mod_u8, mod_u32, cond_val, Nat.lt_irrefl, Nat.not_lt_zero, if_true, if_false, reduceIte, Nat.reduceEqDiff, Nat.reduceAdd, ne_eq, not_true_eq_false, not_false_eq_true, decide_true, decide_false, Bool.false_eq_true, Bool.not_true, Bool.not_false, sub_nil, sub_seq0, sub_seq1, sub_cond0, sub_cond1, sub_block, sub_loop, sub_scope, sub_range0, sub_range1, Option.getD_some, at_ptr, at_slc, runOps_yes, runOps_no, exec_draw, op_sub_i64, op_sub_neg, op_lss_neg, binF_str, str_add, str_neq, str_eql, takeF, resF, oneOf, pickF, extractF, cells_str, cells_int, cells_agg, bool_eql, bool_neq, op_lssI, bne_self_eq_false, beq_self_eq_true, eq_self, cells_slc, cells_func, builtin_append, ev_nilslice, ev_nilfunc, ev_nilptr, ev_nilmap, opF_makeFunc, opF_callv, callV_func, callV_yield, op_leq, op_gtr, op_geq, cast_le, cast_lt, List.nil_append, List.cons_append, List.append_nil, un_not, g11, g12]
      with_reducible rfl
    refine hk _ _ bt xt xs hC ?_ hE
    simp only [Sl_cons, Sl_nil, T.get_set, T.puts_cons, T.puts_nil, Nat.reduceEqDiff, Nat.reduceAdd, if_true, if_false, and_true, true_and, g2, g3, g5]

set_option maxHeartbeats 4000000 in
set_option maxRecDepth 20000 in
theorem run_back (a b : List UInt8) (ha : a.length ≤ 900000) (hb : b.length ≤ 900000) (A : Mem) : ∃ v A', Ans tb1 20 [strOf a, strOf b] A v A' ∧ ∃ b2 b3 b5 bt xt xs, v = .func (.func 24) ⟨[]⟩ ⟨[.pointer (some ⟨b2, 0, none⟩), .pointer (some ⟨b3, 0, none⟩), .pointer (some ⟨b5, 0, none⟩)]⟩ ∧
    Clo A' a b A.next b2 b3 b5 bt (b.length + 1) xt xs ∧ Ext A A' := by
  refine ans_of_W (fn_at Try.func20) c20_eq (by rw [Try.ntmps20]; simp) (by kernel_rfl) (by kernel_rfl) ?_
  apply W.seq
  apply W.run 20
  · intro M
    simp (config := { maxSteps := 4000000 }) (disch := first | decide +kernel | (rw [wantF_guard]; simp only [wantD_some, dstAt_zero, dstAt_succ, T.get_set, T.get_e, Nat.reduceEqDiff, if_true, if_false, wantV_bool, wantV_unit, unitV, cond_true, cond_false, Bool.not_true, Bool.not_false, List.toList_toArray]) | omega) only [c20, Try.f20, Nat.ble, cond_true, cond_false, T.puts_cons, T.puts_nil, exec_seq, exec_block, nat_beq_self, exec_region, exec_cond, exec_skip, exec_ret, exec_exit, exec_scope, runOps_cons, runOps_nil, opF_move, opF_assign, opF_ari, opF_neq, opF_eql, opF_un, opF_index, opF_indexAddr, opF_fieldAddr, opF_field, opF_build, opF_slice, opF_extract, opF_pick, opF_load, opF_alloc, opF_box, opF_buildSlice, opF_makeSlice, opF_store, opF_conv, opF_len, opF_minmax, opF_builtin, opF_call, resK, ev_tmp, evG_some, ev_int, ev_bool, ev_str, evs, evp, evo, R.ok_bind, putT_some, putT_none, T.get_set, T.get_e, binF_int, op_rem, op_quo_u32, op_xor_u32, op_neq, op_eql, op_lss, op_add_i64, op_sub_u32, op_and_u8, op_xor_u8, op_not_u32, binF_shr_u32, binF_shr_u8, op_mul_i64, op_quo_i64, op_and_u32, binF_shl_u8, wrapF_u8, wrapF_u32, mod_u8, mod_u32, cond_val, Nat.lt_irrefl, Nat.not_lt_zero, if_true, if_false, reduceIte, Nat.reduceEqDiff, Nat.reduceAdd, ne_eq, not_true_eq_false, not_false_eq_true, decide_true, decide_false, Bool.false_eq_true, Bool.not_true, Bool.not_false, sub_nil, sub_seq0, sub_seq1, sub_cond0, sub_cond1, sub_block, sub_loop, sub_scope, sub_range0, sub_range1, Option.getD_some, at_ptr, at_slc, runOps_yes, runOps_no, exec_draw, op_sub_i64, op_sub_neg, op_lss_neg, binF_str, str_add, str_neq, str_eql, takeF, resF, oneOf, pickF, extractF, cells_str, cells_int, cells_agg, bool_eql, bool_neq, op_lssI, bne_self_eq_false, beq_self_eq_true, eq_self, cells_slc, cells_func, builtin_append, ev_nilslice, ev_nilfunc, ev_nilptr, ev_nilmap, opF_makeFunc, opF_callv, callV_func, callV_yield, op_leq, op_gtr, op_geq, cast_le, cast_lt, List.nil_append, List.cons_append, List.append_nil, un_not, next_alloc]
    with_reducible rfl
  have hva : Vals ((A.alloc (rowOb 9 [strOf a])).alloc (rowOb 9 [strOf b])) 9 A.next (.var 1) [strOf a] := vals_box (by simp [get_alloc, next_alloc])
  have hvb : Vals ((A.alloc (rowOb 9 [strOf a])).alloc (rowOb 9 [strOf b])) 9 (A.next + 1) (.var 1) [strOf b] := vals_box (by simp [get_alloc, next_alloc])
  have hE : Ext A ((A.alloc (rowOb 9 [strOf a])).alloc (rowOb 9 [strOf b])) := (Ext.alloc A _).trans (Ext.alloc _ _)
  have hn : ((A.alloc (rowOb 9 [strOf a])).alloc (rowOb 9 [strOf b])).next = A.next + 2 := by simp [next_alloc]
  revert hva hvb hE hn
  generalize (A.alloc (rowOb 9 [strOf a])).alloc (rowOb 9 [strOf b]) = B
  intro hva hvb hE hn
  have la := load_box (tb := tb1) vnd9 rfl hva
  obtain ⟨xr, B1, hrow, hsr, hE1⟩ := k13 a B ha
  have hrl := hsr.lt (by rw [ints_len]; simp)
  have hbs := vs42 B1 hsr
  have hv0 : Vals ((B1.alloc (rowOb 27 [xr])).alloc (rowOb 42 [.slice none 0 0])) 42 (B1.next + 1) (.var 1) [.slice none 0 0] := vals_box (by simp [get_alloc, next_alloc])
  obtain ⟨B3, hst, hv3, hn3, hf3⟩ := store_box (tb := tb1) (t := 42) (w := .slice (some ⟨B1.next, 0, none⟩) 1 2) vize42 hv0 rfl rfl
  have hnn : ((B1.alloc (rowOb 27 [xr])).alloc (rowOb 42 [.slice none 0 0])).next = B1.next + 2 := by simp [next_alloc]
  have hn1 := hE1.1
  apply W.seq
  apply W.run 20
  · intro M
    simp (config := { maxSteps := 4000000 }) (disch := first | decide +kernel | (rw [wantF_guard]; simp only [wantD_some, dstAt_zero, dstAt_succ, T.get_set, T.get_e, Nat.reduceEqDiff, if_true, if_false, wantV_bool, wantV_unit, unitV, cond_true, cond_false, Bool.not_true, Bool.not_false, List.toList_toArray]) | omega) only [c20, Try.f20, Nat.ble, cond_true, cond_false, T.puts_cons, T.puts_nil, exec_seq, exec_block, nat_beq_self, exec_region, exec_cond, exec_skip, exec_ret, exec_exit, exec_scope, runOps_cons, runOps_nil, opF_move, opF_assign, opF_ari, opF_neq, opF_eql, opF_un, opF_index, opF_indexAddr, opF_fieldAddr, opF_field, opF_build, opF_slice, opF_extract, opF_pick, opF_load, opF_alloc, opF_box, opF_buildSlice, opF_makeSlice, opF_store, opF_conv, opF_len, opF_minmax, opF_builtin, opF_call, resK, ev_tmp, evG_some, ev_int, ev_bool, ev_str, evs, evp, evo, R.ok_bind, putT_some, putT_none, T.get_set, T.get_e, binF_int, op_rem, op_quo_u32, op_xor_u32, op_neq, op_eql, op_lss, op_add_i64, op_sub_u32, op_and_u8, op_xor_u8, op_not_u32, binF_shr_u32, binF_shr_u8, op_mul_i64, op_quo_i64, op_and_u32, binF_shl_u8, wrapF_u8, wrapF_u32, mod_u8, mod_u32, cond_val, Nat.lt_irrefl, Nat.not_lt_zero, if_true, if_false, reduceIte, Nat.reduceEqDiff, Nat.reduceAdd, ne_eq, not_true_eq_false, not_false_eq_true, decide_true, decide_false, Bool.false_eq_true, Bool.not_true, Bool.not_false, sub_nil, sub_seq0, sub_seq1, sub_cond0, sub_cond1, sub_block, sub_loop, sub_scope, sub_range0, sub_range1, Option.getD_some, at_ptr, at_slc, runOps_yes, runOps_no, exec_draw, op_sub_i64, op_sub_neg, op_lss_neg, binF_str, str_add, str_neq, str_eql, takeF, resF, oneOf, pickF, extractF, cells_str, cells_int, cells_agg, bool_eql, bool_neq, op_lssI, bne_self_eq_false, beq_self_eq_true, eq_self, cells_slc, cells_func, builtin_append, ev_nilslice, ev_nilfunc, ev_nilptr, ev_nilmap, opF_makeFunc, opF_callv, callV_func, callV_yield, op_leq, op_gtr, op_geq, cast_le, cast_lt, List.nil_append, List.cons_append, List.append_nil, un_not, la, hrow, hbs, vero42, next_alloc, hst]
    with_reducible rfl
  have hfr : ∀ y, y < B1.next → B3.get y = B1.get y := fun y hy => by rw [hf3 y (by omega), get_alloc_ne (by rw [next_alloc]; omega), get_alloc_ne (by omega)]
  have hfr0 : ∀ y, y < B.next → B3.get y = B.get y := fun y hy => by rw [hfr y (by omega), hE1.2 y hy]
  have hva3 := hva.same (hfr0 A.next (by omega))
  have hvb3 := hvb.same (hfr0 (A.next + 1) (by omega))
  have lb := load_box (tb := tb1) vnd9 rfl hvb3
  apply W.seq
  apply W.seq
  apply W.run 20
  · intro M
    simp (config := { maxSteps := 4000000 }) (disch := first | decide +kernel | (rw [wantF_guard]; simp only [wantD_some, dstAt_zero, dstAt_succ, T.get_set, T.get_e, Nat.reduceEqDiff, if_true, if_false, wantV_bool, wantV_unit, unitV, cond_true, cond_false, Bool.not_true, Bool.not_false, List.toList_toArray]) | omega) only [c20, Try.f20, Nat.ble, cond_true, cond_false, T.puts_cons, T.puts_nil, exec_seq, exec_block, nat_beq_self, exec_region, exec_cond, exec_skip, exec_ret, exec_exit, exec_scope, runOps_cons, runOps_nil, opF_move, opF_assign, opF_ari, opF_neq, opF_eql, opF_un, opF_index, opF_indexAddr, opF_fieldAddr, opF_field, opF_build, opF_slice, opF_extract, opF_pick, opF_load, opF_alloc, opF_box, opF_buildSlice, opF_makeSlice, opF_store, opF_conv, opF_len, opF_minmax, opF_builtin, opF_call, resK, ev_tmp, evG_some, ev_int, ev_bool, ev_str, evs, evp, evo, R.ok_bind, putT_some, putT_none, T.get_set, T.get_e, binF_int, op_rem, op_quo_u32, op_xor_u32, op_neq, op_eql, op_lss, op_add_i64, op_sub_u32, op_and_u8, op_xor_u8, op_not_u32, binF_shr_u32, binF_shr_u8, op_mul_i64, op_quo_i64, op_and_u32, binF_shl_u8, wrapF_u8, wrapF_u32, mod_u8, mod_u32, cond_val, Nat.lt_irrefl, Nat.not_lt_zero, if_true, if_false, reduceIte, Nat.reduceEqDiff, Nat.reduceAdd, ne_eq, not_true_eq_false, not_false_eq_true, decide_true, decide_false, Bool.false_eq_true, Bool.not_true, Bool.not_false, sub_nil, sub_seq0, sub_seq1, sub_cond0, sub_cond1, sub_block, sub_loop, sub_scope, sub_range0, sub_range1, Option.getD_some, at_ptr, at_slc, runOps_yes, runOps_no, exec_draw, op_sub_i64, op_sub_neg, op_lss_neg, binF_str, str_add, str_neq, str_eql, takeF, resF, oneOf, pickF, extractF, cells_str, cells_int, cells_agg, bool_eql, bool_neq, op_lssI, bne_self_eq_false, beq_self_eq_true, eq_self, cells_slc, cells_func, builtin_append, ev_nilslice, ev_nilfunc, ev_nilptr, ev_nilmap, opF_makeFunc, opF_callv, callV_func, callV_yield, op_leq, op_gtr, op_geq, cast_le, cast_lt, List.nil_append, List.cons_append, List.append_nil, un_not, lb, len_str vnd9]
    with_reducible rfl
  apply W.block
  refine back_loop (a := a) (b := b) (lo := A.next) (b2 := A.next) (b3 := A.next + 1) (b5 := B1.next + 1) (A := A) ha hb ⟨B1.next, .slice (some ⟨B1.next, 0, none⟩) 1 2, [xr], ⟨hva3, hvb3, hv3, .inr ⟨.var 1, 2, rfl, by omega, vals_puts ?_, .inl rfl⟩, ⟨rfl, fun j hj => ?_⟩, ⟨by omega, by omega, by omega, by omega⟩, ⟨by omega, by omega, by omega, by omega⟩, ⟨by omega, by omega, by omega⟩, by omega⟩, ?_, ?_⟩ (Nat.le_refl _) ?_
  · rw [hf3 _ (by omega), get_alloc_ne (by rw [next_alloc]; omega), get_alloc_self]; rfl
  · have hj0 : j = 0 := by omega
    subst hj0
    refine ⟨xr, B.next, rfl, ?_, by omega, by omega, by omega, by omega⟩
    rw [List.take_zero, rowOf_nil]
    exact hsr.same (by omega) (fun h => hfr _ h)
  · simp only [Sl_cons, Sl_nil, T.get_set, T.puts_cons, T.puts_nil, Nat.reduceEqDiff, Nat.reduceAdd, if_true, if_false, and_true, true_and]
  · exact ⟨by omega, fun y hy => by rw [hfr0 y (by omega), hE.2 y hy]⟩
  rintro t C bt xt xs hC ⟨g2, g3, g5, -⟩ hEC
  show W tb1 _ _ _
  apply W.seq
  apply W.run 20
  · intro M
    simp (config := { maxSteps := 4000000 }) (disch := first | decide +kernel | (rw [wantF_guard]; simp only [wantD_some, dstAt_zero, dstAt_succ, T.get_set, T.get_e, Nat.reduceEqDiff, if_true, if_false, wantV_bool, wantV_unit, unitV, cond_true, cond_false, Bool.not_true, Bool.not_false, List.toList_toArray]) | omega) only [c20, Try.f20, Nat.ble, cond_true, cond_false, T.puts_cons, T.puts_nil, exec_seq, exec_block, nat_beq_self, exec_region, exec_cond, exec_skip, exec_ret, exec_exit, exec_scope, runOps_cons, runOps_nil, opF_move, opF_assign, opF_ari, opF_neq, opF_eql, opF_un, opF_index, opF_indexAddr, opF_fieldAddr, opF_field, opF_build, opF_slice, opF_extract, opF_pick, opF_load, opF_alloc, opF_box, opF_buildSlice, opF_makeSlice, opF_store, opF_conv, opF_len, opF_minmax, opF_builtin, opF_call, resK, ev_tmp, evG_some, ev_int, ev_bool, ev_str, evs, evp, evo, R.ok_bind, putT_some, putT_none, T.get_set, T.get_e, binF_int, op_rem, op_quo_u32, op_xor_u32, op_neq, op_eql, op_lss, op_add_i64, op_sub_u32, op_and_u8, op_xor_u8, op_not_u32, binF_shr_u32, binF_shr_u8, op_mul_i64, op_quo_i64, op_and_u32, binF_shl_u8, wrapF_u8, wrapF_u32, mod_u8, mod_u32, cond_val, Nat.lt_irrefl, Nat.not_lt_zero, if_true, if_false, reduceIte, Nat.reduceEqDiff, Nat.reduceAdd, ne_eq, not_true_eq_false, not_false_eq_true, decide_true, decide_false, Bool.false_eq_true, Bool.not_true, Bool.not_false, sub_nil, sub_seq0, sub_seq1, sub_cond0, sub_cond1, sub_block, sub_loop, sub_scope, sub_range0, sub_range1, Option.getD_some, at_ptr, at_slc, runOps_yes, runOps_no, exec_draw, op_sub_i64, op_sub_neg, op_lss_neg, binF_str, str_add, str_neq, str_eql, takeF, resF, oneOf, pickF, extractF, cells_str, cells_int, cells_agg, bool_eql, bool_neq, op_lssI, bne_self_eq_false, beq_self_eq_true, eq_self, cells_slc, cells_func, builtin_append, ev_nilslice, ev_nilfunc, ev_nilptr, ev_nilmap, opF_makeFunc, opF_callv, callV_func, callV_yield, op_leq, op_gtr, op_geq, cast_le, cast_lt, List.nil_append, List.cons_append, List.append_nil, un_not, g2, g3, g5]
    with_reducible rfl
  apply W.run 20
  · intro M
    simp (config := { maxSteps := 4000000 }) (disch := first | decide +kernel | (rw [wantF_guard]; simp only [wantD_some, dstAt_zero, dstAt_succ, T.get_set, T.get_e, Nat.reduceEqDiff, if_true, if_false, wantV_bool, wantV_unit, unitV, cond_true, cond_false, Bool.not_true, Bool.not_false, List.toList_toArray]) | omega) only [c20, Try.f20, Nat.ble, cond_true, cond_false, T.puts_cons, T.puts_nil, exec_seq, exec_block, nat_beq_self, exec_region, exec_cond, exec_skip, exec_ret, exec_exit, exec_scope, runOps_cons, runOps_nil, opF_move, opF_assign, opF_ari, opF_neq, opF_eql, opF_un, opF_index, opF_indexAddr, opF_fieldAddr, opF_field, opF_build, opF_slice, opF_extract, opF_pick, opF_load, opF_alloc, opF_box, opF_buildSlice, opF_makeSlice, opF_store, opF_conv, opF_len, opF_minmax, opF_builtin, opF_call, resK, ev_tmp, evG_some, ev_int, ev_bool, ev_str, evs, evp, evo, R.ok_bind, putT_some, putT_none, T.get_set, T.get_e, binF_int, op_rem, op_quo_u32, op_xor_u32, op_neq, op_eql, op_lss, op_add_i64, op_sub_u32, op_and_u8, op_xor_u8, op_not_u32, binF_shr_u32, binF_shr_u8, op_mul_i64, op_quo_i64, op_and_u32, binF_shl_u8, wrapF_u8, wrapF_u32, mod_u8, mod_u32, cond_val, Nat.lt_irrefl, Nat.not_lt_zero, if_true, if_false, reduceIte, Nat.reduceEqDiff, Nat.reduceAdd, ne_eq, not_true_eq_false, not_false_eq_true, decide_true, decide_false, Bool.false_eq_true, Bool.not_true, Bool.not_false, sub_nil, sub_seq0, sub_seq1, sub_cond0, sub_cond1, sub_block, sub_loop, sub_scope, sub_range0, sub_range1, Option.getD_some, at_ptr, at_slc, runOps_yes, runOps_no, exec_draw, op_sub_i64, op_sub_neg, op_lss_neg, binF_str, str_add, str_neq, str_eql, takeF, resF, oneOf, pickF, extractF, cells_str, cells_int, cells_agg, bool_eql, bool_neq, op_lssI, bne_self_eq_false, beq_self_eq_true, eq_self, cells_slc, cells_func, builtin_append, ev_nilslice, ev_nilfunc, ev_nilptr, ev_nilmap, opF_makeFunc, opF_callv, callV_func, callV_yield, op_leq, op_gtr, op_geq, cast_le, cast_lt, List.nil_append, List.cons_append, List.append_nil, un_not]
    with_reducible rfl
  refine ⟨.inr rfl, _, [.func (.func 24) ⟨[]⟩ ⟨[.pointer (some ⟨A.next, 0, none⟩), .pointer (some ⟨A.next + 1, 0, none⟩), .pointer (some ⟨B1.next + 1, 0, none⟩)]⟩], rfl, ?_, A.next, A.next + 1, B1.next + 1, bt, xt, xs, rfl, hC, hEC⟩
  simp only [Try.f20, resF, ev_tmp, T.get_set, Nat.reduceEqDiff, if_true, if_false, evG_some, R.ok_bind]
end Go.Proofs.Ytekimgleakjonaa.dist

/-
  Dist: scripts.
-/
namespace Go.Dist

def D (a b : List UInt8) (i k : Nat) : Nat := dist (a.take i) (b.take k)
theorem D_zero (a b : List UInt8) {k : Nat} (h : k ≤ b.length) : D a b 0 k = k := by unfold D; rw [List.take_zero, dist_nil, List.length_take]; omega
theorem D_zero' (a b : List UInt8) {i : Nat} (h : i ≤ a.length) : D a b i 0 = i := by unfold D; rw [List.take_zero, dist_nil', List.length_take]; omega
theorem take_last {q : List UInt8} {i : Nat} (h0 : 0 < i) (h : i ≤ q.length) : q.take i = q.take (i - 1) ++ [q.getD (i - 1) 0] := by
  obtain ⟨j, rfl⟩ : ∃ j, i = j + 1 := ⟨i - 1, by omega⟩
  rw [List.take_succ_eq_append_getElem (by omega)]; simp [List.getD, List.getElem?_eq_getElem (show j < q.length by omega)]
theorem D_keep {a b : List UInt8} {i k : Nat} (hi : 0 < i) (hk : 0 < k) (hi' : i ≤ a.length) (hk' : k ≤ b.length) (h : a.getD (i - 1) 0 = b.getD (k - 1) 0) : D a b i k = D a b (i - 1) (k - 1) := by
  unfold D; rw [take_last hi hi', take_last hk hk', h, dist_snoc]
theorem D_ne {a b : List UInt8} {i k : Nat} (hi : 0 < i) (hk : 0 < k) (hi' : i ≤ a.length) (hk' : k ≤ b.length) (h : a.getD (i - 1) 0 ≠ b.getD (k - 1) 0) : D a b i k = 1 + min (min (D a b (i - 1) (k - 1)) (D a b (i - 1) k)) (D a b i (k - 1)) := by
  have e := dist_snoc_ne h (a.take (i - 1)) (b.take (k - 1))
  rw [← take_last hi hi', ← take_last hk hk'] at e
  exact e

/-- The letter of a script's end. -/
def letter (a b : List UInt8) (i k : Nat) : UInt8 :=
  if 0 < i ∧ 0 < k ∧ a.getD (i - 1) 0 = b.getD (k - 1) 0 then 61
  else if 0 < i ∧ 0 < k ∧ D a b i k = D a b (i - 1) (k - 1) + 1 then 120
  else if 0 < i ∧ D a b i k = D a b (i - 1) k + 1 then 45
  else 43
/-- The letters, the last one first. -/
def bw (a b : List UInt8) : Nat → Nat → Nat → List UInt8
  | 0, _, _ => []
  | n + 1, i, k => if i = 0 ∧ k = 0 then [] else letter a b i k :: bw a b n (if letter a b i k = 43 then i else i - 1) (if letter a b i k = 45 then k else k - 1)
theorem letter_cases {a b : List UInt8} {i k : Nat} (hi : i ≤ a.length) (hk : k ≤ b.length) (h : ¬ (i = 0 ∧ k = 0)) :
    (letter a b i k = 61 ∧ 0 < i ∧ 0 < k ∧ a.getD (i - 1) 0 = b.getD (k - 1) 0 ∧ D a b i k = D a b (i - 1) (k - 1)) ∨ (letter a b i k = 120 ∧ 0 < i ∧ 0 < k ∧ a.getD (i - 1) 0 ≠ b.getD (k - 1) 0 ∧ D a b i k = D a b (i - 1) (k - 1) + 1) ∨
    (letter a b i k = 45 ∧ 0 < i ∧ D a b i k = D a b (i - 1) k + 1) ∨ (letter a b i k = 43 ∧ 0 < k ∧ D a b i k = D a b i (k - 1) + 1) := by
  unfold letter
  by_cases h1 : 0 < i ∧ 0 < k ∧ a.getD (i - 1) 0 = b.getD (k - 1) 0
  · rw [if_pos h1]; exact .inl ⟨rfl, h1.1, h1.2.1, h1.2.2, D_keep h1.1 h1.2.1 hi hk h1.2.2⟩
  · rw [if_neg h1]
    by_cases h2 : 0 < i ∧ 0 < k ∧ D a b i k = D a b (i - 1) (k - 1) + 1
    · rw [if_pos h2]; exact .inr (.inl ⟨rfl, h2.1, h2.2.1, fun e => h1 ⟨h2.1, h2.2.1, e⟩, h2.2.2⟩)
    · rw [if_neg h2]
      by_cases h3 : 0 < i ∧ D a b i k = D a b (i - 1) k + 1
      · rw [if_pos h3]; exact .inr (.inr (.inl ⟨rfl, h3.1, h3.2⟩))
      · rw [if_neg h3]
        refine .inr (.inr (.inr ⟨rfl, ?_⟩))
        by_cases hi0 : i = 0
        · subst hi0
          have hk0 : 0 < k := by omega
          exact ⟨hk0, by rw [D_zero a b hk, D_zero a b (by omega)]; omega⟩
        · by_cases hk0 : k = 0
          · subst hk0
            exact absurd ⟨by omega, by rw [D_zero' a b hi, D_zero' a b (by omega)]; omega⟩ h3
          · have hne : a.getD (i - 1) 0 ≠ b.getD (k - 1) 0 := fun e => h1 ⟨by omega, by omega, e⟩
            have e := D_ne (a := a) (b := b) (by omega) (by omega) hi hk hne
            have e2 : ¬ D a b i k = D a b (i - 1) (k - 1) + 1 := fun h => h2 ⟨by omega, by omega, h⟩
            have e3 : ¬ D a b i k = D a b (i - 1) k + 1 := fun h => h3 ⟨by omega, h⟩
            exact ⟨by omega, by omega⟩
theorem bw_len (a b : List UInt8) : ∀ (n i k : Nat), (bw a b n i k).length ≤ n
  | 0, _, _ => by simp [bw]
  | n + 1, i, k => by
    unfold bw
    split
    · simp
    · simp only [List.length_cons]; exact Nat.succ_le_succ (bw_len a b n _ _)

/-- What is made of a script: the places in both texts, and the changes; false at the first letter that does not go. -/
def madeS (a b : List UInt8) : List UInt8 → Nat → Nat → Nat → Nat × Bool
  | [], i, k, n => (n, decide (i = a.length ∧ k = b.length))
  | c :: s, i, k, n =>
    let i' := if c = 43 then i else i + 1
    let k' := if c = 45 then k else k + 1
    if a.length < i' ∨ b.length < k' then (0, false)
    else if c = 61 then (if a.getD (i' - 1) 0 ≠ b.getD (k' - 1) 0 then (0, false) else madeS a b s i' k' n)
    else if c = 120 then (if a.getD (i' - 1) 0 = b.getD (k' - 1) 0 then (0, false) else madeS a b s i' k' (n + 1))
    else if c = 45 ∨ c = 43 then madeS a b s i' k' (n + 1)
    else (0, false)
theorem made_bw (a b : List UInt8) : ∀ (n i k : Nat) (s : List UInt8) , i ≤ a.length → k ≤ b.length → i + k ≤ n → madeS a b ((bw a b n i k).reverse ++ s) 0 0 0 = madeS a b s i k (D a b i k)
  | 0, i, k, s, hi, hk, h => by
    have h1 : i = 0 := by omega
    have h2 : k = 0 := by omega
    subst h1 h2
    show madeS a b s 0 0 0 = _
    rw [D_zero a b (Nat.zero_le _)]
  | n + 1, i, k, s, hi, hk, h => by
    unfold bw
    by_cases h0 : i = 0 ∧ k = 0
    · rw [if_pos h0]
      obtain ⟨rfl, rfl⟩ := h0
      show madeS a b s 0 0 0 = _
      rw [D_zero a b (Nat.zero_le _)]
    · rw [if_neg h0, List.reverse_cons, List.append_assoc]
      rcases letter_cases hi hk h0 with ⟨e, h1, h2, h3, h4⟩ | ⟨e, h1, h2, h3, h4⟩ | ⟨e, h1, h4⟩ | ⟨e, h2, h4⟩ <;> rw [e]
      · rw [if_neg (by decide), if_neg (by decide), made_bw a b n _ _ _ (by omega) (by omega) (by omega)]
        simp [madeS, -List.getD_eq_getElem?_getD, Nat.sub_add_cancel h1, Nat.sub_add_cancel h2, Nat.not_lt.2 hi, Nat.not_lt.2 hk, h3, h4]
      · rw [if_neg (by decide), if_neg (by decide), made_bw a b n _ _ _ (by omega) (by omega) (by omega)]
        simp [madeS, -List.getD_eq_getElem?_getD, Nat.sub_add_cancel h1, Nat.sub_add_cancel h2, Nat.not_lt.2 hi, Nat.not_lt.2 hk, h3, h4]
      · rw [if_neg (by decide), if_pos rfl, made_bw a b n _ _ _ (by omega) (by omega) (by omega)]
        simp [madeS, -List.getD_eq_getElem?_getD, Nat.sub_add_cancel h1, Nat.not_lt.2 hi, Nat.not_lt.2 hk, h4]
      · rw [if_pos rfl, if_neg (by decide), made_bw a b n _ _ _ (by omega) (by omega) (by omega)]
        simp [madeS, -List.getD_eq_getElem?_getD, Nat.sub_add_cancel h2, Nat.not_lt.2 hi, Nat.not_lt.2 hk, h4]
/-- The script. -/
def scriptD (a b : List UInt8) : List UInt8 := (bw a b (a.length + b.length) a.length b.length).reverse
theorem made_script (a b : List UInt8) : madeS a b (scriptD a b) 0 0 0 = (dist a b, true) := by
  have h := made_bw a b (a.length + b.length) a.length b.length [] (Nat.le_refl _) (Nat.le_refl _) (Nat.le_refl _)
  rw [List.append_nil] at h
  unfold scriptD
  rw [h]
  simp [madeS, D]
theorem script_len (a b : List UInt8) : (scriptD a b).length ≤ a.length + b.length := by unfold scriptD; rw [List.length_reverse]; exact bw_len ..
end Go.Dist

/-
  Dist: the rounds of a script's loop; a row of bytes turned round.
-/
namespace Go.Proofs.Ytekimgleakjonaa.dist
open Go.Am Go.Dist
set_option linter.unusedSimpArgs false

def byts (l : List UInt8) : List Value := l.map fun c : UInt8 => Value.int .u8 ((c.toNat : Nat) : Int)
theorem byts_len (l : List UInt8) : (byts l).length = l.length := by simp [byts]
theorem byts_get {l : List UInt8} {i : Nat} {c : UInt8} (h : l[i]? = some c) : (byts l)[i]? = some (.int .u8 ((c.toNat : Nat) : Int)) := by simp [byts, h]
theorem byts_set (l : List UInt8) (i : Nat) (c : UInt8) : (byts l).set i (.int .u8 ((c.toNat : Nat) : Int)) = byts (l.set i c) := by simp [byts, List.map_set]
theorem byts_append (l m : List UInt8) : byts l ++ byts m = byts (l ++ m) := by simp [byts]
theorem slc_str {tb : Tab} {A : Mem} {b : Nat} {l : List UInt8} {x : Value} {s d : TypeId} (h1 : tb.und s = some (.slice 5)) (h2 : tb.und d = some .string) (h3 : tb.und 5 = some (.int .u8)) (h : Slc A 5 b (byts l) x) : convRF tb A.get s d x = .ok (strOf l) := by
  rcases h with ⟨rfl, hl⟩ | ⟨k, c, rfl, h4, h5, h6⟩
  · have : l = [] := by cases l with
      | nil => rfl
      | cons _ _ => simp [byts] at hl
    subst this
    unfold convRF
    simp only [h1, h2, h3]
    rfl
  · have hb : Byt A b 5 k l := by
      obtain ⟨cs, e1, e2⟩ := h5
      exact ⟨cs, e1, fun i hi => e2 i (by rw [byts_len]; exact hi)⟩
    rw [byts_len]
    exact str_of_byt h1 h2 h3 hb
theorem vize5 : sizeF tb1 5 = .ok 1 := by kernel_rfl
theorem vize35 : sizeF tb1 35 = .ok 1 := by kernel_rfl
theorem vc5 : zcellsF tb1 5 = .ok (1, [.int .u8 0]) := by kernel_rfl
theorem vy5 : ∃ i, tb1.ty.get 5 = some i ∧ i.bytes = 1 := by
  have h : (tb1.ty.get 5).map (·.bytes) = some 1 := by kernel_rfl
  cases hq : tb1.ty.get 5 with
  | none => rw [hq] at h; cases h
  | some i => rw [hq] at h; exact ⟨i, rfl, by simpa using h⟩
theorem vs35 (a : Int) : buildSliceF tb1 35 1 [(0, .int .u8 a)] = .ok (rowOb 5 [.int .u8 a], .slc 1 2) := by kernel_rfl

noncomputable def c10 : Code := Try.f10.body.getD .skip
theorem c10_eq : Try.f10.body = some (.seq (sub c10 [0]) (.seq (sub c10 [1,0]) (.seq (.seq (sub c10 [1,1,0,0]) (.block 0 (.rangeFunc (.tmp 9) #[10] (sub c10 [1,1,0,1,0,0]) (sub c10 [1,1,0,1,0,1])))) (.seq (sub c10 [1,1,1,0]) (.seq (sub c10 [1,1,1,1,0]) (sub c10 [1,1,1,1,1])))))) := by kernel_rfl

/-- Memory in a script's loop: 'B0' as it began, 'bx' holds the letters. -/
structure ScrM (B0 : Mem) (bx : Nat) (t0 : T Value) (lst : List UInt8) (C : Mem) : Prop where
  hn : B0.next + 2 ≤ C.next
  hd : C.get B0.next = some .defd
  hl : C.get (B0.next + 1) = some (.loop (loop0 t0 19 [10] (sub c10 [1,1,0,1,0,0]) (sub c10 [1,1,0,1,0,1]) B0.next))
  hx : ∃ bs x, Slc C 5 bs (byts lst) x ∧ Vals C 35 bx (.var 1) [x] ∧ B0.next + 2 ≤ bs
  hb : bx < B0.next
  hf : ∀ y, y < B0.next → y ≠ bx → C.get y = B0.get y

set_option maxHeartbeats 2000000 in
theorem scr_round {B0 : Mem} {bx : Nat} {t0 : T Value} {lst : List UInt8} {C : Mem} (h5 : t0.get 5 = some (.pointer (some ⟨bx, 0, none⟩))) (hC : ScrM B0 bx t0 lst C) (hlen : lst.length ≤ 1000000) (c : UInt8) :
    ∃ C', (∃ g, ∀ M, g ≤ M → callF tb1 (exec tb1 M) (.round (B0.next + 1) [.int .u8 (c.toNat : Nat)]) C = .ok (.val (.bool true) C')) ∧ ScrM B0 bx t0 (lst ++ [c]) C' := by
  obtain ⟨bs, x, hs, hv, hbs⟩ := hC.hx
  have hCn := hC.hn
  have hCb := hC.hb
  refine round_of_W hC.hl (t := t0.set 10 (.int .u8 (c.toNat : Nat))) rfl ?_
  show W tb1 (sub c10 [1,1,0,1,0,0]) ⟨t0.set 10 (.int .u8 (c.toNat : Nat)), 19, [], C, some (B0.next + 1)⟩ _
  apply W.run 20
  · intro M
    simp (config := { maxSteps := 4000000 }) (disch := first | decide +kernel | (rw [wantF_guard]; simp only [wantD_some, dstAt_zero, dstAt_succ, T.get_set, T.get_e, Nat.reduceEqDiff, if_true, if_false, wantV_bool, wantV_unit, unitV, cond_true, cond_false, Bool.not_true, Bool.not_false, List.toList_toArray]) | omega) only [c10, Try.f10, Nat.ble, cond_true, cond_false, T.puts_cons, T.puts_nil, exec_seq, exec_block, nat_beq_self, exec_region, exec_cond, exec_skip, exec_ret, exec_exit, exec_scope, runOps_cons, runOps_nil, opF_move, opF_assign, opF_ari, opF_neq, opF_eql, opF_un, opF_index, opF_indexAddr, opF_fieldAddr, opF_field, opF_build, opF_slice, opF_extract, opF_pick, opF_load, opF_alloc, opF_box, opF_buildSlice, opF_makeSlice, opF_store, opF_conv, opF_len, opF_minmax, opF_builtin, opF_call, resK, ev_tmp, evG_some, ev_int, ev_bool, ev_str, evs, evp, evo, R.ok_bind, putT_some, putT_none, T.get_set, T.get_e, binF_int, op_rem, op_quo_u32, op_xor_u32, op_neq, op_eql, op_lss, op_add_i64, op_sub_u32, op_and_u8, op_xor_u8, op_not_u32, binF_shr_u32, binF_shr_u8, op_mul_i64, op_quo_i64, op_and_u32, binF_shl_u8, wrapF_u8, wrapF_u32, mod_u8, mod_u32, cond_val, Nat.lt_irrefl, Nat.not_lt_zero, if_true, if_false, reduceIte, Nat.reduceEqDiff, Nat.reduceAdd, ne_eq, not_true_eq_false, not_false_eq_true, decide_true, decide_false, Bool.false_eq_true, Bool.not_true, Bool.not_false, sub_nil, sub_seq0, sub_seq1, sub_cond0, sub_cond1, sub_block, sub_loop, sub_scope, sub_range0, sub_range1, Option.getD_some, at_ptr, at_slc, runOps_yes, runOps_no, exec_draw, op_sub_i64, op_sub_neg, op_lss_neg, binF_str, str_add, str_neq, str_eql, takeF, resF, oneOf, pickF, extractF, cells_str, cells_int, cells_agg, bool_eql, bool_neq, op_lssI, bne_self_eq_false, beq_self_eq_true, eq_self, cells_slc, cells_func, builtin_append, ev_nilslice, ev_nilfunc, ev_nilptr, ev_nilmap, opF_makeFunc, opF_callv, callV_func, callV_yield, op_leq, op_gtr, op_geq, cast_le, cast_lt, List.nil_append, List.cons_append, List.append_nil, un_not]
    with_reducible rfl
  refine ⟨rfl, _, hC.hl, rfl, ?_⟩
  have hn0 : (C.set (B0.next + 1) (.loop { (loop0 t0 19 [10] (sub c10 [1,1,0,1,0,0]) (sub c10 [1,1,0,1,0,1]) B0.next) with state := .busy })).next = C.next := next_set _ _ _
  have hg0 : ∀ y, y ≠ B0.next + 1 → (C.set (B0.next + 1) (.loop { (loop0 t0 19 [10] (sub c10 [1,1,0,1,0,0]) (sub c10 [1,1,0,1,0,1]) B0.next) with state := .busy })).get y = C.get y := fun y hy => by rw [get_setMem, if_neg hy]
  have hl0 : (C.set (B0.next + 1) (.loop { (loop0 t0 19 [10] (sub c10 [1,1,0,1,0,0]) (sub c10 [1,1,0,1,0,1]) B0.next) with state := .busy })).get (B0.next + 1) = some (.loop { (loop0 t0 19 [10] (sub c10 [1,1,0,1,0,0]) (sub c10 [1,1,0,1,0,1]) B0.next) with state := .busy }) := by rw [get_setMem, if_pos rfl]
  show W tb1 (sub c10 [1,1,0,1,0,1]) ⟨_, 19, [], C.set (B0.next + 1) (.loop { (loop0 t0 19 [10] (sub c10 [1,1,0,1,0,0]) (sub c10 [1,1,0,1,0,1]) B0.next) with state := .busy }), some (B0.next + 1)⟩ _
  revert hn0 hg0 hl0
  generalize C.set (B0.next + 1) (.loop { (loop0 t0 19 [10] (sub c10 [1,1,0,1,0,0]) (sub c10 [1,1,0,1,0,1]) B0.next) with state := .busy }) = E
  intro hn0 hg0 hl0
  have hvE : Vals E 35 bx (.var 1) [x] := hv.same (hg0 bx (by omega))
  have hsE : Slc E 5 bs (byts lst) x := hs.same (by omega) (fun _ => hg0 bs (by omega))
  have lx := load_box (tb := tb1) vnd35 rfl hvE
  have hE2 := Ext.alloc E (rowOb 5 [.int .u8 ((c.toNat : Nat) : Int)])
  obtain ⟨ti, ht1, ht2⟩ := vy5
  obtain ⟨x', E3, happ, hs3, hn3, hf3⟩ := (hE2.slc hsE).append (tb := tb1) (st := 35) (xt := 35) vnd35 vnd35 vc5 ht1 (by omega) (by omega) (by rw [byts_len]; omega) (get_alloc_self E _) rfl
  have hn2 : (E.alloc (rowOb 5 [.int .u8 ((c.toNat : Nat) : Int)])).next = E.next + 1 := next_alloc _ _
  have hv3 : Vals E3 35 bx (.var 1) [x] := hvE.same (by rw [hf3 bx (by omega) (by omega), hE2.2 bx (by omega)])
  obtain ⟨E4, hst, hv4, hn4, hf4⟩ := store_box (tb := tb1) (t := 35) vize35 hv3 hs3.cells hs3.one
  have hfr : ∀ y, y ≠ bs → y ≠ bx → y < E.next → E4.get y = E.get y := fun y h1 h2 h3 => by rw [hf4 y h2, hf3 y h1 (by omega), hE2.2 y h3]
  apply W.run 20
  · intro M
    simp (config := { maxSteps := 4000000 }) (disch := first | decide +kernel | (rw [wantF_guard]; simp only [wantD_some, dstAt_zero, dstAt_succ, T.get_set, T.get_e, Nat.reduceEqDiff, if_true, if_false, wantV_bool, wantV_unit, unitV, cond_true, cond_false, Bool.not_true, Bool.not_false, List.toList_toArray]) | omega) only [c10, Try.f10, Nat.ble, cond_true, cond_false, T.puts_cons, T.puts_nil, exec_seq, exec_block, nat_beq_self, exec_region, exec_cond, exec_skip, exec_ret, exec_exit, exec_scope, runOps_cons, runOps_nil, opF_move, opF_assign, opF_ari, opF_neq, opF_eql, opF_un, opF_index, opF_indexAddr, opF_fieldAddr, opF_field, opF_build, opF_slice, opF_extract, opF_pick, opF_load, opF_alloc, opF_box, opF_buildSlice, opF_makeSlice, opF_store, opF_conv, opF_len, opF_minmax, opF_builtin, opF_call, resK, ev_tmp, evG_some, ev_int, ev_bool, ev_str, evs, evp, evo, R.ok_bind, putT_some, putT_none, T.get_set, T.get_e, binF_int, op_rem, op_quo_u32, op_xor_u32, op_neq, op_eql, op_lss, op_add_i64, op_sub_u32, op_and_u8, op_xor_u8, op_not_u32, binF_shr_u32, binF_shr_u8, op_mul_i64, op_quo_i64, op_and_u32, binF_shl_u8, wrapF_u8, wrapF_u32, mod_u8, mod_u32, cond_val, Nat.lt_irrefl, Nat.not_lt_zero, if_true, if_false, reduceIte, Nat.reduceEqDiff, Nat.reduceAdd, ne_eq, not_true_eq_false, not_false_eq_true, decide_true, decide_false, Bool.false_eq_true, Bool.not_true, Bool.not_false, sub_nil, sub_seq0, sub_seq1, sub_cond0, sub_cond1, sub_block, sub_loop, sub_scope, sub_range0, sub_range1, Option.getD_some, at_ptr, at_slc, runOps_yes, runOps_no, exec_draw, op_sub_i64, op_sub_neg, op_lss_neg, binF_str, str_add, str_neq, str_eql, takeF, resF, oneOf, pickF, extractF, cells_str, cells_int, cells_agg, bool_eql, bool_neq, op_lssI, bne_self_eq_false, beq_self_eq_true, eq_self, cells_slc, cells_func, builtin_append, ev_nilslice, ev_nilfunc, ev_nilptr, ev_nilmap, opF_makeFunc, opF_callv, callV_func, callV_yield, op_leq, op_gtr, op_geq, cast_le, cast_lt, List.nil_append, List.cons_append, List.append_nil, un_not, h5, lx, vs35, happ, hst]
    with_reducible rfl
  refine ⟨rfl, rfl, _, by rw [hfr _ (by omega) (by omega) (by omega)]; exact hl0, ⟨?_, ?_, ?_, ⟨(E.alloc (rowOb 5 [.int .u8 ((c.toNat : Nat) : Int)])).next, x', ?_, ?_, ?_⟩, hCb, ?_⟩⟩
  · rw [next_set]; show B0.next + 2 ≤ E4.next; omega
  · show Mem.get _ B0.next = _
    rw [get_setMem, if_neg (by omega), hfr _ (by omega) (by omega) (by omega), hg0 _ (by omega)]; exact hC.hd
  · show Mem.get _ (B0.next + 1) = _
    rw [get_setMem, if_pos rfl]; rfl
  · have e : byts (lst ++ [c]) = byts lst ++ [.int .u8 ((c.toNat : Nat) : Int)] := by simp [byts]
    rw [e]
    refine hs3.same (by rw [next_set]; show E3.next ≤ E4.next; omega) (fun _ => ?_)
    show Mem.get _ _ = _
    rw [get_setMem, if_neg (by omega), hf4 _ (by omega)]
  · refine hv4.same ?_
    show Mem.get _ bx = _
    rw [get_setMem, if_neg (by omega)]
  · omega
  · intro y hy hyx
    show Mem.get _ y = _
    rw [get_setMem, if_neg (by omega), hfr y (by omega) hyx (by omega), hg0 y (by omega)]
    exact hC.hf y hy hyx

/-! ### A row turned round -/
def swapN (l : List UInt8) : Nat → List UInt8
  | 0 => l
  | i + 1 => ((swapN l i).set i ((swapN l i).getD (l.length - 1 - i) 0)).set (l.length - 1 - i) ((swapN l i).getD i 0)
theorem swapN_len (l : List UInt8) : ∀ i, (swapN l i).length = l.length
  | 0 => rfl
  | i + 1 => by simp [swapN, swapN_len l i]
theorem swapN_get (l : List UInt8) : ∀ (i m : Nat), 2 * i ≤ l.length → m < l.length → (swapN l i).getD m 0 = if m < i ∨ l.length - i ≤ m then l.getD (l.length - 1 - m) 0 else l.getD m 0
  | 0, m, _, hm => by rw [if_neg (by omega)]; rfl
  | i + 1, m, hi, hm => by
    have h1 := swapN_get l i (l.length - 1 - i) (by omega) (by omega)
    have h2 := swapN_get l i i (by omega) (by omega)
    have h3 := swapN_get l i m (by omega) hm
    rw [if_neg (by omega)] at h1 h2
    have hl := swapN_len l i
    unfold swapN
    rw [h1, h2, List.getD, List.getElem?_set, List.length_set, hl, List.getElem?_set, hl]
    by_cases e1 : l.length - 1 - i = m
    · rw [if_pos e1, if_pos (by omega), if_pos (by omega), ← e1]
      show l.getD i 0 = _
      congr 1; omega
    · rw [if_neg e1]
      by_cases e2 : i = m
      · rw [if_pos e2, if_pos (by omega), if_pos (by omega), ← e2]
        rfl
      · rw [if_neg e2]
        show (swapN l i).getD m 0 = _
        rw [h3]
        by_cases e3 : m < i ∨ l.length - i ≤ m
        · rw [if_pos e3, if_pos (by omega)]
        · rw [if_neg e3, if_neg (by omega)]
theorem swapN_rev (l : List UInt8) (i : Nat) (h1 : 2 * i ≤ l.length) (h2 : l.length ≤ 2 * i + 1) : swapN l i = l.reverse := by
  apply List.ext_getElem?
  intro m
  by_cases hm : m < l.length
  · have h := swapN_get l i m h1 hm
    have e1 : (swapN l i)[m]? = some ((swapN l i).getD m 0) := by simp [List.getD, List.getElem?_eq_getElem (show m < (swapN l i).length by rw [swapN_len]; exact hm)]
    have e2 : l.reverse[m]? = some (l.getD (l.length - 1 - m) 0) := by
      rw [List.getElem?_reverse hm]; simp [List.getD, List.getElem?_eq_getElem (show l.length - 1 - m < l.length by omega)]
    rw [e1, e2, h]
    by_cases e3 : m < i ∨ l.length - i ≤ m
    · rw [if_pos e3]
    · rw [if_neg e3]
      congr 2; omega
  · rw [List.getElem?_eq_none (by rw [swapN_len]; omega), List.getElem?_eq_none (by rw [List.length_reverse]; omega)]

noncomputable def c21 : Code := Try.f21.body.getD .skip
noncomputable def c21b1 : Code := sub c21 [1,0,0]
theorem c21_eq : Try.f21.body = some (.seq (sub c21 [0]) (.block 0 (.loop c21b1))) := by kernel_rfl
theorem getB_some {l : List UInt8} {i : Nat} (h : i < l.length) : l[i]? = some (l.getD i 0) := by simp [List.getD, List.getElem?_eq_getElem h]

set_option maxHeartbeats 2000000 in
theorem run_reverse {l : List UInt8} {b : Nat} {x : Value} {A : Mem} (hl : l.length ≤ 1000000) (hs : Slc A 5 b (byts l) x) : ∃ v A', Ans tb1 21 [x] A v A' ∧ v = .tuple ⟨[]⟩ ∧ Slc A' 5 b (byts l.reverse) x ∧ A'.next = A.next ∧ ∀ y, y ≠ b → A'.get y = A.get y := by
  refine ans_of_W (fn_at Try.func21) c21_eq (by rw [Try.ntmps21]; simp) (by kernel_rfl) (by kernel_rfl) ?_
  have hlen := hs.len (tb := tb1) (t := 35) vnd35
  apply W.seq
  by_cases h0 : l.length = 0
  · have hsub : intOpF .sub .i64 ((0 : Nat) : Int) ((1 : Nat) : Int) = .ok (.int .i64 (-1)) := by rfl
    have hlss : intOpF .lss .i64 ((0 : Nat) : Int) (-1) = .ok (.bool false) := by rfl
    apply W.run 20
    · intro M
      simp (config := { maxSteps := 4000000 }) (disch := first | decide +kernel | (rw [wantF_guard]; simp only [wantD_some, dstAt_zero, dstAt_succ, T.get_set, T.get_e, Nat.reduceEqDiff, if_true, if_false, wantV_bool, wantV_unit, unitV, cond_true, cond_false, Bool.not_true, Bool.not_false, List.toList_toArray]) | omega) only [c21, Try.f21, Nat.ble, cond_true, cond_false, T.puts_cons, T.puts_nil, exec_seq, exec_block, nat_beq_self, exec_region, exec_cond, exec_skip, exec_ret, exec_exit, exec_scope, runOps_cons, runOps_nil, opF_move, opF_assign, opF_ari, opF_neq, opF_eql, opF_un, opF_index, opF_indexAddr, opF_fieldAddr, opF_field, opF_build, opF_slice, opF_extract, opF_pick, opF_load, opF_alloc, opF_box, opF_buildSlice, opF_makeSlice, opF_store, opF_conv, opF_len, opF_minmax, opF_builtin, opF_call, resK, ev_tmp, evG_some, ev_int, ev_bool, ev_str, evs, evp, evo, R.ok_bind, putT_some, putT_none, T.get_set, T.get_e, binF_int, op_rem, op_quo_u32, op_xor_u32, op_neq, op_eql, op_lss, op_add_i64, op_sub_u32, op_and_u8, op_xor_u8, op_not_u32, binF_shr_u32, binF_shr_u8, op_mul_i64, op_quo_i64, op_and_u32, binF_shl_u8, wrapF_u8, wrapF_u32, mod_u8, mod_u32, cond_val, Nat.lt_irrefl, Nat.not_lt_zero, if_true, if_false, reduceIte, Nat.reduceEqDiff, Nat.reduceAdd, ne_eq, not_true_eq_false, not_false_eq_true, decide_true, decide_false, Bool.false_eq_true, Bool.not_true, Bool.not_false, sub_nil, sub_seq0, sub_seq1, sub_cond0, sub_cond1, sub_block, sub_loop, sub_scope, sub_range0, sub_range1, Option.getD_some, at_ptr, at_slc, runOps_yes, runOps_no, exec_draw, op_sub_i64, op_sub_neg, op_lss_neg, binF_str, str_add, str_neq, str_eql, takeF, resF, oneOf, pickF, extractF, cells_str, cells_int, cells_agg, bool_eql, bool_neq, op_lssI, bne_self_eq_false, beq_self_eq_true, eq_self, cells_slc, cells_func, builtin_append, ev_nilslice, ev_nilfunc, ev_nilptr, ev_nilmap, opF_makeFunc, opF_callv, callV_func, callV_yield, op_leq, op_gtr, op_geq, cast_le, cast_lt, List.nil_append, List.cons_append, List.append_nil, un_not, hlen, byts_len, h0, hsub]
      with_reducible rfl
    apply W.block
    apply W.round
    apply W.run 20
    · intro M
      simp (config := { maxSteps := 4000000 }) (disch := first | decide +kernel | (rw [wantF_guard]; simp only [wantD_some, dstAt_zero, dstAt_succ, T.get_set, T.get_e, Nat.reduceEqDiff, if_true, if_false, wantV_bool, wantV_unit, unitV, cond_true, cond_false, Bool.not_true, Bool.not_false, List.toList_toArray]) | omega) only [c21b1, c21, Try.f21, Nat.ble, cond_true, cond_false, T.puts_cons, T.puts_nil, exec_seq, exec_block, nat_beq_self, exec_region, exec_cond, exec_skip, exec_ret, exec_exit, exec_scope, runOps_cons, runOps_nil, opF_move, opF_assign, opF_ari, opF_neq, opF_eql, opF_un, opF_index, opF_indexAddr, opF_fieldAddr, opF_field, opF_build, opF_slice, opF_extract, opF_pick, opF_load, opF_alloc, opF_box, opF_buildSlice, opF_makeSlice, opF_store, opF_conv, opF_len, opF_minmax, opF_builtin, opF_call, resK, ev_tmp, evG_some, ev_int, ev_bool, ev_str, evs, evp, evo, R.ok_bind, putT_some, putT_none, T.get_set, T.get_e, binF_int, op_rem, op_quo_u32, op_xor_u32, op_neq, op_eql, op_lss, op_add_i64, op_sub_u32, op_and_u8, op_xor_u8, op_not_u32, binF_shr_u32, binF_shr_u8, op_mul_i64, op_quo_i64, op_and_u32, binF_shl_u8, wrapF_u8, wrapF_u32, mod_u8, mod_u32, cond_val, Nat.lt_irrefl, Nat.not_lt_zero, if_true, if_false, reduceIte, Nat.reduceEqDiff, Nat.reduceAdd, ne_eq, not_true_eq_false, not_false_eq_true, decide_true, decide_false, Bool.false_eq_true, Bool.not_true, Bool.not_false, sub_nil, sub_seq0, sub_seq1, sub_cond0, sub_cond1, sub_block, sub_loop, sub_scope, sub_range0, sub_range1, Option.getD_some, at_ptr, at_slc, runOps_yes, runOps_no, exec_draw, op_sub_i64, op_sub_neg, op_lss_neg, binF_str, str_add, str_neq, str_eql, takeF, resF, oneOf, pickF, extractF, cells_str, cells_int, cells_agg, bool_eql, bool_neq, op_lssI, bne_self_eq_false, beq_self_eq_true, eq_self, cells_slc, cells_func, builtin_append, ev_nilslice, ev_nilfunc, ev_nilptr, ev_nilmap, opF_makeFunc, opF_callv, callV_func, callV_yield, op_leq, op_gtr, op_geq, cast_le, cast_lt, List.nil_append, List.cons_append, List.append_nil, un_not, hlss]
      with_reducible rfl
    have hnil : l = [] := List.length_eq_zero_iff.1 h0
    subst hnil
    exact ⟨.inl rfl, _, [], rfl, rfl, rfl, hs, rfl, fun _ _ => rfl⟩
  · have hsub : intOpF .sub .i64 (l.length : Int) ((1 : Nat) : Int) = .ok (.int .i64 ((l.length - 1 : Nat) : Int)) := op_sub_i64 (by omega) (by omega)
    apply W.run 20
    · intro M
      simp (config := { maxSteps := 4000000 }) (disch := first | decide +kernel | (rw [wantF_guard]; simp only [wantD_some, dstAt_zero, dstAt_succ, T.get_set, T.get_e, Nat.reduceEqDiff, if_true, if_false, wantV_bool, wantV_unit, unitV, cond_true, cond_false, Bool.not_true, Bool.not_false, List.toList_toArray]) | omega) only [c21, Try.f21, Nat.ble, cond_true, cond_false, T.puts_cons, T.puts_nil, exec_seq, exec_block, nat_beq_self, exec_region, exec_cond, exec_skip, exec_ret, exec_exit, exec_scope, runOps_cons, runOps_nil, opF_move, opF_assign, opF_ari, opF_neq, opF_eql, opF_un, opF_index, opF_indexAddr, opF_fieldAddr, opF_field, opF_build, opF_slice, opF_extract, opF_pick, opF_load, opF_alloc, opF_box, opF_buildSlice, opF_makeSlice, opF_store, opF_conv, opF_len, opF_minmax, opF_builtin, opF_call, resK, ev_tmp, evG_some, ev_int, ev_bool, ev_str, evs, evp, evo, R.ok_bind, putT_some, putT_none, T.get_set, T.get_e, binF_int, op_rem, op_quo_u32, op_xor_u32, op_neq, op_eql, op_lss, op_add_i64, op_sub_u32, op_and_u8, op_xor_u8, op_not_u32, binF_shr_u32, binF_shr_u8, op_mul_i64, op_quo_i64, op_and_u32, binF_shl_u8, wrapF_u8, wrapF_u32, mod_u8, mod_u32, cond_val, Nat.lt_irrefl, Nat.not_lt_zero, if_true, if_false, reduceIte, Nat.reduceEqDiff, Nat.reduceAdd, ne_eq, not_true_eq_false, not_false_eq_true, decide_true, decide_false, Bool.false_eq_true, Bool.not_true, Bool.not_false, sub_nil, sub_seq0, sub_seq1, sub_cond0, sub_cond1, sub_block, sub_loop, sub_scope, sub_range0, sub_range1, Option.getD_some, at_ptr, at_slc, runOps_yes, runOps_no, exec_draw, op_sub_i64, op_sub_neg, op_lss_neg, binF_str, str_add, str_neq, str_eql, takeF, resF, oneOf, pickF, extractF, cells_str, cells_int, cells_agg, bool_eql, bool_neq, op_lssI, bne_self_eq_false, beq_self_eq_true, eq_self, cells_slc, cells_func, builtin_append, ev_nilslice, ev_nilfunc, ev_nilptr, ev_nilmap, opF_makeFunc, opF_callv, callV_func, callV_yield, op_leq, op_gtr, op_geq, cast_le, cast_lt, List.nil_append, List.cons_append, List.append_nil, un_not, hlen, byts_len, hsub]
      with_reducible rfl
    apply W.block
    refine W.up (l.length / 2) (fun i t C => Slc C 5 b (byts (swapN l i)) x ∧ Sl t [(0, x), (2, .int .i64 (i : Int)), (3, .int .i64 ((l.length - 1 - i : Nat) : Int))] ∧ C.next = A.next ∧ ∀ y, y ≠ b → C.get y = A.get y) ?_ (Nat.zero_le _) ⟨hs, ?_, rfl, fun _ _ => rfl⟩
    · rintro i t C hi ⟨hsC, ⟨g0, g2, g3, -⟩, hn, hf⟩
      have hsl := swapN_len l i
      by_cases hlt : i < l.length - 1 - i
      · have i1 := hsC.idx (tb := tb1) (t := 35) (t' := 5) (kd := .i64) (i := i) vnd35 vize5 (by rw [byts_len]; omega)
        have i2 := hsC.idx (tb := tb1) (t := 35) (t' := 5) (kd := .i64) (i := l.length - 1 - i) vnd35 vize5 (by rw [byts_len]; omega)
        have d1 := hsC.load (tb := tb1) (t := 5) (o := i) vnd5 rfl (byts_get (getB_some (by omega)))
        have d2 := hsC.load (tb := tb1) (t := 5) (o := l.length - 1 - i) vnd5 rfl (byts_get (getB_some (by omega)))
        obtain ⟨C1, e1, e2, e3, e4⟩ := hsC.store (tb := tb1) (t := 5) (o := i) (v := .int .u8 (((swapN l i).getD (l.length - 1 - i) 0).toNat : Nat)) vize5 (by rw [byts_len]; omega) rfl rfl
        obtain ⟨C2, f1, f2, f3, f4⟩ := e2.store (tb := tb1) (t := 5) (o := l.length - 1 - i) (v := .int .u8 (((swapN l i).getD i 0).toNat : Nat)) vize5 (by rw [List.length_set, byts_len]; omega) rfl rfl
        have hsub1 : intOpF .sub .i64 ((l.length - 1 - i : Nat) : Int) ((1 : Nat) : Int) = .ok (.int .i64 ((l.length - 1 - (i + 1) : Nat) : Int)) := by
          rw [show l.length - 1 - (i + 1) = l.length - 1 - i - 1 by omega]; exact op_sub_i64 (by omega) (by omega)
        apply W.run 20
        · intro M
          simp (config := { maxSteps := 4000000 }) (disch := first | decide +kernel | (rw [wantF_guard]; simp only [wantD_some, dstAt_zero, dstAt_succ, T.get_set, T.get_e, Nat.reduceEqDiff, if_true, if_false, wantV_bool, wantV_unit, unitV, cond_true, cond_false, Bool.not_true, Bool.not_false, List.toList_toArray]) | omega) only [c21b1, c21, Try.f21, Nat.ble, cond_true, cond_false, T.puts_cons, T.puts_nil, exec_seq, exec_block, nat_beq_self, exec_region, exec_cond, exec_skip, exec_ret, exec_exit, exec_scope, runOps_cons, runOps_nil, opF_move, opF_assign, opF_ari, opF_neq, opF_eql, opF_un, opF_index, opF_indexAddr, opF_fieldAddr, opF_field, opF_build, opF_slice, opF_extract, opF_pick, opF_load, opF_alloc, opF_box, opF_buildSlice, opF_makeSlice, opF_store, opF_conv, opF_len, opF_minmax, opF_builtin, opF_call, resK, ev_tmp, evG_some, ev_int, ev_bool, ev_str, evs, evp, evo, R.ok_bind, putT_some, putT_none, T.get_set, T.get_e, binF_int, op_rem, op_quo_u32, op_xor_u32, op_neq, op_eql, op_lss, op_add_i64, op_sub_u32, op_and_u8, op_xor_u8, op_not_u32, binF_shr_u32, binF_shr_u8, op_mul_i64, op_quo_i64, op_and_u32, binF_shl_u8, wrapF_u8, wrapF_u32, mod_u8, mod_u32, cond_val, Nat.lt_irrefl, Nat.not_lt_zero, if_true, if_false, reduceIte, Nat.reduceEqDiff, Nat.reduceAdd, ne_eq, not_true_eq_false, not_false_eq_true, decide_true, decide_false, Bool.false_eq_true, Bool.not_true, Bool.not_false, sub_nil, sub_seq0, sub_seq1, sub_cond0, sub_cond1, sub_block, sub_loop, sub_scope, sub_range0, sub_range1, Option.getD_some, at_ptr, at_slc, runOps_yes, runOps_no, exec_draw, op_sub_i64, op_sub_neg, op_lss_neg, binF_str, str_add, str_neq, str_eql, takeF, resF, oneOf, pickF, extractF, cells_str, cells_int, cells_agg, bool_eql, bool_neq, op_lssI, bne_self_eq_false, beq_self_eq_true, eq_self, cells_slc, cells_func, builtin_append, ev_nilslice, ev_nilfunc, ev_nilptr, ev_nilmap, opF_makeFunc, opF_callv, callV_func, callV_yield, op_leq, op_gtr, op_geq, cast_le, cast_lt, List.nil_append, List.cons_append, List.append_nil, un_not, g0, g2, g3, hlt, i1, i2, d1, d2, e1, f1, hsub1]
          with_reducible rfl
        refine ⟨by omega, _, _, rfl, ?_, ?_, by omega, fun y hy => by rw [f4 y hy, e4 y hy, hf y hy]⟩
        · rw [byts_set, byts_set] at f2
          exact f2
        · simp only [Sl_cons, Sl_nil, T.get_set, T.puts_cons, T.puts_nil, Nat.reduceEqDiff, Nat.reduceAdd, if_true, if_false, and_true, true_and, g0]
      · have hlt' : ¬ i < l.length - 1 - i := hlt
        apply W.run 20
        · intro M
          simp (config := { maxSteps := 4000000 }) (disch := first | decide +kernel | (rw [wantF_guard]; simp only [wantD_some, dstAt_zero, dstAt_succ, T.get_set, T.get_e, Nat.reduceEqDiff, if_true, if_false, wantV_bool, wantV_unit, unitV, cond_true, cond_false, Bool.not_true, Bool.not_false, List.toList_toArray]) | omega) only [c21b1, c21, Try.f21, Nat.ble, cond_true, cond_false, T.puts_cons, T.puts_nil, exec_seq, exec_block, nat_beq_self, exec_region, exec_cond, exec_skip, exec_ret, exec_exit, exec_scope, runOps_cons, runOps_nil, opF_move, opF_assign, opF_ari, opF_neq, opF_eql, opF_un, opF_index, opF_indexAddr, opF_fieldAddr, opF_field, opF_build, opF_slice, opF_extract, opF_pick, opF_load, opF_alloc, opF_box, opF_buildSlice, opF_makeSlice, opF_store, opF_conv, opF_len, opF_minmax, opF_builtin, opF_call, resK, ev_tmp, evG_some, ev_int, ev_bool, ev_str, evs, evp, evo, R.ok_bind, putT_some, putT_none, T.get_set, T.get_e, binF_int, op_rem, op_quo_u32, op_xor_u32, op_neq, op_eql, op_lss, op_add_i64, op_sub_u32, op_and_u8, op_xor_u8, op_not_u32, binF_shr_u32, binF_shr_u8, op_mul_i64, op_quo_i64, op_and_u32, binF_shl_u8, wrapF_u8, wrapF_u32, mod_u8, mod_u32, cond_val, Nat.lt_irrefl, Nat.not_lt_zero, if_true, if_false, reduceIte, Nat.reduceEqDiff, Nat.reduceAdd, ne_eq, not_true_eq_false, not_false_eq_true, decide_true, decide_false, Bool.false_eq_true, Bool.not_true, Bool.not_false, sub_nil, sub_seq0, sub_seq1, sub_cond0, sub_cond1, sub_block, sub_loop, sub_scope, sub_range0, sub_range1, Option.getD_some, at_ptr, at_slc, runOps_yes, runOps_no, exec_draw, op_sub_i64, op_sub_neg, op_lss_neg, binF_str, str_add, str_neq, str_eql, takeF, resF, oneOf, pickF, extractF, cells_str, cells_int, cells_agg, bool_eql, bool_neq, op_lssI, bne_self_eq_false, beq_self_eq_true, eq_self, cells_slc, cells_func, builtin_append, ev_nilslice, ev_nilfunc, ev_nilptr, ev_nilmap, opF_makeFunc, opF_callv, callV_func, callV_yield, op_leq, op_gtr, op_geq, cast_le, cast_lt, List.nil_append, List.cons_append, List.append_nil, un_not, g0, g2, g3, hlt']
          with_reducible rfl
        rw [swapN_rev l i (by omega) (by omega)] at hsC
        exact ⟨.inl rfl, _, [], rfl, rfl, rfl, hsC, hn, hf⟩
    · simp only [Sl_cons, Sl_nil, T.get_set, T.puts_cons, T.puts_nil, Nat.reduceEqDiff, Nat.reduceAdd, if_true, if_false, and_true, true_and, Nat.sub_zero]
end Go.Proofs.Ytekimgleakjonaa.dist

/-
  Dist: the program's script.
-/
namespace Go.Proofs.Ytekimgleakjonaa.dist
open Go.Am Go.Dist
set_option linter.unusedSimpArgs false

noncomputable def c24 : Code := Try.f24.body.getD .skip
noncomputable def c24b1 : Code := sub c24 [1,0,0]
theorem c24_eq : Try.f24.body = some (.seq (sub c24 [0]) (.block 0 (.loop c24b1))) := by kernel_rfl
theorem c24b1_eq : c24b1 = (.seq (.seq (sub c24b1 [0,0]) (sub c24b1 [0,1])) (.block 1 (.seq (sub c24b1 [1,0,0]) (.seq (.seq (sub c24b1 [1,0,1,0,0]) (sub c24b1 [1,0,1,0,1])) (.seq (.seq (sub c24b1 [1,0,1,1,0,0]) (sub c24b1 [1,0,1,1,0,1])) (sub c24b1 [1,0,1,1,1])))))) := by kernel_rfl

section
variable {a b : List UInt8} {i k lo b2 b3 b5 bt : Nat} {xt : Value} {xs : List Value} {C : Mem} {t : T Value} {K : Ex → St → Prop}
theorem row_load (_ : Nat) {j m : Nat} {x : Value} {bi : Nat} (h : Slc C 3 bi (ints (rowOf a (b.take j))) x) (hm : m ≤ a.length) : loadF tb1 C.get 3 (.pointer (some ⟨bi, m, none⟩)) = .ok (.int .i64 ((D a b m j : Nat) : Int)) := by
  have hld := h.load (tb := tb1) (t := 3) (o := m) vnd3 rfl (ints_get (getD_some (by rw [rowOf_len]; omega)))
  rw [rowOf_get hm] at hld
  exact hld
/-- The slots of a round. -/
def yieldS (yv : Value) (b2 b3 b5 i k : Nat) : List (Nat × Value) :=
  [(0, yv), (1, .pointer (some ⟨b2, 0, none⟩)), (2, .pointer (some ⟨b3, 0, none⟩)), (3, .pointer (some ⟨b5, 0, none⟩)), (5, .int .i64 (i : Int)), (6, .int .i64 (k : Int))]
set_option maxHeartbeats 8000000 in
set_option maxRecDepth 20000 in
theorem letter_W {yv : Value} (ha : a.length ≤ 400000) (hb : b.length ≤ 400000) (hi : i ≤ a.length) (hk : k ≤ b.length) (h0 : ¬ (i = 0 ∧ k = 0)) (hC : Clo C a b lo b2 b3 b5 bt (b.length + 1) xt xs) (hp : Sl t (yieldS yv b2 b3 b5 i k)) (h7 : t.get 7 = some (.int .u8 ((43 : Nat) : Int)))
    (hK : ∀ t' : T Value, Sl t' (yieldS yv b2 b3 b5 i k) → t'.get 7 = some (.int .u8 (((letter a b i k).toNat : Nat) : Int)) → K .nrm ⟨t', 93, [], C, none⟩) : W tb1 (.seq (sub c24b1 [1,0,1,0,0]) (sub c24b1 [1,0,1,0,1])) ⟨t, 93, [], C, none⟩ K := by
  obtain ⟨g0, g1, g2, g3, g5, g6, -⟩ := hp
  have la := load_box (tb := tb1) vnd9 rfl hC.ha
  have lb := load_box (tb := tb1) vnd9 rfl hC.hb
  have lt := load_box (tb := tb1) vnd42 rfl hC.ht
  obtain ⟨x, bi, hx, hsx, -, -, -, -⟩ := hC.hr.2 k (by omega)
  have hix := hC.hs.idx (tb := tb1) (t := 42) (t' := 27) (kd := .i64) (i := k) vnd42 vize27 (by rw [hC.hr.1]; omega)
  have hld := hC.hs.load (tb := tb1) (t := 27) (o := k) vnd27 rfl hx
  have r1 := hsx.idx (tb := tb1) (t := 27) (t' := 3) (kd := .i64) (i := i) vnd27 vize3 (by rw [ints_len, rowOf_len]; omega)
  have q1 := row_load 0 hsx hi
  apply W.seq
  apply W.run 20
  · intro M
    simp (config := { maxSteps := 4000000 }) (disch := first | decide +kernel | (rw [wantF_guard]; simp only [wantD_some, dstAt_zero, dstAt_succ, T.get_set, T.get_e, Nat.reduceEqDiff, if_true, if_false, wantV_bool, wantV_unit, unitV, cond_true, cond_false, Bool.not_true, Bool.not_false, List.toList_toArray]) | omega) only [c24b1, c24, Try.f24, Nat.ble, cond_true, cond_false, T.puts_cons, T.puts_nil, exec_seq, exec_block, nat_beq_self, exec_region, exec_cond, exec_skip, exec_ret, exec_exit, exec_scope, runOps_cons, runOps_nil, opF_move, opF_assign, opF_ari, opF_neq, opF_eql, opF_un, opF_index, opF_indexAddr, opF_fieldAddr, opF_field, opF_build, opF_slice, opF_extract, opF_pick, opF_load, opF_alloc, opF_box, opF_buildSlice, opF_makeSlice, opF_store, opF_conv, opF_len, opF_minmax, opF_builtin, opF_call, resK, ev_tmp, evG_some, ev_int, ev_bool, ev_str, evs, evp, evo, R.ok_bind, putT_some, putT_none, T.get_set, T.get_e, binF_int, op_rem, op_quo_u32, op_xor_u32, op_neq, op_eql, op_lss, op_add_i64, op_sub_u32, op_and_u8, op_xor_u8, op_not_u32, binF_shr_u32, binF_shr_u8, op_mul_i64, op_quo_i64, op_and_u32, binF_shl_u8, wrapF_u8, wrapF_u32, mod_u8, mod_u32, cond_val, Nat.lt_irrefl, Nat.not_lt_zero, if_true, if_false, reduceIte, Nat.reduceEqDiff, Nat.reduceAdd, ne_eq, not_true_eq_false, not_false_eq_true, decide_true, decide_false, Bool.false_eq_true, Bool.not_true, Bool.not_false, sub_nil, sub_seq0, sub_seq1, sub_cond0, sub_cond1, sub_block, sub_loop, sub_scope, sub_range0, sub_range1, Option.getD_some, at_ptr, at_slc, runOps_yes, runOps_no, exec_draw, op_sub_i64, op_sub_neg, op_lss_neg, binF_str, str_add, str_neq, str_eql, takeF, resF, oneOf, pickF, extractF, cells_str, cells_int, cells_agg, bool_eql, bool_neq, op_lssI, bne_self_eq_false, beq_self_eq_true, eq_self, cells_slc, cells_func, builtin_append, ev_nilslice, ev_nilfunc, ev_nilptr, ev_nilmap, opF_makeFunc, opF_callv, callV_func, callV_yield, op_leq, op_gtr, op_geq, cast_le, cast_lt, List.nil_append, List.cons_append, List.append_nil, un_not, g3, g5, g6, lt, hix, hld, r1, q1]
    with_reducible rfl
  show W tb1 _ _ _
  have ebd := dist_max (a.take i) (b.take k)
  rw [List.length_take, List.length_take] at ebd
  have dk : ∀ i' k', D a b i' k' ≤ 800000 := fun i' k' => by
    have h := dist_max (a.take i') (b.take k')
    rw [List.length_take, List.length_take] at h
    unfold D; omega
  by_cases hi0 : i = 0
  · have hle : letter a b i k = 43 := by unfold letter; rw [if_neg (by omega), if_neg (by omega), if_neg (by omega)]
    rw [hle] at hK
    have n0 : ¬ 0 < i := by omega
    apply W.run 20
    · intro M
      simp (config := { maxSteps := 4000000 }) (disch := first | decide +kernel | (rw [wantF_guard]; simp only [wantD_some, dstAt_zero, dstAt_succ, T.get_set, T.get_e, Nat.reduceEqDiff, if_true, if_false, wantV_bool, wantV_unit, unitV, cond_true, cond_false, Bool.not_true, Bool.not_false, List.toList_toArray]) | omega) only [c24b1, c24, Try.f24, Nat.ble, cond_true, cond_false, T.puts_cons, T.puts_nil, exec_seq, exec_block, nat_beq_self, exec_region, exec_cond, exec_skip, exec_ret, exec_exit, exec_scope, runOps_cons, runOps_nil, opF_move, opF_assign, opF_ari, opF_neq, opF_eql, opF_un, opF_index, opF_indexAddr, opF_fieldAddr, opF_field, opF_build, opF_slice, opF_extract, opF_pick, opF_load, opF_alloc, opF_box, opF_buildSlice, opF_makeSlice, opF_store, opF_conv, opF_len, opF_minmax, opF_builtin, opF_call, resK, ev_tmp, evG_some, ev_int, ev_bool, ev_str, evs, evp, evo, R.ok_bind, putT_some, putT_none, T.get_set, T.get_e, binF_int, op_rem, op_quo_u32, op_xor_u32, op_neq, op_eql, op_lss, op_add_i64, op_sub_u32, op_and_u8, op_xor_u8, op_not_u32, binF_shr_u32, binF_shr_u8, op_mul_i64, op_quo_i64, op_and_u32, binF_shl_u8, wrapF_u8, wrapF_u32, mod_u8, mod_u32, cond_val, Nat.lt_irrefl, Nat.not_lt_zero, if_true, if_false, reduceIte, Nat.reduceEqDiff, Nat.reduceAdd, ne_eq, not_true_eq_false, not_false_eq_true, decide_true, decide_false, Bool.false_eq_true, Bool.not_true, Bool.not_false, sub_nil, sub_seq0, sub_seq1, sub_cond0, sub_cond1, sub_block, sub_loop, sub_scope, sub_range0, sub_range1, Option.getD_some, at_ptr, at_slc, runOps_yes, runOps_no, exec_draw, op_sub_i64, op_sub_neg, op_lss_neg, binF_str, str_add, str_neq, str_eql, takeF, resF, oneOf, pickF, extractF, cells_str, cells_int, cells_agg, bool_eql, bool_neq, op_lssI, bne_self_eq_false, beq_self_eq_true, eq_self, cells_slc, cells_func, builtin_append, ev_nilslice, ev_nilfunc, ev_nilptr, ev_nilmap, opF_makeFunc, opF_callv, callV_func, callV_yield, op_leq, op_gtr, op_geq, cast_le, cast_lt, List.nil_append, List.cons_append, List.append_nil, un_not, g5, g6, n0]
      with_reducible rfl
    apply hK
    · unfold yieldS; simp only [Sl_cons, Sl_nil, T.get_set, T.puts_cons, T.puts_nil, Nat.reduceEqDiff, Nat.reduceAdd, if_true, if_false, and_true, true_and, g0, g1, g2, g3, g5, g6]
    · simp only [T.get_set, Nat.reduceEqDiff, if_true, if_false, h7]; rfl
  · have p0 : 0 < i := by omega
    have s1 : intOpF .sub .i64 (i : Int) ((1 : Nat) : Int) = .ok (.int .i64 ((i - 1 : Nat) : Int)) := op_sub_i64 (by omega) (by omega)
    have r2 := hsx.idx (tb := tb1) (t := 27) (t' := 3) (kd := .i64) (i := i - 1) vnd27 vize3 (by rw [ints_len, rowOf_len]; omega)
    have q2 := row_load 0 hsx (m := i - 1) (by omega)
    have d1 := dk (i - 1) k
    have d2 := dk (i - 1) (k - 1)
    by_cases hk0 : k = 0
    · subst hk0
      have e1 : D a b i 0 = D a b (i - 1) 0 + 1 := by rw [D_zero' a b hi, D_zero' a b (by omega)]; omega
      have hle : letter a b i 0 = 45 := by unfold letter; rw [if_neg (by omega), if_neg (by omega), if_pos ⟨p0, e1⟩]
      rw [hle] at hK
      have n0 : ¬ 0 < 0 := by omega
      clear dk ebd
      apply W.run 20
      · intro M
        simp (config := { maxSteps := 4000000 }) (disch := first | decide +kernel | (rw [wantF_guard]; simp only [wantD_some, dstAt_zero, dstAt_succ, T.get_set, T.get_e, Nat.reduceEqDiff, if_true, if_false, wantV_bool, wantV_unit, unitV, cond_true, cond_false, Bool.not_true, Bool.not_false, List.toList_toArray]) | omega) only [c24b1, c24, Try.f24, Nat.ble, cond_true, cond_false, T.puts_cons, T.puts_nil, exec_seq, exec_block, nat_beq_self, exec_region, exec_cond, exec_skip, exec_ret, exec_exit, exec_scope, runOps_cons, runOps_nil, opF_move, opF_assign, opF_ari, opF_neq, opF_eql, opF_un, opF_index, opF_indexAddr, opF_fieldAddr, opF_field, opF_build, opF_slice, opF_extract, opF_pick, opF_load, opF_alloc, opF_box, opF_buildSlice, opF_makeSlice, opF_store, opF_conv, opF_len, opF_minmax, opF_builtin, opF_call, resK, ev_tmp, evG_some, ev_int, ev_bool, ev_str, evs, evp, evo, R.ok_bind, putT_some, putT_none, T.get_set, T.get_e, binF_int, op_rem, op_quo_u32, op_xor_u32, op_neq, op_eql, op_lss, op_add_i64, op_sub_u32, op_and_u8, op_xor_u8, op_not_u32, binF_shr_u32, binF_shr_u8, op_mul_i64, op_quo_i64, op_and_u32, binF_shl_u8, wrapF_u8, wrapF_u32, mod_u8, mod_u32, cond_val, Nat.lt_irrefl, Nat.not_lt_zero, if_true, if_false, reduceIte, Nat.reduceEqDiff, Nat.reduceAdd, ne_eq, not_true_eq_false, not_false_eq_true, decide_true, decide_false, Bool.false_eq_true, Bool.not_true, Bool.not_false, sub_nil, sub_seq0, sub_seq1, sub_cond0, sub_cond1, sub_block, sub_loop, sub_scope, sub_range0, sub_range1, Option.getD_some, at_ptr, at_slc, runOps_yes, runOps_no, exec_draw, op_sub_i64, op_sub_neg, op_lss_neg, binF_str, str_add, str_neq, str_eql, takeF, resF, oneOf, pickF, extractF, cells_str, cells_int, cells_agg, bool_eql, bool_neq, op_lssI, bne_self_eq_false, beq_self_eq_true, eq_self, cells_slc, cells_func, builtin_append, ev_nilslice, ev_nilfunc, ev_nilptr, ev_nilmap, opF_makeFunc, opF_callv, callV_func, callV_yield, op_leq, op_gtr, op_geq, cast_le, cast_lt, List.nil_append, List.cons_append, List.append_nil, un_not, g3, g5, g6, p0, n0, s1, lt, hix, hld, r2, q2, e1]
        with_reducible rfl
      apply hK
      · unfold yieldS; simp only [Sl_cons, Sl_nil, T.get_set, T.puts_cons, T.puts_nil, Nat.reduceEqDiff, Nat.reduceAdd, if_true, if_false, and_true, true_and, g0, g1, g2, g3, g5, g6]
      · simp only [T.get_set, Nat.reduceEqDiff, if_true, if_false]; rfl
    · have p1 : 0 < k := by omega
      have s2 : intOpF .sub .i64 (k : Int) ((1 : Nat) : Int) = .ok (.int .i64 ((k - 1 : Nat) : Int)) := op_sub_i64 (by omega) (by omega)
      have la1 : i - 1 < a.length := by omega
      have lb1 : k - 1 < b.length := by omega
      by_cases he : (a.getD (i - 1) 0).toNat = (b.getD (k - 1) 0).toNat
      · have hle : letter a b i k = 61 := by unfold letter; rw [if_pos ⟨p0, p1, UInt8.toNat_inj.1 he⟩]
        rw [hle] at hK
        clear dk ebd
        apply W.run 20
        · intro M
          simp (config := { maxSteps := 4000000 }) (disch := first | decide +kernel | (rw [wantF_guard]; simp only [wantD_some, dstAt_zero, dstAt_succ, T.get_set, T.get_e, Nat.reduceEqDiff, if_true, if_false, wantV_bool, wantV_unit, unitV, cond_true, cond_false, Bool.not_true, Bool.not_false, List.toList_toArray]) | omega) only [c24b1, c24, Try.f24, Nat.ble, cond_true, cond_false, T.puts_cons, T.puts_nil, exec_seq, exec_block, nat_beq_self, exec_region, exec_cond, exec_skip, exec_ret, exec_exit, exec_scope, runOps_cons, runOps_nil, opF_move, opF_assign, opF_ari, opF_neq, opF_eql, opF_un, opF_index, opF_indexAddr, opF_fieldAddr, opF_field, opF_build, opF_slice, opF_extract, opF_pick, opF_load, opF_alloc, opF_box, opF_buildSlice, opF_makeSlice, opF_store, opF_conv, opF_len, opF_minmax, opF_builtin, opF_call, resK, ev_tmp, evG_some, ev_int, ev_bool, ev_str, evs, evp, evo, R.ok_bind, putT_some, putT_none, T.get_set, T.get_e, binF_int, op_rem, op_quo_u32, op_xor_u32, op_neq, op_eql, op_lss, op_add_i64, op_sub_u32, op_and_u8, op_xor_u8, op_not_u32, binF_shr_u32, binF_shr_u8, op_mul_i64, op_quo_i64, op_and_u32, binF_shl_u8, wrapF_u8, wrapF_u32, mod_u8, mod_u32, cond_val, Nat.lt_irrefl, Nat.not_lt_zero, if_true, if_false, reduceIte, Nat.reduceEqDiff, Nat.reduceAdd, ne_eq, not_true_eq_false, not_false_eq_true, decide_true, decide_false, Bool.false_eq_true, Bool.not_true, Bool.not_false, sub_nil, sub_seq0, sub_seq1, sub_cond0, sub_cond1, sub_block, sub_loop, sub_scope, sub_range0, sub_range1, Option.getD_some, at_ptr, at_slc, runOps_yes, runOps_no, exec_draw, op_sub_i64, op_sub_neg, op_lss_neg, binF_str, str_add, str_neq, str_eql, takeF, resF, oneOf, pickF, extractF, cells_str, cells_int, cells_agg, bool_eql, bool_neq, op_lssI, bne_self_eq_false, beq_self_eq_true, eq_self, cells_slc, cells_func, builtin_append, ev_nilslice, ev_nilfunc, ev_nilptr, ev_nilmap, opF_makeFunc, opF_callv, callV_func, callV_yield, op_leq, op_gtr, op_geq, cast_le, cast_lt, List.nil_append, List.cons_append, List.append_nil, un_not, g1, g2, g5, g6, p0, p1, s1, s2, la, lb, index_str vnd9, la1, lb1, he]
          with_reducible rfl
        apply hK
        · unfold yieldS; simp only [Sl_cons, Sl_nil, T.get_set, T.puts_cons, T.puts_nil, Nat.reduceEqDiff, Nat.reduceAdd, if_true, if_false, and_true, true_and, g0, g1, g2, g3, g5, g6]
        · simp only [T.get_set, Nat.reduceEqDiff, if_true, if_false]; rfl
      · have he2 : ¬ a.getD (i - 1) 0 = b.getD (k - 1) 0 := fun e => he (by rw [e])
        obtain ⟨y, by_, hy, hsy, -, -, -, -⟩ := hC.hr.2 (k - 1) (by omega)
        have hix2 := hC.hs.idx (tb := tb1) (t := 42) (t' := 27) (kd := .i64) (i := k - 1) vnd42 vize27 (by rw [hC.hr.1]; omega)
        have hld2 := hC.hs.load (tb := tb1) (t := 27) (o := k - 1) vnd27 rfl hy
        have r3 := hsy.idx (tb := tb1) (t := 27) (t' := 3) (kd := .i64) (i := i - 1) vnd27 vize3 (by rw [ints_len, rowOf_len]; omega)
        have q3 := row_load 0 hsy (m := i - 1) (by omega)
        by_cases h2 : D a b i k = D a b (i - 1) (k - 1) + 1
        · have hle : letter a b i k = 120 := by unfold letter; rw [if_neg (fun h => he2 h.2.2), if_pos ⟨p0, p1, h2⟩]
          rw [hle] at hK
          clear dk ebd
          apply W.run 20
          · intro M
            simp (config := { maxSteps := 4000000 }) (disch := first | decide +kernel | (rw [wantF_guard]; simp only [wantD_some, dstAt_zero, dstAt_succ, T.get_set, T.get_e, Nat.reduceEqDiff, if_true, if_false, wantV_bool, wantV_unit, unitV, cond_true, cond_false, Bool.not_true, Bool.not_false, List.toList_toArray]) | omega) only [c24b1, c24, Try.f24, Nat.ble, cond_true, cond_false, T.puts_cons, T.puts_nil, exec_seq, exec_block, nat_beq_self, exec_region, exec_cond, exec_skip, exec_ret, exec_exit, exec_scope, runOps_cons, runOps_nil, opF_move, opF_assign, opF_ari, opF_neq, opF_eql, opF_un, opF_index, opF_indexAddr, opF_fieldAddr, opF_field, opF_build, opF_slice, opF_extract, opF_pick, opF_load, opF_alloc, opF_box, opF_buildSlice, opF_makeSlice, opF_store, opF_conv, opF_len, opF_minmax, opF_builtin, opF_call, resK, ev_tmp, evG_some, ev_int, ev_bool, ev_str, evs, evp, evo, R.ok_bind, putT_some, putT_none, T.get_set, T.get_e, binF_int, op_rem, op_quo_u32, op_xor_u32, op_neq, op_eql, op_lss, op_add_i64, op_sub_u32, op_and_u8, op_xor_u8, op_not_u32, binF_shr_u32, binF_shr_u8, op_mul_i64, op_quo_i64, op_and_u32, binF_shl_u8, wrapF_u8, wrapF_u32, mod_u8, mod_u32, cond_val, Nat.lt_irrefl, Nat.not_lt_zero, if_true, if_false, reduceIte, Nat.reduceEqDiff, Nat.reduceAdd, ne_eq, not_true_eq_false, not_false_eq_true, decide_true, decide_false, Bool.false_eq_true, Bool.not_true, Bool.not_false, sub_nil, sub_seq0, sub_seq1, sub_cond0, sub_cond1, sub_block, sub_loop, sub_scope, sub_range0, sub_range1, Option.getD_some, at_ptr, at_slc, runOps_yes, runOps_no, exec_draw, op_sub_i64, op_sub_neg, op_lss_neg, binF_str, str_add, str_neq, str_eql, takeF, resF, oneOf, pickF, extractF, cells_str, cells_int, cells_agg, bool_eql, bool_neq, op_lssI, bne_self_eq_false, beq_self_eq_true, eq_self, cells_slc, cells_func, builtin_append, ev_nilslice, ev_nilfunc, ev_nilptr, ev_nilmap, opF_makeFunc, opF_callv, callV_func, callV_yield, op_leq, op_gtr, op_geq, cast_le, cast_lt, List.nil_append, List.cons_append, List.append_nil, un_not, g1, g2, g3, g5, g6, p0, p1, s1, s2, la, lb, lt, index_str vnd9, la1, lb1, he, hix2, hld2, r3, q3, h2]
            with_reducible rfl
          apply hK
          · unfold yieldS; simp only [Sl_cons, Sl_nil, T.get_set, T.puts_cons, T.puts_nil, Nat.reduceEqDiff, Nat.reduceAdd, if_true, if_false, and_true, true_and, g0, g1, g2, g3, g5, g6]
          · simp only [T.get_set, Nat.reduceEqDiff, if_true, if_false]; rfl
        · by_cases h3 : D a b i k = D a b (i - 1) k + 1
          · have hle : letter a b i k = 45 := by unfold letter; rw [if_neg (fun h => he2 h.2.2), if_neg (fun h => h2 h.2.2), if_pos ⟨p0, h3⟩]
            rw [hle] at hK
            have h2' : ¬ D a b (i - 1) k + 1 = D a b (i - 1) (k - 1) + 1 := by rw [← h3]; exact h2
            clear dk ebd
            rw [h3] at q1
            apply W.run 20
            · intro M
              simp (config := { maxSteps := 4000000 }) (disch := first | decide +kernel | (rw [wantF_guard]; simp only [wantD_some, dstAt_zero, dstAt_succ, T.get_set, T.get_e, Nat.reduceEqDiff, if_true, if_false, wantV_bool, wantV_unit, unitV, cond_true, cond_false, Bool.not_true, Bool.not_false, List.toList_toArray]) | omega) only [c24b1, c24, Try.f24, Nat.ble, cond_true, cond_false, T.puts_cons, T.puts_nil, exec_seq, exec_block, nat_beq_self, exec_region, exec_cond, exec_skip, exec_ret, exec_exit, exec_scope, runOps_cons, runOps_nil, opF_move, opF_assign, opF_ari, opF_neq, opF_eql, opF_un, opF_index, opF_indexAddr, opF_fieldAddr, opF_field, opF_build, opF_slice, opF_extract, opF_pick, opF_load, opF_alloc, opF_box, opF_buildSlice, opF_makeSlice, opF_store, opF_conv, opF_len, opF_minmax, opF_builtin, opF_call, resK, ev_tmp, evG_some, ev_int, ev_bool, ev_str, evs, evp, evo, R.ok_bind, putT_some, putT_none, T.get_set, T.get_e, binF_int, op_rem, op_quo_u32, op_xor_u32, op_neq, op_eql, op_lss, op_add_i64, op_sub_u32, op_and_u8, op_xor_u8, op_not_u32, binF_shr_u32, binF_shr_u8, op_mul_i64, op_quo_i64, op_and_u32, binF_shl_u8, wrapF_u8, wrapF_u32, mod_u8, mod_u32, cond_val, Nat.lt_irrefl, Nat.not_lt_zero, if_true, if_false, reduceIte, Nat.reduceEqDiff, Nat.reduceAdd, ne_eq, not_true_eq_false, not_false_eq_true, decide_true, decide_false, Bool.false_eq_true, Bool.not_true, Bool.not_false, sub_nil, sub_seq0, sub_seq1, sub_cond0, sub_cond1, sub_block, sub_loop, sub_scope, sub_range0, sub_range1, Option.getD_some, at_ptr, at_slc, runOps_yes, runOps_no, exec_draw, op_sub_i64, op_sub_neg, op_lss_neg, binF_str, str_add, str_neq, str_eql, takeF, resF, oneOf, pickF, extractF, cells_str, cells_int, cells_agg, bool_eql, bool_neq, op_lssI, bne_self_eq_false, beq_self_eq_true, eq_self, cells_slc, cells_func, builtin_append, ev_nilslice, ev_nilfunc, ev_nilptr, ev_nilmap, opF_makeFunc, opF_callv, callV_func, callV_yield, op_leq, op_gtr, op_geq, cast_le, cast_lt, List.nil_append, List.cons_append, List.append_nil, un_not, g1, g2, g3, g5, g6, p0, p1, s1, s2, la, lb, lt, index_str vnd9, la1, lb1, he, hix, hld, hix2, hld2, r2, q2, r3, q3, h3, h2']
              with_reducible rfl
            apply hK
            · unfold yieldS; simp only [Sl_cons, Sl_nil, T.get_set, T.puts_cons, T.puts_nil, Nat.reduceEqDiff, Nat.reduceAdd, if_true, if_false, and_true, true_and, g0, g1, g2, g3, g5, g6]
            · simp only [T.get_set, Nat.reduceEqDiff, if_true, if_false]; rfl
          · have hle : letter a b i k = 43 := by unfold letter; rw [if_neg (fun h => he2 h.2.2), if_neg (fun h => h2 h.2.2), if_neg (fun h => h3 h.2)]
            rw [hle] at hK
            clear dk ebd
            apply W.run 20
            · intro M
              simp (config := { maxSteps := 4000000 }) (disch := first | decide +kernel | (rw [wantF_guard]; simp only [wantD_some, dstAt_zero, dstAt_succ, T.get_set, T.get_e, Nat.reduceEqDiff, if_true, if_false, wantV_bool, wantV_unit, unitV, cond_true, cond_false, Bool.not_true, Bool.not_false, List.toList_toArray]) | omega) only [c24b1, c24, Try.f24, Nat.ble, cond_true, cond_false, T.puts_cons, T.puts_nil, exec_seq, exec_block, nat_beq_self, exec_region, exec_cond, exec_skip, exec_ret, exec_exit, exec_scope, runOps_cons, runOps_nil, opF_move, opF_assign, opF_ari, opF_neq, opF_eql, opF_un, opF_index, opF_indexAddr, opF_fieldAddr, opF_field, opF_build, opF_slice, opF_extract, opF_pick, opF_load, opF_alloc, opF_box, opF_buildSlice, opF_makeSlice, opF_store, opF_conv, opF_len, opF_minmax, opF_builtin, opF_call, resK, ev_tmp, evG_some, ev_int, ev_bool, ev_str, evs, evp, evo, R.ok_bind, putT_some, putT_none, T.get_set, T.get_e, binF_int, op_rem, op_quo_u32, op_xor_u32, op_neq, op_eql, op_lss, op_add_i64, op_sub_u32, op_and_u8, op_xor_u8, op_not_u32, binF_shr_u32, binF_shr_u8, op_mul_i64, op_quo_i64, op_and_u32, binF_shl_u8, wrapF_u8, wrapF_u32, mod_u8, mod_u32, cond_val, Nat.lt_irrefl, Nat.not_lt_zero, if_true, if_false, reduceIte, Nat.reduceEqDiff, Nat.reduceAdd, ne_eq, not_true_eq_false, not_false_eq_true, decide_true, decide_false, Bool.false_eq_true, Bool.not_true, Bool.not_false, sub_nil, sub_seq0, sub_seq1, sub_cond0, sub_cond1, sub_block, sub_loop, sub_scope, sub_range0, sub_range1, Option.getD_some, at_ptr, at_slc, runOps_yes, runOps_no, exec_draw, op_sub_i64, op_sub_neg, op_lss_neg, binF_str, str_add, str_neq, str_eql, takeF, resF, oneOf, pickF, extractF, cells_str, cells_int, cells_agg, bool_eql, bool_neq, op_lssI, bne_self_eq_false, beq_self_eq_true, eq_self, cells_slc, cells_func, builtin_append, ev_nilslice, ev_nilfunc, ev_nilptr, ev_nilmap, opF_makeFunc, opF_callv, callV_func, callV_yield, op_leq, op_gtr, op_geq, cast_le, cast_lt, List.nil_append, List.cons_append, List.append_nil, un_not, g1, g2, g3, g5, g6, p0, p1, s1, s2, la, lb, lt, index_str vnd9, la1, lb1, he, hix, hld, hix2, hld2, r2, q2, r3, q3, h2, h3]
              with_reducible rfl
            apply hK
            · unfold yieldS; simp only [Sl_cons, Sl_nil, T.get_set, T.puts_cons, T.puts_nil, Nat.reduceEqDiff, Nat.reduceAdd, if_true, if_false, and_true, true_and, g0, g1, g2, g3, g5, g6]
            · simp only [T.get_set, Nat.reduceEqDiff, if_true, if_false, h7]; rfl
theorem Clo.keep {C C' : Mem} {n : Nat} (h : Clo C a b lo b2 b3 b5 bt n xt xs) (hn : C.next ≤ C'.next) (hf : ∀ y, lo ≤ y → y < C.next → C'.get y = C.get y) : Clo C' a b lo b2 b3 b5 bt n xt xs where
  ha := h.ha.same (hf _ h.h2.1 h.h2.2.1)
  hb := h.hb.same (hf _ h.h3.1 h.h3.2.1)
  ht := h.ht.same (hf _ h.h5.1 h.h5.2.1)
  hs := h.hs.same hn (fun hl => hf _ h.h6 hl)
  hr := ⟨h.hr.1, fun j hj => by
    obtain ⟨x, bi, e1, e2, e3, e4, e5, e6⟩ := h.hr.2 j hj
    exact ⟨x, bi, e1, e2.same hn (fun _ => hf _ e3 e4), e3, by omega, e5, e6⟩⟩
  h2 := ⟨h.h2.1, by have := h.h2.2.1; omega, h.h2.2.2⟩
  h3 := ⟨h.h3.1, by have := h.h3.2.1; omega, h.h3.2.2⟩
  h5 := ⟨h.h5.1, by have := h.h5.2.1; omega, h.h5.2.2⟩
  h6 := h.h6

set_option maxHeartbeats 8000000 in
set_option maxRecDepth 20000 in
/-- The closure of a script, called with the loop's body. -/
theorem run_yields {B0 : Mem} {bx : Nat} {t0 : T Value} (ha : a.length ≤ 400000) (hb : b.length ≤ 400000) (h5 : t0.get 5 = some (.pointer (some ⟨bx, 0, none⟩))) (hB : Clo B0 a b lo b2 b3 b5 bt (b.length + 1) xt xs) (hlo : bx < lo) (hC : ScrM B0 bx t0 [] C) :
    ∃ v C', Ans tb1 24 [.func (.yield (B0.next + 1)) ⟨[]⟩ ⟨[]⟩, .pointer (some ⟨b2, 0, none⟩), .pointer (some ⟨b3, 0, none⟩), .pointer (some ⟨b5, 0, none⟩)] C v C' ∧ ScrM B0 bx t0 (bw a b (a.length + b.length) a.length b.length) C' := by
  have clo : ∀ {lst : List UInt8} {C : Mem}, ScrM B0 bx t0 lst C → Clo C a b lo b2 b3 b5 bt (b.length + 1) xt xs := fun h => hB.keep (by have := h.hn; omega) (fun y h1 h2 => h.hf y h2 (by omega))
  refine ans_of_W (fn_at Try.func24) c24_eq (by rw [Try.ntmps24]; simp) (by kernel_rfl) (by kernel_rfl) ?_
  have la := load_box (tb := tb1) vnd9 rfl (clo hC).ha
  have lb := load_box (tb := tb1) vnd9 rfl (clo hC).hb
  apply W.seq
  apply W.run 20
  · intro M
    simp (config := { maxSteps := 4000000 }) (disch := first | decide +kernel | (rw [wantF_guard]; simp only [wantD_some, dstAt_zero, dstAt_succ, T.get_set, T.get_e, Nat.reduceEqDiff, if_true, if_false, wantV_bool, wantV_unit, unitV, cond_true, cond_false, Bool.not_true, Bool.not_false, List.toList_toArray]) | omega) only [c24, Try.f24, Nat.ble, cond_true, cond_false, T.puts_cons, T.puts_nil, exec_seq, exec_block, nat_beq_self, exec_region, exec_cond, exec_skip, exec_ret, exec_exit, exec_scope, runOps_cons, runOps_nil, opF_move, opF_assign, opF_ari, opF_neq, opF_eql, opF_un, opF_index, opF_indexAddr, opF_fieldAddr, opF_field, opF_build, opF_slice, opF_extract, opF_pick, opF_load, opF_alloc, opF_box, opF_buildSlice, opF_makeSlice, opF_store, opF_conv, opF_len, opF_minmax, opF_builtin, opF_call, resK, ev_tmp, evG_some, ev_int, ev_bool, ev_str, evs, evp, evo, R.ok_bind, putT_some, putT_none, T.get_set, T.get_e, binF_int, op_rem, op_quo_u32, op_xor_u32, op_neq, op_eql, op_lss, op_add_i64, op_sub_u32, op_and_u8, op_xor_u8, op_not_u32, binF_shr_u32, binF_shr_u8, op_mul_i64, op_quo_i64, op_and_u32, binF_shl_u8, wrapF_u8, wrapF_u32, mod_u8, mod_u32, cond_val, Nat.lt_irrefl, Nat.not_lt_zero, if_true, if_false, reduceIte, Nat.reduceEqDiff, Nat.reduceAdd, ne_eq, not_true_eq_false, not_false_eq_true, decide_true, decide_false, Bool.false_eq_true, Bool.not_true, Bool.not_false, sub_nil, sub_seq0, sub_seq1, sub_cond0, sub_cond1, sub_block, sub_loop, sub_scope, sub_range0, sub_range1, Option.getD_some, at_ptr, at_slc, runOps_yes, runOps_no, exec_draw, op_sub_i64, op_sub_neg, op_lss_neg, binF_str, str_add, str_neq, str_eql, takeF, resF, oneOf, pickF, extractF, cells_str, cells_int, cells_agg, bool_eql, bool_neq, op_lssI, bne_self_eq_false, beq_self_eq_true, eq_self, cells_slc, cells_func, builtin_append, ev_nilslice, ev_nilfunc, ev_nilptr, ev_nilmap, opF_makeFunc, opF_callv, callV_func, callV_yield, op_leq, op_gtr, op_geq, cast_le, cast_lt, List.nil_append, List.cons_append, List.append_nil, un_not, la, lb, len_str vnd9]
    with_reducible rfl
  apply W.block
  refine W.fall (fun m t C => ∃ i k lst n, i ≤ a.length ∧ k ≤ b.length ∧ m = i + k ∧ i + k ≤ n ∧ lst.length + n = a.length + b.length ∧ lst ++ bw a b n i k = bw a b (a.length + b.length) a.length b.length ∧ ScrM B0 bx t0 lst C ∧ Sl t (yieldS (.func (.yield (B0.next + 1)) ⟨[]⟩ ⟨[]⟩) b2 b3 b5 i k)) ?_ ⟨a.length, b.length, [], a.length + b.length, Nat.le_refl _, Nat.le_refl _, rfl, Nat.le_refl _, by simp, rfl, hC, ?_⟩
  · rintro m t C ⟨i, k, lst, n, hi, hk, rfl, hn, hln, hbw, hM, hp⟩
    have hp' := hp
    obtain ⟨g0, g1, g2, g3, g5, g6, -⟩ := hp'
    by_cases h0 : i = 0 ∧ k = 0
    · obtain ⟨rfl, rfl⟩ := h0
      have e : bw a b n 0 0 = [] := by cases n <;> simp [bw]
      rw [e, List.append_nil] at hbw
      rw [c24b1_eq]
      apply W.seq
      apply W.run 20
      · intro M
        simp (config := { maxSteps := 4000000 }) (disch := first | decide +kernel | (rw [wantF_guard]; simp only [wantD_some, dstAt_zero, dstAt_succ, T.get_set, T.get_e, Nat.reduceEqDiff, if_true, if_false, wantV_bool, wantV_unit, unitV, cond_true, cond_false, Bool.not_true, Bool.not_false, List.toList_toArray]) | omega) only [c24b1, c24, Try.f24, Nat.ble, cond_true, cond_false, T.puts_cons, T.puts_nil, exec_seq, exec_block, nat_beq_self, exec_region, exec_cond, exec_skip, exec_ret, exec_exit, exec_scope, runOps_cons, runOps_nil, opF_move, opF_assign, opF_ari, opF_neq, opF_eql, opF_un, opF_index, opF_indexAddr, opF_fieldAddr, opF_field, opF_build, opF_slice, opF_extract, opF_pick, opF_load, opF_alloc, opF_box, opF_buildSlice, opF_makeSlice, opF_store, opF_conv, opF_len, opF_minmax, opF_builtin, opF_call, resK, ev_tmp, evG_some, ev_int, ev_bool, ev_str, evs, evp, evo, R.ok_bind, putT_some, putT_none, T.get_set, T.get_e, binF_int, op_rem, op_quo_u32, op_xor_u32, op_neq, op_eql, op_lss, op_add_i64, op_sub_u32, op_and_u8, op_xor_u8, op_not_u32, binF_shr_u32, binF_shr_u8, op_mul_i64, op_quo_i64, op_and_u32, binF_shl_u8, wrapF_u8, wrapF_u32, mod_u8, mod_u32, cond_val, Nat.lt_irrefl, Nat.not_lt_zero, if_true, if_false, reduceIte, Nat.reduceEqDiff, Nat.reduceAdd, ne_eq, not_true_eq_false, not_false_eq_true, decide_true, decide_false, Bool.false_eq_true, Bool.not_true, Bool.not_false, sub_nil, sub_seq0, sub_seq1, sub_cond0, sub_cond1, sub_block, sub_loop, sub_scope, sub_range0, sub_range1, Option.getD_some, at_ptr, at_slc, runOps_yes, runOps_no, exec_draw, op_sub_i64, op_sub_neg, op_lss_neg, binF_str, str_add, str_neq, str_eql, takeF, resF, oneOf, pickF, extractF, cells_str, cells_int, cells_agg, bool_eql, bool_neq, op_lssI, bne_self_eq_false, beq_self_eq_true, eq_self, cells_slc, cells_func, builtin_append, ev_nilslice, ev_nilfunc, ev_nilptr, ev_nilmap, opF_makeFunc, opF_callv, callV_func, callV_yield, op_leq, op_gtr, op_geq, cast_le, cast_lt, List.nil_append, List.cons_append, List.append_nil, un_not, g5, g6]
        with_reducible rfl
      subst hbw
      exact ⟨.inl rfl, _, [], rfl, rfl, hM⟩
    · obtain ⟨n, rfl⟩ : ∃ n', n = n' + 1 := ⟨n - 1, by omega⟩
      have hstep : bw a b (n + 1) i k = letter a b i k :: bw a b n (if letter a b i k = 43 then i else i - 1) (if letter a b i k = 45 then k else k - 1) := by
        show (if i = 0 ∧ k = 0 then [] else _) = _
        rw [if_neg h0]
      rw [hstep] at hbw
      have hlc := letter_cases hi hk h0
      obtain ⟨C', ⟨g, hg⟩, hM'⟩ := scr_round h5 hM (by omega) (letter a b i k)
      rw [c24b1_eq]
      apply W.seq
      have first : ∀ {K : Ex → St → Prop}, (∀ t' : T Value, Sl t' (yieldS (.func (.yield (B0.next + 1)) ⟨[]⟩ ⟨[]⟩) b2 b3 b5 i k) → K .nrm ⟨t', 93, [], C, none⟩) → W tb1 (.seq (sub c24b1 [0,0]) (sub c24b1 [0,1])) ⟨t, 93, [], C, none⟩ K := by
        intro K hK
        by_cases p0 : 0 < i
        · apply W.run 20
          · intro M
            simp (config := { maxSteps := 4000000 }) (disch := first | decide +kernel | (rw [wantF_guard]; simp only [wantD_some, dstAt_zero, dstAt_succ, T.get_set, T.get_e, Nat.reduceEqDiff, if_true, if_false, wantV_bool, wantV_unit, unitV, cond_true, cond_false, Bool.not_true, Bool.not_false, List.toList_toArray]) | omega) only [c24b1, c24, Try.f24, Nat.ble, cond_true, cond_false, T.puts_cons, T.puts_nil, exec_seq, exec_block, nat_beq_self, exec_region, exec_cond, exec_skip, exec_ret, exec_exit, exec_scope, runOps_cons, runOps_nil, opF_move, opF_assign, opF_ari, opF_neq, opF_eql, opF_un, opF_index, opF_indexAddr, opF_fieldAddr, opF_field, opF_build, opF_slice, opF_extract, opF_pick, opF_load, opF_alloc, opF_box, opF_buildSlice, opF_makeSlice, opF_store, opF_conv, opF_len, opF_minmax, opF_builtin, opF_call, resK, ev_tmp, evG_some, ev_int, ev_bool, ev_str, evs, evp, evo, R.ok_bind, putT_some, putT_none, T.get_set, T.get_e, binF_int, op_rem, op_quo_u32, op_xor_u32, op_neq, op_eql, op_lss, op_add_i64, op_sub_u32, op_and_u8, op_xor_u8, op_not_u32, binF_shr_u32, binF_shr_u8, op_mul_i64, op_quo_i64, op_and_u32, binF_shl_u8, wrapF_u8, wrapF_u32, mod_u8, mod_u32, cond_val, Nat.lt_irrefl, Nat.not_lt_zero, if_true, if_false, reduceIte, Nat.reduceEqDiff, Nat.reduceAdd, ne_eq, not_true_eq_false, not_false_eq_true, decide_true, decide_false, Bool.false_eq_true, Bool.not_true, Bool.not_false, sub_nil, sub_seq0, sub_seq1, sub_cond0, sub_cond1, sub_block, sub_loop, sub_scope, sub_range0, sub_range1, Option.getD_some, at_ptr, at_slc, runOps_yes, runOps_no, exec_draw, op_sub_i64, op_sub_neg, op_lss_neg, binF_str, str_add, str_neq, str_eql, takeF, resF, oneOf, pickF, extractF, cells_str, cells_int, cells_agg, bool_eql, bool_neq, op_lssI, bne_self_eq_false, beq_self_eq_true, eq_self, cells_slc, cells_func, builtin_append, ev_nilslice, ev_nilfunc, ev_nilptr, ev_nilmap, opF_makeFunc, opF_callv, callV_func, callV_yield, op_leq, op_gtr, op_geq, cast_le, cast_lt, List.nil_append, List.cons_append, List.append_nil, un_not, g5, p0]
            with_reducible rfl
          apply hK
          unfold yieldS; simp only [Sl_cons, Sl_nil, T.get_set, T.puts_cons, T.puts_nil, Nat.reduceEqDiff, Nat.reduceAdd, if_true, if_false, and_true, true_and, g0, g1, g2, g3, g5, g6]
        · have p1 : 0 < k := by omega
          apply W.run 20
          · intro M
            simp (config := { maxSteps := 4000000 }) (disch := first | decide +kernel | (rw [wantF_guard]; simp only [wantD_some, dstAt_zero, dstAt_succ, T.get_set, T.get_e, Nat.reduceEqDiff, if_true, if_false, wantV_bool, wantV_unit, unitV, cond_true, cond_false, Bool.not_true, Bool.not_false, List.toList_toArray]) | omega) only [c24b1, c24, Try.f24, Nat.ble, cond_true, cond_false, T.puts_cons, T.puts_nil, exec_seq, exec_block, nat_beq_self, exec_region, exec_cond, exec_skip, exec_ret, exec_exit, exec_scope, runOps_cons, runOps_nil, opF_move, opF_assign, opF_ari, opF_neq, opF_eql, opF_un, opF_index, opF_indexAddr, opF_fieldAddr, opF_field, opF_build, opF_slice, opF_extract, opF_pick, opF_load, opF_alloc, opF_box, opF_buildSlice, opF_makeSlice, opF_store, opF_conv, opF_len, opF_minmax, opF_builtin, opF_call, resK, ev_tmp, evG_some, ev_int, ev_bool, ev_str, evs, evp, evo, R.ok_bind, putT_some, putT_none, T.get_set, T.get_e, binF_int, op_rem, op_quo_u32, op_xor_u32, op_neq, op_eql, op_lss, op_add_i64, op_sub_u32, op_and_u8, op_xor_u8, op_not_u32, binF_shr_u32, binF_shr_u8, op_mul_i64, op_quo_i64, op_and_u32, binF_shl_u8, wrapF_u8, wrapF_u32, mod_u8, mod_u32, cond_val, Nat.lt_irrefl, Nat.not_lt_zero, if_true, if_false, reduceIte, Nat.reduceEqDiff, Nat.reduceAdd, ne_eq, not_true_eq_false, not_false_eq_true, decide_true, decide_false, Bool.false_eq_true, Bool.not_true, Bool.not_false, sub_nil, sub_seq0, sub_seq1, sub_cond0, sub_cond1, sub_block, sub_loop, sub_scope, sub_range0, sub_range1, Option.getD_some, at_ptr, at_slc, runOps_yes, runOps_no, exec_draw, op_sub_i64, op_sub_neg, op_lss_neg, binF_str, str_add, str_neq, str_eql, takeF, resF, oneOf, pickF, extractF, cells_str, cells_int, cells_agg, bool_eql, bool_neq, op_lssI, bne_self_eq_false, beq_self_eq_true, eq_self, cells_slc, cells_func, builtin_append, ev_nilslice, ev_nilfunc, ev_nilptr, ev_nilmap, opF_makeFunc, opF_callv, callV_func, callV_yield, op_leq, op_gtr, op_geq, cast_le, cast_lt, List.nil_append, List.cons_append, List.append_nil, un_not, g5, g6, p0, p1]
            with_reducible rfl
          apply hK
          unfold yieldS; simp only [Sl_cons, Sl_nil, T.get_set, T.puts_cons, T.puts_nil, Nat.reduceEqDiff, Nat.reduceAdd, if_true, if_false, and_true, true_and, g0, g1, g2, g3, g5, g6]
      refine first ?_
      rintro t1 ⟨f0, f1, f2, f3, f5, f6, -⟩
      show W tb1 _ _ _
      apply W.block
      apply W.seq
      apply W.run 20
      · intro M
        simp (config := { maxSteps := 4000000 }) (disch := first | decide +kernel | (rw [wantF_guard]; simp only [wantD_some, dstAt_zero, dstAt_succ, T.get_set, T.get_e, Nat.reduceEqDiff, if_true, if_false, wantV_bool, wantV_unit, unitV, cond_true, cond_false, Bool.not_true, Bool.not_false, List.toList_toArray]) | omega) only [c24b1, c24, Try.f24, Nat.ble, cond_true, cond_false, T.puts_cons, T.puts_nil, exec_seq, exec_block, nat_beq_self, exec_region, exec_cond, exec_skip, exec_ret, exec_exit, exec_scope, runOps_cons, runOps_nil, opF_move, opF_assign, opF_ari, opF_neq, opF_eql, opF_un, opF_index, opF_indexAddr, opF_fieldAddr, opF_field, opF_build, opF_slice, opF_extract, opF_pick, opF_load, opF_alloc, opF_box, opF_buildSlice, opF_makeSlice, opF_store, opF_conv, opF_len, opF_minmax, opF_builtin, opF_call, resK, ev_tmp, evG_some, ev_int, ev_bool, ev_str, evs, evp, evo, R.ok_bind, putT_some, putT_none, T.get_set, T.get_e, binF_int, op_rem, op_quo_u32, op_xor_u32, op_neq, op_eql, op_lss, op_add_i64, op_sub_u32, op_and_u8, op_xor_u8, op_not_u32, binF_shr_u32, binF_shr_u8, op_mul_i64, op_quo_i64, op_and_u32, binF_shl_u8, wrapF_u8, wrapF_u32, mod_u8, mod_u32, cond_val, Nat.lt_irrefl, Nat.not_lt_zero, if_true, if_false, reduceIte, Nat.reduceEqDiff, Nat.reduceAdd, ne_eq, not_true_eq_false, not_false_eq_true, decide_true, decide_false, Bool.false_eq_true, Bool.not_true, Bool.not_false, sub_nil, sub_seq0, sub_seq1, sub_cond0, sub_cond1, sub_block, sub_loop, sub_scope, sub_range0, sub_range1, Option.getD_some, at_ptr, at_slc, runOps_yes, runOps_no, exec_draw, op_sub_i64, op_sub_neg, op_lss_neg, binF_str, str_add, str_neq, str_eql, takeF, resF, oneOf, pickF, extractF, cells_str, cells_int, cells_agg, bool_eql, bool_neq, op_lssI, bne_self_eq_false, beq_self_eq_true, eq_self, cells_slc, cells_func, builtin_append, ev_nilslice, ev_nilfunc, ev_nilptr, ev_nilmap, opF_makeFunc, opF_callv, callV_func, callV_yield, op_leq, op_gtr, op_geq, cast_le, cast_lt, List.nil_append, List.cons_append, List.append_nil, un_not]
        with_reducible rfl
      apply W.seq
      refine letter_W (yv := .func (.yield (B0.next + 1)) ⟨[]⟩ ⟨[]⟩) ha hb hi hk h0 (clo hM) ?_ ?_ ?_
      · unfold yieldS; simp only [Sl_cons, Sl_nil, T.get_set, T.puts_cons, T.puts_nil, Nat.reduceEqDiff, Nat.reduceAdd, if_true, if_false, and_true, true_and, f0, f1, f2, f3, f5, f6]
      · simp only [T.get_set, Nat.reduceEqDiff, if_true, if_false]
      rintro t2 ⟨q0, q1, q2, q3, q5, q6, -⟩ q7
      show W tb1 _ _ _
      apply W.seq
      apply W.seq
      apply W.runG (g) 20
      · intro M hM
        simp (config := { maxSteps := 4000000 }) (disch := first | decide +kernel | (rw [wantF_guard]; simp only [wantD_some, dstAt_zero, dstAt_succ, T.get_set, T.get_e, Nat.reduceEqDiff, if_true, if_false, wantV_bool, wantV_unit, unitV, cond_true, cond_false, Bool.not_true, Bool.not_false, List.toList_toArray]) | omega) only [c24b1, c24, Try.f24, Nat.ble, cond_true, cond_false, T.puts_cons, T.puts_nil, exec_seq, exec_block, nat_beq_self, exec_region, exec_cond, exec_skip, exec_ret, exec_exit, exec_scope, runOps_cons, runOps_nil, opF_move, opF_assign, opF_ari, opF_neq, opF_eql, opF_un, opF_index, opF_indexAddr, opF_fieldAddr, opF_field, opF_build, opF_slice, opF_extract, opF_pick, opF_load, opF_alloc, opF_box, opF_buildSlice, opF_makeSlice, opF_store, opF_conv, opF_len, opF_minmax, opF_builtin, opF_call, resK, ev_tmp, evG_some, ev_int, ev_bool, ev_str, evs, evp, evo, R.ok_bind, putT_some, putT_none, T.get_set, T.get_e, binF_int, op_rem, op_quo_u32, op_xor_u32, op_neq, op_eql, op_lss, op_add_i64, op_sub_u32, op_and_u8, op_xor_u8, op_not_u32, binF_shr_u32, binF_shr_u8, op_mul_i64, op_quo_i64, op_and_u32, binF_shl_u8, wrapF_u8, wrapF_u32, mod_u8, mod_u32, cond_val, Nat.lt_irrefl, Nat.not_lt_zero, if_true, if_false, reduceIte, Nat.reduceEqDiff, Nat.reduceAdd, ne_eq, not_true_eq_false, not_false_eq_true, decide_true, decide_false, Bool.false_eq_true, Bool.not_true, Bool.not_false, sub_nil, sub_seq0, sub_seq1, sub_cond0, sub_cond1, sub_block, sub_loop, sub_scope, sub_range0, sub_range1, Option.getD_some, at_ptr, at_slc, runOps_yes, runOps_no, exec_draw, op_sub_i64, op_sub_neg, op_lss_neg, binF_str, str_add, str_neq, str_eql, takeF, resF, oneOf, pickF, extractF, cells_str, cells_int, cells_agg, bool_eql, bool_neq, op_lssI, bne_self_eq_false, beq_self_eq_true, eq_self, cells_slc, cells_func, builtin_append, ev_nilslice, ev_nilfunc, ev_nilptr, ev_nilmap, opF_makeFunc, opF_callv, callV_func, callV_yield, op_leq, op_gtr, op_geq, cast_le, cast_lt, List.nil_append, List.cons_append, List.append_nil, un_not, q0, q7, hg]
        with_reducible rfl
      apply W.run 20
      · intro M
        simp (config := { maxSteps := 4000000 }) (disch := first | decide +kernel | (rw [wantF_guard]; simp only [wantD_some, dstAt_zero, dstAt_succ, T.get_set, T.get_e, Nat.reduceEqDiff, if_true, if_false, wantV_bool, wantV_unit, unitV, cond_true, cond_false, Bool.not_true, Bool.not_false, List.toList_toArray]) | omega) only [c24b1, c24, Try.f24, Nat.ble, cond_true, cond_false, T.puts_cons, T.puts_nil, exec_seq, exec_block, nat_beq_self, exec_region, exec_cond, exec_skip, exec_ret, exec_exit, exec_scope, runOps_cons, runOps_nil, opF_move, opF_assign, opF_ari, opF_neq, opF_eql, opF_un, opF_index, opF_indexAddr, opF_fieldAddr, opF_field, opF_build, opF_slice, opF_extract, opF_pick, opF_load, opF_alloc, opF_box, opF_buildSlice, opF_makeSlice, opF_store, opF_conv, opF_len, opF_minmax, opF_builtin, opF_call, resK, ev_tmp, evG_some, ev_int, ev_bool, ev_str, evs, evp, evo, R.ok_bind, putT_some, putT_none, T.get_set, T.get_e, binF_int, op_rem, op_quo_u32, op_xor_u32, op_neq, op_eql, op_lss, op_add_i64, op_sub_u32, op_and_u8, op_xor_u8, op_not_u32, binF_shr_u32, binF_shr_u8, op_mul_i64, op_quo_i64, op_and_u32, binF_shl_u8, wrapF_u8, wrapF_u32, mod_u8, mod_u32, cond_val, Nat.lt_irrefl, Nat.not_lt_zero, if_true, if_false, reduceIte, Nat.reduceEqDiff, Nat.reduceAdd, ne_eq, not_true_eq_false, not_false_eq_true, decide_true, decide_false, Bool.false_eq_true, Bool.not_true, Bool.not_false, sub_nil, sub_seq0, sub_seq1, sub_cond0, sub_cond1, sub_block, sub_loop, sub_scope, sub_range0, sub_range1, Option.getD_some, at_ptr, at_slc, runOps_yes, runOps_no, exec_draw, op_sub_i64, op_sub_neg, op_lss_neg, binF_str, str_add, str_neq, str_eql, takeF, resF, oneOf, pickF, extractF, cells_str, cells_int, cells_agg, bool_eql, bool_neq, op_lssI, bne_self_eq_false, beq_self_eq_true, eq_self, cells_slc, cells_func, builtin_append, ev_nilslice, ev_nilfunc, ev_nilptr, ev_nilmap, opF_makeFunc, opF_callv, callV_func, callV_yield, op_leq, op_gtr, op_geq, cast_le, cast_lt, List.nil_append, List.cons_append, List.append_nil, un_not]
        with_reducible rfl
      show W tb1 _ _ _
      rcases hlc with ⟨e, h1, h2, -⟩ | ⟨e, h1, h2, -⟩ | ⟨e, h1, -⟩ | ⟨e, h2, -⟩
      · rw [e] at q7 hbw
        rw [if_neg (by decide), if_neg (by decide)] at hbw
        have s1 : intOpF .sub .i64 (i : Int) ((1 : Nat) : Int) = .ok (.int .i64 ((i - 1 : Nat) : Int)) := op_sub_i64 (by omega) (by omega)
        have s2 : intOpF .sub .i64 (k : Int) ((1 : Nat) : Int) = .ok (.int .i64 ((k - 1 : Nat) : Int)) := op_sub_i64 (by omega) (by omega)
        have et : (61 : UInt8).toNat = 61 := rfl
        rw [et] at q7
        apply W.run 20
        · intro M
          simp (config := { maxSteps := 4000000 }) (disch := first | decide +kernel | (rw [wantF_guard]; simp only [wantD_some, dstAt_zero, dstAt_succ, T.get_set, T.get_e, Nat.reduceEqDiff, if_true, if_false, wantV_bool, wantV_unit, unitV, cond_true, cond_false, Bool.not_true, Bool.not_false, List.toList_toArray]) | omega) only [c24b1, c24, Try.f24, Nat.ble, cond_true, cond_false, T.puts_cons, T.puts_nil, exec_seq, exec_block, nat_beq_self, exec_region, exec_cond, exec_skip, exec_ret, exec_exit, exec_scope, runOps_cons, runOps_nil, opF_move, opF_assign, opF_ari, opF_neq, opF_eql, opF_un, opF_index, opF_indexAddr, opF_fieldAddr, opF_field, opF_build, opF_slice, opF_extract, opF_pick, opF_load, opF_alloc, opF_box, opF_buildSlice, opF_makeSlice, opF_store, opF_conv, opF_len, opF_minmax, opF_builtin, opF_call, resK, ev_tmp, evG_some, ev_int, ev_bool, ev_str, evs, evp, evo, R.ok_bind, putT_some, putT_none, T.get_set, T.get_e, binF_int, op_rem, op_quo_u32, op_xor_u32, op_neq, op_eql, op_lss, op_add_i64, op_sub_u32, op_and_u8, op_xor_u8, op_not_u32, binF_shr_u32, binF_shr_u8, op_mul_i64, op_quo_i64, op_and_u32, binF_shl_u8, wrapF_u8, wrapF_u32, mod_u8, mod_u32, cond_val, Nat.lt_irrefl, Nat.not_lt_zero, if_true, if_false, reduceIte, Nat.reduceEqDiff, Nat.reduceAdd, ne_eq, not_true_eq_false, not_false_eq_true, decide_true, decide_false, Bool.false_eq_true, Bool.not_true, Bool.not_false, sub_nil, sub_seq0, sub_seq1, sub_cond0, sub_cond1, sub_block, sub_loop, sub_scope, sub_range0, sub_range1, Option.getD_some, at_ptr, at_slc, runOps_yes, runOps_no, exec_draw, op_sub_i64, op_sub_neg, op_lss_neg, binF_str, str_add, str_neq, str_eql, takeF, resF, oneOf, pickF, extractF, cells_str, cells_int, cells_agg, bool_eql, bool_neq, op_lssI, bne_self_eq_false, beq_self_eq_true, eq_self, cells_slc, cells_func, builtin_append, ev_nilslice, ev_nilfunc, ev_nilptr, ev_nilmap, opF_makeFunc, opF_callv, callV_func, callV_yield, op_leq, op_gtr, op_geq, cast_le, cast_lt, List.nil_append, List.cons_append, List.append_nil, un_not, q5, q6, q7, s1, s2]
          with_reducible rfl
        refine ⟨_, _, _, by omega, rfl, i - 1, k - 1, lst ++ [61], n, by omega, by omega, rfl, by omega, by rw [List.length_append, List.length_singleton]; omega, by rw [List.append_assoc]; exact hbw, by rw [e] at hM'; exact hM', ?_⟩
        unfold yieldS; simp only [Sl_cons, Sl_nil, T.get_set, T.puts_cons, T.puts_nil, Nat.reduceEqDiff, Nat.reduceAdd, if_true, if_false, and_true, true_and, q0, q1, q2, q3]
      · rw [e] at q7 hbw
        rw [if_neg (by decide), if_neg (by decide)] at hbw
        have s1 : intOpF .sub .i64 (i : Int) ((1 : Nat) : Int) = .ok (.int .i64 ((i - 1 : Nat) : Int)) := op_sub_i64 (by omega) (by omega)
        have s2 : intOpF .sub .i64 (k : Int) ((1 : Nat) : Int) = .ok (.int .i64 ((k - 1 : Nat) : Int)) := op_sub_i64 (by omega) (by omega)
        have et : (120 : UInt8).toNat = 120 := rfl
        rw [et] at q7
        apply W.run 20
        · intro M
          simp (config := { maxSteps := 4000000 }) (disch := first | decide +kernel | (rw [wantF_guard]; simp only [wantD_some, dstAt_zero, dstAt_succ, T.get_set, T.get_e, Nat.reduceEqDiff, if_true, if_false, wantV_bool, wantV_unit, unitV, cond_true, cond_false, Bool.not_true, Bool.not_false, List.toList_toArray]) | omega) only [c24b1, c24, Try.f24, Nat.ble, cond_true, cond_false, T.puts_cons, T.puts_nil, exec_seq, exec_block, nat_beq_self, exec_region, exec_cond, exec_skip, exec_ret, exec_exit, exec_scope, runOps_cons, runOps_nil, opF_move, opF_assign, opF_ari, opF_neq, opF_eql, opF_un, opF_index, opF_indexAddr, opF_fieldAddr, opF_field, opF_build, opF_slice, opF_extract, opF_pick, opF_load, opF_alloc, opF_box, opF_buildSlice, opF_makeSlice, opF_store, opF_conv, opF_len, opF_minmax, opF_builtin, opF_call, resK, ev_tmp, evG_some, ev_int, ev_bool, ev_str, evs, evp, evo, R.ok_bind, putT_some, putT_none, T.get_set, T.get_e, binF_int, op_rem, op_quo_u32, op_xor_u32, op_neq, op_eql, op_lss, op_add_i64, op_sub_u32, op_and_u8, op_xor_u8, op_not_u32, binF_shr_u32, binF_shr_u8, op_mul_i64, op_quo_i64, op_and_u32, binF_shl_u8, wrapF_u8, wrapF_u32, mod_u8, mod_u32, cond_val, Nat.lt_irrefl, Nat.not_lt_zero, if_true, if_false, reduceIte, Nat.reduceEqDiff, Nat.reduceAdd, ne_eq, not_true_eq_false, not_false_eq_true, decide_true, decide_false, Bool.false_eq_true, Bool.not_true, Bool.not_false, sub_nil, sub_seq0, sub_seq1, sub_cond0, sub_cond1, sub_block, sub_loop, sub_scope, sub_range0, sub_range1, Option.getD_some, at_ptr, at_slc, runOps_yes, runOps_no, exec_draw, op_sub_i64, op_sub_neg, op_lss_neg, binF_str, str_add, str_neq, str_eql, takeF, resF, oneOf, pickF, extractF, cells_str, cells_int, cells_agg, bool_eql, bool_neq, op_lssI, bne_self_eq_false, beq_self_eq_true, eq_self, cells_slc, cells_func, builtin_append, ev_nilslice, ev_nilfunc, ev_nilptr, ev_nilmap, opF_makeFunc, opF_callv, callV_func, callV_yield, op_leq, op_gtr, op_geq, cast_le, cast_lt, List.nil_append, List.cons_append, List.append_nil, un_not, q5, q6, q7, s1, s2]
          with_reducible rfl
        refine ⟨_, _, _, by omega, rfl, i - 1, k - 1, lst ++ [120], n, by omega, by omega, rfl, by omega, by rw [List.length_append, List.length_singleton]; omega, by rw [List.append_assoc]; exact hbw, by rw [e] at hM'; exact hM', ?_⟩
        unfold yieldS; simp only [Sl_cons, Sl_nil, T.get_set, T.puts_cons, T.puts_nil, Nat.reduceEqDiff, Nat.reduceAdd, if_true, if_false, and_true, true_and, q0, q1, q2, q3]
      · rw [e] at q7 hbw
        rw [if_neg (by decide), if_pos rfl] at hbw
        have s1 : intOpF .sub .i64 (i : Int) ((1 : Nat) : Int) = .ok (.int .i64 ((i - 1 : Nat) : Int)) := op_sub_i64 (by omega) (by omega)
        have et : (45 : UInt8).toNat = 45 := rfl
        rw [et] at q7
        apply W.run 20
        · intro M
          simp (config := { maxSteps := 4000000 }) (disch := first | decide +kernel | (rw [wantF_guard]; simp only [wantD_some, dstAt_zero, dstAt_succ, T.get_set, T.get_e, Nat.reduceEqDiff, if_true, if_false, wantV_bool, wantV_unit, unitV, cond_true, cond_false, Bool.not_true, Bool.not_false, List.toList_toArray]) | omega) only [c24b1, c24, Try.f24, Nat.ble, cond_true, cond_false, T.puts_cons, T.puts_nil, exec_seq, exec_block, nat_beq_self, exec_region, exec_cond, exec_skip, exec_ret, exec_exit, exec_scope, runOps_cons, runOps_nil, opF_move, opF_assign, opF_ari, opF_neq, opF_eql, opF_un, opF_index, opF_indexAddr, opF_fieldAddr, opF_field, opF_build, opF_slice, opF_extract, opF_pick, opF_load, opF_alloc, opF_box, opF_buildSlice, opF_makeSlice, opF_store, opF_conv, opF_len, opF_minmax, opF_builtin, opF_call, resK, ev_tmp, evG_some, ev_int, ev_bool, ev_str, evs, evp, evo, R.ok_bind, putT_some, putT_none, T.get_set, T.get_e, binF_int, op_rem, op_quo_u32, op_xor_u32, op_neq, op_eql, op_lss, op_add_i64, op_sub_u32, op_and_u8, op_xor_u8, op_not_u32, binF_shr_u32, binF_shr_u8, op_mul_i64, op_quo_i64, op_and_u32, binF_shl_u8, wrapF_u8, wrapF_u32, mod_u8, mod_u32, cond_val, Nat.lt_irrefl, Nat.not_lt_zero, if_true, if_false, reduceIte, Nat.reduceEqDiff, Nat.reduceAdd, ne_eq, not_true_eq_false, not_false_eq_true, decide_true, decide_false, Bool.false_eq_true, Bool.not_true, Bool.not_false, sub_nil, sub_seq0, sub_seq1, sub_cond0, sub_cond1, sub_block, sub_loop, sub_scope, sub_range0, sub_range1, Option.getD_some, at_ptr, at_slc, runOps_yes, runOps_no, exec_draw, op_sub_i64, op_sub_neg, op_lss_neg, binF_str, str_add, str_neq, str_eql, takeF, resF, oneOf, pickF, extractF, cells_str, cells_int, cells_agg, bool_eql, bool_neq, op_lssI, bne_self_eq_false, beq_self_eq_true, eq_self, cells_slc, cells_func, builtin_append, ev_nilslice, ev_nilfunc, ev_nilptr, ev_nilmap, opF_makeFunc, opF_callv, callV_func, callV_yield, op_leq, op_gtr, op_geq, cast_le, cast_lt, List.nil_append, List.cons_append, List.append_nil, un_not, q5, q6, q7, s1]
          with_reducible rfl
        refine ⟨_, _, _, by omega, rfl, i - 1, k, lst ++ [45], n, by omega, by omega, rfl, by omega, by rw [List.length_append, List.length_singleton]; omega, by rw [List.append_assoc]; exact hbw, by rw [e] at hM'; exact hM', ?_⟩
        unfold yieldS; simp only [Sl_cons, Sl_nil, T.get_set, T.puts_cons, T.puts_nil, Nat.reduceEqDiff, Nat.reduceAdd, if_true, if_false, and_true, true_and, q0, q1, q2, q3, q6]
      · rw [e] at q7 hbw
        rw [if_pos rfl, if_neg (by decide)] at hbw
        have s2 : intOpF .sub .i64 (k : Int) ((1 : Nat) : Int) = .ok (.int .i64 ((k - 1 : Nat) : Int)) := op_sub_i64 (by omega) (by omega)
        have et : (43 : UInt8).toNat = 43 := rfl
        rw [et] at q7
        apply W.run 20
        · intro M
          simp (config := { maxSteps := 4000000 }) (disch := first | decide +kernel | (rw [wantF_guard]; simp only [wantD_some, dstAt_zero, dstAt_succ, T.get_set, T.get_e, Nat.reduceEqDiff, if_true, if_false, wantV_bool, wantV_unit, unitV, cond_true, cond_false, Bool.not_true, Bool.not_false, List.toList_toArray]) | omega) only [c24b1, c24, Try.f24, Nat.ble, cond_true, cond_false, T.puts_cons, T.puts_nil, exec_seq, exec_block, nat_beq_self, exec_region, exec_cond, exec_skip, exec_ret, exec_exit, exec_scope, runOps_cons, runOps_nil, opF_move, opF_assign, opF_ari, opF_neq, opF_eql, opF_un, opF_index, opF_indexAddr, opF_fieldAddr, opF_field, opF_build, opF_slice, opF_extract, opF_pick, opF_load, opF_alloc, opF_box, opF_buildSlice, opF_makeSlice, opF_store, opF_conv, opF_len, opF_minmax, opF_builtin, opF_call, resK, ev_tmp, evG_some, ev_int, ev_bool, ev_str, evs, evp, evo, R.ok_bind, putT_some, putT_none, T.get_set, T.get_e, binF_int, op_rem, op_quo_u32, op_xor_u32, op_neq, op_eql, op_lss, op_add_i64, op_sub_u32, op_and_u8, op_xor_u8, op_not_u32, binF_shr_u32, binF_shr_u8, op_mul_i64, op_quo_i64, op_and_u32, binF_shl_u8, wrapF_u8, wrapF_u32, mod_u8, mod_u32, cond_val, Nat.lt_irrefl, Nat.not_lt_zero, if_true, if_false, reduceIte, Nat.reduceEqDiff, Nat.reduceAdd, ne_eq, not_true_eq_false, not_false_eq_true, decide_true, decide_false, Bool.false_eq_true, Bool.not_true, Bool.not_false, sub_nil, sub_seq0, sub_seq1, sub_cond0, sub_cond1, sub_block, sub_loop, sub_scope, sub_range0, sub_range1, Option.getD_some, at_ptr, at_slc, runOps_yes, runOps_no, exec_draw, op_sub_i64, op_sub_neg, op_lss_neg, binF_str, str_add, str_neq, str_eql, takeF, resF, oneOf, pickF, extractF, cells_str, cells_int, cells_agg, bool_eql, bool_neq, op_lssI, bne_self_eq_false, beq_self_eq_true, eq_self, cells_slc, cells_func, builtin_append, ev_nilslice, ev_nilfunc, ev_nilptr, ev_nilmap, opF_makeFunc, opF_callv, callV_func, callV_yield, op_leq, op_gtr, op_geq, cast_le, cast_lt, List.nil_append, List.cons_append, List.append_nil, un_not, q5, q6, q7, s2]
          with_reducible rfl
        refine ⟨_, _, _, by omega, rfl, i, k - 1, lst ++ [43], n, by omega, by omega, rfl, by omega, by rw [List.length_append, List.length_singleton]; omega, by rw [List.append_assoc]; exact hbw, by rw [e] at hM'; exact hM', ?_⟩
        unfold yieldS; simp only [Sl_cons, Sl_nil, T.get_set, T.puts_cons, T.puts_nil, Nat.reduceEqDiff, Nat.reduceAdd, if_true, if_false, and_true, true_and, q0, q1, q2, q3, q5]
  · unfold yieldS; simp only [Sl_cons, Sl_nil, T.get_set, T.puts_cons, T.puts_nil, Nat.reduceEqDiff, Nat.reduceAdd, if_true, if_false, and_true, true_and]
end
end Go.Proofs.Ytekimgleakjonaa.dist

/-
  Dist: the program's script, whole; and the document's one.
-/
namespace Go.Proofs.Ytekimgleakjonaa.dist
open Go.Am Go.Dist
set_option linter.unusedSimpArgs false

theorem vero35 : zeroF tb1 35 = .ok (.slice none 0 0) := by kernel_rfl
theorem script_loop {a b : List UInt8} {bx lo b2 b3 b5 bt : Nat} {xt : Value} {xs : List Value} {B0 : Mem} {t : T Value} {K : Ex → St → Prop} (ha : a.length ≤ 400000) (hb : b.length ≤ 400000) (hB : Clo B0 a b lo b2 b3 b5 bt (b.length + 1) xt xs) (hlo : bx < lo) (hlo2 : lo ≤ B0.next) (hv : Vals B0 35 bx (.var 1) [.slice none 0 0])
    (g5 : t.get 5 = some (.pointer (some ⟨bx, 0, none⟩))) (g9 : t.get 9 = some (.func (.func 24) ⟨[]⟩ ⟨[.pointer (some ⟨b2, 0, none⟩), .pointer (some ⟨b3, 0, none⟩), .pointer (some ⟨b5, 0, none⟩)]⟩))
    (hK : ∀ C, C.get B0.next = some .defd → B0.next + 2 ≤ C.next → (∃ bs x, Slc C 5 bs (byts (bw a b (a.length + b.length) a.length b.length)) x ∧ Vals C 35 bx (.var 1) [x] ∧ B0.next + 2 ≤ bs) → K .nrm ⟨t, 19, [B0.next], C, none⟩) :
    W tb1 (.rangeFunc (.tmp 9) #[10] (sub c10 [1,1,0,1,0,0]) (sub c10 [1,1,0,1,0,1])) ⟨t, 19, [], B0, none⟩ K := by
  have hM : ScrM B0 bx t [] ((B0.alloc .defd).alloc (.loop (loop0 t 19 [10] (sub c10 [1,1,0,1,0,0]) (sub c10 [1,1,0,1,0,1]) B0.next))) := by
    have hn1 : (B0.alloc .defd).next = B0.next + 1 := next_alloc _ _
    refine ⟨by rw [next_alloc, hn1]; omega, by rw [get_alloc_ne (by omega), get_alloc_self], by rw [← hn1, get_alloc_self], ⟨B0.next + 2, .slice none 0 0, nil_slc _ _ _, hv.same (by rw [get_alloc_ne (by omega), get_alloc_ne (by omega)]), Nat.le_refl _⟩, by omega, fun y hy _ => by rw [get_alloc_ne (by omega), get_alloc_ne (by omega)]⟩
  obtain ⟨v, C', hc, hM'⟩ := run_yields ha hb g5 hB hlo hM
  have hf : ev t (.tmp 9) = .ok (.func (.func 24) ⟨[]⟩ ⟨[.pointer (some ⟨b2, 0, none⟩), .pointer (some ⟨b3, 0, none⟩), .pointer (some ⟨b5, 0, none⟩)]⟩) := by rw [ev_tmp, g9]; rfl
  refine W.rangeF hf hc hM'.hl (by intro h; cases h) rfl ?_
  refine hK _ ?_ ?_ ?_
  · rw [get_setMem, if_neg (by omega)]; exact hM'.hd
  · rw [next_set]; exact hM'.hn
  · obtain ⟨bs, x, h1, h2, h3⟩ := hM'.hx
    exact ⟨bs, x, h1.same (by rw [next_set]; omega) (fun _ => by rw [get_setMem, if_neg (by omega)]), h2.same (by rw [get_setMem, if_neg (by omega)]), h3⟩

set_option maxHeartbeats 2000000 in
theorem run_script (a b : List UInt8) (ha : a.length ≤ 400000) (hb : b.length ≤ 400000) : ∃ A', CallsTo tb1 10 [strOf a, strOf b] mem0 (strOf (scriptD a b)) A' := by
  obtain ⟨v, A', h1, h2⟩ : ∃ v A', CallsTo tb1 10 [strOf a, strOf b] mem0 v A' ∧ v = strOf (scriptD a b) := by
    refine call_of_W (fn_at Try.func10) c10_eq (by rw [Try.ntmps10]; simp) ?_
    apply W.seq
    apply W.run 20
    · intro M
      simp (config := { maxSteps := 4000000 }) (disch := first | decide +kernel | (rw [wantF_guard]; simp only [wantD_some, dstAt_zero, dstAt_succ, T.get_set, T.get_e, Nat.reduceEqDiff, if_true, if_false, wantV_bool, wantV_unit, unitV, cond_true, cond_false, Bool.not_true, Bool.not_false, List.toList_toArray]) | omega) only [c10, Try.f10, Nat.ble, cond_true, cond_false, T.puts_cons, T.puts_nil, exec_seq, exec_block, nat_beq_self, exec_region, exec_cond, exec_skip, exec_ret, exec_exit, exec_scope, runOps_cons, runOps_nil, opF_move, opF_assign, opF_ari, opF_neq, opF_eql, opF_un, opF_index, opF_indexAddr, opF_fieldAddr, opF_field, opF_build, opF_slice, opF_extract, opF_pick, opF_load, opF_alloc, opF_box, opF_buildSlice, opF_makeSlice, opF_store, opF_conv, opF_len, opF_minmax, opF_builtin, opF_call, resK, ev_tmp, evG_some, ev_int, ev_bool, ev_str, evs, evp, evo, R.ok_bind, putT_some, putT_none, T.get_set, T.get_e, binF_int, op_rem, op_quo_u32, op_xor_u32, op_neq, op_eql, op_lss, op_add_i64, op_sub_u32, op_and_u8, op_xor_u8, op_not_u32, binF_shr_u32, binF_shr_u8, op_mul_i64, op_quo_i64, op_and_u32, binF_shl_u8, wrapF_u8, wrapF_u32, mod_u8, mod_u32, cond_val, Nat.lt_irrefl, Nat.not_lt_zero, if_true, if_false, reduceIte, Nat.reduceEqDiff, Nat.reduceAdd, ne_eq, not_true_eq_false, not_false_eq_true, decide_true, decide_false, Bool.false_eq_true, Bool.not_true, Bool.not_false, sub_nil, sub_seq0, sub_seq1, sub_cond0, sub_cond1, sub_block, sub_loop, sub_scope, sub_range0, sub_range1, Option.getD_some, at_ptr, at_slc, runOps_yes, runOps_no, exec_draw, op_sub_i64, op_sub_neg, op_lss_neg, binF_str, str_add, str_neq, str_eql, takeF, resF, oneOf, pickF, extractF, cells_str, cells_int, cells_agg, bool_eql, bool_neq, op_lssI, bne_self_eq_false, beq_self_eq_true, eq_self, cells_slc, cells_func, builtin_append, ev_nilslice, ev_nilfunc, ev_nilptr, ev_nilmap, opF_makeFunc, opF_callv, callV_func, callV_yield, op_leq, op_gtr, op_geq, cast_le, cast_lt, List.nil_append, List.cons_append, List.append_nil, un_not]
      with_reducible rfl
    apply W.seq
    apply W.run 20
    · intro M
      simp (config := { maxSteps := 4000000 }) (disch := first | decide +kernel | (rw [wantF_guard]; simp only [wantD_some, dstAt_zero, dstAt_succ, T.get_set, T.get_e, Nat.reduceEqDiff, if_true, if_false, wantV_bool, wantV_unit, unitV, cond_true, cond_false, Bool.not_true, Bool.not_false, List.toList_toArray]) | omega) only [c10, Try.f10, Nat.ble, cond_true, cond_false, T.puts_cons, T.puts_nil, exec_seq, exec_block, nat_beq_self, exec_region, exec_cond, exec_skip, exec_ret, exec_exit, exec_scope, runOps_cons, runOps_nil, opF_move, opF_assign, opF_ari, opF_neq, opF_eql, opF_un, opF_index, opF_indexAddr, opF_fieldAddr, opF_field, opF_build, opF_slice, opF_extract, opF_pick, opF_load, opF_alloc, opF_box, opF_buildSlice, opF_makeSlice, opF_store, opF_conv, opF_len, opF_minmax, opF_builtin, opF_call, resK, ev_tmp, evG_some, ev_int, ev_bool, ev_str, evs, evp, evo, R.ok_bind, putT_some, putT_none, T.get_set, T.get_e, binF_int, op_rem, op_quo_u32, op_xor_u32, op_neq, op_eql, op_lss, op_add_i64, op_sub_u32, op_and_u8, op_xor_u8, op_not_u32, binF_shr_u32, binF_shr_u8, op_mul_i64, op_quo_i64, op_and_u32, binF_shl_u8, wrapF_u8, wrapF_u32, mod_u8, mod_u32, cond_val, Nat.lt_irrefl, Nat.not_lt_zero, if_true, if_false, reduceIte, Nat.reduceEqDiff, Nat.reduceAdd, ne_eq, not_true_eq_false, not_false_eq_true, decide_true, decide_false, Bool.false_eq_true, Bool.not_true, Bool.not_false, sub_nil, sub_seq0, sub_seq1, sub_cond0, sub_cond1, sub_block, sub_loop, sub_scope, sub_range0, sub_range1, Option.getD_some, at_ptr, at_slc, runOps_yes, runOps_no, exec_draw, op_sub_i64, op_sub_neg, op_lss_neg, binF_str, str_add, str_neq, str_eql, takeF, resF, oneOf, pickF, extractF, cells_str, cells_int, cells_agg, bool_eql, bool_neq, op_lssI, bne_self_eq_false, beq_self_eq_true, eq_self, cells_slc, cells_func, builtin_append, ev_nilslice, ev_nilfunc, ev_nilptr, ev_nilmap, opF_makeFunc, opF_callv, callV_func, callV_yield, op_leq, op_gtr, op_geq, cast_le, cast_lt, List.nil_append, List.cons_append, List.append_nil, un_not, vero35]
      with_reducible rfl
    have hv : Vals (mem0.alloc (rowOb 35 [.slice none 0 0])) 35 mem0.next (.var 1) [.slice none 0 0] := vals_box (get_alloc_self _ _)
    have hn : (mem0.alloc (rowOb 35 [.slice none 0 0])).next = mem0.next + 1 := next_alloc _ _
    revert hv hn
    generalize mem0.alloc (rowOb 35 [.slice none 0 0]) = A1
    generalize mem0.next = bx
    intro hv hn
    obtain ⟨v, B0, ⟨g, hg⟩, b2, b3, b5, bt, xt, xs, rfl, hB, hE⟩ := run_back a b (by omega) (by omega) A1
    apply W.seq
    apply W.seq
    apply W.runG (g) 20
    · intro M hM
      simp (config := { maxSteps := 4000000 }) (disch := first | decide +kernel | (rw [wantF_guard]; simp only [wantD_some, dstAt_zero, dstAt_succ, T.get_set, T.get_e, Nat.reduceEqDiff, if_true, if_false, wantV_bool, wantV_unit, unitV, cond_true, cond_false, Bool.not_true, Bool.not_false, List.toList_toArray]) | omega) only [c10, Try.f10, Nat.ble, cond_true, cond_false, T.puts_cons, T.puts_nil, exec_seq, exec_block, nat_beq_self, exec_region, exec_cond, exec_skip, exec_ret, exec_exit, exec_scope, runOps_cons, runOps_nil, opF_move, opF_assign, opF_ari, opF_neq, opF_eql, opF_un, opF_index, opF_indexAddr, opF_fieldAddr, opF_field, opF_build, opF_slice, opF_extract, opF_pick, opF_load, opF_alloc, opF_box, opF_buildSlice, opF_makeSlice, opF_store, opF_conv, opF_len, opF_minmax, opF_builtin, opF_call, resK, ev_tmp, evG_some, ev_int, ev_bool, ev_str, evs, evp, evo, R.ok_bind, putT_some, putT_none, T.get_set, T.get_e, binF_int, op_rem, op_quo_u32, op_xor_u32, op_neq, op_eql, op_lss, op_add_i64, op_sub_u32, op_and_u8, op_xor_u8, op_not_u32, binF_shr_u32, binF_shr_u8, op_mul_i64, op_quo_i64, op_and_u32, binF_shl_u8, wrapF_u8, wrapF_u32, mod_u8, mod_u32, cond_val, Nat.lt_irrefl, Nat.not_lt_zero, if_true, if_false, reduceIte, Nat.reduceEqDiff, Nat.reduceAdd, ne_eq, not_true_eq_false, not_false_eq_true, decide_true, decide_false, Bool.false_eq_true, Bool.not_true, Bool.not_false, sub_nil, sub_seq0, sub_seq1, sub_cond0, sub_cond1, sub_block, sub_loop, sub_scope, sub_range0, sub_range1, Option.getD_some, at_ptr, at_slc, runOps_yes, runOps_no, exec_draw, op_sub_i64, op_sub_neg, op_lss_neg, binF_str, str_add, str_neq, str_eql, takeF, resF, oneOf, pickF, extractF, cells_str, cells_int, cells_agg, bool_eql, bool_neq, op_lssI, bne_self_eq_false, beq_self_eq_true, eq_self, cells_slc, cells_func, builtin_append, ev_nilslice, ev_nilfunc, ev_nilptr, ev_nilmap, opF_makeFunc, opF_callv, callV_func, callV_yield, op_leq, op_gtr, op_geq, cast_le, cast_lt, List.nil_append, List.cons_append, List.append_nil, un_not, hg]
      with_reducible rfl
    apply W.block
    have hE1 := hE.1
    refine script_loop ha hb hB (by omega) hE1 (hv.same (hE.2 bx (by omega))) ?_ ?_ ?_
    · simp only [T.get_set, Nat.reduceEqDiff, if_true, if_false]
    · simp only [T.get_set, Nat.reduceEqDiff, if_true, if_false]
    rintro C hd hCn ⟨bs, x, hs, hvx, hbs⟩
    show W tb1 _ _ _
    have lx := load_box (tb := tb1) vnd35 rfl hvx
    obtain ⟨v2, C2, ⟨g2, hg2⟩, rfl, hs2, hn2, hf2⟩ := run_reverse (by have := bw_len a b (a.length + b.length) a.length b.length; omega) hs
    have hbn : bx < B0.next := by omega
    have lx2 := load_box (tb := tb1) vnd35 rfl (hvx.same (hf2 bx (by omega)))
    have hst := slc_str (tb := tb1) (s := 35) (d := 9) vnd35 vnd9 vnd5 hs2
    have hrv : (bw a b (a.length + b.length) a.length b.length).reverse = scriptD a b := rfl
    rw [hrv] at hst
    apply W.seq
    apply W.runG (g2) 20
    · intro M hM
      simp (config := { maxSteps := 4000000 }) (disch := first | decide +kernel | (rw [wantF_guard]; simp only [wantD_some, dstAt_zero, dstAt_succ, T.get_set, T.get_e, Nat.reduceEqDiff, if_true, if_false, wantV_bool, wantV_unit, unitV, cond_true, cond_false, Bool.not_true, Bool.not_false, List.toList_toArray]) | omega) only [c10, Try.f10, Nat.ble, cond_true, cond_false, T.puts_cons, T.puts_nil, exec_seq, exec_block, nat_beq_self, exec_region, exec_cond, exec_skip, exec_ret, exec_exit, exec_scope, runOps_cons, runOps_nil, opF_move, opF_assign, opF_ari, opF_neq, opF_eql, opF_un, opF_index, opF_indexAddr, opF_fieldAddr, opF_field, opF_build, opF_slice, opF_extract, opF_pick, opF_load, opF_alloc, opF_box, opF_buildSlice, opF_makeSlice, opF_store, opF_conv, opF_len, opF_minmax, opF_builtin, opF_call, resK, ev_tmp, evG_some, ev_int, ev_bool, ev_str, evs, evp, evo, R.ok_bind, putT_some, putT_none, T.get_set, T.get_e, binF_int, op_rem, op_quo_u32, op_xor_u32, op_neq, op_eql, op_lss, op_add_i64, op_sub_u32, op_and_u8, op_xor_u8, op_not_u32, binF_shr_u32, binF_shr_u8, op_mul_i64, op_quo_i64, op_and_u32, binF_shl_u8, wrapF_u8, wrapF_u32, mod_u8, mod_u32, cond_val, Nat.lt_irrefl, Nat.not_lt_zero, if_true, if_false, reduceIte, Nat.reduceEqDiff, Nat.reduceAdd, ne_eq, not_true_eq_false, not_false_eq_true, decide_true, decide_false, Bool.false_eq_true, Bool.not_true, Bool.not_false, sub_nil, sub_seq0, sub_seq1, sub_cond0, sub_cond1, sub_block, sub_loop, sub_scope, sub_range0, sub_range1, Option.getD_some, at_ptr, at_slc, runOps_yes, runOps_no, exec_draw, op_sub_i64, op_sub_neg, op_lss_neg, binF_str, str_add, str_neq, str_eql, takeF, resF, oneOf, pickF, extractF, cells_str, cells_int, cells_agg, bool_eql, bool_neq, op_lssI, bne_self_eq_false, beq_self_eq_true, eq_self, cells_slc, cells_func, builtin_append, ev_nilslice, ev_nilfunc, ev_nilptr, ev_nilmap, opF_makeFunc, opF_callv, callV_func, callV_yield, op_leq, op_gtr, op_geq, cast_le, cast_lt, List.nil_append, List.cons_append, List.append_nil, un_not, lx, hg2]
      with_reducible rfl
    show W tb1 _ _ _
    apply W.seq
    apply W.run 20
    · intro M
      simp (config := { maxSteps := 4000000 }) (disch := first | decide +kernel | (rw [wantF_guard]; simp only [wantD_some, dstAt_zero, dstAt_succ, T.get_set, T.get_e, Nat.reduceEqDiff, if_true, if_false, wantV_bool, wantV_unit, unitV, cond_true, cond_false, Bool.not_true, Bool.not_false, List.toList_toArray]) | omega) only [c10, Try.f10, Nat.ble, cond_true, cond_false, T.puts_cons, T.puts_nil, exec_seq, exec_block, nat_beq_self, exec_region, exec_cond, exec_skip, exec_ret, exec_exit, exec_scope, runOps_cons, runOps_nil, opF_move, opF_assign, opF_ari, opF_neq, opF_eql, opF_un, opF_index, opF_indexAddr, opF_fieldAddr, opF_field, opF_build, opF_slice, opF_extract, opF_pick, opF_load, opF_alloc, opF_box, opF_buildSlice, opF_makeSlice, opF_store, opF_conv, opF_len, opF_minmax, opF_builtin, opF_call, resK, ev_tmp, evG_some, ev_int, ev_bool, ev_str, evs, evp, evo, R.ok_bind, putT_some, putT_none, T.get_set, T.get_e, binF_int, op_rem, op_quo_u32, op_xor_u32, op_neq, op_eql, op_lss, op_add_i64, op_sub_u32, op_and_u8, op_xor_u8, op_not_u32, binF_shr_u32, binF_shr_u8, op_mul_i64, op_quo_i64, op_and_u32, binF_shl_u8, wrapF_u8, wrapF_u32, mod_u8, mod_u32, cond_val, Nat.lt_irrefl, Nat.not_lt_zero, if_true, if_false, reduceIte, Nat.reduceEqDiff, Nat.reduceAdd, ne_eq, not_true_eq_false, not_false_eq_true, decide_true, decide_false, Bool.false_eq_true, Bool.not_true, Bool.not_false, sub_nil, sub_seq0, sub_seq1, sub_cond0, sub_cond1, sub_block, sub_loop, sub_scope, sub_range0, sub_range1, Option.getD_some, at_ptr, at_slc, runOps_yes, runOps_no, exec_draw, op_sub_i64, op_sub_neg, op_lss_neg, binF_str, str_add, str_neq, str_eql, takeF, resF, oneOf, pickF, extractF, cells_str, cells_int, cells_agg, bool_eql, bool_neq, op_lssI, bne_self_eq_false, beq_self_eq_true, eq_self, cells_slc, cells_func, builtin_append, ev_nilslice, ev_nilfunc, ev_nilptr, ev_nilmap, opF_makeFunc, opF_callv, callV_func, callV_yield, op_leq, op_gtr, op_geq, cast_le, cast_lt, List.nil_append, List.cons_append, List.append_nil, un_not, lx2, opF_convStr _ _ _ _ _ _ _ _ _ _ vnd35 vnd9, hst]
      with_reducible rfl
    apply W.run 20
    · intro M
      simp (config := { maxSteps := 4000000 }) (disch := first | decide +kernel | (rw [wantF_guard]; simp only [wantD_some, dstAt_zero, dstAt_succ, T.get_set, T.get_e, Nat.reduceEqDiff, if_true, if_false, wantV_bool, wantV_unit, unitV, cond_true, cond_false, Bool.not_true, Bool.not_false, List.toList_toArray]) | omega) only [c10, Try.f10, Nat.ble, cond_true, cond_false, T.puts_cons, T.puts_nil, exec_seq, exec_block, nat_beq_self, exec_region, exec_cond, exec_skip, exec_ret, exec_exit, exec_scope, runOps_cons, runOps_nil, opF_move, opF_assign, opF_ari, opF_neq, opF_eql, opF_un, opF_index, opF_indexAddr, opF_fieldAddr, opF_field, opF_build, opF_slice, opF_extract, opF_pick, opF_load, opF_alloc, opF_box, opF_buildSlice, opF_makeSlice, opF_store, opF_conv, opF_len, opF_minmax, opF_builtin, opF_call, resK, ev_tmp, evG_some, ev_int, ev_bool, ev_str, evs, evp, evo, R.ok_bind, putT_some, putT_none, T.get_set, T.get_e, binF_int, op_rem, op_quo_u32, op_xor_u32, op_neq, op_eql, op_lss, op_add_i64, op_sub_u32, op_and_u8, op_xor_u8, op_not_u32, binF_shr_u32, binF_shr_u8, op_mul_i64, op_quo_i64, op_and_u32, binF_shl_u8, wrapF_u8, wrapF_u32, mod_u8, mod_u32, cond_val, Nat.lt_irrefl, Nat.not_lt_zero, if_true, if_false, reduceIte, Nat.reduceEqDiff, Nat.reduceAdd, ne_eq, not_true_eq_false, not_false_eq_true, decide_true, decide_false, Bool.false_eq_true, Bool.not_true, Bool.not_false, sub_nil, sub_seq0, sub_seq1, sub_cond0, sub_cond1, sub_block, sub_loop, sub_scope, sub_range0, sub_range1, Option.getD_some, at_ptr, at_slc, runOps_yes, runOps_no, exec_draw, op_sub_i64, op_sub_neg, op_lss_neg, binF_str, str_add, str_neq, str_eql, takeF, resF, oneOf, pickF, extractF, cells_str, cells_int, cells_agg, bool_eql, bool_neq, op_lssI, bne_self_eq_false, beq_self_eq_true, eq_self, cells_slc, cells_func, builtin_append, ev_nilslice, ev_nilfunc, ev_nilptr, ev_nilmap, opF_makeFunc, opF_callv, callV_func, callV_yield, op_leq, op_gtr, op_geq, cast_le, cast_lt, List.nil_append, List.cons_append, List.append_nil, un_not]
      with_reducible rfl
    refine ⟨.inr rfl, C2.set B0.next .dead, [strOf (scriptD a b)], ?_, ?_, rfl⟩
    · show takeF [B0.next] C2 = _
      unfold takeF
      rw [hf2 _ (by omega), hd]
      rfl
    · simp only [Try.f10, resF, ev_tmp, T.get_set, Nat.reduceEqDiff, if_true, if_false, evG_some, R.ok_bind]
  subst h2
  exact ⟨A', h1⟩

/-! ### The document's script -/
noncomputable def c11 : Code := Try.f11.body.getD .skip
noncomputable def c11b1 : Code := sub c11 [1,1,1,1,0,0,0]
theorem c11_eq : Try.f11.body = some (.seq (sub c11 [0]) (.seq (sub c11 [1,0]) (.seq (sub c11 [1,1,0]) (.seq (sub c11 [1,1,1,0]) (.seq (.block 0 (.loop c11b1)) (.seq (sub c11 [1,1,1,1,1,0]) (sub c11 [1,1,1,1,1,1]))))))) := by kernel_rfl
/-- The slots of a round. -/
def refS (a b : List UInt8) (xt : Value) (i k : Nat) (l : List UInt8) : List (Nat × Value) :=
  [(0, strOf a), (1, strOf b), (5, xt), (6, .int .i64 (i : Int)), (7, .int .i64 (k : Int)), (8, strOf l)]
section
variable {a b : List UInt8} {i k bt : Nat} {xt : Value} {xs : List Value} {C : Mem} {t : T Value} {l : List UInt8}
theorem tab_load {j m : Nat} {x : Value} {bi : Nat} (h : Slc C 3 bi (ints (tabRow a b j)) x) (hm : m ≤ b.length) : loadF tb0 C.get 3 (.pointer (some ⟨bi, m, none⟩)) = .ok (.int .i64 ((D a b j m : Nat) : Int)) := by
  have hld := h.load (tb := tb0) (t := 3) (o := m) und3 rfl (ints_get (getD_some (by rw [tabRow_len]; omega)))
  rw [tabRow_get hm] at hld
  exact hld
def nI (c : UInt8) (i : Nat) : Nat := if c = 43 then i else i - 1
def nK (c : UInt8) (k : Nat) : Nat := if c = 45 then k else k - 1
set_option maxHeartbeats 8000000 in
set_option maxRecDepth 20000 in
theorem ref_step {K : Ex → St → Prop} (ha : a.length ≤ 400000) (hb : b.length ≤ 400000) (hi : i ≤ a.length) (hk : k ≤ b.length) (h0 : ¬ (i = 0 ∧ k = 0)) (hl : l.length ≤ 1000000) (hs : Slc C 27 bt xs xt) (hT : Tbl C a b bt (a.length + 1) xs) (hp : Sl t (refS a b xt i k l))
    (hK : ∀ t' : T Value, Sl t' (refS a b xt (nI (letter a b i k) i) (nK (letter a b i k) k) (letter a b i k :: l)) → K .nrm ⟨t', 110, [], C, none⟩) : W tb0 c11b1 ⟨t, 110, [], C, none⟩ K := by
  obtain ⟨g0, g1, g5, g6, g7, g8, -⟩ := hp
  obtain ⟨x, bi, hx, hsx, -, -⟩ := hT.2 i (by omega)
  have hix := hs.idx (tb := tb0) (t := 42) (t' := 27) (kd := .i64) (i := i) und42 size27 (by rw [hT.1]; omega)
  have hld := hs.load (tb := tb0) (t := 27) (o := i) und27 rfl hx
  have r1 := hsx.idx (tb := tb0) (t := 27) (t' := 3) (kd := .i64) (i := k) und27 size3 (by rw [ints_len, tabRow_len]; omega)
  have q1 := tab_load hsx hk
  have z1 : ([61] : List UInt8).length = 1 := rfl
  have z2 : ([120] : List UInt8).length = 1 := rfl
  have z3 : ([45] : List UInt8).length = 1 := rfl
  have z4 : ([43] : List UInt8).length = 1 := rfl
  have dk : ∀ i' k', D a b i' k' ≤ 800000 := fun i' k' => by
    have h := dist_max (a.take i') (b.take k')
    rw [List.length_take, List.length_take] at h
    unfold D; omega
  by_cases hi0 : i = 0
  · have hle : letter a b i k = 43 := by unfold letter; rw [if_neg (by omega), if_neg (by omega), if_neg (by omega)]
    rw [hle] at hK
    have e1 : nI 43 i = i := rfl
    have e2 : nK 43 k = k - 1 := rfl
    rw [e1, e2] at hK
    have n0 : ¬ 0 < i := by omega
    have p1 : 0 < k := by omega
    have s2 : intOpF .sub .i64 (k : Int) ((1 : Nat) : Int) = .ok (.int .i64 ((k - 1 : Nat) : Int)) := op_sub_i64 (by omega) (by omega)
    apply W.run 20
    · intro M
      simp (config := { maxSteps := 4000000 }) (disch := first | decide +kernel | (rw [wantF_guard]; simp only [wantD_some, dstAt_zero, dstAt_succ, T.get_set, T.get_e, Nat.reduceEqDiff, if_true, if_false, wantV_bool, wantV_unit, unitV, cond_true, cond_false, Bool.not_true, Bool.not_false, List.toList_toArray]) | omega) only [c11b1, c11, Try.f11, Nat.ble, cond_true, cond_false, T.puts_cons, T.puts_nil, exec_seq, exec_block, nat_beq_self, exec_region, exec_cond, exec_skip, exec_ret, exec_exit, exec_scope, runOps_cons, runOps_nil, opF_move, opF_assign, opF_ari, opF_neq, opF_eql, opF_un, opF_index, opF_indexAddr, opF_fieldAddr, opF_field, opF_build, opF_slice, opF_extract, opF_pick, opF_load, opF_alloc, opF_box, opF_buildSlice, opF_makeSlice, opF_store, opF_conv, opF_len, opF_minmax, opF_builtin, opF_call, resK, ev_tmp, evG_some, ev_int, ev_bool, ev_str, evs, evp, evo, R.ok_bind, putT_some, putT_none, T.get_set, T.get_e, binF_int, op_rem, op_quo_u32, op_xor_u32, op_neq, op_eql, op_lss, op_add_i64, op_sub_u32, op_and_u8, op_xor_u8, op_not_u32, binF_shr_u32, binF_shr_u8, op_mul_i64, op_quo_i64, op_and_u32, binF_shl_u8, wrapF_u8, wrapF_u32, mod_u8, mod_u32, cond_val, Nat.lt_irrefl, Nat.not_lt_zero, if_true, if_false, reduceIte, Nat.reduceEqDiff, Nat.reduceAdd, ne_eq, not_true_eq_false, not_false_eq_true, decide_true, decide_false, Bool.false_eq_true, Bool.not_true, Bool.not_false, sub_nil, sub_seq0, sub_seq1, sub_cond0, sub_cond1, sub_block, sub_loop, sub_scope, sub_range0, sub_range1, Option.getD_some, at_ptr, at_slc, runOps_yes, runOps_no, exec_draw, op_sub_i64, op_sub_neg, op_lss_neg, binF_str, str_add, str_neq, str_eql, takeF, resF, oneOf, pickF, extractF, cells_str, cells_int, cells_agg, bool_eql, bool_neq, op_lssI, bne_self_eq_false, beq_self_eq_true, eq_self, cells_slc, cells_func, builtin_append, ev_nilslice, ev_nilfunc, ev_nilptr, ev_nilmap, opF_makeFunc, opF_callv, callV_func, callV_yield, op_leq, op_gtr, op_geq, cast_le, cast_lt, List.nil_append, List.cons_append, List.append_nil, un_not, g6, g7, g8, n0, p1, s2, List.toList_toArray]
      with_reducible rfl
    apply hK
    unfold refS; simp only [Sl_cons, Sl_nil, T.get_set, T.puts_cons, T.puts_nil, Nat.reduceEqDiff, Nat.reduceAdd, if_true, if_false, and_true, true_and, g0, g1, g5, g6]
  · have p0 : 0 < i := by omega
    have s1 : intOpF .sub .i64 (i : Int) ((1 : Nat) : Int) = .ok (.int .i64 ((i - 1 : Nat) : Int)) := op_sub_i64 (by omega) (by omega)
    obtain ⟨y, by_, hy, hsy, -, -⟩ := hT.2 (i - 1) (by omega)
    have hix2 := hs.idx (tb := tb0) (t := 42) (t' := 27) (kd := .i64) (i := i - 1) und42 size27 (by rw [hT.1]; omega)
    have hld2 := hs.load (tb := tb0) (t := 27) (o := i - 1) und27 rfl hy
    have r2 := hsy.idx (tb := tb0) (t := 27) (t' := 3) (kd := .i64) (i := k) und27 size3 (by rw [ints_len, tabRow_len]; omega)
    have q2 := tab_load hsy hk
    have d1 := dk (i - 1) k
    have d2 := dk (i - 1) (k - 1)
    by_cases hk0 : k = 0
    · subst hk0
      have e1 : D a b i 0 = D a b (i - 1) 0 + 1 := by rw [D_zero' a b hi, D_zero' a b (by omega)]; omega
      have hle : letter a b i 0 = 45 := by unfold letter; rw [if_neg (by omega), if_neg (by omega), if_pos ⟨p0, e1⟩]
      rw [hle] at hK
      have e3 : nI 45 i = i - 1 := rfl
      have e4 : nK 45 0 = 0 := rfl
      rw [e3, e4] at hK
      have n0 : ¬ 0 < 0 := by omega
      rw [e1] at q1
      clear dk
      apply W.run 20
      · intro M
        simp (config := { maxSteps := 4000000 }) (disch := first | decide +kernel | (rw [wantF_guard]; simp only [wantD_some, dstAt_zero, dstAt_succ, T.get_set, T.get_e, Nat.reduceEqDiff, if_true, if_false, wantV_bool, wantV_unit, unitV, cond_true, cond_false, Bool.not_true, Bool.not_false, List.toList_toArray]) | omega) only [c11b1, c11, Try.f11, Nat.ble, cond_true, cond_false, T.puts_cons, T.puts_nil, exec_seq, exec_block, nat_beq_self, exec_region, exec_cond, exec_skip, exec_ret, exec_exit, exec_scope, runOps_cons, runOps_nil, opF_move, opF_assign, opF_ari, opF_neq, opF_eql, opF_un, opF_index, opF_indexAddr, opF_fieldAddr, opF_field, opF_build, opF_slice, opF_extract, opF_pick, opF_load, opF_alloc, opF_box, opF_buildSlice, opF_makeSlice, opF_store, opF_conv, opF_len, opF_minmax, opF_builtin, opF_call, resK, ev_tmp, evG_some, ev_int, ev_bool, ev_str, evs, evp, evo, R.ok_bind, putT_some, putT_none, T.get_set, T.get_e, binF_int, op_rem, op_quo_u32, op_xor_u32, op_neq, op_eql, op_lss, op_add_i64, op_sub_u32, op_and_u8, op_xor_u8, op_not_u32, binF_shr_u32, binF_shr_u8, op_mul_i64, op_quo_i64, op_and_u32, binF_shl_u8, wrapF_u8, wrapF_u32, mod_u8, mod_u32, cond_val, Nat.lt_irrefl, Nat.not_lt_zero, if_true, if_false, reduceIte, Nat.reduceEqDiff, Nat.reduceAdd, ne_eq, not_true_eq_false, not_false_eq_true, decide_true, decide_false, Bool.false_eq_true, Bool.not_true, Bool.not_false, sub_nil, sub_seq0, sub_seq1, sub_cond0, sub_cond1, sub_block, sub_loop, sub_scope, sub_range0, sub_range1, Option.getD_some, at_ptr, at_slc, runOps_yes, runOps_no, exec_draw, op_sub_i64, op_sub_neg, op_lss_neg, binF_str, str_add, str_neq, str_eql, takeF, resF, oneOf, pickF, extractF, cells_str, cells_int, cells_agg, bool_eql, bool_neq, op_lssI, bne_self_eq_false, beq_self_eq_true, eq_self, cells_slc, cells_func, builtin_append, ev_nilslice, ev_nilfunc, ev_nilptr, ev_nilmap, opF_makeFunc, opF_callv, callV_func, callV_yield, op_leq, op_gtr, op_geq, cast_le, cast_lt, List.nil_append, List.cons_append, List.append_nil, un_not, g5, g6, g7, g8, p0, n0, s1, hix, hld, r1, q1, hix2, hld2, r2, q2, List.toList_toArray]
        with_reducible rfl
      apply hK
      unfold refS; simp only [Sl_cons, Sl_nil, T.get_set, T.puts_cons, T.puts_nil, Nat.reduceEqDiff, Nat.reduceAdd, if_true, if_false, and_true, true_and, g0, g1, g5, g7]
    · have p1 : 0 < k := by omega
      have s2 : intOpF .sub .i64 (k : Int) ((1 : Nat) : Int) = .ok (.int .i64 ((k - 1 : Nat) : Int)) := op_sub_i64 (by omega) (by omega)
      have la1 : i - 1 < a.length := by omega
      have lb1 : k - 1 < b.length := by omega
      by_cases he : (a.getD (i - 1) 0).toNat = (b.getD (k - 1) 0).toNat
      · have hle : letter a b i k = 61 := by unfold letter; rw [if_pos ⟨p0, p1, UInt8.toNat_inj.1 he⟩]
        rw [hle] at hK
        have e1 : nI 61 i = i - 1 := rfl
        have e2 : nK 61 k = k - 1 := rfl
        rw [e1, e2] at hK
        clear dk
        apply W.run 20
        · intro M
          simp (config := { maxSteps := 4000000 }) (disch := first | decide +kernel | (rw [wantF_guard]; simp only [wantD_some, dstAt_zero, dstAt_succ, T.get_set, T.get_e, Nat.reduceEqDiff, if_true, if_false, wantV_bool, wantV_unit, unitV, cond_true, cond_false, Bool.not_true, Bool.not_false, List.toList_toArray]) | omega) only [c11b1, c11, Try.f11, Nat.ble, cond_true, cond_false, T.puts_cons, T.puts_nil, exec_seq, exec_block, nat_beq_self, exec_region, exec_cond, exec_skip, exec_ret, exec_exit, exec_scope, runOps_cons, runOps_nil, opF_move, opF_assign, opF_ari, opF_neq, opF_eql, opF_un, opF_index, opF_indexAddr, opF_fieldAddr, opF_field, opF_build, opF_slice, opF_extract, opF_pick, opF_load, opF_alloc, opF_box, opF_buildSlice, opF_makeSlice, opF_store, opF_conv, opF_len, opF_minmax, opF_builtin, opF_call, resK, ev_tmp, evG_some, ev_int, ev_bool, ev_str, evs, evp, evo, R.ok_bind, putT_some, putT_none, T.get_set, T.get_e, binF_int, op_rem, op_quo_u32, op_xor_u32, op_neq, op_eql, op_lss, op_add_i64, op_sub_u32, op_and_u8, op_xor_u8, op_not_u32, binF_shr_u32, binF_shr_u8, op_mul_i64, op_quo_i64, op_and_u32, binF_shl_u8, wrapF_u8, wrapF_u32, mod_u8, mod_u32, cond_val, Nat.lt_irrefl, Nat.not_lt_zero, if_true, if_false, reduceIte, Nat.reduceEqDiff, Nat.reduceAdd, ne_eq, not_true_eq_false, not_false_eq_true, decide_true, decide_false, Bool.false_eq_true, Bool.not_true, Bool.not_false, sub_nil, sub_seq0, sub_seq1, sub_cond0, sub_cond1, sub_block, sub_loop, sub_scope, sub_range0, sub_range1, Option.getD_some, at_ptr, at_slc, runOps_yes, runOps_no, exec_draw, op_sub_i64, op_sub_neg, op_lss_neg, binF_str, str_add, str_neq, str_eql, takeF, resF, oneOf, pickF, extractF, cells_str, cells_int, cells_agg, bool_eql, bool_neq, op_lssI, bne_self_eq_false, beq_self_eq_true, eq_self, cells_slc, cells_func, builtin_append, ev_nilslice, ev_nilfunc, ev_nilptr, ev_nilmap, opF_makeFunc, opF_callv, callV_func, callV_yield, op_leq, op_gtr, op_geq, cast_le, cast_lt, List.nil_append, List.cons_append, List.append_nil, un_not, g0, g1, g6, g7, g8, p0, p1, s1, s2, index_str und9, la1, lb1, he, List.toList_toArray]
          with_reducible rfl
        apply hK
        unfold refS; simp only [Sl_cons, Sl_nil, T.get_set, T.puts_cons, T.puts_nil, Nat.reduceEqDiff, Nat.reduceAdd, if_true, if_false, and_true, true_and, g0, g1, g5]
      · have he2 : ¬ a.getD (i - 1) 0 = b.getD (k - 1) 0 := fun e => he (by rw [e])
        have r3 := hsy.idx (tb := tb0) (t := 27) (t' := 3) (kd := .i64) (i := k - 1) und27 size3 (by rw [ints_len, tabRow_len]; omega)
        have q3 := tab_load hsy (m := k - 1) (by omega)
        by_cases h2 : D a b i k = D a b (i - 1) (k - 1) + 1
        · have hle : letter a b i k = 120 := by unfold letter; rw [if_neg (fun h => he2 h.2.2), if_pos ⟨p0, p1, h2⟩]
          rw [hle] at hK
          have e1 : nI 120 i = i - 1 := rfl
          have e2 : nK 120 k = k - 1 := rfl
          rw [e1, e2] at hK
          rw [h2] at q1
          clear dk
          apply W.run 20
          · intro M
            simp (config := { maxSteps := 4000000 }) (disch := first | decide +kernel | (rw [wantF_guard]; simp only [wantD_some, dstAt_zero, dstAt_succ, T.get_set, T.get_e, Nat.reduceEqDiff, if_true, if_false, wantV_bool, wantV_unit, unitV, cond_true, cond_false, Bool.not_true, Bool.not_false, List.toList_toArray]) | omega) only [c11b1, c11, Try.f11, Nat.ble, cond_true, cond_false, T.puts_cons, T.puts_nil, exec_seq, exec_block, nat_beq_self, exec_region, exec_cond, exec_skip, exec_ret, exec_exit, exec_scope, runOps_cons, runOps_nil, opF_move, opF_assign, opF_ari, opF_neq, opF_eql, opF_un, opF_index, opF_indexAddr, opF_fieldAddr, opF_field, opF_build, opF_slice, opF_extract, opF_pick, opF_load, opF_alloc, opF_box, opF_buildSlice, opF_makeSlice, opF_store, opF_conv, opF_len, opF_minmax, opF_builtin, opF_call, resK, ev_tmp, evG_some, ev_int, ev_bool, ev_str, evs, evp, evo, R.ok_bind, putT_some, putT_none, T.get_set, T.get_e, binF_int, op_rem, op_quo_u32, op_xor_u32, op_neq, op_eql, op_lss, op_add_i64, op_sub_u32, op_and_u8, op_xor_u8, op_not_u32, binF_shr_u32, binF_shr_u8, op_mul_i64, op_quo_i64, op_and_u32, binF_shl_u8, wrapF_u8, wrapF_u32, mod_u8, mod_u32, cond_val, Nat.lt_irrefl, Nat.not_lt_zero, if_true, if_false, reduceIte, Nat.reduceEqDiff, Nat.reduceAdd, ne_eq, not_true_eq_false, not_false_eq_true, decide_true, decide_false, Bool.false_eq_true, Bool.not_true, Bool.not_false, sub_nil, sub_seq0, sub_seq1, sub_cond0, sub_cond1, sub_block, sub_loop, sub_scope, sub_range0, sub_range1, Option.getD_some, at_ptr, at_slc, runOps_yes, runOps_no, exec_draw, op_sub_i64, op_sub_neg, op_lss_neg, binF_str, str_add, str_neq, str_eql, takeF, resF, oneOf, pickF, extractF, cells_str, cells_int, cells_agg, bool_eql, bool_neq, op_lssI, bne_self_eq_false, beq_self_eq_true, eq_self, cells_slc, cells_func, builtin_append, ev_nilslice, ev_nilfunc, ev_nilptr, ev_nilmap, opF_makeFunc, opF_callv, callV_func, callV_yield, op_leq, op_gtr, op_geq, cast_le, cast_lt, List.nil_append, List.cons_append, List.append_nil, un_not, g0, g1, g5, g6, g7, g8, p0, p1, s1, s2, index_str und9, la1, lb1, he, hix, hld, r1, q1, hix2, hld2, r3, q3, List.toList_toArray]
            with_reducible rfl
          apply hK
          unfold refS; simp only [Sl_cons, Sl_nil, T.get_set, T.puts_cons, T.puts_nil, Nat.reduceEqDiff, Nat.reduceAdd, if_true, if_false, and_true, true_and, g0, g1, g5]
        · by_cases h3 : D a b i k = D a b (i - 1) k + 1
          · have hle : letter a b i k = 45 := by unfold letter; rw [if_neg (fun h => he2 h.2.2), if_neg (fun h => h2 h.2.2), if_pos ⟨p0, h3⟩]
            rw [hle] at hK
            have e1 : nI 45 i = i - 1 := rfl
            have e2 : nK 45 k = k := rfl
            rw [e1, e2] at hK
            have h2' : ¬ D a b (i - 1) k + 1 = D a b (i - 1) (k - 1) + 1 := by rw [← h3]; exact h2
            rw [h3] at q1
            clear dk
            apply W.run 20
            · intro M
              simp (config := { maxSteps := 4000000 }) (disch := first | decide +kernel | (rw [wantF_guard]; simp only [wantD_some, dstAt_zero, dstAt_succ, T.get_set, T.get_e, Nat.reduceEqDiff, if_true, if_false, wantV_bool, wantV_unit, unitV, cond_true, cond_false, Bool.not_true, Bool.not_false, List.toList_toArray]) | omega) only [c11b1, c11, Try.f11, Nat.ble, cond_true, cond_false, T.puts_cons, T.puts_nil, exec_seq, exec_block, nat_beq_self, exec_region, exec_cond, exec_skip, exec_ret, exec_exit, exec_scope, runOps_cons, runOps_nil, opF_move, opF_assign, opF_ari, opF_neq, opF_eql, opF_un, opF_index, opF_indexAddr, opF_fieldAddr, opF_field, opF_build, opF_slice, opF_extract, opF_pick, opF_load, opF_alloc, opF_box, opF_buildSlice, opF_makeSlice, opF_store, opF_conv, opF_len, opF_minmax, opF_builtin, opF_call, resK, ev_tmp, evG_some, ev_int, ev_bool, ev_str, evs, evp, evo, R.ok_bind, putT_some, putT_none, T.get_set, T.get_e, binF_int, op_rem, op_quo_u32, op_xor_u32, op_neq, op_eql, op_lss, op_add_i64, op_sub_u32, op_and_u8, op_xor_u8, op_not_u32, binF_shr_u32, binF_shr_u8, op_mul_i64, op_quo_i64, op_and_u32, binF_shl_u8, wrapF_u8, wrapF_u32, mod_u8, mod_u32, cond_val, Nat.lt_irrefl, Nat.not_lt_zero, if_true, if_false, reduceIte, Nat.reduceEqDiff, Nat.reduceAdd, ne_eq, not_true_eq_false, not_false_eq_true, decide_true, decide_false, Bool.false_eq_true, Bool.not_true, Bool.not_false, sub_nil, sub_seq0, sub_seq1, sub_cond0, sub_cond1, sub_block, sub_loop, sub_scope, sub_range0, sub_range1, Option.getD_some, at_ptr, at_slc, runOps_yes, runOps_no, exec_draw, op_sub_i64, op_sub_neg, op_lss_neg, binF_str, str_add, str_neq, str_eql, takeF, resF, oneOf, pickF, extractF, cells_str, cells_int, cells_agg, bool_eql, bool_neq, op_lssI, bne_self_eq_false, beq_self_eq_true, eq_self, cells_slc, cells_func, builtin_append, ev_nilslice, ev_nilfunc, ev_nilptr, ev_nilmap, opF_makeFunc, opF_callv, callV_func, callV_yield, op_leq, op_gtr, op_geq, cast_le, cast_lt, List.nil_append, List.cons_append, List.append_nil, un_not, g0, g1, g5, g6, g7, g8, p0, p1, s1, s2, index_str und9, la1, lb1, he, hix, hld, r1, q1, hix2, hld2, r2, q2, r3, q3, h2', List.toList_toArray]
              with_reducible rfl
            apply hK
            unfold refS; simp only [Sl_cons, Sl_nil, T.get_set, T.puts_cons, T.puts_nil, Nat.reduceEqDiff, Nat.reduceAdd, if_true, if_false, and_true, true_and, g0, g1, g5, g7]
          · have hle : letter a b i k = 43 := by unfold letter; rw [if_neg (fun h => he2 h.2.2), if_neg (fun h => h2 h.2.2), if_neg (fun h => h3 h.2)]
            rw [hle] at hK
            have e1 : nI 43 i = i := rfl
            have e2 : nK 43 k = k - 1 := rfl
            rw [e1, e2] at hK
            clear dk
            apply W.run 20
            · intro M
              simp (config := { maxSteps := 4000000 }) (disch := first | decide +kernel | (rw [wantF_guard]; simp only [wantD_some, dstAt_zero, dstAt_succ, T.get_set, T.get_e, Nat.reduceEqDiff, if_true, if_false, wantV_bool, wantV_unit, unitV, cond_true, cond_false, Bool.not_true, Bool.not_false, List.toList_toArray]) | omega) only [c11b1, c11, Try.f11, Nat.ble, cond_true, cond_false, T.puts_cons, T.puts_nil, exec_seq, exec_block, nat_beq_self, exec_region, exec_cond, exec_skip, exec_ret, exec_exit, exec_scope, runOps_cons, runOps_nil, opF_move, opF_assign, opF_ari, opF_neq, opF_eql, opF_un, opF_index, opF_indexAddr, opF_fieldAddr, opF_field, opF_build, opF_slice, opF_extract, opF_pick, opF_load, opF_alloc, opF_box, opF_buildSlice, opF_makeSlice, opF_store, opF_conv, opF_len, opF_minmax, opF_builtin, opF_call, resK, ev_tmp, evG_some, ev_int, ev_bool, ev_str, evs, evp, evo, R.ok_bind, putT_some, putT_none, T.get_set, T.get_e, binF_int, op_rem, op_quo_u32, op_xor_u32, op_neq, op_eql, op_lss, op_add_i64, op_sub_u32, op_and_u8, op_xor_u8, op_not_u32, binF_shr_u32, binF_shr_u8, op_mul_i64, op_quo_i64, op_and_u32, binF_shl_u8, wrapF_u8, wrapF_u32, mod_u8, mod_u32, cond_val, Nat.lt_irrefl, Nat.not_lt_zero, if_true, if_false, reduceIte, Nat.reduceEqDiff, Nat.reduceAdd, ne_eq, not_true_eq_false, not_false_eq_true, decide_true, decide_false, Bool.false_eq_true, Bool.not_true, Bool.not_false, sub_nil, sub_seq0, sub_seq1, sub_cond0, sub_cond1, sub_block, sub_loop, sub_scope, sub_range0, sub_range1, Option.getD_some, at_ptr, at_slc, runOps_yes, runOps_no, exec_draw, op_sub_i64, op_sub_neg, op_lss_neg, binF_str, str_add, str_neq, str_eql, takeF, resF, oneOf, pickF, extractF, cells_str, cells_int, cells_agg, bool_eql, bool_neq, op_lssI, bne_self_eq_false, beq_self_eq_true, eq_self, cells_slc, cells_func, builtin_append, ev_nilslice, ev_nilfunc, ev_nilptr, ev_nilmap, opF_makeFunc, opF_callv, callV_func, callV_yield, op_leq, op_gtr, op_geq, cast_le, cast_lt, List.nil_append, List.cons_append, List.append_nil, un_not, g0, g1, g5, g6, g7, g8, p0, p1, s1, s2, index_str und9, la1, lb1, he, hix, hld, r1, q1, hix2, hld2, r2, q2, r3, q3, h2, h3, List.toList_toArray]
              with_reducible rfl
            apply hK
            unfold refS; simp only [Sl_cons, Sl_nil, T.get_set, T.puts_cons, T.puts_nil, Nat.reduceEqDiff, Nat.reduceAdd, if_true, if_false, and_true, true_and, g0, g1, g5, g6]
end
set_option maxHeartbeats 2000000 in
theorem run_refScript (a b : List UInt8) (ha : a.length ≤ 400000) (hb : b.length ≤ 400000) : ∃ A', CallsTo tb0 11 [strOf a, strOf b] mem0 (strOf (scriptD a b)) A' := by
  obtain ⟨v, A', h1, h2⟩ : ∃ v A', CallsTo tb0 11 [strOf a, strOf b] mem0 v A' ∧ v = strOf (scriptD a b) := by
    refine call_of_W (fn_at Try.func11) c11_eq (by rw [Try.ntmps11]; simp) ?_
    obtain ⟨xt, C, ⟨g, hg⟩, xs, bt, hs, hT⟩ := run_table a b (by omega) (by omega) mem0
    apply W.seq
    apply W.run 20
    · intro M
      simp (config := { maxSteps := 4000000 }) (disch := first | decide +kernel | (rw [wantF_guard]; simp only [wantD_some, dstAt_zero, dstAt_succ, T.get_set, T.get_e, Nat.reduceEqDiff, if_true, if_false, wantV_bool, wantV_unit, unitV, cond_true, cond_false, Bool.not_true, Bool.not_false, List.toList_toArray]) | omega) only [c11, Try.f11, Nat.ble, cond_true, cond_false, T.puts_cons, T.puts_nil, exec_seq, exec_block, nat_beq_self, exec_region, exec_cond, exec_skip, exec_ret, exec_exit, exec_scope, runOps_cons, runOps_nil, opF_move, opF_assign, opF_ari, opF_neq, opF_eql, opF_un, opF_index, opF_indexAddr, opF_fieldAddr, opF_field, opF_build, opF_slice, opF_extract, opF_pick, opF_load, opF_alloc, opF_box, opF_buildSlice, opF_makeSlice, opF_store, opF_conv, opF_len, opF_minmax, opF_builtin, opF_call, resK, ev_tmp, evG_some, ev_int, ev_bool, ev_str, evs, evp, evo, R.ok_bind, putT_some, putT_none, T.get_set, T.get_e, binF_int, op_rem, op_quo_u32, op_xor_u32, op_neq, op_eql, op_lss, op_add_i64, op_sub_u32, op_and_u8, op_xor_u8, op_not_u32, binF_shr_u32, binF_shr_u8, op_mul_i64, op_quo_i64, op_and_u32, binF_shl_u8, wrapF_u8, wrapF_u32, mod_u8, mod_u32, cond_val, Nat.lt_irrefl, Nat.not_lt_zero, if_true, if_false, reduceIte, Nat.reduceEqDiff, Nat.reduceAdd, ne_eq, not_true_eq_false, not_false_eq_true, decide_true, decide_false, Bool.false_eq_true, Bool.not_true, Bool.not_false, sub_nil, sub_seq0, sub_seq1, sub_cond0, sub_cond1, sub_block, sub_loop, sub_scope, sub_range0, sub_range1, Option.getD_some, at_ptr, at_slc, runOps_yes, runOps_no, exec_draw, op_sub_i64, op_sub_neg, op_lss_neg, binF_str, str_add, str_neq, str_eql, takeF, resF, oneOf, pickF, extractF, cells_str, cells_int, cells_agg, bool_eql, bool_neq, op_lssI, bne_self_eq_false, beq_self_eq_true, eq_self, cells_slc, cells_func, builtin_append, ev_nilslice, ev_nilfunc, ev_nilptr, ev_nilmap, opF_makeFunc, opF_callv, callV_func, callV_yield, op_leq, op_gtr, op_geq, cast_le, cast_lt, List.nil_append, List.cons_append, List.append_nil, un_not]
      with_reducible rfl
    apply W.seq
    apply W.runG (g) 20
    · intro M hM
      simp (config := { maxSteps := 4000000 }) (disch := first | decide +kernel | (rw [wantF_guard]; simp only [wantD_some, dstAt_zero, dstAt_succ, T.get_set, T.get_e, Nat.reduceEqDiff, if_true, if_false, wantV_bool, wantV_unit, unitV, cond_true, cond_false, Bool.not_true, Bool.not_false, List.toList_toArray]) | omega) only [c11, Try.f11, Nat.ble, cond_true, cond_false, T.puts_cons, T.puts_nil, exec_seq, exec_block, nat_beq_self, exec_region, exec_cond, exec_skip, exec_ret, exec_exit, exec_scope, runOps_cons, runOps_nil, opF_move, opF_assign, opF_ari, opF_neq, opF_eql, opF_un, opF_index, opF_indexAddr, opF_fieldAddr, opF_field, opF_build, opF_slice, opF_extract, opF_pick, opF_load, opF_alloc, opF_box, opF_buildSlice, opF_makeSlice, opF_store, opF_conv, opF_len, opF_minmax, opF_builtin, opF_call, resK, ev_tmp, evG_some, ev_int, ev_bool, ev_str, evs, evp, evo, R.ok_bind, putT_some, putT_none, T.get_set, T.get_e, binF_int, op_rem, op_quo_u32, op_xor_u32, op_neq, op_eql, op_lss, op_add_i64, op_sub_u32, op_and_u8, op_xor_u8, op_not_u32, binF_shr_u32, binF_shr_u8, op_mul_i64, op_quo_i64, op_and_u32, binF_shl_u8, wrapF_u8, wrapF_u32, mod_u8, mod_u32, cond_val, Nat.lt_irrefl, Nat.not_lt_zero, if_true, if_false, reduceIte, Nat.reduceEqDiff, Nat.reduceAdd, ne_eq, not_true_eq_false, not_false_eq_true, decide_true, decide_false, Bool.false_eq_true, Bool.not_true, Bool.not_false, sub_nil, sub_seq0, sub_seq1, sub_cond0, sub_cond1, sub_block, sub_loop, sub_scope, sub_range0, sub_range1, Option.getD_some, at_ptr, at_slc, runOps_yes, runOps_no, exec_draw, op_sub_i64, op_sub_neg, op_lss_neg, binF_str, str_add, str_neq, str_eql, takeF, resF, oneOf, pickF, extractF, cells_str, cells_int, cells_agg, bool_eql, bool_neq, op_lssI, bne_self_eq_false, beq_self_eq_true, eq_self, cells_slc, cells_func, builtin_append, ev_nilslice, ev_nilfunc, ev_nilptr, ev_nilmap, opF_makeFunc, opF_callv, callV_func, callV_yield, op_leq, op_gtr, op_geq, cast_le, cast_lt, List.nil_append, List.cons_append, List.append_nil, un_not, hg]
      with_reducible rfl
    apply W.seq
    apply W.run 20
    · intro M
      simp (config := { maxSteps := 4000000 }) (disch := first | decide +kernel | (rw [wantF_guard]; simp only [wantD_some, dstAt_zero, dstAt_succ, T.get_set, T.get_e, Nat.reduceEqDiff, if_true, if_false, wantV_bool, wantV_unit, unitV, cond_true, cond_false, Bool.not_true, Bool.not_false, List.toList_toArray]) | omega) only [c11, Try.f11, Nat.ble, cond_true, cond_false, T.puts_cons, T.puts_nil, exec_seq, exec_block, nat_beq_self, exec_region, exec_cond, exec_skip, exec_ret, exec_exit, exec_scope, runOps_cons, runOps_nil, opF_move, opF_assign, opF_ari, opF_neq, opF_eql, opF_un, opF_index, opF_indexAddr, opF_fieldAddr, opF_field, opF_build, opF_slice, opF_extract, opF_pick, opF_load, opF_alloc, opF_box, opF_buildSlice, opF_makeSlice, opF_store, opF_conv, opF_len, opF_minmax, opF_builtin, opF_call, resK, ev_tmp, evG_some, ev_int, ev_bool, ev_str, evs, evp, evo, R.ok_bind, putT_some, putT_none, T.get_set, T.get_e, binF_int, op_rem, op_quo_u32, op_xor_u32, op_neq, op_eql, op_lss, op_add_i64, op_sub_u32, op_and_u8, op_xor_u8, op_not_u32, binF_shr_u32, binF_shr_u8, op_mul_i64, op_quo_i64, op_and_u32, binF_shl_u8, wrapF_u8, wrapF_u32, mod_u8, mod_u32, cond_val, Nat.lt_irrefl, Nat.not_lt_zero, if_true, if_false, reduceIte, Nat.reduceEqDiff, Nat.reduceAdd, ne_eq, not_true_eq_false, not_false_eq_true, decide_true, decide_false, Bool.false_eq_true, Bool.not_true, Bool.not_false, sub_nil, sub_seq0, sub_seq1, sub_cond0, sub_cond1, sub_block, sub_loop, sub_scope, sub_range0, sub_range1, Option.getD_some, at_ptr, at_slc, runOps_yes, runOps_no, exec_draw, op_sub_i64, op_sub_neg, op_lss_neg, binF_str, str_add, str_neq, str_eql, takeF, resF, oneOf, pickF, extractF, cells_str, cells_int, cells_agg, bool_eql, bool_neq, op_lssI, bne_self_eq_false, beq_self_eq_true, eq_self, cells_slc, cells_func, builtin_append, ev_nilslice, ev_nilfunc, ev_nilptr, ev_nilmap, opF_makeFunc, opF_callv, callV_func, callV_yield, op_leq, op_gtr, op_geq, cast_le, cast_lt, List.nil_append, List.cons_append, List.append_nil, un_not, len_str und9]
      with_reducible rfl
    apply W.seq
    apply W.run 20
    · intro M
      simp (config := { maxSteps := 4000000 }) (disch := first | decide +kernel | (rw [wantF_guard]; simp only [wantD_some, dstAt_zero, dstAt_succ, T.get_set, T.get_e, Nat.reduceEqDiff, if_true, if_false, wantV_bool, wantV_unit, unitV, cond_true, cond_false, Bool.not_true, Bool.not_false, List.toList_toArray]) | omega) only [c11, Try.f11, Nat.ble, cond_true, cond_false, T.puts_cons, T.puts_nil, exec_seq, exec_block, nat_beq_self, exec_region, exec_cond, exec_skip, exec_ret, exec_exit, exec_scope, runOps_cons, runOps_nil, opF_move, opF_assign, opF_ari, opF_neq, opF_eql, opF_un, opF_index, opF_indexAddr, opF_fieldAddr, opF_field, opF_build, opF_slice, opF_extract, opF_pick, opF_load, opF_alloc, opF_box, opF_buildSlice, opF_makeSlice, opF_store, opF_conv, opF_len, opF_minmax, opF_builtin, opF_call, resK, ev_tmp, evG_some, ev_int, ev_bool, ev_str, evs, evp, evo, R.ok_bind, putT_some, putT_none, T.get_set, T.get_e, binF_int, op_rem, op_quo_u32, op_xor_u32, op_neq, op_eql, op_lss, op_add_i64, op_sub_u32, op_and_u8, op_xor_u8, op_not_u32, binF_shr_u32, binF_shr_u8, op_mul_i64, op_quo_i64, op_and_u32, binF_shl_u8, wrapF_u8, wrapF_u32, mod_u8, mod_u32, cond_val, Nat.lt_irrefl, Nat.not_lt_zero, if_true, if_false, reduceIte, Nat.reduceEqDiff, Nat.reduceAdd, ne_eq, not_true_eq_false, not_false_eq_true, decide_true, decide_false, Bool.false_eq_true, Bool.not_true, Bool.not_false, sub_nil, sub_seq0, sub_seq1, sub_cond0, sub_cond1, sub_block, sub_loop, sub_scope, sub_range0, sub_range1, Option.getD_some, at_ptr, at_slc, runOps_yes, runOps_no, exec_draw, op_sub_i64, op_sub_neg, op_lss_neg, binF_str, str_add, str_neq, str_eql, takeF, resF, oneOf, pickF, extractF, cells_str, cells_int, cells_agg, bool_eql, bool_neq, op_lssI, bne_self_eq_false, beq_self_eq_true, eq_self, cells_slc, cells_func, builtin_append, ev_nilslice, ev_nilfunc, ev_nilptr, ev_nilmap, opF_makeFunc, opF_callv, callV_func, callV_yield, op_leq, op_gtr, op_geq, cast_le, cast_lt, List.nil_append, List.cons_append, List.append_nil, un_not]
      with_reducible rfl
    apply W.seq
    apply W.block
    refine W.fall (fun m t D => ∃ i k lst n, i ≤ a.length ∧ k ≤ b.length ∧ m = i + k ∧ i + k ≤ n ∧ lst.length + n = a.length + b.length ∧ lst ++ bw a b n i k = bw a b (a.length + b.length) a.length b.length ∧ D = C ∧ Sl t (refS a b xt i k lst.reverse)) ?_ ⟨a.length, b.length, [], a.length + b.length, Nat.le_refl _, Nat.le_refl _, rfl, Nat.le_refl _, by simp, rfl, rfl, ?_⟩
    · rintro m t D ⟨i, k, lst, n, hi, hk, rfl, hn, hln, hbw, rfl, hp⟩
      by_cases h0 : i = 0 ∧ k = 0
      · obtain ⟨rfl, rfl⟩ := h0
        obtain ⟨g0, g1, g5, g6, g7, g8, -⟩ := hp
        have e : bw a b n 0 0 = [] := by cases n <;> simp [bw]
        rw [e, List.append_nil] at hbw
        have hsc : lst.reverse = scriptD a b := by rw [hbw]; rfl
        rw [hsc] at g8
        apply W.run 20
        · intro M
          simp (config := { maxSteps := 4000000 }) (disch := first | decide +kernel | (rw [wantF_guard]; simp only [wantD_some, dstAt_zero, dstAt_succ, T.get_set, T.get_e, Nat.reduceEqDiff, if_true, if_false, wantV_bool, wantV_unit, unitV, cond_true, cond_false, Bool.not_true, Bool.not_false, List.toList_toArray]) | omega) only [c11b1, c11, Try.f11, Nat.ble, cond_true, cond_false, T.puts_cons, T.puts_nil, exec_seq, exec_block, nat_beq_self, exec_region, exec_cond, exec_skip, exec_ret, exec_exit, exec_scope, runOps_cons, runOps_nil, opF_move, opF_assign, opF_ari, opF_neq, opF_eql, opF_un, opF_index, opF_indexAddr, opF_fieldAddr, opF_field, opF_build, opF_slice, opF_extract, opF_pick, opF_load, opF_alloc, opF_box, opF_buildSlice, opF_makeSlice, opF_store, opF_conv, opF_len, opF_minmax, opF_builtin, opF_call, resK, ev_tmp, evG_some, ev_int, ev_bool, ev_str, evs, evp, evo, R.ok_bind, putT_some, putT_none, T.get_set, T.get_e, binF_int, op_rem, op_quo_u32, op_xor_u32, op_neq, op_eql, op_lss, op_add_i64, op_sub_u32, op_and_u8, op_xor_u8, op_not_u32, binF_shr_u32, binF_shr_u8, op_mul_i64, op_quo_i64, op_and_u32, binF_shl_u8, wrapF_u8, wrapF_u32, mod_u8, mod_u32, cond_val, Nat.lt_irrefl, Nat.not_lt_zero, if_true, if_false, reduceIte, Nat.reduceEqDiff, Nat.reduceAdd, ne_eq, not_true_eq_false, not_false_eq_true, decide_true, decide_false, Bool.false_eq_true, Bool.not_true, Bool.not_false, sub_nil, sub_seq0, sub_seq1, sub_cond0, sub_cond1, sub_block, sub_loop, sub_scope, sub_range0, sub_range1, Option.getD_some, at_ptr, at_slc, runOps_yes, runOps_no, exec_draw, op_sub_i64, op_sub_neg, op_lss_neg, binF_str, str_add, str_neq, str_eql, takeF, resF, oneOf, pickF, extractF, cells_str, cells_int, cells_agg, bool_eql, bool_neq, op_lssI, bne_self_eq_false, beq_self_eq_true, eq_self, cells_slc, cells_func, builtin_append, ev_nilslice, ev_nilfunc, ev_nilptr, ev_nilmap, opF_makeFunc, opF_callv, callV_func, callV_yield, op_leq, op_gtr, op_geq, cast_le, cast_lt, List.nil_append, List.cons_append, List.append_nil, un_not, g6, g7]
          with_reducible rfl
        show W tb0 _ _ _
        apply W.seq
        apply W.run 20
        · intro M
          simp (config := { maxSteps := 4000000 }) (disch := first | decide +kernel | (rw [wantF_guard]; simp only [wantD_some, dstAt_zero, dstAt_succ, T.get_set, T.get_e, Nat.reduceEqDiff, if_true, if_false, wantV_bool, wantV_unit, unitV, cond_true, cond_false, Bool.not_true, Bool.not_false, List.toList_toArray]) | omega) only [c11, Try.f11, Nat.ble, cond_true, cond_false, T.puts_cons, T.puts_nil, exec_seq, exec_block, nat_beq_self, exec_region, exec_cond, exec_skip, exec_ret, exec_exit, exec_scope, runOps_cons, runOps_nil, opF_move, opF_assign, opF_ari, opF_neq, opF_eql, opF_un, opF_index, opF_indexAddr, opF_fieldAddr, opF_field, opF_build, opF_slice, opF_extract, opF_pick, opF_load, opF_alloc, opF_box, opF_buildSlice, opF_makeSlice, opF_store, opF_conv, opF_len, opF_minmax, opF_builtin, opF_call, resK, ev_tmp, evG_some, ev_int, ev_bool, ev_str, evs, evp, evo, R.ok_bind, putT_some, putT_none, T.get_set, T.get_e, binF_int, op_rem, op_quo_u32, op_xor_u32, op_neq, op_eql, op_lss, op_add_i64, op_sub_u32, op_and_u8, op_xor_u8, op_not_u32, binF_shr_u32, binF_shr_u8, op_mul_i64, op_quo_i64, op_and_u32, binF_shl_u8, wrapF_u8, wrapF_u32, mod_u8, mod_u32, cond_val, Nat.lt_irrefl, Nat.not_lt_zero, if_true, if_false, reduceIte, Nat.reduceEqDiff, Nat.reduceAdd, ne_eq, not_true_eq_false, not_false_eq_true, decide_true, decide_false, Bool.false_eq_true, Bool.not_true, Bool.not_false, sub_nil, sub_seq0, sub_seq1, sub_cond0, sub_cond1, sub_block, sub_loop, sub_scope, sub_range0, sub_range1, Option.getD_some, at_ptr, at_slc, runOps_yes, runOps_no, exec_draw, op_sub_i64, op_sub_neg, op_lss_neg, binF_str, str_add, str_neq, str_eql, takeF, resF, oneOf, pickF, extractF, cells_str, cells_int, cells_agg, bool_eql, bool_neq, op_lssI, bne_self_eq_false, beq_self_eq_true, eq_self, cells_slc, cells_func, builtin_append, ev_nilslice, ev_nilfunc, ev_nilptr, ev_nilmap, opF_makeFunc, opF_callv, callV_func, callV_yield, op_leq, op_gtr, op_geq, cast_le, cast_lt, List.nil_append, List.cons_append, List.append_nil, un_not, g8]
          with_reducible rfl
        apply W.run 20
        · intro M
          simp (config := { maxSteps := 4000000 }) (disch := first | decide +kernel | (rw [wantF_guard]; simp only [wantD_some, dstAt_zero, dstAt_succ, T.get_set, T.get_e, Nat.reduceEqDiff, if_true, if_false, wantV_bool, wantV_unit, unitV, cond_true, cond_false, Bool.not_true, Bool.not_false, List.toList_toArray]) | omega) only [c11, Try.f11, Nat.ble, cond_true, cond_false, T.puts_cons, T.puts_nil, exec_seq, exec_block, nat_beq_self, exec_region, exec_cond, exec_skip, exec_ret, exec_exit, exec_scope, runOps_cons, runOps_nil, opF_move, opF_assign, opF_ari, opF_neq, opF_eql, opF_un, opF_index, opF_indexAddr, opF_fieldAddr, opF_field, opF_build, opF_slice, opF_extract, opF_pick, opF_load, opF_alloc, opF_box, opF_buildSlice, opF_makeSlice, opF_store, opF_conv, opF_len, opF_minmax, opF_builtin, opF_call, resK, ev_tmp, evG_some, ev_int, ev_bool, ev_str, evs, evp, evo, R.ok_bind, putT_some, putT_none, T.get_set, T.get_e, binF_int, op_rem, op_quo_u32, op_xor_u32, op_neq, op_eql, op_lss, op_add_i64, op_sub_u32, op_and_u8, op_xor_u8, op_not_u32, binF_shr_u32, binF_shr_u8, op_mul_i64, op_quo_i64, op_and_u32, binF_shl_u8, wrapF_u8, wrapF_u32, mod_u8, mod_u32, cond_val, Nat.lt_irrefl, Nat.not_lt_zero, if_true, if_false, reduceIte, Nat.reduceEqDiff, Nat.reduceAdd, ne_eq, not_true_eq_false, not_false_eq_true, decide_true, decide_false, Bool.false_eq_true, Bool.not_true, Bool.not_false, sub_nil, sub_seq0, sub_seq1, sub_cond0, sub_cond1, sub_block, sub_loop, sub_scope, sub_range0, sub_range1, Option.getD_some, at_ptr, at_slc, runOps_yes, runOps_no, exec_draw, op_sub_i64, op_sub_neg, op_lss_neg, binF_str, str_add, str_neq, str_eql, takeF, resF, oneOf, pickF, extractF, cells_str, cells_int, cells_agg, bool_eql, bool_neq, op_lssI, bne_self_eq_false, beq_self_eq_true, eq_self, cells_slc, cells_func, builtin_append, ev_nilslice, ev_nilfunc, ev_nilptr, ev_nilmap, opF_makeFunc, opF_callv, callV_func, callV_yield, op_leq, op_gtr, op_geq, cast_le, cast_lt, List.nil_append, List.cons_append, List.append_nil, un_not]
          with_reducible rfl
        refine ⟨.inr rfl, _, [strOf (scriptD a b)], rfl, ?_, rfl⟩
        simp only [Try.f11, resF, ev_tmp, T.get_set, Nat.reduceEqDiff, if_true, if_false, evG_some, R.ok_bind]
      · obtain ⟨n, rfl⟩ : ∃ n', n = n' + 1 := ⟨n - 1, by omega⟩
        have hstep : bw a b (n + 1) i k = letter a b i k :: bw a b n (nI (letter a b i k) i) (nK (letter a b i k) k) := by
          show (if i = 0 ∧ k = 0 then [] else _) = _
          rw [if_neg h0]; rfl
        rw [hstep] at hbw
        have hlc := letter_cases hi hk h0
        refine ref_step ha hb hi hk h0 (by rw [List.length_reverse]; omega) hs hT hp ?_
        intro t' hp'
        have hlt : nI (letter a b i k) i + nK (letter a b i k) k < i + k ∧ nI (letter a b i k) i ≤ a.length ∧ nK (letter a b i k) k ≤ b.length := by
          unfold nI nK
          rcases hlc with ⟨e, h1, h2, -⟩ | ⟨e, h1, h2, -⟩ | ⟨e, h1, -⟩ | ⟨e, h2, -⟩ <;> rw [e]
          · rw [if_neg (by decide), if_neg (by decide)]; omega
          · rw [if_neg (by decide), if_neg (by decide)]; omega
          · rw [if_neg (by decide), if_pos rfl]; omega
          · rw [if_pos rfl, if_neg (by decide)]; omega
        refine ⟨_, _, _, hlt.1, rfl, nI (letter a b i k) i, nK (letter a b i k) k, lst ++ [letter a b i k], n, hlt.2.1, hlt.2.2, rfl, by omega, by rw [List.length_append, List.length_singleton]; omega, by rw [List.append_assoc]; exact hbw, rfl, ?_⟩
        rw [List.reverse_append]
        exact hp'
    · unfold refS; simp only [Sl_cons, Sl_nil, T.get_set, T.puts_cons, T.puts_nil, Nat.reduceEqDiff, Nat.reduceAdd, if_true, if_false, and_true, true_and, List.reverse_nil, List.toList_toArray]
  subst h2
  exact ⟨A', h1⟩
end Go.Proofs.Ytekimgleakjonaa.dist

