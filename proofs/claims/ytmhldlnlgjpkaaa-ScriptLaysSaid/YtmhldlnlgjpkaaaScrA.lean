/-
  What the functions of this group compute on the abstract machine, and the plain laws of it. Part A: conditions stand in each theorem.
-/
import Derived.Test.YtmhldlnlgjpkaaaAmG
import Derived.Test.YtmhldlnlgjpkaaaChecked
import Derived.KernelRfl

/-
  Script: the tables; what is known at once.
-/
namespace Go.Proofs.Ytmhldlnlgjpkaaa.scr
open Go.Am
set_option linter.unusedSimpArgs false
set_option linter.unusedVariables false

noncomputable def exts : T Nat := ((T.e.set 66 1).set 67 3)
theorem ext66 : ExR 1 Try.f66 := ⟨by kernel_rfl, by kernel_rfl, by kernel_rfl, by show Extern.find Try.f66 = some Extern.AbiNoEscape.same; kernel_rfl⟩
theorem ext67 : ExR 3 Try.f67 := ⟨by kernel_rfl, by kernel_rfl, by kernel_rfl, by show Extern.find Try.f67 = some (Extern.BytealgMakeNoZero.makeNoZero Try.f67.params Try.f67.resultTypes); kernel_rfl⟩
theorem exts_ok : ∀ f k fn, exts.get f = some k → Try.checked.prog.funcs[f]? = some fn → ExR k fn := by
  intro f k fn h hf
  unfold exts at h
  simp only [T.get_set, T.get_e] at h
  split at h
  · rename_i e
    subst e
    cases h
    cases Option.some.inj (hf.symm.trans Try.func67)
    exact ext67
  split at h
  · rename_i e
    subst e
    cases h
    cases Option.some.inj (hf.symm.trans Try.func66)
    exact ext66
  cases h
noncomputable def tb0 : Tab := tabOf Try.checked.prog exts
theorem tb0_ok : TabOk tb0 := tabOf_ok Try.checked _ exts_ok
theorem fn_at {k : Nat} {fn : Func} (h : Try.prog.funcs[k]? = some fn) : tb0.fn.get k = some fn := by
  show (T.ofList Try.checked.prog.funcs.toList).get k = _
  rw [T.get_ofList, Array.getElem?_toList]
  exact h

theorem works_true : isTrue (call tb0 1000000 8 [] mem0) = true := by decide +kernel
noncomputable def isStr (x : R Res) (l : List UInt8) : Bool :=
  match x with
  | .ok (.val (.string s) _) => bytesEq s.data.toList l
  | _ => false
theorem rep_true : ((List.range 8).all fun j => isStr (call tb0 100000 20 [strOf [120], .int .i64 (((32 * (j + 1) : Nat)) : Int)] mem0) (List.replicate (32 * (j + 1)) 120)) = true := by decide +kernel
def worksK : List Value → Option Value
  | [] => some (.bool true)
  | _ => none
def repK : List Value → Option Value
  | [.string s, .int .i64 (.ofNat n)] => if s.data.toList = [120] ∧ n % 32 = 0 ∧ 32 ≤ n ∧ n ≤ 256 then some (strOf (List.replicate n 120)) else none
  | _ => none
theorem hook_works : HookOk tb0.P 8 (pureHook worksK) := by
  refine hook_pure tb0_ok (f := 8) (fn := Try.f8) (fn_at Try.func8) (c := (Try.f8.body).getD .skip) (by kernel_rfl) fun args v h => ?_
  unfold worksK at h
  split at h
  · cases h
    have hw := works_true
    revert hw
    cases hc : call tb0 1000000 8 [] mem0 with
    | no _ => intro hw; cases hw
    | ok r =>
      cases r with
      | pan _ _ => intro hw; cases hw
      | val v A =>
        intro hw
        cases v with
        | bool b =>
          cases (show b = true from hw)
          exact ⟨by simp, by simp [flat], 1000000, A, hc⟩
        | _ => cases hw
  · cases h
theorem hook_rep : HookOk tb0.P 20 (pureHook repK) := by
  refine hook_pure tb0_ok (f := 20) (fn := Try.f20) (fn_at Try.func20) (c := (Try.f20.body).getD .skip) (by kernel_rfl) fun args v h => ?_
  unfold repK at h
  split at h
  · rename_i s n
    split at h
    · rename_i hn
      cases h
      obtain ⟨hs, h1, h2, h3⟩ := hn
      obtain ⟨j, rfl⟩ : ∃ j, n = 32 * (j + 1) := ⟨n / 32 - 1, by omega⟩
      have hr := List.all_eq_true.1 rep_true j (by simp; omega)
      have e : (Value.string s) = strOf [120] := by rw [string_eq, hs]
      rw [e]
      revert hr
      cases hc : call tb0 100000 20 [strOf [120], .int .i64 (((32 * (j + 1) : Nat)) : Int)] mem0 with
      | no _ => intro hw; cases hw
      | ok r =>
        cases r with
        | pan _ _ => intro hw; cases hw
        | val v A =>
          intro hw
          cases v with
          | string q =>
            have hq : q.data.toList = List.replicate (32 * (j + 1)) 120 := by
              have hw' : bytesEq q.data.toList (List.replicate (32 * (j + 1)) 120) = true := hw
              rw [bytesEq_eq] at hw'
              exact eq_of_beq hw'
            refine ⟨by simp [flat, strOf], by simp [flat, strOf], 100000, A, ?_⟩
            have e2 : strOf (List.replicate (32 * (j + 1)) 120) = .string q := by rw [string_eq, hq]
            rw [e2]; exact hc
          | _ => cases hw
    · cases h
  · cases h
noncomputable def tb1 : Tab := (tb0.know 8 (pureHook worksK)).know 20 (pureHook repK)
theorem tb1_ok : TabOk tb1 := know_ok (know_ok tb0_ok hook_works) hook_rep
section
variable {ih : Code → St → R (Ex × St)} {A : Mem}
theorem k8 : callF tb1 ih (.fn 8 []) A = .ok (.val (.bool true) A) :=
  callF_known (c := (Try.f8.body).getD .skip) (fn_at Try.func8) (by kernel_rfl) (by kernel_rfl) (h := pureHook worksK) (by kernel_rfl) rfl
theorem k20 {n : Nat} (h1 : n % 32 = 0) (h2 : 32 ≤ n) (h3 : n ≤ 256) : callF tb1 ih (.fn 20 [strOf [120], .int .i64 (n : Int)]) A = .ok (.val (strOf (List.replicate n 120)) A) :=
  callF_known (c := (Try.f20.body).getD .skip) (fn_at Try.func20) (by kernel_rfl) (by kernel_rfl) (h := pureHook repK) (by kernel_rfl) (by
    unfold pureHook
    show (match repK [.string ⟨⟨[120]⟩⟩, .int .i64 (.ofNat n)] with | some v => R.ok (v, A) | none => .no 600) = _
    simp only [repK]
    rw [if_pos ⟨trivial, h1, h2, h3⟩])
end
theorem und3 : tb1.und 3 = some (.int .i64) := by kernel_rfl
theorem und4 : tb1.und 4 = some .bool := by kernel_rfl
theorem und5 : tb1.und 5 = some (.int .u8) := by kernel_rfl
theorem und9 : tb1.und 9 = some .string := by kernel_rfl
theorem und22 : tb1.und 22 = some (.slice 5) := by kernel_rfl
theorem und26 : tb1.und 26 = some (.slice 39) := by kernel_rfl
theorem und33 : tb1.und 33 = some (.int .u32) := by kernel_rfl
theorem und36 : tb1.und 36 = some (.slice 43) := by kernel_rfl
theorem und37 : tb1.und 37 = some (.slice 41) := by kernel_rfl
theorem und43 : tb1.und 43 = some (.int .u16) := by kernel_rfl
theorem size5 : sizeF tb1 5 = .ok 1 := by kernel_rfl
theorem size22 : sizeF tb1 22 = .ok 1 := by kernel_rfl
theorem size43 : sizeF tb1 43 = .ok 1 := by kernel_rfl
theorem size39 : sizeF tb1 39 = .ok 9 := by kernel_rfl
theorem size41 : sizeF tb1 41 = .ok 2 := by kernel_rfl
theorem size68 : sizeF tb1 68 = .ok 2 := by kernel_rfl
theorem size28 : sizeF tb1 28 = .ok 4 := by kernel_rfl
end Go.Proofs.Ytmhldlnlgjpkaaa.scr

/-
  Script: bytes that are read one by one.
-/
namespace Go.Proofs.Ytmhldlnlgjpkaaa.scr
open Go.Am
variable {q : Nat}
set_option linter.unusedSimpArgs false
set_option linter.unusedVariables false

def byts (l : List UInt8) : List Value := l.map fun c : UInt8 => Value.int .u8 ((c.toNat : Nat) : Int)
theorem byts_len (l : List UInt8) : (byts l).length = l.length := by simp [byts]
theorem byts_get {l : List UInt8} {i : Nat} {c : UInt8} (h : l[i]? = some c) : (byts l)[i]? = some (.int .u8 ((c.toNat : Nat) : Int)) := by simp [byts, h]
theorem getB_some {l : List UInt8} {i : Nat} (h : i < l.length) : l[i]? = some (l.getD i 0) := by simp [List.getD, List.getElem?_eq_getElem h]

/-- What is left of the bytes that lie in the block q. -/
def RdS (q : Nat) (A : Mem) (rem : List UInt8) (x : Value) : Prop :=
  q < A.next ∧ ((x = .slice none 0 0 ∧ rem = []) ∨ ∃ off cp, x = .slice (some ⟨q, off, none⟩) rem.length cp ∧ capFit cp 1 = true ∧ rem.length ≤ capN cp ∧
    (rem = [] ∨ ∃ t kd fz c, A.get q = some (.cells t kd fz c) ∧ ∀ i, i < rem.length → c.get (off + i) = some (.int .u8 (((rem.getD i 0).toNat : Nat) : Int))))
theorem capFit_mkX (n : Nat) : capFit (mkX n 1) 1 = true := by
  unfold capFit
  rw [capX_mkX, capE_mkX (by omega)]; rfl
theorem capFit_two (n : Nat) : capFit (2 * n) 1 = true := by
  unfold capFit
  rw [capX_two]; rfl
theorem capFit_sub {c : Nat} (l : Nat) (h : capFit c 1 = true) : capFit (capSub c l) 1 = true := by
  unfold capSub
  cases hx : capX c with
  | true => rw [cond_true]; exact capFit_two _
  | false =>
    unfold capFit at h
    rw [hx, cond_false] at h
    rw [cond_false, Nat.eq_of_beq_eq_true h]
    exact capFit_mkX _
theorem RdS.of_slc {A : Mem} {b : Nat} {l : List UInt8} {x : Value} (h : Slc A 5 b (byts l) x) (hA : 0 < A.next) : ∃ q, RdS q A l x ∧ (q = b ∨ q = 0) := by
  rcases h with ⟨h1, h2⟩ | ⟨k, c, h1, h2, ⟨cs, h3, h5⟩, h4⟩
  · exact ⟨0, ⟨hA, .inl ⟨h1, by cases l with
      | nil => rfl
      | cons _ _ => simp [byts] at h2⟩⟩, .inr rfl⟩
  · rw [byts_len] at h1 h4
    refine ⟨b, ⟨h2, .inr ⟨0, c, h1, ?_, ?_, .inr ⟨_, _, _, _, h3, fun i hi => ?_⟩⟩⟩, .inl rfl⟩
    · rcases h4 with rfl | ⟨rfl, _⟩
      · exact capFit_two _
      · exact capFit_mkX _
    · rcases h4 with rfl | ⟨rfl, _⟩
      · rw [capN_two]; exact Nat.le_refl _
      · rw [capN_mkX (by omega)]; exact Nat.le_refl _
    · rw [Nat.zero_add, h5 i (by rw [byts_len]; exact hi)]
      exact byts_get (getB_some hi)
theorem RdS.same {A A' : Mem} {rem : List UInt8} {x : Value} (h : RdS q A rem x) (hn : A.next ≤ A'.next) (hg : q < A.next → A'.get q = A.get q) : RdS q A' rem x := by
  obtain ⟨h0, h⟩ := h
  refine ⟨by omega, ?_⟩
  rcases h with h | ⟨off, cn, h1, h2, h3, h4⟩
  · exact .inl h
  · refine .inr ⟨off, cn, h1, h2, h3, ?_⟩
    rcases h4 with h4 | ⟨t, kd, fz, c, h4, h5⟩
    · exact .inl h4
    · exact .inr ⟨t, kd, fz, c, (hg h0).trans h4, h5⟩
theorem RdS.nil {A A' : Mem} {rem : List UInt8} (hq : q < A'.next) (h : RdS q A rem (.slice none 0 0)) : RdS q A' rem (.slice none 0 0) := by
  rcases h with ⟨_, h | ⟨off, cn, h1, _⟩⟩
  · exact ⟨hq, .inl h⟩
  · cases h1
theorem RdS.len {tb : Tab} {A : Mem} {rem : List UInt8} {x : Value} (h : RdS q A rem x) {t e : TypeId} (hu : tb.und t = some (.slice e)) : builtinPF tb .len [t] [x] = .ok (.int .i64 ((rem.length : Nat) : Int)) := by
  rcases h with ⟨_, ⟨rfl, rfl⟩ | ⟨off, cn, rfl, -⟩⟩ <;> exact len_slc hu
theorem RdS.head {tb : Tab} {A : Mem} {c : UInt8} {rem : List UInt8} {x : Value} (h : RdS q A (c :: rem) x) {t e : TypeId} (hu : tb.und t = some (.slice e)) (hs : sizeF tb e = .ok 1) (he : tb.und e = some (.int .u8)) :
    ∃ p, indexAddrF tb t x (.int .i64 ((0 : Nat) : Int)) = .ok (.pointer (some p)) ∧ loadF tb A.get e (.pointer (some p)) = .ok (.int .u8 ((c.toNat : Nat) : Int)) := by
  rcases h with ⟨_, ⟨_, h⟩ | ⟨off, cn, rfl, h2, h3, h4⟩⟩
  · cases h
  · refine ⟨⟨q, off + 0, none⟩, indexAddr_slc hu hs (by simp), ?_⟩
    rcases h4 with h4 | ⟨t2, kd, fz, cs, h4, h5⟩
    · cases h4
    · have h6 := h5 0 (by simp)
      unfold loadF
      simp only [h4, he, isAggD, cond_false, h6]
      rfl
theorem RdS.tail {tb : Tab} {A : Mem} {c : UInt8} {rem : List UInt8} {x : Value} (h : RdS q A (c :: rem) x) {t e : TypeId} (hu : tb.und t = some (.slice e)) (hs : sizeF tb e = .ok 1) :
    ∃ x', sliceF tb t x (some (.int .i64 ((1 : Nat) : Int))) none none = .ok x' ∧ RdS q A rem x' ∧ (x = .slice none 0 0 → x' = .slice none 0 0) := by
  rcases h with ⟨h0, ⟨_, h⟩ | ⟨off, cn, rfl, h2, h3, h4⟩⟩
  · cases h
  · have e1 : bound (some (.int .i64 ((1 : Nat) : Int))) 0 (rem.length + 1) = .ok 1 := bound_some (by omega)
    simp only [List.length_cons] at h3
    cases hx : capX cn && Nat.beq (capN cn) 1 with
    | true =>
      have hc1 : capN cn = 1 := Nat.eq_of_beq_eq_true (Bool.and_eq_true_iff.1 hx).2
      have hr : rem = [] := List.length_eq_zero_iff.1 (by omega)
      subst hr
      refine ⟨.slice (some ⟨q, off, none⟩) 0 0, ?_, ⟨h0, .inr ⟨off, 0, rfl, rfl, Nat.zero_le _, .inl rfl⟩⟩, fun h => by cases h⟩
      unfold sliceF
      simp only [hu, bound_none, R.ok_bind, e1, hs, hx, cond_true, List.length_cons, Nat.add_sub_cancel, List.length_nil] at e1 ⊢
    | false =>
      refine ⟨.slice (some ⟨q, off + 1, none⟩) rem.length (capSub cn 1), ?_, ⟨h0, .inr ⟨off + 1, _, rfl, capFit_sub 1 h2, by rw [capN_sub]; omega, ?_⟩⟩, fun h => by cases h⟩
      · unfold sliceF
        simp only [hu, bound_none, R.ok_bind, e1, hs, hx, cond_false, h2, cond_true, addA, Nat.mul_one, List.length_cons, Nat.add_sub_cancel]
      · rcases h4 with h4 | ⟨t2, kd, fz, cs, h4, h5⟩
        · cases h4
        · refine .inr ⟨t2, kd, fz, cs, h4, fun i hi => ?_⟩
          have h6 := h5 (i + 1) (by simp; omega)
          rw [show off + 1 + i = off + (i + 1) by omega]
          exact h6
theorem RdS.cut {tb : Tab} {A : Mem} {rem : List UInt8} {x : Value} (h : RdS q A rem x) {t e : TypeId} {n : Nat} (hu : tb.und t = some (.slice e)) (hs : sizeF tb e = .ok 1) (hn : n ≤ rem.length) :
    ∃ x', sliceF tb t x none (some (.int .i64 (n : Int))) none = .ok x' ∧ RdS q A (rem.take n) x' ∧ (x = .slice none 0 0 → x' = .slice none 0 0) := by
  rcases h with ⟨h0, ⟨rfl, rfl⟩ | ⟨off, cn, rfl, h2, h3, h4⟩⟩
  · have hn0 : n = 0 := by simpa using hn
    subst hn0
    refine ⟨.slice none 0 0, ?_, ⟨h0, .inl ⟨rfl, rfl⟩⟩, fun _ => rfl⟩
    have e1 : bound (some (.int .i64 ((0 : Nat) : Int))) 0 (capN 0) = .ok 0 := bound_some (Nat.zero_le _)
    unfold sliceF
    simp only [hu, e1, R.ok_bind, bound_none, hs]
  · have hl : (rem.take n).length = n := by rw [List.length_take]; omega
    have e1 : bound (some (.int .i64 (n : Int))) rem.length (capN cn) = .ok n := bound_some (by omega)
    cases hx : capX cn && Nat.beq (capN cn) 0 with
    | true =>
      have hc1 : capN cn = 0 := Nat.eq_of_beq_eq_true (Bool.and_eq_true_iff.1 hx).2
      have hn0 : n = 0 := by omega
      subst hn0
      refine ⟨.slice (some ⟨q, off, none⟩) 0 0, ?_, ⟨h0, .inr ⟨off, 0, by rw [hl], rfl, by rw [hl]; exact Nat.zero_le _, .inl (by simp)⟩⟩, fun h => by cases h⟩
      unfold sliceF
      simp only [hu, e1, R.ok_bind, bound_none, hs, hx, cond_true, Nat.sub_zero]
    | false =>
      refine ⟨.slice (some ⟨q, off, none⟩) n (capSub cn 0), ?_, ⟨h0, .inr ⟨off, _, by rw [hl], capFit_sub 0 h2, by rw [capN_sub]; omega, ?_⟩⟩, fun h => by cases h⟩
      · unfold sliceF
        simp only [hu, e1, R.ok_bind, bound_none, hs, hx, cond_false, h2, cond_true, addA, Nat.zero_mul, Nat.add_zero, Nat.sub_zero]
      · rcases h4 with h4 | ⟨t2, kd, fz, cs, h4, h5⟩
        · exact .inl (by rw [h4]; simp)
        · refine .inr ⟨t2, kd, fz, cs, h4, fun i hi => ?_⟩
          rw [hl] at hi
          rw [h5 i (by omega)]
          congr 3
          simp [List.getD, List.getElem?_take, hi]

/-- A reader's bytes, in memory. -/
def Rd (q : Nat) (A : Mem) (bb : Nat) (rem : List UInt8) : Prop := bb < A.next ∧ ∃ x, Vals A 22 bb (.var 1) [x] ∧ RdS q A rem x ∧ (bb = q → x = .slice none 0 0)
theorem RdS.self_cells {A : Mem} {rem : List UInt8} {x : Value} (h : RdS q A rem x) : x.cells.toList = [x] ∧ oneCell x = true ∧ sameV 100 x x = true := by
  rcases h with ⟨_, ⟨rfl, rfl⟩ | ⟨off, cn, rfl, -⟩⟩
  · exact ⟨rfl, rfl, rfl⟩
  · exact ⟨rfl, rfl, sameV_slc _ _ _ _⟩
/-- All blocks stay but one. -/
def Kp (bb : Nat) (A A' : Mem) : Prop := A.next ≤ A'.next ∧ ∀ y, y < A.next → y ≠ bb → A'.get y = A.get y
theorem Kp.refl (bb : Nat) (A : Mem) : Kp bb A A := ⟨Nat.le_refl _, fun _ _ _ => rfl⟩
theorem Kp.trans {bb : Nat} {A B C : Mem} (h : Kp bb A B) (h' : Kp bb B C) : Kp bb A C := ⟨Nat.le_trans h.1 h'.1, fun y hy hb => (h'.2 y (Nat.lt_of_lt_of_le hy h.1) hb).trans (h.2 y hy hb)⟩
theorem Kp.alloc (bb : Nat) (A : Mem) (o : Ob) : Kp bb A (A.alloc o) := ⟨by rw [next_alloc]; omega, fun y hy _ => get_alloc_ne (by omega)⟩
theorem Rd.alloc {A : Mem} {bb : Nat} {rem : List UInt8} (h : Rd q A bb rem) (o : Ob) : Rd q (A.alloc o) bb rem := by
  obtain ⟨h1, x, h2, h3, h4⟩ := h
  exact ⟨by rw [next_alloc]; omega, x, h2.same (get_alloc_ne (by omega)), h3.same (by rw [next_alloc]; omega) (fun h0 => get_alloc_ne (by omega)), h4⟩
theorem Rd.same {A A' : Mem} {bb : Nat} {rem : List UInt8} (h : Rd q A bb rem) (hn : A.next ≤ A'.next) (hg : ∀ y, y < A.next → y = bb ∨ y = q → A'.get y = A.get y) : Rd q A' bb rem := by
  obtain ⟨h1, x, h2, h3, h4⟩ := h
  exact ⟨by omega, x, h2.same (hg bb h1 (.inl rfl)), h3.same hn (fun h0 => hg q h0 (.inr rfl)), h4⟩
theorem Rd.qlt {A : Mem} {bb : Nat} {rem : List UInt8} (h : Rd q A bb rem) : q < A.next := by
  obtain ⟨_, _, _, h, _⟩ := h
  exact h.1
def nx (rem : List UInt8) : Nat := match rem with | [] => 0 | c :: _ => c.toNat
theorem nx_lt (rem : List UInt8) : nx rem < 256 := by
  cases rem with
  | nil => decide
  | cons c r => exact c.toNat_lt

noncomputable def c39 : Code := Try.f39.body.getD .skip
theorem c39_eq : Try.f39.body = some (.seq (sub c39 [0]) (.seq (.seq (sub c39 [1,0,0]) (sub c39 [1,0,1])) (.seq (sub c39 [1,1,0]) (sub c39 [1,1,1])))) := by kernel_rfl
theorem run_next {A : Mem} {bb : Nat} {rem : List UInt8} (h : Rd q A bb rem) : ∃ A', Ans tb1 39 [.pointer (some ⟨bb, 0, none⟩)] A (.int .i64 (nx rem : Nat)) A' ∧ Rd q A' bb rem.tail ∧ Kp bb A A' := by
  obtain ⟨h1, x, h2, h3, h4⟩ := h
  obtain ⟨v, A', ha, hv, hr, hk⟩ : ∃ v A', Ans tb1 39 [.pointer (some ⟨bb, 0, none⟩)] A v A' ∧ v = .int .i64 (nx rem : Nat) ∧ Rd q A' bb rem.tail ∧ Kp bb A A' := by
    refine ans_of_W (fn_at Try.func39) c39_eq (by rw [Try.ntmps39]; simp) (by kernel_rfl) (by kernel_rfl) ?_
    have lx := load_box (tb := tb1) und22 rfl h2
    have hlen := h3.len (tb := tb1) (t := 22) und22
    apply W.seq
    apply W.run 20
    · intro M
      simp (config := { maxSteps := 4000000 }) (disch := first | decide +kernel | omega) only [c39, Try.f39, Option.getD_some, sub_seq0, sub_nil, T.puts_cons, Nat.reduceAdd, T.puts_nil, exec_region, runOps_cons, opF_assign, ev_int, putT_some, runOps_nil, R.ok_bind]
      with_reducible rfl
    apply W.seq
    apply W.seq
    cases rem with
    | nil =>
      have e0 : ([] : List UInt8).length = 0 := rfl
      apply W.run 20
      · intro M
        simp (config := { maxSteps := 4000000 }) (disch := first | decide +kernel | omega) only [c39, Try.f39, Option.getD_some, sub_seq1, sub_seq0, sub_nil, exec_region, runOps_cons, opF_load, ev_tmp, T.get_set, Nat.reduceEqDiff, T.get_e, if_true, if_false, evG_some, putT_some, opF_len, evs, R.ok_bind, opF_ari, ev_int, runOps_nil, lx, hlen, e0, binF_int, op_gtr, cast_lt, Nat.lt_irrefl, decide_false]
        with_reducible rfl
      apply W.run 20
      · intro M
        simp (config := { maxSteps := 4000000 }) (disch := first | decide +kernel | omega) only [c39, Try.f39, Option.getD_some, sub_seq1, sub_seq0, sub_nil, exec_cond, ev_tmp, T.get_set, Nat.reduceEqDiff, T.get_e, if_false, if_true, evG_some, exec_draw, runOps_cons, opF_load, putT_some, opF_indexAddr, ev_int, opF_conv, opF_slice, evo, R.ok_bind, opF_assign, opF_store, putT_none, runOps_nil, exec_skip]
        with_reducible rfl
      show W tb1 _ _ _
      apply W.seq
      apply W.run 20
      · intro M
        simp (config := { maxSteps := 4000000 }) (disch := first | decide +kernel | omega) only [c39, Try.f39, Option.getD_some, sub_seq1, sub_seq0, sub_nil, exec_region, runOps_cons, opF_move, ev_tmp, T.get_set, Nat.reduceEqDiff, T.get_e, if_false, if_true, evG_some, putT_some, opF_assign, runOps_nil, R.ok_bind]
        with_reducible rfl
      apply W.run 20
      · intro M
        simp (config := { maxSteps := 4000000 }) (disch := first | decide +kernel | omega) only [c39, Try.f39, Option.getD_some, sub_seq1, sub_nil, exec_ret]
        with_reducible rfl
      refine ⟨.inr rfl, _, [.int .i64 ((0 : Nat) : Int)], rfl, ?_, rfl, ⟨h1, x, h2, h3, h4⟩, Kp.refl _ _⟩
      simp only [Try.f39, resF, ev_tmp, T.get_set, Nat.reduceEqDiff, if_true, if_false, evG_some, R.ok_bind]
    | cons c r =>
      have e0 : (c :: r).length = r.length + 1 := rfl
      have p0 : 0 < r.length + 1 := by omega
      obtain ⟨p, hi, hl⟩ := h3.head (tb := tb1) (t := 22) und22 size5 und5
      obtain ⟨x', hs, hr', hx'⟩ := h3.tail (tb := tb1) (t := 22) und22 size5
      obtain ⟨A2, hst, hv2, hn2, hf2⟩ := store_box (tb := tb1) (t := 22) size22 h2 hr'.self_cells.1 hr'.self_cells.2.1
      have hb := byte_lt c
      apply W.run 20
      · intro M
        simp (config := { maxSteps := 4000000 }) (disch := first | decide +kernel | omega) only [c39, Try.f39, Option.getD_some, sub_seq1, sub_seq0, sub_nil, exec_region, runOps_cons, opF_load, ev_tmp, T.get_set, Nat.reduceEqDiff, T.get_e, if_true, if_false, evG_some, putT_some, opF_len, evs, R.ok_bind, opF_ari, ev_int, runOps_nil, lx, hlen, e0, binF_int, op_gtr, cast_lt, p0, decide_true]
        with_reducible rfl
      apply W.run 20
      · intro M
        simp (config := { maxSteps := 4000000 }) (disch := first | decide +kernel | omega) only [c39, Try.f39, Option.getD_some, sub_seq1, sub_seq0, sub_nil, exec_cond, ev_tmp, T.get_set, Nat.reduceEqDiff, T.get_e, if_false, if_true, evG_some, exec_draw, runOps_cons, opF_load, putT_some, opF_indexAddr, ev_int, opF_conv, convPF, und5, und3, opF_slice, evo, R.ok_bind, opF_assign, opF_store, putT_none, runOps_nil, lx, hs, hst, hi, hl, wrapF_i64, exec_skip]
        with_reducible rfl
      show W tb1 _ _ _
      apply W.seq
      apply W.run 20
      · intro M
        simp (config := { maxSteps := 4000000 }) (disch := first | decide +kernel | omega) only [c39, Try.f39, Option.getD_some, sub_seq1, sub_seq0, sub_nil, exec_region, runOps_cons, opF_move, ev_tmp, T.get_set, Nat.reduceEqDiff, T.get_e, if_false, if_true, evG_some, putT_some, opF_assign, runOps_nil, R.ok_bind]
        with_reducible rfl
      apply W.run 20
      · intro M
        simp (config := { maxSteps := 4000000 }) (disch := first | decide +kernel | omega) only [c39, Try.f39, Option.getD_some, sub_seq1, sub_nil, exec_ret]
        with_reducible rfl
      refine ⟨.inr rfl, A2, [.int .i64 ((c.toNat : Nat) : Int)], rfl, ?_, rfl, ⟨by omega, x', hv2, ?_, ?_⟩, by omega, fun y _ hy => hf2 y hy⟩
      · simp only [Try.f39, resF, ev_tmp, T.get_set, Nat.reduceEqDiff, if_true, if_false, evG_some, R.ok_bind]
      · by_cases hb0 : bb = q
        · have hxn := hx' (h4 hb0)
          subst hxn
          exact hr'.nil (by have := hr'.1; omega)
        · exact hr'.same (by omega) (fun _ => hf2 q (fun e => hb0 e.symm))
      · exact fun h => hx' (h4 h)
  subst hv
  exact ⟨A', ha, hr, hk⟩
noncomputable def c40 : Code := Try.f40.body.getD .skip
theorem c40_eq : Try.f40.body = some (.seq (sub c40 [0]) (.seq (sub c40 [1,0]) (sub c40 [1,1]))) := by kernel_rfl
theorem run_left {A : Mem} {bb : Nat} {rem : List UInt8} (h : Rd q A bb rem) : Ans tb1 40 [.pointer (some ⟨bb, 0, none⟩)] A (.int .i64 (rem.length : Nat)) A := by
  obtain ⟨h1, x, h2, h3, h4⟩ := h
  obtain ⟨v, A', ha, rfl, rfl⟩ : ∃ v A', Ans tb1 40 [.pointer (some ⟨bb, 0, none⟩)] A v A' ∧ v = .int .i64 (rem.length : Nat) ∧ A' = A := by
    refine ans_of_W (fn_at Try.func40) c40_eq (by rw [Try.ntmps40]; simp) (by kernel_rfl) (by kernel_rfl) ?_
    have lx := load_box (tb := tb1) und22 rfl h2
    have hlen := h3.len (tb := tb1) (t := 22) und22
    apply W.seq
    apply W.run 20
    · intro M
      simp (config := { maxSteps := 4000000 }) (disch := first | decide +kernel | omega) only [c40, Try.f40, Option.getD_some, sub_seq0, sub_nil, T.puts_cons, Nat.reduceAdd, T.puts_nil, exec_region, runOps_cons, opF_assign, ev_int, putT_some, runOps_nil, R.ok_bind]
      with_reducible rfl
    apply W.seq
    apply W.run 20
    · intro M
      simp (config := { maxSteps := 4000000 }) (disch := first | decide +kernel | omega) only [c40, Try.f40, Option.getD_some, sub_seq1, sub_seq0, sub_nil, exec_region, runOps_cons, opF_load, ev_tmp, T.get_set, Nat.reduceEqDiff, T.get_e, if_true, if_false, evG_some, putT_some, opF_len, evs, R.ok_bind, opF_assign, runOps_nil, lx, hlen]
      with_reducible rfl
    apply W.run 20
    · intro M
      simp (config := { maxSteps := 4000000 }) (disch := first | decide +kernel | omega) only [c40, Try.f40, Option.getD_some, sub_seq1, sub_nil, exec_ret]
      with_reducible rfl
    refine ⟨.inr rfl, _, [.int .i64 ((rem.length : Nat) : Int)], rfl, ?_, rfl, rfl⟩
    simp only [Try.f40, resF, ev_tmp, T.get_set, Nat.reduceEqDiff, if_true, if_false, evG_some, R.ok_bind]
  exact ha
end Go.Proofs.Ytmhldlnlgjpkaaa.scr

/-
  Script: numbers, letters, words.
-/
namespace Go.Proofs.Ytmhldlnlgjpkaaa.scr
open Go.Am
variable {q : Nat}
set_option linter.unusedSimpArgs false
set_option linter.unusedVariables false

def rdV (bb : Nat) : List Value := [.func (.func 39) ⟨[]⟩ ⟨[.pointer (some ⟨bb, 0, none⟩)]⟩, .func (.func 40) ⟨[]⟩ ⟨[.pointer (some ⟨bb, 0, none⟩)]⟩]
theorem fa68_0 (b o : Nat) : fieldAddrF tb1 68 (.pointer (some ⟨b, o, none⟩)) 0 = .ok (.pointer (some ⟨b, o, none⟩)) := by kernel_rfl
theorem fa68_1 (b o : Nat) : fieldAddrF tb1 68 (.pointer (some ⟨b, o, none⟩)) 1 = .ok (.pointer (some ⟨b, o + 1, none⟩)) := by kernel_rfl
theorem und66 : ∃ d, tb1.und 66 = some d ∧ isAggD d = false := by
  have h : (tb1.und 66).map isAggD = some false := by kernel_rfl
  cases hq : tb1.und 66 with
  | none => rw [hq] at h; cases h
  | some d => rw [hq] at h; exact ⟨d, rfl, by simpa using h⟩
theorem next_val {A : Mem} {b bb : Nat} {k : Kd} (h : Vals A 68 b k (rdV bb)) : loadF tb1 A.get 66 (.pointer (some ⟨b, 0, none⟩)) = .ok (.func (.func 39) ⟨[]⟩ ⟨[.pointer (some ⟨bb, 0, none⟩)]⟩) := by
  obtain ⟨d, h1, h2⟩ := und66
  exact load_vals h1 h2 h rfl
theorem left_val {A : Mem} {b bb : Nat} {k : Kd} (h : Vals A 68 b k (rdV bb)) : loadF tb1 A.get 66 (.pointer (some ⟨b, 1, none⟩)) = .ok (.func (.func 40) ⟨[]⟩ ⟨[.pointer (some ⟨bb, 0, none⟩)]⟩) := by
  obtain ⟨d, h1, h2⟩ := und66
  exact load_vals h1 h2 h rfl
/-- A variable of several cells, whole. -/
theorem load_all {tb : Tab} {A : Mem} {e t : TypeId} {b : Nat} {k : Kd} {l : List Value} {d : TypeDesc} (hu : tb.und t = some d) (ha : isAggD d = true) (hs : sizeF tb t = .ok l.length) (h : Vals A e b k l) : loadF tb A.get t (.pointer (some ⟨b, 0, none⟩)) = .ok (.agg ⟨l⟩) := by
  obtain ⟨c, h1, h2⟩ := h
  have hg : c.gets l.length 0 = some l := gets_eq _ _ _ _ rfl fun j hj => by rw [Nat.zero_add]; exact h2 j hj
  unfold loadF
  simp only [h1, hu, ha, cond_true, hs, R.ok_bind, hg]
theorem und68 : ∃ d, tb1.und 68 = some d ∧ isAggD d = true := by
  have h : (tb1.und 68).map isAggD = some true := by kernel_rfl
  cases hq : tb1.und 68 with
  | none => rw [hq] at h; cases h
  | some d => rw [hq] at h; exact ⟨d, rfl, by simpa using h⟩
theorem rd_load {A : Mem} {b bb : Nat} {k : Kd} (h : Vals A 68 b k (rdV bb)) : loadF tb1 A.get 68 (.pointer (some ⟨b, 0, none⟩)) = .ok (.agg ⟨rdV bb⟩) := by
  obtain ⟨d, h1, h2⟩ := und68
  exact load_all h1 h2 (by rw [size68]; rfl) h
theorem vals_new {A : Mem} {e : TypeId} (l : List Value) : Vals (A.alloc (rowOb e l)) e A.next (.var l.length) l := vals_puts (get_alloc_self _ _)

/-! ### A number, a letter -/
def numV (rem : List UInt8) : Nat := if 250 ≤ nx rem then 60000 else nx rem
def letV (rem : List UInt8) : UInt8 := UInt8.ofNat (if nx rem < 128 then 97 + nx rem % 4 else nx rem)
theorem letV_nat (rem : List UInt8) : (letV rem).toNat = if nx rem < 128 then 97 + nx rem % 4 else nx rem := by
  have h := nx_lt rem
  unfold letV
  rw [UInt8.toNat_ofNat']
  split <;> omega
noncomputable def c44 : Code := Try.f44.body.getD .skip
theorem c44_eq : Try.f44.body = some (.seq (sub c44 [0]) (.seq (sub c44 [1,0]) (.seq (.seq (sub c44 [1,1,0,0]) (sub c44 [1,1,0,1])) (.seq (sub c44 [1,1,1,0]) (sub c44 [1,1,1,1]))))) := by kernel_rfl
theorem run_number {A : Mem} {bb : Nat} {rem : List UInt8} (h : Rd q A bb rem) : ∃ A', Ans tb1 44 [.agg ⟨rdV bb⟩] A (.int .u16 (numV rem : Nat)) A' ∧ Rd q A' bb rem.tail ∧ Kp bb A A' := by
  obtain ⟨v, A', ha, hv, hr, hk⟩ : ∃ v A', Ans tb1 44 [.agg ⟨rdV bb⟩] A v A' ∧ v = .int .u16 (numV rem : Nat) ∧ Rd q A' bb rem.tail ∧ Kp bb A A' := by
    refine ans_of_W (fn_at Try.func44) c44_eq (by rw [Try.ntmps44]; simp) (by kernel_rfl) (by kernel_rfl) ?_
    have hnv := next_val (vals_new (A := A) (e := 68) (rdV bb))
    obtain ⟨B, ⟨g, hg⟩, hr, hk⟩ := run_next (h.alloc (rowOb 68 (rdV bb)))
    have hlt := nx_lt rem
    apply W.seq
    apply W.run 20
    · intro M
      simp (config := { maxSteps := 4000000 }) (disch := first | decide +kernel | omega) only [c44, Try.f44, Option.getD_some, sub_seq0, sub_nil, T.puts_cons, Nat.reduceAdd, T.puts_nil, exec_region, runOps_cons, opF_box, ev_tmp, T.get_set, T.get_e, if_true, evG_some, at_ptr, putT_some, opF_assign, ev_int, runOps_nil, R.ok_bind, cells_agg]
      with_reducible rfl
    apply W.seq
    apply W.runG (g) 20
    · intro M hM
      simp (config := { maxSteps := 4000000 }) (disch := first | decide +kernel | omega) only [c44, Try.f44, Option.getD_some, sub_seq1, sub_seq0, sub_nil, exec_region, runOps_cons, opF_fieldAddr, ev_tmp, T.get_set, Nat.reduceEqDiff, T.get_e, if_false, if_true, evG_some, putT_some, opF_load, opF_callv, evs, resK, opF_assign, runOps_nil, R.ok_bind, fa68_0, hnv, callV_func, List.append_nil, List.nil_append, hg]
      with_reducible rfl
    apply W.seq
    apply W.seq
    by_cases h250 : 250 ≤ nx rem
    · apply W.run 20
      · intro M
        simp (config := { maxSteps := 4000000 }) (disch := first | decide +kernel | omega) only [c44, Try.f44, Option.getD_some, sub_seq1, sub_seq0, sub_nil, exec_region, runOps_cons, opF_move, ev_tmp, T.get_set, Nat.reduceEqDiff, T.get_e, if_false, if_true, evG_some, putT_some, opF_ari, ev_int, runOps_nil, R.ok_bind, binF_int, op_geq, cast_le, h250, decide_true]
        with_reducible rfl
      apply W.run 20
      · intro M
        simp (config := { maxSteps := 4000000 }) (disch := first | decide +kernel | omega) only [c44, Try.f44, Option.getD_some, sub_seq1, sub_seq0, sub_nil, exec_cond, ev_tmp, T.get_set, Nat.reduceEqDiff, T.get_e, if_false, if_true, evG_some, exec_seq, exec_region, runOps_cons, opF_assign, ev_int, putT_some, runOps_nil, R.ok_bind, exec_ret, exec_skip]
        with_reducible rfl
      refine ⟨.inr rfl, _, [.int .u16 ((60000 : Nat) : Int)], rfl, ?_, ?_, hr, (Kp.alloc bb A _).trans hk⟩
      · simp only [Try.f44, resF, ev_tmp, T.get_set, Nat.reduceEqDiff, if_true, if_false, evG_some, R.ok_bind]
      · show Value.int .u16 _ = _
        rw [numV, if_pos h250]
    · apply W.run 20
      · intro M
        simp (config := { maxSteps := 4000000 }) (disch := first | decide +kernel | omega) only [c44, Try.f44, Option.getD_some, sub_seq1, sub_seq0, sub_nil, exec_region, runOps_cons, opF_move, ev_tmp, T.get_set, Nat.reduceEqDiff, T.get_e, if_false, if_true, evG_some, putT_some, opF_ari, ev_int, runOps_nil, R.ok_bind, binF_int, op_geq, cast_le, h250, decide_false]
        with_reducible rfl
      apply W.run 20
      · intro M
        simp (config := { maxSteps := 4000000 }) (disch := first | decide +kernel | omega) only [c44, Try.f44, Option.getD_some, sub_seq1, sub_seq0, sub_nil, exec_cond, ev_tmp, T.get_set, Nat.reduceEqDiff, T.get_e, if_false, if_true, evG_some, exec_seq, exec_region, runOps_cons, opF_assign, ev_int, putT_some, runOps_nil, R.ok_bind, exec_ret, exec_skip]
        with_reducible rfl
      show W tb1 _ _ _
      apply W.seq
      have hw : wrapF .u16 ((nx rem : Nat) : Int) = ((nx rem : Nat) : Int) := by rw [wrapF_u16, Nat.mod_eq_of_lt (by omega)]
      apply W.run 20
      · intro M
        simp (config := { maxSteps := 4000000 }) (disch := first | decide +kernel | omega) only [c44, Try.f44, Option.getD_some, sub_seq1, sub_seq0, sub_nil, exec_region, runOps_cons, opF_move, ev_tmp, T.get_set, Nat.reduceEqDiff, T.get_e, if_false, if_true, evG_some, putT_some, opF_conv, convPF, und3, und43, opF_assign, runOps_nil, R.ok_bind, hw]
        with_reducible rfl
      apply W.run 20
      · intro M
        simp (config := { maxSteps := 4000000 }) (disch := first | decide +kernel | omega) only [c44, Try.f44, Option.getD_some, sub_seq1, sub_nil, exec_ret]
        with_reducible rfl
      refine ⟨.inr rfl, _, [.int .u16 ((nx rem : Nat) : Int)], rfl, ?_, ?_, hr, (Kp.alloc bb A _).trans hk⟩
      · simp only [Try.f44, resF, ev_tmp, T.get_set, Nat.reduceEqDiff, if_true, if_false, evG_some, R.ok_bind]
      · show Value.int .u16 _ = _
        rw [numV, if_neg h250]
  subst hv
  exact ⟨A', ha, hr, hk⟩
noncomputable def c63 : Code := Try.f63.body.getD .skip
theorem c63_eq : Try.f63.body = some (.seq (sub c63 [0]) (.seq (sub c63 [1,0]) (.seq (.seq (sub c63 [1,1,0,0]) (sub c63 [1,1,0,1])) (.seq (sub c63 [1,1,1,0]) (sub c63 [1,1,1,1]))))) := by kernel_rfl
theorem run_letter {A : Mem} {bb : Nat} {rem : List UInt8} (h : Rd q A bb rem) : ∃ A', Ans tb1 63 [.agg ⟨rdV bb⟩] A (.int .u8 (((letV rem).toNat : Nat) : Int)) A' ∧ Rd q A' bb rem.tail ∧ Kp bb A A' := by
  obtain ⟨v, A', ha, hv, hr, hk⟩ : ∃ v A', Ans tb1 63 [.agg ⟨rdV bb⟩] A v A' ∧ v = .int .u8 (((letV rem).toNat : Nat) : Int) ∧ Rd q A' bb rem.tail ∧ Kp bb A A' := by
    refine ans_of_W (fn_at Try.func63) c63_eq (by rw [Try.ntmps63]; simp) (by kernel_rfl) (by kernel_rfl) ?_
    have hnv := next_val (vals_new (A := A) (e := 68) (rdV bb))
    obtain ⟨B, ⟨g, hg⟩, hr, hk⟩ := run_next (h.alloc (rowOb 68 (rdV bb)))
    have hlt := nx_lt rem
    apply W.seq
    apply W.run 20
    · intro M
      simp (config := { maxSteps := 4000000 }) (disch := first | decide +kernel | omega) only [c63, Try.f63, Option.getD_some, sub_seq0, sub_nil, T.puts_cons, Nat.reduceAdd, T.puts_nil, exec_region, runOps_cons, opF_box, ev_tmp, T.get_set, T.get_e, if_true, evG_some, at_ptr, putT_some, opF_assign, ev_int, runOps_nil, R.ok_bind, cells_agg]
      with_reducible rfl
    apply W.seq
    apply W.runG (g) 20
    · intro M hM
      simp (config := { maxSteps := 4000000 }) (disch := first | decide +kernel | omega) only [c63, Try.f63, Option.getD_some, sub_seq1, sub_seq0, sub_nil, exec_region, runOps_cons, opF_fieldAddr, ev_tmp, T.get_set, Nat.reduceEqDiff, T.get_e, if_false, if_true, evG_some, putT_some, opF_load, opF_callv, evs, resK, opF_assign, runOps_nil, R.ok_bind, fa68_0, hnv, callV_func, List.append_nil, List.nil_append, hg]
      with_reducible rfl
    apply W.seq
    apply W.seq
    by_cases h128 : nx rem < 128
    · apply W.run 20
      · intro M
        simp (config := { maxSteps := 4000000 }) (disch := first | decide +kernel | omega) only [c63, Try.f63, Option.getD_some, sub_seq1, sub_seq0, sub_nil, exec_region, runOps_cons, opF_move, ev_tmp, T.get_set, Nat.reduceEqDiff, T.get_e, if_false, if_true, evG_some, putT_some, opF_ari, ev_int, runOps_nil, R.ok_bind, binF_int, op_lssI, cast_lt, h128, decide_true]
        with_reducible rfl
      apply W.run 20
      · intro M
        simp (config := { maxSteps := 4000000 }) (disch := first | decide +kernel | omega) only [c63, Try.f63, Option.getD_some, sub_seq1, sub_seq0, sub_nil, exec_cond, ev_tmp, T.get_set, Nat.reduceEqDiff, T.get_e, if_false, if_true, evG_some, exec_region, runOps_cons, opF_move, putT_some, opF_ari, ev_int, opF_assign, runOps_nil, R.ok_bind, binF_int, op_rem, op_add_i64, exec_skip]
        with_reducible rfl
      show W tb1 _ _ _
      apply W.seq
      have hw : wrapF .u8 ((97 + nx rem % 4 : Nat) : Int) = ((97 + nx rem % 4 : Nat) : Int) := by rw [wrapF_u8, Nat.mod_eq_of_lt (by omega)]
      apply W.run 20
      · intro M
        simp (config := { maxSteps := 4000000 }) (disch := first | decide +kernel | omega) only [c63, Try.f63, Option.getD_some, sub_seq1, sub_seq0, sub_nil, exec_region, runOps_cons, opF_move, ev_tmp, T.get_set, Nat.reduceEqDiff, T.get_e, if_false, if_true, evG_some, putT_some, opF_conv, convPF, und3, und5, opF_assign, runOps_nil, R.ok_bind, hw]
        with_reducible rfl
      apply W.run 20
      · intro M
        simp (config := { maxSteps := 4000000 }) (disch := first | decide +kernel | omega) only [c63, Try.f63, Option.getD_some, sub_seq1, sub_nil, exec_ret]
        with_reducible rfl
      refine ⟨.inr rfl, _, [.int .u8 ((97 + nx rem % 4 : Nat) : Int)], rfl, ?_, ?_, hr, (Kp.alloc bb A _).trans hk⟩
      · simp only [Try.f63, resF, ev_tmp, T.get_set, Nat.reduceEqDiff, if_true, if_false, evG_some, R.ok_bind]
      · show Value.int .u8 _ = _
        rw [letV_nat, if_pos h128]
    · apply W.run 20
      · intro M
        simp (config := { maxSteps := 4000000 }) (disch := first | decide +kernel | omega) only [c63, Try.f63, Option.getD_some, sub_seq1, sub_seq0, sub_nil, exec_region, runOps_cons, opF_move, ev_tmp, T.get_set, Nat.reduceEqDiff, T.get_e, if_false, if_true, evG_some, putT_some, opF_ari, ev_int, runOps_nil, R.ok_bind, binF_int, op_lssI, cast_lt, h128, decide_false]
        with_reducible rfl
      apply W.run 20
      · intro M
        simp (config := { maxSteps := 4000000 }) (disch := first | decide +kernel | omega) only [c63, Try.f63, Option.getD_some, sub_seq1, sub_seq0, sub_nil, exec_cond, ev_tmp, T.get_set, Nat.reduceEqDiff, T.get_e, if_false, if_true, evG_some, exec_region, runOps_cons, opF_move, putT_some, opF_ari, ev_int, opF_assign, runOps_nil, R.ok_bind, binF_int, op_rem, op_add_i64, exec_skip]
        with_reducible rfl
      show W tb1 _ _ _
      apply W.seq
      have hw : wrapF .u8 ((nx rem : Nat) : Int) = ((nx rem : Nat) : Int) := by rw [wrapF_u8, Nat.mod_eq_of_lt (by omega)]
      apply W.run 20
      · intro M
        simp (config := { maxSteps := 4000000 }) (disch := first | decide +kernel | omega) only [c63, Try.f63, Option.getD_some, sub_seq1, sub_seq0, sub_nil, exec_region, runOps_cons, opF_move, ev_tmp, T.get_set, Nat.reduceEqDiff, T.get_e, if_false, if_true, evG_some, putT_some, opF_conv, convPF, und3, und5, opF_assign, runOps_nil, R.ok_bind, hw]
        with_reducible rfl
      apply W.run 20
      · intro M
        simp (config := { maxSteps := 4000000 }) (disch := first | decide +kernel | omega) only [c63, Try.f63, Option.getD_some, sub_seq1, sub_nil, exec_ret]
        with_reducible rfl
      refine ⟨.inr rfl, _, [.int .u8 ((nx rem : Nat) : Int)], rfl, ?_, ?_, hr, (Kp.alloc bb A _).trans hk⟩
      · simp only [Try.f63, resF, ev_tmp, T.get_set, Nat.reduceEqDiff, if_true, if_false, evG_some, R.ok_bind]
      · show Value.int .u8 _ = _
        rw [letV_nat, if_neg h128]
  subst hv
  exact ⟨A', ha, hr, hk⟩

/-! ### Some of them -/
def shorts (l : List Nat) : List Value := l.map fun n : Nat => Value.int .u16 (n : Int)
theorem shorts_len (l : List Nat) : (shorts l).length = l.length := by simp [shorts]
def numbersD (rem : List UInt8) (k : Nat) : List Nat := (List.range k).map fun i => numV (rem.drop i)
def lettersD (rem : List UInt8) (k : Nat) : List UInt8 := (List.range k).map fun i => letV (rem.drop i)
theorem numbersD_succ (rem : List UInt8) (k : Nat) : numbersD rem (k + 1) = numbersD rem k ++ [numV (rem.drop k)] := by simp [numbersD, List.range_succ]
theorem lettersD_succ (rem : List UInt8) (k : Nat) : lettersD rem (k + 1) = lettersD rem k ++ [letV (rem.drop k)] := by simp [lettersD, List.range_succ]
theorem numbersD_len (rem : List UInt8) (k : Nat) : (numbersD rem k).length = k := by simp [numbersD]
theorem lettersD_len (rem : List UInt8) (k : Nat) : (lettersD rem k).length = k := by simp [lettersD]
theorem drop_tail (rem : List UInt8) (k : Nat) : (rem.drop k).tail = rem.drop (k + 1) := by rw [List.tail_drop]
theorem nil_slc (A : Mem) (e : TypeId) (b : Nat) : Slc A e b [] (.slice none 0 0) := .inl ⟨rfl, rfl⟩
theorem zc43 : zcellsF tb1 43 = .ok (1, [.int .u16 0]) := by kernel_rfl
theorem zc5 : zcellsF tb1 5 = .ok (1, [.int .u8 0]) := by kernel_rfl
theorem ty43 : ∃ i, tb1.ty.get 43 = some i ∧ i.bytes = 2 := by
  have h : (tb1.ty.get 43).map (·.bytes) = some 2 := by kernel_rfl
  cases hq : tb1.ty.get 43 with
  | none => rw [hq] at h; cases h
  | some i => rw [hq] at h; exact ⟨i, rfl, by simpa using h⟩
theorem ty5 : ∃ i, tb1.ty.get 5 = some i ∧ i.bytes = 1 := by
  have h : (tb1.ty.get 5).map (·.bytes) = some 1 := by kernel_rfl
  cases hq : tb1.ty.get 5 with
  | none => rw [hq] at h; cases h
  | some i => rw [hq] at h; exact ⟨i, rfl, by simpa using h⟩
theorem bs36 (a : Int) : buildSliceF tb1 36 1 [(0, .int .u16 a)] = .ok (rowOb 43 [.int .u16 a], .slc 1 2) := by kernel_rfl
theorem bs22 (a : Int) : buildSliceF tb1 22 1 [(0, .int .u8 a)] = .ok (rowOb 5 [.int .u8 a], .slc 1 2) := by kernel_rfl
noncomputable def c43 : Code := Try.f43.body.getD .skip
noncomputable def c43b1 : Code := sub c43 [1,0,1,0,0]
theorem c43_eq : Try.f43.body = some (.seq (sub c43 [0]) (.seq (.seq (sub c43 [1,0,0]) (.block 0 (.loop c43b1))) (.seq (sub c43 [1,1,0]) (sub c43 [1,1,1])))) := by kernel_rfl
set_option maxHeartbeats 2000000 in
theorem run_numbers {A : Mem} {bb : Nat} {rem : List UInt8} (h : Rd q A bb rem) (n : Nat) (hn : n ≤ 1000) : ∃ x A', Ans tb1 43 [.int .i64 (n : Nat), .func (.func 44) ⟨[.agg ⟨rdV bb⟩]⟩ ⟨[]⟩] A x A' ∧ Rd q A' bb (rem.drop n) ∧ Kp bb A A' ∧ ∃ b, A.next ≤ b ∧ Slc A' 43 b (shorts (numbersD rem n)) x := by
  have hq := h.qlt
  refine ans_of_W (fn_at Try.func43) c43_eq (by rw [Try.ntmps43]; simp) (by kernel_rfl) (by kernel_rfl) ?_
  have hbb := h.1
  apply W.seq
  apply W.run 20
  · intro M
    simp (config := { maxSteps := 4000000 }) (disch := first | decide +kernel | omega) only [c43, Try.f43, Option.getD_some, sub_seq0, sub_nil, T.puts_cons, Nat.reduceAdd, T.puts_nil, exec_region, runOps_cons, opF_assign, ev_nilslice, putT_some, runOps_nil, R.ok_bind]
    with_reducible rfl
  apply W.seq
  apply W.seq
  apply W.run 20
  · intro M
    simp (config := { maxSteps := 4000000 }) (disch := first | decide +kernel | omega) only [c43, Try.f43, Option.getD_some, sub_seq1, sub_seq0, sub_nil, exec_region, runOps_cons, opF_move, ev_tmp, T.get_set, Nat.reduceEqDiff, T.get_e, if_true, if_false, evG_some, putT_some, ev_int, runOps_nil, R.ok_bind]
    with_reducible rfl
  apply W.block
  refine W.up n (fun i t C => ∃ x b, Slc C 43 b (shorts (numbersD rem i)) x ∧ A.next ≤ b ∧ Rd q C bb (rem.drop i) ∧ Kp bb A C ∧ Sl t [(1, .func (.func 44) ⟨[.agg ⟨rdV bb⟩]⟩ ⟨[]⟩), (4, x), (5, .int .i64 (n : Int)), (6, .int .i64 (i : Int))]) ?_ (Nat.zero_le _) ⟨.slice none 0 0, A.next, nil_slc _ _ _, Nat.le_refl _, h, Kp.refl _ _, ?_⟩
  · rintro i t C hi ⟨x, b, hx, hb, hr, hk, g1, g4, g5, g6, -⟩
    by_cases hlt : i < n
    · obtain ⟨C1, ⟨g, hg⟩, hr1, hk1⟩ := run_number hr
      rw [drop_tail] at hr1
      have hn0 := hk.1
      have hn1 := hk1.1
      have hx1 : Slc C1 43 b (shorts (numbersD rem i)) x := hx.same hk1.1 (fun hl => hk1.2 b hl (by omega))
      have hE2 := get_alloc_self C1 (rowOb 43 [.int .u16 ((numV (rem.drop i) : Nat) : Int)])
      have hn2 : (C1.alloc (rowOb 43 [.int .u16 ((numV (rem.drop i) : Nat) : Int)])).next = C1.next + 1 := next_alloc _ _
      obtain ⟨ti, ht1, ht2⟩ := ty43
      have hx2 : Slc (C1.alloc (rowOb 43 [.int .u16 ((numV (rem.drop i) : Nat) : Int)])) 43 b (shorts (numbersD rem i)) x := hx1.same (by omega) (fun hl => get_alloc_ne (by omega))
      obtain ⟨x', C3, happ, hs3, hn3, hf3⟩ := hx2.append (tb := tb1) (st := 36) (xt := 36) und36 und36 zc43 ht1 (by omega) (by omega) (by rw [shorts_len, numbersD_len]; omega) hE2 rfl
      have hfr : ∀ y, y ≠ b → y < C1.next → C3.get y = C1.get y := fun y h1 h2 => by rw [hf3 y h1 (by omega), get_alloc_ne (by omega)]
      apply W.runG (g) 20
      · intro M hM
        simp (config := { maxSteps := 4000000 }) (disch := first | decide +kernel | omega) only [c43b1, c43, Try.f43, Option.getD_some, sub_seq1, sub_seq0, sub_block, sub_loop, sub_nil, exec_seq, exec_region, runOps_cons, opF_ari, ev_tmp, g6, evG_some, g5, putT_some, runOps_nil, R.ok_bind, binF_int, op_lssI, cast_lt, hlt, decide_true, exec_cond, exec_skip, exec_exit, exec_block, opF_move, ev_int, T.get_set, if_true, Nat.reduceEqDiff, g4, if_false, g1, opF_callv, evs, resK, opF_buildSlice, evp, opF_builtin, opF_assign, builtin_append, callV_func, List.append_nil, hg, bs36, at_slc, happ, op_add_i64]
        with_reducible rfl
      refine ⟨hlt, _, _, rfl, x', (C1.alloc (rowOb 43 [.int .u16 ((numV (rem.drop i) : Nat) : Int)])).next, ?_, by omega, ?_, ⟨by omega, ?_⟩, ?_⟩
      · have e : shorts (numbersD rem (i + 1)) = shorts (numbersD rem i) ++ [.int .u16 ((numV (rem.drop i) : Nat) : Int)] := by rw [numbersD_succ]; simp [shorts]
        rw [e]; exact hs3
      · exact hr1.same (by omega) (fun y hy hyb => hfr y (by omega) hy)
      · intro y hy hyb
        rw [hfr y (by omega) (by omega), hk1.2 y (by omega) hyb, hk.2 y hy hyb]
      · simp only [Sl_cons, Sl_nil, T.get_set, T.puts_cons, T.puts_nil, Nat.reduceEqDiff, Nat.reduceAdd, if_true, if_false, and_true, true_and, g1, g5]
    · have hin : i = n := by omega
      subst hin
      apply W.run 20
      · intro M
        simp (config := { maxSteps := 4000000 }) (disch := first | decide +kernel | omega) only [c43b1, c43, Try.f43, Option.getD_some, sub_seq1, sub_seq0, sub_block, sub_loop, sub_nil, exec_seq, exec_region, runOps_cons, opF_ari, ev_tmp, g6, evG_some, g5, putT_some, runOps_nil, R.ok_bind, binF_int, op_lssI, cast_lt, Nat.lt_irrefl, decide_false, exec_cond, exec_skip, exec_exit, exec_block, opF_move, ev_int, T.get_set, if_true]
        with_reducible rfl
      show W tb1 _ _ _
      apply W.seq
      apply W.run 20
      · intro M
        simp (config := { maxSteps := 4000000 }) (disch := first | decide +kernel | omega) only [c43, Try.f43, Option.getD_some, sub_seq1, sub_seq0, sub_nil, exec_region, runOps_cons, opF_move, ev_tmp, T.get_set, Nat.reduceEqDiff, g4, if_false, evG_some, putT_some, opF_assign, if_true, runOps_nil, R.ok_bind]
        with_reducible rfl
      apply W.run 20
      · intro M
        simp (config := { maxSteps := 4000000 }) (disch := first | decide +kernel | omega) only [c43, Try.f43, Option.getD_some, sub_seq1, sub_nil, exec_ret]
        with_reducible rfl
      refine ⟨.inr rfl, _, [x], rfl, ?_, hr, hk, b, hb, hx⟩
      simp only [Try.f43, resF, ev_tmp, T.get_set, Nat.reduceEqDiff, if_true, if_false, evG_some, R.ok_bind]
  · simp only [Sl_cons, Sl_nil, T.get_set, T.puts_cons, T.puts_nil, Nat.reduceEqDiff, Nat.reduceAdd, if_true, if_false, and_true, true_and]
noncomputable def c62 : Code := Try.f62.body.getD .skip
noncomputable def c62b1 : Code := sub c62 [1,0,1,0,0]
theorem c62_eq : Try.f62.body = some (.seq (sub c62 [0]) (.seq (.seq (sub c62 [1,0,0]) (.block 0 (.loop c62b1))) (.seq (sub c62 [1,1,0]) (sub c62 [1,1,1])))) := by kernel_rfl
set_option maxHeartbeats 2000000 in
theorem run_letters {A : Mem} {bb : Nat} {rem : List UInt8} (h : Rd q A bb rem) (n : Nat) (hn : n ≤ 1000) : ∃ x A', Ans tb1 62 [.int .i64 (n : Nat), .func (.func 63) ⟨[.agg ⟨rdV bb⟩]⟩ ⟨[]⟩] A x A' ∧ Rd q A' bb (rem.drop n) ∧ Kp bb A A' ∧ ∃ b, A.next ≤ b ∧ Slc A' 5 b (byts (lettersD rem n)) x := by
  have hq := h.qlt
  refine ans_of_W (fn_at Try.func62) c62_eq (by rw [Try.ntmps62]; simp) (by kernel_rfl) (by kernel_rfl) ?_
  have hbb := h.1
  apply W.seq
  apply W.run 20
  · intro M
    simp (config := { maxSteps := 4000000 }) (disch := first | decide +kernel | omega) only [c62, Try.f62, Option.getD_some, sub_seq0, sub_nil, T.puts_cons, Nat.reduceAdd, T.puts_nil, exec_region, runOps_cons, opF_assign, ev_nilslice, putT_some, runOps_nil, R.ok_bind]
    with_reducible rfl
  apply W.seq
  apply W.seq
  apply W.run 20
  · intro M
    simp (config := { maxSteps := 4000000 }) (disch := first | decide +kernel | omega) only [c62, Try.f62, Option.getD_some, sub_seq1, sub_seq0, sub_nil, exec_region, runOps_cons, opF_move, ev_tmp, T.get_set, Nat.reduceEqDiff, T.get_e, if_true, if_false, evG_some, putT_some, ev_int, runOps_nil, R.ok_bind]
    with_reducible rfl
  apply W.block
  refine W.up n (fun i t C => ∃ x b, Slc C 5 b (byts (lettersD rem i)) x ∧ A.next ≤ b ∧ Rd q C bb (rem.drop i) ∧ Kp bb A C ∧ Sl t [(1, .func (.func 63) ⟨[.agg ⟨rdV bb⟩]⟩ ⟨[]⟩), (4, x), (5, .int .i64 (n : Int)), (6, .int .i64 (i : Int))]) ?_ (Nat.zero_le _) ⟨.slice none 0 0, A.next, nil_slc _ _ _, Nat.le_refl _, h, Kp.refl _ _, ?_⟩
  · rintro i t C hi ⟨x, b, hx, hb, hr, hk, g1, g4, g5, g6, -⟩
    by_cases hlt : i < n
    · obtain ⟨C1, ⟨g, hg⟩, hr1, hk1⟩ := run_letter hr
      rw [drop_tail] at hr1
      have hn0 := hk.1
      have hn1 := hk1.1
      have hx1 : Slc C1 5 b (byts (lettersD rem i)) x := hx.same hk1.1 (fun hl => hk1.2 b hl (by omega))
      have hE2 := get_alloc_self C1 (rowOb 5 [.int .u8 (((letV (rem.drop i)).toNat : Nat) : Int)])
      have hn2 : (C1.alloc (rowOb 5 [.int .u8 (((letV (rem.drop i)).toNat : Nat) : Int)])).next = C1.next + 1 := next_alloc _ _
      obtain ⟨ti, ht1, ht2⟩ := ty5
      have hx2 : Slc (C1.alloc (rowOb 5 [.int .u8 (((letV (rem.drop i)).toNat : Nat) : Int)])) 5 b (byts (lettersD rem i)) x := hx1.same (by omega) (fun hl => get_alloc_ne (by omega))
      obtain ⟨x', C3, happ, hs3, hn3, hf3⟩ := hx2.append (tb := tb1) (st := 22) (xt := 22) und22 und22 zc5 ht1 (by omega) (by omega) (by rw [byts_len, lettersD_len]; omega) hE2 rfl
      have hfr : ∀ y, y ≠ b → y < C1.next → C3.get y = C1.get y := fun y h1 h2 => by rw [hf3 y h1 (by omega), get_alloc_ne (by omega)]
      apply W.runG (g) 20
      · intro M hM
        simp (config := { maxSteps := 4000000 }) (disch := first | decide +kernel | omega) only [c62b1, c62, Try.f62, Option.getD_some, sub_seq1, sub_seq0, sub_block, sub_loop, sub_nil, exec_seq, exec_region, runOps_cons, opF_ari, ev_tmp, g6, evG_some, g5, putT_some, runOps_nil, R.ok_bind, binF_int, op_lssI, cast_lt, hlt, decide_true, exec_cond, exec_skip, exec_exit, exec_block, opF_move, ev_int, T.get_set, if_true, Nat.reduceEqDiff, g4, if_false, g1, opF_callv, evs, resK, opF_buildSlice, evp, opF_builtin, opF_assign, builtin_append, callV_func, List.append_nil, hg, bs22, at_slc, happ, op_add_i64]
        with_reducible rfl
      refine ⟨hlt, _, _, rfl, x', (C1.alloc (rowOb 5 [.int .u8 (((letV (rem.drop i)).toNat : Nat) : Int)])).next, ?_, by omega, ?_, ⟨by omega, ?_⟩, ?_⟩
      · have e : byts (lettersD rem (i + 1)) = byts (lettersD rem i) ++ [.int .u8 (((letV (rem.drop i)).toNat : Nat) : Int)] := by rw [lettersD_succ]; simp [byts]
        rw [e]; exact hs3
      · exact hr1.same (by omega) (fun y hy hyb => hfr y (by omega) hy)
      · intro y hy hyb
        rw [hfr y (by omega) (by omega), hk1.2 y (by omega) hyb, hk.2 y hy hyb]
      · simp only [Sl_cons, Sl_nil, T.get_set, T.puts_cons, T.puts_nil, Nat.reduceEqDiff, Nat.reduceAdd, if_true, if_false, and_true, true_and, g1, g5]
    · have hin : i = n := by omega
      subst hin
      apply W.run 20
      · intro M
        simp (config := { maxSteps := 4000000 }) (disch := first | decide +kernel | omega) only [c62b1, c62, Try.f62, Option.getD_some, sub_seq1, sub_seq0, sub_block, sub_loop, sub_nil, exec_seq, exec_region, runOps_cons, opF_ari, ev_tmp, g6, evG_some, g5, putT_some, runOps_nil, R.ok_bind, binF_int, op_lssI, cast_lt, Nat.lt_irrefl, decide_false, exec_cond, exec_skip, exec_exit, exec_block, opF_move, ev_int, T.get_set, if_true]
        with_reducible rfl
      show W tb1 _ _ _
      apply W.seq
      apply W.run 20
      · intro M
        simp (config := { maxSteps := 4000000 }) (disch := first | decide +kernel | omega) only [c62, Try.f62, Option.getD_some, sub_seq1, sub_seq0, sub_nil, exec_region, runOps_cons, opF_move, ev_tmp, T.get_set, Nat.reduceEqDiff, g4, if_false, evG_some, putT_some, opF_assign, if_true, runOps_nil, R.ok_bind]
        with_reducible rfl
      apply W.run 20
      · intro M
        simp (config := { maxSteps := 4000000 }) (disch := first | decide +kernel | omega) only [c62, Try.f62, Option.getD_some, sub_seq1, sub_nil, exec_ret]
        with_reducible rfl
      refine ⟨.inr rfl, _, [x], rfl, ?_, hr, hk, b, hb, hx⟩
      simp only [Try.f62, resF, ev_tmp, T.get_set, Nat.reduceEqDiff, if_true, if_false, evG_some, R.ok_bind]
  · simp only [Sl_cons, Sl_nil, T.get_set, T.puts_cons, T.puts_nil, Nat.reduceEqDiff, Nat.reduceAdd, if_true, if_false, and_true, true_and]

/-! ### A word -/
theorem slc_str {tb : Tab} {A : Mem} {b : Nat} {l : List UInt8} {x : Value} {s d : TypeId} (h1 : tb.und s = some (.slice 5)) (h2 : tb.und d = some .string) (h3 : tb.und 5 = some (.int .u8)) (h : Slc A 5 b (byts l) x) : convRF tb A.get s d x = .ok (strOf l) := by
  rcases h with ⟨rfl, hl⟩ | ⟨k, c, rfl, h4, h5, h6⟩
  · have : l = [] := by cases l with
      | nil => rfl
      | cons _ _ => simp [byts] at hl
    subst this
    unfold convRF
    simp only [h1, h2, h3]
    rfl
  · have hb : Byt A b 5 k l := by
      obtain ⟨cs, e1, e2⟩ := h5
      exact ⟨cs, e1, fun i hi => e2 i (by rw [byts_len]; exact hi)⟩
    rw [byts_len]
    exact str_of_byt h1 h2 h3 hb
def wordD (rem : List UInt8) : List UInt8 × List UInt8 :=
  if 248 ≤ nx rem then (List.replicate (32 * (nx rem - 248 + 1)) 120, rem.tail) else (lettersD rem.tail (nx rem % 8), rem.tail.drop (nx rem % 8))
theorem wordD_len (rem : List UInt8) : (wordD rem).1.length ≤ 256 := by
  have h := nx_lt rem
  unfold wordD
  split
  · simp only [List.length_replicate]; omega
  · simp only [lettersD_len]; omega
noncomputable def c41 : Code := Try.f41.body.getD .skip
theorem c41_eq : Try.f41.body = some (.seq (sub c41 [0]) (.seq (sub c41 [1,0]) (.seq (.seq (sub c41 [1,1,0,0]) (sub c41 [1,1,0,1])) (.seq (sub c41 [1,1,1,0]) (sub c41 [1,1,1,1]))))) := by kernel_rfl
theorem run_word {A : Mem} {bb : Nat} {rem : List UInt8} (h : Rd q A bb rem) : ∃ A', Ans tb1 41 [.agg ⟨rdV bb⟩] A (strOf (wordD rem).1) A' ∧ Rd q A' bb (wordD rem).2 ∧ Kp bb A A' := by
  obtain ⟨v, A', ha, hv, hr, hk⟩ : ∃ v A', Ans tb1 41 [.agg ⟨rdV bb⟩] A v A' ∧ v = strOf (wordD rem).1 ∧ Rd q A' bb (wordD rem).2 ∧ Kp bb A A' := by
    refine ans_of_W (fn_at Try.func41) c41_eq (by rw [Try.ntmps41]; simp) (by kernel_rfl) (by kernel_rfl) ?_
    have hnv := next_val (vals_new (A := A) (e := 68) (rdV bb))
    obtain ⟨B, ⟨g, hg⟩, hr, hk⟩ := run_next (h.alloc (rowOb 68 (rdV bb)))
    have hlt := nx_lt rem
    have hbb := h.1
    apply W.seq
    apply W.run 20
    · intro M
      simp (config := { maxSteps := 4000000 }) (disch := first | decide +kernel | omega) only [c41, Try.f41, Option.getD_some, sub_seq0, sub_nil, T.puts_cons, Nat.reduceAdd, T.puts_nil, exec_region, runOps_cons, opF_box, ev_tmp, T.get_set, T.get_e, if_true, evG_some, at_ptr, putT_some, opF_assign, ev_str, runOps_nil, R.ok_bind, cells_agg]
      with_reducible rfl
    apply W.seq
    apply W.runG (g) 20
    · intro M hM
      simp (config := { maxSteps := 4000000 }) (disch := first | decide +kernel | omega) only [c41, Try.f41, Option.getD_some, sub_seq1, sub_seq0, sub_nil, exec_region, runOps_cons, opF_fieldAddr, ev_tmp, T.get_set, Nat.reduceEqDiff, T.get_e, if_false, if_true, evG_some, putT_some, opF_load, opF_callv, evs, resK, opF_assign, runOps_nil, R.ok_bind, fa68_0, hnv, callV_func, List.append_nil, List.nil_append, hg]
      with_reducible rfl
    apply W.seq
    apply W.seq
    by_cases h248 : 248 ≤ nx rem
    · have hw : wordD rem = (List.replicate (32 * (nx rem - 248 + 1)) 120, rem.tail) := by unfold wordD; rw [if_pos h248]
      apply W.run 20
      · intro M
        simp (config := { maxSteps := 4000000 }) (disch := first | decide +kernel | omega) only [c41, Try.f41, Option.getD_some, sub_seq1, sub_seq0, sub_nil, exec_region, runOps_cons, opF_move, ev_tmp, T.get_set, Nat.reduceEqDiff, T.get_e, if_false, if_true, evG_some, putT_some, opF_ari, ev_int, runOps_nil, R.ok_bind, binF_int, op_geq, cast_le, h248, decide_true]
        with_reducible rfl
      apply W.run 20
      · intro M
        simp (config := { maxSteps := 4000000 }) (disch := first | decide +kernel | omega) only [c41, Try.f41, Option.getD_some, sub_seq1, sub_seq0, sub_nil, exec_cond, ev_tmp, T.get_set, Nat.reduceEqDiff, T.get_e, if_false, if_true, evG_some, exec_seq, exec_region, runOps_cons, opF_move, putT_some, opF_ari, ev_int, opF_call, evs, ev_str, R.ok_bind, resK, opF_assign, runOps_nil, binF_int, op_sub_i64, op_add_i64, op_mul_i64, k20, exec_ret, exec_skip]
        with_reducible rfl
      refine ⟨.inr rfl, _, [strOf (List.replicate (32 * (nx rem - 248 + 1)) 120)], rfl, ?_, ?_, ?_, (Kp.alloc bb A _).trans hk⟩
      · simp only [Try.f41, resF, ev_tmp, T.get_set, Nat.reduceEqDiff, if_true, if_false, evG_some, R.ok_bind]
      · show strOf _ = _
        rw [hw]
      · rw [hw]; exact hr
    · have hw : wordD rem = (lettersD rem.tail (nx rem % 8), rem.tail.drop (nx rem % 8)) := by unfold wordD; rw [if_neg h248]
      apply W.run 20
      · intro M
        simp (config := { maxSteps := 4000000 }) (disch := first | decide +kernel | omega) only [c41, Try.f41, Option.getD_some, sub_seq1, sub_seq0, sub_nil, exec_region, runOps_cons, opF_move, ev_tmp, T.get_set, Nat.reduceEqDiff, T.get_e, if_false, if_true, evG_some, putT_some, opF_ari, ev_int, runOps_nil, R.ok_bind, binF_int, op_geq, cast_le, h248, decide_false]
        with_reducible rfl
      apply W.run 20
      · intro M
        simp (config := { maxSteps := 4000000 }) (disch := first | decide +kernel | omega) only [c41, Try.f41, Option.getD_some, sub_seq1, sub_seq0, sub_nil, exec_cond, ev_tmp, T.get_set, Nat.reduceEqDiff, T.get_e, if_false, if_true, evG_some, exec_seq, exec_region, runOps_cons, opF_move, putT_some, opF_ari, ev_int, opF_call, evs, ev_str, R.ok_bind, resK, opF_assign, runOps_nil, binF_int, op_sub_neg, exec_ret, exec_skip]
        with_reducible rfl
      show W tb1 _ _ _
      apply W.seq
      have hvB : Vals B 68 A.next (.var 2) (rdV bb) := (vals_new (A := A) (e := 68) (rdV bb)).same (hk.2 A.next (by rw [next_alloc]; omega) (by omega))
      have hrl := rd_load hvB
      obtain ⟨x, C, ⟨g2, hg2⟩, hr2, hk2, b, hb, hx⟩ := run_letters hr (nx rem % 8) (by omega)
      have hst := slc_str (tb := tb1) (s := 22) (d := 9) und22 und9 und5 hx
      apply W.runG (g2) 20
      · intro M hM
        simp (config := { maxSteps := 4000000 }) (disch := first | decide +kernel | omega) only [c41, Try.f41, Option.getD_some, sub_seq1, sub_seq0, sub_nil, exec_region, runOps_cons, opF_move, ev_tmp, T.get_set, Nat.reduceEqDiff, T.get_e, if_false, if_true, evG_some, putT_some, opF_ari, ev_int, opF_load, opF_makeFunc, evs, R.ok_bind, opF_call, resK, opF_convStr _ _ _ _ _ _ _ _ _ _ und22 und9, opF_assign, runOps_nil, hrl, binF_int, op_rem, hg2, hst]
        with_reducible rfl
      apply W.run 20
      · intro M
        simp (config := { maxSteps := 4000000 }) (disch := first | decide +kernel | omega) only [c41, Try.f41, Option.getD_some, sub_seq1, sub_nil, exec_ret]
        with_reducible rfl
      refine ⟨.inr rfl, _, [strOf (lettersD rem.tail (nx rem % 8))], rfl, ?_, ?_, ?_, ((Kp.alloc bb A _).trans hk).trans hk2⟩
      · simp only [Try.f41, resF, ev_tmp, T.get_set, Nat.reduceEqDiff, if_true, if_false, evG_some, R.ok_bind]
      · show strOf _ = _
        rw [hw]
      · rw [hw]; exact hr2
  subst hv
  exact ⟨A', ha, hr, hk⟩
end Go.Proofs.Ytmhldlnlgjpkaaa.scr

/-
  Script: openings.
-/
namespace Go.Proofs.Ytmhldlnlgjpkaaa.scr
open Go.Am
variable {q : Nat}
set_option linter.unusedSimpArgs false
set_option linter.unusedVariables false

theorem und41 : ∃ d, tb1.und 41 = some d ∧ isAggD d = true := by
  have h : (tb1.und 41).map isAggD = some true := by kernel_rfl
  cases hq : tb1.und 41 with
  | none => rw [hq] at h; cases h
  | some d => rw [hq] at h; exact ⟨d, rfl, by simpa using h⟩
theorem size3 : sizeF tb1 3 = .ok 1 := by kernel_rfl
theorem size36 : sizeF tb1 36 = .ok 1 := by kernel_rfl
theorem zero41 : zeroF tb1 41 = .ok (.agg ⟨[.int .i64 0, .slice none 0 0]⟩) := by kernel_rfl
theorem bf41 (a : Int) : buildF tb1 41 [(0, .int .i64 a)] = .ok (.agg ⟨[.int .i64 a, .slice none 0 0]⟩) := by kernel_rfl
theorem fa41_1 (b : Nat) : fieldAddrF tb1 41 (.pointer (some ⟨b, 0, none⟩)) 1 = .ok (.pointer (some ⟨b, 1, none⟩)) := by kernel_rfl

/-- Shorts in a slice of their own, in blocks of a kind. -/
def StR (P : Nat → Prop) (A : Mem) (l : List Nat) (x : Value) : Prop := (x = .slice none 0 0 ∧ l = []) ∨ ∃ b, P b ∧ b < A.next ∧ Slc A 43 b (shorts l) x
theorem StR.of {P : Nat → Prop} {A : Mem} {b : Nat} {l : List Nat} {x : Value} (h : Slc A 43 b (shorts l) x) (hp : P b) : StR P A l x := by
  rcases h with ⟨h1, h2⟩ | ⟨k, c, h1, h2, h3⟩
  · exact .inl ⟨h1, by cases l with
      | nil => rfl
      | cons _ _ => simp [shorts] at h2⟩
  · exact .inr ⟨b, hp, h2, .inr ⟨k, c, h1, h2, h3⟩⟩
theorem StR.same {P Q : Nat → Prop} {A A' : Mem} {l : List Nat} {x : Value} (h : StR P A l x) (hn : A.next ≤ A'.next) (hg : ∀ b, P b → b < A.next → Q b ∧ A'.get b = A.get b) : StR Q A' l x := by
  rcases h with h | ⟨b, h1, h2, h3⟩
  · exact .inl h
  · exact .inr ⟨b, (hg b h1 h2).1, by omega, h3.same hn (fun _ => (hg b h1 h2).2)⟩
theorem StR.cells {P : Nat → Prop} {A : Mem} {l : List Nat} {x : Value} (h : StR P A l x) : x.cells.toList = [x] ∧ oneCell x = true := by
  rcases h with ⟨rfl, -⟩ | ⟨b, -, -, h⟩
  · exact ⟨rfl, rfl⟩
  · exact ⟨h.cells, h.one⟩
theorem StR.len {P : Nat → Prop} {A : Mem} {l : List Nat} {x : Value} (h : StR P A l x) : builtinPF tb1 .len [36] [x] = .ok (.int .i64 ((l.length : Nat) : Int)) := by
  rcases h with ⟨rfl, rfl⟩ | ⟨b, -, -, h⟩
  · exact len_slc und36
  · rw [h.len (tb := tb1) (t := 36) und36, shorts_len]

def openV (rem : List UInt8) : Nat × List Nat := (1 + nx rem, numbersD (rem.drop 2) (nx rem.tail % 4))
def openRest (rem : List UInt8) : List UInt8 := (rem.drop 2).drop (nx rem.tail % 4)
/-- An opening that stops, as two cells. -/
def OpR (P : Nat → Prop) (A : Mem) (d : Nat × List Nat) (l : List Value) : Prop := ∃ xs, l = [.int .i64 (d.1 : Int), xs] ∧ StR P A d.2 xs
theorem OpR.same {P Q : Nat → Prop} {A A' : Mem} {d : Nat × List Nat} {l : List Value} (h : OpR P A d l) (hn : A.next ≤ A'.next) (hg : ∀ b, P b → b < A.next → Q b ∧ A'.get b = A.get b) : OpR Q A' d l := by
  obtain ⟨xs, h1, h2⟩ := h
  exact ⟨xs, h1, h2.same hn hg⟩
theorem OpR.cells {P : Nat → Prop} {A : Mem} {d : Nat × List Nat} {l : List Value} (h : OpR P A d l) : l.length = 2 ∧ ∀ v ∈ l, oneCell v = true := by
  obtain ⟨xs, rfl, h2⟩ := h
  refine ⟨rfl, fun v hv => ?_⟩
  simp only [List.mem_cons, List.not_mem_nil, or_false] at hv
  rcases hv with rfl | rfl
  · rfl
  · exact h2.cells.2

theorem sameV_rd (bb : Nat) : sameV 100 (.agg ⟨rdV bb⟩) (.agg ⟨rdV bb⟩) = true := by
  have h1 : ∀ d, sameV (d + 1) (.pointer (some ⟨bb, 0, none⟩)) (.pointer (some ⟨bb, 0, none⟩)) = true := fun d => by simp [sameV, sameA, sameN]
  have h2 : ∀ d f, sameV (d + 2) (.func (.func f) ⟨[]⟩ ⟨[.pointer (some ⟨bb, 0, none⟩)]⟩) (.func (.func f) ⟨[]⟩ ⟨[.pointer (some ⟨bb, 0, none⟩)]⟩) = true := fun d f => by
    rw [sameV]
    simp [sameFn, h1]
  show sameV (97 + 3) _ _ = true
  rw [sameV]
  simp [rdV, h2]
theorem drop2 (rem : List UInt8) : rem.drop 2 = rem.tail.tail := by
  cases rem with
  | nil => rfl
  | cons a r => cases r <;> rfl
noncomputable def c46 : Code := Try.f46.body.getD .skip
theorem c46_eq : Try.f46.body = some (.seq (sub c46 [0]) (.seq (sub c46 [1,0]) (.seq (sub c46 [1,1,0]) (.seq (sub c46 [1,1,1,0]) (sub c46 [1,1,1,1]))))) := by kernel_rfl
set_option maxHeartbeats 2000000 in
theorem run_opening {A : Mem} {bb : Nat} {rem : List UInt8} (h : Rd q A bb rem) : ∃ l A', Ans tb1 46 [.agg ⟨rdV bb⟩] A (.agg ⟨l⟩) A' ∧ OpR (fun b => A.next ≤ b) A' (openV rem) l ∧ Rd q A' bb (openRest rem) ∧ Kp bb A A' := by
  have hq := h.qlt
  obtain ⟨v, A', ha, l, hv, ho, hr, hk⟩ : ∃ v A', Ans tb1 46 [.agg ⟨rdV bb⟩] A v A' ∧ ∃ l, v = .agg ⟨l⟩ ∧ OpR (fun b => A.next ≤ b) A' (openV rem) l ∧ Rd q A' bb (openRest rem) ∧ Kp bb A A' := by
    refine ans_of_W (fn_at Try.func46) c46_eq (by rw [Try.ntmps46]; simp) (by kernel_rfl) (by kernel_rfl) ?_
    have hbb := h.1
    have hlt := nx_lt rem
    apply W.seq
    apply W.run 20
    · intro M
      simp (config := { maxSteps := 4000000 }) (disch := first | decide +kernel | omega) only [c46, Try.f46, Option.getD_some, sub_seq0, sub_nil, T.puts_cons, Nat.reduceAdd, T.puts_nil, exec_region, runOps_cons, opF_box, ev_tmp, T.get_set, T.get_e, if_true, evG_some, at_ptr, putT_some, opF_alloc, zero41, next_alloc, runOps_nil, R.ok_bind, cells_agg]
      with_reducible rfl
    have hv1 : Vals ((A.alloc (rowOb 68 (rdV bb))).alloc (rowOb 41 [.int .i64 0, .slice none 0 0])) 68 A.next (.var 2) (rdV bb) := (Go.Am.vals_new A 68 (rdV bb)).same (get_alloc_ne (by rw [next_alloc]; omega))
    have hv2 : Vals ((A.alloc (rowOb 68 (rdV bb))).alloc (rowOb 41 [.int .i64 0, .slice none 0 0])) 41 (A.next + 1) (.var 2) [.int .i64 0, .slice none 0 0] := Go.Am.vals_new (A.alloc (rowOb 68 (rdV bb))) 41 [.int .i64 0, .slice none 0 0]
    have hr0 := (h.alloc (rowOb 68 (rdV bb))).alloc (rowOb 41 [.int .i64 0, .slice none 0 0])
    have hk0 := (Kp.alloc bb A (rowOb 68 (rdV bb))).trans (Kp.alloc bb _ (rowOb 41 [.int .i64 0, .slice none 0 0]))
    have hn0 : ((A.alloc (rowOb 68 (rdV bb))).alloc (rowOb 41 [.int .i64 0, .slice none 0 0])).next = A.next + 2 := by simp [next_alloc]
    revert hv1 hv2 hr0 hk0 hn0
    generalize (A.alloc (rowOb 68 (rdV bb))).alloc (rowOb 41 [.int .i64 0, .slice none 0 0]) = B
    intro hv1 hv2 hr0 hk0 hn0
    obtain ⟨C, ⟨g, hg⟩, hrC, hkC⟩ := run_next hr0
    have hnC := hkC.1
    have hnv := next_val hv1
    have hv3 : Vals (C.alloc (rowOb 41 [.int .i64 0, .slice none 0 0])) 41 C.next (.var 2) [.int .i64 0, .slice none 0 0] := Go.Am.vals_new C 41 _
    obtain ⟨C2, hst, hv4, hn4, hf4⟩ := store_all (tb := tb1) (t := 41) (l' := [.int .i64 ((1 + nx rem : Nat) : Int), .slice none 0 0]) (by rw [size41]; rfl) hv3 rfl (by simp) (fun v hv => by
      simp only [List.mem_cons, List.not_mem_nil, or_false] at hv
      rcases hv with rfl | rfl <;> rfl)
    have hnA : (C.alloc (rowOb 41 [.int .i64 0, .slice none 0 0])).next = C.next + 1 := next_alloc _ _
    apply W.seq
    apply W.runG (g) 20
    · intro M hM
      simp (config := { maxSteps := 4000000 }) (disch := first | decide +kernel | omega) only [c46, Try.f46, Option.getD_some, sub_seq1, sub_seq0, sub_nil, exec_region, runOps_cons, opF_fieldAddr, ev_tmp, T.get_set, Nat.reduceEqDiff, T.get_e, if_false, if_true, evG_some, putT_some, opF_load, opF_callv, evs, resK, opF_ari, ev_int, opF_build, evp, R.ok_bind, opF_alloc, zero41, at_ptr, opF_store, putT_none, runOps_nil, cells_agg, fa68_0, hnv, callV_func, List.append_nil, List.nil_append, hg, binF_int, op_add_i64, bf41, hst]
      with_reducible rfl
    have hfr2 : ∀ y, y < C.next → C2.get y = C.get y := fun y hy => by rw [hf4 y (by omega), get_alloc_ne (by omega)]
    have hr2 : Rd q C2 bb rem.tail := hrC.same (by omega) (fun y hy _ => hfr2 y hy)
    have hv1C : Vals C2 68 A.next (.var 2) (rdV bb) := (hv1.same (hkC.2 A.next (by omega) (by omega))).same (hfr2 A.next (by omega))
    have hv2C : Vals C2 41 (A.next + 1) (.var 2) [.int .i64 0, .slice none 0 0] := (hv2.same (hkC.2 (A.next + 1) (by omega) (by omega))).same (hfr2 (A.next + 1) (by omega))
    obtain ⟨D, ⟨g2, hg2⟩, hrD, hkD⟩ := run_next hr2
    have hnD := hkD.1
    have hnv2 := next_val hv1C
    have hv1D : Vals D 68 A.next (.var 2) (rdV bb) := hv1C.same (hkD.2 A.next (by omega) (by omega))
    have hl1 := rd_load hv1C
    have hl2 := rd_load hv1D
    have hself := sameV_rd bb
    obtain ⟨xs, E, ⟨g3, hg3⟩, hrE, hkE, b, hb, hx⟩ := run_numbers hrD (nx rem.tail % 4) (by omega)
    have hnE := hkE.1
    have hsR : StR (fun b => D.next ≤ b) E (numbersD rem.tail.tail (nx rem.tail % 4)) xs := StR.of hx hb
    have hv3E : Vals E 41 C.next (.var 2) [.int .i64 ((1 + nx rem : Nat) : Int), .slice none 0 0] := (hv4.same (hkD.2 C.next (by omega) (by omega))).same (hkE.2 C.next (by omega) (by omega))
    obtain ⟨F, hst2, hv5, hn5, hf5⟩ := store_vals (tb := tb1) (t := 36) (o := 1) size36 hv3E (by simp) hsR.cells.1 hsR.cells.2
    have hv5' : Vals F 41 C.next (.var 2) [.int .i64 ((1 + nx rem : Nat) : Int), xs] := hv5
    apply W.seq
    apply W.runG ((g2+g3)) 20
    · intro M hM
      simp (config := { maxSteps := 4000000 }) (disch := first | decide +kernel | omega) only [c46, Try.f46, Option.getD_some, sub_seq1, sub_seq0, sub_nil, exec_float [(4, 2)], runD_P, Nat.reduceAdd, opF_fieldAddr, ev_tmp, T.get_set, Nat.reduceEqDiff, T.get_e, if_false, if_true, evG_some, putT_some, runD_Rd, rOp_load, R.ok_bind, selF_nil, rereadM_nil, runD_L, List.map_nil, hide_nil, backF_nil, selR_no, selR_nil, rereadR_nil, opF_ari, ev_int, cond_true, opF_callv, evs, resK, selF_yes, rereadM_cons, reread_load, hl1, rereadV_eq, Bool.and_true, opF_makeFunc, opF_call, runD_end, opF_store, putT_none, fa41_1, fa68_0, hnv2, callV_func, List.append_nil, List.nil_append, hg2, binF_int, op_rem, hl2, hself, hg3, hst2]
      with_reducible rfl
    obtain ⟨d41, hd1, hd2⟩ := und41
    have hlF : loadF tb1 F.get 41 (.pointer (some ⟨C.next, 0, none⟩)) = .ok (.agg ⟨[.int .i64 ((1 + nx rem : Nat) : Int), xs]⟩) := Go.Am.load_all hd1 hd2 (by rw [size41]; rfl) hv5'
    have hv2F : Vals F 41 (A.next + 1) (.var 2) [.int .i64 0, .slice none 0 0] := ((hv2C.same (hkD.2 (A.next + 1) (by omega) (by omega))).same (hkE.2 (A.next + 1) (by omega) (by omega))).same (hf5 _ (by omega))
    obtain ⟨G, hst3, hv6, hn6, hf6⟩ := store_all (tb := tb1) (t := 41) (l' := [.int .i64 ((1 + nx rem : Nat) : Int), xs]) (by rw [size41]; rfl) hv2F rfl (by simp) (fun v hv => by
      simp only [List.mem_cons, List.not_mem_nil, or_false] at hv
      rcases hv with rfl | rfl
      · rfl
      · exact hsR.cells.2)
    apply W.seq
    apply W.run 20
    · intro M
      simp (config := { maxSteps := 4000000 }) (disch := first | decide +kernel | omega) only [c46, Try.f46, Option.getD_some, sub_seq1, sub_seq0, sub_nil, exec_region, runOps_cons, opF_load, ev_tmp, T.get_set, Nat.reduceEqDiff, T.get_e, if_false, if_true, evG_some, putT_some, opF_store, putT_none, runOps_nil, R.ok_bind, hlF, hst3]
      with_reducible rfl
    apply W.run 20
    · intro M
      simp (config := { maxSteps := 4000000 }) (disch := first | decide +kernel | omega) only [c46, Try.f46, Option.getD_some, sub_seq1, sub_nil, exec_ret]
      with_reducible rfl
    have hfrE : ∀ y, y < A.next → y ≠ bb → G.get y = A.get y := fun y hy hyb => by
      rw [hf6 y (by omega), hf5 y (by omega), hkE.2 y (by omega) hyb, hkD.2 y (by omega) hyb, hfr2 y (by omega), hkC.2 y (by omega) hyb, hk0.2 y hy hyb]
    refine ⟨.inr rfl, G, [.agg ⟨[.int .i64 ((1 + nx rem : Nat) : Int), xs]⟩], rfl, ?_, [.int .i64 ((1 + nx rem : Nat) : Int), xs], rfl, ⟨xs, rfl, ?_⟩, ?_, ⟨by omega, hfrE⟩⟩
    · have hlG : loadF tb1 G.get 41 (.pointer (some ⟨A.next + 1, 0, none⟩)) = .ok (.agg ⟨[.int .i64 ((1 + nx rem : Nat) : Int), xs]⟩) := Go.Am.load_all hd1 hd2 (by rw [size41]; rfl) hv6
      simp only [Try.f46, resF, ev_tmp, T.get_set, T.puts_cons, T.puts_nil, Nat.reduceEqDiff, Nat.reduceAdd, if_true, if_false, evG_some, R.ok_bind, hlG]
    · have e := drop2 rem
      show StR _ _ (numbersD (rem.drop 2) (nx rem.tail % 4)) xs
      rw [e]
      exact hsR.same (by omega) (fun y hy hyl => ⟨by omega, by rw [hf6 y (by omega), hf5 y (by omega)]⟩)
    · have e : openRest rem = rem.tail.tail.drop (nx rem.tail % 4) := by unfold openRest; rw [drop2]
      rw [e]
      exact hrE.same (by omega) (fun y hy hyb => by
        have : y ≠ A.next + 1 ∧ y ≠ C.next := by
          rcases hyb with rfl | rfl <;> constructor <;> omega
        rw [hf6 y this.1, hf5 y this.2])
  subst hv
  exact ⟨l, A', ha, ho, hr, hk⟩
end Go.Proofs.Ytmhldlnlgjpkaaa.scr

/-
  Script: some openings; which operations have a weight.
-/
namespace Go.Proofs.Ytmhldlnlgjpkaaa.scr
open Go.Am
variable {q : Nat}
set_option linter.unusedSimpArgs false
set_option linter.unusedVariables false

def opensRest (rem : List UInt8) : Nat → List UInt8
  | 0 => rem
  | k + 1 => openRest (opensRest rem k)
def opensL (rem : List UInt8) (k : Nat) : List (Nat × List Nat) := (List.range k).map fun i => openV (opensRest rem i)
theorem opensL_len (rem : List UInt8) (k : Nat) : (opensL rem k).length = k := by simp [opensL]
theorem opensL_succ (rem : List UInt8) (k : Nat) : opensL rem (k + 1) = opensL rem k ++ [openV (opensRest rem k)] := by simp [opensL, List.range_succ]
def OpsR (P : Nat → Prop) (A : Mem) (ds : List (Nat × List Nat)) (x : Value) : Prop :=
  ∃ ls b, (x = .slice none 0 0 ∨ P b) ∧ SlcM A 41 2 b ls x ∧ ls.length = ds.length ∧ ∀ (i : Nat) (d : Nat × List Nat) (l : List Value), ds[i]? = some d → ls[i]? = some l → OpR P A d l
theorem SlcM.lt {A : Mem} {e : TypeId} {n b : Nat} {ls : List (List Value)} {x : Value} (h : SlcM A e n b ls x) : x = .slice none 0 0 ∨ b < A.next := by
  rcases h with h | ⟨k, c, _, h, _⟩
  · exact .inl h.1
  · exact .inr h
theorem SlcM.cells {A : Mem} {e : TypeId} {n b : Nat} {ls : List (List Value)} {x : Value} (h : SlcM A e n b ls x) : x.cells.toList = [x] ∧ oneCell x = true ∧ sameV 100 x x = true := by
  rcases h with ⟨rfl, -⟩ | ⟨k, c, rfl, -⟩
  · exact ⟨rfl, rfl, rfl⟩
  · exact ⟨rfl, rfl, sameV_slc _ _ _ _⟩
theorem OpsR.same {P Q : Nat → Prop} {A A' : Mem} {ds : List (Nat × List Nat)} {x : Value} (h : OpsR P A ds x) (hn : A.next ≤ A'.next) (hg : ∀ b, P b → b < A.next → Q b ∧ A'.get b = A.get b) : OpsR Q A' ds x := by
  obtain ⟨ls, b, h1, h2, h3, h4⟩ := h
  have hall : ∀ (i : Nat) (d : Nat × List Nat) (l : List Value), ds[i]? = some d → ls[i]? = some l → OpR Q A' d l := fun i d l hd hl => (h4 i d l hd hl).same hn hg
  rcases SlcM.lt h2 with hx | hb
  · subst hx
    rcases h2 with h2 | ⟨k, c, h2, _⟩
    · exact ⟨ls, b, .inl rfl, .inl h2, h3, hall⟩
    · cases h2
  · rcases h1 with hx | hp
    · subst hx
      rcases h2 with h2 | ⟨k, c, h2, _⟩
      · exact ⟨ls, b, .inl rfl, .inl h2, h3, hall⟩
      · cases h2
    · exact ⟨ls, b, .inr (hg b hp hb).1, h2.same hn (fun _ => (hg b hp hb).2), h3, hall⟩

theorem bs37 (a xs : Value) : buildSliceF tb1 37 1 [(0, .agg ⟨[a, xs]⟩)] = .ok (rowOb 41 [a, xs], .slc 1 2) := by kernel_rfl
theorem zc41 : zcellsF tb1 41 = .ok (2, [.int .i64 0, .slice none 0 0]) := by kernel_rfl
theorem ty41 : ∃ i, tb1.ty.get 41 = some i ∧ 0 < i.bytes ∧ i.bytes ≤ 65536 := by
  have h : ((tb1.ty.get 41).map fun i => decide (0 < i.bytes) && decide (i.bytes ≤ 65536)) = some true := by kernel_rfl
  cases hq : tb1.ty.get 41 with
  | none => rw [hq] at h; cases h
  | some i =>
    rw [hq] at h
    simp only [Option.map_some, Option.some.injEq, Bool.and_eq_true, decide_eq_true_eq] at h
    exact ⟨i, rfl, h⟩
noncomputable def c45 : Code := Try.f45.body.getD .skip
noncomputable def c45b1 : Code := sub c45 [1,0,1,0,0]
theorem c45_eq : Try.f45.body = some (.seq (sub c45 [0]) (.seq (.seq (sub c45 [1,0,0]) (.block 0 (.loop c45b1))) (.seq (sub c45 [1,1,0]) (sub c45 [1,1,1])))) := by kernel_rfl
set_option maxHeartbeats 2000000 in
theorem run_opens {A : Mem} {bb : Nat} {rem : List UInt8} (h : Rd q A bb rem) (n : Nat) (hn : n ≤ 1000) : ∃ x A', Ans tb1 45 [.int .i64 (n : Nat), .func (.func 46) ⟨[.agg ⟨rdV bb⟩]⟩ ⟨[]⟩] A x A' ∧ OpsR (fun b => A.next ≤ b) A' (opensL rem n) x ∧ Rd q A' bb (opensRest rem n) ∧ Kp bb A A' := by
  have hq := h.qlt
  refine ans_of_W (fn_at Try.func45) c45_eq (by rw [Try.ntmps45]; simp) (by kernel_rfl) (by kernel_rfl) ?_
  have hbb := h.1
  apply W.seq
  apply W.run 20
  · intro M
    simp (config := { maxSteps := 4000000 }) (disch := first | decide +kernel | omega) only [c45, Try.f45, Option.getD_some, sub_seq0, sub_nil, T.puts_cons, Nat.reduceAdd, T.puts_nil, exec_region, runOps_cons, opF_assign, ev_nilslice, putT_some, runOps_nil, R.ok_bind]
    with_reducible rfl
  apply W.seq
  apply W.seq
  apply W.run 20
  · intro M
    simp (config := { maxSteps := 4000000 }) (disch := first | decide +kernel | omega) only [c45, Try.f45, Option.getD_some, sub_seq1, sub_seq0, sub_nil, exec_region, runOps_cons, opF_move, ev_tmp, T.get_set, Nat.reduceEqDiff, T.get_e, if_true, if_false, evG_some, putT_some, ev_int, runOps_nil, R.ok_bind]
    with_reducible rfl
  apply W.block
  refine W.up n (fun i t C => ∃ x ls b, SlcM C 41 2 b ls x ∧ (x = .slice none 0 0 ∨ A.next ≤ b) ∧ ls.length = i ∧ (∀ (j : Nat) (d : Nat × List Nat) (l : List Value), (opensL rem i)[j]? = some d → ls[j]? = some l → OpR (fun c => A.next ≤ c ∧ (x = .slice none 0 0 ∨ c ≠ b)) C d l) ∧ Rd q C bb (opensRest rem i) ∧ Kp bb A C ∧
    Sl t [(1, .func (.func 46) ⟨[.agg ⟨rdV bb⟩]⟩ ⟨[]⟩), (4, x), (5, .int .i64 (n : Int)), (6, .int .i64 (i : Int))]) ?_ (Nat.zero_le _) ⟨.slice none 0 0, [], 0, SlcM.nil _ _ _ _, .inl rfl, rfl, fun j d l _ hl => by simp at hl, h, Kp.refl _ _, ?_⟩
  · rintro i t C hi ⟨x, ls, b, hx, hb, hls, hall, hr, hk, g1, g4, g5, g6, -⟩
    by_cases hlt : i < n
    · obtain ⟨l, C1, ⟨g, hg⟩, ho, hr1, hk1⟩ := run_opening hr
      have hn0 := hk.1
      have hn1 := hk1.1
      have hbl := SlcM.lt hx
      have hbne : x ≠ .slice none 0 0 → A.next ≤ b ∧ b < C.next := fun hne => ⟨hb.resolve_left hne, hbl.resolve_left hne⟩
      have hx1 : SlcM C1 41 2 b ls x := by
        rcases hbl with he | hlt2
        · subst he
          rcases hx with hx | ⟨k, c, hx, _⟩
          · exact .inl hx
          · cases hx
        · rcases hb with he | hb2
          · subst he
            rcases hx with hx | ⟨k, c, hx, _⟩
            · exact .inl hx
            · cases hx
          · exact hx.same hn1 (fun hl => hk1.2 b hlt2 (by omega))
      obtain ⟨hl2, hl1⟩ := ho.cells
      have hsh : ∃ v1 xs, l = [v1, xs] := by obtain ⟨xs, e, _⟩ := ho; exact ⟨_, xs, e⟩
      obtain ⟨v1, xs, hle⟩ := hsh
      have hbsl : buildSliceF tb1 37 1 [(0, .agg ⟨l⟩)] = .ok (rowOb 41 l, .slc 1 2) := by rw [hle]; exact bs37 v1 xs
      have hn2 : (C1.alloc (rowOb 41 l)).next = C1.next + 1 := next_alloc _ _
      obtain ⟨ti, ht1, ht2, ht3⟩ := ty41
      have hx2 : SlcM (C1.alloc (rowOb 41 l)) 41 2 b ls x := hx1.same (by omega) (fun hl => get_alloc_ne (by omega))
      obtain ⟨x', C3, happ, hs3, hn3, hf3⟩ := hx2.append (tb := tb1) (st := 37) (xt := 37) und37 und37 zc41 ht1 ht2 ht3 (by omega) (by omega) (by omega) (get_alloc_self C1 _) hl2 hl1
      have hfr : ∀ y, (y = b → x = .slice none 0 0) → y < C1.next → C3.get y = C1.get y := fun y h1 h2 => by rw [hf3 y h1 (by omega), get_alloc_ne (by omega)]
      apply W.runG (g) 20
      · intro M hM
        simp (config := { maxSteps := 4000000 }) (disch := first | decide +kernel | omega) only [c45b1, c45, Try.f45, Option.getD_some, sub_seq1, sub_seq0, sub_block, sub_loop, sub_nil, exec_seq, exec_region, runOps_cons, opF_ari, ev_tmp, g6, evG_some, g5, putT_some, runOps_nil, R.ok_bind, binF_int, op_lssI, cast_lt, hlt, decide_true, exec_cond, exec_skip, exec_exit, exec_block, opF_move, ev_int, T.get_set, if_true, Nat.reduceEqDiff, g4, if_false, g1, opF_callv, evs, resK, opF_buildSlice, evp, opF_builtin, opF_assign, builtin_append, callV_func, List.append_nil, hg, hbsl, at_slc, happ, op_add_i64]
        with_reducible rfl
      refine ⟨hlt, _, _, rfl, x', ls ++ [l], (C1.alloc (rowOb 41 l)).next, hs3, .inr (by omega), by rw [List.length_append, hls]; rfl, fun j d l' hd hl' => ?_, ?_, ⟨by omega, ?_⟩, ?_⟩
      · rw [opensL_succ] at hd
        by_cases hj : j < i
        · rw [List.getElem?_append_left (by rw [opensL_len]; exact hj)] at hd
          rw [List.getElem?_append_left (by rw [hls]; exact hj)] at hl'
          refine (hall j d l' hd hl').same (by omega) (fun c hc hcl => ⟨⟨hc.1, .inr (by omega)⟩, ?_⟩)
          rw [hfr c (fun e => hc.2.resolve_right (fun hne => hne e)) (by omega), hk1.2 c hcl (by omega)]
        · have hji : j = i := by
            have := (List.getElem?_eq_some_iff.1 hd).1
            rw [List.length_append, opensL_len] at this
            simp at this; omega
          subst hji
          rw [List.getElem?_append_right (by rw [opensL_len]; omega), opensL_len, Nat.sub_self] at hd
          rw [List.getElem?_append_right (by rw [hls]; omega), hls, Nat.sub_self] at hl'
          simp only [List.getElem?_cons_zero, Option.some.injEq] at hd hl'
          subst hd hl'
          refine ho.same (by omega) (fun c hc hcl => ⟨⟨by omega, .inr (by omega)⟩, hfr c (fun e => ?_) hcl⟩)
          rcases hbl with he | hlt2
          · exact he
          · omega
      · refine hr1.same (by omega) (fun y hy hyb => hfr y (fun e => ?_) hy)
        rcases hb with he | hb2
        · exact he
        · rcases hyb with rfl | rfl <;> omega
      · intro y hy hyb
        rw [hfr y (fun e => ?_) (by omega), hk1.2 y (by omega) hyb, hk.2 y hy hyb]
        rcases hb with he | hb2
        · exact he
        · omega
      · simp only [Sl_cons, Sl_nil, T.get_set, T.puts_cons, T.puts_nil, Nat.reduceEqDiff, Nat.reduceAdd, if_true, if_false, and_true, true_and, g1, g5]
    · have hin : i = n := by omega
      subst hin
      apply W.run 20
      · intro M
        simp (config := { maxSteps := 4000000 }) (disch := first | decide +kernel | omega) only [c45b1, c45, Try.f45, Option.getD_some, sub_seq1, sub_seq0, sub_block, sub_loop, sub_nil, exec_seq, exec_region, runOps_cons, opF_ari, ev_tmp, g6, evG_some, g5, putT_some, runOps_nil, R.ok_bind, binF_int, op_lssI, cast_lt, Nat.lt_irrefl, decide_false, exec_cond, exec_skip, exec_exit, exec_block, opF_move, ev_int, T.get_set, if_true]
        with_reducible rfl
      show W tb1 _ _ _
      apply W.seq
      apply W.run 20
      · intro M
        simp (config := { maxSteps := 4000000 }) (disch := first | decide +kernel | omega) only [c45, Try.f45, Option.getD_some, sub_seq1, sub_seq0, sub_nil, exec_region, runOps_cons, opF_move, ev_tmp, T.get_set, Nat.reduceEqDiff, g4, if_false, evG_some, putT_some, opF_assign, if_true, runOps_nil, R.ok_bind]
        with_reducible rfl
      apply W.run 20
      · intro M
        simp (config := { maxSteps := 4000000 }) (disch := first | decide +kernel | omega) only [c45, Try.f45, Option.getD_some, sub_seq1, sub_nil, exec_ret]
        with_reducible rfl
      refine ⟨.inr rfl, _, [x], rfl, ?_, ⟨ls, b, hb, hx, by rw [hls, opensL_len], fun j d l hd hl => ?_⟩, hr, hk⟩
      · simp only [Try.f45, resF, ev_tmp, T.get_set, Nat.reduceEqDiff, if_true, if_false, evG_some, R.ok_bind]
      · exact (hall j d l hd hl).same (Nat.le_refl _) (fun c hc _ => ⟨hc.1, rfl⟩)
  · simp only [Sl_cons, Sl_nil, T.get_set, T.puts_cons, T.puts_nil, Nat.reduceEqDiff, Nat.reduceAdd, if_true, if_false, and_true, true_and]

noncomputable def c42 : Code := Try.f42.body.getD .skip
theorem c42_eq : Try.f42.body = some (.seq (sub c42 [0]) (.seq (sub c42 [1,0]) (sub c42 [1,1]))) := by kernel_rfl
def weighs (k : Nat) : Bool := decide (k = 0 ∨ k = 2)
theorem run_weighs (k : Nat) (A : Mem) : Ans tb1 42 [.int .i64 (k : Nat)] A (.bool (weighs k)) A := by
  obtain ⟨v, A', ha, rfl, rfl⟩ : ∃ v A', Ans tb1 42 [.int .i64 (k : Nat)] A v A' ∧ v = .bool (weighs k) ∧ A' = A := by
    refine ans_of_W (fn_at Try.func42) c42_eq (by rw [Try.ntmps42]; simp) (by kernel_rfl) (by kernel_rfl) ?_
    apply W.seq
    apply W.run 20
    · intro M
      simp (config := { maxSteps := 4000000 }) (disch := first | decide +kernel | omega) only [c42, Try.f42, Option.getD_some, sub_seq0, sub_nil, T.puts_cons, Nat.reduceAdd, T.puts_nil, exec_region, runOps_cons, opF_assign, ev_bool, putT_some, runOps_nil, R.ok_bind]
      with_reducible rfl
    apply W.seq
    by_cases h0 : k = 0
    · apply W.run 20
      · intro M
        simp (config := { maxSteps := 4000000 }) (disch := first | decide +kernel | (rw [wantF_guard]; simp only [wantD_some, dstAt_zero, dstAt_succ, T.get_set, T.get_e, Nat.reduceEqDiff, if_true, if_false, wantV_bool, wantV_unit, unitV, cond_true, cond_false, Bool.not_true, Bool.not_false, List.toList_toArray]) | omega) only [c42, Try.f42, Option.getD_some, sub_seq1, sub_seq0, sub_nil, h0, exec_region, runOps_cons, opF_move, ev_tmp, T.get_set, Nat.reduceEqDiff, T.get_e, if_true, if_false, evG_some, putT_some, opF_eql, ev_int, R.ok_bind, binF_int, op_eql, decide_true, runOps_no, opF_pick, pickF, ev_bool, opF_assign, runOps_nil]
        with_reducible rfl
      apply W.run 20
      · intro M
        simp (config := { maxSteps := 4000000 }) (disch := first | decide +kernel | omega) only [c42, Try.f42, Option.getD_some, sub_seq1, sub_nil, exec_ret]
        with_reducible rfl
      refine ⟨.inr rfl, _, [.bool true], rfl, ?_, ?_, rfl⟩
      · simp only [Try.f42, resF, ev_tmp, T.get_set, Nat.reduceEqDiff, if_true, if_false, evG_some, R.ok_bind]
      · simp [oneOf, weighs, h0]
    · by_cases h2 : k = 2
      · apply W.run 20
        · intro M
          simp (config := { maxSteps := 4000000 }) (disch := first | decide +kernel | (rw [wantF_guard]; simp only [wantD_some, dstAt_zero, dstAt_succ, T.get_set, T.get_e, Nat.reduceEqDiff, if_true, if_false, wantV_bool, wantV_unit, unitV, cond_true, cond_false, Bool.not_true, Bool.not_false, List.toList_toArray]) | omega) only [c42, Try.f42, Option.getD_some, sub_seq1, sub_seq0, sub_nil, h2, exec_region, runOps_cons, opF_move, ev_tmp, T.get_set, Nat.reduceEqDiff, T.get_e, if_true, if_false, evG_some, putT_some, opF_eql, ev_int, R.ok_bind, binF_int, op_eql, decide_false, runOps_yes, opF_pick, pickF, ev_bool, opF_assign, runOps_nil, decide_true]
          with_reducible rfl
        apply W.run 20
        · intro M
          simp (config := { maxSteps := 4000000 }) (disch := first | decide +kernel | omega) only [c42, Try.f42, Option.getD_some, sub_seq1, sub_nil, exec_ret]
          with_reducible rfl
        refine ⟨.inr rfl, _, [.bool true], rfl, ?_, ?_, rfl⟩
        · simp only [Try.f42, resF, ev_tmp, T.get_set, Nat.reduceEqDiff, if_true, if_false, evG_some, R.ok_bind]
        · simp [oneOf, weighs, h2]
      · apply W.run 20
        · intro M
          simp (config := { maxSteps := 4000000 }) (disch := first | decide +kernel | (rw [wantF_guard]; simp only [wantD_some, dstAt_zero, dstAt_succ, T.get_set, T.get_e, Nat.reduceEqDiff, if_true, if_false, wantV_bool, wantV_unit, unitV, cond_true, cond_false, Bool.not_true, Bool.not_false, List.toList_toArray]) | omega) only [c42, Try.f42, Option.getD_some, sub_seq1, sub_seq0, sub_nil, exec_region, runOps_cons, opF_move, ev_tmp, T.get_set, Nat.reduceEqDiff, T.get_e, if_true, if_false, evG_some, putT_some, opF_eql, ev_int, R.ok_bind, binF_int, op_eql, h0, decide_false, runOps_yes, opF_pick, pickF, ev_bool, opF_assign, runOps_nil, h2]
          with_reducible rfl
        apply W.run 20
        · intro M
          simp (config := { maxSteps := 4000000 }) (disch := first | decide +kernel | omega) only [c42, Try.f42, Option.getD_some, sub_seq1, sub_nil, exec_ret]
          with_reducible rfl
        refine ⟨.inr rfl, _, [.bool false], rfl, ?_, ?_, rfl⟩
        · simp only [Try.f42, resF, ev_tmp, T.get_set, Nat.reduceEqDiff, if_true, if_false, evG_some, R.ok_bind]
        · simp [oneOf, weighs, h0, h2]
  exact ha
end Go.Proofs.Ytmhldlnlgjpkaaa.scr

/-
  Script: an act.
-/
namespace Go.Proofs.Ytmhldlnlgjpkaaa.scr
open Go.Am
variable {q : Nat}
set_option linter.unusedSimpArgs false
set_option linter.unusedVariables false

structure ActD where
  kind : Nat
  word : List UInt8
  weight : Nat
  k : Int
  n : Int
  arm : Nat
  cut : Bool
  stays : List Nat
  opening : List (Nat × List Nat)

def armD (k : Nat) (r : List UInt8) : Nat × List UInt8 := if k / 20 % 2 = 1 then (1 + nx r, r.tail) else (0, r)
def moreD (kind : Nat) (r : List UInt8) : Nat × Int × Int × List UInt8 :=
  if weighs kind = true then (if nx r = 255 then 4294967295 else nx r, 0, 0, r.tail)
  else if kind = 7 then (0, ((nx r % 6 : Nat) : Int) - ((1 : Nat) : Int), ((nx r / 6 % 12 : Nat) : Int) - ((1 : Nat) : Int), r.tail)
  else (0, 0, 0, r)
def stopD (c : Bool) (r : List UInt8) : List Nat × List (Nat × List Nat) × List UInt8 :=
  if c = true then (numbersD r.tail (nx r % 6), opensL (r.tail.drop (nx r % 6)) (nx r / 6 % 4), opensRest (r.tail.drop (nx r % 6)) (nx r / 6 % 4)) else ([], [], r)
def cutD (k : Nat) : Bool := decide (k / 10 % 2 = 1)
def actD (r : List UInt8) : ActD × List UInt8 :=
  let k := nx r
  let a := armD k r.tail
  let w := wordD a.2
  let m := moreD (k % 10) w.2
  let s := stopD (cutD k || decide (0 < a.1)) m.2.2.2
  (⟨k % 10, w.1, m.1, m.2.1, m.2.2.1, a.1, cutD k, s.1, s.2.1⟩, s.2.2)

/-- The cells of an act. -/
def cellsD (kind : Nat) (word : List UInt8) (weight : Nat) (k n : Int) (arm : Nat) (cut : Bool) (xs xo : Value) : List Value :=
  [.int .i64 (kind : Int), strOf word, .int .u32 (weight : Int), .int .i64 k, .int .i64 n, .int .i64 (arm : Int), .bool cut, xs, xo]
def ActR (P : Nat → Prop) (A : Mem) (d : ActD) (l : List Value) : Prop := ∃ xs xo, l = cellsD d.kind d.word d.weight d.k d.n d.arm d.cut xs xo ∧ StR P A d.stays xs ∧ OpsR P A d.opening xo
theorem OpsR.cells {P : Nat → Prop} {A : Mem} {ds : List (Nat × List Nat)} {x : Value} (h : OpsR P A ds x) : x.cells.toList = [x] ∧ oneCell x = true := by
  obtain ⟨ls, b, -, h2, -⟩ := h
  exact ⟨(SlcM.cells h2).1, (SlcM.cells h2).2.1⟩
theorem OpsR.nil (P : Nat → Prop) (A : Mem) : OpsR P A [] (.slice none 0 0) := ⟨[], 0, .inl rfl, SlcM.nil _ _ _ _, rfl, fun i d l hd _ => by simp at hd⟩
theorem ActR.same {P Q : Nat → Prop} {A A' : Mem} {d : ActD} {l : List Value} (h : ActR P A d l) (hn : A.next ≤ A'.next) (hg : ∀ b, P b → b < A.next → Q b ∧ A'.get b = A.get b) : ActR Q A' d l := by
  obtain ⟨xs, xo, h1, h2, h3⟩ := h
  exact ⟨xs, xo, h1, h2.same hn hg, h3.same hn hg⟩
theorem ActR.cells {P : Nat → Prop} {A : Mem} {d : ActD} {l : List Value} (h : ActR P A d l) : l.length = 9 ∧ ∀ v ∈ l, oneCell v = true := by
  obtain ⟨xs, xo, rfl, h2, h3⟩ := h
  refine ⟨rfl, fun v hv => ?_⟩
  simp only [cellsD, List.mem_cons, List.not_mem_nil, or_false] at hv
  rcases hv with rfl | rfl | rfl | rfl | rfl | rfl | rfl | rfl | rfl <;> first | rfl | exact h2.cells.2 | exact h3.cells.2

theorem und39 : ∃ d, tb1.und 39 = some d ∧ isAggD d = true := by
  have h : (tb1.und 39).map isAggD = some true := by kernel_rfl
  cases hq : tb1.und 39 with
  | none => rw [hq] at h; cases h
  | some d => rw [hq] at h; exact ⟨d, rfl, by simpa using h⟩
theorem zero39 : zeroF tb1 39 = .ok (.agg ⟨[.int .i64 0, .string ⟨#[]⟩, .int .u32 0, .int .i64 0, .int .i64 0, .int .i64 0, .bool false, .slice none 0 0, .slice none 0 0]⟩) := by kernel_rfl
section
variable (b : Nat)
theorem fa39_0 : fieldAddrF tb1 39 (.pointer (some ⟨b, 0, none⟩)) 0 = .ok (.pointer (some ⟨b, 0, none⟩)) := by kernel_rfl
theorem fa39_1 : fieldAddrF tb1 39 (.pointer (some ⟨b, 0, none⟩)) 1 = .ok (.pointer (some ⟨b, 5, none⟩)) := by kernel_rfl
theorem fa39_2 : fieldAddrF tb1 39 (.pointer (some ⟨b, 0, none⟩)) 2 = .ok (.pointer (some ⟨b, 6, none⟩)) := by kernel_rfl
theorem fa39_3 : fieldAddrF tb1 39 (.pointer (some ⟨b, 0, none⟩)) 3 = .ok (.pointer (some ⟨b, 7, none⟩)) := by kernel_rfl
theorem fa39_4 : fieldAddrF tb1 39 (.pointer (some ⟨b, 0, none⟩)) 4 = .ok (.pointer (some ⟨b, 8, none⟩)) := by kernel_rfl
theorem fa35_0 : fieldAddrF tb1 35 (.pointer (some ⟨b, 0, none⟩)) 0 = .ok (.pointer (some ⟨b, 0, none⟩)) := by kernel_rfl
theorem fa35_1 : fieldAddrF tb1 35 (.pointer (some ⟨b, 0, none⟩)) 1 = .ok (.pointer (some ⟨b, 1, none⟩)) := by kernel_rfl
theorem fa35_2 : fieldAddrF tb1 35 (.pointer (some ⟨b, 0, none⟩)) 2 = .ok (.pointer (some ⟨b, 2, none⟩)) := by kernel_rfl
theorem fa35_3 : fieldAddrF tb1 35 (.pointer (some ⟨b, 0, none⟩)) 3 = .ok (.pointer (some ⟨b, 3, none⟩)) := by kernel_rfl
theorem fa35_4 : fieldAddrF tb1 35 (.pointer (some ⟨b, 0, none⟩)) 4 = .ok (.pointer (some ⟨b, 4, none⟩)) := by kernel_rfl
end
theorem size4 : sizeF tb1 4 = .ok 1 := by kernel_rfl
theorem size9 : sizeF tb1 9 = .ok 1 := by kernel_rfl
theorem size33 : sizeF tb1 33 = .ok 1 := by kernel_rfl
theorem size37 : sizeF tb1 37 = .ok 1 := by kernel_rfl

/-- Memory while an act is read. -/
structure ActM (q : Nat) (A : Mem) (bb : Nat) (l : List Value) (rem : List UInt8) (C : Mem) : Prop where
  h1 : Vals C 68 A.next (.var 2) (rdV bb)
  h2 : Vals C 39 (A.next + 1) (.var 9) l
  hr : Rd q C bb rem
  hk : Kp bb A C
  hn : A.next + 2 ≤ C.next
  hb : bb < A.next ∧ q < A.next
theorem ActM.step {A : Mem} {bb : Nat} {l : List Value} {rem rem' : List UInt8} {C C' : Mem} (h : ActM q A bb l rem C) (hr : Rd q C' bb rem') (hk : Kp bb C C') : ActM q A bb l rem' C' := by
  have hn := h.hn
  have hb := h.hb
  have hn' := hk.1
  exact ⟨h.h1.same (hk.2 _ (by omega) (by omega)), h.h2.same (hk.2 _ (by omega) (by omega)), hr, h.hk.trans hk, by omega, hb⟩
theorem ActM.put {A : Mem} {bb : Nat} {l : List Value} {rem : List UInt8} {C : Mem} (h : ActM q A bb l rem C) {t : TypeId} {o : Nat} {v : Value} (hs : sizeF tb1 t = .ok 1) (ho : o < l.length) (hv : v.cells.toList = [v]) (h1c : oneCell v = true) :
    ∃ C', storeF tb1 C t (.pointer (some ⟨A.next + 1, o, none⟩)) v = .ok C' ∧ ActM q A bb (l.set o v) rem C' ∧ C'.next = C.next ∧ ∀ y, y ≠ A.next + 1 → C'.get y = C.get y := by
  obtain ⟨C', e1, e2, e3, e4⟩ := store_vals (tb := tb1) (t := t) hs h.h2 ho hv h1c
  have hn := h.hn
  have hb := h.hb
  refine ⟨C', e1, ⟨h.h1.same (e4 _ (by omega)), e2, h.hr.same (by omega) (fun y _ hy => e4 y (by rcases hy with rfl | rfl <;> omega)), ⟨by have := h.hk.1; omega, fun y hy hyb => by rw [e4 y (by omega), h.hk.2 y hy hyb]⟩, by omega, hb⟩, e3, e4⟩

noncomputable def c22 : Code := Try.f22.body.getD .skip
theorem c22_eq : Try.f22.body = some (.seq (sub c22 [0]) (.seq (sub c22 [1,0]) (.seq (sub c22 [1,1,0]) (.seq (.seq (sub c22 [1,1,1,0,0]) (sub c22 [1,1,1,0,1])) (.seq (sub c22 [1,1,1,1,0]) (.seq (sub c22 [1,1,1,1,1,0]) (.seq (.seq (sub c22 [1,1,1,1,1,1,0,0]) (sub c22 [1,1,1,1,1,1,0,1])) (.seq (sub c22 [1,1,1,1,1,1,1,0]) (sub c22 [1,1,1,1,1,1,1,1]))))))))) := by kernel_rfl
section
variable {A : Mem} {bb : Nat} {rem : List UInt8} {C : Mem} {t : T Value} {K : Ex → St → Prop}
def actS (A : Mem) (k : Nat) : List (Nat × Value) := [(1, .pointer (some ⟨A.next, 0, none⟩)), (2, .pointer (some ⟨A.next + 1, 0, none⟩)), (3, .int .i64 (k : Int))]
set_option maxHeartbeats 2000000 in
theorem act_arm {kind k : Nat} {cut : Bool} (hkd : k < 256) (hM : ActM q A bb (cellsD kind [] 0 0 0 0 cut (.slice none 0 0) (.slice none 0 0)) rem C) (hp : Sl t (actS A k))
    (hK : ∀ t' C', ActM q A bb (cellsD kind [] 0 0 0 (armD k rem).1 cut (.slice none 0 0) (.slice none 0 0)) (armD k rem).2 C' → Sl t' (actS A k) → K .nrm ⟨t', 91, [], C', none⟩) : W tb1 (.seq (sub c22 [1,1,1,0,0]) (sub c22 [1,1,1,0,1])) ⟨t, 91, [], C, none⟩ K := by
  obtain ⟨g1, g2, g3, -⟩ := hp
  have hlt := nx_lt rem
  apply W.seq
  by_cases h : k / 20 % 2 = 1
  · have e : armD k rem = (1 + nx rem, rem.tail) := by unfold armD; rw [if_pos h]
    rw [e] at hK
    obtain ⟨C1, ⟨g, hg⟩, hr, hk⟩ := run_next hM.hr
    have hnv := next_val hM.h1
    obtain ⟨C2, hst, hM2, -, -⟩ := (hM.step hr hk).put (t := 3) (o := 5) (v := .int .i64 ((1 + nx rem : Nat) : Int)) size3 (by simp [cellsD]) rfl rfl
    apply W.run 20
    · intro M
      simp (config := { maxSteps := 4000000 }) (disch := first | decide +kernel | omega) only [c22, Try.f22, Option.getD_some, sub_seq1, sub_seq0, sub_nil, exec_region, runOps_cons, opF_move, ev_tmp, g3, evG_some, putT_some, opF_ari, T.get_set, if_true, ev_int, Nat.reduceEqDiff, if_false, opF_eql, runOps_nil, R.ok_bind, binF_int, op_quo_i64, op_rem, h, op_eql, decide_true]
      with_reducible rfl
    apply W.runG (g) 20
    · intro M hM
      simp (config := { maxSteps := 4000000 }) (disch := first | decide +kernel | omega) only [c22, Try.f22, Option.getD_some, sub_seq1, sub_seq0, sub_nil, exec_cond, ev_tmp, T.get_set, Nat.reduceEqDiff, if_false, if_true, evG_some, exec_region, runOps_cons, opF_fieldAddr, g1, putT_some, opF_load, opF_callv, evs, resK, opF_ari, ev_int, g2, opF_store, putT_none, runOps_nil, R.ok_bind, fa39_1, fa68_0, hnv, callV_func, List.append_nil, List.nil_append, hg, binF_int, op_add_i64, hst, exec_skip]
      with_reducible rfl
    refine hK _ _ hM2 ?_
    unfold actS; simp only [Sl_cons, Sl_nil, T.get_set, T.puts_cons, T.puts_nil, Nat.reduceEqDiff, Nat.reduceAdd, if_true, if_false, and_true, true_and, g1, g2, g3]
  · have e : armD k rem = (0, rem) := by unfold armD; rw [if_neg h]
    rw [e] at hK
    apply W.run 20
    · intro M
      simp (config := { maxSteps := 4000000 }) (disch := first | decide +kernel | omega) only [c22, Try.f22, Option.getD_some, sub_seq1, sub_seq0, sub_nil, exec_region, runOps_cons, opF_move, ev_tmp, g3, evG_some, putT_some, opF_ari, T.get_set, if_true, ev_int, Nat.reduceEqDiff, if_false, opF_eql, runOps_nil, R.ok_bind, binF_int, op_quo_i64, op_rem, op_eql, h, decide_false]
      with_reducible rfl
    apply W.run 20
    · intro M
      simp (config := { maxSteps := 4000000 }) (disch := first | decide +kernel | omega) only [c22, Try.f22, Option.getD_some, sub_seq1, sub_seq0, sub_nil, exec_cond, ev_tmp, T.get_set, Nat.reduceEqDiff, if_false, if_true, evG_some, exec_region, runOps_cons, opF_fieldAddr, putT_some, opF_load, opF_callv, evs, resK, opF_ari, ev_int, opF_store, putT_none, runOps_nil, R.ok_bind, exec_skip]
      with_reducible rfl
    refine hK _ _ hM ?_
    unfold actS; simp only [Sl_cons, Sl_nil, T.get_set, T.puts_cons, T.puts_nil, Nat.reduceEqDiff, Nat.reduceAdd, if_true, if_false, and_true, true_and, g1, g2, g3]

set_option maxHeartbeats 4000000 in
set_option maxRecDepth 20000 in
theorem act_more {kind k : Nat} {word : List UInt8} {arm : Nat} {cut : Bool} (hM : ActM q A bb (cellsD kind word 0 0 0 arm cut (.slice none 0 0) (.slice none 0 0)) rem C) (hp : Sl t (actS A k))
    (hK : ∀ t' C', ActM q A bb (cellsD kind word (moreD kind rem).1 (moreD kind rem).2.1 (moreD kind rem).2.2.1 arm cut (.slice none 0 0) (.slice none 0 0)) (moreD kind rem).2.2.2 C' → Sl t' (actS A k) → K .nrm ⟨t', 91, [], C', none⟩) : W tb1 (sub c22 [1,1,1,1,1,0]) ⟨t, 91, [], C, none⟩ K := by
  obtain ⟨g1, g2, g3, -⟩ := hp
  have hlt := nx_lt rem
  obtain ⟨gw, hw⟩ := run_weighs kind C
  have hkd : loadF tb1 C.get 3 (.pointer (some ⟨A.next + 1, 0, none⟩)) = .ok (.int .i64 (kind : Int)) := load_vals und3 rfl hM.h2 rfl
  have hnv := next_val hM.h1
  obtain ⟨C1, ⟨g, hg⟩, hr, hk⟩ := run_next hM.hr
  have hM1 := hM.step hr hk
  have hw32 : wrapF .u32 ((nx rem : Nat) : Int) = ((nx rem : Nat) : Int) := by rw [wrapF_u32, Nat.mod_eq_of_lt (by omega)]
  cases hwg : weighs kind with
  | true =>
    rw [hwg] at hw
    obtain ⟨C2, hst, hM2, -, -⟩ := hM1.put (t := 33) (o := 2) (v := .int .u32 ((nx rem : Nat) : Int)) size33 (by simp [cellsD]) rfl rfl
    by_cases h255 : nx rem = 255
    · have e : moreD kind rem = (4294967295, 0, 0, rem.tail) := by unfold moreD; rw [if_pos hwg, if_pos h255]
      rw [e] at hK
      obtain ⟨C3, hst3, hM3, -, -⟩ := hM2.put (t := 33) (o := 2) (v := .int .u32 ((4294967295 : Nat) : Int)) size33 (by simp [cellsD]) rfl rfl
      rw [h255] at hg hst hw32
      apply W.runG ((g+gw)) 20
      · intro M hM
        simp (config := { maxSteps := 4000000 }) (disch := first | decide +kernel | omega) only [c22, Try.f22, Option.getD_some, sub_seq1, sub_seq0, sub_nil, exec_block, exec_seq, exec_region, runOps_cons, opF_fieldAddr, ev_tmp, g2, evG_some, putT_some, T.get_set, if_true, opF_load, Nat.reduceEqDiff, if_false, opF_call, evs, R.ok_bind, resK, opF_assign, runOps_nil, fa39_0, fa35_0, hkd, hw, exec_cond, opF_move, exec_skip, g1, opF_callv, fa68_0, hnv, callV_func, List.append_nil, List.nil_append, hg, opF_conv, convPF, und3, und33, opF_store, putT_none, fa35_2, hw32, hst, opF_eql, ev_int, binF_int, op_eql, decide_true, hst3, opF_ari, op_quo_i64, op_rem, op_sub_i64, cond_val]
        with_reducible rfl
      refine hK _ _ hM3 ?_
      unfold actS; simp only [Sl_cons, Sl_nil, T.get_set, T.puts_cons, T.puts_nil, Nat.reduceEqDiff, Nat.reduceAdd, if_true, if_false, and_true, true_and, g1, g2, g3]
    · have e : moreD kind rem = (nx rem, 0, 0, rem.tail) := by unfold moreD; rw [if_pos hwg, if_neg h255]
      rw [e] at hK
      apply W.runG ((g+gw)) 20
      · intro M hM
        simp (config := { maxSteps := 4000000 }) (disch := first | decide +kernel | omega) only [c22, Try.f22, Option.getD_some, sub_seq1, sub_seq0, sub_nil, exec_block, exec_seq, exec_region, runOps_cons, opF_fieldAddr, ev_tmp, g2, evG_some, putT_some, T.get_set, if_true, opF_load, Nat.reduceEqDiff, if_false, opF_call, evs, R.ok_bind, resK, opF_assign, runOps_nil, fa39_0, fa35_0, hkd, hw, exec_cond, opF_move, exec_skip, g1, opF_callv, fa68_0, hnv, callV_func, List.append_nil, List.nil_append, hg, opF_conv, convPF, und3, und33, opF_store, putT_none, fa35_2, hw32, hst, opF_eql, ev_int, binF_int, op_eql, h255, decide_false, opF_ari, op_quo_i64, op_rem, cond_val]
        with_reducible rfl
      refine hK _ _ hM2 ?_
      unfold actS; simp only [Sl_cons, Sl_nil, T.get_set, T.puts_cons, T.puts_nil, Nat.reduceEqDiff, Nat.reduceAdd, if_true, if_false, and_true, true_and, g1, g2, g3]
  | false =>
    rw [hwg] at hw
    by_cases h7 : kind = 7
    · subst h7
      have e : moreD 7 rem = (0, ((nx rem % 6 : Nat) : Int) - ((1 : Nat) : Int), ((nx rem / 6 % 12 : Nat) : Int) - ((1 : Nat) : Int), rem.tail) := by unfold moreD; rw [if_neg (by rw [hwg]; simp), if_pos rfl]
      rw [e] at hK
      obtain ⟨C2, hst, hM2, -, -⟩ := hM1.put (t := 3) (o := 3) (v := .int .i64 (((nx rem % 6 : Nat) : Int) - ((1 : Nat) : Int))) size3 (by simp [cellsD]) rfl rfl
      obtain ⟨C3, hst3, hM3, -, -⟩ := hM2.put (t := 3) (o := 4) (v := .int .i64 (((nx rem / 6 % 12 : Nat) : Int) - ((1 : Nat) : Int))) size3 (by simp [cellsD]) rfl rfl
      have s1 : intOpF .sub .i64 ((nx rem % 6 : Nat) : Int) ((1 : Nat) : Int) = .ok (.int .i64 (((nx rem % 6 : Nat) : Int) - ((1 : Nat) : Int))) := op_subI (by omega) (by omega)
      have s2 : intOpF .sub .i64 ((nx rem / 6 % 12 : Nat) : Int) ((1 : Nat) : Int) = .ok (.int .i64 (((nx rem / 6 % 12 : Nat) : Int) - ((1 : Nat) : Int))) := op_subI (by omega) (by omega)
      apply W.runG ((g+gw)) 20
      · intro M hM
        simp (config := { maxSteps := 4000000 }) (disch := first | decide +kernel | omega) only [c22, Try.f22, Option.getD_some, sub_seq1, sub_seq0, sub_nil, exec_block, exec_seq, exec_region, runOps_cons, opF_fieldAddr, ev_tmp, g2, evG_some, putT_some, T.get_set, if_true, opF_load, Nat.reduceEqDiff, if_false, opF_call, evs, R.ok_bind, resK, opF_assign, runOps_nil, fa39_0, fa35_0, hkd, hw, exec_cond, opF_move, exec_skip, g1, opF_callv, fa68_0, hnv, callV_func, List.append_nil, List.nil_append, hg, opF_conv, opF_store, putT_none, opF_eql, ev_int, binF_int, op_eql, decide_true, opF_ari, fa35_4, fa35_3, op_quo_i64, op_rem, s2, s1, hst, hst3]
        with_reducible rfl
      refine hK _ _ hM3 ?_
      unfold actS; simp only [Sl_cons, Sl_nil, T.get_set, T.puts_cons, T.puts_nil, Nat.reduceEqDiff, Nat.reduceAdd, if_true, if_false, and_true, true_and, g1, g2, g3]
    · have e : moreD kind rem = (0, 0, 0, rem) := by unfold moreD; rw [if_neg (by rw [hwg]; simp), if_neg h7]
      rw [e] at hK
      apply W.runG (gw) 20
      · intro M hM
        simp (config := { maxSteps := 4000000 }) (disch := first | decide +kernel | omega) only [c22, Try.f22, Option.getD_some, sub_seq1, sub_seq0, sub_nil, exec_block, exec_seq, exec_region, runOps_cons, opF_fieldAddr, ev_tmp, g2, evG_some, putT_some, T.get_set, if_true, opF_load, Nat.reduceEqDiff, if_false, opF_call, evs, R.ok_bind, resK, opF_assign, runOps_nil, fa39_0, fa35_0, hkd, hw, exec_cond, opF_move, exec_skip, g1, opF_callv, opF_eql, ev_int, binF_int, op_eql, h7, decide_false]
        with_reducible rfl
      refine hK _ _ hM ?_
      unfold actS; simp only [Sl_cons, Sl_nil, T.get_set, T.puts_cons, T.puts_nil, Nat.reduceEqDiff, Nat.reduceAdd, if_true, if_false, and_true, true_and, g1, g2, g3]
end
end Go.Proofs.Ytmhldlnlgjpkaaa.scr

/-
  Script: an act, whole.
-/
namespace Go.Proofs.Ytmhldlnlgjpkaaa.scr
open Go.Am
variable {q : Nat}
set_option linter.unusedSimpArgs false
set_option linter.unusedVariables false

section
variable {A : Mem} {bb : Nat} {rem : List UInt8} {C : Mem} {t : T Value} {K : Ex → St → Prop}
set_option maxHeartbeats 4000000 in
set_option maxRecDepth 20000 in
theorem act_stop {kind k weight arm : Nat} {word : List UInt8} {kk nn : Int} {cut : Bool} (hM : ActM q A bb (cellsD kind word weight kk nn arm cut (.slice none 0 0) (.slice none 0 0)) rem C) (hp : Sl t (actS A k))
    (hK : ∀ t' C' xs xo, ActM q A bb (cellsD kind word weight kk nn arm cut xs xo) (stopD (cut || decide (0 < arm)) rem).2.2 C' → StR (fun b => A.next + 2 ≤ b) C' (stopD (cut || decide (0 < arm)) rem).1 xs → OpsR (fun b => A.next + 2 ≤ b) C' (stopD (cut || decide (0 < arm)) rem).2.1 xo → Sl t' (actS A k) → K .nrm ⟨t', 91, [], C', none⟩) :
    W tb1 (.seq (sub c22 [1,1,1,1,1,1,0,0]) (sub c22 [1,1,1,1,1,1,0,1])) ⟨t, 91, [], C, none⟩ K := by
  obtain ⟨g1, g2, g3, -⟩ := hp
  have hlt := nx_lt rem
  have hcut : loadF tb1 C.get 4 (.pointer (some ⟨A.next + 1, 6, none⟩)) = .ok (.bool cut) := load_vals und4 rfl hM.h2 rfl
  have harm : loadF tb1 C.get 3 (.pointer (some ⟨A.next + 1, 5, none⟩)) = .ok (.int .i64 (arm : Int)) := load_vals und3 rfl hM.h2 rfl
  apply W.seq
  have first : ∀ {K : Ex → St → Prop}, (∀ t' : T Value, Sl t' (actS A k) → t'.get 73 = some (.bool (cut || decide (0 < arm))) → K .nrm ⟨t', 91, [], C, none⟩) → W tb1 (sub c22 [1,1,1,1,1,1,0,0]) ⟨t, 91, [], C, none⟩ K := by
    intro K hK
    cases cut with
    | true =>
      apply W.run 20
      · intro M
        simp (config := { maxSteps := 4000000 }) (disch := first | decide +kernel | (rw [wantF_guard]; simp only [wantD_some, dstAt_zero, dstAt_succ, T.get_set, T.get_e, Nat.reduceEqDiff, if_true, if_false, wantV_bool, wantV_unit, unitV, cond_true, cond_false, Bool.not_true, Bool.not_false, List.toList_toArray]) | omega) only [c22, Try.f22, Option.getD_some, sub_seq1, sub_seq0, sub_nil, exec_region, runOps_cons, opF_fieldAddr, ev_tmp, g2, evG_some, putT_some, opF_load, T.get_set, if_true, opF_move, Nat.reduceEqDiff, if_false, R.ok_bind, fa39_2, hcut, runOps_no, opF_pick, pickF, ev_bool, runOps_nil]
        with_reducible rfl
      apply hK
      · unfold actS; simp only [Sl_cons, Sl_nil, T.get_set, T.puts_cons, T.puts_nil, Nat.reduceEqDiff, Nat.reduceAdd, if_true, if_false, and_true, true_and, g1, g2, g3]
      · simp only [T.get_set, Nat.reduceEqDiff, if_true, if_false, Bool.true_or]
    | false =>
      apply W.run 20
      · intro M
        simp (config := { maxSteps := 4000000 }) (disch := first | decide +kernel | (rw [wantF_guard]; simp only [wantD_some, dstAt_zero, dstAt_succ, T.get_set, T.get_e, Nat.reduceEqDiff, if_true, if_false, wantV_bool, wantV_unit, unitV, cond_true, cond_false, Bool.not_true, Bool.not_false, List.toList_toArray]) | omega) only [c22, Try.f22, Option.getD_some, sub_seq1, sub_seq0, sub_nil, exec_region, runOps_cons, opF_fieldAddr, ev_tmp, g2, evG_some, putT_some, opF_load, T.get_set, if_true, opF_move, Nat.reduceEqDiff, if_false, R.ok_bind, fa39_2, hcut, runOps_yes, opF_ari, ev_int, opF_pick, pickF, ev_bool, runOps_nil, fa39_1, harm, binF_int, op_gtr, cast_lt]
        with_reducible rfl
      apply hK
      · unfold actS; simp only [Sl_cons, Sl_nil, T.get_set, T.puts_cons, T.puts_nil, Nat.reduceEqDiff, Nat.reduceAdd, if_true, if_false, and_true, true_and, g1, g2, g3]
      · simp only [T.get_set, Nat.reduceEqDiff, if_true, if_false, Bool.false_or]
  refine first ?_
  rintro t1 ⟨f1, f2, f3, -⟩ f73
  show W tb1 _ _ _
  cases hc : (cut || decide (0 < arm)) with
  | false =>
    rw [hc] at f73 hK
    have e : stopD false rem = ([], [], rem) := rfl
    rw [e] at hK
    apply W.run 20
    · intro M
      simp (config := { maxSteps := 4000000 }) (disch := first | decide +kernel | omega) only [c22, Try.f22, Option.getD_some, sub_seq1, sub_seq0, sub_nil, exec_cond, ev_tmp, f73, evG_some, exec_seq, exec_region, runOps_cons, opF_fieldAddr, putT_some, opF_load, T.get_set, if_true, opF_callv, evs, Nat.reduceEqDiff, if_false, resK, opF_assign, runOps_nil, R.ok_bind, opF_move, exec_skip]
      with_reducible rfl
    refine hK _ _ _ _ hM (.inl ⟨rfl, rfl⟩) (OpsR.nil _ _) ?_
    unfold actS; simp only [Sl_cons, Sl_nil, T.get_set, T.puts_cons, T.puts_nil, Nat.reduceEqDiff, Nat.reduceAdd, if_true, if_false, and_true, true_and, f1, f2, f3]
  | true =>
    rw [hc] at f73 hK
    have e : stopD true rem = (numbersD rem.tail (nx rem % 6), opensL (rem.tail.drop (nx rem % 6)) (nx rem / 6 % 4), opensRest (rem.tail.drop (nx rem % 6)) (nx rem / 6 % 4)) := rfl
    rw [e] at hK
    have hnv := next_val hM.h1
    obtain ⟨C1, ⟨g, hg⟩, hr1, hk1⟩ := run_next hM.hr
    have hM1 := hM.step hr1 hk1
    have hl1 := rd_load hM1.h1
    obtain ⟨xs, C2, ⟨g2', hg2⟩, hr2, hk2, b, hb, hx⟩ := run_numbers hM1.hr (nx rem % 6) (by omega)
    have hM2 := hM1.step hr2 hk2
    have hn1 := hM1.hn
    have hsR : StR (fun b => A.next + 2 ≤ b) C2 (numbersD rem.tail (nx rem % 6)) xs := StR.of hx (by omega)
    obtain ⟨C3, hst3, hM3, hn3, hf3⟩ := hM2.put (t := 36) (o := 7) size36 (by simp [cellsD]) hsR.cells.1 hsR.cells.2
    have hsR3 : StR (fun b => A.next + 2 ≤ b) C3 (numbersD rem.tail (nx rem % 6)) xs := hsR.same (by omega) (fun y hy _ => ⟨hy, hf3 y (by omega)⟩)
    have hl3 := rd_load hM3.h1
    obtain ⟨xo, C4, ⟨g4, hg4⟩, hoR, hr4, hk4⟩ := run_opens hM3.hr (nx rem / 6 % 4) (by omega)
    have hM4 := hM3.step hr4 hk4
    have hb4 := hM4.hb
    have hn4 := hM3.hn
    have hoR4 : OpsR (fun b => A.next + 2 ≤ b) C4 (opensL (rem.tail.drop (nx rem % 6)) (nx rem / 6 % 4)) xo := hoR.same (Nat.le_refl _) (fun y hy _ => ⟨by omega, rfl⟩)
    have hsR4 : StR (fun b => A.next + 2 ≤ b) C4 (numbersD rem.tail (nx rem % 6)) xs := hsR3.same hk4.1 (fun y hy hyl => ⟨hy, hk4.2 y hyl (by omega)⟩)
    obtain ⟨C5, hst5, hM5, hn5, hf5⟩ := hM4.put (t := 37) (o := 8) size37 (by simp [cellsD]) hoR4.cells.1 hoR4.cells.2
    apply W.runG ((g+g2'+g4)) 20
    · intro M hM
      simp (config := { maxSteps := 4000000 }) (disch := first | decide +kernel | omega) only [c22, Try.f22, Option.getD_some, sub_seq1, sub_seq0, sub_nil, exec_cond, ev_tmp, f73, evG_some, exec_seq, exec_region, runOps_cons, opF_fieldAddr, f1, putT_some, opF_load, T.get_set, if_true, opF_callv, evs, Nat.reduceEqDiff, if_false, resK, opF_assign, runOps_nil, R.ok_bind, fa68_0, hnv, callV_func, List.append_nil, List.nil_append, hg, opF_move, opF_ari, ev_int, opF_makeFunc, opF_call, f2, opF_store, putT_none, fa39_3, hl1, binF_int, op_rem, hg2, hst3, fa39_4, hl3, op_quo_i64, hg4, hst5, exec_skip]
      with_reducible rfl
    refine hK _ _ xs xo hM5 (hsR4.same (by omega) (fun y hy _ => ⟨hy, hf5 y (by omega)⟩)) (hoR4.same (by omega) (fun y hy _ => ⟨hy, hf5 y (by omega)⟩)) ?_
    unfold actS; simp only [Sl_cons, Sl_nil, T.get_set, T.puts_cons, T.puts_nil, Nat.reduceEqDiff, Nat.reduceAdd, if_true, if_false, and_true, true_and, f1, f2, f3]
end

set_option maxHeartbeats 4000000 in
set_option maxRecDepth 20000 in
theorem run_act {A : Mem} {bb : Nat} {rem : List UInt8} (h : Rd q A bb rem) : ∃ l A', Ans tb1 22 [.agg ⟨rdV bb⟩] A (.agg ⟨l⟩) A' ∧ ActR (fun b => A.next ≤ b) A' (actD rem).1 l ∧ Rd q A' bb (actD rem).2 ∧ Kp bb A A' := by
  have hq := h.qlt
  obtain ⟨v, A', ha, l, hv, ho, hr, hk⟩ : ∃ v A', Ans tb1 22 [.agg ⟨rdV bb⟩] A v A' ∧ ∃ l, v = .agg ⟨l⟩ ∧ ActR (fun b => A.next ≤ b) A' (actD rem).1 l ∧ Rd q A' bb (actD rem).2 ∧ Kp bb A A' := by
    refine ans_of_W (fn_at Try.func22) c22_eq (by rw [Try.ntmps22]; simp) (by kernel_rfl) (by kernel_rfl) ?_
    have hbb := h.1
    have hlt := nx_lt rem
    apply W.seq
    apply W.run 20
    · intro M
      simp (config := { maxSteps := 4000000 }) (disch := first | decide +kernel | omega) only [c22, Try.f22, Option.getD_some, sub_seq0, sub_nil, T.puts_cons, Nat.reduceAdd, T.puts_nil, exec_region, runOps_cons, opF_box, ev_tmp, T.get_set, T.get_e, if_true, evG_some, at_ptr, putT_some, opF_alloc, zero39, next_alloc, runOps_nil, R.ok_bind, cells_agg]
      with_reducible rfl
    have hM0 : ActM q A bb (cellsD 0 [] 0 0 0 0 false (.slice none 0 0) (.slice none 0 0)) rem ((A.alloc (rowOb 68 (rdV bb))).alloc (rowOb 39 [.int .i64 0, .string ⟨#[]⟩, .int .u32 0, .int .i64 0, .int .i64 0, .int .i64 0, .bool false, .slice none 0 0, .slice none 0 0])) :=
      ⟨(Go.Am.vals_new A 68 (rdV bb)).same (get_alloc_ne (by rw [next_alloc]; omega)), Go.Am.vals_new (A.alloc (rowOb 68 (rdV bb))) 39 _, (h.alloc _).alloc _, (Kp.alloc bb A _).trans (Kp.alloc bb _ _), by simp [next_alloc], hbb, hq⟩
    revert hM0
    generalize (A.alloc (rowOb 68 (rdV bb))).alloc (rowOb 39 [.int .i64 0, .string ⟨#[]⟩, .int .u32 0, .int .i64 0, .int .i64 0, .int .i64 0, .bool false, .slice none 0 0, .slice none 0 0]) = B
    intro hM0
    obtain ⟨C, ⟨g, hg⟩, hr1, hk1⟩ := run_next hM0.hr
    have hnv := next_val hM0.h1
    have hM1 := hM0.step hr1 hk1
    apply W.seq
    apply W.runG (g) 20
    · intro M hM
      simp (config := { maxSteps := 4000000 }) (disch := first | decide +kernel | omega) only [c22, Try.f22, Option.getD_some, sub_seq1, sub_seq0, sub_nil, exec_region, runOps_cons, opF_fieldAddr, ev_tmp, T.get_set, Nat.reduceEqDiff, T.get_e, if_false, if_true, evG_some, putT_some, opF_load, opF_callv, evs, resK, opF_assign, runOps_nil, R.ok_bind, fa68_0, hnv, callV_func, List.append_nil, List.nil_append, hg]
      with_reducible rfl
    obtain ⟨C2, hst2, hM2, -, -⟩ := hM1.put (t := 3) (o := 0) (v := .int .i64 ((nx rem % 10 : Nat) : Int)) size3 (by simp [cellsD]) rfl rfl
    obtain ⟨C3, hst3, hM3, -, -⟩ := hM2.put (t := 4) (o := 6) (v := .bool (decide (nx rem / 10 % 2 = 1))) size4 (by simp [cellsD]) rfl rfl
    apply W.seq
    apply W.run 20
    · intro M
      simp (config := { maxSteps := 4000000 }) (disch := first | decide +kernel | omega) only [c22, Try.f22, Option.getD_some, sub_seq1, sub_seq0, sub_nil, exec_region, runOps_cons, opF_move, ev_tmp, T.get_set, Nat.reduceEqDiff, T.get_e, if_false, if_true, evG_some, putT_some, opF_ari, ev_int, opF_eql, opF_fieldAddr, opF_store, putT_none, runOps_nil, R.ok_bind, fa39_2, fa39_0, fa35_0, binF_int, op_quo_i64, op_rem, op_eql, hst2, hst3]
      with_reducible rfl
    apply W.seq
    refine act_arm (kind := nx rem % 10) (cut := cutD (nx rem)) hlt hM3 (k := nx rem) ?_ ?_
    · unfold actS; simp only [Sl_cons, Sl_nil, T.get_set, T.puts_cons, T.puts_nil, Nat.reduceEqDiff, Nat.reduceAdd, if_true, if_false, and_true, true_and]
    intro t4 C4 hM4 hp4
    have hp4' := hp4
    obtain ⟨p1, p2, p3, -⟩ := hp4'
    show W tb1 _ _ _
    have hrl := rd_load hM4.h1
    obtain ⟨C5, ⟨g5, hg5⟩, hr5, hk5⟩ := run_word hM4.hr
    have hM5 := hM4.step hr5 hk5
    obtain ⟨C6, hst6, hM6, -, -⟩ := hM5.put (t := 9) (o := 1) (v := strOf (wordD (armD (nx rem) rem.tail).2).1) size9 (by simp [cellsD]) rfl rfl
    apply W.seq
    apply W.runG (g5) 20
    · intro M hM
      simp (config := { maxSteps := 4000000 }) (disch := first | decide +kernel | omega) only [c22, Try.f22, Option.getD_some, sub_seq1, sub_seq0, sub_nil, exec_region, runOps_cons, opF_load, ev_tmp, p1, evG_some, putT_some, opF_call, evs, T.get_set, if_true, R.ok_bind, resK, opF_fieldAddr, Nat.reduceEqDiff, p2, if_false, opF_store, putT_none, runOps_nil, fa39_0, fa35_1, hrl, hg5, hst6]
      with_reducible rfl
    apply W.seq
    refine act_more (kind := nx rem % 10) (word := (wordD (armD (nx rem) rem.tail).2).1) (arm := (armD (nx rem) rem.tail).1) (cut := cutD (nx rem)) (k := nx rem) hM6 ?_ ?_
    · unfold actS; simp only [Sl_cons, Sl_nil, T.get_set, T.puts_cons, T.puts_nil, Nat.reduceEqDiff, Nat.reduceAdd, if_true, if_false, and_true, true_and, p1, p2, p3]
    intro t7 C7 hM7 hp7
    show W tb1 _ _ _
    apply W.seq
    refine act_stop (k := nx rem) hM7 hp7 ?_
    rintro t8 C8 xs xo hM8 hsR hoR ⟨q1, q2, q3, -⟩
    show W tb1 _ _ _
    obtain ⟨d39, hd1, hd2⟩ := und39
    have hl8 := Go.Am.load_all hd1 hd2 (by rw [size39]; rfl) hM8.h2
    have hcell := ActR.cells (d := (actD rem).1) ⟨xs, xo, rfl, hsR, hoR⟩
    obtain ⟨C9, hst9, hv9, hn9, hf9⟩ := store_all (tb := tb1) (t := 39) (by rw [size39]; rfl) hM8.h2 rfl (by simp [cellsD]) hcell.2
    apply W.seq
    apply W.run 20
    · intro M
      simp (config := { maxSteps := 4000000 }) (disch := first | decide +kernel | omega) only [c22, Try.f22, Option.getD_some, sub_seq1, sub_seq0, sub_nil, exec_region, runOps_cons, opF_load, ev_tmp, q2, evG_some, putT_some, opF_store, T.get_set, Nat.reduceEqDiff, if_false, if_true, putT_none, runOps_nil, R.ok_bind, hl8, hst9]
      with_reducible rfl
    apply W.run 20
    · intro M
      simp (config := { maxSteps := 4000000 }) (disch := first | decide +kernel | omega) only [c22, Try.f22, Option.getD_some, sub_seq1, sub_nil, exec_ret]
      with_reducible rfl
    have hn8 := hM8.hn
    have hb8 := hM8.hb
    refine ⟨.inr rfl, C9, [.agg ⟨cellsD (nx rem % 10) (wordD (armD (nx rem) rem.tail).2).1 (moreD (nx rem % 10) (wordD (armD (nx rem) rem.tail).2).2).1 (moreD (nx rem % 10) (wordD (armD (nx rem) rem.tail).2).2).2.1 (moreD (nx rem % 10) (wordD (armD (nx rem) rem.tail).2).2).2.2.1 (armD (nx rem) rem.tail).1 (cutD (nx rem)) xs xo⟩], rfl, ?_, _, rfl, ⟨xs, xo, rfl, hsR.same (by omega) (fun y hy _ => ⟨by omega, hf9 y (by omega)⟩), hoR.same (by omega) (fun y hy _ => ⟨by omega, hf9 y (by omega)⟩)⟩, ?_, ⟨by have := hM8.hk.1; omega, fun y hy hyb => by rw [hf9 y (by omega), hM8.hk.2 y hy hyb]⟩⟩
    · have hl9 := Go.Am.load_all hd1 hd2 (by rw [size39]; rfl) hv9
      simp only [Try.f22, resF, ev_tmp, T.get_set, Nat.reduceEqDiff, if_true, if_false, evG_some, R.ok_bind, q2, hl9]
    · exact hM8.hr.same (by omega) (fun y _ hy => hf9 y (by rcases hy with rfl | rfl <;> omega))
  subst hv
  exact ⟨l, A', ha, ho, hr, hk⟩
end Go.Proofs.Ytmhldlnlgjpkaaa.scr

/-
  Script: a setting's head.
-/
namespace Go.Proofs.Ytmhldlnlgjpkaaa.scr
open Go.Am
variable {q : Nat}
set_option linter.unusedSimpArgs false
set_option linter.unusedVariables false

theorem zero68 : zeroF tb1 68 = .ok (.agg ⟨[.nilFunc, .nilFunc]⟩) := by kernel_rfl
theorem bf68 (bb : Nat) : buildF tb1 68 [(0, .func (.func 39) ⟨[]⟩ ⟨[.pointer (some ⟨bb, 0, none⟩)]⟩), (1, .func (.func 40) ⟨[]⟩ ⟨[.pointer (some ⟨bb, 0, none⟩)]⟩)] = .ok (.agg ⟨rdV bb⟩) := by kernel_rfl
theorem rdV_one (bb : Nat) : ∀ v ∈ rdV bb, oneCell v = true := fun v hv => by
  simp only [rdV, List.mem_cons, List.not_mem_nil, or_false] at hv
  rcases hv with rfl | rfl <;> rfl
noncomputable def c21 : Code := Try.f21.body.getD .skip
theorem c21_eq : Try.f21.body = some (.seq (sub c21 [0]) (.seq (sub c21 [1,0]) (sub c21 [1,1]))) := by kernel_rfl
theorem run_reading {A : Mem} {rem : List UInt8} {x : Value} (h : RdS q A rem x) : ∃ A', Ans tb1 21 [x] A (.agg ⟨rdV A.next⟩) A' ∧ Rd q A' A.next rem ∧ A.next + 2 ≤ A'.next ∧ ∀ y, y < A.next → A'.get y = A.get y := by
  have hq := h.1
  obtain ⟨v, A', ha, hv, hr, hn, hf⟩ : ∃ v A', Ans tb1 21 [x] A v A' ∧ v = .agg ⟨rdV A.next⟩ ∧ Rd q A' A.next rem ∧ A.next + 2 ≤ A'.next ∧ ∀ y, y < A.next → A'.get y = A.get y := by
    refine ans_of_W (fn_at Try.func21) c21_eq (by rw [Try.ntmps21]; simp) (by kernel_rfl) (by kernel_rfl) ?_
    obtain ⟨e1, e2, -⟩ := h.self_cells
    apply W.seq
    apply W.run 20
    · intro M
      simp (config := { maxSteps := 4000000 }) (disch := first | decide +kernel | omega) only [c21, Try.f21, Option.getD_some, sub_seq0, sub_nil, T.puts_cons, Nat.reduceAdd, T.puts_nil, exec_region, runOps_cons, opF_box, ev_tmp, T.get_set, T.get_e, if_true, evG_some, at_ptr, putT_some, opF_alloc, zero68, next_alloc, runOps_nil, R.ok_bind, cells_agg, e1]
      with_reducible rfl
    have hv0 : Vals ((A.alloc (rowOb 22 [x])).alloc (rowOb 68 [.nilFunc, .nilFunc])) 68 (A.next + 1) (.var 2) [.nilFunc, .nilFunc] := Go.Am.vals_new (A.alloc (rowOb 22 [x])) 68 _
    have hvx : Vals ((A.alloc (rowOb 22 [x])).alloc (rowOb 68 [.nilFunc, .nilFunc])) 22 A.next (.var 1) [x] := (Go.Am.vals_new A 22 [x]).same (get_alloc_ne (by rw [next_alloc]; omega))
    have hn0 : ((A.alloc (rowOb 22 [x])).alloc (rowOb 68 [.nilFunc, .nilFunc])).next = A.next + 2 := by simp [next_alloc]
    have hf0 : ∀ y, y < A.next → ((A.alloc (rowOb 22 [x])).alloc (rowOb 68 [.nilFunc, .nilFunc])).get y = A.get y := fun y hy => by rw [get_alloc_ne (by rw [next_alloc]; omega), get_alloc_ne (by omega)]
    obtain ⟨C, hst, hv1, hn1, hf1⟩ := store_all (tb := tb1) (t := 68) (by rw [size68]; rfl) hv0 (show (rdV A.next).length = _ from rfl) (by simp) (rdV_one A.next)
    apply W.seq
    apply W.run 20
    · intro M
      simp (config := { maxSteps := 4000000 }) (disch := first | decide +kernel | omega) only [c21, Try.f21, Option.getD_some, sub_seq1, sub_seq0, sub_nil, exec_region, runOps_cons, opF_makeFunc, evs, ev_tmp, T.get_set, Nat.reduceEqDiff, T.get_e, if_false, if_true, evG_some, R.ok_bind, putT_some, opF_build, evp, opF_store, putT_none, runOps_nil, bf68, hst]
      with_reducible rfl
    apply W.run 20
    · intro M
      simp (config := { maxSteps := 4000000 }) (disch := first | decide +kernel | omega) only [c21, Try.f21, Option.getD_some, sub_seq1, sub_nil, exec_ret]
      with_reducible rfl
    refine ⟨.inr rfl, C, [.agg ⟨rdV A.next⟩], rfl, ?_, rfl, ⟨by omega, x, hvx.same (hf1 _ (by omega)), ?_, ?_⟩, by omega, fun y hy => by rw [hf1 y (by omega), hf0 y hy]⟩
    · have hl := rd_load hv1
      simp only [Try.f21, resF, ev_tmp, T.get_set, T.puts_cons, T.puts_nil, Nat.reduceEqDiff, Nat.reduceAdd, if_true, if_false, evG_some, R.ok_bind, hl]
    · exact h.same (by omega) (fun h0 => by rw [hf1 q (by omega), hf0 q h0])
    · intro h0
      omega
  subst hv
  exact ⟨A', ha, hr, hn, hf⟩

/-! ### What a setting has -/
def ActsR (P : Nat → Prop) (A : Mem) (ds : List ActD) (x : Value) : Prop :=
  ∃ ls b, (x = .slice none 0 0 ∨ P b) ∧ SlcM A 39 9 b ls x ∧ ls.length = ds.length ∧ ∀ (i : Nat) (d : ActD) (l : List Value), ds[i]? = some d → ls[i]? = some l → ActR P A d l
def actsD : Nat → List UInt8 → List ActD × List UInt8
  | 0, r => ([], r)
  | n + 1, r => if r.length = 0 then ([], r) else ((actD r).1 :: (actsD n (actD r).2).1, (actsD n (actD r).2).2)
theorem und28 : ∃ d, tb1.und 28 = some d ∧ isAggD d = true := by
  have h : (tb1.und 28).map isAggD = some true := by kernel_rfl
  cases hq : tb1.und 28 with
  | none => rw [hq] at h; cases h
  | some d => rw [hq] at h; exact ⟨d, rfl, by simpa using h⟩
theorem size26 : sizeF tb1 26 = .ok 1 := by kernel_rfl
theorem zero28 : zeroF tb1 28 = .ok (.agg ⟨[.int .i64 0, .int .i64 0, .int .i64 0, .slice none 0 0]⟩) := by kernel_rfl
section
variable (b : Nat)
theorem fa28_0 : fieldAddrF tb1 28 (.pointer (some ⟨b, 0, none⟩)) 0 = .ok (.pointer (some ⟨b, 0, none⟩)) := by kernel_rfl
theorem fa28_1 : fieldAddrF tb1 28 (.pointer (some ⟨b, 0, none⟩)) 1 = .ok (.pointer (some ⟨b, 2, none⟩)) := by kernel_rfl
theorem fa28_2 : fieldAddrF tb1 28 (.pointer (some ⟨b, 0, none⟩)) 2 = .ok (.pointer (some ⟨b, 3, none⟩)) := by kernel_rfl
theorem fa25_0 : fieldAddrF tb1 25 (.pointer (some ⟨b, 0, none⟩)) 0 = .ok (.pointer (some ⟨b, 0, none⟩)) := by kernel_rfl
theorem fa25_1 : fieldAddrF tb1 25 (.pointer (some ⟨b, 0, none⟩)) 1 = .ok (.pointer (some ⟨b, 1, none⟩)) := by kernel_rfl
end

/-- Memory while a setting is read: 'bs' holds it, 'bb' the bytes that are left, 'br' their reader. -/
structure ParM (q : Nat) (A : Mem) (bs bb br lo : Nat) (l : List Value) (rem : List UInt8) (C : Mem) : Prop where
  h1 : Vals C 28 bs (.var 4) l
  h2 : Vals C 68 br (.var 2) (rdV bb)
  hr : Rd q C bb rem
  hs : A.next ≤ bs ∧ bs < bb ∧ bb < br ∧ br < lo
  h0 : q < A.next
  hn : lo ≤ C.next
  hf : ∀ y, y < A.next → C.get y = A.get y
theorem ParM.step {A : Mem} {bs bb br lo : Nat} {l : List Value} {rem rem' : List UInt8} {C C' : Mem} (h : ParM q A bs bb br lo l rem C) (hr : Rd q C' bb rem') (hk : Kp bb C C') : ParM q A bs bb br lo l rem' C' := by
  obtain ⟨s1, s2, s3, s4⟩ := h.hs
  have hn := h.hn
  have hn' := hk.1
  exact ⟨h.h1.same (hk.2 _ (by omega) (by omega)), h.h2.same (hk.2 _ (by omega) (by omega)), hr, h.hs, h.h0, by omega, fun y hy => by rw [hk.2 y (by omega) (by omega), h.hf y hy]⟩
theorem ParM.put {A : Mem} {bs bb br lo : Nat} {l : List Value} {rem : List UInt8} {C : Mem} (h : ParM q A bs bb br lo l rem C) {t : TypeId} {o : Nat} {v : Value} (hsz : sizeF tb1 t = .ok 1) (ho : o < l.length) (hv : v.cells.toList = [v]) (h1c : oneCell v = true) :
    ∃ C', storeF tb1 C t (.pointer (some ⟨bs, o, none⟩)) v = .ok C' ∧ ParM q A bs bb br lo (l.set o v) rem C' ∧ C'.next = C.next ∧ ∀ y, y ≠ bs → C'.get y = C.get y := by
  obtain ⟨C', e1, e2, e3, e4⟩ := store_vals (tb := tb1) (t := t) hsz h.h1 ho hv h1c
  obtain ⟨s1, s2, s3, s4⟩ := h.hs
  have hn := h.hn
  have h0 := h.h0
  refine ⟨C', e1, ⟨e2, h.h2.same (e4 _ (by omega)), h.hr.same (by omega) (fun y _ hy => ?_), h.hs, h.h0, by omega, fun y hy => by rw [e4 y (by omega), h.hf y hy]⟩, e3, e4⟩
  exact e4 y (by rcases hy with rfl | rfl <;> omega)

noncomputable def c9 : Code := Try.f9.body.getD .skip
noncomputable def c9b1 : Code := sub c9 [1,1,1,1,1,1,0,0,0]
theorem c9_eq : Try.f9.body = some (.seq (sub c9 [0]) (.seq (sub c9 [1,0]) (.seq (sub c9 [1,1,0]) (.seq (sub c9 [1,1,1,0]) (.seq (sub c9 [1,1,1,1,0]) (.seq (sub c9 [1,1,1,1,1,0]) (.seq (.block 0 (.loop c9b1)) (.seq (sub c9 [1,1,1,1,1,1,1,0]) (sub c9 [1,1,1,1,1,1,1,1]))))))))) := by kernel_rfl
/-- The slots. -/
def parS (x : Value) (bs br : Nat) : List (Nat × Value) := [(0, x), (2, .pointer (some ⟨bs, 0, none⟩)), (4, .pointer (some ⟨br, 0, none⟩))]
def headC (w f qu : Nat) (xa : Value) : List Value := [.int .i64 (w : Int), .int .i64 (f : Int), .int .i64 (qu : Int), xa]

set_option maxHeartbeats 4000000 in
set_option maxRecDepth 20000 in
theorem parse_head {A : Mem} {rem : List UInt8} {x : Value} (h0 : q < A.next) (h : RdS q A rem x) {K : Ex → St → Prop}
    (hK : ∀ t C bs bb br lo, ParM q A bs bb br lo (headC (1 + nx rem) (2 + nx rem.tail % 8) (nx rem.tail.tail + 256 * nx rem.tail.tail.tail) (.slice none 0 0)) rem.tail.tail.tail.tail C → Sl t (parS x bs br) →
      W tb1 (.seq (.block 0 (.loop c9b1)) (.seq (sub c9 [1,1,1,1,1,1,1,0]) (sub c9 [1,1,1,1,1,1,1,1]))) ⟨t, 56, [], C, none⟩ K) :
    W tb1 (.seq (sub c9 [0]) (.seq (sub c9 [1,0]) (.seq (sub c9 [1,1,0]) (.seq (sub c9 [1,1,1,0]) (.seq (sub c9 [1,1,1,1,0]) (.seq (sub c9 [1,1,1,1,1,0]) (.seq (.block 0 (.loop c9b1)) (.seq (sub c9 [1,1,1,1,1,1,1,0]) (sub c9 [1,1,1,1,1,1,1,1]))))))))) ⟨T.puts .e 0 [x], 56, [], A, none⟩ K := by
  have b0 := nx_lt rem
  have b1 := nx_lt rem.tail
  have b2 := nx_lt rem.tail.tail
  have b3 := nx_lt rem.tail.tail.tail
  apply W.seq
  apply W.run 20
  · intro M
    simp (config := { maxSteps := 4000000 }) (disch := first | decide +kernel | omega) only [c9, Try.f9, Option.getD_some, sub_seq0, sub_nil, T.puts_cons, Nat.reduceAdd, T.puts_nil, exec_region, runOps_cons, opF_alloc, zero28, at_ptr, putT_some, opF_assign, ev_int, runOps_nil, R.ok_bind, cells_agg]
    with_reducible rfl
  have hvs : Vals (A.alloc (rowOb 28 [.int .i64 0, .int .i64 0, .int .i64 0, .slice none 0 0])) 28 A.next (.var 4) [.int .i64 0, .int .i64 0, .int .i64 0, .slice none 0 0] := Go.Am.vals_new A 28 _
  have hr0 : RdS q (A.alloc (rowOb 28 [.int .i64 0, .int .i64 0, .int .i64 0, .slice none 0 0])) rem x := h.same (by rw [next_alloc]; omega) (fun h0 => get_alloc_ne (by omega))
  have hn0 : (A.alloc (rowOb 28 [.int .i64 0, .int .i64 0, .int .i64 0, .slice none 0 0])).next = A.next + 1 := next_alloc _ _
  have hf0 : ∀ y, y < A.next → (A.alloc (rowOb 28 [.int .i64 0, .int .i64 0, .int .i64 0, .slice none 0 0])).get y = A.get y := fun y hy => get_alloc_ne (by omega)
  revert hvs hr0 hn0 hf0
  generalize A.alloc (rowOb 28 [.int .i64 0, .int .i64 0, .int .i64 0, .slice none 0 0]) = B
  intro hvs hr0 hn0 hf0
  obtain ⟨C, ⟨g, hg⟩, hrC, hnC, hfC⟩ := run_reading hr0
  have hvr : Vals (C.alloc (rowOb 68 [.nilFunc, .nilFunc])) 68 C.next (.var 2) [.nilFunc, .nilFunc] := Go.Am.vals_new C 68 _
  obtain ⟨D, hst, hv1, hn1, hf1⟩ := store_all (tb := tb1) (t := 68) (by rw [size68]; rfl) hvr (show (rdV B.next).length = _ from rfl) (by simp) (rdV_one B.next)
  have hnA : (C.alloc (rowOb 68 [.nilFunc, .nilFunc])).next = C.next + 1 := next_alloc _ _
  have hfD : ∀ y, y < C.next → D.get y = C.get y := fun y hy => by rw [hf1 y (by omega), get_alloc_ne (by omega)]
  have hM : ParM q A A.next B.next C.next (C.next + 1) [.int .i64 0, .int .i64 0, .int .i64 0, .slice none 0 0] rem D :=
    ⟨(hvs.same (hfC _ (by omega))).same (hfD _ (by omega)), hv1, hrC.same (by omega) (fun y hy _ => hfD y hy), ⟨by omega, by omega, by omega, by omega⟩, h0, by omega, fun y hy => by rw [hfD y (by omega), hfC y (by omega), hf0 y hy]⟩
  apply W.seq
  apply W.runG (g) 20
  · intro M hM
    simp (config := { maxSteps := 4000000 }) (disch := first | decide +kernel | omega) only [c9, Try.f9, Option.getD_some, sub_seq1, sub_seq0, sub_nil, exec_region, runOps_cons, opF_move, ev_tmp, T.get_set, Nat.reduceEqDiff, T.get_e, if_true, if_false, evG_some, putT_some, opF_call, evs, R.ok_bind, resK, opF_alloc, zero68, at_ptr, opF_store, putT_none, runOps_nil, cells_agg, hg, hst]
    with_reducible rfl
  obtain ⟨D1, ⟨g1, hg1⟩, hr1, hk1⟩ := run_next hM.hr
  have hnv1 := next_val hM.h2
  obtain ⟨E1, hst1, hM1, -, -⟩ := (hM.step hr1 hk1).put (t := 3) (o := 0) (v := .int .i64 ((1 + nx rem : Nat) : Int)) size3 (by simp) rfl rfl
  apply W.seq
  apply W.runG (g1) 20
  · intro M hM
    simp (config := { maxSteps := 4000000 }) (disch := first | decide +kernel | omega) only [c9, Try.f9, Option.getD_some, sub_seq1, sub_seq0, sub_nil, exec_region, runOps_cons, opF_fieldAddr, ev_tmp, T.get_set, Nat.reduceEqDiff, T.get_e, if_false, if_true, evG_some, putT_some, opF_load, opF_callv, evs, resK, opF_ari, ev_int, opF_store, putT_none, runOps_nil, R.ok_bind, fa28_0, fa25_0, fa68_0, hnv1, callV_func, List.append_nil, List.nil_append, hg1, binF_int, op_add_i64, hst1]
    with_reducible rfl
  obtain ⟨D2, ⟨g2, hg2⟩, hr2, hk2⟩ := run_next hM1.hr
  have hnv2 := next_val hM1.h2
  obtain ⟨E2, hst2, hM2, -, -⟩ := (hM1.step hr2 hk2).put (t := 3) (o := 1) (v := .int .i64 ((2 + nx rem.tail % 8 : Nat) : Int)) size3 (by simp) rfl rfl
  apply W.seq
  apply W.runG (g2) 20
  · intro M hM
    simp (config := { maxSteps := 4000000 }) (disch := first | decide +kernel | omega) only [c9, Try.f9, Option.getD_some, sub_seq1, sub_seq0, sub_nil, exec_region, runOps_cons, opF_fieldAddr, ev_tmp, T.get_set, Nat.reduceEqDiff, T.get_e, if_false, if_true, evG_some, putT_some, opF_load, opF_callv, evs, resK, opF_ari, ev_int, opF_store, putT_none, runOps_nil, R.ok_bind, fa28_0, fa25_1, fa68_0, hnv2, callV_func, List.append_nil, List.nil_append, hg2, binF_int, op_rem, op_add_i64, hst2]
    with_reducible rfl
  obtain ⟨D3, ⟨g3, hg3⟩, hr3, hk3⟩ := run_next hM2.hr
  have hnv3 := next_val hM2.h2
  obtain ⟨E3, hst3, hM3, -, -⟩ := (hM2.step hr3 hk3).put (t := 3) (o := 2) (v := .int .i64 ((nx rem.tail.tail : Nat) : Int)) size3 (by simp) rfl rfl
  apply W.seq
  apply W.runG (g3) 20
  · intro M hM
    simp (config := { maxSteps := 4000000 }) (disch := first | decide +kernel | omega) only [c9, Try.f9, Option.getD_some, sub_seq1, sub_seq0, sub_nil, exec_region, runOps_cons, opF_fieldAddr, ev_tmp, T.get_set, Nat.reduceEqDiff, T.get_e, if_false, if_true, evG_some, putT_some, opF_load, opF_callv, evs, resK, opF_store, putT_none, runOps_nil, R.ok_bind, fa28_1, fa68_0, hnv3, callV_func, List.append_nil, List.nil_append, hg3, hst3]
    with_reducible rfl
  obtain ⟨D4, ⟨g4, hg4⟩, hr4, hk4⟩ := run_next hM3.hr
  have hnv4 := next_val hM3.h2
  have hM4' := hM3.step hr4 hk4
  have hq1 : loadF tb1 E3.get 3 (.pointer (some ⟨A.next, 2, none⟩)) = .ok (.int .i64 ((nx rem.tail.tail : Nat) : Int)) := load_vals und3 rfl hM3.h1 rfl
  have hq2 : loadF tb1 D4.get 3 (.pointer (some ⟨A.next, 2, none⟩)) = .ok (.int .i64 ((nx rem.tail.tail : Nat) : Int)) := load_vals und3 rfl hM4'.h1 rfl
  have hself := sameV_int .i64 (nx rem.tail.tail) rfl
  obtain ⟨E4, hst4, hM4, -, -⟩ := hM4'.put (t := 3) (o := 2) (v := .int .i64 ((nx rem.tail.tail + 256 * nx rem.tail.tail.tail : Nat) : Int)) size3 (by simp) rfl rfl
  apply W.seq
  apply W.runG (g4) 20
  · intro M hM
    simp (config := { maxSteps := 4000000 }) (disch := first | decide +kernel | omega) only [c9, Try.f9, Option.getD_some, sub_seq1, sub_seq0, sub_nil, exec_float [(1, 4)], runD_P, Nat.reduceAdd, opF_fieldAddr, ev_tmp, T.get_set, Nat.reduceEqDiff, T.get_e, if_false, if_true, evG_some, putT_some, runD_Rd, rOp_load, R.ok_bind, selF_nil, rereadM_nil, runD_L, List.map_nil, hide_nil, backF_nil, selR_no, selR_yes, selR_nil, rereadR_cons, reread_load, rereadR_nil, Bool.and_true, opF_ari, ev_int, opF_callv, evs, resK, runD_end, cond_true, opF_store, putT_none, fa28_1, fa68_0, hnv4, callV_func, List.append_nil, List.nil_append, hg4, binF_int, op_mul_i64, hq1, hq2, rereadV_eq, hself, op_add_i64, hst4]
    with_reducible rfl
  refine hK _ _ _ _ _ _ hM4 ?_
  unfold parS; simp only [Sl_cons, Sl_nil, T.get_set, T.puts_cons, T.puts_nil, Nat.reduceEqDiff, Nat.reduceAdd, if_true, if_false, and_true, true_and]
end Go.Proofs.Ytmhldlnlgjpkaaa.scr

/-
  Script: a setting.
-/
namespace Go.Proofs.Ytmhldlnlgjpkaaa.scr
open Go.Am
variable {q : Nat}
set_option linter.unusedSimpArgs false
set_option linter.unusedVariables false

theorem wordD_rest (r : List UInt8) : (wordD r).2.length ≤ r.length := by
  unfold wordD
  split <;> simp only [List.length_tail, List.length_drop] <;> omega
theorem armD_rest (k : Nat) (r : List UInt8) : (armD k r).2.length ≤ r.length := by
  unfold armD
  split <;> simp only [List.length_tail] <;> omega
theorem moreD_rest (k : Nat) (r : List UInt8) : (moreD k r).2.2.2.length ≤ r.length := by
  unfold moreD
  split
  · simp only [List.length_tail]; omega
  · split
    · simp only [List.length_tail]; omega
    · simp
theorem openRest_len (r : List UInt8) : (openRest r).length ≤ r.length := by unfold openRest; simp only [List.length_drop]; omega
theorem opensRest_len (r : List UInt8) : ∀ k, (opensRest r k).length ≤ r.length
  | 0 => Nat.le_refl _
  | k + 1 => Nat.le_trans (openRest_len _) (opensRest_len r k)
theorem stopD_rest (c : Bool) (r : List UInt8) : (stopD c r).2.2.length ≤ r.length := by
  unfold stopD
  split
  · refine Nat.le_trans (opensRest_len _ _) ?_
    simp only [List.length_drop, List.length_tail]; omega
  · simp
theorem actD_rest (r : List UInt8) : (actD r).2.length ≤ r.length := by
  show (stopD _ _).2.2.length ≤ _
  refine Nat.le_trans (stopD_rest _ _) (Nat.le_trans (moreD_rest _ _) (Nat.le_trans (wordD_rest _) (Nat.le_trans (armD_rest _ _) ?_)))
  simp only [List.length_tail]; omega
theorem actsD_rest : ∀ n r, (actsD n r).2.length ≤ r.length
  | 0, r => Nat.le_refl _
  | n + 1, r => by
    unfold actsD
    split
    · exact Nat.le_refl _
    · exact Nat.le_trans (actsD_rest n _) (actD_rest r)
theorem actsD_nil (n : Nat) {r : List UInt8} (h : r.length = 0) : actsD n r = ([], r) := by
  cases n with
  | zero => rfl
  | succ n => unfold actsD; rw [if_pos h]
theorem actsD_step (n : Nat) {r : List UInt8} (h : r.length ≠ 0) : actsD (n + 1) r = ((actD r).1 :: (actsD n (actD r).2).1, (actsD n (actD r).2).2) := by
  rw [actsD, if_neg h]
theorem actsD_len : ∀ n r, (actsD n r).1.length ≤ n
  | 0, r => by simp [actsD]
  | n + 1, r => by
    unfold actsD
    split
    · simp
    · simp only [List.length_cons]; exact Nat.succ_le_succ (actsD_len n _)

theorem ParM.grow {A : Mem} {bs bb br lo : Nat} {l : List Value} {rem : List UInt8} {C C' : Mem} (h : ParM q A bs bb br lo l rem C) (hn : C.next ≤ C'.next) (hg : ∀ y, y < lo → C'.get y = C.get y) : ParM q A bs bb br lo l rem C' := by
  obtain ⟨s1, s2, s3, s4⟩ := h.hs
  have hn0 := h.hn
  have h0 := h.h0
  exact ⟨h.h1.same (hg _ (by omega)), h.h2.same (hg _ (by omega)), h.hr.same hn (fun y _ hy => hg y (by rcases hy with rfl | rfl <;> omega)), h.hs, h.h0, by omega, fun y hy => by rw [hg y (by omega), h.hf y hy]⟩
theorem bs26 (a0 a1 a2 a3 a4 a5 a6 a7 a8 : Value) : buildSliceF tb1 26 1 [(0, .agg ⟨[a0, a1, a2, a3, a4, a5, a6, a7, a8]⟩)] = .ok (rowOb 39 [a0, a1, a2, a3, a4, a5, a6, a7, a8], .slc 1 2) := by kernel_rfl
theorem zc39 : ∃ z, zcellsF tb1 39 = .ok (9, z) := ⟨_, by unfold zcellsF; rw [zero39, R.ok_bind, size39]; rfl⟩
theorem ty39 : ∃ i, tb1.ty.get 39 = some i ∧ 0 < i.bytes ∧ i.bytes ≤ 65536 := by
  have h : ((tb1.ty.get 39).map fun i => decide (0 < i.bytes) && decide (i.bytes ≤ 65536)) = some true := by kernel_rfl
  cases hq : tb1.ty.get 39 with
  | none => rw [hq] at h; cases h
  | some i =>
    rw [hq] at h
    simp only [Option.map_some, Option.some.injEq, Bool.and_eq_true, decide_eq_true_eq] at h
    exact ⟨i, rfl, h⟩
theorem sameV_head {w f qu : Nat} {xa : Value} (h : ∀ d, sameV (d + 1) xa xa = true) : sameV 100 (.agg ⟨headC w f qu xa⟩) (.agg ⟨headC w f qu xa⟩) = true := by
  have h1 : ∀ d (n : Nat), sameV (d + 1) (.int .i64 (n : Int)) (.int .i64 (n : Int)) = true := fun d n => by
    rw [sameV]
    simp only [ieqF_iff]
    simp [kindEq]
  show sameV (98 + 2) _ _ = true
  rw [sameV]
  simp [headC, h1, h]
theorem SlcM.self {A : Mem} {e : TypeId} {n b : Nat} {ls : List (List Value)} {x : Value} (h : SlcM A e n b ls x) (d : Nat) : sameV (d + 1) x x = true := by
  rcases h with ⟨rfl, -⟩ | ⟨k, c, rfl, -⟩
  · simp [sameV]
  · simp [sameV, sameA, sameN]

set_option maxHeartbeats 4000000 in
set_option maxRecDepth 20000 in
theorem parse_acts {A : Mem} {bs bb br lo w f qu : Nat} {rem : List UInt8} {x : Value} {t : T Value} {C : Mem} {K : Ex → St → Prop} (hM : ParM q A bs bb br lo (headC w f qu (.slice none 0 0)) rem C) (hp : Sl t (parS x bs br))
    (hK : ∀ t' C' xa, ParM q A bs bb br lo (headC w f qu xa) (actsD 60 rem).2 C' → ActsR (fun c => lo ≤ c) C' (actsD 60 rem).1 xa → Sl t' (parS x bs br) → K (.exit 0) ⟨t', 56, [], C', none⟩) : W tb1 (.loop c9b1) ⟨t, 56, [], C, none⟩ K := by
  refine W.up 60 (fun i t C => ∃ xa ls bA r ds, ParM q A bs bb br lo (headC w f qu xa) r C ∧ SlcM C 39 9 bA ls xa ∧ (xa = .slice none 0 0 ∨ lo ≤ bA) ∧ ls.length = i ∧ ds.length = i ∧
    (∀ (j : Nat) (d : ActD) (l : List Value), ds[j]? = some d → ls[j]? = some l → ActR (fun c => lo ≤ c ∧ (xa = .slice none 0 0 ∨ c ≠ bA)) C d l) ∧ (ds ++ (actsD (60 - i) r).1, (actsD (60 - i) r).2) = actsD 60 rem ∧ Sl t (parS x bs br)) ?_ (Nat.zero_le _) ⟨.slice none 0 0, [], 0, rem, [], hM, SlcM.nil _ _ _ _, .inl rfl, rfl, rfl, fun j d l hd _ => by simp at hd, rfl, hp⟩
  rintro i t C hi ⟨xa, ls, bA, r, ds, hM, hx, hb, hls, hds, hall, htot, hp⟩
  have hp' := hp
  obtain ⟨g0, g2, g4, -⟩ := hp'
  have hla : loadF tb1 C.get 26 (.pointer (some ⟨bs, 3, none⟩)) = .ok xa := load_vals und26 rfl hM.h1 rfl
  have hlen := hx.len (tb := tb1) (t := 26) und26
  obtain ⟨gl, hgl⟩ := run_left hM.hr
  have hlv := left_val hM.h2
  obtain ⟨s1, s2, s3, s4⟩ := hM.hs
  have hlo := hM.hn
  have fin : ActsR (fun c => lo ≤ c) C ds xa := ⟨ls, bA, hb, hx, by omega, fun j d l hd hl => (hall j d l hd hl).same (Nat.le_refl _) (fun c hc _ => ⟨hc.1, rfl⟩)⟩
  by_cases hlt : i < 60
  · by_cases hr0 : r.length = 0
    · have e := actsD_nil (60 - i) hr0
      rw [e, List.append_nil] at htot
      have n0 : ¬ 0 < r.length := by omega
      apply W.runG (gl) 20
      · intro M hM
        simp (config := { maxSteps := 4000000 }) (disch := first | decide +kernel | (rw [wantF_guard]; simp only [wantD_some, dstAt_zero, dstAt_succ, T.get_set, T.get_e, Nat.reduceEqDiff, if_true, if_false, wantV_bool, wantV_unit, unitV, cond_true, cond_false, Bool.not_true, Bool.not_false, List.toList_toArray]) | omega) only [c9b1, c9, Try.f9, Option.getD_some, sub_seq1, sub_seq0, sub_block, sub_loop, sub_nil, exec_seq, exec_region, runOps_cons, opF_fieldAddr, ev_tmp, g2, evG_some, putT_some, opF_load, T.get_set, if_true, opF_len, evs, Nat.reduceEqDiff, if_false, R.ok_bind, opF_ari, ev_int, opF_move, fa28_2, hla, hlen, hls, binF_int, op_lssI, cast_lt, hlt, decide_true, runOps_yes, g4, opF_callv, resK, opF_pick, pickF, ev_bool, runOps_nil, fa68_1, Nat.reduceAdd, hlv, callV_func, List.append_nil, List.nil_append, hgl, op_gtr, n0, decide_false, exec_cond, exec_skip, exec_exit, exec_block]
        with_reducible rfl
      rw [← htot] at hK
      exact hK _ _ xa hM fin (by unfold parS; simp only [Sl_cons, Sl_nil, T.get_set, T.puts_cons, T.puts_nil, Nat.reduceEqDiff, Nat.reduceAdd, if_true, if_false, and_true, true_and, g0, g2, g4])
    · have p0 : 0 < r.length := by omega
      obtain ⟨l, C1, ⟨g, hg⟩, hA1, hr1, hk1⟩ := run_act hM.hr
      have hM1 := hM.step hr1 hk1
      have hla1 : loadF tb1 C1.get 26 (.pointer (some ⟨bs, 3, none⟩)) = .ok xa := load_vals und26 rfl hM1.h1 rfl
      have hrl := rd_load hM.h2
      have hself := SlcM.self hx 99
      obtain ⟨hl9, hl1⟩ := hA1.cells
      have hbsl : buildSliceF tb1 26 1 [(0, .agg ⟨l⟩)] = .ok (rowOb 39 l, .slc 1 2) := by
        obtain ⟨xs, xo, e, _⟩ := hA1
        rw [e]; exact bs26 _ _ _ _ _ _ _ _ _
      have hn1 := hk1.1
      have hbl := SlcM.lt hx
      have hx1 : SlcM C1 39 9 bA ls xa := by
        rcases hb with he | hb2
        · subst he
          rcases hx with hx | ⟨k, c, hx, _⟩
          · exact .inl hx
          · cases hx
        · exact hx.same hn1 (fun hl => hk1.2 bA hl (by omega))
      have hn2 : (C1.alloc (rowOb 39 l)).next = C1.next + 1 := next_alloc _ _
      obtain ⟨ti, ht1, ht2, ht3⟩ := ty39
      obtain ⟨z, hz⟩ := zc39
      have hx2 : SlcM (C1.alloc (rowOb 39 l)) 39 9 bA ls xa := hx1.same (by omega) (fun hl => get_alloc_ne (by omega))
      obtain ⟨xa', C3, happ, hs3, hn3, hf3⟩ := hx2.append (tb := tb1) (st := 26) (xt := 26) und26 und26 hz ht1 ht2 ht3 (by omega) (by omega) (by omega) (get_alloc_self C1 _) hl9 hl1
      have hfr : ∀ y, (y = bA → xa = .slice none 0 0) → y < C1.next → C3.get y = C1.get y := fun y h1 h2 => by rw [hf3 y h1 (by omega), get_alloc_ne (by omega)]
      have hM3 : ParM q A bs bb br lo (headC w f qu xa) (actD r).2 C3 := hM1.grow (by omega) (fun y hy => hfr y (fun e => by rcases hb with he | hb2; exact he; omega) (by omega))
      obtain ⟨C4, hst4, hM4, hn4, hf4⟩ := hM3.put (t := 26) (o := 3) (v := xa') size26 (by simp [headC]) (SlcM.cells hs3).1 (SlcM.cells hs3).2.1
      apply W.runG ((gl+g)) 20
      · intro M hM
        simp (config := { maxSteps := 4000000 }) (disch := first | decide +kernel | (rw [wantF_guard]; simp only [wantD_some, dstAt_zero, dstAt_succ, T.get_set, T.get_e, Nat.reduceEqDiff, if_true, if_false, wantV_bool, wantV_unit, unitV, cond_true, cond_false, Bool.not_true, Bool.not_false, List.toList_toArray]) | omega) only [c9b1, c9, Try.f9, Option.getD_some, sub_seq1, sub_seq0, sub_block, sub_loop, sub_nil, exec_seq, exec_region, runOps_cons, opF_fieldAddr, ev_tmp, g2, evG_some, putT_some, opF_load, T.get_set, if_true, opF_len, evs, Nat.reduceEqDiff, if_false, R.ok_bind, opF_ari, ev_int, opF_move, fa28_2, hla, hlen, hls, binF_int, op_lssI, cast_lt, hlt, decide_true, runOps_yes, g4, opF_callv, resK, opF_pick, pickF, ev_bool, runOps_nil, fa68_1, Nat.reduceAdd, hlv, callV_func, List.append_nil, List.nil_append, hgl, op_gtr, p0, exec_cond, exec_skip, exec_exit, exec_block, exec_float [(1, 3)], runD_P, runD_Rd, rOp_load, selF_nil, rereadM_nil, hrl, runD_L, List.map_nil, hide_nil, backF_nil, selR_no, selR_yes, selR_nil, rereadR_cons, reread_load, rereadR_nil, Bool.and_true, runD_Al, opF_buildSlice, evp, opF_call, selF_no, cond_true, opF_builtin, runD_end, opF_store, putT_none, builtin_append, hg, hbsl, at_slc, hla1, rereadV_eq, hself, happ, hst4]
        with_reducible rfl
      refine ⟨hlt, _, _, rfl, xa', ls ++ [l], (C1.alloc (rowOb 39 l)).next, (actD r).2, ds ++ [(actD r).1], hM4, hs3.same (by omega) (fun _ => hf4 _ (by omega)), .inr (by omega), by rw [List.length_append, hls]; rfl, by rw [List.length_append, hds]; rfl, fun j d l' hd hl' => ?_, ?_, ?_⟩
      · by_cases hj : j < i
        · rw [List.getElem?_append_left (by omega)] at hd hl'
          refine (hall j d l' hd hl').same (by omega) (fun c hc hcl => ⟨⟨hc.1, .inr (by omega)⟩, ?_⟩)
          rw [hf4 c (by omega), hfr c (fun e => hc.2.resolve_right (fun hne => hne e)) (by omega), hk1.2 c hcl (by omega)]
        · have hji : j = i := by
            have := (List.getElem?_eq_some_iff.1 hd).1
            rw [List.length_append] at this
            simp at this; omega
          subst hji
          rw [List.getElem?_append_right (by omega), hds, Nat.sub_self] at hd
          rw [List.getElem?_append_right (by omega), hls, Nat.sub_self] at hl'
          simp only [List.getElem?_cons_zero, Option.some.injEq] at hd hl'
          subst hd hl'
          refine hA1.same (by omega) (fun c hc hcl => ⟨⟨by omega, .inr (by omega)⟩, ?_⟩)
          rw [hf4 c (by omega), hfr c (fun e => ?_) hcl]
          rcases hbl with he | hlt2
          · exact he
          · omega
      · rw [← htot, show 60 - i = (60 - (i + 1)) + 1 by omega, actsD_step _ hr0]
        simp
      · unfold parS; simp only [Sl_cons, Sl_nil, T.get_set, T.puts_cons, T.puts_nil, Nat.reduceEqDiff, Nat.reduceAdd, if_true, if_false, and_true, true_and, g0, g2, g4]
  · have hi60 : i = 60 := by omega
    subst hi60
    have e : actsD (60 - 60) r = ([], r) := rfl
    rw [e, List.append_nil] at htot
    apply W.run 20
    · intro M
      simp (config := { maxSteps := 4000000 }) (disch := first | decide +kernel | (rw [wantF_guard]; simp only [wantD_some, dstAt_zero, dstAt_succ, T.get_set, T.get_e, Nat.reduceEqDiff, if_true, if_false, wantV_bool, wantV_unit, unitV, cond_true, cond_false, Bool.not_true, Bool.not_false, List.toList_toArray]) | omega) only [c9b1, c9, Try.f9, Option.getD_some, sub_seq1, sub_seq0, sub_block, sub_loop, sub_nil, exec_seq, exec_region, runOps_cons, opF_fieldAddr, ev_tmp, g2, evG_some, putT_some, opF_load, T.get_set, if_true, opF_len, evs, Nat.reduceEqDiff, if_false, R.ok_bind, opF_ari, ev_int, opF_move, fa28_2, hla, hlen, hls, binF_int, op_lssI, cast_lt, Nat.lt_irrefl, decide_false, runOps_no, opF_pick, pickF, ev_bool, runOps_nil, exec_cond, exec_skip, exec_exit, exec_block]
      with_reducible rfl
    rw [← htot] at hK
    exact hK _ _ xa hM fin (by unfold parS; simp only [Sl_cons, Sl_nil, T.get_set, T.puts_cons, T.puts_nil, Nat.reduceEqDiff, Nat.reduceAdd, if_true, if_false, and_true, true_and, g0, g2, g4])

/-- What Parse tells. -/
def restD (rem : List UInt8) : List UInt8 := rem.tail.tail.tail.tail
theorem run_parse {A : Mem} {rem : List UInt8} {x : Value} (h0 : q < A.next) (h : RdS q A rem x) (hl : rem.length ≤ 1000000) : ∃ A' xa lo, Ans tb1 9 [x] A (.tuple ⟨[.agg ⟨headC (1 + nx rem) (2 + nx rem.tail % 8) (nx rem.tail.tail + 256 * nx rem.tail.tail.tail) xa⟩, .int .i64 ((rem.length - (actsD 60 (restD rem)).2.length : Nat) : Int)]⟩) A' ∧
    ActsR (fun c => lo ≤ c) A' (actsD 60 (restD rem)).1 xa ∧ A.next ≤ lo ∧ A.next ≤ A'.next ∧ ∀ y, y < A.next → A'.get y = A.get y := by
  obtain ⟨v, A', ha, xa, lo, hv, h1, h2, h3, h4⟩ : ∃ v A', Ans tb1 9 [x] A v A' ∧ ∃ xa lo, v = .tuple ⟨[.agg ⟨headC (1 + nx rem) (2 + nx rem.tail % 8) (nx rem.tail.tail + 256 * nx rem.tail.tail.tail) xa⟩, .int .i64 ((rem.length - (actsD 60 (restD rem)).2.length : Nat) : Int)]⟩ ∧
      ActsR (fun c => lo ≤ c) A' (actsD 60 (restD rem)).1 xa ∧ A.next ≤ lo ∧ A.next ≤ A'.next ∧ ∀ y, y < A.next → A'.get y = A.get y := by
    refine ans_of_W (fn_at Try.func9) c9_eq (by rw [Try.ntmps9]; simp) (by kernel_rfl) (by kernel_rfl) ?_
    have hlen := h.len (tb := tb1) (t := 22) und22
    refine parse_head h0 h ?_
    intro t C bs bb br lo hM hp
    apply W.seq
    apply W.block
    refine parse_acts hM hp ?_
    rintro t2 D xa hM2 hA2 ⟨g0, g2, g4, -⟩
    show W tb1 _ _ _
    obtain ⟨gl, hgl⟩ := run_left hM2.hr
    have hlv := left_val hM2.h2
    obtain ⟨d28, hd1, hd2⟩ := und28
    have hl28 := Go.Am.load_all hd1 hd2 (by rw [size28]; rfl) hM2.h1
    obtain ⟨ls, b, hb, hx, hll, hall⟩ := hA2
    have hself := sameV_head (w := 1 + nx rem) (f := 2 + nx rem.tail % 8) (qu := nx rem.tail.tail + 256 * nx rem.tail.tail.tail) (fun d => SlcM.self hx d)
    have hrest : (actsD 60 rem.tail.tail.tail.tail).2.length ≤ rem.length := by
      have h := actsD_rest 60 rem.tail.tail.tail.tail
      simp only [List.length_tail] at h; omega
    have hsub : intOpF .sub .i64 ((rem.length : Nat) : Int) (((actsD 60 rem.tail.tail.tail.tail).2.length : Nat) : Int) = .ok (.int .i64 ((rem.length - (actsD 60 rem.tail.tail.tail.tail).2.length : Nat) : Int)) := op_sub_i64 hrest (by omega)
    have hone : ∀ v ∈ headC (1 + nx rem) (2 + nx rem.tail % 8) (nx rem.tail.tail + 256 * nx rem.tail.tail.tail) xa, oneCell v = true := fun v hv => by
      simp only [headC, List.mem_cons, List.not_mem_nil, or_false] at hv
      rcases hv with rfl | rfl | rfl | rfl <;> first | rfl | exact (SlcM.cells hx).2.1
    obtain ⟨E, hst, hv2, hn2, hf2⟩ := store_all (tb := tb1) (t := 28) (by rw [size28]; rfl) hM2.h1 rfl (by simp [headC]) hone
    apply W.seq
    apply W.runG (gl) 20
    · intro M hM
      simp (config := { maxSteps := 4000000 }) (disch := first | decide +kernel | omega) only [c9, Try.f9, Option.getD_some, sub_seq1, sub_seq0, sub_nil, exec_float [(0, 5)], runD_Rd, rOp_load, ev_tmp, g2, evG_some, R.ok_bind, hl28, selF_nil, rereadM_nil, Nat.reduceAdd, putT_some, runD_P, opF_move, T.get_set, Nat.reduceEqDiff, g0, if_false, opF_len, evs, if_true, opF_fieldAddr, g4, runD_L, List.map_nil, hide_nil, backF_nil, selR_no, selR_yes, selR_nil, rereadR_cons, reread_load, rereadR_nil, Bool.and_true, opF_ari, opF_callv, resK, opF_assign, cond_true, opF_store, putT_none, runD_end, fa68_1, hlv, callV_func, List.append_nil, List.nil_append, hgl, rereadV_eq, hlen, binF_int, hsub, hself, hst]
      with_reducible rfl
    apply W.run 20
    · intro M
      simp (config := { maxSteps := 4000000 }) (disch := first | decide +kernel | omega) only [c9, Try.f9, Option.getD_some, sub_seq1, sub_nil, exec_ret]
      with_reducible rfl
    obtain ⟨s1, s2, s3, s4⟩ := hM2.hs
    have hlo := hM2.hn
    refine ⟨.inr rfl, E, [.agg ⟨headC (1 + nx rem) (2 + nx rem.tail % 8) (nx rem.tail.tail + 256 * nx rem.tail.tail.tail) xa⟩, .int .i64 ((rem.length - (actsD 60 (restD rem)).2.length : Nat) : Int)], rfl, ?_, xa, lo, rfl, ⟨ls, b, hb, ?_, hll, fun j d l hd hl => ?_⟩, by omega, by omega, fun y hy => by rw [hf2 y (by omega), hM2.hf y hy]⟩
    · have hlE := Go.Am.load_all hd1 hd2 (by rw [size28]; rfl) hv2
      simp only [Try.f9, resF, ev_tmp, T.get_set, Nat.reduceEqDiff, if_true, if_false, evG_some, R.ok_bind, g2, hlE]
      rfl
    · rcases hb with he | hb2
      · subst he
        rcases hx with hx | ⟨k, c, hx, _⟩
        · exact .inl hx
        · cases hx
      · exact hx.same (by omega) (fun _ => hf2 b (by omega))
    · exact (hall j d l hd hl).same (by omega) (fun c hc _ => ⟨hc, hf2 c (by omega)⟩)
  subst hv
  exact ⟨A', xa, lo, ha, h1, h2, h3, h4⟩
end Go.Proofs.Ytmhldlnlgjpkaaa.scr

/-
  Script: what several laws use.
-/
namespace Go.Proofs.Ytmhldlnlgjpkaaa.scr
open Go.Am
variable {q : Nat}
set_option linter.unusedSimpArgs false
set_option linter.unusedVariables false

theorem load_part {tb : Tab} {A : Mem} {e t : TypeId} {b o n : Nat} {k : Kd} {l : List Value} {d : TypeDesc} (hu : tb.und t = some d) (ha : isAggD d = true) (hs : sizeF tb t = .ok n) (h : Vals A e b k l) (hn : o + n ≤ l.length) : loadF tb A.get t (.pointer (some ⟨b, o, none⟩)) = .ok (.agg ⟨(l.drop o).take n⟩) := by
  obtain ⟨c, h1, h2⟩ := h
  have hg : c.gets n o = some ((l.drop o).take n) := gets_eq _ _ _ _ (by simp; omega) fun j hj => by
    rw [h2 (o + j) (by omega), List.getElem?_take, if_pos hj, List.getElem?_drop]
  unfold loadF
  simp only [h1, hu, ha, cond_true, hs, R.ok_bind, hg]
theorem und25 : ∃ d, tb1.und 25 = some d ∧ isAggD d = true := by
  have h : (tb1.und 25).map isAggD = some true := by kernel_rfl
  cases hq : tb1.und 25 with
  | none => rw [hq] at h; cases h
  | some d => rw [hq] at h; exact ⟨d, rfl, by simpa using h⟩
theorem size25 : sizeF tb1 25 = .ok 2 := by kernel_rfl
noncomputable def c10 : Code := Try.f10.body.getD .skip
theorem c10_eq : Try.f10.body = some (.seq (sub c10 [0]) (.seq (sub c10 [1,0]) (sub c10 [1,1]))) := by kernel_rfl
theorem run_few {A : Mem} {rem : List UInt8} {x : Value} {n : Nat} (h : RdS q A rem x) : ∃ x', Ans tb1 10 [x, .int .i64 (n : Nat)] A x' A ∧ RdS q A (rem.take (min rem.length n)) x' := by
  obtain ⟨x', hs, hr, -⟩ := h.cut (tb := tb1) (t := 22) (n := min rem.length n) und22 size5 (Nat.min_le_left _ _)
  obtain ⟨v, A', ha, rfl, rfl⟩ : ∃ v A', Ans tb1 10 [x, .int .i64 (n : Nat)] A v A' ∧ v = x' ∧ A' = A := by
    refine ans_of_W (fn_at Try.func10) c10_eq (by rw [Try.ntmps10]; simp) (by kernel_rfl) (by kernel_rfl) ?_
    have hlen := h.len (tb := tb1) (t := 22) und22
    apply W.seq
    apply W.run 20
    · intro M
      simp (config := { maxSteps := 4000000 }) (disch := first | decide +kernel | omega) only [c10, Try.f10, Option.getD_some, sub_seq0, sub_nil, T.puts_cons, Nat.reduceAdd, T.puts_nil, exec_region, runOps_cons, opF_assign, ev_nilslice, putT_some, runOps_nil, R.ok_bind]
      with_reducible rfl
    apply W.seq
    apply W.run 20
    · intro M
      simp (config := { maxSteps := 4000000 }) (disch := first | decide +kernel | omega) only [c10, Try.f10, Option.getD_some, sub_seq1, sub_seq0, sub_nil, exec_region, runOps_cons, opF_move, ev_tmp, T.get_set, Nat.reduceEqDiff, T.get_e, if_true, if_false, evG_some, putT_some, opF_len, evs, R.ok_bind, opF_minmax, opF_slice, evo, opF_assign, runOps_nil, hlen, min_i64, hs]
      with_reducible rfl
    apply W.run 20
    · intro M
      simp (config := { maxSteps := 4000000 }) (disch := first | decide +kernel | omega) only [c10, Try.f10, Option.getD_some, sub_seq1, sub_nil, exec_ret]
      with_reducible rfl
    refine ⟨.inr rfl, _, [x'], rfl, ?_, rfl, rfl⟩
    simp only [Try.f10, resF, ev_tmp, T.get_set, Nat.reduceEqDiff, if_true, if_false, evG_some, R.ok_bind]
  exact ⟨v, ha, hr⟩
theorem ev_neg1 (t : T Value) : ev t (.const (.int .i64 (-1))) = .ok (.int .i64 (-1)) := rfl
theorem fa41_0' (b o : Nat) : fieldAddrF tb1 41 (.pointer (some ⟨b, o, none⟩)) 0 = .ok (.pointer (some ⟨b, o, none⟩)) := by kernel_rfl
theorem fa41_1' (b o : Nat) : fieldAddrF tb1 41 (.pointer (some ⟨b, o, none⟩)) 1 = .ok (.pointer (some ⟨b, o + 1, none⟩)) := by kernel_rfl

/-! ### What an act may be -/
structure ActOk (d : ActD) : Prop where
  kind : d.kind ≤ 9
  word : d.word.length ≤ 256
  arm : d.arm ≤ 256
  stays : d.stays.length ≤ 5
  opening : d.opening.length ≤ 3
  k1 : -1 ≤ d.k
  k2 : d.k ≤ 4
  n1 : -1 ≤ d.n
  n2 : d.n ≤ 10
  none : d.cut = false → d.arm = 0 → d.stays.length = 0 ∧ d.opening.length = 0
  each : ∀ o ∈ d.opening, 1 ≤ o.1 ∧ o.1 ≤ 256 ∧ o.2.length ≤ 3
theorem actD_ok (r : List UInt8) : ActOk (actD r).1 := by
  have hm : ∀ (kd : Nat) (s : List UInt8), (-1 ≤ (moreD kd s).2.1 ∧ (moreD kd s).2.1 ≤ 4) ∧ (-1 ≤ (moreD kd s).2.2.1 ∧ (moreD kd s).2.2.1 ≤ 10) := by
    intro kd s
    unfold moreD
    split
    · refine ⟨⟨?_, ?_⟩, ?_, ?_⟩ <;> simp
    · split
      · refine ⟨⟨?_, ?_⟩, ?_, ?_⟩ <;> simp only <;> omega
      · refine ⟨⟨?_, ?_⟩, ?_, ?_⟩ <;> simp
  have hs : ∀ (c : Bool) (s : List UInt8), (stopD c s).1.length ≤ 5 ∧ (stopD c s).2.1.length ≤ 3 ∧ (c = false → (stopD c s).1.length = 0 ∧ (stopD c s).2.1.length = 0) ∧ ∀ o ∈ (stopD c s).2.1, 1 ≤ o.1 ∧ o.1 ≤ 256 ∧ o.2.length ≤ 3 := by
    intro c s
    cases c with
    | false => exact ⟨Nat.zero_le _, Nat.zero_le _, fun _ => ⟨rfl, rfl⟩, fun o ho => by cases ho⟩
    | true =>
      have e : stopD true s = (numbersD s.tail (nx s % 6), opensL (s.tail.drop (nx s % 6)) (nx s / 6 % 4), opensRest (s.tail.drop (nx s % 6)) (nx s / 6 % 4)) := rfl
      rw [e]
      refine ⟨?_, ?_, (fun h => absurd h (by decide)), fun o ho => ?_⟩
      · simp only [numbersD_len]; omega
      · simp only [opensL_len]; omega
      · simp only [opensL, List.mem_map, List.mem_range] at ho
        obtain ⟨i, hi, rfl⟩ := ho
        have h := nx_lt (opensRest (s.tail.drop (nx s % 6)) i)
        refine ⟨?_, ?_, ?_⟩
        · show 1 ≤ 1 + _; omega
        · show 1 + _ ≤ 256; omega
        · show (numbersD _ _).length ≤ 3
          rw [numbersD_len]; omega
  have ha : (armD (nx r) r.tail).1 ≤ 256 := by
    have h := nx_lt r.tail
    unfold armD; split <;> simp only <;> omega
  exact {
    kind := by show nx r % 10 ≤ 9; omega
    word := wordD_len _
    arm := ha
    stays := (hs _ _).1
    opening := (hs _ _).2.1
    k1 := (hm _ _).1.1
    k2 := (hm _ _).1.2
    n1 := (hm _ _).2.1
    n2 := (hm _ _).2.2
    none := fun h1 h2 => (hs _ _).2.2.1 (by
      have e1 : cutD (nx r) = false := h1
      have e2 : (armD (nx r) r.tail).1 = 0 := h2
      rw [e1, e2]; rfl)
    each := (hs _ _).2.2.2 }
/-! ### Parts of a variable; few; Right -/
end Go.Proofs.Ytmhldlnlgjpkaaa.scr

/-
  Script: whether two settings are alike.
-/
namespace Go.Proofs.Ytmhldlnlgjpkaaa.scr
open Go.Am
set_option linter.unusedSimpArgs false
set_option linter.unusedVariables false

/-- Memory that only grew. -/
structure Ext (A A' : Mem) : Prop where
  n : A.next ≤ A'.next
  g : ∀ y, y < A.next → A'.get y = A.get y
theorem Ext.refl (A : Mem) : Ext A A := ⟨Nat.le_refl _, fun _ _ => rfl⟩
theorem Ext.trans {A B C : Mem} (h : Ext A B) (h' : Ext B C) : Ext A C := ⟨Nat.le_trans h.n h'.n, fun y hy => (h'.g y (Nat.lt_of_lt_of_le hy h.n)).trans (h.g y hy)⟩
theorem Ext.alloc (A : Mem) (o : Ob) : Ext A (A.alloc o) := ⟨by rw [next_alloc]; omega, fun y hy => get_alloc_ne (by omega)⟩
theorem Ext.put {A B C : Mem} {b : Nat} (h : Ext A B) (hb : A.next ≤ b) (hn : C.next = B.next) (hg : ∀ y, y ≠ b → C.get y = B.get y) : Ext A C := ⟨by rw [hn]; exact h.n, fun y hy => by rw [hg y (by omega), h.g y hy]⟩
theorem StR.ext {P : Nat → Prop} {A A' : Mem} {l : List Nat} {x : Value} (h : StR P A l x) (e : Ext A A') : StR P A' l x := h.same e.n (fun b hp hb => ⟨hp, e.g b hb⟩)
theorem StR.at {P : Nat → Prop} {A : Mem} {l : List Nat} {x : Value} (h : StR P A l x) {i : Nat} (hi : i < l.length) :
    ∃ p, indexAddrF tb1 36 x (.int .i64 (i : Int)) = .ok (.pointer (some p)) ∧ loadF tb1 A.get 43 (.pointer (some p)) = .ok (.int .u16 ((l.getD i 0 : Nat) : Int)) := by
  rcases h with ⟨-, rfl⟩ | ⟨b, -, -, h⟩
  · simp at hi
  · refine ⟨_, h.idx und36 size43 (by rw [shorts_len]; exact hi), h.load und43 rfl ?_⟩
    simp [shorts, List.getD, List.getElem?_eq_getElem hi]

noncomputable def c24 : Code := Try.f24.body.getD .skip
noncomputable def c24b1 : Code := sub c24 [1,1,0,1,0,0]
theorem c24_eq : Try.f24.body = some (.seq (sub c24 [0]) (.seq (sub c24 [1,0]) (.seq (.seq (sub c24 [1,1,0,0]) (.block 0 (.loop c24b1))) (.seq (sub c24 [1,1,1,0]) (sub c24 [1,1,1,1]))))) := by kernel_rfl
theorem run_eqs {P P' : Nat → Prop} {A : Mem} {l m : List Nat} {x y : Value} (hbd : l.length ≤ 1000) (hx : StR P A l x) (hy : StR P' A m y) : Ans tb1 24 [x, y] A (.bool (decide (l = m))) A := by
  obtain ⟨v, A', ha, rfl, rfl⟩ : ∃ v A', Ans tb1 24 [x, y] A v A' ∧ v = .bool (decide (l = m)) ∧ A' = A := by
    refine ans_of_W (fn_at Try.func24) c24_eq (by rw [Try.ntmps24]; simp) (by kernel_rfl) (by kernel_rfl) ?_
    have lx := hx.len
    have ly := hy.len
    apply W.seq
    apply W.run 20
    · intro M
      simp (config := { maxSteps := 4000000 }) (disch := first | decide +kernel | omega) only [c24, Try.f24, Option.getD_some, sub_seq0, sub_nil, T.puts_cons, Nat.reduceAdd, T.puts_nil, exec_region, runOps_cons, opF_assign, ev_bool, putT_some, runOps_nil, R.ok_bind]
      with_reducible rfl
    apply W.seq
    by_cases hl : l.length = m.length
    · apply W.run 20
      · intro M
        simp (config := { maxSteps := 4000000 }) (disch := first | decide +kernel | omega) only [c24, Try.f24, Option.getD_some, sub_seq1, sub_seq0, sub_nil, exec_seq, exec_region, runOps_cons, opF_move, ev_tmp, T.get_set, Nat.reduceEqDiff, T.get_e, if_true, if_false, evG_some, putT_some, opF_len, evs, R.ok_bind, opF_neq, runOps_nil, ly, lx, hl, binF_int, op_neqI, ne_eq, not_true_eq_false, decide_false, exec_cond, opF_assign, ev_bool, exec_ret, exec_skip]
        with_reducible rfl
      apply W.seq
      apply W.seq
      apply W.run 20
      · intro M
        simp (config := { maxSteps := 4000000 }) (disch := first | decide +kernel | omega) only [c24, Try.f24, Option.getD_some, sub_seq1, sub_seq0, sub_nil, exec_region, runOps_cons, opF_move, ev_tmp, T.get_set, Nat.reduceEqDiff, T.get_e, if_true, if_false, evG_some, putT_some, opF_len, evs, R.ok_bind, ev_int, runOps_nil, lx]
        with_reducible rfl
      apply W.block
      refine W.up l.length (fun i t C => C = A ∧ l.take i = m.take i ∧ Sl t [(0, x), (1, y), (12, .int .i64 ((l.length : Nat) : Int)), (13, .int .i64 (i : Int))]) ?_ (Nat.zero_le _) ⟨rfl, by simp, ?_⟩
      · rintro i t C hi ⟨rfl, he, g0, g1, g12, g13, -⟩
        by_cases hlt : i < l.length
        · obtain ⟨p, hp, hpl⟩ := hx.at hlt
          obtain ⟨p', hp', hpl'⟩ := hy.at (show i < m.length by omega)
          have e1 : l.getD i 0 = l[i] := by simp [List.getD, List.getElem?_eq_getElem hlt]
          have e2 : m.getD i 0 = m[i] := by simp [List.getD, List.getElem?_eq_getElem (show i < m.length by omega)]
          rw [e1] at hpl
          rw [e2] at hpl'
          by_cases hv : l[i] = m[i]
          · rw [hv] at hpl
            apply W.run 20
            · intro M
              simp (config := { maxSteps := 4000000 }) (disch := first | decide +kernel | omega) only [c24b1, c24, Try.f24, Option.getD_some, sub_seq1, sub_seq0, sub_block, sub_loop, sub_nil, exec_seq, exec_region, runOps_cons, opF_ari, ev_tmp, g13, evG_some, g12, putT_some, runOps_nil, R.ok_bind, binF_int, op_lssI, cast_lt, hlt, decide_true, exec_cond, exec_skip, exec_exit, exec_block, opF_move, exec_draw, opF_assign, ev_bool, exec_ret, ev_int, T.get_set, if_true, Nat.reduceEqDiff, if_false, g0, opF_indexAddr, opF_load, g1, opF_neq, hp', hpl', hp, hpl, op_neq, ne_eq, not_true_eq_false, decide_false, op_add_i64]
              with_reducible rfl
            refine ⟨hlt, _, _, rfl, rfl, ?_, ?_⟩
            · rw [List.take_succ_eq_append_getElem hlt, List.take_succ_eq_append_getElem (show i < m.length by omega), he, hv]
            · simp only [Sl_cons, Sl_nil, T.get_set, T.puts_cons, T.puts_nil, Nat.reduceEqDiff, Nat.reduceAdd, if_true, if_false, and_true, true_and, g0, g1, g12]
          · apply W.run 20
            · intro M
              simp (config := { maxSteps := 4000000 }) (disch := first | decide +kernel | omega) only [c24b1, c24, Try.f24, Option.getD_some, sub_seq1, sub_seq0, sub_block, sub_loop, sub_nil, exec_seq, exec_region, runOps_cons, opF_ari, ev_tmp, g13, evG_some, g12, putT_some, runOps_nil, R.ok_bind, binF_int, op_lssI, cast_lt, hlt, decide_true, exec_cond, exec_skip, exec_exit, exec_block, opF_move, exec_draw, opF_assign, ev_bool, exec_ret, ev_int, T.get_set, if_true, Nat.reduceEqDiff, if_false, g0, opF_indexAddr, opF_load, g1, opF_neq, hp', hpl', hp, hpl, op_neq, ne_eq, hv, not_false_eq_true]
              with_reducible rfl
            refine ⟨.inr rfl, _, [.bool false], rfl, ?_, ?_, rfl⟩
            · simp only [Try.f24, resF, ev_tmp, T.get_set, Nat.reduceEqDiff, if_true, if_false, evG_some, R.ok_bind]
            · have : l ≠ m := fun h => hv (by subst h; rfl)
              show Value.bool false = _
              rw [decide_eq_false this]
        · have hin : i = l.length := by omega
          subst hin
          apply W.run 20
          · intro M
            simp (config := { maxSteps := 4000000 }) (disch := first | decide +kernel | omega) only [c24b1, c24, Try.f24, Option.getD_some, sub_seq1, sub_seq0, sub_block, sub_loop, sub_nil, exec_seq, exec_region, runOps_cons, opF_ari, ev_tmp, g13, evG_some, g12, putT_some, runOps_nil, R.ok_bind, binF_int, op_lssI, cast_lt, Nat.lt_irrefl, decide_false, exec_cond, exec_skip, exec_exit, exec_block, opF_move, exec_draw, opF_assign, ev_bool, exec_ret, ev_int, T.get_set, if_true]
            with_reducible rfl
          show W tb1 _ _ _
          apply W.seq
          apply W.run 20
          · intro M
            simp (config := { maxSteps := 4000000 }) (disch := first | decide +kernel | omega) only [c24, Try.f24, Option.getD_some, sub_seq1, sub_seq0, sub_nil, exec_region, runOps_cons, opF_assign, ev_bool, putT_some, runOps_nil, R.ok_bind]
            with_reducible rfl
          apply W.run 20
          · intro M
            simp (config := { maxSteps := 4000000 }) (disch := first | decide +kernel | omega) only [c24, Try.f24, Option.getD_some, sub_seq1, sub_nil, exec_ret]
            with_reducible rfl
          refine ⟨.inr rfl, _, [.bool true], rfl, ?_, ?_, rfl⟩
          · simp only [Try.f24, resF, ev_tmp, T.get_set, Nat.reduceEqDiff, if_true, if_false, evG_some, R.ok_bind]
          · rw [List.take_length, hl, List.take_length] at he
            show Value.bool true = _
            rw [decide_eq_true he]
      · simp only [Sl_cons, Sl_nil, T.get_set, T.puts_cons, T.puts_nil, Nat.reduceEqDiff, Nat.reduceAdd, if_true, if_false, and_true, true_and]
    · apply W.run 20
      · intro M
        simp (config := { maxSteps := 4000000 }) (disch := first | decide +kernel | omega) only [c24, Try.f24, Option.getD_some, sub_seq1, sub_seq0, sub_nil, exec_seq, exec_region, runOps_cons, opF_move, ev_tmp, T.get_set, Nat.reduceEqDiff, T.get_e, if_true, if_false, evG_some, putT_some, opF_len, evs, R.ok_bind, opF_neq, runOps_nil, ly, lx, binF_int, op_neqI, ne_eq, Int.natCast_inj, hl, not_false_eq_true, decide_true, exec_cond, opF_assign, ev_bool, exec_ret, exec_skip]
        with_reducible rfl
      refine ⟨.inr rfl, _, [.bool false], rfl, ?_, ?_, rfl⟩
      · simp only [Try.f24, resF, ev_tmp, T.get_set, Nat.reduceEqDiff, if_true, if_false, evG_some, R.ok_bind]
      · have : l ≠ m := fun h => hl (by rw [h])
        show Value.bool false = _
        rw [decide_eq_false this]
  exact ha

/-! ### Stops, as two cells -/
def OpG (A : Mem) (d : Int × List Nat) (l : List Value) : Prop := ∃ xs, l = [.int .i64 d.1, xs] ∧ StR (fun _ => True) A d.2 xs ∧ d.2.length ≤ 1000
theorem OpG.ext {A A' : Mem} {d : Int × List Nat} {l : List Value} (h : OpG A d l) (e : Ext A A') : OpG A' d l := by
  obtain ⟨xs, h1, h2, h3⟩ := h
  exact ⟨xs, h1, h2.ext e, h3⟩
theorem OpG.cells {A : Mem} {d : Int × List Nat} {l : List Value} (h : OpG A d l) : l.length = 2 ∧ ∀ v ∈ l, oneCell v = true := by
  obtain ⟨xs, rfl, h2, -⟩ := h
  refine ⟨rfl, fun v hv => ?_⟩
  simp only [List.mem_cons, List.not_mem_nil, or_false] at hv
  rcases hv with rfl | rfl
  · rfl
  · exact h2.cells.2
noncomputable def c23 : Code := Try.f23.body.getD .skip
theorem c23_eq : Try.f23.body = some (.seq (sub c23 [0]) (.seq (sub c23 [1,0]) (sub c23 [1,1]))) := by kernel_rfl
theorem run_stop {A : Mem} {d d' : Int × List Nat} {l l' : List Value} (h : OpG A d l) (h' : OpG A d' l') : ∃ A', Ans tb1 23 [.agg ⟨l⟩, .agg ⟨l'⟩] A (.bool (decide (d = d'))) A' ∧ Ext A A' := by
  obtain ⟨xs, rfl, h2, h3⟩ := h
  obtain ⟨ys, rfl, h2', h3'⟩ := h'
  obtain ⟨v, A', ha, rfl, he⟩ : ∃ v A', Ans tb1 23 [.agg ⟨[.int .i64 d.1, xs]⟩, .agg ⟨[.int .i64 d'.1, ys]⟩] A v A' ∧ v = .bool (decide (d = d')) ∧ Ext A A' := by
    refine ans_of_W (fn_at Try.func23) c23_eq (by rw [Try.ntmps23]; simp) (by kernel_rfl) (by kernel_rfl) ?_
    have hv0 : Vals ((A.alloc (rowOb 41 [.int .i64 d.1, xs])).alloc (rowOb 41 [.int .i64 d'.1, ys])) 41 A.next (.var 2) [.int .i64 d.1, xs] := (Go.Am.vals_new A 41 _).same (get_alloc_ne (by rw [next_alloc]; omega))
    have hv1 : Vals ((A.alloc (rowOb 41 [.int .i64 d.1, xs])).alloc (rowOb 41 [.int .i64 d'.1, ys])) 41 (A.next + 1) (.var 2) [.int .i64 d'.1, ys] := Go.Am.vals_new (A.alloc _) 41 _
    have hE : Ext A ((A.alloc (rowOb 41 [.int .i64 d.1, xs])).alloc (rowOb 41 [.int .i64 d'.1, ys])) := (Ext.alloc A _).trans (Ext.alloc _ _)
    have l0 := load_vals (tb := tb1) (t := 3) und3 rfl hv0 (show ([.int .i64 d.1, xs] : List Value)[0]? = _ from rfl)
    have l1 := load_vals (tb := tb1) (t := 36) und36 rfl hv0 (show ([.int .i64 d.1, xs] : List Value)[1]? = _ from rfl)
    have l2 := load_vals (tb := tb1) (t := 3) und3 rfl hv1 (show ([.int .i64 d'.1, ys] : List Value)[0]? = _ from rfl)
    have l3 := load_vals (tb := tb1) (t := 36) und36 rfl hv1 (show ([.int .i64 d'.1, ys] : List Value)[1]? = _ from rfl)
    obtain ⟨g, hg⟩ := run_eqs h3 (h2.ext hE) (h2'.ext hE)
    apply W.seq
    apply W.run 20
    · intro M
      simp (config := { maxSteps := 4000000 }) (disch := first | decide +kernel | omega) only [c23, Try.f23, Option.getD_some, sub_seq0, sub_nil, T.puts_cons, Nat.reduceAdd, T.puts_nil, exec_region, runOps_cons, opF_box, ev_tmp, T.get_set, Nat.reduceEqDiff, T.get_e, if_true, if_false, evG_some, at_ptr, putT_some, opF_assign, ev_bool, runOps_nil, R.ok_bind, cells_agg]
      with_reducible rfl
    apply W.seq
    by_cases hd : d.1 = d'.1
    · have hdt := decide_eq_true hd
      apply W.runG (g) 20
      · intro M hM
        simp (config := { maxSteps := 4000000 }) (disch := first | decide +kernel | (rw [wantF_guard]; simp only [wantD_some, dstAt_zero, dstAt_succ, T.get_set, T.get_e, Nat.reduceEqDiff, if_true, if_false, wantV_bool, wantV_unit, unitV, cond_true, cond_false, Bool.not_true, Bool.not_false, List.toList_toArray]) | omega) only [c23, Try.f23, Option.getD_some, sub_seq1, sub_seq0, sub_nil, next_alloc, exec_region, runOps_cons, opF_fieldAddr, ev_tmp, T.get_set, Nat.reduceEqDiff, T.get_e, if_false, if_true, evG_some, putT_some, opF_load, opF_eql, und3, opF_move, R.ok_bind, fa41_0', l2, l0, binF_int, op_eqlI, hdt, runOps_yes, opF_call, evs, resK, opF_pick, pickF, ev_bool, opF_assign, runOps_nil, fa41_1', Nat.reduceAdd, l3, l1, hg]
        with_reducible rfl
      apply W.run 20
      · intro M
        simp (config := { maxSteps := 4000000 }) (disch := first | decide +kernel | omega) only [c23, Try.f23, Option.getD_some, sub_seq1, sub_nil, exec_ret]
        with_reducible rfl
      refine ⟨.inr rfl, _, [.bool (decide (d.2 = d'.2))], rfl, ?_, ?_, hE⟩
      · simp only [Try.f23, resF, ev_tmp, T.get_set, Nat.reduceEqDiff, if_true, if_false, evG_some, R.ok_bind]
      · show Value.bool _ = _
        congr 1
        exact decide_eq_decide.2 ⟨fun h => Prod.ext hd h, fun h => by rw [h]⟩
    · have hdt := decide_eq_false hd
      apply W.run 20
      · intro M
        simp (config := { maxSteps := 4000000 }) (disch := first | decide +kernel | (rw [wantF_guard]; simp only [wantD_some, dstAt_zero, dstAt_succ, T.get_set, T.get_e, Nat.reduceEqDiff, if_true, if_false, wantV_bool, wantV_unit, unitV, cond_true, cond_false, Bool.not_true, Bool.not_false, List.toList_toArray]) | omega) only [c23, Try.f23, Option.getD_some, sub_seq1, sub_seq0, sub_nil, next_alloc, exec_region, runOps_cons, opF_fieldAddr, ev_tmp, T.get_set, Nat.reduceEqDiff, T.get_e, if_false, if_true, evG_some, putT_some, opF_load, opF_eql, und3, opF_move, R.ok_bind, fa41_0', l2, l0, binF_int, op_eqlI, hdt, runOps_no, opF_pick, pickF, ev_bool, opF_assign, runOps_nil]
        with_reducible rfl
      apply W.run 20
      · intro M
        simp (config := { maxSteps := 4000000 }) (disch := first | decide +kernel | omega) only [c23, Try.f23, Option.getD_some, sub_seq1, sub_nil, exec_ret]
        with_reducible rfl
      refine ⟨.inr rfl, _, [.bool false], rfl, ?_, ?_, hE⟩
      · simp only [Try.f23, resF, ev_tmp, T.get_set, Nat.reduceEqDiff, if_true, if_false, evG_some, R.ok_bind]
      · show Value.bool false = _
        rw [decide_eq_false (fun h => hd (by rw [h]))]
  exact ⟨A', ha, he⟩
end Go.Proofs.Ytmhldlnlgjpkaaa.scr

/-
  Script: whether two rows of stops are alike.
-/
namespace Go.Proofs.Ytmhldlnlgjpkaaa.scr
open Go.Am
set_option linter.unusedSimpArgs false
set_option linter.unusedVariables false

def OpsG (A : Mem) (ds : List (Int × List Nat)) (x : Value) : Prop :=
  ∃ ls b, RowM A 41 2 b ls x ∧ ls.length = ds.length ∧ ds.length ≤ 1000 ∧ ∀ (i : Nat) (d : Int × List Nat) (l : List Value), ds[i]? = some d → ls[i]? = some l → OpG A d l
theorem OpsG.ext {A A' : Mem} {ds : List (Int × List Nat)} {x : Value} (h : OpsG A ds x) (e : Ext A A') : OpsG A' ds x := by
  obtain ⟨ls, b, h1, h2, h3, h4⟩ := h
  exact ⟨ls, b, h1.same e.n (fun hb => e.g b hb), h2, h3, fun i d l hd hl => (h4 i d l hd hl).ext e⟩
theorem OpsG.len {A : Mem} {ds : List (Int × List Nat)} {x : Value} (h : OpsG A ds x) : builtinPF tb1 .len [37] [x] = .ok (.int .i64 ((ds.length : Nat) : Int)) := by
  obtain ⟨ls, b, h1, h2, -⟩ := h
  rw [h1.len (tb := tb1) (t := 37) und37, h2]
theorem OpsG.cells {A : Mem} {ds : List (Int × List Nat)} {x : Value} (h : OpsG A ds x) : x.cells.toList = [x] ∧ oneCell x = true := by
  obtain ⟨ls, b, h1, -⟩ := h
  exact h1.cells

noncomputable def c26 : Code := Try.f26.body.getD .skip
noncomputable def c26b1 : Code := sub c26 [1,1,0,1,0,0]
theorem c26_eq : Try.f26.body = some (.seq (sub c26 [0]) (.seq (sub c26 [1,0]) (.seq (.seq (sub c26 [1,1,0,0]) (.block 0 (.loop c26b1))) (.seq (sub c26 [1,1,1,0]) (sub c26 [1,1,1,1]))))) := by kernel_rfl
theorem c26b1_eq : c26b1 = .seq (sub c26b1 [0]) (.seq (sub c26b1 [1,0]) (.seq (.block 1 (.seq (sub c26b1 [1,1,0,0,0]) (.seq (sub c26b1 [1,1,0,0,1,0]) (sub c26b1 [1,1,0,0,1,1])))) (sub c26b1 [1,1,1]))) := by kernel_rfl
set_option maxHeartbeats 2000000 in
theorem run_eqOps {A : Mem} {ds ds' : List (Int × List Nat)} {x y : Value} (h : OpsG A ds x) (h' : OpsG A ds' y) : ∃ A', Ans tb1 26 [x, y, .func (.func 23) ⟨[]⟩ ⟨[]⟩] A (.bool (decide (ds = ds'))) A' ∧ Ext A A' := by
  obtain ⟨ls, b, hx, hll, hbd, hall⟩ := h
  obtain ⟨ls', b', hy, hll', hbd', hall'⟩ := h'
  obtain ⟨v, A', ha, rfl, he⟩ : ∃ v A', Ans tb1 26 [x, y, .func (.func 23) ⟨[]⟩ ⟨[]⟩] A v A' ∧ v = .bool (decide (ds = ds')) ∧ Ext A A' := by
    refine ans_of_W (fn_at Try.func26) c26_eq (by rw [Try.ntmps26]; simp) (by kernel_rfl) (by kernel_rfl) ?_
    have lx := hx.len (tb := tb1) (t := 37) und37
    have ly := hy.len (tb := tb1) (t := 37) und37
    rw [hll] at lx
    rw [hll'] at ly
    apply W.seq
    apply W.run 20
    · intro M
      simp (config := { maxSteps := 4000000 }) (disch := first | decide +kernel | omega) only [c26, Try.f26, Option.getD_some, sub_seq0, sub_nil, T.puts_cons, Nat.reduceAdd, T.puts_nil, exec_region, runOps_cons, opF_assign, ev_bool, putT_some, runOps_nil, R.ok_bind]
      with_reducible rfl
    apply W.seq
    by_cases hl : ds.length = ds'.length
    · apply W.run 20
      · intro M
        simp (config := { maxSteps := 4000000 }) (disch := first | decide +kernel | omega) only [c26, Try.f26, Option.getD_some, sub_seq1, sub_seq0, sub_nil, exec_seq, exec_region, runOps_cons, opF_move, ev_tmp, T.get_set, Nat.reduceEqDiff, T.get_e, if_true, if_false, evG_some, putT_some, opF_len, evs, R.ok_bind, opF_neq, runOps_nil, ly, lx, hl, binF_int, op_neqI, ne_eq, not_true_eq_false, decide_false, exec_cond, opF_assign, ev_bool, exec_ret, exec_skip]
        with_reducible rfl
      apply W.seq
      apply W.seq
      apply W.run 20
      · intro M
        simp (config := { maxSteps := 4000000 }) (disch := first | decide +kernel | omega) only [c26, Try.f26, Option.getD_some, sub_seq1, sub_seq0, sub_nil, exec_region, runOps_cons, opF_move, ev_tmp, T.get_set, Nat.reduceEqDiff, T.get_e, if_true, if_false, evG_some, putT_some, opF_len, evs, R.ok_bind, ev_int, runOps_nil, lx]
        with_reducible rfl
      apply W.block
      refine W.up ds.length (fun i t C => Ext A C ∧ ds.take i = ds'.take i ∧ Sl t [(0, x), (1, y), (2, .func (.func 23) ⟨[]⟩ ⟨[]⟩), (15, x), (16, .int .i64 ((ds.length : Nat) : Int)), (17, .int .i64 (i : Int))]) ?_ (Nat.zero_le _) ⟨Ext.refl A, by simp, ?_⟩
      · rintro i t C hi ⟨hE, he, g0, g1, g2, g15, g16, g17, -⟩
        have hEn := hE.n
        by_cases hlt : i < ds.length
        · have hlt' : i < ds'.length := by omega
          have hli : i < ls.length := by omega
          have hli' : i < ls'.length := by omega
          have hO := hall i ds[i] ls[i] (List.getElem?_eq_getElem hlt) (List.getElem?_eq_getElem hli)
          have hO' := hall' i ds'[i] ls'[i] (List.getElem?_eq_getElem hlt') (List.getElem?_eq_getElem hli')
          have hxC := hx.same hE.n (fun hb => hE.g b hb)
          have hyC := hy.same hE.n (fun hb => hE.g b' hb)
          have ix := hxC.idx (tb := tb1) (t := 37) (t' := 41) (kd := .i64) (i := i) und37 size41 hli
          have iy := hyC.idx (tb := tb1) (t := 37) (t' := 41) (kd := .i64) (i := i) und37 size41 hli'
          obtain ⟨d41, hd1, hd2⟩ := und41
          generalize hL : ls[i] = L at hO
          generalize hL' : ls'[i] = L' at hO'
          have hc := hO.cells
          have hc' := hO'.cells
          have lax := hxC.load_all (t := 41) (i := i) hd1 hd2 size41 (show ls[i]? = some L by rw [List.getElem?_eq_getElem hli, hL])
          have hv0 : Vals (C.alloc (rowOb 41 [.int .i64 0, .slice none 0 0])) 41 C.next (.var 2) [.int .i64 0, .slice none 0 0] := Go.Am.vals_new C 41 _
          have hn0 : (C.alloc (rowOb 41 [.int .i64 0, .slice none 0 0])).next = C.next + 1 := next_alloc _ _
          obtain ⟨D, hs1, hv1, hn1, hf1⟩ := store_all (tb := tb1) (t := 41) (l' := L) (by rw [size41]; rfl) hv0 (by rw [hc.1]; rfl) (by simp) hc.2
          have hED : Ext C D := (Ext.alloc C (rowOb 41 [.int .i64 0, .slice none 0 0])).put (b := C.next) (Nat.le_refl _) hn1 hf1
          have lay := (hyC.same hED.n (fun hb => hED.g b' hb)).load_all (t := 41) (i := i) hd1 hd2 size41 (show ls'[i]? = some L' by rw [List.getElem?_eq_getElem hli', hL'])
          have hv2 : Vals (D.alloc (rowOb 41 [.int .i64 0, .slice none 0 0])) 41 D.next (.var 2) [.int .i64 0, .slice none 0 0] := Go.Am.vals_new D 41 _
          have hn2 : (D.alloc (rowOb 41 [.int .i64 0, .slice none 0 0])).next = D.next + 1 := next_alloc _ _
          obtain ⟨F, hs2, hv3, hn3, hf3⟩ := store_all (tb := tb1) (t := 41) (l' := L') (by rw [size41]; rfl) hv2 (by rw [hc'.1]; rfl) (by simp) hc'.2
          have hEF : Ext D F := (Ext.alloc D (rowOb 41 [.int .i64 0, .slice none 0 0])).put (b := D.next) (Nat.le_refl _) hn3 hf3
          have hv1F : Vals F 41 C.next (.var 2) L := hv1.same (hEF.g _ (by omega))
          have laF := Go.Am.load_all (tb := tb1) (t := 41) hd1 hd2 (by rw [size41, hc.1]) hv1F
          have laF' := Go.Am.load_all (tb := tb1) (t := 41) hd1 hd2 (by rw [size41, hc'.1]) hv3
          have hEAF := (hE.trans hED).trans hEF
          obtain ⟨G, ⟨g, hg⟩, hEG⟩ := run_stop (hO.ext hEAF) (hO'.ext hEAF)
          rw [c26b1_eq]
          apply W.seq
          apply W.run 20
          · intro M
            simp (config := { maxSteps := 4000000 }) (disch := first | decide +kernel | omega) only [c26b1, c26, Try.f26, Option.getD_some, sub_seq1, sub_seq0, sub_block, sub_loop, sub_nil, exec_region, runOps_cons, opF_ari, ev_tmp, g17, evG_some, g16, putT_some, runOps_nil, R.ok_bind, binF_int, op_lssI, cast_lt, hlt, decide_true]
            with_reducible rfl
          apply W.seq
          apply W.run 20
          · intro M
            simp (config := { maxSteps := 4000000 }) (disch := first | decide +kernel | omega) only [c26b1, c26, Try.f26, Option.getD_some, sub_seq1, sub_seq0, sub_block, sub_loop, sub_nil, exec_cond, ev_tmp, T.get_set, if_true, evG_some, exec_skip, exec_exit, R.ok_bind]
            with_reducible rfl
          apply W.seq
          apply W.block
          apply W.seq
          apply W.run 20
          · intro M
            simp (config := { maxSteps := 4000000 }) (disch := first | decide +kernel | omega) only [c26b1, c26, Try.f26, Option.getD_some, sub_seq1, sub_seq0, sub_block, sub_loop, sub_nil, exec_region, runOps_cons, opF_move, ev_tmp, T.get_set, Nat.reduceEqDiff, g17, if_false, evG_some, putT_some, opF_indexAddr, g15, opF_load, if_true, opF_alloc, zero41, at_ptr, opF_assign, opF_store, putT_none, runOps_nil, R.ok_bind, cells_agg, ix, lax, hs1]
            with_reducible rfl
          apply W.seq
          apply W.run 20
          · intro M
            simp (config := { maxSteps := 4000000 }) (disch := first | decide +kernel | omega) only [c26b1, c26, Try.f26, Option.getD_some, sub_seq1, sub_seq0, sub_block, sub_loop, sub_nil, exec_region, runOps_cons, opF_move, ev_tmp, T.get_set, Nat.reduceEqDiff, g1, if_false, evG_some, putT_some, if_true, opF_indexAddr, opF_load, opF_alloc, zero41, at_ptr, opF_store, putT_none, runOps_nil, R.ok_bind, cells_agg, iy, lay, hs2]
            with_reducible rfl
          by_cases hv : ds[i] = ds'[i]
          · have hdt := decide_eq_true hv
            apply W.runG (g) 20
            · intro M hM
              simp (config := { maxSteps := 4000000 }) (disch := first | decide +kernel | omega) only [c26b1, c26, Try.f26, Option.getD_some, sub_seq1, sub_seq0, sub_block, sub_loop, sub_nil, exec_seq, exec_region, runOps_cons, opF_move, ev_tmp, T.get_set, Nat.reduceEqDiff, g2, if_false, evG_some, putT_some, opF_load, if_true, opF_callv, evs, R.ok_bind, resK, opF_un, runOps_nil, laF', laF, callV_func, List.nil_append, List.append_nil, hg, hdt, un_not, Bool.not_true, exec_cond, opF_assign, ev_bool, exec_ret, exec_skip]
              with_reducible rfl
            show W tb1 _ _ _
            apply W.run 20
            · intro M
              simp (config := { maxSteps := 4000000 }) (disch := first | decide +kernel | omega) only [c26b1, c26, Try.f26, Option.getD_some, sub_seq1, sub_seq0, sub_block, sub_loop, sub_nil, exec_region, runOps_cons, opF_ari, ev_tmp, T.get_set, Nat.reduceEqDiff, g17, if_false, evG_some, ev_int, putT_some, opF_move, if_true, runOps_nil, R.ok_bind, binF_int, op_add_i64]
              with_reducible rfl
            refine ⟨hlt, _, _, rfl, hEAF.trans hEG, ?_, ?_⟩
            · rw [List.take_succ_eq_append_getElem hlt, List.take_succ_eq_append_getElem hlt', he, hv]
            · simp only [Sl_cons, Sl_nil, T.get_set, T.puts_cons, T.puts_nil, Nat.reduceEqDiff, Nat.reduceAdd, if_true, if_false, and_true, true_and, g0, g1, g2, g15, g16]
          · have hdt := decide_eq_false hv
            apply W.runG (g) 20
            · intro M hM
              simp (config := { maxSteps := 4000000 }) (disch := first | decide +kernel | omega) only [c26b1, c26, Try.f26, Option.getD_some, sub_seq1, sub_seq0, sub_block, sub_loop, sub_nil, exec_seq, exec_region, runOps_cons, opF_move, ev_tmp, T.get_set, Nat.reduceEqDiff, g2, if_false, evG_some, putT_some, opF_load, if_true, opF_callv, evs, R.ok_bind, resK, opF_un, runOps_nil, laF', laF, callV_func, List.nil_append, List.append_nil, hg, hdt, un_not, Bool.not_false, exec_cond, opF_assign, ev_bool, exec_ret, exec_skip]
              with_reducible rfl
            refine ⟨.inr rfl, _, [.bool false], rfl, ?_, ?_, hEAF.trans hEG⟩
            · simp only [Try.f26, resF, ev_tmp, T.get_set, Nat.reduceEqDiff, if_true, if_false, evG_some, R.ok_bind]
            · have : ds ≠ ds' := fun h => hv (by subst h; rfl)
              show Value.bool false = _
              rw [decide_eq_false this]
        · have hin : i = ds.length := by omega
          subst hin
          apply W.run 20
          · intro M
            simp (config := { maxSteps := 4000000 }) (disch := first | decide +kernel | omega) only [c26b1, c26, Try.f26, Option.getD_some, sub_seq1, sub_seq0, sub_block, sub_loop, sub_nil, exec_seq, exec_region, runOps_cons, opF_ari, ev_tmp, g17, evG_some, g16, putT_some, runOps_nil, R.ok_bind, binF_int, op_lssI, cast_lt, Nat.lt_irrefl, decide_false, exec_cond, exec_skip, exec_exit, exec_block, opF_move, opF_assign, ev_bool, exec_ret, ev_int, T.get_set, if_true]
            with_reducible rfl
          show W tb1 _ _ _
          apply W.seq
          apply W.run 20
          · intro M
            simp (config := { maxSteps := 4000000 }) (disch := first | decide +kernel | omega) only [c26, Try.f26, Option.getD_some, sub_seq1, sub_seq0, sub_nil, exec_region, runOps_cons, opF_assign, ev_bool, putT_some, runOps_nil, R.ok_bind]
            with_reducible rfl
          apply W.run 20
          · intro M
            simp (config := { maxSteps := 4000000 }) (disch := first | decide +kernel | omega) only [c26, Try.f26, Option.getD_some, sub_seq1, sub_nil, exec_ret]
            with_reducible rfl
          refine ⟨.inr rfl, _, [.bool true], rfl, ?_, ?_, hE⟩
          · simp only [Try.f26, resF, ev_tmp, T.get_set, Nat.reduceEqDiff, if_true, if_false, evG_some, R.ok_bind]
          · rw [List.take_length, hl, List.take_length] at he
            show Value.bool true = _
            rw [decide_eq_true he]
      · simp only [Sl_cons, Sl_nil, T.get_set, T.puts_cons, T.puts_nil, Nat.reduceEqDiff, Nat.reduceAdd, if_true, if_false, and_true, true_and]
    · apply W.run 20
      · intro M
        simp (config := { maxSteps := 4000000 }) (disch := first | decide +kernel | omega) only [c26, Try.f26, Option.getD_some, sub_seq1, sub_seq0, sub_nil, exec_seq, exec_region, runOps_cons, opF_move, ev_tmp, T.get_set, Nat.reduceEqDiff, T.get_e, if_true, if_false, evG_some, putT_some, opF_len, evs, R.ok_bind, opF_neq, runOps_nil, ly, lx, binF_int, op_neqI, ne_eq, Int.natCast_inj, hl, not_false_eq_true, decide_true, exec_cond, opF_assign, ev_bool, exec_ret, exec_skip]
        with_reducible rfl
      refine ⟨.inr rfl, _, [.bool false], rfl, ?_, ?_, Ext.refl A⟩
      · simp only [Try.f26, resF, ev_tmp, T.get_set, Nat.reduceEqDiff, if_true, if_false, evG_some, R.ok_bind]
      · have : ds ≠ ds' := fun h => hl (by rw [h])
        show Value.bool false = _
        rw [decide_eq_false this]
  exact ⟨A', ha, he⟩
end Go.Proofs.Ytmhldlnlgjpkaaa.scr

/-
  Script: whether two settings are alike, whole.
-/
namespace Go.Proofs.Ytmhldlnlgjpkaaa.scr
open Go.Am
set_option linter.unusedSimpArgs false
set_option linter.unusedVariables false

/-- An act; any numbers. -/
structure ActG where
  kind : Int
  word : List UInt8
  weight : Nat
  k : Int
  n : Int
  arm : Int
  cut : Bool
  stays : List Nat
  opening : List (Int × List Nat)
theorem ActG.all_inj {a b : ActG} : (a.kind = b.kind ∧ a.word = b.word ∧ a.weight = b.weight ∧ a.k = b.k ∧ a.n = b.n ∧ a.arm = b.arm ∧ a.cut = b.cut ∧ a.stays = b.stays ∧ a.opening = b.opening) ↔ a = b := by
  cases a; cases b
  simp only [ActG.mk.injEq]
instance : DecidableEq ActG := fun _ _ => decidable_of_iff _ ActG.all_inj
def cellsG (d : ActG) (xs xo : Value) : List Value :=
  [.int .i64 d.kind, strOf d.word, .int .u32 (d.weight : Int), .int .i64 d.k, .int .i64 d.n, .int .i64 d.arm, .bool d.cut, xs, xo]
def ActGR (A : Mem) (d : ActG) (l : List Value) : Prop := ∃ xs xo, l = cellsG d xs xo ∧ StR (fun _ => True) A d.stays xs ∧ d.stays.length ≤ 1000 ∧ OpsG A d.opening xo
theorem ActGR.ext {A A' : Mem} {d : ActG} {l : List Value} (h : ActGR A d l) (e : Ext A A') : ActGR A' d l := by
  obtain ⟨xs, xo, h1, h2, h3, h4⟩ := h
  exact ⟨xs, xo, h1, h2.ext e, h3, h4.ext e⟩
theorem ActGR.cells {A : Mem} {d : ActG} {l : List Value} (h : ActGR A d l) : l.length = 9 ∧ ∀ v ∈ l, oneCell v = true := by
  obtain ⟨xs, xo, rfl, h2, -, h3⟩ := h
  refine ⟨rfl, fun v hv => ?_⟩
  simp only [cellsG, List.mem_cons, List.not_mem_nil, or_false] at hv
  rcases hv with rfl | rfl | rfl | rfl | rfl | rfl | rfl | rfl | rfl <;> first | rfl | exact h2.cells.2 | exact h3.cells.2
def ActsG (A : Mem) (ds : List ActG) (x : Value) : Prop :=
  ∃ ls b, RowM A 39 9 b ls x ∧ ls.length = ds.length ∧ ds.length ≤ 1000 ∧ ∀ (i : Nat) (d : ActG) (l : List Value), ds[i]? = some d → ls[i]? = some l → ActGR A d l
theorem ActsG.ext {A A' : Mem} {ds : List ActG} {x : Value} (h : ActsG A ds x) (e : Ext A A') : ActsG A' ds x := by
  obtain ⟨ls, b, h1, h2, h3, h4⟩ := h
  exact ⟨ls, b, h1.same e.n (fun hb => e.g b hb), h2, h3, fun i d l hd hl => (h4 i d l hd hl).ext e⟩
theorem ActsG.len {A : Mem} {ds : List ActG} {x : Value} (h : ActsG A ds x) : builtinPF tb1 .len [26] [x] = .ok (.int .i64 ((ds.length : Nat) : Int)) := by
  obtain ⟨ls, b, h1, h2, -⟩ := h
  rw [h1.len (tb := tb1) (t := 26) und26, h2]
theorem ActsG.cells {A : Mem} {ds : List ActG} {x : Value} (h : ActsG A ds x) : x.cells.toList = [x] ∧ oneCell x = true := by
  obtain ⟨ls, b, h1, -⟩ := h
  exact h1.cells
/-! ### '==' of what an act does, and of configurations -/
theorem shape35 : fieldsOf (tb1.und 35) = [(false, 3, 0), (false, 9, 1), (false, 33, 2), (false, 3, 3), (false, 3, 4)] := by kernel_rfl
theorem shape25 : fieldsOf (tb1.und 25) = [(false, 3, 0), (false, 3, 1)] := by kernel_rfl
theorem eqm35 (x y : Operand) (a b : Array Value) : eqMay tb1 35 x y (.agg a) (.agg b) = true := by
  show (!tb1.P.eqGuardType tb1.P.depth 35) = true
  have : tb1.P.eqGuardType tb1.P.depth 35 = false := by decide +kernel
  rw [this]; rfl
theorem eqm25 (x y : Operand) (a b : Array Value) : eqMay tb1 25 x y (.agg a) (.agg b) = true := by
  show (!tb1.P.eqGuardType tb1.P.depth 25) = true
  have : tb1.P.eqGuardType tb1.P.depth 25 = false := by decide +kernel
  rw [this]; rfl
theorem eq35 {g : Nat → Option Ob} {x y : Operand} {a0 a3 a4 b0 b3 b4 : Int} {a1 b1 : List UInt8} {a2 b2 : Nat} :
    eqF tb1 g .eql 35 x y (.agg ⟨[.int .i64 a0, strOf a1, .int .u32 (a2 : Int), .int .i64 a3, .int .i64 a4]⟩) (.agg ⟨[.int .i64 b0, strOf b1, .int .u32 (b2 : Int), .int .i64 b3, .int .i64 b4]⟩) = .ok (.bool (decide (a0 = b0 ∧ a1 = b1 ∧ a2 = b2 ∧ a3 = b3 ∧ a4 = b4))) := by
  unfold eqF
  rw [eqm35, cond_true]
  simp only []
  rw [equal_struct (by kernel_rfl) shape35 (by kernel_rfl)]
  simp only [fieldsEqS, cond_false]
  rw [part_one und3 rfl rfl, part_one und3 rfl rfl, part_one und9 rfl rfl, part_one und9 rfl rfl, part_one und33 rfl rfl, part_one und33 rfl rfl, part_one (o := 3) und3 rfl rfl, part_one (o := 3) und3 rfl rfl, part_one (o := 4) und3 rfl rfl, part_one (o := 4) und3 rfl rfl]
  simp only [R.ok_bind, equal_int (tb := tb1) (t := 3) und3, equal_int (tb := tb1) (t := 33) und33, equal_str (tb := tb1) (t := 9) und9]
  have hh : ((a2 : Int) = (b2 : Int)) = (a2 = b2) := propext Int.natCast_inj
  simp only [hh]
  by_cases h0 : a0 = b0 <;> by_cases h1 : a1 = b1 <;> by_cases h2 : a2 = b2 <;> by_cases h3 : a3 = b3 <;> by_cases h4 : a4 = b4 <;> simp [h0, h1, h2, h3, h4, R.ok_bind]
theorem eq25 {op : BinOp} {g : Nat → Option Ob} {x y : Operand} {a0 a1 b0 b1 : Int} (ho : op = .eql) :
    eqF tb1 g op 25 x y (.agg ⟨[.int .i64 a0, .int .i64 a1]⟩) (.agg ⟨[.int .i64 b0, .int .i64 b1]⟩) = .ok (.bool (decide (a0 = b0 ∧ a1 = b1))) := by
  subst ho
  unfold eqF
  rw [eqm25, cond_true]
  simp only []
  rw [equal_struct (by kernel_rfl) shape25 (by kernel_rfl)]
  simp only [fieldsEqS, cond_false]
  rw [part_one und3 rfl rfl, part_one und3 rfl rfl, part_one (o := 1) und3 rfl rfl, part_one (o := 1) und3 rfl rfl]
  simp only [R.ok_bind, equal_int (tb := tb1) (t := 3) und3]
  by_cases h0 : a0 = b0 <;> by_cases h1 : a1 = b1 <;> simp [h0, h1, R.ok_bind]
end Go.Proofs.Ytmhldlnlgjpkaaa.scr

