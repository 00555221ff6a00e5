/-
  The abstract machine AM: a machine for programs of the model that draws nothing and moves no block; and the proof that what it answers the model answers.
  Part B: no conditions.
-/
import Derived.Test.YtoflaiakfmofoaaGreatDoorAmA

/-
  The abstract machine AM, part 8: plain operations do what the model's do.
-/
namespace Go.Am

/-- What a function without a text is. -/
def ExR (k : Nat) (fn : Func) : Prop :=
  fn.body = none ∧ (fn.name == "runtime.NumGoroutine") = false ∧ Extern.findNext fn = none ∧
  match k with
  | 1 => Extern.find fn = some Extern.AbiNoEscape.same
  | 2 => Extern.find fn = some (Extern.SlicesOverlaps.overlaps fn.params fn.resultTypes)
  | 3 => Extern.find fn = some (Extern.BytealgMakeNoZero.makeNoZero fn.params fn.resultTypes)
  | 4 => Extern.find fn = some Extern.MapsClone.clone
  | 5 => Extern.find fn = (Extern.MathBitsCarry.rows[0]?).map (·.2)
  | _ => False

/-- What a function is known to answer, it answers. -/
def HookOk (P : Program) (f : FuncId) (h : List Value → Mem → R (Value × Mem)) : Prop :=
  ∀ (args : List Value) (A : Mem) (v : Value) (A' : Mem), h args A = .ok (v, A') → A.next ≤ A'.next ∧ ∀ (ι : Inj) (w : World) (args' : Array Value), Rel ι A w → VRs ι args args'.toList → Free ι A A' →
    ∀ (fr : Frame) (cs : List Frame), ∃ ι' w' v', Steps P (lone (Frame.enter P f args' .normal) (fr :: cs) w) (lone (fr.finish v') cs w') ∧ VR ι' v v' ∧ Rel ι' A' w' ∧ Stp ι A w ι' A' w'

structure TabOk (tb : Tab) : Prop where
  ty : ∀ t i, tb.ty.get t = some i → tb.P.info? t = some i
  fn : ∀ f fn, tb.fn.get f = some fn → tb.P.funcs[f]? = some fn
  mixed : tb.P.follows .mixedOrders = true
  ex : ∀ f k fn, tb.ex.get f = some k → tb.fn.get f = some fn → ExR k fn
  hk : ∀ f h, tb.hk.get f = some h → HookOk tb.P f h

variable {tb : Tab} (ok : TabOk tb)
include ok

theorem info_run {t : TypeId} {i : TypeInfo} (h : tb.ty.get t = some i) (w : World) : (typeInfo t).run tb.P w = .ok i w := by
  simp [typeInfo, ok.ty t i h]

theorem und_eq {t : TypeId} {d : TypeDesc} (h : tb.und t = some d) : tb.P.underlying t = some d := by
  unfold Tab.und at h
  unfold Program.underlying
  cases hi : tb.ty.get t with
  | none => rw [hi] at h; cases h
  | some i =>
    rw [hi] at h
    rw [ok.ty t i hi]
    obtain ⟨desc, str, size, bytes, hp, al, fa, zero, cmp, ms⟩ := i
    simp only at h ⊢
    cases desc <;> simp only at h ⊢ <;> try (exact h)
    rename_i nm u
    cases hu : tb.ty.get u with
    | none => rw [hu] at h; cases h
    | some j =>
      rw [hu] at h
      rw [ok.ty u j hu]; exact h

theorem und_run {t : TypeId} {d : TypeDesc} (h : tb.und t = some d) (w : World) : (underlying t).run tb.P w = .ok d w := by
  simp [underlying, und_eq ok h]

theorem sizeF_run {t : TypeId} {n : Nat} (h : sizeF tb t = .ok n) (w : World) : (sizeOf t).run tb.P w = .ok n w := by
  unfold sizeF at h
  cases hi : tb.ty.get t with
  | none => rw [hi] at h; cases h
  | some i =>
    rw [hi] at h
    simp only [R.ok.injEq] at h; subst h
    simp [sizeOf, info_run ok hi]

theorem isAgg_run {t : TypeId} {d : TypeDesc} (h : tb.und t = some d) (w : World) : (isAgg t).run tb.P w = .ok (isAggD d) w := by
  simp only [isAgg, Sem.run_bind, und_run ok h, Result.andThen_ok]
  cases d <;> rfl

omit ok in
theorem zeroF_spec {t : TypeId} {v : Value} (h : zeroF tb t = .ok v) : ∃ i, tb.ty.get t = some i ∧ i.zero = some v ∧ ∀ ι, VR ι v v := by
  unfold zeroF at h
  cases hi : tb.ty.get t with
  | none => rw [hi] at h; cases h
  | some i =>
    rw [hi] at h
    simp only at h
    cases hz : i.zero with
    | none => rw [hz] at h; cases h
    | some z =>
      rw [hz] at h
      simp only at h
      cases hc : constOk 3 z with
      | false => rw [hc] at h; cases h
      | true =>
        rw [hc] at h
        simp only [cond_true, R.ok.injEq] at h; subst h
        exact ⟨i, rfl, hz, fun ι => constOk_VR 3 z hc⟩

theorem zeroF_run {t : TypeId} {v : Value} (h : zeroF tb t = .ok v) (w : World) : (zeroValue t).run tb.P w = .ok v w := by
  obtain ⟨i, hi, hz, _⟩ := zeroF_spec h
  simp [zeroValue, info_run ok hi, hz]

omit ok

/-! ### Operands -/

variable {ι : Inj} {n : Nat} {τ : T Value} {a : Act}

theorem ev_sound {x : Operand} {v : Value} (h : ev τ x = .ok v) (ht : TR ι n τ a.tmps) : VR ι v (a.eval x) := by
  cases x with
  | tmp i =>
    simp only [ev] at h
    split at h
    · rename_i u hg
      simp only [R.ok.injEq] at h; subst h
      obtain ⟨v', e, r⟩ := ht.2 i u hg
      simp only [Act.eval, Array.getD_eq_getD_getElem?, e]
      exact r
    · cases h
  | const c =>
    simp only [ev] at h
    cases hc : constOk 3 c with
    | false => rw [hc] at h; cases h
    | true =>
      rw [hc] at h
      simp only [cond_true, R.ok.injEq] at h; subst h
      exact constOk_VR 3 c hc
  | global g => cases h
  | func f =>
    simp only [ev, R.ok.injEq] at h; subst h
    exact .func trivial .nil .nil

theorem evs_sound : ∀ {xs : List Operand} {vs : List Value}, evs τ xs = .ok vs → TR ι n τ a.tmps → VRs ι vs (xs.map a.eval)
  | [], vs, h, _ => by simp only [evs, R.ok.injEq] at h; subst h; exact .nil
  | x :: xs, vs, h, ht => by
    unfold evs at h
    obtain ⟨v, hv, h⟩ := R.bind_ok h
    obtain ⟨us, hu, h⟩ := R.bind_ok h
    simp only [R.ok.injEq] at h; subst h
    exact .cons (ev_sound hv ht) (evs_sound hu ht)

inductive VRo (ι : Inj) : Option Value → Option Value → Prop
  | none : VRo ι none none
  | some {v v' : Value} (h : VR ι v v') : VRo ι (some v) (some v')

theorem evo_sound {x : Option Operand} {v : Option Value} (h : evo τ x = .ok v) (ht : TR ι n τ a.tmps) : VRo ι v (x.map a.eval) := by
  cases x with
  | none => simp only [evo, R.ok.injEq] at h; subst h; exact .none
  | some x =>
    unfold evo at h
    obtain ⟨v, hv, h⟩ := R.bind_ok h
    simp only [R.ok.injEq] at h; subst h
    exact .some (ev_sound hv ht)

inductive VRp (ι : Inj) : List (Nat × Value) → List (Nat × Value) → Prop
  | nil : VRp ι [] []
  | cons {i : Nat} {v v' : Value} {l l' : List (Nat × Value)} (h : VR ι v v') (ht : VRp ι l l') : VRp ι ((i, v) :: l) ((i, v') :: l')

theorem evp_sound : ∀ {xs : List (Nat × Operand)} {vs : List (Nat × Value)}, evp τ xs = .ok vs → TR ι n τ a.tmps → VRp ι vs (xs.map fun (i, x) => (i, a.eval x))
  | [], vs, h, _ => by simp only [evp, R.ok.injEq] at h; subst h; exact .nil
  | (i, x) :: xs, vs, h, ht => by
    unfold evp at h
    obtain ⟨v, hv, h⟩ := R.bind_ok h
    obtain ⟨us, hu, h⟩ := R.bind_ok h
    simp only [R.ok.injEq] at h; subst h
    exact .cons (ev_sound hv ht) (evp_sound hu ht)

/-! ### Two operands -/

theorem natV_sound {v v' : Value} {m : Nat} (h : natV v = .ok m) (hv : VR ι v v') : ∃ k, v = .int k (.ofNat m) ∧ v' = .int k (.ofNat m) := by
  unfold natV at h
  split at h
  · simp only [R.ok.injEq] at h; subst h
    cases hv; exact ⟨_, rfl, rfl⟩
  · cases h

theorem leastF_sound {op : BinOp} {t : TypeId} {m m' : Nat} {y : Int} {v : Value} (h : leastF op m y = .ok v) (hm : m ≤ m') (hb : m' < 2 ^ 63) :
    ∃ v', (∀ (P : Program) (w : World), (binOp op t (.int .i64 (.ofNat m')) (.int .i64 y)).run P w = .ok v' w) ∧ VR ι v v' := by
  unfold leastF at h
  split at h
  · rename_i k
    cases hc : Nat.ble k m with
    | false => rw [hc] at h; cases h
    | true =>
      rw [hc] at h; simp only [cond_true, R.ok.injEq] at h; subst h
      have := ble_true hc
      refine ⟨.bool false, fun P w => ?_, .bool _⟩
      simp only [binOp, ne_eq, not_true_eq_false, if_false, Op.intCmp]
      show Result.ok _ _ = _
      congr 2
      simp only [decide_eq_false_iff_not, Int.ofNat_eq_natCast]; omega
  · rename_i k
    cases hc : Nat.ble k m with
    | false => rw [hc] at h; cases h
    | true =>
      rw [hc] at h; simp only [cond_true, R.ok.injEq] at h; subst h
      have := ble_true hc
      refine ⟨.bool true, fun P w => ?_, .bool _⟩
      simp only [binOp, ne_eq, not_true_eq_false, if_false, Op.intCmp]
      show Result.ok _ _ = _
      congr 2
      simp only [decide_eq_true_eq, Int.ofNat_eq_natCast]; omega
  · rename_i k
    cases hc : Nat.ble k m with
    | false => rw [hc] at h; cases h
    | true =>
      rw [hc] at h; simp only [cond_true, R.ok.injEq] at h; subst h
      have := ble_true hc
      refine ⟨.int .i64 (.ofNat (m' - k)), fun P w => ?_, .least (by omega) (by omega)⟩
      simp only [binOp, ne_eq, not_true_eq_false, if_false, Op.intArith]
      show Result.ok _ _ = _
      have e : IntKind.i64.wrap (Int.ofNat m' - Int.ofNat k) = Int.ofNat (m' - k) := by
        have e1 : Int.ofNat m' - Int.ofNat k = Int.ofNat (m' - k) := by simp only [Int.ofNat_eq_natCast]; omega
        rw [e1]
        refine wrap_in ?_ ?_ <;> simp only [IntKind.min, IntKind.max, IntKind.signed, IntKind.bits, if_true, Int.ofNat_eq_natCast] <;> omega
      rw [e]
  · cases h

theorem leastR_sound {op : BinOp} {t : TypeId} {m m' : Nat} {y : Int} {v : Value} (h : leastR op y m = .ok v) (hm : m ≤ m') :
    ∃ v', (∀ (P : Program) (w : World), (binOp op t (.int .i64 y) (.int .i64 (.ofNat m'))).run P w = .ok v' w) ∧ VR ι v v' := by
  unfold leastR at h
  split at h
  · rename_i k
    cases hc : Nat.ble k m with
    | false => rw [hc] at h; cases h
    | true =>
      rw [hc] at h; simp only [cond_true, R.ok.injEq] at h; subst h
      have := ble_true hc
      refine ⟨.bool false, fun P w => ?_, .bool _⟩
      simp only [binOp, ne_eq, not_true_eq_false, if_false, Op.intCmp]
      show Result.ok _ _ = _
      congr 2
      simp only [decide_eq_false_iff_not, Int.ofNat_eq_natCast]; omega
  · rename_i k
    cases hc : Nat.ble k m with
    | false => rw [hc] at h; cases h
    | true =>
      rw [hc] at h; simp only [cond_true, R.ok.injEq] at h; subst h
      have := ble_true hc
      refine ⟨.bool true, fun P w => ?_, .bool _⟩
      simp only [binOp, ne_eq, not_true_eq_false, if_false, Op.intCmp]
      show Result.ok _ _ = _
      congr 2
      simp only [decide_eq_true_eq, Int.ofNat_eq_natCast]; omega
  · cases h

/-- A value that has no address in it. -/
def basicV : Value → Prop
  | .bool _ | .int _ _ | .string _ => True
  | _ => False
theorem basicV.vr {v : Value} (h : basicV v) : VR ι v v := by
  cases v <;> first | (constructor; done) | exact h.elim

theorem shiftF_basic {op : BinOp} {k : IntKind} {x y : Int} {v : Value} (h : shiftF op k x y = .ok v) : basicV v := by
  unfold shiftF at h
  split at h
  · simp only [R.ok.injEq] at h; subst h; trivial
  · rename_i b
    cases hb : Nat.blt b k.bits <;> rw [hb] at h <;> simp only [cond_true, cond_false, R.ok.injEq] at h <;> subst h <;> trivial
  · cases h

theorem bitsF_basic {op : BinOp} {k : IntKind} {x y : Int} {v : Value} (h : bitsF op k x y = .ok v) : basicV v := by
  unfold bitsF at h
  split at h
  iterate 3
    · rename_i p q
      cases hb : (inK k (Int.ofNat p) && inK k (Int.ofNat q)) <;> rw [hb] at h <;> simp only [cond_true, cond_false, R.ok.injEq, reduceCtorEq] at h
      subst h; trivial
  · cases h

theorem divF_basic {op : BinOp} {k : IntKind} {x y : Int} {v : Value} (h : divF op k x y = .ok v) : basicV v := by
  unfold divF at h
  split at h
  · simp only [R.ok.injEq] at h; subst h; trivial
  · simp only [R.ok.injEq] at h; subst h; trivial
  · cases hb : ieqF y 0 <;> rw [hb] at h <;> simp only [cond_true, cond_false, R.ok.injEq, reduceCtorEq] at h
    subst h; trivial
  · cases hb : ieqF y 0 <;> rw [hb] at h <;> simp only [cond_true, cond_false, R.ok.injEq, reduceCtorEq] at h
    subst h; trivial
  · cases h

theorem intOpF_basic {op : BinOp} {k : IntKind} {x y : Int} {v : Value} (h : intOpF op k x y = .ok v) : basicV v := by
  unfold intOpF at h
  split at h <;> first
    | (simp only [R.ok.injEq] at h; subst h; trivial)
    | exact divF_basic h
    | exact bitsF_basic h
    | cases h

theorem strOpF_basic {op : BinOp} {x y : List UInt8} {v : Value} (h : strOpF op x y = .ok v) : basicV v := by
  unfold strOpF at h
  split at h
  · cases hb : Nat.blt (x.length + y.length) 4611686018427387904 <;> rw [hb] at h <;> simp only [cond_true, cond_false, R.ok.injEq, reduceCtorEq] at h
    subst h; trivial
  all_goals first
    | (simp only [R.ok.injEq] at h; subst h; trivial)
    | cases h

include ok in
theorem equal_bool_run {t : TypeId} (hd : tb.und t = some .bool) (a b : Bool) (w : World) : (Op.equal t (.bool a) (.bool b)).run tb.P w = .ok (a == b) w := by
  unfold Op.equal Op.maxDepth
  rw [Op.equalIn]
  simp only [Sem.run_bind, und_run ok hd, Result.andThen_ok]
  rfl

include ok in
theorem binF_sound {op : BinOp} {t : TypeId} {x x' y y' v : Value} (h : binF op (tb.und t) x y = .ok v) (hx : VR ι x x') (hy : VR ι y y') :
    ∃ v', (∀ w : World, (binOp op t x' y').run tb.P w = .ok v' w) ∧ VR ι v v' := by
  unfold binF at h
  split at h
  · cases hx with
    | least hm hb => cases hy; obtain ⟨v', e, r⟩ := leastF_sound (ι := ι) (t := t) h hm hb; exact ⟨v', fun w => e _ w, r⟩
  · cases hx
    cases hy with
    | least hm hb => obtain ⟨v', e, r⟩ := leastR_sound (ι := ι) (t := t) h hm; exact ⟨v', fun w => e _ w, r⟩
  · cases hx; cases hy
    rename_i k a k' b
    split at h
    · exact ⟨v, fun w => shiftF_sound (P := tb.P) (yk := k') h w, (shiftF_basic h).vr⟩
    · exact ⟨v, fun w => shiftF_sound (P := tb.P) (yk := k') h w, (shiftF_basic h).vr⟩
    · cases hk : kindEq k k' with
      | false => rw [hk] at h; cases h
      | true =>
        rw [hk] at h
        obtain rfl := kindEq_eq hk
        simp only [cond_true] at h
        exact ⟨v, fun w => intOpF_sound h w, (intOpF_basic h).vr⟩
  · cases hx; cases hy
    refine ⟨v, fun w => ?_, (strOpF_basic h).vr⟩
    have := strOpF_sound (P := tb.P) h w
    rw [← this]
    cases op <;> rfl
  · rename_i a b
    cases hx; cases hy
    split at h
    · rename_i hd
      simp only [R.ok.injEq] at h; subst h
      refine ⟨.bool (a == b), fun w => ?_, ?_⟩
      · show (do pure (Value.bool (← Op.equal t (.bool a) (.bool b))) : Sem Value).run tb.P w = _
        simp only [Sem.run_bind, equal_bool_run ok hd, Result.andThen_ok]; rfl
      · cases a <;> cases b <;> exact .bool _
    · rename_i hd
      simp only [R.ok.injEq] at h; subst h
      refine ⟨.bool (!(a == b)), fun w => ?_, ?_⟩
      · show (do pure (Value.bool (!(← Op.equal t (.bool a) (.bool b)))) : Sem Value).run tb.P w = _
        simp only [Sem.run_bind, equal_bool_run ok hd, Result.andThen_ok]; rfl
      · cases a <;> cases b <;> exact .bool _
    · cases h
  · cases h

end Go.Am

/-
  The abstract machine AM, part 9: slices, addresses, parts, values that are put together: as the model's.
-/
namespace Go.Am
variable {tb : Tab} (ok : TabOk tb) {ι : Inj}

theorem eqGuard_basic {op : BinOp} {d : Option TypeDesc} {t : TypeId} {ox oy : Operand} {x x' y y' v : Value} (h : binF op d x y = .ok v) (hx : VR ι x x') (hy : VR ι y y') (P : Program) (w : World) :
    (eqGuard op t ox oy x' y').run P w = .ok () w := by
  have key : ∀ (a b : Value), (∀ p q, ¬ (a = .nilIface ∧ b = .nilIface) ∧ ¬ (a = .agg p ∧ b = .agg q)) → (eqGuard op t ox oy a b).run P w = .ok () w := by
    intro a b hab
    unfold eqGuard
    cases op <;> first
      | rfl
      | (cases a <;> first
          | rfl
          | (cases b <;> first
              | rfl
              | exact absurd ⟨rfl, rfl⟩ (hab #[] #[]).1
              | exact absurd ⟨rfl, rfl⟩ (hab _ _).2))
  refine key _ _ fun p q => ?_
  unfold binF at h
  split at h
  · cases hx with
    | least hm hb => cases hy; exact ⟨by simp, by simp⟩
  · cases hx; exact ⟨by simp, by simp⟩
  · cases hx; exact ⟨by simp, by simp⟩
  · cases hx; exact ⟨by simp, by simp⟩
  · cases hx; exact ⟨by simp, by simp⟩
  · cases h

/-- The complement of a signed number. -/
theorem xor_signed {k : IntKind} (n : Int) : k.wrap ((BitVec.ofInt k.bits (-1) ^^^ BitVec.ofInt k.bits n).toNat : Int) = k.wrap (-1 - n) := by
  have hM : (0 : Int) < 2 ^ k.bits := Int.pow_pos (by omega)
  have e1 : BitVec.ofInt k.bits (-1) = BitVec.allOnes k.bits := by
    apply BitVec.eq_of_toInt_eq
    rw [BitVec.toInt_ofInt, BitVec.toInt_allOnes]
    cases k <;> decide
  have e2 : ((BitVec.ofInt k.bits (-1) ^^^ BitVec.ofInt k.bits n).toNat : Int) = 2 ^ k.bits - 1 - n % 2 ^ k.bits := by
    rw [e1, BitVec.xor_comm, BitVec.xor_allOnes, BitVec.toNat_not, BitVec.toNat_ofInt]
    have h1 := Int.emod_nonneg n (b := 2 ^ k.bits) (by omega)
    have h2 := Int.emod_lt_of_pos n hM
    have h3 : ((2 ^ k.bits : Nat) : Int) = 2 ^ k.bits := by push_cast; rfl
    rw [h3]
    omega
  rw [e2]
  have e3 : (2 ^ k.bits - 1 - n % 2 ^ k.bits : Int) % 2 ^ k.bits = (-1 - n) % 2 ^ k.bits := by
    have h := Int.mul_ediv_add_emod n (2 ^ k.bits)
    have : (2 ^ k.bits - 1 - n % 2 ^ k.bits : Int) = (-1 - n) + 2 ^ k.bits * (n / 2 ^ k.bits + 1) := by
      rw [Int.mul_add, Int.mul_one]; omega
    rw [this, Int.add_mul_emod_self_left]
  unfold IntKind.wrap
  simp only [e3]
theorem unF_sound {op : UnOp} {x x' v : Value} (h : unF op x = .ok v) (hx : VR ι x x') : ∃ v', (∀ (P : Program) (w : World), (Op.unary op x').run P w = .ok v' w) ∧ VR ι v v' := by
  unfold unF at h
  split at h
  · cases hx
    simp only [R.ok.injEq] at h; subst h
    refine ⟨_, fun P w => ?_, .int _ _⟩
    rw [wrapF_eq]; rfl
  · cases hx
    rename_i k n
    cases hs : k.signed with
    | true =>
      rw [hs] at h
      simp only [cond_true, R.ok.injEq] at h; subst h
      refine ⟨_, fun P w => ?_, .int _ _⟩
      simp only [Op.unary, hs, if_true, Op.intBits]
      show Result.ok _ _ = _
      rw [wrapF_eq, show Int.negSucc n = -1 - Int.ofNat n by simp only [Int.ofNat_eq_natCast]; omega, ← xor_signed]
    | false =>
      rw [hs] at h
      cases hk : inK k (.ofNat n) with
      | false => rw [hk] at h; cases h
      | true =>
        rw [hk] at h
        simp only [cond_true, cond_false, R.ok.injEq] at h; subst h
        refine ⟨_, fun P w => ?_, .int _ _⟩
        simp only [Op.unary, hs, Bool.false_eq_true, if_false, Op.intBits]
        show Result.ok _ _ = _
        obtain ⟨h1, h2⟩ := inK_range hk
        have hmax : k.max = 2 ^ k.bits - 1 := by simp [IntKind.max, hs]
        have hpos : 0 < 2 ^ k.bits := Nat.pow_pos (by omega)
        have hn : n < 2 ^ k.bits := by
          rw [hmax] at h2
          have : ((2 ^ k.bits : Nat) : Int) = 2 ^ k.bits := by push_cast; rfl
          simp only [Int.ofNat_eq_natCast] at h2
          omega
        have e1 : BitVec.ofInt k.bits k.max = BitVec.allOnes k.bits := by
          rw [hmax]
          have : (2 ^ k.bits - 1 : Int) = ((2 ^ k.bits - 1 : Nat) : Int) := by
            rw [Int.natCast_sub (by omega)]; push_cast; rfl
          rw [this, BitVec.ofInt_natCast]
          apply BitVec.eq_of_toNat_eq
          rw [BitVec.toNat_ofNat, BitVec.toNat_allOnes, Nat.mod_eq_of_lt (by omega)]
        have e2 : BitVec.ofInt k.bits (Int.ofNat n) = BitVec.ofNat k.bits n := BitVec.ofInt_natCast ..
        rw [e1, e2, BitVec.xor_comm, BitVec.xor_allOnes, BitVec.toNat_not, BitVec.toNat_ofNat, Nat.mod_eq_of_lt hn]
        have e3 : k.wrap (Int.ofNat (2 ^ k.bits - 1 - n)) = Int.ofNat (2 ^ k.bits - 1 - n) := by
          refine wrap_in ?_ ?_
          · have : k.min = 0 := by simp [IntKind.min, hs]
            rw [this]; exact Int.natCast_nonneg _
          · rw [hmax]
            have : ((2 ^ k.bits : Nat) : Int) = 2 ^ k.bits := by push_cast; rfl
            simp only [Int.ofNat_eq_natCast]; omega
        exact congrArg (fun z => Result.ok (Value.int k z) w) e3
  · cases hx
    rename_i k n
    cases hs : k.signed with
    | false => rw [hs] at h; cases h
    | true =>
      rw [hs] at h
      simp only [cond_true, R.ok.injEq] at h; subst h
      refine ⟨_, fun P w => ?_, .int _ _⟩
      simp only [Op.unary, hs, if_true, Op.intBits]
      show Result.ok _ _ = _
      rw [wrapF_eq, show Int.ofNat n = -1 - Int.negSucc n by simp only [Int.ofNat_eq_natCast]; omega, ← xor_signed]
  · cases hx
    simp only [R.ok.injEq] at h; subst h
    exact ⟨_, fun P w => rfl, .bool _⟩
  · cases h

theorem sliceBound_run {x : Value} {k : IntKind} {m y : Nat} {c : BoundsCode} (hx : x = .int k (.ofNat m)) (hm : m ≤ y) (P : Program) (w : World) :
    (Instr.sliceBound x y c).run P w = .ok m w := by
  subst hx
  simp only [Instr.sliceBound, asIntOf, Sem.run_bind, Sem.run_pure, Result.andThen_ok]
  rw [if_pos ⟨Int.natCast_nonneg _, by simp only [Int.ofNat_eq_natCast]; omega⟩]
  rfl

theorem bound_sound {v v' : Option Value} {d most m : Nat} (h : bound v d most = .ok m) (hv : VRo ι v v') :
    (v = none ∧ v' = none ∧ m = d) ∨ (∃ x k, v = some x ∧ v' = some (.int k (.ofNat m)) ∧ m ≤ most) := by
  cases hv with
  | none => simp only [bound, R.ok.injEq] at h; exact .inl ⟨rfl, rfl, h.symm⟩
  | some hx =>
    simp only [bound] at h
    split at h
    · rename_i n hn
      obtain ⟨k, rfl, rfl⟩ := natV_sound hn hx
      cases hb : Nat.ble n most with
      | false => rw [hb] at h; cases h
      | true =>
        rw [hb] at h; simp only [cond_true, R.ok.injEq] at h; subst h
        exact .inr ⟨_, k, rfl, rfl, ble_true hb⟩
    · cases h

/-- Bounds without a third one. -/
theorem sliceBounds_run {lo lo' hi hi' : Option Value} {len cap cap' h l : Nat} {isS : Bool} (hh : bound hi len cap = .ok h) (hl : bound lo 0 h = .ok l) (vl : VRo ι lo lo') (vh : VRo ι hi hi')
    (hc : cap ≤ cap') (P : Program) (w : World) : (Instr.sliceBounds isS len cap' lo' hi' none).run P w = .ok (l, h, cap') w := by
  unfold Instr.sliceBounds
  rcases bound_sound hh vh with ⟨_, rfl, rfl⟩ | ⟨_, k, _, rfl, hm⟩ <;> rcases bound_sound hl vl with ⟨_, rfl, rfl⟩ | ⟨_, k2, _, rfl, hm2⟩
  · rfl
  · simp only [Sem.run_bind, Sem.run_pure, Result.andThen_ok, sliceBound_run rfl hm2, Option.isSome_none, Bool.false_eq_true, if_false]
  · simp only [Sem.run_bind, Sem.run_pure, Result.andThen_ok, sliceBound_run rfl (Nat.le_trans hm hc)]
  · simp only [Sem.run_bind, Sem.run_pure, Result.andThen_ok, sliceBound_run rfl (Nat.le_trans hm hc), sliceBound_run rfl hm2, Option.isSome_none, Bool.false_eq_true, if_false]

/-- With a third one. -/
theorem sliceBounds3_run {lo lo' : Option Value} {hi hi' mx mx' : Value} {len cap cap' h l m : Nat} {isS : Bool} (hm : bound (some mx) 0 cap = .ok m) (hh : bound (some hi) 0 m = .ok h) (hl : bound lo 0 h = .ok l)
    (vl : VRo ι lo lo') (vh : VR ι hi hi') (vm : VR ι mx mx') (hc : cap ≤ cap') (P : Program) (w : World) :
    (Instr.sliceBounds isS len cap' lo' (some hi') (some mx')).run P w = .ok (l, h, m) w := by
  unfold Instr.sliceBounds
  rcases bound_sound hm (.some vm) with ⟨h1, _, _⟩ | ⟨_, k, _, h1, hm1⟩
  · cases h1
  · cases h1
    rcases bound_sound hh (.some vh) with ⟨h1, _, _⟩ | ⟨_, k1, _, h1, hm2⟩
    · cases h1
    · cases h1
      rcases bound_sound hl vl with ⟨_, rfl, rfl⟩ | ⟨_, k2, _, rfl, hm3⟩
      · simp only [Sem.run_bind, Sem.run_pure, Result.andThen_ok, sliceBound_run rfl (Nat.le_trans hm1 hc), sliceBound_run rfl hm2]
      · simp only [Sem.run_bind, Sem.run_pure, Result.andThen_ok, sliceBound_run rfl (Nat.le_trans hm1 hc), sliceBound_run rfl hm2, sliceBound_run rfl hm3]

theorem Addr_add {a : Addr} (h : a.spot = none) (n : Nat) : a.add n = addA a n := by
  obtain ⟨b, o, s⟩ := a
  cases h
  unfold Addr.add addA
  split
  · rename_i h; subst h; rfl
  · rfl

theorem Addr_add_mk (b o n : Nat) : (⟨b, o, none⟩ : Addr).add n = ⟨b, o + n, none⟩ := Addr_add rfl n
theorem addr_map (b o s n : Nat) : (some (⟨b, o + s, none⟩ : Addr)).map (·.add n) = some ⟨b, o + n + s, none⟩ := by
  simp only [Option.map_some, Addr_add_mk]
  rw [Nat.add_right_comm]

theorem capN_exact {c : Nat} (h : capX c = true) : capN c = c / 2 := by unfold capN; rw [h]; rfl
theorem capX_two (n : Nat) : capX (2 * n) = true := by
  unfold capX
  show Nat.beq ((2 * n) % 2) 0 = true
  rw [Nat.mul_mod_right]; rfl
theorem capN_two (n : Nat) : capN (2 * n) = n := by rw [capN_exact (capX_two n)]; omega
theorem capX_mkX (n e : Nat) : capX (mkX n e) = false := by unfold capX mkX; show Nat.beq ((2 * (n * 65536 + e) + 1) % 2) 0 = false; rw [show (2 * (n * 65536 + e) + 1) % 2 = 1 by omega]; rfl
theorem capN_mkX {n e : Nat} (h : e < 65536) : capN (mkX n e) = n := by
  unfold capN; rw [capX_mkX]
  show (2 * (n * 65536 + e) + 1) / 2 / 65536 = n
  omega
theorem capE_mkX {n e : Nat} (h : e < 65536) : capE (mkX n e) = e := by
  unfold capE mkX
  show (2 * (n * 65536 + e) + 1) / 2 % 65536 = e
  omega
theorem capE_lt (c : Nat) : capE c < 65536 := Nat.mod_lt _ (by omega)
theorem capX_sub (c l : Nat) : capX (capSub c l) = capX c := by
  unfold capSub
  cases h : capX c with
  | true => exact capX_two _
  | false => exact capX_mkX ..
theorem capN_sub (c l : Nat) : capN (capSub c l) = capN c - l := by
  unfold capSub
  cases h : capX c with
  | true => exact capN_two _
  | false => exact capN_mkX (capE_lt c)
theorem capE_sub {c l : Nat} (h : capX c = false) : capE (capSub c l) = capE c := by
  unfold capSub
  rw [h]
  exact capE_mkX (capE_lt c)

theorem extract_eq (s : ByteArray) (l h : Nat) : s.extract l h = ⟨⟨(s.data.toList.take h).drop l⟩⟩ := by
  apply ByteArray.ext
  apply Array.ext'
  simp [ByteArray.data_extract, List.drop_take]

include ok in
theorem sliceF_sound {t : TypeId} {x x' v : Value} {lo lo' hi hi' mx mx' : Option Value} (h : sliceF tb t x lo hi mx = .ok v) (hx : VR ι x x') (vl : VRo ι lo lo') (vh : VRo ι hi hi') (vm : VRo ι mx mx') :
    ∃ v', (∀ w : World, (Instr.sliceAt t x' lo' hi' mx').run tb.P w = .ok v' w) ∧ VR ι v v' := by
  unfold sliceF at h
  split at h
  · -- a string
    rename_i s hd
    cases hx
    cases vm with
    | some _ => cases h
    | none =>
      simp only at h
      obtain ⟨hh, e1, h0⟩ := R.bind_ok h; clear h; have h := h0; clear h0
      obtain ⟨l, e2, h0⟩ := R.bind_ok h; clear h; have h := h0; clear h0
      simp only [R.ok.injEq] at h; subst h
      refine ⟨.string (s.extract l hh), fun w => ?_, ?_⟩
      · simp only [Instr.sliceAt, Instr.slice, Sem.run_bind, und_run ok hd, Result.andThen_ok]
        have := sliceBounds_run (isS := false) e1 e2 vl vh (Nat.le_refl _) tb.P w
        rw [← size_data] at this
        simp only [Option.isSome_none, Bool.false_eq_true, if_false, Sem.run_bind, Sem.run_pure, Result.andThen_ok, this]
      · rw [extract_eq]; exact .string _
  · -- a slice
    rename_i elem a len cap hd
    cases vm with
    | none =>
      simp only at h
      obtain ⟨hh, e1, h0⟩ := R.bind_ok h; clear h; have h := h0; clear h0
      obtain ⟨l, e2, h0⟩ := R.bind_ok h; clear h; have h := h0; clear h0
      obtain ⟨size, e3, h0⟩ := R.bind_ok h; clear h; have h := h0; clear h0
      have run : ∀ (a' : Option Addr) (cap' : Nat), capN cap ≤ cap' → ∀ w : World, (Instr.sliceAt t (.slice a' len cap') lo' hi' none).run tb.P w =
          .ok (.slice (if cap' = l then a' else a'.map (·.add (l * size))) (hh - l) (cap' - l)) w := by
        intro a' cap' hc w
        simp only [Instr.sliceAt, Instr.slice, Sem.run_bind, und_run ok hd, Result.andThen_ok, sliceBounds_run (isS := true) e1 e2 vl vh hc, sizeF_run ok e3, Sem.run_pure]
      have bh : hh ≤ max len (capN cap) ∧ (hh ≤ len ∨ hh ≤ capN cap) := by
        rcases bound_sound e1 vh with ⟨_, _, rfl⟩ | ⟨_, _, _, _, hm⟩
        · exact ⟨Nat.le_max_left .., .inl (Nat.le_refl _)⟩
        · exact ⟨Nat.le_trans hm (Nat.le_max_right ..), .inr hm⟩
      have bl : l ≤ hh := by
        rcases bound_sound e2 vl with ⟨_, _, rfl⟩ | ⟨_, _, _, _, hm⟩
        · omega
        · exact hm
      cases hx with
      | slN =>
        simp only [R.ok.injEq] at h; subst h
        have h0 : capN 0 = 0 := rfl
        refine ⟨.slice none 0 0, fun w => ?_, .slN⟩
        rw [run none 0 (by rw [h0]; omega) w]
        have : hh = 0 := by rw [h0] at bh; omega
        subst this
        simp
      | sl hl hk =>
        rename_i b o lc
        simp only [hk, Bool.true_and] at h
        cases hb : Nat.beq (capN cap) l with
        | true =>
          rw [hb] at h; simp only [cond_true, R.ok.injEq] at h; subst h
          have hbl := beq_true hb
          refine ⟨_, run _ _ (Nat.le_refl _), ?_⟩
          rw [if_pos hbl, show capN cap - l = 0 by omega]
          exact VR.sl hl rfl
        | false =>
          have hbl := beq_false hb
          rw [hb] at h
          simp only [cond_false, capFit, hk, cond_true, R.ok.injEq] at h; subst h
          refine ⟨_, run _ _ (Nat.le_refl _), ?_⟩
          rw [if_neg hbl]
          rw [addr_map, ← capN_sub]
          exact VR.sl hl (by rw [capX_sub]; exact hk)
      | slX hl hk hc hsz ho hb hlen =>
        rename_i b o o' cap' lc
        simp only [hk, Bool.false_and, cond_false] at h
        cases hf : capFit cap size with
        | false => rw [hf] at h; cases h
        | true =>
          rw [hf] at h; simp only [cond_true, R.ok.injEq] at h; subst h
          have hsize : capE cap = size := by
            unfold capFit at hf; rw [hk] at hf; exact beq_true hf
          refine ⟨_, run _ _ hc, ?_⟩
          have hhc : hh ≤ capN cap := by omega
          by_cases hcl : cap' = l
          · rw [if_pos hcl]
            have h0 : capN cap - l = 0 := by omega
            refine VR.slX hl (by rw [capX_sub]; exact hk) (by rw [capN_sub]; omega) ?_ (by omega) (by omega) (by rw [capN_sub]; omega)
            rw [capE_sub hk, show cap' - l = 0 by omega]
            have := Nat.le_trans (Nat.le_add_right o' (cap' * capE cap)) hsz
            omega
          · rw [if_neg hcl]
            have e : (some (⟨lc.blk, o', none⟩ : Addr)).map (·.add (l * size)) = some ⟨lc.blk, o' + l * size, none⟩ := by
              simp only [Option.map_some, Addr_add_mk]
            rw [e]
            refine VR.slX hl (by rw [capX_sub]; exact hk) (by rw [capN_sub]; omega) ?_ ?_ (by omega) (by rw [capN_sub]; omega)
            · rw [capE_sub hk, hsize]
              rw [hsize] at hsz
              have hlc : l ≤ cap' := by omega
              have : (cap' - l) * size + l * size = cap' * size := by rw [← Nat.add_mul]; congr 1; omega
              omega
            · intro hp
              have := ho (by omega)
              show o' + l * size = o + l * size + lc.sh
              omega
    | some hv =>
      rename_i mx0 mx1
      simp only at h
      obtain ⟨m, e0, h0⟩ := R.bind_ok h; clear h; have h := h0; clear h0
      obtain ⟨hh, e1, h0⟩ := R.bind_ok h; clear h; have h := h0; clear h0
      obtain ⟨l, e2, h0⟩ := R.bind_ok h; clear h; have h := h0; clear h0
      obtain ⟨size, e3, h0⟩ := R.bind_ok h; clear h; have h := h0; clear h0
      cases vh with
      | none => simp only at h; cases h
      | some vhh =>
        rename_i hi0 hi1
        have run : ∀ (a' : Option Addr) (cap' : Nat), capN cap ≤ cap' → ∀ w : World, (Instr.sliceAt t (.slice a' len cap') lo' (some hi1) (some mx1)).run tb.P w =
            .ok (.slice (if m = l then a' else a'.map (·.add (l * size))) (hh - l) (m - l)) w := by
          intro a' cap' hc w
          simp only [Instr.sliceAt, Instr.slice, Sem.run_bind, und_run ok hd, Result.andThen_ok, sliceBounds3_run (isS := true) e0 e1 e2 vl vhh hv hc, sizeF_run ok e3, Sem.run_pure]
        have bl : l ≤ hh ∧ hh ≤ m ∧ m ≤ capN cap := by
          rcases bound_sound e0 (.some hv) with ⟨h1, _, _⟩ | ⟨_, _, _, _, hm⟩
          · cases h1
          · rcases bound_sound e1 (.some vhh) with ⟨h1, _, _⟩ | ⟨_, _, _, _, hm1⟩
            · cases h1
            · rcases bound_sound e2 vl with ⟨_, _, rfl⟩ | ⟨_, _, _, _, hm2⟩ <;> omega
        have fin : ∀ {b o o' : Nat} {lc : Loc}, ι b = some lc → (0 < capN cap → o' = o + lc.sh) → o' = o + lc.sh ∨ m = 0 →
            (bif Nat.beq m l then (R.ok (Value.slice (some ⟨b, o, none⟩) (hh - l) 0)) else .ok (.slice (some (addA ⟨b, o, none⟩ (l * size))) (hh - l) (2 * (m - l)))) = .ok v →
            VR ι v (.slice (if m = l then some ⟨lc.blk, o', none⟩ else (some (⟨lc.blk, o', none⟩ : Addr)).map (·.add (l * size))) (hh - l) (m - l)) ∨ o' ≠ o + lc.sh := by
          intro b o o' lc hl _ hoo h
          by_cases hne : o' = o + lc.sh
          · left
            subst hne
            by_cases hml : m = l
            · have hb : Nat.beq m l = true := by rw [Nat.beq_eq]; exact hml
              rw [hb] at h; simp only [cond_true, R.ok.injEq] at h; subst h
              rw [if_pos hml, show m - l = 0 by omega]
              exact VR.sl hl rfl
            · have hb : Nat.beq m l = false := by
                cases hx : Nat.beq m l with
                | false => rfl
                | true => exact absurd (beq_true hx) hml
              rw [hb] at h; simp only [cond_false, R.ok.injEq] at h; subst h
              rw [if_neg hml]
              rw [addr_map]
              have := VR.sl (ι := ι) (b := b) (o := o + l * size) (len := hh - l) (k := 2 * (m - l)) hl (capX_two _)
              rw [capN_two] at this
              exact this
          · exact .inr hne
        cases hx with
        | slN =>
          simp only [R.ok.injEq] at h; subst h
          have h0 : capN 0 = 0 := rfl
          refine ⟨.slice none 0 0, fun w => ?_, .slN⟩
          rw [run none 0 (by rw [h0]; omega) w]
          rw [h0] at bl
          have e1 : m = 0 := by omega
          have e2 : l = 0 := by omega
          have e3 : hh = 0 := by omega
          subst e1 e2 e3
          simp
        | sl hl hk =>
          refine ⟨_, run _ _ (Nat.le_refl _), ?_⟩
          rcases fin hl (fun _ => rfl) (.inl rfl) (by simp only [hk, Bool.true_or, cond_true] at h; exact h) with h1 | h1
          · exact h1
          · exact absurd rfl h1
        | slX hl hk hc hsz ho hb hlen =>
          rename_i b o o' cap' lc
          simp only [hk, Bool.false_or] at h
          cases hf : capFit cap size && Nat.blt 0 (capN cap) with
          | false => rw [hf] at h; cases h
          | true =>
            rw [hf] at h; simp only [cond_true] at h
            simp only [Bool.and_eq_true] at hf
            have h0 := blt_true hf.2
            refine ⟨_, run _ _ hc, ?_⟩
            rcases fin hl (fun hp => ho (by omega)) (.inl (ho (by omega))) h with h1 | h1
            · exact h1
            · exact absurd (ho (by omega)) h1
  · -- an array's address
    rename_i len elem a hd
    cases hx with
    | ptr hl =>
      rename_i b o lc
      cases vm with
      | some _ => simp only at h; cases h
      | none =>
        simp only at h
        obtain ⟨hh, e1, h0⟩ := R.bind_ok h; clear h; have h := h0; clear h0
        obtain ⟨l, e2, h0⟩ := R.bind_ok h; clear h; have h := h0; clear h0
        obtain ⟨size, e3, h0⟩ := R.bind_ok h; clear h; have h := h0; clear h0
        have run : ∀ w : World, (Instr.sliceAt t (.pointer (some ⟨lc.blk, o + lc.sh, none⟩)) lo' hi' none).run tb.P w =
            .ok (.slice (some (if len = l then ⟨lc.blk, o + lc.sh, none⟩ else (⟨lc.blk, o + lc.sh, none⟩ : Addr).add (l * size))) (hh - l) (len - l)) w := by
          intro w
          simp only [Instr.sliceAt, Instr.sureAddr, Sem.run_bind, und_run ok hd, Result.andThen_ok, sliceBounds_run (isS := false) e1 e2 vl vh (Nat.le_refl _), sizeF_run ok e3, Sem.run_pure]
        refine ⟨_, run, ?_⟩
        cases hb : Nat.beq len l with
        | true =>
          rw [hb] at h; simp only [cond_true, R.ok.injEq] at h; subst h
          have hml := beq_true hb
          rw [if_pos hml, show len - l = 0 by omega]
          exact VR.sl hl rfl
        | false =>
          rw [hb] at h; simp only [cond_false, R.ok.injEq] at h; subst h
          have hml := beq_false hb
          rw [if_neg hml, Addr_add_mk]
          have := VR.sl (ι := ι) (b := b) (o := o + l * size) (len := hh - l) (k := 2 * (len - l)) hl (capX_two _)
          rw [capN_two, show o + l * size + lc.sh = o + lc.sh + l * size by omega] at this
          exact this
  · cases h

end Go.Am

/-
  The abstract machine AM, part 10: all plain operations.
-/
namespace Go.Am
variable {tb : Tab} (ok : TabOk tb) {ι : Inj}

include ok in
theorem fieldAddrF_sound {t : TypeId} {x x' v : Value} {i : Nat} (h : fieldAddrF tb t x i = .ok v) (hx : VR ι x x') :
    ∃ v', (∀ w : World, (Instr.fieldAt t x' i).run tb.P w = .ok v' w) ∧ VR ι v v' := by
  unfold fieldAddrF at h
  split at h
  · rename_i fs a hd
    cases hx with
    | ptr hl =>
      rename_i b o lc
      simp only at h
      split at h
      · rename_i f _ hf
        obtain ⟨n, e1, h1⟩ := R.bind_ok h
        cases hb : Nat.beq n 0 with
        | true => rw [hb] at h1; cases h1
        | false =>
          rw [hb] at h1; simp only [cond_false, R.ok.injEq] at h1; subst h1
          refine ⟨.pointer (some ⟨lc.blk, o + f.offset + lc.sh, none⟩), fun w => ?_, ?_⟩
          · have hf' : fs[i]? = some f := by rw [← Array.getElem?_toList]; exact hf
            simp only [Instr.fieldAt, Sem.run_bind, und_run ok hd, Result.andThen_ok, hf', Instr.sureAddr, Sem.run_pure, fieldPlace, sizeF_run ok e1, if_neg (beq_false hb), Addr_add_mk]
            rw [Nat.add_right_comm]
          · exact VR.ptr (o := o + f.offset) hl
      · cases h
  · cases h

include ok in
theorem indexAddrF_sound {t : TypeId} {x x' y y' v : Value} (h : indexAddrF tb t x y = .ok v) (hx : VR ι x x') (hy : VR ι y y') :
    ∃ v', (∀ w : World, (Instr.indexAt t x' y').run tb.P w = .ok v' w) ∧ VR ι v v' := by
  unfold indexAddrF at h
  split at h
  · cases h
  · rename_i i hi
    obtain ⟨k, rfl, rfl⟩ := natV_sound hi hy
    have h0 : (0 : Int) ≤ Int.ofNat i := Int.natCast_nonneg _
    split at h
    · rename_i len elem a hd
      cases hx with
      | ptr hl =>
        rename_i b o lc
        simp only at h
        cases hb : Nat.blt i len with
        | false => rw [hb] at h; cases h
        | true =>
          rw [hb] at h; simp only [cond_true] at h
          obtain ⟨n, e1, h1⟩ := R.bind_ok h
          simp only [R.ok.injEq] at h1; subst h1
          have hlt := blt_true hb
          refine ⟨.pointer (some ⟨lc.blk, o + i * n + lc.sh, none⟩), fun w => ?_, VR.ptr (o := o + i * n) hl⟩
          have hc : (0 : Int) ≤ Int.ofNat i ∧ Int.ofNat i < (len : Int) := ⟨h0, by simp only [Int.ofNat_eq_natCast]; omega⟩
          simp only [Instr.indexAt, asIntOf, Sem.run_bind, Sem.run_pure, und_run ok hd, Result.andThen_ok, Instr.sureAddr, if_pos hc, sizeF_run ok e1, Addr_add_mk]
          show Result.ok (Value.pointer (some ⟨lc.blk, o + lc.sh + i * n, none⟩)) w = _
          rw [Nat.add_right_comm]
    · rename_i elem a len cap hd
      have core : ∀ {b o o' cap' : Nat} {lc : Loc}, ι b = some lc → (i < len → o' = o + lc.sh) → a = ⟨b, o, none⟩ → 
          ∃ v', (∀ w : World, (Instr.indexAt t (.slice (some ⟨lc.blk, o', none⟩) len cap') (.int k (.ofNat i))).run tb.P w = .ok v' w) ∧ VR ι v v' := by
        intro b o o' cap' lc hl ho ha
        subst ha
        simp only at h
        cases hb : Nat.blt i len with
        | false => rw [hb] at h; cases h
        | true =>
          rw [hb] at h; simp only [cond_true] at h
          obtain ⟨n, e1, h1⟩ := R.bind_ok h
          simp only [R.ok.injEq] at h1; subst h1
          have hlt := blt_true hb
          refine ⟨.pointer (some ⟨lc.blk, o + i * n + lc.sh, none⟩), fun w => ?_, VR.ptr (o := o + i * n) hl⟩
          have hc : (0 : Int) ≤ Int.ofNat i ∧ Int.ofNat i < (len : Int) := ⟨h0, by simp only [Int.ofNat_eq_natCast]; omega⟩
          simp only [Instr.indexAt, asIntOf, Sem.run_bind, Sem.run_pure, und_run ok hd, Result.andThen_ok, if_pos hc, sizeF_run ok e1, Addr_add_mk]
          show Result.ok (Value.pointer (some ⟨lc.blk, o' + i * n, none⟩)) w = _
          rw [ho hlt, Nat.add_right_comm]
      cases hx with
      | sl hl hk => exact core hl (fun _ => rfl) rfl
      | slX hl hk hc hsz ho hb hlen => exact core hl (fun hlt => ho (by omega)) rfl
    · cases h

include ok in
theorem partF_sound {t : TypeId} {cs : List Value} {cs' : Array Value} {off : Nat} {v : Value} (h : partF tb t cs off = .ok v) (hc : VRs ι cs cs'.toList) :
    ∃ v', (∀ w : World, (part t cs' off).run tb.P w = .ok v' w) ∧ VR ι v v' := by
  unfold partF at h
  split at h
  · cases h
  · rename_i d hd
    cases ha : isAggD d with
    | true =>
      rw [ha] at h; simp only [cond_true] at h
      obtain ⟨n, e1, h1⟩ := R.bind_ok h
      simp only [R.ok.injEq] at h1; subst h1
      refine ⟨.agg (cs'.extract off (off + n)), fun w => ?_, ?_⟩
      · simp only [part, Sem.run_bind, isAgg_run ok hd, ha, Result.andThen_ok, if_true, sizeF_run ok e1, Sem.run_pure]
      · refine .agg ?_
        have : (cs'.extract off (off + n)).toList = (cs'.toList.drop off).take n := by
          simp [Array.toList_extract, List.extract_eq_take_drop]
        rw [this]
        exact (hc.drop off).take n
    | false =>
      rw [ha] at h; simp only [cond_false] at h
      split at h
      · rename_i x hx
        simp only [R.ok.injEq] at h; subst h
        obtain ⟨x', e, r⟩ := hc.get _ _ hx
        have e' : cs'[off]? = some x' := by rw [← Array.getElem?_toList]; exact e
        refine ⟨x', fun w => ?_, r⟩
        simp only [part, Sem.run_bind, isAgg_run ok hd, ha, Result.andThen_ok, Bool.false_eq_true, if_false, e', Sem.run_pure]
      · cases h

include ok in
theorem fieldF_sound {t : TypeId} {x x' v : Value} {i : Nat} (h : fieldF tb t x i = .ok v) (hx : VR ι x x') :
    ∃ v', (∀ w : World, (Instr.field t x' i).run tb.P w = .ok v' w) ∧ VR ι v v' := by
  unfold fieldF at h
  split at h
  · rename_i fs cs hd
    cases hx with
    | agg hc =>
      split at h
      · rename_i f hf
        obtain ⟨v', e, r⟩ := partF_sound ok h hc
        refine ⟨v', fun w => ?_, r⟩
        have hf' : fs[i]? = some f := by rw [← Array.getElem?_toList]; exact hf
        simp only [Instr.field, Sem.run_bind, und_run ok hd, Result.andThen_ok, hf', asAgg, Sem.run_pure, e]
      · cases h
  · cases h

include ok in
theorem indexF_sound {t : TypeId} {x x' y y' v : Value} (h : indexF tb t x y = .ok v) (hx : VR ι x x') (hy : VR ι y y') :
    ∃ v', (∀ w : World, (Instr.index t x' y').run tb.P w = .ok v' w) ∧ VR ι v v' := by
  unfold indexF at h
  split at h
  · cases h
  · rename_i i hi
    obtain ⟨k, rfl, rfl⟩ := natV_sound hi hy
    have h0 : (0 : Int) ≤ Int.ofNat i := Int.natCast_nonneg _
    split at h
    · rename_i len elem cs hd
      cases hx with
      | agg hcs =>
        cases hb : Nat.blt i len with
        | false => rw [hb] at h; cases h
        | true =>
          rw [hb] at h; simp only [cond_true] at h
          obtain ⟨n, e1, h1⟩ := R.bind_ok h
          obtain ⟨v', e, r⟩ := partF_sound ok h1 hcs
          have hlt := blt_true hb
          have hc : (0 : Int) ≤ Int.ofNat i ∧ Int.ofNat i < (len : Int) := ⟨h0, by simp only [Int.ofNat_eq_natCast]; omega⟩
          refine ⟨v', fun w => ?_, r⟩
          simp only [Instr.index, asIntOf, Sem.run_bind, Sem.run_pure, und_run ok hd, Result.andThen_ok, if_pos hc, sizeF_run ok e1]
          exact e w
    · rename_i s hd
      cases hx
      split at h
      · rename_i b hb
        simp only [R.ok.injEq] at h; subst h
        refine ⟨_, fun w => ?_, .int _ _⟩
        have hs : s[(Int.ofNat i).toNat]? = some b := by
          show s[i]? = some b
          have hlt : i < s.data.toList.length := by
            rcases Nat.lt_or_ge i s.data.toList.length with h | h
            · exact h
            · rw [List.getElem?_eq_none h] at hb; cases hb
          have hlt' : i < s.size := by rw [size_data]; exact hlt
          rw [getElem?_pos s i hlt']
          rw [List.getElem?_eq_getElem hlt] at hb
          rw [← hb]; rfl
        simp only [Instr.index, asIntOf, Sem.run_bind, Sem.run_pure, und_run ok hd, Result.andThen_ok, if_pos h0, hs]
        rfl
      · cases h
    · cases h

/-! ### Put together -/

theorem foldl_splice (vs : List Value) : ∀ (off : Nat) (cells : Array Value) (j : Nat), off + j + vs.length ≤ cells.size →
    ((vs.zipIdx j).foldl (fun cs (p : Value × Nat) => cs.setIfInBounds (off + p.2) p.1) cells).toList = splice cells.toList (off + j) vs := by
  induction vs with
  | nil => intro off cells j h; simp [splice]
  | cons v vs ih =>
    intro off cells j h
    simp only [List.length_cons] at h
    rw [List.zipIdx_cons, List.foldl_cons, ih off _ (j + 1) (by simp; omega)]
    simp only [splice, Array.toList_setIfInBounds, List.length_cons]
    rw [List.take_set, List.drop_set, if_pos (by omega)]
    have e1 : (cells.toList.take (off + (j + 1))).set (off + j) v = cells.toList.take (off + j) ++ [v] := by
      have hmin : min (off + j) cells.size = off + j := by omega
      rw [show off + (j + 1) = off + j + 1 by omega, List.take_succ_eq_append_getElem (by simp; omega), List.set_append]
      simp [hmin]
    rw [e1, show off + (j + 1) + vs.length = off + j + (vs.length + 1) by omega]
    simp

theorem splice_VRs {a a' b b' : List Value} (off : Nat) (ha : VRs ι a a') (hb : VRs ι b b') : VRs ι (splice a off b) (splice a' off b') := by
  unfold splice
  rw [hb.length]
  exact ((ha.take off).append hb).append (ha.drop _)

theorem fillF_sound {pl pl' : Nat → Option (Nat × Nat)} (hp : ∀ i x, pl i = some x → pl' i = some x) : ∀ {parts parts' : List (Nat × Value)} {cells : List Value} {cells' : Array Value} {r : List Value}, fillF pl cells parts = some r →
    VRs ι cells cells'.toList → VRp ι parts parts' → ∃ r', Instr.fill pl' cells' parts' = some r' ∧ VRs ι r r'.toList
  | [], _, cells, cells', r, h, hc, .nil => by simp only [fillF, Option.some.injEq] at h; subst h; exact ⟨cells', rfl, hc⟩
  | (i, v) :: rest, _, cells, cells', r, h, hc, .cons hv ht => by
    rename_i v' rest'
    unfold fillF at h
    split at h
    · cases h
    · rename_i off size hpl
      have hlen := hv.cells.length
      simp only [Array.length_toList] at hlen
      have hlc := hc.length
      simp only [Array.length_toList] at hlc
      cases hb : (Nat.beq v.cells.toList.length size && Nat.ble (off + size) cells.length) with
      | false => rw [hb] at h; cases h
      | true =>
        rw [hb] at h; simp only [cond_true] at h
        simp only [Bool.and_eq_true] at hb
        have h1 := beq_true hb.1
        have h2 := ble_true hb.2
        simp only [Array.length_toList] at h1
        unfold Instr.fill
        rw [hp i _ hpl]
        simp only
        rw [if_neg]
        · have hs := splice_VRs (ι := ι) off hc hv.cells
          have hf := foldl_splice v'.cells.toList off cells' 0 (by simp; omega)
          have e : (v'.cells.zipIdx.foldl (fun cs (p : Value × Nat) => cs.setIfInBounds (off + p.2) p.1) cells').toList = splice cells'.toList off v'.cells.toList := by
            rw [← Array.foldl_toList, Array.toList_zipIdx]; exact hf
          refine fillF_sound hp h ?_ ht
          rw [show (Array.foldl (fun cs x => match x with | (c, j) => cs.setIfInBounds (off + j) c) cells' v'.cells.zipIdx) = v'.cells.zipIdx.foldl (fun cs (p : Value × Nat) => cs.setIfInBounds (off + p.2) p.1) cells' from rfl, e]
          exact hs
        · simp only [Bool.or_eq_true, decide_eq_true_eq, ne_eq]
          omega

include ok in
theorem placesF_sound : ∀ {fs : List Field} {l : List (Nat × Nat)}, placesF tb fs = .ok l → ∀ w : World, (fs.mapM fun f => do pure (f.offset, ← sizeOf f.type) : Sem (List (Nat × Nat))).run tb.P w = .ok l w
  | [], l, h, w => by simp only [placesF, R.ok.injEq] at h; subst h; rfl
  | f :: fs, l, h, w => by
    unfold placesF at h
    obtain ⟨n, e1, h1⟩ := R.bind_ok h
    obtain ⟨l', e2, h2⟩ := R.bind_ok h1
    simp only [R.ok.injEq] at h2; subst h2
    have := placesF_sound e2 w
    simp only [List.mapM_cons, Sem.run_bind, Sem.run_pure, sizeF_run ok e1, Result.andThen_ok, this]

include ok in
theorem buildF_sound {t : TypeId} {parts parts' : List (Nat × Value)} {v : Value} (h : buildF tb t parts = .ok v) (hp : VRp ι parts parts') :
    ∃ v', (∀ w : World, (Instr.build t parts'.toArray).run tb.P w = .ok v' w) ∧ VR ι v v' := by
  unfold buildF at h
  obtain ⟨zero, hz, h0⟩ := R.bind_ok h
  clear h
  have hzr := zeroF_run ok hz
  obtain ⟨_, _, _, hzv⟩ := zeroF_spec hz
  have hzc := (hzv ι).cells
  split at h0
  · rename_i fs hd
    obtain ⟨places, hpl, h1⟩ := R.bind_ok h0
    clear h0
    split at h1
    · rename_i cells hf
      simp only [R.ok.injEq] at h1; subst h1
      obtain ⟨r', e, hr⟩ := fillF_sound (pl' := fun i => places.toArray[i]?) (fun i x hx => by simpa using hx) hf hzc hp
      refine ⟨.agg r', fun w => ?_, .agg hr⟩
      have hm : (fs.mapM fun f => do pure (f.offset, ← sizeOf f.type) : Sem (Array (Nat × Nat))).run tb.P w = .ok places.toArray w := by
        rw [Array.mapM_eq_mapM_toList]
        simp only [Sem.run_map, placesF_sound ok hpl w, Result.andThen_ok]
      simp only [Instr.build, Sem.run_bind, hzr, Result.andThen_ok, und_run ok hd, hm]
      simp only [e, Sem.run_pure]
    · cases h1
  · rename_i len elem hd
    obtain ⟨n, e1, h1⟩ := R.bind_ok h0
    clear h0
    split at h1
    · rename_i cells hf
      simp only [R.ok.injEq] at h1; subst h1
      obtain ⟨r', e, hr⟩ := fillF_sound (pl' := fun i => some (i * n, n)) (fun i x hx => hx) hf hzc hp
      refine ⟨.agg r', fun w => ?_, .agg hr⟩
      simp only [Instr.build, Sem.run_bind, hzr, Result.andThen_ok, und_run ok hd, sizeF_run ok e1]
      simp only [e, Sem.run_pure]
    · cases h1
  · cases h0

end Go.Am

/-
  The abstract machine AM, part 11: whatever plain operation.
-/
namespace Go.Am
variable {tb : Tab} (ok : TabOk tb) {ι : Inj}

include ok in
theorem convPF_sound {s d : TypeId} {x x' v : Value} (h : convPF tb s d x = .ok v) (hx : VR ι x x') : ∃ v', (∀ w : World, (convert s d x').run tb.P w = .ok v' w) ∧ VR ι v v' := by
  unfold convPF at h
  split at h
  · rename_i ds k k' n hs hd
    cases hx
    simp only [R.ok.injEq] at h; subst h
    refine ⟨_, fun w => ?_, .int _ _⟩
    simp only [convert, Sem.run_bind, und_run ok hs, und_run ok hd, Result.andThen_ok, wrapF_eq]
    rfl
  · rename_i ds s hs hd
    cases hx
    simp only [R.ok.injEq] at h; subst h
    refine ⟨_, fun w => ?_, .string _⟩
    simp only [convert, Sem.run_bind, und_run ok hs, und_run ok hd, Result.andThen_ok]
    rfl
  · cases h

include ok in
theorem lenPF_sound {t : TypeId} {ts : Array TypeId} {x x' v : Value} {args : Array Value} {rt : TypeId} (h : lenPF tb t x = .ok v) (hx : VR ι x x') (ht : ts[0]? = some t) (ha : args[0]? = some x') :
    ∃ v', (∀ w : World, (Builtin.len_ ts rt args).run tb.P w = .ok v' w) ∧ VR ι v v' := by
  unfold lenPF at h
  split at h
  · rename_i s hd
    cases hx
    simp only [R.ok.injEq] at h; subst h
    refine ⟨_, fun w => ?_, .int _ _⟩
    simp only [Builtin.len_, ht, ha, Sem.run_bind, und_run ok hd, Result.andThen_ok, size_data]
    rfl
  · rename_i n e hd
    simp only [R.ok.injEq] at h; subst h
    refine ⟨_, fun w => ?_, .int _ _⟩
    simp only [Builtin.len_, ht, ha, Sem.run_bind, und_run ok hd, Result.andThen_ok]
    cases x' <;> rfl
  · rename_i e a n c hd
    simp only [R.ok.injEq] at h; subst h
    cases hx <;> refine ⟨_, fun w => ?_, .int _ _⟩ <;> simp only [Builtin.len_, ht, ha, Sem.run_bind, und_run ok hd, Result.andThen_ok] <;> rfl
  · rename_i e hd
    simp only [R.ok.injEq] at h; subst h
    cases hx
    refine ⟨_, fun w => ?_, .int _ _⟩
    simp only [Builtin.len_, ht, ha, Sem.run_bind, und_run ok hd, Result.andThen_ok]
    rfl
  · cases h

include ok in
theorem capPF_sound {t : TypeId} {ts : Array TypeId} {x x' v : Value} {args : Array Value} {rt : TypeId} (h : capPF tb t x = .ok v) (hx : VR ι x x') (ht : ts[0]? = some t) (ha : args[0]? = some x') :
    ∃ v', (∀ w : World, (Builtin.cap_ ts rt args).run tb.P w = .ok v' w) ∧ VR ι v v' := by
  unfold capPF at h
  split at h
  · rename_i n e hd
    simp only [R.ok.injEq] at h; subst h
    refine ⟨_, fun w => ?_, .int _ _⟩
    simp only [Builtin.cap_, ht, ha, Sem.run_bind, und_run ok hd, Result.andThen_ok]
    cases x' <;> rfl
  · rename_i e a n c hd
    cases hx with
    | slN =>
      have h' : R.ok (Value.int .i64 (.ofNat 0)) = R.ok v := h
      cases h'
      refine ⟨.int .i64 (.ofNat 0), fun w => ?_, .int _ _⟩
      simp only [Builtin.cap_, ht, ha, Sem.run_bind, und_run ok hd, Result.andThen_ok]; rfl
    | sl hl hk =>
      rw [hk] at h; simp only [cond_true, R.ok.injEq] at h; subst h
      refine ⟨_, fun w => ?_, .int _ _⟩
      simp only [Builtin.cap_, ht, ha, Sem.run_bind, und_run ok hd, Result.andThen_ok]; rfl
    | slX hl hk hc hsz ho hb hlen =>
      rw [hk] at h; simp only [cond_false, R.ok.injEq] at h; subst h
      refine ⟨_, fun w => ?_, .least hc hb⟩
      simp only [Builtin.cap_, ht, ha, Sem.run_bind, und_run ok hd, Result.andThen_ok]; rfl
  · cases h

theorem min2F_sound {x x' y y' v : Value} (h : min2F x y = .ok v) (hx : VR ι x x') (hy : VR ι y y') : ∃ v', (∀ (P : Program) (w : World), (Builtin.min2 x' y').run P w = .ok v' w) ∧ VR ι v v' := by
  unfold min2F at h
  split at h
  · cases hx; cases hy
    rename_i k a k' b
    cases hk : kindEq k k' with
    | false => rw [hk] at h; cases h
    | true =>
      rw [hk] at h; simp only [cond_true, R.ok.injEq] at h; subst h
      refine ⟨_, fun P w => ?_, .int _ _⟩
      simp only [Builtin.min2, Sem.run_pure, iltF_eq]
      by_cases hc : b < a <;> simp [hc]
  · cases h

theorem max2F_sound {x x' y y' v : Value} (h : max2F x y = .ok v) (hx : VR ι x x') (hy : VR ι y y') : ∃ v', (∀ (P : Program) (w : World), (Builtin.max2 x' y').run P w = .ok v' w) ∧ VR ι v v' := by
  unfold max2F at h
  split at h
  · cases hx; cases hy
    rename_i k a k' b
    cases hk : kindEq k k' with
    | false => rw [hk] at h; cases h
    | true =>
      rw [hk] at h; simp only [cond_true, R.ok.injEq] at h; subst h
      refine ⟨_, fun P w => ?_, .int _ _⟩
      simp only [Builtin.max2, Sem.run_pure, iltF_eq]
      by_cases hc : a < b <;> simp [hc]
  · cases h

theorem foldF_sound {f : Value → Value → R Value} {g : Value → Value → Sem Value}
    (hf : ∀ {x x' y y' v : Value}, f x y = .ok v → VR ι x x' → VR ι y y' → ∃ v', (∀ (P : Program) (w : World), (g x' y').run P w = .ok v' w) ∧ VR ι v v') :
    ∀ {l l' : List Value} {x x' v : Value}, foldF f x l = .ok v → VR ι x x' → VRs ι l l' → ∃ v', (∀ (P : Program) (w : World), (l'.foldlM g x').run P w = .ok v' w) ∧ VR ι v v'
  | [], _, x, x', v, h, hx, .nil => by simp only [foldF, R.ok.injEq] at h; subst h; exact ⟨x', fun _ _ => rfl, hx⟩
  | y :: l, _, x, x', v, h, hx, .cons hy ht => by
    unfold foldF at h
    obtain ⟨z, h1, h2⟩ := R.bind_ok h
    obtain ⟨z', e1, r1⟩ := hf h1 hx hy
    obtain ⟨v', e2, r2⟩ := foldF_sound hf h2 r1 ht
    refine ⟨v', fun P w => ?_, r2⟩
    simp only [List.foldlM_cons, Sem.run_bind, e1, Result.andThen_ok, e2]

theorem VRs.cons_inv {v : Value} {l l' : List Value} (h : VRs ι (v :: l) l') : ∃ v' t', l' = v' :: t' ∧ VR ι v v' ∧ VRs ι l t' := by
  cases h with
  | cons h ht => exact ⟨_, _, rfl, h, ht⟩

include ok in
theorem builtinPF_sound {b : Builtin} {ts : Array TypeId} {cs : Array Bool} {rt : TypeId} {args : List Value} {args' : Array Value} {v : Value} (h : builtinPF tb b ts.toList args = .ok v) (ha : VRs ι args args'.toList) :
    ∃ v', (∀ w : World, (builtin b ts rt cs args').run tb.P w = .ok (.value v') w) ∧ VR ι v v' := by
  have wrap : ∀ {s : Sem Value}, (∃ v', (∀ w : World, s.run tb.P w = .ok v' w) ∧ VR ι v v') → ∃ v', (∀ w : World, (do pure (Next.value (← s)) : Sem Next).run tb.P w = .ok (.value v') w) ∧ VR ι v v' := by
    rintro s ⟨v', e, r⟩
    exact ⟨v', fun w => by simp only [Sem.run_bind, e, Result.andThen_ok, Sem.run_pure], r⟩
  have first : ∀ {t : TypeId} {l : List TypeId}, ts.toList = t :: l → ts[0]? = some t := by
    intro t l e; rw [← Array.getElem?_toList, e]; rfl
  have firstA : ∀ {x : Value} {l : List Value}, args'.toList = x :: l → args'[0]? = some x := by
    intro t l e; rw [← Array.getElem?_toList, e]; rfl
  unfold builtinPF at h
  split at h
  · rename_i t l x xs hts
    obtain ⟨x', t', e, hx, _⟩ := ha.cons_inv
    exact wrap (lenPF_sound ok h hx (first hts) (firstA e))
  · rename_i t l x xs hts
    obtain ⟨x', t', e, hx, _⟩ := ha.cons_inv
    exact wrap (capPF_sound ok h hx (first hts) (firstA e))
  · obtain ⟨x', t', e, hx, ht⟩ := ha.cons_inv
    obtain ⟨v', e2, r⟩ := foldF_sound (g := Builtin.min2) (fun h a b => min2F_sound h a b) h hx ht
    exact wrap ⟨v', fun w => by simp only [Builtin.min_, e]; exact e2 _ w, r⟩
  · obtain ⟨x', t', e, hx, ht⟩ := ha.cons_inv
    obtain ⟨v', e2, r⟩ := foldF_sound (g := Builtin.max2) (fun h a b => max2F_sound h a b) h hx ht
    exact wrap ⟨v', fun w => by simp only [Builtin.max_, e]; exact e2 _ w, r⟩
  · rename_i a len c
    obtain ⟨x', t', e, hx, ht⟩ := ha.cons_inv
    cases ht
    have e' : args' = #[x'] := by apply Array.ext'; exact e
    cases hc : Nat.blt 0 (capN c) with
    | false => rw [hc] at h; cases h
    | true =>
      rw [hc] at h; simp only [cond_true, R.ok.injEq] at h; subst h
      have h0 := blt_true hc
      refine wrap ?_
      cases hx with
      | sl hl hk =>
        refine ⟨_, fun w => ?_, .ptr hl⟩
        subst e'
        show Sem.run tb.P (if capN c ≠ 0 then pure (Value.pointer (some _)) else _) w = _
        rw [if_pos (by omega : capN c ≠ 0)]; rfl
      | slX hl hk hcc hsz ho hb hlen =>
        rename_i cap' lc
        refine ⟨_, fun w => ?_, .ptr hl⟩
        subst e'
        show Sem.run tb.P (if cap' ≠ 0 then pure (Value.pointer (some _)) else _) w = _
        rw [if_pos (by omega : cap' ≠ 0), ho (by omega)]; rfl
  · cases h

include ok in
theorem assertF_sound {x x' v : Value} {xt t : TypeId} {c : Bool} (h : assertF tb x t c = .ok v) (hx : VR ι x x') :
    ∃ v', (∀ w : World, (Instr.typeAssert x' xt t c).run tb.P w = .ok v' w) ∧ VR ι v v' := by
  have fails : ∀ {a b : Option TypeId} {m : String}, (bif c then (zeroF tb t).bind fun z => .ok (.tuple ⟨[z, .bool false]⟩) else .no 99 : R Value) = .ok v →
      ∃ v', (∀ w : World, (do if c then pure (.tuple #[← zeroValue t, .bool false]) else runtimePanic (.typeAssertion a b t m) : Sem Value).run tb.P w = .ok v' w) ∧ VR ι v v' := by
    intro a b m h
    cases c with
    | false => cases h
    | true =>
      simp only [cond_true] at h
      obtain ⟨z, hz, h1⟩ := R.bind_ok h
      simp only [R.ok.injEq] at h1; subst h1
      obtain ⟨_, _, _, hzv⟩ := zeroF_spec hz
      refine ⟨.tuple ⟨[z, .bool false]⟩, fun w => ?_, .tuple (.cons (hzv ι) (.cons (.bool _) .nil))⟩
      simp only [if_true, Sem.run_bind, zeroF_run ok hz, Result.andThen_ok, Sem.run_pure]
  have holds : ∀ {y y' : Value}, VR ι y y' → (R.ok (bif c then Value.tuple ⟨[y, .bool true]⟩ else y)) = .ok v →
      VR ι v (if c then .tuple #[y', .bool true] else y') := by
    intro y y' hy h
    simp only [R.ok.injEq] at h; subst h
    cases c with
    | false => exact hy
    | true => exact .tuple (.cons hy (.cons (.bool _) .nil))
  unfold assertF at h
  split at h
  · rename_i ms hd
    cases hx
    obtain ⟨v', e, r⟩ := fails h
    refine ⟨v', fun w => ?_, r⟩
    simp only [Instr.typeAssert, Sem.run_bind, und_run ok hd, Result.andThen_ok]
    exact e w
  · rename_i want u y hd
    cases hx with
    | iface hy =>
      split at h
      · rename_i i hi
        split at h
        · rename_i hm
          refine ⟨_, fun w => ?_, holds (.iface hy) h⟩
          simp only [Instr.typeAssert, Sem.run_bind, und_run ok hd, info_run ok hi, Result.andThen_ok, hm]
          rfl
        · rename_i m hm
          obtain ⟨v', e, r⟩ := fails h
          refine ⟨v', fun w => ?_, r⟩
          simp only [Instr.typeAssert, Sem.run_bind, und_run ok hd, info_run ok hi, Result.andThen_ok, hm]
          exact e w
      · cases h
  · rename_i d hne hd
    cases hx
    obtain ⟨v', e, r⟩ := fails h
    refine ⟨v', fun w => ?_, r⟩
    simp only [Instr.typeAssert, Sem.run_bind, und_run ok hd, Result.andThen_ok]
    cases d <;> first | exact e w | exact absurd rfl (hne _)
  · rename_i d u y hne hd
    cases hx with
    | iface hy =>
      cases hb : Nat.beq u t with
      | true =>
        obtain rfl := beq_true hb
        rw [hb] at h
        simp only [cond_true] at h
        refine ⟨_, fun w => ?_, holds hy h⟩
        simp only [Instr.typeAssert, Sem.run_bind, und_run ok hd, Result.andThen_ok]
        cases d <;> first | (simp only [if_true]; rfl) | exact absurd rfl (hne _)
      | false =>
        have hb' := beq_false hb
        rw [hb] at h
        simp only [cond_false] at h
        obtain ⟨v', e, r⟩ := fails h
        refine ⟨v', fun w => ?_, r⟩
        simp only [Instr.typeAssert, Sem.run_bind, und_run ok hd, Result.andThen_ok]
        cases d <;> first | (simp only [if_neg hb']; exact e w) | exact absurd rfl (hne _)
  · cases h
  · cases h

theorem notYield_of {fn : Fn} (h : ∀ l, fn = .yield l → False) : notYield fn := by
  cases fn <;> first | trivial | exact (h _ rfl).elim

include ok in
theorem pOp_sound {n : Nat} {τ : T Value} {a : Act} {o : Oper} {v : Value} (h : pOp tb τ o.op = .ok v) (ht : TR ι n τ a.tmps) :
    ∃ v', (∀ w : World, (execOp a.eval o).run tb.P w = .ok (.value v') w) ∧ VR ι v v' := by
  have wrap : ∀ {s : Sem Value}, (∃ v', (∀ w : World, s.run tb.P w = .ok v' w) ∧ VR ι v v') → ∃ v', (∀ w : World, (do pure (Next.value (← s)) : Sem Next).run tb.P w = .ok (.value v') w) ∧ VR ι v v' := by
    rintro s ⟨v', e, r⟩
    exact ⟨v', fun w => by simp only [Sem.run_bind, e, Result.andThen_ok, Sem.run_pure], r⟩
  unfold pOp at h
  split at h <;> rename_i hop <;> simp only [execOp, hop]
  · exact ⟨_, fun w => rfl, ev_sound h ht⟩
  · exact ⟨_, fun w => rfl, ev_sound h ht⟩
  · rename_i c x y
    obtain ⟨cv, hc, h1⟩ := R.bind_ok h
    have hcr := ev_sound hc ht
    split at h1
    · generalize a.eval c = cv' at hcr ⊢
      cases hcr
      refine ⟨a.eval x, fun w => ?_, ev_sound h1 ht⟩
      simp only [Sem.run_bind, asBool, Sem.run_pure, Result.andThen_ok, if_true]
    · generalize a.eval c = cv' at hcr ⊢
      cases hcr
      refine ⟨a.eval y, fun w => ?_, ev_sound h1 ht⟩
      simp only [Sem.run_bind, asBool, Sem.run_pure, Result.andThen_ok, Bool.false_eq_true, if_false]
    · cases h1
  · rename_i ty ps
    obtain ⟨vs, h1, h2⟩ := R.bind_ok h
    have := evp_sound h1 ht
    refine wrap ?_
    obtain ⟨v', e, r⟩ := buildF_sound ok h2 this
    refine ⟨v', fun w => ?_, r⟩
    rw [← e w]
    congr 2
    apply Array.ext'
    simp
  · obtain ⟨x, h1, h2⟩ := R.bind_ok h
    obtain ⟨v', e, r⟩ := unF_sound h2 (ev_sound h1 ht)
    exact wrap ⟨v', fun w => e _ w, r⟩
  · obtain ⟨x, h1, h2⟩ := R.bind_ok h
    have hx := ev_sound h1 ht
    split at h2
    · cases h2
    · rename_i d hne hd
      simp only [R.ok.injEq] at h2; subst h2
      refine wrap ⟨_, fun w => ?_, .iface hx⟩
      simp only [Instr.makeInterface, Sem.run_bind, und_run ok hd, Result.andThen_ok]
      cases d <;> first | rfl | exact absurd rfl (hne _)
    · cases h2
  · obtain ⟨x, h1, h2⟩ := R.bind_ok h
    obtain ⟨y, h3, h4⟩ := R.bind_ok h2
    have hx := evs_sound h1 ht
    have hy := evs_sound h3 ht
    split at h4
    · cases h4
    · rename_i hfn
      simp only [R.ok.injEq] at h4; subst h4
      refine wrap ⟨_, fun w => rfl, .func ?_ (by simpa using hx) (by simpa using hy)⟩
      exact notYield_of hfn
  · obtain ⟨x, h1, h2⟩ := R.bind_ok h
    exact wrap (fieldAddrF_sound ok h2 (ev_sound h1 ht))
  · obtain ⟨x, h1, h2⟩ := R.bind_ok h
    exact wrap (fieldF_sound ok h2 (ev_sound h1 ht))
  · obtain ⟨x, h1, h2⟩ := R.bind_ok h
    obtain ⟨y, h3, h4⟩ := R.bind_ok h2
    exact wrap (indexAddrF_sound ok h4 (ev_sound h1 ht) (ev_sound h3 ht))
  · obtain ⟨x, h1, h2⟩ := R.bind_ok h
    obtain ⟨y, h3, h4⟩ := R.bind_ok h2
    exact wrap (indexF_sound ok h4 (ev_sound h1 ht) (ev_sound h3 ht))
  · rename_i xo i
    obtain ⟨x, h1, h2⟩ := R.bind_ok h
    have hx := ev_sound h1 ht
    split at h2
    · split at h2
      · rename_i vs u hu
        simp only [R.ok.injEq] at h2; subst h2
        generalize a.eval xo = xv' at hx ⊢
        cases hx with
        | tuple hvs =>
          rename_i vs'
          obtain ⟨u', e2, r⟩ := hvs.get _ _ hu
          refine wrap ⟨u', fun w => ?_, r⟩
          have : vs'[i]? = some u' := by rw [← Array.getElem?_toList]; exact e2
          simp only [Instr.extract, this, Sem.run_pure]
      · cases h2
    · cases h2
  · obtain ⟨x, h1, h2⟩ := R.bind_ok h
    obtain ⟨lo, h3, h4⟩ := R.bind_ok h2
    obtain ⟨hi, h5, h6⟩ := R.bind_ok h4
    obtain ⟨mx, h7, h8⟩ := R.bind_ok h6
    exact wrap (sliceF_sound ok h8 (ev_sound h1 ht) (evo_sound h3 ht) (evo_sound h5 ht) (evo_sound h7 ht))
  · obtain ⟨x, h1, h2⟩ := R.bind_ok h
    exact wrap (assertF_sound ok h2 (ev_sound h1 ht))
  · obtain ⟨x, h1, h2⟩ := R.bind_ok h
    have hx := ev_sound h1 ht
    rename_i xo
    generalize a.eval xo = xv' at hx ⊢
    have hx0 := hx
    split at h2 <;> simp only [R.ok.injEq, reduceCtorEq] at h2 <;> subst h2 <;> cases hx <;> exact ⟨_, fun w => rfl, hx0⟩
  · rename_i op ty x y yt
    obtain ⟨xv, h1, h2⟩ := R.bind_ok h
    obtain ⟨yv, h3, h4⟩ := R.bind_ok h2
    obtain ⟨v', e, r⟩ := binF_sound ok h4 (ev_sound h1 ht) (ev_sound h3 ht)
    refine wrap ⟨v', fun w => ?_, r⟩
    simp only [Sem.run_bind, eqGuard_basic h4 (ev_sound h1 ht) (ev_sound h3 ht), Result.andThen_ok, e]
  · obtain ⟨x, h1, h2⟩ := R.bind_ok h
    exact wrap (convPF_sound ok h2 (ev_sound h1 ht))
  · rename_i c
    split at h
    · rename_i b hb
      obtain ⟨args, h1, h2⟩ := R.bind_ok h
      have ha := evs_sound h1 ht
      obtain ⟨v', e, r⟩ := builtinPF_sound ok (cs := c.args.map fun | .const _ => true | _ => false) (rt := o.type) (args' := c.args.map a.eval) h2 (by simpa using ha)
      refine ⟨v', fun w => ?_, r⟩
      simp only [resolve, hb, Sem.run_bind, Sem.run_pure, Result.andThen_ok, invoke]
      exact e w
    · cases h
  · cases h

end Go.Am

/-
  The abstract machine AM, part 12: operations that read memory.
-/
namespace Go.Am
variable {tb : Tab} (ok : TabOk tb) {ι : Inj} {A : Mem} {w : World}

theorem cell_of_OR {t : TypeId} {x : Kd} {fz : Nat} {c : T Value} {l : Loc} {o' : Obj} (h : OR ι (.cells t x fz c) l o') (hw : w.heap[l.blk]? = some o') {i : Nat} {v : Value} (hv : c.get i = some v) :
    ∃ v', w.cell? ⟨l.blk, i + l.sh, none⟩ = some v' ∧ VR ι v v' := by
  obtain ⟨cs, fr, rfl, h1, h2, h3⟩ := h
  obtain ⟨v', e, r⟩ := h2 i v hv
  exact ⟨v', by simp only [World.cell?, hw, Option.isSome_none, Bool.false_eq_true, if_false, e], r⟩

theorem load_run {a : Addr} {v : Value} (h : w.cell? a = some v) (P : Program) (m : Mode) : (load a m).run P w = .ok v w := by
  rw [run_load, h]

theorem loadCellsFrom_run (P : Program) (a : Addr) : ∀ (n i : Nat) (acc : Array Value) (vs : List Value), vs.length = n → (∀ j v, vs[j]? = some v → w.cell? (a.add (i + j)) = some v) →
    (loadCellsFrom a i n acc).run P w = .ok (acc ++ vs.toArray) w
  | 0, i, acc, vs, hl, _ => by
    cases vs with
    | nil => simp [loadCellsFrom]
    | cons _ _ => simp at hl
  | n + 1, i, acc, vs, hl, h => by
    cases vs with
    | nil => simp at hl
    | cons v vs =>
      have h0 : w.cell? (a.add i) = some v := h 0 v rfl
      simp only [loadCellsFrom, Sem.run_bind, load_run h0, Result.andThen_ok]
      rw [loadCellsFrom_run P a n (i + 1) (acc.push v) vs (by simpa using hl) fun j u hu => by rw [Nat.add_right_comm, Nat.add_assoc]; exact h (j + 1) u (by simpa using hu)]
      congr 1
      apply Array.ext'
      simp

theorem loadCells_run (P : Program) (a : Addr) (n : Nat) (vs : List Value) (hl : vs.length = n) (h : ∀ j v, vs[j]? = some v → w.cell? (a.add j) = some v) : (loadCells a n).run P w = .ok vs.toArray w := by
  unfold loadCells
  rw [loadCellsFrom_run P a n 0 #[] vs hl fun j v hv => by rw [Nat.zero_add]; exact h j v hv]
  simp

/-- Cells read abstractly: the world's, as many. -/
theorem gets_OR {t : TypeId} {x : Kd} {fz : Nat} {c : T Value} {l : Loc} {o' : Obj} (h : OR ι (.cells t x fz c) l o') (hw : w.heap[l.blk]? = some o') {n i : Nat} {vs : List Value} (hv : c.gets n i = some vs) :
    ∃ vs', VRs ι vs vs' ∧ vs'.length = n ∧ ∀ P (w2 : World), w2.heap = w.heap → (loadCells ⟨l.blk, i + l.sh, none⟩ n).run P w2 = .ok vs'.toArray w2 := by
  obtain ⟨hlen, hget⟩ := T.gets_spec c n i vs hv
  have key : ∀ j, j < n → ∃ v', w.cell? ⟨l.blk, i + j + l.sh, none⟩ = some v' ∧ (∀ v, vs[j]? = some v → VR ι v v') := by
    intro j hj
    have hj' : j < vs.length := by omega
    have e := hget j hj
    rw [List.getElem?_eq_getElem hj'] at e
    obtain ⟨v', e1, r⟩ := cell_of_OR h hw e
    exact ⟨v', e1, fun v hv => by rw [List.getElem?_eq_getElem hj'] at hv; cases hv; exact r⟩
  let f : Nat → Value := fun j => (w.cell? ⟨l.blk, i + j + l.sh, none⟩).getD undef
  refine ⟨(List.range n).map f, VRs.of_get (by simp [hlen]) fun j v v' hv hv' => ?_, by simp, fun P w2 hw2 => loadCells_run P _ n _ (by simp) fun j v hv => ?_⟩
  · have hj : j < n := by
      rcases Nat.lt_or_ge j n with h1 | h1
      · exact h1
      · rw [List.getElem?_eq_none (by simp; omega)] at hv'; cases hv'
    obtain ⟨u, e1, r⟩ := key j hj
    rw [List.getElem?_map, List.getElem?_range hj] at hv'
    simp only [Option.map_some, Option.some.injEq] at hv'
    have : f j = u := by simp only [f, e1, Option.getD_some]
    rw [← hv', this]
    exact r v hv
  · have hj : j < n := by
      rcases Nat.lt_or_ge j n with h1 | h1
      · exact h1
      · rw [List.getElem?_eq_none (by simp; omega)] at hv; cases hv
    obtain ⟨u, e1, r⟩ := key j hj
    rw [List.getElem?_map, List.getElem?_range hj] at hv
    simp only [Option.map_some, Option.some.injEq] at hv
    have : f j = u := by simp only [f, e1, Option.getD_some]
    rw [Addr_add_mk, ← hv, this, Nat.add_right_comm]
    have hc : ∀ a, w2.cell? a = w.cell? a := fun a => by simp only [World.cell?, hw2]
    rw [hc]; exact e1

include ok in
theorem loadF_sound (hr : Rel ι A w) {t : TypeId} {x x' v : Value} (h : loadF tb A.get t x = .ok v) (hx : VR ι x x') :
    ∃ v', (Instr.loadAt t x').run tb.P w = .ok v' w ∧ VR ι v v' := by
  unfold loadF at h
  split at h
  · rename_i a
    cases hx with
    | ptr hl =>
      rename_i b o lc
      simp only at h
      split at h
      · rename_i t' xk fz c d _ hg hd
        obtain ⟨o', hw, ho⟩ := hr.obs _ _ _ hg rfl hl
        cases ha : isAggD d with
        | true =>
          rw [ha] at h; simp only [cond_true] at h
          obtain ⟨n, e1, h1⟩ := R.bind_ok h
          split at h1
          · rename_i vs hvs
            simp only [R.ok.injEq] at h1; subst h1
            obtain ⟨vs', r, _, run⟩ := gets_OR ho hw hvs
            refine ⟨.agg vs'.toArray, ?_, .agg (by simpa using r)⟩
            simp only [Instr.loadAt, Instr.sureAddr, loadVar, Sem.run_bind, Sem.run_pure, Result.andThen_ok, isAgg_run ok hd, ha, if_true, sizeF_run ok e1, run _ _ rfl]
          · cases h1
        | false =>
          rw [ha] at h; simp only [cond_false] at h
          split at h
          · rename_i u hu
            simp only [R.ok.injEq] at h; subst h
            obtain ⟨v', e, r⟩ := cell_of_OR ho hw hu
            refine ⟨v', ?_, r⟩
            simp only [Instr.loadAt, Instr.sureAddr, loadVar, Sem.run_bind, Sem.run_pure, Result.andThen_ok, isAgg_run ok hd, ha, Bool.false_eq_true, if_false, load_run e]
          · cases h
      · cases h
  · cases h

/-! ### Elements; strings -/

theorem elemsF_sound (hr : Rel ι A w) {size n len cap : Nat} {a : Option Addr} {x' : Value} {vs : List Value} (h : elemsF A.get size n a = .ok vs) (hx : VR ι (.slice a len cap) x') (hn : n ≤ len) :
    ∃ a' cap' vs', x' = .slice a' len cap' ∧ VRs ι vs vs' ∧ (∀ b, a' = some b → ∀ P (w2 : World), w2.heap = w.heap → (loadCells b (n * size)).run P w2 = .ok vs'.toArray w2) ∧ (a' = none → vs' = [] ∧ a = none) ∧
      (vs.length = n * size ∨ a = none) := by
  have fin : ∀ {b o o' : Nat} {lc : Loc}, ι b = some lc → (0 < n → o' = o + lc.sh) → elemsF A.get size n (some ⟨b, o, none⟩) = .ok vs →
      ∃ vs', VRs ι vs vs' ∧ (∀ P (w2 : World), w2.heap = w.heap → (loadCells ⟨lc.blk, o', none⟩ (n * size)).run P w2 = .ok vs'.toArray w2) ∧ vs.length = n * size := by
    intro b o o' lc hl ho h
    unfold elemsF at h
    simp only at h
    cases hb : Nat.beq (n * size) 0 with
    | true =>
      have h0 := beq_true hb
      rw [hb] at h; simp only [cond_true, R.ok.injEq] at h; subst h
      exact ⟨[], .nil, (fun P w2 _ => by rw [h0]; rfl), by simp [h0]⟩
    | false =>
      have h0 := beq_false hb
      rw [hb] at h; simp only [cond_false] at h
      split at h
      · rename_i t xk fz c _ hg
        split at h
        · rename_i l hlv
          simp only [R.ok.injEq] at h; subst h
          obtain ⟨o1, hw, hor⟩ := hr.obs _ _ _ hg rfl hl
          obtain ⟨vs', r, hlen, run⟩ := gets_OR hor hw hlv
          have hn0 : 0 < n := by
            rcases Nat.eq_zero_or_pos n with h1 | h1
            · rw [h1, Nat.zero_mul] at h0; exact absurd rfl h0
            · exact h1
          rw [ho hn0]
          exact ⟨vs', r, run, (T.gets_spec c _ _ _ hlv).1⟩
        · cases h
      · cases h
  cases hx with
  | slN =>
    simp only [elemsF, R.ok.injEq] at h; subst h
    exact ⟨none, 0, [], rfl, .nil, (fun b hb => by cases hb), fun _ => ⟨rfl, rfl⟩, .inr rfl⟩
  | sl hl hk =>
    obtain ⟨vs', h1, h3, h4⟩ := fin hl (fun _ => rfl) h
    exact ⟨_, _, vs', rfl, h1, (fun b hb P w2 hw2 => by cases hb; exact h3 P w2 hw2), (fun h => by cases h), .inl h4⟩
  | slX hl hk hc hsz ho hb hlen =>
    obtain ⟨vs', h1, h3, h4⟩ := fin hl (fun h0 => ho (by omega)) h
    exact ⟨_, _, vs', rfl, h1, (fun b hb P w2 hw2 => by cases hb; exact h3 P w2 hw2), (fun h => by cases h), .inl h4⟩

theorem bytesOf_loop (P : Program) {why : String} : ∀ {vs vs' : List Value} {l : List UInt8}, bytesOf vs = .ok l → VRs ι vs vs' → ∀ (s : ByteArray),
    (forIn vs' s fun c s => (match c with
      | Value.int IntKind.u8 n => pure (ForInStep.yield (s.push (UInt8.ofNat n.toNat)))
      | _ => do
        stuck why
        pure (ForInStep.yield s) : Sem (ForInStep ByteArray))).run P w = .ok ⟨⟨s.data.toList ++ l⟩⟩ w
  | [], _, l, h, .nil, s => by
    simp only [bytesOf, R.ok.injEq] at h; subst h
    simp
  | v :: vs, _, l, h, .cons hv ht, s => by
    unfold bytesOf at h
    split at h
    · rename_i heq
      cases heq
    · rename_i n vs2 heq
      simp only [List.cons.injEq] at heq
      obtain ⟨rfl, rfl⟩ := heq
      obtain ⟨l', h1, h2⟩ := R.bind_ok h
      simp only [R.ok.injEq] at h2; subst h2
      cases hv
      rw [List.forIn_cons]
      simp only [Sem.run_bind, Sem.run_pure, Result.andThen_ok]
      rw [bytesOf_loop P h1 ht]
      congr 1
      apply ByteArray.ext
      apply Array.ext'
      show (s.push (UInt8.ofNat (Int.ofNat n).toNat)).data.toList ++ l' = _
      simp [ByteArray.data_push]
    · cases h

theorem toStringF_sound (hr : Rel ι A w) {x x' v : Value} (h : toStringF A.get x = .ok v) (hx : VR ι x x') : ∀ P, ∃ v', (Conv.bytesToString x').run P w = .ok v' w ∧ VR ι v v' := by
  intro P
  unfold toStringF at h
  split at h
  · simp only [R.ok.injEq] at h; subst h
    cases hx
    exact ⟨.string .empty, rfl, .string _⟩
  · rename_i a len cap
    obtain ⟨vs, h1, h2⟩ := R.bind_ok h
    obtain ⟨l, h3, h4⟩ := R.bind_ok h2
    simp only [R.ok.injEq] at h4; subst h4
    obtain ⟨a', cap', vs', e, r, run, hnone, _⟩ := elemsF_sound hr h1 hx (Nat.le_refl _)
    subst e
    cases a' with
    | none => have := (hnone rfl).2; cases this
    | some b =>
      refine ⟨strOf l, ?_, .string _⟩
      have hrun := run b rfl P w rfl
      rw [Nat.mul_one] at hrun
      simp only [Conv.bytesToString, Sem.run_bind, hrun, Result.andThen_ok]
      rw [← Array.forIn_toList]
      refine (congrArg (fun r => Result.andThen r (fun a w' => Sem.run P (pure (Value.string a)) w')) (bytesOf_loop (w := w) P h3 r .empty)).trans ?_
      rfl
  · cases h

theorem bytes_beq (x y : ByteArray) : (x == y) = (x.data.toList == y.data.toList) := by
  cases x; cases y
  rename_i a b
  have : ((⟨a⟩ : ByteArray) == ⟨b⟩) = (a == b) := rfl
  rw [this]
  cases a; cases b; simp

/-! ### Maps -/

theorem keyEq_sound {k k' e e' : Value} {b : Bool} (h : keyEq k e = some b) (hk : VR ι k k') (he : VR ι e e') : ∀ d, ((∃ x, d = TypeDesc.int x) ∧ (∃ x y, k = .int x y) ∨ d = .string ∧ ∃ x, k = .string x) →
    Instr.sameNow d k' e' = some b := by
  intro d hd
  unfold keyEq at h
  split at h
  · cases hk; cases he
    rename_i kk x kk' y
    cases hkk : kindEq kk kk' with
    | false => rw [hkk] at h; cases h
    | true =>
      rw [hkk] at h; simp only [cond_true, Option.some.injEq] at h; subst h
      obtain rfl := kindEq_eq hkk
      rcases hd with ⟨⟨_, rfl⟩, _⟩ | ⟨rfl, _, h⟩
      · simp only [Instr.sameNow, if_true, ieqF_eq]
      · cases h
  · cases hk; cases he
    simp only [Option.some.injEq] at h; subst h
    rename_i x y
    rcases hd with ⟨_, _, _, h⟩ | ⟨rfl, _, h⟩
    · cases h
    · simp only [Instr.sameNow, bytesEq_eq, bytes_beq]
  · cases h

theorem findF_sound {k k' : Value} (hk : VR ι k k') {d : TypeDesc} (hd : (∃ x, d = TypeDesc.int x) ∧ (∃ x y, k = .int x y) ∨ d = .string ∧ ∃ x, k = .string x) :
    ∀ {es es' : List MapEntry} {i : Nat} {r : Option (Nat × Value)}, findF k es i = some r → ERs ι es es' →
    (r = none ∧ Instr.findNow d k' es' i = some none) ∨ ∃ j v v', r = some (j, v) ∧ Instr.findNow d k' es' i = some (some (j, v')) ∧ VR ι v v' ∧ i ≤ j ∧ ∃ e', es'[j - i]? = some e' ∧ ∃ e, es[j - i]? = some e ∧ keyEq k e.key = some true
  | [], _, i, r, h, .nil => by
    simp only [findF, Option.some.injEq] at h; subst h
    exact .inl ⟨rfl, rfl⟩
  | e :: es, _, i, r, h, .cons hkk hb hv ht => by
    rename_i e' es'
    unfold findF at h
    split at h
    · rename_i hq
      simp only [Option.some.injEq] at h; subst h
      refine .inr ⟨i, e.val, e'.val, rfl, ?_, hv, Nat.le_refl _, e', by simp, e, by simp, hq⟩
      unfold Instr.findNow
      rw [keyEq_sound hq hk hkk d hd]
    · rename_i hq
      have hs := keyEq_sound hq hk hkk d hd
      rcases findF_sound hk hd h ht with ⟨h1, h2⟩ | ⟨j, v, v', h1, h2, h3, h4, x', h5, x, h6, h7⟩
      · refine .inl ⟨h1, ?_⟩
        unfold Instr.findNow
        rw [hs]; exact h2
      · have hj : j - i = (j - (i + 1)) + 1 := by simp only [Nat.succ_eq_add_one] at h4; omega
        refine .inr ⟨j, v, v', h1, ?_, h3, by simp only [Nat.succ_eq_add_one] at h4; omega, x', by rw [hj]; simpa using h5, x, by rw [hj]; simpa using h6, h7⟩
        unfold Instr.findNow
        rw [hs]; exact h2
    · cases h

theorem keyOk_spec {t : TypeId} {k : Value} (h : keyOk tb t k = true) : ∃ d, tb.und t = some d ∧ ((∃ x, d = TypeDesc.int x) ∧ (∃ x y, k = .int x y) ∨ d = .string ∧ ∃ x, k = .string x) := by
  unfold keyOk at h
  split at h
  · rename_i x _ _ hd; exact ⟨_, hd, .inl ⟨⟨_, rfl⟩, _, _, rfl⟩⟩
  · rename_i x hd; exact ⟨_, hd, .inr ⟨rfl, _, rfl⟩⟩
  · cases h

include ok in
theorem checkKey_run {t : TypeId} {k k' : Value} {d : TypeDesc} (hd : tb.und t = some d) (hk : (∃ x, d = TypeDesc.int x) ∧ (∃ x y, k = .int x y) ∨ d = .string ∧ ∃ x, k = .string x) (hv : VR ι k k') (e : Bool) (w : World) :
    (Instr.checkKey e 10000 t k').run tb.P w = .ok () w := by
  rw [show (10000 : Nat) = 9999 + 1 from rfl, Instr.checkKey]
  simp only [Sem.run_bind, und_run ok hd, Result.andThen_ok]
  rcases hk with ⟨⟨_, rfl⟩, _, _, rfl⟩ | ⟨rfl, _, rfl⟩ <;> cases hv <;> rfl

include ok in
theorem findKey_run {t : TypeId} {k' : Value} {d : TypeDesc} (hd : tb.und t = some d) {es' : List MapEntry} {r : Option (Nat × Value)} (h : Instr.findNow d k' es' 0 = some r) (w : World) :
    (Instr.findKey t k' es').run tb.P w = .ok r w := by
  simp only [Instr.findKey, Sem.run_bind, und_run ok hd, Result.andThen_ok, h, Sem.run_pure]

theorem getObj_run {r : Nat} {o : Obj} (h : w.heap[r]? = some o) (hc : ∀ c e f, o ≠ .cells c e f) (P : Program) : (getObj r).run P w = .ok o w := by
  simp only [getObj, Sem.run, h]

theorem entriesF_sound (hr : Rel ι A w) {x x' : Value} {es : List MapEntry} (h : entriesF A.get x = .ok es) (hx : VR ι x x') :
    ∃ es' : Array MapEntry, ERs ι es es'.toList ∧ ((x' = .map none ∧ es' = #[]) ∨ ∃ r clock, x' = .map (some r) ∧ w.heap[r]? = some (.map es' clock)) := by
  unfold entriesF at h
  split at h
  · simp only [R.ok.injEq] at h; subst h
    cases hx
    exact ⟨#[], .nil, .inl ⟨rfl, rfl⟩⟩
  · rename_i b
    split at h
    · rename_i es0 clock hg
      simp only [R.ok.injEq] at h; subst h
      cases hx with
      | map hl =>
        obtain ⟨o', hw, _, es', rfl, he⟩ := hr.obs _ _ _ hg rfl hl
        exact ⟨es', he, .inr ⟨_, clock, rfl, hw⟩⟩
    · cases h
  · cases h

include ok in
theorem lookupF_sound (hr : Rel ι A w) {t : TypeId} {x x' k k' v : Value} {c : Bool} (h : lookupF tb A.get t x k c = .ok v) (hx : VR ι x x') (hk : VR ι k k') :
    ∃ v', (Instr.lookup t x' k' c).run tb.P w = .ok v' w ∧ VR ι v v' := by
  unfold lookupF at h
  split at h
  · rename_i key elem hd
    cases hko : keyOk tb key k with
    | false => rw [hko] at h; cases h
    | true =>
      rw [hko] at h; simp only [cond_true] at h
      obtain ⟨d, hkd, hks⟩ := keyOk_spec hko
      obtain ⟨es, h1, h2⟩ := R.bind_ok h
      obtain ⟨es', he, hes⟩ := entriesF_sound hr h1 hx
      have hck := checkKey_run ok hkd hks hk es'.isEmpty w
      have fin : ∀ {z z' : Value} {b : Bool}, VR ι z z' → VR ι (bif c then Value.tuple ⟨[z, .bool b]⟩ else z) (if c then .tuple #[z', .bool b] else z') := by
        intro z z' b hz
        cases c with
        | false => exact hz
        | true => exact .tuple (.cons hz (.cons (.bool _) .nil))
      have run : ∀ {r : Option (Nat × Value)}, Instr.findNow d k' es'.toList 0 = some r → (Instr.lookup t x' k' c).run tb.P w =
          ((match (generalizing := false) r with
            | some (_, v) => pure (v, true)
            | none => do pure (← zeroValue elem, false) : Sem (Value × Bool)).run tb.P w).andThen fun p w => .ok (if c then .tuple #[p.1, .bool p.2] else p.1) w := by
        intro r hr
        have fin : ∀ w : World, Sem.run tb.P (match (generalizing := false) r with
            | some (_, v) => do
              let x ← pure (v, true)
              pure (if c = true then Value.tuple #[x.1, Value.bool x.2] else x.1)
            | none => do
              let z ← zeroValue elem
              let x ← pure (z, false)
              pure (if c = true then Value.tuple #[x.1, Value.bool x.2] else x.1)) w =
            ((match (generalizing := false) r with
            | some (_, v) => pure (v, true)
            | none => do pure (← zeroValue elem, false) : Sem (Value × Bool)).run tb.P w).andThen fun p w => .ok (if c then .tuple #[p.1, .bool p.2] else p.1) w := by
          intro w
          cases r with
          | none =>
            simp only [Sem.run_bind, Sem.run_pure, Result.andThen_ok]
            cases (zeroValue elem).run tb.P w <;> rfl
          | some p => rfl
        rcases hes with ⟨rfl, rfl⟩ | ⟨r0, clock, rfl, hw⟩
        · simp only [Instr.lookup, Sem.run_bind, und_run ok hd, Result.andThen_ok, Sem.run_pure, hck, findKey_run ok hkd hr]
          exact fin w
        · simp only [Instr.lookup, Sem.run_bind, und_run ok hd, Result.andThen_ok, Sem.run_pure, getObj_run hw (by simp), hck, findKey_run ok hkd hr]
          exact fin w
      split at h2
      · rename_i u hf
        simp only [R.ok.injEq] at h2; subst h2
        rcases findF_sound hk hks hf he with ⟨h3, _⟩ | ⟨j, v0, v', h3, h4, h5, _⟩
        · cases h3
        · cases h3
          refine ⟨_, ?_, fin h5⟩
          rw [run h4]; rfl
      · rename_i hf
        obtain ⟨z, hz, h3⟩ := R.bind_ok h2
        simp only [R.ok.injEq] at h3; subst h3
        obtain ⟨_, _, _, hzv⟩ := zeroF_spec hz
        rcases findF_sound hk hks hf he with ⟨_, h4⟩ | ⟨j, v0, v', h3, _⟩
        · refine ⟨_, ?_, fin (hzv ι)⟩
          rw [run h4]
          simp only [Sem.run_bind, zeroF_run ok hz, Result.andThen_ok, Sem.run_pure]
        · cases h3
      · cases h2
  · cases h

end Go.Am

/-
  The abstract machine AM, part 13: equality; whatever operation that reads memory.
-/
namespace Go.Am
variable {tb : Tab} (ok : TabOk tb) {ι : Inj} {A : Mem} {w : World}

theorem shape_of {l : Loc} {cs : Array Value} {t : TypeId} {fr : Nat × Nat} (h : w.heap[l.blk]? = some (.cells cs t fr)) : w.shape? l.blk = some (t, cs.size) := by
  simp only [World.shape?, h]

theorem frozen_of {b o : Nat} {s : Option Nat} {cs : Array Value} {t : TypeId} (h : w.heap[b]? = some (.cells cs t (0, 0))) : w.frozen? ⟨b, o, s⟩ = false := by
  simp only [World.frozen?, h]
  simp

theorem noView_run {b o : Nat} {s : Option Nat} {x : TypeId × Nat} (h : w.shape? b = some x) (P : Program) : (noView ⟨b, o, s⟩).run P w = .ok () w := by
  simp only [noView, viewAt, Sem.run_bind, run_shape, h, Option.isSome_some, if_true, Sem.run_pure, Result.andThen_ok, Option.isSome_none, Bool.false_eq_true, if_false]

theorem sameAddr_var {b b' o o' : Nat} {cs cs' : Array Value} {t t' : TypeId} (h : w.heap[b]? = some (.cells cs t (0, 0))) (h' : w.heap[b']? = some (.cells cs' t' (0, 0))) (hne : b ≠ b') (P : Program) :
    (sameAddr ⟨b, o, none⟩ ⟨b', o', none⟩).run P w = .ok false w := by
  have hbe : (b == b') = false := by simpa using hne
  have s1 : w.shape? b = some (t, cs.size) := by simp only [World.shape?, h]
  have s2 : w.shape? b' = some (t', cs'.size) := by simp only [World.shape?, h']
  simp only [sameAddr, hbe, Bool.false_eq_true, if_false, Sem.run_bind, run_frozen, frozen_of h, frozen_of h', Result.andThen_ok, Bool.and_self, noView_run s1, noView_run s2, mayBeOne, stringish, run_shape, s1, s2, Sem.run_pure,
    Bool.false_and, Bool.or_self]

theorem ptrEq_sound (hr : Rel ι A w) {a b a' b' : Option Addr} {r : Bool} (h : ptrEq A.get a b = .ok r) (ha : VR ι (.pointer a) (.pointer a')) (hb : VR ι (.pointer b) (.pointer b')) (P : Program) :
    (match a', b' with
      | none, b' => pure b'.isNone
      | some _, none => pure false
      | some a', some b' => sameAddr a' b' : Sem Bool).run P w = .ok r w := by
  cases ha with
  | ptrN =>
    cases hb with
    | ptrN => simp only [ptrEq, R.ok.injEq] at h; subst h; rfl
    | ptr hl => simp only [ptrEq, R.ok.injEq] at h; subst h; rfl
  | ptr hl =>
    cases hb with
    | ptrN => simp only [ptrEq, R.ok.injEq] at h; subst h; rfl
    | ptr hl' =>
      rename_i b o l b' o' l'
      simp only [ptrEq] at h
      cases hbb : Nat.beq b b' with
      | true =>
        obtain rfl := beq_true hbb
        rw [hl] at hl'; cases hl'
        rw [hbb] at h; simp only [cond_true, R.ok.injEq] at h; subst h
        simp only [sameAddr, beq_self_eq_true, if_true, Sem.run_pure]
        congr 1
        rw [Bool.eq_iff_iff]
        simp
      | false =>
        rw [hbb] at h; simp only [cond_false] at h
        split at h
        · rename_i t n fz c t' n' fz' c' hg hg'
          simp only [R.ok.injEq] at h; subst h
          obtain ⟨o1, hw1, cs1, fr1, rfl, _, _, _, _, rfl⟩ := hr.obs _ _ _ hg rfl hl
          obtain ⟨o2, hw2, cs2, fr2, rfl, _, _, _, _, rfl⟩ := hr.obs _ _ _ hg' rfl hl'
          exact sameAddr_var hw1 hw2 (fun he => beq_false hbb (hr.inj _ _ _ _ ⟨_, hg, rfl⟩ ⟨_, hg', rfl⟩ hl hl' he)) P
        · cases h

include ok in
theorem fieldsEq_loop {eq : TypeId → Value → Value → R Bool} {m : TypeId → Value → Value → Sem Bool} (he : ∀ t x x' y y' r, eq t x y = .ok r → VR ι x x' → VR ι y y' → (m t x' y').run tb.P w = .ok r w) {xs ys : List Value} {xs' ys' : Array Value}
    (hx : VRs ι xs xs'.toList) (hy : VRs ι ys ys'.toList) : ∀ {fs : List Field} {r : Bool}, fieldsEq tb eq xs ys fs = .ok r →
    (forIn fs ((none, ()) : Option Bool × Unit) fun f __s =>
      if f.name ≠ "_" then do
        let __do_lift ← part f.type xs' f.offset
        let __do_lift_1 ← part f.type ys' f.offset
        let __do_lift ← m f.type __do_lift __do_lift_1
        if (!__do_lift) = true then pure (ForInStep.done (some false, ())) else pure (ForInStep.yield (none, ()))
      else (pure (ForInStep.yield (none, ())) : Sem (ForInStep (Option Bool × Unit)))).run tb.P w = .ok (if r then none else some false, ()) w
  | [], r, h => by simp only [fieldsEq, R.ok.injEq] at h; subst h; rfl
  | f :: fs, r, h => by
    unfold fieldsEq at h
    cases hn : (f.name == "_") with
    | true => rw [hn] at h; cases h
    | false =>
      rw [hn] at h; simp only [cond_false] at h
      obtain ⟨a, h1, h2⟩ := R.bind_ok h
      obtain ⟨b, h3, h4⟩ := R.bind_ok h2
      obtain ⟨q, h5, h6⟩ := R.bind_ok h4
      obtain ⟨a', e1, r1⟩ := partF_sound ok h1 hx
      obtain ⟨b', e2, r2⟩ := partF_sound ok h3 hy
      have e3 := he _ _ _ _ _ _ h5 r1 r2
      have hn' : f.name ≠ "_" := by simpa using hn
      rw [List.forIn_cons]
      simp only [Sem.run_bind, if_pos hn', e1, e2, e3, Result.andThen_ok]
      cases q with
      | true =>
        simp only [Bool.not_true, Bool.false_eq_true, if_false, Sem.run_pure, Result.andThen_ok]
        exact fieldsEq_loop (eq := eq) he hx hy h6
      | false =>
        simp only [R.ok.injEq] at h6; subst h6
        simp

include ok in
theorem elemsEq_loop {eq : TypeId → Value → Value → R Bool} {m : TypeId → Value → Value → Sem Bool} (he : ∀ t x x' y y' r, eq t x y = .ok r → VR ι x x' → VR ι y y' → (m t x' y').run tb.P w = .ok r w) {xs ys : List Value} {xs' ys' : Array Value}
    (hx : VRs ι xs xs'.toList) (hy : VRs ι ys ys'.toList) {elem : TypeId} {size : Nat} : ∀ {n i : Nat} {r : Bool}, elemsEq tb eq elem size xs ys n i = .ok r →
    (forIn (List.range' i n 1) ((none, ()) : Option Bool × Unit) fun i __s => (do
        let __do_lift ← part elem xs' (i * size)
        let __do_lift_1 ← part elem ys' (i * size)
        let __do_lift ← m elem __do_lift __do_lift_1
        if (!__do_lift) = true then pure (ForInStep.done (some false, ())) else pure (ForInStep.yield (none, ())) : Sem (ForInStep (Option Bool × Unit)))).run tb.P w = .ok (if r then none else some false, ()) w
  | 0, i, r, h => by simp only [elemsEq, R.ok.injEq] at h; subst h; rfl
  | n + 1, i, r, h => by
    unfold elemsEq at h
    obtain ⟨a, h1, h2⟩ := R.bind_ok h
    obtain ⟨b, h3, h4⟩ := R.bind_ok h2
    obtain ⟨q, h5, h6⟩ := R.bind_ok h4
    obtain ⟨a', e1, r1⟩ := partF_sound ok h1 hx
    obtain ⟨b', e2, r2⟩ := partF_sound ok h3 hy
    have e3 := he _ _ _ _ _ _ h5 r1 r2
    rw [List.range'_succ, List.forIn_cons]
    simp only [Sem.run_bind, e1, e2, e3, Result.andThen_ok]
    cases q with
    | true =>
      simp only [Bool.not_true, Bool.false_eq_true, if_false, Sem.run_pure, Result.andThen_ok]
      exact elemsEq_loop (eq := eq) he hx hy h6
    | false =>
      simp only [R.ok.injEq] at h6; subst h6
      simp

include ok in
theorem equalF_sound (hr : Rel ι A w) : ∀ (d : Nat) {t : TypeId} {x x' y y' : Value} {r : Bool}, equalF tb A.get d t x y = .ok r → VR ι x x' → VR ι y y' → ∀ e, d ≤ e → (Op.equalIn e t x' y').run tb.P w = .ok r w
  | 0, t, x, x', y, y', r, h, _, _, _, _ => by cases h
  | d + 1, t, x, x', y, y', r, h, hx, hy, e, hle => by
    obtain ⟨e, rfl⟩ : ∃ e', e = e' + 1 := ⟨e - 1, by omega⟩
    have ih : ∀ {t x x' y y' r}, equalF tb A.get d t x y = .ok r → VR ι x x' → VR ι y y' → (Op.equalIn e t x' y').run tb.P w = .ok r w := fun h hx hy => equalF_sound hr d h hx hy e (by omega)
    unfold equalF at h
    rw [Op.equalIn]
    split at h
    · rename_i a b hd
      cases hx; cases hy
      simp only [R.ok.injEq] at h; subst h
      simp only [Sem.run_bind, und_run ok hd, Result.andThen_ok]
      cases a <;> cases b <;> rfl
    · rename_i k0 k a k' b hd
      cases hx; cases hy
      cases hk : kindEq k k' with
      | false => rw [hk] at h; cases h
      | true =>
        rw [hk] at h; simp only [cond_true, R.ok.injEq] at h; subst h
        obtain rfl := kindEq_eq hk
        simp only [Sem.run_bind, und_run ok hd, Result.andThen_ok, if_true, Sem.run_pure, ieqF_eq]
    · rename_i a b hd
      cases hx; cases hy
      simp only [R.ok.injEq] at h; subst h
      simp only [Sem.run_bind, und_run ok hd, Result.andThen_ok, Sem.run_pure, bytesEq_eq, bytes_beq]
    · rename_i elem a b hd
      obtain ⟨n, h1, h2⟩ := R.bind_ok h
      simp only [Sem.run_bind, und_run ok hd, Result.andThen_ok]
      have hx' : ∃ a', x' = .pointer a' := by cases hx <;> exact ⟨_, rfl⟩
      have hy' : ∃ b', y' = .pointer b' := by cases hy <;> exact ⟨_, rfl⟩
      obtain ⟨a', rfl⟩ := hx'
      obtain ⟨b', rfl⟩ := hy'
      split at h2
      · rename_i a0 b0
        cases hn : Nat.beq n 0 with
        | true => rw [hn] at h2; cases h2
        | false =>
          rw [hn] at h2; simp only [cond_false] at h2
          have := ptrEq_sound hr h2 hx hy tb.P
          cases hx; cases hy
          simp only [Sem.run_bind, sizeF_run ok h1, Result.andThen_ok, if_pos (beq_false hn)]
          exact this
      · have := ptrEq_sound hr h2 hx hy tb.P
        rename_i hne
        cases hx with
        | ptrN => exact this
        | ptr hl =>
          cases hy with
          | ptrN => exact this
          | ptr hl' => exact (hne _ _ rfl rfl).elim
    · rename_i ms hd
      cases hx; cases hy
      simp only [R.ok.injEq] at h; subst h
      simp only [Sem.run_bind, und_run ok hd, Result.andThen_ok]; rfl
    · rename_i ms u z hd
      cases hx; cases hy
      simp only [R.ok.injEq] at h; subst h
      simp only [Sem.run_bind, und_run ok hd, Result.andThen_ok]; rfl
    · rename_i ms u z hd
      cases hx; cases hy
      simp only [R.ok.injEq] at h; subst h
      simp only [Sem.run_bind, und_run ok hd, Result.andThen_ok]; rfl
    · rename_i ms tx vx ty vy hd
      cases hx with
      | iface hx =>
        cases hy with
        | iface hy =>
          simp only [Sem.run_bind, und_run ok hd, Result.andThen_ok]
          cases hb : Nat.beq tx ty with
          | true =>
            rw [hb] at h; simp only [cond_true] at h
            obtain rfl := beq_true hb
            split at h
            · rename_i i hi
              cases hc : i.comparable with
              | false => rw [hc] at h; cases h
              | true =>
                rw [hc] at h; simp only [cond_true] at h
                simp only [ne_eq, not_true_eq_false, if_false, Sem.run_bind, info_run ok hi, Result.andThen_ok, hc, Bool.not_true, Bool.false_eq_true]
                exact ih h hx hy
            · cases h
          | false =>
            rw [hb] at h; simp only [cond_false, R.ok.injEq] at h; subst h
            simp only [ne_eq, if_pos (beq_false hb), Sem.run_pure]
    · rename_i fs xs ys hd
      cases hx with
      | agg hxs =>
        cases hy with
        | agg hys =>
          cases hs : tb.P.stoodInHeld t with
          | true => rw [hs] at h; cases h
          | false =>
            rw [hs] at h; simp only [cond_false] at h
            simp only [Sem.run_bind, und_run ok hd, Result.andThen_ok, run_program, hs, Bool.false_eq_true, if_false]
            rw [← Array.forIn_toList]
            have := fieldsEq_loop ok (m := Op.equalIn e) (fun _ _ _ _ _ _ a b c => ih a b c) hxs hys h
            refine (congrArg (fun q => Result.andThen q _) this).trans ?_
            cases r <;> rfl
    · rename_i len elem xs ys hd
      cases hx with
      | agg hxs =>
        cases hy with
        | agg hys =>
          obtain ⟨n, h1, h2⟩ := R.bind_ok h
          simp only [Sem.run_bind, und_run ok hd, Result.andThen_ok, sizeF_run ok h1]
          rw [Std.Legacy.Range.forIn_eq_forIn_range']
          have := elemsEq_loop ok (m := Op.equalIn e) (fun _ _ _ _ _ _ a b c => ih a b c) hxs hys h2
          have hsz : Std.Legacy.Range.size [:len] = len := by simp [Std.Legacy.Range.size]
          rw [hsz]
          refine (congrArg (fun q => Result.andThen q _) this).trans ?_
          cases r <;> rfl
    · rename_i e0 l c b l' c' hd
      cases hx
      simp only [R.ok.injEq] at h; subst h
      simp only [Sem.run_bind, und_run ok hd, Result.andThen_ok]
      cases hy <;> rfl
    · rename_i e0 a l c l' c' hd
      cases hy
      simp only [R.ok.injEq] at h; subst h
      simp only [Sem.run_bind, und_run ok hd, Result.andThen_ok]
      cases hx <;> rfl
    · rename_i k0 e0 b hd
      cases hx
      simp only [R.ok.injEq] at h; subst h
      simp only [Sem.run_bind, und_run ok hd, Result.andThen_ok]
      cases hy <;> rfl
    · rename_i k0 e0 a hd
      cases hy
      simp only [R.ok.injEq] at h; subst h
      simp only [Sem.run_bind, und_run ok hd, Result.andThen_ok]
      cases hx; rfl
    · rename_i hd
      cases hx; cases hy
      simp only [R.ok.injEq] at h; subst h
      simp only [Sem.run_bind, und_run ok hd, Result.andThen_ok]; rfl
    · rename_i hd
      cases hx
      simp only [R.ok.injEq] at h; subst h
      simp only [Sem.run_bind, und_run ok hd, Result.andThen_ok]
      cases hy <;> rfl
    · rename_i hd
      cases hy
      simp only [R.ok.injEq] at h; subst h
      simp only [Sem.run_bind, und_run ok hd, Result.andThen_ok]
      cases hx <;> rfl
    · cases h

end Go.Am

/-
  The abstract machine AM, part 14: whatever operation that reads memory.
-/
namespace Go.Am
variable {tb : Tab} (ok : TabOk tb) {ι : Inj} {A : Mem} {w : World}

/-- Operands that '==' takes, of a type that is no number's, no text's, no truth's: the model's operator is its 'equal', and its guard lets them by. -/
theorem eq_shape {g : Nat → Option Ob} {d : Nat} {t : TypeId} {ox oy : Operand} {x x' y y' : Value} {r : Bool} (h : equalF tb g d t x y = .ok r) (hb : basicD (tb.und t) = false) (hm : eqMay tb t ox oy x y = true)
    (hx : VR ι x x') (hy : VR ι y y') : (∀ op, (eqGuard op t ox oy x' y').run tb.P w = .ok () w) ∧ binOp .eql t x' y' = (do pure (.bool (← Op.equal t x' y'))) ∧ binOp .neq t x' y' = (do pure (.bool (!(← Op.equal t x' y')))) := by
  have plain : ∀ {a b : Value}, (a = .nilIface → b = .nilIface → False) → (∀ p q, a = .agg p → b = .agg q → False) → ∀ op, (eqGuard op t ox oy a b).run tb.P w = .ok () w := by
    intro a b h1 h2 op
    unfold eqGuard
    cases op <;> first
      | rfl
      | (cases a <;> first
          | rfl
          | (cases b <;> first
              | rfl
              | exact (h1 rfl rfl).elim
              | exact (h2 _ _ rfl rfl).elim))
  have aggs : ∀ {a b : Array Value}, tb.P.eqGuardType tb.P.depth t = false → ∀ op, (eqGuard op t ox oy (.agg a) (.agg b)).run tb.P w = .ok () w := by
    intro a b he op
    unfold eqGuard
    cases op <;> first
      | rfl
      | (simp only [Bool.not_true, Bool.false_eq_true, if_false, Sem.run_bind, run_program, Result.andThen_ok, he, Bool.not_false, if_true, Sem.run_pure])
  have nils : (isConstO ox || isConstO oy) = true → ∀ op, (eqGuard op t ox oy .nilIface .nilIface).run tb.P w = .ok () w := by
    intro he op
    unfold eqGuard
    cases op <;> first
      | rfl
      | (cases ox <;> cases oy <;> first | rfl | (simp [isConstO] at he))
  cases d with
  | zero => cases h
  | succ d =>
    unfold equalF at h
    split at h
    · rename_i hd; rw [hd] at hb; cases hb
    · rename_i hd; rw [hd] at hb; cases hb
    · rename_i hd; rw [hd] at hb; cases hb
    · cases hx <;> cases hy <;> exact ⟨plain (by simp) (by simp), rfl, rfl⟩
    · cases hx; cases hy; exact ⟨nils hm, rfl, rfl⟩
    · cases hx; cases hy; exact ⟨plain (by simp) (by simp), rfl, rfl⟩
    · cases hx; cases hy; exact ⟨plain (by simp) (by simp), rfl, rfl⟩
    · cases hx; cases hy; exact ⟨plain (by simp) (by simp), rfl, rfl⟩
    · cases hx; cases hy; exact ⟨aggs (by simpa [eqMay] using hm), rfl, rfl⟩
    · cases hx; cases hy; exact ⟨aggs (by simpa [eqMay] using hm), rfl, rfl⟩
    · cases hx; cases hy <;> exact ⟨plain (by simp) (by simp), rfl, rfl⟩
    · cases hy; cases hx <;> exact ⟨plain (by simp) (by simp), rfl, rfl⟩
    · cases hx; cases hy <;> exact ⟨plain (by simp) (by simp), rfl, rfl⟩
    · cases hy; cases hx; exact ⟨plain (by simp) (by simp), rfl, rfl⟩
    · cases hx; cases hy; exact ⟨plain (by simp) (by simp), rfl, rfl⟩
    · cases hx; cases hy <;> exact ⟨plain (by simp) (by simp), rfl, rfl⟩
    · cases hy; cases hx <;> exact ⟨plain (by simp) (by simp), rfl, rfl⟩
    · cases h

include ok in
theorem eqF_sound (hr : Rel ι A w) {op : BinOp} {t : TypeId} {ox oy : Operand} {x x' y y' v : Value} (h : eqF tb A.get op t ox oy x y = .ok v) (hb : basicD (tb.und t) = false) (hx : VR ι x x') (hy : VR ι y y') :
    ∃ v', (do eqGuard op t ox oy x' y'; binOp op t x' y' : Sem Value).run tb.P w = .ok v' w ∧ VR ι v v' := by
  unfold eqF at h
  cases hm : eqMay tb t ox oy x y with
  | false => rw [hm] at h; cases h
  | true =>
    rw [hm] at h; simp only [cond_true] at h
    split at h
    · obtain ⟨r, h1, h2⟩ := R.bind_ok h
      simp only [R.ok.injEq] at h2; subst h2
      obtain ⟨hg, he, _⟩ := eq_shape (w := w) h1 hb hm hx hy
      refine ⟨.bool r, ?_, .bool _⟩
      have := equalF_sound ok hr 100 h1 hx hy 10000 (by omega)
      simp only [Sem.run_bind, hg, Result.andThen_ok, he, Op.equal, Op.maxDepth, this, Sem.run_pure]
    · obtain ⟨r, h1, h2⟩ := R.bind_ok h
      simp only [R.ok.injEq] at h2; subst h2
      obtain ⟨hg, _, he⟩ := eq_shape (w := w) h1 hb hm hx hy
      refine ⟨.bool (!r), ?_, .bool _⟩
      have := equalF_sound ok hr 100 h1 hx hy 10000 (by omega)
      simp only [Sem.run_bind, hg, Result.andThen_ok, he, Op.equal, Op.maxDepth, this, Sem.run_pure]
    · cases h

theorem seenAt_run {b o : Nat} {x : TypeId × Nat} (h : w.shape? b = some x) (P : Program) : (Conv.seenAt ⟨b, o, none⟩).run P w = .ok ⟨b, o, none⟩ w := by
  simp only [Conv.seenAt, viewAt, Sem.run_bind, run_shape, h, Option.isSome_some, if_true, Sem.run_pure, Result.andThen_ok]

include ok in
theorem convRF_sound (hr : Rel ι A w) {s d : TypeId} {x x' v : Value} (h : convRF tb A.get s d x = .ok v) (hx : VR ι x x') : ∃ v', (convert s d x').run tb.P w = .ok v' w ∧ VR ι v v' := by
  unfold convRF at h
  split at h
  · rename_i e hs hd
    split at h
    · rename_i he
      obtain ⟨v', e1, r⟩ := toStringF_sound hr h hx tb.P
      refine ⟨v', ?_, r⟩
      have hsl : ∃ a n c, x' = .slice a n c := by
        unfold toStringF at h
        split at h
        · cases hx; exact ⟨_, _, _, rfl⟩
        · cases hx <;> exact ⟨_, _, _, rfl⟩
        · cases h
      obtain ⟨a, n, c, rfl⟩ := hsl
      simp only [convert, Sem.run_bind, und_run ok hs, und_run ok hd, Result.andThen_ok, und_run ok he]
      exact e1
    · cases h
  · rename_i ty a hs hd
    cases hx with
    | ptr hl =>
      rename_i b o l
      simp only at h
      split at h
      · rename_i t n fz c _ hg
        obtain ⟨sz, h1, h2⟩ := R.bind_ok h
        cases hc : Nat.blt o n && Nat.blt 0 sz with
        | false => rw [hc] at h2; cases h2
        | true =>
          rw [hc] at h2; simp only [cond_true, R.ok.injEq] at h2; subst h2
          simp only [Bool.and_eq_true] at hc
          have hlt := blt_true hc.1
          have hsz := blt_true hc.2
          obtain ⟨o1, hw1, cs1, fr1, rfl, hcs, _, hsh, hn, rfl⟩ := hr.obs _ _ _ hg rfl hl
          have sh := shape_of hw1
          refine ⟨_, ?_, .ptr hl⟩
          have hno : ¬ cs1.size ≤ o + l.sh := by omega
          have hsz' : ¬ (sz = 0) := by omega
          simp only [convert, Sem.run_bind, und_run ok hs, und_run ok hd, Result.andThen_ok, Conv.unsafePointer, seenAt_run sh, cellsIn, run_shape, sh, Sem.run_pure, sizeF_run ok h1, ge_iff_le, hno, decide_false, Bool.false_and,
            hsz', Bool.or_self, Bool.false_eq_true, if_false]
      · cases h
  · rename_i ty a hs hd
    cases hx with
    | ptr hl =>
      rename_i b o l
      simp only at h
      split at h
      · rename_i t n fz c _ hg
        obtain ⟨sz, h1, h2⟩ := R.bind_ok h
        cases hc : liesAt tb.P tb.P.depth t (n / tb.P.cellsOf t) o ty 1 with
        | false => rw [hc] at h2; cases h2
        | true =>
          rw [hc] at h2; simp only [cond_true, R.ok.injEq] at h2; subst h2
          obtain ⟨o1, hw1, cs1, fr1, rfl, hcs, _, hsh, hn, rfl⟩ := hr.obs _ _ _ hg rfl hl
          have sh := shape_of hw1
          refine ⟨_, ?_, .ptr hl⟩
          have hlies : liesAt tb.P tb.P.depth t (cs1.size / tb.P.cellsOf t) (o + l.sh) ty 1 = true := by
            rw [hcs, hn, hsh]; exact hc
          have hv : (variablesAt ⟨l.blk, o + l.sh, none⟩ ty 1).run tb.P w = .ok true w := by
            simp only [variablesAt, Sem.run_bind, run_program, run_shape, sh, Result.andThen_ok, Sem.run_pure, hlies]
          simp only [convert, Sem.run_bind, und_run ok hs, und_run ok hd, Result.andThen_ok, Conv.unsafePointer, seenAt_run sh, sizeF_run ok h1, hv, Bool.or_true, if_true, Sem.run_pure]
      · cases h
  · cases h

/-- A package-level variable's address. -/
theorem globF_sound (hr : Rel ι A w) {k : Nat} {v : Value} (h : globF A.get k = .ok v) : VR ι v (.pointer (some ⟨k, 0, none⟩)) := by
  unfold globF at h
  split at h
  · rename_i t fz c hg
    cases hq : Nat.beq fz (GB k) with
    | false => rw [hq] at h; cases h
    | true =>
      rw [hq, cond_true] at h
      simp only [R.ok.injEq] at h
      subst h
      obtain rfl := Nat.eq_of_beq_eq_true hq
      obtain ⟨l, hl, h1, h2⟩ := hr.gl _ _ _ _ hg
      have := VR.ptr (o := 0) hl
      rw [h1, h2] at this
      exact this
  · cases h

include ok in
theorem rOp_sound (hr : Rel ι A w) {n : Nat} {τ : T Value} {a : Act} {o : Oper} {v : Value} (h : rOp tb τ A.get o.op = .ok v) (hc : cls tb o.op = .Rd) (ht : TR ι n τ a.tmps) :
    ∃ v', (execOp a.eval o).run tb.P w = .ok (.value v') w ∧ VR ι v v' := by
  have wrap : ∀ {s : Sem Value}, (∃ v', s.run tb.P w = .ok v' w ∧ VR ι v v') → ∃ v', (do pure (Next.value (← s)) : Sem Next).run tb.P w = .ok (.value v') w ∧ VR ι v v' := by
    rintro s ⟨v', e, r⟩
    exact ⟨v', by simp only [Sem.run_bind, e, Result.andThen_ok, Sem.run_pure], r⟩
  unfold rOp at h
  split at h <;> rename_i hop <;> simp only [execOp, hop]
  · split at h
    · obtain ⟨x, h1, h2⟩ := R.bind_ok h
      exact wrap (loadF_sound ok hr h2 (globF_sound hr h1))
    · obtain ⟨x, h1, h2⟩ := R.bind_ok h
      exact wrap (loadF_sound ok hr h2 (ev_sound h1 ht))
  · split at h
    · obtain ⟨x, h1, h2⟩ := R.bind_ok h
      obtain ⟨i, h3, h4⟩ := R.bind_ok h2
      obtain ⟨v', e, r⟩ := indexAddrF_sound ok h4 (globF_sound hr h1) (ev_sound h3 ht)
      exact wrap ⟨v', e w, r⟩
    · cases h
  · obtain ⟨x, h1, h2⟩ := R.bind_ok h
    obtain ⟨k, h3, h4⟩ := R.bind_ok h2
    exact wrap (lookupF_sound ok hr h4 (ev_sound h1 ht) (ev_sound h3 ht))
  · rename_i op ty x y yt
    obtain ⟨a', h1, h2⟩ := R.bind_ok h
    obtain ⟨b', h3, h4⟩ := R.bind_ok h2
    have hb : basicD (tb.und ty) = false := by
      rw [hop] at hc
      simp only [cls] at hc
      split at hc
      · cases hbb : basicD (tb.und ty) with
        | false => rfl
        | true => rw [hbb] at hc; cases hc
      · cases hbb : basicD (tb.und ty) with
        | false => rfl
        | true => rw [hbb] at hc; cases hc
      · cases hc
    exact wrap (eqF_sound ok hr h4 hb (ev_sound h1 ht) (ev_sound h3 ht))
  · obtain ⟨x, h1, h2⟩ := R.bind_ok h
    exact wrap (convRF_sound ok hr h2 (ev_sound h1 ht))
  · rename_i c
    split at h
    · rename_i hcal
      obtain ⟨args, h1, h2⟩ := R.bind_ok h
      have ha := evs_sound h1 ht
      split at h2
      · rename_i x xs
        obtain ⟨es, h3, h4⟩ := R.bind_ok h2
        simp only [R.ok.injEq] at h4; subst h4
        obtain ⟨x', t', e, hx, _⟩ := ha.cons_inv
        obtain ⟨es', he, hes⟩ := entriesF_sound hr h3 hx
        have hmap : ∃ ty k e, c.argTypes[0]? = some ty ∧ tb.und ty = some (.map k e) := by
          rw [hop] at hc
          simp only [cls, hcal] at hc
          split at hc
          · rename_i t l hts
            split at hc
            · rename_i k e hd
              exact ⟨t, k, e, by rw [← Array.getElem?_toList, hts]; rfl, hd⟩
            · cases hc
          · cases hc
        obtain ⟨ty, mk, me, hty, hd⟩ := hmap
        have hx0 : (c.args.map a.eval)[0]? = some x' := by
          rw [← Array.getElem?_toList, Array.toList_map, e]; rfl
        refine ⟨_, ?_, .int .i64 (.ofNat es.length)⟩
        have hlen : es'.size = es.length := by simpa using he.length
        simp only [resolve, hcal, Sem.run_bind, Sem.run_pure, Result.andThen_ok, invoke, builtin, Builtin.len_, hty, hx0, und_run ok hd]
        rcases hes with ⟨rfl, rfl⟩ | ⟨r, clock, rfl, hw⟩
        · simp only [Sem.run_pure, Result.andThen_ok, ← hlen]; rfl
        · simp only [Sem.run_bind, getObj_run hw (by simp), Result.andThen_ok, Sem.run_pure, hlen]; rfl
      · cases h2
    · cases h
  · cases h

end Go.Am
