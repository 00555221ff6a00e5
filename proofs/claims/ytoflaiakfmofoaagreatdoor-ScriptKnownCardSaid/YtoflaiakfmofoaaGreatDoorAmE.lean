/-
  The abstract machine AM: a machine for programs of the model that draws nothing and moves no block; and the proof that what it answers the model answers.
  Part E: no conditions.
-/
import Derived.Test.YtoflaiakfmofoaaGreatDoorAmD
import Derived.Lib.Overlaps
import Derived.Eval
import Derived.Below
import Derived.ChangeSame
import Derived.ProofKit
import Derived.OpenShut

/-
  The abstract machine AM, part 35: a run in an open order's canonical way gives a row of states.
-/
namespace Go.Am
variable {tb : Tab} {ih : Code → St → R (Ex × St)}

noncomputable def setD (t : T Value) (dst : Option Tmp) (v : Value) : T Value :=
  match dst with
  | none => t
  | some d => t.set d v

theorem get_setD (t : T Value) (dst : Option Tmp) (v : Value) (x : Nat) : (setD t dst v).get x = if dst = some x then some v else t.get x := by
  cases dst with
  | none => simp [setD]
  | some d =>
    simp only [setD, T.get_set, Option.some.injEq]
    by_cases h : x = d
    · simp [h]
    · rw [if_neg h, if_neg (fun e => h e.symm)]

theorem putT_at {s : St} {dst : Option Tmp} {v : Value} {k : St → R (Ex × St)} {r : Ex × St} (h : putT s dst v k = .ok r) :
    k { s with t := setD s.t dst v } = .ok r ∧ ∀ d, dst = some d → d < s.n := by
  unfold putT at h
  split at h
  · exact ⟨h, by simp⟩
  · rename_i d
    cases hb : Nat.blt d s.n with
    | false => rw [hb] at h; cases h
    | true =>
      rw [hb] at h; simp only [cond_true, fVal_eq] at h
      exact ⟨h, fun d' hd => by cases hd; exact blt_true hb⟩

theorem putT_mk {s : St} {dst : Option Tmp} {v : Value} {k : St → R (Ex × St)} (hd : ∀ d, dst = some d → d < s.n) : putT s dst v k = k { s with t := setD s.t dst v } := by
  unfold putT
  cases dst with
  | none => rfl
  | some d =>
    have : Nat.blt d s.n = true := by rw [Nat.blt_eq]; exact hd d rfl
    simp only [this, cond_true, fVal_eq, setD]

theorem hideF_next : ∀ (bs : List Nat) (A : Mem), (hideF bs A).next = A.next
  | [], _ => rfl
  | b :: bs, A => by rw [hideF, hideF_next bs, next_set]
theorem hideF_get : ∀ (bs : List Nat) (A : Mem) (x : Nat), (hideF bs A).get x = if x ∈ bs then some .dead else A.get x
  | [], _, _ => by simp [hideF]
  | b :: bs, A, x => by
    rw [hideF, hideF_get bs, get_setMem]
    by_cases h : x ∈ bs
    · simp [h]
    · by_cases h2 : x = b <;> simp [h, h2]
theorem backF_next {g : Nat → Option Ob} : ∀ {bs : List Nat} {A A' : Mem}, backF g bs A = .ok A' → A'.next = A.next
  | [], A, A', h => by simp only [backF, R.ok.injEq] at h; rw [h]
  | b :: bs, A, A', h => by
    unfold backF at h
    split at h
    · rw [backF_next h, next_set]
    · cases h
theorem backF_get {g : Nat → Option Ob} : ∀ {bs : List Nat} {A A' : Mem}, backF g bs A = .ok A' → (∀ x ∈ bs, ∃ o, g x = some o) ∧ ∀ x, A'.get x = if x ∈ bs then g x else A.get x
  | [], A, A', h => by simp only [backF, R.ok.injEq] at h; subst h; exact ⟨by simp, by simp⟩
  | b :: bs, A, A', h => by
    unfold backF at h
    split at h
    · rename_i o ho
      obtain ⟨h1, h2⟩ := backF_get h
      refine ⟨fun x hx => ?_, fun x => ?_⟩
      · rcases List.mem_cons.1 hx with rfl | hx
        · exact ⟨o, ho⟩
        · exact h1 x hx
      · rw [h2, get_setMem]
        by_cases hx : x ∈ bs
        · simp [hx]
        · by_cases hb : x = b
          · subst hb; simp [hx, ho]
          · simp [hx, hb]
    · cases h

/-- What one operation makes of a state; 'w': whether it is wanted; 'bs': what was hidden from it. -/
structure StepI (tb : Tab) (ih : Code → St → R (Ex × St)) (ops : List Oper) (o : Oper) (s s1 : St) (w : Bool) (v : Value) (bs : List Nat) : Prop where
  want : wantF ops o s.t = .ok w
  dst : ∀ d, o.dst = some d → d < s.n
  to : s1 = { s with m := s1.m, t := setD s.t o.dst v }
  no : w = false → v = unitV ∧ s1.m = s.m
  kind : w = true → match cls tb o.op with
       | .P => pOp tb s.t o.op = .ok v ∧ s1.m = s.m
       | .Rd => rOp tb s.t s.m.get o.op = .ok v ∧ s1.m = s.m
       | .Al => ∃ ob way, aOp tb s.t o.op = .ok (ob, way) ∧ s1.m = s.m.alloc ob ∧ v = way.at s.m.next
       | .L => ∃ A1, Does tb ih o s.t (hideF bs s.m) v A1 ∧ backF s.m.get bs A1 = .ok s1.m

theorem reread_ok {g : Nat → Option Ob} {x : Rec} (h : reread tb g x = true) : rOp tb x.t g x.o = .ok x.v := by
  unfold reread at h
  split at h
  · rename_i v hv
    rw [hv, sameV_eq _ _ _ h]
  · cases h

theorem pairIn_of_mem {r l : Nat} {fl : List (Nat × Nat)} (h : (r, l) ∈ fl) : pairIn r l fl = true :=
  List.any_eq_true.2 ⟨_, h, by simp⟩

/-- A memory with what makers have laid since. -/
def Xt (tb : Tab) (ops : Array Oper) (st : Nat → St) (wb : Nat → Bool) (M : Mem) (i q : Nat) (A : Mem) : Prop :=
  ∀ b ob, A.get b = some ob → M.get b = some ob ∨ ∃ p o, i ≤ p ∧ p < q ∧ ops[p]? = some o ∧ wb p = true ∧ cls tb o.op = .Al ∧ b = (st p).m.next ∧ (st (p + 1)).m.get b = some ob
theorem Xt.self {ops : Array Oper} {st : Nat → St} {wb : Nat → Bool} {M : Mem} {i q : Nat} : Xt tb ops st wb M i q M := fun _ _ h => .inl h
theorem Xt.up {ops : Array Oper} {st st' : Nat → St} {wb wb' : Nat → Bool} {M M' A : Mem} {i j q : Nat} (h : Xt tb ops st wb M j q A) (hij : i ≤ j) (hs : ∀ p, j ≤ p → st' p = st p) (hw : ∀ p, j ≤ p → wb' p = wb p)
    (hM : ∀ b ob, M.get b = some ob → M'.get b = some ob ∨ ∃ p o, i ≤ p ∧ p < q ∧ ops[p]? = some o ∧ wb' p = true ∧ cls tb o.op = .Al ∧ b = (st' p).m.next ∧ (st' (p + 1)).m.get b = some ob) : Xt tb ops st' wb' M' i q A := by
  intro b ob hb
  rcases h b ob hb with h1 | ⟨p, o, h1, h2, h3, h4, h5, h6, h7⟩
  · exact hM b ob h1
  · exact .inr ⟨p, o, by omega, h2, h3, by rw [hw p h1]; exact h4, h5, by rw [hs p h1]; exact h6, by rw [hs (p + 1) (by omega)]; exact h7⟩

/-- The row of states of a run, from place i on; floating readers answer alike in each memory in which they may be carried out; what a floating maker lays is hidden. -/
structure Row (tb : Tab) (ih : Code → St → R (Ex × St)) (ops : Array Oper) (fl : List (Nat × Nat)) (i : Nat) (st : Nat → St) (wb : Nat → Bool) (vv : Nat → Value) (hb : Nat → List Nat) : Prop where
  step : ∀ p o, i ≤ p → ops[p]? = some o → StepI tb ih ops.toList o (st p) (st (p + 1)) (wb p) (vv p) (hb p)
  late : ∀ p q o o', i ≤ p → p < q → ops[p]? = some o → ops[q]? = some o' → wb p = true → wb q = true → cls tb o.op = .Rd → cls tb o'.op = .L → (p, q) ∈ fl → rOp tb (st p).t (st (q + 1)).m.get o.op = .ok (vv p)
  early : ∀ p q o o', i ≤ p → p < q → ops[p]? = some o → ops[q]? = some o' → wb p = true → wb q = true → cls tb o.op = .L → cls tb o'.op = .Rd → (q, p) ∈ fl → ∃ A, Xt tb ops st wb (st p).m p q A ∧ rOp tb (st q).t A.get o'.op = .ok (vv q)
  float : ∀ p q o o', i ≤ p → p < q → ops[p]? = some o → ops[q]? = some o' → wb p = true → wb q = true → cls tb o.op = .Al → cls tb o'.op = .L → (p, q) ∈ fl → (st p).m.next ∈ hb q

/-- With what has been read, the memories ahead of changers, and what was laid, so far. -/
structure RowR (tb : Tab) (ih : Code → St → R (Ex × St)) (ops : Array Oper) (fl : List (Nat × Nat)) (i : Nat) (mems : List (Nat × Mem)) (recs : List Rec) (mks : List (Nat × Nat)) (st : Nat → St) (wb : Nat → Bool) (vv : Nat → Value) (hb : Nat → List Nat) : Prop where
  row : Row tb ih ops fl i st wb vv hb
  recs : ∀ x ∈ recs, ∀ q o', i ≤ q → ops[q]? = some o' → wb q = true → cls tb o'.op = .L → (x.i, q) ∈ fl → rOp tb x.t (st (q + 1)).m.get x.o = .ok x.v
  mems : ∀ m ∈ mems, ∀ q o', i ≤ q → ops[q]? = some o' → wb q = true → cls tb o'.op = .Rd → (q, m.1) ∈ fl → ∃ A, Xt tb ops st wb m.2 i q A ∧ rOp tb (st q).t A.get o'.op = .ok (vv q)
  mks : ∀ m ∈ mks, ∀ q o', i ≤ q → ops[q]? = some o' → wb q = true → cls tb o'.op = .L → (m.1, q) ∈ fl → m.2 ∈ hb q

theorem RowR.cons {ops : Array Oper} {fl : List (Nat × Nat)} {i : Nat} {o : Oper} {s : St} {w : Bool} {v : Value} {bs : List Nat} {st : Nat → St} {wb : Nat → Bool} {vv : Nat → Value} {hb : Nat → List Nat}
    {mems mems' : List (Nat × Mem)} {recs recs' : List Rec} {mks mks' : List (Nat × Nat)}
    (ho : ops[i]? = some o) (h : RowR tb ih ops fl (i + 1) mems' recs' mks' st wb vv hb) (hs : StepI tb ih ops.toList o s (st (i + 1)) w v bs)
    (hm : ∀ m ∈ mems, ∃ M, (m.1, M) ∈ mems' ∧ ∀ b ob, M.get b = some ob → m.2.get b = some ob ∨ (w = true ∧ cls tb o.op = .Al ∧ b = s.m.next ∧ (st (i + 1)).m.get b = some ob)) (hr : ∀ x ∈ recs, x ∈ recs') (hk : ∀ x ∈ mks, x ∈ mks')
    (hR : w = true → cls tb o.op = .Rd → ⟨i, s.t, o.op, v⟩ ∈ recs' ∧ ∀ m ∈ mems, (i, m.1) ∈ fl → rOp tb s.t m.2.get o.op = .ok v)
    (hL : w = true → cls tb o.op = .L → (i, s.m) ∈ mems' ∧ (∀ x ∈ recs, (x.i, i) ∈ fl → rOp tb x.t (st (i + 1)).m.get x.o = .ok x.v) ∧ ∀ m ∈ mks, (m.1, i) ∈ fl → m.2 ∈ bs)
    (hA : w = true → cls tb o.op = .Al → (i, s.m.next) ∈ mks') :
    RowR tb ih ops fl i mems recs mks (fun p => if p ≤ i then s else st p) (fun p => if p ≤ i then w else wb p) (fun p => if p ≤ i then v else vv p) (fun p => if p ≤ i then bs else hb p) := by
  have hst : ∀ p, i < p → (if p ≤ i then s else st p) = st p := fun p hp => if_neg (by omega)
  have hwb : ∀ p, i < p → (if p ≤ i then w else wb p) = wb p := fun p hp => if_neg (by omega)
  have hvv : ∀ p, i < p → (if p ≤ i then v else vv p) = vv p := fun p hp => if_neg (by omega)
  have hhb : ∀ p, i < p → (if p ≤ i then bs else hb p) = hb p := fun p hp => if_neg (by omega)
  refine ⟨⟨fun p o' hp ho' => ?_, fun p q op oq hp hpq hop hoq hwp hwq hcp hcq hfl => ?_, fun p q op oq hp hpq hop hoq hwp hwq hcp hcq hfl => ?_, fun p q op oq hp hpq hop hoq hwp hwq hcp hcq hfl => ?_⟩,
    fun x hx q oq hq hoq hwq hcq hfl => ?_, fun m hmm q oq hq hoq hwq hcq hfl => ?_, fun m hmm q oq hq hoq hwq hcq hfl => ?_⟩
  · by_cases he : p = i
    · subst he
      rw [ho] at ho'; cases ho'
      have h3 : ¬ p + 1 ≤ p := by omega
      simp only [h3, if_false, Nat.le_refl, if_true]
      exact hs
    · have h1 : ¬ p ≤ i := by omega
      have h2 : ¬ p + 1 ≤ i := by omega
      simp only [h1, h2, if_false]
      exact h.row.step p o' (by omega) ho'
  · simp only [hwb q (by omega)] at hwq
    simp only [hst (q + 1) (by omega)]
    by_cases he : p = i
    · subst he
      rw [ho] at hop; cases hop
      simp only [Nat.le_refl, if_true] at hwp ⊢
      exact h.recs _ (hR hwp hcp).1 q oq (by omega) hoq hwq hcq hfl
    · simp only [hwb p (by omega)] at hwp
      simp only [hst p (by omega), hvv p (by omega)]
      exact h.row.late p q op oq (by omega) hpq hop hoq hwp hwq hcp hcq hfl
  · simp only [hwb q (by omega)] at hwq
    simp only [hst q (by omega), hvv q (by omega)]
    by_cases he : p = i
    · subst he
      rw [ho] at hop; cases hop
      simp only [Nat.le_refl, if_true] at hwp ⊢
      obtain ⟨A, hA, hrd⟩ := h.mems _ (hL hwp hcp).1 q oq (by omega) hoq hwq hcq hfl
      exact ⟨A, hA.up (Nat.le_succ _) (fun x hx => hst x hx) (fun x hx => hwb x hx) fun _ _ hb => .inl hb, hrd⟩
    · simp only [hwb p (by omega)] at hwp
      simp only [hst p (by omega)]
      obtain ⟨A, hA, hrd⟩ := h.row.early p q op oq (by omega) hpq hop hoq hwp hwq hcp hcq hfl
      exact ⟨A, hA.up (Nat.le_refl _) (fun x hx => hst x (by omega)) (fun x hx => hwb x (by omega)) fun _ _ hb => .inl hb, hrd⟩
  · simp only [hwb q (by omega)] at hwq
    simp only [hhb q (by omega)]
    by_cases he : p = i
    · subst he
      rw [ho] at hop; cases hop
      simp only [Nat.le_refl, if_true] at hwp ⊢
      exact h.mks _ (hA hwp hcp) q oq (by omega) hoq hwq hcq hfl
    · simp only [hwb p (by omega)] at hwp
      simp only [hst p (by omega)]
      exact h.row.float p q op oq (by omega) hpq hop hoq hwp hwq hcp hcq hfl
  · simp only [hst (q + 1) (by omega)]
    by_cases he : q = i
    · subst he
      rw [ho] at hoq; cases hoq
      simp only [Nat.le_refl, if_true] at hwq
      exact (hL hwq hcq).2.1 x hx hfl
    · simp only [hwb q (by omega)] at hwq
      exact h.recs x (hr x hx) q oq (by omega) hoq hwq hcq hfl
  · by_cases he : q = i
    · subst he
      rw [ho] at hoq; cases hoq
      simp only [Nat.le_refl, if_true] at hwq ⊢
      exact ⟨m.2, .self, (hR hwq hcq).2 m hmm hfl⟩
    · simp only [hwb q (by omega)] at hwq
      simp only [hst q (by omega), hvv q (by omega)]
      obtain ⟨M, hM, hMb⟩ := hm m hmm
      obtain ⟨A, hA, hrd⟩ := h.mems _ hM q oq (by omega) hoq hwq hcq hfl
      refine ⟨A, hA.up (Nat.le_succ _) (fun x hx => hst x hx) (fun x hx => hwb x hx) fun b ob hb => ?_, hrd⟩
      rcases hMb b ob hb with h1 | ⟨h1, h2, h3, h4⟩
      · exact .inl h1
      · refine .inr ⟨i, o, Nat.le_refl _, by omega, ho, ?_, h2, ?_, ?_⟩
        · simp only [Nat.le_refl, if_true]; exact h1
        · simp only [Nat.le_refl, if_true]; exact h3
        · simp only [hst (i + 1) (by omega)]; exact h4
  · by_cases he : q = i
    · subst he
      rw [ho] at hoq; cases hoq
      simp only [Nat.le_refl, if_true] at hwq ⊢
      exact (hL hwq hcq).2.2 m hmm hfl
    · simp only [hwb q (by omega)] at hwq
      simp only [hhb q (by omega)]
      exact h.mks m (hk m hmm) q oq (by omega) hoq hwq hcq hfl

theorem addB_mem {o : Oper} {b : Nat} {x : Option Ob} {mems : List (Nat × Mem)} {m : Nat × Mem} {A : Mem} {w : Bool} (hw : w = true) (hc : cls tb o.op = .Al) (hx : A.get b = x) (h : m ∈ mems) :
    ∃ M, (m.1, M) ∈ addB b x mems ∧ ∀ c ob, M.get c = some ob → m.2.get c = some ob ∨ (w = true ∧ cls tb o.op = .Al ∧ c = b ∧ A.get c = some ob) := by
  cases x with
  | none => exact ⟨m.2, h, fun _ _ hb => .inl hb⟩
  | some y =>
    refine ⟨m.2.set b y, List.mem_map.2 ⟨m, h, rfl⟩, fun c ob hb => ?_⟩
    rw [get_setMem] at hb
    split at hb
    · rename_i e
      subst e
      cases hb
      exact .inr ⟨hw, hc, rfl, hx⟩
    · exact .inl hb

theorem row_of_runD {ops : Array Oper} {fl : List (Nat × Nat)} : ∀ (l : List Oper) (i : Nat), (∀ j, l[j]? = ops[i + j]?) → ∀ {mems : List (Nat × Mem)} {recs : List Rec} {mks : List (Nat × Nat)} {s s' : St},
    runD tb ih ops.toList fl l i mems recs mks s = .ok (.nrm, s') → ∃ st wb vv hb, st i = s ∧ st (i + l.length) = s' ∧ RowR tb ih ops fl i mems recs mks st wb vv hb
  | [], i, hl, mems, recs, mks, s, s', h => by
    have h' : R.ok (Ex.nrm, s) = R.ok (Ex.nrm, s') := h
    simp only [R.ok.injEq, Prod.mk.injEq, true_and] at h'
    have hno : ∀ p o, i ≤ p → ops[p]? = some o → False := fun p o hp ho => by
      have := hl (p - i)
      rw [show i + (p - i) = p by omega, ho] at this
      cases this
    exact ⟨fun _ => s, fun _ => false, fun _ => unitV, fun _ => [], rfl, h', ⟨fun p o hp ho => (hno p o hp ho).elim, fun p _ o _ hp _ ho => (hno p o hp ho).elim, fun p _ o _ hp _ ho => (hno p o hp ho).elim, fun p _ o _ hp _ ho => (hno p o hp ho).elim⟩,
      fun _ _ p o hp ho => (hno p o hp ho).elim, fun _ _ p o hp ho => (hno p o hp ho).elim, fun _ _ p o hp ho => (hno p o hp ho).elim⟩
  | o :: l, i, hl, mems, recs, mks, s, s', h => by
    have ho : ops[i]? = some o := by have := hl 0; simpa using this.symm
    have hl' : ∀ j, l[j]? = ops[i + 1 + j]? := fun j => by
      have := hl (j + 1)
      rw [show i + 1 + j = i + (j + 1) by omega]; simpa using this
    have h' : ((wantF ops.toList o s.t).bind fun w =>
      bif w then
        match cls tb o.op with
        | .L => opF tb ih o { s with m := hideF ((mks.filter fun x => pairIn x.1 i fl).map (·.2)) s.m } fun s' =>
          (backF s.m.get ((mks.filter fun x => pairIn x.1 i fl).map (·.2)) s'.m).bind fun A =>
          bif (recs.filter fun x => pairIn x.i i fl).all (reread tb A.get) then runD tb ih ops.toList fl l (i + 1) ((i, s.m) :: mems) recs mks { s' with m := A } else .no 310
        | .Rd => (rOp tb s.t s.m.get o.op).bind fun v =>
          bif (mems.filter fun m => pairIn i m.1 fl).all (fun m => reread tb m.2.get ⟨i, s.t, o.op, v⟩) then putT s o.dst v (runD tb ih ops.toList fl l (i + 1) mems (⟨i, s.t, o.op, v⟩ :: recs) mks) else .no 311
        | .Al => opF tb ih o s fun s' => runD tb ih ops.toList fl l (i + 1) (addB s.m.next (s'.m.get s.m.next) mems) recs ((i, s.m.next) :: mks) s'
        | .P => opF tb ih o s (runD tb ih ops.toList fl l (i + 1) mems recs mks)
      else putT s o.dst unitV (runD tb ih ops.toList fl l (i + 1) mems recs mks)) = .ok (.nrm, s') := h
    clear h
    obtain ⟨w, h1, h2⟩ := R.bind_ok h'
    clear h'
    have fin : ∀ {st : Nat → St} {wb : Nat → Bool} {vv : Nat → Value} {hb : Nat → List Nat} {w : Bool} {v : Value} {bs : List Nat}, st (i + 1 + l.length) = s' →
        RowR tb ih ops fl i mems recs mks (fun p => if p ≤ i then s else st p) (fun p => if p ≤ i then w else wb p) (fun p => if p ≤ i then v else vv p) (fun p => if p ≤ i then bs else hb p) →
        ∃ st wb vv hb, st i = s ∧ st (i + (o :: l).length) = s' ∧ RowR tb ih ops fl i mems recs mks st wb vv hb := by
      intro st wb vv hb w v bs e h
      refine ⟨_, _, _, _, by simp, ?_, h⟩
      have : ¬ i + (o :: l).length ≤ i := by simp
      simp only [this, if_false]
      rw [← e]; congr 1; simp only [List.length_cons]; omega
    cases w with
    | false =>
      rw [cond_false] at h2
      obtain ⟨hk, hd⟩ := putT_at h2
      obtain ⟨st, wb, vv, hb, e1, e2, hr⟩ := row_of_runD l (i + 1) hl' hk
      exact fin e2 (hr.cons (w := false) (v := unitV) (bs := []) ho ⟨h1, hd, by rw [e1], fun _ => ⟨rfl, by rw [e1]⟩, by simp⟩ (fun m h => ⟨m.2, h, fun _ _ hb => .inl hb⟩) (fun _ h => h) (fun _ h => h) (by simp) (by simp) (by simp))
    | true =>
      rw [cond_true] at h2
      split at h2
      · rename_i hc
        rcases opF_does h2 with ⟨v, s1, h3⟩ | ⟨v, A, hp, hdo, _⟩
        · cases h3
        · obtain ⟨hk, hd⟩ := putT_at hp
          obtain ⟨A', hb', h5⟩ := R.bind_ok hk
          simp only at h5
          cases hq : (recs.filter fun x => pairIn x.i i fl).all (reread tb A'.get) with
          | false => rw [hq] at h5; cases h5
          | true =>
            rw [hq, cond_true] at h5
            obtain ⟨st, wb, vv, hb, e1, e2, hr⟩ := row_of_runD l (i + 1) hl' h5
            have hm1 : (st (i + 1)).m = A' := by rw [e1]
            refine fin e2 (hr.cons (w := true) (v := v) (bs := (mks.filter fun x => pairIn x.1 i fl).map (·.2)) ho ⟨h1, hd, by rw [e1], by simp, fun _ => ?_⟩ (fun m h => ⟨m.2, List.mem_cons_of_mem _ h, fun _ _ hb => .inl hb⟩) (fun _ h => h) (fun _ h => h)
              (fun _ hc' => by rw [hc] at hc'; cases hc') (fun _ _ => ⟨List.mem_cons_self, fun x hx hfl => ?_, fun m hm hfl => ?_⟩) (fun _ hc' => by rw [hc] at hc'; cases hc'))
            · rw [hc]
              exact ⟨A, hdo, by rw [hm1]; exact hb'⟩
            · rw [hm1]
              exact reread_ok (List.all_eq_true.1 hq x (List.mem_filter.2 ⟨hx, pairIn_of_mem hfl⟩))
            · exact List.mem_map.2 ⟨m, List.mem_filter.2 ⟨hm, pairIn_of_mem hfl⟩, rfl⟩
      · rename_i hc
        obtain ⟨v, h3, h4⟩ := R.bind_ok h2
        cases hq : (mems.filter fun m => pairIn i m.1 fl).all (fun m => reread tb m.2.get ⟨i, s.t, o.op, v⟩) with
        | false => rw [hq] at h4; cases h4
        | true =>
          rw [hq, cond_true] at h4
          obtain ⟨hk, hd⟩ := putT_at h4
          obtain ⟨st, wb, vv, hb, e1, e2, hr⟩ := row_of_runD l (i + 1) hl' hk
          refine fin e2 (hr.cons (w := true) (v := v) (bs := []) ho ⟨h1, hd, by rw [e1], by simp, fun _ => ?_⟩ (fun m h => ⟨m.2, h, fun _ _ hb => .inl hb⟩) (fun _ h => List.mem_cons_of_mem _ h) (fun _ h => h)
              (fun _ _ => ⟨List.mem_cons_self, fun m hm hfl => ?_⟩) (fun _ hc' => by rw [hc] at hc'; cases hc') (fun _ hc' => by rw [hc] at hc'; cases hc'))
          · rw [hc]
            exact ⟨h3, by rw [e1]⟩
          · exact reread_ok (List.all_eq_true.1 hq m (List.mem_filter.2 ⟨hm, pairIn_of_mem hfl⟩))
      · rename_i hc
        rcases opF_does h2 with ⟨v, s1, h3⟩ | ⟨v, A, hp, hdo, hkd⟩
        · cases h3
        · obtain ⟨hk, hd⟩ := putT_at hp
          obtain ⟨st, wb, vv, hb, e1, e2, hr⟩ := row_of_runD l (i + 1) hl' hk
          have hm1 : (st (i + 1)).m = A := by rw [e1]
          refine fin e2 (hr.cons (w := true) (v := v) (bs := []) ho ⟨h1, hd, by rw [e1], by simp, fun _ => ?_⟩ (fun m h => addB_mem (w := true) rfl hc (by rw [e1]) h) (fun _ h => h) (fun _ h => List.mem_cons_of_mem _ h)
              (fun _ hc' => by rw [hc] at hc'; cases hc') (fun _ hc' => by rw [hc] at hc'; cases hc') (fun _ _ => List.mem_cons_self))
          rw [hc] at hkd ⊢
          simp only at hkd ⊢
          obtain ⟨ob, way, k1, k2, k3⟩ := hkd
          exact ⟨ob, way, k1, by rw [hm1, k2], k3⟩
      · rename_i hc
        rcases opF_does h2 with ⟨v, s1, h3⟩ | ⟨v, A, hp, hdo, hkd⟩
        · cases h3
        · obtain ⟨hk, hd⟩ := putT_at hp
          obtain ⟨st, wb, vv, hb, e1, e2, hr⟩ := row_of_runD l (i + 1) hl' hk
          have hm1 : (st (i + 1)).m = A := by rw [e1]
          refine fin e2 (hr.cons (w := true) (v := v) (bs := []) ho ⟨h1, hd, by rw [e1], by simp, fun _ => ?_⟩ (fun m h => ⟨m.2, h, fun _ _ hb => .inl hb⟩) (fun _ h => h) (fun _ h => h)
              (fun _ hc' => by rw [hc] at hc'; cases hc') (fun _ hc' => by rw [hc] at hc'; cases hc') (fun _ hc' => by rw [hc] at hc'; cases hc'))
          rw [hc] at hkd ⊢
          simp only at hkd ⊢
          exact ⟨hkd.1, by rw [hm1, hkd.2]⟩

end Go.Am

/-
  The abstract machine AM, part 36: which operations are ahead of which; cuts; memory at a cut.
-/
namespace Go.Am
variable {tb : Tab} {ih : Code → St → R (Ex × St)}

/-- What the check of an open order says, with 'ah k i': k must come ahead of i. -/
structure Stat (tb : Tab) (ops : Array Oper) (fl : List (Nat × Nat)) (ah : Nat → Nat → Prop) : Prop where
  ap : ∀ i j oi oj, i < j → ops[i]? = some oi → ops[j]? = some oj → ah i j ∨ ((∀ x, oi.dst = some x → oj.dst ≠ some x) ∧ (∀ x, oi.dst = some x → x ∉ readsOp ops.toList oj) ∧ (∀ x, x ∈ readsOp ops.toList oi → oj.dst ≠ some x) ∧
    ¬ (cls tb oi.op = .L ∧ cls tb oj.op = .L) ∧ (cls tb oi.op = .Rd → cls tb oj.op = .L → (i, j) ∈ fl) ∧ (cls tb oi.op = .L → cls tb oj.op = .Rd → (j, i) ∈ fl) ∧ (cls tb oi.op = .Al → cls tb oj.op = .L → (i, j) ∈ fl))
  edge : ∀ i o, ops[i]? = some o → ∀ k, ah k i → ∃ e ∈ o.after, Region.binds .any e = true ∧ (k = e.on ∨ ah k e.on)
  back : ∀ (i : Nat) (o : Oper), ops[i]? = some o → ∀ e ∈ o.after, Region.binds .any e = true → e.on < i

theorem stat_of_drawInfo {ops : Array Oper} {fl : List (Nat × Nat)} (h : drawInfo tb ops.toList = .ok fl) : ∃ ah, Stat tb ops fl ah := by
  unfold drawInfo at h
  obtain ⟨l, h1, h2⟩ := R.bind_ok h
  obtain ⟨hlen, hinfo⟩ := infoF_spec h1
  have hpair := pairsF_spec h2
  have hops : ∀ i (o : Oper), ops[i]? = some o → ops.toList[i]? = some o := fun i o ho => by rw [Array.getElem?_toList]; exact ho
  refine ⟨fun k i => ∃ x, l[i]? = some x ∧ x.m.testBit k = true, ⟨fun i j oi oj hij hi hj => ?_, fun i o ho k hk => ?_, fun i o ho e he hb => ?_⟩⟩
  · obtain ⟨x, hx, cx, wx, rx, _⟩ := hinfo i oi (hops _ _ hi)
    obtain ⟨y, hy, cy, wy, ry, _⟩ := hinfo j oj (hops _ _ hj)
    have ha := hpair j y hy i x (by omega) hx
    rw [Nat.zero_add] at ha
    rcases ha with ha | ⟨h1, h2, h3, h4, h5, h6, h7⟩
    · exact .inl ⟨y, hy, ha⟩
    · refine .inr ⟨fun z hz hz' => ?_, fun z hz hz' => ?_, fun z hz hz' => ?_, by rw [← cx, ← cy]; exact h4, by rw [← cx, ← cy]; exact h5, by rw [← cx, ← cy]; exact h6, by rw [← cx, ← cy]; exact h7⟩
      · exact meetsN_false h1 z (by rw [wx, hz]; simp) (by rw [wy, hz']; simp)
      · exact meetsN_false h2 z (by rw [wx, hz]; simp) (by rw [ry]; exact hz')
      · exact meetsN_false h3 z (by rw [rx]; exact hz) (by rw [wy, hz']; simp)
  · obtain ⟨x, hx, hbit⟩ := hk
    obtain ⟨y, hy, _, _, _, hed⟩ := hinfo i o (hops _ _ ho)
    rw [hx] at hy; cases hy
    obtain ⟨e, he, hb, a, hacc, hor⟩ := (edgesM_spec hed).2 k hbit
    refine ⟨e, by simpa using he, hb, ?_⟩
    rcases hor with rfl | ha
    · exact .inl rfl
    · right
      rw [List.nil_append, List.getElem?_map] at hacc
      cases hq : (l.take i)[e.on]? with
      | none => rw [hq] at hacc; cases hacc
      | some z =>
        rw [hq] at hacc
        simp only [Option.map_some, Option.some.injEq] at hacc
        rw [List.getElem?_take] at hq
        split at hq
        · exact ⟨z, hq, by rw [hacc]; exact ha⟩
        · cases hq
  · obtain ⟨y, hy, _, _, _, hed⟩ := hinfo i o (hops _ _ ho)
    obtain ⟨a, hacc⟩ := (edgesM_spec hed).1 e (by simpa using he) hb
    rw [List.nil_append, List.getElem?_map] at hacc
    cases hq : (l.take i)[e.on]? with
    | none => rw [hq] at hacc; cases hacc
    | some z =>
      rw [List.getElem?_take] at hq
      split at hq
      · assumption
      · cases hq

def Closed (ah : Nat → Nat → Prop) (S : Nat → Prop) : Prop := ∀ j k, S j → ah k j → S k

theorem Closed.ready {ops : Array Oper} {fl : List (Nat × Nat)} {ah : Nat → Nat → Prop} (hs : Stat tb ops fl ah) {S : Nat → Prop} (hc : Closed ah S) {i : Nat} {o : Oper} (ho : ops[i]? = some o)
    (he : ∀ e ∈ o.after, Region.binds .any e = true → S e.on) : ∀ k, ah k i → S k := by
  intro k hk
  obtain ⟨e, hm, hb, hor⟩ := hs.edge i o ho k hk
  rcases hor with rfl | h
  · exact he e hm hb
  · exact hc _ _ (he e hm hb) h

theorem Closed.add {ah : Nat → Nat → Prop} {S : Nat → Prop} (hc : Closed ah S) {i : Nat} (hr : ∀ k, ah k i → S k) : Closed ah (fun j => S j ∨ j = i) := by
  intro j k hj hk
  rcases hj with hj | rfl
  · exact .inl (hc j k hj hk)
  · exact .inl (hr k hk)

/-- A cut that shows what a slot holds. -/
def Cut (ops : Array Oper) (S : Nat → Prop) (x c : Nat) : Prop := c ≤ ops.size ∧ ∀ j o, ops[j]? = some o → o.dst = some x → (S j ↔ j < c)
/-- A cut that shows memory. -/
def MCut (tb : Tab) (ops : Array Oper) (wb : Nat → Bool) (S : Nat → Prop) (q : Nat) : Prop := q ≤ ops.size ∧ ∀ j o, ops[j]? = some o → wb j = true → cls tb o.op = .L → (S j ↔ j < q)

section rows
variable {ops : Array Oper} {fl : List (Nat × Nat)} {st : Nat → St} {wb : Nat → Bool} {vv : Nat → Value} {hb : Nat → List Nat}

theorem some_of_lt {p : Nat} (h : p < ops.size) : ∃ o, ops[p]? = some o := ⟨ops[p], by simp [h]⟩

theorem Row.t_step (hr : Row tb ih ops fl 0 st wb vv hb) {p : Nat} {o : Oper} (ho : ops[p]? = some o) (x : Nat) : (st (p + 1)).t.get x = if o.dst = some x then some (vv p) else (st p).t.get x := by
  rw [(hr.step p o (Nat.zero_le _) ho).to]
  exact get_setD _ _ _ _

theorem Row.t_same (hr : Row tb ih ops fl 0 st wb vv hb) (x c : Nat) : ∀ c', c ≤ c' → c' ≤ ops.size → (∀ p o, c ≤ p → p < c' → ops[p]? = some o → o.dst ≠ some x) → (st c').t.get x = (st c).t.get x := by
  intro c'
  induction c' with
  | zero => intro h _ _; rw [show c = 0 by omega]
  | succ d ih' =>
    intro h1 h2 h3
    by_cases he : c = d + 1
    · rw [he]
    · obtain ⟨o, ho⟩ := some_of_lt (ops := ops) (p := d) (by omega)
      rw [hr.t_step ho x, if_neg (h3 d o (by omega) (by omega) ho), ih' (by omega) (by omega) fun p o hp hp' ho => h3 p o hp (by omega) ho]

theorem Row.cut_same (hr : Row tb ih ops fl 0 st wb vv hb) {S : Nat → Prop} {x c c' : Nat} (h : Cut ops S x c) (h' : Cut ops S x c') : (st c).t.get x = (st c').t.get x := by
  have main : ∀ c c', Cut ops S x c → Cut ops S x c' → c ≤ c' → (st c).t.get x = (st c').t.get x := by
    intro c c' h h' hle
    refine (hr.t_same x c c' hle h'.1 fun p o hp hp' ho hd => ?_).symm
    have a1 := h.2 p o ho hd
    have a2 := h'.2 p o ho hd
    have : S p := a2.2 hp'
    have := a1.1 this
    omega
  rcases Nat.le_total c c' with hle | hle
  · exact main c c' h h' hle
  · exact (main c' c h' h hle).symm

/-- Slots as they stand, where a set of operations has been carried out. -/
noncomputable def mkT (f : Nat → Option Value) : Nat → T Value
  | 0 => .e
  | n + 1 => match f n with
    | some v => (mkT f n).set n v
    | none => mkT f n
theorem get_mkT (f : Nat → Option Value) (n x : Nat) : (mkT f n).get x = if x < n then f x else none := by
  induction n with
  | zero => simp [mkT, T.get_e]
  | succ n ih =>
    unfold mkT
    cases hf : f n with
    | none =>
      simp only [ih]
      by_cases h : x < n
      · rw [if_pos h, if_pos (by omega)]
      · rw [if_neg h]
        by_cases h2 : x = n
        · subst h2; simp [hf]
        · rw [if_neg (by omega)]
    | some v =>
      simp only [T.get_set, ih]
      by_cases h2 : x = n
      · subst h2; simp [hf]
      · rw [if_neg h2]
        by_cases h : x < n
        · rw [if_pos h, if_pos (by omega)]
        · rw [if_neg h, if_neg (by omega)]

open Classical in
noncomputable def snap (ops : Array Oper) (st : Nat → St) (S : Nat → Prop) (n : Nat) : T Value :=
  mkT (fun x => if h : ∃ c, Cut ops S x c then (st h.choose).t.get x else none) n

theorem Row.snap_get (hr : Row tb ih ops fl 0 st wb vv hb) {S : Nat → Prop} {n x c : Nat} (h : Cut ops S x c) (hn : n ≤ x → (st c).t.get x = none) : (snap ops st S n).get x = (st c).t.get x := by
  unfold snap
  rw [get_mkT]
  by_cases hx : x < n
  · rw [if_pos hx, dif_pos ⟨c, h⟩]
    exact hr.cut_same (Exists.choose_spec (p := fun c => Cut ops S x c) ⟨c, h⟩) h
  · rw [if_neg hx, hn (by omega)]
theorem snap_some {S : Nat → Prop} {n x : Nat} {v : Value} (h : (snap ops st S n).get x = some v) : x < n ∧ ∃ c, Cut ops S x c ∧ (st c).t.get x = some v := by
  unfold snap at h
  rw [get_mkT] at h
  split at h
  · rename_i hx
    split at h
    · rename_i hc
      exact ⟨hx, hc.choose, hc.choose_spec, h⟩
    · cases h
  · cases h

/-! ### Memory -/

/-- A block at a cut: as it is there; or as it is laid later. -/
def GR (ops : Array Oper) (st : Nat → St) (q b : Nat) (o : Ob) : Prop :=
  (b < (st q).m.next ∧ (st q).m.get b = some o) ∨ ∃ p, q ≤ p ∧ p < ops.size ∧ (st p).m.next ≤ b ∧ b < (st (p + 1)).m.next ∧ (st (p + 1)).m.get b = some o
def GL (ops : Array Oper) (st : Nat → St) (q b : Nat) : Prop := ∃ o, GR ops st q b o ∧ alive o = true

/-- The memory of a place that is no wanted changer. -/
theorem Row.m_step (hr : Row tb ih ops fl 0 st wb vv hb) {p : Nat} {o : Oper} (ho : ops[p]? = some o) (hn : ¬ (wb p = true ∧ cls tb o.op = .L)) :
    (st (p + 1)).m = (st p).m ∨ ∃ ob, (st (p + 1)).m = (st p).m.alloc ob ∧ wb p = true ∧ cls tb o.op = .Al := by
  have hs := hr.step p o (Nat.zero_le _) ho
  cases hw : wb p with
  | false => exact .inl (hs.no hw).2
  | true =>
    have hk := hs.kind hw
    cases hc : cls tb o.op with
    | P => rw [hc] at hk; exact .inl hk.2
    | Rd => rw [hc] at hk; exact .inl hk.2
    | Al =>
      rw [hc] at hk
      obtain ⟨ob, way, _, h2, _⟩ := hk
      exact .inr ⟨ob, h2, rfl, rfl⟩
    | L => exact absurd ⟨hw, hc⟩ hn

/-- Between two cuts without a wanted changer a block stays; one that is there later was there, or will be laid. -/
theorem Row.GR_step (hr : Row tb ih ops fl 0 st wb vv hb) {p : Nat} {o : Oper} (ho : ops[p]? = some o) (hn : ¬ (wb p = true ∧ cls tb o.op = .L)) {b : Nat} {ob : Ob} (h : GR ops st (p + 1) b ob) : GR ops st p b ob := by
  have hlt : p < ops.size := (Array.getElem?_eq_some_iff.1 ho).1
  rcases h with ⟨h1, h2⟩ | ⟨q, h1, h2⟩
  · rcases hr.m_step ho hn with h3 | ⟨ob', h3, _⟩
    · rw [h3] at h1 h2
      exact .inl ⟨h1, h2⟩
    · by_cases hb' : b < (st p).m.next
      · rw [h3, get_alloc, if_neg (by omega)] at h2
        exact .inl ⟨hb', h2⟩
      · exact .inr ⟨p, Nat.le_refl _, hlt, by omega, h1, h2⟩
  · exact .inr ⟨q, by omega, h2⟩

theorem Row.GR_back (hr : Row tb ih ops fl 0 st wb vv hb) {q : Nat} : ∀ q', q ≤ q' → q' ≤ ops.size → (∀ p o, q ≤ p → p < q' → ops[p]? = some o → ¬ (wb p = true ∧ cls tb o.op = .L)) → ∀ {b : Nat} {ob : Ob}, GR ops st q' b ob → GR ops st q b ob := by
  intro q'
  induction q' with
  | zero => intro h _ _ b ob hg; rw [show q = 0 by omega]; exact hg
  | succ d ih' =>
    intro h1 h2 h3 b ob hg
    by_cases he : q = d + 1
    · rw [he]; exact hg
    · obtain ⟨o, ho⟩ := some_of_lt (ops := ops) (p := d) (by omega)
      exact ih' (by omega) (by omega) (fun p o hp hp' ho => h3 p o hp (by omega) ho) (hr.GR_step ho (h3 d o (by omega) (by omega) ho) hg)

theorem Row.wf_fwd (hr : Row tb ih ops fl 0 st wb vv hb) {q : Nat} (hw : ∀ b, (st q).m.next ≤ b → (st q).m.get b = none) : ∀ q', q ≤ q' → q' ≤ ops.size → (∀ p o, q ≤ p → p < q' → ops[p]? = some o → ¬ (wb p = true ∧ cls tb o.op = .L)) →
    ∀ b, (st q').m.next ≤ b → (st q').m.get b = none := by
  intro q'
  induction q' with
  | zero => intro h _ _; rw [show 0 = q by omega]; exact hw
  | succ d ih' =>
    intro h1 h2 h3 b hb'
    by_cases he : q = d + 1
    · rw [← he] at hb' ⊢; exact hw b hb'
    · obtain ⟨o, ho⟩ := some_of_lt (ops := ops) (p := d) (by omega)
      have old := ih' (by omega) (by omega) (fun p o hp hp' ho => h3 p o hp (by omega) ho)
      rcases hr.m_step ho (h3 d o (by omega) (by omega) ho) with h4 | ⟨ob', h4, _⟩
      · rw [h4] at hb' ⊢; exact old b hb'
      · rw [h4, next_alloc] at hb'
        rw [h4, get_alloc, if_neg (by omega)]
        exact old b (by omega)
theorem Row.get_fwd (hr : Row tb ih ops fl 0 st wb vv hb) {q : Nat} : ∀ q', q ≤ q' → q' ≤ ops.size → (∀ p o, q ≤ p → p < q' → ops[p]? = some o → ¬ (wb p = true ∧ cls tb o.op = .L)) →
    ∀ b, b < (st q).m.next → (st q').m.get b = (st q).m.get b ∧ (st q).m.next ≤ (st q').m.next := by
  intro q'
  induction q' with
  | zero => intro h _ _ b _; rw [show q = 0 by omega]; exact ⟨rfl, Nat.le_refl _⟩
  | succ d ih' =>
    intro h1 h2 h3 b hb'
    by_cases he : q = d + 1
    · rw [he]; exact ⟨rfl, Nat.le_refl _⟩
    · obtain ⟨o, ho⟩ := some_of_lt (ops := ops) (p := d) (by omega)
      have old := ih' (by omega) (by omega) (fun p o hp hp' ho => h3 p o hp (by omega) ho) b hb'
      rcases hr.m_step ho (h3 d o (by omega) (by omega) ho) with h4 | ⟨ob', h4, _⟩
      · rw [h4]; exact old
      · rw [h4, get_alloc, if_neg (by omega), next_alloc]
        exact ⟨old.1, by omega⟩
end rows

end Go.Am

/-
  The abstract machine AM, part 37: operations in any order that may be drawn.
-/
namespace Go.Am
variable {tb : Tab} (ok : TabOk tb) {ih : Code → St → R (Ex × St)}

theorem TR.put {ι : Inj} {n : Nat} {t : T Value} {a : Act} {dst : Option Tmp} {v v' : Value} (h : TR ι n t a.tmps) (hv : VR ι v v') (hd : ∀ d, dst = some d → d < n) :
    TR ι n (setD t dst v) (a.put dst v').tmps ∧ (a.put dst v').defers = a.defers := by
  cases dst with
  | none => exact ⟨h, rfl⟩
  | some d => exact ⟨h.set (hd d rfl) hv, rfl⟩

include ok in
theorem Does.snd (hcall : CallSnd tb ih) {o : Oper} {t : T Value} {A A' : Mem} {v : Value} (h : Does tb ih o t A v A') {t' : T Value} {n : Nat} {d : List Nat} {ro : Option Nat} (hx : ∀ x ∈ o.op.operands, ev t x = ev t' x)
    (hd : ∀ d, o.dst = some d → d < n) (ops : Array Oper) (i : Nat) : OpSnd tb.P ops i o ⟨t', n, d, A, ro⟩ ⟨setD t' o.dst v, n, d, A', ro⟩ := by
  have h1 := h t' n d ro (fun s => .ok (.nrm, s)) hx
  rw [putT_mk hd] at h1
  rcases opF_sound ok hcall (ops := ops) (i := i) h1 with ⟨v, s1, h3, _⟩ | ⟨s1, hk, hs⟩
  · cases h3
  · simp only [R.ok.injEq, Prod.mk.injEq, true_and] at hk
    subst hk; exact hs

section rows
variable {ops : Array Oper} {fl : List (Nat × Nat)} {st : Nat → St} {wb : Nat → Bool} {vv : Nat → Value} {hb : Nat → List Nat} {ah : Nat → Nat → Prop}

include ok in
theorem Row.next_step (hcall : CallSnd tb ih) (hr : Row tb ih ops fl 0 st wb vv hb) {p : Nat} (hp : p < ops.size) : (st p).m.next ≤ (st (p + 1)).m.next := by
  obtain ⟨o, ho⟩ := some_of_lt (ops := ops) hp
  by_cases hL : wb p = true ∧ cls tb o.op = .L
  · have hs := hr.step p o (Nat.zero_le _) ho
    have hk := hs.kind hL.1
    rw [hL.2] at hk
    obtain ⟨A1, h1, h2⟩ := hk
    have := (Does.snd ok hcall h1 (t' := (st p).t) (n := (st p).n) (d := []) (ro := none) (fun _ _ => rfl) hs.dst ops p).1
    rw [backF_next h2]
    simpa [hideF_next] using this
  · rcases hr.m_step ho hL with h | ⟨ob, h, _⟩
    · rw [h]; exact Nat.le_refl _
    · rw [h, next_alloc]; omega

include ok in
theorem Row.next_mono (hcall : CallSnd tb ih) (hr : Row tb ih ops fl 0 st wb vv hb) {p : Nat} : ∀ {q : Nat}, p ≤ q → q ≤ ops.size → (st p).m.next ≤ (st q).m.next := by
  intro q
  induction q with
  | zero => intro h _; rw [show p = 0 by omega]; exact Nat.le_refl _
  | succ d ih' =>
    intro h1 h2
    by_cases he : p = d + 1
    · rw [he]; exact Nat.le_refl _
    · exact Nat.le_trans (ih' (by omega) (by omega)) (hr.next_step ok hcall (by omega))

/-- What a maker lays stays as it is, as long as only such changers come as float against it. -/
theorem Row.kept (hr : Row tb ih ops fl 0 st wb vv hb) {i : Nat} {oi : Oper} {ob : Ob} (hi : ops[i]? = some oi) (hw : wb i = true) (hc : cls tb oi.op = .Al) (hm : (st (i + 1)).m = (st i).m.alloc ob)
    (hmono : ∀ p q, p ≤ q → q ≤ ops.size → (st p).m.next ≤ (st q).m.next) :
    ∀ q, i + 1 ≤ q → q ≤ ops.size → (∀ j oj, i < j → j < q → ops[j]? = some oj → wb j = true → cls tb oj.op = .L → (i, j) ∈ fl) → (st q).m.get (st i).m.next = some ob := by
  intro q
  induction q with
  | zero => intro h; omega
  | succ d ih' =>
    intro h1 h2 h3
    by_cases he : i = d
    · subst he
      rw [hm, get_alloc, if_pos rfl]
    · obtain ⟨o, ho⟩ := some_of_lt (ops := ops) (p := d) (by omega)
      have old := ih' (by omega) (by omega) fun j oj hj hj' => h3 j oj hj (by omega)
      by_cases hL : wb d = true ∧ cls tb o.op = .L
      · have hk := (hr.step d o (Nat.zero_le _) ho).kind hL.1
        rw [hL.2] at hk
        obtain ⟨A1, _, h5⟩ := hk
        have hin := hr.float i d oi o (Nat.zero_le _) (by omega) hi ho hw hL.1 hc hL.2 (h3 d o (by omega) (by omega) ho hL.1 hL.2)
        rw [(backF_get h5).2, if_pos hin, old]
      · rcases hr.m_step ho hL with h | ⟨ob', h, _⟩
        · rw [h]; exact old
        · rw [h, get_alloc, if_neg]
          · exact old
          · have := hmono (i + 1) d (by omega) (by omega)
            rw [hm, next_alloc] at this
            omega

/-- The mark of a package-level variable is never laid anew. -/
theorem Row.gl_back (hr : Row tb ih ops fl 0 st wb vv hb) {q : Nat} {x k : Nat} {t : TypeId} {c : T Value} : ∀ q', q ≤ q' → q' ≤ ops.size → (∀ p o, q ≤ p → p < q' → ops[p]? = some o → ¬ (wb p = true ∧ cls tb o.op = .L)) →
    (st q').m.get x = some (.cells t .row (GB k) c) → (st q).m.get x = some (.cells t .row (GB k) c) := by
  intro q'
  induction q' with
  | zero => intro h _ _; rw [show q = 0 by omega]; exact id
  | succ d ih' =>
    intro h1 h2 h3 hx
    by_cases he : q = d + 1
    · rw [he]; exact hx
    · obtain ⟨o, ho⟩ := some_of_lt (ops := ops) (p := d) (by omega)
      refine ih' (by omega) (by omega) (fun p o hp hp' ho => h3 p o hp (by omega) ho) ?_
      rcases hr.m_step ho (h3 d o (by omega) (by omega) ho) with h4 | ⟨ob', h4, h5, h6⟩
      · rwa [h4] at hx
      · have hk := (hr.step d o (Nat.zero_le _) ho).kind h5
        rw [h6] at hk
        obtain ⟨ob, way, k1, k2, _⟩ := hk
        rw [k2, get_alloc] at hx
        split at hx
        · exact absurd (Option.some.inj hx) (aOp_gl k1 t k c)
        · exact hx

/-- A set of operations has been carried out. -/
structure Inv (tb : Tab) (ops : Array Oper) (st : Nat → St) (wb : Nat → Bool) (ah : Nat → Nat → Prop) (b : Frame) (ι0 : Inj) (w0 : World) (S : Nat → Prop) (ι : Inj) (a : Act) (w : World) : Prop where
  cl : Closed ah S
  size : a.tmps.size = (st 0).n
  tm : ∀ x c v, Cut ops S x c → (st c).t.get x = some v → ∃ v', a.tmps[x]? = some v' ∧ VR ι v v'
  ro : RoR ι (st 0).ro b.roundOf
  dr : DR ι (st 0).d a.defers b.defers
  wf : ∀ q, MCut tb ops wb S q → ∀ x, (st q).m.next ≤ x → (st q).m.get x = none
  obs : ∀ q, MCut tb ops wb S q → ∀ x o l, GR ops st q x o → alive o = true → ι x = some l → ∃ o', w.heap[l.blk]? = some o' ∧ OR ι o l o'
  rng : ∀ x l, ι x = some l → l.blk < w.heap.size
  inj : ∀ q, MCut tb ops wb S q → ∀ x y l l', GL ops st q x → GL ops st q y → ι x = some l → ι y = some l' → l.blk = l'.blk → x = y
  free : ∀ i, i < ops.size → ¬ S i → ∀ x, (st i).m.next ≤ x → x < (st (i + 1)).m.next → ι x = none
  out : ∀ x, x < (st 0).m.next ∨ (st ops.size).m.next ≤ x → ι x = ι0 x
  src : ∀ q, MCut tb ops wb S q → ∀ x l, GL ops st q x → ι x = some l → w0.heap.size ≤ l.blk ∨ ∃ b0 l0, live (st 0).m b0 ∧ ι0 b0 = some l0 ∧ l0.blk = l.blk
  fr : ∀ c, c < w0.heap.size → (∀ x l, live (st 0).m x → ι0 x = some l → l.blk ≠ c) → w.heap[c]? = w0.heap[c]?
  sz : w0.heap.size ≤ w.heap.size
  os : w.os = w0.os
  tape : w.tape = w0.tape
  output : w.output = w0.output
  dn : w0.drawn ≤ w.drawn
  kp : ∀ x l, ι0 x = some l → Still (st 0).m x l → (∀ q, MCut tb ops wb S q → (st q).m.get x = (st 0).m.get x) ∧ w.heap[l.blk]? = w0.heap[l.blk]?
  gl : ∀ q, MCut tb ops wb S q → ∀ x t k c, (st q).m.get x = some (.cells t .row (GB k) c) → ∃ l, ι x = some l ∧ l.blk = k ∧ l.sh = 0

/-- What is known where an operation is about to be carried out. -/
structure Rdy (tb : Tab) (ih : Code → St → R (Ex × St)) (ops : Array Oper) (fl : List (Nat × Nat)) (st : Nat → St) (wb : Nat → Bool) (vv : Nat → Value) (hb : Nat → List Nat) (ah : Nat → Nat → Prop) (S : Nat → Prop) (i : Nat) (o : Oper) : Prop where
  row : Row tb ih ops fl 0 st wb vv hb
  sta : Stat tb ops fl ah
  cl : Closed ah S
  ho : ops[i]? = some o
  hn : ¬ S i
  ready : ∀ k, ah k i → S k

variable {S : Nat → Prop} {i : Nat} {o : Oper}

theorem Rdy.cut (h : Rdy tb ih ops fl st wb vv hb ah S i o) {x : Nat} (hx : x ∈ readsOp ops.toList o) : Cut ops S x i := by
  refine ⟨Nat.le_of_lt (Array.getElem?_eq_some_iff.1 h.ho).1, fun j oj hj hd => ?_⟩
  rcases Nat.lt_trichotomy j i with hlt | rfl | hgt
  · refine ⟨fun _ => hlt, fun _ => ?_⟩
    rcases h.sta.ap j i oj o hlt hj h.ho with ha | ⟨_, h2, _⟩
    · exact h.ready j ha
    · exact absurd hx (h2 x hd)
  · exact ⟨fun hs => absurd hs h.hn, fun hl => by omega⟩
  · refine ⟨fun hs => ?_, fun hl => by omega⟩
    rcases h.sta.ap i j o oj hgt h.ho hj with ha | ⟨_, _, h3, _⟩
    · exact absurd (h.cl j i hs ha) h.hn
    · exact absurd hd (h3 x hx)

theorem Rdy.tm (h : Rdy tb ih ops fl st wb vv hb ah S i o) {n x c : Nat} (hn : ∀ x c, Cut ops S x c → n ≤ x → (st c).t.get x = none) (hc : Cut ops (fun j => S j ∨ j = i) x c) :
    (setD (snap ops st S n) o.dst (vv i)).get x = (st c).t.get x := by
  rw [get_setD]
  by_cases hd : o.dst = some x
  · rw [if_pos hd]
    have hic : i < c := (hc.2 i o h.ho hd).1 (.inr rfl)
    rw [h.row.t_same x (i + 1) c (by omega) hc.1, h.row.t_step h.ho, if_pos hd]
    intro p op hp hp' hop hdp
    have hS := (hc.2 p op hop hdp).2 hp'
    rcases hS with hS | rfl
    · rcases h.sta.ap i p o op (by omega) h.ho hop with ha | ⟨h1, _⟩
      · exact h.hn (h.cl p i hS ha)
      · exact h1 x hd hdp
    · omega
  · rw [if_neg hd]
    have hc' : Cut ops S x c := ⟨hc.1, fun j oj hj hdj => by
      rw [← hc.2 j oj hj hdj]
      have : j ≠ i := by rintro rfl; rw [h.ho] at hj; cases hj; exact hd hdj
      simp [this]⟩
    exact h.row.snap_get hc' (hn x c hc')

theorem Rdy.evs (h : Rdy tb ih ops fl st wb vv hb ah S i o) {n : Nat} (hn : ∀ x c, Cut ops S x c → n ≤ x → (st c).t.get x = none) : ∀ y ∈ o.op.operands, ev (st i).t y = ev (snap ops st S n) y := by
  intro y hy
  cases y with
  | tmp x =>
    have hx : x ∈ readsOp ops.toList o := by
      unfold readsOp
      exact List.mem_append_left _ (List.mem_flatMap.2 ⟨.tmp x, by simpa using hy, by simp [readsO]⟩)
    have hc := h.cut hx
    simp only [ev, h.row.snap_get hc (hn x i hc)]
  | _ => rfl

theorem Rdy.want (h : Rdy tb ih ops fl st wb vv hb ah S i o) {n : Nat} (hn : ∀ x c, Cut ops S x c → n ≤ x → (st c).t.get x = none) : wantF ops.toList o (snap ops st S n) = .ok (wb i) := by
  have hw := (h.row.step i o (Nat.zero_le _) h.ho).want
  rw [← hw]
  unfold wantF
  cases hg : o.guard with
  | none => rfl
  | some g =>
    obtain ⟨j, want⟩ := g
    simp only
    cases hj : ops.toList[j]? with
    | none => rfl
    | some oj =>
      simp only
      cases hd : oj.dst with
      | none => rfl
      | some d =>
        have hx : d ∈ readsOp ops.toList o := by
          unfold readsOp
          refine List.mem_append_right _ ?_
          rw [hg]; simp only [hj, hd]; simp
        have hc := h.cut hx
        simp only [h.row.snap_get hc (hn d i hc)]

/-- Changers come in the text's order. -/
theorem Rdy.mcut (h : Rdy tb ih ops fl st wb vv hb ah S i o) (hL : cls tb o.op = .L) : MCut tb ops wb S i := by
  refine ⟨Nat.le_of_lt (Array.getElem?_eq_some_iff.1 h.ho).1, fun j oj hj hw hc => ?_⟩
  rcases Nat.lt_trichotomy j i with hlt | rfl | hgt
  · refine ⟨fun _ => hlt, fun _ => ?_⟩
    rcases h.sta.ap j i oj o hlt hj h.ho with ha | ⟨_, _, _, h4, _⟩
    · exact h.ready j ha
    · exact absurd ⟨hc, hL⟩ h4
  · exact ⟨fun hs => absurd hs h.hn, fun hl => by omega⟩
  · refine ⟨fun hs => ?_, fun hl => by omega⟩
    rcases h.sta.ap i j o oj hgt h.ho hj with ha | ⟨_, _, _, h4, _⟩
    · exact absurd (h.cl j i hs ha) h.hn
    · exact absurd ⟨hL, hc⟩ h4

theorem MCut.same {q : Nat} (hq : MCut tb ops wb (fun j => S j ∨ j = i) q) (ho : ops[i]? = some o) (hn : ¬ (wb i = true ∧ cls tb o.op = .L)) : MCut tb ops wb S q :=
  ⟨hq.1, fun j oj hj hw hc => by
    rw [← hq.2 j oj hj hw hc]
    have : j ≠ i := by rintro rfl; rw [ho] at hj; cases hj; exact hn ⟨hw, hc⟩
    simp [this]⟩

section step
variable {b : Frame} {ι0 ι : Inj} {w0 w : World} {a : Act}

theorem Inv.none_of_ge (hI : Inv tb ops st wb ah b ι0 w0 S ι a w) : ∀ x c, Cut ops S x c → (st 0).n ≤ x → (st c).t.get x = none := by
  intro x c hc hx
  cases hg : (st c).t.get x with
  | none => rfl
  | some v =>
    obtain ⟨v', e, _⟩ := hI.tm x c v hc hg
    have := (Array.getElem?_eq_some_iff.1 e).1
    rw [hI.size] at this
    omega

theorem Inv.tr (hI : Inv tb ops st wb ah b ι0 w0 S ι a w) : TR ι (st 0).n (snap ops st S (st 0).n) a.tmps := by
  refine ⟨hI.size, fun x v hv => ?_⟩
  obtain ⟨_, c, hc, hg⟩ := snap_some hv
  exact hI.tm x c v hc hg

theorem Row.n_same (hr : Row tb ih ops fl 0 st wb vv hb) : ∀ p, p ≤ ops.size → (st p).n = (st 0).n ∧ (st p).d = (st 0).d ∧ (st p).ro = (st 0).ro := by
  intro p
  induction p with
  | zero => intro _; exact ⟨rfl, rfl, rfl⟩
  | succ p ih' =>
    intro hp
    obtain ⟨o, ho⟩ := some_of_lt (ops := ops) (p := p) (by omega)
    rw [(hr.step p o (Nat.zero_le _) ho).to]
    exact ih' (by omega)

/-- The slots behind one more operation. -/
theorem Rdy.tm_next (h : Rdy tb ih ops fl st wb vv hb ah S i o) (hI : Inv tb ops st wb ah b ι0 w0 S ι a w) {ι' : Inj} {a' : Act} (ht : TR ι' (st 0).n (setD (snap ops st S (st 0).n) o.dst (vv i)) a'.tmps) :
    ∀ x c v, Cut ops (fun j => S j ∨ j = i) x c → (st c).t.get x = some v → ∃ v', a'.tmps[x]? = some v' ∧ VR ι' v v' := by
  intro x c v hc hg
  refine ht.2 x v ?_
  rw [h.tm hI.none_of_ge hc]; exact hg

theorem Rdy.dst_lt (h : Rdy tb ih ops fl st wb vv hb ah S i o) : ∀ d, o.dst = some d → d < (st 0).n := by
  intro d hd
  have := (h.row.step i o (Nat.zero_le _) h.ho).dst d hd
  rwa [(h.row.n_same i (Nat.le_of_lt (Array.getElem?_eq_some_iff.1 h.ho).1)).1] at this

/-- An operation that leaves memory alone. -/
theorem Inv.quiet (hI : Inv tb ops st wb ah b ι0 w0 S ι a w) (h : Rdy tb ih ops fl st wb vv hb ah S i o) (hL : ¬ (wb i = true ∧ cls tb o.op = .L)) {v' : Value} (hv : VR ι (vv i) v') :
    Inv tb ops st wb ah b ι0 w0 (fun j => S j ∨ j = i) ι (a.put o.dst v') w := by
  obtain ⟨ht, hd⟩ := hI.tr.put hv h.dst_lt
  exact { hI with
    cl := hI.cl.add h.ready
    size := ht.1
    tm := h.tm_next hI ht
    dr := by rw [hd]; exact hI.dr
    wf := fun q hq => hI.wf q (hq.same h.ho hL)
    obs := fun q hq => hI.obs q (hq.same h.ho hL)
    inj := fun q hq => hI.inj q (hq.same h.ho hL)
    src := fun q hq => hI.src q (hq.same h.ho hL)
    free := fun j hj hn => hI.free j hj fun hs => hn (.inl hs)
    kp := fun x l hl hs => ⟨fun q hq => (hI.kp x l hl hs).1 q (hq.same h.ho hL), (hI.kp x l hl hs).2⟩
    gl := fun q hq => hI.gl q (hq.same h.ho hL) }

/-- Memory as it stands at a cut. -/
theorem Inv.rel (hI : Inv tb ops st wb ah b ι0 w0 S ι a w) {q : Nat} (hq : MCut tb ops wb S q) : Rel ι (st q).m w := by
  have hg : ∀ x o, (st q).m.get x = some o → GR ops st q x o := by
    intro x o hx
    refine .inl ⟨?_, hx⟩
    rcases Nat.lt_or_ge x (st q).m.next with h | h
    · exact h
    · rw [hI.wf q hq x h] at hx; cases hx
  exact ⟨hI.wf q hq, fun x o l hx ha hl => hI.obs q hq x o l (hg x o hx) ha hl, hI.rng, fun x y l l' ⟨o, h1, h2⟩ ⟨o', h3, h4⟩ => hI.inj q hq x y l l' ⟨o, hg _ _ h1, h2⟩ ⟨o', hg _ _ h3, h4⟩, hI.gl q hq⟩

/-- The same of a memory with what makers will lay. -/
theorem Inv.relX (hI : Inv tb ops st wb ah b ι0 w0 S ι a w) (hr : Row tb ih ops fl 0 st wb vv hb) (hmono : ∀ p q, p ≤ q → q ≤ ops.size → (st p).m.next ≤ (st q).m.next) {q i : Nat} {A : Mem} (hq : MCut tb ops wb S q) (hX : Xt tb ops st wb (st q).m q i A) :
    Rel ι ⟨A.heap, (st ops.size).m.next⟩ w := by
  have hg : ∀ x o, A.get x = some o → GR ops st q x o ∧ ((st q).m.get x = some o ∨ ∀ t k c, o ≠ .cells t .row (GB k) c) ∧ x < (st ops.size).m.next := by
    intro x o hx
    rcases hX x o hx with h | ⟨p, o', h1, h2, h3, h4, h5, h6, h7⟩
    · have hlt : x < (st q).m.next := by
        rcases Nat.lt_or_ge x (st q).m.next with h' | h'
        · exact h'
        · rw [hI.wf q hq x h'] at h; cases h
      exact ⟨.inl ⟨hlt, h⟩, .inl h, Nat.lt_of_lt_of_le hlt (hmono q _ hq.1 (Nat.le_refl _))⟩
    · have hp : p < ops.size := (Array.getElem?_eq_some_iff.1 h3).1
      have hk := (hr.step p o' (Nat.zero_le _) h3).kind h4
      rw [h5] at hk
      obtain ⟨ob, way, k1, k2, -⟩ := hk
      have hnx : x < (st (p + 1)).m.next := by rw [k2, next_alloc, h6]; exact Nat.lt_succ_self _
      have ho : o = ob := by rw [k2, get_alloc, if_pos h6] at h7; exact (Option.some.inj h7).symm
      subst ho
      exact ⟨.inr ⟨p, h1, hp, Nat.le_of_eq h6.symm, hnx, h7⟩, .inr (aOp_gl k1), Nat.lt_of_lt_of_le hnx (hmono (p + 1) _ hp (Nat.le_refl _))⟩
  refine ⟨fun x hx => ?_, fun x o l hx ha hl => hI.obs q hq x o l (hg x o hx).1 ha hl, hI.rng, fun x y l l' ⟨o, h1, h2⟩ ⟨o', h3, h4⟩ => hI.inj q hq x y l l' ⟨o, (hg _ _ h1).1, h2⟩ ⟨o', (hg _ _ h3).1, h4⟩, fun x t k c hx => ?_⟩
  · cases hy : A.get x with
    | none => exact hy
    | some o => exact absurd (hg x o hy).2.2 (Nat.not_lt.2 hx)
  · rcases (hg x _ hx).2.1 with h | h
    · exact hI.gl q hq x t k c h
    · exact absurd rfl (h t k c)

end step
end rows
end Go.Am

/-
  The abstract machine AM, part 38: makers, readers, changers in any order that may be drawn; regions whose order is open.
-/
namespace Go.Am
variable {tb : Tab} (ok : TabOk tb) {ih : Code → St → R (Ex × St)}

section rows
variable {ops : Array Oper} {fl : List (Nat × Nat)} {st : Nat → St} {wb : Nat → Bool} {vv : Nat → Value} {hb : Nat → List Nat} {ah : Nat → Nat → Prop}
variable {S : Nat → Prop} {i : Nat} {o : Oper} {b : Frame} {ι0 ι : Inj} {w0 w : World} {a : Act}

/-- A maker. -/
theorem Inv.maker (hI : Inv tb ops st wb ah b ι0 w0 S ι a w) (h : Rdy tb ih ops fl st wb vv hb ah S i o) (hw : wb i = true) (hc : cls tb o.op = .Al) (hmono : ∀ p q, p ≤ q → q ≤ ops.size → (st p).m.next ≤ (st q).m.next)
    {ob : Ob} (hm : (st (i + 1)).m = (st i).m.alloc ob) {ι' : Inj} {w' : World} {v' : Value} (hv : VR ι' (vv i) v')
    (hrel : Rel ι' ((⟨.e, (st i).m.next⟩ : Mem).alloc ob) w') (hst : Stp ι ⟨.e, (st i).m.next⟩ w ι' ((⟨.e, (st i).m.next⟩ : Mem).alloc ob) w') :
    Inv tb ops st wb ah b ι0 w0 (fun j => S j ∨ j = i) ι' (a.put o.dst v') w' := by
  have hL : ¬ (wb i = true ∧ cls tb o.op = .L) := fun hx => by rw [hc] at hx; cases hx.2
  have hlt : i < ops.size := (Array.getElem?_eq_some_iff.1 h.ho).1
  have hnx : (st (i + 1)).m.next = (st i).m.next + 1 := by rw [hm, next_alloc]
  have hN : ι (st i).m.next = none := hI.free i hlt h.hn _ (Nat.le_refl _) (by omega)
  have hle : InjLe ι ι' := hst.le (fun x hx1 hx2 => by
    rw [next_alloc] at hx2
    simp only at hx1 hx2
    have : x = (st i).m.next := by omega
    rw [this]; exact hN)
  have hout : ∀ x, x ≠ (st i).m.next → ι' x = ι x := fun x hx => hst.out x (by rw [next_alloc]; simp only; omega)
  have hnolive : ∀ x, ¬ live (⟨.e, (st i).m.next⟩ : Mem) x := by
    rintro x ⟨o', hx, _⟩
    cases hx
  have hfr : ∀ c, c < w.heap.size → w'.heap[c]? = w.heap[c]? := fun c hc => hst.fr c hc fun x l hx _ => absurd hx (hnolive x)
  have hnew : ∀ l, ι' (st i).m.next = some l → alive ob = true → w.heap.size ≤ l.blk := by
    intro l hl hal
    rcases hst.src _ l ⟨ob, by rw [get_alloc, if_pos rfl], hal⟩ hl with h1 | ⟨b0, _, h1, _⟩
    · exact h1
    · exact absurd h1 (hnolive b0)
  -- the block that is laid, at a cut
  have hthe : ∀ q, MCut tb ops wb S q → ∀ o', GR ops st q (st i).m.next o' → o' = ob := by
    intro q hq o' hg
    rcases hg with ⟨h1, h2⟩ | ⟨p, h1, h2, h3, h4, h5⟩
    · have hiq : i < q := by
        rcases Nat.lt_or_ge i q with h6 | h6
        · exact h6
        · have := hmono q i h6 (by omega); omega
      have := h.row.kept h.ho hw hc hm hmono q (by omega) hq.1 (fun j oj hj hj' hoj hwj hcj => by
        have hS := (hq.2 j oj hoj hwj hcj).2 hj'
        rcases h.sta.ap i j o oj hj h.ho hoj with ha | ⟨_, _, _, _, _, _, h7⟩
        · exact absurd (h.cl j i hS ha) h.hn
        · exact h7 hc hcj)
      rw [this] at h2
      exact (Option.some.inj h2).symm
    · have hpi : p = i := by
        rcases Nat.lt_trichotomy p i with h6 | h6 | h6
        · have := hmono (p + 1) i (by omega) (by omega); omega
        · exact h6
        · have := hmono (i + 1) p (by omega) (by omega); omega
      subst hpi
      rw [hm, get_alloc, if_pos rfl] at h5
      exact (Option.some.inj h5).symm
  obtain ⟨ht, hd⟩ := TR.put (a := a) (hI.tr.mono hle) hv h.dst_lt
  refine ⟨hI.cl.add h.ready, ht.1, h.tm_next hI ht, hI.ro.mono hle, by rw [hd]; exact hI.dr.mono hle, fun q hq => hI.wf q (hq.same h.ho hL), fun q hq x o' l hg hal hl => ?_, hrel.rng, fun q hq x y l l' hx hy hlx hly he => ?_,
    fun j hj hn x hx1 hx2 => ?_, fun x hx => ?_, fun q hq x l hx hl => ?_, fun c hc hn => ?_, Nat.le_trans hI.sz hst.size, hst.os.trans hI.os, hst.tape.trans hI.tape, hst.output.trans hI.output, Nat.le_trans hI.dn hst.drawn, fun x l hl hs => ⟨fun q hq => (hI.kp x l hl hs).1 q (hq.same h.ho hL), (hfr _ (hI.rng x l (by rw [hI.out x (.inl hs.1)]; exact hl))).trans (hI.kp x l hl hs).2⟩,
    fun q hq x t k c hx => by obtain ⟨l, e, r⟩ := hI.gl q (hq.same h.ho hL) x t k c hx; exact ⟨l, hle x l e, r⟩⟩
  · have hq' := hq.same h.ho hL
    by_cases hx : x = (st i).m.next
    · subst hx
      have := hthe q hq' o' hg
      subst this
      exact hrel.obs _ o' l (by rw [get_alloc, if_pos rfl]) hal hl
    · rw [hout x hx] at hl
      obtain ⟨o2, h1, h2⟩ := hI.obs q hq' x o' l hg hal hl
      exact ⟨o2, by rw [hfr _ (hI.rng x l hl)]; exact h1, h2.mono hle⟩
  · have hq' := hq.same h.ho hL
    have hnew' : ∀ {x l}, x = (st i).m.next → GL ops st q x → ι' x = some l → w.heap.size ≤ l.blk := by
      rintro x l rfl ⟨o', hg, hal⟩ hl
      have := hthe q hq' o' hg
      subst this
      exact hnew l hl hal
    by_cases ex : x = (st i).m.next
    · by_cases ey : y = (st i).m.next
      · omega
      · have h1 := hnew' ex hx hlx
        rw [hout y ey] at hly
        have := hI.rng y l' hly
        omega
    · by_cases ey : y = (st i).m.next
      · have h1 := hnew' ey hy hly
        rw [hout x ex] at hlx
        have := hI.rng x l hlx
        omega
      · rw [hout x ex] at hlx
        rw [hout y ey] at hly
        exact hI.inj q hq' x y l l' hx hy hlx hly he
  · have hji : j ≠ i := fun e => hn (.inr e)
    have hSj : ¬ S j := fun e => hn (.inl e)
    have hne : x ≠ (st i).m.next := by
      rintro rfl
      rcases Nat.lt_or_gt_of_ne hji with h6 | h6
      · have := hmono (j + 1) i (by omega) (by omega); omega
      · have := hmono (i + 1) j (by omega) (by omega); omega
    rw [hout x hne]
    exact hI.free j hj hSj x hx1 hx2
  · have h1 := hmono 0 i (by omega) (by omega)
    have h2 := hmono (i + 1) ops.size (by omega) (Nat.le_refl _)
    rw [hout x (by omega)]
    exact hI.out x hx
  · have hq' := hq.same h.ho hL
    by_cases ex : x = (st i).m.next
    · obtain ⟨o', hg, hal⟩ := hx
      subst ex
      have := hthe q hq' o' hg
      subst this
      exact .inl (Nat.le_trans hI.sz (hnew l hl hal))
    · rw [hout x ex] at hl
      exact hI.src q hq' x l hx hl
  · rw [hfr c (Nat.lt_of_lt_of_le hc hI.sz)]
    exact hI.fr c hc hn

/-- A changer. -/
theorem Inv.changer (hI : Inv tb ops st wb ah b ι0 w0 S ι a w) (h : Rdy tb ih ops fl st wb vv hb ah S i o) (hw : wb i = true) (hc : cls tb o.op = .L) (hmono : ∀ p q, p ≤ q → q ≤ ops.size → (st p).m.next ≤ (st q).m.next)
    {A1 : Mem} (hback : backF (st i).m.get (hb i) A1 = .ok (st (i + 1)).m) {ι' : Inj} {w' : World} {a' : Act}
    (hs : SR ι' ⟨setD (snap ops st S (st 0).n) o.dst (vv i), (st 0).n, (st 0).d, A1, (st 0).ro⟩ b a' w') (hst : Stp ι (hideF (hb i) (st i).m) w ι' A1 w') :
    Inv tb ops st wb ah b ι0 w0 (fun j => S j ∨ j = i) ι' a' w' := by
  have hlt : i < ops.size := (Array.getElem?_eq_some_iff.1 h.ho).1
  have hmi := h.mcut hc
  have hnx1 : A1.next = (st (i + 1)).m.next := (backF_next hback).symm
  have hnx0 : (hideF (hb i) (st i).m).next = (st i).m.next := hideF_next _ _
  obtain ⟨hsome, hget⟩ := backF_get hback
  have hin : ∀ x, x ∈ hb i → x < (st i).m.next := by
    intro x hx
    obtain ⟨o', ho'⟩ := hsome x hx
    rcases Nat.lt_or_ge x (st i).m.next with h1 | h1
    · exact h1
    · rw [hI.wf i hmi x h1] at ho'; cases ho'
  have hle : InjLe ι ι' := hst.le (fun x hx1 hx2 => by
    rw [hnx0] at hx1
    rw [hnx1] at hx2
    exact hI.free i hlt h.hn x hx1 hx2)
  have hout : ∀ x, x < (st i).m.next ∨ (st (i + 1)).m.next ≤ x → ι' x = ι x := fun x hx => hst.out x (by rw [hnx0, hnx1]; exact hx)
  have hliveA : ∀ x, live (hideF (hb i) (st i).m) x → x ∉ hb i ∧ GL ops st i x ∧ x < (st i).m.next := by
    rintro x ⟨o', hx, hal⟩
    rw [hideF_get] at hx
    split at hx
    · cases hx; cases hal
    · rename_i hnot
      have hxl : x < (st i).m.next := by
        rcases Nat.lt_or_ge x (st i).m.next with h1 | h1
        · exact h1
        · rw [hI.wf i hmi x h1] at hx; cases hx
      exact ⟨hnot, ⟨o', .inl ⟨hxl, hx⟩, hal⟩, hxl⟩
  -- blocks that the changer could not touch
  have hold : ∀ x l, GL ops st i x → ¬ live (hideF (hb i) (st i).m) x → ι x = some l → w'.heap[l.blk]? = w.heap[l.blk]? := by
    intro x l hg hnl hl
    refine hst.fr _ (hI.rng x l hl) fun y ly hy hly he => ?_
    have := hI.inj i hmi y x ly l (hliveA y hy).2.1 hg hly hl he
    exact hnl (this ▸ hy)
  -- where a block of the next cut comes from
  have hroute : ∀ x o', GR ops st (i + 1) x o' → (A1.get x = some o') ∨ (GR ops st i x o' ∧ ¬ live (hideF (hb i) (st i).m) x ∧ ι' x = ι x) := by
    intro x o' hg
    rcases hg with ⟨h1, h2⟩ | ⟨p, h1, h2, h3, h4, h5⟩
    · rw [hget] at h2
      by_cases hx : x ∈ hb i
      · rw [if_pos hx] at h2
        exact .inr ⟨.inl ⟨hin x hx, h2⟩, fun hl => (hliveA x hl).1 hx, hout x (.inl (hin x hx))⟩
      · rw [if_neg hx] at h2
        exact .inl h2
    · have hge : (st (i + 1)).m.next ≤ x := Nat.le_trans (hmono (i + 1) p h1 (by omega)) h3
      have hge0 := hmono i (i + 1) (by omega) (by omega)
      exact .inr ⟨.inr ⟨p, by omega, h2, h3, h4, h5⟩, fun hl => by have := (hliveA x hl).2.2; omega, hout x (.inr hge)⟩
  have hq0 : ∀ q, MCut tb ops wb (fun j => S j ∨ j = i) q → i + 1 ≤ q ∧ ∀ p op, i + 1 ≤ p → p < q → ops[p]? = some op → ¬ (wb p = true ∧ cls tb op.op = .L) := by
    intro q hq
    refine ⟨(hq.2 i o h.ho hw hc).1 (.inr rfl), fun p op hp hp' hop hx => ?_⟩
    rcases (hq.2 p op hop hx.1 hx.2).2 hp' with hS | rfl
    · have := (hmi.2 p op hop hx.1 hx.2).1 hS; omega
    · omega
  have hwf1 : ∀ x, (st (i + 1)).m.next ≤ x → (st (i + 1)).m.get x = none := by
    intro x hx
    rw [hget]
    have := hmono i (i + 1) (by omega) (by omega)
    rw [if_neg (fun hx' => by have := hin x hx'; omega)]
    exact hs.rel.wf x (by simp only; omega)
  have hobs1 : ∀ x o' l, GR ops st (i + 1) x o' → alive o' = true → ι' x = some l → ∃ o2, w'.heap[l.blk]? = some o2 ∧ OR ι' o' l o2 := by
    intro x o' l hg hal hl
    rcases hroute x o' hg with h1 | ⟨h1, h2, h3⟩
    · exact hs.rel.obs x o' l h1 hal hl
    · rw [h3] at hl
      obtain ⟨o2, e, r⟩ := hI.obs i hmi x o' l h1 hal hl
      exact ⟨o2, by rw [hold x l ⟨o', h1, hal⟩ h2 hl]; exact e, r.mono hle⟩
  have hmix : ∀ x y l l', live A1 x → GL ops st i y → ¬ live (hideF (hb i) (st i).m) y → ι' x = some l → ι y = some l' → l.blk ≠ l'.blk := by
    intro x y l l' hx hy hny hlx hly he
    rcases hst.src x l hx hlx with h1 | ⟨b0, l0, h1, h2, h3⟩
    · have := hI.rng y l' hly; omega
    · have := hI.inj i hmi b0 y l0 l' (hliveA b0 h1).2.1 hy h2 hly (by omega)
      exact hny (this ▸ h1)
  have hinj1 : ∀ x y l l', GL ops st (i + 1) x → GL ops st (i + 1) y → ι' x = some l → ι' y = some l' → l.blk = l'.blk → x = y := by
    rintro x y l l' ⟨ox, hx, hax⟩ ⟨oy, hy, hay⟩ hlx hly he
    rcases hroute x ox hx with h1 | ⟨h1, h2, h3⟩
    · rcases hroute y oy hy with k1 | ⟨k1, k2, k3⟩
      · exact hs.rel.inj x y l l' ⟨ox, h1, hax⟩ ⟨oy, k1, hay⟩ hlx hly he
      · rw [k3] at hly
        exact absurd he (hmix x y l l' ⟨ox, h1, hax⟩ ⟨oy, k1, hay⟩ k2 hlx hly)
    · rw [h3] at hlx
      rcases hroute y oy hy with k1 | ⟨k1, k2, k3⟩
      · exact absurd he.symm (hmix y x l' l ⟨oy, k1, hay⟩ ⟨ox, h1, hax⟩ h2 hly hlx)
      · rw [k3] at hly
        exact hI.inj i hmi x y l l' ⟨ox, h1, hax⟩ ⟨oy, k1, hay⟩ hlx hly he
  have hGL : ∀ q, MCut tb ops wb (fun j => S j ∨ j = i) q → ∀ x o', GR ops st q x o' → GR ops st (i + 1) x o' := fun q hq x o' hg => h.row.GR_back q (hq0 q hq).1 hq.1 (hq0 q hq).2 hg
  refine ⟨hI.cl.add h.ready, hs.tr.1, h.tm_next hI hs.tr, hs.ro, hs.dr, fun q hq => h.row.wf_fwd hwf1 q (hq0 q hq).1 hq.1 (hq0 q hq).2, fun q hq x o' l hg hal hl => hobs1 x o' l (hGL q hq x o' hg) hal hl, hs.rel.rng,
    fun q hq x y l l' ⟨ox, hx, hax⟩ ⟨oy, hy, hay⟩ hlx hly he => hinj1 x y l l' ⟨ox, hGL q hq x ox hx, hax⟩ ⟨oy, hGL q hq y oy hy, hay⟩ hlx hly he,
    fun j hj hn x hx1 hx2 => ?_, fun x hx => ?_, fun q hq x l ⟨ox, hx, hax⟩ hl => ?_, fun c hc hn => ?_, Nat.le_trans hI.sz hst.size, hst.os.trans hI.os, hst.tape.trans hI.tape, hst.output.trans hI.output, Nat.le_trans hI.dn hst.drawn, fun x l hl hs => ?_, fun q hq x t k c hx => ?_⟩
  · have hji : j ≠ i := fun e => hn (.inr e)
    have hSj : ¬ S j := fun e => hn (.inl e)
    rw [hout x]
    · exact hI.free j hj hSj x hx1 hx2
    · rcases Nat.lt_or_gt_of_ne hji with h6 | h6
      · have := hmono (j + 1) i (by omega) (by omega); left; omega
      · have := hmono (i + 1) j (by omega) (by omega); right; omega
  · have h1 := hmono 0 i (by omega) (by omega)
    have h2 := hmono (i + 1) ops.size (by omega) (Nat.le_refl _)
    rw [hout x (by omega)]
    exact hI.out x hx
  · rcases hroute x ox (hGL q hq x ox hx) with h1 | ⟨h1, h2, h3⟩
    · rcases hst.src x l ⟨ox, h1, hax⟩ hl with k1 | ⟨b0, l0, k1, k2, k3⟩
      · exact .inl (Nat.le_trans hI.sz k1)
      · rcases hI.src i hmi b0 l0 (hliveA b0 k1).2.1 k2 with m1 | ⟨b1, l1, m1, m2, m3⟩
        · left; omega
        · exact .inr ⟨b1, l1, m1, m2, by omega⟩
    · rw [h3] at hl
      exact hI.src i hmi x l ⟨ox, h1, hax⟩ hl
  · rw [hst.fr c (Nat.lt_of_lt_of_le hc hI.sz)]
    · exact hI.fr c hc hn
    · intro x l hx hl he
      rcases hI.src i hmi x l (hliveA x hx).2.1 hl with m1 | ⟨b1, l1, m1, m2, m3⟩
      · omega
      · exact hn b1 l1 m1 m2 (by omega)
  · have hlx : ι x = some l := by rw [hI.out x (.inl hs.1)]; exact hl
    obtain ⟨k1, k2⟩ := hI.kp x l hl hs
    have k3 := k1 i hmi
    have hlt0 : x < (st i).m.next := Nat.lt_of_lt_of_le hs.1 (hmono 0 i (by omega) (by omega))
    obtain ⟨_, ty, fz, c, hx2, hx3⟩ := hs
    have key : (st (i + 1)).m.get x = (st 0).m.get x ∧ w'.heap[l.blk]? = w.heap[l.blk]? := by
      by_cases hx : x ∈ hb i
      · refine ⟨by rw [hget, if_pos hx, k3], hold x l ⟨_, .inl ⟨hlt0, k3.trans hx2⟩, rfl⟩ (fun hl => (hliveA x hl).1 hx) hlx⟩
      · have hh : (hideF (hb i) (st i).m).get x = (st 0).m.get x := by rw [hideF_get, if_neg hx, k3]
        obtain ⟨e1, e2⟩ := hst.kept x l hlx ⟨by rw [hnx0]; exact hlt0, ty, fz, c, hh.trans hx2, hx3⟩
        exact ⟨by rw [hget, if_neg hx, e1, hh], e2⟩
    refine ⟨fun q hq => ?_, key.2.trans k2⟩
    rw [(h.row.get_fwd q (hq0 q hq).1 hq.1 (hq0 q hq).2 x (by have := hmono i (i + 1) (by omega) (by omega); omega)).1, key.1]
  · have hx := h.row.gl_back q (hq0 q hq).1 hq.1 (hq0 q hq).2 hx
    rw [hget] at hx
    split at hx
    · obtain ⟨l, e, r⟩ := hI.gl i hmi x t k c hx
      exact ⟨l, hle x l e, r⟩
    · exact hs.rel.gl x t k c hx

theorem exists_last {p : Nat → Prop} {i : Nat} : ∀ n, (∃ j, i < j ∧ j < n ∧ p j) → ∃ j, i < j ∧ j < n ∧ p j ∧ ∀ k, j < k → k < n → ¬ p k := by
  intro n
  induction n with
  | zero => rintro ⟨j, _, h, _⟩; omega
  | succ n ih =>
    rintro ⟨j, h1, h2, h3⟩
    by_cases hn : i < n ∧ p n
    · exact ⟨n, hn.1, by omega, hn.2, fun k hk hk' => by omega⟩
    · have hjn : j ≠ n := by rintro rfl; exact hn ⟨h1, h3⟩
      obtain ⟨k, k1, k2, k3, k4⟩ := ih ⟨j, h1, by omega, h3⟩
      refine ⟨k, k1, by omega, k3, fun m hm hm' hp => ?_⟩
      by_cases hmn : m = n
      · subst hmn; exact hn ⟨by omega, hp⟩
      · exact k4 m hm (by omega) hp
theorem exists_first {p : Nat → Prop} {n : Nat} (h : ∃ j, j < n ∧ p j) : ∃ j, j < n ∧ p j ∧ ∀ k, k < j → ¬ p k := by
  obtain ⟨j, h1, h2⟩ := h
  induction j using Nat.strongRecOn with
  | ind j ih =>
    by_cases he : ∃ k, k < j ∧ p k
    · obtain ⟨k, k1, k2⟩ := he
      exact ih k k1 (by omega) k2
    · exact ⟨j, h1, h2, fun k hk hp => he ⟨k, hk, hp⟩⟩

/-- Wanted changers, all of them in order: so those that are done are those ahead of a place. -/
theorem Stat.earlier (hst : Stat tb ops fl ah) (hcl : Closed ah S) {j k : Nat} {oj ok' : Oper} (hj : ops[j]? = some oj) (hk : ops[k]? = some ok') (hjk : j < k) (cj : cls tb oj.op = .L) (ck : cls tb ok'.op = .L) (hS : S k) : S j := by
  rcases hst.ap j k oj ok' hjk hj hk with ha | ⟨_, _, _, h4, _⟩
  · exact hcl k j hS ha
  · exact absurd ⟨cj, ck⟩ h4

/-- A reader finds a cut at which it answers as in the text's order. -/
theorem Rdy.reader (h : Rdy tb ih ops fl st wb vv hb ah S i o) (hw : wb i = true) (hc : cls tb o.op = .Rd) : ∃ q A, MCut tb ops wb S q ∧ Xt tb ops st wb (st q).m q i A ∧ rOp tb (st i).t A.get o.op = .ok (vv i) := by
  have hlt : i < ops.size := (Array.getElem?_eq_some_iff.1 h.ho).1
  by_cases hB : ∃ j, i < j ∧ j < ops.size ∧ (S j ∧ wb j = true ∧ ∃ oj, ops[j]? = some oj ∧ cls tb oj.op = .L)
  · obtain ⟨j, hj1, hj2, ⟨hSj, hwj, oj, hoj, hcj⟩, hlast⟩ := exists_last ops.size hB
    refine ⟨j + 1, _, ⟨by omega, fun k o' hk hwk hck => ⟨fun hS => ?_, fun hle => ?_⟩⟩, .self, ?_⟩
    · rcases Nat.lt_or_ge k (j + 1) with h1 | h1
      · exact h1
      · exact absurd ⟨hS, hwk, o', hk, hck⟩ (hlast k (by omega) (Array.getElem?_eq_some_iff.1 hk).1)
    · rcases Nat.lt_or_ge k j with h1 | h1
      · exact h.sta.earlier h.cl hk hoj h1 hck hcj hSj
      · rw [show k = j by omega]; exact hSj
    · refine h.row.late i j o oj (Nat.zero_le _) hj1 h.ho hoj hw hwj hc hcj ?_
      rcases h.sta.ap i j o oj hj1 h.ho hoj with ha | ⟨_, _, _, _, h5, _⟩
      · exact absurd (h.cl j i hSj ha) h.hn
      · exact h5 hc hcj
  · by_cases hA : ∃ j, j < i ∧ (¬ S j ∧ wb j = true ∧ ∃ oj, ops[j]? = some oj ∧ cls tb oj.op = .L)
    · obtain ⟨j, hj1, ⟨hSj, hwj, oj, hoj, hcj⟩, hfirst⟩ := exists_first hA
      have hE := h.row.early j i oj o (Nat.zero_le _) hj1 hoj h.ho hwj hw hcj hc (by
        rcases h.sta.ap j i oj o hj1 hoj h.ho with ha | ⟨_, _, _, _, _, h6, _⟩
        · exact absurd (h.ready j ha) hSj
        · exact h6 hcj hc)
      obtain ⟨A, hA, hrd⟩ := hE
      refine ⟨j, A, ⟨by omega, fun k o' hk hwk hck => ⟨fun hS => ?_, fun hl => ?_⟩⟩, hA, hrd⟩
      · rcases Nat.lt_trichotomy k j with h1 | rfl | h1
        · exact h1
        · exact absurd hS hSj
        · exact absurd (h.sta.earlier h.cl hoj hk h1 hcj hck hS) hSj
      · exact Classical.byContradiction fun hS => hfirst k hl ⟨hS, hwk, o', hk, hck⟩
    · refine ⟨i, _, ⟨by omega, fun k o' hk hwk hck => ⟨fun hS => ?_, fun hl => ?_⟩⟩, .self, ?_⟩
      · rcases Nat.lt_trichotomy k i with h1 | rfl | h1
        · exact h1
        · exact absurd hS h.hn
        · exact absurd ⟨k, h1, (Array.getElem?_eq_some_iff.1 hk).1, hS, hwk, o', hk, hck⟩ hB
      · exact Classical.byContradiction fun hS => hA ⟨k, hl, hS, hwk, o', hk, hck⟩
      · have hk := (h.row.step i o (Nat.zero_le _) h.ho).kind hw
        rw [hc] at hk
        exact hk.1

include ok in
/-- One operation. -/
theorem Inv.step (hcall : CallSnd tb ih) (hI : Inv tb ops st wb ah b ι0 w0 S ι a w) (h : Rdy tb ih ops fl st wb vv hb ah S i o) (hmono : ∀ p q, p ≤ q → q ≤ ops.size → (st p).m.next ≤ (st q).m.next)
    {k : List Item} {cs : List Frame} {rest : List Nat} :
    ∃ ι' a' w', Steps tb.P (lone (b.atR a (.inRegion ops (i :: rest) :: k)) cs w) (lone (b.atR a' (.inRegion ops rest :: k)) cs w') ∧ Inv tb ops st wb ah b ι0 w0 (fun j => S j ∨ j = i) ι' a' w' := by
  have hs := h.row.step i o (Nat.zero_le _) h.ho
  have htr := hI.tr
  have hwant := wantF_sound (h.want hI.none_of_ge) htr
  have hev := h.evs hI.none_of_ge
  cases hw : wb i with
  | false =>
    have hL : ¬ (wb i = true ∧ cls tb o.op = .L) := fun hx => by rw [hw] at hx; cases hx.1
    have hstep := stepR_op_skip (P := tb.P) (b := b) (a := a) (k := k) (cs := cs) (w := w) (ops := ops) (i := i) (rest := rest) (by rw [h.ho]; simp [hwant, hw])
    rw [h.ho, Option.bind_some] at hstep
    have hu : VR ι (vv i) undef := by rw [(hs.no hw).1]; exact .tuple .nil
    exact ⟨ι, _, w, .one hstep, hI.quiet h hL hu⟩
  | true =>
    rw [hw] at hwant
    have hk := hs.kind hw
    cases hc : cls tb o.op with
    | P =>
      rw [hc] at hk
      have hL : ¬ (wb i = true ∧ cls tb o.op = .L) := fun hx => by rw [hc] at hx; cases hx.2
      obtain ⟨v', e, hv⟩ := pOp_sound ok (by rw [← pOp_congr hev]; exact hk.1) htr
      exact ⟨ι, _, w, .one (stepR_op_next h.ho hwant (not_defer_of_cls (tb := tb) (by rw [hc]; simp)) (e w) (.inl rfl)), hI.quiet h hL hv⟩
    | Rd =>
      rw [hc] at hk
      have hL : ¬ (wb i = true ∧ cls tb o.op = .L) := fun hx => by rw [hc] at hx; cases hx.2
      obtain ⟨q, A, hq, hX, hrd⟩ := h.reader hw hc
      obtain ⟨v', e, hv⟩ := rOp_sound ok (hI.relX h.row hmono hq hX) (by rw [← rOp_congr hev]; exact hrd) hc htr
      exact ⟨ι, _, w, .one (stepR_op_next h.ho hwant (not_defer_of_cls (tb := tb) (by rw [hc]; simp)) e (.inl rfl)), hI.quiet h hL hv⟩
    | Al =>
      rw [hc] at hk
      obtain ⟨ob, way, h1, h2, h3⟩ := hk
      have hlt : i < ops.size := (Array.getElem?_eq_some_iff.1 h.ho).1
      have hN : ι (st i).m.next = none := hI.free i hlt h.hn _ (Nat.le_refl _) (by rw [h2, next_alloc]; omega)
      have hrel0 : Rel ι ⟨.e, (st i).m.next⟩ w :=
        ⟨fun _ _ => rfl, (fun _ _ _ hx _ _ => by cases hx), hI.rng, (fun x _ _ _ hx => by obtain ⟨_, hx, _⟩ := hx; cases hx), (fun _ _ _ _ hx => by cases hx)⟩
      obtain ⟨ι', w', v', e, hv, hrel, hst⟩ := aOp_sound ok hrel0 (by rw [← aOp_congr hev]; exact h1) htr hN
      refine ⟨ι', _, w', .one (stepR_op_next h.ho hwant (not_defer_of_cls (tb := tb) (by rw [hc]; simp)) e (.inl rfl)), hI.maker h hw hc hmono h2 (by rw [h3]; exact hv) hrel hst⟩
    | L =>
      rw [hc] at hk
      obtain ⟨A1, h1, h2⟩ := hk
      have hlt : i < ops.size := (Array.getElem?_eq_some_iff.1 h.ho).1
      have hmi := h.mcut hc
      have hrel := hI.rel hmi
      have hrelA : Rel ι (hideF (hb i) (st i).m) w := by
        refine ⟨fun x hx => ?_, fun x o' l hx hal hl => ?_, hrel.rng, fun x y l l' hx hy => ?_, fun x t k c hx => ?_⟩
        · rw [hideF_next] at hx
          rw [hideF_get, if_neg]
          · exact hrel.wf x hx
          · intro hx'
            obtain ⟨o', ho'⟩ := (backF_get h2).1 x hx'
            rw [hrel.wf x hx] at ho'; cases ho'
        · rw [hideF_get] at hx
          split at hx
          · cases hx; cases hal
          · exact hrel.obs x o' l hx hal hl
        · have hl : ∀ x, live (hideF (hb i) (st i).m) x → live (st i).m x := by
            rintro x ⟨o', hx, hal⟩
            rw [hideF_get] at hx
            split at hx
            · cases hx; cases hal
            · exact ⟨o', hx, hal⟩
          exact hrel.inj x y l l' (hl x hx) (hl y hy)
        · rw [hideF_get] at hx
          split at hx
          · cases hx
          · exact hrel.gl x t k c hx
      have hsnd := Does.snd ok hcall h1 (t' := snap ops st S (st 0).n) (n := (st 0).n) (d := (st 0).d) (ro := (st 0).ro) hev h.dst_lt ops i
      obtain ⟨ι', w', a', stp, hsr, hss⟩ := hsnd.2 ι b a k cs w rest ⟨hrelA, htr, hI.ro, hI.dr⟩ (fun x hx1 hx2 => by
        simp only [hideF_next] at hx1
        rw [← backF_next h2] at hx2
        exact hI.free i hlt h.hn x hx1 hx2) hwant h.ho
      exact ⟨ι', a', w', stp, hI.changer h hw hc hmono h2 hsr hss.stp⟩

include ok in
/-- All of them. -/
theorem Inv.steps (hcall : CallSnd tb ih) (hr : Row tb ih ops fl 0 st wb vv hb) (hsta : Stat tb ops fl ah) (hmono : ∀ p q, p ≤ q → q ≤ ops.size → (st p).m.next ≤ (st q).m.next) {k : List Item} {cs : List Frame} :
    ∀ (rest : List Nat) (S : Nat → Prop) (ι : Inj) (a : Act) (w : World), Sched ops S rest → Inv tb ops st wb ah b ι0 w0 S ι a w →
    ∃ ι' a' w' S', Steps tb.P (lone (b.atR a (.inRegion ops rest :: k)) cs w) (lone (b.atR a' (.inRegion ops [] :: k)) cs w') ∧ Inv tb ops st wb ah b ι0 w0 S' ι' a' w' ∧ ∀ i, i < ops.size → S' i
  | [], S, ι, a, w, hs, hI => by
    cases hs with
    | nil h => exact ⟨ι, a, w, S, .refl _ _, hI, h⟩
  | i :: rest, S, ι, a, w, hs, hI => by
    cases hs with
    | cons ho hn he h =>
      obtain ⟨ι1, a1, w1, st1, hI1⟩ := Inv.step ok hcall hI ⟨hr, hsta, hI.cl, ho, hn, hI.cl.ready hsta ho he⟩ hmono (k := k) (cs := cs) (rest := rest)
      obtain ⟨ι2, a2, w2, S2, st2, hI2, hall⟩ := Inv.steps hcall hr hsta hmono rest _ ι1 a1 w1 h hI1
      exact ⟨ι2, a2, w2, S2, st1.trans st2, hI2, hall⟩

end rows
end Go.Am

/-
  The abstract machine AM, part 39: regions whose order is open.
-/
namespace Go.Am
variable {tb : Tab} (ok : TabOk tb) {ih : Code → St → R (Ex × St)}

include ok in
theorem drawSnd (hcall : CallSnd tb ih) : DrawSnd tb ih := by
  intro ops s s1 h id
  unfold regionF at h
  simp only [cond_true] at h
  obtain ⟨fl, h1, h2⟩ := R.bind_ok h
  obtain ⟨⟨e, s'⟩, h3, h4⟩ := R.bind_ok h2
  clear h h2
  cases e with
  | nrm =>
    simp only [R.ok.injEq, Prod.mk.injEq, true_and] at h4
    subst h4
    obtain ⟨ah, hsta⟩ := stat_of_drawInfo h1
    obtain ⟨st, wb, vv, hb, e0, e1, hrow⟩ := row_of_runD (tb := tb) (ih := ih) ops.toList 0 (fun j => by simp) h3
    have hr := hrow.row
    clear hrow
    have e1 : st ops.size = s' := by rw [← e1]; simp
    have hmono : ∀ p q, p ≤ q → q ≤ ops.size → (st p).m.next ≤ (st q).m.next := fun p q h1 h2 => hr.next_mono ok hcall h1 h2
    subst e0 e1
    refine ⟨hmono 0 ops.size (Nat.zero_le _) (Nat.le_refl _), fun ι b a k cs w hs hf => ?_⟩
    have hsched := linearise_sched hsta.back ops.size (w.tape w.drawn (.order b.fn id)) (Array.replicate ops.size false) (by simp) (by
      unfold missing
      exact Nat.le_trans (List.length_filter_le _ _) (by simp))
    have hsched := hsched.congr (S' := fun _ => False) (fun j => by
      simp only [Array.getD_eq_getD_getElem?, Array.getElem?_replicate]
      split <;> simp)
    have hq0 : ∀ q, MCut tb ops wb (fun _ => False) q → ∀ p op, 0 ≤ p → p < q → ops[p]? = some op → ¬ (wb p = true ∧ cls tb op.op = .L) :=
      fun q hq p op _ hp hop hx => (hq.2 p op hop hx.1 hx.2).2 hp
    have hcase : ∀ q, MCut tb ops wb (fun _ => False) q → ∀ x o l, GR ops st q x o → ι x = some l → (st 0).m.get x = some o := by
      intro q hq x o l hg hl
      rcases hr.GR_back q (Nat.zero_le _) hq.1 (hq0 q hq) hg with ⟨_, k2⟩ | ⟨p, _, k2, k3, k4, _⟩
      · exact k2
      · have a1 := hmono 0 p (by omega) (by omega)
        have a2 := hmono (p + 1) ops.size (by omega) (Nat.le_refl _)
        rw [hf x (by omega) (by omega)] at hl; cases hl
    have hI : Inv tb ops st wb ah b ι { w with drawn := w.drawn + 1 } (fun _ => False) ι a { w with drawn := w.drawn + 1 } := by
      refine ⟨fun _ _ h => h.elim, hs.tr.1, fun x c v hc hg => ?_, hs.ro, hs.dr, fun q hq => hr.wf_fwd hs.rel.wf q (Nat.zero_le _) hq.1 (hq0 q hq), fun q hq x o l hg hal hl => hs.rel.obs x o l (hcase q hq x o l hg hl) hal hl, hs.rel.rng,
        fun q hq x y l l' ⟨ox, hx, hax⟩ ⟨oy, hy, hay⟩ hlx hly he => hs.rel.inj x y l l' ⟨ox, hcase q hq x ox l hx hlx, hax⟩ ⟨oy, hcase q hq y oy l' hy hly, hay⟩ hlx hly he, fun i hi _ x hx1 hx2 => ?_, fun _ _ => rfl,
        fun q hq x l ⟨ox, hx, hax⟩ hl => .inr ⟨x, l, ⟨ox, hcase q hq x ox l hx hl, hax⟩, hl, rfl⟩, fun _ _ _ => rfl, Nat.le_refl _, rfl, rfl, rfl, Nat.le_refl _,
        fun x l _ hs => ⟨fun q hq => (hr.get_fwd q (Nat.zero_le _) hq.1 (hq0 q hq) x hs.1).1, rfl⟩,
        fun q hq x t k c hx => hs.rel.gl x t k c (hr.gl_back q (Nat.zero_le _) hq.1 (hq0 q hq) hx)⟩
      · rw [hr.t_same x 0 c (Nat.zero_le _) hc.1 fun p o _ hp ho hd => (hc.2 p o ho hd).2 hp] at hg
        exact hs.tr.2 x v hg
      · have a1 := hmono 0 i (by omega) (by omega)
        have a2 := hmono (i + 1) ops.size (by omega) (Nat.le_refl _)
        exact hf x (by omega) (by omega)
    obtain ⟨ι', a', w', S', stp, hI', hall⟩ := Inv.steps ok hcall hr hsta hmono (k := k) (cs := cs) _ _ _ _ _ hsched hI
    have hq : MCut tb ops wb S' ops.size := ⟨Nat.le_refl _, fun j o hj _ _ => by
      have := (Array.getElem?_eq_some_iff.1 hj).1
      exact ⟨fun _ => this, fun _ => hall j this⟩⟩
    obtain ⟨hn1, hn2, hn3⟩ := hr.n_same ops.size (Nat.le_refl _)
    have hrel := hI'.rel hq
    refine ⟨ι', w', a', k, (Steps.head ?_ stp).trans (.one stepR_region_end), rfl, ⟨hrel, ⟨by rw [hI'.size, hn1], fun x v hv => ?_⟩, by rw [hn3]; exact hI'.ro, by rw [hn2]; exact hI'.dr⟩,
      ⟨⟨hmono 0 ops.size (Nat.zero_le _) (Nat.le_refl _), hI'.out, fun x l ⟨o, hx, hax⟩ hl => ?_, hI'.fr, hI'.sz, hI'.os, hI'.tape, hI'.output, fun x l hl hs => ⟨(hI'.kp x l hl hs).1 _ hq, (hI'.kp x l hl hs).2⟩, Nat.le_trans (Nat.le_succ _) hI'.dn⟩, hn1, hn3⟩⟩
    · rw [stepR_region_draw]
      unfold Region.schedule
      rw [ok.mixed]
      rfl
    · refine hI'.tm x ops.size v ⟨Nat.le_refl _, fun j o hj _ => ?_⟩ hv
      have := (Array.getElem?_eq_some_iff.1 hj).1
      exact ⟨fun _ => this, fun _ => hall j this⟩
    · refine hI'.src ops.size hq x l ⟨o, .inl ⟨?_, hx⟩, hax⟩ hl
      rcases Nat.lt_or_ge x (st ops.size).m.next with h | h
      · exact h
      · rw [hI'.wf _ hq x h] at hx; cases hx
  | _ => simp at h4

end Go.Am

/-
  The abstract machine AM, part 40: functions without a text; calls.
-/
namespace Go.Am
variable {tb : Tab} (ok : TabOk tb) {ih : Code → St → R (Ex × St)} {ι : Inj}

theorem digits_size : ∀ (n t : Nat) (acc : Array Value), (Extern.BytealgMakeNoZero.digits n t acc).size = acc.size + n
  | 0, _, _ => rfl
  | n + 1, t, acc => by
    rw [Extern.BytealgMakeNoZero.digits, digits_size n, Array.size_push]; omega
theorem digits_one : ∀ (n t : Nat) (acc : Array Value), (∀ v ∈ acc, oneCell v = true) → ∀ v ∈ Extern.BytealgMakeNoZero.digits n t acc, oneCell v = true
  | 0, _, _, h => h
  | n + 1, t, acc, h => by
    rw [Extern.BytealgMakeNoZero.digits]
    refine digits_one n _ _ fun v hv => ?_
    rcases Array.mem_push.1 hv with h1 | rfl
    · exact h v h1
    · rfl

theorem callFunc_ext {P : Program} {f : FuncId} {fn : Func} (hf : P.funcs[f]? = some fn) (hb : fn.body = none) (hn : (fn.name == "runtime.NumGoroutine") = false) (hx : Extern.findNext fn = none) {e : Array Value → Sem Value}
    (he : Extern.find fn = some e) (args : Array Value) (w w' : World) (v : Value) (h : (e args).run P w = .ok v w') : (callFunc f args).run P w = .ok (.value v) w' := by
  unfold callFunc
  simp only [Sem.run_bind, run_program, Result.andThen_ok, hf, hn, hb, hx, he, Option.isNone_none, if_true, Bool.false_eq_true, if_false, run_mark, h, Sem.run_pure]

theorem makeNoZero_eq (ps rs : Array TypeId) (n : Int) : Extern.BytealgMakeNoZero.makeNoZero ps rs #[.int .i64 n] = (do
    let some t := rs[0]? | stuck "bytealg.MakeNoZero: no result type"
    let .slice elem ← underlying t | stuck "bytealg.MakeNoZero: slice type expected"
    if n < 0 || n > 2 ^ 48 then runtimePanic (.error "makeslice: len out of range")
    let cap ← choose (.appendCap n.toNat 0 elem)
    askRoom cap
    let bytes ← choose (.extern "internal/bytealg.MakeNoZero.bytes" 0)
    let a ← newRow elem (Extern.BytealgMakeNoZero.digits cap bytes #[])
    pure (.slice (some a) n.toNat cap)) := rfl
theorem clone_eq (t : TypeId) (r : Nat) : Extern.MapsClone.clone #[.iface t (.map (some r))] = (do
    let .map entries clock ← getObj r | stuck "maps.clone: a map expected"
    pure (.iface t (.map (some (← newObj (.map entries clock)))))) := rfl

theorem add64_run (x y c : Nat) (hc : c ≤ 1) {e : Array Value → Sem Value} (he : (Extern.MathBitsCarry.rows[0]?).map (·.2) = some e) (P : Program) (w : World) :
    (e #[.int .u64 (.ofNat x), .int .u64 (.ofNat y), .int .u64 (.ofNat c)]).run P w = .ok (.tuple #[.int .u64 (.ofNat ((x + y + c) % 18446744073709551616)), .int .u64 (.ofNat ((x + y + c) / 18446744073709551616))]) w := by
  cases he
  rcases (show c = 0 ∨ c = 1 by omega) with rfl | rfl
  · rfl
  · rfl

include ok in
theorem externF_sound {k : Nat} {f : FuncId} {fn : Func} {args : List Value} {A A' : Mem} {v : Value} (hf : tb.fn.get f = some fn) (hx : ExR k fn) (h : externF tb k fn args A = .ok (v, A')) :
    A.next ≤ A'.next ∧ ∀ (ι : Inj) (w : World) (args' : Array Value), Rel ι A w → VRs ι args args'.toList → Free ι A A' →
      ∃ ι' w' v', (callFunc f args').run tb.P w = .ok (.value v') w' ∧ VR ι' v v' ∧ Rel ι' A' w' ∧ Stp ι A w ι' A' w' := by
  have hf' := ok.fn _ _ hf
  obtain ⟨hb, hn, hnx, hk⟩ := hx
  unfold externF at h
  split at h
  · simp only [R.ok.injEq, Prod.mk.injEq] at h
    obtain ⟨rfl, rfl⟩ := h
    refine ⟨Nat.le_refl _, fun ι w args' hr ha hfree => ?_⟩
    obtain ⟨l⟩ := args'
    cases ha with
    | cons hv ht =>
      cases ht with
      | nil => exact ⟨ι, w, _, callFunc_ext hf' hb hn hnx hk _ w w _ rfl, hv, hr, Stp.refl _ _ _⟩
  · rename_i a _ _ b _ _
    split at h
    · rename_i p q r hp hr0
      split at h
      · rename_i e hd
        have hb1 := R.bind_ok h
        clear h
        obtain ⟨size, hz, h1⟩ := hb1
        cases hq : Nat.beq p q with
        | false => rw [hq] at h1; cases h1
        | true =>
          rw [hq, cond_true] at h1
          obtain rfl := Nat.eq_of_beq_eq_true hq
          have hb2 := R.bind_ok h1
          clear h1
          obtain ⟨u, hap, h⟩ := hb2
          simp only [R.ok.injEq, Prod.mk.injEq] at h
          obtain ⟨rfl, rfl⟩ := h
          unfold apartF at hap
          split at hap
          · rename_i tA nA fzA cA tB xB fzB cB hsa hsb hga hgb
            split at hap
            · rename_i v0 hv0
              have hne : a.block ≠ b.block := fun e => by rw [e] at hap; simp at hap
              refine ⟨Nat.le_refl _, fun ι w args' hr ha hfree => ?_⟩
              obtain ⟨l⟩ := args'
              obtain ⟨ab, ao, as⟩ := a
              obtain ⟨bb, bo, bs⟩ := b
              simp only at hsa hsb hga hgb hne
              subst hsa hsb
              have hps : fn.params = #[p, p] := by apply Array.toList_inj.1; rw [hp]
              have hrs : fn.resultTypes = #[r] := by apply Array.toList_inj.1; rw [hr0]
              have fin : ∀ (la lb : Loc) (oa ob la1 lb1 ca cb : Nat), ι ab = some la → ι bb = some lb →
                  (Extern.SlicesOverlaps.overlaps fn.params fn.resultTypes #[.slice (some ⟨la.blk, oa, none⟩) la1 ca, .slice (some ⟨lb.blk, ob, none⟩) lb1 cb]).run tb.P w = .ok (.bool false) w := by
                intro la lb oa ob la1 lb1 ca cb hla hlb
                obtain ⟨o1, hw1, cs1, fr1, rfl, hcs1, _, hk1⟩ := hr.obs _ _ _ hga rfl hla
                obtain ⟨o2, hw2, cs2, fr2, rfl, hcs2, hc2, _⟩ := hr.obs _ _ _ hgb rfl hlb
                obtain ⟨_, _, rfl⟩ := hk1
                obtain ⟨v', hv', _⟩ := hc2 0 v0 hv0
                have hsz2 : cs2.size ≠ 0 := by have := (Array.getElem?_eq_some_iff.1 hv').1; omega
                have hbl : la.blk ≠ lb.blk := fun e => hne (hr.inj ab bb la lb ⟨_, hga, rfl⟩ ⟨_, hgb, rfl⟩ hla hlb e)
                rw [hps, hrs]
                exact Lib.run_overlaps_apart w p r e (und_eq ok hd) size (sizeF_run ok hz) ⟨la.blk, oa, none⟩ ⟨lb.blk, ob, none⟩ la1 ca lb1 cb hbl tA tB cs1.size cs2.size
                  (by simp only [World.shape?, hw1]) (by simp only [World.shape?, hw2]) hsz2 (by simp [World.frozen?, hw1]) (by simp [World.frozen?, hw1])
              cases ha with
              | cons hv ht =>
                cases ht with
                | cons hu ht =>
                  cases ht with
                  | nil =>
                    cases hv with
                    | sl hla _ => cases hu with
                      | sl hlb _ => exact ⟨ι, w, _, callFunc_ext hf' hb hn hnx hk _ w w _ (fin _ _ _ _ _ _ _ _ hla hlb), .bool _, hr, Stp.refl _ _ _⟩
                      | slX hlb _ _ _ _ _ _ => exact ⟨ι, w, _, callFunc_ext hf' hb hn hnx hk _ w w _ (fin _ _ _ _ _ _ _ _ hla hlb), .bool _, hr, Stp.refl _ _ _⟩
                    | slX hla _ _ _ _ _ _ => cases hu with
                      | sl hlb _ => exact ⟨ι, w, _, callFunc_ext hf' hb hn hnx hk _ w w _ (fin _ _ _ _ _ _ _ _ hla hlb), .bool _, hr, Stp.refl _ _ _⟩
                      | slX hlb _ _ _ _ _ _ => exact ⟨ι, w, _, callFunc_ext hf' hb hn hnx hk _ w w _ (fin _ _ _ _ _ _ _ _ hla hlb), .bool _, hr, Stp.refl _ _ _⟩
            · cases hap
          · cases hap
      · cases h
    · cases h
  · rename_i n
    split at h
    · rename_i p ps hp
      split at h
      · rename_i e hd
        revert h
        generalize hq : (Nat.ble _ 1048576 && _) = q
        intro h
        cases q with
        | false => cases h
        | true =>
          simp only [cond_true, R.ok.injEq, Prod.mk.injEq] at h
          obtain ⟨rfl, rfl⟩ := h
          refine ⟨by rw [next_alloc]; omega, fun ι w args' hr ha hfree => ?_⟩
          simp only [Bool.and_eq_true] at hq
          have hn2 : n ≤ 1048576 := Nat.le_of_ble_eq_true hq.1
          obtain ⟨l⟩ := args'
          cases ha with
          | cons hv ht =>
            cases ht
            cases hv
            have h0 : fn.resultTypes[0]? = some p := by
              have : fn.resultTypes.toList[0]? = some p := by rw [hp]; rfl
              rwa [Array.getElem?_toList] at this
            let cap := (Question.appendCap n 0 e).cut (w.tape w.drawn (.appendCap n 0 e))
            have hcap : n ≤ cap ∧ cap < 2 ^ 63 := by
              show n ≤ n + _ % (2 ^ 63 - n) ∧ n + _ % (2 ^ 63 - n) < 2 ^ 63
              have : w.tape w.drawn (.appendCap n 0 e) % (2 ^ 63 - n) < 2 ^ 63 - n := Nat.mod_lt _ (by omega)
              omega
            let bs := (Question.extern "internal/bytealg.MakeNoZero.bytes" 0).cut (w.tape (w.drawn + 1) (.extern "internal/bytealg.MakeNoZero.bytes" 0))
            let cs := Extern.BytealgMakeNoZero.digits cap bs #[]
            have hcs : cs.size = cap := by simp only [cs, digits_size]; simp
            have hN : ι A.next = none := hfree _ (Nat.le_refl _) (by rw [next_alloc]; omega)
            let w' : World := { w with heap := w.heap.push (.cells cs e), drawn := w.drawn + 2 }
            have hrun : (Extern.BytealgMakeNoZero.makeNoZero fn.params fn.resultTypes #[.int .i64 (.ofNat n)]).run tb.P w = .ok (.slice (some ⟨w.heap.size, 0, none⟩) n cap) w' := by
              have w1 : (decide ((Int.ofNat n) < 0) || decide ((Int.ofNat n) > 2 ^ 48)) = false := by
                simp only [Int.ofNat_eq_natCast, Bool.or_eq_false_iff, decide_eq_false_iff_not]; omega
              rw [makeNoZero_eq]
              simp only [h0, Sem.run_bind, und_run ok hd, Result.andThen_ok, w1, Bool.false_eq_true, if_false, Sem.run_pure, run_choose, Question.forced, run_askRoom, newRow, run_newObj]
              rfl
            obtain ⟨ι', e1, hrel, hst⟩ := hr.come (w' := w') (ob := .cells e .row 0 (T.puts .e 0 (List.replicate n (.chan (some 0))))) (o' := .cells cs e) (sz := cap) hN (fun _ k _ h => by simp only [Ob.cells.injEq, GB] at h; omega) (Wu_push w _ _ (by simp)) (by simp [w']) (fun ι' hi hbb => by
              refine ⟨cs, (0, 0), rfl, hcs, fun i v hv => ?_, Nat.zero_le _⟩
              rw [T.get_puts] at hv
              by_cases hi : 0 ≤ i ∧ i < 0 + (List.replicate n (Value.chan (some 0))).length
              · rw [if_pos hi] at hv
                rw [List.getElem?_replicate] at hv
                split at hv
                · cases hv
                  have hlt : i < cs.size := by simp at hi; omega
                  exact ⟨cs[i], by simp [hlt], .unk (digits_one _ _ _ (by simp) _ (Array.getElem_mem hlt))⟩
                · cases hv
              · rw [if_neg hi, T.get_e] at hv; cases hv)
            refine ⟨ι', w', _, callFunc_ext hf' hb hn hnx hk _ w w' _ hrun, ?_, hrel, hst⟩
            have he1 : (1 : Nat) < 65536 := by omega
            exact VR.slX e1 (capX_mkX _ _) (by rw [capN_mkX he1]; exact hcap.1) (by rw [capE_mkX he1]; simp) (fun _ => rfl) hcap.2 (by rw [capN_mkX he1]; omega)
      · cases h
    · cases h
  · split at h
    · rename_i es clock hg
      simp only [R.ok.injEq, Prod.mk.injEq] at h
      obtain ⟨rfl, rfl⟩ := h
      refine ⟨by rw [next_alloc]; omega, fun ι w args' hr ha hfree => ?_⟩
      obtain ⟨l⟩ := args'
      cases ha with
      | cons hv ht =>
        cases ht
        cases hv with
        | iface hv =>
          cases hv with
          | map hl =>
            obtain ⟨o', hw, h0, es', rfl, hes⟩ := hr.obs _ _ _ hg rfl hl
            have hN : ι A.next = none := hfree _ (Nat.le_refl _) (by rw [next_alloc]; omega)
            let w' : World := { w with heap := w.heap.push (.map es' clock), drawn := w.drawn }
            obtain ⟨ι', e1, hrel, hst⟩ := hr.come (w' := w') (ob := .map es clock) (o' := .map es' clock) (sz := 0) hN (fun _ _ _ h => by cases h) (Wu_push w _ _ (by simp)) (by simp [w']) (fun ι' hi hbb => ⟨rfl, es', rfl, hes.mono hi⟩)
            refine ⟨ι', w', _, callFunc_ext hf' hb hn hnx hk _ w w' _ ?_, .iface (.map e1), hrel, hst⟩
            rw [clone_eq]
            simp only [Sem.run_bind, getObj_run hw (by simp), Result.andThen_ok, run_newObj, Sem.run_pure]
            rfl
    · cases h
  · rename_i x y c
    revert h
    generalize hq : Nat.ble c 1 = q
    intro h
    cases q with
    | false => cases h
    | true =>
      simp only [cond_true, R.ok.injEq, Prod.mk.injEq] at h
      obtain ⟨rfl, rfl⟩ := h
      refine ⟨Nat.le_refl _, fun ι w args' hr ha hfree => ?_⟩
      obtain ⟨l⟩ := args'
      cases ha with
      | cons h1 ha =>
        cases ha with
        | cons h2 ha =>
          cases ha with
          | cons h3 ha =>
            cases ha
            cases h1
            cases h2
            cases h3
            obtain ⟨e, he⟩ : ∃ e, (Extern.MathBitsCarry.rows[0]?).map (·.2) = some e := ⟨_, rfl⟩
            refine ⟨ι, w, _, callFunc_ext hf' hb hn hnx (hk.trans he) _ w w _ (add64_run x y c (Nat.le_of_ble_eq_true hq) he tb.P w), ?_, hr, Stp.refl _ _ _⟩
            exact .tuple (.cons (.int _ _) (.cons (.int _ _) .nil))
  · cases h

end Go.Am

/-
  The abstract machine AM, part 41: calls are sound; runs are sound; a call of the model.
-/
namespace Go.Am
variable {tb : Tab} (ok : TabOk tb) {ih : Code → St → R (Ex × St)} {ι : Inj}

include ok in
theorem callSnd (hih : CSnd tb.P ih) : CallSnd tb ih := by
  intro cl A r h
  unfold callF at h
  split at h
  · rename_i l args
    exact .inr (round_sound hih h)
  · rename_i f args
    split at h
    · cases h
    · rename_i fn hf
      cases hng : (fn.name == "runtime.NumGoroutine") with
      | true => rw [hng] at h; cases h
      | false =>
        rw [hng, cond_false] at h
        have hf' := ok.fn _ _ hf
        split at h
        · rename_i hb
          split at h
          · rename_i k hk
            obtain ⟨⟨v, A'⟩, h1, h2⟩ := R.bind_ok h
            simp only [R.ok.injEq] at h2
            obtain ⟨hle, hs⟩ := externF_sound ok hf (ok.ex f k fn hk hf) h1
            refine .inr ⟨v, A', h2.symm, hle, fun ι w s fr cs hr hcl hfree => ?_⟩
            obtain ⟨args', hrun, hargs⟩ := hcl
            obtain ⟨ι', w', v', e, hv, hrel, hst⟩ := hs ι w args' hr hargs hfree
            exact ⟨ι', w', v', .inl (hrun.trans e), hv, hrel, hst⟩
          · cases h
        · rename_i c hb
          have hcf : ∀ args' w, (callFunc f args').run tb.P w = .ok (.enter f args') w := by
            intro args' w
            unfold callFunc
            simp only [Sem.run_bind, run_program, Result.andThen_ok, hf', hng, hb, Option.isNone_some, Bool.false_eq_true, if_false, Sem.run_pure]
          split at h
          · rename_i hh hhk
            obtain ⟨⟨v, A'⟩, h1, h2⟩ := R.bind_ok h
            simp only [R.ok.injEq] at h2
            obtain ⟨hle, hs⟩ := ok.hk f hh hhk args A v A' h1
            refine .inr ⟨v, A', h2.symm, hle, fun ι w s fr cs hr hcl hfree => ?_⟩
            obtain ⟨args', hrun, hargs⟩ := hcl
            obtain ⟨ι', w', v', st, hv, hrel, hst⟩ := hs ι w args' hr hargs hfree fr cs
            exact ⟨ι', w', v', .inr (.inl ⟨f, args', hrun.trans (hcf args' w), st⟩), hv, hrel, hst⟩
          · rcases fn_sound ok hih hf hb h with ⟨v, A', h1, hle, hs⟩ | ⟨v, A', h1, hle, hs⟩
            · refine .inl ⟨v, A', h1, hle, fun ι w s fr cs hr hcl hfree => ?_⟩
              obtain ⟨args', hrun, hargs⟩ := hcl
              obtain ⟨ι', w', v', ⟨fr0, st, hfn, hlv⟩, hv, hrel, hst⟩ := hs ι w args' (fr :: cs) hr hargs hfree
              exact ⟨ι', w', v', ⟨f, args', hrun.trans (hcf args' w), st.trans (.one (step_leave_panicked hlv))⟩, hv, hrel, hst⟩
            · refine .inr ⟨v, A', h1, hle, fun ι w s fr cs hr hcl hfree => ?_⟩
              obtain ⟨args', hrun, hargs⟩ := hcl
              obtain ⟨ι', w', v', ⟨fr0, st, hfn, hlv⟩, hv, hrel, hst⟩ := hs ι w args' (fr :: cs) hr hargs hfree
              exact ⟨ι', w', v', .inr (.inl ⟨f, args', hrun.trans (hcf args' w), st.trans (.one (step_leave_returned hlv))⟩), hv, hrel, hst⟩

include ok in
theorem exec_sound : ∀ n, CSnd tb.P (exec tb n)
  | 0 => by
    intro c s e s1 h
    cases h
  | n + 1 => by
    have hih := exec_sound n
    have hcall := callSnd ok hih
    exact stepC_sound ok hih hcall (drawSnd ok hcall) fun f ps a b s e s1 h => loopF_sound ok hcall f ps a b s e s1 h

/-- No memory yet. -/
def mem0 : Mem := ⟨.e, 0⟩

theorem rel0 (w : World) : Rel (fun _ => none) mem0 w :=
  ⟨fun _ _ => rfl, (fun _ _ _ h => by cases h), (fun _ _ h => by cases h), (fun _ _ _ _ h => by obtain ⟨_, h, _⟩ := h; cases h), (fun _ _ _ _ h => by cases h)⟩

theorem not_live0 (b : Nat) : ¬ live mem0 b := fun ⟨_, h, _⟩ => by cases h

/-- A call of a function on arguments that are no memory: it returns what the abstract machine says, and leaves the world as it is but for new blocks. -/
def Leaves (w w' : World) : Prop := (∀ c, c < w.heap.size → w'.heap[c]? = w.heap[c]?) ∧ w.heap.size ≤ w'.heap.size ∧ w'.os = w.os ∧ w'.tape = w.tape ∧ w'.output = w.output

include ok in
theorem call_calls {n : Nat} {f : FuncId} {args : List Value} {v : Value} {A' : Mem} (h : call tb n f args mem0 = .ok (.val v A')) {fn : Func} {c : Code} (hf : tb.fn.get f = some fn) (hb : fn.body = some c) (args' : Array Value) (w : World)
    (ha : VRs (fun _ => none) args args'.toList) : Calls tb.P f args' w fun e w' => ∃ ι v', e = .returned v' ∧ VR ι v v' ∧ Rel ι A' w' ∧ Leaves w w' := by
  intro cs
  unfold call at h
  simp only [hf, hb] at h
  rcases fn_sound ok (exec_sound ok n) hf hb h with ⟨_, _, h1, _⟩ | ⟨v, A', h1, hle, hs⟩
  · cases h1
  · cases h1
    obtain ⟨ι', w', v', ⟨fr0, st, hfn, hlv⟩, hv, hrel, hst⟩ := hs (fun _ => none) w args' cs (rel0 w) ha (fun _ _ _ => rfl)
    exact ⟨.returned v', w', fr0, ⟨ι', v', rfl, hv, hrel, fun c hc => hst.fr c hc (fun b l hl _ => absurd hl (not_live0 b)), hst.size, hst.os, hst.tape, hst.output⟩, st, hfn, hlv⟩

/-- The same for a function that answers true. -/
def isTrue : R Res → Bool
  | .ok (.val (.bool b) _) => b
  | _ => false

include ok in
theorem call_true {n : Nat} {f : FuncId} {args : List Value} (h : isTrue (call tb n f args mem0) = true) {fn : Func} {c : Code} (hf : tb.fn.get f = some fn) (hb : fn.body = some c) (args' : Array Value) (w : World)
    (ha : VRs (fun _ => none) args args'.toList) : Calls tb.P f args' w fun e w' => e = .returned (.bool true) ∧ Leaves w w' := by
  cases hr : call tb n f args mem0 with
  | no _ => rw [hr] at h; cases h
  | ok r =>
    rw [hr] at h
    cases r with
    | pan v A => cases h
    | val v A =>
      cases v with
      | bool b =>
        have hb' : b = true := h
        subst hb'
        intro cs
        obtain ⟨e, w', fr, ⟨ι, v', he, hv, _, hl⟩, st⟩ := call_calls ok hr hf hb args' w ha cs
        cases hv
        exact ⟨e, w', fr, ⟨he, hl⟩, st⟩
      | _ => cases h

end Go.Am

/-
  The abstract machine AM, part 42: the tables of a program.
-/
namespace Go.Am

/-- A program's tables. -/
noncomputable def tabOf (P : Program) (ex : T Nat) : Tab := { P := P, ty := T.ofList P.types.toList, fn := T.ofList P.funcs.toList, ex := ex, hk := .e }

theorem tabOf_ok (C : Checked) (ex : T Nat) (hex : ∀ f k fn, ex.get f = some k → C.prog.funcs[f]? = some fn → ExR k fn) : TabOk (tabOf C.prog ex) where
  ty := fun t i h => by
    have h' : (T.ofList C.prog.types.toList).get t = some i := h
    rw [T.get_ofList, Array.getElem?_toList] at h'
    show C.prog.toTables.info? t = some i
    unfold Tables.info?
    have hlt := (Array.getElem?_eq_some_iff.1 h').1
    rw [if_pos hlt]
    exact h'
  fn := fun f fn h => by
    have h' : (T.ofList C.prog.funcs.toList).get f = some fn := h
    rw [T.get_ofList, Array.getElem?_toList] at h'
    exact h'
  mixed := Checked.mixed C
  ex := fun f k fn h hf => hex f k fn h (by
    have h' : (T.ofList C.prog.funcs.toList).get f = some fn := hf
    rw [T.get_ofList, Array.getElem?_toList] at h'
    exact h')
  hk := fun f h hh => by cases hh

end Go.Am

/-
  The abstract machine AM, part 43: what a law's row asks behind a call that leaves all blocks as they were but for new ones, whatever marks those bear.
-/
namespace Go.Am
open Go.RowKit Go.WideShapes Go.ChangeShapes

theorem Leaves.below {w w' : World} (h : Leaves w w') : Below w.heap.size w w' := ⟨h.2.2.1, h.2.2.2.1, h.2.2.2.2, h.2.1, h.1⟩

section
variable {H : Type} {enc : TypeId × Value → H} {P : Program}
/-- Behind a call that left what was there: the row's promise out of its parts. -/
theorem postLaw {f : Func} {s : ChangeSpec} {apart fresh handsOn again : Bool} {W W' : World} {args : Array Value} {v : Value} {ds gs : List (DataW H)} {before pa pv : List MemPlace} (hb : Leaves W W')
    (hW : DataW.Whole enc P f.params.toList s.vars apart W args.toList ds gs before) (hps : before = pa ++ pv)
    (hres : ∀ (b : Nat) (sp : Nat → Bool) (hd : Bool), DataW.TrodAll enc P W' b sp hd f.resultTypes.toList (v.resultList f.resultTypes.size) (s.fn H (ds ++ gs)).results [])
    (hargs : ∀ sp : Nat → Bool, (∀ p ∈ before, sp p.block = true) → DataW.TrodAll enc P W' 0 sp true f.params.toList args.toList (s.fn H (ds ++ gs)).args pa)
    (hvars : ∀ sp : Nat → Bool, (∀ p ∈ before, sp p.block = true) → DataW.TrodVars enc P W' sp s.vars (s.fn H (ds ++ gs)).vars pv)
    (hok : ∀ (j : Nat) (t : TypeId) (r : Value), f.resultTypes[j]? = some t → (v.resultList f.resultTypes.size)[j]? = some r → Value.okWide P W' .any 0 t r) :
    s.post enc P f apart fresh handsOn again W args v W' := by
  have hbl := hb.below
  have old : ∀ p ∈ before, p.block < W.heap.size := fun p hp => hW.lt p hp
  have inPv : ∀ p ∈ before, p ∈ pa ∨ p ∈ pv := fun p hp => by rwa [hps, List.mem_append] at hp
  have old' : ∀ p ∈ before, (fun b => decide (b < W.heap.size)) p.block = true := fun p hp => decide_eq_true (old p hp)
  obtain ⟨_, _, _, _, _, marks, noDup⟩ := id hW
  refine ⟨ds, gs, before, [], pa, pv, hW, hres _ _ _, hargs _ old', hvars _ old', World.keptBut_mono (fun p hp => ⟨hp, .inr (inPv p hp)⟩) (hbl.frame (· ∈ before)), fun _ => ⟨hok, _, _, ([] ++ pa) ++ pv, ⟨[] ++ pa, pv, trodAll_append (hargs _ (fun _ _ => rfl)) (hres _ _ _), hvars _ (fun _ _ => rfl), rfl, fun b off hp => ?_, fun ha => ?_⟩, fun p hp _ => ?_⟩⟩
  · have hin : MemPlace.cell b off ∈ before := by rw [hps]; simpa using hp
    rw [hbl.frozen (old _ hin)]
    exact marks b off hin
  · have := noDup ha
    rwa [hps] at this
  · rw [hps]
    simpa using hp
end
end Go.Am

/-
  The abstract machine AM, part 44: functions of plain values that leave no trace are known to answer what they answered once.
-/
namespace Go.Am

/-- A value that holds no memory. -/
def flat : Nat → Value → Bool
  | 0, _ => false
  | d + 1, v =>
    match v with
    | .bool _ | .int _ _ | .string _ => true
    | .agg l => l.toList.all (flat d)
    | .tuple l => l.toList.all (flat d)
    | _ => false

mutual
theorem flat_VR {ι ι' : Inj} : ∀ (d : Nat) (v v' : Value), flat d v = true → VR ι v v' → VR ι' v v'
  | 0, _, _, h, _ => by simp [flat] at h
  | d + 1, v, v', h, hv => by
    unfold flat at h
    split at h
    · cases hv; exact .bool _
    · cases hv; exact .int _ _
    · cases hv; exact .string _
    · cases hv with
      | agg hs => exact .agg (flats_VR d _ _ (List.all_eq_true.1 h) hs)
    · cases hv with
      | tuple hs => exact .tuple (flats_VR d _ _ (List.all_eq_true.1 h) hs)
    · cases h
theorem flats_VR {ι ι' : Inj} : ∀ (d : Nat) (l l' : List Value), (∀ v ∈ l, flat d v = true) → VRs ι l l' → VRs ι' l l'
  | _, [], _, _, h => by cases h; exact .nil
  | d, v :: l, _, hf, h => by
    cases h with
    | cons hv ht => exact .cons (flat_VR d v _ (hf v (by simp)) hv) (flats_VR d l _ (fun x hx => hf x (by simp [hx])) ht)
end

theorem leaves_rel {ι : Inj} {A : Mem} {w w' : World} (hr : Rel ι A w) (hl : Leaves w w') (hd : w.drawn ≤ w'.drawn) : Rel ι A w' ∧ Stp ι A w ι A w' := by
  refine ⟨⟨hr.wf, fun b o l hg ha hb => ?_, fun b l hb => Nat.lt_of_lt_of_le (hr.rng b l hb) hl.2.1, hr.inj, hr.gl⟩, ⟨Nat.le_refl _, fun _ _ => rfl, fun b l hb hll => .inr ⟨b, l, hb, hll, rfl⟩, fun c hc _ => hl.1 c hc, hl.2.1, hl.2.2.1, hl.2.2.2.1, hl.2.2.2.2, fun b l hb _ => ⟨rfl, hl.1 _ (hr.rng b l hb)⟩, hd⟩⟩
  obtain ⟨o', h1, h2⟩ := hr.obs b o l hg ha hb
  exact ⟨o', by rw [hl.1 _ (hr.rng b l hb)]; exact h1, h2⟩

/-- What is known of a function of plain values: its answer, by its arguments. -/
noncomputable def pureHook (sp : List Value → Option Value) : List Value → Mem → R (Value × Mem) := fun args A =>
  match sp args with
  | some v => .ok (v, A)
  | none => .no 600

variable {tb : Tab} (ok : TabOk tb)
include ok in
theorem hook_pure {f : FuncId} {fn : Func} {c : Code} (hf : tb.fn.get f = some fn) (hb : fn.body = some c) {sp : List Value → Option Value}
    (h : ∀ args v, sp args = some v → (∀ x ∈ args, flat 9 x = true) ∧ flat 9 v = true ∧ ∃ n A1, call tb n f args mem0 = .ok (.val v A1)) : HookOk tb.P f (pureHook sp) := by
  intro args A v A' ha
  unfold pureHook at ha
  split at ha
  · rename_i v0 hsp
    simp only [R.ok.injEq, Prod.mk.injEq] at ha
    obtain ⟨rfl, rfl⟩ := ha
    obtain ⟨hfa, hfv, n, A1, hc⟩ := h args v0 hsp
    refine ⟨Nat.le_refl _, fun ι w args' hr hargs _ fr cs => ?_⟩
    unfold call at hc
    simp only [hf, hb] at hc
    rcases fn_sound ok (exec_sound ok n) hf hb hc with ⟨_, _, h1, _⟩ | ⟨v, A', h1, hle, hs⟩
    · cases h1
    · cases h1
      obtain ⟨ι', w', v', ⟨fr0, st, hfn, hlv⟩, hv, hrel, hst⟩ := hs (fun _ => none) w args' (fr :: cs) (rel0 w) (flats_VR 9 _ _ hfa hargs) (fun _ _ _ => rfl)
      have hl : Leaves w w' := ⟨fun c hc => hst.fr c hc (fun b l hl _ => absurd hl (not_live0 b)), hst.size, hst.os, hst.tape, hst.output⟩
      obtain ⟨h2, h3⟩ := leaves_rel hr hl hst.drawn
      exact ⟨ι, w', v', st.trans (.one (step_leave_returned hlv)), flat_VR 9 _ _ hfv hv, h2, h3⟩
  · cases ha

/-- One more function is known. -/
noncomputable def Tab.know (tb : Tab) (f : FuncId) (h : List Value → Mem → R (Value × Mem)) : Tab := { tb with hk := tb.hk.set f h }
include ok in
theorem know_ok {f : FuncId} {h : List Value → Mem → R (Value × Mem)} (hh : HookOk tb.P f h) : TabOk (tb.know f h) where
  ty := ok.ty
  fn := ok.fn
  mixed := ok.mixed
  ex := ok.ex
  hk := fun g k hg => by
    have hg' : (tb.hk.set f h).get g = some k := hg
    rw [T.get_set] at hg'
    split at hg'
    · rename_i e
      cases hg'
      rw [e]; exact hh
    · exact ok.hk g k hg'

end Go.Am
