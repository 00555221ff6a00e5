/-
  The abstract machine AM: a machine for programs of the model that draws nothing and moves no block; and the proof that what it answers the model answers.
  Part C: no conditions.
-/
import Derived.Test.YtgcineegnihcmaaGreatDoorAmB
import Derived.LaidLaws
import Derived.LaidSub

/-
  The abstract machine AM, part 44: functions of plain values that leave no trace are known to answer what they answered once.
-/
namespace Go.Am

/-- A value that holds no memory. -/
def flat : Nat → Value → Bool
  | 0, _ => false
  | d + 1, v =>
    match v with
    | .bool _ | .int _ _ | .string _ => true
    | .agg l => l.toList.all (flat d)
    | .tuple l => l.toList.all (flat d)
    | .nilIface | .pointer none | .slice none 0 0 | .map none | .nilFunc => true
    | .iface _ v => flat d v
    | _ => false

mutual
theorem flat_VR {ι ι' : Inj} : ∀ (d : Nat) (v v' : Value), flat d v = true → VR ι v v' → VR ι' v v'
  | 0, _, _, h, _ => by simp [flat] at h
  | d + 1, v, v', h, hv => by
    unfold flat at h
    split at h
    · cases hv; exact .bool _
    · cases hv; exact .int _ _
    · cases hv; exact .string _
    · cases hv with
      | agg hs => exact .agg (flats_VR d _ _ (List.all_eq_true.1 h) hs)
    · cases hv with
      | tuple hs => exact .tuple (flats_VR d _ _ (List.all_eq_true.1 h) hs)
    · cases hv; exact .nilIface
    · cases hv; exact .ptrN
    · cases hv; exact .slN
    · cases hv; exact .mapN
    · cases hv; exact .nilFunc
    · cases hv with
      | iface hs => exact .iface (flat_VR d _ _ h hs)
    · cases h
theorem flats_VR {ι ι' : Inj} : ∀ (d : Nat) (l l' : List Value), (∀ v ∈ l, flat d v = true) → VRs ι l l' → VRs ι' l l'
  | _, [], _, _, h => by cases h; exact .nil
  | d, v :: l, _, hf, h => by
    cases h with
    | cons hv ht => exact .cons (flat_VR d v _ (hf v (by simp)) hv) (flats_VR d l _ (fun x hx => hf x (by simp [hx])) ht)
end

theorem leaves_rel {ι : Inj} {A : Mem} {w w' : World} (hr : Rel ι A w) (hl : Leaves w w') (hd : w.drawn ≤ w'.drawn) : Rel ι A w' ∧ Stp ι A w ι A w' := by
  refine ⟨⟨hr.wf, fun b o l hg ha hb => ?_, fun b l hb => Nat.lt_of_lt_of_le (hr.rng b l hb) hl.2.1, hr.inj, hr.gl⟩, ⟨Nat.le_refl _, fun _ _ => rfl, fun b l hb hll => .inr ⟨b, l, hb, hll, rfl⟩, fun c hc _ => hl.1 c hc, hl.2.1, hl.2.2.1, hl.2.2.2.1, hl.2.2.2.2, fun b l hb _ => ⟨rfl, hl.1 _ (hr.rng b l hb)⟩, hd⟩⟩
  obtain ⟨o', h1, h2⟩ := hr.obs b o l hg ha hb
  exact ⟨o', by rw [hl.1 _ (hr.rng b l hb)]; exact h1, h2⟩

/-- What is known of a function of plain values: its answer, by its arguments. -/
noncomputable def pureHook (sp : List Value → Option Value) : List Value → Mem → R (Value × Mem) := fun args A =>
  match sp args with
  | some v => .ok (v, A)
  | none => .no 600

variable {tb : Tab} (ok : TabOk tb)
include ok in
theorem hook_pure {f : FuncId} {fn : Func} {c : Code} (hf : tb.fn.get f = some fn) (hb : fn.body = some c) {sp : List Value → Option Value}
    (h : ∀ args v, sp args = some v → (∀ x ∈ args, flat 9 x = true) ∧ flat 9 v = true ∧ ∃ n A1, call tb n f args mem0 = .ok (.val v A1)) : HookOk tb.P f (pureHook sp) := by
  intro args A v A' ha
  unfold pureHook at ha
  split at ha
  · rename_i v0 hsp
    simp only [R.ok.injEq, Prod.mk.injEq] at ha
    obtain ⟨rfl, rfl⟩ := ha
    obtain ⟨hfa, hfv, n, A1, hc⟩ := h args v0 hsp
    refine ⟨Nat.le_refl _, fun ι w args' hr hargs _ fr cs => ?_⟩
    unfold call at hc
    simp only [hf, hb] at hc
    rcases fn_sound ok (exec_sound ok n) hf hb hc with ⟨_, _, h1, _⟩ | ⟨v, A', h1, hle, hs⟩
    · cases h1
    · cases h1
      obtain ⟨ι', w', v', ⟨fr0, st, hfn, hlv⟩, hv, hrel, hst⟩ := hs (fun _ => none) w args' (fr :: cs) (rel0 w) (flats_VR 9 _ _ hfa hargs) (fun _ _ _ => rfl)
      have hl : Leaves w w' := ⟨fun c hc => hst.fr c hc (fun b l hl _ => absurd hl (not_live0 b)), hst.size, hst.os, hst.tape, hst.output⟩
      obtain ⟨h2, h3⟩ := leaves_rel hr hl hst.drawn
      exact ⟨ι, w', v', st.trans (.one (step_leave_returned hlv)), flat_VR 9 _ _ hfv hv, h2, h3⟩
  · cases ha

/-- One more function is known. -/
noncomputable def Tab.know (tb : Tab) (f : FuncId) (h : List Value → Mem → R (Value × Mem)) : Tab := { tb with hk := tb.hk.set f h }
include ok in
theorem know_ok {f : FuncId} {h : List Value → Mem → R (Value × Mem)} (hh : HookOk tb.P f h) : TabOk (tb.know f h) where
  ty := ok.ty
  fn := ok.fn
  mixed := ok.mixed
  ex := ok.ex
  hk := fun g k hg => by
    have hg' : (tb.hk.set f h).get g = some k := hg
    rw [T.get_set] at hg'
    split at hg'
    · rename_i e
      cases hg'
      rw [e]; exact hh
    · exact ok.hk g k hg'

end Go.Am

/-
  The abstract machine AM, part 45: its steps as equations, for values of which parts are not known.
-/
namespace Go.Am
variable {tb : Tab} {ih : Code → St → R (Ex × St)}

theorem R.bind_congr {α β : Type} {x x' : R α} (f : α → R β) (h : x = x') : x.bind f = x'.bind f := by rw [h]
theorem R.ok_bind {α β : Type} (a : α) (f : α → R β) : (R.ok a).bind f = f a := rfl

theorem opF_congr {o : Oper} {s s' : St} (k : St → R (Ex × St)) (h : s = s') : opF tb ih o s k = opF tb ih o s' k := by rw [h]
theorem putT_congr {s s' : St} {d : Option Tmp} {v v' : Value} (k : St → R (Ex × St)) (h : s = s') (hv : v = v') : putT s d v k = putT s' d v' k := by rw [h, hv]
theorem runOps_congr {ops l : List Oper} {s s' : St} (h : s = s') : runOps tb ih ops l s = runOps tb ih ops l s' := by rw [h]

/-! ### Code -/
theorem exec_seq (n : Nat) (a b : Code) (s : St) : exec tb (n + 1) (.seq a b) s = (exec tb n a s).bind fun (e, s') => match e with
    | .nrm => exec tb n b s'
    | e => .ok (e, s') := rfl
theorem exec_region (n id : Nat) (ops : Array Oper) (s : St) : exec tb (n + 1) (.region id ops false) s = runOps tb (exec tb n) ops.toList ops.toList s := rfl
theorem exec_skip (n : Nat) (s : St) : exec tb (n + 1) .skip s = .ok (.nrm, s) := rfl
theorem exec_ret (n : Nat) (s : St) : exec tb (n + 1) .ret s = .ok (.ret, s) := rfl
theorem exec_exit (n id : Nat) (s : St) : exec tb (n + 1) (.exit id) s = .ok (.exit id, s) := rfl
theorem exec_scope (n : Nat) (c : Code) (s : St) : exec tb (n + 1) (.scope c) s = exec tb n c s := rfl
theorem exec_block (n id : Nat) (c : Code) (s : St) : exec tb (n + 1) (.block id c) s = (exec tb n c s).bind fun (e, s') => match e with
    | .exit i => bif Nat.beq i id then .ok (.nrm, s') else .ok (.exit i, s')
    | e => .ok (e, s') := rfl
theorem exec_cond (n : Nat) (c : Operand) (a b : Code) (s : St) : exec tb (n + 1) (.cond c a b) s = (ev s.t c).bind fun v => match v with
    | .bool true => exec tb n a s
    | .bool false => exec tb n b s
    | _ => .no 330 := rfl
theorem exec_loop (n : Nat) (c : Code) (s : St) : exec tb (n + 1) (.loop c) s = (exec tb n c s).bind fun (e, s') => match e with
    | .nrm => exec tb n (.loop c) s'
    | e => .ok (e, s') := rfl
theorem cond_val {α : Type} (p : Bool) (x y : R α) (z : R α) : (match Value.bool p with
    | .bool true => x
    | .bool false => y
    | _ => z) = if p = true then x else y := by cases p <;> rfl

/-! ### Operations -/
theorem runOps_nil (ops : List Oper) (s : St) : runOps tb ih ops [] s = .ok (.nrm, s) := rfl
theorem runOps_cons (ops l : List Oper) (dst : Option Tmp) (op : Op) (ty : TypeId) (pos : String) (after : Array Edge) (s : St) :
    runOps tb ih ops ({ dst, op, type := ty, pos, after, guard := none } :: l) s = opF tb ih { dst, op, type := ty, pos, after, guard := none } s (runOps tb ih ops l) := rfl
section
variable (dst : Option Tmp) (ty : TypeId) (pos : String) (after : Array Edge) (g : Option (Nat × Bool)) (s : St) (k : St → R (Ex × St))
theorem opF_move (x : Operand) : opF tb ih { dst, op := .move x, type := ty, pos, after, guard := g } s k = (ev s.t x).bind fun v => putT s dst v k := rfl
theorem opF_assign (x : Operand) : opF tb ih { dst, op := .assign x, type := ty, pos, after, guard := g } s k = (ev s.t x).bind fun v => putT s dst v k := rfl
theorem R.bind_bind {α β γ : Type} (x : R α) (f : α → R β) (h : β → R γ) : (x.bind f).bind h = x.bind fun a => (f a).bind h := by cases x <;> rfl
theorem opF_P {o : Op} (hc : cls tb o = .P) (hi : isCall o = none) : opF tb ih { dst, op := o, type := ty, pos, after, guard := g } s k = (pOp tb s.t o).bind fun v => putT s dst v k := by
  unfold opF; simp only [hi, hc]
theorem opF_Rd {o : Op} (hc : cls tb o = .Rd) (hi : isCall o = none) : opF tb ih { dst, op := o, type := ty, pos, after, guard := g } s k = (rOp tb s.t s.m.get o).bind fun v => putT s dst v k := by
  unfold opF; simp only [hi, hc]
theorem opF_Al {o : Op} (hc : cls tb o = .Al) (hi : isCall o = none) : opF tb ih { dst, op := o, type := ty, pos, after, guard := g } s k = (aOp tb s.t o).bind fun (ob, way) => putT { s with m := s.m.alloc ob } dst (way.at s.m.next) k := by
  unfold opF; simp only [hi, hc]
/-- Of integers, strings and truths. -/
theorem opF_bin (op : BinOp) (t : TypeId) (x y : Operand) (r : TypeId) (hc : cls tb (.binOp op t x y r) = .P) : opF tb ih { dst, op := .binOp op t x y r, type := ty, pos, after, guard := g } s k =
    (ev s.t x).bind fun a => (ev s.t y).bind fun b => (binF op (tb.und t) a b).bind fun v => putT s dst v k := by
  rw [opF_P _ _ _ _ _ _ _ hc rfl]
  simp only [pOp, R.bind_bind]
def isArith : BinOp → Bool
  | .eql | .neq => false
  | _ => true
theorem opF_ari (op : BinOp) (t : TypeId) (x y : Operand) (r : TypeId) (h : isArith op = true) : opF tb ih { dst, op := .binOp op t x y r, type := ty, pos, after, guard := g } s k =
    (ev s.t x).bind fun a => (ev s.t y).bind fun b => (binF op (tb.und t) a b).bind fun v => putT s dst v k :=
  opF_bin _ _ _ _ _ _ _ _ _ _ _ _ (by cases op <;> first | rfl | cases h)
theorem opF_neq (t : TypeId) (x y : Operand) (r : TypeId) (h : basicD (tb.und t) = true) : opF tb ih { dst, op := .binOp .neq t x y r, type := ty, pos, after, guard := g } s k =
    (ev s.t x).bind fun a => (ev s.t y).bind fun b => (binF .neq (tb.und t) a b).bind fun v => putT s dst v k :=
  opF_bin _ _ _ _ _ _ _ _ _ _ _ _ (by unfold cls; simp only [h, cond_true])
theorem opF_eql (t : TypeId) (x y : Operand) (r : TypeId) (h : basicD (tb.und t) = true) : opF tb ih { dst, op := .binOp .eql t x y r, type := ty, pos, after, guard := g } s k =
    (ev s.t x).bind fun a => (ev s.t y).bind fun b => (binF .eql (tb.und t) a b).bind fun v => putT s dst v k :=
  opF_bin _ _ _ _ _ _ _ _ _ _ _ _ (by unfold cls; simp only [h, cond_true])
theorem opF_un (op : UnOp) (t : TypeId) (x : Operand) : opF tb ih { dst, op := .unOp op t x, type := ty, pos, after, guard := g } s k = (ev s.t x).bind fun a => (unF op a).bind fun v => putT s dst v k := by
  rw [opF_P _ _ _ _ _ _ _ rfl rfl]
  simp only [pOp, R.bind_bind]
theorem opF_index (t : TypeId) (x y : Operand) : opF tb ih { dst, op := .index t x y, type := ty, pos, after, guard := g } s k = (ev s.t x).bind fun a => (ev s.t y).bind fun b => (indexF tb t a b).bind fun v => putT s dst v k := by
  rw [opF_P _ _ _ _ _ _ _ rfl rfl]; simp only [pOp, R.bind_bind]
theorem opF_indexAddr (t : TypeId) (x : Tmp) (y : Operand) : opF tb ih { dst, op := .indexAddr t (.tmp x) y, type := ty, pos, after, guard := g } s k = (ev s.t (.tmp x)).bind fun a => (ev s.t y).bind fun b => (indexAddrF tb t a b).bind fun v => putT s dst v k := by
  rw [opF_P _ _ _ _ _ _ _ rfl rfl]; simp only [pOp, R.bind_bind]
theorem opF_fieldAddr (t : TypeId) (x : Operand) (i : Nat) : opF tb ih { dst, op := .fieldAddr t x i, type := ty, pos, after, guard := g } s k = (ev s.t x).bind fun a => (fieldAddrF tb t a i).bind fun v => putT s dst v k := by
  rw [opF_P _ _ _ _ _ _ _ rfl rfl]; simp only [pOp, R.bind_bind]
theorem opF_field (t : TypeId) (x : Operand) (i : Nat) : opF tb ih { dst, op := .field t x i, type := ty, pos, after, guard := g } s k = (ev s.t x).bind fun a => (fieldF tb t a i).bind fun v => putT s dst v k := by
  rw [opF_P _ _ _ _ _ _ _ rfl rfl]; simp only [pOp, R.bind_bind]
theorem opF_build (t : TypeId) (ps : Array (Nat × Operand)) : opF tb ih { dst, op := .build t ps, type := ty, pos, after, guard := g } s k = (evp s.t ps.toList).bind fun ps => (buildF tb t ps).bind fun v => putT s dst v k := by
  rw [opF_P _ _ _ _ _ _ _ rfl rfl]; simp only [pOp, R.bind_bind]
theorem opF_slice (t : TypeId) (x : Operand) (lo hi mx : Option Operand) : opF tb ih { dst, op := .slice t x lo hi mx, type := ty, pos, after, guard := g } s k =
    (ev s.t x).bind fun x => (evo s.t lo).bind fun lo => (evo s.t hi).bind fun hi => (evo s.t mx).bind fun mx => (sliceF tb t x lo hi mx).bind fun v => putT s dst v k := by
  rw [opF_P _ _ _ _ _ _ _ rfl rfl]; simp only [pOp, R.bind_bind]
def extractF (x : Value) (i : Nat) : R Value :=
  match x with
  | .tuple vs => match vs.toList[i]? with
    | some v => .ok v
    | none => .no 211
  | _ => .no 212
theorem opF_extract (x : Operand) (i : Nat) : opF tb ih { dst, op := .extract x i, type := ty, pos, after, guard := g } s k = (ev s.t x).bind fun a => (extractF a i).bind fun v => putT s dst v k := by
  rw [opF_P _ _ _ _ _ _ _ rfl rfl]; simp only [pOp, R.bind_bind]; rfl
noncomputable def pickF (t : T Value) (c : Value) (a b : Operand) : R Value :=
  match c with
  | .bool true => ev t a
  | .bool false => ev t b
  | _ => .no 207
theorem opF_pick (c a b : Operand) : opF tb ih { dst, op := .pick c a b, type := ty, pos, after, guard := g } s k = (ev s.t c).bind fun c => (pickF s.t c a b).bind fun v => putT s dst v k := by
  rw [opF_P _ _ _ _ _ _ _ rfl rfl]; simp only [pOp, R.bind_bind]; rfl
theorem opF_load (t : TypeId) (x : Tmp) : opF tb ih { dst, op := .load t (.tmp x), type := ty, pos, after, guard := g } s k = (ev s.t (.tmp x)).bind fun a => (loadF tb s.m.get t a).bind fun v => putT s dst v k := by
  rw [opF_Rd _ _ _ _ _ _ _ rfl rfl]; simp only [rOp, R.bind_bind]
theorem opF_alloc (t : TypeId) : opF tb ih { dst, op := .alloc t, type := ty, pos, after, guard := g } s k = (zeroF tb t).bind fun z => putT { s with m := s.m.alloc (rowOb t z.cells.toList) } dst (Way.ptr.at s.m.next) k := by
  rw [opF_Al _ _ _ _ _ _ _ rfl rfl]; simp only [aOp, R.bind_bind, R.ok_bind]
theorem opF_box (t : TypeId) (x : Operand) : opF tb ih { dst, op := .box t x, type := ty, pos, after, guard := g } s k = (ev s.t x).bind fun v => putT { s with m := s.m.alloc (rowOb t v.cells.toList) } dst (Way.ptr.at s.m.next) k := by
  rw [opF_Al _ _ _ _ _ _ _ rfl rfl]; simp only [aOp, R.bind_bind, R.ok_bind]
theorem opF_buildSlice (t : TypeId) (len : Nat) (ps : Array (Nat × Operand)) : opF tb ih { dst, op := .buildSlice t len ps, type := ty, pos, after, guard := g } s k =
    (evp s.t ps.toList).bind fun ps => (buildSliceF tb t len ps).bind fun (ob, way) => putT { s with m := s.m.alloc ob } dst (way.at s.m.next) k := by
  rw [opF_Al _ _ _ _ _ _ _ rfl rfl]; simp only [aOp, R.bind_bind]
theorem opF_makeSlice (t : TypeId) (l c : Operand) : opF tb ih { dst, op := .makeSlice t l c, type := ty, pos, after, guard := g } s k =
    (ev s.t l).bind fun l => (ev s.t c).bind fun c => (makeSliceF tb t l c).bind fun (ob, way) => putT { s with m := s.m.alloc ob } dst (way.at s.m.next) k := by
  rw [opF_Al _ _ _ _ _ _ _ rfl rfl]; simp only [aOp, R.bind_bind]
theorem opF_store (t : TypeId) (x v : Operand) : opF tb ih { dst, op := .store t x v, type := ty, pos, after, guard := g } s k =
    (ev s.t x).bind fun x => (ev s.t v).bind fun v => (storeF tb s.m t x v).bind fun A => putT { s with m := A } dst unitV k := by
  unfold opF
  show ((lOp tb s.t s.m (.store t x v)).bind fun (v, A) => putT { s with m := A } dst v k) = _
  simp only [lOp, R.bind_bind, R.ok_bind]
/-- A conversion of numbers and strings. -/
def isNum : Option TypeDesc → Bool
  | some (.int _) => true
  | _ => false
theorem opF_conv (a b : TypeId) (x : Operand) (h : isNum (tb.und a) = true) : opF tb ih { dst, op := .convert a b x, type := ty, pos, after, guard := g } s k = (ev s.t x).bind fun x => (convPF tb a b x).bind fun v => putT s dst v k := by
  have hc : cls tb (.convert a b x) = .P := by
    unfold cls
    cases hu : tb.und a with
    | none => rw [hu] at h; cases h
    | some d =>
      rw [hu] at h
      cases d <;> first
        | (cases h; done)
        | (simp only [hu]; done)
        | (simp only [hu]; cases tb.und b with
          | none => rfl
          | some d2 => cases d2 <;> rfl)
  rw [opF_P _ _ _ _ _ _ _ hc rfl]; simp only [pOp, R.bind_bind]
theorem opF_convBytes (a b : TypeId) (x : Operand) {e : TypeId} (h : tb.und a = some .string) (h' : tb.und b = some (.slice e)) : opF tb ih { dst, op := .convert a b x, type := ty, pos, after, guard := g } s k =
    (ev s.t x).bind fun x => (toBytesF tb a b x).bind fun (ob, way) => putT { s with m := s.m.alloc ob } dst (way.at s.m.next) k := by
  have hc : cls tb (.convert a b x) = .Al := by unfold cls; simp only [h, h']
  rw [opF_Al _ _ _ _ _ _ _ hc rfl]; simp only [aOp, R.bind_bind]
theorem opF_convStr (a b : TypeId) (x : Operand) {e : TypeId} (h : tb.und a = some (.slice e)) (h' : tb.und b = some .string) : opF tb ih { dst, op := .convert a b x, type := ty, pos, after, guard := g } s k =
    (ev s.t x).bind fun x => (convRF tb s.m.get a b x).bind fun v => putT s dst v k := by
  have hc : cls tb (.convert a b x) = .Rd := by unfold cls; simp only [h, h']
  rw [opF_Rd _ _ _ _ _ _ _ hc rfl]; simp only [rOp, R.bind_bind]
/-- Lengths. -/
def isMapD : Option TypeDesc → Bool
  | some (.map _ _) => true
  | _ => false
theorem opF_len (args : Array Operand) (t : TypeId) (h : isMapD (tb.und t) = false) : opF tb ih { dst, op := .call { callee := .builtin .len, args, argTypes := #[t] }, type := ty, pos, after, guard := g } s k =
    (evs s.t args.toList).bind fun a => (builtinPF tb .len [t] a).bind fun v => putT s dst v k := by
  have hc : cls tb (.call { callee := .builtin .len, args, argTypes := #[t] }) = .P := by
    unfold cls
    cases hu : tb.und t with
    | none => simp only [hu]
    | some d => rw [hu] at h; cases d <;> first | (simp only [hu]; done) | cases h
  rw [opF_P _ _ _ _ _ _ _ hc rfl]; simp only [pOp, R.bind_bind]
theorem opF_minmax (b : Builtin) (args : Array Operand) (ts : Array TypeId) (h : b = .min ∨ b = .max ∨ b = .cap) : opF tb ih { dst, op := .call { callee := .builtin b, args, argTypes := ts }, type := ty, pos, after, guard := g } s k =
    (evs s.t args.toList).bind fun a => (builtinPF tb b ts.toList a).bind fun v => putT s dst v k := by
  have hc : cls tb (.call { callee := .builtin b, args, argTypes := ts }) = .P := by rcases h with rfl | rfl | rfl <;> rfl
  rw [opF_P _ _ _ _ _ _ _ hc rfl]; simp only [pOp, R.bind_bind]
/-- A builtin that changes memory. -/
theorem opF_builtin (b : Builtin) (args : Array Operand) (ts : Array TypeId) (h : b = .append ∨ b = .copy) : opF tb ih { dst, op := .call { callee := .builtin b, args, argTypes := ts }, type := ty, pos, after, guard := g } s k =
    (evs s.t args.toList).bind fun a => (builtinLF tb s.m b ts.toList a).bind fun (v, A) => putT { s with m := A } dst v k := by
  rcases h with rfl | rfl
  all_goals
    unfold opF
    show ((lOp tb s.t s.m (.call _)).bind fun (v, A) => putT { s with m := A } dst v k) = _
    simp only [lOp, R.bind_bind]
/-- A call of a function by its name. -/
noncomputable def resK (s : St) (dst : Option Tmp) (k : St → R (Ex × St)) : Res → R (Ex × St)
  | .val v A => putT { s with m := A } dst v k
  | .pan v A => .ok (.pan v, { s with m := A })
theorem opF_call (f : FuncId) (args : Array Operand) (ts : Array TypeId) : opF tb ih { dst, op := .call { callee := .value (.func f), args, argTypes := ts }, type := ty, pos, after, guard := g } s k =
    (evs s.t args.toList).bind fun a => (callF tb ih (.fn f a) s.m).bind fun r => resK s dst k r := by
  unfold opF
  show ((clOf tb s.t s.m.get { callee := .value (.func f), args, argTypes := ts }).bind fun cl => (callF tb ih cl s.m).bind fun r => match r with
    | .val v A => putT { s with m := A } dst v k
    | .pan v A => .ok (.pan v, { s with m := A })) = _
  have hcl : clOf tb s.t s.m.get { callee := .value (.func f), args, argTypes := ts } = (evs s.t args.toList).bind fun a => .ok (.fn f a) := by
    unfold clOf
    cases evs s.t args.toList with
    | no _ => rfl
    | ok a => simp only [R.ok_bind, ev, calleeF, List.nil_append, List.append_nil]
  rw [hcl]
  simp only [R.bind_bind, R.ok_bind]
  cases evs s.t args.toList with
  | no _ => rfl
  | ok a =>
    simp only [R.ok_bind]
    cases callF tb ih (.fn f a) s.m with
    | no _ => rfl
    | ok r => cases r <;> rfl
end

/-! ### An open order in which nothing floats -/
theorem filter_none {α : Type} (l : List α) : l.filter (fun _ => false) = [] := by simp
theorem hide_nil (A : Mem) : hideF [] A = A := rfl
theorem opF_k {o : Oper} {s : St} {k k' : St → R (Ex × St)} (h : ∀ s, k s = k' s) : opF tb ih o s k = opF tb ih o s k' := by rw [show k = k' from funext h]
theorem runD_nil (ops : List Oper) : ∀ (l : List Oper) (i : Nat) (mems : List (Nat × Mem)) (recs : List Rec) (mks : List (Nat × Nat)) (s : St), runD tb ih ops [] l i mems recs mks s = runOps tb ih ops l s
  | [], _, _, _, _, _ => rfl
  | o :: l, i, mems, recs, mks, s => by
    show ((wantF ops o s.t).bind fun w =>
      bif w then
        match cls tb o.op with
        | .L => opF tb ih o { s with m := hideF ((mks.filter fun x => pairIn x.1 i []).map (·.2)) s.m } fun s' =>
          (backF s.m.get ((mks.filter fun x => pairIn x.1 i []).map (·.2)) s'.m).bind fun A =>
          bif (recs.filter fun x => pairIn x.i i []).all (reread tb A.get) then runD tb ih ops [] l (i + 1) ((i, s.m) :: mems) recs mks { s' with m := A } else .no 310
        | .Rd => (rOp tb s.t s.m.get o.op).bind fun v =>
          bif (mems.filter fun m => pairIn i m.1 []).all (fun m => reread tb m.2.get ⟨i, s.t, o.op, v⟩) then putT s o.dst v (runD tb ih ops [] l (i + 1) mems (⟨i, s.t, o.op, v⟩ :: recs) mks) else .no 311
        | .Al => opF tb ih o s fun s' => runD tb ih ops [] l (i + 1) (addB s.m.next (s'.m.get s.m.next) mems) recs ((i, s.m.next) :: mks) s'
        | .P => opF tb ih o s (runD tb ih ops [] l (i + 1) mems recs mks)
      else putT s o.dst unitV (runD tb ih ops [] l (i + 1) mems recs mks)) = ((wantF ops o s.t).bind fun w => bif w then opF tb ih o s (runOps tb ih ops l) else putT s o.dst unitV (runOps tb ih ops l))
    have e : ∀ i mems recs mks, runD tb ih ops [] l i mems recs mks = runOps tb ih ops l := fun i mems recs mks => funext fun s => runD_nil ops l i mems recs mks s
    have hp : ∀ a b : Nat, pairIn a b [] = false := fun _ _ => rfl
    simp only [e, hp, filter_none, List.map_nil, hide_nil, backF, R.ok_bind, List.all_nil, cond_true]
    cases wantF ops o s.t with
    | no _ => rfl
    | ok w =>
      cases w with
      | false => rfl
      | true =>
        simp only [R.ok_bind, cond_true]
        cases hc : cls tb o.op with
        | Rd =>
          simp only
          unfold opF
          have hi : isCall o.op = none := by
            cases ho : isCall o.op with
            | none => rfl
            | some c =>
              exfalso
              unfold isCall at ho
              split at ho
              · rename_i c' hop
                rw [hop] at hc
                unfold cls at hc
                simp only at hc
                split at hc
                · rename_i hb; rw [hb] at ho; simp at ho
                · cases hc
              · cases ho
          simp only [hi, hc]
        | _ => rfl

noncomputable def drawNone (tb : Tab) (ops : List Oper) : Bool :=
  match drawInfo tb ops with
  | .ok [] => true
  | _ => false
theorem exec_draw {n id : Nat} {ops : Array Oper} {s : St} (h : drawNone tb ops.toList = true) : exec tb (n + 1) (.region id ops true) s = (runOps tb (exec tb n) ops.toList ops.toList s).bind fun (e, s) => match e with
    | .nrm => .ok (.nrm, s)
    | _ => .no 312 := by
  have h' : drawInfo tb ops.toList = .ok [] := by
    unfold drawNone at h
    split at h
    · assumption
    · cases h
  show ((drawInfo tb ops.toList).bind fun fl => (runD tb (exec tb n) ops.toList fl ops.toList 0 [] [] [] s).bind fun (e, s) => _) = _
  rw [h']
  simp only [R.ok_bind, runD_nil]
  rfl

theorem putT_none (s : St) (v : Value) (k : St → R (Ex × St)) : putT s none v k = k s := rfl
theorem putT_some {t : T Value} {n : Nat} {d : List Nat} {m : Mem} {ro : Option Nat} {i : Nat} {v : Value} {k : St → R (Ex × St)} (h : i < n) : putT ⟨t, n, d, m, ro⟩ (some i) v k = k ⟨t.set i v, n, d, m, ro⟩ := by
  rw [putT_mk (by simpa using h)]; rfl

theorem at_ptr (b : Nat) : Way.ptr.at b = .pointer (some ⟨b, 0, none⟩) := rfl
theorem at_slc (b len cap : Nat) : (Way.slc len cap).at b = .slice (some ⟨b, 0, none⟩) len cap := rfl
theorem runOps_guard (ops l : List Oper) (dst : Option Tmp) (op : Op) (ty : TypeId) (pos : String) (after : Array Edge) (j : Nat) (want : Bool) (s : St) :
    runOps tb ih ops ({ dst, op, type := ty, pos, after, guard := some (j, want) } :: l) s = (wantF ops { dst, op, type := ty, pos, after, guard := some (j, want) } s.t).bind fun w =>
      bif w then opF tb ih { dst, op, type := ty, pos, after, guard := some (j, want) } s (runOps tb ih ops l) else putT s dst unitV (runOps tb ih ops l) := rfl
theorem runOps_yes {ops l : List Oper} {o : Oper} {s : St} (h : wantF ops o s.t = .ok true) : runOps tb ih ops (o :: l) s = opF tb ih o s (runOps tb ih ops l) := by
  show ((wantF ops o s.t).bind fun w => bif w then opF tb ih o s (runOps tb ih ops l) else putT s o.dst unitV (runOps tb ih ops l)) = _
  rw [h]; rfl
theorem runOps_no {ops l : List Oper} {o : Oper} {s : St} (h : wantF ops o s.t = .ok false) : runOps tb ih ops (o :: l) s = putT s o.dst unitV (runOps tb ih ops l) := by
  show ((wantF ops o s.t).bind fun w => bif w then opF tb ih o s (runOps tb ih ops l) else putT s o.dst unitV (runOps tb ih ops l)) = _
  rw [h]; rfl
def wantV (want : Bool) (v : Option Value) : R Bool :=
  match v with
  | some (.bool b) => .ok (bif b then want else !want)
  | some (.tuple _) => .ok false
  | some _ => .no 257
  | none => .no 253
/-- The slot that an operation writes. -/
def dstAt : List Oper → Nat → Option Tmp
  | [], _ => none
  | o :: _, 0 => o.dst
  | _ :: l, n + 1 => dstAt l n
theorem dstAt_zero (o : Oper) (l : List Oper) : dstAt (o :: l) 0 = o.dst := rfl
theorem dstAt_succ (o : Oper) (l : List Oper) (n : Nat) : dstAt (o :: l) (n + 1) = dstAt l n := rfl
theorem dstAt_eq : ∀ (l : List Oper) (j : Nat) (d : Tmp), dstAt l j = some d → ∃ o, l[j]? = some o ∧ o.dst = some d
  | [], _, _, h => by cases h
  | o :: _, 0, _, h => ⟨o, rfl, h⟩
  | _ :: l, n + 1, d, h => by
    obtain ⟨o, h1, h2⟩ := dstAt_eq l n d h
    exact ⟨o, by simpa using h1, h2⟩
noncomputable def wantD (ops : List Oper) (o : Oper) (want : Bool) (t : T Value) (d : Option Tmp) : R Bool :=
  match d with
  | some d => wantV want (t.get d)
  | none => wantF ops o t
theorem wantF_guard (ops : List Oper) (dst : Option Tmp) (op : Op) (ty : TypeId) (pos : String) (after : Array Edge) (j : Nat) (want : Bool) (t : T Value) :
    wantF ops { dst, op, type := ty, pos, after, guard := some (j, want) } t = wantD ops { dst, op, type := ty, pos, after, guard := some (j, want) } want t (dstAt ops j) := by
  cases hd : dstAt ops j with
  | none => rfl
  | some d =>
    obtain ⟨o, h1, h2⟩ := dstAt_eq ops j d hd
    unfold wantF wantD wantV
    simp only [h1, h2]
    rfl
theorem wantD_some (ops : List Oper) (o : Oper) (want : Bool) (t : T Value) (d : Tmp) : wantD ops o want t (some d) = wantV want (t.get d) := rfl
theorem wantV_bool (want b : Bool) : wantV want (some (.bool b)) = .ok (bif b then want else !want) := rfl
theorem wantV_unit (want : Bool) (x : Array Value) : wantV want (some (.tuple x)) = .ok false := rfl
noncomputable def evG (v : Option Value) : R Value :=
  match v with
  | some v => .ok v
  | none => .no 200
theorem ev_tmp (t : T Value) (i : Nat) : ev t (.tmp i) = evG (t.get i) := rfl
theorem evG_some (v : Value) : evG (some v) = .ok v := rfl
theorem ev_int (t : T Value) (k : IntKind) (n : Nat) : ev t (.const (.int k (no_index (OfNat.ofNat n)))) = .ok (.int k ((OfNat.ofNat n : Nat) : Int)) := rfl
theorem ev_bool (t : T Value) (b : Bool) : ev t (.const (.bool b)) = .ok (.bool b) := rfl

/-! ### Integers -/
theorem binF_int {op : BinOp} {d : Option TypeDesc} {k : IntKind} {a b : Int} (h1 : op ≠ .shl) (h2 : op ≠ .shr) : binF op d (.int k a) (.int k b) = intOpF op k a b := by
  have hk : kindEq k k = true := by cases k <;> rfl
  unfold binF
  cases op <;> first | exact absurd rfl h1 | exact absurd rfl h2 | (simp only [hk, cond_true])
theorem op_rem {k : IntKind} {a b : Nat} (h : 0 < b) : intOpF .rem k (a : Int) (b : Int) = .ok (.int k ((a % b : Nat) : Int)) := by
  obtain ⟨c, rfl⟩ : ∃ c, b = c + 1 := ⟨b - 1, by omega⟩
  rfl

theorem inK_u32 {n : Nat} (h : n < 4294967296) : inK .u32 (n : Int) = true := by
  show Nat.blt n 4294967296 = true
  rw [Nat.blt_eq]; exact h
theorem inK_u8 {n : Nat} (h : n < 256) : inK .u8 (n : Int) = true := by
  show Nat.blt n 256 = true
  rw [Nat.blt_eq]; exact h
theorem inK_i64 {n : Nat} (h : n < 9223372036854775808) : inK .i64 (n : Int) = true := by
  show Nat.blt n 9223372036854775808 = true
  rw [Nat.blt_eq]; exact h
theorem op_quo_u32 {a b : Nat} (h : 0 < b) (ha : a < 4294967296) : intOpF .quo .u32 (a : Int) (b : Int) = .ok (.int .u32 ((a / b : Nat) : Int)) := by
  obtain ⟨c, rfl⟩ : ∃ c, b = c + 1 := ⟨b - 1, by omega⟩
  show R.ok (Value.int .u32 (wrapF .u32 ((a / (c + 1) : Nat) : Int))) = _
  unfold wrapF
  rw [inK_u32 (Nat.lt_of_le_of_lt (Nat.div_le_self ..) ha)]; rfl
theorem op_xor_u32 {a b : Nat} (ha : a < 4294967296) (hb : b < 4294967296) : intOpF .xor .u32 (a : Int) (b : Int) = .ok (.int .u32 ((a ^^^ b : Nat) : Int)) := by
  show (bif inK .u32 (a : Int) && inK .u32 (b : Int) then R.ok (Value.int .u32 ((a ^^^ b : Nat) : Int)) else .no 12) = _
  rw [inK_u32 ha, inK_u32 hb]; rfl
theorem op_neq {k : IntKind} {a b : Nat} : intOpF .neq k (a : Int) (b : Int) = .ok (.bool (decide (a ≠ b))) := by
  show R.ok (Value.bool (!Nat.beq a b)) = _
  congr 2
  cases h : Nat.beq a b with
  | true => simp [Nat.eq_of_beq_eq_true h]
  | false => simp [Nat.ne_of_beq_eq_false h]
theorem op_lss {k : IntKind} {a b : Nat} : intOpF .lss k (a : Int) (b : Int) = .ok (.bool (decide (a < b))) := by
  show R.ok (Value.bool (Nat.blt a b)) = _
  congr 2
  rw [Bool.eq_iff_iff]
  simp [Nat.blt_eq]
theorem op_add_i64 {a b : Nat} (h : a + b < 9223372036854775808) : intOpF .add .i64 (a : Int) (b : Int) = .ok (.int .i64 ((a + b : Nat) : Int)) := by
  show R.ok (Value.int .i64 (wrapF .i64 ((a + b : Nat) : Int))) = _
  unfold wrapF
  rw [inK_i64 h]; rfl

end Go.Am

/-
  The abstract machine AM, part 46: loops; arithmetic of numbers of which parts are not known; strings.
-/
namespace Go.Am
variable {tb : Tab} {ih : Code → St → R (Ex × St)}

/-- A loop of so many rounds. -/
theorem loop_runs {c : Code} {f : Nat} {e : Ex} (hne : e ≠ .nrm) {P : Nat → St → Prop} {Q : St → Prop} {N : Nat}
    (hb : ∀ i s, i < N → P i s → ∃ s', (∀ m, exec tb (m + f) c s = .ok (.nrm, s')) ∧ P (i + 1) s')
    (he : ∀ s, P N s → ∃ s', (∀ m, exec tb (m + f) c s = .ok (e, s')) ∧ Q s') :
    ∀ (j i : Nat) (s : St), i + j = N → P i s → ∃ s', (∀ m, exec tb (m + (f + j + 1)) (.loop c) s = .ok (e, s')) ∧ Q s'
  | 0, i, s, hij, hp => by
    obtain ⟨s', h1, h2⟩ := he s (by rw [show N = i by omega]; exact hp)
    refine ⟨s', fun m => ?_, h2⟩
    rw [show m + (f + 0 + 1) = (m + f) + 1 by omega, exec_loop, h1]
    cases e <;> first | rfl | exact absurd rfl hne
  | j + 1, i, s, hij, hp => by
    obtain ⟨s1, h1, h2⟩ := hb i s (by omega) hp
    obtain ⟨s', h3, h4⟩ := loop_runs hne hb he j (i + 1) s1 (by omega) h2
    refine ⟨s', fun m => ?_, h4⟩
    rw [show m + (f + (j + 1) + 1) = (m + j + 1 + f) + 1 by omega, exec_loop, h1, R.ok_bind]
    show exec tb (m + j + 1 + f) (.loop c) s1 = _
    rw [show m + j + 1 + f = m + (f + j + 1) by omega]
    exact h3 m

theorem block_runs {c : Code} {f id : Nat} {s s' : St} (h : ∀ m, exec tb (m + f) c s = .ok (.exit id, s')) (m : Nat) : exec tb (m + (f + 1)) (.block id c) s = .ok (.nrm, s') := by
  rw [show m + (f + 1) = (m + f) + 1 by omega, exec_block, h, R.ok_bind]
  simp

/-! ### Arithmetic -/
theorem wrapF_u8 (n : Nat) : wrapF .u8 (n : Int) = ((n % 256 : Nat) : Int) := by
  rw [wrapF_eq]; simp [IntKind.wrap, IntKind.signed, IntKind.bits]
theorem wrapF_u16 (n : Nat) : wrapF .u16 (n : Int) = ((n % 65536 : Nat) : Int) := by
  rw [wrapF_eq]; simp [IntKind.wrap, IntKind.signed, IntKind.bits]
theorem wrapF_u32 (n : Nat) : wrapF .u32 (n : Int) = ((n % 4294967296 : Nat) : Int) := by
  rw [wrapF_eq]; simp [IntKind.wrap, IntKind.signed, IntKind.bits]
theorem wrapF_i64 {n : Nat} (h : n < 9223372036854775808) : wrapF .i64 (n : Int) = (n : Int) := by
  unfold wrapF; rw [inK_i64 h]; rfl
theorem mod_u8 {n : Nat} (h : n < 256) : n % 256 = n := Nat.mod_eq_of_lt h
theorem mod_u32 {n : Nat} (h : n < 4294967296) : n % 4294967296 = n := Nat.mod_eq_of_lt h

theorem op_and_u8 {a b : Nat} (ha : a < 256) (hb : b < 256) : intOpF .and .u8 (a : Int) (b : Int) = .ok (.int .u8 ((a &&& b : Nat) : Int)) := by
  show (bif inK .u8 (a : Int) && inK .u8 (b : Int) then R.ok (Value.int .u8 ((a &&& b : Nat) : Int)) else .no 10) = _
  rw [inK_u8 ha, inK_u8 hb]; rfl
theorem op_xor_u8 {a b : Nat} (ha : a < 256) (hb : b < 256) : intOpF .xor .u8 (a : Int) (b : Int) = .ok (.int .u8 ((a ^^^ b : Nat) : Int)) := by
  show (bif inK .u8 (a : Int) && inK .u8 (b : Int) then R.ok (Value.int .u8 ((a ^^^ b : Nat) : Int)) else .no 12) = _
  rw [inK_u8 ha, inK_u8 hb]; rfl
theorem op_sub_u32 {a b : Nat} (h : b ≤ a) (ha : a < 4294967296) : intOpF .sub .u32 (a : Int) (b : Int) = .ok (.int .u32 ((a - b : Nat) : Int)) := by
  show R.ok (Value.int .u32 (wrapF .u32 ((a : Int) - (b : Int)))) = _
  rw [show (a : Int) - (b : Int) = ((a - b : Nat) : Int) by omega, wrapF_u32, mod_u32 (by omega)]
theorem op_sub_i64 {a b : Nat} (h : b ≤ a) (ha : a < 9223372036854775808) : intOpF .sub .i64 (a : Int) (b : Int) = .ok (.int .i64 ((a - b : Nat) : Int)) := by
  show R.ok (Value.int .i64 (wrapF .i64 ((a : Int) - (b : Int)))) = _
  rw [show (a : Int) - (b : Int) = ((a - b : Nat) : Int) by omega, wrapF_i64 (by omega)]
theorem op_eql {k : IntKind} {a b : Nat} : intOpF .eql k (a : Int) (b : Int) = .ok (.bool (decide (a = b))) := by
  show R.ok (Value.bool (Nat.beq a b)) = _
  congr 2
  cases h : Nat.beq a b with
  | true => simp [Nat.eq_of_beq_eq_true h]
  | false => simp [Nat.ne_of_beq_eq_false h]
theorem op_not_u32 {n : Nat} (h : n < 4294967296) : unF .xor (.int .u32 (n : Int)) = .ok (.int .u32 ((4294967295 - n : Nat) : Int)) := by
  show (bif IntKind.signed .u32 then R.no 26 else bif inK .u32 (n : Int) then R.ok (Value.int .u32 (.ofNat (2 ^ IntKind.bits .u32 - 1 - n))) else .no 26) = _
  rw [inK_u32 h]; rfl
theorem binF_shr {d : Option TypeDesc} {k k' : IntKind} {a b : Nat} (h : b < k.bits) : binF .shr d (.int k (a : Int)) (.int k' (b : Int)) = .ok (.int k ((a >>> b : Nat) : Int)) := by
  have e : binF .shr d (.int k (a : Int)) (.int k' (b : Int)) = R.ok (Value.int k (.ofNat (Nat.shiftRight a (bif Nat.blt b k.bits then b else k.bits)))) := by cases k <;> rfl
  rw [e]
  have : Nat.blt b k.bits = true := by rw [Nat.blt_eq]; exact h
  rw [this]; rfl

theorem binF_shr_u32 {d : Option TypeDesc} {k' : IntKind} {a b : Nat} (h : b < 32) : binF .shr d (.int .u32 (a : Int)) (.int k' (b : Int)) = .ok (.int .u32 ((a >>> b : Nat) : Int)) := binF_shr h
theorem binF_shr_u8 {d : Option TypeDesc} {k' : IntKind} {a b : Nat} (h : b < 8) : binF .shr d (.int .u8 (a : Int)) (.int k' (b : Int)) = .ok (.int .u8 ((a >>> b : Nat) : Int)) := binF_shr h
theorem op_mul_i64 {a b : Nat} (h : a * b < 9223372036854775808) : intOpF .mul .i64 (a : Int) (b : Int) = .ok (.int .i64 ((a * b : Nat) : Int)) := by
  show R.ok (Value.int .i64 (wrapF .i64 ((a : Int) * (b : Int)))) = _
  rw [← Int.natCast_mul, wrapF_i64 h]
theorem op_sub_neg {a b : Nat} (h : a < b) (hb : b < 9223372036854775808) : intOpF .sub .i64 (a : Int) (b : Int) = .ok (.int .i64 (-((b - a : Nat) : Int))) := by
  show R.ok (Value.int .i64 (wrapF .i64 ((a : Int) - (b : Int)))) = _
  rw [show (a : Int) - (b : Int) = -((b - a : Nat) : Int) by omega, wrapF_eq, wrap_in (by show (-9223372036854775808 : Int) ≤ _; omega) (by show _ ≤ (9223372036854775807 : Int); omega)]
theorem op_lss_neg {k : IntKind} {a b : Nat} (h : 0 < a) : intOpF .lss k (-(a : Int)) (b : Int) = .ok (.bool true) := by
  obtain ⟨c, rfl⟩ : ∃ c, a = c + 1 := ⟨a - 1, by omega⟩
  rfl

/-! ### Strings -/
theorem str_add {a b : List UInt8} (h : a.length + b.length < 4611686018427387904) : strOpF .add a b = .ok (strOf (a ++ b)) := by
  unfold strOpF
  have : Nat.blt (a.length + b.length) 4611686018427387904 = true := by rw [Nat.blt_eq]; exact h
  simp only [this, cond_true]
theorem str_neq {a b : List UInt8} : strOpF .neq a b = .ok (.bool (decide (a ≠ b))) := by
  unfold strOpF
  simp only [bytesEq_eq]
  congr 2
  by_cases h : a = b <;> simp [h]
theorem str_eql {a b : List UInt8} : strOpF .eql a b = .ok (.bool (decide (a = b))) := by
  unfold strOpF
  simp only [bytesEq_eq]
  congr 2
  by_cases h : a = b <;> simp [h]
theorem bound_some {k : IntKind} {n d most : Nat} (h : n ≤ most) : bound (some (.int k (n : Int))) d most = .ok n := by
  unfold bound
  show (bif Nat.ble n most then R.ok n else .no 31) = _
  rw [Nat.ble_eq_true_of_le h]; rfl
theorem bound_none {d most : Nat} : bound none d most = .ok d := rfl
theorem slice_str {tb : Tab} {t : TypeId} {l : List UInt8} {lo hi : Option Value} {a b : Nat} (ht : tb.und t = some .string) (h1 : bound hi l.length l.length = .ok b) (h2 : bound lo 0 b = .ok a) : sliceF tb t (strOf l) lo hi none = .ok (strOf ((l.take b).drop a)) := by
  unfold sliceF strOf
  simp only [ht, h1, h2, R.ok_bind]
theorem slice_to {tb : Tab} {t : TypeId} {l : List UInt8} {k : IntKind} {n : Nat} (ht : tb.und t = some .string) (h : n ≤ l.length) : sliceF tb t (strOf l) none (some (.int k (n : Int))) none = .ok (strOf (l.take n)) := by
  rw [slice_str ht (bound_some h) bound_none]; rfl
theorem slice_from {tb : Tab} {t : TypeId} {l : List UInt8} {k : IntKind} {n : Nat} (ht : tb.und t = some .string) (h : n ≤ l.length) : sliceF tb t (strOf l) (some (.int k (n : Int))) none none = .ok (strOf (l.drop n)) := by
  rw [slice_str ht bound_none (bound_some h), List.take_length]
theorem index_str {t : TypeId} {l : List UInt8} {kd : IntKind} {i : Nat} (ht : tb.und t = some .string) (h : i < l.length) : indexF tb t (strOf l) (.int kd (i : Int)) = .ok (.int .u8 (((l.getD i 0).toNat : Nat) : Int)) := by
  unfold indexF strOf
  simp only [ht]
  show (match l[i]? with | some b => R.ok (Value.int .u8 (.ofNat b.toNat)) | none => .no 53) = _
  rw [List.getElem?_eq_getElem h]
  simp [List.getD, List.getElem?_eq_getElem h]
theorem len_str {t : TypeId} {l : List UInt8} (ht : tb.und t = some .string) : builtinPF tb .len [t] [strOf l] = .ok (.int .i64 ((l.length : Nat) : Int)) := by
  unfold builtinPF lenPF strOf
  simp only [ht]; rfl
theorem byte_lt (b : UInt8) : b.toNat < 256 := b.toNat_lt
theorem string_eq (s : ByteArray) : Value.string s = strOf s.data.toList := rfl
theorem ev_str (t : T Value) (s : ByteArray) : ev t (.const (.string s)) = .ok (strOf s.data.toList) := rfl
theorem binF_str {op : BinOp} {d : Option TypeDesc} {a b : List UInt8} : binF op d (strOf a) (strOf b) = strOpF op a b := rfl

/-! ### Parts of a text, by their place -/
def sub : Code → List Nat → Code
  | .seq a b, i :: l => bif Nat.beq i 0 then sub a l else sub b l
  | .cond _ a b, i :: l => bif Nat.beq i 0 then sub a l else sub b l
  | .block _ c, _ :: l => sub c l
  | .loop c, _ :: l => sub c l
  | .scope c, _ :: l => sub c l
  | .rangeFunc _ _ a b, i :: l => bif Nat.beq i 0 then sub a l else sub b l
  | c, _ => c
theorem sub_nil (c : Code) : sub c [] = c := by cases c <;> rfl
theorem sub_seq0 (a b : Code) (l : List Nat) : sub (.seq a b) (0 :: l) = sub a l := rfl
theorem sub_seq1 (a b : Code) (l : List Nat) : sub (.seq a b) (1 :: l) = sub b l := rfl
theorem sub_cond0 (x : Operand) (a b : Code) (l : List Nat) : sub (.cond x a b) (0 :: l) = sub a l := rfl
theorem sub_cond1 (x : Operand) (a b : Code) (l : List Nat) : sub (.cond x a b) (1 :: l) = sub b l := rfl
theorem sub_block (i : Nat) (c : Code) (l : List Nat) : sub (.block i c) (0 :: l) = sub c l := rfl
theorem sub_loop (c : Code) (l : List Nat) : sub (.loop c) (0 :: l) = sub c l := rfl
theorem sub_scope (c : Code) (l : List Nat) : sub (.scope c) (0 :: l) = sub c l := rfl
theorem sub_range0 (f : Operand) (ps : Array Tmp) (a b : Code) (l : List Nat) : sub (.rangeFunc f ps a b) (0 :: l) = sub a l := rfl
theorem sub_range1 (f : Operand) (ps : Array Tmp) (a b : Code) (l : List Nat) : sub (.rangeFunc f ps a b) (1 :: l) = sub b l := rfl

theorem nat_beq_self (n : Nat) : Nat.beq n n = true := by simp
theorem min_i64 {tb : Tab} {ts : List TypeId} {a b : Nat} : builtinPF tb .min ts [.int .i64 (a : Int), .int .i64 (b : Int)] = .ok (.int .i64 ((min a b : Nat) : Int)) := by
  have e : builtinPF tb .min ts [.int .i64 (a : Int), .int .i64 (b : Int)] = .ok (.int .i64 (bif Nat.blt b a then (b : Int) else (a : Int))) := by
    cases ts <;> rfl
  rw [e]
  cases h : Nat.blt b a with
  | true =>
    have : b < a := by simpa [Nat.blt_eq] using h
    rw [Nat.min_eq_right (by omega)]; rfl
  | false =>
    have : ¬ b < a := by intro hx; rw [← Nat.blt_eq, h] at hx; cases hx
    rw [Nat.min_eq_left (by omega)]; rfl
theorem bool_eql {a b : Bool} : binF .eql (some .bool) (.bool a) (.bool b) = .ok (.bool (a == b)) := by cases a <;> cases b <;> rfl
theorem op_quo_i64 {a b : Nat} (h : 0 < b) (ha : a < 9223372036854775808) : intOpF .quo .i64 (a : Int) (b : Int) = .ok (.int .i64 ((a / b : Nat) : Int)) := by
  obtain ⟨c, rfl⟩ : ∃ c, b = c + 1 := ⟨b - 1, by omega⟩
  show R.ok (Value.int .i64 (wrapF .i64 ((a / (c + 1) : Nat) : Int))) = _
  rw [wrapF_i64 (Nat.lt_of_le_of_lt (Nat.div_le_self ..) ha)]
theorem op_and_u32 {a b : Nat} (ha : a < 4294967296) (hb : b < 4294967296) : intOpF .and .u32 (a : Int) (b : Int) = .ok (.int .u32 ((a &&& b : Nat) : Int)) := by
  show (bif inK .u32 (a : Int) && inK .u32 (b : Int) then R.ok (Value.int .u32 ((a &&& b : Nat) : Int)) else .no 10) = _
  rw [inK_u32 ha, inK_u32 hb]; rfl
theorem binF_shl_u8 {d : Option TypeDesc} {k' : IntKind} {a b : Nat} (h : b < 8) : binF .shl d (.int .u8 (a : Int)) (.int k' (b : Int)) = .ok (.int .u8 ((a <<< b % 256 : Nat) : Int)) := by
  have e : binF .shl d (.int .u8 (a : Int)) (.int k' (b : Int)) = (bif Nat.blt b 8 then R.ok (Value.int .u8 (wrapF .u8 ((a <<< b : Nat) : Int))) else .ok (.int .u8 0)) := rfl
  have hb : Nat.blt b 8 = true := by rw [Nat.blt_eq]; exact h
  rw [e, hb, cond_true, wrapF_u8]

/-- A function that is known. -/
theorem callF_known {f : FuncId} {fn : Func} {c : Code} {h : List Value → Mem → R (Value × Mem)} {args : List Value} {A A' : Mem} {v : Value} (hf : tb.fn.get f = some fn) (hn : (fn.name == "runtime.NumGoroutine") = false) (hb : fn.body = some c)
    (hk : tb.hk.get f = some h) (hv : h args A = .ok (v, A')) : callF tb ih (.fn f args) A = .ok (.val v A') := by
  unfold callF
  simp only [hf, hn, hb, hk, hv, cond_false, R.ok_bind]

end Go.Am

/-
  The abstract machine AM, part 47: what holds behind a piece of code, whatever fuel it takes.
-/
namespace Go.Am
variable {tb : Tab}

/-- A piece of code comes to an end, and there K holds. -/
def W (tb : Tab) (c : Code) (s : St) (K : Ex → St → Prop) : Prop := ∃ e s', (∃ f, ∀ m, exec tb (m + f) c s = .ok (e, s')) ∧ K e s'

theorem W.run {c : Code} {s : St} {K : Ex → St → Prop} (f : Nat) {e : Ex} {s' : St} (h : ∀ m, exec tb (m + f) c s = .ok (e, s')) (k : K e s') : W tb c s K := ⟨e, s', ⟨f, h⟩, k⟩
theorem W.mono {c : Code} {s : St} {K K' : Ex → St → Prop} (h : W tb c s K) (hk : ∀ e s', K e s' → K' e s') : W tb c s K' := by
  obtain ⟨e, s', h1, h2⟩ := h
  exact ⟨e, s', h1, hk _ _ h2⟩
/-- What comes behind an end that is plain; any other one is the whole's. -/
def Then (tb : Tab) (b : Code) (K : Ex → St → Prop) (e : Ex) (s : St) : Prop :=
  match e with
  | .nrm => W tb b s K
  | e => K e s
theorem W.seq {a b : Code} {s : St} {K : Ex → St → Prop} (h : W tb a s (Then tb b K)) : W tb (.seq a b) s K := by
  obtain ⟨e, s1, ⟨f, h1⟩, h2⟩ := h
  cases e with
  | nrm =>
    obtain ⟨e2, s2, ⟨g, h3⟩, h4⟩ := h2
    refine ⟨e2, s2, ⟨f + g + 1, fun m => ?_⟩, h4⟩
    have e1 := h1 (m + g)
    have e2' := h3 (m + f)
    rw [show m + (f + g + 1) = (m + g + f) + 1 by omega, exec_seq, e1, R.ok_bind]
    show exec tb (m + g + f) b s1 = _
    rw [show m + g + f = m + f + g by omega]; exact e2'
  | _ => exact ⟨_, s1, ⟨f + 1, fun m => by rw [show m + (f + 1) = (m + f) + 1 by omega, exec_seq, h1]; rfl⟩, h2⟩
def Blk (id : Nat) (K : Ex → St → Prop) (e : Ex) (s : St) : Prop :=
  match e with
  | .exit i => if i = id then K .nrm s else K (.exit i) s
  | e => K e s
theorem W.block {id : Nat} {c : Code} {s : St} {K : Ex → St → Prop} (h : W tb c s (Blk id K)) : W tb (.block id c) s K := by
  obtain ⟨e, s1, ⟨f, h1⟩, h2⟩ := h
  cases e with
  | exit i =>
    unfold Blk at h2
    simp only at h2
    by_cases hi : i = id
    · subst hi
      rw [if_pos rfl] at h2
      exact ⟨.nrm, s1, ⟨f + 1, fun m => by rw [show m + (f + 1) = (m + f) + 1 by omega, exec_block, h1]; simp [R.ok_bind]⟩, h2⟩
    · rw [if_neg hi] at h2
      have hb : Nat.beq i id = false := by
        cases hq : Nat.beq i id with
        | false => rfl
        | true => exact absurd (Nat.eq_of_beq_eq_true hq) hi
      exact ⟨.exit i, s1, ⟨f + 1, fun m => by rw [show m + (f + 1) = (m + f) + 1 by omega, exec_block, h1]; simp [R.ok_bind, hb]⟩, h2⟩
  | _ => exact ⟨_, s1, ⟨f + 1, fun m => by rw [show m + (f + 1) = (m + f) + 1 by omega, exec_block, h1]; rfl⟩, h2⟩
theorem W.scope {c : Code} {s : St} {K : Ex → St → Prop} (h : W tb c s K) : W tb (.scope c) s K := by
  obtain ⟨e, s1, ⟨f, h1⟩, h2⟩ := h
  exact ⟨e, s1, ⟨f + 1, fun m => by rw [show m + (f + 1) = (m + f) + 1 by omega, exec_scope, h1]⟩, h2⟩
theorem W.cond {c : Operand} {a b : Code} {s : St} {K : Ex → St → Prop} {p : Bool} (hp : ev s.t c = .ok (.bool p)) (ha : p = true → W tb a s K) (hb : p = false → W tb b s K) : W tb (.cond c a b) s K := by
  cases p with
  | true =>
    obtain ⟨e, s1, ⟨f, h1⟩, h2⟩ := ha rfl
    exact ⟨e, s1, ⟨f + 1, fun m => by rw [show m + (f + 1) = (m + f) + 1 by omega, exec_cond, hp, R.ok_bind]; exact h1 m⟩, h2⟩
  | false =>
    obtain ⟨e, s1, ⟨f, h1⟩, h2⟩ := hb rfl
    exact ⟨e, s1, ⟨f + 1, fun m => by rw [show m + (f + 1) = (m + f) + 1 by omega, exec_cond, hp, R.ok_bind]; exact h1 m⟩, h2⟩
/-- One round of a loop. -/
theorem W.round {c : Code} {s : St} {K : Ex → St → Prop} (h : W tb c s (Then tb (.loop c) K)) : W tb (.loop c) s K := by
  obtain ⟨e, s1, ⟨f, h1⟩, h2⟩ := h
  cases e with
  | nrm =>
    obtain ⟨e2, s2, ⟨g, h3⟩, h4⟩ := h2
    refine ⟨e2, s2, ⟨f + g + 1, fun m => ?_⟩, h4⟩
    rw [show m + (f + g + 1) = (m + g + f) + 1 by omega, exec_loop, h1, R.ok_bind]
    show exec tb (m + g + f) (.loop c) s1 = _
    rw [show m + g + f = m + f + g by omega]; exact h3 (m + f)
  | _ => exact ⟨_, s1, ⟨f + 1, fun m => by rw [show m + (f + 1) = (m + f) + 1 by omega, exec_loop, h1]; rfl⟩, h2⟩
/-- A loop: 'P' holds at each head, and a number falls. -/
theorem W.loop {c : Code} {K : Ex → St → Prop} (P : St → Prop) (μ : St → Nat) (hb : ∀ s, P s → W tb c s fun e s' => match e with
    | .nrm => P s' ∧ μ s' < μ s
    | e => K e s') : ∀ {s : St}, P s → W tb (.loop c) s K := by
  have main : ∀ n s, μ s = n → P s → W tb (.loop c) s K := by
    intro n
    induction n using Nat.strongRecOn with
    | ind n ih =>
      intro s hn hp
      obtain ⟨e, s1, ⟨f, h1⟩, h2⟩ := hb s hp
      cases e with
      | nrm =>
        obtain ⟨e2, s2, ⟨g, h3⟩, h4⟩ := ih _ (by rw [← hn]; exact h2.2) s1 rfl h2.1
        refine ⟨e2, s2, ⟨f + g + 1, fun m => ?_⟩, h4⟩
        have e1 := h1 (m + g)
        rw [show m + (f + g + 1) = (m + g + f) + 1 by omega, exec_loop, e1, R.ok_bind]
        show exec tb (m + g + f) (.loop c) s1 = _
        rw [show m + g + f = m + f + g by omega]; exact h3 (m + f)
      | _ => exact ⟨_, s1, ⟨f + 1, fun m => by rw [show m + (f + 1) = (m + f) + 1 by omega, exec_loop, h1]; rfl⟩, h2⟩
  exact fun {s} hp => main _ s rfl hp

/-- A function's text: its result. -/
def CallsTo (tb : Tab) (f : FuncId) (args : List Value) (A : Mem) (v : Value) (A' : Mem) : Prop := ∃ n, call tb n f args A = .ok (.val v A')
theorem call_of_W {f : FuncId} {fn : Func} {c : Code} {args : List Value} {A : Mem} {Q : Value → Mem → Prop} (hf : tb.fn.get f = some fn) (hb : fn.body = some c) (hn : args.length ≤ fn.ntmps)
    (h : W tb c ⟨T.puts .e 0 args, fn.ntmps, [], A, none⟩ fun e s => (e = .nrm ∨ e = .ret) ∧ ∃ A' vs, takeF s.d s.m = .ok A' ∧ resF tb s.t A'.get fn.results.toList = .ok vs ∧ Q (oneOf vs) A') :
    ∃ v A', CallsTo tb f args A v A' ∧ Q v A' := by
  obtain ⟨e, s1, ⟨g, h1⟩, he, A', vs, h2, h3, h4⟩ := h
  refine ⟨_, A', ⟨g, ?_⟩, h4⟩
  unfold call
  simp only [hf, hb]
  unfold bodyF
  have hb : Nat.ble args.length fn.ntmps = true := by rw [Nat.ble_eq]; exact hn
  rw [hb, cond_true]
  have := h1 0
  rw [Nat.zero_add] at this
  rw [this, R.ok_bind]
  rcases he with rfl | rfl <;> simp only [h2, h3, R.ok_bind]

/-- A call of a function with a text, whatever fuel it takes. -/
theorem callF_of_W {f : FuncId} {fn : Func} {c : Code} {args : List Value} {A : Mem} {Q : Value → Mem → Prop} (hf : tb.fn.get f = some fn) (hb : fn.body = some c) (hn : args.length ≤ fn.ntmps) (hnm : (fn.name == "runtime.NumGoroutine") = false) (hk : tb.hk.get f = none)
    (h : W tb c ⟨T.puts .e 0 args, fn.ntmps, [], A, none⟩ fun e s => (e = .nrm ∨ e = .ret) ∧ ∃ A' vs, takeF s.d s.m = .ok A' ∧ resF tb s.t A'.get fn.results.toList = .ok vs ∧ Q (oneOf vs) A') :
    ∃ v A', (∃ g, ∀ m, callF tb (exec tb (m + g)) (.fn f args) A = .ok (.val v A')) ∧ Q v A' := by
  obtain ⟨e, s1, ⟨g, h1⟩, he, A', vs, h2, h3, h4⟩ := h
  refine ⟨_, A', ⟨g, fun m => ?_⟩, h4⟩
  unfold callF
  simp only [hf, hb, hnm, hk, cond_false]
  unfold bodyF
  have hb : Nat.ble args.length fn.ntmps = true := by rw [Nat.ble_eq]; exact hn
  rw [hb, cond_true, h1, R.ok_bind]
  rcases he with rfl | rfl <;> simp only [h2, h3, R.ok_bind]

end Go.Am

/-
  The abstract machine AM, part 48: bytes in memory.
-/
namespace Go.Am
variable {tb : Tab}

theorem gets_eq {α : Type} (t : T α) : ∀ (n i : Nat) (l : List α), l.length = n → (∀ j, j < n → t.get (i + j) = l[j]?) → t.gets n i = some l
  | 0, i, l, hl, _ => by
    have : l = [] := List.length_eq_zero_iff.1 hl
    rw [this]; rfl
  | n + 1, i, [], hl, _ => by simp at hl
  | n + 1, i, x :: l, hl, h => by
    rw [T.gets_succ]
    have h0 := h 0 (by omega)
    simp only [Nat.add_zero, List.getElem?_cons_zero] at h0
    have ht : t.gets n (i + 1) = some l := gets_eq t n (i + 1) l (by simpa using hl) fun j hj => by
      have := h (j + 1) (by omega)
      rw [show i + 1 + j = i + (j + 1) by omega, this]; simp
    rw [h0, ht]
theorem gets_puts {α : Type} (l : List α) : (T.puts .e 0 l).gets l.length 0 = some l :=
  gets_eq _ _ _ _ rfl fun j hj => by
    rw [T.get_puts, Nat.zero_add, if_pos (by omega)]; simp
/-- A part of a row. -/
theorem gets_part {α : Type} (l : List α) (o n : Nat) (h : o + n ≤ l.length) : (T.puts .e 0 l).gets n o = some ((l.drop o).take n) :=
  gets_eq _ _ _ _ (by simp; omega) fun j hj => by
    rw [T.get_puts, if_pos (by omega), List.getElem?_take, if_pos hj, List.getElem?_drop, Nat.sub_zero]

theorem bytesOf_map : ∀ (l : List UInt8), bytesOf (l.map byteV) = .ok l
  | [] => rfl
  | b :: l => by
    show (bytesOf (l.map byteV)).bind (fun r => R.ok (UInt8.ofNat b.toNat :: r)) = _
    rw [bytesOf_map l, R.ok_bind]; simp

/-- A block of bytes. -/
def Bytes (A : Mem) (b : Nat) (e : TypeId) (k : Kd) (l : List UInt8) : Prop := A.get b = some (.cells e k 0 (T.puts .e 0 (l.map byteV)))

theorem elemsF_bytes {A : Mem} {b : Nat} {e : TypeId} {k : Kd} {l : List UInt8} (h : Bytes A b e k l) : elemsF A.get 1 l.length (some ⟨b, 0, none⟩) = .ok (l.map byteV) := by
  unfold elemsF
  simp only [Nat.mul_one]
  cases hn : Nat.beq l.length 0 with
  | true =>
    have : l = [] := List.length_eq_zero_iff.1 (Nat.eq_of_beq_eq_true hn)
    subst this; rfl
  | false =>
    have h' : A.get b = _ := h
    have hg : (T.puts .e 0 (l.map byteV)).gets l.length 0 = some (l.map byteV) := by
      have := gets_puts (l.map byteV)
      rwa [List.length_map] at this
    simp only [cond_false, h', hg]

/-- A slice of bytes, as a string. -/
theorem str_of_bytes {A : Mem} {b : Nat} {e : TypeId} {k : Kd} {l : List UInt8} {s d : TypeId} {c : Nat} (h1 : tb.und s = some (.slice e)) (h2 : tb.und d = some .string) (h3 : tb.und e = some (.int .u8)) (h : Bytes A b e k l) :
    convRF tb A.get s d (.slice (some ⟨b, 0, none⟩) l.length c) = .ok (strOf l) := by
  unfold convRF
  simp only [h1, h2, h3, toStringF, elemsF_bytes h, R.ok_bind, bytesOf_map]

/-- A string, as a slice of bytes. -/
theorem bytes_of_str {l : List UInt8} {s d e : TypeId} (h1 : tb.und s = some .string) (h2 : tb.und d = some (.slice e)) (h3 : tb.und e = some (.int .u8)) (hl : l.length < 4294967296) :
    toBytesF tb s d (strOf l) = .ok (.cells e .mark 0 (T.puts .e 0 (l.map byteV)), .slc l.length (mkX l.length 1)) := by
  unfold toBytesF strOf
  have : Nat.blt l.length 4294967296 = true := by rw [Nat.blt_eq]; exact hl
  simp only [h1, h2, h3, this, cond_true]

theorem byteV_ofNat {v : Nat} (h : v < 256) : Value.int .u8 (v : Int) = byteV (UInt8.ofNat v) := by
  unfold byteV
  have e : (UInt8.ofNat v).toNat = v := by rw [UInt8.toNat_ofNat']; exact Nat.mod_eq_of_lt h
  rw [e]; rfl

theorem get_alloc_self (A : Mem) (o : Ob) : (A.alloc o).get A.next = some o := by rw [get_alloc, if_pos rfl]
theorem get_alloc_ne {A : Mem} {o : Ob} {x : Nat} (h : x ≠ A.next) : (A.alloc o).get x = A.get x := by rw [get_alloc, if_neg h]

/-- One byte more, behind bytes of which it is not known how much room is behind them. -/
theorem append_byte {A : Mem} {st xt e : TypeId} {i : TypeInfo} {b b2 : Nat} {k : Kd} {l : List UInt8} {v : Nat} (hst : tb.und st = some (.slice e)) (hxt : tb.und xt = some (.slice e)) (hz : zcellsF tb e = .ok (1, [.int .u8 0])) (hi : tb.ty.get e = some i) (hib : i.bytes = 1)
    (hl : l.length < 16777216) (hk : k = .mark ∨ k = .row) (hb : Bytes A b e k l) (hb2 : A.get b2 = some (rowOb e [.int .u8 (v : Int)])) (hv : v < 256) :
    appendF tb A st xt (.slice (some ⟨b, 0, none⟩) l.length (mkX l.length 1)) (.slice (some ⟨b2, 0, none⟩) 1 2) =
      .ok (.slice (some ⟨A.next, 0, none⟩) (l.length + 1) (mkX (l.length + 1) 1), (A.set b .dead).alloc (.cells e k 0 (T.puts .e 0 ((l ++ [UInt8.ofNat v]).map byteV)))) := by
  have he1 : (1 : Nat) < 65536 := by omega
  have hnew : firstF A.get 1 1 (.slice (some ⟨b2, 0, none⟩) 1 2) = .ok [byteV (UInt8.ofNat v)] := by
    have hb3 : Bytes A b2 e (.var 1) [UInt8.ofNat v] := by
      show A.get b2 = some (.cells e (.var 1) 0 (T.puts .e 0 [byteV (UInt8.ofNat v)]))
      rw [hb2, byteV_ofNat hv]; rfl
    exact elemsF_bytes hb3
  have hble : Nat.ble (l.length + 1) (capN (mkX l.length 1)) = false := by
    rw [capN_mkX he1]
    cases hq : Nat.ble (l.length + 1) l.length with
    | false => rfl
    | true => have := Nat.le_of_ble_eq_true hq; omega
  have hlim : (Nat.ble (l.length + 1) 16777216 && Nat.ble i.bytes 65536 && Nat.blt 0 i.bytes && Nat.blt 0 1 && Nat.blt 1 65536) = true := by
    have a1 : Nat.ble (l.length + 1) 16777216 = true := Nat.ble_eq_true_of_le (by omega)
    rw [a1, hib]; rfl
  have hb' : A.get b = _ := hb
  have hx : capX (mkX l.length 1) = false := capX_mkX _ _
  have he : Nat.beq (capE (mkX l.length 1)) 1 = true := by rw [capE_mkX he1]; rfl
  have hfz : (Nat.ble 0 (0 + l.length * 1) && (Nat.beq e e && Nat.blt 0 9223372036854775808)) = true := by
    have h0 : Nat.blt 0 9223372036854775808 = true := by rw [Nat.blt_eq]; omega
    rw [h0]; simp
  unfold appendF appendG
  simp only [hst, hxt, isIntD, cond_false, hz, R.ok_bind, lenF, hnew, hble, hi, hlim, cond_true, elemsF_bytes hb, hx, he, List.all_cons, List.all_nil, byteV, oneCell, Bool.and_true, hb', hfz]
  rcases hk with rfl | rfl <;> simp [byteV]

/-! ### Cells -/
theorem indexAddr_arr {t elem : TypeId} {len b o i : Nat} {k : IntKind} (hu : tb.und t = some (.array len elem)) (hs : sizeF tb elem = .ok 1) (h : i < len) :
    indexAddrF tb t (.pointer (some ⟨b, o, none⟩)) (.int k (i : Int)) = .ok (.pointer (some ⟨b, o + i, none⟩)) := by
  have hb : Nat.blt i len = true := by rw [Nat.blt_eq]; exact h
  have hn : natV (.int k (i : Int)) = .ok i := rfl
  unfold indexAddrF
  simp only [hn, hu, hb, cond_true, hs, R.ok_bind, addA, Nat.mul_one]
theorem indexAddr_slc {t elem : TypeId} {len cap b o i : Nat} {k : IntKind} (hu : tb.und t = some (.slice elem)) (hs : sizeF tb elem = .ok 1) (h : i < len) :
    indexAddrF tb t (.slice (some ⟨b, o, none⟩) len cap) (.int k (i : Int)) = .ok (.pointer (some ⟨b, o + i, none⟩)) := by
  have hb : Nat.blt i len = true := by rw [Nat.blt_eq]; exact h
  have hn : natV (.int k (i : Int)) = .ok i := rfl
  unfold indexAddrF
  simp only [hn, hu, hb, cond_true, hs, R.ok_bind, addA, Nat.mul_one]
theorem load_row {t e : TypeId} {d : TypeDesc} {A : Mem} {b o : Nat} {l : List Value} {v : Value} (hu : tb.und t = some d) (ha : isAggD d = false) (hg : A.get b = some (rowOb e l)) (hv : l[o]? = some v) :
    loadF tb A.get t (.pointer (some ⟨b, o, none⟩)) = .ok v := by
  have ho : o < l.length := (List.getElem?_eq_some_iff.1 hv).1
  have hc : (T.puts .e 0 l).get o = some v := by
    rw [T.get_puts, if_pos (by omega), Nat.sub_zero]; exact hv
  unfold loadF
  simp only [hg, rowOb, hu, ha, cond_false, hc]
theorem load_same {t : TypeId} {A B : Mem} {b o : Nat} (h : A.get b = B.get b) : loadF tb A.get t (.pointer (some ⟨b, o, none⟩)) = loadF tb B.get t (.pointer (some ⟨b, o, none⟩)) := by
  unfold loadF
  simp only [h]
theorem len_slc {t e : TypeId} {a : Option Addr} {n c : Nat} (hu : tb.und t = some (.slice e)) : builtinPF tb .len [t] [.slice a n c] = .ok (.int .i64 ((n : Nat) : Int)) := by
  unfold builtinPF lenPF
  simp only [hu]; rfl

end Go.Am

/-
  The abstract machine AM, part 49: bytes that are written in place; more arithmetic.
-/
namespace Go.Am
variable {tb : Tab}

/-- A block of bytes, whatever way it was filled. -/
def Byt (A : Mem) (b : Nat) (e : TypeId) (k : Kd) (l : List UInt8) : Prop := ∃ c, A.get b = some (.cells e k 0 c) ∧ ∀ i, i < l.length → c.get i = (l.map byteV)[i]?
theorem Bytes.byt {A : Mem} {b : Nat} {e : TypeId} {k : Kd} {l : List UInt8} (h : Bytes A b e k l) : Byt A b e k l :=
  ⟨_, h, fun i hi => by rw [T.get_puts, Nat.zero_add, List.length_map, if_pos ⟨Nat.zero_le _, hi⟩, Nat.sub_zero]⟩
theorem Byt.same {A A' : Mem} {b : Nat} {e : TypeId} {k : Kd} {l : List UInt8} (h : Byt A b e k l) (hg : A'.get b = A.get b) : Byt A' b e k l := by
  obtain ⟨c, h1, h2⟩ := h
  exact ⟨c, hg.trans h1, h2⟩
theorem elemsF_byt {A : Mem} {b : Nat} {e : TypeId} {k : Kd} {l : List UInt8} (h : Byt A b e k l) : elemsF A.get 1 l.length (some ⟨b, 0, none⟩) = .ok (l.map byteV) := by
  obtain ⟨c, h1, h2⟩ := h
  unfold elemsF
  simp only [Nat.mul_one]
  cases hn : Nat.beq l.length 0 with
  | true =>
    have : l = [] := List.length_eq_zero_iff.1 (Nat.eq_of_beq_eq_true hn)
    subst this; rfl
  | false =>
    have hg : c.gets l.length 0 = some (l.map byteV) := gets_eq _ _ _ _ (by simp) fun j hj => by rw [Nat.zero_add]; exact h2 j hj
    simp only [cond_false, h1, hg]
theorem str_of_byt {A : Mem} {b : Nat} {e : TypeId} {k : Kd} {l : List UInt8} {s d : TypeId} {c : Nat} (h1 : tb.und s = some (.slice e)) (h2 : tb.und d = some .string) (h3 : tb.und e = some (.int .u8)) (h : Byt A b e k l) :
    convRF tb A.get s d (.slice (some ⟨b, 0, none⟩) l.length c) = .ok (strOf l) := by
  unfold convRF
  simp only [h1, h2, h3, toStringF, elemsF_byt h, R.ok_bind, bytesOf_map]
theorem load_byt {A : Mem} {b o : Nat} {e t : TypeId} {k : Kd} {l : List UInt8} (hu : tb.und t = some (.int .u8)) (h : Byt A b e k l) (ho : o < l.length) :
    loadF tb A.get t (.pointer (some ⟨b, o, none⟩)) = .ok (.int .u8 (((l.getD o 0).toNat : Nat) : Int)) := by
  obtain ⟨c, h1, h2⟩ := h
  have hc := h2 o ho
  rw [List.getElem?_map, List.getElem?_eq_getElem ho] at hc
  unfold loadF
  simp only [h1, hu, isAggD, cond_false, hc, Option.map_some]
  simp [byteV, List.getD, List.getElem?_eq_getElem ho]
theorem store_byt {A : Mem} {b o v : Nat} {e t : TypeId} {k : Kd} {l : List UInt8} (hs : sizeF tb t = .ok 1) (h : Byt A b e k l) (ho : o < l.length) (hv : v < 256) :
    ∃ A', storeF tb A t (.pointer (some ⟨b, o, none⟩)) (.int .u8 (v : Int)) = .ok A' ∧ Byt A' b e k (l.set o (.ofNat v)) ∧ A'.next = A.next ∧ ∀ x, x ≠ b → A'.get x = A.get x := by
  obtain ⟨c, h1, h2⟩ := h
  have hc : c.get o = some (byteV l[o]) := by rw [h2 o ho, List.getElem?_map, List.getElem?_eq_getElem ho]; rfl
  have hst : storesF (roomK k) 0 [.int .u8 (v : Int)] o c = .ok (c.set o (.int .u8 (v : Int))) := by
    unfold storesF
    have hb : (oneCell (.int .u8 (v : Int)) && Nat.ble 0 o) = true := by simp [oneCell]
    rw [hb, cond_true, hc]
    rfl
  refine ⟨A.set b (.cells e k 0 (c.set o (.int .u8 (v : Int)))), ?_, ⟨_, by rw [get_setMem, if_pos rfl], fun i hi => ?_⟩, next_set _ _ _, fun x hx => by rw [get_setMem, if_neg hx]⟩
  · unfold storeF
    simp only [hs, R.ok_bind]
    show (bif Nat.beq 1 1 then storeAtF A ⟨b, o, none⟩ [.int .u8 (v : Int)] else .no 123) = _
    unfold storeAtF
    simp only [h1, hst, R.ok_bind]
    rfl
  · rw [List.length_set] at hi
    rw [T.get_set, List.getElem?_map, List.getElem?_set]
    by_cases hio : i = o
    · subst hio
      rw [if_pos rfl, if_pos rfl, if_pos hi]
      simp [byteV_ofNat hv]
    · rw [if_neg hio, if_neg (fun x => hio x.symm), h2 i hi, List.getElem?_map]

end Go.Am

/-
  The abstract machine AM, part 50: rows of values in memory; functions that change memory and are known; loops that count; an open order in which readers float.
-/
namespace Go.Am
variable {tb : Tab} {ih : Code → St → R (Ex × St)}

/-! ### Slots -/
def Sl (t : T Value) : List (Nat × Value) → Prop
  | [] => True
  | p :: l => t.get p.1 = some p.2 ∧ Sl t l
theorem Sl_cons (t : T Value) (i : Nat) (v : Value) (l : List (Nat × Value)) : Sl t ((i, v) :: l) = (t.get i = some v ∧ Sl t l) := rfl
theorem Sl_nil (t : T Value) : Sl t [] = True := rfl

/-! ### Runs -/
/-- As W.run, where fuel is asked for. -/
theorem W.runG {c : Code} {s : St} {K : Ex → St → Prop} (g f : Nat) {e : Ex} {s' : St} (h : ∀ M, g ≤ M → exec tb (M + f) c s = .ok (e, s')) (k : K e s') : W tb c s K :=
  ⟨e, s', ⟨g + f, fun m => by rw [← Nat.add_assoc]; exact h _ (Nat.le_add_left _ _)⟩, k⟩
/-- A loop that counts up to N. -/
theorem W.up {c : Code} {n : Nat} {d : List Nat} {ro : Option Nat} {K : Ex → St → Prop} (N : Nat) (P : Nat → T Value → Mem → Prop)
    (hb : ∀ k t A, k ≤ N → P k t A → W tb c ⟨t, n, d, A, ro⟩ fun e s' => match e with
      | .nrm => k < N ∧ ∃ t' A', s' = ⟨t', n, d, A', ro⟩ ∧ P (k + 1) t' A'
      | e => K e s') {k : Nat} {t : T Value} {A : Mem} (hk : k ≤ N) (hp : P k t A) : W tb (.loop c) ⟨t, n, d, A, ro⟩ K := by
  have main : ∀ j k t A, k + j = N → P k t A → W tb (.loop c) ⟨t, n, d, A, ro⟩ K := by
    intro j
    induction j with
    | zero =>
      intro k t A hk hp
      refine W.round ((hb k t A (by omega) hp).mono fun e s' h => ?_)
      cases e with
      | nrm => exact absurd h.1 (by omega)
      | _ => exact h
    | succ j ih =>
      intro k t A hk hp
      refine W.round ((hb k t A (by omega) hp).mono fun e s' h => ?_)
      cases e with
      | nrm =>
        obtain ⟨_, t', A', rfl, h'⟩ := h
        exact ih (k + 1) t' A' (by omega) h'
      | _ => exact h
  exact main (N - k) k t A (by omega) hp
/-- A loop in which a number falls. -/
theorem W.fall {c : Code} {n : Nat} {d : List Nat} {ro : Option Nat} {K : Ex → St → Prop} (P : Nat → T Value → Mem → Prop)
    (hb : ∀ k t A, P k t A → W tb c ⟨t, n, d, A, ro⟩ fun e s' => match e with
      | .nrm => ∃ k' t' A', k' < k ∧ s' = ⟨t', n, d, A', ro⟩ ∧ P k' t' A'
      | e => K e s') {k : Nat} {t : T Value} {A : Mem} (hp : P k t A) : W tb (.loop c) ⟨t, n, d, A, ro⟩ K := by
  have main : ∀ k t A, P k t A → W tb (.loop c) ⟨t, n, d, A, ro⟩ K := by
    intro k
    induction k using Nat.strongRecOn with
    | ind k ih =>
      intro t A hp
      refine W.round ((hb k t A hp).mono fun e s' h => ?_)
      cases e with
      | nrm =>
        obtain ⟨k', t', A', hlt, rfl, h'⟩ := h
        exact ih k' hlt t' A' h'
      | _ => exact h
  exact main k t A hp

/-- What a call answers, if there is fuel enough. -/
def Ans (tb : Tab) (f : FuncId) (args : List Value) (A : Mem) (v : Value) (A' : Mem) : Prop := ∃ g, ∀ M, g ≤ M → callF tb (exec tb M) (.fn f args) A = .ok (.val v A')
theorem ans_of_W {f : FuncId} {fn : Func} {c : Code} {args : List Value} {A : Mem} {Q : Value → Mem → Prop} (hf : tb.fn.get f = some fn) (hb : fn.body = some c) (hn : args.length ≤ fn.ntmps) (hnm : (fn.name == "runtime.NumGoroutine") = false) (hk : tb.hk.get f = none)
    (h : W tb c ⟨T.puts .e 0 args, fn.ntmps, [], A, none⟩ fun e s => (e = .nrm ∨ e = .ret) ∧ ∃ A' vs, takeF s.d s.m = .ok A' ∧ resF tb s.t A'.get fn.results.toList = .ok vs ∧ Q (oneOf vs) A') :
    ∃ v A', Ans tb f args A v A' ∧ Q v A' := by
  obtain ⟨v, A', ⟨g, h1⟩, h2⟩ := callF_of_W hf hb hn hnm hk h
  refine ⟨v, A', ⟨g, fun M hM => ?_⟩, h2⟩
  have := h1 (M - g)
  rwa [Nat.sub_add_cancel hM] at this
theorem ans_calls {f : FuncId} {fn : Func} {c : Code} {args : List Value} {A A' : Mem} {v : Value} (hf : tb.fn.get f = some fn) (hb : fn.body = some c) (hnm : (fn.name == "runtime.NumGoroutine") = false) (hk : tb.hk.get f = none) (h : Ans tb f args A v A') : CallsTo tb f args A v A' := by
  obtain ⟨g, hg⟩ := h
  refine ⟨g, ?_⟩
  have h1 := hg g (Nat.le_refl _)
  unfold callF at h1
  simp only [hf, hb, hnm, hk, cond_false] at h1
  unfold call
  simp only [hf, hb]
  exact h1

/-! ### Functions that change memory, and are known -/
open Classical in
/-- What is known of a function: that it answers; and Q of its answer. -/
noncomputable def memHook (tb : Tab) (f : FuncId) (Q : List Value → Mem → Value → Mem → Prop) : List Value → Mem → R (Value × Mem) := fun args A =>
  if h : ∃ x : Value × Mem, CallsTo tb f args A x.1 x.2 ∧ Q args A x.1 x.2 then .ok h.choose else .no 601
theorem hook_mem (ok : TabOk tb) {f : FuncId} {fn : Func} {c : Code} (hf : tb.fn.get f = some fn) (hb : fn.body = some c) (Q : List Value → Mem → Value → Mem → Prop) : HookOk tb.P f (memHook tb f Q) := by
  intro args A v A' ha
  unfold memHook at ha
  split at ha
  · rename_i h
    simp only [R.ok.injEq] at ha
    obtain ⟨n, hc⟩ := h.choose_spec.1
    rw [ha] at hc
    unfold call at hc
    simp only [hf, hb] at hc
    rcases fn_sound ok (exec_sound ok n) hf hb hc with ⟨_, _, h1, _⟩ | ⟨v1, A1, h1, hle, hs⟩
    · cases h1
    · cases h1
      refine ⟨hle, fun ι w args' hr hargs hfree fr cs => ?_⟩
      obtain ⟨ι', w', v', ⟨fr0, st, hfn, hlv⟩, hv, hrel, hst⟩ := hs ι w args' (fr :: cs) hr hargs hfree
      exact ⟨ι', w', v', st.trans (.one (step_leave_returned hlv)), hv, hrel, hst⟩
  · cases ha
theorem callF_mem {tb' : Tab} {f : FuncId} {fn : Func} {c : Code} {Q : List Value → Mem → Value → Mem → Prop} {args : List Value} {A : Mem} (hf : tb'.fn.get f = some fn) (hn : (fn.name == "runtime.NumGoroutine") = false) (hb : fn.body = some c)
    (hk : tb'.hk.get f = some (memHook tb f Q)) (h : ∃ v A', CallsTo tb f args A v A' ∧ Q args A v A') : ∃ v A', (∀ ih, callF tb' ih (.fn f args) A = .ok (.val v A')) ∧ Q args A v A' := by
  obtain ⟨v0, A0, h1, h2⟩ := h
  have hx : ∃ x : Value × Mem, CallsTo tb f args A x.1 x.2 ∧ Q args A x.1 x.2 := ⟨(v0, A0), h1, h2⟩
  refine ⟨hx.choose.1, hx.choose.2, fun ih => ?_, hx.choose_spec.2⟩
  refine callF_known hf hn hb hk ?_
  unfold memHook
  rw [dif_pos hx]

/-! ### More operations -/
section
variable (dst : Option Tmp) (ty : TypeId) (pos : String) (after : Array Edge) (g : Option (Nat × Bool)) (s : St) (k : St → R (Ex × St))
theorem opF_makeFunc (f : FuncId) (a b : Array Operand) : opF tb ih { dst, op := .makeFunc (.func f) a b, type := ty, pos, after, guard := g } s k =
    (evs s.t a.toList).bind fun a => (evs s.t b.toList).bind fun b => putT s dst (.func (.func f) ⟨a⟩ ⟨b⟩) k := by
  rw [opF_P _ _ _ _ _ _ _ rfl rfl]; simp only [pOp, R.bind_bind, R.ok_bind]
/-- A call of a function that is a value. -/
noncomputable def callV (tb : Tab) (ih : Code → St → R (Ex × St)) (fv : Value) (a : List Value) (A : Mem) : R Res := (calleeF tb A.get fv a).bind fun cl => callF tb ih cl A
theorem callV_func (f : FuncId) (x y : List Value) (a : List Value) (A : Mem) : callV tb ih (.func (.func f) ⟨x⟩ ⟨y⟩) a A = callF tb ih (.fn f (x ++ a ++ y)) A := rfl
theorem callV_yield (l : Nat) (x y : Array Value) (a : List Value) (A : Mem) : callV tb ih (.func (.yield l) x y) a A = callF tb ih (.round l a) A := rfl
theorem opF_callv (x : Nat) (args : Array Operand) (ts : Array TypeId) : opF tb ih { dst, op := .call { callee := .value (.tmp x), args, argTypes := ts }, type := ty, pos, after, guard := g } s k =
    (evs s.t args.toList).bind fun a => (ev s.t (.tmp x)).bind fun fv => (callV tb ih fv a s.m).bind fun r => resK s dst k r := by
  unfold opF
  show ((clOf tb s.t s.m.get { callee := .value (.tmp x), args, argTypes := ts }).bind fun cl => (callF tb ih cl s.m).bind fun r => match r with
    | .val v A => putT { s with m := A } dst v k
    | .pan v A => .ok (.pan v, { s with m := A })) = _
  unfold clOf callV
  simp only [R.bind_bind]
  cases evs s.t args.toList with
  | no _ => rfl
  | ok a =>
    simp only [R.ok_bind]
    cases ev s.t (.tmp x) with
    | no _ => rfl
    | ok fv =>
      simp only [R.ok_bind]
      cases calleeF tb s.m.get fv a with
      | no _ => rfl
      | ok cl =>
        simp only [R.ok_bind]
        cases callF tb ih cl s.m with
        | no _ => rfl
        | ok r => cases r <;> rfl
end

theorem ev_nilslice (t : T Value) : ev t (.const (.slice none 0 0)) = .ok (.slice none 0 0) := rfl
theorem ev_nilfunc (t : T Value) : ev t (.const .nilFunc) = .ok .nilFunc := rfl
theorem ev_nilptr (t : T Value) : ev t (.const (.pointer none)) = .ok (.pointer none) := rfl
theorem ev_nilmap (t : T Value) : ev t (.const (.map none)) = .ok (.map none) := rfl

/-! ### Integers -/
theorem iltF_iff (a b : Int) : iltF a b = decide (a < b) := by
  have h : ∀ x y : Nat, Nat.blt x y = decide (x < y) := fun x y => by
    cases hb : Nat.blt x y with
    | true => rw [Nat.blt_eq] at hb; simp [hb]
    | false =>
      have : ¬ x < y := fun h => by rw [← Nat.blt_eq, hb] at h; cases h
      simp [this]
  unfold iltF
  split
  · rw [h]; congr 1; simp
  · symm; simp only [decide_eq_false_iff_not]; simp only [Int.ofNat_eq_natCast]; omega
  · symm; simp only [decide_eq_true_eq]; simp only [Int.ofNat_eq_natCast]; omega
  · rw [h]; congr 1; simp only [eq_iff_iff]; omega
theorem ieqF_iff (a b : Int) : ieqF a b = decide (a = b) := by
  have h : ∀ x y : Nat, Nat.beq x y = decide (x = y) := fun x y => by
    cases hb : Nat.beq x y with
    | true => have := Nat.eq_of_beq_eq_true hb; simp [this]
    | false => have := Nat.ne_of_beq_eq_false hb; simp [this]
  unfold ieqF
  split
  · rw [h]; congr 1; simp only [Int.ofNat_eq_natCast, eq_iff_iff]; omega
  · rw [h]; congr 1; simp only [eq_iff_iff]; omega
  · rename_i h1 h2
    symm; simp only [decide_eq_false_iff_not]
    intro hab
    subst hab
    cases a with
    | ofNat x => exact h1 x x rfl rfl
    | negSucc x => exact h2 x x rfl rfl
theorem op_leq {k : IntKind} {a b : Int} : intOpF .leq k a b = .ok (.bool (decide (a ≤ b))) := by
  show R.ok (Value.bool (!iltF b a)) = _
  rw [iltF_iff]; congr 2
  by_cases h : a ≤ b
  · have : ¬ b < a := by omega
    simp [h, this]
  · have : b < a := by omega
    simp [h, this]
theorem op_gtr {k : IntKind} {a b : Int} : intOpF .gtr k a b = .ok (.bool (decide (b < a))) := by
  show R.ok (Value.bool (iltF b a)) = _
  rw [iltF_iff]
theorem op_geq {k : IntKind} {a b : Int} : intOpF .geq k a b = .ok (.bool (decide (b ≤ a))) := by
  show R.ok (Value.bool (!iltF a b)) = _
  rw [iltF_iff]; congr 2
  by_cases h : b ≤ a
  · have : ¬ a < b := by omega
    simp [h, this]
  · have : a < b := by omega
    simp [h, this]
theorem op_lssI {k : IntKind} {a b : Int} : intOpF .lss k a b = .ok (.bool (decide (a < b))) := by
  show R.ok (Value.bool (iltF a b)) = _
  rw [iltF_iff]
theorem op_eqlI {k : IntKind} {a b : Int} : intOpF .eql k a b = .ok (.bool (decide (a = b))) := by
  show R.ok (Value.bool (ieqF a b)) = _
  rw [ieqF_iff]
theorem op_neqI {k : IntKind} {a b : Int} : intOpF .neq k a b = .ok (.bool (decide (a ≠ b))) := by
  show R.ok (Value.bool (!ieqF a b)) = _
  rw [ieqF_iff]; congr 2; by_cases h : a = b <;> simp [h]
theorem cast_le (a b : Nat) : ((a : Int) ≤ (b : Int)) = (a ≤ b) := by simp
theorem cast_lt (a b : Nat) : ((a : Int) < (b : Int)) = (a < b) := by simp
theorem cast_eq' (a b : Nat) : ((a : Int) = (b : Int)) = (a = b) := by apply propext; omega
theorem op_remI {k : IntKind} {a : Int} {b : Nat} (h : 0 < b) : intOpF .rem k a (b : Int) = .ok (.int k (a.tmod b)) := by
  obtain ⟨c, rfl⟩ : ∃ c, b = c + 1 := ⟨b - 1, by omega⟩
  cases a with
  | ofNat x => rfl
  | negSucc x => rfl
theorem op_subI {a b : Int} (h1 : -9223372036854775808 ≤ a - b) (h2 : a - b ≤ 9223372036854775807) : intOpF .sub .i64 a b = .ok (.int .i64 (a - b)) := by
  show R.ok (Value.int .i64 (wrapF .i64 (a - b))) = _
  rw [wrapF_eq, wrap_in h1 h2]
theorem min3_i64 {ts : List TypeId} {a b c : Nat} : builtinPF tb .min ts [.int .i64 (a : Int), .int .i64 (b : Int), .int .i64 (c : Int)] = .ok (.int .i64 ((min (min a b) c : Nat) : Int)) := by
  have e : builtinPF tb .min ts [.int .i64 (a : Int), .int .i64 (b : Int), .int .i64 (c : Int)] = (builtinPF tb .min ts [.int .i64 (a : Int), .int .i64 (b : Int)]).bind fun v => builtinPF tb .min ts [v, .int .i64 (c : Int)] := by
    cases ts <;> rfl
  rw [e, min_i64, R.ok_bind, min_i64]
theorem max_i64 {ts : List TypeId} {a b : Nat} : builtinPF tb .max ts [.int .i64 (a : Int), .int .i64 (b : Int)] = .ok (.int .i64 ((max a b : Nat) : Int)) := by
  have e : builtinPF tb .max ts [.int .i64 (a : Int), .int .i64 (b : Int)] = .ok (.int .i64 (bif Nat.blt a b then (b : Int) else (a : Int))) := by
    cases ts <;> rfl
  rw [e]
  cases h : Nat.blt a b with
  | true =>
    have : a < b := by simpa [Nat.blt_eq] using h
    rw [Nat.max_eq_right (by omega)]; rfl
  | false =>
    have : ¬ a < b := by intro hx; rw [← Nat.blt_eq, h] at hx; cases hx
    rw [Nat.max_eq_left (by omega)]; rfl
theorem un_not {p : Bool} : unF .not (.bool p) = .ok (.bool (!p)) := by cases p <;> rfl

/-! ### Rows of values, one cell each -/
def Vals (A : Mem) (e : TypeId) (b : Nat) (k : Kd) (l : List Value) : Prop := ∃ c, A.get b = some (.cells e k 0 c) ∧ ∀ i, i < l.length → c.get i = l[i]?
theorem vals_puts {A : Mem} {e : TypeId} {b : Nat} {k : Kd} {l : List Value} (h : A.get b = some (.cells e k 0 (T.puts .e 0 l))) : Vals A e b k l :=
  ⟨_, h, fun i hi => by rw [T.get_puts, Nat.zero_add, if_pos ⟨Nat.zero_le _, hi⟩, Nat.sub_zero]⟩
theorem Vals.same {A A' : Mem} {e : TypeId} {b : Nat} {k : Kd} {l : List Value} (h : Vals A e b k l) (hg : A'.get b = A.get b) : Vals A' e b k l := by
  obtain ⟨c, h1, h2⟩ := h
  exact ⟨c, hg.trans h1, h2⟩
theorem elemsF_vals {A : Mem} {e : TypeId} {b : Nat} {k : Kd} {l : List Value} (h : Vals A e b k l) : elemsF A.get 1 l.length (some ⟨b, 0, none⟩) = .ok l := by
  obtain ⟨c, h1, h2⟩ := h
  unfold elemsF
  simp only [Nat.mul_one]
  cases hn : Nat.beq l.length 0 with
  | true =>
    have : l = [] := List.length_eq_zero_iff.1 (Nat.eq_of_beq_eq_true hn)
    subst this; rfl
  | false =>
    have hg : c.gets l.length 0 = some l := gets_eq _ _ _ _ rfl fun j hj => by rw [Nat.zero_add]; exact h2 j hj
    simp only [cond_false, h1, hg]
theorem load_vals {A : Mem} {e t : TypeId} {d : TypeDesc} {b o : Nat} {k : Kd} {l : List Value} {v : Value} (hu : tb.und t = some d) (ha : isAggD d = false) (h : Vals A e b k l) (hv : l[o]? = some v) :
    loadF tb A.get t (.pointer (some ⟨b, o, none⟩)) = .ok v := by
  obtain ⟨c, h1, h2⟩ := h
  have ho : o < l.length := (List.getElem?_eq_some_iff.1 hv).1
  have hc := h2 o ho
  rw [hv] at hc
  unfold loadF
  simp only [h1, hu, ha, cond_false, hc]
theorem store_vals {A : Mem} {e t : TypeId} {b o : Nat} {k : Kd} {l : List Value} {v : Value} (hs : sizeF tb t = .ok 1) (h : Vals A e b k l) (ho : o < l.length) (hv : v.cells.toList = [v]) (h1c : oneCell v = true) :
    ∃ A', storeF tb A t (.pointer (some ⟨b, o, none⟩)) v = .ok A' ∧ Vals A' e b k (l.set o v) ∧ A'.next = A.next ∧ ∀ x, x ≠ b → A'.get x = A.get x := by
  obtain ⟨c, h1, h2⟩ := h
  have hc : c.get o = some l[o] := by rw [h2 o ho, List.getElem?_eq_getElem ho]
  have hst : storesF (roomK k) 0 [v] o c = .ok (c.set o v) := by
    unfold storesF
    have hb : (oneCell v && Nat.ble 0 o) = true := by rw [h1c]; simp
    rw [hb, cond_true, hc]
    rfl
  refine ⟨A.set b (.cells e k 0 (c.set o v)), ?_, ⟨_, by rw [get_setMem, if_pos rfl], fun i hi => ?_⟩, next_set _ _ _, fun x hx => by rw [get_setMem, if_neg hx]⟩
  · unfold storeF
    simp only [hs, R.ok_bind, hv]
    show (bif Nat.beq 1 1 then storeAtF A ⟨b, o, none⟩ [v] else .no 123) = _
    unfold storeAtF
    simp only [h1, hst, R.ok_bind]
    rfl
  · rw [List.length_set] at hi
    rw [T.get_set, List.getElem?_set]
    by_cases hio : i = o
    · subst hio
      rw [if_pos rfl, if_pos rfl, if_pos hi]
    · rw [if_neg hio, if_neg (fun x => hio x.symm), h2 i hi]

/-- A slice of such a row, whole; so that what is appended goes into a new one. -/
def Slc (A : Mem) (e : TypeId) (b : Nat) (l : List Value) (x : Value) : Prop :=
  (x = .slice none 0 0 ∧ l = []) ∨ ∃ k c, x = .slice (some ⟨b, 0, none⟩) l.length c ∧ b < A.next ∧ Vals A e b k l ∧ (c = 2 * l.length ∨ (c = mkX l.length 1 ∧ (k = .row ∨ k = .mark)))
theorem Slc.same {A A' : Mem} {e : TypeId} {b : Nat} {l : List Value} {x : Value} (h : Slc A e b l x) (hn : A.next ≤ A'.next) (hg : b < A.next → A'.get b = A.get b) : Slc A' e b l x := by
  rcases h with h | ⟨k, c, h1, h2, h3, h4⟩
  · exact .inl h
  · exact .inr ⟨k, c, h1, Nat.lt_of_lt_of_le h2 hn, h3.same (hg h2), h4⟩
theorem Slc.len {A : Mem} {e t t' : TypeId} {b : Nat} {l : List Value} {x : Value} (h : Slc A e b l x) (hu : tb.und t = some (.slice t')) : builtinPF tb .len [t] [x] = .ok (.int .i64 ((l.length : Nat) : Int)) := by
  rcases h with ⟨rfl, rfl⟩ | ⟨k, c, rfl, -⟩ <;> exact len_slc hu
theorem Slc.idx {A : Mem} {e t t' : TypeId} {b i : Nat} {kd : IntKind} {l : List Value} {x : Value} (h : Slc A e b l x) (hu : tb.und t = some (.slice t')) (hs : sizeF tb t' = .ok 1) (hi : i < l.length) :
    indexAddrF tb t x (.int kd (i : Int)) = .ok (.pointer (some ⟨b, i, none⟩)) := by
  rcases h with ⟨rfl, rfl⟩ | ⟨k, c, rfl, -⟩
  · simp at hi
  · rw [indexAddr_slc hu hs hi, Nat.zero_add]
theorem Slc.load {A : Mem} {e t : TypeId} {d : TypeDesc} {b o : Nat} {l : List Value} {x v : Value} (h : Slc A e b l x) (hu : tb.und t = some d) (ha : isAggD d = false) (hv : l[o]? = some v) :
    loadF tb A.get t (.pointer (some ⟨b, o, none⟩)) = .ok v := by
  rcases h with ⟨rfl, rfl⟩ | ⟨k, c, rfl, h2, h3, -⟩
  · simp at hv
  · exact load_vals hu ha h3 hv
theorem Slc.lt {A : Mem} {e : TypeId} {b : Nat} {l : List Value} {x : Value} (h : Slc A e b l x) (hl : 0 < l.length) : b < A.next := by
  rcases h with ⟨rfl, rfl⟩ | ⟨k, c, rfl, h2, -⟩
  · simp at hl
  · exact h2
theorem Slc.cells {A : Mem} {e : TypeId} {b : Nat} {l : List Value} {x : Value} (h : Slc A e b l x) : x.cells.toList = [x] := by
  rcases h with ⟨rfl, rfl⟩ | ⟨k, c, rfl, -⟩ <;> rfl
theorem Slc.one {A : Mem} {e : TypeId} {b : Nat} {l : List Value} {x : Value} (h : Slc A e b l x) : oneCell x = true := by
  rcases h with ⟨rfl, rfl⟩ | ⟨k, c, rfl, -⟩ <;> rfl
theorem cells_str (l : List UInt8) : (strOf l).cells.toList = [strOf l] := rfl
theorem cells_int (k : IntKind) (n : Int) : (Value.int k n).cells.toList = [.int k n] := rfl
theorem cells_slc (a : Option Addr) (n c : Nat) : (Value.slice a n c).cells.toList = [.slice a n c] := rfl
theorem cells_agg (l : List Value) : (Value.agg ⟨l⟩).cells.toList = l := rfl
theorem bool_neq {a b : Bool} : binF .neq (some .bool) (.bool a) (.bool b) = .ok (.bool (a != b)) := by cases a <;> cases b <;> rfl
theorem Slc.uniq {A : Mem} {e : TypeId} {b b' : Nat} {l l' : List Value} {x : Value} (h : Slc A e b l x) (h' : Slc A e b' l' x) : l = l' := by
  rcases h with ⟨rfl, rfl⟩ | ⟨k, c, rfl, -, ⟨cs, h1, h2⟩, -⟩ <;> rcases h' with ⟨he, hl⟩ | ⟨k', c', he, -, ⟨cs', h1', h2'⟩, -⟩
  · exact hl.symm
  · cases he
  · cases he
  · simp only [Value.slice.injEq, Option.some.injEq, Addr.mk.injEq] at he
    obtain ⟨⟨rfl, -, -⟩, hlen, -⟩ := he
    rw [h1] at h1'
    simp only [Option.some.injEq, Ob.cells.injEq] at h1'
    obtain ⟨-, -, -, rfl⟩ := h1'
    apply List.ext_getElem?
    intro i
    by_cases hi : i < l.length
    · rw [← h2 i hi, h2' i (by omega)]
    · rw [List.getElem?_eq_none (by omega), List.getElem?_eq_none (by omega)]
theorem cells_func (f : Fn) (a b : Array Value) : (Value.func f a b).cells.toList = [.func f a b] := rfl
theorem builtin_append (A : Mem) (st xt : TypeId) (s x : Value) : builtinLF tb A .append [st, xt] [s, x] = appendF tb A st xt s x := rfl
/-- What is stored in it. -/
theorem Slc.store {A : Mem} {e t : TypeId} {b o : Nat} {l : List Value} {x v : Value} (h : Slc A e b l x) (hs : sizeF tb t = .ok 1) (ho : o < l.length) (hv : v.cells.toList = [v]) (h1c : oneCell v = true) :
    ∃ A', storeF tb A t (.pointer (some ⟨b, o, none⟩)) v = .ok A' ∧ Slc A' e b (l.set o v) x ∧ A'.next = A.next ∧ ∀ y, y ≠ b → A'.get y = A.get y := by
  rcases h with ⟨rfl, rfl⟩ | ⟨k, c, rfl, h2, h3, h4⟩
  · simp at ho
  · obtain ⟨A', e1, e2, e3, e4⟩ := store_vals (tb := tb) (t := t) hs h3 ho hv h1c
    exact ⟨A', e1, .inr ⟨k, c, by rw [List.length_set], by omega, e2, by rw [List.length_set]; exact h4⟩, e3, e4⟩
/-- One more, behind it. -/
theorem Slc.append {A : Mem} {st xt e : TypeId} {i : TypeInfo} {z v : Value} {b b2 : Nat} {l : List Value} {x : Value} (h : Slc A e b l x) (hst : tb.und st = some (.slice e)) (hxt : tb.und xt = some (.slice e)) (hz : zcellsF tb e = .ok (1, [z])) (hi : tb.ty.get e = some i) (hib : 0 < i.bytes) (hib' : i.bytes ≤ 65536)
    (hl : l.length < 16777216) (hb2 : A.get b2 = some (rowOb e [v])) (h1c : oneCell v = true) :
    ∃ x' A', appendF tb A st xt x (.slice (some ⟨b2, 0, none⟩) 1 2) = .ok (x', A') ∧ Slc A' e A.next (l ++ [v]) x' ∧ A'.next = A.next + 1 ∧ ∀ y, y ≠ b → y < A.next → A'.get y = A.get y := by
  have he1 : (1 : Nat) < 65536 := by omega
  have hnew : firstF A.get 1 1 (.slice (some ⟨b2, 0, none⟩) 1 2) = .ok [v] := elemsF_vals (l := [v]) (vals_puts (e := e) (k := .var 1) hb2)
  have hlim : (Nat.ble (l.length + 1) 16777216 && Nat.ble i.bytes 65536 && Nat.blt 0 i.bytes && Nat.blt 0 1 && Nat.blt 1 65536) = true := by
    have a1 : Nat.ble (l.length + 1) 16777216 = true := Nat.ble_eq_true_of_le (by omega)
    have a2 : Nat.ble i.bytes 65536 = true := Nat.ble_eq_true_of_le hib'
    have a3 : Nat.blt 0 i.bytes = true := by rw [Nat.blt_eq]; exact hib
    rw [a1, a2, a3]; rfl
  have fin : ∀ (k' : Kd) (A0 : Mem), A0.next = A.next → (∀ y, y ≠ b → A0.get y = A.get y) → (k' = .row ∨ k' = .mark) →
      Slc (A0.alloc (.cells e k' 0 (T.puts .e 0 (l ++ [v])))) e A.next (l ++ [v]) (.slice (some ⟨A.next, 0, none⟩) (l.length + 1) (mkX (l.length + 1) 1)) ∧ (A0.alloc (.cells e k' 0 (T.puts .e 0 (l ++ [v])))).next = A.next + 1 ∧ ∀ y, y ≠ b → y < A.next → (A0.alloc (.cells e k' 0 (T.puts .e 0 (l ++ [v])))).get y = A.get y := by
    intro k' A0 hn hg hk'
    refine ⟨.inr ⟨k', _, by rw [List.length_append]; rfl, by rw [next_alloc]; omega, vals_puts ?_, .inr ⟨by rw [List.length_append]; rfl, hk'⟩⟩, by rw [next_alloc, hn], fun y hy hlt => ?_⟩
    · rw [← hn]; exact get_alloc_self _ _
    · rw [get_alloc_ne (by omega), hg y hy]
  rcases h with ⟨rfl, rfl⟩ | ⟨k, c, rfl, h2, h3, h4⟩
  · refine ⟨.slice (some ⟨A.next, 0, none⟩) 1 (mkX 1 1), A.alloc (.cells e .row 0 (T.puts .e 0 [v])), ?_, ?_⟩
    · unfold appendF appendG
      have hble : Nat.ble (0 + 1) (capN 0) = false := rfl
      have hx : capX 0 = true := rfl
      have hel : elemsF A.get 1 0 none = .ok [] := rfl
      simp only [hst, hxt, isIntD, cond_false, hz, R.ok_bind, lenF, hnew, hble, hi]
      simp only [List.length_nil, Nat.zero_add] at hlim
      simp only [Nat.zero_add, hlim, cond_true, hel, R.ok_bind, hx, List.nil_append]
    · exact fin .row A rfl (fun _ _ => rfl) (.inl rfl)
  · obtain ⟨cs, hb', hcs⟩ := h3
    have hel : elemsF A.get 1 l.length (some ⟨b, 0, none⟩) = .ok l := elemsF_vals ⟨cs, hb', hcs⟩
    rcases h4 with rfl | ⟨rfl, hk⟩
    · have hx : capX (2 * l.length) = true := by show Nat.beq (2 * l.length % 2) 0 = true; rw [Nat.mul_mod_right]; rfl
      have hcn : capN (2 * l.length) = l.length := by unfold capN; rw [hx, cond_true]; show 2 * l.length / 2 = l.length; omega
      have hble : Nat.ble (l.length + 1) (capN (2 * l.length)) = false := by
        rw [hcn]
        cases hq : Nat.ble (l.length + 1) l.length with
        | false => rfl
        | true => have := Nat.le_of_ble_eq_true hq; omega
      refine ⟨_, A.alloc (.cells e .row 0 (T.puts .e 0 (l ++ [v]))), ?_, fin .row A rfl (fun _ _ => rfl) (.inl rfl)⟩
      unfold appendF appendG
      simp only [hst, hxt, isIntD, cond_false, hz, R.ok_bind, lenF, hnew, hble, hi, hlim, cond_true, hel, hx]
    · have hble : Nat.ble (l.length + 1) (capN (mkX l.length 1)) = false := by
        rw [capN_mkX he1]
        cases hq : Nat.ble (l.length + 1) l.length with
        | false => rfl
        | true => have := Nat.le_of_ble_eq_true hq; omega
      have hx : capX (mkX l.length 1) = false := capX_mkX _ _
      have he : Nat.beq (capE (mkX l.length 1)) 1 = true := by rw [capE_mkX he1]; rfl
      have hfz : (Nat.ble 0 (0 + l.length * 1) && (Nat.beq e e && Nat.blt 0 9223372036854775808)) = true := by
        have h0 : Nat.blt 0 9223372036854775808 = true := by rw [Nat.blt_eq]; omega
        rw [h0]; simp
      refine ⟨_, (A.set b .dead).alloc (.cells e k 0 (T.puts .e 0 (l ++ [v]))), ?_, fin k (A.set b .dead) (next_set _ _ _) (fun y hy => by rw [get_setMem, if_neg hy]) hk⟩
      unfold appendF appendG
      simp only [hst, hxt, isIntD, cond_false, hz, R.ok_bind, lenF, hnew, hble, hi, hlim, cond_true, hel, hx, he, List.all_cons, List.all_nil, h1c, Bool.and_true, hb', hfz]
      rcases hk with rfl | rfl <;> rfl

/-! ### A variable in memory, of one cell -/
theorem vals_box {A : Mem} {e : TypeId} {b : Nat} {v : Value} (h : A.get b = some (rowOb e [v])) : Vals A e b (.var 1) [v] := vals_puts h
theorem load_box {A : Mem} {e t : TypeId} {d : TypeDesc} {b : Nat} {k : Kd} {v : Value} (hu : tb.und t = some d) (ha : isAggD d = false) (h : Vals A e b k [v]) : loadF tb A.get t (.pointer (some ⟨b, 0, none⟩)) = .ok v := load_vals hu ha h rfl
theorem store_box {A : Mem} {e t : TypeId} {b : Nat} {k : Kd} {v w : Value} (hs : sizeF tb t = .ok 1) (h : Vals A e b k [v]) (hv : w.cells.toList = [w]) (h1c : oneCell w = true) :
    ∃ A', storeF tb A t (.pointer (some ⟨b, 0, none⟩)) w = .ok A' ∧ Vals A' e b k [w] ∧ A'.next = A.next ∧ ∀ x, x ≠ b → A'.get x = A.get x := store_vals hs h (by simp) hv h1c

/-! ### An open order in which readers float -/
noncomputable def drawIs (tb : Tab) (ops : List Oper) (fl : List (Nat × Nat)) : Bool :=
  match drawInfo tb ops with
  | .ok l => decide (l = fl)
  | _ => false
theorem exec_float {n id : Nat} {ops : Array Oper} {s : St} (fl : List (Nat × Nat)) (h : drawIs tb ops.toList fl = true) : exec tb (n + 1) (.region id ops true) s = (runD tb (exec tb n) ops.toList fl ops.toList 0 [] [] [] s).bind fun (e, s) => match e with
    | .nrm => .ok (.nrm, s)
    | _ => .no 312 := by
  have h' : drawInfo tb ops.toList = .ok fl := by
    unfold drawIs at h
    split at h
    · rename_i l hl; rw [hl, of_decide_eq_true h]
    · cases h
  show ((drawInfo tb ops.toList).bind fun fl => (runD tb (exec tb n) ops.toList fl ops.toList 0 [] [] [] s).bind fun (e, s) => _) = _
  rw [h']
  rfl
section
variable {ops l : List Oper} {fl : List (Nat × Nat)} {dst : Option Tmp} {op : Op} {ty : TypeId} {pos : String} {after : Array Edge} {i : Nat} {mems : List (Nat × Mem)} {recs : List Rec} {mks : List (Nat × Nat)} {s : St}
theorem runD_end : runD tb ih ops fl [] i mems recs mks s = .ok (.nrm, s) := rfl
theorem runD_cons : runD tb ih ops fl ({ dst, op, type := ty, pos, after, guard := none } :: l) i mems recs mks s = match cls tb op with
        | .L => opF tb ih { dst, op, type := ty, pos, after, guard := none } { s with m := hideF ((mks.filter fun x => pairIn x.1 i fl).map (·.2)) s.m } fun s' =>
          (backF s.m.get ((mks.filter fun x => pairIn x.1 i fl).map (·.2)) s'.m).bind fun A =>
          bif (recs.filter fun x => pairIn x.i i fl).all (reread tb A.get) then runD tb ih ops fl l (i + 1) ((i, s.m) :: mems) recs mks { s' with m := A } else .no 310
        | .Rd => (rOp tb s.t s.m.get op).bind fun v =>
          bif (mems.filter fun m => pairIn i m.1 fl).all (fun m => reread tb m.2.get ⟨i, s.t, op, v⟩) then putT s dst v (runD tb ih ops fl l (i + 1) mems (⟨i, s.t, op, v⟩ :: recs) mks) else .no 311
        | .Al => opF tb ih { dst, op, type := ty, pos, after, guard := none } s fun s' => runD tb ih ops fl l (i + 1) (addB s.m.next (s'.m.get s.m.next) mems) recs ((i, s.m.next) :: mks) s'
        | .P => opF tb ih { dst, op, type := ty, pos, after, guard := none } s (runD tb ih ops fl l (i + 1) mems recs mks) := rfl
theorem runD_P (h : cls tb op = .P) : runD tb ih ops fl ({ dst, op, type := ty, pos, after, guard := none } :: l) i mems recs mks s = opF tb ih { dst, op, type := ty, pos, after, guard := none } s (runD tb ih ops fl l (i + 1) mems recs mks) := by
  rw [runD_cons, h]
theorem runD_Al (h : cls tb op = .Al) : runD tb ih ops fl ({ dst, op, type := ty, pos, after, guard := none } :: l) i mems recs mks s = opF tb ih { dst, op, type := ty, pos, after, guard := none } s fun s' => runD tb ih ops fl l (i + 1) (addB s.m.next (s'.m.get s.m.next) mems) recs ((i, s.m.next) :: mks) s' := by
  rw [runD_cons, h]
/-- Those of some rows that float with a place. -/
def selF {α : Type} (p : Nat → Bool) : List (Nat × α) → List (Nat × α)
  | [] => []
  | x :: l => bif p x.1 then x :: selF p l else selF p l
theorem selF_nil {α : Type} (p : Nat → Bool) : selF p ([] : List (Nat × α)) = [] := rfl
theorem selF_yes {α : Type} {p : Nat → Bool} {j : Nat} {a : α} {l : List (Nat × α)} (h : p j = true) : selF p ((j, a) :: l) = (j, a) :: selF p l := by simp [selF, h]
theorem selF_no {α : Type} {p : Nat → Bool} {j : Nat} {a : α} {l : List (Nat × α)} (h : p j = false) : selF p ((j, a) :: l) = selF p l := by simp [selF, h]
theorem selF_eq {α : Type} (p : Nat → Bool) (l : List (Nat × α)) : (l.filter fun x => p x.1) = selF p l := by
  induction l with
  | nil => rfl
  | cons x l ih =>
    unfold selF
    cases h : p x.1 <;> simp [h, ih]
def selR (p : Nat → Bool) : List Rec → List Rec
  | [] => []
  | x :: l => bif p x.i then x :: selR p l else selR p l
theorem selR_nil (p : Nat → Bool) : selR p [] = [] := rfl
theorem selR_yes {p : Nat → Bool} {j : Nat} {t : T Value} {o : Op} {v : Value} {l : List Rec} (h : p j = true) : selR p (⟨j, t, o, v⟩ :: l) = ⟨j, t, o, v⟩ :: selR p l := by simp [selR, h]
theorem selR_no {p : Nat → Bool} {j : Nat} {t : T Value} {o : Op} {v : Value} {l : List Rec} (h : p j = false) : selR p (⟨j, t, o, v⟩ :: l) = selR p l := by simp [selR, h]
theorem selR_eq (p : Nat → Bool) (l : List Rec) : (l.filter fun x => p x.i) = selR p l := by
  induction l with
  | nil => rfl
  | cons x l ih =>
    unfold selR
    cases h : p x.i <;> simp [h, ih]
noncomputable def rereadM (tb : Tab) (x : Rec) : List (Nat × Mem) → Bool
  | [] => true
  | m :: l => reread tb m.2.get x && rereadM tb x l
theorem rereadM_nil (x : Rec) : rereadM tb x [] = true := rfl
theorem rereadM_cons (x : Rec) (j : Nat) (A : Mem) (l : List (Nat × Mem)) : rereadM tb x ((j, A) :: l) = (reread tb A.get x && rereadM tb x l) := rfl
theorem rereadM_eq (x : Rec) (l : List (Nat × Mem)) : (l.all fun m => reread tb m.2.get x) = rereadM tb x l := by
  induction l with
  | nil => rfl
  | cons m l ih => simp [rereadM, ih]
noncomputable def rereadR (tb : Tab) (g : Nat → Option Ob) : List Rec → Bool
  | [] => true
  | m :: l => reread tb g m && rereadR tb g l
theorem rereadR_nil (g : Nat → Option Ob) : rereadR tb g [] = true := rfl
theorem rereadR_cons (g : Nat → Option Ob) (x : Rec) (l : List Rec) : rereadR tb g (x :: l) = (reread tb g x && rereadR tb g l) := rfl
theorem rereadR_eq (g : Nat → Option Ob) (l : List Rec) : (l.all (reread tb g)) = rereadR tb g l := by
  induction l with
  | nil => rfl
  | cons m l ih => simp [rereadR, ih]
noncomputable def rereadV (x : R Value) (v : Value) : Bool :=
  match x with
  | .ok v' => sameV 100 v' v
  | .no _ => false
theorem reread_load (g : Nat → Option Ob) (j : Nat) (t : T Value) (e : TypeId) (x : Tmp) (v : Value) : reread tb g ⟨j, t, .load e (.tmp x), v⟩ = rereadV ((ev t (.tmp x)).bind fun x => loadF tb g e x) v := rfl
theorem sameV_slc (b o n c : Nat) : sameV 100 (.slice (some ⟨b, o, none⟩) n c) (.slice (some ⟨b, o, none⟩) n c) = true := by simp [sameV, sameA, sameN]
theorem sameV_int (k : IntKind) (n : Nat) (h : kindEq k k = true) : sameV 100 (.int k (n : Int)) (.int k (n : Int)) = true := by
  have : ieqF (n : Int) (n : Int) = true := by rw [ieqF_iff]; simp
  simp [sameV, h, this]
theorem rereadV_ok (v : Value) (h : sameV 100 v v = true) : rereadV (.ok v) v = true := h
theorem rereadV_eq (v w : Value) : rereadV (.ok v) w = sameV 100 v w := rfl
theorem Slc.self {A : Mem} {e : TypeId} {b : Nat} {l : List Value} {x : Value} (h : Slc A e b l x) : sameV 100 x x = true := by
  rcases h with ⟨rfl, -⟩ | ⟨k, c, rfl, -⟩
  · rfl
  · exact sameV_slc _ _ _ _
theorem runD_Rd (h : cls tb op = .Rd) : runD tb ih ops fl ({ dst, op, type := ty, pos, after, guard := none } :: l) i mems recs mks s = (rOp tb s.t s.m.get op).bind fun v =>
    bif rereadM tb ⟨i, s.t, op, v⟩ (selF (fun j => pairIn i j fl) mems) then putT s dst v (runD tb ih ops fl l (i + 1) mems (⟨i, s.t, op, v⟩ :: recs) mks) else .no 311 := by
  rw [runD_cons, h]
  simp only [selF_eq (fun j => pairIn i j fl) mems, rereadM_eq]
theorem runD_L (h : cls tb op = .L) : runD tb ih ops fl ({ dst, op, type := ty, pos, after, guard := none } :: l) i mems recs mks s =
    opF tb ih { dst, op, type := ty, pos, after, guard := none } { s with m := hideF ((selF (fun j => pairIn j i fl) mks).map (·.2)) s.m } fun s' =>
      (backF s.m.get ((selF (fun j => pairIn j i fl) mks).map (·.2)) s'.m).bind fun A =>
      bif rereadR tb A.get (selR (fun j => pairIn j i fl) recs) then runD tb ih ops fl l (i + 1) ((i, s.m) :: mems) recs mks { s' with m := A } else .no 310 := by
  rw [runD_cons, h]
  simp only [selF_eq (fun j => pairIn j i fl) mks, selR_eq (fun j => pairIn j i fl) recs, rereadR_eq]
theorem runD_gno {j : Nat} {want : Bool} (h : wantF ops { dst, op, type := ty, pos, after, guard := some (j, want) } s.t = .ok false) : runD tb ih ops fl ({ dst, op, type := ty, pos, after, guard := some (j, want) } :: l) i mems recs mks s = putT s dst unitV (runD tb ih ops fl l (i + 1) mems recs mks) := by
  show ((wantF ops { dst, op, type := ty, pos, after, guard := some (j, want) } s.t).bind fun w => bif w then _ else putT s dst unitV (runD tb ih ops fl l (i + 1) mems recs mks)) = _
  rw [h]; rfl
theorem runD_yes {j : Nat} {want : Bool} (h : wantF ops { dst, op, type := ty, pos, after, guard := some (j, want) } s.t = .ok true) : runD tb ih ops fl ({ dst, op, type := ty, pos, after, guard := some (j, want) } :: l) i mems recs mks s = match cls tb op with
        | .L => opF tb ih { dst, op, type := ty, pos, after, guard := some (j, want) } { s with m := hideF ((mks.filter fun x => pairIn x.1 i fl).map (·.2)) s.m } fun s' =>
          (backF s.m.get ((mks.filter fun x => pairIn x.1 i fl).map (·.2)) s'.m).bind fun A =>
          bif (recs.filter fun x => pairIn x.i i fl).all (reread tb A.get) then runD tb ih ops fl l (i + 1) ((i, s.m) :: mems) recs mks { s' with m := A } else .no 310
        | .Rd => (rOp tb s.t s.m.get op).bind fun v =>
          bif (mems.filter fun m => pairIn i m.1 fl).all (fun m => reread tb m.2.get ⟨i, s.t, op, v⟩) then putT s dst v (runD tb ih ops fl l (i + 1) mems (⟨i, s.t, op, v⟩ :: recs) mks) else .no 311
        | .Al => opF tb ih { dst, op, type := ty, pos, after, guard := some (j, want) } s fun s' => runD tb ih ops fl l (i + 1) (addB s.m.next (s'.m.get s.m.next) mems) recs ((i, s.m.next) :: mks) s'
        | .P => opF tb ih { dst, op, type := ty, pos, after, guard := some (j, want) } s (runD tb ih ops fl l (i + 1) mems recs mks) := by
  show ((wantF ops { dst, op, type := ty, pos, after, guard := some (j, want) } s.t).bind fun w => bif w then _ else _) = _
  rw [h]; rfl
section
variable {j : Nat} {want : Bool} (hw : wantF ops { dst, op, type := ty, pos, after, guard := some (j, want) } s.t = .ok true)
include hw
theorem runD_gP (h : cls tb op = .P) : runD tb ih ops fl ({ dst, op, type := ty, pos, after, guard := some (j, want) } :: l) i mems recs mks s = opF tb ih { dst, op, type := ty, pos, after, guard := some (j, want) } s (runD tb ih ops fl l (i + 1) mems recs mks) := by
  rw [runD_yes hw, h]
theorem runD_gAl (h : cls tb op = .Al) : runD tb ih ops fl ({ dst, op, type := ty, pos, after, guard := some (j, want) } :: l) i mems recs mks s = opF tb ih { dst, op, type := ty, pos, after, guard := some (j, want) } s fun s' => runD tb ih ops fl l (i + 1) (addB s.m.next (s'.m.get s.m.next) mems) recs ((i, s.m.next) :: mks) s' := by
  rw [runD_yes hw, h]
theorem runD_gRd (h : cls tb op = .Rd) : runD tb ih ops fl ({ dst, op, type := ty, pos, after, guard := some (j, want) } :: l) i mems recs mks s = (rOp tb s.t s.m.get op).bind fun v =>
    bif rereadM tb ⟨i, s.t, op, v⟩ (selF (fun j => pairIn i j fl) mems) then putT s dst v (runD tb ih ops fl l (i + 1) mems (⟨i, s.t, op, v⟩ :: recs) mks) else .no 311 := by
  rw [runD_yes hw, h]
  simp only [selF_eq (fun j => pairIn i j fl) mems, rereadM_eq]
theorem runD_gL (h : cls tb op = .L) : runD tb ih ops fl ({ dst, op, type := ty, pos, after, guard := some (j, want) } :: l) i mems recs mks s =
    opF tb ih { dst, op, type := ty, pos, after, guard := some (j, want) } { s with m := hideF ((selF (fun j => pairIn j i fl) mks).map (·.2)) s.m } fun s' =>
      (backF s.m.get ((selF (fun j => pairIn j i fl) mks).map (·.2)) s'.m).bind fun A =>
      bif rereadR tb A.get (selR (fun j => pairIn j i fl) recs) then runD tb ih ops fl l (i + 1) ((i, s.m) :: mems) recs mks { s' with m := A } else .no 310 := by
  rw [runD_yes hw, h]
  simp only [selF_eq (fun j => pairIn j i fl) mks, selR_eq (fun j => pairIn j i fl) recs, rereadR_eq]
end
theorem sameV_str (l : List UInt8) : sameV 100 (strOf l) (strOf l) = true := by
  show bytesEq l l = true
  rw [bytesEq_eq]; simp
theorem addB_nil (b : Nat) (o : Option Ob) : addB b o [] = [] := by cases o <;> rfl
theorem addB_cons (b : Nat) (o : Ob) (j : Nat) (A : Mem) (l : List (Nat × Mem)) : addB b (some o) ((j, A) :: l) = (j, A.set b o) :: addB b (some o) l := rfl
theorem backF_nil (g : Nat → Option Ob) (A : Mem) : backF g [] A = .ok A := rfl
theorem rOp_load (t : T Value) (g : Nat → Option Ob) (e : TypeId) (x : Tmp) : rOp tb t g (.load e (.tmp x)) = (ev t (.tmp x)).bind fun x => loadF tb g e x := rfl
end

end Go.Am

/-
  The abstract machine AM, part 51: loops over functions.
-/
namespace Go.Am
variable {tb : Tab}

theorem exec_rangeFunc (n : Nat) (f : Operand) (ps : Array Tmp) (a b : Code) (s : St) : exec tb (n + 1) (.rangeFunc f ps a b) s = rangeFuncF tb (exec tb n) f ps.toList a b 0 s := rfl
/-- The block of a loop over a function, as it begins. -/
def loop0 (t : T Value) (n : Nat) (ps : List Tmp) (a b : Code) (d : Nat) : ALoop := { state := .ready, pending := none, fn := 0, tmps := t, n := n, params := ps, assign := a, body := b, defers := d }
/-- A loop over a function whose rounds all go on. -/
theorem W.rangeF {f : Operand} {ps : Array Tmp} {a b : Code} {t : T Value} {n : Nat} {A A' : Mem} {K : Ex → St → Prop} {fid : FuncId} {first capt : List Value} {v : Value} {r : ALoop}
    (hf : ev t f = .ok (.func (.func fid) ⟨first⟩ ⟨capt⟩))
    (hc : Ans tb fid (first ++ [.func (.yield (A.next + 1)) ⟨[]⟩ ⟨[]⟩] ++ capt) ((A.alloc .defd).alloc (.loop (loop0 t n ps.toList a b A.next))) v A')
    (hr : A'.get (A.next + 1) = some (.loop r)) (hst : r.state ≠ .busy) (hp : r.pending = none)
    (k : K .nrm ⟨t, n, [A.next], A'.set (A.next + 1) (.loop { r with state := .exhausted }), none⟩) : W tb (.rangeFunc f ps a b) ⟨t, n, [], A, none⟩ K := by
  obtain ⟨g, hg⟩ := hc
  refine ⟨_, _, ⟨g + 1, fun m => ?_⟩, k⟩
  rw [show m + (g + 1) = (m + g) + 1 by omega, exec_rangeFunc]
  have h1 := hg (m + g) (by omega)
  unfold rangeFuncF
  simp only [hf, R.ok_bind]
  have hn : (A.alloc .defd).next = A.next + 1 := next_alloc _ _
  rw [hn]
  have hcal : ∀ g' : Nat → Option Ob, calleeF tb g' (.func (.func fid) ⟨first⟩ ⟨capt⟩) [.func (.yield (A.next + 1)) ⟨[]⟩ ⟨[]⟩] = .ok (.fn fid (first ++ [.func (.yield (A.next + 1)) ⟨[]⟩ ⟨[]⟩] ++ capt)) := fun _ => rfl
  rw [hcal, R.ok_bind]
  unfold loop0 at h1
  rw [h1, R.ok_bind]
  simp only [hr, hp]
  cases hs : r.state with
  | busy => exact absurd hs hst
  | _ => rfl
/-- A round of a loop over a function, that goes on. -/
theorem round_of_W {l : Nat} {args : List Value} {A : Mem} {r : ALoop} {t : T Value} {Q : Mem → Prop} (hl : A.get l = some (.loop r)) (ht : setArgs r.n r.params args r.tmps = .ok t)
    (h : W tb r.assign ⟨t, r.n, [], A, some l⟩ fun e s1 => e = .nrm ∧ ∃ r1, s1.m.get l = some (.loop r1) ∧ r1.state = .ready ∧ W tb r.body ⟨s1.t, s1.n, s1.d, s1.m.set l (.loop { r1 with state := .busy }), s1.ro⟩ fun e s2 => e = .nrm ∧ s2.d = [] ∧ ∃ r2, s2.m.get l = some (.loop r2) ∧ Q (s2.m.set l (.loop { r2 with state := .ready, pending := none }))) :
    ∃ A', (∃ g, ∀ M, g ≤ M → callF tb (exec tb M) (.round l args) A = .ok (.val (.bool true) A')) ∧ Q A' := by
  obtain ⟨e, s1, ⟨f1, h1⟩, rfl, r1, hr1, hst1, e2, s2, ⟨f2, h2⟩, rfl, hd, r2, hr2, hQ⟩ := h
  refine ⟨_, ⟨f1 + f2, fun M hM => ?_⟩, hQ⟩
  show roundF (exec tb M) l args A = _
  unfold roundF
  have e1 := h1 (M - f1)
  rw [Nat.sub_add_cancel (by omega)] at e1
  have e2 := h2 (M - f2)
  rw [Nat.sub_add_cancel (by omega)] at e2
  simp only [hl, ht, R.ok_bind, e1, hr1, hst1, e2, hd, hr2]

end Go.Am

/-
  The abstract machine AM, part 52: a slice of integers among the arguments of a law, that is read only.
-/
namespace Go.Am
variable {tb : Tab} (ok : TabOk tb)

/-- A slice that came in: nil; or it leads to a row that may not be written. -/
def ParS (A : Mem) (l : List Value) (x : Value) : Prop :=
  (x = .slice none 0 0 ∧ l = []) ∨ (x = .slice (some ⟨0, 0, none⟩) l.length (mkX l.length 1) ∧ 0 < A.next ∧ (l = [] ∨ ∃ t fz, A.get 0 = some (.cells t .row fz (T.puts .e 0 l))))
theorem ParS.same {A A' : Mem} {l : List Value} {x : Value} (h : ParS A l x) (hn : A.next ≤ A'.next) (hg : 0 < A.next → A'.get 0 = A.get 0) : ParS A' l x := by
  rcases h with h | ⟨h1, h2, h3⟩
  · exact .inl h
  · refine .inr ⟨h1, by omega, ?_⟩
    rcases h3 with h3 | ⟨t, fz, h3⟩
    · exact .inl h3
    · exact .inr ⟨t, fz, (hg h2).trans h3⟩
theorem ParS.len {A : Mem} {l : List Value} {x : Value} (h : ParS A l x) {t e : TypeId} (hu : tb.und t = some (.slice e)) : builtinPF tb .len [t] [x] = .ok (.int .i64 ((l.length : Nat) : Int)) := by
  rcases h with ⟨rfl, rfl⟩ | ⟨rfl, -⟩ <;> exact len_slc hu
theorem ParS.idx {A : Mem} {l : List Value} {x : Value} (h : ParS A l x) {t e : TypeId} {i : Nat} {kd : IntKind} (hu : tb.und t = some (.slice e)) (hs : sizeF tb e = .ok 1) (hi : i < l.length) :
    indexAddrF tb t x (.int kd (i : Int)) = .ok (.pointer (some ⟨0, i, none⟩)) := by
  rcases h with ⟨rfl, rfl⟩ | ⟨rfl, -⟩
  · simp at hi
  · rw [indexAddr_slc hu hs hi, Nat.zero_add]
theorem ParS.load {A : Mem} {l : List Value} {x v : Value} (h : ParS A l x) {t : TypeId} {d : TypeDesc} {o : Nat} (hu : tb.und t = some d) (ha : isAggD d = false) (hv : l[o]? = some v) : loadF tb A.get t (.pointer (some ⟨0, o, none⟩)) = .ok v := by
  have ho : o < l.length := (List.getElem?_eq_some_iff.1 hv).1
  rcases h with ⟨rfl, rfl⟩ | ⟨rfl, -, rfl | ⟨t2, fz, h3⟩⟩
  · simp at ho
  · simp at ho
  · have hc : (T.puts .e 0 l).get o = some v := by rw [T.get_puts, if_pos (by omega), Nat.sub_zero]; exact hv
    unfold loadF
    simp only [h3, hu, ha, cond_false, hc]

/-- A slice of integers in the model. -/
def ParW (k : IntKind) (w : World) (a : Option Addr) (len cap : Nat) (zs : List Int) : Prop :=
  (a = none ∧ len = 0 ∧ cap = 0 ∧ zs = []) ∨
  ∃ x, a = some x ∧ x.spot = none ∧ x.block < w.heap.size ∧ len ≤ cap ∧ cap < 2 ^ 63 ∧ zs.length = cap ∧ ∀ i, i < zs.length → w.cell? (x.add i) = some (.int k (zs.getD i 0))

theorem VRs.app {ι : Inj} : ∀ {l l' m m' : List Value}, VRs ι l l' → VRs ι m m' → VRs ι (l ++ m) (l' ++ m')
  | _, _, _, _, .nil, h => h
  | _, _, _, _, .cons h t, k => .cons h (VRs.app t k)

include ok in
/-- A call on memory: all blocks of the world stay but those of live blocks that are no still ones. -/
theorem call_still {n : Nat} {f : FuncId} {args : List Value} {v : Value} {A A' : Mem} (h : call tb n f args A = .ok (.val v A')) {fn : Func} {c : Code} (hf : tb.fn.get f = some fn) (hb : fn.body = some c) (args' : Array Value) (w : World) {ι : Inj} (hr : Rel ι A w)
    (ha : VRs ι args args'.toList) (hfree : ∀ b, A.next ≤ b → ι b = none) (hst : ∀ b l, live A b → ι b = some l → Still A b l) : Calls tb.P f args' w fun e w' => ∃ ι' v', e = .returned v' ∧ VR ι' v v' ∧ Leaves w w' := by
  intro cs
  unfold call at h
  simp only [hf, hb] at h
  rcases fn_sound ok (exec_sound ok n) hf hb h with ⟨_, _, h1, _⟩ | ⟨v, A', h1, hle, hs⟩
  · cases h1
  · cases h1
    obtain ⟨ι', w', v', ⟨fr0, st, hfn, hlv⟩, hv, hrel, hstp⟩ := hs ι w args' cs hr ha (fun b h1 _ => hfree b h1)
    refine ⟨.returned v', w', fr0, ⟨ι', v', rfl, hv, fun c hc => ?_, hstp.size, hstp.os, hstp.tape, hstp.output⟩, st, hfn, hlv⟩
    by_cases hx : ∃ b l, live A b ∧ ι b = some l ∧ l.blk = c
    · obtain ⟨b, l, h1, h2, rfl⟩ := hx
      exact (hstp.kept b l h2 (hst b l h1 h2)).2
    · exact hstp.fr c hc fun b l h1 h2 h3 => hx ⟨b, l, h1, h2, h3⟩

include ok in
/-- A law that answers true on the abstract machine, whatever row it was given. -/
theorem par_true {k : IntKind} {w : World} {a : Option Addr} {len cap : Nat} {zs : List Int} (h : ParW k w a len cap zs) {f : FuncId} {fn : Func} {c : Code} (hf : tb.fn.get f = some fn) (hb : fn.body = some c) {pre post pre' post' : List Value}
    (hpre : ∀ ι, VRs ι pre pre') (hpost : ∀ ι, VRs ι post post') (hlaw : ∀ A x, A.next = 1 → (∀ b, A.next ≤ b → A.get b = none) → ParS A ((zs.take len).map (.int k)) x → ∃ A', CallsTo tb f (pre ++ [x] ++ post) A (.bool true) A') :
    Calls tb.P f (pre' ++ [Value.slice a len cap] ++ post').toArray w fun e w' => e = .returned (.bool true) ∧ Leaves w w' := by
  have fin : ∀ {A : Mem} {x : Value} {ι : Inj}, A.next = 1 → ParS A ((zs.take len).map (.int k)) x → Rel ι A w → VR ι x (.slice a len cap) → (∀ b, A.next ≤ b → ι b = none) → (∀ b l, live A b → ι b = some l → Still A b l) →
      Calls tb.P f (pre' ++ [Value.slice a len cap] ++ post').toArray w fun e w' => e = .returned (.bool true) ∧ Leaves w w' := by
    intro A x ι hn hp hr hx hfree hst cs
    obtain ⟨A', n, hc⟩ := hlaw A x hn hr.wf hp
    obtain ⟨e, w', fr, ⟨ι', v', he, hv, hl⟩, st⟩ := call_still ok hc hf hb (pre' ++ [Value.slice a len cap] ++ post').toArray w hr (by
      show VRs ι (pre ++ [x] ++ post) (pre' ++ [Value.slice a len cap] ++ post')
      exact ((hpre ι).app (.cons hx .nil)).app (hpost ι)) hfree hst cs
    cases hv
    exact ⟨e, w', fr, ⟨he, hl⟩, st⟩
  rcases h with ⟨rfl, rfl, rfl, rfl⟩ | ⟨x, rfl, hsp, hblk, hlc, hcap, hz, hcell⟩
  · exact fin (A := ⟨.e, 1⟩) (x := .slice none 0 0) (ι := fun _ => none) rfl (.inl ⟨rfl, rfl⟩) ⟨fun _ _ => rfl, (fun _ _ _ h => by cases h), (fun _ _ h => by cases h), (fun _ _ _ _ h => by obtain ⟨_, h, _⟩ := h; cases h), (fun _ _ _ _ h => by cases h)⟩ .slN (fun _ _ => rfl) (fun b l hl => by obtain ⟨_, h, _⟩ := hl; cases h)
  · obtain ⟨xb, xo, xs⟩ := x
    simp only at hsp hblk
    subst hsp
    by_cases h0 : len = 0
    · subst h0
      refine fin (A := ⟨.e, 1⟩) (x := .slice (some ⟨0, 0, none⟩) 0 (mkX 0 1)) (ι := fun b => if b = 0 then some ⟨xb, xo, xo + cap⟩ else none) rfl (.inr ⟨rfl, Nat.zero_lt_one, .inl rfl⟩) ⟨fun _ _ => rfl, (fun _ _ _ h => by cases h), (fun b l hl => ?_), (fun _ _ _ _ h => by obtain ⟨_, h, _⟩ := h; cases h), (fun _ _ _ _ h => by cases h)⟩ ?_ (fun b hb => ?_) (fun b l hl => by obtain ⟨_, h, _⟩ := hl; cases h)
      · by_cases e : b = 0
        · simp only [e, if_true] at hl; cases hl; exact hblk
        · simp only [e, if_false] at hl; cases hl
      · have h1 : capN (mkX 0 1) = 0 := capN_mkX (by omega)
        have h2 : capE (mkX 0 1) = 1 := capE_mkX (by omega)
        exact VR.slX (l := ⟨xb, xo, xo + cap⟩) (o' := xo) rfl (capX_mkX _ _) (by rw [h1]; omega) (by rw [h2]; simp) (fun _ => by simp) hcap (by rw [h1]; exact Nat.le_refl _)
      · show (if b = 0 then _ else none) = none
        rw [if_neg (by simp only at hb; omega)]
    · have hc0 := hcell 0 (by omega)
      rw [Addr_add_mk] at hc0
      unfold World.cell? at hc0
      split at hc0
      · rename_i cs t fr hw
        have hw' : w.heap[xb]? = some (.cells cs t fr) := hw
        have hcs : ∀ i, i < cap → cs[xo + i]? = some (.int k (zs.getD i 0)) := by
          intro i hi
          have h := hcell i (by omega)
          rw [Addr_add_mk] at h
          unfold World.cell? at h
          simp only [hw', Option.isSome_none, Bool.false_eq_true, if_false] at h
          exact h
        have hsz : xo + cap ≤ cs.size := by
          have h := hcs (cap - 1) (by omega)
          have := (Array.getElem?_eq_some_iff.1 h).1
          omega
        have hll : ((zs.take len).map (Value.int k)).length = len := by rw [List.length_map, List.length_take]; omega
        have hget : ∀ i v, (T.puts .e 0 ((zs.take len).map (Value.int k))).get i = some v → i < len ∧ v = .int k (zs.getD i 0) := by
          intro i v hv
          rw [T.get_puts, hll] at hv
          by_cases hi : 0 ≤ i ∧ i < 0 + len
          · rw [if_pos hi, Nat.sub_zero, List.getElem?_map, List.getElem?_take_of_lt (by omega)] at hv
            rw [List.getElem?_eq_getElem (show i < zs.length by omega)] at hv
            simp only [Option.map_some, Option.some.injEq] at hv
            refine ⟨by omega, ?_⟩
            rw [← hv]
            simp [List.getD, List.getElem?_eq_getElem (show i < zs.length by omega)]
          · rw [if_neg hi, T.get_e] at hv; cases hv
        let fz := 2 * (9223372036854775808 + cs.size + fr.2 + 1)
        refine fin (A := mem0.alloc (.cells t .row fz (T.puts .e 0 ((zs.take len).map (.int k))))) (x := .slice (some ⟨0, 0, none⟩) len (mkX len 1)) (ι := fun b => if b = 0 then some ⟨xb, xo, cs.size⟩ else none) rfl
          (.inr ⟨by rw [hll], Nat.zero_lt_one, .inr ⟨t, fz, get_alloc_self _ _⟩⟩) ⟨fun b hb => ?_, fun b o l hg hal hl => ?_, fun b l hl => ?_, fun b b' l l' hb hb' hl hl' _ => ?_, fun b t' k' c' hg => ?_⟩ ?_ (fun b hb => ?_) (fun b l hb hl => ?_)
        · have hb1 : 1 ≤ b := hb
          rw [get_alloc, if_neg (by show ¬ b = 0; omega)]; rfl
        · by_cases e : b = 0
          · subst e
            rw [if_pos rfl] at hl; cases hl
            have hg' : (mem0.alloc (.cells t .row fz (T.puts .e 0 ((zs.take len).map (Value.int k))))).get mem0.next = some o := hg
            rw [get_alloc_self] at hg'; cases hg'
            refine ⟨_, hw', cs, fr, rfl, rfl, fun i v hv => ?_, ?_⟩
            · obtain ⟨h1, rfl⟩ := hget i v hv
              exact ⟨_, by rw [Nat.add_comm]; exact hcs i (by omega), .int _ _⟩
            · show fr.2 ≤ xo + fz
              omega
          · rw [if_neg e] at hl; cases hl
        · by_cases e : b = 0
          · simp only [e, if_true] at hl; cases hl; exact hblk
          · simp only [e, if_false] at hl; cases hl
        · by_cases e : b = 0
          · by_cases e' : b' = 0
            · rw [e, e']
            · simp only [e', if_false] at hl'; cases hl'
          · simp only [e, if_false] at hl; cases hl
        · rw [get_alloc] at hg
          split at hg
          · simp only [Option.some.injEq, Ob.cells.injEq, GB, fz] at hg; omega
          · cases hg
        · have h1 : capN (mkX len 1) = len := capN_mkX (by omega)
          have h2 : capE (mkX len 1) = 1 := capE_mkX (by omega)
          exact VR.slX (l := ⟨xb, xo, cs.size⟩) (o' := xo) rfl (capX_mkX _ _) (by rw [h1]; exact hlc) (by rw [h2, Nat.mul_one]; exact hsz) (fun _ => by simp) hcap (by rw [h1]; exact Nat.le_refl _)
        · show (if b = 0 then _ else none) = none
          have hb1 : 1 ≤ b := hb
          rw [if_neg (by omega)]
        · by_cases e : b = 0
          · subst e
            simp only [if_true] at hl; cases hl
            exact ⟨Nat.zero_lt_one, t, fz, _, get_alloc_self _ _, by show 9223372036854775808 ≤ fz; omega, by show cs.size < fz; omega⟩
          · simp only [e, if_false] at hl; cases hl
      · cases hc0

end Go.Am

/-
  The abstract machine AM, part 53: values of several cells in memory; slices of them.
-/
namespace Go.Am
variable {tb : Tab}

theorem stores_all (m : Nat) : ∀ (vs : List Value) (i : Nat) (c : T Value), (∀ v ∈ vs, oneCell v = true) → (∀ j, j < vs.length → ∃ y, c.get (i + j) = some y) → storesF m 0 vs i c = .ok (c.puts i vs)
  | [], _, _, _, _ => rfl
  | v :: vs, i, c, h1, h2 => by
    unfold storesF
    have hb : (oneCell v && Nat.ble 0 i) = true := by rw [h1 v (List.mem_cons_self ..)]; simp
    obtain ⟨y, hy⟩ := h2 0 (by simp)
    rw [Nat.add_zero] at hy
    rw [hb, cond_true, hy]
    refine stores_all m vs (i + 1) (c.set i v) (fun w hw => h1 w (List.mem_cons_of_mem _ hw)) fun j hj => ?_
    rw [T.get_set]
    by_cases e : i + 1 + j = i
    · omega
    · rw [if_neg e]
      obtain ⟨y, hy⟩ := h2 (j + 1) (by simp; omega)
      exact ⟨y, by rw [← hy]; congr 1; omega⟩
/-- A variable of several cells, written whole. -/
theorem store_all {A : Mem} {e t : TypeId} {b : Nat} {k : Kd} {l l' : List Value} (hs : sizeF tb t = .ok l.length) (h : Vals A e b k l) (hl : l'.length = l.length) (h0 : l ≠ []) (h1 : ∀ v ∈ l', oneCell v = true) :
    ∃ A', storeF tb A t (.pointer (some ⟨b, 0, none⟩)) (.agg ⟨l'⟩) = .ok A' ∧ Vals A' e b k l' ∧ A'.next = A.next ∧ ∀ x, x ≠ b → A'.get x = A.get x := by
  obtain ⟨c, h2, h3⟩ := h
  have hst : storesF (roomK k) 0 l' 0 c = .ok (c.puts 0 l') := stores_all _ l' 0 c h1 fun j hj => by
    rw [Nat.zero_add, h3 j (by omega), List.getElem?_eq_getElem (show j < l.length by omega)]
    exact ⟨_, rfl⟩
  refine ⟨A.set b (.cells e k 0 (c.puts 0 l')), ?_, ⟨_, by rw [get_setMem, if_pos rfl], fun i hi => ?_⟩, next_set _ _ _, fun x hx => by rw [get_setMem, if_neg hx]⟩
  · unfold storeF
    have hc : (Value.agg ⟨l'⟩).cells.toList = l' := rfl
    simp only [hs, R.ok_bind, hc]
    have hb : Nat.beq l'.length l.length = true := by rw [hl]; simp
    rw [hb, cond_true]
    cases l' with
    | nil => cases l with
      | nil => exact absurd rfl h0
      | cons _ _ => simp at hl
    | cons v vs =>
      unfold storeAtF
      simp only [h2, hst, R.ok_bind]
  · rw [T.get_puts, if_pos ⟨Nat.zero_le _, by omega⟩, Nat.sub_zero]
/-- A variable of several cells, whole. -/
theorem load_all {A : Mem} {e t : TypeId} {b : Nat} {k : Kd} {l : List Value} {d : TypeDesc} (hu : tb.und t = some d) (ha : isAggD d = true) (hs : sizeF tb t = .ok l.length) (h : Vals A e b k l) : loadF tb A.get t (.pointer (some ⟨b, 0, none⟩)) = .ok (.agg ⟨l⟩) := by
  obtain ⟨c, h1, h2⟩ := h
  have hg : c.gets l.length 0 = some l := gets_eq _ _ _ _ rfl fun j hj => by rw [Nat.zero_add]; exact h2 j hj
  unfold loadF
  simp only [h1, hu, ha, cond_true, hs, R.ok_bind, hg]
theorem vals_new (A : Mem) (e : TypeId) (l : List Value) : Vals (A.alloc (rowOb e l)) e A.next (.var l.length) l := vals_puts (get_alloc_self _ _)

theorem flat_len {n : Nat} : ∀ {ls : List (List Value)}, (∀ l ∈ ls, l.length = n) → ls.flatten.length = ls.length * n
  | [], _ => by simp
  | l :: ls, h => by
    rw [List.flatten_cons, List.length_append, flat_len (fun x hx => h x (List.mem_cons_of_mem _ hx)), h l (List.mem_cons_self ..), List.length_cons, Nat.add_mul, Nat.one_mul, Nat.add_comm]
theorem flat_get {n : Nat} : ∀ {ls : List (List Value)} {i j : Nat} {l : List Value}, (∀ l ∈ ls, l.length = n) → ls[i]? = some l → j < n → ls.flatten[i * n + j]? = l[j]?
  | [], i, j, l, _, hi, _ => by simp at hi
  | l0 :: ls, 0, j, l, h, hi, hj => by
    simp only [List.getElem?_cons_zero, Option.some.injEq] at hi
    subst hi
    rw [List.flatten_cons, Nat.zero_mul, Nat.zero_add, List.getElem?_append_left (by rw [h _ (List.mem_cons_self ..)]; exact hj)]
  | l0 :: ls, i + 1, j, l, h, hi, hj => by
    simp only [List.getElem?_cons_succ] at hi
    have hl0 := h l0 (List.mem_cons_self ..)
    rw [List.flatten_cons, List.getElem?_append_right (by rw [hl0, Nat.add_mul]; omega), hl0, show (i + 1) * n + j - n = i * n + j by rw [Nat.add_mul, Nat.one_mul]; omega]
    exact flat_get (fun x hx => h x (List.mem_cons_of_mem _ hx)) hi hj

/-- A slice of values of n cells each, whole; so that what is appended goes into a new one. -/
def SlcM (A : Mem) (e : TypeId) (n b : Nat) (ls : List (List Value)) (x : Value) : Prop :=
  (x = .slice none 0 0 ∧ ls = []) ∨ ∃ k c, x = .slice (some ⟨b, 0, none⟩) ls.length c ∧ b < A.next ∧ Vals A e b k ls.flatten ∧ (∀ l ∈ ls, l.length = n) ∧ (c = 2 * ls.length ∨ (c = mkX ls.length n ∧ (k = .row ∨ k = .mark)))
theorem SlcM.nil (A : Mem) (e : TypeId) (n b : Nat) : SlcM A e n b [] (.slice none 0 0) := .inl ⟨rfl, rfl⟩
theorem SlcM.same {A A' : Mem} {e : TypeId} {n b : Nat} {ls : List (List Value)} {x : Value} (h : SlcM A e n b ls x) (hn : A.next ≤ A'.next) (hg : b < A.next → A'.get b = A.get b) : SlcM A' e n b ls x := by
  rcases h with h | ⟨k, c, h1, h2, h3, h4⟩
  · exact .inl h
  · exact .inr ⟨k, c, h1, Nat.lt_of_lt_of_le h2 hn, h3.same (hg h2), h4⟩
theorem SlcM.len {A : Mem} {e t t' : TypeId} {n b : Nat} {ls : List (List Value)} {x : Value} (h : SlcM A e n b ls x) (hu : tb.und t = some (.slice t')) : builtinPF tb .len [t] [x] = .ok (.int .i64 ((ls.length : Nat) : Int)) := by
  rcases h with ⟨rfl, rfl⟩ | ⟨k, c, rfl, -⟩ <;> exact len_slc hu
theorem SlcM.idx {A : Mem} {e t t' : TypeId} {n b i : Nat} {kd : IntKind} {ls : List (List Value)} {x : Value} (h : SlcM A e n b ls x) (hu : tb.und t = some (.slice t')) (hs : sizeF tb t' = .ok n) (hi : i < ls.length) :
    indexAddrF tb t x (.int kd (i : Int)) = .ok (.pointer (some ⟨b, i * n, none⟩)) := by
  rcases h with ⟨rfl, rfl⟩ | ⟨k, c, rfl, -⟩
  · simp at hi
  · have hb : Nat.blt i ls.length = true := by rw [Nat.blt_eq]; exact hi
    have hn : natV (.int kd (i : Int)) = .ok i := rfl
    unfold indexAddrF
    simp only [hn, hu, hb, cond_true, hs, R.ok_bind, addA, Nat.zero_add]
theorem SlcM.load {A : Mem} {e t : TypeId} {d : TypeDesc} {n b i j : Nat} {ls : List (List Value)} {l : List Value} {x v : Value} (h : SlcM A e n b ls x) (hu : tb.und t = some d) (ha : isAggD d = false) (hi : ls[i]? = some l) (hj : l[j]? = some v) (hjn : j < n) :
    loadF tb A.get t (.pointer (some ⟨b, i * n + j, none⟩)) = .ok v := by
  rcases h with ⟨rfl, rfl⟩ | ⟨k, c, rfl, h2, h3, h4, -⟩
  · simp at hi
  · exact load_vals hu ha h3 (by rw [flat_get h4 hi hjn]; exact hj)
/-- A value of it, whole. -/
theorem SlcM.load_all {A : Mem} {e t : TypeId} {d : TypeDesc} {n b i : Nat} {ls : List (List Value)} {l : List Value} {x : Value} (h : SlcM A e n b ls x) (hu : tb.und t = some d) (ha : isAggD d = true) (hs : sizeF tb t = .ok n) (hi : ls[i]? = some l) :
    loadF tb A.get t (.pointer (some ⟨b, i * n, none⟩)) = .ok (.agg ⟨l⟩) := by
  rcases h with ⟨rfl, rfl⟩ | ⟨k, c, rfl, h2, ⟨cs, h5, h6⟩, h4, -⟩
  · simp at hi
  · have hl : l.length = n := h4 l (List.mem_of_getElem? hi)
    have hlen := flat_len h4
    have hil : i < ls.length := (List.getElem?_eq_some_iff.1 hi).1
    have hg : cs.gets n (i * n) = some l := gets_eq _ _ _ _ hl fun j hj => by
      rw [h6 (i * n + j) (by
        rw [hlen]
        have := Nat.mul_le_mul_right n (show i + 1 ≤ ls.length from hil)
        rw [Nat.add_mul, Nat.one_mul] at this
        omega), flat_get h4 hi hj]
    unfold loadF
    simp only [h5, hu, ha, cond_true, hs, R.ok_bind, hg]
theorem elemsF_valsN {A : Mem} {e : TypeId} {b n m : Nat} {k : Kd} {l : List Value} (h : Vals A e b k l) (hl : l.length = m * n) : elemsF A.get n m (some ⟨b, 0, none⟩) = .ok l := by
  obtain ⟨c, h1, h2⟩ := h
  unfold elemsF
  simp only []
  cases hn : Nat.beq (m * n) 0 with
  | true =>
    have : l = [] := List.length_eq_zero_iff.1 (by rw [hl]; exact Nat.eq_of_beq_eq_true hn)
    subst this; rfl
  | false =>
    have hg : c.gets (m * n) 0 = some l := gets_eq _ _ _ _ hl fun j hj => by rw [Nat.zero_add]; exact h2 j (by omega)
    simp only [cond_false, h1, hg]
/-- One more, behind it. -/
theorem SlcM.append {A : Mem} {st xt e : TypeId} {i : TypeInfo} {z l : List Value} {n b b2 : Nat} {ls : List (List Value)} {x : Value} (h : SlcM A e n b ls x) (hst : tb.und st = some (.slice e)) (hxt : tb.und xt = some (.slice e)) (hz : zcellsF tb e = .ok (n, z)) (hi : tb.ty.get e = some i) (hib : 0 < i.bytes) (hib' : i.bytes ≤ 65536)
    (hn0 : 0 < n) (hn1 : n < 65536) (hls : ls.length < 16777216) (hb2 : A.get b2 = some (rowOb e l)) (hl : l.length = n) (h1c : ∀ v ∈ l, oneCell v = true) :
    ∃ x' A', appendF tb A st xt x (.slice (some ⟨b2, 0, none⟩) 1 2) = .ok (x', A') ∧ SlcM A' e n A.next (ls ++ [l]) x' ∧ A'.next = A.next + 1 ∧ ∀ y, (y = b → x = .slice none 0 0) → y < A.next → A'.get y = A.get y := by
  have hnew : firstF A.get n 1 (.slice (some ⟨b2, 0, none⟩) 1 2) = .ok l := elemsF_valsN (vals_puts (e := e) (k := .var l.length) hb2) (by rw [Nat.one_mul]; exact hl)
  have hlim : (Nat.ble (ls.length + 1) 16777216 && Nat.ble i.bytes 65536 && Nat.blt 0 i.bytes && Nat.blt 0 n && Nat.blt n 65536) = true := by
    have a1 : Nat.ble (ls.length + 1) 16777216 = true := Nat.ble_eq_true_of_le (by omega)
    have a2 : Nat.ble i.bytes 65536 = true := Nat.ble_eq_true_of_le hib'
    have a3 : Nat.blt 0 i.bytes = true := by rw [Nat.blt_eq]; exact hib
    have a4 : Nat.blt 0 n = true := by rw [Nat.blt_eq]; exact hn0
    have a5 : Nat.blt n 65536 = true := by rw [Nat.blt_eq]; exact hn1
    rw [a1, a2, a3, a4, a5]; rfl
  have hfl : (ls ++ [l]).flatten = ls.flatten ++ l := by simp
  have fin : ∀ (k' : Kd) (A0 : Mem), A0.next = A.next → (∀ y, y ≠ b → A0.get y = A.get y) → (k' = .row ∨ k' = .mark) → (∀ l ∈ ls, l.length = n) →
      SlcM (A0.alloc (.cells e k' 0 (T.puts .e 0 (ls.flatten ++ l)))) e n A.next (ls ++ [l]) (.slice (some ⟨A.next, 0, none⟩) (ls.length + 1) (mkX (ls.length + 1) n)) ∧ (A0.alloc (.cells e k' 0 (T.puts .e 0 (ls.flatten ++ l)))).next = A.next + 1 ∧ ∀ y, y ≠ b → y < A.next → (A0.alloc (.cells e k' 0 (T.puts .e 0 (ls.flatten ++ l)))).get y = A.get y := by
    intro k' A0 hn hg hk' hall
    refine ⟨.inr ⟨k', _, by rw [List.length_append]; rfl, by rw [next_alloc]; omega, vals_puts ?_, fun y hy => ?_, .inr ⟨by rw [List.length_append]; rfl, hk'⟩⟩, by rw [next_alloc, hn], fun y hy hlt => ?_⟩
    · rw [hfl, ← hn]; exact get_alloc_self _ _
    · rcases List.mem_append.1 hy with h | h
      · exact hall y h
      · rw [List.mem_singleton.1 h]; exact hl
    · rw [get_alloc_ne (by omega), hg y hy]
  rcases h with ⟨rfl, rfl⟩ | ⟨k, c, rfl, h2, h3, h4, h5⟩
  · refine ⟨.slice (some ⟨A.next, 0, none⟩) 1 (mkX 1 n), A.alloc (.cells e .row 0 (T.puts .e 0 ([] ++ l))), ?_, ?_⟩
    · unfold appendF appendG
      have hble : Nat.ble (0 + 1) (capN 0) = false := rfl
      have hx : capX 0 = true := rfl
      have hel : elemsF A.get n 0 none = .ok [] := rfl
      simp only [hst, hxt, isIntD, cond_false, hz, R.ok_bind, lenF, hnew, hble, hi]
      simp only [List.length_nil, Nat.zero_add] at hlim
      simp only [Nat.zero_add, hlim, cond_true, hel, R.ok_bind, hx]
    · obtain ⟨f1, f2, -⟩ := fin .row A rfl (fun _ _ => rfl) (.inl rfl) (fun l h => by cases h)
      exact ⟨f1, f2, fun y _ hy => get_alloc_ne (by omega)⟩
  · have hel : elemsF A.get n ls.length (some ⟨b, 0, none⟩) = .ok ls.flatten := elemsF_valsN h3 (flat_len h4)
    obtain ⟨cs, hb', hcs⟩ := h3
    rcases h5 with rfl | ⟨rfl, hk⟩
    · have hx : capX (2 * ls.length) = true := by show Nat.beq (2 * ls.length % 2) 0 = true; rw [Nat.mul_mod_right]; rfl
      have hcn : capN (2 * ls.length) = ls.length := by unfold capN; rw [hx, cond_true]; show 2 * ls.length / 2 = ls.length; omega
      have hble : Nat.ble (ls.length + 1) (capN (2 * ls.length)) = false := by
        rw [hcn]
        cases hq : Nat.ble (ls.length + 1) ls.length with
        | false => rfl
        | true => have := Nat.le_of_ble_eq_true hq; omega
      refine ⟨_, A.alloc (.cells e .row 0 (T.puts .e 0 (ls.flatten ++ l))), ?_, (fin .row A rfl (fun _ _ => rfl) (.inl rfl) h4).1, (fin .row A rfl (fun _ _ => rfl) (.inl rfl) h4).2.1, fun y hy => (fin .row A rfl (fun _ _ => rfl) (.inl rfl) h4).2.2 y (fun e => by cases hy e)⟩
      unfold appendF appendG
      simp only [hst, hxt, isIntD, cond_false, hz, R.ok_bind, lenF, hnew, hble, hi, hlim, cond_true, hel, hx]
    · have hble : Nat.ble (ls.length + 1) (capN (mkX ls.length n)) = false := by
        rw [capN_mkX hn1]
        cases hq : Nat.ble (ls.length + 1) ls.length with
        | false => rfl
        | true => have := Nat.le_of_ble_eq_true hq; omega
      have hx : capX (mkX ls.length n) = false := capX_mkX _ _
      have he : Nat.beq (capE (mkX ls.length n)) n = true := by rw [capE_mkX hn1]; simp
      have hall : l.all oneCell = true := List.all_eq_true.2 h1c
      have hfz : (Nat.ble 0 (0 + ls.length * n) && (Nat.beq e e && Nat.blt 0 9223372036854775808)) = true := by
        have h0 : Nat.blt 0 9223372036854775808 = true := by rw [Nat.blt_eq]; omega
        rw [h0]; simp
      refine ⟨_, (A.set b .dead).alloc (.cells e k 0 (T.puts .e 0 (ls.flatten ++ l))), ?_, (fin k (A.set b .dead) (next_set _ _ _) (fun y hy => by rw [get_setMem, if_neg hy]) hk h4).1, (fin k (A.set b .dead) (next_set _ _ _) (fun y hy => by rw [get_setMem, if_neg hy]) hk h4).2.1, fun y hy => (fin k (A.set b .dead) (next_set _ _ _) (fun y hy => by rw [get_setMem, if_neg hy]) hk h4).2.2 y (fun e => by cases hy e)⟩
      unfold appendF appendG
      simp only [hst, hxt, isIntD, cond_false, hz, R.ok_bind, lenF, hnew, hble, hi, hlim, cond_true, hel, hx, he, hall, Bool.and_true, hb', hfz]
      rcases hk with rfl | rfl <;> rfl

end Go.Am

/-
  The abstract machine AM, part 54: slices that are read only; '==' of structs.
-/
namespace Go.Am
variable {tb : Tab}

/-! ### Slices of values of n cells each: a beginning of a row, read only -/
def RowM (A : Mem) (e : TypeId) (n b : Nat) (ls : List (List Value)) (x : Value) : Prop :=
  (x = .slice none 0 0 ∧ ls = []) ∨ ∃ k c ex, x = .slice (some ⟨b, 0, none⟩) ls.length c ∧ b < A.next ∧ Vals A e b k (ls.flatten ++ ex) ∧ (∀ l ∈ ls, l.length = n) ∧ capFit c n = true ∧ ls.length ≤ capN c
theorem SlcM.toRow {A : Mem} {e : TypeId} {n b : Nat} {ls : List (List Value)} {x : Value} (hn : n < 65536) (h : SlcM A e n b ls x) : RowM A e n b ls x := by
  rcases h with h | ⟨k, c, h1, h2, h3, h4, h5⟩
  · exact .inl h
  · refine .inr ⟨k, c, [], h1, h2, by rw [List.append_nil]; exact h3, h4, ?_, ?_⟩
    · rcases h5 with rfl | ⟨rfl, _⟩
      · unfold capFit; rw [capX_two]; rfl
      · unfold capFit; rw [capX_mkX, capE_mkX hn, cond_false]; exact Nat.beq_refl n
    · rcases h5 with rfl | ⟨rfl, _⟩
      · rw [capN_two]; exact Nat.le_refl _
      · rw [capN_mkX hn]; exact Nat.le_refl _
theorem RowM.nil (A : Mem) (e : TypeId) (n b : Nat) : RowM A e n b [] (.slice none 0 0) := .inl ⟨rfl, rfl⟩
theorem RowM.same {A A' : Mem} {e : TypeId} {n b : Nat} {ls : List (List Value)} {x : Value} (h : RowM A e n b ls x) (hn : A.next ≤ A'.next) (hg : b < A.next → A'.get b = A.get b) : RowM A' e n b ls x := by
  rcases h with h | ⟨k, c, ex, h1, h2, h3, h4⟩
  · exact .inl h
  · exact .inr ⟨k, c, ex, h1, Nat.lt_of_lt_of_le h2 hn, h3.same (hg h2), h4⟩
theorem RowM.len {A : Mem} {e t t' : TypeId} {n b : Nat} {ls : List (List Value)} {x : Value} (h : RowM A e n b ls x) (hu : tb.und t = some (.slice t')) : builtinPF tb .len [t] [x] = .ok (.int .i64 ((ls.length : Nat) : Int)) := by
  rcases h with ⟨rfl, rfl⟩ | ⟨k, c, ex, rfl, -⟩ <;> exact len_slc hu
theorem RowM.idx {A : Mem} {e t t' : TypeId} {n b i : Nat} {kd : IntKind} {ls : List (List Value)} {x : Value} (h : RowM A e n b ls x) (hu : tb.und t = some (.slice t')) (hs : sizeF tb t' = .ok n) (hi : i < ls.length) :
    indexAddrF tb t x (.int kd (i : Int)) = .ok (.pointer (some ⟨b, i * n, none⟩)) := by
  rcases h with ⟨rfl, rfl⟩ | ⟨k, c, ex, rfl, -⟩
  · simp at hi
  · have hb : Nat.blt i ls.length = true := by rw [Nat.blt_eq]; exact hi
    have hn : natV (.int kd (i : Int)) = .ok i := rfl
    unfold indexAddrF
    simp only [hn, hu, hb, cond_true, hs, R.ok_bind, addA, Nat.zero_add]
theorem flat_lt {n i j : Nat} {ls : List (List Value)} (h : ∀ l ∈ ls, l.length = n) (hi : i < ls.length) (hj : j < n) : i * n + j < ls.flatten.length := by
  rw [flat_len h]
  have := Nat.mul_le_mul_right n (show i + 1 ≤ ls.length from hi)
  rw [Nat.add_mul, Nat.one_mul] at this
  omega
theorem RowM.load {A : Mem} {e t : TypeId} {d : TypeDesc} {n b i j : Nat} {ls : List (List Value)} {l : List Value} {x v : Value} (h : RowM A e n b ls x) (hu : tb.und t = some d) (ha : isAggD d = false) (hi : ls[i]? = some l) (hj : l[j]? = some v) (hjn : j < n) :
    loadF tb A.get t (.pointer (some ⟨b, i * n + j, none⟩)) = .ok v := by
  rcases h with ⟨rfl, rfl⟩ | ⟨k, c, ex, rfl, h2, h3, h4, -⟩
  · simp at hi
  · have hil : i < ls.length := (List.getElem?_eq_some_iff.1 hi).1
    exact load_vals hu ha h3 (by rw [List.getElem?_append_left (flat_lt h4 hil hjn), flat_get h4 hi hjn]; exact hj)
theorem RowM.load_all {A : Mem} {e t : TypeId} {d : TypeDesc} {n b i : Nat} {ls : List (List Value)} {l : List Value} {x : Value} (h : RowM A e n b ls x) (hu : tb.und t = some d) (ha : isAggD d = true) (hs : sizeF tb t = .ok n) (hi : ls[i]? = some l) :
    loadF tb A.get t (.pointer (some ⟨b, i * n, none⟩)) = .ok (.agg ⟨l⟩) := by
  rcases h with ⟨rfl, rfl⟩ | ⟨k, c, ex, rfl, h2, ⟨cs, h5, h6⟩, h4, -⟩
  · simp at hi
  · have hl : l.length = n := h4 l (List.mem_of_getElem? hi)
    have hil : i < ls.length := (List.getElem?_eq_some_iff.1 hi).1
    have hg : cs.gets n (i * n) = some l := gets_eq _ _ _ _ hl fun j hj => by
      have hlt := flat_lt h4 hil hj
      rw [h6 (i * n + j) (by rw [List.length_append]; omega), List.getElem?_append_left hlt, flat_get h4 hi hj]
    unfold loadF
    simp only [h5, hu, ha, cond_true, hs, R.ok_bind, hg]
theorem RowM.cells {A : Mem} {e : TypeId} {n b : Nat} {ls : List (List Value)} {x : Value} (h : RowM A e n b ls x) : x.cells.toList = [x] ∧ oneCell x = true := by
  rcases h with ⟨rfl, -⟩ | ⟨k, c, ex, rfl, -⟩ <;> exact ⟨rfl, rfl⟩
theorem RowM.self {A : Mem} {e : TypeId} {n b : Nat} {ls : List (List Value)} {x : Value} (h : RowM A e n b ls x) (d : Nat) : sameV (d + 1) x x = true := by
  rcases h with ⟨rfl, -⟩ | ⟨k, c, ex, rfl, -⟩
  · rfl
  · exact sameV_slc _ _ _ _
/-- A beginning of it. -/
theorem RowM.cut {A : Mem} {e t t' : TypeId} {n m b : Nat} {ls : List (List Value)} {x : Value} (h : RowM A e n b ls x) (hu : tb.und t = some (.slice t')) (hs : sizeF tb t' = .ok n) (hm : m ≤ ls.length) :
    ∃ x', sliceF tb t x none (some (.int .i64 (m : Int))) none = .ok x' ∧ RowM A e n b (ls.take m) x' := by
  rcases h with ⟨rfl, rfl⟩ | ⟨k, c, ex, rfl, h2, h3, h4, h5, h6⟩
  · have hm0 : m = 0 := by simpa using hm
    subst hm0
    refine ⟨.slice none 0 0, ?_, .inl ⟨rfl, rfl⟩⟩
    have e1 : bound (some (.int .i64 ((0 : Nat) : Int))) 0 (capN 0) = .ok 0 := bound_some (Nat.zero_le _)
    unfold sliceF
    simp only [hu, e1, R.ok_bind, bound_none, hs]
  · have hl : (ls.take m).length = m := by rw [List.length_take]; omega
    have e1 : bound (some (.int .i64 (m : Int))) ls.length (capN c) = .ok m := bound_some (by omega)
    have hall : ∀ l ∈ ls.take m, l.length = n := fun l hl => h4 l (List.mem_of_mem_take hl)
    have hfl : ls.flatten ++ ex = (ls.take m).flatten ++ ((ls.drop m).flatten ++ ex) := by
      rw [← List.append_assoc, ← List.flatten_append, List.take_append_drop]
    rw [hfl] at h3
    cases hx : capX c && Nat.beq (capN c) 0 with
    | true =>
      have hc1 : capN c = 0 := Nat.eq_of_beq_eq_true (Bool.and_eq_true_iff.1 hx).2
      have hm0 : m = 0 := by omega
      subst hm0
      refine ⟨.slice (some ⟨b, 0, none⟩) 0 0, ?_, .inr ⟨k, 0, _, by rw [hl], h2, h3, hall, rfl, by rw [hl]; exact Nat.zero_le _⟩⟩
      unfold sliceF
      simp only [hu, e1, R.ok_bind, bound_none, hs, hx, cond_true, Nat.sub_zero]
    | false =>
      refine ⟨.slice (some ⟨b, 0, none⟩) m (capSub c 0), ?_, .inr ⟨k, _, _, by rw [hl], h2, h3, hall, ?_, by rw [capN_sub]; omega⟩⟩
      · unfold sliceF
        simp only [hu, e1, R.ok_bind, bound_none, hs, hx, cond_false, h5, cond_true, addA, Nat.zero_mul, Nat.add_zero, Nat.sub_zero]
      · unfold capFit
        unfold capFit at h5
        rw [capX_sub]
        cases hcx : capX c with
        | true => rfl
        | false =>
          rw [hcx, cond_false] at h5
          have he : capE c = n := Nat.eq_of_beq_eq_true h5
          have hlt : capE c < 65536 := Nat.mod_lt _ (by omega)
          unfold capSub
          rw [hcx, cond_false, cond_false, capE_mkX hlt, he]
          exact Nat.beq_refl n

/-- Some more, behind it. -/
theorem SlcM.appends {A : Mem} {st xt e : TypeId} {xd : TypeDesc} {i : TypeInfo} {z : List Value} {n m b : Nat} {ls nl : List (List Value)} {x y : Value} (h : SlcM A e n b ls x) (hst : tb.und st = some (.slice e)) (hxt : tb.und xt = some xd) (hxd : isIntD xd = false) (hz : zcellsF tb e = .ok (n, z)) (hi : tb.ty.get e = some i) (hib : 0 < i.bytes) (hib' : i.bytes ≤ 65536)
    (hn0 : 0 < n) (hn1 : n < 65536) (hls : ls.length + m ≤ 16777216) (hy : lenF y = .ok m) (hnew : firstF A.get n m y = .ok nl.flatten) (hm : nl.length = m) (hl : ∀ l ∈ nl, l.length = n) (h1c : ∀ v ∈ nl.flatten, oneCell v = true) :
    ∃ x' A' b', appendF tb A st xt x y = .ok (x', A') ∧ SlcM A' e n b' (ls ++ nl) x' ∧ A.next ≤ A'.next ∧ (b' = b ∨ A.next ≤ b') ∧ ∀ y, (y = b → x = .slice none 0 0) → y < A.next → A'.get y = A.get y := by
  subst hm
  by_cases h0 : nl.length = 0
  · have hnil : nl = [] := List.length_eq_zero_iff.1 h0
    subst hnil
    simp only [List.length_nil, List.flatten_nil] at hy hnew
    refine ⟨x, A, b, ?_, by rw [List.append_nil]; exact h, Nat.le_refl _, .inl rfl, fun _ _ _ => rfl⟩
    rcases h with ⟨rfl, rfl⟩ | ⟨k, c, rfl, h2, h3, h4, h5⟩
    · unfold appendF appendG
      simp only [hst, hxt, hxd, cond_false, hz, R.ok_bind, hy, hnew]
      rfl
    · have hc : ls.length ≤ capN c := by
        rcases h5 with rfl | ⟨rfl, _⟩
        · rw [capN_two]; exact Nat.le_refl _
        · rw [capN_mkX hn1]; exact Nat.le_refl _
      have hble : Nat.ble ls.length (capN c) = true := Nat.ble_eq_true_of_le hc
      have hst0 : ∀ a, storeAtF A a [] = .ok A := fun _ => rfl
      unfold appendF appendG
      simp only [hst, hxt, hxd, cond_false, hz, R.ok_bind, hy, hnew, Nat.add_zero, hble, cond_true, hst0]
  have hlim : (Nat.ble (ls.length + nl.length) 16777216 && Nat.ble i.bytes 65536 && Nat.blt 0 i.bytes && Nat.blt 0 n && Nat.blt n 65536) = true := by
    have a1 : Nat.ble (ls.length + nl.length) 16777216 = true := Nat.ble_eq_true_of_le (by omega)
    have a2 : Nat.ble i.bytes 65536 = true := Nat.ble_eq_true_of_le hib'
    have a3 : Nat.blt 0 i.bytes = true := by rw [Nat.blt_eq]; exact hib
    have a4 : Nat.blt 0 n = true := by rw [Nat.blt_eq]; exact hn0
    have a5 : Nat.blt n 65536 = true := by rw [Nat.blt_eq]; exact hn1
    rw [a1, a2, a3, a4, a5]; rfl
  have hfl : (ls ++ nl).flatten = ls.flatten ++ nl.flatten := by simp
  have hll : (ls ++ nl).length = ls.length + nl.length := List.length_append
  have fin : ∀ (k' : Kd) (A0 : Mem), A0.next = A.next → (∀ y, y ≠ b → A0.get y = A.get y) → (k' = .row ∨ k' = .mark) → (∀ l ∈ ls, l.length = n) →
      SlcM (A0.alloc (.cells e k' 0 (T.puts .e 0 (ls.flatten ++ nl.flatten)))) e n A.next (ls ++ nl) (.slice (some ⟨A.next, 0, none⟩) (ls.length + nl.length) (mkX (ls.length + nl.length) n)) ∧ A.next ≤ (A0.alloc (.cells e k' 0 (T.puts .e 0 (ls.flatten ++ nl.flatten)))).next ∧ ∀ y, y ≠ b → y < A.next → (A0.alloc (.cells e k' 0 (T.puts .e 0 (ls.flatten ++ nl.flatten)))).get y = A.get y := by
    intro k' A0 hn hg hk' hall
    refine ⟨.inr ⟨k', _, by rw [hll], by rw [next_alloc]; omega, vals_puts ?_, fun y hy => ?_, .inr ⟨by rw [hll], hk'⟩⟩, by rw [next_alloc, hn]; omega, fun y hy hlt => ?_⟩
    · rw [hfl, ← hn]; exact get_alloc_self _ _
    · rcases List.mem_append.1 hy with h | h
      · exact hall y h
      · exact hl y h
    · rw [get_alloc_ne (by omega), hg y hy]
  rcases h with ⟨rfl, rfl⟩ | ⟨k, c, rfl, h2, h3, h4, h5⟩
  · refine ⟨.slice (some ⟨A.next, 0, none⟩) (0 + nl.length) (mkX (0 + nl.length) n), A.alloc (.cells e .row 0 (T.puts .e 0 ([] ++ nl.flatten))), A.next, ?_, ?_⟩
    · unfold appendF appendG
      have hble : Nat.ble (0 + nl.length) (capN 0) = false := by
        cases hq : Nat.ble (0 + nl.length) (capN 0) with
        | false => rfl
        | true =>
          have hq2 := Nat.le_of_ble_eq_true hq
          have : capN 0 = 0 := rfl
          omega
      have hx : capX 0 = true := rfl
      have hel : elemsF A.get n 0 none = .ok [] := rfl
      simp only [List.length_nil] at hlim
      simp only [hst, hxt, hxd, cond_false, hz, R.ok_bind, hy, hnew, hble, hi, hlim, cond_true, hel, hx]
    · obtain ⟨f1, f2, -⟩ := fin .row A rfl (fun _ _ => rfl) (.inl rfl) (fun l h => by cases h)
      exact ⟨f1, f2, .inr (Nat.le_refl _), fun y _ hy => get_alloc_ne (by omega)⟩
  · have hel : elemsF A.get n ls.length (some ⟨b, 0, none⟩) = .ok ls.flatten := elemsF_valsN h3 (flat_len h4)
    obtain ⟨cs, hb', hcs⟩ := h3
    rcases h5 with rfl | ⟨rfl, hk⟩
    · have hx : capX (2 * ls.length) = true := capX_two _
      have hcn : capN (2 * ls.length) = ls.length := capN_two _
      have hble : Nat.ble (ls.length + nl.length) (capN (2 * ls.length)) = false := by
        rw [hcn]
        cases hq : Nat.ble (ls.length + nl.length) ls.length with
        | false => rfl
        | true => have := Nat.le_of_ble_eq_true hq; omega
      obtain ⟨f1, f2, f3⟩ := fin .row A rfl (fun _ _ => rfl) (.inl rfl) h4
      refine ⟨_, A.alloc (.cells e .row 0 (T.puts .e 0 (ls.flatten ++ nl.flatten))), A.next, ?_, f1, f2, .inr (Nat.le_refl _), fun y hy => f3 y (fun e => by cases hy e)⟩
      unfold appendF appendG
      simp only [hst, hxt, hxd, cond_false, hz, R.ok_bind, hy, hnew, hble, hi, hlim, cond_true, hel, hx]
    · have hble : Nat.ble (ls.length + nl.length) (capN (mkX ls.length n)) = false := by
        rw [capN_mkX hn1]
        cases hq : Nat.ble (ls.length + nl.length) ls.length with
        | false => rfl
        | true => have := Nat.le_of_ble_eq_true hq; omega
      have hx : capX (mkX ls.length n) = false := capX_mkX _ _
      have he : Nat.beq (capE (mkX ls.length n)) n = true := by rw [capE_mkX hn1]; simp
      have hall : nl.flatten.all oneCell = true := List.all_eq_true.2 h1c
      have hfz : (Nat.ble 0 (0 + ls.length * n) && (Nat.beq e e && Nat.blt 0 9223372036854775808)) = true := by
        have h0 : Nat.blt 0 9223372036854775808 = true := by rw [Nat.blt_eq]; omega
        rw [h0]; simp
      obtain ⟨f1, f2, f3⟩ := fin k (A.set b .dead) (next_set _ _ _) (fun y hy => by rw [get_setMem, if_neg hy]) hk h4
      refine ⟨_, (A.set b .dead).alloc (.cells e k 0 (T.puts .e 0 (ls.flatten ++ nl.flatten))), A.next, ?_, f1, f2, .inr (Nat.le_refl _), fun y hy => f3 y (fun e => by cases hy e)⟩
      unfold appendF appendG
      simp only [hst, hxt, hxd, cond_false, hz, R.ok_bind, hy, hnew, hble, hi, hlim, cond_true, hel, hx, he, hall, Bool.and_true, hb', hfz]
      rcases hk with rfl | rfl <;> rfl
theorem flat_ones (l : List Value) : (l.map fun v => [v]).flatten = l := by
  induction l with
  | nil => rfl
  | cons a l ih => simp only [List.map_cons, List.flatten_cons, ih, List.singleton_append]
theorem Slc.toM {A : Mem} {e : TypeId} {b : Nat} {l : List Value} {x : Value} (h : Slc A e b l x) : SlcM A e 1 b (l.map fun v => [v]) x := by
  rcases h with ⟨h1, rfl⟩ | ⟨k, c, h1, h2, h3, h4⟩
  · exact .inl ⟨h1, rfl⟩
  · refine .inr ⟨k, c, by rw [List.length_map]; exact h1, h2, by rw [flat_ones]; exact h3, fun l hl => ?_, by rw [List.length_map]; exact h4⟩
    obtain ⟨v, -, rfl⟩ := List.mem_map.1 hl
    rfl
theorem SlcM.toOne {A : Mem} {e : TypeId} {b : Nat} {l : List Value} {x : Value} (h : SlcM A e 1 b (l.map fun v => [v]) x) : Slc A e b l x := by
  rcases h with ⟨h1, h2⟩ | ⟨k, c, h1, h2, h3, _, h4⟩
  · exact .inl ⟨h1, List.map_eq_nil_iff.1 h2⟩
  · rw [List.length_map] at h1 h4
    rw [flat_ones] at h3
    exact .inr ⟨k, c, h1, h2, h3, h4⟩
theorem Slc.appends {A : Mem} {st xt e : TypeId} {xd : TypeDesc} {i : TypeInfo} {z : List Value} {m b : Nat} {l nl : List Value} {x y : Value} (h : Slc A e b l x) (hst : tb.und st = some (.slice e)) (hxt : tb.und xt = some xd) (hxd : isIntD xd = false) (hz : zcellsF tb e = .ok (1, z)) (hi : tb.ty.get e = some i) (hib : 0 < i.bytes) (hib' : i.bytes ≤ 65536)
    (hls : l.length + m ≤ 16777216) (hy : lenF y = .ok m) (hnew : firstF A.get 1 m y = .ok nl) (hm : nl.length = m) (h1c : ∀ v ∈ nl, oneCell v = true) :
    ∃ x' A' b', appendF tb A st xt x y = .ok (x', A') ∧ Slc A' e b' (l ++ nl) x' ∧ A.next ≤ A'.next ∧ (b' = b ∨ A.next ≤ b') ∧ ∀ y, (y = b → x = .slice none 0 0) → y < A.next → A'.get y = A.get y := by
  obtain ⟨x', A', b', h1, h2, h3⟩ := h.toM.appends (nl := nl.map fun v => [v]) hst hxt hxd hz hi hib hib' Nat.zero_lt_one (by omega) (by rw [List.length_map]; exact hls) hy (by rw [flat_ones]; exact hnew) (by rw [List.length_map]; exact hm) (fun l hl => by
    obtain ⟨v, -, rfl⟩ := List.mem_map.1 hl
    rfl) (by rw [flat_ones]; exact h1c)
  rw [← List.map_append] at h2
  exact ⟨x', A', b', h1, h2.toOne, h3⟩

/-! ### '==' of structs -/
theorem opF_eqlR {ih : Code → St → R (Ex × St)} {dst : Option Tmp} {ty : TypeId} {pos : String} {after : Array Edge} {g : Option (Nat × Bool)} {s : St} {k : St → R (Ex × St)} (t : TypeId) (x y : Operand) (r : TypeId) (h : basicD (tb.und t) = false) : opF tb ih { dst, op := .binOp .eql t x y r, type := ty, pos, after, guard := g } s k =
    (ev s.t x).bind fun a => (ev s.t y).bind fun b => (eqF tb s.m.get .eql t x y a b).bind fun v => putT s dst v k := by
  rw [opF_Rd (hc := by unfold cls; simp only [h, cond_false]) (hi := rfl)]
  simp only [rOp, R.bind_bind]
theorem opF_neqR {ih : Code → St → R (Ex × St)} {dst : Option Tmp} {ty : TypeId} {pos : String} {after : Array Edge} {g : Option (Nat × Bool)} {s : St} {k : St → R (Ex × St)} (t : TypeId) (x y : Operand) (r : TypeId) (h : basicD (tb.und t) = false) : opF tb ih { dst, op := .binOp .neq t x y r, type := ty, pos, after, guard := g } s k =
    (ev s.t x).bind fun a => (ev s.t y).bind fun b => (eqF tb s.m.get .neq t x y a b).bind fun v => putT s dst v k := by
  rw [opF_Rd (hc := by unfold cls; simp only [h, cond_false]) (hi := rfl)]
  simp only [rOp, R.bind_bind]
/-- The fields of a struct: is it named _, its type, its place. -/
def fieldsOf : Option TypeDesc → List (Bool × TypeId × Nat)
  | some (.struct fs) => fs.toList.map fun f => (f.name == "_", f.type, f.offset)
  | _ => []
def isStruct : Option TypeDesc → Bool
  | some (.struct _) => true
  | _ => false
noncomputable def fieldsEqS (tb : Tab) (eq : TypeId → Value → Value → R Bool) (xs ys : List Value) : List (Bool × TypeId × Nat) → R Bool
  | [] => .ok true
  | (n, t, o) :: fs => bif n then .no 85 else
    (partF tb t xs o).bind fun a => (partF tb t ys o).bind fun b => (eq t a b).bind fun
      | true => fieldsEqS tb eq xs ys fs
      | false => .ok false
theorem fieldsEq_S (eq : TypeId → Value → Value → R Bool) (xs ys : List Value) : ∀ fs : List Field, fieldsEq tb eq xs ys fs = fieldsEqS tb eq xs ys (fs.map fun f => (f.name == "_", f.type, f.offset))
  | [] => rfl
  | f :: fs => by
    have ih := fieldsEq_S eq xs ys fs
    show fieldsEq tb eq xs ys (f :: fs) = fieldsEqS tb eq xs ys ((f.name == "_", f.type, f.offset) :: fs.map fun f => (f.name == "_", f.type, f.offset))
    unfold fieldsEq fieldsEqS
    cases f.name == "_" with
    | true => rfl
    | false =>
      simp only [cond_false]
      cases partF tb f.type xs f.offset with
      | no _ => rfl
      | ok a =>
        cases partF tb f.type ys f.offset with
        | no _ => rfl
        | ok b =>
          simp only [R.ok_bind]
          cases eq f.type a b with
          | no _ => rfl
          | ok r => cases r with
            | true => exact ih
            | false => rfl
theorem equal_struct {g : Nat → Option Ob} {t : TypeId} {sh : List (Bool × TypeId × Nat)} (h1 : isStruct (tb.und t) = true) (h2 : fieldsOf (tb.und t) = sh) (h3 : tb.P.stoodInHeld t = false) (d : Nat) (xs ys : Array Value) :
    equalF tb g (d + 1) t (.agg xs) (.agg ys) = fieldsEqS tb (equalF tb g d) xs.toList ys.toList sh := by
  subst h2
  unfold equalF
  cases hu : tb.und t with
  | none => rw [hu] at h1; cases h1
  | some ds =>
    cases ds with
    | struct fs =>
      simp only [h3, cond_false]
      rw [fieldsEq_S]
      rfl
    | _ => rw [hu] at h1; cases h1
theorem equal_int {g : Nat → Option Ob} {t : TypeId} {k k' : IntKind} (h : tb.und t = some (.int k)) (d : Nat) (a b : Int) : equalF tb g (d + 1) t (.int k' a) (.int k' b) = .ok (decide (a = b)) := by
  unfold equalF
  have hk : kindEq k' k' = true := by cases k' <;> rfl
  simp only [h, hk, cond_true, ieqF_eq]
  rfl
theorem equal_str {g : Nat → Option Ob} {t : TypeId} (h : tb.und t = some .string) (d : Nat) (a b : List UInt8) : equalF tb g (d + 1) t (strOf a) (strOf b) = .ok (decide (a = b)) := by
  unfold equalF
  simp only [h, strOf, bytesEq_eq]
  congr 1
  rw [Bool.eq_iff_iff]; simp
theorem equal_bool {g : Nat → Option Ob} {t : TypeId} (h : tb.und t = some .bool) (d : Nat) (a b : Bool) : equalF tb g (d + 1) t (.bool a) (.bool b) = .ok (decide (a = b)) := by
  unfold equalF
  simp only [h]
  cases a <;> cases b <;> rfl
theorem part_one {t : TypeId} {cs : List Value} {o : Nat} {d : TypeDesc} {v : Value} (h : tb.und t = some d) (ha : isAggD d = false) (hv : cs[o]? = some v) : partF tb t cs o = .ok v := by
  unfold partF
  simp only [h, ha, cond_false, hv]
end Go.Am

/-
  The abstract machine AM, part 55: slices of plain values among a law's arguments, however many; the whole world as memory.
-/
namespace Go.Am
variable {tb : Tab} (ok : TabOk tb)

/-- Values that mean the same in every memory. -/
def plainV : Value → Bool
  | .int _ _ => true
  | .string _ => true
  | .bool _ => true
  | _ => false
theorem plain_VR {ι : Inj} {v : Value} (h : plainV v = true) : VR ι v v := by
  cases v <;> first | exact .int _ _ | exact .string _ | exact .bool _ | cases h
/-- The plain ones of some cells. -/
noncomputable def keepT : List Value → Nat → T Value → T Value
  | [], _, c => c
  | v :: l, i, c => keepT l (i + 1) (bif plainV v then c.set i v else c)
theorem keepT_get : ∀ (l : List Value) (i : Nat) (c : T Value) (j : Nat), (keepT l i c).get j = if i ≤ j ∧ j < i + l.length ∧ (l[j - i]?.map plainV) = some true then l[j - i]? else c.get j
  | [], i, c, j => by
    unfold keepT
    rw [if_neg (fun h => by
      have := h.2.1
      simp only [List.length_nil] at this
      omega)]
  | v :: l, i, c, j => by
    unfold keepT
    rw [keepT_get l (i + 1)]
    by_cases hj : j = i
    · subst hj
      rw [if_neg (by omega), Nat.sub_self, List.getElem?_cons_zero]
      cases hp : plainV v with
      | true => rw [cond_true, T.get_set, if_pos rfl, if_pos ⟨Nat.le_refl _, by simp, by simp [hp]⟩]
      | false => rw [cond_false, if_neg (fun h => by simp [hp] at h)]
    · have hc : (bif plainV v then c.set i v else c).get j = c.get j := by
        cases plainV v with
        | true => rw [cond_true, T.get_set, if_neg hj]
        | false => rfl
      rw [hc]
      by_cases hij : i + 1 ≤ j
      · have e : (v :: l)[j - i]? = l[j - (i + 1)]? := by
          rw [show j - i = (j - (i + 1)) + 1 by omega, List.getElem?_cons_succ]
        rw [e]
        simp only [List.length_cons]
        by_cases hx : j < i + 1 + l.length ∧ (l[j - (i + 1)]?.map plainV) = some true
        · rw [if_pos ⟨hij, hx.1, hx.2⟩, if_pos ⟨by omega, by omega, hx.2⟩]
        · rw [if_neg (fun h => hx h.2), if_neg (fun h => hx ⟨by omega, h.2.2⟩)]
      · rw [if_neg (fun h => hij h.1), if_neg (fun h => by omega)]
theorem keep_some {l : List Value} {j : Nat} {v : Value} (h : (keepT l 0 .e).get j = some v) : l[j]? = some v ∧ plainV v = true := by
  rw [keepT_get] at h
  split at h
  · rename_i hx
    rw [Nat.sub_zero] at h hx
    rw [h] at hx
    exact ⟨h, by simpa using hx.2.2⟩
  · rw [T.get_e] at h; cases h
theorem keep_get {l : List Value} {j : Nat} {v : Value} (h : l[j]? = some v) (hp : plainV v = true) : (keepT l 0 .e).get j = some v := by
  rw [keepT_get, Nat.sub_zero, if_pos ⟨Nat.zero_le _, by have := (List.getElem?_eq_some_iff.1 h).1; omega, by rw [h]; simp [hp]⟩, h]

/-! ### A world, as memory -/
noncomputable def wOb : Obj → Ob
  | .cells cs t fr => .cells t .row (2 * (9223372036854775808 + cs.size + fr.2 + 1)) (keepT cs.toList 0 .e)
  | _ => .dead
noncomputable def wMem (w : World) (n : Nat) : Mem := ⟨T.ofList (w.heap.toList.map wOb), w.heap.size + n⟩
/-- Each row is itself; and there are blocks of nothing, that lead somewhere. -/
def wInj (w : World) (ex : List (Option Loc)) (b : Nat) : Option Loc :=
  if b < w.heap.size then match w.heap[b]? with
    | some (.cells cs _ _) => some ⟨b, 0, cs.size⟩
    | _ => none
  else (ex[b - w.heap.size]?).join
theorem wMem_get (w : World) (n b : Nat) : (wMem w n).get b = (w.heap[b]?).map wOb := by
  show (T.ofList (w.heap.toList.map wOb)).get b = _
  rw [T.get_ofList, List.getElem?_map, Array.getElem?_toList]
theorem wInj_cells {w : World} {ex : List (Option Loc)} {b : Nat} {cs : Array Value} {t : TypeId} {fr : Nat × Nat} (h : w.heap[b]? = some (.cells cs t fr)) : wInj w ex b = some ⟨b, 0, cs.size⟩ := by
  unfold wInj
  rw [if_pos (Array.getElem?_eq_some_iff.1 h).1, h]
theorem wInj_get {w : World} {ex : List (Option Loc)} {b : Nat} {o : Ob} {l : Loc} (hg : (wMem w ex.length).get b = some o) (hl : wInj w ex b = some l) : ∃ cs t fr, w.heap[b]? = some (.cells cs t fr) ∧ o = wOb (.cells cs t fr) ∧ l = ⟨b, 0, cs.size⟩ := by
  rw [wMem_get] at hg
  cases hb : w.heap[b]? with
  | none => rw [hb] at hg; cases hg
  | some o' =>
    rw [hb] at hg
    have hlt := (Array.getElem?_eq_some_iff.1 hb).1
    unfold wInj at hl
    rw [if_pos hlt, hb] at hl
    cases o' with
    | cells cs t fr =>
      cases hl
      exact ⟨cs, t, fr, rfl, (Option.some.inj hg).symm, rfl⟩
    | _ => cases hl
theorem wRel (w : World) (ex : List (Option Loc)) (hex : ∀ l, some l ∈ ex → l.blk < w.heap.size) : Rel (wInj w ex) (wMem w ex.length) w := by
  refine ⟨fun b hb => ?_, fun b o l hg _ hl => ?_, fun b l hl => ?_, fun b b' l l' hb hb' hl hl' he => ?_, fun b t k c hb => ?_⟩
  · have hb' : w.heap.size + ex.length ≤ b := hb
    rw [wMem_get, Array.getElem?_eq_none (by omega)]; rfl
  · obtain ⟨cs, t, fr, h1, rfl, rfl⟩ := wInj_get hg hl
    refine ⟨_, h1, cs, fr, rfl, rfl, fun i v hv => ?_, ?_⟩
    · obtain ⟨h2, h3⟩ := keep_some hv
      rw [Array.getElem?_toList] at h2
      exact ⟨v, h2, plain_VR h3⟩
    · show fr.2 ≤ 0 + (2 * (9223372036854775808 + cs.size + fr.2 + 1))
      omega
  · unfold wInj at hl
    split at hl
    · rename_i hlt
      split at hl
      · cases hl; exact hlt
      · cases hl
    · cases hx : ex[b - w.heap.size]? with
      | none => rw [hx] at hl; cases hl
      | some ol =>
        rw [hx] at hl
        cases ol with
        | none => cases hl
        | some l0 =>
          cases hl
          exact hex _ (List.mem_of_getElem? hx)
  · obtain ⟨o, hg, _⟩ := hb
    obtain ⟨o', hg', _⟩ := hb'
    obtain ⟨_, _, _, _, _, rfl⟩ := wInj_get hg hl
    obtain ⟨_, _, _, _, _, rfl⟩ := wInj_get hg' hl'
    exact he
  · rw [wMem_get] at hb
    cases h : w.heap[b]? with
    | none => rw [h] at hb; cases hb
    | some o =>
      rw [h] at hb
      have h2 := Option.some.inj hb
      cases o with
      | cells cs t' fr =>
        have h3 : 2 * (9223372036854775808 + cs.size + fr.2 + 1) = GB k := by injection h2
        unfold GB at h3
        omega
      | _ => cases h2
include ok in
/-- A law that answers true on the abstract machine, on the whole world as memory. -/
theorem all_true {w : World} (ex : List (Option Loc)) (hex : ∀ l, some l ∈ ex → l.blk < w.heap.size) {f : FuncId} {fn : Func} {c : Code} (hf : tb.fn.get f = some fn) (hb : fn.body = some c) {args : List Value} {args' : Array Value} (ha : VRs (wInj w ex) args args'.toList)
    (hlaw : ∃ A', CallsTo tb f args (wMem w ex.length) (.bool true) A') : Calls tb.P f args' w fun e w' => e = .returned (.bool true) ∧ Leaves w w' := by
  intro cs
  obtain ⟨A', n, hc⟩ := hlaw
  obtain ⟨e, w', fr, ⟨ι', v', he, hv, hl⟩, st⟩ := call_still ok hc hf hb args' w (wRel w ex hex) ha (fun b hb => by
    have hb' : w.heap.size + ex.length ≤ b := hb
    unfold wInj
    rw [if_neg (by omega), List.getElem?_eq_none (by omega)]
    rfl) (fun b l hb hl => by
    obtain ⟨o, hg, _⟩ := hb
    obtain ⟨cs, t, fr, h1, rfl, rfl⟩ := wInj_get hg hl
    refine ⟨?_, t, _, _, hg, by omega, ?_⟩
    · show b < w.heap.size + ex.length
      have := (Array.getElem?_eq_some_iff.1 h1).1
      omega
    · show cs.size < 2 * (9223372036854775808 + cs.size + fr.2 + 1)
      omega) cs
  cases hv
  exact ⟨e, w', fr, ⟨he, hl⟩, st⟩

/-! ### A slice that came in -/
/-- In the model: len values of n plain cells each. -/
def ParWs (w : World) (n : Nat) (a : Option Addr) (len cap : Nat) (vs : List Value) : Prop :=
  (a = none ∧ len = 0 ∧ cap = 0) ∨
  ∃ x, a = some x ∧ x.spot = none ∧ x.block < w.heap.size ∧ len ≤ cap ∧ cap < 2 ^ 63 ∧ vs.length = cap * n ∧ (∀ (i : Nat) v, vs[i]? = some v → w.cell? (x.add i) = some v) ∧ ∀ v ∈ vs, plainV v = true
/-- On the abstract machine. -/
def ParG (A : Mem) (n len : Nat) (vs : List Value) (x : Value) : Prop :=
  (x = .slice none 0 0 ∧ len = 0) ∨
  ∃ q off, x = .slice (some ⟨q, off, none⟩) len (mkX len n) ∧ q < A.next ∧ (len * n = 0 ∨ ∃ t fz c, A.get q = some (.cells t .row fz c) ∧ ∀ i, i < len * n → ∃ v, vs[i]? = some v ∧ c.get (off + i) = some v)
def dumL (a : Option Addr) (cap n : Nat) : Option Loc := a.map fun x => ⟨x.block, x.off, x.off + cap * n⟩
theorem dum_lt {w : World} {n : Nat} {a : Option Addr} {len cap : Nat} {vs : List Value} (h : ParWs w n a len cap vs) {l : Loc} (hl : some l = dumL a cap n) : l.blk < w.heap.size := by
  rcases h with ⟨rfl, _⟩ | ⟨x, rfl, _, h, _⟩
  · cases hl
  · cases hl; exact h
theorem par_one {w : World} {n : Nat} {a : Option Addr} {len cap : Nat} {vs : List Value} (hn : n < 65536) (h : ParWs w n a len cap vs) {ex : List (Option Loc)} {j : Nat} (hj : ex[j]? = some (dumL a cap n)) :
    ∃ x, VR (wInj w ex) x (.slice a len cap) ∧ ParG (wMem w ex.length) n len vs x := by
  have hjl := (List.getElem?_eq_some_iff.1 hj).1
  rcases h with ⟨rfl, rfl, rfl⟩ | ⟨x, rfl, hsp, hblk, hlc, hcap, hlen, hcell, hpl⟩
  · exact ⟨.slice none 0 0, .slN, .inl ⟨rfl, rfl⟩⟩
  · obtain ⟨xb, xo, xs⟩ := x
    simp only at hsp hblk
    subst hsp
    by_cases h0 : len * n = 0
    · refine ⟨.slice (some ⟨w.heap.size + j, 0, none⟩) len (mkX len n), ?_, .inr ⟨_, _, rfl, by show w.heap.size + j < w.heap.size + ex.length; omega, .inl h0⟩⟩
      have h1 : capN (mkX len n) = len := capN_mkX hn
      have h2 : capE (mkX len n) = n := capE_mkX hn
      refine VR.slX (l := ⟨xb, xo, xo + cap * n⟩) (o' := xo) ?_ (capX_mkX _ _) (by rw [h1]; exact hlc) (by rw [h2]; exact Nat.le_refl _) (fun _ => by simp) hcap (by rw [h1]; exact Nat.le_refl _)
      unfold wInj
      rw [if_neg (by omega), Nat.add_sub_cancel_left, hj]
      rfl
    · have hpos : 0 < cap * n := by
        have hn0 : 0 < n := Nat.pos_of_ne_zero fun e => h0 (by rw [e, Nat.mul_zero])
        have hl0 : 0 < len := Nat.pos_of_ne_zero fun e => h0 (by rw [e, Nat.zero_mul])
        exact Nat.mul_pos (by omega) hn0
      have hle : len * n ≤ cap * n := Nat.mul_le_mul_right n hlc
      have hv : ∀ i, i < cap * n → ∃ v, vs[i]? = some v := fun i hi => ⟨_, List.getElem?_eq_getElem (show i < vs.length by omega)⟩
      have hc0 := hv 0 hpos
      obtain ⟨v0, hv0⟩ := hc0
      have hw0 := hcell 0 v0 hv0
      rw [Addr_add_mk] at hw0
      unfold World.cell? at hw0
      split at hw0
      · rename_i cs t fr hw
        have hw' : w.heap[xb]? = some (.cells cs t fr) := hw
        have hcs : ∀ i v, vs[i]? = some v → cs[xo + i]? = some v := by
          intro i v hi
          have h := hcell i v hi
          rw [Addr_add_mk] at h
          unfold World.cell? at h
          simp only [hw', Option.isSome_none, Bool.false_eq_true, if_false] at h
          exact h
        have hsz : xo + cap * n ≤ cs.size := by
          obtain ⟨v, hv⟩ := hv (cap * n - 1) (by omega)
          have := (Array.getElem?_eq_some_iff.1 (hcs _ _ hv)).1
          omega
        have h1 : capN (mkX len n) = len := capN_mkX hn
        have h2 : capE (mkX len n) = n := capE_mkX hn
        refine ⟨.slice (some ⟨xb, xo, none⟩) len (mkX len n), VR.slX (l := ⟨xb, 0, cs.size⟩) (o' := xo) (wInj_cells hw') (capX_mkX _ _) (by rw [h1]; exact hlc) (by rw [h2]; exact hsz) (fun _ => by simp) hcap (by rw [h1]; exact Nat.le_refl _), .inr ⟨xb, xo, rfl, by show xb < w.heap.size + ex.length; omega, .inr ⟨t, _, _, by rw [wMem_get, hw']; rfl, fun i hi => ?_⟩⟩⟩
        obtain ⟨v, hvi⟩ := hv i (by omega)
        refine ⟨v, hvi, keep_get ?_ (hpl v (List.mem_of_getElem? hvi))⟩
        rw [Array.getElem?_toList]
        exact hcs i v hvi
      · cases hw0
theorem ParW.toWs {k : IntKind} {w : World} {a : Option Addr} {len cap : Nat} {zs : List Int} (h : ParW k w a len cap zs) : ParWs w 1 a len cap (zs.map (.int k)) := by
  rcases h with ⟨h1, h2, h3, -⟩ | ⟨x, h1, h2, h3, h4, h5, h6, h7⟩
  · exact .inl ⟨h1, h2, h3⟩
  · refine .inr ⟨x, h1, h2, h3, h4, h5, by rw [List.length_map, h6, Nat.mul_one], fun i v hi => ?_, fun v hv => ?_⟩
    · have hl : i < zs.length := by
        have := (List.getElem?_eq_some_iff.1 hi).1
        rwa [List.length_map] at this
      rw [h7 i hl]
      rw [List.getElem?_map, List.getElem?_eq_getElem hl] at hi
      simp only [Option.map_some, Option.some.injEq] at hi
      rw [← hi]
      simp [List.getD, List.getElem?_eq_getElem hl]
    · obtain ⟨z, -, rfl⟩ := List.mem_map.1 hv
      rfl
end Go.Am

/-
  The abstract machine AM, part 56: nil checks; sums of any integers.
-/
namespace Go.Am
variable {tb : Tab}

def nilF (x : Value) : R Value := match x with
  | .pointer (some a) => .ok (.pointer (some a))
  | .iface a b => .ok (.iface a b)
  | .map a => .ok (.map a)
  | .func (.func f) a b => .ok (.func (.func f) a b)
  | .func (.yield f) a b => .ok (.func (.yield f) a b)
  | _ => .no 213
theorem nil_ptr (a : Addr) : nilF (.pointer (some a)) = .ok (.pointer (some a)) := rfl
theorem opF_nilCheck {ih : Code → St → R (Ex × St)} {dst : Option Tmp} {ty : TypeId} {pos : String} {after : Array Edge} {g : Option (Nat × Bool)} {s : St} {k : St → R (Ex × St)} (x : Operand) : opF tb ih { dst, op := .nilCheck x, type := ty, pos, after, guard := g } s k =
    (ev s.t x).bind fun a => (nilF a).bind fun v => putT s dst v k := by
  rw [opF_P (hc := rfl) (hi := rfl)]
  simp only [pOp, R.bind_bind]
  rfl
theorem op_addI {a b : Int} (h1 : -9223372036854775808 ≤ a + b) (h2 : a + b ≤ 9223372036854775807) : intOpF .add .i64 a b = .ok (.int .i64 (a + b)) := by
  show R.ok (Value.int .i64 (wrapF .i64 (a + b))) = _
  rw [wrapF_eq, wrap_in h1 h2]
theorem stores_in (m : Nat) : ∀ (vs : List Value) (i : Nat) (c : T Value), (∀ v ∈ vs, oneCell v = true) → (∀ j, j < vs.length → (∃ y, c.get (i + j) = some y) ∨ i + j < m) → storesF m 0 vs i c = .ok (c.puts i vs)
  | [], _, _, _, _ => rfl
  | v :: vs, i, c, h1, h2 => by
    unfold storesF
    have hb : (oneCell v && Nat.ble 0 i) = true := by rw [h1 v (List.mem_cons_self ..)]; simp
    have rest : storesF m 0 vs (Nat.succ i) (c.set i v) = .ok ((c.set i v).puts (Nat.succ i) vs) := stores_in m vs (i + 1) (c.set i v) (fun w hw => h1 w (List.mem_cons_of_mem _ hw)) fun j hj => by
      rw [T.get_set]
      by_cases e : i + 1 + j = i
      · omega
      · rw [if_neg e, show i + 1 + j = i + (j + 1) by omega]
        exact h2 (j + 1) (by simp; omega)
    rw [hb, cond_true]
    rcases h2 0 (by simp) with ⟨y, hy⟩ | hy
    · rw [Nat.add_zero] at hy
      rw [hy]
      exact rest
    · rw [Nat.add_zero] at hy
      have hlt : Nat.blt i m = true := by rw [Nat.blt_eq]; exact hy
      cases hc : c.get i with
      | some _ => exact rest
      | none => simp only [hlt, cond_true]; exact rest

end Go.Am

/-
  The abstract machine AM, part 60: a function that defers one closure, which recovers.
-/
namespace Go.Am
variable {tb : Tab} (ok : TabOk tb) {ι : Inj}

structure DefF where
  f : FuncId
  fn : Func
  c0 : Code
  id1 : Nat
  o1 : Oper
  od : Oper
  c2 : Code
  x : Tmp
  g : FuncId
  gf : Func
  id3 : Nat
  orc : Oper
  t : Tmp
  c3 : Code

structure DefOk (tb : Tab) (D : DefF) : Prop where
  hf : tb.fn.get D.f = some D.fn
  hb : D.fn.body = some (.seq D.c0 (.seq (.region D.id1 #[D.o1, D.od] false) D.c2))
  hod : D.od.op = .defer { callee := .value (.tmp D.x), args := #[], argTypes := #[] }
  go1 : D.o1.guard = none
  god : D.od.guard = none
  dod : D.od.dst = none
  hg : tb.fn.get D.g = some D.gf
  hgb : D.gf.body = some (.seq (.region D.id3 #[D.orc] false) D.c3)
  horc : D.orc.op = .call { callee := .builtin .recover, args := #[], argTypes := #[] }
  dorc : D.orc.dst = some D.t
  gorc : D.orc.guard = none
  ht : D.t < D.gf.ntmps
  hres : D.gf.results = #[]
  hng : (D.gf.name == "runtime.NumGoroutine") = false

/-- The deferred closure runs; what it recovers is 'rv'. -/
noncomputable def recF (tb : Tab) (D : DefF) (n : Nat) (cap : List Value) (rv : Value) (A : Mem) : R Mem :=
  bif Nat.ble cap.length D.gf.ntmps then
    (exec tb n D.c3 { t := (T.puts .e 0 cap).set D.t rv, n := D.gf.ntmps, d := [], m := A, ro := none }).bind fun (e, s) =>
    match e with
    | .pan _ => .no 710
    | .exit _ => .no 711
    | _ => takeF s.d s.m
  else .no 712

noncomputable def deferHook (tb : Tab) (D : DefF) (n : Nat) : List Value → Mem → R (Value × Mem) := fun args A =>
  bif Nat.ble args.length D.fn.ntmps then
    (exec tb n D.c0 { t := T.puts .e 0 args, n := D.fn.ntmps, d := [], m := A, ro := none }).bind fun (e0, s0) =>
    match e0 with
    | .nrm => (opF tb (exec tb n) D.o1 s0 fun s => .ok (.nrm, s)).bind fun (e1, s1) =>
      match e1, s1.d, s1.t.get D.x with
      | .nrm, [], some (.func (.func g') first cap) => bif Nat.beq g' D.g then
          (exec tb n D.c2 s1).bind fun (e2, s2) =>
          (match e2 with
            | .pan v => match s2.d with
              | [] => R.ok (v, s2.m)
              | _ => .no 701
            | .exit _ => .no 702
            | _ => (takeF s2.d s2.m).bind fun A1 => .ok (.nilIface, A1)).bind fun (rv, A1) =>
          (recF tb D n (first.toList ++ cap.toList) rv A1).bind fun A2 =>
          (resF tb s2.t A2.get D.fn.results.toList).bind fun vs => .ok (oneOf vs, A2)
        else .no 703
      | _, _, _ => .no 704
    | _ => .no 705
  else .no 706

theorem enter_atR_kind {P : Program} {f : FuncId} {fn : Func} {c : Code} (hf : P.funcs[f]? = some fn) (hb : fn.body = some c) (args : Array Value) (kd : CallKind) :
    Frame.enter P f args kd = (Frame.enter P f args kd).atR ⟨args ++ Array.replicate (fn.ntmps - args.size) undef, []⟩ [.code c] := by
  simp [Frame.enter, Frame.atR, hf, hb]

section steps
variable {P : Program} {b : Frame} {a : Act} {k : List Item} {cs : List Frame} {w w' : World} {ops : Array Oper} {i : Nat} {rest : List Nat} {o : Oper}

theorem stepR_op_defer {d : Deferred} (hr0 : b.roundOf = none) (ho : ops[i]? = some o) (hw : Region.wanted o (yielded ops a.tmps) = true) (hr : (execOp a.eval o).run P w = .ok (.defer d) w') (hd : o.dst = none) :
    step P (lone (b.atR a (.inRegion ops (i :: rest) :: k)) cs w) = .next (lone (b.atR { a with defers := d :: a.defers } (.inRegion ops rest :: k)) cs w') := by
  have hg := stepGR_op (P := P) (b := b) (k := k) (cs := cs) (w := w) (rest := rest) ho hw
  rw [hr0, Oper.semAt_none] at hg
  have hfin : ({ b.atR a (.inRegion ops (i :: rest) :: k) with defers := d :: a.defers } : Frame).finish undef = b.atR { a with defers := d :: a.defers } (.inRegion ops rest :: k) := by
    have := Frame.finish_atR b { a with defers := d :: a.defers } ops i rest k undef
    rw [ho] at this
    simp only [Option.bind_some, hd, Act.put] at this
    exact this
  refine step_lone_go ?_
  rw [hg]
  simp [stepG.apply, hr]
  exact hfin

theorem stepR_op_recover_no (hr0 : b.roundOf = none) (ho : ops[i]? = some o) (hw : Region.wanted o (yielded ops a.tmps) = true) (hr : (execOp a.eval o).run P w = .ok .recover w') (ht : tryRecover (b.atR a (.inRegion ops (i :: rest) :: k)) cs = none) :
    step P (lone (b.atR a (.inRegion ops (i :: rest) :: k)) cs w) = .next (lone (b.atR (a.put o.dst .nilIface) (.inRegion ops rest :: k)) cs w') := by
  have hg := stepGR_op (P := P) (b := b) (k := k) (cs := cs) (w := w) (rest := rest) ho hw
  rw [hr0, Oper.semAt_none] at hg
  have hfin : ∀ v, (b.atR a (.inRegion ops (i :: rest) :: k)).finish v = b.atR (a.put o.dst v) (.inRegion ops rest :: k) := by
    intro v; rw [Frame.finish_atR, ho]; rfl
  have hro : (b.atR a (.inRegion ops (i :: rest) :: k)).roundOf = none := hr0
  refine step_lone_go ?_
  rw [hg]
  simp [stepG.apply, hr, hro, ht, hfin]

theorem stepR_op_recover_yes {v : Value} {cs' : List Frame} (hr0 : b.roundOf = none) (ho : ops[i]? = some o) (hw : Region.wanted o (yielded ops a.tmps) = true) (hr : (execOp a.eval o).run P w = .ok .recover w') (ht : tryRecover (b.atR a (.inRegion ops (i :: rest) :: k)) cs = some (v, cs')) :
    step P (lone (b.atR a (.inRegion ops (i :: rest) :: k)) cs w) = .next (lone (b.atR (a.put o.dst v) (.inRegion ops rest :: k)) cs' w') := by
  have hg := stepGR_op (P := P) (b := b) (k := k) (cs := cs) (w := w) (rest := rest) ho hw
  rw [hr0, Oper.semAt_none] at hg
  have hfin : ∀ v, (b.atR a (.inRegion ops (i :: rest) :: k)).finish v = b.atR (a.put o.dst v) (.inRegion ops rest :: k) := by
    intro v; rw [Frame.finish_atR, ho]; rfl
  have hro : (b.atR a (.inRegion ops (i :: rest) :: k)).roundOf = none := hr0
  refine step_lone_go ?_
  rw [hg]
  simp [stepG.apply, hr, hro, ht, hfin]

/-- A deferred call begins. -/
theorem step_callDeferred {fr : Frame} {d : Deferred} {ds : List Deferred} {g : FuncId} {args : Array Value} (hd : fr.defers = d :: ds) (hmode : fr.mode = .returning ∨ ∃ ch, fr.mode = .panicking ch)
    (ht : ∃ t c, d.target = .fn t c) (hr : (invoke d.target d.args).run P w = .ok (.enter g args) w') :
    step P (lone fr cs w) = .next (lone (Frame.enter P g args .deferred) ({ fr with defers := ds } :: cs) w') := by
  obtain ⟨t, c, ht⟩ := ht
  obtain ⟨tg, as⟩ := d
  simp only at ht hr
  subst ht
  refine step_lone_go ?_
  rcases hmode with hm | ⟨ch, hm⟩
  · simp [stepG, unwind, hm, hd, callDeferred, hr]
  · simp [stepG, unwind, hm, hd, callDeferred, hr]

/-- A deferred call has come to its end. -/
theorem step_deferred_end {fr c : Frame} {fn : Func} {v : Value} (hm : fr.mode = .returning) (hd : fr.defers = []) (hk : fr.kind = .deferred) (hf : P.funcs[fr.fn]? = some fn) (hr : (results fn fr.tmps).run P w = .ok v w) :
    (c.mode = .returning → step P (lone fr (c :: cs) w) = .next (lone c cs w)) ∧
    (∀ x, c.mode = .panicking [{ v := x, recovered := true }] → step P (lone fr (c :: cs) w) = .next (lone { c with mode := .returning } cs w)) := by
  refine ⟨fun hc => step_lone_go ?_, fun x hc => step_lone_go ?_⟩
  · simp [stepG, unwind, hm, hd, hf, hr, doReturn, hk, hc]
  · simp [stepG, unwind, hm, hd, hf, hr, doReturn, hk, hc]
end steps

/-- Where a function's own code ends: it returns. -/
theorem arr_returns {P : Program} {b : Frame} {a : Act} {e : Ex} {k : List Item} {cs : List Frame} {w : World} (hb : b.roundOf = none) (he : e = .nrm ∨ e = .ret) (ha : Arr e [] k) :
    ∃ todo, Steps P (lone (b.atR a k) cs w) (lone { b.atR ⟨a.tmps, a.defers⟩ todo with mode := .returning } cs w) := by
  rcases he with rfl | rfl
  · cases (show k = [] from ha)
    exact ⟨[], .one (stepR_end hb)⟩
  · obtain ⟨k2, rfl⟩ := ha
    exact ⟨_, .one (stepR_ret hb)⟩

variable {D : DefF} (hD : DefOk tb D)
include ok hD in
theorem recF_sound {n : Nat} {cap : List Value} {rv : Value} {A A2 : Mem} (h : recF tb D n cap rv A = .ok A2) :
    A.next ≤ A2.next ∧ ∀ (ι : Inj) (w : World) (cap' : Array Value) (rv' : Value) (fr : Frame) (cs : List Frame), Rel ι A w → VRs ι cap cap'.toList → VR ι rv rv' → Free ι A A2 →
      (fr.mode = .returning ∧ rv' = .nilIface ∨ fr.mode = .panicking [{ v := rv', recovered := false }]) →
      ∃ ι' w', Steps tb.P (lone (Frame.enter tb.P D.g cap' .deferred) (fr :: cs) w) (lone { fr with mode := .returning } cs w') ∧ Rel ι' A2 w' ∧ Stp ι A w ι' A2 w' := by
  have hg' := ok.fn _ _ hD.hg
  unfold recF at h
  cases hnb : Nat.ble cap.length D.gf.ntmps with
  | false => rw [hnb] at h; cases h
  | true =>
  rw [hnb, cond_true] at h
  have hn := Nat.le_of_ble_eq_true hnb
  obtain ⟨⟨e, s1⟩, h1, h2⟩ := R.bind_ok h
  have he : (e = .nrm ∨ e = .ret) ∧ takeF s1.d s1.m = .ok A2 := by
    cases e with
    | pan _ => cases h2
    | exit _ => cases h2
    | nrm => exact ⟨.inl rfl, h2⟩
    | ret => exact ⟨.inr rfl, h2⟩
  obtain ⟨he, h4⟩ := he
  have hnx := takeF_next h4
  rcases exec_sound ok n _ _ _ _ h1 with ⟨v, rfl, _⟩ | ⟨hle, hc⟩
  · rcases he with he | he <;> cases he
  refine ⟨by rw [hnx]; exact hle, fun ι w cap' rv' fr cs hr ha hrv hfree hmode => ?_⟩
  have hfree' : Free ι A s1.m := fun b h1 h2 => hfree b h1 (by rw [hnx]; exact h2)
  have hent := enter_atR_kind hg' hD.hgb cap' .deferred
  have hro : (Frame.enter tb.P D.g cap' .deferred).roundOf = none := rfl
  have hkd : (Frame.enter tb.P D.g cap' .deferred).kind = .deferred := rfl
  have hdf : (Frame.enter tb.P D.g cap' .deferred).defers = [] := rfl
  have hfn : (Frame.enter tb.P D.g cap' .deferred).fn = D.g := rfl
  generalize Frame.enter tb.P D.g cap' .deferred = b at hent hro hkd hdf hfn
  let a0 : Act := ⟨cap' ++ Array.replicate (D.gf.ntmps - cap'.size) undef, []⟩
  have hops : (#[D.orc] : Array Oper)[0]? = some D.orc := rfl
  have hwant : ∀ y, Region.wanted D.orc y = true := fun y => by unfold Region.wanted; rw [hD.gorc]
  have hrun : (execOp a0.eval D.orc).run tb.P w = .ok .recover w := by
    simp only [execOp, hD.horc, resolve, Sem.run_bind, Sem.run_pure, Result.andThen_ok, invoke, builtin]
  have s0 : Steps tb.P (lone b (fr :: cs) w) (lone (b.atR a0 (.inRegion #[D.orc] [0] :: [.code D.c3])) (fr :: cs) w) := by
    rw [hent]
    refine .head stepR_seq (.head stepR_region ?_)
    exact .refl _ _
  obtain ⟨fr1, s1', hfr1⟩ : ∃ fr1, Steps tb.P (lone (b.atR a0 (.inRegion #[D.orc] [0] :: [.code D.c3])) (fr :: cs) w) (lone (b.atR (a0.put D.orc.dst rv') [.code D.c3]) (fr1 :: cs) w) ∧
      (fr.mode = .returning ∧ fr1 = fr ∨ fr1 = { fr with mode := .panicking [{ v := rv', recovered := true }] }) := by
    rcases hmode with ⟨hm, rfl⟩ | hm
    · refine ⟨fr, .head (stepR_op_recover_no hro hops (hwant _) hrun ?_) (.one stepR_region_end), .inl ⟨hm, rfl⟩⟩
      simp [tryRecover, Frame.atR, hkd, hm]
    · refine ⟨_, .head (stepR_op_recover_yes hro hops (hwant _) hrun ?_) (.one stepR_region_end), .inr rfl⟩
      simp [tryRecover, Frame.atR, hkd, hm]
  have hs0 : SR ι { t := (T.puts .e 0 cap).set D.t rv, n := D.gf.ntmps, d := [], m := A, ro := none } b (a0.put D.orc.dst rv') w := by
    refine ⟨hr, ?_, hro, ?_⟩
    · rw [hD.dorc]
      exact (TR.args ha hn).set hD.ht hrv
    · rw [hD.dorc]
      exact hdf.symm
  obtain ⟨ι1, w1, a1, k1, st1, ha1, hs1, hss1⟩ := hc ι b _ [] (fr1 :: cs) w hs0 hfree'
  obtain ⟨todo, st2⟩ := arr_returns (P := tb.P) (a := a1) (cs := fr1 :: cs) (w := w1) hro he ha1
  obtain ⟨w2, st3, hrel2, hst2⟩ := take_steps tb.P (b := b) (t := a1.tmps) (todo := todo) (cs := fr1 :: cs) h4 hs1.dr hs1.rel
  obtain ⟨vr, hres, -⟩ := results_sound ok hrel2 hs1.tr (fn := D.gf) (vs := []) (by rw [hD.hres]; rfl)
  obtain ⟨e1, e2⟩ := step_deferred_end (P := tb.P) (cs := cs) (w := w2) (fr := { b.atR ⟨a1.tmps, b.defers⟩ todo with mode := .returning }) (c := fr1) (fn := D.gf) rfl hdf hkd (by show tb.P.funcs[b.fn]? = _; rw [hfn]; exact hg') hres
  refine ⟨ι1, w2, (((s0.trans s1').trans st1).trans st2).trans (st3.trans ?_), hrel2, hss1.stp.trans hst2⟩
  rcases hfr1 with ⟨hm, rfl⟩ | rfl
  · have : ({ fr1 with mode := .returning } : Frame) = fr1 := by rw [← hm]
    rw [this]
    exact .one (e1 hm)
  · exact .one (e2 rv' rfl)

include ok hD in
theorem defer_ok (n : Nat) : HookOk tb.P D.f (deferHook tb D n) := by
  intro args A v A' h
  have hf' := ok.fn _ _ hD.hf
  have hg' := ok.fn _ _ hD.hg
  have hih := exec_sound ok n
  unfold deferHook at h
  cases hnb : Nat.ble args.length D.fn.ntmps with
  | false => rw [hnb] at h; cases h
  | true =>
  rw [hnb, cond_true] at h
  have hn := Nat.le_of_ble_eq_true hnb
  obtain ⟨⟨e0, s0⟩, h0, h⟩ := R.bind_ok h
  cases e0 with
  | exit _ => cases h
  | ret => cases h
  | pan _ => cases h
  | nrm =>
  obtain ⟨⟨e1, s1⟩, h1, h⟩ := R.bind_ok h
  simp only at h
  split at h
  case h_2 => cases h
  rename_i g' first cap hd1 hx
  cases hgg : Nat.beq g' D.g with
  | false => rw [hgg] at h; cases h
  | true =>
  rw [hgg, cond_true] at h
  obtain rfl := Nat.eq_of_beq_eq_true hgg
  obtain ⟨⟨e2, s2⟩, h2, h⟩ := R.bind_ok h
  obtain ⟨⟨rv, A1⟩, h3, h⟩ := R.bind_ok h
  obtain ⟨A2, h4, h⟩ := R.bind_ok h
  obtain ⟨vs, h5, h⟩ := R.bind_ok h
  simp only [R.ok.injEq, Prod.mk.injEq] at h
  obtain ⟨rfl, rfl⟩ := h
  -- the three pieces of code
  rcases hih _ _ _ _ h0 with ⟨v, he, _⟩ | ⟨hle0, c0⟩
  · cases he
  rcases opF_sound ok (callSnd ok hih) (ops := #[D.o1, D.od]) (i := 0) h1 with ⟨v, s, he, _⟩ | ⟨s, he, hle1, c1⟩
  · cases he
  cases he
  have hnA2 : A1.next ≤ A2.next := (recF_sound ok hD h4).1
  have hrec := (recF_sound ok hD h4).2
  have hle2 : s1.m.next ≤ A1.next ∧ A1.next = s2.m.next := by
    rcases hih _ _ _ _ h2 with ⟨v, rfl, hp⟩ | hc
    · simp only at h3
      split at h3
      · simp only [R.ok.injEq, Prod.mk.injEq] at h3
        rw [← h3.2]; exact ⟨hp.1, rfl⟩
      · cases h3
    · cases e2 with
      | pan v =>
        simp only at h3
        split at h3
        · simp only [R.ok.injEq, Prod.mk.injEq] at h3
          rw [← h3.2]; exact ⟨hc.1, rfl⟩
        · cases h3
      | exit _ => cases h3
      | nrm =>
        obtain ⟨A3, h6, h7⟩ := R.bind_ok h3
        simp only [R.ok.injEq, Prod.mk.injEq] at h7
        rw [← h7.2, takeF_next h6]; exact ⟨hc.1, rfl⟩
      | ret =>
        obtain ⟨A3, h6, h7⟩ := R.bind_ok h3
        simp only [R.ok.injEq, Prod.mk.injEq] at h7
        rw [← h7.2, takeF_next h6]; exact ⟨hc.1, rfl⟩
  have hn0 : A.next ≤ s0.m.next := hle0
  refine ⟨by omega, fun ι w args' hr ha hfree fr0 cs0 => ?_⟩
  have hent := enter_atR_kind hf' hD.hb args' .normal
  have hro : (Frame.enter tb.P D.f args' .normal).roundOf = none := rfl
  have hkd : (Frame.enter tb.P D.f args' .normal).kind = .normal := rfl
  have hdf : (Frame.enter tb.P D.f args' .normal).defers = [] := rfl
  have hfn : (Frame.enter tb.P D.f args' .normal).fn = D.f := rfl
  generalize Frame.enter tb.P D.f args' .normal = b at hent hro hkd hdf hfn
  -- the cells
  have hs : SR ι { t := T.puts .e 0 args, n := D.fn.ntmps, d := [], m := A, ro := none } b ⟨args' ++ Array.replicate (D.fn.ntmps - args'.size) undef, []⟩ w :=
    ⟨hr, TR.args ha hn, hro, hdf.symm⟩
  obtain ⟨ι0, w0, a0, k0, st0, ha0, hs0, hss0⟩ := c0 ι b _ [.code (.seq (.region D.id1 #[D.o1, D.od] false) D.c2)] (fr0 :: cs0) w hs (fun x h1 h2 => hfree x h1 (by omega))
  cases (show k0 = _ from ha0)
  have st0' : Steps tb.P (lone b (fr0 :: cs0) w) (lone (b.atR a0 (.inRegion #[D.o1, D.od] [0, 1] :: [.code D.c2])) (fr0 :: cs0) w0) := by
    rw [hent]
    exact (Steps.head stepR_seq st0).trans (.head stepR_seq (.one stepR_region))
  -- the closure
  have hw1 : ∀ y, Region.wanted D.o1 y = true := fun y => by unfold Region.wanted; rw [hD.go1]
  have hw2 : ∀ y, Region.wanted D.od y = true := fun y => by unfold Region.wanted; rw [hD.god]
  have hF0 : Free ι0 s0.m s1.m := Free.right (fun x h1 h2 => hfree x h1 (by have : A1.next = s2.m.next := hle2.2; omega)) hss0.stp
  obtain ⟨ι1, w1, a1, st1, hs1, hss1⟩ := c1 ι0 b a0 [.code D.c2] (fr0 :: cs0) w0 [1] hs0 hF0 (hw1 _) rfl
  obtain ⟨v', hv1, hv2⟩ := hs1.tr.2 _ _ hx
  cases hv2 with
  | func _ hfirst hcap =>
  rename_i first' cap' hny
  have hev : a1.eval (.tmp D.x) = .func (.func D.g) first' cap' := by
    simp only [Act.eval, Array.getD_eq_getD_getElem?, hv1, Option.getD_some]
  obtain ⟨dt, hdt1, hdt2⟩ : ∃ dt : Deferred, (execOp a1.eval D.od).run tb.P w1 = .ok (.defer dt) w1 ∧ (∃ t c, dt.target = .fn t c) ∧ ∀ u : World, (invoke dt.target dt.args).run tb.P u = .ok (.enter D.g (first' ++ cap')) u := by
    refine ⟨{ target := .fn (.func D.g) cap', args := first' ++ #[] }, ?_, ⟨_, _, rfl⟩, fun u => ?_⟩
    · have e0 : (#[] : Array Operand).map a1.eval = #[] := by simp
      simp only [execOp, hD.hod, resolve, hev, Deferred.ofValue, Sem.run_bind, Sem.run_pure, Result.andThen_ok, e0]
    · simp only [invoke, callFunc, Sem.run_bind, run_program, Result.andThen_ok, hg', hD.hng, hD.hgb, Option.isNone_some, Bool.false_eq_true, if_false, Sem.run_pure, Array.append_empty]
  have hd0 : a1.defers = [] := by
    have := hs1.dr
    rw [hd1, hdf] at this
    exact this
  let a2 : Act := { a1 with defers := dt :: a1.defers }
  let b2 : Frame := { b with defers := [dt] }
  have st2 : Steps tb.P (lone (b.atR a1 (.inRegion #[D.o1, D.od] [1] :: [.code D.c2])) (fr0 :: cs0) w1) (lone (b2.atR a2 [.code D.c2]) (fr0 :: cs0) w1) :=
    .head (stepR_op_defer hro rfl (hw2 _) hdt1 hD.dod) (.one stepR_region_end)
  have hsb : SR ι1 s1 b2 a2 w1 := ⟨hs1.rel, hs1.tr, hs1.ro, by
    rw [hd1]
    show dt :: a1.defers = [dt]
    rw [hd0]⟩
  have hStp1 : Stp ι A w ι1 s1.m w1 := hss0.stp.trans hss1.stp
  have hF1 : Free ι1 s1.m s2.m := Free.right (fun x h1 h2 => hfree x h1 (by have : A1.next = s2.m.next := hle2.2; omega)) hStp1
  have hpre := (st0'.trans st1).trans st2
  -- what comes when the frame unwinds
  have tail : ∀ (ι2 : Inj) (w2 : World) (a3 : Act) (k3 : List Item) (md : FrameMode) (rv' : Value), Rel ι2 A1 w2 → TR ι2 s2.n s2.t a3.tmps → Stp ι1 s1.m w1 ι2 A1 w2 → InjLe ι1 ι2 → VR ι2 rv rv' →
      (md = .returning ∧ rv' = .nilIface ∨ md = .panicking [{ v := rv', recovered := false }]) →
      ∃ ι' w' v', Steps tb.P (lone { b2.atR { a3 with defers := [dt] } k3 with mode := md } (fr0 :: cs0) w2) (lone (fr0.finish v') cs0 w') ∧ VR ι' (oneOf vs) v' ∧ Rel ι' A2 w' ∧ Stp ι A w ι' A2 w' := by
    intro ι2 w2 a3 k3 md rv' hrel htr hst hle hrv hmd
    have hStp2 : Stp ι A w ι2 A1 w2 := hStp1.trans hst
    have hF2 : Free ι2 A1 A2 := Free.right hfree hStp2
    have hcaps : VRs ι2 (first.toList ++ cap.toList) (first' ++ cap').toList := by
      have h1 := VRs.mono hle hfirst
      have h2 := VRs.mono hle hcap
      rw [Array.toList_append]
      generalize first.toList = l1 at h1
      generalize first'.toList = l2 at h1
      clear hfirst
      induction l1 generalizing l2 with
      | nil => cases h1; exact h2
      | cons x l1 ih =>
        cases h1 with
        | cons hx hl => exact .cons hx (ih _ hl)
    obtain ⟨ι3, w3, st3, hrel3, hst3⟩ := hrec ι2 w2 (first' ++ cap') rv' { b2.atR { a3 with defers := [] } k3 with mode := md } (fr0 :: cs0) hrel hcaps hrv hF2 hmd
    have stc : step tb.P (lone { b2.atR { a3 with defers := [dt] } k3 with mode := md } (fr0 :: cs0) w2) = .next (lone (Frame.enter tb.P D.g (first' ++ cap') .deferred) ({ b2.atR { a3 with defers := [] } k3 with mode := md } :: fr0 :: cs0) w2) :=
      step_callDeferred rfl (by
        rcases hmd with ⟨rfl, _⟩ | rfl
        · exact .inl rfl
        · exact .inr ⟨_, rfl⟩) hdt2.1 (hdt2.2 w2)
    have hle3 : InjLe ι2 ι3 := hst3.le hF2
    obtain ⟨v', e1, hv⟩ := results_sound ok hrel3 (htr.mono hle3) (fn := D.fn) h5
    have hlv : Frame.leaving tb.P { b2.atR { a3 with defers := [] } k3 with mode := .returning } w3 (.returned v') := ⟨rfl, rfl, hkd, D.fn, by show tb.P.funcs[b.fn]? = _; rw [hfn]; exact hf', e1⟩
    exact ⟨ι3, w3, v', .head stc (st3.trans (.one (step_leave_returned hlv))), hv, hrel3, hStp2.trans hst3⟩
  rcases hih _ _ _ _ h2 with ⟨v, rfl, hle, hp⟩ | ⟨hle, hc⟩
  · simp only at h3
    split at h3
    case h_2 => cases h3
    rename_i hd2
    simp only [R.ok.injEq, Prod.mk.injEq] at h3
    obtain ⟨rfl, rfl⟩ := h3
    obtain ⟨ι2, w2, a3, k3, v3, st3, hv3, hs3, hss3⟩ := hp ι1 b2 a2 [] (fr0 :: cs0) w1 hsb hF1
    have hd3 : a3.defers = [dt] := by
      have := hs3.dr
      rw [hd2] at this
      exact this
    obtain ⟨ι', w', v', st4, r1, r2, r3⟩ := tail ι2 w2 a3 k3 _ v3 hs3.rel hs3.tr hss3.stp (hss3.stp.le hF1) hv3 (.inr rfl)
    have ea : ({ a3 with defers := [dt] } : Act) = a3 := by rw [← hd3]
    rw [ea] at st4
    exact ⟨ι', w', v', (hpre.trans st3).trans st4, r1, r2, r3⟩
  · have he : (e2 = .nrm ∨ e2 = .ret) ∧ takeF s2.d s2.m = .ok A1 ∧ rv = .nilIface := by
      cases e2 with
      | pan v =>
        obtain ⟨ι2, w2, a3, k3, _, ha, _⟩ := hc ι1 b2 a2 [] (fr0 :: cs0) w1 hsb hF1
        exact ha.elim
      | exit _ => cases h3
      | nrm =>
        obtain ⟨A3, h6, h7⟩ := R.bind_ok h3
        simp only [R.ok.injEq, Prod.mk.injEq] at h7
        exact ⟨.inl rfl, by rw [h6, h7.2], h7.1.symm⟩
      | ret =>
        obtain ⟨A3, h6, h7⟩ := R.bind_ok h3
        simp only [R.ok.injEq, Prod.mk.injEq] at h7
        exact ⟨.inr rfl, by rw [h6, h7.2], h7.1.symm⟩
    obtain ⟨he, h6, rfl⟩ := he
    obtain ⟨ι2, w2, a3, k3, st3, ha3, hs3, hss3⟩ := hc ι1 b2 a2 [] (fr0 :: cs0) w1 hsb hF1
    obtain ⟨todo, st4⟩ := arr_returns (P := tb.P) (b := b2) (a := a3) (cs := fr0 :: cs0) (w := w2) hro he ha3
    obtain ⟨w3, st5, hrel3, hst3⟩ := take_steps tb.P (b := b2) (t := a3.tmps) (todo := todo) (cs := fr0 :: cs0) h6 hs3.dr hs3.rel
    obtain ⟨ι', w', v', st6, r1, r2, r3⟩ := tail ι2 w3 a3 todo _ .nilIface hrel3 hs3.tr (hss3.stp.trans hst3) (hss3.stp.le hF1) .nilIface (.inl ⟨rfl, rfl⟩)
    exact ⟨ι', w', v', (((hpre.trans st3).trans st4).trans st5).trans st6, r1, r2, r3⟩

end Go.Am

/-
  The abstract machine AM, part 62: the same runs, told apart by one case distinction for each operation and each piece of code (for the kernel's sake).
-/
namespace Go.Am
abbrev OpK := Tab → (Code → St → R (Ex × St)) → Oper → St → (St → R (Ex × St)) → R (Ex × St)

/-! ### Short ways -/
noncomputable def bX {α β : Type} (x : R α) (f : α → R β) : R β := @R.rec α (fun _ => R β) f (fun w => .no w) x
theorem bX_eq {α β : Type} (x : R α) (f : α → R β) : bX x f = x.bind f := by cases x <;> rfl
noncomputable def evT {β : Type} (i : Tmp) (t : T Value) (k : Value → R β) : R β := @Option.rec Value (fun _ => R β) (.no 200) k (t.get i)
noncomputable def evC {β : Type} (v : Value) (_ : T Value) (k : Value → R β) : R β := @Bool.rec (fun _ => R β) (.no 199) (k v) (constOk 3 v)
noncomputable def evFn {β : Type} (f : FuncId) (_ : T Value) (k : Value → R β) : R β := k (.func (.func f) ⟨[]⟩ ⟨[]⟩)
noncomputable def evK {β : Type} (t : T Value) (x : Operand) (k : Value → R β) : R β :=
  @Operand.rec (fun _ => T Value → (Value → R β) → R β) evT evC (fun _ _ _ => .no 201) evFn x t k
theorem evK_eq {β : Type} (t : T Value) (x : Operand) (k : Value → R β) : evK t x k = (ev t x).bind k := by
  cases x with
  | tmp i =>
    show @Option.rec Value (fun _ => R β) (.no 200) k (t.get i) = R.bind (match t.get i with | some v => .ok v | none => .no 200) k
    cases t.get i <;> rfl
  | const v =>
    show @Bool.rec (fun _ => R β) (.no 199) (k v) (constOk 3 v) = R.bind (bif constOk 3 v then .ok v else .no 199) k
    cases constOk 3 v <;> rfl
  | func f => rfl
  | global g => rfl
noncomputable def putD (d : Tmp) (s : St) (v : Value) (k : St → R (Ex × St)) : R (Ex × St) :=
  @St.rec (fun _ => R (Ex × St)) (fun t n dd m ro => @Bool.rec (fun _ => R (Ex × St)) (.no 250) (k ⟨t.set d v, n, dd, m, ro⟩) (Nat.blt d n)) s
noncomputable def putM (s : St) (dst : Option Tmp) (v : Value) (k : St → R (Ex × St)) : R (Ex × St) :=
  @Option.rec Tmp (fun _ => St → Value → (St → R (Ex × St)) → R (Ex × St)) (fun s _ k => k s) putD dst s v k
theorem putM_eq (s : St) (dst : Option Tmp) (v : Value) (k : St → R (Ex × St)) : putM s dst v k = putT s dst v k := by
  cases dst with
  | none => rfl
  | some d =>
    obtain ⟨t, n, dd, m, ro⟩ := s
    show @Bool.rec (fun _ => R (Ex × St)) (.no 250) (k ⟨t.set d v, n, dd, m, ro⟩) (Nat.blt d n) = (bif Nat.blt d n then fVal v fun v => k ⟨t.set d v, n, dd, m, ro⟩ else .no 250)
    rw [fVal_eq]
    cases Nat.blt d n <;> rfl
noncomputable def putX (s : St) (dst : Option Tmp) (v : Value) (k : St → R (Ex × St)) : R (Ex × St) := fVal v fun v => putM s dst v k
theorem putX_eq (s : St) (dst : Option Tmp) (v : Value) (k : St → R (Ex × St)) : putX s dst v k = putT s dst v k := by
  unfold putX; rw [fVal_eq, putM_eq]

noncomputable def xSlow : OpK := fun tb ih o s k => opF tb ih o s k
noncomputable def xMove (x : Operand) : OpK := fun _ _ o s k => evK s.t x fun v => putM s o.dst v k
noncomputable def xPick (c a b : Operand) : OpK := fun _ _ o s k => evK s.t c fun c => bX (pickF s.t c a b) fun v => putX s o.dst v k
noncomputable def xAlloc (t : TypeId) : OpK := fun tb _ o s k => bX (zeroF tb t) fun z => putX { s with m := s.m.alloc (rowOb t z.cells.toList) } o.dst (Way.ptr.at s.m.next) k
noncomputable def xBox (t : TypeId) (x : Operand) : OpK := fun _ _ o s k => evK s.t x fun v => putX { s with m := s.m.alloc (rowOb t v.cells.toList) } o.dst (Way.ptr.at s.m.next) k
noncomputable def ldF (tb : Tab) (s : St) (t : TypeId) (x : Operand) : R Value :=
  match x with
  | .global k => (globF s.m.get k).bind fun x => loadF tb s.m.get t x
  | x => evK s.t x fun x => loadF tb s.m.get t x
noncomputable def xLoad (t : TypeId) (x : Operand) : OpK := fun tb _ o s k => bX (ldF tb s t x) fun v => putX s o.dst v k
noncomputable def xStore (t : TypeId) (x v : Operand) : OpK := fun tb _ o s k => evK s.t x fun x => evK s.t v fun v => bX (storeF tb s.m t x v) fun A => putM { s with m := A } o.dst unitV k
def xNilF (x : Value) : R Value :=
  match x with
  | .pointer (some a) => .ok (.pointer (some a))
  | .iface a b => .ok (.iface a b)
  | .map a => .ok (.map a)
  | .func (.func f) a b => .ok (.func (.func f) a b)
  | .func (.yield f) a b => .ok (.func (.yield f) a b)
  | _ => .no 213
noncomputable def xNil (x : Operand) : OpK := fun _ _ o s k => evK s.t x fun x => bX (xNilF x) fun v => putM s o.dst v k
noncomputable def xBin (op : BinOp) (t : TypeId) (x y : Operand) : OpK := fun tb ih o s k =>
  @Bool.rec (fun _ => R (Ex × St)) (opF tb ih o s k) (evK s.t x fun a => evK s.t y fun b => bX (binF op (tb.und t) a b) fun v => putX s o.dst v k) (isArith op)
noncomputable def xFieldAddr (t : TypeId) (x : Operand) (i : Nat) : OpK := fun tb _ o s k => evK s.t x fun a => bX (fieldAddrF tb t a i) fun v => putX s o.dst v k
noncomputable def xField (t : TypeId) (x : Operand) (i : Nat) : OpK := fun tb _ o s k => evK s.t x fun a => bX (fieldF tb t a i) fun v => putX s o.dst v k
noncomputable def ixF (tb : Tab) (s : St) (t : TypeId) (x y : Operand) : R Value :=
  match x with
  | .global k => (globF s.m.get k).bind fun x => (ev s.t y).bind fun i => indexAddrF tb t x i
  | x => evK s.t x fun x => evK s.t y fun i => indexAddrF tb t x i
noncomputable def xIndexAddr (t : TypeId) (x y : Operand) : OpK := fun tb _ o s k => bX (ixF tb s t x y) fun v => putX s o.dst v k
noncomputable def xIndex (t : TypeId) (x y : Operand) : OpK := fun tb _ o s k => evK s.t x fun a => evK s.t y fun b => bX (indexF tb t a b) fun v => putX s o.dst v k
noncomputable def xExtract (x : Operand) (i : Nat) : OpK := fun _ _ o s k => evK s.t x fun a => bX (extractF a i) fun v => putX s o.dst v k
noncomputable def xUn (op : UnOp) (x : Operand) : OpK := fun _ _ o s k => evK s.t x fun a => bX (unF op a) fun v => putX s o.dst v k
noncomputable def xBuild (t : TypeId) (ps : Array (Nat × Operand)) : OpK := fun tb _ o s k => bX (evp s.t ps.toList) fun ps => bX (buildF tb t ps) fun v => putX s o.dst v k
noncomputable def xCallK (o : Oper) (s : St) (k : St → R (Ex × St)) (r : Res) : R (Ex × St) :=
  match r with
  | .val v A => putX { s with m := A } o.dst v k
  | .pan v A => .ok (.pan v, { s with m := A })
def isBuiltin : Callee → Bool
  | .builtin _ => true
  | _ => false
noncomputable def xCall (c : Call) : OpK := fun tb ih o s k =>
  bif isBuiltin c.callee then opF tb ih o s k else bX (clOf tb s.t s.m.get c) fun cl => bX (callF tb ih cl s.m) fun r => xCallK o s k r

noncomputable def opX (o : Op) : OpK :=
  @Op.rec (fun _ => OpK) xMove xMove xPick xAlloc xBox xBuild (fun _ _ _ => xSlow) (fun _ _ _ _ => xSlow) xLoad xStore (fun _ => xSlow) (fun _ => xSlow) xNil (fun op t x y _ => xBin op t x y)
   (fun op _ x => xUn op x) (fun _ _ _ => xSlow) (fun _ _ => xSlow) (fun _ _ => xSlow) (fun _ _ _ => xSlow) (fun _ _ => xSlow) (fun _ _ => xSlow) (fun _ _ _ => xSlow) (fun _ _ _ _ _ => xSlow) xFieldAddr xField xIndexAddr xIndex (fun _ _ _ _ => xSlow) (fun _ _ _ _ => xSlow)
   (fun _ _ _ => xSlow) (fun _ _ _ _ => xSlow) (fun _ _ => xSlow) (fun _ _ => xSlow) (fun _ => xSlow) (fun _ _ _ _ => xSlow) xExtract xCall (fun _ => xSlow) (fun _ => xSlow) (fun _ => xSlow) (fun _ _ => xSlow) (fun _ _ _ => xSlow) (fun _ _ => xSlow) o

theorem opX_eq (tb : Tab) (ih : Code → St → R (Ex × St)) (o : Oper) (s : St) (k : St → R (Ex × St)) : opX o.op tb ih o s k = opF tb ih o s k := by
  obtain ⟨dst, op, ty, pos, after, g⟩ := o
  cases op with
  | move x => show xMove x tb ih _ s k = _; unfold xMove; simp only [evK_eq, putM_eq]; rfl
  | assign x => show xMove x tb ih _ s k = _; unfold xMove; simp only [evK_eq, putM_eq]; rfl
  | pick c a b => rw [opF_pick]; show xPick c a b tb ih _ s k = _; unfold xPick; simp only [evK_eq, bX_eq, putX_eq]
  | alloc t => rw [opF_alloc]; show xAlloc t tb ih _ s k = _; unfold xAlloc; simp only [bX_eq, putX_eq]
  | box t x => rw [opF_box]; show xBox t x tb ih _ s k = _; unfold xBox; simp only [evK_eq, putX_eq]
  | build t ps => rw [opF_build]; show xBuild t ps tb ih _ s k = _; unfold xBuild; simp only [bX_eq, putX_eq]
  | load t x =>
    rw [opF_Rd _ _ _ _ _ _ _ rfl rfl]
    show xLoad t x tb ih _ s k = _; unfold xLoad ldF; simp only [evK_eq, bX_eq, putX_eq]
    cases x <;> rfl
  | store t x v => rw [opF_store]; show xStore t x v tb ih _ s k = _; unfold xStore; simp only [evK_eq, bX_eq, putM_eq]
  | nilCheck x =>
    rw [opF_P _ _ _ _ _ _ _ rfl rfl]
    show xNil x tb ih _ s k = _; unfold xNil; simp only [evK_eq, bX_eq, putM_eq, pOp, R.bind_bind]
    rfl
  | binOp op t x y r =>
    show xBin op t x y tb ih _ s k = _
    unfold xBin
    cases h : isArith op with
    | false => rfl
    | true => rw [opF_ari _ _ _ _ _ _ _ _ _ _ _ _ h]; simp only [evK_eq, bX_eq, putX_eq]
  | unOp op t x => rw [opF_un]; show xUn op x tb ih _ s k = _; unfold xUn; simp only [evK_eq, bX_eq, putX_eq]
  | fieldAddr t x i => rw [opF_fieldAddr]; show xFieldAddr t x i tb ih _ s k = _; unfold xFieldAddr; simp only [evK_eq, bX_eq, putX_eq]
  | field t x i => rw [opF_field]; show xField t x i tb ih _ s k = _; unfold xField; simp only [evK_eq, bX_eq, putX_eq]
  | indexAddr t x y =>
    show xIndexAddr t x y tb ih _ s k = _; unfold xIndexAddr ixF; simp only [evK_eq, bX_eq, putX_eq]
    cases x with
    | global n => rw [opF_Rd _ _ _ _ _ _ _ rfl rfl]; rfl
    | _ => rw [opF_P _ _ _ _ _ _ _ rfl rfl]; rfl
  | index t x y => rw [opF_index]; show xIndex t x y tb ih _ s k = _; unfold xIndex; simp only [evK_eq, bX_eq, putX_eq]
  | extract x i => rw [opF_extract]; show xExtract x i tb ih _ s k = _; unfold xExtract; simp only [evK_eq, bX_eq, putX_eq]
  | call c =>
    obtain ⟨callee, args, ts⟩ := c
    show xCall _ tb ih _ s k = _; unfold xCall xCallK; simp only [bX_eq, putX_eq]
    cases callee <;> rfl
  | _ => rfl

section
variable (tb : Tab) (ih : Code → St → R (Ex × St))
noncomputable def runX (ops : List Oper) (l : List Oper) : St → R (Ex × St) :=
  List.rec (motive := fun _ => St → R (Ex × St)) (fun s => .ok (.nrm, s))
    (fun o _ next s => @Option.rec (Nat × Bool) (fun _ => R (Ex × St)) (opX o.op tb ih o s next) (fun _ => (wantF ops o s.t).bind fun w => bif w then opX o.op tb ih o s next else putT s o.dst unitV next) o.guard) l
theorem runX_eq (ops : List Oper) : ∀ l, runX tb ih ops l = runOps tb ih ops l
  | [] => rfl
  | o :: l => by
    funext s
    show @Option.rec (Nat × Bool) (fun _ => R (Ex × St)) (opX o.op tb ih o s (runX tb ih ops l)) (fun _ => (wantF ops o s.t).bind fun w => bif w then opX o.op tb ih o s (runX tb ih ops l) else putT s o.dst unitV (runX tb ih ops l)) o.guard = _
    rw [runX_eq ops l, opX_eq]
    show _ = (wantF ops o s.t).bind fun w => bif w then opF tb ih o s (runOps tb ih ops l) else putT s o.dst unitV (runOps tb ih ops l)
    cases hg : o.guard with
    | none => unfold wantF; rw [hg]; rfl
    | some g => rfl
end
noncomputable def regionX (tb : Tab) (ih : Code → St → R (Ex × St)) (ops : List Oper) (draw : Bool) (s : St) : R (Ex × St) :=
  bif draw then regionF tb ih ops true s else runX tb ih ops ops s
theorem regionX_eq (tb : Tab) (ih : Code → St → R (Ex × St)) (ops : List Oper) (draw : Bool) (s : St) : regionX tb ih ops draw s = regionF tb ih ops draw s := by
  cases draw with
  | true => rfl
  | false => show runX tb ih ops ops s = _; rw [runX_eq]; rfl

abbrev CoK := Tab → (Code → St → R (Ex × St)) → St → R (Ex × St)
def xSeqK (ih : Code → St → R (Ex × St)) (b : Code) (p : Ex × St) : R (Ex × St) :=
  match p.1 with
  | .nrm => ih b p.2
  | e => .ok (e, p.2)
def xCondK (ih : Code → St → R (Ex × St)) (a b : Code) (s : St) (v : Value) : R (Ex × St) :=
  match v with
  | .bool true => ih a s
  | .bool false => ih b s
  | _ => .no 330
def xBlockK (id : Nat) (p : Ex × St) : R (Ex × St) :=
  match p.1 with
  | .exit i => bif Nat.beq i id then .ok (.nrm, p.2) else .ok (.exit i, p.2)
  | e => .ok (e, p.2)
noncomputable def xSeq (a b : Code) : CoK := fun _ ih s => bX (ih a s) (xSeqK ih b)
noncomputable def xCond (c : Operand) (a b : Code) : CoK := fun _ ih s => evK s.t c (xCondK ih a b s)
noncomputable def xBlock (id : Nat) (c : Code) : CoK := fun _ ih s => bX (ih c s) (xBlockK id)
noncomputable def xLoop (c : Code) : CoK := fun _ ih s => bX (ih c s) (xSeqK ih (.loop c))
noncomputable def xRegion (ops : Array Oper) (draw : Bool) : CoK := fun tb ih s => regionX tb ih ops.toList draw s
noncomputable def xOk (e : Ex) : CoK := fun _ _ s => .ok (e, s)
noncomputable def xRangeFunc (f : Operand) (ps : Array Tmp) (a b : Code) : CoK := fun tb ih s => rangeFuncF tb ih f ps.toList a b 0 s
noncomputable def stepX (c : Code) : CoK :=
  @Code.rec (fun _ => CoK) (xOk .nrm) (fun _ ops draw => xRegion ops draw) (fun a b _ _ => xSeq a b) (fun c a b _ _ => xCond c a b) (fun id c _ => xBlock id c) (fun c _ => xLoop c) (fun f ps a b _ _ => xRangeFunc f ps a b)
    (fun id => xOk (.exit id)) (fun c _ _ ih s => ih c s) (fun _ => xOk .nrm) (fun _ _ _ _ => .no 331) (xOk .ret) (fun _ _ _ _ => .no 332) c
theorem stepX_eq (tb : Tab) (ih : Code → St → R (Ex × St)) (c : Code) (s : St) : stepX c tb ih s = stepC tb ih c s := by
  cases c with
  | region id ops draw => exact regionX_eq ..
  | seq a b => exact bX_eq ..
  | cond c a b => exact evK_eq ..
  | block id c => exact bX_eq ..
  | loop c => exact bX_eq ..
  | _ => rfl

noncomputable def execX (tb : Tab) (n : Nat) : Code → St → R (Ex × St) :=
  Nat.rec (motive := fun _ => Code → St → R (Ex × St)) (fun _ _ => .no 0) (fun _ ih c s => stepX c tb ih s) n
theorem execX_eq (tb : Tab) : ∀ n, execX tb n = exec tb n
  | 0 => rfl
  | n + 1 => by
    funext c s
    show stepX c tb (execX tb n) s = stepC tb (exec tb n) c s
    rw [execX_eq tb n, stepX_eq]
noncomputable def callX (tb : Tab) (n : Nat) (f : FuncId) (args : List Value) (A : Mem) : R Res :=
  match tb.fn.get f with
  | none => .no 400
  | some fn => match fn.body with
    | none => .no 401
    | some c => bodyF tb (execX tb n) fn c args A
theorem callX_eq (tb : Tab) (n : Nat) (f : FuncId) (args : List Value) (A : Mem) : callX tb n f args A = call tb n f args A := by
  unfold callX call
  rw [execX_eq]
  rfl

/-- A function of no arguments that was seen to answer true: it does so wherever it is called, and leaves no trace. -/
def spTrue (args : List Value) : Option Value :=
  match args with
  | [] => some (.bool true)
  | _ => none
theorem know_true {tb : Tab} (ok : TabOk tb) {f : FuncId} {fn : Func} {c : Code} (hf : tb.fn.get f = some fn) (hb : fn.body = some c) {n : Nat} (h : isTrue (callX tb n f [] mem0) = true) : TabOk (tb.know f (pureHook spTrue)) := by
  refine know_ok ok (hook_pure ok hf hb fun args v hv => ?_)
  cases args with
  | cons x l => cases hv
  | nil =>
    cases hv
    refine ⟨fun x hx => (List.not_mem_nil hx).elim, rfl, n, ?_⟩
    rw [callX_eq] at h
    cases hr : call tb n f [] mem0 with
    | no _ => rw [hr] at h; cases h
    | ok r =>
      rw [hr] at h
      cases r with
      | pan v A => cases h
      | val v A =>
        cases v with
        | bool b => have hb' : b = true := h; subst hb'; exact ⟨A, rfl⟩
        | _ => cases h
end Go.Am

/-
  The abstract machine AM, part 63: a first memory in which package-level variables lie whose one cell is not looked at.
-/
namespace Go.Am

/-! ### What a condition on such a variable says of the world -/
theorem laid_mem {P : Program} {w : World} {n : String} {d : DataW Unit} : ∀ {l : List (String × DataW Unit)} {ps : List MemPlace}, DataW.LaidVars P w l ps → (n, d) ∈ l →
    ∃ g t cs fuel p, P.globalNamed n = some g ∧ (P.globals[g]?).map (·.type) = some t ∧ w.var? P n = some cs ∧ DataW.trod (fun _ => ()) P w 0 (fun _ => true) false fuel t cs.toList = some (d, p) ∧ ∀ x ∈ MemPlace.row ⟨g, 0, none⟩ cs.size, x ∈ ps
  | [], _, _, h => by cases h
  | (n', d') :: r, ps, hl, h => by
    obtain ⟨g, t, cs, fuel, p, q, h1, h2, h3, h4, h5, rfl⟩ := hl
    rcases List.mem_cons.1 h with e | h
    · cases e
      exact ⟨g, t, cs, fuel, p, h1, h2, h3, h4, fun x hx => List.mem_append_left _ (List.mem_append_left _ hx)⟩
    · obtain ⟨g', t', cs', fuel', p', k1, k2, k3, k4, k5⟩ := laid_mem h5 h
      exact ⟨g', t', cs', fuel', p', k1, k2, k3, k4, fun x hx => List.mem_append_right _ (k5 x hx)⟩

/-- A variable of one cell, not marked. -/
def OneAt (w : World) (g : Nat) : Prop := ∃ v t, w.heap[g]? = some (.cells #[v] t (0, 0)) ∧ oneCell v = true
theorem laid_iface {P : Program} {w : World} {l : List (String × DataW Unit)} (h : laidMet P l w) {n nm : String} {d : DataW Unit} (hx : (n, DataW.iface nm d) ∈ l) {g : Nat} {t : TypeId} {ms : Array (String × TypeId)} (hg : P.globalNamed n = some g)
    (ht : (P.globals[g]?).map (·.type) = some t) (hi : P.underlying t = some (.interface ms)) : OneAt w g := by
  obtain ⟨ps, hl, _, hrows⟩ := h
  obtain ⟨g', t', cs, fuel, p, h1, h2, h3, h4, h5⟩ := laid_mem hl hx
  rw [hg] at h1
  cases h1
  rw [ht] at h2
  cases h2
  obtain ⟨_, u, v, hcs, _, _⟩ := iface_of_trod hi h4
  have hc : cs = #[.iface u v] := by rw [← Array.toArray_toList (xs := cs), hcs]
  subst hc
  obtain ⟨⟨c, tt, e⟩, _⟩ := hrows g 0 (h5 _ (by simp [MemPlace.row]))
  unfold World.var? at h3
  rw [hg, Option.bind_some, e] at h3
  simp only [Option.some.injEq] at h3
  subst h3
  exact ⟨_, tt, e, rfl⟩

/-! ### The first memory -/
noncomputable def globOb (t : TypeId) (k : Nat) : Ob := .cells t .row (GB k) ((T.e : T Value).set 0 (.chan (some 0)))
noncomputable def globHeap (ts : Nat → TypeId) : List Nat → T Ob
  | [] => .e
  | k :: l => (globHeap ts l).set k (globOb (ts k) k)
noncomputable def globMem (ts : Nat → TypeId) (l : List Nat) (n : Nat) : Mem := ⟨globHeap ts l, n⟩
theorem globHeap_get (ts : Nat → TypeId) (b : Nat) : ∀ l, (globHeap ts l).get b = if b ∈ l then some (globOb (ts b) b) else none
  | [] => by simp [globHeap, T.get_e]
  | k :: l => by
    rw [globHeap, T.get_set, globHeap_get ts b l]
    by_cases h : b = k
    · subst h; simp
    · simp [h]
def globInj (l : List Nat) : Inj := fun b => if b ∈ l then some ⟨b, 0, 1⟩ else none
theorem globInj_some {l : List Nat} {b : Nat} {c : Loc} (h : globInj l b = some c) : b ∈ l ∧ c = ⟨b, 0, 1⟩ := by
  unfold globInj at h
  split at h
  · cases h; exact ⟨‹_›, rfl⟩
  · cases h
theorem glob_rel {w : World} {l : List Nat} {n : Nat} (hn : ∀ k ∈ l, k < n) {ts : Nat → TypeId} (h : ∀ k ∈ l, ∃ v, w.heap[k]? = some (.cells #[v] (ts k) (0, 0)) ∧ oneCell v = true) : Rel (globInj l) (globMem ts l n) w := by
  have hget : ∀ b, (globMem ts l n).get b = if b ∈ l then some (globOb (ts b) b) else none := fun b => globHeap_get ts b l
  refine ⟨fun b hb => ?_, fun b o c hb ha hc => ?_, fun b c hc => ?_, fun b b' c c' _ _ hc hc' he => ?_, fun b t k c hb => ?_⟩
  · rw [hget, if_neg]
    intro hx
    have h1 := hn b hx
    have h2 : n ≤ b := hb
    omega
  · obtain ⟨hb', rfl⟩ := globInj_some hc
    rw [hget, if_pos hb'] at hb
    cases hb
    obtain ⟨v, e, h1⟩ := h b hb'
    refine ⟨_, e, #[v], (0, 0), rfl, rfl, fun i x hx => ?_, Nat.zero_le _⟩
    rw [T.get_set] at hx
    split at hx
    · rename_i hi
      subst hi
      cases hx
      exact ⟨v, rfl, .unk h1⟩
    · rw [T.get_e] at hx; cases hx
  · obtain ⟨hb', rfl⟩ := globInj_some hc
    obtain ⟨v, e, _⟩ := h b hb'
    exact (Array.getElem?_eq_some_iff.1 e).1
  · obtain ⟨_, rfl⟩ := globInj_some hc
    obtain ⟨_, rfl⟩ := globInj_some hc'
    exact he
  · rw [hget] at hb
    split at hb
    · rename_i hb'
      simp only [globOb, Option.some.injEq, Ob.cells.injEq, GB] at hb
      have hk : k = b := by omega
      subst hk
      exact ⟨⟨k, 0, 1⟩, by unfold globInj; rw [if_pos hb'], rfl, rfl, by show 1 ≤ _; omega⟩
    · cases hb

variable {tb : Tab} (ok : TabOk tb)
include ok in
/-- A law without arguments that answers true over such a memory, whatever type the rows are marked with. -/
theorem glob_true {n N : Nat} {l : List Nat} (hn : ∀ k ∈ l, k < N) {f : FuncId} (h : ∀ ts, isTrue (call tb n f [] (globMem ts l N)) = true) {fn : Func} {c : Code} (hf : tb.fn.get f = some fn) (hb : fn.body = some c) (w : World) (hw : ∀ k ∈ l, OneAt w k) :
    Calls tb.P f #[] w fun e w' => e = .returned (.bool true) ∧ Leaves w w' := by
  intro cs
  let ts : Nat → TypeId := fun k => match w.heap[k]? with
    | some (.cells _ t _) => t
    | _ => 0
  have hrel : Rel (globInj l) (globMem ts l N) w := glob_rel hn fun k hk => by
    obtain ⟨v, t, e, h1⟩ := hw k hk
    have : ts k = t := by show (match w.heap[k]? with | some (.cells _ t _) => t | _ => 0) = t; rw [e]
    exact ⟨v, by rw [this]; exact e, h1⟩
  have h0 := h ts
  cases hr : call tb n f [] (globMem ts l N) with
  | no _ => rw [hr] at h0; cases h0
  | ok r =>
    rw [hr] at h0
    cases r with
    | pan v A => cases h0
    | val v A =>
      cases v with
      | bool b =>
        have hb' : b = true := h0
        subst hb'
        obtain ⟨e, w', fr, ⟨ι', v', he, hv, hl⟩, st⟩ := call_still ok hr hf hb #[] w hrel .nil (fun b hb => by
          unfold globInj
          rw [if_neg]
          intro hx
          have h1 := hn b hx
          have h2 : N ≤ b := hb
          omega) (fun b c _ hc => by
          obtain ⟨hb', rfl⟩ := globInj_some hc
          refine ⟨hn b hb', ts b, GB b, _, (globHeap_get ts b l).trans (if_pos hb'), by unfold GB; omega, by show 1 < GB b; unfold GB; omega⟩) cs
        cases hv
        exact ⟨e, w', fr, ⟨he, hl⟩, st⟩
      | _ => cases h0
end Go.Am

/-
  The abstract machine AM, part 61: code whose outcome is open (the order of a map's keys): one of several outcomes comes.
-/
namespace Go.Am
variable {tb : Tab} (ok : TabOk tb) {P : Program} {N : Nat}

/-- Nothing is known of blocks that are not there yet, up to a number. -/
def Top (N : Nat) (ι : Inj) (A : Mem) : Prop := ∀ x, A.next ≤ x → x < N → ι x = none
theorem Top.free {N : Nat} {ι : Inj} {A A' : Mem} (h : Top N ι A) (hn : A'.next ≤ N) : Free ι A A' := fun x h1 h2 => h x h1 (Nat.lt_of_lt_of_le h2 hn)
theorem Top.stp {N : Nat} {ι ι' : Inj} {A A' : Mem} {w w' : World} (h : Top N ι A) (k : Stp ι A w ι' A' w') : Top N ι' A' := fun x hx hn => by
  rw [k.out x (.inr hx)]
  exact h x (Nat.le_trans k.next hx) hn
theorem Top.le {N : Nat} {ι ι' : Inj} {A A' : Mem} {w w' : World} (h : Top N ι A) (hn : A'.next ≤ N) (k : Stp ι A w ι' A' w') : InjLe ι ι' := k.le (h.free hn)

/-- A piece of code comes to one of some ends. -/
def RC (N : Nat) (P : Program) (c : Code) (s : St) (Q : Ex → St → Prop) : Prop :=
  ∀ (ι : Inj) (b : Frame) (a : Act) (k : List Item) (cs : List Frame) (w : World), SR ι s b a w → Top N ι s.m →
    ∃ e s1 ι' w' a' k', Q e s1 ∧ s1.m.next ≤ N ∧ Steps P (lone (b.atR a (.code c :: k)) cs w) (lone (b.atR a' k') cs w') ∧ Arr e k k' ∧ SR ι' s1 b a' w' ∧ SStp ι s w ι' s1 w'

/-- A call comes to one of some answers. -/
def RCall (N : Nat) (P : Program) (cl : Cl) (A : Mem) (Q : Value → Mem → Prop) : Prop :=
  ∀ (ι : Inj) (w : World) (s : Sem Next) (fr : Frame) (cs : List Frame), Rel ι A w → ClR P ι w cl s → Top N ι A →
    ∃ v A' ι' w' v', Q v A' ∧ A'.next ≤ N ∧ CallDone P s w v' w' fr cs ∧ VR ι' v v' ∧ Rel ι' A' w' ∧ Stp ι A w ι' A' w'

/-- Operations come to one of some states. -/
def ROps (N : Nat) (P : Program) (ops : Array Oper) (l : List Nat) (s : St) (Q : St → Prop) : Prop :=
  ∀ (ι : Inj) (b : Frame) (a : Act) (k : List Item) (cs : List Frame) (w : World), SR ι s b a w → Top N ι s.m →
    ∃ s1 ι' w' a', Q s1 ∧ s1.m.next ≤ N ∧ Steps P (lone (b.atR a (.inRegion ops l :: k)) cs w) (lone (b.atR a' (.inRegion ops [] :: k)) cs w') ∧ SR ι' s1 b a' w' ∧ SStp ι s w ι' s1 w'

theorem RC.mono {c : Code} {s : St} {Q Q' : Ex → St → Prop} (h : RC N P c s Q) (hq : ∀ e s1, Q e s1 → Q' e s1) : RC N P c s Q' := fun ι b a k cs w hs ht => by
  obtain ⟨e, s1, ι', w', a', k', h1, h2⟩ := h ι b a k cs w hs ht
  exact ⟨e, s1, ι', w', a', k', hq _ _ h1, h2⟩

theorem RC.of_snd {c : Code} {s s1 : St} {e : Ex} {Q : Ex → St → Prop} (h : CodeSnd P c s e s1) (hn : s1.m.next ≤ N) (hq : Q e s1) : RC N P c s Q := fun ι b a k cs w hs ht => by
  obtain ⟨ι', w', a', k', h1, h2, h3, h4⟩ := h.2 ι b a k cs w hs (ht.free hn)
  exact ⟨e, s1, ι', w', a', k', hq, hn, h1, h2, h3, h4⟩

include ok in
theorem RC.of_exec {n : Nat} {c : Code} {s s1 : St} {e : Ex} {Q : Ex → St → Prop} (h : exec tb n c s = .ok (e, s1)) (he : ∀ v, e ≠ .pan v) (hn : s1.m.next ≤ N) (hq : Q e s1) : RC N tb.P c s Q := by
  rcases exec_sound ok n _ _ _ _ h with ⟨v, rfl, _⟩ | h
  · exact absurd rfl (he v)
  · exact .of_snd h hn hq

theorem RC.seq {c d : Code} {s : St} {Q : Ex → St → Prop} (h : RC N P c s fun e s1 => match e with
    | .nrm => RC N P d s1 Q
    | e => Q e s1) : RC N P (.seq c d) s Q := fun ι b a k cs w hs ht => by
  obtain ⟨e, s1, ι1, w1, a1, k1, h1, hn, h2, h3, h4, h5⟩ := h ι b a (.code d :: k) cs w hs ht
  cases e with
  | nrm =>
    cases (show k1 = _ from h3)
    obtain ⟨e, s2, ι2, w2, a2, k2, g1, gn, g2, g3, g4, g5⟩ := h1 ι1 b a1 k cs w1 h4 (ht.stp h5.stp)
    exact ⟨e, s2, ι2, w2, a2, k2, g1, gn, .head stepR_seq (h2.trans g2), g3, g4, h5.trans g5⟩
  | exit id => exact ⟨_, s1, ι1, w1, a1, k1, h1, hn, .head stepR_seq h2, h3.push (fun _ => by simp) (by simp), h4, h5⟩
  | ret => exact ⟨_, s1, ι1, w1, a1, k1, h1, hn, .head stepR_seq h2, h3, h4, h5⟩
  | pan v => exact h3.elim

theorem RC.region {id : Nat} {ops : Array Oper} {s : St} {Q : Ex → St → Prop} (h : ROps N P ops (List.range ops.size) s (Q .nrm)) : RC N P (.region id ops false) s Q := fun ι b a k cs w hs ht => by
  obtain ⟨s1, ι1, w1, a1, h1, hn, h2, h3, h4⟩ := h ι b a k cs w hs ht
  exact ⟨.nrm, s1, ι1, w1, a1, k, h1, hn, .head stepR_region (h2.trans (.one stepR_region_end)), rfl, h3, h4⟩

theorem ROps.nil {ops : Array Oper} {s : St} {Q : St → Prop} (hn : s.m.next ≤ N) (h : Q s) : ROps N P ops [] s Q := fun ι _ a _ _ w hs _ =>
  ⟨s, ι, w, a, h, hn, .refl _ _, hs, SStp.refl _ _ _⟩

theorem ROps.one {ops : Array Oper} {i : Nat} {l : List Nat} {o : Oper} {s s1 : St} {Q : St → Prop} (ho : ops[i]? = some o) (hg : o.guard = none) (h : OpSnd P ops i o s s1) (hn : s1.m.next ≤ N) (hl : ROps N P ops l s1 Q) : ROps N P ops (i :: l) s Q := fun ι b a k cs w hs ht => by
  obtain ⟨ι1, w1, a1, h1, h2, h3⟩ := h.2 ι b a k cs w l hs (ht.free hn) (by unfold Region.wanted; rw [hg]) ho
  obtain ⟨s2, ι2, w2, a2, g1, gn, g2, g3, g4⟩ := hl ι1 b a1 k cs w1 h2 (ht.stp h3.stp)
  exact ⟨s2, ι2, w2, a2, g1, gn, h1.trans g2, g3, h3.trans g4⟩

include ok in
/-- An operation that is carried out as the machine does it. -/
theorem ROps.op {n : Nat} {ops : Array Oper} {i : Nat} {l : List Nat} {o : Oper} {s s1 : St} {Q : St → Prop} (ho : ops[i]? = some o) (hg : o.guard = none) (h : opF tb (exec tb n) o s (fun s => .ok (.nrm, s)) = .ok (.nrm, s1)) (hn : s1.m.next ≤ N) (hl : ROps N tb.P ops l s1 Q) : ROps N tb.P ops (i :: l) s Q := by
  rcases opF_sound ok (callSnd ok (exec_sound ok n)) (ops := ops) (i := i) h with ⟨v, s2, he, _⟩ | ⟨s2, he, hop⟩
  · cases he
  · cases he
    exact .one ho hg hop hn hl

include ok in
/-- A call whose answer is open. -/
theorem ROps.call {ops : Array Oper} {i : Nat} {l : List Nat} {o : Oper} {c : Call} {cl : Cl} {s : St} {Q : St → Prop} (ho : ops[i]? = some o) (hg : o.guard = none) (hc : isCall o.op = some c) (hcl : clOf tb s.t s.m.get c = .ok cl)
    (hd : ∀ d, o.dst = some d → d < s.n) (h : RCall N tb.P cl s.m fun v A' => ROps N tb.P ops l { s with m := A', t := match o.dst with | some d => s.t.set d v | none => s.t } Q) : ROps N tb.P ops (i :: l) s Q := fun ι b a k cs w hs ht => by
  have hcr := clOf_sound ok hs.rel hc hcl hs.tr
  obtain ⟨v, A', ι1, w1, v', h1, hn, h2, h3, h4, h5⟩ := h ι w _ (b.atR a (.inRegion ops (i :: l) :: k)) cs hs.rel hcr ht
  have hle := ht.le hn h5
  have hw : ∀ y, Region.wanted o y = true := fun y => by unfold Region.wanted; rw [hg]
  have hnd : ∀ c, o.op ≠ .defer c := by
    intro c h
    rw [h] at hc
    cases hc
  have hs1 : SR ι1 { s with m := A', t := match o.dst with | some d => s.t.set d v | none => s.t } b (a.put o.dst v') w1 := by
    refine ⟨h4, ?_, hs.ro.mono hle, ?_⟩
    · cases hdd : o.dst with
      | none => exact hs.tr.mono hle
      | some d => exact (hs.tr.mono hle).set (hd d hdd) h3
    · have := hs.dr.mono hle
      cases o.dst <;> exact this
  have hss : SStp ι s w ι1 { s with m := A', t := match o.dst with | some d => s.t.set d v | none => s.t } w1 := ⟨h5, rfl, rfl⟩
  obtain ⟨s2, ι2, w2, a2, g1, gn, g2, g3, g4⟩ := h1 ι1 b _ k cs w1 hs1 (ht.stp h5)
  exact ⟨s2, ι2, w2, a2, g1, gn, (h2.op ho (hw _) hnd).trans g2, g3, hss.trans g4⟩

include ok in
theorem ROps.callD {ops : Array Oper} {i d : Nat} {l : List Nat} {o : Oper} {c : Call} {cl : Cl} {s : St} {Q : St → Prop} (ho : ops[i]? = some o) (hg : o.guard = none) (hc : isCall o.op = some c) (hcl : clOf tb s.t s.m.get c = .ok cl)
    (hd : o.dst = some d) (hdn : d < s.n) (h : RCall N tb.P cl s.m fun v A' => ROps N tb.P ops l { s with m := A', t := s.t.set d v } Q) : ROps N tb.P ops (i :: l) s Q := by
  refine ROps.call ok ho hg hc hcl (fun d' h' => by rw [hd] at h'; cases h'; exact hdn) ?_
  rw [hd]
  exact h

/-- A function. -/
theorem RCall.fn {f : FuncId} {fn : Func} {c : Code} {args : List Value} {A : Mem} {Q : Value → Mem → Prop} (hf : tb.fn.get f = some fn) (hb : fn.body = some c) (hng : (fn.name == "runtime.NumGoroutine") = false) (hn : args.length ≤ fn.ntmps) (ok : TabOk tb)
    (h : RC N tb.P c { t := T.puts .e 0 args, n := fn.ntmps, d := [], m := A, ro := none } fun e s => (e = .nrm ∨ e = .ret) ∧ ∃ A' vs, takeF s.d s.m = .ok A' ∧ resF tb s.t A'.get fn.results.toList = .ok vs ∧ Q (oneOf vs) A') : RCall N tb.P (.fn f args) A Q := fun ι w s fr cs hr hcl ht => by
  have hf' := ok.fn _ _ hf
  obtain ⟨args', hrun, ha⟩ := hcl
  have hcf : ∀ args' w, (callFunc f args').run tb.P w = .ok (.enter f args') w := by
    intro args' w
    unfold callFunc
    simp only [Sem.run_bind, run_program, Result.andThen_ok, hf', hng, hb, Option.isNone_some, Bool.false_eq_true, if_false, Sem.run_pure]
  have hent := Frame.enter_atR hf' hb args'
  have hs0 : SR ι { t := T.puts .e 0 args, n := fn.ntmps, d := [], m := A, ro := none } (Frame.enter tb.P f args' .normal) ⟨args' ++ Array.replicate (fn.ntmps - args'.size) undef, []⟩ w :=
    ⟨hr, TR.args ha hn, rfl, rfl⟩
  obtain ⟨e, s1, ι1, w1, a1, k1, ⟨he, A', vs, h4, h6, hq⟩, hn1, st1, ha1, hs1, hss1⟩ := h ι _ _ [] (fr :: cs) w hs0 ht
  rw [← hent] at st1
  obtain ⟨todo, st2⟩ : ∃ todo, Steps tb.P (lone ((Frame.enter tb.P f args' .normal).atR a1 k1) (fr :: cs) w1) (lone { (Frame.enter tb.P f args' .normal).atR ⟨a1.tmps, a1.defers⟩ todo with mode := .returning } (fr :: cs) w1) := by
    rcases he with rfl | rfl
    · cases (show k1 = [] from ha1)
      exact ⟨[], .one (stepR_end rfl)⟩
    · obtain ⟨k2, rfl⟩ := ha1
      exact ⟨_, .one (stepR_ret rfl)⟩
  obtain ⟨w2, st3, hrel2, hst2⟩ := take_steps tb.P (b := Frame.enter tb.P f args' .normal) (t := a1.tmps) (todo := todo) (cs := fr :: cs) h4 hs1.dr hs1.rel
  obtain ⟨v', e1, hv⟩ := results_sound ok hrel2 hs1.tr h6
  have hlv : Frame.leaving tb.P { (Frame.enter tb.P f args' .normal).atR ⟨a1.tmps, (Frame.enter tb.P f args' .normal).defers⟩ todo with mode := .returning } w2 (.returned v') := ⟨rfl, rfl, rfl, fn, hf', e1⟩
  exact ⟨_, A', ι1, w2, v', hq, by rw [takeF_next h4]; exact hn1, .inr (.inl ⟨f, args', hrun.trans (hcf args' w), ((st1.trans st2).trans st3).trans (.one (step_leave_returned hlv))⟩), hv, hrel2, hss1.stp.trans hst2⟩

include ok in
/-- A loop over a function, in a function's own frame. -/
theorem RC.rangeF {f : Operand} {ps : Array Tmp} {assign body : Code} {s : St} {Q : Ex → St → Prop} {fv : Value} {cl : Cl} (hN : s.m.next + 2 ≤ N) (hro : s.ro = none) (h1 : ev s.t f = .ok fv)
    (h5 : calleeF tb ((s.m.alloc .defd).alloc (.loop { state := .ready, pending := none, fn := 0, tmps := s.t, n := s.n, params := ps.toList, assign, body, defers := s.m.next })).get fv [.func (.yield (s.m.next + 1)) ⟨[]⟩ ⟨[]⟩] = .ok cl)
    (hc : RCall N tb.P cl ((s.m.alloc .defd).alloc (.loop { state := .ready, pending := none, fn := 0, tmps := s.t, n := s.n, params := ps.toList, assign, body, defers := s.m.next })) fun _ A2 => ∃ r2, A2.get (s.m.next + 1) = some (.loop r2) ∧ r2.state ≠ .busy ∧ r2.pending = none ∧
      Q .nrm { s with m := A2.set (s.m.next + 1) (.loop { r2 with state := .exhausted }), d := s.m.next :: s.d }) :
    RC N tb.P (.rangeFunc f ps assign body) s Q := fun ι b a k cs w hs ht => by
  have hb : b.roundOf = none := by have := hs.ro; rw [hro] at this; exact this
  have hn0 : ι s.m.next = none := ht _ (Nat.le_refl _) (by omega)
  obtain ⟨hwu, hsz⟩ := alloc_Wu w (.deferred (some []))
  obtain ⟨ι1, h9, h10, h11⟩ := hs.rel.come (ob := .defd) (sz := 0) hn0 (fun _ _ _ h => by cases h) hwu hsz (fun _ _ _ => rfl)
  have hle1 := ht.le (by rw [next_alloc]; omega) h11
  have ht1 := ht.stp h11
  have hn1 : ι1 (s.m.alloc .defd).next = none := ht1 _ (Nat.le_refl _) (by rw [next_alloc]; omega)
  obtain ⟨hwu2, hsz2⟩ := alloc_Wu (w.alloc (.deferred (some []))) (.loop { state := .ready, pending := none, fn := b.fn, tmps := a.tmps, params := ps, assign, body, defers := w.heap.size })
  obtain ⟨ι2, h12, h13, h14⟩ := h10.come (ob := .loop { state := .ready, pending := none, fn := 0, tmps := s.t, n := s.n, params := ps.toList, assign, body, defers := s.m.next }) (sz := 0) hn1 (fun _ _ _ h => by cases h) hwu2 hsz2
    (fun ι' hi _ => ⟨rfl, _, rfl, rfl, rfl, (hs.tr.mono hle1).mono hi, rfl, rfl, rfl, _, hi _ _ h9, rfl⟩)
  have hle2 := ht1.le (by rw [next_alloc, next_alloc]; omega) h14
  have ht2 := ht1.stp h14
  have he := run_enterLoop_outer (P := tb.P) (w := w) b.fn a.tmps ps assign body
  rw [World.size_alloc] at h12
  have hst1 := h11.trans h14
  have hi1 := hle1.trans hle2
  have hdr1 : DR ι2 (s.m.next :: s.d) ({ target := .collected w.heap.size, args := #[] } :: a.defers) b.defers := ⟨⟨_, hle2 _ _ h9, rfl⟩, (hs.dr.mono hle1).mono hle2⟩
  rw [← hb] at he
  have hev : VR ι2 fv (a.eval f) := (ev_sound h1 hs.tr).mono hi1
  have hcl := calleeF_sound ok h13 h5 hev (args' := #[.func (.yield (w.heap.size + 1)) #[] #[]]) (.cons (.yield h12) .nil)
  obtain ⟨v0, A2, ι3, w3, v', ⟨r2, hg2, hnb, hp, hq⟩, hn2, hdone, _, hrel2, hst2⟩ := hc ι2 _ _ (b.atR { a with defers := [{ target := .collected w.heap.size, args := #[] }] ++ a.defers } (.inRangeFunc (w.heap.size + 1) :: k)) cs h13 hcl ht2
  have hi2 := ht2.le hn2 hst2
  obtain ⟨rq2, hw2, hlr2, h02⟩ := hrel2.loop hg2 (hi2 _ _ h12)
  obtain ⟨hrel3, hst3⟩ := hrel2.loopTurn (q := { r2 with state := .exhausted }) (q' := { rq2 with state := .exhausted }) hg2 (hi2 _ _ h12) hw2 h02
    ⟨rfl, hlr2.pending, hlr2.tmps, hlr2.params, hlr2.assign, hlr2.body, hlr2.defers⟩
  have st1 := rangeF_steps (P := tb.P) (b := b) (a := a) (k := k) (cs := cs) he hdone
  have st2 := stepR_endRangeFunc (P := tb.P) (b := b) (a := { a with defers := [{ target := .collected w.heap.size, args := #[] }] ++ a.defers }) (k := k) (cs := cs) (run_endLoop hw2 (by rw [hlr2.state]; exact hnb))
  refine ⟨.nrm, _, ι3, _, _, _, hq, hn2, st1.trans (.one st2), ?_, ⟨hrel3, (hs.tr.mono hi1).mono hi2, (hs.ro.mono hi1).mono hi2, hdr1.mono hi2⟩, ⟨(hst1.trans hst2).trans hst3, rfl, rfl⟩⟩
  rw [hlr2.pending, hp]; rfl


theorem RC.block {c : Code} {id : Nat} {s : St} {Q : Ex → St → Prop} (h : RC N P c s fun e s1 => e = .nrm ∧ Q .nrm s1) : RC N P (.block id c) s Q := fun ι b a k cs w hs ht => by
  obtain ⟨e, s1, ι1, w1, a1, k1, ⟨rfl, h1⟩, hn, h2, h3, h4, h5⟩ := h ι b a (.inBlock id :: k) cs w hs ht
  cases (show k1 = _ from h3)
  exact ⟨.nrm, s1, ι1, w1, a1, k, h1, hn, .head stepR_block (h2.trans (.one stepR_inBlock)), rfl, h4, h5⟩


include ok in
theorem RC.of_W {c : Code} {s : St} {Q : Ex → St → Prop} (h : W tb c s fun e s1 => (∀ v, e ≠ .pan v) ∧ s1.m.next ≤ N ∧ Q e s1) : RC N tb.P c s Q := by
  obtain ⟨e, s1, ⟨f, hf⟩, h1, h2, h3⟩ := h
  exact RC.of_exec ok (hf 0) h1 h2 h3

include ok in
theorem RCall.of_ans {f : FuncId} {args : List Value} {A A' : Mem} {v : Value} {Q : Value → Mem → Prop} (h : ∃ g, ∀ M, g ≤ M → callF tb (exec tb M) (.fn f args) A = .ok (.val v A')) (hn : A'.next ≤ N) (hq : Q v A') : RCall N tb.P (.fn f args) A Q := fun ι w s fr cs hr hcl ht => by
  obtain ⟨g, hg⟩ := h
  rcases callSnd ok (exec_sound ok g) _ _ _ (hg g (Nat.le_refl _)) with ⟨_, _, h1, _⟩ | ⟨v1, A1, h1, h2, h3⟩
  · cases h1
  · cases h1
    obtain ⟨ι', w', v', r⟩ := h3 ι w s fr cs hr hcl (ht.free hn)
    exact ⟨v, A', ι', w', v', hq, hn, r⟩

end Go.Am

/-
  The abstract machine AM, part 62: a map's entries, one by one, in an order that is open.
-/
namespace Go.Am
variable {tb : Tab} (ok : TabOk tb) {P : Program} {N : Nat}

/-! ### Rows of entries -/

/-- Those that have not been met. -/
def leftM (done es : List MapEntry) : List MapEntry := es.filter fun e => !((done.map (·.born)).contains e.born)

theorem perm_filter_ne {l : List MapEntry} (hn : (l.map (·.born)).Nodup) {e : MapEntry} (he : e ∈ l) : l.Perm (e :: l.filter fun x => !(x.born == e.born)) := by
  induction l with
  | nil => cases he
  | cons x l ih =>
    simp only [List.map_cons, List.nodup_cons] at hn
    rcases List.mem_cons.1 he with rfl | he
    · have h0 : (l.filter fun x => !(x.born == e.born)) = l := by
        rw [List.filter_eq_self]
        intro y hy
        have : y.born ≠ e.born := fun h => hn.1 (List.mem_map.2 ⟨y, hy, h⟩)
        simpa using this
      rw [List.filter_cons_of_neg (by simp), h0]
    · have hne : x.born ≠ e.born := fun h => hn.1 (List.mem_map.2 ⟨e, he, h.symm⟩)
      rw [List.filter_cons_of_pos (by simpa using hne)]
      exact ((ih hn.2 he).cons x).trans (.swap _ _ _)

theorem leftM_push (done es : List MapEntry) (e : MapEntry) : leftM (done ++ [e]) es = (leftM done es).filter fun x => !(x.born == e.born) := by
  unfold leftM
  rw [List.filter_filter]
  congr 1
  funext x
  simp only [List.map_append, List.map_cons, List.map_nil, List.contains_append, Bool.not_or]
  rw [Bool.and_comm]
  congr 1
  by_cases h : x.born = e.born
  · simp [h]
  · simp [h]

theorem nodup_filter {l : List MapEntry} (p : MapEntry → Bool) (h : (l.map (·.born)).Nodup) : ((l.filter p).map (·.born)).Nodup :=
  h.sublist (List.Sublist.map _ List.filter_sublist)

theorem perm_step {done es : List MapEntry} {e : MapEntry} (hn : (es.map (·.born)).Nodup) (hp : (done ++ leftM done es).Perm es) (he : e ∈ leftM done es) : ((done ++ [e]) ++ leftM (done ++ [e]) es).Perm es := by
  rw [leftM_push, List.append_assoc]
  have := perm_filter_ne (nodup_filter _ hn) he
  exact ((this.symm.append_left done)).trans hp

theorem leftM_lt {done es : List MapEntry} {e : MapEntry} (hn : (es.map (·.born)).Nodup) (he : e ∈ leftM done es) : (leftM (done ++ [e]) es).length < (leftM done es).length := by
  rw [leftM_push]
  have := (perm_filter_ne (nodup_filter _ hn) he).length_eq
  simp only [List.length_cons] at this
  exact Nat.lt_of_lt_of_eq (Nat.lt_succ_self _) this.symm

theorem find_born {l : List MapEntry} (hn : (l.map (·.born)).Nodup) {e : MapEntry} (he : e ∈ l) : l.find? (·.born == e.born) = some e := by
  induction l with
  | nil => cases he
  | cons x l ih =>
    simp only [List.map_cons, List.nodup_cons] at hn
    rcases List.mem_cons.1 he with rfl | he
    · simp
    · have hne : x.born ≠ e.born := fun h => hn.1 (List.mem_map.2 ⟨e, he, h.symm⟩)
      rw [List.find?_cons_of_neg (by simpa using hne)]
      exact ih hn.2 he

theorem ERs.borns {ι : Inj} : ∀ {l l' : List MapEntry}, ERs ι l l' → l'.map (·.born) = l.map (·.born)
  | _, _, .nil => rfl
  | _, _, .cons _ hb _ ht => by simp [hb, ht.borns]

theorem ERs.filter {ι : Inj} (p : Nat → Bool) : ∀ {l l' : List MapEntry}, ERs ι l l' → ERs ι (l.filter fun e => p e.born) (l'.filter fun e => p e.born)
  | _, _, .nil => .nil
  | _, _, .cons (e := e) (e' := e') hk hb hv ht => by
    cases h : p e.born with
    | true => rw [List.filter_cons_of_pos (by simpa using h), List.filter_cons_of_pos (by simpa [hb] using h)]; exact .cons hk hb hv (ht.filter p)
    | false => rw [List.filter_cons_of_neg (by simp [h]), List.filter_cons_of_neg (by simp [hb, h])]; exact ht.filter p
theorem ERs.at_ {ι : Inj} : ∀ {l l' : List MapEntry}, ERs ι l l' → ∀ (i : Nat) (e' : MapEntry), l'[i]? = some e' → ∃ e, l[i]? = some e ∧ VR ι e.key e'.key ∧ e'.born = e.born ∧ VR ι e.val e'.val
  | _, _, .nil, i, e', h => by simp at h
  | _, _, .cons hk hb hv ht, 0, e', h => by
    simp only [List.getElem?_cons_zero, Option.some.injEq] at h
    subst h
    exact ⟨_, rfl, hk, hb, hv⟩
  | _, _, .cons hk hb hv ht, i + 1, e', h => ht.at_ i e' (by simpa using h)
theorem ERs.to_ {ι : Inj} : ∀ {l l' : List MapEntry}, ERs ι l l' → ∀ (i : Nat) (e : MapEntry), l[i]? = some e → ∃ e', l'[i]? = some e' ∧ VR ι e.key e'.key ∧ e'.born = e.born ∧ VR ι e.val e'.val
  | _, _, .nil, i, e', h => by simp at h
  | _, _, .cons hk hb hv ht, 0, e', h => by
    simp only [List.getElem?_cons_zero, Option.some.injEq] at h
    subst h
    exact ⟨_, rfl, hk, hb, hv⟩
  | _, _, .cons hk hb hv ht, i + 1, e', h => ht.to_ i e' (by simpa using h)

/-! ### The machine's own steps -/

theorem range_run {w : World} {t : TypeId} {kt vt : TypeId} {r clock : Nat} {es : Array MapEntry} (ht : (underlying t).run P w = .ok (.map kt vt) w) (hw : w.heap[r]? = some (.map es clock)) :
    (Instr.range t (.map (some r))).run P w = .ok (.pointer (some ⟨w.heap.size, 0, none⟩)) { w with heap := w.heap.push (.mapIter (some r) clock #[] clock) } := by
  unfold Instr.range
  simp only [Sem.run_bind, ht, Result.andThen_ok, getObj_run hw (by simp), Sem.run_pure, run_newObj]

/-- The next entry: one of those that have not been met. -/
theorem next_run {w : World} {it r clock : Nat} {es : Array MapEntry} {sn : Array Nat} {rt : TypeId} (hit : w.heap[it]? = some (.mapIter (some r) clock sn clock)) (hw : w.heap[r]? = some (.map es clock)) (hlt : ∀ e ∈ es.toList, e.born < clock) :
    (∃ d, w.drawn ≤ d ∧ ((es.toList.filter fun e => !sn.contains e.born) = [] ∧ (Instr.next (.pointer (some ⟨it, 0, none⟩)) false rt).run P w = .ok (.tuple #[.bool false]) { w with drawn := d })) ∨
    ∃ (i : Nat) (e : MapEntry) (d : Nat), w.drawn ≤ d ∧ (es.toList.filter fun e => !sn.contains e.born)[i]? = some e ∧ (Instr.next (.pointer (some ⟨it, 0, none⟩)) false rt).run P w = .ok (.tuple #[.bool true, e.key, e.val]) { w with heap := w.heap.setIfInBounds it (.mapIter (some r) clock (sn.push e.born) clock), drawn := d } := by
  have hall : (!sn.isEmpty && !es.isEmpty && es.all fun x => decide (x.born ≥ clock)) = false := by
    cases hes : es.isEmpty with
    | true => simp
    | false =>
      have : (es.all fun x => decide (x.born ≥ clock)) = false := by
        rw [Bool.eq_false_iff]
        intro hall
        rw [Array.all_eq_true'] at hall
        obtain ⟨e, he⟩ : ∃ e, e ∈ es := by
          have : es ≠ #[] := by simpa using hes
          obtain ⟨e, he⟩ := Array.exists_mem_of_ne_empty es this
          exact ⟨e, he⟩
        have h1 := hall e he
        have h2 := hlt e (by simpa using he)
        simp at h1
        omega
      simp [this]
  have hold : ((es.filter fun e => !sn.contains e.born).filter fun e => decide (e.born < clock)) = es.filter fun e => !sn.contains e.born := by
    apply Array.ext'
    simp only [Array.toList_filter]
    rw [List.filter_eq_self]
    intro x hx
    have := hlt x ((List.mem_filter.1 hx).1)
    simpa using this
  have hnew : ((es.filter fun e => !sn.contains e.born).filter fun e => decide (e.born ≥ clock)) = #[] := by
    apply Array.ext'
    simp only [Array.toList_filter]
    rw [List.filter_eq_nil_iff]
    intro x hx
    have := hlt x ((List.mem_filter.1 hx).1)
    simp; omega
  generalize hL : es.filter (fun e => !sn.contains e.born) = L at *
  have hL' : es.toList.filter (fun e => !sn.contains e.born) = L.toList := by rw [← hL, Array.toList_filter]
  rw [hL']
  have hnx : ∀ (cands : Array (Option MapEntry)), cands = (if L.isEmpty then #[none] else #[]) ++ (L ++ #[]).map some →
      (Instr.next (.pointer (some ⟨it, 0, none⟩)) false rt).run P w = (do
        match cands[← choose (.mapNext cands.size)]? with
        | some (some e) =>
          setObj it (.mapIter (some r) clock (sn.push e.born) clock)
          pure (.tuple #[.bool true, e.key, e.val])
        | some none => pure (.tuple #[.bool false])
        | none => stuck "Next: no such candidate" : Sem Value).run P w := by
    intro cands hc
    subst hc
    unfold Instr.next
    simp only [Sem.run_bind, getObj_run hit (by simp), Result.andThen_ok, getObj_run hw (by simp), hall, Bool.false_eq_true, if_false, hL, hold, hnew]
    rfl
  have hlt : it < w.heap.size := (Array.getElem?_eq_some_iff.1 hit).1
  by_cases he : L = #[]
  · left
    subst he
    refine ⟨w.drawn, Nat.le_refl _, rfl, ?_⟩
    rw [hnx #[none] (by simp)]
    simp only [Sem.run_bind, run_choose]
    rfl
  · right
    have hpos : 0 < L.size := by
      rcases Nat.eq_zero_or_pos L.size with h | h
      · exact absurd (Array.eq_empty_of_size_eq_zero h) he
      · exact h
    have hem : L.isEmpty = false := by simpa using he
    obtain ⟨a, d, ha, hdd, hch⟩ : ∃ a d, a < L.size ∧ w.drawn ≤ d ∧ (choose (.mapNext L.size)).run P w = .ok a { w with drawn := d } := by
      rw [run_choose]
      cases hf : (Question.mapNext L.size).forced with
      | true => exact ⟨0, w.drawn, hpos, Nat.le_refl _, rfl⟩
      | false => exact ⟨_, w.drawn + 1, Nat.mod_lt (w.tape w.drawn (.mapNext L.size)) hpos, Nat.le_succ _, rfl⟩
    refine ⟨a, L[a], d, hdd, by simp [ha], ?_⟩
    rw [hnx (L.map some) (by simp [hem])]
    have hsz : (L.map some).size = L.size := by simp
    rw [Sem.run_bind, hsz, hch, Result.andThen_ok]
    have hg : (L.map some)[a]? = some (some L[a]) := by simp [ha]
    rw [hg]
    simp only [Sem.run_bind, setObj, Sem.run, hit]
    rfl

/-- The entry that was met last. -/
theorem entry_run {w : World} {it r clock : Nat} {es : Array MapEntry} {sn : Array Nat} {e : MapEntry} (hit : w.heap[it]? = some (.mapIter (some r) clock (sn.push e.born) clock)) (hw : w.heap[r]? = some (.map es clock)) (hn : (es.toList.map (·.born)).Nodup) (he : e ∈ es.toList) :
    (Instr.entry (.pointer (some ⟨it, 0, none⟩))).run P w = .ok (.tuple #[e.key, e.val]) w := by
  have hf : es.find? (·.born == e.born) = some e := by
    rw [← Array.find?_toList]; exact find_born hn he
  unfold Instr.entry
  simp only [Sem.run_bind, getObj_run hit (by simp), Result.andThen_ok, Array.back?_push, getObj_run hw (by simp), bne_self_eq_false, Bool.false_eq_true, if_false, hf, Sem.run_pure]


/-! ### A block of the machine of which nothing is known but that nobody writes it -/

/-- No block that lives stands for it. -/
def NL (ι : Inj) (A : Mem) (it : Nat) : Prop := ∀ b l, live A b → ι b = some l → l.blk ≠ it
theorem NL.keep {ι ι' : Inj} {A A' : Mem} {w w' : World} {it : Nat} (h : NL ι A it) (hlt : it < w.heap.size) (k : Stp ι A w ι' A' w') : NL ι' A' it ∧ w'.heap[it]? = w.heap[it]? ∧ it < w'.heap.size := by
  refine ⟨fun b l hb hl => ?_, k.fr it hlt h, Nat.lt_of_lt_of_le hlt k.size⟩
  rcases k.src b l hb hl with h1 | ⟨b0, l0, h1, h2, h3⟩
  · omega
  · rw [← h3]; exact h b0 l0 h1 h2

/-- The parts of the loop over a map's entries. -/
structure KeysF where
  f : FuncId
  fn : Func
  tM : TypeId
  tK : TypeId
  tV : TypeId
  i0 : Nat
  i1 : Nat
  i2 : Nat
  oL : Oper
  oR : Oper
  oN : Oper
  oX : Oper
  oE : Oper
  oX2 : Oper
  oA : Oper
  cT : Code

def KeysF.body (D : KeysF) : Code := .seq (.region D.i1 #[D.oN, D.oX] false) (.seq (.cond (.tmp 7) .skip (.exit 0)) (.block 1 (.seq (.region D.i2 #[D.oE, D.oX2, D.oA] false) D.cT)))

structure KeysOk (tb : Tab) (D : KeysF) : Prop where
  hf : tb.fn.get D.f = some D.fn
  hb : D.fn.body = some (.seq (.region D.i0 #[D.oL, D.oR] false) (.block 0 (.loop D.body)))
  hL : D.oL.op = .load D.tM (.tmp 1) ∧ D.oL.dst = some 4 ∧ D.oL.guard = none
  hR : D.oR.op = .range D.tM (.tmp 4) ∧ D.oR.dst = some 5 ∧ D.oR.guard = none
  hN : D.oN.op = .next (.tmp 5) false ∧ D.oN.dst = some 6 ∧ D.oN.guard = none
  hX : D.oX.op = .extract (.tmp 6) 0 ∧ D.oX.dst = some 7 ∧ D.oX.guard = none
  hE : D.oE.op = .entry (.tmp 5) ∧ D.oE.dst = some 8 ∧ D.oE.guard = none
  hX2 : D.oX2.op = .extract (.tmp 8) 0 ∧ D.oX2.dst = some 9 ∧ D.oX2.guard = none
  hA : D.oA.op = .assign (.tmp 9) ∧ D.oA.dst = some 3 ∧ D.oA.guard = none
  hn : D.fn.ntmps = 14
  hng : (D.fn.name == "runtime.NumGoroutine") = false
  hres : D.fn.results = #[]
  hu : tb.und D.tM = some (.map D.tK D.tV)

/-- What is known of a state in the loop. -/
structure KSt (yv : Value) (itA : Nat) (s : St) : Prop where
  n : s.n = 14
  d : s.d = []
  ro : s.ro = none
  y : s.t.get 0 = some yv
  i : s.t.get 5 = some (.pointer (some ⟨itA, 0, none⟩))

theorem stepR_val {b : Frame} {a : Act} {k : List Item} {cs : List Frame} {w w' : World} {ops : Array Oper} {i : Nat} {rest : List Nat} {o : Oper} {v : Value} (ho : ops[i]? = some o) (hg : o.guard = none) (hnd : ∀ c, o.op ≠ .defer c) (hr : (execOp a.eval o).run P w = .ok (.value v) w') :
    step P (lone (b.atR a (.inRegion ops (i :: rest) :: k)) cs w) = .next (lone (b.atR (a.put o.dst v) (.inRegion ops rest :: k)) cs w') :=
  stepR_op_next ho (by unfold Region.wanted; rw [hg]) hnd hr (.inl rfl)

theorem Rel.other {ι : Inj} {A : Mem} {w : World} {it d : Nat} {o : Obj} (h : Rel ι A w) (hn : NL ι A it) : Rel ι A { w with heap := w.heap.setIfInBounds it o, drawn := d } where
  wf := h.wf
  obs := fun b ob l hg ha hb => by
    obtain ⟨o', h1, h2⟩ := h.obs b ob l hg ha hb
    have hne : l.blk ≠ it := hn b l ⟨ob, hg, ha⟩ hb
    exact ⟨o', by show (w.heap.setIfInBounds it o)[l.blk]? = _; rw [Array.getElem?_setIfInBounds_ne (Ne.symm hne)]; exact h1, h2⟩
  rng := fun b l hb => by
    show l.blk < (w.heap.setIfInBounds it o).size
    rw [Array.size_setIfInBounds]; exact h.rng b l hb
  inj := h.inj
  gl := h.gl

theorem Stp.other {ι0 ι : Inj} {A0 A : Mem} {w0 w : World} {it d : Nat} {o : Obj} (h : Stp ι0 A0 w0 ι A w) (hr : ∀ b l, ι0 b = some l → l.blk < w0.heap.size) (hit : w0.heap.size ≤ it) (hd : w.drawn ≤ d) : Stp ι0 A0 w0 ι A { w with heap := w.heap.setIfInBounds it o, drawn := d } where
  next := h.next
  out := h.out
  src := h.src
  fr := fun c hc hn => by
    show (w.heap.setIfInBounds it o)[c]? = _
    rw [Array.getElem?_setIfInBounds_ne (by omega)]; exact h.fr c hc hn
  size := by
    show _ ≤ (w.heap.setIfInBounds it o).size
    rw [Array.size_setIfInBounds]; exact h.size
  os := h.os
  tape := h.tape
  output := h.output
  drawn := Nat.le_trans h.drawn hd
  kept := fun b l hb hs => by
    obtain ⟨h1, h2⟩ := h.kept b l hb hs
    have := hr b l hb
    refine ⟨h1, ?_⟩
    show (w.heap.setIfInBounds it o)[l.blk]? = _
    rw [Array.getElem?_setIfInBounds_ne (by omega)]; exact h2

include ok in
theorem opP {o : Oper} {op : Op} {ops : Array Oper} {i d : Nat} {s : St} {v : Value} (ho : o.op = op) (hg : o.guard = none) (hd : o.dst = some d) (hdn : d < s.n) (hc : cls tb op = .P) (hi : isCall op = none) (hp : pOp tb s.t op = .ok v) :
    OpSnd tb.P ops i o s { s with t := s.t.set d v } := by
  have h : opF tb (exec tb 0) o s (fun s => .ok (.nrm, s)) = .ok (.nrm, { s with t := s.t.set d v }) := by
    obtain ⟨dst, op', ty, pos, after, guard⟩ := o
    simp only at ho hg hd
    subst ho hg hd
    obtain ⟨t, n, dd, m, ro⟩ := s
    rw [opF_P (hc := hc) (hi := hi), hp, R.ok_bind, putT_some hdn]
  rcases opF_sound ok (callSnd ok (exec_sound ok 0)) (ops := ops) (i := i) h with ⟨v, s2, he, _⟩ | ⟨s2, he, hop⟩
  · cases he
  · cases he
    exact hop

include ok in
theorem opR {o : Oper} {op : Op} {ops : Array Oper} {i d : Nat} {s : St} {v : Value} (ho : o.op = op) (hg : o.guard = none) (hd : o.dst = some d) (hdn : d < s.n) (hc : cls tb op = .Rd) (hi : isCall op = none) (hp : rOp tb s.t s.m.get op = .ok v) :
    OpSnd tb.P ops i o s { s with t := s.t.set d v } := by
  have h : opF tb (exec tb 0) o s (fun s => .ok (.nrm, s)) = .ok (.nrm, { s with t := s.t.set d v }) := by
    obtain ⟨dst, op', ty, pos, after, guard⟩ := o
    simp only at ho hg hd
    subst ho hg hd
    obtain ⟨t, n, dd, m, ro⟩ := s
    rw [opF_Rd (hc := hc) (hi := hi), hp, R.ok_bind, putT_some hdn]
  rcases opF_sound ok (callSnd ok (exec_sound ok 0)) (ops := ops) (i := i) h with ⟨v, s2, he, _⟩ | ⟨s2, he, hop⟩
  · cases he
  · cases he
    exact hop

variable {D : KeysF} (hD : KeysOk tb D)
include ok hD in
/-- One more entry, or the end. -/
theorem keys_one {yv : Value} {itA m clock : Nat} {es : List MapEntry} (I : List MapEntry → Mem → Prop)
    (hlt : ∀ e ∈ es, e.born < clock) (hnd : (es.map (·.born)).Nodup)
    (hIm : ∀ done B, I done B → B.get m = some (.map es clock)) (hIN : ∀ done B, I done B → B.next ≤ N)
    (hstep : ∀ done e s, I done s.m → e ∈ es → done.length < es.length → KSt yv itA s → s.t.get 3 = some e.key → ∃ n s', exec tb n D.cT s = .ok (.nrm, s') ∧ I (done ++ [e]) s'.m ∧ KSt yv itA s')
    {ι0 : Inj} {s0 : St} {w0 : World} (hr0 : Rel ι0 s0.m w0)
    {done : List MapEntry} {ι : Inj} {s : St} {b : Frame} {a : Act} {k : List Item} {cs : List Frame} {w : World} {it mb : Nat} {lI lm : Loc} {sn : Array Nat}
    (hs : SR ι s b a w) (ht : Top N ι s.m) (hk : KSt yv itA s) (hI : I done s.m) (hiA : ι itA = some lI) (hbI : lI.blk = it) (hsI : lI.sh = 0) (hm : ι m = some lm) (hmb : lm.blk = mb) (hit : it < w.heap.size) (hnl : NL ι s.m it)
    (hw : w.heap[it]? = some (.mapIter (some mb) clock sn clock)) (hsn : sn.toList = done.map (·.born)) (hss : SStp ι0 s0 w0 ι s w) (hit0 : w0.heap.size ≤ it) (hpm : (done ++ leftM done es).Perm es) :
    (leftM done es = [] ∧ ∃ s1 ι' w' a' k', I done s1.m ∧ KSt yv itA s1 ∧ Steps tb.P (lone (b.atR a (.inLoop D.body :: k)) cs w) (lone (b.atR a' k') cs w') ∧ Arr (.exit 0) k k' ∧ SR ι' s1 b a' w' ∧ SStp ι0 s0 w0 ι' s1 w') ∨
    ∃ e ∈ leftM done es, ∃ s1 ι' w' a', I (done ++ [e]) s1.m ∧ KSt yv itA s1 ∧ Steps tb.P (lone (b.atR a (.inLoop D.body :: k)) cs w) (lone (b.atR a' (.inLoop D.body :: k)) cs w') ∧ SR ι' s1 b a' w' ∧ SStp ι0 s0 w0 ι' s1 w' ∧
      Top N ι' s1.m ∧ ι' itA = some lI ∧ ι' m = some lm ∧ it < w'.heap.size ∧ NL ι' s1.m it ∧ w'.heap[it]? = some (.mapIter (some mb) clock (sn.push e.born) clock) := by
  have hev : a.eval (.tmp 5) = .pointer (some ⟨it, 0, none⟩) := by
    obtain ⟨v', h1, h2⟩ := hs.tr.2 _ _ hk.i
    cases h2 with
    | ptr hl =>
      rw [hiA] at hl
      cases hl
      simp only [Act.eval, Array.getD_eq_getD_getElem?, h1, Option.getD_some, hbI, hsI]
  obtain ⟨o', hwm, h0m, es', rfl, hes⟩ := hs.rel.obs _ _ _ (hIm _ _ hI) rfl hm
  rw [hmb] at hwm
  have hlt' : ∀ e ∈ es'.toList, e.born < clock := by
    intro e he
    obtain ⟨i, hi⟩ := List.getElem?_of_mem he
    have hb := hes.borns
    have h1 : (es'.toList.map (·.born))[i]? = some e.born := by simp [hi]
    rw [hb, List.getElem?_map] at h1
    cases h2 : es[i]? with
    | none => rw [h2] at h1; cases h1
    | some x =>
      rw [h2] at h1
      simp only [Option.map_some, Option.some.injEq] at h1
      rw [← h1]; exact hlt x (List.mem_of_getElem? h2)
  have hleft : ERs ι (leftM done es) (es'.toList.filter fun e => !sn.contains e.born) := by
    have := hes.filter fun x => !((done.map (·.born)).contains x)
    have e2 : (fun e : MapEntry => !sn.contains e.born) = fun e => !((done.map (·.born)).contains e.born) := by
      funext e
      rw [← hsn, List.contains_toArray.symm]
    rw [e2]; exact this
  have st0 : Steps tb.P (lone (b.atR a (.inLoop D.body :: k)) cs w) (lone (b.atR a (.inRegion #[D.oN, D.oX] [0, 1] :: .code (.seq (.cond (.tmp 7) .skip (.exit 0)) (.block 1 (.seq (.region D.i2 #[D.oE, D.oX2, D.oA] false) D.cT))) :: .inLoop D.body :: k)) cs w) :=
    .head stepR_inLoop (.head stepR_seq (.one stepR_region))
  have hnn : ∀ c, D.oN.op ≠ .defer c := fun c h => by rw [hD.hN.1] at h; cases h
  have hne : ∀ c, D.oE.op ≠ .defer c := fun c h => by rw [hD.hE.1] at h; cases h
  have hexN : ∀ v w', (Instr.next (.pointer (some ⟨it, 0, none⟩)) false D.oN.type).run tb.P w = .ok v w' → (execOp a.eval D.oN).run tb.P w = .ok (.value v) w' := by
    intro v w' h
    simp only [execOp, hD.hN.1, hev, Sem.run_bind, h, Result.andThen_ok, Sem.run_pure]
  -- the state behind 'next', and behind what is taken out of it
  have mid : ∀ (va v' : Value) (w1 : World) (bv : Bool), VR ι va v' → extractF va 0 = .ok (.bool bv) → (execOp a.eval D.oN).run tb.P w = .ok (.value v') w1 → Rel ι s.m w1 → Stp ι0 s0.m w0 ι s.m w1 → w1.heap.size = w.heap.size →
      ∃ ι2 w2 a2, Steps tb.P (lone (b.atR a (.inLoop D.body :: k)) cs w) (lone (b.atR a2 (.code (.cond (.tmp 7) .skip (.exit 0)) :: .code (.block 1 (.seq (.region D.i2 #[D.oE, D.oX2, D.oA] false) D.cT)) :: .inLoop D.body :: k)) cs w2) ∧
        SR ι2 { s with t := (s.t.set 6 va).set 7 (.bool bv) } b a2 w2 ∧ SStp ι0 s0 w0 ι2 { s with t := (s.t.set 6 va).set 7 (.bool bv) } w2 ∧ InjLe ι ι2 ∧ NL ι2 s.m it ∧ w2.heap[it]? = w1.heap[it]? ∧ it < w2.heap.size ∧ a2.eval (.tmp 7) = .bool bv ∧ Top N ι2 s.m := by
    intro va v' w1 bv hva hex hrun hrel hstp hsz
    have hs1 : SR ι { s with t := s.t.set 6 va } b (a.put D.oN.dst v') w1 := by
      refine ⟨hrel, ?_, hs.ro, ?_⟩
      · rw [hD.hN.2.1]; exact hs.tr.set (by rw [hk.n]; omega) hva
      · have := hs.dr
        rw [hD.hN.2.1]; exact this
    have hop : OpSnd tb.P #[D.oN, D.oX] 1 D.oX { s with t := s.t.set 6 va } { s with t := (s.t.set 6 va).set 7 (.bool bv) } :=
      opP ok hD.hX.1 hD.hX.2.2 hD.hX.2.1 (by show 7 < s.n; rw [hk.n]; omega) rfl rfl (by
        show (evG ((s.t.set 6 va).get 6)).bind _ = _
        rw [T.get_set, if_pos rfl]
        exact hex)
    obtain ⟨ι2, w2, a2, st2, hs2, hss2⟩ := hop.2 ι b _ (.code (.seq (.cond (.tmp 7) .skip (.exit 0)) (.block 1 (.seq (.region D.i2 #[D.oE, D.oX2, D.oA] false) D.cT))) :: .inLoop D.body :: k) cs w1 [] hs1 (ht.free (hIN _ _ hI)) (by unfold Region.wanted; rw [hD.hX.2.2]) rfl
    have hle := ht.le (hIN _ _ hI) hss2.stp
    obtain ⟨g1, g2, g3⟩ := hnl.keep (by rw [hsz]; exact hit) hss2.stp
    have hb7 : a2.eval (.tmp 7) = .bool bv := by
      obtain ⟨v7, h1, h2⟩ := hs2.tr.2 7 (.bool bv) (by show ((s.t.set 6 va).set 7 (.bool bv)).get 7 = _; rw [T.get_set, if_pos rfl])
      simp only [Act.eval, Array.getD_eq_getD_getElem?, h1, Option.getD_some, h2.bool_inv]
    refine ⟨ι2, w2, a2, ?_, hs2, ⟨hstp.trans hss2.stp, hss.n, hss.ro⟩, hle, g1, g2, g3, hb7, ht.stp hss2.stp⟩
    exact (st0.trans (.one (stepR_val rfl hD.hN.2.2 hnn hrun))).trans (st2.trans (.head stepR_region_end (.one stepR_seq)))
  rcases next_run (P := tb.P) (rt := D.oN.type) hw hwm hlt' with ⟨d, hd, hem, hrun⟩ | ⟨i, e', d, hd, hi, hrun⟩
  · left
    have hnil : leftM done es = [] := by
      rw [hem] at hleft
      have := hleft.length
      exact List.length_eq_zero_iff.1 this.symm
    have hwd : ∀ x : Nat, Rel ι s.m { w with drawn := x } := fun x => ⟨hs.rel.wf, hs.rel.obs, hs.rel.rng, hs.rel.inj, hs.rel.gl⟩
    obtain ⟨ι2, w2, a2, st2, hs2, hss2, hle, g1, g2, g3, hb7, ht2⟩ := mid (.tuple ⟨[.bool false]⟩) (.tuple #[.bool false]) { w with drawn := d } false (.tuple (.cons (.bool _) .nil)) rfl (hexN _ _ hrun) (hwd d)
      ⟨hss.stp.next, hss.stp.out, hss.stp.src, hss.stp.fr, hss.stp.size, hss.stp.os, hss.stp.tape, hss.stp.output, hss.stp.kept, Nat.le_trans hss.stp.drawn hd⟩ rfl
    refine ⟨hnil, { s with t := (s.t.set 6 (.tuple ⟨[.bool false]⟩)).set 7 (.bool false) }, ι2, w2, a2, _, hI, ⟨hk.n, hk.d, hk.ro, ?_, ?_⟩, st2.trans (.one (stepR_cond hb7)), ⟨_, rfl, rfl⟩, hs2, hss2⟩
    · show ((s.t.set 6 _).set 7 _).get 0 = _
      simp [T.get_set, hk.y]
    · show ((s.t.set 6 _).set 7 _).get 5 = _
      simp [T.get_set, hk.i]
  · right
    obtain ⟨e, he, hke, hbe, hve⟩ := ERs.at_ hleft i e' hi
    have hmem : e ∈ leftM done es := List.mem_of_getElem? he
    have hes0 : e ∈ es := (List.mem_filter.1 hmem).1
    obtain ⟨ι2, w2, a2, st2, hs2, hss2, hle, g1, g2, g3, hb7, ht2⟩ := mid (.tuple ⟨[.bool true, e.key, e.val]⟩) (.tuple #[.bool true, e'.key, e'.val]) _ true (.tuple (.cons (.bool _) (.cons hke (.cons hve .nil)))) rfl (hexN _ _ hrun) (hs.rel.other hnl)
      (hss.stp.other hr0.rng hit0 hd) (by simp)
    have hw2 : w2.heap[it]? = some (.mapIter (some mb) clock (sn.push e'.born) clock) := by
      rw [g2]
      show (w.heap.setIfInBounds it _)[it]? = _
      rw [Array.getElem?_setIfInBounds_self_of_lt hit]
    -- the entry
    obtain ⟨o2, hwm2, _, es2, rfl, hes2⟩ := hs2.rel.obs _ _ _ (hIm _ _ hI) rfl (hle _ _ hm)
    rw [hmb] at hwm2
    obtain ⟨j, hj⟩ := List.getElem?_of_mem hes0
    obtain ⟨e2, he2, hk2, hb2, hv2⟩ := ERs.to_ hes2 j e hj
    have hnd2 : (es2.toList.map (·.born)).Nodup := by rw [hes2.borns]; exact hnd
    have hbb : e'.born = e2.born := by rw [hbe, hb2]
    rw [hbb] at hw2
    have hent := entry_run (P := tb.P) hw2 hwm2 hnd2 (List.mem_of_getElem? he2)
    have hev2 : a2.eval (.tmp 5) = .pointer (some ⟨it, 0, none⟩) := by
      obtain ⟨v', h1, h2⟩ := hs2.tr.2 5 (.pointer (some ⟨itA, 0, none⟩)) (by show ((s.t.set 6 _).set 7 _).get 5 = _; simp [T.get_set, hk.i])
      cases h2 with
      | ptr hl =>
        rw [hle _ _ hiA] at hl
        cases hl
        simp only [Act.eval, Array.getD_eq_getD_getElem?, h1, Option.getD_some, hbI, hsI]
    have hexE : (execOp a2.eval D.oE).run tb.P w2 = .ok (.value (.tuple #[e2.key, e2.val])) w2 := by
      simp only [execOp, hD.hE.1, hev2, Sem.run_bind, hent, Result.andThen_ok, Sem.run_pure]
    let s2 : St := { s with t := (s.t.set 6 (.tuple ⟨[.bool true, e.key, e.val]⟩)).set 7 (.bool true) }
    let s3 : St := { s2 with t := s2.t.set 8 (.tuple ⟨[e.key, e.val]⟩) }
    have hs3 : SR ι2 s3 b (a2.put D.oE.dst (.tuple #[e2.key, e2.val])) w2 := by
      refine ⟨hs2.rel, ?_, hs2.ro, ?_⟩
      · rw [hD.hE.2.1]
        exact hs2.tr.set (by show 8 < s.n; rw [hk.n]; omega) (.tuple (.cons hk2 (.cons hv2 .nil)))
      · have := hs2.dr
        rw [hD.hE.2.1]; exact this
    let s4 : St := { s3 with t := s3.t.set 9 e.key }
    let s5 : St := { s4 with t := s4.t.set 3 e.key }
    have hop1 : OpSnd tb.P #[D.oE, D.oX2, D.oA] 1 D.oX2 s3 s4 :=
      opP ok hD.hX2.1 hD.hX2.2.2 hD.hX2.2.1 (by show 9 < s.n; rw [hk.n]; omega) rfl rfl (by
        show (evG ((s2.t.set 8 _).get 8)).bind _ = _
        rw [T.get_set, if_pos rfl]
        rfl)
    have hop2 : OpSnd tb.P #[D.oE, D.oX2, D.oA] 2 D.oA s4 s5 :=
      opP ok hD.hA.1 hD.hA.2.2 hD.hA.2.1 (by show 3 < s.n; rw [hk.n]; omega) rfl rfl (by
        show evG ((s3.t.set 9 _).get 9) = _
        rw [T.get_set, if_pos rfl]
        rfl)
    obtain ⟨ι4, w4, a4, st4, hs4, hss4⟩ := hop1.2 ι2 b _ (.code D.cT :: .inBlock 1 :: .inLoop D.body :: k) cs w2 [2] hs3 (ht2.free (hIN _ _ hI)) (by unfold Region.wanted; rw [hD.hX2.2.2]) rfl
    have ht4 : Top N ι4 s.m := ht2.stp hss4.stp
    obtain ⟨ι5, w5, a5, st5, hs5, hss5⟩ := hop2.2 ι4 b _ (.code D.cT :: .inBlock 1 :: .inLoop D.body :: k) cs w4 [] hs4 (ht4.free (hIN _ _ hI)) (by unfold Region.wanted; rw [hD.hA.2.2]) rfl
    have ht5 : Top N ι5 s.m := ht4.stp hss5.stp
    have hk5 : KSt yv itA s5 := ⟨hk.n, hk.d, hk.ro, by
      show (((((s.t.set 6 _).set 7 _).set 8 _).set 9 _).set 3 _).get 0 = _
      simp [T.get_set, hk.y], by
      show (((((s.t.set 6 _).set 7 _).set 8 _).set 9 _).set 3 _).get 5 = _
      simp [T.get_set, hk.i]⟩
    have hdl : done.length < es.length := by
      have := hpm.length_eq
      have h1 := List.length_pos_of_mem hmem
      rw [List.length_append] at this
      omega
    obtain ⟨n, s6, hex6, hI6, hk6⟩ := hstep done e s5 hI hes0 hdl hk5 (by
      show (s4.t.set 3 e.key).get 3 = _
      rw [T.get_set, if_pos rfl])
    rcases exec_sound ok n _ _ _ _ hex6 with ⟨v, hv, _⟩ | ⟨_, hc6⟩
    · cases hv
    obtain ⟨ι6, w6, a6, k6, st6, ha6, hs6, hss6⟩ := hc6 ι5 b a5 (.inBlock 1 :: .inLoop D.body :: k) cs w5 hs5 (ht5.free (hIN _ _ hI6))
    cases (show k6 = _ from ha6)
    have hstp6 := (hss4.stp.trans hss5.stp).trans hss6.stp
    obtain ⟨q1, q2, q3⟩ := g1.keep (ι' := ι6) (A' := s6.m) g3 hstp6
    have hle6 : InjLe ι ι6 := hle.trans (ht2.le (hIN _ _ hI6) hstp6)
    refine ⟨e, hmem, s6, ι6, w6, a6, hI6, hk6, ?_, hs6, (hss2.trans (SStp.trans ⟨hss4.stp, rfl, rfl⟩ hss5)).trans hss6, ht5.stp hss6.stp, hle6 _ _ hiA, hle6 _ _ hm, q3, q1, by rw [q2, hw2, ← hb2]⟩
    refine (st2.trans (.head (stepR_cond hb7) (.head stepR_skip (.head stepR_block (.head stepR_seq (.head stepR_region ?_)))))).trans (st6.trans (.one stepR_inBlock))
    exact .head (stepR_val rfl hD.hE.2.2 hne hexE) (st4.trans (st5.trans (.one stepR_region_end)))

include ok hD in
/-- All entries, in some order. -/
theorem keys_loop {yv : Value} {itA m clock : Nat} {es : List MapEntry} (I : List MapEntry → Mem → Prop)
    (hlt : ∀ e ∈ es, e.born < clock) (hnd : (es.map (·.born)).Nodup)
    (hIm : ∀ done B, I done B → B.get m = some (.map es clock)) (hIN : ∀ done B, I done B → B.next ≤ N)
    (hstep : ∀ done e s, I done s.m → e ∈ es → done.length < es.length → KSt yv itA s → s.t.get 3 = some e.key → ∃ n s', exec tb n D.cT s = .ok (.nrm, s') ∧ I (done ++ [e]) s'.m ∧ KSt yv itA s')
    {ι0 : Inj} {s0 : St} {w0 : World} (hr0 : Rel ι0 s0.m w0) {it mb : Nat} {lI lm : Loc} (hbI : lI.blk = it) (hsI : lI.sh = 0) (hmb : lm.blk = mb) (hit0 : w0.heap.size ≤ it) :
    ∀ (K : Nat) (done : List MapEntry), (leftM done es).length ≤ K → (done ++ leftM done es).Perm es → ∀ (ι : Inj) (s : St) (b : Frame) (a : Act) (k : List Item) (cs : List Frame) (w : World) (sn : Array Nat),
      SR ι s b a w → Top N ι s.m → KSt yv itA s → I done s.m → ι itA = some lI → ι m = some lm → it < w.heap.size → NL ι s.m it → w.heap[it]? = some (.mapIter (some mb) clock sn clock) → sn.toList = done.map (·.born) → SStp ι0 s0 w0 ι s w →
      ∃ done' s1 ι' w' a' k', done'.Perm es ∧ I done' s1.m ∧ KSt yv itA s1 ∧ Steps tb.P (lone (b.atR a (.inLoop D.body :: k)) cs w) (lone (b.atR a' k') cs w') ∧ Arr (.exit 0) k k' ∧ SR ι' s1 b a' w' ∧ SStp ι0 s0 w0 ι' s1 w' := by
  intro K
  induction K with
  | zero =>
    intro done hN hp ι s b a k cs w sn hs ht hk hI hiA hm hit hnl hw hsn hss
    rcases keys_one ok hD I hlt hnd hIm hIN hstep hr0 hs ht hk hI hiA hbI hsI hm hmb hit hnl hw hsn hss hit0 hp with ⟨hnil, s1, ι', w', a', k', h1, h2, h3, h4, h5, h6⟩ | ⟨e, he, _⟩
    · rw [hnil, List.append_nil] at hp
      exact ⟨done, s1, ι', w', a', k', hp, h1, h2, h3, h4, h5, h6⟩
    · have := List.length_pos_of_mem he
      omega
  | succ K ih =>
    intro done hN hp ι s b a k cs w sn hs ht hk hI hiA hm hit hnl hw hsn hss
    rcases keys_one ok hD I hlt hnd hIm hIN hstep hr0 hs ht hk hI hiA hbI hsI hm hmb hit hnl hw hsn hss hit0 hp with ⟨hnil, s1, ι', w', a', k', h1, h2, h3, h4, h5, h6⟩ | ⟨e, he, s1, ι', w', a', h1, h2, h3, h4, h5, h6, h7, h8, h9, h10, h11⟩
    · rw [hnil, List.append_nil] at hp
      exact ⟨done, s1, ι', w', a', k', hp, h1, h2, h3, h4, h5, h6⟩
    · have hl := leftM_lt hnd he
      obtain ⟨done', s2, ι2, w2, a2, k2, g1, g2, g3, g4, g5⟩ := ih (done ++ [e]) (by omega) (perm_step hnd hp he) ι' s1 b a' k cs w' (sn.push e.born) h4 h6 h2 h1 h7 h8 h9 h10 h11 (by simp [hsn]) h5
      exact ⟨done', s2, ι2, w2, a2, k2, g1, g2, g3, h3.trans g4, g5⟩

include ok hD in
/-- The function that calls a loop's round with each key of a map, in some order. -/
theorem keys_call {yv : Value} {bp m clock : Nat} {A : Mem} {es : List MapEntry} (I : List MapEntry → Mem → Prop)
    (hbox : loadF tb A.get D.tM (.pointer (some ⟨bp, 0, none⟩)) = .ok (.map (some m))) (hm : A.get m = some (.map es clock))
    (hlt : ∀ e ∈ es, e.born < clock) (hnd : (es.map (·.born)).Nodup)
    (hI0 : I [] (A.alloc .dead))
    (hIm : ∀ done B, I done B → B.get m = some (.map es clock)) (hIN : ∀ done B, I done B → B.next ≤ N)
    (hstep : ∀ done e s, I done s.m → e ∈ es → done.length < es.length → KSt yv A.next s → s.t.get 3 = some e.key → ∃ n s', exec tb n D.cT s = .ok (.nrm, s') ∧ I (done ++ [e]) s'.m ∧ KSt yv A.next s') :
    RCall N tb.P (.fn D.f [yv, .pointer (some ⟨bp, 0, none⟩)]) A fun v A' => v = .tuple ⟨[]⟩ ∧ ∃ done, done.Perm es ∧ I done A' := by
  refine RCall.fn hD.hf hD.hb hD.hng (by rw [hD.hn]; simp) ok fun ι b a k cs w hs ht => ?_
  have hn14 : D.fn.ntmps = 14 := hD.hn
  have hN1 : (A.alloc .dead).next ≤ N := hIN _ _ hI0
  have hAN : A.next ≤ N := by rw [next_alloc] at hN1; omega
  let s0 : St := { t := T.puts .e 0 [yv, .pointer (some ⟨bp, 0, none⟩)], n := D.fn.ntmps, d := [], m := A, ro := none }
  have hs : SR ι s0 b a w := hs
  have t0 : s0.t.get 0 = some yv := by
    show (T.puts .e 0 [yv, .pointer (some ⟨bp, 0, none⟩)]).get 0 = some yv
    rw [T.get_puts]; rfl
  have t1 : s0.t.get 1 = some (.pointer (some ⟨bp, 0, none⟩)) := by
    show (T.puts .e 0 [yv, .pointer (some ⟨bp, 0, none⟩)]).get 1 = some (.pointer (some ⟨bp, 0, none⟩))
    rw [T.get_puts]; rfl
  let s1 : St := { s0 with t := s0.t.set 4 (.map (some m)) }
  have hop : OpSnd tb.P #[D.oL, D.oR] 0 D.oL s0 s1 :=
    opR ok hD.hL.1 hD.hL.2.2 hD.hL.2.1 (by show 4 < D.fn.ntmps; omega) rfl rfl (by
      have e : rOp tb s0.t s0.m.get (.load D.tM (.tmp 1)) = (evG (s0.t.get 1)).bind fun x => loadF tb s0.m.get D.tM x := rfl
      rw [e, t1]
      exact hbox)
  obtain ⟨ι1, w1, a1, st1, hs1, hss1⟩ := hop.2 ι b a (.code (.block 0 (.loop D.body)) :: k) cs w [1] hs (ht.free hAN) (by unfold Region.wanted; rw [hD.hL.2.2]) rfl
  have ht1 : Top N ι1 A := ht.stp hss1.stp
  obtain ⟨lm, hlm, hev⟩ : ∃ lm, ι1 m = some lm ∧ a1.eval (.tmp 4) = .map (some lm.blk) := by
    obtain ⟨v', h1, h2⟩ := hs1.tr.2 4 (.map (some m)) (by show (s0.t.set 4 _).get 4 = _; rw [T.get_set, if_pos rfl])
    cases h2 with
    | map hl => exact ⟨_, hl, by simp only [Act.eval, Array.getD_eq_getD_getElem?, h1, Option.getD_some]⟩
  obtain ⟨o', hwm, -, es', rfl, hes⟩ := hs1.rel.obs _ _ _ hm rfl hlm
  have hrun := range_run (P := tb.P) (und_run ok hD.hu w1) hwm
  have hexR : (execOp a1.eval D.oR).run tb.P w1 = .ok (.value (.pointer (some ⟨w1.heap.size, 0, none⟩))) { w1 with heap := w1.heap.push (.mapIter (some lm.blk) clock #[] clock) } := by
    simp only [execOp, hD.hR.1, hev, Sem.run_bind, hrun, Result.andThen_ok, Sem.run_pure]
  have hnr : ∀ c, D.oR.op ≠ .defer c := fun c h => by rw [hD.hR.1] at h; cases h
  obtain ⟨ι2, h9, h10, h11⟩ := hs1.rel.come (ob := .dead) (o' := .mapIter (some lm.blk) clock #[] clock) (sz := 0) (w' := { w1 with heap := w1.heap.push (.mapIter (some lm.blk) clock #[] clock) }) (ht1 _ (Nat.le_refl _) (by show A.next < N; rw [next_alloc] at hN1; omega)) (fun _ _ _ h => by cases h) (Wu_push w1 _ w1.drawn (Nat.le_refl _)) (by simp) (fun _ _ _ => trivial)
  have hle2 : InjLe ι1 ι2 := Top.le (A := A) ht1 hN1 h11
  have ht2 : Top N ι2 (A.alloc .dead) := Top.stp (A := A) ht1 h11
  let s2 : St := { s1 with m := A.alloc .dead, t := s1.t.set 5 (.pointer (some ⟨A.next, 0, none⟩)) }
  let w2 : World := { w1 with heap := w1.heap.push (.mapIter (some lm.blk) clock #[] clock) }
  have hs2 : SR ι2 s2 b (a1.put D.oR.dst (.pointer (some ⟨w1.heap.size, 0, none⟩))) w2 := by
    refine ⟨h10, ?_, hs1.ro.mono hle2, ?_⟩
    · rw [hD.hR.2.1]
      exact (hs1.tr.mono hle2).set (by show 5 < D.fn.ntmps; omega) (VR.ptr (o := 0) h9)
    · have := hs1.dr.mono hle2
      rw [hD.hR.2.1]; exact this
  have hk2 : KSt yv A.next s2 := ⟨hn14, rfl, rfl, by
    show ((s0.t.set 4 _).set 5 _).get 0 = _
    simp [T.get_set, t0], by
    show ((s0.t.set 4 _).set 5 _).get 5 = _
    simp [T.get_set]⟩
  have hnl : NL ι2 (A.alloc .dead) w1.heap.size := by
    rintro x l ⟨o, hg, hal⟩ hl
    rw [get_alloc] at hg
    by_cases e : x = A.next
    · rw [if_pos e] at hg; cases hg; cases hal
    · rw [if_neg e] at hg
      have hx : x < A.next := by
        rcases Nat.lt_or_ge x A.next with h | h
        · exact h
        · rw [hs1.rel.wf x h] at hg; cases hg
      have : ι2 x = ι1 x := h11.out x (.inl hx)
      rw [this] at hl
      have := hs1.rel.rng x l hl
      omega
  have hl0 : leftM [] es = es := by
    unfold leftM
    rw [List.filter_eq_self]
    intro x _; rfl
  obtain ⟨done, s3, ι3, w3, a3, k3, hp, hI3, hk3, st3, ha3, hs3, hss3⟩ := keys_loop ok hD (yv := yv) (itA := A.next) I hlt hnd hIm hIN hstep (ι0 := ι1) (s0 := s1) (w0 := w1) hs1.rel (it := w1.heap.size) (mb := lm.blk) (lI := ⟨w1.heap.size, 0, 0⟩) (lm := lm) rfl rfl rfl (Nat.le_refl _) es.length []
    (by rw [hl0]; exact Nat.le_refl _) (by rw [hl0]; exact .refl _) ι2 s2 b _ (.inBlock 0 :: k) cs w2 #[] hs2 ht2 hk2 hI0 h9 (hle2 _ _ hlm) (by show _ < (w1.heap.push _).size; simp) hnl (by show (w1.heap.push _)[w1.heap.size]? = _; simp) rfl ⟨h11, rfl, rfl⟩
  obtain ⟨k4, rfl, hx4⟩ := ha3
  have hx4 : exitTo 0 k4 = some k := hx4
  refine ⟨.nrm, s3, ι3, w3, a3, k, ⟨.inl rfl, s3.m, [], by rw [hk3.d]; rfl, by rw [hD.hres]; rfl, rfl, done, hp, hI3⟩, hIN _ _ hI3, ?_, rfl, hs3, hss1.trans hss3⟩
  have st4 : Steps tb.P (lone (b.atR (a1.put D.oR.dst (.pointer (some ⟨w1.heap.size, 0, none⟩))) (.code (.loop D.body) :: .inBlock 0 :: k)) cs w2) (lone (b.atR a3 (.code (.exit 0) :: k4)) cs w3) := by
    refine steps_swap st3 stepR_inLoop stepR_loop fun h => ?_
    have := congrArg (fun m : Machine => m.gs) h
    simp only [lone] at this
    have := congrArg (fun g : Array Goroutine => g.toList.map fun g => g.frame.todo) this
    simp [Frame.atR] at this
  refine .head stepR_seq (.head stepR_region (st1.trans (.head (stepR_val rfl hD.hR.2.2 hnr hexR) (.head stepR_region_end (.head stepR_block (st4.trans (.one (stepR_exit hx4))))))))
end Go.Am

/-
  The abstract machine AM, part 64: the keys of a map that may be nil.
-/
namespace Go.Am
variable {tb : Tab} (ok : TabOk tb) {P : Program} {N : Nat}

theorem range_nil {w : World} {t : TypeId} {kt vt : TypeId} (ht : (underlying t).run P w = .ok (.map kt vt) w) :
    (Instr.range t (.map none)).run P w = .ok (.pointer (some ⟨w.heap.size, 0, none⟩)) { w with heap := w.heap.push (.mapIter none 0 #[] 0) } := by
  unfold Instr.range
  simp only [Sem.run_bind, ht, Result.andThen_ok, Sem.run_pure, run_newObj]
theorem next_nil {w : World} {it : Nat} {rt : TypeId} (hit : w.heap[it]? = some (.mapIter none 0 #[] 0)) :
    (Instr.next (.pointer (some ⟨it, 0, none⟩)) false rt).run P w = .ok (.tuple #[.bool false]) w := by
  unfold Instr.next
  simp only [Sem.run_bind, getObj_run hit (by simp), Result.andThen_ok]
  rfl

/-- A map, or none. -/
def MapV (A : Mem) (mv : Value) (es : List MapEntry) (clock : Nat) : Prop := (∃ m, mv = .map (some m) ∧ m < A.next ∧ A.get m = some (.map es clock)) ∨ (mv = .map none ∧ es = [])
theorem MapV.same {A B : Mem} {mv : Value} {es : List MapEntry} {clock : Nat} (h : MapV A mv es clock) (hn : A.next ≤ B.next) (hg : ∀ y, y < A.next → B.get y = A.get y) : MapV B mv es clock := by
  rcases h with ⟨m, h1, h2, h3⟩ | h
  · exact .inl ⟨m, h1, by omega, (hg m h2).trans h3⟩
  · exact .inr h

variable {D : KeysF} (hD : KeysOk tb D)
include ok hD in
theorem keys_nil {yv : Value} {bp : Nat} {A : Mem} (hbox : loadF tb A.get D.tM (.pointer (some ⟨bp, 0, none⟩)) = .ok (.map none)) (hN1 : (A.alloc .dead).next ≤ N) :
    RCall N tb.P (.fn D.f [yv, .pointer (some ⟨bp, 0, none⟩)]) A fun v A' => v = .tuple ⟨[]⟩ ∧ A' = A.alloc .dead := by
  refine RCall.fn hD.hf hD.hb hD.hng (by rw [hD.hn]; simp) ok fun ι b a k cs w hs ht => ?_
  have hn14 : D.fn.ntmps = 14 := hD.hn
  have hAN : A.next ≤ N := by rw [next_alloc] at hN1; omega
  let s0 : St := { t := T.puts .e 0 [yv, .pointer (some ⟨bp, 0, none⟩)], n := D.fn.ntmps, d := [], m := A, ro := none }
  have hs : SR ι s0 b a w := hs
  have t1 : s0.t.get 1 = some (.pointer (some ⟨bp, 0, none⟩)) := by
    show (T.puts .e 0 [yv, .pointer (some ⟨bp, 0, none⟩)]).get 1 = some (.pointer (some ⟨bp, 0, none⟩))
    rw [T.get_puts]; rfl
  let s1 : St := { s0 with t := s0.t.set 4 (.map none) }
  have hop : OpSnd tb.P #[D.oL, D.oR] 0 D.oL s0 s1 :=
    opR ok hD.hL.1 hD.hL.2.2 hD.hL.2.1 (by show 4 < D.fn.ntmps; omega) rfl rfl (by
      have e : rOp tb s0.t s0.m.get (.load D.tM (.tmp 1)) = (evG (s0.t.get 1)).bind fun x => loadF tb s0.m.get D.tM x := rfl
      rw [e, t1]
      exact hbox)
  obtain ⟨ι1, w1, a1, st1, hs1, hss1⟩ := hop.2 ι b a (.code (.block 0 (.loop D.body)) :: k) cs w [1] hs (ht.free hAN) (by unfold Region.wanted; rw [hD.hL.2.2]) rfl
  have ht1 : Top N ι1 A := ht.stp hss1.stp
  have hev : a1.eval (.tmp 4) = .map none := by
    obtain ⟨v', h1, h2⟩ := hs1.tr.2 4 (.map none) (by show (s0.t.set 4 _).get 4 = _; rw [T.get_set, if_pos rfl])
    cases h2
    simp only [Act.eval, Array.getD_eq_getD_getElem?, h1, Option.getD_some]
  have hrun := range_nil (P := tb.P) (und_run ok hD.hu w1)
  have hexR : (execOp a1.eval D.oR).run tb.P w1 = .ok (.value (.pointer (some ⟨w1.heap.size, 0, none⟩))) { w1 with heap := w1.heap.push (.mapIter none 0 #[] 0) } := by
    simp only [execOp, hD.hR.1, hev, Sem.run_bind, hrun, Result.andThen_ok, Sem.run_pure]
  have hnr : ∀ c, D.oR.op ≠ .defer c := fun c h => by rw [hD.hR.1] at h; cases h
  obtain ⟨ι2, h9, h10, h11⟩ := hs1.rel.come (ob := .dead) (o' := .mapIter none 0 #[] 0) (sz := 0) (w' := { w1 with heap := w1.heap.push (.mapIter none 0 #[] 0) }) (ht1 _ (Nat.le_refl _) (by show A.next < N; rw [next_alloc] at hN1; omega)) (fun _ _ _ h => by cases h) (Wu_push w1 _ w1.drawn (Nat.le_refl _)) (by simp) (fun _ _ _ => trivial)
  have hle2 : InjLe ι1 ι2 := Top.le (A := A) ht1 hN1 h11
  have ht2 : Top N ι2 (A.alloc .dead) := Top.stp (A := A) ht1 h11
  let s2 : St := { s1 with m := A.alloc .dead, t := s1.t.set 5 (.pointer (some ⟨A.next, 0, none⟩)) }
  let w2 : World := { w1 with heap := w1.heap.push (.mapIter none 0 #[] 0) }
  have hs2 : SR ι2 s2 b (a1.put D.oR.dst (.pointer (some ⟨w1.heap.size, 0, none⟩))) w2 := by
    refine ⟨h10, ?_, hs1.ro.mono hle2, ?_⟩
    · rw [hD.hR.2.1]
      exact (hs1.tr.mono hle2).set (by show 5 < D.fn.ntmps; omega) (VR.ptr (o := 0) h9)
    · have := hs1.dr.mono hle2
      rw [hD.hR.2.1]; exact this
  have hev2 : (a1.put D.oR.dst (.pointer (some ⟨w1.heap.size, 0, none⟩))).eval (.tmp 5) = .pointer (some ⟨w1.heap.size, 0, none⟩) := by
    obtain ⟨v', h1, h2⟩ := hs2.tr.2 5 (.pointer (some ⟨A.next, 0, none⟩)) (by show (s1.t.set 5 _).get 5 = _; rw [T.get_set, if_pos rfl])
    cases h2 with
    | ptr hl =>
      rw [h9] at hl
      cases hl
      simp only [Act.eval, Array.getD_eq_getD_getElem?, h1, Option.getD_some]
  have hnn : ∀ c, D.oN.op ≠ .defer c := fun c h => by rw [hD.hN.1] at h; cases h
  have hrunN := next_nil (P := tb.P) (w := w2) (it := w1.heap.size) (rt := D.oN.type) (by show (w1.heap.push _)[w1.heap.size]? = _; simp)
  have hexN : (execOp (a1.put D.oR.dst (.pointer (some ⟨w1.heap.size, 0, none⟩))).eval D.oN).run tb.P w2 = .ok (.value (.tuple #[.bool false])) w2 := by
    simp only [execOp, hD.hN.1, hev2, Sem.run_bind, hrunN, Result.andThen_ok, Sem.run_pure]
  let s3 : St := { s2 with t := s2.t.set 6 (.tuple ⟨[.bool false]⟩) }
  let s4 : St := { s3 with t := s3.t.set 7 (.bool false) }
  have hs3 : SR ι2 s3 b ((a1.put D.oR.dst (.pointer (some ⟨w1.heap.size, 0, none⟩))).put D.oN.dst (.tuple #[.bool false])) w2 := by
    refine ⟨hs2.rel, ?_, hs2.ro, ?_⟩
    · rw [hD.hN.2.1]; exact hs2.tr.set (by show 6 < D.fn.ntmps; omega) (.tuple (.cons (.bool _) .nil))
    · have := hs2.dr
      rw [hD.hN.2.1]; exact this
  have hop2 : OpSnd tb.P #[D.oN, D.oX] 1 D.oX s3 s4 :=
    opP ok hD.hX.1 hD.hX.2.2 hD.hX.2.1 (by show 7 < D.fn.ntmps; omega) rfl rfl (by
      show (evG ((s2.t.set 6 _).get 6)).bind _ = _
      rw [T.get_set, if_pos rfl]
      rfl)
  obtain ⟨ι4, w4, a4, st4, hs4, hss4⟩ := hop2.2 ι2 b _ (.code (.seq (.cond (.tmp 7) .skip (.exit 0)) (.block 1 (.seq (.region D.i2 #[D.oE, D.oX2, D.oA] false) D.cT))) :: .inLoop D.body :: .inBlock 0 :: k) cs w2 [] hs3 (ht2.free hN1) (by unfold Region.wanted; rw [hD.hX.2.2]) rfl
  have hb7 : a4.eval (.tmp 7) = .bool false := by
    obtain ⟨v7, h1, h2⟩ := hs4.tr.2 7 (.bool false) (by show (s3.t.set 7 (.bool false)).get 7 = _; rw [T.get_set, if_pos rfl])
    simp only [Act.eval, Array.getD_eq_getD_getElem?, h1, Option.getD_some, h2.bool_inv]
  refine ⟨.nrm, s4, ι4, w4, a4, k, ⟨.inl rfl, A.alloc .dead, [], rfl, by rw [hD.hres]; rfl, rfl, rfl⟩, hN1, ?_, rfl, hs4, hss1.trans (SStp.trans (show SStp ι1 s1 w1 ι2 s3 w2 from ⟨h11, rfl, rfl⟩) hss4)⟩
  refine .head stepR_seq (.head stepR_region (st1.trans (.head (stepR_val rfl hD.hR.2.2 hnr hexR) (.head stepR_region_end (.head stepR_block (.head stepR_loop ?_))))))
  refine .head stepR_seq (.head stepR_region (.head (stepR_val rfl hD.hN.2.2 hnn hexN) (st4.trans (.head stepR_region_end (.head stepR_seq (.head (stepR_cond hb7) (.one (stepR_exit rfl))))))))

include ok hD in
/-- The function that calls a loop's round with each key of a map, in some order; of none, if there is no map. -/
theorem keys_callV {yv mv : Value} {bp clock : Nat} {A : Mem} {es : List MapEntry} (I : List MapEntry → Mem → Prop)
    (hbox : loadF tb A.get D.tM (.pointer (some ⟨bp, 0, none⟩)) = .ok mv) (hm : MapV A mv es clock)
    (hlt : ∀ e ∈ es, e.born < clock) (hnd : (es.map (·.born)).Nodup)
    (hI0 : I [] (A.alloc .dead))
    (hIm : ∀ done B, I done B → MapV B mv es clock) (hIN : ∀ done B, I done B → B.next ≤ N)
    (hstep : ∀ done e s, I done s.m → e ∈ es → done.length < es.length → KSt yv A.next s → s.t.get 3 = some e.key → ∃ n s', exec tb n D.cT s = .ok (.nrm, s') ∧ I (done ++ [e]) s'.m ∧ KSt yv A.next s') :
    RCall N tb.P (.fn D.f [yv, .pointer (some ⟨bp, 0, none⟩)]) A fun v A' => v = .tuple ⟨[]⟩ ∧ ∃ done, done.Perm es ∧ I done A' := by
  rcases hm with ⟨m, rfl, _, hm⟩ | ⟨rfl, rfl⟩
  · refine keys_call ok hD I hbox hm hlt hnd hI0 (fun done B h => ?_) hIN hstep
    rcases hIm done B h with ⟨m', e, _, h'⟩ | ⟨e, _⟩
    · cases e; exact h'
    · cases e
  · intro ι w s fr cs hr hcl ht
    obtain ⟨v, A', ι', w', v', ⟨rfl, rfl⟩, rest⟩ := keys_nil ok hD (yv := yv) hbox (hIN _ _ hI0) ι w s fr cs hr hcl ht
    exact ⟨_, _, ι', w', v', ⟨rfl, [], .refl _, hI0⟩, rest⟩
end Go.Am

/-
  The abstract machine AM, part 63: rows that are sorted; the hook of a function that sorts a map's keys.
-/
namespace Go.Am

/-! ### Order -/

/-- A strict order of all of some values. -/
structure LtOn (p : Value → Bool) (lt : Value → Value → Bool) : Prop where
  irr : ∀ a, p a = true → lt a a = false
  trans : ∀ a b c, p a = true → p b = true → p c = true → lt a b = true → lt b c = true → lt a c = true
  tri : ∀ a b, p a = true → p b = true → lt a b = false → lt b a = false → a = b
theorem LtOn.asymm {p : Value → Bool} {lt : Value → Value → Bool} (h : LtOn p lt) {a b : Value} (ha : p a = true) (hb : p b = true) (hl : lt a b = true) : lt b a = false := by
  cases hba : lt b a with
  | false => rfl
  | true =>
    have := h.trans a b a ha hb ha hl hba
    rw [h.irr a ha] at this; cases this
/-- Not greater is handed on. -/
theorem LtOn.le_trans {p : Value → Bool} {lt : Value → Value → Bool} (h : LtOn p lt) {a b c : Value} (ha : p a = true) (hb : p b = true) (hc : p c = true) (h1 : lt b a = false) (h2 : lt c b = false) : lt c a = false := by
  cases hca : lt c a with
  | false => rfl
  | true =>
    cases hab : lt a b with
    | true => rw [h.trans c a b hc ha hb hca hab] at h2; cases h2
    | false =>
      have := h.tri a b ha hb hab h1
      subst this
      rw [hca] at h2; cases h2

abbrev SortedV (lt : Value → Value → Bool) (l : List Value) : Prop := l.Pairwise fun a b => lt b a = false
def insV (lt : Value → Value → Bool) (x : Value) : List Value → List Value
  | [] => [x]
  | y :: l => match lt x y with
    | true => x :: y :: l
    | false => y :: insV lt x l
def sortV (lt : Value → Value → Bool) : List Value → List Value
  | [] => []
  | x :: l => insV lt x (sortV lt l)
theorem insV_perm (lt : Value → Value → Bool) (x : Value) : ∀ l, (insV lt x l).Perm (x :: l)
  | [] => .refl _
  | y :: l => by
    unfold insV
    split
    · exact .refl _
    · exact ((insV_perm lt x l).cons y).trans (.swap _ _ _)
theorem sortV_perm (lt : Value → Value → Bool) : ∀ l, (sortV lt l).Perm l
  | [] => .refl _
  | x :: l => (insV_perm lt x _).trans ((sortV_perm lt l).cons x)
theorem insV_sorted {p : Value → Bool} {lt : Value → Value → Bool} (h : LtOn p lt) {x : Value} (hx : p x = true) : ∀ {l : List Value}, (∀ y ∈ l, p y = true) → SortedV lt l → SortedV lt (insV lt x l)
  | [], _, _ => by simp [insV, SortedV]
  | y :: l, hp, hs => by
    unfold insV
    have hy := hp y (by simp)
    have hs' := List.pairwise_cons.1 hs
    split
    · rename_i hl
      refine List.pairwise_cons.2 ⟨fun z hz => ?_, hs⟩
      have hxy := h.asymm hx hy hl
      rcases List.mem_cons.1 hz with rfl | hz
      · exact hxy
      · exact h.le_trans hx hy (hp z (by simp [hz])) hxy (hs'.1 z hz)
    · rename_i hl
      refine List.pairwise_cons.2 ⟨fun z hz => ?_, insV_sorted h hx (fun z hz => hp z (by simp [hz])) hs'.2⟩
      rcases List.mem_cons.1 ((insV_perm lt x l).mem_iff.1 hz) with rfl | hz
      · exact hl
      · exact hs'.1 z hz
theorem sortV_sorted {p : Value → Bool} {lt : Value → Value → Bool} (h : LtOn p lt) : ∀ {l : List Value}, (∀ y ∈ l, p y = true) → SortedV lt (sortV lt l)
  | [], _ => .nil
  | x :: l, hp => insV_sorted h (hp x (by simp)) (fun y hy => hp y (by simp [(sortV_perm lt l).mem_iff.1 hy])) (sortV_sorted h fun y hy => hp y (by simp [hy]))
/-- Rows of the same values that are sorted are one. -/
theorem sorted_one {p : Value → Bool} {lt : Value → Value → Bool} (h : LtOn p lt) {l m : List Value} (hp : ∀ y ∈ l, p y = true) (hl : SortedV lt l) (hm : l.Perm m) : l = sortV lt m := by
  have hpm : ∀ y ∈ m, p y = true := fun y hy => hp y (hm.mem_iff.2 hy)
  refine List.Perm.eq_of_pairwise (le := fun a b => lt b a = false) (fun a b ha hb h1 h2 => ?_) hl (sortV_sorted h hpm) (hm.trans (sortV_perm lt m).symm)
  exact h.tri a b (hp a ha) (hpm b ((sortV_perm lt m).mem_iff.1 hb)) h2 h1

/-- One value goes down to its place. -/
theorem sorted_in {p : Value → Bool} {lt : Value → Value → Bool} (h : LtOn p lt) {S1 S2 : List Value} {x : Value} (hp : ∀ y ∈ S1 ++ x :: S2, p y = true) (hs : SortedV lt (S1 ++ S2)) (h2 : ∀ y ∈ S2, lt x y = true) (h1 : ∀ S y, S1 = S ++ [y] → lt x y = false) : SortedV lt (S1 ++ x :: S2) := by
  have hx := hp x (by simp)
  have ha := List.pairwise_append.1 hs
  refine List.pairwise_append.2 ⟨ha.1, List.pairwise_cons.2 ⟨fun z hz => h.asymm hx (hp z (by simp [hz])) (h2 z hz), ha.2.1⟩, fun a haS b hb => ?_⟩
  rcases List.mem_cons.1 hb with rfl | hb
  · rcases List.eq_nil_or_concat S1 with rfl | ⟨S, y, rfl⟩
    · cases haS
    · have hxy := h1 S y (by simp)
      rw [List.concat_eq_append] at haS ha
      rcases List.mem_append.1 haS with haS | haS
      · have hay := (List.pairwise_append.1 ha.1).2.2 a haS y (by simp)
        exact h.le_trans (hp a (by simp [haS])) (hp y (by simp)) hx hay hxy
      · simp only [List.mem_singleton] at haS
        rw [haS]; exact hxy
  · exact ha.2.2 a haS b hb

/-! ### Strings, and bytes -/

def isStrV : Value → Bool
  | .string _ => true
  | _ => false
def ltStrV : Value → Value → Bool
  | .string a, .string b => bytesLt a.data.toList b.data.toList
  | _, _ => false
def isU8V : Value → Bool
  | .int .u8 (.ofNat n) => Nat.blt n 256
  | _ => false
def ltU8V : Value → Value → Bool
  | .int _ (.ofNat a), .int _ (.ofNat b) => Nat.blt a b
  | _, _ => false
theorem bytesLt_irr : ∀ x, bytesLt x x = false
  | [] => rfl
  | a :: x => by
    have : Nat.blt a.toNat a.toNat = false := by
      cases h : Nat.blt a.toNat a.toNat with
      | false => rfl
      | true => rw [Nat.blt_eq] at h; omega
    simp [bytesLt, this, bytesLt_irr x]
theorem bytesLt_trans : ∀ x y z, bytesLt x y = true → bytesLt y z = true → bytesLt x z = true
  | _, [], _, h, _ => by simp [bytesLt] at h
  | _, _ :: _, [], _, h => by simp [bytesLt] at h
  | [], b :: y, c :: z, _, _ => rfl
  | a :: x, b :: y, c :: z, h1, h2 => by
    simp only [bytesLt, Bool.or_eq_true, Bool.and_eq_true, Nat.blt_eq, Nat.beq_eq] at h1 h2 ⊢
    rcases h1 with h1 | ⟨h1, h1'⟩
    · rcases h2 with h2 | ⟨h2, _⟩
      · left; omega
      · left; omega
    · rcases h2 with h2 | ⟨h2, h2'⟩
      · left; omega
      · exact .inr ⟨by omega, bytesLt_trans x y z h1' h2'⟩
theorem bytesLt_tri : ∀ x y, bytesLt x y = false → bytesLt y x = false → x = y
  | [], [], _, _ => rfl
  | [], _ :: _, h, _ => by simp [bytesLt] at h
  | _ :: _, [], _, h => by simp [bytesLt] at h
  | a :: x, b :: y, h1, h2 => by
    simp only [bytesLt, Bool.or_eq_false_iff, Bool.and_eq_false_iff] at h1 h2
    have e : a.toNat = b.toNat := by
      rcases Nat.lt_trichotomy a.toNat b.toNat with h | h | h
      · have := h1.1; rw [show Nat.blt a.toNat b.toNat = true by rw [Nat.blt_eq]; exact h] at this; cases this
      · exact h
      · have := h2.1; rw [show Nat.blt b.toNat a.toNat = true by rw [Nat.blt_eq]; exact h] at this; cases this
    have e1 : bytesLt x y = false := by
      rcases h1.2 with h | h
      · rw [e] at h; simp at h
      · exact h
    have e2 : bytesLt y x = false := by
      rcases h2.2 with h | h
      · rw [e] at h; simp at h
      · exact h
    rw [bytesLt_tri x y e1 e2, UInt8.toNat_inj.1 e]
theorem ltStr_on : LtOn isStrV ltStrV where
  irr := fun a ha => by
    cases a <;> first | exact bytesLt_irr _ | cases ha
  trans := fun a b c ha hb hc => by
    cases a <;> first | (cases ha; done) | skip
    cases b <;> first | (cases hb; done) | skip
    cases c <;> first | (cases hc; done) | skip
    exact bytesLt_trans _ _ _
  tri := fun a b ha hb h1 h2 => by
    cases a <;> first | (cases ha; done) | skip
    cases b <;> first | (cases hb; done) | skip
    rename_i x y
    have := bytesLt_tri _ _ h1 h2
    obtain ⟨⟨x⟩⟩ := x
    obtain ⟨⟨y⟩⟩ := y
    simp only at this
    rw [this]
theorem isU8_inv {a : Value} (h : isU8V a = true) : ∃ n : Nat, a = .int .u8 (.ofNat n) := by
  unfold isU8V at h
  split at h
  · exact ⟨_, rfl⟩
  · cases h
theorem isU8_lt {n : Nat} (h : isU8V (.int .u8 (.ofNat n)) = true) : n < 256 := by
  rw [← Nat.blt_eq]; exact h
theorem ltU8_on : LtOn isU8V ltU8V where
  irr := fun a ha => by
    obtain ⟨n, rfl⟩ := isU8_inv ha
    show Nat.blt n n = false
    cases h : Nat.blt n n with
    | false => rfl
    | true => rw [Nat.blt_eq] at h; omega
  trans := fun a b c ha hb hc h1 h2 => by
    obtain ⟨n, rfl⟩ := isU8_inv ha
    obtain ⟨m, rfl⟩ := isU8_inv hb
    obtain ⟨k, rfl⟩ := isU8_inv hc
    have h1 : Nat.blt n m = true := h1
    have h2 : Nat.blt m k = true := h2
    show Nat.blt n k = true
    rw [Nat.blt_eq] at *
    omega
  tri := fun a b ha hb h1 h2 => by
    obtain ⟨n, rfl⟩ := isU8_inv ha
    obtain ⟨m, rfl⟩ := isU8_inv hb
    have h1 : Nat.blt n m = false := h1
    have h2 : Nat.blt m n = false := h2
    have : n = m := by
      rcases Nat.lt_trichotomy n m with h | h | h
      · rw [show Nat.blt n m = true by rw [Nat.blt_eq]; exact h] at h1; cases h1
      · exact h
      · rw [show Nat.blt m n = true by rw [Nat.blt_eq]; exact h] at h2; cases h2
    rw [this]
end Go.Am
