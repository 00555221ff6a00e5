/-
  The abstract machine AM: a machine for programs of the model that draws nothing and moves no block; and the proof that what it answers the model answers.
  Part F: no conditions.
-/
import Derived.Test.YtoflaiakfmofoaaGreatDoorAmE

/-
  The abstract machine AM, part 45: its steps as equations, for values of which parts are not known.
-/
namespace Go.Am
variable {tb : Tab} {ih : Code → St → R (Ex × St)}

theorem R.bind_congr {α β : Type} {x x' : R α} (f : α → R β) (h : x = x') : x.bind f = x'.bind f := by rw [h]
theorem R.ok_bind {α β : Type} (a : α) (f : α → R β) : (R.ok a).bind f = f a := rfl

theorem opF_congr {o : Oper} {s s' : St} (k : St → R (Ex × St)) (h : s = s') : opF tb ih o s k = opF tb ih o s' k := by rw [h]
theorem putT_congr {s s' : St} {d : Option Tmp} {v v' : Value} (k : St → R (Ex × St)) (h : s = s') (hv : v = v') : putT s d v k = putT s' d v' k := by rw [h, hv]
theorem runOps_congr {ops l : List Oper} {s s' : St} (h : s = s') : runOps tb ih ops l s = runOps tb ih ops l s' := by rw [h]

/-! ### Code -/
theorem exec_seq (n : Nat) (a b : Code) (s : St) : exec tb (n + 1) (.seq a b) s = (exec tb n a s).bind fun (e, s') => match e with
    | .nrm => exec tb n b s'
    | e => .ok (e, s') := rfl
theorem exec_region (n id : Nat) (ops : Array Oper) (s : St) : exec tb (n + 1) (.region id ops false) s = runOps tb (exec tb n) ops.toList ops.toList s := rfl
theorem exec_skip (n : Nat) (s : St) : exec tb (n + 1) .skip s = .ok (.nrm, s) := rfl
theorem exec_ret (n : Nat) (s : St) : exec tb (n + 1) .ret s = .ok (.ret, s) := rfl
theorem exec_exit (n id : Nat) (s : St) : exec tb (n + 1) (.exit id) s = .ok (.exit id, s) := rfl
theorem exec_scope (n : Nat) (c : Code) (s : St) : exec tb (n + 1) (.scope c) s = exec tb n c s := rfl
theorem exec_block (n id : Nat) (c : Code) (s : St) : exec tb (n + 1) (.block id c) s = (exec tb n c s).bind fun (e, s') => match e with
    | .exit i => bif Nat.beq i id then .ok (.nrm, s') else .ok (.exit i, s')
    | e => .ok (e, s') := rfl
theorem exec_cond (n : Nat) (c : Operand) (a b : Code) (s : St) : exec tb (n + 1) (.cond c a b) s = (ev s.t c).bind fun v => match v with
    | .bool true => exec tb n a s
    | .bool false => exec tb n b s
    | _ => .no 330 := rfl
theorem exec_loop (n : Nat) (c : Code) (s : St) : exec tb (n + 1) (.loop c) s = (exec tb n c s).bind fun (e, s') => match e with
    | .nrm => exec tb n (.loop c) s'
    | e => .ok (e, s') := rfl
theorem cond_val {α : Type} (p : Bool) (x y : R α) (z : R α) : (match Value.bool p with
    | .bool true => x
    | .bool false => y
    | _ => z) = if p = true then x else y := by cases p <;> rfl

/-! ### Operations -/
theorem runOps_nil (ops : List Oper) (s : St) : runOps tb ih ops [] s = .ok (.nrm, s) := rfl
theorem runOps_cons (ops l : List Oper) (dst : Option Tmp) (op : Op) (ty : TypeId) (pos : String) (after : Array Edge) (s : St) :
    runOps tb ih ops ({ dst, op, type := ty, pos, after, guard := none } :: l) s = opF tb ih { dst, op, type := ty, pos, after, guard := none } s (runOps tb ih ops l) := rfl
section
variable (dst : Option Tmp) (ty : TypeId) (pos : String) (after : Array Edge) (g : Option (Nat × Bool)) (s : St) (k : St → R (Ex × St))
theorem opF_move (x : Operand) : opF tb ih { dst, op := .move x, type := ty, pos, after, guard := g } s k = (ev s.t x).bind fun v => putT s dst v k := rfl
theorem opF_assign (x : Operand) : opF tb ih { dst, op := .assign x, type := ty, pos, after, guard := g } s k = (ev s.t x).bind fun v => putT s dst v k := rfl
theorem R.bind_bind {α β γ : Type} (x : R α) (f : α → R β) (h : β → R γ) : (x.bind f).bind h = x.bind fun a => (f a).bind h := by cases x <;> rfl
theorem opF_P {o : Op} (hc : cls tb o = .P) (hi : isCall o = none) : opF tb ih { dst, op := o, type := ty, pos, after, guard := g } s k = (pOp tb s.t o).bind fun v => putT s dst v k := by
  unfold opF; simp only [hi, hc]
theorem opF_Rd {o : Op} (hc : cls tb o = .Rd) (hi : isCall o = none) : opF tb ih { dst, op := o, type := ty, pos, after, guard := g } s k = (rOp tb s.t s.m.get o).bind fun v => putT s dst v k := by
  unfold opF; simp only [hi, hc]
theorem opF_Al {o : Op} (hc : cls tb o = .Al) (hi : isCall o = none) : opF tb ih { dst, op := o, type := ty, pos, after, guard := g } s k = (aOp tb s.t o).bind fun (ob, way) => putT { s with m := s.m.alloc ob } dst (way.at s.m.next) k := by
  unfold opF; simp only [hi, hc]
/-- Of integers, strings and truths. -/
theorem opF_bin (op : BinOp) (t : TypeId) (x y : Operand) (r : TypeId) (hc : cls tb (.binOp op t x y r) = .P) : opF tb ih { dst, op := .binOp op t x y r, type := ty, pos, after, guard := g } s k =
    (ev s.t x).bind fun a => (ev s.t y).bind fun b => (binF op (tb.und t) a b).bind fun v => putT s dst v k := by
  rw [opF_P _ _ _ _ _ _ _ hc rfl]
  simp only [pOp, R.bind_bind]
def isArith : BinOp → Bool
  | .eql | .neq => false
  | _ => true
theorem opF_ari (op : BinOp) (t : TypeId) (x y : Operand) (r : TypeId) (h : isArith op = true) : opF tb ih { dst, op := .binOp op t x y r, type := ty, pos, after, guard := g } s k =
    (ev s.t x).bind fun a => (ev s.t y).bind fun b => (binF op (tb.und t) a b).bind fun v => putT s dst v k :=
  opF_bin _ _ _ _ _ _ _ _ _ _ _ _ (by cases op <;> first | rfl | cases h)
theorem opF_neq (t : TypeId) (x y : Operand) (r : TypeId) (h : basicD (tb.und t) = true) : opF tb ih { dst, op := .binOp .neq t x y r, type := ty, pos, after, guard := g } s k =
    (ev s.t x).bind fun a => (ev s.t y).bind fun b => (binF .neq (tb.und t) a b).bind fun v => putT s dst v k :=
  opF_bin _ _ _ _ _ _ _ _ _ _ _ _ (by unfold cls; simp only [h, cond_true])
theorem opF_eql (t : TypeId) (x y : Operand) (r : TypeId) (h : basicD (tb.und t) = true) : opF tb ih { dst, op := .binOp .eql t x y r, type := ty, pos, after, guard := g } s k =
    (ev s.t x).bind fun a => (ev s.t y).bind fun b => (binF .eql (tb.und t) a b).bind fun v => putT s dst v k :=
  opF_bin _ _ _ _ _ _ _ _ _ _ _ _ (by unfold cls; simp only [h, cond_true])
theorem opF_un (op : UnOp) (t : TypeId) (x : Operand) : opF tb ih { dst, op := .unOp op t x, type := ty, pos, after, guard := g } s k = (ev s.t x).bind fun a => (unF op a).bind fun v => putT s dst v k := by
  rw [opF_P _ _ _ _ _ _ _ rfl rfl]
  simp only [pOp, R.bind_bind]
theorem opF_index (t : TypeId) (x y : Operand) : opF tb ih { dst, op := .index t x y, type := ty, pos, after, guard := g } s k = (ev s.t x).bind fun a => (ev s.t y).bind fun b => (indexF tb t a b).bind fun v => putT s dst v k := by
  rw [opF_P _ _ _ _ _ _ _ rfl rfl]; simp only [pOp, R.bind_bind]
theorem opF_indexAddr (t : TypeId) (x : Tmp) (y : Operand) : opF tb ih { dst, op := .indexAddr t (.tmp x) y, type := ty, pos, after, guard := g } s k = (ev s.t (.tmp x)).bind fun a => (ev s.t y).bind fun b => (indexAddrF tb t a b).bind fun v => putT s dst v k := by
  rw [opF_P _ _ _ _ _ _ _ rfl rfl]; simp only [pOp, R.bind_bind]
theorem opF_fieldAddr (t : TypeId) (x : Operand) (i : Nat) : opF tb ih { dst, op := .fieldAddr t x i, type := ty, pos, after, guard := g } s k = (ev s.t x).bind fun a => (fieldAddrF tb t a i).bind fun v => putT s dst v k := by
  rw [opF_P _ _ _ _ _ _ _ rfl rfl]; simp only [pOp, R.bind_bind]
theorem opF_field (t : TypeId) (x : Operand) (i : Nat) : opF tb ih { dst, op := .field t x i, type := ty, pos, after, guard := g } s k = (ev s.t x).bind fun a => (fieldF tb t a i).bind fun v => putT s dst v k := by
  rw [opF_P _ _ _ _ _ _ _ rfl rfl]; simp only [pOp, R.bind_bind]
theorem opF_build (t : TypeId) (ps : Array (Nat × Operand)) : opF tb ih { dst, op := .build t ps, type := ty, pos, after, guard := g } s k = (evp s.t ps.toList).bind fun ps => (buildF tb t ps).bind fun v => putT s dst v k := by
  rw [opF_P _ _ _ _ _ _ _ rfl rfl]; simp only [pOp, R.bind_bind]
theorem opF_slice (t : TypeId) (x : Operand) (lo hi mx : Option Operand) : opF tb ih { dst, op := .slice t x lo hi mx, type := ty, pos, after, guard := g } s k =
    (ev s.t x).bind fun x => (evo s.t lo).bind fun lo => (evo s.t hi).bind fun hi => (evo s.t mx).bind fun mx => (sliceF tb t x lo hi mx).bind fun v => putT s dst v k := by
  rw [opF_P _ _ _ _ _ _ _ rfl rfl]; simp only [pOp, R.bind_bind]
def extractF (x : Value) (i : Nat) : R Value :=
  match x with
  | .tuple vs => match vs.toList[i]? with
    | some v => .ok v
    | none => .no 211
  | _ => .no 212
theorem opF_extract (x : Operand) (i : Nat) : opF tb ih { dst, op := .extract x i, type := ty, pos, after, guard := g } s k = (ev s.t x).bind fun a => (extractF a i).bind fun v => putT s dst v k := by
  rw [opF_P _ _ _ _ _ _ _ rfl rfl]; simp only [pOp, R.bind_bind]; rfl
noncomputable def pickF (t : T Value) (c : Value) (a b : Operand) : R Value :=
  match c with
  | .bool true => ev t a
  | .bool false => ev t b
  | _ => .no 207
theorem opF_pick (c a b : Operand) : opF tb ih { dst, op := .pick c a b, type := ty, pos, after, guard := g } s k = (ev s.t c).bind fun c => (pickF s.t c a b).bind fun v => putT s dst v k := by
  rw [opF_P _ _ _ _ _ _ _ rfl rfl]; simp only [pOp, R.bind_bind]; rfl
theorem opF_load (t : TypeId) (x : Tmp) : opF tb ih { dst, op := .load t (.tmp x), type := ty, pos, after, guard := g } s k = (ev s.t (.tmp x)).bind fun a => (loadF tb s.m.get t a).bind fun v => putT s dst v k := by
  rw [opF_Rd _ _ _ _ _ _ _ rfl rfl]; simp only [rOp, R.bind_bind]
theorem opF_alloc (t : TypeId) : opF tb ih { dst, op := .alloc t, type := ty, pos, after, guard := g } s k = (zeroF tb t).bind fun z => putT { s with m := s.m.alloc (rowOb t z.cells.toList) } dst (Way.ptr.at s.m.next) k := by
  rw [opF_Al _ _ _ _ _ _ _ rfl rfl]; simp only [aOp, R.bind_bind, R.ok_bind]
theorem opF_box (t : TypeId) (x : Operand) : opF tb ih { dst, op := .box t x, type := ty, pos, after, guard := g } s k = (ev s.t x).bind fun v => putT { s with m := s.m.alloc (rowOb t v.cells.toList) } dst (Way.ptr.at s.m.next) k := by
  rw [opF_Al _ _ _ _ _ _ _ rfl rfl]; simp only [aOp, R.bind_bind, R.ok_bind]
theorem opF_buildSlice (t : TypeId) (len : Nat) (ps : Array (Nat × Operand)) : opF tb ih { dst, op := .buildSlice t len ps, type := ty, pos, after, guard := g } s k =
    (evp s.t ps.toList).bind fun ps => (buildSliceF tb t len ps).bind fun (ob, way) => putT { s with m := s.m.alloc ob } dst (way.at s.m.next) k := by
  rw [opF_Al _ _ _ _ _ _ _ rfl rfl]; simp only [aOp, R.bind_bind]
theorem opF_makeSlice (t : TypeId) (l c : Operand) : opF tb ih { dst, op := .makeSlice t l c, type := ty, pos, after, guard := g } s k =
    (ev s.t l).bind fun l => (ev s.t c).bind fun c => (makeSliceF tb t l c).bind fun (ob, way) => putT { s with m := s.m.alloc ob } dst (way.at s.m.next) k := by
  rw [opF_Al _ _ _ _ _ _ _ rfl rfl]; simp only [aOp, R.bind_bind]
theorem opF_store (t : TypeId) (x v : Operand) : opF tb ih { dst, op := .store t x v, type := ty, pos, after, guard := g } s k =
    (ev s.t x).bind fun x => (ev s.t v).bind fun v => (storeF tb s.m t x v).bind fun A => putT { s with m := A } dst unitV k := by
  unfold opF
  show ((lOp tb s.t s.m (.store t x v)).bind fun (v, A) => putT { s with m := A } dst v k) = _
  simp only [lOp, R.bind_bind, R.ok_bind]
/-- A conversion of numbers and strings. -/
def isNum : Option TypeDesc → Bool
  | some (.int _) => true
  | _ => false
theorem opF_conv (a b : TypeId) (x : Operand) (h : isNum (tb.und a) = true) : opF tb ih { dst, op := .convert a b x, type := ty, pos, after, guard := g } s k = (ev s.t x).bind fun x => (convPF tb a b x).bind fun v => putT s dst v k := by
  have hc : cls tb (.convert a b x) = .P := by
    unfold cls
    cases hu : tb.und a with
    | none => rw [hu] at h; cases h
    | some d =>
      rw [hu] at h
      cases d <;> first
        | (cases h; done)
        | (simp only [hu]; done)
        | (simp only [hu]; cases tb.und b with
          | none => rfl
          | some d2 => cases d2 <;> rfl)
  rw [opF_P _ _ _ _ _ _ _ hc rfl]; simp only [pOp, R.bind_bind]
theorem opF_convBytes (a b : TypeId) (x : Operand) {e : TypeId} (h : tb.und a = some .string) (h' : tb.und b = some (.slice e)) : opF tb ih { dst, op := .convert a b x, type := ty, pos, after, guard := g } s k =
    (ev s.t x).bind fun x => (toBytesF tb a b x).bind fun (ob, way) => putT { s with m := s.m.alloc ob } dst (way.at s.m.next) k := by
  have hc : cls tb (.convert a b x) = .Al := by unfold cls; simp only [h, h']
  rw [opF_Al _ _ _ _ _ _ _ hc rfl]; simp only [aOp, R.bind_bind]
theorem opF_convStr (a b : TypeId) (x : Operand) {e : TypeId} (h : tb.und a = some (.slice e)) (h' : tb.und b = some .string) : opF tb ih { dst, op := .convert a b x, type := ty, pos, after, guard := g } s k =
    (ev s.t x).bind fun x => (convRF tb s.m.get a b x).bind fun v => putT s dst v k := by
  have hc : cls tb (.convert a b x) = .Rd := by unfold cls; simp only [h, h']
  rw [opF_Rd _ _ _ _ _ _ _ hc rfl]; simp only [rOp, R.bind_bind]
/-- Lengths. -/
def isMapD : Option TypeDesc → Bool
  | some (.map _ _) => true
  | _ => false
theorem opF_len (args : Array Operand) (t : TypeId) (h : isMapD (tb.und t) = false) : opF tb ih { dst, op := .call { callee := .builtin .len, args, argTypes := #[t] }, type := ty, pos, after, guard := g } s k =
    (evs s.t args.toList).bind fun a => (builtinPF tb .len [t] a).bind fun v => putT s dst v k := by
  have hc : cls tb (.call { callee := .builtin .len, args, argTypes := #[t] }) = .P := by
    unfold cls
    cases hu : tb.und t with
    | none => simp only [hu]
    | some d => rw [hu] at h; cases d <;> first | (simp only [hu]; done) | cases h
  rw [opF_P _ _ _ _ _ _ _ hc rfl]; simp only [pOp, R.bind_bind]
theorem opF_minmax (b : Builtin) (args : Array Operand) (ts : Array TypeId) (h : b = .min ∨ b = .max ∨ b = .cap) : opF tb ih { dst, op := .call { callee := .builtin b, args, argTypes := ts }, type := ty, pos, after, guard := g } s k =
    (evs s.t args.toList).bind fun a => (builtinPF tb b ts.toList a).bind fun v => putT s dst v k := by
  have hc : cls tb (.call { callee := .builtin b, args, argTypes := ts }) = .P := by rcases h with rfl | rfl | rfl <;> rfl
  rw [opF_P _ _ _ _ _ _ _ hc rfl]; simp only [pOp, R.bind_bind]
/-- A builtin that changes memory. -/
theorem opF_builtin (b : Builtin) (args : Array Operand) (ts : Array TypeId) (h : b = .append ∨ b = .copy) : opF tb ih { dst, op := .call { callee := .builtin b, args, argTypes := ts }, type := ty, pos, after, guard := g } s k =
    (evs s.t args.toList).bind fun a => (builtinLF tb s.m b ts.toList a).bind fun (v, A) => putT { s with m := A } dst v k := by
  rcases h with rfl | rfl
  all_goals
    unfold opF
    show ((lOp tb s.t s.m (.call _)).bind fun (v, A) => putT { s with m := A } dst v k) = _
    simp only [lOp, R.bind_bind]
/-- A call of a function by its name. -/
noncomputable def resK (s : St) (dst : Option Tmp) (k : St → R (Ex × St)) : Res → R (Ex × St)
  | .val v A => putT { s with m := A } dst v k
  | .pan v A => .ok (.pan v, { s with m := A })
theorem opF_call (f : FuncId) (args : Array Operand) (ts : Array TypeId) : opF tb ih { dst, op := .call { callee := .value (.func f), args, argTypes := ts }, type := ty, pos, after, guard := g } s k =
    (evs s.t args.toList).bind fun a => (callF tb ih (.fn f a) s.m).bind fun r => resK s dst k r := by
  unfold opF
  show ((clOf tb s.t s.m.get { callee := .value (.func f), args, argTypes := ts }).bind fun cl => (callF tb ih cl s.m).bind fun r => match r with
    | .val v A => putT { s with m := A } dst v k
    | .pan v A => .ok (.pan v, { s with m := A })) = _
  have hcl : clOf tb s.t s.m.get { callee := .value (.func f), args, argTypes := ts } = (evs s.t args.toList).bind fun a => .ok (.fn f a) := by
    unfold clOf
    cases evs s.t args.toList with
    | no _ => rfl
    | ok a => simp only [R.ok_bind, ev, calleeF, List.nil_append, List.append_nil]
  rw [hcl]
  simp only [R.bind_bind, R.ok_bind]
  cases evs s.t args.toList with
  | no _ => rfl
  | ok a =>
    simp only [R.ok_bind]
    cases callF tb ih (.fn f a) s.m with
    | no _ => rfl
    | ok r => cases r <;> rfl
end

/-! ### An open order in which nothing floats -/
theorem filter_none {α : Type} (l : List α) : l.filter (fun _ => false) = [] := by simp
theorem hide_nil (A : Mem) : hideF [] A = A := rfl
theorem opF_k {o : Oper} {s : St} {k k' : St → R (Ex × St)} (h : ∀ s, k s = k' s) : opF tb ih o s k = opF tb ih o s k' := by rw [show k = k' from funext h]
theorem runD_nil (ops : List Oper) : ∀ (l : List Oper) (i : Nat) (mems : List (Nat × Mem)) (recs : List Rec) (mks : List (Nat × Nat)) (s : St), runD tb ih ops [] l i mems recs mks s = runOps tb ih ops l s
  | [], _, _, _, _, _ => rfl
  | o :: l, i, mems, recs, mks, s => by
    show ((wantF ops o s.t).bind fun w =>
      bif w then
        match cls tb o.op with
        | .L => opF tb ih o { s with m := hideF ((mks.filter fun x => pairIn x.1 i []).map (·.2)) s.m } fun s' =>
          (backF s.m.get ((mks.filter fun x => pairIn x.1 i []).map (·.2)) s'.m).bind fun A =>
          bif (recs.filter fun x => pairIn x.i i []).all (reread tb A.get) then runD tb ih ops [] l (i + 1) ((i, s.m) :: mems) recs mks { s' with m := A } else .no 310
        | .Rd => (rOp tb s.t s.m.get o.op).bind fun v =>
          bif (mems.filter fun m => pairIn i m.1 []).all (fun m => reread tb m.2.get ⟨i, s.t, o.op, v⟩) then putT s o.dst v (runD tb ih ops [] l (i + 1) mems (⟨i, s.t, o.op, v⟩ :: recs) mks) else .no 311
        | .Al => opF tb ih o s fun s' => runD tb ih ops [] l (i + 1) (addB s.m.next (s'.m.get s.m.next) mems) recs ((i, s.m.next) :: mks) s'
        | .P => opF tb ih o s (runD tb ih ops [] l (i + 1) mems recs mks)
      else putT s o.dst unitV (runD tb ih ops [] l (i + 1) mems recs mks)) = ((wantF ops o s.t).bind fun w => bif w then opF tb ih o s (runOps tb ih ops l) else putT s o.dst unitV (runOps tb ih ops l))
    have e : ∀ i mems recs mks, runD tb ih ops [] l i mems recs mks = runOps tb ih ops l := fun i mems recs mks => funext fun s => runD_nil ops l i mems recs mks s
    have hp : ∀ a b : Nat, pairIn a b [] = false := fun _ _ => rfl
    simp only [e, hp, filter_none, List.map_nil, hide_nil, backF, R.ok_bind, List.all_nil, cond_true]
    cases wantF ops o s.t with
    | no _ => rfl
    | ok w =>
      cases w with
      | false => rfl
      | true =>
        simp only [R.ok_bind, cond_true]
        cases hc : cls tb o.op with
        | Rd =>
          simp only
          unfold opF
          have hi : isCall o.op = none := by
            cases ho : isCall o.op with
            | none => rfl
            | some c =>
              exfalso
              unfold isCall at ho
              split at ho
              · rename_i c' hop
                rw [hop] at hc
                unfold cls at hc
                simp only at hc
                split at hc
                · rename_i hb; rw [hb] at ho; simp at ho
                · cases hc
              · cases ho
          simp only [hi, hc]
        | _ => rfl

noncomputable def drawNone (tb : Tab) (ops : List Oper) : Bool :=
  match drawInfo tb ops with
  | .ok [] => true
  | _ => false
theorem exec_draw {n id : Nat} {ops : Array Oper} {s : St} (h : drawNone tb ops.toList = true) : exec tb (n + 1) (.region id ops true) s = (runOps tb (exec tb n) ops.toList ops.toList s).bind fun (e, s) => match e with
    | .nrm => .ok (.nrm, s)
    | _ => .no 312 := by
  have h' : drawInfo tb ops.toList = .ok [] := by
    unfold drawNone at h
    split at h
    · assumption
    · cases h
  show ((drawInfo tb ops.toList).bind fun fl => (runD tb (exec tb n) ops.toList fl ops.toList 0 [] [] [] s).bind fun (e, s) => _) = _
  rw [h']
  simp only [R.ok_bind, runD_nil]
  rfl

theorem putT_none (s : St) (v : Value) (k : St → R (Ex × St)) : putT s none v k = k s := rfl
theorem putT_some {t : T Value} {n : Nat} {d : List Nat} {m : Mem} {ro : Option Nat} {i : Nat} {v : Value} {k : St → R (Ex × St)} (h : i < n) : putT ⟨t, n, d, m, ro⟩ (some i) v k = k ⟨t.set i v, n, d, m, ro⟩ := by
  rw [putT_mk (by simpa using h)]; rfl

theorem at_ptr (b : Nat) : Way.ptr.at b = .pointer (some ⟨b, 0, none⟩) := rfl
theorem at_slc (b len cap : Nat) : (Way.slc len cap).at b = .slice (some ⟨b, 0, none⟩) len cap := rfl
theorem runOps_guard (ops l : List Oper) (dst : Option Tmp) (op : Op) (ty : TypeId) (pos : String) (after : Array Edge) (j : Nat) (want : Bool) (s : St) :
    runOps tb ih ops ({ dst, op, type := ty, pos, after, guard := some (j, want) } :: l) s = (wantF ops { dst, op, type := ty, pos, after, guard := some (j, want) } s.t).bind fun w =>
      bif w then opF tb ih { dst, op, type := ty, pos, after, guard := some (j, want) } s (runOps tb ih ops l) else putT s dst unitV (runOps tb ih ops l) := rfl
theorem runOps_yes {ops l : List Oper} {o : Oper} {s : St} (h : wantF ops o s.t = .ok true) : runOps tb ih ops (o :: l) s = opF tb ih o s (runOps tb ih ops l) := by
  show ((wantF ops o s.t).bind fun w => bif w then opF tb ih o s (runOps tb ih ops l) else putT s o.dst unitV (runOps tb ih ops l)) = _
  rw [h]; rfl
theorem runOps_no {ops l : List Oper} {o : Oper} {s : St} (h : wantF ops o s.t = .ok false) : runOps tb ih ops (o :: l) s = putT s o.dst unitV (runOps tb ih ops l) := by
  show ((wantF ops o s.t).bind fun w => bif w then opF tb ih o s (runOps tb ih ops l) else putT s o.dst unitV (runOps tb ih ops l)) = _
  rw [h]; rfl
def wantV (want : Bool) (v : Option Value) : R Bool :=
  match v with
  | some (.bool b) => .ok (bif b then want else !want)
  | some (.tuple _) => .ok false
  | some _ => .no 257
  | none => .no 253
/-- The slot that an operation writes. -/
def dstAt : List Oper → Nat → Option Tmp
  | [], _ => none
  | o :: _, 0 => o.dst
  | _ :: l, n + 1 => dstAt l n
theorem dstAt_zero (o : Oper) (l : List Oper) : dstAt (o :: l) 0 = o.dst := rfl
theorem dstAt_succ (o : Oper) (l : List Oper) (n : Nat) : dstAt (o :: l) (n + 1) = dstAt l n := rfl
theorem dstAt_eq : ∀ (l : List Oper) (j : Nat) (d : Tmp), dstAt l j = some d → ∃ o, l[j]? = some o ∧ o.dst = some d
  | [], _, _, h => by cases h
  | o :: _, 0, _, h => ⟨o, rfl, h⟩
  | _ :: l, n + 1, d, h => by
    obtain ⟨o, h1, h2⟩ := dstAt_eq l n d h
    exact ⟨o, by simpa using h1, h2⟩
noncomputable def wantD (ops : List Oper) (o : Oper) (want : Bool) (t : T Value) (d : Option Tmp) : R Bool :=
  match d with
  | some d => wantV want (t.get d)
  | none => wantF ops o t
theorem wantF_guard (ops : List Oper) (dst : Option Tmp) (op : Op) (ty : TypeId) (pos : String) (after : Array Edge) (j : Nat) (want : Bool) (t : T Value) :
    wantF ops { dst, op, type := ty, pos, after, guard := some (j, want) } t = wantD ops { dst, op, type := ty, pos, after, guard := some (j, want) } want t (dstAt ops j) := by
  cases hd : dstAt ops j with
  | none => rfl
  | some d =>
    obtain ⟨o, h1, h2⟩ := dstAt_eq ops j d hd
    unfold wantF wantD wantV
    simp only [h1, h2]
    rfl
theorem wantD_some (ops : List Oper) (o : Oper) (want : Bool) (t : T Value) (d : Tmp) : wantD ops o want t (some d) = wantV want (t.get d) := rfl
theorem wantV_bool (want b : Bool) : wantV want (some (.bool b)) = .ok (bif b then want else !want) := rfl
theorem wantV_unit (want : Bool) (x : Array Value) : wantV want (some (.tuple x)) = .ok false := rfl
noncomputable def evG (v : Option Value) : R Value :=
  match v with
  | some v => .ok v
  | none => .no 200
theorem ev_tmp (t : T Value) (i : Nat) : ev t (.tmp i) = evG (t.get i) := rfl
theorem evG_some (v : Value) : evG (some v) = .ok v := rfl
theorem ev_int (t : T Value) (k : IntKind) (n : Nat) : ev t (.const (.int k (no_index (OfNat.ofNat n)))) = .ok (.int k ((OfNat.ofNat n : Nat) : Int)) := rfl
theorem ev_bool (t : T Value) (b : Bool) : ev t (.const (.bool b)) = .ok (.bool b) := rfl

/-! ### Integers -/
theorem binF_int {op : BinOp} {d : Option TypeDesc} {k : IntKind} {a b : Int} (h1 : op ≠ .shl) (h2 : op ≠ .shr) : binF op d (.int k a) (.int k b) = intOpF op k a b := by
  have hk : kindEq k k = true := by cases k <;> rfl
  unfold binF
  cases op <;> first | exact absurd rfl h1 | exact absurd rfl h2 | (simp only [hk, cond_true])
theorem op_rem {k : IntKind} {a b : Nat} (h : 0 < b) : intOpF .rem k (a : Int) (b : Int) = .ok (.int k ((a % b : Nat) : Int)) := by
  obtain ⟨c, rfl⟩ : ∃ c, b = c + 1 := ⟨b - 1, by omega⟩
  rfl

theorem inK_u32 {n : Nat} (h : n < 4294967296) : inK .u32 (n : Int) = true := by
  show Nat.blt n 4294967296 = true
  rw [Nat.blt_eq]; exact h
theorem inK_u8 {n : Nat} (h : n < 256) : inK .u8 (n : Int) = true := by
  show Nat.blt n 256 = true
  rw [Nat.blt_eq]; exact h
theorem inK_i64 {n : Nat} (h : n < 9223372036854775808) : inK .i64 (n : Int) = true := by
  show Nat.blt n 9223372036854775808 = true
  rw [Nat.blt_eq]; exact h
theorem op_quo_u32 {a b : Nat} (h : 0 < b) (ha : a < 4294967296) : intOpF .quo .u32 (a : Int) (b : Int) = .ok (.int .u32 ((a / b : Nat) : Int)) := by
  obtain ⟨c, rfl⟩ : ∃ c, b = c + 1 := ⟨b - 1, by omega⟩
  show R.ok (Value.int .u32 (wrapF .u32 ((a / (c + 1) : Nat) : Int))) = _
  unfold wrapF
  rw [inK_u32 (Nat.lt_of_le_of_lt (Nat.div_le_self ..) ha)]; rfl
theorem op_xor_u32 {a b : Nat} (ha : a < 4294967296) (hb : b < 4294967296) : intOpF .xor .u32 (a : Int) (b : Int) = .ok (.int .u32 ((a ^^^ b : Nat) : Int)) := by
  show (bif inK .u32 (a : Int) && inK .u32 (b : Int) then R.ok (Value.int .u32 ((a ^^^ b : Nat) : Int)) else .no 12) = _
  rw [inK_u32 ha, inK_u32 hb]; rfl
theorem op_neq {k : IntKind} {a b : Nat} : intOpF .neq k (a : Int) (b : Int) = .ok (.bool (decide (a ≠ b))) := by
  show R.ok (Value.bool (!Nat.beq a b)) = _
  congr 2
  cases h : Nat.beq a b with
  | true => simp [Nat.eq_of_beq_eq_true h]
  | false => simp [Nat.ne_of_beq_eq_false h]
theorem op_lss {k : IntKind} {a b : Nat} : intOpF .lss k (a : Int) (b : Int) = .ok (.bool (decide (a < b))) := by
  show R.ok (Value.bool (Nat.blt a b)) = _
  congr 2
  rw [Bool.eq_iff_iff]
  simp [Nat.blt_eq]
theorem op_add_i64 {a b : Nat} (h : a + b < 9223372036854775808) : intOpF .add .i64 (a : Int) (b : Int) = .ok (.int .i64 ((a + b : Nat) : Int)) := by
  show R.ok (Value.int .i64 (wrapF .i64 ((a + b : Nat) : Int))) = _
  unfold wrapF
  rw [inK_i64 h]; rfl

end Go.Am

/-
  The abstract machine AM, part 46: loops; arithmetic of numbers of which parts are not known; strings.
-/
namespace Go.Am
variable {tb : Tab} {ih : Code → St → R (Ex × St)}

/-- A loop of so many rounds. -/
theorem loop_runs {c : Code} {f : Nat} {e : Ex} (hne : e ≠ .nrm) {P : Nat → St → Prop} {Q : St → Prop} {N : Nat}
    (hb : ∀ i s, i < N → P i s → ∃ s', (∀ m, exec tb (m + f) c s = .ok (.nrm, s')) ∧ P (i + 1) s')
    (he : ∀ s, P N s → ∃ s', (∀ m, exec tb (m + f) c s = .ok (e, s')) ∧ Q s') :
    ∀ (j i : Nat) (s : St), i + j = N → P i s → ∃ s', (∀ m, exec tb (m + (f + j + 1)) (.loop c) s = .ok (e, s')) ∧ Q s'
  | 0, i, s, hij, hp => by
    obtain ⟨s', h1, h2⟩ := he s (by rw [show N = i by omega]; exact hp)
    refine ⟨s', fun m => ?_, h2⟩
    rw [show m + (f + 0 + 1) = (m + f) + 1 by omega, exec_loop, h1]
    cases e <;> first | rfl | exact absurd rfl hne
  | j + 1, i, s, hij, hp => by
    obtain ⟨s1, h1, h2⟩ := hb i s (by omega) hp
    obtain ⟨s', h3, h4⟩ := loop_runs hne hb he j (i + 1) s1 (by omega) h2
    refine ⟨s', fun m => ?_, h4⟩
    rw [show m + (f + (j + 1) + 1) = (m + j + 1 + f) + 1 by omega, exec_loop, h1, R.ok_bind]
    show exec tb (m + j + 1 + f) (.loop c) s1 = _
    rw [show m + j + 1 + f = m + (f + j + 1) by omega]
    exact h3 m

theorem block_runs {c : Code} {f id : Nat} {s s' : St} (h : ∀ m, exec tb (m + f) c s = .ok (.exit id, s')) (m : Nat) : exec tb (m + (f + 1)) (.block id c) s = .ok (.nrm, s') := by
  rw [show m + (f + 1) = (m + f) + 1 by omega, exec_block, h, R.ok_bind]
  simp

/-! ### Arithmetic -/
theorem wrapF_u8 (n : Nat) : wrapF .u8 (n : Int) = ((n % 256 : Nat) : Int) := by
  rw [wrapF_eq]; simp [IntKind.wrap, IntKind.signed, IntKind.bits]
theorem wrapF_u16 (n : Nat) : wrapF .u16 (n : Int) = ((n % 65536 : Nat) : Int) := by
  rw [wrapF_eq]; simp [IntKind.wrap, IntKind.signed, IntKind.bits]
theorem wrapF_u32 (n : Nat) : wrapF .u32 (n : Int) = ((n % 4294967296 : Nat) : Int) := by
  rw [wrapF_eq]; simp [IntKind.wrap, IntKind.signed, IntKind.bits]
theorem wrapF_i64 {n : Nat} (h : n < 9223372036854775808) : wrapF .i64 (n : Int) = (n : Int) := by
  unfold wrapF; rw [inK_i64 h]; rfl
theorem mod_u8 {n : Nat} (h : n < 256) : n % 256 = n := Nat.mod_eq_of_lt h
theorem mod_u32 {n : Nat} (h : n < 4294967296) : n % 4294967296 = n := Nat.mod_eq_of_lt h

theorem op_and_u8 {a b : Nat} (ha : a < 256) (hb : b < 256) : intOpF .and .u8 (a : Int) (b : Int) = .ok (.int .u8 ((a &&& b : Nat) : Int)) := by
  show (bif inK .u8 (a : Int) && inK .u8 (b : Int) then R.ok (Value.int .u8 ((a &&& b : Nat) : Int)) else .no 10) = _
  rw [inK_u8 ha, inK_u8 hb]; rfl
theorem op_xor_u8 {a b : Nat} (ha : a < 256) (hb : b < 256) : intOpF .xor .u8 (a : Int) (b : Int) = .ok (.int .u8 ((a ^^^ b : Nat) : Int)) := by
  show (bif inK .u8 (a : Int) && inK .u8 (b : Int) then R.ok (Value.int .u8 ((a ^^^ b : Nat) : Int)) else .no 12) = _
  rw [inK_u8 ha, inK_u8 hb]; rfl
theorem op_sub_u32 {a b : Nat} (h : b ≤ a) (ha : a < 4294967296) : intOpF .sub .u32 (a : Int) (b : Int) = .ok (.int .u32 ((a - b : Nat) : Int)) := by
  show R.ok (Value.int .u32 (wrapF .u32 ((a : Int) - (b : Int)))) = _
  rw [show (a : Int) - (b : Int) = ((a - b : Nat) : Int) by omega, wrapF_u32, mod_u32 (by omega)]
theorem op_sub_i64 {a b : Nat} (h : b ≤ a) (ha : a < 9223372036854775808) : intOpF .sub .i64 (a : Int) (b : Int) = .ok (.int .i64 ((a - b : Nat) : Int)) := by
  show R.ok (Value.int .i64 (wrapF .i64 ((a : Int) - (b : Int)))) = _
  rw [show (a : Int) - (b : Int) = ((a - b : Nat) : Int) by omega, wrapF_i64 (by omega)]
theorem op_eql {k : IntKind} {a b : Nat} : intOpF .eql k (a : Int) (b : Int) = .ok (.bool (decide (a = b))) := by
  show R.ok (Value.bool (Nat.beq a b)) = _
  congr 2
  cases h : Nat.beq a b with
  | true => simp [Nat.eq_of_beq_eq_true h]
  | false => simp [Nat.ne_of_beq_eq_false h]
theorem op_not_u32 {n : Nat} (h : n < 4294967296) : unF .xor (.int .u32 (n : Int)) = .ok (.int .u32 ((4294967295 - n : Nat) : Int)) := by
  show (bif IntKind.signed .u32 then R.no 26 else bif inK .u32 (n : Int) then R.ok (Value.int .u32 (.ofNat (2 ^ IntKind.bits .u32 - 1 - n))) else .no 26) = _
  rw [inK_u32 h]; rfl
theorem binF_shr {d : Option TypeDesc} {k k' : IntKind} {a b : Nat} (h : b < k.bits) : binF .shr d (.int k (a : Int)) (.int k' (b : Int)) = .ok (.int k ((a >>> b : Nat) : Int)) := by
  have e : binF .shr d (.int k (a : Int)) (.int k' (b : Int)) = R.ok (Value.int k (.ofNat (Nat.shiftRight a (bif Nat.blt b k.bits then b else k.bits)))) := by cases k <;> rfl
  rw [e]
  have : Nat.blt b k.bits = true := by rw [Nat.blt_eq]; exact h
  rw [this]; rfl

theorem binF_shr_u32 {d : Option TypeDesc} {k' : IntKind} {a b : Nat} (h : b < 32) : binF .shr d (.int .u32 (a : Int)) (.int k' (b : Int)) = .ok (.int .u32 ((a >>> b : Nat) : Int)) := binF_shr h
theorem binF_shr_u8 {d : Option TypeDesc} {k' : IntKind} {a b : Nat} (h : b < 8) : binF .shr d (.int .u8 (a : Int)) (.int k' (b : Int)) = .ok (.int .u8 ((a >>> b : Nat) : Int)) := binF_shr h
theorem op_mul_i64 {a b : Nat} (h : a * b < 9223372036854775808) : intOpF .mul .i64 (a : Int) (b : Int) = .ok (.int .i64 ((a * b : Nat) : Int)) := by
  show R.ok (Value.int .i64 (wrapF .i64 ((a : Int) * (b : Int)))) = _
  rw [← Int.natCast_mul, wrapF_i64 h]
theorem op_sub_neg {a b : Nat} (h : a < b) (hb : b < 9223372036854775808) : intOpF .sub .i64 (a : Int) (b : Int) = .ok (.int .i64 (-((b - a : Nat) : Int))) := by
  show R.ok (Value.int .i64 (wrapF .i64 ((a : Int) - (b : Int)))) = _
  rw [show (a : Int) - (b : Int) = -((b - a : Nat) : Int) by omega, wrapF_eq, wrap_in (by show (-9223372036854775808 : Int) ≤ _; omega) (by show _ ≤ (9223372036854775807 : Int); omega)]
theorem op_lss_neg {k : IntKind} {a b : Nat} (h : 0 < a) : intOpF .lss k (-(a : Int)) (b : Int) = .ok (.bool true) := by
  obtain ⟨c, rfl⟩ : ∃ c, a = c + 1 := ⟨a - 1, by omega⟩
  rfl

/-! ### Strings -/
theorem str_add {a b : List UInt8} (h : a.length + b.length < 4611686018427387904) : strOpF .add a b = .ok (strOf (a ++ b)) := by
  unfold strOpF
  have : Nat.blt (a.length + b.length) 4611686018427387904 = true := by rw [Nat.blt_eq]; exact h
  simp only [this, cond_true]
theorem str_neq {a b : List UInt8} : strOpF .neq a b = .ok (.bool (decide (a ≠ b))) := by
  unfold strOpF
  simp only [bytesEq_eq]
  congr 2
  by_cases h : a = b <;> simp [h]
theorem str_eql {a b : List UInt8} : strOpF .eql a b = .ok (.bool (decide (a = b))) := by
  unfold strOpF
  simp only [bytesEq_eq]
  congr 2
  by_cases h : a = b <;> simp [h]
theorem bound_some {k : IntKind} {n d most : Nat} (h : n ≤ most) : bound (some (.int k (n : Int))) d most = .ok n := by
  unfold bound
  show (bif Nat.ble n most then R.ok n else .no 31) = _
  rw [Nat.ble_eq_true_of_le h]; rfl
theorem bound_none {d most : Nat} : bound none d most = .ok d := rfl
theorem slice_str {tb : Tab} {t : TypeId} {l : List UInt8} {lo hi : Option Value} {a b : Nat} (ht : tb.und t = some .string) (h1 : bound hi l.length l.length = .ok b) (h2 : bound lo 0 b = .ok a) : sliceF tb t (strOf l) lo hi none = .ok (strOf ((l.take b).drop a)) := by
  unfold sliceF strOf
  simp only [ht, h1, h2, R.ok_bind]
theorem slice_to {tb : Tab} {t : TypeId} {l : List UInt8} {k : IntKind} {n : Nat} (ht : tb.und t = some .string) (h : n ≤ l.length) : sliceF tb t (strOf l) none (some (.int k (n : Int))) none = .ok (strOf (l.take n)) := by
  rw [slice_str ht (bound_some h) bound_none]; rfl
theorem slice_from {tb : Tab} {t : TypeId} {l : List UInt8} {k : IntKind} {n : Nat} (ht : tb.und t = some .string) (h : n ≤ l.length) : sliceF tb t (strOf l) (some (.int k (n : Int))) none none = .ok (strOf (l.drop n)) := by
  rw [slice_str ht bound_none (bound_some h), List.take_length]
theorem index_str {t : TypeId} {l : List UInt8} {kd : IntKind} {i : Nat} (ht : tb.und t = some .string) (h : i < l.length) : indexF tb t (strOf l) (.int kd (i : Int)) = .ok (.int .u8 (((l.getD i 0).toNat : Nat) : Int)) := by
  unfold indexF strOf
  simp only [ht]
  show (match l[i]? with | some b => R.ok (Value.int .u8 (.ofNat b.toNat)) | none => .no 53) = _
  rw [List.getElem?_eq_getElem h]
  simp [List.getD, List.getElem?_eq_getElem h]
theorem len_str {t : TypeId} {l : List UInt8} (ht : tb.und t = some .string) : builtinPF tb .len [t] [strOf l] = .ok (.int .i64 ((l.length : Nat) : Int)) := by
  unfold builtinPF lenPF strOf
  simp only [ht]; rfl
theorem byte_lt (b : UInt8) : b.toNat < 256 := b.toNat_lt
theorem string_eq (s : ByteArray) : Value.string s = strOf s.data.toList := rfl
theorem ev_str (t : T Value) (s : ByteArray) : ev t (.const (.string s)) = .ok (strOf s.data.toList) := rfl
theorem binF_str {op : BinOp} {d : Option TypeDesc} {a b : List UInt8} : binF op d (strOf a) (strOf b) = strOpF op a b := rfl

/-! ### Parts of a text, by their place -/
def sub : Code → List Nat → Code
  | .seq a b, i :: l => bif Nat.beq i 0 then sub a l else sub b l
  | .cond _ a b, i :: l => bif Nat.beq i 0 then sub a l else sub b l
  | .block _ c, _ :: l => sub c l
  | .loop c, _ :: l => sub c l
  | .scope c, _ :: l => sub c l
  | .rangeFunc _ _ a b, i :: l => bif Nat.beq i 0 then sub a l else sub b l
  | c, _ => c
theorem sub_nil (c : Code) : sub c [] = c := by cases c <;> rfl
theorem sub_seq0 (a b : Code) (l : List Nat) : sub (.seq a b) (0 :: l) = sub a l := rfl
theorem sub_seq1 (a b : Code) (l : List Nat) : sub (.seq a b) (1 :: l) = sub b l := rfl
theorem sub_cond0 (x : Operand) (a b : Code) (l : List Nat) : sub (.cond x a b) (0 :: l) = sub a l := rfl
theorem sub_cond1 (x : Operand) (a b : Code) (l : List Nat) : sub (.cond x a b) (1 :: l) = sub b l := rfl
theorem sub_block (i : Nat) (c : Code) (l : List Nat) : sub (.block i c) (0 :: l) = sub c l := rfl
theorem sub_loop (c : Code) (l : List Nat) : sub (.loop c) (0 :: l) = sub c l := rfl
theorem sub_scope (c : Code) (l : List Nat) : sub (.scope c) (0 :: l) = sub c l := rfl
theorem sub_range0 (f : Operand) (ps : Array Tmp) (a b : Code) (l : List Nat) : sub (.rangeFunc f ps a b) (0 :: l) = sub a l := rfl
theorem sub_range1 (f : Operand) (ps : Array Tmp) (a b : Code) (l : List Nat) : sub (.rangeFunc f ps a b) (1 :: l) = sub b l := rfl

theorem nat_beq_self (n : Nat) : Nat.beq n n = true := by simp
theorem min_i64 {tb : Tab} {ts : List TypeId} {a b : Nat} : builtinPF tb .min ts [.int .i64 (a : Int), .int .i64 (b : Int)] = .ok (.int .i64 ((min a b : Nat) : Int)) := by
  have e : builtinPF tb .min ts [.int .i64 (a : Int), .int .i64 (b : Int)] = .ok (.int .i64 (bif Nat.blt b a then (b : Int) else (a : Int))) := by
    cases ts <;> rfl
  rw [e]
  cases h : Nat.blt b a with
  | true =>
    have : b < a := by simpa [Nat.blt_eq] using h
    rw [Nat.min_eq_right (by omega)]; rfl
  | false =>
    have : ¬ b < a := by intro hx; rw [← Nat.blt_eq, h] at hx; cases hx
    rw [Nat.min_eq_left (by omega)]; rfl
theorem bool_eql {a b : Bool} : binF .eql (some .bool) (.bool a) (.bool b) = .ok (.bool (a == b)) := by cases a <;> cases b <;> rfl
theorem op_quo_i64 {a b : Nat} (h : 0 < b) (ha : a < 9223372036854775808) : intOpF .quo .i64 (a : Int) (b : Int) = .ok (.int .i64 ((a / b : Nat) : Int)) := by
  obtain ⟨c, rfl⟩ : ∃ c, b = c + 1 := ⟨b - 1, by omega⟩
  show R.ok (Value.int .i64 (wrapF .i64 ((a / (c + 1) : Nat) : Int))) = _
  rw [wrapF_i64 (Nat.lt_of_le_of_lt (Nat.div_le_self ..) ha)]
theorem op_and_u32 {a b : Nat} (ha : a < 4294967296) (hb : b < 4294967296) : intOpF .and .u32 (a : Int) (b : Int) = .ok (.int .u32 ((a &&& b : Nat) : Int)) := by
  show (bif inK .u32 (a : Int) && inK .u32 (b : Int) then R.ok (Value.int .u32 ((a &&& b : Nat) : Int)) else .no 10) = _
  rw [inK_u32 ha, inK_u32 hb]; rfl
theorem binF_shl_u8 {d : Option TypeDesc} {k' : IntKind} {a b : Nat} (h : b < 8) : binF .shl d (.int .u8 (a : Int)) (.int k' (b : Int)) = .ok (.int .u8 ((a <<< b % 256 : Nat) : Int)) := by
  have e : binF .shl d (.int .u8 (a : Int)) (.int k' (b : Int)) = (bif Nat.blt b 8 then R.ok (Value.int .u8 (wrapF .u8 ((a <<< b : Nat) : Int))) else .ok (.int .u8 0)) := rfl
  have hb : Nat.blt b 8 = true := by rw [Nat.blt_eq]; exact h
  rw [e, hb, cond_true, wrapF_u8]

/-- A function that is known. -/
theorem callF_known {f : FuncId} {fn : Func} {c : Code} {h : List Value → Mem → R (Value × Mem)} {args : List Value} {A A' : Mem} {v : Value} (hf : tb.fn.get f = some fn) (hn : (fn.name == "runtime.NumGoroutine") = false) (hb : fn.body = some c)
    (hk : tb.hk.get f = some h) (hv : h args A = .ok (v, A')) : callF tb ih (.fn f args) A = .ok (.val v A') := by
  unfold callF
  simp only [hf, hn, hb, hk, hv, cond_false, R.ok_bind]

end Go.Am

/-
  The abstract machine AM, part 47: what holds behind a piece of code, whatever fuel it takes.
-/
namespace Go.Am
variable {tb : Tab}

/-- A piece of code comes to an end, and there K holds. -/
def W (tb : Tab) (c : Code) (s : St) (K : Ex → St → Prop) : Prop := ∃ e s', (∃ f, ∀ m, exec tb (m + f) c s = .ok (e, s')) ∧ K e s'

theorem W.run {c : Code} {s : St} {K : Ex → St → Prop} (f : Nat) {e : Ex} {s' : St} (h : ∀ m, exec tb (m + f) c s = .ok (e, s')) (k : K e s') : W tb c s K := ⟨e, s', ⟨f, h⟩, k⟩
theorem W.mono {c : Code} {s : St} {K K' : Ex → St → Prop} (h : W tb c s K) (hk : ∀ e s', K e s' → K' e s') : W tb c s K' := by
  obtain ⟨e, s', h1, h2⟩ := h
  exact ⟨e, s', h1, hk _ _ h2⟩
/-- What comes behind an end that is plain; any other one is the whole's. -/
def Then (tb : Tab) (b : Code) (K : Ex → St → Prop) (e : Ex) (s : St) : Prop :=
  match e with
  | .nrm => W tb b s K
  | e => K e s
theorem W.seq {a b : Code} {s : St} {K : Ex → St → Prop} (h : W tb a s (Then tb b K)) : W tb (.seq a b) s K := by
  obtain ⟨e, s1, ⟨f, h1⟩, h2⟩ := h
  cases e with
  | nrm =>
    obtain ⟨e2, s2, ⟨g, h3⟩, h4⟩ := h2
    refine ⟨e2, s2, ⟨f + g + 1, fun m => ?_⟩, h4⟩
    have e1 := h1 (m + g)
    have e2' := h3 (m + f)
    rw [show m + (f + g + 1) = (m + g + f) + 1 by omega, exec_seq, e1, R.ok_bind]
    show exec tb (m + g + f) b s1 = _
    rw [show m + g + f = m + f + g by omega]; exact e2'
  | _ => exact ⟨_, s1, ⟨f + 1, fun m => by rw [show m + (f + 1) = (m + f) + 1 by omega, exec_seq, h1]; rfl⟩, h2⟩
def Blk (id : Nat) (K : Ex → St → Prop) (e : Ex) (s : St) : Prop :=
  match e with
  | .exit i => if i = id then K .nrm s else K (.exit i) s
  | e => K e s
theorem W.block {id : Nat} {c : Code} {s : St} {K : Ex → St → Prop} (h : W tb c s (Blk id K)) : W tb (.block id c) s K := by
  obtain ⟨e, s1, ⟨f, h1⟩, h2⟩ := h
  cases e with
  | exit i =>
    unfold Blk at h2
    simp only at h2
    by_cases hi : i = id
    · subst hi
      rw [if_pos rfl] at h2
      exact ⟨.nrm, s1, ⟨f + 1, fun m => by rw [show m + (f + 1) = (m + f) + 1 by omega, exec_block, h1]; simp [R.ok_bind]⟩, h2⟩
    · rw [if_neg hi] at h2
      have hb : Nat.beq i id = false := by
        cases hq : Nat.beq i id with
        | false => rfl
        | true => exact absurd (Nat.eq_of_beq_eq_true hq) hi
      exact ⟨.exit i, s1, ⟨f + 1, fun m => by rw [show m + (f + 1) = (m + f) + 1 by omega, exec_block, h1]; simp [R.ok_bind, hb]⟩, h2⟩
  | _ => exact ⟨_, s1, ⟨f + 1, fun m => by rw [show m + (f + 1) = (m + f) + 1 by omega, exec_block, h1]; rfl⟩, h2⟩
theorem W.scope {c : Code} {s : St} {K : Ex → St → Prop} (h : W tb c s K) : W tb (.scope c) s K := by
  obtain ⟨e, s1, ⟨f, h1⟩, h2⟩ := h
  exact ⟨e, s1, ⟨f + 1, fun m => by rw [show m + (f + 1) = (m + f) + 1 by omega, exec_scope, h1]⟩, h2⟩
theorem W.cond {c : Operand} {a b : Code} {s : St} {K : Ex → St → Prop} {p : Bool} (hp : ev s.t c = .ok (.bool p)) (ha : p = true → W tb a s K) (hb : p = false → W tb b s K) : W tb (.cond c a b) s K := by
  cases p with
  | true =>
    obtain ⟨e, s1, ⟨f, h1⟩, h2⟩ := ha rfl
    exact ⟨e, s1, ⟨f + 1, fun m => by rw [show m + (f + 1) = (m + f) + 1 by omega, exec_cond, hp, R.ok_bind]; exact h1 m⟩, h2⟩
  | false =>
    obtain ⟨e, s1, ⟨f, h1⟩, h2⟩ := hb rfl
    exact ⟨e, s1, ⟨f + 1, fun m => by rw [show m + (f + 1) = (m + f) + 1 by omega, exec_cond, hp, R.ok_bind]; exact h1 m⟩, h2⟩
/-- One round of a loop. -/
theorem W.round {c : Code} {s : St} {K : Ex → St → Prop} (h : W tb c s (Then tb (.loop c) K)) : W tb (.loop c) s K := by
  obtain ⟨e, s1, ⟨f, h1⟩, h2⟩ := h
  cases e with
  | nrm =>
    obtain ⟨e2, s2, ⟨g, h3⟩, h4⟩ := h2
    refine ⟨e2, s2, ⟨f + g + 1, fun m => ?_⟩, h4⟩
    rw [show m + (f + g + 1) = (m + g + f) + 1 by omega, exec_loop, h1, R.ok_bind]
    show exec tb (m + g + f) (.loop c) s1 = _
    rw [show m + g + f = m + f + g by omega]; exact h3 (m + f)
  | _ => exact ⟨_, s1, ⟨f + 1, fun m => by rw [show m + (f + 1) = (m + f) + 1 by omega, exec_loop, h1]; rfl⟩, h2⟩
/-- A loop: 'P' holds at each head, and a number falls. -/
theorem W.loop {c : Code} {K : Ex → St → Prop} (P : St → Prop) (μ : St → Nat) (hb : ∀ s, P s → W tb c s fun e s' => match e with
    | .nrm => P s' ∧ μ s' < μ s
    | e => K e s') : ∀ {s : St}, P s → W tb (.loop c) s K := by
  have main : ∀ n s, μ s = n → P s → W tb (.loop c) s K := by
    intro n
    induction n using Nat.strongRecOn with
    | ind n ih =>
      intro s hn hp
      obtain ⟨e, s1, ⟨f, h1⟩, h2⟩ := hb s hp
      cases e with
      | nrm =>
        obtain ⟨e2, s2, ⟨g, h3⟩, h4⟩ := ih _ (by rw [← hn]; exact h2.2) s1 rfl h2.1
        refine ⟨e2, s2, ⟨f + g + 1, fun m => ?_⟩, h4⟩
        have e1 := h1 (m + g)
        rw [show m + (f + g + 1) = (m + g + f) + 1 by omega, exec_loop, e1, R.ok_bind]
        show exec tb (m + g + f) (.loop c) s1 = _
        rw [show m + g + f = m + f + g by omega]; exact h3 (m + f)
      | _ => exact ⟨_, s1, ⟨f + 1, fun m => by rw [show m + (f + 1) = (m + f) + 1 by omega, exec_loop, h1]; rfl⟩, h2⟩
  exact fun {s} hp => main _ s rfl hp

/-- A function's text: its result. -/
def CallsTo (tb : Tab) (f : FuncId) (args : List Value) (A : Mem) (v : Value) (A' : Mem) : Prop := ∃ n, call tb n f args A = .ok (.val v A')
theorem call_of_W {f : FuncId} {fn : Func} {c : Code} {args : List Value} {A : Mem} {Q : Value → Mem → Prop} (hf : tb.fn.get f = some fn) (hb : fn.body = some c) (hn : args.length ≤ fn.ntmps)
    (h : W tb c ⟨T.puts .e 0 args, fn.ntmps, [], A, none⟩ fun e s => (e = .nrm ∨ e = .ret) ∧ ∃ A' vs, takeF s.d s.m = .ok A' ∧ resF tb s.t A'.get fn.results.toList = .ok vs ∧ Q (oneOf vs) A') :
    ∃ v A', CallsTo tb f args A v A' ∧ Q v A' := by
  obtain ⟨e, s1, ⟨g, h1⟩, he, A', vs, h2, h3, h4⟩ := h
  refine ⟨_, A', ⟨g, ?_⟩, h4⟩
  unfold call
  simp only [hf, hb]
  unfold bodyF
  have hb : Nat.ble args.length fn.ntmps = true := by rw [Nat.ble_eq]; exact hn
  rw [hb, cond_true]
  have := h1 0
  rw [Nat.zero_add] at this
  rw [this, R.ok_bind]
  rcases he with rfl | rfl <;> simp only [h2, h3, R.ok_bind]

/-- A call of a function with a text, whatever fuel it takes. -/
theorem callF_of_W {f : FuncId} {fn : Func} {c : Code} {args : List Value} {A : Mem} {Q : Value → Mem → Prop} (hf : tb.fn.get f = some fn) (hb : fn.body = some c) (hn : args.length ≤ fn.ntmps) (hnm : (fn.name == "runtime.NumGoroutine") = false) (hk : tb.hk.get f = none)
    (h : W tb c ⟨T.puts .e 0 args, fn.ntmps, [], A, none⟩ fun e s => (e = .nrm ∨ e = .ret) ∧ ∃ A' vs, takeF s.d s.m = .ok A' ∧ resF tb s.t A'.get fn.results.toList = .ok vs ∧ Q (oneOf vs) A') :
    ∃ v A', (∃ g, ∀ m, callF tb (exec tb (m + g)) (.fn f args) A = .ok (.val v A')) ∧ Q v A' := by
  obtain ⟨e, s1, ⟨g, h1⟩, he, A', vs, h2, h3, h4⟩ := h
  refine ⟨_, A', ⟨g, fun m => ?_⟩, h4⟩
  unfold callF
  simp only [hf, hb, hnm, hk, cond_false]
  unfold bodyF
  have hb : Nat.ble args.length fn.ntmps = true := by rw [Nat.ble_eq]; exact hn
  rw [hb, cond_true, h1, R.ok_bind]
  rcases he with rfl | rfl <;> simp only [h2, h3, R.ok_bind]

end Go.Am

/-
  The abstract machine AM, part 48: bytes in memory.
-/
namespace Go.Am
variable {tb : Tab}

theorem gets_eq {α : Type} (t : T α) : ∀ (n i : Nat) (l : List α), l.length = n → (∀ j, j < n → t.get (i + j) = l[j]?) → t.gets n i = some l
  | 0, i, l, hl, _ => by
    have : l = [] := List.length_eq_zero_iff.1 hl
    rw [this]; rfl
  | n + 1, i, [], hl, _ => by simp at hl
  | n + 1, i, x :: l, hl, h => by
    rw [T.gets_succ]
    have h0 := h 0 (by omega)
    simp only [Nat.add_zero, List.getElem?_cons_zero] at h0
    have ht : t.gets n (i + 1) = some l := gets_eq t n (i + 1) l (by simpa using hl) fun j hj => by
      have := h (j + 1) (by omega)
      rw [show i + 1 + j = i + (j + 1) by omega, this]; simp
    rw [h0, ht]
theorem gets_puts {α : Type} (l : List α) : (T.puts .e 0 l).gets l.length 0 = some l :=
  gets_eq _ _ _ _ rfl fun j hj => by
    rw [T.get_puts, Nat.zero_add, if_pos (by omega)]; simp
/-- A part of a row. -/
theorem gets_part {α : Type} (l : List α) (o n : Nat) (h : o + n ≤ l.length) : (T.puts .e 0 l).gets n o = some ((l.drop o).take n) :=
  gets_eq _ _ _ _ (by simp; omega) fun j hj => by
    rw [T.get_puts, if_pos (by omega), List.getElem?_take, if_pos hj, List.getElem?_drop, Nat.sub_zero]

theorem bytesOf_map : ∀ (l : List UInt8), bytesOf (l.map byteV) = .ok l
  | [] => rfl
  | b :: l => by
    show (bytesOf (l.map byteV)).bind (fun r => R.ok (UInt8.ofNat b.toNat :: r)) = _
    rw [bytesOf_map l, R.ok_bind]; simp

/-- A block of bytes. -/
def Bytes (A : Mem) (b : Nat) (e : TypeId) (k : Kd) (l : List UInt8) : Prop := A.get b = some (.cells e k 0 (T.puts .e 0 (l.map byteV)))

theorem elemsF_bytes {A : Mem} {b : Nat} {e : TypeId} {k : Kd} {l : List UInt8} (h : Bytes A b e k l) : elemsF A.get 1 l.length (some ⟨b, 0, none⟩) = .ok (l.map byteV) := by
  unfold elemsF
  simp only [Nat.mul_one]
  cases hn : Nat.beq l.length 0 with
  | true =>
    have : l = [] := List.length_eq_zero_iff.1 (Nat.eq_of_beq_eq_true hn)
    subst this; rfl
  | false =>
    have h' : A.get b = _ := h
    have hg : (T.puts .e 0 (l.map byteV)).gets l.length 0 = some (l.map byteV) := by
      have := gets_puts (l.map byteV)
      rwa [List.length_map] at this
    simp only [cond_false, h', hg]

/-- A slice of bytes, as a string. -/
theorem str_of_bytes {A : Mem} {b : Nat} {e : TypeId} {k : Kd} {l : List UInt8} {s d : TypeId} {c : Nat} (h1 : tb.und s = some (.slice e)) (h2 : tb.und d = some .string) (h3 : tb.und e = some (.int .u8)) (h : Bytes A b e k l) :
    convRF tb A.get s d (.slice (some ⟨b, 0, none⟩) l.length c) = .ok (strOf l) := by
  unfold convRF
  simp only [h1, h2, h3, toStringF, elemsF_bytes h, R.ok_bind, bytesOf_map]

/-- A string, as a slice of bytes. -/
theorem bytes_of_str {l : List UInt8} {s d e : TypeId} (h1 : tb.und s = some .string) (h2 : tb.und d = some (.slice e)) (h3 : tb.und e = some (.int .u8)) (hl : l.length < 4294967296) :
    toBytesF tb s d (strOf l) = .ok (.cells e .mark 0 (T.puts .e 0 (l.map byteV)), .slc l.length (mkX l.length 1)) := by
  unfold toBytesF strOf
  have : Nat.blt l.length 4294967296 = true := by rw [Nat.blt_eq]; exact hl
  simp only [h1, h2, h3, this, cond_true]

theorem byteV_ofNat {v : Nat} (h : v < 256) : Value.int .u8 (v : Int) = byteV (UInt8.ofNat v) := by
  unfold byteV
  have e : (UInt8.ofNat v).toNat = v := by rw [UInt8.toNat_ofNat']; exact Nat.mod_eq_of_lt h
  rw [e]; rfl

theorem get_alloc_self (A : Mem) (o : Ob) : (A.alloc o).get A.next = some o := by rw [get_alloc, if_pos rfl]
theorem get_alloc_ne {A : Mem} {o : Ob} {x : Nat} (h : x ≠ A.next) : (A.alloc o).get x = A.get x := by rw [get_alloc, if_neg h]

/-- One byte more, behind bytes of which it is not known how much room is behind them. -/
theorem append_byte {A : Mem} {st xt e : TypeId} {i : TypeInfo} {b b2 : Nat} {k : Kd} {l : List UInt8} {v : Nat} (hst : tb.und st = some (.slice e)) (hxt : tb.und xt = some (.slice e)) (hz : zcellsF tb e = .ok (1, [.int .u8 0])) (hi : tb.ty.get e = some i) (hib : i.bytes = 1)
    (hl : l.length < 16777216) (hk : k = .mark ∨ k = .row) (hb : Bytes A b e k l) (hb2 : A.get b2 = some (rowOb e [.int .u8 (v : Int)])) (hv : v < 256) :
    appendF tb A st xt (.slice (some ⟨b, 0, none⟩) l.length (mkX l.length 1)) (.slice (some ⟨b2, 0, none⟩) 1 2) =
      .ok (.slice (some ⟨A.next, 0, none⟩) (l.length + 1) (mkX (l.length + 1) 1), (A.set b .dead).alloc (.cells e k 0 (T.puts .e 0 ((l ++ [UInt8.ofNat v]).map byteV)))) := by
  have he1 : (1 : Nat) < 65536 := by omega
  have hnew : firstF A.get 1 1 (.slice (some ⟨b2, 0, none⟩) 1 2) = .ok [byteV (UInt8.ofNat v)] := by
    have hb3 : Bytes A b2 e (.var 1) [UInt8.ofNat v] := by
      show A.get b2 = some (.cells e (.var 1) 0 (T.puts .e 0 [byteV (UInt8.ofNat v)]))
      rw [hb2, byteV_ofNat hv]; rfl
    exact elemsF_bytes hb3
  have hble : Nat.ble (l.length + 1) (capN (mkX l.length 1)) = false := by
    rw [capN_mkX he1]
    cases hq : Nat.ble (l.length + 1) l.length with
    | false => rfl
    | true => have := Nat.le_of_ble_eq_true hq; omega
  have hlim : (Nat.ble (l.length + 1) 16777216 && Nat.ble i.bytes 65536 && Nat.blt 0 i.bytes && Nat.blt 0 1 && Nat.blt 1 65536) = true := by
    have a1 : Nat.ble (l.length + 1) 16777216 = true := Nat.ble_eq_true_of_le (by omega)
    rw [a1, hib]; rfl
  have hb' : A.get b = _ := hb
  have hx : capX (mkX l.length 1) = false := capX_mkX _ _
  have he : Nat.beq (capE (mkX l.length 1)) 1 = true := by rw [capE_mkX he1]; rfl
  have hfz : (Nat.ble 0 (0 + l.length * 1) && (Nat.beq e e && Nat.blt 0 9223372036854775808)) = true := by
    have h0 : Nat.blt 0 9223372036854775808 = true := by rw [Nat.blt_eq]; omega
    rw [h0]; simp
  unfold appendF appendG
  simp only [hst, hxt, isIntD, cond_false, hz, R.ok_bind, lenF, hnew, hble, hi, hlim, cond_true, elemsF_bytes hb, hx, he, List.all_cons, List.all_nil, byteV, oneCell, Bool.and_true, hb', hfz]
  rcases hk with rfl | rfl <;> simp [byteV]

/-! ### Cells -/
theorem indexAddr_arr {t elem : TypeId} {len b o i : Nat} {k : IntKind} (hu : tb.und t = some (.array len elem)) (hs : sizeF tb elem = .ok 1) (h : i < len) :
    indexAddrF tb t (.pointer (some ⟨b, o, none⟩)) (.int k (i : Int)) = .ok (.pointer (some ⟨b, o + i, none⟩)) := by
  have hb : Nat.blt i len = true := by rw [Nat.blt_eq]; exact h
  have hn : natV (.int k (i : Int)) = .ok i := rfl
  unfold indexAddrF
  simp only [hn, hu, hb, cond_true, hs, R.ok_bind, addA, Nat.mul_one]
theorem indexAddr_slc {t elem : TypeId} {len cap b o i : Nat} {k : IntKind} (hu : tb.und t = some (.slice elem)) (hs : sizeF tb elem = .ok 1) (h : i < len) :
    indexAddrF tb t (.slice (some ⟨b, o, none⟩) len cap) (.int k (i : Int)) = .ok (.pointer (some ⟨b, o + i, none⟩)) := by
  have hb : Nat.blt i len = true := by rw [Nat.blt_eq]; exact h
  have hn : natV (.int k (i : Int)) = .ok i := rfl
  unfold indexAddrF
  simp only [hn, hu, hb, cond_true, hs, R.ok_bind, addA, Nat.mul_one]
theorem load_row {t e : TypeId} {d : TypeDesc} {A : Mem} {b o : Nat} {l : List Value} {v : Value} (hu : tb.und t = some d) (ha : isAggD d = false) (hg : A.get b = some (rowOb e l)) (hv : l[o]? = some v) :
    loadF tb A.get t (.pointer (some ⟨b, o, none⟩)) = .ok v := by
  have ho : o < l.length := (List.getElem?_eq_some_iff.1 hv).1
  have hc : (T.puts .e 0 l).get o = some v := by
    rw [T.get_puts, if_pos (by omega), Nat.sub_zero]; exact hv
  unfold loadF
  simp only [hg, rowOb, hu, ha, cond_false, hc]
theorem load_same {t : TypeId} {A B : Mem} {b o : Nat} (h : A.get b = B.get b) : loadF tb A.get t (.pointer (some ⟨b, o, none⟩)) = loadF tb B.get t (.pointer (some ⟨b, o, none⟩)) := by
  unfold loadF
  simp only [h]
theorem len_slc {t e : TypeId} {a : Option Addr} {n c : Nat} (hu : tb.und t = some (.slice e)) : builtinPF tb .len [t] [.slice a n c] = .ok (.int .i64 ((n : Nat) : Int)) := by
  unfold builtinPF lenPF
  simp only [hu]; rfl

end Go.Am

/-
  The abstract machine AM, part 49: bytes that are written in place; more arithmetic.
-/
namespace Go.Am
variable {tb : Tab}

/-- A block of bytes, whatever way it was filled. -/
def Byt (A : Mem) (b : Nat) (e : TypeId) (k : Kd) (l : List UInt8) : Prop := ∃ c, A.get b = some (.cells e k 0 c) ∧ ∀ i, i < l.length → c.get i = (l.map byteV)[i]?
theorem Bytes.byt {A : Mem} {b : Nat} {e : TypeId} {k : Kd} {l : List UInt8} (h : Bytes A b e k l) : Byt A b e k l :=
  ⟨_, h, fun i hi => by rw [T.get_puts, Nat.zero_add, List.length_map, if_pos ⟨Nat.zero_le _, hi⟩, Nat.sub_zero]⟩
theorem Byt.same {A A' : Mem} {b : Nat} {e : TypeId} {k : Kd} {l : List UInt8} (h : Byt A b e k l) (hg : A'.get b = A.get b) : Byt A' b e k l := by
  obtain ⟨c, h1, h2⟩ := h
  exact ⟨c, hg.trans h1, h2⟩
theorem elemsF_byt {A : Mem} {b : Nat} {e : TypeId} {k : Kd} {l : List UInt8} (h : Byt A b e k l) : elemsF A.get 1 l.length (some ⟨b, 0, none⟩) = .ok (l.map byteV) := by
  obtain ⟨c, h1, h2⟩ := h
  unfold elemsF
  simp only [Nat.mul_one]
  cases hn : Nat.beq l.length 0 with
  | true =>
    have : l = [] := List.length_eq_zero_iff.1 (Nat.eq_of_beq_eq_true hn)
    subst this; rfl
  | false =>
    have hg : c.gets l.length 0 = some (l.map byteV) := gets_eq _ _ _ _ (by simp) fun j hj => by rw [Nat.zero_add]; exact h2 j hj
    simp only [cond_false, h1, hg]
theorem str_of_byt {A : Mem} {b : Nat} {e : TypeId} {k : Kd} {l : List UInt8} {s d : TypeId} {c : Nat} (h1 : tb.und s = some (.slice e)) (h2 : tb.und d = some .string) (h3 : tb.und e = some (.int .u8)) (h : Byt A b e k l) :
    convRF tb A.get s d (.slice (some ⟨b, 0, none⟩) l.length c) = .ok (strOf l) := by
  unfold convRF
  simp only [h1, h2, h3, toStringF, elemsF_byt h, R.ok_bind, bytesOf_map]
theorem load_byt {A : Mem} {b o : Nat} {e t : TypeId} {k : Kd} {l : List UInt8} (hu : tb.und t = some (.int .u8)) (h : Byt A b e k l) (ho : o < l.length) :
    loadF tb A.get t (.pointer (some ⟨b, o, none⟩)) = .ok (.int .u8 (((l.getD o 0).toNat : Nat) : Int)) := by
  obtain ⟨c, h1, h2⟩ := h
  have hc := h2 o ho
  rw [List.getElem?_map, List.getElem?_eq_getElem ho] at hc
  unfold loadF
  simp only [h1, hu, isAggD, cond_false, hc, Option.map_some]
  simp [byteV, List.getD, List.getElem?_eq_getElem ho]
theorem store_byt {A : Mem} {b o v : Nat} {e t : TypeId} {k : Kd} {l : List UInt8} (hs : sizeF tb t = .ok 1) (h : Byt A b e k l) (ho : o < l.length) (hv : v < 256) :
    ∃ A', storeF tb A t (.pointer (some ⟨b, o, none⟩)) (.int .u8 (v : Int)) = .ok A' ∧ Byt A' b e k (l.set o (.ofNat v)) ∧ A'.next = A.next ∧ ∀ x, x ≠ b → A'.get x = A.get x := by
  obtain ⟨c, h1, h2⟩ := h
  have hc : c.get o = some (byteV l[o]) := by rw [h2 o ho, List.getElem?_map, List.getElem?_eq_getElem ho]; rfl
  have hst : storesF (roomK k) 0 [.int .u8 (v : Int)] o c = .ok (c.set o (.int .u8 (v : Int))) := by
    unfold storesF
    have hb : (oneCell (.int .u8 (v : Int)) && Nat.ble 0 o) = true := by simp [oneCell]
    rw [hb, cond_true, hc]
    rfl
  refine ⟨A.set b (.cells e k 0 (c.set o (.int .u8 (v : Int)))), ?_, ⟨_, by rw [get_setMem, if_pos rfl], fun i hi => ?_⟩, next_set _ _ _, fun x hx => by rw [get_setMem, if_neg hx]⟩
  · unfold storeF
    simp only [hs, R.ok_bind]
    show (bif Nat.beq 1 1 then storeAtF A ⟨b, o, none⟩ [.int .u8 (v : Int)] else .no 123) = _
    unfold storeAtF
    simp only [h1, hst, R.ok_bind]
    rfl
  · rw [List.length_set] at hi
    rw [T.get_set, List.getElem?_map, List.getElem?_set]
    by_cases hio : i = o
    · subst hio
      rw [if_pos rfl, if_pos rfl, if_pos hi]
      simp [byteV_ofNat hv]
    · rw [if_neg hio, if_neg (fun x => hio x.symm), h2 i hi, List.getElem?_map]

end Go.Am

/-
  The abstract machine AM, part 50: rows of values in memory; functions that change memory and are known; loops that count; an open order in which readers float.
-/
namespace Go.Am
variable {tb : Tab} {ih : Code → St → R (Ex × St)}

/-! ### Slots -/
def Sl (t : T Value) : List (Nat × Value) → Prop
  | [] => True
  | p :: l => t.get p.1 = some p.2 ∧ Sl t l
theorem Sl_cons (t : T Value) (i : Nat) (v : Value) (l : List (Nat × Value)) : Sl t ((i, v) :: l) = (t.get i = some v ∧ Sl t l) := rfl
theorem Sl_nil (t : T Value) : Sl t [] = True := rfl

/-! ### Runs -/
/-- As W.run, where fuel is asked for. -/
theorem W.runG {c : Code} {s : St} {K : Ex → St → Prop} (g f : Nat) {e : Ex} {s' : St} (h : ∀ M, g ≤ M → exec tb (M + f) c s = .ok (e, s')) (k : K e s') : W tb c s K :=
  ⟨e, s', ⟨g + f, fun m => by rw [← Nat.add_assoc]; exact h _ (Nat.le_add_left _ _)⟩, k⟩
/-- A loop that counts up to N. -/
theorem W.up {c : Code} {n : Nat} {d : List Nat} {ro : Option Nat} {K : Ex → St → Prop} (N : Nat) (P : Nat → T Value → Mem → Prop)
    (hb : ∀ k t A, k ≤ N → P k t A → W tb c ⟨t, n, d, A, ro⟩ fun e s' => match e with
      | .nrm => k < N ∧ ∃ t' A', s' = ⟨t', n, d, A', ro⟩ ∧ P (k + 1) t' A'
      | e => K e s') {k : Nat} {t : T Value} {A : Mem} (hk : k ≤ N) (hp : P k t A) : W tb (.loop c) ⟨t, n, d, A, ro⟩ K := by
  have main : ∀ j k t A, k + j = N → P k t A → W tb (.loop c) ⟨t, n, d, A, ro⟩ K := by
    intro j
    induction j with
    | zero =>
      intro k t A hk hp
      refine W.round ((hb k t A (by omega) hp).mono fun e s' h => ?_)
      cases e with
      | nrm => exact absurd h.1 (by omega)
      | _ => exact h
    | succ j ih =>
      intro k t A hk hp
      refine W.round ((hb k t A (by omega) hp).mono fun e s' h => ?_)
      cases e with
      | nrm =>
        obtain ⟨_, t', A', rfl, h'⟩ := h
        exact ih (k + 1) t' A' (by omega) h'
      | _ => exact h
  exact main (N - k) k t A (by omega) hp
/-- A loop in which a number falls. -/
theorem W.fall {c : Code} {n : Nat} {d : List Nat} {ro : Option Nat} {K : Ex → St → Prop} (P : Nat → T Value → Mem → Prop)
    (hb : ∀ k t A, P k t A → W tb c ⟨t, n, d, A, ro⟩ fun e s' => match e with
      | .nrm => ∃ k' t' A', k' < k ∧ s' = ⟨t', n, d, A', ro⟩ ∧ P k' t' A'
      | e => K e s') {k : Nat} {t : T Value} {A : Mem} (hp : P k t A) : W tb (.loop c) ⟨t, n, d, A, ro⟩ K := by
  have main : ∀ k t A, P k t A → W tb (.loop c) ⟨t, n, d, A, ro⟩ K := by
    intro k
    induction k using Nat.strongRecOn with
    | ind k ih =>
      intro t A hp
      refine W.round ((hb k t A hp).mono fun e s' h => ?_)
      cases e with
      | nrm =>
        obtain ⟨k', t', A', hlt, rfl, h'⟩ := h
        exact ih k' hlt t' A' h'
      | _ => exact h
  exact main k t A hp

/-- What a call answers, if there is fuel enough. -/
def Ans (tb : Tab) (f : FuncId) (args : List Value) (A : Mem) (v : Value) (A' : Mem) : Prop := ∃ g, ∀ M, g ≤ M → callF tb (exec tb M) (.fn f args) A = .ok (.val v A')
theorem ans_of_W {f : FuncId} {fn : Func} {c : Code} {args : List Value} {A : Mem} {Q : Value → Mem → Prop} (hf : tb.fn.get f = some fn) (hb : fn.body = some c) (hn : args.length ≤ fn.ntmps) (hnm : (fn.name == "runtime.NumGoroutine") = false) (hk : tb.hk.get f = none)
    (h : W tb c ⟨T.puts .e 0 args, fn.ntmps, [], A, none⟩ fun e s => (e = .nrm ∨ e = .ret) ∧ ∃ A' vs, takeF s.d s.m = .ok A' ∧ resF tb s.t A'.get fn.results.toList = .ok vs ∧ Q (oneOf vs) A') :
    ∃ v A', Ans tb f args A v A' ∧ Q v A' := by
  obtain ⟨v, A', ⟨g, h1⟩, h2⟩ := callF_of_W hf hb hn hnm hk h
  refine ⟨v, A', ⟨g, fun M hM => ?_⟩, h2⟩
  have := h1 (M - g)
  rwa [Nat.sub_add_cancel hM] at this
theorem ans_calls {f : FuncId} {fn : Func} {c : Code} {args : List Value} {A A' : Mem} {v : Value} (hf : tb.fn.get f = some fn) (hb : fn.body = some c) (hnm : (fn.name == "runtime.NumGoroutine") = false) (hk : tb.hk.get f = none) (h : Ans tb f args A v A') : CallsTo tb f args A v A' := by
  obtain ⟨g, hg⟩ := h
  refine ⟨g, ?_⟩
  have h1 := hg g (Nat.le_refl _)
  unfold callF at h1
  simp only [hf, hb, hnm, hk, cond_false] at h1
  unfold call
  simp only [hf, hb]
  exact h1

/-! ### Functions that change memory, and are known -/
open Classical in
/-- What is known of a function: that it answers; and Q of its answer. -/
noncomputable def memHook (tb : Tab) (f : FuncId) (Q : List Value → Mem → Value → Mem → Prop) : List Value → Mem → R (Value × Mem) := fun args A =>
  if h : ∃ x : Value × Mem, CallsTo tb f args A x.1 x.2 ∧ Q args A x.1 x.2 then .ok h.choose else .no 601
theorem hook_mem (ok : TabOk tb) {f : FuncId} {fn : Func} {c : Code} (hf : tb.fn.get f = some fn) (hb : fn.body = some c) (Q : List Value → Mem → Value → Mem → Prop) : HookOk tb.P f (memHook tb f Q) := by
  intro args A v A' ha
  unfold memHook at ha
  split at ha
  · rename_i h
    simp only [R.ok.injEq] at ha
    obtain ⟨n, hc⟩ := h.choose_spec.1
    rw [ha] at hc
    unfold call at hc
    simp only [hf, hb] at hc
    rcases fn_sound ok (exec_sound ok n) hf hb hc with ⟨_, _, h1, _⟩ | ⟨v1, A1, h1, hle, hs⟩
    · cases h1
    · cases h1
      refine ⟨hle, fun ι w args' hr hargs hfree fr cs => ?_⟩
      obtain ⟨ι', w', v', ⟨fr0, st, hfn, hlv⟩, hv, hrel, hst⟩ := hs ι w args' (fr :: cs) hr hargs hfree
      exact ⟨ι', w', v', st.trans (.one (step_leave_returned hlv)), hv, hrel, hst⟩
  · cases ha
theorem callF_mem {tb' : Tab} {f : FuncId} {fn : Func} {c : Code} {Q : List Value → Mem → Value → Mem → Prop} {args : List Value} {A : Mem} (hf : tb'.fn.get f = some fn) (hn : (fn.name == "runtime.NumGoroutine") = false) (hb : fn.body = some c)
    (hk : tb'.hk.get f = some (memHook tb f Q)) (h : ∃ v A', CallsTo tb f args A v A' ∧ Q args A v A') : ∃ v A', (∀ ih, callF tb' ih (.fn f args) A = .ok (.val v A')) ∧ Q args A v A' := by
  obtain ⟨v0, A0, h1, h2⟩ := h
  have hx : ∃ x : Value × Mem, CallsTo tb f args A x.1 x.2 ∧ Q args A x.1 x.2 := ⟨(v0, A0), h1, h2⟩
  refine ⟨hx.choose.1, hx.choose.2, fun ih => ?_, hx.choose_spec.2⟩
  refine callF_known hf hn hb hk ?_
  unfold memHook
  rw [dif_pos hx]

/-! ### More operations -/
section
variable (dst : Option Tmp) (ty : TypeId) (pos : String) (after : Array Edge) (g : Option (Nat × Bool)) (s : St) (k : St → R (Ex × St))
theorem opF_makeFunc (f : FuncId) (a b : Array Operand) : opF tb ih { dst, op := .makeFunc (.func f) a b, type := ty, pos, after, guard := g } s k =
    (evs s.t a.toList).bind fun a => (evs s.t b.toList).bind fun b => putT s dst (.func (.func f) ⟨a⟩ ⟨b⟩) k := by
  rw [opF_P _ _ _ _ _ _ _ rfl rfl]; simp only [pOp, R.bind_bind, R.ok_bind]
/-- A call of a function that is a value. -/
noncomputable def callV (tb : Tab) (ih : Code → St → R (Ex × St)) (fv : Value) (a : List Value) (A : Mem) : R Res := (calleeF tb A.get fv a).bind fun cl => callF tb ih cl A
theorem callV_func (f : FuncId) (x y : List Value) (a : List Value) (A : Mem) : callV tb ih (.func (.func f) ⟨x⟩ ⟨y⟩) a A = callF tb ih (.fn f (x ++ a ++ y)) A := rfl
theorem callV_yield (l : Nat) (x y : Array Value) (a : List Value) (A : Mem) : callV tb ih (.func (.yield l) x y) a A = callF tb ih (.round l a) A := rfl
theorem opF_callv (x : Nat) (args : Array Operand) (ts : Array TypeId) : opF tb ih { dst, op := .call { callee := .value (.tmp x), args, argTypes := ts }, type := ty, pos, after, guard := g } s k =
    (evs s.t args.toList).bind fun a => (ev s.t (.tmp x)).bind fun fv => (callV tb ih fv a s.m).bind fun r => resK s dst k r := by
  unfold opF
  show ((clOf tb s.t s.m.get { callee := .value (.tmp x), args, argTypes := ts }).bind fun cl => (callF tb ih cl s.m).bind fun r => match r with
    | .val v A => putT { s with m := A } dst v k
    | .pan v A => .ok (.pan v, { s with m := A })) = _
  unfold clOf callV
  simp only [R.bind_bind]
  cases evs s.t args.toList with
  | no _ => rfl
  | ok a =>
    simp only [R.ok_bind]
    cases ev s.t (.tmp x) with
    | no _ => rfl
    | ok fv =>
      simp only [R.ok_bind]
      cases calleeF tb s.m.get fv a with
      | no _ => rfl
      | ok cl =>
        simp only [R.ok_bind]
        cases callF tb ih cl s.m with
        | no _ => rfl
        | ok r => cases r <;> rfl
end

theorem ev_nilslice (t : T Value) : ev t (.const (.slice none 0 0)) = .ok (.slice none 0 0) := rfl
theorem ev_nilfunc (t : T Value) : ev t (.const .nilFunc) = .ok .nilFunc := rfl
theorem ev_nilptr (t : T Value) : ev t (.const (.pointer none)) = .ok (.pointer none) := rfl
theorem ev_nilmap (t : T Value) : ev t (.const (.map none)) = .ok (.map none) := rfl

/-! ### Integers -/
theorem iltF_iff (a b : Int) : iltF a b = decide (a < b) := by
  have h : ∀ x y : Nat, Nat.blt x y = decide (x < y) := fun x y => by
    cases hb : Nat.blt x y with
    | true => rw [Nat.blt_eq] at hb; simp [hb]
    | false =>
      have : ¬ x < y := fun h => by rw [← Nat.blt_eq, hb] at h; cases h
      simp [this]
  unfold iltF
  split
  · rw [h]; congr 1; simp
  · symm; simp only [decide_eq_false_iff_not]; simp only [Int.ofNat_eq_natCast]; omega
  · symm; simp only [decide_eq_true_eq]; simp only [Int.ofNat_eq_natCast]; omega
  · rw [h]; congr 1; simp only [eq_iff_iff]; omega
theorem ieqF_iff (a b : Int) : ieqF a b = decide (a = b) := by
  have h : ∀ x y : Nat, Nat.beq x y = decide (x = y) := fun x y => by
    cases hb : Nat.beq x y with
    | true => have := Nat.eq_of_beq_eq_true hb; simp [this]
    | false => have := Nat.ne_of_beq_eq_false hb; simp [this]
  unfold ieqF
  split
  · rw [h]; congr 1; simp only [Int.ofNat_eq_natCast, eq_iff_iff]; omega
  · rw [h]; congr 1; simp only [eq_iff_iff]; omega
  · rename_i h1 h2
    symm; simp only [decide_eq_false_iff_not]
    intro hab
    subst hab
    cases a with
    | ofNat x => exact h1 x x rfl rfl
    | negSucc x => exact h2 x x rfl rfl
theorem op_leq {k : IntKind} {a b : Int} : intOpF .leq k a b = .ok (.bool (decide (a ≤ b))) := by
  show R.ok (Value.bool (!iltF b a)) = _
  rw [iltF_iff]; congr 2
  by_cases h : a ≤ b
  · have : ¬ b < a := by omega
    simp [h, this]
  · have : b < a := by omega
    simp [h, this]
theorem op_gtr {k : IntKind} {a b : Int} : intOpF .gtr k a b = .ok (.bool (decide (b < a))) := by
  show R.ok (Value.bool (iltF b a)) = _
  rw [iltF_iff]
theorem op_geq {k : IntKind} {a b : Int} : intOpF .geq k a b = .ok (.bool (decide (b ≤ a))) := by
  show R.ok (Value.bool (!iltF a b)) = _
  rw [iltF_iff]; congr 2
  by_cases h : b ≤ a
  · have : ¬ a < b := by omega
    simp [h, this]
  · have : a < b := by omega
    simp [h, this]
theorem op_lssI {k : IntKind} {a b : Int} : intOpF .lss k a b = .ok (.bool (decide (a < b))) := by
  show R.ok (Value.bool (iltF a b)) = _
  rw [iltF_iff]
theorem op_eqlI {k : IntKind} {a b : Int} : intOpF .eql k a b = .ok (.bool (decide (a = b))) := by
  show R.ok (Value.bool (ieqF a b)) = _
  rw [ieqF_iff]
theorem op_neqI {k : IntKind} {a b : Int} : intOpF .neq k a b = .ok (.bool (decide (a ≠ b))) := by
  show R.ok (Value.bool (!ieqF a b)) = _
  rw [ieqF_iff]; congr 2; by_cases h : a = b <;> simp [h]
theorem cast_le (a b : Nat) : ((a : Int) ≤ (b : Int)) = (a ≤ b) := by simp
theorem cast_lt (a b : Nat) : ((a : Int) < (b : Int)) = (a < b) := by simp
theorem cast_eq' (a b : Nat) : ((a : Int) = (b : Int)) = (a = b) := by apply propext; omega
theorem op_remI {k : IntKind} {a : Int} {b : Nat} (h : 0 < b) : intOpF .rem k a (b : Int) = .ok (.int k (a.tmod b)) := by
  obtain ⟨c, rfl⟩ : ∃ c, b = c + 1 := ⟨b - 1, by omega⟩
  cases a with
  | ofNat x => rfl
  | negSucc x => rfl
theorem op_subI {a b : Int} (h1 : -9223372036854775808 ≤ a - b) (h2 : a - b ≤ 9223372036854775807) : intOpF .sub .i64 a b = .ok (.int .i64 (a - b)) := by
  show R.ok (Value.int .i64 (wrapF .i64 (a - b))) = _
  rw [wrapF_eq, wrap_in h1 h2]
theorem min3_i64 {ts : List TypeId} {a b c : Nat} : builtinPF tb .min ts [.int .i64 (a : Int), .int .i64 (b : Int), .int .i64 (c : Int)] = .ok (.int .i64 ((min (min a b) c : Nat) : Int)) := by
  have e : builtinPF tb .min ts [.int .i64 (a : Int), .int .i64 (b : Int), .int .i64 (c : Int)] = (builtinPF tb .min ts [.int .i64 (a : Int), .int .i64 (b : Int)]).bind fun v => builtinPF tb .min ts [v, .int .i64 (c : Int)] := by
    cases ts <;> rfl
  rw [e, min_i64, R.ok_bind, min_i64]
theorem max_i64 {ts : List TypeId} {a b : Nat} : builtinPF tb .max ts [.int .i64 (a : Int), .int .i64 (b : Int)] = .ok (.int .i64 ((max a b : Nat) : Int)) := by
  have e : builtinPF tb .max ts [.int .i64 (a : Int), .int .i64 (b : Int)] = .ok (.int .i64 (bif Nat.blt a b then (b : Int) else (a : Int))) := by
    cases ts <;> rfl
  rw [e]
  cases h : Nat.blt a b with
  | true =>
    have : a < b := by simpa [Nat.blt_eq] using h
    rw [Nat.max_eq_right (by omega)]; rfl
  | false =>
    have : ¬ a < b := by intro hx; rw [← Nat.blt_eq, h] at hx; cases hx
    rw [Nat.max_eq_left (by omega)]; rfl
theorem un_not {p : Bool} : unF .not (.bool p) = .ok (.bool (!p)) := by cases p <;> rfl

/-! ### Rows of values, one cell each -/
def Vals (A : Mem) (e : TypeId) (b : Nat) (k : Kd) (l : List Value) : Prop := ∃ c, A.get b = some (.cells e k 0 c) ∧ ∀ i, i < l.length → c.get i = l[i]?
theorem vals_puts {A : Mem} {e : TypeId} {b : Nat} {k : Kd} {l : List Value} (h : A.get b = some (.cells e k 0 (T.puts .e 0 l))) : Vals A e b k l :=
  ⟨_, h, fun i hi => by rw [T.get_puts, Nat.zero_add, if_pos ⟨Nat.zero_le _, hi⟩, Nat.sub_zero]⟩
theorem Vals.same {A A' : Mem} {e : TypeId} {b : Nat} {k : Kd} {l : List Value} (h : Vals A e b k l) (hg : A'.get b = A.get b) : Vals A' e b k l := by
  obtain ⟨c, h1, h2⟩ := h
  exact ⟨c, hg.trans h1, h2⟩
theorem elemsF_vals {A : Mem} {e : TypeId} {b : Nat} {k : Kd} {l : List Value} (h : Vals A e b k l) : elemsF A.get 1 l.length (some ⟨b, 0, none⟩) = .ok l := by
  obtain ⟨c, h1, h2⟩ := h
  unfold elemsF
  simp only [Nat.mul_one]
  cases hn : Nat.beq l.length 0 with
  | true =>
    have : l = [] := List.length_eq_zero_iff.1 (Nat.eq_of_beq_eq_true hn)
    subst this; rfl
  | false =>
    have hg : c.gets l.length 0 = some l := gets_eq _ _ _ _ rfl fun j hj => by rw [Nat.zero_add]; exact h2 j hj
    simp only [cond_false, h1, hg]
theorem load_vals {A : Mem} {e t : TypeId} {d : TypeDesc} {b o : Nat} {k : Kd} {l : List Value} {v : Value} (hu : tb.und t = some d) (ha : isAggD d = false) (h : Vals A e b k l) (hv : l[o]? = some v) :
    loadF tb A.get t (.pointer (some ⟨b, o, none⟩)) = .ok v := by
  obtain ⟨c, h1, h2⟩ := h
  have ho : o < l.length := (List.getElem?_eq_some_iff.1 hv).1
  have hc := h2 o ho
  rw [hv] at hc
  unfold loadF
  simp only [h1, hu, ha, cond_false, hc]
theorem store_vals {A : Mem} {e t : TypeId} {b o : Nat} {k : Kd} {l : List Value} {v : Value} (hs : sizeF tb t = .ok 1) (h : Vals A e b k l) (ho : o < l.length) (hv : v.cells.toList = [v]) (h1c : oneCell v = true) :
    ∃ A', storeF tb A t (.pointer (some ⟨b, o, none⟩)) v = .ok A' ∧ Vals A' e b k (l.set o v) ∧ A'.next = A.next ∧ ∀ x, x ≠ b → A'.get x = A.get x := by
  obtain ⟨c, h1, h2⟩ := h
  have hc : c.get o = some l[o] := by rw [h2 o ho, List.getElem?_eq_getElem ho]
  have hst : storesF (roomK k) 0 [v] o c = .ok (c.set o v) := by
    unfold storesF
    have hb : (oneCell v && Nat.ble 0 o) = true := by rw [h1c]; simp
    rw [hb, cond_true, hc]
    rfl
  refine ⟨A.set b (.cells e k 0 (c.set o v)), ?_, ⟨_, by rw [get_setMem, if_pos rfl], fun i hi => ?_⟩, next_set _ _ _, fun x hx => by rw [get_setMem, if_neg hx]⟩
  · unfold storeF
    simp only [hs, R.ok_bind, hv]
    show (bif Nat.beq 1 1 then storeAtF A ⟨b, o, none⟩ [v] else .no 123) = _
    unfold storeAtF
    simp only [h1, hst, R.ok_bind]
    rfl
  · rw [List.length_set] at hi
    rw [T.get_set, List.getElem?_set]
    by_cases hio : i = o
    · subst hio
      rw [if_pos rfl, if_pos rfl, if_pos hi]
    · rw [if_neg hio, if_neg (fun x => hio x.symm), h2 i hi]

/-- A slice of such a row, whole; so that what is appended goes into a new one. -/
def Slc (A : Mem) (e : TypeId) (b : Nat) (l : List Value) (x : Value) : Prop :=
  (x = .slice none 0 0 ∧ l = []) ∨ ∃ k c, x = .slice (some ⟨b, 0, none⟩) l.length c ∧ b < A.next ∧ Vals A e b k l ∧ (c = 2 * l.length ∨ (c = mkX l.length 1 ∧ (k = .row ∨ k = .mark)))
theorem Slc.same {A A' : Mem} {e : TypeId} {b : Nat} {l : List Value} {x : Value} (h : Slc A e b l x) (hn : A.next ≤ A'.next) (hg : b < A.next → A'.get b = A.get b) : Slc A' e b l x := by
  rcases h with h | ⟨k, c, h1, h2, h3, h4⟩
  · exact .inl h
  · exact .inr ⟨k, c, h1, Nat.lt_of_lt_of_le h2 hn, h3.same (hg h2), h4⟩
theorem Slc.len {A : Mem} {e t t' : TypeId} {b : Nat} {l : List Value} {x : Value} (h : Slc A e b l x) (hu : tb.und t = some (.slice t')) : builtinPF tb .len [t] [x] = .ok (.int .i64 ((l.length : Nat) : Int)) := by
  rcases h with ⟨rfl, rfl⟩ | ⟨k, c, rfl, -⟩ <;> exact len_slc hu
theorem Slc.idx {A : Mem} {e t t' : TypeId} {b i : Nat} {kd : IntKind} {l : List Value} {x : Value} (h : Slc A e b l x) (hu : tb.und t = some (.slice t')) (hs : sizeF tb t' = .ok 1) (hi : i < l.length) :
    indexAddrF tb t x (.int kd (i : Int)) = .ok (.pointer (some ⟨b, i, none⟩)) := by
  rcases h with ⟨rfl, rfl⟩ | ⟨k, c, rfl, -⟩
  · simp at hi
  · rw [indexAddr_slc hu hs hi, Nat.zero_add]
theorem Slc.load {A : Mem} {e t : TypeId} {d : TypeDesc} {b o : Nat} {l : List Value} {x v : Value} (h : Slc A e b l x) (hu : tb.und t = some d) (ha : isAggD d = false) (hv : l[o]? = some v) :
    loadF tb A.get t (.pointer (some ⟨b, o, none⟩)) = .ok v := by
  rcases h with ⟨rfl, rfl⟩ | ⟨k, c, rfl, h2, h3, -⟩
  · simp at hv
  · exact load_vals hu ha h3 hv
theorem Slc.lt {A : Mem} {e : TypeId} {b : Nat} {l : List Value} {x : Value} (h : Slc A e b l x) (hl : 0 < l.length) : b < A.next := by
  rcases h with ⟨rfl, rfl⟩ | ⟨k, c, rfl, h2, -⟩
  · simp at hl
  · exact h2
theorem Slc.cells {A : Mem} {e : TypeId} {b : Nat} {l : List Value} {x : Value} (h : Slc A e b l x) : x.cells.toList = [x] := by
  rcases h with ⟨rfl, rfl⟩ | ⟨k, c, rfl, -⟩ <;> rfl
theorem Slc.one {A : Mem} {e : TypeId} {b : Nat} {l : List Value} {x : Value} (h : Slc A e b l x) : oneCell x = true := by
  rcases h with ⟨rfl, rfl⟩ | ⟨k, c, rfl, -⟩ <;> rfl
theorem cells_str (l : List UInt8) : (strOf l).cells.toList = [strOf l] := rfl
theorem cells_int (k : IntKind) (n : Int) : (Value.int k n).cells.toList = [.int k n] := rfl
theorem cells_slc (a : Option Addr) (n c : Nat) : (Value.slice a n c).cells.toList = [.slice a n c] := rfl
theorem cells_agg (l : List Value) : (Value.agg ⟨l⟩).cells.toList = l := rfl
theorem bool_neq {a b : Bool} : binF .neq (some .bool) (.bool a) (.bool b) = .ok (.bool (a != b)) := by cases a <;> cases b <;> rfl
theorem Slc.uniq {A : Mem} {e : TypeId} {b b' : Nat} {l l' : List Value} {x : Value} (h : Slc A e b l x) (h' : Slc A e b' l' x) : l = l' := by
  rcases h with ⟨rfl, rfl⟩ | ⟨k, c, rfl, -, ⟨cs, h1, h2⟩, -⟩ <;> rcases h' with ⟨he, hl⟩ | ⟨k', c', he, -, ⟨cs', h1', h2'⟩, -⟩
  · exact hl.symm
  · cases he
  · cases he
  · simp only [Value.slice.injEq, Option.some.injEq, Addr.mk.injEq] at he
    obtain ⟨⟨rfl, -, -⟩, hlen, -⟩ := he
    rw [h1] at h1'
    simp only [Option.some.injEq, Ob.cells.injEq] at h1'
    obtain ⟨-, -, -, rfl⟩ := h1'
    apply List.ext_getElem?
    intro i
    by_cases hi : i < l.length
    · rw [← h2 i hi, h2' i (by omega)]
    · rw [List.getElem?_eq_none (by omega), List.getElem?_eq_none (by omega)]
theorem cells_func (f : Fn) (a b : Array Value) : (Value.func f a b).cells.toList = [.func f a b] := rfl
theorem builtin_append (A : Mem) (st xt : TypeId) (s x : Value) : builtinLF tb A .append [st, xt] [s, x] = appendF tb A st xt s x := rfl
/-- What is stored in it. -/
theorem Slc.store {A : Mem} {e t : TypeId} {b o : Nat} {l : List Value} {x v : Value} (h : Slc A e b l x) (hs : sizeF tb t = .ok 1) (ho : o < l.length) (hv : v.cells.toList = [v]) (h1c : oneCell v = true) :
    ∃ A', storeF tb A t (.pointer (some ⟨b, o, none⟩)) v = .ok A' ∧ Slc A' e b (l.set o v) x ∧ A'.next = A.next ∧ ∀ y, y ≠ b → A'.get y = A.get y := by
  rcases h with ⟨rfl, rfl⟩ | ⟨k, c, rfl, h2, h3, h4⟩
  · simp at ho
  · obtain ⟨A', e1, e2, e3, e4⟩ := store_vals (tb := tb) (t := t) hs h3 ho hv h1c
    exact ⟨A', e1, .inr ⟨k, c, by rw [List.length_set], by omega, e2, by rw [List.length_set]; exact h4⟩, e3, e4⟩
/-- One more, behind it. -/
theorem Slc.append {A : Mem} {st xt e : TypeId} {i : TypeInfo} {z v : Value} {b b2 : Nat} {l : List Value} {x : Value} (h : Slc A e b l x) (hst : tb.und st = some (.slice e)) (hxt : tb.und xt = some (.slice e)) (hz : zcellsF tb e = .ok (1, [z])) (hi : tb.ty.get e = some i) (hib : 0 < i.bytes) (hib' : i.bytes ≤ 65536)
    (hl : l.length < 16777216) (hb2 : A.get b2 = some (rowOb e [v])) (h1c : oneCell v = true) :
    ∃ x' A', appendF tb A st xt x (.slice (some ⟨b2, 0, none⟩) 1 2) = .ok (x', A') ∧ Slc A' e A.next (l ++ [v]) x' ∧ A'.next = A.next + 1 ∧ ∀ y, y ≠ b → y < A.next → A'.get y = A.get y := by
  have he1 : (1 : Nat) < 65536 := by omega
  have hnew : firstF A.get 1 1 (.slice (some ⟨b2, 0, none⟩) 1 2) = .ok [v] := elemsF_vals (l := [v]) (vals_puts (e := e) (k := .var 1) hb2)
  have hlim : (Nat.ble (l.length + 1) 16777216 && Nat.ble i.bytes 65536 && Nat.blt 0 i.bytes && Nat.blt 0 1 && Nat.blt 1 65536) = true := by
    have a1 : Nat.ble (l.length + 1) 16777216 = true := Nat.ble_eq_true_of_le (by omega)
    have a2 : Nat.ble i.bytes 65536 = true := Nat.ble_eq_true_of_le hib'
    have a3 : Nat.blt 0 i.bytes = true := by rw [Nat.blt_eq]; exact hib
    rw [a1, a2, a3]; rfl
  have fin : ∀ (k' : Kd) (A0 : Mem), A0.next = A.next → (∀ y, y ≠ b → A0.get y = A.get y) → (k' = .row ∨ k' = .mark) →
      Slc (A0.alloc (.cells e k' 0 (T.puts .e 0 (l ++ [v])))) e A.next (l ++ [v]) (.slice (some ⟨A.next, 0, none⟩) (l.length + 1) (mkX (l.length + 1) 1)) ∧ (A0.alloc (.cells e k' 0 (T.puts .e 0 (l ++ [v])))).next = A.next + 1 ∧ ∀ y, y ≠ b → y < A.next → (A0.alloc (.cells e k' 0 (T.puts .e 0 (l ++ [v])))).get y = A.get y := by
    intro k' A0 hn hg hk'
    refine ⟨.inr ⟨k', _, by rw [List.length_append]; rfl, by rw [next_alloc]; omega, vals_puts ?_, .inr ⟨by rw [List.length_append]; rfl, hk'⟩⟩, by rw [next_alloc, hn], fun y hy hlt => ?_⟩
    · rw [← hn]; exact get_alloc_self _ _
    · rw [get_alloc_ne (by omega), hg y hy]
  rcases h with ⟨rfl, rfl⟩ | ⟨k, c, rfl, h2, h3, h4⟩
  · refine ⟨.slice (some ⟨A.next, 0, none⟩) 1 (mkX 1 1), A.alloc (.cells e .row 0 (T.puts .e 0 [v])), ?_, ?_⟩
    · unfold appendF appendG
      have hble : Nat.ble (0 + 1) (capN 0) = false := rfl
      have hx : capX 0 = true := rfl
      have hel : elemsF A.get 1 0 none = .ok [] := rfl
      simp only [hst, hxt, isIntD, cond_false, hz, R.ok_bind, lenF, hnew, hble, hi]
      simp only [List.length_nil, Nat.zero_add] at hlim
      simp only [Nat.zero_add, hlim, cond_true, hel, R.ok_bind, hx, List.nil_append]
    · exact fin .row A rfl (fun _ _ => rfl) (.inl rfl)
  · obtain ⟨cs, hb', hcs⟩ := h3
    have hel : elemsF A.get 1 l.length (some ⟨b, 0, none⟩) = .ok l := elemsF_vals ⟨cs, hb', hcs⟩
    rcases h4 with rfl | ⟨rfl, hk⟩
    · have hx : capX (2 * l.length) = true := by show Nat.beq (2 * l.length % 2) 0 = true; rw [Nat.mul_mod_right]; rfl
      have hcn : capN (2 * l.length) = l.length := by unfold capN; rw [hx, cond_true]; show 2 * l.length / 2 = l.length; omega
      have hble : Nat.ble (l.length + 1) (capN (2 * l.length)) = false := by
        rw [hcn]
        cases hq : Nat.ble (l.length + 1) l.length with
        | false => rfl
        | true => have := Nat.le_of_ble_eq_true hq; omega
      refine ⟨_, A.alloc (.cells e .row 0 (T.puts .e 0 (l ++ [v]))), ?_, fin .row A rfl (fun _ _ => rfl) (.inl rfl)⟩
      unfold appendF appendG
      simp only [hst, hxt, isIntD, cond_false, hz, R.ok_bind, lenF, hnew, hble, hi, hlim, cond_true, hel, hx]
    · have hble : Nat.ble (l.length + 1) (capN (mkX l.length 1)) = false := by
        rw [capN_mkX he1]
        cases hq : Nat.ble (l.length + 1) l.length with
        | false => rfl
        | true => have := Nat.le_of_ble_eq_true hq; omega
      have hx : capX (mkX l.length 1) = false := capX_mkX _ _
      have he : Nat.beq (capE (mkX l.length 1)) 1 = true := by rw [capE_mkX he1]; rfl
      have hfz : (Nat.ble 0 (0 + l.length * 1) && (Nat.beq e e && Nat.blt 0 9223372036854775808)) = true := by
        have h0 : Nat.blt 0 9223372036854775808 = true := by rw [Nat.blt_eq]; omega
        rw [h0]; simp
      refine ⟨_, (A.set b .dead).alloc (.cells e k 0 (T.puts .e 0 (l ++ [v]))), ?_, fin k (A.set b .dead) (next_set _ _ _) (fun y hy => by rw [get_setMem, if_neg hy]) hk⟩
      unfold appendF appendG
      simp only [hst, hxt, isIntD, cond_false, hz, R.ok_bind, lenF, hnew, hble, hi, hlim, cond_true, hel, hx, he, List.all_cons, List.all_nil, h1c, Bool.and_true, hb', hfz]
      rcases hk with rfl | rfl <;> rfl

/-! ### A variable in memory, of one cell -/
theorem vals_box {A : Mem} {e : TypeId} {b : Nat} {v : Value} (h : A.get b = some (rowOb e [v])) : Vals A e b (.var 1) [v] := vals_puts h
theorem load_box {A : Mem} {e t : TypeId} {d : TypeDesc} {b : Nat} {k : Kd} {v : Value} (hu : tb.und t = some d) (ha : isAggD d = false) (h : Vals A e b k [v]) : loadF tb A.get t (.pointer (some ⟨b, 0, none⟩)) = .ok v := load_vals hu ha h rfl
theorem store_box {A : Mem} {e t : TypeId} {b : Nat} {k : Kd} {v w : Value} (hs : sizeF tb t = .ok 1) (h : Vals A e b k [v]) (hv : w.cells.toList = [w]) (h1c : oneCell w = true) :
    ∃ A', storeF tb A t (.pointer (some ⟨b, 0, none⟩)) w = .ok A' ∧ Vals A' e b k [w] ∧ A'.next = A.next ∧ ∀ x, x ≠ b → A'.get x = A.get x := store_vals hs h (by simp) hv h1c

/-! ### An open order in which readers float -/
noncomputable def drawIs (tb : Tab) (ops : List Oper) (fl : List (Nat × Nat)) : Bool :=
  match drawInfo tb ops with
  | .ok l => decide (l = fl)
  | _ => false
theorem exec_float {n id : Nat} {ops : Array Oper} {s : St} (fl : List (Nat × Nat)) (h : drawIs tb ops.toList fl = true) : exec tb (n + 1) (.region id ops true) s = (runD tb (exec tb n) ops.toList fl ops.toList 0 [] [] [] s).bind fun (e, s) => match e with
    | .nrm => .ok (.nrm, s)
    | _ => .no 312 := by
  have h' : drawInfo tb ops.toList = .ok fl := by
    unfold drawIs at h
    split at h
    · rename_i l hl; rw [hl, of_decide_eq_true h]
    · cases h
  show ((drawInfo tb ops.toList).bind fun fl => (runD tb (exec tb n) ops.toList fl ops.toList 0 [] [] [] s).bind fun (e, s) => _) = _
  rw [h']
  rfl
section
variable {ops l : List Oper} {fl : List (Nat × Nat)} {dst : Option Tmp} {op : Op} {ty : TypeId} {pos : String} {after : Array Edge} {i : Nat} {mems : List (Nat × Mem)} {recs : List Rec} {mks : List (Nat × Nat)} {s : St}
theorem runD_end : runD tb ih ops fl [] i mems recs mks s = .ok (.nrm, s) := rfl
theorem runD_cons : runD tb ih ops fl ({ dst, op, type := ty, pos, after, guard := none } :: l) i mems recs mks s = match cls tb op with
        | .L => opF tb ih { dst, op, type := ty, pos, after, guard := none } { s with m := hideF ((mks.filter fun x => pairIn x.1 i fl).map (·.2)) s.m } fun s' =>
          (backF s.m.get ((mks.filter fun x => pairIn x.1 i fl).map (·.2)) s'.m).bind fun A =>
          bif (recs.filter fun x => pairIn x.i i fl).all (reread tb A.get) then runD tb ih ops fl l (i + 1) ((i, s.m) :: mems) recs mks { s' with m := A } else .no 310
        | .Rd => (rOp tb s.t s.m.get op).bind fun v =>
          bif (mems.filter fun m => pairIn i m.1 fl).all (fun m => reread tb m.2.get ⟨i, s.t, op, v⟩) then putT s dst v (runD tb ih ops fl l (i + 1) mems (⟨i, s.t, op, v⟩ :: recs) mks) else .no 311
        | .Al => opF tb ih { dst, op, type := ty, pos, after, guard := none } s fun s' => runD tb ih ops fl l (i + 1) (addB s.m.next (s'.m.get s.m.next) mems) recs ((i, s.m.next) :: mks) s'
        | .P => opF tb ih { dst, op, type := ty, pos, after, guard := none } s (runD tb ih ops fl l (i + 1) mems recs mks) := rfl
theorem runD_P (h : cls tb op = .P) : runD tb ih ops fl ({ dst, op, type := ty, pos, after, guard := none } :: l) i mems recs mks s = opF tb ih { dst, op, type := ty, pos, after, guard := none } s (runD tb ih ops fl l (i + 1) mems recs mks) := by
  rw [runD_cons, h]
theorem runD_Al (h : cls tb op = .Al) : runD tb ih ops fl ({ dst, op, type := ty, pos, after, guard := none } :: l) i mems recs mks s = opF tb ih { dst, op, type := ty, pos, after, guard := none } s fun s' => runD tb ih ops fl l (i + 1) (addB s.m.next (s'.m.get s.m.next) mems) recs ((i, s.m.next) :: mks) s' := by
  rw [runD_cons, h]
/-- Those of some rows that float with a place. -/
def selF {α : Type} (p : Nat → Bool) : List (Nat × α) → List (Nat × α)
  | [] => []
  | x :: l => bif p x.1 then x :: selF p l else selF p l
theorem selF_nil {α : Type} (p : Nat → Bool) : selF p ([] : List (Nat × α)) = [] := rfl
theorem selF_yes {α : Type} {p : Nat → Bool} {j : Nat} {a : α} {l : List (Nat × α)} (h : p j = true) : selF p ((j, a) :: l) = (j, a) :: selF p l := by simp [selF, h]
theorem selF_no {α : Type} {p : Nat → Bool} {j : Nat} {a : α} {l : List (Nat × α)} (h : p j = false) : selF p ((j, a) :: l) = selF p l := by simp [selF, h]
theorem selF_eq {α : Type} (p : Nat → Bool) (l : List (Nat × α)) : (l.filter fun x => p x.1) = selF p l := by
  induction l with
  | nil => rfl
  | cons x l ih =>
    unfold selF
    cases h : p x.1 <;> simp [h, ih]
def selR (p : Nat → Bool) : List Rec → List Rec
  | [] => []
  | x :: l => bif p x.i then x :: selR p l else selR p l
theorem selR_nil (p : Nat → Bool) : selR p [] = [] := rfl
theorem selR_yes {p : Nat → Bool} {j : Nat} {t : T Value} {o : Op} {v : Value} {l : List Rec} (h : p j = true) : selR p (⟨j, t, o, v⟩ :: l) = ⟨j, t, o, v⟩ :: selR p l := by simp [selR, h]
theorem selR_no {p : Nat → Bool} {j : Nat} {t : T Value} {o : Op} {v : Value} {l : List Rec} (h : p j = false) : selR p (⟨j, t, o, v⟩ :: l) = selR p l := by simp [selR, h]
theorem selR_eq (p : Nat → Bool) (l : List Rec) : (l.filter fun x => p x.i) = selR p l := by
  induction l with
  | nil => rfl
  | cons x l ih =>
    unfold selR
    cases h : p x.i <;> simp [h, ih]
noncomputable def rereadM (tb : Tab) (x : Rec) : List (Nat × Mem) → Bool
  | [] => true
  | m :: l => reread tb m.2.get x && rereadM tb x l
theorem rereadM_nil (x : Rec) : rereadM tb x [] = true := rfl
theorem rereadM_cons (x : Rec) (j : Nat) (A : Mem) (l : List (Nat × Mem)) : rereadM tb x ((j, A) :: l) = (reread tb A.get x && rereadM tb x l) := rfl
theorem rereadM_eq (x : Rec) (l : List (Nat × Mem)) : (l.all fun m => reread tb m.2.get x) = rereadM tb x l := by
  induction l with
  | nil => rfl
  | cons m l ih => simp [rereadM, ih]
noncomputable def rereadR (tb : Tab) (g : Nat → Option Ob) : List Rec → Bool
  | [] => true
  | m :: l => reread tb g m && rereadR tb g l
theorem rereadR_nil (g : Nat → Option Ob) : rereadR tb g [] = true := rfl
theorem rereadR_cons (g : Nat → Option Ob) (x : Rec) (l : List Rec) : rereadR tb g (x :: l) = (reread tb g x && rereadR tb g l) := rfl
theorem rereadR_eq (g : Nat → Option Ob) (l : List Rec) : (l.all (reread tb g)) = rereadR tb g l := by
  induction l with
  | nil => rfl
  | cons m l ih => simp [rereadR, ih]
noncomputable def rereadV (x : R Value) (v : Value) : Bool :=
  match x with
  | .ok v' => sameV 100 v' v
  | .no _ => false
theorem reread_load (g : Nat → Option Ob) (j : Nat) (t : T Value) (e : TypeId) (x : Tmp) (v : Value) : reread tb g ⟨j, t, .load e (.tmp x), v⟩ = rereadV ((ev t (.tmp x)).bind fun x => loadF tb g e x) v := rfl
theorem sameV_slc (b o n c : Nat) : sameV 100 (.slice (some ⟨b, o, none⟩) n c) (.slice (some ⟨b, o, none⟩) n c) = true := by simp [sameV, sameA, sameN]
theorem sameV_int (k : IntKind) (n : Nat) (h : kindEq k k = true) : sameV 100 (.int k (n : Int)) (.int k (n : Int)) = true := by
  have : ieqF (n : Int) (n : Int) = true := by rw [ieqF_iff]; simp
  simp [sameV, h, this]
theorem rereadV_ok (v : Value) (h : sameV 100 v v = true) : rereadV (.ok v) v = true := h
theorem rereadV_eq (v w : Value) : rereadV (.ok v) w = sameV 100 v w := rfl
theorem Slc.self {A : Mem} {e : TypeId} {b : Nat} {l : List Value} {x : Value} (h : Slc A e b l x) : sameV 100 x x = true := by
  rcases h with ⟨rfl, -⟩ | ⟨k, c, rfl, -⟩
  · rfl
  · exact sameV_slc _ _ _ _
theorem runD_Rd (h : cls tb op = .Rd) : runD tb ih ops fl ({ dst, op, type := ty, pos, after, guard := none } :: l) i mems recs mks s = (rOp tb s.t s.m.get op).bind fun v =>
    bif rereadM tb ⟨i, s.t, op, v⟩ (selF (fun j => pairIn i j fl) mems) then putT s dst v (runD tb ih ops fl l (i + 1) mems (⟨i, s.t, op, v⟩ :: recs) mks) else .no 311 := by
  rw [runD_cons, h]
  simp only [selF_eq (fun j => pairIn i j fl) mems, rereadM_eq]
theorem runD_L (h : cls tb op = .L) : runD tb ih ops fl ({ dst, op, type := ty, pos, after, guard := none } :: l) i mems recs mks s =
    opF tb ih { dst, op, type := ty, pos, after, guard := none } { s with m := hideF ((selF (fun j => pairIn j i fl) mks).map (·.2)) s.m } fun s' =>
      (backF s.m.get ((selF (fun j => pairIn j i fl) mks).map (·.2)) s'.m).bind fun A =>
      bif rereadR tb A.get (selR (fun j => pairIn j i fl) recs) then runD tb ih ops fl l (i + 1) ((i, s.m) :: mems) recs mks { s' with m := A } else .no 310 := by
  rw [runD_cons, h]
  simp only [selF_eq (fun j => pairIn j i fl) mks, selR_eq (fun j => pairIn j i fl) recs, rereadR_eq]
theorem runD_gno {j : Nat} {want : Bool} (h : wantF ops { dst, op, type := ty, pos, after, guard := some (j, want) } s.t = .ok false) : runD tb ih ops fl ({ dst, op, type := ty, pos, after, guard := some (j, want) } :: l) i mems recs mks s = putT s dst unitV (runD tb ih ops fl l (i + 1) mems recs mks) := by
  show ((wantF ops { dst, op, type := ty, pos, after, guard := some (j, want) } s.t).bind fun w => bif w then _ else putT s dst unitV (runD tb ih ops fl l (i + 1) mems recs mks)) = _
  rw [h]; rfl
theorem runD_yes {j : Nat} {want : Bool} (h : wantF ops { dst, op, type := ty, pos, after, guard := some (j, want) } s.t = .ok true) : runD tb ih ops fl ({ dst, op, type := ty, pos, after, guard := some (j, want) } :: l) i mems recs mks s = match cls tb op with
        | .L => opF tb ih { dst, op, type := ty, pos, after, guard := some (j, want) } { s with m := hideF ((mks.filter fun x => pairIn x.1 i fl).map (·.2)) s.m } fun s' =>
          (backF s.m.get ((mks.filter fun x => pairIn x.1 i fl).map (·.2)) s'.m).bind fun A =>
          bif (recs.filter fun x => pairIn x.i i fl).all (reread tb A.get) then runD tb ih ops fl l (i + 1) ((i, s.m) :: mems) recs mks { s' with m := A } else .no 310
        | .Rd => (rOp tb s.t s.m.get op).bind fun v =>
          bif (mems.filter fun m => pairIn i m.1 fl).all (fun m => reread tb m.2.get ⟨i, s.t, op, v⟩) then putT s dst v (runD tb ih ops fl l (i + 1) mems (⟨i, s.t, op, v⟩ :: recs) mks) else .no 311
        | .Al => opF tb ih { dst, op, type := ty, pos, after, guard := some (j, want) } s fun s' => runD tb ih ops fl l (i + 1) (addB s.m.next (s'.m.get s.m.next) mems) recs ((i, s.m.next) :: mks) s'
        | .P => opF tb ih { dst, op, type := ty, pos, after, guard := some (j, want) } s (runD tb ih ops fl l (i + 1) mems recs mks) := by
  show ((wantF ops { dst, op, type := ty, pos, after, guard := some (j, want) } s.t).bind fun w => bif w then _ else _) = _
  rw [h]; rfl
section
variable {j : Nat} {want : Bool} (hw : wantF ops { dst, op, type := ty, pos, after, guard := some (j, want) } s.t = .ok true)
include hw
theorem runD_gP (h : cls tb op = .P) : runD tb ih ops fl ({ dst, op, type := ty, pos, after, guard := some (j, want) } :: l) i mems recs mks s = opF tb ih { dst, op, type := ty, pos, after, guard := some (j, want) } s (runD tb ih ops fl l (i + 1) mems recs mks) := by
  rw [runD_yes hw, h]
theorem runD_gAl (h : cls tb op = .Al) : runD tb ih ops fl ({ dst, op, type := ty, pos, after, guard := some (j, want) } :: l) i mems recs mks s = opF tb ih { dst, op, type := ty, pos, after, guard := some (j, want) } s fun s' => runD tb ih ops fl l (i + 1) (addB s.m.next (s'.m.get s.m.next) mems) recs ((i, s.m.next) :: mks) s' := by
  rw [runD_yes hw, h]
theorem runD_gRd (h : cls tb op = .Rd) : runD tb ih ops fl ({ dst, op, type := ty, pos, after, guard := some (j, want) } :: l) i mems recs mks s = (rOp tb s.t s.m.get op).bind fun v =>
    bif rereadM tb ⟨i, s.t, op, v⟩ (selF (fun j => pairIn i j fl) mems) then putT s dst v (runD tb ih ops fl l (i + 1) mems (⟨i, s.t, op, v⟩ :: recs) mks) else .no 311 := by
  rw [runD_yes hw, h]
  simp only [selF_eq (fun j => pairIn i j fl) mems, rereadM_eq]
theorem runD_gL (h : cls tb op = .L) : runD tb ih ops fl ({ dst, op, type := ty, pos, after, guard := some (j, want) } :: l) i mems recs mks s =
    opF tb ih { dst, op, type := ty, pos, after, guard := some (j, want) } { s with m := hideF ((selF (fun j => pairIn j i fl) mks).map (·.2)) s.m } fun s' =>
      (backF s.m.get ((selF (fun j => pairIn j i fl) mks).map (·.2)) s'.m).bind fun A =>
      bif rereadR tb A.get (selR (fun j => pairIn j i fl) recs) then runD tb ih ops fl l (i + 1) ((i, s.m) :: mems) recs mks { s' with m := A } else .no 310 := by
  rw [runD_yes hw, h]
  simp only [selF_eq (fun j => pairIn j i fl) mks, selR_eq (fun j => pairIn j i fl) recs, rereadR_eq]
end
theorem sameV_str (l : List UInt8) : sameV 100 (strOf l) (strOf l) = true := by
  show bytesEq l l = true
  rw [bytesEq_eq]; simp
theorem addB_nil (b : Nat) (o : Option Ob) : addB b o [] = [] := by cases o <;> rfl
theorem addB_cons (b : Nat) (o : Ob) (j : Nat) (A : Mem) (l : List (Nat × Mem)) : addB b (some o) ((j, A) :: l) = (j, A.set b o) :: addB b (some o) l := rfl
theorem backF_nil (g : Nat → Option Ob) (A : Mem) : backF g [] A = .ok A := rfl
theorem rOp_load (t : T Value) (g : Nat → Option Ob) (e : TypeId) (x : Tmp) : rOp tb t g (.load e (.tmp x)) = (ev t (.tmp x)).bind fun x => loadF tb g e x := rfl
end

end Go.Am

/-
  The abstract machine AM, part 51: loops over functions.
-/
namespace Go.Am
variable {tb : Tab}

theorem exec_rangeFunc (n : Nat) (f : Operand) (ps : Array Tmp) (a b : Code) (s : St) : exec tb (n + 1) (.rangeFunc f ps a b) s = rangeFuncF tb (exec tb n) f ps.toList a b 0 s := rfl
/-- The block of a loop over a function, as it begins. -/
def loop0 (t : T Value) (n : Nat) (ps : List Tmp) (a b : Code) (d : Nat) : ALoop := { state := .ready, pending := none, fn := 0, tmps := t, n := n, params := ps, assign := a, body := b, defers := d }
/-- A loop over a function whose rounds all go on. -/
theorem W.rangeF {f : Operand} {ps : Array Tmp} {a b : Code} {t : T Value} {n : Nat} {A A' : Mem} {K : Ex → St → Prop} {fid : FuncId} {first capt : List Value} {v : Value} {r : ALoop}
    (hf : ev t f = .ok (.func (.func fid) ⟨first⟩ ⟨capt⟩))
    (hc : Ans tb fid (first ++ [.func (.yield (A.next + 1)) ⟨[]⟩ ⟨[]⟩] ++ capt) ((A.alloc .defd).alloc (.loop (loop0 t n ps.toList a b A.next))) v A')
    (hr : A'.get (A.next + 1) = some (.loop r)) (hst : r.state ≠ .busy) (hp : r.pending = none)
    (k : K .nrm ⟨t, n, [A.next], A'.set (A.next + 1) (.loop { r with state := .exhausted }), none⟩) : W tb (.rangeFunc f ps a b) ⟨t, n, [], A, none⟩ K := by
  obtain ⟨g, hg⟩ := hc
  refine ⟨_, _, ⟨g + 1, fun m => ?_⟩, k⟩
  rw [show m + (g + 1) = (m + g) + 1 by omega, exec_rangeFunc]
  have h1 := hg (m + g) (by omega)
  unfold rangeFuncF
  simp only [hf, R.ok_bind]
  have hn : (A.alloc .defd).next = A.next + 1 := next_alloc _ _
  rw [hn]
  have hcal : ∀ g' : Nat → Option Ob, calleeF tb g' (.func (.func fid) ⟨first⟩ ⟨capt⟩) [.func (.yield (A.next + 1)) ⟨[]⟩ ⟨[]⟩] = .ok (.fn fid (first ++ [.func (.yield (A.next + 1)) ⟨[]⟩ ⟨[]⟩] ++ capt)) := fun _ => rfl
  rw [hcal, R.ok_bind]
  unfold loop0 at h1
  rw [h1, R.ok_bind]
  simp only [hr, hp]
  cases hs : r.state with
  | busy => exact absurd hs hst
  | _ => rfl
/-- A round of a loop over a function, that goes on. -/
theorem round_of_W {l : Nat} {args : List Value} {A : Mem} {r : ALoop} {t : T Value} {Q : Mem → Prop} (hl : A.get l = some (.loop r)) (ht : setArgs r.n r.params args r.tmps = .ok t)
    (h : W tb r.assign ⟨t, r.n, [], A, some l⟩ fun e s1 => e = .nrm ∧ ∃ r1, s1.m.get l = some (.loop r1) ∧ r1.state = .ready ∧ W tb r.body ⟨s1.t, s1.n, s1.d, s1.m.set l (.loop { r1 with state := .busy }), s1.ro⟩ fun e s2 => e = .nrm ∧ s2.d = [] ∧ ∃ r2, s2.m.get l = some (.loop r2) ∧ Q (s2.m.set l (.loop { r2 with state := .ready, pending := none }))) :
    ∃ A', (∃ g, ∀ M, g ≤ M → callF tb (exec tb M) (.round l args) A = .ok (.val (.bool true) A')) ∧ Q A' := by
  obtain ⟨e, s1, ⟨f1, h1⟩, rfl, r1, hr1, hst1, e2, s2, ⟨f2, h2⟩, rfl, hd, r2, hr2, hQ⟩ := h
  refine ⟨_, ⟨f1 + f2, fun M hM => ?_⟩, hQ⟩
  show roundF (exec tb M) l args A = _
  unfold roundF
  have e1 := h1 (M - f1)
  rw [Nat.sub_add_cancel (by omega)] at e1
  have e2 := h2 (M - f2)
  rw [Nat.sub_add_cancel (by omega)] at e2
  simp only [hl, ht, R.ok_bind, e1, hr1, hst1, e2, hd, hr2]

end Go.Am

/-
  The abstract machine AM, part 52: a slice of integers among the arguments of a law, that is read only.
-/
namespace Go.Am
variable {tb : Tab} (ok : TabOk tb)

/-- A slice that came in: nil; or it leads to a row that may not be written. -/
def ParS (A : Mem) (l : List Value) (x : Value) : Prop :=
  (x = .slice none 0 0 ∧ l = []) ∨ (x = .slice (some ⟨0, 0, none⟩) l.length (mkX l.length 1) ∧ 0 < A.next ∧ (l = [] ∨ ∃ t fz, A.get 0 = some (.cells t .row fz (T.puts .e 0 l))))
theorem ParS.same {A A' : Mem} {l : List Value} {x : Value} (h : ParS A l x) (hn : A.next ≤ A'.next) (hg : 0 < A.next → A'.get 0 = A.get 0) : ParS A' l x := by
  rcases h with h | ⟨h1, h2, h3⟩
  · exact .inl h
  · refine .inr ⟨h1, by omega, ?_⟩
    rcases h3 with h3 | ⟨t, fz, h3⟩
    · exact .inl h3
    · exact .inr ⟨t, fz, (hg h2).trans h3⟩
theorem ParS.len {A : Mem} {l : List Value} {x : Value} (h : ParS A l x) {t e : TypeId} (hu : tb.und t = some (.slice e)) : builtinPF tb .len [t] [x] = .ok (.int .i64 ((l.length : Nat) : Int)) := by
  rcases h with ⟨rfl, rfl⟩ | ⟨rfl, -⟩ <;> exact len_slc hu
theorem ParS.idx {A : Mem} {l : List Value} {x : Value} (h : ParS A l x) {t e : TypeId} {i : Nat} {kd : IntKind} (hu : tb.und t = some (.slice e)) (hs : sizeF tb e = .ok 1) (hi : i < l.length) :
    indexAddrF tb t x (.int kd (i : Int)) = .ok (.pointer (some ⟨0, i, none⟩)) := by
  rcases h with ⟨rfl, rfl⟩ | ⟨rfl, -⟩
  · simp at hi
  · rw [indexAddr_slc hu hs hi, Nat.zero_add]
theorem ParS.load {A : Mem} {l : List Value} {x v : Value} (h : ParS A l x) {t : TypeId} {d : TypeDesc} {o : Nat} (hu : tb.und t = some d) (ha : isAggD d = false) (hv : l[o]? = some v) : loadF tb A.get t (.pointer (some ⟨0, o, none⟩)) = .ok v := by
  have ho : o < l.length := (List.getElem?_eq_some_iff.1 hv).1
  rcases h with ⟨rfl, rfl⟩ | ⟨rfl, -, rfl | ⟨t2, fz, h3⟩⟩
  · simp at ho
  · simp at ho
  · have hc : (T.puts .e 0 l).get o = some v := by rw [T.get_puts, if_pos (by omega), Nat.sub_zero]; exact hv
    unfold loadF
    simp only [h3, hu, ha, cond_false, hc]

/-- A slice of integers in the model. -/
def ParW (k : IntKind) (w : World) (a : Option Addr) (len cap : Nat) (zs : List Int) : Prop :=
  (a = none ∧ len = 0 ∧ cap = 0 ∧ zs = []) ∨
  ∃ x, a = some x ∧ x.spot = none ∧ x.block < w.heap.size ∧ len ≤ cap ∧ cap < 2 ^ 63 ∧ zs.length = cap ∧ ∀ i, i < zs.length → w.cell? (x.add i) = some (.int k (zs.getD i 0))

theorem VRs.app {ι : Inj} : ∀ {l l' m m' : List Value}, VRs ι l l' → VRs ι m m' → VRs ι (l ++ m) (l' ++ m')
  | _, _, _, _, .nil, h => h
  | _, _, _, _, .cons h t, k => .cons h (VRs.app t k)

include ok in
/-- A call on memory: all blocks of the world stay but those of live blocks that are no still ones. -/
theorem call_still {n : Nat} {f : FuncId} {args : List Value} {v : Value} {A A' : Mem} (h : call tb n f args A = .ok (.val v A')) {fn : Func} {c : Code} (hf : tb.fn.get f = some fn) (hb : fn.body = some c) (args' : Array Value) (w : World) {ι : Inj} (hr : Rel ι A w)
    (ha : VRs ι args args'.toList) (hfree : ∀ b, A.next ≤ b → ι b = none) (hst : ∀ b l, live A b → ι b = some l → Still A b l) : Calls tb.P f args' w fun e w' => ∃ ι' v', e = .returned v' ∧ VR ι' v v' ∧ Leaves w w' := by
  intro cs
  unfold call at h
  simp only [hf, hb] at h
  rcases fn_sound ok (exec_sound ok n) hf hb h with ⟨_, _, h1, _⟩ | ⟨v, A', h1, hle, hs⟩
  · cases h1
  · cases h1
    obtain ⟨ι', w', v', ⟨fr0, st, hfn, hlv⟩, hv, hrel, hstp⟩ := hs ι w args' cs hr ha (fun b h1 _ => hfree b h1)
    refine ⟨.returned v', w', fr0, ⟨ι', v', rfl, hv, fun c hc => ?_, hstp.size, hstp.os, hstp.tape, hstp.output⟩, st, hfn, hlv⟩
    by_cases hx : ∃ b l, live A b ∧ ι b = some l ∧ l.blk = c
    · obtain ⟨b, l, h1, h2, rfl⟩ := hx
      exact (hstp.kept b l h2 (hst b l h1 h2)).2
    · exact hstp.fr c hc fun b l h1 h2 h3 => hx ⟨b, l, h1, h2, h3⟩

include ok in
/-- A law that answers true on the abstract machine, whatever row it was given. -/
theorem par_true {k : IntKind} {w : World} {a : Option Addr} {len cap : Nat} {zs : List Int} (h : ParW k w a len cap zs) {f : FuncId} {fn : Func} {c : Code} (hf : tb.fn.get f = some fn) (hb : fn.body = some c) {pre post pre' post' : List Value}
    (hpre : ∀ ι, VRs ι pre pre') (hpost : ∀ ι, VRs ι post post') (hlaw : ∀ A x, A.next = 1 → (∀ b, A.next ≤ b → A.get b = none) → ParS A ((zs.take len).map (.int k)) x → ∃ A', CallsTo tb f (pre ++ [x] ++ post) A (.bool true) A') :
    Calls tb.P f (pre' ++ [Value.slice a len cap] ++ post').toArray w fun e w' => e = .returned (.bool true) ∧ Leaves w w' := by
  have fin : ∀ {A : Mem} {x : Value} {ι : Inj}, A.next = 1 → ParS A ((zs.take len).map (.int k)) x → Rel ι A w → VR ι x (.slice a len cap) → (∀ b, A.next ≤ b → ι b = none) → (∀ b l, live A b → ι b = some l → Still A b l) →
      Calls tb.P f (pre' ++ [Value.slice a len cap] ++ post').toArray w fun e w' => e = .returned (.bool true) ∧ Leaves w w' := by
    intro A x ι hn hp hr hx hfree hst cs
    obtain ⟨A', n, hc⟩ := hlaw A x hn hr.wf hp
    obtain ⟨e, w', fr, ⟨ι', v', he, hv, hl⟩, st⟩ := call_still ok hc hf hb (pre' ++ [Value.slice a len cap] ++ post').toArray w hr (by
      show VRs ι (pre ++ [x] ++ post) (pre' ++ [Value.slice a len cap] ++ post')
      exact ((hpre ι).app (.cons hx .nil)).app (hpost ι)) hfree hst cs
    cases hv
    exact ⟨e, w', fr, ⟨he, hl⟩, st⟩
  rcases h with ⟨rfl, rfl, rfl, rfl⟩ | ⟨x, rfl, hsp, hblk, hlc, hcap, hz, hcell⟩
  · exact fin (A := ⟨.e, 1⟩) (x := .slice none 0 0) (ι := fun _ => none) rfl (.inl ⟨rfl, rfl⟩) ⟨fun _ _ => rfl, (fun _ _ _ h => by cases h), (fun _ _ h => by cases h), (fun _ _ _ _ h => by obtain ⟨_, h, _⟩ := h; cases h), (fun _ _ _ _ h => by cases h)⟩ .slN (fun _ _ => rfl) (fun b l hl => by obtain ⟨_, h, _⟩ := hl; cases h)
  · obtain ⟨xb, xo, xs⟩ := x
    simp only at hsp hblk
    subst hsp
    by_cases h0 : len = 0
    · subst h0
      refine fin (A := ⟨.e, 1⟩) (x := .slice (some ⟨0, 0, none⟩) 0 (mkX 0 1)) (ι := fun b => if b = 0 then some ⟨xb, xo, xo + cap⟩ else none) rfl (.inr ⟨rfl, Nat.zero_lt_one, .inl rfl⟩) ⟨fun _ _ => rfl, (fun _ _ _ h => by cases h), (fun b l hl => ?_), (fun _ _ _ _ h => by obtain ⟨_, h, _⟩ := h; cases h), (fun _ _ _ _ h => by cases h)⟩ ?_ (fun b hb => ?_) (fun b l hl => by obtain ⟨_, h, _⟩ := hl; cases h)
      · by_cases e : b = 0
        · simp only [e, if_true] at hl; cases hl; exact hblk
        · simp only [e, if_false] at hl; cases hl
      · have h1 : capN (mkX 0 1) = 0 := capN_mkX (by omega)
        have h2 : capE (mkX 0 1) = 1 := capE_mkX (by omega)
        exact VR.slX (l := ⟨xb, xo, xo + cap⟩) (o' := xo) rfl (capX_mkX _ _) (by rw [h1]; omega) (by rw [h2]; simp) (fun _ => by simp) hcap (by rw [h1]; exact Nat.le_refl _)
      · show (if b = 0 then _ else none) = none
        rw [if_neg (by simp only at hb; omega)]
    · have hc0 := hcell 0 (by omega)
      rw [Addr_add_mk] at hc0
      unfold World.cell? at hc0
      split at hc0
      · rename_i cs t fr hw
        have hw' : w.heap[xb]? = some (.cells cs t fr) := hw
        have hcs : ∀ i, i < cap → cs[xo + i]? = some (.int k (zs.getD i 0)) := by
          intro i hi
          have h := hcell i (by omega)
          rw [Addr_add_mk] at h
          unfold World.cell? at h
          simp only [hw', Option.isSome_none, Bool.false_eq_true, if_false] at h
          exact h
        have hsz : xo + cap ≤ cs.size := by
          have h := hcs (cap - 1) (by omega)
          have := (Array.getElem?_eq_some_iff.1 h).1
          omega
        have hll : ((zs.take len).map (Value.int k)).length = len := by rw [List.length_map, List.length_take]; omega
        have hget : ∀ i v, (T.puts .e 0 ((zs.take len).map (Value.int k))).get i = some v → i < len ∧ v = .int k (zs.getD i 0) := by
          intro i v hv
          rw [T.get_puts, hll] at hv
          by_cases hi : 0 ≤ i ∧ i < 0 + len
          · rw [if_pos hi, Nat.sub_zero, List.getElem?_map, List.getElem?_take_of_lt (by omega)] at hv
            rw [List.getElem?_eq_getElem (show i < zs.length by omega)] at hv
            simp only [Option.map_some, Option.some.injEq] at hv
            refine ⟨by omega, ?_⟩
            rw [← hv]
            simp [List.getD, List.getElem?_eq_getElem (show i < zs.length by omega)]
          · rw [if_neg hi, T.get_e] at hv; cases hv
        let fz := 2 * (9223372036854775808 + cs.size + fr.2 + 1)
        refine fin (A := mem0.alloc (.cells t .row fz (T.puts .e 0 ((zs.take len).map (.int k))))) (x := .slice (some ⟨0, 0, none⟩) len (mkX len 1)) (ι := fun b => if b = 0 then some ⟨xb, xo, cs.size⟩ else none) rfl
          (.inr ⟨by rw [hll], Nat.zero_lt_one, .inr ⟨t, fz, get_alloc_self _ _⟩⟩) ⟨fun b hb => ?_, fun b o l hg hal hl => ?_, fun b l hl => ?_, fun b b' l l' hb hb' hl hl' _ => ?_, fun b t' k' c' hg => ?_⟩ ?_ (fun b hb => ?_) (fun b l hb hl => ?_)
        · have hb1 : 1 ≤ b := hb
          rw [get_alloc, if_neg (by show ¬ b = 0; omega)]; rfl
        · by_cases e : b = 0
          · subst e
            rw [if_pos rfl] at hl; cases hl
            have hg' : (mem0.alloc (.cells t .row fz (T.puts .e 0 ((zs.take len).map (Value.int k))))).get mem0.next = some o := hg
            rw [get_alloc_self] at hg'; cases hg'
            refine ⟨_, hw', cs, fr, rfl, rfl, fun i v hv => ?_, ?_⟩
            · obtain ⟨h1, rfl⟩ := hget i v hv
              exact ⟨_, by rw [Nat.add_comm]; exact hcs i (by omega), .int _ _⟩
            · show fr.2 ≤ xo + fz
              omega
          · rw [if_neg e] at hl; cases hl
        · by_cases e : b = 0
          · simp only [e, if_true] at hl; cases hl; exact hblk
          · simp only [e, if_false] at hl; cases hl
        · by_cases e : b = 0
          · by_cases e' : b' = 0
            · rw [e, e']
            · simp only [e', if_false] at hl'; cases hl'
          · simp only [e, if_false] at hl; cases hl
        · rw [get_alloc] at hg
          split at hg
          · simp only [Option.some.injEq, Ob.cells.injEq, GB, fz] at hg; omega
          · cases hg
        · have h1 : capN (mkX len 1) = len := capN_mkX (by omega)
          have h2 : capE (mkX len 1) = 1 := capE_mkX (by omega)
          exact VR.slX (l := ⟨xb, xo, cs.size⟩) (o' := xo) rfl (capX_mkX _ _) (by rw [h1]; exact hlc) (by rw [h2, Nat.mul_one]; exact hsz) (fun _ => by simp) hcap (by rw [h1]; exact Nat.le_refl _)
        · show (if b = 0 then _ else none) = none
          have hb1 : 1 ≤ b := hb
          rw [if_neg (by omega)]
        · by_cases e : b = 0
          · subst e
            simp only [if_true] at hl; cases hl
            exact ⟨Nat.zero_lt_one, t, fz, _, get_alloc_self _ _, by show 9223372036854775808 ≤ fz; omega, by show cs.size < fz; omega⟩
          · simp only [e, if_false] at hl; cases hl
      · cases hc0

end Go.Am
