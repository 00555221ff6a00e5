/-
  The abstract machine AM: a machine for programs of the model that draws nothing and moves no block; and the proof that what it answers the model answers.
  Part E: no conditions.
-/
import Derived.Test.YtginlomlgalcmabAmD
import Derived.Eval
import Derived.Below
import Derived.ChangeSame
import Derived.ProofKit
import Derived.OpenShut

/-
  The abstract machine AM, part 41: calls are sound; runs are sound; a call of the model.
-/
namespace Go.Am
variable {tb : Tab} (ok : TabOk tb) {ih : Code → St → R (Ex × St)} {ι : Inj}

include ok in
theorem callSnd (hih : CSnd tb.P ih) : CallSnd tb ih := by
  intro cl A r h
  unfold callF at h
  split at h
  · rename_i l args
    exact round_sound hih h
  · rename_i f args
    split at h
    · cases h
    · rename_i fn hf
      cases hng : (fn.name == "runtime.NumGoroutine") with
      | true => rw [hng] at h; cases h
      | false =>
        rw [hng, cond_false] at h
        have hf' := ok.fn _ _ hf
        split at h
        · rename_i hb
          split at h
          · rename_i k hk
            obtain ⟨⟨v, A'⟩, h1, h2⟩ := R.bind_ok h
            simp only [R.ok.injEq] at h2
            obtain ⟨hle, hs⟩ := externF_sound ok hf (ok.ex f k fn hk hf) h1
            refine .inr ⟨v, A', h2.symm, hle, fun ι w s fr cs hr hcl hfree => ?_⟩
            obtain ⟨args', hrun, hargs⟩ := hcl
            obtain ⟨ι', w', v', e, hv, hrel, hst⟩ := hs ι w args' hr hargs hfree
            exact ⟨ι', w', v', .inl (hrun.trans e), hv, hrel, hst⟩
          · cases h
        · rename_i c hb
          cases hn : Nat.ble args.length fn.ntmps with
          | false => rw [hn] at h; cases h
          | true =>
            rw [hn, cond_true] at h
            rcases fn_sound ok hih hf hb (Nat.le_of_ble_eq_true hn) h with h1 | ⟨v, A', h1, hle, hs⟩
            · exact .inl h1
            · refine .inr ⟨v, A', h1, hle, fun ι w s fr cs hr hcl hfree => ?_⟩
              obtain ⟨args', hrun, hargs⟩ := hcl
              obtain ⟨ι', w', v', ⟨fr0, st, hfn, hlv⟩, hv, hrel, hst⟩ := hs ι w args' (fr :: cs) hr hargs hfree
              refine ⟨ι', w', v', .inr (.inl ⟨f, args', ?_, st.trans (.one (step_leave_returned hlv))⟩), hv, hrel, hst⟩
              rw [hrun]
              unfold callFunc
              simp only [Sem.run_bind, run_program, Result.andThen_ok, hf', hng, hb, Option.isNone_some, Bool.false_eq_true, if_false, Sem.run_pure]

include ok in
theorem exec_sound : ∀ n, CSnd tb.P (exec tb n)
  | 0 => by
    intro c s e s1 h
    cases h
  | n + 1 => by
    have hih := exec_sound n
    have hcall := callSnd ok hih
    exact stepC_sound ok hih hcall (drawSnd ok hcall) fun f ps a b s e s1 h => loopF_sound ok hcall f ps a b s e s1 h

/-- No memory yet. -/
def mem0 : Mem := ⟨.e, 0⟩

theorem rel0 (w : World) : Rel (fun _ => none) mem0 w :=
  ⟨fun _ _ => rfl, (fun _ _ _ h => by cases h), (fun _ _ h => by cases h), (fun _ _ _ _ h => by obtain ⟨_, h, _⟩ := h; cases h)⟩

theorem not_live0 (b : Nat) : ¬ live mem0 b := fun ⟨_, h, _⟩ => by cases h

/-- A call of a function on arguments that are no memory: it returns what the abstract machine says, and leaves the world as it is but for new blocks. -/
def Leaves (w w' : World) : Prop := (∀ c, c < w.heap.size → w'.heap[c]? = w.heap[c]?) ∧ w.heap.size ≤ w'.heap.size ∧ w'.os = w.os ∧ w'.tape = w.tape ∧ w'.output = w.output

include ok in
theorem call_calls {n : Nat} {f : FuncId} {args : List Value} {v : Value} {A' : Mem} (h : call tb n f args mem0 = .ok (.val v A')) {fn : Func} {c : Code} (hf : tb.fn.get f = some fn) (hb : fn.body = some c) (args' : Array Value) (w : World)
    (ha : VRs (fun _ => none) args args'.toList) : Calls tb.P f args' w fun e w' => ∃ ι v', e = .returned v' ∧ VR ι v v' ∧ Rel ι A' w' ∧ Leaves w w' := by
  intro cs
  unfold call callF at h
  simp only [hf] at h
  cases hng : (fn.name == "runtime.NumGoroutine") with
  | true => rw [hng] at h; cases h
  | false =>
    rw [hng, cond_false] at h
    simp only [hb] at h
    cases hn : Nat.ble args.length fn.ntmps with
    | false => rw [hn] at h; cases h
    | true =>
      rw [hn, cond_true] at h
      rcases fn_sound ok (exec_sound ok n) hf hb (Nat.le_of_ble_eq_true hn) h with ⟨_, _, h1⟩ | ⟨v, A', h1, hle, hs⟩
      · cases h1
      · cases h1
        obtain ⟨ι', w', v', ⟨fr0, st, hfn, hlv⟩, hv, hrel, hst⟩ := hs (fun _ => none) w args' cs (rel0 w) ha (fun _ _ _ => rfl)
        exact ⟨.returned v', w', fr0, ⟨ι', v', rfl, hv, hrel, fun c hc => hst.fr c hc (fun b l hl _ => absurd hl (not_live0 b)), hst.size, hst.os, hst.tape, hst.output⟩, st, hfn, hlv⟩

/-- The same for a function that answers true. -/
def isTrue : R Res → Bool
  | .ok (.val (.bool b) _) => b
  | _ => false

include ok in
theorem call_true {n : Nat} {f : FuncId} {args : List Value} (h : isTrue (call tb n f args mem0) = true) {fn : Func} {c : Code} (hf : tb.fn.get f = some fn) (hb : fn.body = some c) (args' : Array Value) (w : World)
    (ha : VRs (fun _ => none) args args'.toList) : Calls tb.P f args' w fun e w' => e = .returned (.bool true) ∧ Leaves w w' := by
  cases hr : call tb n f args mem0 with
  | no _ => rw [hr] at h; cases h
  | ok r =>
    rw [hr] at h
    cases r with
    | pan v A => cases h
    | val v A =>
      cases v with
      | bool b =>
        have hb' : b = true := h
        subst hb'
        intro cs
        obtain ⟨e, w', fr, ⟨ι, v', he, hv, _, hl⟩, st⟩ := call_calls ok hr hf hb args' w ha cs
        cases hv
        exact ⟨e, w', fr, ⟨he, hl⟩, st⟩
      | _ => cases h

end Go.Am

/-
  The abstract machine AM, part 42: the tables of a program.
-/
namespace Go.Am

/-- A program's tables. -/
noncomputable def tabOf (P : Program) (ex : T Nat) : Tab := { P := P, ty := T.ofList P.types.toList, fn := T.ofList P.funcs.toList, ex := ex }

theorem tabOf_ok (C : Checked) (ex : T Nat) (hex : ∀ f k fn, ex.get f = some k → C.prog.funcs[f]? = some fn → ExR k fn) : TabOk (tabOf C.prog ex) where
  ty := fun t i h => by
    have h' : (T.ofList C.prog.types.toList).get t = some i := h
    rw [T.get_ofList, Array.getElem?_toList] at h'
    show C.prog.toTables.info? t = some i
    unfold Tables.info?
    have hlt := (Array.getElem?_eq_some_iff.1 h').1
    rw [if_pos hlt]
    exact h'
  fn := fun f fn h => by
    have h' : (T.ofList C.prog.funcs.toList).get f = some fn := h
    rw [T.get_ofList, Array.getElem?_toList] at h'
    exact h'
  mixed := Checked.mixed C
  ex := fun f k fn h hf => hex f k fn h (by
    have h' : (T.ofList C.prog.funcs.toList).get f = some fn := hf
    rw [T.get_ofList, Array.getElem?_toList] at h'
    exact h')

end Go.Am

/-
  The abstract machine AM, part 43: what a law's row asks behind a call that leaves all blocks as they were but for new ones, whatever marks those bear.
-/
namespace Go.Am
open Go.RowKit Go.WideShapes Go.ChangeShapes

theorem Leaves.below {w w' : World} (h : Leaves w w') : Below w.heap.size w w' := ⟨h.2.2.1, h.2.2.2.1, h.2.2.2.2, h.2.1, h.1⟩

section
variable {H : Type} {enc : TypeId × Value → H} {P : Program}
/-- Behind a call that left what was there: the row's promise out of its parts. -/
theorem postLaw {f : Func} {s : ChangeSpec} {apart fresh handsOn again : Bool} {W W' : World} {args : Array Value} {v : Value} {ds gs : List (DataW H)} {before pa pv : List MemPlace} (hb : Leaves W W')
    (hW : DataW.Whole enc P f.params.toList s.vars apart W args.toList ds gs before) (hps : before = pa ++ pv)
    (hres : ∀ (b : Nat) (sp : Nat → Bool) (hd : Bool), DataW.TrodAll enc P W' b sp hd f.resultTypes.toList (v.resultList f.resultTypes.size) (s.fn H (ds ++ gs)).results [])
    (hargs : ∀ sp : Nat → Bool, (∀ p ∈ before, sp p.block = true) → DataW.TrodAll enc P W' 0 sp true f.params.toList args.toList (s.fn H (ds ++ gs)).args pa)
    (hvars : ∀ sp : Nat → Bool, (∀ p ∈ before, sp p.block = true) → DataW.TrodVars enc P W' sp s.vars (s.fn H (ds ++ gs)).vars pv)
    (hok : ∀ (j : Nat) (t : TypeId) (r : Value), f.resultTypes[j]? = some t → (v.resultList f.resultTypes.size)[j]? = some r → Value.okWide P W' .any 0 t r) :
    s.post enc P f apart fresh handsOn again W args v W' := by
  have hbl := hb.below
  have old : ∀ p ∈ before, p.block < W.heap.size := fun p hp => hW.lt p hp
  have inPv : ∀ p ∈ before, p ∈ pa ∨ p ∈ pv := fun p hp => by rwa [hps, List.mem_append] at hp
  have old' : ∀ p ∈ before, (fun b => decide (b < W.heap.size)) p.block = true := fun p hp => decide_eq_true (old p hp)
  obtain ⟨_, _, _, _, _, marks, noDup⟩ := id hW
  refine ⟨ds, gs, before, [], pa, pv, hW, hres _ _ _, hargs _ old', hvars _ old', World.keptBut_mono (fun p hp => ⟨hp, .inr (inPv p hp)⟩) (hbl.frame (· ∈ before)), fun _ => ⟨hok, _, _, ([] ++ pa) ++ pv, ⟨[] ++ pa, pv, trodAll_append (hargs _ (fun _ _ => rfl)) (hres _ _ _), hvars _ (fun _ _ => rfl), rfl, fun b off hp => ?_, fun ha => ?_⟩, fun p hp _ => ?_⟩⟩
  · have hin : MemPlace.cell b off ∈ before := by rw [hps]; simpa using hp
    rw [hbl.frozen (old _ hin)]
    exact marks b off hin
  · have := noDup ha
    rwa [hps] at this
  · rw [hps]
    simpa using hp
end
end Go.Am
