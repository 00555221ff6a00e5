/-
  What the functions of this group compute on the abstract machine, and the plain laws of it. Part A: conditions stand in each theorem.
-/
import Derived.Test.YtnelkapmmgggdaaAmH
import Derived.Test.YtnelkapmmgggdaaChecked
import Derived.KernelRfl

/-
  Model: lists of words and weights, in order: the plain laws.
-/
namespace Go.Mdl
open Go.Am

structure EntD where
  word : List UInt8
  weight : Nat
  gone : Bool
deriving DecidableEq
abbrev lt (a b : List UInt8) : Prop := bytesLt a b = true
theorem lt_irr (a : List UInt8) : ¬ lt a a := by unfold lt; rw [bytesLt_irr]; simp
theorem lt_tr {a b c : List UInt8} (h : lt a b) (k : lt b c) : lt a c := bytesLt_trans _ _ _ h k
theorem lt_tri {a b : List UInt8} (h : ¬ lt a b) (k : ¬ lt b a) : a = b := bytesLt_tri _ _ (by simpa [lt] using h) (by simpa [lt] using k)
/-- In order, each word once. -/
def Asc : List EntD → Prop
  | [] => True
  | x :: l => (∀ y ∈ l, lt x.word y.word) ∧ Asc l
/-- An entry is laid into a list. -/
def one (e : EntD) : List EntD → List EntD
  | [] => [e]
  | x :: l => if lt x.word e.word then x :: one e l else if x.word = e.word then e :: l else e :: x :: l
theorem one_mem {e : EntD} : ∀ {l : List EntD} {y : EntD}, y ∈ one e l → y = e ∨ y ∈ l
  | [], y, h => by simp [one] at h; exact .inl h
  | x :: l, y, h => by
    unfold one at h
    split at h
    · rcases List.mem_cons.1 h with rfl | h
      · exact .inr List.mem_cons_self
      · rcases one_mem h with h | h
        · exact .inl h
        · exact .inr (List.mem_cons_of_mem _ h)
    · split at h
      · rcases List.mem_cons.1 h with h | h
        · exact .inl h
        · exact .inr (List.mem_cons_of_mem _ h)
      · rcases List.mem_cons.1 h with h | h
        · exact .inl h
        · exact .inr h
theorem one_asc {e : EntD} : ∀ {l : List EntD}, Asc l → Asc (one e l)
  | [], _ => ⟨fun y hy => (by cases hy), trivial⟩
  | x :: l, h => by
    unfold one
    split
    · rename_i hx
      refine ⟨fun y hy => ?_, one_asc h.2⟩
      rcases one_mem hy with rfl | hy
      · exact hx
      · exact h.1 y hy
    · split
      · rename_i hx he
        exact ⟨fun y hy => by rw [← he]; exact h.1 y hy, h.2⟩
      · rename_i hx he
        have hex : lt e.word x.word := Classical.byContradiction fun hn => he (lt_tri hx hn)
        refine ⟨fun y hy => ?_, h⟩
        rcases List.mem_cons.1 hy with rfl | hy
        · exact hex
        · exact lt_tr hex (h.1 y hy)
def live (l : List EntD) : List EntD := l.filter fun e => !e.gone
theorem live_asc : ∀ {l : List EntD}, Asc l → Asc (live l)
  | [], _ => trivial
  | x :: l, h => by
    unfold live
    rw [List.filter_cons]
    split
    · exact ⟨fun y hy => h.1 y (List.mem_filter.1 hy).1, live_asc h.2⟩
    · exact live_asc h.2
def find (w : List UInt8) (l : List EntD) : Option EntD := l.find? fun e => decide (e.word = w)
theorem find_none {w : List UInt8} {l : List EntD} (h : ∀ y ∈ l, y.word ≠ w) : find w l = none := by
  unfold find
  rw [List.find?_eq_none]
  intro y hy
  simpa using h y hy
/-- What is found behind an entry that was laid in. -/
theorem find_one {e : EntD} {w : List UInt8} : ∀ {l : List EntD}, Asc l → find w (one e l) = if e.word = w then some e else find w l
  | [], _ => by
    unfold one find
    by_cases h : e.word = w
    · simp [h]
    · simp [h]
  | x :: l, h => by
    have ih := find_one (e := e) (w := w) h.2
    unfold one
    split
    · rename_i hx
      by_cases hxw : x.word = w
      · have hne : e.word ≠ w := fun he => lt_irr w (by rw [hxw, he] at hx; exact hx)
        rw [if_neg hne]
        simp [find, hxw]
      · have e1 : ∀ m, find w (x :: m) = find w m := fun m => by simp [find, hxw]
        rw [e1, e1, ih]
    · split
      · rename_i hx he
        by_cases hew : e.word = w
        · rw [if_pos hew]; simp [find, hew]
        · have hxw : x.word ≠ w := fun h => hew (he ▸ h)
          rw [if_neg hew]
          simp [find, hew, hxw]
      · by_cases hew : e.word = w
        · rw [if_pos hew]; simp [find, hew]
        · rw [if_neg hew]; simp [find, hew]
theorem find_live {w : List UInt8} : ∀ {l : List EntD}, Asc l → find w (live l) = (find w l).bind fun e => if e.gone = true then none else some e
  | [], _ => rfl
  | x :: l, h => by
    have ih := find_live (w := w) h.2
    unfold live at ih ⊢
    rw [List.filter_cons]
    by_cases hxw : x.word = w
    · have e1 : find w (x :: l) = some x := by simp [find, hxw]
      rw [e1, Option.bind_some]
      cases hg : x.gone with
      | true =>
        rw [if_neg (by simp), if_pos rfl]
        refine find_none fun y hy hyw => ?_
        have := h.1 y (List.mem_filter.1 hy).1
        rw [hxw, hyw] at this
        exact lt_irr _ this
      | false =>
        rw [if_pos (by simp), if_neg (by simp)]
        simp [find, hxw]
    · have e1 : find w (x :: l) = find w l := by simp [find, hxw]
      rw [e1]
      split
      · rw [show find w (x :: l.filter fun e => !e.gone) = find w (l.filter fun e => !e.gone) by simp [find, hxw]]
        exact ih
      · exact ih
/-- A list in order is what is found in it. -/
theorem asc_ext : ∀ {l m : List EntD}, Asc l → Asc m → (∀ w, find w l = find w m) → l = m
  | [], [], _, _, _ => rfl
  | [], y :: m, _, _, h => by
    have := h y.word
    simp [find] at this
  | x :: l, [], _, _, h => by
    have := h x.word
    simp [find] at this
  | x :: l, y :: m, h1, h2, h => by
    have hx := h x.word
    have hy := h y.word
    rw [show find x.word (x :: l) = some x by simp [find]] at hx
    rw [show find y.word (y :: m) = some y by simp [find]] at hy
    have hxy : x = y := by
      by_cases he : y.word = x.word
      · rw [show find x.word (y :: m) = some y by simp [find, he]] at hx
        exact Option.some.inj hx
      · have hmx : x ∈ m := by
          have : find x.word (y :: m) = find x.word m := by simp [find, he]
          rw [this] at hx
          exact List.mem_of_find?_eq_some hx.symm
        have hly : y ∈ l := by
          have : find y.word (x :: l) = find y.word l := by simp [find, Ne.symm he]
          rw [this] at hy
          exact List.mem_of_find?_eq_some hy
        exact absurd (lt_tr (h1.1 y hly) (h2.1 x hmx)) (lt_irr _)
    subst hxy
    congr 1
    refine asc_ext h1.2 h2.2 fun w => ?_
    have hw := h w
    by_cases hxw : x.word = w
    · subst hxw
      rw [find_none fun z hz hzw => lt_irr x.word (by have := h1.1 z hz; rwa [hzw] at this), find_none fun z hz hzw => lt_irr x.word (by have := h2.1 z hz; rwa [hzw] at this)]
    · rwa [show find w (x :: l) = find w l by simp [find, hxw], show find w (x :: m) = find w m by simp [find, hxw]] at hw
end Go.Mdl

/-
  Model: what updates make of a list: the plain laws.
-/
namespace Go.Mdl
open Go.Am

def okW (w : List UInt8) : Bool := decide (1 ≤ w.length ∧ w.length ≤ 255)
structure OpD where
  kind : Nat
  word : List UInt8
  weight : Nat
/-- D: in order, none gone. -/
def OkD (d : List EntD) : Prop := Asc d ∧ ∀ e ∈ d, e.gone = false
/-- What an update lays in. -/
def ent (o : OpD) : EntD := ⟨o.word, if o.kind = 1 then 0 else o.weight, decide (o.kind = 1)⟩
/-- Its error. -/
def err (d : List EntD) (o : OpD) : Nat :=
  if okW o.word = false then 7 else if o.kind = 0 then (if (find o.word d).isSome = true then 8 else 0) else (if (find o.word d).isSome = true then 0 else 9)
def upd (d : List EntD) (o : OpD) : List EntD := if err d o = 0 then live (one (ent o) d) else d
theorem live_ok {d : List EntD} (h : Asc d) : OkD (live d) := ⟨live_asc h, fun e he => by
  have := (List.mem_filter.1 he).2
  simpa using this⟩
theorem upd_ok {d : List EntD} {o : OpD} (h : OkD d) : OkD (upd d o) := by
  unfold upd
  split
  · exact live_ok (one_asc h.1)
  · exact h
theorem find_upd {d : List EntD} {o : OpD} {w : List UInt8} (h : OkD d) : find w (upd d o) = if err d o = 0 ∧ o.word = w then (if o.kind = 1 then none else some (ent o)) else find w d := by
  unfold upd
  by_cases he : err d o = 0
  · rw [if_pos he, find_live (one_asc h.1), find_one h.1]
    by_cases hw : o.word = w
    · rw [if_pos (show err d o = 0 ∧ o.word = w from ⟨he, hw⟩), if_pos (show (ent o).word = w from hw), Option.bind_some]
      unfold ent
      by_cases hk : o.kind = 1
      · simp [hk]
      · simp [hk]
    · rw [if_neg (show ¬ (err d o = 0 ∧ o.word = w) from fun x => hw x.2), if_neg (show ¬ (ent o).word = w from hw)]
      cases hf : find w d with
      | none => rfl
      | some e =>
        rw [Option.bind_some]
        have hm : e ∈ d := List.mem_of_find?_eq_some hf
        rw [if_neg (by rw [h.2 e hm]; decide)]
  · rw [if_neg he, if_neg (fun x => he x.1)]
theorem find_mem {d : List EntD} (h : OkD d) {e : EntD} (he : e ∈ d) : find e.word d = some e := by
  obtain ⟨ha, -⟩ := h
  induction d with
  | nil => cases he
  | cons x l ih =>
    rcases List.mem_cons.1 he with rfl | hm
    · simp [find]
    · have hne : x.word ≠ e.word := fun hx => lt_irr x.word (by have := ha.1 e hm; rwa [← hx] at this)
      rw [show find e.word (x :: l) = find e.word l by simp [find, hne]]
      exact ih hm ha.2
/-- An update changes its own word alone. -/
theorem upd_keeps {d : List EntD} {o : OpD} (h : OkD d) {e : EntD} (he : e ∈ d) (hne : e.word ≠ o.word) : find e.word (upd d o) = some e := by
  rw [find_upd h, if_neg (fun x => hne x.2.symm)]
  exact find_mem h he
theorem len_one {e : EntD} : ∀ {l : List EntD}, Asc l → (one e l).length = if (find e.word l).isSome = true then l.length else l.length + 1
  | [], _ => rfl
  | x :: l, h => by
    have ih := len_one (e := e) h.2
    unfold one
    split
    · rename_i hx
      have hne : x.word ≠ e.word := fun hh => lt_irr e.word (by rwa [hh] at hx)
      rw [show find e.word (x :: l) = find e.word l by simp [find, hne], List.length_cons, ih]
      split <;> simp
    · split
      · rename_i hx he
        rw [show find e.word (x :: l) = some x by simp [find, he]]
        simp
      · rename_i hx he
        have hex : lt e.word x.word := Classical.byContradiction fun hn => he (lt_tri hx hn)
        rw [find_none (l := x :: l) fun y hy hyw => by
          rcases List.mem_cons.1 hy with rfl | hy
          · exact he hyw
          · have := lt_tr hex (h.1 y hy)
            rw [hyw] at this
            exact lt_irr _ this]
        rfl
theorem live_le (l : List EntD) : (live l).length ≤ l.length := List.length_filter_le _ _
theorem live_one {e : EntD} : ∀ {l : List EntD}, (∀ y ∈ l, y.gone = false) → (one e l).length ≤ (live (one e l)).length + 1
  | [], _ => by
    unfold one live
    cases hg : e.gone <;> simp [hg]
  | x :: l, h => by
    have hx := h x List.mem_cons_self
    have hl : ∀ y ∈ l, y.gone = false := fun y hy => h y (List.mem_cons_of_mem _ hy)
    have hll : live l = l := List.filter_eq_self.2 fun y hy => by rw [hl y hy]; rfl
    have ih := live_one (e := e) hl
    unfold one
    split
    · show (one e l).length + 1 ≤ ((x :: one e l).filter fun e => !e.gone).length + 1
      rw [List.filter_cons, if_pos (by rw [hx]; rfl), List.length_cons]
      exact Nat.succ_le_succ ih
    · split
      · show l.length + 1 ≤ ((e :: l).filter fun e => !e.gone).length + 1
        rw [List.filter_cons]
        unfold live at hll
        rw [hll]
        split <;> simp
      · show l.length + 1 + 1 ≤ ((e :: x :: l).filter fun e => !e.gone).length + 1
        rw [List.filter_cons, List.filter_cons, if_pos (show (!x.gone) = true by rw [hx]; rfl)]
        unfold live at hll
        rw [hll]
        split <;> simp
theorem upd_len {d : List EntD} {o : OpD} (h : OkD d) : (upd d o).length ≤ d.length + 1 ∧ d.length ≤ (upd d o).length + 1 := by
  unfold upd
  split
  · have h1 := len_one (e := ent o) h.1
    have h2 := live_le (one (ent o) d)
    have h3 := live_one (e := ent o) h.2
    constructor
    · split at h1 <;> omega
    · split at h1 <;> omega
  · omega
theorem err_ext {d d' : List EntD} {o : OpD} (h : find o.word d = find o.word d') : err d o = err d' o := by
  unfold err; rw [h]
/-- Updates of unlike words may come in either order. -/
theorem upd_comm {d : List EntD} {a b : OpD} (h : OkD d) (hab : a.word ≠ b.word) : upd (upd d b) a = upd (upd d a) b ∧ err (upd d a) b = err d b ∧ err (upd d b) a = err d a := by
  have e1 : err (upd d a) b = err d b := err_ext (by rw [find_upd h, if_neg (fun x => hab x.2)])
  have e2 : err (upd d b) a = err d a := err_ext (by rw [find_upd h, if_neg (fun x => hab x.2.symm)])
  refine ⟨asc_ext (upd_ok (upd_ok h)).1 (upd_ok (upd_ok h)).1 fun w => ?_, e1, e2⟩
  rw [find_upd (upd_ok h), find_upd h, find_upd (upd_ok h), find_upd h, e1, e2]
  by_cases ha : err d a = 0 ∧ a.word = w
  · have hb : ¬ (err d b = 0 ∧ b.word = w) := fun x => hab (ha.2.trans x.2.symm)
    rw [if_pos ha, if_neg hb, if_pos ha]
  · rw [if_neg ha, if_neg ha]
/-- A word that is added and removed leaves no trace. -/
theorem upd_trace {d : List EntD} {w : List UInt8} {wt : Nat} (h : OkD d) (hn : find w d = none) : upd (upd d ⟨0, w, wt⟩) ⟨1, w, wt⟩ = d ∧ (if err d ⟨0, w, wt⟩ = 0 then err (upd d ⟨0, w, wt⟩) ⟨1, w, wt⟩ else err d ⟨0, w, wt⟩) = if okW w = true then 0 else 7 := by
  cases hw : okW w with
  | false =>
    have e0 : ∀ (d : List EntD) (k : Nat), err d ⟨k, w, wt⟩ = 7 := fun d k => by unfold err; rw [if_pos hw]
    have u0 : ∀ (d : List EntD) (k : Nat), upd d ⟨k, w, wt⟩ = d := fun d k => by unfold upd; rw [e0]; rfl
    rw [u0, u0, e0]
    exact ⟨rfl, by simp⟩
  | true =>
    have e0 : err d ⟨0, w, wt⟩ = 0 := by
      unfold err
      rw [if_neg (by rw [hw]; decide), if_pos rfl, hn]; rfl
    have f0 : find w (upd d ⟨0, w, wt⟩) = some (ent ⟨0, w, wt⟩) := by rw [find_upd h, if_pos ⟨e0, rfl⟩]; rfl
    have e1 : err (upd d ⟨0, w, wt⟩) ⟨1, w, wt⟩ = 0 := by
      unfold err
      rw [if_neg (by rw [hw]; decide), if_neg (show ¬ (1 = 0) by decide), f0]; rfl
    rw [e0, e1]
    refine ⟨asc_ext (upd_ok (upd_ok h)).1 h.1 fun v => ?_, by simp⟩
    rw [find_upd (upd_ok h), find_upd h, e0, e1]
    by_cases hv : w = v
    · rw [if_pos ⟨rfl, hv⟩, ← hv, hn]; rfl
    · rw [if_neg (fun x => hv x.2), if_neg (fun x => hv x.2)]
end Go.Mdl

/-
  Model: the tables; what is known at once.
-/
namespace Go.Proofs.Ytnelkapmmgggdaa.mdl
open Go.Am
set_option linter.unusedSimpArgs false
set_option linter.unusedVariables false
set_option linter.unusedVariables false

noncomputable def exts : T Nat := (T.e.set 55 2)
theorem ext55 : ExR 2 Try.f55 := ⟨by kernel_rfl, by kernel_rfl, by kernel_rfl, by show Extern.find Try.f55 = some (Extern.SlicesOverlaps.overlaps Try.f55.params Try.f55.resultTypes); kernel_rfl⟩
theorem exts_ok : ∀ f k fn, exts.get f = some k → Try.checked.prog.funcs[f]? = some fn → ExR k fn := by
  intro f k fn h hf
  unfold exts at h
  simp only [T.get_set, T.get_e] at h
  split at h
  · rename_i e
    subst e
    cases h
    cases Option.some.inj (hf.symm.trans Try.func55)
    exact ext55
  cases h
noncomputable def tb0 : Tab := tabOf Try.checked.prog exts
theorem tb0_ok : TabOk tb0 := tabOf_ok Try.checked _ exts_ok
theorem fn_at {k : Nat} {fn : Func} (h : Try.prog.funcs[k]? = some fn) : tb0.fn.get k = some fn := by
  show (T.ofList Try.checked.prog.funcs.toList).get k = _
  rw [T.get_ofList, Array.getElem?_toList]
  exact h
theorem works_true : isTrue (call tb0 1000000 6 [] mem0) = true := by decide +kernel
def worksK : List Value → Option Value
  | [] => some (.bool true)
  | _ => none
theorem hook_works : HookOk tb0.P 6 (pureHook worksK) := by
  refine hook_pure tb0_ok (f := 6) (fn := Try.f6) (fn_at Try.func6) (c := (Try.f6.body).getD .skip) (by kernel_rfl) fun args v h => ?_
  unfold worksK at h
  split at h
  · cases h
    have hw := works_true
    revert hw
    cases hc : call tb0 1000000 6 [] mem0 with
    | no _ => intro hw; cases hw
    | ok r =>
      cases r with
      | pan _ _ => intro hw; cases hw
      | val v A =>
        intro hw
        cases v with
        | bool b =>
          cases (show b = true from hw)
          exact ⟨by simp, by simp [flat], 1000000, A, hc⟩
        | _ => cases hw
  · cases h

theorem und3 : tb0.und 3 = some (.int .i64) := by kernel_rfl
theorem und32 : tb0.und 32 = some (.slice 45) := by kernel_rfl
theorem size45 : sizeF tb0 45 = .ok 3 := by kernel_rfl
theorem zc45 : zcellsF tb0 45 = .ok (3, [.string .empty, .int .u32 0, .bool false]) := by kernel_rfl
theorem ty45 : ∃ ti, tb0.ty.get 45 = some ti ∧ 0 < ti.bytes ∧ ti.bytes ≤ 65536 := by
  cases h : tb0.ty.get 45 with
  | none => exact absurd (show (tb0.ty.get 45).isSome = true by kernel_rfl) (by rw [h]; decide)
  | some ti =>
    have e : (tb0.ty.get 45).map (fun i => (Nat.blt 0 i.bytes && Nat.ble i.bytes 65536)) = some true := by kernel_rfl
    rw [h, Option.map_some, Option.some.injEq, Bool.and_eq_true, Nat.blt_eq] at e
    exact ⟨ti, rfl, e.1, Nat.le_of_ble_eq_true e.2⟩

/-- slices.overlaps, of rows that lie in two blocks. -/
theorem k55 {ih : Code → St → R (Ex × St)} {A : Mem} {q b o n k : Nat} {tq e : TypeId} {fq fb m : Nat} {cq cb : T Value} {kb : Kd} {v : Value} (hq : A.get q = some (.cells tq (.var m) fq cq)) (hb : A.get b = some (.cells e kb fb cb)) (h0 : cb.get 0 = some v) (hne : b ≠ q) :
    callF tb0 ih (.fn 55 [.slice (some ⟨q, 0, none⟩) 1 2, .slice (some ⟨b, o, none⟩) n k]) A = .ok (.val (.bool false) A) := by
  have hbq : Nat.beq q b = false := by
    cases h : Nat.beq q b with
    | false => rfl
    | true => exact absurd (Nat.eq_of_beq_eq_true h).symm hne
  have hap : apartF A ⟨q, 0, none⟩ ⟨b, o, none⟩ = .ok () := by
    unfold apartF
    simp only [hq, hb, h0, hbq, cond_false]
  have hex : externF tb0 2 Try.f55 [.slice (some ⟨q, 0, none⟩) 1 2, .slice (some ⟨b, o, none⟩) n k] A = .ok (.bool false, A) := by
    unfold externF
    have hp : Try.f55.params.toList = [32, 32] := by kernel_rfl
    have hr : Try.f55.resultTypes.toList = [4] := by kernel_rfl
    have hbb : Nat.beq 32 32 = true := rfl
    simp only [hp, hr, und32, size45, R.ok_bind, hbb, cond_true, hap]
  have hbody : Try.f55.body = none := by kernel_rfl
  have hx : tb0.ex.get 55 = some 2 := by kernel_rfl
  have hh : tb0.hk.get 55 = none := by kernel_rfl
  have hnm : (Try.f55.name == "runtime.NumGoroutine") = false := by kernel_rfl
  unfold callF
  simp only [fn_at Try.func55, hbody, hx, hh, hnm, cond_false, hex, R.ok_bind]

end Go.Proofs.Ytnelkapmmgggdaa.mdl

/-
  Model: slices.Insert at entries: its text, run.
-/
namespace Go.Proofs.Ytnelkapmmgggdaa.mdl
open Go.Am
set_option linter.unusedSimpArgs false
set_option linter.unusedVariables false
set_option linter.unusedVariables false

noncomputable def c37 : Code := Try.f37.body.getD .skip
theorem c37_eq : Try.f37.body = some (.seq (sub c37 [0]) (.seq (sub c37 [1,0]) (.seq (sub c37 [1,1,0]) (.seq (.seq (sub c37 [1,1,1,0,0]) (sub c37 [1,1,1,0,1])) (.seq (sub c37 [1,1,1,1,0]) (.seq (.seq (sub c37 [1,1,1,1,1,0,0]) (sub c37 [1,1,1,1,1,0,1])) (sub c37 [1,1,1,1,1,1]))))))) := by kernel_rfl
theorem c37_r : sub c37 [1,1,1,1,1,1] = .seq (.seq (sub c37 [1,1,1,1,1,1,0,0]) (.cond (.tmp 31) (sub c37 [1,1,1,1,1,1,0,1,0]) .skip)) (sub c37 [1,1,1,1,1,1,1]) := by kernel_rfl
theorem c37_g : sub c37 [1,1,1,1,1,1,0,1,0] = .seq (sub c37 [1,1,1,1,1,1,0,1,0,0]) (.seq (sub c37 [1,1,1,1,1,1,0,1,0,1,0]) (.seq (sub c37 [1,1,1,1,1,1,0,1,0,1,1,0]) (sub c37 [1,1,1,1,1,1,0,1,0,1,1,1]))) := by kernel_rfl
theorem c37_s : sub c37 [1,1,1,1,1,1,1] = .seq (sub c37 [1,1,1,1,1,1,1,0]) (.seq (.seq (sub c37 [1,1,1,1,1,1,1,1,0,0]) (.cond (.tmp 68) (sub c37 [1,1,1,1,1,1,1,1,0,1,0]) .skip)) (sub c37 [1,1,1,1,1,1,1,1,1])) := by kernel_rfl
theorem c37_t : sub c37 [1,1,1,1,1,1,1,1,0,1,0] = .seq (sub c37 [1,1,1,1,1,1,1,1,0,1,0,0]) (.seq (sub c37 [1,1,1,1,1,1,1,1,0,1,0,1,0]) (sub c37 [1,1,1,1,1,1,1,1,0,1,0,1,1])) := by kernel_rfl
def insS (x v : Value) (i n : Nat) : List (Nat × Value) := [(0, x), (1, .int .i64 (i : Int)), (2, v), (7, .int .i64 ((1 : Nat) : Int)), (8, .int .i64 (n : Int))]

set_option maxHeartbeats 4000000 in
set_option maxRecDepth 20000 in
theorem pre37 {K : Ex → St → Prop} {x y v : Value} {i n : Nat} {A : Mem} (hsl : sliceF tb0 32 x (some (.int .i64 (i : Int))) none none = .ok y) (hlx : builtinPF tb0 .len [32] [x] = .ok (.int .i64 (n : Int))) (hlv : builtinPF tb0 .len [32] [v] = .ok (.int .i64 ((1 : Nat) : Int)))
    (hK : ∀ t : T Value, Sl t (insS x v i n) → W tb0 (.seq (.seq (sub c37 [1,1,1,1,1,0,0]) (sub c37 [1,1,1,1,1,0,1])) (sub c37 [1,1,1,1,1,1])) ⟨t, 95, [], A, none⟩ K) :
    W tb0 (.seq (sub c37 [0]) (.seq (sub c37 [1,0]) (.seq (sub c37 [1,1,0]) (.seq (.seq (sub c37 [1,1,1,0,0]) (sub c37 [1,1,1,0,1])) (.seq (sub c37 [1,1,1,1,0]) (.seq (.seq (sub c37 [1,1,1,1,1,0,0]) (sub c37 [1,1,1,1,1,0,1])) (sub c37 [1,1,1,1,1,1]))))))) ⟨T.puts .e 0 [x, .int .i64 (i : Int), v], 95, [], A, none⟩ K := by
  apply W.seq
  apply W.run 20
  · intro M
    simp (config := { maxSteps := 4000000 }) (disch := first | decide +kernel | omega) only [c37, Try.f37, Option.getD_some, sub_seq0, sub_nil, T.puts_cons, Nat.reduceAdd, T.puts_nil, exec_region, runOps_cons, opF_assign, ev_nilslice, putT_some, runOps_nil, R.ok_bind]
    with_reducible rfl
  show W tb0 _ _ _
  apply W.seq
  apply W.run 20
  · intro M
    simp (config := { maxSteps := 4000000 }) (disch := first | decide +kernel | omega) only [c37, Try.f37, Option.getD_some, sub_seq1, sub_seq0, sub_nil, exec_region, runOps_cons, opF_move, ev_tmp, T.get_set, Nat.reduceEqDiff, T.get_e, if_true, if_false, evG_some, putT_some, opF_slice, evo, R.ok_bind, runOps_nil, hsl]
    with_reducible rfl
  show W tb0 _ _ _
  apply W.seq
  apply W.run 20
  · intro M
    simp (config := { maxSteps := 4000000 }) (disch := first | decide +kernel | omega) only [c37, Try.f37, Option.getD_some, sub_seq1, sub_seq0, sub_nil, exec_region, runOps_cons, opF_move, ev_tmp, T.get_set, Nat.reduceEqDiff, T.get_e, if_false, if_true, evG_some, putT_some, opF_len, evs, R.ok_bind, opF_assign, runOps_nil, hlv]
    with_reducible rfl
  show W tb0 _ _ _
  apply W.seq
  apply W.seq
  apply W.run 20
  · intro M
    simp (config := { maxSteps := 4000000 }) (disch := first | decide +kernel | omega) only [c37, Try.f37, Option.getD_some, sub_seq1, sub_seq0, sub_nil, exec_region, runOps_cons, opF_move, ev_tmp, T.get_set, Nat.reduceEqDiff, T.get_e, if_false, if_true, evG_some, putT_some, opF_eql, ev_int, runOps_nil, R.ok_bind, binF_int, op_eql, decide_false]
    with_reducible rfl
  show W tb0 _ _ _
  apply W.run 20
  · intro M
    simp (config := { maxSteps := 4000000 }) (disch := first | decide +kernel | omega) only [c37, Try.f37, Option.getD_some, sub_seq1, sub_seq0, sub_nil, exec_cond, ev_tmp, T.get_set, Nat.reduceEqDiff, T.get_e, if_false, if_true, evG_some, exec_seq, exec_region, runOps_cons, opF_move, putT_some, opF_assign, runOps_nil, R.ok_bind, exec_ret, exec_skip]
    with_reducible rfl
  show W tb0 _ _ _
  apply W.seq
  apply W.run 20
  · intro M
    simp (config := { maxSteps := 4000000 }) (disch := first | decide +kernel | omega) only [c37, Try.f37, Option.getD_some, sub_seq1, sub_seq0, sub_nil, exec_region, runOps_cons, opF_move, ev_tmp, T.get_set, Nat.reduceEqDiff, T.get_e, if_true, if_false, evG_some, putT_some, opF_len, evs, R.ok_bind, opF_assign, runOps_nil, hlx]
    with_reducible rfl
  show W tb0 _ _ _
  refine hK _ ?_
  unfold insS
  simp only [Sl_cons, Sl_nil, T.get_set, T.puts_cons, T.puts_nil, Nat.reduceEqDiff, Nat.reduceAdd, if_true, if_false, and_true, true_and]

/-- At the end. -/
theorem end37 {x v y : Value} {n : Nat} {A A' : Mem} {t : T Value} (ht : Sl t (insS x v n n)) (happ : appendF tb0 A 32 32 x v = .ok (y, A')) :
    W tb0 (.seq (.seq (sub c37 [1,1,1,1,1,0,0]) (sub c37 [1,1,1,1,1,0,1])) (sub c37 [1,1,1,1,1,1])) ⟨t, 95, [], A, none⟩ fun e s => (e = .nrm ∨ e = .ret) ∧ ∃ A2 vs, takeF s.d s.m = .ok A2 ∧ resF tb0 s.t A2.get Try.f37.results.toList = .ok vs ∧ (oneOf vs = y ∧ A2 = A') := by
  obtain ⟨g0, g1, g2, g7, g8, -⟩ := ht
  apply W.seq
  apply W.seq
  apply W.run 20
  · intro M
    simp (config := { maxSteps := 4000000 }) (disch := first | decide +kernel | omega) only [c37, Try.f37, Option.getD_some, sub_seq1, sub_seq0, sub_nil, exec_region, runOps_cons, opF_move, ev_tmp, g1, evG_some, putT_some, T.get_set, Nat.reduceEqDiff, g8, if_false, opF_eql, if_true, runOps_nil, R.ok_bind, binF_int, op_eql, decide_true]
    with_reducible rfl
  show W tb0 _ _ _
  apply W.run 20
  · intro M
    simp (config := { maxSteps := 4000000 }) (disch := first | decide +kernel | omega) only [c37, Try.f37, Option.getD_some, sub_seq1, sub_seq0, sub_nil, exec_cond, ev_tmp, T.get_set, Nat.reduceEqDiff, if_false, if_true, evG_some, exec_seq, exec_region, runOps_cons, opF_move, g0, putT_some, g2, opF_builtin, evs, R.ok_bind, opF_assign, runOps_nil, builtin_append, happ, exec_ret, exec_skip]
    with_reducible rfl
  refine ⟨.inr rfl, _, [y], rfl, ?_, rfl, rfl⟩
  simp only [Try.f37, resF, ev_tmp, T.get_set, Nat.reduceEqDiff, if_true, if_false, evG_some, R.ok_bind]

theorem cp37 {A : Mem} {d s : Value} : builtinLF tb0 A .copy [32, 32] [d, s] = copyF tb0 A 32 d s := rfl
set_option maxRecDepth 20000 in
theorem cap37 {b n c : Nat} : builtinPF tb0 .cap [32] [.slice (some ⟨b, 0, none⟩) n (2 * c)] = .ok (.int .i64 (c : Int)) := by
  unfold builtinPF capPF
  simp only [und32, capX_two, capN_two, cond_true]
  rfl

section
variable {x y v x9 y10 y11 x11 r1 r2 : Value} {i n c : Nat} {A A1 A2 A3 : Mem} {t : T Value}
set_option maxHeartbeats 4000000 in
set_option maxRecDepth 20000 in
/-- Where there is no room. -/
theorem grow37 (hi : i < n) (hn : n < 16777215) (hcn : c < n + 1) (ht : Sl t (insS x v i n)) (hcap : builtinPF tb0 .cap [32] [x] = .ok (.int .i64 (c : Int))) (h9 : sliceF tb0 32 x none (some (.int .i64 (i : Int))) none = .ok x9) (happ : appendF tb0 A 32 3 x9 (.int .i64 ((n + 1 - i : Nat) : Int)) = .ok (y, A1))
    (h10 : sliceF tb0 32 y (some (.int .i64 (i : Int))) none none = .ok y10) (hc1 : copyF tb0 A1 32 y10 v = .ok (r1, A2)) (h11 : sliceF tb0 32 y (some (.int .i64 ((i + 1 : Nat) : Int))) none none = .ok y11) (h12 : sliceF tb0 32 x (some (.int .i64 (i : Int))) none none = .ok x11) (hc2 : copyF tb0 A2 32 y11 x11 = .ok (r2, A3)) :
    W tb0 (.seq (.seq (sub c37 [1,1,1,1,1,0,0]) (sub c37 [1,1,1,1,1,0,1])) (sub c37 [1,1,1,1,1,1])) ⟨t, 95, [], A, none⟩ fun e s => (e = .nrm ∨ e = .ret) ∧ ∃ A2 vs, takeF s.d s.m = .ok A2 ∧ resF tb0 s.t A2.get Try.f37.results.toList = .ok vs ∧ (oneOf vs = y ∧ A2 = A3) := by
  obtain ⟨g0, g1, g2, g7, g8, -⟩ := ht
  have hne : ¬ i = n := by omega
  have hsub : intOpF .sub .i64 ((n + 1 : Nat) : Int) (i : Int) = .ok (.int .i64 ((n + 1 - i : Nat) : Int)) := by
    rw [op_subI (by omega) (by omega)]
    congr 2
    omega
  apply W.seq
  apply W.seq
  apply W.run 20
  · intro M
    simp (config := { maxSteps := 4000000 }) (disch := first | decide +kernel | omega) only [c37, Try.f37, Option.getD_some, sub_seq1, sub_seq0, sub_nil, exec_region, runOps_cons, opF_move, ev_tmp, g1, evG_some, putT_some, T.get_set, Nat.reduceEqDiff, g8, if_false, opF_eql, if_true, runOps_nil, R.ok_bind, binF_int, op_eql, hne, decide_false]
    with_reducible rfl
  show W tb0 _ _ _
  apply W.run 20
  · intro M
    simp (config := { maxSteps := 4000000 }) (disch := first | decide +kernel | omega) only [c37, Try.f37, Option.getD_some, sub_seq1, sub_seq0, sub_nil, exec_cond, ev_tmp, T.get_set, Nat.reduceEqDiff, if_false, if_true, evG_some, exec_seq, exec_region, runOps_cons, opF_move, putT_some, opF_builtin, evs, R.ok_bind, opF_assign, runOps_nil, builtin_append, exec_ret, exec_skip]
    with_reducible rfl
  show W tb0 _ _ _
  rw [c37_r]
  apply W.seq
  apply W.seq
  apply W.run 20
  · intro M
    simp (config := { maxSteps := 4000000 }) (disch := first | decide +kernel | omega) only [c37, Try.f37, Option.getD_some, sub_seq1, sub_seq0, sub_nil, exec_region, runOps_cons, opF_move, ev_tmp, T.get_set, Nat.reduceEqDiff, g8, if_false, evG_some, putT_some, g7, opF_ari, if_true, g0, opF_minmax, evs, R.ok_bind, runOps_nil, hcap, binF_int, op_add_i64, op_gtr, cast_lt, hcn, decide_true]
    with_reducible rfl
  show W tb0 _ _ _
  refine W.cond (p := true) ?_ (fun _ => ?_) (fun h => by cases h)
  · simp only [ev_tmp, T.get_set, Nat.reduceEqDiff, if_true, if_false, evG_some]
  rw [c37_g]
  apply W.seq
  apply W.run 20
  · intro M
    simp (config := { maxSteps := 4000000 }) (disch := first | decide +kernel | omega) only [c37, Try.f37, Option.getD_some, sub_seq1, sub_seq0, sub_cond0, sub_nil, exec_region, runOps_cons, opF_move, ev_tmp, T.get_set, Nat.reduceEqDiff, g0, if_false, evG_some, putT_some, g1, opF_slice, if_true, evo, R.ok_bind, g8, g7, opF_ari, opF_builtin, evs, opF_assign, runOps_nil, builtin_append, binF_int, op_add_i64, hsub, h9, happ]
    with_reducible rfl
  show W tb0 _ _ _
  apply W.seq
  apply W.run 20
  · intro M
    simp (config := { maxSteps := 4000000 }) (disch := first | decide +kernel | omega) only [c37, Try.f37, Option.getD_some, sub_seq1, sub_seq0, sub_cond0, sub_nil, exec_region, runOps_cons, opF_move, ev_tmp, T.get_set, Nat.reduceEqDiff, if_false, if_true, evG_some, putT_some, g1, opF_slice, evo, R.ok_bind, g2, opF_builtin, evs, runOps_nil, cp37, h10, hc1]
    with_reducible rfl
  show W tb0 _ _ _
  apply W.seq
  apply W.run 20
  · intro M
    simp (config := { maxSteps := 4000000 }) (disch := first | decide +kernel | omega) only [c37, Try.f37, Option.getD_some, sub_seq1, sub_seq0, sub_cond0, sub_nil, exec_draw, runOps_cons, opF_move, ev_tmp, T.get_set, Nat.reduceEqDiff, if_false, if_true, evG_some, putT_some, g1, g7, opF_ari, opF_slice, evo, R.ok_bind, g0, opF_builtin, evs, runOps_nil, cp37, h12, binF_int, op_add_i64, h11, hc2]
    with_reducible rfl
  show W tb0 _ _ _
  apply W.run 20
  · intro M
    simp (config := { maxSteps := 4000000 }) (disch := first | decide +kernel | omega) only [c37, Try.f37, Option.getD_some, sub_seq1, sub_seq0, sub_cond0, sub_nil, exec_seq, exec_region, runOps_cons, opF_move, ev_tmp, T.get_set, Nat.reduceEqDiff, if_false, if_true, evG_some, putT_some, opF_assign, runOps_nil, R.ok_bind, exec_ret]
    with_reducible rfl
  refine ⟨.inr rfl, _, [y], rfl, ?_, rfl, rfl⟩
  simp only [Try.f37, resF, ev_tmp, T.get_set, Nat.reduceEqDiff, if_true, if_false, evG_some, R.ok_bind]

set_option maxHeartbeats 4000000 in
set_option maxRecDepth 20000 in
/-- Where there is. -/
theorem room37 (hi : i < n) (hn : n < 16777215) (hcn : ¬ c < n + 1) (ht : Sl t (insS x v i n)) (hcap : builtinPF tb0 .cap [32] [x] = .ok (.int .i64 (c : Int))) (h13 : sliceF tb0 32 x none (some (.int .i64 ((n + 1 : Nat) : Int))) none = .ok y)
    (h14 : sliceF tb0 32 y (some (.int .i64 ((i + 1 : Nat) : Int))) none none = .ok y11) (h55 : ∀ ih, callF tb0 ih (.fn 55 [v, y11]) A = .ok (.val (.bool false) A)) (h15 : sliceF tb0 32 y (some (.int .i64 (i : Int))) none none = .ok y10) (hc1 : copyF tb0 A 32 y11 y10 = .ok (r1, A2)) (hc2 : copyF tb0 A2 32 y10 v = .ok (r2, A3)) :
    W tb0 (.seq (.seq (sub c37 [1,1,1,1,1,0,0]) (sub c37 [1,1,1,1,1,0,1])) (sub c37 [1,1,1,1,1,1])) ⟨t, 95, [], A, none⟩ fun e s => (e = .nrm ∨ e = .ret) ∧ ∃ A2 vs, takeF s.d s.m = .ok A2 ∧ resF tb0 s.t A2.get Try.f37.results.toList = .ok vs ∧ (oneOf vs = y ∧ A2 = A3) := by
  obtain ⟨g0, g1, g2, g7, g8, -⟩ := ht
  have hne : ¬ i = n := by omega
  apply W.seq
  apply W.seq
  apply W.run 20
  · intro M
    simp (config := { maxSteps := 4000000 }) (disch := first | decide +kernel | omega) only [c37, Try.f37, Option.getD_some, sub_seq1, sub_seq0, sub_nil, exec_region, runOps_cons, opF_move, ev_tmp, g1, evG_some, putT_some, T.get_set, Nat.reduceEqDiff, g8, if_false, opF_eql, if_true, runOps_nil, R.ok_bind, binF_int, op_eql, hne, decide_false]
    with_reducible rfl
  show W tb0 _ _ _
  apply W.run 20
  · intro M
    simp (config := { maxSteps := 4000000 }) (disch := first | decide +kernel | omega) only [c37, Try.f37, Option.getD_some, sub_seq1, sub_seq0, sub_nil, exec_cond, ev_tmp, T.get_set, Nat.reduceEqDiff, if_false, if_true, evG_some, exec_seq, exec_region, runOps_cons, opF_move, putT_some, opF_builtin, evs, R.ok_bind, opF_assign, runOps_nil, builtin_append, exec_ret, exec_skip]
    with_reducible rfl
  show W tb0 _ _ _
  rw [c37_r]
  apply W.seq
  apply W.seq
  apply W.run 20
  · intro M
    simp (config := { maxSteps := 4000000 }) (disch := first | decide +kernel | omega) only [c37, Try.f37, Option.getD_some, sub_seq1, sub_seq0, sub_nil, exec_region, runOps_cons, opF_move, ev_tmp, T.get_set, Nat.reduceEqDiff, g8, if_false, evG_some, putT_some, g7, opF_ari, if_true, g0, opF_minmax, evs, R.ok_bind, runOps_nil, hcap, binF_int, op_add_i64, op_gtr, cast_lt, hcn, decide_false]
    with_reducible rfl
  show W tb0 _ _ _
  refine W.cond (p := false) ?_ (fun h => by cases h) (fun _ => ?_)
  · simp only [ev_tmp, T.get_set, Nat.reduceEqDiff, if_true, if_false, evG_some]
  apply W.run 20
  · intro M
    simp (config := { maxSteps := 4000000 }) (disch := first | decide +kernel | omega) only [exec_skip]
    with_reducible rfl
  show W tb0 _ _ _
  rw [c37_s]
  apply W.seq
  apply W.run 20
  · intro M
    simp (config := { maxSteps := 4000000 }) (disch := first | decide +kernel | omega) only [c37, Try.f37, Option.getD_some, sub_seq1, sub_seq0, sub_nil, exec_region, runOps_cons, opF_move, ev_tmp, T.get_set, Nat.reduceEqDiff, g0, if_false, evG_some, putT_some, g8, g7, opF_ari, if_true, opF_slice, evo, R.ok_bind, opF_assign, runOps_nil, binF_int, op_add_i64, h13]
    with_reducible rfl
  show W tb0 _ _ _
  apply W.seq
  apply W.seq
  apply W.run 20
  · intro M
    simp (config := { maxSteps := 4000000 }) (disch := first | decide +kernel | omega) only [c37, Try.f37, Option.getD_some, sub_seq1, sub_seq0, sub_nil, exec_region, runOps_cons, opF_move, ev_tmp, T.get_set, Nat.reduceEqDiff, g2, if_false, evG_some, putT_some, if_true, g1, g7, opF_ari, opF_slice, evo, R.ok_bind, opF_call, evs, resK, opF_un, runOps_nil, binF_int, op_add_i64, h14, h55, un_not, Bool.not_false]
    with_reducible rfl
  show W tb0 _ _ _
  refine W.cond (p := true) ?_ (fun _ => ?_) (fun h => by cases h)
  · simp only [ev_tmp, T.get_set, Nat.reduceEqDiff, if_true, if_false, evG_some]
  rw [c37_t]
  apply W.seq
  apply W.run 20
  · intro M
    simp (config := { maxSteps := 4000000 }) (disch := first | decide +kernel | omega) only [c37, Try.f37, Option.getD_some, sub_seq1, sub_seq0, sub_cond0, sub_nil, exec_draw, runOps_cons, opF_move, ev_tmp, T.get_set, Nat.reduceEqDiff, if_false, if_true, evG_some, putT_some, g1, g7, opF_ari, opF_slice, evo, R.ok_bind, opF_builtin, evs, runOps_nil, cp37, h15, binF_int, op_add_i64, h14, hc1]
    with_reducible rfl
  show W tb0 _ _ _
  apply W.seq
  apply W.run 20
  · intro M
    simp (config := { maxSteps := 4000000 }) (disch := first | decide +kernel | omega) only [c37, Try.f37, Option.getD_some, sub_seq1, sub_seq0, sub_cond0, sub_nil, exec_region, runOps_cons, opF_move, ev_tmp, T.get_set, Nat.reduceEqDiff, if_false, if_true, evG_some, putT_some, g1, opF_slice, evo, R.ok_bind, g2, opF_builtin, evs, runOps_nil, cp37, h15, hc2]
    with_reducible rfl
  show W tb0 _ _ _
  apply W.run 20
  · intro M
    simp (config := { maxSteps := 4000000 }) (disch := first | decide +kernel | omega) only [c37, Try.f37, Option.getD_some, sub_seq1, sub_seq0, sub_cond0, sub_nil, exec_seq, exec_region, runOps_cons, opF_move, ev_tmp, T.get_set, Nat.reduceEqDiff, if_false, if_true, evG_some, putT_some, opF_assign, runOps_nil, R.ok_bind, exec_ret]
    with_reducible rfl
  refine ⟨.inr rfl, _, [y], rfl, ?_, rfl, rfl⟩
  simp only [Try.f37, resF, ev_tmp, T.get_set, Nat.reduceEqDiff, if_true, if_false, evG_some, R.ok_bind]
end
end Go.Proofs.Ytnelkapmmgggdaa.mdl

/-
  Model: slices.Insert at entries is what its hook says.
-/
namespace Go.Proofs.Ytnelkapmmgggdaa.mdl
open Go.Am
set_option linter.unusedSimpArgs false
set_option linter.unusedVariables false
set_option linter.unusedVariables false

theorem run37 {x y v yy : Value} {i n : Nat} {A A' : Mem} (hsl : sliceF tb0 32 x (some (.int .i64 (i : Int))) none none = .ok y) (hlx : builtinPF tb0 .len [32] [x] = .ok (.int .i64 (n : Int))) (hlv : builtinPF tb0 .len [32] [v] = .ok (.int .i64 ((1 : Nat) : Int)))
    (h : ∀ t : T Value, Sl t (insS x v i n) → W tb0 (.seq (.seq (sub c37 [1,1,1,1,1,0,0]) (sub c37 [1,1,1,1,1,0,1])) (sub c37 [1,1,1,1,1,1])) ⟨t, 95, [], A, none⟩ fun e s => (e = .nrm ∨ e = .ret) ∧ ∃ A2 vs, takeF s.d s.m = .ok A2 ∧ resF tb0 s.t A2.get Try.f37.results.toList = .ok vs ∧ (oneOf vs = yy ∧ A2 = A')) :
    ∃ m, call tb0 m 37 [x, .int .i64 (i : Int), v] A = .ok (.val yy A') := by
  obtain ⟨v', A2, ⟨m, hm⟩, rfl, rfl⟩ := call_of_W (Q := fun v A2 => v = yy ∧ A2 = A') (fn_at Try.func37) c37_eq (by rw [Try.ntmps37]; simp) (pre37 (A := A) (K := fun e s => (e = .nrm ∨ e = .ret) ∧ ∃ A2 vs, takeF s.d s.m = .ok A2 ∧ resF tb0 s.t A2.get Try.f37.results.toList = .ok vs ∧ (oneOf vs = yy ∧ A2 = A')) hsl hlx hlv h)
  exact ⟨m, hm⟩

theorem insL_get {i n j : Nat} {old new : List Value} (hl : old.length = n * 3) (hn : new.length = 3) (hi : i ≤ n) : (insL 3 i old new)[j]? = if j < i * 3 then old[j]? else if j < (i + 1) * 3 then new[j - i * 3]? else (old.drop (i * 3))[j - (i + 1) * 3]? := by
  have ht : (old.take (i * 3)).length = i * 3 := by rw [List.length_take]; omega
  unfold insL
  by_cases h1 : j < i * 3
  · rw [if_pos h1, List.append_assoc, List.getElem?_append_left (by omega), List.getElem?_take_of_lt h1]
  · rw [if_neg h1]
    by_cases h2 : j < (i + 1) * 3
    · rw [if_pos h2, List.append_assoc, List.getElem?_append_right (by omega), ht, List.getElem?_append_left (by omega)]
    · rw [if_neg h2, List.getElem?_append_right (by rw [List.length_append]; omega), List.length_append, ht, hn, show i * 3 + 3 = (i + 1) * 3 by omega]
theorem insL_len {i n : Nat} {old new : List Value} (hl : old.length = n * 3) (hn : new.length = 3) (hi : i ≤ n) : (insL 3 i old new).length = (n + 1) * 3 := by
  unfold insL
  rw [List.length_append, List.length_append, List.length_take, List.length_drop]
  omega
theorem rep_len (z : List Value) : ∀ m, (repF z m).length = m * z.length
  | 0 => by simp [repF]
  | m + 1 => by
    unfold repF
    rw [List.length_append, rep_len z m, Nat.add_mul]
    omega
theorem get_some {c : T Value} {l : List Value} {o k : Nat} (h1 : o ≤ k) (h2 : k < o + l.length) : ∃ y, (T.puts c o l).get k = some y := by
  rw [T.get_puts, if_pos ⟨h1, h2⟩, List.getElem?_eq_getElem (by omega)]
  exact ⟨_, rfl⟩

theorem ins_says : InsSays tb0 37 45 3 := by
  obtain ⟨ti, hti, hb1, hb2⟩ := ty45
  refine ⟨?_, ?_, ?_, ?_⟩
  · intro A q new hq hql hq1 hqlt
    have h1 := app_first (A := A) (st := 32) (q := q) und32 zc45 hti hb1 hb2 (by decide) (by decide) hq hql
    have hsl : sliceF tb0 32 (.slice none 0 0) (some (.int .i64 ((0 : Nat) : Int))) none none = .ok (.slice none 0 0) := by
      have e1 : bound (some (.int .i64 ((0 : Nat) : Int))) 0 0 = .ok 0 := bound_some (Nat.le_refl _)
      unfold sliceF
      simp only [und32, bound_none, R.ok_bind, e1, size45]
    obtain ⟨m, hm⟩ := run37 (i := 0) (n := 0) hsl (len_slc und32) (len_slc und32) (fun t ht => end37 ht h1)
    exact ⟨m, _, hm, next_alloc _ _, vals_puts (get_alloc_self _ _), fun y hy _ => get_alloc_ne (by omega)⟩
  · intro A b q n old new hq hql hq1 hqlt hb hbl hbo hblt hbq hn0 hn
    have h1 := app_last (A := A) (st := 32) (q := q) (n := n) und32 zc45 hti hb1 hb2 (by decide) (by decide) hq hql hq1 hb hbl hn
    have hsl := slc_from (tb := tb0) (st := 32) (b := b) (n := n) (i := n) (k := mkX n 3) und32 size45 (Nat.le_refl _) (by rw [capN_mkX (by decide)]; exact Nat.le_refl _) (by unfold capFit; rw [capX_mkX, cond_false, capE_mkX (by decide)]; rfl) (by rw [capX_mkX]; rfl)
    obtain ⟨m, hm⟩ := run37 (i := n) (n := n) hsl (len_slc und32) (len_slc und32) (fun t ht => end37 ht h1)
    have e : insL 3 n old new = old ++ new := by
      unfold insL
      rw [List.take_of_length_le (by omega), List.drop_of_length_le (by omega), List.append_nil]
    rw [e]
    refine ⟨m, _, hm, rfl, vals_puts (get_alloc_self (A.set b .dead) _), fun y hy hyb => ?_⟩
    refine (get_alloc_ne (A := A.set b .dead) (show y ≠ A.next by omega)).trans ?_
    rw [get_setMem, if_neg (fun h => hyb (by rw [h]))]
  · intro A b q n i old new hq hql hq1 hqlt hb hbl hbo hblt hbq hi hn
    obtain ⟨cq, hgq, hcq⟩ := hq
    obtain ⟨cb, hgb, hcb⟩ := hb
    have hz : (repF [.string .empty, .int .u32 0, .bool false] (n + 1 - i)).length = (n + 1 - i) * 3 := by rw [rep_len]; rfl
    have h1 := app_grow (A := A) (st := 32) (it := 3) (b := b) (n := n) (i := i) und32 und3 zc45 hti hb1 hb2 (by decide) (by decide) ⟨cb, hgb, hcb⟩ hbl hi hn
    have hL : (old.take (i * 3) ++ repF [.string .empty, .int .u32 0, .bool false] (n + 1 - i)).length = (n + 1) * 3 := by
      rw [List.length_append, hz, List.length_take]; omega
    revert h1 hL
    generalize hLe : old.take (i * 3) ++ repF [.string .empty, .int .u32 0, .bool false] (n + 1 - i) = L
    intro h1 hL
    have hLg : ∀ j, j < i * 3 → L[j]? = old[j]? := fun j hj => by
      rw [← hLe, List.getElem?_append_left (by rw [List.length_take]; omega), List.getElem?_take_of_lt hj]
    have hne0 : ∀ k, k < n → Nat.beq n k = false := fun k hk => by
      cases h : Nat.beq n k with
      | false => rfl
      | true => have := Nat.eq_of_beq_eq_true h; omega
    have hsl := slc_from (tb := tb0) (st := 32) (b := b) (n := n) (i := i) (k := 2 * n) und32 size45 (by omega) (by rw [capN_two]; exact Nat.le_refl _) (by unfold capFit; rw [capX_two]; rfl) (by rw [capX_two, capN_two, hne0 _ hi]; rfl)
    have h9 := slc_to (tb := tb0) (st := 32) (b := b) (n := n) (i := i) (k := 2 * n) und32 size45 (by rw [capN_two]; omega) (by unfold capFit; rw [capX_two]; rfl) (by rw [capX_two, capN_two, hne0 _ (by omega)]; rfl)
    rw [capSub_two] at h9
    have hfit : capFit (mkX (n + 1) 3) 3 = true := by unfold capFit; rw [capX_mkX, cond_false, capE_mkX (by decide)]; rfl
    have hcN : capN (mkX (n + 1) 3) = n + 1 := capN_mkX (by decide)
    have h10 := slc_from (tb := tb0) (st := 32) (b := A.next) (n := n + 1) (i := i) (k := mkX (n + 1) 3) und32 size45 (by omega) (by rw [hcN]; exact Nat.le_refl _) hfit (by rw [capX_mkX]; rfl)
    have h11 := slc_from (tb := tb0) (st := 32) (b := A.next) (n := n + 1) (i := i + 1) (k := mkX (n + 1) 3) und32 size45 (by omega) (by rw [hcN]; exact Nat.le_refl _) hfit (by rw [capX_mkX]; rfl)
    have gN : (A.alloc (.cells 45 .row 0 (T.puts .e 0 L))).get A.next = some (.cells 45 .row 0 (T.puts .e 0 L)) := get_alloc_self _ _
    have hc1 := copy_at (tb := tb0) (A := A.alloc (.cells 45 .row 0 (T.puts .e 0 L))) (st := 32) (s := q) (d := A.next) (os := 0) (od := i * 3) (m := 1) (sl := 1) (dl := n + 1 - i) (cs' := 2) (cd' := capSub (mkX (n + 1) 3) i) (l := new) und32 size45
      ((get_alloc_ne (by omega)).trans hgq) gN (by rw [hql]) (fun j hj => by rw [Nat.zero_add]; exact hcq j hj) hq1 (by rw [Nat.ble_eq_true_of_le (show 1 ≤ n + 1 - i by omega)]; rfl) (fun h => by rw [h] at hql; cases hql)
      (fun j hj => .inl (get_some (by omega) (by omega)))
    obtain ⟨c2, hc2e⟩ : ∃ c2, c2 = T.puts (T.puts .e 0 L) (i * 3) new := ⟨_, rfl⟩
    rw [← hc2e] at hc1
    have hdl : (old.drop (i * 3)).length = (n - i) * 3 := by rw [List.length_drop]; omega
    have hg2b : ((A.alloc (.cells 45 .row 0 (T.puts .e 0 L))).set A.next (.cells 45 .row 0 c2)).get b = some (.cells 45 .row 0 cb) := by
      rw [get_setMem, if_neg (by omega)]
      exact (get_alloc_ne (by omega)).trans hgb
    have hg2N : ((A.alloc (.cells 45 .row 0 (T.puts .e 0 L))).set A.next (.cells 45 .row 0 c2)).get A.next = some (.cells 45 .row 0 c2) := by
      rw [get_setMem, if_pos rfl]
    have hc2 := copy_at (tb := tb0) (A := (A.alloc (.cells 45 .row 0 (T.puts .e 0 L))).set A.next (.cells 45 .row 0 c2)) (st := 32) (s := b) (d := A.next) (os := i * 3) (od := (i + 1) * 3) (m := n - i) (sl := n - i) (dl := n + 1 - (i + 1)) (cs' := capSub (2 * n) i) (cd' := capSub (mkX (n + 1) 3) (i + 1)) (l := old.drop (i * 3)) und32 size45
      hg2b hg2N hdl (fun j hj => by rw [hcb _ (by rw [hdl] at hj; omega), List.getElem?_drop]) (fun v hv => hbo v (List.mem_of_mem_drop hv)) (by rw [Nat.ble_eq_true_of_le (show n - i ≤ n + 1 - (i + 1) by omega)]; rfl) (fun h => by rw [h] at hdl; simp only [List.length_nil] at hdl; omega)
      (fun j hj => .inl (by
        rw [hdl] at hj
        rw [hc2e, T.get_puts, if_neg (by rw [hql]; omega)]
        exact get_some (by omega) (by omega)))
    obtain ⟨m, hm⟩ := run37 (i := i) (n := n) hsl (len_slc und32) (len_slc und32) (fun t ht => grow37 hi hn (by omega) ht cap37 h9 h1 h10 hc1 h11 hsl hc2)
    refine ⟨m, _, hm, rfl, ⟨_, by rw [get_setMem, if_pos rfl], fun j hj => ?_⟩, fun y hy hyb => ?_⟩
    · rw [insL_len hbl hql (by omega)] at hj
      rw [insL_get hbl hql (by omega), T.get_puts, hdl]
      by_cases j1 : j < i * 3
      · rw [if_pos j1, if_neg (by omega), hc2e, T.get_puts, hql, if_neg (by omega), T.get_puts, if_pos (by omega), Nat.sub_zero, hLg j j1]
      · rw [if_neg j1]
        by_cases j2 : j < (i + 1) * 3
        · rw [if_pos j2, if_neg (by omega), hc2e, T.get_puts, hql, if_pos (by omega)]
        · rw [if_neg j2, if_pos (by omega)]
    · rw [get_setMem, if_neg (by omega), get_setMem, if_neg (by omega)]
      exact get_alloc_ne (by omega)
  · intro A b q n i c old new hq hql hq1 hqlt hb hbl hbo hblt hbq hi hn hcap hc63
    obtain ⟨cq, hgq, hcq⟩ := hq
    obtain ⟨cb, hgb, hcb⟩ := hb
    have hne0 : ∀ k, k < c → Nat.beq c k = false := fun k hk => by
      cases h : Nat.beq c k with
      | false => rfl
      | true => have := Nat.eq_of_beq_eq_true h; omega
    have hfit : capFit (2 * c) 3 = true := by unfold capFit; rw [capX_two]; rfl
    have hsl := slc_from (tb := tb0) (st := 32) (b := b) (n := n) (i := i) (k := 2 * c) und32 size45 (by omega) (by rw [capN_two]; omega) hfit (by rw [capX_two, capN_two, hne0 _ (by omega)]; rfl)
    have h13 := slc_to (tb := tb0) (st := 32) (b := b) (n := n) (i := n + 1) (k := 2 * c) und32 size45 (by rw [capN_two]; omega) hfit (by rw [capX_two, capN_two, hne0 _ (by omega)]; rfl)
    rw [capSub_two] at h13
    have h14 := slc_from (tb := tb0) (st := 32) (b := b) (n := n + 1) (i := i + 1) (k := 2 * c) und32 size45 (by omega) (by rw [capN_two]; omega) hfit (by rw [capX_two, capN_two, hne0 _ (by omega)]; rfl)
    have h15 := slc_from (tb := tb0) (st := 32) (b := b) (n := n + 1) (i := i) (k := 2 * c) und32 size45 (by omega) (by rw [capN_two]; omega) hfit (by rw [capX_two, capN_two, hne0 _ (by omega)]; rfl)
    have hc0 : cb.get 0 = some old[0] := by rw [hcb 0 (by omega), List.getElem?_eq_getElem (by omega)]
    have hdl : (old.drop (i * 3)).length = (n - i) * 3 := by rw [List.length_drop]; omega
    have hroom : roomK (.room ((n + 1) * 3)) = (n + 1) * 3 := rfl
    have hc1 := copy_at (tb := tb0) (A := A) (st := 32) (s := b) (d := b) (os := i * 3) (od := (i + 1) * 3) (m := n - i) (sl := n + 1 - i) (dl := n + 1 - (i + 1)) (cs' := capSub (2 * c) i) (cd' := capSub (2 * c) (i + 1)) (l := old.drop (i * 3)) und32 size45
      hgb hgb hdl (fun j hj => by rw [hcb _ (by rw [hdl] at hj; omega), List.getElem?_drop]) (fun v hv => hbo v (List.mem_of_mem_drop hv)) (by
        have : Nat.ble (n + 1 - i) (n + 1 - (i + 1)) = false := by
          cases h : Nat.ble (n + 1 - i) (n + 1 - (i + 1)) with
          | false => rfl
          | true => have := Nat.le_of_ble_eq_true h; omega
        rw [this, cond_false]; omega) (fun h => by rw [h] at hdl; simp only [List.length_nil] at hdl; omega)
      (fun j hj => .inr (by rw [hroom]; rw [hdl] at hj; omega))
    obtain ⟨c2, hc2e⟩ : ∃ c2, c2 = T.puts cb ((i + 1) * 3) (old.drop (i * 3)) := ⟨_, rfl⟩
    rw [← hc2e] at hc1
    have hc2 := copy_at (tb := tb0) (A := A.set b (.cells 45 (.room ((n + 1) * 3)) 0 c2)) (st := 32) (s := q) (d := b) (os := 0) (od := i * 3) (m := 1) (sl := 1) (dl := n + 1 - i) (cs' := 2) (cd' := capSub (2 * c) i) (l := new) und32 size45
      (by rw [get_setMem, if_neg hbq.symm]; exact hgq) (by rw [get_setMem, if_pos rfl]) (by rw [hql]) (fun j hj => by rw [Nat.zero_add]; exact hcq j hj) hq1 (by rw [Nat.ble_eq_true_of_le (show 1 ≤ n + 1 - i by omega)]; rfl) (fun h => by rw [h] at hql; cases hql)
      (fun j hj => .inr (by rw [hroom]; omega))
    obtain ⟨m, hm⟩ := run37 (i := i) (n := n) hsl (len_slc und32) (len_slc und32) (fun t ht => room37 hi hn (by omega) ht cap37 h13 h14 (fun ih => k55 hgq hgb hc0 hbq) h15 hc1 hc2)
    refine ⟨m, _, hm, rfl, ⟨_, by rw [get_setMem, if_pos rfl], fun j hj => ?_⟩, fun y hy => ?_⟩
    · rw [insL_len hbl hql (by omega)] at hj
      rw [insL_get hbl hql (by omega), T.get_puts, hql]
      by_cases j1 : j < i * 3
      · rw [if_pos j1, if_neg (by omega), hc2e, T.get_puts, hdl, if_neg (by omega), hcb j (by omega)]
      · rw [if_neg j1]
        by_cases j2 : j < (i + 1) * 3
        · rw [if_pos j2, if_pos (by omega)]
        · rw [if_neg j2, if_neg (by omega), hc2e, T.get_puts, hdl, if_pos (by omega)]
    · rw [get_setMem, if_neg hy, get_setMem, if_neg hy]

theorem hook_ins : HookOk tb0.P 37 (insHook 45 3) := ins_ok tb0_ok (fn_at Try.func37) (c := c37) (by kernel_rfl) (by decide) ins_says
end Go.Proofs.Ytnelkapmmgggdaa.mdl

/-
  Model: words are compared; an entry and a word.
-/
namespace Go.Proofs.Ytnelkapmmgggdaa.mdl
open Go.Am Go.Mdl
set_option linter.unusedSimpArgs false
set_option linter.unusedVariables false
set_option linter.unusedVariables false

/-- A function of plain values is known by what it answers over the empty memory. -/
theorem hook_at {f : FuncId} {fn : Func} {c : Code} (hf : tb0.fn.get f = some fn) (hb : fn.body = some c) {tb : Tab} (ok : TabOk tb) (hP : tb.P = tb0.P) (hfn : tb.fn.get f = tb0.fn.get f) {sp : List Value → Option Value}
    (h : ∀ args v, sp args = some v → (∀ x ∈ args, flat 9 x = true) ∧ flat 9 v = true ∧ ∃ A1, CallsTo tb f args mem0 v A1) : HookOk tb.P f (pureHook sp) := by
  refine hook_pure ok (hfn.trans hf) hb fun args v hs => ?_
  obtain ⟨h1, h2, A1, n, h3⟩ := h args v hs
  exact ⟨h1, h2, n, A1, h3⟩

noncomputable def tb1 : Tab := (tb0.know 6 (pureHook worksK)).know 37 (insHook 45 3)
theorem tb1_ok : TabOk tb1 := know_ok (know_ok tb0_ok hook_works) hook_ins

theorem ev_m1 {t : T Value} : ev t (Operand.const (Value.int .i64 (-1))) = .ok (.int .i64 (-1)) := rfl
def cmpI (a b : List UInt8) : Int := if bytesLt a b = true then -1 else if bytesLt b a = true then 1 else 0
theorem gtr_lt (a b : List UInt8) : (!(bytesLt a b || bytesEq a b)) = bytesLt b a := by
  cases h1 : bytesLt b a with
  | true =>
    have h2 : bytesLt a b = false := by
      cases h : bytesLt a b with
      | false => rfl
      | true => have := bytesLt_trans _ _ _ h h1; rw [bytesLt_irr] at this; cases this
    have h3 : bytesEq a b = false := by
      rw [bytesEq_eq]
      refine beq_eq_false_iff_ne.2 fun e => ?_
      rw [e, bytesLt_irr] at h1; cases h1
    rw [h2, h3]; rfl
  | false =>
    cases h2 : bytesLt a b with
    | true => rfl
    | false =>
      obtain rfl := bytesLt_tri _ _ h2 h1
      rw [bytesEq_eq]
      simp
noncomputable def c66 : Code := Try.f66.body.getD .skip
theorem c66_eq : Try.f66.body = some (.seq (sub c66 [0]) (.seq (sub c66 [1,0]) (sub c66 [1,1]))) := by kernel_rfl
theorem run_nan (a : List UInt8) : ∃ A', CallsTo tb1 66 [strOf a] mem0 (.bool false) A' := by
  obtain ⟨v, A', h1, h2'⟩ : ∃ v A', CallsTo tb1 66 [strOf a] mem0 v A' ∧ v = .bool false := by
    refine call_of_W (fn_at Try.func66) c66_eq (by rw [Try.ntmps66]; simp) ?_
    have e : strOpF .neq a a = .ok (.bool false) := by rw [str_neq]; simp
    apply W.seq
    apply W.run 20
    · intro M
      simp (config := { maxSteps := 4000000 }) (disch := first | decide +kernel | omega) only [c66, Try.f66, Option.getD_some, sub_seq0, sub_nil, T.puts_cons, Nat.reduceAdd, T.puts_nil, exec_region, runOps_cons, opF_assign, ev_bool, putT_some, runOps_nil, R.ok_bind]
      with_reducible rfl
    show W tb1 _ _ _
    apply W.seq
    apply W.run 20
    · intro M
      simp (config := { maxSteps := 4000000 }) (disch := first | decide +kernel | omega) only [c66, Try.f66, Option.getD_some, sub_seq1, sub_seq0, sub_nil, exec_region, runOps_cons, opF_move, ev_tmp, T.get_set, Nat.reduceEqDiff, T.get_e, if_true, if_false, evG_some, putT_some, opF_neq, opF_assign, runOps_nil, R.ok_bind, binF_str, e]
      with_reducible rfl
    show W tb1 _ _ _
    apply W.run 20
    · intro M
      simp (config := { maxSteps := 4000000 }) (disch := first | decide +kernel | omega) only [c66, Try.f66, Option.getD_some, sub_seq1, sub_nil, exec_ret]
      with_reducible rfl
    refine ⟨.inr rfl, _, [.bool false], rfl, ?_, rfl⟩
    simp only [Try.f66, resF, ev_tmp, T.get_set, Nat.reduceEqDiff, if_true, if_false, evG_some, R.ok_bind]
  exact ⟨A', h2' ▸ h1⟩
def nanK : List Value → Option Value
  | [.string s] => some (.bool false)
  | _ => none
theorem hook_nan : HookOk tb1.P 66 (pureHook nanK) := by
  refine hook_at (fn_at Try.func66) c66_eq tb1_ok rfl rfl fun args v h => ?_
  unfold nanK at h
  split at h
  · rename_i s
    cases h
    obtain ⟨A', h⟩ := run_nan s.data.toList
    exact ⟨by simp [flat], rfl, A', by rw [string_eq]; exact h⟩
  · cases h
noncomputable def tb2 : Tab := tb1.know 66 (pureHook nanK)
theorem tb2_ok : TabOk tb2 := know_ok tb1_ok hook_nan
theorem k66 {ih : Code → St → R (Ex × St)} {A : Mem} {a : List UInt8} : callF tb2 ih (.fn 66 [strOf a]) A = .ok (.val (.bool false) A) :=
  callF_known (c := (Try.f66.body).getD .skip) (fn_at Try.func66) (by kernel_rfl) (by kernel_rfl) (h := pureHook nanK) (by kernel_rfl) rfl

noncomputable def c54 : Code := Try.f54.body.getD .skip
theorem c54_eq : Try.f54.body = some (.seq (sub c54 [0]) (.seq (sub c54 [1,0]) (.seq (sub c54 [1,1,0]) (.seq (sub c54 [1,1,1,0]) (.seq (sub c54 [1,1,1,1,0]) (.seq (.seq (sub c54 [1,1,1,1,1,0,0]) (sub c54 [1,1,1,1,1,0,1])) (.seq (.seq (sub c54 [1,1,1,1,1,1,0,0]) (sub c54 [1,1,1,1,1,1,0,1])) (sub c54 [1,1,1,1,1,1,1])))))))) := by kernel_rfl
set_option maxHeartbeats 4000000 in
set_option maxRecDepth 20000 in
theorem run_cmp (a b : List UInt8) : ∃ A', CallsTo tb2 54 [strOf a, strOf b] mem0 (.int .i64 (cmpI a b)) A' := by
  obtain ⟨v, A', h1, h2'⟩ : ∃ v A', CallsTo tb2 54 [strOf a, strOf b] mem0 v A' ∧ v = .int .i64 (cmpI a b) := by
    refine call_of_W (fn_at Try.func54) c54_eq (by rw [Try.ntmps54]; simp) ?_
    apply W.seq
    apply W.run 20
    · intro M
      simp (config := { maxSteps := 4000000 }) (disch := first | decide +kernel | omega) only [c54, Try.f54, Option.getD_some, sub_seq0, sub_nil, T.puts_cons, Nat.reduceAdd, T.puts_nil, exec_region, runOps_cons, opF_assign, ev_int, putT_some, runOps_nil, R.ok_bind]
      with_reducible rfl
    show W tb2 _ _ _
    apply W.seq
    apply W.run 20
    · intro M
      simp (config := { maxSteps := 4000000 }) (disch := first | decide +kernel | omega) only [c54, Try.f54, Option.getD_some, sub_seq1, sub_seq0, sub_nil, exec_region, runOps_cons, opF_move, ev_tmp, T.get_set, Nat.reduceEqDiff, T.get_e, if_true, if_false, evG_some, putT_some, opF_call, evs, R.ok_bind, resK, opF_assign, runOps_nil, k66]
      with_reducible rfl
    show W tb2 _ _ _
    apply W.seq
    apply W.run 20
    · intro M
      simp (config := { maxSteps := 4000000 }) (disch := first | decide +kernel | omega) only [c54, Try.f54, Option.getD_some, sub_seq1, sub_seq0, sub_nil, exec_region, runOps_cons, opF_move, ev_tmp, T.get_set, Nat.reduceEqDiff, T.get_e, if_false, if_true, evG_some, putT_some, opF_call, evs, R.ok_bind, resK, opF_assign, runOps_nil, k66]
      with_reducible rfl
    show W tb2 _ _ _
    apply W.seq
    apply W.run 20
    · intro M
      simp (config := { maxSteps := 4000000 }) (disch := first | decide +kernel | omega) only [c54, Try.f54, Option.getD_some, sub_seq1, sub_seq0, sub_nil, exec_seq, exec_region, runOps_cons, opF_move, ev_tmp, T.get_set, Nat.reduceEqDiff, T.get_e, if_false, if_true, evG_some, putT_some, runOps_nil, R.ok_bind, exec_cond, opF_assign, ev_int, exec_ret, exec_skip]
      with_reducible rfl
    show W tb2 _ _ _
    apply W.seq
    apply W.run 20
    · intro M
      simp (config := { maxSteps := 4000000 }) (disch := first | decide +kernel | omega) only [c54, Try.f54, Option.getD_some, sub_seq1, sub_seq0, sub_nil, exec_seq, exec_region, runOps_cons, opF_move, ev_tmp, T.get_set, Nat.reduceEqDiff, T.get_e, if_false, if_true, evG_some, putT_some, runOps_nil, R.ok_bind, exec_cond, opF_assign, ev_int, exec_ret, exec_skip]
      with_reducible rfl
    show W tb2 _ _ _
    apply W.seq
    apply W.seq
    cases hl : bytesLt a b with
    | true =>
      have e : strOpF .lss a b = .ok (.bool true) := by show R.ok (Value.bool (bytesLt a b)) = _; rw [hl]
      apply W.run 20
      · intro M
        simp (config := { maxSteps := 4000000 }) (disch := first | decide +kernel | omega) only [c54, Try.f54, Option.getD_some, sub_seq1, sub_seq0, sub_nil, exec_region, runOps_cons, opF_move, ev_tmp, T.get_set, Nat.reduceEqDiff, T.get_e, if_true, if_false, evG_some, putT_some, opF_ari, runOps_nil, R.ok_bind, binF_str, e]
        with_reducible rfl
      show W tb2 _ _ _
      apply W.run 20
      · intro M
        simp (config := { maxSteps := 4000000 }) (disch := first | decide +kernel | omega) only [c54, Try.f54, Option.getD_some, sub_seq1, sub_seq0, sub_nil, exec_cond, ev_tmp, T.get_set, Nat.reduceEqDiff, T.get_e, if_false, if_true, evG_some, exec_seq, exec_region, runOps_cons, opF_assign, ev_m1, putT_some, runOps_nil, R.ok_bind, exec_ret, exec_skip]
        with_reducible rfl
      refine ⟨.inr rfl, _, [.int .i64 (-1)], rfl, ?_, ?_⟩
      · simp only [Try.f54, resF, ev_tmp, T.get_set, Nat.reduceEqDiff, if_true, if_false, evG_some, R.ok_bind]
      · unfold cmpI; rw [if_pos hl]; rfl
    | false =>
      have e : strOpF .lss a b = .ok (.bool false) := by show R.ok (Value.bool (bytesLt a b)) = _; rw [hl]
      apply W.run 20
      · intro M
        simp (config := { maxSteps := 4000000 }) (disch := first | decide +kernel | omega) only [c54, Try.f54, Option.getD_some, sub_seq1, sub_seq0, sub_nil, exec_region, runOps_cons, opF_move, ev_tmp, T.get_set, Nat.reduceEqDiff, T.get_e, if_true, if_false, evG_some, putT_some, opF_ari, runOps_nil, R.ok_bind, binF_str, e]
        with_reducible rfl
      show W tb2 _ _ _
      apply W.run 20
      · intro M
        simp (config := { maxSteps := 4000000 }) (disch := first | decide +kernel | omega) only [c54, Try.f54, Option.getD_some, sub_seq1, sub_seq0, sub_nil, exec_cond, ev_tmp, T.get_set, Nat.reduceEqDiff, T.get_e, if_false, if_true, evG_some, exec_seq, exec_region, runOps_cons, opF_assign, putT_some, runOps_nil, exec_ret, exec_skip, R.ok_bind]
        with_reducible rfl
      show W tb2 _ _ _
      apply W.seq
      apply W.seq
      cases hg : bytesLt b a with
      | true =>
        have e2 : strOpF .gtr a b = .ok (.bool true) := by show R.ok (Value.bool (!(bytesLt a b || bytesEq a b))) = _; rw [gtr_lt, hg]
        apply W.run 20
        · intro M
          simp (config := { maxSteps := 4000000 }) (disch := first | decide +kernel | omega) only [c54, Try.f54, Option.getD_some, sub_seq1, sub_seq0, sub_nil, exec_region, runOps_cons, opF_move, ev_tmp, T.get_set, Nat.reduceEqDiff, T.get_e, if_true, if_false, evG_some, putT_some, opF_ari, runOps_nil, R.ok_bind, binF_str, e2]
          with_reducible rfl
        show W tb2 _ _ _
        apply W.run 20
        · intro M
          simp (config := { maxSteps := 4000000 }) (disch := first | decide +kernel | omega) only [c54, Try.f54, Option.getD_some, sub_seq1, sub_seq0, sub_nil, exec_cond, ev_tmp, T.get_set, Nat.reduceEqDiff, T.get_e, if_false, if_true, evG_some, exec_seq, exec_region, runOps_cons, opF_assign, ev_int, putT_some, runOps_nil, R.ok_bind, exec_ret, exec_skip]
          with_reducible rfl
        refine ⟨.inr rfl, _, [.int .i64 1], rfl, ?_, ?_⟩
        · simp only [Try.f54, resF, ev_tmp, T.get_set, Nat.reduceEqDiff, if_true, if_false, evG_some, R.ok_bind]; try rfl
        · unfold cmpI; rw [hl, hg]; rfl
      | false =>
        have e2 : strOpF .gtr a b = .ok (.bool false) := by show R.ok (Value.bool (!(bytesLt a b || bytesEq a b))) = _; rw [gtr_lt, hg]
        apply W.run 20
        · intro M
          simp (config := { maxSteps := 4000000 }) (disch := first | decide +kernel | omega) only [c54, Try.f54, Option.getD_some, sub_seq1, sub_seq0, sub_nil, exec_region, runOps_cons, opF_move, ev_tmp, T.get_set, Nat.reduceEqDiff, T.get_e, if_true, if_false, evG_some, putT_some, opF_ari, runOps_nil, R.ok_bind, binF_str, e2]
          with_reducible rfl
        show W tb2 _ _ _
        apply W.run 20
        · intro M
          simp (config := { maxSteps := 4000000 }) (disch := first | decide +kernel | omega) only [c54, Try.f54, Option.getD_some, sub_seq1, sub_seq0, sub_nil, exec_cond, ev_tmp, T.get_set, Nat.reduceEqDiff, T.get_e, if_false, if_true, evG_some, exec_seq, exec_region, runOps_cons, opF_assign, ev_int, putT_some, runOps_nil, R.ok_bind, exec_ret, exec_skip]
          with_reducible rfl
        show W tb2 _ _ _
        apply W.run 20
        · intro M
          simp (config := { maxSteps := 4000000 }) (disch := first | decide +kernel | omega) only [c54, Try.f54, Option.getD_some, sub_seq1, sub_nil, exec_seq, exec_region, runOps_cons, opF_assign, ev_int, putT_some, runOps_nil, R.ok_bind, exec_ret]
          with_reducible rfl
        refine ⟨.inr rfl, _, [.int .i64 0], rfl, ?_, ?_⟩
        · simp only [Try.f54, resF, ev_tmp, T.get_set, Nat.reduceEqDiff, if_true, if_false, evG_some, R.ok_bind]; try rfl
        · unfold cmpI; rw [hl, hg]; rfl
  exact ⟨A', h2' ▸ h1⟩
def cmpK : List Value → Option Value
  | [.string s, .string t] => some (.int .i64 (cmpI s.data.toList t.data.toList))
  | _ => none
theorem hook_cmp : HookOk tb2.P 54 (pureHook cmpK) := by
  refine hook_at (fn_at Try.func54) c54_eq tb2_ok rfl rfl fun args v h => ?_
  unfold cmpK at h
  split at h
  · rename_i s t
    cases h
    obtain ⟨A', h⟩ := run_cmp s.data.toList t.data.toList
    exact ⟨by simp [flat], rfl, A', by rw [string_eq s, string_eq t]; exact h⟩
  · cases h
noncomputable def tb3 : Tab := tb2.know 54 (pureHook cmpK)
theorem tb3_ok : TabOk tb3 := know_ok tb2_ok hook_cmp
theorem k54 {ih : Code → St → R (Ex × St)} {A : Mem} {a b : List UInt8} : callF tb3 ih (.fn 54 [strOf a, strOf b]) A = .ok (.val (.int .i64 (cmpI a b)) A) :=
  callF_known (c := (Try.f54.body).getD .skip) (fn_at Try.func54) (by kernel_rfl) (by kernel_rfl) (h := pureHook cmpK) (by kernel_rfl) rfl
end Go.Proofs.Ytnelkapmmgggdaa.mdl

/-
  Model: an entry and a word.
-/
namespace Go.Proofs.Ytnelkapmmgggdaa.mdl
open Go.Am Go.Mdl
set_option linter.unusedSimpArgs false
set_option linter.unusedVariables false
set_option linter.unusedVariables false

theorem und9 : tb3.und 9 = some .string := by kernel_rfl
theorem und45 : ∃ d, tb3.und 45 = some d ∧ isAggD d = true := by
  cases h : tb3.und 45 with
  | none => exact absurd (show (tb3.und 45).isSome = true by kernel_rfl) (by rw [h]; decide)
  | some d =>
    have e : (tb3.und 45).map isAggD = some true := by kernel_rfl
    rw [h, Option.map_some, Option.some.injEq] at e
    exact ⟨d, rfl, e⟩
/-- An entry's cells. -/
def entC (e : EntD) : List Value := [strOf e.word, .int .u32 (e.weight : Int), .bool e.gone]
noncomputable def c36 : Code := Try.f36.body.getD .skip
theorem c36_eq : Try.f36.body = some (.seq (sub c36 [0]) (.seq (sub c36 [1,0]) (sub c36 [1,1]))) := by kernel_rfl
theorem fa45 {b o j : Nat} (h : j < 3) : fieldAddrF tb3 45 (.pointer (some ⟨b, o, none⟩)) j = .ok (.pointer (some ⟨b, o + j, none⟩)) := by
  rcases (show j = 0 ∨ j = 1 ∨ j = 2 by omega) with rfl | rfl | rfl <;> kernel_rfl
set_option maxHeartbeats 4000000 in
set_option maxRecDepth 20000 in
theorem run_by (a w : List UInt8) (k : Int) (g : Bool) : ∃ A', CallsTo tb3 36 [.agg ⟨[strOf a, .int .u32 k, .bool g]⟩, strOf w] mem0 (.int .i64 (cmpI a w)) A' := by
  obtain ⟨v, A', h1, h2'⟩ : ∃ v A', CallsTo tb3 36 [.agg ⟨[strOf a, .int .u32 k, .bool g]⟩, strOf w] mem0 v A' ∧ v = .int .i64 (cmpI a w) := by
    refine call_of_W (fn_at Try.func36) c36_eq (by rw [Try.ntmps36]; simp) ?_
    have hf := fa45 (b := mem0.next) (o := 0) (j := 0) (by decide)
    have hl : loadF tb3 (mem0.alloc (rowOb 45 [strOf a, .int .u32 k, .bool g])).get 9 (.pointer (some ⟨mem0.next, 0, none⟩)) = .ok (strOf a) := load_vals und9 rfl (vals_puts (get_alloc_self _ _)) rfl
    apply W.seq
    apply W.run 20
    · intro M
      simp (config := { maxSteps := 4000000 }) (disch := first | decide +kernel | omega) only [c36, Try.f36, Option.getD_some, sub_seq0, sub_nil, T.puts_cons, Nat.reduceAdd, T.puts_nil, exec_region, runOps_cons, opF_box, ev_tmp, T.get_set, Nat.reduceEqDiff, T.get_e, if_true, if_false, evG_some, at_ptr, putT_some, opF_assign, ev_int, runOps_nil, R.ok_bind, cells_agg]
      with_reducible rfl
    show W tb3 _ _ _
    apply W.seq
    apply W.run 20
    · intro M
      simp (config := { maxSteps := 4000000 }) (disch := first | decide +kernel | omega) only [c36, Try.f36, Option.getD_some, sub_seq1, sub_seq0, sub_nil, exec_region, runOps_cons, opF_fieldAddr, ev_tmp, T.get_set, Nat.reduceEqDiff, T.get_e, if_false, if_true, evG_some, putT_some, opF_load, opF_move, opF_call, evs, R.ok_bind, resK, opF_assign, runOps_nil, hf, Nat.reduceAdd, hl, k54]
      with_reducible rfl
    show W tb3 _ _ _
    apply W.run 20
    · intro M
      simp (config := { maxSteps := 4000000 }) (disch := first | decide +kernel | omega) only [c36, Try.f36, Option.getD_some, sub_seq1, sub_nil, exec_ret]
      with_reducible rfl
    refine ⟨.inr rfl, _, [.int .i64 (cmpI a w)], rfl, ?_, rfl⟩
    simp only [Try.f36, resF, ev_tmp, T.get_set, Nat.reduceEqDiff, if_true, if_false, evG_some, R.ok_bind]
  exact ⟨A', h2' ▸ h1⟩
def byK : List Value → Option Value
  | [.agg ⟨[.string s, .int .u32 _, .bool _]⟩, .string t] => some (.int .i64 (cmpI s.data.toList t.data.toList))
  | _ => none
theorem hook_by : HookOk tb3.P 36 (pureHook byK) := by
  refine hook_at (fn_at Try.func36) c36_eq tb3_ok rfl rfl fun args v h => ?_
  unfold byK at h
  split at h
  · rename_i s k g t
    cases h
    obtain ⟨A', h⟩ := run_by s.data.toList t.data.toList k g
    exact ⟨by simp [flat], rfl, A', by rw [string_eq s, string_eq t]; exact h⟩
  · cases h
noncomputable def tb4 : Tab := tb3.know 36 (pureHook byK)
theorem tb4_ok : TabOk tb4 := know_ok tb3_ok hook_by
theorem k36 {ih : Code → St → R (Ex × St)} {A : Mem} {e : EntD} {w : List UInt8} : callF tb4 ih (.fn 36 [.agg ⟨entC e⟩, strOf w]) A = .ok (.val (.int .i64 (cmpI e.word w)) A) :=
  callF_known (c := (Try.f36.body).getD .skip) (fn_at Try.func36) (by kernel_rfl) (by kernel_rfl) (h := pureHook byK) (by kernel_rfl) rfl
end Go.Proofs.Ytnelkapmmgggdaa.mdl

/-
  Model: where a word stands in a list.
-/
namespace Go.Proofs.Ytnelkapmmgggdaa.mdl
open Go.Am Go.Mdl
set_option linter.unusedSimpArgs false
set_option linter.unusedVariables false
set_option linter.unusedVariables false

theorem und32' : tb4.und 32 = some (.slice 45) := by kernel_rfl
theorem size45' : sizeF tb4 45 = .ok 3 := by kernel_rfl
set_option maxRecDepth 20000 in
theorem und45' : ∃ d, tb4.und 45 = some d ∧ isAggD d = true := und45
theorem und3' : tb4.und 3 = some (.int .i64) := by kernel_rfl
theorem und108 : tb4.und 108 = some (.int .u64) := by kernel_rfl
theorem to_u {m : Nat} (h : m < 9223372036854775808) : convPF tb4 3 108 (.int .i64 (m : Int)) = .ok (.int .u64 (m : Int)) := by
  unfold convPF
  simp only [und3', und108]
  rw [Go.Am.wrapF_u64 (by omega)]
theorem to_i {m : Nat} (h : m < 9223372036854775808) : convPF tb4 108 3 (.int .u64 (m : Int)) = .ok (.int .i64 (m : Int)) := by
  unfold convPF
  simp only [und3', und108]
  rw [wrapF_i64 (by omega)]
theorem shr1 {m : Nat} {d : Option TypeDesc} : binF .shr d (.int .u64 (m : Int)) (.int .u64 ((1 : Nat) : Int)) = .ok (.int .u64 ((m / 2 : Nat) : Int)) := by
  rw [binF_shr (by decide), Nat.shiftRight_succ, Nat.shiftRight_zero]
abbrev EntS (A : Mem) (b : Nat) (l : List EntD) (x : Value) : Prop := SlcM A 45 3 b (l.map entC) x
/-- So many words are less. -/
def Pos (l : List EntD) (w : List UInt8) (i : Nat) : Prop := i ≤ l.length ∧ (∀ k e, k < i → l[k]? = some e → lt e.word w) ∧ ∀ k e, i ≤ k → l[k]? = some e → ¬ lt e.word w
theorem asc_get : ∀ {l : List EntD} {i j : Nat} {x y : EntD}, Asc l → i < j → l[i]? = some x → l[j]? = some y → lt x.word y.word
  | [], _, _, _, _, _, _, h, _ => by simp at h
  | a :: l, 0, j + 1, x, y, h, _, hx, hy => by
    simp only [List.getElem?_cons_zero, Option.some.injEq] at hx
    subst hx
    exact h.1 y (List.mem_of_getElem? (by simpa using hy))
  | a :: l, i + 1, j + 1, x, y, h, hij, hx, hy => asc_get (l := l) (i := i) (j := j) h.2 (by omega) (by rwa [List.getElem?_cons_succ] at hx) (by rwa [List.getElem?_cons_succ] at hy)
theorem cmpI_neg {a b : List UInt8} : cmpI a b < 0 ↔ lt a b := by
  unfold cmpI lt
  by_cases h : bytesLt a b = true
  · rw [if_pos h]; simp [h]
  · rw [if_neg h]
    by_cases h2 : bytesLt b a = true
    · rw [if_pos h2]; simp [h]
    · rw [if_neg h2]; simp [h]
theorem cmpI_zero {a b : List UInt8} : cmpI a b = 0 ↔ a = b := by
  unfold cmpI
  by_cases h : bytesLt a b = true
  · rw [if_pos h]
    refine ⟨fun h => by simp at h, fun e => ?_⟩
    rw [e, bytesLt_irr] at h; cases h
  · rw [if_neg h]
    by_cases h2 : bytesLt b a = true
    · rw [if_pos h2]
      refine ⟨fun h => by simp at h, fun e => ?_⟩
      rw [e, bytesLt_irr] at h2; cases h2
    · rw [if_neg h2]
      exact ⟨fun _ => bytesLt_tri _ _ (by simpa using h) (by simpa using h2), fun _ => rfl⟩
noncomputable def c35 : Code := Try.f35.body.getD .skip
noncomputable def c35b1 : Code := sub c35 [1,1,1,0,0,0]
theorem c35_eq : Try.f35.body = some (.seq (sub c35 [0]) (.seq (sub c35 [1,0]) (.seq (sub c35 [1,1,0]) (.seq (.block 0 (.loop c35b1)) (.seq (sub c35 [1,1,1,1,0]) (sub c35 [1,1,1,1,1])))))) := by kernel_rfl
theorem c35b1_eq : c35b1 = .seq (.seq (sub c35b1 [0,0]) (sub c35b1 [0,1])) (.block 1 (.seq (sub c35b1 [1,0,0]) (.seq (sub c35b1 [1,0,1,0]) (.cond (.tmp 31) (sub c35b1 [1,0,1,1,0]) (sub c35b1 [1,0,1,1,1]))))) := by kernel_rfl
def bsS (x : Value) (w : List UInt8) (n i j : Nat) : List (Nat × Value) := [(0, x), (1, strOf w), (2, .func (.func 36) ⟨[]⟩ ⟨[]⟩), (8, .int .i64 (n : Int)), (9, .int .i64 (i : Int)), (10, .int .i64 (j : Int))]
set_option maxHeartbeats 4000000 in
set_option maxRecDepth 20000 in
theorem bs_round {l : List EntD} {w : List UInt8} {A : Mem} {b i j : Nat} {x : Value} {t : T Value} {K : Ex → St → Prop} (h : EntS A b l x) (hij : i < j) (hj : j ≤ l.length) (hl : l.length < 4611686018427387904) (ht : Sl t (bsS x w l.length i j))
    (hK : ∀ (t' : T Value) (e : EntD), l[(i + j) / 2]? = some e → (lt e.word w → Sl t' (bsS x w l.length ((i + j) / 2 + 1) j)) → (¬ lt e.word w → Sl t' (bsS x w l.length i ((i + j) / 2))) → K .nrm ⟨t', 49, [], A, none⟩) :
    W tb4 (.seq (sub c35b1 [1,0,0]) (.seq (sub c35b1 [1,0,1,0]) (.cond (.tmp 31) (sub c35b1 [1,0,1,1,0]) (sub c35b1 [1,0,1,1,1])))) ⟨t, 49, [], A, none⟩ K := by
  obtain ⟨g0, g1, g2, g8, g9, g10, -⟩ := ht
  apply W.seq
  have hm : (i + j) / 2 < l.length := by omega
  have c1 := to_u (m := i + j) (by omega)
  have c2 := shr1 (m := i + j) (d := tb4.und 108)
  have c3 := to_i (m := (i + j) / 2) (by omega)
  have hidx : indexAddrF tb4 32 x (.int .i64 (((i + j) / 2 : Nat) : Int)) = .ok (.pointer (some ⟨b, (i + j) / 2 * 3, none⟩)) := h.idx und32' size45' (by rw [List.length_map]; exact hm)
  obtain ⟨e, he⟩ : ∃ e, l[(i + j) / 2]? = some e := ⟨_, List.getElem?_eq_getElem hm⟩
  obtain ⟨d45, hd1, hd2⟩ := und45'
  have hld : loadF tb4 A.get 45 (.pointer (some ⟨b, (i + j) / 2 * 3, none⟩)) = .ok (.agg ⟨entC e⟩) := h.load_all hd1 hd2 size45' (by rw [List.getElem?_map, he]; rfl)
  apply W.run 20
  · intro M
    simp (config := { maxSteps := 4000000 }) (disch := first | decide +kernel | omega) only [c35b1, c35, Try.f35, Option.getD_some, sub_seq1, sub_seq0, sub_block, sub_loop, sub_nil, exec_region, runOps_cons, opF_move, ev_tmp, g9, evG_some, putT_some, T.get_set, Nat.reduceEqDiff, g10, if_false, opF_ari, if_true, opF_conv, ev_int, opF_assign, runOps_nil, R.ok_bind, binF_int, op_add_i64, c1, c2, c3]
    with_reducible rfl
  show W tb4 _ _ _
  apply W.seq
  by_cases hc : cmpI e.word w < 0
  · have hlss : intOpF .lss .i64 (cmpI e.word w) ((0 : Nat) : Int) = .ok (.bool true) := by
      unfold cmpI at hc ⊢
      split
      · rfl
      · rename_i h1
        rw [if_neg h1] at hc
        split at hc <;> simp at hc
    apply W.run 20
    · intro M
      simp (config := { maxSteps := 4000000 }) (disch := first | decide +kernel | omega) only [c35b1, c35, Try.f35, Option.getD_some, sub_seq1, sub_seq0, sub_block, sub_loop, sub_nil, exec_region, runOps_cons, opF_move, ev_tmp, T.get_set, Nat.reduceEqDiff, g2, if_false, evG_some, putT_some, g0, if_true, opF_indexAddr, opF_load, g1, opF_callv, evs, R.ok_bind, resK, opF_ari, ev_int, runOps_nil, hidx, hld, callV_func, List.nil_append, List.append_nil, k36, binF_int, hlss]
      with_reducible rfl
    show W tb4 _ _ _
    apply W.run 20
    · intro M
      simp (config := { maxSteps := 4000000 }) (disch := first | decide +kernel | omega) only [c35b1, c35, Try.f35, Option.getD_some, sub_seq1, sub_seq0, sub_block, sub_loop, sub_nil, sub_cond0, sub_cond1, exec_cond, ev_tmp, T.get_set, Nat.reduceEqDiff, if_false, if_true, evG_some, exec_region, runOps_cons, opF_move, putT_some, opF_ari, ev_int, opF_assign, runOps_nil, R.ok_bind, binF_int, op_add_i64]
      with_reducible rfl
    refine hK _ e he (fun _ => ?_) (fun hn => absurd (cmpI_neg.1 hc) hn)
    unfold bsS
    simp only [Sl_cons, Sl_nil, T.get_set, T.puts_cons, T.puts_nil, Nat.reduceEqDiff, Nat.reduceAdd, if_true, if_false, and_true, true_and, g0, g1, g2, g8, g10]
  · have hlss : intOpF .lss .i64 (cmpI e.word w) ((0 : Nat) : Int) = .ok (.bool false) := by
      unfold cmpI at hc ⊢
      split
      · rename_i h1
        rw [if_pos h1] at hc; simp at hc
      · split <;> rfl
    apply W.run 20
    · intro M
      simp (config := { maxSteps := 4000000 }) (disch := first | decide +kernel | omega) only [c35b1, c35, Try.f35, Option.getD_some, sub_seq1, sub_seq0, sub_block, sub_loop, sub_nil, exec_region, runOps_cons, opF_move, ev_tmp, T.get_set, Nat.reduceEqDiff, g2, if_false, evG_some, putT_some, g0, if_true, opF_indexAddr, opF_load, g1, opF_callv, evs, R.ok_bind, resK, opF_ari, ev_int, runOps_nil, hidx, hld, callV_func, List.nil_append, List.append_nil, k36, binF_int, hlss]
      with_reducible rfl
    show W tb4 _ _ _
    apply W.run 20
    · intro M
      simp (config := { maxSteps := 4000000 }) (disch := first | decide +kernel | omega) only [c35b1, c35, Try.f35, Option.getD_some, sub_seq1, sub_seq0, sub_block, sub_loop, sub_nil, sub_cond0, sub_cond1, exec_cond, ev_tmp, T.get_set, Nat.reduceEqDiff, if_false, if_true, evG_some, exec_region, runOps_cons, opF_move, putT_some, opF_ari, ev_int, opF_assign, runOps_nil, R.ok_bind, binF_int, op_add_i64]
      with_reducible rfl
    refine hK _ e he (fun hy => absurd (cmpI_neg.2 hy) hc) (fun _ => ?_)
    unfold bsS
    simp only [Sl_cons, Sl_nil, T.get_set, T.puts_cons, T.puts_nil, Nat.reduceEqDiff, Nat.reduceAdd, if_true, if_false, and_true, true_and, g0, g1, g2, g8, g9]

/-- Is it there? -/
def isAt (l : List EntD) (w : List UInt8) (i : Nat) : Bool :=
  match l[i]? with
  | some e => decide (e.word = w)
  | none => false
set_option maxHeartbeats 4000000 in
set_option maxRecDepth 20000 in
theorem run_bs {l : List EntD} {w : List UInt8} {A : Mem} {b : Nat} {x : Value} (h : EntS A b l x) (ha : Asc l) (hl : l.length < 4611686018427387904) :
    ∃ i, Pos l w i ∧ Ans tb4 35 [x, strOf w, .func (.func 36) ⟨[]⟩ ⟨[]⟩] A (.tuple ⟨[.int .i64 (i : Int), .bool (isAt l w i)]⟩) A := by
  obtain ⟨v, A', hg, i, hp, rfl, rfl⟩ : ∃ v A', Ans tb4 35 [x, strOf w, .func (.func 36) ⟨[]⟩ ⟨[]⟩] A v A' ∧ ∃ i, Pos l w i ∧ v = .tuple ⟨[.int .i64 (i : Int), .bool (isAt l w i)]⟩ ∧ A' = A := by
    refine ans_of_W (fn_at Try.func35) c35_eq (by rw [Try.ntmps35]; simp) (by kernel_rfl) (by kernel_rfl) ?_
    have hlen : builtinPF tb4 .len [32] [x] = .ok (.int .i64 ((l.length : Nat) : Int)) := by
      have := h.len (tb := tb4) und32'
      rwa [List.length_map] at this
    apply W.seq
    apply W.run 20
    · intro M
      simp (config := { maxSteps := 4000000 }) (disch := first | decide +kernel | omega) only [c35, Try.f35, Option.getD_some, sub_seq0, sub_nil, T.puts_cons, Nat.reduceAdd, T.puts_nil, exec_region, runOps_cons, opF_assign, ev_int, putT_some, ev_bool, runOps_nil, R.ok_bind]
      with_reducible rfl
    show W tb4 _ _ _
    apply W.seq
    apply W.run 20
    · intro M
      simp (config := { maxSteps := 4000000 }) (disch := first | decide +kernel | omega) only [c35, Try.f35, Option.getD_some, sub_seq1, sub_seq0, sub_nil, exec_region, runOps_cons, opF_move, ev_tmp, T.get_set, Nat.reduceEqDiff, T.get_e, if_true, if_false, evG_some, putT_some, opF_len, evs, R.ok_bind, opF_assign, runOps_nil, hlen]
      with_reducible rfl
    show W tb4 _ _ _
    apply W.seq
    apply W.run 20
    · intro M
      simp (config := { maxSteps := 4000000 }) (disch := first | decide +kernel | omega) only [c35, Try.f35, Option.getD_some, sub_seq1, sub_seq0, sub_nil, exec_region, runOps_cons, opF_move, ev_tmp, T.get_set, Nat.reduceEqDiff, T.get_e, if_false, if_true, evG_some, putT_some, opF_assign, ev_int, runOps_nil, R.ok_bind]
      with_reducible rfl
    show W tb4 _ _ _
    apply W.seq
    apply W.block
    refine W.fall (fun m t C => ∃ i j, C = A ∧ m = j - i ∧ i ≤ j ∧ j ≤ l.length ∧ (∀ k e, k < i → l[k]? = some e → lt e.word w) ∧ (∀ k e, j ≤ k → l[k]? = some e → ¬ lt e.word w) ∧ Sl t (bsS x w l.length i j)) ?_ (k := l.length) ⟨0, l.length, rfl, rfl, Nat.zero_le _, Nat.le_refl _, fun k e hk _ => absurd hk (Nat.not_lt_zero _), fun k e hk he => (by rw [List.getElem?_eq_none hk] at he; cases he), ?_⟩
    · rintro m t C ⟨i, j, rfl, rfl, hij, hj, h1, h2, hs⟩
      obtain ⟨g0, g1, g2, g8, g9, g10, -⟩ := hs
      by_cases hlt : i < j
      · rw [c35b1_eq]
        apply W.seq
        apply W.seq
        apply W.run 20
        · intro M
          simp (config := { maxSteps := 4000000 }) (disch := first | decide +kernel | omega) only [c35b1, c35, Try.f35, Option.getD_some, sub_seq1, sub_seq0, sub_block, sub_loop, sub_nil, exec_region, runOps_cons, opF_move, ev_tmp, g9, evG_some, putT_some, T.get_set, Nat.reduceEqDiff, g10, if_false, opF_ari, if_true, runOps_nil, R.ok_bind, binF_int, op_lssI, cast_lt, hlt, decide_true]
          with_reducible rfl
        show W tb4 _ _ _
        apply W.run 20
        · intro M
          simp (config := { maxSteps := 4000000 }) (disch := first | decide +kernel | omega) only [c35b1, c35, Try.f35, Option.getD_some, sub_seq1, sub_seq0, sub_block, sub_loop, sub_nil, exec_cond, ev_tmp, T.get_set, Nat.reduceEqDiff, if_false, if_true, evG_some, exec_skip, exec_exit, R.ok_bind]
          with_reducible rfl
        show W tb4 _ _ _
        apply W.block
        refine bs_round (w := w) h hlt hj hl (by unfold bsS; simp only [Sl_cons, Sl_nil, T.get_set, T.puts_cons, T.puts_nil, Nat.reduceEqDiff, Nat.reduceAdd, if_true, if_false, and_true, true_and, g0, g1, g2, g8, g9, g10]) fun t' e he p1 p2 => ?_
        by_cases hle : lt e.word w
        · refine ⟨j - ((i + j) / 2 + 1), _, _, by omega, rfl, (i + j) / 2 + 1, j, rfl, rfl, by omega, hj, fun k e' hk he' => ?_, h2, p1 hle⟩
          rcases Nat.lt_or_ge k ((i + j) / 2) with hq | hq
          · exact lt_tr (asc_get ha hq he' he) hle
          · have : k = (i + j) / 2 := by omega
            subst this
            rw [he] at he'
            cases he'
            exact hle
        · refine ⟨(i + j) / 2 - i, _, _, by omega, rfl, i, (i + j) / 2, rfl, rfl, by omega, by omega, h1, fun k e' hk he' hc => ?_, p2 hle⟩
          rcases Nat.lt_or_ge ((i + j) / 2) k with hq | hq
          · exact hle (lt_tr (asc_get ha hq he he') hc)
          · have : k = (i + j) / 2 := by omega
            subst this
            rw [he] at he'
            cases he'
            exact hle hc
      · have hji : j = i := by omega
        subst hji
        rw [c35b1_eq]
        apply W.seq
        apply W.seq
        apply W.run 20
        · intro M
          simp (config := { maxSteps := 4000000 }) (disch := first | decide +kernel | omega) only [c35b1, c35, Try.f35, Option.getD_some, sub_seq1, sub_seq0, sub_block, sub_loop, sub_nil, exec_region, runOps_cons, opF_move, ev_tmp, g9, evG_some, putT_some, T.get_set, Nat.reduceEqDiff, g10, if_false, opF_ari, if_true, runOps_nil, R.ok_bind, binF_int, op_lssI, cast_lt, hlt, decide_false]
          with_reducible rfl
        show W tb4 _ _ _
        apply W.run 20
        · intro M
          simp (config := { maxSteps := 4000000 }) (disch := first | decide +kernel | omega) only [c35b1, c35, Try.f35, Option.getD_some, sub_seq1, sub_seq0, sub_block, sub_loop, sub_nil, exec_cond, ev_tmp, T.get_set, Nat.reduceEqDiff, if_false, if_true, evG_some, exec_skip, exec_exit, R.ok_bind]
          with_reducible rfl
        show W tb4 _ _ _
        apply W.seq
        have hp : Pos l w j := ⟨hj, h1, h2⟩
        cases he : l[j]? with
        | none =>
          have hnl : ¬ j < l.length := fun hh => by rw [List.getElem?_eq_getElem hh] at he; cases he
          have hat : isAt l w j = false := by unfold isAt; rw [he]
          apply W.run 20
          · intro M
            simp (config := { maxSteps := 4000000 }) (disch := first | decide +kernel | (rw [wantF_guard]; simp only [wantD_some, dstAt_zero, dstAt_succ, T.get_set, T.get_e, Nat.reduceEqDiff, if_true, if_false, wantV_bool, wantV_unit, unitV, cond_true, cond_false, Bool.not_true, Bool.not_false, List.toList_toArray]) | omega) only [c35, Try.f35, Option.getD_some, sub_seq1, sub_seq0, sub_nil, exec_region, runOps_cons, opF_move, ev_tmp, T.get_set, Nat.reduceEqDiff, g9, if_false, evG_some, putT_some, g8, opF_ari, if_true, R.ok_bind, binF_int, op_lssI, cast_lt, hnl, decide_false, runOps_no, opF_pick, pickF, ev_bool, opF_assign, runOps_nil]
            with_reducible rfl
          show W tb4 _ _ _
          apply W.run 20
          · intro M
            simp (config := { maxSteps := 4000000 }) (disch := first | decide +kernel | omega) only [c35, Try.f35, Option.getD_some, sub_seq1, sub_nil, exec_ret]
            with_reducible rfl
          refine ⟨.inr rfl, C, [.int .i64 (j : Int), .bool false], rfl, ?_, j, hp, by rw [hat]; rfl, rfl⟩
          simp only [Try.f35, resF, ev_tmp, T.get_set, Nat.reduceEqDiff, if_true, if_false, evG_some, R.ok_bind]
        | some e =>
          have hjl : j < l.length := (List.getElem?_eq_some_iff.1 he).1
          have hat : isAt l w j = decide (e.word = w) := by unfold isAt; rw [he]
          have hidx : indexAddrF tb4 32 x (.int .i64 ((j : Nat) : Int)) = .ok (.pointer (some ⟨b, j * 3, none⟩)) := h.idx und32' size45' (by rw [List.length_map]; exact hjl)
          obtain ⟨d45, hd1, hd2⟩ := und45'
          have hld : loadF tb4 C.get 45 (.pointer (some ⟨b, j * 3, none⟩)) = .ok (.agg ⟨entC e⟩) := h.load_all hd1 hd2 size45' (by rw [List.getElem?_map, he]; rfl)
          have heq : intOpF .eql .i64 (cmpI e.word w) ((0 : Nat) : Int) = .ok (.bool (decide (e.word = w))) := by
            by_cases hw : e.word = w
            · rw [decide_eq_true hw, cmpI_zero.2 hw]; rfl
            · rw [decide_eq_false hw]
              have hc : cmpI e.word w ≠ 0 := fun hh => hw (cmpI_zero.1 hh)
              unfold cmpI at hc ⊢
              split
              · rfl
              · split
                · rfl
                · rename_i q1 q2
                  rw [if_neg q1, if_neg q2] at hc
                  exact absurd rfl hc
          apply W.run 20
          · intro M
            simp (config := { maxSteps := 4000000 }) (disch := first | decide +kernel | (rw [wantF_guard]; simp only [wantD_some, dstAt_zero, dstAt_succ, T.get_set, T.get_e, Nat.reduceEqDiff, if_true, if_false, wantV_bool, wantV_unit, unitV, cond_true, cond_false, Bool.not_true, Bool.not_false, List.toList_toArray]) | omega) only [c35, Try.f35, Option.getD_some, sub_seq1, sub_seq0, sub_nil, exec_region, runOps_cons, opF_move, ev_tmp, T.get_set, Nat.reduceEqDiff, g9, if_false, evG_some, putT_some, g8, opF_ari, if_true, R.ok_bind, binF_int, op_lssI, cast_lt, hjl, decide_true, runOps_yes, g2, g0, opF_indexAddr, opF_load, g1, opF_callv, evs, resK, opF_eql, ev_int, opF_pick, pickF, ev_bool, opF_assign, runOps_nil, hidx, hld, callV_func, List.nil_append, List.append_nil, k36, heq]
            with_reducible rfl
          show W tb4 _ _ _
          apply W.run 20
          · intro M
            simp (config := { maxSteps := 4000000 }) (disch := first | decide +kernel | omega) only [c35, Try.f35, Option.getD_some, sub_seq1, sub_nil, exec_ret]
            with_reducible rfl
          refine ⟨.inr rfl, C, [.int .i64 (j : Int), .bool (decide (e.word = w))], rfl, ?_, j, hp, by rw [hat]; rfl, rfl⟩
          simp only [Try.f35, resF, ev_tmp, T.get_set, Nat.reduceEqDiff, if_true, if_false, evG_some, R.ok_bind]
    · unfold bsS
      simp only [Sl_cons, Sl_nil, T.get_set, T.puts_cons, T.puts_nil, Nat.reduceEqDiff, Nat.reduceAdd, if_true, if_false, and_true, true_and]
  exact ⟨i, hp, hg⟩
end Go.Proofs.Ytnelkapmmgggdaa.mdl

/-
  Model: an entry is laid in where its word stands.
-/
namespace Go.Proofs.Ytnelkapmmgggdaa.mdl
open Go.Am Go.Mdl
set_option linter.unusedSimpArgs false
set_option linter.unusedVariables false
set_option linter.unusedVariables false

theorem Pos.tail {x : EntD} {l : List EntD} {w : List UInt8} {i : Nat} (h : Pos (x :: l) w (i + 1)) : Pos l w i ∧ lt x.word w := by
  obtain ⟨h1, h2, h3⟩ := h
  refine ⟨⟨by simpa using h1, fun k e hk he => h2 (k + 1) e (by omega) (by rwa [List.getElem?_cons_succ]), fun k e hk he => h3 (k + 1) e (by omega) (by rwa [List.getElem?_cons_succ])⟩, h2 0 x (by omega) rfl⟩
/-- Laid in where the word stands: in place of the one of that word, or between. -/
theorem one_pos {e : EntD} : ∀ {l : List EntD} {i : Nat}, Pos l e.word i → one e l = if isAt l e.word i = true then l.set i e else l.take i ++ e :: l.drop i
  | [], i, h => by
    have : i = 0 := by simpa using h.1
    subst this
    rfl
  | x :: l, 0, h => by
    have hx := h.2.2 0 x (Nat.le_refl _) rfl
    unfold one
    rw [if_neg hx]
    have hat : isAt (x :: l) e.word 0 = decide (x.word = e.word) := rfl
    rw [hat]
    by_cases hw : x.word = e.word
    · rw [if_pos hw, if_pos (by simp [hw])]; rfl
    · rw [if_neg hw, if_neg (by simp [hw])]; rfl
  | x :: l, i + 1, h => by
    obtain ⟨h1, h2⟩ := h.tail
    have ih := one_pos h1
    unfold one
    rw [if_pos h2, ih]
    have hat : isAt (x :: l) e.word (i + 1) = isAt l e.word i := by unfold isAt; rw [List.getElem?_cons_succ]
    rw [hat]
    split
    · rfl
    · rfl

theorem flat_map_take (f : EntD → List Value) (hf : ∀ e, (f e).length = 3) : ∀ (l : List EntD) (i : Nat), ((l.map f).flatten).take (i * 3) = ((l.take i).map f).flatten
  | [], i => by simp
  | x :: l, 0 => by simp
  | x :: l, i + 1 => by
    rw [List.map_cons, List.flatten_cons, List.take_succ_cons, List.map_cons, List.flatten_cons, List.take_append, hf, List.take_of_length_le (by rw [hf]; omega), show (i + 1) * 3 - 3 = i * 3 by omega, flat_map_take f hf l i]
theorem flat_map_drop (f : EntD → List Value) (hf : ∀ e, (f e).length = 3) : ∀ (l : List EntD) (i : Nat), ((l.map f).flatten).drop (i * 3) = ((l.drop i).map f).flatten
  | [], i => by simp
  | x :: l, 0 => by simp
  | x :: l, i + 1 => by
    rw [List.map_cons, List.flatten_cons, List.drop_succ_cons, List.drop_append, hf, List.drop_of_length_le (by rw [hf]; omega), List.nil_append, show (i + 1) * 3 - 3 = i * 3 by omega, flat_map_drop f hf l i]
theorem entC_len (e : EntD) : (entC e).length = 3 := rfl
/-- What the row of cells is, behind an entry that was laid in. -/
theorem insL_ents {l : List EntD} {e : EntD} {i : Nat} : insL 3 i ((l.map entC).flatten) (entC e) = (((l.take i ++ e :: l.drop i)).map entC).flatten := by
  unfold insL
  rw [flat_map_take _ entC_len, flat_map_drop _ entC_len, List.map_append, List.map_cons, List.flatten_append, List.flatten_cons, List.append_assoc]
/-- With: one behind the other. -/
def norm (e : EntD) : EntD := if e.gone = true then { e with weight := 0 } else e
def withL (own more : List EntD) : List EntD := more.foldl (fun l e => one (norm e) l) own
theorem withL_asc : ∀ {more own : List EntD}, Asc own → Asc (withL own more)
  | [], _, h => h
  | e :: more, own, h => withL_asc (more := more) (own := one (norm e) own) (one_asc h)
end Go.Proofs.Ytnelkapmmgggdaa.mdl

/-
  Model: a list that grows: its row; an entry that is laid in between.
-/
namespace Go.Proofs.Ytnelkapmmgggdaa.mdl
open Go.Am Go.Mdl
set_option linter.unusedSimpArgs false
set_option linter.unusedVariables false
set_option linter.unusedVariables false

/-- A list that was made by appending, or laying in. -/
def EntW (A : Mem) (b : Nat) (l : List EntD) (x : Value) : Prop :=
  (x = .slice none 0 0 ∧ l = []) ∨ (l ≠ [] ∧ x = .slice (some ⟨b, 0, none⟩) l.length (mkX l.length 3) ∧ b < A.next ∧ Vals A 45 b .row (l.map entC).flatten)
theorem ents_len (l : List EntD) : ((l.map entC).flatten).length = l.length * 3 := by
  have := flat_len (n := 3) (ls := l.map entC) (fun x hx => by obtain ⟨e, _, rfl⟩ := List.mem_map.1 hx; rfl)
  rw [this, List.length_map]
theorem ents_one (l : List EntD) : ∀ v ∈ (l.map entC).flatten, oneCell v = true := by
  intro v hv
  obtain ⟨c, hc, hv⟩ := List.mem_flatten.1 hv
  obtain ⟨e, _, rfl⟩ := List.mem_map.1 hc
  unfold entC at hv
  simp only [List.mem_cons, List.not_mem_nil, or_false] at hv
  rcases hv with rfl | rfl | rfl <;> rfl
theorem EntW.ents {A : Mem} {b : Nat} {l : List EntD} {x : Value} (h : EntW A b l x) : EntS A b l x := by
  rcases h with ⟨rfl, rfl⟩ | ⟨h0, h1, h2, h3⟩
  · exact .inl ⟨rfl, rfl⟩
  · exact .inr ⟨.row, _, by rw [List.length_map]; exact h1, h2, h3, fun c hc => (by obtain ⟨e, _, rfl⟩ := List.mem_map.1 hc; rfl), .inr ⟨by rw [List.length_map], .inl rfl⟩⟩
theorem EntW.same {A A' : Mem} {b : Nat} {l : List EntD} {x : Value} (h : EntW A b l x) (hn : A.next ≤ A'.next) (hg : b < A.next → A'.get b = A.get b) : EntW A' b l x := by
  rcases h with h | ⟨h0, h1, h2, h3⟩
  · exact .inl h
  · exact .inr ⟨h0, h1, Nat.lt_of_lt_of_le h2 hn, h3.same (hg h2)⟩
theorem insMem_ents {A : Mem} {ob : Option Nat} {l : List EntD} (h0 : l ≠ []) : EntW (insMem 45 ob ((l.map entC).flatten) A) A.next l (.slice (some ⟨A.next, 0, none⟩) l.length (mkX l.length 3)) :=
  .inr ⟨h0, rfl, by rw [insMem_next]; omega, vals_puts (insMem_new _ _ _ _)⟩
/-- slices.Insert. -/
theorem ins_call {ih : Code → St → R (Ex × St)} {A : Mem} {b q i : Nat} {l : List EntD} {e : EntD} {x : Value} (h : EntW A b l x) (hq : A.get q = some (rowOb 45 (entC e))) (hi : i ≤ l.length) (hl : l.length < 16777215) :
    ∃ A', callF tb4 ih (.fn 37 [x, .int .i64 (i : Int), .slice (some ⟨q, 0, none⟩) 1 2]) A = .ok (.val (.slice (some ⟨A.next, 0, none⟩) (l.length + 1) (mkX (l.length + 1) 3)) A') ∧
      EntW A' A.next (l.take i ++ e :: l.drop i) (.slice (some ⟨A.next, 0, none⟩) (l.length + 1) (mkX (l.length + 1) 3)) ∧ A'.next = A.next + 1 ∧ ∀ y, y < A.next → (l ≠ [] → y ≠ b) → A'.get y = A.get y := by
  have hlen : (l.take i ++ e :: l.drop i).length = l.length + 1 := by
    rw [List.length_append, List.length_cons, List.length_take, List.length_drop]; omega
  have hne : (l.take i ++ e :: l.drop i) ≠ [] := by simp
  have hnew : (T.puts .e 0 (entC e)).gets 3 0 = some (entC e) := gets_eq _ _ _ _ rfl fun j hj => by
    rw [T.get_puts, if_pos ⟨Nat.zero_le _, by show 0 + j < 0 + 3; omega⟩, Nat.sub_zero, Nat.zero_add]
  have hone : (entC e).all oneCell = true := rfl
  have hle : Nat.ble i l.length = true := Nat.ble_eq_true_of_le hi
  have hlt : Nat.blt l.length 16777215 = true := by rw [Nat.blt_eq]; exact hl
  have hqo : A.get q = some (.cells 45 (.var 3) 0 (T.puts .e 0 (entC e))) := hq
  have key : ∃ ob, insHook 45 3 [x, .int .i64 (.ofNat i), .slice (some ⟨q, 0, none⟩) 1 2] A = .ok (.slice (some ⟨A.next, 0, none⟩) (l.length + 1) (mkX (l.length + 1) 3), insMem 45 ob (((l.take i ++ e :: l.drop i).map entC).flatten) A) ∧ ∀ y, (l ≠ [] → y ≠ b) → ob ≠ some y := by
    rcases h with ⟨rfl, rfl⟩ | ⟨h0, rfl, h2, cb, h3, h4⟩
    · refine ⟨none, ?_, fun y _ h => by cases h⟩
      have hi0 : i = 0 := by simpa using hi
      subst hi0
      unfold insHook
      simp only [hqo, hnew]
      simp only [Nat.beq_refl, hone, hlt, hle, List.length_nil, Bool.and_self, cond_true]
      simp
      have e1 : (Nat.ble 0 0 && Nat.blt 0 16777215) = true := by decide
      rw [e1]; rfl
    · refine ⟨some b, ?_, fun y hy h => by cases h; exact hy h0 rfl⟩
      have hold : cb.gets (l.length * 3) 0 = some ((l.map entC).flatten) := gets_eq _ _ _ _ (ents_len l) fun j hj => by
        rw [Nat.zero_add]; exact h4 j (by rw [ents_len]; exact hj)
      have h0l : Nat.blt 0 l.length = true := by rw [Nat.blt_eq]; exact List.length_pos_iff.2 h0
      have hall : ((l.map entC).flatten).all oneCell = true := List.all_eq_true.2 (ents_one l)
      unfold insHook
      simp only [hqo, hnew, h3, hold, hone, hlt, hle, Nat.beq_refl, Bool.and_self, cond_true, h0l, hall]
      rw [← insL_ents]
  obtain ⟨ob, h1, h2⟩ := key
  refine ⟨_, callF_known (c := (Try.f37.body).getD .skip) (fn_at Try.func37) (by kernel_rfl) (by kernel_rfl) (h := insHook 45 3) (by kernel_rfl) h1, ?_, insMem_next _ _ _ _, fun y hy hyb => ?_⟩
  · have := insMem_ents (A := A) (ob := ob) hne
    rwa [hlen] at this
  · rw [insMem_old _ _ _ _ (by omega), if_neg (h2 y hyb)]
end Go.Proofs.Ytnelkapmmgggdaa.mdl

/-
  Model: a list that grows: one put in place of another; a copy of a list.
-/
namespace Go.Proofs.Ytnelkapmmgggdaa.mdl
open Go.Am Go.Mdl
set_option linter.unusedSimpArgs false
set_option linter.unusedVariables false
set_option linter.unusedVariables false

theorem ents_get {l : List EntD} {e : EntD} {i j : Nat} (hi : l[i]? = some e) (hj : j < 3) : ((l.map entC).flatten)[i * 3 + j]? = (entC e)[j]? :=
  flat_get (n := 3) (ls := l.map entC) (fun x hx => by obtain ⟨e, _, rfl⟩ := List.mem_map.1 hx; rfl) (by rw [List.getElem?_map, hi]; rfl) hj
theorem ents_set {l : List EntD} {e : EntD} {i j : Nat} (hi : i < l.length) (hj : j < l.length * 3) : (((l.set i e).map entC).flatten)[j]? = if i * 3 ≤ j ∧ j < i * 3 + (entC e).length then (entC e)[j - i * 3]? else ((l.map entC).flatten)[j]? := by
  have hq : j / 3 < l.length := by omega
  have hj3 : j = j / 3 * 3 + j % 3 := by omega
  have h3 : j % 3 < 3 := Nat.mod_lt _ (by decide)
  rw [entC_len]
  by_cases h : i * 3 ≤ j ∧ j < i * 3 + 3
  · have hij : j / 3 = i := by omega
    rw [if_pos h, hj3, ents_get (e := e) (by rw [hij, List.getElem?_set, if_pos rfl, if_pos hi]) h3]
    congr 1
    omega
  · have hij : ¬ i = j / 3 := by omega
    rw [if_neg h]
    conv => lhs; rw [hj3]
    conv => rhs; rw [hj3]
    rw [ents_get (e := l[j / 3]) (by rw [List.getElem?_set, if_neg hij, List.getElem?_eq_getElem hq]) h3, ents_get (e := l[j / 3]) (List.getElem?_eq_getElem hq) h3]
theorem EntW.put {A : Mem} {b i : Nat} {l : List EntD} {e : EntD} {x : Value} (h : EntW A b l x) (hi : i < l.length) :
    ∃ A', storeF tb4 A 45 (.pointer (some ⟨b, i * 3, none⟩)) (.agg ⟨entC e⟩) = .ok A' ∧ EntW A' b (l.set i e) x ∧ A'.next = A.next ∧ ∀ y, y ≠ b → A'.get y = A.get y := by
  rcases h with ⟨rfl, rfl⟩ | ⟨h0, rfl, h2, c, h3, h4⟩
  · simp at hi
  · have hst : storesF 0 0 (entC e) (i * 3) c = .ok (c.puts (i * 3) (entC e)) := stores_in 0 _ _ _ (fun v hv => by
      unfold entC at hv
      simp only [List.mem_cons, List.not_mem_nil, or_false] at hv
      rcases hv with rfl | rfl | rfl <;> rfl) fun j hj => .inl (by
        rw [entC_len] at hj
        rw [h4 _ (by rw [ents_len]; omega), List.getElem?_eq_getElem (by rw [ents_len]; omega)]
        exact ⟨_, rfl⟩)
    refine ⟨A.set b (.cells 45 .row 0 (c.puts (i * 3) (entC e))), ?_, .inr ⟨by simpa using h0, by rw [List.length_set], h2, _, by rw [get_setMem, if_pos rfl], fun j hj => ?_⟩, rfl, fun y hy => by rw [get_setMem, if_neg hy]⟩
    · unfold storeF
      have hc : (Value.agg ⟨entC e⟩).cells.toList = entC e := rfl
      simp only [size45', R.ok_bind, hc]
      have hb : Nat.beq (entC e).length 3 = true := rfl
      rw [hb, cond_true]
      unfold storeAtF
      unfold entC at hst ⊢
      have hst' : storesF (roomK .row) 0 [strOf e.word, .int .u32 (e.weight : Int), .bool e.gone] (i * 3) c = .ok (c.puts (i * 3) [strOf e.word, .int .u32 (e.weight : Int), .bool e.gone]) := hst
      simp only [h3, hst', R.ok_bind]
    · rw [ents_len, List.length_set] at hj
      rw [T.get_puts, ents_set hi hj]
      split
      · rfl
      · exact h4 j (by rw [ents_len]; exact hj)
end Go.Proofs.Ytnelkapmmgggdaa.mdl

/-
  Model: a copy of a list.
-/
namespace Go.Proofs.Ytnelkapmmgggdaa.mdl
open Go.Am Go.Mdl
set_option linter.unusedSimpArgs false
set_option linter.unusedVariables false
set_option linter.unusedVariables false

theorem zc45' : zcellsF tb4 45 = .ok (3, [.string .empty, .int .u32 0, .bool false]) := by kernel_rfl
theorem ty45' : ∃ ti, tb4.ty.get 45 = some ti ∧ 0 < ti.bytes ∧ ti.bytes ≤ 65536 := ty45
theorem app_nil {A : Mem} {x : Value} {l : List EntD} {b : Nat} (h : EntS A b l x) (hl : l.length ≤ 16777216) :
    ∃ y A', appendF tb4 A 32 32 (.slice none 0 0) x = .ok (y, A') ∧ EntW A' A.next l y ∧ A.next ≤ A'.next ∧ A'.next ≤ A.next + 1 ∧ ∀ z, z < A.next → A'.get z = A.get z := by
  obtain ⟨ti, hti, hb1, hb2⟩ := ty45'
  by_cases h0 : l = []
  · subst h0
    refine ⟨.slice none 0 0, A, ?_, .inl ⟨rfl, rfl⟩, Nat.le_refl _, by omega, fun _ _ => rfl⟩
    have hlen : lenF x = .ok 0 := by
      rcases h with ⟨rfl, _⟩ | ⟨k, c, rfl, _⟩ <;> rfl
    have hf : firstF A.get 3 0 x = .ok [] := by
      rcases h with ⟨rfl, _⟩ | ⟨k, c, rfl, _⟩ <;> rfl
    unfold appendF appendG
    simp only [und32', isIntD, cond_false, zc45', R.ok_bind, hlen, hf]
    rfl
  · have hlp : 0 < l.length := List.length_pos_iff.2 h0
    rcases h with ⟨_, e⟩ | ⟨k, c, rfl, h2, h3, h4, h5⟩
    · exact absurd (List.map_eq_nil_iff.1 e) h0
    · rw [List.length_map]
      have hf : firstF A.get 3 l.length (.slice (some ⟨b, 0, none⟩) l.length c) = .ok ((l.map entC).flatten) := elemsF_valsN h3 (ents_len l)
      have hlim : (Nat.ble (0 + l.length) 16777216 && Nat.ble ti.bytes 65536 && Nat.blt 0 ti.bytes && Nat.blt 0 3 && Nat.blt 3 65536) = true := by
        have a1 : Nat.ble (0 + l.length) 16777216 = true := Nat.ble_eq_true_of_le (by omega)
        have a2 : Nat.ble ti.bytes 65536 = true := Nat.ble_eq_true_of_le hb2
        have a3 : Nat.blt 0 ti.bytes = true := by rw [Nat.blt_eq]; exact hb1
        rw [a1, a2, a3]; rfl
      have hble : Nat.ble (0 + l.length) (capN 0) = false := by
        cases hq : Nat.ble (0 + l.length) (capN 0) with
        | false => rfl
        | true =>
          have h1 := Nat.le_of_ble_eq_true hq
          have h2 : capN 0 = 0 := rfl
          omega
      have hx : capX 0 = true := rfl
      have hel : elemsF A.get 3 0 none = .ok [] := rfl
      refine ⟨.slice (some ⟨A.next, 0, none⟩) l.length (mkX l.length 3), A.alloc (.cells 45 .row 0 (T.puts .e 0 ((l.map entC).flatten))), ?_, .inr ⟨h0, rfl, by rw [next_alloc]; omega, vals_puts (get_alloc_self _ _)⟩, by rw [next_alloc]; omega, by rw [next_alloc]; omega, fun z hz => get_alloc_ne (by omega)⟩
      unfold appendF appendG
      simp only [und32', isIntD, cond_false, zc45', R.ok_bind, lenF, hf, hble, hti, hlim, cond_true, hel, hx, List.nil_append, Nat.zero_add]
      rw [Nat.zero_add] at hble hlim
      rw [hble, cond_false, hlim, cond_true]
end Go.Proofs.Ytnelkapmmgggdaa.mdl

/-
  Model: entry.With: a round.
-/
namespace Go.Proofs.Ytnelkapmmgggdaa.mdl
open Go.Am Go.Mdl
set_option linter.unusedSimpArgs false
set_option linter.unusedVariables false
set_option linter.unusedVariables false

theorem z45 : zeroF tb4 45 = .ok (.agg ⟨[.string .empty, .int .u32 0, .bool false]⟩) := by kernel_rfl
theorem und4' : tb4.und 4 = some .bool := by kernel_rfl
theorem und9' : tb4.und 9 = some .string := by kernel_rfl
theorem size24' : sizeF tb4 24 = .ok 1 := by kernel_rfl
theorem fb0 {b : Nat} : fieldAddrF tb4 45 (.pointer (some ⟨b, 0, none⟩)) 0 = .ok (.pointer (some ⟨b, 0, none⟩)) := by kernel_rfl
theorem fb1 {b : Nat} : fieldAddrF tb4 45 (.pointer (some ⟨b, 0, none⟩)) 1 = .ok (.pointer (some ⟨b, 1, none⟩)) := by kernel_rfl
theorem fb2 {b : Nat} : fieldAddrF tb4 45 (.pointer (some ⟨b, 0, none⟩)) 2 = .ok (.pointer (some ⟨b, 2, none⟩)) := by kernel_rfl
noncomputable def c24 : Code := Try.f24.body.getD .skip
noncomputable def c24b1 : Code := sub c24 [1,1,0,1,0,0]
theorem c24_eq : Try.f24.body = some (.seq (sub c24 [0]) (.seq (sub c24 [1,0]) (.seq (.seq (sub c24 [1,1,0,0]) (.block 0 (.loop c24b1))) (.seq (sub c24 [1,1,1,0]) (sub c24 [1,1,1,1]))))) := by kernel_rfl
theorem c24b1_eq : c24b1 = .seq (sub c24b1 [0]) (.seq (sub c24b1 [1,0]) (.seq (.block 1 (.seq (sub c24b1 [1,1,0,0,0]) (.seq (.seq (sub c24b1 [1,1,0,0,1,0,0]) (sub c24b1 [1,1,0,0,1,0,1])) (.seq (sub c24b1 [1,1,0,0,1,1,0]) (.seq (sub c24b1 [1,1,0,0,1,1,1,0]) (.cond (.tmp 28) (sub c24b1 [1,1,0,0,1,1,1,1,0]) (sub c24b1 [1,1,0,0,1,1,1,1,1]))))))) (sub c24b1 [1,1,1]))) := by kernel_rfl
def wiS (xo xm : Value) (n k : Nat) : List (Nat × Value) := [(5, xo), (12, xm), (13, .int .i64 (n : Int)), (14, .int .i64 (k : Int))]
theorem norm_word (e : EntD) : (norm e).word = e.word := by unfold norm; split <;> rfl

set_option maxHeartbeats 4000000 in
set_option maxRecDepth 20000 in
/-- The entry's own variable. -/
theorem with_own {C : Mem} {bm k n : Nat} {more : List EntD} {e : EntD} {xo xm : Value} {t : T Value} {K : Ex → St → Prop} (hm : EntS C bm more xm) (hbm : bm < C.next) (he : more[k]? = some e) (ht : Sl t (wiS xo xm n k)) {Rc : Code}
    (hK : ∀ (t' : T Value) (C1 : Mem), Vals C1 45 C.next (.var 3) (entC (norm e)) → C1.next = C.next + 1 → (∀ y, y < C.next → C1.get y = C.get y) → Sl t' (wiS xo xm n k) → t'.get 7 = some (.pointer (some ⟨C.next, 0, none⟩)) → W tb4 Rc ⟨t', 40, [], C1, none⟩ K) :
    W tb4 (.seq (sub c24b1 [1,1,0,0,0]) (.seq (.seq (sub c24b1 [1,1,0,0,1,0,0]) (sub c24b1 [1,1,0,0,1,0,1])) Rc)) ⟨t, 40, [], C, none⟩ K := by
  obtain ⟨g5, g12, g13, g14, -⟩ := ht
  obtain ⟨d45, hd1, hd2⟩ := und45'
  have hkl : k < more.length := (List.getElem?_eq_some_iff.1 he).1
  have hidx : indexAddrF tb4 32 xm (.int .i64 ((k : Nat) : Int)) = .ok (.pointer (some ⟨bm, k * 3, none⟩)) := hm.idx und32' size45' (by rw [List.length_map]; exact hkl)
  have hld : loadF tb4 C.get 45 (.pointer (some ⟨bm, k * 3, none⟩)) = .ok (.agg ⟨entC e⟩) := hm.load_all hd1 hd2 size45' (by rw [List.getElem?_map, he]; rfl)
  have hz : Vals (C.alloc (rowOb 45 [.string .empty, .int .u32 0, .bool false])) 45 C.next (.var 3) [.string .empty, .int .u32 0, .bool false] := vals_puts (get_alloc_self _ _)
  obtain ⟨C1, s1, v1, n1, k1⟩ := store_all (tb := tb4) (t := 45) (l := [.string .empty, .int .u32 0, .bool false]) (l' := entC e) size45' hz rfl (by simp) (fun v hv => by
    unfold entC at hv
    simp only [List.mem_cons, List.not_mem_nil, or_false] at hv
    rcases hv with rfl | rfl | rfl <;> rfl)
  have n1' : C1.next = C.next + 1 := n1
  have hk1 : ∀ y, y < C.next → C1.get y = C.get y := fun y hy => by rw [k1 y (by omega), get_alloc_ne (by omega)]
  have hg : loadF tb4 C1.get 4 (.pointer (some ⟨C.next, 2, none⟩)) = .ok (.bool e.gone) := load_vals und4' rfl v1 rfl
  apply W.seq
  apply W.run 20
  · intro M
    simp (config := { maxSteps := 4000000 }) (disch := first | decide +kernel | omega) only [c24b1, c24, Try.f24, Option.getD_some, sub_seq1, sub_seq0, sub_block, sub_loop, sub_nil, exec_region, runOps_cons, opF_indexAddr, ev_tmp, g12, evG_some, g14, putT_some, opF_load, T.get_set, if_true, opF_alloc, z45, at_ptr, opF_store, Nat.reduceEqDiff, if_false, putT_none, runOps_nil, R.ok_bind, cells_agg, hidx, hld, s1]
    with_reducible rfl
  show W tb4 _ _ _
  apply W.seq
  apply W.seq
  cases hgo : e.gone with
  | false =>
    rw [hgo] at hg
    have hn : norm e = e := by unfold norm; rw [hgo]; rfl
    apply W.run 20
    · intro M
      simp (config := { maxSteps := 4000000 }) (disch := first | decide +kernel | omega) only [c24b1, c24, Try.f24, Option.getD_some, sub_seq1, sub_seq0, sub_block, sub_loop, sub_nil, exec_region, runOps_cons, opF_fieldAddr, ev_tmp, T.get_set, Nat.reduceEqDiff, if_false, if_true, evG_some, putT_some, opF_load, runOps_nil, R.ok_bind, fb2, hg]
      with_reducible rfl
    show W tb4 _ _ _
    apply W.run 20
    · intro M
      simp (config := { maxSteps := 4000000 }) (disch := first | decide +kernel | omega) only [c24b1, c24, Try.f24, Option.getD_some, sub_seq1, sub_seq0, sub_block, sub_loop, sub_nil, exec_cond, ev_tmp, T.get_set, Nat.reduceEqDiff, if_false, if_true, evG_some, exec_region, runOps_cons, opF_fieldAddr, putT_some, opF_store, ev_int, putT_none, runOps_nil, R.ok_bind, exec_skip]
      with_reducible rfl
    refine hK _ C1 (by rw [hn]; exact v1) n1' hk1 ?_ ?_
    · unfold wiS; simp only [Sl_cons, Sl_nil, T.get_set, T.puts_cons, T.puts_nil, Nat.reduceEqDiff, Nat.reduceAdd, if_true, if_false, and_true, true_and, g5, g12, g13, g14]
    · simp only [T.get_set, Nat.reduceEqDiff, if_true, if_false]
  | true =>
    rw [hgo] at hg
    obtain ⟨C2, s2, v2, n2, k2⟩ := store_vals (tb := tb4) (t := 24) (o := 1) (v := .int .u32 ((0 : Nat) : Int)) size24' v1 (by show 1 < 3; decide) rfl rfl
    have hn : entC (norm e) = (entC e).set 1 (.int .u32 ((0 : Nat) : Int)) := by
      unfold norm
      rw [if_pos hgo]
      unfold entC
      rfl
    apply W.run 20
    · intro M
      simp (config := { maxSteps := 4000000 }) (disch := first | decide +kernel | omega) only [c24b1, c24, Try.f24, Option.getD_some, sub_seq1, sub_seq0, sub_block, sub_loop, sub_nil, exec_region, runOps_cons, opF_fieldAddr, ev_tmp, T.get_set, Nat.reduceEqDiff, if_false, if_true, evG_some, putT_some, opF_load, runOps_nil, R.ok_bind, fb2, hg]
      with_reducible rfl
    show W tb4 _ _ _
    apply W.run 20
    · intro M
      simp (config := { maxSteps := 4000000 }) (disch := first | decide +kernel | omega) only [c24b1, c24, Try.f24, Option.getD_some, sub_seq1, sub_seq0, sub_block, sub_loop, sub_nil, exec_cond, ev_tmp, T.get_set, Nat.reduceEqDiff, if_false, if_true, evG_some, exec_region, runOps_cons, opF_fieldAddr, putT_some, opF_store, ev_int, putT_none, runOps_nil, R.ok_bind, fb1, s2, exec_skip]
      with_reducible rfl
    refine hK _ C2 (by rw [hn]; exact v2) (by omega) (fun y hy => by rw [k2 y (by omega)]; exact hk1 y hy) ?_ ?_
    · unfold wiS; simp only [Sl_cons, Sl_nil, T.get_set, T.puts_cons, T.puts_nil, Nat.reduceEqDiff, Nat.reduceAdd, if_true, if_false, and_true, true_and, g5, g12, g13, g14]
    · simp only [T.get_set, Nat.reduceEqDiff, if_true, if_false]
end Go.Proofs.Ytnelkapmmgggdaa.mdl

/-
  Model: entry.With: an entry is laid in.
-/
namespace Go.Proofs.Ytnelkapmmgggdaa.mdl
open Go.Am Go.Mdl
set_option linter.unusedSimpArgs false
set_option linter.unusedVariables false
set_option linter.unusedVariables false

theorem bs45 {e : EntD} : buildSliceF tb4 32 1 [(0, .agg ⟨entC e⟩)] = .ok (rowOb 45 (entC e), .slc 1 2) := by kernel_rfl
theorem at_slc {n b c : Nat} : (Way.slc n c).at b = .slice (some ⟨b, 0, none⟩) n c := rfl
theorem ev_f36 {t : T Value} : ev t (Operand.func 36) = .ok (.func (.func 36) ⟨[]⟩ ⟨[]⟩) := rfl
set_option maxHeartbeats 4000000 in
set_option maxRecDepth 20000 in
theorem with_rest {C : Mem} {bo q k n : Nat} {own : List EntD} {e : EntD} {xo xm : Value} {t : T Value} {K : Ex → St → Prop} (ho : EntW C bo own xo) (hq : Vals C 45 q (.var 3) (entC e)) (hqb : own ≠ [] → q ≠ bo) (hqn : q < C.next) (ha : Asc own) (hl : own.length < 1000000) (ht : Sl t (wiS xo xm n k)) (h7 : t.get 7 = some (.pointer (some ⟨q, 0, none⟩)))
    (hK : ∀ (t' : T Value) (C' : Mem) (bo' : Nat) (xo' : Value), EntW C' bo' (one e own) xo' → C.next ≤ C'.next → (∀ y, y < C.next → (own ≠ [] → y ≠ bo) → C'.get y = C.get y) → ((bo' = bo ∧ own ≠ []) ∨ C.next ≤ bo') → Sl t' (wiS xo' xm n k) → K .nrm ⟨t', 40, [], C', none⟩) :
    W tb4 (.seq (sub c24b1 [1,1,0,0,1,1,0]) (.seq (sub c24b1 [1,1,0,0,1,1,1,0]) (.cond (.tmp 28) (sub c24b1 [1,1,0,0,1,1,1,1,0]) (sub c24b1 [1,1,0,0,1,1,1,1,1])))) ⟨t, 40, [], C, none⟩ K := by
  obtain ⟨g5, g12, g13, g14, -⟩ := ht
  obtain ⟨d45, hd1, hd2⟩ := und45'
  have hw : loadF tb4 C.get 9 (.pointer (some ⟨q, 0, none⟩)) = .ok (strOf e.word) := load_vals und9' rfl hq rfl
  have hea : loadF tb4 C.get 45 (.pointer (some ⟨q, 0, none⟩)) = .ok (.agg ⟨entC e⟩) := load_all hd1 hd2 size45' hq
  obtain ⟨i, hp, g, hg⟩ := run_bs (w := e.word) ho.ents ha (by omega)
  have hone := one_pos hp
  apply W.seq
  apply W.runG (g) 20
  · intro M hM
    simp (config := { maxSteps := 4000000 }) (disch := first | decide +kernel | omega) only [c24b1, c24, Try.f24, Option.getD_some, sub_seq1, sub_seq0, sub_block, sub_loop, sub_nil, exec_region, runOps_cons, opF_move, ev_tmp, g5, evG_some, putT_some, opF_fieldAddr, T.get_set, Nat.reduceEqDiff, h7, if_false, opF_load, if_true, opF_call, evs, ev_f36, R.ok_bind, resK, opF_extract, extractF, opF_assign, runOps_nil, fb0, hw, hg, List.getElem?_cons_zero, List.getElem?_cons_succ]
    with_reducible rfl
  show W tb4 _ _ _
  apply W.seq
  apply W.run 20
  · intro M
    simp (config := { maxSteps := 4000000 }) (disch := first | decide +kernel | omega) only [c24b1, c24, Try.f24, Option.getD_some, sub_seq1, sub_seq0, sub_block, sub_loop, sub_nil, exec_region, runOps_cons, opF_move, ev_tmp, T.get_set, Nat.reduceEqDiff, if_false, if_true, evG_some, putT_some, runOps_nil, R.ok_bind]
    with_reducible rfl
  show W tb4 _ _ _
  cases his : isAt own e.word i with
  | true =>
    refine W.cond (p := true) ?_ (fun _ => ?_) (fun h => by cases h)
    · simp only [ev_tmp, T.get_set, Nat.reduceEqDiff, if_true, if_false, evG_some]
    rw [his, if_pos rfl] at hone
    have hil : i < own.length := by
      unfold isAt at his
      rcases Nat.lt_or_ge i own.length with h | h
      · exact h
      · rw [List.getElem?_eq_none h] at his; cases his
    have h0 : own ≠ [] := by rintro rfl; simp at hil
    have hidx : indexAddrF tb4 32 xo (.int .i64 ((i : Nat) : Int)) = .ok (.pointer (some ⟨bo, i * 3, none⟩)) := ho.ents.idx und32' size45' (by rw [List.length_map]; exact hil)
    obtain ⟨C2, s2, w2, n2, k2⟩ := ho.put (e := e) hil
    apply W.run 20
    · intro M
      simp (config := { maxSteps := 4000000 }) (disch := first | decide +kernel | omega) only [c24b1, c24, Try.f24, Option.getD_some, sub_seq1, sub_seq0, sub_block, sub_loop, sub_nil, sub_cond0, exec_region, runOps_cons, opF_move, ev_tmp, T.get_set, Nat.reduceEqDiff, g5, if_false, evG_some, putT_some, if_true, opF_load, h7, opF_indexAddr, opF_store, putT_none, runOps_nil, R.ok_bind, hea, hidx, s2]
      with_reducible rfl
    refine hK _ C2 bo xo (by rw [hone]; exact w2) (by omega) (fun y hy hyb => k2 y (hyb h0)) (.inl ⟨rfl, h0⟩) ?_
    unfold wiS; simp only [Sl_cons, Sl_nil, T.get_set, T.puts_cons, T.puts_nil, Nat.reduceEqDiff, Nat.reduceAdd, if_true, if_false, and_true, true_and, g5, g12, g13, g14]
  | false =>
    refine W.cond (p := false) ?_ (fun h => by cases h) (fun _ => ?_)
    · simp only [ev_tmp, T.get_set, Nat.reduceEqDiff, if_true, if_false, evG_some]
    rw [his, if_neg (by decide)] at hone
    have hbo : own ≠ [] → bo < C.next := fun h0 => by
      rcases ho with ⟨_, h⟩ | ⟨_, _, h, _⟩
      · exact absurd h h0
      · exact h
    have ho2 : EntW (C.alloc (rowOb 45 (entC e))) bo own xo := ho.same (by rw [next_alloc]; omega) (fun h => get_alloc_ne (by omega))
    have hcall : ∀ ih, ∃ A', callF tb4 ih (.fn 37 [xo, .int .i64 (i : Int), .slice (some ⟨C.next, 0, none⟩) 1 2]) (C.alloc (rowOb 45 (entC e))) = .ok (.val (.slice (some ⟨C.next + 1, 0, none⟩) (own.length + 1) (mkX (own.length + 1) 3)) A') ∧
      EntW A' (C.next + 1) (own.take i ++ e :: own.drop i) (.slice (some ⟨C.next + 1, 0, none⟩) (own.length + 1) (mkX (own.length + 1) 3)) ∧ A'.next = C.next + 1 + 1 ∧ ∀ y, y < C.next + 1 → (own ≠ [] → y ≠ bo) → A'.get y = (C.alloc (rowOb 45 (entC e))).get y := fun ih => ins_call ho2 (get_alloc_self _ _) hp.1 (by omega)
    obtain ⟨A', hc0, w2, n2, k2⟩ := hcall (exec tb4 0)
    have hc : ∀ ih, callF tb4 ih (.fn 37 [xo, .int .i64 (i : Int), .slice (some ⟨C.next, 0, none⟩) 1 2]) (C.alloc (rowOb 45 (entC e))) = .ok (.val (.slice (some ⟨C.next + 1, 0, none⟩) (own.length + 1) (mkX (own.length + 1) 3)) A') := fun ih => by
      rw [← hc0]
      unfold callF
      simp only [show tb4.fn.get 37 = some Try.f37 from fn_at Try.func37, show tb4.hk.get 37 = some (insHook 45 3) by kernel_rfl, show Try.f37.body = some c37 by kernel_rfl]
    apply W.run 20
    · intro M
      simp (config := { maxSteps := 4000000 }) (disch := first | decide +kernel | omega) only [c24b1, c24, Try.f24, Option.getD_some, sub_seq1, sub_seq0, sub_block, sub_loop, sub_nil, sub_cond1, exec_region, runOps_cons, opF_move, ev_tmp, T.get_set, Nat.reduceEqDiff, g5, if_false, evG_some, putT_some, if_true, opF_load, h7, opF_buildSlice, evp, R.ok_bind, opF_call, evs, resK, opF_assign, runOps_nil, hea, bs45, at_slc, hc]
      with_reducible rfl
    refine hK _ A' (C.next + 1) _ (by rw [hone]; exact w2) (by omega) (fun y hy hyb => by rw [k2 y (by omega) hyb, get_alloc_ne (by omega)]) (.inr (by omega)) ?_
    unfold wiS; simp only [Sl_cons, Sl_nil, T.get_set, T.puts_cons, T.puts_nil, Nat.reduceEqDiff, Nat.reduceAdd, if_true, if_false, and_true, true_and, g5, g12, g13, g14]
end Go.Proofs.Ytnelkapmmgggdaa.mdl

/-
  Model: entry.With, whole.
-/
namespace Go.Proofs.Ytnelkapmmgggdaa.mdl
open Go.Am Go.Mdl
set_option linter.unusedSimpArgs false
set_option linter.unusedVariables false
set_option linter.unusedVariables false

theorem one_le {e : EntD} {l : List EntD} (h : Asc l) : (one e l).length ≤ l.length + 1 := by
  have := len_one (e := e) h
  split at this <;> omega
set_option maxHeartbeats 4000000 in
set_option maxRecDepth 20000 in
theorem run_with {A : Mem} {b bm : Nat} {own more : List EntD} {x xm : Value} (hx : EntS A b own x) (hm : EntS A bm more xm) (hbm : more ≠ [] → bm < A.next) (ha : Asc own) (hl : own.length + more.length < 1000000) :
    ∃ y A' bo, Ans tb4 24 [x, xm] A y A' ∧ EntW A' bo (withL own more) y ∧ A.next ≤ A'.next ∧ A.next ≤ bo ∧ ∀ z, z < A.next → A'.get z = A.get z := by
  obtain ⟨v, A', hg, bo, h1, h2, h3, h4⟩ : ∃ v A', Ans tb4 24 [x, xm] A v A' ∧ ∃ bo, EntW A' bo (withL own more) v ∧ A.next ≤ A'.next ∧ A.next ≤ bo ∧ ∀ z, z < A.next → A'.get z = A.get z := by
    refine ans_of_W (fn_at Try.func24) c24_eq (by rw [Try.ntmps24]; simp) (by kernel_rfl) (by kernel_rfl) ?_
    obtain ⟨y0, A0, happ, w0, n0, n0', k0⟩ := app_nil hx (by omega)
    have hlen : builtinPF tb4 .len [32] [xm] = .ok (.int .i64 ((more.length : Nat) : Int)) := by
      have := hm.len (tb := tb4) und32'
      rwa [List.length_map] at this
    apply W.seq
    apply W.run 20
    · intro M
      simp (config := { maxSteps := 4000000 }) (disch := first | decide +kernel | omega) only [c24, Try.f24, Option.getD_some, sub_seq0, sub_nil, T.puts_cons, Nat.reduceAdd, T.puts_nil, exec_region, runOps_cons, opF_assign, ev_nilslice, putT_some, runOps_nil, R.ok_bind]
      with_reducible rfl
    show W tb4 _ _ _
    apply W.seq
    apply W.run 20
    · intro M
      simp (config := { maxSteps := 4000000 }) (disch := first | decide +kernel | omega) only [c24, Try.f24, Option.getD_some, sub_seq1, sub_seq0, sub_nil, exec_region, runOps_cons, opF_move, ev_tmp, T.get_set, Nat.reduceEqDiff, T.get_e, if_true, if_false, evG_some, putT_some, opF_builtin, evs, ev_nilslice, R.ok_bind, opF_assign, runOps_nil, builtin_append, happ]
      with_reducible rfl
    show W tb4 _ _ _
    apply W.seq
    apply W.seq
    apply W.run 20
    · intro M
      simp (config := { maxSteps := 4000000 }) (disch := first | decide +kernel | omega) only [c24, Try.f24, Option.getD_some, sub_seq1, sub_seq0, sub_nil, exec_region, runOps_cons, opF_move, ev_tmp, T.get_set, Nat.reduceEqDiff, T.get_e, if_false, if_true, evG_some, putT_some, opF_len, evs, R.ok_bind, ev_int, runOps_nil, hlen]
      with_reducible rfl
    show W tb4 _ _ _
    apply W.block
    refine W.fall (fun m t C => ∃ k bo xo own', m = more.length - k ∧ k ≤ more.length ∧ EntW C bo own' xo ∧ Asc own' ∧ own'.length ≤ own.length + k ∧ withL own' (more.drop k) = withL own more ∧ A.next ≤ C.next ∧ A.next ≤ bo ∧ (∀ z, z < A.next → C.get z = A.get z) ∧ Sl t (wiS xo xm more.length k)) ?_ (k := more.length) ⟨0, A.next, y0, own, rfl, Nat.zero_le _, w0, ha, Nat.le_refl _, rfl, n0, Nat.le_refl _, k0, ?_⟩
    · rintro m t C ⟨k, bo, xo, own', rfl, hk, hw, has, hle, heq, hn, hbo, hgs, hs⟩
      obtain ⟨g5, g12, g13, g14, -⟩ := hs
      rw [c24b1_eq]
      apply W.seq
      by_cases hlt : k < more.length
      · have hne : more ≠ [] := by rintro rfl; simp at hlt
        have hbm' := hbm hne
        have hm' : EntS C bm more xm := hm.same hn (fun h => hgs _ h)
        have he : more[k]? = some more[k] := List.getElem?_eq_getElem hlt
        apply W.run 20
        · intro M
          simp (config := { maxSteps := 4000000 }) (disch := first | decide +kernel | omega) only [c24b1, c24, Try.f24, Option.getD_some, sub_seq1, sub_seq0, sub_block, sub_loop, sub_nil, exec_region, runOps_cons, opF_ari, ev_tmp, g14, evG_some, g13, putT_some, runOps_nil, R.ok_bind, binF_int, op_lssI, cast_lt, hlt, decide_true]
          with_reducible rfl
        show W tb4 _ _ _
        apply W.seq
        apply W.run 20
        · intro M
          simp (config := { maxSteps := 4000000 }) (disch := first | decide +kernel | omega) only [c24b1, c24, Try.f24, Option.getD_some, sub_seq1, sub_seq0, sub_block, sub_loop, sub_nil, exec_cond, ev_tmp, T.get_set, if_true, evG_some, exec_skip, exec_exit, R.ok_bind]
          with_reducible rfl
        show W tb4 _ _ _
        apply W.seq
        apply W.block
        refine with_own (xo := xo) (n := more.length) hm' (by omega) he (by unfold wiS; simp only [Sl_cons, Sl_nil, T.get_set, T.puts_cons, T.puts_nil, Nat.reduceEqDiff, Nat.reduceAdd, if_true, if_false, and_true, true_and, g5, g12, g13, g14]) fun t1 C1 v1 n1 k1 s1 h7 => ?_
        have hbo' : own' ≠ [] → bo < C.next := fun h0 => by
          rcases hw with ⟨_, h⟩ | ⟨_, _, h, _⟩
          · exact absurd h h0
          · exact h
        refine with_rest (hw.same (by omega) (fun h => k1 _ h)) v1 (fun h0 => by have := hbo' h0; omega) (by omega) has (by omega) s1 h7 fun t2 C2 bo2 xo2 w2 n2 k2 hb2 s2 => ?_
        obtain ⟨f5, f12, f13, f14, -⟩ := s2
        show W tb4 _ _ _
        apply W.run 20
        · intro M
          simp (config := { maxSteps := 4000000 }) (disch := first | decide +kernel | omega) only [c24b1, c24, Try.f24, Option.getD_some, sub_seq1, sub_seq0, sub_block, sub_loop, sub_nil, exec_region, runOps_cons, opF_ari, ev_tmp, f14, evG_some, ev_int, putT_some, opF_move, T.get_set, if_true, runOps_nil, R.ok_bind, binF_int, op_add_i64]
          with_reducible rfl
        refine ⟨more.length - (k + 1), _, _, by omega, rfl, k + 1, bo2, xo2, one (norm more[k]) own', rfl, by omega, w2, one_asc has, ?_, ?_, by omega, ?_, fun z hz => ?_, ?_⟩
        · have := one_le (e := norm more[k]) has; omega
        · rw [← heq, List.drop_eq_getElem_cons hlt]; rfl
        · rcases hb2 with ⟨h, _⟩ | h <;> omega
        · rw [k2 z (by omega) (fun h0 => by omega), k1 z (by omega)]
          exact hgs z hz
        · unfold wiS; simp only [Sl_cons, Sl_nil, T.get_set, T.puts_cons, T.puts_nil, Nat.reduceEqDiff, Nat.reduceAdd, if_true, if_false, and_true, true_and, f5, f12, f13, f14]
      · have hkl : k = more.length := by omega
        apply W.run 20
        · intro M
          simp (config := { maxSteps := 4000000 }) (disch := first | decide +kernel | omega) only [c24b1, c24, Try.f24, Option.getD_some, sub_seq1, sub_seq0, sub_block, sub_loop, sub_nil, exec_region, runOps_cons, opF_ari, ev_tmp, g14, evG_some, g13, putT_some, runOps_nil, R.ok_bind, binF_int, op_lssI, cast_lt, hlt, decide_false]
          with_reducible rfl
        show W tb4 _ _ _
        apply W.seq
        apply W.run 20
        · intro M
          simp (config := { maxSteps := 4000000 }) (disch := first | decide +kernel | omega) only [c24b1, c24, Try.f24, Option.getD_some, sub_seq1, sub_seq0, sub_block, sub_loop, sub_nil, exec_cond, ev_tmp, T.get_set, if_true, evG_some, exec_skip, exec_exit, R.ok_bind]
          with_reducible rfl
        show W tb4 _ _ _
        apply W.seq
        apply W.run 20
        · intro M
          simp (config := { maxSteps := 4000000 }) (disch := first | decide +kernel | omega) only [c24, Try.f24, Option.getD_some, sub_seq1, sub_seq0, sub_nil, exec_region, runOps_cons, opF_move, ev_tmp, T.get_set, Nat.reduceEqDiff, g5, if_false, evG_some, putT_some, opF_assign, if_true, runOps_nil, R.ok_bind]
          with_reducible rfl
        show W tb4 _ _ _
        apply W.run 20
        · intro M
          simp (config := { maxSteps := 4000000 }) (disch := first | decide +kernel | omega) only [c24, Try.f24, Option.getD_some, sub_seq1, sub_nil, exec_ret]
          with_reducible rfl
        refine ⟨.inr rfl, C, [xo], rfl, ?_, bo, ?_, hn, hbo, hgs⟩
        · simp only [Try.f24, resF, ev_tmp, T.get_set, Nat.reduceEqDiff, if_true, if_false, evG_some, R.ok_bind]
        · rw [hkl, List.drop_length] at heq
          have : withL own' [] = own' := rfl
          rw [this] at heq
          rw [← heq]; exact hw
    · unfold wiS; simp only [Sl_cons, Sl_nil, T.get_set, T.puts_cons, T.puts_nil, Nat.reduceEqDiff, Nat.reduceAdd, if_true, if_false, and_true, true_and]
  exact ⟨v, A', bo, hg, h1, h2, h3, h4⟩
end Go.Proofs.Ytnelkapmmgggdaa.mdl

/-
  Model: entry.Live.
-/
namespace Go.Proofs.Ytnelkapmmgggdaa.mdl
open Go.Am Go.Mdl
set_option linter.unusedSimpArgs false
set_option linter.unusedVariables false
set_option linter.unusedVariables false

noncomputable def c23 : Code := Try.f23.body.getD .skip
noncomputable def c23b1 : Code := sub c23 [1,0,1,0,0]
theorem c23_eq : Try.f23.body = some (.seq (sub c23 [0]) (.seq (.seq (sub c23 [1,0,0]) (.block 0 (.loop c23b1))) (.seq (sub c23 [1,1,0]) (sub c23 [1,1,1])))) := by kernel_rfl
theorem c23b1_eq : c23b1 = .seq (sub c23b1 [0]) (.seq (sub c23b1 [1,0]) (.seq (.block 1 (.seq (sub c23b1 [1,1,0,0,0]) (.seq (sub c23b1 [1,1,0,0,1,0]) (.cond (.tmp 13) (sub c23b1 [1,1,0,0,1,1,0]) .skip)))) (sub c23b1 [1,1,1]))) := by kernel_rfl
def liS (xo xm : Value) (n k : Nat) : List (Nat × Value) := [(2, xo), (5, xm), (6, .int .i64 (n : Int)), (7, .int .i64 (k : Int))]
theorem entC_one (e : EntD) : ∀ v ∈ entC e, oneCell v = true := by
  intro v hv
  unfold entC at hv
  simp only [List.mem_cons, List.not_mem_nil, or_false] at hv
  rcases hv with rfl | rfl | rfl <;> rfl
set_option maxHeartbeats 4000000 in
set_option maxRecDepth 20000 in
theorem live_round {C : Mem} {bo bm k n : Nat} {l out : List EntD} {e : EntD} {xo xm : Value} {t : T Value} {K : Ex → St → Prop} (ho : EntS C bo out xo) (hol : out.length < 1000000) (hnil : out = [] → xo = .slice none 0 0) (hm : EntS C bm l xm) (hbm : bm < C.next) (he : l[k]? = some e) (ht : Sl t (liS xo xm n k))
    (hK : ∀ (t' : T Value) (C' : Mem) (bo' : Nat) (xo' : Value), EntS C' bo' (out ++ Go.Mdl.live [e]) xo' → C.next ≤ C'.next → (∀ y, y < C.next → (out ≠ [] → y ≠ bo) → C'.get y = C.get y) → ((bo' = bo ∧ Go.Mdl.live [e] = []) ∨ C.next ≤ bo') → (out ++ Go.Mdl.live [e] = [] → xo' = .slice none 0 0) → Sl t' (liS xo' xm n k) → K .nrm ⟨t', 20, [], C', none⟩) :
    W tb4 (.seq (sub c23b1 [1,1,0,0,0]) (.seq (sub c23b1 [1,1,0,0,1,0]) (.cond (.tmp 13) (sub c23b1 [1,1,0,0,1,1,0]) .skip))) ⟨t, 20, [], C, none⟩ K := by
  obtain ⟨g2, g5, g6, g7, -⟩ := ht
  obtain ⟨d45, hd1, hd2⟩ := und45'
  obtain ⟨ti, hti, hb1, hb2⟩ := ty45'
  have hkl : k < l.length := (List.getElem?_eq_some_iff.1 he).1
  have hidx : indexAddrF tb4 32 xm (.int .i64 ((k : Nat) : Int)) = .ok (.pointer (some ⟨bm, k * 3, none⟩)) := hm.idx und32' size45' (by rw [List.length_map]; exact hkl)
  have hld : loadF tb4 C.get 45 (.pointer (some ⟨bm, k * 3, none⟩)) = .ok (.agg ⟨entC e⟩) := hm.load_all hd1 hd2 size45' (by rw [List.getElem?_map, he]; rfl)
  have hz : Vals (C.alloc (rowOb 45 [.string .empty, .int .u32 0, .bool false])) 45 C.next (.var 3) [.string .empty, .int .u32 0, .bool false] := vals_puts (get_alloc_self _ _)
  obtain ⟨C1, s1, v1, n1, k1⟩ := store_all (tb := tb4) (t := 45) (l := [.string .empty, .int .u32 0, .bool false]) (l' := entC e) size45' hz rfl (by simp) (entC_one e)
  have n1' : C1.next = C.next + 1 := n1
  have hk1 : ∀ y, y < C.next → C1.get y = C.get y := fun y hy => by rw [k1 y (by omega), get_alloc_ne (by omega)]
  have hg : loadF tb4 C1.get 4 (.pointer (some ⟨C.next, 2, none⟩)) = .ok (.bool e.gone) := load_vals und4' rfl v1 rfl
  have hea : loadF tb4 C1.get 45 (.pointer (some ⟨C.next, 0, none⟩)) = .ok (.agg ⟨entC e⟩) := load_all hd1 hd2 size45' v1
  have ho1 : EntS C1 bo out xo := by
    by_cases h0 : out = []
    · subst h0
      rcases ho with h | ⟨k, c, h1, h2, h3⟩
      · exact .inl h
      · exact SlcM.same (.inr ⟨k, c, h1, h2, h3⟩) (by omega) (fun h => hk1 _ h)
    · exact ho.same (by omega) (fun h => hk1 _ h)
  apply W.seq
  apply W.run 20
  · intro M
    simp (config := { maxSteps := 4000000 }) (disch := first | decide +kernel | omega) only [c23b1, c23, Try.f23, Option.getD_some, sub_seq1, sub_seq0, sub_block, sub_loop, sub_nil, exec_region, runOps_cons, opF_indexAddr, ev_tmp, g5, evG_some, g7, putT_some, opF_load, T.get_set, if_true, opF_alloc, z45, at_ptr, opF_store, Nat.reduceEqDiff, if_false, putT_none, runOps_nil, R.ok_bind, cells_agg, hidx, hld, s1]
    with_reducible rfl
  show W tb4 _ _ _
  apply W.seq
  apply W.run 20
  · intro M
    simp (config := { maxSteps := 4000000 }) (disch := first | decide +kernel | omega) only [c23b1, c23, Try.f23, Option.getD_some, sub_seq1, sub_seq0, sub_block, sub_loop, sub_nil, exec_region, runOps_cons, opF_fieldAddr, ev_tmp, T.get_set, Nat.reduceEqDiff, if_false, if_true, evG_some, putT_some, opF_load, opF_un, runOps_nil, R.ok_bind, fb2, hg, un_not]
    with_reducible rfl
  show W tb4 _ _ _
  cases hgo : e.gone with
  | true =>
    have hlv : Go.Mdl.live [e] = [] := by unfold Go.Mdl.live; rw [List.filter_cons, hgo]; rfl
    refine W.cond (p := false) ?_ (fun h => by cases h) (fun _ => ?_)
    · simp only [ev_tmp, T.get_set, Nat.reduceEqDiff, if_true, if_false, evG_some, Bool.not_true]
    apply W.run 20
    · intro M
      simp (config := { maxSteps := 4000000 }) (disch := first | decide +kernel | omega) only [Bool.not_true, exec_skip]
      with_reducible rfl
    refine hK _ C1 bo xo (by rw [hlv, List.append_nil]; exact ho1) (by omega) (fun y hy _ => hk1 y hy) (.inl ⟨rfl, hlv⟩) (fun h => hnil (List.append_eq_nil_iff.1 h).1) ?_
    unfold liS; simp only [Sl_cons, Sl_nil, T.get_set, T.puts_cons, T.puts_nil, Nat.reduceEqDiff, Nat.reduceAdd, if_true, if_false, and_true, true_and, g2, g5, g6, g7]
  | false =>
    have hlv : Go.Mdl.live [e] = [e] := by unfold Go.Mdl.live; rw [List.filter_cons, hgo]; rfl
    refine W.cond (p := true) ?_ (fun _ => ?_) (fun h => by cases h)
    · simp only [ev_tmp, T.get_set, Nat.reduceEqDiff, if_true, if_false, evG_some, Bool.not_false]
    have ho2 : EntS (C1.alloc (rowOb 45 (entC e))) bo out xo := ho1.same (by rw [next_alloc]; omega) (fun h => get_alloc_ne (by omega))
    obtain ⟨x', C2, happ, w2, n2, k2⟩ := ho2.append (st := 32) (xt := 32) und32' und32' zc45' hti hb1 hb2 (by decide) (by decide) (by rw [List.length_map]; omega) (get_alloc_self _ _) rfl (entC_one e)
    rw [next_alloc] at n2 w2
    apply W.run 20
    · intro M
      simp (config := { maxSteps := 4000000 }) (disch := first | decide +kernel | omega) only [c23b1, c23, Try.f23, Option.getD_some, sub_seq1, sub_seq0, sub_block, sub_loop, sub_nil, sub_cond0, Bool.not_false, exec_region, runOps_cons, opF_move, ev_tmp, T.get_set, Nat.reduceEqDiff, g2, if_false, evG_some, putT_some, opF_load, if_true, opF_buildSlice, evp, R.ok_bind, opF_builtin, evs, opF_assign, runOps_nil, builtin_append, hea, bs45, at_slc, happ]
      with_reducible rfl
    refine hK _ C2 (C1.next + 1) x' (by rw [hlv, EntS, List.map_append]; exact w2) (by omega) (fun y hy hyb => ?_) (.inr (by omega)) (fun h => by rw [hlv] at h; simp at h) ?_
    · rw [k2 y (fun e1 => ?_) (by rw [next_alloc]; omega), get_alloc_ne (by omega), hk1 y hy]
      by_cases h0 : out = []
      · exact hnil h0
      · exact absurd e1 (hyb h0)
    · unfold liS; simp only [Sl_cons, Sl_nil, T.get_set, T.puts_cons, T.puts_nil, Nat.reduceEqDiff, Nat.reduceAdd, if_true, if_false, and_true, true_and, g2, g5, g6, g7]
end Go.Proofs.Ytnelkapmmgggdaa.mdl

/-
  Model: entry.Live, whole.
-/
namespace Go.Proofs.Ytnelkapmmgggdaa.mdl
open Go.Am Go.Mdl
set_option linter.unusedSimpArgs false
set_option linter.unusedVariables false
set_option linter.unusedVariables false

theorem live_append (a b : List EntD) : Go.Mdl.live (a ++ b) = Go.Mdl.live a ++ Go.Mdl.live b := List.filter_append ..
set_option maxHeartbeats 4000000 in
set_option maxRecDepth 20000 in
theorem run_live {A : Mem} {bm : Nat} {l : List EntD} {xm : Value} (hm : EntS A bm l xm) (hbm : l ≠ [] → bm < A.next) (hl : l.length < 1000000) :
    ∃ y A' bo, Ans tb4 23 [xm] A y A' ∧ EntS A' bo (Go.Mdl.live l) y ∧ A.next ≤ A'.next ∧ A.next ≤ bo ∧ (Go.Mdl.live l = [] → y = .slice none 0 0) ∧ ∀ z, z < A.next → A'.get z = A.get z := by
  obtain ⟨v, A', hg, bo, h1, h2, h3, h4, h5⟩ : ∃ v A', Ans tb4 23 [xm] A v A' ∧ ∃ bo, EntS A' bo (Go.Mdl.live l) v ∧ A.next ≤ A'.next ∧ A.next ≤ bo ∧ (Go.Mdl.live l = [] → v = .slice none 0 0) ∧ ∀ z, z < A.next → A'.get z = A.get z := by
    refine ans_of_W (fn_at Try.func23) c23_eq (by rw [Try.ntmps23]; simp) (by kernel_rfl) (by kernel_rfl) ?_
    have hlen : builtinPF tb4 .len [32] [xm] = .ok (.int .i64 ((l.length : Nat) : Int)) := by
      have := hm.len (tb := tb4) und32'
      rwa [List.length_map] at this
    apply W.seq
    apply W.run 20
    · intro M
      simp (config := { maxSteps := 4000000 }) (disch := first | decide +kernel | omega) only [c23, Try.f23, Option.getD_some, sub_seq0, sub_nil, T.puts_cons, Nat.reduceAdd, T.puts_nil, exec_region, runOps_cons, opF_assign, ev_nilslice, putT_some, runOps_nil, R.ok_bind]
      with_reducible rfl
    show W tb4 _ _ _
    apply W.seq
    apply W.seq
    apply W.run 20
    · intro M
      simp (config := { maxSteps := 4000000 }) (disch := first | decide +kernel | omega) only [c23, Try.f23, Option.getD_some, sub_seq1, sub_seq0, sub_nil, exec_region, runOps_cons, opF_move, ev_tmp, T.get_set, Nat.reduceEqDiff, T.get_e, if_true, if_false, evG_some, putT_some, opF_len, evs, R.ok_bind, ev_int, runOps_nil, hlen]
      with_reducible rfl
    show W tb4 _ _ _
    apply W.block
    refine W.fall (fun m t C => ∃ k bo xo, m = l.length - k ∧ k ≤ l.length ∧ EntS C bo (Go.Mdl.live (l.take k)) xo ∧ (Go.Mdl.live (l.take k) = [] → xo = .slice none 0 0) ∧ A.next ≤ C.next ∧ A.next ≤ bo ∧ (∀ z, z < A.next → C.get z = A.get z) ∧ Sl t (liS xo xm l.length k)) ?_ (k := l.length) ⟨0, A.next, .slice none 0 0, rfl, Nat.zero_le _, .inl ⟨rfl, rfl⟩, fun _ => rfl, Nat.le_refl _, Nat.le_refl _, fun _ _ => rfl, ?_⟩
    · rintro m t C ⟨k, bo, xo, rfl, hk, hw, hnil, hn, hbo, hgs, hs⟩
      obtain ⟨g2, g5, g6, g7, -⟩ := hs
      rw [c23b1_eq]
      apply W.seq
      by_cases hlt : k < l.length
      · have hne : l ≠ [] := by rintro rfl; simp at hlt
        have hbm' := hbm hne
        have hm' : EntS C bm l xm := hm.same hn (fun h => hgs _ h)
        have he : l[k]? = some l[k] := List.getElem?_eq_getElem hlt
        have hol : (Go.Mdl.live (l.take k)).length < 1000000 := by
          have h1 := live_le (l.take k)
          rw [List.length_take] at h1
          omega
        apply W.run 20
        · intro M
          simp (config := { maxSteps := 4000000 }) (disch := first | decide +kernel | omega) only [c23b1, c23, Try.f23, Option.getD_some, sub_seq1, sub_seq0, sub_block, sub_loop, sub_nil, exec_region, runOps_cons, opF_ari, ev_tmp, g7, evG_some, g6, putT_some, runOps_nil, R.ok_bind, binF_int, op_lssI, cast_lt, hlt, decide_true]
          with_reducible rfl
        show W tb4 _ _ _
        apply W.seq
        apply W.run 20
        · intro M
          simp (config := { maxSteps := 4000000 }) (disch := first | decide +kernel | omega) only [c23b1, c23, Try.f23, Option.getD_some, sub_seq1, sub_seq0, sub_block, sub_loop, sub_nil, exec_cond, ev_tmp, T.get_set, if_true, evG_some, exec_skip, exec_exit, R.ok_bind]
          with_reducible rfl
        show W tb4 _ _ _
        apply W.seq
        apply W.block
        refine live_round (xo := xo) (n := l.length) hw hol hnil hm' (by omega) he (by unfold liS; simp only [Sl_cons, Sl_nil, T.get_set, T.puts_cons, T.puts_nil, Nat.reduceEqDiff, Nat.reduceAdd, if_true, if_false, and_true, true_and, g2, g5, g6, g7]) fun t2 C2 bo2 xo2 w2 n2 k2 hb2 hnil2 s2 => ?_
        obtain ⟨f2, f5, f6, f7, -⟩ := s2
        have e1 : Go.Mdl.live (l.take (k + 1)) = Go.Mdl.live (l.take k) ++ Go.Mdl.live [l[k]] := by
          rw [← live_append, List.take_succ_eq_append_getElem hlt]
        show W tb4 _ _ _
        apply W.run 20
        · intro M
          simp (config := { maxSteps := 4000000 }) (disch := first | decide +kernel | omega) only [c23b1, c23, Try.f23, Option.getD_some, sub_seq1, sub_seq0, sub_block, sub_loop, sub_nil, exec_region, runOps_cons, opF_ari, ev_tmp, f7, evG_some, ev_int, putT_some, opF_move, T.get_set, if_true, runOps_nil, R.ok_bind, binF_int, op_add_i64]
          with_reducible rfl
        refine ⟨l.length - (k + 1), _, _, by omega, rfl, k + 1, bo2, xo2, rfl, by omega, by rw [e1]; exact w2, by rw [e1]; exact hnil2, by omega, ?_, fun z hz => ?_, ?_⟩
        · rcases hb2 with ⟨h, _⟩ | h <;> omega
        · rw [k2 z (by omega) (fun h0 => by omega)]
          exact hgs z hz
        · unfold liS; simp only [Sl_cons, Sl_nil, T.get_set, T.puts_cons, T.puts_nil, Nat.reduceEqDiff, Nat.reduceAdd, if_true, if_false, and_true, true_and, f2, f5, f6, f7]
      · have hkl : k = l.length := by omega
        apply W.run 20
        · intro M
          simp (config := { maxSteps := 4000000 }) (disch := first | decide +kernel | omega) only [c23b1, c23, Try.f23, Option.getD_some, sub_seq1, sub_seq0, sub_block, sub_loop, sub_nil, exec_region, runOps_cons, opF_ari, ev_tmp, g7, evG_some, g6, putT_some, runOps_nil, R.ok_bind, binF_int, op_lssI, cast_lt, hlt, decide_false]
          with_reducible rfl
        show W tb4 _ _ _
        apply W.seq
        apply W.run 20
        · intro M
          simp (config := { maxSteps := 4000000 }) (disch := first | decide +kernel | omega) only [c23b1, c23, Try.f23, Option.getD_some, sub_seq1, sub_seq0, sub_block, sub_loop, sub_nil, exec_cond, ev_tmp, T.get_set, if_true, evG_some, exec_skip, exec_exit, R.ok_bind]
          with_reducible rfl
        show W tb4 _ _ _
        apply W.seq
        apply W.run 20
        · intro M
          simp (config := { maxSteps := 4000000 }) (disch := first | decide +kernel | omega) only [c23, Try.f23, Option.getD_some, sub_seq1, sub_seq0, sub_nil, exec_region, runOps_cons, opF_move, ev_tmp, T.get_set, Nat.reduceEqDiff, g2, if_false, evG_some, putT_some, opF_assign, if_true, runOps_nil, R.ok_bind]
          with_reducible rfl
        show W tb4 _ _ _
        apply W.run 20
        · intro M
          simp (config := { maxSteps := 4000000 }) (disch := first | decide +kernel | omega) only [c23, Try.f23, Option.getD_some, sub_seq1, sub_nil, exec_ret]
          with_reducible rfl
        rw [hkl, List.take_length] at hw hnil
        refine ⟨.inr rfl, C, [xo], rfl, ?_, bo, hw, hn, hbo, hnil, hgs⟩
        simp only [Try.f23, resF, ev_tmp, T.get_set, Nat.reduceEqDiff, if_true, if_false, evG_some, R.ok_bind]
    · unfold liS; simp only [Sl_cons, Sl_nil, T.get_set, T.puts_cons, T.puts_nil, Nat.reduceEqDiff, Nat.reduceAdd, if_true, if_false, and_true, true_and]
  exact ⟨v, A', bo, hg, h1, h2, h3, h4, h5⟩
end Go.Proofs.Ytnelkapmmgggdaa.mdl

/-
  Model: entry.Find.
-/
namespace Go.Proofs.Ytnelkapmmgggdaa.mdl
open Go.Am Go.Mdl
set_option linter.unusedSimpArgs false
set_option linter.unusedVariables false
set_option linter.unusedVariables false

theorem find_pos {w : List UInt8} : ∀ {l : List EntD} {i : Nat}, Asc l → Pos l w i → find w l = if isAt l w i = true then l[i]? else none
  | [], i, _, h => by
    have hat : isAt [] w i = false := by unfold isAt; rw [List.getElem?_nil]
    rw [hat]; rfl
  | x :: l, 0, ha, h => by
    have hx := h.2.2 0 x (Nat.le_refl _) rfl
    have hat : isAt (x :: l) w 0 = decide (x.word = w) := rfl
    rw [hat]
    by_cases hw : x.word = w
    · rw [if_pos (by simp [hw])]
      simp [find, hw]
    · rw [if_neg (by simp [hw])]
      have hlt : lt w x.word := Classical.byContradiction fun hn => hw (lt_tri hx hn)
      refine find_none fun y hy hyw => ?_
      rcases List.mem_cons.1 hy with rfl | hy
      · exact hw hyw
      · have := lt_tr hlt (ha.1 y hy)
        rw [hyw] at this
        exact lt_irr _ this
  | x :: l, i + 1, ha, h => by
    obtain ⟨h1, h2⟩ := h.tail
    have ih := find_pos ha.2 h1
    have hne : x.word ≠ w := fun hh => lt_irr w (by rwa [hh] at h2)
    have hat : isAt (x :: l) w (i + 1) = isAt l w i := by unfold isAt; rw [List.getElem?_cons_succ]
    rw [show find w (x :: l) = find w l by simp [find, hne], ih, hat, List.getElem?_cons_succ]
def zeroE : EntD := ⟨[], 0, false⟩
noncomputable def c28 : Code := Try.f28.body.getD .skip
theorem c28_eq : Try.f28.body = some (.seq (sub c28 [0]) (.seq (sub c28 [1,0]) (.seq (.seq (sub c28 [1,1,0,0]) (.cond (.tmp 15) (sub c28 [1,1,0,1,0]) .skip)) (.seq (sub c28 [1,1,1,0]) (sub c28 [1,1,1,1]))))) := by kernel_rfl
theorem c28_n : sub c28 [1,1,0,1,0] = .seq (sub c28 [1,1,0,1,0,0]) (sub c28 [1,1,0,1,0,1]) := by kernel_rfl
set_option maxHeartbeats 4000000 in
set_option maxRecDepth 20000 in
theorem run_find {A : Mem} {b : Nat} {l : List EntD} {x : Value} {w : List UInt8} (h : EntS A b l x) (hb : l ≠ [] → b < A.next) (ha : Asc l) (hl : l.length < 1000000) :
    ∃ A', Ans tb4 28 [x, strOf w] A (.tuple ⟨[.agg ⟨entC ((find w l).getD zeroE)⟩, .bool (find w l).isSome]⟩) A' ∧ A.next ≤ A'.next ∧ ∀ z, z < A.next → A'.get z = A.get z := by
  obtain ⟨v, A', hg, rfl, h1, h2⟩ : ∃ v A', Ans tb4 28 [x, strOf w] A v A' ∧ v = .tuple ⟨[.agg ⟨entC ((find w l).getD zeroE)⟩, .bool (find w l).isSome]⟩ ∧ A.next ≤ A'.next ∧ ∀ z, z < A.next → A'.get z = A.get z := by
    refine ans_of_W (fn_at Try.func28) c28_eq (by rw [Try.ntmps28]; simp) (by kernel_rfl) (by kernel_rfl) ?_
    obtain ⟨d45, hd1, hd2⟩ := und45'
    have hz : Vals (A.alloc (rowOb 45 [.string .empty, .int .u32 0, .bool false])) 45 A.next (.var 3) [.string .empty, .int .u32 0, .bool false] := vals_puts (get_alloc_self _ _)
    have h' : EntS (A.alloc (rowOb 45 [.string .empty, .int .u32 0, .bool false])) b l x := by
      by_cases h0 : l = []
      · subst h0
        rcases h with h | ⟨k, c, e1, e2, e3⟩
        · exact .inl h
        · exact SlcM.same (.inr ⟨k, c, e1, e2, e3⟩) (by rw [next_alloc]; omega) (fun h => get_alloc_ne (by omega))
      · exact h.same (by rw [next_alloc]; omega) (fun h => get_alloc_ne (by omega))
    obtain ⟨i, hp, g, hg⟩ := run_bs (w := w) h' ha (by omega)
    have hf := find_pos ha hp
    apply W.seq
    apply W.run 20
    · intro M
      simp (config := { maxSteps := 4000000 }) (disch := first | decide +kernel | omega) only [c28, Try.f28, Option.getD_some, sub_seq0, sub_nil, T.puts_cons, Nat.reduceAdd, T.puts_nil, exec_region, runOps_cons, opF_alloc, z45, at_ptr, putT_some, opF_assign, ev_bool, runOps_nil, R.ok_bind, cells_agg]
      with_reducible rfl
    show W tb4 _ _ _
    apply W.seq
    apply W.runG (g) 20
    · intro M hM
      simp (config := { maxSteps := 4000000 }) (disch := first | decide +kernel | omega) only [c28, Try.f28, Option.getD_some, sub_seq1, sub_seq0, sub_nil, exec_region, runOps_cons, opF_move, ev_tmp, T.get_set, Nat.reduceEqDiff, T.get_e, if_true, if_false, evG_some, putT_some, opF_call, evs, ev_f36, R.ok_bind, resK, opF_extract, extractF, opF_assign, runOps_nil, hg, List.getElem?_cons_zero, List.getElem?_cons_succ]
      with_reducible rfl
    show W tb4 _ _ _
    apply W.seq
    apply W.seq
    apply W.run 20
    · intro M
      simp (config := { maxSteps := 4000000 }) (disch := first | decide +kernel | omega) only [c28, Try.f28, Option.getD_some, sub_seq1, sub_seq0, sub_nil, exec_region, runOps_cons, opF_move, ev_tmp, T.get_set, Nat.reduceEqDiff, T.get_e, if_false, if_true, evG_some, putT_some, opF_un, runOps_nil, R.ok_bind, un_not]
      with_reducible rfl
    show W tb4 _ _ _
    cases his : isAt l w i with
    | false =>
      rw [his, if_neg (by decide)] at hf
      obtain ⟨C1, s1, v1, n1, k1⟩ := store_all (tb := tb4) (t := 45) (l := [.string .empty, .int .u32 0, .bool false]) (l' := entC zeroE) size45' hz rfl (by simp) (entC_one _)
      have hld : loadF tb4 C1.get 45 (.pointer (some ⟨A.next, 0, none⟩)) = .ok (.agg ⟨entC zeroE⟩) := load_all hd1 hd2 size45' v1
      have hbz : buildF tb4 45 [] = .ok (.agg ⟨entC zeroE⟩) := by kernel_rfl
      refine W.cond (p := true) ?_ (fun _ => ?_) (fun h => by cases h)
      · simp only [ev_tmp, T.get_set, Nat.reduceEqDiff, if_true, if_false, evG_some, Bool.not_false]
      rw [c28_n]
      apply W.seq
      apply W.run 20
      · intro M
        simp (config := { maxSteps := 4000000 }) (disch := first | decide +kernel | omega) only [c28, Try.f28, Option.getD_some, sub_seq1, sub_seq0, sub_cond0, sub_nil, Bool.not_false, exec_region, runOps_cons, opF_build, evp, putT_some, opF_store, ev_tmp, T.get_set, Nat.reduceEqDiff, T.get_e, if_false, if_true, evG_some, putT_none, opF_assign, ev_bool, runOps_nil, R.ok_bind, hbz, s1]
        with_reducible rfl
      show W tb4 _ _ _
      apply W.run 20
      · intro M
        simp (config := { maxSteps := 4000000 }) (disch := first | decide +kernel | omega) only [c28, Try.f28, Option.getD_some, sub_seq1, sub_seq0, sub_cond0, sub_nil, exec_ret]
        with_reducible rfl
      refine ⟨.inr rfl, C1, [.agg ⟨entC zeroE⟩, .bool false], rfl, ?_, by rw [hf]; rfl, ?_, fun z hz => ?_⟩
      · simp only [Try.f28, resF, ev_tmp, T.get_set, Nat.reduceEqDiff, if_true, if_false, evG_some, R.ok_bind, hld]
      · rw [n1, next_alloc]; omega
      · rw [k1 z (by omega), get_alloc_ne (by omega)]
    | true =>
      rw [his, if_pos rfl] at hf
      have hil : i < l.length := by
        unfold isAt at his
        rcases Nat.lt_or_ge i l.length with h | h
        · exact h
        · rw [List.getElem?_eq_none h] at his; cases his
      have he : l[i]? = some l[i] := List.getElem?_eq_getElem hil
      have hidx : indexAddrF tb4 32 x (.int .i64 ((i : Nat) : Int)) = .ok (.pointer (some ⟨b, i * 3, none⟩)) := h'.idx und32' size45' (by rw [List.length_map]; exact hil)
      have hld0 : loadF tb4 (A.alloc (rowOb 45 [.string .empty, .int .u32 0, .bool false])).get 45 (.pointer (some ⟨b, i * 3, none⟩)) = .ok (.agg ⟨entC l[i]⟩) := h'.load_all hd1 hd2 size45' (by rw [List.getElem?_map, he]; rfl)
      obtain ⟨C1, s1, v1, n1, k1⟩ := store_all (tb := tb4) (t := 45) (l := [.string .empty, .int .u32 0, .bool false]) (l' := entC l[i]) size45' hz rfl (by simp) (entC_one _)
      have hld : loadF tb4 C1.get 45 (.pointer (some ⟨A.next, 0, none⟩)) = .ok (.agg ⟨entC l[i]⟩) := load_all hd1 hd2 size45' v1
      refine W.cond (p := false) ?_ (fun h => by cases h) (fun _ => ?_)
      · simp only [ev_tmp, T.get_set, Nat.reduceEqDiff, if_true, if_false, evG_some, Bool.not_true]
      apply W.run 20
      · intro M
        simp (config := { maxSteps := 4000000 }) (disch := first | decide +kernel | omega) only [Bool.not_true, exec_skip]
        with_reducible rfl
      show W tb4 _ _ _
      apply W.seq
      apply W.run 20
      · intro M
        simp (config := { maxSteps := 4000000 }) (disch := first | decide +kernel | omega) only [c28, Try.f28, Option.getD_some, sub_seq1, sub_seq0, sub_nil, exec_region, runOps_cons, opF_move, ev_tmp, T.get_set, Nat.reduceEqDiff, T.get_e, if_true, if_false, evG_some, putT_some, opF_indexAddr, opF_load, opF_store, putT_none, opF_assign, ev_bool, runOps_nil, R.ok_bind, hidx, hld0, s1]
        with_reducible rfl
      show W tb4 _ _ _
      apply W.run 20
      · intro M
        simp (config := { maxSteps := 4000000 }) (disch := first | decide +kernel | omega) only [c28, Try.f28, Option.getD_some, sub_seq1, sub_nil, exec_ret]
        with_reducible rfl
      refine ⟨.inr rfl, C1, [.agg ⟨entC l[i]⟩, .bool true], rfl, ?_, by rw [hf, he]; rfl, ?_, fun z hz => ?_⟩
      · simp only [Try.f28, resF, ev_tmp, T.get_set, Nat.reduceEqDiff, if_true, if_false, evG_some, R.ok_bind, hld]
      · rw [n1, next_alloc]; omega
      · rw [k1 z (by omega), get_alloc_ne (by omega)]
  exact ⟨A', hg, h1, h2⟩
end Go.Proofs.Ytnelkapmmgggdaa.mdl

/-
  Model: a new model, and its words.
-/
namespace Go.Proofs.Ytnelkapmmgggdaa.mdl
open Go.Am Go.Mdl
set_option linter.unusedSimpArgs false
set_option linter.unusedVariables false
set_option linter.unusedVariables false

theorem EntW.lt {A : Mem} {b : Nat} {l : List EntD} {x : Value} (h : EntW A b l x) : l ≠ [] → b < A.next := fun h0 => by
  rcases h with ⟨_, h⟩ | ⟨_, _, h, _⟩
  · exact absurd h h0
  · exact h
theorem withL_len : ∀ {more own : List EntD}, Asc own → (withL own more).length ≤ own.length + more.length
  | [], own, _ => by show own.length ≤ _; simp
  | e :: more, own, h => by
    have h1 := withL_len (more := more) (own := one (norm e) own) (one_asc h)
    have h2 := one_le (e := norm e) h
    show (withL (one (norm e) own) more).length ≤ _
    rw [List.length_cons]
    omega
/-- What a new model holds. -/
def newL (l : List EntD) : List EntD := Go.Mdl.live (withL [] l)
noncomputable def c7 : Code := Try.f7.body.getD .skip
theorem c7_eq : Try.f7.body = some (.seq (sub c7 [0]) (.seq (sub c7 [1,0]) (sub c7 [1,1]))) := by kernel_rfl
set_option maxHeartbeats 4000000 in
set_option maxRecDepth 20000 in
theorem run_new {A : Mem} {bm : Nat} {l : List EntD} {x : Value} (h : EntS A bm l x) (hb : l ≠ [] → bm < A.next) (hl : l.length < 1000000) :
    ∃ q A' bo y, Ans tb4 7 [x] A (.pointer (some ⟨q, 0, none⟩)) A' ∧ EntS A' bo (newL l) y ∧ A'.get q = some (rowOb 68 [y, .bool false, .bool false]) ∧ A.next ≤ q ∧ q < A'.next ∧ A.next ≤ bo ∧ (newL l = [] → y = .slice none 0 0) ∧ ∀ z, z < A.next → A'.get z = A.get z := by
  obtain ⟨y1, A1, b1, ⟨g1, hg1⟩, w1, n1, o1, k1⟩ := run_with (own := []) (x := .slice none 0 0) (b := 0) (.inl ⟨rfl, rfl⟩) h hb (show Asc [] from trivial) (by simp; omega)
  have hlen : (withL [] l).length < 1000000 := by
    have := withL_len (more := l) (own := []) trivial
    simp only [List.length_nil] at this
    omega
  obtain ⟨y2, A2, b2, ⟨g2, hg2⟩, w2, n2, o2, hn2, k2⟩ := run_live w1.ents w1.lt hlen
  obtain ⟨v, A', hg, rfl, rfl⟩ : ∃ v A', Ans tb4 7 [x] A v A' ∧ v = .pointer (some ⟨A2.next, 0, none⟩) ∧ A' = A2.alloc (rowOb 68 [y2, .bool false, .bool false]) := by
    refine ans_of_W (fn_at Try.func7) c7_eq (by rw [Try.ntmps7]; simp) (by kernel_rfl) (by kernel_rfl) ?_
    have hbd : buildF tb4 68 [(0, y2)] = .ok (.agg ⟨[y2, .bool false, .bool false]⟩) := by
      rcases w2 with ⟨rfl, _⟩ | ⟨k, c, rfl, _⟩ <;> kernel_rfl
    apply W.seq
    apply W.run 20
    · intro M
      simp (config := { maxSteps := 4000000 }) (disch := first | decide +kernel | omega) only [c7, Try.f7, Option.getD_some, sub_seq0, sub_nil, T.puts_cons, Nat.reduceAdd, T.puts_nil, exec_region, runOps_cons, opF_assign, ev_nilptr, putT_some, runOps_nil, R.ok_bind]
      with_reducible rfl
    show W tb4 _ _ _
    apply W.seq
    apply W.runG ((g1+g2)) 20
    · intro M hM
      simp (config := { maxSteps := 4000000 }) (disch := first | decide +kernel | omega) only [c7, Try.f7, Option.getD_some, sub_seq1, sub_seq0, sub_nil, exec_region, runOps_cons, opF_move, ev_tmp, T.get_set, Nat.reduceEqDiff, T.get_e, if_true, if_false, evG_some, putT_some, opF_call, evs, ev_nilslice, R.ok_bind, resK, opF_build, evp, opF_box, at_ptr, opF_assign, runOps_nil, hg1, hg2, hbd, cells_agg]
      with_reducible rfl
    show W tb4 _ _ _
    apply W.run 20
    · intro M
      simp (config := { maxSteps := 4000000 }) (disch := first | decide +kernel | omega) only [c7, Try.f7, Option.getD_some, sub_seq1, sub_nil, exec_ret]
      with_reducible rfl
    refine ⟨.inr rfl, _, [.pointer (some ⟨A2.next, 0, none⟩)], rfl, ?_, rfl, rfl⟩
    simp only [Try.f7, resF, ev_tmp, T.get_set, Nat.reduceEqDiff, if_true, if_false, evG_some, R.ok_bind]
  refine ⟨_, _, b2, y2, hg, SlcM.same w2 (by rw [next_alloc]; omega) (fun h => get_alloc_ne (by omega)), get_alloc_self _ _, by omega, by rw [next_alloc]; omega, by omega, hn2, fun z hz => ?_⟩
  rw [get_alloc_ne (by omega), k2 z (by omega), k1 z hz]
end Go.Proofs.Ytnelkapmmgggdaa.mdl

/-
  Model: the words of a model.
-/
namespace Go.Proofs.Ytnelkapmmgggdaa.mdl
open Go.Am Go.Mdl
set_option linter.unusedSimpArgs false
set_option linter.unusedVariables false
set_option linter.unusedVariables false

noncomputable def c9 : Code := Try.f9.body.getD .skip
theorem c9_eq : Try.f9.body = some (.seq (sub c9 [0]) (.seq (.seq (sub c9 [1,0,0]) (sub c9 [1,0,1])) (.seq (sub c9 [1,1,0]) (sub c9 [1,1,1])))) := by kernel_rfl
theorem und32n : (tb4.und 32).map isAggD = some false := by kernel_rfl
theorem fm0 {b : Nat} : fieldAddrF tb4 68 (.pointer (some ⟨b, 0, none⟩)) 0 = .ok (.pointer (some ⟨b, 0, none⟩)) := by kernel_rfl
set_option maxHeartbeats 4000000 in
set_option maxRecDepth 20000 in
theorem run_words {A : Mem} {bm q : Nat} {l : List EntD} {x u v : Value} (h : EntS A bm l x) (hq : A.get q = some (rowOb 68 [x, u, v])) (hb : l ≠ [] → bm < A.next) (hl : l.length < 1000000) :
    ∃ y A' bo, Ans tb4 9 [.pointer (some ⟨q, 0, none⟩)] A y A' ∧ EntS A' bo (Go.Mdl.live l) y ∧ A.next ≤ A'.next ∧ A.next ≤ bo ∧ (Go.Mdl.live l = [] → y = .slice none 0 0) ∧ ∀ z, z < A.next → A'.get z = A.get z := by
  obtain ⟨y2, A2, b2, ⟨g2, hg2⟩, w2, n2, o2, hn2, k2⟩ := run_live h hb hl
  have hld : loadF tb4 A.get 32 (.pointer (some ⟨q, 0, none⟩)) = .ok x := load_vals und32' rfl (vals_puts (k := .var 3) hq) rfl
  obtain ⟨v, A', hg, rfl, rfl⟩ : ∃ v A', Ans tb4 9 [.pointer (some ⟨q, 0, none⟩)] A v A' ∧ v = y2 ∧ A' = A2 := by
    refine ans_of_W (fn_at Try.func9) c9_eq (by rw [Try.ntmps9]; simp) (by kernel_rfl) (by kernel_rfl) ?_
    apply W.seq
    apply W.run 20
    · intro M
      simp (config := { maxSteps := 4000000 }) (disch := first | decide +kernel | omega) only [c9, Try.f9, Option.getD_some, sub_seq0, sub_nil, T.puts_cons, Nat.reduceAdd, T.puts_nil, exec_region, runOps_cons, opF_assign, ev_nilslice, putT_some, runOps_nil, R.ok_bind]
      with_reducible rfl
    show W tb4 _ _ _
    apply W.seq
    apply W.seq
    have he : eqF tb4 A.get .eql 33 (.tmp 3) (.const (.pointer none)) (.pointer (some ⟨q, 0, none⟩)) (.pointer none) = .ok (.bool false) := by kernel_rfl
    apply W.run 20
    · intro M
      simp (config := { maxSteps := 4000000 }) (disch := first | decide +kernel | omega) only [c9, Try.f9, Option.getD_some, sub_seq1, sub_seq0, sub_nil, exec_region, runOps_cons, opF_move, ev_tmp, T.get_set, Nat.reduceEqDiff, T.get_e, if_true, if_false, evG_some, putT_some, opF_eqlR, ev_nilptr, runOps_nil, R.ok_bind, he]
      with_reducible rfl
    show W tb4 _ _ _
    apply W.run 20
    · intro M
      simp (config := { maxSteps := 4000000 }) (disch := first | decide +kernel | omega) only [c9, Try.f9, Option.getD_some, sub_seq1, sub_seq0, sub_nil, exec_cond, ev_tmp, T.get_set, Nat.reduceEqDiff, T.get_e, if_false, if_true, evG_some, exec_seq, exec_region, runOps_cons, opF_assign, ev_nilslice, putT_some, runOps_nil, R.ok_bind, exec_ret, exec_skip]
      with_reducible rfl
    show W tb4 _ _ _
    apply W.seq
    apply W.runG (g2) 20
    · intro M hM
      simp (config := { maxSteps := 4000000 }) (disch := first | decide +kernel | omega) only [c9, Try.f9, Option.getD_some, sub_seq1, sub_seq0, sub_nil, exec_region, runOps_cons, opF_move, ev_tmp, T.get_set, Nat.reduceEqDiff, T.get_e, if_true, if_false, evG_some, putT_some, opF_nilCheck, opF_fieldAddr, opF_load, opF_call, evs, R.ok_bind, resK, opF_assign, runOps_nil, nil_ptr, fm0, hld, hg2]
      with_reducible rfl
    show W tb4 _ _ _
    apply W.run 20
    · intro M
      simp (config := { maxSteps := 4000000 }) (disch := first | decide +kernel | omega) only [c9, Try.f9, Option.getD_some, sub_seq1, sub_nil, exec_ret]
      with_reducible rfl
    refine ⟨.inr rfl, _, [y2], rfl, ?_, rfl, rfl⟩
    simp only [Try.f9, resF, ev_tmp, T.get_set, Nat.reduceEqDiff, if_true, if_false, evG_some, R.ok_bind]
  exact ⟨_, _, b2, hg, w2, n2, o2, hn2, k2⟩
end Go.Proofs.Ytnelkapmmgggdaa.mdl

/-
  Model: what stays of memory; a word's check; an entry that is bare.
-/
namespace Go.Proofs.Ytnelkapmmgggdaa.mdl
open Go.Am Go.Mdl
set_option linter.unusedSimpArgs false
set_option linter.unusedVariables false
set_option linter.unusedVariables false

/-- All that was there is as it was. -/
def Kp (A A' : Mem) : Prop := A.next ≤ A'.next ∧ ∀ z, z < A.next → A'.get z = A.get z
theorem Kp.refl (A : Mem) : Kp A A := ⟨Nat.le_refl _, fun _ _ => rfl⟩
theorem Kp.trans {A B C : Mem} (h : Kp A B) (k : Kp B C) : Kp A C := ⟨Nat.le_trans h.1 k.1, fun z hz => by rw [k.2 z (by have := h.1; omega), h.2 z hz]⟩
theorem Kp.alloc (A : Mem) (o : Ob) : Kp A (A.alloc o) := ⟨by rw [next_alloc]; omega, fun z hz => get_alloc_ne (by omega)⟩
theorem EntS.lt {A : Mem} {b : Nat} {l : List EntD} {x : Value} (h : EntS A b l x) : l ≠ [] → b < A.next := fun h0 => by
  rcases h with ⟨_, h⟩ | ⟨_, _, _, h, _⟩
  · simp at h; exact absurd h h0
  · exact h
theorem EntS.kp {A A' : Mem} {b : Nat} {l : List EntD} {x : Value} (h : EntS A b l x) (k : Kp A A') : EntS A' b l x := SlcM.same h k.1 (fun h => k.2 _ h)
/-- A list, wherever it lies. -/
def EntE (A : Mem) (l : List EntD) (x : Value) : Prop := ∃ b, EntS A b l x
theorem EntE.kp {A A' : Mem} {l : List EntD} {x : Value} (h : EntE A l x) (k : Kp A A') : EntE A' l x := by
  obtain ⟨b, h⟩ := h
  exact ⟨b, h.kp k⟩

/-! ### A word's check -/
noncomputable def c44 : Code := Try.f44.body.getD .skip
theorem c44_eq : Try.f44.body = some (.seq (sub c44 [0]) (.seq (sub c44 [1,0]) (sub c44 [1,1]))) := by kernel_rfl
theorem str_ne_nil {w : List UInt8} : decide (w ≠ []) = decide (1 ≤ w.length) := by
  cases w with
  | nil => rfl
  | cons a l => simp
set_option maxHeartbeats 4000000 in
set_option maxRecDepth 20000 in
theorem run_is {A : Mem} {w : List UInt8} : Ans tb4 44 [strOf w] A (.bool (okW w)) A := by
  obtain ⟨v, A', hg, rfl, rfl⟩ : ∃ v A', Ans tb4 44 [strOf w] A v A' ∧ v = .bool (okW w) ∧ A' = A := by
    refine ans_of_W (fn_at Try.func44) c44_eq (by rw [Try.ntmps44]; simp) (by kernel_rfl) (by kernel_rfl) ?_
    have hlen := len_str (tb := tb4) und9' (l := w)
    have hn : strOf [] = Value.string .empty := rfl
    apply W.seq
    apply W.run 20
    · intro M
      simp (config := { maxSteps := 4000000 }) (disch := first | decide +kernel | omega) only [c44, Try.f44, Option.getD_some, sub_seq0, sub_nil, T.puts_cons, Nat.reduceAdd, T.puts_nil, exec_region, runOps_cons, opF_assign, ev_bool, putT_some, runOps_nil, R.ok_bind]
      with_reducible rfl
    show W tb4 _ _ _
    apply W.seq
    by_cases h0 : w = []
    · subst h0
      apply W.run 20
      · intro M
        simp (config := { maxSteps := 4000000 }) (disch := first | decide +kernel | (rw [wantF_guard]; simp only [wantD_some, dstAt_zero, dstAt_succ, T.get_set, T.get_e, Nat.reduceEqDiff, if_true, if_false, wantV_bool, wantV_unit, unitV, cond_true, cond_false, Bool.not_true, Bool.not_false, List.toList_toArray]) | omega) only [c44, Try.f44, Option.getD_some, sub_seq1, sub_seq0, sub_nil, exec_region, runOps_cons, opF_move, ev_tmp, T.get_set, Nat.reduceEqDiff, T.get_e, if_true, if_false, evG_some, putT_some, opF_neq, ev_str, R.ok_bind, binF_str, str_neq, ne_eq, not_true_eq_false, decide_false, runOps_no, opF_pick, pickF, ev_bool, opF_assign, runOps_nil]
        with_reducible rfl
      show W tb4 _ _ _
      apply W.run 20
      · intro M
        simp (config := { maxSteps := 4000000 }) (disch := first | decide +kernel | omega) only [c44, Try.f44, Option.getD_some, sub_seq1, sub_nil, exec_ret]
        with_reducible rfl
      refine ⟨.inr rfl, _, [.bool false], rfl, ?_, rfl, rfl⟩
      simp only [Try.f44, resF, ev_tmp, T.get_set, Nat.reduceEqDiff, if_true, if_false, evG_some, R.ok_bind]
    · have h1 : (decide (w ≠ [])) = true := by simp [h0]
      apply W.run 20
      · intro M
        simp (config := { maxSteps := 4000000 }) (disch := first | decide +kernel | (rw [wantF_guard]; simp only [wantD_some, dstAt_zero, dstAt_succ, T.get_set, T.get_e, Nat.reduceEqDiff, if_true, if_false, wantV_bool, wantV_unit, unitV, cond_true, cond_false, Bool.not_true, Bool.not_false, List.toList_toArray]) | omega) only [c44, Try.f44, Option.getD_some, sub_seq1, sub_seq0, sub_nil, exec_region, runOps_cons, opF_move, ev_tmp, T.get_set, Nat.reduceEqDiff, T.get_e, if_true, if_false, evG_some, putT_some, opF_neq, ev_str, R.ok_bind, binF_str, str_neq, ne_eq, h0, not_false_eq_true, decide_true, runOps_yes, opF_len, evs, opF_ari, ev_int, opF_pick, pickF, ev_bool, opF_assign, runOps_nil, hlen, binF_int, op_leq, cast_le]
        with_reducible rfl
      show W tb4 _ _ _
      apply W.run 20
      · intro M
        simp (config := { maxSteps := 4000000 }) (disch := first | decide +kernel | omega) only [c44, Try.f44, Option.getD_some, sub_seq1, sub_nil, exec_ret]
        with_reducible rfl
      refine ⟨.inr rfl, _, [.bool (decide (w.length ≤ 255))], rfl, ?_, ?_, rfl⟩
      · simp only [Try.f44, resF, ev_tmp, T.get_set, Nat.reduceEqDiff, if_true, if_false, evG_some, R.ok_bind]
      · have : 1 ≤ w.length := List.length_pos_iff.2 h0
        unfold okW
        show Value.bool _ = Value.bool _
        congr 1
        exact decide_eq_decide.2 ⟨fun h => ⟨this, h⟩, fun h => h.2⟩
  exact hg
end Go.Proofs.Ytnelkapmmgggdaa.mdl

/-
  Model: a word's check, whole; an entry that is bare.
-/
namespace Go.Proofs.Ytnelkapmmgggdaa.mdl
open Go.Am Go.Mdl
set_option linter.unusedSimpArgs false
set_option linter.unusedVariables false
set_option linter.unusedVariables false

noncomputable def c45 : Code := Try.f45.body.getD .skip
noncomputable def c45b1 : Code := sub c45 [1,0,1,0,0]
theorem c45_eq : Try.f45.body = some (.seq (sub c45 [0]) (.seq (.seq (sub c45 [1,0,0]) (.block 0 (.loop c45b1))) (.seq (sub c45 [1,1,0]) (sub c45 [1,1,1])))) := by kernel_rfl
theorem und94 : tb4.und 94 = some (.slice 9) := by kernel_rfl
theorem size9' : sizeF tb4 9 = .ok 1 := by kernel_rfl
theorem idx94 {q : Nat} : indexAddrF tb4 94 (.slice (some ⟨q, 0, none⟩) 1 2) (.int .i64 ((0 : Nat) : Int)) = .ok (.pointer (some ⟨q, 0, none⟩)) := by
  kernel_rfl
theorem len94 {q : Nat} : builtinPF tb4 .len [94] [.slice (some ⟨q, 0, none⟩) 1 2] = .ok (.int .i64 ((1 : Nat) : Int)) := by kernel_rfl
set_option maxHeartbeats 4000000 in
set_option maxRecDepth 20000 in
theorem run_all {A : Mem} {q : Nat} {w : List UInt8} (hq : A.get q = some (rowOb 9 [strOf w])) : Ans tb4 45 [.func (.func 44) ⟨[]⟩ ⟨[]⟩, .slice (some ⟨q, 0, none⟩) 1 2] A (.bool (okW w)) A := by
  obtain ⟨v, A', hg, rfl, rfl⟩ : ∃ v A', Ans tb4 45 [.func (.func 44) ⟨[]⟩ ⟨[]⟩, .slice (some ⟨q, 0, none⟩) 1 2] A v A' ∧ v = .bool (okW w) ∧ A' = A := by
    refine ans_of_W (fn_at Try.func45) c45_eq (by rw [Try.ntmps45]; simp) (by kernel_rfl) (by kernel_rfl) ?_
    have hld : loadF tb4 A.get 9 (.pointer (some ⟨q, 0, none⟩)) = .ok (strOf w) := load_vals und9' rfl (vals_puts (k := .var 1) hq) rfl
    obtain ⟨g, hg⟩ := run_is (A := A) (w := w)
    apply W.seq
    apply W.run 20
    · intro M
      simp (config := { maxSteps := 4000000 }) (disch := first | decide +kernel | omega) only [c45, Try.f45, Option.getD_some, sub_seq0, sub_nil, T.puts_cons, Nat.reduceAdd, T.puts_nil, exec_region, runOps_cons, opF_assign, ev_bool, putT_some, runOps_nil, R.ok_bind]
      with_reducible rfl
    show W tb4 _ _ _
    apply W.seq
    apply W.seq
    apply W.run 20
    · intro M
      simp (config := { maxSteps := 4000000 }) (disch := first | decide +kernel | omega) only [c45, Try.f45, Option.getD_some, sub_seq1, sub_seq0, sub_nil, exec_region, runOps_cons, opF_move, ev_tmp, T.get_set, Nat.reduceEqDiff, T.get_e, if_false, if_true, evG_some, putT_some, opF_len, evs, R.ok_bind, ev_int, runOps_nil, len94]
      with_reducible rfl
    show W tb4 _ _ _
    apply W.block
    apply W.round
    cases hw : okW w with
    | false =>
      rw [hw] at hg
      apply W.runG (g) 20
      · intro M hM
        simp (config := { maxSteps := 4000000 }) (disch := first | decide +kernel | omega) only [c45b1, c45, Try.f45, Option.getD_some, sub_seq1, sub_seq0, sub_block, sub_loop, sub_nil, exec_seq, exec_region, runOps_cons, opF_ari, ev_tmp, T.get_set, Nat.reduceEqDiff, T.get_e, if_false, if_true, evG_some, putT_some, runOps_nil, R.ok_bind, binF_int, op_lssI, cast_lt, Nat.zero_lt_one, decide_true, exec_cond, exec_skip, exec_exit, exec_block, opF_indexAddr, opF_move, opF_assign, ev_bool, exec_ret, ev_int, opF_load, idx94, hld, opF_callv, evs, resK, opF_un, callV_func, List.nil_append, List.append_nil, hg, un_not, Bool.not_false]
        with_reducible rfl
      refine ⟨.inr rfl, _, [.bool false], rfl, ?_, rfl, rfl⟩
      simp only [Try.f45, resF, ev_tmp, T.get_set, Nat.reduceEqDiff, if_true, if_false, evG_some, R.ok_bind]
    | true =>
      rw [hw] at hg
      apply W.runG (g) 20
      · intro M hM
        simp (config := { maxSteps := 4000000 }) (disch := first | decide +kernel | omega) only [c45b1, c45, Try.f45, Option.getD_some, sub_seq1, sub_seq0, sub_block, sub_loop, sub_nil, exec_seq, exec_region, runOps_cons, opF_ari, ev_tmp, T.get_set, Nat.reduceEqDiff, T.get_e, if_false, if_true, evG_some, putT_some, runOps_nil, R.ok_bind, binF_int, op_lssI, cast_lt, Nat.zero_lt_one, decide_true, exec_cond, exec_skip, exec_exit, exec_block, opF_indexAddr, opF_move, opF_assign, ev_bool, exec_ret, ev_int, opF_load, idx94, hld, opF_callv, evs, resK, opF_un, callV_func, List.nil_append, List.append_nil, hg, un_not, Bool.not_true, op_add_i64, Nat.reduceAdd]
        with_reducible rfl
      show W tb4 _ _ _
      apply W.round
      apply W.run 20
      · intro M
        simp (config := { maxSteps := 4000000 }) (disch := first | decide +kernel | omega) only [c45b1, c45, Try.f45, Option.getD_some, sub_seq1, sub_seq0, sub_block, sub_loop, sub_nil, exec_seq, exec_region, runOps_cons, opF_ari, ev_tmp, T.get_set, Nat.reduceEqDiff, T.get_e, if_false, if_true, evG_some, putT_some, runOps_nil, R.ok_bind, binF_int, op_lssI, cast_lt, Nat.lt_irrefl, decide_false, exec_cond, exec_skip, exec_exit, exec_block, opF_indexAddr, opF_move, opF_assign, ev_bool, exec_ret, ev_int]
        with_reducible rfl
      show W tb4 _ _ _
      apply W.seq
      apply W.run 20
      · intro M
        simp (config := { maxSteps := 4000000 }) (disch := first | decide +kernel | omega) only [c45, Try.f45, Option.getD_some, sub_seq1, sub_seq0, sub_nil, exec_region, runOps_cons, opF_assign, ev_bool, putT_some, runOps_nil, R.ok_bind]
        with_reducible rfl
      show W tb4 _ _ _
      apply W.run 20
      · intro M
        simp (config := { maxSteps := 4000000 }) (disch := first | decide +kernel | omega) only [c45, Try.f45, Option.getD_some, sub_seq1, sub_nil, exec_ret]
        with_reducible rfl
      refine ⟨.inr rfl, _, [.bool true], rfl, ?_, rfl, rfl⟩
      simp only [Try.f45, resF, ev_tmp, T.get_set, Nat.reduceEqDiff, if_true, if_false, evG_some, R.ok_bind]
  exact hg
noncomputable def c29 : Code := Try.f29.body.getD .skip
theorem c29_eq : Try.f29.body = some (.seq (sub c29 [0]) (.seq (sub c29 [1,0]) (.seq (.seq (sub c29 [1,1,0,0]) (sub c29 [1,1,0,1])) (.seq (sub c29 [1,1,1,0]) (sub c29 [1,1,1,1]))))) := by kernel_rfl
theorem ev_f44 {t : T Value} : ev t (Operand.func 44) = .ok (.func (.func 44) ⟨[]⟩ ⟨[]⟩) := rfl
def chk (w : List UInt8) : Nat := if okW w = true then 0 else 7
set_option maxHeartbeats 4000000 in
set_option maxRecDepth 20000 in
theorem run_check {A : Mem} {q : Nat} {w : List UInt8} (hq : A.get q = some (rowOb 9 [strOf w])) : Ans tb4 29 [.slice (some ⟨q, 0, none⟩) 1 2] A (.int .i64 ((chk w : Nat) : Int)) A := by
  obtain ⟨v, A', hg, rfl, rfl⟩ : ∃ v A', Ans tb4 29 [.slice (some ⟨q, 0, none⟩) 1 2] A v A' ∧ v = .int .i64 ((chk w : Nat) : Int) ∧ A' = A := by
    refine ans_of_W (fn_at Try.func29) c29_eq (by rw [Try.ntmps29]; simp) (by kernel_rfl) (by kernel_rfl) ?_
    obtain ⟨g, hg⟩ := run_all hq
    apply W.seq
    apply W.run 20
    · intro M
      simp (config := { maxSteps := 4000000 }) (disch := first | decide +kernel | omega) only [c29, Try.f29, Option.getD_some, sub_seq0, sub_nil, T.puts_cons, Nat.reduceAdd, T.puts_nil, exec_region, runOps_cons, opF_assign, ev_int, putT_some, runOps_nil, R.ok_bind]
      with_reducible rfl
    show W tb4 _ _ _
    apply W.seq
    apply W.run 20
    · intro M
      simp (config := { maxSteps := 4000000 }) (disch := first | decide +kernel | omega) only [c29, Try.f29, Option.getD_some, sub_seq1, sub_seq0, sub_nil, exec_region, runOps_cons, opF_assign, ev_f44, putT_some, runOps_nil, R.ok_bind]
      with_reducible rfl
    show W tb4 _ _ _
    apply W.seq
    apply W.seq
    unfold chk
    cases hw : okW w with
    | false =>
      rw [hw] at hg
      apply W.runG (g) 20
      · intro M hM
        simp (config := { maxSteps := 4000000 }) (disch := first | decide +kernel | omega) only [c29, Try.f29, Option.getD_some, sub_seq1, sub_seq0, sub_nil, exec_region, runOps_cons, opF_move, ev_tmp, T.get_set, Nat.reduceEqDiff, T.get_e, if_false, if_true, evG_some, putT_some, opF_call, evs, R.ok_bind, resK, opF_un, runOps_nil, hg, un_not, Bool.not_false]
        with_reducible rfl
      apply W.run 20
      · intro M
        simp (config := { maxSteps := 4000000 }) (disch := first | decide +kernel | omega) only [c29, Try.f29, Option.getD_some, sub_seq1, sub_seq0, sub_nil, exec_cond, ev_tmp, T.get_set, Nat.reduceEqDiff, T.get_e, if_false, if_true, evG_some, exec_seq, exec_region, runOps_cons, opF_assign, ev_int, putT_some, runOps_nil, R.ok_bind, exec_ret, exec_skip]
        with_reducible rfl
      refine ⟨.inr rfl, _, [.int .i64 ((7 : Nat) : Int)], rfl, ?_, rfl, rfl⟩
      simp only [Try.f29, resF, ev_tmp, T.get_set, Nat.reduceEqDiff, if_true, if_false, evG_some, R.ok_bind]
    | true =>
      rw [hw] at hg
      apply W.runG (g) 20
      · intro M hM
        simp (config := { maxSteps := 4000000 }) (disch := first | decide +kernel | omega) only [c29, Try.f29, Option.getD_some, sub_seq1, sub_seq0, sub_nil, exec_region, runOps_cons, opF_move, ev_tmp, T.get_set, Nat.reduceEqDiff, T.get_e, if_false, if_true, evG_some, putT_some, opF_call, evs, R.ok_bind, resK, opF_un, runOps_nil, hg, un_not, Bool.not_true]
        with_reducible rfl
      apply W.run 20
      · intro M
        simp (config := { maxSteps := 4000000 }) (disch := first | decide +kernel | omega) only [c29, Try.f29, Option.getD_some, sub_seq1, sub_seq0, sub_nil, exec_cond, ev_tmp, T.get_set, Nat.reduceEqDiff, T.get_e, if_false, if_true, evG_some, exec_seq, exec_region, runOps_cons, opF_assign, ev_int, putT_some, runOps_nil, R.ok_bind, exec_ret, exec_skip]
        with_reducible rfl
      show W tb4 _ _ _
      apply W.seq
      apply W.run 20
      · intro M
        simp (config := { maxSteps := 4000000 }) (disch := first | decide +kernel | omega) only [c29, Try.f29, Option.getD_some, sub_seq1, sub_seq0, sub_nil, exec_region, runOps_cons, opF_assign, ev_int, putT_some, runOps_nil, R.ok_bind]
        with_reducible rfl
      apply W.run 20
      · intro M
        simp (config := { maxSteps := 4000000 }) (disch := first | decide +kernel | omega) only [c29, Try.f29, Option.getD_some, sub_seq1, sub_nil, exec_ret]
        with_reducible rfl
      refine ⟨.inr rfl, _, [.int .i64 ((0 : Nat) : Int)], rfl, ?_, rfl, rfl⟩
      simp only [Try.f29, resF, ev_tmp, T.get_set, Nat.reduceEqDiff, if_true, if_false, evG_some, R.ok_bind]
  exact hg

/-! ### An entry that is bare -/
noncomputable def c38 : Code := Try.f38.body.getD .skip
theorem c38_eq : Try.f38.body = some (.seq (sub c38 [0]) (.seq (.seq (sub c38 [1,0,0]) (.cond (.tmp 4) (sub c38 [1,0,1,0]) .skip)) (.seq (sub c38 [1,1,0]) (sub c38 [1,1,1])))) := by kernel_rfl
theorem fb1' {b : Nat} : fieldAddrF tb4 45 (.pointer (some ⟨b, 0, none⟩)) 1 = .ok (.pointer (some ⟨b, 1, none⟩)) := by kernel_rfl
set_option maxHeartbeats 4000000 in
set_option maxRecDepth 20000 in
theorem run_bare {A : Mem} {e : EntD} : ∃ A', Ans tb4 38 [.agg ⟨entC e⟩] A (.agg ⟨entC (norm e)⟩) A' ∧ Kp A A' := by
  obtain ⟨v, A', hg, rfl, hk⟩ : ∃ v A', Ans tb4 38 [.agg ⟨entC e⟩] A v A' ∧ v = .agg ⟨entC (norm e)⟩ ∧ Kp A A' := by
    refine ans_of_W (fn_at Try.func38) c38_eq (by rw [Try.ntmps38]; simp) (by kernel_rfl) (by kernel_rfl) ?_
    obtain ⟨d45, hd1, hd2⟩ := und45'
    have v0 : Vals ((A.alloc (rowOb 45 (entC e))).alloc (rowOb 45 [.string .empty, .int .u32 0, .bool false])) 45 A.next (.var 3) (entC e) := (vals_puts (get_alloc_self _ _)).same (get_alloc_ne (by rw [next_alloc]; omega))
    have z0 : Vals ((A.alloc (rowOb 45 (entC e))).alloc (rowOb 45 [.string .empty, .int .u32 0, .bool false])) 45 (A.next + 1) (.var 3) [.string .empty, .int .u32 0, .bool false] := vals_puts (get_alloc_self _ _)
    have hg : loadF tb4 ((A.alloc (rowOb 45 (entC e))).alloc (rowOb 45 [.string .empty, .int .u32 0, .bool false])).get 4 (.pointer (some ⟨A.next, 2, none⟩)) = .ok (.bool e.gone) := load_vals und4' rfl v0 rfl
    apply W.seq
    apply W.run 20
    · intro M
      simp (config := { maxSteps := 4000000 }) (disch := first | decide +kernel | omega) only [c38, Try.f38, Option.getD_some, sub_seq0, sub_nil, T.puts_cons, Nat.reduceAdd, T.puts_nil, exec_region, runOps_cons, opF_box, ev_tmp, T.get_set, T.get_e, if_true, evG_some, at_ptr, putT_some, opF_alloc, z45, next_alloc, runOps_nil, R.ok_bind, cells_agg]
      with_reducible rfl
    show W tb4 _ _ _
    apply W.seq
    apply W.seq
    apply W.run 20
    · intro M
      simp (config := { maxSteps := 4000000 }) (disch := first | decide +kernel | omega) only [c38, Try.f38, Option.getD_some, sub_seq1, sub_seq0, sub_nil, exec_region, runOps_cons, opF_fieldAddr, ev_tmp, T.get_set, Nat.reduceEqDiff, T.get_e, if_false, if_true, evG_some, putT_some, opF_load, runOps_nil, R.ok_bind, fb2, hg]
      with_reducible rfl
    show W tb4 _ _ _
    have fin : ∀ (C : Mem), Vals C 45 A.next (.var 3) (entC (norm e)) → Vals C 45 (A.next + 1) (.var 3) [.string .empty, .int .u32 0, .bool false] → Kp A C → ∃ C2, loadF tb4 C.get 45 (.pointer (some ⟨A.next, 0, none⟩)) = .ok (.agg ⟨entC (norm e)⟩) ∧ storeF tb4 C 45 (.pointer (some ⟨A.next + 1, 0, none⟩)) (.agg ⟨entC (norm e)⟩) = .ok C2 ∧ loadF tb4 C2.get 45 (.pointer (some ⟨A.next + 1, 0, none⟩)) = .ok (.agg ⟨entC (norm e)⟩) ∧ Kp A C2 := by
      intro C v1 z1 k1
      obtain ⟨C2, s2, v2, n2, k2⟩ := store_all (tb := tb4) (t := 45) (l := [.string .empty, .int .u32 0, .bool false]) (l' := entC (norm e)) size45' z1 rfl (by simp) (entC_one _)
      exact ⟨C2, load_all hd1 hd2 size45' v1, s2, load_all hd1 hd2 size45' v2, by rw [Kp, n2]; exact ⟨k1.1, fun z hz => by rw [k2 z (by omega), k1.2 z hz]⟩⟩
    cases hgo : e.gone with
    | false =>
      have hn : norm e = e := by unfold norm; rw [hgo]; rfl
      obtain ⟨C2, l1, s2, l2, k2⟩ := fin _ (by rw [hn]; exact v0) z0 ((Kp.alloc _ _).trans (Kp.alloc _ _))
      refine W.cond (p := false) ?_ (fun h => by cases h) (fun _ => ?_)
      · simp only [ev_tmp, T.get_set, Nat.reduceEqDiff, if_true, if_false, evG_some]
      apply W.run 20
      · intro M
        simp (config := { maxSteps := 4000000 }) (disch := first | decide +kernel | omega) only [exec_skip]
        with_reducible rfl
      show W tb4 _ _ _
      apply W.seq
      apply W.run 20
      · intro M
        simp (config := { maxSteps := 4000000 }) (disch := first | decide +kernel | omega) only [c38, Try.f38, Option.getD_some, sub_seq1, sub_seq0, sub_nil, exec_region, runOps_cons, opF_load, ev_tmp, T.get_set, Nat.reduceEqDiff, T.get_e, if_false, if_true, evG_some, putT_some, opF_store, putT_none, runOps_nil, R.ok_bind, l1, s2]
        with_reducible rfl
      show W tb4 _ _ _
      apply W.run 20
      · intro M
        simp (config := { maxSteps := 4000000 }) (disch := first | decide +kernel | omega) only [c38, Try.f38, Option.getD_some, sub_seq1, sub_nil, exec_ret]
        with_reducible rfl
      refine ⟨.inr rfl, C2, [.agg ⟨entC (norm e)⟩], rfl, ?_, rfl, k2⟩
      simp only [Try.f38, resF, ev_tmp, T.get_set, Nat.reduceEqDiff, if_true, if_false, evG_some, R.ok_bind, l2]
    | true =>
      obtain ⟨C1, s1, v1, n1, k1⟩ := store_vals (tb := tb4) (t := 24) (o := 1) (v := .int .u32 ((0 : Nat) : Int)) size24' v0 (by show 1 < 3; decide) rfl rfl
      have hn : norm e = ⟨e.word, 0, true⟩ := by unfold norm; rw [hgo]; rfl
      have e1 : (entC e).set 1 (.int .u32 ((0 : Nat) : Int)) = entC (norm e) := by rw [hn]; unfold entC; rw [hgo]; rfl
      rw [e1] at v1
      obtain ⟨C2, l1, s2, l2, k2⟩ := fin C1 v1 (z0.same (k1 _ (by omega))) (by
        have h0 := (Kp.alloc A (rowOb 45 (entC e))).trans (Kp.alloc _ (rowOb 45 [.string .empty, .int .u32 0, .bool false]))
        exact ⟨by rw [n1]; exact h0.1, fun z hz => by rw [k1 z (by omega), h0.2 z hz]⟩)
      refine W.cond (p := true) ?_ (fun _ => ?_) (fun h => by cases h)
      · simp only [ev_tmp, T.get_set, Nat.reduceEqDiff, if_true, if_false, evG_some]
      apply W.run 20
      · intro M
        simp (config := { maxSteps := 4000000 }) (disch := first | decide +kernel | omega) only [c38, Try.f38, Option.getD_some, sub_seq1, sub_seq0, sub_cond0, sub_nil, exec_region, runOps_cons, opF_fieldAddr, ev_tmp, T.get_set, Nat.reduceEqDiff, T.get_e, if_false, if_true, evG_some, putT_some, opF_store, ev_int, putT_none, runOps_nil, R.ok_bind, fb1', s1]
        with_reducible rfl
      show W tb4 _ _ _
      apply W.seq
      apply W.run 20
      · intro M
        simp (config := { maxSteps := 4000000 }) (disch := first | decide +kernel | omega) only [c38, Try.f38, Option.getD_some, sub_seq1, sub_seq0, sub_nil, exec_region, runOps_cons, opF_load, ev_tmp, T.get_set, Nat.reduceEqDiff, T.get_e, if_false, if_true, evG_some, putT_some, opF_store, putT_none, runOps_nil, R.ok_bind, l1, s2]
        with_reducible rfl
      show W tb4 _ _ _
      apply W.run 20
      · intro M
        simp (config := { maxSteps := 4000000 }) (disch := first | decide +kernel | omega) only [c38, Try.f38, Option.getD_some, sub_seq1, sub_nil, exec_ret]
        with_reducible rfl
      refine ⟨.inr rfl, C2, [.agg ⟨entC (norm e)⟩], rfl, ?_, rfl, k2⟩
      simp only [Try.f38, resF, ev_tmp, T.get_set, Nat.reduceEqDiff, if_true, if_false, evG_some, R.ok_bind, l2]
  exact ⟨A', hg, hk⟩
end Go.Proofs.Ytnelkapmmgggdaa.mdl

/-
  Model: two lists are alike; an entry is looked for, as the document does.
-/
namespace Go.Proofs.Ytnelkapmmgggdaa.mdl
open Go.Am Go.Mdl
set_option linter.unusedSimpArgs false
set_option linter.unusedVariables false
set_option linter.unusedVariables false

theorem und24' : tb4.und 24 = some (.int .u32) := by kernel_rfl
theorem shape45 : fieldsOf (tb4.und 45) = [(false, 9, 0), (false, 24, 1), (false, 4, 2)] := by kernel_rfl
theorem eqm45 (x y : Operand) (a b : Array Value) : eqMay tb4 45 x y (.agg a) (.agg b) = true := by
  show (!tb4.P.eqGuardType tb4.P.depth 45) = true
  have : tb4.P.eqGuardType tb4.P.depth 45 = false := by decide +kernel
  rw [this]; rfl
theorem equal45 {g : Nat → Option Ob} {e f : EntD} : equalF tb4 g 100 45 (.agg ⟨entC e⟩) (.agg ⟨entC f⟩) = .ok (decide (e = f)) := by
  rw [equal_struct (by kernel_rfl) shape45 (by kernel_rfl)]
  simp only [fieldsEqS, cond_false, entC]
  rw [part_one und9' rfl rfl, part_one und9' rfl rfl, part_one (o := 1) und24' rfl rfl, part_one (o := 1) und24' rfl rfl, part_one (o := 2) und4' rfl rfl, part_one (o := 2) und4' rfl rfl]
  simp only [R.ok_bind, equal_int (tb := tb4) (t := 24) und24', equal_str (tb := tb4) (t := 9) und9', equal_bool (tb := tb4) (t := 4) und4']
  have hh : ((e.weight : Int) = (f.weight : Int)) = (e.weight = f.weight) := propext Int.natCast_inj
  simp only [hh]
  obtain ⟨a0, a1, a2⟩ := e
  obtain ⟨b0, b1, b2⟩ := f
  by_cases h0 : a0 = b0 <;> by_cases h1 : a1 = b1 <;> by_cases h2 : a2 = b2 <;> simp [h0, h1, h2, R.ok_bind]
theorem neq45 {g : Nat → Option Ob} {x y : Operand} {e f : EntD} : eqF tb4 g .neq 45 x y (.agg ⟨entC e⟩) (.agg ⟨entC f⟩) = .ok (.bool (!decide (e = f))) := by
  unfold eqF
  rw [eqm45, cond_true]
  simp only []
  rw [equal45]
  rfl
noncomputable def c12 : Code := Try.f12.body.getD .skip
noncomputable def c12b1 : Code := sub c12 [1,1,0,1,0,0]
theorem c12_eq : Try.f12.body = some (.seq (sub c12 [0]) (.seq (.seq (sub c12 [1,0,0]) (sub c12 [1,0,1])) (.seq (.seq (sub c12 [1,1,0,0]) (.block 0 (.loop c12b1))) (.seq (sub c12 [1,1,1,0]) (sub c12 [1,1,1,1]))))) := by kernel_rfl
theorem EntS.at {A : Mem} {b i : Nat} {l : List EntD} {x : Value} {e : EntD} (h : EntS A b l x) (he : l[i]? = some e) : indexAddrF tb4 32 x (.int .i64 ((i : Nat) : Int)) = .ok (.pointer (some ⟨b, i * 3, none⟩)) ∧ loadF tb4 A.get 45 (.pointer (some ⟨b, i * 3, none⟩)) = .ok (.agg ⟨entC e⟩) := by
  obtain ⟨d45, hd1, hd2⟩ := und45'
  exact ⟨h.idx und32' size45' (by rw [List.length_map]; exact (List.getElem?_eq_some_iff.1 he).1), h.load_all hd1 hd2 size45' (by rw [List.getElem?_map, he]; rfl)⟩
theorem EntS.lens {A : Mem} {b : Nat} {l : List EntD} {x : Value} (h : EntS A b l x) : builtinPF tb4 .len [32] [x] = .ok (.int .i64 ((l.length : Nat) : Int)) := by
  have := h.len (tb := tb4) und32'
  rwa [List.length_map] at this
set_option maxHeartbeats 4000000 in
set_option maxRecDepth 20000 in
theorem run_same {A : Mem} {k l : List EntD} {x y : Value} (h : EntE A k x) (h' : EntE A l y) (hk : k.length < 1000000) (hl : l.length < 1000000) : Ans tb4 12 [x, y] A (.bool (decide (k = l))) A := by
  obtain ⟨b, h⟩ := h
  obtain ⟨b', h'⟩ := h'
  obtain ⟨v, A', hg, rfl, rfl⟩ : ∃ v A', Ans tb4 12 [x, y] A v A' ∧ v = .bool (decide (k = l)) ∧ A' = A := by
    refine ans_of_W (fn_at Try.func12) c12_eq (by rw [Try.ntmps12]; simp) (by kernel_rfl) (by kernel_rfl) ?_
    have l1 := h.lens
    have l2 := h'.lens
    apply W.seq
    apply W.run 20
    · intro M
      simp (config := { maxSteps := 4000000 }) (disch := first | decide +kernel | omega) only [c12, Try.f12, Option.getD_some, sub_seq0, sub_nil, T.puts_cons, Nat.reduceAdd, T.puts_nil, exec_region, runOps_cons, opF_assign, ev_bool, putT_some, runOps_nil, R.ok_bind]
      with_reducible rfl
    show W tb4 _ _ _
    apply W.seq
    apply W.seq
    by_cases hlen : k.length = l.length
    rotate_left
    · apply W.run 20
      · intro M
        simp (config := { maxSteps := 4000000 }) (disch := first | decide +kernel | omega) only [c12, Try.f12, Option.getD_some, sub_seq1, sub_seq0, sub_nil, exec_region, runOps_cons, opF_move, ev_tmp, T.get_set, Nat.reduceEqDiff, T.get_e, if_true, if_false, evG_some, putT_some, opF_len, evs, R.ok_bind, opF_neq, runOps_nil, l2, l1, binF_int, op_neq, ne_eq, hlen, not_false_eq_true, decide_true]
        with_reducible rfl
      apply W.run 20
      · intro M
        simp (config := { maxSteps := 4000000 }) (disch := first | decide +kernel | omega) only [c12, Try.f12, Option.getD_some, sub_seq1, sub_seq0, sub_nil, exec_cond, ev_tmp, T.get_set, Nat.reduceEqDiff, T.get_e, if_false, if_true, evG_some, exec_seq, exec_region, runOps_cons, opF_assign, ev_bool, putT_some, runOps_nil, R.ok_bind, exec_ret, exec_skip]
        with_reducible rfl
      refine ⟨.inr rfl, _, [.bool false], rfl, ?_, ?_, rfl⟩
      · simp only [Try.f12, resF, ev_tmp, T.get_set, Nat.reduceEqDiff, if_true, if_false, evG_some, R.ok_bind]
      · rw [decide_eq_false (fun e => hlen (by rw [e]))]; rfl
    · apply W.run 20
      · intro M
        simp (config := { maxSteps := 4000000 }) (disch := first | decide +kernel | omega) only [c12, Try.f12, Option.getD_some, sub_seq1, sub_seq0, sub_nil, exec_region, runOps_cons, opF_move, ev_tmp, T.get_set, Nat.reduceEqDiff, T.get_e, if_true, if_false, evG_some, putT_some, opF_len, evs, R.ok_bind, opF_neq, runOps_nil, l2, l1, hlen, binF_int, op_neq, ne_eq, not_true_eq_false, decide_false]
        with_reducible rfl
      apply W.run 20
      · intro M
        simp (config := { maxSteps := 4000000 }) (disch := first | decide +kernel | omega) only [c12, Try.f12, Option.getD_some, sub_seq1, sub_seq0, sub_nil, exec_cond, ev_tmp, T.get_set, Nat.reduceEqDiff, T.get_e, if_false, if_true, evG_some, exec_seq, exec_region, runOps_cons, opF_assign, ev_bool, putT_some, runOps_nil, R.ok_bind, exec_ret, exec_skip]
        with_reducible rfl
      show W tb4 _ _ _
      apply W.seq
      apply W.seq
      apply W.run 20
      · intro M
        simp (config := { maxSteps := 4000000 }) (disch := first | decide +kernel | omega) only [c12, Try.f12, Option.getD_some, sub_seq1, sub_seq0, sub_nil, exec_region, runOps_cons, opF_assign, ev_int, putT_some, runOps_nil, R.ok_bind]
        with_reducible rfl
      show W tb4 _ _ _
      apply W.block
      refine W.up k.length (fun i t C => C = A ∧ k.take i = l.take i ∧ Sl t [(0, x), (1, y), (5, .int .i64 (i : Int))]) ?_ (Nat.zero_le _) ⟨rfl, rfl, ?_⟩
      · rintro i t C hi ⟨rfl, heq, g0, g1, g5, -⟩
        by_cases hlt : i < k.length
        · have ek : k[i]? = some k[i] := List.getElem?_eq_getElem hlt
          have el : l[i]? = some (l[i]'(by omega)) := List.getElem?_eq_getElem (by omega)
          obtain ⟨a1, a2⟩ := h.at ek
          obtain ⟨b1, b2⟩ := h'.at el
          by_cases he : k[i] = l[i]'(by omega)
          · rw [← he] at b2
            have hd : (!decide (k[i] = k[i])) = false := by simp
            have nq := fun x y => neq45 (g := C.get) (x := x) (y := y) (e := k[i]) (f := k[i])
            rw [hd] at nq
            apply W.run 20
            · intro M
              simp (config := { maxSteps := 4000000 }) (disch := first | decide +kernel | omega) only [c12b1, c12, Try.f12, Option.getD_some, sub_seq1, sub_seq0, sub_block, sub_loop, sub_nil, exec_seq, exec_region, runOps_cons, opF_move, ev_tmp, g5, evG_some, putT_some, T.get_set, Nat.reduceEqDiff, g0, if_false, opF_len, evs, if_true, R.ok_bind, opF_ari, runOps_nil, l1, binF_int, op_lssI, cast_lt, hlt, decide_true, exec_cond, exec_skip, exec_exit, exec_block, exec_draw, opF_assign, ev_bool, exec_ret, opF_indexAddr, opF_load, g1, opF_neqR, b1, b2, a1, a2, nq, ev_int, op_add_i64]
              with_reducible rfl
            refine ⟨hlt, _, _, rfl, rfl, ?_, ?_⟩
            · rw [List.take_succ_eq_append_getElem hlt, List.take_succ_eq_append_getElem (by omega), heq, he]
            · simp only [Sl_cons, Sl_nil, T.get_set, T.puts_cons, T.puts_nil, Nat.reduceEqDiff, Nat.reduceAdd, if_true, if_false, and_true, true_and, g0, g1]
          · have hd : (!decide (k[i] = l[i]'(by omega))) = true := by simp [he]
            have nq := fun x y => neq45 (g := C.get) (x := x) (y := y) (e := k[i]) (f := l[i]'(by omega))
            rw [hd] at nq
            apply W.run 20
            · intro M
              simp (config := { maxSteps := 4000000 }) (disch := first | decide +kernel | omega) only [c12b1, c12, Try.f12, Option.getD_some, sub_seq1, sub_seq0, sub_block, sub_loop, sub_nil, exec_seq, exec_region, runOps_cons, opF_move, ev_tmp, g5, evG_some, putT_some, T.get_set, Nat.reduceEqDiff, g0, if_false, opF_len, evs, if_true, R.ok_bind, opF_ari, runOps_nil, l1, binF_int, op_lssI, cast_lt, hlt, decide_true, exec_cond, exec_skip, exec_exit, exec_block, exec_draw, opF_assign, ev_bool, exec_ret, opF_indexAddr, opF_load, g1, opF_neqR, b1, b2, a1, a2, nq]
              with_reducible rfl
            refine ⟨.inr rfl, _, [.bool false], rfl, ?_, ?_, rfl⟩
            · simp only [Try.f12, resF, ev_tmp, T.get_set, Nat.reduceEqDiff, if_true, if_false, evG_some, R.ok_bind]
            · rw [decide_eq_false (fun e => he (by subst e; rfl))]; rfl
        · have hin : i = k.length := by omega
          subst hin
          apply W.run 20
          · intro M
            simp (config := { maxSteps := 4000000 }) (disch := first | decide +kernel | omega) only [c12b1, c12, Try.f12, Option.getD_some, sub_seq1, sub_seq0, sub_block, sub_loop, sub_nil, exec_seq, exec_region, runOps_cons, opF_move, ev_tmp, g5, evG_some, putT_some, T.get_set, Nat.reduceEqDiff, g0, if_false, opF_len, evs, if_true, R.ok_bind, opF_ari, runOps_nil, l1, binF_int, op_lssI, cast_lt, Nat.lt_irrefl, decide_false, exec_cond, exec_skip, exec_exit, exec_block, exec_draw, opF_assign, ev_bool, exec_ret]
            with_reducible rfl
          show W tb4 _ _ _
          apply W.seq
          apply W.run 20
          · intro M
            simp (config := { maxSteps := 4000000 }) (disch := first | decide +kernel | omega) only [c12, Try.f12, Option.getD_some, sub_seq1, sub_seq0, sub_nil, exec_region, runOps_cons, opF_assign, ev_bool, putT_some, runOps_nil, R.ok_bind]
            with_reducible rfl
          apply W.run 20
          · intro M
            simp (config := { maxSteps := 4000000 }) (disch := first | decide +kernel | omega) only [c12, Try.f12, Option.getD_some, sub_seq1, sub_nil, exec_ret]
            with_reducible rfl
          refine ⟨.inr rfl, _, [.bool true], rfl, ?_, ?_, rfl⟩
          · simp only [Try.f12, resF, ev_tmp, T.get_set, Nat.reduceEqDiff, if_true, if_false, evG_some, R.ok_bind]
          · rw [List.take_length, hlen, List.take_length] at heq
            rw [decide_eq_true heq]; rfl
      · simp only [Sl_cons, Sl_nil, T.get_set, T.puts_cons, T.puts_nil, Nat.reduceEqDiff, Nat.reduceAdd, if_true, if_false, and_true, true_and]
  exact hg
end Go.Proofs.Ytnelkapmmgggdaa.mdl

/-
  Model: an entry is looked for, as the document does.
-/
namespace Go.Proofs.Ytnelkapmmgggdaa.mdl
open Go.Am Go.Mdl
set_option linter.unusedSimpArgs false
set_option linter.unusedVariables false
set_option linter.unusedVariables false

theorem find_at {w : List UInt8} : ∀ {l : List EntD} {i : Nat} {e : EntD}, l[i]? = some e → e.word = w → (∀ y ∈ l.take i, y.word ≠ w) → find w l = some e
  | [], _, _, h, _, _ => by simp at h
  | x :: l, 0, e, h, he, _ => by
    rw [List.getElem?_cons_zero, Option.some.injEq] at h
    subst h
    simp [find, he]
  | x :: l, i + 1, e, h, he, hn => by
    have hx : x.word ≠ w := hn x (by simp)
    have ih := find_at (l := l) (i := i) (by rwa [List.getElem?_cons_succ] at h) he fun y hy => hn y (by simp [hy])
    rw [show find w (x :: l) = find w l by simp [find, hx]]
    exact ih
theorem fb0o {b o : Nat} : fieldAddrF tb4 45 (.pointer (some ⟨b, o, none⟩)) 0 = .ok (.pointer (some ⟨b, o, none⟩)) := by kernel_rfl
theorem EntS.word {A : Mem} {b i : Nat} {l : List EntD} {x : Value} {e : EntD} (h : EntS A b l x) (he : l[i]? = some e) : loadF tb4 A.get 9 (.pointer (some ⟨b, i * 3, none⟩)) = .ok (strOf e.word) :=
  h.load und9' rfl (j := 0) (by rw [List.getElem?_map, he]; rfl) rfl (by decide)
noncomputable def c13 : Code := Try.f13.body.getD .skip
noncomputable def c13b1 : Code := sub c13 [1,0,1,0,0]
theorem c13_eq : Try.f13.body = some (.seq (sub c13 [0]) (.seq (.seq (sub c13 [1,0,0]) (.block 0 (.loop c13b1))) (.seq (sub c13 [1,1,0]) (sub c13 [1,1,1])))) := by kernel_rfl
set_option maxHeartbeats 4000000 in
set_option maxRecDepth 20000 in
theorem run_rfind {A : Mem} {l : List EntD} {x : Value} {w : List UInt8} (h : EntE A l x) (hl : l.length < 1000000) :
    ∃ A', Ans tb4 13 [x, strOf w] A (.tuple ⟨[.agg ⟨entC ((find w l).getD zeroE)⟩, .bool (find w l).isSome]⟩) A' ∧ Kp A A' := by
  obtain ⟨b, h⟩ := h
  obtain ⟨v, A', hg, rfl, hk⟩ : ∃ v A', Ans tb4 13 [x, strOf w] A v A' ∧ v = .tuple ⟨[.agg ⟨entC ((find w l).getD zeroE)⟩, .bool (find w l).isSome]⟩ ∧ Kp A A' := by
    refine ans_of_W (fn_at Try.func13) c13_eq (by rw [Try.ntmps13]; simp) (by kernel_rfl) (by kernel_rfl) ?_
    obtain ⟨d45, hd1, hd2⟩ := und45'
    have hz : Vals (A.alloc (rowOb 45 [.string .empty, .int .u32 0, .bool false])) 45 A.next (.var 3) [.string .empty, .int .u32 0, .bool false] := vals_puts (get_alloc_self _ _)
    have hkp := Kp.alloc A (rowOb 45 [.string .empty, .int .u32 0, .bool false])
    have h' := h.kp hkp
    have l1 := h'.lens
    have fin : ∀ e : EntD, ∃ C2, storeF tb4 (A.alloc (rowOb 45 [.string .empty, .int .u32 0, .bool false])) 45 (.pointer (some ⟨A.next, 0, none⟩)) (.agg ⟨entC e⟩) = .ok C2 ∧ loadF tb4 C2.get 45 (.pointer (some ⟨A.next, 0, none⟩)) = .ok (.agg ⟨entC e⟩) ∧ Kp A C2 := by
      intro e
      obtain ⟨C2, s2, v2, n2, k2⟩ := store_all (tb := tb4) (t := 45) (l := [.string .empty, .int .u32 0, .bool false]) (l' := entC e) size45' hz rfl (by simp) (entC_one _)
      exact ⟨C2, s2, load_all hd1 hd2 size45' v2, by rw [Kp, n2]; exact ⟨hkp.1, fun z hz => by rw [k2 z (by omega), hkp.2 z hz]⟩⟩
    apply W.seq
    apply W.run 20
    · intro M
      simp (config := { maxSteps := 4000000 }) (disch := first | decide +kernel | omega) only [c13, Try.f13, Option.getD_some, sub_seq0, sub_nil, T.puts_cons, Nat.reduceAdd, T.puts_nil, exec_region, runOps_cons, opF_alloc, z45, at_ptr, putT_some, opF_assign, ev_bool, runOps_nil, R.ok_bind, cells_agg]
      with_reducible rfl
    show W tb4 _ _ _
    apply W.seq
    apply W.seq
    apply W.run 20
    · intro M
      simp (config := { maxSteps := 4000000 }) (disch := first | decide +kernel | omega) only [c13, Try.f13, Option.getD_some, sub_seq1, sub_seq0, sub_nil, exec_region, runOps_cons, opF_assign, ev_int, putT_some, runOps_nil, R.ok_bind]
      with_reducible rfl
    show W tb4 _ _ _
    apply W.block
    refine W.up l.length (fun i t C => C = A.alloc (rowOb 45 [.string .empty, .int .u32 0, .bool false]) ∧ (∀ y ∈ l.take i, y.word ≠ w) ∧ Sl t [(0, x), (1, strOf w), (4, .pointer (some ⟨A.next, 0, none⟩)), (6, .int .i64 (i : Int))]) ?_ (Nat.zero_le _) ⟨rfl, by simp, ?_⟩
    · rintro i t C hi ⟨rfl, hn, g0, g1, g4, g6, -⟩
      by_cases hlt : i < l.length
      · have el : l[i]? = some l[i] := List.getElem?_eq_getElem hlt
        obtain ⟨a1, a2⟩ := h'.at el
        have a3 := h'.word el
        by_cases he : l[i].word = w
        · have hf := find_at el he hn
          obtain ⟨C2, s2, l2, k2⟩ := fin l[i]
          apply W.run 20
          · intro M
            simp (config := { maxSteps := 4000000 }) (disch := first | decide +kernel | omega) only [c13b1, c13, Try.f13, Option.getD_some, sub_seq1, sub_seq0, sub_block, sub_loop, sub_nil, exec_seq, exec_region, runOps_cons, opF_move, ev_tmp, g6, evG_some, putT_some, T.get_set, Nat.reduceEqDiff, g0, if_false, opF_len, evs, if_true, R.ok_bind, opF_ari, runOps_nil, l1, binF_int, op_lssI, cast_lt, hlt, decide_true, exec_cond, exec_skip, exec_exit, exec_block, exec_ret, opF_indexAddr, opF_fieldAddr, opF_load, g1, opF_eql, a1, fb0o, a3, he, binF_str, str_eql, opF_store, g4, putT_none, opF_assign, ev_bool, a2, s2]
            with_reducible rfl
          refine ⟨.inr rfl, C2, [.agg ⟨entC l[i]⟩, .bool true], rfl, ?_, by rw [hf]; rfl, k2⟩
          simp only [Try.f13, resF, ev_tmp, T.get_set, Nat.reduceEqDiff, if_true, if_false, evG_some, R.ok_bind, l2, g4]
        · apply W.run 20
          · intro M
            simp (config := { maxSteps := 4000000 }) (disch := first | decide +kernel | omega) only [c13b1, c13, Try.f13, Option.getD_some, sub_seq1, sub_seq0, sub_block, sub_loop, sub_nil, exec_seq, exec_region, runOps_cons, opF_move, ev_tmp, g6, evG_some, putT_some, T.get_set, Nat.reduceEqDiff, g0, if_false, opF_len, evs, if_true, R.ok_bind, opF_ari, runOps_nil, l1, binF_int, op_lssI, cast_lt, hlt, decide_true, exec_cond, exec_skip, exec_exit, exec_block, exec_ret, opF_indexAddr, opF_fieldAddr, opF_load, g1, opF_eql, a1, fb0o, a3, binF_str, str_eql, he, decide_false, opF_store, g4, putT_none, opF_assign, ev_bool, a2, ev_int, op_add_i64]
            with_reducible rfl
          refine ⟨hlt, _, _, rfl, rfl, ?_, ?_⟩
          · intro y hy
            rw [List.take_succ_eq_append_getElem hlt] at hy
            rcases List.mem_append.1 hy with hy | hy
            · exact hn y hy
            · simp only [List.mem_singleton] at hy
              rw [hy]; exact he
          · simp only [Sl_cons, Sl_nil, T.get_set, T.puts_cons, T.puts_nil, Nat.reduceEqDiff, Nat.reduceAdd, if_true, if_false, and_true, true_and, g0, g1, g4]
      · have hin : i = l.length := by omega
        subst hin
        rw [List.take_length] at hn
        have hf := find_none hn
        obtain ⟨C2, s2, l2, k2⟩ := fin zeroE
        have hbz : buildF tb4 45 [] = .ok (.agg ⟨entC zeroE⟩) := by kernel_rfl
        apply W.run 20
        · intro M
          simp (config := { maxSteps := 4000000 }) (disch := first | decide +kernel | omega) only [c13b1, c13, Try.f13, Option.getD_some, sub_seq1, sub_seq0, sub_block, sub_loop, sub_nil, exec_seq, exec_region, runOps_cons, opF_move, ev_tmp, g6, evG_some, putT_some, T.get_set, Nat.reduceEqDiff, g0, if_false, opF_len, evs, if_true, R.ok_bind, opF_ari, runOps_nil, l1, binF_int, op_lssI, cast_lt, Nat.lt_irrefl, decide_false, exec_cond, exec_skip, exec_exit, exec_block, exec_ret]
          with_reducible rfl
        show W tb4 _ _ _
        apply W.seq
        apply W.run 20
        · intro M
          simp (config := { maxSteps := 4000000 }) (disch := first | decide +kernel | omega) only [c13, Try.f13, Option.getD_some, sub_seq1, sub_seq0, sub_nil, exec_region, runOps_cons, opF_build, evp, putT_some, opF_store, ev_tmp, T.get_set, Nat.reduceEqDiff, g4, if_false, evG_some, if_true, putT_none, opF_assign, ev_bool, runOps_nil, R.ok_bind, hbz, s2]
          with_reducible rfl
        apply W.run 20
        · intro M
          simp (config := { maxSteps := 4000000 }) (disch := first | decide +kernel | omega) only [c13, Try.f13, Option.getD_some, sub_seq1, sub_nil, exec_ret]
          with_reducible rfl
        refine ⟨.inr rfl, C2, [.agg ⟨entC zeroE⟩, .bool false], rfl, ?_, by rw [hf]; rfl, k2⟩
        simp only [Try.f13, resF, ev_tmp, T.get_set, Nat.reduceEqDiff, if_true, if_false, evG_some, R.ok_bind, l2, g4]
    · simp only [Sl_cons, Sl_nil, T.get_set, T.puts_cons, T.puts_nil, Nat.reduceEqDiff, Nat.reduceAdd, if_true, if_false, and_true, true_and]
  exact ⟨A', hg, hk⟩
end Go.Proofs.Ytnelkapmmgggdaa.mdl

