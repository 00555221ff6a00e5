/-
  What the functions of this group compute on the abstract machine, and the plain laws of it. Part C: conditions stand in each theorem.
-/
import Derived.Test.YtmhldlnlgjpkaaaScrB

/-
  Script: Put.
-/
namespace Go.Proofs.Ytmhldlnlgjpkaaa.scr
open Go.Am
set_option linter.unusedSimpArgs false
set_option linter.unusedVariables false
set_option maxRecDepth 20000

noncomputable def c49 : Code := Try.f49.body.getD .skip
noncomputable def c49b1 : Code := sub c49 [1,1,1,0,0]
theorem c49_eq : Try.f49.body = some (.seq (sub c49 [0]) (.seq (.seq (sub c49 [1,0,0]) (sub c49 [1,0,1])) (.seq (sub c49 [1,1,0]) (.block 0 (.loop c49b1))))) := by kernel_rfl
noncomputable def c30 : Code := Try.f30.body.getD .skip
theorem c30_eq : Try.f30.body = some (.seq (sub c30 [0]) (.seq (sub c30 [1,0]) (sub c30 [1,1]))) := by kernel_rfl
theorem run_partsF {A : Mem} {l : List Value} : Ans tb1 30 [.agg ⟨l⟩] A (.func (.func 49) ⟨[]⟩ ⟨[.pointer (some ⟨A.next, 0, none⟩)]⟩) (A.alloc (rowOb 28 l)) := by
  obtain ⟨v, A', ha, rfl, rfl⟩ : ∃ v A', Ans tb1 30 [.agg ⟨l⟩] A v A' ∧ v = .func (.func 49) ⟨[]⟩ ⟨[.pointer (some ⟨A.next, 0, none⟩)]⟩ ∧ A' = A.alloc (rowOb 28 l) := by
    refine ans_of_W (fn_at Try.func30) c30_eq (by rw [Try.ntmps30]; simp) (by kernel_rfl) (by kernel_rfl) ?_
    apply W.seq
    apply W.run 20
    · intro M
      simp (config := { maxSteps := 4000000 }) (disch := first | decide +kernel | omega) only [c30, Try.f30, Option.getD_some, sub_seq0, sub_nil, T.puts_cons, Nat.reduceAdd, T.puts_nil, exec_region, runOps_cons, opF_box, ev_tmp, T.get_set, T.get_e, if_true, evG_some, at_ptr, putT_some, opF_assign, ev_nilfunc, runOps_nil, R.ok_bind, cells_agg]
      with_reducible rfl
    apply W.seq
    apply W.run 20
    · intro M
      simp (config := { maxSteps := 4000000 }) (disch := first | decide +kernel | omega) only [c30, Try.f30, Option.getD_some, sub_seq1, sub_seq0, sub_nil, exec_region, runOps_cons, opF_makeFunc, evs, ev_tmp, T.get_set, Nat.reduceEqDiff, T.get_e, if_false, if_true, evG_some, R.ok_bind, putT_some, opF_assign, runOps_nil]
      with_reducible rfl
    apply W.run 20
    · intro M
      simp (config := { maxSteps := 4000000 }) (disch := first | decide +kernel | omega) only [c30, Try.f30, Option.getD_some, sub_seq1, sub_nil, exec_ret]
      with_reducible rfl
    refine ⟨.inr rfl, _, [.func (.func 49) ⟨[]⟩ ⟨[.pointer (some ⟨A.next, 0, none⟩)]⟩], rfl, ?_, rfl, rfl⟩
    simp only [Try.f30, resF, ev_tmp, T.get_set, Nat.reduceEqDiff, if_true, if_false, evG_some, R.ok_bind]
  exact ha
end Go.Proofs.Ytmhldlnlgjpkaaa.scr

/-
  Script: Put, whole.
-/
namespace Go.Proofs.Ytmhldlnlgjpkaaa.scr
open Go.Am
set_option linter.unusedSimpArgs false
set_option linter.unusedVariables false
set_option maxRecDepth 20000

theorem cells_ptr (a : Option Addr) : (Value.pointer a).cells.toList = [.pointer a] := rfl
theorem zero22 : zeroF tb1 22 = .ok (.slice none 0 0) := by kernel_rfl
theorem zero51 : zeroF tb1 51 = .ok (.int .i64 0) := by kernel_rfl
theorem zero83 : zeroF tb1 83 = .ok (.pointer none) := by kernel_rfl
theorem size83 : sizeF tb1 83 = .ok 1 := by kernel_rfl
theorem size51 : sizeF tb1 51 = .ok 1 := by kernel_rfl
theorem bf85 : buildF tb1 85 [] = .ok (.agg ⟨[.slice none 0 0, .bool false]⟩) := by kernel_rfl
theorem c14_eq : Try.f14.body = some (.seq (sub c14 [0]) (.seq (sub c14 [1,0]) (.seq (.seq (sub c14 [1,1,0,0]) (sub c14 [1,1,0,1])) (.seq (sub c14 [1,1,1,0]) (sub c14 [1,1,1,1]))))) := by kernel_rfl
theorem c14r_eq : sub c14 [1,1,0,1] = .block 0 (.rangeFunc (.tmp 9) #[10] (sub c14 [1,1,0,1,0,0]) (sub c14 [1,1,0,1,0,1])) := by kernel_rfl
end Go.Proofs.Ytmhldlnlgjpkaaa.scr

/-
  Script: what was read can be laid.
-/
namespace Go.Proofs.Ytmhldlnlgjpkaaa.scr
open Go.Am
set_option linter.unusedSimpArgs false
set_option linter.unusedVariables false

theorem numV_ok (r : List UInt8) : NumOk (numV r) := by
  have h := nx_lt r
  unfold numV NumOk
  split
  · exact .inr rfl
  · exact .inl (by omega)
theorem numbersD_ok (r : List UInt8) (k : Nat) : ∀ v ∈ numbersD r k, NumOk v := fun v hv => by
  simp only [numbersD, List.mem_map] at hv
  obtain ⟨i, -, rfl⟩ := hv
  exact numV_ok _
theorem wordD_ok (r : List UInt8) : WordOk (wordD r).1 := by
  have hn := nx_lt r
  unfold wordD
  split
  · left
    simp only [List.length_replicate]
    have e : 32 * (nx r - 248 + 1) / 32 = nx r - 248 + 1 := by omega
    rw [e]
    exact ⟨by omega, by omega, rfl⟩
  · right
    simp only [lettersD_len]
    refine ⟨by omega, fun c hc => ?_⟩
    simp only [lettersD, List.mem_map] at hc
    obtain ⟨i, -, rfl⟩ := hc
    have h := nx_lt (r.tail.drop i)
    rw [letV_nat]
    split <;> omega
theorem stopD_ok (c : Bool) (s : List UInt8) : (∀ v ∈ (stopD c s).1, NumOk v) ∧ ∀ o ∈ (stopD c s).2.1, ∀ v ∈ o.2, NumOk v := by
  cases c with
  | false => exact ⟨fun v hv => (by cases hv), fun o ho => (by cases ho)⟩
  | true =>
    have e : stopD true s = (numbersD s.tail (nx s % 6), opensL (s.tail.drop (nx s % 6)) (nx s / 6 % 4), opensRest (s.tail.drop (nx s % 6)) (nx s / 6 % 4)) := rfl
    rw [e]
    refine ⟨numbersD_ok _ _, fun o ho => ?_⟩
    simp only [opensL, List.mem_map] at ho
    obtain ⟨i, -, rfl⟩ := ho
    exact numbersD_ok _ _
theorem moreD_ok (kd : Nat) (s : List UInt8) : (weighs kd = true → (moreD kd s).1 < 255 ∨ (moreD kd s).1 = 4294967295) ∧ (weighs kd = false → (moreD kd s).1 = 0) ∧
    (kd = 7 → ∃ a c : Nat, a < 6 ∧ c < 12 ∧ (moreD kd s).2.1 = (a : Int) - 1 ∧ (moreD kd s).2.2.1 = (c : Int) - 1) ∧ (kd ≠ 7 → (moreD kd s).2.1 = 0 ∧ (moreD kd s).2.2.1 = 0) := by
  have hn := nx_lt s
  unfold moreD
  by_cases hw : weighs kd = true
  · have h7 : kd ≠ 7 := fun h => by subst h; cases hw
    rw [if_pos hw]
    refine ⟨fun _ => ?_, fun h => (by rw [hw] at h; cases h), fun h => absurd h h7, fun _ => ⟨rfl, rfl⟩⟩
    simp only
    split
    · exact .inr rfl
    · exact .inl (by omega)
  · rw [if_neg hw]
    by_cases h7 : kd = 7
    · rw [if_pos h7]
      refine ⟨fun h => absurd h hw, fun _ => rfl, fun _ => ⟨nx s % 6, nx s / 6 % 12, by omega, by omega, by simp, by simp⟩, fun h => absurd h7 h⟩
    · rw [if_neg h7]
      exact ⟨fun h => absurd h hw, fun _ => rfl, fun h => absurd h h7, fun _ => ⟨rfl, rfl⟩⟩
theorem actD_ok2 (r : List UInt8) : ActOk2 (actD r).1 := by
  obtain ⟨m1, m2, m3, m4⟩ := moreD_ok (nx r % 10) (wordD (armD (nx r) r.tail).2).2
  obtain ⟨s1, s2⟩ := stopD_ok (cutD (nx r) || decide (0 < (armD (nx r) r.tail).1)) (moreD (nx r % 10) (wordD (armD (nx r) r.tail).2).2).2.2.2
  exact { ok := actD_ok r, word := wordD_ok _, stays := s1, opening := s2, w1 := m1, w0 := m2, kn := m3, k0 := m4 }
theorem actsD_ok2 : ∀ n r, ∀ d ∈ (actsD n r).1, ActOk2 d
  | 0, r, d, h => by cases h
  | n + 1, r, d, h => by
    unfold actsD at h
    split at h
    · cases h
    · rcases List.mem_cons.1 h with rfl | h
      · exact actD_ok2 r
      · exact actsD_ok2 n _ d h
end Go.Proofs.Ytmhldlnlgjpkaaa.scr

/-
  Script: the document's reader.
-/
namespace Go.Proofs.Ytmhldlnlgjpkaaa.scr
open Go.Am
variable {q : Nat}
set_option linter.unusedSimpArgs false
set_option linter.unusedVariables false
set_option linter.unusedVariables false
set_option maxRecDepth 20000

/-- The document's reader at 'ib': all bytes, and how many were read. -/
def Ri (q : Nat) (A : Mem) (ib : Nat) (b : List UInt8) (x : Value) (rem : List UInt8) : Prop :=
  ∃ at_, Vals A 78 ib (.var 2) [x, .int .i64 ((at_ : Nat) : Int)] ∧ RdS q A b x ∧ at_ ≤ b.length ∧ rem = b.drop at_ ∧ ib < A.next ∧ ib ≠ q
end Go.Proofs.Ytmhldlnlgjpkaaa.scr

/-
  Script: the document's numbers and words.
-/
namespace Go.Proofs.Ytmhldlnlgjpkaaa.scr
open Go.Am
variable {q : Nat}
set_option linter.unusedSimpArgs false
set_option linter.unusedVariables false
set_option linter.unusedVariables false
set_option maxRecDepth 20000

end Go.Proofs.Ytmhldlnlgjpkaaa.scr

/-
  Script: the document's words.
-/
namespace Go.Proofs.Ytmhldlnlgjpkaaa.scr
open Go.Am
variable {q : Nat}
set_option linter.unusedSimpArgs false
set_option linter.unusedVariables false
set_option linter.unusedVariables false
set_option maxRecDepth 20000

end Go.Proofs.Ytmhldlnlgjpkaaa.scr

/-
  Script: rows that grow, of any kind; the document's values.
-/
namespace Go.Proofs.Ytmhldlnlgjpkaaa.scr
open Go.Am
set_option linter.unusedSimpArgs false
set_option linter.unusedVariables false
set_option linter.unusedVariables false

section
variable {D : Type} {R : (Nat → Prop) → Mem → D → List Value → Prop}
/-- A row of values at 'b', each of which keeps to blocks that are not the row's. -/
def Lst (R : (Nat → Prop) → Mem → D → List Value → Prop) (e : TypeId) (n b : Nat) (P : Nat → Prop) (A : Mem) (ds : List D) (x : Value) : Prop :=
  ∃ ls, SlcM A e n b ls x ∧ ls.length = ds.length ∧ ∀ (i : Nat) (d : D) (l : List Value), ds[i]? = some d → ls[i]? = some l → R (fun c => P c ∧ (x = .slice none 0 0 ∨ c ≠ b)) A d l
def Mono (R : (Nat → Prop) → Mem → D → List Value → Prop) : Prop :=
  ∀ (P Q : Nat → Prop) (A A' : Mem) (d : D) (l : List Value), R P A d l → A.next ≤ A'.next → (∀ c, P c → c < A.next → Q c ∧ A'.get c = A.get c) → R Q A' d l
variable {e n b : Nat} {P Q : Nat → Prop} {A A' : Mem} {ds : List D} {x : Value}
theorem Lst.nil : Lst R e n b P A [] (.slice none 0 0) := ⟨[], SlcM.nil _ _ _ _, rfl, fun i d l hd _ => by simp at hd⟩
theorem Lst.same (hR : Mono R) (h : Lst R e n b P A ds x) (hn : A.next ≤ A'.next) (hb : x = .slice none 0 0 ∨ (b < A.next → A'.get b = A.get b)) (hP : ∀ c, P c → c < A.next → (x = .slice none 0 0 ∨ c ≠ b) → Q c ∧ A'.get c = A.get c) : Lst R e n b Q A' ds x := by
  obtain ⟨ls, h1, h2, h3⟩ := h
  refine ⟨ls, ?_, h2, fun i d l hd hl => hR _ _ _ _ _ _ (h3 i d l hd hl) hn fun c hc hcl => ?_⟩
  · rcases hb with rfl | hb
    · rcases h1 with h1 | ⟨k, c, h1, _⟩
      · exact .inl h1
      · cases h1
    · exact h1.same hn hb
  · obtain ⟨q1, q2⟩ := hP c hc.1 hcl hc.2
    exact ⟨⟨q1, hc.2⟩, q2⟩
theorem Lst.lt (h : Lst R e n b P A ds x) : x = .slice none 0 0 ∨ b < A.next := by
  obtain ⟨ls, h1, -⟩ := h
  exact SlcM.lt h1
theorem Lst.cells (h : Lst R e n b P A ds x) : x.cells.toList = [x] ∧ oneCell x = true := by
  obtain ⟨ls, h1, -⟩ := h
  exact ⟨(SlcM.cells h1).1, (SlcM.cells h1).2.1⟩
theorem Lst.self (h : Lst R e n b P A ds x) (d : Nat) : sameV (d + 1) x x = true := by
  obtain ⟨ls, h1, -⟩ := h
  exact SlcM.self h1 d
theorem Lst.len (h : Lst R e n b P A ds x) {t t' : TypeId} (hu : tb1.und t = some (.slice t')) : builtinPF tb1 .len [t] [x] = .ok (.int .i64 ((ds.length : Nat) : Int)) := by
  obtain ⟨ls, h1, h2, -⟩ := h
  rw [← h2]; exact h1.len hu
theorem Lst.at (h : Lst R e n b P A ds x) {t : TypeId} {td : TypeDesc} (hu : tb1.und t = some (.slice e)) (hs : sizeF tb1 e = .ok n) (he : tb1.und e = some td) (ha : isAggD td = true) {i : Nat} (hi : i < ds.length) :
    ∃ o l, indexAddrF tb1 t x (.int .i64 (i : Int)) = .ok (.pointer (some ⟨b, o, none⟩)) ∧ loadF tb1 A.get e (.pointer (some ⟨b, o, none⟩)) = .ok (.agg ⟨l⟩) ∧ R (fun c => P c ∧ (x = .slice none 0 0 ∨ c ≠ b)) A ds[i] l ∧
      ∀ (j : Nat) (t : TypeId) (d : TypeDesc) (v : Value), tb1.und t = some d → isAggD d = false → j < n → l[j]? = some v → loadF tb1 A.get t (.pointer (some ⟨b, o + j, none⟩)) = .ok v := by
  obtain ⟨ls, h1, h2, h3⟩ := h
  have hli : i < ls.length := by omega
  exact ⟨i * n, ls[i], h1.idx hu hs hli, h1.load_all he ha hs (List.getElem?_eq_getElem hli), h3 i ds[i] ls[i] (List.getElem?_eq_getElem hi) (List.getElem?_eq_getElem hli), fun j t d v h4 h5 h6 h7 => h1.load h4 h5 (List.getElem?_eq_getElem hli) h7 h6⟩
theorem Lst.push (hR : Mono R) (hc : ∀ P A d l, R P A d l → l.length = n ∧ ∀ v ∈ l, oneCell v = true) {st : TypeId} (hst : tb1.und st = some (.slice e)) (hz : ∃ z, zcellsF tb1 e = .ok (n, z)) (hi : ∃ i, tb1.ty.get e = some i ∧ 0 < i.bytes ∧ i.bytes ≤ 65536) (hn0 : 0 < n) (hn1 : n < 65536)
    (h : Lst R e n b P A ds x) (hl : ds.length < 16777216) {d : D} {l : List Value} (hd : R (fun c => P c ∧ (x = .slice none 0 0 ∨ c ≠ b)) A d l) :
    ∃ x' A', appendF tb1 (A.alloc (rowOb e l)) st st x (.slice (some ⟨A.next, 0, none⟩) 1 2) = .ok (x', A') ∧ Lst R e n (A.next + 1) P A' (ds ++ [d]) x' ∧ A'.next = A.next + 2 ∧ ∀ y, (y = b → x = .slice none 0 0) → y < A.next → A'.get y = A.get y := by
  have hlt := h.lt
  obtain ⟨ls, h1, h2, h3⟩ := h
  obtain ⟨z, hz⟩ := hz
  obtain ⟨ti, t1, t2, t3⟩ := hi
  obtain ⟨c1, c2⟩ := hc _ _ _ _ hd
  have hn2 : (A.alloc (rowOb e l)).next = A.next + 1 := next_alloc _ _
  have h1' : SlcM (A.alloc (rowOb e l)) e n b ls x := h1.same (by omega) (fun hl => get_alloc_ne (by omega))
  obtain ⟨x', A', happ, hs3, hn3, hf3⟩ := h1'.append (tb := tb1) (st := st) (xt := st) hst hst hz t1 t2 t3 hn0 hn1 (by omega) (get_alloc_self A _) c1 c2
  have hfr : ∀ y, (y = b → x = .slice none 0 0) → y < A.next → A'.get y = A.get y := fun y h1 h2 => by rw [hf3 y h1 (by omega), get_alloc_ne (by omega)]
  have step : ∀ d l, R (fun c => P c ∧ (x = .slice none 0 0 ∨ c ≠ b)) A d l → R (fun c => P c ∧ (x' = .slice none 0 0 ∨ c ≠ A.next + 1)) A' d l := fun d l hd => hR _ _ _ _ _ _ hd (by omega) fun c hc hcl =>
    ⟨⟨hc.1, .inr (by omega)⟩, hfr c (fun e => hc.2.resolve_right (fun hne => hne e)) hcl⟩
  rw [hn2] at hs3
  refine ⟨x', A', happ, ⟨ls ++ [l], hs3, by simp [h2], fun i d' l' hd' hl' => ?_⟩, by omega, hfr⟩
  by_cases hj : i < ds.length
  · rw [List.getElem?_append_left (by omega)] at hd' hl'
    exact step _ _ (h3 i d' l' hd' hl')
  · have hji : i = ds.length := by
      have := (List.getElem?_eq_some_iff.1 hd').1
      rw [List.length_append] at this
      simp at this; omega
    subst hji
    rw [List.getElem?_append_right (by omega), Nat.sub_self] at hd'
    rw [List.getElem?_append_right (by omega), h2, Nat.sub_self] at hl'
    simp only [List.getElem?_cons_zero, Option.some.injEq] at hd' hl'
    subst hd' hl'
    exact step _ _ hd
end

/-! ### The document's openings, acts, settings -/
def OpP (P : Nat → Prop) (A : Mem) (d : Int × List Nat) (l : List Value) : Prop := ∃ xs, l = [.int .i64 d.1, xs] ∧ StR P A d.2 xs ∧ d.2.length ≤ 1000
theorem OpP.mono : Mono OpP := fun P Q A A' d l h hn hg => by
  obtain ⟨xs, h1, h2, h3⟩ := h
  exact ⟨xs, h1, h2.same hn hg, h3⟩
theorem OpP.cells (P : Nat → Prop) (A : Mem) (d : Int × List Nat) (l : List Value) (h : OpP P A d l) : l.length = 2 ∧ ∀ v ∈ l, oneCell v = true := by
  obtain ⟨xs, rfl, h2, -⟩ := h
  refine ⟨rfl, fun v hv => ?_⟩
  simp only [List.mem_cons, List.not_mem_nil, or_false] at hv
  rcases hv with rfl | rfl
  · rfl
  · exact h2.cells.2
def OpsP (P : Nat → Prop) (A : Mem) (ds : List (Int × List Nat)) (x : Value) : Prop := ∃ b, (x = .slice none 0 0 ∨ P b) ∧ ds.length ≤ 1000 ∧ Lst OpP 92 2 b P A ds x
theorem OpsP.same {P Q : Nat → Prop} {A A' : Mem} {ds : List (Int × List Nat)} {x : Value} (h : OpsP P A ds x) (hn : A.next ≤ A'.next) (hg : ∀ c, P c → c < A.next → Q c ∧ A'.get c = A.get c) : OpsP Q A' ds x := by
  obtain ⟨b, h1, h2, h3⟩ := h
  rcases h1 with rfl | h1
  · exact ⟨b, .inl rfl, h2, h3.same OpP.mono hn (.inl rfl) (fun c hc hcl _ => hg c hc hcl)⟩
  · rcases h3.lt with rfl | hb
    · exact ⟨b, .inl rfl, h2, h3.same OpP.mono hn (.inl rfl) (fun c hc hcl _ => hg c hc hcl)⟩
    · exact ⟨b, .inr (hg b h1 hb).1, h2, h3.same OpP.mono hn (.inr (fun hb => (hg b h1 hb).2)) (fun c hc hcl _ => hg c hc hcl)⟩
theorem OpsP.cells {P : Nat → Prop} {A : Mem} {ds : List (Int × List Nat)} {x : Value} (h : OpsP P A ds x) : x.cells.toList = [x] ∧ oneCell x = true := by
  obtain ⟨b, -, -, h⟩ := h
  exact h.cells
theorem und79 : tb1.und 79 = some (.slice 92) := by kernel_rfl
theorem und46 : tb1.und 46 = some (.slice 81) := by kernel_rfl
theorem und92 : ∃ d, tb1.und 92 = some d ∧ isAggD d = true := by
  have h : (tb1.und 92).map isAggD = some true := by kernel_rfl
  cases hq : tb1.und 92 with
  | none => rw [hq] at h; cases h
  | some d => rw [hq] at h; exact ⟨d, rfl, by simpa using h⟩
theorem und81 : ∃ d, tb1.und 81 = some d ∧ isAggD d = true := by
  have h : (tb1.und 81).map isAggD = some true := by kernel_rfl
  cases hq : tb1.und 81 with
  | none => rw [hq] at h; cases h
  | some d => rw [hq] at h; exact ⟨d, rfl, by simpa using h⟩
theorem und48 : ∃ d, tb1.und 48 = some d ∧ isAggD d = true := by
  have h : (tb1.und 48).map isAggD = some true := by kernel_rfl
  cases hq : tb1.und 48 with
  | none => rw [hq] at h; cases h
  | some d => rw [hq] at h; exact ⟨d, rfl, by simpa using h⟩
theorem size92 : sizeF tb1 92 = .ok 2 := by kernel_rfl
theorem size81 : sizeF tb1 81 = .ok 9 := by kernel_rfl
theorem size48 : sizeF tb1 48 = .ok 4 := by kernel_rfl
theorem size79 : sizeF tb1 79 = .ok 1 := by kernel_rfl
theorem size46 : sizeF tb1 46 = .ok 1 := by kernel_rfl
theorem zero92 : zeroF tb1 92 = .ok (.agg ⟨[.int .i64 0, .slice none 0 0]⟩) := by kernel_rfl
theorem zero81 : zeroF tb1 81 = .ok (.agg ⟨[.int .i64 0, .string ⟨#[]⟩, .int .u32 0, .int .i64 0, .int .i64 0, .int .i64 0, .bool false, .slice none 0 0, .slice none 0 0]⟩) := by kernel_rfl
theorem zero48 : zeroF tb1 48 = .ok (.agg ⟨[.int .i64 0, .int .i64 0, .int .i64 0, .slice none 0 0]⟩) := by kernel_rfl
theorem bs79 (a xs : Value) : buildSliceF tb1 79 1 [(0, .agg ⟨[a, xs]⟩)] = .ok (rowOb 92 [a, xs], .slc 1 2) := by kernel_rfl
theorem bs46 (a0 a1 a2 a3 a4 a5 a6 a7 a8 : Value) : buildSliceF tb1 46 1 [(0, .agg ⟨[a0, a1, a2, a3, a4, a5, a6, a7, a8]⟩)] = .ok (rowOb 81 [a0, a1, a2, a3, a4, a5, a6, a7, a8], .slc 1 2) := by kernel_rfl
theorem zc92 : ∃ z, zcellsF tb1 92 = .ok (2, z) := ⟨_, by unfold zcellsF; rw [zero92, R.ok_bind, size92]; rfl⟩
theorem zc81 : ∃ z, zcellsF tb1 81 = .ok (9, z) := ⟨_, by unfold zcellsF; rw [zero81, R.ok_bind, size81]; rfl⟩
theorem ty92 : ∃ i, tb1.ty.get 92 = some i ∧ 0 < i.bytes ∧ i.bytes ≤ 65536 := by
  have h : ((tb1.ty.get 92).map fun i => decide (0 < i.bytes) && decide (i.bytes ≤ 65536)) = some true := by kernel_rfl
  cases hq : tb1.ty.get 92 with
  | none => rw [hq] at h; cases h
  | some i =>
    rw [hq] at h
    simp only [Option.map_some, Option.some.injEq, Bool.and_eq_true, decide_eq_true_eq] at h
    exact ⟨i, rfl, h⟩
theorem ty81 : ∃ i, tb1.ty.get 81 = some i ∧ 0 < i.bytes ∧ i.bytes ≤ 65536 := by
  have h : ((tb1.ty.get 81).map fun i => decide (0 < i.bytes) && decide (i.bytes ≤ 65536)) = some true := by kernel_rfl
  cases hq : tb1.ty.get 81 with
  | none => rw [hq] at h; cases h
  | some i =>
    rw [hq] at h
    simp only [Option.map_some, Option.some.injEq, Bool.and_eq_true, decide_eq_true_eq] at h
    exact ⟨i, rfl, h⟩
section
variable (b o : Nat)
theorem fa81_0 : fieldAddrF tb1 81 (.pointer (some ⟨b, 0, none⟩)) 0 = .ok (.pointer (some ⟨b, 0, none⟩)) := by kernel_rfl
theorem fa81_1 : fieldAddrF tb1 81 (.pointer (some ⟨b, 0, none⟩)) 1 = .ok (.pointer (some ⟨b, 5, none⟩)) := by kernel_rfl
theorem fa81_2 : fieldAddrF tb1 81 (.pointer (some ⟨b, 0, none⟩)) 2 = .ok (.pointer (some ⟨b, 6, none⟩)) := by kernel_rfl
theorem fa81_3 : fieldAddrF tb1 81 (.pointer (some ⟨b, 0, none⟩)) 3 = .ok (.pointer (some ⟨b, 7, none⟩)) := by kernel_rfl
theorem fa81_4 : fieldAddrF tb1 81 (.pointer (some ⟨b, 0, none⟩)) 4 = .ok (.pointer (some ⟨b, 8, none⟩)) := by kernel_rfl
theorem fa92_0 : fieldAddrF tb1 92 (.pointer (some ⟨b, o, none⟩)) 0 = .ok (.pointer (some ⟨b, o, none⟩)) := by kernel_rfl
theorem fa92_1 : fieldAddrF tb1 92 (.pointer (some ⟨b, o, none⟩)) 1 = .ok (.pointer (some ⟨b, o + 1, none⟩)) := by kernel_rfl
theorem fa48_0 : fieldAddrF tb1 48 (.pointer (some ⟨b, 0, none⟩)) 0 = .ok (.pointer (some ⟨b, 0, none⟩)) := by kernel_rfl
theorem fa48_1 : fieldAddrF tb1 48 (.pointer (some ⟨b, 0, none⟩)) 1 = .ok (.pointer (some ⟨b, 2, none⟩)) := by kernel_rfl
theorem fa48_2 : fieldAddrF tb1 48 (.pointer (some ⟨b, 0, none⟩)) 2 = .ok (.pointer (some ⟨b, 3, none⟩)) := by kernel_rfl
end
theorem OpsP.len {P : Nat → Prop} {A : Mem} {ds : List (Int × List Nat)} {x : Value} (h : OpsP P A ds x) : builtinPF tb1 .len [79] [x] = .ok (.int .i64 ((ds.length : Nat) : Int)) := by
  obtain ⟨b, -, -, h⟩ := h
  exact h.len und79
theorem OpsP.at {P : Nat → Prop} {A : Mem} {ds : List (Int × List Nat)} {x : Value} (h : OpsP P A ds x) {i : Nat} (hi : i < ds.length) :
    ∃ b o xs, indexAddrF tb1 79 x (.int .i64 (i : Int)) = .ok (.pointer (some ⟨b, o, none⟩)) ∧ loadF tb1 A.get 92 (.pointer (some ⟨b, o, none⟩)) = .ok (.agg ⟨[.int .i64 ds[i].1, xs]⟩) ∧ loadF tb1 A.get 3 (.pointer (some ⟨b, o, none⟩)) = .ok (.int .i64 ds[i].1) ∧ loadF tb1 A.get 36 (.pointer (some ⟨b, o + 1, none⟩)) = .ok xs ∧ StR P A ds[i].2 xs ∧ ds[i].2.length ≤ 1000 := by
  obtain ⟨b, -, -, h⟩ := h
  obtain ⟨d92, hd1, hd2⟩ := und92
  obtain ⟨o, l, h1, h2, ⟨xs, rfl, h3, h5⟩, h4⟩ := h.at und79 size92 hd1 hd2 hi
  exact ⟨b, o, xs, h1, h2, h4 0 3 _ _ und3 rfl (by omega) rfl, h4 1 36 _ _ und36 rfl (by omega) rfl, h3.same (Nat.le_refl _) (fun c hc _ => ⟨hc.1, rfl⟩), h5⟩
def ActP (P : Nat → Prop) (A : Mem) (d : ActG) (l : List Value) : Prop := ∃ xs xo, l = cellsG d xs xo ∧ StR P A d.stays xs ∧ d.stays.length ≤ 1000 ∧ OpsP P A d.opening xo
theorem ActP.mono : Mono ActP := fun P Q A A' d l h hn hg => by
  obtain ⟨xs, xo, h1, h2, h3, h4⟩ := h
  exact ⟨xs, xo, h1, h2.same hn hg, h3, h4.same hn hg⟩
theorem ActP.cells (P : Nat → Prop) (A : Mem) (d : ActG) (l : List Value) (h : ActP P A d l) : l.length = 9 ∧ ∀ v ∈ l, oneCell v = true := by
  obtain ⟨xs, xo, rfl, h2, -, h3⟩ := h
  refine ⟨rfl, fun v hv => ?_⟩
  simp only [cellsG, List.mem_cons, List.not_mem_nil, or_false] at hv
  rcases hv with rfl | rfl | rfl | rfl | rfl | rfl | rfl | rfl | rfl <;> first | rfl | exact h2.cells.2 | exact h3.cells.2
def ActsP (P : Nat → Prop) (A : Mem) (ds : List ActG) (x : Value) : Prop := ∃ b, (x = .slice none 0 0 ∨ P b) ∧ ds.length ≤ 1000 ∧ Lst ActP 81 9 b P A ds x
theorem ActsP.same {P Q : Nat → Prop} {A A' : Mem} {ds : List ActG} {x : Value} (h : ActsP P A ds x) (hn : A.next ≤ A'.next) (hg : ∀ c, P c → c < A.next → Q c ∧ A'.get c = A.get c) : ActsP Q A' ds x := by
  obtain ⟨b, h1, h2, h3⟩ := h
  rcases h1 with rfl | h1
  · exact ⟨b, .inl rfl, h2, h3.same ActP.mono hn (.inl rfl) (fun c hc hcl _ => hg c hc hcl)⟩
  · rcases h3.lt with rfl | hb
    · exact ⟨b, .inl rfl, h2, h3.same ActP.mono hn (.inl rfl) (fun c hc hcl _ => hg c hc hcl)⟩
    · exact ⟨b, .inr (hg b h1 hb).1, h2, h3.same ActP.mono hn (.inr (fun hb => (hg b h1 hb).2)) (fun c hc hcl _ => hg c hc hcl)⟩
theorem ActsP.self {P : Nat → Prop} {A : Mem} {ds : List ActG} {x : Value} (h : ActsP P A ds x) (d : Nat) : sameV (d + 1) x x = true := by
  obtain ⟨b, -, -, h⟩ := h
  exact h.self d
theorem ActsP.len {P : Nat → Prop} {A : Mem} {ds : List ActG} {x : Value} (h : ActsP P A ds x) : builtinPF tb1 .len [46] [x] = .ok (.int .i64 ((ds.length : Nat) : Int)) := by
  obtain ⟨b, -, -, h⟩ := h
  exact h.len und46
theorem ActsP.at {P : Nat → Prop} {A : Mem} {ds : List ActG} {x : Value} (h : ActsP P A ds x) {i : Nat} (hi : i < ds.length) :
    ∃ b o l, indexAddrF tb1 46 x (.int .i64 (i : Int)) = .ok (.pointer (some ⟨b, o, none⟩)) ∧ loadF tb1 A.get 81 (.pointer (some ⟨b, o, none⟩)) = .ok (.agg ⟨l⟩) ∧ ActP P A ds[i] l := by
  obtain ⟨b, -, -, h⟩ := h
  obtain ⟨d81, hd1, hd2⟩ := und81
  obtain ⟨o, l, h1, h2, h3, h4⟩ := h.at und46 size81 hd1 hd2 hi
  exact ⟨b, o, l, h1, h2, ActP.mono _ _ _ _ _ _ h3 (Nat.le_refl _) (fun c hc _ => ⟨hc.1, rfl⟩)⟩
def SetP (P : Nat → Prop) (A : Mem) (s : SetG) (l : List Value) : Prop := ∃ xa, l = cellsS s xa ∧ ActsP P A s.acts xa
theorem SetP.same {P Q : Nat → Prop} {A A' : Mem} {s : SetG} {l : List Value} (h : SetP P A s l) (hn : A.next ≤ A'.next) (hg : ∀ c, P c → c < A.next → Q c ∧ A'.get c = A.get c) : SetP Q A' s l := by
  obtain ⟨xa, h1, h2⟩ := h
  exact ⟨xa, h1, h2.same hn hg⟩
theorem SetP.ext {P : Nat → Prop} {A A' : Mem} {s : SetG} {l : List Value} (h : SetP P A s l) (e : Ext A A') : SetP P A' s l := h.same e.n (fun c hc hl => ⟨hc, e.g c hl⟩)
end Go.Proofs.Ytmhldlnlgjpkaaa.scr

/-
  Script: the document's act: its arm, its weight, what it asks.
-/
namespace Go.Proofs.Ytmhldlnlgjpkaaa.scr
open Go.Am
variable {q : Nat}
set_option linter.unusedSimpArgs false
set_option linter.unusedVariables false
set_option linter.unusedVariables false
set_option maxRecDepth 20000

def zero9 : List Value := [.int .i64 0, .string ⟨#[]⟩, .int .u32 0, .int .i64 0, .int .i64 0, .int .i64 0, .bool false, .slice none 0 0, .slice none 0 0]
/-- Memory while an act is read. -/
structure RA (q : Nat) (A : Mem) (ib : Nat) (b : List UInt8) (x : Value) (b4 : Nat) (l : List Value) (rem : List UInt8) (C : Mem) : Prop where
  h1 : Vals C 81 A.next (.var 9) zero9
  h2 : Vals C 81 b4 (.var 9) l
  hr : Ri q C ib b x rem
  hk : Kp ib A C
  hb4 : A.next < b4 ∧ b4 < C.next
  hib : ib < A.next ∧ q < A.next
section
variable {A : Mem} {ib b4 : Nat} {b : List UInt8} {x : Value} {rem : List UInt8} {C : Mem} {t : T Value} {K : Ex → St → Prop}
end
end Go.Proofs.Ytmhldlnlgjpkaaa.scr

/-
  Script: the document's act, whole.
-/
namespace Go.Proofs.Ytmhldlnlgjpkaaa.scr
open Go.Am
variable {q : Nat}
set_option linter.unusedSimpArgs false
set_option linter.unusedVariables false
set_option linter.unusedVariables false
set_option maxRecDepth 20000

section
variable {A : Mem} {ib b4 : Nat} {b : List UInt8} {x : Value} {l : List Value} {rem : List UInt8} {C C' : Mem} {t : T Value} {K : Ex → St → Prop}
end
end Go.Proofs.Ytmhldlnlgjpkaaa.scr

/-
  Script: the document's act, as a call.
-/
namespace Go.Proofs.Ytmhldlnlgjpkaaa.scr
open Go.Am
variable {q : Nat}
set_option linter.unusedSimpArgs false
set_option linter.unusedVariables false
set_option linter.unusedVariables false
set_option maxRecDepth 20000

end Go.Proofs.Ytmhldlnlgjpkaaa.scr

/-
  Script: the document's setting.
-/
namespace Go.Proofs.Ytmhldlnlgjpkaaa.scr
open Go.Am
variable {q : Nat}
set_option linter.unusedSimpArgs false
set_option linter.unusedVariables false
set_option linter.unusedVariables false
set_option maxRecDepth 20000

def zero4 : List Value := [.int .i64 0, .int .i64 0, .int .i64 0, .slice none 0 0]
/-- Memory while a setting is read. -/
structure RP (q : Nat) (A : Mem) (b : List UInt8) (x : Value) (l : List Value) (rem : List UInt8) (C : Mem) : Prop where
  h1 : Vals C 48 A.next (.var 4) zero4
  h2 : Vals C 48 (A.next + 1 + 1) (.var 4) l
  hr : Ri q C (A.next + 1) b x rem
  hn : A.next + 3 ≤ C.next
  h0 : q < A.next
  hf : ∀ y, y < A.next → C.get y = A.get y
section
variable {A : Mem} {b : List UInt8} {x : Value} {l : List Value} {rem rem' : List UInt8} {C C' : Mem}
end
end Go.Proofs.Ytmhldlnlgjpkaaa.scr

/-
  Script: the document's setting, whole.
-/
namespace Go.Proofs.Ytmhldlnlgjpkaaa.scr
open Go.Am
variable {q : Nat}
set_option linter.unusedSimpArgs false
set_option linter.unusedVariables false
set_option linter.unusedVariables false
set_option maxRecDepth 20000

section
variable {A : Mem} {b : List UInt8} {x : Value} {l : List Value} {rem rem' : List UInt8} {C C' : Mem}
end
end Go.Proofs.Ytmhldlnlgjpkaaa.scr

/-
  Script: the document's numbers: whether two rows are alike.
-/
namespace Go.Proofs.Ytmhldlnlgjpkaaa.scr
open Go.Am
set_option linter.unusedSimpArgs false
set_option linter.unusedVariables false
set_option linter.unusedVariables false
set_option maxRecDepth 20000

noncomputable def c32 : Code := Try.f32.body.getD .skip
noncomputable def c32b1 : Code := sub c32 [1,1,0,1,0,0]
theorem c32_eq : Try.f32.body = some (.seq (sub c32 [0]) (.seq (.seq (sub c32 [1,0,0]) (.cond (.tmp 10) (.seq (sub c32 [1,0,1,0,0]) .ret) .skip)) (.seq (.seq (sub c32 [1,1,0,0]) (.block 0 (.loop c32b1))) (.seq (sub c32 [1,1,1,0]) (sub c32 [1,1,1,1]))))) := by kernel_rfl
theorem c32b1_eq : c32b1 = .seq (sub c32b1 [0]) (.seq (.block 1 (.seq (sub c32b1 [1,0,0,0]) (.cond (.tmp 25) (.seq (sub c32b1 [1,0,0,1,0,0]) .ret) .skip))) (sub c32b1 [1,1])) := by kernel_rfl
set_option maxHeartbeats 4000000 in
theorem run_rnumeq {P P' : Nat → Prop} {A : Mem} {l m : List Nat} {x y : Value} (hbd : l.length ≤ 1000) (hx : StR P A l x) (hy : StR P' A m y) : Ans tb1 32 [x, y] A (.bool (decide (l = m))) A := by
  obtain ⟨v, A', ha, rfl, rfl⟩ : ∃ v A', Ans tb1 32 [x, y] A v A' ∧ v = .bool (decide (l = m)) ∧ A' = A := by
    refine ans_of_W (fn_at Try.func32) c32_eq (by rw [Try.ntmps32]; simp) (by kernel_rfl) (by kernel_rfl) ?_
    have lx := hx.len
    have ly := hy.len
    apply W.seq
    apply W.run 20
    · intro M
      simp (config := { maxSteps := 4000000 }) (disch := first | decide +kernel | omega) only [c32, Try.f32, Option.getD_some, sub_seq0, sub_nil, T.puts_cons, Nat.reduceAdd, T.puts_nil, exec_region, runOps_cons, opF_assign, ev_bool, putT_some, runOps_nil, R.ok_bind]
      with_reducible rfl
    apply W.seq
    apply W.seq
    by_cases hl : l.length = m.length
    · apply W.run 20
      · intro M
        simp (config := { maxSteps := 4000000 }) (disch := first | decide +kernel | omega) only [c32, Try.f32, Option.getD_some, sub_seq1, sub_seq0, sub_nil, exec_region, runOps_cons, opF_move, ev_tmp, T.get_set, Nat.reduceEqDiff, T.get_e, if_true, if_false, evG_some, putT_some, opF_len, evs, R.ok_bind, opF_neq, runOps_nil, ly, lx, hl, binF_int, op_neqI, ne_eq, not_true_eq_false, decide_false]
        with_reducible rfl
      refine W.cond (p := false) (by simp only [ev_tmp, T.get_set, if_true, evG_some]) (fun h => by cases h) (fun _ => ?_)
      apply W.run 20
      · intro M
        simp (config := { maxSteps := 4000000 }) (disch := first | decide +kernel | omega) only [exec_skip]
        with_reducible rfl
      show W tb1 _ _ _
      apply W.seq
      apply W.seq
      apply W.run 20
      · intro M
        simp (config := { maxSteps := 4000000 }) (disch := first | decide +kernel | omega) only [c32, Try.f32, Option.getD_some, sub_seq1, sub_seq0, sub_nil, exec_region, runOps_cons, opF_assign, ev_int, putT_some, runOps_nil, R.ok_bind]
        with_reducible rfl
      apply W.block
      refine W.up l.length (fun i t C => C = A ∧ l.take i = m.take i ∧ Sl t [(0, x), (1, y), (5, .int .i64 (i : Int))]) ?_ (Nat.zero_le _) ⟨rfl, by simp, ?_⟩
      · rintro i t C hi ⟨rfl, he, g0, g1, g5, -⟩
        rw [c32b1_eq]
        apply W.seq
        by_cases hlt : i < l.length
        · obtain ⟨p, hp, hpl⟩ := hx.at hlt
          obtain ⟨p', hp', hpl'⟩ := hy.at (show i < m.length by omega)
          have e1 : l.getD i 0 = l[i] := by simp [List.getD, List.getElem?_eq_getElem hlt]
          have e2 : m.getD i 0 = m[i] := by simp [List.getD, List.getElem?_eq_getElem (show i < m.length by omega)]
          rw [e1] at hpl
          rw [e2] at hpl'
          apply W.run 20
          · intro M
            simp (config := { maxSteps := 4000000 }) (disch := first | decide +kernel | omega) only [c32b1, c32, Try.f32, Option.getD_some, sub_seq1, sub_seq0, sub_block, sub_loop, sub_nil, exec_seq, exec_region, runOps_cons, opF_move, ev_tmp, g5, evG_some, putT_some, T.get_set, Nat.reduceEqDiff, g0, if_false, opF_len, evs, if_true, R.ok_bind, opF_ari, runOps_nil, lx, binF_int, op_lssI, cast_lt, hlt, decide_true, exec_cond, exec_skip, exec_exit]
            with_reducible rfl
          apply W.seq
          apply W.block
          apply W.seq
          by_cases hv : l[i] = m[i]
          · rw [hv] at hpl
            apply W.run 20
            · intro M
              simp (config := { maxSteps := 4000000 }) (disch := first | decide +kernel | omega) only [c32b1, c32, Try.f32, Option.getD_some, sub_seq1, sub_seq0, sub_block, sub_loop, sub_nil, exec_draw, runOps_cons, opF_move, ev_tmp, T.get_set, Nat.reduceEqDiff, g0, if_false, evG_some, putT_some, g5, opF_indexAddr, if_true, opF_load, g1, opF_neq, runOps_nil, R.ok_bind, hp', hpl', hp, hpl, binF_int, op_neq, ne_eq, not_true_eq_false, decide_false]
              with_reducible rfl
            refine W.cond (p := false) (by simp only [ev_tmp, T.get_set, if_true, evG_some]) (fun h => by cases h) (fun _ => ?_)
            apply W.run 20
            · intro M
              simp (config := { maxSteps := 4000000 }) (disch := first | decide +kernel | omega) only [exec_skip]
              with_reducible rfl
            show W tb1 _ _ _
            apply W.run 20
            · intro M
              simp (config := { maxSteps := 4000000 }) (disch := first | decide +kernel | omega) only [c32b1, c32, Try.f32, Option.getD_some, sub_seq1, sub_seq0, sub_block, sub_loop, sub_nil, exec_region, runOps_cons, opF_move, ev_tmp, T.get_set, Nat.reduceEqDiff, g5, if_false, evG_some, putT_some, opF_ari, if_true, ev_int, opF_assign, runOps_nil, R.ok_bind, binF_int, op_add_i64]
              with_reducible rfl
            refine ⟨hlt, _, _, rfl, rfl, ?_, ?_⟩
            · rw [List.take_succ_eq_append_getElem hlt, List.take_succ_eq_append_getElem (show i < m.length by omega), he, hv]
            · simp only [Sl_cons, Sl_nil, T.get_set, T.puts_cons, T.puts_nil, Nat.reduceEqDiff, Nat.reduceAdd, if_true, if_false, and_true, true_and, g0, g1]
          · apply W.run 20
            · intro M
              simp (config := { maxSteps := 4000000 }) (disch := first | decide +kernel | omega) only [c32b1, c32, Try.f32, Option.getD_some, sub_seq1, sub_seq0, sub_block, sub_loop, sub_nil, exec_draw, runOps_cons, opF_move, ev_tmp, T.get_set, Nat.reduceEqDiff, g0, if_false, evG_some, putT_some, g5, opF_indexAddr, if_true, opF_load, g1, opF_neq, runOps_nil, R.ok_bind, hp', hpl', hp, hpl, binF_int, op_neq, ne_eq, hv, not_false_eq_true, decide_true]
              with_reducible rfl
            refine W.cond (p := true) (by simp only [ev_tmp, T.get_set, if_true, evG_some]) (fun _ => ?_) (fun h => by cases h)
            apply W.run 20
            · intro M
              simp (config := { maxSteps := 4000000 }) (disch := first | decide +kernel | omega) only [c32b1, c32, Try.f32, Option.getD_some, sub_seq1, sub_seq0, sub_block, sub_loop, sub_nil, sub_cond0, exec_seq, exec_region, runOps_cons, opF_assign, ev_bool, putT_some, runOps_nil, R.ok_bind, exec_ret]
              with_reducible rfl
            refine ⟨.inr rfl, _, [.bool false], rfl, ?_, ?_, rfl⟩
            · simp only [Try.f32, resF, ev_tmp, T.get_set, Nat.reduceEqDiff, if_true, if_false, evG_some, R.ok_bind]
            · have : l ≠ m := fun h => hv (by subst h; rfl)
              show Value.bool false = _
              rw [decide_eq_false this]
        · have hin : i = l.length := by omega
          subst hin
          apply W.run 20
          · intro M
            simp (config := { maxSteps := 4000000 }) (disch := first | decide +kernel | omega) only [c32b1, c32, Try.f32, Option.getD_some, sub_seq1, sub_seq0, sub_block, sub_loop, sub_nil, exec_seq, exec_region, runOps_cons, opF_move, ev_tmp, g5, evG_some, putT_some, T.get_set, Nat.reduceEqDiff, g0, if_false, opF_len, evs, if_true, R.ok_bind, opF_ari, runOps_nil, lx, binF_int, op_lssI, cast_lt, Nat.lt_irrefl, decide_false, exec_cond, exec_skip, exec_exit]
            with_reducible rfl
          show W tb1 _ _ _
          apply W.seq
          apply W.run 20
          · intro M
            simp (config := { maxSteps := 4000000 }) (disch := first | decide +kernel | omega) only [c32, Try.f32, Option.getD_some, sub_seq1, sub_seq0, sub_nil, exec_region, runOps_cons, opF_assign, ev_bool, putT_some, runOps_nil, R.ok_bind]
            with_reducible rfl
          apply W.run 20
          · intro M
            simp (config := { maxSteps := 4000000 }) (disch := first | decide +kernel | omega) only [c32, Try.f32, Option.getD_some, sub_seq1, sub_nil, exec_ret]
            with_reducible rfl
          refine ⟨.inr rfl, _, [.bool true], rfl, ?_, ?_, rfl⟩
          · simp only [Try.f32, resF, ev_tmp, T.get_set, Nat.reduceEqDiff, if_true, if_false, evG_some, R.ok_bind]
          · rw [List.take_length, hl, List.take_length] at he
            show Value.bool true = _
            rw [decide_eq_true he]
      · simp only [Sl_cons, Sl_nil, T.get_set, T.puts_cons, T.puts_nil, Nat.reduceEqDiff, Nat.reduceAdd, if_true, if_false, and_true, true_and]
    · apply W.run 20
      · intro M
        simp (config := { maxSteps := 4000000 }) (disch := first | decide +kernel | omega) only [c32, Try.f32, Option.getD_some, sub_seq1, sub_seq0, sub_nil, exec_region, runOps_cons, opF_move, ev_tmp, T.get_set, Nat.reduceEqDiff, T.get_e, if_true, if_false, evG_some, putT_some, opF_len, evs, R.ok_bind, opF_neq, runOps_nil, ly, lx, binF_int, op_neqI, ne_eq, Int.natCast_inj, hl, not_false_eq_true, decide_true]
        with_reducible rfl
      refine W.cond (p := true) (by simp only [ev_tmp, T.get_set, if_true, evG_some]) (fun _ => ?_) (fun h => by cases h)
      apply W.run 20
      · intro M
        simp (config := { maxSteps := 4000000 }) (disch := first | decide +kernel | omega) only [c32, Try.f32, Option.getD_some, sub_seq1, sub_seq0, sub_cond0, sub_nil, exec_seq, exec_region, runOps_cons, opF_assign, ev_bool, putT_some, runOps_nil, R.ok_bind, exec_ret]
        with_reducible rfl
      refine ⟨.inr rfl, _, [.bool false], rfl, ?_, ?_, rfl⟩
      · simp only [Try.f32, resF, ev_tmp, T.get_set, Nat.reduceEqDiff, if_true, if_false, evG_some, R.ok_bind]
      · have : l ≠ m := fun h => hl (by rw [h])
        show Value.bool false = _
        rw [decide_eq_false this]
  exact ha
end Go.Proofs.Ytmhldlnlgjpkaaa.scr

/-
  Script: the document's Same: two acts.
-/
namespace Go.Proofs.Ytmhldlnlgjpkaaa.scr
open Go.Am
set_option linter.unusedSimpArgs false
set_option linter.unusedVariables false
set_option linter.unusedVariables false
set_option maxRecDepth 20000

theorem eqF_not {g : Nat → Option Ob} {t : TypeId} {x y : Operand} {a b : Value} {r : Bool} (h : eqF tb1 g .eql t x y a b = .ok (.bool r)) : eqF tb1 g .neq t x y a b = .ok (.bool (!r)) := by
  unfold eqF at h ⊢
  cases hm : eqMay tb1 t x y a b with
  | false => rw [hm] at h; cases h
  | true =>
    rw [hm, cond_true] at h
    rw [cond_true]
    simp only [] at h ⊢
    cases he : equalF tb1 g 100 t a b with
    | no n => rw [he] at h; cases h
    | ok v =>
      rw [he] at h
      simp only [R.ok_bind] at h ⊢
      cases h
      rfl
theorem neq35 {g : Nat → Option Ob} {x y : Operand} {a0 a3 a4 b0 b3 b4 : Int} {a1 b1 : List UInt8} {a2 b2 : Nat} :
    eqF tb1 g .neq 35 x y (.agg ⟨[.int .i64 a0, strOf a1, .int .u32 (a2 : Int), .int .i64 a3, .int .i64 a4]⟩) (.agg ⟨[.int .i64 b0, strOf b1, .int .u32 (b2 : Int), .int .i64 b3, .int .i64 b4]⟩) = .ok (.bool (!decide (a0 = b0 ∧ a1 = b1 ∧ a2 = b2 ∧ a3 = b3 ∧ a4 = b4))) := eqF_not eq35
theorem neq25 {g : Nat → Option Ob} {x y : Operand} {a0 a1 b0 b1 : Int} :
    eqF tb1 g .neq 25 x y (.agg ⟨[.int .i64 a0, .int .i64 a1]⟩) (.agg ⟨[.int .i64 b0, .int .i64 b1]⟩) = .ok (.bool (!decide (a0 = b0 ∧ a1 = b1))) := eqF_not (eq25 rfl)
theorem StR.self {P : Nat → Prop} {A : Mem} {l : List Nat} {x : Value} (h : StR P A l x) (d : Nat) : sameV (d + 1) x x = true := by
  rcases h with ⟨rfl, -⟩ | ⟨b, -, -, h⟩
  · simp [sameV]
  · rcases h with ⟨rfl, -⟩ | ⟨k, c, rfl, -⟩
    · simp [sameV]
    · simp [sameV, sameA, sameN]
theorem OpsP.self {P : Nat → Prop} {A : Mem} {ds : List (Int × List Nat)} {x : Value} (h : OpsP P A ds x) (d : Nat) : sameV (d + 1) x x = true := by
  obtain ⟨b, -, -, h⟩ := h
  exact h.self d
theorem sameV_str (d : Nat) (l : List UInt8) : sameV (d + 1) (strOf l) (strOf l) = true := by
  simp [sameV, strOf, bytesEq_eq]
theorem sameV_bool (d : Nat) (c : Bool) : sameV (d + 1) (.bool c) (.bool c) = true := by cases c <;> rfl
theorem ActP.self {P : Nat → Prop} {A : Mem} {d : ActG} {l : List Value} (h : ActP P A d l) : sameV 100 (.agg ⟨l⟩) (.agg ⟨l⟩) = true := by
  obtain ⟨xs, xo, rfl, h2, -, h3⟩ := h
  show sameV (98 + 2) _ _ = true
  rw [sameV]
  simp [cellsG, sameV_int, sameV_str, sameV_bool, h2.self, h3.self]

noncomputable def c16 : Code := Try.f16.body.getD .skip
noncomputable def c16b1 : Code := sub c16 [1,1,0,1,0,0]
noncomputable def c16b2 : Code := sub c16b1 [1,0,0,1,1,1,0,0]
theorem c16_eq : Try.f16.body = some (.seq (sub c16 [0]) (.seq (.seq (sub c16 [1,0,0]) (.cond (.tmp 29) (.seq (sub c16 [1,0,1,0,0]) .ret) .skip)) (.seq (.seq (sub c16 [1,1,0,0]) (.block 0 (.loop c16b1))) (.seq (sub c16 [1,1,1,0]) (sub c16 [1,1,1,1]))))) := by kernel_rfl
theorem c16b1_eq : c16b1 = .seq (sub c16b1 [0]) (.seq (.block 1 (.seq (sub c16b1 [1,0,0,0]) (.seq (.seq (sub c16b1 [1,0,0,1,0,0]) (.cond (.tmp 82) (.seq (sub c16b1 [1,0,0,1,0,1,0,0]) .ret) .skip)) (.seq (sub c16b1 [1,0,0,1,1,0]) (.block 2 (.loop c16b2)))))) (sub c16b1 [1,1])) := by kernel_rfl
theorem c16b2_eq : c16b2 = .seq (sub c16b2 [0]) (.seq (.block 3 (.seq (sub c16b2 [1,0,0,0]) (.cond (.tmp 118) (.seq (sub c16b2 [1,0,0,1,0,0]) .ret) .skip))) (sub c16b2 [1,1])) := by kernel_rfl
section
variable {P P' : Nat → Prop} {C : Mem} {d d' : ActG} {l l' : List Value} {b6 b7 : Nat} {t : T Value} {K : Ex → St → Prop}
/-- The slots while two acts are compared. -/
def reS (b2 b3 i b6 b7 : Nat) : List (Nat × Value) := [(2, .pointer (some ⟨b2, 0, none⟩)), (3, .pointer (some ⟨b3, 0, none⟩)), (5, .int .i64 (i : Int)), (6, .pointer (some ⟨b6, 0, none⟩)), (7, .pointer (some ⟨b7, 0, none⟩))]
set_option maxHeartbeats 8000000 in
theorem req_ops {b2 b3 i : Nat} {xs ys xo yo : Value} (h6 : Vals C 81 b6 (.var 9) (cellsG d xs xo)) (h7 : Vals C 81 b7 (.var 9) (cellsG d' ys yo)) (hx : OpsP P C d.opening xo) (hy : OpsP P' C d'.opening yo) (hl : d.opening.length = d'.opening.length) (hp : Sl t (reS b2 b3 i b6 b7 ++ [(8, .int .i64 ((0 : Nat) : Int))]))
    (hK1 : d.opening = d'.opening → ∀ t', Sl t' (reS b2 b3 i b6 b7) → K .nrm ⟨t', 119, [], C, none⟩)
    (hK2 : d.opening ≠ d'.opening → ∀ t', t'.get 4 = some (.bool false) → K .ret ⟨t', 119, [], C, none⟩) : W tb1 (.block 2 (.loop c16b2)) ⟨t, 119, [], C, none⟩ K := by
  have lo6 : loadF tb1 C.get 79 (.pointer (some ⟨b6, 8, none⟩)) = .ok xo := load_vals und79 rfl h6 rfl
  have lo7 : loadF tb1 C.get 79 (.pointer (some ⟨b7, 8, none⟩)) = .ok yo := load_vals und79 rfl h7 rfl
  have lx := hx.len
  have hbd : d.opening.length ≤ 1000 := by obtain ⟨b, _, h, _⟩ := hx; exact h
  apply W.block
  refine W.up d.opening.length (fun j t D => D = C ∧ d.opening.take j = d'.opening.take j ∧ Sl t (reS b2 b3 i b6 b7 ++ [(8, .int .i64 (j : Int))])) ?_ (Nat.zero_le _) ⟨rfl, by simp, hp⟩
  rintro j t D hj ⟨rfl, he, g2, g3, g5, g6, g7, g8, -⟩
  rw [c16b2_eq]
  apply W.seq
  by_cases hlt : j < d.opening.length
  · have hlt' : j < d'.opening.length := by omega
    obtain ⟨p1, o1, zs1, i1, -, a1, s1, r1, m1⟩ := hx.at hlt
    obtain ⟨p2, o2, zs2, i2, -, a2, s2, r2, m2⟩ := hy.at hlt'
    obtain ⟨g, hg⟩ := run_rnumeq m1 r1 r2
    apply W.run 20
    · intro M
      simp (config := { maxSteps := 4000000 }) (disch := first | decide +kernel | omega) only [c16b2, c16b1, c16, Try.f16, Option.getD_some, sub_seq1, sub_seq0, sub_block, sub_loop, sub_nil, exec_seq, exec_region, runOps_cons, opF_move, ev_tmp, g8, evG_some, putT_some, opF_fieldAddr, T.get_set, Nat.reduceEqDiff, g6, if_false, opF_load, if_true, opF_len, evs, R.ok_bind, opF_ari, runOps_nil, fa81_4, lo6, lx, binF_int, op_lssI, cast_lt, hlt, decide_true, exec_cond, exec_skip, exec_exit]
      with_reducible rfl
    apply W.seq
    apply W.block
    apply W.seq
    by_cases hv : d.opening[j].1 = d'.opening[j].1
    · by_cases hw : d.opening[j].2 = d'.opening[j].2
      · have hdt := decide_eq_true hw
        apply W.runG (g) 20
        · intro M hM
          simp (config := { maxSteps := 4000000 }) (disch := first | decide +kernel | (rw [wantF_guard]; simp only [wantD_some, dstAt_zero, dstAt_succ, T.get_set, T.get_e, Nat.reduceEqDiff, if_true, if_false, wantV_bool, wantV_unit, unitV, cond_true, cond_false, Bool.not_true, Bool.not_false, List.toList_toArray]) | omega) only [c16b2, c16b1, c16, Try.f16, Option.getD_some, sub_seq1, sub_seq0, sub_block, sub_loop, sub_nil, exec_draw, runOps_cons, opF_fieldAddr, ev_tmp, T.get_set, Nat.reduceEqDiff, g6, if_false, evG_some, putT_some, opF_load, if_true, opF_move, g8, opF_indexAddr, g7, opF_neq, und3, R.ok_bind, fa81_4, lo7, i2, fa92_0, a2, lo6, i1, a1, hv, binF_int, op_neqI, ne_eq, not_true_eq_false, decide_false, runOps_yes, opF_call, evs, resK, opF_un, opF_pick, pickF, ev_bool, runOps_nil, fa92_1, s2, s1, hg, hdt, un_not, Bool.not_true]
          with_reducible rfl
        refine W.cond (p := false) (by simp only [ev_tmp, T.get_set, if_true, evG_some]) (fun h => by cases h) (fun _ => ?_)
        apply W.run 20
        · intro M
          simp (config := { maxSteps := 4000000 }) (disch := first | decide +kernel | omega) only [exec_skip]
          with_reducible rfl
        show W tb1 _ _ _
        apply W.run 20
        · intro M
          simp (config := { maxSteps := 4000000 }) (disch := first | decide +kernel | omega) only [c16b2, c16b1, c16, Try.f16, Option.getD_some, sub_seq1, sub_seq0, sub_block, sub_loop, sub_nil, exec_region, runOps_cons, opF_move, ev_tmp, T.get_set, Nat.reduceEqDiff, g8, if_false, evG_some, putT_some, opF_ari, if_true, ev_int, opF_assign, runOps_nil, R.ok_bind, binF_int, op_add_i64]
          with_reducible rfl
        refine ⟨hlt, _, _, rfl, rfl, ?_, ?_⟩
        · rw [List.take_succ_eq_append_getElem hlt, List.take_succ_eq_append_getElem hlt', he, Prod.ext hv hw]
        · unfold reS; simp only [Sl_cons, Sl_nil, T.get_set, T.puts_cons, T.puts_nil, Nat.reduceEqDiff, Nat.reduceAdd, if_true, if_false, and_true, true_and, List.cons_append, List.nil_append, g2, g3, g5, g6, g7]
      · have hdt := decide_eq_false hw
        apply W.runG (g) 20
        · intro M hM
          simp (config := { maxSteps := 4000000 }) (disch := first | decide +kernel | (rw [wantF_guard]; simp only [wantD_some, dstAt_zero, dstAt_succ, T.get_set, T.get_e, Nat.reduceEqDiff, if_true, if_false, wantV_bool, wantV_unit, unitV, cond_true, cond_false, Bool.not_true, Bool.not_false, List.toList_toArray]) | omega) only [c16b2, c16b1, c16, Try.f16, Option.getD_some, sub_seq1, sub_seq0, sub_block, sub_loop, sub_nil, exec_draw, runOps_cons, opF_fieldAddr, ev_tmp, T.get_set, Nat.reduceEqDiff, g6, if_false, evG_some, putT_some, opF_load, if_true, opF_move, g8, opF_indexAddr, g7, opF_neq, und3, R.ok_bind, fa81_4, lo7, i2, fa92_0, a2, lo6, i1, a1, hv, binF_int, op_neqI, ne_eq, not_true_eq_false, decide_false, runOps_yes, opF_call, evs, resK, opF_un, opF_pick, pickF, ev_bool, runOps_nil, fa92_1, s2, s1, hg, hdt, un_not, Bool.not_false]
          with_reducible rfl
        refine W.cond (p := true) (by simp only [ev_tmp, T.get_set, if_true, evG_some]) (fun _ => ?_) (fun h => by cases h)
        apply W.run 20
        · intro M
          simp (config := { maxSteps := 4000000 }) (disch := first | decide +kernel | omega) only [c16b2, c16b1, c16, Try.f16, Option.getD_some, sub_seq1, sub_seq0, sub_block, sub_loop, sub_nil, sub_cond0, exec_seq, exec_region, runOps_cons, opF_assign, ev_bool, putT_some, runOps_nil, R.ok_bind, exec_ret]
          with_reducible rfl
        refine hK2 (fun e => hw (by simp only [e])) _ ?_
        simp only [T.get_set, if_true]
    · apply W.run 20
      · intro M
        simp (config := { maxSteps := 4000000 }) (disch := first | decide +kernel | (rw [wantF_guard]; simp only [wantD_some, dstAt_zero, dstAt_succ, T.get_set, T.get_e, Nat.reduceEqDiff, if_true, if_false, wantV_bool, wantV_unit, unitV, cond_true, cond_false, Bool.not_true, Bool.not_false, List.toList_toArray]) | omega) only [c16b2, c16b1, c16, Try.f16, Option.getD_some, sub_seq1, sub_seq0, sub_block, sub_loop, sub_nil, exec_draw, runOps_cons, opF_fieldAddr, ev_tmp, T.get_set, Nat.reduceEqDiff, g6, if_false, evG_some, putT_some, opF_load, if_true, opF_move, g8, opF_indexAddr, g7, opF_neq, und3, R.ok_bind, fa81_4, lo7, i2, fa92_0, a2, lo6, i1, a1, binF_int, op_neqI, ne_eq, hv, not_false_eq_true, decide_true, runOps_no, opF_pick, pickF, ev_bool, runOps_nil]
        with_reducible rfl
      refine W.cond (p := true) (by simp only [ev_tmp, T.get_set, if_true, evG_some]) (fun _ => ?_) (fun h => by cases h)
      apply W.run 20
      · intro M
        simp (config := { maxSteps := 4000000 }) (disch := first | decide +kernel | omega) only [c16b2, c16b1, c16, Try.f16, Option.getD_some, sub_seq1, sub_seq0, sub_block, sub_loop, sub_nil, sub_cond0, exec_seq, exec_region, runOps_cons, opF_assign, ev_bool, putT_some, runOps_nil, R.ok_bind, exec_ret]
        with_reducible rfl
      refine hK2 (fun e => hv (by simp only [e])) _ ?_
      simp only [T.get_set, if_true]
  · have hin : j = d.opening.length := by omega
    subst hin
    apply W.run 20
    · intro M
      simp (config := { maxSteps := 4000000 }) (disch := first | decide +kernel | omega) only [c16b2, c16b1, c16, Try.f16, Option.getD_some, sub_seq1, sub_seq0, sub_block, sub_loop, sub_nil, exec_seq, exec_region, runOps_cons, opF_move, ev_tmp, g8, evG_some, putT_some, opF_fieldAddr, T.get_set, Nat.reduceEqDiff, g6, if_false, opF_load, if_true, opF_len, evs, R.ok_bind, opF_ari, runOps_nil, fa81_4, lo6, lx, binF_int, op_lssI, cast_lt, Nat.lt_irrefl, decide_false, exec_cond, exec_skip, exec_exit]
      with_reducible rfl
    rw [List.take_length, hl, List.take_length] at he
    refine hK1 he _ ?_
    unfold reS; simp only [Sl_cons, Sl_nil, T.get_set, T.puts_cons, T.puts_nil, Nat.reduceEqDiff, Nat.reduceAdd, if_true, if_false, and_true, true_and, g2, g3, g5, g6, g7]
end
end Go.Proofs.Ytmhldlnlgjpkaaa.scr

