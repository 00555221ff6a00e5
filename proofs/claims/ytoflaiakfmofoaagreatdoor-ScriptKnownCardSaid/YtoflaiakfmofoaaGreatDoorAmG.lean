/-
  The abstract machine AM: a machine for programs of the model that draws nothing and moves no block; and the proof that what it answers the model answers.
  Part G: no conditions.
-/
import Derived.Test.YtoflaiakfmofoaaGreatDoorAmF
import Derived.LaidLaws
import Derived.LaidSub

/-
  The abstract machine AM, part 53: values of several cells in memory; slices of them.
-/
namespace Go.Am
variable {tb : Tab}

theorem stores_all (m : Nat) : ∀ (vs : List Value) (i : Nat) (c : T Value), (∀ v ∈ vs, oneCell v = true) → (∀ j, j < vs.length → ∃ y, c.get (i + j) = some y) → storesF m 0 vs i c = .ok (c.puts i vs)
  | [], _, _, _, _ => rfl
  | v :: vs, i, c, h1, h2 => by
    unfold storesF
    have hb : (oneCell v && Nat.ble 0 i) = true := by rw [h1 v (List.mem_cons_self ..)]; simp
    obtain ⟨y, hy⟩ := h2 0 (by simp)
    rw [Nat.add_zero] at hy
    rw [hb, cond_true, hy]
    refine stores_all m vs (i + 1) (c.set i v) (fun w hw => h1 w (List.mem_cons_of_mem _ hw)) fun j hj => ?_
    rw [T.get_set]
    by_cases e : i + 1 + j = i
    · omega
    · rw [if_neg e]
      obtain ⟨y, hy⟩ := h2 (j + 1) (by simp; omega)
      exact ⟨y, by rw [← hy]; congr 1; omega⟩
/-- A variable of several cells, written whole. -/
theorem store_all {A : Mem} {e t : TypeId} {b : Nat} {k : Kd} {l l' : List Value} (hs : sizeF tb t = .ok l.length) (h : Vals A e b k l) (hl : l'.length = l.length) (h0 : l ≠ []) (h1 : ∀ v ∈ l', oneCell v = true) :
    ∃ A', storeF tb A t (.pointer (some ⟨b, 0, none⟩)) (.agg ⟨l'⟩) = .ok A' ∧ Vals A' e b k l' ∧ A'.next = A.next ∧ ∀ x, x ≠ b → A'.get x = A.get x := by
  obtain ⟨c, h2, h3⟩ := h
  have hst : storesF (roomK k) 0 l' 0 c = .ok (c.puts 0 l') := stores_all _ l' 0 c h1 fun j hj => by
    rw [Nat.zero_add, h3 j (by omega), List.getElem?_eq_getElem (show j < l.length by omega)]
    exact ⟨_, rfl⟩
  refine ⟨A.set b (.cells e k 0 (c.puts 0 l')), ?_, ⟨_, by rw [get_setMem, if_pos rfl], fun i hi => ?_⟩, next_set _ _ _, fun x hx => by rw [get_setMem, if_neg hx]⟩
  · unfold storeF
    have hc : (Value.agg ⟨l'⟩).cells.toList = l' := rfl
    simp only [hs, R.ok_bind, hc]
    have hb : Nat.beq l'.length l.length = true := by rw [hl]; simp
    rw [hb, cond_true]
    cases l' with
    | nil => cases l with
      | nil => exact absurd rfl h0
      | cons _ _ => simp at hl
    | cons v vs =>
      unfold storeAtF
      simp only [h2, hst, R.ok_bind]
  · rw [T.get_puts, if_pos ⟨Nat.zero_le _, by omega⟩, Nat.sub_zero]
/-- A variable of several cells, whole. -/
theorem load_all {A : Mem} {e t : TypeId} {b : Nat} {k : Kd} {l : List Value} {d : TypeDesc} (hu : tb.und t = some d) (ha : isAggD d = true) (hs : sizeF tb t = .ok l.length) (h : Vals A e b k l) : loadF tb A.get t (.pointer (some ⟨b, 0, none⟩)) = .ok (.agg ⟨l⟩) := by
  obtain ⟨c, h1, h2⟩ := h
  have hg : c.gets l.length 0 = some l := gets_eq _ _ _ _ rfl fun j hj => by rw [Nat.zero_add]; exact h2 j hj
  unfold loadF
  simp only [h1, hu, ha, cond_true, hs, R.ok_bind, hg]
theorem vals_new (A : Mem) (e : TypeId) (l : List Value) : Vals (A.alloc (rowOb e l)) e A.next (.var l.length) l := vals_puts (get_alloc_self _ _)

theorem flat_len {n : Nat} : ∀ {ls : List (List Value)}, (∀ l ∈ ls, l.length = n) → ls.flatten.length = ls.length * n
  | [], _ => by simp
  | l :: ls, h => by
    rw [List.flatten_cons, List.length_append, flat_len (fun x hx => h x (List.mem_cons_of_mem _ hx)), h l (List.mem_cons_self ..), List.length_cons, Nat.add_mul, Nat.one_mul, Nat.add_comm]
theorem flat_get {n : Nat} : ∀ {ls : List (List Value)} {i j : Nat} {l : List Value}, (∀ l ∈ ls, l.length = n) → ls[i]? = some l → j < n → ls.flatten[i * n + j]? = l[j]?
  | [], i, j, l, _, hi, _ => by simp at hi
  | l0 :: ls, 0, j, l, h, hi, hj => by
    simp only [List.getElem?_cons_zero, Option.some.injEq] at hi
    subst hi
    rw [List.flatten_cons, Nat.zero_mul, Nat.zero_add, List.getElem?_append_left (by rw [h _ (List.mem_cons_self ..)]; exact hj)]
  | l0 :: ls, i + 1, j, l, h, hi, hj => by
    simp only [List.getElem?_cons_succ] at hi
    have hl0 := h l0 (List.mem_cons_self ..)
    rw [List.flatten_cons, List.getElem?_append_right (by rw [hl0, Nat.add_mul]; omega), hl0, show (i + 1) * n + j - n = i * n + j by rw [Nat.add_mul, Nat.one_mul]; omega]
    exact flat_get (fun x hx => h x (List.mem_cons_of_mem _ hx)) hi hj

/-- A slice of values of n cells each, whole; so that what is appended goes into a new one. -/
def SlcM (A : Mem) (e : TypeId) (n b : Nat) (ls : List (List Value)) (x : Value) : Prop :=
  (x = .slice none 0 0 ∧ ls = []) ∨ ∃ k c, x = .slice (some ⟨b, 0, none⟩) ls.length c ∧ b < A.next ∧ Vals A e b k ls.flatten ∧ (∀ l ∈ ls, l.length = n) ∧ (c = 2 * ls.length ∨ (c = mkX ls.length n ∧ (k = .row ∨ k = .mark)))
theorem SlcM.nil (A : Mem) (e : TypeId) (n b : Nat) : SlcM A e n b [] (.slice none 0 0) := .inl ⟨rfl, rfl⟩
theorem SlcM.same {A A' : Mem} {e : TypeId} {n b : Nat} {ls : List (List Value)} {x : Value} (h : SlcM A e n b ls x) (hn : A.next ≤ A'.next) (hg : b < A.next → A'.get b = A.get b) : SlcM A' e n b ls x := by
  rcases h with h | ⟨k, c, h1, h2, h3, h4⟩
  · exact .inl h
  · exact .inr ⟨k, c, h1, Nat.lt_of_lt_of_le h2 hn, h3.same (hg h2), h4⟩
theorem SlcM.len {A : Mem} {e t t' : TypeId} {n b : Nat} {ls : List (List Value)} {x : Value} (h : SlcM A e n b ls x) (hu : tb.und t = some (.slice t')) : builtinPF tb .len [t] [x] = .ok (.int .i64 ((ls.length : Nat) : Int)) := by
  rcases h with ⟨rfl, rfl⟩ | ⟨k, c, rfl, -⟩ <;> exact len_slc hu
theorem SlcM.idx {A : Mem} {e t t' : TypeId} {n b i : Nat} {kd : IntKind} {ls : List (List Value)} {x : Value} (h : SlcM A e n b ls x) (hu : tb.und t = some (.slice t')) (hs : sizeF tb t' = .ok n) (hi : i < ls.length) :
    indexAddrF tb t x (.int kd (i : Int)) = .ok (.pointer (some ⟨b, i * n, none⟩)) := by
  rcases h with ⟨rfl, rfl⟩ | ⟨k, c, rfl, -⟩
  · simp at hi
  · have hb : Nat.blt i ls.length = true := by rw [Nat.blt_eq]; exact hi
    have hn : natV (.int kd (i : Int)) = .ok i := rfl
    unfold indexAddrF
    simp only [hn, hu, hb, cond_true, hs, R.ok_bind, addA, Nat.zero_add]
theorem SlcM.load {A : Mem} {e t : TypeId} {d : TypeDesc} {n b i j : Nat} {ls : List (List Value)} {l : List Value} {x v : Value} (h : SlcM A e n b ls x) (hu : tb.und t = some d) (ha : isAggD d = false) (hi : ls[i]? = some l) (hj : l[j]? = some v) (hjn : j < n) :
    loadF tb A.get t (.pointer (some ⟨b, i * n + j, none⟩)) = .ok v := by
  rcases h with ⟨rfl, rfl⟩ | ⟨k, c, rfl, h2, h3, h4, -⟩
  · simp at hi
  · exact load_vals hu ha h3 (by rw [flat_get h4 hi hjn]; exact hj)
/-- A value of it, whole. -/
theorem SlcM.load_all {A : Mem} {e t : TypeId} {d : TypeDesc} {n b i : Nat} {ls : List (List Value)} {l : List Value} {x : Value} (h : SlcM A e n b ls x) (hu : tb.und t = some d) (ha : isAggD d = true) (hs : sizeF tb t = .ok n) (hi : ls[i]? = some l) :
    loadF tb A.get t (.pointer (some ⟨b, i * n, none⟩)) = .ok (.agg ⟨l⟩) := by
  rcases h with ⟨rfl, rfl⟩ | ⟨k, c, rfl, h2, ⟨cs, h5, h6⟩, h4, -⟩
  · simp at hi
  · have hl : l.length = n := h4 l (List.mem_of_getElem? hi)
    have hlen := flat_len h4
    have hil : i < ls.length := (List.getElem?_eq_some_iff.1 hi).1
    have hg : cs.gets n (i * n) = some l := gets_eq _ _ _ _ hl fun j hj => by
      rw [h6 (i * n + j) (by
        rw [hlen]
        have := Nat.mul_le_mul_right n (show i + 1 ≤ ls.length from hil)
        rw [Nat.add_mul, Nat.one_mul] at this
        omega), flat_get h4 hi hj]
    unfold loadF
    simp only [h5, hu, ha, cond_true, hs, R.ok_bind, hg]
theorem elemsF_valsN {A : Mem} {e : TypeId} {b n m : Nat} {k : Kd} {l : List Value} (h : Vals A e b k l) (hl : l.length = m * n) : elemsF A.get n m (some ⟨b, 0, none⟩) = .ok l := by
  obtain ⟨c, h1, h2⟩ := h
  unfold elemsF
  simp only []
  cases hn : Nat.beq (m * n) 0 with
  | true =>
    have : l = [] := List.length_eq_zero_iff.1 (by rw [hl]; exact Nat.eq_of_beq_eq_true hn)
    subst this; rfl
  | false =>
    have hg : c.gets (m * n) 0 = some l := gets_eq _ _ _ _ hl fun j hj => by rw [Nat.zero_add]; exact h2 j (by omega)
    simp only [cond_false, h1, hg]
/-- One more, behind it. -/
theorem SlcM.append {A : Mem} {st xt e : TypeId} {i : TypeInfo} {z l : List Value} {n b b2 : Nat} {ls : List (List Value)} {x : Value} (h : SlcM A e n b ls x) (hst : tb.und st = some (.slice e)) (hxt : tb.und xt = some (.slice e)) (hz : zcellsF tb e = .ok (n, z)) (hi : tb.ty.get e = some i) (hib : 0 < i.bytes) (hib' : i.bytes ≤ 65536)
    (hn0 : 0 < n) (hn1 : n < 65536) (hls : ls.length < 16777216) (hb2 : A.get b2 = some (rowOb e l)) (hl : l.length = n) (h1c : ∀ v ∈ l, oneCell v = true) :
    ∃ x' A', appendF tb A st xt x (.slice (some ⟨b2, 0, none⟩) 1 2) = .ok (x', A') ∧ SlcM A' e n A.next (ls ++ [l]) x' ∧ A'.next = A.next + 1 ∧ ∀ y, (y = b → x = .slice none 0 0) → y < A.next → A'.get y = A.get y := by
  have hnew : firstF A.get n 1 (.slice (some ⟨b2, 0, none⟩) 1 2) = .ok l := elemsF_valsN (vals_puts (e := e) (k := .var l.length) hb2) (by rw [Nat.one_mul]; exact hl)
  have hlim : (Nat.ble (ls.length + 1) 16777216 && Nat.ble i.bytes 65536 && Nat.blt 0 i.bytes && Nat.blt 0 n && Nat.blt n 65536) = true := by
    have a1 : Nat.ble (ls.length + 1) 16777216 = true := Nat.ble_eq_true_of_le (by omega)
    have a2 : Nat.ble i.bytes 65536 = true := Nat.ble_eq_true_of_le hib'
    have a3 : Nat.blt 0 i.bytes = true := by rw [Nat.blt_eq]; exact hib
    have a4 : Nat.blt 0 n = true := by rw [Nat.blt_eq]; exact hn0
    have a5 : Nat.blt n 65536 = true := by rw [Nat.blt_eq]; exact hn1
    rw [a1, a2, a3, a4, a5]; rfl
  have hfl : (ls ++ [l]).flatten = ls.flatten ++ l := by simp
  have fin : ∀ (k' : Kd) (A0 : Mem), A0.next = A.next → (∀ y, y ≠ b → A0.get y = A.get y) → (k' = .row ∨ k' = .mark) → (∀ l ∈ ls, l.length = n) →
      SlcM (A0.alloc (.cells e k' 0 (T.puts .e 0 (ls.flatten ++ l)))) e n A.next (ls ++ [l]) (.slice (some ⟨A.next, 0, none⟩) (ls.length + 1) (mkX (ls.length + 1) n)) ∧ (A0.alloc (.cells e k' 0 (T.puts .e 0 (ls.flatten ++ l)))).next = A.next + 1 ∧ ∀ y, y ≠ b → y < A.next → (A0.alloc (.cells e k' 0 (T.puts .e 0 (ls.flatten ++ l)))).get y = A.get y := by
    intro k' A0 hn hg hk' hall
    refine ⟨.inr ⟨k', _, by rw [List.length_append]; rfl, by rw [next_alloc]; omega, vals_puts ?_, fun y hy => ?_, .inr ⟨by rw [List.length_append]; rfl, hk'⟩⟩, by rw [next_alloc, hn], fun y hy hlt => ?_⟩
    · rw [hfl, ← hn]; exact get_alloc_self _ _
    · rcases List.mem_append.1 hy with h | h
      · exact hall y h
      · rw [List.mem_singleton.1 h]; exact hl
    · rw [get_alloc_ne (by omega), hg y hy]
  rcases h with ⟨rfl, rfl⟩ | ⟨k, c, rfl, h2, h3, h4, h5⟩
  · refine ⟨.slice (some ⟨A.next, 0, none⟩) 1 (mkX 1 n), A.alloc (.cells e .row 0 (T.puts .e 0 ([] ++ l))), ?_, ?_⟩
    · unfold appendF appendG
      have hble : Nat.ble (0 + 1) (capN 0) = false := rfl
      have hx : capX 0 = true := rfl
      have hel : elemsF A.get n 0 none = .ok [] := rfl
      simp only [hst, hxt, isIntD, cond_false, hz, R.ok_bind, lenF, hnew, hble, hi]
      simp only [List.length_nil, Nat.zero_add] at hlim
      simp only [Nat.zero_add, hlim, cond_true, hel, R.ok_bind, hx]
    · obtain ⟨f1, f2, -⟩ := fin .row A rfl (fun _ _ => rfl) (.inl rfl) (fun l h => by cases h)
      exact ⟨f1, f2, fun y _ hy => get_alloc_ne (by omega)⟩
  · have hel : elemsF A.get n ls.length (some ⟨b, 0, none⟩) = .ok ls.flatten := elemsF_valsN h3 (flat_len h4)
    obtain ⟨cs, hb', hcs⟩ := h3
    rcases h5 with rfl | ⟨rfl, hk⟩
    · have hx : capX (2 * ls.length) = true := by show Nat.beq (2 * ls.length % 2) 0 = true; rw [Nat.mul_mod_right]; rfl
      have hcn : capN (2 * ls.length) = ls.length := by unfold capN; rw [hx, cond_true]; show 2 * ls.length / 2 = ls.length; omega
      have hble : Nat.ble (ls.length + 1) (capN (2 * ls.length)) = false := by
        rw [hcn]
        cases hq : Nat.ble (ls.length + 1) ls.length with
        | false => rfl
        | true => have := Nat.le_of_ble_eq_true hq; omega
      refine ⟨_, A.alloc (.cells e .row 0 (T.puts .e 0 (ls.flatten ++ l))), ?_, (fin .row A rfl (fun _ _ => rfl) (.inl rfl) h4).1, (fin .row A rfl (fun _ _ => rfl) (.inl rfl) h4).2.1, fun y hy => (fin .row A rfl (fun _ _ => rfl) (.inl rfl) h4).2.2 y (fun e => by cases hy e)⟩
      unfold appendF appendG
      simp only [hst, hxt, isIntD, cond_false, hz, R.ok_bind, lenF, hnew, hble, hi, hlim, cond_true, hel, hx]
    · have hble : Nat.ble (ls.length + 1) (capN (mkX ls.length n)) = false := by
        rw [capN_mkX hn1]
        cases hq : Nat.ble (ls.length + 1) ls.length with
        | false => rfl
        | true => have := Nat.le_of_ble_eq_true hq; omega
      have hx : capX (mkX ls.length n) = false := capX_mkX _ _
      have he : Nat.beq (capE (mkX ls.length n)) n = true := by rw [capE_mkX hn1]; simp
      have hall : l.all oneCell = true := List.all_eq_true.2 h1c
      have hfz : (Nat.ble 0 (0 + ls.length * n) && (Nat.beq e e && Nat.blt 0 9223372036854775808)) = true := by
        have h0 : Nat.blt 0 9223372036854775808 = true := by rw [Nat.blt_eq]; omega
        rw [h0]; simp
      refine ⟨_, (A.set b .dead).alloc (.cells e k 0 (T.puts .e 0 (ls.flatten ++ l))), ?_, (fin k (A.set b .dead) (next_set _ _ _) (fun y hy => by rw [get_setMem, if_neg hy]) hk h4).1, (fin k (A.set b .dead) (next_set _ _ _) (fun y hy => by rw [get_setMem, if_neg hy]) hk h4).2.1, fun y hy => (fin k (A.set b .dead) (next_set _ _ _) (fun y hy => by rw [get_setMem, if_neg hy]) hk h4).2.2 y (fun e => by cases hy e)⟩
      unfold appendF appendG
      simp only [hst, hxt, isIntD, cond_false, hz, R.ok_bind, lenF, hnew, hble, hi, hlim, cond_true, hel, hx, he, hall, Bool.and_true, hb', hfz]
      rcases hk with rfl | rfl <;> rfl

end Go.Am

/-
  The abstract machine AM, part 54: slices that are read only; '==' of structs.
-/
namespace Go.Am
variable {tb : Tab}

/-! ### Slices of values of n cells each: a beginning of a row, read only -/
def RowM (A : Mem) (e : TypeId) (n b : Nat) (ls : List (List Value)) (x : Value) : Prop :=
  (x = .slice none 0 0 ∧ ls = []) ∨ ∃ k c ex, x = .slice (some ⟨b, 0, none⟩) ls.length c ∧ b < A.next ∧ Vals A e b k (ls.flatten ++ ex) ∧ (∀ l ∈ ls, l.length = n) ∧ capFit c n = true ∧ ls.length ≤ capN c
theorem SlcM.toRow {A : Mem} {e : TypeId} {n b : Nat} {ls : List (List Value)} {x : Value} (hn : n < 65536) (h : SlcM A e n b ls x) : RowM A e n b ls x := by
  rcases h with h | ⟨k, c, h1, h2, h3, h4, h5⟩
  · exact .inl h
  · refine .inr ⟨k, c, [], h1, h2, by rw [List.append_nil]; exact h3, h4, ?_, ?_⟩
    · rcases h5 with rfl | ⟨rfl, _⟩
      · unfold capFit; rw [capX_two]; rfl
      · unfold capFit; rw [capX_mkX, capE_mkX hn, cond_false]; exact Nat.beq_refl n
    · rcases h5 with rfl | ⟨rfl, _⟩
      · rw [capN_two]; exact Nat.le_refl _
      · rw [capN_mkX hn]; exact Nat.le_refl _
theorem RowM.nil (A : Mem) (e : TypeId) (n b : Nat) : RowM A e n b [] (.slice none 0 0) := .inl ⟨rfl, rfl⟩
theorem RowM.same {A A' : Mem} {e : TypeId} {n b : Nat} {ls : List (List Value)} {x : Value} (h : RowM A e n b ls x) (hn : A.next ≤ A'.next) (hg : b < A.next → A'.get b = A.get b) : RowM A' e n b ls x := by
  rcases h with h | ⟨k, c, ex, h1, h2, h3, h4⟩
  · exact .inl h
  · exact .inr ⟨k, c, ex, h1, Nat.lt_of_lt_of_le h2 hn, h3.same (hg h2), h4⟩
theorem RowM.len {A : Mem} {e t t' : TypeId} {n b : Nat} {ls : List (List Value)} {x : Value} (h : RowM A e n b ls x) (hu : tb.und t = some (.slice t')) : builtinPF tb .len [t] [x] = .ok (.int .i64 ((ls.length : Nat) : Int)) := by
  rcases h with ⟨rfl, rfl⟩ | ⟨k, c, ex, rfl, -⟩ <;> exact len_slc hu
theorem RowM.idx {A : Mem} {e t t' : TypeId} {n b i : Nat} {kd : IntKind} {ls : List (List Value)} {x : Value} (h : RowM A e n b ls x) (hu : tb.und t = some (.slice t')) (hs : sizeF tb t' = .ok n) (hi : i < ls.length) :
    indexAddrF tb t x (.int kd (i : Int)) = .ok (.pointer (some ⟨b, i * n, none⟩)) := by
  rcases h with ⟨rfl, rfl⟩ | ⟨k, c, ex, rfl, -⟩
  · simp at hi
  · have hb : Nat.blt i ls.length = true := by rw [Nat.blt_eq]; exact hi
    have hn : natV (.int kd (i : Int)) = .ok i := rfl
    unfold indexAddrF
    simp only [hn, hu, hb, cond_true, hs, R.ok_bind, addA, Nat.zero_add]
theorem flat_lt {n i j : Nat} {ls : List (List Value)} (h : ∀ l ∈ ls, l.length = n) (hi : i < ls.length) (hj : j < n) : i * n + j < ls.flatten.length := by
  rw [flat_len h]
  have := Nat.mul_le_mul_right n (show i + 1 ≤ ls.length from hi)
  rw [Nat.add_mul, Nat.one_mul] at this
  omega
theorem RowM.load {A : Mem} {e t : TypeId} {d : TypeDesc} {n b i j : Nat} {ls : List (List Value)} {l : List Value} {x v : Value} (h : RowM A e n b ls x) (hu : tb.und t = some d) (ha : isAggD d = false) (hi : ls[i]? = some l) (hj : l[j]? = some v) (hjn : j < n) :
    loadF tb A.get t (.pointer (some ⟨b, i * n + j, none⟩)) = .ok v := by
  rcases h with ⟨rfl, rfl⟩ | ⟨k, c, ex, rfl, h2, h3, h4, -⟩
  · simp at hi
  · have hil : i < ls.length := (List.getElem?_eq_some_iff.1 hi).1
    exact load_vals hu ha h3 (by rw [List.getElem?_append_left (flat_lt h4 hil hjn), flat_get h4 hi hjn]; exact hj)
theorem RowM.load_all {A : Mem} {e t : TypeId} {d : TypeDesc} {n b i : Nat} {ls : List (List Value)} {l : List Value} {x : Value} (h : RowM A e n b ls x) (hu : tb.und t = some d) (ha : isAggD d = true) (hs : sizeF tb t = .ok n) (hi : ls[i]? = some l) :
    loadF tb A.get t (.pointer (some ⟨b, i * n, none⟩)) = .ok (.agg ⟨l⟩) := by
  rcases h with ⟨rfl, rfl⟩ | ⟨k, c, ex, rfl, h2, ⟨cs, h5, h6⟩, h4, -⟩
  · simp at hi
  · have hl : l.length = n := h4 l (List.mem_of_getElem? hi)
    have hil : i < ls.length := (List.getElem?_eq_some_iff.1 hi).1
    have hg : cs.gets n (i * n) = some l := gets_eq _ _ _ _ hl fun j hj => by
      have hlt := flat_lt h4 hil hj
      rw [h6 (i * n + j) (by rw [List.length_append]; omega), List.getElem?_append_left hlt, flat_get h4 hi hj]
    unfold loadF
    simp only [h5, hu, ha, cond_true, hs, R.ok_bind, hg]
theorem RowM.cells {A : Mem} {e : TypeId} {n b : Nat} {ls : List (List Value)} {x : Value} (h : RowM A e n b ls x) : x.cells.toList = [x] ∧ oneCell x = true := by
  rcases h with ⟨rfl, -⟩ | ⟨k, c, ex, rfl, -⟩ <;> exact ⟨rfl, rfl⟩
theorem RowM.self {A : Mem} {e : TypeId} {n b : Nat} {ls : List (List Value)} {x : Value} (h : RowM A e n b ls x) (d : Nat) : sameV (d + 1) x x = true := by
  rcases h with ⟨rfl, -⟩ | ⟨k, c, ex, rfl, -⟩
  · rfl
  · exact sameV_slc _ _ _ _
/-- A beginning of it. -/
theorem RowM.cut {A : Mem} {e t t' : TypeId} {n m b : Nat} {ls : List (List Value)} {x : Value} (h : RowM A e n b ls x) (hu : tb.und t = some (.slice t')) (hs : sizeF tb t' = .ok n) (hm : m ≤ ls.length) :
    ∃ x', sliceF tb t x none (some (.int .i64 (m : Int))) none = .ok x' ∧ RowM A e n b (ls.take m) x' := by
  rcases h with ⟨rfl, rfl⟩ | ⟨k, c, ex, rfl, h2, h3, h4, h5, h6⟩
  · have hm0 : m = 0 := by simpa using hm
    subst hm0
    refine ⟨.slice none 0 0, ?_, .inl ⟨rfl, rfl⟩⟩
    have e1 : bound (some (.int .i64 ((0 : Nat) : Int))) 0 (capN 0) = .ok 0 := bound_some (Nat.zero_le _)
    unfold sliceF
    simp only [hu, e1, R.ok_bind, bound_none, hs]
  · have hl : (ls.take m).length = m := by rw [List.length_take]; omega
    have e1 : bound (some (.int .i64 (m : Int))) ls.length (capN c) = .ok m := bound_some (by omega)
    have hall : ∀ l ∈ ls.take m, l.length = n := fun l hl => h4 l (List.mem_of_mem_take hl)
    have hfl : ls.flatten ++ ex = (ls.take m).flatten ++ ((ls.drop m).flatten ++ ex) := by
      rw [← List.append_assoc, ← List.flatten_append, List.take_append_drop]
    rw [hfl] at h3
    cases hx : capX c && Nat.beq (capN c) 0 with
    | true =>
      have hc1 : capN c = 0 := Nat.eq_of_beq_eq_true (Bool.and_eq_true_iff.1 hx).2
      have hm0 : m = 0 := by omega
      subst hm0
      refine ⟨.slice (some ⟨b, 0, none⟩) 0 0, ?_, .inr ⟨k, 0, _, by rw [hl], h2, h3, hall, rfl, by rw [hl]; exact Nat.zero_le _⟩⟩
      unfold sliceF
      simp only [hu, e1, R.ok_bind, bound_none, hs, hx, cond_true, Nat.sub_zero]
    | false =>
      refine ⟨.slice (some ⟨b, 0, none⟩) m (capSub c 0), ?_, .inr ⟨k, _, _, by rw [hl], h2, h3, hall, ?_, by rw [capN_sub]; omega⟩⟩
      · unfold sliceF
        simp only [hu, e1, R.ok_bind, bound_none, hs, hx, cond_false, h5, cond_true, addA, Nat.zero_mul, Nat.add_zero, Nat.sub_zero]
      · unfold capFit
        unfold capFit at h5
        rw [capX_sub]
        cases hcx : capX c with
        | true => rfl
        | false =>
          rw [hcx, cond_false] at h5
          have he : capE c = n := Nat.eq_of_beq_eq_true h5
          have hlt : capE c < 65536 := Nat.mod_lt _ (by omega)
          unfold capSub
          rw [hcx, cond_false, cond_false, capE_mkX hlt, he]
          exact Nat.beq_refl n

/-- Some more, behind it. -/
theorem SlcM.appends {A : Mem} {st xt e : TypeId} {xd : TypeDesc} {i : TypeInfo} {z : List Value} {n m b : Nat} {ls nl : List (List Value)} {x y : Value} (h : SlcM A e n b ls x) (hst : tb.und st = some (.slice e)) (hxt : tb.und xt = some xd) (hxd : isIntD xd = false) (hz : zcellsF tb e = .ok (n, z)) (hi : tb.ty.get e = some i) (hib : 0 < i.bytes) (hib' : i.bytes ≤ 65536)
    (hn0 : 0 < n) (hn1 : n < 65536) (hls : ls.length + m ≤ 16777216) (hy : lenF y = .ok m) (hnew : firstF A.get n m y = .ok nl.flatten) (hm : nl.length = m) (hl : ∀ l ∈ nl, l.length = n) (h1c : ∀ v ∈ nl.flatten, oneCell v = true) :
    ∃ x' A' b', appendF tb A st xt x y = .ok (x', A') ∧ SlcM A' e n b' (ls ++ nl) x' ∧ A.next ≤ A'.next ∧ (b' = b ∨ A.next ≤ b') ∧ ∀ y, (y = b → x = .slice none 0 0) → y < A.next → A'.get y = A.get y := by
  subst hm
  by_cases h0 : nl.length = 0
  · have hnil : nl = [] := List.length_eq_zero_iff.1 h0
    subst hnil
    simp only [List.length_nil, List.flatten_nil] at hy hnew
    refine ⟨x, A, b, ?_, by rw [List.append_nil]; exact h, Nat.le_refl _, .inl rfl, fun _ _ _ => rfl⟩
    rcases h with ⟨rfl, rfl⟩ | ⟨k, c, rfl, h2, h3, h4, h5⟩
    · unfold appendF appendG
      simp only [hst, hxt, hxd, cond_false, hz, R.ok_bind, hy, hnew]
      rfl
    · have hc : ls.length ≤ capN c := by
        rcases h5 with rfl | ⟨rfl, _⟩
        · rw [capN_two]; exact Nat.le_refl _
        · rw [capN_mkX hn1]; exact Nat.le_refl _
      have hble : Nat.ble ls.length (capN c) = true := Nat.ble_eq_true_of_le hc
      have hst0 : ∀ a, storeAtF A a [] = .ok A := fun _ => rfl
      unfold appendF appendG
      simp only [hst, hxt, hxd, cond_false, hz, R.ok_bind, hy, hnew, Nat.add_zero, hble, cond_true, hst0]
  have hlim : (Nat.ble (ls.length + nl.length) 16777216 && Nat.ble i.bytes 65536 && Nat.blt 0 i.bytes && Nat.blt 0 n && Nat.blt n 65536) = true := by
    have a1 : Nat.ble (ls.length + nl.length) 16777216 = true := Nat.ble_eq_true_of_le (by omega)
    have a2 : Nat.ble i.bytes 65536 = true := Nat.ble_eq_true_of_le hib'
    have a3 : Nat.blt 0 i.bytes = true := by rw [Nat.blt_eq]; exact hib
    have a4 : Nat.blt 0 n = true := by rw [Nat.blt_eq]; exact hn0
    have a5 : Nat.blt n 65536 = true := by rw [Nat.blt_eq]; exact hn1
    rw [a1, a2, a3, a4, a5]; rfl
  have hfl : (ls ++ nl).flatten = ls.flatten ++ nl.flatten := by simp
  have hll : (ls ++ nl).length = ls.length + nl.length := List.length_append
  have fin : ∀ (k' : Kd) (A0 : Mem), A0.next = A.next → (∀ y, y ≠ b → A0.get y = A.get y) → (k' = .row ∨ k' = .mark) → (∀ l ∈ ls, l.length = n) →
      SlcM (A0.alloc (.cells e k' 0 (T.puts .e 0 (ls.flatten ++ nl.flatten)))) e n A.next (ls ++ nl) (.slice (some ⟨A.next, 0, none⟩) (ls.length + nl.length) (mkX (ls.length + nl.length) n)) ∧ A.next ≤ (A0.alloc (.cells e k' 0 (T.puts .e 0 (ls.flatten ++ nl.flatten)))).next ∧ ∀ y, y ≠ b → y < A.next → (A0.alloc (.cells e k' 0 (T.puts .e 0 (ls.flatten ++ nl.flatten)))).get y = A.get y := by
    intro k' A0 hn hg hk' hall
    refine ⟨.inr ⟨k', _, by rw [hll], by rw [next_alloc]; omega, vals_puts ?_, fun y hy => ?_, .inr ⟨by rw [hll], hk'⟩⟩, by rw [next_alloc, hn]; omega, fun y hy hlt => ?_⟩
    · rw [hfl, ← hn]; exact get_alloc_self _ _
    · rcases List.mem_append.1 hy with h | h
      · exact hall y h
      · exact hl y h
    · rw [get_alloc_ne (by omega), hg y hy]
  rcases h with ⟨rfl, rfl⟩ | ⟨k, c, rfl, h2, h3, h4, h5⟩
  · refine ⟨.slice (some ⟨A.next, 0, none⟩) (0 + nl.length) (mkX (0 + nl.length) n), A.alloc (.cells e .row 0 (T.puts .e 0 ([] ++ nl.flatten))), A.next, ?_, ?_⟩
    · unfold appendF appendG
      have hble : Nat.ble (0 + nl.length) (capN 0) = false := by
        cases hq : Nat.ble (0 + nl.length) (capN 0) with
        | false => rfl
        | true =>
          have hq2 := Nat.le_of_ble_eq_true hq
          have : capN 0 = 0 := rfl
          omega
      have hx : capX 0 = true := rfl
      have hel : elemsF A.get n 0 none = .ok [] := rfl
      simp only [List.length_nil] at hlim
      simp only [hst, hxt, hxd, cond_false, hz, R.ok_bind, hy, hnew, hble, hi, hlim, cond_true, hel, hx]
    · obtain ⟨f1, f2, -⟩ := fin .row A rfl (fun _ _ => rfl) (.inl rfl) (fun l h => by cases h)
      exact ⟨f1, f2, .inr (Nat.le_refl _), fun y _ hy => get_alloc_ne (by omega)⟩
  · have hel : elemsF A.get n ls.length (some ⟨b, 0, none⟩) = .ok ls.flatten := elemsF_valsN h3 (flat_len h4)
    obtain ⟨cs, hb', hcs⟩ := h3
    rcases h5 with rfl | ⟨rfl, hk⟩
    · have hx : capX (2 * ls.length) = true := capX_two _
      have hcn : capN (2 * ls.length) = ls.length := capN_two _
      have hble : Nat.ble (ls.length + nl.length) (capN (2 * ls.length)) = false := by
        rw [hcn]
        cases hq : Nat.ble (ls.length + nl.length) ls.length with
        | false => rfl
        | true => have := Nat.le_of_ble_eq_true hq; omega
      obtain ⟨f1, f2, f3⟩ := fin .row A rfl (fun _ _ => rfl) (.inl rfl) h4
      refine ⟨_, A.alloc (.cells e .row 0 (T.puts .e 0 (ls.flatten ++ nl.flatten))), A.next, ?_, f1, f2, .inr (Nat.le_refl _), fun y hy => f3 y (fun e => by cases hy e)⟩
      unfold appendF appendG
      simp only [hst, hxt, hxd, cond_false, hz, R.ok_bind, hy, hnew, hble, hi, hlim, cond_true, hel, hx]
    · have hble : Nat.ble (ls.length + nl.length) (capN (mkX ls.length n)) = false := by
        rw [capN_mkX hn1]
        cases hq : Nat.ble (ls.length + nl.length) ls.length with
        | false => rfl
        | true => have := Nat.le_of_ble_eq_true hq; omega
      have hx : capX (mkX ls.length n) = false := capX_mkX _ _
      have he : Nat.beq (capE (mkX ls.length n)) n = true := by rw [capE_mkX hn1]; simp
      have hall : nl.flatten.all oneCell = true := List.all_eq_true.2 h1c
      have hfz : (Nat.ble 0 (0 + ls.length * n) && (Nat.beq e e && Nat.blt 0 9223372036854775808)) = true := by
        have h0 : Nat.blt 0 9223372036854775808 = true := by rw [Nat.blt_eq]; omega
        rw [h0]; simp
      obtain ⟨f1, f2, f3⟩ := fin k (A.set b .dead) (next_set _ _ _) (fun y hy => by rw [get_setMem, if_neg hy]) hk h4
      refine ⟨_, (A.set b .dead).alloc (.cells e k 0 (T.puts .e 0 (ls.flatten ++ nl.flatten))), A.next, ?_, f1, f2, .inr (Nat.le_refl _), fun y hy => f3 y (fun e => by cases hy e)⟩
      unfold appendF appendG
      simp only [hst, hxt, hxd, cond_false, hz, R.ok_bind, hy, hnew, hble, hi, hlim, cond_true, hel, hx, he, hall, Bool.and_true, hb', hfz]
      rcases hk with rfl | rfl <;> rfl
theorem flat_ones (l : List Value) : (l.map fun v => [v]).flatten = l := by
  induction l with
  | nil => rfl
  | cons a l ih => simp only [List.map_cons, List.flatten_cons, ih, List.singleton_append]
theorem Slc.toM {A : Mem} {e : TypeId} {b : Nat} {l : List Value} {x : Value} (h : Slc A e b l x) : SlcM A e 1 b (l.map fun v => [v]) x := by
  rcases h with ⟨h1, rfl⟩ | ⟨k, c, h1, h2, h3, h4⟩
  · exact .inl ⟨h1, rfl⟩
  · refine .inr ⟨k, c, by rw [List.length_map]; exact h1, h2, by rw [flat_ones]; exact h3, fun l hl => ?_, by rw [List.length_map]; exact h4⟩
    obtain ⟨v, -, rfl⟩ := List.mem_map.1 hl
    rfl
theorem SlcM.toOne {A : Mem} {e : TypeId} {b : Nat} {l : List Value} {x : Value} (h : SlcM A e 1 b (l.map fun v => [v]) x) : Slc A e b l x := by
  rcases h with ⟨h1, h2⟩ | ⟨k, c, h1, h2, h3, _, h4⟩
  · exact .inl ⟨h1, List.map_eq_nil_iff.1 h2⟩
  · rw [List.length_map] at h1 h4
    rw [flat_ones] at h3
    exact .inr ⟨k, c, h1, h2, h3, h4⟩
theorem Slc.appends {A : Mem} {st xt e : TypeId} {xd : TypeDesc} {i : TypeInfo} {z : List Value} {m b : Nat} {l nl : List Value} {x y : Value} (h : Slc A e b l x) (hst : tb.und st = some (.slice e)) (hxt : tb.und xt = some xd) (hxd : isIntD xd = false) (hz : zcellsF tb e = .ok (1, z)) (hi : tb.ty.get e = some i) (hib : 0 < i.bytes) (hib' : i.bytes ≤ 65536)
    (hls : l.length + m ≤ 16777216) (hy : lenF y = .ok m) (hnew : firstF A.get 1 m y = .ok nl) (hm : nl.length = m) (h1c : ∀ v ∈ nl, oneCell v = true) :
    ∃ x' A' b', appendF tb A st xt x y = .ok (x', A') ∧ Slc A' e b' (l ++ nl) x' ∧ A.next ≤ A'.next ∧ (b' = b ∨ A.next ≤ b') ∧ ∀ y, (y = b → x = .slice none 0 0) → y < A.next → A'.get y = A.get y := by
  obtain ⟨x', A', b', h1, h2, h3⟩ := h.toM.appends (nl := nl.map fun v => [v]) hst hxt hxd hz hi hib hib' Nat.zero_lt_one (by omega) (by rw [List.length_map]; exact hls) hy (by rw [flat_ones]; exact hnew) (by rw [List.length_map]; exact hm) (fun l hl => by
    obtain ⟨v, -, rfl⟩ := List.mem_map.1 hl
    rfl) (by rw [flat_ones]; exact h1c)
  rw [← List.map_append] at h2
  exact ⟨x', A', b', h1, h2.toOne, h3⟩

/-! ### '==' of structs -/
theorem opF_eqlR {ih : Code → St → R (Ex × St)} {dst : Option Tmp} {ty : TypeId} {pos : String} {after : Array Edge} {g : Option (Nat × Bool)} {s : St} {k : St → R (Ex × St)} (t : TypeId) (x y : Operand) (r : TypeId) (h : basicD (tb.und t) = false) : opF tb ih { dst, op := .binOp .eql t x y r, type := ty, pos, after, guard := g } s k =
    (ev s.t x).bind fun a => (ev s.t y).bind fun b => (eqF tb s.m.get .eql t x y a b).bind fun v => putT s dst v k := by
  rw [opF_Rd (hc := by unfold cls; simp only [h, cond_false]) (hi := rfl)]
  simp only [rOp, R.bind_bind]
theorem opF_neqR {ih : Code → St → R (Ex × St)} {dst : Option Tmp} {ty : TypeId} {pos : String} {after : Array Edge} {g : Option (Nat × Bool)} {s : St} {k : St → R (Ex × St)} (t : TypeId) (x y : Operand) (r : TypeId) (h : basicD (tb.und t) = false) : opF tb ih { dst, op := .binOp .neq t x y r, type := ty, pos, after, guard := g } s k =
    (ev s.t x).bind fun a => (ev s.t y).bind fun b => (eqF tb s.m.get .neq t x y a b).bind fun v => putT s dst v k := by
  rw [opF_Rd (hc := by unfold cls; simp only [h, cond_false]) (hi := rfl)]
  simp only [rOp, R.bind_bind]
/-- The fields of a struct: is it named _, its type, its place. -/
def fieldsOf : Option TypeDesc → List (Bool × TypeId × Nat)
  | some (.struct fs) => fs.toList.map fun f => (f.name == "_", f.type, f.offset)
  | _ => []
def isStruct : Option TypeDesc → Bool
  | some (.struct _) => true
  | _ => false
noncomputable def fieldsEqS (tb : Tab) (eq : TypeId → Value → Value → R Bool) (xs ys : List Value) : List (Bool × TypeId × Nat) → R Bool
  | [] => .ok true
  | (n, t, o) :: fs => bif n then .no 85 else
    (partF tb t xs o).bind fun a => (partF tb t ys o).bind fun b => (eq t a b).bind fun
      | true => fieldsEqS tb eq xs ys fs
      | false => .ok false
theorem fieldsEq_S (eq : TypeId → Value → Value → R Bool) (xs ys : List Value) : ∀ fs : List Field, fieldsEq tb eq xs ys fs = fieldsEqS tb eq xs ys (fs.map fun f => (f.name == "_", f.type, f.offset))
  | [] => rfl
  | f :: fs => by
    have ih := fieldsEq_S eq xs ys fs
    show fieldsEq tb eq xs ys (f :: fs) = fieldsEqS tb eq xs ys ((f.name == "_", f.type, f.offset) :: fs.map fun f => (f.name == "_", f.type, f.offset))
    unfold fieldsEq fieldsEqS
    cases f.name == "_" with
    | true => rfl
    | false =>
      simp only [cond_false]
      cases partF tb f.type xs f.offset with
      | no _ => rfl
      | ok a =>
        cases partF tb f.type ys f.offset with
        | no _ => rfl
        | ok b =>
          simp only [R.ok_bind]
          cases eq f.type a b with
          | no _ => rfl
          | ok r => cases r with
            | true => exact ih
            | false => rfl
theorem equal_struct {g : Nat → Option Ob} {t : TypeId} {sh : List (Bool × TypeId × Nat)} (h1 : isStruct (tb.und t) = true) (h2 : fieldsOf (tb.und t) = sh) (h3 : tb.P.stoodInHeld t = false) (d : Nat) (xs ys : Array Value) :
    equalF tb g (d + 1) t (.agg xs) (.agg ys) = fieldsEqS tb (equalF tb g d) xs.toList ys.toList sh := by
  subst h2
  unfold equalF
  cases hu : tb.und t with
  | none => rw [hu] at h1; cases h1
  | some ds =>
    cases ds with
    | struct fs =>
      simp only [h3, cond_false]
      rw [fieldsEq_S]
      rfl
    | _ => rw [hu] at h1; cases h1
theorem equal_int {g : Nat → Option Ob} {t : TypeId} {k k' : IntKind} (h : tb.und t = some (.int k)) (d : Nat) (a b : Int) : equalF tb g (d + 1) t (.int k' a) (.int k' b) = .ok (decide (a = b)) := by
  unfold equalF
  have hk : kindEq k' k' = true := by cases k' <;> rfl
  simp only [h, hk, cond_true, ieqF_eq]
  rfl
theorem equal_str {g : Nat → Option Ob} {t : TypeId} (h : tb.und t = some .string) (d : Nat) (a b : List UInt8) : equalF tb g (d + 1) t (strOf a) (strOf b) = .ok (decide (a = b)) := by
  unfold equalF
  simp only [h, strOf, bytesEq_eq]
  congr 1
  rw [Bool.eq_iff_iff]; simp
theorem equal_bool {g : Nat → Option Ob} {t : TypeId} (h : tb.und t = some .bool) (d : Nat) (a b : Bool) : equalF tb g (d + 1) t (.bool a) (.bool b) = .ok (decide (a = b)) := by
  unfold equalF
  simp only [h]
  cases a <;> cases b <;> rfl
theorem part_one {t : TypeId} {cs : List Value} {o : Nat} {d : TypeDesc} {v : Value} (h : tb.und t = some d) (ha : isAggD d = false) (hv : cs[o]? = some v) : partF tb t cs o = .ok v := by
  unfold partF
  simp only [h, ha, cond_false, hv]
end Go.Am

/-
  The abstract machine AM, part 55: slices of plain values among a law's arguments, however many; the whole world as memory.
-/
namespace Go.Am
variable {tb : Tab} (ok : TabOk tb)

/-- Values that mean the same in every memory. -/
def plainV : Value → Bool
  | .int _ _ => true
  | .string _ => true
  | .bool _ => true
  | _ => false
theorem plain_VR {ι : Inj} {v : Value} (h : plainV v = true) : VR ι v v := by
  cases v <;> first | exact .int _ _ | exact .string _ | exact .bool _ | cases h
/-- The plain ones of some cells. -/
noncomputable def keepT : List Value → Nat → T Value → T Value
  | [], _, c => c
  | v :: l, i, c => keepT l (i + 1) (bif plainV v then c.set i v else c)
theorem keepT_get : ∀ (l : List Value) (i : Nat) (c : T Value) (j : Nat), (keepT l i c).get j = if i ≤ j ∧ j < i + l.length ∧ (l[j - i]?.map plainV) = some true then l[j - i]? else c.get j
  | [], i, c, j => by
    unfold keepT
    rw [if_neg (fun h => by
      have := h.2.1
      simp only [List.length_nil] at this
      omega)]
  | v :: l, i, c, j => by
    unfold keepT
    rw [keepT_get l (i + 1)]
    by_cases hj : j = i
    · subst hj
      rw [if_neg (by omega), Nat.sub_self, List.getElem?_cons_zero]
      cases hp : plainV v with
      | true => rw [cond_true, T.get_set, if_pos rfl, if_pos ⟨Nat.le_refl _, by simp, by simp [hp]⟩]
      | false => rw [cond_false, if_neg (fun h => by simp [hp] at h)]
    · have hc : (bif plainV v then c.set i v else c).get j = c.get j := by
        cases plainV v with
        | true => rw [cond_true, T.get_set, if_neg hj]
        | false => rfl
      rw [hc]
      by_cases hij : i + 1 ≤ j
      · have e : (v :: l)[j - i]? = l[j - (i + 1)]? := by
          rw [show j - i = (j - (i + 1)) + 1 by omega, List.getElem?_cons_succ]
        rw [e]
        simp only [List.length_cons]
        by_cases hx : j < i + 1 + l.length ∧ (l[j - (i + 1)]?.map plainV) = some true
        · rw [if_pos ⟨hij, hx.1, hx.2⟩, if_pos ⟨by omega, by omega, hx.2⟩]
        · rw [if_neg (fun h => hx h.2), if_neg (fun h => hx ⟨by omega, h.2.2⟩)]
      · rw [if_neg (fun h => hij h.1), if_neg (fun h => by omega)]
theorem keep_some {l : List Value} {j : Nat} {v : Value} (h : (keepT l 0 .e).get j = some v) : l[j]? = some v ∧ plainV v = true := by
  rw [keepT_get] at h
  split at h
  · rename_i hx
    rw [Nat.sub_zero] at h hx
    rw [h] at hx
    exact ⟨h, by simpa using hx.2.2⟩
  · rw [T.get_e] at h; cases h
theorem keep_get {l : List Value} {j : Nat} {v : Value} (h : l[j]? = some v) (hp : plainV v = true) : (keepT l 0 .e).get j = some v := by
  rw [keepT_get, Nat.sub_zero, if_pos ⟨Nat.zero_le _, by have := (List.getElem?_eq_some_iff.1 h).1; omega, by rw [h]; simp [hp]⟩, h]

/-! ### A world, as memory -/
noncomputable def wOb : Obj → Ob
  | .cells cs t fr => .cells t .row (2 * (9223372036854775808 + cs.size + fr.2 + 1)) (keepT cs.toList 0 .e)
  | _ => .dead
noncomputable def wMem (w : World) (n : Nat) : Mem := ⟨T.ofList (w.heap.toList.map wOb), w.heap.size + n⟩
/-- Each row is itself; and there are blocks of nothing, that lead somewhere. -/
def wInj (w : World) (ex : List (Option Loc)) (b : Nat) : Option Loc :=
  if b < w.heap.size then match w.heap[b]? with
    | some (.cells cs _ _) => some ⟨b, 0, cs.size⟩
    | _ => none
  else (ex[b - w.heap.size]?).join
theorem wMem_get (w : World) (n b : Nat) : (wMem w n).get b = (w.heap[b]?).map wOb := by
  show (T.ofList (w.heap.toList.map wOb)).get b = _
  rw [T.get_ofList, List.getElem?_map, Array.getElem?_toList]
theorem wInj_cells {w : World} {ex : List (Option Loc)} {b : Nat} {cs : Array Value} {t : TypeId} {fr : Nat × Nat} (h : w.heap[b]? = some (.cells cs t fr)) : wInj w ex b = some ⟨b, 0, cs.size⟩ := by
  unfold wInj
  rw [if_pos (Array.getElem?_eq_some_iff.1 h).1, h]
theorem wInj_get {w : World} {ex : List (Option Loc)} {b : Nat} {o : Ob} {l : Loc} (hg : (wMem w ex.length).get b = some o) (hl : wInj w ex b = some l) : ∃ cs t fr, w.heap[b]? = some (.cells cs t fr) ∧ o = wOb (.cells cs t fr) ∧ l = ⟨b, 0, cs.size⟩ := by
  rw [wMem_get] at hg
  cases hb : w.heap[b]? with
  | none => rw [hb] at hg; cases hg
  | some o' =>
    rw [hb] at hg
    have hlt := (Array.getElem?_eq_some_iff.1 hb).1
    unfold wInj at hl
    rw [if_pos hlt, hb] at hl
    cases o' with
    | cells cs t fr =>
      cases hl
      exact ⟨cs, t, fr, rfl, (Option.some.inj hg).symm, rfl⟩
    | _ => cases hl
theorem wRel (w : World) (ex : List (Option Loc)) (hex : ∀ l, some l ∈ ex → l.blk < w.heap.size) : Rel (wInj w ex) (wMem w ex.length) w := by
  refine ⟨fun b hb => ?_, fun b o l hg _ hl => ?_, fun b l hl => ?_, fun b b' l l' hb hb' hl hl' he => ?_, fun b t k c hb => ?_⟩
  · have hb' : w.heap.size + ex.length ≤ b := hb
    rw [wMem_get, Array.getElem?_eq_none (by omega)]; rfl
  · obtain ⟨cs, t, fr, h1, rfl, rfl⟩ := wInj_get hg hl
    refine ⟨_, h1, cs, fr, rfl, rfl, fun i v hv => ?_, ?_⟩
    · obtain ⟨h2, h3⟩ := keep_some hv
      rw [Array.getElem?_toList] at h2
      exact ⟨v, h2, plain_VR h3⟩
    · show fr.2 ≤ 0 + (2 * (9223372036854775808 + cs.size + fr.2 + 1))
      omega
  · unfold wInj at hl
    split at hl
    · rename_i hlt
      split at hl
      · cases hl; exact hlt
      · cases hl
    · cases hx : ex[b - w.heap.size]? with
      | none => rw [hx] at hl; cases hl
      | some ol =>
        rw [hx] at hl
        cases ol with
        | none => cases hl
        | some l0 =>
          cases hl
          exact hex _ (List.mem_of_getElem? hx)
  · obtain ⟨o, hg, _⟩ := hb
    obtain ⟨o', hg', _⟩ := hb'
    obtain ⟨_, _, _, _, _, rfl⟩ := wInj_get hg hl
    obtain ⟨_, _, _, _, _, rfl⟩ := wInj_get hg' hl'
    exact he
  · rw [wMem_get] at hb
    cases h : w.heap[b]? with
    | none => rw [h] at hb; cases hb
    | some o =>
      rw [h] at hb
      have h2 := Option.some.inj hb
      cases o with
      | cells cs t' fr =>
        have h3 : 2 * (9223372036854775808 + cs.size + fr.2 + 1) = GB k := by injection h2
        unfold GB at h3
        omega
      | _ => cases h2
include ok in
/-- A law that answers true on the abstract machine, on the whole world as memory. -/
theorem all_true {w : World} (ex : List (Option Loc)) (hex : ∀ l, some l ∈ ex → l.blk < w.heap.size) {f : FuncId} {fn : Func} {c : Code} (hf : tb.fn.get f = some fn) (hb : fn.body = some c) {args : List Value} {args' : Array Value} (ha : VRs (wInj w ex) args args'.toList)
    (hlaw : ∃ A', CallsTo tb f args (wMem w ex.length) (.bool true) A') : Calls tb.P f args' w fun e w' => e = .returned (.bool true) ∧ Leaves w w' := by
  intro cs
  obtain ⟨A', n, hc⟩ := hlaw
  obtain ⟨e, w', fr, ⟨ι', v', he, hv, hl⟩, st⟩ := call_still ok hc hf hb args' w (wRel w ex hex) ha (fun b hb => by
    have hb' : w.heap.size + ex.length ≤ b := hb
    unfold wInj
    rw [if_neg (by omega), List.getElem?_eq_none (by omega)]
    rfl) (fun b l hb hl => by
    obtain ⟨o, hg, _⟩ := hb
    obtain ⟨cs, t, fr, h1, rfl, rfl⟩ := wInj_get hg hl
    refine ⟨?_, t, _, _, hg, by omega, ?_⟩
    · show b < w.heap.size + ex.length
      have := (Array.getElem?_eq_some_iff.1 h1).1
      omega
    · show cs.size < 2 * (9223372036854775808 + cs.size + fr.2 + 1)
      omega) cs
  cases hv
  exact ⟨e, w', fr, ⟨he, hl⟩, st⟩

/-! ### A slice that came in -/
/-- In the model: len values of n plain cells each. -/
def ParWs (w : World) (n : Nat) (a : Option Addr) (len cap : Nat) (vs : List Value) : Prop :=
  (a = none ∧ len = 0 ∧ cap = 0) ∨
  ∃ x, a = some x ∧ x.spot = none ∧ x.block < w.heap.size ∧ len ≤ cap ∧ cap < 2 ^ 63 ∧ vs.length = cap * n ∧ (∀ (i : Nat) v, vs[i]? = some v → w.cell? (x.add i) = some v) ∧ ∀ v ∈ vs, plainV v = true
/-- On the abstract machine. -/
def ParG (A : Mem) (n len : Nat) (vs : List Value) (x : Value) : Prop :=
  (x = .slice none 0 0 ∧ len = 0) ∨
  ∃ q off, x = .slice (some ⟨q, off, none⟩) len (mkX len n) ∧ q < A.next ∧ (len * n = 0 ∨ ∃ t fz c, A.get q = some (.cells t .row fz c) ∧ ∀ i, i < len * n → ∃ v, vs[i]? = some v ∧ c.get (off + i) = some v)
def dumL (a : Option Addr) (cap n : Nat) : Option Loc := a.map fun x => ⟨x.block, x.off, x.off + cap * n⟩
theorem dum_lt {w : World} {n : Nat} {a : Option Addr} {len cap : Nat} {vs : List Value} (h : ParWs w n a len cap vs) {l : Loc} (hl : some l = dumL a cap n) : l.blk < w.heap.size := by
  rcases h with ⟨rfl, _⟩ | ⟨x, rfl, _, h, _⟩
  · cases hl
  · cases hl; exact h
theorem par_one {w : World} {n : Nat} {a : Option Addr} {len cap : Nat} {vs : List Value} (hn : n < 65536) (h : ParWs w n a len cap vs) {ex : List (Option Loc)} {j : Nat} (hj : ex[j]? = some (dumL a cap n)) :
    ∃ x, VR (wInj w ex) x (.slice a len cap) ∧ ParG (wMem w ex.length) n len vs x := by
  have hjl := (List.getElem?_eq_some_iff.1 hj).1
  rcases h with ⟨rfl, rfl, rfl⟩ | ⟨x, rfl, hsp, hblk, hlc, hcap, hlen, hcell, hpl⟩
  · exact ⟨.slice none 0 0, .slN, .inl ⟨rfl, rfl⟩⟩
  · obtain ⟨xb, xo, xs⟩ := x
    simp only at hsp hblk
    subst hsp
    by_cases h0 : len * n = 0
    · refine ⟨.slice (some ⟨w.heap.size + j, 0, none⟩) len (mkX len n), ?_, .inr ⟨_, _, rfl, by show w.heap.size + j < w.heap.size + ex.length; omega, .inl h0⟩⟩
      have h1 : capN (mkX len n) = len := capN_mkX hn
      have h2 : capE (mkX len n) = n := capE_mkX hn
      refine VR.slX (l := ⟨xb, xo, xo + cap * n⟩) (o' := xo) ?_ (capX_mkX _ _) (by rw [h1]; exact hlc) (by rw [h2]; exact Nat.le_refl _) (fun _ => by simp) hcap (by rw [h1]; exact Nat.le_refl _)
      unfold wInj
      rw [if_neg (by omega), Nat.add_sub_cancel_left, hj]
      rfl
    · have hpos : 0 < cap * n := by
        have hn0 : 0 < n := Nat.pos_of_ne_zero fun e => h0 (by rw [e, Nat.mul_zero])
        have hl0 : 0 < len := Nat.pos_of_ne_zero fun e => h0 (by rw [e, Nat.zero_mul])
        exact Nat.mul_pos (by omega) hn0
      have hle : len * n ≤ cap * n := Nat.mul_le_mul_right n hlc
      have hv : ∀ i, i < cap * n → ∃ v, vs[i]? = some v := fun i hi => ⟨_, List.getElem?_eq_getElem (show i < vs.length by omega)⟩
      have hc0 := hv 0 hpos
      obtain ⟨v0, hv0⟩ := hc0
      have hw0 := hcell 0 v0 hv0
      rw [Addr_add_mk] at hw0
      unfold World.cell? at hw0
      split at hw0
      · rename_i cs t fr hw
        have hw' : w.heap[xb]? = some (.cells cs t fr) := hw
        have hcs : ∀ i v, vs[i]? = some v → cs[xo + i]? = some v := by
          intro i v hi
          have h := hcell i v hi
          rw [Addr_add_mk] at h
          unfold World.cell? at h
          simp only [hw', Option.isSome_none, Bool.false_eq_true, if_false] at h
          exact h
        have hsz : xo + cap * n ≤ cs.size := by
          obtain ⟨v, hv⟩ := hv (cap * n - 1) (by omega)
          have := (Array.getElem?_eq_some_iff.1 (hcs _ _ hv)).1
          omega
        have h1 : capN (mkX len n) = len := capN_mkX hn
        have h2 : capE (mkX len n) = n := capE_mkX hn
        refine ⟨.slice (some ⟨xb, xo, none⟩) len (mkX len n), VR.slX (l := ⟨xb, 0, cs.size⟩) (o' := xo) (wInj_cells hw') (capX_mkX _ _) (by rw [h1]; exact hlc) (by rw [h2]; exact hsz) (fun _ => by simp) hcap (by rw [h1]; exact Nat.le_refl _), .inr ⟨xb, xo, rfl, by show xb < w.heap.size + ex.length; omega, .inr ⟨t, _, _, by rw [wMem_get, hw']; rfl, fun i hi => ?_⟩⟩⟩
        obtain ⟨v, hvi⟩ := hv i (by omega)
        refine ⟨v, hvi, keep_get ?_ (hpl v (List.mem_of_getElem? hvi))⟩
        rw [Array.getElem?_toList]
        exact hcs i v hvi
      · cases hw0
theorem ParW.toWs {k : IntKind} {w : World} {a : Option Addr} {len cap : Nat} {zs : List Int} (h : ParW k w a len cap zs) : ParWs w 1 a len cap (zs.map (.int k)) := by
  rcases h with ⟨h1, h2, h3, -⟩ | ⟨x, h1, h2, h3, h4, h5, h6, h7⟩
  · exact .inl ⟨h1, h2, h3⟩
  · refine .inr ⟨x, h1, h2, h3, h4, h5, by rw [List.length_map, h6, Nat.mul_one], fun i v hi => ?_, fun v hv => ?_⟩
    · have hl : i < zs.length := by
        have := (List.getElem?_eq_some_iff.1 hi).1
        rwa [List.length_map] at this
      rw [h7 i hl]
      rw [List.getElem?_map, List.getElem?_eq_getElem hl] at hi
      simp only [Option.map_some, Option.some.injEq] at hi
      rw [← hi]
      simp [List.getD, List.getElem?_eq_getElem hl]
    · obtain ⟨z, -, rfl⟩ := List.mem_map.1 hv
      rfl
end Go.Am

/-
  The abstract machine AM, part 56: nil checks; sums of any integers.
-/
namespace Go.Am
variable {tb : Tab}

def nilF (x : Value) : R Value := match x with
  | .pointer (some a) => .ok (.pointer (some a))
  | .iface a b => .ok (.iface a b)
  | .map a => .ok (.map a)
  | .func (.func f) a b => .ok (.func (.func f) a b)
  | .func (.yield f) a b => .ok (.func (.yield f) a b)
  | _ => .no 213
theorem nil_ptr (a : Addr) : nilF (.pointer (some a)) = .ok (.pointer (some a)) := rfl
theorem opF_nilCheck {ih : Code → St → R (Ex × St)} {dst : Option Tmp} {ty : TypeId} {pos : String} {after : Array Edge} {g : Option (Nat × Bool)} {s : St} {k : St → R (Ex × St)} (x : Operand) : opF tb ih { dst, op := .nilCheck x, type := ty, pos, after, guard := g } s k =
    (ev s.t x).bind fun a => (nilF a).bind fun v => putT s dst v k := by
  rw [opF_P (hc := rfl) (hi := rfl)]
  simp only [pOp, R.bind_bind]
  rfl
theorem op_addI {a b : Int} (h1 : -9223372036854775808 ≤ a + b) (h2 : a + b ≤ 9223372036854775807) : intOpF .add .i64 a b = .ok (.int .i64 (a + b)) := by
  show R.ok (Value.int .i64 (wrapF .i64 (a + b))) = _
  rw [wrapF_eq, wrap_in h1 h2]
end Go.Am

/-
  The abstract machine AM, part 60: a function that defers one closure, which recovers.
-/
namespace Go.Am
variable {tb : Tab} (ok : TabOk tb) {ι : Inj}

structure DefF where
  f : FuncId
  fn : Func
  c0 : Code
  id1 : Nat
  o1 : Oper
  od : Oper
  c2 : Code
  x : Tmp
  g : FuncId
  gf : Func
  id3 : Nat
  orc : Oper
  t : Tmp
  c3 : Code

structure DefOk (tb : Tab) (D : DefF) : Prop where
  hf : tb.fn.get D.f = some D.fn
  hb : D.fn.body = some (.seq D.c0 (.seq (.region D.id1 #[D.o1, D.od] false) D.c2))
  hod : D.od.op = .defer { callee := .value (.tmp D.x), args := #[], argTypes := #[] }
  go1 : D.o1.guard = none
  god : D.od.guard = none
  dod : D.od.dst = none
  hg : tb.fn.get D.g = some D.gf
  hgb : D.gf.body = some (.seq (.region D.id3 #[D.orc] false) D.c3)
  horc : D.orc.op = .call { callee := .builtin .recover, args := #[], argTypes := #[] }
  dorc : D.orc.dst = some D.t
  gorc : D.orc.guard = none
  ht : D.t < D.gf.ntmps
  hres : D.gf.results = #[]
  hng : (D.gf.name == "runtime.NumGoroutine") = false

/-- The deferred closure runs; what it recovers is 'rv'. -/
noncomputable def recF (tb : Tab) (D : DefF) (n : Nat) (cap : List Value) (rv : Value) (A : Mem) : R Mem :=
  bif Nat.ble cap.length D.gf.ntmps then
    (exec tb n D.c3 { t := (T.puts .e 0 cap).set D.t rv, n := D.gf.ntmps, d := [], m := A, ro := none }).bind fun (e, s) =>
    match e with
    | .pan _ => .no 710
    | .exit _ => .no 711
    | _ => takeF s.d s.m
  else .no 712

noncomputable def deferHook (tb : Tab) (D : DefF) (n : Nat) : List Value → Mem → R (Value × Mem) := fun args A =>
  bif Nat.ble args.length D.fn.ntmps then
    (exec tb n D.c0 { t := T.puts .e 0 args, n := D.fn.ntmps, d := [], m := A, ro := none }).bind fun (e0, s0) =>
    match e0 with
    | .nrm => (opF tb (exec tb n) D.o1 s0 fun s => .ok (.nrm, s)).bind fun (e1, s1) =>
      match e1, s1.d, s1.t.get D.x with
      | .nrm, [], some (.func (.func g') first cap) => bif Nat.beq g' D.g then
          (exec tb n D.c2 s1).bind fun (e2, s2) =>
          (match e2 with
            | .pan v => match s2.d with
              | [] => R.ok (v, s2.m)
              | _ => .no 701
            | .exit _ => .no 702
            | _ => (takeF s2.d s2.m).bind fun A1 => .ok (.nilIface, A1)).bind fun (rv, A1) =>
          (recF tb D n (first.toList ++ cap.toList) rv A1).bind fun A2 =>
          (resF tb s2.t A2.get D.fn.results.toList).bind fun vs => .ok (oneOf vs, A2)
        else .no 703
      | _, _, _ => .no 704
    | _ => .no 705
  else .no 706

theorem enter_atR_kind {P : Program} {f : FuncId} {fn : Func} {c : Code} (hf : P.funcs[f]? = some fn) (hb : fn.body = some c) (args : Array Value) (kd : CallKind) :
    Frame.enter P f args kd = (Frame.enter P f args kd).atR ⟨args ++ Array.replicate (fn.ntmps - args.size) undef, []⟩ [.code c] := by
  simp [Frame.enter, Frame.atR, hf, hb]

section steps
variable {P : Program} {b : Frame} {a : Act} {k : List Item} {cs : List Frame} {w w' : World} {ops : Array Oper} {i : Nat} {rest : List Nat} {o : Oper}

theorem stepR_op_defer {d : Deferred} (hr0 : b.roundOf = none) (ho : ops[i]? = some o) (hw : Region.wanted o (yielded ops a.tmps) = true) (hr : (execOp a.eval o).run P w = .ok (.defer d) w') (hd : o.dst = none) :
    step P (lone (b.atR a (.inRegion ops (i :: rest) :: k)) cs w) = .next (lone (b.atR { a with defers := d :: a.defers } (.inRegion ops rest :: k)) cs w') := by
  have hg := stepGR_op (P := P) (b := b) (k := k) (cs := cs) (w := w) (rest := rest) ho hw
  rw [hr0, Oper.semAt_none] at hg
  have hfin : ({ b.atR a (.inRegion ops (i :: rest) :: k) with defers := d :: a.defers } : Frame).finish undef = b.atR { a with defers := d :: a.defers } (.inRegion ops rest :: k) := by
    have := Frame.finish_atR b { a with defers := d :: a.defers } ops i rest k undef
    rw [ho] at this
    simp only [Option.bind_some, hd, Act.put] at this
    exact this
  refine step_lone_go ?_
  rw [hg]
  simp [stepG.apply, hr]
  exact hfin

theorem stepR_op_recover_no (hr0 : b.roundOf = none) (ho : ops[i]? = some o) (hw : Region.wanted o (yielded ops a.tmps) = true) (hr : (execOp a.eval o).run P w = .ok .recover w') (ht : tryRecover (b.atR a (.inRegion ops (i :: rest) :: k)) cs = none) :
    step P (lone (b.atR a (.inRegion ops (i :: rest) :: k)) cs w) = .next (lone (b.atR (a.put o.dst .nilIface) (.inRegion ops rest :: k)) cs w') := by
  have hg := stepGR_op (P := P) (b := b) (k := k) (cs := cs) (w := w) (rest := rest) ho hw
  rw [hr0, Oper.semAt_none] at hg
  have hfin : ∀ v, (b.atR a (.inRegion ops (i :: rest) :: k)).finish v = b.atR (a.put o.dst v) (.inRegion ops rest :: k) := by
    intro v; rw [Frame.finish_atR, ho]; rfl
  have hro : (b.atR a (.inRegion ops (i :: rest) :: k)).roundOf = none := hr0
  refine step_lone_go ?_
  rw [hg]
  simp [stepG.apply, hr, hro, ht, hfin]

theorem stepR_op_recover_yes {v : Value} {cs' : List Frame} (hr0 : b.roundOf = none) (ho : ops[i]? = some o) (hw : Region.wanted o (yielded ops a.tmps) = true) (hr : (execOp a.eval o).run P w = .ok .recover w') (ht : tryRecover (b.atR a (.inRegion ops (i :: rest) :: k)) cs = some (v, cs')) :
    step P (lone (b.atR a (.inRegion ops (i :: rest) :: k)) cs w) = .next (lone (b.atR (a.put o.dst v) (.inRegion ops rest :: k)) cs' w') := by
  have hg := stepGR_op (P := P) (b := b) (k := k) (cs := cs) (w := w) (rest := rest) ho hw
  rw [hr0, Oper.semAt_none] at hg
  have hfin : ∀ v, (b.atR a (.inRegion ops (i :: rest) :: k)).finish v = b.atR (a.put o.dst v) (.inRegion ops rest :: k) := by
    intro v; rw [Frame.finish_atR, ho]; rfl
  have hro : (b.atR a (.inRegion ops (i :: rest) :: k)).roundOf = none := hr0
  refine step_lone_go ?_
  rw [hg]
  simp [stepG.apply, hr, hro, ht, hfin]

/-- A deferred call begins. -/
theorem step_callDeferred {fr : Frame} {d : Deferred} {ds : List Deferred} {g : FuncId} {args : Array Value} (hd : fr.defers = d :: ds) (hmode : fr.mode = .returning ∨ ∃ ch, fr.mode = .panicking ch)
    (ht : ∃ t c, d.target = .fn t c) (hr : (invoke d.target d.args).run P w = .ok (.enter g args) w') :
    step P (lone fr cs w) = .next (lone (Frame.enter P g args .deferred) ({ fr with defers := ds } :: cs) w') := by
  obtain ⟨t, c, ht⟩ := ht
  obtain ⟨tg, as⟩ := d
  simp only at ht hr
  subst ht
  refine step_lone_go ?_
  rcases hmode with hm | ⟨ch, hm⟩
  · simp [stepG, unwind, hm, hd, callDeferred, hr]
  · simp [stepG, unwind, hm, hd, callDeferred, hr]

/-- A deferred call has come to its end. -/
theorem step_deferred_end {fr c : Frame} {fn : Func} {v : Value} (hm : fr.mode = .returning) (hd : fr.defers = []) (hk : fr.kind = .deferred) (hf : P.funcs[fr.fn]? = some fn) (hr : (results fn fr.tmps).run P w = .ok v w) :
    (c.mode = .returning → step P (lone fr (c :: cs) w) = .next (lone c cs w)) ∧
    (∀ x, c.mode = .panicking [{ v := x, recovered := true }] → step P (lone fr (c :: cs) w) = .next (lone { c with mode := .returning } cs w)) := by
  refine ⟨fun hc => step_lone_go ?_, fun x hc => step_lone_go ?_⟩
  · simp [stepG, unwind, hm, hd, hf, hr, doReturn, hk, hc]
  · simp [stepG, unwind, hm, hd, hf, hr, doReturn, hk, hc]
end steps

/-- Where a function's own code ends: it returns. -/
theorem arr_returns {P : Program} {b : Frame} {a : Act} {e : Ex} {k : List Item} {cs : List Frame} {w : World} (hb : b.roundOf = none) (he : e = .nrm ∨ e = .ret) (ha : Arr e [] k) :
    ∃ todo, Steps P (lone (b.atR a k) cs w) (lone { b.atR ⟨a.tmps, a.defers⟩ todo with mode := .returning } cs w) := by
  rcases he with rfl | rfl
  · cases (show k = [] from ha)
    exact ⟨[], .one (stepR_end hb)⟩
  · obtain ⟨k2, rfl⟩ := ha
    exact ⟨_, .one (stepR_ret hb)⟩

variable {D : DefF} (hD : DefOk tb D)
include ok hD in
theorem recF_sound {n : Nat} {cap : List Value} {rv : Value} {A A2 : Mem} (h : recF tb D n cap rv A = .ok A2) :
    A.next ≤ A2.next ∧ ∀ (ι : Inj) (w : World) (cap' : Array Value) (rv' : Value) (fr : Frame) (cs : List Frame), Rel ι A w → VRs ι cap cap'.toList → VR ι rv rv' → Free ι A A2 →
      (fr.mode = .returning ∧ rv' = .nilIface ∨ fr.mode = .panicking [{ v := rv', recovered := false }]) →
      ∃ ι' w', Steps tb.P (lone (Frame.enter tb.P D.g cap' .deferred) (fr :: cs) w) (lone { fr with mode := .returning } cs w') ∧ Rel ι' A2 w' ∧ Stp ι A w ι' A2 w' := by
  have hg' := ok.fn _ _ hD.hg
  unfold recF at h
  cases hnb : Nat.ble cap.length D.gf.ntmps with
  | false => rw [hnb] at h; cases h
  | true =>
  rw [hnb, cond_true] at h
  have hn := Nat.le_of_ble_eq_true hnb
  obtain ⟨⟨e, s1⟩, h1, h2⟩ := R.bind_ok h
  have he : (e = .nrm ∨ e = .ret) ∧ takeF s1.d s1.m = .ok A2 := by
    cases e with
    | pan _ => cases h2
    | exit _ => cases h2
    | nrm => exact ⟨.inl rfl, h2⟩
    | ret => exact ⟨.inr rfl, h2⟩
  obtain ⟨he, h4⟩ := he
  have hnx := takeF_next h4
  rcases exec_sound ok n _ _ _ _ h1 with ⟨v, rfl, _⟩ | ⟨hle, hc⟩
  · rcases he with he | he <;> cases he
  refine ⟨by rw [hnx]; exact hle, fun ι w cap' rv' fr cs hr ha hrv hfree hmode => ?_⟩
  have hfree' : Free ι A s1.m := fun b h1 h2 => hfree b h1 (by rw [hnx]; exact h2)
  have hent := enter_atR_kind hg' hD.hgb cap' .deferred
  have hro : (Frame.enter tb.P D.g cap' .deferred).roundOf = none := rfl
  have hkd : (Frame.enter tb.P D.g cap' .deferred).kind = .deferred := rfl
  have hdf : (Frame.enter tb.P D.g cap' .deferred).defers = [] := rfl
  have hfn : (Frame.enter tb.P D.g cap' .deferred).fn = D.g := rfl
  generalize Frame.enter tb.P D.g cap' .deferred = b at hent hro hkd hdf hfn
  let a0 : Act := ⟨cap' ++ Array.replicate (D.gf.ntmps - cap'.size) undef, []⟩
  have hops : (#[D.orc] : Array Oper)[0]? = some D.orc := rfl
  have hwant : ∀ y, Region.wanted D.orc y = true := fun y => by unfold Region.wanted; rw [hD.gorc]
  have hrun : (execOp a0.eval D.orc).run tb.P w = .ok .recover w := by
    simp only [execOp, hD.horc, resolve, Sem.run_bind, Sem.run_pure, Result.andThen_ok, invoke, builtin]
  have s0 : Steps tb.P (lone b (fr :: cs) w) (lone (b.atR a0 (.inRegion #[D.orc] [0] :: [.code D.c3])) (fr :: cs) w) := by
    rw [hent]
    refine .head stepR_seq (.head stepR_region ?_)
    exact .refl _ _
  obtain ⟨fr1, s1', hfr1⟩ : ∃ fr1, Steps tb.P (lone (b.atR a0 (.inRegion #[D.orc] [0] :: [.code D.c3])) (fr :: cs) w) (lone (b.atR (a0.put D.orc.dst rv') [.code D.c3]) (fr1 :: cs) w) ∧
      (fr.mode = .returning ∧ fr1 = fr ∨ fr1 = { fr with mode := .panicking [{ v := rv', recovered := true }] }) := by
    rcases hmode with ⟨hm, rfl⟩ | hm
    · refine ⟨fr, .head (stepR_op_recover_no hro hops (hwant _) hrun ?_) (.one stepR_region_end), .inl ⟨hm, rfl⟩⟩
      simp [tryRecover, Frame.atR, hkd, hm]
    · refine ⟨_, .head (stepR_op_recover_yes hro hops (hwant _) hrun ?_) (.one stepR_region_end), .inr rfl⟩
      simp [tryRecover, Frame.atR, hkd, hm]
  have hs0 : SR ι { t := (T.puts .e 0 cap).set D.t rv, n := D.gf.ntmps, d := [], m := A, ro := none } b (a0.put D.orc.dst rv') w := by
    refine ⟨hr, ?_, hro, ?_⟩
    · rw [hD.dorc]
      exact (TR.args ha hn).set hD.ht hrv
    · rw [hD.dorc]
      exact hdf.symm
  obtain ⟨ι1, w1, a1, k1, st1, ha1, hs1, hss1⟩ := hc ι b _ [] (fr1 :: cs) w hs0 hfree'
  obtain ⟨todo, st2⟩ := arr_returns (P := tb.P) (a := a1) (cs := fr1 :: cs) (w := w1) hro he ha1
  obtain ⟨w2, st3, hrel2, hst2⟩ := take_steps tb.P (b := b) (t := a1.tmps) (todo := todo) (cs := fr1 :: cs) h4 hs1.dr hs1.rel
  obtain ⟨vr, hres, -⟩ := results_sound ok hrel2 hs1.tr (fn := D.gf) (vs := []) (by rw [hD.hres]; rfl)
  obtain ⟨e1, e2⟩ := step_deferred_end (P := tb.P) (cs := cs) (w := w2) (fr := { b.atR ⟨a1.tmps, b.defers⟩ todo with mode := .returning }) (c := fr1) (fn := D.gf) rfl hdf hkd (by show tb.P.funcs[b.fn]? = _; rw [hfn]; exact hg') hres
  refine ⟨ι1, w2, (((s0.trans s1').trans st1).trans st2).trans (st3.trans ?_), hrel2, hss1.stp.trans hst2⟩
  rcases hfr1 with ⟨hm, rfl⟩ | rfl
  · have : ({ fr1 with mode := .returning } : Frame) = fr1 := by rw [← hm]
    rw [this]
    exact .one (e1 hm)
  · exact .one (e2 rv' rfl)

include ok hD in
theorem defer_ok (n : Nat) : HookOk tb.P D.f (deferHook tb D n) := by
  intro args A v A' h
  have hf' := ok.fn _ _ hD.hf
  have hg' := ok.fn _ _ hD.hg
  have hih := exec_sound ok n
  unfold deferHook at h
  cases hnb : Nat.ble args.length D.fn.ntmps with
  | false => rw [hnb] at h; cases h
  | true =>
  rw [hnb, cond_true] at h
  have hn := Nat.le_of_ble_eq_true hnb
  obtain ⟨⟨e0, s0⟩, h0, h⟩ := R.bind_ok h
  cases e0 with
  | exit _ => cases h
  | ret => cases h
  | pan _ => cases h
  | nrm =>
  obtain ⟨⟨e1, s1⟩, h1, h⟩ := R.bind_ok h
  simp only at h
  split at h
  case h_2 => cases h
  rename_i g' first cap hd1 hx
  cases hgg : Nat.beq g' D.g with
  | false => rw [hgg] at h; cases h
  | true =>
  rw [hgg, cond_true] at h
  obtain rfl := Nat.eq_of_beq_eq_true hgg
  obtain ⟨⟨e2, s2⟩, h2, h⟩ := R.bind_ok h
  obtain ⟨⟨rv, A1⟩, h3, h⟩ := R.bind_ok h
  obtain ⟨A2, h4, h⟩ := R.bind_ok h
  obtain ⟨vs, h5, h⟩ := R.bind_ok h
  simp only [R.ok.injEq, Prod.mk.injEq] at h
  obtain ⟨rfl, rfl⟩ := h
  -- the three pieces of code
  rcases hih _ _ _ _ h0 with ⟨v, he, _⟩ | ⟨hle0, c0⟩
  · cases he
  rcases opF_sound ok (callSnd ok hih) (ops := #[D.o1, D.od]) (i := 0) h1 with ⟨v, s, he, _⟩ | ⟨s, he, hle1, c1⟩
  · cases he
  cases he
  have hnA2 : A1.next ≤ A2.next := (recF_sound ok hD h4).1
  have hrec := (recF_sound ok hD h4).2
  have hle2 : s1.m.next ≤ A1.next ∧ A1.next = s2.m.next := by
    rcases hih _ _ _ _ h2 with ⟨v, rfl, hp⟩ | hc
    · simp only at h3
      split at h3
      · simp only [R.ok.injEq, Prod.mk.injEq] at h3
        rw [← h3.2]; exact ⟨hp.1, rfl⟩
      · cases h3
    · cases e2 with
      | pan v =>
        simp only at h3
        split at h3
        · simp only [R.ok.injEq, Prod.mk.injEq] at h3
          rw [← h3.2]; exact ⟨hc.1, rfl⟩
        · cases h3
      | exit _ => cases h3
      | nrm =>
        obtain ⟨A3, h6, h7⟩ := R.bind_ok h3
        simp only [R.ok.injEq, Prod.mk.injEq] at h7
        rw [← h7.2, takeF_next h6]; exact ⟨hc.1, rfl⟩
      | ret =>
        obtain ⟨A3, h6, h7⟩ := R.bind_ok h3
        simp only [R.ok.injEq, Prod.mk.injEq] at h7
        rw [← h7.2, takeF_next h6]; exact ⟨hc.1, rfl⟩
  have hn0 : A.next ≤ s0.m.next := hle0
  refine ⟨by omega, fun ι w args' hr ha hfree fr0 cs0 => ?_⟩
  have hent := enter_atR_kind hf' hD.hb args' .normal
  have hro : (Frame.enter tb.P D.f args' .normal).roundOf = none := rfl
  have hkd : (Frame.enter tb.P D.f args' .normal).kind = .normal := rfl
  have hdf : (Frame.enter tb.P D.f args' .normal).defers = [] := rfl
  have hfn : (Frame.enter tb.P D.f args' .normal).fn = D.f := rfl
  generalize Frame.enter tb.P D.f args' .normal = b at hent hro hkd hdf hfn
  -- the cells
  have hs : SR ι { t := T.puts .e 0 args, n := D.fn.ntmps, d := [], m := A, ro := none } b ⟨args' ++ Array.replicate (D.fn.ntmps - args'.size) undef, []⟩ w :=
    ⟨hr, TR.args ha hn, hro, hdf.symm⟩
  obtain ⟨ι0, w0, a0, k0, st0, ha0, hs0, hss0⟩ := c0 ι b _ [.code (.seq (.region D.id1 #[D.o1, D.od] false) D.c2)] (fr0 :: cs0) w hs (fun x h1 h2 => hfree x h1 (by omega))
  cases (show k0 = _ from ha0)
  have st0' : Steps tb.P (lone b (fr0 :: cs0) w) (lone (b.atR a0 (.inRegion #[D.o1, D.od] [0, 1] :: [.code D.c2])) (fr0 :: cs0) w0) := by
    rw [hent]
    exact (Steps.head stepR_seq st0).trans (.head stepR_seq (.one stepR_region))
  -- the closure
  have hw1 : ∀ y, Region.wanted D.o1 y = true := fun y => by unfold Region.wanted; rw [hD.go1]
  have hw2 : ∀ y, Region.wanted D.od y = true := fun y => by unfold Region.wanted; rw [hD.god]
  have hF0 : Free ι0 s0.m s1.m := Free.right (fun x h1 h2 => hfree x h1 (by have : A1.next = s2.m.next := hle2.2; omega)) hss0.stp
  obtain ⟨ι1, w1, a1, st1, hs1, hss1⟩ := c1 ι0 b a0 [.code D.c2] (fr0 :: cs0) w0 [1] hs0 hF0 (hw1 _) rfl
  obtain ⟨v', hv1, hv2⟩ := hs1.tr.2 _ _ hx
  cases hv2 with
  | func _ hfirst hcap =>
  rename_i first' cap' hny
  have hev : a1.eval (.tmp D.x) = .func (.func D.g) first' cap' := by
    simp only [Act.eval, Array.getD_eq_getD_getElem?, hv1, Option.getD_some]
  obtain ⟨dt, hdt1, hdt2⟩ : ∃ dt : Deferred, (execOp a1.eval D.od).run tb.P w1 = .ok (.defer dt) w1 ∧ (∃ t c, dt.target = .fn t c) ∧ ∀ u : World, (invoke dt.target dt.args).run tb.P u = .ok (.enter D.g (first' ++ cap')) u := by
    refine ⟨{ target := .fn (.func D.g) cap', args := first' ++ #[] }, ?_, ⟨_, _, rfl⟩, fun u => ?_⟩
    · have e0 : (#[] : Array Operand).map a1.eval = #[] := by simp
      simp only [execOp, hD.hod, resolve, hev, Deferred.ofValue, Sem.run_bind, Sem.run_pure, Result.andThen_ok, e0]
    · simp only [invoke, callFunc, Sem.run_bind, run_program, Result.andThen_ok, hg', hD.hng, hD.hgb, Option.isNone_some, Bool.false_eq_true, if_false, Sem.run_pure, Array.append_empty]
  have hd0 : a1.defers = [] := by
    have := hs1.dr
    rw [hd1, hdf] at this
    exact this
  let a2 : Act := { a1 with defers := dt :: a1.defers }
  let b2 : Frame := { b with defers := [dt] }
  have st2 : Steps tb.P (lone (b.atR a1 (.inRegion #[D.o1, D.od] [1] :: [.code D.c2])) (fr0 :: cs0) w1) (lone (b2.atR a2 [.code D.c2]) (fr0 :: cs0) w1) :=
    .head (stepR_op_defer hro rfl (hw2 _) hdt1 hD.dod) (.one stepR_region_end)
  have hsb : SR ι1 s1 b2 a2 w1 := ⟨hs1.rel, hs1.tr, hs1.ro, by
    rw [hd1]
    show dt :: a1.defers = [dt]
    rw [hd0]⟩
  have hStp1 : Stp ι A w ι1 s1.m w1 := hss0.stp.trans hss1.stp
  have hF1 : Free ι1 s1.m s2.m := Free.right (fun x h1 h2 => hfree x h1 (by have : A1.next = s2.m.next := hle2.2; omega)) hStp1
  have hpre := (st0'.trans st1).trans st2
  -- what comes when the frame unwinds
  have tail : ∀ (ι2 : Inj) (w2 : World) (a3 : Act) (k3 : List Item) (md : FrameMode) (rv' : Value), Rel ι2 A1 w2 → TR ι2 s2.n s2.t a3.tmps → Stp ι1 s1.m w1 ι2 A1 w2 → InjLe ι1 ι2 → VR ι2 rv rv' →
      (md = .returning ∧ rv' = .nilIface ∨ md = .panicking [{ v := rv', recovered := false }]) →
      ∃ ι' w' v', Steps tb.P (lone { b2.atR { a3 with defers := [dt] } k3 with mode := md } (fr0 :: cs0) w2) (lone (fr0.finish v') cs0 w') ∧ VR ι' (oneOf vs) v' ∧ Rel ι' A2 w' ∧ Stp ι A w ι' A2 w' := by
    intro ι2 w2 a3 k3 md rv' hrel htr hst hle hrv hmd
    have hStp2 : Stp ι A w ι2 A1 w2 := hStp1.trans hst
    have hF2 : Free ι2 A1 A2 := Free.right hfree hStp2
    have hcaps : VRs ι2 (first.toList ++ cap.toList) (first' ++ cap').toList := by
      have h1 := VRs.mono hle hfirst
      have h2 := VRs.mono hle hcap
      rw [Array.toList_append]
      generalize first.toList = l1 at h1
      generalize first'.toList = l2 at h1
      clear hfirst
      induction l1 generalizing l2 with
      | nil => cases h1; exact h2
      | cons x l1 ih =>
        cases h1 with
        | cons hx hl => exact .cons hx (ih _ hl)
    obtain ⟨ι3, w3, st3, hrel3, hst3⟩ := hrec ι2 w2 (first' ++ cap') rv' { b2.atR { a3 with defers := [] } k3 with mode := md } (fr0 :: cs0) hrel hcaps hrv hF2 hmd
    have stc : step tb.P (lone { b2.atR { a3 with defers := [dt] } k3 with mode := md } (fr0 :: cs0) w2) = .next (lone (Frame.enter tb.P D.g (first' ++ cap') .deferred) ({ b2.atR { a3 with defers := [] } k3 with mode := md } :: fr0 :: cs0) w2) :=
      step_callDeferred rfl (by
        rcases hmd with ⟨rfl, _⟩ | rfl
        · exact .inl rfl
        · exact .inr ⟨_, rfl⟩) hdt2.1 (hdt2.2 w2)
    have hle3 : InjLe ι2 ι3 := hst3.le hF2
    obtain ⟨v', e1, hv⟩ := results_sound ok hrel3 (htr.mono hle3) (fn := D.fn) h5
    have hlv : Frame.leaving tb.P { b2.atR { a3 with defers := [] } k3 with mode := .returning } w3 (.returned v') := ⟨rfl, rfl, hkd, D.fn, by show tb.P.funcs[b.fn]? = _; rw [hfn]; exact hf', e1⟩
    exact ⟨ι3, w3, v', .head stc (st3.trans (.one (step_leave_returned hlv))), hv, hrel3, hStp2.trans hst3⟩
  rcases hih _ _ _ _ h2 with ⟨v, rfl, hle, hp⟩ | ⟨hle, hc⟩
  · simp only at h3
    split at h3
    case h_2 => cases h3
    rename_i hd2
    simp only [R.ok.injEq, Prod.mk.injEq] at h3
    obtain ⟨rfl, rfl⟩ := h3
    obtain ⟨ι2, w2, a3, k3, v3, st3, hv3, hs3, hss3⟩ := hp ι1 b2 a2 [] (fr0 :: cs0) w1 hsb hF1
    have hd3 : a3.defers = [dt] := by
      have := hs3.dr
      rw [hd2] at this
      exact this
    obtain ⟨ι', w', v', st4, r1, r2, r3⟩ := tail ι2 w2 a3 k3 _ v3 hs3.rel hs3.tr hss3.stp (hss3.stp.le hF1) hv3 (.inr rfl)
    have ea : ({ a3 with defers := [dt] } : Act) = a3 := by rw [← hd3]
    rw [ea] at st4
    exact ⟨ι', w', v', (hpre.trans st3).trans st4, r1, r2, r3⟩
  · have he : (e2 = .nrm ∨ e2 = .ret) ∧ takeF s2.d s2.m = .ok A1 ∧ rv = .nilIface := by
      cases e2 with
      | pan v =>
        obtain ⟨ι2, w2, a3, k3, _, ha, _⟩ := hc ι1 b2 a2 [] (fr0 :: cs0) w1 hsb hF1
        exact ha.elim
      | exit _ => cases h3
      | nrm =>
        obtain ⟨A3, h6, h7⟩ := R.bind_ok h3
        simp only [R.ok.injEq, Prod.mk.injEq] at h7
        exact ⟨.inl rfl, by rw [h6, h7.2], h7.1.symm⟩
      | ret =>
        obtain ⟨A3, h6, h7⟩ := R.bind_ok h3
        simp only [R.ok.injEq, Prod.mk.injEq] at h7
        exact ⟨.inr rfl, by rw [h6, h7.2], h7.1.symm⟩
    obtain ⟨he, h6, rfl⟩ := he
    obtain ⟨ι2, w2, a3, k3, st3, ha3, hs3, hss3⟩ := hc ι1 b2 a2 [] (fr0 :: cs0) w1 hsb hF1
    obtain ⟨todo, st4⟩ := arr_returns (P := tb.P) (b := b2) (a := a3) (cs := fr0 :: cs0) (w := w2) hro he ha3
    obtain ⟨w3, st5, hrel3, hst3⟩ := take_steps tb.P (b := b2) (t := a3.tmps) (todo := todo) (cs := fr0 :: cs0) h6 hs3.dr hs3.rel
    obtain ⟨ι', w', v', st6, r1, r2, r3⟩ := tail ι2 w3 a3 todo _ .nilIface hrel3 hs3.tr (hss3.stp.trans hst3) (hss3.stp.le hF1) .nilIface (.inl ⟨rfl, rfl⟩)
    exact ⟨ι', w', v', (((hpre.trans st3).trans st4).trans st5).trans st6, r1, r2, r3⟩

end Go.Am

/-
  The abstract machine AM, part 62: the same runs, told apart by one case distinction for each operation and each piece of code (for the kernel's sake).
-/
namespace Go.Am
abbrev OpK := Tab → (Code → St → R (Ex × St)) → Oper → St → (St → R (Ex × St)) → R (Ex × St)

/-! ### Short ways -/
noncomputable def bX {α β : Type} (x : R α) (f : α → R β) : R β := @R.rec α (fun _ => R β) f (fun w => .no w) x
theorem bX_eq {α β : Type} (x : R α) (f : α → R β) : bX x f = x.bind f := by cases x <;> rfl
noncomputable def evT {β : Type} (i : Tmp) (t : T Value) (k : Value → R β) : R β := @Option.rec Value (fun _ => R β) (.no 200) k (t.get i)
noncomputable def evC {β : Type} (v : Value) (_ : T Value) (k : Value → R β) : R β := @Bool.rec (fun _ => R β) (.no 199) (k v) (constOk 3 v)
noncomputable def evFn {β : Type} (f : FuncId) (_ : T Value) (k : Value → R β) : R β := k (.func (.func f) ⟨[]⟩ ⟨[]⟩)
noncomputable def evK {β : Type} (t : T Value) (x : Operand) (k : Value → R β) : R β :=
  @Operand.rec (fun _ => T Value → (Value → R β) → R β) evT evC (fun _ _ _ => .no 201) evFn x t k
theorem evK_eq {β : Type} (t : T Value) (x : Operand) (k : Value → R β) : evK t x k = (ev t x).bind k := by
  cases x with
  | tmp i =>
    show @Option.rec Value (fun _ => R β) (.no 200) k (t.get i) = R.bind (match t.get i with | some v => .ok v | none => .no 200) k
    cases t.get i <;> rfl
  | const v =>
    show @Bool.rec (fun _ => R β) (.no 199) (k v) (constOk 3 v) = R.bind (bif constOk 3 v then .ok v else .no 199) k
    cases constOk 3 v <;> rfl
  | func f => rfl
  | global g => rfl
noncomputable def putD (d : Tmp) (s : St) (v : Value) (k : St → R (Ex × St)) : R (Ex × St) :=
  @St.rec (fun _ => R (Ex × St)) (fun t n dd m ro => @Bool.rec (fun _ => R (Ex × St)) (.no 250) (k ⟨t.set d v, n, dd, m, ro⟩) (Nat.blt d n)) s
noncomputable def putM (s : St) (dst : Option Tmp) (v : Value) (k : St → R (Ex × St)) : R (Ex × St) :=
  @Option.rec Tmp (fun _ => St → Value → (St → R (Ex × St)) → R (Ex × St)) (fun s _ k => k s) putD dst s v k
theorem putM_eq (s : St) (dst : Option Tmp) (v : Value) (k : St → R (Ex × St)) : putM s dst v k = putT s dst v k := by
  cases dst with
  | none => rfl
  | some d =>
    obtain ⟨t, n, dd, m, ro⟩ := s
    show @Bool.rec (fun _ => R (Ex × St)) (.no 250) (k ⟨t.set d v, n, dd, m, ro⟩) (Nat.blt d n) = (bif Nat.blt d n then fVal v fun v => k ⟨t.set d v, n, dd, m, ro⟩ else .no 250)
    rw [fVal_eq]
    cases Nat.blt d n <;> rfl
noncomputable def putX (s : St) (dst : Option Tmp) (v : Value) (k : St → R (Ex × St)) : R (Ex × St) := fVal v fun v => putM s dst v k
theorem putX_eq (s : St) (dst : Option Tmp) (v : Value) (k : St → R (Ex × St)) : putX s dst v k = putT s dst v k := by
  unfold putX; rw [fVal_eq, putM_eq]

noncomputable def xSlow : OpK := fun tb ih o s k => opF tb ih o s k
noncomputable def xMove (x : Operand) : OpK := fun _ _ o s k => evK s.t x fun v => putM s o.dst v k
noncomputable def xPick (c a b : Operand) : OpK := fun _ _ o s k => evK s.t c fun c => bX (pickF s.t c a b) fun v => putX s o.dst v k
noncomputable def xAlloc (t : TypeId) : OpK := fun tb _ o s k => bX (zeroF tb t) fun z => putX { s with m := s.m.alloc (rowOb t z.cells.toList) } o.dst (Way.ptr.at s.m.next) k
noncomputable def xBox (t : TypeId) (x : Operand) : OpK := fun _ _ o s k => evK s.t x fun v => putX { s with m := s.m.alloc (rowOb t v.cells.toList) } o.dst (Way.ptr.at s.m.next) k
noncomputable def ldF (tb : Tab) (s : St) (t : TypeId) (x : Operand) : R Value :=
  match x with
  | .global k => (globF s.m.get k).bind fun x => loadF tb s.m.get t x
  | x => evK s.t x fun x => loadF tb s.m.get t x
noncomputable def xLoad (t : TypeId) (x : Operand) : OpK := fun tb _ o s k => bX (ldF tb s t x) fun v => putX s o.dst v k
noncomputable def xStore (t : TypeId) (x v : Operand) : OpK := fun tb _ o s k => evK s.t x fun x => evK s.t v fun v => bX (storeF tb s.m t x v) fun A => putM { s with m := A } o.dst unitV k
def xNilF (x : Value) : R Value :=
  match x with
  | .pointer (some a) => .ok (.pointer (some a))
  | .iface a b => .ok (.iface a b)
  | .map a => .ok (.map a)
  | .func (.func f) a b => .ok (.func (.func f) a b)
  | .func (.yield f) a b => .ok (.func (.yield f) a b)
  | _ => .no 213
noncomputable def xNil (x : Operand) : OpK := fun _ _ o s k => evK s.t x fun x => bX (xNilF x) fun v => putM s o.dst v k
noncomputable def xBin (op : BinOp) (t : TypeId) (x y : Operand) : OpK := fun tb ih o s k =>
  @Bool.rec (fun _ => R (Ex × St)) (opF tb ih o s k) (evK s.t x fun a => evK s.t y fun b => bX (binF op (tb.und t) a b) fun v => putX s o.dst v k) (isArith op)
noncomputable def xFieldAddr (t : TypeId) (x : Operand) (i : Nat) : OpK := fun tb _ o s k => evK s.t x fun a => bX (fieldAddrF tb t a i) fun v => putX s o.dst v k
noncomputable def xField (t : TypeId) (x : Operand) (i : Nat) : OpK := fun tb _ o s k => evK s.t x fun a => bX (fieldF tb t a i) fun v => putX s o.dst v k
noncomputable def ixF (tb : Tab) (s : St) (t : TypeId) (x y : Operand) : R Value :=
  match x with
  | .global k => (globF s.m.get k).bind fun x => (ev s.t y).bind fun i => indexAddrF tb t x i
  | x => evK s.t x fun x => evK s.t y fun i => indexAddrF tb t x i
noncomputable def xIndexAddr (t : TypeId) (x y : Operand) : OpK := fun tb _ o s k => bX (ixF tb s t x y) fun v => putX s o.dst v k
noncomputable def xIndex (t : TypeId) (x y : Operand) : OpK := fun tb _ o s k => evK s.t x fun a => evK s.t y fun b => bX (indexF tb t a b) fun v => putX s o.dst v k
noncomputable def xExtract (x : Operand) (i : Nat) : OpK := fun _ _ o s k => evK s.t x fun a => bX (extractF a i) fun v => putX s o.dst v k
noncomputable def xUn (op : UnOp) (x : Operand) : OpK := fun _ _ o s k => evK s.t x fun a => bX (unF op a) fun v => putX s o.dst v k
noncomputable def xBuild (t : TypeId) (ps : Array (Nat × Operand)) : OpK := fun tb _ o s k => bX (evp s.t ps.toList) fun ps => bX (buildF tb t ps) fun v => putX s o.dst v k
noncomputable def xCallK (o : Oper) (s : St) (k : St → R (Ex × St)) (r : Res) : R (Ex × St) :=
  match r with
  | .val v A => putX { s with m := A } o.dst v k
  | .pan v A => .ok (.pan v, { s with m := A })
def isBuiltin : Callee → Bool
  | .builtin _ => true
  | _ => false
noncomputable def xCall (c : Call) : OpK := fun tb ih o s k =>
  bif isBuiltin c.callee then opF tb ih o s k else bX (clOf tb s.t s.m.get c) fun cl => bX (callF tb ih cl s.m) fun r => xCallK o s k r

noncomputable def opX (o : Op) : OpK :=
  @Op.rec (fun _ => OpK) xMove xMove xPick xAlloc xBox xBuild (fun _ _ _ => xSlow) (fun _ _ _ _ => xSlow) xLoad xStore (fun _ => xSlow) (fun _ => xSlow) xNil (fun op t x y _ => xBin op t x y)
   (fun op _ x => xUn op x) (fun _ _ _ => xSlow) (fun _ _ => xSlow) (fun _ _ => xSlow) (fun _ _ _ => xSlow) (fun _ _ => xSlow) (fun _ _ => xSlow) (fun _ _ _ => xSlow) (fun _ _ _ _ _ => xSlow) xFieldAddr xField xIndexAddr xIndex (fun _ _ _ _ => xSlow) (fun _ _ _ _ => xSlow)
   (fun _ _ _ => xSlow) (fun _ _ _ _ => xSlow) (fun _ _ => xSlow) (fun _ _ => xSlow) (fun _ => xSlow) (fun _ _ _ _ => xSlow) xExtract xCall (fun _ => xSlow) (fun _ => xSlow) (fun _ => xSlow) (fun _ _ => xSlow) (fun _ _ _ => xSlow) (fun _ _ => xSlow) o

theorem opX_eq (tb : Tab) (ih : Code → St → R (Ex × St)) (o : Oper) (s : St) (k : St → R (Ex × St)) : opX o.op tb ih o s k = opF tb ih o s k := by
  obtain ⟨dst, op, ty, pos, after, g⟩ := o
  cases op with
  | move x => show xMove x tb ih _ s k = _; unfold xMove; simp only [evK_eq, putM_eq]; rfl
  | assign x => show xMove x tb ih _ s k = _; unfold xMove; simp only [evK_eq, putM_eq]; rfl
  | pick c a b => rw [opF_pick]; show xPick c a b tb ih _ s k = _; unfold xPick; simp only [evK_eq, bX_eq, putX_eq]
  | alloc t => rw [opF_alloc]; show xAlloc t tb ih _ s k = _; unfold xAlloc; simp only [bX_eq, putX_eq]
  | box t x => rw [opF_box]; show xBox t x tb ih _ s k = _; unfold xBox; simp only [evK_eq, putX_eq]
  | build t ps => rw [opF_build]; show xBuild t ps tb ih _ s k = _; unfold xBuild; simp only [bX_eq, putX_eq]
  | load t x =>
    rw [opF_Rd _ _ _ _ _ _ _ rfl rfl]
    show xLoad t x tb ih _ s k = _; unfold xLoad ldF; simp only [evK_eq, bX_eq, putX_eq]
    cases x <;> rfl
  | store t x v => rw [opF_store]; show xStore t x v tb ih _ s k = _; unfold xStore; simp only [evK_eq, bX_eq, putM_eq]
  | nilCheck x =>
    rw [opF_P _ _ _ _ _ _ _ rfl rfl]
    show xNil x tb ih _ s k = _; unfold xNil; simp only [evK_eq, bX_eq, putM_eq, pOp, R.bind_bind]
    rfl
  | binOp op t x y r =>
    show xBin op t x y tb ih _ s k = _
    unfold xBin
    cases h : isArith op with
    | false => rfl
    | true => rw [opF_ari _ _ _ _ _ _ _ _ _ _ _ _ h]; simp only [evK_eq, bX_eq, putX_eq]
  | unOp op t x => rw [opF_un]; show xUn op x tb ih _ s k = _; unfold xUn; simp only [evK_eq, bX_eq, putX_eq]
  | fieldAddr t x i => rw [opF_fieldAddr]; show xFieldAddr t x i tb ih _ s k = _; unfold xFieldAddr; simp only [evK_eq, bX_eq, putX_eq]
  | field t x i => rw [opF_field]; show xField t x i tb ih _ s k = _; unfold xField; simp only [evK_eq, bX_eq, putX_eq]
  | indexAddr t x y =>
    show xIndexAddr t x y tb ih _ s k = _; unfold xIndexAddr ixF; simp only [evK_eq, bX_eq, putX_eq]
    cases x with
    | global n => rw [opF_Rd _ _ _ _ _ _ _ rfl rfl]; rfl
    | _ => rw [opF_P _ _ _ _ _ _ _ rfl rfl]; rfl
  | index t x y => rw [opF_index]; show xIndex t x y tb ih _ s k = _; unfold xIndex; simp only [evK_eq, bX_eq, putX_eq]
  | extract x i => rw [opF_extract]; show xExtract x i tb ih _ s k = _; unfold xExtract; simp only [evK_eq, bX_eq, putX_eq]
  | call c =>
    obtain ⟨callee, args, ts⟩ := c
    show xCall _ tb ih _ s k = _; unfold xCall xCallK; simp only [bX_eq, putX_eq]
    cases callee <;> rfl
  | _ => rfl

section
variable (tb : Tab) (ih : Code → St → R (Ex × St))
noncomputable def runX (ops : List Oper) (l : List Oper) : St → R (Ex × St) :=
  List.rec (motive := fun _ => St → R (Ex × St)) (fun s => .ok (.nrm, s))
    (fun o _ next s => @Option.rec (Nat × Bool) (fun _ => R (Ex × St)) (opX o.op tb ih o s next) (fun _ => (wantF ops o s.t).bind fun w => bif w then opX o.op tb ih o s next else putT s o.dst unitV next) o.guard) l
theorem runX_eq (ops : List Oper) : ∀ l, runX tb ih ops l = runOps tb ih ops l
  | [] => rfl
  | o :: l => by
    funext s
    show @Option.rec (Nat × Bool) (fun _ => R (Ex × St)) (opX o.op tb ih o s (runX tb ih ops l)) (fun _ => (wantF ops o s.t).bind fun w => bif w then opX o.op tb ih o s (runX tb ih ops l) else putT s o.dst unitV (runX tb ih ops l)) o.guard = _
    rw [runX_eq ops l, opX_eq]
    show _ = (wantF ops o s.t).bind fun w => bif w then opF tb ih o s (runOps tb ih ops l) else putT s o.dst unitV (runOps tb ih ops l)
    cases hg : o.guard with
    | none => unfold wantF; rw [hg]; rfl
    | some g => rfl
end
noncomputable def regionX (tb : Tab) (ih : Code → St → R (Ex × St)) (ops : List Oper) (draw : Bool) (s : St) : R (Ex × St) :=
  bif draw then regionF tb ih ops true s else runX tb ih ops ops s
theorem regionX_eq (tb : Tab) (ih : Code → St → R (Ex × St)) (ops : List Oper) (draw : Bool) (s : St) : regionX tb ih ops draw s = regionF tb ih ops draw s := by
  cases draw with
  | true => rfl
  | false => show runX tb ih ops ops s = _; rw [runX_eq]; rfl

abbrev CoK := Tab → (Code → St → R (Ex × St)) → St → R (Ex × St)
def xSeqK (ih : Code → St → R (Ex × St)) (b : Code) (p : Ex × St) : R (Ex × St) :=
  match p.1 with
  | .nrm => ih b p.2
  | e => .ok (e, p.2)
def xCondK (ih : Code → St → R (Ex × St)) (a b : Code) (s : St) (v : Value) : R (Ex × St) :=
  match v with
  | .bool true => ih a s
  | .bool false => ih b s
  | _ => .no 330
def xBlockK (id : Nat) (p : Ex × St) : R (Ex × St) :=
  match p.1 with
  | .exit i => bif Nat.beq i id then .ok (.nrm, p.2) else .ok (.exit i, p.2)
  | e => .ok (e, p.2)
noncomputable def xSeq (a b : Code) : CoK := fun _ ih s => bX (ih a s) (xSeqK ih b)
noncomputable def xCond (c : Operand) (a b : Code) : CoK := fun _ ih s => evK s.t c (xCondK ih a b s)
noncomputable def xBlock (id : Nat) (c : Code) : CoK := fun _ ih s => bX (ih c s) (xBlockK id)
noncomputable def xLoop (c : Code) : CoK := fun _ ih s => bX (ih c s) (xSeqK ih (.loop c))
noncomputable def xRegion (ops : Array Oper) (draw : Bool) : CoK := fun tb ih s => regionX tb ih ops.toList draw s
noncomputable def xOk (e : Ex) : CoK := fun _ _ s => .ok (e, s)
noncomputable def xRangeFunc (f : Operand) (ps : Array Tmp) (a b : Code) : CoK := fun tb ih s => rangeFuncF tb ih f ps.toList a b 0 s
noncomputable def stepX (c : Code) : CoK :=
  @Code.rec (fun _ => CoK) (xOk .nrm) (fun _ ops draw => xRegion ops draw) (fun a b _ _ => xSeq a b) (fun c a b _ _ => xCond c a b) (fun id c _ => xBlock id c) (fun c _ => xLoop c) (fun f ps a b _ _ => xRangeFunc f ps a b)
    (fun id => xOk (.exit id)) (fun c _ _ ih s => ih c s) (fun _ => xOk .nrm) (fun _ _ _ _ => .no 331) (xOk .ret) (fun _ _ _ _ => .no 332) c
theorem stepX_eq (tb : Tab) (ih : Code → St → R (Ex × St)) (c : Code) (s : St) : stepX c tb ih s = stepC tb ih c s := by
  cases c with
  | region id ops draw => exact regionX_eq ..
  | seq a b => exact bX_eq ..
  | cond c a b => exact evK_eq ..
  | block id c => exact bX_eq ..
  | loop c => exact bX_eq ..
  | _ => rfl

noncomputable def execX (tb : Tab) (n : Nat) : Code → St → R (Ex × St) :=
  Nat.rec (motive := fun _ => Code → St → R (Ex × St)) (fun _ _ => .no 0) (fun _ ih c s => stepX c tb ih s) n
theorem execX_eq (tb : Tab) : ∀ n, execX tb n = exec tb n
  | 0 => rfl
  | n + 1 => by
    funext c s
    show stepX c tb (execX tb n) s = stepC tb (exec tb n) c s
    rw [execX_eq tb n, stepX_eq]
noncomputable def callX (tb : Tab) (n : Nat) (f : FuncId) (args : List Value) (A : Mem) : R Res :=
  match tb.fn.get f with
  | none => .no 400
  | some fn => match fn.body with
    | none => .no 401
    | some c => bodyF tb (execX tb n) fn c args A
theorem callX_eq (tb : Tab) (n : Nat) (f : FuncId) (args : List Value) (A : Mem) : callX tb n f args A = call tb n f args A := by
  unfold callX call
  rw [execX_eq]
  rfl

/-- A function of no arguments that was seen to answer true: it does so wherever it is called, and leaves no trace. -/
def spTrue (args : List Value) : Option Value :=
  match args with
  | [] => some (.bool true)
  | _ => none
theorem know_true {tb : Tab} (ok : TabOk tb) {f : FuncId} {fn : Func} {c : Code} (hf : tb.fn.get f = some fn) (hb : fn.body = some c) {n : Nat} (h : isTrue (callX tb n f [] mem0) = true) : TabOk (tb.know f (pureHook spTrue)) := by
  refine know_ok ok (hook_pure ok hf hb fun args v hv => ?_)
  cases args with
  | cons x l => cases hv
  | nil =>
    cases hv
    refine ⟨fun x hx => (List.not_mem_nil hx).elim, rfl, n, ?_⟩
    rw [callX_eq] at h
    cases hr : call tb n f [] mem0 with
    | no _ => rw [hr] at h; cases h
    | ok r =>
      rw [hr] at h
      cases r with
      | pan v A => cases h
      | val v A =>
        cases v with
        | bool b => have hb' : b = true := h; subst hb'; exact ⟨A, rfl⟩
        | _ => cases h
end Go.Am

/-
  The abstract machine AM, part 63: a first memory in which package-level variables lie whose one cell is not looked at.
-/
namespace Go.Am

/-! ### What a condition on such a variable says of the world -/
theorem laid_mem {P : Program} {w : World} {n : String} {d : DataW Unit} : ∀ {l : List (String × DataW Unit)} {ps : List MemPlace}, DataW.LaidVars P w l ps → (n, d) ∈ l →
    ∃ g t cs fuel p, P.globalNamed n = some g ∧ (P.globals[g]?).map (·.type) = some t ∧ w.var? P n = some cs ∧ DataW.trod (fun _ => ()) P w 0 (fun _ => true) false fuel t cs.toList = some (d, p) ∧ ∀ x ∈ MemPlace.row ⟨g, 0, none⟩ cs.size, x ∈ ps
  | [], _, _, h => by cases h
  | (n', d') :: r, ps, hl, h => by
    obtain ⟨g, t, cs, fuel, p, q, h1, h2, h3, h4, h5, rfl⟩ := hl
    rcases List.mem_cons.1 h with e | h
    · cases e
      exact ⟨g, t, cs, fuel, p, h1, h2, h3, h4, fun x hx => List.mem_append_left _ (List.mem_append_left _ hx)⟩
    · obtain ⟨g', t', cs', fuel', p', k1, k2, k3, k4, k5⟩ := laid_mem h5 h
      exact ⟨g', t', cs', fuel', p', k1, k2, k3, k4, fun x hx => List.mem_append_right _ (k5 x hx)⟩

/-- A variable of one cell, not marked. -/
def OneAt (w : World) (g : Nat) : Prop := ∃ v t, w.heap[g]? = some (.cells #[v] t (0, 0)) ∧ oneCell v = true
theorem laid_iface {P : Program} {w : World} {l : List (String × DataW Unit)} (h : laidMet P l w) {n nm : String} {d : DataW Unit} (hx : (n, DataW.iface nm d) ∈ l) {g : Nat} {t : TypeId} {ms : Array (String × TypeId)} (hg : P.globalNamed n = some g)
    (ht : (P.globals[g]?).map (·.type) = some t) (hi : P.underlying t = some (.interface ms)) : OneAt w g := by
  obtain ⟨ps, hl, _, hrows⟩ := h
  obtain ⟨g', t', cs, fuel, p, h1, h2, h3, h4, h5⟩ := laid_mem hl hx
  rw [hg] at h1
  cases h1
  rw [ht] at h2
  cases h2
  obtain ⟨_, u, v, hcs, _, _⟩ := iface_of_trod hi h4
  have hc : cs = #[.iface u v] := by rw [← Array.toArray_toList (xs := cs), hcs]
  subst hc
  obtain ⟨⟨c, tt, e⟩, _⟩ := hrows g 0 (h5 _ (by simp [MemPlace.row]))
  unfold World.var? at h3
  rw [hg, Option.bind_some, e] at h3
  simp only [Option.some.injEq] at h3
  subst h3
  exact ⟨_, tt, e, rfl⟩

/-! ### The first memory -/
noncomputable def globOb (t : TypeId) (k : Nat) : Ob := .cells t .row (GB k) ((T.e : T Value).set 0 (.chan (some 0)))
noncomputable def globHeap (ts : Nat → TypeId) : List Nat → T Ob
  | [] => .e
  | k :: l => (globHeap ts l).set k (globOb (ts k) k)
noncomputable def globMem (ts : Nat → TypeId) (l : List Nat) (n : Nat) : Mem := ⟨globHeap ts l, n⟩
theorem globHeap_get (ts : Nat → TypeId) (b : Nat) : ∀ l, (globHeap ts l).get b = if b ∈ l then some (globOb (ts b) b) else none
  | [] => by simp [globHeap, T.get_e]
  | k :: l => by
    rw [globHeap, T.get_set, globHeap_get ts b l]
    by_cases h : b = k
    · subst h; simp
    · simp [h]
def globInj (l : List Nat) : Inj := fun b => if b ∈ l then some ⟨b, 0, 1⟩ else none
theorem globInj_some {l : List Nat} {b : Nat} {c : Loc} (h : globInj l b = some c) : b ∈ l ∧ c = ⟨b, 0, 1⟩ := by
  unfold globInj at h
  split at h
  · cases h; exact ⟨‹_›, rfl⟩
  · cases h
theorem glob_rel {w : World} {l : List Nat} {n : Nat} (hn : ∀ k ∈ l, k < n) {ts : Nat → TypeId} (h : ∀ k ∈ l, ∃ v, w.heap[k]? = some (.cells #[v] (ts k) (0, 0)) ∧ oneCell v = true) : Rel (globInj l) (globMem ts l n) w := by
  have hget : ∀ b, (globMem ts l n).get b = if b ∈ l then some (globOb (ts b) b) else none := fun b => globHeap_get ts b l
  refine ⟨fun b hb => ?_, fun b o c hb ha hc => ?_, fun b c hc => ?_, fun b b' c c' _ _ hc hc' he => ?_, fun b t k c hb => ?_⟩
  · rw [hget, if_neg]
    intro hx
    have h1 := hn b hx
    have h2 : n ≤ b := hb
    omega
  · obtain ⟨hb', rfl⟩ := globInj_some hc
    rw [hget, if_pos hb'] at hb
    cases hb
    obtain ⟨v, e, h1⟩ := h b hb'
    refine ⟨_, e, #[v], (0, 0), rfl, rfl, fun i x hx => ?_, Nat.zero_le _⟩
    rw [T.get_set] at hx
    split at hx
    · rename_i hi
      subst hi
      cases hx
      exact ⟨v, rfl, .unk h1⟩
    · rw [T.get_e] at hx; cases hx
  · obtain ⟨hb', rfl⟩ := globInj_some hc
    obtain ⟨v, e, _⟩ := h b hb'
    exact (Array.getElem?_eq_some_iff.1 e).1
  · obtain ⟨_, rfl⟩ := globInj_some hc
    obtain ⟨_, rfl⟩ := globInj_some hc'
    exact he
  · rw [hget] at hb
    split at hb
    · rename_i hb'
      simp only [globOb, Option.some.injEq, Ob.cells.injEq, GB] at hb
      have hk : k = b := by omega
      subst hk
      exact ⟨⟨k, 0, 1⟩, by unfold globInj; rw [if_pos hb'], rfl, rfl⟩
    · cases hb

variable {tb : Tab} (ok : TabOk tb)
include ok in
/-- A law without arguments that answers true over such a memory, whatever type the rows are marked with. -/
theorem glob_true {n N : Nat} {l : List Nat} (hn : ∀ k ∈ l, k < N) {f : FuncId} (h : ∀ ts, isTrue (call tb n f [] (globMem ts l N)) = true) {fn : Func} {c : Code} (hf : tb.fn.get f = some fn) (hb : fn.body = some c) (w : World) (hw : ∀ k ∈ l, OneAt w k) :
    Calls tb.P f #[] w fun e w' => e = .returned (.bool true) ∧ Leaves w w' := by
  intro cs
  let ts : Nat → TypeId := fun k => match w.heap[k]? with
    | some (.cells _ t _) => t
    | _ => 0
  have hrel : Rel (globInj l) (globMem ts l N) w := glob_rel hn fun k hk => by
    obtain ⟨v, t, e, h1⟩ := hw k hk
    have : ts k = t := by show (match w.heap[k]? with | some (.cells _ t _) => t | _ => 0) = t; rw [e]
    exact ⟨v, by rw [this]; exact e, h1⟩
  have h0 := h ts
  cases hr : call tb n f [] (globMem ts l N) with
  | no _ => rw [hr] at h0; cases h0
  | ok r =>
    rw [hr] at h0
    cases r with
    | pan v A => cases h0
    | val v A =>
      cases v with
      | bool b =>
        have hb' : b = true := h0
        subst hb'
        obtain ⟨e, w', fr, ⟨ι', v', he, hv, hl⟩, st⟩ := call_still ok hr hf hb #[] w hrel .nil (fun b hb => by
          unfold globInj
          rw [if_neg]
          intro hx
          have h1 := hn b hx
          have h2 : N ≤ b := hb
          omega) (fun b c _ hc => by
          obtain ⟨hb', rfl⟩ := globInj_some hc
          refine ⟨hn b hb', ts b, GB b, _, (globHeap_get ts b l).trans (if_pos hb'), by unfold GB; omega, by show 1 < GB b; unfold GB; omega⟩) cs
        cases hv
        exact ⟨e, w', fr, ⟨he, hl⟩, st⟩
      | _ => cases h0
end Go.Am

/-
  The abstract machine AM, part 61: code whose outcome is open (the order of a map's keys): one of several outcomes comes.
-/
namespace Go.Am
variable {tb : Tab} (ok : TabOk tb) {P : Program} {N : Nat}

/-- Nothing is known of blocks that are not there yet, up to a number. -/
def Top (N : Nat) (ι : Inj) (A : Mem) : Prop := ∀ x, A.next ≤ x → x < N → ι x = none
theorem Top.free {N : Nat} {ι : Inj} {A A' : Mem} (h : Top N ι A) (hn : A'.next ≤ N) : Free ι A A' := fun x h1 h2 => h x h1 (Nat.lt_of_lt_of_le h2 hn)
theorem Top.stp {N : Nat} {ι ι' : Inj} {A A' : Mem} {w w' : World} (h : Top N ι A) (k : Stp ι A w ι' A' w') : Top N ι' A' := fun x hx hn => by
  rw [k.out x (.inr hx)]
  exact h x (Nat.le_trans k.next hx) hn
theorem Top.le {N : Nat} {ι ι' : Inj} {A A' : Mem} {w w' : World} (h : Top N ι A) (hn : A'.next ≤ N) (k : Stp ι A w ι' A' w') : InjLe ι ι' := k.le (h.free hn)

/-- A piece of code comes to one of some ends. -/
def RC (N : Nat) (P : Program) (c : Code) (s : St) (Q : Ex → St → Prop) : Prop :=
  ∀ (ι : Inj) (b : Frame) (a : Act) (k : List Item) (cs : List Frame) (w : World), SR ι s b a w → Top N ι s.m →
    ∃ e s1 ι' w' a' k', Q e s1 ∧ s1.m.next ≤ N ∧ Steps P (lone (b.atR a (.code c :: k)) cs w) (lone (b.atR a' k') cs w') ∧ Arr e k k' ∧ SR ι' s1 b a' w' ∧ SStp ι s w ι' s1 w'

/-- A call comes to one of some answers. -/
def RCall (N : Nat) (P : Program) (cl : Cl) (A : Mem) (Q : Value → Mem → Prop) : Prop :=
  ∀ (ι : Inj) (w : World) (s : Sem Next) (fr : Frame) (cs : List Frame), Rel ι A w → ClR P ι w cl s → Top N ι A →
    ∃ v A' ι' w' v', Q v A' ∧ A'.next ≤ N ∧ CallDone P s w v' w' fr cs ∧ VR ι' v v' ∧ Rel ι' A' w' ∧ Stp ι A w ι' A' w'

/-- Operations come to one of some states. -/
def ROps (N : Nat) (P : Program) (ops : Array Oper) (l : List Nat) (s : St) (Q : St → Prop) : Prop :=
  ∀ (ι : Inj) (b : Frame) (a : Act) (k : List Item) (cs : List Frame) (w : World), SR ι s b a w → Top N ι s.m →
    ∃ s1 ι' w' a', Q s1 ∧ s1.m.next ≤ N ∧ Steps P (lone (b.atR a (.inRegion ops l :: k)) cs w) (lone (b.atR a' (.inRegion ops [] :: k)) cs w') ∧ SR ι' s1 b a' w' ∧ SStp ι s w ι' s1 w'

theorem RC.mono {c : Code} {s : St} {Q Q' : Ex → St → Prop} (h : RC N P c s Q) (hq : ∀ e s1, Q e s1 → Q' e s1) : RC N P c s Q' := fun ι b a k cs w hs ht => by
  obtain ⟨e, s1, ι', w', a', k', h1, h2⟩ := h ι b a k cs w hs ht
  exact ⟨e, s1, ι', w', a', k', hq _ _ h1, h2⟩

theorem RC.of_snd {c : Code} {s s1 : St} {e : Ex} {Q : Ex → St → Prop} (h : CodeSnd P c s e s1) (hn : s1.m.next ≤ N) (hq : Q e s1) : RC N P c s Q := fun ι b a k cs w hs ht => by
  obtain ⟨ι', w', a', k', h1, h2, h3, h4⟩ := h.2 ι b a k cs w hs (ht.free hn)
  exact ⟨e, s1, ι', w', a', k', hq, hn, h1, h2, h3, h4⟩

include ok in
theorem RC.of_exec {n : Nat} {c : Code} {s s1 : St} {e : Ex} {Q : Ex → St → Prop} (h : exec tb n c s = .ok (e, s1)) (he : ∀ v, e ≠ .pan v) (hn : s1.m.next ≤ N) (hq : Q e s1) : RC N tb.P c s Q := by
  rcases exec_sound ok n _ _ _ _ h with ⟨v, rfl, _⟩ | h
  · exact absurd rfl (he v)
  · exact .of_snd h hn hq

theorem RC.seq {c d : Code} {s : St} {Q : Ex → St → Prop} (h : RC N P c s fun e s1 => match e with
    | .nrm => RC N P d s1 Q
    | e => Q e s1) : RC N P (.seq c d) s Q := fun ι b a k cs w hs ht => by
  obtain ⟨e, s1, ι1, w1, a1, k1, h1, hn, h2, h3, h4, h5⟩ := h ι b a (.code d :: k) cs w hs ht
  cases e with
  | nrm =>
    cases (show k1 = _ from h3)
    obtain ⟨e, s2, ι2, w2, a2, k2, g1, gn, g2, g3, g4, g5⟩ := h1 ι1 b a1 k cs w1 h4 (ht.stp h5.stp)
    exact ⟨e, s2, ι2, w2, a2, k2, g1, gn, .head stepR_seq (h2.trans g2), g3, g4, h5.trans g5⟩
  | exit id => exact ⟨_, s1, ι1, w1, a1, k1, h1, hn, .head stepR_seq h2, h3.push (fun _ => by simp) (by simp), h4, h5⟩
  | ret => exact ⟨_, s1, ι1, w1, a1, k1, h1, hn, .head stepR_seq h2, h3, h4, h5⟩
  | pan v => exact h3.elim

theorem RC.region {id : Nat} {ops : Array Oper} {s : St} {Q : Ex → St → Prop} (h : ROps N P ops (List.range ops.size) s (Q .nrm)) : RC N P (.region id ops false) s Q := fun ι b a k cs w hs ht => by
  obtain ⟨s1, ι1, w1, a1, h1, hn, h2, h3, h4⟩ := h ι b a k cs w hs ht
  exact ⟨.nrm, s1, ι1, w1, a1, k, h1, hn, .head stepR_region (h2.trans (.one stepR_region_end)), rfl, h3, h4⟩

theorem ROps.nil {ops : Array Oper} {s : St} {Q : St → Prop} (hn : s.m.next ≤ N) (h : Q s) : ROps N P ops [] s Q := fun ι _ a _ _ w hs _ =>
  ⟨s, ι, w, a, h, hn, .refl _ _, hs, SStp.refl _ _ _⟩

theorem ROps.one {ops : Array Oper} {i : Nat} {l : List Nat} {o : Oper} {s s1 : St} {Q : St → Prop} (ho : ops[i]? = some o) (hg : o.guard = none) (h : OpSnd P ops i o s s1) (hn : s1.m.next ≤ N) (hl : ROps N P ops l s1 Q) : ROps N P ops (i :: l) s Q := fun ι b a k cs w hs ht => by
  obtain ⟨ι1, w1, a1, h1, h2, h3⟩ := h.2 ι b a k cs w l hs (ht.free hn) (by unfold Region.wanted; rw [hg]) ho
  obtain ⟨s2, ι2, w2, a2, g1, gn, g2, g3, g4⟩ := hl ι1 b a1 k cs w1 h2 (ht.stp h3.stp)
  exact ⟨s2, ι2, w2, a2, g1, gn, h1.trans g2, g3, h3.trans g4⟩

include ok in
/-- An operation that is carried out as the machine does it. -/
theorem ROps.op {n : Nat} {ops : Array Oper} {i : Nat} {l : List Nat} {o : Oper} {s s1 : St} {Q : St → Prop} (ho : ops[i]? = some o) (hg : o.guard = none) (h : opF tb (exec tb n) o s (fun s => .ok (.nrm, s)) = .ok (.nrm, s1)) (hn : s1.m.next ≤ N) (hl : ROps N tb.P ops l s1 Q) : ROps N tb.P ops (i :: l) s Q := by
  rcases opF_sound ok (callSnd ok (exec_sound ok n)) (ops := ops) (i := i) h with ⟨v, s2, he, _⟩ | ⟨s2, he, hop⟩
  · cases he
  · cases he
    exact .one ho hg hop hn hl

include ok in
/-- A call whose answer is open. -/
theorem ROps.call {ops : Array Oper} {i : Nat} {l : List Nat} {o : Oper} {c : Call} {cl : Cl} {s : St} {Q : St → Prop} (ho : ops[i]? = some o) (hg : o.guard = none) (hc : isCall o.op = some c) (hcl : clOf tb s.t s.m.get c = .ok cl)
    (hd : ∀ d, o.dst = some d → d < s.n) (h : RCall N tb.P cl s.m fun v A' => ROps N tb.P ops l { s with m := A', t := match o.dst with | some d => s.t.set d v | none => s.t } Q) : ROps N tb.P ops (i :: l) s Q := fun ι b a k cs w hs ht => by
  have hcr := clOf_sound ok hs.rel hc hcl hs.tr
  obtain ⟨v, A', ι1, w1, v', h1, hn, h2, h3, h4, h5⟩ := h ι w _ (b.atR a (.inRegion ops (i :: l) :: k)) cs hs.rel hcr ht
  have hle := ht.le hn h5
  have hw : ∀ y, Region.wanted o y = true := fun y => by unfold Region.wanted; rw [hg]
  have hnd : ∀ c, o.op ≠ .defer c := by
    intro c h
    rw [h] at hc
    cases hc
  have hs1 : SR ι1 { s with m := A', t := match o.dst with | some d => s.t.set d v | none => s.t } b (a.put o.dst v') w1 := by
    refine ⟨h4, ?_, hs.ro.mono hle, ?_⟩
    · cases hdd : o.dst with
      | none => exact hs.tr.mono hle
      | some d => exact (hs.tr.mono hle).set (hd d hdd) h3
    · have := hs.dr.mono hle
      cases o.dst <;> exact this
  have hss : SStp ι s w ι1 { s with m := A', t := match o.dst with | some d => s.t.set d v | none => s.t } w1 := ⟨h5, rfl, rfl⟩
  obtain ⟨s2, ι2, w2, a2, g1, gn, g2, g3, g4⟩ := h1 ι1 b _ k cs w1 hs1 (ht.stp h5)
  exact ⟨s2, ι2, w2, a2, g1, gn, (h2.op ho (hw _) hnd).trans g2, g3, hss.trans g4⟩

include ok in
theorem ROps.callD {ops : Array Oper} {i d : Nat} {l : List Nat} {o : Oper} {c : Call} {cl : Cl} {s : St} {Q : St → Prop} (ho : ops[i]? = some o) (hg : o.guard = none) (hc : isCall o.op = some c) (hcl : clOf tb s.t s.m.get c = .ok cl)
    (hd : o.dst = some d) (hdn : d < s.n) (h : RCall N tb.P cl s.m fun v A' => ROps N tb.P ops l { s with m := A', t := s.t.set d v } Q) : ROps N tb.P ops (i :: l) s Q := by
  refine ROps.call ok ho hg hc hcl (fun d' h' => by rw [hd] at h'; cases h'; exact hdn) ?_
  rw [hd]
  exact h

/-- A function. -/
theorem RCall.fn {f : FuncId} {fn : Func} {c : Code} {args : List Value} {A : Mem} {Q : Value → Mem → Prop} (hf : tb.fn.get f = some fn) (hb : fn.body = some c) (hng : (fn.name == "runtime.NumGoroutine") = false) (hn : args.length ≤ fn.ntmps) (ok : TabOk tb)
    (h : RC N tb.P c { t := T.puts .e 0 args, n := fn.ntmps, d := [], m := A, ro := none } fun e s => (e = .nrm ∨ e = .ret) ∧ ∃ A' vs, takeF s.d s.m = .ok A' ∧ resF tb s.t A'.get fn.results.toList = .ok vs ∧ Q (oneOf vs) A') : RCall N tb.P (.fn f args) A Q := fun ι w s fr cs hr hcl ht => by
  have hf' := ok.fn _ _ hf
  obtain ⟨args', hrun, ha⟩ := hcl
  have hcf : ∀ args' w, (callFunc f args').run tb.P w = .ok (.enter f args') w := by
    intro args' w
    unfold callFunc
    simp only [Sem.run_bind, run_program, Result.andThen_ok, hf', hng, hb, Option.isNone_some, Bool.false_eq_true, if_false, Sem.run_pure]
  have hent := Frame.enter_atR hf' hb args'
  have hs0 : SR ι { t := T.puts .e 0 args, n := fn.ntmps, d := [], m := A, ro := none } (Frame.enter tb.P f args' .normal) ⟨args' ++ Array.replicate (fn.ntmps - args'.size) undef, []⟩ w :=
    ⟨hr, TR.args ha hn, rfl, rfl⟩
  obtain ⟨e, s1, ι1, w1, a1, k1, ⟨he, A', vs, h4, h6, hq⟩, hn1, st1, ha1, hs1, hss1⟩ := h ι _ _ [] (fr :: cs) w hs0 ht
  rw [← hent] at st1
  obtain ⟨todo, st2⟩ : ∃ todo, Steps tb.P (lone ((Frame.enter tb.P f args' .normal).atR a1 k1) (fr :: cs) w1) (lone { (Frame.enter tb.P f args' .normal).atR ⟨a1.tmps, a1.defers⟩ todo with mode := .returning } (fr :: cs) w1) := by
    rcases he with rfl | rfl
    · cases (show k1 = [] from ha1)
      exact ⟨[], .one (stepR_end rfl)⟩
    · obtain ⟨k2, rfl⟩ := ha1
      exact ⟨_, .one (stepR_ret rfl)⟩
  obtain ⟨w2, st3, hrel2, hst2⟩ := take_steps tb.P (b := Frame.enter tb.P f args' .normal) (t := a1.tmps) (todo := todo) (cs := fr :: cs) h4 hs1.dr hs1.rel
  obtain ⟨v', e1, hv⟩ := results_sound ok hrel2 hs1.tr h6
  have hlv : Frame.leaving tb.P { (Frame.enter tb.P f args' .normal).atR ⟨a1.tmps, (Frame.enter tb.P f args' .normal).defers⟩ todo with mode := .returning } w2 (.returned v') := ⟨rfl, rfl, rfl, fn, hf', e1⟩
  exact ⟨_, A', ι1, w2, v', hq, by rw [takeF_next h4]; exact hn1, .inr (.inl ⟨f, args', hrun.trans (hcf args' w), ((st1.trans st2).trans st3).trans (.one (step_leave_returned hlv))⟩), hv, hrel2, hss1.stp.trans hst2⟩

include ok in
/-- A loop over a function, in a function's own frame. -/
theorem RC.rangeF {f : Operand} {ps : Array Tmp} {assign body : Code} {s : St} {Q : Ex → St → Prop} {fv : Value} {cl : Cl} (hN : s.m.next + 2 ≤ N) (hro : s.ro = none) (h1 : ev s.t f = .ok fv)
    (h5 : calleeF tb ((s.m.alloc .defd).alloc (.loop { state := .ready, pending := none, fn := 0, tmps := s.t, n := s.n, params := ps.toList, assign, body, defers := s.m.next })).get fv [.func (.yield (s.m.next + 1)) ⟨[]⟩ ⟨[]⟩] = .ok cl)
    (hc : RCall N tb.P cl ((s.m.alloc .defd).alloc (.loop { state := .ready, pending := none, fn := 0, tmps := s.t, n := s.n, params := ps.toList, assign, body, defers := s.m.next })) fun _ A2 => ∃ r2, A2.get (s.m.next + 1) = some (.loop r2) ∧ r2.state ≠ .busy ∧ r2.pending = none ∧
      Q .nrm { s with m := A2.set (s.m.next + 1) (.loop { r2 with state := .exhausted }), d := s.m.next :: s.d }) :
    RC N tb.P (.rangeFunc f ps assign body) s Q := fun ι b a k cs w hs ht => by
  have hb : b.roundOf = none := by have := hs.ro; rw [hro] at this; exact this
  have hn0 : ι s.m.next = none := ht _ (Nat.le_refl _) (by omega)
  obtain ⟨hwu, hsz⟩ := alloc_Wu w (.deferred (some []))
  obtain ⟨ι1, h9, h10, h11⟩ := hs.rel.come (ob := .defd) (sz := 0) hn0 (fun _ _ _ h => by cases h) hwu hsz (fun _ _ _ => rfl)
  have hle1 := ht.le (by rw [next_alloc]; omega) h11
  have ht1 := ht.stp h11
  have hn1 : ι1 (s.m.alloc .defd).next = none := ht1 _ (Nat.le_refl _) (by rw [next_alloc]; omega)
  obtain ⟨hwu2, hsz2⟩ := alloc_Wu (w.alloc (.deferred (some []))) (.loop { state := .ready, pending := none, fn := b.fn, tmps := a.tmps, params := ps, assign, body, defers := w.heap.size })
  obtain ⟨ι2, h12, h13, h14⟩ := h10.come (ob := .loop { state := .ready, pending := none, fn := 0, tmps := s.t, n := s.n, params := ps.toList, assign, body, defers := s.m.next }) (sz := 0) hn1 (fun _ _ _ h => by cases h) hwu2 hsz2
    (fun ι' hi _ => ⟨rfl, _, rfl, rfl, rfl, (hs.tr.mono hle1).mono hi, rfl, rfl, rfl, _, hi _ _ h9, rfl⟩)
  have hle2 := ht1.le (by rw [next_alloc, next_alloc]; omega) h14
  have ht2 := ht1.stp h14
  have he := run_enterLoop_outer (P := tb.P) (w := w) b.fn a.tmps ps assign body
  rw [World.size_alloc] at h12
  have hst1 := h11.trans h14
  have hi1 := hle1.trans hle2
  have hdr1 : DR ι2 (s.m.next :: s.d) ({ target := .collected w.heap.size, args := #[] } :: a.defers) b.defers := ⟨⟨_, hle2 _ _ h9, rfl⟩, (hs.dr.mono hle1).mono hle2⟩
  rw [← hb] at he
  have hev : VR ι2 fv (a.eval f) := (ev_sound h1 hs.tr).mono hi1
  have hcl := calleeF_sound ok h13 h5 hev (args' := #[.func (.yield (w.heap.size + 1)) #[] #[]]) (.cons (.yield h12) .nil)
  obtain ⟨v0, A2, ι3, w3, v', ⟨r2, hg2, hnb, hp, hq⟩, hn2, hdone, _, hrel2, hst2⟩ := hc ι2 _ _ (b.atR { a with defers := [{ target := .collected w.heap.size, args := #[] }] ++ a.defers } (.inRangeFunc (w.heap.size + 1) :: k)) cs h13 hcl ht2
  have hi2 := ht2.le hn2 hst2
  obtain ⟨rq2, hw2, hlr2, h02⟩ := hrel2.loop hg2 (hi2 _ _ h12)
  obtain ⟨hrel3, hst3⟩ := hrel2.loopTurn (q := { r2 with state := .exhausted }) (q' := { rq2 with state := .exhausted }) hg2 (hi2 _ _ h12) hw2 h02
    ⟨rfl, hlr2.pending, hlr2.tmps, hlr2.params, hlr2.assign, hlr2.body, hlr2.defers⟩
  have st1 := rangeF_steps (P := tb.P) (b := b) (a := a) (k := k) (cs := cs) he hdone
  have st2 := stepR_endRangeFunc (P := tb.P) (b := b) (a := { a with defers := [{ target := .collected w.heap.size, args := #[] }] ++ a.defers }) (k := k) (cs := cs) (run_endLoop hw2 (by rw [hlr2.state]; exact hnb))
  refine ⟨.nrm, _, ι3, _, _, _, hq, hn2, st1.trans (.one st2), ?_, ⟨hrel3, (hs.tr.mono hi1).mono hi2, (hs.ro.mono hi1).mono hi2, hdr1.mono hi2⟩, ⟨(hst1.trans hst2).trans hst3, rfl, rfl⟩⟩
  rw [hlr2.pending, hp]; rfl


theorem RC.block {c : Code} {id : Nat} {s : St} {Q : Ex → St → Prop} (h : RC N P c s fun e s1 => e = .nrm ∧ Q .nrm s1) : RC N P (.block id c) s Q := fun ι b a k cs w hs ht => by
  obtain ⟨e, s1, ι1, w1, a1, k1, ⟨rfl, h1⟩, hn, h2, h3, h4, h5⟩ := h ι b a (.inBlock id :: k) cs w hs ht
  cases (show k1 = _ from h3)
  exact ⟨.nrm, s1, ι1, w1, a1, k, h1, hn, .head stepR_block (h2.trans (.one stepR_inBlock)), rfl, h4, h5⟩


include ok in
theorem RC.of_W {c : Code} {s : St} {Q : Ex → St → Prop} (h : W tb c s fun e s1 => (∀ v, e ≠ .pan v) ∧ s1.m.next ≤ N ∧ Q e s1) : RC N tb.P c s Q := by
  obtain ⟨e, s1, ⟨f, hf⟩, h1, h2, h3⟩ := h
  exact RC.of_exec ok (hf 0) h1 h2 h3

include ok in
theorem RCall.of_ans {f : FuncId} {args : List Value} {A A' : Mem} {v : Value} {Q : Value → Mem → Prop} (h : ∃ g, ∀ M, g ≤ M → callF tb (exec tb M) (.fn f args) A = .ok (.val v A')) (hn : A'.next ≤ N) (hq : Q v A') : RCall N tb.P (.fn f args) A Q := fun ι w s fr cs hr hcl ht => by
  obtain ⟨g, hg⟩ := h
  rcases callSnd ok (exec_sound ok g) _ _ _ (hg g (Nat.le_refl _)) with ⟨_, _, h1, _⟩ | ⟨v1, A1, h1, h2, h3⟩
  · cases h1
  · cases h1
    obtain ⟨ι', w', v', r⟩ := h3 ι w s fr cs hr hcl (ht.free hn)
    exact ⟨v, A', ι', w', v', hq, hn, r⟩

end Go.Am
