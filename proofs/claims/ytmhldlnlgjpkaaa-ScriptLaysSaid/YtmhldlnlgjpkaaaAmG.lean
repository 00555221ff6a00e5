/-
  The abstract machine AM: a machine for programs of the model that draws nothing and moves no block; and the proof that what it answers the model answers.
  Part G: no conditions.
-/
import Derived.Test.YtmhldlnlgjpkaaaAmF

/-
  The abstract machine AM, part 53: values of several cells in memory; slices of them.
-/
namespace Go.Am
variable {tb : Tab}

theorem stores_all : ∀ (vs : List Value) (i : Nat) (c : T Value), (∀ v ∈ vs, oneCell v = true) → (∀ j, j < vs.length → ∃ y, c.get (i + j) = some y) → storesF 0 vs i c = .ok (c.puts i vs)
  | [], _, _, _, _ => rfl
  | v :: vs, i, c, h1, h2 => by
    unfold storesF
    have hb : (oneCell v && Nat.ble 0 i) = true := by rw [h1 v (List.mem_cons_self ..)]; simp
    obtain ⟨y, hy⟩ := h2 0 (by simp)
    rw [Nat.add_zero] at hy
    rw [hb, cond_true, hy]
    refine stores_all vs (i + 1) (c.set i v) (fun w hw => h1 w (List.mem_cons_of_mem _ hw)) fun j hj => ?_
    rw [T.get_set]
    by_cases e : i + 1 + j = i
    · omega
    · rw [if_neg e]
      obtain ⟨y, hy⟩ := h2 (j + 1) (by simp; omega)
      exact ⟨y, by rw [← hy]; congr 1; omega⟩
/-- A variable of several cells, written whole. -/
theorem store_all {A : Mem} {e t : TypeId} {b : Nat} {k : Kd} {l l' : List Value} (hs : sizeF tb t = .ok l.length) (h : Vals A e b k l) (hl : l'.length = l.length) (h0 : l ≠ []) (h1 : ∀ v ∈ l', oneCell v = true) :
    ∃ A', storeF tb A t (.pointer (some ⟨b, 0, none⟩)) (.agg ⟨l'⟩) = .ok A' ∧ Vals A' e b k l' ∧ A'.next = A.next ∧ ∀ x, x ≠ b → A'.get x = A.get x := by
  obtain ⟨c, h2, h3⟩ := h
  have hst : storesF 0 l' 0 c = .ok (c.puts 0 l') := stores_all l' 0 c h1 fun j hj => by
    rw [Nat.zero_add, h3 j (by omega), List.getElem?_eq_getElem (show j < l.length by omega)]
    exact ⟨_, rfl⟩
  refine ⟨A.set b (.cells e k 0 (c.puts 0 l')), ?_, ⟨_, by rw [get_setMem, if_pos rfl], fun i hi => ?_⟩, next_set _ _ _, fun x hx => by rw [get_setMem, if_neg hx]⟩
  · unfold storeF
    have hc : (Value.agg ⟨l'⟩).cells.toList = l' := rfl
    simp only [hs, R.ok_bind, hc]
    have hb : Nat.beq l'.length l.length = true := by rw [hl]; simp
    rw [hb, cond_true]
    cases l' with
    | nil => cases l with
      | nil => exact absurd rfl h0
      | cons _ _ => simp at hl
    | cons v vs =>
      unfold storeAtF
      simp only [h2, hst, R.ok_bind]
  · rw [T.get_puts, if_pos ⟨Nat.zero_le _, by omega⟩, Nat.sub_zero]
/-- A variable of several cells, whole. -/
theorem load_all {A : Mem} {e t : TypeId} {b : Nat} {k : Kd} {l : List Value} {d : TypeDesc} (hu : tb.und t = some d) (ha : isAggD d = true) (hs : sizeF tb t = .ok l.length) (h : Vals A e b k l) : loadF tb A.get t (.pointer (some ⟨b, 0, none⟩)) = .ok (.agg ⟨l⟩) := by
  obtain ⟨c, h1, h2⟩ := h
  have hg : c.gets l.length 0 = some l := gets_eq _ _ _ _ rfl fun j hj => by rw [Nat.zero_add]; exact h2 j hj
  unfold loadF
  simp only [h1, hu, ha, cond_true, hs, R.ok_bind, hg]
theorem vals_new (A : Mem) (e : TypeId) (l : List Value) : Vals (A.alloc (rowOb e l)) e A.next (.var l.length) l := vals_puts (get_alloc_self _ _)

theorem flat_len {n : Nat} : ∀ {ls : List (List Value)}, (∀ l ∈ ls, l.length = n) → ls.flatten.length = ls.length * n
  | [], _ => by simp
  | l :: ls, h => by
    rw [List.flatten_cons, List.length_append, flat_len (fun x hx => h x (List.mem_cons_of_mem _ hx)), h l (List.mem_cons_self ..), List.length_cons, Nat.add_mul, Nat.one_mul, Nat.add_comm]
theorem flat_get {n : Nat} : ∀ {ls : List (List Value)} {i j : Nat} {l : List Value}, (∀ l ∈ ls, l.length = n) → ls[i]? = some l → j < n → ls.flatten[i * n + j]? = l[j]?
  | [], i, j, l, _, hi, _ => by simp at hi
  | l0 :: ls, 0, j, l, h, hi, hj => by
    simp only [List.getElem?_cons_zero, Option.some.injEq] at hi
    subst hi
    rw [List.flatten_cons, Nat.zero_mul, Nat.zero_add, List.getElem?_append_left (by rw [h _ (List.mem_cons_self ..)]; exact hj)]
  | l0 :: ls, i + 1, j, l, h, hi, hj => by
    simp only [List.getElem?_cons_succ] at hi
    have hl0 := h l0 (List.mem_cons_self ..)
    rw [List.flatten_cons, List.getElem?_append_right (by rw [hl0, Nat.add_mul]; omega), hl0, show (i + 1) * n + j - n = i * n + j by rw [Nat.add_mul, Nat.one_mul]; omega]
    exact flat_get (fun x hx => h x (List.mem_cons_of_mem _ hx)) hi hj

/-- A slice of values of n cells each, whole; so that what is appended goes into a new one. -/
def SlcM (A : Mem) (e : TypeId) (n b : Nat) (ls : List (List Value)) (x : Value) : Prop :=
  (x = .slice none 0 0 ∧ ls = []) ∨ ∃ k c, x = .slice (some ⟨b, 0, none⟩) ls.length c ∧ b < A.next ∧ Vals A e b k ls.flatten ∧ (∀ l ∈ ls, l.length = n) ∧ (c = 2 * ls.length ∨ (c = mkX ls.length n ∧ (k = .row ∨ k = .mark)))
theorem SlcM.nil (A : Mem) (e : TypeId) (n b : Nat) : SlcM A e n b [] (.slice none 0 0) := .inl ⟨rfl, rfl⟩
theorem SlcM.same {A A' : Mem} {e : TypeId} {n b : Nat} {ls : List (List Value)} {x : Value} (h : SlcM A e n b ls x) (hn : A.next ≤ A'.next) (hg : b < A.next → A'.get b = A.get b) : SlcM A' e n b ls x := by
  rcases h with h | ⟨k, c, h1, h2, h3, h4⟩
  · exact .inl h
  · exact .inr ⟨k, c, h1, Nat.lt_of_lt_of_le h2 hn, h3.same (hg h2), h4⟩
theorem SlcM.len {A : Mem} {e t t' : TypeId} {n b : Nat} {ls : List (List Value)} {x : Value} (h : SlcM A e n b ls x) (hu : tb.und t = some (.slice t')) : builtinPF tb .len [t] [x] = .ok (.int .i64 ((ls.length : Nat) : Int)) := by
  rcases h with ⟨rfl, rfl⟩ | ⟨k, c, rfl, -⟩ <;> exact len_slc hu
theorem SlcM.idx {A : Mem} {e t t' : TypeId} {n b i : Nat} {kd : IntKind} {ls : List (List Value)} {x : Value} (h : SlcM A e n b ls x) (hu : tb.und t = some (.slice t')) (hs : sizeF tb t' = .ok n) (hi : i < ls.length) :
    indexAddrF tb t x (.int kd (i : Int)) = .ok (.pointer (some ⟨b, i * n, none⟩)) := by
  rcases h with ⟨rfl, rfl⟩ | ⟨k, c, rfl, -⟩
  · simp at hi
  · have hb : Nat.blt i ls.length = true := by rw [Nat.blt_eq]; exact hi
    have hn : natV (.int kd (i : Int)) = .ok i := rfl
    unfold indexAddrF
    simp only [hn, hu, hb, cond_true, hs, R.ok_bind, addA, Nat.zero_add]
theorem SlcM.load {A : Mem} {e t : TypeId} {d : TypeDesc} {n b i j : Nat} {ls : List (List Value)} {l : List Value} {x v : Value} (h : SlcM A e n b ls x) (hu : tb.und t = some d) (ha : isAggD d = false) (hi : ls[i]? = some l) (hj : l[j]? = some v) (hjn : j < n) :
    loadF tb A.get t (.pointer (some ⟨b, i * n + j, none⟩)) = .ok v := by
  rcases h with ⟨rfl, rfl⟩ | ⟨k, c, rfl, h2, h3, h4, -⟩
  · simp at hi
  · exact load_vals hu ha h3 (by rw [flat_get h4 hi hjn]; exact hj)
/-- A value of it, whole. -/
theorem SlcM.load_all {A : Mem} {e t : TypeId} {d : TypeDesc} {n b i : Nat} {ls : List (List Value)} {l : List Value} {x : Value} (h : SlcM A e n b ls x) (hu : tb.und t = some d) (ha : isAggD d = true) (hs : sizeF tb t = .ok n) (hi : ls[i]? = some l) :
    loadF tb A.get t (.pointer (some ⟨b, i * n, none⟩)) = .ok (.agg ⟨l⟩) := by
  rcases h with ⟨rfl, rfl⟩ | ⟨k, c, rfl, h2, ⟨cs, h5, h6⟩, h4, -⟩
  · simp at hi
  · have hl : l.length = n := h4 l (List.mem_of_getElem? hi)
    have hlen := flat_len h4
    have hil : i < ls.length := (List.getElem?_eq_some_iff.1 hi).1
    have hg : cs.gets n (i * n) = some l := gets_eq _ _ _ _ hl fun j hj => by
      rw [h6 (i * n + j) (by
        rw [hlen]
        have := Nat.mul_le_mul_right n (show i + 1 ≤ ls.length from hil)
        rw [Nat.add_mul, Nat.one_mul] at this
        omega), flat_get h4 hi hj]
    unfold loadF
    simp only [h5, hu, ha, cond_true, hs, R.ok_bind, hg]
theorem elemsF_valsN {A : Mem} {e : TypeId} {b n m : Nat} {k : Kd} {l : List Value} (h : Vals A e b k l) (hl : l.length = m * n) : elemsF A.get n m (some ⟨b, 0, none⟩) = .ok l := by
  obtain ⟨c, h1, h2⟩ := h
  unfold elemsF
  simp only []
  cases hn : Nat.beq (m * n) 0 with
  | true =>
    have : l = [] := List.length_eq_zero_iff.1 (by rw [hl]; exact Nat.eq_of_beq_eq_true hn)
    subst this; rfl
  | false =>
    have hg : c.gets (m * n) 0 = some l := gets_eq _ _ _ _ hl fun j hj => by rw [Nat.zero_add]; exact h2 j (by omega)
    simp only [cond_false, h1, hg]
/-- One more, behind it. -/
theorem SlcM.append {A : Mem} {st xt e : TypeId} {i : TypeInfo} {z l : List Value} {n b b2 : Nat} {ls : List (List Value)} {x : Value} (h : SlcM A e n b ls x) (hst : tb.und st = some (.slice e)) (hxt : tb.und xt = some (.slice e)) (hz : zcellsF tb e = .ok (n, z)) (hi : tb.ty.get e = some i) (hib : 0 < i.bytes) (hib' : i.bytes ≤ 65536)
    (hn0 : 0 < n) (hn1 : n < 65536) (hls : ls.length < 16777216) (hb2 : A.get b2 = some (rowOb e l)) (hl : l.length = n) (h1c : ∀ v ∈ l, oneCell v = true) :
    ∃ x' A', appendF tb A st xt x (.slice (some ⟨b2, 0, none⟩) 1 2) = .ok (x', A') ∧ SlcM A' e n A.next (ls ++ [l]) x' ∧ A'.next = A.next + 1 ∧ ∀ y, (y = b → x = .slice none 0 0) → y < A.next → A'.get y = A.get y := by
  have hnew : firstF A.get n 1 (.slice (some ⟨b2, 0, none⟩) 1 2) = .ok l := elemsF_valsN (vals_puts (e := e) (k := .var l.length) hb2) (by rw [Nat.one_mul]; exact hl)
  have hlim : (Nat.ble (ls.length + 1) 16777216 && Nat.ble i.bytes 65536 && Nat.blt 0 i.bytes && Nat.blt 0 n && Nat.blt n 65536) = true := by
    have a1 : Nat.ble (ls.length + 1) 16777216 = true := Nat.ble_eq_true_of_le (by omega)
    have a2 : Nat.ble i.bytes 65536 = true := Nat.ble_eq_true_of_le hib'
    have a3 : Nat.blt 0 i.bytes = true := by rw [Nat.blt_eq]; exact hib
    have a4 : Nat.blt 0 n = true := by rw [Nat.blt_eq]; exact hn0
    have a5 : Nat.blt n 65536 = true := by rw [Nat.blt_eq]; exact hn1
    rw [a1, a2, a3, a4, a5]; rfl
  have hfl : (ls ++ [l]).flatten = ls.flatten ++ l := by simp
  have fin : ∀ (k' : Kd) (A0 : Mem), A0.next = A.next → (∀ y, y ≠ b → A0.get y = A.get y) → (k' = .row ∨ k' = .mark) → (∀ l ∈ ls, l.length = n) →
      SlcM (A0.alloc (.cells e k' 0 (T.puts .e 0 (ls.flatten ++ l)))) e n A.next (ls ++ [l]) (.slice (some ⟨A.next, 0, none⟩) (ls.length + 1) (mkX (ls.length + 1) n)) ∧ (A0.alloc (.cells e k' 0 (T.puts .e 0 (ls.flatten ++ l)))).next = A.next + 1 ∧ ∀ y, y ≠ b → y < A.next → (A0.alloc (.cells e k' 0 (T.puts .e 0 (ls.flatten ++ l)))).get y = A.get y := by
    intro k' A0 hn hg hk' hall
    refine ⟨.inr ⟨k', _, by rw [List.length_append]; rfl, by rw [next_alloc]; omega, vals_puts ?_, fun y hy => ?_, .inr ⟨by rw [List.length_append]; rfl, hk'⟩⟩, by rw [next_alloc, hn], fun y hy hlt => ?_⟩
    · rw [hfl, ← hn]; exact get_alloc_self _ _
    · rcases List.mem_append.1 hy with h | h
      · exact hall y h
      · rw [List.mem_singleton.1 h]; exact hl
    · rw [get_alloc_ne (by omega), hg y hy]
  rcases h with ⟨rfl, rfl⟩ | ⟨k, c, rfl, h2, h3, h4, h5⟩
  · refine ⟨.slice (some ⟨A.next, 0, none⟩) 1 (mkX 1 n), A.alloc (.cells e .row 0 (T.puts .e 0 ([] ++ l))), ?_, ?_⟩
    · unfold appendF appendG
      have hble : Nat.ble (0 + 1) (capN 0) = false := rfl
      have hx : capX 0 = true := rfl
      have hel : elemsF A.get n 0 none = .ok [] := rfl
      simp only [hst, hxt, isIntD, cond_false, hz, R.ok_bind, lenF, hnew, hble, hi]
      simp only [List.length_nil, Nat.zero_add] at hlim
      simp only [Nat.zero_add, hlim, cond_true, hel, R.ok_bind, hx]
    · obtain ⟨f1, f2, -⟩ := fin .row A rfl (fun _ _ => rfl) (.inl rfl) (fun l h => by cases h)
      exact ⟨f1, f2, fun y _ hy => get_alloc_ne (by omega)⟩
  · have hel : elemsF A.get n ls.length (some ⟨b, 0, none⟩) = .ok ls.flatten := elemsF_valsN h3 (flat_len h4)
    obtain ⟨cs, hb', hcs⟩ := h3
    rcases h5 with rfl | ⟨rfl, hk⟩
    · have hx : capX (2 * ls.length) = true := by show Nat.beq (2 * ls.length % 2) 0 = true; rw [Nat.mul_mod_right]; rfl
      have hcn : capN (2 * ls.length) = ls.length := by unfold capN; rw [hx, cond_true]; show 2 * ls.length / 2 = ls.length; omega
      have hble : Nat.ble (ls.length + 1) (capN (2 * ls.length)) = false := by
        rw [hcn]
        cases hq : Nat.ble (ls.length + 1) ls.length with
        | false => rfl
        | true => have := Nat.le_of_ble_eq_true hq; omega
      refine ⟨_, A.alloc (.cells e .row 0 (T.puts .e 0 (ls.flatten ++ l))), ?_, (fin .row A rfl (fun _ _ => rfl) (.inl rfl) h4).1, (fin .row A rfl (fun _ _ => rfl) (.inl rfl) h4).2.1, fun y hy => (fin .row A rfl (fun _ _ => rfl) (.inl rfl) h4).2.2 y (fun e => by cases hy e)⟩
      unfold appendF appendG
      simp only [hst, hxt, isIntD, cond_false, hz, R.ok_bind, lenF, hnew, hble, hi, hlim, cond_true, hel, hx]
    · have hble : Nat.ble (ls.length + 1) (capN (mkX ls.length n)) = false := by
        rw [capN_mkX hn1]
        cases hq : Nat.ble (ls.length + 1) ls.length with
        | false => rfl
        | true => have := Nat.le_of_ble_eq_true hq; omega
      have hx : capX (mkX ls.length n) = false := capX_mkX _ _
      have he : Nat.beq (capE (mkX ls.length n)) n = true := by rw [capE_mkX hn1]; simp
      have hall : l.all oneCell = true := List.all_eq_true.2 h1c
      have hfz : (Nat.ble 0 (0 + ls.length * n) && (Nat.beq e e && Nat.blt 0 9223372036854775808)) = true := by
        have h0 : Nat.blt 0 9223372036854775808 = true := by rw [Nat.blt_eq]; omega
        rw [h0]; simp
      refine ⟨_, (A.set b .dead).alloc (.cells e k 0 (T.puts .e 0 (ls.flatten ++ l))), ?_, (fin k (A.set b .dead) (next_set _ _ _) (fun y hy => by rw [get_setMem, if_neg hy]) hk h4).1, (fin k (A.set b .dead) (next_set _ _ _) (fun y hy => by rw [get_setMem, if_neg hy]) hk h4).2.1, fun y hy => (fin k (A.set b .dead) (next_set _ _ _) (fun y hy => by rw [get_setMem, if_neg hy]) hk h4).2.2 y (fun e => by cases hy e)⟩
      unfold appendF appendG
      simp only [hst, hxt, isIntD, cond_false, hz, R.ok_bind, lenF, hnew, hble, hi, hlim, cond_true, hel, hx, he, hall, Bool.and_true, hb', hfz]
      rcases hk with rfl | rfl <;> rfl

end Go.Am

/-
  The abstract machine AM, part 54: slices that are read only; '==' of structs.
-/
namespace Go.Am
variable {tb : Tab}

/-! ### Slices of values of n cells each: a beginning of a row, read only -/
def RowM (A : Mem) (e : TypeId) (n b : Nat) (ls : List (List Value)) (x : Value) : Prop :=
  (x = .slice none 0 0 ∧ ls = []) ∨ ∃ k c ex, x = .slice (some ⟨b, 0, none⟩) ls.length c ∧ b < A.next ∧ Vals A e b k (ls.flatten ++ ex) ∧ (∀ l ∈ ls, l.length = n) ∧ capFit c n = true ∧ ls.length ≤ capN c
theorem SlcM.toRow {A : Mem} {e : TypeId} {n b : Nat} {ls : List (List Value)} {x : Value} (hn : n < 65536) (h : SlcM A e n b ls x) : RowM A e n b ls x := by
  rcases h with h | ⟨k, c, h1, h2, h3, h4, h5⟩
  · exact .inl h
  · refine .inr ⟨k, c, [], h1, h2, by rw [List.append_nil]; exact h3, h4, ?_, ?_⟩
    · rcases h5 with rfl | ⟨rfl, _⟩
      · unfold capFit; rw [capX_two]; rfl
      · unfold capFit; rw [capX_mkX, capE_mkX hn, cond_false]; exact Nat.beq_refl n
    · rcases h5 with rfl | ⟨rfl, _⟩
      · rw [capN_two]; exact Nat.le_refl _
      · rw [capN_mkX hn]; exact Nat.le_refl _
theorem RowM.same {A A' : Mem} {e : TypeId} {n b : Nat} {ls : List (List Value)} {x : Value} (h : RowM A e n b ls x) (hn : A.next ≤ A'.next) (hg : b < A.next → A'.get b = A.get b) : RowM A' e n b ls x := by
  rcases h with h | ⟨k, c, ex, h1, h2, h3, h4⟩
  · exact .inl h
  · exact .inr ⟨k, c, ex, h1, Nat.lt_of_lt_of_le h2 hn, h3.same (hg h2), h4⟩
theorem RowM.len {A : Mem} {e t t' : TypeId} {n b : Nat} {ls : List (List Value)} {x : Value} (h : RowM A e n b ls x) (hu : tb.und t = some (.slice t')) : builtinPF tb .len [t] [x] = .ok (.int .i64 ((ls.length : Nat) : Int)) := by
  rcases h with ⟨rfl, rfl⟩ | ⟨k, c, ex, rfl, -⟩ <;> exact len_slc hu
theorem RowM.idx {A : Mem} {e t t' : TypeId} {n b i : Nat} {kd : IntKind} {ls : List (List Value)} {x : Value} (h : RowM A e n b ls x) (hu : tb.und t = some (.slice t')) (hs : sizeF tb t' = .ok n) (hi : i < ls.length) :
    indexAddrF tb t x (.int kd (i : Int)) = .ok (.pointer (some ⟨b, i * n, none⟩)) := by
  rcases h with ⟨rfl, rfl⟩ | ⟨k, c, ex, rfl, -⟩
  · simp at hi
  · have hb : Nat.blt i ls.length = true := by rw [Nat.blt_eq]; exact hi
    have hn : natV (.int kd (i : Int)) = .ok i := rfl
    unfold indexAddrF
    simp only [hn, hu, hb, cond_true, hs, R.ok_bind, addA, Nat.zero_add]
theorem flat_lt {n i j : Nat} {ls : List (List Value)} (h : ∀ l ∈ ls, l.length = n) (hi : i < ls.length) (hj : j < n) : i * n + j < ls.flatten.length := by
  rw [flat_len h]
  have := Nat.mul_le_mul_right n (show i + 1 ≤ ls.length from hi)
  rw [Nat.add_mul, Nat.one_mul] at this
  omega
theorem RowM.load {A : Mem} {e t : TypeId} {d : TypeDesc} {n b i j : Nat} {ls : List (List Value)} {l : List Value} {x v : Value} (h : RowM A e n b ls x) (hu : tb.und t = some d) (ha : isAggD d = false) (hi : ls[i]? = some l) (hj : l[j]? = some v) (hjn : j < n) :
    loadF tb A.get t (.pointer (some ⟨b, i * n + j, none⟩)) = .ok v := by
  rcases h with ⟨rfl, rfl⟩ | ⟨k, c, ex, rfl, h2, h3, h4, -⟩
  · simp at hi
  · have hil : i < ls.length := (List.getElem?_eq_some_iff.1 hi).1
    exact load_vals hu ha h3 (by rw [List.getElem?_append_left (flat_lt h4 hil hjn), flat_get h4 hi hjn]; exact hj)
theorem RowM.load_all {A : Mem} {e t : TypeId} {d : TypeDesc} {n b i : Nat} {ls : List (List Value)} {l : List Value} {x : Value} (h : RowM A e n b ls x) (hu : tb.und t = some d) (ha : isAggD d = true) (hs : sizeF tb t = .ok n) (hi : ls[i]? = some l) :
    loadF tb A.get t (.pointer (some ⟨b, i * n, none⟩)) = .ok (.agg ⟨l⟩) := by
  rcases h with ⟨rfl, rfl⟩ | ⟨k, c, ex, rfl, h2, ⟨cs, h5, h6⟩, h4, -⟩
  · simp at hi
  · have hl : l.length = n := h4 l (List.mem_of_getElem? hi)
    have hil : i < ls.length := (List.getElem?_eq_some_iff.1 hi).1
    have hg : cs.gets n (i * n) = some l := gets_eq _ _ _ _ hl fun j hj => by
      have hlt := flat_lt h4 hil hj
      rw [h6 (i * n + j) (by rw [List.length_append]; omega), List.getElem?_append_left hlt, flat_get h4 hi hj]
    unfold loadF
    simp only [h5, hu, ha, cond_true, hs, R.ok_bind, hg]
theorem RowM.cells {A : Mem} {e : TypeId} {n b : Nat} {ls : List (List Value)} {x : Value} (h : RowM A e n b ls x) : x.cells.toList = [x] ∧ oneCell x = true := by
  rcases h with ⟨rfl, -⟩ | ⟨k, c, ex, rfl, -⟩ <;> exact ⟨rfl, rfl⟩
theorem RowM.self {A : Mem} {e : TypeId} {n b : Nat} {ls : List (List Value)} {x : Value} (h : RowM A e n b ls x) (d : Nat) : sameV (d + 1) x x = true := by
  rcases h with ⟨rfl, -⟩ | ⟨k, c, ex, rfl, -⟩
  · rfl
  · exact sameV_slc _ _ _ _
/-- Some more, behind it. -/
theorem SlcM.appends {A : Mem} {st xt e : TypeId} {xd : TypeDesc} {i : TypeInfo} {z : List Value} {n m b : Nat} {ls nl : List (List Value)} {x y : Value} (h : SlcM A e n b ls x) (hst : tb.und st = some (.slice e)) (hxt : tb.und xt = some xd) (hxd : isIntD xd = false) (hz : zcellsF tb e = .ok (n, z)) (hi : tb.ty.get e = some i) (hib : 0 < i.bytes) (hib' : i.bytes ≤ 65536)
    (hn0 : 0 < n) (hn1 : n < 65536) (hls : ls.length + m ≤ 16777216) (hy : lenF y = .ok m) (hnew : firstF A.get n m y = .ok nl.flatten) (hm : nl.length = m) (hl : ∀ l ∈ nl, l.length = n) (h1c : ∀ v ∈ nl.flatten, oneCell v = true) :
    ∃ x' A' b', appendF tb A st xt x y = .ok (x', A') ∧ SlcM A' e n b' (ls ++ nl) x' ∧ A.next ≤ A'.next ∧ (b' = b ∨ A.next ≤ b') ∧ ∀ y, (y = b → x = .slice none 0 0) → y < A.next → A'.get y = A.get y := by
  subst hm
  by_cases h0 : nl.length = 0
  · have hnil : nl = [] := List.length_eq_zero_iff.1 h0
    subst hnil
    simp only [List.length_nil, List.flatten_nil] at hy hnew
    refine ⟨x, A, b, ?_, by rw [List.append_nil]; exact h, Nat.le_refl _, .inl rfl, fun _ _ _ => rfl⟩
    rcases h with ⟨rfl, rfl⟩ | ⟨k, c, rfl, h2, h3, h4, h5⟩
    · unfold appendF appendG
      simp only [hst, hxt, hxd, cond_false, hz, R.ok_bind, hy, hnew]
      rfl
    · have hc : ls.length ≤ capN c := by
        rcases h5 with rfl | ⟨rfl, _⟩
        · rw [capN_two]; exact Nat.le_refl _
        · rw [capN_mkX hn1]; exact Nat.le_refl _
      have hble : Nat.ble ls.length (capN c) = true := Nat.ble_eq_true_of_le hc
      have hst0 : ∀ a, storeAtF A a [] = .ok A := fun _ => rfl
      unfold appendF appendG
      simp only [hst, hxt, hxd, cond_false, hz, R.ok_bind, hy, hnew, Nat.add_zero, hble, cond_true, hst0]
  have hlim : (Nat.ble (ls.length + nl.length) 16777216 && Nat.ble i.bytes 65536 && Nat.blt 0 i.bytes && Nat.blt 0 n && Nat.blt n 65536) = true := by
    have a1 : Nat.ble (ls.length + nl.length) 16777216 = true := Nat.ble_eq_true_of_le (by omega)
    have a2 : Nat.ble i.bytes 65536 = true := Nat.ble_eq_true_of_le hib'
    have a3 : Nat.blt 0 i.bytes = true := by rw [Nat.blt_eq]; exact hib
    have a4 : Nat.blt 0 n = true := by rw [Nat.blt_eq]; exact hn0
    have a5 : Nat.blt n 65536 = true := by rw [Nat.blt_eq]; exact hn1
    rw [a1, a2, a3, a4, a5]; rfl
  have hfl : (ls ++ nl).flatten = ls.flatten ++ nl.flatten := by simp
  have hll : (ls ++ nl).length = ls.length + nl.length := List.length_append
  have fin : ∀ (k' : Kd) (A0 : Mem), A0.next = A.next → (∀ y, y ≠ b → A0.get y = A.get y) → (k' = .row ∨ k' = .mark) → (∀ l ∈ ls, l.length = n) →
      SlcM (A0.alloc (.cells e k' 0 (T.puts .e 0 (ls.flatten ++ nl.flatten)))) e n A.next (ls ++ nl) (.slice (some ⟨A.next, 0, none⟩) (ls.length + nl.length) (mkX (ls.length + nl.length) n)) ∧ A.next ≤ (A0.alloc (.cells e k' 0 (T.puts .e 0 (ls.flatten ++ nl.flatten)))).next ∧ ∀ y, y ≠ b → y < A.next → (A0.alloc (.cells e k' 0 (T.puts .e 0 (ls.flatten ++ nl.flatten)))).get y = A.get y := by
    intro k' A0 hn hg hk' hall
    refine ⟨.inr ⟨k', _, by rw [hll], by rw [next_alloc]; omega, vals_puts ?_, fun y hy => ?_, .inr ⟨by rw [hll], hk'⟩⟩, by rw [next_alloc, hn]; omega, fun y hy hlt => ?_⟩
    · rw [hfl, ← hn]; exact get_alloc_self _ _
    · rcases List.mem_append.1 hy with h | h
      · exact hall y h
      · exact hl y h
    · rw [get_alloc_ne (by omega), hg y hy]
  rcases h with ⟨rfl, rfl⟩ | ⟨k, c, rfl, h2, h3, h4, h5⟩
  · refine ⟨.slice (some ⟨A.next, 0, none⟩) (0 + nl.length) (mkX (0 + nl.length) n), A.alloc (.cells e .row 0 (T.puts .e 0 ([] ++ nl.flatten))), A.next, ?_, ?_⟩
    · unfold appendF appendG
      have hble : Nat.ble (0 + nl.length) (capN 0) = false := by
        cases hq : Nat.ble (0 + nl.length) (capN 0) with
        | false => rfl
        | true =>
          have hq2 := Nat.le_of_ble_eq_true hq
          have : capN 0 = 0 := rfl
          omega
      have hx : capX 0 = true := rfl
      have hel : elemsF A.get n 0 none = .ok [] := rfl
      simp only [List.length_nil] at hlim
      simp only [hst, hxt, hxd, cond_false, hz, R.ok_bind, hy, hnew, hble, hi, hlim, cond_true, hel, hx]
    · obtain ⟨f1, f2, -⟩ := fin .row A rfl (fun _ _ => rfl) (.inl rfl) (fun l h => by cases h)
      exact ⟨f1, f2, .inr (Nat.le_refl _), fun y _ hy => get_alloc_ne (by omega)⟩
  · have hel : elemsF A.get n ls.length (some ⟨b, 0, none⟩) = .ok ls.flatten := elemsF_valsN h3 (flat_len h4)
    obtain ⟨cs, hb', hcs⟩ := h3
    rcases h5 with rfl | ⟨rfl, hk⟩
    · have hx : capX (2 * ls.length) = true := capX_two _
      have hcn : capN (2 * ls.length) = ls.length := capN_two _
      have hble : Nat.ble (ls.length + nl.length) (capN (2 * ls.length)) = false := by
        rw [hcn]
        cases hq : Nat.ble (ls.length + nl.length) ls.length with
        | false => rfl
        | true => have := Nat.le_of_ble_eq_true hq; omega
      obtain ⟨f1, f2, f3⟩ := fin .row A rfl (fun _ _ => rfl) (.inl rfl) h4
      refine ⟨_, A.alloc (.cells e .row 0 (T.puts .e 0 (ls.flatten ++ nl.flatten))), A.next, ?_, f1, f2, .inr (Nat.le_refl _), fun y hy => f3 y (fun e => by cases hy e)⟩
      unfold appendF appendG
      simp only [hst, hxt, hxd, cond_false, hz, R.ok_bind, hy, hnew, hble, hi, hlim, cond_true, hel, hx]
    · have hble : Nat.ble (ls.length + nl.length) (capN (mkX ls.length n)) = false := by
        rw [capN_mkX hn1]
        cases hq : Nat.ble (ls.length + nl.length) ls.length with
        | false => rfl
        | true => have := Nat.le_of_ble_eq_true hq; omega
      have hx : capX (mkX ls.length n) = false := capX_mkX _ _
      have he : Nat.beq (capE (mkX ls.length n)) n = true := by rw [capE_mkX hn1]; simp
      have hall : nl.flatten.all oneCell = true := List.all_eq_true.2 h1c
      have hfz : (Nat.ble 0 (0 + ls.length * n) && (Nat.beq e e && Nat.blt 0 9223372036854775808)) = true := by
        have h0 : Nat.blt 0 9223372036854775808 = true := by rw [Nat.blt_eq]; omega
        rw [h0]; simp
      obtain ⟨f1, f2, f3⟩ := fin k (A.set b .dead) (next_set _ _ _) (fun y hy => by rw [get_setMem, if_neg hy]) hk h4
      refine ⟨_, (A.set b .dead).alloc (.cells e k 0 (T.puts .e 0 (ls.flatten ++ nl.flatten))), A.next, ?_, f1, f2, .inr (Nat.le_refl _), fun y hy => f3 y (fun e => by cases hy e)⟩
      unfold appendF appendG
      simp only [hst, hxt, hxd, cond_false, hz, R.ok_bind, hy, hnew, hble, hi, hlim, cond_true, hel, hx, he, hall, Bool.and_true, hb', hfz]
      rcases hk with rfl | rfl <;> rfl
theorem flat_ones (l : List Value) : (l.map fun v => [v]).flatten = l := by
  induction l with
  | nil => rfl
  | cons a l ih => simp only [List.map_cons, List.flatten_cons, ih, List.singleton_append]
theorem Slc.toM {A : Mem} {e : TypeId} {b : Nat} {l : List Value} {x : Value} (h : Slc A e b l x) : SlcM A e 1 b (l.map fun v => [v]) x := by
  rcases h with ⟨h1, rfl⟩ | ⟨k, c, h1, h2, h3, h4⟩
  · exact .inl ⟨h1, rfl⟩
  · refine .inr ⟨k, c, by rw [List.length_map]; exact h1, h2, by rw [flat_ones]; exact h3, fun l hl => ?_, by rw [List.length_map]; exact h4⟩
    obtain ⟨v, -, rfl⟩ := List.mem_map.1 hl
    rfl
theorem SlcM.toOne {A : Mem} {e : TypeId} {b : Nat} {l : List Value} {x : Value} (h : SlcM A e 1 b (l.map fun v => [v]) x) : Slc A e b l x := by
  rcases h with ⟨h1, h2⟩ | ⟨k, c, h1, h2, h3, _, h4⟩
  · exact .inl ⟨h1, List.map_eq_nil_iff.1 h2⟩
  · rw [List.length_map] at h1 h4
    rw [flat_ones] at h3
    exact .inr ⟨k, c, h1, h2, h3, h4⟩
theorem Slc.appends {A : Mem} {st xt e : TypeId} {xd : TypeDesc} {i : TypeInfo} {z : List Value} {m b : Nat} {l nl : List Value} {x y : Value} (h : Slc A e b l x) (hst : tb.und st = some (.slice e)) (hxt : tb.und xt = some xd) (hxd : isIntD xd = false) (hz : zcellsF tb e = .ok (1, z)) (hi : tb.ty.get e = some i) (hib : 0 < i.bytes) (hib' : i.bytes ≤ 65536)
    (hls : l.length + m ≤ 16777216) (hy : lenF y = .ok m) (hnew : firstF A.get 1 m y = .ok nl) (hm : nl.length = m) (h1c : ∀ v ∈ nl, oneCell v = true) :
    ∃ x' A' b', appendF tb A st xt x y = .ok (x', A') ∧ Slc A' e b' (l ++ nl) x' ∧ A.next ≤ A'.next ∧ (b' = b ∨ A.next ≤ b') ∧ ∀ y, (y = b → x = .slice none 0 0) → y < A.next → A'.get y = A.get y := by
  obtain ⟨x', A', b', h1, h2, h3⟩ := h.toM.appends (nl := nl.map fun v => [v]) hst hxt hxd hz hi hib hib' Nat.zero_lt_one (by omega) (by rw [List.length_map]; exact hls) hy (by rw [flat_ones]; exact hnew) (by rw [List.length_map]; exact hm) (fun l hl => by
    obtain ⟨v, -, rfl⟩ := List.mem_map.1 hl
    rfl) (by rw [flat_ones]; exact h1c)
  rw [← List.map_append] at h2
  exact ⟨x', A', b', h1, h2.toOne, h3⟩

/-! ### '==' of structs -/
theorem opF_eqlR {ih : Code → St → R (Ex × St)} {dst : Option Tmp} {ty : TypeId} {pos : String} {after : Array Edge} {g : Option (Nat × Bool)} {s : St} {k : St → R (Ex × St)} (t : TypeId) (x y : Operand) (r : TypeId) (h : basicD (tb.und t) = false) : opF tb ih { dst, op := .binOp .eql t x y r, type := ty, pos, after, guard := g } s k =
    (ev s.t x).bind fun a => (ev s.t y).bind fun b => (eqF tb s.m.get .eql t x y a b).bind fun v => putT s dst v k := by
  rw [opF_Rd (hc := by unfold cls; simp only [h, cond_false]) (hi := rfl)]
  simp only [rOp, R.bind_bind]
theorem opF_neqR {ih : Code → St → R (Ex × St)} {dst : Option Tmp} {ty : TypeId} {pos : String} {after : Array Edge} {g : Option (Nat × Bool)} {s : St} {k : St → R (Ex × St)} (t : TypeId) (x y : Operand) (r : TypeId) (h : basicD (tb.und t) = false) : opF tb ih { dst, op := .binOp .neq t x y r, type := ty, pos, after, guard := g } s k =
    (ev s.t x).bind fun a => (ev s.t y).bind fun b => (eqF tb s.m.get .neq t x y a b).bind fun v => putT s dst v k := by
  rw [opF_Rd (hc := by unfold cls; simp only [h, cond_false]) (hi := rfl)]
  simp only [rOp, R.bind_bind]
/-- The fields of a struct: is it named _, its type, its place. -/
def fieldsOf : Option TypeDesc → List (Bool × TypeId × Nat)
  | some (.struct fs) => fs.toList.map fun f => (f.name == "_", f.type, f.offset)
  | _ => []
def isStruct : Option TypeDesc → Bool
  | some (.struct _) => true
  | _ => false
noncomputable def fieldsEqS (tb : Tab) (eq : TypeId → Value → Value → R Bool) (xs ys : List Value) : List (Bool × TypeId × Nat) → R Bool
  | [] => .ok true
  | (n, t, o) :: fs => bif n then .no 85 else
    (partF tb t xs o).bind fun a => (partF tb t ys o).bind fun b => (eq t a b).bind fun
      | true => fieldsEqS tb eq xs ys fs
      | false => .ok false
theorem fieldsEq_S (eq : TypeId → Value → Value → R Bool) (xs ys : List Value) : ∀ fs : List Field, fieldsEq tb eq xs ys fs = fieldsEqS tb eq xs ys (fs.map fun f => (f.name == "_", f.type, f.offset))
  | [] => rfl
  | f :: fs => by
    have ih := fieldsEq_S eq xs ys fs
    show fieldsEq tb eq xs ys (f :: fs) = fieldsEqS tb eq xs ys ((f.name == "_", f.type, f.offset) :: fs.map fun f => (f.name == "_", f.type, f.offset))
    unfold fieldsEq fieldsEqS
    cases f.name == "_" with
    | true => rfl
    | false =>
      simp only [cond_false]
      cases partF tb f.type xs f.offset with
      | no _ => rfl
      | ok a =>
        cases partF tb f.type ys f.offset with
        | no _ => rfl
        | ok b =>
          simp only [R.ok_bind]
          cases eq f.type a b with
          | no _ => rfl
          | ok r => cases r with
            | true => exact ih
            | false => rfl
theorem equal_struct {g : Nat → Option Ob} {t : TypeId} {sh : List (Bool × TypeId × Nat)} (h1 : isStruct (tb.und t) = true) (h2 : fieldsOf (tb.und t) = sh) (h3 : tb.P.stoodInHeld t = false) (d : Nat) (xs ys : Array Value) :
    equalF tb g (d + 1) t (.agg xs) (.agg ys) = fieldsEqS tb (equalF tb g d) xs.toList ys.toList sh := by
  subst h2
  unfold equalF
  cases hu : tb.und t with
  | none => rw [hu] at h1; cases h1
  | some ds =>
    cases ds with
    | struct fs =>
      simp only [h3, cond_false]
      rw [fieldsEq_S]
      rfl
    | _ => rw [hu] at h1; cases h1
theorem equal_int {g : Nat → Option Ob} {t : TypeId} {k k' : IntKind} (h : tb.und t = some (.int k)) (d : Nat) (a b : Int) : equalF tb g (d + 1) t (.int k' a) (.int k' b) = .ok (decide (a = b)) := by
  unfold equalF
  have hk : kindEq k' k' = true := by cases k' <;> rfl
  simp only [h, hk, cond_true, ieqF_eq]
  rfl
theorem equal_str {g : Nat → Option Ob} {t : TypeId} (h : tb.und t = some .string) (d : Nat) (a b : List UInt8) : equalF tb g (d + 1) t (strOf a) (strOf b) = .ok (decide (a = b)) := by
  unfold equalF
  simp only [h, strOf, bytesEq_eq]
  congr 1
  rw [Bool.eq_iff_iff]; simp
theorem part_one {t : TypeId} {cs : List Value} {o : Nat} {d : TypeDesc} {v : Value} (h : tb.und t = some d) (ha : isAggD d = false) (hv : cs[o]? = some v) : partF tb t cs o = .ok v := by
  unfold partF
  simp only [h, ha, cond_false, hv]
end Go.Am

/-
  The abstract machine AM, part 55: slices of plain values among a law's arguments, however many; the whole world as memory.
-/
namespace Go.Am
variable {tb : Tab} (ok : TabOk tb)

/-- Values that mean the same in every memory. -/
def plainV : Value → Bool
  | .int _ _ => true
  | .string _ => true
  | .bool _ => true
  | _ => false
theorem plain_VR {ι : Inj} {v : Value} (h : plainV v = true) : VR ι v v := by
  cases v <;> first | exact .int _ _ | exact .string _ | exact .bool _ | cases h
/-- The plain ones of some cells. -/
noncomputable def keepT : List Value → Nat → T Value → T Value
  | [], _, c => c
  | v :: l, i, c => keepT l (i + 1) (bif plainV v then c.set i v else c)
theorem keepT_get : ∀ (l : List Value) (i : Nat) (c : T Value) (j : Nat), (keepT l i c).get j = if i ≤ j ∧ j < i + l.length ∧ (l[j - i]?.map plainV) = some true then l[j - i]? else c.get j
  | [], i, c, j => by
    unfold keepT
    rw [if_neg (fun h => by
      have := h.2.1
      simp only [List.length_nil] at this
      omega)]
  | v :: l, i, c, j => by
    unfold keepT
    rw [keepT_get l (i + 1)]
    by_cases hj : j = i
    · subst hj
      rw [if_neg (by omega), Nat.sub_self, List.getElem?_cons_zero]
      cases hp : plainV v with
      | true => rw [cond_true, T.get_set, if_pos rfl, if_pos ⟨Nat.le_refl _, by simp, by simp [hp]⟩]
      | false => rw [cond_false, if_neg (fun h => by simp [hp] at h)]
    · have hc : (bif plainV v then c.set i v else c).get j = c.get j := by
        cases plainV v with
        | true => rw [cond_true, T.get_set, if_neg hj]
        | false => rfl
      rw [hc]
      by_cases hij : i + 1 ≤ j
      · have e : (v :: l)[j - i]? = l[j - (i + 1)]? := by
          rw [show j - i = (j - (i + 1)) + 1 by omega, List.getElem?_cons_succ]
        rw [e]
        simp only [List.length_cons]
        by_cases hx : j < i + 1 + l.length ∧ (l[j - (i + 1)]?.map plainV) = some true
        · rw [if_pos ⟨hij, hx.1, hx.2⟩, if_pos ⟨by omega, by omega, hx.2⟩]
        · rw [if_neg (fun h => hx h.2), if_neg (fun h => hx ⟨by omega, h.2.2⟩)]
      · rw [if_neg (fun h => hij h.1), if_neg (fun h => by omega)]
theorem keep_some {l : List Value} {j : Nat} {v : Value} (h : (keepT l 0 .e).get j = some v) : l[j]? = some v ∧ plainV v = true := by
  rw [keepT_get] at h
  split at h
  · rename_i hx
    rw [Nat.sub_zero] at h hx
    rw [h] at hx
    exact ⟨h, by simpa using hx.2.2⟩
  · rw [T.get_e] at h; cases h
theorem keep_get {l : List Value} {j : Nat} {v : Value} (h : l[j]? = some v) (hp : plainV v = true) : (keepT l 0 .e).get j = some v := by
  rw [keepT_get, Nat.sub_zero, if_pos ⟨Nat.zero_le _, by have := (List.getElem?_eq_some_iff.1 h).1; omega, by rw [h]; simp [hp]⟩, h]

/-! ### A world, as memory -/
noncomputable def wOb : Obj → Ob
  | .cells cs t fr => .cells t .row (2 * (9223372036854775808 + cs.size + fr.2 + 1)) (keepT cs.toList 0 .e)
  | _ => .dead
noncomputable def wMem (w : World) (n : Nat) : Mem := ⟨T.ofList (w.heap.toList.map wOb), w.heap.size + n⟩
/-- Each row is itself; and there are blocks of nothing, that lead somewhere. -/
def wInj (w : World) (ex : List (Option Loc)) (b : Nat) : Option Loc :=
  if b < w.heap.size then match w.heap[b]? with
    | some (.cells cs _ _) => some ⟨b, 0, cs.size⟩
    | _ => none
  else (ex[b - w.heap.size]?).join
theorem wMem_get (w : World) (n b : Nat) : (wMem w n).get b = (w.heap[b]?).map wOb := by
  show (T.ofList (w.heap.toList.map wOb)).get b = _
  rw [T.get_ofList, List.getElem?_map, Array.getElem?_toList]
theorem wInj_cells {w : World} {ex : List (Option Loc)} {b : Nat} {cs : Array Value} {t : TypeId} {fr : Nat × Nat} (h : w.heap[b]? = some (.cells cs t fr)) : wInj w ex b = some ⟨b, 0, cs.size⟩ := by
  unfold wInj
  rw [if_pos (Array.getElem?_eq_some_iff.1 h).1, h]
theorem wInj_get {w : World} {ex : List (Option Loc)} {b : Nat} {o : Ob} {l : Loc} (hg : (wMem w ex.length).get b = some o) (hl : wInj w ex b = some l) : ∃ cs t fr, w.heap[b]? = some (.cells cs t fr) ∧ o = wOb (.cells cs t fr) ∧ l = ⟨b, 0, cs.size⟩ := by
  rw [wMem_get] at hg
  cases hb : w.heap[b]? with
  | none => rw [hb] at hg; cases hg
  | some o' =>
    rw [hb] at hg
    have hlt := (Array.getElem?_eq_some_iff.1 hb).1
    unfold wInj at hl
    rw [if_pos hlt, hb] at hl
    cases o' with
    | cells cs t fr =>
      cases hl
      exact ⟨cs, t, fr, rfl, (Option.some.inj hg).symm, rfl⟩
    | _ => cases hl
theorem wRel (w : World) (ex : List (Option Loc)) (hex : ∀ l, some l ∈ ex → l.blk < w.heap.size) : Rel (wInj w ex) (wMem w ex.length) w := by
  refine ⟨fun b hb => ?_, fun b o l hg _ hl => ?_, fun b l hl => ?_, fun b b' l l' hb hb' hl hl' he => ?_, fun b t k c hb => ?_⟩
  · have hb' : w.heap.size + ex.length ≤ b := hb
    rw [wMem_get, Array.getElem?_eq_none (by omega)]; rfl
  · obtain ⟨cs, t, fr, h1, rfl, rfl⟩ := wInj_get hg hl
    refine ⟨_, h1, cs, fr, rfl, rfl, fun i v hv => ?_, ?_⟩
    · obtain ⟨h2, h3⟩ := keep_some hv
      rw [Array.getElem?_toList] at h2
      exact ⟨v, h2, plain_VR h3⟩
    · show fr.2 ≤ 0 + (2 * (9223372036854775808 + cs.size + fr.2 + 1))
      omega
  · unfold wInj at hl
    split at hl
    · rename_i hlt
      split at hl
      · cases hl; exact hlt
      · cases hl
    · cases hx : ex[b - w.heap.size]? with
      | none => rw [hx] at hl; cases hl
      | some ol =>
        rw [hx] at hl
        cases ol with
        | none => cases hl
        | some l0 =>
          cases hl
          exact hex _ (List.mem_of_getElem? hx)
  · obtain ⟨o, hg, _⟩ := hb
    obtain ⟨o', hg', _⟩ := hb'
    obtain ⟨_, _, _, _, _, rfl⟩ := wInj_get hg hl
    obtain ⟨_, _, _, _, _, rfl⟩ := wInj_get hg' hl'
    exact he
  · rw [wMem_get] at hb
    cases h : w.heap[b]? with
    | none => rw [h] at hb; cases hb
    | some o =>
      rw [h] at hb
      have h2 := Option.some.inj hb
      cases o with
      | cells cs t' fr =>
        have h3 : 2 * (9223372036854775808 + cs.size + fr.2 + 1) = GB k := by injection h2
        unfold GB at h3
        omega
      | _ => cases h2
include ok in
/-- A law that answers true on the abstract machine, on the whole world as memory. -/
theorem all_true {w : World} (ex : List (Option Loc)) (hex : ∀ l, some l ∈ ex → l.blk < w.heap.size) {f : FuncId} {fn : Func} {c : Code} (hf : tb.fn.get f = some fn) (hb : fn.body = some c) {args : List Value} {args' : Array Value} (ha : VRs (wInj w ex) args args'.toList)
    (hlaw : ∃ A', CallsTo tb f args (wMem w ex.length) (.bool true) A') : Calls tb.P f args' w fun e w' => e = .returned (.bool true) ∧ Leaves w w' := by
  intro cs
  obtain ⟨A', n, hc⟩ := hlaw
  obtain ⟨e, w', fr, ⟨ι', v', he, hv, hl⟩, st⟩ := call_still ok hc hf hb args' w (wRel w ex hex) ha (fun b hb => by
    have hb' : w.heap.size + ex.length ≤ b := hb
    unfold wInj
    rw [if_neg (by omega), List.getElem?_eq_none (by omega)]
    rfl) (fun b l hb hl => by
    obtain ⟨o, hg, _⟩ := hb
    obtain ⟨cs, t, fr, h1, rfl, rfl⟩ := wInj_get hg hl
    refine ⟨?_, t, _, _, hg, by omega, ?_⟩
    · show b < w.heap.size + ex.length
      have := (Array.getElem?_eq_some_iff.1 h1).1
      omega
    · show cs.size < 2 * (9223372036854775808 + cs.size + fr.2 + 1)
      omega) cs
  cases hv
  exact ⟨e, w', fr, ⟨he, hl⟩, st⟩

/-! ### A slice that came in -/
/-- In the model: len values of n plain cells each. -/
def ParWs (w : World) (n : Nat) (a : Option Addr) (len cap : Nat) (vs : List Value) : Prop :=
  (a = none ∧ len = 0 ∧ cap = 0) ∨
  ∃ x, a = some x ∧ x.spot = none ∧ x.block < w.heap.size ∧ len ≤ cap ∧ cap < 2 ^ 63 ∧ vs.length = cap * n ∧ (∀ (i : Nat) v, vs[i]? = some v → w.cell? (x.add i) = some v) ∧ ∀ v ∈ vs, plainV v = true
/-- On the abstract machine. -/
def ParG (A : Mem) (n len : Nat) (vs : List Value) (x : Value) : Prop :=
  (x = .slice none 0 0 ∧ len = 0) ∨
  ∃ q off, x = .slice (some ⟨q, off, none⟩) len (mkX len n) ∧ q < A.next ∧ (len * n = 0 ∨ ∃ t fz c, A.get q = some (.cells t .row fz c) ∧ ∀ i, i < len * n → ∃ v, vs[i]? = some v ∧ c.get (off + i) = some v)
def dumL (a : Option Addr) (cap n : Nat) : Option Loc := a.map fun x => ⟨x.block, x.off, x.off + cap * n⟩
theorem dum_lt {w : World} {n : Nat} {a : Option Addr} {len cap : Nat} {vs : List Value} (h : ParWs w n a len cap vs) {l : Loc} (hl : some l = dumL a cap n) : l.blk < w.heap.size := by
  rcases h with ⟨rfl, _⟩ | ⟨x, rfl, _, h, _⟩
  · cases hl
  · cases hl; exact h
theorem par_one {w : World} {n : Nat} {a : Option Addr} {len cap : Nat} {vs : List Value} (hn : n < 65536) (h : ParWs w n a len cap vs) {ex : List (Option Loc)} {j : Nat} (hj : ex[j]? = some (dumL a cap n)) :
    ∃ x, VR (wInj w ex) x (.slice a len cap) ∧ ParG (wMem w ex.length) n len vs x := by
  have hjl := (List.getElem?_eq_some_iff.1 hj).1
  rcases h with ⟨rfl, rfl, rfl⟩ | ⟨x, rfl, hsp, hblk, hlc, hcap, hlen, hcell, hpl⟩
  · exact ⟨.slice none 0 0, .slN, .inl ⟨rfl, rfl⟩⟩
  · obtain ⟨xb, xo, xs⟩ := x
    simp only at hsp hblk
    subst hsp
    by_cases h0 : len * n = 0
    · refine ⟨.slice (some ⟨w.heap.size + j, 0, none⟩) len (mkX len n), ?_, .inr ⟨_, _, rfl, by show w.heap.size + j < w.heap.size + ex.length; omega, .inl h0⟩⟩
      have h1 : capN (mkX len n) = len := capN_mkX hn
      have h2 : capE (mkX len n) = n := capE_mkX hn
      refine VR.slX (l := ⟨xb, xo, xo + cap * n⟩) (o' := xo) ?_ (capX_mkX _ _) (by rw [h1]; exact hlc) (by rw [h2]; exact Nat.le_refl _) (fun _ => by simp) hcap (by rw [h1]; exact Nat.le_refl _)
      unfold wInj
      rw [if_neg (by omega), Nat.add_sub_cancel_left, hj]
      rfl
    · have hpos : 0 < cap * n := by
        have hn0 : 0 < n := Nat.pos_of_ne_zero fun e => h0 (by rw [e, Nat.mul_zero])
        have hl0 : 0 < len := Nat.pos_of_ne_zero fun e => h0 (by rw [e, Nat.zero_mul])
        exact Nat.mul_pos (by omega) hn0
      have hle : len * n ≤ cap * n := Nat.mul_le_mul_right n hlc
      have hv : ∀ i, i < cap * n → ∃ v, vs[i]? = some v := fun i hi => ⟨_, List.getElem?_eq_getElem (show i < vs.length by omega)⟩
      have hc0 := hv 0 hpos
      obtain ⟨v0, hv0⟩ := hc0
      have hw0 := hcell 0 v0 hv0
      rw [Addr_add_mk] at hw0
      unfold World.cell? at hw0
      split at hw0
      · rename_i cs t fr hw
        have hw' : w.heap[xb]? = some (.cells cs t fr) := hw
        have hcs : ∀ i v, vs[i]? = some v → cs[xo + i]? = some v := by
          intro i v hi
          have h := hcell i v hi
          rw [Addr_add_mk] at h
          unfold World.cell? at h
          simp only [hw', Option.isSome_none, Bool.false_eq_true, if_false] at h
          exact h
        have hsz : xo + cap * n ≤ cs.size := by
          obtain ⟨v, hv⟩ := hv (cap * n - 1) (by omega)
          have := (Array.getElem?_eq_some_iff.1 (hcs _ _ hv)).1
          omega
        have h1 : capN (mkX len n) = len := capN_mkX hn
        have h2 : capE (mkX len n) = n := capE_mkX hn
        refine ⟨.slice (some ⟨xb, xo, none⟩) len (mkX len n), VR.slX (l := ⟨xb, 0, cs.size⟩) (o' := xo) (wInj_cells hw') (capX_mkX _ _) (by rw [h1]; exact hlc) (by rw [h2]; exact hsz) (fun _ => by simp) hcap (by rw [h1]; exact Nat.le_refl _), .inr ⟨xb, xo, rfl, by show xb < w.heap.size + ex.length; omega, .inr ⟨t, _, _, by rw [wMem_get, hw']; rfl, fun i hi => ?_⟩⟩⟩
        obtain ⟨v, hvi⟩ := hv i (by omega)
        refine ⟨v, hvi, keep_get ?_ (hpl v (List.mem_of_getElem? hvi))⟩
        rw [Array.getElem?_toList]
        exact hcs i v hvi
      · cases hw0
theorem ParW.toWs {k : IntKind} {w : World} {a : Option Addr} {len cap : Nat} {zs : List Int} (h : ParW k w a len cap zs) : ParWs w 1 a len cap (zs.map (.int k)) := by
  rcases h with ⟨h1, h2, h3, -⟩ | ⟨x, h1, h2, h3, h4, h5, h6, h7⟩
  · exact .inl ⟨h1, h2, h3⟩
  · refine .inr ⟨x, h1, h2, h3, h4, h5, by rw [List.length_map, h6, Nat.mul_one], fun i v hi => ?_, fun v hv => ?_⟩
    · have hl : i < zs.length := by
        have := (List.getElem?_eq_some_iff.1 hi).1
        rwa [List.length_map] at this
      rw [h7 i hl]
      rw [List.getElem?_map, List.getElem?_eq_getElem hl] at hi
      simp only [Option.map_some, Option.some.injEq] at hi
      rw [← hi]
      simp [List.getD, List.getElem?_eq_getElem hl]
    · obtain ⟨z, -, rfl⟩ := List.mem_map.1 hv
      rfl
end Go.Am

/-
  The abstract machine AM, part 56: nil checks; sums of any integers.
-/
namespace Go.Am
variable {tb : Tab}

def nilF (x : Value) : R Value := match x with
  | .pointer (some a) => .ok (.pointer (some a))
  | .iface a b => .ok (.iface a b)
  | .map a => .ok (.map a)
  | .func (.func f) a b => .ok (.func (.func f) a b)
  | .func (.yield f) a b => .ok (.func (.yield f) a b)
  | _ => .no 213
theorem nil_ptr (a : Addr) : nilF (.pointer (some a)) = .ok (.pointer (some a)) := rfl
theorem opF_nilCheck {ih : Code → St → R (Ex × St)} {dst : Option Tmp} {ty : TypeId} {pos : String} {after : Array Edge} {g : Option (Nat × Bool)} {s : St} {k : St → R (Ex × St)} (x : Operand) : opF tb ih { dst, op := .nilCheck x, type := ty, pos, after, guard := g } s k =
    (ev s.t x).bind fun a => (nilF a).bind fun v => putT s dst v k := by
  rw [opF_P (hc := rfl) (hi := rfl)]
  simp only [pOp, R.bind_bind]
  rfl
theorem op_addI {a b : Int} (h1 : -9223372036854775808 ≤ a + b) (h2 : a + b ≤ 9223372036854775807) : intOpF .add .i64 a b = .ok (.int .i64 (a + b)) := by
  show R.ok (Value.int .i64 (wrapF .i64 (a + b))) = _
  rw [wrapF_eq, wrap_in h1 h2]
end Go.Am
