/-
  The abstract machine AM: a machine for programs of the model that draws nothing and moves no block; and the proof that what it answers the model answers.
  Part G: no conditions.
-/
import Derived.Test.YtnelkapmmgggdaaGreatAmF

/-
 The abstract machine AM, part 53: values of several cells in memory; slices of them.
-/
namespace Go.Am
variable {tb : Tab}

theorem stores_all (m : Nat) : ∀ (vs : List Value) (i : Nat) (c : T Value), (∀ v ∈ vs, oneCell v = true) → (∀ j, j < vs.length → ∃ y, c.get (i + j) = some y) → storesF m 0 vs i c = .ok (c.puts i vs)
 | [], _, _, _, _ => rfl
 | v :: vs, i, c, h1, h2 => by
  unfold storesF
  have hb : (oneCell v && Nat.ble 0 i) = true := by rw [h1 v (List.mem_cons_self ..)]; simp
  obtain ⟨y, hy⟩ := h2 0 (by simp)
  rw [Nat.add_zero] at hy
  rw [hb, cond_true, hy]
  refine stores_all m vs (i + 1) (c.set i v) (fun w hw => h1 w (List.mem_cons_of_mem _ hw)) fun j hj => ?_
  rw [T.get_set]
  by_cases e : i + 1 + j = i
  ·omega
  ·rw [if_neg e]
   obtain ⟨y, hy⟩ := h2 (j + 1) (by simp; omega)
   exact ⟨y, by rw [← hy]; congr 1; omega⟩
theorem store_all {A : Mem} {e t : TypeId} {b : Nat} {k : Kd} {l l' : List Value} (hs : sizeF tb t = .ok l.length) (h : Vals A e b k l) (hl : l'.length = l.length) (h0 : l ≠ []) (h1 : ∀ v ∈ l', oneCell v = true) :
  ∃ A', storeF tb A t (.pointer (some ⟨b, 0, none⟩)) (.agg ⟨l'⟩) = .ok A' ∧ Vals A' e b k l' ∧ A'.next = A.next ∧ ∀ x, x ≠ b → A'.get x = A.get x := by
 obtain ⟨c, h2, h3⟩ := h
 have hst : storesF (roomK k) 0 l' 0 c = .ok (c.puts 0 l') := stores_all _ l' 0 c h1 fun j hj => by
  rw [Nat.zero_add, h3 j (by omega), List.getElem?_eq_getElem (show j < l.length by omega)]
  exact ⟨_, rfl⟩
 refine ⟨A.set b (.cells e k 0 (c.puts 0 l')), ?_, ⟨_, by rw [get_setMem, if_pos rfl], fun i hi => ?_⟩, next_set _ _ _, fun x hx => by rw [get_setMem, if_neg hx]⟩
 ·unfold storeF
  have hc : (Value.agg ⟨l'⟩).cells.toList = l' := rfl
  simp only [hs, R.ok_bind, hc]
  have hb : Nat.beq l'.length l.length = true := by rw [hl]; simp
  rw [hb, cond_true]
  cases l' with
  | nil => cases l with
   | nil => exact absurd rfl h0
   | cons _ _ => simp at hl
  | cons v vs =>
   unfold storeAtF
   simp only [h2, hst, R.ok_bind]
 ·rw [T.get_puts, if_pos ⟨Nat.zero_le _, by omega⟩, Nat.sub_zero]
theorem load_all {A : Mem} {e t : TypeId} {b : Nat} {k : Kd} {l : List Value} {d : TypeDesc} (hu : tb.und t = some d) (ha : isAggD d = true) (hs : sizeF tb t = .ok l.length) (h : Vals A e b k l) : loadF tb A.get t (.pointer (some ⟨b, 0, none⟩)) = .ok (.agg ⟨l⟩) := by
 obtain ⟨c, h1, h2⟩ := h
 have hg : c.gets l.length 0 = some l := gets_eq _ _ _ _ rfl fun j hj => by rw [Nat.zero_add]; exact h2 j hj
 unfold loadF
 simp only [h1, hu, ha, cond_true, hs, R.ok_bind, hg]
theorem flat_len {n : Nat} : ∀ {ls : List (List Value)}, (∀ l ∈ ls, l.length = n) → ls.flatten.length = ls.length * n
 | [], _ => by simp
 | l :: ls, h => by
  rw [List.flatten_cons, List.length_append, flat_len (fun x hx => h x (List.mem_cons_of_mem _ hx)), h l (List.mem_cons_self ..), List.length_cons, Nat.add_mul, Nat.one_mul, Nat.add_comm]
theorem flat_get {n : Nat} : ∀ {ls : List (List Value)} {i j : Nat} {l : List Value}, (∀ l ∈ ls, l.length = n) → ls[i]? = some l → j < n → ls.flatten[i * n + j]? = l[j]?
 | [], i, j, l, _, hi, _ => by simp at hi
 | l0 :: ls, 0, j, l, h, hi, hj => by
  simp only [List.getElem?_cons_zero, Option.some.injEq] at hi
  subst hi
  rw [List.flatten_cons, Nat.zero_mul, Nat.zero_add, List.getElem?_append_left (by rw [h _ (List.mem_cons_self ..)]; exact hj)]
 | l0 :: ls, i + 1, j, l, h, hi, hj => by
  simp only [List.getElem?_cons_succ] at hi
  have hl0 := h l0 (List.mem_cons_self ..)
  rw [List.flatten_cons, List.getElem?_append_right (by rw [hl0, Nat.add_mul]; omega), hl0, show (i + 1) * n + j - n = i * n + j by rw [Nat.add_mul, Nat.one_mul]; omega]
  exact flat_get (fun x hx => h x (List.mem_cons_of_mem _ hx)) hi hj

def SlcM (A : Mem) (e : TypeId) (n b : Nat) (ls : List (List Value)) (x : Value) : Prop :=
 (x = .slice none 0 0 ∧ ls = []) ∨ ∃ k c, x = .slice (some ⟨b, 0, none⟩) ls.length c ∧ b < A.next ∧ Vals A e b k ls.flatten ∧ (∀ l ∈ ls, l.length = n) ∧ (c = 2 * ls.length ∨ (c = mkX ls.length n ∧ (k = .row ∨ k = .mark)))
theorem SlcM.same {A A' : Mem} {e : TypeId} {n b : Nat} {ls : List (List Value)} {x : Value} (h : SlcM A e n b ls x) (hn : A.next ≤ A'.next) (hg : b < A.next → A'.get b = A.get b) : SlcM A' e n b ls x := by
 rcases h with h | ⟨k, c, h1, h2, h3, h4⟩
 ·exact .inl h
 ·exact .inr ⟨k, c, h1, Nat.lt_of_lt_of_le h2 hn, h3.same (hg h2), h4⟩
theorem SlcM.len {A : Mem} {e t t' : TypeId} {n b : Nat} {ls : List (List Value)} {x : Value} (h : SlcM A e n b ls x) (hu : tb.und t = some (.slice t')) : builtinPF tb .len [t] [x] = .ok (.int .i64 ((ls.length : Nat) : Int)) := by
 rcases h with ⟨rfl, rfl⟩ | ⟨k, c, rfl, -⟩ <;> exact len_slc hu
theorem SlcM.idx {A : Mem} {e t t' : TypeId} {n b i : Nat} {kd : IntKind} {ls : List (List Value)} {x : Value} (h : SlcM A e n b ls x) (hu : tb.und t = some (.slice t')) (hs : sizeF tb t' = .ok n) (hi : i < ls.length) :
  indexAddrF tb t x (.int kd (i : Int)) = .ok (.pointer (some ⟨b, i * n, none⟩)) := by
 rcases h with ⟨rfl, rfl⟩ | ⟨k, c, rfl, -⟩
 ·simp at hi
 ·have hb : Nat.blt i ls.length = true := by rw [Nat.blt_eq]; exact hi
  have hn : natV (.int kd (i : Int)) = .ok i := rfl
  unfold indexAddrF
  simp only [hn, hu, hb, cond_true, hs, R.ok_bind, addA, Nat.zero_add]
theorem SlcM.load {A : Mem} {e t : TypeId} {d : TypeDesc} {n b i j : Nat} {ls : List (List Value)} {l : List Value} {x v : Value} (h : SlcM A e n b ls x) (hu : tb.und t = some d) (ha : isAggD d = false) (hi : ls[i]? = some l) (hj : l[j]? = some v) (hjn : j < n) :
  loadF tb A.get t (.pointer (some ⟨b, i * n + j, none⟩)) = .ok v := by
 rcases h with ⟨rfl, rfl⟩ | ⟨k, c, rfl, h2, h3, h4, -⟩
 ·simp at hi
 ·exact load_vals hu ha h3 (by rw [flat_get h4 hi hjn]; exact hj)
theorem SlcM.load_all {A : Mem} {e t : TypeId} {d : TypeDesc} {n b i : Nat} {ls : List (List Value)} {l : List Value} {x : Value} (h : SlcM A e n b ls x) (hu : tb.und t = some d) (ha : isAggD d = true) (hs : sizeF tb t = .ok n) (hi : ls[i]? = some l) :
  loadF tb A.get t (.pointer (some ⟨b, i * n, none⟩)) = .ok (.agg ⟨l⟩) := by
 rcases h with ⟨rfl, rfl⟩ | ⟨k, c, rfl, h2, ⟨cs, h5, h6⟩, h4, -⟩
 ·simp at hi
 ·have hl : l.length = n := h4 l (List.mem_of_getElem? hi)
  have hlen := flat_len h4
  have hil : i < ls.length := (List.getElem?_eq_some_iff.1 hi).1
  have hg : cs.gets n (i * n) = some l := gets_eq _ _ _ _ hl fun j hj => by
   rw [h6 (i * n + j) (by
    rw [hlen]
    have := Nat.mul_le_mul_right n (show i + 1 ≤ ls.length from hil)
    rw [Nat.add_mul, Nat.one_mul] at this
    omega), flat_get h4 hi hj]
  unfold loadF
  simp only [h5, hu, ha, cond_true, hs, R.ok_bind, hg]
theorem elemsF_valsN {A : Mem} {e : TypeId} {b n m : Nat} {k : Kd} {l : List Value} (h : Vals A e b k l) (hl : l.length = m * n) : elemsF A.get n m (some ⟨b, 0, none⟩) = .ok l := by
 obtain ⟨c, h1, h2⟩ := h
 unfold elemsF
 simp only []
 cases hn : Nat.beq (m * n) 0 with
 | true =>
  have : l = [] := List.length_eq_zero_iff.1 (by rw [hl]; exact Nat.eq_of_beq_eq_true hn)
  subst this; rfl
 | false =>
  have hg : c.gets (m * n) 0 = some l := gets_eq _ _ _ _ hl fun j hj => by rw [Nat.zero_add]; exact h2 j (by omega)
  simp only [cond_false, h1, hg]
theorem SlcM.append {A : Mem} {st xt e : TypeId} {i : TypeInfo} {z l : List Value} {n b b2 : Nat} {ls : List (List Value)} {x : Value} (h : SlcM A e n b ls x) (hst : tb.und st = some (.slice e)) (hxt : tb.und xt = some (.slice e)) (hz : zcellsF tb e = .ok (n, z)) (hi : tb.ty.get e = some i) (hib : 0 < i.bytes) (hib' : i.bytes ≤ 65536)
  (hn0 : 0 < n) (hn1 : n < 65536) (hls : ls.length < 16777216) (hb2 : A.get b2 = some (rowOb e l)) (hl : l.length = n) (h1c : ∀ v ∈ l, oneCell v = true) :
  ∃ x' A', appendF tb A st xt x (.slice (some ⟨b2, 0, none⟩) 1 2) = .ok (x', A') ∧ SlcM A' e n A.next (ls ++ [l]) x' ∧ A'.next = A.next + 1 ∧ ∀ y, (y = b → x = .slice none 0 0) → y < A.next → A'.get y = A.get y := by
 have hnew : firstF A.get n 1 (.slice (some ⟨b2, 0, none⟩) 1 2) = .ok l := elemsF_valsN (vals_puts (e := e) (k := .var l.length) hb2) (by rw [Nat.one_mul]; exact hl)
 have hlim : (Nat.ble (ls.length + 1) 16777216 && Nat.ble i.bytes 65536 && Nat.blt 0 i.bytes && Nat.blt 0 n && Nat.blt n 65536) = true := by
  have a1 : Nat.ble (ls.length + 1) 16777216 = true := Nat.ble_eq_true_of_le (by omega)
  have a2 : Nat.ble i.bytes 65536 = true := Nat.ble_eq_true_of_le hib'
  have a3 : Nat.blt 0 i.bytes = true := by rw [Nat.blt_eq]; exact hib
  have a4 : Nat.blt 0 n = true := by rw [Nat.blt_eq]; exact hn0
  have a5 : Nat.blt n 65536 = true := by rw [Nat.blt_eq]; exact hn1
  rw [a1, a2, a3, a4, a5]; rfl
 have hfl : (ls ++ [l]).flatten = ls.flatten ++ l := by simp
 have fin : ∀ (k' : Kd) (A0 : Mem), A0.next = A.next → (∀ y, y ≠ b → A0.get y = A.get y) → (k' = .row ∨ k' = .mark) → (∀ l ∈ ls, l.length = n) →
   SlcM (A0.alloc (.cells e k' 0 (T.puts .e 0 (ls.flatten ++ l)))) e n A.next (ls ++ [l]) (.slice (some ⟨A.next, 0, none⟩) (ls.length + 1) (mkX (ls.length + 1) n)) ∧ (A0.alloc (.cells e k' 0 (T.puts .e 0 (ls.flatten ++ l)))).next = A.next + 1 ∧ ∀ y, y ≠ b → y < A.next → (A0.alloc (.cells e k' 0 (T.puts .e 0 (ls.flatten ++ l)))).get y = A.get y := by
  intro k' A0 hn hg hk' hall
  refine ⟨.inr ⟨k', _, by rw [List.length_append]; rfl, by rw [next_alloc]; omega, vals_puts ?_, fun y hy => ?_, .inr ⟨by rw [List.length_append]; rfl, hk'⟩⟩, by rw [next_alloc, hn], fun y hy hlt => ?_⟩
  ·rw [hfl, ← hn]; exact get_alloc_self _ _
  ·rcases List.mem_append.1 hy with h | h
   ·exact hall y h
   ·rw [List.mem_singleton.1 h]; exact hl
  ·rw [get_alloc_ne (by omega), hg y hy]
 rcases h with ⟨rfl, rfl⟩ | ⟨k, c, rfl, h2, h3, h4, h5⟩
 ·refine ⟨.slice (some ⟨A.next, 0, none⟩) 1 (mkX 1 n), A.alloc (.cells e .row 0 (T.puts .e 0 ([] ++ l))), ?_, ?_⟩
  ·unfold appendF appendG
   have hble : Nat.ble (0 + 1) (capN 0) = false := rfl
   have hx : capX 0 = true := rfl
   have hel : elemsF A.get n 0 none = .ok [] := rfl
   simp only [hst, hxt, isIntD, cond_false, hz, R.ok_bind, lenF, hnew, hble, hi]
   simp only [List.length_nil, Nat.zero_add] at hlim
   simp only [Nat.zero_add, hlim, cond_true, hel, R.ok_bind, hx]
  ·obtain ⟨f1, f2, -⟩ := fin .row A rfl (fun _ _ => rfl) (.inl rfl) (fun l h => by cases h)
   exact ⟨f1, f2, fun y _ hy => get_alloc_ne (by omega)⟩
 ·have hel : elemsF A.get n ls.length (some ⟨b, 0, none⟩) = .ok ls.flatten := elemsF_valsN h3 (flat_len h4)
  obtain ⟨cs, hb', hcs⟩ := h3
  rcases h5 with rfl | ⟨rfl, hk⟩
  ·have hx : capX (2 * ls.length) = true := by show Nat.beq (2 * ls.length % 2) 0 = true; rw [Nat.mul_mod_right]; rfl
   have hcn : capN (2 * ls.length) = ls.length := by unfold capN; rw [hx, cond_true]; show 2 * ls.length / 2 = ls.length; omega
   have hble : Nat.ble (ls.length + 1) (capN (2 * ls.length)) = false := by
    rw [hcn]
    cases hq : Nat.ble (ls.length + 1) ls.length with
    | false => rfl
    | true => have := Nat.le_of_ble_eq_true hq; omega
   refine ⟨_, A.alloc (.cells e .row 0 (T.puts .e 0 (ls.flatten ++ l))), ?_, (fin .row A rfl (fun _ _ => rfl) (.inl rfl) h4).1, (fin .row A rfl (fun _ _ => rfl) (.inl rfl) h4).2.1, fun y hy => (fin .row A rfl (fun _ _ => rfl) (.inl rfl) h4).2.2 y (fun e => by cases hy e)⟩
   unfold appendF appendG
   simp only [hst, hxt, isIntD, cond_false, hz, R.ok_bind, lenF, hnew, hble, hi, hlim, cond_true, hel, hx]
  ·have hble : Nat.ble (ls.length + 1) (capN (mkX ls.length n)) = false := by
    rw [capN_mkX hn1]
    cases hq : Nat.ble (ls.length + 1) ls.length with
    | false => rfl
    | true => have := Nat.le_of_ble_eq_true hq; omega
   have hx : capX (mkX ls.length n) = false := capX_mkX _ _
   have he : Nat.beq (capE (mkX ls.length n)) n = true := by rw [capE_mkX hn1]; simp
   have hall : l.all oneCell = true := List.all_eq_true.2 h1c
   have hfz : (Nat.ble 0 (0 + ls.length * n) && (Nat.beq e e && Nat.blt 0 9223372036854775808)) = true := by
    have h0 : Nat.blt 0 9223372036854775808 = true := by rw [Nat.blt_eq]; omega
    rw [h0]; simp
   refine ⟨_, (A.set b .dead).alloc (.cells e k 0 (T.puts .e 0 (ls.flatten ++ l))), ?_, (fin k (A.set b .dead) (next_set _ _ _) (fun y hy => by rw [get_setMem, if_neg hy]) hk h4).1, (fin k (A.set b .dead) (next_set _ _ _) (fun y hy => by rw [get_setMem, if_neg hy]) hk h4).2.1, fun y hy => (fin k (A.set b .dead) (next_set _ _ _) (fun y hy => by rw [get_setMem, if_neg hy]) hk h4).2.2 y (fun e => by cases hy e)⟩
   unfold appendF appendG
   simp only [hst, hxt, isIntD, cond_false, hz, R.ok_bind, lenF, hnew, hble, hi, hlim, cond_true, hel, hx, he, hall, Bool.and_true, hb', hfz]
   rcases hk with rfl | rfl <;> rfl

end Go.Am

/-
 The abstract machine AM, part 54: slices that are read only; '==' of structs.
-/
namespace Go.Am
variable {tb : Tab}

def RowM (A : Mem) (e : TypeId) (n b : Nat) (ls : List (List Value)) (x : Value) : Prop :=
 (x = .slice none 0 0 ∧ ls = []) ∨ ∃ k c ex, x = .slice (some ⟨b, 0, none⟩) ls.length c ∧ b < A.next ∧ Vals A e b k (ls.flatten ++ ex) ∧ (∀ l ∈ ls, l.length = n) ∧ capFit c n = true ∧ ls.length ≤ capN c
theorem SlcM.toRow {A : Mem} {e : TypeId} {n b : Nat} {ls : List (List Value)} {x : Value} (hn : n < 65536) (h : SlcM A e n b ls x) : RowM A e n b ls x := by
 rcases h with h | ⟨k, c, h1, h2, h3, h4, h5⟩
 ·exact .inl h
 ·refine .inr ⟨k, c, [], h1, h2, by rw [List.append_nil]; exact h3, h4, ?_, ?_⟩
  ·rcases h5 with rfl | ⟨rfl, _⟩
   ·unfold capFit; rw [capX_two]; rfl
   ·unfold capFit; rw [capX_mkX, capE_mkX hn, cond_false]; exact Nat.beq_refl n
  ·rcases h5 with rfl | ⟨rfl, _⟩
   ·rw [capN_two]; exact Nat.le_refl _
   ·rw [capN_mkX hn]; exact Nat.le_refl _
theorem RowM.same {A A' : Mem} {e : TypeId} {n b : Nat} {ls : List (List Value)} {x : Value} (h : RowM A e n b ls x) (hn : A.next ≤ A'.next) (hg : b < A.next → A'.get b = A.get b) : RowM A' e n b ls x := by
 rcases h with h | ⟨k, c, ex, h1, h2, h3, h4⟩
 ·exact .inl h
 ·exact .inr ⟨k, c, ex, h1, Nat.lt_of_lt_of_le h2 hn, h3.same (hg h2), h4⟩
theorem RowM.len {A : Mem} {e t t' : TypeId} {n b : Nat} {ls : List (List Value)} {x : Value} (h : RowM A e n b ls x) (hu : tb.und t = some (.slice t')) : builtinPF tb .len [t] [x] = .ok (.int .i64 ((ls.length : Nat) : Int)) := by
 rcases h with ⟨rfl, rfl⟩ | ⟨k, c, ex, rfl, -⟩ <;> exact len_slc hu
theorem RowM.idx {A : Mem} {e t t' : TypeId} {n b i : Nat} {kd : IntKind} {ls : List (List Value)} {x : Value} (h : RowM A e n b ls x) (hu : tb.und t = some (.slice t')) (hs : sizeF tb t' = .ok n) (hi : i < ls.length) :
  indexAddrF tb t x (.int kd (i : Int)) = .ok (.pointer (some ⟨b, i * n, none⟩)) := by
 rcases h with ⟨rfl, rfl⟩ | ⟨k, c, ex, rfl, -⟩
 ·simp at hi
 ·have hb : Nat.blt i ls.length = true := by rw [Nat.blt_eq]; exact hi
  have hn : natV (.int kd (i : Int)) = .ok i := rfl
  unfold indexAddrF
  simp only [hn, hu, hb, cond_true, hs, R.ok_bind, addA, Nat.zero_add]
theorem flat_lt {n i j : Nat} {ls : List (List Value)} (h : ∀ l ∈ ls, l.length = n) (hi : i < ls.length) (hj : j < n) : i * n + j < ls.flatten.length := by
 rw [flat_len h]
 have := Nat.mul_le_mul_right n (show i + 1 ≤ ls.length from hi)
 rw [Nat.add_mul, Nat.one_mul] at this
 omega
theorem RowM.load_all {A : Mem} {e t : TypeId} {d : TypeDesc} {n b i : Nat} {ls : List (List Value)} {l : List Value} {x : Value} (h : RowM A e n b ls x) (hu : tb.und t = some d) (ha : isAggD d = true) (hs : sizeF tb t = .ok n) (hi : ls[i]? = some l) :
  loadF tb A.get t (.pointer (some ⟨b, i * n, none⟩)) = .ok (.agg ⟨l⟩) := by
 rcases h with ⟨rfl, rfl⟩ | ⟨k, c, ex, rfl, h2, ⟨cs, h5, h6⟩, h4, -⟩
 ·simp at hi
 ·have hl : l.length = n := h4 l (List.mem_of_getElem? hi)
  have hil : i < ls.length := (List.getElem?_eq_some_iff.1 hi).1
  have hg : cs.gets n (i * n) = some l := gets_eq _ _ _ _ hl fun j hj => by
   have hlt := flat_lt h4 hil hj
   rw [h6 (i * n + j) (by rw [List.length_append]; omega), List.getElem?_append_left hlt, flat_get h4 hi hj]
  unfold loadF
  simp only [h5, hu, ha, cond_true, hs, R.ok_bind, hg]
theorem RowM.cells {A : Mem} {e : TypeId} {n b : Nat} {ls : List (List Value)} {x : Value} (h : RowM A e n b ls x) : x.cells.toList = [x] ∧ oneCell x = true := by
 rcases h with ⟨rfl, -⟩ | ⟨k, c, ex, rfl, -⟩ <;> exact ⟨rfl, rfl⟩
theorem RowM.self {A : Mem} {e : TypeId} {n b : Nat} {ls : List (List Value)} {x : Value} (h : RowM A e n b ls x) (d : Nat) : sameV (d + 1) x x = true := by
 rcases h with ⟨rfl, -⟩ | ⟨k, c, ex, rfl, -⟩
 ·rfl
 ·exact sameV_slc _ _ _ _
theorem RowM.cut {A : Mem} {e t t' : TypeId} {n m b : Nat} {ls : List (List Value)} {x : Value} (h : RowM A e n b ls x) (hu : tb.und t = some (.slice t')) (hs : sizeF tb t' = .ok n) (hm : m ≤ ls.length) :
  ∃ x', sliceF tb t x none (some (.int .i64 (m : Int))) none = .ok x' ∧ RowM A e n b (ls.take m) x' := by
 rcases h with ⟨rfl, rfl⟩ | ⟨k, c, ex, rfl, h2, h3, h4, h5, h6⟩
 ·have hm0 : m = 0 := by simpa using hm
  subst hm0
  refine ⟨.slice none 0 0, ?_, .inl ⟨rfl, rfl⟩⟩
  have e1 : bound (some (.int .i64 ((0 : Nat) : Int))) 0 (capN 0) = .ok 0 := bound_some (Nat.zero_le _)
  unfold sliceF
  simp only [hu, e1, R.ok_bind, bound_none, hs]
 ·have hl : (ls.take m).length = m := by rw [List.length_take]; omega
  have e1 : bound (some (.int .i64 (m : Int))) ls.length (capN c) = .ok m := bound_some (by omega)
  have hall : ∀ l ∈ ls.take m, l.length = n := fun l hl => h4 l (List.mem_of_mem_take hl)
  have hfl : ls.flatten ++ ex = (ls.take m).flatten ++ ((ls.drop m).flatten ++ ex) := by
   rw [← List.append_assoc, ← List.flatten_append, List.take_append_drop]
  rw [hfl] at h3
  cases hx : capX c && Nat.beq (capN c) 0 with
  | true =>
   have hc1 : capN c = 0 := Nat.eq_of_beq_eq_true (Bool.and_eq_true_iff.1 hx).2
   have hm0 : m = 0 := by omega
   subst hm0
   refine ⟨.slice (some ⟨b, 0, none⟩) 0 0, ?_, .inr ⟨k, 0, _, by rw [hl], h2, h3, hall, rfl, by rw [hl]; exact Nat.zero_le _⟩⟩
   unfold sliceF
   simp only [hu, e1, R.ok_bind, bound_none, hs, hx, cond_true, Nat.sub_zero]
  | false =>
   refine ⟨.slice (some ⟨b, 0, none⟩) m (capSub c 0), ?_, .inr ⟨k, _, _, by rw [hl], h2, h3, hall, ?_, by rw [capN_sub]; omega⟩⟩
   ·unfold sliceF
    simp only [hu, e1, R.ok_bind, bound_none, hs, hx, cond_false, h5, cond_true, addA, Nat.zero_mul, Nat.add_zero, Nat.sub_zero]
   ·unfold capFit
    unfold capFit at h5
    rw [capX_sub]
    cases hcx : capX c with
    | true => rfl
    | false =>
     rw [hcx, cond_false] at h5
     have he : capE c = n := Nat.eq_of_beq_eq_true h5
     have hlt : capE c < 65536 := Nat.mod_lt _ (by omega)
     unfold capSub
     rw [hcx, cond_false, cond_false, capE_mkX hlt, he]
     exact Nat.beq_refl n

theorem opF_eqlR {ih : Code → St → R (Ex × St)} {dst : Option Tmp} {ty : TypeId} {pos : String} {after : Array Edge} {g : Option (Nat × Bool)} {s : St} {k : St → R (Ex × St)} (t : TypeId) (x y : Operand) (r : TypeId) (h : basicD (tb.und t) = false) : opF tb ih { dst, op := .binOp .eql t x y r, type := ty, pos, after, guard := g } s k =
  (ev s.t x).bind fun a => (ev s.t y).bind fun b => (eqF tb s.m.get .eql t x y a b).bind fun v => putT s dst v k := by
 rw [opF_Rd (hc := by unfold cls; simp only [h, cond_false]) (hi := rfl)]
 simp only [rOp, R.bind_bind]
theorem opF_neqR {ih : Code → St → R (Ex × St)} {dst : Option Tmp} {ty : TypeId} {pos : String} {after : Array Edge} {g : Option (Nat × Bool)} {s : St} {k : St → R (Ex × St)} (t : TypeId) (x y : Operand) (r : TypeId) (h : basicD (tb.und t) = false) : opF tb ih { dst, op := .binOp .neq t x y r, type := ty, pos, after, guard := g } s k =
  (ev s.t x).bind fun a => (ev s.t y).bind fun b => (eqF tb s.m.get .neq t x y a b).bind fun v => putT s dst v k := by
 rw [opF_Rd (hc := by unfold cls; simp only [h, cond_false]) (hi := rfl)]
 simp only [rOp, R.bind_bind]
def fieldsOf : Option TypeDesc → List (Bool × TypeId × Nat)
 | some (.struct fs) => fs.toList.map fun f => (f.name == "_", f.type, f.offset)
 | _ => []
def isStruct : Option TypeDesc → Bool
 | some (.struct _) => true
 | _ => false
noncomputable def fieldsEqS (tb : Tab) (eq : TypeId → Value → Value → R Bool) (xs ys : List Value) : List (Bool × TypeId × Nat) → R Bool
 | [] => .ok true
 | (n, t, o) :: fs => bif n then .no 85 else
  (partF tb t xs o).bind fun a => (partF tb t ys o).bind fun b => (eq t a b).bind fun
   | true => fieldsEqS tb eq xs ys fs
   | false => .ok false
theorem fieldsEq_S (eq : TypeId → Value → Value → R Bool) (xs ys : List Value) : ∀ fs : List Field, fieldsEq tb eq xs ys fs = fieldsEqS tb eq xs ys (fs.map fun f => (f.name == "_", f.type, f.offset))
 | [] => rfl
 | f :: fs => by
  have ih := fieldsEq_S eq xs ys fs
  show fieldsEq tb eq xs ys (f :: fs) = fieldsEqS tb eq xs ys ((f.name == "_", f.type, f.offset) :: fs.map fun f => (f.name == "_", f.type, f.offset))
  unfold fieldsEq fieldsEqS
  cases f.name == "_" with
  | true => rfl
  | false =>
   simp only [cond_false]
   cases partF tb f.type xs f.offset with
   | no _ => rfl
   | ok a =>
    cases partF tb f.type ys f.offset with
    | no _ => rfl
    | ok b =>
     simp only [R.ok_bind]
     cases eq f.type a b with
     | no _ => rfl
     | ok r => cases r with
      | true => exact ih
      | false => rfl
theorem equal_struct {g : Nat → Option Ob} {t : TypeId} {sh : List (Bool × TypeId × Nat)} (h1 : isStruct (tb.und t) = true) (h2 : fieldsOf (tb.und t) = sh) (h3 : tb.P.stoodInHeld t = false) (d : Nat) (xs ys : Array Value) :
  equalF tb g (d + 1) t (.agg xs) (.agg ys) = fieldsEqS tb (equalF tb g d) xs.toList ys.toList sh := by
 subst h2
 unfold equalF
 cases hu : tb.und t with
 | none => rw [hu] at h1; cases h1
 | some ds =>
  cases ds with
  | struct fs =>
   simp only [h3, cond_false]
   rw [fieldsEq_S]
   rfl
  | _ => rw [hu] at h1; cases h1
theorem equal_int {g : Nat → Option Ob} {t : TypeId} {k k' : IntKind} (h : tb.und t = some (.int k)) (d : Nat) (a b : Int) : equalF tb g (d + 1) t (.int k' a) (.int k' b) = .ok (decide (a = b)) := by
 unfold equalF
 have hk : kindEq k' k' = true := by cases k' <;> rfl
 simp only [h, hk, cond_true, ieqF_eq]
 rfl
theorem equal_str {g : Nat → Option Ob} {t : TypeId} (h : tb.und t = some .string) (d : Nat) (a b : List UInt8) : equalF tb g (d + 1) t (strOf a) (strOf b) = .ok (decide (a = b)) := by
 unfold equalF
 simp only [h, strOf, bytesEq_eq]
 congr 1
 rw [Bool.eq_iff_iff]; simp
theorem equal_bool {g : Nat → Option Ob} {t : TypeId} (h : tb.und t = some .bool) (d : Nat) (a b : Bool) : equalF tb g (d + 1) t (.bool a) (.bool b) = .ok (decide (a = b)) := by
 unfold equalF
 simp only [h]
 cases a <;> cases b <;> rfl
theorem part_one {t : TypeId} {cs : List Value} {o : Nat} {d : TypeDesc} {v : Value} (h : tb.und t = some d) (ha : isAggD d = false) (hv : cs[o]? = some v) : partF tb t cs o = .ok v := by
 unfold partF
 simp only [h, ha, cond_false, hv]
end Go.Am

/-
 The abstract machine AM, part 55: slices of plain values among a law's arguments, however many; the whole world as memory.
-/
namespace Go.Am
variable {tb : Tab} (ok : TabOk tb)

def plainV : Value → Bool
 | .int _ _ => true
 | .string _ => true
 | .bool _ => true
 | _ => false
theorem plain_VR {ι : Inj} {v : Value} (h : plainV v = true) : VR ι v v := by
 cases v <;> first | exact .int _ _ | exact .string _ | exact .bool _ | cases h
def wInj (w : World) (ex : List (Option Loc)) (b : Nat) : Option Loc :=
 if b < w.heap.size then match w.heap[b]? with
  | some (.cells cs _ _) => some ⟨b, 0, cs.size⟩
  | _ => none
 else (ex[b - w.heap.size]?).join
theorem wInj_cells {w : World} {ex : List (Option Loc)} {b : Nat} {cs : Array Value} {t : TypeId} {fr : Nat × Nat} (h : w.heap[b]? = some (.cells cs t fr)) : wInj w ex b = some ⟨b, 0, cs.size⟩ := by
 unfold wInj
 rw [if_pos (Array.getElem?_eq_some_iff.1 h).1, h]
end Go.Am

/-
 The abstract machine AM, part 56: nil checks; sums of any integers.
-/
namespace Go.Am
variable {tb : Tab}

def nilF (x : Value) : R Value := match x with
 | .pointer (some a) => .ok (.pointer (some a))
 | .iface a b => .ok (.iface a b)
 | .map a => .ok (.map a)
 | .func (.func f) a b => .ok (.func (.func f) a b)
 | .func (.yield f) a b => .ok (.func (.yield f) a b)
 | _ => .no 213
theorem nil_ptr (a : Addr) : nilF (.pointer (some a)) = .ok (.pointer (some a)) := rfl
theorem opF_nilCheck {ih : Code → St → R (Ex × St)} {dst : Option Tmp} {ty : TypeId} {pos : String} {after : Array Edge} {g : Option (Nat × Bool)} {s : St} {k : St → R (Ex × St)} (x : Operand) : opF tb ih { dst, op := .nilCheck x, type := ty, pos, after, guard := g } s k =
  (ev s.t x).bind fun a => (nilF a).bind fun v => putT s dst v k := by
 rw [opF_P (hc := rfl) (hi := rfl)]
 simp only [pOp, R.bind_bind]
 rfl
end Go.Am

/-
 The abstract machine AM: the order of bytes; a memory that has less (out of AmSort and AmSort2, for laws that need no more of them).
-/
namespace Go.Am
theorem bytesLt_irr : ∀ x, bytesLt x x = false
 | [] => rfl
 | a :: x => by
  have : Nat.blt a.toNat a.toNat = false := by
   cases h : Nat.blt a.toNat a.toNat with
   | false => rfl
   | true => rw [Nat.blt_eq] at h; omega
  simp [bytesLt, this, bytesLt_irr x]
theorem bytesLt_trans : ∀ x y z, bytesLt x y = true → bytesLt y z = true → bytesLt x z = true
 | _, [], _, h, _ => by simp [bytesLt] at h
 | _, _ :: _, [], _, h => by simp [bytesLt] at h
 | [], b :: y, c :: z, _, _ => rfl
 | a :: x, b :: y, c :: z, h1, h2 => by
  simp only [bytesLt, Bool.or_eq_true, Bool.and_eq_true, Nat.blt_eq, Nat.beq_eq] at h1 h2 ⊢
  rcases h1 with h1 | ⟨h1, h1'⟩
  ·rcases h2 with h2 | ⟨h2, _⟩
   ·left; omega
   ·left; omega
  ·rcases h2 with h2 | ⟨h2, h2'⟩
   ·left; omega
   ·exact .inr ⟨by omega, bytesLt_trans x y z h1' h2'⟩
theorem bytesLt_tri : ∀ x y, bytesLt x y = false → bytesLt y x = false → x = y
 | [], [], _, _ => rfl
 | [], _ :: _, h, _ => by simp [bytesLt] at h
 | _ :: _, [], _, h => by simp [bytesLt] at h
 | a :: x, b :: y, h1, h2 => by
  simp only [bytesLt, Bool.or_eq_false_iff, Bool.and_eq_false_iff] at h1 h2
  have e : a.toNat = b.toNat := by
   rcases Nat.lt_trichotomy a.toNat b.toNat with h | h | h
   ·have := h1.1; rw [show Nat.blt a.toNat b.toNat = true by rw [Nat.blt_eq]; exact h] at this; cases this
   ·exact h
   ·have := h2.1; rw [show Nat.blt b.toNat a.toNat = true by rw [Nat.blt_eq]; exact h] at this; cases this
  have e1 : bytesLt x y = false := by
   rcases h1.2 with h | h
   ·rw [e] at h; simp at h
   ·exact h
  have e2 : bytesLt y x = false := by
   rcases h2.2 with h | h
   ·rw [e] at h; simp at h
   ·exact h
  rw [bytesLt_tri x y e1 e2, UInt8.toNat_inj.1 e]
theorem Rel.less {ι : Inj} {A A' : Mem} {w : World} (h : Rel ι A w) (hg : ∀ x o, A'.get x = some o → alive o = true → ∃ o0, A.get x = some o0 ∧ alive o0 = true ∧ ∀ l o', OR ι o0 l o' → OR ι o l o') (hw : ∀ b, A'.next ≤ b → A'.get b = none) (hgl : ∀ b t k c, A'.get b = some (.cells t .row (GB k) c) → A.get b = some (.cells t .row (GB k) c)) : Rel ι A' w where
 gl := fun b t k c hb => h.gl b t k c (hgl b t k c hb)
 wf := hw
 obs := fun b o l hb ha hl => by
  obtain ⟨o0, h1, h2, h3⟩ := hg b o hb ha
  obtain ⟨o', h4, h5⟩ := h.obs b o0 l h1 h2 hl
  exact ⟨o', h4, h3 l o' h5⟩
 rng := h.rng
 inj := fun b b' l l' ⟨o, h1, h2⟩ ⟨o', h3, h4⟩ => by
  obtain ⟨p, p1, p2, _⟩ := hg b o h1 h2
  obtain ⟨q, q1, q2, _⟩ := hg b' o' h3 h4
  exact h.inj b b' l l' ⟨p, p1, p2⟩ ⟨q, q1, q2⟩
theorem wrapF_u64 {n : Nat} (h : n < 18446744073709551616) : wrapF .u64 (n : Int) = (n : Int) := by
 have e : inK .u64 (n : Int) = true := by
  unfold inK
  show Nat.blt n 18446744073709551616 = true
  rw [Nat.blt_eq]; exact h
 unfold wrapF; rw [e]; rfl
end Go.Am

/-
 The abstract machine AM, part 66: the hook of a function that lays one element into a slice (slices.Insert): whether there is room or not.
-/
namespace Go.Am
variable {tb : Tab}

theorem call_runs (ok : TabOk tb) {f : FuncId} {fn : Func} {c : Code} (hf : tb.fn.get f = some fn) (hb : fn.body = some c) {m : Nat} {args : List Value} {A A1 : Mem} {v : Value} (h : call tb m f args A = .ok (.val v A1)) :
  ∀ (ι : Inj) (w : World) (args' : Array Value), Rel ι A w → VRs ι args args'.toList → Free ι A A1 → ∀ (fr : Frame) (cs : List Frame), ∃ ι' w' v', Steps tb.P (lone (Frame.enter tb.P f args' .normal) (fr :: cs) w) (lone (fr.finish v') cs w') ∧ VR ι' v v' ∧ Rel ι' A1 w' ∧ Stp ι A w ι' A1 w' := by
 intro ι w args' hr ha hfree fr cs
 unfold call at h
 simp only [hf, hb] at h
 rcases fn_sound ok (exec_sound ok m) hf hb h with ⟨_, _, h1, _⟩ | ⟨v, A', h1, hle, hs⟩
 ·cases h1
 ·cases h1
  obtain ⟨ι', w', v', ⟨fr0, st, hfn, hlv⟩, hv, hrel, hst⟩ := hs ι w args' (fr :: cs) hr ha hfree
  exact ⟨ι', w', v', st.trans (.one (step_leave_returned hlv)), hv, hrel, hst⟩

def insL (K i : Nat) (old new : List Value) : List Value := old.take (i * K) ++ new ++ old.drop (i * K)
noncomputable def insMem (e : TypeId) (ob : Option Nat) (l : List Value) (A : Mem) : Mem :=
 match ob with
 | none => A.alloc (.cells e .row 0 (T.puts .e 0 l))
 | some b => (A.set b .dead).alloc (.cells e .row 0 (T.puts .e 0 l))
noncomputable def insHook (e : TypeId) (K : Nat) : List Value → Mem → R (Value × Mem) := fun args A =>
 match args with
 | [.slice base n k, .int .i64 (.ofNat i), .slice (some ⟨q, 0, none⟩) 1 2] => match A.get q with
  | some (.cells t (.var m) 0 c2) => match c2.gets K 0 with
   | some new => bif Nat.beq t e && Nat.beq m K && Nat.ble i n && Nat.blt n 16777215 && new.all oneCell then
     match base with
     | none => bif Nat.beq n 0 && Nat.beq k 0 then .ok (.slice (some ⟨A.next, 0, none⟩) (n + 1) (mkX (n + 1) K), insMem e none new A) else .no 900
     | some ⟨b, 0, none⟩ => match A.get b with
      | some (.cells t .row 0 c) => match c.gets (n * K) 0 with
       | some old => bif Nat.beq t e && Nat.beq k (mkX n K) && Nat.blt 0 n && old.all oneCell then .ok (.slice (some ⟨A.next, 0, none⟩) (n + 1) (mkX (n + 1) K), insMem e (some b) (insL K i old new) A) else .no 901
       | none => .no 902
      | _ => .no 903
     | _ => .no 904
    else .no 905
   | none => .no 906
  | _ => .no 907
 | _ => .no 908

def InsOut (tb : Tab) (f : FuncId) (e : TypeId) (K : Nat) (args : List Value) (A : Mem) (ob : Option Nat) (n : Nat) (l : List Value) : Prop :=
 ∃ m A1, call tb m f args A = .ok (.val (.slice (some ⟨A.next, 0, none⟩) (n + 1) (mkX (n + 1) K)) A1) ∧ A1.next = A.next + 1 ∧ Vals A1 e A.next .row l ∧ ∀ y, y < A.next → ob ≠ some y → A1.get y = A.get y

structure InsSays (tb : Tab) (f : FuncId) (e : TypeId) (K : Nat) : Prop where
 first : ∀ (A : Mem) (q : Nat) (new : List Value), Vals A e q (.var K) new → new.length = K → (∀ v ∈ new, oneCell v = true) → q < A.next →
  InsOut tb f e K [.slice none 0 0, .int .i64 ((0 : Nat) : Int), .slice (some ⟨q, 0, none⟩) 1 2] A none 0 new
 last : ∀ (A : Mem) (b q n : Nat) (old new : List Value), Vals A e q (.var K) new → new.length = K → (∀ v ∈ new, oneCell v = true) → q < A.next → Vals A e b .row old → old.length = n * K → (∀ v ∈ old, oneCell v = true) → b < A.next → b ≠ q → 0 < n → n < 16777215 →
  InsOut tb f e K [.slice (some ⟨b, 0, none⟩) n (mkX n K), .int .i64 (n : Int), .slice (some ⟨q, 0, none⟩) 1 2] A (some b) n (insL K n old new)
 grow : ∀ (A : Mem) (b q n i : Nat) (old new : List Value), Vals A e q (.var K) new → new.length = K → (∀ v ∈ new, oneCell v = true) → q < A.next → Vals A e b .row old → old.length = n * K → (∀ v ∈ old, oneCell v = true) → b < A.next → b ≠ q → i < n → n < 16777215 →
  InsOut tb f e K [.slice (some ⟨b, 0, none⟩) n (2 * n), .int .i64 (i : Int), .slice (some ⟨q, 0, none⟩) 1 2] A (some b) n (insL K i old new)
 room : ∀ (A : Mem) (b q n i c : Nat) (old new : List Value), Vals A e q (.var K) new → new.length = K → (∀ v ∈ new, oneCell v = true) → q < A.next → Vals A e b (.room ((n + 1) * K)) old → old.length = n * K → (∀ v ∈ old, oneCell v = true) → b < A.next → b ≠ q → i < n → n < 16777215 → n + 1 ≤ c → c < 2 ^ 63 →
  ∃ m A1, call tb m f [.slice (some ⟨b, 0, none⟩) n (2 * c), .int .i64 (i : Int), .slice (some ⟨q, 0, none⟩) 1 2] A = .ok (.val (.slice (some ⟨b, 0, none⟩) (n + 1) (2 * c)) A1) ∧ A1.next = A.next ∧ Vals A1 e b (.room ((n + 1) * K)) (insL K i old new) ∧ ∀ y, y ≠ b → A1.get y = A.get y

theorem insMem_next (e : TypeId) (ob : Option Nat) (l : List Value) (A : Mem) : (insMem e ob l A).next = A.next + 1 := by
 cases ob <;> rfl
theorem insMem_new (e : TypeId) (ob : Option Nat) (l : List Value) (A : Mem) : (insMem e ob l A).get A.next = some (.cells e .row 0 (T.puts .e 0 l)) := by
 cases ob with
 | none => exact get_alloc_self _ _
 | some b => exact get_alloc_self (A.set b .dead) _
theorem insMem_old (e : TypeId) (ob : Option Nat) (l : List Value) (A : Mem) {y : Nat} (h : y ≠ A.next) : (insMem e ob l A).get y = if ob = some y then some .dead else A.get y := by
 cases ob with
 | none => rw [if_neg (by simp)]; exact get_alloc_ne h
 | some b =>
  refine (get_alloc_ne (A := A.set b .dead) h).trans ?_
  rw [get_setMem]
  by_cases hy : y = b
  ·subst hy; rw [if_pos rfl, if_pos rfl]
  ·rw [if_neg hy, if_neg (fun x => hy (by cases x; rfl))]

def KdOk (k : Kd) (lc : Loc) (fr : Nat × Nat) : Prop :=
 match k with
 | .var n => lc.sh = 0 ∧ lc.sz = n ∧ fr = (0, 0)
 | .row => fr.2 ≤ lc.sh + 0
 | .mark => ∀ i, i < lc.sz → ¬ (fr.1 ≤ i ∧ i < fr.2)
 | .room n => fr.2 ≤ lc.sh + 0 ∧ lc.sh + n ≤ lc.sz
theorem KdOk.room {n : Nat} {lc : Loc} {fr : Nat × Nat} (h : KdOk (.room n) lc fr) : fr.2 ≤ lc.sh + 0 := by
 unfold KdOk at h; exact h.1
theorem vals_OR {ι : Inj} {A : Mem} {e : TypeId} {b : Nat} {k : Kd} {l : List Value} (hv : Vals A e b k l) {lc : Loc} {o' : Obj} (ho : ∀ o, A.get b = some o → OR ι o lc o') (hk : ∀ fr : Nat × Nat, KdOk k lc fr → fr.2 ≤ lc.sh + 0) : OR ι (.cells e .row 0 (T.puts .e 0 l)) lc o' := by
 obtain ⟨c, h1, h2⟩ := hv
 obtain ⟨cs, fr, q1, q2, q3, q4⟩ := ho _ h1
 refine ⟨cs, fr, q1, q2, fun i v hi => ?_, hk fr q4⟩
 rw [T.get_puts] at hi
 by_cases hl : 0 ≤ i ∧ i < 0 + l.length
 ·rw [if_pos hl] at hi
  exact q3 i v (by rw [h2 i (by omega)]; simpa using hi)
 ·rw [if_neg hl, T.get_e] at hi; cases hi

theorem ins_fresh (ok : TabOk tb) {f : FuncId} {fn : Func} {c : Code} (hf : tb.fn.get f = some fn) (hb : fn.body = some c) {e : TypeId} {K n : Nat} {args : List Value} {A : Mem} {ob : Option Nat} {l : List Value} (h : InsOut tb f e K args A ob n l) (hob : ∀ b, ob = some b → ∃ c, A.get b = some (.cells e .row 0 c))
  (ι : Inj) (w : World) (args' : Array Value) (hr : Rel ι A w) (ha : VRs ι args args'.toList) (hfree : Free ι A (insMem e ob l A)) (fr : Frame) (cs : List Frame) :
  ∃ ι' w' v', Steps tb.P (lone (Frame.enter tb.P f args' .normal) (fr :: cs) w) (lone (fr.finish v') cs w') ∧ VR ι' (.slice (some ⟨A.next, 0, none⟩) (n + 1) (mkX (n + 1) K)) v' ∧ Rel ι' (insMem e ob l A) w' ∧ Stp ι A w ι' (insMem e ob l A) w' := by
 obtain ⟨m, A1, hc, hn, hv, hk⟩ := h
 obtain ⟨ι', w', v', hs, hv', hrel, hst⟩ := call_runs ok hf hb hc ι w args' hr ha (fun b h1 h2 => hfree b h1 (by rw [insMem_next]; omega)) fr cs
 have hobs : ∀ x o, (insMem e ob l A).get x = some o → alive o = true → ∃ o0, A1.get x = some o0 ∧ alive o0 = true ∧ ∀ lc o', OR ι' o0 lc o' → OR ι' o lc o' := by
  intro x o hx hal
  by_cases hxn : x = A.next
  ·subst hxn
   rw [insMem_new] at hx
   cases hx
   obtain ⟨cc, g1, g2⟩ := hv
   exact ⟨_, g1, rfl, fun lc o' hor => vals_OR ⟨cc, g1, g2⟩ (fun o h => by rw [g1] at h; cases h; exact hor) (fun fr h => h)⟩
  ·rw [insMem_old _ _ _ _ hxn] at hx
   split at hx
   ·cases hx; cases hal
   ·rename_i hob'
    have hlt : x < A.next := by
     rcases Nat.lt_or_ge x A.next with h | h
     ·exact h
     ·rw [hr.wf x h] at hx; cases hx
    exact ⟨o, by rw [hk x hlt hob']; exact hx, hal, fun _ _ h => h⟩
 refine ⟨ι', w', v', hs, hv', hrel.less hobs (fun b hbn => ?_) (fun b t k c hg => ?_), ?_⟩
 ·rw [insMem_next] at hbn
  rw [insMem_old _ _ _ _ (by omega)]
  split
  ·rename_i hob'
   obtain ⟨c, hc⟩ := hob b hob'
   rw [hr.wf b (by omega)] at hc; cases hc
  ·exact hr.wf b (by omega)
 ·by_cases hbn : b = A.next
  ·subst hbn
   rw [insMem_new] at hg
   have h3 : 0 = GB k := by injection hg with hg; injection hg
   unfold GB at h3
   omega
  ·rw [insMem_old _ _ _ _ hbn] at hg
   split at hg
   ·cases hg
   ·rename_i hob'
    have hlt : b < A.next := by
     rcases Nat.lt_or_ge b A.next with h | h
     ·exact h
     ·rw [hr.wf b h] at hg; cases hg
    rw [hk b hlt hob']; exact hg
 ·refine ⟨by rw [insMem_next]; omega, fun b hb => hst.out b (by rw [insMem_next] at hb; rw [hn]; exact hb), fun b lc ⟨o, h1, h2⟩ hl => ?_, hst.fr, hst.size, hst.os, hst.tape, hst.output, fun b lc hb hsl => ?_, hst.drawn⟩
  ·obtain ⟨o0, h3, h4, _⟩ := hobs b o h1 h2
   exact hst.src b lc ⟨o0, h3, h4⟩ hl
  ·refine ⟨?_, (hst.kept b lc hb hsl).2⟩
   obtain ⟨hlt, t, fz, c, hg, hfz, _⟩ := hsl
   rw [insMem_old _ _ _ _ (by omega)]
   split
   ·rename_i hob'
    obtain ⟨c', hc'⟩ := hob b hob'
    rw [hg] at hc'
    cases hc'
    omega
   ·rfl

theorem ins_room (ok : TabOk tb) {f : FuncId} {fn : Func} {c : Code} (hf : tb.fn.get f = some fn) (hb : fn.body = some c) {e : TypeId} {K n i b q cap : Nat} (hK : K < 65536) {old new : List Value} {A : Mem} {lc : Loc} (hS : InsSays tb f e K)
  (hq : Vals A e q (.var K) new) (hql : new.length = K) (hq1 : ∀ v ∈ new, oneCell v = true) (hbv : Vals A e b .row old) (hbl : old.length = n * K) (hb1 : ∀ v ∈ old, oneCell v = true) (hbq : b ≠ q) (hi : i < n) (hn : n < 16777215) (hcap : n + 1 ≤ cap) (hc63 : cap < 2 ^ 63)
  (ι : Inj) (w : World) (args' : Array Value) (hr : Rel ι A w) (hl : ι b = some lc) (hsz : lc.sh + cap * K ≤ lc.sz)
  (ha : VRs ι [.slice (some ⟨b, 0, none⟩) n (2 * cap), .int .i64 (i : Int), .slice (some ⟨q, 0, none⟩) 1 2] args'.toList) (hfree : Free ι A (insMem e (some b) (insL K i old new) A)) (fr : Frame) (cs : List Frame) :
  ∃ ι' w' v', Steps tb.P (lone (Frame.enter tb.P f args' .normal) (fr :: cs) w) (lone (fr.finish v') cs w') ∧ VR ι' (.slice (some ⟨A.next, 0, none⟩) (n + 1) (mkX (n + 1) K)) v' ∧ Rel ι' (insMem e (some b) (insL K i old new) A) w' ∧ Stp ι A w ι' (insMem e (some b) (insL K i old new) A) w' := by
 obtain ⟨c0, hg0, hc0⟩ := hbv
 have hblt : b < A.next := by
  rcases Nat.lt_or_ge b A.next with h | h
  ·exact h
  ·rw [hr.wf b h] at hg0; cases hg0
 have hqlt : q < A.next := by
  obtain ⟨cq, h1, _⟩ := hq
  rcases Nat.lt_or_ge q A.next with h | h
  ·exact h
  ·rw [hr.wf q h] at h1; cases h1
 have hkk : (n + 1) * K ≤ cap * K := Nat.mul_le_mul_right _ hcap
 let A2 := A.set b (.cells e (.room ((n + 1) * K)) 0 c0)
 have hg2 : ∀ y, y ≠ b → A2.get y = A.get y := fun y hy => by show (A.set b _).get y = _; rw [get_setMem, if_neg hy]
 have hg2b : A2.get b = some (.cells e (.room ((n + 1) * K)) 0 c0) := by show (A.set b _).get b = _; rw [get_setMem, if_pos rfl]
 have hlive : ∀ y, live A2 y ↔ live A y := by
  intro y
  by_cases hy : y = b
  ·subst hy
   exact ⟨fun _ => ⟨_, hg0, rfl⟩, fun _ => ⟨_, hg2b, rfl⟩⟩
  ·unfold live; rw [hg2 y hy]
 have hr2 : Rel ι A2 w := by
  refine ⟨fun y hy => ?_, fun y o l hg hal hl' => ?_, hr.rng, fun x y l l' h1 h2 => hr.inj x y l l' ((hlive x).1 h1) ((hlive y).1 h2), fun y t k c hg => ?_⟩
  ·rw [hg2 y (by show y ≠ b; have : A.next ≤ y := hy; omega)]; exact hr.wf y hy
  ·by_cases hy : y = b
   ·subst hy
    rw [hg2b] at hg
    cases hg
    rw [hl] at hl'
    cases hl'
    obtain ⟨o', h1, cs', fr', q1, q2, q3, q4⟩ := hr.obs _ _ _ hg0 rfl hl
    exact ⟨o', h1, cs', fr', q1, q2, q3, q4, by omega⟩
   ·rw [hg2 y hy] at hg
    exact hr.obs y o l hg hal hl'
  ·by_cases hy : y = b
   ·subst hy
    rw [hg2b] at hg
    cases hg
   ·rw [hg2 y hy] at hg
    exact hr.gl y t k c hg
 obtain ⟨m, A1, hc, hn1, hv, hk⟩ := hS.room A2 b q n i cap old new (hq.same (hg2 q hbq.symm)) hql hq1 hqlt ⟨c0, hg2b, hc0⟩ hbl hb1 hblt hbq hi hn hcap hc63
 have hn1' : A1.next = A.next := hn1
 obtain ⟨ι1, w', v', hs, hv', hrel, hst⟩ := call_runs ok hf hb hc ι w args' hr2 ha (fun y h1 h2 => by
  have : A.next ≤ y := h1
  omega) fr cs
 have hι : ∀ y, ι1 y = ι y := fun y => hst.out y (by rcases Nat.lt_or_ge y A.next with h | h; exact .inl h; exact .inr (by omega))
 have hN : ι1 A.next = none := by rw [hι]; exact hfree _ (Nat.le_refl _) (by rw [insMem_next]; omega)
 have hlb : ι1 b = some lc := by rw [hι]; exact hl
 let ι2 : Inj := fun y => if y = A.next then some lc else ι1 y
 have e2 : ∀ y, y ≠ A.next → ι2 y = ι1 y := fun y hy => if_neg hy
 have e2N : ι2 A.next = some lc := if_pos rfl
 have hle : InjLe ι1 ι2 := fun y l hy => by
  by_cases h : y = A.next
  ·subst h; rw [hN] at hy; cases hy
  ·rw [e2 y h]; exact hy
 -- what the new memory holds
 have hobs : ∀ y o, (insMem e (some b) (insL K i old new) A).get y = some o → alive o = true → (y = A.next ∧ o = .cells e .row 0 (T.puts .e 0 (insL K i old new))) ∨ (y ≠ A.next ∧ y ≠ b ∧ A1.get y = some o ∧ A.get y = some o) := by
  intro y o hy hal
  by_cases hyn : y = A.next
  ·subst hyn
   rw [insMem_new] at hy
   cases hy
   exact .inl ⟨rfl, rfl⟩
  ·rw [insMem_old _ _ _ _ hyn] at hy
   split at hy
   ·cases hy; cases hal
   ·rename_i hob
    have hyb : y ≠ b := fun h => hob (by rw [h])
    exact .inr ⟨hyn, hyb, by rw [hk y hyb, hg2 y hyb]; exact hy, hy⟩
 have hliveA : ∀ y, live (insMem e (some b) (insL K i old new) A) y → y = A.next ∨ (y ≠ A.next ∧ y ≠ b ∧ live A1 y) := by
  intro y ⟨o, h1, h2⟩
  rcases hobs y o h1 h2 with ⟨h, _⟩ | ⟨h3, h4, h5, _⟩
  ·exact .inl h
  ·exact .inr ⟨h3, h4, o, h5, h2⟩
 have hlb1 : live A1 b := by
  obtain ⟨cc, g1, _⟩ := hv
  exact ⟨_, g1, rfl⟩
 refine ⟨ι2, w', v', hs, ?_, ⟨fun y hy => ?_, fun y o l hg hal hl' => ?_, fun y l hy => ?_, fun x y l l' h1 h2 hx hy heq => ?_, fun y t k cc hg => ?_⟩, ⟨by rw [insMem_next]; omega, fun y hy => ?_, fun y l hly hl' => ?_, fun cc hcc hno => ?_, hst.size, hst.os, hst.tape, hst.output, fun y l hy hsl => ?_, hst.drawn⟩⟩
 ·cases hv' with
  | sl h1 h2 =>
   rw [hlb] at h1
   cases h1
   rw [capN_two]
   exact VR.slX e2N (capX_mkX _ _) (by rw [capN_mkX hK]; exact hcap) (by rw [capE_mkX hK]; omega) (fun _ => rfl) hc63 (by rw [capN_mkX hK]; exact Nat.le_refl _)
  | slX h1 h2 => rw [capX_two] at h2; cases h2
 ·rw [insMem_next] at hy
  rw [insMem_old _ _ _ _ (by omega), if_neg (fun h => by cases h; omega)]
  exact hr.wf y (by omega)
 ·rcases hobs y o hg hal with ⟨rfl, rfl⟩ | ⟨h3, h4, h5, _⟩
  ·rw [e2N] at hl'
   cases hl'
   obtain ⟨cc, g1, g2⟩ := hv
   obtain ⟨o', p1, p2⟩ := hrel.obs b _ _ g1 rfl hlb
   exact ⟨o', p1, vals_OR ⟨cc, g1, g2⟩ (fun o h => by rw [g1] at h; cases h; exact p2.mono hle) (fun fr h => h.room)⟩
  ·rw [e2 y h3] at hl'
   obtain ⟨o', p1, p2⟩ := hrel.obs y o l h5 hal hl'
   exact ⟨o', p1, p2.mono hle⟩
 ·by_cases h : y = A.next
  ·subst h
   rw [e2N] at hy
   cases hy
   exact hrel.rng b _ hlb
  ·rw [e2 y h] at hy
   exact hrel.rng y l hy
 ·rcases hliveA x h1 with rfl | ⟨x1, x2, x3⟩
  ·rcases hliveA y h2 with rfl | ⟨y1, y2, y3⟩
   ·rfl
   ·rw [e2N] at hx
    cases hx
    rw [e2 y y1] at hy
    exact absurd (hrel.inj b y _ _ hlb1 y3 hlb hy heq).symm y2
  ·rcases hliveA y h2 with rfl | ⟨y1, y2, y3⟩
   ·rw [e2N] at hy
    cases hy
    rw [e2 x x1] at hx
    exact absurd (hrel.inj x b _ _ x3 hlb1 hx hlb heq) x2
   ·rw [e2 x x1] at hx
    rw [e2 y y1] at hy
    exact hrel.inj x y _ _ x3 y3 hx hy heq
 ·rcases hobs y _ hg rfl with ⟨_, h⟩ | ⟨h3, _, h5, _⟩
  ·have h3 : GB k = 0 := by injection h
   unfold GB at h3
   omega
  ·obtain ⟨l, p1, p2⟩ := hrel.gl y t k cc h5
   exact ⟨l, by rw [e2 y h3]; exact p1, p2⟩
 ·rw [insMem_next] at hy
  rw [e2 y (by omega)]
  exact hι y
 ·rcases hliveA y hly with rfl | ⟨y1, y2, y3⟩
  ·rw [e2N] at hl'
   cases hl'
   exact .inr ⟨b, lc, ⟨_, hg0, rfl⟩, hl, rfl⟩
  ·rw [e2 y y1] at hl'
   rcases hst.src y l y3 hl' with h | ⟨b0, l0, p1, p2, p3⟩
   ·exact .inl h
   ·exact .inr ⟨b0, l0, (hlive b0).1 p1, p2, p3⟩
 ·exact hst.fr cc hcc fun y l h1 h2 => hno y l ((hlive y).1 h1) h2
 ·obtain ⟨hlt, t, fz, cc, hg, hfz, hsz'⟩ := hsl
  have hyb : y ≠ b := fun h => by
   subst h
   rw [hg0] at hg
   cases hg
   omega
  refine ⟨?_, (hst.kept y l hy ⟨hlt, t, fz, cc, by rw [hg2 y hyb]; exact hg, hfz, hsz'⟩).2⟩
  rw [insMem_old _ _ _ _ (by omega), if_neg (fun h => hyb (by cases h; rfl))]

theorem ins_ok (ok : TabOk tb) {f : FuncId} {fn : Func} {c : Code} (hf : tb.fn.get f = some fn) (hb : fn.body = some c) {e : TypeId} {K : Nat} (hK : K < 65536) (hS : InsSays tb f e K) : HookOk tb.P f (insHook e K) := by
 intro args A v A' h
 unfold insHook at h
 split at h
 case h_2 => cases h
 rename_i base n k i q
 split at h
 case h_2 => cases h
 rename_i t m c2 hgq
 split at h
 case h_2 => cases h
 rename_i new hnew
 cases hq : (Nat.beq t e && Nat.beq m K && Nat.ble i n && Nat.blt n 16777215 && new.all oneCell) with
 | false => rw [hq] at h; cases h
 | true =>
 rw [hq, cond_true] at h
 simp only [Bool.and_eq_true] at hq
 obtain ⟨⟨⟨⟨ht, hm⟩, hin⟩, hn⟩, hone⟩ := hq
 obtain rfl := Nat.eq_of_beq_eq_true ht
 obtain rfl := Nat.eq_of_beq_eq_true hm
 have hin := Nat.le_of_ble_eq_true hin
 rw [Nat.blt_eq] at hn
 obtain ⟨hql, hqg⟩ := T.gets_spec _ _ _ _ hnew
 have hqv : Vals A t q (.var m) new := ⟨c2, hgq, fun j hj => by have := hqg j (by omega); rwa [Nat.zero_add] at this⟩
 have hq1 : ∀ v ∈ new, oneCell v = true := List.all_eq_true.1 hone
 split at h
 ·cases hz : (Nat.beq n 0 && Nat.beq k 0) with
  | false => rw [hz] at h; cases h
  | true =>
   rw [hz, cond_true] at h
   simp only [R.ok.injEq, Prod.mk.injEq] at h
   obtain ⟨rfl, rfl⟩ := h
   simp only [Bool.and_eq_true] at hz
   obtain rfl := Nat.eq_of_beq_eq_true hz.1
   obtain rfl := Nat.eq_of_beq_eq_true hz.2
   obtain rfl : i = 0 := by omega
   refine ⟨by rw [insMem_next]; omega, fun ι w args' hr ha hfree fr cs => ?_⟩
   refine ins_fresh ok hf hb (hS.first A q new hqv hql hq1 ?_) (fun b h => by cases h) ι w args' hr ha hfree fr cs
   rcases Nat.lt_or_ge q A.next with h | h
   ·exact h
   ·rw [hr.wf q h] at hgq; cases hgq
 ·rename_i b
  split at h
  case h_2 => cases h
  rename_i tB cB hgb
  split at h
  case h_2 => cases h
  rename_i old hold
  cases hz : (Nat.beq tB t && Nat.beq k (mkX n m) && Nat.blt 0 n && old.all oneCell) with
  | false => rw [hz] at h; cases h
  | true =>
   rw [hz, cond_true] at h
   simp only [R.ok.injEq, Prod.mk.injEq] at h
   obtain ⟨rfl, rfl⟩ := h
   simp only [Bool.and_eq_true] at hz
   obtain ⟨⟨⟨hz1, hz2⟩, hz3⟩, hz4⟩ := hz
   obtain rfl := Nat.eq_of_beq_eq_true hz1
   obtain rfl := Nat.eq_of_beq_eq_true hz2
   rw [Nat.blt_eq] at hz3
   obtain ⟨hbl, hbg⟩ := T.gets_spec _ _ _ _ hold
   have hbv : Vals A tB b .row old := ⟨cB, hgb, fun j hj => by have := hbg j (by omega); rwa [Nat.zero_add] at this⟩
   have hb1 : ∀ v ∈ old, oneCell v = true := List.all_eq_true.1 hz4
   have hbq : b ≠ q := fun h => by subst h; rw [hgb] at hgq; cases hgq
   refine ⟨by rw [insMem_next]; omega, fun ι w args' hr ha hfree fr cs => ?_⟩
   have hqlt : q < A.next := by
    rcases Nat.lt_or_ge q A.next with h | h
    ·exact h
    ·rw [hr.wf q h] at hgq; cases hgq
   have hblt : b < A.next := by
    rcases Nat.lt_or_ge b A.next with h | h
    ·exact h
    ·rw [hr.wf b h] at hgb; cases hgb
   have hob : ∀ b', some b = some b' → ∃ c, A.get b' = some (.cells tB .row 0 c) := fun b' h => by cases h; exact ⟨cB, hgb⟩
   by_cases hlast : i = n
   ·subst hlast
    exact ins_fresh ok hf hb (hS.last A b q i old new hqv hql hq1 hqlt hbv hbl hb1 hblt hbq hz3 hn) hob ι w args' hr ha hfree fr cs
   ·have hi : i < n := by omega
    obtain ⟨as⟩ := args'
    cases ha with
    | cons hs ht =>
     cases hs with
     | sl h1 h2 => rw [capX_mkX] at h2; cases h2
     | @slX _ _ o' _ _ cap' lc h1 h2 hc hsz ho h63 hle =>
      rw [capN_mkX hK] at hc
      rw [capE_mkX hK] at hsz
      have ho := ho (by omega)
      subst ho
      have hsl : ∀ c, c = cap' → VR ι (.slice (some ⟨b, 0, none⟩) n (2 * c)) (.slice (some ⟨lc.blk, 0 + lc.sh, none⟩) n cap') := fun c hc => by
       have := VR.sl (ι := ι) (o := 0) (len := n) (k := 2 * c) h1 (capX_two c)
       subst hc; rwa [capN_two] at this
      by_cases hroom : n + 1 ≤ cap'
      ·exact ins_room ok hf hb hK hS hqv hql hq1 hbv hbl hb1 hbq hi hn hroom h63 ι w _ hr h1 (by omega) (.cons (hsl _ rfl) ht) hfree fr cs
      ·exact ins_fresh ok hf hb (hS.grow A b q n i old new hqv hql hq1 hqlt hbv hbl hb1 hblt hbq hi hn) hob ι w _ hr (.cons (hsl _ (by omega)) ht) hfree fr cs
 ·cases h

end Go.Am

/-
 The abstract machine AM, part 67: what the operations do that a function runs which lays one element into a slice.
-/
namespace Go.Am
variable {tb : Tab}

theorem elemsF_at {A : Mem} {t : TypeId} {k : Kd} {fz s o m K : Nat} {c : T Value} {l : List Value} (hg : A.get s = some (.cells t k fz c)) (hl : l.length = m * K) (h : ∀ j, j < l.length → c.get (o + j) = l[j]?) : elemsF A.get K m (some ⟨s, o, none⟩) = .ok l := by
 unfold elemsF
 simp only []
 cases hn : Nat.beq (m * K) 0 with
 | true =>
  have : l = [] := List.length_eq_zero_iff.1 (by rw [hl]; exact Nat.eq_of_beq_eq_true hn)
  subst this; rfl
 | false =>
  have hgs : c.gets (m * K) o = some l := gets_eq _ _ _ _ hl fun j hj => h j (by omega)
  simp only [cond_false, hg, hgs]

theorem stores_in (m : Nat) : ∀ (vs : List Value) (i : Nat) (c : T Value), (∀ v ∈ vs, oneCell v = true) → (∀ j, j < vs.length → (∃ y, c.get (i + j) = some y) ∨ i + j < m) → storesF m 0 vs i c = .ok (c.puts i vs)
 | [], _, _, _, _ => rfl
 | v :: vs, i, c, h1, h2 => by
  unfold storesF
  have hb : (oneCell v && Nat.ble 0 i) = true := by rw [h1 v (List.mem_cons_self ..)]; simp
  have rest : storesF m 0 vs (Nat.succ i) (c.set i v) = .ok ((c.set i v).puts (Nat.succ i) vs) := stores_in m vs (i + 1) (c.set i v) (fun w hw => h1 w (List.mem_cons_of_mem _ hw)) fun j hj => by
   rw [T.get_set]
   by_cases e : i + 1 + j = i
   ·omega
   ·rw [if_neg e, show i + 1 + j = i + (j + 1) by omega]
    exact h2 (j + 1) (by simp; omega)
  rw [hb, cond_true]
  rcases h2 0 (by simp) with ⟨y, hy⟩ | hy
  ·rw [Nat.add_zero] at hy
   rw [hy]
   exact rest
  ·rw [Nat.add_zero] at hy
   have hlt : Nat.blt i m = true := by rw [Nat.blt_eq]; exact hy
   cases hc : c.get i with
   | some _ => exact rest
   | none => simp only [hlt, cond_true]; exact rest

theorem copy_at {A : Mem} {st e : TypeId} {ts : TypeId} {ks kd : Kd} {fs s d os od m K sl dl cs' cd' : Nat} {cs cd : T Value} {l : List Value} (hst : tb.und st = some (.slice e)) (hsz : sizeF tb e = .ok K)
  (hs : A.get s = some (.cells ts ks fs cs)) (hd : A.get d = some (.cells e kd 0 cd)) (hl : l.length = m * K) (h : ∀ j, j < l.length → cs.get (os + j) = l[j]?) (h1 : ∀ v ∈ l, oneCell v = true) (hm : m = bif Nat.ble sl dl then sl else dl) (h0 : l ≠ [])
  (hin : ∀ j, j < l.length → (∃ y, cd.get (od + j) = some y) ∨ od + j < roomK kd) :
  copyF tb A st (.slice (some ⟨d, od, none⟩) dl cd') (.slice (some ⟨s, os, none⟩) sl cs') = .ok (.int .i64 (.ofNat m), A.set d (.cells e kd 0 (cd.puts od l))) := by
 unfold copyF
 simp only [hst, hsz, R.ok_bind, lenF, ← hm]
 have hf : firstF A.get K m (.slice (some ⟨s, os, none⟩) sl cs') = .ok l := elemsF_at hs hl h
 simp only [hf, R.ok_bind]
 unfold storeAtF
 cases l with
 | nil => exact absurd rfl h0
 | cons v vs =>
  simp only [hd, stores_in _ _ _ _ h1 hin, R.ok_bind]

section
variable {A : Mem} {st it e : TypeId} {ti : TypeInfo} {z : List Value} {b q n i K : Nat} {old new : List Value}
theorem app_first (hst : tb.und st = some (.slice e)) (hz : zcellsF tb e = .ok (K, z)) (hi : tb.ty.get e = some ti) (hib : 0 < ti.bytes) (hib' : ti.bytes ≤ 65536) (hK0 : 0 < K) (hK : K < 65536)
  (hq : Vals A e q (.var K) new) (hql : new.length = K) :
  appendF tb A st st (.slice none 0 0) (.slice (some ⟨q, 0, none⟩) 1 2) = .ok (.slice (some ⟨A.next, 0, none⟩) 1 (mkX 1 K), A.alloc (.cells e .row 0 (T.puts .e 0 new))) := by
 have hnew : firstF A.get K 1 (.slice (some ⟨q, 0, none⟩) 1 2) = .ok new := elemsF_valsN hq (by rw [Nat.one_mul]; exact hql)
 have hlim : (Nat.ble (0 + 1) 16777216 && Nat.ble ti.bytes 65536 && Nat.blt 0 ti.bytes && Nat.blt 0 K && Nat.blt K 65536) = true := by
  have a2 : Nat.ble ti.bytes 65536 = true := Nat.ble_eq_true_of_le hib'
  have a3 : Nat.blt 0 ti.bytes = true := by rw [Nat.blt_eq]; exact hib
  have a4 : Nat.blt 0 K = true := by rw [Nat.blt_eq]; exact hK0
  have a5 : Nat.blt K 65536 = true := by rw [Nat.blt_eq]; exact hK
  rw [a2, a3, a4, a5]; rfl
 have hble : Nat.ble (0 + 1) (capN 0) = false := rfl
 have hx : capX 0 = true := rfl
 have hel : elemsF A.get K 0 none = .ok [] := rfl
 unfold appendF appendG
 simp only [hst, isIntD, cond_false, hz, R.ok_bind, lenF, hnew, hble, hi, hlim, cond_true, hel, hx, List.nil_append]
theorem app_last (hst : tb.und st = some (.slice e)) (hz : zcellsF tb e = .ok (K, z)) (hi : tb.ty.get e = some ti) (hib : 0 < ti.bytes) (hib' : ti.bytes ≤ 65536) (hK0 : 0 < K) (hK : K < 65536)
  (hq : Vals A e q (.var K) new) (hql : new.length = K) (h1c : ∀ v ∈ new, oneCell v = true) (hb : Vals A e b .row old) (hbl : old.length = n * K) (hn : n < 16777215) :
  appendF tb A st st (.slice (some ⟨b, 0, none⟩) n (mkX n K)) (.slice (some ⟨q, 0, none⟩) 1 2) = .ok (.slice (some ⟨A.next, 0, none⟩) (n + 1) (mkX (n + 1) K), (A.set b .dead).alloc (.cells e .row 0 (T.puts .e 0 (old ++ new)))) := by
 have hnew : firstF A.get K 1 (.slice (some ⟨q, 0, none⟩) 1 2) = .ok new := elemsF_valsN hq (by rw [Nat.one_mul]; exact hql)
 have hel : elemsF A.get K n (some ⟨b, 0, none⟩) = .ok old := elemsF_valsN hb hbl
 have hlim : (Nat.ble (n + 1) 16777216 && Nat.ble ti.bytes 65536 && Nat.blt 0 ti.bytes && Nat.blt 0 K && Nat.blt K 65536) = true := by
  have a1 : Nat.ble (n + 1) 16777216 = true := Nat.ble_eq_true_of_le (by omega)
  have a2 : Nat.ble ti.bytes 65536 = true := Nat.ble_eq_true_of_le hib'
  have a3 : Nat.blt 0 ti.bytes = true := by rw [Nat.blt_eq]; exact hib
  have a4 : Nat.blt 0 K = true := by rw [Nat.blt_eq]; exact hK0
  have a5 : Nat.blt K 65536 = true := by rw [Nat.blt_eq]; exact hK
  rw [a1, a2, a3, a4, a5]; rfl
 have hble : Nat.ble (n + 1) (capN (mkX n K)) = false := by
  rw [capN_mkX hK]
  cases hq : Nat.ble (n + 1) n with
  | false => rfl
  | true => have := Nat.le_of_ble_eq_true hq; omega
 have hx : capX (mkX n K) = false := capX_mkX _ _
 have he : Nat.beq (capE (mkX n K)) K = true := by rw [capE_mkX hK]; simp
 have hall : new.all oneCell = true := List.all_eq_true.2 h1c
 have hfz : (Nat.ble 0 (0 + n * K) && (Nat.beq e e && Nat.blt 0 9223372036854775808)) = true := by
  have h0 : Nat.blt 0 9223372036854775808 = true := by rw [Nat.blt_eq]; omega
  rw [h0]; simp
 obtain ⟨cb, hb', _⟩ := hb
 unfold appendF appendG
 simp only [hst, isIntD, cond_false, hz, R.ok_bind, lenF, hnew, hble, hi, hlim, cond_true, hel, hx, he, hall, Bool.and_true, hb', hfz]
theorem app_grow (hst : tb.und st = some (.slice e)) (hit : tb.und it = some (.int .i64)) (hz : zcellsF tb e = .ok (K, z)) (hi : tb.ty.get e = some ti) (hib : 0 < ti.bytes) (hib' : ti.bytes ≤ 65536) (hK0 : 0 < K) (hK : K < 65536)
  (hb : Vals A e b .row old) (hbl : old.length = n * K) (hin : i < n) (hn : n < 16777215) :
  appendF tb A st it (.slice (some ⟨b, 0, none⟩) i (2 * n)) (.int .i64 ((n + 1 - i : Nat) : Int)) = .ok (.slice (some ⟨A.next, 0, none⟩) (n + 1) (mkX (n + 1) K), A.alloc (.cells e .row 0 (T.puts .e 0 (old.take (i * K) ++ repF z (n + 1 - i))))) := by
 have hik : i * K ≤ n * K := Nat.mul_le_mul_right _ (by omega)
 have hel : elemsF A.get K i (some ⟨b, 0, none⟩) = .ok (old.take (i * K)) := by
  obtain ⟨cb, h1, h2⟩ := hb
  refine elemsF_at h1 (by rw [List.length_take]; omega) fun j hj => ?_
  rw [List.length_take] at hj
  rw [Nat.zero_add, h2 j (by omega), List.getElem?_take_of_lt (by omega)]
 have hs : i + (n + 1 - i) = n + 1 := by omega
 have hlim : (Nat.ble (n + 1) 16777216 && Nat.ble ti.bytes 65536 && Nat.blt 0 ti.bytes && Nat.blt 0 K && Nat.blt K 65536) = true := by
  have a1 : Nat.ble (n + 1) 16777216 = true := Nat.ble_eq_true_of_le (by omega)
  have a2 : Nat.ble ti.bytes 65536 = true := Nat.ble_eq_true_of_le hib'
  have a3 : Nat.blt 0 ti.bytes = true := by rw [Nat.blt_eq]; exact hib
  have a4 : Nat.blt 0 K = true := by rw [Nat.blt_eq]; exact hK0
  have a5 : Nat.blt K 65536 = true := by rw [Nat.blt_eq]; exact hK
  rw [a1, a2, a3, a4, a5]; rfl
 have hble : Nat.ble (n + 1) (capN (2 * n)) = false := by
  rw [capN_two]
  cases hq : Nat.ble (n + 1) n with
  | false => rfl
  | true => have := Nat.le_of_ble_eq_true hq; omega
 have hlim2 : (Nat.ble (n + 1 - i) 16777216 && Nat.ble ti.bytes 65536) = true := by
  rw [Nat.ble_eq_true_of_le hib', Nat.ble_eq_true_of_le (show n + 1 - i ≤ 16777216 by omega)]; rfl
 have hnv : natV (.int .i64 ((n + 1 - i : Nat) : Int)) = .ok (n + 1 - i) := rfl
 unfold appendF
 simp only [hst, hit, isIntD, cond_true]
 unfold appendZ appendG
 simp only [hz, R.ok_bind, hnv, hi, hlim2, cond_true, hs, hble, cond_false, hlim, hel, capX_two]
end

theorem slc_from {st e : TypeId} {b n i k K : Nat} (hst : tb.und st = some (.slice e)) (hsz : sizeF tb e = .ok K) (hi : i ≤ n) (_hn : n ≤ capN k) (hfit : capFit k K = true) (hne : (capX k && Nat.beq (capN k) i) = false) :
  sliceF tb st (.slice (some ⟨b, 0, none⟩) n k) (some (.int .i64 (i : Int))) none none = .ok (.slice (some ⟨b, i * K, none⟩) (n - i) (capSub k i)) := by
 have e1 : bound (some (.int .i64 (i : Int))) 0 n = .ok i := bound_some hi
 unfold sliceF
 simp only [hst, bound_none, R.ok_bind, e1, hsz, hne, cond_false, hfit, cond_true, addA, Nat.zero_add]
theorem slc_to {st e : TypeId} {b n i k K : Nat} (hst : tb.und st = some (.slice e)) (hsz : sizeF tb e = .ok K) (hi : i ≤ capN k) (hfit : capFit k K = true) (hne : (capX k && Nat.beq (capN k) 0) = false) :
  sliceF tb st (.slice (some ⟨b, 0, none⟩) n k) none (some (.int .i64 (i : Int))) none = .ok (.slice (some ⟨b, 0, none⟩) i (capSub k 0)) := by
 have e1 : bound (some (.int .i64 (i : Int))) n (capN k) = .ok i := bound_some hi
 unfold sliceF
 simp only [hst, bound_none, R.ok_bind, e1, hsz, hne, cond_false, hfit, cond_true, addA, Nat.zero_mul, Nat.zero_add, Nat.sub_zero]
theorem capSub_two (c : Nat) : capSub (2 * c) 0 = 2 * c := by
 unfold capSub; rw [capX_two, cond_true, capN_two, Nat.sub_zero]

end Go.Am

/-
 The abstract machine AM, part 60: a value of several cells is stored into a slice.
-/
namespace Go.Am
variable {tb : Tab}

theorem Vals.put {A : Mem} {e : TypeId} {b o : Nat} {k : Kd} {l vs : List Value} (h : Vals A e b k l) (h1 : ∀ v ∈ vs, oneCell v = true) (h2 : o + vs.length ≤ l.length) (h0 : vs ≠ []) :
  ∃ A', storeAtF A ⟨b, o, none⟩ vs = .ok A' ∧ A'.next = A.next ∧ (∀ x, x ≠ b → A'.get x = A.get x) ∧ ∀ l' : List Value, l'.length = l.length → (∀ j, j < l.length → l'[j]? = if o ≤ j ∧ j < o + vs.length then vs[j - o]? else l[j]?) → Vals A' e b k l' := by
 obtain ⟨c, h3, h4⟩ := h
 have hst : storesF (roomK k) 0 vs o c = .ok (c.puts o vs) := stores_in _ vs o c h1 fun j hj => .inl (by
  rw [h4 (o + j) (by omega), List.getElem?_eq_getElem (show o + j < l.length by omega)]
  exact ⟨_, rfl⟩)
 refine ⟨A.set b (.cells e k 0 (c.puts o vs)), ?_, next_set _ _ _, fun x hx => by rw [get_setMem, if_neg hx], fun l' hl hj => ⟨_, by rw [get_setMem, if_pos rfl], fun i hi => ?_⟩⟩
 ·cases vs with
  | nil => exact absurd rfl h0
  | cons v vs =>
   unfold storeAtF
   simp only [h3, hst, R.ok_bind]
 ·rw [T.get_puts, hj i (by omega)]
  split
  ·rfl
  ·exact h4 i (by omega)
theorem flat_set {n i : Nat} {ls : List (List Value)} {l : List Value} (h : ∀ x ∈ ls, x.length = n) (hl : l.length = n) (hi : i < ls.length) (j : Nat) (hj : j < ls.flatten.length) :
  ((ls.set i l).flatten)[j]? = if i * n ≤ j ∧ j < i * n + n then l[j - i * n]? else ls.flatten[j]? := by
 have h' : ∀ x ∈ ls.set i l, x.length = n := fun x hx => by
  rcases List.mem_or_eq_of_mem_set hx with hx | rfl
  ·exact h x hx
  ·exact hl
 rw [flat_len h] at hj
 have hn : 0 < n := Nat.pos_of_ne_zero fun e => by rw [e] at hj; omega
 have hq : j / n < ls.length := by rw [Nat.div_lt_iff_lt_mul hn]; exact hj
 have hm : j % n < n := Nat.mod_lt _ hn
 have e : j = j / n * n + j % n := by rw [Nat.mul_comm, Nat.div_add_mod]
 have hx : ls[j / n]? = some ls[j / n] := List.getElem?_eq_getElem hq
 by_cases hji : j / n = i
 ·have hx' : (ls.set i l)[j / n]? = some l := by rw [hji, List.getElem?_set, if_pos rfl, if_pos hi]
  rw [hji] at e
  rw [if_pos ⟨by omega, by omega⟩]
  have := flat_get h' (i := i) (j := j % n) (by rw [← hji]; rw [hji] at hx' ⊢; exact hx') hm
  rw [← e] at this
  rw [this]
  congr 1
  omega
 ·have hx' : (ls.set i l)[j / n]? = some ls[j / n] := by rw [List.getElem?_set, if_neg (fun h => hji h.symm), hx]
  have g1 := flat_get h' hx' hm
  have g2 := flat_get h hx hm
  rw [← e] at g1 g2
  rw [g1, g2, if_neg]
  rintro ⟨h3, h4⟩
  apply hji
  have h5 : i ≤ j / n := (Nat.le_div_iff_mul_le hn).2 h3
  have h6 : j / n < i + 1 := (Nat.div_lt_iff_lt_mul hn).2 (by rw [Nat.add_mul, Nat.one_mul]; exact h4)
  omega
theorem SlcM.store {A : Mem} {e t : TypeId} {n b i : Nat} {ls : List (List Value)} {l : List Value} {x : Value} (h : SlcM A e n b ls x) (hs : sizeF tb t = .ok n) (hn : 0 < n) (hi : i < ls.length) (hl : l.length = n) (h1 : ∀ v ∈ l, oneCell v = true) :
  ∃ A', storeF tb A t (.pointer (some ⟨b, i * n, none⟩)) (.agg ⟨l⟩) = .ok A' ∧ SlcM A' e n b (ls.set i l) x ∧ A'.next = A.next ∧ ∀ y, y ≠ b → A'.get y = A.get y := by
 rcases h with ⟨rfl, rfl⟩ | ⟨k, c, rfl, h2, h3, h4, h5⟩
 ·simp at hi
 ·have hlen : i * n + l.length ≤ ls.flatten.length := by
   rw [flat_len h4, hl]
   have := Nat.mul_le_mul_right n (show i + 1 ≤ ls.length from hi)
   rw [Nat.add_mul, Nat.one_mul] at this
   omega
  have h4' : ∀ x ∈ ls.set i l, x.length = n := fun x hx => by
   rcases List.mem_or_eq_of_mem_set hx with hx | rfl
   ·exact h4 x hx
   ·exact hl
  obtain ⟨A', g1, g2, g3, g4⟩ := h3.put h1 hlen (fun e => by rw [e] at hl; simp at hl; omega)
  refine ⟨A', ?_, .inr ⟨k, c, by rw [List.length_set], by omega, g4 _ (by rw [flat_len h4', flat_len h4, List.length_set]) fun j hj => by rw [flat_set h4 hl hi j hj, hl], h4', by rw [List.length_set]; exact h5⟩, g2, g3⟩
  unfold storeF
  have hc : (Value.agg ⟨l⟩).cells.toList = l := rfl
  simp only [hs, R.ok_bind, hc, hl, Nat.beq_refl, cond_true]
  exact g1
end Go.Am

/-
 The abstract machine AM, part 62: its equations, bound together: simp takes each by itself.
-/
namespace Go.Am
theorem evs_n (t : T Value) : evs t [] = .ok [] := rfl
theorem evs_c (t : T Value) (x : Operand) (xs : List Operand) : evs t (x :: xs) = (ev t x).bind fun v => (evs t xs).bind fun vs => .ok (v :: vs) := rfl
theorem evo_n (t : T Value) : evo t none = .ok none := rfl
theorem evo_s (t : T Value) (x : Operand) : evo t (some x) = (ev t x).bind fun v => .ok (some v) := rfl
theorem evp_n (t : T Value) : evp t [] = .ok [] := rfl
theorem evp_c (t : T Value) (i : Nat) (x : Operand) (xs : List (Nat × Operand)) : evp t ((i, x) :: xs) = (ev t x).bind fun v => (evp t xs).bind fun vs => .ok ((i, v) :: vs) := rfl
theorem resK_v (s : St) (dst : Option Tmp) (k : St → R (Ex × St)) (v : Value) (A : Mem) : resK s dst k (.val v A) = putT { s with m := A } dst v k := rfl
theorem resK_p (s : St) (dst : Option Tmp) (k : St → R (Ex × St)) (v : Value) (A : Mem) : resK s dst k (.pan v A) = .ok (.pan v, { s with m := A }) := rfl
theorem resF_n (tb : Tab) (t : T Value) (g : Nat → Option Ob) : resF tb t g [] = .ok [] := rfl
theorem resF_t (tb : Tab) (t : T Value) (g : Nat → Option Ob) (i : Nat) (rs : List ResultVar) : resF tb t g (.tmp i :: rs) = (ev t (.tmp i)).bind fun v => (resF tb t g rs).bind fun vs => .ok (v :: vs) := rfl
theorem resF_c (tb : Tab) (t : T Value) (g : Nat → Option Ob) (i : Nat) (ty : TypeId) (rs : List ResultVar) : resF tb t g (.cell i ty :: rs) = (ev t (.tmp i)).bind fun a => (loadF tb g ty a).bind fun v => (resF tb t g rs).bind fun vs => .ok (v :: vs) := rfl
theorem oneOf_n : oneOf [] = .tuple ⟨[]⟩ := rfl
theorem oneOf_o (v : Value) : oneOf [v] = v := rfl
theorem oneOf_m (a b : Value) (l : List Value) : oneOf (a :: b :: l) = .tuple ⟨a :: b :: l⟩ := rfl
theorem takeF_n (A : Mem) : takeF [] A = .ok A := rfl
theorem takeF_c (b : Nat) (bs : List Nat) (A : Mem) : takeF (b :: bs) A = match A.get b with | some .defd => takeF bs (A.set b .dead) | _ => .no 240 := rfl
theorem pickF_t (t : T Value) (a b : Operand) : pickF t (.bool true) a b = ev t a := rfl
theorem pickF_f (t : T Value) (a b : Operand) : pickF t (.bool false) a b = ev t b := rfl
theorem extractF_t (vs : Array Value) (i : Nat) : extractF (.tuple vs) i = match vs.toList[i]? with | some v => .ok v | none => .no 211 := rfl
theorem unitV_q : unitV = .tuple ⟨[]⟩ := rfl
theorem Aq : type_of% (
 And.intro @evs_n <|
 And.intro @evs_c <|
 And.intro @evo_n <|
 And.intro @evo_s <|
 And.intro @evp_n <|
 And.intro @evp_c <|
 And.intro @resK_v <|
 And.intro @resK_p <|
 And.intro @resF_n <|
 And.intro @resF_t <|
 And.intro @resF_c <|
 And.intro @oneOf_n <|
 And.intro @oneOf_o <|
 And.intro @oneOf_m <|
 And.intro @takeF_n <|
 And.intro @takeF_c <|
 And.intro @pickF_t <|
 And.intro @pickF_f <|
 And.intro @extractF_t <|
 And.intro @cond_true.{1} <|
 And.intro @cond_false.{1} <|
 And.intro @T.puts_cons <|
 And.intro @T.puts_nil <|
 And.intro @exec_seq <|
 And.intro @exec_block <|
 And.intro @nat_beq_self <|
 And.intro @exec_region <|
 And.intro @exec_cond <|
 And.intro @exec_skip <|
 And.intro @exec_ret <|
 And.intro @exec_exit <|
 And.intro @exec_scope <|
 And.intro @runOps_cons <|
 And.intro @runOps_nil <|
 And.intro @opF_move <|
 And.intro @opF_assign <|
 And.intro @opF_ari <|
 And.intro @opF_neq <|
 And.intro @opF_eql <|
 And.intro @opF_un <|
 And.intro @opF_index <|
 And.intro @opF_indexAddr <|
 And.intro @opF_fieldAddr <|
 And.intro @opF_field <|
 And.intro @opF_build <|
 And.intro @opF_slice <|
 And.intro @opF_extract <|
 And.intro @opF_pick <|
 And.intro @opF_load <|
 And.intro @opF_alloc <|
 And.intro @opF_box <|
 And.intro @opF_buildSlice <|
 And.intro @opF_makeSlice <|
 And.intro @opF_store <|
 And.intro @opF_conv <|
 And.intro @opF_len <|
 And.intro @opF_minmax <|
 And.intro @opF_builtin <|
 And.intro @opF_call <|
 And.intro @ev_tmp <|
 And.intro @evG_some <|
 And.intro @ev_int <|
 And.intro @ev_bool <|
 And.intro @ev_str <|
 And.intro @R.ok_bind <|
 And.intro @putT_some <|
 And.intro @putT_none <|
 And.intro @T.get_set <|
 And.intro @T.get_e <|
 And.intro @binF_int <|
 And.intro @op_rem <|
 And.intro @op_quo_u32 <|
 And.intro @op_xor_u32 <|
 And.intro @op_neq <|
 And.intro @op_eql <|
 And.intro @op_lss <|
 And.intro @op_add_i64 <|
 And.intro @op_sub_u32 <|
 And.intro @op_and_u8 <|
 And.intro @op_xor_u8 <|
 And.intro @op_not_u32 <|
 And.intro @binF_shr_u32 <|
 And.intro @binF_shr_u8 <|
 And.intro @op_mul_i64 <|
 And.intro @op_quo_i64 <|
 And.intro @op_and_u32 <|
 And.intro @binF_shl_u8 <|
 And.intro @wrapF_u8 <|
 And.intro @wrapF_u32 <|
 And.intro @mod_u8 <|
 And.intro @mod_u32 <|
 And.intro @cond_val <|
 And.intro @Nat.lt_irrefl <|
 And.intro @Nat.not_lt_zero <|
 And.intro @if_true.{1} <|
 And.intro @if_false.{1} <|
 And.intro @ne_eq.{1} <|
 And.intro @not_true_eq_false <|
 And.intro @not_false_eq_true <|
 And.intro @decide_true <|
 And.intro @decide_false <|
 And.intro @Bool.false_eq_true <|
 And.intro @Bool.not_true <|
 And.intro @Bool.not_false <|
 And.intro @sub_nil <|
 And.intro @sub_seq0 <|
 And.intro @sub_seq1 <|
 And.intro @sub_cond0 <|
 And.intro @sub_cond1 <|
 And.intro @sub_block <|
 And.intro @sub_loop <|
 And.intro @sub_scope <|
 And.intro @sub_range0 <|
 And.intro @sub_range1 <|
 And.intro @Option.getD_some.{0} <|
 And.intro @at_ptr <|
 And.intro @at_slc <|
 And.intro @runOps_yes <|
 And.intro @runOps_no <|
 And.intro @exec_draw <|
 And.intro @op_sub_i64 <|
 And.intro @op_sub_neg <|
 And.intro @op_lss_neg <|
 And.intro @binF_str <|
 And.intro @str_add <|
 And.intro @str_neq <|
 And.intro @str_eql <|
 And.intro @cells_str <|
 And.intro @cells_int <|
 And.intro @cells_agg <|
 And.intro @bool_eql <|
 And.intro @bool_neq <|
 And.intro @op_lssI <|
 And.intro @bne_self_eq_false.{0} <|
 And.intro @beq_self_eq_true.{0} <|
 And.intro @eq_self.{1} <|
 And.intro @cells_slc <|
 And.intro @cells_func <|
 And.intro @builtin_append <|
 And.intro @ev_nilslice <|
 And.intro @ev_nilfunc <|
 And.intro @ev_nilptr <|
 And.intro @ev_nilmap <|
 And.intro @opF_makeFunc <|
 And.intro @opF_callv <|
 And.intro @callV_func <|
 And.intro @callV_yield <|
 And.intro @op_leq <|
 And.intro @op_gtr <|
 And.intro @op_geq <|
 And.intro @cast_le <|
 And.intro @cast_lt <|
 And.intro @List.nil_append.{0} <|
 And.intro @List.cons_append.{0} <|
 And.intro @List.append_nil.{0} <|
 @un_not) :=
 And.intro @evs_n <|
 And.intro @evs_c <|
 And.intro @evo_n <|
 And.intro @evo_s <|
 And.intro @evp_n <|
 And.intro @evp_c <|
 And.intro @resK_v <|
 And.intro @resK_p <|
 And.intro @resF_n <|
 And.intro @resF_t <|
 And.intro @resF_c <|
 And.intro @oneOf_n <|
 And.intro @oneOf_o <|
 And.intro @oneOf_m <|
 And.intro @takeF_n <|
 And.intro @takeF_c <|
 And.intro @pickF_t <|
 And.intro @pickF_f <|
 And.intro @extractF_t <|
 And.intro @cond_true.{1} <|
 And.intro @cond_false.{1} <|
 And.intro @T.puts_cons <|
 And.intro @T.puts_nil <|
 And.intro @exec_seq <|
 And.intro @exec_block <|
 And.intro @nat_beq_self <|
 And.intro @exec_region <|
 And.intro @exec_cond <|
 And.intro @exec_skip <|
 And.intro @exec_ret <|
 And.intro @exec_exit <|
 And.intro @exec_scope <|
 And.intro @runOps_cons <|
 And.intro @runOps_nil <|
 And.intro @opF_move <|
 And.intro @opF_assign <|
 And.intro @opF_ari <|
 And.intro @opF_neq <|
 And.intro @opF_eql <|
 And.intro @opF_un <|
 And.intro @opF_index <|
 And.intro @opF_indexAddr <|
 And.intro @opF_fieldAddr <|
 And.intro @opF_field <|
 And.intro @opF_build <|
 And.intro @opF_slice <|
 And.intro @opF_extract <|
 And.intro @opF_pick <|
 And.intro @opF_load <|
 And.intro @opF_alloc <|
 And.intro @opF_box <|
 And.intro @opF_buildSlice <|
 And.intro @opF_makeSlice <|
 And.intro @opF_store <|
 And.intro @opF_conv <|
 And.intro @opF_len <|
 And.intro @opF_minmax <|
 And.intro @opF_builtin <|
 And.intro @opF_call <|
 And.intro @ev_tmp <|
 And.intro @evG_some <|
 And.intro @ev_int <|
 And.intro @ev_bool <|
 And.intro @ev_str <|
 And.intro @R.ok_bind <|
 And.intro @putT_some <|
 And.intro @putT_none <|
 And.intro @T.get_set <|
 And.intro @T.get_e <|
 And.intro @binF_int <|
 And.intro @op_rem <|
 And.intro @op_quo_u32 <|
 And.intro @op_xor_u32 <|
 And.intro @op_neq <|
 And.intro @op_eql <|
 And.intro @op_lss <|
 And.intro @op_add_i64 <|
 And.intro @op_sub_u32 <|
 And.intro @op_and_u8 <|
 And.intro @op_xor_u8 <|
 And.intro @op_not_u32 <|
 And.intro @binF_shr_u32 <|
 And.intro @binF_shr_u8 <|
 And.intro @op_mul_i64 <|
 And.intro @op_quo_i64 <|
 And.intro @op_and_u32 <|
 And.intro @binF_shl_u8 <|
 And.intro @wrapF_u8 <|
 And.intro @wrapF_u32 <|
 And.intro @mod_u8 <|
 And.intro @mod_u32 <|
 And.intro @cond_val <|
 And.intro @Nat.lt_irrefl <|
 And.intro @Nat.not_lt_zero <|
 And.intro @if_true.{1} <|
 And.intro @if_false.{1} <|
 And.intro @ne_eq.{1} <|
 And.intro @not_true_eq_false <|
 And.intro @not_false_eq_true <|
 And.intro @decide_true <|
 And.intro @decide_false <|
 And.intro @Bool.false_eq_true <|
 And.intro @Bool.not_true <|
 And.intro @Bool.not_false <|
 And.intro @sub_nil <|
 And.intro @sub_seq0 <|
 And.intro @sub_seq1 <|
 And.intro @sub_cond0 <|
 And.intro @sub_cond1 <|
 And.intro @sub_block <|
 And.intro @sub_loop <|
 And.intro @sub_scope <|
 And.intro @sub_range0 <|
 And.intro @sub_range1 <|
 And.intro @Option.getD_some.{0} <|
 And.intro @at_ptr <|
 And.intro @at_slc <|
 And.intro @runOps_yes <|
 And.intro @runOps_no <|
 And.intro @exec_draw <|
 And.intro @op_sub_i64 <|
 And.intro @op_sub_neg <|
 And.intro @op_lss_neg <|
 And.intro @binF_str <|
 And.intro @str_add <|
 And.intro @str_neq <|
 And.intro @str_eql <|
 And.intro @cells_str <|
 And.intro @cells_int <|
 And.intro @cells_agg <|
 And.intro @bool_eql <|
 And.intro @bool_neq <|
 And.intro @op_lssI <|
 And.intro @bne_self_eq_false.{0} <|
 And.intro @beq_self_eq_true.{0} <|
 And.intro @eq_self.{1} <|
 And.intro @cells_slc <|
 And.intro @cells_func <|
 And.intro @builtin_append <|
 And.intro @ev_nilslice <|
 And.intro @ev_nilfunc <|
 And.intro @ev_nilptr <|
 And.intro @ev_nilmap <|
 And.intro @opF_makeFunc <|
 And.intro @opF_callv <|
 And.intro @callV_func <|
 And.intro @callV_yield <|
 And.intro @op_leq <|
 And.intro @op_gtr <|
 And.intro @op_geq <|
 And.intro @cast_le <|
 And.intro @cast_lt <|
 And.intro @List.nil_append.{0} <|
 And.intro @List.cons_append.{0} <|
 And.intro @List.append_nil.{0} <|
 @un_not
theorem Fq : type_of% (
 And.intro @runD_end <|
 And.intro @runD_P <|
 And.intro @runD_Rd <|
 And.intro @runD_Al <|
 And.intro @runD_L <|
 And.intro @runD_gno <|
 And.intro @runD_gP <|
 And.intro @runD_gRd <|
 And.intro @runD_gAl <|
 And.intro @runD_gL <|
 And.intro @sameV_str <|
 And.intro @selF_nil <|
 And.intro @selF_yes <|
 And.intro @selF_no <|
 And.intro @selR_nil <|
 And.intro @selR_yes <|
 And.intro @selR_no <|
 And.intro @rereadM_nil <|
 And.intro @rereadM_cons <|
 And.intro @rereadR_nil <|
 And.intro @rereadR_cons <|
 And.intro @reread_load <|
 And.intro @rereadV_eq <|
 And.intro @rOp_load <|
 And.intro @hide_nil <|
 And.intro @backF_nil <|
 And.intro @List.map_nil.{0,0} <|
 And.intro @Bool.and_true <|
 And.intro @Bool.true_and <|
 @Bool.and_self) :=
 And.intro @runD_end <|
 And.intro @runD_P <|
 And.intro @runD_Rd <|
 And.intro @runD_Al <|
 And.intro @runD_L <|
 And.intro @runD_gno <|
 And.intro @runD_gP <|
 And.intro @runD_gRd <|
 And.intro @runD_gAl <|
 And.intro @runD_gL <|
 And.intro @sameV_str <|
 And.intro @selF_nil <|
 And.intro @selF_yes <|
 And.intro @selF_no <|
 And.intro @selR_nil <|
 And.intro @selR_yes <|
 And.intro @selR_no <|
 And.intro @rereadM_nil <|
 And.intro @rereadM_cons <|
 And.intro @rereadR_nil <|
 And.intro @rereadR_cons <|
 And.intro @reread_load <|
 And.intro @rereadV_eq <|
 And.intro @rOp_load <|
 And.intro @hide_nil <|
 And.intro @backF_nil <|
 And.intro @List.map_nil.{0,0} <|
 And.intro @Bool.and_true <|
 And.intro @Bool.true_and <|
 @Bool.and_self
theorem Wq : type_of% (
 And.intro @wantF_guard <|
 And.intro @wantD_some <|
 And.intro @dstAt_zero <|
 And.intro @dstAt_succ <|
 And.intro @T.get_set <|
 And.intro @T.get_e <|
 And.intro @if_true.{1} <|
 And.intro @if_false.{1} <|
 And.intro @wantV_bool <|
 And.intro @wantV_unit <|
 And.intro @cond_true.{1} <|
 And.intro @cond_false.{1} <|
 And.intro @Bool.not_true <|
 And.intro @Bool.not_false <|
 And.intro @unitV_q <|
 @List.toList_toArray.{0}) :=
 And.intro @wantF_guard <|
 And.intro @wantD_some <|
 And.intro @dstAt_zero <|
 And.intro @dstAt_succ <|
 And.intro @T.get_set <|
 And.intro @T.get_e <|
 And.intro @if_true.{1} <|
 And.intro @if_false.{1} <|
 And.intro @wantV_bool <|
 And.intro @wantV_unit <|
 And.intro @cond_true.{1} <|
 And.intro @cond_false.{1} <|
 And.intro @Bool.not_true <|
 And.intro @Bool.not_false <|
 And.intro @unitV_q <|
 @List.toList_toArray.{0}
end Go.Am

/-
 The abstract machine AM, part 60: a law's arguments that hold slices within slices; the whole world as memory.
-/
namespace Go.Am
variable {tb : Tab} (ok : TabOk tb)

noncomputable def keepN (g : Nat → Value → Option Value) : List Value → Nat → T Value → T Value
 | [], _, c => c
 | v :: l, i, c => keepN g l (i + 1) (match g i v with | some u => c.set i u | none => c)
theorem keepN_get (g : Nat → Value → Option Value) : ∀ (l : List Value) (i : Nat) (c : T Value) (j : Nat), (keepN g l i c).get j = if i ≤ j ∧ j < i + l.length ∧ (l[j - i]?.bind (g j)).isSome = true then l[j - i]?.bind (g j) else c.get j
 | [], i, c, j => by
  unfold keepN
  rw [if_neg (fun h => by
   have := h.2.1
   simp only [List.length_nil] at this
   omega)]
 | v :: l, i, c, j => by
  unfold keepN
  rw [keepN_get g l (i + 1)]
  by_cases hj : j = i
  ·subst hj
   rw [if_neg (by omega), Nat.sub_self, List.getElem?_cons_zero, Option.bind_some]
   cases hp : g j v with
   | some u =>
    rw [if_pos ⟨Nat.le_refl _, by simp, rfl⟩]
    show (c.set j u).get j = _
    rw [T.get_set, if_pos rfl]
   | none => rw [if_neg (fun h => by simp at h)]
  ·have hc : (match g i v with | some u => c.set i u | none => c : T Value).get j = c.get j := by
    cases g i v with
    | some u =>
     show (c.set i u).get j = _
     rw [T.get_set, if_neg hj]
    | none => rfl
   rw [hc]
   by_cases hij : i + 1 ≤ j
   ·have e : (v :: l)[j - i]? = l[j - (i + 1)]? := by
     rw [show j - i = (j - (i + 1)) + 1 by omega, List.getElem?_cons_succ]
    rw [e]
    simp only [List.length_cons]
    by_cases hx : j < i + 1 + l.length ∧ (l[j - (i + 1)]?.bind (g j)).isSome = true
    ·rw [if_pos ⟨hij, hx.1, hx.2⟩, if_pos ⟨by omega, by omega, hx.2⟩]
    ·rw [if_neg (fun h => hx h.2), if_neg (fun h => hx ⟨by omega, h.2.2⟩)]
   ·rw [if_neg (fun h => hij h.1), if_neg (fun h => by omega)]
theorem keepN_some {g : Nat → Value → Option Value} {l : List Value} {j : Nat} {u : Value} (h : (keepN g l 0 .e).get j = some u) : ∃ v, l[j]? = some v ∧ g j v = some u := by
 rw [keepN_get] at h
 split at h
 ·rw [Nat.sub_zero, Option.bind_eq_some_iff] at h
  exact h
 ·rw [T.get_e] at h; cases h
theorem keepN_put {g : Nat → Value → Option Value} {l : List Value} {j : Nat} {v u : Value} (h : l[j]? = some v) (hp : g j v = some u) : (keepN g l 0 .e).get j = some u := by
 rw [keepN_get, Nat.sub_zero, h, Option.bind_some, hp, if_pos ⟨Nat.zero_le _, by have := (List.getElem?_eq_some_iff.1 h).1; omega, rfl⟩]

noncomputable def wObN (g : Nat → Value → Option Value) : Obj → Ob
 | .cells cs t fr => .cells t .row (2 * (9223372036854775808 + cs.size + fr.2 + 1)) (keepN g cs.toList 0 .e)
 | _ => .dead
noncomputable def wMemN (w : World) (n : Nat) (N : Nat → Nat → Value → Option Value) : Mem :=
 ⟨T.ofList ((List.range w.heap.size).map fun b => match w.heap[b]? with | some o => wObN (N b) o | none => .dead), w.heap.size + n⟩
theorem wMemN_get (w : World) (n : Nat) (N : Nat → Nat → Value → Option Value) (b : Nat) : (wMemN w n N).get b = (w.heap[b]?).map (wObN (N b)) := by
 show (T.ofList _).get b = _
 rw [T.get_ofList, List.getElem?_map]
 by_cases hb : b < w.heap.size
 ·rw [List.getElem?_range hb, Option.map_some, Array.getElem?_eq_getElem hb]; rfl
 ·rw [List.getElem?_eq_none (by simpa using hb), Array.getElem?_eq_none (by omega)]; rfl
theorem wInjN_get {w : World} {ex : List (Option Loc)} {N : Nat → Nat → Value → Option Value} {b : Nat} {o : Ob} {l : Loc} (hg : (wMemN w ex.length N).get b = some o) (hl : wInj w ex b = some l) : ∃ cs t fr, w.heap[b]? = some (.cells cs t fr) ∧ o = wObN (N b) (.cells cs t fr) ∧ l = ⟨b, 0, cs.size⟩ := by
 rw [wMemN_get] at hg
 cases hb : w.heap[b]? with
 | none => rw [hb] at hg; cases hg
 | some o' =>
  rw [hb] at hg
  have hlt := (Array.getElem?_eq_some_iff.1 hb).1
  unfold wInj at hl
  rw [if_pos hlt, hb] at hl
  cases o' with
  | cells cs t fr =>
   cases hl
   exact ⟨cs, t, fr, rfl, (Option.some.inj hg).symm, rfl⟩
  | _ => cases hl
def NOk (w : World) (ex : List (Option Loc)) (N : Nat → Nat → Value → Option Value) : Prop := ∀ (b i : Nat) (v u : Value), N b i v = some u → VR (wInj w ex) u v
theorem wRelN (w : World) (ex : List (Option Loc)) (hex : ∀ l, some l ∈ ex → l.blk < w.heap.size) {N : Nat → Nat → Value → Option Value} (hN : NOk w ex N) : Rel (wInj w ex) (wMemN w ex.length N) w := by
 refine ⟨fun b hb => ?_, fun b o l hg _ hl => ?_, fun b l hl => ?_, fun b b' l l' hb hb' hl hl' he => ?_, fun b t k c hb => ?_⟩
 ·have hb' : w.heap.size + ex.length ≤ b := hb
  rw [wMemN_get, Array.getElem?_eq_none (by omega)]; rfl
 ·obtain ⟨cs, t, fr, h1, rfl, rfl⟩ := wInjN_get hg hl
  refine ⟨_, h1, cs, fr, rfl, rfl, fun i u hu => ?_, ?_⟩
  ·obtain ⟨v, h2, h3⟩ := keepN_some hu
   rw [Array.getElem?_toList] at h2
   exact ⟨v, h2, hN _ _ _ _ h3⟩
  ·show fr.2 ≤ 0 + (2 * (9223372036854775808 + cs.size + fr.2 + 1))
   omega
 ·unfold wInj at hl
  split at hl
  ·rename_i hlt
   split at hl
   ·cases hl; exact hlt
   ·cases hl
  ·cases hx : ex[b - w.heap.size]? with
   | none => rw [hx] at hl; cases hl
   | some ol =>
    rw [hx] at hl
    cases ol with
    | none => cases hl
    | some l0 =>
     cases hl
     exact hex _ (List.mem_of_getElem? hx)
 ·obtain ⟨o, hg, _⟩ := hb
  obtain ⟨o', hg', _⟩ := hb'
  obtain ⟨_, _, _, _, _, rfl⟩ := wInjN_get hg hl
  obtain ⟨_, _, _, _, _, rfl⟩ := wInjN_get hg' hl'
  exact he
 ·rw [wMemN_get] at hb
  cases h : w.heap[b]? with
  | none => rw [h] at hb; cases hb
  | some o =>
   rw [h] at hb
   have h2 := Option.some.inj hb
   cases o with
   | cells cs t' fr =>
    have h3 : 2 * (9223372036854775808 + cs.size + fr.2 + 1) = GB k := by injection h2
    unfold GB at h3
    omega
   | _ => cases h2
include ok in
theorem all_trueN {w : World} (ex : List (Option Loc)) (hex : ∀ l, some l ∈ ex → l.blk < w.heap.size) {N : Nat → Nat → Value → Option Value} (hN : NOk w ex N) {f : FuncId} {fn : Func} {c : Code} (hf : tb.fn.get f = some fn) (hb : fn.body = some c) {args : List Value} {args' : Array Value} (ha : VRs (wInj w ex) args args'.toList)
  (hlaw : ∃ A', CallsTo tb f args (wMemN w ex.length N) (.bool true) A') : Calls tb.P f args' w fun e w' => e = .returned (.bool true) ∧ Leaves w w' := by
 intro cs
 obtain ⟨A', n, hc⟩ := hlaw
 obtain ⟨e, w', fr, ⟨ι', v', he, hv, hl⟩, st⟩ := call_still ok hc hf hb args' w (wRelN w ex hex hN) ha (fun b hb => by
  have hb' : w.heap.size + ex.length ≤ b := hb
  unfold wInj
  rw [if_neg (by omega), List.getElem?_eq_none (by omega)]
  rfl) (fun b l hb hl => by
  obtain ⟨o, hg, _⟩ := hb
  obtain ⟨cs, t, fr, h1, rfl, rfl⟩ := wInjN_get hg hl
  refine ⟨?_, t, _, _, hg, by omega, ?_⟩
  ·show b < w.heap.size + ex.length
   have := (Array.getElem?_eq_some_iff.1 h1).1
   omega
  ·show cs.size < 2 * (9223372036854775808 + cs.size + fr.2 + 1)
   omega) cs
 cases hv
 exact ⟨e, w', fr, ⟨he, hl⟩, st⟩

def empV : Value := .complex .f32 0 0
open Classical in
noncomputable def amN (w : World) (n : Nat) (v : Value) : Option Value :=
 if plainV v = true then some v else match v with
 | .slice none len cap => if len = 0 ∧ cap = 0 then some (.slice none 0 0) else none
 | .slice (some x) len cap =>
  if len = 0 ∧ cap = 0 then some empV
  else if VR (wInj w []) (.slice (some ⟨x.block, x.off, none⟩) len (mkX len n)) (.slice (some x) len cap) then some (.slice (some ⟨x.block, x.off, none⟩) len (mkX len n))
  else none
 | _ => none
theorem amN_VR {w : World} {n : Nat} {v u : Value} (h : amN w n v = some u) : VR (wInj w []) u v := by
 unfold amN at h
 split at h
 ·rename_i hp
  cases h
  exact plain_VR hp
 ·split at h
  ·split at h
   ·rename_i hh
    obtain ⟨rfl, rfl⟩ := hh
    cases h
    exact .slN
   ·cases h
  ·split at h
   ·rename_i hh
    obtain ⟨rfl, rfl⟩ := hh
    cases h
    exact .emp _
   ·split at h
    ·rename_i hh
     cases h
     exact hh
    ·cases h
  ·cases h
theorem amN_plain {w : World} {n : Nat} {v : Value} (h : plainV v = true) : amN w n v = some v := by
 unfold amN; rw [if_pos h]
theorem amN_nil {w : World} {n : Nat} : amN w n (.slice none 0 0) = some (.slice none 0 0) := by
 unfold amN
 rw [if_neg (by decide)]
 simp
theorem amN_emp {w : World} {n : Nat} {x : Addr} : amN w n (.slice (some x) 0 0) = some empV := by
 unfold amN
 rw [if_neg (by simp [plainV])]
 simp
def ParN (w : World) (n : Nat) (v : Value) (len : Nat) (cs : List Value) : Prop :=
 (v = .slice none 0 0 ∧ len = 0) ∨ (∃ x, v = .slice (some x) 0 0 ∧ len = 0) ∨
 ∃ x cap, v = .slice (some x) len cap ∧ 0 < cap ∧ len ≤ cap ∧ cap < 2 ^ 63 ∧ (∀ i, i < cap * n → ∃ u, w.cell? (x.add i) = some u) ∧ cs.length = len * n ∧ ∀ (i : Nat) (c : Value), cs[i]? = some c → w.cell? (x.add i) = some c
def ParGN (A : Mem) (N : Nat → Nat → Value → Option Value) (n len : Nat) (cs : List Value) (x : Value) : Prop :=
 (x = .slice none 0 0 ∧ len = 0) ∨ (x = empV ∧ len = 0) ∨
 ∃ q off, x = .slice (some ⟨q, off, none⟩) len (mkX len n) ∧ q < A.next ∧ (len * n = 0 ∨ ∃ t fz c, A.get q = some (.cells t .row fz c) ∧ ∀ (i : Nat) (v u : Value), i < len * n → cs[i]? = some v → N q (off + i) v = some u → c.get (off + i) = some u)
theorem cell_at {w : World} {x : Addr} {i : Nat} {v : Value} (hs : x.spot = none) (h : w.cell? (x.add i) = some v) : ∃ cs t fr, w.heap[x.block]? = some (.cells cs t fr) ∧ cs[x.off + i]? = some v := by
 obtain ⟨xb, xo, xs⟩ := x
 simp only at hs
 subst hs
 rw [Addr_add_mk] at h
 unfold World.cell? at h
 split at h
 ·rename_i cs t fr hw
  have hw' : w.heap[xb]? = some (.cells cs t fr) := hw
  simp only [Option.isSome_none, Bool.false_eq_true, if_false] at h
  exact ⟨cs, t, fr, hw', h⟩
 ·cases h
theorem cell_spot {w : World} {x : Addr} {v : Value} (h : w.cell? (x.add 0) = some v) : x.spot = none := by
 have h0 : x.add 0 = x := rfl
 rw [h0] at h
 unfold World.cell? at h
 split at h
 ·split at h
  ·cases h
  ·rename_i hn
   cases hs : x.spot with
   | none => rfl
   | some y => rw [hs] at hn; simp at hn
 ·cases h
theorem par_N {w : World} {n : Nat} {v : Value} {len : Nat} {cs : List Value} {N : Nat → Nat → Value → Option Value} (hn0 : 0 < n) (hn : n < 65536) (h : ParN w n v len cs) :
  ∃ x, amN w n v = some x ∧ ParGN (wMemN w 0 N) N n len cs x := by
 rcases h with ⟨rfl, rfl⟩ | ⟨x, rfl, rfl⟩ | ⟨x, cap, rfl, hc0, hlc, hcap, hall, hcl, hcell⟩
 ·exact ⟨_, amN_nil, .inl ⟨rfl, rfl⟩⟩
 ·exact ⟨_, amN_emp, .inr (.inl ⟨rfl, rfl⟩)⟩
 ·have hpos : 0 < cap * n := Nat.mul_pos hc0 hn0
  obtain ⟨u0, hu0⟩ := hall 0 hpos
  have hsp := cell_spot hu0
  obtain ⟨xb, xo, xs⟩ := x
  simp only at hsp
  subst hsp
  have h1 : capN (mkX len n) = len := capN_mkX hn
  have h2 : capE (mkX len n) = n := capE_mkX hn
  have hnp : ¬ plainV (.slice (some ⟨xb, xo, none⟩) len cap) = true := by simp [plainV]
  obtain ⟨u, hu⟩ := hall (cap * n - 1) (by omega)
  obtain ⟨cs', t, fr, hw, hu2⟩ := cell_at rfl hu
  have hsz := (Array.getElem?_eq_some_iff.1 hu2).1
  have hblk : xb < w.heap.size := (Array.getElem?_eq_some_iff.1 hw).1
  have hreal : VR (wInj w []) (.slice (some ⟨xb, xo, none⟩) len (mkX len n)) (.slice (some ⟨xb, xo, none⟩) len cap) := by
   refine VR.slX (l := ⟨xb, 0, cs'.size⟩) (o' := xo) (wInj_cells hw) (capX_mkX _ _) (by rw [h1]; exact hlc) ?_ (fun _ => by simp) hcap (by rw [h1]; exact Nat.le_refl _)
   rw [h2]
   have e : xo + (cap * n - 1) < cs'.size := hsz
   show xo + cap * n ≤ cs'.size
   omega
  refine ⟨.slice (some ⟨xb, xo, none⟩) len (mkX len n), ?_, .inr (.inr ⟨xb, xo, rfl, hblk, ?_⟩)⟩
  ·unfold amN
   rw [if_neg hnp]
   simp only [if_neg (show ¬ (len = 0 ∧ cap = 0) by omega), if_pos hreal]
  ·by_cases h0 : len * n = 0
   ·exact .inl h0
   ·right
    refine ⟨t, _, _, by rw [wMemN_get, hw]; rfl, fun i v u hi hv hu => keepN_put ?_ hu⟩
    obtain ⟨cs2, t2, fr2, hw2, hv2⟩ := cell_at rfl (hcell i v hv)
    rw [hw] at hw2
    cases hw2
    rw [Array.getElem?_toList]
    exact hv2
end Go.Am
