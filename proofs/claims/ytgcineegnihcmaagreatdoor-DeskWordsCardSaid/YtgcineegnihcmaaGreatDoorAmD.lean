/-
  The abstract machine AM: a machine for programs of the model that draws nothing and moves no block; and the proof that what it answers the model answers.
  Part D: no conditions.
-/
import Derived.Test.YtgcineegnihcmaaGreatDoorAmC

/-
  The abstract machine AM, part 64: the hook of a function that sorts a map's keys.
-/
namespace Go.Am
variable {tb : Tab} {N : Nat}

/-- A slice that was made by appending, one by one. -/
def RowS (A : Mem) (e : TypeId) (b : Nat) (l : List Value) (x : Value) : Prop :=
  (x = .slice none 0 0 ∧ l = []) ∨ (l ≠ [] ∧ x = .slice (some ⟨b, 0, none⟩) l.length (mkX l.length 1) ∧ b < A.next ∧ Vals A e b .row l)
theorem RowS.slc {A : Mem} {e : TypeId} {b : Nat} {l : List Value} {x : Value} (h : RowS A e b l x) : Slc A e b l x := by
  rcases h with h | ⟨_, h1, h2, h3⟩
  · exact .inl h
  · exact .inr ⟨.row, _, h1, h2, h3, .inr ⟨rfl, .inl rfl⟩⟩
theorem RowS.same {A A' : Mem} {e : TypeId} {b : Nat} {l : List Value} {x : Value} (h : RowS A e b l x) (hn : A.next ≤ A'.next) (hg : b < A.next → A'.get b = A.get b) : RowS A' e b l x := by
  rcases h with h | ⟨h0, h1, h2, h3⟩
  · exact .inl h
  · exact .inr ⟨h0, h1, Nat.lt_of_lt_of_le h2 hn, h3.same (hg h2)⟩
theorem RowS.store {A : Mem} {e t : TypeId} {b o : Nat} {l : List Value} {x v : Value} (h : RowS A e b l x) (hs : sizeF tb t = .ok 1) (ho : o < l.length) (hv : v.cells.toList = [v]) (h1c : oneCell v = true) :
    ∃ A', storeF tb A t (.pointer (some ⟨b, o, none⟩)) v = .ok A' ∧ RowS A' e b (l.set o v) x ∧ A'.next = A.next ∧ ∀ y, y ≠ b → A'.get y = A.get y := by
  rcases h with ⟨rfl, rfl⟩ | ⟨h0, rfl, h2, h3⟩
  · simp at ho
  · obtain ⟨A', e1, e2, e3, e4⟩ := store_vals (tb := tb) (t := t) hs h3 ho hv h1c
    exact ⟨A', e1, .inr ⟨by simpa using h0, by rw [List.length_set], by omega, e2⟩, e3, e4⟩
/-- One more, behind it. -/
theorem RowS.append {A : Mem} {st xt e : TypeId} {i : TypeInfo} {z v : Value} {b b2 : Nat} {l : List Value} {x : Value} (h : RowS A e b l x) (hst : tb.und st = some (.slice e)) (hxt : tb.und xt = some (.slice e)) (hz : zcellsF tb e = .ok (1, [z])) (hi : tb.ty.get e = some i) (hib : 0 < i.bytes) (hib' : i.bytes ≤ 65536)
    (hl : l.length < 16777216) (hb2 : A.get b2 = some (rowOb e [v])) (h1c : oneCell v = true) :
    ∃ x' A', appendF tb A st xt x (.slice (some ⟨b2, 0, none⟩) 1 2) = .ok (x', A') ∧ RowS A' e A.next (l ++ [v]) x' ∧ A'.next = A.next + 1 ∧ ∀ y, y ≠ b → y < A.next → A'.get y = A.get y := by
  have he1 : (1 : Nat) < 65536 := by omega
  have hnew : firstF A.get 1 1 (.slice (some ⟨b2, 0, none⟩) 1 2) = .ok [v] := elemsF_vals (l := [v]) (vals_puts (e := e) (k := .var 1) hb2)
  have hlim : (Nat.ble (l.length + 1) 16777216 && Nat.ble i.bytes 65536 && Nat.blt 0 i.bytes && Nat.blt 0 1 && Nat.blt 1 65536) = true := by
    have a1 : Nat.ble (l.length + 1) 16777216 = true := Nat.ble_eq_true_of_le (by omega)
    have a2 : Nat.ble i.bytes 65536 = true := Nat.ble_eq_true_of_le hib'
    have a3 : Nat.blt 0 i.bytes = true := by rw [Nat.blt_eq]; exact hib
    rw [a1, a2, a3]; rfl
  have fin : ∀ (A0 : Mem), A0.next = A.next → (∀ y, y ≠ b → A0.get y = A.get y) →
      RowS (A0.alloc (.cells e .row 0 (T.puts .e 0 (l ++ [v])))) e A.next (l ++ [v]) (.slice (some ⟨A.next, 0, none⟩) (l.length + 1) (mkX (l.length + 1) 1)) ∧ (A0.alloc (.cells e .row 0 (T.puts .e 0 (l ++ [v])))).next = A.next + 1 ∧ ∀ y, y ≠ b → y < A.next → (A0.alloc (.cells e .row 0 (T.puts .e 0 (l ++ [v])))).get y = A.get y := by
    intro A0 hn hg
    refine ⟨.inr ⟨by simp, by rw [List.length_append]; rfl, by rw [next_alloc]; omega, vals_puts ?_⟩, by rw [next_alloc, hn], fun y hy hlt => ?_⟩
    · rw [← hn]; exact get_alloc_self _ _
    · rw [get_alloc_ne (by omega), hg y hy]
  rcases h with ⟨rfl, rfl⟩ | ⟨h0, rfl, h2, h3⟩
  · refine ⟨.slice (some ⟨A.next, 0, none⟩) 1 (mkX 1 1), A.alloc (.cells e .row 0 (T.puts .e 0 [v])), ?_, ?_⟩
    · unfold appendF appendG
      have hble : Nat.ble (0 + 1) (capN 0) = false := rfl
      have hx : capX 0 = true := rfl
      have hel : elemsF A.get 1 0 none = .ok [] := rfl
      simp only [hst, hxt, isIntD, cond_false, hz, R.ok_bind, lenF, hnew, hble, hi]
      simp only [List.length_nil, Nat.zero_add] at hlim
      simp only [Nat.zero_add, hlim, cond_true, hel, R.ok_bind, hx, List.nil_append]
    · exact fin A rfl (fun _ _ => rfl)
  · obtain ⟨cs, hb', hcs⟩ := h3
    have hel : elemsF A.get 1 l.length (some ⟨b, 0, none⟩) = .ok l := elemsF_vals ⟨cs, hb', hcs⟩
    have hble : Nat.ble (l.length + 1) (capN (mkX l.length 1)) = false := by
      rw [capN_mkX he1]
      cases hq : Nat.ble (l.length + 1) l.length with
      | false => rfl
      | true => have := Nat.le_of_ble_eq_true hq; omega
    have hx : capX (mkX l.length 1) = false := capX_mkX _ _
    have he : Nat.beq (capE (mkX l.length 1)) 1 = true := by rw [capE_mkX he1]; rfl
    have hfz : (Nat.ble 0 (0 + l.length * 1) && (Nat.beq e e && Nat.blt 0 9223372036854775808)) = true := by
      have h0 : Nat.blt 0 9223372036854775808 = true := by rw [Nat.blt_eq]; omega
      rw [h0]; simp
    refine ⟨_, (A.set b .dead).alloc (.cells e .row 0 (T.puts .e 0 (l ++ [v]))), ?_, fin (A.set b .dead) (next_set _ _ _) (fun y hy => by rw [get_setMem, if_neg hy])⟩
    unfold appendF appendG
    simp only [hst, hxt, isIntD, cond_false, hz, R.ok_bind, lenF, hnew, hble, hi, hlim, cond_true, hel, hx, he, List.all_cons, List.all_nil, h1c, Bool.and_true, hb', hfz]

/-! ### What is forgotten -/

/-- A memory of which less is known. -/
theorem Rel.less {ι : Inj} {A A' : Mem} {w : World} (h : Rel ι A w) (hg : ∀ x o, A'.get x = some o → alive o = true → ∃ o0, A.get x = some o0 ∧ alive o0 = true ∧ ∀ l o', OR ι o0 l o' → OR ι o l o') (hw : ∀ b, A'.next ≤ b → A'.get b = none) (hgl : ∀ b t k c, A'.get b = some (.cells t .row (GB k) c) → A.get b = some (.cells t .row (GB k) c)) : Rel ι A' w where
  gl := fun b t k c hb => h.gl b t k c (hgl b t k c hb)
  wf := hw
  obs := fun b o l hb ha hl => by
    obtain ⟨o0, h1, h2, h3⟩ := hg b o hb ha
    obtain ⟨o', h4, h5⟩ := h.obs b o0 l h1 h2 hl
    exact ⟨o', h4, h3 l o' h5⟩
  rng := h.rng
  inj := fun b b' l l' ⟨o, h1, h2⟩ ⟨o', h3, h4⟩ => by
    obtain ⟨p, p1, p2, _⟩ := hg b o h1 h2
    obtain ⟨q, q1, q2, _⟩ := hg b' o' h3 h4
    exact h.inj b b' l l' ⟨p, p1, p2⟩ ⟨q, q1, q2⟩
theorem Stp.less {ι ι' : Inj} {A A1 A' : Mem} {w w' : World} (h : Stp ι A w ι' A1 w') (hn : A1.next ≤ A'.next) (hl : ∀ b, live A' b → live A1 b) (hk : ∀ b, b < A.next → A1.get b = A.get b → A'.get b = A.get b) : Stp ι A w ι' A' w' where
  next := Nat.le_trans h.next hn
  out := fun b hb => h.out b (hb.imp id (Nat.le_trans hn))
  src := fun b l hb hl' => h.src b l (hl b hb) hl'
  fr := h.fr
  size := h.size
  os := h.os
  tape := h.tape
  output := h.output
  drawn := h.drawn
  kept := fun b l hb hs => ⟨hk b hs.1 (h.kept b l hb hs).1, (h.kept b l hb hs).2⟩

/-! ### The hook -/

/-- Are the marks of entries all unlike, rising, and below the clock? -/
def bornsOk (clock : Nat) : List MapEntry → Bool
  | [] => true
  | e :: l => Nat.blt e.born clock && (l.all fun x => Nat.blt e.born x.born) && bornsOk clock l
theorem bornsOk_lt {clock : Nat} : ∀ {l : List MapEntry}, bornsOk clock l = true → ∀ e ∈ l, e.born < clock
  | [], _, _, h => by cases h
  | x :: l, hb, e, h => by
    simp only [bornsOk, Bool.and_eq_true] at hb
    rcases List.mem_cons.1 h with rfl | h
    · have := hb.1.1; rw [Nat.blt_eq] at this; exact this
    · exact bornsOk_lt hb.2 e h
theorem bornsOk_nodup {clock : Nat} : ∀ {l : List MapEntry}, bornsOk clock l = true → (l.map (·.born)).Nodup
  | [], _ => .nil
  | x :: l, hb => by
    simp only [bornsOk, Bool.and_eq_true] at hb
    refine List.nodup_cons.2 ⟨fun h => ?_, bornsOk_nodup hb.2⟩
    obtain ⟨y, hy, he⟩ := List.mem_map.1 h
    have := List.all_eq_true.1 hb.1.2 y hy
    rw [Nat.blt_eq] at this
    have he : y.born = x.born := he
    omega

noncomputable def sortHook (tb : Tab) (Ds : List KeysF) (mx : Nat) (tK : TypeId) (p : Value → Bool) (lt : Value → Value → Bool) : List Value → Mem → R (Value × Mem) := fun args A =>
  match args with
  | [.func (.func g) ⟨[]⟩ ⟨[.pointer (some ⟨bp, 0, none⟩)]⟩] => match Ds.find? fun D => Nat.beq D.f g with
    | some D => (loadF tb A.get D.tM (.pointer (some ⟨bp, 0, none⟩))).bind fun v => match v with
      | .map (some m) => match A.get m with
        | some (.map es clock) => bif bornsOk clock es && Nat.ble es.length mx && es.all (fun e => p e.key) then
            match sortV lt (es.map (·.key)) with
            | [] => .ok (.slice none 0 0, { A with next := A.next + 4 })
            | x :: l => .ok (.slice (some ⟨A.next + (2 * es.length + 3), 0, none⟩) es.length (mkX es.length 1),
                { heap := A.heap.set (A.next + (2 * es.length + 3)) (.cells tK .row 0 (T.puts .e 0 (x :: l))), next := A.next + (4 * es.length + 4) })
          else .no 801
        | _ => .no 802
      | .map none => .ok (.slice none 0 0, { A with next := A.next + 4 })
      | _ => .no 803
    | none => .no 804
  | _ => .no 805

/-- What must be shown of such a function: what it answers, in whatever order the keys come. -/
def SortSays (tb : Tab) (f : FuncId) (D : KeysF) (mx : Nat) (tK : TypeId) (p : Value → Bool) (lt : Value → Value → Bool) : Prop :=
  ∀ (A : Mem) (bp clock : Nat) (mv : Value) (es : List MapEntry), loadF tb A.get D.tM (.pointer (some ⟨bp, 0, none⟩)) = .ok mv → MapV A mv es clock → (∀ b, A.next ≤ b → A.get b = none) → (∀ e ∈ es, e.born < clock) → (es.map (·.born)).Nodup → es.length ≤ mx → (∀ e ∈ es, p e.key = true) →
    RCall (A.next + (4 * es.length + 4)) tb.P (.fn f [.func (.func D.f) ⟨[]⟩ ⟨[.pointer (some ⟨bp, 0, none⟩)]⟩]) A fun v A' => A'.next ≤ A.next + (4 * es.length + 4) ∧ (∀ y, y < A.next → A'.get y = A.get y) ∧ ∃ l', l'.Perm (es.map (·.key)) ∧ SortedV lt l' ∧ RowS A' tK (A.next + (2 * es.length + 3)) l' v
theorem SortSays.know {f g : FuncId} {h : List Value → Mem → R (Value × Mem)} {D : KeysF} {mx : Nat} {tK : TypeId} {p : Value → Bool} {lt : Value → Value → Bool} (k : SortSays (tb.know g h) f D mx tK p lt) : SortSays tb f D mx tK p lt := k
theorem SortSays.knows {f g : FuncId} {h : List Value → Mem → R (Value × Mem)} {D : KeysF} {mx : Nat} {tK : TypeId} {p : Value → Bool} {lt : Value → Value → Bool} (k : SortSays tb f D mx tK p lt) : SortSays (tb.know g h) f D mx tK p lt := k

theorem key_flat {v : Value} (h : isStrV v = true ∨ isU8V v = true) : flat 9 v = true := by
  rcases h with h | h
  · unfold isStrV at h
    split at h
    · rfl
    · cases h
  · unfold isU8V at h
    split at h
    · rfl
    · cases h

theorem sort_ok (ok : TabOk tb) {f : FuncId} {fn : Func} {c : Code} (hf : tb.fn.get f = some fn) (hb : fn.body = some c) (hng : (fn.name == "runtime.NumGoroutine") = false) {Ds : List KeysF} {mx : Nat} {tK : TypeId} {p : Value → Bool} {lt : Value → Value → Bool} (hlt : LtOn p lt)
    (hs : ∀ D ∈ Ds, SortSays tb f D mx tK p lt) : HookOk tb.P f (sortHook tb Ds mx tK p lt) := by
  intro args A v A' h
  unfold sortHook at h
  split at h
  case h_2 => cases h
  rename_i g bp
  split at h
  case h_2 => cases h
  rename_i D hD
  obtain ⟨mv, h1, h2⟩ := R.bind_ok h
  clear h
  obtain ⟨es, clock, hmv, hq, h2⟩ : ∃ es clock, ((∃ m, mv = .map (some m) ∧ A.get m = some (.map es clock)) ∨ (mv = .map none ∧ es = [])) ∧ ((bornsOk clock es = true ∧ Nat.ble es.length mx = true) ∧ (es.all fun e => p e.key) = true) ∧
      (match sortV lt (es.map (·.key)) with
        | [] => R.ok ((Value.slice none 0 0, { A with next := A.next + 4 }) : Value × Mem)
        | x :: l => .ok (Value.slice (some ⟨A.next + (2 * es.length + 3), 0, none⟩) es.length (mkX es.length 1),
            { heap := A.heap.set (A.next + (2 * es.length + 3)) (.cells tK .row 0 (T.puts .e 0 (x :: l))), next := A.next + (4 * es.length + 4) })) = .ok (v, A') := by
    split at h2
    · rename_i m
      split at h2
      case h_2 => cases h2
      rename_i es clock hm
      cases hq : (bornsOk clock es && Nat.ble es.length mx && es.all fun e => p e.key) with
      | false => rw [hq] at h2; cases h2
      | true =>
        rw [hq, cond_true] at h2
        simp only [Bool.and_eq_true] at hq
        exact ⟨es, clock, .inl ⟨m, rfl, hm⟩, hq, h2⟩
    · exact ⟨[], 0, .inr ⟨rfl, rfl⟩, ⟨⟨rfl, rfl⟩, rfl⟩, h2⟩
    · cases h2
  have hDm := List.mem_of_find?_eq_some hD
  have hDf : D.f = g := Nat.eq_of_beq_eq_true (by have := List.find?_some hD; exact this)
  subst hDf
  have hlen : (sortV lt (es.map (·.key))).length = es.length := by rw [(sortV_perm lt _).length_eq, List.length_map]
  have hnx : A'.next = A.next + (4 * es.length + 4) ∧ (∀ y, y < A.next → A'.get y = A.get y) ∧ (∀ y, A.next ≤ y → y ≠ A.next + (2 * es.length + 3) → A'.get y = A.get y) ∧ RowS A' tK (A.next + (2 * es.length + 3)) (sortV lt (es.map (·.key))) v ∧
      (es = [] → A'.get (A.next + (2 * es.length + 3)) = A.get (A.next + (2 * es.length + 3))) ∧ (es ≠ [] → A'.get (A.next + (2 * es.length + 3)) = some (.cells tK .row 0 (T.puts .e 0 (sortV lt (es.map (·.key)))))) := by
    split at h2
    · rename_i hnil
      simp only [R.ok.injEq, Prod.mk.injEq] at h2
      obtain ⟨rfl, rfl⟩ := h2
      rw [hnil] at hlen
      have : es = [] := List.length_eq_zero_iff.1 hlen.symm
      subst this
      exact ⟨rfl, fun _ _ => rfl, fun _ _ _ => rfl, .inl ⟨rfl, hnil⟩, fun _ => rfl, fun h => absurd rfl h⟩
    · rename_i x l hxl
      simp only [R.ok.injEq, Prod.mk.injEq] at h2
      obtain ⟨rfl, rfl⟩ := h2
      have hget : ∀ y, ({ heap := A.heap.set (A.next + (2 * es.length + 3)) (.cells tK .row 0 (T.puts .e 0 (x :: l))), next := A.next + (4 * es.length + 4) } : Mem).get y = if y = A.next + (2 * es.length + 3) then some (.cells tK .row 0 (T.puts .e 0 (x :: l))) else A.get y := fun y => T.get_set ..
      have hne : es ≠ [] := by
        rintro rfl
        cases hxl
      refine ⟨rfl, fun y hy => by rw [hget, if_neg (by omega)], fun y hy hne => by rw [hget, if_neg hne], .inr ⟨by rw [hxl]; simp, ?_, by show _ < A.next + (4 * es.length + 4); omega, ?_⟩, fun h => absurd h hne, fun _ => by rw [hget, if_pos rfl, hxl]⟩
      · rw [hlen]
      · rw [hxl]
        exact vals_puts (by rw [hget, if_pos rfl])
  obtain ⟨hnA, hgA, hgA2, hrow, hgb0, hgb⟩ := hnx
  refine ⟨by omega, fun ι w args' hr ha hfree fr cs => ?_⟩
  have hcf : ∀ args' w, (callFunc f args').run tb.P w = .ok (.enter f args') w := by
    intro args' w
    unfold callFunc
    simp only [Sem.run_bind, run_program, Result.andThen_ok, ok.fn _ _ hf, hng, hb, Option.isNone_some, Bool.false_eq_true, if_false, Sem.run_pure]
  obtain ⟨v1, A1, ι1, w1, v', ⟨hn1, hg1, l', hp1, hs1, hr1⟩, _, hdone, hv1, hrel1, hst1⟩ := hs D hDm A bp clock mv es h1 (by
    rcases hmv with ⟨m, e1, e2⟩ | e1
    · refine .inl ⟨m, e1, ?_, e2⟩
      rcases Nat.lt_or_ge m A.next with h | h
      · exact h
      · rw [hr.wf m h] at e2; cases e2
    · exact .inr e1) hr.wf (bornsOk_lt hq.1.1) (bornsOk_nodup hq.1.1) (Nat.le_of_ble_eq_true hq.1.2) (fun e he => List.all_eq_true.1 hq.2 e he) ι w (callFunc f args') fr cs hr ⟨args', rfl, ha⟩
    (fun x h1 h2 => hfree x h1 (by rw [hnA]; exact h2))
  have hl' : l' = sortV lt (es.map (·.key)) := sorted_one hlt (fun y hy => by
    obtain ⟨e, he, rfl⟩ := List.mem_map.1 (hp1.mem_iff.1 hy)
    exact List.all_eq_true.1 hq.2 e he) hs1 hp1
  subst hl'
  have hvv : v1 = v := by
    rcases hrow with ⟨e1, e2⟩ | ⟨e1, e2, _⟩
    · rcases hr1 with ⟨g1, _⟩ | ⟨g1, _⟩
      · rw [e1, g1]
      · exact absurd e2 g1
    · rcases hr1 with ⟨_, g2⟩ | ⟨_, g2, _⟩
      · exact absurd g2 e1
      · rw [e2, g2]
  subst hvv
  have hsteps : Steps tb.P (lone (Frame.enter tb.P f args' .normal) (fr :: cs) w) (lone (fr.finish v') cs w1) := by
    rcases hdone with h | ⟨f2, a2, h, hst⟩ | ⟨l, f2, t, as, bd, h, _⟩
    · rw [hcf] at h; cases h
    · rw [hcf] at h
      cases h
      exact hst
    · rw [hcf] at h; cases h
  have hwfA := hr.wf
  have hobs : ∀ x o, A'.get x = some o → alive o = true → ∃ o0, A1.get x = some o0 ∧ alive o0 = true ∧ ∀ l o', OR ι1 o0 l o' → OR ι1 o l o' := by
    intro x o hx ha
    rcases Nat.lt_or_ge x A.next with hlt | hge
    · rw [hgA x hlt, ← hg1 x hlt] at hx
      exact ⟨o, hx, ha, fun _ _ h => h⟩
    · by_cases hxe : x = A.next + (2 * es.length + 3)
      · subst hxe
        by_cases hes : es = []
        · rw [hgb0 hes, hwfA _ (by omega)] at hx; cases hx
        · rw [hgb hes] at hx
          cases hx
          rcases hr1 with ⟨_, g2⟩ | ⟨_, _, _, cc, g3, g4⟩
          · rw [g2] at hlen
            exact absurd (List.length_eq_zero_iff.1 hlen.symm) hes
          · refine ⟨_, g3, rfl, fun ll o' hor => ?_⟩
            obtain ⟨cs', fr', q1, q2, q3, q4⟩ := hor
            refine ⟨cs', fr', q1, q2, fun i vv hvv => ?_, q4⟩
            rw [T.get_puts] at hvv
            by_cases hi : 0 ≤ i ∧ i < 0 + (sortV lt (es.map (·.key))).length
            · rw [if_pos hi] at hvv
              exact q3 i vv (by rw [g4 i (by omega)]; simpa using hvv)
            · rw [if_neg hi, T.get_e] at hvv; cases hvv
      · rw [hgA2 x hge hxe, hwfA x hge] at hx; cases hx
  have hwf' : ∀ b, A'.next ≤ b → A'.get b = none := by
    intro b hbn
    rw [hnA] at hbn
    rw [hgA2 b (by omega) (by omega)]
    exact hwfA b (by omega)
  refine ⟨ι1, w1, v', hsteps, hv1, hrel1.less hobs hwf' (fun b t k c hb => by
    rcases Nat.lt_or_ge b A.next with hlt | hge
    · rw [hgA b hlt, ← hg1 b hlt] at hb; exact hb
    · by_cases hxe : b = A.next + (2 * es.length + 3)
      · subst hxe
        by_cases hes : es = []
        · rw [hgb0 hes, hwfA _ (by omega)] at hb; cases hb
        · rw [hgb hes] at hb
          have h3 : 0 = GB k := by injection hb with hb; injection hb
          unfold GB at h3
          omega
      · rw [hgA2 b hge hxe, hwfA b hge] at hb; cases hb), hst1.less (by rw [hnA]; exact hn1) (fun b ⟨o, h1, h2⟩ => ?_) (fun b hb _ => hgA b hb)⟩
  obtain ⟨o0, h3, h4, _⟩ := hobs b o h1 h2
  exact ⟨o0, h3, h4⟩

/-- Memory in which there is more. -/
structure More (A C : Mem) : Prop where
  n : A.next ≤ C.next
  g : ∀ y, y < A.next → C.get y = A.get y
theorem More.alloc (A : Mem) (o : Ob) : More A (A.alloc o) := ⟨by rw [next_alloc]; omega, fun y hy => get_alloc_ne (by omega)⟩
theorem wrapF_u64 {n : Nat} (h : n < 18446744073709551616) : wrapF .u64 (n : Int) = (n : Int) := by
  have e : inK .u64 (n : Int) = true := by
    unfold inK
    show Nat.blt n 18446744073709551616 = true
    rw [Nat.blt_eq]; exact h
  unfold wrapF; rw [e]; rfl

theorem load_none {g : Nat → Option Ob} {t : TypeId} {b : Nat} (h : g b = none) : loadF tb g t (.pointer (some ⟨b, 0, none⟩)) = .no 72 := by
  unfold loadF
  simp only [h]

end Go.Am

/-
  The abstract machine AM, part 63b: a first memory with package-level variables: cells that are known, and cells that are not looked at.
-/
namespace Go.Am

abbrev Glb := List (Nat × List Value)
/-- A variable's cells. -/
def gOf : Glb → Nat → Option (List Value)
  | [], _ => none
  | p :: l, b => if b = p.1 then some p.2 else gOf l b
noncomputable def gOb (t : TypeId) (k : Nat) (vs : List Value) : Ob := .cells t .row (GB k) (T.puts .e 0 vs)
noncomputable def gHeap (ts : Nat → TypeId) : Glb → T Ob
  | [] => .e
  | p :: l => (gHeap ts l).set p.1 (gOb (ts p.1) p.1 p.2)
noncomputable def gMem (ts : Nat → TypeId) (l : Glb) (n : Nat) : Mem := ⟨gHeap ts l, n⟩
theorem gHeap_get (ts : Nat → TypeId) (b : Nat) : ∀ l, (gHeap ts l).get b = (gOf l b).map (gOb (ts b) b)
  | [] => by simp [gHeap, gOf, T.get_e]
  | p :: l => by
    rw [gHeap, T.get_set, gHeap_get ts b l]
    have e : gOf (p :: l) b = if b = p.1 then some p.2 else gOf l b := rfl
    rw [e]
    by_cases h : b = p.1
    · subst h; simp
    · simp [h]
def gInj (l : Glb) : Inj := fun b => (gOf l b).map fun vs => ⟨b, 0, vs.length⟩
theorem gInj_some {l : Glb} {b : Nat} {c : Loc} (h : gInj l b = some c) : ∃ vs, gOf l b = some vs ∧ c = ⟨b, 0, vs.length⟩ := by
  unfold gInj at h
  cases hq : gOf l b with
  | none => rw [hq] at h; cases h
  | some vs => rw [hq] at h; cases h; exact ⟨vs, rfl, rfl⟩
/-- A cell that is not looked at, or one of a plain number. -/
def CellAt (v v' : Value) : Prop := (v = .chan (some 0) ∧ oneCell v' = true) ∨ ∃ k n, v = .int k n ∧ v' = .int k n
theorem CellAt.vr {ι : Inj} {v v' : Value} (h : CellAt v v') : VR ι v v' := by
  rcases h with ⟨rfl, h⟩ | ⟨k, n, rfl, rfl⟩
  · exact .unk h
  · exact .int _ _
/-- A variable's cells in a world. -/
def GAt (w : World) (g : Nat) (vs : List Value) : Prop := ∃ (ws : Array Value) (t : TypeId), w.heap[g]? = some (.cells ws t (0, 0)) ∧ ws.size = vs.length ∧ ∀ (i : Nat) (v : Value), vs[i]? = some v → ∃ v', ws[i]? = some v' ∧ CellAt v v'
theorem OneAt.g {w : World} {g : Nat} (h : OneAt w g) : GAt w g [.chan (some 0)] := by
  obtain ⟨v, t, e, h1⟩ := h
  refine ⟨#[v], t, e, rfl, fun i x hi => ?_⟩
  cases i with
  | zero => cases hi; exact ⟨v, rfl, .inl ⟨rfl, h1⟩⟩
  | succ i => simp at hi
theorem g_rel {w : World} {l : Glb} {n : Nat} (hn : ∀ k vs, gOf l k = some vs → k < n ∧ vs.length < 1000000) {ts : Nat → TypeId} (h : ∀ k vs, gOf l k = some vs → ∃ (ws : Array Value), w.heap[k]? = some (.cells ws (ts k) (0, 0)) ∧ ws.size = vs.length ∧ ∀ (i : Nat) (v : Value), vs[i]? = some v → ∃ v', ws[i]? = some v' ∧ CellAt v v') :
    Rel (gInj l) (gMem ts l n) w := by
  have hget : ∀ b, (gMem ts l n).get b = (gOf l b).map (gOb (ts b) b) := fun b => gHeap_get ts b l
  refine ⟨fun b hb => ?_, fun b o c hb ha hc => ?_, fun b c hc => ?_, fun b b' c c' _ _ hc hc' he => ?_, fun b t k c hb => ?_⟩
  · rw [hget]
    cases hq : gOf l b with
    | none => rfl
    | some vs => have h1 := (hn b vs hq).1; have h2 : n ≤ b := hb; omega
  · obtain ⟨vs, hvs, rfl⟩ := gInj_some hc
    rw [hget, hvs] at hb
    cases hb
    obtain ⟨ws, e, h1, h2⟩ := h b vs hvs
    refine ⟨_, e, ws, (0, 0), rfl, h1, fun i x hx => ?_, Nat.zero_le _⟩
    rw [T.get_puts] at hx
    split at hx
    · obtain ⟨v', e1, e2⟩ := h2 i x (by simpa using hx)
      exact ⟨v', by simpa using e1, e2.vr⟩
    · rw [T.get_e] at hx; cases hx
  · obtain ⟨vs, hvs, rfl⟩ := gInj_some hc
    obtain ⟨ws, e, _⟩ := h b vs hvs
    exact (Array.getElem?_eq_some_iff.1 e).1
  · obtain ⟨_, _, rfl⟩ := gInj_some hc
    obtain ⟨_, _, rfl⟩ := gInj_some hc'
    exact he
  · rw [hget] at hb
    cases hq : gOf l b with
    | none => rw [hq] at hb; cases hb
    | some vs =>
      rw [hq] at hb
      simp only [gOb, Option.map_some, Option.some.injEq, Ob.cells.injEq, GB] at hb
      have hk : k = b := by omega
      subst hk
      exact ⟨⟨k, 0, vs.length⟩, by unfold gInj; rw [hq]; rfl, rfl, rfl, by have := (hn k vs hq).2; show vs.length ≤ _; omega⟩

/-! ### A table of numbers, in a world that meets the condition -/
theorem laid_table {P : Program} {l : List (String × DataW Unit)} {w : World} (h : laidMet P l w) {n : String} {kd : IntKind} {zs : List Int} (hx : (n, DataW.agg (zs.map fun z => DataW.lit (.int kd z))) ∈ l) {g : Nat} {t e : TypeId} (hg : P.globalNamed n = some g)
    (ht : (P.globals[g]?).map (·.type) = some t) (ha : P.underlying t = some (.array zs.length e)) (he : P.underlying e = some (.int kd)) (hce : P.cellsOf e = 1) (hct : P.cellsOf t = zs.length) (h0 : 0 < zs.length) : GAt w g (zs.map fun z => .int kd z) := by
  obtain ⟨ps, hl, _, hrows⟩ := h
  obtain ⟨g', t', cs, fuel, p, h1, h2, h3, h4, h5⟩ := laid_mem hl hx
  rw [hg] at h1
  cases h1
  rw [ht] at h2
  cases h2
  obtain ⟨xs, m, -, hxe, hcl, hxl, hi⟩ := DataW.trod_array ha h4
  rw [hct] at hcl
  have hsz : cs.size = zs.length := by simpa using hcl
  obtain ⟨⟨c, tt, e1⟩, _⟩ := hrows g 0 (h5 _ (by unfold MemPlace.row; rw [List.mem_map]; exact ⟨0, List.mem_range.2 (by omega), rfl⟩))
  unfold World.var? at h3
  rw [hg, Option.bind_some, e1] at h3
  simp only [Option.some.injEq] at h3
  subst h3
  refine ⟨c, tt, e1, by simpa using hsz, fun i v hv => ?_⟩
  rw [List.getElem?_map] at hv
  obtain ⟨z, hz, rfl⟩ := Option.map_eq_some_iff.1 hv
  have hil := (List.getElem?_eq_some_iff.1 hz).1
  have hi' := hi i hil
  rw [hce, Nat.mul_one] at hi'
  have hci : i < c.size := by omega
  have hone : (c.toList.drop i).take 1 = [c[i]] := by
    rw [List.drop_eq_getElem_cons (by simpa using hci)]
    simp
  rw [hone] at hi'
  have hxi : xs[i]? = some xs[i] := List.getElem?_eq_getElem (by omega)
  rw [hxi] at hi'
  obtain ⟨q, hq1, hq2, -⟩ := DataW.trod_int he hi'
  simp only [List.cons.injEq, and_true] at hq1
  refine ⟨c[i], Array.getElem?_eq_getElem hci, .inr ⟨kd, z, rfl, ?_⟩⟩
  have hd : (xs[i]).1 = DataW.lit (.int kd z) := by
    have h6 : zs.map (fun z => DataW.lit (H := Unit) (.int kd z)) = xs.map (·.1) := by
      injection (Prod.mk.inj hxe).1
    have h7 := congrArg (·[i]?) h6
    simp only [List.getElem?_map, hz, hxi, Option.map_some, Option.some.injEq] at h7
    exact h7.symm
  rw [hq1]
  have hq3 := hq2
  rw [hq3] at hd
  injection hd with hd
  injection hd with _ hd
  rw [hd]
end Go.Am

/-
  The abstract machine AM, part 64: a long run is cut; what is not needed is forgotten.
-/
namespace Go.Am
variable {tb : Tab}

/-- The first rows are there, as they were. -/
def Here (G : Glb) (ts : Nat → TypeId) (ι : Inj) (A : Mem) : Prop := ∀ b vs, gOf G b = some vs → b < A.next ∧ A.get b = some (gOb (ts b) b vs) ∧ ι b = some ⟨b, 0, vs.length⟩ ∧ vs.length < 18446744073709551617
/-- What stays, of the first rows at least. -/
structure GStp (G : Glb) (ι : Inj) (A : Mem) (w : World) (ι' : Inj) (A' : Mem) (w' : World) : Prop where
  next : A.next ≤ A'.next
  out : ∀ b, b < A.next ∨ A'.next ≤ b → ι' b = ι b
  src : ∀ b l, live A' b → ι' b = some l → w.heap.size ≤ l.blk ∨ ∃ b0 l0, live A b0 ∧ ι b0 = some l0 ∧ l0.blk = l.blk
  fr : ∀ c, c < w.heap.size → (∀ b l, live A b → ι b = some l → l.blk ≠ c) → w'.heap[c]? = w.heap[c]?
  size : w.heap.size ≤ w'.heap.size
  os : w'.os = w.os
  tape : w'.tape = w.tape
  output : w'.output = w.output
  kept : ∀ b vs, gOf G b = some vs → w'.heap[b]? = w.heap[b]?
  drawn : w.drawn ≤ w'.drawn
theorem Here.still {G : Glb} {ts : Nat → TypeId} {ι : Inj} {A : Mem} (h : Here G ts ι A) {b : Nat} {vs : List Value} (hb : gOf G b = some vs) : Still A b ⟨b, 0, vs.length⟩ :=
  ⟨(h b vs hb).1, ts b, GB b, _, (h b vs hb).2.1, by unfold GB; omega, by have := (h b vs hb).2.2.2; show vs.length < GB b; unfold GB; omega⟩
theorem GStp.of {G : Glb} {ts : Nat → TypeId} {ι ι' : Inj} {A A' : Mem} {w w' : World} (h : Stp ι A w ι' A' w') (hh : Here G ts ι A) : GStp G ι A w ι' A' w' ∧ Here G ts ι' A' :=
  ⟨⟨h.next, h.out, h.src, h.fr, h.size, h.os, h.tape, h.output, fun b vs hb => (h.kept b _ (hh b vs hb).2.2.1 (hh.still hb)).2, h.drawn⟩,
    fun b vs hb => ⟨Nat.lt_of_lt_of_le (hh b vs hb).1 h.next, by rw [(h.kept b _ (hh b vs hb).2.2.1 (hh.still hb)).1]; exact (hh b vs hb).2.1, by rw [h.out b (.inl (hh b vs hb).1)]; exact (hh b vs hb).2.2.1, (hh b vs hb).2.2.2⟩⟩
theorem GStp.trans {G : Glb} {ι ι1 ι2 : Inj} {A A1 A2 : Mem} {w w1 w2 : World} (h : GStp G ι A w ι1 A1 w1) (k : GStp G ι1 A1 w1 ι2 A2 w2) : GStp G ι A w ι2 A2 w2 where
  next := Nat.le_trans h.next k.next
  out := fun b hb => by
    have := h.next
    have := k.next
    rw [k.out b (by omega), h.out b (by omega)]
  src := fun b l hb hl => by
    rcases k.src b l hb hl with h1 | ⟨b0, l0, h1, h2, h3⟩
    · exact .inl (Nat.le_trans h.size h1)
    · rcases h.src b0 l0 h1 h2 with h4 | ⟨b1, l1, h4, h5, h6⟩
      · exact .inl (by omega)
      · exact .inr ⟨b1, l1, h4, h5, by omega⟩
  fr := fun c hc hn => by
    rw [k.fr c (Nat.lt_of_lt_of_le hc h.size), h.fr c hc hn]
    intro b l hb hl he
    rcases h.src b l hb hl with h1 | ⟨b0, l0, h1, h2, h3⟩
    · omega
    · exact hn b0 l0 h1 h2 (by omega)
  size := Nat.le_trans h.size k.size
  os := k.os.trans h.os
  tape := k.tape.trans h.tape
  output := k.output.trans h.output
  kept := fun b vs hb => (k.kept b vs hb).trans (h.kept b vs hb)
  drawn := Nat.le_trans h.drawn k.drawn
theorem Free.gright {G : Glb} {ι ι1 : Inj} {A A1 A2 : Mem} {w w1 : World} (h : Free ι A A2) (k : GStp G ι A w ι1 A1 w1) : Free ι1 A1 A2 := fun b h1 h2 => by
  rw [k.out b (.inr h1)]; exact h b (Nat.le_trans k.next h1) h2

/-- A piece of code runs from one state to another one. -/
def RunSnd (P : Program) (G : Glb) (ts : Nat → TypeId) (c : Code) (s : St) (e : Ex) (s1 : St) : Prop :=
  s.m.next ≤ s1.m.next ∧ ∀ (ι : Inj) (b : Frame) (a : Act) (k : List Item) (cs : List Frame) (w : World), SR ι s b a w → Here G ts ι s.m → Free ι s.m s1.m →
    ∃ ι' w' a' k', Steps P (lone (b.atR a (.code c :: k)) cs w) (lone (b.atR a' k') cs w') ∧ Arr e k k' ∧ SR ι' s1 b a' w' ∧ Here G ts ι' s1.m ∧ GStp G ι s.m w ι' s1.m w' ∧ s1.n = s.n ∧ s1.ro = s.ro
variable {P : Program} {G : Glb} {ts : Nat → TypeId}
theorem RunSnd.of {c : Code} {s s1 : St} {e : Ex} (h : CodeSnd P c s e s1) : RunSnd P G ts c s e s1 := by
  obtain ⟨hle, h⟩ := h
  refine ⟨hle, fun ι b a k cs w hs hh hf => ?_⟩
  obtain ⟨ι', w', a', k', st, ha, hs', hss⟩ := h ι b a k cs w hs hf
  obtain ⟨g1, g2⟩ := GStp.of hss.stp hh
  exact ⟨ι', w', a', k', st, ha, hs', g2, g1, hss.n, hss.ro⟩
theorem RunSnd.exec (ok : TabOk tb) {n : Nat} {c : Code} {s s1 : St} {e : Ex} (h : exec tb n c s = .ok (e, s1)) (he : ∀ v, e ≠ .pan v) : RunSnd tb.P G ts c s e s1 := by
  rcases exec_sound ok n c s e s1 h with ⟨v, rfl, -⟩ | h
  · exact absurd rfl (he v)
  · exact .of h
/-- One code goes on as another one, before which some steps lie. -/
theorem RunSnd.seqs {c : Code} {s s1 s2 : St} {e : Ex} (h1 : RunSnd P G ts c s .nrm s1) {d : Code} {e2 : Ex} (h2 : RunSnd P G ts d s1 e2 s2)
    {c' : Code} (hst : ∀ (b : Frame) (a : Act) (k : List Item) (cs : List Frame) (w : World), ∃ k1, Steps P (lone (b.atR a (.code c' :: k)) cs w) (lone (b.atR a (.code c :: k1)) cs w) ∧
      ∀ (a : Act) (w : World), ∃ k2, Steps P (lone (b.atR a k1) cs w) (lone (b.atR a (.code d :: k2)) cs w) ∧ ∀ k', Arr e2 k2 k' → ∀ (a : Act) (w : World), ∃ k'', Steps P (lone (b.atR a k') cs w) (lone (b.atR a k'') cs w) ∧ Arr e k k'') :
    RunSnd P G ts c' s e s2 := by
  obtain ⟨hle, h1⟩ := h1
  obtain ⟨hle2, h2⟩ := h2
  refine ⟨Nat.le_trans hle hle2, fun ι b a k cs w hs hh hf => ?_⟩
  obtain ⟨k1, st0, hk⟩ := hst b a k cs w
  obtain ⟨ι1, w1, a1, k1', st1, ha1, hs1, hh1, hss1, n1, r1⟩ := h1 ι b a k1 cs w hs hh (hf.left hle2)
  cases (show k1' = k1 from ha1)
  obtain ⟨k2, st2, hk2⟩ := hk a1 w1
  obtain ⟨ι2, w2, a2, k2', st3, ha2, hs2, hh2, hss2, n2, r2⟩ := h2 ι1 b a1 k2 cs w1 hs1 hh1 (hf.gright hss1)
  obtain ⟨k3, st4, ha3⟩ := hk2 _ ha2 a2 w2
  exact ⟨ι2, w2, a2, k3, (((st0.trans st1).trans st2).trans st3).trans st4, ha3, hs2, hh2, hss1.trans hss2, n2.trans n1, r2.trans r1⟩
theorem RunSnd.wrap {c c' : Code} {s s1 : St} {e e' : Ex} (h1 : RunSnd P G ts c s e s1)
    (hst : ∀ (b : Frame) (a : Act) (k : List Item) (cs : List Frame) (w : World), ∃ k1, Steps P (lone (b.atR a (.code c' :: k)) cs w) (lone (b.atR a (.code c :: k1)) cs w) ∧
      ∀ k', Arr e k1 k' → ∀ (a : Act) (w : World), ∃ k'', Steps P (lone (b.atR a k') cs w) (lone (b.atR a k'') cs w) ∧ Arr e' k k'') :
    RunSnd P G ts c' s e' s1 := by
  obtain ⟨hle, h1⟩ := h1
  refine ⟨hle, fun ι b a k cs w hs hh hf => ?_⟩
  obtain ⟨k1, st0, hk⟩ := hst b a k cs w
  obtain ⟨ι1, w1, a1, k1', st1, ha1, hs1, hh1, hss1, n1, r1⟩ := h1 ι b a k1 cs w hs hh hf
  obtain ⟨k3, st4, ha3⟩ := hk _ ha1 a1 w1
  exact ⟨ι1, w1, a1, k3, (st0.trans st1).trans st4, ha3, hs1, hh1, hss1, n1, r1⟩
theorem RunSnd.seq {x y : Code} {s s1 s2 : St} {e : Ex} (h1 : RunSnd P G ts x s .nrm s1) (h2 : RunSnd P G ts y s1 e s2) : RunSnd P G ts (.seq x y) s e s2 :=
  h1.seqs h2 fun _ _ k _ _ => ⟨_, .one stepR_seq, fun _ _ => ⟨k, .refl _ _, fun k' hk' _ _ => ⟨k', .refl _ _, hk'⟩⟩⟩
theorem RunSnd.blockX {id : Nat} {x : Code} {s s1 : St} (h : RunSnd P G ts x s (.exit id) s1) : RunSnd P G ts (.block id x) s .nrm s1 := by
  refine h.wrap fun b a k cs w => ⟨_, .one stepR_block, ?_⟩
  rintro k' ⟨k2, rfl, hk2⟩ a w
  refine ⟨k, .one (stepR_exit ?_), rfl⟩
  rw [hk2]; simp [exitTo]
theorem RunSnd.loopX {i : Nat} {x : Code} {s s1 : St} (h : RunSnd P G ts x s (.exit i) s1) : RunSnd P G ts (.loop x) s (.exit i) s1 :=
  h.wrap fun b a k cs w => ⟨_, .one stepR_loop, fun k' hk' a w => ⟨k', .refl _ _, hk'.push (by simp) (by simp)⟩⟩
theorem RunSnd.loopN {x : Code} {s s1 s2 : St} {e : Ex} (h1 : RunSnd P G ts x s .nrm s1) (h2 : RunSnd P G ts (.loop x) s1 e s2) : RunSnd P G ts (.loop x) s e s2 := by
  refine ⟨Nat.le_trans h1.1 h2.1, fun ι b a k cs w hs hh hf => ?_⟩
  obtain ⟨ι1, w1, a1, k1, st1, ha1, hs1, hh1, hss1, n1, r1⟩ := h1.2 ι b a (.inLoop x :: k) cs w hs hh (hf.left h2.1)
  cases (show k1 = .inLoop x :: k from ha1)
  obtain ⟨ι2, w2, a2, k2, st2, ha2, hs2, hh2, hss2, n2, r2⟩ := h2.2 ι1 b a1 k cs w1 hs1 hh1 (hf.gright hss1)
  have hne : lone (b.atR a2 k2) cs w2 ≠ lone (b.atR a1 (.code (.loop x) :: k)) cs w1 := by
    intro he
    have h5 : k2 = .code (.loop x) :: k := by
      have := congrArg (fun m : Machine => m.gs) he
      simp only [lone] at this
      have := congrArg (fun g : Array Goroutine => g.toList.map fun g => g.frame.todo) this
      simpa [Frame.atR] using this
    exact ha2.ne (by simp) (by simp) h5
  exact ⟨ι2, w2, a2, k2, (Steps.head stepR_loop st1).trans (steps_swap st2 stepR_loop stepR_inLoop hne), ha2, hs2, hh2, hss1.trans hss2, n2.trans n1, r2.trans r1⟩

/-! ### What is forgotten -/
def SubOb (o o1 : Ob) : Prop :=
  match o with
  | .cells t x fz c => ∃ c1, o1 = .cells t x fz c1 ∧ ∀ i v, c.get i = some v → c1.get i = some v
  | o => o1 = o
theorem SubOb.alive {o o1 : Ob} (h : SubOb o o1) : alive o = alive o1 := by
  cases o with
  | cells t x fz c => obtain ⟨c1, rfl, -⟩ := h; rfl
  | _ => cases (show o1 = _ from h); rfl
theorem SubOb.or {o o1 : Ob} (h : SubOb o o1) {ι : Inj} {l : Loc} {o' : Obj} (k : OR ι o1 l o') : OR ι o l o' := by
  cases o with
  | cells t x fz c =>
    obtain ⟨c1, rfl, hc⟩ := h
    obtain ⟨cs, fr, h1, h2, h3, h4⟩ := k
    exact ⟨cs, fr, h1, h2, fun i v hv => h3 i v (hc i v hv), h4⟩
  | _ => cases (show o1 = _ from h); exact k
structure SubSt (G : Glb) (ts : Nat → TypeId) (s s1 : St) : Prop where
  n : s.n = s1.n
  d : s.d = s1.d
  ro : s.ro = s1.ro
  next : s.m.next = s1.m.next
  t : ∀ i v, s.t.get i = some v → s1.t.get i = some v
  m : ∀ b o, s.m.get b = some o → gOf G b = none → ∃ o1, s1.m.get b = some o1 ∧ SubOb o o1
  g : ∀ b vs, gOf G b = some vs → s.m.get b = some (gOb (ts b) b vs)
  wf : ∀ b, s.m.next ≤ b → s.m.get b = none
theorem RunSnd.cut {c : Code} {s s1 s2 : St} {e : Ex} (h : RunSnd P G ts c s e s1) (k : SubSt G ts s2 s1) : RunSnd P G ts c s e s2 := by
  obtain ⟨hle, h⟩ := h
  refine ⟨by rw [k.next]; exact hle, fun ι b a kk cs w hs hh hf => ?_⟩
  obtain ⟨ι', w', a', k', st, ha, hs', hh', hss, n', r'⟩ := h ι b a kk cs w hs hh (fun b h1 h2 => hf b h1 (by rw [k.next]; exact h2))
  have hm : ∀ b o, s2.m.get b = some o → ∃ o1, s1.m.get b = some o1 ∧ SubOb o o1 := fun b o hb => by
    cases hG : gOf G b with
    | some vs =>
      have := k.g b vs hG
      rw [this] at hb
      cases hb
      exact ⟨_, (hh' b vs hG).2.1, _, rfl, fun _ _ h => h⟩
    | none => exact k.m b o hb hG
  have hlive : ∀ b, live s2.m b → live s1.m b := fun b ⟨o, h1, h2⟩ => by
    obtain ⟨o1, h3, h4⟩ := hm b o h1
    exact ⟨o1, h3, by rw [← h4.alive]; exact h2⟩
  refine ⟨ι', w', a', k', st, ha, ⟨⟨k.wf, fun b o l h1 h2 h3 => ?_, hs'.rel.rng, fun b b' l l' h1 h2 h3 h4 h5 => hs'.rel.inj b b' l l' (hlive b h1) (hlive b' h2) h3 h4 h5, fun b t q cc h1 => ?_⟩, ⟨by rw [k.n]; exact hs'.tr.1, fun i v hv => hs'.tr.2 i v (k.t i v hv)⟩, by rw [k.ro]; exact hs'.ro, by rw [k.d]; exact hs'.dr⟩,
    fun b vs hb => ⟨by rw [k.next]; exact (hh' b vs hb).1, k.g b vs hb, (hh' b vs hb).2.2⟩, ⟨by rw [k.next]; exact hss.next, by rw [k.next]; exact hss.out, fun b l h1 h2 => hss.src b l (hlive b h1) h2, hss.fr, hss.size, hss.os, hss.tape, hss.output, hss.kept, hss.drawn⟩, by rw [k.n]; exact n', by rw [k.ro]; exact r'⟩
  · obtain ⟨o1, h4, h5⟩ := hm b o h1
    obtain ⟨o', h6, h7⟩ := hs'.rel.obs b o1 l h4 (by rw [← h5.alive]; exact h2) h3
    exact ⟨o', h6, h5.or h7⟩
  · obtain ⟨o1, h4, c1, rfl, -⟩ := hm b _ h1
    exact hs'.rel.gl b t q c1 h4
end Go.Am

/-
  The abstract machine AM, part 65: a law whose run is cut; what a cut is checked against.
-/
namespace Go.Am
variable {tb : Tab} (ok : TabOk tb)

/-! ### The law -/
theorem gOf_mem : ∀ {l : Glb} {b : Nat} {vs : List Value}, gOf l b = some vs → (b, vs) ∈ l
  | p :: l, b, vs, h => by
    have h' : (if b = p.1 then some p.2 else gOf l b) = some vs := h
    split at h'
    · rename_i e
      cases h'
      subst e
      exact List.mem_cons_self ..
    · exact List.mem_cons_of_mem _ (gOf_mem h')

include ok in
/-- A law without arguments whose text runs, in pieces, to an answer that is true. -/
theorem cut_true {N : Nat} {l : Glb} (hl : l.all (fun p => Nat.blt p.1 N && Nat.blt p.2.length 1000000) = true) {f : FuncId} {fn : Func} {c : Code} (hf : tb.fn.get f = some fn) (hb : fn.body = some c)
    (h : ∀ ts, ∃ s1, RunSnd tb.P l ts c ⟨.e, fn.ntmps, [], gMem ts l N, none⟩ .ret s1 ∧ s1.d = [] ∧ resF tb s1.t s1.m.get fn.results.toList = .ok [.bool true]) (w : World) (hw : ∀ k vs, gOf l k = some vs → GAt w k vs) :
    Calls tb.P f #[] w fun e w' => e = .returned (.bool true) ∧ Leaves w w' := by
  intro cs
  let ts : Nat → TypeId := fun k => match w.heap[k]? with
    | some (.cells _ t _) => t
    | _ => 0
  have hlt : ∀ k vs, gOf l k = some vs → k < N ∧ vs.length < 1000000 := fun k vs hk => by
    have := List.all_eq_true.1 hl _ (gOf_mem hk)
    simp only [Bool.and_eq_true, Nat.blt_eq] at this
    exact this
  have hrel : Rel (gInj l) (gMem ts l N) w := g_rel hlt fun k vs hk => by
    obtain ⟨ws, t, e, h1, h2⟩ := hw k vs hk
    have : ts k = t := by show (match w.heap[k]? with | some (.cells _ t _) => t | _ => 0) = t; rw [e]
    exact ⟨ws, by rw [this]; exact e, h1, h2⟩
  have hhere : Here l ts (gInj l) (gMem ts l N) := fun b vs hb => ⟨(hlt b vs hb).1, by rw [show (gMem ts l N).get b = _ from gHeap_get ts b l, hb]; rfl, by unfold gInj; rw [hb]; rfl, by have := (hlt b vs hb).2; omega⟩
  have hout : ∀ b, N ≤ b → gInj l b = none := fun b hb => by
    unfold gInj
    cases hq : gOf l b with
    | none => rfl
    | some vs => have := (hlt b vs hq).1; omega
  obtain ⟨s1, ⟨-, hrun⟩, hd, hres⟩ := h ts
  have hf' := ok.fn _ _ hf
  have hs0 : SR (gInj l) { t := T.puts .e 0 [], n := fn.ntmps, d := [], m := gMem ts l N, ro := none } (Frame.enter tb.P f #[] .normal) ⟨#[] ++ Array.replicate (fn.ntmps - (#[] : Array Value).size) undef, []⟩ w :=
    ⟨hrel, TR.args .nil (Nat.zero_le _), rfl, rfl⟩
  obtain ⟨ι1, w1, a1, k1, st1, ha1, hs1, hh1, hss1, n1, r1⟩ := hrun (gInj l) _ _ [] cs w hs0 hhere (fun b h1 _ => hout b h1)
  rw [← Frame.enter_atR hf' hb] at st1
  obtain ⟨k2, rfl⟩ := ha1
  obtain ⟨todo, st2⟩ : ∃ todo, Steps tb.P (lone ((Frame.enter tb.P f #[] .normal).atR a1 (.code .ret :: k2)) cs w1) (lone { (Frame.enter tb.P f #[] .normal).atR ⟨a1.tmps, a1.defers⟩ todo with mode := .returning } cs w1) := ⟨_, .one (stepR_ret rfl)⟩
  obtain ⟨w2, st3, hrel2, hst2⟩ := take_steps tb.P (b := Frame.enter tb.P f #[] .normal) (t := a1.tmps) (todo := todo) (cs := cs) (bs := s1.d) (A := s1.m) (A' := s1.m) (by rw [hd]; rfl) hs1.dr hs1.rel
  obtain ⟨v', e1, hv⟩ := results_sound ok hrel2 hs1.tr hres
  cases hv
  obtain ⟨g2, hh2⟩ := GStp.of hst2 hh1
  have hg := hss1.trans g2
  refine ⟨.returned (.bool true), w2, _, ⟨rfl, fun c hc => ?_, hg.size, hg.os, hg.tape, hg.output⟩, (st1.trans st2).trans st3, rfl, rfl, rfl, rfl, fn, hf', e1⟩
  by_cases hx : ∃ b q, live (gMem ts l N) b ∧ gInj l b = some q ∧ q.blk = c
  · obtain ⟨b, q, h1, h2, rfl⟩ := hx
    obtain ⟨vs, hb', rfl⟩ := gInj_some h2
    exact hg.kept b vs hb'
  · exact hg.fr c hc fun b q h1 h2 h3 => hx ⟨b, q, h1, h2, h3⟩

/-! ### What is kept at a cut -/
inductive SOb where
  | row (t : TypeId) (x : Kd) (fz : Nat) (vs : List Value)
  | at (t : TypeId) (x : Kd) (fz : Nat) (vs : List (Nat × Value))
  | map (es : List MapEntry) (clock : Nat)
noncomputable def tOf {α : Type} (l : List (Nat × α)) (base : T α) : T α := l.foldr (fun p t => t.set p.1 p.2) base
theorem tOf_get {α : Type} {base : T α} {k : Nat} {v : α} : ∀ {l : List (Nat × α)}, (tOf l base).get k = some v → (k, v) ∈ l ∨ base.get k = some v
  | [], h => .inr h
  | p :: l, h => by
    have h' : ((tOf l base).set p.1 p.2).get k = some v := h
    rw [T.get_set] at h'
    split at h'
    · rename_i e
      cases h'
      subst e
      exact .inl (List.mem_cons_self ..)
    · rcases tOf_get h' with h1 | h1
      · exact .inl (List.mem_cons_of_mem _ h1)
      · exact .inr h1
theorem tOf_base {α : Type} {base : T α} {k : Nat} : ∀ {l : List (Nat × α)}, (∀ p ∈ l, p.1 ≠ k) → (tOf l base).get k = base.get k
  | [], _ => rfl
  | p :: l, h => by
    show ((tOf l base).set p.1 p.2).get k = _
    rw [T.get_set, if_neg (fun e => h p (List.mem_cons_self ..) e.symm)]
    exact tOf_base fun q hq => h q (List.mem_cons_of_mem _ hq)
noncomputable def SOb.ob : SOb → Ob
  | .row t x fz vs => .cells t x fz (T.puts .e 0 vs)
  | .at t x fz vs => .cells t x fz (tOf vs .e)
  | .map es clock => .map es clock
structure Snap where
  t : List (Nat × Value)
  m : List (Nat × SOb)
  next : Nat
noncomputable def Snap.st (S : Snap) (n : Nat) (G : Glb) (ts : Nat → TypeId) : St := ⟨tOf S.t .e, n, [], ⟨tOf (S.m.map fun p => (p.1, p.2.ob)) (gHeap ts G), S.next⟩, none⟩
def kdEq : Kd → Kd → Bool
  | .var a, .var b => Nat.beq a b
  | .row, .row => true
  | .mark, .mark => true
  | .room a, .room b => Nat.beq a b
  | _, _ => false
theorem kdEq_eq {a b : Kd} (h : kdEq a b = true) : a = b := by
  cases a <;> cases b <;> simp only [kdEq, Bool.false_eq_true] at h <;> first | rfl | rw [Nat.eq_of_beq_eq_true h]
def okV (x : Option Value) (v : Value) : Bool :=
  match x with
  | some y => sameV 100 y v
  | none => false
theorem okV_eq {x : Option Value} {v : Value} (h : okV x v = true) : x = some v := by
  cases x with
  | none => cases h
  | some y => rw [sameV_eq 100 y v h]
noncomputable def okRow (c : T Value) (i : Nat) (vs : List Value) : Bool := List.rec (motive := fun _ => Nat → Bool) (fun _ => true) (fun v _ ih i => okV (c.get i) v && ih (Nat.succ i)) vs i
theorem okRow_get {c : T Value} : ∀ {vs : List Value} {i : Nat}, okRow c i vs = true → ∀ j v, vs[j]? = some v → c.get (i + j) = some v
  | [], _, _, _, _, h => by simp at h
  | x :: vs, i, h, j, v, hj => by
    have h : (okV (c.get i) x && okRow c (Nat.succ i) vs) = true := h
    rw [Bool.and_eq_true] at h
    cases j with
    | zero => simp only [List.getElem?_cons_zero, Option.some.injEq] at hj; subst hj; exact okV_eq h.1
    | succ j =>
      have := okRow_get h.2 j v (by simpa using hj)
      rw [show i + (j + 1) = Nat.succ i + j by omega]; exact this
def okEs : List MapEntry → List MapEntry → Bool
  | [], [] => true
  | a :: l, b :: m => sameV 100 a.key b.key && sameV 100 a.val b.val && Nat.beq a.born b.born && okEs l m
  | _, _ => false
theorem okEs_eq : ∀ {l m : List MapEntry}, okEs l m = true → l = m
  | [], [], _ => rfl
  | a :: l, b :: m, h => by
    unfold okEs at h
    simp only [Bool.and_eq_true] at h
    obtain ⟨⟨⟨h1, h2⟩, h3⟩, h4⟩ := h
    rw [okEs_eq h4]
    obtain ⟨ak, av, as⟩ := a
    obtain ⟨bk, bv, bs⟩ := b
    simp only at h1 h2 h3
    rw [sameV_eq 100 _ _ h1, sameV_eq 100 _ _ h2, Nat.eq_of_beq_eq_true h3]
  | [], _ :: _, h => by cases h
  | _ :: _, [], h => by cases h
noncomputable def okOb (o : Option Ob) (s : SOb) : Bool :=
  match o, s with
  | some (.cells t x fz c), .row t' x' fz' vs => Nat.beq t t' && kdEq x x' && Nat.beq fz fz' && okRow c 0 vs
  | some (.cells t x fz c), .at t' x' fz' vs => Nat.beq t t' && kdEq x x' && Nat.beq fz fz' && vs.all fun p => okV (c.get p.1) p.2
  | some (.map es cl), .map es' cl' => okEs es es' && Nat.beq cl cl'
  | _, _ => false
theorem okOb_sub {o : Option Ob} {s : SOb} (h : okOb o s = true) : ∃ o1, o = some o1 ∧ SubOb s.ob o1 := by
  unfold okOb at h
  split at h
  · simp only [Bool.and_eq_true] at h
    obtain ⟨⟨⟨h1, h2⟩, h3⟩, h4⟩ := h
    rw [Nat.eq_of_beq_eq_true h1, kdEq_eq h2, Nat.eq_of_beq_eq_true h3]
    refine ⟨_, rfl, _, rfl, fun i v hv => ?_⟩
    rw [T.get_puts] at hv
    split at hv
    · have := okRow_get h4 (i - 0) v hv
      simpa using this
    · rw [T.get_e] at hv; cases hv
  · simp only [Bool.and_eq_true] at h
    obtain ⟨⟨⟨h1, h2⟩, h3⟩, h4⟩ := h
    rw [Nat.eq_of_beq_eq_true h1, kdEq_eq h2, Nat.eq_of_beq_eq_true h3]
    refine ⟨_, rfl, _, rfl, fun i v hv => ?_⟩
    rcases tOf_get hv with h5 | h5
    · exact okV_eq (List.all_eq_true.1 h4 _ h5)
    · rw [T.get_e] at h5; cases h5
  · simp only [Bool.and_eq_true] at h
    rw [okEs_eq h.1, Nat.eq_of_beq_eq_true h.2]
    exact ⟨_, rfl, rfl⟩
  · cases h
def exOf : Nat → Ex
  | 0 => .nrm
  | n + 1 => .exit n
def okEx (e : Ex) (x : Nat) : Bool :=
  match e, x with
  | .nrm, 0 => true
  | .exit i, n + 1 => Nat.beq i n
  | _, _ => false
theorem okEx_eq {e : Ex} {x : Nat} (h : okEx e x = true) : e = exOf x := by
  unfold okEx at h
  split at h
  · rfl
  · rw [Nat.eq_of_beq_eq_true h]; rfl
  · cases h
/-- The check. -/
noncomputable def chk (G : Glb) (N x : Nat) (r : R (Ex × St)) (S : Snap) : Bool :=
  match r with
  | .ok (e, s) => Nat.beq s.n N && okEx e x && Nat.beq s.m.next S.next && s.d.isEmpty && s.ro.isNone && G.all (fun p => Nat.blt p.1 S.next) && S.t.all (fun p => okV (s.t.get p.1) p.2) &&
      S.m.all (fun p => Nat.blt p.1 S.next && (gOf G p.1).isNone && okOb (s.m.get p.1) p.2)
  | _ => false
theorem chk_sub {G : Glb} {N x : Nat} {r : R (Ex × St)} {S : Snap} (h : chk G N x r S = true) (ts : Nat → TypeId) : ∃ s, r = .ok (exOf x, s) ∧ SubSt G ts (S.st N G ts) s := by
  unfold chk at h
  split at h
  · rename_i e s
    simp only [Bool.and_eq_true] at h
    obtain ⟨⟨⟨⟨⟨⟨⟨h0, h1⟩, h2⟩, h3⟩, h4⟩, h5⟩, h6⟩, h7⟩ := h
    have hall := fun p hp => List.all_eq_true.1 h7 p hp
    simp only [Bool.and_eq_true, Nat.blt_eq] at hall
    refine ⟨s, by rw [okEx_eq h1], (Nat.eq_of_beq_eq_true h0).symm, (List.isEmpty_iff.1 h3).symm, ?_, (Nat.eq_of_beq_eq_true h2).symm, fun i v hv => ?_, fun b o hb hG => ?_, fun b vs hb => ?_, fun b hb => ?_⟩
    · cases hr : s.ro with
      | none => rfl
      | some _ => rw [hr] at h4; cases h4
    · rcases tOf_get hv with hv | hv
      · exact okV_eq (List.all_eq_true.1 h6 _ hv)
      · rw [T.get_e] at hv; cases hv
    · rcases tOf_get (show (tOf (S.m.map fun p => (p.1, p.2.ob)) (gHeap ts G)).get b = some o from hb) with hm | hm
      · obtain ⟨p, hp, he⟩ := List.mem_map.1 hm
        cases he
        obtain ⟨o1, e1, e2⟩ := okOb_sub (hall p hp).2
        exact ⟨o1, e1, e2⟩
      · rw [gHeap_get, hG] at hm; cases hm
    · show (tOf (S.m.map fun p => (p.1, p.2.ob)) (gHeap ts G)).get b = _
      rw [tOf_base fun p hp e => ?_, gHeap_get, hb]
      · rfl
      · obtain ⟨q, hq, rfl⟩ := List.mem_map.1 hp
        have := (hall q hq).1.2
        rw [show q.1 = b from e, hb] at this
        cases this
    · cases hq : (S.st N G ts).m.get b with
      | none => rfl
      | some o =>
        exfalso
        have hb' : S.next ≤ b := hb
        rcases tOf_get (show (tOf (S.m.map fun p => (p.1, p.2.ob)) (gHeap ts G)).get b = some o from hq) with hm | hm
        · obtain ⟨p, hp, he⟩ := List.mem_map.1 hm
          cases he
          have := (hall p hp).1.1
          omega
        · rw [gHeap_get] at hm
          cases hbG : gOf G b with
          | none => rw [hbG] at hm; cases hm
          | some vs =>
            have := List.all_eq_true.1 h5 _ (gOf_mem hbG)
            rw [Nat.blt_eq] at this
            omega
  · cases h
/-! ### Pieces -/
def seqN : List Code → Code → Code
  | [], c => c
  | a :: l, c => .seq a (seqN l c)
include ok in
/-- A row of statements runs; behind it something is forgotten; then the rest runs. -/
theorem glue {G : Glb} {ts : Nat → TypeId} {x : Code} {S s' : St} {e : Ex} (hr : RunSnd tb.P G ts x S e s') : ∀ (l : List Code) (c : Code) {n : Nat} {s s3 : St}, exec tb n (seqN l c) s = .ok (.nrm, s3) → SubSt G ts S s3 → RunSnd tb.P G ts (seqN l (.seq c x)) s e s'
  | [], c, n, s, s3, h, hs => ((RunSnd.exec ok h (fun _ h => by cases h)).cut hs).seq hr
  | a :: l, c, 0, s, s3, h, hs => by cases h
  | a :: l, c, n + 1, s, s3, h, hs => by
    have h' : ((exec tb n a s).bind fun (e, s') => match e with
      | .nrm => exec tb n (seqN l c) s'
      | e => .ok (e, s')) = .ok (.nrm, s3) := h
    obtain ⟨⟨e1, s1⟩, h1, h2⟩ := R.bind_ok h'
    cases e1 with
    | nrm => exact (RunSnd.exec ok h1 (fun _ h => by cases h)).seq (glue hr l c h2 hs)
    | exit i => simp only [R.ok.injEq, Prod.mk.injEq] at h2; exact absurd h2.1 (by simp)
    | ret => simp only [R.ok.injEq, Prod.mk.injEq] at h2; exact absurd h2.1 (by simp)
    | pan v => simp only [R.ok.injEq, Prod.mk.injEq] at h2; exact absurd h2.1 (by simp)
include ok in
theorem piece {G : Glb} {ts : Nat → TypeId} {x : Code} {n N : Nat} {s s' : St} {S : Snap} {e : Ex} (l : List Code) (c : Code) (h : chk G N 0 (execX tb n (seqN l c) s) S = true) (hr : RunSnd tb.P G ts x (S.st N G ts) e s') : RunSnd tb.P G ts (seqN l (.seq c x)) s e s' := by
  obtain ⟨s1, h1, h2⟩ := chk_sub h ts
  rw [execX_eq] at h1
  exact glue ok hr l c h1 h2
include ok in
/-- Some rounds of a loop run; behind them something is forgotten; then the loop goes on. -/
theorem rounds {G : Glb} {ts : Nat → TypeId} {c : Code} {S s' : St} {e : Ex} (hr : RunSnd tb.P G ts (.loop c) S e s') : ∀ (k : Nat) {n : Nat} {s s3 : St}, exec tb n (seqN (List.replicate k c) c) s = .ok (.nrm, s3) → SubSt G ts S s3 → RunSnd tb.P G ts (.loop c) s e s'
  | 0, n, s, s3, h, hs => ((RunSnd.exec ok h (fun _ h => by cases h)).cut hs).loopN hr
  | k + 1, 0, s, s3, h, hs => by cases h
  | k + 1, n + 1, s, s3, h, hs => by
    have h' : ((exec tb n c s).bind fun (e, s') => match e with
      | .nrm => exec tb n (seqN (List.replicate k c) c) s'
      | e => .ok (e, s')) = .ok (.nrm, s3) := h
    obtain ⟨⟨e1, s1⟩, h1, h2⟩ := R.bind_ok h'
    cases e1 with
    | nrm => exact (RunSnd.exec ok h1 (fun _ h => by cases h)).loopN (rounds hr k h2 hs)
    | exit i => simp only [R.ok.injEq, Prod.mk.injEq] at h2; exact absurd h2.1 (by simp)
    | ret => simp only [R.ok.injEq, Prod.mk.injEq] at h2; exact absurd h2.1 (by simp)
    | pan v => simp only [R.ok.injEq, Prod.mk.injEq] at h2; exact absurd h2.1 (by simp)
include ok in
theorem pieceL {G : Glb} {ts : Nat → TypeId} {c : Code} {n N : Nat} {s s' : St} {S : Snap} {e : Ex} (k : Nat) (h : chk G N 0 (execX tb n (seqN (List.replicate k c) c) s) S = true) (hr : RunSnd tb.P G ts (.loop c) (S.st N G ts) e s') : RunSnd tb.P G ts (.loop c) s e s' := by
  obtain ⟨s1, h1, h2⟩ := chk_sub h ts
  rw [execX_eq] at h1
  exact rounds ok hr k h1 h2
include ok in
/-- A piece by itself, however it ends. -/
theorem pieceX {G : Glb} {ts : Nat → TypeId} {c : Code} {n N x : Nat} {s : St} {S : Snap} (h : chk G N x (execX tb n c s) S = true) : RunSnd tb.P G ts c s (exOf x) (S.st N G ts) := by
  obtain ⟨s1, h1, h2⟩ := chk_sub h ts
  rw [execX_eq] at h1
  refine (RunSnd.exec ok h1 (fun _ h => ?_)).cut h2
  cases x <;> cases h
/-- The last piece: it answers true. -/
noncomputable def endOk (tb : Tab) (rs : List ResultVar) (r : R (Ex × St)) : Bool :=
  match r with
  | .ok (.ret, s) => s.d.isEmpty && (match resF tb s.t s.m.get rs with | .ok [.bool b] => b | _ => false)
  | _ => false
include ok in
theorem pieceE {G : Glb} {ts : Nat → TypeId} {c : Code} {n : Nat} {s : St} {rs : List ResultVar} (h : endOk tb rs (execX tb n c s) = true) : ∃ s1, RunSnd tb.P G ts c s .ret s1 ∧ s1.d = [] ∧ resF tb s1.t s1.m.get rs = .ok [.bool true] := by
  unfold endOk at h
  split at h
  · rename_i s1 hr
    rw [execX_eq] at hr
    rw [Bool.and_eq_true] at h
    refine ⟨s1, RunSnd.exec ok hr (fun _ h => by cases h), List.isEmpty_iff.1 h.1, ?_⟩
    have h2 := h.2
    split at h2
    · rename_i b hb
      rw [hb, h2]
    · cases h2
  · cases h
end Go.Am

/-
  The abstract machine AM, part 66: functions of plain values that were run once are looked up.
-/
namespace Go.Am
abbrev Memo := List (List Value × Value)
def sameL (a b : List Value) : Bool := Nat.beq a.length b.length && (a.zip b).all fun p => sameV 100 p.1 p.2
theorem sameL_eq : ∀ {a b : List Value}, sameL a b = true → a = b
  | [], [], _ => rfl
  | [], _ :: _, h => by cases h
  | _ :: _, [], h => by cases h
  | x :: a, y :: b, h => by
    unfold sameL at h
    rw [Bool.and_eq_true] at h
    obtain ⟨h1, h2⟩ := h
    rw [List.zip_cons_cons, List.all_cons, Bool.and_eq_true] at h2
    have h3 : a.length = b.length := by have := Nat.eq_of_beq_eq_true h1; simpa using this
    have h4 : sameL a b = true := by unfold sameL; rw [Bool.and_eq_true]; exact ⟨by rw [Nat.beq_eq]; exact h3, h2.2⟩
    rw [sameV_eq 100 x y h2.1, sameL_eq h4]
/-- What was found at these arguments. -/
def memoK : Memo → List Value → Option Value
  | [], _ => none
  | p :: l, args => bif sameL p.1 args then some p.2 else memoK l args
theorem memoK_mem : ∀ {l : Memo} {args : List Value} {v : Value}, memoK l args = some v → (args, v) ∈ l
  | [], _, _, h => by cases h
  | p :: l, args, v, h => by
    have h' : (bif sameL p.1 args then some p.2 else memoK l args) = some v := h
    cases hs : sameL p.1 args with
    | true =>
      rw [hs, cond_true] at h'
      cases h'
      rw [← sameL_eq hs]
      exact List.mem_cons_self ..
    | false =>
      rw [hs, cond_false] at h'
      exact List.mem_cons_of_mem _ (memoK_mem h')
def isVal (r : R Res) (v : Value) : Bool :=
  match r with
  | .ok (.val u _) => sameV 100 u v
  | _ => false
noncomputable def memoB (tb : Tab) (n : Nat) (f : FuncId) (l : Memo) : Bool := l.all fun p => p.1.all (flat 9) && flat 9 p.2 && isVal (callX tb n f p.1 mem0) p.2
theorem memo_ok {tb : Tab} (ok : TabOk tb) {f : FuncId} {fn : Func} {c : Code} {l : Memo} {n : Nat} (hf : tb.fn.get f = some fn) (hb : fn.body = some c) (h : memoB tb n f l = true) : TabOk (tb.know f (pureHook (memoK l))) := by
  refine know_ok ok (hook_pure ok hf hb fun args v hv => ?_)
  have h1 := List.all_eq_true.1 h _ (memoK_mem hv)
  simp only [Bool.and_eq_true] at h1
  obtain ⟨⟨h2, h3⟩, h4⟩ := h1
  refine ⟨fun x hx => List.all_eq_true.1 h2 x hx, h3, n, ?_⟩
  rw [callX_eq] at h4
  unfold isVal at h4
  split at h4
  · rename_i u A e
    rw [← sameV_eq _ _ _ h4]
    exact ⟨A, e⟩
  · cases h4
end Go.Am

/-
  The abstract machine AM, part 67: functions of plain values that look at package-level variables, and were run once, are looked up.
-/
namespace Go.Am

/-- A cell that means the same in every memory. -/
def cellG : Value → Bool
  | .int _ _ => true
  | .chan (some 0) => true
  | _ => false
theorem cellG_VR {ι ι' : Inj} {v v' : Value} (h : cellG v = true) (hv : VR ι v v') : VR ι' v v' := by
  unfold cellG at h
  split at h
  · cases hv; exact .int _ _
  · cases hv with
    | unk h => exact .unk h
  · cases h
noncomputable def cellsAt (c : T Value) : List Value → Nat → Bool
  | [], _ => true
  | v :: vs, i => (match c.get i with | some u => sameV 100 u v | none => false) && cellsAt c vs (i + 1)
theorem cellsAt_get {c : T Value} : ∀ {vs : List Value} {i : Nat}, cellsAt c vs i = true → ∀ (j : Nat) (v : Value), vs[j]? = some v → c.get (i + j) = some v
  | [], _, _, j, v, hv => by simp at hv
  | x :: vs, i, h, j, v, hv => by
    unfold cellsAt at h
    rw [Bool.and_eq_true] at h
    obtain ⟨h1, h2⟩ := h
    cases j with
    | zero =>
      cases hv
      split at h1
      · rename_i u e
        rw [Nat.add_zero, e, sameV_eq 100 _ _ h1]
      · cases h1
    | succ j =>
      rw [List.getElem?_cons_succ] at hv
      have := cellsAt_get h2 j v hv
      rw [← this]; congr 1; omega
/-- Are these variables' cells in a memory? -/
noncomputable def hasG (A : Mem) : Glb → Bool
  | [] => true
  | p :: l => (match A.get p.1 with
    | some (.cells _ .row fz c) => Nat.beq fz (GB p.1) && cellsAt c p.2 0
    | _ => false) && hasG A l
theorem hasG_get {A : Mem} : ∀ {l : Glb}, hasG A l = true → ∀ b vs, gOf l b = some vs → ∃ t c, A.get b = some (.cells t .row (GB b) c) ∧ ∀ i v, vs[i]? = some v → c.get i = some v
  | [], _, b, vs, h => by cases h
  | p :: l, h, b, vs, hb => by
    unfold hasG at h
    rw [Bool.and_eq_true] at h
    obtain ⟨h1, h2⟩ := h
    have hb' : (if b = p.1 then some p.2 else gOf l b) = some vs := hb
    split at hb'
    · rename_i e
      cases hb'
      subst e
      split at h1
      · rename_i t fz c e
        rw [Bool.and_eq_true] at h1
        obtain rfl := Nat.eq_of_beq_eq_true h1.1
        exact ⟨t, c, e, fun i v hv => by have := cellsAt_get h1.2 i v hv; rwa [Nat.zero_add] at this⟩
      · cases h1
    · exact hasG_get h2 b vs hb'
def gsOk (N : Nat) (G : Glb) : Bool := G.all fun p => Nat.blt p.1 N && Nat.blt p.2.length 1000000 && p.2.all cellG
theorem gsOk_of {N : Nat} {G : Glb} (h : gsOk N G = true) {b : Nat} {vs : List Value} (hb : gOf G b = some vs) : b < N ∧ vs.length < 1000000 ∧ ∀ v ∈ vs, cellG v = true := by
  have mem : ∀ {l : Glb} {b : Nat} {vs : List Value}, gOf l b = some vs → (b, vs) ∈ l := by
    intro l
    induction l with
    | nil => intro b vs h; cases h
    | cons p l ih =>
      intro b vs h
      have h' : (if b = p.1 then some p.2 else gOf l b) = some vs := h
      split at h'
      · rename_i e; cases h'; subst e; exact List.mem_cons_self ..
      · exact List.mem_cons_of_mem _ (ih h')
  have := List.all_eq_true.1 h _ (mem hb)
  simp only [Bool.and_eq_true, Nat.blt_eq] at this
  exact ⟨this.1.1, this.1.2, List.all_eq_true.1 this.2⟩

noncomputable def globHook (G : Glb) (sp : List Value → Option Value) : List Value → Mem → R (Value × Mem) := fun args A =>
  bif hasG A G then (match sp args with
    | some v => .ok (v, A)
    | none => .no 602) else .no 603

variable {tb : Tab} (ok : TabOk tb)
include ok in
theorem hook_glob {f : FuncId} {fn : Func} {c : Code} (hf : tb.fn.get f = some fn) (hb : fn.body = some c) {G : Glb} {N : Nat} (hG : gsOk N G = true) {sp : List Value → Option Value}
    (h : ∀ args v, sp args = some v → (∀ x ∈ args, flat 9 x = true) ∧ flat 9 v = true ∧ ∀ ts, ∃ n A1, call tb n f args (gMem ts G N) = .ok (.val v A1)) : HookOk tb.P f (globHook G sp) := by
  intro args A v A' ha
  unfold globHook at ha
  cases hq : hasG A G with
  | false => rw [hq] at ha; cases ha
  | true =>
    rw [hq, cond_true] at ha
    split at ha
    case h_2 => cases ha
    rename_i v0 hsp
    simp only [R.ok.injEq, Prod.mk.injEq] at ha
    obtain ⟨rfl, rfl⟩ := ha
    obtain ⟨hfa, hfv, hn⟩ := h args v0 hsp
    refine ⟨Nat.le_refl _, fun ι w args' hr hargs _ fr cs => ?_⟩
    let ts : Nat → TypeId := fun k => match A.get k with
      | some (.cells t _ _ _) => t
      | _ => 0
    let ι0 : Inj := fun b => if (gOf G b).isSome then ι b else none
    have hat : ∀ b vs, gOf G b = some vs → ∃ c, A.get b = some (.cells (ts b) .row (GB b) c) ∧ ∀ i v, vs[i]? = some v → c.get i = some v := by
      intro b vs hb
      obtain ⟨t, c, e, hc⟩ := hasG_get hq b vs hb
      have : ts b = t := by show (match A.get b with | some (.cells t _ _ _) => t | _ => 0) = t; rw [e]
      exact ⟨c, by rw [this]; exact e, hc⟩
    have hget : ∀ b, (gMem ts G N).get b = (gOf G b).map (gOb (ts b) b) := fun b => gHeap_get ts b G
    have hι : ∀ {b l}, ι0 b = some l → ∃ vs, gOf G b = some vs ∧ ι b = some l := by
      intro b l hl
      have hl' : (if (gOf G b).isSome then ι b else none) = some l := hl
      cases hg : gOf G b with
      | none => rw [hg] at hl'; cases hl'
      | some vs => rw [hg] at hl'; exact ⟨vs, rfl, hl'⟩
    have hon : ∀ {b vs}, gOf G b = some vs → ι0 b = ι b := by
      intro b vs hg
      show (if (gOf G b).isSome then ι b else none) = ι b
      rw [hg]; rfl
    have hsz : ∀ {b l}, ι0 b = some l → l.sz ≤ 18446744073709551616 := by
      intro b l hl
      obtain ⟨vs, hg, hl'⟩ := hι hl
      obtain ⟨c, e, _⟩ := hat b vs hg
      obtain ⟨l2, e2, _, _, h3⟩ := hr.gl b _ b c e
      rw [hl'] at e2; cases e2; exact h3
    have hrel : Rel ι0 (gMem ts G N) w := by
      refine ⟨fun b hb => ?_, fun b o l hb ha hl => ?_, fun b l hl => ?_, fun b b' l l' h1 h2 hl hl' he => ?_, fun b t k c hb => ?_⟩
      · rw [hget]
        cases hg : gOf G b with
        | none => rfl
        | some vs => have h1 := (gsOk_of hG hg).1; have h2 : N ≤ b := hb; omega
      · obtain ⟨vs, hg, hl'⟩ := hι hl
        obtain ⟨c, e, hc⟩ := hat b vs hg
        rw [hget, hg] at hb
        cases hb
        obtain ⟨o', hw, cs, fr, rfl, hsz, hcell, hfr⟩ := hr.obs b _ l e rfl hl'
        refine ⟨_, hw, cs, fr, rfl, hsz, fun i x hx => ?_, hfr⟩
        rw [T.get_puts] at hx
        split at hx
        · have hx' : vs[i]? = some x := by simpa using hx
          obtain ⟨v', e1, e2⟩ := hcell i x (hc i x hx')
          exact ⟨v', e1, cellG_VR ((gsOk_of hG hg).2.2 x (List.mem_of_getElem? hx')) e2⟩
        · rw [T.get_e] at hx; cases hx
      · obtain ⟨vs, hg, hl'⟩ := hι hl
        exact hr.rng b l hl'
      · obtain ⟨vs, hg, hl1⟩ := hι hl
        obtain ⟨vs', hg', hl1'⟩ := hι hl'
        obtain ⟨c, e, _⟩ := hat b vs hg
        obtain ⟨c', e', _⟩ := hat b' vs' hg'
        exact hr.inj b b' l l' ⟨_, e, rfl⟩ ⟨_, e', rfl⟩ hl1 hl1' he
      · rw [hget] at hb
        cases hg : gOf G b with
        | none => rw [hg] at hb; cases hb
        | some vs =>
          rw [hg] at hb
          simp only [gOb, Option.map_some, Option.some.injEq, Ob.cells.injEq, GB] at hb
          have hk : k = b := by omega
          subst hk
          obtain ⟨c, e, _⟩ := hat k vs hg
          rw [hon hg]
          exact hr.gl k _ k c e
    obtain ⟨n, A1, hc⟩ := hn ts
    unfold call at hc
    simp only [hf, hb] at hc
    rcases fn_sound ok (exec_sound ok n) hf hb hc with ⟨_, _, h1, _⟩ | ⟨v, A', h1, hle, hs⟩
    · cases h1
    · cases h1
      obtain ⟨ι', w', v', ⟨fr0, st, hfn, hlv⟩, hv, hrel', hst⟩ := hs ι0 w args' (fr :: cs) hrel (flats_VR 9 _ _ hfa hargs) (fun b h1 _ => by
        cases hl : ι0 b with
        | none => rfl
        | some l =>
          obtain ⟨vs, hg, -⟩ := hι hl
          have h2 := (gsOk_of hG hg).1
          have h3 : N ≤ b := h1
          omega)
      have hl : Leaves w w' := by
        refine ⟨fun c hc => ?_, hst.size, hst.os, hst.tape, hst.output⟩
        by_cases hx : ∃ b l, live (gMem ts G N) b ∧ ι0 b = some l ∧ l.blk = c
        · obtain ⟨b, l, h1, h2, rfl⟩ := hx
          obtain ⟨vs, hg, -⟩ := hι h2
          refine (hst.kept b l h2 ⟨(gsOk_of hG hg).1, ts b, GB b, _, by rw [hget, hg]; rfl, by unfold GB; omega, ?_⟩).2
          have := hsz h2
          unfold GB; omega
        · exact hst.fr c hc fun b l h1 h2 h3 => hx ⟨b, l, h1, h2, h3⟩
      obtain ⟨h2, h3⟩ := leaves_rel hr hl hst.drawn
      exact ⟨ι, w', v', st.trans (.one (step_leave_returned hlv)), flat_VR 9 _ _ hfv hv, h2, h3⟩

noncomputable def memoG (tb : Tab) (n : Nat) (f : FuncId) (G : Glb) (N : Nat) (ts : Nat → TypeId) (l : Memo) : Bool := l.all fun p => p.1.all (flat 9) && flat 9 p.2 && isVal (callX tb n f p.1 (gMem ts G N)) p.2
include ok in
theorem memoG_ok {f : FuncId} {fn : Func} {c : Code} {l : Memo} {n : Nat} {G : Glb} {N : Nat} (hf : tb.fn.get f = some fn) (hb : fn.body = some c) (hG : gsOk N G = true) (h : ∀ ts, memoG tb n f G N ts l = true) : TabOk (tb.know f (globHook G (memoK l))) := by
  refine know_ok ok (hook_glob ok hf hb hG fun args v hv => ?_)
  have h1 := fun ts => List.all_eq_true.1 (h ts) _ (memoK_mem hv)
  simp only [Bool.and_eq_true] at h1
  refine ⟨fun x hx => List.all_eq_true.1 (h1 fun _ => 0).1.1 x hx, (h1 fun _ => 0).1.2, fun ts => ?_⟩
  have h4 := (h1 ts).2
  rw [callX_eq] at h4
  unfold isVal at h4
  split at h4
  · rename_i u A e
    rw [← sameV_eq _ _ _ h4]
    exact ⟨n, A, e⟩
  · cases h4
theorem memoG_cons {f : FuncId} {n N : Nat} {G : Glb} {ts : Nat → TypeId} {p : List Value × Value} {l : Memo} (h1 : memoG tb n f G N ts [p] = true) (h2 : memoG tb n f G N ts l = true) : memoG tb n f G N ts (p :: l) = true := by
  unfold memoG at h1 h2 ⊢
  rw [List.all_cons, List.all_nil, Bool.and_true] at h1
  rw [List.all_cons, h1, h2]; rfl
end Go.Am

/-
  The abstract machine AM, part 68: a call that was run once over what its arguments reach is looked up; nothing else changes.
-/
namespace Go.Am

/-! ### Values that point into a set of blocks -/
def inV (p : Nat → Bool) : Nat → Value → Bool
  | 0, _ => false
  | d + 1, v =>
    match v with
    | .pointer (some a) => p a.block
    | .slice (some a) _ _ => p a.block
    | .map (some b) => p b
    | .func (.yield _) _ _ => false
    | .func _ a b => a.toList.all (inV p d) && b.toList.all (inV p d)
    | .iface _ v => inV p d v
    | .agg l => l.toList.all (inV p d)
    | .tuple l => l.toList.all (inV p d)
    | _ => true
mutual
theorem inV_VR {ι ι' : Inj} {p : Nat → Bool} (hp : ∀ b l, p b = true → ι b = some l → ι' b = some l) : ∀ (d : Nat) (v v' : Value), inV p d v = true → VR ι v v' → VR ι' v v'
  | 0, _, _, h, _ => by simp [inV] at h
  | d + 1, v, v', h, hv => by
    cases hv with
    | bool b => exact .bool b
    | int k n => exact .int k n
    | string s => exact .string s
    | ptrN => exact .ptrN
    | ptr hl => exact .ptr (hp _ _ h hl)
    | slN => exact .slN
    | sl hl hk => exact .sl (hp _ _ h hl) hk
    | slX hl hk hc hsz ho hb hlen => exact .slX (hp _ _ h hl) hk hc hsz ho hb hlen
    | mapN => exact .mapN
    | map hl => exact .map (hp _ _ h hl)
    | func hf ha hb =>
      rename_i fn a b a' b'
      have h' : a.toList.all (inV p d) = true ∧ b.toList.all (inV p d) = true := by
        cases fn <;> first | (exact hf.elim) | (simpa [inV] using h)
      exact .func hf (inVs_VR hp d _ _ (List.all_eq_true.1 h'.1) ha) (inVs_VR hp d _ _ (List.all_eq_true.1 h'.2) hb)
    | yield hl => cases h
    | nilFunc => exact .nilFunc
    | nilIface => exact .nilIface
    | iface hs => exact .iface (inV_VR hp d _ _ h hs)
    | agg hs => exact .agg (inVs_VR hp d _ _ (List.all_eq_true.1 h) hs)
    | tuple hs => exact .tuple (inVs_VR hp d _ _ (List.all_eq_true.1 h) hs)
    | unk h => exact .unk h
    | least h1 h2 => exact .least h1 h2
    | emp a => exact .emp a
theorem inVs_VR {ι ι' : Inj} {p : Nat → Bool} (hp : ∀ b l, p b = true → ι b = some l → ι' b = some l) : ∀ (d : Nat) (l l' : List Value), (∀ v ∈ l, inV p d v = true) → VRs ι l l' → VRs ι' l l'
  | _, [], _, _, h => by cases h; exact .nil
  | d, v :: l, _, hf, h => by
    cases h with
    | cons hv ht => exact .cons (inV_VR hp d v _ (hf v (by simp)) hv) (inVs_VR hp d l _ (fun x hx => hf x (by simp [hx])) ht)
end
theorem inEs_ERs {ι ι' : Inj} {p : Nat → Bool} (hp : ∀ b l, p b = true → ι b = some l → ι' b = some l) : ∀ {l l' : List MapEntry}, (∀ e ∈ l, inV p 9 e.key = true ∧ inV p 9 e.val = true) → ERs ι l l' → ERs ι' l l'
  | _, _, _, .nil => .nil
  | _, _, h, .cons hk hb hv ht => .cons (inV_VR hp 9 _ _ (h _ (by simp)).1 hk) hb (inV_VR hp 9 _ _ (h _ (by simp)).2 hv) (inEs_ERs hp (fun e he => h e (by simp [he])) ht)

/-- An object that points into a set of blocks, and may be written. -/
def inO (p : Nat → Bool) : SOb → Bool
  | .row _ _ fz vs => Nat.blt fz 9223372036854775808 && vs.all (inV p 9)
  | .at _ _ fz vs => Nat.blt fz 9223372036854775808 && vs.all fun q => inV p 9 q.2
  | .map es _ => es.all fun e => inV p 9 e.key && inV p 9 e.val
theorem inO_OR {ι ι' : Inj} {p : Nat → Bool} (hp : ∀ b l, p b = true → ι b = some l → ι' b = some l) {s : SOb} {l : Loc} {o' : Obj} (h : inO p s = true) (hr : OR ι s.ob l o') : OR ι' s.ob l o' := by
  cases s with
  | row t x fz vs =>
    simp only [inO, Bool.and_eq_true] at h
    obtain ⟨cs, fr, e, h1, h2, h3⟩ := hr
    refine ⟨cs, fr, e, h1, fun i v hv => ?_, h3⟩
    obtain ⟨v', e1, r⟩ := h2 i v hv
    refine ⟨v', e1, inV_VR hp 9 _ _ (List.all_eq_true.1 h.2 v ?_) r⟩
    rw [T.get_puts] at hv
    split at hv
    · exact List.mem_of_getElem? hv
    · rw [T.get_e] at hv; cases hv
  | «at» t x fz vs =>
    simp only [inO, Bool.and_eq_true] at h
    obtain ⟨cs, fr, e, h1, h2, h3⟩ := hr
    refine ⟨cs, fr, e, h1, fun i v hv => ?_, h3⟩
    obtain ⟨v', e1, r⟩ := h2 i v hv
    rcases tOf_get hv with hm | hm
    · exact ⟨v', e1, inV_VR hp 9 _ _ (List.all_eq_true.1 h.2 _ hm) r⟩
    · rw [T.get_e] at hm; cases hm
  | map es clock =>
    obtain ⟨h0, es', e, hE⟩ := hr
    refine ⟨h0, es', e, inEs_ERs hp (fun e he => ?_) hE⟩
    have := List.all_eq_true.1 h e he
    rw [Bool.and_eq_true] at this
    exact this
theorem inO_fz {p : Nat → Bool} {s : SOb} (h : inO p s = true) {t : TypeId} {x : Kd} {fz : Nat} {c : T Value} (e : s.ob = .cells t x fz c) : fz < 9223372036854775808 := by
  cases s with
  | row t' x' fz' vs =>
    simp only [inO, Bool.and_eq_true, Nat.blt_eq] at h
    cases e; exact h.1
  | «at» t' x' fz' vs =>
    simp only [inO, Bool.and_eq_true, Nat.blt_eq] at h
    cases e; exact h.1
  | map es clock => cases e

/-! ### A call that was run -/
structure Deep where
  args : List Value
  m : List (Nat × SOb)
  g : List Nat
  next : Nat
  val : Value
  m1 : List (Nat × SOb)
  next1 : Nat
def inDom (l : List (Nat × SOb)) (b : Nat) : Bool := l.any fun q => Nat.beq q.1 b
theorem inDom_mem {l : List (Nat × SOb)} {b : Nat} : inDom l b = true ↔ ∃ s, (b, s) ∈ l := by
  unfold inDom
  rw [List.any_eq_true]
  constructor
  · rintro ⟨⟨c, s⟩, h1, h2⟩
    obtain rfl := Nat.eq_of_beq_eq_true h2
    exact ⟨s, h1⟩
  · rintro ⟨s, h⟩
    exact ⟨_, h, Nat.beq_refl b⟩
noncomputable def Deep.mem (D : Deep) (G : Glb) (ts : Nat → TypeId) : Mem := ⟨tOf (D.m.map fun p => (p.1, p.2.ob)) (gHeap ts G), D.next⟩
/-- Blocks that a value may point to. -/
def Deep.p (D : Deep) (G : Glb) (b : Nat) : Bool := inDom D.m b || (gOf G b).isSome || D.g.any (Nat.beq b)
def Deep.ok (D : Deep) (G : Glb) : Bool :=
  D.m.all (fun q => Nat.blt q.1 D.next && (gOf G q.1).isNone && inO (D.p G) q.2) && D.g.all (fun b => Nat.blt b D.next) && gsOk D.next G && D.args.all (inV (D.p G) 9) && D.m1.all fun q => Nat.blt q.1 D.next1 && (gOf G q.1).isNone && (Nat.ble D.next q.1 || inDom D.m q.1)
noncomputable def Deep.ran (D : Deep) (tb : Tab) (n : Nat) (f : FuncId) (G : Glb) (ts : Nat → TypeId) : Bool :=
  match callX tb n f D.args (D.mem G ts) with
  | .ok (.val v A) => sameV 100 v D.val && Nat.beq A.next D.next1 && D.m1.all fun q => okOb (A.get q.1) q.2
  | _ => false
noncomputable def Deep.is (D : Deep) (G : Glb) (args : List Value) (A : Mem) : Bool :=
  Nat.beq A.next D.next && sameL D.args args && hasG A G && D.m.all fun q => okOb (A.get q.1) q.2
noncomputable def Deep.put (D : Deep) (A : Mem) : Mem := ⟨tOf (D.m1.map fun p => (p.1, p.2.ob)) (tOf (D.m.map fun p => (p.1, .dead)) A.heap), D.next1⟩
theorem tOf_get2 {α : Type} {base : T α} {k : Nat} {v : α} : ∀ {l : List (Nat × α)}, (tOf l base).get k = some v → (k, v) ∈ l ∨ (base.get k = some v ∧ ∀ p ∈ l, p.1 ≠ k)
  | [], h => .inr ⟨h, fun _ hp => by cases hp⟩
  | p :: l, h => by
    have h' : ((tOf l base).set p.1 p.2).get k = some v := h
    rw [T.get_set] at h'
    split at h'
    · rename_i e
      cases h'
      subst e
      exact .inl (List.mem_cons_self ..)
    · rename_i e
      rcases tOf_get2 h' with h1 | ⟨h1, h2⟩
      · exact .inl (List.mem_cons_of_mem _ h1)
      · refine .inr ⟨h1, fun q hq => ?_⟩
        rcases List.mem_cons.1 hq with rfl | hq
        · exact fun e2 => e e2.symm
        · exact h2 q hq
theorem put_get {D : Deep} {A : Mem} {b : Nat} {o : Ob} (h : (D.put A).get b = some o) : (∃ s, (b, s) ∈ D.m1 ∧ o = s.ob) ∨ (inDom D.m1 b = false ∧ ((inDom D.m b = true ∧ o = .dead) ∨ (inDom D.m b = false ∧ A.get b = some o))) := by
  have nd : ∀ {l : List (Nat × SOb)}, (∀ q ∈ l, q.1 ≠ b) → inDom l b = false := fun {l} h => by
    cases hq : inDom l b with
    | false => rfl
    | true => obtain ⟨s, hs⟩ := inDom_mem.1 hq; exact absurd rfl (h _ hs)
  rcases tOf_get2 (show (tOf (D.m1.map fun p => (p.1, p.2.ob)) _).get b = some o from h) with h1 | ⟨h1, h2⟩
  · obtain ⟨q, hq, he⟩ := List.mem_map.1 h1
    cases he
    exact .inl ⟨q.2, hq, rfl⟩
  · have n1 := nd fun q hq => h2 _ (List.mem_map.2 ⟨q, hq, rfl⟩)
    rcases tOf_get2 h1 with h3 | ⟨h3, h4⟩
    · obtain ⟨q, hq, he⟩ := List.mem_map.1 h3
      cases he
      exact .inr ⟨n1, .inl ⟨inDom_mem.2 ⟨q.2, hq⟩, rfl⟩⟩
    · exact .inr ⟨n1, .inr ⟨nd fun q hq => h4 _ (List.mem_map.2 ⟨q, hq, rfl⟩), h3⟩⟩
noncomputable def deepHook (tb : Tab) (n : Nat) (f : FuncId) (G : Glb) (l : List Deep) : List Value → Mem → R (Value × Mem) := fun args A =>
  match l.find? fun D => D.is G args A with
  | some D => .ok (D.val, D.put A)
  | none => match callX tb n f args A with
    | .ok (.val v A') => .ok (v, A')
    | _ => .no 605

variable {tb : Tab} (ok : TabOk tb)
include ok in
theorem hook_deep {n : Nat} {f : FuncId} {fn : Func} {c : Code} (hf : tb.fn.get f = some fn) (hb : fn.body = some c) {G : Glb} {l : List Deep} (h1 : l.all (fun D => D.ok G) = true) (h2 : ∀ ts, l.all (fun D => D.ran tb n f G ts) = true) : HookOk tb.P f (deepHook tb n f G l) := by
  intro args A v A' ha
  unfold deepHook at ha
  split at ha
  · rename_i D hD
    have hmem := List.mem_of_find?_eq_some hD
    have his := List.find?_some hD
    have hok := List.all_eq_true.1 h1 D hmem
    have hran := fun ts => List.all_eq_true.1 (h2 ts) D hmem
    clear h1 h2 hD hmem
    simp only [R.ok.injEq, Prod.mk.injEq] at ha
    obtain ⟨rfl, rfl⟩ := ha
    simp only [Deep.is, Bool.and_eq_true] at his
    obtain ⟨⟨⟨i1, i2⟩, i3⟩, i4⟩ := his
    have i1 := Nat.eq_of_beq_eq_true i1
    have i2 := sameL_eq i2
    subst i2
    simp only [Deep.ok, Bool.and_eq_true] at hok
    obtain ⟨⟨⟨⟨k1, k2⟩, k3⟩, k4⟩, k5⟩ := hok
    have k1 : ∀ b s, (b, s) ∈ D.m → b < D.next ∧ gOf G b = none ∧ inO (D.p G) s = true := fun b s hs => by
      have := List.all_eq_true.1 k1 _ hs
      simp only [Bool.and_eq_true, Nat.blt_eq, Option.isNone_iff_eq_none] at this
      exact ⟨this.1.1, this.1.2, this.2⟩
    have k5 : ∀ b s, (b, s) ∈ D.m1 → b < D.next1 ∧ gOf G b = none ∧ (D.next ≤ b ∨ inDom D.m b = true) := fun b s hs => by
      have := List.all_eq_true.1 k5 _ hs
      simp only [Bool.and_eq_true, Nat.blt_eq, Option.isNone_iff_eq_none, Bool.or_eq_true] at this
      exact ⟨this.1.1, this.1.2, this.2.imp Nat.le_of_ble_eq_true id⟩
    have kg : ∀ {b vs}, gOf G b = some vs → b < D.next := fun hg => (gsOk_of k3 hg).1
    have i4 : ∀ b s, (b, s) ∈ D.m → ∃ o1, A.get b = some o1 ∧ SubOb s.ob o1 := fun b s hs => okOb_sub (List.all_eq_true.1 i4 _ hs)
    let ts : Nat → TypeId := fun k => match A.get k with
      | some (.cells t _ _ _) => t
      | _ => 0
    have hat : ∀ b vs, gOf G b = some vs → ∃ c, A.get b = some (.cells (ts b) .row (GB b) c) ∧ ∀ i v, vs[i]? = some v → c.get i = some v := by
      intro b vs hb
      obtain ⟨t, c, e, hc⟩ := hasG_get i3 b vs hb
      have : ts b = t := by show (match A.get b with | some (.cells t _ _ _) => t | _ => 0) = t; rw [e]
      exact ⟨c, by rw [this]; exact e, hc⟩
    have hr0 := hran ts
    clear hran
    unfold Deep.ran at hr0
    split at hr0
    case h_2 => cases hr0
    rename_i v1 A1 hcall
    simp only [Bool.and_eq_true] at hr0
    obtain ⟨⟨r1, r2⟩, r3⟩ := hr0
    have r1 := sameV_eq _ _ _ r1
    have r2 := Nat.eq_of_beq_eq_true r2
    have r3 : ∀ b s, (b, s) ∈ D.m1 → ∃ o1, A1.get b = some o1 ∧ SubOb s.ob o1 := fun b s hs => okOb_sub (List.all_eq_true.1 r3 _ hs)
    rw [callX_eq] at hcall
    unfold call at hcall
    simp only [hf, hb] at hcall
    rcases fn_sound ok (exec_sound ok n) hf hb hcall with ⟨_, _, hp, _⟩ | ⟨v2, A2, hp, hle, hs⟩
    · cases hp
    cases hp
    have hle : D.next ≤ D.next1 := by rw [← r2]; exact hle
    refine ⟨by rw [i1]; exact hle, fun ι w args' hr hargs hfr fr cs => ?_⟩
    -- the smaller memory
    let ι0 : Inj := fun b => if D.p G b then ι b else none
    have h0 : ∀ b l, D.p G b = true → ι b = some l → ι0 b = some l := fun b l hp hl => by show (if D.p G b then ι b else none) = _; rw [if_pos hp]; exact hl
    have h0' : ∀ {b l}, ι0 b = some l → D.p G b = true ∧ ι b = some l := by
      intro b l hl
      have hl' : (if D.p G b then ι b else none) = some l := hl
      split at hl'
      · exact ⟨‹_›, hl'⟩
      · cases hl'
    have pdom : ∀ {b s}, (b, s) ∈ D.m → D.p G b = true := fun hs => by
      unfold Deep.p; rw [inDom_mem.2 ⟨_, hs⟩]; rfl
    have pglb : ∀ {b vs}, gOf G b = some vs → D.p G b = true := fun hg => by
      unfold Deep.p; rw [hg]; simp
    have plt : ∀ {b}, D.p G b = true → b < D.next := fun {b} hp => by
      unfold Deep.p at hp
      simp only [Bool.or_eq_true] at hp
      rcases hp with (hp | hp) | hp
      · obtain ⟨s, hs⟩ := inDom_mem.1 hp; exact (k1 b s hs).1
      · cases hg : gOf G b with
        | none => rw [hg] at hp; cases hp
        | some vs => exact kg hg
      · obtain ⟨q, hq, he⟩ := List.any_eq_true.1 hp
        have := List.all_eq_true.1 k2 q hq
        rw [Nat.blt_eq] at this
        rw [Nat.eq_of_beq_eq_true he]; exact this
    have hget : ∀ b o, (D.mem G ts).get b = some o → (∃ s, (b, s) ∈ D.m ∧ o = s.ob) ∨ ∃ vs, gOf G b = some vs ∧ o = gOb (ts b) b vs := fun b o hb => by
      rcases tOf_get (show (tOf (D.m.map fun p => (p.1, p.2.ob)) (gHeap ts G)).get b = some o from hb) with hm | hm
      · obtain ⟨q, hq, he⟩ := List.mem_map.1 hm
        cases he
        exact .inl ⟨q.2, hq, rfl⟩
      · rw [gHeap_get] at hm
        cases hg : gOf G b with
        | none => rw [hg] at hm; cases hm
        | some vs => rw [hg] at hm; cases hm; exact .inr ⟨vs, rfl, rfl⟩
    have hgg : ∀ b vs, gOf G b = some vs → (D.mem G ts).get b = some (gOb (ts b) b vs) := fun b vs hg => by
      show (tOf (D.m.map fun p => (p.1, p.2.ob)) (gHeap ts G)).get b = _
      rw [tOf_base fun q hq e => ?_, gHeap_get, hg]
      · rfl
      · obtain ⟨r, hr, rfl⟩ := List.mem_map.1 hq
        have := (k1 r.1 r.2 hr).2.1
        rw [show r.1 = b from e, hg] at this
        cases this
    have hlive : ∀ b, live (D.mem G ts) b → live A b := fun b ⟨o, h1, h2⟩ => by
      rcases hget b o h1 with ⟨s, hs, rfl⟩ | ⟨vs, hg, rfl⟩
      · obtain ⟨o1, e1, e2⟩ := i4 b s hs
        exact ⟨o1, e1, by rw [← e2.alive]; exact h2⟩
      · obtain ⟨c, e, _⟩ := hat b vs hg
        exact ⟨_, e, rfl⟩
    have hrel : Rel ι0 (D.mem G ts) w := by
      refine ⟨fun b hb => ?_, fun b o l hb ha hl => ?_, fun b l hl => hr.rng b l (h0' hl).2, fun b b' l l' h1 h2 hl hl' he => hr.inj b b' l l' (hlive b h1) (hlive b' h2) (h0' hl).2 (h0' hl').2 he, fun b t k c hb => ?_⟩
      · cases hq : (D.mem G ts).get b with
        | none => rfl
        | some o =>
          exfalso
          have hb' : D.next ≤ b := hb
          rcases hget b o hq with ⟨s, hs, -⟩ | ⟨vs, hg, -⟩
          · have := (k1 b s hs).1; omega
          · have := kg hg; omega
      · rcases hget b o hb with ⟨s, hs, rfl⟩ | ⟨vs, hg, rfl⟩
        · obtain ⟨o1, e1, e2⟩ := i4 b s hs
          obtain ⟨o', hw, hor⟩ := hr.obs b o1 l e1 (by rw [← e2.alive]; exact ha) (h0' hl).2
          exact ⟨o', hw, inO_OR h0 (k1 b s hs).2.2 (e2.or hor)⟩
        · obtain ⟨c, e, hc⟩ := hat b vs hg
          obtain ⟨o', hw, cs', fr', rfl, hsz, hcell, hfz⟩ := hr.obs b _ l e rfl (h0' hl).2
          refine ⟨_, hw, cs', fr', rfl, hsz, fun i x hx => ?_, hfz⟩
          rw [T.get_puts] at hx
          split at hx
          · have hx' : vs[i]? = some x := by simpa using hx
            obtain ⟨v', e1, e2⟩ := hcell i x (hc i x hx')
            exact ⟨v', e1, cellG_VR ((gsOk_of k3 hg).2.2 x (List.mem_of_getElem? hx')) e2⟩
          · rw [T.get_e] at hx; cases hx
      · rcases hget b _ hb with ⟨s, hs, he⟩ | ⟨vs, hg, he⟩
        · have := inO_fz (k1 b s hs).2.2 he.symm
          unfold GB at this; omega
        · simp only [gOb, Ob.cells.injEq, GB] at he
          have hk : k = b := by omega
          subst hk
          obtain ⟨c', e, _⟩ := hat k vs hg
          obtain ⟨l, e1, e2⟩ := hr.gl k _ k c' e
          exact ⟨l, h0 k l (pglb hg) e1, e2⟩
    obtain ⟨ι1, w1, v', ⟨fr0, st, hfn, hlv⟩, hv, hrel1, hst⟩ := hs ι0 w args' (fr :: cs) hrel (inVs_VR h0 9 _ _ (List.all_eq_true.1 k4) hargs) (fun b h1 _ => by
      cases hl : ι0 b with
      | none => rfl
      | some l => have := plt (h0' hl).1; have h3 : D.next ≤ b := h1; omega)
    -- the greater one, behind it
    let ι' : Inj := fun b => if D.next ≤ b ∧ b < D.next1 then ι1 b else ι b
    have j1 : ∀ b, D.next ≤ b → b < D.next1 → ι' b = ι1 b := fun b h1 h2 => if_pos ⟨h1, h2⟩
    have j0 : ∀ b, (b < D.next ∨ D.next1 ≤ b) → ι' b = ι b := fun b h => if_neg (by omega)
    have out1 : ∀ b, (b < D.next ∨ D.next1 ≤ b) → ι1 b = ι0 b := fun b h => hst.out b (by rw [r2]; exact h)
    have le1 : InjLe ι1 ι' := fun b l hl => by
      by_cases hb : D.next ≤ b ∧ b < D.next1
      · rw [j1 b hb.1 hb.2]; exact hl
      · have hb' : b < D.next ∨ D.next1 ≤ b := by omega
        rw [j0 b hb']
        rw [out1 b hb'] at hl
        exact (h0' hl).2
    have le0 : InjLe ι ι' := fun b l hl => by
      by_cases hb : D.next ≤ b ∧ b < D.next1
      · have := hfr b (by rw [i1]; exact hb.1) hb.2
        rw [this] at hl; cases hl
      · rw [j0 b (by omega)]; exact hl
    have alt : ∀ b, A.get b ≠ none → b < D.next := fun b hb => by
      rcases Nat.lt_or_ge b D.next with h | h
      · exact h
      · exact absurd (hr.wf b (by rw [i1]; exact h)) hb
    -- what stays in the world
    have still : ∀ b l, live A b → inDom D.m b = false → ι b = some l → w1.heap[l.blk]? = w.heap[l.blk]? := fun b l hl hd hi => by
      cases hg : gOf G b with
      | some vs =>
        have hi0 := h0 b l (pglb hg) hi
        obtain ⟨c, e, _⟩ := hat b vs hg
        obtain ⟨l2, e1, -, -, e4⟩ := hr.gl b _ b c e
        rw [hi] at e1; cases e1
        exact (hst.kept b l hi0 ⟨kg hg, ts b, GB b, _, hgg b vs hg, by unfold GB; omega, by unfold GB; omega⟩).2
      | none =>
        refine hst.fr _ (hr.rng b l hi) fun b0 l0 h1 h2 he => ?_
        have := hr.inj b0 b l0 l (hlive b0 h1) hl (h0' h2).2 hi he
        subst this
        obtain ⟨o, e1, -⟩ := h1
        rcases hget b0 o e1 with ⟨s, hs, -⟩ | ⟨vs, hg', -⟩
        · rw [inDom_mem.2 ⟨s, hs⟩] at hd; cases hd
        · rw [hg] at hg'; cases hg'
    -- the two kinds
    have two : ∀ b o, (D.put A).get b = some o → alive o = true → (∃ s o1, (b, s) ∈ D.m1 ∧ o = s.ob ∧ A1.get b = some o1 ∧ SubOb o o1 ∧ ι' b = ι1 b) ∨ (inDom D.m b = false ∧ A.get b = some o ∧ b < D.next ∧ ι' b = ι b) := fun b o hb ha => by
      rcases put_get hb with ⟨s, hs, rfl⟩ | ⟨-, ⟨-, rfl⟩ | ⟨h1, h2⟩⟩
      · obtain ⟨o1, e1, e2⟩ := r3 b s hs
        refine .inl ⟨s, o1, hs, rfl, e1, e2, ?_⟩
        obtain ⟨q1, q2, q3⟩ := k5 b s hs
        rcases Nat.lt_or_ge b D.next with h | h
        · rcases q3 with q3 | q3
          · omega
          · rw [j0 b (.inl h), out1 b (.inl h)]
            obtain ⟨s0, hs0⟩ := inDom_mem.1 q3
            show _ = if D.p G b then ι b else none
            rw [if_pos (pdom hs0)]
        · exact j1 b h q1
      · cases ha
      · have hlt := alt b (by rw [h2]; simp)
        exact .inr ⟨h1, h2, hlt, j0 b (.inl hlt)⟩
    have hrel' : Rel ι' (D.put A) w1 := by
      refine ⟨fun b hb => ?_, fun b o l hb ha hl => ?_, fun b l hl => ?_, fun b b' l l' h1 h2 hl hl' he => ?_, fun b t k c hb => ?_⟩
      · cases hq : (D.put A).get b with
        | none => rfl
        | some o =>
          exfalso
          have hb' : D.next1 ≤ b := hb
          rcases put_get hq with ⟨s, hs, -⟩ | ⟨-, ⟨h1, -⟩ | ⟨-, h2⟩⟩
          · have := (k5 b s hs).1; omega
          · obtain ⟨s, hs⟩ := inDom_mem.1 h1; have := (k1 b s hs).1; omega
          · have := alt b (by rw [h2]; simp); omega
      · rcases two b o hb ha with ⟨s, o1, hs, rfl, e1, e2, e3⟩ | ⟨h1, h2, h3, h4⟩
        · rw [e3] at hl
          obtain ⟨o', hw, hor⟩ := hrel1.obs b o1 l e1 (by rw [← e2.alive]; exact ha) hl
          exact ⟨o', hw, (e2.or hor).mono le1⟩
        · rw [h4] at hl
          obtain ⟨o', hw, hor⟩ := hr.obs b o l h2 ha hl
          exact ⟨o', by rw [still b l ⟨o, h2, ha⟩ h1 hl]; exact hw, hor.mono le0⟩
      · by_cases hb : D.next ≤ b ∧ b < D.next1
        · rw [j1 b hb.1 hb.2] at hl; exact hrel1.rng b l hl
        · rw [j0 b (by omega)] at hl
          exact Nat.lt_of_lt_of_le (hr.rng b l hl) hst.size
      · -- one new, one old
        have cross : ∀ {b b' l l' o}, ∀ s o1, (b, s) ∈ D.m1 → A1.get b = some o1 → alive o1 = true → ι1 b = some l → inDom D.m b' = false → A.get b' = some o → alive o = true → ι b' = some l' → l.blk = l'.blk → b = b' := by
          intro b b' l l' o s o1 hs e1 e2 e3 f1 f2 f3 f4 he
          cases hg : gOf G b' with
          | some vs =>
            have hi0 := h0 b' l' (pglb hg) f4
            have hlt := kg hg
            have hi1 : ι1 b' = some l' := by rw [out1 b' (.inl hlt)]; exact hi0
            obtain ⟨c, e, _⟩ := hat b' vs hg
            obtain ⟨l2, q1, -, -, q4⟩ := hr.gl b' _ b' c e
            rw [f4] at q1; cases q1
            have hk := (hst.kept b' l' hi0 ⟨hlt, ts b', GB b', _, hgg b' vs hg, by unfold GB; omega, by unfold GB; omega⟩).1
            exact hrel1.inj b b' l l' ⟨o1, e1, e2⟩ ⟨_, by rw [hk]; exact hgg b' vs hg, rfl⟩ e3 hi1 he
          | none =>
            rcases hst.src b l ⟨o1, e1, e2⟩ e3 with h | ⟨b0, l0, g1, g2, g3⟩
            · have := hr.rng b' l' f4; omega
            · have := hr.inj b0 b' l0 l' (hlive b0 g1) ⟨o, f2, f3⟩ (h0' g2).2 f4 (by omega)
              subst this
              obtain ⟨oo, q1, -⟩ := g1
              rcases hget b0 oo q1 with ⟨s', hs', -⟩ | ⟨vs, hg', -⟩
              · rw [inDom_mem.2 ⟨s', hs'⟩] at f1; cases f1
              · rw [hg] at hg'; cases hg'
        obtain ⟨o, p1, p2⟩ := h1
        obtain ⟨o', p3, p4⟩ := h2
        rcases two b o p1 p2 with ⟨s, o1, hs, rfl, e1, e2, e3⟩ | ⟨f1, f2, f3, f4⟩
        · rw [e3] at hl
          have e4 : alive o1 = true := by rw [← e2.alive]; exact p2
          rcases two b' o' p3 p4 with ⟨s', o1', hs', rfl, e1', e2', e3'⟩ | ⟨f1', f2', f3', f4'⟩
          · rw [e3'] at hl'
            exact hrel1.inj b b' l l' ⟨o1, e1, e4⟩ ⟨o1', e1', by rw [← e2'.alive]; exact p4⟩ hl hl' he
          · rw [f4'] at hl'
            exact cross s o1 hs e1 e4 hl f1' f2' p4 hl' he
        · rw [f4] at hl
          rcases two b' o' p3 p4 with ⟨s', o1', hs', rfl, e1', e2', e3'⟩ | ⟨f1', f2', f3', f4'⟩
          · rw [e3'] at hl'
            exact (cross s' o1' hs' e1' (by rw [← e2'.alive]; exact p4) hl' f1 f2 p2 hl he.symm).symm
          · rw [f4'] at hl'
            exact hr.inj b b' l l' ⟨o, f2, p2⟩ ⟨o', f2', p4⟩ hl hl' he
      · rcases two b _ hb rfl with ⟨s, o1, hs, e0, e1, ⟨c1, rfl, -⟩, e3⟩ | ⟨f1, f2, f3, f4⟩
        · obtain ⟨l, q1, q2⟩ := hrel1.gl b t k c1 e1
          exact ⟨l, le1 b l q1, q2⟩
        · rw [f4]; exact hr.gl b t k c f2
    refine ⟨ι', w1, v', st.trans (.one (step_leave_returned hlv)), by rw [← r1]; exact hv.mono le1, hrel', ?_⟩
    refine ⟨by rw [i1]; exact hle, fun b hb => j0 b (by rw [i1] at hb; exact hb), fun b l ⟨o, p1, p2⟩ hl => ?_, fun c hc hn => hst.fr c hc fun b l h1 h2 => hn b l (hlive b h1) (h0' h2).2, hst.size, hst.os, hst.tape, hst.output, fun b l hl hS => ?_, hst.drawn⟩
    · rcases two b o p1 p2 with ⟨s, o1, hs, rfl, e1, e2, e3⟩ | ⟨f1, f2, f3, f4⟩
      · rw [e3] at hl
        rcases hst.src b l ⟨o1, e1, by rw [← e2.alive]; exact p2⟩ hl with h | ⟨b0, l0, g1, g2, g3⟩
        · exact .inl h
        · exact .inr ⟨b0, l0, hlive b0 g1, (h0' g2).2, g3⟩
      · rw [f4] at hl
        exact .inr ⟨b, l, ⟨o, f2, p2⟩, hl, rfl⟩
    · obtain ⟨s1, t, fz, c, s2, s3, s4⟩ := hS
      have hd : inDom D.m b = false := by
        cases hq : inDom D.m b with
        | false => rfl
        | true =>
          exfalso
          obtain ⟨s, hs⟩ := inDom_mem.1 hq
          obtain ⟨o1, e1, e2⟩ := i4 b s hs
          rw [s2] at e1
          cases e1
          have hin := (k1 b s hs).2.2
          cases s with
          | row t' x' fz' vs =>
            obtain ⟨c1, e, -⟩ := e2
            cases e
            have := inO_fz hin rfl
            omega
          | «at» t' x' fz' vs =>
            obtain ⟨c1, e, -⟩ := e2
            cases e
            have := inO_fz hin rfl
            omega
          | map es clock => cases (show _ = Ob.map es clock from e2)
      refine ⟨?_, still b l ⟨_, s2, rfl⟩ hd hl⟩
      show (tOf (D.m1.map fun p => (p.1, p.2.ob)) (tOf (D.m.map fun p => (p.1, .dead)) A.heap)).get b = _
      rw [tOf_base fun q hq e => ?_, tOf_base fun q hq e => ?_]
      · rfl
      · obtain ⟨r, hr', rfl⟩ := List.mem_map.1 hq
        rw [inDom_mem.2 ⟨r.2, by rw [← show r.1 = b from e]; exact hr'⟩] at hd; cases hd
      · obtain ⟨r, hr', rfl⟩ := List.mem_map.1 hq
        rcases (k5 r.1 r.2 hr').2.2 with h | h
        · have : r.1 = b := e
          rw [i1] at s1; omega
        · rw [show r.1 = b from e] at h; rw [h] at hd; cases hd
  · split at ha
    · rename_i v1 A1 hcall
      simp only [R.ok.injEq, Prod.mk.injEq] at ha
      obtain ⟨rfl, rfl⟩ := ha
      rw [callX_eq] at hcall
      unfold call at hcall
      simp only [hf, hb] at hcall
      rcases fn_sound ok (exec_sound ok n) hf hb hcall with ⟨_, _, hp, _⟩ | ⟨v2, A2, hp, hle, hs⟩
      · cases hp
      cases hp
      refine ⟨hle, fun ι w args' hr hargs hfr fr cs => ?_⟩
      obtain ⟨ι1, w1, v', ⟨fr0, st, hfn, hlv⟩, hv, hrel1, hst⟩ := hs ι w args' (fr :: cs) hr hargs hfr
      exact ⟨ι1, w1, v', st.trans (.one (step_leave_returned hlv)), hv, hrel1, hst⟩
    · cases ha
include ok in
theorem deep_ok {n : Nat} {f : FuncId} {fn : Func} {c : Code} (hf : tb.fn.get f = some fn) (hb : fn.body = some c) {G : Glb} {l : List Deep} (h1 : l.all (fun D => D.ok G) = true) (h2 : ∀ ts, l.all (fun D => D.ran tb n f G ts) = true) : TabOk (tb.know f (deepHook tb n f G l)) := know_ok ok (hook_deep ok hf hb h1 h2)
theorem deep_cons {p : Deep → Bool} {D : Deep} {l : List Deep} (h1 : p D = true) (h2 : l.all p = true) : (D :: l).all p = true := by
  rw [List.all_cons, h1, h2]; rfl
end Go.Am

/-
  The abstract machine AM, part 69: a law of plain values over a first memory with package-level variables.
-/
namespace Go.Am
variable {tb : Tab} (ok : TabOk tb)
include ok in
/-- A law that answers true over such a memory, whatever type the rows are marked with. -/
theorem glob_calls {N : Nat} {l : Glb} (hl : l.all (fun p => Nat.blt p.1 N && Nat.blt p.2.length 1000000) = true) {f : FuncId} {fn : Func} {c : Code} (hf : tb.fn.get f = some fn) (hb : fn.body = some c) {args : List Value}
    (h : ∀ ts, ∃ n A1, call tb n f args (gMem ts l N) = .ok (.val (.bool true) A1)) {args' : Array Value} (ha : VRs (gInj l) args args'.toList) (w : World) (hw : ∀ k vs, gOf l k = some vs → GAt w k vs) :
    Calls tb.P f args' w fun e w' => e = .returned (.bool true) ∧ Leaves w w' := by
  let ts : Nat → TypeId := fun k => match w.heap[k]? with
    | some (.cells _ t _) => t
    | _ => 0
  have mem : ∀ {l : Glb} {b : Nat} {vs : List Value}, gOf l b = some vs → (b, vs) ∈ l := by
    intro l
    induction l with
    | nil => intro b vs h; cases h
    | cons p l ih =>
      intro b vs h
      have h' : (if b = p.1 then some p.2 else gOf l b) = some vs := h
      split at h'
      · rename_i e; cases h'; subst e; exact List.mem_cons_self ..
      · exact List.mem_cons_of_mem _ (ih h')
  have hlt : ∀ k vs, gOf l k = some vs → k < N ∧ vs.length < 1000000 := fun k vs hk => by
    have := List.all_eq_true.1 hl _ (mem hk)
    simp only [Bool.and_eq_true, Nat.blt_eq] at this
    exact this
  have hrel : Rel (gInj l) (gMem ts l N) w := g_rel hlt fun k vs hk => by
    obtain ⟨ws, t, e, h1, h2⟩ := hw k vs hk
    have : ts k = t := by show (match w.heap[k]? with | some (.cells _ t _) => t | _ => 0) = t; rw [e]
    exact ⟨ws, by rw [this]; exact e, h1, h2⟩
  obtain ⟨n, A1, hc⟩ := h ts
  have := call_still ok hc hf hb args' w hrel ha (fun b hb => by
    unfold gInj
    cases hq : gOf l b with
    | none => rfl
    | some vs => have h1 := (hlt b vs hq).1; have h2 : N ≤ b := hb; omega) (fun b q h1 h2 => by
    obtain ⟨vs, hb', rfl⟩ := gInj_some h2
    refine ⟨(hlt b vs hb').1, ts b, GB b, _, by rw [show (gMem ts l N).get b = _ from gHeap_get ts b l, hb']; rfl, by unfold GB; omega, ?_⟩
    have := (hlt b vs hb').2
    show vs.length < GB b
    unfold GB; omega)
  refine this.mono ?_
  rintro e w' ⟨ι', v', rfl, hv, hlv⟩
  cases hv
  exact ⟨rfl, hlv⟩
end Go.Am

/-
  The abstract machine AM, part 60: a value of several cells is stored into a slice.
-/
namespace Go.Am
variable {tb : Tab}

/-- Some cells of a row are stored. -/
theorem Vals.put {A : Mem} {e : TypeId} {b o : Nat} {k : Kd} {l vs : List Value} (h : Vals A e b k l) (h1 : ∀ v ∈ vs, oneCell v = true) (h2 : o + vs.length ≤ l.length) (h0 : vs ≠ []) :
    ∃ A', storeAtF A ⟨b, o, none⟩ vs = .ok A' ∧ A'.next = A.next ∧ (∀ x, x ≠ b → A'.get x = A.get x) ∧ ∀ l' : List Value, l'.length = l.length → (∀ j, j < l.length → l'[j]? = if o ≤ j ∧ j < o + vs.length then vs[j - o]? else l[j]?) → Vals A' e b k l' := by
  obtain ⟨c, h3, h4⟩ := h
  have hst : storesF (roomK k) 0 vs o c = .ok (c.puts o vs) := stores_in _ vs o c h1 fun j hj => .inl (by
    rw [h4 (o + j) (by omega), List.getElem?_eq_getElem (show o + j < l.length by omega)]
    exact ⟨_, rfl⟩)
  refine ⟨A.set b (.cells e k 0 (c.puts o vs)), ?_, next_set _ _ _, fun x hx => by rw [get_setMem, if_neg hx], fun l' hl hj => ⟨_, by rw [get_setMem, if_pos rfl], fun i hi => ?_⟩⟩
  · cases vs with
    | nil => exact absurd rfl h0
    | cons v vs =>
      unfold storeAtF
      simp only [h3, hst, R.ok_bind]
  · rw [T.get_puts, hj i (by omega)]
    split
    · rfl
    · exact h4 i (by omega)
theorem flat_set {n i : Nat} {ls : List (List Value)} {l : List Value} (h : ∀ x ∈ ls, x.length = n) (hl : l.length = n) (hi : i < ls.length) (j : Nat) (hj : j < ls.flatten.length) :
    ((ls.set i l).flatten)[j]? = if i * n ≤ j ∧ j < i * n + n then l[j - i * n]? else ls.flatten[j]? := by
  have h' : ∀ x ∈ ls.set i l, x.length = n := fun x hx => by
    rcases List.mem_or_eq_of_mem_set hx with hx | rfl
    · exact h x hx
    · exact hl
  rw [flat_len h] at hj
  have hn : 0 < n := Nat.pos_of_ne_zero fun e => by rw [e] at hj; omega
  have hq : j / n < ls.length := by rw [Nat.div_lt_iff_lt_mul hn]; exact hj
  have hm : j % n < n := Nat.mod_lt _ hn
  have e : j = j / n * n + j % n := by rw [Nat.mul_comm, Nat.div_add_mod]
  have hx : ls[j / n]? = some ls[j / n] := List.getElem?_eq_getElem hq
  by_cases hji : j / n = i
  · have hx' : (ls.set i l)[j / n]? = some l := by rw [hji, List.getElem?_set, if_pos rfl, if_pos hi]
    rw [hji] at e
    rw [if_pos ⟨by omega, by omega⟩]
    have := flat_get h' (i := i) (j := j % n) (by rw [← hji]; rw [hji] at hx' ⊢; exact hx') hm
    rw [← e] at this
    rw [this]
    congr 1
    omega
  · have hx' : (ls.set i l)[j / n]? = some ls[j / n] := by rw [List.getElem?_set, if_neg (fun h => hji h.symm), hx]
    have g1 := flat_get h' hx' hm
    have g2 := flat_get h hx hm
    rw [← e] at g1 g2
    rw [g1, g2, if_neg]
    rintro ⟨h3, h4⟩
    apply hji
    have h5 : i ≤ j / n := (Nat.le_div_iff_mul_le hn).2 h3
    have h6 : j / n < i + 1 := (Nat.div_lt_iff_lt_mul hn).2 (by rw [Nat.add_mul, Nat.one_mul]; exact h4)
    omega
/-- A value of it, whole, is stored. -/
theorem SlcM.store {A : Mem} {e t : TypeId} {n b i : Nat} {ls : List (List Value)} {l : List Value} {x : Value} (h : SlcM A e n b ls x) (hs : sizeF tb t = .ok n) (hn : 0 < n) (hi : i < ls.length) (hl : l.length = n) (h1 : ∀ v ∈ l, oneCell v = true) :
    ∃ A', storeF tb A t (.pointer (some ⟨b, i * n, none⟩)) (.agg ⟨l⟩) = .ok A' ∧ SlcM A' e n b (ls.set i l) x ∧ A'.next = A.next ∧ ∀ y, y ≠ b → A'.get y = A.get y := by
  rcases h with ⟨rfl, rfl⟩ | ⟨k, c, rfl, h2, h3, h4, h5⟩
  · simp at hi
  · have hlen : i * n + l.length ≤ ls.flatten.length := by
      rw [flat_len h4, hl]
      have := Nat.mul_le_mul_right n (show i + 1 ≤ ls.length from hi)
      rw [Nat.add_mul, Nat.one_mul] at this
      omega
    have h4' : ∀ x ∈ ls.set i l, x.length = n := fun x hx => by
      rcases List.mem_or_eq_of_mem_set hx with hx | rfl
      · exact h4 x hx
      · exact hl
    obtain ⟨A', g1, g2, g3, g4⟩ := h3.put h1 hlen (fun e => by rw [e] at hl; simp at hl; omega)
    refine ⟨A', ?_, .inr ⟨k, c, by rw [List.length_set], by omega, g4 _ (by rw [flat_len h4', flat_len h4, List.length_set]) fun j hj => by rw [flat_set h4 hl hi j hj, hl], h4', by rw [List.length_set]; exact h5⟩, g2, g3⟩
    unfold storeF
    have hc : (Value.agg ⟨l⟩).cells.toList = l := rfl
    simp only [hs, R.ok_bind, hc, hl, Nat.beq_refl, cond_true]
    exact g1
/-- A field of a value of it is stored. -/
theorem SlcM.field {A : Mem} {e t : TypeId} {n b i j : Nat} {ls : List (List Value)} {l : List Value} {x v : Value} (h : SlcM A e n b ls x) (hs : sizeF tb t = .ok 1) (hi : ls[i]? = some l) (hj : j < n) (hv : v.cells.toList = [v]) (h1 : oneCell v = true) :
    ∃ A', storeF tb A t (.pointer (some ⟨b, i * n + j, none⟩)) v = .ok A' ∧ SlcM A' e n b (ls.set i (l.set j v)) x ∧ A'.next = A.next ∧ ∀ y, y ≠ b → A'.get y = A.get y := by
  have hil : i < ls.length := (List.getElem?_eq_some_iff.1 hi).1
  rcases h with ⟨rfl, rfl⟩ | ⟨k, c, rfl, h2, h3, h4, h5⟩
  · simp at hil
  · have hl : l.length = n := h4 l (List.mem_of_getElem? hi)
    have hlen := flat_lt h4 hil hj
    have h4' : ∀ x ∈ ls.set i (l.set j v), x.length = n := fun x hx => by
      rcases List.mem_or_eq_of_mem_set hx with hx | rfl
      · exact h4 x hx
      · rw [List.length_set]; exact hl
    obtain ⟨A', g1, g2, g3, g4⟩ := h3.put (o := i * n + j) (vs := [v]) (fun w hw => by rw [List.mem_singleton.1 hw]; exact h1) (by rw [List.length_singleton]; omega) (by simp)
    refine ⟨A', ?_, .inr ⟨k, c, by rw [List.length_set], by omega, g4 _ (by rw [flat_len h4', flat_len h4, List.length_set]) fun m hm => ?_, h4', by rw [List.length_set]; exact h5⟩, g2, g3⟩
    · unfold storeF
      simp only [hs, R.ok_bind, hv, List.length_singleton, Nat.beq_refl, cond_true]
      exact g1
    · rw [flat_set h4 (by rw [List.length_set]; exact hl) hil m hm, List.length_singleton]
      by_cases hin : i * n ≤ m ∧ m < i * n + n
      · rw [if_pos hin, List.getElem?_set]
        by_cases hmj : j = m - i * n
        · rw [if_pos hmj, if_pos (by omega), if_pos ⟨by omega, by omega⟩]
          have : m - (i * n + j) = 0 := by omega
          rw [this]; rfl
        · rw [if_neg hmj, if_neg (by omega)]
          have := flat_get h4 hi (j := m - i * n) (by omega)
          rw [show i * n + (m - i * n) = m by omega] at this
          exact this.symm
      · rw [if_neg hin, if_neg (by omega)]
end Go.Am

/-
  The abstract machine AM, part 62: its equations, bound together: simp takes each by itself.
-/
namespace Go.Am
theorem evs_n (t : T Value) : evs t [] = .ok [] := rfl
theorem evs_c (t : T Value) (x : Operand) (xs : List Operand) : evs t (x :: xs) = (ev t x).bind fun v => (evs t xs).bind fun vs => .ok (v :: vs) := rfl
theorem evo_n (t : T Value) : evo t none = .ok none := rfl
theorem evo_s (t : T Value) (x : Operand) : evo t (some x) = (ev t x).bind fun v => .ok (some v) := rfl
theorem evp_n (t : T Value) : evp t [] = .ok [] := rfl
theorem evp_c (t : T Value) (i : Nat) (x : Operand) (xs : List (Nat × Operand)) : evp t ((i, x) :: xs) = (ev t x).bind fun v => (evp t xs).bind fun vs => .ok ((i, v) :: vs) := rfl
theorem resK_v (s : St) (dst : Option Tmp) (k : St → R (Ex × St)) (v : Value) (A : Mem) : resK s dst k (.val v A) = putT { s with m := A } dst v k := rfl
theorem resK_p (s : St) (dst : Option Tmp) (k : St → R (Ex × St)) (v : Value) (A : Mem) : resK s dst k (.pan v A) = .ok (.pan v, { s with m := A }) := rfl
theorem resF_n (tb : Tab) (t : T Value) (g : Nat → Option Ob) : resF tb t g [] = .ok [] := rfl
theorem resF_t (tb : Tab) (t : T Value) (g : Nat → Option Ob) (i : Nat) (rs : List ResultVar) : resF tb t g (.tmp i :: rs) = (ev t (.tmp i)).bind fun v => (resF tb t g rs).bind fun vs => .ok (v :: vs) := rfl
theorem resF_c (tb : Tab) (t : T Value) (g : Nat → Option Ob) (i : Nat) (ty : TypeId) (rs : List ResultVar) : resF tb t g (.cell i ty :: rs) = (ev t (.tmp i)).bind fun a => (loadF tb g ty a).bind fun v => (resF tb t g rs).bind fun vs => .ok (v :: vs) := rfl
theorem oneOf_n : oneOf [] = .tuple ⟨[]⟩ := rfl
theorem oneOf_o (v : Value) : oneOf [v] = v := rfl
theorem oneOf_m (a b : Value) (l : List Value) : oneOf (a :: b :: l) = .tuple ⟨a :: b :: l⟩ := rfl
theorem takeF_n (A : Mem) : takeF [] A = .ok A := rfl
theorem takeF_c (b : Nat) (bs : List Nat) (A : Mem) : takeF (b :: bs) A = match A.get b with | some .defd => takeF bs (A.set b .dead) | _ => .no 240 := rfl
theorem pickF_t (t : T Value) (a b : Operand) : pickF t (.bool true) a b = ev t a := rfl
theorem pickF_f (t : T Value) (a b : Operand) : pickF t (.bool false) a b = ev t b := rfl
theorem extractF_t (vs : Array Value) (i : Nat) : extractF (.tuple vs) i = match vs.toList[i]? with | some v => .ok v | none => .no 211 := rfl
theorem unitV_q : unitV = .tuple ⟨[]⟩ := rfl
/-- The equations of a run. -/
theorem Aq : type_of% (
  And.intro @evs_n <|
  And.intro @evs_c <|
  And.intro @evo_n <|
  And.intro @evo_s <|
  And.intro @evp_n <|
  And.intro @evp_c <|
  And.intro @resK_v <|
  And.intro @resK_p <|
  And.intro @resF_n <|
  And.intro @resF_t <|
  And.intro @resF_c <|
  And.intro @oneOf_n <|
  And.intro @oneOf_o <|
  And.intro @oneOf_m <|
  And.intro @takeF_n <|
  And.intro @takeF_c <|
  And.intro @pickF_t <|
  And.intro @pickF_f <|
  And.intro @extractF_t <|
  And.intro @cond_true.{1} <|
  And.intro @cond_false.{1} <|
  And.intro @T.puts_cons <|
  And.intro @T.puts_nil <|
  And.intro @exec_seq <|
  And.intro @exec_block <|
  And.intro @nat_beq_self <|
  And.intro @exec_region <|
  And.intro @exec_cond <|
  And.intro @exec_skip <|
  And.intro @exec_ret <|
  And.intro @exec_exit <|
  And.intro @exec_scope <|
  And.intro @runOps_cons <|
  And.intro @runOps_nil <|
  And.intro @opF_move <|
  And.intro @opF_assign <|
  And.intro @opF_ari <|
  And.intro @opF_neq <|
  And.intro @opF_eql <|
  And.intro @opF_un <|
  And.intro @opF_index <|
  And.intro @opF_indexAddr <|
  And.intro @opF_fieldAddr <|
  And.intro @opF_field <|
  And.intro @opF_build <|
  And.intro @opF_slice <|
  And.intro @opF_extract <|
  And.intro @opF_pick <|
  And.intro @opF_load <|
  And.intro @opF_alloc <|
  And.intro @opF_box <|
  And.intro @opF_buildSlice <|
  And.intro @opF_makeSlice <|
  And.intro @opF_store <|
  And.intro @opF_conv <|
  And.intro @opF_len <|
  And.intro @opF_minmax <|
  And.intro @opF_builtin <|
  And.intro @opF_call <|
  And.intro @ev_tmp <|
  And.intro @evG_some <|
  And.intro @ev_int <|
  And.intro @ev_bool <|
  And.intro @ev_str <|
  And.intro @R.ok_bind <|
  And.intro @putT_some <|
  And.intro @putT_none <|
  And.intro @T.get_set <|
  And.intro @T.get_e <|
  And.intro @binF_int <|
  And.intro @op_rem <|
  And.intro @op_quo_u32 <|
  And.intro @op_xor_u32 <|
  And.intro @op_neq <|
  And.intro @op_eql <|
  And.intro @op_lss <|
  And.intro @op_add_i64 <|
  And.intro @op_sub_u32 <|
  And.intro @op_and_u8 <|
  And.intro @op_xor_u8 <|
  And.intro @op_not_u32 <|
  And.intro @binF_shr_u32 <|
  And.intro @binF_shr_u8 <|
  And.intro @op_mul_i64 <|
  And.intro @op_quo_i64 <|
  And.intro @op_and_u32 <|
  And.intro @binF_shl_u8 <|
  And.intro @wrapF_u8 <|
  And.intro @wrapF_u32 <|
  And.intro @mod_u8 <|
  And.intro @mod_u32 <|
  And.intro @cond_val <|
  And.intro @Nat.lt_irrefl <|
  And.intro @Nat.not_lt_zero <|
  And.intro @if_true.{1} <|
  And.intro @if_false.{1} <|
  And.intro @ne_eq.{1} <|
  And.intro @not_true_eq_false <|
  And.intro @not_false_eq_true <|
  And.intro @decide_true <|
  And.intro @decide_false <|
  And.intro @Bool.false_eq_true <|
  And.intro @Bool.not_true <|
  And.intro @Bool.not_false <|
  And.intro @sub_nil <|
  And.intro @sub_seq0 <|
  And.intro @sub_seq1 <|
  And.intro @sub_cond0 <|
  And.intro @sub_cond1 <|
  And.intro @sub_block <|
  And.intro @sub_loop <|
  And.intro @sub_scope <|
  And.intro @sub_range0 <|
  And.intro @sub_range1 <|
  And.intro @Option.getD_some.{0} <|
  And.intro @at_ptr <|
  And.intro @at_slc <|
  And.intro @runOps_yes <|
  And.intro @runOps_no <|
  And.intro @exec_draw <|
  And.intro @op_sub_i64 <|
  And.intro @op_sub_neg <|
  And.intro @op_lss_neg <|
  And.intro @binF_str <|
  And.intro @str_add <|
  And.intro @str_neq <|
  And.intro @str_eql <|
  And.intro @cells_str <|
  And.intro @cells_int <|
  And.intro @cells_agg <|
  And.intro @bool_eql <|
  And.intro @bool_neq <|
  And.intro @op_lssI <|
  And.intro @bne_self_eq_false.{0} <|
  And.intro @beq_self_eq_true.{0} <|
  And.intro @eq_self.{1} <|
  And.intro @cells_slc <|
  And.intro @cells_func <|
  And.intro @builtin_append <|
  And.intro @ev_nilslice <|
  And.intro @ev_nilfunc <|
  And.intro @ev_nilptr <|
  And.intro @ev_nilmap <|
  And.intro @opF_makeFunc <|
  And.intro @opF_callv <|
  And.intro @callV_func <|
  And.intro @callV_yield <|
  And.intro @op_leq <|
  And.intro @op_gtr <|
  And.intro @op_geq <|
  And.intro @cast_le <|
  And.intro @cast_lt <|
  And.intro @List.nil_append.{0} <|
  And.intro @List.cons_append.{0} <|
  And.intro @List.append_nil.{0} <|
  @un_not) :=
  And.intro @evs_n <|
  And.intro @evs_c <|
  And.intro @evo_n <|
  And.intro @evo_s <|
  And.intro @evp_n <|
  And.intro @evp_c <|
  And.intro @resK_v <|
  And.intro @resK_p <|
  And.intro @resF_n <|
  And.intro @resF_t <|
  And.intro @resF_c <|
  And.intro @oneOf_n <|
  And.intro @oneOf_o <|
  And.intro @oneOf_m <|
  And.intro @takeF_n <|
  And.intro @takeF_c <|
  And.intro @pickF_t <|
  And.intro @pickF_f <|
  And.intro @extractF_t <|
  And.intro @cond_true.{1} <|
  And.intro @cond_false.{1} <|
  And.intro @T.puts_cons <|
  And.intro @T.puts_nil <|
  And.intro @exec_seq <|
  And.intro @exec_block <|
  And.intro @nat_beq_self <|
  And.intro @exec_region <|
  And.intro @exec_cond <|
  And.intro @exec_skip <|
  And.intro @exec_ret <|
  And.intro @exec_exit <|
  And.intro @exec_scope <|
  And.intro @runOps_cons <|
  And.intro @runOps_nil <|
  And.intro @opF_move <|
  And.intro @opF_assign <|
  And.intro @opF_ari <|
  And.intro @opF_neq <|
  And.intro @opF_eql <|
  And.intro @opF_un <|
  And.intro @opF_index <|
  And.intro @opF_indexAddr <|
  And.intro @opF_fieldAddr <|
  And.intro @opF_field <|
  And.intro @opF_build <|
  And.intro @opF_slice <|
  And.intro @opF_extract <|
  And.intro @opF_pick <|
  And.intro @opF_load <|
  And.intro @opF_alloc <|
  And.intro @opF_box <|
  And.intro @opF_buildSlice <|
  And.intro @opF_makeSlice <|
  And.intro @opF_store <|
  And.intro @opF_conv <|
  And.intro @opF_len <|
  And.intro @opF_minmax <|
  And.intro @opF_builtin <|
  And.intro @opF_call <|
  And.intro @ev_tmp <|
  And.intro @evG_some <|
  And.intro @ev_int <|
  And.intro @ev_bool <|
  And.intro @ev_str <|
  And.intro @R.ok_bind <|
  And.intro @putT_some <|
  And.intro @putT_none <|
  And.intro @T.get_set <|
  And.intro @T.get_e <|
  And.intro @binF_int <|
  And.intro @op_rem <|
  And.intro @op_quo_u32 <|
  And.intro @op_xor_u32 <|
  And.intro @op_neq <|
  And.intro @op_eql <|
  And.intro @op_lss <|
  And.intro @op_add_i64 <|
  And.intro @op_sub_u32 <|
  And.intro @op_and_u8 <|
  And.intro @op_xor_u8 <|
  And.intro @op_not_u32 <|
  And.intro @binF_shr_u32 <|
  And.intro @binF_shr_u8 <|
  And.intro @op_mul_i64 <|
  And.intro @op_quo_i64 <|
  And.intro @op_and_u32 <|
  And.intro @binF_shl_u8 <|
  And.intro @wrapF_u8 <|
  And.intro @wrapF_u32 <|
  And.intro @mod_u8 <|
  And.intro @mod_u32 <|
  And.intro @cond_val <|
  And.intro @Nat.lt_irrefl <|
  And.intro @Nat.not_lt_zero <|
  And.intro @if_true.{1} <|
  And.intro @if_false.{1} <|
  And.intro @ne_eq.{1} <|
  And.intro @not_true_eq_false <|
  And.intro @not_false_eq_true <|
  And.intro @decide_true <|
  And.intro @decide_false <|
  And.intro @Bool.false_eq_true <|
  And.intro @Bool.not_true <|
  And.intro @Bool.not_false <|
  And.intro @sub_nil <|
  And.intro @sub_seq0 <|
  And.intro @sub_seq1 <|
  And.intro @sub_cond0 <|
  And.intro @sub_cond1 <|
  And.intro @sub_block <|
  And.intro @sub_loop <|
  And.intro @sub_scope <|
  And.intro @sub_range0 <|
  And.intro @sub_range1 <|
  And.intro @Option.getD_some.{0} <|
  And.intro @at_ptr <|
  And.intro @at_slc <|
  And.intro @runOps_yes <|
  And.intro @runOps_no <|
  And.intro @exec_draw <|
  And.intro @op_sub_i64 <|
  And.intro @op_sub_neg <|
  And.intro @op_lss_neg <|
  And.intro @binF_str <|
  And.intro @str_add <|
  And.intro @str_neq <|
  And.intro @str_eql <|
  And.intro @cells_str <|
  And.intro @cells_int <|
  And.intro @cells_agg <|
  And.intro @bool_eql <|
  And.intro @bool_neq <|
  And.intro @op_lssI <|
  And.intro @bne_self_eq_false.{0} <|
  And.intro @beq_self_eq_true.{0} <|
  And.intro @eq_self.{1} <|
  And.intro @cells_slc <|
  And.intro @cells_func <|
  And.intro @builtin_append <|
  And.intro @ev_nilslice <|
  And.intro @ev_nilfunc <|
  And.intro @ev_nilptr <|
  And.intro @ev_nilmap <|
  And.intro @opF_makeFunc <|
  And.intro @opF_callv <|
  And.intro @callV_func <|
  And.intro @callV_yield <|
  And.intro @op_leq <|
  And.intro @op_gtr <|
  And.intro @op_geq <|
  And.intro @cast_le <|
  And.intro @cast_lt <|
  And.intro @List.nil_append.{0} <|
  And.intro @List.cons_append.{0} <|
  And.intro @List.append_nil.{0} <|
  @un_not
/-- The equations of a region whose order is open. -/
theorem Fq : type_of% (
  And.intro @runD_end <|
  And.intro @runD_P <|
  And.intro @runD_Rd <|
  And.intro @runD_Al <|
  And.intro @runD_L <|
  And.intro @runD_gno <|
  And.intro @runD_gP <|
  And.intro @runD_gRd <|
  And.intro @runD_gAl <|
  And.intro @runD_gL <|
  And.intro @addB_nil <|
  And.intro @addB_cons <|
  And.intro @sameV_str <|
  And.intro @selF_nil <|
  And.intro @selF_yes <|
  And.intro @selF_no <|
  And.intro @selR_nil <|
  And.intro @selR_yes <|
  And.intro @selR_no <|
  And.intro @rereadM_nil <|
  And.intro @rereadM_cons <|
  And.intro @rereadR_nil <|
  And.intro @rereadR_cons <|
  And.intro @reread_load <|
  And.intro @rereadV_eq <|
  And.intro @rOp_load <|
  And.intro @hide_nil <|
  And.intro @backF_nil <|
  And.intro @List.map_nil.{0,0} <|
  And.intro @Bool.and_true <|
  And.intro @Bool.true_and <|
  @Bool.and_self) :=
  And.intro @runD_end <|
  And.intro @runD_P <|
  And.intro @runD_Rd <|
  And.intro @runD_Al <|
  And.intro @runD_L <|
  And.intro @runD_gno <|
  And.intro @runD_gP <|
  And.intro @runD_gRd <|
  And.intro @runD_gAl <|
  And.intro @runD_gL <|
  And.intro @addB_nil <|
  And.intro @addB_cons <|
  And.intro @sameV_str <|
  And.intro @selF_nil <|
  And.intro @selF_yes <|
  And.intro @selF_no <|
  And.intro @selR_nil <|
  And.intro @selR_yes <|
  And.intro @selR_no <|
  And.intro @rereadM_nil <|
  And.intro @rereadM_cons <|
  And.intro @rereadR_nil <|
  And.intro @rereadR_cons <|
  And.intro @reread_load <|
  And.intro @rereadV_eq <|
  And.intro @rOp_load <|
  And.intro @hide_nil <|
  And.intro @backF_nil <|
  And.intro @List.map_nil.{0,0} <|
  And.intro @Bool.and_true <|
  And.intro @Bool.true_and <|
  @Bool.and_self
/-- What is wanted. -/
theorem Wq : type_of% (
  And.intro @wantF_guard <|
  And.intro @wantD_some <|
  And.intro @dstAt_zero <|
  And.intro @dstAt_succ <|
  And.intro @T.get_set <|
  And.intro @T.get_e <|
  And.intro @if_true.{1} <|
  And.intro @if_false.{1} <|
  And.intro @wantV_bool <|
  And.intro @wantV_unit <|
  And.intro @cond_true.{1} <|
  And.intro @cond_false.{1} <|
  And.intro @Bool.not_true <|
  And.intro @Bool.not_false <|
  And.intro @unitV_q <|
  @List.toList_toArray.{0}) :=
  And.intro @wantF_guard <|
  And.intro @wantD_some <|
  And.intro @dstAt_zero <|
  And.intro @dstAt_succ <|
  And.intro @T.get_set <|
  And.intro @T.get_e <|
  And.intro @if_true.{1} <|
  And.intro @if_false.{1} <|
  And.intro @wantV_bool <|
  And.intro @wantV_unit <|
  And.intro @cond_true.{1} <|
  And.intro @cond_false.{1} <|
  And.intro @Bool.not_true <|
  And.intro @Bool.not_false <|
  And.intro @unitV_q <|
  @List.toList_toArray.{0}
end Go.Am
