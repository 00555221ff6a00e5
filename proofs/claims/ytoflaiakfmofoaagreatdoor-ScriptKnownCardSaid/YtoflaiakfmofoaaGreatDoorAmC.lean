/-
  The abstract machine AM: a machine for programs of the model that draws nothing and moves no block; and the proof that what it answers the model answers.
  Part C: no conditions.
-/
import Derived.Test.YtoflaiakfmofoaaGreatDoorAmB

/-
  The abstract machine AM, part 15: operations that make a block.
-/
namespace Go.Am
variable {tb : Tab} (ok : TabOk tb) {ι : Inj}

/-- What is shown of an operation that makes a block: run anywhere it makes just one, which stands for the abstract one. -/
def Made (P : Program) (ι : Inj) (ob : Ob) (way : Way) (s : Sem Value) : Prop :=
  ∀ w : World, ∃ (w' : World) (v' : Value) (o' : Obj) (sz : Nat), s.run P w = .ok v' w' ∧ Wu w w' w.heap.size o' ∧ w'.heap.size = w.heap.size + 1 ∧
    ∀ ι' b, InjLe ι ι' → ι' b = some ⟨w.heap.size, 0, sz⟩ → OR ι' ob ⟨w.heap.size, 0, sz⟩ o' ∧ VR ι' (way.at b) v'

theorem Wu_push (w : World) (o : Obj) (d : Nat) (hd : w.drawn ≤ d) : Wu w { w with heap := w.heap.push o, drawn := d } w.heap.size o :=
  ⟨by simp, by simp, fun k hk _ => by simp [Array.getElem?_push, Nat.ne_of_lt hk], rfl, rfl, rfl, hd⟩

theorem rowOb_OR {ι : Inj} {t : TypeId} {l : List Value} {cs : Array Value} {b : Nat} (h : VRs ι l cs.toList) : OR ι (rowOb t l) ⟨b, 0, l.length⟩ (.cells cs t) := by
  have hl := h.length
  refine ⟨cs, (0, 0), rfl, by simpa using hl, fun i v hv => ?_, rfl, rfl, rfl⟩
  rw [T.get_puts] at hv
  by_cases hi : 0 ≤ i ∧ i < 0 + l.length
  · rw [if_pos hi] at hv
    obtain ⟨v', e, r⟩ := h.get _ _ hv
    exact ⟨v', by rw [← Array.getElem?_toList]; simpa using e, r⟩
  · rw [if_neg hi, T.get_e] at hv; cases hv

theorem newVar_made {P : Program} {ι : Inj} {t : TypeId} {v v' : Value} (h : VR ι v v') : Made P ι (rowOb t v.cells.toList) .ptr (do pure (.pointer (some (← newVar t v')))) := by
  intro w
  refine ⟨{ w with heap := w.heap.push (.cells v'.cells t), drawn := w.drawn }, .pointer (some ⟨w.heap.size, 0, none⟩), .cells v'.cells t, v.cells.toList.length, ?_, Wu_push w _ _ (by simp), by simp, fun ι' b hi hb => ⟨rowOb_OR (h.mono hi).cells, ?_⟩⟩
  · simp only [newVar, newRow, Sem.run_bind, run_newObj, Result.andThen_ok, Sem.run_pure]
  · exact VR.ptr (o := 0) hb

theorem repF_length (zero : List Value) : ∀ n, (repF zero n).length = n * zero.length
  | 0 => by simp [repF]
  | n + 1 => by simp [repF, repF_length zero n, Nat.add_mul]; omega

theorem repF_get (zero : List Value) (hz : 0 < zero.length) : ∀ (n i : Nat), i < n * zero.length → (repF zero n)[i]? = zero[i % zero.length]?
  | 0, i, h => by simp at h
  | n + 1, i, h => by
    rw [Nat.add_mul, Nat.one_mul] at h
    simp only [repF]
    rcases Nat.lt_or_ge i zero.length with h1 | h1
    · rw [List.getElem?_append_left h1, Nat.mod_eq_of_lt h1]
    · rw [List.getElem?_append_right h1, repF_get zero hz n _ (by omega), Nat.mod_eq_sub_mod h1]

/-- The cells of a row of zero values. -/
theorem rep_VRs {zero : List Value} {zs : Array Value} (h : VRs ι zero zs.toList) (n : Nat) : VRs ι (repF zero n) ((Array.range (n * zero.length)).map (zs[· % zs.size]!)).toList := by
  have hl : zs.size = zero.length := by simpa using h.length
  refine VRs.of_get (by simp [repF_length]) fun i v v' hv hv' => ?_
  have hi : i < n * zero.length := by
    rcases Nat.lt_or_ge i (n * zero.length) with h1 | h1
    · exact h1
    · rw [List.getElem?_eq_none (by rw [repF_length]; exact h1)] at hv; cases hv
  have hz : 0 < zero.length := by
    rcases Nat.eq_zero_or_pos zero.length with h1 | h1
    · rw [h1] at hi; simp at hi
    · exact h1
  rw [repF_get zero hz n i hi] at hv
  obtain ⟨u, e, r⟩ := h.get _ _ hv
  have hm : i % zero.length < zs.size := by rw [hl]; exact Nat.mod_lt _ hz
  have : v' = u := by
    simp only [Array.toList_map, Array.toList_range, List.getElem?_map, List.getElem?_range hi, Option.map_some, Option.some.injEq] at hv'
    rw [← hv', hl, getElem!_pos zs _ hm]
    rw [Array.getElem?_toList, Array.getElem?_eq_getElem hm] at e
    simpa using e
  rw [this]; exact r

include ok in
theorem zcellsF_spec {t : TypeId} {n : Nat} {z : List Value} (h : zcellsF tb t = .ok (n, z)) : n = z.length ∧ (∀ w : World, (sizeOf t).run tb.P w = .ok n w) ∧ ∃ zv : Value, (∀ w : World, (zeroValue t).run tb.P w = .ok zv w) ∧ zv.cells.toList = z ∧ ∀ ι, VRs ι z zv.cells.toList := by
  unfold zcellsF at h
  obtain ⟨zv, h1, h2⟩ := R.bind_ok h
  obtain ⟨m, h3, h4⟩ := R.bind_ok h2
  cases hb : Nat.beq zv.cells.toList.length m with
  | false => rw [hb] at h4; cases h4
  | true =>
    rw [hb] at h4; simp only [cond_true, R.ok.injEq, Prod.mk.injEq] at h4
    obtain ⟨rfl, rfl⟩ := h4
    obtain ⟨_, _, _, hz⟩ := zeroF_spec h1
    exact ⟨(beq_true hb).symm, sizeF_run ok h3, zv, zeroF_run ok h1, rfl, fun ι => (hz ι).cells⟩

include ok in
theorem buildSliceF_made {t : TypeId} {len : Nat} {parts parts' : List (Nat × Value)} {ob : Ob} {way : Way} (h : buildSliceF tb t len parts = .ok (ob, way)) (hp : VRp ι parts parts') :
    Made tb.P ι ob way (Instr.buildSlice t len parts'.toArray) := by
  unfold buildSliceF at h
  split at h
  · rename_i elem hd
    obtain ⟨⟨n, zero⟩, h1, h2⟩ := R.bind_ok h
    obtain ⟨hn, hsz, zv, hzr, hzc, hzv⟩ := zcellsF_spec ok h1
    subst hn
    simp only at h2
    cases hb : Nat.ble (len * zero.length) 16777216 with
    | false => rw [hb] at h2; cases h2
    | true =>
      rw [hb] at h2; simp only [cond_true] at h2
      have hle := ble_true hb
      split at h2
      · rename_i cells hf
        simp only [R.ok.injEq, Prod.mk.injEq] at h2
        obtain ⟨rfl, rfl⟩ := h2
        intro w
        have hrep := rep_VRs (ι := ι) (hzv ι) len
        obtain ⟨r', e, hr⟩ := fillF_sound (pl' := fun i => some (i * zero.length, zero.length)) (fun i x hx => hx) hf hrep hp
        refine ⟨{ w with heap := w.heap.push (.cells r' elem), drawn := w.drawn }, .slice (some ⟨w.heap.size, 0, none⟩) len len, .cells r' elem, cells.length, ?_, Wu_push w _ _ (by simp), by simp, fun ι' b hi hbb => ⟨rowOb_OR (hr.mono hi), ?_⟩⟩
        · have hc0 : ∀ f : Nat → Value, len * zero.length = 0 → (Array.range (len * zero.length)).map f = (Array.range (len * zero.length)).map (zv.cells[· % zv.cells.size]!) := by
            intro f h0
            rw [h0]; simp
          simp only [Instr.buildSlice, Sem.run_bind, und_run ok hd, hsz, Result.andThen_ok, if_neg (by omega : ¬ len * zero.length > 2 ^ 24)]
          by_cases h0 : len * zero.length = 0
          · simp only [if_pos h0, Sem.run_bind, Sem.run_pure, Result.andThen_ok, hc0 _ h0, e, newRow, run_newObj]
          · simp only [if_neg h0, Sem.run_bind, hzr, Sem.run_pure, Result.andThen_ok]
            simp only [e, newRow, Sem.run_bind, run_newObj, Result.andThen_ok, Sem.run_pure]
        · have := VR.sl (ι := ι') (b := b) (o := 0) (len := len) (k := 2 * len) hbb (capX_two _)
          rw [capN_two] at this
          exact this
      · cases h2
  · cases h

include ok in
theorem makeSliceF_made {t : TypeId} {l l' c c' : Value} {ob : Ob} {way : Way} (h : makeSliceF tb t l c = .ok (ob, way)) (hl : VR ι l l') (hc : VR ι c c') : Made tb.P ι ob way (Instr.makeSlice t l' c') := by
  unfold makeSliceF at h
  split at h
  · rename_i elem hd
    obtain ⟨ln, h1, h2⟩ := R.bind_ok h
    obtain ⟨cn, h3, h4⟩ := R.bind_ok h2
    obtain ⟨⟨n, zero⟩, h5, h6⟩ := R.bind_ok h4
    obtain ⟨k1, rfl, rfl⟩ := natV_sound h1 hl
    obtain ⟨k2, rfl, rfl⟩ := natV_sound h3 hc
    obtain ⟨hn, hsz, zv, hzr, hzc, hzv⟩ := zcellsF_spec ok h5
    subst hn
    simp only at h6
    split at h6
    · rename_i i hi
      cases hb : (Nat.ble ln cn && Nat.ble cn 1048576 && Nat.ble i.bytes 1048576) with
      | false => rw [hb] at h6; cases h6
      | true =>
        rw [hb] at h6; simp only [cond_true, R.ok.injEq, Prod.mk.injEq] at h6
        obtain ⟨rfl, rfl⟩ := h6
        simp only [Bool.and_eq_true] at hb
        have b1 := ble_true hb.1.1
        have b2 := ble_true hb.1.2
        have b3 := ble_true hb.2
        intro w
        have hrep := rep_VRs (ι := ι) (hzv ι) cn
        have w1 : IntKind.i64.wrap (Int.ofNat ln) = Int.ofNat ln := by
          refine wrap_in ?_ ?_ <;> simp only [IntKind.min, IntKind.max, IntKind.signed, IntKind.bits, if_true, Int.ofNat_eq_natCast] <;> omega
        have w2 : IntKind.i64.wrap (Int.ofNat cn) = Int.ofNat cn := by
          refine wrap_in ?_ ?_ <;> simp only [IntKind.min, IntKind.max, IntKind.signed, IntKind.bits, if_true, Int.ofNat_eq_natCast] <;> omega
        have hprod : i.bytes * cn ≤ 1048576 * 1048576 := Nat.mul_le_mul b3 b2
        have t1 : (decide (Int.ofNat cn < 0) || decide ((i.bytes : Int) * Int.ofNat cn > 2 ^ 48) || decide (Int.ofNat ln < 0) || decide (Int.ofNat ln > Int.ofNat cn)) = false := by
          have : (i.bytes : Int) * (cn : Int) = ((i.bytes * cn : Nat) : Int) := by push_cast; rfl
          simp only [Int.ofNat_eq_natCast, Bool.or_eq_false_iff, decide_eq_false_iff_not, this]
          omega
        have tn : ∀ k : Nat, (Int.ofNat k).toNat = k := fun _ => rfl
        refine ⟨{ w with heap := w.heap.push (.cells ((Array.range (cn * zero.length)).map (zv.cells[· % zv.cells.size]!)) elem), drawn := w.drawn }, .slice (some ⟨w.heap.size, 0, none⟩) ln cn, _, (repF zero cn).length, ?_, Wu_push w _ _ (by simp), by simp,
          fun ι' b hi hbb => ⟨rowOb_OR (hrep.mono hi), ?_⟩⟩
        · have hc0 : ∀ f : Nat → Value, cn * zero.length = 0 → (Array.range (cn * zero.length)).map f = (Array.range (cn * zero.length)).map (zv.cells[· % zv.cells.size]!) := by
            intro f h0
            rw [h0]; simp
          simp only [Instr.makeSlice, Sem.run_bind, und_run ok hd, Result.andThen_ok, asInt, asIntOf, Sem.run_pure, info_run ok hi, w1, w2, t1, Bool.false_eq_true, if_false, tn, run_askRoom, hsz]
          by_cases h0 : cn * zero.length = 0
          · simp only [if_pos h0, Sem.run_bind, Sem.run_pure, Result.andThen_ok, hc0 _ h0, newRow, run_newObj]
          · simp only [if_neg h0, Sem.run_bind, hzr, Sem.run_pure, Result.andThen_ok, newRow, run_newObj]
        · have := VR.sl (ι := ι') (b := b) (o := 0) (len := ln) (k := 2 * cn) hbb (capX_two _)
          rw [capN_two] at this
          exact this
    · cases h6
  · cases h

theorem modify_concat {α : Type} (f : α → α) (x : α) : ∀ l : List α, (l ++ [x]).modify l.length f = l ++ [f x]
  | [] => rfl
  | y :: l => by
    show y :: (l ++ [x]).modify l.length f = _
    rw [modify_concat f x l]; rfl

theorem byteV_VRs (s : ByteArray) (extra : Nat) : ∀ (i : Nat) (v : Value), (s.data.toList.map byteV)[i]? = some v → ∃ v', ((s.data.map fun b => Value.int .u8 b.toNat) ++ Array.replicate extra (Value.int .u8 0))[i]? = some v' ∧ VR ι v v' := by
  intro i v h
  rw [List.getElem?_map] at h
  cases hb : s.data.toList[i]? with
  | none => rw [hb] at h; cases h
  | some b =>
    rw [hb] at h; simp only [Option.map_some, Option.some.injEq] at h; subst h
    have hi : i < s.data.size := by
      rcases Nat.lt_or_ge i s.data.size with h1 | h1
      · exact h1
      · rw [List.getElem?_eq_none (by simpa using h1)] at hb; cases hb
    refine ⟨.int .u8 (.ofNat b.toNat), ?_, .int _ _⟩
    rw [Array.getElem?_append_left (by simpa using hi), Array.getElem?_map]
    rw [Array.getElem?_toList] at hb
    rw [hb]; rfl

include ok in
theorem toBytesF_made {s d : TypeId} {x x' : Value} {ob : Ob} {way : Way} (h : toBytesF tb s d x = .ok (ob, way)) (hx : VR ι x x') : Made tb.P ι ob way (convert s d x') := by
  unfold toBytesF at h
  split at h
  · rename_i e s hs hd
    cases hx
    split at h
    · rename_i he
      cases hb : Nat.blt s.data.toList.length 4294967296 with
      | false => rw [hb] at h; cases h
      | true =>
        rw [hb] at h; simp only [cond_true, R.ok.injEq, Prod.mk.injEq] at h
        obtain ⟨rfl, rfl⟩ := h
        have hlt := blt_true hb
        intro w
        have hs' := size_data s
        let cap := (Question.appendCap s.size 0 e).cut (w.tape w.drawn (.appendCap s.size 0 e))
        have hcap : s.size ≤ cap ∧ cap < 2 ^ 63 := by
          show s.size ≤ s.size + _ % (2 ^ 63 - s.size) ∧ s.size + _ % (2 ^ 63 - s.size) < 2 ^ 63
          have : w.tape w.drawn (.appendCap s.size 0 e) % (2 ^ 63 - s.size) < 2 ^ 63 - s.size := Nat.mod_lt _ (by omega)
          omega
        let cs := (s.data.map fun b => Value.int .u8 b.toNat) ++ Array.replicate (cap - s.size) (Value.int .u8 0)
        have hcs : cs.size = cap := by
          simp only [cs, Array.size_append, Array.size_map, Array.size_replicate]
          have : s.data.size = s.size := rfl
          omega
        refine ⟨{ w with heap := w.heap.push (.cells cs e (cap, cap + 1)), drawn := w.drawn + 1 }, .slice (some ⟨w.heap.size, 0, none⟩) s.size cap, .cells cs e (cap, cap + 1), cap, ?_, Wu_push w _ _ (by simp), by simp, fun ι' b hi hbb => ⟨⟨cs, (cap, cap + 1), rfl, hcs, fun i v hv => ?_, fun i hi => by simp only at hi ⊢; omega⟩, ?_⟩⟩
        · have hfr : (freeze ⟨w.heap.size, cs.size, none⟩ 1).run tb.P { w with heap := w.heap.push (.cells cs e), drawn := w.drawn + 1 } = .ok () { w with heap := w.heap.push (.cells cs e (cap, cap + 1)), drawn := w.drawn + 1 } := by
            rw [run_freeze]
            simp only [World.freeze, Nat.one_ne_zero, if_false, hcs]
            congr 2
            apply Array.ext'
            rw [Array.toList_modify, Array.toList_push, Array.toList_push]
            have := modify_concat (fun o => match o with
              | .cells c elem (lo, hi) => Obj.cells c elem (if lo == hi then (cap, cap + 1) else (min lo cap, max hi (cap + 1)))
              | o => o) (Obj.cells cs e) w.heap.toList
            exact this
          have hsh : ({ w with heap := w.heap.push (Obj.cells cs e), drawn := w.drawn + 1 } : World).shape? w.heap.size = some (e, cs.size) := by
            simp [World.shape?]
          simp only [convert, Sem.run_bind, und_run ok hs, und_run ok hd, und_run ok he, Result.andThen_ok, Conv.stringToBytes, run_choose, Question.forced, Bool.false_eq_true, if_false, newRow, run_newObj, Sem.run_pure]
          have hm : (markStringish ⟨w.heap.size, 0, none⟩).run tb.P { w with heap := w.heap.push (.cells cs e), drawn := w.drawn + 1 } = .ok () { w with heap := w.heap.push (.cells cs e (cap, cap + 1)), drawn := w.drawn + 1 } := by
            simp only [markStringish, Sem.run_bind, run_shape, hsh, Result.andThen_ok]
            exact hfr
          refine (congrArg (fun r => Result.andThen r _) hm).trans ?_
          rfl
        · rw [T.get_puts] at hv
          by_cases hi : 0 ≤ i ∧ i < 0 + (s.data.toList.map byteV).length
          · rw [if_pos hi] at hv
            obtain ⟨v', e1, r⟩ := byteV_VRs (ι := ι') s (cap - s.size) _ _ hv
            exact ⟨v', by simpa using e1, r⟩
          · rw [if_neg hi, T.get_e] at hv; cases hv
        · have he1 : (1 : Nat) < 65536 := by omega
          have := VR.slX (ι := ι') (b := b) (o := 0) (o' := 0) (len := s.data.toList.length) (k := mkX s.data.toList.length 1) (cap' := cap) hbb (capX_mkX _ _) (by rw [capN_mkX he1]; omega) (by rw [capE_mkX he1]; simp)
            (fun _ => rfl) hcap.2 (by rw [capN_mkX he1]; omega)
          rw [← hs'] at this
          rw [hs'] at this ⊢
          exact this
    · cases h
  · cases h

include ok in
theorem makeMapF_made {t : TypeId} {r r' : Option Value} {ob : Ob} {way : Way} (h : makeMapF tb t r = .ok (ob, way)) (hr : VRo ι r r') : Made tb.P ι ob way (Instr.makeMap t r') := by
  have fin : ∀ w : World, ∃ (w' : World) (v' : Value) (o' : Obj) (sz : Nat), (do pure (Value.map (some (← newObj (.map #[] 0)))) : Sem Value).run tb.P w = .ok v' w' ∧ Wu w w' w.heap.size o' ∧ w'.heap.size = w.heap.size + 1 ∧
      ∀ ι' b, InjLe ι ι' → ι' b = some ⟨w.heap.size, 0, sz⟩ → OR ι' (.map [] 0) ⟨w.heap.size, 0, sz⟩ o' ∧ VR ι' (Way.mp.at b) v' := by
    intro w
    refine ⟨{ w with heap := w.heap.push (.map #[] 0), drawn := w.drawn }, .map (some w.heap.size), .map #[] 0, 0, ?_, Wu_push w _ _ (by simp), by simp, fun ι' b hi hb => ⟨⟨rfl, #[], rfl, .nil⟩, VR.map hb⟩⟩
    simp only [Sem.run_bind, run_newObj, Result.andThen_ok, Sem.run_pure]
  unfold makeMapF at h
  cases hr with
  | none =>
    simp only [R.ok.injEq, Prod.mk.injEq] at h
    obtain ⟨rfl, rfl⟩ := h
    exact fin
  | some hv =>
    simp only at h
    split at h
    · rename_i k e kd n hd
      simp only [R.ok.injEq, Prod.mk.injEq] at h
      obtain ⟨rfl, rfl⟩ := h
      cases hv
      intro w
      obtain ⟨w', v', o', sz, h1, h2⟩ := fin w
      refine ⟨w', v', o', sz, ?_, h2⟩
      simp only [Instr.makeMap, Sem.run_bind, und_run ok hd, Result.andThen_ok, asInt, asIntOf, Sem.run_pure]
      simpa only [Sem.run_bind, Sem.run_pure] using h1
    · cases h

include ok in
theorem aOp_made {n : Nat} {τ : T Value} {a : Act} {o : Oper} {ob : Ob} {way : Way} (h : aOp tb τ o.op = .ok (ob, way)) (ht : TR ι n τ a.tmps) :
    ∃ s, Made tb.P ι ob way s ∧ execOp a.eval o = (do pure (Next.value (← s))) := by
  unfold aOp at h
  split at h <;> rename_i hop <;> simp only [execOp, hop]
  · rename_i e
    obtain ⟨z, hz, h1⟩ := R.bind_ok h
    simp only [R.ok.injEq, Prod.mk.injEq] at h1
    obtain ⟨rfl, rfl⟩ := h1
    obtain ⟨_, _, _, hzv⟩ := zeroF_spec hz
    refine ⟨_, ?_, rfl⟩
    intro w
    obtain ⟨w', v', o', sz, h1, h2⟩ := newVar_made (P := tb.P) (t := e) (hzv ι) w
    refine ⟨w', v', o', sz, ?_, h2⟩
    simp only [Instr.alloc, Sem.run_bind, zeroF_run ok hz, Result.andThen_ok]
    simpa only [Sem.run_bind] using h1
  · obtain ⟨x, h1, h2⟩ := R.bind_ok h
    simp only [R.ok.injEq, Prod.mk.injEq] at h2
    obtain ⟨rfl, rfl⟩ := h2
    exact ⟨_, newVar_made (ev_sound h1 ht), rfl⟩
  · rename_i ty len ps
    obtain ⟨vs, h1, h2⟩ := R.bind_ok h
    have := buildSliceF_made ok h2 (evp_sound h1 ht)
    refine ⟨_, this, ?_⟩
    have e : (ps.toList.map fun (i, x) => (i, a.eval x)).toArray = ps.map fun (i, x) => (i, a.eval x) := by
      apply Array.ext'; simp
    rw [e]
  · obtain ⟨r, h1, h2⟩ := R.bind_ok h
    exact ⟨_, makeMapF_made ok h2 (evo_sound h1 ht), rfl⟩
  · obtain ⟨l, h1, h2⟩ := R.bind_ok h
    obtain ⟨c, h3, h4⟩ := R.bind_ok h2
    exact ⟨_, makeSliceF_made ok h4 (ev_sound h1 ht) (ev_sound h3 ht), rfl⟩
  · obtain ⟨x, h1, h2⟩ := R.bind_ok h
    exact ⟨_, toBytesF_made ok h2 (ev_sound h1 ht), rfl⟩
  · cases h

theorem R.of_cond {α : Type} {b : Bool} {x : R α} {k : Nat} {r : α} (h : (bif b then x else .no k) = .ok r) : x = .ok r := by
  cases b with
  | false => cases h
  | true => exact h
/-- What a maker lays is no package-level variable. -/
theorem aOp_gl {τ : T Value} {o : Op} {ob : Ob} {way : Way} (h : aOp tb τ o = .ok (ob, way)) : ∀ t k c, ob ≠ .cells t .row (GB k) c := by
  intro t k c he
  subst he
  unfold aOp at h
  split at h
  · obtain ⟨_, _, h2⟩ := R.bind_ok h
    simp only [R.ok.injEq, Prod.mk.injEq, rowOb] at h2
    cases h2.1
  · obtain ⟨_, _, h2⟩ := R.bind_ok h
    simp only [R.ok.injEq, Prod.mk.injEq, rowOb] at h2
    cases h2.1
  · obtain ⟨_, _, h2⟩ := R.bind_ok h
    unfold buildSliceF at h2
    split at h2
    · obtain ⟨⟨_, _⟩, _, h3⟩ := R.bind_ok h2
      have h3 := R.of_cond h3
      split at h3
      · simp only [R.ok.injEq, Prod.mk.injEq, rowOb] at h3
        cases h3.1
      · cases h3
    · cases h2
  · obtain ⟨_, _, h2⟩ := R.bind_ok h
    unfold makeMapF at h2
    split at h2
    · simp only [R.ok.injEq, Prod.mk.injEq] at h2
      cases h2.1
    · split at h2
      · simp only [R.ok.injEq, Prod.mk.injEq] at h2
        cases h2.1
      · cases h2
  · obtain ⟨_, _, h2⟩ := R.bind_ok h
    obtain ⟨_, _, h3⟩ := R.bind_ok h2
    unfold makeSliceF at h3
    split at h3
    · obtain ⟨_, _, h4⟩ := R.bind_ok h3
      obtain ⟨_, _, h5⟩ := R.bind_ok h4
      obtain ⟨⟨_, _⟩, _, h6⟩ := R.bind_ok h5
      simp only at h6
      split at h6
      · have h6 := R.of_cond h6
        simp only [R.ok.injEq, Prod.mk.injEq, rowOb] at h6
        cases h6.1
      · cases h6
    · cases h3
  · obtain ⟨_, _, h2⟩ := R.bind_ok h
    unfold toBytesF at h2
    split at h2
    · split at h2
      · have h2 := R.of_cond h2
        simp only [R.ok.injEq, Prod.mk.injEq] at h2
        cases h2.1
      · cases h2
    · cases h2
  · cases h

include ok in
theorem aOp_sound {A : Mem} {w : World} (hr : Rel ι A w) {n : Nat} {τ : T Value} {a : Act} {o : Oper} {ob : Ob} {way : Way} (h : aOp tb τ o.op = .ok (ob, way)) (ht : TR ι n τ a.tmps) (hf : ι A.next = none) :
    ∃ ι' w' v', (execOp a.eval o).run tb.P w = .ok (.value v') w' ∧ VR ι' (way.at A.next) v' ∧ Rel ι' (A.alloc ob) w' ∧ Stp ι A w ι' (A.alloc ob) w' := by
  obtain ⟨s, hm, he⟩ := aOp_made ok h ht
  obtain ⟨w', v', o', sz, h1, h2, h3, h4⟩ := hm w
  obtain ⟨ι', e, hrel, hst⟩ := Rel.come (ob := ob) hr hf (aOp_gl h) h2 h3 (fun ι' hi hb => (h4 ι' A.next hi hb).1)
  have hle : InjLe ι ι' := hst.le fun b h1 h2 => by
    rw [next_alloc] at h2
    have : b = A.next := by omega
    rw [this]; exact hf
  refine ⟨ι', w', v', ?_, (h4 ι' A.next hle e).2, hrel, hst⟩
  rw [he]
  simp only [Sem.run_bind, h1, Result.andThen_ok, Sem.run_pure]

end Go.Am

/-
  The abstract machine AM, part 16: operations that write.
-/
namespace Go.Am
variable {tb : Tab} (ok : TabOk tb) {ι : Inj}

theorem oneCell_eq (v : Value) : v.oneCell' = oneCell v := by cases v <;> rfl

theorem setCell_Wu {w : World} {b o : Nat} {v : Value} {cs : Array Value} {t : TypeId} {fr : Nat × Nat} (h : w.heap[b]? = some (.cells cs t fr)) :
    Wu w (w.setCell ⟨b, o, none⟩ v) b (.cells (cs.setIfInBounds o v) t fr) ∧ (w.setCell ⟨b, o, none⟩ v).heap.size = w.heap.size := by
  refine ⟨⟨?_, ?_, fun k hk hne => ?_, rfl, rfl, rfl, Nat.le_refl _⟩, ?_⟩
  · simp [World.setCell]
  · simp [World.setCell, Array.getElem?_modify, h]
  · simp [World.setCell, Array.getElem?_modify, Ne.symm hne]
  · simp [World.setCell]

theorem Wu.trans {w w1 w2 : World} {c : Nat} {o1 o2 : Obj} (h : Wu w w1 c o1) (hs : w1.heap.size = w.heap.size) (k : Wu w1 w2 c o2) : Wu w w2 c o2 :=
  ⟨Nat.le_trans h.size k.size, k.at_, fun x hx hne => (k.ne x (by omega) hne).trans (h.ne x hx hne), k.os.trans h.os, k.tape.trans h.tape, k.output.trans h.output, Nat.le_trans h.drawn k.drawn⟩

/-- Cells stored one behind the other. -/
theorem storeCells_run (P : Program) {b : Nat} {t : TypeId} {fr : Nat × Nat} : ∀ (vs : List Value) (w : World) (o i : Nat) (cs : Array Value), w.heap[b]? = some (.cells cs t fr) →
    (∀ v ∈ vs, oneCell v = true) → (∀ j, j < vs.length → o + i + j < cs.size ∧ ¬ (fr.1 ≤ o + i + j ∧ o + i + j < fr.2)) →
    ∃ w' cs', (storeCells ⟨b, o, none⟩ vs i).run P w = .ok () w' ∧ Wu w w' b (.cells cs' t fr) ∧ w'.heap.size = w.heap.size ∧ cs'.size = cs.size ∧
      ∀ j, cs'[j]? = if o + i ≤ j ∧ j < o + i + vs.length then vs[j - (o + i)]? else cs[j]?
  | [], w, o, i, cs, h, _, _ => by
    refine ⟨w, cs, rfl, ⟨Nat.le_refl _, h, fun _ _ _ => rfl, rfl, rfl, rfl, Nat.le_refl _⟩, rfl, rfl, fun j => ?_⟩
    rw [if_neg]; simp only [List.length_nil]; omega
  | v :: vs, w, o, i, cs, h, h1, hf => by
    have hv : v.oneCell' = true := by rw [oneCell_eq]; exact h1 v (by simp)
    obtain ⟨hb, hnf⟩ := hf 0 (by simp)
    obtain ⟨hw, hsz⟩ := setCell_Wu (o := o + i) (v := v) h
    have hcell : w.cell? ⟨b, o + i, none⟩ = some cs[o + i] := by
      simp only [World.cell?, h, Option.isSome_none, Bool.false_eq_true, if_false]
      exact Array.getElem?_eq_getElem (by omega)
    have hfz : w.frozen? ⟨b, o + i, none⟩ = false := by
      simp only [World.frozen?, h]
      cases hq : (decide (fr.1 ≤ o + i) && decide (o + i < fr.2)) with
      | false => rfl
      | true => simp only [Bool.and_eq_true, decide_eq_true_eq] at hq; exact absurd hq hnf
    have hst : (store ⟨b, o + i, none⟩ v).run P w = .ok () (w.setCell ⟨b, o + i, none⟩ v) := by
      rw [run_store P w _ v .plain hv, hcell]; simp [hfz]
    obtain ⟨w', cs', r1, r2, r3, r4, r5⟩ := storeCells_run P vs (w.setCell ⟨b, o + i, none⟩ v) o (i + 1) (cs.setIfInBounds (o + i) v) hw.at_ (fun x hx => h1 x (by simp [hx]))
      (fun j hj => by
        have := hf (j + 1) (by simpa using hj)
        simp only [Array.size_setIfInBounds]
        rw [show o + (i + 1) + j = o + i + (j + 1) by omega]; exact this)
    refine ⟨w', cs', ?_, hw.trans hsz r2, by omega, by simpa using r4, fun j => ?_⟩
    · simp only [storeCells, Sem.run_bind, Addr_add_mk, hst, Result.andThen_ok]; exact r1
    · rw [r5 j]
      simp only [List.length_cons]
      by_cases hj : o + (i + 1) ≤ j ∧ j < o + (i + 1) + vs.length
      · rw [if_pos hj, if_pos (by omega)]
        rw [show j - (o + i) = (j - (o + (i + 1))) + 1 by omega]; simp
      · rw [if_neg hj]
        by_cases hj2 : j = o + i
        · subst hj2
          rw [if_pos (by omega)]
          have hb' : o + i < cs.size := hb
          simp [hb']
        · rw [if_neg (by omega), Array.getElem?_setIfInBounds_ne (Ne.symm hj2)]

theorem storesF_spec {m fz : Nat} : ∀ {vs : List Value} {i : Nat} {c c' : T Value}, storesF m fz vs i c = .ok c' →
    (∀ v ∈ vs, oneCell v = true) ∧ (vs ≠ [] → fz ≤ i) ∧ (∀ j, j < vs.length → (∃ x, c.get (i + j) = some x) ∨ i + j < m) ∧ ∀ j, c'.get j = if i ≤ j ∧ j < i + vs.length then vs[j - i]? else c.get j
  | [], i, c, c', h => by
    simp only [storesF, R.ok.injEq] at h; subst h
    refine ⟨by simp, by simp, by simp, fun j => ?_⟩
    rw [if_neg]; simp only [List.length_nil]; omega
  | v :: vs, i, c, c', h => by
    unfold storesF at h
    cases hb : (oneCell v && Nat.ble fz i) with
    | false => rw [hb] at h; cases h
    | true =>
      rw [hb] at h; simp only [cond_true] at h
      simp only [Bool.and_eq_true] at hb
      have key : ((∃ x, c.get i = some x) ∨ i < m) ∧ storesF m fz vs (Nat.succ i) (c.set i v) = .ok c' := by
        split at h
        · rename_i x hx
          exact ⟨.inl ⟨x, hx⟩, h⟩
        · cases hm : Nat.blt i m with
          | false => rw [hm] at h; cases h
          | true => rw [hm] at h; rw [Nat.blt_eq] at hm; exact ⟨.inr hm, h⟩
      clear h
      obtain ⟨hx, h⟩ := key
      · obtain ⟨h1, h2, h3, h4⟩ := storesF_spec h
        refine ⟨?_, fun _ => ble_true hb.2, fun j hj => ?_, fun j => ?_⟩
        · intro u hu
          rcases List.mem_cons.1 hu with rfl | hu
          · exact hb.1
          · exact h1 u hu
        · cases j with
          | zero => exact hx
          | succ j =>
            rw [show i + (j + 1) = Nat.succ i + j by simp only [Nat.succ_eq_add_one]; omega]
            rcases h3 j (by simpa using hj) with ⟨y, hy⟩ | hy
            case inr => exact .inr hy
            rw [T.get_set] at hy
            by_cases he : Nat.succ i + j = i
            · simp only [Nat.succ_eq_add_one] at he; omega
            · rw [if_neg he] at hy; exact .inl ⟨y, hy⟩
        · rw [h4 j]
          simp only [Nat.succ_eq_add_one, List.length_cons]
          by_cases hj : i + 1 ≤ j ∧ j < i + 1 + vs.length
          · rw [if_pos hj, if_pos (by omega), show j - i = (j - (i + 1)) + 1 by omega]; simp
          · rw [if_neg hj, T.get_set]
            by_cases hj2 : j = i
            · subst hj2; rw [if_pos rfl, if_pos (by omega)]; simp
            · rw [if_neg hj2, if_neg (by omega)]

theorem VRs.all_one : ∀ {l l' : List Value}, VRs ι l l' → (∀ v ∈ l, oneCell v = true) → ∀ v ∈ l', oneCell v = true
  | _, _, .nil, _, v, hv => by cases hv
  | _, _, .cons h ht, h1, v, hv => by
    rcases List.mem_cons.1 hv with rfl | hv
    · exact h.one (h1 _ (by simp))
    · exact ht.all_one (fun x hx => h1 x (by simp [hx])) v hv

/-- Unfrozen: a place from 'fz' on, within the block. -/
theorem unfrozen {x : Kd} {fz : Nat} {l : Loc} {fr : Nat × Nat} (h : match x with
      | .var n => l.sh = 0 ∧ l.sz = n ∧ fr = (0, 0)
      | .row => fr.2 ≤ l.sh + fz
      | .mark => ∀ i, i < l.sz → ¬ (fr.1 ≤ i ∧ i < fr.2)
      | .room n => fr.2 ≤ l.sh + fz ∧ l.sh + n ≤ l.sz) {i : Nat} (hi : fz ≤ i) (hz : i + l.sh < l.sz) : ¬ (fr.1 ≤ i + l.sh ∧ i + l.sh < fr.2) := by
  cases x with
  | var n => obtain ⟨_, _, rfl⟩ := h; simp
  | row => simp only at h; omega
  | mark => exact h _ hz
  | room n => simp only at h; omega

theorem storeAt_sound {A A' : Mem} {w : World} (hr : Rel ι A w) {b o : Nat} {l : Loc} (hl : ι b = some l) {vs vs' : List Value} (h : storeAtF A ⟨b, o, none⟩ vs = .ok A') (hv : VRs ι vs vs') (P : Program) :
    ∃ w', (storeCells ⟨l.blk, o + l.sh, none⟩ vs').run P w = .ok () w' ∧ Rel ι A' w' ∧ Stp ι A w ι A' w' := by
  unfold storeAtF at h
  split at h
  · simp only [R.ok.injEq] at h; subst h
    cases hv
    exact ⟨w, rfl, hr, Stp.refl ι A w⟩
  · rename_i hne
    split at h
    · rename_i t x fz c _ hg
      obtain ⟨c', h1, h2⟩ := R.bind_ok h
      simp only [R.ok.injEq] at h2; subst h2
      simp only at h1 hg
      obtain ⟨o1, hw, cs, fr, rfl, hcs, hcell, hfr⟩ := hr.obs _ _ _ hg rfl hl
      obtain ⟨g1, g2, g3, g4⟩ := storesF_spec h1
      have hlen := hv.length
      have hin : ∀ j, j < vs.length → o + j + l.sh < cs.size := by
        intro j hj
        rcases g3 j hj with ⟨y, hy⟩ | hy
        case inr =>
          cases x with
          | room n =>
            simp only at hfr
            have hy : o + j < n := hy
            omega
          | _ => exact absurd hy (Nat.not_lt_zero _)
        obtain ⟨y', e, _⟩ := hcell _ _ hy
        rcases Nat.lt_or_ge (o + j + l.sh) cs.size with h | h
        · exact h
        · rw [Array.getElem?_eq_none h] at e; cases e
      obtain ⟨w', cs', r1, r2, r3, r4, r5⟩ := storeCells_run P vs' w (o + l.sh) 0 cs hw (hv.all_one g1) (fun j hj => by
        have hb := hin j (by omega)
        rw [show o + l.sh + 0 + j = o + j + l.sh by omega]
        exact ⟨hb, unfrozen hfr (by have := g2 hne; omega) (by omega)⟩)
      refine ⟨w', r1, ?_⟩
      refine hr.turn (ob := .cells t x fz c') hg rfl hl (hgl := fun _ _ _ h => by cases h; exact ⟨_, _, rfl⟩) (hns := not_still hg fun t2 fz2 c2 e => by cases e; exact .inr (by have h1 := g2 hne; have h2 := hin 0 (by cases vs with | nil => exact absurd rfl hne | cons _ _ => simp); omega)) r2 r3 ⟨cs', fr, rfl, by omega, fun i v hi => ?_, hfr⟩
      rw [g4 i] at hi
      rw [r5]
      by_cases hii : o ≤ i ∧ i < o + vs.length
      · rw [if_pos hii] at hi
        obtain ⟨v', e, r⟩ := hv.get _ _ hi
        refine ⟨v', ?_, r⟩
        rw [if_pos (by omega), show i + l.sh - (o + l.sh + 0) = i - o by omega]; exact e
      · rw [if_neg hii] at hi
        obtain ⟨v', e, r⟩ := hcell _ _ hi
        refine ⟨v', ?_, r⟩
        rw [if_neg (by omega)]; exact e
    · cases h

include ok in
theorem storeF_sound {A A' : Mem} {w : World} (hr : Rel ι A w) {t : TypeId} {x x' v v' : Value} (h : storeF tb A t x v = .ok A') (hx : VR ι x x') (hv : VR ι v v') :
    ∃ w', (Instr.storeAt t x' v').run tb.P w = .ok () w' ∧ Rel ι A' w' ∧ Stp ι A w ι A' w' := by
  unfold storeF at h
  split at h
  · cases hx with
    | ptr hl =>
      obtain ⟨n, h1, h2⟩ := R.bind_ok h
      cases hb : Nat.beq v.cells.toList.length n with
      | false => rw [hb] at h2; cases h2
      | true =>
        rw [hb] at h2; simp only [cond_true] at h2
        have hn := beq_true hb
        obtain ⟨w', e, r⟩ := storeAt_sound hr hl h2 hv.cells tb.P
        refine ⟨w', ?_, r⟩
        have hlen := hv.cells.length
        have hsz : ¬ (v'.cells.size ≠ n) := by simp only [Array.length_toList] at hlen hn; omega
        simp only [Instr.storeAt, Instr.sureAddr, storeVar, Sem.run_bind, Sem.run_pure, Result.andThen_ok, sizeF_run ok h1, if_neg hsz]
        exact e
  · cases h

end Go.Am

/-
  The abstract machine AM, part 17: append, copy.
-/
namespace Go.Am
variable {tb : Tab} (ok : TabOk tb) {ι : Inj}

/-- A block goes on as another one, in the same place of the world. -/
theorem Rel.move {A : Mem} {w w' : World} {b : Nat} {o ob : Ob} {l l2 : Loc} {o' : Obj} (h : Rel ι A w) (hg : A.get b = some o) (ha : alive o = true) (hl : ι b = some l) (hns : ¬ Still A b l) (hf : ι A.next = none) (hgl : ∀ t k c, ob ≠ .cells t .row (GB k) c)
    (hw : Wu w w' l.blk o') (hs : w'.heap.size = w.heap.size) (h2 : l2.blk = l.blk) (ho : ∀ ι', InjLe ι ι' → OR ι' ob l2 o') :
    ∃ ι', ι' A.next = some l2 ∧ Rel ι' ((A.set b .dead).alloc ob) w' ∧ Stp ι A w ι' ((A.set b .dead).alloc ob) w' := by
  let ι' : Inj := fun x => if x = A.next then some l2 else ι x
  have hin : ι' A.next = some l2 := if_pos rfl
  have hne : ∀ x, x ≠ A.next → ι' x = ι x := fun x hx => if_neg hx
  have hle : InjLe ι ι' := fun x lx hx => by
    by_cases e : x = A.next
    · rw [e, hf] at hx; cases hx
    · rw [hne x e]; exact hx
  have hbn : b ≠ A.next := fun e => by rw [e, hf] at hl; cases hl
  have hnx : (A.set b .dead).next = A.next := rfl
  have hget : ∀ x, ((A.set b .dead).alloc ob).get x = if x = A.next then some ob else if x = b then some .dead else A.get x := by
    intro x
    rw [get_alloc, get_setMem]; rfl
  have hlive : ∀ x, x ≠ A.next → live ((A.set b .dead).alloc ob) x → live A x ∧ x ≠ b := by
    rintro x hx ⟨ox, hox, hal⟩
    rw [hget, if_neg hx] at hox
    by_cases e : x = b
    · rw [if_pos e] at hox; cases hox; cases hal
    · rw [if_neg e] at hox; exact ⟨⟨ox, hox, hal⟩, e⟩
  have hother : ∀ x lx, live A x → x ≠ b → ι x = some lx → lx.blk ≠ l.blk := fun x lx hx hxb hlx he => hxb (h.inj x b lx l hx ⟨o, hg, ha⟩ hlx hl he)
  refine ⟨ι', hin, ⟨fun x hx => ?_, fun x ox lx hx hal hlx => ?_, fun x lx hlx => ?_, fun x y lx ly hx hy hlx hly he => ?_, fun x t k c hx => by
      rw [hget] at hx
      by_cases e : x = A.next
      · rw [if_pos e] at hx
        exact absurd (Option.some.inj hx) (hgl t k c)
      · rw [if_neg e] at hx
        by_cases eb : x = b
        · rw [if_pos eb] at hx; cases hx
        · rw [if_neg eb] at hx
          rw [hne x e]
          exact h.gl x _ _ _ hx⟩,
    ⟨?_, fun x hx => hne x ?_, fun x lx hx hlx => ?_, fun c hc hn => hw.ne c hc ?_, by omega, hw.os, hw.tape, hw.output, fun x lx hlx hsx => by
      have hxb : x ≠ b := by
        rintro rfl
        rw [hl] at hlx; cases hlx
        exact hns hsx
      obtain ⟨hxn, t, fz, c, hx2, _⟩ := hsx
      exact ⟨by rw [hget, if_neg (by omega), if_neg hxb], hw.ne _ (h.rng x lx hlx) (hother x lx ⟨_, hx2, rfl⟩ hxb hlx)⟩, hw.drawn⟩⟩
  · rw [next_alloc, hnx] at hx
    rw [hget, if_neg (by omega), if_neg]
    · exact h.wf x (by omega)
    · intro e; rw [← e, h.wf x (by omega)] at hg; cases hg
  · rw [hget] at hx
    by_cases e : x = A.next
    · subst e
      rw [if_pos rfl] at hx; cases hx
      rw [hin] at hlx; cases hlx
      exact ⟨o', by rw [h2]; exact hw.at_, ho ι' hle⟩
    · rw [if_neg e] at hx
      by_cases eb : x = b
      · rw [if_pos eb] at hx; cases hx; cases hal
      · rw [if_neg eb] at hx
        rw [hne x e] at hlx
        obtain ⟨o2, h3, h4⟩ := h.obs x ox lx hx hal hlx
        exact ⟨o2, by rw [hw.ne _ (h.rng x lx hlx) (hother x lx ⟨ox, hx, hal⟩ eb hlx)]; exact h3, h4.mono hle⟩
  · rw [hs]
    by_cases e : x = A.next
    · subst e; rw [hin] at hlx; cases hlx; rw [h2]; exact h.rng b l hl
    · rw [hne x e] at hlx; exact h.rng x lx hlx
  · by_cases ex : x = A.next
    · by_cases ey : y = A.next
      · omega
      · subst ex; rw [hin] at hlx; cases hlx
        rw [hne y ey] at hly
        obtain ⟨h3, h4⟩ := hlive y ey hy
        exact absurd (by omega) (hother y ly h3 h4 hly)
    · by_cases ey : y = A.next
      · subst ey; rw [hin] at hly; cases hly
        rw [hne x ex] at hlx
        obtain ⟨h3, h4⟩ := hlive x ex hx
        exact absurd (by omega) (hother x lx h3 h4 hlx)
      · rw [hne x ex] at hlx; rw [hne y ey] at hly
        exact h.inj x y lx ly (hlive x ex hx).1 (hlive y ey hy).1 hlx hly he
  · rw [next_alloc, hnx]; omega
  · rw [next_alloc, hnx] at hx; omega
  · by_cases e : x = A.next
    · subst e; rw [hin] at hlx; cases hlx; exact .inr ⟨b, l, ⟨o, hg, ha⟩, hl, h2.symm⟩
    · rw [hne x e] at hlx; exact .inr ⟨x, lx, (hlive x e hx).1, hlx, rfl⟩
  · rintro rfl
    exact hn b l ⟨o, hg, ha⟩ hl rfl

theorem lenF_sound {x x' : Value} {n : Nat} (h : lenF x = .ok n) (hx : VR ι x x') (P : Program) (w : World) : (Builtin.lenOf x').run P w = .ok n w := by
  unfold lenF at h
  split at h
  · simp only [R.ok.injEq] at h; subst h
    cases hx <;> rfl
  · simp only [R.ok.injEq] at h; subst h
    cases hx
    simp only [Builtin.lenOf, Sem.run_pure, size_data]
  · cases h

theorem firstF_sound {A : Mem} {w : World} (hr : Rel ι A w) {size n m : Nat} {x x' : Value} {vs : List Value} (h : firstF A.get size n x = .ok vs) (hx : VR ι x x') (hm : lenF x = .ok m) (hn : n ≤ m) :
    ∃ vs', VRs ι vs vs' ∧ ∀ P (w2 : World), w2.heap = w.heap → (Builtin.firstCells size n x').run P w2 = .ok vs'.toArray w2 := by
  unfold firstF at h
  split at h
  · rename_i a len cap
    simp only [lenF, R.ok.injEq] at hm; subst hm
    obtain ⟨a', cap', vs', e, r, run, hnone, _⟩ := elemsF_sound hr h hx hn
    subst e
    refine ⟨vs', r, fun P w2 hw2 => ?_⟩
    cases a' with
    | none =>
      obtain ⟨rfl, _⟩ := hnone rfl
      rfl
    | some b => exact run b rfl P w2 hw2
  · rename_i s
    cases hb : Nat.beq size 1 with
    | false => rw [hb] at h; cases h
    | true =>
    rw [hb] at h
    simp only [cond_true, R.ok.injEq] at h; subst h
    cases hx
    refine ⟨((s.extract 0 n).data.map fun b => Value.int .u8 b.toNat).toList, ?_, fun P w2 _ => ?_⟩
    · have e : ((s.extract 0 n).data.map fun b => Value.int .u8 b.toNat).toList = (s.data.toList.take n).map byteV := by
        rw [extract_eq]
        simp
        rfl
      rw [e]
      have : ∀ l : List UInt8, VRs ι (l.map byteV) (l.map byteV) := by
        intro l
        induction l with
        | nil => exact .nil
        | cons b l ih => exact .cons (.int _ _) ih
      exact this _
    · simp only [Builtin.firstCells, Sem.run_pure]
  · cases h

theorem firstF_len {A : Mem} {size n m : Nat} {x : Value} {vs : List Value} (h : firstF A.get size n x = .ok vs) (hx : ∃ x', VR ι x x') (hm : lenF x = .ok m) (hn : n ≤ m) : vs.length = n * size := by
  obtain ⟨x', hx⟩ := hx
  unfold firstF at h
  split at h
  · rename_i a len cap
    simp only [lenF, R.ok.injEq] at hm; subst hm
    unfold elemsF at h
    split at h
    · simp only [R.ok.injEq] at h; subst h
      cases hx
      have : n = 0 := by omega
      subst this; simp
    · rename_i a0
      cases hb : Nat.beq (n * size) 0 with
      | true =>
        rw [hb] at h; simp only [cond_true, R.ok.injEq] at h; subst h
        rw [beq_true hb]; rfl
      | false =>
        rw [hb] at h; simp only [cond_false] at h
        split at h
        · split at h
          · rename_i hg
            simp only [R.ok.injEq] at h; subst h
            exact (T.gets_spec _ _ _ _ hg).1
          · cases h
        · cases h
  · rename_i s
    simp only [lenF, R.ok.injEq] at hm; subst hm
    cases hb : Nat.beq size 1 with
    | false => rw [hb] at h; cases h
    | true =>
      rw [hb] at h
      simp only [cond_true, R.ok.injEq] at h; subst h
      rw [beq_true hb]
      simp only [List.length_map, List.length_take, Nat.mul_one]
      omega
  · cases h

/-- A row written from an element of a slice on. -/
theorem storeSlice_sound {A A' : Mem} {w : World} (hr : Rel ι A w) {b o len cap off : Nat} {x' : Value} {vs vs' : List Value} (hx : VR ι (.slice (some ⟨b, o, none⟩) len cap) x') (h : storeAtF A ⟨b, o + off, none⟩ vs = .ok A') (hv : VRs ι vs vs')
    (h0 : vs ≠ [] → 0 < capN cap) : ∃ a' cap', x' = .slice (some a') len cap' ∧ a'.spot = none ∧ ∀ P, ∃ w', (storeCells (a'.add off) vs').run P w = .ok () w' ∧ Rel ι A' w' ∧ Stp ι A w ι A' w' := by
  cases hx with
  | sl hl hk =>
    rename_i l
    refine ⟨_, _, rfl, rfl, fun P => ?_⟩
    obtain ⟨w', e, r⟩ := storeAt_sound hr hl h hv P
    rw [Addr_add_mk, show o + l.sh + off = o + off + l.sh by omega]
    exact ⟨w', e, r⟩
  | slX hl hk hc hsz ho hb hlen =>
    rename_i o' cap' l
    refine ⟨_, _, rfl, rfl, fun P => ?_⟩
    cases hvs : vs with
    | nil =>
      subst hvs
      cases hv
      simp only [storeAtF, R.ok.injEq] at h; subst h
      exact ⟨w, rfl, hr, Stp.refl ι A w⟩
    | cons v vs0 =>
      have := h0 (by rw [hvs]; simp)
      have ho' := ho (by omega)
      obtain ⟨w', e, r⟩ := storeAt_sound hr hl h hv P
      rw [Addr_add_mk, ho', show o + l.sh + off = o + off + l.sh by omega]
      exact ⟨w', e, r⟩

theorem storeAt_none {A A' : Mem} {a : Addr} {vs : List Value} (h : storeAtF A a vs = .ok A') (hs : a.spot ≠ none) : vs = [] ∧ A' = A := by
  unfold storeAtF at h
  split at h
  · simp only [R.ok.injEq] at h; exact ⟨rfl, h.symm⟩
  · split at h
    · rename_i h1 _; exact absurd h1 hs
    · cases h

theorem VR.slice_spot {a : Addr} {len cap : Nat} {x' : Value} (h : VR ι (.slice (some a) len cap) x') : a = ⟨a.block, a.off, none⟩ := by
  cases h <;> rfl

include ok in
theorem copyF_sound {A A' : Mem} {w : World} (hr : Rel ι A w) {dt rt : TypeId} {ts : Array TypeId} {d d' s s' v : Value} {args : Array Value} (h : copyF tb A dt d s = .ok (v, A')) (hd : VR ι d d') (hs : VR ι s s')
    (ht : ts[0]? = some dt) (h0 : args[0]? = some d') (h1 : args[1]? = some s') :
    ∃ w' v', (Builtin.copy_ ts rt args).run tb.P w = .ok v' w' ∧ VR ι v v' ∧ Rel ι A' w' ∧ Stp ι A w ι A' w' := by
  unfold copyF at h
  split at h
  · rename_i elem base dl cap hdt
    obtain ⟨size, e1, h2⟩ := R.bind_ok h
    obtain ⟨sl, e2, h3⟩ := R.bind_ok h2
    simp only at h3
    obtain ⟨l, e3, h4⟩ := R.bind_ok h3
    have hmin : (bif Nat.ble sl dl then sl else dl) = Nat.min sl dl := by
      cases hb : Nat.ble sl dl with
      | true => have := ble_true hb; simp only [cond_true]; exact (Nat.min_eq_left this).symm
      | false => have := ble_false hb; simp only [cond_false]; exact (Nat.min_eq_right (by omega)).symm
    rw [hmin] at e3 h4
    obtain ⟨vs', r, run⟩ := firstF_sound hr e3 hs e2 (Nat.min_le_left ..)
    have hl0 : l ≠ [] → 0 < dl := by
      intro hne
      rcases Nat.eq_zero_or_pos dl with h0 | h0
      · exfalso
        have := firstF_len e3 ⟨_, hs⟩ e2 (Nat.min_le_left ..)
        rw [h0, show Nat.min sl 0 = 0 from Nat.min_zero sl, Nat.zero_mul] at this
        exact hne (List.length_eq_zero_iff.1 this)
      · exact h0
    split at h4
    · simp only [R.ok.injEq, Prod.mk.injEq] at h4
      obtain ⟨rfl, rfl⟩ := h4
      cases hd
      refine ⟨w, _, ?_, .int _ _, hr, Stp.refl ι A w⟩
      simp only [Builtin.copy_, ht, h0, h1, Sem.run_bind, und_run ok hdt, Result.andThen_ok, lenF_sound e2 hs, sizeF_run ok e1, run _ _ rfl, Sem.run_pure]
      rfl
    · rename_i a
      obtain ⟨A2, e4, h5⟩ := R.bind_ok h4
      simp only [R.ok.injEq, Prod.mk.injEq] at h5
      obtain ⟨rfl, rfl⟩ := h5
      have ha := hd.slice_spot
      rw [ha] at hd e4
      have core : ∃ a' cap', d' = .slice (some a') dl cap' ∧ ∃ w', (storeCells a' vs').run tb.P w = .ok () w' ∧ Rel ι A2 w' ∧ Stp ι A w ι A2 w' := by
        cases hx : hd with
        | sl hl hk =>
          obtain ⟨w', e, r⟩ := storeAt_sound hr hl e4 r tb.P
          exact ⟨_, _, rfl, w', e, r⟩
        | slX hl hk hc hsz ho hb hlen =>
          obtain ⟨a', cap', he, hsp, hrun⟩ := storeSlice_sound (off := 0) hr (.slX hl hk hc hsz ho hb hlen) e4 r (fun hne => by have := hl0 hne; omega)
          cases he
          obtain ⟨w', e, r⟩ := hrun tb.P
          exact ⟨_, _, rfl, w', e, r⟩
      obtain ⟨a', cap', rfl, w', e, hrel, hst⟩ := core
      refine ⟨w', _, ?_, .int _ _, hrel, hst⟩
      simp only [Builtin.copy_, ht, h0, h1, Sem.run_bind, und_run ok hdt, Result.andThen_ok, lenF_sound e2 hs, sizeF_run ok e1, run _ _ rfl, e, Sem.run_pure]
      rfl
  · cases h

end Go.Am

/-
  The abstract machine AM, part 18: append.
-/
namespace Go.Am
variable {tb : Tab} (ok : TabOk tb) {ι : Inj}

theorem growBy_le (n : Nat) : ∀ r c, Builtin.growBy n r c ≤ 2 ^ r * (c + 768)
  | 0, c => by simp [Builtin.growBy]
  | r + 1, c => by
    unfold Builtin.growBy
    have hp : 0 < 2 ^ r := Nat.pow_pos (by omega)
    split
    · calc c ≤ 1 * (c + 768) := by omega
        _ ≤ 2 ^ (r + 1) * (c + 768) := Nat.mul_le_mul_right _ (Nat.pow_pos (by omega))
    · refine Nat.le_trans (growBy_le n r _) ?_
      rw [Nat.pow_succ, Nat.mul_assoc]
      exact Nat.mul_le_mul_left _ (by omega)

theorem next_le {need cap : Nat} (h : cap < need) (hn : need ≤ 16777216) : Builtin.nextslicecap need cap ≤ 2 ^ 29 := by
  unfold Builtin.nextslicecap
  split
  · omega
  · split
    · omega
    · refine Nat.le_trans (growBy_le need 4 cap) ?_
      omega

/-- A slice that grows: a new row. -/
theorem grow_run (P : Program) {ts : Array TypeId} {rt st xt elem : TypeId} {args : Array Value} {base : Option Addr} {len cap n size : Nat} {x' zv : Value} {i : TypeInfo} {xd : TypeDesc} {old new : List Value} {w : World}
    (ht0 : ts[0]? = some st) (ht1 : ts[1]? = some xt) (ha0 : args[0]? = some (.slice base len cap)) (ha1 : args[1]? = some x')
    (hst : ∀ w : World, (underlying st).run P w = .ok (.slice elem) w) (hxt : ∀ w : World, (underlying xt).run P w = .ok xd w) (hxd : ∀ k, xd ≠ .int k)
    (hsz : ∀ w : World, (sizeOf elem).run P w = .ok size w) (hi : ∀ w : World, (typeInfo elem).run P w = .ok i w) (hz : ∀ w : World, (zeroValue elem).run P w = .ok zv w)
    (hlen : ∀ w : World, (Builtin.lenOf x').run P w = .ok n w) (hnew : ∀ d, (Builtin.firstCells size n x').run P { w with drawn := d } = .ok new.toArray { w with drawn := d })
    (hold : ∀ d, (Builtin.firstCells size len (.slice base len cap)).run P { w with drawn := d } = .ok old.toArray { w with drawn := d })
    (hneed : ¬ (len + n ≤ cap)) (hmax : len + n ≤ 16777216) (hb : i.bytes ≤ 65536) :
    ∃ c, len + n ≤ c ∧ c < 2 ^ 63 ∧ (Builtin.append_ ts rt args).run P w =
      .ok (.slice (some ⟨w.heap.size, 0, none⟩) (len + n) c) { w with heap := w.heap.push (.cells (old.toArray ++ new.toArray ++ Builtin.zeroCells zv.cells (c - (len + n))) elem), drawn := w.drawn + 1 } := by
  let c := (Question.appendCap (len + n) cap elem).cut (w.tape w.drawn (.appendCap (len + n) cap elem))
  have hc : len + n ≤ c ∧ c < 2 ^ 63 := by
    show len + n ≤ len + n + _ % (2 ^ 63 - (len + n)) ∧ len + n + _ % (2 ^ 63 - (len + n)) < 2 ^ 63
    have : w.tape w.drawn (.appendCap (len + n) cap elem) % (2 ^ 63 - (len + n)) < 2 ^ 63 - (len + n) := Nat.mod_lt _ (by omega)
    omega
  refine ⟨c, hc.1, hc.2, ?_⟩
  have hbig : ¬ (((len + n : Nat) : Int) > IntKind.i64.max ∧ (False ∨ i.bytes = 0)) := by
    simp only [IntKind.max, IntKind.signed, IntKind.bits, if_true]; omega
  have hn1 := next_le (by omega : cap < len + n) hmax
  have hcap : ¬ (Builtin.nextslicecap (len + n) cap * i.bytes > 2 ^ 48) := by
    have : Builtin.nextslicecap (len + n) cap * i.bytes ≤ 2 ^ 29 * 65536 := Nat.mul_le_mul hn1 hb
    omega
  have h0 := hnew (w.drawn + 1)
  have h1 := hold (w.drawn + 1)
  unfold Builtin.append_
  simp only [ht0, ht1, ha0, ha1, Sem.run_bind, hst, hxt, hsz, hlen, hi, Result.andThen_ok, Sem.run_pure, Bool.false_eq_true, if_false, if_neg hneed, if_neg hbig, if_neg hcap, run_choose, Question.forced, run_askRoom, h1, h0, hz, Bool.not_false, if_true, newRow, run_newObj]
  rfl

/-- A slice that has room: its own row. -/
theorem room_run (P : Program) {ts : Array TypeId} {rt st xt elem : TypeId} {args : Array Value} {base : Option Addr} {len cap n size : Nat} {x' : Value} {xd : TypeDesc} {new : List Value} {w w' : World}
    (ht0 : ts[0]? = some st) (ht1 : ts[1]? = some xt) (ha0 : args[0]? = some (.slice base len cap)) (ha1 : args[1]? = some x')
    (hst : ∀ w : World, (underlying st).run P w = .ok (.slice elem) w) (hxt : ∀ w : World, (underlying xt).run P w = .ok xd w) (hxd : ∀ k, xd ≠ .int k)
    (hsz : ∀ w : World, (sizeOf elem).run P w = .ok size w) (hlen : ∀ w : World, (Builtin.lenOf x').run P w = .ok n w) (hnew : (Builtin.firstCells size n x').run P w = .ok new.toArray w)
    (hneed : len + n ≤ cap) (hs : ∀ a, base = some a → (storeCells (a.add (len * size)) new).run P w = .ok () w') (hn : base = none → w' = w) :
    (Builtin.append_ ts rt args).run P w = .ok (.slice base (len + n) cap) w' := by
  unfold Builtin.append_
  simp only [ht0, ht1, ha0, ha1, Sem.run_bind, hst, hxt, hsz, hlen, Result.andThen_ok, Sem.run_pure, Bool.false_eq_true, if_false, if_pos hneed, Bool.not_false, if_true, hnew]
  cases base with
  | none => rw [hn rfl]; rfl
  | some a => simp only [Sem.run_bind, hs a rfl, Result.andThen_ok, Sem.run_pure]

theorem rep_size (z : Array Value) (n : Nat) : (Builtin.zeroCells z n).size = n * z.size := by simp [Builtin.zeroCells]

/-- What was read, and what comes behind it: the first cells of a row. -/
theorem row_cells {old old' new new' : List Value} {cs : Array Value} {d : Nat} (ho : VRs ι old old') (hn : VRs ι new new')
    (h1 : ∀ j, j < old.length → cs[j + d]? = old'[j]?) (h2 : ∀ j, j < new.length → cs[old.length + j + d]? = new'[j]?) :
    ∀ i v, (T.puts .e 0 (old ++ new)).get i = some v → ∃ v', cs[i + d]? = some v' ∧ VR ι v v' := by
  intro i v hv
  rw [T.get_puts] at hv
  by_cases hi : 0 ≤ i ∧ i < 0 + (old ++ new).length
  · rw [if_pos hi] at hv
    simp only [Nat.sub_zero] at hv
    rcases Nat.lt_or_ge i old.length with h | h
    · rw [List.getElem?_append_left h] at hv
      obtain ⟨v', e, r⟩ := ho.get _ _ hv
      exact ⟨v', by rw [h1 i h]; exact e, r⟩
    · rw [List.getElem?_append_right h] at hv
      obtain ⟨v', e, r⟩ := hn.get _ _ hv
      have hlt : i - old.length < new.length := by
        have := hi.2; simp only [List.length_append] at this; omega
      refine ⟨v', ?_, r⟩
      have := h2 (i - old.length) hlt
      rw [show old.length + (i - old.length) + d = i + d by omega] at this
      rw [this]; exact e
  · rw [if_neg hi, T.get_e] at hv; cases hv

/-- A block is let go. -/
theorem Rel.kill {A : Mem} {w : World} {b : Nat} {o : Ob} (h : Rel ι A w) (hg : A.get b = some o) (hns : ∀ l, ¬ Still A b l) : Rel ι (A.set b .dead) w ∧ Stp ι A w ι (A.set b .dead) w := by
  have hlive : ∀ x, live (A.set b .dead) x → live A x := by
    rintro x ⟨ox, hx, hal⟩
    rw [get_setMem] at hx
    by_cases e : x = b
    · rw [if_pos e] at hx; cases hx; cases hal
    · rw [if_neg e] at hx; exact ⟨ox, hx, hal⟩
  refine ⟨⟨fun x hx => ?_, fun x ox lx hx hal hlx => ?_, h.rng, fun x y lx ly hx hy => h.inj x y lx ly (hlive x hx) (hlive y hy), fun x t k c hx => by
      rw [get_setMem] at hx
      by_cases e : x = b
      · rw [if_pos e] at hx; cases hx
      · rw [if_neg e] at hx
        exact h.gl x _ _ _ hx⟩,
    ⟨Nat.le_refl _, fun _ _ => rfl, fun x lx hx hlx => .inr ⟨x, lx, hlive x hx, hlx, rfl⟩, fun _ _ _ => rfl, Nat.le_refl _, rfl, rfl, rfl, fun x lx _ hsx => ⟨by rw [get_setMem, if_neg (by rintro rfl; exact hns lx hsx)], rfl⟩, Nat.le_refl _⟩⟩
  · rw [next_set] at hx
    rw [get_setMem, if_neg]
    · exact h.wf x hx
    · rintro rfl; rw [h.wf x hx] at hg; cases hg
  · rw [get_setMem] at hx
    by_cases e : x = b
    · rw [if_pos e] at hx; cases hx; cases hal
    · rw [if_neg e] at hx; exact h.obs x ox lx hx hal hlx

theorem appendG_sound {A A' : Mem} {w : World} (hr : Rel ι A w) {rt elem : TypeId} {ts : Array TypeId} {base : Option Addr} {len cap size n : Nat} {new new' : List Value} {s' v zv : Value} {args : Array Value}
    (h4 : appendG tb A elem base len cap size n new = .ok (v, A')) (hs : VR ι (.slice base len cap) s') (hz0 : zv.cells.size = size) (rnew : VRs ι new new') (hnl : new.length = n * size) (hfree : Free ι A A')
    (hroomR : ∀ (base' : Option Addr) (cap' : Nat) (w' : World), s' = .slice base' len cap' → len + n ≤ cap' → (∀ a, base' = some a → (storeCells (a.add (len * size)) new').run tb.P w = .ok () w') → (base' = none → w' = w) →
      (Builtin.append_ ts rt args).run tb.P w = .ok (.slice base' (len + n) cap') w')
    (hgrowR : ∀ (base' : Option Addr) (cap' : Nat) (old' : List Value) (i : TypeInfo), s' = .slice base' len cap' → tb.ty.get elem = some i →
      (∀ d, (Builtin.firstCells size len (.slice base' len cap')).run tb.P { w with drawn := d } = .ok old'.toArray { w with drawn := d }) → ¬ (len + n ≤ cap') → len + n ≤ 16777216 → i.bytes ≤ 65536 →
      ∃ c, len + n ≤ c ∧ c < 2 ^ 63 ∧ (Builtin.append_ ts rt args).run tb.P w =
        .ok (.slice (some ⟨w.heap.size, 0, none⟩) (len + n) c) { w with heap := w.heap.push (.cells (old'.toArray ++ new'.toArray ++ Builtin.zeroCells zv.cells (c - (len + n))) elem), drawn := w.drawn + 1 }) :
    ∃ ι' w' v', (Builtin.append_ ts rt args).run tb.P w = .ok v' w' ∧ VR ι' v v' ∧ Rel ι' A' w' ∧ Stp ι A w ι' A' w' := by
  unfold appendG at h4
  cases hroom : Nat.ble (len + n) (capN cap) with
  | true =>
    rw [hroom] at h4; simp only [cond_true] at h4
    have hle := ble_true hroom
    split at h4
    · simp only [R.ok.injEq, Prod.mk.injEq] at h4
      obtain ⟨rfl, rfl⟩ := h4
      cases hs
      have hn0 : n = 0 := by have : capN 0 = 0 := rfl; omega
      subst hn0
      refine ⟨ι, w, .slice none 0 0, ?_, .slN, hr, Stp.refl ι A w⟩
      exact hroomR none 0 w rfl (Nat.le_refl _) (fun a ha => by cases ha) (fun _ => rfl)
    · rename_i a
      split at h4
      · cases h4
      · rename_i hsp
        obtain ⟨A2, e4, h5⟩ := R.bind_ok h4
        simp only [R.ok.injEq, Prod.mk.injEq] at h5
        obtain ⟨rfl, rfl⟩ := h5
        have ha := hs.slice_spot
        rw [ha] at hs e4
        have hnewlen : new ≠ [] → 0 < n := by
          intro hne
          rcases Nat.eq_zero_or_pos n with h0 | h0
          · exfalso
            have := hnl
            rw [h0, Nat.zero_mul] at this
            exact hne (List.length_eq_zero_iff.1 this)
          · exact h0
        obtain ⟨a', cap', rfl, hsp', hst2⟩ := storeSlice_sound (off := len * size) hr hs e4 rnew (fun hne => by have := hnewlen hne; omega)
        obtain ⟨w', run, hrel, hstp⟩ := hst2 tb.P
        have hcap' : capN cap ≤ cap' := by cases hs with
          | sl hl hk => exact Nat.le_refl _
          | slX hl hk hc _ _ _ _ => exact hc
        refine ⟨ι, w', .slice (some a') (len + n) cap', ?_, ?_, hrel, hstp⟩
        · exact hroomR (some a') cap' w' rfl (by omega) (fun a ha => by cases ha; exact run) (fun ha => by cases ha)
        · rw [ha]
          cases hs with
          | sl hl hk => exact .sl hl hk
          | slX hl hk hc hsz2 ho hb hlen => exact .slX hl hk hc hsz2 ho hb hle
  | false =>
    rw [hroom] at h4; simp only [cond_false] at h4
    have hgt := ble_false hroom
    split at h4
    · cases h4
    · rename_i i hi
      cases hb : (Nat.ble (len + n) 16777216 && Nat.ble i.bytes 65536 && Nat.blt 0 i.bytes && Nat.blt 0 size && Nat.blt size 65536) with
      | false => rw [hb] at h4; cases h4
      | true =>
        rw [hb] at h4; simp only [cond_true] at h4
        simp only [Bool.and_eq_true] at hb
        have b1 := ble_true hb.1.1.1.1
        have b2 := ble_true hb.1.1.1.2
        have b4 := blt_true hb.1.2
        have b5 := blt_true hb.2
        obtain ⟨old, e4, h5⟩ := R.bind_ok h4
        clear h4
        obtain ⟨base', cap', old', hs', rold, runold, hnone, hlold⟩ := elemsF_sound hr e4 hs (Nat.le_refl _)
        subst hs'
        have hfo : ∀ d, (Builtin.firstCells size len (.slice base' len cap')).run tb.P { w with drawn := d } = .ok old'.toArray { w with drawn := d } := by
          intro d
          cases base' with
          | none => obtain ⟨rfl, _⟩ := hnone rfl; rfl
          | some b => exact runold b rfl tb.P _ rfl
        have hol : old.length = len * size := by
          rcases hlold with h | h
          · exact h
          · subst h
            cases hs
            simp only [elemsF, R.ok.injEq] at e4; subst e4; simp
        have hol' : old'.length = len * size := by rw [rold.length, hol]
        have hnl' : new'.length = n * size := by rw [rnew.length, hnl]
        have grow : ¬ (len + n ≤ cap') → ∀ (A : Mem), Rel ι A w → ∀ (fz : Nat) (xk : Kd), (∀ n, xk ≠ .var n) → (∀ n, xk ≠ .room n) → (∀ k, fz ≠ GB k) → ι A.next = none → ∃ ι' w' v', (Builtin.append_ ts rt args).run tb.P w = .ok v' w' ∧ VR ι' (.slice (some ⟨A.next, 0, none⟩) (len + n) (mkX (len + n) size)) v' ∧
            Rel ι' (A.alloc (.cells elem xk fz (T.puts .e 0 (old ++ new)))) w' ∧ Stp ι A w ι' (A.alloc (.cells elem xk fz (T.puts .e 0 (old ++ new)))) w' := by
          intro hno A hr fz xk hxk hxr hfzg hfn
          obtain ⟨c, c1, c2, run⟩ := hgrowR base' cap' old' i rfl hi hfo hno b1 b2
          have hcs : (old'.toArray ++ new'.toArray ++ Builtin.zeroCells zv.cells (c - (len + n))).size = c * size := by
            simp only [Array.size_append, List.size_toArray, rep_size, hz0, hol', hnl', ← Nat.add_mul]
            congr 1; omega
          have hOR : ∀ ι', InjLe ι ι' → OR ι' (.cells elem xk fz (T.puts .e 0 (old ++ new))) ⟨w.heap.size, 0, c * size⟩ (.cells (old'.toArray ++ new'.toArray ++ Builtin.zeroCells zv.cells (c - (len + n))) elem) := by
            intro ι' hi
            refine ⟨_, (0, 0), rfl, hcs, fun i v hv => ?_, ?_⟩
            · refine row_cells (d := 0) (rold.mono hi) (rnew.mono hi) (fun j hj => ?_) (fun j hj => ?_) i v hv
              · simp only [Nat.add_zero]
                rw [Array.getElem?_append_left (by simp; omega), Array.getElem?_append_left (by simp; omega)]; simp
              · simp only [Nat.add_zero]
                rw [Array.getElem?_append_left (by simp; omega), Array.getElem?_append_right (by simp; omega)]; simp [hol, hol']
            · cases xk with
              | var n => exact absurd rfl (hxk n)
              | row => simp
              | mark => intro i _; simp
              | room n => exact absurd rfl (hxr n)
          obtain ⟨ι', e, hrel, hstp⟩ := Rel.come (w' := { w with heap := w.heap.push (.cells (old'.toArray ++ new'.toArray ++ Builtin.zeroCells zv.cells (c - (len + n))) elem), drawn := w.drawn + 1 })
            (ob := .cells elem xk fz (T.puts .e 0 (old ++ new))) (sz := c * size) hr hfn (fun t k c' h => by
                            have h2 := congrArg (fun o : Ob => match o with | .cells _ _ fz _ => fz | _ => 0) h
                            exact hfzg _ h2) (Wu_push w _ _ (by simp)) (by simp) (fun ι' hi hb => hOR ι' hi)
          refine ⟨ι', _, _, run, ?_, hrel, hstp⟩
          have hE : size < 65536 := b5
          exact VR.slX (o' := 0) e (capX_mkX _ _) (by rw [capN_mkX hE]; exact c1) (by rw [capE_mkX hE]; simp) (fun _ => rfl) c2 (by rw [capN_mkX hE]; exact Nat.le_refl _)
        cases hcx : capX cap with
        | true =>
          rw [hcx] at h5; simp only [cond_true, R.ok.injEq, Prod.mk.injEq] at h5
          obtain ⟨rfl, rfl⟩ := h5
          have hfn : ι A.next = none := hfree A.next (Nat.le_refl _) (by rw [next_alloc]; omega)
          refine grow ?_ A hr 0 .row (fun n h => by cases h) (fun n h => by cases h) (fun k h => by unfold GB at h; omega) hfn
          cases hs with
          | slN => have : capN 0 = 0 := rfl; omega
          | sl hl hk => exact hgt
          | slX hl hk _ _ _ _ _ => rw [hk] at hcx; cases hcx
        | false =>
          rw [hcx] at h5; simp only [cond_false] at h5
          split at h5
          · rename_i a
            cases hc1 : (Nat.beq (capE cap) size && new.all oneCell) with
            | false => rw [hc1] at h5; cases h5
            | true =>
              rw [hc1] at h5; simp only [cond_true] at h5
              simp only [Bool.and_eq_true] at hc1
              have hE := beq_true hc1.1
              split at h5
              · rename_i t xk fz c hsp hg
                cases hc2 : (Nat.ble fz (a.off + len * size) && (Nat.beq t elem && Nat.blt fz 9223372036854775808)) with
                | false => rw [hc2] at h5; cases h5
                | true =>
                  rw [hc2] at h5; simp only [cond_true] at h5
                  simp only [Bool.and_eq_true] at hc2
                  have hfz := ble_true hc2.1
                  have hfzb : fz < 9223372036854775808 := by simpa [Nat.blt_eq] using hc2.2.2
                  obtain rfl := beq_true hc2.2.1
                  have hns : ∀ l, ¬ Still A a.block l := fun l => not_still hg fun t2 fz2 c2 e => by cases e; exact .inl (by simpa [Nat.blt_eq] using hc2.2.2)
                  split at h5
                  · cases h5
                  · cases h5
                  · rename_i hnv hnr
                    simp only [R.ok.injEq, Prod.mk.injEq] at h5
                    obtain ⟨rfl, rfl⟩ := h5
                    have hnA : ((A.set a.block .dead).alloc (.cells t xk (fz - a.off) (T.puts .e 0 (old ++ new)))).next = A.next + 1 := rfl
                    have hfn : ι A.next = none := hfree A.next (Nat.le_refl _) (by rw [hnA]; omega)
                    have ha := hs.slice_spot
                    generalize a.block = b at ha hg hns
                    generalize a.off = o at ha hg hfz
                    have hfzg : ∀ k, fz - o ≠ GB k := fun k h => by unfold GB at h; omega
                    subst ha
                    cases hs with
                    | sl hl hk => rw [hk] at hcx; cases hcx
                    | slX hl hk hc hsz2 ho hb63 hlen =>
                      rename_i o' l
                      obtain ⟨ob0, hw0, cs, fr, rfl, hcs0, hcell0, hfr0⟩ := hr.obs _ _ _ hg rfl hl
                      by_cases hno : len + n ≤ cap'
                      · -- in place
                        have ho' := ho (by omega)
                        subst ho'
                        have hbound : o + l.sh + (len + n) * size ≤ l.sz := by
                          have : (len + n) * size ≤ cap' * capE cap := by rw [hE]; exact Nat.mul_le_mul_right _ hno
                          omega
                        have hsplit : (len + n) * size = len * size + n * size := Nat.add_mul ..
                        obtain ⟨w', cs', r1, r2, r3, r4, r5⟩ := storeCells_run tb.P new' w (o + l.sh + len * size) 0 cs hw0 (rnew.all_one (List.all_eq_true.1 hc1.2)) (fun j hj => by
                          rw [hnl'] at hj
                          rw [show o + l.sh + len * size + 0 + j = (o + len * size + j) + l.sh by omega]
                          exact ⟨by omega, unfrozen hfr0 (by omega) (by omega)⟩)
                        have hgets : ∀ j v, old[j]? = some v → c.get (o + j) = some v := by
                          intro j v hv
                          unfold elemsF at e4
                          simp only at e4
                          cases hz : Nat.beq (len * size) 0 with
                          | true =>
                            rw [hz] at e4; simp only [cond_true, R.ok.injEq] at e4; subst e4; simp at hv
                          | false =>
                            rw [hz] at e4; simp only [cond_false, hg] at e4
                            split at e4
                            · rename_i q hq
                              simp only [R.ok.injEq] at e4; subst e4
                              obtain ⟨q1, q2⟩ := T.gets_spec _ _ _ _ hq
                              have hj : j < len * size := by
                                rcases Nat.lt_or_ge j (len * size) with h | h
                                · exact h
                                · rw [List.getElem?_eq_none (by omega)] at hv; cases hv
                              rw [q2 j hj]; exact hv
                            · cases e4
                        have rold2 : VRs ι old ((cs.toList.drop (o + l.sh)).take (len * size)) := by
                          refine VRs.of_get ?_ fun j v v' hv hv' => ?_
                          · simp only [List.length_take, List.length_drop, Array.length_toList]; omega
                          · obtain ⟨u, e, r⟩ := hcell0 _ _ (hgets j v hv)
                            have hj : j < len * size := by
                              rcases Nat.lt_or_ge j (len * size) with h | h
                              · exact h
                              · rw [List.getElem?_eq_none (by omega)] at hv; cases hv
                            rw [List.getElem?_take_of_lt hj, List.getElem?_drop, Array.getElem?_toList, show o + l.sh + j = o + j + l.sh by omega, e] at hv'
                            cases hv'; exact r
                        obtain ⟨ι', e, hrel, hstp⟩ := Rel.move (l2 := ⟨l.blk, o + l.sh, l.sz⟩) (ob := .cells t xk (fz - o) (T.puts .e 0 (old ++ new))) hr hg rfl hl (hns _) hfn (fun t k c' h => by
                            have h2 := congrArg (fun o : Ob => match o with | .cells _ _ fz _ => fz | _ => 0) h
                            exact hfzg _ h2) r2 r3 rfl (fun ι' hi => by
                          refine ⟨cs', fr, rfl, by simp only; omega, fun i v hv => ?_, ?_⟩
                          · refine row_cells (d := o + l.sh) (rold2.mono hi) (rnew.mono hi) (fun j hj => ?_) (fun j hj => ?_) i v hv
                            · rw [r5, if_neg (by omega), List.getElem?_take_of_lt (by omega), List.getElem?_drop, Array.getElem?_toList, Nat.add_comm j]
                            · rw [r5, if_pos (by omega), show old.length + j + (o + l.sh) - (o + l.sh + len * size + 0) = j by omega]
                          · cases xk with
                            | var n => exact absurd rfl (hnv n)
                            | row => simp only at hfr0 ⊢; omega
                            | mark => exact hfr0
                            | room n => exact absurd rfl (hnr n))
                        refine ⟨ι', w', .slice (some ⟨l.blk, o + l.sh, none⟩) (len + n) cap', ?_, ?_, hrel, hstp⟩
                        · refine hroomR (some ⟨l.blk, o + l.sh, none⟩) cap' w' rfl hno (fun a ha => ?_) (fun ha => by cases ha)
                          cases ha
                          rw [Addr_add_mk]; exact r1
                        · have hE2 : size < 65536 := b5
                          have := VR.slX (ι := ι') (o := 0) (o' := o + l.sh) (len := len + n) (k := mkX (len + n) size) (cap' := cap') e (capX_mkX _ _) (by rw [capN_mkX hE2]; exact hno) (by rw [capE_mkX hE2]; rw [hE] at hsz2; exact hsz2) (fun _ => by simp) hb63 (by rw [capN_mkX hE2]; exact Nat.le_refl _)
                          exact this
                      · -- a new row: the old block is let go
                        obtain ⟨hr2, hst2⟩ := hr.kill hg hns
                        obtain ⟨ι', w', v', run, rv, hrel, hstp⟩ := grow hno (A.set b .dead) hr2 (fz - o) xk hnv hnr hfzg hfn
                        exact ⟨ι', w', v', run, rv, hrel, hst2.trans hstp⟩
              · cases h5
          · cases h5

/-- Noughts that are appended: a slice that grows. -/
theorem growZ_run (P : Program) {ts : Array TypeId} {rt st xt elem : TypeId} {args : Array Value} {base : Option Addr} {len cap n size : Nat} {k k' : IntKind} {zv : Value} {i : TypeInfo} {old : List Value} {w : World}
    (ht0 : ts[0]? = some st) (ht1 : ts[1]? = some xt) (ha0 : args[0]? = some (.slice base len cap)) (ha1 : args[1]? = some (.int k' (n : Int)))
    (hst : ∀ w : World, (underlying st).run P w = .ok (.slice elem) w) (hxt : ∀ w : World, (underlying xt).run P w = .ok (.int k) w)
    (hsz : ∀ w : World, (sizeOf elem).run P w = .ok size w) (hi : ∀ w : World, (typeInfo elem).run P w = .ok i w) (hz : ∀ w : World, (zeroValue elem).run P w = .ok zv w) (hzs : zv.cells.size = size)
    (hold : ∀ d, (Builtin.firstCells size len (.slice base len cap)).run P { w with drawn := d } = .ok old.toArray { w with drawn := d })
    (hneed : ¬ (len + n ≤ cap)) (hmax : len + n ≤ 16777216) (hb : i.bytes ≤ 65536) :
    ∃ c, len + n ≤ c ∧ c < 2 ^ 63 ∧ (Builtin.append_ ts rt args).run P w =
      .ok (.slice (some ⟨w.heap.size, 0, none⟩) (len + n) c) { w with heap := w.heap.push (.cells (old.toArray ++ Builtin.zeroCells zv.cells n ++ Builtin.zeroCells zv.cells (c - (len + n))) elem), drawn := w.drawn + 1 } := by
  let c := (Question.appendCap (len + n) cap elem).cut (w.tape w.drawn (.appendCap (len + n) cap elem))
  have hc : len + n ≤ c ∧ c < 2 ^ 63 := by
    show len + n ≤ len + n + _ % (2 ^ 63 - (len + n)) ∧ len + n + _ % (2 ^ 63 - (len + n)) < 2 ^ 63
    have : w.tape w.drawn (.appendCap (len + n) cap elem) % (2 ^ 63 - (len + n)) < 2 ^ 63 - (len + n) := Nat.mod_lt _ (by omega)
    omega
  refine ⟨c, hc.1, hc.2, ?_⟩
  have hw : IntKind.i64.wrap (n : Int) = n := by
    have h1 : (n : Int) % 2 ^ 64 = n := by omega
    have h2 : ¬ ((n : Int) ≥ 2 ^ (64 - 1)) := by omega
    simp only [IntKind.wrap, IntKind.bits, IntKind.signed, h1, Bool.true_and, decide_eq_true_eq, if_neg h2]
  have has : ∀ u : World, (asInt (.int k' (n : Int))).run P u = .ok (n : Int) u := fun _ => rfl
  have hbig : ¬ (((len + n : Nat) : Int) > IntKind.i64.max ∧ (True ∨ i.bytes = 0)) := by
    simp only [IntKind.max, IntKind.signed, IntKind.bits, if_true]; omega
  have hn1 := next_le (by omega : cap < len + n) hmax
  have hcap : ¬ (Builtin.nextslicecap (len + n) cap * i.bytes > 2 ^ 48) := by
    have : Builtin.nextslicecap (len + n) cap * i.bytes ≤ 2 ^ 29 * 65536 := Nat.mul_le_mul hn1 hb
    omega
  have hneg : ¬ ((n : Int) < 0) := by omega
  have hby : ¬ ((n : Int) * (i.bytes : Int) > 2 ^ 48) := by
    have : n * i.bytes ≤ 16777216 * 65536 := Nat.mul_le_mul (by omega) hb
    have e : ((n * i.bytes : Nat) : Int) = (n : Int) * (i.bytes : Int) := by simp
    omega
  have h1 := hold (w.drawn + 1)
  have hzz : n * size = 0 → Builtin.zeroCells zv.cells n = #[] := by
    intro h
    apply Array.eq_empty_of_size_eq_zero
    rw [rep_size, hzs]; exact h
  unfold Builtin.append_
  simp only [ht0, ht1, ha0, ha1, Sem.run_bind, hst, hxt, hsz, hi, has, hw, Result.andThen_ok, Sem.run_pure, if_true, if_neg hneg, if_neg hby, Int.toNat_natCast, if_neg hneed, if_neg hbig, if_neg hcap, run_choose, Question.forced, run_askRoom, h1, hz, Bool.not_true, Bool.false_eq_true, if_false, newRow, run_newObj]
  by_cases h0 : n * size = 0
  · simp only [if_pos h0, Sem.run_pure, Result.andThen_ok, hzz h0]
    rfl
  · simp only [if_neg h0, Sem.run_bind, hz, Sem.run_pure, Result.andThen_ok]
    rfl

/-- Noughts that are appended: a slice that has room. -/
theorem roomZ_run (P : Program) {ts : Array TypeId} {rt st xt elem : TypeId} {args : Array Value} {base : Option Addr} {len cap n size : Nat} {k k' : IntKind} {zv : Value} {i : TypeInfo} {w w' : World}
    (ht0 : ts[0]? = some st) (ht1 : ts[1]? = some xt) (ha0 : args[0]? = some (.slice base len cap)) (ha1 : args[1]? = some (.int k' (n : Int)))
    (hst : ∀ w : World, (underlying st).run P w = .ok (.slice elem) w) (hxt : ∀ w : World, (underlying xt).run P w = .ok (.int k) w)
    (hsz : ∀ w : World, (sizeOf elem).run P w = .ok size w) (hi : ∀ w : World, (typeInfo elem).run P w = .ok i w) (hz : ∀ w : World, (zeroValue elem).run P w = .ok zv w) (hzs : zv.cells.size = size)
    (hneed : len + n ≤ cap) (hmax : n ≤ 16777216) (hb : i.bytes ≤ 65536) (hs : ∀ a, base = some a → (storeCells (a.add (len * size)) (Builtin.zeroCells zv.cells n).toList).run P w = .ok () w') (hn : base = none → w' = w) :
    (Builtin.append_ ts rt args).run P w = .ok (.slice base (len + n) cap) w' := by
  have hw : IntKind.i64.wrap (n : Int) = n := by
    have h1 : (n : Int) % 2 ^ 64 = n := by omega
    have h2 : ¬ ((n : Int) ≥ 2 ^ (64 - 1)) := by omega
    simp only [IntKind.wrap, IntKind.bits, IntKind.signed, h1, Bool.true_and, decide_eq_true_eq, if_neg h2]
  have has : ∀ u : World, (asInt (.int k' (n : Int))).run P u = .ok (n : Int) u := fun _ => rfl
  have hneg : ¬ ((n : Int) < 0) := by omega
  have hby : ¬ ((n : Int) * (i.bytes : Int) > 2 ^ 48) := by
    have : n * i.bytes ≤ 16777216 * 65536 := Nat.mul_le_mul hmax hb
    have e : ((n * i.bytes : Nat) : Int) = (n : Int) * (i.bytes : Int) := by simp
    omega
  have hzz : n * size = 0 → Builtin.zeroCells zv.cells n = #[] := by
    intro h
    apply Array.eq_empty_of_size_eq_zero
    rw [rep_size, hzs]; exact h
  unfold Builtin.append_
  simp only [ht0, ht1, ha0, ha1, Sem.run_bind, hst, hxt, hsz, hi, has, hw, Result.andThen_ok, Sem.run_pure, if_true, if_neg hneg, if_neg hby, Int.toNat_natCast, if_pos hneed, Bool.not_true, Bool.false_eq_true, if_false]
  by_cases h0 : n * size = 0
  · rw [hzz h0] at hs
    simp only [if_pos h0, Sem.run_pure, Result.andThen_ok]
    cases base with
    | none => rw [hn rfl]; rfl
    | some a => simp only [Sem.run_bind, hs a rfl, Result.andThen_ok, Sem.run_pure]
  · simp only [if_neg h0, Sem.run_bind, hz, Sem.run_pure, Result.andThen_ok]
    cases base with
    | none => rw [hn rfl]; rfl
    | some a => simp only [Sem.run_bind, hs a rfl, Result.andThen_ok, Sem.run_pure]

include ok in
theorem appendF_sound {A A' : Mem} {w : World} (hr : Rel ι A w) {st xt rt : TypeId} {ts : Array TypeId} {s s' x x' v : Value} {args : Array Value} (h : appendF tb A st xt s x = .ok (v, A')) (hs : VR ι s s') (hx : VR ι x x')
    (ht0 : ts[0]? = some st) (ht1 : ts[1]? = some xt) (ha0 : args[0]? = some s') (ha1 : args[1]? = some x') (hfree : Free ι A A') :
    ∃ ι' w' v', (Builtin.append_ ts rt args).run tb.P w = .ok v' w' ∧ VR ι' v v' ∧ Rel ι' A' w' ∧ Stp ι A w ι' A' w' := by
  unfold appendF at h
  split at h
  · rename_i elem base len cap xd hst hxt
    cases hxi : isIntD xd with
    | true =>
      rw [hxi, cond_true] at h
      unfold appendZ at h
      obtain ⟨⟨size, zero⟩, e1, h2⟩ := R.bind_ok h
      obtain ⟨n, e2, h3⟩ := R.bind_ok h2
      obtain ⟨hsize, hsz, zv, hzr, hzc, hzv⟩ := zcellsF_spec ok e1
      have hz0 : zv.cells.size = size := by rw [hsize, ← hzc]; simp
      obtain ⟨k, rfl⟩ : ∃ k, xd = .int k := by
        cases xd with
        | int k => exact ⟨k, rfl⟩
        | _ => cases hxi
      obtain ⟨k', rfl⟩ : ∃ k', x = .int k' (n : Int) := by
        unfold natV at e2
        split at e2
        · rename_i k' m
          simp only [R.ok.injEq] at e2
          subst e2
          exact ⟨k', rfl⟩
        · cases e2
      cases hx
      split at h3
      · cases h3
      · rename_i i hi
        cases hb : (Nat.ble n 16777216 && Nat.ble i.bytes 65536) with
        | false => rw [hb] at h3; cases h3
        | true =>
          rw [hb, cond_true] at h3
          simp only [Bool.and_eq_true] at hb
          have b1 := ble_true hb.1
          have b2 := ble_true hb.2
          have hrep : VRs ι (repF zero n) (Builtin.zeroCells zv.cells n).toList := by
            have := rep_VRs (hzv ι) n
            unfold Builtin.zeroCells
            rwa [show n * zero.length = n * zv.cells.size by rw [hz0, hsize]] at this
          refine appendG_sound hr (zv := zv) h3 hs hz0 hrep (by rw [repF_length, hsize]) hfree (fun base' cap' w' e hle hs2 hn2 => ?_) (fun base' cap' old' i' e hi' hfo hno c1 c2 => ?_)
          · subst e
            exact roomZ_run tb.P ht0 ht1 ha0 ha1 (und_run ok hst) (und_run ok hxt) hsz (info_run ok hi) hzr hz0 hle b1 b2 hs2 hn2
          · subst e
            obtain ⟨c, h1, h2, h3⟩ := growZ_run tb.P ht0 ht1 ha0 ha1 (rt := rt) (und_run ok hst) (und_run ok hxt) hsz (info_run ok hi) hzr hz0 hfo hno c1 b2
            exact ⟨c, h1, h2, by rw [h3]⟩
    | false =>
      rw [hxi] at h; simp only [cond_false] at h
      have hxd : ∀ k, xd ≠ .int k := by rintro k rfl; cases hxi
      obtain ⟨⟨size, zero⟩, e1, h2⟩ := R.bind_ok h
      obtain ⟨n, e2, h3⟩ := R.bind_ok h2
      obtain ⟨new, e3, h4⟩ := R.bind_ok h3
      clear h h2 h3
      obtain ⟨hsize, hsz, zv, hzr, hzc, hzv⟩ := zcellsF_spec ok e1
      obtain ⟨new', rnew, runnew⟩ := firstF_sound hr e3 hx e2 (Nat.le_refl _)
      have hz0 : zv.cells.size = size := by rw [hsize, ← hzc]; simp
      refine appendG_sound hr (zv := zv) h4 hs hz0 rnew (firstF_len e3 ⟨_, hx⟩ e2 (Nat.le_refl _)) hfree (fun base' cap' w' e hle hs2 hn2 => ?_) (fun base' cap' old' i' e hi' hfo hno c1 c2 => ?_)
      · subst e
        exact room_run tb.P ht0 ht1 ha0 ha1 (und_run ok hst) (und_run ok hxt) hxd hsz (lenF_sound e2 hx tb.P) (runnew tb.P w rfl) hle hs2 hn2
      · subst e
        exact grow_run tb.P ht0 ht1 ha0 ha1 (rt := rt) (und_run ok hst) (und_run ok hxt) hxd hsz (info_run ok hi') hzr (lenF_sound e2 hx tb.P) (fun d => runnew tb.P _ rfl) hfo hno c1 c2
  · cases h

end Go.Am

/-
  The abstract machine AM, part 19: maps written, cleared; texts gone through; texts over bytes; whatever operation that writes.
-/
namespace Go.Am
variable {tb : Tab} (ok : TabOk tb) {ι : Inj} {A A' : Mem} {w : World}

theorem setObj_Wu {r : Nat} {o o' : Obj} (h : w.heap[r]? = some o) (hc : ∀ c e f, o ≠ .cells c e f) (P : Program) :
    ∃ w', (setObj r o').run P w = .ok () w' ∧ Wu w w' r o' ∧ w'.heap.size = w.heap.size := by
  have hlt : r < w.heap.size := (Array.getElem?_eq_some_iff.1 h).1
  refine ⟨{ w with heap := w.heap.setIfInBounds r o' }, ?_, ⟨by simp, by simp [hlt], fun k hk hne => ?_, rfl, rfl, rfl, Nat.le_refl _⟩, by simp⟩
  · simp only [setObj, Sem.run, h]
  · exact Array.getElem?_setIfInBounds_ne (Ne.symm hne)

theorem keyThatStays_run {k k' e e' : Value} (h : keyEq k e = some true) (hk : VR ι k k') (he : VR ι e e') (P : Program) (w : World) : (Instr.keyThatStays e' k').run P w = .ok k' w := by
  have : Instr.sameBits 10000 e' k' = true := by
    unfold keyEq at h
    split at h
    · cases hk; cases he
      rename_i kk x kk' y
      cases hkk : kindEq kk kk' with
      | false => rw [hkk] at h; cases h
      | true =>
        rw [hkk] at h; simp only [cond_true, Option.some.injEq, ieqF_eq, beq_iff_eq] at h
        obtain rfl := kindEq_eq hkk
        subst h
        simp [Instr.sameBits]
    · cases hk; cases he
      rename_i x y
      simp only [Option.some.injEq, bytesEq_eq] at h
      simp only [Instr.sameBits, bytes_beq]
      rw [beq_iff_eq] at h ⊢; exact h.symm
    · cases h
  simp only [Instr.keyThatStays, this, if_true, Sem.run_pure]

theorem setEntry_ERs {k k' v v' : Value} (hk : VR ι k k') (hv : VR ι v v') : ∀ {es es' : List MapEntry} (i : Nat), ERs ι es es' → ERs ι (setEntry es i k v) (es'.modify i fun e => { e with key := k', val := v' })
  | _, _, i, .nil => by cases i <;> exact .nil
  | _, _, 0, .cons _ hb _ ht => .cons hk hb hv ht
  | _, _, i + 1, .cons hk' hb hv' ht => .cons hk' hb hv' (setEntry_ERs hk hv i ht)

theorem dropEntry_ERs : ∀ {es es' : List MapEntry} (i : Nat), ERs ι es es' → ERs ι (dropEntry es i) (es'.eraseIdx i)
  | _, _, i, .nil => by cases i <;> exact .nil
  | _, _, 0, .cons _ _ _ ht => ht
  | _, _, i + 1, .cons hk hb hv ht => .cons hk hb hv (dropEntry_ERs i ht)

theorem ERs.snoc {e e' : MapEntry} (hk : VR ι e.key e'.key) (hb : e'.born = e.born) (hv : VR ι e.val e'.val) : ∀ {l l' : List MapEntry}, ERs ι l l' → ERs ι (l ++ [e]) (l' ++ [e'])
  | _, _, .nil => .cons hk hb hv .nil
  | _, _, .cons a b c d => .cons a b c (ERs.snoc hk hb hv d)

theorem ERs.get {ι : Inj} : ∀ {l l' : List MapEntry} {i : Nat} {e e' : MapEntry}, ERs ι l l' → l[i]? = some e → l'[i]? = some e' → VR ι e.key e'.key
  | _, _, i, e, e', .nil, h, _ => by simp at h
  | _, _, 0, e, e', .cons hk _ _ _, h, h' => by simp at h h'; subst h h'; exact hk
  | _, _, i + 1, e, e', .cons _ _ _ ht, h, h' => by simp at h h'; exact ht.get h h'

theorem alive_map {es : List MapEntry} {c : Nat} : alive (.map es c) = true := rfl

include ok in
theorem mapUpdateF_sound (hr : Rel ι A w) {t : TypeId} {m m' k k' v v' : Value} (h : mapUpdateF tb A t m k v = .ok A') (hm : VR ι m m') (hk : VR ι k k') (hv : VR ι v v') :
    ∃ w', (Instr.mapUpdate t m' k' v').run tb.P w = .ok () w' ∧ Rel ι A' w' ∧ Stp ι A w ι A' w' := by
  unfold mapUpdateF at h
  split at h
  · rename_i kt et b hd
    cases hko : keyOk tb kt k with
    | false => rw [hko] at h; cases h
    | true =>
      rw [hko] at h; simp only [cond_true] at h
      obtain ⟨d, hkd, hks⟩ := keyOk_spec hko
      split at h
      · rename_i es clock hg
        cases hm with
        | map hl =>
          rename_i l
          obtain ⟨o', hw, hsh, es', rfl, he⟩ := hr.obs _ _ _ hg rfl hl
          have hck := checkKey_run ok hkd hks hk false w
          split at h
          · rename_i i u hf
            simp only [R.ok.injEq] at h; subst h
            rcases findF_sound hk hks hf he with ⟨h3, _⟩ | ⟨j, v0, v1, h3, h4, h5, h6, e', h7, e, h8, h9⟩
            · cases h3
            · cases h3
              simp only [Nat.sub_zero] at h7 h8
              have h7' : es'[i]? = some e' := by rw [← Array.getElem?_toList]; exact h7
              have hkeys : VR ι e.key e'.key := he.get h8 h7
              have hstay := keyThatStays_run h9 hk hkeys tb.P w
              obtain ⟨w', r1, r2, r3⟩ := setObj_Wu (o' := .map (es'.modify i fun e => { e with key := k', val := v' }) clock) hw (by simp) tb.P
              refine ⟨w', ?_, hr.turn (ob := .map (setEntry es i k v) clock) hg rfl hl (not_still hg fun _ _ _ h => by cases h) (fun _ _ _ h => by cases h) r2 r3 ⟨hsh, _, rfl, ?_⟩⟩
              · simp only [Instr.mapUpdate, Sem.run_bind, und_run ok hd, Result.andThen_ok, getObj_run hw (by simp), hck, findKey_run ok hkd h4, h7', Option.map_some, Option.getD_some, hstay]
                exact r1
              · rw [Array.toList_modify]; exact setEntry_ERs hk hv i he
          · rename_i hf
            simp only [R.ok.injEq] at h; subst h
            rcases findF_sound hk hks hf he with ⟨_, h4⟩ | ⟨j, v0, v1, h3, _⟩
            · obtain ⟨w', r1, r2, r3⟩ := setObj_Wu (o' := .map (es'.push { key := k', val := v', born := clock }) (clock + 1)) hw (by simp) tb.P
              refine ⟨w', ?_, hr.turn (ob := .map (es ++ [{ key := k, val := v, born := clock }]) (clock + 1)) hg rfl hl (not_still hg fun _ _ _ h => by cases h) (fun _ _ _ h => by cases h) r2 r3 ⟨hsh, _, rfl, ?_⟩⟩
              · simp only [Instr.mapUpdate, Sem.run_bind, und_run ok hd, Result.andThen_ok, getObj_run hw (by simp), hck, findKey_run ok hkd h4]
                exact r1
              · rw [Array.toList_push]; exact ERs.snoc (e := ⟨k, v, clock⟩) (e' := ⟨k', v', clock⟩) hk rfl hv he
            · cases h3
          · cases h
      · cases h
  · cases h

include ok in
theorem deleteF_sound (hr : Rel ι A w) {t rt : TypeId} {ts : Array TypeId} {m m' k k' v : Value} {args : Array Value} (h : deleteF tb A t m k = .ok (v, A')) (hm : VR ι m m') (hk : VR ι k k')
    (ht : ts[0]? = some t) (h0 : args[0]? = some m') (h1 : args[1]? = some k') :
    ∃ w' v', (Builtin.delete_ ts rt args).run tb.P w = .ok v' w' ∧ VR ι v v' ∧ Rel ι A' w' ∧ Stp ι A w ι A' w' := by
  unfold deleteF at h
  split at h
  · rename_i kt et hd
    cases hko : keyOk tb kt k with
    | false => rw [hko] at h; cases h
    | true =>
      rw [hko] at h; simp only [cond_true, R.ok.injEq, Prod.mk.injEq] at h
      obtain ⟨rfl, rfl⟩ := h
      obtain ⟨d, hkd, hks⟩ := keyOk_spec hko
      cases hm
      refine ⟨w, .tuple #[], ?_, .tuple .nil, hr, Stp.refl ι A w⟩
      simp only [Builtin.delete_, ht, h0, h1, Sem.run_bind, und_run ok hd, Result.andThen_ok, checkKey_run ok hkd hks hk true w, Sem.run_pure]
  · rename_i kt et b hd
    cases hko : keyOk tb kt k with
    | false => rw [hko] at h; cases h
    | true =>
      rw [hko] at h; simp only [cond_true] at h
      obtain ⟨d, hkd, hks⟩ := keyOk_spec hko
      split at h
      · rename_i es clock hg
        cases hm with
        | map hl =>
          rename_i l
          obtain ⟨o', hw, hsh, es', rfl, he⟩ := hr.obs _ _ _ hg rfl hl
          have hck := checkKey_run ok hkd hks hk es'.isEmpty w
          split at h
          · rename_i i u hf
            simp only [R.ok.injEq, Prod.mk.injEq] at h
            obtain ⟨rfl, rfl⟩ := h
            rcases findF_sound hk hks hf he with ⟨h3, _⟩ | ⟨j, v0, v1, h3, h4, _⟩
            · cases h3
            · cases h3
              obtain ⟨w', r1, r2, r3⟩ := setObj_Wu (o' := .map (es'.eraseIdxIfInBounds i) clock) hw (by simp) tb.P
              obtain ⟨hrel, hst⟩ := hr.turn (ob := .map (dropEntry es i) clock) hg rfl hl (not_still hg fun _ _ _ h => by cases h) (fun _ _ _ h => by cases h) r2 r3 ⟨hsh, _, rfl, by rw [Array.toList_eraseIdxIfInBounds]; exact dropEntry_ERs i he⟩
              refine ⟨w', .tuple #[], ?_, .tuple .nil, hrel, hst⟩
              simp only [Builtin.delete_, ht, h0, h1, Sem.run_bind, und_run ok hd, Result.andThen_ok, getObj_run hw (by simp), hck, findKey_run ok hkd h4, r1, Sem.run_pure]
          · rename_i hf
            simp only [R.ok.injEq, Prod.mk.injEq] at h
            obtain ⟨rfl, rfl⟩ := h
            rcases findF_sound hk hks hf he with ⟨_, h4⟩ | ⟨j, v0, v1, h3, _⟩
            · obtain ⟨w', r1, r2, r3⟩ := setObj_Wu (o' := .map es' clock) hw (by simp) tb.P
              obtain ⟨hrel, hst⟩ := hr.turn (ob := .map es clock) hg rfl hl (not_still hg fun _ _ _ h => by cases h) (fun _ _ _ h => by cases h) r2 r3 ⟨hsh, _, rfl, he⟩
              refine ⟨w', .tuple #[], ?_, .tuple .nil, hrel, hst⟩
              simp only [Builtin.delete_, ht, h0, h1, Sem.run_bind, und_run ok hd, Result.andThen_ok, getObj_run hw (by simp), hck, findKey_run ok hkd h4, r1, Sem.run_pure]
            · cases h3
          · cases h
      · cases h
  · cases h

include ok in
theorem clearF_sound (hr : Rel ι A w) {t rt : TypeId} {ts : Array TypeId} {x x' v : Value} {args : Array Value} (h : clearF tb A t x = .ok (v, A')) (hx : VR ι x x') (ht : ts[0]? = some t) (h0 : args[0]? = some x') :
    ∃ w' v', (Builtin.clear_ ts rt args).run tb.P w = .ok v' w' ∧ VR ι v v' ∧ Rel ι A' w' ∧ Stp ι A w ι A' w' := by
  unfold clearF at h
  split at h
  · rename_i d hd
    cases hx
    simp only [R.ok.injEq, Prod.mk.injEq] at h
    obtain ⟨rfl, rfl⟩ := h
    refine ⟨w, .tuple #[], ?_, .tuple .nil, hr, Stp.refl ι A w⟩
    simp only [Builtin.clear_, ht, h0, Sem.run_bind, und_run ok hd, Result.andThen_ok, Sem.run_pure]
  · rename_i d b hd
    split at h
    · rename_i es clock hg
      simp only [R.ok.injEq, Prod.mk.injEq] at h
      obtain ⟨rfl, rfl⟩ := h
      cases hx with
      | map hl =>
        obtain ⟨o', hw, hsh, es', rfl, he⟩ := hr.obs _ _ _ hg rfl hl
        obtain ⟨w', r1, r2, r3⟩ := setObj_Wu (o' := .map #[] clock) hw (by simp) tb.P
        obtain ⟨hrel, hst⟩ := hr.turn (ob := .map [] clock) hg rfl hl (not_still hg fun _ _ _ h => by cases h) (fun _ _ _ h => by cases h) r2 r3 ⟨hsh, #[], rfl, .nil⟩
        refine ⟨w', .tuple #[], ?_, .tuple .nil, hrel, hst⟩
        simp only [Builtin.clear_, ht, h0, Sem.run_bind, und_run ok hd, Result.andThen_ok, getObj_run hw (by simp), r1, Sem.run_pure]
    · cases h
  · rename_i d n c hd
    cases hx
    simp only [R.ok.injEq, Prod.mk.injEq] at h
    obtain ⟨rfl, rfl⟩ := h
    refine ⟨w, .tuple #[], ?_, .tuple .nil, hr, Stp.refl ι A w⟩
    simp only [Builtin.clear_, ht, h0, Sem.run_bind, und_run ok hd, Result.andThen_ok, Sem.run_pure]
  · rename_i elem a n c hd
    have ha := hx.slice_spot
    cases hb : Nat.beq n 0 with
    | true =>
      obtain rfl := beq_true hb
      rw [hb] at h; simp only [cond_true, R.ok.injEq, Prod.mk.injEq] at h
      obtain ⟨rfl, rfl⟩ := h
      refine ⟨w, .tuple #[], ?_, .tuple .nil, hr, Stp.refl ι A w⟩
      cases hx <;> simp only [Builtin.clear_, ht, h0, Sem.run_bind, und_run ok hd, Result.andThen_ok, Sem.run_pure]
    | false =>
      have hn := beq_false hb
      rw [hb] at h; simp only [cond_false] at h
      obtain ⟨⟨size, zero⟩, e1, h2⟩ := R.bind_ok h
      obtain ⟨A2, e2, h3⟩ := R.bind_ok h2
      simp only [R.ok.injEq, Prod.mk.injEq] at h3
      obtain ⟨rfl, rfl⟩ := h3
      obtain ⟨hsize, hsz, zv, hzr, hzc, hzv⟩ := zcellsF_spec ok e1
      rw [ha] at hx e2
      have hrep := rep_VRs (ι := ι) (hzv ι) n
      have hcap : capX c = true ∨ 0 < capN c := by
        cases hx with
        | sl hl hk => exact .inl hk
        | slX hl hk hc hsz ho hb hlen => exact .inr (by omega)
      have core : ∃ a' cap', x' = .slice (some a') n cap' ∧ ∃ w', (storeCells a' ((Array.range (n * zero.length)).map (zv.cells[· % zv.cells.size]!)).toList).run tb.P w = .ok () w' ∧ Rel ι A2 w' ∧ Stp ι A w ι A2 w' := by
        cases hx with
        | sl hl hk =>
          obtain ⟨w', e, r⟩ := storeAt_sound hr hl e2 hrep tb.P
          exact ⟨_, _, rfl, w', e, r⟩
        | slX hl hk hc hsz ho hb hlen =>
          have ho' := ho (by omega)
          subst ho'
          obtain ⟨w', e, r⟩ := storeAt_sound hr hl e2 hrep tb.P
          exact ⟨_, _, rfl, w', e, r⟩
      obtain ⟨a', cap', rfl, w', e, hrel, hst⟩ := core
      refine ⟨w', .tuple #[], ?_, .tuple .nil, hrel, hst⟩
      have hzs : zv.cells.size = zero.length := by rw [← hzc]; simp
      have hzz : Builtin.zeroCells zv.cells n = (Array.range (n * zero.length)).map (zv.cells[· % zv.cells.size]!) := by
        unfold Builtin.zeroCells; rw [hzs]
      cases n with
      | zero => exact absurd rfl hn
      | succ n =>
        simp only [Builtin.clear_, ht, h0, Sem.run_bind, und_run ok hd, Result.andThen_ok, hzr, hzz, e, Sem.run_pure]
  · cases h

include ok in
theorem rangeF_sound (hr : Rel ι A w) {t : TypeId} {x x' v : Value} (h : rangeF tb A t x = .ok (v, A')) (hx : VR ι x x') (hfree : Free ι A A') :
    ∃ ι' w' v', (Instr.range t x').run tb.P w = .ok v' w' ∧ VR ι' v v' ∧ Rel ι' A' w' ∧ Stp ι A w ι' A' w' := by
  unfold rangeF at h
  split at h
  · rename_i s hd
    cases hx
    simp only [R.ok.injEq, Prod.mk.injEq] at h
    obtain ⟨rfl, rfl⟩ := h
    have hfn : ι A.next = none := hfree A.next (Nat.le_refl _) (by rw [next_alloc]; omega)
    obtain ⟨ι', e, hrel, hst⟩ := Rel.come (w' := { w with heap := w.heap.push (.stringIter s 0), drawn := w.drawn }) (ob := .sit s 0) (sz := 0) hr hfn (fun _ _ _ h => by cases h) (Wu_push w _ _ (by simp)) (by simp) (fun ι' hi hb => ⟨rfl, rfl⟩)
    refine ⟨ι', _, .pointer (some ⟨w.heap.size, 0, none⟩), ?_, .ptr (o := 0) e, hrel, hst⟩
    simp only [Instr.range, Sem.run_bind, und_run ok hd, Result.andThen_ok, run_newObj, Sem.run_pure]
  · cases h

theorem nextF_sound (hr : Rel ι A w) {x x' v : Value} {isS : Bool} {rt : TypeId} (h : nextF A x isS = .ok (v, A')) (hx : VR ι x x') (P : Program) :
    ∃ w' v', (Instr.next x' isS rt).run P w = .ok v' w' ∧ VR ι v v' ∧ Rel ι A' w' ∧ Stp ι A w ι A' w' := by
  unfold nextF at h
  split at h
  · rename_i b
    cases hx with
    | ptr hl =>
      rename_i l
      split at h
      · rename_i s pos hg
        obtain ⟨o', hw, hsh, rfl⟩ := hr.obs _ _ _ hg rfl hl
        rw [hsh]
        cases hb : Nat.blt pos s.size with
        | true =>
          have hlt := blt_true hb
          rw [hb] at h; simp only [cond_true, R.ok.injEq, Prod.mk.injEq] at h
          obtain ⟨rfl, rfl⟩ := h
          obtain ⟨w', r1, r2, r3⟩ := setObj_Wu (o' := .stringIter s (pos + (Utf8.decode s pos).2)) hw (by simp) P
          obtain ⟨hrel, hst⟩ := hr.turn (ob := .sit s (pos + (Utf8.decode s pos).2)) hg rfl hl (not_still hg fun _ _ _ h => by cases h) (fun _ _ _ h => by cases h) r2 r3 ⟨hsh, rfl⟩
          refine ⟨w', .tuple #[.bool true, goInt pos, .int .i32 (Utf8.decode s pos).1], ?_, .tuple (.cons (.bool _) (.cons (.int _ _) (.cons (.int _ _) .nil))), hrel, hst⟩
          simp only [Instr.next, Nat.add_zero, Sem.run_bind, getObj_run hw (by simp), Result.andThen_ok, if_pos hlt, r1, Sem.run_pure]
        | false =>
          have hlt := blt_false hb
          rw [hb] at h; simp only [cond_false, R.ok.injEq, Prod.mk.injEq] at h
          obtain ⟨rfl, rfl⟩ := h
          refine ⟨w, .tuple #[.bool false], ?_, .tuple (.cons (.bool _) .nil), hr, Stp.refl ι A w⟩
          simp only [Instr.next, Nat.add_zero, Sem.run_bind, getObj_run hw (by simp), Result.andThen_ok, if_neg hlt, Sem.run_pure]
      · cases h
  · cases h

end Go.Am

/-
  The abstract machine AM, part 20: texts over bytes; whatever operation that writes.
-/
namespace Go.Am
variable {tb : Tab} (ok : TabOk tb) {ι : Inj} {A A' : Mem} {w : World}

theorem loadBytes_run (P : Program) (w : World) : ∀ (vs vs' : List Value) (l : List UInt8) (a : Addr) (acc : ByteArray), bytesOf vs = .ok l → VRs ι vs vs' → (∀ j v, vs'[j]? = some v → w.cell? (a.add j) = some v) →
    (loadBytes a acc vs.length).run P w = .ok ⟨⟨acc.data.toList ++ l⟩⟩ w
  | [], _, l, a, acc, h, .nil, _ => by
    simp only [bytesOf, R.ok.injEq] at h; subst h
    simp [loadBytes]
  | v :: vs, _, l, a, acc, h, .cons hv ht, hc => by
    unfold bytesOf at h
    split at h
    · rename_i heq; cases heq
    · rename_i n vs2 heq
      simp only [List.cons.injEq] at heq
      obtain ⟨rfl, rfl⟩ := heq
      obtain ⟨l', h1, h2⟩ := R.bind_ok h
      simp only [R.ok.injEq] at h2; subst h2
      cases hv
      have h0 : w.cell? a = some _ := hc 0 _ rfl
      have ih := loadBytes_run P w vs _ l' (a.add 1) (acc.push (Int.ofNat n).toNat.toUInt8) h1 ht (fun j v hj => by
        have := hc (j + 1) v (by simpa using hj)
        have e : (a.add 1).add j = a.add (j + 1) := by
          unfold Addr.add
          by_cases hj : j = 0
          · subst hj; simp
          · simp [hj]; omega
        rw [e]; exact this)
      simp only [List.length_cons, loadBytes, Sem.run_bind, load_run h0, Result.andThen_ok]
      rw [ih]
      congr 1
      apply ByteArray.ext
      apply Array.ext'
      simp [ByteArray.data_push]
    · cases h

theorem sameLayout_refl {P : Program} {d : Nat} (t : TypeId) : sameLayout P (d + 1) t t = true := by
  simp [sameLayout]

theorem liesAt_bytes {P : Program} {t : TypeId} {n off cells : Nat} (hs : P.cellsOf t = 1) (h : off + n ≤ cells) : liesAt P P.depth t (cells / P.cellsOf t) off t n = true := by
  have hd : P.depth = (2 * (P.types.size + Made.depth) + 1) + 1 := rfl
  have h1 : rowAt P (sameLayout P P.depth · t) P.depth t (cells / P.cellsOf t) off n = true := by
    have e : ∀ d, rowAt P (sameLayout P P.depth · t) (d + 1) t (cells / P.cellsOf t) off n = true := ?_
    · rw [hd]; rw [← hd]; exact (hd ▸ e _ : rowAt P (sameLayout P P.depth · t) P.depth t (cells / P.cellsOf t) off n = true)
    intro d
    rw [rowAt]
    simp only [hs, Nat.one_ne_zero, if_false, Nat.div_one, Nat.mod_one, beq_self_eq_true, Bool.true_and]
    have : sameLayout P P.depth t t = true := by rw [hd]; exact sameLayout_refl t
    rw [this]
    simp [h]
  rw [hd, liesAt, h1]; rfl

include ok in
theorem ustrF_sound (hr : Rel ι A w) {pt rt : TypeId} {ts : Array TypeId} {x x' n n' v : Value} {args : Array Value} (h : ustrF tb A pt x n = .ok (v, A')) (hx : VR ι x x') (hn : VR ι n n')
    (ht : ts[0]? = some pt) (ha : args = #[x', n']) :
    ∃ w' v', (Builtin.unsafeString_ ts rt args).run tb.P w = .ok v' w' ∧ VR ι v v' ∧ Rel ι A' w' ∧ Stp ι A w ι A' w' := by
  subst ha
  unfold ustrF at h
  obtain ⟨m, h1, h2⟩ := R.bind_ok h
  obtain ⟨k, rfl, rfl⟩ := natV_sound h1 hn
  clear h
  split at h2
  · rename_i a e hd
    cases hx with
    | ptr hl =>
      rename_i b o l
      simp only at h2
      split at h2
      · rename_i t xk fz c _ hg hde
        obtain ⟨size, h3, h4⟩ := R.bind_ok h2
        cases hb : (Nat.beq t e && Nat.beq size 1 && Nat.blt 0 m && Nat.ble m 16777216 && (Nat.blt fz 9223372036854775808 && Nat.blt (o + m) 9223372036854775808)) with
        | false => rw [hb] at h4; cases h4
        | true =>
          rw [hb] at h4; simp only [cond_true] at h4
          simp only [Bool.and_eq_true] at hb
          obtain rfl := beq_true hb.1.1.1.1
          have hs1 := beq_true hb.1.1.1.2
          have hm0 := blt_true hb.1.1.2
          have hmax := ble_true hb.1.2
          have hfzb := blt_true hb.2.1
          have hofb := blt_true hb.2.2
          split at h4
          · rename_i vs hvs
            split at h4
            · cases h4
            · rename_i hnm
              obtain ⟨bs, h5, h6⟩ := R.bind_ok h4
              simp only [R.ok.injEq, Prod.mk.injEq] at h6
              obtain ⟨rfl, rfl⟩ := h6
              obtain ⟨o', hw, hor⟩ := hr.obs _ _ _ hg rfl hl
              obtain ⟨cs, fr, rfl, hcs, hcell, hfr⟩ := hor
              obtain ⟨q1, q2⟩ := T.gets_spec _ _ _ _ hvs
              have hcs2 : ∀ j, j < m → ∃ u, cs[o + j + l.sh]? = some u ∧ ∀ v, vs[j]? = some v → VR ι v u := by
                intro j hj
                have hj' : j < vs.length := by omega
                have e := q2 j hj
                rw [List.getElem?_eq_getElem hj'] at e
                obtain ⟨u, e1, r⟩ := hcell _ _ e
                exact ⟨u, e1, fun v hv => by rw [List.getElem?_eq_getElem hj'] at hv; cases hv; exact r⟩
              have hbound : o + l.sh + m ≤ cs.size := by
                obtain ⟨u, e, _⟩ := hcs2 (m - 1) (by omega)
                have := (Array.getElem?_eq_some_iff.1 e).1
                omega
              let vs' := (cs.toList.drop (o + l.sh)).take m
              have hvr : VRs ι vs vs' := by
                refine VRs.of_get ?_ fun j v v' hv hv' => ?_
                · simp only [vs', List.length_take, List.length_drop, Array.length_toList]; omega
                · have hj : j < m := by
                    rcases Nat.lt_or_ge j m with h | h
                    · exact h
                    · rw [List.getElem?_eq_none (by omega)] at hv; cases hv
                  obtain ⟨u, e, r⟩ := hcs2 j hj
                  simp only [vs'] at hv'
                  rw [List.getElem?_take_of_lt hj, List.getElem?_drop, Array.getElem?_toList, show o + l.sh + j = o + j + l.sh by omega, e] at hv'
                  cases hv'; exact r v hv
              have hlb := loadBytes_run tb.P w vs vs' bs ⟨l.blk, o + l.sh, none⟩ .empty h5 hvr (fun j v hv => by
                have hj : j < m := by
                  rcases Nat.lt_or_ge j m with h | h
                  · exact h
                  · simp only [vs'] at hv
                    rw [List.getElem?_eq_none (by simp only [List.length_take]; omega)] at hv; cases hv
                simp only [vs'] at hv
                rw [List.getElem?_take_of_lt hj, List.getElem?_drop, Array.getElem?_toList] at hv
                rw [Addr_add_mk]
                simp only [World.cell?, hw, Option.isSome_none, Bool.false_eq_true, if_false]
                exact hv)
              rw [q1] at hlb
              have hcellsOf : tb.P.cellsOf t = 1 := by
                unfold sizeF at h3
                split at h3
                · rename_i i hi
                  simp only [R.ok.injEq] at h3
                  simp only [Program.cellsOf, ok.ty t i hi, Option.map_some, Option.getD_some]; omega
                · cases h3
              have hlies := liesAt_bytes (P := tb.P) (t := t) (n := m) (off := o + l.sh) (cells := cs.size) hcellsOf hbound
              have hva : (variablesAt ⟨l.blk, o + l.sh, none⟩ t m).run tb.P w = .ok true w := by
                simp only [variablesAt, Sem.run_bind, run_program, run_shape, shape_of hw, Result.andThen_ok, Sem.run_pure, hlies]
              let fr' : Nat × Nat := if fr.1 == fr.2 then (o + l.sh, o + l.sh + m) else (min fr.1 (o + l.sh), max fr.2 (o + l.sh + m))
              have hwf : Wu w (w.freeze ⟨l.blk, o + l.sh, none⟩ m) l.blk (.cells cs t fr') ∧ (w.freeze ⟨l.blk, o + l.sh, none⟩ m).heap.size = w.heap.size := by
                have hm0' : ¬ (m = 0) := by omega
                refine ⟨⟨?_, ?_, fun k hk hne => ?_, ?_, ?_, ?_, ?_⟩, ?_⟩ <;> simp only [World.freeze, if_neg hm0']
                · simp
                · simp [Array.getElem?_modify, hw, fr']
                · simp [Array.getElem?_modify, Ne.symm hne]
                · simp
                · simp
              obtain ⟨hrel, hst⟩ := hr.turn (ob := .cells t .row (bif Nat.ble fz (o + m) then o + m else fz) c) hg rfl hl (not_still hg fun t2 fz2 c2 e => by cases e; exact .inl hfzb) (fun t' k c' h => by
                exfalso
                have h2 : (bif Nat.ble fz (o + m) then o + m else fz) = GB k := by injection h
                unfold GB at h2
                cases hq : Nat.ble fz (o + m) with
                | true => rw [hq, cond_true] at h2; omega
                | false => rw [hq, cond_false] at h2; omega) hwf.1 hwf.2 ⟨cs, fr', rfl, hcs, hcell, by
                have hfz : o + m ≤ (bif Nat.ble fz (o + m) then o + m else fz) ∧ fz ≤ (bif Nat.ble fz (o + m) then o + m else fz) := by
                  cases hq : Nat.ble fz (o + m) with
                  | true => have := ble_true hq; simp only [cond_true]; omega
                  | false => have := ble_false hq; simp only [cond_false]; omega
                have hfr2 : fr.2 ≤ l.sh + fz := by
                  cases xk with
                  | var n => obtain ⟨_, _, rfl⟩ := hfr; simp
                  | row => exact hfr
                  | mark => exact absurd rfl hnm
                  | room n => exact hfr.1
                simp only [fr']
                split <;> simp only <;> omega⟩
              refine ⟨_, strOf bs, ?_, .string _, hrel, hst⟩
              have hel : (elemOf pt).run tb.P w = .ok t w := by simp only [elemOf, Sem.run_bind, und_run ok hd, Result.andThen_ok, Sem.run_pure]
              have c1 : ¬ (Int.ofNat m < 0) := by simp only [Int.ofNat_eq_natCast]; omega
              have c2 : ¬ (Int.ofNat m > IntKind.i64.max) := by simp only [Int.ofNat_eq_natCast, IntKind.max, IntKind.signed, IntKind.bits, if_true]; omega
              have c3 : ¬ (Int.ofNat m = 0) := by simp only [Int.ofNat_eq_natCast]; omega
              have tn : (Int.ofNat m).toNat = m := rfl
              change Sem.run tb.P (Bind.bind (asInt (.int k (.ofNat m))) _) w = _
              simp only [asInt, asIntOf, Sem.run_bind, Sem.run_pure, Result.andThen_ok, ht, if_neg c1, if_neg c2, if_neg c3, hel, tn, hva, if_true, hlb, run_freeze]
              simp [strOf]
          · cases h4
      · cases h2
  · cases h2

/-- What an operation hands its slot. -/
def NxV (nx : Next) (v : Value) : Prop := nx = .value v ∨ nx = .skip ∧ v = undef

include ok in
theorem builtinLF_sound (hr : Rel ι A w) {b : Builtin} {ts : Array TypeId} {cs : Array Bool} {rt : TypeId} {args : List Value} {args' : Array Value} {v : Value} (h : builtinLF tb A b ts.toList args = .ok (v, A')) (ha : VRs ι args args'.toList) (hfree : Free ι A A') :
    ∃ ι' w' v', (builtin b ts rt cs args').run tb.P w = .ok (.value v') w' ∧ VR ι' v v' ∧ Rel ι' A' w' ∧ Stp ι A w ι' A' w' := by
  have wrap : ∀ {s : Sem Value}, (∃ ι' w' v', s.run tb.P w = .ok v' w' ∧ VR ι' v v' ∧ Rel ι' A' w' ∧ Stp ι A w ι' A' w') →
      ∃ ι' w' v', (do pure (Next.value (← s)) : Sem Next).run tb.P w = .ok (.value v') w' ∧ VR ι' v v' ∧ Rel ι' A' w' ∧ Stp ι A w ι' A' w' := by
    rintro s ⟨ι', w', v', e, r⟩
    exact ⟨ι', w', v', by simp only [Sem.run_bind, e, Result.andThen_ok, Sem.run_pure], r⟩
  have wrap0 : ∀ {s : Sem Value}, (∃ w' v', s.run tb.P w = .ok v' w' ∧ VR ι v v' ∧ Rel ι A' w' ∧ Stp ι A w ι A' w') →
      ∃ ι' w' v', (do pure (Next.value (← s)) : Sem Next).run tb.P w = .ok (.value v') w' ∧ VR ι' v v' ∧ Rel ι' A' w' ∧ Stp ι A w ι' A' w' := by
    rintro s ⟨w', v', h⟩
    exact wrap ⟨ι, w', v', h⟩
  have tsn : ∀ {t : TypeId} {i : Nat} {l : List TypeId}, ts.toList = l → l[i]? = some t → ts[i]? = some t := by
    rintro t i l rfl e; rw [← Array.getElem?_toList]; exact e
  have asn : ∀ {x : Value} {i : Nat} {l : List Value}, args'.toList = l → l[i]? = some x → args'[i]? = some x := by
    rintro t i l rfl e; rw [← Array.getElem?_toList]; exact e
  unfold builtinLF at h
  split at h
  · rename_i st xt tl s x sl hts
    obtain ⟨s', t1, e, hs, h1⟩ := ha.cons_inv
    obtain ⟨x', t2, e2, hx, h2⟩ := h1.cons_inv
    subst e2
    exact wrap (appendF_sound ok hr h hs hx (tsn hts rfl) (tsn hts rfl) (asn e rfl) (asn e rfl) hfree)
  · rename_i dt tl d s sl hts
    obtain ⟨d', t1, e, hd, h1⟩ := ha.cons_inv
    obtain ⟨s', t2, e2, hs, h2⟩ := h1.cons_inv
    subst e2
    exact wrap0 (copyF_sound ok hr h hd hs (tsn hts rfl) (asn e rfl) (asn e rfl))
  · rename_i t tl x xl hts
    obtain ⟨x', t1, e, hx, h1⟩ := ha.cons_inv
    exact wrap0 (clearF_sound ok hr h hx (tsn hts rfl) (asn e rfl))
  · rename_i t tl m k kl hts
    obtain ⟨m', t1, e, hm, h1⟩ := ha.cons_inv
    obtain ⟨k', t2, e2, hk, h2⟩ := h1.cons_inv
    subst e2
    exact wrap0 (deleteF_sound ok hr h hm hk (tsn hts rfl) (asn e rfl) (asn e rfl))
  · rename_i t tl x n hts
    obtain ⟨x', t1, e, hx, h1⟩ := ha.cons_inv
    obtain ⟨n', t2, e2, hn, h2⟩ := h1.cons_inv
    subst e2
    cases h2
    exact wrap0 (ustrF_sound ok hr h hx hn (tsn hts rfl) (by apply Array.ext'; exact e))
  · cases h

include ok in
theorem lOp_sound (hr : Rel ι A w) {n : Nat} {τ : T Value} {a : Act} {o : Oper} {v : Value} (h : lOp tb τ A o.op = .ok (v, A')) (ht : TR ι n τ a.tmps) (hfree : Free ι A A') :
    ∃ ι' w' nx v', (execOp a.eval o).run tb.P w = .ok nx w' ∧ NxV nx v' ∧ VR ι' v v' ∧ Rel ι' A' w' ∧ Stp ι A w ι' A' w' := by
  have unit : ∀ {s : Sem Unit}, (∃ w', s.run tb.P w = .ok () w' ∧ Rel ι A' w' ∧ Stp ι A w ι A' w') →
      ∃ ι' w' nx v', (do s; pure .skip : Sem Next).run tb.P w = .ok nx w' ∧ NxV nx v' ∧ VR ι' unitV v' ∧ Rel ι' A' w' ∧ Stp ι A w ι' A' w' := by
    rintro s ⟨w', e, r⟩
    exact ⟨ι, w', .skip, undef, by simp only [Sem.run_bind, e, Result.andThen_ok, Sem.run_pure], .inr ⟨rfl, rfl⟩, .tuple .nil, r⟩
  have val : ∀ {s : Sem Value}, (∃ ι' w' v', s.run tb.P w = .ok v' w' ∧ VR ι' v v' ∧ Rel ι' A' w' ∧ Stp ι A w ι' A' w') →
      ∃ ι' w' nx v', (do pure (Next.value (← s)) : Sem Next).run tb.P w = .ok nx w' ∧ NxV nx v' ∧ VR ι' v v' ∧ Rel ι' A' w' ∧ Stp ι A w ι' A' w' := by
    rintro s ⟨ι', w', v', e, r⟩
    exact ⟨ι', w', _, v', by simp only [Sem.run_bind, e, Result.andThen_ok, Sem.run_pure], .inl rfl, r⟩
  unfold lOp at h
  split at h <;> rename_i hop <;> simp only [execOp, hop]
  · obtain ⟨x, h1, h2⟩ := R.bind_ok h
    obtain ⟨u, h3, h4⟩ := R.bind_ok h2
    obtain ⟨A2, h5, h6⟩ := R.bind_ok h4
    simp only [R.ok.injEq, Prod.mk.injEq] at h6
    obtain ⟨rfl, rfl⟩ := h6
    exact unit (storeF_sound ok hr h5 (ev_sound h1 ht) (ev_sound h3 ht))
  · obtain ⟨m, h1, h2⟩ := R.bind_ok h
    obtain ⟨k, h3, h4⟩ := R.bind_ok h2
    obtain ⟨u, h5, h6⟩ := R.bind_ok h4
    obtain ⟨A2, h7, h8⟩ := R.bind_ok h6
    simp only [R.ok.injEq, Prod.mk.injEq] at h8
    obtain ⟨rfl, rfl⟩ := h8
    exact unit (mapUpdateF_sound ok hr h7 (ev_sound h1 ht) (ev_sound h3 ht) (ev_sound h5 ht))
  · obtain ⟨m, h1, h2⟩ := R.bind_ok h
    obtain ⟨k, h3, h4⟩ := R.bind_ok h2
    obtain ⟨u, h5, h6⟩ := R.bind_ok h4
    obtain ⟨A2, h7, h8⟩ := R.bind_ok h6
    simp only [R.ok.injEq, Prod.mk.injEq] at h8
    obtain ⟨rfl, rfl⟩ := h8
    exact unit (mapUpdateF_sound ok hr h7 (ev_sound h1 ht) (ev_sound h3 ht) (ev_sound h5 ht))
  · obtain ⟨x, h1, h2⟩ := R.bind_ok h
    exact val (rangeF_sound ok hr h2 (ev_sound h1 ht) hfree)
  · obtain ⟨x, h1, h2⟩ := R.bind_ok h
    obtain ⟨w', v', r⟩ := nextF_sound (rt := o.type) hr h2 (ev_sound h1 ht) tb.P
    exact val ⟨ι, w', v', r⟩
  · rename_i c
    split at h
    · rename_i b hb
      obtain ⟨args, h1, h2⟩ := R.bind_ok h
      have ha := evs_sound h1 ht
      obtain ⟨ι', w', v', e, r⟩ := builtinLF_sound ok hr (cs := c.args.map fun | .const _ => true | _ => false) (rt := o.type) (args' := c.args.map a.eval) h2 (by simpa using ha) hfree
      refine ⟨ι', w', _, v', ?_, .inl rfl, r⟩
      simp only [resolve, hb, Sem.run_bind, Sem.run_pure, Result.andThen_ok, invoke]
      exact e
    · cases h
  · cases h

end Go.Am

/-
  The abstract machine AM, part 21: what is called.
-/
namespace Go.Am
variable {tb : Tab} (ok : TabOk tb) {ι : Inj} {A : Mem} {w : World}

inductive PlR (ι : Inj) : Pl → Place → Prop
  | val {v v' : Value} (h : VR ι v v') : PlR ι (.val v) (.val v')
  | var {a a' : Addr} (h : VR ι (.pointer (some a)) (.pointer (some a'))) : PlR ι (.var a) (.var a')

include ok in
theorem Pl_get_sound (hr : Rel ι A w) {t : TypeId} {x : Pl} {x' : Place} {v : Value} (h : x.get tb A.get t = .ok v) (hx : PlR ι x x') : ∃ v', (x'.get t).run tb.P w = .ok v' w ∧ VR ι v v' := by
  cases hx with
  | val hv => simp only [Pl.get, R.ok.injEq] at h; subst h; exact ⟨_, rfl, hv⟩
  | var ha =>
    simp only [Pl.get] at h
    obtain ⟨v', e, r⟩ := loadF_sound ok hr h ha
    refine ⟨v', ?_, r⟩
    simpa only [Place.get, Instr.loadAt, Instr.sureAddr, Sem.run_bind, Sem.run_pure, Result.andThen_ok] using e

include ok in
theorem followF_sound (hr : Rel ι A w) : ∀ {path : List FieldStep} {t : TypeId} {x : Pl} {x' : Place} {r : TypeId × Pl}, followF tb A.get path t x = .ok r → PlR ι x x' →
    ∃ y', (follow path t x').run tb.P w = .ok (r.1, y') w ∧ PlR ι r.2 y'
  | [], t, x, x', r, h, hx => by
    simp only [followF, R.ok.injEq] at h; subst h
    exact ⟨x', rfl, hx⟩
  | s :: rest, t, x, x', r, h, hx => by
    unfold followF at h
    split at h
    · rename_i fs hd
      split at h
      · rename_i f hf
        have hf' : fs[s.index]? = some f := by rw [← Array.getElem?_toList]; exact hf
        obtain ⟨n, h1, h2⟩ := R.bind_ok h
        clear h
        split at h2
        · rename_i hdr
          obtain ⟨v, h3, h4⟩ := R.bind_ok h2
          obtain ⟨v', e1, rv⟩ := Pl_get_sound ok hr h3 hx
          split at h4
          · rename_i a
            split at h4
            · rename_i hsp
              cases hb : Nat.beq n 0 with
              | true => rw [hb] at h4; cases h4
              | false =>
                rw [hb] at h4; simp only [cond_false] at h4
                cases rv with
                | ptr hl =>
                  rename_i b o l
                  obtain ⟨y', e2, r2⟩ := followF_sound hr h4 (x' := .var ⟨l.blk, o + l.sh + f.offset, none⟩) (.var (by
                    have := VR.ptr (ι := ι) (o := o + f.offset) hl
                    rw [Nat.add_right_comm] at this; exact this))
                  refine ⟨y', ?_, r2⟩
                  simp only [follow, Sem.run_bind, und_run ok hd, Result.andThen_ok, hf', hdr, if_true, e1, asAddr, Sem.run_pure, fieldPlace, sizeF_run ok h1, if_neg (beq_false hb), Addr_add_mk]
                  exact e2
            · cases h4
          · cases h4
        · rename_i hdr
          split at h2
          · rename_i a
            split at h2
            · rename_i hsp
              cases hb : Nat.beq n 0 with
              | true => rw [hb] at h2; cases h2
              | false =>
                rw [hb] at h2; simp only [cond_false] at h2
                cases hx with
                | var ha =>
                  cases ha with
                  | ptr hl =>
                    rename_i b o l
                    obtain ⟨y', e2, r2⟩ := followF_sound hr h2 (x' := .var ⟨l.blk, o + l.sh + f.offset, none⟩) (.var (by
                      have := VR.ptr (ι := ι) (o := o + f.offset) hl
                      rw [Nat.add_right_comm] at this; exact this))
                    refine ⟨y', ?_, r2⟩
                    simp only [follow, Sem.run_bind, und_run ok hd, Result.andThen_ok, hf', hdr, Bool.false_eq_true, if_false, Sem.run_pure, fieldPlace, sizeF_run ok h1, if_neg (beq_false hb), Addr_add_mk]
                    exact e2
            · cases h2
          · rename_i cs
            obtain ⟨v, h3, h4⟩ := R.bind_ok h2
            cases hx with
            | val hv =>
              cases hv with
              | agg hcs =>
                obtain ⟨v', e1, rv⟩ := partF_sound ok h3 hcs
                obtain ⟨y', e2, r2⟩ := followF_sound hr h4 (.val rv)
                refine ⟨y', ?_, r2⟩
                simp only [follow, Sem.run_bind, und_run ok hd, Result.andThen_ok, hf', hdr, Bool.false_eq_true, if_false, e1]
                exact e2
          · cases h2
      · cases h
    · cases h

include ok in
theorem receiverF_sound (hr : Rel ι A w) {xt : TypeId} {x : Pl} {x' : Place} {ptr : Bool} {wr : Option String} {v : Value} (h : receiverF tb A.get xt x ptr = .ok v) (hx : PlR ι x x') :
    ∃ v', (receiverAt xt x' ptr wr).run tb.P w = .ok v' w ∧ VR ι v v' := by
  unfold receiverF at h
  split at h
  · rename_i e hd
    obtain ⟨v', e1, r⟩ := Pl_get_sound ok hr h hx
    refine ⟨v', ?_, r⟩
    simp only [receiverAt, Sem.run_bind, und_run ok hd, Result.andThen_ok]
    exact e1
  · rename_i elem hd
    obtain ⟨u, h1, h2⟩ := R.bind_ok h
    obtain ⟨u', e1, ru⟩ := Pl_get_sound ok hr h1 hx
    split at h2
    · rename_i a
      have ru0 := ru
      cases ru with
      | ptr hl =>
        obtain ⟨v', e2, rv⟩ := loadF_sound ok hr h2 ru0
        refine ⟨v', ?_, rv⟩
        have e3 : ∀ (nm : String) (p : Addr), (Builtin.ssaWrapNilChk_ #[xt] xt #[.pointer (some p), strVal "", strVal nm]).run tb.P w = .ok (.pointer (some p)) w := fun nm p => rfl
        simp only [Instr.loadAt, Instr.sureAddr, Sem.run_bind, Sem.run_pure, Result.andThen_ok] at e2
        cases wr with
        | none =>
          simp only [receiverAt, Sem.run_bind, und_run ok hd, Result.andThen_ok, e1, Sem.run_pure, asAddr]
          exact e2
        | some nm =>
          simp only [receiverAt, Sem.run_bind, und_run ok hd, Result.andThen_ok, e1, e3, asAddr, Sem.run_pure]
          exact e2
    · cases h2
  · rename_i d hne a hd
    simp only [R.ok.injEq] at h; subst h
    cases hx with
    | var ha =>
      refine ⟨_, ?_, ha⟩
      simp only [receiverAt, Sem.run_bind, und_run ok hd, Result.andThen_ok]
      cases d <;> first | rfl | exact absurd rfl (hne _)
  · cases h
  · rename_i d hne hd
    obtain ⟨v', e1, r⟩ := Pl_get_sound ok hr h hx
    refine ⟨v', ?_, r⟩
    simp only [receiverAt, Sem.run_bind, und_run ok hd, Result.andThen_ok]
    cases d <;> first | (cases hx <;> exact e1) | exact absurd rfl (hne _)
  · cases h

end Go.Am
