/-
  The abstract machine AM: a machine for programs of the model that draws nothing and moves no block; and the proof that what it answers the model answers.
  Part H: no conditions.
-/
import Derived.Test.YtoflaiakfmofoaaGreatDoorAmG

/-
  The abstract machine AM, part 62: a map's entries, one by one, in an order that is open.
-/
namespace Go.Am
variable {tb : Tab} (ok : TabOk tb) {P : Program} {N : Nat}

/-! ### Rows of entries -/

/-- Those that have not been met. -/
def leftM (done es : List MapEntry) : List MapEntry := es.filter fun e => !((done.map (·.born)).contains e.born)

theorem perm_filter_ne {l : List MapEntry} (hn : (l.map (·.born)).Nodup) {e : MapEntry} (he : e ∈ l) : l.Perm (e :: l.filter fun x => !(x.born == e.born)) := by
  induction l with
  | nil => cases he
  | cons x l ih =>
    simp only [List.map_cons, List.nodup_cons] at hn
    rcases List.mem_cons.1 he with rfl | he
    · have h0 : (l.filter fun x => !(x.born == e.born)) = l := by
        rw [List.filter_eq_self]
        intro y hy
        have : y.born ≠ e.born := fun h => hn.1 (List.mem_map.2 ⟨y, hy, h⟩)
        simpa using this
      rw [List.filter_cons_of_neg (by simp), h0]
    · have hne : x.born ≠ e.born := fun h => hn.1 (List.mem_map.2 ⟨e, he, h.symm⟩)
      rw [List.filter_cons_of_pos (by simpa using hne)]
      exact ((ih hn.2 he).cons x).trans (.swap _ _ _)

theorem leftM_push (done es : List MapEntry) (e : MapEntry) : leftM (done ++ [e]) es = (leftM done es).filter fun x => !(x.born == e.born) := by
  unfold leftM
  rw [List.filter_filter]
  congr 1
  funext x
  simp only [List.map_append, List.map_cons, List.map_nil, List.contains_append, Bool.not_or]
  rw [Bool.and_comm]
  congr 1
  by_cases h : x.born = e.born
  · simp [h]
  · simp [h]

theorem nodup_filter {l : List MapEntry} (p : MapEntry → Bool) (h : (l.map (·.born)).Nodup) : ((l.filter p).map (·.born)).Nodup :=
  h.sublist (List.Sublist.map _ List.filter_sublist)

theorem perm_step {done es : List MapEntry} {e : MapEntry} (hn : (es.map (·.born)).Nodup) (hp : (done ++ leftM done es).Perm es) (he : e ∈ leftM done es) : ((done ++ [e]) ++ leftM (done ++ [e]) es).Perm es := by
  rw [leftM_push, List.append_assoc]
  have := perm_filter_ne (nodup_filter _ hn) he
  exact ((this.symm.append_left done)).trans hp

theorem leftM_lt {done es : List MapEntry} {e : MapEntry} (hn : (es.map (·.born)).Nodup) (he : e ∈ leftM done es) : (leftM (done ++ [e]) es).length < (leftM done es).length := by
  rw [leftM_push]
  have := (perm_filter_ne (nodup_filter _ hn) he).length_eq
  simp only [List.length_cons] at this
  exact Nat.lt_of_lt_of_eq (Nat.lt_succ_self _) this.symm

theorem find_born {l : List MapEntry} (hn : (l.map (·.born)).Nodup) {e : MapEntry} (he : e ∈ l) : l.find? (·.born == e.born) = some e := by
  induction l with
  | nil => cases he
  | cons x l ih =>
    simp only [List.map_cons, List.nodup_cons] at hn
    rcases List.mem_cons.1 he with rfl | he
    · simp
    · have hne : x.born ≠ e.born := fun h => hn.1 (List.mem_map.2 ⟨e, he, h.symm⟩)
      rw [List.find?_cons_of_neg (by simpa using hne)]
      exact ih hn.2 he

theorem ERs.borns {ι : Inj} : ∀ {l l' : List MapEntry}, ERs ι l l' → l'.map (·.born) = l.map (·.born)
  | _, _, .nil => rfl
  | _, _, .cons _ hb _ ht => by simp [hb, ht.borns]

theorem ERs.filter {ι : Inj} (p : Nat → Bool) : ∀ {l l' : List MapEntry}, ERs ι l l' → ERs ι (l.filter fun e => p e.born) (l'.filter fun e => p e.born)
  | _, _, .nil => .nil
  | _, _, .cons (e := e) (e' := e') hk hb hv ht => by
    cases h : p e.born with
    | true => rw [List.filter_cons_of_pos (by simpa using h), List.filter_cons_of_pos (by simpa [hb] using h)]; exact .cons hk hb hv (ht.filter p)
    | false => rw [List.filter_cons_of_neg (by simp [h]), List.filter_cons_of_neg (by simp [hb, h])]; exact ht.filter p
theorem ERs.at_ {ι : Inj} : ∀ {l l' : List MapEntry}, ERs ι l l' → ∀ (i : Nat) (e' : MapEntry), l'[i]? = some e' → ∃ e, l[i]? = some e ∧ VR ι e.key e'.key ∧ e'.born = e.born ∧ VR ι e.val e'.val
  | _, _, .nil, i, e', h => by simp at h
  | _, _, .cons hk hb hv ht, 0, e', h => by
    simp only [List.getElem?_cons_zero, Option.some.injEq] at h
    subst h
    exact ⟨_, rfl, hk, hb, hv⟩
  | _, _, .cons hk hb hv ht, i + 1, e', h => ht.at_ i e' (by simpa using h)
theorem ERs.to_ {ι : Inj} : ∀ {l l' : List MapEntry}, ERs ι l l' → ∀ (i : Nat) (e : MapEntry), l[i]? = some e → ∃ e', l'[i]? = some e' ∧ VR ι e.key e'.key ∧ e'.born = e.born ∧ VR ι e.val e'.val
  | _, _, .nil, i, e', h => by simp at h
  | _, _, .cons hk hb hv ht, 0, e', h => by
    simp only [List.getElem?_cons_zero, Option.some.injEq] at h
    subst h
    exact ⟨_, rfl, hk, hb, hv⟩
  | _, _, .cons hk hb hv ht, i + 1, e', h => ht.to_ i e' (by simpa using h)

/-! ### The machine's own steps -/

theorem range_run {w : World} {t : TypeId} {kt vt : TypeId} {r clock : Nat} {es : Array MapEntry} (ht : (underlying t).run P w = .ok (.map kt vt) w) (hw : w.heap[r]? = some (.map es clock)) :
    (Instr.range t (.map (some r))).run P w = .ok (.pointer (some ⟨w.heap.size, 0, none⟩)) { w with heap := w.heap.push (.mapIter (some r) clock #[] clock) } := by
  unfold Instr.range
  simp only [Sem.run_bind, ht, Result.andThen_ok, getObj_run hw (by simp), Sem.run_pure, run_newObj]

/-- The next entry: one of those that have not been met. -/
theorem next_run {w : World} {it r clock : Nat} {es : Array MapEntry} {sn : Array Nat} {rt : TypeId} (hit : w.heap[it]? = some (.mapIter (some r) clock sn clock)) (hw : w.heap[r]? = some (.map es clock)) (hlt : ∀ e ∈ es.toList, e.born < clock) :
    (∃ d, w.drawn ≤ d ∧ ((es.toList.filter fun e => !sn.contains e.born) = [] ∧ (Instr.next (.pointer (some ⟨it, 0, none⟩)) false rt).run P w = .ok (.tuple #[.bool false]) { w with drawn := d })) ∨
    ∃ (i : Nat) (e : MapEntry) (d : Nat), w.drawn ≤ d ∧ (es.toList.filter fun e => !sn.contains e.born)[i]? = some e ∧ (Instr.next (.pointer (some ⟨it, 0, none⟩)) false rt).run P w = .ok (.tuple #[.bool true, e.key, e.val]) { w with heap := w.heap.setIfInBounds it (.mapIter (some r) clock (sn.push e.born) clock), drawn := d } := by
  have hall : (!sn.isEmpty && !es.isEmpty && es.all fun x => decide (x.born ≥ clock)) = false := by
    cases hes : es.isEmpty with
    | true => simp
    | false =>
      have : (es.all fun x => decide (x.born ≥ clock)) = false := by
        rw [Bool.eq_false_iff]
        intro hall
        rw [Array.all_eq_true'] at hall
        obtain ⟨e, he⟩ : ∃ e, e ∈ es := by
          have : es ≠ #[] := by simpa using hes
          obtain ⟨e, he⟩ := Array.exists_mem_of_ne_empty es this
          exact ⟨e, he⟩
        have h1 := hall e he
        have h2 := hlt e (by simpa using he)
        simp at h1
        omega
      simp [this]
  have hold : ((es.filter fun e => !sn.contains e.born).filter fun e => decide (e.born < clock)) = es.filter fun e => !sn.contains e.born := by
    apply Array.ext'
    simp only [Array.toList_filter]
    rw [List.filter_eq_self]
    intro x hx
    have := hlt x ((List.mem_filter.1 hx).1)
    simpa using this
  have hnew : ((es.filter fun e => !sn.contains e.born).filter fun e => decide (e.born ≥ clock)) = #[] := by
    apply Array.ext'
    simp only [Array.toList_filter]
    rw [List.filter_eq_nil_iff]
    intro x hx
    have := hlt x ((List.mem_filter.1 hx).1)
    simp; omega
  generalize hL : es.filter (fun e => !sn.contains e.born) = L at *
  have hL' : es.toList.filter (fun e => !sn.contains e.born) = L.toList := by rw [← hL, Array.toList_filter]
  rw [hL']
  have hnx : ∀ (cands : Array (Option MapEntry)), cands = (if L.isEmpty then #[none] else #[]) ++ (L ++ #[]).map some →
      (Instr.next (.pointer (some ⟨it, 0, none⟩)) false rt).run P w = (do
        match cands[← choose (.mapNext cands.size)]? with
        | some (some e) =>
          setObj it (.mapIter (some r) clock (sn.push e.born) clock)
          pure (.tuple #[.bool true, e.key, e.val])
        | some none => pure (.tuple #[.bool false])
        | none => stuck "Next: no such candidate" : Sem Value).run P w := by
    intro cands hc
    subst hc
    unfold Instr.next
    simp only [Sem.run_bind, getObj_run hit (by simp), Result.andThen_ok, getObj_run hw (by simp), hall, Bool.false_eq_true, if_false, hL, hold, hnew]
    rfl
  have hlt : it < w.heap.size := (Array.getElem?_eq_some_iff.1 hit).1
  by_cases he : L = #[]
  · left
    subst he
    refine ⟨w.drawn, Nat.le_refl _, rfl, ?_⟩
    rw [hnx #[none] (by simp)]
    simp only [Sem.run_bind, run_choose]
    rfl
  · right
    have hpos : 0 < L.size := by
      rcases Nat.eq_zero_or_pos L.size with h | h
      · exact absurd (Array.eq_empty_of_size_eq_zero h) he
      · exact h
    have hem : L.isEmpty = false := by simpa using he
    obtain ⟨a, d, ha, hdd, hch⟩ : ∃ a d, a < L.size ∧ w.drawn ≤ d ∧ (choose (.mapNext L.size)).run P w = .ok a { w with drawn := d } := by
      rw [run_choose]
      cases hf : (Question.mapNext L.size).forced with
      | true => exact ⟨0, w.drawn, hpos, Nat.le_refl _, rfl⟩
      | false => exact ⟨_, w.drawn + 1, Nat.mod_lt (w.tape w.drawn (.mapNext L.size)) hpos, Nat.le_succ _, rfl⟩
    refine ⟨a, L[a], d, hdd, by simp [ha], ?_⟩
    rw [hnx (L.map some) (by simp [hem])]
    have hsz : (L.map some).size = L.size := by simp
    rw [Sem.run_bind, hsz, hch, Result.andThen_ok]
    have hg : (L.map some)[a]? = some (some L[a]) := by simp [ha]
    rw [hg]
    simp only [Sem.run_bind, setObj, Sem.run, hit]
    rfl

/-- The entry that was met last. -/
theorem entry_run {w : World} {it r clock : Nat} {es : Array MapEntry} {sn : Array Nat} {e : MapEntry} (hit : w.heap[it]? = some (.mapIter (some r) clock (sn.push e.born) clock)) (hw : w.heap[r]? = some (.map es clock)) (hn : (es.toList.map (·.born)).Nodup) (he : e ∈ es.toList) :
    (Instr.entry (.pointer (some ⟨it, 0, none⟩))).run P w = .ok (.tuple #[e.key, e.val]) w := by
  have hf : es.find? (·.born == e.born) = some e := by
    rw [← Array.find?_toList]; exact find_born hn he
  unfold Instr.entry
  simp only [Sem.run_bind, getObj_run hit (by simp), Result.andThen_ok, Array.back?_push, getObj_run hw (by simp), bne_self_eq_false, Bool.false_eq_true, if_false, hf, Sem.run_pure]


/-! ### A block of the machine of which nothing is known but that nobody writes it -/

/-- No block that lives stands for it. -/
def NL (ι : Inj) (A : Mem) (it : Nat) : Prop := ∀ b l, live A b → ι b = some l → l.blk ≠ it
theorem NL.keep {ι ι' : Inj} {A A' : Mem} {w w' : World} {it : Nat} (h : NL ι A it) (hlt : it < w.heap.size) (k : Stp ι A w ι' A' w') : NL ι' A' it ∧ w'.heap[it]? = w.heap[it]? ∧ it < w'.heap.size := by
  refine ⟨fun b l hb hl => ?_, k.fr it hlt h, Nat.lt_of_lt_of_le hlt k.size⟩
  rcases k.src b l hb hl with h1 | ⟨b0, l0, h1, h2, h3⟩
  · omega
  · rw [← h3]; exact h b0 l0 h1 h2

/-- The parts of the loop over a map's entries. -/
structure KeysF where
  f : FuncId
  fn : Func
  tM : TypeId
  tK : TypeId
  tV : TypeId
  i0 : Nat
  i1 : Nat
  i2 : Nat
  oL : Oper
  oR : Oper
  oN : Oper
  oX : Oper
  oE : Oper
  oX2 : Oper
  oA : Oper
  cT : Code

def KeysF.body (D : KeysF) : Code := .seq (.region D.i1 #[D.oN, D.oX] false) (.seq (.cond (.tmp 7) .skip (.exit 0)) (.block 1 (.seq (.region D.i2 #[D.oE, D.oX2, D.oA] false) D.cT)))

structure KeysOk (tb : Tab) (D : KeysF) : Prop where
  hf : tb.fn.get D.f = some D.fn
  hb : D.fn.body = some (.seq (.region D.i0 #[D.oL, D.oR] false) (.block 0 (.loop D.body)))
  hL : D.oL.op = .load D.tM (.tmp 1) ∧ D.oL.dst = some 4 ∧ D.oL.guard = none
  hR : D.oR.op = .range D.tM (.tmp 4) ∧ D.oR.dst = some 5 ∧ D.oR.guard = none
  hN : D.oN.op = .next (.tmp 5) false ∧ D.oN.dst = some 6 ∧ D.oN.guard = none
  hX : D.oX.op = .extract (.tmp 6) 0 ∧ D.oX.dst = some 7 ∧ D.oX.guard = none
  hE : D.oE.op = .entry (.tmp 5) ∧ D.oE.dst = some 8 ∧ D.oE.guard = none
  hX2 : D.oX2.op = .extract (.tmp 8) 0 ∧ D.oX2.dst = some 9 ∧ D.oX2.guard = none
  hA : D.oA.op = .assign (.tmp 9) ∧ D.oA.dst = some 3 ∧ D.oA.guard = none
  hn : D.fn.ntmps = 14
  hng : (D.fn.name == "runtime.NumGoroutine") = false
  hres : D.fn.results = #[]
  hu : tb.und D.tM = some (.map D.tK D.tV)

/-- What is known of a state in the loop. -/
structure KSt (yv : Value) (itA : Nat) (s : St) : Prop where
  n : s.n = 14
  d : s.d = []
  ro : s.ro = none
  y : s.t.get 0 = some yv
  i : s.t.get 5 = some (.pointer (some ⟨itA, 0, none⟩))

theorem stepR_val {b : Frame} {a : Act} {k : List Item} {cs : List Frame} {w w' : World} {ops : Array Oper} {i : Nat} {rest : List Nat} {o : Oper} {v : Value} (ho : ops[i]? = some o) (hg : o.guard = none) (hnd : ∀ c, o.op ≠ .defer c) (hr : (execOp a.eval o).run P w = .ok (.value v) w') :
    step P (lone (b.atR a (.inRegion ops (i :: rest) :: k)) cs w) = .next (lone (b.atR (a.put o.dst v) (.inRegion ops rest :: k)) cs w') :=
  stepR_op_next ho (by unfold Region.wanted; rw [hg]) hnd hr (.inl rfl)

theorem Rel.other {ι : Inj} {A : Mem} {w : World} {it d : Nat} {o : Obj} (h : Rel ι A w) (hn : NL ι A it) : Rel ι A { w with heap := w.heap.setIfInBounds it o, drawn := d } where
  wf := h.wf
  obs := fun b ob l hg ha hb => by
    obtain ⟨o', h1, h2⟩ := h.obs b ob l hg ha hb
    have hne : l.blk ≠ it := hn b l ⟨ob, hg, ha⟩ hb
    exact ⟨o', by show (w.heap.setIfInBounds it o)[l.blk]? = _; rw [Array.getElem?_setIfInBounds_ne (Ne.symm hne)]; exact h1, h2⟩
  rng := fun b l hb => by
    show l.blk < (w.heap.setIfInBounds it o).size
    rw [Array.size_setIfInBounds]; exact h.rng b l hb
  inj := h.inj
  gl := h.gl

theorem Stp.other {ι0 ι : Inj} {A0 A : Mem} {w0 w : World} {it d : Nat} {o : Obj} (h : Stp ι0 A0 w0 ι A w) (hr : ∀ b l, ι0 b = some l → l.blk < w0.heap.size) (hit : w0.heap.size ≤ it) (hd : w.drawn ≤ d) : Stp ι0 A0 w0 ι A { w with heap := w.heap.setIfInBounds it o, drawn := d } where
  next := h.next
  out := h.out
  src := h.src
  fr := fun c hc hn => by
    show (w.heap.setIfInBounds it o)[c]? = _
    rw [Array.getElem?_setIfInBounds_ne (by omega)]; exact h.fr c hc hn
  size := by
    show _ ≤ (w.heap.setIfInBounds it o).size
    rw [Array.size_setIfInBounds]; exact h.size
  os := h.os
  tape := h.tape
  output := h.output
  drawn := Nat.le_trans h.drawn hd
  kept := fun b l hb hs => by
    obtain ⟨h1, h2⟩ := h.kept b l hb hs
    have := hr b l hb
    refine ⟨h1, ?_⟩
    show (w.heap.setIfInBounds it o)[l.blk]? = _
    rw [Array.getElem?_setIfInBounds_ne (by omega)]; exact h2

include ok in
theorem opP {o : Oper} {op : Op} {ops : Array Oper} {i d : Nat} {s : St} {v : Value} (ho : o.op = op) (hg : o.guard = none) (hd : o.dst = some d) (hdn : d < s.n) (hc : cls tb op = .P) (hi : isCall op = none) (hp : pOp tb s.t op = .ok v) :
    OpSnd tb.P ops i o s { s with t := s.t.set d v } := by
  have h : opF tb (exec tb 0) o s (fun s => .ok (.nrm, s)) = .ok (.nrm, { s with t := s.t.set d v }) := by
    obtain ⟨dst, op', ty, pos, after, guard⟩ := o
    simp only at ho hg hd
    subst ho hg hd
    obtain ⟨t, n, dd, m, ro⟩ := s
    rw [opF_P (hc := hc) (hi := hi), hp, R.ok_bind, putT_some hdn]
  rcases opF_sound ok (callSnd ok (exec_sound ok 0)) (ops := ops) (i := i) h with ⟨v, s2, he, _⟩ | ⟨s2, he, hop⟩
  · cases he
  · cases he
    exact hop

include ok in
theorem opR {o : Oper} {op : Op} {ops : Array Oper} {i d : Nat} {s : St} {v : Value} (ho : o.op = op) (hg : o.guard = none) (hd : o.dst = some d) (hdn : d < s.n) (hc : cls tb op = .Rd) (hi : isCall op = none) (hp : rOp tb s.t s.m.get op = .ok v) :
    OpSnd tb.P ops i o s { s with t := s.t.set d v } := by
  have h : opF tb (exec tb 0) o s (fun s => .ok (.nrm, s)) = .ok (.nrm, { s with t := s.t.set d v }) := by
    obtain ⟨dst, op', ty, pos, after, guard⟩ := o
    simp only at ho hg hd
    subst ho hg hd
    obtain ⟨t, n, dd, m, ro⟩ := s
    rw [opF_Rd (hc := hc) (hi := hi), hp, R.ok_bind, putT_some hdn]
  rcases opF_sound ok (callSnd ok (exec_sound ok 0)) (ops := ops) (i := i) h with ⟨v, s2, he, _⟩ | ⟨s2, he, hop⟩
  · cases he
  · cases he
    exact hop

variable {D : KeysF} (hD : KeysOk tb D)
include ok hD in
/-- One more entry, or the end. -/
theorem keys_one {yv : Value} {itA m clock : Nat} {es : List MapEntry} (I : List MapEntry → Mem → Prop)
    (hlt : ∀ e ∈ es, e.born < clock) (hnd : (es.map (·.born)).Nodup)
    (hIm : ∀ done B, I done B → B.get m = some (.map es clock)) (hIN : ∀ done B, I done B → B.next ≤ N)
    (hstep : ∀ done e s, I done s.m → e ∈ es → done.length < es.length → KSt yv itA s → s.t.get 3 = some e.key → ∃ n s', exec tb n D.cT s = .ok (.nrm, s') ∧ I (done ++ [e]) s'.m ∧ KSt yv itA s')
    {ι0 : Inj} {s0 : St} {w0 : World} (hr0 : Rel ι0 s0.m w0)
    {done : List MapEntry} {ι : Inj} {s : St} {b : Frame} {a : Act} {k : List Item} {cs : List Frame} {w : World} {it mb : Nat} {lI lm : Loc} {sn : Array Nat}
    (hs : SR ι s b a w) (ht : Top N ι s.m) (hk : KSt yv itA s) (hI : I done s.m) (hiA : ι itA = some lI) (hbI : lI.blk = it) (hsI : lI.sh = 0) (hm : ι m = some lm) (hmb : lm.blk = mb) (hit : it < w.heap.size) (hnl : NL ι s.m it)
    (hw : w.heap[it]? = some (.mapIter (some mb) clock sn clock)) (hsn : sn.toList = done.map (·.born)) (hss : SStp ι0 s0 w0 ι s w) (hit0 : w0.heap.size ≤ it) (hpm : (done ++ leftM done es).Perm es) :
    (leftM done es = [] ∧ ∃ s1 ι' w' a' k', I done s1.m ∧ KSt yv itA s1 ∧ Steps tb.P (lone (b.atR a (.inLoop D.body :: k)) cs w) (lone (b.atR a' k') cs w') ∧ Arr (.exit 0) k k' ∧ SR ι' s1 b a' w' ∧ SStp ι0 s0 w0 ι' s1 w') ∨
    ∃ e ∈ leftM done es, ∃ s1 ι' w' a', I (done ++ [e]) s1.m ∧ KSt yv itA s1 ∧ Steps tb.P (lone (b.atR a (.inLoop D.body :: k)) cs w) (lone (b.atR a' (.inLoop D.body :: k)) cs w') ∧ SR ι' s1 b a' w' ∧ SStp ι0 s0 w0 ι' s1 w' ∧
      Top N ι' s1.m ∧ ι' itA = some lI ∧ ι' m = some lm ∧ it < w'.heap.size ∧ NL ι' s1.m it ∧ w'.heap[it]? = some (.mapIter (some mb) clock (sn.push e.born) clock) := by
  have hev : a.eval (.tmp 5) = .pointer (some ⟨it, 0, none⟩) := by
    obtain ⟨v', h1, h2⟩ := hs.tr.2 _ _ hk.i
    cases h2 with
    | ptr hl =>
      rw [hiA] at hl
      cases hl
      simp only [Act.eval, Array.getD_eq_getD_getElem?, h1, Option.getD_some, hbI, hsI]
  obtain ⟨o', hwm, h0m, es', rfl, hes⟩ := hs.rel.obs _ _ _ (hIm _ _ hI) rfl hm
  rw [hmb] at hwm
  have hlt' : ∀ e ∈ es'.toList, e.born < clock := by
    intro e he
    obtain ⟨i, hi⟩ := List.getElem?_of_mem he
    have hb := hes.borns
    have h1 : (es'.toList.map (·.born))[i]? = some e.born := by simp [hi]
    rw [hb, List.getElem?_map] at h1
    cases h2 : es[i]? with
    | none => rw [h2] at h1; cases h1
    | some x =>
      rw [h2] at h1
      simp only [Option.map_some, Option.some.injEq] at h1
      rw [← h1]; exact hlt x (List.mem_of_getElem? h2)
  have hleft : ERs ι (leftM done es) (es'.toList.filter fun e => !sn.contains e.born) := by
    have := hes.filter fun x => !((done.map (·.born)).contains x)
    have e2 : (fun e : MapEntry => !sn.contains e.born) = fun e => !((done.map (·.born)).contains e.born) := by
      funext e
      rw [← hsn, List.contains_toArray.symm]
    rw [e2]; exact this
  have st0 : Steps tb.P (lone (b.atR a (.inLoop D.body :: k)) cs w) (lone (b.atR a (.inRegion #[D.oN, D.oX] [0, 1] :: .code (.seq (.cond (.tmp 7) .skip (.exit 0)) (.block 1 (.seq (.region D.i2 #[D.oE, D.oX2, D.oA] false) D.cT))) :: .inLoop D.body :: k)) cs w) :=
    .head stepR_inLoop (.head stepR_seq (.one stepR_region))
  have hnn : ∀ c, D.oN.op ≠ .defer c := fun c h => by rw [hD.hN.1] at h; cases h
  have hne : ∀ c, D.oE.op ≠ .defer c := fun c h => by rw [hD.hE.1] at h; cases h
  have hexN : ∀ v w', (Instr.next (.pointer (some ⟨it, 0, none⟩)) false D.oN.type).run tb.P w = .ok v w' → (execOp a.eval D.oN).run tb.P w = .ok (.value v) w' := by
    intro v w' h
    simp only [execOp, hD.hN.1, hev, Sem.run_bind, h, Result.andThen_ok, Sem.run_pure]
  -- the state behind 'next', and behind what is taken out of it
  have mid : ∀ (va v' : Value) (w1 : World) (bv : Bool), VR ι va v' → extractF va 0 = .ok (.bool bv) → (execOp a.eval D.oN).run tb.P w = .ok (.value v') w1 → Rel ι s.m w1 → Stp ι0 s0.m w0 ι s.m w1 → w1.heap.size = w.heap.size →
      ∃ ι2 w2 a2, Steps tb.P (lone (b.atR a (.inLoop D.body :: k)) cs w) (lone (b.atR a2 (.code (.cond (.tmp 7) .skip (.exit 0)) :: .code (.block 1 (.seq (.region D.i2 #[D.oE, D.oX2, D.oA] false) D.cT)) :: .inLoop D.body :: k)) cs w2) ∧
        SR ι2 { s with t := (s.t.set 6 va).set 7 (.bool bv) } b a2 w2 ∧ SStp ι0 s0 w0 ι2 { s with t := (s.t.set 6 va).set 7 (.bool bv) } w2 ∧ InjLe ι ι2 ∧ NL ι2 s.m it ∧ w2.heap[it]? = w1.heap[it]? ∧ it < w2.heap.size ∧ a2.eval (.tmp 7) = .bool bv ∧ Top N ι2 s.m := by
    intro va v' w1 bv hva hex hrun hrel hstp hsz
    have hs1 : SR ι { s with t := s.t.set 6 va } b (a.put D.oN.dst v') w1 := by
      refine ⟨hrel, ?_, hs.ro, ?_⟩
      · rw [hD.hN.2.1]; exact hs.tr.set (by rw [hk.n]; omega) hva
      · have := hs.dr
        rw [hD.hN.2.1]; exact this
    have hop : OpSnd tb.P #[D.oN, D.oX] 1 D.oX { s with t := s.t.set 6 va } { s with t := (s.t.set 6 va).set 7 (.bool bv) } :=
      opP ok hD.hX.1 hD.hX.2.2 hD.hX.2.1 (by show 7 < s.n; rw [hk.n]; omega) rfl rfl (by
        show (evG ((s.t.set 6 va).get 6)).bind _ = _
        rw [T.get_set, if_pos rfl]
        exact hex)
    obtain ⟨ι2, w2, a2, st2, hs2, hss2⟩ := hop.2 ι b _ (.code (.seq (.cond (.tmp 7) .skip (.exit 0)) (.block 1 (.seq (.region D.i2 #[D.oE, D.oX2, D.oA] false) D.cT))) :: .inLoop D.body :: k) cs w1 [] hs1 (ht.free (hIN _ _ hI)) (by unfold Region.wanted; rw [hD.hX.2.2]) rfl
    have hle := ht.le (hIN _ _ hI) hss2.stp
    obtain ⟨g1, g2, g3⟩ := hnl.keep (by rw [hsz]; exact hit) hss2.stp
    have hb7 : a2.eval (.tmp 7) = .bool bv := by
      obtain ⟨v7, h1, h2⟩ := hs2.tr.2 7 (.bool bv) (by show ((s.t.set 6 va).set 7 (.bool bv)).get 7 = _; rw [T.get_set, if_pos rfl])
      simp only [Act.eval, Array.getD_eq_getD_getElem?, h1, Option.getD_some, h2.bool_inv]
    refine ⟨ι2, w2, a2, ?_, hs2, ⟨hstp.trans hss2.stp, hss.n, hss.ro⟩, hle, g1, g2, g3, hb7, ht.stp hss2.stp⟩
    exact (st0.trans (.one (stepR_val rfl hD.hN.2.2 hnn hrun))).trans (st2.trans (.head stepR_region_end (.one stepR_seq)))
  rcases next_run (P := tb.P) (rt := D.oN.type) hw hwm hlt' with ⟨d, hd, hem, hrun⟩ | ⟨i, e', d, hd, hi, hrun⟩
  · left
    have hnil : leftM done es = [] := by
      rw [hem] at hleft
      have := hleft.length
      exact List.length_eq_zero_iff.1 this.symm
    have hwd : ∀ x : Nat, Rel ι s.m { w with drawn := x } := fun x => ⟨hs.rel.wf, hs.rel.obs, hs.rel.rng, hs.rel.inj, hs.rel.gl⟩
    obtain ⟨ι2, w2, a2, st2, hs2, hss2, hle, g1, g2, g3, hb7, ht2⟩ := mid (.tuple ⟨[.bool false]⟩) (.tuple #[.bool false]) { w with drawn := d } false (.tuple (.cons (.bool _) .nil)) rfl (hexN _ _ hrun) (hwd d)
      ⟨hss.stp.next, hss.stp.out, hss.stp.src, hss.stp.fr, hss.stp.size, hss.stp.os, hss.stp.tape, hss.stp.output, hss.stp.kept, Nat.le_trans hss.stp.drawn hd⟩ rfl
    refine ⟨hnil, { s with t := (s.t.set 6 (.tuple ⟨[.bool false]⟩)).set 7 (.bool false) }, ι2, w2, a2, _, hI, ⟨hk.n, hk.d, hk.ro, ?_, ?_⟩, st2.trans (.one (stepR_cond hb7)), ⟨_, rfl, rfl⟩, hs2, hss2⟩
    · show ((s.t.set 6 _).set 7 _).get 0 = _
      simp [T.get_set, hk.y]
    · show ((s.t.set 6 _).set 7 _).get 5 = _
      simp [T.get_set, hk.i]
  · right
    obtain ⟨e, he, hke, hbe, hve⟩ := ERs.at_ hleft i e' hi
    have hmem : e ∈ leftM done es := List.mem_of_getElem? he
    have hes0 : e ∈ es := (List.mem_filter.1 hmem).1
    obtain ⟨ι2, w2, a2, st2, hs2, hss2, hle, g1, g2, g3, hb7, ht2⟩ := mid (.tuple ⟨[.bool true, e.key, e.val]⟩) (.tuple #[.bool true, e'.key, e'.val]) _ true (.tuple (.cons (.bool _) (.cons hke (.cons hve .nil)))) rfl (hexN _ _ hrun) (hs.rel.other hnl)
      (hss.stp.other hr0.rng hit0 hd) (by simp)
    have hw2 : w2.heap[it]? = some (.mapIter (some mb) clock (sn.push e'.born) clock) := by
      rw [g2]
      show (w.heap.setIfInBounds it _)[it]? = _
      rw [Array.getElem?_setIfInBounds_self_of_lt hit]
    -- the entry
    obtain ⟨o2, hwm2, _, es2, rfl, hes2⟩ := hs2.rel.obs _ _ _ (hIm _ _ hI) rfl (hle _ _ hm)
    rw [hmb] at hwm2
    obtain ⟨j, hj⟩ := List.getElem?_of_mem hes0
    obtain ⟨e2, he2, hk2, hb2, hv2⟩ := ERs.to_ hes2 j e hj
    have hnd2 : (es2.toList.map (·.born)).Nodup := by rw [hes2.borns]; exact hnd
    have hbb : e'.born = e2.born := by rw [hbe, hb2]
    rw [hbb] at hw2
    have hent := entry_run (P := tb.P) hw2 hwm2 hnd2 (List.mem_of_getElem? he2)
    have hev2 : a2.eval (.tmp 5) = .pointer (some ⟨it, 0, none⟩) := by
      obtain ⟨v', h1, h2⟩ := hs2.tr.2 5 (.pointer (some ⟨itA, 0, none⟩)) (by show ((s.t.set 6 _).set 7 _).get 5 = _; simp [T.get_set, hk.i])
      cases h2 with
      | ptr hl =>
        rw [hle _ _ hiA] at hl
        cases hl
        simp only [Act.eval, Array.getD_eq_getD_getElem?, h1, Option.getD_some, hbI, hsI]
    have hexE : (execOp a2.eval D.oE).run tb.P w2 = .ok (.value (.tuple #[e2.key, e2.val])) w2 := by
      simp only [execOp, hD.hE.1, hev2, Sem.run_bind, hent, Result.andThen_ok, Sem.run_pure]
    let s2 : St := { s with t := (s.t.set 6 (.tuple ⟨[.bool true, e.key, e.val]⟩)).set 7 (.bool true) }
    let s3 : St := { s2 with t := s2.t.set 8 (.tuple ⟨[e.key, e.val]⟩) }
    have hs3 : SR ι2 s3 b (a2.put D.oE.dst (.tuple #[e2.key, e2.val])) w2 := by
      refine ⟨hs2.rel, ?_, hs2.ro, ?_⟩
      · rw [hD.hE.2.1]
        exact hs2.tr.set (by show 8 < s.n; rw [hk.n]; omega) (.tuple (.cons hk2 (.cons hv2 .nil)))
      · have := hs2.dr
        rw [hD.hE.2.1]; exact this
    let s4 : St := { s3 with t := s3.t.set 9 e.key }
    let s5 : St := { s4 with t := s4.t.set 3 e.key }
    have hop1 : OpSnd tb.P #[D.oE, D.oX2, D.oA] 1 D.oX2 s3 s4 :=
      opP ok hD.hX2.1 hD.hX2.2.2 hD.hX2.2.1 (by show 9 < s.n; rw [hk.n]; omega) rfl rfl (by
        show (evG ((s2.t.set 8 _).get 8)).bind _ = _
        rw [T.get_set, if_pos rfl]
        rfl)
    have hop2 : OpSnd tb.P #[D.oE, D.oX2, D.oA] 2 D.oA s4 s5 :=
      opP ok hD.hA.1 hD.hA.2.2 hD.hA.2.1 (by show 3 < s.n; rw [hk.n]; omega) rfl rfl (by
        show evG ((s3.t.set 9 _).get 9) = _
        rw [T.get_set, if_pos rfl]
        rfl)
    obtain ⟨ι4, w4, a4, st4, hs4, hss4⟩ := hop1.2 ι2 b _ (.code D.cT :: .inBlock 1 :: .inLoop D.body :: k) cs w2 [2] hs3 (ht2.free (hIN _ _ hI)) (by unfold Region.wanted; rw [hD.hX2.2.2]) rfl
    have ht4 : Top N ι4 s.m := ht2.stp hss4.stp
    obtain ⟨ι5, w5, a5, st5, hs5, hss5⟩ := hop2.2 ι4 b _ (.code D.cT :: .inBlock 1 :: .inLoop D.body :: k) cs w4 [] hs4 (ht4.free (hIN _ _ hI)) (by unfold Region.wanted; rw [hD.hA.2.2]) rfl
    have ht5 : Top N ι5 s.m := ht4.stp hss5.stp
    have hk5 : KSt yv itA s5 := ⟨hk.n, hk.d, hk.ro, by
      show (((((s.t.set 6 _).set 7 _).set 8 _).set 9 _).set 3 _).get 0 = _
      simp [T.get_set, hk.y], by
      show (((((s.t.set 6 _).set 7 _).set 8 _).set 9 _).set 3 _).get 5 = _
      simp [T.get_set, hk.i]⟩
    have hdl : done.length < es.length := by
      have := hpm.length_eq
      have h1 := List.length_pos_of_mem hmem
      rw [List.length_append] at this
      omega
    obtain ⟨n, s6, hex6, hI6, hk6⟩ := hstep done e s5 hI hes0 hdl hk5 (by
      show (s4.t.set 3 e.key).get 3 = _
      rw [T.get_set, if_pos rfl])
    rcases exec_sound ok n _ _ _ _ hex6 with ⟨v, hv, _⟩ | ⟨_, hc6⟩
    · cases hv
    obtain ⟨ι6, w6, a6, k6, st6, ha6, hs6, hss6⟩ := hc6 ι5 b a5 (.inBlock 1 :: .inLoop D.body :: k) cs w5 hs5 (ht5.free (hIN _ _ hI6))
    cases (show k6 = _ from ha6)
    have hstp6 := (hss4.stp.trans hss5.stp).trans hss6.stp
    obtain ⟨q1, q2, q3⟩ := g1.keep (ι' := ι6) (A' := s6.m) g3 hstp6
    have hle6 : InjLe ι ι6 := hle.trans (ht2.le (hIN _ _ hI6) hstp6)
    refine ⟨e, hmem, s6, ι6, w6, a6, hI6, hk6, ?_, hs6, (hss2.trans (SStp.trans ⟨hss4.stp, rfl, rfl⟩ hss5)).trans hss6, ht5.stp hss6.stp, hle6 _ _ hiA, hle6 _ _ hm, q3, q1, by rw [q2, hw2, ← hb2]⟩
    refine (st2.trans (.head (stepR_cond hb7) (.head stepR_skip (.head stepR_block (.head stepR_seq (.head stepR_region ?_)))))).trans (st6.trans (.one stepR_inBlock))
    exact .head (stepR_val rfl hD.hE.2.2 hne hexE) (st4.trans (st5.trans (.one stepR_region_end)))

include ok hD in
/-- All entries, in some order. -/
theorem keys_loop {yv : Value} {itA m clock : Nat} {es : List MapEntry} (I : List MapEntry → Mem → Prop)
    (hlt : ∀ e ∈ es, e.born < clock) (hnd : (es.map (·.born)).Nodup)
    (hIm : ∀ done B, I done B → B.get m = some (.map es clock)) (hIN : ∀ done B, I done B → B.next ≤ N)
    (hstep : ∀ done e s, I done s.m → e ∈ es → done.length < es.length → KSt yv itA s → s.t.get 3 = some e.key → ∃ n s', exec tb n D.cT s = .ok (.nrm, s') ∧ I (done ++ [e]) s'.m ∧ KSt yv itA s')
    {ι0 : Inj} {s0 : St} {w0 : World} (hr0 : Rel ι0 s0.m w0) {it mb : Nat} {lI lm : Loc} (hbI : lI.blk = it) (hsI : lI.sh = 0) (hmb : lm.blk = mb) (hit0 : w0.heap.size ≤ it) :
    ∀ (K : Nat) (done : List MapEntry), (leftM done es).length ≤ K → (done ++ leftM done es).Perm es → ∀ (ι : Inj) (s : St) (b : Frame) (a : Act) (k : List Item) (cs : List Frame) (w : World) (sn : Array Nat),
      SR ι s b a w → Top N ι s.m → KSt yv itA s → I done s.m → ι itA = some lI → ι m = some lm → it < w.heap.size → NL ι s.m it → w.heap[it]? = some (.mapIter (some mb) clock sn clock) → sn.toList = done.map (·.born) → SStp ι0 s0 w0 ι s w →
      ∃ done' s1 ι' w' a' k', done'.Perm es ∧ I done' s1.m ∧ KSt yv itA s1 ∧ Steps tb.P (lone (b.atR a (.inLoop D.body :: k)) cs w) (lone (b.atR a' k') cs w') ∧ Arr (.exit 0) k k' ∧ SR ι' s1 b a' w' ∧ SStp ι0 s0 w0 ι' s1 w' := by
  intro K
  induction K with
  | zero =>
    intro done hN hp ι s b a k cs w sn hs ht hk hI hiA hm hit hnl hw hsn hss
    rcases keys_one ok hD I hlt hnd hIm hIN hstep hr0 hs ht hk hI hiA hbI hsI hm hmb hit hnl hw hsn hss hit0 hp with ⟨hnil, s1, ι', w', a', k', h1, h2, h3, h4, h5, h6⟩ | ⟨e, he, _⟩
    · rw [hnil, List.append_nil] at hp
      exact ⟨done, s1, ι', w', a', k', hp, h1, h2, h3, h4, h5, h6⟩
    · have := List.length_pos_of_mem he
      omega
  | succ K ih =>
    intro done hN hp ι s b a k cs w sn hs ht hk hI hiA hm hit hnl hw hsn hss
    rcases keys_one ok hD I hlt hnd hIm hIN hstep hr0 hs ht hk hI hiA hbI hsI hm hmb hit hnl hw hsn hss hit0 hp with ⟨hnil, s1, ι', w', a', k', h1, h2, h3, h4, h5, h6⟩ | ⟨e, he, s1, ι', w', a', h1, h2, h3, h4, h5, h6, h7, h8, h9, h10, h11⟩
    · rw [hnil, List.append_nil] at hp
      exact ⟨done, s1, ι', w', a', k', hp, h1, h2, h3, h4, h5, h6⟩
    · have hl := leftM_lt hnd he
      obtain ⟨done', s2, ι2, w2, a2, k2, g1, g2, g3, g4, g5⟩ := ih (done ++ [e]) (by omega) (perm_step hnd hp he) ι' s1 b a' k cs w' (sn.push e.born) h4 h6 h2 h1 h7 h8 h9 h10 h11 (by simp [hsn]) h5
      exact ⟨done', s2, ι2, w2, a2, k2, g1, g2, g3, h3.trans g4, g5⟩

include ok hD in
/-- The function that calls a loop's round with each key of a map, in some order. -/
theorem keys_call {yv : Value} {bp m clock : Nat} {A : Mem} {es : List MapEntry} (I : List MapEntry → Mem → Prop)
    (hbox : loadF tb A.get D.tM (.pointer (some ⟨bp, 0, none⟩)) = .ok (.map (some m))) (hm : A.get m = some (.map es clock))
    (hlt : ∀ e ∈ es, e.born < clock) (hnd : (es.map (·.born)).Nodup)
    (hI0 : I [] (A.alloc .dead))
    (hIm : ∀ done B, I done B → B.get m = some (.map es clock)) (hIN : ∀ done B, I done B → B.next ≤ N)
    (hstep : ∀ done e s, I done s.m → e ∈ es → done.length < es.length → KSt yv A.next s → s.t.get 3 = some e.key → ∃ n s', exec tb n D.cT s = .ok (.nrm, s') ∧ I (done ++ [e]) s'.m ∧ KSt yv A.next s') :
    RCall N tb.P (.fn D.f [yv, .pointer (some ⟨bp, 0, none⟩)]) A fun v A' => v = .tuple ⟨[]⟩ ∧ ∃ done, done.Perm es ∧ I done A' := by
  refine RCall.fn hD.hf hD.hb hD.hng (by rw [hD.hn]; simp) ok fun ι b a k cs w hs ht => ?_
  have hn14 : D.fn.ntmps = 14 := hD.hn
  have hN1 : (A.alloc .dead).next ≤ N := hIN _ _ hI0
  have hAN : A.next ≤ N := by rw [next_alloc] at hN1; omega
  let s0 : St := { t := T.puts .e 0 [yv, .pointer (some ⟨bp, 0, none⟩)], n := D.fn.ntmps, d := [], m := A, ro := none }
  have hs : SR ι s0 b a w := hs
  have t0 : s0.t.get 0 = some yv := by
    show (T.puts .e 0 [yv, .pointer (some ⟨bp, 0, none⟩)]).get 0 = some yv
    rw [T.get_puts]; rfl
  have t1 : s0.t.get 1 = some (.pointer (some ⟨bp, 0, none⟩)) := by
    show (T.puts .e 0 [yv, .pointer (some ⟨bp, 0, none⟩)]).get 1 = some (.pointer (some ⟨bp, 0, none⟩))
    rw [T.get_puts]; rfl
  let s1 : St := { s0 with t := s0.t.set 4 (.map (some m)) }
  have hop : OpSnd tb.P #[D.oL, D.oR] 0 D.oL s0 s1 :=
    opR ok hD.hL.1 hD.hL.2.2 hD.hL.2.1 (by show 4 < D.fn.ntmps; omega) rfl rfl (by
      have e : rOp tb s0.t s0.m.get (.load D.tM (.tmp 1)) = (evG (s0.t.get 1)).bind fun x => loadF tb s0.m.get D.tM x := rfl
      rw [e, t1]
      exact hbox)
  obtain ⟨ι1, w1, a1, st1, hs1, hss1⟩ := hop.2 ι b a (.code (.block 0 (.loop D.body)) :: k) cs w [1] hs (ht.free hAN) (by unfold Region.wanted; rw [hD.hL.2.2]) rfl
  have ht1 : Top N ι1 A := ht.stp hss1.stp
  obtain ⟨lm, hlm, hev⟩ : ∃ lm, ι1 m = some lm ∧ a1.eval (.tmp 4) = .map (some lm.blk) := by
    obtain ⟨v', h1, h2⟩ := hs1.tr.2 4 (.map (some m)) (by show (s0.t.set 4 _).get 4 = _; rw [T.get_set, if_pos rfl])
    cases h2 with
    | map hl => exact ⟨_, hl, by simp only [Act.eval, Array.getD_eq_getD_getElem?, h1, Option.getD_some]⟩
  obtain ⟨o', hwm, -, es', rfl, hes⟩ := hs1.rel.obs _ _ _ hm rfl hlm
  have hrun := range_run (P := tb.P) (und_run ok hD.hu w1) hwm
  have hexR : (execOp a1.eval D.oR).run tb.P w1 = .ok (.value (.pointer (some ⟨w1.heap.size, 0, none⟩))) { w1 with heap := w1.heap.push (.mapIter (some lm.blk) clock #[] clock) } := by
    simp only [execOp, hD.hR.1, hev, Sem.run_bind, hrun, Result.andThen_ok, Sem.run_pure]
  have hnr : ∀ c, D.oR.op ≠ .defer c := fun c h => by rw [hD.hR.1] at h; cases h
  obtain ⟨ι2, h9, h10, h11⟩ := hs1.rel.come (ob := .dead) (o' := .mapIter (some lm.blk) clock #[] clock) (sz := 0) (w' := { w1 with heap := w1.heap.push (.mapIter (some lm.blk) clock #[] clock) }) (ht1 _ (Nat.le_refl _) (by show A.next < N; rw [next_alloc] at hN1; omega)) (fun _ _ _ h => by cases h) (Wu_push w1 _ w1.drawn (Nat.le_refl _)) (by simp) (fun _ _ _ => trivial)
  have hle2 : InjLe ι1 ι2 := Top.le (A := A) ht1 hN1 h11
  have ht2 : Top N ι2 (A.alloc .dead) := Top.stp (A := A) ht1 h11
  let s2 : St := { s1 with m := A.alloc .dead, t := s1.t.set 5 (.pointer (some ⟨A.next, 0, none⟩)) }
  let w2 : World := { w1 with heap := w1.heap.push (.mapIter (some lm.blk) clock #[] clock) }
  have hs2 : SR ι2 s2 b (a1.put D.oR.dst (.pointer (some ⟨w1.heap.size, 0, none⟩))) w2 := by
    refine ⟨h10, ?_, hs1.ro.mono hle2, ?_⟩
    · rw [hD.hR.2.1]
      exact (hs1.tr.mono hle2).set (by show 5 < D.fn.ntmps; omega) (VR.ptr (o := 0) h9)
    · have := hs1.dr.mono hle2
      rw [hD.hR.2.1]; exact this
  have hk2 : KSt yv A.next s2 := ⟨hn14, rfl, rfl, by
    show ((s0.t.set 4 _).set 5 _).get 0 = _
    simp [T.get_set, t0], by
    show ((s0.t.set 4 _).set 5 _).get 5 = _
    simp [T.get_set]⟩
  have hnl : NL ι2 (A.alloc .dead) w1.heap.size := by
    rintro x l ⟨o, hg, hal⟩ hl
    rw [get_alloc] at hg
    by_cases e : x = A.next
    · rw [if_pos e] at hg; cases hg; cases hal
    · rw [if_neg e] at hg
      have hx : x < A.next := by
        rcases Nat.lt_or_ge x A.next with h | h
        · exact h
        · rw [hs1.rel.wf x h] at hg; cases hg
      have : ι2 x = ι1 x := h11.out x (.inl hx)
      rw [this] at hl
      have := hs1.rel.rng x l hl
      omega
  have hl0 : leftM [] es = es := by
    unfold leftM
    rw [List.filter_eq_self]
    intro x _; rfl
  obtain ⟨done, s3, ι3, w3, a3, k3, hp, hI3, hk3, st3, ha3, hs3, hss3⟩ := keys_loop ok hD (yv := yv) (itA := A.next) I hlt hnd hIm hIN hstep (ι0 := ι1) (s0 := s1) (w0 := w1) hs1.rel (it := w1.heap.size) (mb := lm.blk) (lI := ⟨w1.heap.size, 0, 0⟩) (lm := lm) rfl rfl rfl (Nat.le_refl _) es.length []
    (by rw [hl0]; exact Nat.le_refl _) (by rw [hl0]; exact .refl _) ι2 s2 b _ (.inBlock 0 :: k) cs w2 #[] hs2 ht2 hk2 hI0 h9 (hle2 _ _ hlm) (by show _ < (w1.heap.push _).size; simp) hnl (by show (w1.heap.push _)[w1.heap.size]? = _; simp) rfl ⟨h11, rfl, rfl⟩
  obtain ⟨k4, rfl, hx4⟩ := ha3
  have hx4 : exitTo 0 k4 = some k := hx4
  refine ⟨.nrm, s3, ι3, w3, a3, k, ⟨.inl rfl, s3.m, [], by rw [hk3.d]; rfl, by rw [hD.hres]; rfl, rfl, done, hp, hI3⟩, hIN _ _ hI3, ?_, rfl, hs3, hss1.trans hss3⟩
  have st4 : Steps tb.P (lone (b.atR (a1.put D.oR.dst (.pointer (some ⟨w1.heap.size, 0, none⟩))) (.code (.loop D.body) :: .inBlock 0 :: k)) cs w2) (lone (b.atR a3 (.code (.exit 0) :: k4)) cs w3) := by
    refine steps_swap st3 stepR_inLoop stepR_loop fun h => ?_
    have := congrArg (fun m : Machine => m.gs) h
    simp only [lone] at this
    have := congrArg (fun g : Array Goroutine => g.toList.map fun g => g.frame.todo) this
    simp [Frame.atR] at this
  refine .head stepR_seq (.head stepR_region (st1.trans (.head (stepR_val rfl hD.hR.2.2 hnr hexR) (.head stepR_region_end (.head stepR_block (st4.trans (.one (stepR_exit hx4))))))))
end Go.Am

/-
  The abstract machine AM, part 64: the keys of a map that may be nil.
-/
namespace Go.Am
variable {tb : Tab} (ok : TabOk tb) {P : Program} {N : Nat}

theorem range_nil {w : World} {t : TypeId} {kt vt : TypeId} (ht : (underlying t).run P w = .ok (.map kt vt) w) :
    (Instr.range t (.map none)).run P w = .ok (.pointer (some ⟨w.heap.size, 0, none⟩)) { w with heap := w.heap.push (.mapIter none 0 #[] 0) } := by
  unfold Instr.range
  simp only [Sem.run_bind, ht, Result.andThen_ok, Sem.run_pure, run_newObj]
theorem next_nil {w : World} {it : Nat} {rt : TypeId} (hit : w.heap[it]? = some (.mapIter none 0 #[] 0)) :
    (Instr.next (.pointer (some ⟨it, 0, none⟩)) false rt).run P w = .ok (.tuple #[.bool false]) w := by
  unfold Instr.next
  simp only [Sem.run_bind, getObj_run hit (by simp), Result.andThen_ok]
  rfl

/-- A map, or none. -/
def MapV (A : Mem) (mv : Value) (es : List MapEntry) (clock : Nat) : Prop := (∃ m, mv = .map (some m) ∧ m < A.next ∧ A.get m = some (.map es clock)) ∨ (mv = .map none ∧ es = [])
theorem MapV.same {A B : Mem} {mv : Value} {es : List MapEntry} {clock : Nat} (h : MapV A mv es clock) (hn : A.next ≤ B.next) (hg : ∀ y, y < A.next → B.get y = A.get y) : MapV B mv es clock := by
  rcases h with ⟨m, h1, h2, h3⟩ | h
  · exact .inl ⟨m, h1, by omega, (hg m h2).trans h3⟩
  · exact .inr h

variable {D : KeysF} (hD : KeysOk tb D)
include ok hD in
theorem keys_nil {yv : Value} {bp : Nat} {A : Mem} (hbox : loadF tb A.get D.tM (.pointer (some ⟨bp, 0, none⟩)) = .ok (.map none)) (hN1 : (A.alloc .dead).next ≤ N) :
    RCall N tb.P (.fn D.f [yv, .pointer (some ⟨bp, 0, none⟩)]) A fun v A' => v = .tuple ⟨[]⟩ ∧ A' = A.alloc .dead := by
  refine RCall.fn hD.hf hD.hb hD.hng (by rw [hD.hn]; simp) ok fun ι b a k cs w hs ht => ?_
  have hn14 : D.fn.ntmps = 14 := hD.hn
  have hAN : A.next ≤ N := by rw [next_alloc] at hN1; omega
  let s0 : St := { t := T.puts .e 0 [yv, .pointer (some ⟨bp, 0, none⟩)], n := D.fn.ntmps, d := [], m := A, ro := none }
  have hs : SR ι s0 b a w := hs
  have t1 : s0.t.get 1 = some (.pointer (some ⟨bp, 0, none⟩)) := by
    show (T.puts .e 0 [yv, .pointer (some ⟨bp, 0, none⟩)]).get 1 = some (.pointer (some ⟨bp, 0, none⟩))
    rw [T.get_puts]; rfl
  let s1 : St := { s0 with t := s0.t.set 4 (.map none) }
  have hop : OpSnd tb.P #[D.oL, D.oR] 0 D.oL s0 s1 :=
    opR ok hD.hL.1 hD.hL.2.2 hD.hL.2.1 (by show 4 < D.fn.ntmps; omega) rfl rfl (by
      have e : rOp tb s0.t s0.m.get (.load D.tM (.tmp 1)) = (evG (s0.t.get 1)).bind fun x => loadF tb s0.m.get D.tM x := rfl
      rw [e, t1]
      exact hbox)
  obtain ⟨ι1, w1, a1, st1, hs1, hss1⟩ := hop.2 ι b a (.code (.block 0 (.loop D.body)) :: k) cs w [1] hs (ht.free hAN) (by unfold Region.wanted; rw [hD.hL.2.2]) rfl
  have ht1 : Top N ι1 A := ht.stp hss1.stp
  have hev : a1.eval (.tmp 4) = .map none := by
    obtain ⟨v', h1, h2⟩ := hs1.tr.2 4 (.map none) (by show (s0.t.set 4 _).get 4 = _; rw [T.get_set, if_pos rfl])
    cases h2
    simp only [Act.eval, Array.getD_eq_getD_getElem?, h1, Option.getD_some]
  have hrun := range_nil (P := tb.P) (und_run ok hD.hu w1)
  have hexR : (execOp a1.eval D.oR).run tb.P w1 = .ok (.value (.pointer (some ⟨w1.heap.size, 0, none⟩))) { w1 with heap := w1.heap.push (.mapIter none 0 #[] 0) } := by
    simp only [execOp, hD.hR.1, hev, Sem.run_bind, hrun, Result.andThen_ok, Sem.run_pure]
  have hnr : ∀ c, D.oR.op ≠ .defer c := fun c h => by rw [hD.hR.1] at h; cases h
  obtain ⟨ι2, h9, h10, h11⟩ := hs1.rel.come (ob := .dead) (o' := .mapIter none 0 #[] 0) (sz := 0) (w' := { w1 with heap := w1.heap.push (.mapIter none 0 #[] 0) }) (ht1 _ (Nat.le_refl _) (by show A.next < N; rw [next_alloc] at hN1; omega)) (fun _ _ _ h => by cases h) (Wu_push w1 _ w1.drawn (Nat.le_refl _)) (by simp) (fun _ _ _ => trivial)
  have hle2 : InjLe ι1 ι2 := Top.le (A := A) ht1 hN1 h11
  have ht2 : Top N ι2 (A.alloc .dead) := Top.stp (A := A) ht1 h11
  let s2 : St := { s1 with m := A.alloc .dead, t := s1.t.set 5 (.pointer (some ⟨A.next, 0, none⟩)) }
  let w2 : World := { w1 with heap := w1.heap.push (.mapIter none 0 #[] 0) }
  have hs2 : SR ι2 s2 b (a1.put D.oR.dst (.pointer (some ⟨w1.heap.size, 0, none⟩))) w2 := by
    refine ⟨h10, ?_, hs1.ro.mono hle2, ?_⟩
    · rw [hD.hR.2.1]
      exact (hs1.tr.mono hle2).set (by show 5 < D.fn.ntmps; omega) (VR.ptr (o := 0) h9)
    · have := hs1.dr.mono hle2
      rw [hD.hR.2.1]; exact this
  have hev2 : (a1.put D.oR.dst (.pointer (some ⟨w1.heap.size, 0, none⟩))).eval (.tmp 5) = .pointer (some ⟨w1.heap.size, 0, none⟩) := by
    obtain ⟨v', h1, h2⟩ := hs2.tr.2 5 (.pointer (some ⟨A.next, 0, none⟩)) (by show (s1.t.set 5 _).get 5 = _; rw [T.get_set, if_pos rfl])
    cases h2 with
    | ptr hl =>
      rw [h9] at hl
      cases hl
      simp only [Act.eval, Array.getD_eq_getD_getElem?, h1, Option.getD_some]
  have hnn : ∀ c, D.oN.op ≠ .defer c := fun c h => by rw [hD.hN.1] at h; cases h
  have hrunN := next_nil (P := tb.P) (w := w2) (it := w1.heap.size) (rt := D.oN.type) (by show (w1.heap.push _)[w1.heap.size]? = _; simp)
  have hexN : (execOp (a1.put D.oR.dst (.pointer (some ⟨w1.heap.size, 0, none⟩))).eval D.oN).run tb.P w2 = .ok (.value (.tuple #[.bool false])) w2 := by
    simp only [execOp, hD.hN.1, hev2, Sem.run_bind, hrunN, Result.andThen_ok, Sem.run_pure]
  let s3 : St := { s2 with t := s2.t.set 6 (.tuple ⟨[.bool false]⟩) }
  let s4 : St := { s3 with t := s3.t.set 7 (.bool false) }
  have hs3 : SR ι2 s3 b ((a1.put D.oR.dst (.pointer (some ⟨w1.heap.size, 0, none⟩))).put D.oN.dst (.tuple #[.bool false])) w2 := by
    refine ⟨hs2.rel, ?_, hs2.ro, ?_⟩
    · rw [hD.hN.2.1]; exact hs2.tr.set (by show 6 < D.fn.ntmps; omega) (.tuple (.cons (.bool _) .nil))
    · have := hs2.dr
      rw [hD.hN.2.1]; exact this
  have hop2 : OpSnd tb.P #[D.oN, D.oX] 1 D.oX s3 s4 :=
    opP ok hD.hX.1 hD.hX.2.2 hD.hX.2.1 (by show 7 < D.fn.ntmps; omega) rfl rfl (by
      show (evG ((s2.t.set 6 _).get 6)).bind _ = _
      rw [T.get_set, if_pos rfl]
      rfl)
  obtain ⟨ι4, w4, a4, st4, hs4, hss4⟩ := hop2.2 ι2 b _ (.code (.seq (.cond (.tmp 7) .skip (.exit 0)) (.block 1 (.seq (.region D.i2 #[D.oE, D.oX2, D.oA] false) D.cT))) :: .inLoop D.body :: .inBlock 0 :: k) cs w2 [] hs3 (ht2.free hN1) (by unfold Region.wanted; rw [hD.hX.2.2]) rfl
  have hb7 : a4.eval (.tmp 7) = .bool false := by
    obtain ⟨v7, h1, h2⟩ := hs4.tr.2 7 (.bool false) (by show (s3.t.set 7 (.bool false)).get 7 = _; rw [T.get_set, if_pos rfl])
    simp only [Act.eval, Array.getD_eq_getD_getElem?, h1, Option.getD_some, h2.bool_inv]
  refine ⟨.nrm, s4, ι4, w4, a4, k, ⟨.inl rfl, A.alloc .dead, [], rfl, by rw [hD.hres]; rfl, rfl, rfl⟩, hN1, ?_, rfl, hs4, hss1.trans (SStp.trans (show SStp ι1 s1 w1 ι2 s3 w2 from ⟨h11, rfl, rfl⟩) hss4)⟩
  refine .head stepR_seq (.head stepR_region (st1.trans (.head (stepR_val rfl hD.hR.2.2 hnr hexR) (.head stepR_region_end (.head stepR_block (.head stepR_loop ?_))))))
  refine .head stepR_seq (.head stepR_region (.head (stepR_val rfl hD.hN.2.2 hnn hexN) (st4.trans (.head stepR_region_end (.head stepR_seq (.head (stepR_cond hb7) (.one (stepR_exit rfl))))))))

include ok hD in
/-- The function that calls a loop's round with each key of a map, in some order; of none, if there is no map. -/
theorem keys_callV {yv mv : Value} {bp clock : Nat} {A : Mem} {es : List MapEntry} (I : List MapEntry → Mem → Prop)
    (hbox : loadF tb A.get D.tM (.pointer (some ⟨bp, 0, none⟩)) = .ok mv) (hm : MapV A mv es clock)
    (hlt : ∀ e ∈ es, e.born < clock) (hnd : (es.map (·.born)).Nodup)
    (hI0 : I [] (A.alloc .dead))
    (hIm : ∀ done B, I done B → MapV B mv es clock) (hIN : ∀ done B, I done B → B.next ≤ N)
    (hstep : ∀ done e s, I done s.m → e ∈ es → done.length < es.length → KSt yv A.next s → s.t.get 3 = some e.key → ∃ n s', exec tb n D.cT s = .ok (.nrm, s') ∧ I (done ++ [e]) s'.m ∧ KSt yv A.next s') :
    RCall N tb.P (.fn D.f [yv, .pointer (some ⟨bp, 0, none⟩)]) A fun v A' => v = .tuple ⟨[]⟩ ∧ ∃ done, done.Perm es ∧ I done A' := by
  rcases hm with ⟨m, rfl, _, hm⟩ | ⟨rfl, rfl⟩
  · refine keys_call ok hD I hbox hm hlt hnd hI0 (fun done B h => ?_) hIN hstep
    rcases hIm done B h with ⟨m', e, _, h'⟩ | ⟨e, _⟩
    · cases e; exact h'
    · cases e
  · intro ι w s fr cs hr hcl ht
    obtain ⟨v, A', ι', w', v', ⟨rfl, rfl⟩, rest⟩ := keys_nil ok hD (yv := yv) hbox (hIN _ _ hI0) ι w s fr cs hr hcl ht
    exact ⟨_, _, ι', w', v', ⟨rfl, [], .refl _, hI0⟩, rest⟩
end Go.Am

/-
  The abstract machine AM, part 63: rows that are sorted; the hook of a function that sorts a map's keys.
-/
namespace Go.Am

/-! ### Order -/

/-- A strict order of all of some values. -/
structure LtOn (p : Value → Bool) (lt : Value → Value → Bool) : Prop where
  irr : ∀ a, p a = true → lt a a = false
  trans : ∀ a b c, p a = true → p b = true → p c = true → lt a b = true → lt b c = true → lt a c = true
  tri : ∀ a b, p a = true → p b = true → lt a b = false → lt b a = false → a = b
theorem LtOn.asymm {p : Value → Bool} {lt : Value → Value → Bool} (h : LtOn p lt) {a b : Value} (ha : p a = true) (hb : p b = true) (hl : lt a b = true) : lt b a = false := by
  cases hba : lt b a with
  | false => rfl
  | true =>
    have := h.trans a b a ha hb ha hl hba
    rw [h.irr a ha] at this; cases this
/-- Not greater is handed on. -/
theorem LtOn.le_trans {p : Value → Bool} {lt : Value → Value → Bool} (h : LtOn p lt) {a b c : Value} (ha : p a = true) (hb : p b = true) (hc : p c = true) (h1 : lt b a = false) (h2 : lt c b = false) : lt c a = false := by
  cases hca : lt c a with
  | false => rfl
  | true =>
    cases hab : lt a b with
    | true => rw [h.trans c a b hc ha hb hca hab] at h2; cases h2
    | false =>
      have := h.tri a b ha hb hab h1
      subst this
      rw [hca] at h2; cases h2

abbrev SortedV (lt : Value → Value → Bool) (l : List Value) : Prop := l.Pairwise fun a b => lt b a = false
def insV (lt : Value → Value → Bool) (x : Value) : List Value → List Value
  | [] => [x]
  | y :: l => match lt x y with
    | true => x :: y :: l
    | false => y :: insV lt x l
def sortV (lt : Value → Value → Bool) : List Value → List Value
  | [] => []
  | x :: l => insV lt x (sortV lt l)
theorem insV_perm (lt : Value → Value → Bool) (x : Value) : ∀ l, (insV lt x l).Perm (x :: l)
  | [] => .refl _
  | y :: l => by
    unfold insV
    split
    · exact .refl _
    · exact ((insV_perm lt x l).cons y).trans (.swap _ _ _)
theorem sortV_perm (lt : Value → Value → Bool) : ∀ l, (sortV lt l).Perm l
  | [] => .refl _
  | x :: l => (insV_perm lt x _).trans ((sortV_perm lt l).cons x)
theorem insV_sorted {p : Value → Bool} {lt : Value → Value → Bool} (h : LtOn p lt) {x : Value} (hx : p x = true) : ∀ {l : List Value}, (∀ y ∈ l, p y = true) → SortedV lt l → SortedV lt (insV lt x l)
  | [], _, _ => by simp [insV, SortedV]
  | y :: l, hp, hs => by
    unfold insV
    have hy := hp y (by simp)
    have hs' := List.pairwise_cons.1 hs
    split
    · rename_i hl
      refine List.pairwise_cons.2 ⟨fun z hz => ?_, hs⟩
      have hxy := h.asymm hx hy hl
      rcases List.mem_cons.1 hz with rfl | hz
      · exact hxy
      · exact h.le_trans hx hy (hp z (by simp [hz])) hxy (hs'.1 z hz)
    · rename_i hl
      refine List.pairwise_cons.2 ⟨fun z hz => ?_, insV_sorted h hx (fun z hz => hp z (by simp [hz])) hs'.2⟩
      rcases List.mem_cons.1 ((insV_perm lt x l).mem_iff.1 hz) with rfl | hz
      · exact hl
      · exact hs'.1 z hz
theorem sortV_sorted {p : Value → Bool} {lt : Value → Value → Bool} (h : LtOn p lt) : ∀ {l : List Value}, (∀ y ∈ l, p y = true) → SortedV lt (sortV lt l)
  | [], _ => .nil
  | x :: l, hp => insV_sorted h (hp x (by simp)) (fun y hy => hp y (by simp [(sortV_perm lt l).mem_iff.1 hy])) (sortV_sorted h fun y hy => hp y (by simp [hy]))
/-- Rows of the same values that are sorted are one. -/
theorem sorted_one {p : Value → Bool} {lt : Value → Value → Bool} (h : LtOn p lt) {l m : List Value} (hp : ∀ y ∈ l, p y = true) (hl : SortedV lt l) (hm : l.Perm m) : l = sortV lt m := by
  have hpm : ∀ y ∈ m, p y = true := fun y hy => hp y (hm.mem_iff.2 hy)
  refine List.Perm.eq_of_pairwise (le := fun a b => lt b a = false) (fun a b ha hb h1 h2 => ?_) hl (sortV_sorted h hpm) (hm.trans (sortV_perm lt m).symm)
  exact h.tri a b (hp a ha) (hpm b ((sortV_perm lt m).mem_iff.1 hb)) h2 h1

/-- One value goes down to its place. -/
theorem sorted_in {p : Value → Bool} {lt : Value → Value → Bool} (h : LtOn p lt) {S1 S2 : List Value} {x : Value} (hp : ∀ y ∈ S1 ++ x :: S2, p y = true) (hs : SortedV lt (S1 ++ S2)) (h2 : ∀ y ∈ S2, lt x y = true) (h1 : ∀ S y, S1 = S ++ [y] → lt x y = false) : SortedV lt (S1 ++ x :: S2) := by
  have hx := hp x (by simp)
  have ha := List.pairwise_append.1 hs
  refine List.pairwise_append.2 ⟨ha.1, List.pairwise_cons.2 ⟨fun z hz => h.asymm hx (hp z (by simp [hz])) (h2 z hz), ha.2.1⟩, fun a haS b hb => ?_⟩
  rcases List.mem_cons.1 hb with rfl | hb
  · rcases List.eq_nil_or_concat S1 with rfl | ⟨S, y, rfl⟩
    · cases haS
    · have hxy := h1 S y (by simp)
      rw [List.concat_eq_append] at haS ha
      rcases List.mem_append.1 haS with haS | haS
      · have hay := (List.pairwise_append.1 ha.1).2.2 a haS y (by simp)
        exact h.le_trans (hp a (by simp [haS])) (hp y (by simp)) hx hay hxy
      · simp only [List.mem_singleton] at haS
        rw [haS]; exact hxy
  · exact ha.2.2 a haS b hb

/-! ### Strings, and bytes -/

def isStrV : Value → Bool
  | .string _ => true
  | _ => false
def ltStrV : Value → Value → Bool
  | .string a, .string b => bytesLt a.data.toList b.data.toList
  | _, _ => false
def isU8V : Value → Bool
  | .int .u8 (.ofNat _) => true
  | _ => false
def ltU8V : Value → Value → Bool
  | .int _ (.ofNat a), .int _ (.ofNat b) => Nat.blt a b
  | _, _ => false
theorem bytesLt_irr : ∀ x, bytesLt x x = false
  | [] => rfl
  | a :: x => by
    have : Nat.blt a.toNat a.toNat = false := by
      cases h : Nat.blt a.toNat a.toNat with
      | false => rfl
      | true => rw [Nat.blt_eq] at h; omega
    simp [bytesLt, this, bytesLt_irr x]
theorem bytesLt_trans : ∀ x y z, bytesLt x y = true → bytesLt y z = true → bytesLt x z = true
  | _, [], _, h, _ => by simp [bytesLt] at h
  | _, _ :: _, [], _, h => by simp [bytesLt] at h
  | [], b :: y, c :: z, _, _ => rfl
  | a :: x, b :: y, c :: z, h1, h2 => by
    simp only [bytesLt, Bool.or_eq_true, Bool.and_eq_true, Nat.blt_eq, Nat.beq_eq] at h1 h2 ⊢
    rcases h1 with h1 | ⟨h1, h1'⟩
    · rcases h2 with h2 | ⟨h2, _⟩
      · left; omega
      · left; omega
    · rcases h2 with h2 | ⟨h2, h2'⟩
      · left; omega
      · exact .inr ⟨by omega, bytesLt_trans x y z h1' h2'⟩
theorem bytesLt_tri : ∀ x y, bytesLt x y = false → bytesLt y x = false → x = y
  | [], [], _, _ => rfl
  | [], _ :: _, h, _ => by simp [bytesLt] at h
  | _ :: _, [], _, h => by simp [bytesLt] at h
  | a :: x, b :: y, h1, h2 => by
    simp only [bytesLt, Bool.or_eq_false_iff, Bool.and_eq_false_iff] at h1 h2
    have e : a.toNat = b.toNat := by
      rcases Nat.lt_trichotomy a.toNat b.toNat with h | h | h
      · have := h1.1; rw [show Nat.blt a.toNat b.toNat = true by rw [Nat.blt_eq]; exact h] at this; cases this
      · exact h
      · have := h2.1; rw [show Nat.blt b.toNat a.toNat = true by rw [Nat.blt_eq]; exact h] at this; cases this
    have e1 : bytesLt x y = false := by
      rcases h1.2 with h | h
      · rw [e] at h; simp at h
      · exact h
    have e2 : bytesLt y x = false := by
      rcases h2.2 with h | h
      · rw [e] at h; simp at h
      · exact h
    rw [bytesLt_tri x y e1 e2, UInt8.toNat_inj.1 e]
theorem ltStr_on : LtOn isStrV ltStrV where
  irr := fun a ha => by
    cases a <;> first | exact bytesLt_irr _ | cases ha
  trans := fun a b c ha hb hc => by
    cases a <;> first | (cases ha; done) | skip
    cases b <;> first | (cases hb; done) | skip
    cases c <;> first | (cases hc; done) | skip
    exact bytesLt_trans _ _ _
  tri := fun a b ha hb h1 h2 => by
    cases a <;> first | (cases ha; done) | skip
    cases b <;> first | (cases hb; done) | skip
    rename_i x y
    have := bytesLt_tri _ _ h1 h2
    obtain ⟨⟨x⟩⟩ := x
    obtain ⟨⟨y⟩⟩ := y
    simp only at this
    rw [this]
theorem isU8_inv {a : Value} (h : isU8V a = true) : ∃ n : Nat, a = .int .u8 (.ofNat n) := by
  unfold isU8V at h
  split at h
  · exact ⟨_, rfl⟩
  · cases h
theorem ltU8_on : LtOn isU8V ltU8V where
  irr := fun a ha => by
    obtain ⟨n, rfl⟩ := isU8_inv ha
    show Nat.blt n n = false
    cases h : Nat.blt n n with
    | false => rfl
    | true => rw [Nat.blt_eq] at h; omega
  trans := fun a b c ha hb hc h1 h2 => by
    obtain ⟨n, rfl⟩ := isU8_inv ha
    obtain ⟨m, rfl⟩ := isU8_inv hb
    obtain ⟨k, rfl⟩ := isU8_inv hc
    have h1 : Nat.blt n m = true := h1
    have h2 : Nat.blt m k = true := h2
    show Nat.blt n k = true
    rw [Nat.blt_eq] at *
    omega
  tri := fun a b ha hb h1 h2 => by
    obtain ⟨n, rfl⟩ := isU8_inv ha
    obtain ⟨m, rfl⟩ := isU8_inv hb
    have h1 : Nat.blt n m = false := h1
    have h2 : Nat.blt m n = false := h2
    have : n = m := by
      rcases Nat.lt_trichotomy n m with h | h | h
      · rw [show Nat.blt n m = true by rw [Nat.blt_eq]; exact h] at h1; cases h1
      · exact h
      · rw [show Nat.blt m n = true by rw [Nat.blt_eq]; exact h] at h2; cases h2
    rw [this]
end Go.Am

/-
  The abstract machine AM, part 64: the hook of a function that sorts a map's keys.
-/
namespace Go.Am
variable {tb : Tab} {N : Nat}

/-- A slice that was made by appending, one by one. -/
def RowS (A : Mem) (e : TypeId) (b : Nat) (l : List Value) (x : Value) : Prop :=
  (x = .slice none 0 0 ∧ l = []) ∨ (l ≠ [] ∧ x = .slice (some ⟨b, 0, none⟩) l.length (mkX l.length 1) ∧ b < A.next ∧ Vals A e b .row l)
theorem RowS.slc {A : Mem} {e : TypeId} {b : Nat} {l : List Value} {x : Value} (h : RowS A e b l x) : Slc A e b l x := by
  rcases h with h | ⟨_, h1, h2, h3⟩
  · exact .inl h
  · exact .inr ⟨.row, _, h1, h2, h3, .inr ⟨rfl, .inl rfl⟩⟩
theorem RowS.same {A A' : Mem} {e : TypeId} {b : Nat} {l : List Value} {x : Value} (h : RowS A e b l x) (hn : A.next ≤ A'.next) (hg : b < A.next → A'.get b = A.get b) : RowS A' e b l x := by
  rcases h with h | ⟨h0, h1, h2, h3⟩
  · exact .inl h
  · exact .inr ⟨h0, h1, Nat.lt_of_lt_of_le h2 hn, h3.same (hg h2)⟩
theorem RowS.store {A : Mem} {e t : TypeId} {b o : Nat} {l : List Value} {x v : Value} (h : RowS A e b l x) (hs : sizeF tb t = .ok 1) (ho : o < l.length) (hv : v.cells.toList = [v]) (h1c : oneCell v = true) :
    ∃ A', storeF tb A t (.pointer (some ⟨b, o, none⟩)) v = .ok A' ∧ RowS A' e b (l.set o v) x ∧ A'.next = A.next ∧ ∀ y, y ≠ b → A'.get y = A.get y := by
  rcases h with ⟨rfl, rfl⟩ | ⟨h0, rfl, h2, h3⟩
  · simp at ho
  · obtain ⟨A', e1, e2, e3, e4⟩ := store_vals (tb := tb) (t := t) hs h3 ho hv h1c
    exact ⟨A', e1, .inr ⟨by simpa using h0, by rw [List.length_set], by omega, e2⟩, e3, e4⟩
/-- One more, behind it. -/
theorem RowS.append {A : Mem} {st xt e : TypeId} {i : TypeInfo} {z v : Value} {b b2 : Nat} {l : List Value} {x : Value} (h : RowS A e b l x) (hst : tb.und st = some (.slice e)) (hxt : tb.und xt = some (.slice e)) (hz : zcellsF tb e = .ok (1, [z])) (hi : tb.ty.get e = some i) (hib : 0 < i.bytes) (hib' : i.bytes ≤ 65536)
    (hl : l.length < 16777216) (hb2 : A.get b2 = some (rowOb e [v])) (h1c : oneCell v = true) :
    ∃ x' A', appendF tb A st xt x (.slice (some ⟨b2, 0, none⟩) 1 2) = .ok (x', A') ∧ RowS A' e A.next (l ++ [v]) x' ∧ A'.next = A.next + 1 ∧ ∀ y, y ≠ b → y < A.next → A'.get y = A.get y := by
  have he1 : (1 : Nat) < 65536 := by omega
  have hnew : firstF A.get 1 1 (.slice (some ⟨b2, 0, none⟩) 1 2) = .ok [v] := elemsF_vals (l := [v]) (vals_puts (e := e) (k := .var 1) hb2)
  have hlim : (Nat.ble (l.length + 1) 16777216 && Nat.ble i.bytes 65536 && Nat.blt 0 i.bytes && Nat.blt 0 1 && Nat.blt 1 65536) = true := by
    have a1 : Nat.ble (l.length + 1) 16777216 = true := Nat.ble_eq_true_of_le (by omega)
    have a2 : Nat.ble i.bytes 65536 = true := Nat.ble_eq_true_of_le hib'
    have a3 : Nat.blt 0 i.bytes = true := by rw [Nat.blt_eq]; exact hib
    rw [a1, a2, a3]; rfl
  have fin : ∀ (A0 : Mem), A0.next = A.next → (∀ y, y ≠ b → A0.get y = A.get y) →
      RowS (A0.alloc (.cells e .row 0 (T.puts .e 0 (l ++ [v])))) e A.next (l ++ [v]) (.slice (some ⟨A.next, 0, none⟩) (l.length + 1) (mkX (l.length + 1) 1)) ∧ (A0.alloc (.cells e .row 0 (T.puts .e 0 (l ++ [v])))).next = A.next + 1 ∧ ∀ y, y ≠ b → y < A.next → (A0.alloc (.cells e .row 0 (T.puts .e 0 (l ++ [v])))).get y = A.get y := by
    intro A0 hn hg
    refine ⟨.inr ⟨by simp, by rw [List.length_append]; rfl, by rw [next_alloc]; omega, vals_puts ?_⟩, by rw [next_alloc, hn], fun y hy hlt => ?_⟩
    · rw [← hn]; exact get_alloc_self _ _
    · rw [get_alloc_ne (by omega), hg y hy]
  rcases h with ⟨rfl, rfl⟩ | ⟨h0, rfl, h2, h3⟩
  · refine ⟨.slice (some ⟨A.next, 0, none⟩) 1 (mkX 1 1), A.alloc (.cells e .row 0 (T.puts .e 0 [v])), ?_, ?_⟩
    · unfold appendF appendG
      have hble : Nat.ble (0 + 1) (capN 0) = false := rfl
      have hx : capX 0 = true := rfl
      have hel : elemsF A.get 1 0 none = .ok [] := rfl
      simp only [hst, hxt, isIntD, cond_false, hz, R.ok_bind, lenF, hnew, hble, hi]
      simp only [List.length_nil, Nat.zero_add] at hlim
      simp only [Nat.zero_add, hlim, cond_true, hel, R.ok_bind, hx, List.nil_append]
    · exact fin A rfl (fun _ _ => rfl)
  · obtain ⟨cs, hb', hcs⟩ := h3
    have hel : elemsF A.get 1 l.length (some ⟨b, 0, none⟩) = .ok l := elemsF_vals ⟨cs, hb', hcs⟩
    have hble : Nat.ble (l.length + 1) (capN (mkX l.length 1)) = false := by
      rw [capN_mkX he1]
      cases hq : Nat.ble (l.length + 1) l.length with
      | false => rfl
      | true => have := Nat.le_of_ble_eq_true hq; omega
    have hx : capX (mkX l.length 1) = false := capX_mkX _ _
    have he : Nat.beq (capE (mkX l.length 1)) 1 = true := by rw [capE_mkX he1]; rfl
    have hfz : (Nat.ble 0 (0 + l.length * 1) && (Nat.beq e e && Nat.blt 0 9223372036854775808)) = true := by
      have h0 : Nat.blt 0 9223372036854775808 = true := by rw [Nat.blt_eq]; omega
      rw [h0]; simp
    refine ⟨_, (A.set b .dead).alloc (.cells e .row 0 (T.puts .e 0 (l ++ [v]))), ?_, fin (A.set b .dead) (next_set _ _ _) (fun y hy => by rw [get_setMem, if_neg hy])⟩
    unfold appendF appendG
    simp only [hst, hxt, isIntD, cond_false, hz, R.ok_bind, lenF, hnew, hble, hi, hlim, cond_true, hel, hx, he, List.all_cons, List.all_nil, h1c, Bool.and_true, hb', hfz]

/-! ### What is forgotten -/

/-- A memory of which less is known. -/
theorem Rel.less {ι : Inj} {A A' : Mem} {w : World} (h : Rel ι A w) (hg : ∀ x o, A'.get x = some o → alive o = true → ∃ o0, A.get x = some o0 ∧ alive o0 = true ∧ ∀ l o', OR ι o0 l o' → OR ι o l o') (hw : ∀ b, A'.next ≤ b → A'.get b = none) (hgl : ∀ b t k c, A'.get b = some (.cells t .row (GB k) c) → A.get b = some (.cells t .row (GB k) c)) : Rel ι A' w where
  gl := fun b t k c hb => h.gl b t k c (hgl b t k c hb)
  wf := hw
  obs := fun b o l hb ha hl => by
    obtain ⟨o0, h1, h2, h3⟩ := hg b o hb ha
    obtain ⟨o', h4, h5⟩ := h.obs b o0 l h1 h2 hl
    exact ⟨o', h4, h3 l o' h5⟩
  rng := h.rng
  inj := fun b b' l l' ⟨o, h1, h2⟩ ⟨o', h3, h4⟩ => by
    obtain ⟨p, p1, p2, _⟩ := hg b o h1 h2
    obtain ⟨q, q1, q2, _⟩ := hg b' o' h3 h4
    exact h.inj b b' l l' ⟨p, p1, p2⟩ ⟨q, q1, q2⟩
theorem Stp.less {ι ι' : Inj} {A A1 A' : Mem} {w w' : World} (h : Stp ι A w ι' A1 w') (hn : A'.next = A1.next) (hl : ∀ b, live A' b → live A1 b) (hk : ∀ b, b < A.next → A1.get b = A.get b → A'.get b = A.get b) : Stp ι A w ι' A' w' where
  next := by rw [hn]; exact h.next
  out := fun b hb => h.out b (by rw [hn] at hb; exact hb)
  src := fun b l hb hl' => h.src b l (hl b hb) hl'
  fr := h.fr
  size := h.size
  os := h.os
  tape := h.tape
  output := h.output
  drawn := h.drawn
  kept := fun b l hb hs => ⟨hk b hs.1 (h.kept b l hb hs).1, (h.kept b l hb hs).2⟩

/-! ### The hook -/

/-- Are the marks of entries all unlike, rising, and below the clock? -/
def bornsOk (clock : Nat) : List MapEntry → Bool
  | [] => true
  | e :: l => Nat.blt e.born clock && (l.all fun x => Nat.blt e.born x.born) && bornsOk clock l
theorem bornsOk_lt {clock : Nat} : ∀ {l : List MapEntry}, bornsOk clock l = true → ∀ e ∈ l, e.born < clock
  | [], _, _, h => by cases h
  | x :: l, hb, e, h => by
    simp only [bornsOk, Bool.and_eq_true] at hb
    rcases List.mem_cons.1 h with rfl | h
    · have := hb.1.1; rw [Nat.blt_eq] at this; exact this
    · exact bornsOk_lt hb.2 e h
theorem bornsOk_nodup {clock : Nat} : ∀ {l : List MapEntry}, bornsOk clock l = true → (l.map (·.born)).Nodup
  | [], _ => .nil
  | x :: l, hb => by
    simp only [bornsOk, Bool.and_eq_true] at hb
    refine List.nodup_cons.2 ⟨fun h => ?_, bornsOk_nodup hb.2⟩
    obtain ⟨y, hy, he⟩ := List.mem_map.1 h
    have := List.all_eq_true.1 hb.1.2 y hy
    rw [Nat.blt_eq] at this
    have he : y.born = x.born := he
    omega

noncomputable def sortHook (tb : Tab) (Ds : List KeysF) (tK : TypeId) (p : Value → Bool) (lt : Value → Value → Bool) : List Value → Mem → R (Value × Mem) := fun args A =>
  match args with
  | [.func (.func g) ⟨[]⟩ ⟨[.pointer (some ⟨bp, 0, none⟩)]⟩] => match Ds.find? fun D => Nat.beq D.f g with
    | some D => (loadF tb A.get D.tM (.pointer (some ⟨bp, 0, none⟩))).bind fun v => match v with
      | .map (some m) => match A.get m with
        | some (.map es clock) => bif bornsOk clock es && Nat.ble es.length 12 && es.all (fun e => p e.key) then
            match sortV lt (es.map (·.key)) with
            | [] => .ok (.slice none 0 0, { A with next := A.next + 4 })
            | x :: l => .ok (.slice (some ⟨A.next + (2 * es.length + 3), 0, none⟩) es.length (mkX es.length 1),
                { heap := A.heap.set (A.next + (2 * es.length + 3)) (.cells tK .row 0 (T.puts .e 0 (x :: l))), next := A.next + (2 * es.length + 4) })
          else .no 801
        | _ => .no 802
      | .map none => .ok (.slice none 0 0, { A with next := A.next + 4 })
      | _ => .no 803
    | none => .no 804
  | _ => .no 805

/-- What must be shown of such a function: what it answers, in whatever order the keys come. -/
def SortSays (tb : Tab) (f : FuncId) (D : KeysF) (tK : TypeId) (p : Value → Bool) (lt : Value → Value → Bool) : Prop :=
  ∀ (A : Mem) (bp clock : Nat) (mv : Value) (es : List MapEntry), loadF tb A.get D.tM (.pointer (some ⟨bp, 0, none⟩)) = .ok mv → MapV A mv es clock → (∀ b, A.next ≤ b → A.get b = none) → (∀ e ∈ es, e.born < clock) → (es.map (·.born)).Nodup → es.length ≤ 12 → (∀ e ∈ es, p e.key = true) →
    RCall (A.next + (2 * es.length + 4)) tb.P (.fn f [.func (.func D.f) ⟨[]⟩ ⟨[.pointer (some ⟨bp, 0, none⟩)]⟩]) A fun v A' => A'.next = A.next + (2 * es.length + 4) ∧ (∀ y, y < A.next → A'.get y = A.get y) ∧ ∃ l', l'.Perm (es.map (·.key)) ∧ SortedV lt l' ∧ RowS A' tK (A.next + (2 * es.length + 3)) l' v

theorem key_flat {v : Value} (h : isStrV v = true ∨ isU8V v = true) : flat 9 v = true := by
  rcases h with h | h
  · unfold isStrV at h
    split at h
    · rfl
    · cases h
  · unfold isU8V at h
    split at h
    · rfl
    · cases h

theorem sort_ok (ok : TabOk tb) {f : FuncId} {fn : Func} {c : Code} (hf : tb.fn.get f = some fn) (hb : fn.body = some c) (hng : (fn.name == "runtime.NumGoroutine") = false) {Ds : List KeysF} {tK : TypeId} {p : Value → Bool} {lt : Value → Value → Bool} (hlt : LtOn p lt)
    (hs : ∀ D ∈ Ds, SortSays tb f D tK p lt) : HookOk tb.P f (sortHook tb Ds tK p lt) := by
  intro args A v A' h
  unfold sortHook at h
  split at h
  case h_2 => cases h
  rename_i g bp
  split at h
  case h_2 => cases h
  rename_i D hD
  obtain ⟨mv, h1, h2⟩ := R.bind_ok h
  clear h
  obtain ⟨es, clock, hmv, hq, h2⟩ : ∃ es clock, ((∃ m, mv = .map (some m) ∧ A.get m = some (.map es clock)) ∨ (mv = .map none ∧ es = [])) ∧ ((bornsOk clock es = true ∧ Nat.ble es.length 12 = true) ∧ (es.all fun e => p e.key) = true) ∧
      (match sortV lt (es.map (·.key)) with
        | [] => R.ok ((Value.slice none 0 0, { A with next := A.next + 4 }) : Value × Mem)
        | x :: l => .ok (Value.slice (some ⟨A.next + (2 * es.length + 3), 0, none⟩) es.length (mkX es.length 1),
            { heap := A.heap.set (A.next + (2 * es.length + 3)) (.cells tK .row 0 (T.puts .e 0 (x :: l))), next := A.next + (2 * es.length + 4) })) = .ok (v, A') := by
    split at h2
    · rename_i m
      split at h2
      case h_2 => cases h2
      rename_i es clock hm
      cases hq : (bornsOk clock es && Nat.ble es.length 12 && es.all fun e => p e.key) with
      | false => rw [hq] at h2; cases h2
      | true =>
        rw [hq, cond_true] at h2
        simp only [Bool.and_eq_true] at hq
        exact ⟨es, clock, .inl ⟨m, rfl, hm⟩, hq, h2⟩
    · exact ⟨[], 0, .inr ⟨rfl, rfl⟩, ⟨⟨rfl, rfl⟩, rfl⟩, h2⟩
    · cases h2
  have hDm := List.mem_of_find?_eq_some hD
  have hDf : D.f = g := Nat.eq_of_beq_eq_true (by have := List.find?_some hD; exact this)
  subst hDf
  have hlen : (sortV lt (es.map (·.key))).length = es.length := by rw [(sortV_perm lt _).length_eq, List.length_map]
  have hnx : A'.next = A.next + (2 * es.length + 4) ∧ (∀ y, y < A.next → A'.get y = A.get y) ∧ (∀ y, A.next ≤ y → y ≠ A.next + (2 * es.length + 3) → A'.get y = A.get y) ∧ RowS A' tK (A.next + (2 * es.length + 3)) (sortV lt (es.map (·.key))) v ∧
      (es = [] → A'.get (A.next + (2 * es.length + 3)) = A.get (A.next + (2 * es.length + 3))) ∧ (es ≠ [] → A'.get (A.next + (2 * es.length + 3)) = some (.cells tK .row 0 (T.puts .e 0 (sortV lt (es.map (·.key)))))) := by
    split at h2
    · rename_i hnil
      simp only [R.ok.injEq, Prod.mk.injEq] at h2
      obtain ⟨rfl, rfl⟩ := h2
      rw [hnil] at hlen
      have : es = [] := List.length_eq_zero_iff.1 hlen.symm
      subst this
      exact ⟨rfl, fun _ _ => rfl, fun _ _ _ => rfl, .inl ⟨rfl, hnil⟩, fun _ => rfl, fun h => absurd rfl h⟩
    · rename_i x l hxl
      simp only [R.ok.injEq, Prod.mk.injEq] at h2
      obtain ⟨rfl, rfl⟩ := h2
      have hget : ∀ y, ({ heap := A.heap.set (A.next + (2 * es.length + 3)) (.cells tK .row 0 (T.puts .e 0 (x :: l))), next := A.next + (2 * es.length + 4) } : Mem).get y = if y = A.next + (2 * es.length + 3) then some (.cells tK .row 0 (T.puts .e 0 (x :: l))) else A.get y := fun y => T.get_set ..
      have hne : es ≠ [] := by
        rintro rfl
        cases hxl
      refine ⟨rfl, fun y hy => by rw [hget, if_neg (by omega)], fun y hy hne => by rw [hget, if_neg hne], .inr ⟨by rw [hxl]; simp, ?_, by show _ < A.next + (2 * es.length + 4); omega, ?_⟩, fun h => absurd h hne, fun _ => by rw [hget, if_pos rfl, hxl]⟩
      · rw [hlen]
      · rw [hxl]
        exact vals_puts (by rw [hget, if_pos rfl])
  obtain ⟨hnA, hgA, hgA2, hrow, hgb0, hgb⟩ := hnx
  refine ⟨by omega, fun ι w args' hr ha hfree fr cs => ?_⟩
  have hcf : ∀ args' w, (callFunc f args').run tb.P w = .ok (.enter f args') w := by
    intro args' w
    unfold callFunc
    simp only [Sem.run_bind, run_program, Result.andThen_ok, ok.fn _ _ hf, hng, hb, Option.isNone_some, Bool.false_eq_true, if_false, Sem.run_pure]
  obtain ⟨v1, A1, ι1, w1, v', ⟨hn1, hg1, l', hp1, hs1, hr1⟩, _, hdone, hv1, hrel1, hst1⟩ := hs D hDm A bp clock mv es h1 (by
    rcases hmv with ⟨m, e1, e2⟩ | e1
    · refine .inl ⟨m, e1, ?_, e2⟩
      rcases Nat.lt_or_ge m A.next with h | h
      · exact h
      · rw [hr.wf m h] at e2; cases e2
    · exact .inr e1) hr.wf (bornsOk_lt hq.1.1) (bornsOk_nodup hq.1.1) (Nat.le_of_ble_eq_true hq.1.2) (fun e he => List.all_eq_true.1 hq.2 e he) ι w (callFunc f args') fr cs hr ⟨args', rfl, ha⟩
    (fun x h1 h2 => hfree x h1 (by rw [hnA]; exact h2))
  have hl' : l' = sortV lt (es.map (·.key)) := sorted_one hlt (fun y hy => by
    obtain ⟨e, he, rfl⟩ := List.mem_map.1 (hp1.mem_iff.1 hy)
    exact List.all_eq_true.1 hq.2 e he) hs1 hp1
  subst hl'
  have hvv : v1 = v := by
    rcases hrow with ⟨e1, e2⟩ | ⟨e1, e2, _⟩
    · rcases hr1 with ⟨g1, _⟩ | ⟨g1, _⟩
      · rw [e1, g1]
      · exact absurd e2 g1
    · rcases hr1 with ⟨_, g2⟩ | ⟨_, g2, _⟩
      · exact absurd g2 e1
      · rw [e2, g2]
  subst hvv
  have hsteps : Steps tb.P (lone (Frame.enter tb.P f args' .normal) (fr :: cs) w) (lone (fr.finish v') cs w1) := by
    rcases hdone with h | ⟨f2, a2, h, hst⟩ | ⟨l, f2, t, as, bd, h, _⟩
    · rw [hcf] at h; cases h
    · rw [hcf] at h
      cases h
      exact hst
    · rw [hcf] at h; cases h
  have hwfA := hr.wf
  have hobs : ∀ x o, A'.get x = some o → alive o = true → ∃ o0, A1.get x = some o0 ∧ alive o0 = true ∧ ∀ l o', OR ι1 o0 l o' → OR ι1 o l o' := by
    intro x o hx ha
    rcases Nat.lt_or_ge x A.next with hlt | hge
    · rw [hgA x hlt, ← hg1 x hlt] at hx
      exact ⟨o, hx, ha, fun _ _ h => h⟩
    · by_cases hxe : x = A.next + (2 * es.length + 3)
      · subst hxe
        by_cases hes : es = []
        · rw [hgb0 hes, hwfA _ (by omega)] at hx; cases hx
        · rw [hgb hes] at hx
          cases hx
          rcases hr1 with ⟨_, g2⟩ | ⟨_, _, _, cc, g3, g4⟩
          · rw [g2] at hlen
            exact absurd (List.length_eq_zero_iff.1 hlen.symm) hes
          · refine ⟨_, g3, rfl, fun ll o' hor => ?_⟩
            obtain ⟨cs', fr', q1, q2, q3, q4⟩ := hor
            refine ⟨cs', fr', q1, q2, fun i vv hvv => ?_, q4⟩
            rw [T.get_puts] at hvv
            by_cases hi : 0 ≤ i ∧ i < 0 + (sortV lt (es.map (·.key))).length
            · rw [if_pos hi] at hvv
              exact q3 i vv (by rw [g4 i (by omega)]; simpa using hvv)
            · rw [if_neg hi, T.get_e] at hvv; cases hvv
      · rw [hgA2 x hge hxe, hwfA x hge] at hx; cases hx
  have hwf' : ∀ b, A'.next ≤ b → A'.get b = none := by
    intro b hbn
    rw [hnA] at hbn
    rw [hgA2 b (by omega) (by omega)]
    exact hwfA b (by omega)
  refine ⟨ι1, w1, v', hsteps, hv1, hrel1.less hobs hwf' (fun b t k c hb => by
    rcases Nat.lt_or_ge b A.next with hlt | hge
    · rw [hgA b hlt, ← hg1 b hlt] at hb; exact hb
    · by_cases hxe : b = A.next + (2 * es.length + 3)
      · subst hxe
        by_cases hes : es = []
        · rw [hgb0 hes, hwfA _ (by omega)] at hb; cases hb
        · rw [hgb hes] at hb
          have h3 : 0 = GB k := by injection hb with hb; injection hb
          unfold GB at h3
          omega
      · rw [hgA2 b hge hxe, hwfA b hge] at hb; cases hb), hst1.less (by rw [hnA, hn1]) (fun b ⟨o, h1, h2⟩ => ?_) (fun b hb _ => hgA b hb)⟩
  obtain ⟨o0, h3, h4, _⟩ := hobs b o h1 h2
  exact ⟨o0, h3, h4⟩

/-- Memory in which there is more. -/
structure More (A C : Mem) : Prop where
  n : A.next ≤ C.next
  g : ∀ y, y < A.next → C.get y = A.get y
theorem More.alloc (A : Mem) (o : Ob) : More A (A.alloc o) := ⟨by rw [next_alloc]; omega, fun y hy => get_alloc_ne (by omega)⟩
theorem wrapF_u64 {n : Nat} (h : n < 18446744073709551616) : wrapF .u64 (n : Int) = (n : Int) := by
  have e : inK .u64 (n : Int) = true := by
    unfold inK
    show Nat.blt n 18446744073709551616 = true
    rw [Nat.blt_eq]; exact h
  unfold wrapF; rw [e]; rfl

theorem load_none {g : Nat → Option Ob} {t : TypeId} {b : Nat} (h : g b = none) : loadF tb g t (.pointer (some ⟨b, 0, none⟩)) = .no 72 := by
  unfold loadF
  simp only [h]

end Go.Am

/-
  The abstract machine AM, part 63b: a first memory with package-level variables: cells that are known, and cells that are not looked at.
-/
namespace Go.Am

abbrev Glb := List (Nat × List Value)
/-- A variable's cells. -/
def gOf : Glb → Nat → Option (List Value)
  | [], _ => none
  | p :: l, b => if b = p.1 then some p.2 else gOf l b
noncomputable def gOb (t : TypeId) (k : Nat) (vs : List Value) : Ob := .cells t .row (GB k) (T.puts .e 0 vs)
noncomputable def gHeap (ts : Nat → TypeId) : Glb → T Ob
  | [] => .e
  | p :: l => (gHeap ts l).set p.1 (gOb (ts p.1) p.1 p.2)
noncomputable def gMem (ts : Nat → TypeId) (l : Glb) (n : Nat) : Mem := ⟨gHeap ts l, n⟩
theorem gHeap_get (ts : Nat → TypeId) (b : Nat) : ∀ l, (gHeap ts l).get b = (gOf l b).map (gOb (ts b) b)
  | [] => by simp [gHeap, gOf, T.get_e]
  | p :: l => by
    rw [gHeap, T.get_set, gHeap_get ts b l]
    have e : gOf (p :: l) b = if b = p.1 then some p.2 else gOf l b := rfl
    rw [e]
    by_cases h : b = p.1
    · subst h; simp
    · simp [h]
def gInj (l : Glb) : Inj := fun b => (gOf l b).map fun vs => ⟨b, 0, vs.length⟩
theorem gInj_some {l : Glb} {b : Nat} {c : Loc} (h : gInj l b = some c) : ∃ vs, gOf l b = some vs ∧ c = ⟨b, 0, vs.length⟩ := by
  unfold gInj at h
  cases hq : gOf l b with
  | none => rw [hq] at h; cases h
  | some vs => rw [hq] at h; cases h; exact ⟨vs, rfl, rfl⟩
/-- A cell that is not looked at, or one of a plain number. -/
def CellAt (v v' : Value) : Prop := (v = .chan (some 0) ∧ oneCell v' = true) ∨ ∃ k n, v = .int k n ∧ v' = .int k n
theorem CellAt.vr {ι : Inj} {v v' : Value} (h : CellAt v v') : VR ι v v' := by
  rcases h with ⟨rfl, h⟩ | ⟨k, n, rfl, rfl⟩
  · exact .unk h
  · exact .int _ _
/-- A variable's cells in a world. -/
def GAt (w : World) (g : Nat) (vs : List Value) : Prop := ∃ (ws : Array Value) (t : TypeId), w.heap[g]? = some (.cells ws t (0, 0)) ∧ ws.size = vs.length ∧ ∀ (i : Nat) (v : Value), vs[i]? = some v → ∃ v', ws[i]? = some v' ∧ CellAt v v'
theorem OneAt.g {w : World} {g : Nat} (h : OneAt w g) : GAt w g [.chan (some 0)] := by
  obtain ⟨v, t, e, h1⟩ := h
  refine ⟨#[v], t, e, rfl, fun i x hi => ?_⟩
  cases i with
  | zero => cases hi; exact ⟨v, rfl, .inl ⟨rfl, h1⟩⟩
  | succ i => simp at hi
theorem g_rel {w : World} {l : Glb} {n : Nat} (hn : ∀ k vs, gOf l k = some vs → k < n) {ts : Nat → TypeId} (h : ∀ k vs, gOf l k = some vs → ∃ (ws : Array Value), w.heap[k]? = some (.cells ws (ts k) (0, 0)) ∧ ws.size = vs.length ∧ ∀ (i : Nat) (v : Value), vs[i]? = some v → ∃ v', ws[i]? = some v' ∧ CellAt v v') :
    Rel (gInj l) (gMem ts l n) w := by
  have hget : ∀ b, (gMem ts l n).get b = (gOf l b).map (gOb (ts b) b) := fun b => gHeap_get ts b l
  refine ⟨fun b hb => ?_, fun b o c hb ha hc => ?_, fun b c hc => ?_, fun b b' c c' _ _ hc hc' he => ?_, fun b t k c hb => ?_⟩
  · rw [hget]
    cases hq : gOf l b with
    | none => rfl
    | some vs => have h1 := hn b vs hq; have h2 : n ≤ b := hb; omega
  · obtain ⟨vs, hvs, rfl⟩ := gInj_some hc
    rw [hget, hvs] at hb
    cases hb
    obtain ⟨ws, e, h1, h2⟩ := h b vs hvs
    refine ⟨_, e, ws, (0, 0), rfl, h1, fun i x hx => ?_, Nat.zero_le _⟩
    rw [T.get_puts] at hx
    split at hx
    · obtain ⟨v', e1, e2⟩ := h2 i x (by simpa using hx)
      exact ⟨v', by simpa using e1, e2.vr⟩
    · rw [T.get_e] at hx; cases hx
  · obtain ⟨vs, hvs, rfl⟩ := gInj_some hc
    obtain ⟨ws, e, _⟩ := h b vs hvs
    exact (Array.getElem?_eq_some_iff.1 e).1
  · obtain ⟨_, _, rfl⟩ := gInj_some hc
    obtain ⟨_, _, rfl⟩ := gInj_some hc'
    exact he
  · rw [hget] at hb
    cases hq : gOf l b with
    | none => rw [hq] at hb; cases hb
    | some vs =>
      rw [hq] at hb
      simp only [gOb, Option.map_some, Option.some.injEq, Ob.cells.injEq, GB] at hb
      have hk : k = b := by omega
      subst hk
      exact ⟨⟨k, 0, vs.length⟩, by unfold gInj; rw [hq]; rfl, rfl, rfl⟩

/-! ### A table of numbers, in a world that meets the condition -/
theorem laid_table {P : Program} {l : List (String × DataW Unit)} {w : World} (h : laidMet P l w) {n : String} {kd : IntKind} {zs : List Int} (hx : (n, DataW.agg (zs.map fun z => DataW.lit (.int kd z))) ∈ l) {g : Nat} {t e : TypeId} (hg : P.globalNamed n = some g)
    (ht : (P.globals[g]?).map (·.type) = some t) (ha : P.underlying t = some (.array zs.length e)) (he : P.underlying e = some (.int kd)) (hce : P.cellsOf e = 1) (hct : P.cellsOf t = zs.length) (h0 : 0 < zs.length) : GAt w g (zs.map fun z => .int kd z) := by
  obtain ⟨ps, hl, _, hrows⟩ := h
  obtain ⟨g', t', cs, fuel, p, h1, h2, h3, h4, h5⟩ := laid_mem hl hx
  rw [hg] at h1
  cases h1
  rw [ht] at h2
  cases h2
  obtain ⟨xs, m, -, hxe, hcl, hxl, hi⟩ := DataW.trod_array ha h4
  rw [hct] at hcl
  have hsz : cs.size = zs.length := by simpa using hcl
  obtain ⟨⟨c, tt, e1⟩, _⟩ := hrows g 0 (h5 _ (by unfold MemPlace.row; rw [List.mem_map]; exact ⟨0, List.mem_range.2 (by omega), rfl⟩))
  unfold World.var? at h3
  rw [hg, Option.bind_some, e1] at h3
  simp only [Option.some.injEq] at h3
  subst h3
  refine ⟨c, tt, e1, by simpa using hsz, fun i v hv => ?_⟩
  rw [List.getElem?_map] at hv
  obtain ⟨z, hz, rfl⟩ := Option.map_eq_some_iff.1 hv
  have hil := (List.getElem?_eq_some_iff.1 hz).1
  have hi' := hi i hil
  rw [hce, Nat.mul_one] at hi'
  have hci : i < c.size := by omega
  have hone : (c.toList.drop i).take 1 = [c[i]] := by
    rw [List.drop_eq_getElem_cons (by simpa using hci)]
    simp
  rw [hone] at hi'
  have hxi : xs[i]? = some xs[i] := List.getElem?_eq_getElem (by omega)
  rw [hxi] at hi'
  obtain ⟨q, hq1, hq2, -⟩ := DataW.trod_int he hi'
  simp only [List.cons.injEq, and_true] at hq1
  refine ⟨c[i], Array.getElem?_eq_getElem hci, .inr ⟨kd, z, rfl, ?_⟩⟩
  have hd : (xs[i]).1 = DataW.lit (.int kd z) := by
    have h6 : zs.map (fun z => DataW.lit (H := Unit) (.int kd z)) = xs.map (·.1) := by
      injection (Prod.mk.inj hxe).1
    have h7 := congrArg (·[i]?) h6
    simp only [List.getElem?_map, hz, hxi, Option.map_some, Option.some.injEq] at h7
    exact h7.symm
  rw [hq1]
  have hq3 := hq2
  rw [hq3] at hd
  injection hd with hd
  injection hd with _ hd
  rw [hd]
end Go.Am

/-
  The abstract machine AM, part 64: a long run is cut; what is not needed is forgotten.
-/
namespace Go.Am
variable {tb : Tab}

/-- The first rows are there, as they were. -/
def Here (G : Glb) (ts : Nat → TypeId) (ι : Inj) (A : Mem) : Prop := ∀ b vs, gOf G b = some vs → b < A.next ∧ A.get b = some (gOb (ts b) b vs) ∧ ι b = some ⟨b, 0, vs.length⟩ ∧ vs.length < 18446744073709551617
/-- What stays, of the first rows at least. -/
structure GStp (G : Glb) (ι : Inj) (A : Mem) (w : World) (ι' : Inj) (A' : Mem) (w' : World) : Prop where
  next : A.next ≤ A'.next
  out : ∀ b, b < A.next ∨ A'.next ≤ b → ι' b = ι b
  src : ∀ b l, live A' b → ι' b = some l → w.heap.size ≤ l.blk ∨ ∃ b0 l0, live A b0 ∧ ι b0 = some l0 ∧ l0.blk = l.blk
  fr : ∀ c, c < w.heap.size → (∀ b l, live A b → ι b = some l → l.blk ≠ c) → w'.heap[c]? = w.heap[c]?
  size : w.heap.size ≤ w'.heap.size
  os : w'.os = w.os
  tape : w'.tape = w.tape
  output : w'.output = w.output
  kept : ∀ b vs, gOf G b = some vs → w'.heap[b]? = w.heap[b]?
  drawn : w.drawn ≤ w'.drawn
theorem Here.still {G : Glb} {ts : Nat → TypeId} {ι : Inj} {A : Mem} (h : Here G ts ι A) {b : Nat} {vs : List Value} (hb : gOf G b = some vs) : Still A b ⟨b, 0, vs.length⟩ :=
  ⟨(h b vs hb).1, ts b, GB b, _, (h b vs hb).2.1, by unfold GB; omega, by have := (h b vs hb).2.2.2; show vs.length < GB b; unfold GB; omega⟩
theorem GStp.of {G : Glb} {ts : Nat → TypeId} {ι ι' : Inj} {A A' : Mem} {w w' : World} (h : Stp ι A w ι' A' w') (hh : Here G ts ι A) : GStp G ι A w ι' A' w' ∧ Here G ts ι' A' :=
  ⟨⟨h.next, h.out, h.src, h.fr, h.size, h.os, h.tape, h.output, fun b vs hb => (h.kept b _ (hh b vs hb).2.2.1 (hh.still hb)).2, h.drawn⟩,
    fun b vs hb => ⟨Nat.lt_of_lt_of_le (hh b vs hb).1 h.next, by rw [(h.kept b _ (hh b vs hb).2.2.1 (hh.still hb)).1]; exact (hh b vs hb).2.1, by rw [h.out b (.inl (hh b vs hb).1)]; exact (hh b vs hb).2.2.1, (hh b vs hb).2.2.2⟩⟩
theorem GStp.trans {G : Glb} {ι ι1 ι2 : Inj} {A A1 A2 : Mem} {w w1 w2 : World} (h : GStp G ι A w ι1 A1 w1) (k : GStp G ι1 A1 w1 ι2 A2 w2) : GStp G ι A w ι2 A2 w2 where
  next := Nat.le_trans h.next k.next
  out := fun b hb => by
    have := h.next
    have := k.next
    rw [k.out b (by omega), h.out b (by omega)]
  src := fun b l hb hl => by
    rcases k.src b l hb hl with h1 | ⟨b0, l0, h1, h2, h3⟩
    · exact .inl (Nat.le_trans h.size h1)
    · rcases h.src b0 l0 h1 h2 with h4 | ⟨b1, l1, h4, h5, h6⟩
      · exact .inl (by omega)
      · exact .inr ⟨b1, l1, h4, h5, by omega⟩
  fr := fun c hc hn => by
    rw [k.fr c (Nat.lt_of_lt_of_le hc h.size), h.fr c hc hn]
    intro b l hb hl he
    rcases h.src b l hb hl with h1 | ⟨b0, l0, h1, h2, h3⟩
    · omega
    · exact hn b0 l0 h1 h2 (by omega)
  size := Nat.le_trans h.size k.size
  os := k.os.trans h.os
  tape := k.tape.trans h.tape
  output := k.output.trans h.output
  kept := fun b vs hb => (k.kept b vs hb).trans (h.kept b vs hb)
  drawn := Nat.le_trans h.drawn k.drawn
theorem Free.gright {G : Glb} {ι ι1 : Inj} {A A1 A2 : Mem} {w w1 : World} (h : Free ι A A2) (k : GStp G ι A w ι1 A1 w1) : Free ι1 A1 A2 := fun b h1 h2 => by
  rw [k.out b (.inr h1)]; exact h b (Nat.le_trans k.next h1) h2

/-- A piece of code runs from one state to another one. -/
def RunSnd (P : Program) (G : Glb) (ts : Nat → TypeId) (c : Code) (s : St) (e : Ex) (s1 : St) : Prop :=
  s.m.next ≤ s1.m.next ∧ ∀ (ι : Inj) (b : Frame) (a : Act) (k : List Item) (cs : List Frame) (w : World), SR ι s b a w → Here G ts ι s.m → Free ι s.m s1.m →
    ∃ ι' w' a' k', Steps P (lone (b.atR a (.code c :: k)) cs w) (lone (b.atR a' k') cs w') ∧ Arr e k k' ∧ SR ι' s1 b a' w' ∧ Here G ts ι' s1.m ∧ GStp G ι s.m w ι' s1.m w' ∧ s1.n = s.n ∧ s1.ro = s.ro
variable {P : Program} {G : Glb} {ts : Nat → TypeId}
theorem RunSnd.of {c : Code} {s s1 : St} {e : Ex} (h : CodeSnd P c s e s1) : RunSnd P G ts c s e s1 := by
  obtain ⟨hle, h⟩ := h
  refine ⟨hle, fun ι b a k cs w hs hh hf => ?_⟩
  obtain ⟨ι', w', a', k', st, ha, hs', hss⟩ := h ι b a k cs w hs hf
  obtain ⟨g1, g2⟩ := GStp.of hss.stp hh
  exact ⟨ι', w', a', k', st, ha, hs', g2, g1, hss.n, hss.ro⟩
theorem RunSnd.exec (ok : TabOk tb) {n : Nat} {c : Code} {s s1 : St} {e : Ex} (h : exec tb n c s = .ok (e, s1)) (he : ∀ v, e ≠ .pan v) : RunSnd tb.P G ts c s e s1 := by
  rcases exec_sound ok n c s e s1 h with ⟨v, rfl, -⟩ | h
  · exact absurd rfl (he v)
  · exact .of h
/-- One code goes on as another one, before which some steps lie. -/
theorem RunSnd.seqs {c : Code} {s s1 s2 : St} {e : Ex} (h1 : RunSnd P G ts c s .nrm s1) {d : Code} {e2 : Ex} (h2 : RunSnd P G ts d s1 e2 s2)
    {c' : Code} (hst : ∀ (b : Frame) (a : Act) (k : List Item) (cs : List Frame) (w : World), ∃ k1, Steps P (lone (b.atR a (.code c' :: k)) cs w) (lone (b.atR a (.code c :: k1)) cs w) ∧
      ∀ (a : Act) (w : World), ∃ k2, Steps P (lone (b.atR a k1) cs w) (lone (b.atR a (.code d :: k2)) cs w) ∧ ∀ k', Arr e2 k2 k' → ∀ (a : Act) (w : World), ∃ k'', Steps P (lone (b.atR a k') cs w) (lone (b.atR a k'') cs w) ∧ Arr e k k'') :
    RunSnd P G ts c' s e s2 := by
  obtain ⟨hle, h1⟩ := h1
  obtain ⟨hle2, h2⟩ := h2
  refine ⟨Nat.le_trans hle hle2, fun ι b a k cs w hs hh hf => ?_⟩
  obtain ⟨k1, st0, hk⟩ := hst b a k cs w
  obtain ⟨ι1, w1, a1, k1', st1, ha1, hs1, hh1, hss1, n1, r1⟩ := h1 ι b a k1 cs w hs hh (hf.left hle2)
  cases (show k1' = k1 from ha1)
  obtain ⟨k2, st2, hk2⟩ := hk a1 w1
  obtain ⟨ι2, w2, a2, k2', st3, ha2, hs2, hh2, hss2, n2, r2⟩ := h2 ι1 b a1 k2 cs w1 hs1 hh1 (hf.gright hss1)
  obtain ⟨k3, st4, ha3⟩ := hk2 _ ha2 a2 w2
  exact ⟨ι2, w2, a2, k3, (((st0.trans st1).trans st2).trans st3).trans st4, ha3, hs2, hh2, hss1.trans hss2, n2.trans n1, r2.trans r1⟩
theorem RunSnd.wrap {c c' : Code} {s s1 : St} {e e' : Ex} (h1 : RunSnd P G ts c s e s1)
    (hst : ∀ (b : Frame) (a : Act) (k : List Item) (cs : List Frame) (w : World), ∃ k1, Steps P (lone (b.atR a (.code c' :: k)) cs w) (lone (b.atR a (.code c :: k1)) cs w) ∧
      ∀ k', Arr e k1 k' → ∀ (a : Act) (w : World), ∃ k'', Steps P (lone (b.atR a k') cs w) (lone (b.atR a k'') cs w) ∧ Arr e' k k'') :
    RunSnd P G ts c' s e' s1 := by
  obtain ⟨hle, h1⟩ := h1
  refine ⟨hle, fun ι b a k cs w hs hh hf => ?_⟩
  obtain ⟨k1, st0, hk⟩ := hst b a k cs w
  obtain ⟨ι1, w1, a1, k1', st1, ha1, hs1, hh1, hss1, n1, r1⟩ := h1 ι b a k1 cs w hs hh hf
  obtain ⟨k3, st4, ha3⟩ := hk _ ha1 a1 w1
  exact ⟨ι1, w1, a1, k3, (st0.trans st1).trans st4, ha3, hs1, hh1, hss1, n1, r1⟩
theorem RunSnd.seq {x y : Code} {s s1 s2 : St} {e : Ex} (h1 : RunSnd P G ts x s .nrm s1) (h2 : RunSnd P G ts y s1 e s2) : RunSnd P G ts (.seq x y) s e s2 :=
  h1.seqs h2 fun _ _ k _ _ => ⟨_, .one stepR_seq, fun _ _ => ⟨k, .refl _ _, fun k' hk' _ _ => ⟨k', .refl _ _, hk'⟩⟩⟩
theorem RunSnd.blockX {id : Nat} {x : Code} {s s1 : St} (h : RunSnd P G ts x s (.exit id) s1) : RunSnd P G ts (.block id x) s .nrm s1 := by
  refine h.wrap fun b a k cs w => ⟨_, .one stepR_block, ?_⟩
  rintro k' ⟨k2, rfl, hk2⟩ a w
  refine ⟨k, .one (stepR_exit ?_), rfl⟩
  rw [hk2]; simp [exitTo]
theorem RunSnd.loopX {i : Nat} {x : Code} {s s1 : St} (h : RunSnd P G ts x s (.exit i) s1) : RunSnd P G ts (.loop x) s (.exit i) s1 :=
  h.wrap fun b a k cs w => ⟨_, .one stepR_loop, fun k' hk' a w => ⟨k', .refl _ _, hk'.push (by simp) (by simp)⟩⟩
theorem RunSnd.loopN {x : Code} {s s1 s2 : St} {e : Ex} (h1 : RunSnd P G ts x s .nrm s1) (h2 : RunSnd P G ts (.loop x) s1 e s2) : RunSnd P G ts (.loop x) s e s2 := by
  refine ⟨Nat.le_trans h1.1 h2.1, fun ι b a k cs w hs hh hf => ?_⟩
  obtain ⟨ι1, w1, a1, k1, st1, ha1, hs1, hh1, hss1, n1, r1⟩ := h1.2 ι b a (.inLoop x :: k) cs w hs hh (hf.left h2.1)
  cases (show k1 = .inLoop x :: k from ha1)
  obtain ⟨ι2, w2, a2, k2, st2, ha2, hs2, hh2, hss2, n2, r2⟩ := h2.2 ι1 b a1 k cs w1 hs1 hh1 (hf.gright hss1)
  have hne : lone (b.atR a2 k2) cs w2 ≠ lone (b.atR a1 (.code (.loop x) :: k)) cs w1 := by
    intro he
    have h5 : k2 = .code (.loop x) :: k := by
      have := congrArg (fun m : Machine => m.gs) he
      simp only [lone] at this
      have := congrArg (fun g : Array Goroutine => g.toList.map fun g => g.frame.todo) this
      simpa [Frame.atR] using this
    exact ha2.ne (by simp) (by simp) h5
  exact ⟨ι2, w2, a2, k2, (Steps.head stepR_loop st1).trans (steps_swap st2 stepR_loop stepR_inLoop hne), ha2, hs2, hh2, hss1.trans hss2, n2.trans n1, r2.trans r1⟩

/-! ### What is forgotten -/
def SubOb (o o1 : Ob) : Prop :=
  match o with
  | .cells t x fz c => ∃ c1, o1 = .cells t x fz c1 ∧ ∀ i v, c.get i = some v → c1.get i = some v
  | o => o1 = o
theorem SubOb.alive {o o1 : Ob} (h : SubOb o o1) : alive o = alive o1 := by
  cases o with
  | cells t x fz c => obtain ⟨c1, rfl, -⟩ := h; rfl
  | _ => cases (show o1 = _ from h); rfl
theorem SubOb.or {o o1 : Ob} (h : SubOb o o1) {ι : Inj} {l : Loc} {o' : Obj} (k : OR ι o1 l o') : OR ι o l o' := by
  cases o with
  | cells t x fz c =>
    obtain ⟨c1, rfl, hc⟩ := h
    obtain ⟨cs, fr, h1, h2, h3, h4⟩ := k
    exact ⟨cs, fr, h1, h2, fun i v hv => h3 i v (hc i v hv), h4⟩
  | _ => cases (show o1 = _ from h); exact k
structure SubSt (G : Glb) (ts : Nat → TypeId) (s s1 : St) : Prop where
  n : s.n = s1.n
  d : s.d = s1.d
  ro : s.ro = s1.ro
  next : s.m.next = s1.m.next
  t : ∀ i v, s.t.get i = some v → s1.t.get i = some v
  m : ∀ b o, s.m.get b = some o → gOf G b = none → ∃ o1, s1.m.get b = some o1 ∧ SubOb o o1
  g : ∀ b vs, gOf G b = some vs → s.m.get b = some (gOb (ts b) b vs)
  wf : ∀ b, s.m.next ≤ b → s.m.get b = none
theorem RunSnd.cut {c : Code} {s s1 s2 : St} {e : Ex} (h : RunSnd P G ts c s e s1) (k : SubSt G ts s2 s1) : RunSnd P G ts c s e s2 := by
  obtain ⟨hle, h⟩ := h
  refine ⟨by rw [k.next]; exact hle, fun ι b a kk cs w hs hh hf => ?_⟩
  obtain ⟨ι', w', a', k', st, ha, hs', hh', hss, n', r'⟩ := h ι b a kk cs w hs hh (fun b h1 h2 => hf b h1 (by rw [k.next]; exact h2))
  have hm : ∀ b o, s2.m.get b = some o → ∃ o1, s1.m.get b = some o1 ∧ SubOb o o1 := fun b o hb => by
    cases hG : gOf G b with
    | some vs =>
      have := k.g b vs hG
      rw [this] at hb
      cases hb
      exact ⟨_, (hh' b vs hG).2.1, _, rfl, fun _ _ h => h⟩
    | none => exact k.m b o hb hG
  have hlive : ∀ b, live s2.m b → live s1.m b := fun b ⟨o, h1, h2⟩ => by
    obtain ⟨o1, h3, h4⟩ := hm b o h1
    exact ⟨o1, h3, by rw [← h4.alive]; exact h2⟩
  refine ⟨ι', w', a', k', st, ha, ⟨⟨k.wf, fun b o l h1 h2 h3 => ?_, hs'.rel.rng, fun b b' l l' h1 h2 h3 h4 h5 => hs'.rel.inj b b' l l' (hlive b h1) (hlive b' h2) h3 h4 h5, fun b t q cc h1 => ?_⟩, ⟨by rw [k.n]; exact hs'.tr.1, fun i v hv => hs'.tr.2 i v (k.t i v hv)⟩, by rw [k.ro]; exact hs'.ro, by rw [k.d]; exact hs'.dr⟩,
    fun b vs hb => ⟨by rw [k.next]; exact (hh' b vs hb).1, k.g b vs hb, (hh' b vs hb).2.2⟩, ⟨by rw [k.next]; exact hss.next, by rw [k.next]; exact hss.out, fun b l h1 h2 => hss.src b l (hlive b h1) h2, hss.fr, hss.size, hss.os, hss.tape, hss.output, hss.kept, hss.drawn⟩, by rw [k.n]; exact n', by rw [k.ro]; exact r'⟩
  · obtain ⟨o1, h4, h5⟩ := hm b o h1
    obtain ⟨o', h6, h7⟩ := hs'.rel.obs b o1 l h4 (by rw [← h5.alive]; exact h2) h3
    exact ⟨o', h6, h5.or h7⟩
  · obtain ⟨o1, h4, c1, rfl, -⟩ := hm b _ h1
    exact hs'.rel.gl b t q c1 h4
end Go.Am

/-
  The abstract machine AM, part 65: a law whose run is cut; what a cut is checked against.
-/
namespace Go.Am
variable {tb : Tab} (ok : TabOk tb)

/-! ### The law -/
theorem gOf_mem : ∀ {l : Glb} {b : Nat} {vs : List Value}, gOf l b = some vs → (b, vs) ∈ l
  | p :: l, b, vs, h => by
    have h' : (if b = p.1 then some p.2 else gOf l b) = some vs := h
    split at h'
    · rename_i e
      cases h'
      subst e
      exact List.mem_cons_self ..
    · exact List.mem_cons_of_mem _ (gOf_mem h')

include ok in
/-- A law without arguments whose text runs, in pieces, to an answer that is true. -/
theorem cut_true {N : Nat} {l : Glb} (hl : l.all (fun p => Nat.blt p.1 N && Nat.blt p.2.length 1000000) = true) {f : FuncId} {fn : Func} {c : Code} (hf : tb.fn.get f = some fn) (hb : fn.body = some c)
    (h : ∀ ts, ∃ s1, RunSnd tb.P l ts c ⟨.e, fn.ntmps, [], gMem ts l N, none⟩ .ret s1 ∧ s1.d = [] ∧ resF tb s1.t s1.m.get fn.results.toList = .ok [.bool true]) (w : World) (hw : ∀ k vs, gOf l k = some vs → GAt w k vs) :
    Calls tb.P f #[] w fun e w' => e = .returned (.bool true) ∧ Leaves w w' := by
  intro cs
  let ts : Nat → TypeId := fun k => match w.heap[k]? with
    | some (.cells _ t _) => t
    | _ => 0
  have hlt : ∀ k vs, gOf l k = some vs → k < N ∧ vs.length < 1000000 := fun k vs hk => by
    have := List.all_eq_true.1 hl _ (gOf_mem hk)
    simp only [Bool.and_eq_true, Nat.blt_eq] at this
    exact this
  have hrel : Rel (gInj l) (gMem ts l N) w := g_rel (fun k vs hk => (hlt k vs hk).1) fun k vs hk => by
    obtain ⟨ws, t, e, h1, h2⟩ := hw k vs hk
    have : ts k = t := by show (match w.heap[k]? with | some (.cells _ t _) => t | _ => 0) = t; rw [e]
    exact ⟨ws, by rw [this]; exact e, h1, h2⟩
  have hhere : Here l ts (gInj l) (gMem ts l N) := fun b vs hb => ⟨(hlt b vs hb).1, by rw [show (gMem ts l N).get b = _ from gHeap_get ts b l, hb]; rfl, by unfold gInj; rw [hb]; rfl, by have := (hlt b vs hb).2; omega⟩
  have hout : ∀ b, N ≤ b → gInj l b = none := fun b hb => by
    unfold gInj
    cases hq : gOf l b with
    | none => rfl
    | some vs => have := (hlt b vs hq).1; omega
  obtain ⟨s1, ⟨-, hrun⟩, hd, hres⟩ := h ts
  have hf' := ok.fn _ _ hf
  have hs0 : SR (gInj l) { t := T.puts .e 0 [], n := fn.ntmps, d := [], m := gMem ts l N, ro := none } (Frame.enter tb.P f #[] .normal) ⟨#[] ++ Array.replicate (fn.ntmps - (#[] : Array Value).size) undef, []⟩ w :=
    ⟨hrel, TR.args .nil (Nat.zero_le _), rfl, rfl⟩
  obtain ⟨ι1, w1, a1, k1, st1, ha1, hs1, hh1, hss1, n1, r1⟩ := hrun (gInj l) _ _ [] cs w hs0 hhere (fun b h1 _ => hout b h1)
  rw [← Frame.enter_atR hf' hb] at st1
  obtain ⟨k2, rfl⟩ := ha1
  obtain ⟨todo, st2⟩ : ∃ todo, Steps tb.P (lone ((Frame.enter tb.P f #[] .normal).atR a1 (.code .ret :: k2)) cs w1) (lone { (Frame.enter tb.P f #[] .normal).atR ⟨a1.tmps, a1.defers⟩ todo with mode := .returning } cs w1) := ⟨_, .one (stepR_ret rfl)⟩
  obtain ⟨w2, st3, hrel2, hst2⟩ := take_steps tb.P (b := Frame.enter tb.P f #[] .normal) (t := a1.tmps) (todo := todo) (cs := cs) (bs := s1.d) (A := s1.m) (A' := s1.m) (by rw [hd]; rfl) hs1.dr hs1.rel
  obtain ⟨v', e1, hv⟩ := results_sound ok hrel2 hs1.tr hres
  cases hv
  obtain ⟨g2, hh2⟩ := GStp.of hst2 hh1
  have hg := hss1.trans g2
  refine ⟨.returned (.bool true), w2, _, ⟨rfl, fun c hc => ?_, hg.size, hg.os, hg.tape, hg.output⟩, (st1.trans st2).trans st3, rfl, rfl, rfl, rfl, fn, hf', e1⟩
  by_cases hx : ∃ b q, live (gMem ts l N) b ∧ gInj l b = some q ∧ q.blk = c
  · obtain ⟨b, q, h1, h2, rfl⟩ := hx
    obtain ⟨vs, hb', rfl⟩ := gInj_some h2
    exact hg.kept b vs hb'
  · exact hg.fr c hc fun b q h1 h2 h3 => hx ⟨b, q, h1, h2, h3⟩

/-! ### What is kept at a cut -/
inductive SOb where
  | row (t : TypeId) (x : Kd) (fz : Nat) (vs : List Value)
  | at (t : TypeId) (x : Kd) (fz : Nat) (vs : List (Nat × Value))
  | map (es : List MapEntry) (clock : Nat)
noncomputable def tOf {α : Type} (l : List (Nat × α)) (base : T α) : T α := l.foldr (fun p t => t.set p.1 p.2) base
theorem tOf_get {α : Type} {base : T α} {k : Nat} {v : α} : ∀ {l : List (Nat × α)}, (tOf l base).get k = some v → (k, v) ∈ l ∨ base.get k = some v
  | [], h => .inr h
  | p :: l, h => by
    have h' : ((tOf l base).set p.1 p.2).get k = some v := h
    rw [T.get_set] at h'
    split at h'
    · rename_i e
      cases h'
      subst e
      exact .inl (List.mem_cons_self ..)
    · rcases tOf_get h' with h1 | h1
      · exact .inl (List.mem_cons_of_mem _ h1)
      · exact .inr h1
theorem tOf_base {α : Type} {base : T α} {k : Nat} : ∀ {l : List (Nat × α)}, (∀ p ∈ l, p.1 ≠ k) → (tOf l base).get k = base.get k
  | [], _ => rfl
  | p :: l, h => by
    show ((tOf l base).set p.1 p.2).get k = _
    rw [T.get_set, if_neg (fun e => h p (List.mem_cons_self ..) e.symm)]
    exact tOf_base fun q hq => h q (List.mem_cons_of_mem _ hq)
noncomputable def SOb.ob : SOb → Ob
  | .row t x fz vs => .cells t x fz (T.puts .e 0 vs)
  | .at t x fz vs => .cells t x fz (tOf vs .e)
  | .map es clock => .map es clock
structure Snap where
  t : List (Nat × Value)
  m : List (Nat × SOb)
  next : Nat
noncomputable def Snap.st (S : Snap) (n : Nat) (G : Glb) (ts : Nat → TypeId) : St := ⟨tOf S.t .e, n, [], ⟨tOf (S.m.map fun p => (p.1, p.2.ob)) (gHeap ts G), S.next⟩, none⟩
def kdEq : Kd → Kd → Bool
  | .var a, .var b => Nat.beq a b
  | .row, .row => true
  | .mark, .mark => true
  | .room a, .room b => Nat.beq a b
  | _, _ => false
theorem kdEq_eq {a b : Kd} (h : kdEq a b = true) : a = b := by
  cases a <;> cases b <;> simp only [kdEq, Bool.false_eq_true] at h <;> first | rfl | rw [Nat.eq_of_beq_eq_true h]
def okV (x : Option Value) (v : Value) : Bool :=
  match x with
  | some y => sameV 100 y v
  | none => false
theorem okV_eq {x : Option Value} {v : Value} (h : okV x v = true) : x = some v := by
  cases x with
  | none => cases h
  | some y => rw [sameV_eq 100 y v h]
noncomputable def okRow (c : T Value) (i : Nat) (vs : List Value) : Bool := List.rec (motive := fun _ => Nat → Bool) (fun _ => true) (fun v _ ih i => okV (c.get i) v && ih (Nat.succ i)) vs i
theorem okRow_get {c : T Value} : ∀ {vs : List Value} {i : Nat}, okRow c i vs = true → ∀ j v, vs[j]? = some v → c.get (i + j) = some v
  | [], _, _, _, _, h => by simp at h
  | x :: vs, i, h, j, v, hj => by
    have h : (okV (c.get i) x && okRow c (Nat.succ i) vs) = true := h
    rw [Bool.and_eq_true] at h
    cases j with
    | zero => simp only [List.getElem?_cons_zero, Option.some.injEq] at hj; subst hj; exact okV_eq h.1
    | succ j =>
      have := okRow_get h.2 j v (by simpa using hj)
      rw [show i + (j + 1) = Nat.succ i + j by omega]; exact this
def okEs : List MapEntry → List MapEntry → Bool
  | [], [] => true
  | a :: l, b :: m => sameV 100 a.key b.key && sameV 100 a.val b.val && Nat.beq a.born b.born && okEs l m
  | _, _ => false
theorem okEs_eq : ∀ {l m : List MapEntry}, okEs l m = true → l = m
  | [], [], _ => rfl
  | a :: l, b :: m, h => by
    unfold okEs at h
    simp only [Bool.and_eq_true] at h
    obtain ⟨⟨⟨h1, h2⟩, h3⟩, h4⟩ := h
    rw [okEs_eq h4]
    obtain ⟨ak, av, as⟩ := a
    obtain ⟨bk, bv, bs⟩ := b
    simp only at h1 h2 h3
    rw [sameV_eq 100 _ _ h1, sameV_eq 100 _ _ h2, Nat.eq_of_beq_eq_true h3]
  | [], _ :: _, h => by cases h
  | _ :: _, [], h => by cases h
noncomputable def okOb (o : Option Ob) (s : SOb) : Bool :=
  match o, s with
  | some (.cells t x fz c), .row t' x' fz' vs => Nat.beq t t' && kdEq x x' && Nat.beq fz fz' && okRow c 0 vs
  | some (.cells t x fz c), .at t' x' fz' vs => Nat.beq t t' && kdEq x x' && Nat.beq fz fz' && vs.all fun p => okV (c.get p.1) p.2
  | some (.map es cl), .map es' cl' => okEs es es' && Nat.beq cl cl'
  | _, _ => false
theorem okOb_sub {o : Option Ob} {s : SOb} (h : okOb o s = true) : ∃ o1, o = some o1 ∧ SubOb s.ob o1 := by
  unfold okOb at h
  split at h
  · simp only [Bool.and_eq_true] at h
    obtain ⟨⟨⟨h1, h2⟩, h3⟩, h4⟩ := h
    rw [Nat.eq_of_beq_eq_true h1, kdEq_eq h2, Nat.eq_of_beq_eq_true h3]
    refine ⟨_, rfl, _, rfl, fun i v hv => ?_⟩
    rw [T.get_puts] at hv
    split at hv
    · have := okRow_get h4 (i - 0) v hv
      simpa using this
    · rw [T.get_e] at hv; cases hv
  · simp only [Bool.and_eq_true] at h
    obtain ⟨⟨⟨h1, h2⟩, h3⟩, h4⟩ := h
    rw [Nat.eq_of_beq_eq_true h1, kdEq_eq h2, Nat.eq_of_beq_eq_true h3]
    refine ⟨_, rfl, _, rfl, fun i v hv => ?_⟩
    rcases tOf_get hv with h5 | h5
    · exact okV_eq (List.all_eq_true.1 h4 _ h5)
    · rw [T.get_e] at h5; cases h5
  · simp only [Bool.and_eq_true] at h
    rw [okEs_eq h.1, Nat.eq_of_beq_eq_true h.2]
    exact ⟨_, rfl, rfl⟩
  · cases h
def exOf : Nat → Ex
  | 0 => .nrm
  | n + 1 => .exit n
def okEx (e : Ex) (x : Nat) : Bool :=
  match e, x with
  | .nrm, 0 => true
  | .exit i, n + 1 => Nat.beq i n
  | _, _ => false
theorem okEx_eq {e : Ex} {x : Nat} (h : okEx e x = true) : e = exOf x := by
  unfold okEx at h
  split at h
  · rfl
  · rw [Nat.eq_of_beq_eq_true h]; rfl
  · cases h
/-- The check. -/
noncomputable def chk (G : Glb) (N x : Nat) (r : R (Ex × St)) (S : Snap) : Bool :=
  match r with
  | .ok (e, s) => Nat.beq s.n N && okEx e x && Nat.beq s.m.next S.next && s.d.isEmpty && s.ro.isNone && G.all (fun p => Nat.blt p.1 S.next) && S.t.all (fun p => okV (s.t.get p.1) p.2) &&
      S.m.all (fun p => Nat.blt p.1 S.next && (gOf G p.1).isNone && okOb (s.m.get p.1) p.2)
  | _ => false
theorem chk_sub {G : Glb} {N x : Nat} {r : R (Ex × St)} {S : Snap} (h : chk G N x r S = true) (ts : Nat → TypeId) : ∃ s, r = .ok (exOf x, s) ∧ SubSt G ts (S.st N G ts) s := by
  unfold chk at h
  split at h
  · rename_i e s
    simp only [Bool.and_eq_true] at h
    obtain ⟨⟨⟨⟨⟨⟨⟨h0, h1⟩, h2⟩, h3⟩, h4⟩, h5⟩, h6⟩, h7⟩ := h
    have hall := fun p hp => List.all_eq_true.1 h7 p hp
    simp only [Bool.and_eq_true, Nat.blt_eq] at hall
    refine ⟨s, by rw [okEx_eq h1], (Nat.eq_of_beq_eq_true h0).symm, (List.isEmpty_iff.1 h3).symm, ?_, (Nat.eq_of_beq_eq_true h2).symm, fun i v hv => ?_, fun b o hb hG => ?_, fun b vs hb => ?_, fun b hb => ?_⟩
    · cases hr : s.ro with
      | none => rfl
      | some _ => rw [hr] at h4; cases h4
    · rcases tOf_get hv with hv | hv
      · exact okV_eq (List.all_eq_true.1 h6 _ hv)
      · rw [T.get_e] at hv; cases hv
    · rcases tOf_get (show (tOf (S.m.map fun p => (p.1, p.2.ob)) (gHeap ts G)).get b = some o from hb) with hm | hm
      · obtain ⟨p, hp, he⟩ := List.mem_map.1 hm
        cases he
        obtain ⟨o1, e1, e2⟩ := okOb_sub (hall p hp).2
        exact ⟨o1, e1, e2⟩
      · rw [gHeap_get, hG] at hm; cases hm
    · show (tOf (S.m.map fun p => (p.1, p.2.ob)) (gHeap ts G)).get b = _
      rw [tOf_base fun p hp e => ?_, gHeap_get, hb]
      · rfl
      · obtain ⟨q, hq, rfl⟩ := List.mem_map.1 hp
        have := (hall q hq).1.2
        rw [show q.1 = b from e, hb] at this
        cases this
    · cases hq : (S.st N G ts).m.get b with
      | none => rfl
      | some o =>
        exfalso
        have hb' : S.next ≤ b := hb
        rcases tOf_get (show (tOf (S.m.map fun p => (p.1, p.2.ob)) (gHeap ts G)).get b = some o from hq) with hm | hm
        · obtain ⟨p, hp, he⟩ := List.mem_map.1 hm
          cases he
          have := (hall p hp).1.1
          omega
        · rw [gHeap_get] at hm
          cases hbG : gOf G b with
          | none => rw [hbG] at hm; cases hm
          | some vs =>
            have := List.all_eq_true.1 h5 _ (gOf_mem hbG)
            rw [Nat.blt_eq] at this
            omega
  · cases h
/-! ### Pieces -/
def seqN : List Code → Code → Code
  | [], c => c
  | a :: l, c => .seq a (seqN l c)
include ok in
/-- A row of statements runs; behind it something is forgotten; then the rest runs. -/
theorem glue {G : Glb} {ts : Nat → TypeId} {x : Code} {S s' : St} {e : Ex} (hr : RunSnd tb.P G ts x S e s') : ∀ (l : List Code) (c : Code) {n : Nat} {s s3 : St}, exec tb n (seqN l c) s = .ok (.nrm, s3) → SubSt G ts S s3 → RunSnd tb.P G ts (seqN l (.seq c x)) s e s'
  | [], c, n, s, s3, h, hs => ((RunSnd.exec ok h (fun _ h => by cases h)).cut hs).seq hr
  | a :: l, c, 0, s, s3, h, hs => by cases h
  | a :: l, c, n + 1, s, s3, h, hs => by
    have h' : ((exec tb n a s).bind fun (e, s') => match e with
      | .nrm => exec tb n (seqN l c) s'
      | e => .ok (e, s')) = .ok (.nrm, s3) := h
    obtain ⟨⟨e1, s1⟩, h1, h2⟩ := R.bind_ok h'
    cases e1 with
    | nrm => exact (RunSnd.exec ok h1 (fun _ h => by cases h)).seq (glue hr l c h2 hs)
    | exit i => simp only [R.ok.injEq, Prod.mk.injEq] at h2; exact absurd h2.1 (by simp)
    | ret => simp only [R.ok.injEq, Prod.mk.injEq] at h2; exact absurd h2.1 (by simp)
    | pan v => simp only [R.ok.injEq, Prod.mk.injEq] at h2; exact absurd h2.1 (by simp)
include ok in
theorem piece {G : Glb} {ts : Nat → TypeId} {x : Code} {n N : Nat} {s s' : St} {S : Snap} {e : Ex} (l : List Code) (c : Code) (h : chk G N 0 (execX tb n (seqN l c) s) S = true) (hr : RunSnd tb.P G ts x (S.st N G ts) e s') : RunSnd tb.P G ts (seqN l (.seq c x)) s e s' := by
  obtain ⟨s1, h1, h2⟩ := chk_sub h ts
  rw [execX_eq] at h1
  exact glue ok hr l c h1 h2
include ok in
/-- Some rounds of a loop run; behind them something is forgotten; then the loop goes on. -/
theorem rounds {G : Glb} {ts : Nat → TypeId} {c : Code} {S s' : St} {e : Ex} (hr : RunSnd tb.P G ts (.loop c) S e s') : ∀ (k : Nat) {n : Nat} {s s3 : St}, exec tb n (seqN (List.replicate k c) c) s = .ok (.nrm, s3) → SubSt G ts S s3 → RunSnd tb.P G ts (.loop c) s e s'
  | 0, n, s, s3, h, hs => ((RunSnd.exec ok h (fun _ h => by cases h)).cut hs).loopN hr
  | k + 1, 0, s, s3, h, hs => by cases h
  | k + 1, n + 1, s, s3, h, hs => by
    have h' : ((exec tb n c s).bind fun (e, s') => match e with
      | .nrm => exec tb n (seqN (List.replicate k c) c) s'
      | e => .ok (e, s')) = .ok (.nrm, s3) := h
    obtain ⟨⟨e1, s1⟩, h1, h2⟩ := R.bind_ok h'
    cases e1 with
    | nrm => exact (RunSnd.exec ok h1 (fun _ h => by cases h)).loopN (rounds hr k h2 hs)
    | exit i => simp only [R.ok.injEq, Prod.mk.injEq] at h2; exact absurd h2.1 (by simp)
    | ret => simp only [R.ok.injEq, Prod.mk.injEq] at h2; exact absurd h2.1 (by simp)
    | pan v => simp only [R.ok.injEq, Prod.mk.injEq] at h2; exact absurd h2.1 (by simp)
include ok in
theorem pieceL {G : Glb} {ts : Nat → TypeId} {c : Code} {n N : Nat} {s s' : St} {S : Snap} {e : Ex} (k : Nat) (h : chk G N 0 (execX tb n (seqN (List.replicate k c) c) s) S = true) (hr : RunSnd tb.P G ts (.loop c) (S.st N G ts) e s') : RunSnd tb.P G ts (.loop c) s e s' := by
  obtain ⟨s1, h1, h2⟩ := chk_sub h ts
  rw [execX_eq] at h1
  exact rounds ok hr k h1 h2
include ok in
/-- A piece by itself, however it ends. -/
theorem pieceX {G : Glb} {ts : Nat → TypeId} {c : Code} {n N x : Nat} {s : St} {S : Snap} (h : chk G N x (execX tb n c s) S = true) : RunSnd tb.P G ts c s (exOf x) (S.st N G ts) := by
  obtain ⟨s1, h1, h2⟩ := chk_sub h ts
  rw [execX_eq] at h1
  refine (RunSnd.exec ok h1 (fun _ h => ?_)).cut h2
  cases x <;> cases h
/-- The last piece: it answers true. -/
noncomputable def endOk (tb : Tab) (rs : List ResultVar) (r : R (Ex × St)) : Bool :=
  match r with
  | .ok (.ret, s) => s.d.isEmpty && (match resF tb s.t s.m.get rs with | .ok [.bool b] => b | _ => false)
  | _ => false
include ok in
theorem pieceE {G : Glb} {ts : Nat → TypeId} {c : Code} {n : Nat} {s : St} {rs : List ResultVar} (h : endOk tb rs (execX tb n c s) = true) : ∃ s1, RunSnd tb.P G ts c s .ret s1 ∧ s1.d = [] ∧ resF tb s1.t s1.m.get rs = .ok [.bool true] := by
  unfold endOk at h
  split at h
  · rename_i s1 hr
    rw [execX_eq] at hr
    rw [Bool.and_eq_true] at h
    refine ⟨s1, RunSnd.exec ok hr (fun _ h => by cases h), List.isEmpty_iff.1 h.1, ?_⟩
    have h2 := h.2
    split at h2
    · rename_i b hb
      rw [hb, h2]
    · cases h2
  · cases h
end Go.Am

/-
  The abstract machine AM, part 66: functions of plain values that were run once are looked up.
-/
namespace Go.Am
abbrev Memo := List (List Value × Value)
def sameL (a b : List Value) : Bool := Nat.beq a.length b.length && (a.zip b).all fun p => sameV 100 p.1 p.2
theorem sameL_eq : ∀ {a b : List Value}, sameL a b = true → a = b
  | [], [], _ => rfl
  | [], _ :: _, h => by cases h
  | _ :: _, [], h => by cases h
  | x :: a, y :: b, h => by
    unfold sameL at h
    rw [Bool.and_eq_true] at h
    obtain ⟨h1, h2⟩ := h
    rw [List.zip_cons_cons, List.all_cons, Bool.and_eq_true] at h2
    have h3 : a.length = b.length := by have := Nat.eq_of_beq_eq_true h1; simpa using this
    have h4 : sameL a b = true := by unfold sameL; rw [Bool.and_eq_true]; exact ⟨by rw [Nat.beq_eq]; exact h3, h2.2⟩
    rw [sameV_eq 100 x y h2.1, sameL_eq h4]
/-- What was found at these arguments. -/
def memoK : Memo → List Value → Option Value
  | [], _ => none
  | p :: l, args => bif sameL p.1 args then some p.2 else memoK l args
theorem memoK_mem : ∀ {l : Memo} {args : List Value} {v : Value}, memoK l args = some v → (args, v) ∈ l
  | [], _, _, h => by cases h
  | p :: l, args, v, h => by
    have h' : (bif sameL p.1 args then some p.2 else memoK l args) = some v := h
    cases hs : sameL p.1 args with
    | true =>
      rw [hs, cond_true] at h'
      cases h'
      rw [← sameL_eq hs]
      exact List.mem_cons_self ..
    | false =>
      rw [hs, cond_false] at h'
      exact List.mem_cons_of_mem _ (memoK_mem h')
def isVal (r : R Res) (v : Value) : Bool :=
  match r with
  | .ok (.val u _) => sameV 100 u v
  | _ => false
noncomputable def memoB (tb : Tab) (n : Nat) (f : FuncId) (l : Memo) : Bool := l.all fun p => p.1.all (flat 9) && flat 9 p.2 && isVal (callX tb n f p.1 mem0) p.2
theorem memo_ok {tb : Tab} (ok : TabOk tb) {f : FuncId} {fn : Func} {c : Code} {l : Memo} {n : Nat} (hf : tb.fn.get f = some fn) (hb : fn.body = some c) (h : memoB tb n f l = true) : TabOk (tb.know f (pureHook (memoK l))) := by
  refine know_ok ok (hook_pure ok hf hb fun args v hv => ?_)
  have h1 := List.all_eq_true.1 h _ (memoK_mem hv)
  simp only [Bool.and_eq_true] at h1
  obtain ⟨⟨h2, h3⟩, h4⟩ := h1
  refine ⟨fun x hx => List.all_eq_true.1 h2 x hx, h3, n, ?_⟩
  rw [callX_eq] at h4
  unfold isVal at h4
  split at h4
  · rename_i u A e
    rw [← sameV_eq _ _ _ h4]
    exact ⟨A, e⟩
  · cases h4
end Go.Am
