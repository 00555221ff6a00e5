/-
  The abstract machine AM: a machine for programs of the model that draws nothing and moves no block; and the proof that what it answers the model answers.
  Part H: no conditions.
-/
import Derived.Test.YtnelkapmmgggdaaGreatAmG
import Derived.Shelf.GgSortFunc.InsertionK

/-
 The abstract machine AM, part 61: slices.SortFunc, known by its contract; a function of plain values, as the sort asks for it.
-/
namespace Go.Am
open Go.Sort

theorem hook_of_calls {P : Program} {f : FuncId} {h : List Value → Mem → R (Value × Mem)}
  (hc : ∀ args A v A', h args A = .ok (v, A') → A.next ≤ A'.next ∧ ∀ (ι : Inj) (w : World) (args' : Array Value), Rel ι A w → VRs ι args args'.toList → Free ι A A' → Calls P f args' w fun e w' => ∃ ι' v', e = .returned v' ∧ VR ι' v v' ∧ Rel ι' A' w' ∧ Stp ι A w ι' A' w') : HookOk P f h := by
 intro args A v A' ha
 obtain ⟨h1, h2⟩ := hc args A v A' ha
 refine ⟨h1, fun ι w args' hr hargs hf fr cs => ?_⟩
 obtain ⟨e, w', fr0, ⟨ι', v', rfl, hv, hrel, hst⟩, st, -, hlv⟩ := h2 ι w args' hr hargs hf (fr :: cs)
 exact ⟨ι', w', v', Steps.trans st (.one (step_leave_returned hlv)), hv, hrel, hst⟩

variable {tb : Tab} (ok : TabOk tb)
include ok in
theorem call_grown {n : Nat} {f : FuncId} {args : List Value} {k : IntKind} {z : Int} {A' : Mem} (h : call tb n f args mem0 = .ok (.val (.int k z) A')) {fn : Func} {c : Code} (hf : tb.fn.get f = some fn) (hb : fn.body = some c) (args' : Array Value) (w : World)
  (ha : VRs (fun _ => none) args args'.toList) : Calls tb.P f args' w fun e w' => e = .returned (.int k z) ∧ ∃ q os', w' = grow (w.drewN q) os' := by
 intro cs
 unfold call at h
 simp only [hf, hb] at h
 rcases fn_sound ok (exec_sound ok n) hf hb h with ⟨_, _, h1, _⟩ | ⟨v, A', h1, hle, hs⟩
 ·cases h1
 ·cases h1
  obtain ⟨ι', w', v', ⟨fr0, st, hfn, hlv⟩, hv, hrel, hst⟩ := hs (fun _ => none) w args' cs (rel0 w) ha (fun _ _ _ => rfl)
  cases hv
  refine ⟨.returned (.int k z), w', fr0, ⟨rfl, w'.drawn - w.drawn, w'.heap.extract w.heap.size w'.heap.size, ?_⟩, st, hfn, hlv⟩
  have hfr : ∀ c, c < w.heap.size → w'.heap[c]? = w.heap[c]? := fun c hc => hst.fr c hc (fun b l hl _ => absurd hl (not_live0 b))
  have e1 := hst.os
  have e2 := hst.tape
  have e3 := hst.output
  have e4 := hst.drawn
  have e5 := hst.size
  clear st hfn hlv hrel hst hs
  obtain ⟨heap', tape', drawn', os', output'⟩ := w'
  simp only at e1 e2 e3 e4 e5 hfr
  subst e1 e2 e3
  have eh : heap' = w.heap ++ heap'.extract w.heap.size heap'.size := by
   apply Array.ext_getElem?
   intro k
   by_cases hk : k < w.heap.size
   ·rw [Array.getElem?_append_left hk]; exact hfr k hk
   ·rw [Array.getElem?_append_right (by omega), Array.getElem?_extract]
    by_cases hk2 : k < heap'.size
    ·rw [if_pos (by omega)]; congr 1; omega
    ·rw [if_neg (by omega), Array.getElem?_eq_none (by omega)]
  unfold grow World.drewN
  simp only
  congr 1
  omega

variable {α : Type} [Inhabited α] (enc : α → List Value) (K : Nat)
def RowOf (cs : T Value) (d : List α) : Prop := ∀ (i : Nat) (x : α) (j : Nat), d[i]? = some x → j < K → cs.get (i * K + j) = (enc x)[j]?
open Classical in
noncomputable def sortFHook (g : FuncId) (srt : List α → List α) : List Value → Mem → R (Value × Mem) := fun args A =>
 match args with
 | [.slice (some ⟨b, 0, none⟩) n _, .func (.func g') ⟨[]⟩ ⟨[]⟩] =>
  match A.get b with
  | some (.cells t .row 0 cs) => if h : g' = g ∧ n < 4611686018427387904 ∧ ∃ d : List α, d.length = n ∧ RowOf enc K cs d then .ok (.tuple ⟨[]⟩, A.set b (.cells t .row 0 (T.puts cs 0 ((srt (Classical.choose h.2.2)).map enc).flatten))) else .no 700
  | _ => .no 701
 | [.slice none 0 0, .func (.func g') ⟨[]⟩ ⟨[]⟩] => if g' = g then .ok (.tuple ⟨[]⟩, A) else .no 702
 | _ => .no 703
theorem flat_cells {enc : α → List Value} {K : Nat} (hk : ∀ x, (enc x).length = K) {d : List α} {i : Nat} (hi : i < d.length * K) (hK : 0 < K) : ∃ v, ((d.map enc).flatten)[i]? = some v ∧ (flatK enc K d.toArray)[i]! = v ∧ ∃ x ∈ d, v ∈ enc x := by
 have hq : i / K < d.length := by rw [Nat.div_lt_iff_lt_mul hK]; exact hi
 have hr : i % K < K := Nat.mod_lt _ hK
 have e : i / K * K + i % K = i := Nat.div_add_mod' i K
 have hx : d[i / K]? = some d[i / K] := List.getElem?_eq_getElem hq
 have hlen : ∀ l ∈ d.map enc, l.length = K := fun l hl => by obtain ⟨x, -, rfl⟩ := List.mem_map.1 hl; exact hk x
 have g := flat_get hlen (l := enc d[i / K]) (i := i / K) (j := i % K) (by rw [List.getElem?_map, hx]; rfl) hr
 rw [e] at g
 have hv : (enc d[i / K])[i % K]? = some ((enc d[i / K])[i % K]'(by rw [hk]; exact hr)) := List.getElem?_eq_getElem _
 refine ⟨_, g.trans hv, ?_, d[i / K], List.getElem_mem _, List.getElem_mem _⟩
 rw [get_flatK enc K _ i (by simpa using hi)]
 have h1 : d.toArray[i / K]! = d[i / K] := by
  rw [getElem!_pos d.toArray (i / K) (by simpa using hq)]
  rfl
 rw [h1, getElem!_pos (enc d[i / K]) (i % K) (by rw [hk]; exact hr)]
theorem sort_Wu {w : World} {blk off m : Nat} {dk : Array α} {cs : Array Value} {t : TypeId} {fr : Nat × Nat} (h : w.heap[blk]? = some (.cells cs t fr)) :
  Wu w (putRowK enc K (Go.Sort.ahead w m) blk off dk) blk (.cells (putCells id off (flatK enc K dk) cs) t fr) ∧ (putRowK enc K (Go.Sort.ahead w m) blk off dk).heap.size = w.heap.size := by
 have hlt := (Array.getElem?_eq_some_iff.1 h).1
 unfold putRowK putRow mapBlock
 refine ⟨⟨by simp, ?_, fun k hk hne => ?_, rfl, rfl, rfl, by show w.drawn ≤ w.drawn + m; omega⟩, by simp⟩
 ·simp only [Go.Sort.heap_ahead]
  rw [Array.getElem?_modify, if_pos rfl, h]
  rfl
 ·simp only [Go.Sort.heap_ahead]
  rw [Array.getElem?_modify, if_neg (Ne.symm hne)]
theorem plain_uniq {ι : Inj} {v v' : Value} (hp : plainV v = true) (h : VR ι v v') : v' = v := by
 cases h <;> first | rfl | simp [plainV] at hp
theorem grow_leaves (w : World) (os : Array Obj) : Leaves w (grow w os) ∧ w.drawn ≤ (grow w os).drawn :=
 ⟨⟨fun c hc => by unfold grow; exact Array.getElem?_append_left hc, by simp, rfl, rfl, rfl⟩, Nat.le_refl _⟩
theorem sortF_ok {P : Program} {f g : FuncId} {srt : List α → List α} (hk : ∀ x, (enc x).length = K) (hK : 0 < K) (hp : ∀ x, ∀ v ∈ enc x, plainV v = true) (hlen : ∀ d, (srt d).length = d.length)
  (hS : ∀ (blk off cap : Nat) (d : Array α) (w : World), HoldsK enc K w blk off d → blk < w.heap.size → d.size < 4611686018427387904 → Calls P f #[.slice (some ⟨blk, off, none⟩) d.size cap, .func (.func g) #[] #[]] w fun e w' => e = .returned (.tuple #[]) ∧ ∃ n os, w' = Go.Proofs.sortWorldK enc K w blk off n (srt d.toList).toArray os)
  (hN : ∀ w, Calls P f #[.slice none 0 0, .func (.func g) #[] #[]] w fun e w' => e = .returned (.tuple #[]) ∧ w' = w) : HookOk P f (sortFHook enc K g srt) := by
 refine hook_of_calls fun args A v A' h => ?_
 unfold sortFHook at h
 split at h
 ·rename_i b n c g'
  split at h
  ·rename_i t cs hg
   split at h
   ·rename_i hh
    have hd := Classical.choose_spec hh.2.2
    generalize Classical.choose hh.2.2 = d at h hd
    obtain ⟨rfl, hn, -⟩ := hh
    obtain ⟨hdl, hrow⟩ := hd
    simp only [R.ok.injEq, Prod.mk.injEq] at h
    obtain ⟨rfl, rfl⟩ := h
    refine ⟨Nat.le_refl _, fun ι w args' hr hargs hf => ?_⟩
    obtain ⟨l⟩ := args'
    cases hargs with
    | cons hv1 ht =>
     cases ht with
     | cons hv2 ht =>
      cases ht
      cases hv2 with
      | func hf' ha hb =>
       rename_i a' b'
       obtain ⟨a'⟩ := a'
       obtain ⟨b'⟩ := b'
       cases ha
       cases hb
       have key : ∀ (lc : Loc) (o' cap' : Nat), ι b = some lc → (0 < n → o' = lc.sh) → Calls P f ⟨[.slice (some ⟨lc.blk, o', none⟩) n cap', .func (.func g') ⟨[]⟩ ⟨[]⟩]⟩ w fun e w' => ∃ ι' v', e = .returned v' ∧ VR ι' (.tuple ⟨[]⟩) v' ∧ Rel ι' (A.set b (.cells t .row 0 (T.puts cs 0 ((srt d).map enc).flatten))) w' ∧ Stp ι A w ι' (A.set b (.cells t .row 0 (T.puts cs 0 ((srt d).map enc).flatten))) w' := by
        intro lc o' cap' hl ho
        obtain ⟨ob', hw, mcs, fr, rfl, hsz, hcells, hfr⟩ := hr.obs b _ lc hg rfl hl
        have hfr' : fr.2 ≤ lc.sh := hfr
        have hold : HoldsK enc K w lc.blk o' d.toArray := by
         intro j hj
         rw [size_flatK] at hj
         have hj' : j < d.length * K := by simpa using hj
         have hn0 : 0 < n := by
          rcases Nat.eq_zero_or_pos n with h0 | h0
          ·rw [hdl, h0, Nat.zero_mul] at hj'; omega
          ·exact h0
         have ho' := ho hn0
         subst ho'
         obtain ⟨v, e1, e2, x, hx, hvx⟩ := flat_cells hk hj' hK
         have hq : j / K < d.length := by rw [Nat.div_lt_iff_lt_mul hK]; exact hj'
         have e : j / K * K + j % K = j := Nat.div_add_mod' j K
         have hc := hrow (j / K) d[j / K] (j % K) (List.getElem?_eq_getElem hq) (Nat.mod_lt _ hK)
         have hlen' : ∀ l ∈ d.map enc, l.length = K := fun l hl => by obtain ⟨x, -, rfl⟩ := List.mem_map.1 hl; exact hk x
         have g2 := flat_get hlen' (l := enc d[j / K]) (i := j / K) (j := j % K) (by rw [List.getElem?_map, List.getElem?_eq_getElem hq]; rfl) (Nat.mod_lt _ hK)
         rw [e] at g2 hc
         rw [← g2, e1] at hc
         obtain ⟨v', h1, h2⟩ := hcells j v hc
         have hvv : v' = v := plain_uniq (hp x v hvx) h2
         subst hvv
         refine ⟨?_, ?_⟩
         ·unfold World.cell?
          simp only [hw, Option.isSome_none, Bool.false_eq_true, if_false]
          rw [Nat.add_comm, h1, id, e2]
         ·unfold World.frozen?
          simp only [hw]
          simp
          omega
        have hs0 := hS lc.blk o' cap' d.toArray w hold (hr.rng b lc hl) (by simpa [hdl] using hn)
        have hsz' : d.toArray.size = n := by simp [hdl]
        rw [hsz'] at hs0
        refine hs0.mono ?_
        rintro e w' ⟨rfl, q, os, rfl⟩
        obtain ⟨hwu, hwsz⟩ := sort_Wu enc K (off := o') (m := q) (dk := (srt d).toArray) hw
        obtain ⟨r1, s1⟩ := hr.turn (ob := .cells t .row 0 (T.puts cs 0 ((srt d).map enc).flatten)) hg rfl hl (not_still hg fun t2 fz2 c2 e => by cases e; exact .inl (by omega)) (fun t' k c' e => by
         exfalso
         have h2 : 0 = GB k := by injection e
         unfold GB at h2
         omega) hwu hwsz (by
         refine ⟨_, fr, rfl, by unfold putCells; rw [Array.size_mapIdx]; exact hsz, fun i v hi => ?_, hfr⟩
         have hfl : (((srt d).map enc).flatten).length = n * K := by
          rw [flat_len (n := K) (fun l hl => by obtain ⟨x, -, rfl⟩ := List.mem_map.1 hl; exact hk x), List.length_map, hlen, hdl]
         rw [T.get_puts, hfl, Nat.zero_add, Nat.sub_zero] at hi
         by_cases hin : i < n * K
         ·rw [if_pos ⟨Nat.zero_le _, hin⟩] at hi
          have hn0 : 0 < n := by
           rcases Nat.eq_zero_or_pos n with h0 | h0
           ·rw [h0, Nat.zero_mul] at hin; omega
           ·exact h0
          have ho' := ho hn0
          subst ho'
          obtain ⟨v1, e1, e2, x, hx, hvx⟩ := flat_cells hk (d := srt d) (i := i) (by rw [hlen, hdl]; exact hin) hK
          rw [e1] at hi
          cases hi
          have hold2 : ∃ u, mcs[i + lc.sh]? = some u := by
           have hj' : i < d.length * K := by rw [hdl]; exact hin
           obtain ⟨v2, e3, -⟩ := flat_cells hk hj' hK
           have hq : i / K < d.length := by rw [Nat.div_lt_iff_lt_mul hK]; exact hj'
           have e : i / K * K + i % K = i := Nat.div_add_mod' i K
           have hc := hrow (i / K) d[i / K] (i % K) (List.getElem?_eq_getElem hq) (Nat.mod_lt _ hK)
           have hlen' : ∀ l ∈ d.map enc, l.length = K := fun l hl => by obtain ⟨x, -, rfl⟩ := List.mem_map.1 hl; exact hk x
           have g2 := flat_get hlen' (l := enc d[i / K]) (i := i / K) (j := i % K) (by rw [List.getElem?_map, List.getElem?_eq_getElem hq]; rfl) (Nat.mod_lt _ hK)
           rw [e] at g2 hc
           rw [← g2, e3] at hc
           obtain ⟨v', h1, -⟩ := hcells i v2 hc
           exact ⟨v', h1⟩
          obtain ⟨u, hu⟩ := hold2
          have hlt := (Array.getElem?_eq_some_iff.1 hu).1
          refine ⟨v, ?_, plain_VR (hp x v hvx)⟩
          unfold putCells
          rw [Array.getElem?_mapIdx, hu, Option.map_some, if_pos ⟨by omega, by rw [size_flatK]; simp only [List.size_toArray, hlen, hdl]; omega⟩, Nat.add_sub_cancel, e2]
          rfl
         ·rw [if_neg (fun h => hin h.2)] at hi
          obtain ⟨v', h1, h2⟩ := hcells i v hi
          refine ⟨v', ?_, h2⟩
          unfold putCells
          rw [Array.getElem?_mapIdx, h1, Option.map_some, if_neg]
          rw [size_flatK]
          simp only [List.size_toArray, hlen, hdl]
          rintro ⟨h3, h4⟩
          rcases Nat.eq_zero_or_pos n with h0 | h0
          ·rw [h0, Nat.zero_mul] at h4; omega
          ·have := ho h0
           omega)
        obtain ⟨l1, l2⟩ := grow_leaves (putRowK enc K (Go.Sort.ahead w q) lc.blk o' (srt d).toArray) os
        obtain ⟨r2, s2⟩ := leaves_rel r1 l1 l2
        exact ⟨ι, .tuple #[], rfl, .tuple .nil, r2, s1.trans s2⟩
       cases hv1 with
       | sl h1 h2 => exact key _ _ _ h1 fun _ => by omega
       | slX h1 h2 h3 h4 h5 h6 h7 => exact key _ _ _ h1 fun h0 => by have := h5 (by omega); omega
   ·cases h
  ·cases h
 ·rename_i g'
  split at h
  ·rename_i hgg
   subst hgg
   simp only [R.ok.injEq, Prod.mk.injEq] at h
   obtain ⟨rfl, rfl⟩ := h
   refine ⟨Nat.le_refl _, fun ι w args' hr hargs hf => ?_⟩
   obtain ⟨l⟩ := args'
   cases hargs with
   | cons hv1 ht =>
    cases ht with
    | cons hv2 ht =>
     cases ht
     cases hv2 with
     | func hf' ha hb =>
      rename_i a' b'
      obtain ⟨a'⟩ := a'
      obtain ⟨b'⟩ := b'
      cases ha
      cases hb
      cases hv1
      refine (hN w).mono ?_
      rintro e w' ⟨rfl, rfl⟩
      exact ⟨ι, .tuple #[], rfl, .tuple .nil, hr, Stp.refl _ _ _⟩
  ·cases h
 ·cases h
end Go.Am
