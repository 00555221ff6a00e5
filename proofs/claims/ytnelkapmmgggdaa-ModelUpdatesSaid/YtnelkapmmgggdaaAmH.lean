/-
  The abstract machine AM: a machine for programs of the model that draws nothing and moves no block; and the proof that what it answers the model answers.
  Part H: no conditions.
-/
import Derived.Test.YtnelkapmmgggdaaAmG

/-
  The abstract machine AM, part 64: the keys of a map that may be nil.
-/
namespace Go.Am
variable {tb : Tab} (ok : TabOk tb) {P : Program} {N : Nat}

theorem range_nil {w : World} {t : TypeId} {kt vt : TypeId} (ht : (underlying t).run P w = .ok (.map kt vt) w) :
    (Instr.range t (.map none)).run P w = .ok (.pointer (some ⟨w.heap.size, 0, none⟩)) { w with heap := w.heap.push (.mapIter none 0 #[] 0) } := by
  unfold Instr.range
  simp only [Sem.run_bind, ht, Result.andThen_ok, Sem.run_pure, run_newObj]
theorem next_nil {w : World} {it : Nat} {rt : TypeId} (hit : w.heap[it]? = some (.mapIter none 0 #[] 0)) :
    (Instr.next (.pointer (some ⟨it, 0, none⟩)) false rt).run P w = .ok (.tuple #[.bool false]) w := by
  unfold Instr.next
  simp only [Sem.run_bind, getObj_run hit (by simp), Result.andThen_ok]
  rfl

/-- A map, or none. -/
def MapV (A : Mem) (mv : Value) (es : List MapEntry) (clock : Nat) : Prop := (∃ m, mv = .map (some m) ∧ m < A.next ∧ A.get m = some (.map es clock)) ∨ (mv = .map none ∧ es = [])
theorem MapV.same {A B : Mem} {mv : Value} {es : List MapEntry} {clock : Nat} (h : MapV A mv es clock) (hn : A.next ≤ B.next) (hg : ∀ y, y < A.next → B.get y = A.get y) : MapV B mv es clock := by
  rcases h with ⟨m, h1, h2, h3⟩ | h
  · exact .inl ⟨m, h1, by omega, (hg m h2).trans h3⟩
  · exact .inr h

variable {D : KeysF} (hD : KeysOk tb D)
include ok hD in
theorem keys_nil {yv : Value} {bp : Nat} {A : Mem} (hbox : loadF tb A.get D.tM (.pointer (some ⟨bp, 0, none⟩)) = .ok (.map none)) (hN1 : (A.alloc .dead).next ≤ N) :
    RCall N tb.P (.fn D.f [yv, .pointer (some ⟨bp, 0, none⟩)]) A fun v A' => v = .tuple ⟨[]⟩ ∧ A' = A.alloc .dead := by
  refine RCall.fn hD.hf hD.hb hD.hng (by rw [hD.hn]; simp) ok fun ι b a k cs w hs ht => ?_
  have hn14 : D.fn.ntmps = 14 := hD.hn
  have hAN : A.next ≤ N := by rw [next_alloc] at hN1; omega
  let s0 : St := { t := T.puts .e 0 [yv, .pointer (some ⟨bp, 0, none⟩)], n := D.fn.ntmps, d := [], m := A, ro := none }
  have hs : SR ι s0 b a w := hs
  have t1 : s0.t.get 1 = some (.pointer (some ⟨bp, 0, none⟩)) := by
    show (T.puts .e 0 [yv, .pointer (some ⟨bp, 0, none⟩)]).get 1 = some (.pointer (some ⟨bp, 0, none⟩))
    rw [T.get_puts]; rfl
  let s1 : St := { s0 with t := s0.t.set 4 (.map none) }
  have hop : OpSnd tb.P #[D.oL, D.oR] 0 D.oL s0 s1 :=
    opR ok hD.hL.1 hD.hL.2.2 hD.hL.2.1 (by show 4 < D.fn.ntmps; omega) rfl rfl (by
      have e : rOp tb s0.t s0.m.get (.load D.tM (.tmp 1)) = (evG (s0.t.get 1)).bind fun x => loadF tb s0.m.get D.tM x := rfl
      rw [e, t1]
      exact hbox)
  obtain ⟨ι1, w1, a1, st1, hs1, hss1⟩ := hop.2 ι b a (.code (.block 0 (.loop D.body)) :: k) cs w [1] hs (ht.free hAN) (by unfold Region.wanted; rw [hD.hL.2.2]) rfl
  have ht1 : Top N ι1 A := ht.stp hss1.stp
  have hev : a1.eval (.tmp 4) = .map none := by
    obtain ⟨v', h1, h2⟩ := hs1.tr.2 4 (.map none) (by show (s0.t.set 4 _).get 4 = _; rw [T.get_set, if_pos rfl])
    cases h2
    simp only [Act.eval, Array.getD_eq_getD_getElem?, h1, Option.getD_some]
  have hrun := range_nil (P := tb.P) (und_run ok hD.hu w1)
  have hexR : (execOp a1.eval D.oR).run tb.P w1 = .ok (.value (.pointer (some ⟨w1.heap.size, 0, none⟩))) { w1 with heap := w1.heap.push (.mapIter none 0 #[] 0) } := by
    simp only [execOp, hD.hR.1, hev, Sem.run_bind, hrun, Result.andThen_ok, Sem.run_pure]
  have hnr : ∀ c, D.oR.op ≠ .defer c := fun c h => by rw [hD.hR.1] at h; cases h
  obtain ⟨ι2, h9, h10, h11⟩ := hs1.rel.come (ob := .dead) (o' := .mapIter none 0 #[] 0) (sz := 0) (w' := { w1 with heap := w1.heap.push (.mapIter none 0 #[] 0) }) (ht1 _ (Nat.le_refl _) (by show A.next < N; rw [next_alloc] at hN1; omega)) (fun _ _ _ h => by cases h) (Wu_push w1 _ w1.drawn) (by simp) (fun _ _ _ => trivial)
  have hle2 : InjLe ι1 ι2 := Top.le (A := A) ht1 hN1 h11
  have ht2 : Top N ι2 (A.alloc .dead) := Top.stp (A := A) ht1 h11
  let s2 : St := { s1 with m := A.alloc .dead, t := s1.t.set 5 (.pointer (some ⟨A.next, 0, none⟩)) }
  let w2 : World := { w1 with heap := w1.heap.push (.mapIter none 0 #[] 0) }
  have hs2 : SR ι2 s2 b (a1.put D.oR.dst (.pointer (some ⟨w1.heap.size, 0, none⟩))) w2 := by
    refine ⟨h10, ?_, hs1.ro.mono hle2, ?_⟩
    · rw [hD.hR.2.1]
      exact (hs1.tr.mono hle2).set (by show 5 < D.fn.ntmps; omega) (VR.ptr (o := 0) h9)
    · have := hs1.dr.mono hle2
      rw [hD.hR.2.1]; exact this
  have hev2 : (a1.put D.oR.dst (.pointer (some ⟨w1.heap.size, 0, none⟩))).eval (.tmp 5) = .pointer (some ⟨w1.heap.size, 0, none⟩) := by
    obtain ⟨v', h1, h2⟩ := hs2.tr.2 5 (.pointer (some ⟨A.next, 0, none⟩)) (by show (s1.t.set 5 _).get 5 = _; rw [T.get_set, if_pos rfl])
    cases h2 with
    | ptr hl =>
      rw [h9] at hl
      cases hl
      simp only [Act.eval, Array.getD_eq_getD_getElem?, h1, Option.getD_some]
  have hnn : ∀ c, D.oN.op ≠ .defer c := fun c h => by rw [hD.hN.1] at h; cases h
  have hrunN := next_nil (P := tb.P) (w := w2) (it := w1.heap.size) (rt := D.oN.type) (by show (w1.heap.push _)[w1.heap.size]? = _; simp)
  have hexN : (execOp (a1.put D.oR.dst (.pointer (some ⟨w1.heap.size, 0, none⟩))).eval D.oN).run tb.P w2 = .ok (.value (.tuple #[.bool false])) w2 := by
    simp only [execOp, hD.hN.1, hev2, Sem.run_bind, hrunN, Result.andThen_ok, Sem.run_pure]
  let s3 : St := { s2 with t := s2.t.set 6 (.tuple ⟨[.bool false]⟩) }
  let s4 : St := { s3 with t := s3.t.set 7 (.bool false) }
  have hs3 : SR ι2 s3 b ((a1.put D.oR.dst (.pointer (some ⟨w1.heap.size, 0, none⟩))).put D.oN.dst (.tuple #[.bool false])) w2 := by
    refine ⟨hs2.rel, ?_, hs2.ro, ?_⟩
    · rw [hD.hN.2.1]; exact hs2.tr.set (by show 6 < D.fn.ntmps; omega) (.tuple (.cons (.bool _) .nil))
    · have := hs2.dr
      rw [hD.hN.2.1]; exact this
  have hop2 : OpSnd tb.P #[D.oN, D.oX] 1 D.oX s3 s4 :=
    opP ok hD.hX.1 hD.hX.2.2 hD.hX.2.1 (by show 7 < D.fn.ntmps; omega) rfl rfl (by
      show (evG ((s2.t.set 6 _).get 6)).bind _ = _
      rw [T.get_set, if_pos rfl]
      rfl)
  obtain ⟨ι4, w4, a4, st4, hs4, hss4⟩ := hop2.2 ι2 b _ (.code (.seq (.cond (.tmp 7) .skip (.exit 0)) (.block 1 (.seq (.region D.i2 #[D.oE, D.oX2, D.oA] false) D.cT))) :: .inLoop D.body :: .inBlock 0 :: k) cs w2 [] hs3 (ht2.free hN1) (by unfold Region.wanted; rw [hD.hX.2.2]) rfl
  have hb7 : a4.eval (.tmp 7) = .bool false := by
    obtain ⟨v7, h1, h2⟩ := hs4.tr.2 7 (.bool false) (by show (s3.t.set 7 (.bool false)).get 7 = _; rw [T.get_set, if_pos rfl])
    simp only [Act.eval, Array.getD_eq_getD_getElem?, h1, Option.getD_some, h2.bool_inv]
  refine ⟨.nrm, s4, ι4, w4, a4, k, ⟨.inl rfl, A.alloc .dead, [], rfl, by rw [hD.hres]; rfl, rfl, rfl⟩, hN1, ?_, rfl, hs4, hss1.trans (SStp.trans (show SStp ι1 s1 w1 ι2 s3 w2 from ⟨h11, rfl, rfl⟩) hss4)⟩
  refine .head stepR_seq (.head stepR_region (st1.trans (.head (stepR_val rfl hD.hR.2.2 hnr hexR) (.head stepR_region_end (.head stepR_block (.head stepR_loop ?_))))))
  refine .head stepR_seq (.head stepR_region (.head (stepR_val rfl hD.hN.2.2 hnn hexN) (st4.trans (.head stepR_region_end (.head stepR_seq (.head (stepR_cond hb7) (.one (stepR_exit rfl))))))))

include ok hD in
/-- The function that calls a loop's round with each key of a map, in some order; of none, if there is no map. -/
theorem keys_callV {yv mv : Value} {bp clock : Nat} {A : Mem} {es : List MapEntry} (I : List MapEntry → Mem → Prop)
    (hbox : loadF tb A.get D.tM (.pointer (some ⟨bp, 0, none⟩)) = .ok mv) (hm : MapV A mv es clock)
    (hlt : ∀ e ∈ es, e.born < clock) (hnd : (es.map (·.born)).Nodup)
    (hI0 : I [] (A.alloc .dead))
    (hIm : ∀ done B, I done B → MapV B mv es clock) (hIN : ∀ done B, I done B → B.next ≤ N)
    (hstep : ∀ done e s, I done s.m → e ∈ es → done.length < es.length → KSt yv A.next s → s.t.get 3 = some e.key → ∃ n s', exec tb n D.cT s = .ok (.nrm, s') ∧ I (done ++ [e]) s'.m ∧ KSt yv A.next s') :
    RCall N tb.P (.fn D.f [yv, .pointer (some ⟨bp, 0, none⟩)]) A fun v A' => v = .tuple ⟨[]⟩ ∧ ∃ done, done.Perm es ∧ I done A' := by
  rcases hm with ⟨m, rfl, _, hm⟩ | ⟨rfl, rfl⟩
  · refine keys_call ok hD I hbox hm hlt hnd hI0 (fun done B h => ?_) hIN hstep
    rcases hIm done B h with ⟨m', e, _, h'⟩ | ⟨e, _⟩
    · cases e; exact h'
    · cases e
  · intro ι w s fr cs hr hcl ht
    obtain ⟨v, A', ι', w', v', ⟨rfl, rfl⟩, rest⟩ := keys_nil ok hD (yv := yv) hbox (hIN _ _ hI0) ι w s fr cs hr hcl ht
    exact ⟨_, _, ι', w', v', ⟨rfl, [], .refl _, hI0⟩, rest⟩
end Go.Am

/-
  The abstract machine AM, part 63: rows that are sorted; the hook of a function that sorts a map's keys.
-/
namespace Go.Am

/-! ### Order -/

/-- A strict order of all of some values. -/
structure LtOn (p : Value → Bool) (lt : Value → Value → Bool) : Prop where
  irr : ∀ a, p a = true → lt a a = false
  trans : ∀ a b c, p a = true → p b = true → p c = true → lt a b = true → lt b c = true → lt a c = true
  tri : ∀ a b, p a = true → p b = true → lt a b = false → lt b a = false → a = b
theorem LtOn.asymm {p : Value → Bool} {lt : Value → Value → Bool} (h : LtOn p lt) {a b : Value} (ha : p a = true) (hb : p b = true) (hl : lt a b = true) : lt b a = false := by
  cases hba : lt b a with
  | false => rfl
  | true =>
    have := h.trans a b a ha hb ha hl hba
    rw [h.irr a ha] at this; cases this
/-- Not greater is handed on. -/
theorem LtOn.le_trans {p : Value → Bool} {lt : Value → Value → Bool} (h : LtOn p lt) {a b c : Value} (ha : p a = true) (hb : p b = true) (hc : p c = true) (h1 : lt b a = false) (h2 : lt c b = false) : lt c a = false := by
  cases hca : lt c a with
  | false => rfl
  | true =>
    cases hab : lt a b with
    | true => rw [h.trans c a b hc ha hb hca hab] at h2; cases h2
    | false =>
      have := h.tri a b ha hb hab h1
      subst this
      rw [hca] at h2; cases h2

abbrev SortedV (lt : Value → Value → Bool) (l : List Value) : Prop := l.Pairwise fun a b => lt b a = false
def insV (lt : Value → Value → Bool) (x : Value) : List Value → List Value
  | [] => [x]
  | y :: l => match lt x y with
    | true => x :: y :: l
    | false => y :: insV lt x l
def sortV (lt : Value → Value → Bool) : List Value → List Value
  | [] => []
  | x :: l => insV lt x (sortV lt l)
theorem insV_perm (lt : Value → Value → Bool) (x : Value) : ∀ l, (insV lt x l).Perm (x :: l)
  | [] => .refl _
  | y :: l => by
    unfold insV
    split
    · exact .refl _
    · exact ((insV_perm lt x l).cons y).trans (.swap _ _ _)
theorem sortV_perm (lt : Value → Value → Bool) : ∀ l, (sortV lt l).Perm l
  | [] => .refl _
  | x :: l => (insV_perm lt x _).trans ((sortV_perm lt l).cons x)
theorem insV_sorted {p : Value → Bool} {lt : Value → Value → Bool} (h : LtOn p lt) {x : Value} (hx : p x = true) : ∀ {l : List Value}, (∀ y ∈ l, p y = true) → SortedV lt l → SortedV lt (insV lt x l)
  | [], _, _ => by simp [insV, SortedV]
  | y :: l, hp, hs => by
    unfold insV
    have hy := hp y (by simp)
    have hs' := List.pairwise_cons.1 hs
    split
    · rename_i hl
      refine List.pairwise_cons.2 ⟨fun z hz => ?_, hs⟩
      have hxy := h.asymm hx hy hl
      rcases List.mem_cons.1 hz with rfl | hz
      · exact hxy
      · exact h.le_trans hx hy (hp z (by simp [hz])) hxy (hs'.1 z hz)
    · rename_i hl
      refine List.pairwise_cons.2 ⟨fun z hz => ?_, insV_sorted h hx (fun z hz => hp z (by simp [hz])) hs'.2⟩
      rcases List.mem_cons.1 ((insV_perm lt x l).mem_iff.1 hz) with rfl | hz
      · exact hl
      · exact hs'.1 z hz
theorem sortV_sorted {p : Value → Bool} {lt : Value → Value → Bool} (h : LtOn p lt) : ∀ {l : List Value}, (∀ y ∈ l, p y = true) → SortedV lt (sortV lt l)
  | [], _ => .nil
  | x :: l, hp => insV_sorted h (hp x (by simp)) (fun y hy => hp y (by simp [(sortV_perm lt l).mem_iff.1 hy])) (sortV_sorted h fun y hy => hp y (by simp [hy]))
/-- Rows of the same values that are sorted are one. -/
theorem sorted_one {p : Value → Bool} {lt : Value → Value → Bool} (h : LtOn p lt) {l m : List Value} (hp : ∀ y ∈ l, p y = true) (hl : SortedV lt l) (hm : l.Perm m) : l = sortV lt m := by
  have hpm : ∀ y ∈ m, p y = true := fun y hy => hp y (hm.mem_iff.2 hy)
  refine List.Perm.eq_of_pairwise (le := fun a b => lt b a = false) (fun a b ha hb h1 h2 => ?_) hl (sortV_sorted h hpm) (hm.trans (sortV_perm lt m).symm)
  exact h.tri a b (hp a ha) (hpm b ((sortV_perm lt m).mem_iff.1 hb)) h2 h1

/-- One value goes down to its place. -/
theorem sorted_in {p : Value → Bool} {lt : Value → Value → Bool} (h : LtOn p lt) {S1 S2 : List Value} {x : Value} (hp : ∀ y ∈ S1 ++ x :: S2, p y = true) (hs : SortedV lt (S1 ++ S2)) (h2 : ∀ y ∈ S2, lt x y = true) (h1 : ∀ S y, S1 = S ++ [y] → lt x y = false) : SortedV lt (S1 ++ x :: S2) := by
  have hx := hp x (by simp)
  have ha := List.pairwise_append.1 hs
  refine List.pairwise_append.2 ⟨ha.1, List.pairwise_cons.2 ⟨fun z hz => h.asymm hx (hp z (by simp [hz])) (h2 z hz), ha.2.1⟩, fun a haS b hb => ?_⟩
  rcases List.mem_cons.1 hb with rfl | hb
  · rcases List.eq_nil_or_concat S1 with rfl | ⟨S, y, rfl⟩
    · cases haS
    · have hxy := h1 S y (by simp)
      rw [List.concat_eq_append] at haS ha
      rcases List.mem_append.1 haS with haS | haS
      · have hay := (List.pairwise_append.1 ha.1).2.2 a haS y (by simp)
        exact h.le_trans (hp a (by simp [haS])) (hp y (by simp)) hx hay hxy
      · simp only [List.mem_singleton] at haS
        rw [haS]; exact hxy
  · exact ha.2.2 a haS b hb

/-! ### Strings, and bytes -/

def isStrV : Value → Bool
  | .string _ => true
  | _ => false
def ltStrV : Value → Value → Bool
  | .string a, .string b => bytesLt a.data.toList b.data.toList
  | _, _ => false
def isU8V : Value → Bool
  | .int .u8 (.ofNat _) => true
  | _ => false
def ltU8V : Value → Value → Bool
  | .int _ (.ofNat a), .int _ (.ofNat b) => Nat.blt a b
  | _, _ => false
theorem bytesLt_irr : ∀ x, bytesLt x x = false
  | [] => rfl
  | a :: x => by
    have : Nat.blt a.toNat a.toNat = false := by
      cases h : Nat.blt a.toNat a.toNat with
      | false => rfl
      | true => rw [Nat.blt_eq] at h; omega
    simp [bytesLt, this, bytesLt_irr x]
theorem bytesLt_trans : ∀ x y z, bytesLt x y = true → bytesLt y z = true → bytesLt x z = true
  | _, [], _, h, _ => by simp [bytesLt] at h
  | _, _ :: _, [], _, h => by simp [bytesLt] at h
  | [], b :: y, c :: z, _, _ => rfl
  | a :: x, b :: y, c :: z, h1, h2 => by
    simp only [bytesLt, Bool.or_eq_true, Bool.and_eq_true, Nat.blt_eq, Nat.beq_eq] at h1 h2 ⊢
    rcases h1 with h1 | ⟨h1, h1'⟩
    · rcases h2 with h2 | ⟨h2, _⟩
      · left; omega
      · left; omega
    · rcases h2 with h2 | ⟨h2, h2'⟩
      · left; omega
      · exact .inr ⟨by omega, bytesLt_trans x y z h1' h2'⟩
theorem bytesLt_tri : ∀ x y, bytesLt x y = false → bytesLt y x = false → x = y
  | [], [], _, _ => rfl
  | [], _ :: _, h, _ => by simp [bytesLt] at h
  | _ :: _, [], _, h => by simp [bytesLt] at h
  | a :: x, b :: y, h1, h2 => by
    simp only [bytesLt, Bool.or_eq_false_iff, Bool.and_eq_false_iff] at h1 h2
    have e : a.toNat = b.toNat := by
      rcases Nat.lt_trichotomy a.toNat b.toNat with h | h | h
      · have := h1.1; rw [show Nat.blt a.toNat b.toNat = true by rw [Nat.blt_eq]; exact h] at this; cases this
      · exact h
      · have := h2.1; rw [show Nat.blt b.toNat a.toNat = true by rw [Nat.blt_eq]; exact h] at this; cases this
    have e1 : bytesLt x y = false := by
      rcases h1.2 with h | h
      · rw [e] at h; simp at h
      · exact h
    have e2 : bytesLt y x = false := by
      rcases h2.2 with h | h
      · rw [e] at h; simp at h
      · exact h
    rw [bytesLt_tri x y e1 e2, UInt8.toNat_inj.1 e]
theorem ltStr_on : LtOn isStrV ltStrV where
  irr := fun a ha => by
    cases a <;> first | exact bytesLt_irr _ | cases ha
  trans := fun a b c ha hb hc => by
    cases a <;> first | (cases ha; done) | skip
    cases b <;> first | (cases hb; done) | skip
    cases c <;> first | (cases hc; done) | skip
    exact bytesLt_trans _ _ _
  tri := fun a b ha hb h1 h2 => by
    cases a <;> first | (cases ha; done) | skip
    cases b <;> first | (cases hb; done) | skip
    rename_i x y
    have := bytesLt_tri _ _ h1 h2
    obtain ⟨⟨x⟩⟩ := x
    obtain ⟨⟨y⟩⟩ := y
    simp only at this
    rw [this]
theorem isU8_inv {a : Value} (h : isU8V a = true) : ∃ n : Nat, a = .int .u8 (.ofNat n) := by
  unfold isU8V at h
  split at h
  · exact ⟨_, rfl⟩
  · cases h
theorem ltU8_on : LtOn isU8V ltU8V where
  irr := fun a ha => by
    obtain ⟨n, rfl⟩ := isU8_inv ha
    show Nat.blt n n = false
    cases h : Nat.blt n n with
    | false => rfl
    | true => rw [Nat.blt_eq] at h; omega
  trans := fun a b c ha hb hc h1 h2 => by
    obtain ⟨n, rfl⟩ := isU8_inv ha
    obtain ⟨m, rfl⟩ := isU8_inv hb
    obtain ⟨k, rfl⟩ := isU8_inv hc
    have h1 : Nat.blt n m = true := h1
    have h2 : Nat.blt m k = true := h2
    show Nat.blt n k = true
    rw [Nat.blt_eq] at *
    omega
  tri := fun a b ha hb h1 h2 => by
    obtain ⟨n, rfl⟩ := isU8_inv ha
    obtain ⟨m, rfl⟩ := isU8_inv hb
    have h1 : Nat.blt n m = false := h1
    have h2 : Nat.blt m n = false := h2
    have : n = m := by
      rcases Nat.lt_trichotomy n m with h | h | h
      · rw [show Nat.blt n m = true by rw [Nat.blt_eq]; exact h] at h1; cases h1
      · exact h
      · rw [show Nat.blt m n = true by rw [Nat.blt_eq]; exact h] at h2; cases h2
    rw [this]
end Go.Am

/-
  The abstract machine AM, part 64: the hook of a function that sorts a map's keys.
-/
namespace Go.Am
variable {tb : Tab} {N : Nat}

/-- A slice that was made by appending, one by one. -/
def RowS (A : Mem) (e : TypeId) (b : Nat) (l : List Value) (x : Value) : Prop :=
  (x = .slice none 0 0 ∧ l = []) ∨ (l ≠ [] ∧ x = .slice (some ⟨b, 0, none⟩) l.length (mkX l.length 1) ∧ b < A.next ∧ Vals A e b .row l)
theorem RowS.slc {A : Mem} {e : TypeId} {b : Nat} {l : List Value} {x : Value} (h : RowS A e b l x) : Slc A e b l x := by
  rcases h with h | ⟨_, h1, h2, h3⟩
  · exact .inl h
  · exact .inr ⟨.row, _, h1, h2, h3, .inr ⟨rfl, .inl rfl⟩⟩
theorem RowS.same {A A' : Mem} {e : TypeId} {b : Nat} {l : List Value} {x : Value} (h : RowS A e b l x) (hn : A.next ≤ A'.next) (hg : b < A.next → A'.get b = A.get b) : RowS A' e b l x := by
  rcases h with h | ⟨h0, h1, h2, h3⟩
  · exact .inl h
  · exact .inr ⟨h0, h1, Nat.lt_of_lt_of_le h2 hn, h3.same (hg h2)⟩
theorem RowS.store {A : Mem} {e t : TypeId} {b o : Nat} {l : List Value} {x v : Value} (h : RowS A e b l x) (hs : sizeF tb t = .ok 1) (ho : o < l.length) (hv : v.cells.toList = [v]) (h1c : oneCell v = true) :
    ∃ A', storeF tb A t (.pointer (some ⟨b, o, none⟩)) v = .ok A' ∧ RowS A' e b (l.set o v) x ∧ A'.next = A.next ∧ ∀ y, y ≠ b → A'.get y = A.get y := by
  rcases h with ⟨rfl, rfl⟩ | ⟨h0, rfl, h2, h3⟩
  · simp at ho
  · obtain ⟨A', e1, e2, e3, e4⟩ := store_vals (tb := tb) (t := t) hs h3 ho hv h1c
    exact ⟨A', e1, .inr ⟨by simpa using h0, by rw [List.length_set], by omega, e2⟩, e3, e4⟩
/-- One more, behind it. -/
theorem RowS.append {A : Mem} {st xt e : TypeId} {i : TypeInfo} {z v : Value} {b b2 : Nat} {l : List Value} {x : Value} (h : RowS A e b l x) (hst : tb.und st = some (.slice e)) (hxt : tb.und xt = some (.slice e)) (hz : zcellsF tb e = .ok (1, [z])) (hi : tb.ty.get e = some i) (hib : 0 < i.bytes) (hib' : i.bytes ≤ 65536)
    (hl : l.length < 16777216) (hb2 : A.get b2 = some (rowOb e [v])) (h1c : oneCell v = true) :
    ∃ x' A', appendF tb A st xt x (.slice (some ⟨b2, 0, none⟩) 1 2) = .ok (x', A') ∧ RowS A' e A.next (l ++ [v]) x' ∧ A'.next = A.next + 1 ∧ ∀ y, y ≠ b → y < A.next → A'.get y = A.get y := by
  have he1 : (1 : Nat) < 65536 := by omega
  have hnew : firstF A.get 1 1 (.slice (some ⟨b2, 0, none⟩) 1 2) = .ok [v] := elemsF_vals (l := [v]) (vals_puts (e := e) (k := .var 1) hb2)
  have hlim : (Nat.ble (l.length + 1) 16777216 && Nat.ble i.bytes 65536 && Nat.blt 0 i.bytes && Nat.blt 0 1 && Nat.blt 1 65536) = true := by
    have a1 : Nat.ble (l.length + 1) 16777216 = true := Nat.ble_eq_true_of_le (by omega)
    have a2 : Nat.ble i.bytes 65536 = true := Nat.ble_eq_true_of_le hib'
    have a3 : Nat.blt 0 i.bytes = true := by rw [Nat.blt_eq]; exact hib
    rw [a1, a2, a3]; rfl
  have fin : ∀ (A0 : Mem), A0.next = A.next → (∀ y, y ≠ b → A0.get y = A.get y) →
      RowS (A0.alloc (.cells e .row 0 (T.puts .e 0 (l ++ [v])))) e A.next (l ++ [v]) (.slice (some ⟨A.next, 0, none⟩) (l.length + 1) (mkX (l.length + 1) 1)) ∧ (A0.alloc (.cells e .row 0 (T.puts .e 0 (l ++ [v])))).next = A.next + 1 ∧ ∀ y, y ≠ b → y < A.next → (A0.alloc (.cells e .row 0 (T.puts .e 0 (l ++ [v])))).get y = A.get y := by
    intro A0 hn hg
    refine ⟨.inr ⟨by simp, by rw [List.length_append]; rfl, by rw [next_alloc]; omega, vals_puts ?_⟩, by rw [next_alloc, hn], fun y hy hlt => ?_⟩
    · rw [← hn]; exact get_alloc_self _ _
    · rw [get_alloc_ne (by omega), hg y hy]
  rcases h with ⟨rfl, rfl⟩ | ⟨h0, rfl, h2, h3⟩
  · refine ⟨.slice (some ⟨A.next, 0, none⟩) 1 (mkX 1 1), A.alloc (.cells e .row 0 (T.puts .e 0 [v])), ?_, ?_⟩
    · unfold appendF appendG
      have hble : Nat.ble (0 + 1) (capN 0) = false := rfl
      have hx : capX 0 = true := rfl
      have hel : elemsF A.get 1 0 none = .ok [] := rfl
      simp only [hst, hxt, isIntD, cond_false, hz, R.ok_bind, lenF, hnew, hble, hi]
      simp only [List.length_nil, Nat.zero_add] at hlim
      simp only [Nat.zero_add, hlim, cond_true, hel, R.ok_bind, hx, List.nil_append]
    · exact fin A rfl (fun _ _ => rfl)
  · obtain ⟨cs, hb', hcs⟩ := h3
    have hel : elemsF A.get 1 l.length (some ⟨b, 0, none⟩) = .ok l := elemsF_vals ⟨cs, hb', hcs⟩
    have hble : Nat.ble (l.length + 1) (capN (mkX l.length 1)) = false := by
      rw [capN_mkX he1]
      cases hq : Nat.ble (l.length + 1) l.length with
      | false => rfl
      | true => have := Nat.le_of_ble_eq_true hq; omega
    have hx : capX (mkX l.length 1) = false := capX_mkX _ _
    have he : Nat.beq (capE (mkX l.length 1)) 1 = true := by rw [capE_mkX he1]; rfl
    have hfz : (Nat.ble 0 (0 + l.length * 1) && (Nat.beq e e && Nat.blt 0 9223372036854775808)) = true := by
      have h0 : Nat.blt 0 9223372036854775808 = true := by rw [Nat.blt_eq]; omega
      rw [h0]; simp
    refine ⟨_, (A.set b .dead).alloc (.cells e .row 0 (T.puts .e 0 (l ++ [v]))), ?_, fin (A.set b .dead) (next_set _ _ _) (fun y hy => by rw [get_setMem, if_neg hy])⟩
    unfold appendF appendG
    simp only [hst, hxt, isIntD, cond_false, hz, R.ok_bind, lenF, hnew, hble, hi, hlim, cond_true, hel, hx, he, List.all_cons, List.all_nil, h1c, Bool.and_true, hb', hfz]

/-! ### What is forgotten -/

/-- A memory of which less is known. -/
theorem Rel.less {ι : Inj} {A A' : Mem} {w : World} (h : Rel ι A w) (hg : ∀ x o, A'.get x = some o → alive o = true → ∃ o0, A.get x = some o0 ∧ alive o0 = true ∧ ∀ l o', OR ι o0 l o' → OR ι o l o') (hw : ∀ b, A'.next ≤ b → A'.get b = none) (hgl : ∀ b t k c, A'.get b = some (.cells t .row (GB k) c) → A.get b = some (.cells t .row (GB k) c)) : Rel ι A' w where
  gl := fun b t k c hb => h.gl b t k c (hgl b t k c hb)
  wf := hw
  obs := fun b o l hb ha hl => by
    obtain ⟨o0, h1, h2, h3⟩ := hg b o hb ha
    obtain ⟨o', h4, h5⟩ := h.obs b o0 l h1 h2 hl
    exact ⟨o', h4, h3 l o' h5⟩
  rng := h.rng
  inj := fun b b' l l' ⟨o, h1, h2⟩ ⟨o', h3, h4⟩ => by
    obtain ⟨p, p1, p2, _⟩ := hg b o h1 h2
    obtain ⟨q, q1, q2, _⟩ := hg b' o' h3 h4
    exact h.inj b b' l l' ⟨p, p1, p2⟩ ⟨q, q1, q2⟩
theorem Stp.less {ι ι' : Inj} {A A1 A' : Mem} {w w' : World} (h : Stp ι A w ι' A1 w') (hn : A'.next = A1.next) (hl : ∀ b, live A' b → live A1 b) (hk : ∀ b, b < A.next → A1.get b = A.get b → A'.get b = A.get b) : Stp ι A w ι' A' w' where
  next := by rw [hn]; exact h.next
  out := fun b hb => h.out b (by rw [hn] at hb; exact hb)
  src := fun b l hb hl' => h.src b l (hl b hb) hl'
  fr := h.fr
  size := h.size
  os := h.os
  tape := h.tape
  output := h.output
  kept := fun b l hb hs => ⟨hk b hs.1 (h.kept b l hb hs).1, (h.kept b l hb hs).2⟩

/-! ### The hook -/

/-- Are the marks of entries all unlike, rising, and below the clock? -/
def bornsOk (clock : Nat) : List MapEntry → Bool
  | [] => true
  | e :: l => Nat.blt e.born clock && (l.all fun x => Nat.blt e.born x.born) && bornsOk clock l
theorem bornsOk_lt {clock : Nat} : ∀ {l : List MapEntry}, bornsOk clock l = true → ∀ e ∈ l, e.born < clock
  | [], _, _, h => by cases h
  | x :: l, hb, e, h => by
    simp only [bornsOk, Bool.and_eq_true] at hb
    rcases List.mem_cons.1 h with rfl | h
    · have := hb.1.1; rw [Nat.blt_eq] at this; exact this
    · exact bornsOk_lt hb.2 e h
theorem bornsOk_nodup {clock : Nat} : ∀ {l : List MapEntry}, bornsOk clock l = true → (l.map (·.born)).Nodup
  | [], _ => .nil
  | x :: l, hb => by
    simp only [bornsOk, Bool.and_eq_true] at hb
    refine List.nodup_cons.2 ⟨fun h => ?_, bornsOk_nodup hb.2⟩
    obtain ⟨y, hy, he⟩ := List.mem_map.1 h
    have := List.all_eq_true.1 hb.1.2 y hy
    rw [Nat.blt_eq] at this
    have he : y.born = x.born := he
    omega

noncomputable def sortHook (tb : Tab) (Ds : List KeysF) (tK : TypeId) (p : Value → Bool) (lt : Value → Value → Bool) : List Value → Mem → R (Value × Mem) := fun args A =>
  match args with
  | [.func (.func g) ⟨[]⟩ ⟨[.pointer (some ⟨bp, 0, none⟩)]⟩] => match Ds.find? fun D => Nat.beq D.f g with
    | some D => (loadF tb A.get D.tM (.pointer (some ⟨bp, 0, none⟩))).bind fun v => match v with
      | .map (some m) => match A.get m with
        | some (.map es clock) => bif bornsOk clock es && Nat.ble es.length 12 && es.all (fun e => p e.key) then
            match sortV lt (es.map (·.key)) with
            | [] => .ok (.slice none 0 0, { A with next := A.next + 4 })
            | x :: l => .ok (.slice (some ⟨A.next + (2 * es.length + 3), 0, none⟩) es.length (mkX es.length 1),
                { heap := A.heap.set (A.next + (2 * es.length + 3)) (.cells tK .row 0 (T.puts .e 0 (x :: l))), next := A.next + (2 * es.length + 4) })
          else .no 801
        | _ => .no 802
      | .map none => .ok (.slice none 0 0, { A with next := A.next + 4 })
      | _ => .no 803
    | none => .no 804
  | _ => .no 805

/-- What must be shown of such a function: what it answers, in whatever order the keys come. -/
def SortSays (tb : Tab) (f : FuncId) (D : KeysF) (tK : TypeId) (p : Value → Bool) (lt : Value → Value → Bool) : Prop :=
  ∀ (A : Mem) (bp clock : Nat) (mv : Value) (es : List MapEntry), loadF tb A.get D.tM (.pointer (some ⟨bp, 0, none⟩)) = .ok mv → MapV A mv es clock → (∀ b, A.next ≤ b → A.get b = none) → (∀ e ∈ es, e.born < clock) → (es.map (·.born)).Nodup → es.length ≤ 12 → (∀ e ∈ es, p e.key = true) →
    RCall (A.next + (2 * es.length + 4)) tb.P (.fn f [.func (.func D.f) ⟨[]⟩ ⟨[.pointer (some ⟨bp, 0, none⟩)]⟩]) A fun v A' => A'.next = A.next + (2 * es.length + 4) ∧ (∀ y, y < A.next → A'.get y = A.get y) ∧ ∃ l', l'.Perm (es.map (·.key)) ∧ SortedV lt l' ∧ RowS A' tK (A.next + (2 * es.length + 3)) l' v

theorem key_flat {v : Value} (h : isStrV v = true ∨ isU8V v = true) : flat 9 v = true := by
  rcases h with h | h
  · unfold isStrV at h
    split at h
    · rfl
    · cases h
  · unfold isU8V at h
    split at h
    · rfl
    · cases h

theorem sort_ok (ok : TabOk tb) {f : FuncId} {fn : Func} {c : Code} (hf : tb.fn.get f = some fn) (hb : fn.body = some c) (hng : (fn.name == "runtime.NumGoroutine") = false) {Ds : List KeysF} {tK : TypeId} {p : Value → Bool} {lt : Value → Value → Bool} (hlt : LtOn p lt)
    (hs : ∀ D ∈ Ds, SortSays tb f D tK p lt) : HookOk tb.P f (sortHook tb Ds tK p lt) := by
  intro args A v A' h
  unfold sortHook at h
  split at h
  case h_2 => cases h
  rename_i g bp
  split at h
  case h_2 => cases h
  rename_i D hD
  obtain ⟨mv, h1, h2⟩ := R.bind_ok h
  clear h
  obtain ⟨es, clock, hmv, hq, h2⟩ : ∃ es clock, ((∃ m, mv = .map (some m) ∧ A.get m = some (.map es clock)) ∨ (mv = .map none ∧ es = [])) ∧ ((bornsOk clock es = true ∧ Nat.ble es.length 12 = true) ∧ (es.all fun e => p e.key) = true) ∧
      (match sortV lt (es.map (·.key)) with
        | [] => R.ok ((Value.slice none 0 0, { A with next := A.next + 4 }) : Value × Mem)
        | x :: l => .ok (Value.slice (some ⟨A.next + (2 * es.length + 3), 0, none⟩) es.length (mkX es.length 1),
            { heap := A.heap.set (A.next + (2 * es.length + 3)) (.cells tK .row 0 (T.puts .e 0 (x :: l))), next := A.next + (2 * es.length + 4) })) = .ok (v, A') := by
    split at h2
    · rename_i m
      split at h2
      case h_2 => cases h2
      rename_i es clock hm
      cases hq : (bornsOk clock es && Nat.ble es.length 12 && es.all fun e => p e.key) with
      | false => rw [hq] at h2; cases h2
      | true =>
        rw [hq, cond_true] at h2
        simp only [Bool.and_eq_true] at hq
        exact ⟨es, clock, .inl ⟨m, rfl, hm⟩, hq, h2⟩
    · exact ⟨[], 0, .inr ⟨rfl, rfl⟩, ⟨⟨rfl, rfl⟩, rfl⟩, h2⟩
    · cases h2
  have hDm := List.mem_of_find?_eq_some hD
  have hDf : D.f = g := Nat.eq_of_beq_eq_true (by have := List.find?_some hD; exact this)
  subst hDf
  have hlen : (sortV lt (es.map (·.key))).length = es.length := by rw [(sortV_perm lt _).length_eq, List.length_map]
  have hnx : A'.next = A.next + (2 * es.length + 4) ∧ (∀ y, y < A.next → A'.get y = A.get y) ∧ (∀ y, A.next ≤ y → y ≠ A.next + (2 * es.length + 3) → A'.get y = A.get y) ∧ RowS A' tK (A.next + (2 * es.length + 3)) (sortV lt (es.map (·.key))) v ∧
      (es = [] → A'.get (A.next + (2 * es.length + 3)) = A.get (A.next + (2 * es.length + 3))) ∧ (es ≠ [] → A'.get (A.next + (2 * es.length + 3)) = some (.cells tK .row 0 (T.puts .e 0 (sortV lt (es.map (·.key)))))) := by
    split at h2
    · rename_i hnil
      simp only [R.ok.injEq, Prod.mk.injEq] at h2
      obtain ⟨rfl, rfl⟩ := h2
      rw [hnil] at hlen
      have : es = [] := List.length_eq_zero_iff.1 hlen.symm
      subst this
      exact ⟨rfl, fun _ _ => rfl, fun _ _ _ => rfl, .inl ⟨rfl, hnil⟩, fun _ => rfl, fun h => absurd rfl h⟩
    · rename_i x l hxl
      simp only [R.ok.injEq, Prod.mk.injEq] at h2
      obtain ⟨rfl, rfl⟩ := h2
      have hget : ∀ y, ({ heap := A.heap.set (A.next + (2 * es.length + 3)) (.cells tK .row 0 (T.puts .e 0 (x :: l))), next := A.next + (2 * es.length + 4) } : Mem).get y = if y = A.next + (2 * es.length + 3) then some (.cells tK .row 0 (T.puts .e 0 (x :: l))) else A.get y := fun y => T.get_set ..
      have hne : es ≠ [] := by
        rintro rfl
        cases hxl
      refine ⟨rfl, fun y hy => by rw [hget, if_neg (by omega)], fun y hy hne => by rw [hget, if_neg hne], .inr ⟨by rw [hxl]; simp, ?_, by show _ < A.next + (2 * es.length + 4); omega, ?_⟩, fun h => absurd h hne, fun _ => by rw [hget, if_pos rfl, hxl]⟩
      · rw [hlen]
      · rw [hxl]
        exact vals_puts (by rw [hget, if_pos rfl])
  obtain ⟨hnA, hgA, hgA2, hrow, hgb0, hgb⟩ := hnx
  refine ⟨by omega, fun ι w args' hr ha hfree fr cs => ?_⟩
  have hcf : ∀ args' w, (callFunc f args').run tb.P w = .ok (.enter f args') w := by
    intro args' w
    unfold callFunc
    simp only [Sem.run_bind, run_program, Result.andThen_ok, ok.fn _ _ hf, hng, hb, Option.isNone_some, Bool.false_eq_true, if_false, Sem.run_pure]
  obtain ⟨v1, A1, ι1, w1, v', ⟨hn1, hg1, l', hp1, hs1, hr1⟩, _, hdone, hv1, hrel1, hst1⟩ := hs D hDm A bp clock mv es h1 (by
    rcases hmv with ⟨m, e1, e2⟩ | e1
    · refine .inl ⟨m, e1, ?_, e2⟩
      rcases Nat.lt_or_ge m A.next with h | h
      · exact h
      · rw [hr.wf m h] at e2; cases e2
    · exact .inr e1) hr.wf (bornsOk_lt hq.1.1) (bornsOk_nodup hq.1.1) (Nat.le_of_ble_eq_true hq.1.2) (fun e he => List.all_eq_true.1 hq.2 e he) ι w (callFunc f args') fr cs hr ⟨args', rfl, ha⟩
    (fun x h1 h2 => hfree x h1 (by rw [hnA]; exact h2))
  have hl' : l' = sortV lt (es.map (·.key)) := sorted_one hlt (fun y hy => by
    obtain ⟨e, he, rfl⟩ := List.mem_map.1 (hp1.mem_iff.1 hy)
    exact List.all_eq_true.1 hq.2 e he) hs1 hp1
  subst hl'
  have hvv : v1 = v := by
    rcases hrow with ⟨e1, e2⟩ | ⟨e1, e2, _⟩
    · rcases hr1 with ⟨g1, _⟩ | ⟨g1, _⟩
      · rw [e1, g1]
      · exact absurd e2 g1
    · rcases hr1 with ⟨_, g2⟩ | ⟨_, g2, _⟩
      · exact absurd g2 e1
      · rw [e2, g2]
  subst hvv
  have hsteps : Steps tb.P (lone (Frame.enter tb.P f args' .normal) (fr :: cs) w) (lone (fr.finish v') cs w1) := by
    rcases hdone with h | ⟨f2, a2, h, hst⟩ | ⟨l, f2, t, as, bd, h, _⟩
    · rw [hcf] at h; cases h
    · rw [hcf] at h
      cases h
      exact hst
    · rw [hcf] at h; cases h
  have hwfA := hr.wf
  have hobs : ∀ x o, A'.get x = some o → alive o = true → ∃ o0, A1.get x = some o0 ∧ alive o0 = true ∧ ∀ l o', OR ι1 o0 l o' → OR ι1 o l o' := by
    intro x o hx ha
    rcases Nat.lt_or_ge x A.next with hlt | hge
    · rw [hgA x hlt, ← hg1 x hlt] at hx
      exact ⟨o, hx, ha, fun _ _ h => h⟩
    · by_cases hxe : x = A.next + (2 * es.length + 3)
      · subst hxe
        by_cases hes : es = []
        · rw [hgb0 hes, hwfA _ (by omega)] at hx; cases hx
        · rw [hgb hes] at hx
          cases hx
          rcases hr1 with ⟨_, g2⟩ | ⟨_, _, _, cc, g3, g4⟩
          · rw [g2] at hlen
            exact absurd (List.length_eq_zero_iff.1 hlen.symm) hes
          · refine ⟨_, g3, rfl, fun ll o' hor => ?_⟩
            obtain ⟨cs', fr', q1, q2, q3, q4⟩ := hor
            refine ⟨cs', fr', q1, q2, fun i vv hvv => ?_, q4⟩
            rw [T.get_puts] at hvv
            by_cases hi : 0 ≤ i ∧ i < 0 + (sortV lt (es.map (·.key))).length
            · rw [if_pos hi] at hvv
              exact q3 i vv (by rw [g4 i (by omega)]; simpa using hvv)
            · rw [if_neg hi, T.get_e] at hvv; cases hvv
      · rw [hgA2 x hge hxe, hwfA x hge] at hx; cases hx
  have hwf' : ∀ b, A'.next ≤ b → A'.get b = none := by
    intro b hbn
    rw [hnA] at hbn
    rw [hgA2 b (by omega) (by omega)]
    exact hwfA b (by omega)
  refine ⟨ι1, w1, v', hsteps, hv1, hrel1.less hobs hwf' (fun b t k c hb => by
    rcases Nat.lt_or_ge b A.next with hlt | hge
    · rw [hgA b hlt, ← hg1 b hlt] at hb; exact hb
    · by_cases hxe : b = A.next + (2 * es.length + 3)
      · subst hxe
        by_cases hes : es = []
        · rw [hgb0 hes, hwfA _ (by omega)] at hb; cases hb
        · rw [hgb hes] at hb
          have h3 : 0 = GB k := by injection hb with hb; injection hb
          unfold GB at h3
          omega
      · rw [hgA2 b hge hxe, hwfA b hge] at hb; cases hb), hst1.less (by rw [hnA, hn1]) (fun b ⟨o, h1, h2⟩ => ?_) (fun b hb _ => hgA b hb)⟩
  obtain ⟨o0, h3, h4, _⟩ := hobs b o h1 h2
  exact ⟨o0, h3, h4⟩

/-- Memory in which there is more. -/
structure More (A C : Mem) : Prop where
  n : A.next ≤ C.next
  g : ∀ y, y < A.next → C.get y = A.get y
theorem More.alloc (A : Mem) (o : Ob) : More A (A.alloc o) := ⟨by rw [next_alloc]; omega, fun y hy => get_alloc_ne (by omega)⟩
theorem wrapF_u64 {n : Nat} (h : n < 18446744073709551616) : wrapF .u64 (n : Int) = (n : Int) := by
  have e : inK .u64 (n : Int) = true := by
    unfold inK
    show Nat.blt n 18446744073709551616 = true
    rw [Nat.blt_eq]; exact h
  unfold wrapF; rw [e]; rfl

theorem load_none {g : Nat → Option Ob} {t : TypeId} {b : Nat} (h : g b = none) : loadF tb g t (.pointer (some ⟨b, 0, none⟩)) = .no 72 := by
  unfold loadF
  simp only [h]

end Go.Am

/-
  The abstract machine AM, part 66: the hook of a function that lays one element into a slice (slices.Insert): whether there is room or not.
-/
namespace Go.Am
variable {tb : Tab}

/-- A run of a function's text, from any place. -/
theorem call_runs (ok : TabOk tb) {f : FuncId} {fn : Func} {c : Code} (hf : tb.fn.get f = some fn) (hb : fn.body = some c) {m : Nat} {args : List Value} {A A1 : Mem} {v : Value} (h : call tb m f args A = .ok (.val v A1)) :
    ∀ (ι : Inj) (w : World) (args' : Array Value), Rel ι A w → VRs ι args args'.toList → Free ι A A1 → ∀ (fr : Frame) (cs : List Frame), ∃ ι' w' v', Steps tb.P (lone (Frame.enter tb.P f args' .normal) (fr :: cs) w) (lone (fr.finish v') cs w') ∧ VR ι' v v' ∧ Rel ι' A1 w' ∧ Stp ι A w ι' A1 w' := by
  intro ι w args' hr ha hfree fr cs
  unfold call at h
  simp only [hf, hb] at h
  rcases fn_sound ok (exec_sound ok m) hf hb h with ⟨_, _, h1, _⟩ | ⟨v, A', h1, hle, hs⟩
  · cases h1
  · cases h1
    obtain ⟨ι', w', v', ⟨fr0, st, hfn, hlv⟩, hv, hrel, hst⟩ := hs ι w args' (fr :: cs) hr ha hfree
    exact ⟨ι', w', v', st.trans (.one (step_leave_returned hlv)), hv, hrel, hst⟩

/-- The row behind it. -/
def insL (K i : Nat) (old new : List Value) : List Value := old.take (i * K) ++ new ++ old.drop (i * K)
noncomputable def insMem (e : TypeId) (ob : Option Nat) (l : List Value) (A : Mem) : Mem :=
  match ob with
  | none => A.alloc (.cells e .row 0 (T.puts .e 0 l))
  | some b => (A.set b .dead).alloc (.cells e .row 0 (T.puts .e 0 l))
noncomputable def insHook (e : TypeId) (K : Nat) : List Value → Mem → R (Value × Mem) := fun args A =>
  match args with
  | [.slice base n k, .int .i64 (.ofNat i), .slice (some ⟨q, 0, none⟩) 1 2] => match A.get q with
    | some (.cells t (.var m) 0 c2) => match c2.gets K 0 with
      | some new => bif Nat.beq t e && Nat.beq m K && Nat.ble i n && Nat.blt n 16777215 && new.all oneCell then
          match base with
          | none => bif Nat.beq n 0 && Nat.beq k 0 then .ok (.slice (some ⟨A.next, 0, none⟩) (n + 1) (mkX (n + 1) K), insMem e none new A) else .no 900
          | some ⟨b, 0, none⟩ => match A.get b with
            | some (.cells t .row 0 c) => match c.gets (n * K) 0 with
              | some old => bif Nat.beq t e && Nat.beq k (mkX n K) && Nat.blt 0 n && old.all oneCell then .ok (.slice (some ⟨A.next, 0, none⟩) (n + 1) (mkX (n + 1) K), insMem e (some b) (insL K i old new) A) else .no 901
              | none => .no 902
            | _ => .no 903
          | _ => .no 904
        else .no 905
      | none => .no 906
    | _ => .no 907
  | _ => .no 908

def InsOut (tb : Tab) (f : FuncId) (e : TypeId) (K : Nat) (args : List Value) (A : Mem) (ob : Option Nat) (n : Nat) (l : List Value) : Prop :=
  ∃ m A1, call tb m f args A = .ok (.val (.slice (some ⟨A.next, 0, none⟩) (n + 1) (mkX (n + 1) K)) A1) ∧ A1.next = A.next + 1 ∧ Vals A1 e A.next .row l ∧ ∀ y, y < A.next → ob ≠ some y → A1.get y = A.get y

/-- What must be shown of its text: at the end; where there is no room; where there is. -/
structure InsSays (tb : Tab) (f : FuncId) (e : TypeId) (K : Nat) : Prop where
  first : ∀ (A : Mem) (q : Nat) (new : List Value), Vals A e q (.var K) new → new.length = K → (∀ v ∈ new, oneCell v = true) → q < A.next →
    InsOut tb f e K [.slice none 0 0, .int .i64 ((0 : Nat) : Int), .slice (some ⟨q, 0, none⟩) 1 2] A none 0 new
  last : ∀ (A : Mem) (b q n : Nat) (old new : List Value), Vals A e q (.var K) new → new.length = K → (∀ v ∈ new, oneCell v = true) → q < A.next → Vals A e b .row old → old.length = n * K → (∀ v ∈ old, oneCell v = true) → b < A.next → b ≠ q → 0 < n → n < 16777215 →
    InsOut tb f e K [.slice (some ⟨b, 0, none⟩) n (mkX n K), .int .i64 (n : Int), .slice (some ⟨q, 0, none⟩) 1 2] A (some b) n (insL K n old new)
  grow : ∀ (A : Mem) (b q n i : Nat) (old new : List Value), Vals A e q (.var K) new → new.length = K → (∀ v ∈ new, oneCell v = true) → q < A.next → Vals A e b .row old → old.length = n * K → (∀ v ∈ old, oneCell v = true) → b < A.next → b ≠ q → i < n → n < 16777215 →
    InsOut tb f e K [.slice (some ⟨b, 0, none⟩) n (2 * n), .int .i64 (i : Int), .slice (some ⟨q, 0, none⟩) 1 2] A (some b) n (insL K i old new)
  room : ∀ (A : Mem) (b q n i c : Nat) (old new : List Value), Vals A e q (.var K) new → new.length = K → (∀ v ∈ new, oneCell v = true) → q < A.next → Vals A e b (.room ((n + 1) * K)) old → old.length = n * K → (∀ v ∈ old, oneCell v = true) → b < A.next → b ≠ q → i < n → n < 16777215 → n + 1 ≤ c → c < 2 ^ 63 →
    ∃ m A1, call tb m f [.slice (some ⟨b, 0, none⟩) n (2 * c), .int .i64 (i : Int), .slice (some ⟨q, 0, none⟩) 1 2] A = .ok (.val (.slice (some ⟨b, 0, none⟩) (n + 1) (2 * c)) A1) ∧ A1.next = A.next ∧ Vals A1 e b (.room ((n + 1) * K)) (insL K i old new) ∧ ∀ y, y ≠ b → A1.get y = A.get y

theorem insMem_next (e : TypeId) (ob : Option Nat) (l : List Value) (A : Mem) : (insMem e ob l A).next = A.next + 1 := by
  cases ob <;> rfl
theorem insMem_new (e : TypeId) (ob : Option Nat) (l : List Value) (A : Mem) : (insMem e ob l A).get A.next = some (.cells e .row 0 (T.puts .e 0 l)) := by
  cases ob with
  | none => exact get_alloc_self _ _
  | some b => exact get_alloc_self (A.set b .dead) _
theorem insMem_old (e : TypeId) (ob : Option Nat) (l : List Value) (A : Mem) {y : Nat} (h : y ≠ A.next) : (insMem e ob l A).get y = if ob = some y then some .dead else A.get y := by
  cases ob with
  | none => rw [if_neg (by simp)]; exact get_alloc_ne h
  | some b =>
    refine (get_alloc_ne (A := A.set b .dead) h).trans ?_
    rw [get_setMem]
    by_cases hy : y = b
    · subst hy; rw [if_pos rfl, if_pos rfl]
    · rw [if_neg hy, if_neg (fun x => hy (by cases x; rfl))]

def KdOk (k : Kd) (lc : Loc) (fr : Nat × Nat) : Prop :=
  match k with
  | .var n => lc.sh = 0 ∧ lc.sz = n ∧ fr = (0, 0)
  | .row => fr.2 ≤ lc.sh + 0
  | .mark => ∀ i, i < lc.sz → ¬ (fr.1 ≤ i ∧ i < fr.2)
  | .room n => fr.2 ≤ lc.sh + 0 ∧ lc.sh + n ≤ lc.sz
theorem KdOk.room {n : Nat} {lc : Loc} {fr : Nat × Nat} (h : KdOk (.room n) lc fr) : fr.2 ≤ lc.sh + 0 := by
  unfold KdOk at h; exact h.1
theorem vals_OR {ι : Inj} {A : Mem} {e : TypeId} {b : Nat} {k : Kd} {l : List Value} (hv : Vals A e b k l) {lc : Loc} {o' : Obj} (ho : ∀ o, A.get b = some o → OR ι o lc o') (hk : ∀ fr : Nat × Nat, KdOk k lc fr → fr.2 ≤ lc.sh + 0) : OR ι (.cells e .row 0 (T.puts .e 0 l)) lc o' := by
  obtain ⟨c, h1, h2⟩ := hv
  obtain ⟨cs, fr, q1, q2, q3, q4⟩ := ho _ h1
  refine ⟨cs, fr, q1, q2, fun i v hi => ?_, hk fr q4⟩
  rw [T.get_puts] at hi
  by_cases hl : 0 ≤ i ∧ i < 0 + l.length
  · rw [if_pos hl] at hi
    exact q3 i v (by rw [h2 i (by omega)]; simpa using hi)
  · rw [if_neg hl, T.get_e] at hi; cases hi

/-- Where a new row was made. -/
theorem ins_fresh (ok : TabOk tb) {f : FuncId} {fn : Func} {c : Code} (hf : tb.fn.get f = some fn) (hb : fn.body = some c) {e : TypeId} {K n : Nat} {args : List Value} {A : Mem} {ob : Option Nat} {l : List Value} (h : InsOut tb f e K args A ob n l) (hob : ∀ b, ob = some b → ∃ c, A.get b = some (.cells e .row 0 c))
    (ι : Inj) (w : World) (args' : Array Value) (hr : Rel ι A w) (ha : VRs ι args args'.toList) (hfree : Free ι A (insMem e ob l A)) (fr : Frame) (cs : List Frame) :
    ∃ ι' w' v', Steps tb.P (lone (Frame.enter tb.P f args' .normal) (fr :: cs) w) (lone (fr.finish v') cs w') ∧ VR ι' (.slice (some ⟨A.next, 0, none⟩) (n + 1) (mkX (n + 1) K)) v' ∧ Rel ι' (insMem e ob l A) w' ∧ Stp ι A w ι' (insMem e ob l A) w' := by
  obtain ⟨m, A1, hc, hn, hv, hk⟩ := h
  obtain ⟨ι', w', v', hs, hv', hrel, hst⟩ := call_runs ok hf hb hc ι w args' hr ha (fun b h1 h2 => hfree b h1 (by rw [insMem_next]; omega)) fr cs
  have hobs : ∀ x o, (insMem e ob l A).get x = some o → alive o = true → ∃ o0, A1.get x = some o0 ∧ alive o0 = true ∧ ∀ lc o', OR ι' o0 lc o' → OR ι' o lc o' := by
    intro x o hx hal
    by_cases hxn : x = A.next
    · subst hxn
      rw [insMem_new] at hx
      cases hx
      obtain ⟨cc, g1, g2⟩ := hv
      exact ⟨_, g1, rfl, fun lc o' hor => vals_OR ⟨cc, g1, g2⟩ (fun o h => by rw [g1] at h; cases h; exact hor) (fun fr h => h)⟩
    · rw [insMem_old _ _ _ _ hxn] at hx
      split at hx
      · cases hx; cases hal
      · rename_i hob'
        have hlt : x < A.next := by
          rcases Nat.lt_or_ge x A.next with h | h
          · exact h
          · rw [hr.wf x h] at hx; cases hx
        exact ⟨o, by rw [hk x hlt hob']; exact hx, hal, fun _ _ h => h⟩
  refine ⟨ι', w', v', hs, hv', hrel.less hobs (fun b hbn => ?_) (fun b t k c hg => ?_), ?_⟩
  · rw [insMem_next] at hbn
    rw [insMem_old _ _ _ _ (by omega)]
    split
    · rename_i hob'
      obtain ⟨c, hc⟩ := hob b hob'
      rw [hr.wf b (by omega)] at hc; cases hc
    · exact hr.wf b (by omega)
  · by_cases hbn : b = A.next
    · subst hbn
      rw [insMem_new] at hg
      have h3 : 0 = GB k := by injection hg with hg; injection hg
      unfold GB at h3
      omega
    · rw [insMem_old _ _ _ _ hbn] at hg
      split at hg
      · cases hg
      · rename_i hob'
        have hlt : b < A.next := by
          rcases Nat.lt_or_ge b A.next with h | h
          · exact h
          · rw [hr.wf b h] at hg; cases hg
        rw [hk b hlt hob']; exact hg
  · refine ⟨by rw [insMem_next]; omega, fun b hb => hst.out b (by rw [insMem_next] at hb; rw [hn]; exact hb), fun b lc ⟨o, h1, h2⟩ hl => ?_, hst.fr, hst.size, hst.os, hst.tape, hst.output, fun b lc hb hsl => ?_⟩
    · obtain ⟨o0, h3, h4, _⟩ := hobs b o h1 h2
      exact hst.src b lc ⟨o0, h3, h4⟩ hl
    · refine ⟨?_, (hst.kept b lc hb hsl).2⟩
      obtain ⟨hlt, t, fz, c, hg, hfz, _⟩ := hsl
      rw [insMem_old _ _ _ _ (by omega)]
      split
      · rename_i hob'
        obtain ⟨c', hc'⟩ := hob b hob'
        rw [hg] at hc'
        cases hc'
        omega
      · rfl

/-- Where there was room. -/
theorem ins_room (ok : TabOk tb) {f : FuncId} {fn : Func} {c : Code} (hf : tb.fn.get f = some fn) (hb : fn.body = some c) {e : TypeId} {K n i b q cap : Nat} (hK : K < 65536) {old new : List Value} {A : Mem} {lc : Loc} (hS : InsSays tb f e K)
    (hq : Vals A e q (.var K) new) (hql : new.length = K) (hq1 : ∀ v ∈ new, oneCell v = true) (hbv : Vals A e b .row old) (hbl : old.length = n * K) (hb1 : ∀ v ∈ old, oneCell v = true) (hbq : b ≠ q) (hi : i < n) (hn : n < 16777215) (hcap : n + 1 ≤ cap) (hc63 : cap < 2 ^ 63)
    (ι : Inj) (w : World) (args' : Array Value) (hr : Rel ι A w) (hl : ι b = some lc) (hsz : lc.sh + cap * K ≤ lc.sz)
    (ha : VRs ι [.slice (some ⟨b, 0, none⟩) n (2 * cap), .int .i64 (i : Int), .slice (some ⟨q, 0, none⟩) 1 2] args'.toList) (hfree : Free ι A (insMem e (some b) (insL K i old new) A)) (fr : Frame) (cs : List Frame) :
    ∃ ι' w' v', Steps tb.P (lone (Frame.enter tb.P f args' .normal) (fr :: cs) w) (lone (fr.finish v') cs w') ∧ VR ι' (.slice (some ⟨A.next, 0, none⟩) (n + 1) (mkX (n + 1) K)) v' ∧ Rel ι' (insMem e (some b) (insL K i old new) A) w' ∧ Stp ι A w ι' (insMem e (some b) (insL K i old new) A) w' := by
  obtain ⟨c0, hg0, hc0⟩ := hbv
  have hblt : b < A.next := by
    rcases Nat.lt_or_ge b A.next with h | h
    · exact h
    · rw [hr.wf b h] at hg0; cases hg0
  have hqlt : q < A.next := by
    obtain ⟨cq, h1, _⟩ := hq
    rcases Nat.lt_or_ge q A.next with h | h
    · exact h
    · rw [hr.wf q h] at h1; cases h1
  have hkk : (n + 1) * K ≤ cap * K := Nat.mul_le_mul_right _ hcap
  let A2 := A.set b (.cells e (.room ((n + 1) * K)) 0 c0)
  have hg2 : ∀ y, y ≠ b → A2.get y = A.get y := fun y hy => by show (A.set b _).get y = _; rw [get_setMem, if_neg hy]
  have hg2b : A2.get b = some (.cells e (.room ((n + 1) * K)) 0 c0) := by show (A.set b _).get b = _; rw [get_setMem, if_pos rfl]
  have hlive : ∀ y, live A2 y ↔ live A y := by
    intro y
    by_cases hy : y = b
    · subst hy
      exact ⟨fun _ => ⟨_, hg0, rfl⟩, fun _ => ⟨_, hg2b, rfl⟩⟩
    · unfold live; rw [hg2 y hy]
  have hr2 : Rel ι A2 w := by
    refine ⟨fun y hy => ?_, fun y o l hg hal hl' => ?_, hr.rng, fun x y l l' h1 h2 => hr.inj x y l l' ((hlive x).1 h1) ((hlive y).1 h2), fun y t k c hg => ?_⟩
    · rw [hg2 y (by show y ≠ b; have : A.next ≤ y := hy; omega)]; exact hr.wf y hy
    · by_cases hy : y = b
      · subst hy
        rw [hg2b] at hg
        cases hg
        rw [hl] at hl'
        cases hl'
        obtain ⟨o', h1, cs', fr', q1, q2, q3, q4⟩ := hr.obs _ _ _ hg0 rfl hl
        exact ⟨o', h1, cs', fr', q1, q2, q3, q4, by omega⟩
      · rw [hg2 y hy] at hg
        exact hr.obs y o l hg hal hl'
    · by_cases hy : y = b
      · subst hy
        rw [hg2b] at hg
        cases hg
      · rw [hg2 y hy] at hg
        exact hr.gl y t k c hg
  obtain ⟨m, A1, hc, hn1, hv, hk⟩ := hS.room A2 b q n i cap old new (hq.same (hg2 q hbq.symm)) hql hq1 hqlt ⟨c0, hg2b, hc0⟩ hbl hb1 hblt hbq hi hn hcap hc63
  have hn1' : A1.next = A.next := hn1
  obtain ⟨ι1, w', v', hs, hv', hrel, hst⟩ := call_runs ok hf hb hc ι w args' hr2 ha (fun y h1 h2 => by
    have : A.next ≤ y := h1
    omega) fr cs
  have hι : ∀ y, ι1 y = ι y := fun y => hst.out y (by rcases Nat.lt_or_ge y A.next with h | h; exact .inl h; exact .inr (by omega))
  have hN : ι1 A.next = none := by rw [hι]; exact hfree _ (Nat.le_refl _) (by rw [insMem_next]; omega)
  have hlb : ι1 b = some lc := by rw [hι]; exact hl
  let ι2 : Inj := fun y => if y = A.next then some lc else ι1 y
  have e2 : ∀ y, y ≠ A.next → ι2 y = ι1 y := fun y hy => if_neg hy
  have e2N : ι2 A.next = some lc := if_pos rfl
  have hle : InjLe ι1 ι2 := fun y l hy => by
    by_cases h : y = A.next
    · subst h; rw [hN] at hy; cases hy
    · rw [e2 y h]; exact hy
  -- what the new memory holds
  have hobs : ∀ y o, (insMem e (some b) (insL K i old new) A).get y = some o → alive o = true → (y = A.next ∧ o = .cells e .row 0 (T.puts .e 0 (insL K i old new))) ∨ (y ≠ A.next ∧ y ≠ b ∧ A1.get y = some o ∧ A.get y = some o) := by
    intro y o hy hal
    by_cases hyn : y = A.next
    · subst hyn
      rw [insMem_new] at hy
      cases hy
      exact .inl ⟨rfl, rfl⟩
    · rw [insMem_old _ _ _ _ hyn] at hy
      split at hy
      · cases hy; cases hal
      · rename_i hob
        have hyb : y ≠ b := fun h => hob (by rw [h])
        exact .inr ⟨hyn, hyb, by rw [hk y hyb, hg2 y hyb]; exact hy, hy⟩
  have hliveA : ∀ y, live (insMem e (some b) (insL K i old new) A) y → y = A.next ∨ (y ≠ A.next ∧ y ≠ b ∧ live A1 y) := by
    intro y ⟨o, h1, h2⟩
    rcases hobs y o h1 h2 with ⟨h, _⟩ | ⟨h3, h4, h5, _⟩
    · exact .inl h
    · exact .inr ⟨h3, h4, o, h5, h2⟩
  have hlb1 : live A1 b := by
    obtain ⟨cc, g1, _⟩ := hv
    exact ⟨_, g1, rfl⟩
  refine ⟨ι2, w', v', hs, ?_, ⟨fun y hy => ?_, fun y o l hg hal hl' => ?_, fun y l hy => ?_, fun x y l l' h1 h2 hx hy heq => ?_, fun y t k cc hg => ?_⟩, ⟨by rw [insMem_next]; omega, fun y hy => ?_, fun y l hly hl' => ?_, fun cc hcc hno => ?_, hst.size, hst.os, hst.tape, hst.output, fun y l hy hsl => ?_⟩⟩
  · cases hv' with
    | sl h1 h2 =>
      rw [hlb] at h1
      cases h1
      rw [capN_two]
      exact VR.slX e2N (capX_mkX _ _) (by rw [capN_mkX hK]; exact hcap) (by rw [capE_mkX hK]; omega) (fun _ => rfl) hc63 (by rw [capN_mkX hK]; exact Nat.le_refl _)
    | slX h1 h2 => rw [capX_two] at h2; cases h2
  · rw [insMem_next] at hy
    rw [insMem_old _ _ _ _ (by omega), if_neg (fun h => by cases h; omega)]
    exact hr.wf y (by omega)
  · rcases hobs y o hg hal with ⟨rfl, rfl⟩ | ⟨h3, h4, h5, _⟩
    · rw [e2N] at hl'
      cases hl'
      obtain ⟨cc, g1, g2⟩ := hv
      obtain ⟨o', p1, p2⟩ := hrel.obs b _ _ g1 rfl hlb
      exact ⟨o', p1, vals_OR ⟨cc, g1, g2⟩ (fun o h => by rw [g1] at h; cases h; exact p2.mono hle) (fun fr h => h.room)⟩
    · rw [e2 y h3] at hl'
      obtain ⟨o', p1, p2⟩ := hrel.obs y o l h5 hal hl'
      exact ⟨o', p1, p2.mono hle⟩
  · by_cases h : y = A.next
    · subst h
      rw [e2N] at hy
      cases hy
      exact hrel.rng b _ hlb
    · rw [e2 y h] at hy
      exact hrel.rng y l hy
  · rcases hliveA x h1 with rfl | ⟨x1, x2, x3⟩
    · rcases hliveA y h2 with rfl | ⟨y1, y2, y3⟩
      · rfl
      · rw [e2N] at hx
        cases hx
        rw [e2 y y1] at hy
        exact absurd (hrel.inj b y _ _ hlb1 y3 hlb hy heq).symm y2
    · rcases hliveA y h2 with rfl | ⟨y1, y2, y3⟩
      · rw [e2N] at hy
        cases hy
        rw [e2 x x1] at hx
        exact absurd (hrel.inj x b _ _ x3 hlb1 hx hlb heq) x2
      · rw [e2 x x1] at hx
        rw [e2 y y1] at hy
        exact hrel.inj x y _ _ x3 y3 hx hy heq
  · rcases hobs y _ hg rfl with ⟨_, h⟩ | ⟨h3, _, h5, _⟩
    · have h3 : GB k = 0 := by injection h
      unfold GB at h3
      omega
    · obtain ⟨l, p1, p2⟩ := hrel.gl y t k cc h5
      exact ⟨l, by rw [e2 y h3]; exact p1, p2⟩
  · rw [insMem_next] at hy
    rw [e2 y (by omega)]
    exact hι y
  · rcases hliveA y hly with rfl | ⟨y1, y2, y3⟩
    · rw [e2N] at hl'
      cases hl'
      exact .inr ⟨b, lc, ⟨_, hg0, rfl⟩, hl, rfl⟩
    · rw [e2 y y1] at hl'
      rcases hst.src y l y3 hl' with h | ⟨b0, l0, p1, p2, p3⟩
      · exact .inl h
      · exact .inr ⟨b0, l0, (hlive b0).1 p1, p2, p3⟩
  · exact hst.fr cc hcc fun y l h1 h2 => hno y l ((hlive y).1 h1) h2
  · obtain ⟨hlt, t, fz, cc, hg, hfz, hsz'⟩ := hsl
    have hyb : y ≠ b := fun h => by
      subst h
      rw [hg0] at hg
      cases hg
      omega
    refine ⟨?_, (hst.kept y l hy ⟨hlt, t, fz, cc, by rw [hg2 y hyb]; exact hg, hfz, hsz'⟩).2⟩
    rw [insMem_old _ _ _ _ (by omega), if_neg (fun h => hyb (by cases h; rfl))]

theorem ins_ok (ok : TabOk tb) {f : FuncId} {fn : Func} {c : Code} (hf : tb.fn.get f = some fn) (hb : fn.body = some c) {e : TypeId} {K : Nat} (hK : K < 65536) (hS : InsSays tb f e K) : HookOk tb.P f (insHook e K) := by
  intro args A v A' h
  unfold insHook at h
  split at h
  case h_2 => cases h
  rename_i base n k i q
  split at h
  case h_2 => cases h
  rename_i t m c2 hgq
  split at h
  case h_2 => cases h
  rename_i new hnew
  cases hq : (Nat.beq t e && Nat.beq m K && Nat.ble i n && Nat.blt n 16777215 && new.all oneCell) with
  | false => rw [hq] at h; cases h
  | true =>
  rw [hq, cond_true] at h
  simp only [Bool.and_eq_true] at hq
  obtain ⟨⟨⟨⟨ht, hm⟩, hin⟩, hn⟩, hone⟩ := hq
  obtain rfl := Nat.eq_of_beq_eq_true ht
  obtain rfl := Nat.eq_of_beq_eq_true hm
  have hin := Nat.le_of_ble_eq_true hin
  rw [Nat.blt_eq] at hn
  obtain ⟨hql, hqg⟩ := T.gets_spec _ _ _ _ hnew
  have hqv : Vals A t q (.var m) new := ⟨c2, hgq, fun j hj => by have := hqg j (by omega); rwa [Nat.zero_add] at this⟩
  have hq1 : ∀ v ∈ new, oneCell v = true := List.all_eq_true.1 hone
  split at h
  · cases hz : (Nat.beq n 0 && Nat.beq k 0) with
    | false => rw [hz] at h; cases h
    | true =>
      rw [hz, cond_true] at h
      simp only [R.ok.injEq, Prod.mk.injEq] at h
      obtain ⟨rfl, rfl⟩ := h
      simp only [Bool.and_eq_true] at hz
      obtain rfl := Nat.eq_of_beq_eq_true hz.1
      obtain rfl := Nat.eq_of_beq_eq_true hz.2
      obtain rfl : i = 0 := by omega
      refine ⟨by rw [insMem_next]; omega, fun ι w args' hr ha hfree fr cs => ?_⟩
      refine ins_fresh ok hf hb (hS.first A q new hqv hql hq1 ?_) (fun b h => by cases h) ι w args' hr ha hfree fr cs
      rcases Nat.lt_or_ge q A.next with h | h
      · exact h
      · rw [hr.wf q h] at hgq; cases hgq
  · rename_i b
    split at h
    case h_2 => cases h
    rename_i tB cB hgb
    split at h
    case h_2 => cases h
    rename_i old hold
    cases hz : (Nat.beq tB t && Nat.beq k (mkX n m) && Nat.blt 0 n && old.all oneCell) with
    | false => rw [hz] at h; cases h
    | true =>
      rw [hz, cond_true] at h
      simp only [R.ok.injEq, Prod.mk.injEq] at h
      obtain ⟨rfl, rfl⟩ := h
      simp only [Bool.and_eq_true] at hz
      obtain ⟨⟨⟨hz1, hz2⟩, hz3⟩, hz4⟩ := hz
      obtain rfl := Nat.eq_of_beq_eq_true hz1
      obtain rfl := Nat.eq_of_beq_eq_true hz2
      rw [Nat.blt_eq] at hz3
      obtain ⟨hbl, hbg⟩ := T.gets_spec _ _ _ _ hold
      have hbv : Vals A tB b .row old := ⟨cB, hgb, fun j hj => by have := hbg j (by omega); rwa [Nat.zero_add] at this⟩
      have hb1 : ∀ v ∈ old, oneCell v = true := List.all_eq_true.1 hz4
      have hbq : b ≠ q := fun h => by subst h; rw [hgb] at hgq; cases hgq
      refine ⟨by rw [insMem_next]; omega, fun ι w args' hr ha hfree fr cs => ?_⟩
      have hqlt : q < A.next := by
        rcases Nat.lt_or_ge q A.next with h | h
        · exact h
        · rw [hr.wf q h] at hgq; cases hgq
      have hblt : b < A.next := by
        rcases Nat.lt_or_ge b A.next with h | h
        · exact h
        · rw [hr.wf b h] at hgb; cases hgb
      have hob : ∀ b', some b = some b' → ∃ c, A.get b' = some (.cells tB .row 0 c) := fun b' h => by cases h; exact ⟨cB, hgb⟩
      by_cases hlast : i = n
      · subst hlast
        exact ins_fresh ok hf hb (hS.last A b q i old new hqv hql hq1 hqlt hbv hbl hb1 hblt hbq hz3 hn) hob ι w args' hr ha hfree fr cs
      · have hi : i < n := by omega
        obtain ⟨as⟩ := args'
        cases ha with
        | cons hs ht =>
          cases hs with
          | sl h1 h2 => rw [capX_mkX] at h2; cases h2
          | @slX _ _ o' _ _ cap' lc h1 h2 hc hsz ho h63 hle =>
            rw [capN_mkX hK] at hc
            rw [capE_mkX hK] at hsz
            have ho := ho (by omega)
            subst ho
            have hsl : ∀ c, c = cap' → VR ι (.slice (some ⟨b, 0, none⟩) n (2 * c)) (.slice (some ⟨lc.blk, 0 + lc.sh, none⟩) n cap') := fun c hc => by
              have := VR.sl (ι := ι) (o := 0) (len := n) (k := 2 * c) h1 (capX_two c)
              subst hc; rwa [capN_two] at this
            by_cases hroom : n + 1 ≤ cap'
            · exact ins_room ok hf hb hK hS hqv hql hq1 hbv hbl hb1 hbq hi hn hroom h63 ι w _ hr h1 (by omega) (.cons (hsl _ rfl) ht) hfree fr cs
            · exact ins_fresh ok hf hb (hS.grow A b q n i old new hqv hql hq1 hqlt hbv hbl hb1 hblt hbq hi hn) hob ι w _ hr (.cons (hsl _ (by omega)) ht) hfree fr cs
  · cases h

end Go.Am

/-
  The abstract machine AM, part 67: what the operations do that a function runs which lays one element into a slice.
-/
namespace Go.Am
variable {tb : Tab}

theorem elemsF_at {A : Mem} {t : TypeId} {k : Kd} {fz s o m K : Nat} {c : T Value} {l : List Value} (hg : A.get s = some (.cells t k fz c)) (hl : l.length = m * K) (h : ∀ j, j < l.length → c.get (o + j) = l[j]?) : elemsF A.get K m (some ⟨s, o, none⟩) = .ok l := by
  unfold elemsF
  simp only []
  cases hn : Nat.beq (m * K) 0 with
  | true =>
    have : l = [] := List.length_eq_zero_iff.1 (by rw [hl]; exact Nat.eq_of_beq_eq_true hn)
    subst this; rfl
  | false =>
    have hgs : c.gets (m * K) o = some l := gets_eq _ _ _ _ hl fun j hj => h j (by omega)
    simp only [cond_false, hg, hgs]

theorem stores_in (m : Nat) : ∀ (vs : List Value) (i : Nat) (c : T Value), (∀ v ∈ vs, oneCell v = true) → (∀ j, j < vs.length → (∃ y, c.get (i + j) = some y) ∨ i + j < m) → storesF m 0 vs i c = .ok (c.puts i vs)
  | [], _, _, _, _ => rfl
  | v :: vs, i, c, h1, h2 => by
    unfold storesF
    have hb : (oneCell v && Nat.ble 0 i) = true := by rw [h1 v (List.mem_cons_self ..)]; simp
    have rest : storesF m 0 vs (Nat.succ i) (c.set i v) = .ok ((c.set i v).puts (Nat.succ i) vs) := stores_in m vs (i + 1) (c.set i v) (fun w hw => h1 w (List.mem_cons_of_mem _ hw)) fun j hj => by
      rw [T.get_set]
      by_cases e : i + 1 + j = i
      · omega
      · rw [if_neg e, show i + 1 + j = i + (j + 1) by omega]
        exact h2 (j + 1) (by simp; omega)
    rw [hb, cond_true]
    rcases h2 0 (by simp) with ⟨y, hy⟩ | hy
    · rw [Nat.add_zero] at hy
      rw [hy]
      exact rest
    · rw [Nat.add_zero] at hy
      have hlt : Nat.blt i m = true := by rw [Nat.blt_eq]; exact hy
      cases hc : c.get i with
      | some _ => exact rest
      | none => simp only [hlt, cond_true]; exact rest

/-- A copy, within a row or from one into another. -/
theorem copy_at {A : Mem} {st e : TypeId} {ts : TypeId} {ks kd : Kd} {fs s d os od m K sl dl cs' cd' : Nat} {cs cd : T Value} {l : List Value} (hst : tb.und st = some (.slice e)) (hsz : sizeF tb e = .ok K)
    (hs : A.get s = some (.cells ts ks fs cs)) (hd : A.get d = some (.cells e kd 0 cd)) (hl : l.length = m * K) (h : ∀ j, j < l.length → cs.get (os + j) = l[j]?) (h1 : ∀ v ∈ l, oneCell v = true) (hm : m = bif Nat.ble sl dl then sl else dl) (h0 : l ≠ [])
    (hin : ∀ j, j < l.length → (∃ y, cd.get (od + j) = some y) ∨ od + j < roomK kd) :
    copyF tb A st (.slice (some ⟨d, od, none⟩) dl cd') (.slice (some ⟨s, os, none⟩) sl cs') = .ok (.int .i64 (.ofNat m), A.set d (.cells e kd 0 (cd.puts od l))) := by
  unfold copyF
  simp only [hst, hsz, R.ok_bind, lenF, ← hm]
  have hf : firstF A.get K m (.slice (some ⟨s, os, none⟩) sl cs') = .ok l := elemsF_at hs hl h
  simp only [hf, R.ok_bind]
  unfold storeAtF
  cases l with
  | nil => exact absurd rfl h0
  | cons v vs =>
    simp only [hd, stores_in _ _ _ _ h1 hin, R.ok_bind]

section
variable {A : Mem} {st it e : TypeId} {ti : TypeInfo} {z : List Value} {b q n i K : Nat} {old new : List Value}
theorem app_first (hst : tb.und st = some (.slice e)) (hz : zcellsF tb e = .ok (K, z)) (hi : tb.ty.get e = some ti) (hib : 0 < ti.bytes) (hib' : ti.bytes ≤ 65536) (hK0 : 0 < K) (hK : K < 65536)
    (hq : Vals A e q (.var K) new) (hql : new.length = K) :
    appendF tb A st st (.slice none 0 0) (.slice (some ⟨q, 0, none⟩) 1 2) = .ok (.slice (some ⟨A.next, 0, none⟩) 1 (mkX 1 K), A.alloc (.cells e .row 0 (T.puts .e 0 new))) := by
  have hnew : firstF A.get K 1 (.slice (some ⟨q, 0, none⟩) 1 2) = .ok new := elemsF_valsN hq (by rw [Nat.one_mul]; exact hql)
  have hlim : (Nat.ble (0 + 1) 16777216 && Nat.ble ti.bytes 65536 && Nat.blt 0 ti.bytes && Nat.blt 0 K && Nat.blt K 65536) = true := by
    have a2 : Nat.ble ti.bytes 65536 = true := Nat.ble_eq_true_of_le hib'
    have a3 : Nat.blt 0 ti.bytes = true := by rw [Nat.blt_eq]; exact hib
    have a4 : Nat.blt 0 K = true := by rw [Nat.blt_eq]; exact hK0
    have a5 : Nat.blt K 65536 = true := by rw [Nat.blt_eq]; exact hK
    rw [a2, a3, a4, a5]; rfl
  have hble : Nat.ble (0 + 1) (capN 0) = false := rfl
  have hx : capX 0 = true := rfl
  have hel : elemsF A.get K 0 none = .ok [] := rfl
  unfold appendF appendG
  simp only [hst, isIntD, cond_false, hz, R.ok_bind, lenF, hnew, hble, hi, hlim, cond_true, hel, hx, List.nil_append]
theorem app_last (hst : tb.und st = some (.slice e)) (hz : zcellsF tb e = .ok (K, z)) (hi : tb.ty.get e = some ti) (hib : 0 < ti.bytes) (hib' : ti.bytes ≤ 65536) (hK0 : 0 < K) (hK : K < 65536)
    (hq : Vals A e q (.var K) new) (hql : new.length = K) (h1c : ∀ v ∈ new, oneCell v = true) (hb : Vals A e b .row old) (hbl : old.length = n * K) (hn : n < 16777215) :
    appendF tb A st st (.slice (some ⟨b, 0, none⟩) n (mkX n K)) (.slice (some ⟨q, 0, none⟩) 1 2) = .ok (.slice (some ⟨A.next, 0, none⟩) (n + 1) (mkX (n + 1) K), (A.set b .dead).alloc (.cells e .row 0 (T.puts .e 0 (old ++ new)))) := by
  have hnew : firstF A.get K 1 (.slice (some ⟨q, 0, none⟩) 1 2) = .ok new := elemsF_valsN hq (by rw [Nat.one_mul]; exact hql)
  have hel : elemsF A.get K n (some ⟨b, 0, none⟩) = .ok old := elemsF_valsN hb hbl
  have hlim : (Nat.ble (n + 1) 16777216 && Nat.ble ti.bytes 65536 && Nat.blt 0 ti.bytes && Nat.blt 0 K && Nat.blt K 65536) = true := by
    have a1 : Nat.ble (n + 1) 16777216 = true := Nat.ble_eq_true_of_le (by omega)
    have a2 : Nat.ble ti.bytes 65536 = true := Nat.ble_eq_true_of_le hib'
    have a3 : Nat.blt 0 ti.bytes = true := by rw [Nat.blt_eq]; exact hib
    have a4 : Nat.blt 0 K = true := by rw [Nat.blt_eq]; exact hK0
    have a5 : Nat.blt K 65536 = true := by rw [Nat.blt_eq]; exact hK
    rw [a1, a2, a3, a4, a5]; rfl
  have hble : Nat.ble (n + 1) (capN (mkX n K)) = false := by
    rw [capN_mkX hK]
    cases hq : Nat.ble (n + 1) n with
    | false => rfl
    | true => have := Nat.le_of_ble_eq_true hq; omega
  have hx : capX (mkX n K) = false := capX_mkX _ _
  have he : Nat.beq (capE (mkX n K)) K = true := by rw [capE_mkX hK]; simp
  have hall : new.all oneCell = true := List.all_eq_true.2 h1c
  have hfz : (Nat.ble 0 (0 + n * K) && (Nat.beq e e && Nat.blt 0 9223372036854775808)) = true := by
    have h0 : Nat.blt 0 9223372036854775808 = true := by rw [Nat.blt_eq]; omega
    rw [h0]; simp
  obtain ⟨cb, hb', _⟩ := hb
  unfold appendF appendG
  simp only [hst, isIntD, cond_false, hz, R.ok_bind, lenF, hnew, hble, hi, hlim, cond_true, hel, hx, he, hall, Bool.and_true, hb', hfz]
theorem app_grow (hst : tb.und st = some (.slice e)) (hit : tb.und it = some (.int .i64)) (hz : zcellsF tb e = .ok (K, z)) (hi : tb.ty.get e = some ti) (hib : 0 < ti.bytes) (hib' : ti.bytes ≤ 65536) (hK0 : 0 < K) (hK : K < 65536)
    (hb : Vals A e b .row old) (hbl : old.length = n * K) (hin : i < n) (hn : n < 16777215) :
    appendF tb A st it (.slice (some ⟨b, 0, none⟩) i (2 * n)) (.int .i64 ((n + 1 - i : Nat) : Int)) = .ok (.slice (some ⟨A.next, 0, none⟩) (n + 1) (mkX (n + 1) K), A.alloc (.cells e .row 0 (T.puts .e 0 (old.take (i * K) ++ repF z (n + 1 - i))))) := by
  have hik : i * K ≤ n * K := Nat.mul_le_mul_right _ (by omega)
  have hel : elemsF A.get K i (some ⟨b, 0, none⟩) = .ok (old.take (i * K)) := by
    obtain ⟨cb, h1, h2⟩ := hb
    refine elemsF_at h1 (by rw [List.length_take]; omega) fun j hj => ?_
    rw [List.length_take] at hj
    rw [Nat.zero_add, h2 j (by omega), List.getElem?_take_of_lt (by omega)]
  have hs : i + (n + 1 - i) = n + 1 := by omega
  have hlim : (Nat.ble (n + 1) 16777216 && Nat.ble ti.bytes 65536 && Nat.blt 0 ti.bytes && Nat.blt 0 K && Nat.blt K 65536) = true := by
    have a1 : Nat.ble (n + 1) 16777216 = true := Nat.ble_eq_true_of_le (by omega)
    have a2 : Nat.ble ti.bytes 65536 = true := Nat.ble_eq_true_of_le hib'
    have a3 : Nat.blt 0 ti.bytes = true := by rw [Nat.blt_eq]; exact hib
    have a4 : Nat.blt 0 K = true := by rw [Nat.blt_eq]; exact hK0
    have a5 : Nat.blt K 65536 = true := by rw [Nat.blt_eq]; exact hK
    rw [a1, a2, a3, a4, a5]; rfl
  have hble : Nat.ble (n + 1) (capN (2 * n)) = false := by
    rw [capN_two]
    cases hq : Nat.ble (n + 1) n with
    | false => rfl
    | true => have := Nat.le_of_ble_eq_true hq; omega
  have hlim2 : (Nat.ble (n + 1 - i) 16777216 && Nat.ble ti.bytes 65536) = true := by
    rw [Nat.ble_eq_true_of_le hib', Nat.ble_eq_true_of_le (show n + 1 - i ≤ 16777216 by omega)]; rfl
  have hnv : natV (.int .i64 ((n + 1 - i : Nat) : Int)) = .ok (n + 1 - i) := rfl
  unfold appendF
  simp only [hst, hit, isIntD, cond_true]
  unfold appendZ appendG
  simp only [hz, R.ok_bind, hnv, hi, hlim2, cond_true, hs, hble, cond_false, hlim, hel, capX_two]
end

theorem slc_from {st e : TypeId} {b n i k K : Nat} (hst : tb.und st = some (.slice e)) (hsz : sizeF tb e = .ok K) (hi : i ≤ n) (_hn : n ≤ capN k) (hfit : capFit k K = true) (hne : (capX k && Nat.beq (capN k) i) = false) :
    sliceF tb st (.slice (some ⟨b, 0, none⟩) n k) (some (.int .i64 (i : Int))) none none = .ok (.slice (some ⟨b, i * K, none⟩) (n - i) (capSub k i)) := by
  have e1 : bound (some (.int .i64 (i : Int))) 0 n = .ok i := bound_some hi
  unfold sliceF
  simp only [hst, bound_none, R.ok_bind, e1, hsz, hne, cond_false, hfit, cond_true, addA, Nat.zero_add]
theorem slc_to {st e : TypeId} {b n i k K : Nat} (hst : tb.und st = some (.slice e)) (hsz : sizeF tb e = .ok K) (hi : i ≤ capN k) (hfit : capFit k K = true) (hne : (capX k && Nat.beq (capN k) 0) = false) :
    sliceF tb st (.slice (some ⟨b, 0, none⟩) n k) none (some (.int .i64 (i : Int))) none = .ok (.slice (some ⟨b, 0, none⟩) i (capSub k 0)) := by
  have e1 : bound (some (.int .i64 (i : Int))) n (capN k) = .ok i := bound_some hi
  unfold sliceF
  simp only [hst, bound_none, R.ok_bind, e1, hsz, hne, cond_false, hfit, cond_true, addA, Nat.zero_mul, Nat.zero_add, Nat.sub_zero]
theorem capSub_two (c : Nat) : capSub (2 * c) 0 = 2 * c := by
  unfold capSub; rw [capX_two, cond_true, capN_two, Nat.sub_zero]

end Go.Am

/-
  The abstract machine AM, part 60: a law's arguments that hold slices within slices; the whole world as memory.
-/
namespace Go.Am
variable {tb : Tab} (ok : TabOk tb)

/-- Some cells, each turned. -/
noncomputable def keepN (g : Nat → Value → Option Value) : List Value → Nat → T Value → T Value
  | [], _, c => c
  | v :: l, i, c => keepN g l (i + 1) (match g i v with | some u => c.set i u | none => c)
theorem keepN_get (g : Nat → Value → Option Value) : ∀ (l : List Value) (i : Nat) (c : T Value) (j : Nat), (keepN g l i c).get j = if i ≤ j ∧ j < i + l.length ∧ (l[j - i]?.bind (g j)).isSome = true then l[j - i]?.bind (g j) else c.get j
  | [], i, c, j => by
    unfold keepN
    rw [if_neg (fun h => by
      have := h.2.1
      simp only [List.length_nil] at this
      omega)]
  | v :: l, i, c, j => by
    unfold keepN
    rw [keepN_get g l (i + 1)]
    by_cases hj : j = i
    · subst hj
      rw [if_neg (by omega), Nat.sub_self, List.getElem?_cons_zero, Option.bind_some]
      cases hp : g j v with
      | some u =>
        rw [if_pos ⟨Nat.le_refl _, by simp, rfl⟩]
        show (c.set j u).get j = _
        rw [T.get_set, if_pos rfl]
      | none => rw [if_neg (fun h => by simp at h)]
    · have hc : (match g i v with | some u => c.set i u | none => c : T Value).get j = c.get j := by
        cases g i v with
        | some u =>
          show (c.set i u).get j = _
          rw [T.get_set, if_neg hj]
        | none => rfl
      rw [hc]
      by_cases hij : i + 1 ≤ j
      · have e : (v :: l)[j - i]? = l[j - (i + 1)]? := by
          rw [show j - i = (j - (i + 1)) + 1 by omega, List.getElem?_cons_succ]
        rw [e]
        simp only [List.length_cons]
        by_cases hx : j < i + 1 + l.length ∧ (l[j - (i + 1)]?.bind (g j)).isSome = true
        · rw [if_pos ⟨hij, hx.1, hx.2⟩, if_pos ⟨by omega, by omega, hx.2⟩]
        · rw [if_neg (fun h => hx h.2), if_neg (fun h => hx ⟨by omega, h.2.2⟩)]
      · rw [if_neg (fun h => hij h.1), if_neg (fun h => by omega)]
theorem keepN_some {g : Nat → Value → Option Value} {l : List Value} {j : Nat} {u : Value} (h : (keepN g l 0 .e).get j = some u) : ∃ v, l[j]? = some v ∧ g j v = some u := by
  rw [keepN_get] at h
  split at h
  · rw [Nat.sub_zero, Option.bind_eq_some_iff] at h
    exact h
  · rw [T.get_e] at h; cases h
theorem keepN_put {g : Nat → Value → Option Value} {l : List Value} {j : Nat} {v u : Value} (h : l[j]? = some v) (hp : g j v = some u) : (keepN g l 0 .e).get j = some u := by
  rw [keepN_get, Nat.sub_zero, h, Option.bind_some, hp, if_pos ⟨Nat.zero_le _, by have := (List.getElem?_eq_some_iff.1 h).1; omega, rfl⟩]

/-! ### A world, as memory -/
noncomputable def wObN (g : Nat → Value → Option Value) : Obj → Ob
  | .cells cs t fr => .cells t .row (2 * (9223372036854775808 + cs.size + fr.2 + 1)) (keepN g cs.toList 0 .e)
  | _ => .dead
noncomputable def wMemN (w : World) (n : Nat) (N : Nat → Nat → Value → Option Value) : Mem :=
  ⟨T.ofList ((List.range w.heap.size).map fun b => match w.heap[b]? with | some o => wObN (N b) o | none => .dead), w.heap.size + n⟩
theorem wMemN_get (w : World) (n : Nat) (N : Nat → Nat → Value → Option Value) (b : Nat) : (wMemN w n N).get b = (w.heap[b]?).map (wObN (N b)) := by
  show (T.ofList _).get b = _
  rw [T.get_ofList, List.getElem?_map]
  by_cases hb : b < w.heap.size
  · rw [List.getElem?_range hb, Option.map_some, Array.getElem?_eq_getElem hb]; rfl
  · rw [List.getElem?_eq_none (by simpa using hb), Array.getElem?_eq_none (by omega)]; rfl
theorem wInjN_get {w : World} {ex : List (Option Loc)} {N : Nat → Nat → Value → Option Value} {b : Nat} {o : Ob} {l : Loc} (hg : (wMemN w ex.length N).get b = some o) (hl : wInj w ex b = some l) : ∃ cs t fr, w.heap[b]? = some (.cells cs t fr) ∧ o = wObN (N b) (.cells cs t fr) ∧ l = ⟨b, 0, cs.size⟩ := by
  rw [wMemN_get] at hg
  cases hb : w.heap[b]? with
  | none => rw [hb] at hg; cases hg
  | some o' =>
    rw [hb] at hg
    have hlt := (Array.getElem?_eq_some_iff.1 hb).1
    unfold wInj at hl
    rw [if_pos hlt, hb] at hl
    cases o' with
    | cells cs t fr =>
      cases hl
      exact ⟨cs, t, fr, rfl, (Option.some.inj hg).symm, rfl⟩
    | _ => cases hl
/-- What is said of the cells is so. -/
def NOk (w : World) (ex : List (Option Loc)) (N : Nat → Nat → Value → Option Value) : Prop := ∀ (b i : Nat) (v u : Value), N b i v = some u → VR (wInj w ex) u v
theorem wRelN (w : World) (ex : List (Option Loc)) (hex : ∀ l, some l ∈ ex → l.blk < w.heap.size) {N : Nat → Nat → Value → Option Value} (hN : NOk w ex N) : Rel (wInj w ex) (wMemN w ex.length N) w := by
  refine ⟨fun b hb => ?_, fun b o l hg _ hl => ?_, fun b l hl => ?_, fun b b' l l' hb hb' hl hl' he => ?_, fun b t k c hb => ?_⟩
  · have hb' : w.heap.size + ex.length ≤ b := hb
    rw [wMemN_get, Array.getElem?_eq_none (by omega)]; rfl
  · obtain ⟨cs, t, fr, h1, rfl, rfl⟩ := wInjN_get hg hl
    refine ⟨_, h1, cs, fr, rfl, rfl, fun i u hu => ?_, ?_⟩
    · obtain ⟨v, h2, h3⟩ := keepN_some hu
      rw [Array.getElem?_toList] at h2
      exact ⟨v, h2, hN _ _ _ _ h3⟩
    · show fr.2 ≤ 0 + (2 * (9223372036854775808 + cs.size + fr.2 + 1))
      omega
  · unfold wInj at hl
    split at hl
    · rename_i hlt
      split at hl
      · cases hl; exact hlt
      · cases hl
    · cases hx : ex[b - w.heap.size]? with
      | none => rw [hx] at hl; cases hl
      | some ol =>
        rw [hx] at hl
        cases ol with
        | none => cases hl
        | some l0 =>
          cases hl
          exact hex _ (List.mem_of_getElem? hx)
  · obtain ⟨o, hg, _⟩ := hb
    obtain ⟨o', hg', _⟩ := hb'
    obtain ⟨_, _, _, _, _, rfl⟩ := wInjN_get hg hl
    obtain ⟨_, _, _, _, _, rfl⟩ := wInjN_get hg' hl'
    exact he
  · rw [wMemN_get] at hb
    cases h : w.heap[b]? with
    | none => rw [h] at hb; cases hb
    | some o =>
      rw [h] at hb
      have h2 := Option.some.inj hb
      cases o with
      | cells cs t' fr =>
        have h3 : 2 * (9223372036854775808 + cs.size + fr.2 + 1) = GB k := by injection h2
        unfold GB at h3
        omega
      | _ => cases h2
include ok in
/-- A law that answers true on the abstract machine, on the whole world as memory. -/
theorem all_trueN {w : World} (ex : List (Option Loc)) (hex : ∀ l, some l ∈ ex → l.blk < w.heap.size) {N : Nat → Nat → Value → Option Value} (hN : NOk w ex N) {f : FuncId} {fn : Func} {c : Code} (hf : tb.fn.get f = some fn) (hb : fn.body = some c) {args : List Value} {args' : Array Value} (ha : VRs (wInj w ex) args args'.toList)
    (hlaw : ∃ A', CallsTo tb f args (wMemN w ex.length N) (.bool true) A') : Calls tb.P f args' w fun e w' => e = .returned (.bool true) ∧ Leaves w w' := by
  intro cs
  obtain ⟨A', n, hc⟩ := hlaw
  obtain ⟨e, w', fr, ⟨ι', v', he, hv, hl⟩, st⟩ := call_still ok hc hf hb args' w (wRelN w ex hex hN) ha (fun b hb => by
    have hb' : w.heap.size + ex.length ≤ b := hb
    unfold wInj
    rw [if_neg (by omega), List.getElem?_eq_none (by omega)]
    rfl) (fun b l hb hl => by
    obtain ⟨o, hg, _⟩ := hb
    obtain ⟨cs, t, fr, h1, rfl, rfl⟩ := wInjN_get hg hl
    refine ⟨?_, t, _, _, hg, by omega, ?_⟩
    · show b < w.heap.size + ex.length
      have := (Array.getElem?_eq_some_iff.1 h1).1
      omega
    · show cs.size < 2 * (9223372036854775808 + cs.size + fr.2 + 1)
      omega) cs
  cases hv
  exact ⟨e, w', fr, ⟨he, hl⟩, st⟩

/-! ### Slices among the cells -/
/-- An empty slice, wherever it begins. -/
def empV : Value := .complex .f32 0 0
open Classical in
/-- A value, as the machine's: slices of values of n cells. -/
noncomputable def amN (w : World) (n : Nat) (v : Value) : Option Value :=
  if plainV v = true then some v else match v with
  | .slice none len cap => if len = 0 ∧ cap = 0 then some (.slice none 0 0) else none
  | .slice (some x) len cap =>
    if len = 0 ∧ cap = 0 then some empV
    else if VR (wInj w []) (.slice (some ⟨x.block, x.off, none⟩) len (mkX len n)) (.slice (some x) len cap) then some (.slice (some ⟨x.block, x.off, none⟩) len (mkX len n))
    else none
  | _ => none
theorem amN_VR {w : World} {n : Nat} {v u : Value} (h : amN w n v = some u) : VR (wInj w []) u v := by
  unfold amN at h
  split at h
  · rename_i hp
    cases h
    exact plain_VR hp
  · split at h
    · split at h
      · rename_i hh
        obtain ⟨rfl, rfl⟩ := hh
        cases h
        exact .slN
      · cases h
    · split at h
      · rename_i hh
        obtain ⟨rfl, rfl⟩ := hh
        cases h
        exact .emp _
      · split at h
        · rename_i hh
          cases h
          exact hh
        · cases h
    · cases h
theorem amN_plain {w : World} {n : Nat} {v : Value} (h : plainV v = true) : amN w n v = some v := by
  unfold amN; rw [if_pos h]
theorem amN_nil {w : World} {n : Nat} : amN w n (.slice none 0 0) = some (.slice none 0 0) := by
  unfold amN
  rw [if_neg (by decide)]
  simp
theorem amN_emp {w : World} {n : Nat} {x : Addr} : amN w n (.slice (some x) 0 0) = some empV := by
  unfold amN
  rw [if_neg (by simp [plainV])]
  simp
/-- In the model: a slice of len values of n cells each, of which the cells that there are are 'cs'. -/
def ParN (w : World) (n : Nat) (v : Value) (len : Nat) (cs : List Value) : Prop :=
  (v = .slice none 0 0 ∧ len = 0) ∨ (∃ x, v = .slice (some x) 0 0 ∧ len = 0) ∨
  ∃ x cap, v = .slice (some x) len cap ∧ 0 < cap ∧ len ≤ cap ∧ cap < 2 ^ 63 ∧ (∀ i, i < cap * n → ∃ u, w.cell? (x.add i) = some u) ∧ cs.length = len * n ∧ ∀ (i : Nat) (c : Value), cs[i]? = some c → w.cell? (x.add i) = some c
/-- On the abstract machine. -/
def ParGN (A : Mem) (N : Nat → Nat → Value → Option Value) (n len : Nat) (cs : List Value) (x : Value) : Prop :=
  (x = .slice none 0 0 ∧ len = 0) ∨ (x = empV ∧ len = 0) ∨
  ∃ q off, x = .slice (some ⟨q, off, none⟩) len (mkX len n) ∧ q < A.next ∧ (len * n = 0 ∨ ∃ t fz c, A.get q = some (.cells t .row fz c) ∧ ∀ (i : Nat) (v u : Value), i < len * n → cs[i]? = some v → N q (off + i) v = some u → c.get (off + i) = some u)
theorem cell_at {w : World} {x : Addr} {i : Nat} {v : Value} (hs : x.spot = none) (h : w.cell? (x.add i) = some v) : ∃ cs t fr, w.heap[x.block]? = some (.cells cs t fr) ∧ cs[x.off + i]? = some v := by
  obtain ⟨xb, xo, xs⟩ := x
  simp only at hs
  subst hs
  rw [Addr_add_mk] at h
  unfold World.cell? at h
  split at h
  · rename_i cs t fr hw
    have hw' : w.heap[xb]? = some (.cells cs t fr) := hw
    simp only [Option.isSome_none, Bool.false_eq_true, if_false] at h
    exact ⟨cs, t, fr, hw', h⟩
  · cases h
theorem cell_spot {w : World} {x : Addr} {v : Value} (h : w.cell? (x.add 0) = some v) : x.spot = none := by
  have h0 : x.add 0 = x := rfl
  rw [h0] at h
  unfold World.cell? at h
  split at h
  · split at h
    · cases h
    · rename_i hn
      cases hs : x.spot with
      | none => rfl
      | some y => rw [hs] at hn; simp at hn
  · cases h
theorem par_N {w : World} {n : Nat} {v : Value} {len : Nat} {cs : List Value} {N : Nat → Nat → Value → Option Value} (hn0 : 0 < n) (hn : n < 65536) (h : ParN w n v len cs) :
    ∃ x, amN w n v = some x ∧ ParGN (wMemN w 0 N) N n len cs x := by
  rcases h with ⟨rfl, rfl⟩ | ⟨x, rfl, rfl⟩ | ⟨x, cap, rfl, hc0, hlc, hcap, hall, hcl, hcell⟩
  · exact ⟨_, amN_nil, .inl ⟨rfl, rfl⟩⟩
  · exact ⟨_, amN_emp, .inr (.inl ⟨rfl, rfl⟩)⟩
  · have hpos : 0 < cap * n := Nat.mul_pos hc0 hn0
    obtain ⟨u0, hu0⟩ := hall 0 hpos
    have hsp := cell_spot hu0
    obtain ⟨xb, xo, xs⟩ := x
    simp only at hsp
    subst hsp
    have h1 : capN (mkX len n) = len := capN_mkX hn
    have h2 : capE (mkX len n) = n := capE_mkX hn
    have hnp : ¬ plainV (.slice (some ⟨xb, xo, none⟩) len cap) = true := by simp [plainV]
    obtain ⟨u, hu⟩ := hall (cap * n - 1) (by omega)
    obtain ⟨cs', t, fr, hw, hu2⟩ := cell_at rfl hu
    have hsz := (Array.getElem?_eq_some_iff.1 hu2).1
    have hblk : xb < w.heap.size := (Array.getElem?_eq_some_iff.1 hw).1
    have hreal : VR (wInj w []) (.slice (some ⟨xb, xo, none⟩) len (mkX len n)) (.slice (some ⟨xb, xo, none⟩) len cap) := by
      refine VR.slX (l := ⟨xb, 0, cs'.size⟩) (o' := xo) (wInj_cells hw) (capX_mkX _ _) (by rw [h1]; exact hlc) ?_ (fun _ => by simp) hcap (by rw [h1]; exact Nat.le_refl _)
      rw [h2]
      have e : xo + (cap * n - 1) < cs'.size := hsz
      show xo + cap * n ≤ cs'.size
      omega
    refine ⟨.slice (some ⟨xb, xo, none⟩) len (mkX len n), ?_, .inr (.inr ⟨xb, xo, rfl, hblk, ?_⟩)⟩
    · unfold amN
      rw [if_neg hnp]
      simp only [if_neg (show ¬ (len = 0 ∧ cap = 0) by omega), if_pos hreal]
    · by_cases h0 : len * n = 0
      · exact .inl h0
      · right
        refine ⟨t, _, _, by rw [wMemN_get, hw]; rfl, fun i v u hi hv hu => keepN_put ?_ hu⟩
        obtain ⟨cs2, t2, fr2, hw2, hv2⟩ := cell_at rfl (hcell i v hv)
        rw [hw] at hw2
        cases hw2
        rw [Array.getElem?_toList]
        exact hv2
end Go.Am
