/-
  The abstract machine AM: a machine for programs of the model that draws nothing and moves no block; and the proof that what it answers the model answers.
  Part F: no conditions.
-/
import Derived.Test.YtkcbgcioijebeaaGreatDoorAmE

/-
  The abstract machine AM, part 47: what holds behind a piece of code, whatever fuel it takes.
-/
namespace Go.Am
variable {tb : Tab}

/-- A piece of code comes to an end, and there K holds. -/
def W (tb : Tab) (c : Code) (s : St) (K : Ex → St → Prop) : Prop := ∃ e s', (∃ f, ∀ m, exec tb (m + f) c s = .ok (e, s')) ∧ K e s'

theorem W.run {c : Code} {s : St} {K : Ex → St → Prop} (f : Nat) {e : Ex} {s' : St} (h : ∀ m, exec tb (m + f) c s = .ok (e, s')) (k : K e s') : W tb c s K := ⟨e, s', ⟨f, h⟩, k⟩
theorem W.mono {c : Code} {s : St} {K K' : Ex → St → Prop} (h : W tb c s K) (hk : ∀ e s', K e s' → K' e s') : W tb c s K' := by
  obtain ⟨e, s', h1, h2⟩ := h
  exact ⟨e, s', h1, hk _ _ h2⟩
/-- What comes behind an end that is plain; any other one is the whole's. -/
def Then (tb : Tab) (b : Code) (K : Ex → St → Prop) (e : Ex) (s : St) : Prop :=
  match e with
  | .nrm => W tb b s K
  | e => K e s
theorem W.seq {a b : Code} {s : St} {K : Ex → St → Prop} (h : W tb a s (Then tb b K)) : W tb (.seq a b) s K := by
  obtain ⟨e, s1, ⟨f, h1⟩, h2⟩ := h
  cases e with
  | nrm =>
    obtain ⟨e2, s2, ⟨g, h3⟩, h4⟩ := h2
    refine ⟨e2, s2, ⟨f + g + 1, fun m => ?_⟩, h4⟩
    have e1 := h1 (m + g)
    have e2' := h3 (m + f)
    rw [show m + (f + g + 1) = (m + g + f) + 1 by omega, exec_seq, e1, R.ok_bind]
    show exec tb (m + g + f) b s1 = _
    rw [show m + g + f = m + f + g by omega]; exact e2'
  | _ => exact ⟨_, s1, ⟨f + 1, fun m => by rw [show m + (f + 1) = (m + f) + 1 by omega, exec_seq, h1]; rfl⟩, h2⟩
def Blk (id : Nat) (K : Ex → St → Prop) (e : Ex) (s : St) : Prop :=
  match e with
  | .exit i => if i = id then K .nrm s else K (.exit i) s
  | e => K e s
theorem W.block {id : Nat} {c : Code} {s : St} {K : Ex → St → Prop} (h : W tb c s (Blk id K)) : W tb (.block id c) s K := by
  obtain ⟨e, s1, ⟨f, h1⟩, h2⟩ := h
  cases e with
  | exit i =>
    unfold Blk at h2
    simp only at h2
    by_cases hi : i = id
    · subst hi
      rw [if_pos rfl] at h2
      exact ⟨.nrm, s1, ⟨f + 1, fun m => by rw [show m + (f + 1) = (m + f) + 1 by omega, exec_block, h1]; simp [R.ok_bind]⟩, h2⟩
    · rw [if_neg hi] at h2
      have hb : Nat.beq i id = false := by
        cases hq : Nat.beq i id with
        | false => rfl
        | true => exact absurd (Nat.eq_of_beq_eq_true hq) hi
      exact ⟨.exit i, s1, ⟨f + 1, fun m => by rw [show m + (f + 1) = (m + f) + 1 by omega, exec_block, h1]; simp [R.ok_bind, hb]⟩, h2⟩
  | _ => exact ⟨_, s1, ⟨f + 1, fun m => by rw [show m + (f + 1) = (m + f) + 1 by omega, exec_block, h1]; rfl⟩, h2⟩
theorem W.scope {c : Code} {s : St} {K : Ex → St → Prop} (h : W tb c s K) : W tb (.scope c) s K := by
  obtain ⟨e, s1, ⟨f, h1⟩, h2⟩ := h
  exact ⟨e, s1, ⟨f + 1, fun m => by rw [show m + (f + 1) = (m + f) + 1 by omega, exec_scope, h1]⟩, h2⟩
theorem W.cond {c : Operand} {a b : Code} {s : St} {K : Ex → St → Prop} {p : Bool} (hp : ev s.t c = .ok (.bool p)) (ha : p = true → W tb a s K) (hb : p = false → W tb b s K) : W tb (.cond c a b) s K := by
  cases p with
  | true =>
    obtain ⟨e, s1, ⟨f, h1⟩, h2⟩ := ha rfl
    exact ⟨e, s1, ⟨f + 1, fun m => by rw [show m + (f + 1) = (m + f) + 1 by omega, exec_cond, hp, R.ok_bind]; exact h1 m⟩, h2⟩
  | false =>
    obtain ⟨e, s1, ⟨f, h1⟩, h2⟩ := hb rfl
    exact ⟨e, s1, ⟨f + 1, fun m => by rw [show m + (f + 1) = (m + f) + 1 by omega, exec_cond, hp, R.ok_bind]; exact h1 m⟩, h2⟩
/-- One round of a loop. -/
theorem W.round {c : Code} {s : St} {K : Ex → St → Prop} (h : W tb c s (Then tb (.loop c) K)) : W tb (.loop c) s K := by
  obtain ⟨e, s1, ⟨f, h1⟩, h2⟩ := h
  cases e with
  | nrm =>
    obtain ⟨e2, s2, ⟨g, h3⟩, h4⟩ := h2
    refine ⟨e2, s2, ⟨f + g + 1, fun m => ?_⟩, h4⟩
    rw [show m + (f + g + 1) = (m + g + f) + 1 by omega, exec_loop, h1, R.ok_bind]
    show exec tb (m + g + f) (.loop c) s1 = _
    rw [show m + g + f = m + f + g by omega]; exact h3 (m + f)
  | _ => exact ⟨_, s1, ⟨f + 1, fun m => by rw [show m + (f + 1) = (m + f) + 1 by omega, exec_loop, h1]; rfl⟩, h2⟩
/-- A loop: 'P' holds at each head, and a number falls. -/
theorem W.loop {c : Code} {K : Ex → St → Prop} (P : St → Prop) (μ : St → Nat) (hb : ∀ s, P s → W tb c s fun e s' => match e with
    | .nrm => P s' ∧ μ s' < μ s
    | e => K e s') : ∀ {s : St}, P s → W tb (.loop c) s K := by
  have main : ∀ n s, μ s = n → P s → W tb (.loop c) s K := by
    intro n
    induction n using Nat.strongRecOn with
    | ind n ih =>
      intro s hn hp
      obtain ⟨e, s1, ⟨f, h1⟩, h2⟩ := hb s hp
      cases e with
      | nrm =>
        obtain ⟨e2, s2, ⟨g, h3⟩, h4⟩ := ih _ (by rw [← hn]; exact h2.2) s1 rfl h2.1
        refine ⟨e2, s2, ⟨f + g + 1, fun m => ?_⟩, h4⟩
        have e1 := h1 (m + g)
        rw [show m + (f + g + 1) = (m + g + f) + 1 by omega, exec_loop, e1, R.ok_bind]
        show exec tb (m + g + f) (.loop c) s1 = _
        rw [show m + g + f = m + f + g by omega]; exact h3 (m + f)
      | _ => exact ⟨_, s1, ⟨f + 1, fun m => by rw [show m + (f + 1) = (m + f) + 1 by omega, exec_loop, h1]; rfl⟩, h2⟩
  exact fun {s} hp => main _ s rfl hp

/-- A function's text: its result. -/
def CallsTo (tb : Tab) (f : FuncId) (args : List Value) (A : Mem) (v : Value) (A' : Mem) : Prop := ∃ n, call tb n f args A = .ok (.val v A')
theorem call_of_W {f : FuncId} {fn : Func} {c : Code} {args : List Value} {A : Mem} {Q : Value → Mem → Prop} (hf : tb.fn.get f = some fn) (hb : fn.body = some c) (hn : args.length ≤ fn.ntmps)
    (h : W tb c ⟨T.puts .e 0 args, fn.ntmps, [], A, none⟩ fun e s => (e = .nrm ∨ e = .ret) ∧ ∃ A' vs, takeF s.d s.m = .ok A' ∧ resF tb s.t A'.get fn.results.toList = .ok vs ∧ Q (oneOf vs) A') :
    ∃ v A', CallsTo tb f args A v A' ∧ Q v A' := by
  obtain ⟨e, s1, ⟨g, h1⟩, he, A', vs, h2, h3, h4⟩ := h
  refine ⟨_, A', ⟨g, ?_⟩, h4⟩
  unfold call
  simp only [hf, hb]
  unfold bodyF
  have hb : Nat.ble args.length fn.ntmps = true := by rw [Nat.ble_eq]; exact hn
  rw [hb, cond_true]
  have := h1 0
  rw [Nat.zero_add] at this
  rw [this, R.ok_bind]
  rcases he with rfl | rfl <;> simp only [h2, h3, R.ok_bind]

/-- A call of a function with a text, whatever fuel it takes. -/
theorem callF_of_W {f : FuncId} {fn : Func} {c : Code} {args : List Value} {A : Mem} {Q : Value → Mem → Prop} (hf : tb.fn.get f = some fn) (hb : fn.body = some c) (hn : args.length ≤ fn.ntmps) (hnm : (fn.name == "runtime.NumGoroutine") = false) (hk : tb.hk.get f = none)
    (h : W tb c ⟨T.puts .e 0 args, fn.ntmps, [], A, none⟩ fun e s => (e = .nrm ∨ e = .ret) ∧ ∃ A' vs, takeF s.d s.m = .ok A' ∧ resF tb s.t A'.get fn.results.toList = .ok vs ∧ Q (oneOf vs) A') :
    ∃ v A', (∃ g, ∀ m, callF tb (exec tb (m + g)) (.fn f args) A = .ok (.val v A')) ∧ Q v A' := by
  obtain ⟨e, s1, ⟨g, h1⟩, he, A', vs, h2, h3, h4⟩ := h
  refine ⟨_, A', ⟨g, fun m => ?_⟩, h4⟩
  unfold callF
  simp only [hf, hb, hnm, hk, cond_false]
  unfold bodyF
  have hb : Nat.ble args.length fn.ntmps = true := by rw [Nat.ble_eq]; exact hn
  rw [hb, cond_true, h1, R.ok_bind]
  rcases he with rfl | rfl <;> simp only [h2, h3, R.ok_bind]

end Go.Am

/-
  The abstract machine AM, part 48: bytes in memory.
-/
namespace Go.Am
variable {tb : Tab}

theorem gets_eq {α : Type} (t : T α) : ∀ (n i : Nat) (l : List α), l.length = n → (∀ j, j < n → t.get (i + j) = l[j]?) → t.gets n i = some l
  | 0, i, l, hl, _ => by
    have : l = [] := List.length_eq_zero_iff.1 hl
    rw [this]; rfl
  | n + 1, i, [], hl, _ => by simp at hl
  | n + 1, i, x :: l, hl, h => by
    rw [T.gets_succ]
    have h0 := h 0 (by omega)
    simp only [Nat.add_zero, List.getElem?_cons_zero] at h0
    have ht : t.gets n (i + 1) = some l := gets_eq t n (i + 1) l (by simpa using hl) fun j hj => by
      have := h (j + 1) (by omega)
      rw [show i + 1 + j = i + (j + 1) by omega, this]; simp
    rw [h0, ht]
theorem gets_puts {α : Type} (l : List α) : (T.puts .e 0 l).gets l.length 0 = some l :=
  gets_eq _ _ _ _ rfl fun j hj => by
    rw [T.get_puts, Nat.zero_add, if_pos (by omega)]; simp
/-- A part of a row. -/
theorem gets_part {α : Type} (l : List α) (o n : Nat) (h : o + n ≤ l.length) : (T.puts .e 0 l).gets n o = some ((l.drop o).take n) :=
  gets_eq _ _ _ _ (by simp; omega) fun j hj => by
    rw [T.get_puts, if_pos (by omega), List.getElem?_take, if_pos hj, List.getElem?_drop, Nat.sub_zero]

theorem bytesOf_map : ∀ (l : List UInt8), bytesOf (l.map byteV) = .ok l
  | [] => rfl
  | b :: l => by
    show (bytesOf (l.map byteV)).bind (fun r => R.ok (UInt8.ofNat b.toNat :: r)) = _
    rw [bytesOf_map l, R.ok_bind]; simp

/-- A block of bytes. -/
def Bytes (A : Mem) (b : Nat) (e : TypeId) (k : Kd) (l : List UInt8) : Prop := A.get b = some (.cells e k 0 (T.puts .e 0 (l.map byteV)))

theorem elemsF_bytes {A : Mem} {b : Nat} {e : TypeId} {k : Kd} {l : List UInt8} (h : Bytes A b e k l) : elemsF A.get 1 l.length (some ⟨b, 0, none⟩) = .ok (l.map byteV) := by
  unfold elemsF
  simp only [Nat.mul_one]
  cases hn : Nat.beq l.length 0 with
  | true =>
    have : l = [] := List.length_eq_zero_iff.1 (Nat.eq_of_beq_eq_true hn)
    subst this; rfl
  | false =>
    have h' : A.get b = _ := h
    have hg : (T.puts .e 0 (l.map byteV)).gets l.length 0 = some (l.map byteV) := by
      have := gets_puts (l.map byteV)
      rwa [List.length_map] at this
    simp only [cond_false, h', hg]

/-- A slice of bytes, as a string. -/
theorem str_of_bytes {A : Mem} {b : Nat} {e : TypeId} {k : Kd} {l : List UInt8} {s d : TypeId} {c : Nat} (h1 : tb.und s = some (.slice e)) (h2 : tb.und d = some .string) (h3 : tb.und e = some (.int .u8)) (h : Bytes A b e k l) :
    convRF tb A.get s d (.slice (some ⟨b, 0, none⟩) l.length c) = .ok (strOf l) := by
  unfold convRF
  simp only [h1, h2, h3, toStringF, elemsF_bytes h, R.ok_bind, bytesOf_map]

/-- A string, as a slice of bytes. -/
theorem bytes_of_str {l : List UInt8} {s d e : TypeId} (h1 : tb.und s = some .string) (h2 : tb.und d = some (.slice e)) (h3 : tb.und e = some (.int .u8)) (hl : l.length < 4294967296) :
    toBytesF tb s d (strOf l) = .ok (.cells e .mark 0 (T.puts .e 0 (l.map byteV)), .slc l.length (mkX l.length 1)) := by
  unfold toBytesF strOf
  have : Nat.blt l.length 4294967296 = true := by rw [Nat.blt_eq]; exact hl
  simp only [h1, h2, h3, this, cond_true]

theorem byteV_ofNat {v : Nat} (h : v < 256) : Value.int .u8 (v : Int) = byteV (UInt8.ofNat v) := by
  unfold byteV
  have e : (UInt8.ofNat v).toNat = v := by rw [UInt8.toNat_ofNat']; exact Nat.mod_eq_of_lt h
  rw [e]; rfl

theorem get_alloc_self (A : Mem) (o : Ob) : (A.alloc o).get A.next = some o := by rw [get_alloc, if_pos rfl]
theorem get_alloc_ne {A : Mem} {o : Ob} {x : Nat} (h : x ≠ A.next) : (A.alloc o).get x = A.get x := by rw [get_alloc, if_neg h]

/-- One byte more, behind bytes of which it is not known how much room is behind them. -/
theorem append_byte {A : Mem} {st xt e : TypeId} {i : TypeInfo} {b b2 : Nat} {k : Kd} {l : List UInt8} {v : Nat} (hst : tb.und st = some (.slice e)) (hxt : tb.und xt = some (.slice e)) (hz : zcellsF tb e = .ok (1, [.int .u8 0])) (hi : tb.ty.get e = some i) (hib : i.bytes = 1)
    (hl : l.length < 16777216) (hk : k = .mark ∨ k = .row) (hb : Bytes A b e k l) (hb2 : A.get b2 = some (rowOb e [.int .u8 (v : Int)])) (hv : v < 256) :
    appendF tb A st xt (.slice (some ⟨b, 0, none⟩) l.length (mkX l.length 1)) (.slice (some ⟨b2, 0, none⟩) 1 2) =
      .ok (.slice (some ⟨A.next, 0, none⟩) (l.length + 1) (mkX (l.length + 1) 1), (A.set b .dead).alloc (.cells e k 0 (T.puts .e 0 ((l ++ [UInt8.ofNat v]).map byteV)))) := by
  have he1 : (1 : Nat) < 65536 := by omega
  have hnew : firstF A.get 1 1 (.slice (some ⟨b2, 0, none⟩) 1 2) = .ok [byteV (UInt8.ofNat v)] := by
    have hb3 : Bytes A b2 e (.var 1) [UInt8.ofNat v] := by
      show A.get b2 = some (.cells e (.var 1) 0 (T.puts .e 0 [byteV (UInt8.ofNat v)]))
      rw [hb2, byteV_ofNat hv]; rfl
    exact elemsF_bytes hb3
  have hble : Nat.ble (l.length + 1) (capN (mkX l.length 1)) = false := by
    rw [capN_mkX he1]
    cases hq : Nat.ble (l.length + 1) l.length with
    | false => rfl
    | true => have := Nat.le_of_ble_eq_true hq; omega
  have hlim : (Nat.ble (l.length + 1) 16777216 && Nat.ble i.bytes 65536 && Nat.blt 0 i.bytes && Nat.blt 0 1 && Nat.blt 1 65536) = true := by
    have a1 : Nat.ble (l.length + 1) 16777216 = true := Nat.ble_eq_true_of_le (by omega)
    rw [a1, hib]; rfl
  have hb' : A.get b = _ := hb
  have hx : capX (mkX l.length 1) = false := capX_mkX _ _
  have he : Nat.beq (capE (mkX l.length 1)) 1 = true := by rw [capE_mkX he1]; rfl
  have hfz : (Nat.ble 0 (0 + l.length * 1) && (Nat.beq e e && Nat.blt 0 9223372036854775808)) = true := by
    have h0 : Nat.blt 0 9223372036854775808 = true := by rw [Nat.blt_eq]; omega
    rw [h0]; simp
  unfold appendF appendG
  simp only [hst, hxt, isIntD, cond_false, hz, R.ok_bind, lenF, hnew, hble, hi, hlim, cond_true, elemsF_bytes hb, hx, he, List.all_cons, List.all_nil, byteV, oneCell, Bool.and_true, hb', hfz]
  rcases hk with rfl | rfl <;> simp [byteV]

/-! ### Cells -/
theorem indexAddr_arr {t elem : TypeId} {len b o i : Nat} {k : IntKind} (hu : tb.und t = some (.array len elem)) (hs : sizeF tb elem = .ok 1) (h : i < len) :
    indexAddrF tb t (.pointer (some ⟨b, o, none⟩)) (.int k (i : Int)) = .ok (.pointer (some ⟨b, o + i, none⟩)) := by
  have hb : Nat.blt i len = true := by rw [Nat.blt_eq]; exact h
  have hn : natV (.int k (i : Int)) = .ok i := rfl
  unfold indexAddrF
  simp only [hn, hu, hb, cond_true, hs, R.ok_bind, addA, Nat.mul_one]
theorem indexAddr_slc {t elem : TypeId} {len cap b o i : Nat} {k : IntKind} (hu : tb.und t = some (.slice elem)) (hs : sizeF tb elem = .ok 1) (h : i < len) :
    indexAddrF tb t (.slice (some ⟨b, o, none⟩) len cap) (.int k (i : Int)) = .ok (.pointer (some ⟨b, o + i, none⟩)) := by
  have hb : Nat.blt i len = true := by rw [Nat.blt_eq]; exact h
  have hn : natV (.int k (i : Int)) = .ok i := rfl
  unfold indexAddrF
  simp only [hn, hu, hb, cond_true, hs, R.ok_bind, addA, Nat.mul_one]
theorem load_row {t e : TypeId} {d : TypeDesc} {A : Mem} {b o : Nat} {l : List Value} {v : Value} (hu : tb.und t = some d) (ha : isAggD d = false) (hg : A.get b = some (rowOb e l)) (hv : l[o]? = some v) :
    loadF tb A.get t (.pointer (some ⟨b, o, none⟩)) = .ok v := by
  have ho : o < l.length := (List.getElem?_eq_some_iff.1 hv).1
  have hc : (T.puts .e 0 l).get o = some v := by
    rw [T.get_puts, if_pos (by omega), Nat.sub_zero]; exact hv
  unfold loadF
  simp only [hg, rowOb, hu, ha, cond_false, hc]
theorem load_same {t : TypeId} {A B : Mem} {b o : Nat} (h : A.get b = B.get b) : loadF tb A.get t (.pointer (some ⟨b, o, none⟩)) = loadF tb B.get t (.pointer (some ⟨b, o, none⟩)) := by
  unfold loadF
  simp only [h]
theorem len_slc {t e : TypeId} {a : Option Addr} {n c : Nat} (hu : tb.und t = some (.slice e)) : builtinPF tb .len [t] [.slice a n c] = .ok (.int .i64 ((n : Nat) : Int)) := by
  unfold builtinPF lenPF
  simp only [hu]; rfl

end Go.Am

/-
  The abstract machine AM, part 49: bytes that are written in place; more arithmetic.
-/
namespace Go.Am
variable {tb : Tab}

/-- A block of bytes, whatever way it was filled. -/
def Byt (A : Mem) (b : Nat) (e : TypeId) (k : Kd) (l : List UInt8) : Prop := ∃ c, A.get b = some (.cells e k 0 c) ∧ ∀ i, i < l.length → c.get i = (l.map byteV)[i]?
theorem Bytes.byt {A : Mem} {b : Nat} {e : TypeId} {k : Kd} {l : List UInt8} (h : Bytes A b e k l) : Byt A b e k l :=
  ⟨_, h, fun i hi => by rw [T.get_puts, Nat.zero_add, List.length_map, if_pos ⟨Nat.zero_le _, hi⟩, Nat.sub_zero]⟩
theorem Byt.same {A A' : Mem} {b : Nat} {e : TypeId} {k : Kd} {l : List UInt8} (h : Byt A b e k l) (hg : A'.get b = A.get b) : Byt A' b e k l := by
  obtain ⟨c, h1, h2⟩ := h
  exact ⟨c, hg.trans h1, h2⟩
theorem elemsF_byt {A : Mem} {b : Nat} {e : TypeId} {k : Kd} {l : List UInt8} (h : Byt A b e k l) : elemsF A.get 1 l.length (some ⟨b, 0, none⟩) = .ok (l.map byteV) := by
  obtain ⟨c, h1, h2⟩ := h
  unfold elemsF
  simp only [Nat.mul_one]
  cases hn : Nat.beq l.length 0 with
  | true =>
    have : l = [] := List.length_eq_zero_iff.1 (Nat.eq_of_beq_eq_true hn)
    subst this; rfl
  | false =>
    have hg : c.gets l.length 0 = some (l.map byteV) := gets_eq _ _ _ _ (by simp) fun j hj => by rw [Nat.zero_add]; exact h2 j hj
    simp only [cond_false, h1, hg]
theorem str_of_byt {A : Mem} {b : Nat} {e : TypeId} {k : Kd} {l : List UInt8} {s d : TypeId} {c : Nat} (h1 : tb.und s = some (.slice e)) (h2 : tb.und d = some .string) (h3 : tb.und e = some (.int .u8)) (h : Byt A b e k l) :
    convRF tb A.get s d (.slice (some ⟨b, 0, none⟩) l.length c) = .ok (strOf l) := by
  unfold convRF
  simp only [h1, h2, h3, toStringF, elemsF_byt h, R.ok_bind, bytesOf_map]
theorem load_byt {A : Mem} {b o : Nat} {e t : TypeId} {k : Kd} {l : List UInt8} (hu : tb.und t = some (.int .u8)) (h : Byt A b e k l) (ho : o < l.length) :
    loadF tb A.get t (.pointer (some ⟨b, o, none⟩)) = .ok (.int .u8 (((l.getD o 0).toNat : Nat) : Int)) := by
  obtain ⟨c, h1, h2⟩ := h
  have hc := h2 o ho
  rw [List.getElem?_map, List.getElem?_eq_getElem ho] at hc
  unfold loadF
  simp only [h1, hu, isAggD, cond_false, hc, Option.map_some]
  simp [byteV, List.getD, List.getElem?_eq_getElem ho]
theorem store_byt {A : Mem} {b o v : Nat} {e t : TypeId} {k : Kd} {l : List UInt8} (hs : sizeF tb t = .ok 1) (h : Byt A b e k l) (ho : o < l.length) (hv : v < 256) :
    ∃ A', storeF tb A t (.pointer (some ⟨b, o, none⟩)) (.int .u8 (v : Int)) = .ok A' ∧ Byt A' b e k (l.set o (.ofNat v)) ∧ A'.next = A.next ∧ ∀ x, x ≠ b → A'.get x = A.get x := by
  obtain ⟨c, h1, h2⟩ := h
  have hc : c.get o = some (byteV l[o]) := by rw [h2 o ho, List.getElem?_map, List.getElem?_eq_getElem ho]; rfl
  have hst : storesF 0 [.int .u8 (v : Int)] o c = .ok (c.set o (.int .u8 (v : Int))) := by
    unfold storesF
    have hb : (oneCell (.int .u8 (v : Int)) && Nat.ble 0 o) = true := by simp [oneCell]
    rw [hb, cond_true, hc]
    rfl
  refine ⟨A.set b (.cells e k 0 (c.set o (.int .u8 (v : Int)))), ?_, ⟨_, by rw [get_setMem, if_pos rfl], fun i hi => ?_⟩, next_set _ _ _, fun x hx => by rw [get_setMem, if_neg hx]⟩
  · unfold storeF
    simp only [hs, R.ok_bind]
    show (bif Nat.beq 1 1 then storeAtF A ⟨b, o, none⟩ [.int .u8 (v : Int)] else .no 123) = _
    unfold storeAtF
    simp only [h1, hst, R.ok_bind]
    rfl
  · rw [List.length_set] at hi
    rw [T.get_set, List.getElem?_map, List.getElem?_set]
    by_cases hio : i = o
    · subst hio
      rw [if_pos rfl, if_pos rfl, if_pos hi]
      simp [byteV_ofNat hv]
    · rw [if_neg hio, if_neg (fun x => hio x.symm), h2 i hi, List.getElem?_map]

end Go.Am

/-
  The abstract machine AM, part 50: rows of values in memory; functions that change memory and are known; loops that count; an open order in which readers float.
-/
namespace Go.Am
variable {tb : Tab} {ih : Code → St → R (Ex × St)}

/-! ### Slots -/
def Sl (t : T Value) : List (Nat × Value) → Prop
  | [] => True
  | p :: l => t.get p.1 = some p.2 ∧ Sl t l
theorem Sl_cons (t : T Value) (i : Nat) (v : Value) (l : List (Nat × Value)) : Sl t ((i, v) :: l) = (t.get i = some v ∧ Sl t l) := rfl
theorem Sl_nil (t : T Value) : Sl t [] = True := rfl

/-! ### Runs -/
/-- As W.run, where fuel is asked for. -/
theorem W.runG {c : Code} {s : St} {K : Ex → St → Prop} (g f : Nat) {e : Ex} {s' : St} (h : ∀ M, g ≤ M → exec tb (M + f) c s = .ok (e, s')) (k : K e s') : W tb c s K :=
  ⟨e, s', ⟨g + f, fun m => by rw [← Nat.add_assoc]; exact h _ (Nat.le_add_left _ _)⟩, k⟩
/-- A loop that counts up to N. -/
theorem W.up {c : Code} {n : Nat} {d : List Nat} {ro : Option Nat} {K : Ex → St → Prop} (N : Nat) (P : Nat → T Value → Mem → Prop)
    (hb : ∀ k t A, k ≤ N → P k t A → W tb c ⟨t, n, d, A, ro⟩ fun e s' => match e with
      | .nrm => k < N ∧ ∃ t' A', s' = ⟨t', n, d, A', ro⟩ ∧ P (k + 1) t' A'
      | e => K e s') {k : Nat} {t : T Value} {A : Mem} (hk : k ≤ N) (hp : P k t A) : W tb (.loop c) ⟨t, n, d, A, ro⟩ K := by
  have main : ∀ j k t A, k + j = N → P k t A → W tb (.loop c) ⟨t, n, d, A, ro⟩ K := by
    intro j
    induction j with
    | zero =>
      intro k t A hk hp
      refine W.round ((hb k t A (by omega) hp).mono fun e s' h => ?_)
      cases e with
      | nrm => exact absurd h.1 (by omega)
      | _ => exact h
    | succ j ih =>
      intro k t A hk hp
      refine W.round ((hb k t A (by omega) hp).mono fun e s' h => ?_)
      cases e with
      | nrm =>
        obtain ⟨_, t', A', rfl, h'⟩ := h
        exact ih (k + 1) t' A' (by omega) h'
      | _ => exact h
  exact main (N - k) k t A (by omega) hp
/-- A loop in which a number falls. -/
theorem W.fall {c : Code} {n : Nat} {d : List Nat} {ro : Option Nat} {K : Ex → St → Prop} (P : Nat → T Value → Mem → Prop)
    (hb : ∀ k t A, P k t A → W tb c ⟨t, n, d, A, ro⟩ fun e s' => match e with
      | .nrm => ∃ k' t' A', k' < k ∧ s' = ⟨t', n, d, A', ro⟩ ∧ P k' t' A'
      | e => K e s') {k : Nat} {t : T Value} {A : Mem} (hp : P k t A) : W tb (.loop c) ⟨t, n, d, A, ro⟩ K := by
  have main : ∀ k t A, P k t A → W tb (.loop c) ⟨t, n, d, A, ro⟩ K := by
    intro k
    induction k using Nat.strongRecOn with
    | ind k ih =>
      intro t A hp
      refine W.round ((hb k t A hp).mono fun e s' h => ?_)
      cases e with
      | nrm =>
        obtain ⟨k', t', A', hlt, rfl, h'⟩ := h
        exact ih k' hlt t' A' h'
      | _ => exact h
  exact main k t A hp

/-- What a call answers, if there is fuel enough. -/
def Ans (tb : Tab) (f : FuncId) (args : List Value) (A : Mem) (v : Value) (A' : Mem) : Prop := ∃ g, ∀ M, g ≤ M → callF tb (exec tb M) (.fn f args) A = .ok (.val v A')
theorem ans_of_W {f : FuncId} {fn : Func} {c : Code} {args : List Value} {A : Mem} {Q : Value → Mem → Prop} (hf : tb.fn.get f = some fn) (hb : fn.body = some c) (hn : args.length ≤ fn.ntmps) (hnm : (fn.name == "runtime.NumGoroutine") = false) (hk : tb.hk.get f = none)
    (h : W tb c ⟨T.puts .e 0 args, fn.ntmps, [], A, none⟩ fun e s => (e = .nrm ∨ e = .ret) ∧ ∃ A' vs, takeF s.d s.m = .ok A' ∧ resF tb s.t A'.get fn.results.toList = .ok vs ∧ Q (oneOf vs) A') :
    ∃ v A', Ans tb f args A v A' ∧ Q v A' := by
  obtain ⟨v, A', ⟨g, h1⟩, h2⟩ := callF_of_W hf hb hn hnm hk h
  refine ⟨v, A', ⟨g, fun M hM => ?_⟩, h2⟩
  have := h1 (M - g)
  rwa [Nat.sub_add_cancel hM] at this
theorem ans_calls {f : FuncId} {fn : Func} {c : Code} {args : List Value} {A A' : Mem} {v : Value} (hf : tb.fn.get f = some fn) (hb : fn.body = some c) (hnm : (fn.name == "runtime.NumGoroutine") = false) (hk : tb.hk.get f = none) (h : Ans tb f args A v A') : CallsTo tb f args A v A' := by
  obtain ⟨g, hg⟩ := h
  refine ⟨g, ?_⟩
  have h1 := hg g (Nat.le_refl _)
  unfold callF at h1
  simp only [hf, hb, hnm, hk, cond_false] at h1
  unfold call
  simp only [hf, hb]
  exact h1

/-! ### Functions that change memory, and are known -/
open Classical in
/-- What is known of a function: that it answers; and Q of its answer. -/
noncomputable def memHook (tb : Tab) (f : FuncId) (Q : List Value → Mem → Value → Mem → Prop) : List Value → Mem → R (Value × Mem) := fun args A =>
  if h : ∃ x : Value × Mem, CallsTo tb f args A x.1 x.2 ∧ Q args A x.1 x.2 then .ok h.choose else .no 601
theorem hook_mem (ok : TabOk tb) {f : FuncId} {fn : Func} {c : Code} (hf : tb.fn.get f = some fn) (hb : fn.body = some c) (Q : List Value → Mem → Value → Mem → Prop) : HookOk tb.P f (memHook tb f Q) := by
  intro args A v A' ha
  unfold memHook at ha
  split at ha
  · rename_i h
    simp only [R.ok.injEq] at ha
    obtain ⟨n, hc⟩ := h.choose_spec.1
    rw [ha] at hc
    unfold call at hc
    simp only [hf, hb] at hc
    rcases fn_sound ok (exec_sound ok n) hf hb hc with ⟨_, _, h1, _⟩ | ⟨v1, A1, h1, hle, hs⟩
    · cases h1
    · cases h1
      refine ⟨hle, fun ι w args' hr hargs hfree fr cs => ?_⟩
      obtain ⟨ι', w', v', ⟨fr0, st, hfn, hlv⟩, hv, hrel, hst⟩ := hs ι w args' (fr :: cs) hr hargs hfree
      exact ⟨ι', w', v', st.trans (.one (step_leave_returned hlv)), hv, hrel, hst⟩
  · cases ha
theorem callF_mem {tb' : Tab} {f : FuncId} {fn : Func} {c : Code} {Q : List Value → Mem → Value → Mem → Prop} {args : List Value} {A : Mem} (hf : tb'.fn.get f = some fn) (hn : (fn.name == "runtime.NumGoroutine") = false) (hb : fn.body = some c)
    (hk : tb'.hk.get f = some (memHook tb f Q)) (h : ∃ v A', CallsTo tb f args A v A' ∧ Q args A v A') : ∃ v A', (∀ ih, callF tb' ih (.fn f args) A = .ok (.val v A')) ∧ Q args A v A' := by
  obtain ⟨v0, A0, h1, h2⟩ := h
  have hx : ∃ x : Value × Mem, CallsTo tb f args A x.1 x.2 ∧ Q args A x.1 x.2 := ⟨(v0, A0), h1, h2⟩
  refine ⟨hx.choose.1, hx.choose.2, fun ih => ?_, hx.choose_spec.2⟩
  refine callF_known hf hn hb hk ?_
  unfold memHook
  rw [dif_pos hx]

/-! ### More operations -/
section
variable (dst : Option Tmp) (ty : TypeId) (pos : String) (after : Array Edge) (g : Option (Nat × Bool)) (s : St) (k : St → R (Ex × St))
theorem opF_makeFunc (f : FuncId) (a b : Array Operand) : opF tb ih { dst, op := .makeFunc (.func f) a b, type := ty, pos, after, guard := g } s k =
    (evs s.t a.toList).bind fun a => (evs s.t b.toList).bind fun b => putT s dst (.func (.func f) ⟨a⟩ ⟨b⟩) k := by
  rw [opF_P _ _ _ _ _ _ _ rfl rfl]; simp only [pOp, R.bind_bind, R.ok_bind]
/-- A call of a function that is a value. -/
noncomputable def callV (tb : Tab) (ih : Code → St → R (Ex × St)) (fv : Value) (a : List Value) (A : Mem) : R Res := (calleeF tb A.get fv a).bind fun cl => callF tb ih cl A
theorem callV_func (f : FuncId) (x y : List Value) (a : List Value) (A : Mem) : callV tb ih (.func (.func f) ⟨x⟩ ⟨y⟩) a A = callF tb ih (.fn f (x ++ a ++ y)) A := rfl
theorem callV_yield (l : Nat) (x y : Array Value) (a : List Value) (A : Mem) : callV tb ih (.func (.yield l) x y) a A = callF tb ih (.round l a) A := rfl
theorem opF_callv (x : Nat) (args : Array Operand) (ts : Array TypeId) : opF tb ih { dst, op := .call { callee := .value (.tmp x), args, argTypes := ts }, type := ty, pos, after, guard := g } s k =
    (evs s.t args.toList).bind fun a => (ev s.t (.tmp x)).bind fun fv => (callV tb ih fv a s.m).bind fun r => resK s dst k r := by
  unfold opF
  show ((clOf tb s.t s.m.get { callee := .value (.tmp x), args, argTypes := ts }).bind fun cl => (callF tb ih cl s.m).bind fun r => match r with
    | .val v A => putT { s with m := A } dst v k
    | .pan v A => .ok (.pan v, { s with m := A })) = _
  unfold clOf callV
  simp only [R.bind_bind]
  cases evs s.t args.toList with
  | no _ => rfl
  | ok a =>
    simp only [R.ok_bind]
    cases ev s.t (.tmp x) with
    | no _ => rfl
    | ok fv =>
      simp only [R.ok_bind]
      cases calleeF tb s.m.get fv a with
      | no _ => rfl
      | ok cl =>
        simp only [R.ok_bind]
        cases callF tb ih cl s.m with
        | no _ => rfl
        | ok r => cases r <;> rfl
end

theorem ev_nilslice (t : T Value) : ev t (.const (.slice none 0 0)) = .ok (.slice none 0 0) := rfl
theorem ev_nilfunc (t : T Value) : ev t (.const .nilFunc) = .ok .nilFunc := rfl
theorem ev_nilptr (t : T Value) : ev t (.const (.pointer none)) = .ok (.pointer none) := rfl
theorem ev_nilmap (t : T Value) : ev t (.const (.map none)) = .ok (.map none) := rfl

/-! ### Integers -/
theorem iltF_iff (a b : Int) : iltF a b = decide (a < b) := by
  have h : ∀ x y : Nat, Nat.blt x y = decide (x < y) := fun x y => by
    cases hb : Nat.blt x y with
    | true => rw [Nat.blt_eq] at hb; simp [hb]
    | false =>
      have : ¬ x < y := fun h => by rw [← Nat.blt_eq, hb] at h; cases h
      simp [this]
  unfold iltF
  split
  · rw [h]; congr 1; simp
  · symm; simp only [decide_eq_false_iff_not]; simp only [Int.ofNat_eq_natCast]; omega
  · symm; simp only [decide_eq_true_eq]; simp only [Int.ofNat_eq_natCast]; omega
  · rw [h]; congr 1; simp only [eq_iff_iff]; omega
theorem ieqF_iff (a b : Int) : ieqF a b = decide (a = b) := by
  have h : ∀ x y : Nat, Nat.beq x y = decide (x = y) := fun x y => by
    cases hb : Nat.beq x y with
    | true => have := Nat.eq_of_beq_eq_true hb; simp [this]
    | false => have := Nat.ne_of_beq_eq_false hb; simp [this]
  unfold ieqF
  split
  · rw [h]; congr 1; simp only [Int.ofNat_eq_natCast, eq_iff_iff]; omega
  · rw [h]; congr 1; simp only [eq_iff_iff]; omega
  · rename_i h1 h2
    symm; simp only [decide_eq_false_iff_not]
    intro hab
    subst hab
    cases a with
    | ofNat x => exact h1 x x rfl rfl
    | negSucc x => exact h2 x x rfl rfl
theorem op_leq {k : IntKind} {a b : Int} : intOpF .leq k a b = .ok (.bool (decide (a ≤ b))) := by
  show R.ok (Value.bool (!iltF b a)) = _
  rw [iltF_iff]; congr 2
  by_cases h : a ≤ b
  · have : ¬ b < a := by omega
    simp [h, this]
  · have : b < a := by omega
    simp [h, this]
theorem op_gtr {k : IntKind} {a b : Int} : intOpF .gtr k a b = .ok (.bool (decide (b < a))) := by
  show R.ok (Value.bool (iltF b a)) = _
  rw [iltF_iff]
theorem op_geq {k : IntKind} {a b : Int} : intOpF .geq k a b = .ok (.bool (decide (b ≤ a))) := by
  show R.ok (Value.bool (!iltF a b)) = _
  rw [iltF_iff]; congr 2
  by_cases h : b ≤ a
  · have : ¬ a < b := by omega
    simp [h, this]
  · have : a < b := by omega
    simp [h, this]
theorem op_lssI {k : IntKind} {a b : Int} : intOpF .lss k a b = .ok (.bool (decide (a < b))) := by
  show R.ok (Value.bool (iltF a b)) = _
  rw [iltF_iff]
theorem op_eqlI {k : IntKind} {a b : Int} : intOpF .eql k a b = .ok (.bool (decide (a = b))) := by
  show R.ok (Value.bool (ieqF a b)) = _
  rw [ieqF_iff]
theorem op_neqI {k : IntKind} {a b : Int} : intOpF .neq k a b = .ok (.bool (decide (a ≠ b))) := by
  show R.ok (Value.bool (!ieqF a b)) = _
  rw [ieqF_iff]; congr 2; by_cases h : a = b <;> simp [h]
theorem cast_le (a b : Nat) : ((a : Int) ≤ (b : Int)) = (a ≤ b) := by simp
theorem cast_lt (a b : Nat) : ((a : Int) < (b : Int)) = (a < b) := by simp
theorem cast_eq' (a b : Nat) : ((a : Int) = (b : Int)) = (a = b) := by apply propext; omega
theorem op_remI {k : IntKind} {a : Int} {b : Nat} (h : 0 < b) : intOpF .rem k a (b : Int) = .ok (.int k (a.tmod b)) := by
  obtain ⟨c, rfl⟩ : ∃ c, b = c + 1 := ⟨b - 1, by omega⟩
  cases a with
  | ofNat x => rfl
  | negSucc x => rfl
theorem op_subI {a b : Int} (h1 : -9223372036854775808 ≤ a - b) (h2 : a - b ≤ 9223372036854775807) : intOpF .sub .i64 a b = .ok (.int .i64 (a - b)) := by
  show R.ok (Value.int .i64 (wrapF .i64 (a - b))) = _
  rw [wrapF_eq, wrap_in h1 h2]
theorem min3_i64 {ts : List TypeId} {a b c : Nat} : builtinPF tb .min ts [.int .i64 (a : Int), .int .i64 (b : Int), .int .i64 (c : Int)] = .ok (.int .i64 ((min (min a b) c : Nat) : Int)) := by
  have e : builtinPF tb .min ts [.int .i64 (a : Int), .int .i64 (b : Int), .int .i64 (c : Int)] = (builtinPF tb .min ts [.int .i64 (a : Int), .int .i64 (b : Int)]).bind fun v => builtinPF tb .min ts [v, .int .i64 (c : Int)] := by
    cases ts <;> rfl
  rw [e, min_i64, R.ok_bind, min_i64]
theorem max_i64 {ts : List TypeId} {a b : Nat} : builtinPF tb .max ts [.int .i64 (a : Int), .int .i64 (b : Int)] = .ok (.int .i64 ((max a b : Nat) : Int)) := by
  have e : builtinPF tb .max ts [.int .i64 (a : Int), .int .i64 (b : Int)] = .ok (.int .i64 (bif Nat.blt a b then (b : Int) else (a : Int))) := by
    cases ts <;> rfl
  rw [e]
  cases h : Nat.blt a b with
  | true =>
    have : a < b := by simpa [Nat.blt_eq] using h
    rw [Nat.max_eq_right (by omega)]; rfl
  | false =>
    have : ¬ a < b := by intro hx; rw [← Nat.blt_eq, h] at hx; cases hx
    rw [Nat.max_eq_left (by omega)]; rfl
theorem un_not {p : Bool} : unF .not (.bool p) = .ok (.bool (!p)) := by cases p <;> rfl

/-! ### Rows of values, one cell each -/
def Vals (A : Mem) (e : TypeId) (b : Nat) (k : Kd) (l : List Value) : Prop := ∃ c, A.get b = some (.cells e k 0 c) ∧ ∀ i, i < l.length → c.get i = l[i]?
theorem vals_puts {A : Mem} {e : TypeId} {b : Nat} {k : Kd} {l : List Value} (h : A.get b = some (.cells e k 0 (T.puts .e 0 l))) : Vals A e b k l :=
  ⟨_, h, fun i hi => by rw [T.get_puts, Nat.zero_add, if_pos ⟨Nat.zero_le _, hi⟩, Nat.sub_zero]⟩
theorem Vals.same {A A' : Mem} {e : TypeId} {b : Nat} {k : Kd} {l : List Value} (h : Vals A e b k l) (hg : A'.get b = A.get b) : Vals A' e b k l := by
  obtain ⟨c, h1, h2⟩ := h
  exact ⟨c, hg.trans h1, h2⟩
theorem elemsF_vals {A : Mem} {e : TypeId} {b : Nat} {k : Kd} {l : List Value} (h : Vals A e b k l) : elemsF A.get 1 l.length (some ⟨b, 0, none⟩) = .ok l := by
  obtain ⟨c, h1, h2⟩ := h
  unfold elemsF
  simp only [Nat.mul_one]
  cases hn : Nat.beq l.length 0 with
  | true =>
    have : l = [] := List.length_eq_zero_iff.1 (Nat.eq_of_beq_eq_true hn)
    subst this; rfl
  | false =>
    have hg : c.gets l.length 0 = some l := gets_eq _ _ _ _ rfl fun j hj => by rw [Nat.zero_add]; exact h2 j hj
    simp only [cond_false, h1, hg]
theorem load_vals {A : Mem} {e t : TypeId} {d : TypeDesc} {b o : Nat} {k : Kd} {l : List Value} {v : Value} (hu : tb.und t = some d) (ha : isAggD d = false) (h : Vals A e b k l) (hv : l[o]? = some v) :
    loadF tb A.get t (.pointer (some ⟨b, o, none⟩)) = .ok v := by
  obtain ⟨c, h1, h2⟩ := h
  have ho : o < l.length := (List.getElem?_eq_some_iff.1 hv).1
  have hc := h2 o ho
  rw [hv] at hc
  unfold loadF
  simp only [h1, hu, ha, cond_false, hc]
theorem store_vals {A : Mem} {e t : TypeId} {b o : Nat} {k : Kd} {l : List Value} {v : Value} (hs : sizeF tb t = .ok 1) (h : Vals A e b k l) (ho : o < l.length) (hv : v.cells.toList = [v]) (h1c : oneCell v = true) :
    ∃ A', storeF tb A t (.pointer (some ⟨b, o, none⟩)) v = .ok A' ∧ Vals A' e b k (l.set o v) ∧ A'.next = A.next ∧ ∀ x, x ≠ b → A'.get x = A.get x := by
  obtain ⟨c, h1, h2⟩ := h
  have hc : c.get o = some l[o] := by rw [h2 o ho, List.getElem?_eq_getElem ho]
  have hst : storesF 0 [v] o c = .ok (c.set o v) := by
    unfold storesF
    have hb : (oneCell v && Nat.ble 0 o) = true := by rw [h1c]; simp
    rw [hb, cond_true, hc]
    rfl
  refine ⟨A.set b (.cells e k 0 (c.set o v)), ?_, ⟨_, by rw [get_setMem, if_pos rfl], fun i hi => ?_⟩, next_set _ _ _, fun x hx => by rw [get_setMem, if_neg hx]⟩
  · unfold storeF
    simp only [hs, R.ok_bind, hv]
    show (bif Nat.beq 1 1 then storeAtF A ⟨b, o, none⟩ [v] else .no 123) = _
    unfold storeAtF
    simp only [h1, hst, R.ok_bind]
    rfl
  · rw [List.length_set] at hi
    rw [T.get_set, List.getElem?_set]
    by_cases hio : i = o
    · subst hio
      rw [if_pos rfl, if_pos rfl, if_pos hi]
    · rw [if_neg hio, if_neg (fun x => hio x.symm), h2 i hi]

/-- A slice of such a row, whole; so that what is appended goes into a new one. -/
def Slc (A : Mem) (e : TypeId) (b : Nat) (l : List Value) (x : Value) : Prop :=
  (x = .slice none 0 0 ∧ l = []) ∨ ∃ k c, x = .slice (some ⟨b, 0, none⟩) l.length c ∧ b < A.next ∧ Vals A e b k l ∧ (c = 2 * l.length ∨ (c = mkX l.length 1 ∧ (k = .row ∨ k = .mark)))
theorem Slc.same {A A' : Mem} {e : TypeId} {b : Nat} {l : List Value} {x : Value} (h : Slc A e b l x) (hn : A.next ≤ A'.next) (hg : b < A.next → A'.get b = A.get b) : Slc A' e b l x := by
  rcases h with h | ⟨k, c, h1, h2, h3, h4⟩
  · exact .inl h
  · exact .inr ⟨k, c, h1, Nat.lt_of_lt_of_le h2 hn, h3.same (hg h2), h4⟩
theorem Slc.len {A : Mem} {e t t' : TypeId} {b : Nat} {l : List Value} {x : Value} (h : Slc A e b l x) (hu : tb.und t = some (.slice t')) : builtinPF tb .len [t] [x] = .ok (.int .i64 ((l.length : Nat) : Int)) := by
  rcases h with ⟨rfl, rfl⟩ | ⟨k, c, rfl, -⟩ <;> exact len_slc hu
theorem Slc.idx {A : Mem} {e t t' : TypeId} {b i : Nat} {kd : IntKind} {l : List Value} {x : Value} (h : Slc A e b l x) (hu : tb.und t = some (.slice t')) (hs : sizeF tb t' = .ok 1) (hi : i < l.length) :
    indexAddrF tb t x (.int kd (i : Int)) = .ok (.pointer (some ⟨b, i, none⟩)) := by
  rcases h with ⟨rfl, rfl⟩ | ⟨k, c, rfl, -⟩
  · simp at hi
  · rw [indexAddr_slc hu hs hi, Nat.zero_add]
theorem Slc.load {A : Mem} {e t : TypeId} {d : TypeDesc} {b o : Nat} {l : List Value} {x v : Value} (h : Slc A e b l x) (hu : tb.und t = some d) (ha : isAggD d = false) (hv : l[o]? = some v) :
    loadF tb A.get t (.pointer (some ⟨b, o, none⟩)) = .ok v := by
  rcases h with ⟨rfl, rfl⟩ | ⟨k, c, rfl, h2, h3, -⟩
  · simp at hv
  · exact load_vals hu ha h3 hv
theorem Slc.lt {A : Mem} {e : TypeId} {b : Nat} {l : List Value} {x : Value} (h : Slc A e b l x) (hl : 0 < l.length) : b < A.next := by
  rcases h with ⟨rfl, rfl⟩ | ⟨k, c, rfl, h2, -⟩
  · simp at hl
  · exact h2
theorem Slc.cells {A : Mem} {e : TypeId} {b : Nat} {l : List Value} {x : Value} (h : Slc A e b l x) : x.cells.toList = [x] := by
  rcases h with ⟨rfl, rfl⟩ | ⟨k, c, rfl, -⟩ <;> rfl
theorem Slc.one {A : Mem} {e : TypeId} {b : Nat} {l : List Value} {x : Value} (h : Slc A e b l x) : oneCell x = true := by
  rcases h with ⟨rfl, rfl⟩ | ⟨k, c, rfl, -⟩ <;> rfl
theorem cells_str (l : List UInt8) : (strOf l).cells.toList = [strOf l] := rfl
theorem cells_int (k : IntKind) (n : Int) : (Value.int k n).cells.toList = [.int k n] := rfl
theorem cells_slc (a : Option Addr) (n c : Nat) : (Value.slice a n c).cells.toList = [.slice a n c] := rfl
theorem cells_agg (l : List Value) : (Value.agg ⟨l⟩).cells.toList = l := rfl
theorem bool_neq {a b : Bool} : binF .neq (some .bool) (.bool a) (.bool b) = .ok (.bool (a != b)) := by cases a <;> cases b <;> rfl
theorem Slc.uniq {A : Mem} {e : TypeId} {b b' : Nat} {l l' : List Value} {x : Value} (h : Slc A e b l x) (h' : Slc A e b' l' x) : l = l' := by
  rcases h with ⟨rfl, rfl⟩ | ⟨k, c, rfl, -, ⟨cs, h1, h2⟩, -⟩ <;> rcases h' with ⟨he, hl⟩ | ⟨k', c', he, -, ⟨cs', h1', h2'⟩, -⟩
  · exact hl.symm
  · cases he
  · cases he
  · simp only [Value.slice.injEq, Option.some.injEq, Addr.mk.injEq] at he
    obtain ⟨⟨rfl, -, -⟩, hlen, -⟩ := he
    rw [h1] at h1'
    simp only [Option.some.injEq, Ob.cells.injEq] at h1'
    obtain ⟨-, -, -, rfl⟩ := h1'
    apply List.ext_getElem?
    intro i
    by_cases hi : i < l.length
    · rw [← h2 i hi, h2' i (by omega)]
    · rw [List.getElem?_eq_none (by omega), List.getElem?_eq_none (by omega)]
theorem cells_func (f : Fn) (a b : Array Value) : (Value.func f a b).cells.toList = [.func f a b] := rfl
theorem builtin_append (A : Mem) (st xt : TypeId) (s x : Value) : builtinLF tb A .append [st, xt] [s, x] = appendF tb A st xt s x := rfl
/-- What is stored in it. -/
theorem Slc.store {A : Mem} {e t : TypeId} {b o : Nat} {l : List Value} {x v : Value} (h : Slc A e b l x) (hs : sizeF tb t = .ok 1) (ho : o < l.length) (hv : v.cells.toList = [v]) (h1c : oneCell v = true) :
    ∃ A', storeF tb A t (.pointer (some ⟨b, o, none⟩)) v = .ok A' ∧ Slc A' e b (l.set o v) x ∧ A'.next = A.next ∧ ∀ y, y ≠ b → A'.get y = A.get y := by
  rcases h with ⟨rfl, rfl⟩ | ⟨k, c, rfl, h2, h3, h4⟩
  · simp at ho
  · obtain ⟨A', e1, e2, e3, e4⟩ := store_vals (tb := tb) (t := t) hs h3 ho hv h1c
    exact ⟨A', e1, .inr ⟨k, c, by rw [List.length_set], by omega, e2, by rw [List.length_set]; exact h4⟩, e3, e4⟩
/-- One more, behind it. -/
theorem Slc.append {A : Mem} {st xt e : TypeId} {i : TypeInfo} {z v : Value} {b b2 : Nat} {l : List Value} {x : Value} (h : Slc A e b l x) (hst : tb.und st = some (.slice e)) (hxt : tb.und xt = some (.slice e)) (hz : zcellsF tb e = .ok (1, [z])) (hi : tb.ty.get e = some i) (hib : 0 < i.bytes) (hib' : i.bytes ≤ 65536)
    (hl : l.length < 16777216) (hb2 : A.get b2 = some (rowOb e [v])) (h1c : oneCell v = true) :
    ∃ x' A', appendF tb A st xt x (.slice (some ⟨b2, 0, none⟩) 1 2) = .ok (x', A') ∧ Slc A' e A.next (l ++ [v]) x' ∧ A'.next = A.next + 1 ∧ ∀ y, y ≠ b → y < A.next → A'.get y = A.get y := by
  have he1 : (1 : Nat) < 65536 := by omega
  have hnew : firstF A.get 1 1 (.slice (some ⟨b2, 0, none⟩) 1 2) = .ok [v] := elemsF_vals (l := [v]) (vals_puts (e := e) (k := .var 1) hb2)
  have hlim : (Nat.ble (l.length + 1) 16777216 && Nat.ble i.bytes 65536 && Nat.blt 0 i.bytes && Nat.blt 0 1 && Nat.blt 1 65536) = true := by
    have a1 : Nat.ble (l.length + 1) 16777216 = true := Nat.ble_eq_true_of_le (by omega)
    have a2 : Nat.ble i.bytes 65536 = true := Nat.ble_eq_true_of_le hib'
    have a3 : Nat.blt 0 i.bytes = true := by rw [Nat.blt_eq]; exact hib
    rw [a1, a2, a3]; rfl
  have fin : ∀ (k' : Kd) (A0 : Mem), A0.next = A.next → (∀ y, y ≠ b → A0.get y = A.get y) → (k' = .row ∨ k' = .mark) →
      Slc (A0.alloc (.cells e k' 0 (T.puts .e 0 (l ++ [v])))) e A.next (l ++ [v]) (.slice (some ⟨A.next, 0, none⟩) (l.length + 1) (mkX (l.length + 1) 1)) ∧ (A0.alloc (.cells e k' 0 (T.puts .e 0 (l ++ [v])))).next = A.next + 1 ∧ ∀ y, y ≠ b → y < A.next → (A0.alloc (.cells e k' 0 (T.puts .e 0 (l ++ [v])))).get y = A.get y := by
    intro k' A0 hn hg hk'
    refine ⟨.inr ⟨k', _, by rw [List.length_append]; rfl, by rw [next_alloc]; omega, vals_puts ?_, .inr ⟨by rw [List.length_append]; rfl, hk'⟩⟩, by rw [next_alloc, hn], fun y hy hlt => ?_⟩
    · rw [← hn]; exact get_alloc_self _ _
    · rw [get_alloc_ne (by omega), hg y hy]
  rcases h with ⟨rfl, rfl⟩ | ⟨k, c, rfl, h2, h3, h4⟩
  · refine ⟨.slice (some ⟨A.next, 0, none⟩) 1 (mkX 1 1), A.alloc (.cells e .row 0 (T.puts .e 0 [v])), ?_, ?_⟩
    · unfold appendF appendG
      have hble : Nat.ble (0 + 1) (capN 0) = false := rfl
      have hx : capX 0 = true := rfl
      have hel : elemsF A.get 1 0 none = .ok [] := rfl
      simp only [hst, hxt, isIntD, cond_false, hz, R.ok_bind, lenF, hnew, hble, hi]
      simp only [List.length_nil, Nat.zero_add] at hlim
      simp only [Nat.zero_add, hlim, cond_true, hel, R.ok_bind, hx, List.nil_append]
    · exact fin .row A rfl (fun _ _ => rfl) (.inl rfl)
  · obtain ⟨cs, hb', hcs⟩ := h3
    have hel : elemsF A.get 1 l.length (some ⟨b, 0, none⟩) = .ok l := elemsF_vals ⟨cs, hb', hcs⟩
    rcases h4 with rfl | ⟨rfl, hk⟩
    · have hx : capX (2 * l.length) = true := by show Nat.beq (2 * l.length % 2) 0 = true; rw [Nat.mul_mod_right]; rfl
      have hcn : capN (2 * l.length) = l.length := by unfold capN; rw [hx, cond_true]; show 2 * l.length / 2 = l.length; omega
      have hble : Nat.ble (l.length + 1) (capN (2 * l.length)) = false := by
        rw [hcn]
        cases hq : Nat.ble (l.length + 1) l.length with
        | false => rfl
        | true => have := Nat.le_of_ble_eq_true hq; omega
      refine ⟨_, A.alloc (.cells e .row 0 (T.puts .e 0 (l ++ [v]))), ?_, fin .row A rfl (fun _ _ => rfl) (.inl rfl)⟩
      unfold appendF appendG
      simp only [hst, hxt, isIntD, cond_false, hz, R.ok_bind, lenF, hnew, hble, hi, hlim, cond_true, hel, hx]
    · have hble : Nat.ble (l.length + 1) (capN (mkX l.length 1)) = false := by
        rw [capN_mkX he1]
        cases hq : Nat.ble (l.length + 1) l.length with
        | false => rfl
        | true => have := Nat.le_of_ble_eq_true hq; omega
      have hx : capX (mkX l.length 1) = false := capX_mkX _ _
      have he : Nat.beq (capE (mkX l.length 1)) 1 = true := by rw [capE_mkX he1]; rfl
      have hfz : (Nat.ble 0 (0 + l.length * 1) && (Nat.beq e e && Nat.blt 0 9223372036854775808)) = true := by
        have h0 : Nat.blt 0 9223372036854775808 = true := by rw [Nat.blt_eq]; omega
        rw [h0]; simp
      refine ⟨_, (A.set b .dead).alloc (.cells e k 0 (T.puts .e 0 (l ++ [v]))), ?_, fin k (A.set b .dead) (next_set _ _ _) (fun y hy => by rw [get_setMem, if_neg hy]) hk⟩
      unfold appendF appendG
      simp only [hst, hxt, isIntD, cond_false, hz, R.ok_bind, lenF, hnew, hble, hi, hlim, cond_true, hel, hx, he, List.all_cons, List.all_nil, h1c, Bool.and_true, hb', hfz]
      rcases hk with rfl | rfl <;> rfl

/-! ### A variable in memory, of one cell -/
theorem vals_box {A : Mem} {e : TypeId} {b : Nat} {v : Value} (h : A.get b = some (rowOb e [v])) : Vals A e b (.var 1) [v] := vals_puts h
theorem load_box {A : Mem} {e t : TypeId} {d : TypeDesc} {b : Nat} {k : Kd} {v : Value} (hu : tb.und t = some d) (ha : isAggD d = false) (h : Vals A e b k [v]) : loadF tb A.get t (.pointer (some ⟨b, 0, none⟩)) = .ok v := load_vals hu ha h rfl
theorem store_box {A : Mem} {e t : TypeId} {b : Nat} {k : Kd} {v w : Value} (hs : sizeF tb t = .ok 1) (h : Vals A e b k [v]) (hv : w.cells.toList = [w]) (h1c : oneCell w = true) :
    ∃ A', storeF tb A t (.pointer (some ⟨b, 0, none⟩)) w = .ok A' ∧ Vals A' e b k [w] ∧ A'.next = A.next ∧ ∀ x, x ≠ b → A'.get x = A.get x := store_vals hs h (by simp) hv h1c

/-! ### An open order in which readers float -/
noncomputable def drawIs (tb : Tab) (ops : List Oper) (fl : List (Nat × Nat)) : Bool :=
  match drawInfo tb ops with
  | .ok l => decide (l = fl)
  | _ => false
theorem exec_float {n id : Nat} {ops : Array Oper} {s : St} (fl : List (Nat × Nat)) (h : drawIs tb ops.toList fl = true) : exec tb (n + 1) (.region id ops true) s = (runD tb (exec tb n) ops.toList fl ops.toList 0 [] [] [] s).bind fun (e, s) => match e with
    | .nrm => .ok (.nrm, s)
    | _ => .no 312 := by
  have h' : drawInfo tb ops.toList = .ok fl := by
    unfold drawIs at h
    split at h
    · rename_i l hl; rw [hl, of_decide_eq_true h]
    · cases h
  show ((drawInfo tb ops.toList).bind fun fl => (runD tb (exec tb n) ops.toList fl ops.toList 0 [] [] [] s).bind fun (e, s) => _) = _
  rw [h']
  rfl
section
variable {ops l : List Oper} {fl : List (Nat × Nat)} {dst : Option Tmp} {op : Op} {ty : TypeId} {pos : String} {after : Array Edge} {i : Nat} {mems : List (Nat × Mem)} {recs : List Rec} {mks : List (Nat × Nat)} {s : St}
theorem runD_end : runD tb ih ops fl [] i mems recs mks s = .ok (.nrm, s) := rfl
theorem runD_cons : runD tb ih ops fl ({ dst, op, type := ty, pos, after, guard := none } :: l) i mems recs mks s = match cls tb op with
        | .L => opF tb ih { dst, op, type := ty, pos, after, guard := none } { s with m := hideF ((mks.filter fun x => pairIn x.1 i fl).map (·.2)) s.m } fun s' =>
          (backF s.m.get ((mks.filter fun x => pairIn x.1 i fl).map (·.2)) s'.m).bind fun A =>
          bif (recs.filter fun x => pairIn x.i i fl).all (reread tb A.get) then runD tb ih ops fl l (i + 1) ((i, s.m) :: mems) recs mks { s' with m := A } else .no 310
        | .Rd => (rOp tb s.t s.m.get op).bind fun v =>
          bif (mems.filter fun m => pairIn i m.1 fl).all (fun m => reread tb m.2.get ⟨i, s.t, op, v⟩) then putT s dst v (runD tb ih ops fl l (i + 1) mems (⟨i, s.t, op, v⟩ :: recs) mks) else .no 311
        | .Al => opF tb ih { dst, op, type := ty, pos, after, guard := none } s (runD tb ih ops fl l (i + 1) mems recs ((i, s.m.next) :: mks))
        | .P => opF tb ih { dst, op, type := ty, pos, after, guard := none } s (runD tb ih ops fl l (i + 1) mems recs mks) := rfl
theorem runD_P (h : cls tb op = .P) : runD tb ih ops fl ({ dst, op, type := ty, pos, after, guard := none } :: l) i mems recs mks s = opF tb ih { dst, op, type := ty, pos, after, guard := none } s (runD tb ih ops fl l (i + 1) mems recs mks) := by
  rw [runD_cons, h]
theorem runD_Al (h : cls tb op = .Al) : runD tb ih ops fl ({ dst, op, type := ty, pos, after, guard := none } :: l) i mems recs mks s = opF tb ih { dst, op, type := ty, pos, after, guard := none } s (runD tb ih ops fl l (i + 1) mems recs ((i, s.m.next) :: mks)) := by
  rw [runD_cons, h]
/-- Those of some rows that float with a place. -/
def selF {α : Type} (p : Nat → Bool) : List (Nat × α) → List (Nat × α)
  | [] => []
  | x :: l => bif p x.1 then x :: selF p l else selF p l
theorem selF_nil {α : Type} (p : Nat → Bool) : selF p ([] : List (Nat × α)) = [] := rfl
theorem selF_yes {α : Type} {p : Nat → Bool} {j : Nat} {a : α} {l : List (Nat × α)} (h : p j = true) : selF p ((j, a) :: l) = (j, a) :: selF p l := by simp [selF, h]
theorem selF_no {α : Type} {p : Nat → Bool} {j : Nat} {a : α} {l : List (Nat × α)} (h : p j = false) : selF p ((j, a) :: l) = selF p l := by simp [selF, h]
theorem selF_eq {α : Type} (p : Nat → Bool) (l : List (Nat × α)) : (l.filter fun x => p x.1) = selF p l := by
  induction l with
  | nil => rfl
  | cons x l ih =>
    unfold selF
    cases h : p x.1 <;> simp [h, ih]
def selR (p : Nat → Bool) : List Rec → List Rec
  | [] => []
  | x :: l => bif p x.i then x :: selR p l else selR p l
theorem selR_nil (p : Nat → Bool) : selR p [] = [] := rfl
theorem selR_yes {p : Nat → Bool} {j : Nat} {t : T Value} {o : Op} {v : Value} {l : List Rec} (h : p j = true) : selR p (⟨j, t, o, v⟩ :: l) = ⟨j, t, o, v⟩ :: selR p l := by simp [selR, h]
theorem selR_no {p : Nat → Bool} {j : Nat} {t : T Value} {o : Op} {v : Value} {l : List Rec} (h : p j = false) : selR p (⟨j, t, o, v⟩ :: l) = selR p l := by simp [selR, h]
theorem selR_eq (p : Nat → Bool) (l : List Rec) : (l.filter fun x => p x.i) = selR p l := by
  induction l with
  | nil => rfl
  | cons x l ih =>
    unfold selR
    cases h : p x.i <;> simp [h, ih]
noncomputable def rereadM (tb : Tab) (x : Rec) : List (Nat × Mem) → Bool
  | [] => true
  | m :: l => reread tb m.2.get x && rereadM tb x l
theorem rereadM_nil (x : Rec) : rereadM tb x [] = true := rfl
theorem rereadM_cons (x : Rec) (j : Nat) (A : Mem) (l : List (Nat × Mem)) : rereadM tb x ((j, A) :: l) = (reread tb A.get x && rereadM tb x l) := rfl
theorem rereadM_eq (x : Rec) (l : List (Nat × Mem)) : (l.all fun m => reread tb m.2.get x) = rereadM tb x l := by
  induction l with
  | nil => rfl
  | cons m l ih => simp [rereadM, ih]
noncomputable def rereadR (tb : Tab) (g : Nat → Option Ob) : List Rec → Bool
  | [] => true
  | m :: l => reread tb g m && rereadR tb g l
theorem rereadR_nil (g : Nat → Option Ob) : rereadR tb g [] = true := rfl
theorem rereadR_cons (g : Nat → Option Ob) (x : Rec) (l : List Rec) : rereadR tb g (x :: l) = (reread tb g x && rereadR tb g l) := rfl
theorem rereadR_eq (g : Nat → Option Ob) (l : List Rec) : (l.all (reread tb g)) = rereadR tb g l := by
  induction l with
  | nil => rfl
  | cons m l ih => simp [rereadR, ih]
noncomputable def rereadV (x : R Value) (v : Value) : Bool :=
  match x with
  | .ok v' => sameV 100 v' v
  | .no _ => false
theorem reread_load (g : Nat → Option Ob) (j : Nat) (t : T Value) (e : TypeId) (x : Operand) (v : Value) : reread tb g ⟨j, t, .load e x, v⟩ = rereadV ((ev t x).bind fun x => loadF tb g e x) v := rfl
theorem sameV_slc (b o n c : Nat) : sameV 100 (.slice (some ⟨b, o, none⟩) n c) (.slice (some ⟨b, o, none⟩) n c) = true := by simp [sameV, sameA, sameN]
theorem sameV_int (k : IntKind) (n : Nat) (h : kindEq k k = true) : sameV 100 (.int k (n : Int)) (.int k (n : Int)) = true := by
  have : ieqF (n : Int) (n : Int) = true := by rw [ieqF_iff]; simp
  simp [sameV, h, this]
theorem rereadV_ok (v : Value) (h : sameV 100 v v = true) : rereadV (.ok v) v = true := h
theorem rereadV_eq (v w : Value) : rereadV (.ok v) w = sameV 100 v w := rfl
theorem Slc.self {A : Mem} {e : TypeId} {b : Nat} {l : List Value} {x : Value} (h : Slc A e b l x) : sameV 100 x x = true := by
  rcases h with ⟨rfl, -⟩ | ⟨k, c, rfl, -⟩
  · rfl
  · exact sameV_slc _ _ _ _
theorem runD_Rd (h : cls tb op = .Rd) : runD tb ih ops fl ({ dst, op, type := ty, pos, after, guard := none } :: l) i mems recs mks s = (rOp tb s.t s.m.get op).bind fun v =>
    bif rereadM tb ⟨i, s.t, op, v⟩ (selF (fun j => pairIn i j fl) mems) then putT s dst v (runD tb ih ops fl l (i + 1) mems (⟨i, s.t, op, v⟩ :: recs) mks) else .no 311 := by
  rw [runD_cons, h]
  simp only [selF_eq (fun j => pairIn i j fl) mems, rereadM_eq]
theorem runD_L (h : cls tb op = .L) : runD tb ih ops fl ({ dst, op, type := ty, pos, after, guard := none } :: l) i mems recs mks s =
    opF tb ih { dst, op, type := ty, pos, after, guard := none } { s with m := hideF ((selF (fun j => pairIn j i fl) mks).map (·.2)) s.m } fun s' =>
      (backF s.m.get ((selF (fun j => pairIn j i fl) mks).map (·.2)) s'.m).bind fun A =>
      bif rereadR tb A.get (selR (fun j => pairIn j i fl) recs) then runD tb ih ops fl l (i + 1) ((i, s.m) :: mems) recs mks { s' with m := A } else .no 310 := by
  rw [runD_cons, h]
  simp only [selF_eq (fun j => pairIn j i fl) mks, selR_eq (fun j => pairIn j i fl) recs, rereadR_eq]
theorem runD_gno {j : Nat} {want : Bool} (h : wantF ops { dst, op, type := ty, pos, after, guard := some (j, want) } s.t = .ok false) : runD tb ih ops fl ({ dst, op, type := ty, pos, after, guard := some (j, want) } :: l) i mems recs mks s = putT s dst unitV (runD tb ih ops fl l (i + 1) mems recs mks) := by
  show ((wantF ops { dst, op, type := ty, pos, after, guard := some (j, want) } s.t).bind fun w => bif w then _ else putT s dst unitV (runD tb ih ops fl l (i + 1) mems recs mks)) = _
  rw [h]; rfl
theorem runD_yes {j : Nat} {want : Bool} (h : wantF ops { dst, op, type := ty, pos, after, guard := some (j, want) } s.t = .ok true) : runD tb ih ops fl ({ dst, op, type := ty, pos, after, guard := some (j, want) } :: l) i mems recs mks s = match cls tb op with
        | .L => opF tb ih { dst, op, type := ty, pos, after, guard := some (j, want) } { s with m := hideF ((mks.filter fun x => pairIn x.1 i fl).map (·.2)) s.m } fun s' =>
          (backF s.m.get ((mks.filter fun x => pairIn x.1 i fl).map (·.2)) s'.m).bind fun A =>
          bif (recs.filter fun x => pairIn x.i i fl).all (reread tb A.get) then runD tb ih ops fl l (i + 1) ((i, s.m) :: mems) recs mks { s' with m := A } else .no 310
        | .Rd => (rOp tb s.t s.m.get op).bind fun v =>
          bif (mems.filter fun m => pairIn i m.1 fl).all (fun m => reread tb m.2.get ⟨i, s.t, op, v⟩) then putT s dst v (runD tb ih ops fl l (i + 1) mems (⟨i, s.t, op, v⟩ :: recs) mks) else .no 311
        | .Al => opF tb ih { dst, op, type := ty, pos, after, guard := some (j, want) } s (runD tb ih ops fl l (i + 1) mems recs ((i, s.m.next) :: mks))
        | .P => opF tb ih { dst, op, type := ty, pos, after, guard := some (j, want) } s (runD tb ih ops fl l (i + 1) mems recs mks) := by
  show ((wantF ops { dst, op, type := ty, pos, after, guard := some (j, want) } s.t).bind fun w => bif w then _ else _) = _
  rw [h]; rfl
section
variable {j : Nat} {want : Bool} (hw : wantF ops { dst, op, type := ty, pos, after, guard := some (j, want) } s.t = .ok true)
include hw
theorem runD_gP (h : cls tb op = .P) : runD tb ih ops fl ({ dst, op, type := ty, pos, after, guard := some (j, want) } :: l) i mems recs mks s = opF tb ih { dst, op, type := ty, pos, after, guard := some (j, want) } s (runD tb ih ops fl l (i + 1) mems recs mks) := by
  rw [runD_yes hw, h]
theorem runD_gAl (h : cls tb op = .Al) : runD tb ih ops fl ({ dst, op, type := ty, pos, after, guard := some (j, want) } :: l) i mems recs mks s = opF tb ih { dst, op, type := ty, pos, after, guard := some (j, want) } s (runD tb ih ops fl l (i + 1) mems recs ((i, s.m.next) :: mks)) := by
  rw [runD_yes hw, h]
theorem runD_gRd (h : cls tb op = .Rd) : runD tb ih ops fl ({ dst, op, type := ty, pos, after, guard := some (j, want) } :: l) i mems recs mks s = (rOp tb s.t s.m.get op).bind fun v =>
    bif rereadM tb ⟨i, s.t, op, v⟩ (selF (fun j => pairIn i j fl) mems) then putT s dst v (runD tb ih ops fl l (i + 1) mems (⟨i, s.t, op, v⟩ :: recs) mks) else .no 311 := by
  rw [runD_yes hw, h]
  simp only [selF_eq (fun j => pairIn i j fl) mems, rereadM_eq]
theorem runD_gL (h : cls tb op = .L) : runD tb ih ops fl ({ dst, op, type := ty, pos, after, guard := some (j, want) } :: l) i mems recs mks s =
    opF tb ih { dst, op, type := ty, pos, after, guard := some (j, want) } { s with m := hideF ((selF (fun j => pairIn j i fl) mks).map (·.2)) s.m } fun s' =>
      (backF s.m.get ((selF (fun j => pairIn j i fl) mks).map (·.2)) s'.m).bind fun A =>
      bif rereadR tb A.get (selR (fun j => pairIn j i fl) recs) then runD tb ih ops fl l (i + 1) ((i, s.m) :: mems) recs mks { s' with m := A } else .no 310 := by
  rw [runD_yes hw, h]
  simp only [selF_eq (fun j => pairIn j i fl) mks, selR_eq (fun j => pairIn j i fl) recs, rereadR_eq]
end
theorem sameV_str (l : List UInt8) : sameV 100 (strOf l) (strOf l) = true := by
  show bytesEq l l = true
  rw [bytesEq_eq]; simp
theorem backF_nil (g : Nat → Option Ob) (A : Mem) : backF g [] A = .ok A := rfl
theorem rOp_load (t : T Value) (g : Nat → Option Ob) (e : TypeId) (x : Operand) : rOp tb t g (.load e x) = (ev t x).bind fun x => loadF tb g e x := rfl
end

end Go.Am

/-
  The abstract machine AM, part 51: loops over functions.
-/
namespace Go.Am
variable {tb : Tab}

theorem exec_rangeFunc (n : Nat) (f : Operand) (ps : Array Tmp) (a b : Code) (s : St) : exec tb (n + 1) (.rangeFunc f ps a b) s = rangeFuncF tb (exec tb n) f ps.toList a b 0 s := rfl
/-- The block of a loop over a function, as it begins. -/
def loop0 (t : T Value) (n : Nat) (ps : List Tmp) (a b : Code) (d : Nat) : ALoop := { state := .ready, pending := none, fn := 0, tmps := t, n := n, params := ps, assign := a, body := b, defers := d }
/-- A loop over a function whose rounds all go on. -/
theorem W.rangeF {f : Operand} {ps : Array Tmp} {a b : Code} {t : T Value} {n : Nat} {A A' : Mem} {K : Ex → St → Prop} {fid : FuncId} {first capt : List Value} {v : Value} {r : ALoop}
    (hf : ev t f = .ok (.func (.func fid) ⟨first⟩ ⟨capt⟩))
    (hc : Ans tb fid (first ++ [.func (.yield (A.next + 1)) ⟨[]⟩ ⟨[]⟩] ++ capt) ((A.alloc .defd).alloc (.loop (loop0 t n ps.toList a b A.next))) v A')
    (hr : A'.get (A.next + 1) = some (.loop r)) (hst : r.state ≠ .busy) (hp : r.pending = none)
    (k : K .nrm ⟨t, n, [A.next], A'.set (A.next + 1) (.loop { r with state := .exhausted }), none⟩) : W tb (.rangeFunc f ps a b) ⟨t, n, [], A, none⟩ K := by
  obtain ⟨g, hg⟩ := hc
  refine ⟨_, _, ⟨g + 1, fun m => ?_⟩, k⟩
  rw [show m + (g + 1) = (m + g) + 1 by omega, exec_rangeFunc]
  have h1 := hg (m + g) (by omega)
  unfold rangeFuncF
  simp only [hf, R.ok_bind]
  have hn : (A.alloc .defd).next = A.next + 1 := next_alloc _ _
  rw [hn]
  have hcal : ∀ g' : Nat → Option Ob, calleeF tb g' (.func (.func fid) ⟨first⟩ ⟨capt⟩) [.func (.yield (A.next + 1)) ⟨[]⟩ ⟨[]⟩] = .ok (.fn fid (first ++ [.func (.yield (A.next + 1)) ⟨[]⟩ ⟨[]⟩] ++ capt)) := fun _ => rfl
  rw [hcal, R.ok_bind]
  unfold loop0 at h1
  rw [h1, R.ok_bind]
  simp only [hr, hp]
  cases hs : r.state with
  | busy => exact absurd hs hst
  | _ => rfl
/-- A round of a loop over a function, that goes on. -/
theorem round_of_W {l : Nat} {args : List Value} {A : Mem} {r : ALoop} {t : T Value} {Q : Mem → Prop} (hl : A.get l = some (.loop r)) (ht : setArgs r.n r.params args r.tmps = .ok t)
    (h : W tb r.assign ⟨t, r.n, [], A, some l⟩ fun e s1 => e = .nrm ∧ ∃ r1, s1.m.get l = some (.loop r1) ∧ r1.state = .ready ∧ W tb r.body ⟨s1.t, s1.n, s1.d, s1.m.set l (.loop { r1 with state := .busy }), s1.ro⟩ fun e s2 => e = .nrm ∧ s2.d = [] ∧ ∃ r2, s2.m.get l = some (.loop r2) ∧ Q (s2.m.set l (.loop { r2 with state := .ready, pending := none }))) :
    ∃ A', (∃ g, ∀ M, g ≤ M → callF tb (exec tb M) (.round l args) A = .ok (.val (.bool true) A')) ∧ Q A' := by
  obtain ⟨e, s1, ⟨f1, h1⟩, rfl, r1, hr1, hst1, e2, s2, ⟨f2, h2⟩, rfl, hd, r2, hr2, hQ⟩ := h
  refine ⟨_, ⟨f1 + f2, fun M hM => ?_⟩, hQ⟩
  show roundF (exec tb M) l args A = _
  unfold roundF
  have e1 := h1 (M - f1)
  rw [Nat.sub_add_cancel (by omega)] at e1
  have e2 := h2 (M - f2)
  rw [Nat.sub_add_cancel (by omega)] at e2
  simp only [hl, ht, R.ok_bind, e1, hr1, hst1, e2, hd, hr2]

end Go.Am

/-
  The abstract machine AM, part 52: a slice of integers among the arguments of a law, that is read only.
-/
namespace Go.Am
variable {tb : Tab} (ok : TabOk tb)

/-- A slice that came in: nil; or it leads to a row that may not be written. -/
def ParS (A : Mem) (l : List Value) (x : Value) : Prop :=
  (x = .slice none 0 0 ∧ l = []) ∨ (x = .slice (some ⟨0, 0, none⟩) l.length (mkX l.length 1) ∧ 0 < A.next ∧ (l = [] ∨ ∃ t fz, A.get 0 = some (.cells t .row fz (T.puts .e 0 l))))
theorem ParS.same {A A' : Mem} {l : List Value} {x : Value} (h : ParS A l x) (hn : A.next ≤ A'.next) (hg : 0 < A.next → A'.get 0 = A.get 0) : ParS A' l x := by
  rcases h with h | ⟨h1, h2, h3⟩
  · exact .inl h
  · refine .inr ⟨h1, by omega, ?_⟩
    rcases h3 with h3 | ⟨t, fz, h3⟩
    · exact .inl h3
    · exact .inr ⟨t, fz, (hg h2).trans h3⟩
theorem ParS.len {A : Mem} {l : List Value} {x : Value} (h : ParS A l x) {t e : TypeId} (hu : tb.und t = some (.slice e)) : builtinPF tb .len [t] [x] = .ok (.int .i64 ((l.length : Nat) : Int)) := by
  rcases h with ⟨rfl, rfl⟩ | ⟨rfl, -⟩ <;> exact len_slc hu
theorem ParS.idx {A : Mem} {l : List Value} {x : Value} (h : ParS A l x) {t e : TypeId} {i : Nat} {kd : IntKind} (hu : tb.und t = some (.slice e)) (hs : sizeF tb e = .ok 1) (hi : i < l.length) :
    indexAddrF tb t x (.int kd (i : Int)) = .ok (.pointer (some ⟨0, i, none⟩)) := by
  rcases h with ⟨rfl, rfl⟩ | ⟨rfl, -⟩
  · simp at hi
  · rw [indexAddr_slc hu hs hi, Nat.zero_add]
theorem ParS.load {A : Mem} {l : List Value} {x v : Value} (h : ParS A l x) {t : TypeId} {d : TypeDesc} {o : Nat} (hu : tb.und t = some d) (ha : isAggD d = false) (hv : l[o]? = some v) : loadF tb A.get t (.pointer (some ⟨0, o, none⟩)) = .ok v := by
  have ho : o < l.length := (List.getElem?_eq_some_iff.1 hv).1
  rcases h with ⟨rfl, rfl⟩ | ⟨rfl, -, rfl | ⟨t2, fz, h3⟩⟩
  · simp at ho
  · simp at ho
  · have hc : (T.puts .e 0 l).get o = some v := by rw [T.get_puts, if_pos (by omega), Nat.sub_zero]; exact hv
    unfold loadF
    simp only [h3, hu, ha, cond_false, hc]

/-- A slice of integers in the model. -/
def ParW (k : IntKind) (w : World) (a : Option Addr) (len cap : Nat) (zs : List Int) : Prop :=
  (a = none ∧ len = 0 ∧ cap = 0 ∧ zs = []) ∨
  ∃ x, a = some x ∧ x.spot = none ∧ x.block < w.heap.size ∧ len ≤ cap ∧ cap < 2 ^ 63 ∧ zs.length = cap ∧ ∀ i, i < zs.length → w.cell? (x.add i) = some (.int k (zs.getD i 0))

theorem VRs.app {ι : Inj} : ∀ {l l' m m' : List Value}, VRs ι l l' → VRs ι m m' → VRs ι (l ++ m) (l' ++ m')
  | _, _, _, _, .nil, h => h
  | _, _, _, _, .cons h t, k => .cons h (VRs.app t k)

include ok in
/-- A call on memory: all blocks of the world stay but those of live blocks that are no still ones. -/
theorem call_still {n : Nat} {f : FuncId} {args : List Value} {v : Value} {A A' : Mem} (h : call tb n f args A = .ok (.val v A')) {fn : Func} {c : Code} (hf : tb.fn.get f = some fn) (hb : fn.body = some c) (args' : Array Value) (w : World) {ι : Inj} (hr : Rel ι A w)
    (ha : VRs ι args args'.toList) (hfree : ∀ b, A.next ≤ b → ι b = none) (hst : ∀ b l, live A b → ι b = some l → Still A b l) : Calls tb.P f args' w fun e w' => ∃ ι' v', e = .returned v' ∧ VR ι' v v' ∧ Leaves w w' := by
  intro cs
  unfold call at h
  simp only [hf, hb] at h
  rcases fn_sound ok (exec_sound ok n) hf hb h with ⟨_, _, h1, _⟩ | ⟨v, A', h1, hle, hs⟩
  · cases h1
  · cases h1
    obtain ⟨ι', w', v', ⟨fr0, st, hfn, hlv⟩, hv, hrel, hstp⟩ := hs ι w args' cs hr ha (fun b h1 _ => hfree b h1)
    refine ⟨.returned v', w', fr0, ⟨ι', v', rfl, hv, fun c hc => ?_, hstp.size, hstp.os, hstp.tape, hstp.output⟩, st, hfn, hlv⟩
    by_cases hx : ∃ b l, live A b ∧ ι b = some l ∧ l.blk = c
    · obtain ⟨b, l, h1, h2, rfl⟩ := hx
      exact (hstp.kept b l h2 (hst b l h1 h2)).2
    · exact hstp.fr c hc fun b l h1 h2 h3 => hx ⟨b, l, h1, h2, h3⟩

include ok in
/-- A law that answers true on the abstract machine, whatever row it was given. -/
theorem par_true {k : IntKind} {w : World} {a : Option Addr} {len cap : Nat} {zs : List Int} (h : ParW k w a len cap zs) {f : FuncId} {fn : Func} {c : Code} (hf : tb.fn.get f = some fn) (hb : fn.body = some c) {pre post pre' post' : List Value}
    (hpre : ∀ ι, VRs ι pre pre') (hpost : ∀ ι, VRs ι post post') (hlaw : ∀ A x, A.next = 1 → (∀ b, A.next ≤ b → A.get b = none) → ParS A ((zs.take len).map (.int k)) x → ∃ A', CallsTo tb f (pre ++ [x] ++ post) A (.bool true) A') :
    Calls tb.P f (pre' ++ [Value.slice a len cap] ++ post').toArray w fun e w' => e = .returned (.bool true) ∧ Leaves w w' := by
  have fin : ∀ {A : Mem} {x : Value} {ι : Inj}, A.next = 1 → ParS A ((zs.take len).map (.int k)) x → Rel ι A w → VR ι x (.slice a len cap) → (∀ b, A.next ≤ b → ι b = none) → (∀ b l, live A b → ι b = some l → Still A b l) →
      Calls tb.P f (pre' ++ [Value.slice a len cap] ++ post').toArray w fun e w' => e = .returned (.bool true) ∧ Leaves w w' := by
    intro A x ι hn hp hr hx hfree hst cs
    obtain ⟨A', n, hc⟩ := hlaw A x hn hr.wf hp
    obtain ⟨e, w', fr, ⟨ι', v', he, hv, hl⟩, st⟩ := call_still ok hc hf hb (pre' ++ [Value.slice a len cap] ++ post').toArray w hr (by
      show VRs ι (pre ++ [x] ++ post) (pre' ++ [Value.slice a len cap] ++ post')
      exact ((hpre ι).app (.cons hx .nil)).app (hpost ι)) hfree hst cs
    cases hv
    exact ⟨e, w', fr, ⟨he, hl⟩, st⟩
  rcases h with ⟨rfl, rfl, rfl, rfl⟩ | ⟨x, rfl, hsp, hblk, hlc, hcap, hz, hcell⟩
  · exact fin (A := ⟨.e, 1⟩) (x := .slice none 0 0) (ι := fun _ => none) rfl (.inl ⟨rfl, rfl⟩) ⟨fun _ _ => rfl, (fun _ _ _ h => by cases h), (fun _ _ h => by cases h), (fun _ _ _ _ h => by obtain ⟨_, h, _⟩ := h; cases h)⟩ .slN (fun _ _ => rfl) (fun b l hl => by obtain ⟨_, h, _⟩ := hl; cases h)
  · obtain ⟨xb, xo, xs⟩ := x
    simp only at hsp hblk
    subst hsp
    by_cases h0 : len = 0
    · subst h0
      refine fin (A := ⟨.e, 1⟩) (x := .slice (some ⟨0, 0, none⟩) 0 (mkX 0 1)) (ι := fun b => if b = 0 then some ⟨xb, xo, xo + cap⟩ else none) rfl (.inr ⟨rfl, Nat.zero_lt_one, .inl rfl⟩) ⟨fun _ _ => rfl, (fun _ _ _ h => by cases h), (fun b l hl => ?_), (fun _ _ _ _ h => by obtain ⟨_, h, _⟩ := h; cases h)⟩ ?_ (fun b hb => ?_) (fun b l hl => by obtain ⟨_, h, _⟩ := hl; cases h)
      · by_cases e : b = 0
        · simp only [e, if_true] at hl; cases hl; exact hblk
        · simp only [e, if_false] at hl; cases hl
      · have h1 : capN (mkX 0 1) = 0 := capN_mkX (by omega)
        have h2 : capE (mkX 0 1) = 1 := capE_mkX (by omega)
        exact VR.slX (l := ⟨xb, xo, xo + cap⟩) (o' := xo) rfl (capX_mkX _ _) (by rw [h1]; omega) (by rw [h2]; simp) (fun _ => by simp) hcap (by rw [h1]; exact Nat.le_refl _)
      · show (if b = 0 then _ else none) = none
        rw [if_neg (by simp only at hb; omega)]
    · have hc0 := hcell 0 (by omega)
      rw [Addr_add_mk] at hc0
      unfold World.cell? at hc0
      split at hc0
      · rename_i cs t fr hw
        have hw' : w.heap[xb]? = some (.cells cs t fr) := hw
        have hcs : ∀ i, i < cap → cs[xo + i]? = some (.int k (zs.getD i 0)) := by
          intro i hi
          have h := hcell i (by omega)
          rw [Addr_add_mk] at h
          unfold World.cell? at h
          simp only [hw', Option.isSome_none, Bool.false_eq_true, if_false] at h
          exact h
        have hsz : xo + cap ≤ cs.size := by
          have h := hcs (cap - 1) (by omega)
          have := (Array.getElem?_eq_some_iff.1 h).1
          omega
        have hll : ((zs.take len).map (Value.int k)).length = len := by rw [List.length_map, List.length_take]; omega
        have hget : ∀ i v, (T.puts .e 0 ((zs.take len).map (Value.int k))).get i = some v → i < len ∧ v = .int k (zs.getD i 0) := by
          intro i v hv
          rw [T.get_puts, hll] at hv
          by_cases hi : 0 ≤ i ∧ i < 0 + len
          · rw [if_pos hi, Nat.sub_zero, List.getElem?_map, List.getElem?_take_of_lt (by omega)] at hv
            rw [List.getElem?_eq_getElem (show i < zs.length by omega)] at hv
            simp only [Option.map_some, Option.some.injEq] at hv
            refine ⟨by omega, ?_⟩
            rw [← hv]
            simp [List.getD, List.getElem?_eq_getElem (show i < zs.length by omega)]
          · rw [if_neg hi, T.get_e] at hv; cases hv
        let fz := 9223372036854775808 + cs.size + fr.2 + 1
        refine fin (A := mem0.alloc (.cells t .row fz (T.puts .e 0 ((zs.take len).map (.int k))))) (x := .slice (some ⟨0, 0, none⟩) len (mkX len 1)) (ι := fun b => if b = 0 then some ⟨xb, xo, cs.size⟩ else none) rfl
          (.inr ⟨by rw [hll], Nat.zero_lt_one, .inr ⟨t, fz, get_alloc_self _ _⟩⟩) ⟨fun b hb => ?_, fun b o l hg hal hl => ?_, fun b l hl => ?_, fun b b' l l' hb hb' hl hl' _ => ?_⟩ ?_ (fun b hb => ?_) (fun b l hb hl => ?_)
        · have hb1 : 1 ≤ b := hb
          rw [get_alloc, if_neg (by show ¬ b = 0; omega)]; rfl
        · by_cases e : b = 0
          · subst e
            rw [if_pos rfl] at hl; cases hl
            have hg' : (mem0.alloc (.cells t .row fz (T.puts .e 0 ((zs.take len).map (Value.int k))))).get mem0.next = some o := hg
            rw [get_alloc_self] at hg'; cases hg'
            refine ⟨_, hw', cs, fr, rfl, rfl, fun i v hv => ?_, ?_⟩
            · obtain ⟨h1, rfl⟩ := hget i v hv
              exact ⟨_, by rw [Nat.add_comm]; exact hcs i (by omega), .int _ _⟩
            · show fr.2 ≤ xo + fz
              omega
          · rw [if_neg e] at hl; cases hl
        · by_cases e : b = 0
          · simp only [e, if_true] at hl; cases hl; exact hblk
          · simp only [e, if_false] at hl; cases hl
        · by_cases e : b = 0
          · by_cases e' : b' = 0
            · rw [e, e']
            · simp only [e', if_false] at hl'; cases hl'
          · simp only [e, if_false] at hl; cases hl
        · have h1 : capN (mkX len 1) = len := capN_mkX (by omega)
          have h2 : capE (mkX len 1) = 1 := capE_mkX (by omega)
          exact VR.slX (l := ⟨xb, xo, cs.size⟩) (o' := xo) rfl (capX_mkX _ _) (by rw [h1]; exact hlc) (by rw [h2, Nat.mul_one]; exact hsz) (fun _ => by simp) hcap (by rw [h1]; exact Nat.le_refl _)
        · show (if b = 0 then _ else none) = none
          have hb1 : 1 ≤ b := hb
          rw [if_neg (by omega)]
        · by_cases e : b = 0
          · subst e
            simp only [if_true] at hl; cases hl
            exact ⟨Nat.zero_lt_one, t, fz, _, get_alloc_self _ _, by omega, by show cs.size < fz; omega⟩
          · simp only [e, if_false] at hl; cases hl
      · cases hc0

end Go.Am

/-
  The abstract machine AM, part 53: values of several cells in memory; slices of them.
-/
namespace Go.Am
variable {tb : Tab}

theorem stores_all : ∀ (vs : List Value) (i : Nat) (c : T Value), (∀ v ∈ vs, oneCell v = true) → (∀ j, j < vs.length → ∃ y, c.get (i + j) = some y) → storesF 0 vs i c = .ok (c.puts i vs)
  | [], _, _, _, _ => rfl
  | v :: vs, i, c, h1, h2 => by
    unfold storesF
    have hb : (oneCell v && Nat.ble 0 i) = true := by rw [h1 v (List.mem_cons_self ..)]; simp
    obtain ⟨y, hy⟩ := h2 0 (by simp)
    rw [Nat.add_zero] at hy
    rw [hb, cond_true, hy]
    refine stores_all vs (i + 1) (c.set i v) (fun w hw => h1 w (List.mem_cons_of_mem _ hw)) fun j hj => ?_
    rw [T.get_set]
    by_cases e : i + 1 + j = i
    · omega
    · rw [if_neg e]
      obtain ⟨y, hy⟩ := h2 (j + 1) (by simp; omega)
      exact ⟨y, by rw [← hy]; congr 1; omega⟩
/-- A variable of several cells, written whole. -/
theorem store_all {A : Mem} {e t : TypeId} {b : Nat} {k : Kd} {l l' : List Value} (hs : sizeF tb t = .ok l.length) (h : Vals A e b k l) (hl : l'.length = l.length) (h0 : l ≠ []) (h1 : ∀ v ∈ l', oneCell v = true) :
    ∃ A', storeF tb A t (.pointer (some ⟨b, 0, none⟩)) (.agg ⟨l'⟩) = .ok A' ∧ Vals A' e b k l' ∧ A'.next = A.next ∧ ∀ x, x ≠ b → A'.get x = A.get x := by
  obtain ⟨c, h2, h3⟩ := h
  have hst : storesF 0 l' 0 c = .ok (c.puts 0 l') := stores_all l' 0 c h1 fun j hj => by
    rw [Nat.zero_add, h3 j (by omega), List.getElem?_eq_getElem (show j < l.length by omega)]
    exact ⟨_, rfl⟩
  refine ⟨A.set b (.cells e k 0 (c.puts 0 l')), ?_, ⟨_, by rw [get_setMem, if_pos rfl], fun i hi => ?_⟩, next_set _ _ _, fun x hx => by rw [get_setMem, if_neg hx]⟩
  · unfold storeF
    have hc : (Value.agg ⟨l'⟩).cells.toList = l' := rfl
    simp only [hs, R.ok_bind, hc]
    have hb : Nat.beq l'.length l.length = true := by rw [hl]; simp
    rw [hb, cond_true]
    cases l' with
    | nil => cases l with
      | nil => exact absurd rfl h0
      | cons _ _ => simp at hl
    | cons v vs =>
      unfold storeAtF
      simp only [h2, hst, R.ok_bind]
  · rw [T.get_puts, if_pos ⟨Nat.zero_le _, by omega⟩, Nat.sub_zero]
/-- A variable of several cells, whole. -/
theorem load_all {A : Mem} {e t : TypeId} {b : Nat} {k : Kd} {l : List Value} {d : TypeDesc} (hu : tb.und t = some d) (ha : isAggD d = true) (hs : sizeF tb t = .ok l.length) (h : Vals A e b k l) : loadF tb A.get t (.pointer (some ⟨b, 0, none⟩)) = .ok (.agg ⟨l⟩) := by
  obtain ⟨c, h1, h2⟩ := h
  have hg : c.gets l.length 0 = some l := gets_eq _ _ _ _ rfl fun j hj => by rw [Nat.zero_add]; exact h2 j hj
  unfold loadF
  simp only [h1, hu, ha, cond_true, hs, R.ok_bind, hg]
theorem vals_new (A : Mem) (e : TypeId) (l : List Value) : Vals (A.alloc (rowOb e l)) e A.next (.var l.length) l := vals_puts (get_alloc_self _ _)

theorem flat_len {n : Nat} : ∀ {ls : List (List Value)}, (∀ l ∈ ls, l.length = n) → ls.flatten.length = ls.length * n
  | [], _ => by simp
  | l :: ls, h => by
    rw [List.flatten_cons, List.length_append, flat_len (fun x hx => h x (List.mem_cons_of_mem _ hx)), h l (List.mem_cons_self ..), List.length_cons, Nat.add_mul, Nat.one_mul, Nat.add_comm]
theorem flat_get {n : Nat} : ∀ {ls : List (List Value)} {i j : Nat} {l : List Value}, (∀ l ∈ ls, l.length = n) → ls[i]? = some l → j < n → ls.flatten[i * n + j]? = l[j]?
  | [], i, j, l, _, hi, _ => by simp at hi
  | l0 :: ls, 0, j, l, h, hi, hj => by
    simp only [List.getElem?_cons_zero, Option.some.injEq] at hi
    subst hi
    rw [List.flatten_cons, Nat.zero_mul, Nat.zero_add, List.getElem?_append_left (by rw [h _ (List.mem_cons_self ..)]; exact hj)]
  | l0 :: ls, i + 1, j, l, h, hi, hj => by
    simp only [List.getElem?_cons_succ] at hi
    have hl0 := h l0 (List.mem_cons_self ..)
    rw [List.flatten_cons, List.getElem?_append_right (by rw [hl0, Nat.add_mul]; omega), hl0, show (i + 1) * n + j - n = i * n + j by rw [Nat.add_mul, Nat.one_mul]; omega]
    exact flat_get (fun x hx => h x (List.mem_cons_of_mem _ hx)) hi hj

/-- A slice of values of n cells each, whole; so that what is appended goes into a new one. -/
def SlcM (A : Mem) (e : TypeId) (n b : Nat) (ls : List (List Value)) (x : Value) : Prop :=
  (x = .slice none 0 0 ∧ ls = []) ∨ ∃ k c, x = .slice (some ⟨b, 0, none⟩) ls.length c ∧ b < A.next ∧ Vals A e b k ls.flatten ∧ (∀ l ∈ ls, l.length = n) ∧ (c = 2 * ls.length ∨ (c = mkX ls.length n ∧ (k = .row ∨ k = .mark)))
theorem SlcM.nil (A : Mem) (e : TypeId) (n b : Nat) : SlcM A e n b [] (.slice none 0 0) := .inl ⟨rfl, rfl⟩
theorem SlcM.same {A A' : Mem} {e : TypeId} {n b : Nat} {ls : List (List Value)} {x : Value} (h : SlcM A e n b ls x) (hn : A.next ≤ A'.next) (hg : b < A.next → A'.get b = A.get b) : SlcM A' e n b ls x := by
  rcases h with h | ⟨k, c, h1, h2, h3, h4⟩
  · exact .inl h
  · exact .inr ⟨k, c, h1, Nat.lt_of_lt_of_le h2 hn, h3.same (hg h2), h4⟩
theorem SlcM.len {A : Mem} {e t t' : TypeId} {n b : Nat} {ls : List (List Value)} {x : Value} (h : SlcM A e n b ls x) (hu : tb.und t = some (.slice t')) : builtinPF tb .len [t] [x] = .ok (.int .i64 ((ls.length : Nat) : Int)) := by
  rcases h with ⟨rfl, rfl⟩ | ⟨k, c, rfl, -⟩ <;> exact len_slc hu
theorem SlcM.idx {A : Mem} {e t t' : TypeId} {n b i : Nat} {kd : IntKind} {ls : List (List Value)} {x : Value} (h : SlcM A e n b ls x) (hu : tb.und t = some (.slice t')) (hs : sizeF tb t' = .ok n) (hi : i < ls.length) :
    indexAddrF tb t x (.int kd (i : Int)) = .ok (.pointer (some ⟨b, i * n, none⟩)) := by
  rcases h with ⟨rfl, rfl⟩ | ⟨k, c, rfl, -⟩
  · simp at hi
  · have hb : Nat.blt i ls.length = true := by rw [Nat.blt_eq]; exact hi
    have hn : natV (.int kd (i : Int)) = .ok i := rfl
    unfold indexAddrF
    simp only [hn, hu, hb, cond_true, hs, R.ok_bind, addA, Nat.zero_add]
theorem SlcM.load {A : Mem} {e t : TypeId} {d : TypeDesc} {n b i j : Nat} {ls : List (List Value)} {l : List Value} {x v : Value} (h : SlcM A e n b ls x) (hu : tb.und t = some d) (ha : isAggD d = false) (hi : ls[i]? = some l) (hj : l[j]? = some v) (hjn : j < n) :
    loadF tb A.get t (.pointer (some ⟨b, i * n + j, none⟩)) = .ok v := by
  rcases h with ⟨rfl, rfl⟩ | ⟨k, c, rfl, h2, h3, h4, -⟩
  · simp at hi
  · exact load_vals hu ha h3 (by rw [flat_get h4 hi hjn]; exact hj)
/-- A value of it, whole. -/
theorem SlcM.load_all {A : Mem} {e t : TypeId} {d : TypeDesc} {n b i : Nat} {ls : List (List Value)} {l : List Value} {x : Value} (h : SlcM A e n b ls x) (hu : tb.und t = some d) (ha : isAggD d = true) (hs : sizeF tb t = .ok n) (hi : ls[i]? = some l) :
    loadF tb A.get t (.pointer (some ⟨b, i * n, none⟩)) = .ok (.agg ⟨l⟩) := by
  rcases h with ⟨rfl, rfl⟩ | ⟨k, c, rfl, h2, ⟨cs, h5, h6⟩, h4, -⟩
  · simp at hi
  · have hl : l.length = n := h4 l (List.mem_of_getElem? hi)
    have hlen := flat_len h4
    have hil : i < ls.length := (List.getElem?_eq_some_iff.1 hi).1
    have hg : cs.gets n (i * n) = some l := gets_eq _ _ _ _ hl fun j hj => by
      rw [h6 (i * n + j) (by
        rw [hlen]
        have := Nat.mul_le_mul_right n (show i + 1 ≤ ls.length from hil)
        rw [Nat.add_mul, Nat.one_mul] at this
        omega), flat_get h4 hi hj]
    unfold loadF
    simp only [h5, hu, ha, cond_true, hs, R.ok_bind, hg]
theorem elemsF_valsN {A : Mem} {e : TypeId} {b n m : Nat} {k : Kd} {l : List Value} (h : Vals A e b k l) (hl : l.length = m * n) : elemsF A.get n m (some ⟨b, 0, none⟩) = .ok l := by
  obtain ⟨c, h1, h2⟩ := h
  unfold elemsF
  simp only []
  cases hn : Nat.beq (m * n) 0 with
  | true =>
    have : l = [] := List.length_eq_zero_iff.1 (by rw [hl]; exact Nat.eq_of_beq_eq_true hn)
    subst this; rfl
  | false =>
    have hg : c.gets (m * n) 0 = some l := gets_eq _ _ _ _ hl fun j hj => by rw [Nat.zero_add]; exact h2 j (by omega)
    simp only [cond_false, h1, hg]
/-- One more, behind it. -/
theorem SlcM.append {A : Mem} {st xt e : TypeId} {i : TypeInfo} {z l : List Value} {n b b2 : Nat} {ls : List (List Value)} {x : Value} (h : SlcM A e n b ls x) (hst : tb.und st = some (.slice e)) (hxt : tb.und xt = some (.slice e)) (hz : zcellsF tb e = .ok (n, z)) (hi : tb.ty.get e = some i) (hib : 0 < i.bytes) (hib' : i.bytes ≤ 65536)
    (hn0 : 0 < n) (hn1 : n < 65536) (hls : ls.length < 16777216) (hb2 : A.get b2 = some (rowOb e l)) (hl : l.length = n) (h1c : ∀ v ∈ l, oneCell v = true) :
    ∃ x' A', appendF tb A st xt x (.slice (some ⟨b2, 0, none⟩) 1 2) = .ok (x', A') ∧ SlcM A' e n A.next (ls ++ [l]) x' ∧ A'.next = A.next + 1 ∧ ∀ y, (y = b → x = .slice none 0 0) → y < A.next → A'.get y = A.get y := by
  have hnew : firstF A.get n 1 (.slice (some ⟨b2, 0, none⟩) 1 2) = .ok l := elemsF_valsN (vals_puts (e := e) (k := .var l.length) hb2) (by rw [Nat.one_mul]; exact hl)
  have hlim : (Nat.ble (ls.length + 1) 16777216 && Nat.ble i.bytes 65536 && Nat.blt 0 i.bytes && Nat.blt 0 n && Nat.blt n 65536) = true := by
    have a1 : Nat.ble (ls.length + 1) 16777216 = true := Nat.ble_eq_true_of_le (by omega)
    have a2 : Nat.ble i.bytes 65536 = true := Nat.ble_eq_true_of_le hib'
    have a3 : Nat.blt 0 i.bytes = true := by rw [Nat.blt_eq]; exact hib
    have a4 : Nat.blt 0 n = true := by rw [Nat.blt_eq]; exact hn0
    have a5 : Nat.blt n 65536 = true := by rw [Nat.blt_eq]; exact hn1
    rw [a1, a2, a3, a4, a5]; rfl
  have hfl : (ls ++ [l]).flatten = ls.flatten ++ l := by simp
  have fin : ∀ (k' : Kd) (A0 : Mem), A0.next = A.next → (∀ y, y ≠ b → A0.get y = A.get y) → (k' = .row ∨ k' = .mark) → (∀ l ∈ ls, l.length = n) →
      SlcM (A0.alloc (.cells e k' 0 (T.puts .e 0 (ls.flatten ++ l)))) e n A.next (ls ++ [l]) (.slice (some ⟨A.next, 0, none⟩) (ls.length + 1) (mkX (ls.length + 1) n)) ∧ (A0.alloc (.cells e k' 0 (T.puts .e 0 (ls.flatten ++ l)))).next = A.next + 1 ∧ ∀ y, y ≠ b → y < A.next → (A0.alloc (.cells e k' 0 (T.puts .e 0 (ls.flatten ++ l)))).get y = A.get y := by
    intro k' A0 hn hg hk' hall
    refine ⟨.inr ⟨k', _, by rw [List.length_append]; rfl, by rw [next_alloc]; omega, vals_puts ?_, fun y hy => ?_, .inr ⟨by rw [List.length_append]; rfl, hk'⟩⟩, by rw [next_alloc, hn], fun y hy hlt => ?_⟩
    · rw [hfl, ← hn]; exact get_alloc_self _ _
    · rcases List.mem_append.1 hy with h | h
      · exact hall y h
      · rw [List.mem_singleton.1 h]; exact hl
    · rw [get_alloc_ne (by omega), hg y hy]
  rcases h with ⟨rfl, rfl⟩ | ⟨k, c, rfl, h2, h3, h4, h5⟩
  · refine ⟨.slice (some ⟨A.next, 0, none⟩) 1 (mkX 1 n), A.alloc (.cells e .row 0 (T.puts .e 0 ([] ++ l))), ?_, ?_⟩
    · unfold appendF appendG
      have hble : Nat.ble (0 + 1) (capN 0) = false := rfl
      have hx : capX 0 = true := rfl
      have hel : elemsF A.get n 0 none = .ok [] := rfl
      simp only [hst, hxt, isIntD, cond_false, hz, R.ok_bind, lenF, hnew, hble, hi]
      simp only [List.length_nil, Nat.zero_add] at hlim
      simp only [Nat.zero_add, hlim, cond_true, hel, R.ok_bind, hx]
    · obtain ⟨f1, f2, -⟩ := fin .row A rfl (fun _ _ => rfl) (.inl rfl) (fun l h => by cases h)
      exact ⟨f1, f2, fun y _ hy => get_alloc_ne (by omega)⟩
  · have hel : elemsF A.get n ls.length (some ⟨b, 0, none⟩) = .ok ls.flatten := elemsF_valsN h3 (flat_len h4)
    obtain ⟨cs, hb', hcs⟩ := h3
    rcases h5 with rfl | ⟨rfl, hk⟩
    · have hx : capX (2 * ls.length) = true := by show Nat.beq (2 * ls.length % 2) 0 = true; rw [Nat.mul_mod_right]; rfl
      have hcn : capN (2 * ls.length) = ls.length := by unfold capN; rw [hx, cond_true]; show 2 * ls.length / 2 = ls.length; omega
      have hble : Nat.ble (ls.length + 1) (capN (2 * ls.length)) = false := by
        rw [hcn]
        cases hq : Nat.ble (ls.length + 1) ls.length with
        | false => rfl
        | true => have := Nat.le_of_ble_eq_true hq; omega
      refine ⟨_, A.alloc (.cells e .row 0 (T.puts .e 0 (ls.flatten ++ l))), ?_, (fin .row A rfl (fun _ _ => rfl) (.inl rfl) h4).1, (fin .row A rfl (fun _ _ => rfl) (.inl rfl) h4).2.1, fun y hy => (fin .row A rfl (fun _ _ => rfl) (.inl rfl) h4).2.2 y (fun e => by cases hy e)⟩
      unfold appendF appendG
      simp only [hst, hxt, isIntD, cond_false, hz, R.ok_bind, lenF, hnew, hble, hi, hlim, cond_true, hel, hx]
    · have hble : Nat.ble (ls.length + 1) (capN (mkX ls.length n)) = false := by
        rw [capN_mkX hn1]
        cases hq : Nat.ble (ls.length + 1) ls.length with
        | false => rfl
        | true => have := Nat.le_of_ble_eq_true hq; omega
      have hx : capX (mkX ls.length n) = false := capX_mkX _ _
      have he : Nat.beq (capE (mkX ls.length n)) n = true := by rw [capE_mkX hn1]; simp
      have hall : l.all oneCell = true := List.all_eq_true.2 h1c
      have hfz : (Nat.ble 0 (0 + ls.length * n) && (Nat.beq e e && Nat.blt 0 9223372036854775808)) = true := by
        have h0 : Nat.blt 0 9223372036854775808 = true := by rw [Nat.blt_eq]; omega
        rw [h0]; simp
      refine ⟨_, (A.set b .dead).alloc (.cells e k 0 (T.puts .e 0 (ls.flatten ++ l))), ?_, (fin k (A.set b .dead) (next_set _ _ _) (fun y hy => by rw [get_setMem, if_neg hy]) hk h4).1, (fin k (A.set b .dead) (next_set _ _ _) (fun y hy => by rw [get_setMem, if_neg hy]) hk h4).2.1, fun y hy => (fin k (A.set b .dead) (next_set _ _ _) (fun y hy => by rw [get_setMem, if_neg hy]) hk h4).2.2 y (fun e => by cases hy e)⟩
      unfold appendF appendG
      simp only [hst, hxt, isIntD, cond_false, hz, R.ok_bind, lenF, hnew, hble, hi, hlim, cond_true, hel, hx, he, hall, Bool.and_true, hb', hfz]
      rcases hk with rfl | rfl <;> rfl

end Go.Am

/-
  The abstract machine AM, part 54: slices that are read only; '==' of structs.
-/
namespace Go.Am
variable {tb : Tab}

/-! ### Slices of values of n cells each: a beginning of a row, read only -/
def RowM (A : Mem) (e : TypeId) (n b : Nat) (ls : List (List Value)) (x : Value) : Prop :=
  (x = .slice none 0 0 ∧ ls = []) ∨ ∃ k c ex, x = .slice (some ⟨b, 0, none⟩) ls.length c ∧ b < A.next ∧ Vals A e b k (ls.flatten ++ ex) ∧ (∀ l ∈ ls, l.length = n) ∧ capFit c n = true ∧ ls.length ≤ capN c
theorem SlcM.toRow {A : Mem} {e : TypeId} {n b : Nat} {ls : List (List Value)} {x : Value} (hn : n < 65536) (h : SlcM A e n b ls x) : RowM A e n b ls x := by
  rcases h with h | ⟨k, c, h1, h2, h3, h4, h5⟩
  · exact .inl h
  · refine .inr ⟨k, c, [], h1, h2, by rw [List.append_nil]; exact h3, h4, ?_, ?_⟩
    · rcases h5 with rfl | ⟨rfl, _⟩
      · unfold capFit; rw [capX_two]; rfl
      · unfold capFit; rw [capX_mkX, capE_mkX hn, cond_false]; exact Nat.beq_refl n
    · rcases h5 with rfl | ⟨rfl, _⟩
      · rw [capN_two]; exact Nat.le_refl _
      · rw [capN_mkX hn]; exact Nat.le_refl _
theorem RowM.nil (A : Mem) (e : TypeId) (n b : Nat) : RowM A e n b [] (.slice none 0 0) := .inl ⟨rfl, rfl⟩
theorem RowM.same {A A' : Mem} {e : TypeId} {n b : Nat} {ls : List (List Value)} {x : Value} (h : RowM A e n b ls x) (hn : A.next ≤ A'.next) (hg : b < A.next → A'.get b = A.get b) : RowM A' e n b ls x := by
  rcases h with h | ⟨k, c, ex, h1, h2, h3, h4⟩
  · exact .inl h
  · exact .inr ⟨k, c, ex, h1, Nat.lt_of_lt_of_le h2 hn, h3.same (hg h2), h4⟩
theorem RowM.len {A : Mem} {e t t' : TypeId} {n b : Nat} {ls : List (List Value)} {x : Value} (h : RowM A e n b ls x) (hu : tb.und t = some (.slice t')) : builtinPF tb .len [t] [x] = .ok (.int .i64 ((ls.length : Nat) : Int)) := by
  rcases h with ⟨rfl, rfl⟩ | ⟨k, c, ex, rfl, -⟩ <;> exact len_slc hu
theorem RowM.idx {A : Mem} {e t t' : TypeId} {n b i : Nat} {kd : IntKind} {ls : List (List Value)} {x : Value} (h : RowM A e n b ls x) (hu : tb.und t = some (.slice t')) (hs : sizeF tb t' = .ok n) (hi : i < ls.length) :
    indexAddrF tb t x (.int kd (i : Int)) = .ok (.pointer (some ⟨b, i * n, none⟩)) := by
  rcases h with ⟨rfl, rfl⟩ | ⟨k, c, ex, rfl, -⟩
  · simp at hi
  · have hb : Nat.blt i ls.length = true := by rw [Nat.blt_eq]; exact hi
    have hn : natV (.int kd (i : Int)) = .ok i := rfl
    unfold indexAddrF
    simp only [hn, hu, hb, cond_true, hs, R.ok_bind, addA, Nat.zero_add]
theorem flat_lt {n i j : Nat} {ls : List (List Value)} (h : ∀ l ∈ ls, l.length = n) (hi : i < ls.length) (hj : j < n) : i * n + j < ls.flatten.length := by
  rw [flat_len h]
  have := Nat.mul_le_mul_right n (show i + 1 ≤ ls.length from hi)
  rw [Nat.add_mul, Nat.one_mul] at this
  omega
theorem RowM.load {A : Mem} {e t : TypeId} {d : TypeDesc} {n b i j : Nat} {ls : List (List Value)} {l : List Value} {x v : Value} (h : RowM A e n b ls x) (hu : tb.und t = some d) (ha : isAggD d = false) (hi : ls[i]? = some l) (hj : l[j]? = some v) (hjn : j < n) :
    loadF tb A.get t (.pointer (some ⟨b, i * n + j, none⟩)) = .ok v := by
  rcases h with ⟨rfl, rfl⟩ | ⟨k, c, ex, rfl, h2, h3, h4, -⟩
  · simp at hi
  · have hil : i < ls.length := (List.getElem?_eq_some_iff.1 hi).1
    exact load_vals hu ha h3 (by rw [List.getElem?_append_left (flat_lt h4 hil hjn), flat_get h4 hi hjn]; exact hj)
theorem RowM.load_all {A : Mem} {e t : TypeId} {d : TypeDesc} {n b i : Nat} {ls : List (List Value)} {l : List Value} {x : Value} (h : RowM A e n b ls x) (hu : tb.und t = some d) (ha : isAggD d = true) (hs : sizeF tb t = .ok n) (hi : ls[i]? = some l) :
    loadF tb A.get t (.pointer (some ⟨b, i * n, none⟩)) = .ok (.agg ⟨l⟩) := by
  rcases h with ⟨rfl, rfl⟩ | ⟨k, c, ex, rfl, h2, ⟨cs, h5, h6⟩, h4, -⟩
  · simp at hi
  · have hl : l.length = n := h4 l (List.mem_of_getElem? hi)
    have hil : i < ls.length := (List.getElem?_eq_some_iff.1 hi).1
    have hg : cs.gets n (i * n) = some l := gets_eq _ _ _ _ hl fun j hj => by
      have hlt := flat_lt h4 hil hj
      rw [h6 (i * n + j) (by rw [List.length_append]; omega), List.getElem?_append_left hlt, flat_get h4 hi hj]
    unfold loadF
    simp only [h5, hu, ha, cond_true, hs, R.ok_bind, hg]
theorem RowM.cells {A : Mem} {e : TypeId} {n b : Nat} {ls : List (List Value)} {x : Value} (h : RowM A e n b ls x) : x.cells.toList = [x] ∧ oneCell x = true := by
  rcases h with ⟨rfl, -⟩ | ⟨k, c, ex, rfl, -⟩ <;> exact ⟨rfl, rfl⟩
theorem RowM.self {A : Mem} {e : TypeId} {n b : Nat} {ls : List (List Value)} {x : Value} (h : RowM A e n b ls x) (d : Nat) : sameV (d + 1) x x = true := by
  rcases h with ⟨rfl, -⟩ | ⟨k, c, ex, rfl, -⟩
  · rfl
  · exact sameV_slc _ _ _ _
/-- A beginning of it. -/
theorem RowM.cut {A : Mem} {e t t' : TypeId} {n m b : Nat} {ls : List (List Value)} {x : Value} (h : RowM A e n b ls x) (hu : tb.und t = some (.slice t')) (hs : sizeF tb t' = .ok n) (hm : m ≤ ls.length) :
    ∃ x', sliceF tb t x none (some (.int .i64 (m : Int))) none = .ok x' ∧ RowM A e n b (ls.take m) x' := by
  rcases h with ⟨rfl, rfl⟩ | ⟨k, c, ex, rfl, h2, h3, h4, h5, h6⟩
  · have hm0 : m = 0 := by simpa using hm
    subst hm0
    refine ⟨.slice none 0 0, ?_, .inl ⟨rfl, rfl⟩⟩
    have e1 : bound (some (.int .i64 ((0 : Nat) : Int))) 0 (capN 0) = .ok 0 := bound_some (Nat.zero_le _)
    unfold sliceF
    simp only [hu, e1, R.ok_bind, bound_none, hs]
  · have hl : (ls.take m).length = m := by rw [List.length_take]; omega
    have e1 : bound (some (.int .i64 (m : Int))) ls.length (capN c) = .ok m := bound_some (by omega)
    have hall : ∀ l ∈ ls.take m, l.length = n := fun l hl => h4 l (List.mem_of_mem_take hl)
    have hfl : ls.flatten ++ ex = (ls.take m).flatten ++ ((ls.drop m).flatten ++ ex) := by
      rw [← List.append_assoc, ← List.flatten_append, List.take_append_drop]
    rw [hfl] at h3
    cases hx : capX c && Nat.beq (capN c) 0 with
    | true =>
      have hc1 : capN c = 0 := Nat.eq_of_beq_eq_true (Bool.and_eq_true_iff.1 hx).2
      have hm0 : m = 0 := by omega
      subst hm0
      refine ⟨.slice (some ⟨b, 0, none⟩) 0 0, ?_, .inr ⟨k, 0, _, by rw [hl], h2, h3, hall, rfl, by rw [hl]; exact Nat.zero_le _⟩⟩
      unfold sliceF
      simp only [hu, e1, R.ok_bind, bound_none, hs, hx, cond_true, Nat.sub_zero]
    | false =>
      refine ⟨.slice (some ⟨b, 0, none⟩) m (capSub c 0), ?_, .inr ⟨k, _, _, by rw [hl], h2, h3, hall, ?_, by rw [capN_sub]; omega⟩⟩
      · unfold sliceF
        simp only [hu, e1, R.ok_bind, bound_none, hs, hx, cond_false, h5, cond_true, addA, Nat.zero_mul, Nat.add_zero, Nat.sub_zero]
      · unfold capFit
        unfold capFit at h5
        rw [capX_sub]
        cases hcx : capX c with
        | true => rfl
        | false =>
          rw [hcx, cond_false] at h5
          have he : capE c = n := Nat.eq_of_beq_eq_true h5
          have hlt : capE c < 65536 := Nat.mod_lt _ (by omega)
          unfold capSub
          rw [hcx, cond_false, cond_false, capE_mkX hlt, he]
          exact Nat.beq_refl n

/-- Some more, behind it. -/
theorem SlcM.appends {A : Mem} {st xt e : TypeId} {xd : TypeDesc} {i : TypeInfo} {z : List Value} {n m b : Nat} {ls nl : List (List Value)} {x y : Value} (h : SlcM A e n b ls x) (hst : tb.und st = some (.slice e)) (hxt : tb.und xt = some xd) (hxd : isIntD xd = false) (hz : zcellsF tb e = .ok (n, z)) (hi : tb.ty.get e = some i) (hib : 0 < i.bytes) (hib' : i.bytes ≤ 65536)
    (hn0 : 0 < n) (hn1 : n < 65536) (hls : ls.length + m ≤ 16777216) (hy : lenF y = .ok m) (hnew : firstF A.get n m y = .ok nl.flatten) (hm : nl.length = m) (hl : ∀ l ∈ nl, l.length = n) (h1c : ∀ v ∈ nl.flatten, oneCell v = true) :
    ∃ x' A' b', appendF tb A st xt x y = .ok (x', A') ∧ SlcM A' e n b' (ls ++ nl) x' ∧ A.next ≤ A'.next ∧ (b' = b ∨ A.next ≤ b') ∧ ∀ y, (y = b → x = .slice none 0 0) → y < A.next → A'.get y = A.get y := by
  subst hm
  by_cases h0 : nl.length = 0
  · have hnil : nl = [] := List.length_eq_zero_iff.1 h0
    subst hnil
    simp only [List.length_nil, List.flatten_nil] at hy hnew
    refine ⟨x, A, b, ?_, by rw [List.append_nil]; exact h, Nat.le_refl _, .inl rfl, fun _ _ _ => rfl⟩
    rcases h with ⟨rfl, rfl⟩ | ⟨k, c, rfl, h2, h3, h4, h5⟩
    · unfold appendF appendG
      simp only [hst, hxt, hxd, cond_false, hz, R.ok_bind, hy, hnew]
      rfl
    · have hc : ls.length ≤ capN c := by
        rcases h5 with rfl | ⟨rfl, _⟩
        · rw [capN_two]; exact Nat.le_refl _
        · rw [capN_mkX hn1]; exact Nat.le_refl _
      have hble : Nat.ble ls.length (capN c) = true := Nat.ble_eq_true_of_le hc
      have hst0 : ∀ a, storeAtF A a [] = .ok A := fun _ => rfl
      unfold appendF appendG
      simp only [hst, hxt, hxd, cond_false, hz, R.ok_bind, hy, hnew, Nat.add_zero, hble, cond_true, hst0]
  have hlim : (Nat.ble (ls.length + nl.length) 16777216 && Nat.ble i.bytes 65536 && Nat.blt 0 i.bytes && Nat.blt 0 n && Nat.blt n 65536) = true := by
    have a1 : Nat.ble (ls.length + nl.length) 16777216 = true := Nat.ble_eq_true_of_le (by omega)
    have a2 : Nat.ble i.bytes 65536 = true := Nat.ble_eq_true_of_le hib'
    have a3 : Nat.blt 0 i.bytes = true := by rw [Nat.blt_eq]; exact hib
    have a4 : Nat.blt 0 n = true := by rw [Nat.blt_eq]; exact hn0
    have a5 : Nat.blt n 65536 = true := by rw [Nat.blt_eq]; exact hn1
    rw [a1, a2, a3, a4, a5]; rfl
  have hfl : (ls ++ nl).flatten = ls.flatten ++ nl.flatten := by simp
  have hll : (ls ++ nl).length = ls.length + nl.length := List.length_append
  have fin : ∀ (k' : Kd) (A0 : Mem), A0.next = A.next → (∀ y, y ≠ b → A0.get y = A.get y) → (k' = .row ∨ k' = .mark) → (∀ l ∈ ls, l.length = n) →
      SlcM (A0.alloc (.cells e k' 0 (T.puts .e 0 (ls.flatten ++ nl.flatten)))) e n A.next (ls ++ nl) (.slice (some ⟨A.next, 0, none⟩) (ls.length + nl.length) (mkX (ls.length + nl.length) n)) ∧ A.next ≤ (A0.alloc (.cells e k' 0 (T.puts .e 0 (ls.flatten ++ nl.flatten)))).next ∧ ∀ y, y ≠ b → y < A.next → (A0.alloc (.cells e k' 0 (T.puts .e 0 (ls.flatten ++ nl.flatten)))).get y = A.get y := by
    intro k' A0 hn hg hk' hall
    refine ⟨.inr ⟨k', _, by rw [hll], by rw [next_alloc]; omega, vals_puts ?_, fun y hy => ?_, .inr ⟨by rw [hll], hk'⟩⟩, by rw [next_alloc, hn]; omega, fun y hy hlt => ?_⟩
    · rw [hfl, ← hn]; exact get_alloc_self _ _
    · rcases List.mem_append.1 hy with h | h
      · exact hall y h
      · exact hl y h
    · rw [get_alloc_ne (by omega), hg y hy]
  rcases h with ⟨rfl, rfl⟩ | ⟨k, c, rfl, h2, h3, h4, h5⟩
  · refine ⟨.slice (some ⟨A.next, 0, none⟩) (0 + nl.length) (mkX (0 + nl.length) n), A.alloc (.cells e .row 0 (T.puts .e 0 ([] ++ nl.flatten))), A.next, ?_, ?_⟩
    · unfold appendF appendG
      have hble : Nat.ble (0 + nl.length) (capN 0) = false := by
        cases hq : Nat.ble (0 + nl.length) (capN 0) with
        | false => rfl
        | true =>
          have hq2 := Nat.le_of_ble_eq_true hq
          have : capN 0 = 0 := rfl
          omega
      have hx : capX 0 = true := rfl
      have hel : elemsF A.get n 0 none = .ok [] := rfl
      simp only [List.length_nil] at hlim
      simp only [hst, hxt, hxd, cond_false, hz, R.ok_bind, hy, hnew, hble, hi, hlim, cond_true, hel, hx]
    · obtain ⟨f1, f2, -⟩ := fin .row A rfl (fun _ _ => rfl) (.inl rfl) (fun l h => by cases h)
      exact ⟨f1, f2, .inr (Nat.le_refl _), fun y _ hy => get_alloc_ne (by omega)⟩
  · have hel : elemsF A.get n ls.length (some ⟨b, 0, none⟩) = .ok ls.flatten := elemsF_valsN h3 (flat_len h4)
    obtain ⟨cs, hb', hcs⟩ := h3
    rcases h5 with rfl | ⟨rfl, hk⟩
    · have hx : capX (2 * ls.length) = true := capX_two _
      have hcn : capN (2 * ls.length) = ls.length := capN_two _
      have hble : Nat.ble (ls.length + nl.length) (capN (2 * ls.length)) = false := by
        rw [hcn]
        cases hq : Nat.ble (ls.length + nl.length) ls.length with
        | false => rfl
        | true => have := Nat.le_of_ble_eq_true hq; omega
      obtain ⟨f1, f2, f3⟩ := fin .row A rfl (fun _ _ => rfl) (.inl rfl) h4
      refine ⟨_, A.alloc (.cells e .row 0 (T.puts .e 0 (ls.flatten ++ nl.flatten))), A.next, ?_, f1, f2, .inr (Nat.le_refl _), fun y hy => f3 y (fun e => by cases hy e)⟩
      unfold appendF appendG
      simp only [hst, hxt, hxd, cond_false, hz, R.ok_bind, hy, hnew, hble, hi, hlim, cond_true, hel, hx]
    · have hble : Nat.ble (ls.length + nl.length) (capN (mkX ls.length n)) = false := by
        rw [capN_mkX hn1]
        cases hq : Nat.ble (ls.length + nl.length) ls.length with
        | false => rfl
        | true => have := Nat.le_of_ble_eq_true hq; omega
      have hx : capX (mkX ls.length n) = false := capX_mkX _ _
      have he : Nat.beq (capE (mkX ls.length n)) n = true := by rw [capE_mkX hn1]; simp
      have hall : nl.flatten.all oneCell = true := List.all_eq_true.2 h1c
      have hfz : (Nat.ble 0 (0 + ls.length * n) && (Nat.beq e e && Nat.blt 0 9223372036854775808)) = true := by
        have h0 : Nat.blt 0 9223372036854775808 = true := by rw [Nat.blt_eq]; omega
        rw [h0]; simp
      obtain ⟨f1, f2, f3⟩ := fin k (A.set b .dead) (next_set _ _ _) (fun y hy => by rw [get_setMem, if_neg hy]) hk h4
      refine ⟨_, (A.set b .dead).alloc (.cells e k 0 (T.puts .e 0 (ls.flatten ++ nl.flatten))), A.next, ?_, f1, f2, .inr (Nat.le_refl _), fun y hy => f3 y (fun e => by cases hy e)⟩
      unfold appendF appendG
      simp only [hst, hxt, hxd, cond_false, hz, R.ok_bind, hy, hnew, hble, hi, hlim, cond_true, hel, hx, he, hall, Bool.and_true, hb', hfz]
      rcases hk with rfl | rfl <;> rfl
theorem flat_ones (l : List Value) : (l.map fun v => [v]).flatten = l := by
  induction l with
  | nil => rfl
  | cons a l ih => simp only [List.map_cons, List.flatten_cons, ih, List.singleton_append]
theorem Slc.toM {A : Mem} {e : TypeId} {b : Nat} {l : List Value} {x : Value} (h : Slc A e b l x) : SlcM A e 1 b (l.map fun v => [v]) x := by
  rcases h with ⟨h1, rfl⟩ | ⟨k, c, h1, h2, h3, h4⟩
  · exact .inl ⟨h1, rfl⟩
  · refine .inr ⟨k, c, by rw [List.length_map]; exact h1, h2, by rw [flat_ones]; exact h3, fun l hl => ?_, by rw [List.length_map]; exact h4⟩
    obtain ⟨v, -, rfl⟩ := List.mem_map.1 hl
    rfl
theorem SlcM.toOne {A : Mem} {e : TypeId} {b : Nat} {l : List Value} {x : Value} (h : SlcM A e 1 b (l.map fun v => [v]) x) : Slc A e b l x := by
  rcases h with ⟨h1, h2⟩ | ⟨k, c, h1, h2, h3, _, h4⟩
  · exact .inl ⟨h1, List.map_eq_nil_iff.1 h2⟩
  · rw [List.length_map] at h1 h4
    rw [flat_ones] at h3
    exact .inr ⟨k, c, h1, h2, h3, h4⟩
theorem Slc.appends {A : Mem} {st xt e : TypeId} {xd : TypeDesc} {i : TypeInfo} {z : List Value} {m b : Nat} {l nl : List Value} {x y : Value} (h : Slc A e b l x) (hst : tb.und st = some (.slice e)) (hxt : tb.und xt = some xd) (hxd : isIntD xd = false) (hz : zcellsF tb e = .ok (1, z)) (hi : tb.ty.get e = some i) (hib : 0 < i.bytes) (hib' : i.bytes ≤ 65536)
    (hls : l.length + m ≤ 16777216) (hy : lenF y = .ok m) (hnew : firstF A.get 1 m y = .ok nl) (hm : nl.length = m) (h1c : ∀ v ∈ nl, oneCell v = true) :
    ∃ x' A' b', appendF tb A st xt x y = .ok (x', A') ∧ Slc A' e b' (l ++ nl) x' ∧ A.next ≤ A'.next ∧ (b' = b ∨ A.next ≤ b') ∧ ∀ y, (y = b → x = .slice none 0 0) → y < A.next → A'.get y = A.get y := by
  obtain ⟨x', A', b', h1, h2, h3⟩ := h.toM.appends (nl := nl.map fun v => [v]) hst hxt hxd hz hi hib hib' Nat.zero_lt_one (by omega) (by rw [List.length_map]; exact hls) hy (by rw [flat_ones]; exact hnew) (by rw [List.length_map]; exact hm) (fun l hl => by
    obtain ⟨v, -, rfl⟩ := List.mem_map.1 hl
    rfl) (by rw [flat_ones]; exact h1c)
  rw [← List.map_append] at h2
  exact ⟨x', A', b', h1, h2.toOne, h3⟩

/-! ### '==' of structs -/
theorem opF_eqlR {ih : Code → St → R (Ex × St)} {dst : Option Tmp} {ty : TypeId} {pos : String} {after : Array Edge} {g : Option (Nat × Bool)} {s : St} {k : St → R (Ex × St)} (t : TypeId) (x y : Operand) (r : TypeId) (h : basicD (tb.und t) = false) : opF tb ih { dst, op := .binOp .eql t x y r, type := ty, pos, after, guard := g } s k =
    (ev s.t x).bind fun a => (ev s.t y).bind fun b => (eqF tb s.m.get .eql t x y a b).bind fun v => putT s dst v k := by
  rw [opF_Rd (hc := by unfold cls; simp only [h, cond_false]) (hi := rfl)]
  simp only [rOp, R.bind_bind]
theorem opF_neqR {ih : Code → St → R (Ex × St)} {dst : Option Tmp} {ty : TypeId} {pos : String} {after : Array Edge} {g : Option (Nat × Bool)} {s : St} {k : St → R (Ex × St)} (t : TypeId) (x y : Operand) (r : TypeId) (h : basicD (tb.und t) = false) : opF tb ih { dst, op := .binOp .neq t x y r, type := ty, pos, after, guard := g } s k =
    (ev s.t x).bind fun a => (ev s.t y).bind fun b => (eqF tb s.m.get .neq t x y a b).bind fun v => putT s dst v k := by
  rw [opF_Rd (hc := by unfold cls; simp only [h, cond_false]) (hi := rfl)]
  simp only [rOp, R.bind_bind]
/-- The fields of a struct: is it named _, its type, its place. -/
def fieldsOf : Option TypeDesc → List (Bool × TypeId × Nat)
  | some (.struct fs) => fs.toList.map fun f => (f.name == "_", f.type, f.offset)
  | _ => []
def isStruct : Option TypeDesc → Bool
  | some (.struct _) => true
  | _ => false
noncomputable def fieldsEqS (tb : Tab) (eq : TypeId → Value → Value → R Bool) (xs ys : List Value) : List (Bool × TypeId × Nat) → R Bool
  | [] => .ok true
  | (n, t, o) :: fs => bif n then .no 85 else
    (partF tb t xs o).bind fun a => (partF tb t ys o).bind fun b => (eq t a b).bind fun
      | true => fieldsEqS tb eq xs ys fs
      | false => .ok false
theorem fieldsEq_S (eq : TypeId → Value → Value → R Bool) (xs ys : List Value) : ∀ fs : List Field, fieldsEq tb eq xs ys fs = fieldsEqS tb eq xs ys (fs.map fun f => (f.name == "_", f.type, f.offset))
  | [] => rfl
  | f :: fs => by
    have ih := fieldsEq_S eq xs ys fs
    show fieldsEq tb eq xs ys (f :: fs) = fieldsEqS tb eq xs ys ((f.name == "_", f.type, f.offset) :: fs.map fun f => (f.name == "_", f.type, f.offset))
    unfold fieldsEq fieldsEqS
    cases f.name == "_" with
    | true => rfl
    | false =>
      simp only [cond_false]
      cases partF tb f.type xs f.offset with
      | no _ => rfl
      | ok a =>
        cases partF tb f.type ys f.offset with
        | no _ => rfl
        | ok b =>
          simp only [R.ok_bind]
          cases eq f.type a b with
          | no _ => rfl
          | ok r => cases r with
            | true => exact ih
            | false => rfl
theorem equal_struct {g : Nat → Option Ob} {t : TypeId} {sh : List (Bool × TypeId × Nat)} (h1 : isStruct (tb.und t) = true) (h2 : fieldsOf (tb.und t) = sh) (h3 : tb.P.stoodInHeld t = false) (d : Nat) (xs ys : Array Value) :
    equalF tb g (d + 1) t (.agg xs) (.agg ys) = fieldsEqS tb (equalF tb g d) xs.toList ys.toList sh := by
  subst h2
  unfold equalF
  cases hu : tb.und t with
  | none => rw [hu] at h1; cases h1
  | some ds =>
    cases ds with
    | struct fs =>
      simp only [h3, cond_false]
      rw [fieldsEq_S]
      rfl
    | _ => rw [hu] at h1; cases h1
theorem equal_int {g : Nat → Option Ob} {t : TypeId} {k k' : IntKind} (h : tb.und t = some (.int k)) (d : Nat) (a b : Int) : equalF tb g (d + 1) t (.int k' a) (.int k' b) = .ok (decide (a = b)) := by
  unfold equalF
  have hk : kindEq k' k' = true := by cases k' <;> rfl
  simp only [h, hk, cond_true, ieqF_eq]
  rfl
theorem equal_str {g : Nat → Option Ob} {t : TypeId} (h : tb.und t = some .string) (d : Nat) (a b : List UInt8) : equalF tb g (d + 1) t (strOf a) (strOf b) = .ok (decide (a = b)) := by
  unfold equalF
  simp only [h, strOf, bytesEq_eq]
  congr 1
  rw [Bool.eq_iff_iff]; simp
theorem equal_bool {g : Nat → Option Ob} {t : TypeId} (h : tb.und t = some .bool) (d : Nat) (a b : Bool) : equalF tb g (d + 1) t (.bool a) (.bool b) = .ok (decide (a = b)) := by
  unfold equalF
  simp only [h]
  cases a <;> cases b <;> rfl
theorem part_one {t : TypeId} {cs : List Value} {o : Nat} {d : TypeDesc} {v : Value} (h : tb.und t = some d) (ha : isAggD d = false) (hv : cs[o]? = some v) : partF tb t cs o = .ok v := by
  unfold partF
  simp only [h, ha, cond_false, hv]
end Go.Am

/-
  The abstract machine AM, part 55: slices of plain values among a law's arguments, however many; the whole world as memory.
-/
namespace Go.Am
variable {tb : Tab} (ok : TabOk tb)

/-- Values that mean the same in every memory. -/
def plainV : Value → Bool
  | .int _ _ => true
  | .string _ => true
  | .bool _ => true
  | _ => false
theorem plain_VR {ι : Inj} {v : Value} (h : plainV v = true) : VR ι v v := by
  cases v <;> first | exact .int _ _ | exact .string _ | exact .bool _ | cases h
/-- The plain ones of some cells. -/
noncomputable def keepT : List Value → Nat → T Value → T Value
  | [], _, c => c
  | v :: l, i, c => keepT l (i + 1) (bif plainV v then c.set i v else c)
theorem keepT_get : ∀ (l : List Value) (i : Nat) (c : T Value) (j : Nat), (keepT l i c).get j = if i ≤ j ∧ j < i + l.length ∧ (l[j - i]?.map plainV) = some true then l[j - i]? else c.get j
  | [], i, c, j => by
    unfold keepT
    rw [if_neg (fun h => by
      have := h.2.1
      simp only [List.length_nil] at this
      omega)]
  | v :: l, i, c, j => by
    unfold keepT
    rw [keepT_get l (i + 1)]
    by_cases hj : j = i
    · subst hj
      rw [if_neg (by omega), Nat.sub_self, List.getElem?_cons_zero]
      cases hp : plainV v with
      | true => rw [cond_true, T.get_set, if_pos rfl, if_pos ⟨Nat.le_refl _, by simp, by simp [hp]⟩]
      | false => rw [cond_false, if_neg (fun h => by simp [hp] at h)]
    · have hc : (bif plainV v then c.set i v else c).get j = c.get j := by
        cases plainV v with
        | true => rw [cond_true, T.get_set, if_neg hj]
        | false => rfl
      rw [hc]
      by_cases hij : i + 1 ≤ j
      · have e : (v :: l)[j - i]? = l[j - (i + 1)]? := by
          rw [show j - i = (j - (i + 1)) + 1 by omega, List.getElem?_cons_succ]
        rw [e]
        simp only [List.length_cons]
        by_cases hx : j < i + 1 + l.length ∧ (l[j - (i + 1)]?.map plainV) = some true
        · rw [if_pos ⟨hij, hx.1, hx.2⟩, if_pos ⟨by omega, by omega, hx.2⟩]
        · rw [if_neg (fun h => hx h.2), if_neg (fun h => hx ⟨by omega, h.2.2⟩)]
      · rw [if_neg (fun h => hij h.1), if_neg (fun h => by omega)]
theorem keep_some {l : List Value} {j : Nat} {v : Value} (h : (keepT l 0 .e).get j = some v) : l[j]? = some v ∧ plainV v = true := by
  rw [keepT_get] at h
  split at h
  · rename_i hx
    rw [Nat.sub_zero] at h hx
    rw [h] at hx
    exact ⟨h, by simpa using hx.2.2⟩
  · rw [T.get_e] at h; cases h
theorem keep_get {l : List Value} {j : Nat} {v : Value} (h : l[j]? = some v) (hp : plainV v = true) : (keepT l 0 .e).get j = some v := by
  rw [keepT_get, Nat.sub_zero, if_pos ⟨Nat.zero_le _, by have := (List.getElem?_eq_some_iff.1 h).1; omega, by rw [h]; simp [hp]⟩, h]

/-! ### A world, as memory -/
noncomputable def wOb : Obj → Ob
  | .cells cs t fr => .cells t .row (9223372036854775808 + cs.size + fr.2 + 1) (keepT cs.toList 0 .e)
  | _ => .dead
noncomputable def wMem (w : World) (n : Nat) : Mem := ⟨T.ofList (w.heap.toList.map wOb), w.heap.size + n⟩
/-- Each row is itself; and there are blocks of nothing, that lead somewhere. -/
def wInj (w : World) (ex : List (Option Loc)) (b : Nat) : Option Loc :=
  if b < w.heap.size then match w.heap[b]? with
    | some (.cells cs _ _) => some ⟨b, 0, cs.size⟩
    | _ => none
  else (ex[b - w.heap.size]?).join
theorem wMem_get (w : World) (n b : Nat) : (wMem w n).get b = (w.heap[b]?).map wOb := by
  show (T.ofList (w.heap.toList.map wOb)).get b = _
  rw [T.get_ofList, List.getElem?_map, Array.getElem?_toList]
theorem wInj_cells {w : World} {ex : List (Option Loc)} {b : Nat} {cs : Array Value} {t : TypeId} {fr : Nat × Nat} (h : w.heap[b]? = some (.cells cs t fr)) : wInj w ex b = some ⟨b, 0, cs.size⟩ := by
  unfold wInj
  rw [if_pos (Array.getElem?_eq_some_iff.1 h).1, h]
theorem wInj_get {w : World} {ex : List (Option Loc)} {b : Nat} {o : Ob} {l : Loc} (hg : (wMem w ex.length).get b = some o) (hl : wInj w ex b = some l) : ∃ cs t fr, w.heap[b]? = some (.cells cs t fr) ∧ o = wOb (.cells cs t fr) ∧ l = ⟨b, 0, cs.size⟩ := by
  rw [wMem_get] at hg
  cases hb : w.heap[b]? with
  | none => rw [hb] at hg; cases hg
  | some o' =>
    rw [hb] at hg
    have hlt := (Array.getElem?_eq_some_iff.1 hb).1
    unfold wInj at hl
    rw [if_pos hlt, hb] at hl
    cases o' with
    | cells cs t fr =>
      cases hl
      exact ⟨cs, t, fr, rfl, (Option.some.inj hg).symm, rfl⟩
    | _ => cases hl
theorem wRel (w : World) (ex : List (Option Loc)) (hex : ∀ l, some l ∈ ex → l.blk < w.heap.size) : Rel (wInj w ex) (wMem w ex.length) w := by
  refine ⟨fun b hb => ?_, fun b o l hg _ hl => ?_, fun b l hl => ?_, fun b b' l l' hb hb' hl hl' he => ?_⟩
  · have hb' : w.heap.size + ex.length ≤ b := hb
    rw [wMem_get, Array.getElem?_eq_none (by omega)]; rfl
  · obtain ⟨cs, t, fr, h1, rfl, rfl⟩ := wInj_get hg hl
    refine ⟨_, h1, cs, fr, rfl, rfl, fun i v hv => ?_, ?_⟩
    · obtain ⟨h2, h3⟩ := keep_some hv
      rw [Array.getElem?_toList] at h2
      exact ⟨v, h2, plain_VR h3⟩
    · show fr.2 ≤ 0 + (9223372036854775808 + cs.size + fr.2 + 1)
      omega
  · unfold wInj at hl
    split at hl
    · rename_i hlt
      split at hl
      · cases hl; exact hlt
      · cases hl
    · cases hx : ex[b - w.heap.size]? with
      | none => rw [hx] at hl; cases hl
      | some ol =>
        rw [hx] at hl
        cases ol with
        | none => cases hl
        | some l0 =>
          cases hl
          exact hex _ (List.mem_of_getElem? hx)
  · obtain ⟨o, hg, _⟩ := hb
    obtain ⟨o', hg', _⟩ := hb'
    obtain ⟨_, _, _, _, _, rfl⟩ := wInj_get hg hl
    obtain ⟨_, _, _, _, _, rfl⟩ := wInj_get hg' hl'
    exact he
include ok in
/-- A law that answers true on the abstract machine, on the whole world as memory. -/
theorem all_true {w : World} (ex : List (Option Loc)) (hex : ∀ l, some l ∈ ex → l.blk < w.heap.size) {f : FuncId} {fn : Func} {c : Code} (hf : tb.fn.get f = some fn) (hb : fn.body = some c) {args : List Value} {args' : Array Value} (ha : VRs (wInj w ex) args args'.toList)
    (hlaw : ∃ A', CallsTo tb f args (wMem w ex.length) (.bool true) A') : Calls tb.P f args' w fun e w' => e = .returned (.bool true) ∧ Leaves w w' := by
  intro cs
  obtain ⟨A', n, hc⟩ := hlaw
  obtain ⟨e, w', fr, ⟨ι', v', he, hv, hl⟩, st⟩ := call_still ok hc hf hb args' w (wRel w ex hex) ha (fun b hb => by
    have hb' : w.heap.size + ex.length ≤ b := hb
    unfold wInj
    rw [if_neg (by omega), List.getElem?_eq_none (by omega)]
    rfl) (fun b l hb hl => by
    obtain ⟨o, hg, _⟩ := hb
    obtain ⟨cs, t, fr, h1, rfl, rfl⟩ := wInj_get hg hl
    refine ⟨?_, t, _, _, hg, by omega, ?_⟩
    · show b < w.heap.size + ex.length
      have := (Array.getElem?_eq_some_iff.1 h1).1
      omega
    · show cs.size < 9223372036854775808 + cs.size + fr.2 + 1
      omega) cs
  cases hv
  exact ⟨e, w', fr, ⟨he, hl⟩, st⟩

/-! ### A slice that came in -/
/-- In the model: len values of n plain cells each. -/
def ParWs (w : World) (n : Nat) (a : Option Addr) (len cap : Nat) (vs : List Value) : Prop :=
  (a = none ∧ len = 0 ∧ cap = 0) ∨
  ∃ x, a = some x ∧ x.spot = none ∧ x.block < w.heap.size ∧ len ≤ cap ∧ cap < 2 ^ 63 ∧ vs.length = cap * n ∧ (∀ (i : Nat) v, vs[i]? = some v → w.cell? (x.add i) = some v) ∧ ∀ v ∈ vs, plainV v = true
/-- On the abstract machine. -/
def ParG (A : Mem) (n len : Nat) (vs : List Value) (x : Value) : Prop :=
  (x = .slice none 0 0 ∧ len = 0) ∨
  ∃ q off, x = .slice (some ⟨q, off, none⟩) len (mkX len n) ∧ q < A.next ∧ (len * n = 0 ∨ ∃ t fz c, A.get q = some (.cells t .row fz c) ∧ ∀ i, i < len * n → ∃ v, vs[i]? = some v ∧ c.get (off + i) = some v)
def dumL (a : Option Addr) (cap n : Nat) : Option Loc := a.map fun x => ⟨x.block, x.off, x.off + cap * n⟩
theorem dum_lt {w : World} {n : Nat} {a : Option Addr} {len cap : Nat} {vs : List Value} (h : ParWs w n a len cap vs) {l : Loc} (hl : some l = dumL a cap n) : l.blk < w.heap.size := by
  rcases h with ⟨rfl, _⟩ | ⟨x, rfl, _, h, _⟩
  · cases hl
  · cases hl; exact h
theorem par_one {w : World} {n : Nat} {a : Option Addr} {len cap : Nat} {vs : List Value} (hn : n < 65536) (h : ParWs w n a len cap vs) {ex : List (Option Loc)} {j : Nat} (hj : ex[j]? = some (dumL a cap n)) :
    ∃ x, VR (wInj w ex) x (.slice a len cap) ∧ ParG (wMem w ex.length) n len vs x := by
  have hjl := (List.getElem?_eq_some_iff.1 hj).1
  rcases h with ⟨rfl, rfl, rfl⟩ | ⟨x, rfl, hsp, hblk, hlc, hcap, hlen, hcell, hpl⟩
  · exact ⟨.slice none 0 0, .slN, .inl ⟨rfl, rfl⟩⟩
  · obtain ⟨xb, xo, xs⟩ := x
    simp only at hsp hblk
    subst hsp
    by_cases h0 : len * n = 0
    · refine ⟨.slice (some ⟨w.heap.size + j, 0, none⟩) len (mkX len n), ?_, .inr ⟨_, _, rfl, by show w.heap.size + j < w.heap.size + ex.length; omega, .inl h0⟩⟩
      have h1 : capN (mkX len n) = len := capN_mkX hn
      have h2 : capE (mkX len n) = n := capE_mkX hn
      refine VR.slX (l := ⟨xb, xo, xo + cap * n⟩) (o' := xo) ?_ (capX_mkX _ _) (by rw [h1]; exact hlc) (by rw [h2]; exact Nat.le_refl _) (fun _ => by simp) hcap (by rw [h1]; exact Nat.le_refl _)
      unfold wInj
      rw [if_neg (by omega), Nat.add_sub_cancel_left, hj]
      rfl
    · have hpos : 0 < cap * n := by
        have hn0 : 0 < n := Nat.pos_of_ne_zero fun e => h0 (by rw [e, Nat.mul_zero])
        have hl0 : 0 < len := Nat.pos_of_ne_zero fun e => h0 (by rw [e, Nat.zero_mul])
        exact Nat.mul_pos (by omega) hn0
      have hle : len * n ≤ cap * n := Nat.mul_le_mul_right n hlc
      have hv : ∀ i, i < cap * n → ∃ v, vs[i]? = some v := fun i hi => ⟨_, List.getElem?_eq_getElem (show i < vs.length by omega)⟩
      have hc0 := hv 0 hpos
      obtain ⟨v0, hv0⟩ := hc0
      have hw0 := hcell 0 v0 hv0
      rw [Addr_add_mk] at hw0
      unfold World.cell? at hw0
      split at hw0
      · rename_i cs t fr hw
        have hw' : w.heap[xb]? = some (.cells cs t fr) := hw
        have hcs : ∀ i v, vs[i]? = some v → cs[xo + i]? = some v := by
          intro i v hi
          have h := hcell i v hi
          rw [Addr_add_mk] at h
          unfold World.cell? at h
          simp only [hw', Option.isSome_none, Bool.false_eq_true, if_false] at h
          exact h
        have hsz : xo + cap * n ≤ cs.size := by
          obtain ⟨v, hv⟩ := hv (cap * n - 1) (by omega)
          have := (Array.getElem?_eq_some_iff.1 (hcs _ _ hv)).1
          omega
        have h1 : capN (mkX len n) = len := capN_mkX hn
        have h2 : capE (mkX len n) = n := capE_mkX hn
        refine ⟨.slice (some ⟨xb, xo, none⟩) len (mkX len n), VR.slX (l := ⟨xb, 0, cs.size⟩) (o' := xo) (wInj_cells hw') (capX_mkX _ _) (by rw [h1]; exact hlc) (by rw [h2]; exact hsz) (fun _ => by simp) hcap (by rw [h1]; exact Nat.le_refl _), .inr ⟨xb, xo, rfl, by show xb < w.heap.size + ex.length; omega, .inr ⟨t, _, _, by rw [wMem_get, hw']; rfl, fun i hi => ?_⟩⟩⟩
        obtain ⟨v, hvi⟩ := hv i (by omega)
        refine ⟨v, hvi, keep_get ?_ (hpl v (List.mem_of_getElem? hvi))⟩
        rw [Array.getElem?_toList]
        exact hcs i v hvi
      · cases hw0
theorem ParW.toWs {k : IntKind} {w : World} {a : Option Addr} {len cap : Nat} {zs : List Int} (h : ParW k w a len cap zs) : ParWs w 1 a len cap (zs.map (.int k)) := by
  rcases h with ⟨h1, h2, h3, -⟩ | ⟨x, h1, h2, h3, h4, h5, h6, h7⟩
  · exact .inl ⟨h1, h2, h3⟩
  · refine .inr ⟨x, h1, h2, h3, h4, h5, by rw [List.length_map, h6, Nat.mul_one], fun i v hi => ?_, fun v hv => ?_⟩
    · have hl : i < zs.length := by
        have := (List.getElem?_eq_some_iff.1 hi).1
        rwa [List.length_map] at this
      rw [h7 i hl]
      rw [List.getElem?_map, List.getElem?_eq_getElem hl] at hi
      simp only [Option.map_some, Option.some.injEq] at hi
      rw [← hi]
      simp [List.getD, List.getElem?_eq_getElem hl]
    · obtain ⟨z, -, rfl⟩ := List.mem_map.1 hv
      rfl
end Go.Am

/-
  The abstract machine AM, part 56: nil checks; sums of any integers.
-/
namespace Go.Am
variable {tb : Tab}

def nilF (x : Value) : R Value := match x with
  | .pointer (some a) => .ok (.pointer (some a))
  | .iface a b => .ok (.iface a b)
  | .map a => .ok (.map a)
  | .func (.func f) a b => .ok (.func (.func f) a b)
  | .func (.yield f) a b => .ok (.func (.yield f) a b)
  | _ => .no 213
theorem nil_ptr (a : Addr) : nilF (.pointer (some a)) = .ok (.pointer (some a)) := rfl
theorem opF_nilCheck {ih : Code → St → R (Ex × St)} {dst : Option Tmp} {ty : TypeId} {pos : String} {after : Array Edge} {g : Option (Nat × Bool)} {s : St} {k : St → R (Ex × St)} (x : Operand) : opF tb ih { dst, op := .nilCheck x, type := ty, pos, after, guard := g } s k =
    (ev s.t x).bind fun a => (nilF a).bind fun v => putT s dst v k := by
  rw [opF_P (hc := rfl) (hi := rfl)]
  simp only [pOp, R.bind_bind]
  rfl
theorem op_addI {a b : Int} (h1 : -9223372036854775808 ≤ a + b) (h2 : a + b ≤ 9223372036854775807) : intOpF .add .i64 a b = .ok (.int .i64 (a + b)) := by
  show R.ok (Value.int .i64 (wrapF .i64 (a + b))) = _
  rw [wrapF_eq, wrap_in h1 h2]
end Go.Am
