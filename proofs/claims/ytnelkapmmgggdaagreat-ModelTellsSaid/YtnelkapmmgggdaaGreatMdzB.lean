/-
  What the functions of this group compute on the abstract machine, and the plain laws of it. Part B: conditions stand in each theorem.
-/
import Derived.Test.YtnelkapmmgggdaaGreatMdzA

set_option maxHeartbeats 16000000
set_option maxRecDepth 20000
/-
 Model: two lists are alike; an entry is looked for, as the document does.
-/
namespace Go.Proofs.YtnelkapmmgggdaaGreat.mdl
open Go.Am Go.Mdl
set_option linter.unusedSimpArgs false
set_option linter.unusedVariables false
set_option linter.unusedVariables false

theorem und24' : tb4.und 41 = some (.int .u32) := by kernel_rfl
theorem shape45 : fieldsOf (tb4.und 59) = [(false, 9, 0), (false, 41, 1), (false, 4, 2)] := by kernel_rfl
theorem eqm45 (x y : Operand) (a b : Array Value) : eqMay tb4 59 x y (.agg a) (.agg b) = true := by
 show (!tb4.P.eqGuardType tb4.P.depth 59) = true
 have : tb4.P.eqGuardType tb4.P.depth 59 = false := by decide +kernel
 rw [this]; rfl
theorem equal45 {g : Nat → Option Ob} {e f : EntD} : equalF tb4 g 100 59 (.agg ⟨entC e⟩) (.agg ⟨entC f⟩) = .ok (decide (e = f)) := by
 rw [equal_struct (by kernel_rfl) shape45 (by kernel_rfl)]
 simp only [fieldsEqS, cond_false, entC]
 rw [part_one und9' rfl rfl, part_one und9' rfl rfl, part_one (o := 1) und24' rfl rfl, part_one (o := 1) und24' rfl rfl, part_one (o := 2) und4' rfl rfl, part_one (o := 2) und4' rfl rfl]
 simp only [R.ok_bind, equal_int (tb := tb4) (t := 41) und24', equal_str (tb := tb4) (t := 9) und9', equal_bool (tb := tb4) (t := 4) und4']
 have hh : ((e.weight : Int) = (f.weight : Int)) = (e.weight = f.weight) := propext Int.natCast_inj
 simp only [hh]
 obtain ⟨a0, a1, a2⟩ := e
 obtain ⟨b0, b1, b2⟩ := f
 by_cases h0 : a0 = b0 <;> by_cases h1 : a1 = b1 <;> by_cases h2 : a2 = b2 <;> simp [h0, h1, h2, R.ok_bind]
theorem neq45 {g : Nat → Option Ob} {x y : Operand} {e f : EntD} : eqF tb4 g .neq 59 x y (.agg ⟨entC e⟩) (.agg ⟨entC f⟩) = .ok (.bool (!decide (e = f))) := by
 unfold eqF
 rw [eqm45, cond_true]
 simp only []
 rw [equal45]
 rfl
noncomputable def c12 : Code := Tryz.f7.body.getD .skip
noncomputable def c12b1 : Code := sub c12 [1,1,0,1,0,0]
theorem c12_eq : Tryz.f7.body = some (.seq (sub c12 [0]) (.seq (.seq (sub c12 [1,0,0]) (sub c12 [1,0,1])) (.seq (.seq (sub c12 [1,1,0,0]) (.block 0 (.loop c12b1))) (.seq (sub c12 [1,1,1,0]) (sub c12 [1,1,1,1]))))) := by kernel_rfl
theorem EntS.at {A : Mem} {b i : Nat} {l : List EntD} {x : Value} {e : EntD} (h : EntS A b l x) (he : l[i]? = some e) : indexAddrF tb4 24 x (.int .i64 ((i : Nat) : Int)) = .ok (.pointer (some ⟨b, i * 3, none⟩)) ∧ loadF tb4 A.get 59 (.pointer (some ⟨b, i * 3, none⟩)) = .ok (.agg ⟨entC e⟩) := by
 obtain ⟨d45, hd1, hd2⟩ := und45'
 exact ⟨h.idx und32' size45' (by rw [List.length_map]; exact (List.getElem?_eq_some_iff.1 he).1), h.load_all hd1 hd2 size45' (by rw [List.getElem?_map, he]; rfl)⟩
theorem EntS.lens {A : Mem} {b : Nat} {l : List EntD} {x : Value} (h : EntS A b l x) : builtinPF tb4 .len [24] [x] = .ok (.int .i64 ((l.length : Nat) : Int)) := by
 have := h.len (tb := tb4) und32'
 rwa [List.length_map] at this
theorem run_same {A : Mem} {k l : List EntD} {x y : Value} (h : EntE A k x) (h' : EntE A l y) (hk : k.length < 1000000) (hl : l.length < 1000000) : Ans tb4 7 [x, y] A (.bool (decide (k = l))) A := by
 obtain ⟨b, h⟩ := h
 obtain ⟨b', h'⟩ := h'
 obtain ⟨v, A', hg, rfl, rfl⟩ : ∃ v A', Ans tb4 7 [x, y] A v A' ∧ v = .bool (decide (k = l)) ∧ A' = A := by
  refine ans_of_W (fn_at Tryz.func7) c12_eq (by rw [Tryz.ntmps7]; simp) (by kernel_rfl) (by kernel_rfl) ?_
  have l1 := h.lens
  have l2 := h'.lens
  apply W.seq
  apply W.run 20
  ·intro M
   simp (disch := first | decide +kernel | omega) only [c12, Tryz.f7, Aq, Nat.reduceEqDiff]
   with_reducible rfl
  apply W.seq
  apply W.seq
  by_cases hlen : k.length = l.length
  rotate_left
  ·apply W.run 20
   ·intro M
    simp (disch := first | decide +kernel | omega) only [c12, Tryz.f7, Aq, Nat.reduceEqDiff, l1, l2, hlen]
    with_reducible rfl
   apply W.run 20
   ·intro M
    simp (disch := first | decide +kernel | omega) only [c12, Tryz.f7, Aq, Nat.reduceEqDiff]
    with_reducible rfl
   refine ⟨.inr rfl, _, [.bool false], rfl, ?_, ?_, rfl⟩
   ·simp only [Tryz.f7, resF, ev_tmp, T.get_set, Nat.reduceEqDiff, if_true, if_false, evG_some, R.ok_bind]
   ·rw [decide_eq_false (fun e => hlen (by rw [e]))]; rfl
  ·apply W.run 20
   ·intro M
    simp (disch := first | decide +kernel | omega) only [c12, Tryz.f7, Aq, Nat.reduceEqDiff, l1, l2, hlen]
    with_reducible rfl
   apply W.run 20
   ·intro M
    simp (disch := first | decide +kernel | omega) only [c12, Tryz.f7, Aq, Nat.reduceEqDiff]
    with_reducible rfl
   apply W.seq
   apply W.seq
   apply W.run 20
   ·intro M
    simp (disch := first | decide +kernel | omega) only [c12, Tryz.f7, Aq, Nat.reduceEqDiff]
    with_reducible rfl
   apply W.block
   refine W.up k.length (fun i t C => C = A ∧ k.take i = l.take i ∧ Sl t [(0, x), (1, y), (5, .int .i64 (i : Int))]) ?_ (Nat.zero_le _) ⟨rfl, rfl, ?_⟩
   ·rintro i t C hi ⟨rfl, heq, g0, g1, g5, -⟩
    by_cases hlt : i < k.length
    ·have ek : k[i]? = some k[i] := List.getElem?_eq_getElem hlt
     have el : l[i]? = some (l[i]'(by omega)) := List.getElem?_eq_getElem (by omega)
     obtain ⟨a1, a2⟩ := h.at ek
     obtain ⟨b1, b2⟩ := h'.at el
     by_cases he : k[i] = l[i]'(by omega)
     ·rw [← he] at b2
      have hd : (!decide (k[i] = k[i])) = false := by simp
      have nq := fun x y => neq45 (g := C.get) (x := x) (y := y) (e := k[i]) (f := k[i])
      rw [hd] at nq
      apply W.run 20
      ·intro M
       simp (disch := first | decide +kernel | omega) only [c12b1, c12, Tryz.f7, Aq, Nat.reduceEqDiff, g0, g1, g5, l1, hlt, a1, a2, b1, b2, opF_neqR, nq]
       with_reducible rfl
      refine ⟨hlt, _, _, rfl, rfl, ?_, ?_⟩
      ·rw [List.take_succ_eq_append_getElem hlt, List.take_succ_eq_append_getElem (by omega), heq, he]
      ·simp only [Sl_cons, Sl_nil, T.get_set, T.puts_cons, T.puts_nil, Nat.reduceEqDiff, Nat.reduceAdd, if_true, if_false, and_true, true_and, g0, g1]
     ·have hd : (!decide (k[i] = l[i]'(by omega))) = true := by simp [he]
      have nq := fun x y => neq45 (g := C.get) (x := x) (y := y) (e := k[i]) (f := l[i]'(by omega))
      rw [hd] at nq
      apply W.run 20
      ·intro M
       simp (disch := first | decide +kernel | omega) only [c12b1, c12, Tryz.f7, Aq, Nat.reduceEqDiff, g0, g1, g5, l1, hlt, a1, a2, b1, b2, opF_neqR, nq]
       with_reducible rfl
      refine ⟨.inr rfl, _, [.bool false], rfl, ?_, ?_, rfl⟩
      ·simp only [Tryz.f7, resF, ev_tmp, T.get_set, Nat.reduceEqDiff, if_true, if_false, evG_some, R.ok_bind]
      ·rw [decide_eq_false (fun e => he (by subst e; rfl))]; rfl
    ·have hin : i = k.length := by omega
     subst hin
     apply W.run 20
     ·intro M
      simp (disch := first | decide +kernel | omega) only [c12b1, c12, Tryz.f7, Aq, Nat.reduceEqDiff, g0, g5, l1]
      with_reducible rfl
     apply W.seq
     apply W.run 20
     ·intro M
      simp (disch := first | decide +kernel | omega) only [c12, Tryz.f7, Aq, Nat.reduceEqDiff]
      with_reducible rfl
     apply W.run 20
     ·intro M
      simp (disch := first | decide +kernel | omega) only [c12, Tryz.f7, Aq, Nat.reduceEqDiff]
      with_reducible rfl
     refine ⟨.inr rfl, _, [.bool true], rfl, ?_, ?_, rfl⟩
     ·simp only [Tryz.f7, resF, ev_tmp, T.get_set, Nat.reduceEqDiff, if_true, if_false, evG_some, R.ok_bind]
     ·rw [List.take_length, hlen, List.take_length] at heq
      rw [decide_eq_true heq]; rfl
   ·simp only [Sl_cons, Sl_nil, T.get_set, T.puts_cons, T.puts_nil, Nat.reduceEqDiff, Nat.reduceAdd, if_true, if_false, and_true, true_and]
 exact hg
end Go.Proofs.YtnelkapmmgggdaaGreat.mdl

/-
 Model: an entry is looked for, as the document does.
-/
namespace Go.Proofs.YtnelkapmmgggdaaGreat.mdl
open Go.Am Go.Mdl
set_option linter.unusedSimpArgs false
set_option linter.unusedVariables false
set_option linter.unusedVariables false

theorem find_at {w : List UInt8} : ∀ {l : List EntD} {i : Nat} {e : EntD}, l[i]? = some e → e.word = w → (∀ y ∈ l.take i, y.word ≠ w) → find w l = some e
 | [], _, _, h, _, _ => by simp at h
 | x :: l, 0, e, h, he, _ => by
  rw [List.getElem?_cons_zero, Option.some.injEq] at h
  subst h
  simp [find, he]
 | x :: l, i + 1, e, h, he, hn => by
  have hx : x.word ≠ w := hn x (by simp)
  have ih := find_at (l := l) (i := i) (by rwa [List.getElem?_cons_succ] at h) he fun y hy => hn y (by simp [hy])
  rw [show find w (x :: l) = find w l by simp [find, hx]]
  exact ih
theorem fb0o {b o : Nat} : fieldAddrF tb4 59 (.pointer (some ⟨b, o, none⟩)) 0 = .ok (.pointer (some ⟨b, o, none⟩)) := by kernel_rfl
theorem EntS.word {A : Mem} {b i : Nat} {l : List EntD} {x : Value} {e : EntD} (h : EntS A b l x) (he : l[i]? = some e) : loadF tb4 A.get 9 (.pointer (some ⟨b, i * 3, none⟩)) = .ok (strOf e.word) :=
 h.load und9' rfl (j := 0) (by rw [List.getElem?_map, he]; rfl) rfl (by decide)
noncomputable def c13 : Code := Tryz.f45.body.getD .skip
noncomputable def c13b1 : Code := sub c13 [1,0,1,0,0]
theorem c13_eq : Tryz.f45.body = some (.seq (sub c13 [0]) (.seq (.seq (sub c13 [1,0,0]) (.block 0 (.loop c13b1))) (.seq (sub c13 [1,1,0]) (sub c13 [1,1,1])))) := by kernel_rfl
theorem run_rfind {A : Mem} {l : List EntD} {x : Value} {w : List UInt8} (h : EntE A l x) (hl : l.length < 1000000) :
  ∃ A', Ans tb4 45 [x, strOf w] A (.tuple ⟨[.agg ⟨entC ((find w l).getD zeroE)⟩, .bool (find w l).isSome]⟩) A' ∧ Kp A A' := by
 obtain ⟨b, h⟩ := h
 obtain ⟨v, A', hg, rfl, hk⟩ : ∃ v A', Ans tb4 45 [x, strOf w] A v A' ∧ v = .tuple ⟨[.agg ⟨entC ((find w l).getD zeroE)⟩, .bool (find w l).isSome]⟩ ∧ Kp A A' := by
  refine ans_of_W (fn_at Tryz.func45) c13_eq (by rw [Tryz.ntmps45]; simp) (by kernel_rfl) (by kernel_rfl) ?_
  obtain ⟨d45, hd1, hd2⟩ := und45'
  have hz : Vals (A.alloc (rowOb 59 [.string .empty, .int .u32 0, .bool false])) 59 A.next (.var 3) [.string .empty, .int .u32 0, .bool false] := vals_puts (get_alloc_self _ _)
  have hkp := Kp.alloc A (rowOb 59 [.string .empty, .int .u32 0, .bool false])
  have h' := h.kp hkp
  have l1 := h'.lens
  have fin : ∀ e : EntD, ∃ C2, storeF tb4 (A.alloc (rowOb 59 [.string .empty, .int .u32 0, .bool false])) 59 (.pointer (some ⟨A.next, 0, none⟩)) (.agg ⟨entC e⟩) = .ok C2 ∧ loadF tb4 C2.get 59 (.pointer (some ⟨A.next, 0, none⟩)) = .ok (.agg ⟨entC e⟩) ∧ Kp A C2 := by
   intro e
   obtain ⟨C2, s2, v2, n2, k2⟩ := store_all (tb := tb4) (t := 59) (l := [.string .empty, .int .u32 0, .bool false]) (l' := entC e) size45' hz rfl (by simp) (entC_one _)
   exact ⟨C2, s2, load_all hd1 hd2 size45' v2, by rw [Kp, n2]; exact ⟨hkp.1, fun z hz => by rw [k2 z (by omega), hkp.2 z hz]⟩⟩
  apply W.seq
  apply W.run 20
  ·intro M
   simp (disch := first | decide +kernel | omega) only [c13, Tryz.f45, Aq, Nat.reduceEqDiff, z45, cells_agg]
   with_reducible rfl
  apply W.seq
  apply W.seq
  apply W.run 20
  ·intro M
   simp (disch := first | decide +kernel | omega) only [c13, Tryz.f45, Aq, Nat.reduceEqDiff]
   with_reducible rfl
  apply W.block
  refine W.up l.length (fun i t C => C = A.alloc (rowOb 59 [.string .empty, .int .u32 0, .bool false]) ∧ (∀ y ∈ l.take i, y.word ≠ w) ∧ Sl t [(0, x), (1, strOf w), (4, .pointer (some ⟨A.next, 0, none⟩)), (6, .int .i64 (i : Int))]) ?_ (Nat.zero_le _) ⟨rfl, by simp, ?_⟩
  ·rintro i t C hi ⟨rfl, hn, g0, g1, g4, g6, -⟩
   by_cases hlt : i < l.length
   ·have el : l[i]? = some l[i] := List.getElem?_eq_getElem hlt
    obtain ⟨a1, a2⟩ := h'.at el
    have a3 := h'.word el
    by_cases he : l[i].word = w
    ·have hf := find_at el he hn
     obtain ⟨C2, s2, l2, k2⟩ := fin l[i]
     apply W.run 20
     ·intro M
      simp (disch := first | decide +kernel | omega) only [c13b1, c13, Tryz.f45, Aq, Nat.reduceEqDiff, g0, g1, g4, g6, l1, hlt, a1, fb0o, a2, a3, he, s2]
      with_reducible rfl
     refine ⟨.inr rfl, C2, [.agg ⟨entC l[i]⟩, .bool true], rfl, ?_, by rw [hf]; rfl, k2⟩
     simp only [Tryz.f45, resF, ev_tmp, T.get_set, Nat.reduceEqDiff, if_true, if_false, evG_some, R.ok_bind, l2, g4]
    ·apply W.run 20
     ·intro M
      simp (disch := first | decide +kernel | omega) only [c13b1, c13, Tryz.f45, Aq, Nat.reduceEqDiff, g0, g1, g4, g6, l1, hlt, a1, fb0o, a2, a3, he]
      with_reducible rfl
     refine ⟨hlt, _, _, rfl, rfl, ?_, ?_⟩
     ·intro y hy
      rw [List.take_succ_eq_append_getElem hlt] at hy
      rcases List.mem_append.1 hy with hy | hy
      ·exact hn y hy
      ·simp only [List.mem_singleton] at hy
       rw [hy]; exact he
     ·simp only [Sl_cons, Sl_nil, T.get_set, T.puts_cons, T.puts_nil, Nat.reduceEqDiff, Nat.reduceAdd, if_true, if_false, and_true, true_and, g0, g1, g4]
   ·have hin : i = l.length := by omega
    subst hin
    rw [List.take_length] at hn
    have hf := find_none hn
    obtain ⟨C2, s2, l2, k2⟩ := fin zeroE
    have hbz : buildF tb4 59 [] = .ok (.agg ⟨entC zeroE⟩) := by kernel_rfl
    apply W.run 20
    ·intro M
     simp (disch := first | decide +kernel | omega) only [c13b1, c13, Tryz.f45, Aq, Nat.reduceEqDiff, g0, g6, l1]
     with_reducible rfl
    apply W.seq
    apply W.run 20
    ·intro M
     simp (disch := first | decide +kernel | omega) only [c13, Tryz.f45, Aq, Nat.reduceEqDiff, hbz, g4, s2]
     with_reducible rfl
    apply W.run 20
    ·intro M
     simp (disch := first | decide +kernel | omega) only [c13, Tryz.f45, Aq, Nat.reduceEqDiff]
     with_reducible rfl
    refine ⟨.inr rfl, C2, [.agg ⟨entC zeroE⟩, .bool false], rfl, ?_, by rw [hf]; rfl, k2⟩
    simp only [Tryz.f45, resF, ev_tmp, T.get_set, Nat.reduceEqDiff, if_true, if_false, evG_some, R.ok_bind, l2, g4]
  ·simp only [Sl_cons, Sl_nil, T.get_set, T.puts_cons, T.puts_nil, Nat.reduceEqDiff, Nat.reduceAdd, if_true, if_false, and_true, true_and]
 exact ⟨A', hg, hk⟩
end Go.Proofs.YtnelkapmmgggdaaGreat.mdl

/-
 Model: an entry that is drawn.
-/
namespace Go.Proofs.YtnelkapmmgggdaaGreat.mdl
open Go.Am Go.Mdl
set_option linter.unusedSimpArgs false
set_option linter.unusedVariables false
set_option linter.unusedVariables false

def BytS (A : Mem) (ls : List UInt8) (x : Value) : Prop :=
 (x = .slice none 0 0 ∧ ls = []) ∨ (x = empV ∧ ls = []) ∨ ∃ q off cp, x = .slice (some ⟨q, off, none⟩) ls.length cp ∧ (ls = [] ∨ (q < A.next ∧ ∃ t kd fz c, A.get q = some (.cells t kd fz c) ∧ ∀ (i : Nat) (b : UInt8), ls[i]? = some b → c.get (off + i) = some (.int .u8 ((b.toNat : Nat) : Int))))
theorem und23 : tb4.und 49 = some (.slice 5) := by kernel_rfl
theorem und5' : tb4.und 5 = some (.int .u8) := by kernel_rfl
theorem size5' : sizeF tb4 5 = .ok 1 := by kernel_rfl
theorem BytS.kp {A A' : Mem} {ls : List UInt8} {x : Value} (h : BytS A ls x) (k : Kp A A') : BytS A' ls x := by
 rcases h with h | h | ⟨q, off, cp, h1, h2⟩
 ·exact .inl h
 ·exact .inr (.inl h)
 ·refine .inr (.inr ⟨q, off, cp, h1, ?_⟩)
  rcases h2 with h2 | ⟨h2, t, kd, fz, c, h3, h4⟩
  ·exact .inl h2
  ·exact .inr ⟨Nat.lt_of_lt_of_le h2 k.1, t, kd, fz, c, by rw [k.2 _ h2]; exact h3, h4⟩
theorem BytS.len {A : Mem} {ls : List UInt8} {x : Value} (h : BytS A ls x) : builtinPF tb4 .len [49] [x] = .ok (.int .i64 ((ls.length : Nat) : Int)) := by
 rcases h with ⟨rfl, rfl⟩ | ⟨rfl, rfl⟩ | ⟨q, off, cp, rfl, -⟩
 ·exact len_slc und23
 ·kernel_rfl
 ·exact len_slc und23
theorem BytS.at {A : Mem} {ls : List UInt8} {x : Value} (h : BytS A ls x) {i : Nat} {b : UInt8} (hi : ls[i]? = some b) :
  ∃ p, indexAddrF tb4 49 x (.int .i64 (i : Int)) = .ok (.pointer (some p)) ∧ loadF tb4 A.get 5 (.pointer (some p)) = .ok (.int .u8 ((b.toNat : Nat) : Int)) := by
 rcases h with ⟨-, rfl⟩ | ⟨-, rfl⟩ | ⟨q, off, cp, rfl, h2⟩
 ·simp at hi
 ·simp at hi
 ·rcases h2 with rfl | ⟨h2, t, kd, fz, c, h3, h4⟩
  ·simp at hi
  ·have hlt := (List.getElem?_eq_some_iff.1 hi).1
   have hb : Nat.blt i ls.length = true := by rw [Nat.blt_eq]; exact hlt
   have hn : natV (.int .i64 (i : Int)) = .ok i := rfl
   refine ⟨⟨q, off + i * 1, none⟩, ?_, ?_⟩
   ·unfold indexAddrF
    simp only [hn, und23, hb, cond_true, size5', R.ok_bind, addA]
   ·unfold loadF
    have hg := h4 i b hi
    have hag : isAggD (.int .u8) = false := rfl
    simp only [h3, und5', hag, cond_false, Nat.mul_one, hg]
def letF (c : UInt8) : UInt8 := if c.toNat % 8 < 7 then UInt8.ofNat (97 + c.toNat % 8 % 3) else c
def wordD (ls : List UInt8) : List UInt8 := if (ls.take 9).map letF = [] then [97] else (ls.take 9).map letF
theorem letF_nat (c : UInt8) : (letF c).toNat = if c.toNat % 8 < 7 then 97 + c.toNat % 8 % 3 else c.toNat := by
 unfold letF
 split
 ·rw [UInt8.toNat_ofNat']; omega
 ·rfl
theorem one_str {A : Mem} {q : Nat} {b : UInt8} (h : A.get q = some (rowOb 5 [.int .u8 ((b.toNat : Nat) : Int)])) : convRF tb4 A.get 49 9 (.slice (some ⟨q, 0, none⟩) 1 2) = .ok (strOf [b]) := by
 have hb : Byt A q 5 (.var 1) [b] := ⟨_, h, fun i hi => by
  have hi0 : i = 0 := by simp at hi; exact hi
  subst hi0
  rfl⟩
 exact str_of_byt (l := [b]) und23 und9' und5' hb
theorem bs23 {a : Int} : buildSliceF tb4 49 1 [(0, .int .u8 a)] = .ok (rowOb 5 [.int .u8 a], .slc 1 2) := by kernel_rfl
theorem op_add_u8 {a b : Nat} (h : a + b < 256) : intOpF .add .u8 (a : Int) (b : Int) = .ok (.int .u8 ((a + b : Nat) : Int)) := by
 show R.ok (Value.int .u8 (wrapF .u8 ((a + b : Nat) : Int))) = _
 rw [wrapF_u8, Nat.mod_eq_of_lt h]
theorem f26_0 {b o : Nat} : fieldAddrF tb4 51 (.pointer (some ⟨b, o, none⟩)) 0 = .ok (.pointer (some ⟨b, o, none⟩)) := by kernel_rfl
theorem f26_1 {b o : Nat} : fieldAddrF tb4 51 (.pointer (some ⟨b, o, none⟩)) 1 = .ok (.pointer (some ⟨b, o + 1, none⟩)) := by kernel_rfl
theorem f26_2 {b o : Nat} : fieldAddrF tb4 51 (.pointer (some ⟨b, o, none⟩)) 2 = .ok (.pointer (some ⟨b, o + 2, none⟩)) := by kernel_rfl
noncomputable def c25 : Code := Tryz.f21.body.getD .skip
noncomputable def c25b1 : Code := sub c25 [1,1,0,1,0,0]
theorem c25_eq : Tryz.f21.body = some (.seq (sub c25 [0]) (.seq (sub c25 [1,0]) (.seq (.seq (sub c25 [1,1,0,0]) (.block 0 (.loop c25b1))) (.seq (sub c25 [1,1,1,0]) (.seq (sub c25 [1,1,1,1,0]) (sub c25 [1,1,1,1,1])))))) := by kernel_rfl
theorem c25b1_eq : c25b1 = .seq (.seq (sub c25b1 [0,0]) (sub c25b1 [0,1])) (.seq (.block 1 (.seq (sub c25b1 [1,0,0,0]) (.seq (sub c25b1 [1,0,0,1,0]) (sub c25b1 [1,0,0,1,1])))) (sub c25b1 [1,1])) := by kernel_rfl
def enS (q : Nat) (w : List UInt8) (i : Nat) : List (Nat × Value) := [(1, .pointer (some ⟨q, 0, none⟩)), (2, .pointer (some ⟨q + 1, 0, none⟩)), (3, strOf w), (4, .int .i64 (i : Int))]
theorem entry_round {C : Mem} {q i : Nat} {ls w : List UInt8} {xl : Value} {t : T Value} {K : Ex → St → Prop} {wt : Int} {g : Bool} (hx : BytS C ls xl) (hv : Vals C 51 q (.var 3) [xl, .int .u32 wt, .bool g]) {b : UInt8} (hb : ls[i]? = some b) (hw : w.length = i) (hi : i < 9) (ht : Sl t (enS q w i))
  (hK : ∀ t', Sl t' (enS q (w ++ [letF b]) i) → K .nrm ⟨t', 43, [], C.alloc (rowOb 5 [.int .u8 (((letF b).toNat : Nat) : Int)]), none⟩) :
  W tb4 (.seq (sub c25b1 [1,0,0,0]) (.seq (sub c25b1 [1,0,0,1,0]) (sub c25b1 [1,0,0,1,1]))) ⟨t, 43, [], C, none⟩ K := by
 obtain ⟨g1, g2, g3, g4, -⟩ := ht
 obtain ⟨p, a1, a2⟩ := hx.at hb
 have hl : loadF tb4 C.get 49 (.pointer (some ⟨q, 0, none⟩)) = .ok xl := load_vals und23 rfl hv rfl
 have hlt := byte_lt b
 have hnat := letF_nat b
 have hadd := str_add (a := w) (b := [letF b]) (by rw [hw]; show i + 1 < _; omega)
 have hs := one_str (get_alloc_self C (rowOb 5 [.int .u8 (((letF b).toNat : Nat) : Int)]))
 apply W.seq
 apply W.run 20
 ·intro M
  simp (disch := first | decide +kernel | omega) only [c25b1, c25, Tryz.f21, Aq, Nat.reduceEqDiff, g1, g4, f26_0, hl, a1, a2]
  with_reducible rfl
 apply W.seq
 by_cases h7 : b.toNat % 8 < 7
 ·rw [if_pos h7] at hnat
  apply W.run 20
  ·intro M
   simp (disch := first | decide +kernel | omega) only [c25b1, c25, Tryz.f21, Aq, Nat.reduceEqDiff, h7, op_add_u8]
   with_reducible rfl
  show W tb4 _ _ _
  rw [← hnat]
  apply W.run 20
  ·intro M
   simp (disch := first | decide +kernel | omega) only [c25b1, c25, Tryz.f21, Aq, Nat.reduceEqDiff, g3, bs23, at_slc, opF_convStr _ _ _ _ _ _ _ _ _ _ und23 und9', hs, hadd]
   with_reducible rfl
  refine hK _ ?_
  unfold enS; simp only [Sl_cons, Sl_nil, T.get_set, T.puts_cons, T.puts_nil, Nat.reduceEqDiff, Nat.reduceAdd, if_true, if_false, and_true, true_and, g1, g2, g4]
 ·rw [if_neg h7] at hnat
  apply W.run 20
  ·intro M
   simp (disch := first | decide +kernel | omega) only [c25b1, c25, Tryz.f21, Aq, Nat.reduceEqDiff, h7]
   with_reducible rfl
  show W tb4 _ _ _
  rw [← hnat]
  apply W.run 20
  ·intro M
   simp (disch := first | decide +kernel | omega) only [c25b1, c25, Tryz.f21, Aq, Nat.reduceEqDiff, g3, bs23, at_slc, opF_convStr _ _ _ _ _ _ _ _ _ _ und23 und9', hs, hadd]
   with_reducible rfl
  refine hK _ ?_
  unfold enS; simp only [Sl_cons, Sl_nil, T.get_set, T.puts_cons, T.puts_nil, Nat.reduceEqDiff, Nat.reduceAdd, if_true, if_false, and_true, true_and, g1, g2, g4]
end Go.Proofs.YtnelkapmmgggdaaGreat.mdl

/-
 Model: an entry that is drawn, whole.
-/
namespace Go.Proofs.YtnelkapmmgggdaaGreat.mdl
open Go.Am Go.Mdl
set_option linter.unusedSimpArgs false
set_option linter.unusedVariables false
set_option linter.unusedVariables false

theorem size26 : sizeF tb4 51 = .ok 3 := by kernel_rfl
theorem take_map_succ {ls : List UInt8} {i : Nat} {b : UInt8} (h : ls[i]? = some b) : (ls.take (i + 1)).map letF = (ls.take i).map letF ++ [letF b] := by
 obtain ⟨hlt, rfl⟩ := List.getElem?_eq_some_iff.1 h
 rw [List.take_succ_eq_append_getElem hlt, List.map_append]
 rfl
def entD (ls : List UInt8) (wt : Nat) (g : Bool) : EntD := norm ⟨wordD ls, wt, g⟩
theorem bld45 {w : List UInt8} {wt : Nat} {g : Bool} : buildF tb4 59 [(0, strOf w), (1, .int .u32 (wt : Int)), (2, .bool g)] = .ok (.agg ⟨entC ⟨w, wt, g⟩⟩) := by kernel_rfl
theorem run_entry {A : Mem} {ls : List UInt8} {xl : Value} {wt : Nat} {g : Bool} (hx : BytS A ls xl) :
  ∃ A', Ans tb4 21 [.agg ⟨[xl, .int .u32 (wt : Int), .bool g]⟩] A (.agg ⟨entC (entD ls wt g)⟩) A' ∧ Kp A A' := by
 obtain ⟨v, A', hg, rfl, hk⟩ : ∃ v A', Ans tb4 21 [.agg ⟨[xl, .int .u32 (wt : Int), .bool g]⟩] A v A' ∧ v = .agg ⟨entC (entD ls wt g)⟩ ∧ Kp A A' := by
  refine ans_of_W (fn_at Tryz.func21) c25_eq (by rw [Tryz.ntmps21]; simp) (by kernel_rfl) (by kernel_rfl) ?_
  obtain ⟨d45, hd1, hd2⟩ := und45'
  have hv0 : Vals ((A.alloc (rowOb 51 [xl, .int .u32 (wt : Int), .bool g])).alloc (rowOb 59 [.string .empty, .int .u32 0, .bool false])) 51 A.next (.var 3) [xl, .int .u32 (wt : Int), .bool g] := (vals_puts (get_alloc_self _ _)).same (get_alloc_ne (by rw [next_alloc]; omega))
  have hz0 : Vals ((A.alloc (rowOb 51 [xl, .int .u32 (wt : Int), .bool g])).alloc (rowOb 59 [.string .empty, .int .u32 0, .bool false])) 59 (A.next + 1) (.var 3) [.string .empty, .int .u32 0, .bool false] := vals_puts (get_alloc_self _ _)
  have hk0 : Kp A ((A.alloc (rowOb 51 [xl, .int .u32 (wt : Int), .bool g])).alloc (rowOb 59 [.string .empty, .int .u32 0, .bool false])) := (Kp.alloc _ _).trans (Kp.alloc _ _)
  have hn0 : ((A.alloc (rowOb 51 [xl, .int .u32 (wt : Int), .bool g])).alloc (rowOb 59 [.string .empty, .int .u32 0, .bool false])).next = A.next + 2 := rfl
  apply W.seq
  apply W.run 20
  ·intro M
   simp (disch := first | decide +kernel | omega) only [c25, Tryz.f21, Aq, Nat.reduceEqDiff, z45, cells_agg, next_alloc]
   with_reducible rfl
  show W tb4 _ _ _
  generalize (A.alloc (rowOb 51 [xl, .int .u32 (wt : Int), .bool g])).alloc (rowOb 59 [.string .empty, .int .u32 0, .bool false]) = B at hv0 hz0 hk0 hn0
  apply W.seq
  apply W.run 20
  ·intro M
   simp (disch := first | decide +kernel | omega) only [c25, Tryz.f21, Aq, Nat.reduceEqDiff]
   with_reducible rfl
  apply W.seq
  apply W.seq
  apply W.run 20
  ·intro M
   simp (disch := first | decide +kernel | omega) only [c25, Tryz.f21, Aq, Nat.reduceEqDiff]
   with_reducible rfl
  apply W.block
  have hmin : min ls.length 9 ≤ ls.length ∧ min ls.length 9 ≤ 9 := ⟨Nat.min_le_left _ _, Nat.min_le_right _ _⟩
  have hmin2 : min ls.length 9 = ls.length ∨ min ls.length 9 = 9 := by omega
  refine W.up (min ls.length 9) (fun i t C => Kp B C ∧ Sl t (enS A.next ((ls.take i).map letF) i)) ?_ (Nat.zero_le _) ⟨Kp.refl _, ?_⟩
  ·rintro i t C hi ⟨hk, g1, g2, g3, g4, -⟩
   have hxC := hx.kp (hk0.trans hk)
   have hvC : Vals C 51 A.next (.var 3) [xl, .int .u32 (wt : Int), .bool g] := hv0.same (hk.2 _ (by omega))
   have hl : loadF tb4 C.get 49 (.pointer (some ⟨A.next, 0, none⟩)) = .ok xl := load_vals und23 rfl hvC rfl
   have hlen := hxC.len
   by_cases hlt : i < min ls.length 9
   ·have h1 : i < ls.length := by omega
    have h2 : i < 9 := by omega
    have hb : ls[i]? = some ls[i] := List.getElem?_eq_getElem h1
    rw [c25b1_eq]
    apply W.seq
    apply W.run 20
    ·intro M
     simp (config := { maxSteps := 4000000 }) (disch := first | decide +kernel | omega | simp only [Wq, Nat.reduceEqDiff]) only [c25b1, c25, Tryz.f21, Aq, Nat.ble, reduceIte, Nat.reduceEqDiff, Nat.reduceAdd, g1, g4, f26_0, hl, hlen, h1, h2]
     with_reducible rfl
    apply W.seq
    apply W.block
    refine entry_round (w := (ls.take i).map letF) (i := i) (q := A.next) hxC hvC hb (by rw [List.length_map, List.length_take]; omega) h2 (by unfold enS; simp only [Sl_cons, Sl_nil, T.get_set, T.puts_cons, T.puts_nil, Nat.reduceEqDiff, Nat.reduceAdd, if_true, if_false, and_true, true_and, g1, g2, g3, g4]) fun t' ht' => ?_
    obtain ⟨f1, f2, f3, f4, -⟩ := ht'
    apply W.run 20
    ·intro M
     simp (disch := first | decide +kernel | omega) only [c25b1, c25, Tryz.f21, Aq, Nat.reduceEqDiff, f4]
     with_reducible rfl
    refine ⟨hlt, _, _, rfl, hk.trans (Kp.alloc _ _), ?_⟩
    rw [take_map_succ hb]
    unfold enS; simp only [Sl_cons, Sl_nil, T.get_set, T.puts_cons, T.puts_nil, Nat.reduceEqDiff, Nat.reduceAdd, if_true, if_false, and_true, true_and, f1, f2, f3]
   ·have hin : i = min ls.length 9 := by omega
    have htk : (ls.take i) = ls.take 9 := by
     rcases hmin2 with h | h
     ·rw [hin, h, List.take_length, List.take_of_length_le (by omega)]
     ·rw [hin, h]
    rw [htk] at g3
    have hex : W tb4 (.seq (sub c25b1 [0,0]) (sub c25b1 [0,1])) ⟨t, 43, [], C, none⟩ (fun e s' => ∃ t', e = .exit 0 ∧ s' = ⟨t', 43, [], C, none⟩ ∧ Sl t' (enS A.next ((ls.take 9).map letF) i)) := by
     by_cases h1 : i < ls.length
     ·have h2 : ¬ i < 9 := by omega
      apply W.run 20
      ·intro M
       simp (config := { maxSteps := 4000000 }) (disch := first | decide +kernel | omega | simp only [Wq, Nat.reduceEqDiff]) only [c25b1, c25, Tryz.f21, Aq, Nat.ble, reduceIte, Nat.reduceEqDiff, Nat.reduceAdd, g1, g4, f26_0, hl, hlen, h1, h2]
       with_reducible rfl
      refine ⟨_, rfl, rfl, ?_⟩
      unfold enS; simp only [Sl_cons, Sl_nil, T.get_set, T.puts_cons, T.puts_nil, Nat.reduceEqDiff, Nat.reduceAdd, if_true, if_false, and_true, true_and, g1, g2, g3, g4]
     ·apply W.run 20
      ·intro M
       simp (config := { maxSteps := 4000000 }) (disch := first | decide +kernel | omega | simp only [Wq, Nat.reduceEqDiff]) only [c25b1, c25, Tryz.f21, Aq, Nat.ble, reduceIte, Nat.reduceEqDiff, Nat.reduceAdd, g1, g4, f26_0, hl, hlen, h1]
       with_reducible rfl
      refine ⟨_, rfl, rfl, ?_⟩
      unfold enS; simp only [Sl_cons, Sl_nil, T.get_set, T.puts_cons, T.puts_nil, Nat.reduceEqDiff, Nat.reduceAdd, if_true, if_false, and_true, true_and, g1, g2, g3, g4]
    rw [c25b1_eq]
    apply W.seq
    refine hex.mono ?_
    rintro e s' ⟨t', rfl, rfl, f1, f2, f3, f4, -⟩
    apply W.seq
    have hw : W tb4 (sub c25 [1,1,1,0]) ⟨t', 43, [], C, none⟩ (fun e s' => ∃ t2, e = .nrm ∧ s' = ⟨t2, 43, [], C, none⟩ ∧ Sl t2 [(1, .pointer (some ⟨A.next, 0, none⟩)), (2, .pointer (some ⟨A.next + 1, 0, none⟩)), (3, strOf (wordD ls))]) := by
     by_cases h0 : (ls.take 9).map letF = []
     ·have hwd : wordD ls = [97] := by unfold wordD; rw [if_pos h0]
      have f3' : t'.get 3 = some (strOf []) := by rw [f3, h0]
      apply W.run 20
      ·intro M
       simp (disch := first | decide +kernel | omega) only [c25, Tryz.f21, Aq, Nat.reduceEqDiff, f3']
       with_reducible rfl
      refine ⟨_, rfl, rfl, ?_⟩
      rw [hwd]
      simp only [Sl_cons, Sl_nil, T.get_set, T.puts_cons, T.puts_nil, Nat.reduceEqDiff, Nat.reduceAdd, if_true, if_false, and_true, true_and, f1, f2]
     ·have hwd : wordD ls = (ls.take 9).map letF := by unfold wordD; rw [if_neg h0]
      rw [← hwd] at f3 h0
      apply W.run 20
      ·intro M
       simp (disch := first | decide +kernel | omega) only [c25, Tryz.f21, Aq, Nat.reduceEqDiff, f3, h0]
       with_reducible rfl
      refine ⟨_, rfl, rfl, ?_⟩
      simp only [Sl_cons, Sl_nil, T.get_set, T.puts_cons, T.puts_nil, Nat.reduceEqDiff, Nat.reduceAdd, if_true, if_false, and_true, true_and, f1, f2, f3]
    refine hw.mono ?_
    rintro e s' ⟨t2, rfl, rfl, f1, f2, f3, -⟩
    apply W.seq
    have l1 : loadF tb4 C.get 41 (.pointer (some ⟨A.next, 0 + 1, none⟩)) = .ok (.int .u32 (wt : Int)) := load_vals und24' rfl hvC rfl
    have l2 : loadF tb4 C.get 4 (.pointer (some ⟨A.next, 0 + 2, none⟩)) = .ok (.bool g) := load_vals und4' rfl hvC rfl
    obtain ⟨D, ⟨gb, hgb⟩, kD⟩ := run_bare (A := C) (e := ⟨wordD ls, wt, g⟩)
    have hzD : Vals D 59 (A.next + 1) (.var 3) [.string .empty, .int .u32 0, .bool false] := (hz0.same (hk.2 _ (by omega))).same (kD.2 _ (by have := hk.1; omega))
    obtain ⟨C2, s2, v2, n2, k2⟩ := store_all (tb := tb4) (t := 59) (l := [.string .empty, .int .u32 0, .bool false]) (l' := entC (entD ls wt g)) size45' hzD rfl (by simp) (entC_one _)
    have hl2 := load_all (tb := tb4) hd1 hd2 (l := entC (entD ls wt g)) size45' v2
    have hk1 := (hk0.trans hk).trans kD
    unfold entD at s2 hl2 ⊢
    apply W.runG (gb) 20
    ·intro M hM
     simp (disch := first | decide +kernel | omega) only [c25, Tryz.f21, Aq, Nat.reduceEqDiff, f1, f2, f3, f26_1, f26_2, l1, l2, bld45, hgb, s2]
     with_reducible rfl
    apply W.run 20
    ·intro M
     simp (disch := first | decide +kernel | omega) only [c25, Tryz.f21, Aq, Nat.reduceEqDiff]
     with_reducible rfl
    refine ⟨.inr rfl, C2, [.agg ⟨entC (norm ⟨wordD ls, wt, g⟩)⟩], rfl, ?_, rfl, ?_⟩
    ·simp only [Tryz.f21, resF, ev_tmp, T.get_set, Nat.reduceEqDiff, if_true, if_false, evG_some, R.ok_bind, f2, hl2]
    ·exact ⟨by rw [n2]; exact hk1.1, fun z hz => by rw [k2 z (by omega), hk1.2 z hz]⟩
  ·unfold enS; simp only [Sl_cons, Sl_nil, T.get_set, T.puts_cons, T.puts_nil, Nat.reduceEqDiff, Nat.reduceAdd, if_true, if_false, and_true, true_and]
   rfl
 exact ⟨A', hg, hk⟩
end Go.Proofs.YtnelkapmmgggdaaGreat.mdl

/-
 Model: entries of drafts.
-/
namespace Go.Proofs.YtnelkapmmgggdaaGreat.mdl
open Go.Am Go.Mdl
set_option linter.unusedSimpArgs false
set_option linter.unusedVariables false
set_option linter.unusedVariables false

structure DrD where
 xl : Value
 ls : List UInt8
 wt : Nat
 gone : Bool
def drV (d : DrD) : Value := .agg ⟨[d.xl, .int .u32 (d.wt : Int), .bool d.gone]⟩
def DrS (A : Mem) (ds : List DrD) (x : Value) : Prop :=
 (x = .slice none 0 0 ∧ ds = []) ∨ (x = empV ∧ ds = []) ∨ ∃ q off cp, x = .slice (some ⟨q, off, none⟩) ds.length cp ∧ (ds = [] ∨ (q < A.next ∧ ∃ t kd fz c, A.get q = some (.cells t kd fz c) ∧
  ∀ (i : Nat) (d : DrD), ds[i]? = some d → c.get (off + i * 3) = some d.xl ∧ c.get (off + i * 3 + 1) = some (.int .u32 (d.wt : Int)) ∧ c.get (off + i * 3 + 2) = some (.bool d.gone) ∧ BytS A d.ls d.xl))
theorem und22 : tb4.und 22 = some (.slice 51) := by kernel_rfl
theorem und26 : ∃ d, tb4.und 51 = some d ∧ isAggD d = true := by
 have h : (tb4.und 51).map isAggD = some true := by kernel_rfl
 cases hq : tb4.und 51 with
 | none => rw [hq] at h; cases h
 | some d => rw [hq] at h; exact ⟨d, rfl, by simpa using h⟩
theorem DrS.kp {A A' : Mem} {ds : List DrD} {x : Value} (h : DrS A ds x) (k : Kp A A') : DrS A' ds x := by
 rcases h with h | h | ⟨q, off, cp, h1, h2⟩
 ·exact .inl h
 ·exact .inr (.inl h)
 ·refine .inr (.inr ⟨q, off, cp, h1, ?_⟩)
  rcases h2 with h2 | ⟨h2, t, kd, fz, c, h3, h4⟩
  ·exact .inl h2
  ·exact .inr ⟨Nat.lt_of_lt_of_le h2 k.1, t, kd, fz, c, by rw [k.2 _ h2]; exact h3, fun i d hd => ⟨(h4 i d hd).1, (h4 i d hd).2.1, (h4 i d hd).2.2.1, (h4 i d hd).2.2.2.kp k⟩⟩
theorem DrS.len {A : Mem} {ds : List DrD} {x : Value} (h : DrS A ds x) : builtinPF tb4 .len [22] [x] = .ok (.int .i64 ((ds.length : Nat) : Int)) := by
 rcases h with ⟨rfl, rfl⟩ | ⟨rfl, rfl⟩ | ⟨q, off, cp, rfl, -⟩
 ·exact len_slc und22
 ·kernel_rfl
 ·exact len_slc und22
theorem DrS.at {A : Mem} {ds : List DrD} {x : Value} (h : DrS A ds x) {i : Nat} {d : DrD} (hi : ds[i]? = some d) :
  (∃ p, indexAddrF tb4 22 x (.int .i64 (i : Int)) = .ok (.pointer (some p)) ∧ loadF tb4 A.get 51 (.pointer (some p)) = .ok (drV d)) ∧ BytS A d.ls d.xl := by
 rcases h with ⟨-, rfl⟩ | ⟨-, rfl⟩ | ⟨q, off, cp, rfl, h2⟩
 ·simp at hi
 ·simp at hi
 ·rcases h2 with rfl | ⟨h2, t, kd, fz, c, h3, h4⟩
  ·simp at hi
  ·obtain ⟨c0, c1, c2, hby⟩ := h4 i d hi
   obtain ⟨d26, hd1, hd2⟩ := und26
   have hlt := (List.getElem?_eq_some_iff.1 hi).1
   have hb : Nat.blt i ds.length = true := by rw [Nat.blt_eq]; exact hlt
   have hn : natV (.int .i64 (i : Int)) = .ok i := rfl
   refine ⟨⟨⟨q, off + i * 3, none⟩, ?_, ?_⟩, hby⟩
   ·unfold indexAddrF
    simp only [hn, und22, hb, cond_true, size26, R.ok_bind, addA]
   ·have hgs : c.gets 3 (off + i * 3) = some [d.xl, .int .u32 (d.wt : Int), .bool d.gone] := gets_eq _ _ _ _ rfl fun j hj => by
     have : j = 0 ∨ j = 1 ∨ j = 2 := by omega
     rcases this with rfl | rfl | rfl
     ·exact c0
     ·exact c1
     ·exact c2
    unfold loadF
    simp only [h3, hd1, hd2, cond_true, size26, R.ok_bind, hgs]
    rfl
def dE (d : DrD) : EntD := entD d.ls d.wt d.gone
noncomputable def c8 : Code := Tryz.f4.body.getD .skip
noncomputable def c8b1 : Code := sub c8 [1,1,0,1,0,0]
theorem c8_eq : Tryz.f4.body = some (.seq (sub c8 [0]) (.seq (sub c8 [1,0]) (.seq (.seq (sub c8 [1,1,0,0]) (.block 0 (.loop c8b1))) (.seq (sub c8 [1,1,1,0]) (sub c8 [1,1,1,1]))))) := by kernel_rfl
theorem run_entries {A : Mem} {ds : List DrD} {x : Value} {n : Nat} (h : DrS A ds x) (hn : n ≤ 1000) :
  ∃ y A', Ans tb4 4 [x, .int .i64 ((n : Nat) : Int)] A y A' ∧ EntE A' ((ds.take n).map dE) y ∧ Kp A A' := by
 obtain ⟨v, A', hg, he, hk⟩ : ∃ v A', Ans tb4 4 [x, .int .i64 ((n : Nat) : Int)] A v A' ∧ EntE A' ((ds.take n).map dE) v ∧ Kp A A' := by
  refine ans_of_W (fn_at Tryz.func4) c8_eq (by rw [Tryz.ntmps4]; simp) (by kernel_rfl) (by kernel_rfl) ?_
  obtain ⟨ti, hti, hb1, hb2⟩ := ty45'
  apply W.seq
  apply W.run 20
  ·intro M
   simp (disch := first | decide +kernel | omega) only [c8, Tryz.f4, Aq, Nat.reduceEqDiff]
   with_reducible rfl
  apply W.seq
  apply W.run 20
  ·intro M
   simp (disch := first | decide +kernel | omega) only [c8, Tryz.f4, Aq, Nat.reduceEqDiff]
   with_reducible rfl
  apply W.seq
  apply W.seq
  apply W.run 20
  ·intro M
   simp (disch := first | decide +kernel | omega) only [c8, Tryz.f4, Aq, Nat.reduceEqDiff]
   with_reducible rfl
  apply W.block
  have hmin : min ds.length n ≤ ds.length ∧ min ds.length n ≤ n := ⟨Nat.min_le_left _ _, Nat.min_le_right _ _⟩
  have hmin2 : min ds.length n = ds.length ∨ min ds.length n = n := by omega
  refine W.up (min ds.length n) (fun i t C => ∃ bo xo, EntS C bo ((ds.take i).map dE) xo ∧ A.next ≤ bo ∧ Kp A C ∧ Sl t [(0, x), (1, .int .i64 ((n : Nat) : Int)), (5, xo), (6, .int .i64 (i : Int))]) ?_ (Nat.zero_le _) ⟨A.next, .slice none 0 0, .inl ⟨rfl, rfl⟩, Nat.le_refl _, Kp.refl _, ?_⟩
  ·rintro i t C hi ⟨bo, xo, ho, hbo, hk, g0, g1, g5, g6, -⟩
   have hC := h.kp hk
   have hlen := hC.len
   by_cases hlt : i < min ds.length n
   ·have h1 : i < ds.length := by omega
    have h2 : i < n := by omega
    have hd : ds[i]? = some ds[i] := List.getElem?_eq_getElem h1
    obtain ⟨⟨p, a1, a2⟩, hby⟩ := hC.at hd
    obtain ⟨C1, ⟨g, hg⟩, k1⟩ := run_entry (wt := ds[i].wt) (g := ds[i].gone) hby
    have ho2 : EntS (C1.alloc (rowOb 59 (entC (dE ds[i])))) bo ((ds.take i).map dE) xo := (ho.kp k1).kp (Kp.alloc _ _)
    obtain ⟨x', C2, happ, w2, n2, k2⟩ := ho2.append (st := 24) (xt := 24) und32' und32' zc45' hti hb1 hb2 (by decide) (by decide) (by rw [List.length_map, List.length_map, List.length_take]; omega) (get_alloc_self _ _) rfl (entC_one _)
    have hbe : buildSliceF tb4 24 1 [(0, .agg ⟨entC (entD ds[i].ls ds[i].wt ds[i].gone)⟩)] = .ok (rowOb 59 (entC (dE ds[i])), .slc 1 2) := bs45
    unfold drV at a2
    apply W.runG (g) 20
    ·intro M hM
     simp (config := { maxSteps := 4000000 }) (disch := first | decide +kernel | omega | simp only [Wq, Nat.reduceEqDiff]) only [c8b1, c8, Tryz.f4, Aq, Nat.ble, reduceIte, Nat.reduceEqDiff, Nat.reduceAdd, g0, g1, g5, g6, hlen, h1, h2, a1, a2, hg, hbe, at_slc, happ]
     with_reducible rfl
    have hkA := (hk.trans k1).trans (Kp.alloc C1 (rowOb 59 (entC (dE ds[i]))))
    refine ⟨hlt, _, _, rfl, (C1.alloc (rowOb 59 (entC (dE ds[i])))).next, x', ?_, ?_, ⟨by rw [n2]; have := hkA.1; omega, fun z hz => ?_⟩, ?_⟩
    ·rw [List.take_succ_eq_append_getElem h1, List.map_append]
     unfold EntS
     rw [List.map_append]
     exact w2
    ·have := hkA.1; omega
    ·rw [k2 z (fun e => by omega) (by have := hkA.1; omega), hkA.2 z hz]
    ·simp only [Sl_cons, Sl_nil, T.get_set, T.puts_cons, T.puts_nil, Nat.reduceEqDiff, Nat.reduceAdd, if_true, if_false, and_true, true_and, g0, g1]
   ·have hin : i = min ds.length n := by omega
    have htk : ds.take i = ds.take n := by
     rcases hmin2 with h | h
     ·rw [hin, h, List.take_length, List.take_of_length_le (by omega)]
     ·rw [hin, h]
    rw [htk] at ho
    have hex : W tb4 c8b1 ⟨t, 27, [], C, none⟩ (fun e s' => ∃ t', e = .exit 0 ∧ s' = ⟨t', 27, [], C, none⟩ ∧ Sl t' [(5, xo)]) := by
     by_cases h1 : i < ds.length
     ·have h2 : ¬ i < n := by omega
      apply W.run 20
      ·intro M
       simp (config := { maxSteps := 4000000 }) (disch := first | decide +kernel | omega | simp only [Wq, Nat.reduceEqDiff]) only [c8b1, c8, Tryz.f4, Aq, Nat.ble, reduceIte, Nat.reduceEqDiff, Nat.reduceAdd, g0, g1, g5, g6, hlen, h1, h2]
       with_reducible rfl
      refine ⟨_, rfl, rfl, ?_⟩
      simp only [Sl_cons, Sl_nil, T.get_set, T.puts_cons, T.puts_nil, Nat.reduceEqDiff, Nat.reduceAdd, if_true, if_false, and_true, true_and, g5]
     ·apply W.run 20
      ·intro M
       simp (config := { maxSteps := 4000000 }) (disch := first | decide +kernel | omega | simp only [Wq, Nat.reduceEqDiff]) only [c8b1, c8, Tryz.f4, Aq, Nat.ble, reduceIte, Nat.reduceEqDiff, Nat.reduceAdd, g0, g1, g5, g6, hlen, h1]
       with_reducible rfl
      refine ⟨_, rfl, rfl, ?_⟩
      simp only [Sl_cons, Sl_nil, T.get_set, T.puts_cons, T.puts_nil, Nat.reduceEqDiff, Nat.reduceAdd, if_true, if_false, and_true, true_and, g5]
    refine hex.mono ?_
    rintro e s' ⟨t', rfl, rfl, f5, -⟩
    apply W.seq
    apply W.run 20
    ·intro M
     simp (disch := first | decide +kernel | omega) only [c8, Tryz.f4, Aq, Nat.reduceEqDiff, f5]
     with_reducible rfl
    apply W.run 20
    ·intro M
     simp (disch := first | decide +kernel | omega) only [c8, Tryz.f4, Aq, Nat.reduceEqDiff]
     with_reducible rfl
    refine ⟨.inr rfl, C, [xo], rfl, ?_, ⟨bo, ho⟩, hk⟩
    simp only [Tryz.f4, resF, ev_tmp, T.get_set, Nat.reduceEqDiff, if_true, if_false, evG_some, R.ok_bind]
  ·simp only [Sl_cons, Sl_nil, T.get_set, T.puts_cons, T.puts_nil, Nat.reduceEqDiff, Nat.reduceAdd, if_true, if_false, and_true, true_and]
 exact ⟨v, A', hg, he, hk⟩
end Go.Proofs.YtnelkapmmgggdaaGreat.mdl

/-
 Model: an operation that is drawn.
-/
namespace Go.Proofs.YtnelkapmmgggdaaGreat.mdl
open Go.Am Go.Mdl
set_option linter.unusedSimpArgs false
set_option linter.unusedVariables false
set_option linter.unusedVariables false

structure OpV where
 kind : Int
 word : List UInt8
 weight : Nat
 k : Int
 n : Int
def opC (o : OpV) : List Value := [.int .i64 o.kind, strOf o.word, .int .u32 (o.weight : Int), .int .i64 o.k, .int .i64 o.n]
structure OpI where
 kd : Nat
 told : Nat
 dr : DrD
 k : Int
 n : Int
 raw : List UInt8
def inC (o : OpI) : List Value := [.int .u8 (o.kd : Int), .int .u8 (o.told : Int), o.dr.xl, .int .u32 (o.dr.wt : Int), .bool o.dr.gone, .int .i8 o.k, .int .i8 o.n, strOf o.raw]
structure InOk (A : Mem) (o : OpI) : Prop where
 kd : o.kd < 256
 told : o.told < 256
 k1 : -128 ≤ o.k
 k2 : o.k ≤ 127
 n1 : -128 ≤ o.n
 n2 : o.n ≤ 127
 raw : o.raw.length < 9223372036854775808
 by_ : BytS A o.dr.ls o.dr.xl
theorem InOk.kp {A A' : Mem} {o : OpI} (h : InOk A o) (k : Kp A A') : InOk A' o := ⟨h.kd, h.told, h.k1, h.k2, h.n1, h.n2, h.raw, h.by_.kp k⟩
def opD (o : OpI) : OpV := ⟨if 100 < o.kd then ((o.kd % 3 : Nat) : Int) else ((o.kd % 11 : Nat) : Int) - 1, if o.told % 16 = 9 then o.raw.take (min o.raw.length 300) else (dE o.dr).word, (dE o.dr).weight, o.k, o.n⟩
theorem conv_u8 {n : Nat} (h : n < 256) : convPF tb4 5 3 (.int .u8 (n : Int)) = .ok (.int .i64 (n : Int)) := by
 unfold convPF
 simp only [und3', und5']
 rw [wrapF_i64 (by omega)]
theorem und27 : tb4.und 52 = some (.int .i8) := by kernel_rfl
theorem conv_i8 {n : Int} (h1 : -128 ≤ n) (h2 : n ≤ 127) : convPF tb4 52 3 (.int .i8 n) = .ok (.int .i64 n) := by
 unfold convPF
 simp only [und3', und27]
 rw [wrapF_eq, wrap_in (by show -9223372036854775808 ≤ n; omega) (by show n ≤ 9223372036854775807; omega)]
theorem f29_0 {b : Nat} : fieldAddrF tb4 54 (.pointer (some ⟨b, 0, none⟩)) 0 = .ok (.pointer (some ⟨b, 0, none⟩)) := by kernel_rfl
theorem f29_1 {b : Nat} : fieldAddrF tb4 54 (.pointer (some ⟨b, 0, none⟩)) 1 = .ok (.pointer (some ⟨b, 1, none⟩)) := by kernel_rfl
theorem f29_2 {b : Nat} : fieldAddrF tb4 54 (.pointer (some ⟨b, 0, none⟩)) 2 = .ok (.pointer (some ⟨b, 2, none⟩)) := by kernel_rfl
theorem f29_3 {b : Nat} : fieldAddrF tb4 54 (.pointer (some ⟨b, 0, none⟩)) 3 = .ok (.pointer (some ⟨b, 5, none⟩)) := by kernel_rfl
theorem f29_4 {b : Nat} : fieldAddrF tb4 54 (.pointer (some ⟨b, 0, none⟩)) 4 = .ok (.pointer (some ⟨b, 6, none⟩)) := by kernel_rfl
theorem f29_5 {b : Nat} : fieldAddrF tb4 54 (.pointer (some ⟨b, 0, none⟩)) 5 = .ok (.pointer (some ⟨b, 7, none⟩)) := by kernel_rfl
theorem f38_0 {b : Nat} : fieldAddrF tb4 47 (.pointer (some ⟨b, 0, none⟩)) 0 = .ok (.pointer (some ⟨b, 0, none⟩)) := by kernel_rfl
theorem f38_1 {b : Nat} : fieldAddrF tb4 47 (.pointer (some ⟨b, 0, none⟩)) 1 = .ok (.pointer (some ⟨b, 1, none⟩)) := by kernel_rfl
theorem f38_2 {b : Nat} : fieldAddrF tb4 47 (.pointer (some ⟨b, 0, none⟩)) 2 = .ok (.pointer (some ⟨b, 2, none⟩)) := by kernel_rfl
theorem size38 : sizeF tb4 47 = .ok 5 := by kernel_rfl
theorem size3' : sizeF tb4 3 = .ok 1 := by kernel_rfl
theorem und38 : ∃ d, tb4.und 47 = some d ∧ isAggD d = true := by
 have h : (tb4.und 47).map isAggD = some true := by kernel_rfl
 cases hq : tb4.und 47 with
 | none => rw [hq] at h; cases h
 | some d => rw [hq] at h; exact ⟨d, rfl, by simpa using h⟩
def opZ : List Value := [.int .i64 0, .string .empty, .int .u32 0, .int .i64 0, .int .i64 0]
theorem z38 : zeroF tb4 47 = .ok (.agg ⟨opZ⟩) := by kernel_rfl
theorem bld38 {a c d : Int} {w : List UInt8} {n : Nat} : buildF tb4 47 [(0, .int .i64 a), (1, strOf w), (2, .int .u32 (n : Int)), (3, .int .i64 c), (4, .int .i64 d)] = .ok (.agg ⟨opC ⟨a, w, n, c, d⟩⟩) := by kernel_rfl
theorem opC_one (o : OpV) : ∀ v ∈ opC o, oneCell v = true := by
 intro v hv
 unfold opC at hv
 simp only [List.mem_cons, List.not_mem_nil, or_false] at hv
 rcases hv with rfl | rfl | rfl | rfl | rfl <;> rfl
theorem load_part {A : Mem} {e t : TypeId} {b o n : Nat} {k : Kd} {l l' : List Value} {d : TypeDesc} (hu : tb4.und t = some d) (ha : isAggD d = true) (hs : sizeF tb4 t = .ok n) (h : Vals A e b k l) (hl : l'.length = n) (hle : o + n ≤ l.length) (hp : ∀ j, j < n → l[o + j]? = l'[j]?) :
  loadF tb4 A.get t (.pointer (some ⟨b, o, none⟩)) = .ok (.agg ⟨l'⟩) := by
 obtain ⟨c, h1, h2⟩ := h
 have hg : c.gets n o = some l' := gets_eq _ _ _ _ hl fun j hj => by rw [h2 (o + j) (by omega), hp j hj]
 unfold loadF
 simp only [h1, hu, ha, cond_true, hs, R.ok_bind, hg]
noncomputable def c10 : Code := Tryz.f26.body.getD .skip
theorem c10_eq : Tryz.f26.body = some (.seq (sub c10 [0]) (.seq (sub c10 [1,0]) (.seq (sub c10 [1,1,0]) (.seq (sub c10 [1,1,1,0]) (.seq (sub c10 [1,1,1,1,0]) (.seq (sub c10 [1,1,1,1,1,0]) (sub c10 [1,1,1,1,1,1]))))))) := by kernel_rfl
theorem run_op {A : Mem} {o : OpI} (h : InOk A o) : ∃ A', Ans tb4 26 [.agg ⟨inC o⟩] A (.agg ⟨opC (opD o)⟩) A' ∧ Kp A A' := by
 obtain ⟨v, A', hg, rfl, hk⟩ : ∃ v A', Ans tb4 26 [.agg ⟨inC o⟩] A v A' ∧ v = .agg ⟨opC (opD o)⟩ ∧ Kp A A' := by
  refine ans_of_W (fn_at Tryz.func26) c10_eq (by rw [Tryz.ntmps26]; simp) (by kernel_rfl) (by kernel_rfl) ?_
  obtain ⟨d45, hd1, hd2⟩ := und45'
  obtain ⟨d26, he1, he2⟩ := und26
  obtain ⟨d38, hf1, hf2⟩ := und38
  have hv0 : Vals ((A.alloc (rowOb 54 (inC o))).alloc (rowOb 47 opZ)) 54 A.next (.var 8) (inC o) := (vals_puts (get_alloc_self _ _)).same (get_alloc_ne (by rw [next_alloc]; omega))
  have hz0 : Vals ((A.alloc (rowOb 54 (inC o))).alloc (rowOb 47 opZ)) 47 (A.next + 1) (.var 5) opZ := vals_puts (get_alloc_self _ _)
  have hk0 : Kp A ((A.alloc (rowOb 54 (inC o))).alloc (rowOb 47 opZ)) := (Kp.alloc _ _).trans (Kp.alloc _ _)
  have hn0 : ((A.alloc (rowOb 54 (inC o))).alloc (rowOb 47 opZ)).next = A.next + 2 := rfl
  apply W.seq
  apply W.run 20
  ·intro M
   simp (disch := first | decide +kernel | omega) only [c10, Tryz.f26, Aq, Nat.reduceEqDiff, z38, cells_agg, next_alloc]
   with_reducible rfl
  show W tb4 _ _ _
  generalize (A.alloc (rowOb 54 (inC o))).alloc (rowOb 47 opZ) = B at hv0 hz0 hk0 hn0
  have hl0 : loadF tb4 B.get 51 (.pointer (some ⟨A.next, 2, none⟩)) = .ok (drV o.dr) := load_part he1 he2 size26 hv0 rfl (by show 2 + 3 ≤ 8; decide) fun j hj => by
   have : j = 0 ∨ j = 1 ∨ j = 2 := by omega
   rcases this with rfl | rfl | rfl <;> rfl
  obtain ⟨C, ⟨g, hg⟩, kC⟩ := run_entry (A := B) (wt := o.dr.wt) (g := o.dr.gone) (h.by_.kp hk0)
  have hz1 : Vals (C.alloc (rowOb 59 [.string .empty, .int .u32 0, .bool false])) 59 C.next (.var 3) [.string .empty, .int .u32 0, .bool false] := vals_puts (get_alloc_self _ _)
  obtain ⟨C1, s1, v1, n1, k1⟩ := store_all (tb := tb4) (t := 59) (l := [.string .empty, .int .u32 0, .bool false]) (l' := entC (dE o.dr)) size45' hz1 rfl (by simp) (entC_one _)
  rw [next_alloc] at n1
  have kC1 : Kp B C1 := ⟨by have := kC.1; omega, fun z hz => by have := kC.1; rw [k1 z (by omega), get_alloc_ne (by omega), kC.2 z hz]⟩
  have hw0 : entD o.dr.ls o.dr.wt o.dr.gone = dE o.dr := rfl
  rw [hw0] at hg
  have hcn : A.next + 2 ≤ C.next := by have := kC.1; omega
  unfold drV at hl0
  apply W.seq
  apply W.runG (g) 20
  ·intro M hM
   simp (disch := first | decide +kernel | omega) only [c10, Tryz.f26, Aq, Nat.reduceEqDiff, f29_2, hl0, hg, z45, cells_agg, s1]
   with_reducible rfl
  show W tb4 _ _ _
  have hv1 : Vals C1 54 A.next (.var 8) (inC o) := hv0.same (kC1.2 _ (by omega))
  have hz2 : Vals C1 47 (A.next + 1) (.var 5) opZ := hz0.same (kC1.2 _ (by omega))
  have r0 : loadF tb4 C1.get 5 (.pointer (some ⟨A.next, 0, none⟩)) = .ok (.int .u8 (o.kd : Int)) := load_vals und5' rfl hv1 rfl
  have r5 : loadF tb4 C1.get 52 (.pointer (some ⟨A.next, 5, none⟩)) = .ok (.int .i8 o.k) := load_vals und27 rfl hv1 rfl
  have r6 : loadF tb4 C1.get 52 (.pointer (some ⟨A.next, 6, none⟩)) = .ok (.int .i8 o.n) := load_vals und27 rfl hv1 rfl
  have w0 : loadF tb4 C1.get 9 (.pointer (some ⟨C.next, 0, none⟩)) = .ok (strOf (dE o.dr).word) := load_vals und9' rfl v1 rfl
  have w1 : loadF tb4 C1.get 41 (.pointer (some ⟨C.next, 1, none⟩)) = .ok (.int .u32 ((dE o.dr).weight : Int)) := load_vals und24' rfl v1 rfl
  have cv := conv_u8 (n := o.kd % 11) (by omega)
  have ci := conv_i8 h.k1 h.k2
  have cn := conv_i8 h.n1 h.n2
  have sb := op_subI (a := ((o.kd % 11 : Nat) : Int)) (b := ((1 : Nat) : Int)) (by omega) (by omega)
  have hz3 : Vals (C1.alloc (rowOb 47 opZ)) 47 C1.next (.var 5) opZ := vals_puts (get_alloc_self _ _)
  obtain ⟨C2, s2, v2, n2, k2⟩ := store_all (tb := tb4) (t := 47) (l := opZ) (l' := opC ⟨((o.kd % 11 : Nat) : Int) - ((1 : Nat) : Int), (dE o.dr).word, (dE o.dr).weight, o.k, o.n⟩) size38 hz3 rfl (by simp [opZ]) (opC_one _)
  rw [next_alloc] at n2
  have kC2 : Kp C1 C2 := ⟨by omega, fun z hz => by rw [k2 z (by omega), get_alloc_ne (by omega)]⟩
  apply W.seq
  apply W.run 20
  ·intro M
   simp (disch := first | decide +kernel | omega) only [c10, Tryz.f26, Aq, Nat.reduceEqDiff, f29_0, f29_3, f29_4, r0, r5, r6, w0, w1, fb0, fb1', cv, ci, cn, sb, bld38, z38, cells_agg, s2]
   with_reducible rfl
  show W tb4 _ _ _
  have hv2 : Vals C2 54 A.next (.var 8) (inC o) := hv1.same (kC2.2 _ (by omega))
  have q0 : loadF tb4 C2.get 5 (.pointer (some ⟨A.next, 0, none⟩)) = .ok (.int .u8 (o.kd : Int)) := load_vals und5' rfl hv2 rfl
  have cv3 := conv_u8 (n := o.kd % 3) (by omega)
  apply W.seq
  have step3 : ∀ t : T Value, Sl t [(1, .pointer (some ⟨A.next, 0, none⟩)), (2, .pointer (some ⟨A.next + 1, 0, none⟩)), (4, .pointer (some ⟨C1.next, 0, none⟩))] →
    W tb4 (sub c10 [1,1,1,0]) ⟨t, 45, [], C2, none⟩ (fun e s' => ∃ t' D, e = .nrm ∧ s' = ⟨t', 45, [], D, none⟩ ∧ D.next = C2.next ∧ (∀ z, z ≠ C1.next → D.get z = C2.get z) ∧ Vals D 47 C1.next (.var 5) (opC ⟨(opD o).kind, (dE o.dr).word, (dE o.dr).weight, o.k, o.n⟩) ∧ Sl t' [(1, .pointer (some ⟨A.next, 0, none⟩)), (2, .pointer (some ⟨A.next + 1, 0, none⟩)), (4, .pointer (some ⟨C1.next, 0, none⟩))]) := by
   rintro t ⟨g1, g2, g4, -⟩
   by_cases h100 : 100 < o.kd
   ·obtain ⟨C3, s3, v3, n3, k3⟩ := store_vals (tb := tb4) (t := 3) (o := 0) (v := .int .i64 ((o.kd % 3 : Nat) : Int)) size3' v2 (by show 0 < 5; decide) rfl rfl
    have hkk : (opD o).kind = ((o.kd % 3 : Nat) : Int) := by unfold opD; rw [if_pos h100]
    apply W.run 20
    ·intro M
     simp (disch := first | decide +kernel | omega) only [c10, Tryz.f26, Aq, Nat.reduceEqDiff, g1, g4, f29_0, q0, h100, cv3, f38_0, s3]
     with_reducible rfl
    refine ⟨_, C3, rfl, rfl, n3, k3, ?_, ?_⟩
    ·rw [hkk]; exact v3
    ·simp only [Sl_cons, Sl_nil, T.get_set, T.puts_cons, T.puts_nil, Nat.reduceEqDiff, Nat.reduceAdd, if_true, if_false, and_true, true_and, g1, g2, g4]
   ·have hkk : (opD o).kind = ((o.kd % 11 : Nat) : Int) - ((1 : Nat) : Int) := by unfold opD; rw [if_neg h100]; rfl
    apply W.run 20
    ·intro M
     simp (disch := first | decide +kernel | omega) only [c10, Tryz.f26, Aq, Nat.reduceEqDiff, g1, g4, f29_0, q0, h100]
     with_reducible rfl
    refine ⟨_, C2, rfl, rfl, rfl, fun _ _ => rfl, ?_, ?_⟩
    ·rw [hkk]; exact v2
    ·simp only [Sl_cons, Sl_nil, T.get_set, T.puts_cons, T.puts_nil, Nat.reduceEqDiff, Nat.reduceAdd, if_true, if_false, and_true, true_and, g1, g2, g4]
  refine (step3 _ (by simp only [Sl_cons, Sl_nil, T.get_set, T.puts_cons, T.puts_nil, Nat.reduceEqDiff, Nat.reduceAdd, if_true, if_false, and_true, true_and])).mono ?_
  rintro e s' ⟨t3, D, rfl, rfl, nD, kD, vD, g1, g2, g4, -⟩
  show W tb4 _ _ _
  have hv3 : Vals D 54 A.next (.var 8) (inC o) := hv2.same (kD _ (by omega))
  have p1 : loadF tb4 D.get 5 (.pointer (some ⟨A.next, 1, none⟩)) = .ok (.int .u8 (o.told : Int)) := load_vals und5' rfl hv3 rfl
  have p7 : loadF tb4 D.get 9 (.pointer (some ⟨A.next, 7, none⟩)) = .ok (strOf o.raw) := load_vals und9' rfl hv3 rfl
  apply W.seq
  have step5 : W tb4 (sub c10 [1,1,1,1,0]) ⟨t3, 45, [], D, none⟩ (fun e s' => ∃ t' E, e = .nrm ∧ s' = ⟨t', 45, [], E, none⟩ ∧ E.next = C2.next ∧ (∀ z, z ≠ C1.next → E.get z = C2.get z) ∧ Vals E 47 C1.next (.var 5) (opC (opD o)) ∧ Sl t' [(1, .pointer (some ⟨A.next, 0, none⟩)), (2, .pointer (some ⟨A.next + 1, 0, none⟩)), (4, .pointer (some ⟨C1.next, 0, none⟩))]) := by
   by_cases h9 : o.told % 16 = 9
   ·obtain ⟨C3, s3, v3, n3, k3⟩ := store_vals (tb := tb4) (t := 9) (o := 1) (v := strOf (o.raw.take (min o.raw.length 300))) size9' vD (by show 1 < 5; decide) rfl rfl
    have hlen := len_str (tb := tb4) und9' (l := o.raw)
    have hmn := min_i64 (tb := tb4) (ts := [3, 3]) (a := o.raw.length) (b := 300)
    have hsl := slice_to (tb := tb4) (t := 9) (k := .i64) (l := o.raw) (n := min o.raw.length 300) und9' (Nat.min_le_left _ _)
    have hkk : opD o = ⟨(opD o).kind, o.raw.take (min o.raw.length 300), (dE o.dr).weight, o.k, o.n⟩ := by
     unfold opD; rw [if_pos h9]
    apply W.run 20
    ·intro M
     simp (disch := first | decide +kernel | omega) only [c10, Tryz.f26, Aq, Nat.reduceEqDiff, g1, g4, f29_1, f29_5, p1, p7, h9, hlen, hmn, hsl, f38_1, s3]
     with_reducible rfl
    refine ⟨_, C3, rfl, rfl, by omega, fun z hz => by rw [k3 z hz, kD z hz], ?_, ?_⟩
    ·rw [hkk]; exact v3
    ·simp only [Sl_cons, Sl_nil, T.get_set, T.puts_cons, T.puts_nil, Nat.reduceEqDiff, Nat.reduceAdd, if_true, if_false, and_true, true_and, g1, g2, g4]
   ·have hkk : opD o = ⟨(opD o).kind, (dE o.dr).word, (dE o.dr).weight, o.k, o.n⟩ := by
     unfold opD; rw [if_neg h9]
    apply W.run 20
    ·intro M
     simp (disch := first | decide +kernel | omega) only [c10, Tryz.f26, Aq, Nat.reduceEqDiff, g1, g4, f29_1, p1, h9]
     with_reducible rfl
    refine ⟨_, D, rfl, rfl, nD, kD, ?_, ?_⟩
    ·rw [hkk]; exact vD
    ·simp only [Sl_cons, Sl_nil, T.get_set, T.puts_cons, T.puts_nil, Nat.reduceEqDiff, Nat.reduceAdd, if_true, if_false, and_true, true_and, g1, g2, g4]
  refine step5.mono ?_
  rintro e s' ⟨t5, E, rfl, rfl, nE, kE, vE, f1, f2, f4, -⟩
  show W tb4 _ _ _
  have hzE : Vals E 47 (A.next + 1) (.var 5) opZ := (hz2.same (kC2.2 _ (by omega))).same (kE _ (by omega))
  obtain ⟨F, s6, v6, n6, k6⟩ := store_all (tb := tb4) (t := 47) (l := opZ) (l' := opC (opD o)) size38 hzE rfl (by simp [opZ]) (opC_one _)
  have hlE := load_all (tb := tb4) hf1 hf2 (l := opC (opD o)) size38 vE
  have hlF := load_all (tb := tb4) hf1 hf2 (l := opC (opD o)) size38 v6
  have kBE : Kp A E := ⟨by have := hk0.1; have := kC1.1; omega, fun z hz => by
   have := hk0.1; have := kC1.1
   rw [kE z (by omega), kC2.2 z (by omega), kC1.2 z (by omega), hk0.2 z hz]⟩
  apply W.seq
  apply W.run 20
  ·intro M
   simp (disch := first | decide +kernel | omega) only [c10, Tryz.f26, Aq, Nat.reduceEqDiff, f2, f4, hlE, s6]
   with_reducible rfl
  apply W.run 20
  ·intro M
   simp (disch := first | decide +kernel | omega) only [c10, Tryz.f26, Aq, Nat.reduceEqDiff]
   with_reducible rfl
  refine ⟨.inr rfl, F, [.agg ⟨opC (opD o)⟩], rfl, ?_, rfl, ?_⟩
  ·simp only [Tryz.f26, resF, ev_tmp, T.get_set, Nat.reduceEqDiff, if_true, if_false, evG_some, R.ok_bind, f2, hlF]
  ·exact ⟨by rw [n6]; exact kBE.1, fun z hz => by rw [k6 z (by omega), kBE.2 z hz]⟩
 exact ⟨A', hg, hk⟩
end Go.Proofs.YtnelkapmmgggdaaGreat.mdl

/-
 Model: what an update does, by its kind.
-/
namespace Go.Am
section
variable {tb : Tab} {ih : Code → St → R (Ex × St)}
variable (dst : Option Tmp) (ty : TypeId) (pos : String) (after : Array Edge) (g : Option (Nat × Bool)) (s : St) (k : St → R (Ex × St))
theorem opF_makeMap (t : TypeId) (r : Option Operand) : opF tb ih { dst, op := .makeMap t r, type := ty, pos, after, guard := g } s k =
  (evo s.t r).bind fun r => (makeMapF tb t r).bind fun (ob, way) => putT { s with m := s.m.alloc ob } dst (way.at s.m.next) k := by
 rw [opF_Al _ _ _ _ _ _ _ rfl rfl]; simp only [aOp, R.bind_bind]
theorem opF_insert (t : TypeId) (m x v : Operand) : opF tb ih { dst, op := .insert t m x v, type := ty, pos, after, guard := g } s k =
  (ev s.t m).bind fun m => (ev s.t x).bind fun x => (ev s.t v).bind fun v => (mapUpdateF tb s.m t m x v).bind fun A => putT { s with m := A } dst unitV k := by
 unfold opF
 show ((lOp tb s.t s.m (.insert t m x v)).bind fun (v, A) => putT { s with m := A } dst v k) = _
 simp only [lOp, R.bind_bind, R.ok_bind]
theorem opF_lookup (t : TypeId) (m x : Operand) (b : Bool) : opF tb ih { dst, op := .lookup t m x b, type := ty, pos, after, guard := g } s k =
  (ev s.t m).bind fun m => (ev s.t x).bind fun x => (lookupF tb s.m.get t m x b).bind fun v => putT s dst v k := by
 rw [opF_Rd _ _ _ _ _ _ _ rfl rfl]; simp only [rOp, R.bind_bind]
theorem rOp_lookup (t : T Value) (g : Nat → Option Ob) (e : TypeId) (m x : Operand) (b : Bool) : rOp tb t g (.lookup e m x b) = (ev t m).bind fun m => (ev t x).bind fun x => lookupF tb g e m x b := rfl
end
theorem cells_bool (b : Bool) : (Value.bool b).cells.toList = [.bool b] := rfl
theorem at_mp (b : Nat) : Way.mp.at b = .map (some b) := rfl
end Go.Am
namespace Go.Proofs.YtnelkapmmgggdaaGreat.mdl
open Go.Am Go.Mdl
set_option linter.unusedSimpArgs false
set_option linter.unusedVariables false
set_option linter.unusedVariables false

def putF (q : Nat) : Value := .func (.func 64) ⟨[]⟩ ⟨[.pointer (some ⟨q, 0, none⟩), .pointer (some ⟨q + 1, 0, none⟩), .pointer (some ⟨q + 2, 0, none⟩)]⟩
structure PutV (A : Mem) (q : Nat) (th : Bool) (no : Nat) (gn : Bool) : Prop where
 lt : q + 2 < A.next
 th : A.get q = some (rowOb 4 [.bool th])
 no : A.get (q + 1) = some (rowOb 36 [.int .i64 (no : Int)])
 gn : A.get (q + 2) = some (rowOb 4 [.bool gn])
theorem PutV.kp {A A' : Mem} {q no : Nat} {th gn : Bool} (h : PutV A q th no gn) (k : Kp A A') : PutV A' q th no gn := by
 have := h.lt
 exact ⟨by have := k.1; omega, by rw [k.2 _ (by omega)]; exact h.th, by rw [k.2 _ (by omega)]; exact h.no, by rw [k.2 _ (by omega)]; exact h.gn⟩
noncomputable def c39 : Code := Tryz.f44.body.getD .skip
theorem c39_eq : Tryz.f44.body = some (.seq (sub c39 [0]) (.seq (sub c39 [1,0]) (sub c39 [1,1]))) := by kernel_rfl
theorem run_put {A : Mem} (th gn : Bool) (no : Nat) : ∃ A', Ans tb4 44 [.bool th, .int .i64 (no : Int), .bool gn] A (putF A.next) A' ∧ PutV A' A.next th no gn ∧ A'.next = A.next + 3 ∧ Kp A A' := by
 obtain ⟨v, A', hg, rfl, rfl⟩ : ∃ v A', Ans tb4 44 [.bool th, .int .i64 (no : Int), .bool gn] A v A' ∧ v = putF A.next ∧ A' = ((A.alloc (rowOb 4 [.bool th])).alloc (rowOb 36 [.int .i64 (no : Int)])).alloc (rowOb 4 [.bool gn]) := by
  refine ans_of_W (fn_at Tryz.func44) c39_eq (by rw [Tryz.ntmps44]; simp) (by kernel_rfl) (by kernel_rfl) ?_
  apply W.seq
  apply W.run 20
  ·intro M
   simp (disch := first | decide +kernel | omega) only [c39, Tryz.f44, Aq, Nat.reduceEqDiff, cells_bool, next_alloc]
   with_reducible rfl
  apply W.seq
  apply W.run 20
  ·intro M
   simp (disch := first | decide +kernel | omega) only [c39, Tryz.f44, Aq, Nat.reduceEqDiff]
   with_reducible rfl
  apply W.run 20
  ·intro M
   simp (disch := first | decide +kernel | omega) only [c39, Tryz.f44, Aq, Nat.reduceEqDiff]
   with_reducible rfl
  refine ⟨.inr rfl, _, [putF A.next], rfl, ?_, rfl, rfl⟩
  simp only [Tryz.f44, resF, ev_tmp, T.get_set, Nat.reduceEqDiff, if_true, if_false, evG_some, R.ok_bind]
  rfl
 refine ⟨_, hg, ⟨by simp only [next_alloc]; omega, ?_, ?_, ?_⟩, rfl, ((Kp.alloc _ _).trans (Kp.alloc _ _)).trans (Kp.alloc _ _)⟩
 ·rw [get_alloc_ne (by simp only [next_alloc]; omega), get_alloc_ne (by simp only [next_alloc]; omega)]
  exact get_alloc_self _ _
 ·rw [get_alloc_ne (by simp only [next_alloc]; omega)]
  exact get_alloc_self _ _
 ·exact get_alloc_self _ _

def updE (q : Nat) : List MapEntry := [⟨.int .i64 0, putF (q + 1), 0⟩, ⟨.int .i64 1, putF (q + 4), 1⟩, ⟨.int .i64 2, putF (q + 7), 2⟩]
structure UpdsV (A : Mem) (q : Nat) : Prop where
 m : A.get q = some (.map (updE q) 3)
 add : PutV A (q + 1) false 8 false
 rem : PutV A (q + 4) true 9 true
 rew : PutV A (q + 7) true 9 false
noncomputable def c26 : Code := Tryz.f27.body.getD .skip
theorem c26_eq : Tryz.f27.body = some (.seq (sub c26 [0]) (.seq (sub c26 [1,0]) (sub c26 [1,1]))) := by kernel_rfl
theorem mm74 : makeMapF tb4 70 none = .ok (.map [] 0, .mp) := by kernel_rfl
theorem und74 : ∃ vt, tb4.und 70 = some (.map 3 vt) := by
 have h : (match tb4.und 70 with | some (.map k v) => Nat.beq k 3 | _ => false) = true := by kernel_rfl
 cases hq : tb4.und 70 with
 | none => rw [hq] at h; cases h
 | some d =>
  rw [hq] at h
  cases d with
  | map k v => exact ⟨v, by rw [Nat.eq_of_beq_eq_true h]⟩
  | _ => cases h
theorem ins74 {A : Mem} {q c : Nat} {es : List MapEntry} {k : Int} {v : Value} (h : A.get q = some (.map es c)) (hf : findF (.int .i64 k) es 0 = some none) : mapUpdateF tb4 A 70 (.map (some q)) (.int .i64 k) v = .ok (A.set q (.map (es ++ [⟨.int .i64 k, v, c⟩]) (c + 1))) := by
 obtain ⟨vt, hu⟩ := und74
 have hk : keyOk tb4 3 (.int .i64 k) = true := by unfold keyOk; rw [und3']
 unfold mapUpdateF
 simp only [hu, hk, cond_true, h, hf]
theorem run_updates {A : Mem} : ∃ A', Ans tb4 27 [] A (.map (some A.next)) A' ∧ UpdsV A' A.next ∧ Kp A A' := by
 obtain ⟨v, A', hg, rfl, h, hk⟩ : ∃ v A', Ans tb4 27 [] A v A' ∧ v = .map (some A.next) ∧ UpdsV A' A.next ∧ Kp A A' := by
  refine ans_of_W (fn_at Tryz.func27) c26_eq (by rw [Tryz.ntmps27]; simp) (by kernel_rfl) (by kernel_rfl) ?_
  have hm0 : (A.alloc (.map [] 0)).get A.next = some (.map [] 0) := get_alloc_self _ _
  have n0 : (A.alloc (.map [] 0)).next = A.next + 1 := next_alloc _ _
  have k0 : Kp A (A.alloc (.map [] 0)) := Kp.alloc _ _
  obtain ⟨B1, ⟨g1, hg1⟩, p1, n1, k1⟩ := run_put (A := A.alloc (.map [] 0)) false false 8
  rw [n0] at n1
  have hm1 : B1.get A.next = some (.map [] 0) := by rw [k1.2 _ (by omega)]; exact hm0
  have i1 := ins74 (k := ((0 : Nat) : Int)) (v := putF (A.alloc (.map [] 0)).next) hm1 rfl
  generalize hC1 : B1.set A.next (.map ([] ++ [⟨.int .i64 ((0 : Nat) : Int), putF (A.alloc (.map [] 0)).next, 0⟩]) (0 + 1)) = C1 at i1
  have m1 : C1.get A.next = some (.map [⟨.int .i64 0, putF (A.next + 1), 0⟩] 1) := by rw [← hC1, get_setMem, if_pos rfl, n0]; rfl
  have c1 : ∀ z, z ≠ A.next → C1.get z = B1.get z := fun z hz => by rw [← hC1, get_setMem, if_neg hz]
  have cn1 : C1.next = A.next + 4 := by rw [← hC1]; exact n1
  obtain ⟨B2, ⟨g2, hg2⟩, p2, n2, k2⟩ := run_put (A := C1) true true 9
  rw [cn1] at n2
  have hm2 : B2.get A.next = some (.map [⟨.int .i64 0, putF (A.next + 1), 0⟩] 1) := by rw [k2.2 _ (by omega)]; exact m1
  have i2 := ins74 (k := ((1 : Nat) : Int)) (v := putF C1.next) hm2 rfl
  generalize hC2 : B2.set A.next (.map ([⟨.int .i64 0, putF (A.next + 1), 0⟩] ++ [⟨.int .i64 ((1 : Nat) : Int), putF C1.next, 1⟩]) (1 + 1)) = C2 at i2
  have m2 : C2.get A.next = some (.map [⟨.int .i64 0, putF (A.next + 1), 0⟩, ⟨.int .i64 1, putF (A.next + 4), 1⟩] 2) := by rw [← hC2, get_setMem, if_pos rfl, cn1]; rfl
  have c2 : ∀ z, z ≠ A.next → C2.get z = B2.get z := fun z hz => by rw [← hC2, get_setMem, if_neg hz]
  have cn2 : C2.next = A.next + 7 := by rw [← hC2]; exact n2
  obtain ⟨B3, ⟨g3, hg3⟩, p3, n3, k3⟩ := run_put (A := C2) true false 9
  rw [cn2] at n3
  have hm3 : B3.get A.next = some (.map [⟨.int .i64 0, putF (A.next + 1), 0⟩, ⟨.int .i64 1, putF (A.next + 4), 1⟩] 2) := by rw [k3.2 _ (by omega)]; exact m2
  have i3 := ins74 (k := ((2 : Nat) : Int)) (v := putF C2.next) hm3 rfl
  generalize hC3 : B3.set A.next (.map ([⟨.int .i64 0, putF (A.next + 1), 0⟩, ⟨.int .i64 1, putF (A.next + 4), 1⟩] ++ [⟨.int .i64 ((2 : Nat) : Int), putF C2.next, 2⟩]) (2 + 1)) = C3 at i3
  have m3 : C3.get A.next = some (.map (updE A.next) 3) := by rw [← hC3, get_setMem, if_pos rfl, cn2]; rfl
  have c3 : ∀ z, z ≠ A.next → C3.get z = B3.get z := fun z hz => by rw [← hC3, get_setMem, if_neg hz]
  have cn3 : C3.next = A.next + 10 := by rw [← hC3]; exact n3
  rw [n0] at p1
  rw [cn1] at p2
  rw [cn2] at p3
  have mv : ∀ {X Y : Mem} {q no : Nat} {th gn : Bool}, PutV X q th no gn → A.next < q → X.next ≤ Y.next → (∀ z, z ≠ A.next → z < X.next → Y.get z = X.get z) → PutV Y q th no gn := by
   intro X Y q no th gn h hq hn hz
   have := h.lt
   exact ⟨by omega, by rw [hz _ (by omega) (by omega)]; exact h.th, by rw [hz _ (by omega) (by omega)]; exact h.no, by rw [hz _ (by omega) (by omega)]; exact h.gn⟩
  apply W.seq
  apply W.run 20
  ·intro M
   simp (disch := first | decide +kernel | omega) only [c26, Tryz.f27, Aq, Nat.reduceEqDiff, ev_nilmap]
   with_reducible rfl
  apply W.seq
  apply W.runG ((g1+g2+g3)) 20
  ·intro M hM
   simp (disch := first | decide +kernel | omega) only [c26, Tryz.f27, Aq, Nat.reduceEqDiff, opF_makeMap, opF_insert, at_mp, mm74, hg1, hg2, hg3, i1, i2, i3]
   with_reducible rfl
  apply W.run 20
  ·intro M
   simp (disch := first | decide +kernel | omega) only [c26, Tryz.f27, Aq, Nat.reduceEqDiff]
   with_reducible rfl
  refine ⟨.inr rfl, C3, [.map (some A.next)], rfl, ?_, rfl, ⟨m3, ?_, ?_, ?_⟩, ⟨by omega, fun z hz => ?_⟩⟩
  ·simp only [Tryz.f27, resF, ev_tmp, T.get_set, Nat.reduceEqDiff, if_true, if_false, evG_some, R.ok_bind]
  ·exact mv p1 (by omega) (by omega) fun z hz hl => by rw [c3 z hz, k3.2 z (by omega), c2 z hz, k2.2 z (by omega), c1 z hz]
  ·exact mv p2 (by omega) (by omega) fun z hz hl => by rw [c3 z hz, k3.2 z (by omega), c2 z hz]
  ·exact mv p3 (by omega) (by omega) fun z hz hl => by rw [c3 z hz]
  ·rw [c3 z (by omega), k3.2 z (by omega), c2 z (by omega), k2.2 z (by omega), c1 z (by omega), k1.2 z (by omega), k0.2 z hz]
 exact ⟨A', hg, h, hk⟩
end Go.Proofs.YtnelkapmmgggdaaGreat.mdl

/-
 Model: a word that is put.
-/
namespace Go.Proofs.YtnelkapmmgggdaaGreat.mdl
open Go.Am Go.Mdl
set_option linter.unusedSimpArgs false
set_option linter.unusedVariables false
set_option linter.unusedVariables false

def putD (d : List EntD) (o : OpV) (th : Bool) (no : Nat) (gn : Bool) : List EntD × Nat :=
 if okW o.word = false then (d, 7) else if (find o.word d).isSome ≠ th then (d, no) else (Go.Mdl.live (withL d [⟨o.word, o.weight, gn⟩]), 0)
noncomputable def c57 : Code := Tryz.f64.body.getD .skip
theorem c57_eq : Tryz.f64.body = some (.seq (sub c57 [0]) (.seq (.seq (sub c57 [1,0,0]) (sub c57 [1,0,1])) (.seq (.seq (sub c57 [1,1,0,0]) (.seq (sub c57 [1,1,0,1,0]) (sub c57 [1,1,0,1,1]))) (.seq (sub c57 [1,1,1,0]) (sub c57 [1,1,1,1]))))) := by kernel_rfl
theorem bs94 {w : List UInt8} : buildSliceF tb4 99 1 [(0, strOf w)] = .ok (rowOb 9 [strOf w], .slc 1 2) := by kernel_rfl
theorem und40' : tb4.und 36 = some (.int .i64) := by kernel_rfl
theorem run_put1 {A : Mem} {d : List EntD} {x : Value} {o : OpV} {q no : Nat} {th gn : Bool} (h : EntE A d x) (ha : Asc d) (hl : d.length < 999999) (hp : PutV A q th no gn) :
  ∃ y A', Ans tb4 64 [x, .agg ⟨opC o⟩, .pointer (some ⟨q, 0, none⟩), .pointer (some ⟨q + 1, 0, none⟩), .pointer (some ⟨q + 2, 0, none⟩)] A (.tuple ⟨[y, .int .i64 (((putD d o th no gn).2 : Nat) : Int)]⟩) A' ∧ EntE A' (putD d o th no gn).1 y ∧ Kp A A' := by
 obtain ⟨v, A', hg, y, rfl, he, hk⟩ : ∃ v A', Ans tb4 64 [x, .agg ⟨opC o⟩, .pointer (some ⟨q, 0, none⟩), .pointer (some ⟨q + 1, 0, none⟩), .pointer (some ⟨q + 2, 0, none⟩)] A v A' ∧ ∃ y, v = .tuple ⟨[y, .int .i64 (((putD d o th no gn).2 : Nat) : Int)]⟩ ∧ EntE A' (putD d o th no gn).1 y ∧ Kp A A' := by
  refine ans_of_W (fn_at Tryz.func64) c57_eq (by rw [Tryz.ntmps64]; simp) (by kernel_rfl) (by kernel_rfl) ?_
  have hq := hp.lt
  have k0 : Kp A (A.alloc (rowOb 47 (opC o))) := Kp.alloc _ _
  have v0 : Vals (A.alloc (rowOb 47 (opC o))) 47 A.next (.var 5) (opC o) := vals_puts (get_alloc_self _ _)
  have n0 : (A.alloc (rowOb 47 (opC o))).next = A.next + 1 := next_alloc _ _
  apply W.seq
  apply W.run 20
  ·intro M
   simp (disch := first | decide +kernel | omega) only [c57, Tryz.f64, Aq, Nat.reduceEqDiff, cells_agg]
   with_reducible rfl
  show W tb4 _ _ _
  generalize A.alloc (rowOb 47 (opC o)) = B at k0 v0 n0
  have lw : loadF tb4 B.get 9 (.pointer (some ⟨A.next, 1, none⟩)) = .ok (strOf o.word) := load_vals und9' rfl v0 rfl
  obtain ⟨g1, hg1⟩ := run_check (get_alloc_self B (rowOb 9 [strOf o.word]))
  have k1 : Kp A (B.alloc (rowOb 9 [strOf o.word])) := k0.trans (Kp.alloc _ _)
  have v1 : Vals (B.alloc (rowOb 9 [strOf o.word])) 47 A.next (.var 5) (opC o) := v0.same (get_alloc_ne (by omega))
  have n1 : (B.alloc (rowOb 9 [strOf o.word])).next = A.next + 2 := by rw [next_alloc, n0]
  apply W.seq
  apply W.seq
  cases hw : okW o.word with
  | false =>
   have hch : chk o.word = 7 := by unfold chk; rw [hw]; rfl
   rw [hch] at hg1
   have hd : putD d o th no gn = (d, 7) := by unfold putD; rw [if_pos hw]
   apply W.runG (g1) 20
   ·intro M hM
    simp (disch := first | decide +kernel | omega) only [c57, Tryz.f64, Aq, Nat.reduceEqDiff, f38_1, lw, bs94, at_slc, hg1]
    with_reducible rfl
   apply W.run 20
   ·intro M
    simp (disch := first | decide +kernel | omega) only [c57, Tryz.f64, Aq, Nat.reduceEqDiff]
    with_reducible rfl
   refine ⟨.inr rfl, _, [x, .int .i64 ((7 : Nat) : Int)], rfl, ?_, x, by rw [hd]; rfl, by rw [hd]; exact h.kp k1, k1⟩
   simp only [Tryz.f64, resF, ev_tmp, T.get_set, Nat.reduceEqDiff, if_true, if_false, evG_some, R.ok_bind]
  | true =>
   have hch : chk o.word = 0 := by unfold chk; rw [hw]; rfl
   rw [hch] at hg1
   apply W.runG (g1) 20
   ·intro M hM
    simp (disch := first | decide +kernel | omega) only [c57, Tryz.f64, Aq, Nat.reduceEqDiff, f38_1, lw, bs94, at_slc, hg1]
    with_reducible rfl
   apply W.run 20
   ·intro M
    simp (disch := first | decide +kernel | omega) only [c57, Tryz.f64, Aq, Nat.reduceEqDiff]
    with_reducible rfl
   show W tb4 _ _ _
   generalize B.alloc (rowOb 9 [strOf o.word]) = C at k1 v1 n1
   obtain ⟨b, hb⟩ := h.kp k1
   have lw1 : loadF tb4 C.get 9 (.pointer (some ⟨A.next, 1, none⟩)) = .ok (strOf o.word) := load_vals und9' rfl v1 rfl
   obtain ⟨D, ⟨g2, hg2⟩, nD, kD⟩ := run_find (w := o.word) hb hb.lt ha (by omega)
   have kCD : Kp C D := ⟨nD, kD⟩
   have z2 : Vals (D.alloc (rowOb 59 [.string .empty, .int .u32 0, .bool false])) 59 D.next (.var 3) [.string .empty, .int .u32 0, .bool false] := vals_puts (get_alloc_self _ _)
   obtain ⟨E, s2, v2, n2, e2⟩ := store_all (tb := tb4) (t := 59) (l := [.string .empty, .int .u32 0, .bool false]) (l' := entC ((find o.word d).getD zeroE)) size45' z2 rfl (by simp) (entC_one _)
   rw [next_alloc] at n2
   have kDE : Kp D E := ⟨by omega, fun z hz => by rw [e2 z (by omega), get_alloc_ne (by omega)]⟩
   have kE := (k1.trans kCD).trans kDE
   have pE := hp.kp kE
   have lth : loadF tb4 E.get 4 (.pointer (some ⟨q, 0, none⟩)) = .ok (.bool th) := load_vals und4' rfl (vals_puts (k := .var 1) pE.th) rfl
   apply W.seq
   apply W.seq
   apply W.runG (g2) 20
   ·intro M hM
    simp (disch := first | decide +kernel | omega) only [c57, Tryz.f64, Aq, Nat.reduceEqDiff, f38_1, lw1, hg2, List.getElem?_cons_zero, List.getElem?_cons_succ, z45, cells_agg, s2]
    with_reducible rfl
   apply W.seq
   by_cases hth : (find o.word d).isSome = th
   ·have hd : putD d o th no gn = (Go.Mdl.live (withL d [⟨o.word, o.weight, gn⟩]), 0) := by
     unfold putD
     rw [if_neg (by rw [hw]; decide), if_neg (fun h => h hth)]
    apply W.run 20
    ·intro M
     simp (disch := first | decide +kernel | omega) only [c57, Tryz.f64, Aq, Nat.reduceEqDiff, lth, hth, und4']
     with_reducible rfl
    apply W.run 20
    ·intro M
     simp (disch := first | decide +kernel | omega) only [c57, Tryz.f64, Aq, Nat.reduceEqDiff]
     with_reducible rfl
    show W tb4 _ _ _
    have vE : Vals E 47 A.next (.var 5) (opC o) := (v1.same (kCD.2 _ (by omega))).same (kDE.2 _ (by omega))
    have lw2 : loadF tb4 E.get 9 (.pointer (some ⟨A.next, 1, none⟩)) = .ok (strOf o.word) := load_vals und9' rfl vE rfl
    have lwt : loadF tb4 E.get 41 (.pointer (some ⟨A.next, 2, none⟩)) = .ok (.int .u32 (o.weight : Int)) := load_vals und24' rfl vE rfl
    have lgn : loadF tb4 E.get 4 (.pointer (some ⟨q + 2, 0, none⟩)) = .ok (.bool gn) := load_vals und4' rfl (vals_puts (k := .var 1) pE.gn) rfl
    have kF := kE.trans (Kp.alloc E (rowOb 59 (entC ⟨o.word, o.weight, gn⟩)))
    have hm : EntS (E.alloc (rowOb 59 (entC ⟨o.word, o.weight, gn⟩))) E.next [⟨o.word, o.weight, gn⟩] (.slice (some ⟨E.next, 0, none⟩) 1 2) :=
     .inr ⟨.var 3, 2, rfl, by rw [next_alloc]; omega, vals_puts (get_alloc_self _ _), fun l hl => (by
      simp only [List.map_cons, List.map_nil, List.mem_singleton] at hl
      rw [hl]; rfl), .inl rfl⟩
    obtain ⟨b', hb'⟩ := h.kp kF
    obtain ⟨y1, G1, b1, ⟨g3, hg3⟩, w1, nn1, o1, kk1⟩ := run_with hb' hm hm.lt ha (by simp only [List.length_cons, List.length_nil]; omega)
    have hwl := withL_len (own := d) (more := [⟨o.word, o.weight, gn⟩]) ha
    obtain ⟨y2, G2, b2, ⟨g4, hg4⟩, w2, nn2, o2, hn2, kk2⟩ := run_live w1.ents w1.lt (by simp only [List.length_cons, List.length_nil] at hwl; omega)
    apply W.seq
    apply W.runG ((g3+g4)) 20
    ·intro M hM
     simp (disch := first | decide +kernel | omega) only [c57, Tryz.f64, Aq, Nat.reduceEqDiff, f38_1, f38_2, lw2, lwt, lgn, bld45, bs45, at_slc, hg3, hg4]
     with_reducible rfl
    apply W.run 20
    ·intro M
     simp (disch := first | decide +kernel | omega) only [c57, Tryz.f64, Aq, Nat.reduceEqDiff]
     with_reducible rfl
    refine ⟨.inr rfl, G2, [y2, .int .i64 ((0 : Nat) : Int)], rfl, ?_, y2, by rw [hd]; rfl, by rw [hd]; exact ⟨b2, w2⟩, (kF.trans ⟨nn1, kk1⟩).trans ⟨nn2, kk2⟩⟩
    simp only [Tryz.f64, resF, ev_tmp, T.get_set, Nat.reduceEqDiff, if_true, if_false, evG_some, R.ok_bind]
   ·have hd : putD d o th no gn = (d, no) := by
     unfold putD
     rw [if_neg (by rw [hw]; decide), if_pos hth]
    have lno : loadF tb4 E.get 36 (.pointer (some ⟨q + 1, 0, none⟩)) = .ok (.int .i64 (no : Int)) := load_vals und40' rfl (vals_puts (k := .var 1) pE.no) rfl
    have hx : ((find o.word d).isSome != th) = true := bne_iff_ne.2 hth
    apply W.run 20
    ·intro M
     simp (disch := first | decide +kernel | omega) only [c57, Tryz.f64, Aq, Nat.reduceEqDiff, lth, hx, und4']
     with_reducible rfl
    apply W.run 20
    ·intro M
     simp (disch := first | decide +kernel | omega) only [c57, Tryz.f64, Aq, Nat.reduceEqDiff, lno]
     with_reducible rfl
    refine ⟨.inr rfl, E, [x, .int .i64 (no : Int)], rfl, ?_, x, by rw [hd]; rfl, by rw [hd]; exact h.kp kE, kE⟩
    simp only [Tryz.f64, resF, ev_tmp, T.get_set, Nat.reduceEqDiff, if_true, if_false, evG_some, R.ok_bind]
 exact ⟨y, A', hg, he, hk⟩
end Go.Proofs.YtnelkapmmgggdaaGreat.mdl

/-
 Model: oneL update of some.
-/
namespace Go.Proofs.YtnelkapmmgggdaaGreat.mdl
open Go.Am Go.Mdl
set_option linter.unusedSimpArgs false
set_option linter.unusedVariables false
set_option linter.unusedVariables false

def stepP (d : List EntD) (o : OpV) : List EntD × Nat :=
 if o.kind = 0 then putD d o false 8 false else if o.kind = 1 then putD d o true 9 true else if o.kind = 2 then putD d o true 9 false else (d, 2)
abbrev OpS (A : Mem) (b : Nat) (l : List OpV) (x : Value) : Prop := SlcM A 47 5 b (l.map opC) x
theorem und70 : tb4.und 34 = some (.slice 47) := by kernel_rfl
def nilFn : Value := .nilFunc
theorem und74z : ∃ vt, tb4.und 70 = some (.map 3 vt) ∧ zeroF tb4 vt = .ok nilFn := by
 have h : (match tb4.und 70 with | some (.map k v) => Nat.beq k 3 && (match zeroF tb4 v with | .ok .nilFunc => true | _ => false) | _ => false) = true := by kernel_rfl
 cases hq : tb4.und 70 with
 | none => rw [hq] at h; cases h
 | some d =>
  rw [hq] at h
  cases d with
  | map k v =>
   simp only [Bool.and_eq_true] at h
   refine ⟨v, by rw [Nat.eq_of_beq_eq_true h.1], ?_⟩
   have h2 := h.2
   split at h2
   ·rename_i e; exact e
   ·cases h2
  | _ => cases h
theorem look74 {A : Mem} {q : Nat} {o : OpV} {d : List EntD} (h : UpdsV A q) :
  (∃ p th no gn, lookupF tb4 A.get 70 (.map (some q)) (.int .i64 o.kind) true = .ok (.tuple ⟨[putF p, .bool true]⟩) ∧ PutV A p th no gn ∧ stepP d o = putD d o th no gn) ∨
  (lookupF tb4 A.get 70 (.map (some q)) (.int .i64 o.kind) true = .ok (.tuple ⟨[nilFn, .bool false]⟩) ∧ stepP d o = (d, 2)) := by
 obtain ⟨vt, hu, hz⟩ := und74z
 have hk : keyOk tb4 3 (.int .i64 o.kind) = true := by unfold keyOk; rw [und3']
 have he : entriesF A.get (.map (some q)) = .ok (updE q) := by unfold entriesF; simp only [h.m]
 have hl : lookupF tb4 A.get 70 (.map (some q)) (.int .i64 o.kind) true = match findF (.int .i64 o.kind) (updE q) 0 with
   | some (some (_, v)) => .ok (.tuple ⟨[v, .bool true]⟩)
   | some none => .ok (.tuple ⟨[nilFn, .bool false]⟩)
   | none => .no 80 := by
  unfold lookupF
  simp only [hu, hk, cond_true, he, R.ok_bind, hz]
  cases findF (.int .i64 o.kind) (updE q) 0 with
  | none => rfl
  | some y => cases y with
   | none => rfl
   | some z => rfl
 have kq : ∀ a b : Int, keyEq (.int .i64 a) (.int .i64 b) = some (decide (a = b)) := fun a b => by
  show (bif kindEq .i64 .i64 then some (ieqF a b) else none) = _
  rw [ieqF_eq]; rfl
 have fc : ∀ (a : Int) (e : MapEntry) (es : List MapEntry) (i : Nat) (b : Int), e.key = .int .i64 b → findF (.int .i64 a) (e :: es) i = if a = b then some (some (i, e.val)) else findF (.int .i64 a) es (i + 1) := fun a e es i b hb => by
  show (match keyEq (.int .i64 a) e.key with | some true => some (some (i, e.val)) | some false => findF (.int .i64 a) es (Nat.succ i) | none => none) = _
  rw [hb, kq]
  by_cases hab : a = b <;> simp [hab]
 rw [hl]
 unfold stepP updE
 by_cases h0 : o.kind = 0
 ·left
  refine ⟨q + 1, _, _, _, ?_, h.add, by rw [if_pos h0]⟩
  rw [fc _ _ _ _ 0 rfl, if_pos h0]
 ·by_cases h1 : o.kind = 1
  ·left
   refine ⟨q + 4, _, _, _, ?_, h.rem, by rw [if_neg h0, if_pos h1]⟩
   rw [fc _ _ _ _ 0 rfl, if_neg h0, fc _ _ _ _ 1 rfl, if_pos h1]
  ·by_cases h2 : o.kind = 2
   ·left
    refine ⟨q + 7, _, _, _, ?_, h.rew, by rw [if_neg h0, if_neg h1, if_pos h2]⟩
    rw [fc _ _ _ _ 0 rfl, if_neg h0, fc _ _ _ _ 1 rfl, if_neg h1, fc _ _ _ _ 2 rfl, if_pos h2]
   ·right
    refine ⟨?_, by rw [if_neg h0, if_neg h1, if_neg h2]⟩
    rw [fc _ _ _ _ 0 rfl, if_neg h0, fc _ _ _ _ 1 rfl, if_neg h1, fc _ _ _ _ 2 rfl, if_neg h2]
    rfl
theorem selfI (n : Int) : sameV 100 (.int .i64 n) (.int .i64 n) = true := by
 have : ieqF n n = true := by rw [ieqF_iff]; simp
 simp [sameV, kindEq, this]
noncomputable def c11 : Code := Tryz.f10.body.getD .skip
noncomputable def c11b1 : Code := sub c11 [1,1,0,1,0,0]
theorem c11_eq : Tryz.f10.body = some (.seq (sub c11 [0]) (.seq (sub c11 [1,0]) (.seq (.seq (sub c11 [1,1,0,0]) (.block 0 (.loop c11b1))) (.seq (sub c11 [1,1,1,0]) (sub c11 [1,1,1,1]))))) := by kernel_rfl
theorem c11b1_eq : c11b1 = .seq (sub c11b1 [0]) (.seq (sub c11b1 [1,0]) (.seq (.block 1 (.seq (sub c11b1 [1,1,0,0,0]) (.seq (sub c11b1 [1,1,0,0,1,0]) (.seq (.seq (sub c11b1 [1,1,0,0,1,1,0,0]) (.seq (sub c11b1 [1,1,0,0,1,1,0,1,0]) (.cond (.tmp 25) (sub c11b1 [1,1,0,0,1,1,0,1,1,0]) .skip))) (sub c11b1 [1,1,0,0,1,1,1]))))) (sub c11b1 [1,1,1]))) := by kernel_rfl
def upS (x xo : Value) (f n k : Nat) : List (Nat × Value) := [(4, x), (5, .int .i64 (f : Int)), (12, xo), (13, .int .i64 (n : Int)), (14, .int .i64 (k : Int))]
theorem upd_round {C : Mem} {d : List EntD} {l : List OpV} {o : OpV} {x xo : Value} {bo f n k : Nat} {t : T Value} {K : Ex → St → Prop} (h : EntE C d x) (ha : Asc d) (hl : d.length < 999999) (ho : OpS C bo l xo) (hk : l[k]? = some o) (ht : Sl t (upS x xo f n k))
  (hK : ∀ t' C' x', EntE C' (stepP d o).1 x' → Kp C C' → Sl t' (upS x' xo (if f = 0 then (stepP d o).2 else f) n k) → K .nrm ⟨t', 39, [], C', none⟩) :
  W tb4 (.seq (sub c11b1 [1,1,0,0,0]) (.seq (sub c11b1 [1,1,0,0,1,0]) (.seq (.seq (sub c11b1 [1,1,0,0,1,1,0,0]) (.seq (sub c11b1 [1,1,0,0,1,1,0,1,0]) (.cond (.tmp 25) (sub c11b1 [1,1,0,0,1,1,0,1,1,0]) .skip))) (sub c11b1 [1,1,0,0,1,1,1])))) ⟨t, 39, [], C, none⟩ K := by
 obtain ⟨g4, g5, g12, g13, g14, -⟩ := ht
 obtain ⟨d38, hf1, hf2⟩ := und38
 have hkl : k < l.length := (List.getElem?_eq_some_iff.1 hk).1
 have hidx : indexAddrF tb4 34 xo (.int .i64 ((k : Nat) : Int)) = .ok (.pointer (some ⟨bo, k * 5, none⟩)) := ho.idx und70 size38 (by rw [List.length_map]; exact hkl)
 have hld : loadF tb4 C.get 47 (.pointer (some ⟨bo, k * 5, none⟩)) = .ok (.agg ⟨opC o⟩) := ho.load_all hf1 hf2 size38 (by rw [List.getElem?_map, hk]; rfl)
 have z2 : Vals (C.alloc (rowOb 47 opZ)) 47 C.next (.var 5) opZ := vals_puts (get_alloc_self _ _)
 obtain ⟨C1, s1, v1, n1, k1⟩ := store_all (tb := tb4) (t := 47) (l := opZ) (l' := opC o) size38 z2 rfl (by simp [opZ]) (opC_one _)
 rw [next_alloc] at n1
 have kC1 : Kp C C1 := ⟨by omega, fun z hz => by rw [k1 z (by omega), get_alloc_ne (by omega)]⟩
 apply W.seq
 apply W.run 20
 ·intro M
  simp (disch := first | decide +kernel | omega) only [c11b1, c11, Tryz.f10, Aq, Nat.reduceEqDiff, g12, g14, hidx, hld, z38, cells_agg, s1]
  with_reducible rfl
 apply W.seq
 apply W.run 20
 ·intro M
  simp (disch := first | decide +kernel | omega) only [c11b1, c11, Tryz.f10, Aq, Nat.reduceEqDiff]
  with_reducible rfl
 show W tb4 _ _ _
 obtain ⟨C2, ⟨g1, hg1⟩, hU, kC2⟩ := run_updates (A := C1)
 have v2 : Vals C2 47 C.next (.var 5) (opC o) := v1.same (kC2.2 _ (by omega))
 have lk1 : loadF tb4 C1.get 3 (.pointer (some ⟨C.next, 0, none⟩)) = .ok (.int .i64 o.kind) := load_vals und3' rfl v1 rfl
 have lk2 : loadF tb4 C2.get 3 (.pointer (some ⟨C.next, 0, none⟩)) = .ok (.int .i64 o.kind) := load_vals und3' rfl v2 rfl
 have hself := selfI o.kind
 have la : loadF tb4 C2.get 47 (.pointer (some ⟨C.next, 0, none⟩)) = .ok (.agg ⟨opC o⟩) := load_all hf1 hf2 size38 v2
 have hE2 := h.kp (kC1.trans kC2)
 apply W.seq
 apply W.seq
 rcases look74 (o := o) (d := d) hU with ⟨p, th, no, gn, hlk, hP, hst⟩ | ⟨hlk, hst⟩
 ·apply W.runG (g1) 20
  ·intro M hM
   simp (config := { maxSteps := 4000000 }) (disch := first | decide +kernel | omega | simp only [Wq, Nat.reduceEqDiff]) only [c11b1, c11, Tryz.f10, Aq, Nat.ble, reduceIte, Nat.reduceEqDiff, Nat.reduceAdd, Fq, exec_float [(2, 0)], hg1, f38_0, lk1, lk2, hself, opF_lookup, rOp_lookup, hlk, List.getElem?_cons_zero, List.getElem?_cons_succ]
   with_reducible rfl
  apply W.seq
  apply W.run 20
  ·intro M
   simp (disch := first | decide +kernel | omega) only [c11b1, c11, Tryz.f10, Aq, Nat.reduceEqDiff]
   with_reducible rfl
  show W tb4 _ _ _
  refine W.cond (p := true) ?_ (fun _ => ?_) (fun h => by cases h)
  ·simp only [ev_tmp, T.get_set, Nat.reduceEqDiff, if_true, if_false, evG_some]
  obtain ⟨y, C3, ⟨g2, hg2⟩, hy, kC3⟩ := run_put1 (o := o) hE2 ha hl hP
  have hpf : putF p = .func (.func 64) ⟨[]⟩ ⟨[.pointer (some ⟨p, 0, none⟩), .pointer (some ⟨p + 1, 0, none⟩), .pointer (some ⟨p + 2, 0, none⟩)]⟩ := rfl
  rw [← hst] at hg2 hy
  apply W.runG (g2) 20
  ·intro M hM
   simp (disch := first | decide +kernel | omega) only [c11b1, c11, Tryz.f10, Aq, Nat.reduceEqDiff, g4, la, hpf, hg2, List.getElem?_cons_zero, List.getElem?_cons_succ]
   with_reducible rfl
  show W tb4 _ _ _
  by_cases hf : f = 0
  ·subst hf
   apply W.run 20
   ·intro M
    simp (disch := first | decide +kernel | omega) only [c11b1, c11, Tryz.f10, Aq, Nat.reduceEqDiff, g5]
    with_reducible rfl
   refine hK _ C3 y hy ((kC1.trans kC2).trans kC3) ?_
   rw [if_pos rfl]
   unfold upS; simp only [Sl_cons, Sl_nil, T.get_set, T.puts_cons, T.puts_nil, Nat.reduceEqDiff, Nat.reduceAdd, if_true, if_false, and_true, true_and, g12, g13, g14]
  ·apply W.run 20
   ·intro M
    simp (disch := first | decide +kernel | omega) only [c11b1, c11, Tryz.f10, Aq, Nat.reduceEqDiff, g5, hf]
    with_reducible rfl
   refine hK _ C3 y hy ((kC1.trans kC2).trans kC3) ?_
   rw [if_neg hf]
   unfold upS; simp only [Sl_cons, Sl_nil, T.get_set, T.puts_cons, T.puts_nil, Nat.reduceEqDiff, Nat.reduceAdd, if_true, if_false, and_true, true_and, g5, g12, g13, g14]
 ·apply W.runG (g1) 20
  ·intro M hM
   simp (config := { maxSteps := 4000000 }) (disch := first | decide +kernel | omega | simp only [Wq, Nat.reduceEqDiff]) only [c11b1, c11, Tryz.f10, Aq, Nat.ble, reduceIte, Nat.reduceEqDiff, Nat.reduceAdd, Fq, exec_float [(2, 0)], hg1, f38_0, lk1, lk2, hself, opF_lookup, rOp_lookup, hlk, List.getElem?_cons_zero, List.getElem?_cons_succ]
   with_reducible rfl
  apply W.seq
  apply W.run 20
  ·intro M
   simp (disch := first | decide +kernel | omega) only [c11b1, c11, Tryz.f10, Aq, Nat.reduceEqDiff]
   with_reducible rfl
  show W tb4 _ _ _
  refine W.cond (p := false) ?_ (fun h => by cases h) (fun _ => ?_)
  ·simp only [ev_tmp, T.get_set, Nat.reduceEqDiff, if_true, if_false, evG_some]
  rw [hst] at hK
  apply W.run 20
  ·intro M
   simp (disch := first | decide +kernel | omega) only [c11b1, c11, Tryz.f10, Aq, Nat.reduceEqDiff]
   with_reducible rfl
  show W tb4 _ _ _
  by_cases hf : f = 0
  ·subst hf
   apply W.run 20
   ·intro M
    simp (disch := first | decide +kernel | omega) only [c11b1, c11, Tryz.f10, Aq, Nat.reduceEqDiff, g5]
    with_reducible rfl
   refine hK _ C2 x hE2 (kC1.trans kC2) ?_
   rw [if_pos rfl]
   unfold upS; simp only [Sl_cons, Sl_nil, T.get_set, T.puts_cons, T.puts_nil, Nat.reduceEqDiff, Nat.reduceAdd, if_true, if_false, and_true, true_and, g4, g12, g13, g14]
  ·apply W.run 20
   ·intro M
    simp (disch := first | decide +kernel | omega) only [c11b1, c11, Tryz.f10, Aq, Nat.reduceEqDiff, g5, hf]
    with_reducible rfl
   refine hK _ C2 x hE2 (kC1.trans kC2) ?_
   rw [if_neg hf]
   unfold upS; simp only [Sl_cons, Sl_nil, T.get_set, T.puts_cons, T.puts_nil, Nat.reduceEqDiff, Nat.reduceAdd, if_true, if_false, and_true, true_and, g4, g5, g12, g13, g14]
end Go.Proofs.YtnelkapmmgggdaaGreat.mdl

/-
 Model: updates of a list.
-/
namespace Go.Proofs.YtnelkapmmgggdaaGreat.mdl
open Go.Am Go.Mdl
set_option linter.unusedSimpArgs false
set_option linter.unusedVariables false
set_option linter.unusedVariables false

def runU : List OpV → List EntD × Nat → List EntD × Nat
 | [], s => s
 | o :: l, (d, f) => runU l ((stepP d o).1, if f = 0 then (stepP d o).2 else f)
theorem putD_asc {d : List EntD} {o : OpV} {th gn : Bool} {no : Nat} (h : Asc d) : Asc (putD d o th no gn).1 ∧ (putD d o th no gn).1.length ≤ d.length + 1 := by
 unfold putD
 split
 ·exact ⟨h, Nat.le_succ _⟩
 ·split
  ·exact ⟨h, Nat.le_succ _⟩
  ·refine ⟨live_asc (withL_asc h), ?_⟩
   have h1 := withL_len (own := d) (more := [⟨o.word, o.weight, gn⟩]) h
   have h2 := live_le (withL d [⟨o.word, o.weight, gn⟩])
   simp only [List.length_cons, List.length_nil] at h1
   show (Go.Mdl.live _).length ≤ _
   omega
theorem stepP_asc {d : List EntD} {o : OpV} (h : Asc d) : Asc (stepP d o).1 ∧ (stepP d o).1.length ≤ d.length + 1 := by
 unfold stepP
 split
 ·exact putD_asc h
 ·split
  ·exact putD_asc h
  ·split
   ·exact putD_asc h
   ·exact ⟨h, Nat.le_succ _⟩
theorem OpS.len {A : Mem} {b : Nat} {l : List OpV} {x : Value} (h : OpS A b l x) : builtinPF tb4 .len [34] [x] = .ok (.int .i64 ((l.length : Nat) : Int)) := by
 have := SlcM.len (tb := tb4) h und70
 rwa [List.length_map] at this
theorem OpS.kp {A A' : Mem} {b : Nat} {l : List OpV} {x : Value} (h : OpS A b l x) (k : Kp A A') : OpS A' b l x := SlcM.same h k.1 (fun h => k.2 _ h)
theorem run_update {A : Mem} {d : List EntD} {l : List OpV} {x xo : Value} {bo : Nat} (h : EntE A d x) (ha : Asc d) (ho : OpS A bo l xo) (hl : d.length + l.length < 900000) :
  ∃ y A', Ans tb4 10 [x, xo] A (.tuple ⟨[y, .int .i64 (((runU l (d, 0)).2 : Nat) : Int)]⟩) A' ∧ EntE A' (runU l (d, 0)).1 y ∧ Kp A A' := by
 obtain ⟨v, A', hg, y, rfl, he, hk⟩ : ∃ v A', Ans tb4 10 [x, xo] A v A' ∧ ∃ y, v = .tuple ⟨[y, .int .i64 (((runU l (d, 0)).2 : Nat) : Int)]⟩ ∧ EntE A' (runU l (d, 0)).1 y ∧ Kp A A' := by
  refine ans_of_W (fn_at Tryz.func10) c11_eq (by rw [Tryz.ntmps10]; simp) (by kernel_rfl) (by kernel_rfl) ?_
  have hlen := ho.len
  apply W.seq
  apply W.run 20
  ·intro M
   simp (disch := first | decide +kernel | omega) only [c11, Tryz.f10, Aq, Nat.reduceEqDiff]
   with_reducible rfl
  apply W.seq
  apply W.run 20
  ·intro M
   simp (disch := first | decide +kernel | omega) only [c11, Tryz.f10, Aq, Nat.reduceEqDiff]
   with_reducible rfl
  apply W.seq
  apply W.seq
  apply W.run 20
  ·intro M
   simp (disch := first | decide +kernel | omega) only [c11, Tryz.f10, Aq, Nat.reduceEqDiff, hlen]
   with_reducible rfl
  apply W.block
  refine W.up l.length (fun k t C => ∃ d' f x', runU (l.drop k) (d', f) = runU l (d, 0) ∧ Asc d' ∧ d'.length ≤ d.length + k ∧ EntE C d' x' ∧ Kp A C ∧ Sl t (upS x' xo f l.length k)) ?_ (Nat.zero_le _) ⟨d, 0, x, rfl, ha, Nat.le_refl _, h, Kp.refl _, ?_⟩
  ·rintro k t C hk ⟨d', f, x', heq, has, hle, hE, hK, g4, g5, g12, g13, g14, -⟩
   rw [c11b1_eq]
   apply W.seq
   by_cases hlt : k < l.length
   ·have hek : l[k]? = some l[k] := List.getElem?_eq_getElem hlt
    apply W.run 20
    ·intro M
     simp (disch := first | decide +kernel | omega) only [c11b1, c11, Tryz.f10, Aq, Nat.reduceEqDiff, g13, g14, hlt]
     with_reducible rfl
    apply W.seq
    apply W.run 20
    ·intro M
     simp (disch := first | decide +kernel | omega) only [c11b1, c11, Tryz.f10, Aq, Nat.reduceEqDiff]
     with_reducible rfl
    apply W.seq
    apply W.block
    refine upd_round (xo := xo) (f := f) (n := l.length) hE has (by omega) (ho.kp hK) hek (by unfold upS; simp only [Sl_cons, Sl_nil, T.get_set, T.puts_cons, T.puts_nil, Nat.reduceEqDiff, Nat.reduceAdd, if_true, if_false, and_true, true_and, g4, g5, g12, g13, g14]) fun t' C' y' hy kC st => ?_
    obtain ⟨f4, f5, f12, f13, f14, -⟩ := st
    apply W.run 20
    ·intro M
     simp (disch := first | decide +kernel | omega) only [c11b1, c11, Tryz.f10, Aq, Nat.reduceEqDiff, f14]
     with_reducible rfl
    refine ⟨hlt, _, _, rfl, (stepP d' l[k]).1, (if f = 0 then (stepP d' l[k]).2 else f), y', ?_, (stepP_asc has).1, ?_, hy, hK.trans kC, ?_⟩
    ·rw [← heq, List.drop_eq_getElem_cons hlt]; rfl
    ·have := (stepP_asc (o := l[k]) has).2; omega
    ·unfold upS; simp only [Sl_cons, Sl_nil, T.get_set, T.puts_cons, T.puts_nil, Nat.reduceEqDiff, Nat.reduceAdd, if_true, if_false, and_true, true_and, f4, f5, f12, f13]
   ·have hkl : k = l.length := by omega
    rw [hkl, List.drop_length] at heq
    have heq' : runU l (d, 0) = (d', f) := heq.symm
    apply W.run 20
    ·intro M
     simp (disch := first | decide +kernel | omega) only [c11b1, c11, Tryz.f10, Aq, Nat.reduceEqDiff, g13, g14, hlt]
     with_reducible rfl
    apply W.seq
    apply W.run 20
    ·intro M
     simp (disch := first | decide +kernel | omega) only [c11b1, c11, Tryz.f10, Aq, Nat.reduceEqDiff]
     with_reducible rfl
    apply W.seq
    apply W.run 20
    ·intro M
     simp (disch := first | decide +kernel | omega) only [c11, Tryz.f10, Aq, Nat.reduceEqDiff, g4, g5]
     with_reducible rfl
    apply W.run 20
    ·intro M
     simp (disch := first | decide +kernel | omega) only [c11, Tryz.f10, Aq, Nat.reduceEqDiff]
     with_reducible rfl
    refine ⟨.inr rfl, C, [x', .int .i64 (f : Int)], rfl, ?_, x', by rw [heq']; rfl, by rw [heq']; exact hE, hK⟩
    simp only [Tryz.f10, resF, ev_tmp, T.get_set, Nat.reduceEqDiff, if_true, if_false, evG_some, R.ok_bind]
  ·unfold upS; simp only [Sl_cons, Sl_nil, T.get_set, T.puts_cons, T.puts_nil, Nat.reduceEqDiff, Nat.reduceAdd, if_true, if_false, and_true, true_and]
 exact ⟨y, A', hg, he, hk⟩
theorem ops_one {A : Mem} {o : OpV} : OpS (A.alloc (rowOb 47 (opC o))) A.next [o] (.slice (some ⟨A.next, 0, none⟩) 1 2) :=
 .inr ⟨.var 5, 2, rfl, by rw [next_alloc]; omega, vals_puts (get_alloc_self _ _), fun l hl => (by
  simp only [List.map_cons, List.map_nil, List.mem_singleton] at hl
  rw [hl]; rfl), .inl rfl⟩
theorem bs70 {o : OpV} : buildSliceF tb4 34 1 [(0, .agg ⟨opC o⟩)] = .ok (rowOb 47 (opC o), .slc 1 2) := by kernel_rfl
def toD (o : OpV) : OpD := ⟨o.kind.toNat, o.word, o.weight⟩
end Go.Proofs.YtnelkapmmgggdaaGreat.mdl

/-
 Dist: the plain laws of the distance of two texts.
-/
namespace Go.Dist

inductive Ed {α : Type} : List α → List α → Nat → Prop
 | nil : Ed [] [] 0
 | keep (c : α) {a b : List α} {n : Nat} : Ed a b n → Ed (c :: a) (c :: b) n
 | sub (c d : α) {a b : List α} {n : Nat} : Ed a b n → Ed (c :: a) (d :: b) (n + 1)
 | del (c : α) {a b : List α} {n : Nat} : Ed a b n → Ed (c :: a) b (n + 1)
 | ins (d : α) {a b : List α} {n : Nat} : Ed a b n → Ed a (d :: b) (n + 1)

variable {α : Type}
theorem Ed.refl : ∀ a : List α, Ed a a 0
 | [] => .nil
 | c :: a => .keep c (Ed.refl a)
theorem Ed.symm {a b : List α} {n : Nat} (h : Ed a b n) : Ed b a n := by
 induction h with
 | nil => exact .nil
 | keep c _ ih => exact .keep c ih
 | sub c d _ ih => exact .sub d c ih
 | del c _ ih => exact .ins c ih
 | ins d _ ih => exact .del d ih
theorem Ed.append {a b : List α} {n : Nat} (h : Ed a b n) {a' b' : List α} {m : Nat} (h' : Ed a' b' m) : Ed (a ++ a') (b ++ b') (n + m) := by
 induction h with
 | nil => simpa using h'
 | keep c _ ih => exact .keep c ih
 | sub c d _ ih => rw [Nat.add_right_comm]; exact .sub c d ih
 | del c _ ih => rw [Nat.add_right_comm]; exact .del c ih
 | ins d _ ih => rw [Nat.add_right_comm]; exact .ins d ih
theorem Ed.rev {a b : List α} {n : Nat} (h : Ed a b n) : Ed a.reverse b.reverse n := by
 induction h with
 | nil => exact .nil
 | keep c _ ih => simpa using ih.append (Ed.refl [c])
 | sub c d _ ih => simpa using ih.append (Ed.sub c d .nil)
 | del c _ ih => simpa using ih.append (Ed.del c .nil)
 | ins d _ ih => simpa using ih.append (Ed.ins d .nil)
theorem Ed.len {a b : List α} {n : Nat} (h : Ed a b n) : a.length ≤ b.length + n ∧ b.length ≤ a.length + n := by
 induction h <;> simp only [List.length_nil, List.length_cons] <;> omega
theorem Ed.trans {a b : List α} {n : Nat} (h : Ed a b n) : ∀ {c : List α} {m : Nat}, Ed b c m → ∃ k, k ≤ n + m ∧ Ed a c k := by
 induction h with
 | nil => exact fun {c m} h' => ⟨m, by omega, h'⟩
 | del x _ ih =>
  intro c m h'
  obtain ⟨k, h1, h2⟩ := ih h'
  exact ⟨k + 1, by omega, .del x h2⟩
 | @keep x a b n hab ih =>
  have key : ∀ {b' c : List α} {m : Nat}, Ed b' c m → b' = x :: b → ∃ k, k ≤ n + m ∧ Ed (x :: a) c k := by
   intro b' c m h'
   induction h' with
   | nil => exact fun h => by cases h
   | keep y h1 _ => intro h; cases h; obtain ⟨k, h2, h3⟩ := ih h1; exact ⟨k, h2, .keep _ h3⟩
   | sub y z h1 _ => intro h; cases h; obtain ⟨k, h2, h3⟩ := ih h1; exact ⟨k + 1, by omega, .sub _ _ h3⟩
   | del y h1 _ => intro h; cases h; obtain ⟨k, h2, h3⟩ := ih h1; exact ⟨k + 1, by omega, .del _ h3⟩
   | ins y h1 ih1 => intro h; obtain ⟨k, h2, h3⟩ := ih1 h; exact ⟨k + 1, by omega, .ins _ h3⟩
  exact fun {c m} h' => key h' rfl
 | @sub x w a b n hab ih =>
  have key : ∀ {b' c : List α} {m : Nat}, Ed b' c m → b' = w :: b → ∃ k, k ≤ n + 1 + m ∧ Ed (x :: a) c k := by
   intro b' c m h'
   induction h' with
   | nil => exact fun h => by cases h
   | keep y h1 _ => intro h; cases h; obtain ⟨k, h2, h3⟩ := ih h1; exact ⟨k + 1, by omega, .sub _ _ h3⟩
   | sub y z h1 _ => intro h; cases h; obtain ⟨k, h2, h3⟩ := ih h1; exact ⟨k + 1, by omega, .sub _ _ h3⟩
   | del y h1 _ => intro h; cases h; obtain ⟨k, h2, h3⟩ := ih h1; exact ⟨k + 1, by omega, .del _ h3⟩
   | ins y h1 ih1 => intro h; obtain ⟨k, h2, h3⟩ := ih1 h; exact ⟨k + 1, by omega, .ins _ h3⟩
  exact fun {c m} h' => key h' rfl
 | @ins w a b n hab ih =>
  have key : ∀ {b' c : List α} {m : Nat}, Ed b' c m → b' = w :: b → ∃ k, k ≤ n + 1 + m ∧ Ed a c k := by
   intro b' c m h'
   induction h' with
   | nil => exact fun h => by cases h
   | keep y h1 _ => intro h; cases h; obtain ⟨k, h2, h3⟩ := ih h1; exact ⟨k + 1, by omega, .ins _ h3⟩
   | sub y z h1 _ => intro h; cases h; obtain ⟨k, h2, h3⟩ := ih h1; exact ⟨k + 1, by omega, .ins _ h3⟩
   | del y h1 _ => intro h; cases h; obtain ⟨k, h2, h3⟩ := ih h1; exact ⟨k, by omega, h3⟩
   | ins y h1 ih1 => intro h; obtain ⟨k, h2, h3⟩ := ih1 h; exact ⟨k + 1, by omega, .ins _ h3⟩
  exact fun {c m} h' => key h' rfl
theorem Ed.cancel {x : α} {a b : List α} {n : Nat} (h : Ed (x :: a) (x :: b) n) : ∃ k, k ≤ n ∧ Ed a b k := by
 cases h with
 | keep _ h => exact ⟨_, Nat.le_refl _, h⟩
 | sub _ _ h => exact ⟨_, Nat.le_succ _, h⟩
 | del _ h =>
  obtain ⟨k, h1, h2⟩ := h.trans (Ed.del x (Ed.refl b))
  exact ⟨k, by omega, h2⟩
 | ins _ h =>
  obtain ⟨k, h1, h2⟩ := (Ed.ins x (Ed.refl a)).trans h
  exact ⟨k, by omega, h2⟩

theorem ed_nil_len : ∀ b : List α, Ed [] b b.length
 | [] => .nil
 | d :: b => .ins d (ed_nil_len b)
theorem ed_max : ∀ a b : List α, Ed a b (max a.length b.length)
 | [], b => by simpa using ed_nil_len b
 | c :: a, [] => by simpa using (ed_nil_len (c :: a)).symm
 | c :: a, d :: b => by
  have h := Ed.sub c d (ed_max a b)
  have e : max a.length b.length + 1 = max (c :: a).length (d :: b).length := by simp only [List.length_cons]; omega
  rw [e] at h; exact h

def lev [DecidableEq α] : List α → List α → Nat
 | [], b => b.length
 | _ :: a, [] => a.length + 1
 | c :: a, d :: b => if c = d then lev a b else 1 + min (min (lev a b) (lev a (d :: b))) (lev (c :: a) b)
termination_by a b => a.length + b.length
variable [DecidableEq α]
theorem lev_nil (b : List α) : lev [] b = b.length := by unfold lev; rfl
theorem lev_nil' (a : List α) : lev a [] = a.length := by
 cases a <;> unfold lev <;> simp
theorem lev_keep (c : α) (a b : List α) : lev (c :: a) (c :: b) = lev a b := by rw [lev, if_pos rfl]
theorem lev_cons {c d : α} (h : c ≠ d) (a b : List α) : lev (c :: a) (d :: b) = 1 + min (min (lev a b) (lev a (d :: b))) (lev (c :: a) b) := by rw [lev, if_neg h]
theorem lev_le {a b : List α} : ∀ {n : Nat}, Ed a b n → lev a b ≤ n := by
 fun_induction lev a b with
 | case1 b => intro n h; have := h.len.2; simpa using this
 | case2 c a => intro n h; have := h.len.1; simpa using this
 | case3 a b d ih => intro n h; obtain ⟨k, h1, h2⟩ := h.cancel; exact Nat.le_trans (ih h2) h1
 | case4 c a d b h ih3 ih2 ih1 =>
  intro n hn
  cases hn with
  | keep _ _ => exact absurd rfl h
  | sub _ _ h1 => have := ih3 h1; omega
  | del _ h1 => have := ih2 h1; omega
  | ins _ h1 => have := ih1 h1; omega

def dist (a b : List α) : Nat := lev a.reverse b.reverse
theorem dist_le {a b : List α} {n : Nat} (h : Ed a b n) : dist a b ≤ n := lev_le h.rev
theorem dist_snoc (x : α) (a b : List α) : dist (a ++ [x]) (b ++ [x]) = dist a b := by
 simp only [dist, List.reverse_append, List.reverse_cons, List.reverse_nil, List.nil_append, List.cons_append, lev_keep]
theorem dist_snoc_ne {x y : α} (h : x ≠ y) (a b : List α) : dist (a ++ [x]) (b ++ [y]) = 1 + min (min (dist a b) (dist a (b ++ [y]))) (dist (a ++ [x]) b) := by
 simp only [dist, List.reverse_append, List.reverse_cons, List.reverse_nil, List.nil_append, List.cons_append, lev_cons h]
theorem dist_nil (b : List α) : dist [] b = b.length := by simp [dist, lev_nil]
theorem dist_nil' (a : List α) : dist a [] = a.length := by simp [dist, lev_nil']
theorem dist_max (a b : List α) : dist a b ≤ max a.length b.length := dist_le (ed_max a b)
end Go.Dist

/-
 Model: rows of distances (the group dist's text, turned to this seat).
-/
namespace Go.Proofs.YtnelkapmmgggdaaGreat.wth
open Go.Am
open Go.Dist
open Go.Proofs.YtnelkapmmgggdaaGreat.mdl (tb4 tb4_ok fn_at)
set_option linter.unusedSimpArgs false
set_option linter.unusedVariables false
set_option linter.unusedVariables false

theorem und9 : tb4.und 9 = some .string := by kernel_rfl
theorem und3 : tb4.und 3 = some (.int .i64) := by kernel_rfl
theorem und5 : tb4.und 5 = some (.int .u8) := by kernel_rfl
theorem und104 : tb4.und 123 = some (.slice 3) := by kernel_rfl
theorem size3 : sizeF tb4 3 = .ok 1 := by kernel_rfl
theorem size104 : sizeF tb4 123 = .ok 1 := by kernel_rfl
theorem zc3 : zcellsF tb4 3 = .ok (1, [.int .i64 0]) := by kernel_rfl
theorem ty3 : ∃ i, tb4.ty.get 3 = some i ∧ i.bytes = 8 := by
 have h : (tb4.ty.get 3).map (·.bytes) = some 8 := by kernel_rfl
 cases hq : tb4.ty.get 3 with
 | none => rw [hq] at h; cases h
 | some i => rw [hq] at h; exact ⟨i, rfl, by simpa using h⟩
def ints (l : List Nat) : List Value := l.map fun n : Nat => Value.int .i64 (n : Int)
theorem ints_len (l : List Nat) : (ints l).length = l.length := by simp [ints]
theorem ints_get {l : List Nat} {i n : Nat} (h : l[i]? = some n) : (ints l)[i]? = some (.int .i64 (n : Int)) := by simp [ints, h]
theorem ints_set (l : List Nat) (i n : Nat) : (ints l).set i (.int .i64 (n : Int)) = ints (l.set i n) := by simp [ints, List.map_set]
theorem ints_append (l m : List Nat) : ints l ++ ints m = ints (l ++ m) := by simp [ints]
theorem rep_ints : ∀ n, repF [.int .i64 0] n = ints (List.replicate n 0)
 | 0 => rfl
 | n + 1 => by
  show Value.int .i64 0 :: repF [.int .i64 0] n = _
  rw [rep_ints n, List.replicate_succ]; rfl
theorem make_ints {n : Nat} (h : n ≤ 1000000) : makeSliceF tb4 123 (.int .i64 (n : Nat)) (.int .i64 (n : Nat)) = .ok (rowOb 3 (ints (List.replicate n 0)), .slc n (2 * n)) := by
 obtain ⟨i, h1, h2⟩ := ty3
 have e : natV (.int .i64 ((n : Nat) : Int)) = .ok n := rfl
 have hb : (Nat.ble n n && Nat.ble n 1048576 && Nat.ble i.bytes 1048576) = true := by
  rw [h2]; simp; omega
 unfold makeSliceF
 simp only [und104, e, R.ok_bind, zc3, h1, hb, cond_true, rep_ints]
def Ext (A A' : Mem) : Prop := A.next ≤ A'.next ∧ ∀ y, y < A.next → A'.get y = A.get y
theorem Ext.refl (A : Mem) : Ext A A := ⟨Nat.le_refl _, fun _ _ => rfl⟩
theorem Ext.trans {A B C : Mem} (h : Ext A B) (h' : Ext B C) : Ext A C := ⟨Nat.le_trans h.1 h'.1, fun y hy => (h'.2 y (Nat.lt_of_lt_of_le hy h.1)).trans (h.2 y hy)⟩
theorem Ext.alloc (A : Mem) (o : Ob) : Ext A (A.alloc o) := ⟨by rw [next_alloc]; omega, fun y hy => get_alloc_ne (by omega)⟩
theorem Ext.slc {A B : Mem} (h : Ext A B) {e : TypeId} {b : Nat} {l : List Value} {x : Value} (hs : Slc A e b l x) : Slc B e b l x := hs.same h.1 (h.2 b)

noncomputable def c51 : Code := Tryz.f74.body.getD .skip
noncomputable def c51b1 : Code := sub c51 [1,1,0,1,0,0]
theorem c51_eq : Tryz.f74.body = some (.seq (sub c51 [0]) (.seq (sub c51 [1,0]) (.seq (.seq (sub c51 [1,1,0,0]) (.block 0 (.loop c51b1))) (.seq (sub c51 [1,1,1,0]) (sub c51 [1,1,1,1]))))) := by kernel_rfl
def RowI (A0 : Mem) (b n k : Nat) (x : Value) (t : T Value) (A : Mem) : Prop :=
 (∃ l : List Nat, l.length = n + 1 ∧ (∀ i, i < k → l[i]? = some i) ∧ Slc A 3 b (ints l) x) ∧ Sl t [(3, x), (10, .int .i64 ((n + 1 : Nat) : Int)), (11, .int .i64 (k : Int))] ∧ A0.next ≤ A.next ∧ ∀ y, y < A0.next → A.get y = A0.get y
theorem run_row (q : List UInt8) (hq : q.length ≤ 900000) (A : Mem) : ∃ v A', Ans tb4 74 [strOf q] A v A' ∧ Slc A' 3 A.next (ints (List.range (q.length + 1))) v ∧ Ext A A' := by
 refine ans_of_W (fn_at Tryz.func74) c51_eq (by rw [Tryz.ntmps74]; simp) (by kernel_rfl) (by kernel_rfl) ?_
 apply W.seq
 apply W.run 20
 ·intro M
  simp (disch := first | decide +kernel | omega) only [c51, Tryz.f74, Aq, Nat.reduceEqDiff]
  with_reducible rfl
 apply W.seq
 apply W.run 20
 ·intro M
  simp (disch := first | decide +kernel | omega) only [c51, Tryz.f74, Aq, Nat.reduceEqDiff, len_str und9, make_ints]
  with_reducible rfl
 apply W.seq
 apply W.seq
 apply W.run 20
 ·intro M
  simp (disch := first | decide +kernel | omega) only [c51, Tryz.f74, Aq, Nat.reduceEqDiff, len_slc und104]
  with_reducible rfl
 apply W.block
 refine W.up (q.length + 1) (fun k t A' => RowI A A.next q.length k (.slice (some ⟨A.next, 0, none⟩) (q.length + 1) (2 * (q.length + 1))) t A') ?_ (Nat.zero_le _) ⟨⟨List.replicate (q.length + 1) 0, by simp, by simp, .inr ⟨.var (q.length + 1), 2 * (q.length + 1), by rw [ints_len]; simp, ?_, vals_puts ?_, .inl (by rw [ints_len]; simp)⟩⟩, ?_, ?_⟩
 ·rintro k t B hk ⟨⟨l, hl, hli, hs⟩, ⟨g3, g10, g11, -⟩, hn, hy⟩
  by_cases hlt : k < q.length + 1
  ·obtain ⟨B', e1, e2, e3, e4⟩ := hs.store (tb := tb4) (t := 3) (o := k) (v := .int .i64 (k : Int)) size3 (by rw [ints_len]; omega) rfl rfl
   have hix := hs.idx (tb := tb4) (t := 123) (t' := 3) (kd := .i64) (i := k) und104 size3 (by rw [ints_len]; omega)
   apply W.run 20
   ·intro M
    simp (disch := first | decide +kernel | omega) only [c51b1, c51, Tryz.f74, Aq, Nat.reduceEqDiff, g3, g10, g11, hlt, hix, e1]
    with_reducible rfl
   refine ⟨hlt, _, _, rfl, ⟨l.set k k, by rw [List.length_set]; exact hl, fun i hi => ?_, by rw [← ints_set]; exact e2⟩, ?_, by rw [e3]; exact hn, fun y hlt' => by rw [e4 y (by omega)]; exact hy y hlt'⟩
   ·rw [List.getElem?_set]
    by_cases hik : k = i
    ·subst hik; simp [hl]; omega
    ·rw [if_neg hik]; exact hli i (by omega)
   ·simp only [Sl_cons, Sl_nil, T.get_set, T.puts_cons, T.puts_nil, Nat.reduceEqDiff, Nat.reduceAdd, if_true, if_false, and_true, true_and, g3, g10, g11]
  ·have hkn : k = q.length + 1 := by omega
   subst hkn
   have hl' : l = List.range (q.length + 1) := by
    apply List.ext_getElem?
    intro i
    by_cases hi : i < q.length + 1
    ·rw [hli i hi, List.getElem?_range hi]
    ·rw [List.getElem?_eq_none (by omega), List.getElem?_eq_none (by simp; omega)]
   subst hl'
   apply W.run 20
   ·intro M
    simp (disch := first | decide +kernel | omega) only [c51b1, c51, Tryz.f74, Aq, Nat.reduceEqDiff, g3, g10, g11]
    with_reducible rfl
   apply W.seq
   apply W.run 20
   ·intro M
    simp (disch := first | decide +kernel | omega) only [c51, Tryz.f74, Aq, Nat.reduceEqDiff, g3]
    with_reducible rfl
   apply W.run 20
   ·intro M
    simp (disch := first | decide +kernel | omega) only [c51, Tryz.f74, Aq, Nat.reduceEqDiff]
    with_reducible rfl
   refine ⟨.inr rfl, _, [_], rfl, ?_, hs, hn, hy⟩
   simp only [Tryz.f74, resF, ev_tmp, T.get_set, Nat.reduceEqDiff, if_true, if_false, evG_some, R.ok_bind]
 ·rw [next_alloc]; omega
 ·rw [get_alloc_self]; simp [rowOb, ints_len]
 ·simp only [Sl_cons, Sl_nil, T.get_set, T.puts_cons, T.puts_nil, Nat.reduceEqDiff, Nat.reduceAdd, if_true, if_false, and_true, true_and]
 ·exact ⟨by rw [next_alloc]; omega, fun y hy => get_alloc_ne (by omega)⟩

noncomputable def c62 : Code := Tryz.f85.body.getD .skip
noncomputable def c62b1 : Code := sub c62 [1,0,1,0,0]
theorem c62_eq : Tryz.f85.body = some (.seq (sub c62 [0]) (.seq (.seq (sub c62 [1,0,0]) (.block 0 (.loop c62b1))) (.seq (sub c62 [1,1,0]) (sub c62 [1,1,1])))) := by kernel_rfl
theorem run_least (n : Nat) (l : List Nat) (x : Value) (b : Nat) (A : Mem) (hl : l.length ≤ 900000) (hs : Slc A 3 b (ints l) x) : Ans tb4 85 [.int .i64 (n : Int), x] A (.int .i64 ((l.foldl min n : Nat) : Int)) A := by
 obtain ⟨v, A', h1, rfl, rfl⟩ : ∃ v A', Ans tb4 85 [.int .i64 (n : Int), x] A v A' ∧ v = .int .i64 ((l.foldl min n : Nat) : Int) ∧ A' = A := by
  refine ans_of_W (fn_at Tryz.func85) c62_eq (by rw [Tryz.ntmps85]; simp) (by kernel_rfl) (by kernel_rfl) ?_
  apply W.seq
  apply W.run 20
  ·intro M
   simp (disch := first | decide +kernel | omega) only [c62, Tryz.f85, Aq, Nat.reduceEqDiff]
   with_reducible rfl
  apply W.seq
  apply W.seq
  have hlen := hs.len (tb := tb4) (t := 123) und104
  apply W.run 20
  ·intro M
   simp (disch := first | decide +kernel | omega) only [c62, Tryz.f85, Aq, Nat.reduceEqDiff, hlen, ints_len]
   with_reducible rfl
  apply W.block
  refine W.up l.length (fun k t A' => A' = A ∧ Sl t [(0, .int .i64 (((l.take k).foldl min n : Nat) : Int)), (7, x), (8, .int .i64 (l.length : Int)), (9, .int .i64 (k : Int))]) ?_ (Nat.zero_le _) ⟨rfl, ?_⟩
  ·rintro k t B hk ⟨rfl, g0, g7, g8, g9, -⟩
   by_cases hlt : k < l.length
   ·have hix := hs.idx (tb := tb4) (t := 123) (t' := 3) (kd := .i64) (i := k) und104 size3 (by rw [ints_len]; omega)
    have hld := hs.load (tb := tb4) (t := 3) (o := k) und3 rfl (ints_get (List.getElem?_eq_getElem hlt))
    apply W.run 20
    ·intro M
     simp (disch := first | decide +kernel | omega) only [c62b1, c62, Tryz.f85, Aq, Nat.reduceEqDiff, g0, g7, g8, g9, hlt, hix, hld, min_i64]
     with_reducible rfl
    refine ⟨hlt, _, _, rfl, rfl, ?_⟩
    simp only [Sl_cons, Sl_nil, T.get_set, T.puts_cons, T.puts_nil, Nat.reduceEqDiff, Nat.reduceAdd, if_true, if_false, and_true, true_and, g7, g8, List.take_succ_eq_append_getElem hlt, List.foldl_append, List.foldl_cons, List.foldl_nil]
   ·have hkn : k = l.length := by omega
    subst hkn
    apply W.run 20
    ·intro M
     simp (disch := first | decide +kernel | omega) only [c62b1, c62, Tryz.f85, Aq, Nat.reduceEqDiff, g0, g7, g8, g9]
     with_reducible rfl
    apply W.seq
    apply W.run 20
    ·intro M
     simp (disch := first | decide +kernel | omega) only [c62, Tryz.f85, Aq, Nat.reduceEqDiff, g0]
     with_reducible rfl
    apply W.run 20
    ·intro M
     simp (disch := first | decide +kernel | omega) only [c62, Tryz.f85, Aq, Nat.reduceEqDiff]
     with_reducible rfl
    refine ⟨.inr rfl, _, [_], rfl, ?_, rfl, rfl⟩
    simp only [Tryz.f85, resF, ev_tmp, T.get_set, Nat.reduceEqDiff, if_true, if_false, evG_some, R.ok_bind, List.take_length]
  ·simp only [Sl_cons, Sl_nil, T.get_set, T.puts_cons, T.puts_nil, Nat.reduceEqDiff, Nat.reduceAdd, if_true, if_false, and_true, true_and, List.take_zero, List.foldl_nil]
 exact h1

noncomputable def c61 : Code := Tryz.f84.body.getD .skip
theorem c61_eq : Tryz.f84.body = some (.seq (sub c61 [0]) (.seq (.seq (sub c61 [1,0,0]) (sub c61 [1,0,1])) (.seq (sub c61 [1,1,0]) (sub c61 [1,1,1])))) := by kernel_rfl
def stepD (q : List UInt8) (row next : List Nat) (c : UInt8) (i : Nat) : Nat :=
 if q.getD i 0 = c then row.getD i 0 else 1 + min (min (row.getD i 0) (row.getD (i + 1) 0)) (next.getD i 0)
theorem bs2 (a b : Int) : buildSliceF tb4 123 2 [(0, .int .i64 a), (1, .int .i64 b)] = .ok (rowOb 3 [.int .i64 a, .int .i64 b], .slc 2 4) := by kernel_rfl
theorem bs1 (a : Int) : buildSliceF tb4 123 1 [(0, .int .i64 a)] = .ok (rowOb 3 [.int .i64 a], .slc 1 2) := by kernel_rfl
theorem slc_row (A : Mem) (l : List Nat) : Slc (A.alloc (rowOb 3 (ints l))) 3 A.next (ints l) (.slice (some ⟨A.next, 0, none⟩) l.length (2 * l.length)) :=
 .inr ⟨.var l.length, _, by rw [ints_len], by rw [next_alloc]; omega, vals_puts (by rw [get_alloc_self]; simp [rowOb, ints_len]), .inl (by rw [ints_len])⟩
theorem getD_some {l : List Nat} {i : Nat} (h : i < l.length) : l[i]? = some (l.getD i 0) := by simp [List.getD, List.getElem?_eq_getElem h]

theorem run_step {q : List UInt8} {c : UInt8} {row next : List Nat} {i : Nat} {A : Mem} {bq bc br bn b1 b2 : Nat} {k1 k2 k3 k4 : Kd} {x1 x2 : Value} (hql : q.length ≤ 900000) (hi : i < q.length) (hrl : row.length = q.length + 1) (hnl : next.length = i + 1) (hsm : ∀ n ∈ row, n ≤ 2000000) (hq : Vals A 9 bq k1 [strOf q]) (hc : Vals A 5 bc k2 [.int .u8 (c.toNat : Nat)]) (hr : Vals A 123 br k3 [x1]) (hn : Vals A 123 bn k4 [x2])
  (h1 : Slc A 3 b1 (ints row) x1) (h2 : Slc A 3 b2 (ints next) x2) :
  ∃ A', Ans tb4 84 [.int .i64 (i : Nat), .pointer (some ⟨bq, 0, none⟩), .pointer (some ⟨bc, 0, none⟩), .pointer (some ⟨br, 0, none⟩), .pointer (some ⟨bn, 0, none⟩)] A (.int .i64 (stepD q row next c i : Nat)) A' ∧ Ext A A' := by
 obtain ⟨v, A', h1, h2, h3⟩ : ∃ v A', Ans tb4 84 [.int .i64 (i : Nat), .pointer (some ⟨bq, 0, none⟩), .pointer (some ⟨bc, 0, none⟩), .pointer (some ⟨br, 0, none⟩), .pointer (some ⟨bn, 0, none⟩)] A v A' ∧ v = .int .i64 (stepD q row next c i : Nat) ∧ Ext A A' := by
  have lq := load_box (tb := tb4) und9 rfl hq
  have lc := load_box (tb := tb4) und5 rfl hc
  have lr := load_box (tb := tb4) und104 rfl hr
  have ln := load_box (tb := tb4) und104 rfl hn
  have i1 := h1.idx (tb := tb4) (t := 123) (t' := 3) (kd := .i64) (i := i) und104 size3 (by rw [ints_len]; omega)
  have i2 := h1.idx (tb := tb4) (t := 123) (t' := 3) (kd := .i64) (i := i + 1) und104 size3 (by rw [ints_len]; omega)
  have i3 := h2.idx (tb := tb4) (t := 123) (t' := 3) (kd := .i64) (i := i) und104 size3 (by rw [ints_len]; omega)
  have d1 := h1.load (tb := tb4) (t := 3) (o := i) und3 rfl (ints_get (getD_some (by omega)))
  have d2 := h1.load (tb := tb4) (t := 3) (o := i + 1) und3 rfl (ints_get (getD_some (by omega)))
  have d3 := h2.load (tb := tb4) (t := 3) (o := i) und3 rfl (ints_get (getD_some (by omega)))
  refine ans_of_W (fn_at Tryz.func84) c61_eq (by rw [Tryz.ntmps84]; simp) (by kernel_rfl) (by kernel_rfl) ?_
  apply W.seq
  apply W.run 20
  ·intro M
   simp (disch := first | decide +kernel | omega) only [c61, Tryz.f84, Aq, Nat.reduceEqDiff]
   with_reducible rfl
  apply W.seq
  by_cases he : (q.getD i 0).toNat = c.toNat
  ·apply W.seq
   apply W.run 20
   ·intro M
    simp (disch := first | decide +kernel | omega) only [c61, Tryz.f84, Aq, Nat.reduceEqDiff, lq, lc, index_str und9, hi, he]
    with_reducible rfl
   apply W.run 20
   ·intro M
    simp (disch := first | decide +kernel | omega) only [c61, Tryz.f84, Aq, Nat.reduceEqDiff, lr, i1, d1]
    with_reducible rfl
   refine ⟨.inr rfl, _, [.int .i64 ((row.getD i 0 : Nat) : Int)], rfl, ?_, ?_, Ext.refl A⟩
   ·simp only [Tryz.f84, resF, ev_tmp, T.get_set, Nat.reduceEqDiff, if_true, if_false, evG_some, R.ok_bind]
   ·show Value.int .i64 _ = _
    rw [stepD, if_pos (UInt8.toNat_inj.1 he)]
  ·apply W.seq
   apply W.run 20
   ·intro M
    simp (disch := first | decide +kernel | omega) only [c61, Tryz.f84, Aq, Nat.reduceEqDiff, lq, lc, index_str und9, hi, he]
    with_reducible rfl
   apply W.run 20
   ·intro M
    simp (disch := first | decide +kernel | omega) only [c61, Tryz.f84, Aq, Nat.reduceEqDiff]
    with_reducible rfl
   apply W.seq
   have hB := slc_row A [row.getD (i + 1) 0, next.getD i 0]
   obtain ⟨g, hg⟩ := run_least (row.getD i 0) [row.getD (i + 1) 0, next.getD i 0] _ _ _ (by simp) hB
   have hlt : row.getD i 0 ≤ 2000000 := hsm _ (by rw [List.getD, List.getElem?_eq_getElem (show i < row.length by omega)]; simp)
   have hmin : (List.foldl min (row.getD i 0) [row.getD (i + 1) 0, next.getD i 0]) = min (min (row.getD i 0) (row.getD (i + 1) 0)) (next.getD i 0) := rfl
   rw [hmin] at hg
   have hlt2 : min (min (row.getD i 0) (row.getD (i + 1) 0)) (next.getD i 0) ≤ 2000000 := by omega
   simp only [ints, List.map_cons, List.map_nil, List.length_cons, List.length_nil] at hg
   apply W.runG (g) 20
   ·intro M hM
    simp (disch := first | decide +kernel | omega) only [c61, Tryz.f84, Aq, Nat.reduceEqDiff, lr, i1, d1, ln, i2, d2, i3, d3, bs2, hg]
    with_reducible rfl
   apply W.run 20
   ·intro M
    simp (disch := first | decide +kernel | omega) only [c61, Tryz.f84, Aq, Nat.reduceEqDiff]
    with_reducible rfl
   refine ⟨.inr rfl, _, [.int .i64 ((1 + min (min (row.getD i 0) (row.getD (i + 1) 0)) (next.getD i 0) : Nat) : Int)], rfl, ?_, ?_, Ext.alloc _ _⟩
   ·simp only [Tryz.f84, resF, ev_tmp, T.get_set, Nat.reduceEqDiff, if_true, if_false, evG_some, R.ok_bind]
   ·show Value.int .i64 _ = _
    rw [stepD, if_neg (fun h => he (by rw [h]))]
 subst h2
 exact ⟨A', h1, h3⟩
end Go.Proofs.YtnelkapmmgggdaaGreat.wth

/-
 Model: the next row.
-/
namespace Go.Proofs.YtnelkapmmgggdaaGreat.wth
open Go.Am
open Go.Dist
open Go.Proofs.YtnelkapmmgggdaaGreat.mdl (tb4 tb4_ok fn_at)
set_option linter.unusedSimpArgs false
set_option linter.unusedVariables false
set_option linter.unusedVariables false


def nextL (q : List UInt8) (row : List Nat) (c : UInt8) : Nat → List Nat
 | 0 => [row.getD 0 0 + 1]
 | i + 1 => nextL q row c i ++ [stepD q row (nextL q row c i) c i]
theorem nextL_len (q : List UInt8) (row : List Nat) (c : UInt8) : ∀ i, (nextL q row c i).length = i + 1
 | 0 => rfl
 | i + 1 => by show (nextL q row c i ++ [_]).length = _; rw [List.length_append, nextL_len q row c i]; rfl
def nextD (q : List UInt8) (row : List Nat) (c : UInt8) : List Nat := nextL q row c q.length

noncomputable def c52 : Code := Tryz.f75.body.getD .skip
noncomputable def c52b1 : Code := sub c52 [1,1,1,1,0,1,0,0]
theorem c52_eq : Tryz.f75.body = some (.seq (sub c52 [0]) (.seq (.seq (sub c52 [1,0,0]) (sub c52 [1,0,1])) (.seq (sub c52 [1,1,0]) (.seq (sub c52 [1,1,1,0]) (.seq (.seq (sub c52 [1,1,1,1,0,0]) (.block 0 (.loop c52b1))) (.seq (sub c52 [1,1,1,1,1,0]) (sub c52 [1,1,1,1,1,1]))))))) := by kernel_rfl
def NextI (q : List UInt8) (row : List Nat) (c : UInt8) (bq br bc bn : Nat) (B : Mem) (k : Nat) (t : T Value) (C : Mem) : Prop :=
 (∃ bs xn, Slc C 3 bs (ints (nextL q row c k)) xn ∧ Vals C 123 bn (.var 1) [xn] ∧ bs ≠ bn ∧ B.next ≤ bs) ∧
 Sl t [(3, .pointer (some ⟨bq, 0, none⟩)), (4, .pointer (some ⟨br, 0, none⟩)), (5, .pointer (some ⟨bc, 0, none⟩)), (7, .pointer (some ⟨bn, 0, none⟩)), (8, .func (.func 84) ⟨[]⟩ ⟨[.pointer (some ⟨bq, 0, none⟩), .pointer (some ⟨bc, 0, none⟩), .pointer (some ⟨br, 0, none⟩), .pointer (some ⟨bn, 0, none⟩)]⟩), (23, .int .i64 (q.length : Int)), (24, .int .i64 (k : Int))] ∧
 bn < C.next ∧ Ext B C

theorem next_loop {q : List UInt8} {row : List Nat} {c : UInt8} {bq br bc bn b1 : Nat} {B : Mem} {k1 k2 k3 : Kd} {x1 : Value} (hql : q.length ≤ 900000) (hrl : row.length = q.length + 1) (hsm : ∀ n ∈ row, n ≤ 2000000)
  (hq : Vals B 9 bq k1 [strOf q]) (hc : Vals B 5 bc k2 [.int .u8 (c.toNat : Nat)]) (hr : Vals B 123 br k3 [x1]) (lq : bq < B.next) (lc : bc < B.next) (lr : br < B.next) (h1 : Slc B 3 b1 (ints row) x1) (hbn : B.next ≤ bn) {t : T Value} {C : Mem} (h : NextI q row c bq br bc bn B 0 t C)
  {K : Ex → St → Prop} (hk : ∀ t C, NextI q row c bq br bc bn B q.length t C → K (.exit 0) ⟨t, 35, [], C, none⟩) : W tb4 (.loop c52b1) ⟨t, 35, [], C, none⟩ K := by
 refine W.up q.length (fun k t C => NextI q row c bq br bc bn B k t C) ?_ (Nat.zero_le _) h
 rintro k t C hkl ⟨⟨bs, xn, hs, hv, hne, hbs⟩, ⟨g3, g4, g5, g7, g8, g23, g24, -⟩, hbc, hE⟩
 by_cases hlt : k < q.length
 ·obtain ⟨C1, ⟨g, hg⟩, hE1⟩ := run_step (A := C) (i := k) hql hlt hrl (nextL_len q row c k) hsm (hq.same (hE.2 _ lq)) (hc.same (hE.2 _ lc)) (hr.same (hE.2 _ lr)) hv (hE.slc h1) hs
  have hs1 := hE1.slc hs
  have hlenk := nextL_len q row c k
  have hE2 := Ext.alloc C1 (rowOb 3 [.int .i64 ((stepD q row (nextL q row c k) c k : Nat) : Int)])
  have hs2 := hE2.slc hs1
  have hblt := hs2.lt (by rw [ints_len, hlenk]; omega)
  obtain ⟨ti, ht1, ht2⟩ := ty3
  obtain ⟨x', C3, happ, hs3, hn3, hf3⟩ := hs2.append (tb := tb4) (st := 123) (xt := 123) und104 und104 zc3 ht1 (by omega) (by omega) (by rw [ints_len, hlenk]; omega) (get_alloc_self C1 _) rfl
  have hn2 : (C1.alloc (rowOb 3 [.int .i64 ((stepD q row (nextL q row c k) c k : Nat) : Int)])).next = C1.next + 1 := next_alloc _ _
  have hn1 := hE1.1
  have hv3 : Vals C3 123 bn (.var 1) [xn] := hv.same (by rw [hf3 bn (fun h => hne h.symm) (by omega), hE2.2 bn (by omega), hE1.2 bn hbc])
  obtain ⟨C4, hst, hv4, hn4, hf4⟩ := store_box (tb := tb4) (t := 123) size104 hv3 hs3.cells hs3.one
  have l1 := load_box (tb := tb4) und104 rfl hv
  have l2 := load_box (tb := tb4) und104 rfl (hv.same (hE1.2 bn hbc))
  have hself := hs.self
  apply W.runG (g) 20
  ·intro M hM
   simp (config := { maxSteps := 4000000 }) (disch := first | decide +kernel | omega | simp only [Wq, Nat.reduceEqDiff]) only [c52b1, c52, Tryz.f75, Aq, Nat.ble, reduceIte, Nat.reduceEqDiff, Nat.reduceAdd, Fq, exec_float [(0, 3)], g3, g4, g5, g7, g8, g23, g24, hlt, hg, l1, l2, hself, bs1, happ, hst]
   with_reducible rfl
  refine ⟨hlt, _, _, rfl, ⟨(C1.alloc (rowOb 3 [.int .i64 ((stepD q row (nextL q row c k) c k : Nat) : Int)])).next, x', ?_, hv4, ?_, ?_⟩, ?_, ?_, ?_⟩
  ·have e : ints (nextL q row c (k + 1)) = ints (nextL q row c k) ++ [.int .i64 ((stepD q row (nextL q row c k) c k : Nat) : Int)] := by
    show ints (nextL q row c k ++ [_]) = _
    rw [← ints_append]; rfl
   rw [e]
   exact hs3.same (by omega) (fun _ => hf4 _ (by omega))
  ·omega
  ·have := hE.1; omega
  ·simp only [Sl_cons, Sl_nil, T.get_set, T.puts_cons, T.puts_nil, Nat.reduceEqDiff, Nat.reduceAdd, if_true, if_false, and_true, true_and, g3, g4, g5, g7, g8, g23]
  ·omega
  ·refine ⟨by have := hE.1; omega, fun y hy => ?_⟩
   have := hE.1
   rw [hf4 y (by omega), hf3 y (by omega) (by omega), hE2.2 y (by omega), hE1.2 y (by omega), hE.2 y hy]
 ·have hkq : k = q.length := by omega
  subst hkq
  apply W.run 20
  ·intro M
   simp (disch := first | decide +kernel | omega) only [c52b1, c52, Tryz.f75, Aq, Nat.reduceEqDiff, g23, g24]
   with_reducible rfl
  exact hk _ _ ⟨⟨bs, xn, hs, hv, hne, hbs⟩, by simp only [Sl_cons, Sl_nil, T.get_set, T.puts_cons, T.puts_nil, Nat.reduceEqDiff, Nat.reduceAdd, if_true, if_false, and_true, true_and, g3, g4, g5, g7, g8, g23, g24], hbc, hE⟩

theorem nil_slc (A : Mem) (e : TypeId) (b : Nat) : Slc A e b [] (.slice none 0 0) := .inl ⟨rfl, rfl⟩
theorem zero104 : zeroF tb4 123 = .ok (.slice none 0 0) := by kernel_rfl
theorem run_next {q : List UInt8} {row : List Nat} {c : UInt8} {b1 : Nat} {A : Mem} {x1 : Value} (hql : q.length ≤ 900000) (hsm : ∀ n ∈ row, n ≤ 2000000) (h1 : Slc A 3 b1 (ints row) x1) :
  ∃ v A', Ans tb4 75 [strOf q, x1, .int .u8 (c.toNat : Nat)] A v A' ∧ Ext A A' ∧ ∃ b, A.next ≤ b ∧ Slc A' 3 b (ints (if row.length = q.length + 1 then nextD q row c else [])) v := by
 refine ans_of_W (fn_at Tryz.func75) c52_eq (by rw [Tryz.ntmps75]; simp) (by kernel_rfl) (by kernel_rfl) ?_
 apply W.seq
 have hx1 := h1.cells
 apply W.run 20
 ·intro M
  simp (disch := first | decide +kernel | omega) only [c52, Tryz.f75, Aq, Nat.reduceEqDiff, hx1, next_alloc]
  with_reducible rfl
 have hq : Vals (((A.alloc (rowOb 9 [strOf q])).alloc (rowOb 123 [x1])).alloc (rowOb 5 [.int .u8 (c.toNat : Nat)])) 9 A.next (.var 1) [strOf q] := vals_box (by simp [get_alloc, next_alloc]; omega)
 have hr : Vals (((A.alloc (rowOb 9 [strOf q])).alloc (rowOb 123 [x1])).alloc (rowOb 5 [.int .u8 (c.toNat : Nat)])) 123 (A.next + 1) (.var 1) [x1] := vals_box (by simp [get_alloc, next_alloc])
 have hc : Vals (((A.alloc (rowOb 9 [strOf q])).alloc (rowOb 123 [x1])).alloc (rowOb 5 [.int .u8 (c.toNat : Nat)])) 5 (A.next + 1 + 1) (.var 1) [.int .u8 (c.toNat : Nat)] := vals_box (by simp [get_alloc, next_alloc])
 have hE : Ext A (((A.alloc (rowOb 9 [strOf q])).alloc (rowOb 123 [x1])).alloc (rowOb 5 [.int .u8 (c.toNat : Nat)])) := ((Ext.alloc A _).trans (Ext.alloc _ _)).trans (Ext.alloc _ _)
 have hn : (((A.alloc (rowOb 9 [strOf q])).alloc (rowOb 123 [x1])).alloc (rowOb 5 [.int .u8 (c.toNat : Nat)])).next = A.next + 3 := by simp [next_alloc]
 revert hq hr hc hE hn
 generalize ((A.alloc (rowOb 9 [strOf q])).alloc (rowOb 123 [x1])).alloc (rowOb 5 [.int .u8 (c.toNat : Nat)]) = B
 generalize hbq : A.next = bq
 generalize hbr : bq + 1 = br
 generalize hbc : br + 1 = bc
 intro hq hr hc hE hn
 have h1B := hE.slc h1
 have lq := load_box (tb := tb4) und9 rfl hq
 have lr := load_box (tb := tb4) und104 rfl hr
 have hlen := h1B.len (tb := tb4) (t := 123) und104
 apply W.seq
 apply W.seq
 by_cases hrl : row.length = q.length + 1
 ·apply W.run 20
  ·intro M
   simp (disch := first | decide +kernel | omega) only [c52, Tryz.f75, Aq, Nat.reduceEqDiff, lq, lr, hlen, ints_len, len_str und9, hrl]
   with_reducible rfl
  apply W.run 20
  ·intro M
   simp (disch := first | decide +kernel | omega) only [c52, Tryz.f75, Aq, Nat.reduceEqDiff]
   with_reducible rfl
  apply W.seq
  have hi0 := h1B.idx (tb := tb4) (t := 123) (t' := 3) (kd := .i64) (i := 0) und104 size3 (by rw [ints_len]; omega)
  have hl0 := h1B.load (tb := tb4) (t := 3) (o := 0) und3 rfl (ints_get (getD_some (by omega)))
  have hs0 := hsm (row.getD 0 0) (by rw [List.getD, List.getElem?_eq_getElem (show 0 < row.length by omega)]; simp)
  have hvn : Vals ((B.alloc (rowOb 3 [.int .i64 ((row.getD 0 0 + 1 : Nat) : Int)])).alloc (rowOb 123 [.slice none 0 0])) 123 (B.next + 1) (.var 1) [.slice none 0 0] := vals_box (by simp [get_alloc, next_alloc])
  obtain ⟨C, hst, hv4, hn4, hf4⟩ := store_box (tb := tb4) (t := 123) (w := .slice (some ⟨B.next, 0, none⟩) 1 2) size104 hvn rfl rfl
  apply W.run 20
  ·intro M
   simp (disch := first | decide +kernel | omega) only [c52, Tryz.f75, Aq, Nat.reduceEqDiff, lr, hi0, hl0, bs1, zero104, next_alloc, hst]
   with_reducible rfl
  apply W.seq
  apply W.run 20
  ·intro M
   simp (disch := first | decide +kernel | omega) only [c52, Tryz.f75, Aq, Nat.reduceEqDiff]
   with_reducible rfl
  apply W.seq
  apply W.seq
  have hEB : Ext B C := ⟨by rw [hn4]; simp only [next_alloc]; omega, fun y hy => by rw [hf4 y (by omega), get_alloc_ne (by rw [next_alloc]; omega), get_alloc_ne (by omega)]⟩
  have lq2 := load_box (tb := tb4) und9 rfl (hq.same (hEB.2 _ (by omega)))
  apply W.run 20
  ·intro M
   simp (disch := first | decide +kernel | omega) only [c52, Tryz.f75, Aq, Nat.reduceEqDiff, lq2, len_str und9]
   with_reducible rfl
  apply W.block
  refine next_loop (bq := bq) (br := br) (bc := bc) (bn := B.next + 1) (B := B) hql hrl hsm hq hc hr (by omega) (by omega) (by omega) h1B (by omega) ⟨⟨B.next, .slice (some ⟨B.next, 0, none⟩) 1 2, .inr ⟨.var 1, 2, rfl, ?_, vals_puts ?_, .inl rfl⟩, hv4, by omega, by omega⟩, ?_, ?_, hEB⟩ ?_
  ·rw [hn4]; simp only [next_alloc]; omega
  ·rw [hf4 _ (by omega), get_alloc_ne (by rw [next_alloc]; omega), get_alloc_self]; rfl
  ·simp only [Sl_cons, Sl_nil, T.get_set, T.puts_cons, T.puts_nil, Nat.reduceEqDiff, Nat.reduceAdd, if_true, if_false, and_true, true_and]
  ·rw [hn4]; simp only [next_alloc]; omega
  rintro t D ⟨⟨bs, xn, hs, hv, hne, hbs⟩, ⟨g3, g4, g5, g7, g8, g23, g24, -⟩, hbn, hED⟩
  have ln := load_box (tb := tb4) und104 rfl hv
  apply W.seq
  apply W.run 20
  ·intro M
   simp (disch := first | decide +kernel | omega) only [c52, Tryz.f75, Aq, Nat.reduceEqDiff, g7, ln]
   with_reducible rfl
  apply W.run 20
  ·intro M
   simp (disch := first | decide +kernel | omega) only [c52, Tryz.f75, Aq, Nat.reduceEqDiff]
   with_reducible rfl
  refine ⟨.inr rfl, _, [xn], rfl, ?_, hE.trans hED, bs, by omega, ?_⟩
  ·simp only [Tryz.f75, resF, ev_tmp, T.get_set, Nat.reduceEqDiff, if_true, if_false, evG_some, R.ok_bind]
  ·rw [if_pos hrl]; exact hs
 ·apply W.run 20
  ·intro M
   simp (disch := first | decide +kernel | omega) only [c52, Tryz.f75, Aq, Nat.reduceEqDiff, lq, lr, hlen, ints_len, len_str und9, hrl]
   with_reducible rfl
  apply W.run 20
  ·intro M
   simp (disch := first | decide +kernel | omega) only [c52, Tryz.f75, Aq, Nat.reduceEqDiff]
   with_reducible rfl
  refine ⟨.inr rfl, _, [.slice none 0 0], rfl, ?_, hE, bq, Nat.le_refl _, ?_⟩
  ·simp only [Tryz.f75, resF, ev_tmp, T.get_set, Nat.reduceEqDiff, if_true, if_false, evG_some, R.ok_bind]
  ·rw [if_neg hrl]; exact nil_slc _ _ _
end Go.Proofs.YtnelkapmmgggdaaGreat.wth

/-
 Model: the distance; within.
-/
namespace Go.Proofs.YtnelkapmmgggdaaGreat.wth
open Go.Am
open Go.Dist
open Go.Proofs.YtnelkapmmgggdaaGreat.mdl (tb4 tb4_ok fn_at)
set_option linter.unusedSimpArgs false
set_option linter.unusedVariables false
set_option linter.unusedVariables false


def rowOf (q s : List UInt8) : List Nat := (List.range (q.length + 1)).map fun i => Go.Dist.dist (q.take i) s
theorem rowOf_len (q s : List UInt8) : (rowOf q s).length = q.length + 1 := by simp [rowOf]
theorem rowOf_get {q s : List UInt8} {i : Nat} (h : i ≤ q.length) : (rowOf q s).getD i 0 = Go.Dist.dist (q.take i) s := by
 simp [rowOf, List.getD, List.getElem?_eq_getElem (show i < (List.range (q.length + 1)).length by simp; omega)]
theorem rowOf_nil (q : List UInt8) : rowOf q [] = List.range (q.length + 1) := by
 unfold rowOf
 conv => rhs; rw [← List.map_id (List.range (q.length + 1))]
 apply List.map_congr_left
 intro i hi
 rw [List.mem_range] at hi
 rw [dist_nil', List.length_take]
 show min i q.length = i
 omega
theorem take_getD {q : List UInt8} {i : Nat} (h : i < q.length) : q.take (i + 1) = q.take i ++ [q.getD i 0] := by
 rw [List.take_succ_eq_append_getElem h]; simp [List.getD, List.getElem?_eq_getElem h]
theorem nextL_eq (q s : List UInt8) (c : UInt8) : ∀ i, i ≤ q.length → nextL q (rowOf q s) c i = (rowOf q (s ++ [c])).take (i + 1)
 | 0, h => by
  have e : (rowOf q (s ++ [c])).take 1 = [(rowOf q (s ++ [c])).getD 0 0] := by
   have hl := rowOf_len q (s ++ [c])
   cases hr : rowOf q (s ++ [c]) with
   | nil => rw [hr] at hl; simp at hl
   | cons x l => simp
  show [_] = _
  rw [e, rowOf_get h, rowOf_get h]
  simp [dist_nil]
 | i + 1, h => by
  show nextL q (rowOf q s) c i ++ [stepD q (rowOf q s) (nextL q (rowOf q s) c i) c i] = _
  rw [nextL_eq q s c i (by omega)]
  have hl := rowOf_len q (s ++ [c])
  have e : (rowOf q (s ++ [c])).take (i + 1 + 1) = (rowOf q (s ++ [c])).take (i + 1) ++ [(rowOf q (s ++ [c])).getD (i + 1) 0] := by
   rw [List.take_succ_eq_append_getElem (by omega)]; simp [List.getD, List.getElem?_eq_getElem (show i + 1 < (rowOf q (s ++ [c])).length by omega)]
  rw [e]
  congr 2
  have eg : ((rowOf q (s ++ [c])).take (i + 1)).getD i 0 = Go.Dist.dist (q.take i) (s ++ [c]) := by
   rw [← rowOf_get (by omega)]
   simp [List.getD, List.getElem?_take]
  rw [rowOf_get h, stepD, rowOf_get (by omega), rowOf_get h, eg, take_getD (by omega)]
  by_cases hc : q.getD i 0 = c
  ·rw [if_pos hc, hc, dist_snoc]
  ·rw [if_neg hc, dist_snoc_ne hc]; omega
theorem nextD_eq (q s : List UInt8) (c : UInt8) : nextD q (rowOf q s) c = rowOf q (s ++ [c]) := by
 show nextL q _ c q.length = _
 rw [nextL_eq q s c _ (Nat.le_refl _), ← rowOf_len q (s ++ [c]), List.take_length]
theorem rowOf_small {q s : List UInt8} (hq : q.length ≤ 900000) (hs : s.length ≤ 900000) : ∀ n ∈ rowOf q s, n ≤ 2000000 := by
 intro n hn
 simp only [rowOf, List.mem_map, List.mem_range] at hn
 obtain ⟨i, hi, rfl⟩ := hn
 have := dist_max (q.take i) s
 rw [List.length_take] at this
 omega

noncomputable def c32 : Code := Tryz.f65.body.getD .skip
noncomputable def c32b1 : Code := sub c32 [1,1,0,1,0,0]
theorem c32_eq : Tryz.f65.body = some (.seq (sub c32 [0]) (.seq (sub c32 [1,0]) (.seq (.seq (sub c32 [1,1,0,0]) (.block 0 (.loop c32b1))) (.seq (sub c32 [1,1,1,0]) (sub c32 [1,1,1,1]))))) := by kernel_rfl
theorem run_of (a b : List UInt8) (ha : a.length ≤ 900000) (hb : b.length ≤ 900000) (A : Mem) : ∃ A', Ans tb4 65 [strOf a, strOf b] A (.int .i64 (Go.Dist.dist a b : Nat)) A' ∧ Ext A A' := by
 obtain ⟨v, A', h1, h2, h3⟩ : ∃ v A', Ans tb4 65 [strOf a, strOf b] A v A' ∧ v = .int .i64 (Go.Dist.dist a b : Nat) ∧ Ext A A' := by
  refine ans_of_W (fn_at Tryz.func65) c32_eq (by rw [Tryz.ntmps65]; simp) (by kernel_rfl) (by kernel_rfl) ?_
  apply W.seq
  apply W.run 20
  ·intro M
   simp (disch := first | decide +kernel | omega) only [c32, Tryz.f65, Aq, Nat.reduceEqDiff]
   with_reducible rfl
  apply W.seq
  obtain ⟨xr, B, ⟨g, hg⟩, hs, hE⟩ := run_row a ha A
  apply W.runG (g) 20
  ·intro M hM
   simp (disch := first | decide +kernel | omega) only [c32, Tryz.f65, Aq, Nat.reduceEqDiff, hg]
   with_reducible rfl
  apply W.seq
  apply W.seq
  apply W.run 20
  ·intro M
   simp (disch := first | decide +kernel | omega) only [c32, Tryz.f65, Aq, Nat.reduceEqDiff, len_str und9]
   with_reducible rfl
  apply W.block
  refine W.up b.length (fun k t C => ∃ bs xr, Slc C 3 bs (ints (rowOf a (b.take k))) xr ∧ Ext A C ∧ Sl t [(0, strOf a), (1, strOf b), (5, xr), (10, .int .i64 (b.length : Int)), (11, .int .i64 (k : Int))]) ?_ (Nat.zero_le _) ⟨A.next, xr, by rw [List.take_zero, rowOf_nil]; exact hs, hE, ?_⟩
  ·rintro k t C hk ⟨bs, xr, hs, hEC, g0, g1, g5, g10, g11, -⟩
   by_cases hlt : k < b.length
   ·obtain ⟨v, D, ⟨g, hg⟩, hE, bd, hbd, hsd⟩ := run_next (c := b.getD k 0) ha (rowOf_small ha (by rw [List.length_take]; omega)) hs
    rw [if_pos (rowOf_len _ _), nextD_eq, ← take_getD hlt] at hsd
    apply W.runG (g) 20
    ·intro M hM
     simp (disch := first | decide +kernel | omega) only [c32b1, c32, Tryz.f65, Aq, Nat.reduceEqDiff, g0, g1, g5, g10, g11, hlt, index_str und9, hg]
     with_reducible rfl
    refine ⟨hlt, _, _, rfl, bd, v, hsd, hEC.trans hE, ?_⟩
    simp only [Sl_cons, Sl_nil, T.get_set, T.puts_cons, T.puts_nil, Nat.reduceEqDiff, Nat.reduceAdd, if_true, if_false, and_true, true_and, g0, g1, g10]
   ·have hkn : k = b.length := by omega
    subst hkn
    rw [List.take_length] at hs
    apply W.run 20
    ·intro M
     simp (disch := first | decide +kernel | omega) only [c32b1, c32, Tryz.f65, Aq, Nat.reduceEqDiff, g10, g11]
     with_reducible rfl
    apply W.seq
    have hix := hs.idx (tb := tb4) (t := 123) (t' := 3) (kd := .i64) (i := a.length) und104 size3 (by rw [ints_len, rowOf_len]; omega)
    have hld := hs.load (tb := tb4) (t := 3) (o := a.length) und3 rfl (ints_get (getD_some (by rw [rowOf_len]; omega)))
    rw [rowOf_get (Nat.le_refl _), List.take_length] at hld
    apply W.run 20
    ·intro M
     simp (disch := first | decide +kernel | omega) only [c32, Tryz.f65, Aq, Nat.reduceEqDiff, g0, g5, len_str und9, hix, hld]
     with_reducible rfl
    apply W.run 20
    ·intro M
     simp (disch := first | decide +kernel | omega) only [c32, Tryz.f65, Aq, Nat.reduceEqDiff]
     with_reducible rfl
    refine ⟨.inr rfl, _, [.int .i64 (Go.Dist.dist a b : Nat)], rfl, ?_, rfl, hEC⟩
    simp only [Tryz.f65, resF, ev_tmp, T.get_set, Nat.reduceEqDiff, if_true, if_false, evG_some, R.ok_bind]
  ·simp only [Sl_cons, Sl_nil, T.get_set, T.puts_cons, T.puts_nil, Nat.reduceEqDiff, Nat.reduceAdd, if_true, if_false, and_true, true_and]
 subst h2
 exact ⟨A', h1, h3⟩

noncomputable def c21 : Code := Tryz.f49.body.getD .skip
theorem c21_eq : Tryz.f49.body = some (.seq (sub c21 [0]) (.seq (.seq (sub c21 [1,0,0]) (.seq (sub c21 [1,0,1,0]) (sub c21 [1,0,1,1]))) (.seq (sub c21 [1,1,0]) (sub c21 [1,1,1])))) := by kernel_rfl
def withinD (a b : List UInt8) (k : Int) : Value := if (Go.Dist.dist a b : Int) ≤ k then .tuple ⟨[.int .i64 (Go.Dist.dist a b : Nat), .bool true]⟩ else .tuple ⟨[.int .i64 ((0 : Nat) : Int), .bool false]⟩
theorem run_within (a b : List UInt8) (k : Int) (ha : a.length ≤ 900000) (hb : b.length ≤ 900000) (A : Mem) : ∃ A', Ans tb4 49 [strOf a, strOf b, .int .i64 k] A (withinD a b k) A' ∧ Ext A A' := by
 obtain ⟨v, A', h1, h2, h3⟩ : ∃ v A', Ans tb4 49 [strOf a, strOf b, .int .i64 k] A v A' ∧ v = withinD a b k ∧ Ext A A' := by
  refine ans_of_W (fn_at Tryz.func49) c21_eq (by rw [Tryz.ntmps49]; simp) (by kernel_rfl) (by kernel_rfl) ?_
  obtain ⟨B, ⟨g, hg⟩, hEB⟩ := run_of a b ha hb A
  apply W.seq
  apply W.run 20
  ·intro M
   simp (disch := first | decide +kernel | omega) only [c21, Tryz.f49, Aq, Nat.reduceEqDiff]
   with_reducible rfl
  apply W.seq
  apply W.seq
  apply W.runG (g) 20
  ·intro M hM
   simp (disch := first | decide +kernel | omega) only [c21, Tryz.f49, Aq, Nat.reduceEqDiff, hg]
   with_reducible rfl
  apply W.seq
  apply W.run 20
  ·intro M
   simp (disch := first | decide +kernel | omega) only [c21, Tryz.f49, Aq, Nat.reduceEqDiff]
   with_reducible rfl
  by_cases hk : (Go.Dist.dist a b : Int) ≤ k
  ·apply W.run 20
   ·intro M
    simp (disch := first | decide +kernel | omega) only [c21, Tryz.f49, Aq, Nat.reduceEqDiff, hk]
    with_reducible rfl
   refine ⟨.inr rfl, _, [.int .i64 (Go.Dist.dist a b : Nat), .bool true], rfl, ?_, by rw [withinD, if_pos hk]; rfl, hEB⟩
   simp only [Tryz.f49, resF, ev_tmp, T.get_set, Nat.reduceEqDiff, if_true, if_false, evG_some, R.ok_bind]
  ·apply W.run 20
   ·intro M
    simp (disch := first | decide +kernel | omega) only [c21, Tryz.f49, Aq, Nat.reduceEqDiff, hk]
    with_reducible rfl
   apply W.seq
   apply W.run 20
   ·intro M
    simp (disch := first | decide +kernel | omega) only [c21, Tryz.f49, Aq, Nat.reduceEqDiff]
    with_reducible rfl
   apply W.run 20
   ·intro M
    simp (disch := first | decide +kernel | omega) only [c21, Tryz.f49, Aq, Nat.reduceEqDiff]
    with_reducible rfl
   refine ⟨.inr rfl, _, [.int .i64 ((0 : Nat) : Int), .bool false], rfl, ?_, by rw [withinD, if_neg hk]; rfl, hEB⟩
   simp only [Tryz.f49, resF, ev_tmp, T.get_set, Nat.reduceEqDiff, if_true, if_false, evG_some, R.ok_bind]
 subst h2
 exact ⟨A', h1, h3⟩
end Go.Proofs.YtnelkapmmgggdaaGreat.wth

/-
 Model: the row of a heap of hits: read, written, appended to.
-/
namespace Go.Proofs.YtnelkapmmgggdaaGreat.mdl
open Go.Am Go.Mdl
open Go.Proofs.YtnelkapmmgggdaaGreat.rnk (HitD hitC ordD lessB sortH ordK lessK hitC_len)
set_option linter.unusedSimpArgs false
set_option linter.unusedVariables false
set_option linter.unusedVariables false

theorem und99 : tb4.und 104 = some (.slice 73) := by kernel_rfl
theorem und51 : tb4.und 42 = some (.slice 73) := by kernel_rfl
theorem size63' : sizeF tb4 73 = .ok 4 := by kernel_rfl
def hitZ : List Value := [.string .empty, .int .u32 0, .bool false, .int .i64 0]
theorem zc63 : zcellsF tb4 73 = .ok (4, hitZ) := by kernel_rfl
theorem z63 : zeroF tb4 73 = .ok (.agg ⟨hitZ⟩) := by kernel_rfl
theorem ty63 : ∃ ti, tb4.ty.get 73 = some ti ∧ 0 < ti.bytes ∧ ti.bytes ≤ 65536 := by
 cases h : tb4.ty.get 73 with
 | none => exact absurd (show (tb4.ty.get 73).isSome = true by kernel_rfl) (by rw [h]; decide)
 | some ti =>
  have e : (tb4.ty.get 73).map (fun i => (Nat.blt 0 i.bytes && Nat.ble i.bytes 65536)) = some true := by kernel_rfl
  rw [h, Option.map_some, Option.some.injEq, Bool.and_eq_true, Nat.blt_eq] at e
  exact ⟨ti, rfl, e.1, Nat.le_of_ble_eq_true e.2⟩
theorem und63' : ∃ d, tb4.und 73 = some d ∧ isAggD d = true := by
 have h : (tb4.und 73).map isAggD = some true := by kernel_rfl
 cases hq : tb4.und 73 with
 | none => rw [hq] at h; cases h
 | some d => rw [hq] at h; exact ⟨d, rfl, by simpa using h⟩
theorem hitC_one (h : HitD) : ∀ v ∈ hitC h, oneCell v = true := by
 intro v hv
 unfold hitC at hv
 simp only [List.mem_cons, List.not_mem_nil, or_false] at hv
 rcases hv with rfl | rfl | rfl | rfl <;> rfl
def HCells (cs : T Value) (l : List HitD) (m : Nat) : Prop := (∀ (i : Nat) (h : HitD) (j : Nat), l[i]? = some h → j < 4 → cs.get (i * 4 + j) = (hitC h)[j]?) ∧ ∀ i, i < m * 4 → ∃ v, cs.get i = some v
def HRow (A : Mem) (b : Nat) (l : List HitD) (c : Nat) : Prop :=
 (l = [] ∧ c = 0 ∧ ∃ k cs, A.get b = some (.cells 73 k 0 cs)) ∨ ∃ m cs, c = mkX m 4 ∧ l.length ≤ m ∧ m ≤ 100000 ∧ A.get b = some (.cells 73 .row 0 cs) ∧ HCells cs l m
theorem HRow.same {A A' : Mem} {b c : Nat} {l : List HitD} (h : HRow A b l c) (hg : A'.get b = A.get b) : HRow A' b l c := by
 rcases h with ⟨h1, h2, k, cs, h3⟩ | ⟨m, cs, h1, h2, h3, h4, h5⟩
 ·exact .inl ⟨h1, h2, k, cs, by rw [hg]; exact h3⟩
 ·exact .inr ⟨m, cs, h1, h2, h3, by rw [hg]; exact h4, h5⟩
theorem HRow.at {A : Mem} {b c i : Nat} {l : List HitD} {h : HitD} (hr : HRow A b l c) (hi : l[i]? = some h) :
  indexAddrF tb4 104 (.slice (some ⟨b, 0, none⟩) l.length c) (.int .i64 ((i : Nat) : Int)) = .ok (.pointer (some ⟨b, i * 4, none⟩)) ∧ loadF tb4 A.get 73 (.pointer (some ⟨b, i * 4, none⟩)) = .ok (.agg ⟨hitC h⟩) := by
 have hlt := (List.getElem?_eq_some_iff.1 hi).1
 obtain ⟨d63, hd1, hd2⟩ := und63'
 rcases hr with ⟨h1, -⟩ | ⟨m, cs, h1, h2, h3, h4, h5, h6⟩
 ·subst h1; simp at hi
 ·refine ⟨?_, ?_⟩
  ·have hb : Nat.blt i l.length = true := by rw [Nat.blt_eq]; exact hlt
   have hn : natV (.int .i64 (i : Int)) = .ok i := rfl
   unfold indexAddrF
   simp only [hn, und99, hb, cond_true, size63', R.ok_bind, addA, Nat.zero_add]
  ·have hgs : cs.gets 4 (i * 4) = some (hitC h) := gets_eq _ _ _ _ rfl fun j hj => h5 i h j hi hj
   unfold loadF
   simp only [h4, hd1, hd2, cond_true, size63', R.ok_bind, hgs]
theorem HCells.put {cs : T Value} {l l' : List HitD} {m i : Nat} {h : HitD} (hc : HCells cs l m) (him : i < m) (hl : ∀ j x, l'[j]? = some x → (j = i ∧ x = h) ∨ (j ≠ i ∧ l[j]? = some x)) :
  storesF 0 0 (hitC h) (i * 4) cs = .ok (cs.puts (i * 4) (hitC h)) ∧ HCells (cs.puts (i * 4) (hitC h)) l' m := by
 refine ⟨stores_in 0 _ _ _ (hitC_one h) fun j hj => .inl (hc.2 _ (by have : j < 4 := hj; omega)), fun k x j hk hj => ?_, fun k hk => ?_⟩
 ·rw [T.get_puts]
  have h4 : (hitC h).length = 4 := rfl
  rcases hl k x hk with ⟨rfl, rfl⟩ | ⟨hne, hk'⟩
  ·rw [if_pos ⟨by omega, by omega⟩, Nat.add_sub_cancel_left]
  ·rw [if_neg (by rintro ⟨h1, h2⟩; rw [h4] at h2; omega)]
   exact hc.1 k x j hk' hj
 ·rw [T.get_puts]
  split
  ·rename_i hh
   have h4 : (hitC h).length = 4 := rfl
   exact ⟨_, List.getElem?_eq_getElem (by omega)⟩
  ·exact hc.2 k hk
theorem HRow.put {A : Mem} {b c i : Nat} {l : List HitD} {h : HitD} (hr : HRow A b l c) (hi : i < l.length) :
  ∃ A', storeF tb4 A 73 (.pointer (some ⟨b, i * 4, none⟩)) (.agg ⟨hitC h⟩) = .ok A' ∧ HRow A' b (l.set i h) c ∧ A'.next = A.next ∧ ∀ y, y ≠ b → A'.get y = A.get y := by
 rcases hr with ⟨h1, -⟩ | ⟨m, cs, h1, h2, h3, h4, hc⟩
 ·subst h1; simp at hi
 ·obtain ⟨s1, s2⟩ := hc.put (l' := l.set i h) (h := h) (i := i) (by omega) fun j x hj => by
   rw [List.getElem?_set] at hj
   by_cases hij : i = j
   ·subst hij
    rw [if_pos rfl, if_pos hi] at hj
    exact .inl ⟨rfl, (Option.some.inj hj).symm⟩
   ·rw [if_neg hij] at hj
    exact .inr ⟨fun e => hij e.symm, hj⟩
  refine ⟨A.set b (.cells 73 .row 0 (cs.puts (i * 4) (hitC h))), ?_, .inr ⟨m, _, h1, by rw [List.length_set]; exact h2, h3, by rw [get_setMem, if_pos rfl], s2⟩, rfl, fun y hy => by rw [get_setMem, if_neg hy]⟩
  unfold storeF
  have hcl : (Value.agg ⟨hitC h⟩).cells.toList = hitC h := rfl
  simp only [size63', R.ok_bind, hcl]
  have hb : Nat.beq (hitC h).length 4 = true := rfl
  rw [hb, cond_true]
  unfold storeAtF
  unfold hitC at s1 ⊢
  have s1' : storesF (roomK .row) 0 [strOf h.e.word, .int .u32 (h.e.weight : Int), .bool h.e.gone, .int .i64 (h.dist : Int)] (i * 4) cs = .ok (cs.puts (i * 4) [strOf h.e.word, .int .u32 (h.e.weight : Int), .bool h.e.gone, .int .i64 (h.dist : Int)]) := s1
  simp only [h4, s1', R.ok_bind]
theorem hits_len (l : List HitD) : ((l.map hitC).flatten).length = l.length * 4 := by
 have := flat_len (n := 4) (ls := l.map hitC) (fun x hx => by obtain ⟨e, _, rfl⟩ := List.mem_map.1 hx; rfl)
 rw [this, List.length_map]
theorem hits_get {l : List HitD} {h : HitD} {i j : Nat} (hi : l[i]? = some h) (hj : j < 4) : ((l.map hitC).flatten)[i * 4 + j]? = (hitC h)[j]? :=
 flat_get (n := 4) (ls := l.map hitC) (fun x hx => by obtain ⟨e, _, rfl⟩ := List.mem_map.1 hx; rfl) (by rw [List.getElem?_map, hi]; rfl) hj
theorem hcells_new (l : List HitD) : HCells (T.puts .e 0 ((l.map hitC).flatten)) l l.length := by
 refine ⟨fun i h j hi hj => ?_, fun i hi => ?_⟩
 ·have hlt := (List.getElem?_eq_some_iff.1 hi).1
  rw [T.get_puts, Nat.zero_add, if_pos ⟨Nat.zero_le _, by rw [hits_len]; omega⟩, Nat.sub_zero, hits_get hi hj]
 ·rw [T.get_puts, Nat.zero_add, if_pos ⟨Nat.zero_le _, by rw [hits_len]; exact hi⟩, Nat.sub_zero]
  exact ⟨_, List.getElem?_eq_getElem (by rw [hits_len]; exact hi)⟩
theorem HRow.elems {A : Mem} {b c : Nat} {l : List HitD} (hr : HRow A b l c) : elemsF A.get 4 l.length (some ⟨b, 0, none⟩) = .ok ((l.map hitC).flatten) := by
 rcases hr with ⟨h1, -⟩ | ⟨m, cs, h1, h2, h3, h4, hc⟩
 ·subst h1; rfl
 ·refine elemsF_at h4 (hits_len l) fun j hj => ?_
  rw [hits_len] at hj
  have hq : j / 4 < l.length := by omega
  have e : j / 4 * 4 + j % 4 = j := by omega
  have h4' : j % 4 < 4 := Nat.mod_lt _ (by decide)
  have g1 := hc.1 (j / 4) l[j / 4] (j % 4) (List.getElem?_eq_getElem hq) h4'
  have g2 := hits_get (l := l) (h := l[j / 4]) (i := j / 4) (j := j % 4) (List.getElem?_eq_getElem hq) h4'
  rw [e] at g1 g2
  rw [Nat.zero_add, g1, g2]
theorem HRow.app {A : Mem} {b c q : Nat} {l : List HitD} {h : HitD} (hr : HRow A b l c) (hb : b < A.next) (hq : A.get q = some (rowOb 73 (hitC h))) (hl : l.length < 90000) :
  ∃ b' c' A', appendF tb4 A 104 104 (.slice (some ⟨b, 0, none⟩) l.length c) (.slice (some ⟨q, 0, none⟩) 1 2) = .ok (.slice (some ⟨b', 0, none⟩) (l.length + 1) c', A') ∧ HRow A' b' (l ++ [h]) c' ∧ (b' = b ∨ b' = A.next) ∧ b' < A'.next ∧ A.next ≤ A'.next ∧ ∀ y, y ≠ b → y < A.next → A'.get y = A.get y := by
 obtain ⟨ti, hti, hb1, hb2⟩ := ty63
 have hnew : firstF A.get 4 1 (.slice (some ⟨q, 0, none⟩) 1 2) = .ok (hitC h) := by
  have h4 : (hitC h).length = 1 * 4 := rfl
  exact elemsF_valsN (n := 4) (vals_puts (e := 73) (k := .var (hitC h).length) hq) h4
 have hel := hr.elems
 have hlim : (Nat.ble (l.length + 1) 16777216 && Nat.ble ti.bytes 65536 && Nat.blt 0 ti.bytes && Nat.blt 0 4 && Nat.blt 4 65536) = true := by
  have a1 : Nat.ble (l.length + 1) 16777216 = true := Nat.ble_eq_true_of_le (by omega)
  have a2 : Nat.ble ti.bytes 65536 = true := Nat.ble_eq_true_of_le hb2
  have a3 : Nat.blt 0 ti.bytes = true := by rw [Nat.blt_eq]; exact hb1
  rw [a1, a2, a3]; rfl
 have hfl : (l.map hitC).flatten ++ hitC h = ((l ++ [h]).map hitC).flatten := by simp
 have hll : (l ++ [h]).length = l.length + 1 := by simp
 have grown : ∀ (A0 : Mem), A0.next = A.next → (∀ y, y ≠ b → A0.get y = A.get y) →
   HRow (A0.alloc (.cells 73 .row 0 (T.puts .e 0 ((l.map hitC).flatten ++ hitC h)))) A.next (l ++ [h]) (mkX (l.length + 1) 4) ∧ A.next < (A0.alloc (.cells 73 .row 0 (T.puts .e 0 ((l.map hitC).flatten ++ hitC h)))).next ∧ ∀ y, y ≠ b → y < A.next → (A0.alloc (.cells 73 .row 0 (T.puts .e 0 ((l.map hitC).flatten ++ hitC h)))).get y = A.get y := by
  intro A0 hn hg
  refine ⟨.inr ⟨l.length + 1, _, rfl, by rw [hll]; exact Nat.le_refl _, by omega, by rw [← hn]; exact get_alloc_self _ _, ?_⟩, by rw [next_alloc]; omega, fun y hy hlt => by rw [get_alloc_ne (by omega), hg y hy]⟩
  rw [hfl, ← hll]
  exact hcells_new _
 rcases hr with ⟨h1, h2, k, cs, h3⟩ | ⟨m, cs, h1, h2, h3, h4, hc⟩
 ·subst h1 h2
  obtain ⟨g1, g2, g3⟩ := grown A rfl (fun _ _ => rfl)
  refine ⟨A.next, _, _, ?_, g1, .inr rfl, g2, by omega, g3⟩
  have hble : Nat.ble (0 + 1) (capN 0) = false := rfl
  have hx : capX 0 = true := rfl
  unfold appendF appendG
  simp only [und99, isIntD, cond_false, zc63, R.ok_bind, lenF, hnew, List.length_nil, hble, hti]
  simp only [List.length_nil, Nat.zero_add] at hlim hel
  simp only [Nat.zero_add, hlim, cond_true, hel, R.ok_bind, hx]
 ·subst h1
  have hcn : capN (mkX m 4) = m := capN_mkX (by decide)
  by_cases hlt : l.length < m
  ·obtain ⟨s1, s2⟩ := hc.put (l' := l ++ [h]) (h := h) (i := l.length) hlt fun j x hj => by
    rcases Nat.lt_trichotomy j l.length with h1 | h1 | h1
    ·rw [List.getElem?_append_left h1] at hj
     exact .inr ⟨by omega, hj⟩
    ·subst h1
     rw [List.getElem?_append_right (Nat.le_refl _), Nat.sub_self] at hj
     exact .inl ⟨rfl, (Option.some.inj hj).symm⟩
    ·rw [List.getElem?_eq_none (by rw [hll]; omega)] at hj
     cases hj
   refine ⟨b, mkX m 4, A.set b (.cells 73 .row 0 (cs.puts (l.length * 4) (hitC h))), ?_, .inr ⟨m, _, rfl, by rw [hll]; omega, h3, by rw [get_setMem, if_pos rfl], s2⟩, .inl rfl, hb, Nat.le_refl _, fun y hy _ => by rw [get_setMem, if_neg hy]⟩
   have hble : Nat.ble (l.length + 1) m = true := Nat.ble_eq_true_of_le (by omega)
   unfold appendF appendG
   simp only [und99, isIntD, cond_false, zc63, R.ok_bind, lenF, hnew, hcn, hble, cond_true, addA, Nat.zero_add]
   unfold storeAtF
   unfold hitC at s1 ⊢
   have s1' : storesF (roomK .row) 0 [strOf h.e.word, .int .u32 (h.e.weight : Int), .bool h.e.gone, .int .i64 (h.dist : Int)] (l.length * 4) cs = .ok (cs.puts (l.length * 4) [strOf h.e.word, .int .u32 (h.e.weight : Int), .bool h.e.gone, .int .i64 (h.dist : Int)]) := s1
   simp only [h4, s1', R.ok_bind]
  ·have hm : m = l.length := by omega
   subst hm
   obtain ⟨g1, g2, g3⟩ := grown (A.set b .dead) rfl (fun y hy => by rw [get_setMem, if_neg hy])
   refine ⟨A.next, _, _, ?_, g1, .inr rfl, g2, by omega, g3⟩
   have hble : Nat.ble (l.length + 1) l.length = false := by
    cases hq : Nat.ble (l.length + 1) l.length with
    | false => rfl
    | true => have := Nat.le_of_ble_eq_true hq; omega
   have hx : capX (mkX l.length 4) = false := capX_mkX _ _
   have he : capE (mkX l.length 4) = 4 := capE_mkX (by decide)
   have hone : (hitC h).all oneCell = true := List.all_eq_true.2 (hitC_one h)
   have hbq : (Nat.beq 4 4 && (hitC h).all oneCell) = true := by rw [hone]; rfl
   have hf0 : (Nat.ble 0 (0 + l.length * 4) && (Nat.beq 73 73 && Nat.blt 0 9223372036854775808)) = true := by
    have : Nat.ble 0 (0 + l.length * 4) = true := Nat.ble_eq_true_of_le (Nat.zero_le _)
    rw [this]; rfl
   unfold appendF appendG
   simp only [und99, isIntD, cond_false, zc63, R.ok_bind, lenF, hnew, hcn, hble, hti, hlim, cond_true, hel, hx, he, hbq, h4, hf0, Nat.sub_zero]
end Go.Proofs.YtnelkapmmgggdaaGreat.mdl

/-
 Model: the methods of a heap of hits.
-/
namespace Go.Am
section
variable {tb : Tab} {ih : Code → St → R (Ex × St)}
variable (dst : Option Tmp) (ty : TypeId) (pos : String) (after : Array Edge) (g : Option (Nat × Bool)) (s : St) (k : St → R (Ex × St))
noncomputable def ifaceF (tb : Tab) (t : TypeId) (x : Value) : R Value := match tb.und t with
 | some (.interface _) => .no 208
 | some _ => .ok (.iface t x)
 | none => .no 209
theorem opF_makeIface (t : TypeId) (x : Operand) : opF tb ih { dst, op := .makeInterface t x, type := ty, pos, after, guard := g } s k = (ev s.t x).bind fun x => (ifaceF tb t x).bind fun v => putT s dst v k := by
 rw [opF_P _ _ _ _ _ _ _ rfl rfl]; simp only [pOp, R.bind_bind]; rfl
theorem opF_assert (x : Operand) (t u : TypeId) (b : Bool) : opF tb ih { dst, op := .typeAssert x t u b, type := ty, pos, after, guard := g } s k = (ev s.t x).bind fun x => (assertF tb x u b).bind fun v => putT s dst v k := by
 rw [opF_P _ _ _ _ _ _ _ rfl rfl]; simp only [pOp, R.bind_bind]
theorem opF_invoke (x : Operand) (name : String) (args : Array Operand) (ts : Array TypeId) : opF tb ih { dst, op := .call { callee := .invoke x name, args, argTypes := ts }, type := ty, pos, after, guard := g } s k =
  (evs s.t args.toList).bind fun a => (ev s.t x).bind fun rv => (methodCl tb s.m.get rv name a).bind fun cl => (callF tb ih cl s.m).bind fun r => resK s dst k r := by
 unfold opF
 show ((clOf tb s.t s.m.get { callee := .invoke x name, args, argTypes := ts }).bind fun cl => (callF tb ih cl s.m).bind fun r => match r with
  | .val v A => putT { s with m := A } dst v k
  | .pan v A => .ok (.pan v, { s with m := A })) = _
 unfold clOf
 simp only [R.bind_bind]
 cases evs s.t args.toList with
 | no _ => rfl
 | ok a => rfl
end
end Go.Am
namespace Go.Proofs.YtnelkapmmgggdaaGreat.mdl
open Go.Am Go.Mdl
open Go.Proofs.YtnelkapmmgggdaaGreat.rnk (HitD hitC ordD lessB sortH ordK lessK hitC_len)
set_option linter.unusedSimpArgs false
set_option linter.unusedVariables false
set_option linter.unusedVariables false

theorem k34 {ih : Code → St → R (Ex × St)} {A : Mem} {x y : HitD} : callF tb4 ih (.fn 125 [.agg ⟨hitC x⟩, .agg ⟨hitC y⟩]) A = .ok (.val (.bool (lessB x y)) A) :=
 callF_known (c := (Tryz.f125.body).getD .skip) (fn_at Tryz.func125) (by kernel_rfl) (by kernel_rfl) (h := pureHook lessK) (by kernel_rfl) rfl
theorem len99 {b : Option Addr} {n c : Nat} : builtinPF tb4 .len [104] [.slice b n c] = .ok (.int .i64 ((n : Nat) : Int)) := len_slc und99

noncomputable def c48 : Code := Tryz.f51.body.getD .skip
theorem c48_eq : Tryz.f51.body = some (.seq (sub c48 [0]) (.seq (sub c48 [1,0]) (sub c48 [1,1]))) := by kernel_rfl
theorem run_len {A : Mem} {b : Option Addr} {n c : Nat} : Ans tb4 51 [.slice b n c] A (.int .i64 ((n : Nat) : Int)) A := by
 obtain ⟨v, A', hg, rfl, rfl⟩ : ∃ v A', Ans tb4 51 [.slice b n c] A v A' ∧ v = .int .i64 ((n : Nat) : Int) ∧ A' = A := by
  refine ans_of_W (fn_at Tryz.func51) c48_eq (by rw [Tryz.ntmps51]; simp) (by kernel_rfl) (by kernel_rfl) ?_
  apply W.seq
  apply W.run 20
  ·intro M
   simp (disch := first | decide +kernel | omega) only [c48, Tryz.f51, Aq, Nat.reduceEqDiff]
   with_reducible rfl
  apply W.seq
  apply W.run 20
  ·intro M
   simp (disch := first | decide +kernel | omega) only [c48, Tryz.f51, Aq, Nat.reduceEqDiff, len99]
   with_reducible rfl
  apply W.run 20
  ·intro M
   simp (disch := first | decide +kernel | omega) only [c48, Tryz.f51, Aq, Nat.reduceEqDiff]
   with_reducible rfl
  refine ⟨.inr rfl, _, [.int .i64 ((n : Nat) : Int)], rfl, ?_, rfl, rfl⟩
  simp only [Tryz.f51, resF, ev_tmp, T.get_set, Nat.reduceEqDiff, if_true, if_false, evG_some, R.ok_bind]
 exact hg
noncomputable def c106 : Code := Tryz.f121.body.getD .skip
theorem c106_eq : Tryz.f121.body = some (.seq (sub c106 [0]) (.seq (sub c106 [1,0]) (sub c106 [1,1]))) := by kernel_rfl
theorem run_wless {A : Mem} {b c i j : Nat} {l : List HitD} {x y : HitD} (hr : HRow A b l c) (hi : l[i]? = some x) (hj : l[j]? = some y) : Ans tb4 121 [.slice (some ⟨b, 0, none⟩) l.length c, .int .i64 ((i : Nat) : Int), .int .i64 ((j : Nat) : Int)] A (.bool (lessB y x)) A := by
 obtain ⟨v, A', hg, rfl, rfl⟩ : ∃ v A', Ans tb4 121 [.slice (some ⟨b, 0, none⟩) l.length c, .int .i64 ((i : Nat) : Int), .int .i64 ((j : Nat) : Int)] A v A' ∧ v = .bool (lessB y x) ∧ A' = A := by
  refine ans_of_W (fn_at Tryz.func121) c106_eq (by rw [Tryz.ntmps121]; simp) (by kernel_rfl) (by kernel_rfl) ?_
  obtain ⟨i1, i2⟩ := hr.at hi
  obtain ⟨j1, j2⟩ := hr.at hj
  apply W.seq
  apply W.run 20
  ·intro M
   simp (disch := first | decide +kernel | omega) only [c106, Tryz.f121, Aq, Nat.reduceEqDiff]
   with_reducible rfl
  apply W.seq
  apply W.run 20
  ·intro M
   simp (disch := first | decide +kernel | omega) only [c106, Tryz.f121, Aq, Nat.reduceEqDiff, i1, i2, j1, j2, k34]
   with_reducible rfl
  apply W.run 20
  ·intro M
   simp (disch := first | decide +kernel | omega) only [c106, Tryz.f121, Aq, Nat.reduceEqDiff]
   with_reducible rfl
  refine ⟨.inr rfl, _, [.bool (lessB y x)], rfl, ?_, rfl, rfl⟩
  simp only [Tryz.f121, resF, ev_tmp, T.get_set, Nat.reduceEqDiff, if_true, if_false, evG_some, R.ok_bind]
 exact hg
def swapL (l : List HitD) (i j : Nat) : List HitD := match l[i]?, l[j]? with
 | some x, some y => (l.set i y).set j x
 | _, _ => l
theorem swapL_len (l : List HitD) (i j : Nat) : (swapL l i j).length = l.length := by
 unfold swapL
 split
 ·simp
 ·rfl
noncomputable def c109 : Code := Tryz.f124.body.getD .skip
theorem c109_eq : Tryz.f124.body = some c109 := by kernel_rfl
theorem run_swap {A : Mem} {b c i j : Nat} {l : List HitD} (hr : HRow A b l c) (hi : i < l.length) (hj : j < l.length) :
  ∃ A', Ans tb4 124 [.slice (some ⟨b, 0, none⟩) l.length c, .int .i64 ((i : Nat) : Int), .int .i64 ((j : Nat) : Int)] A (.tuple ⟨[]⟩) A' ∧ HRow A' b (swapL l i j) c ∧ A'.next = A.next ∧ ∀ y, y ≠ b → A'.get y = A.get y := by
 obtain ⟨v, A', hg, rfl, h1, h2, h3⟩ : ∃ v A', Ans tb4 124 [.slice (some ⟨b, 0, none⟩) l.length c, .int .i64 ((i : Nat) : Int), .int .i64 ((j : Nat) : Int)] A v A' ∧ v = .tuple ⟨[]⟩ ∧ HRow A' b (swapL l i j) c ∧ A'.next = A.next ∧ ∀ y, y ≠ b → A'.get y = A.get y := by
  refine ans_of_W (fn_at Tryz.func124) c109_eq (by rw [Tryz.ntmps124]; simp) (by kernel_rfl) (by kernel_rfl) ?_
  have ei : l[i]? = some l[i] := List.getElem?_eq_getElem hi
  have ej : l[j]? = some l[j] := List.getElem?_eq_getElem hj
  have hsw : swapL l i j = (l.set i l[j]).set j l[i] := by unfold swapL; rw [ei, ej]
  obtain ⟨i1, i2⟩ := hr.at ei
  obtain ⟨j1, j2⟩ := hr.at ej
  obtain ⟨A1, s1, r1, n1, k1⟩ := hr.put (h := l[j]) hi
  obtain ⟨A2, s2, r2, n2, k2⟩ := r1.put (h := l[i]) (i := j) (by rw [List.length_set]; exact hj)
  apply W.run 20
  ·intro M
   simp (disch := first | decide +kernel | omega) only [c109, Tryz.f124, Aq, Nat.reduceEqDiff, i1, i2, j1, j2, s1, s2]
   with_reducible rfl
  refine ⟨.inl rfl, A2, [], rfl, ?_, rfl, by rw [hsw]; exact r2, by omega, fun y hy => by rw [k2 y hy, k1 y hy]⟩
  simp only [Tryz.f124, resF, ev_tmp, T.get_set, Nat.reduceEqDiff, if_true, if_false, evG_some, R.ok_bind]
 exact ⟨A', hg, h1, h2, h3⟩
end Go.Proofs.YtnelkapmmgggdaaGreat.mdl

/-
 Model: a heap's variable; Push and Pop of it.
-/
namespace Go.Proofs.YtnelkapmmgggdaaGreat.mdl
open Go.Am Go.Mdl
open Go.Proofs.YtnelkapmmgggdaaGreat.rnk (HitD hitC ordD lessB sortH ordK lessK hitC_len)
set_option linter.unusedSimpArgs false
set_option linter.unusedVariables false
set_option linter.unusedVariables false

def KL (lo : Nat) (A A' : Mem) : Prop := A.next ≤ A'.next ∧ ∀ z, z < lo → A'.get z = A.get z
theorem KL.refl (lo : Nat) (A : Mem) : KL lo A A := ⟨Nat.le_refl _, fun _ _ => rfl⟩
theorem KL.trans {lo : Nat} {A B C : Mem} (h : KL lo A B) (k : KL lo B C) : KL lo A C := ⟨Nat.le_trans h.1 k.1, fun z hz => by rw [k.2 z hz, h.2 z hz]⟩
theorem Kp.kl {lo : Nat} {A A' : Mem} (h : Kp A A') (hlo : lo ≤ A.next) : KL lo A A' := ⟨h.1, fun z hz => h.2 z (by omega)⟩
structure HpS (A : Mem) (lo bw : Nat) (l : List HitD) (b c : Nat) : Prop where
 lw : lo ≤ bw
 ltw : bw < A.next
 lb : lo ≤ b
 ltb : b < A.next
 ne : b ≠ bw
 v : Vals A 104 bw (.var 1) [.slice (some ⟨b, 0, none⟩) l.length c]
 r : HRow A b l c
def Hp (A : Mem) (lo bw : Nat) (l : List HitD) : Prop := ∃ b c, HpS A lo bw l b c
theorem HpS.kp {A A' : Mem} {lo bw b c : Nat} {l : List HitD} (h : HpS A lo bw l b c) (k : Kp A A') : HpS A' lo bw l b c :=
 ⟨h.lw, Nat.lt_of_lt_of_le h.ltw k.1, h.lb, Nat.lt_of_lt_of_le h.ltb k.1, h.ne, h.v.same (k.2 _ h.ltw), h.r.same (k.2 _ h.ltb)⟩
theorem HpS.load {A : Mem} {lo bw b c : Nat} {l : List HitD} (h : HpS A lo bw l b c) : loadF tb4 A.get 104 (.pointer (some ⟨bw, 0, none⟩)) = .ok (.slice (some ⟨b, 0, none⟩) l.length c) := load_vals und99 rfl h.v rfl
theorem ev_nili {t : T Value} : ev t (Operand.const Value.nilIface) = .ok .nilIface := rfl
theorem size99 : sizeF tb4 104 = .ok 1 := by kernel_rfl
theorem bs99 {h : HitD} : buildSliceF tb4 104 1 [(0, .agg ⟨hitC h⟩)] = .ok (rowOb 73 (hitC h), .slc 1 2) := by kernel_rfl
theorem as63 {h : HitD} : assertF tb4 (.iface 73 (.agg ⟨hitC h⟩)) 73 false = .ok (.agg ⟨hitC h⟩) := by kernel_rfl
theorem if63 {h : HitD} : ifaceF tb4 73 (.agg ⟨hitC h⟩) = .ok (.iface 73 (.agg ⟨hitC h⟩)) := by kernel_rfl
noncomputable def c108 : Code := Tryz.f123.body.getD .skip
theorem c108_eq : Tryz.f123.body = some c108 := by kernel_rfl
theorem run_wpush {A : Mem} {lo bw : Nat} {l : List HitD} {h : HitD} (hp : Hp A lo bw l) (hl : l.length < 90000) :
  ∃ A', Ans tb4 123 [.pointer (some ⟨bw, 0, none⟩), .iface 73 (.agg ⟨hitC h⟩)] A (.tuple ⟨[]⟩) A' ∧ Hp A' lo bw (l ++ [h]) ∧ KL lo A A' := by
 obtain ⟨b, c, hp⟩ := hp
 obtain ⟨v, A', hg, rfl, h1, h2⟩ : ∃ v A', Ans tb4 123 [.pointer (some ⟨bw, 0, none⟩), .iface 73 (.agg ⟨hitC h⟩)] A v A' ∧ v = .tuple ⟨[]⟩ ∧ Hp A' lo bw (l ++ [h]) ∧ KL lo A A' := by
  refine ans_of_W (fn_at Tryz.func123) c108_eq (by rw [Tryz.ntmps123]; simp) (by kernel_rfl) (by kernel_rfl) ?_
  have hlw := hp.lw
  have hltw := hp.ltw
  have hlb := hp.lb
  have hltb := hp.ltb
  have hne := hp.ne
  have k1 := Kp.alloc A (rowOb 73 (hitC h))
  have hn1 := next_alloc A (rowOb 73 (hitC h))
  have hp1 := hp.kp k1
  have l0 := hp.load
  obtain ⟨b', c', A2, happ, hr2, hb', hb2, hn2, k2⟩ := hp1.r.app hp1.ltb (get_alloc_self A (rowOb 73 (hitC h))) hl
  have v2 : Vals A2 104 bw (.var 1) [.slice (some ⟨b, 0, none⟩) l.length c] := hp1.v.same (k2 bw (fun e => hne e.symm) hp1.ltw)
  obtain ⟨A3, s3, v3, n3, k3⟩ := store_box (tb := tb4) (t := 104) (w := .slice (some ⟨b', 0, none⟩) (l.length + 1) c') size99 v2 rfl rfl
  have hbw : b' ≠ bw := by rcases hb' with h | h <;> omega
  apply W.run 20
  ·intro M
   simp (disch := first | decide +kernel | omega) only [c108, Tryz.f123, Aq, Nat.reduceEqDiff, opF_nilCheck, nil_ptr, l0, opF_assert, as63, bs99, at_slc, happ, s3]
   with_reducible rfl
  refine ⟨.inl rfl, A3, [], rfl, ?_, rfl, ⟨b', c', hlw, by omega, by rcases hb' with h | h <;> omega, by omega, hbw, ?_, hr2.same (k3 b' hbw)⟩, ⟨by omega, fun z hz => by rw [k3 z (by omega), k2 z (by omega) (by omega), k1.2 z (by omega)]⟩⟩
  ·simp only [Tryz.f123, resF, ev_tmp, T.get_set, Nat.reduceEqDiff, if_true, if_false, evG_some, R.ok_bind]
  ·rw [List.length_append]; exact v3
 exact ⟨A', hg, h1, h2⟩

theorem capSub_mkX {m e : Nat} (he : e < 65536) : capSub (mkX m e) 0 = mkX m e := by
 unfold capSub
 rw [capX_mkX, cond_false, capN_mkX he, capE_mkX he, Nat.sub_zero]
noncomputable def c107 : Code := Tryz.f122.body.getD .skip
theorem c107_eq : Tryz.f122.body = some (.seq (sub c107 [0]) (.seq (sub c107 [1,0]) (.seq (sub c107 [1,1,0]) (.seq (sub c107 [1,1,1,0]) (.seq (sub c107 [1,1,1,1,0]) (sub c107 [1,1,1,1,1])))))) := by kernel_rfl
theorem run_wpop {A : Mem} {lo bw : Nat} {l : List HitD} (hp : Hp A lo bw l) (h0 : 0 < l.length) (hl : l.length < 90000) :
  ∃ A', Ans tb4 122 [.pointer (some ⟨bw, 0, none⟩)] A (.iface 73 (.agg ⟨hitC (l[l.length - 1]'(by omega))⟩)) A' ∧ Hp A' lo bw (l.take (l.length - 1)) ∧ KL lo A A' := by
 obtain ⟨b, c, hp⟩ := hp
 obtain ⟨v, A', hg, rfl, h1, h2⟩ : ∃ v A', Ans tb4 122 [.pointer (some ⟨bw, 0, none⟩)] A v A' ∧ v = .iface 73 (.agg ⟨hitC (l[l.length - 1]'(by omega))⟩) ∧ Hp A' lo bw (l.take (l.length - 1)) ∧ KL lo A A' := by
  refine ans_of_W (fn_at Tryz.func122) c107_eq (by rw [Tryz.ntmps122]; simp) (by kernel_rfl) (by kernel_rfl) ?_
  have hlw := hp.lw
  have hltw := hp.ltw
  have hlb := hp.lb
  have hltb := hp.ltb
  have hne := hp.ne
  obtain ⟨d63, hd1, hd2⟩ := und63'
  have l0 := hp.load
  have hlast : l[l.length - 1]? = some (l[l.length - 1]'(by omega)) := List.getElem?_eq_getElem (by omega)
  generalize l[l.length - 1]'(by omega) = h at hlast
  obtain ⟨i1, i2⟩ := hp.r.at hlast
  have z1 : Vals (A.alloc (rowOb 73 hitZ)) 73 A.next (.var 4) hitZ := vals_puts (get_alloc_self _ _)
  obtain ⟨A1, s1, v1, n1, k1⟩ := store_all (tb := tb4) (t := 73) (l := hitZ) (l' := hitC h) size63' z1 rfl (by simp [hitZ]) (hitC_one h)
  rw [next_alloc] at n1
  have kA1 : Kp A A1 := ⟨by omega, fun z hz => by rw [k1 z (by omega), get_alloc_ne (by omega)]⟩
  have hp1 := hp.kp kA1
  have l1 := hp1.load
  have htk : (l.take (l.length - 1)).length = l.length - 1 := by rw [List.length_take]; omega
  obtain ⟨m, hcm, hlm⟩ : ∃ m, c = mkX m 4 ∧ l.length ≤ m := by
   rcases hp.r with ⟨h1, -⟩ | ⟨m, cs, h1, h2, -⟩
   ·rw [h1] at h0; simp at h0
   ·exact ⟨m, h1, h2⟩
  have hsl : sliceF tb4 104 (.slice (some ⟨b, 0, none⟩) l.length c) none (some (.int .i64 ((l.length - 1 : Nat) : Int))) none = .ok (.slice (some ⟨b, 0, none⟩) (l.length - 1) c) := by
   have e1 : bound (some (.int .i64 ((l.length - 1 : Nat) : Int))) l.length (capN c) = .ok (l.length - 1) := bound_some (by rw [hcm, capN_mkX (by decide)]; omega)
   have hx : (capX c && Nat.beq (capN c) 0) = false := by rw [hcm, capX_mkX]; rfl
   have h5 : capFit c 4 = true := by rw [hcm]; unfold capFit; rw [capX_mkX, capE_mkX (by decide), cond_false]; rfl
   unfold sliceF
   simp only [und99, e1, R.ok_bind, bound_none, size63', hx, cond_false, h5, cond_true, addA, Nat.zero_mul, Nat.add_zero, Nat.sub_zero]
   rw [hcm, capSub_mkX (by decide)]
  have hr1 : HRow A1 b (l.take (l.length - 1)) c := by
   rcases hp1.r with ⟨h1, -⟩ | ⟨m', cs, q1, q2, q3, q4, q5, q6⟩
   ·rw [h1] at h0; simp at h0
   ·refine .inr ⟨m', cs, q1, by omega, q3, q4, fun i x j hi hj => q5 i x j ?_ hj, q6⟩
    rw [List.getElem?_take] at hi
    split at hi
    ·exact hi
    ·cases hi
  obtain ⟨A3, s3, v3, n3, k3⟩ := store_box (tb := tb4) (t := 104) (w := .slice (some ⟨b, 0, none⟩) (l.length - 1) c) size99 hp1.v rfl rfl
  have lA : loadF tb4 A3.get 73 (.pointer (some ⟨A.next, 0, none⟩)) = .ok (.agg ⟨hitC h⟩) := load_all hd1 hd2 (l := hitC h) size63' (v1.same (k3 _ (by omega)))
  apply W.seq
  apply W.run 20
  ·intro M
   simp (disch := first | decide +kernel | omega) only [c107, Tryz.f122, Aq, Nat.reduceEqDiff, ev_nili]
   with_reducible rfl
  apply W.seq
  apply W.run 20
  ·intro M
   simp (disch := first | decide +kernel | omega) only [c107, Tryz.f122, Aq, Nat.reduceEqDiff, opF_nilCheck, nil_ptr, l0, len99]
   with_reducible rfl
  apply W.seq
  apply W.run 20
  ·intro M
   simp (disch := first | decide +kernel | omega) only [c107, Tryz.f122, Aq, Nat.reduceEqDiff, opF_nilCheck, nil_ptr, l0, i1, i2, z63, cells_agg, s1]
   with_reducible rfl
  apply W.seq
  apply W.run 20
  ·intro M
   simp (disch := first | decide +kernel | omega) only [c107, Tryz.f122, Aq, Nat.reduceEqDiff, opF_nilCheck, nil_ptr, l1, hsl, s3]
   with_reducible rfl
  apply W.seq
  apply W.run 20
  ·intro M
   simp (disch := first | decide +kernel | omega) only [c107, Tryz.f122, Aq, Nat.reduceEqDiff, lA, opF_makeIface, if63]
   with_reducible rfl
  apply W.run 20
  ·intro M
   simp (disch := first | decide +kernel | omega) only [c107, Tryz.f122, Aq, Nat.reduceEqDiff]
   with_reducible rfl
  refine ⟨.inr rfl, A3, [.iface 73 (.agg ⟨hitC h⟩)], rfl, ?_, rfl, ⟨b, c, hlw, by omega, hlb, by omega, hne, by rw [htk]; exact v3, hr1.same (k3 b hne)⟩, ⟨by omega, fun z hz => by rw [k3 z (by omega), kA1.2 z (by omega)]⟩⟩
  simp only [Tryz.f122, resF, ev_tmp, T.get_set, Nat.reduceEqDiff, if_true, if_false, evG_some, R.ok_bind]
 exact ⟨A', hg, h1, h2⟩
end Go.Proofs.YtnelkapmmgggdaaGreat.mdl

/-
 Model: container/heap over hits: up, and Push.
-/
namespace Go.Proofs.YtnelkapmmgggdaaGreat.mdl
open Go.Am Go.Mdl
open Go.Proofs.YtnelkapmmgggdaaGreat.rnk (HitD hitC ordD lessB sortH ordK lessK hitC_len)
set_option linter.unusedSimpArgs false
set_option linter.unusedVariables false
set_option linter.unusedVariables false

def wV (bw : Nat) : Value := .iface 103 (.pointer (some ⟨bw, 0, none⟩))
theorem m_len {g : Nat → Option Ob} {bw : Nat} {xs : Value} (h : loadF tb4 g 104 (.pointer (some ⟨bw, 0, none⟩)) = .ok xs) : methodCl tb4 g (wV bw) "Len" [] = .ok (.fn 51 [xs]) := by
 have e : methodCl tb4 g (wV bw) "Len" [] = ((loadF tb4 g 104 (.pointer (some ⟨bw, 0, none⟩))).bind fun r => R.ok (51, r)).bind fun p => R.ok (Cl.fn p.1 (p.2 :: [])) := by kernel_rfl
 rw [e, h]; rfl
theorem m_less {g : Nat → Option Ob} {bw : Nat} {xs a b : Value} (h : loadF tb4 g 104 (.pointer (some ⟨bw, 0, none⟩)) = .ok xs) : methodCl tb4 g (wV bw) "Less" [a, b] = .ok (.fn 121 [xs, a, b]) := by
 have e : methodCl tb4 g (wV bw) "Less" [a, b] = ((loadF tb4 g 104 (.pointer (some ⟨bw, 0, none⟩))).bind fun r => R.ok (121, r)).bind fun p => R.ok (Cl.fn p.1 (p.2 :: [a, b])) := by kernel_rfl
 rw [e, h]; rfl
theorem m_swap {g : Nat → Option Ob} {bw : Nat} {xs a b : Value} (h : loadF tb4 g 104 (.pointer (some ⟨bw, 0, none⟩)) = .ok xs) : methodCl tb4 g (wV bw) "Swap" [a, b] = .ok (.fn 124 [xs, a, b]) := by
 have e : methodCl tb4 g (wV bw) "Swap" [a, b] = ((loadF tb4 g 104 (.pointer (some ⟨bw, 0, none⟩))).bind fun r => R.ok (124, r)).bind fun p => R.ok (Cl.fn p.1 (p.2 :: [a, b])) := by kernel_rfl
 rw [e, h]; rfl
theorem m_push {g : Nat → Option Ob} {bw : Nat} {a : Value} : methodCl tb4 g (wV bw) "Push" [a] = .ok (.fn 123 [.pointer (some ⟨bw, 0, none⟩), a]) := by kernel_rfl
theorem m_pop {g : Nat → Option Ob} {bw : Nat} : methodCl tb4 g (wV bw) "Pop" [] = .ok (.fn 122 [.pointer (some ⟨bw, 0, none⟩)]) := by kernel_rfl
theorem HpS.swap {A : Mem} {lo bw b c i j : Nat} {l : List HitD} (h : HpS A lo bw l b c) (hi : i < l.length) (hj : j < l.length) :
  ∃ A', Ans tb4 124 [.slice (some ⟨b, 0, none⟩) l.length c, .int .i64 ((i : Nat) : Int), .int .i64 ((j : Nat) : Int)] A (.tuple ⟨[]⟩) A' ∧ HpS A' lo bw (swapL l i j) b c ∧ KL lo A A' := by
 obtain ⟨A', hg, h1, h2, h3⟩ := run_swap h.r hi hj
 have hlb := h.lb
 exact ⟨A', hg, ⟨h.lw, by rw [h2]; exact h.ltw, h.lb, by rw [h2]; exact h.ltb, h.ne, by rw [swapL_len]; exact h.v.same (h3 _ (fun e => h.ne e.symm)), h1⟩, ⟨by omega, fun z hz => h3 z (by omega)⟩⟩

def upL (l : List HitD) (j : Nat) : List HitD :=
 if h : j = 0 then l else
 match l[(j - 1) / 2]?, l[j]? with
 | some x, some y => if lessB x y = true then upL (swapL l ((j - 1) / 2) j) ((j - 1) / 2) else l
 | _, _ => l
termination_by j
decreasing_by omega
theorem upL_zero (l : List HitD) : upL l 0 = l := by rw [upL]; rfl
theorem upL_step {l : List HitD} {j : Nat} {x y : HitD} (h0 : j ≠ 0) (hx : l[(j - 1) / 2]? = some x) (hy : l[j]? = some y) : upL l j = if lessB x y = true then upL (swapL l ((j - 1) / 2) j) ((j - 1) / 2) else l := by
 rw [upL, dif_neg h0, hx, hy]
noncomputable def c58 : Code := Tryz.f66.body.getD .skip
noncomputable def c58b1 : Code := sub c58 [0,0]
theorem c58_eq : Tryz.f66.body = some (.block 0 (.loop c58b1)) := by kernel_rfl
theorem c58b1_eq : c58b1 = .block 1 (.seq (sub c58b1 [0,0]) (.seq (sub c58b1 [0,1,0]) (.seq (sub c58b1 [0,1,1,0]) (sub c58b1 [0,1,1,1])))) := by kernel_rfl
theorem quo_m1 : intOpF .quo .i64 (-((1 : Nat) : Int)) ((2 : Nat) : Int) = .ok (.int .i64 ((0 : Nat) : Int)) := by kernel_rfl
theorem run_up {A : Mem} {lo bw j : Nat} {l : List HitD} (hp : Hp A lo bw l) (hj : j < l.length) (hl : l.length < 90000) :
  ∃ A', Ans tb4 66 [wV bw, .int .i64 ((j : Nat) : Int)] A (.tuple ⟨[]⟩) A' ∧ Hp A' lo bw (upL l j) ∧ KL lo A A' := by
 obtain ⟨v, A', hg, rfl, h1, h2⟩ : ∃ v A', Ans tb4 66 [wV bw, .int .i64 ((j : Nat) : Int)] A v A' ∧ v = .tuple ⟨[]⟩ ∧ Hp A' lo bw (upL l j) ∧ KL lo A A' := by
  refine ans_of_W (fn_at Tryz.func66) c58_eq (by rw [Tryz.ntmps66]; simp) (by kernel_rfl) (by kernel_rfl) ?_
  apply W.block
  refine W.fall (fun k t C => ∃ m, Hp C lo bw m ∧ m.length = l.length ∧ k < l.length ∧ upL m k = upL l j ∧ KL lo A C ∧ Sl t [(0, wV bw), (1, .int .i64 ((k : Nat) : Int))]) ?_ (k := j) ⟨l, hp, rfl, hj, rfl, KL.refl _ _, ?_⟩
  ·rintro k t C ⟨m, hm, hml, hk, heq, hK, g0, g1, -⟩
   obtain ⟨b, c, hm⟩ := hm
   have l0 := hm.load
   rw [c58b1_eq]
   apply W.block
   have fin : ∀ t', upL m k = m → W tb4 (sub c58b1 [0,1,0]) ⟨t', 23, [], C, none⟩ (fun e s' => e = .exit 0 ∧ s'.m = C ∧ s'.d = []) → W tb4 (sub c58b1 [0,1,0]) ⟨t', 23, [], C, none⟩ (Then tb4 (.seq (sub c58b1 [0,1,1,0]) (sub c58b1 [0,1,1,1])) (Blk 1 fun e s' => match e with
     | .nrm => ∃ k' t' A', k' < k ∧ s' = ⟨t', 23, [], A', none⟩ ∧ ∃ m, Hp A' lo bw m ∧ m.length = l.length ∧ k' < l.length ∧ upL m k' = upL l j ∧ KL lo A A' ∧ Sl t' [(0, wV bw), (1, .int .i64 ((k' : Nat) : Int))]
     | e => Blk 0 (fun e s => (e = .nrm ∨ e = .ret) ∧ ∃ A' vs, takeF s.d s.m = .ok A' ∧ resF tb4 s.t A'.get Tryz.f66.results.toList = .ok vs ∧ oneOf vs = .tuple ⟨[]⟩ ∧ Hp A' lo bw (upL l j) ∧ KL lo A A') e s')) := by
    intro t' hu h
    refine h.mono ?_
    rintro e ⟨t2, n2, d2, C2, r2⟩ ⟨rfl, rfl, rfl⟩
    refine ⟨.inl rfl, C2, [], rfl, ?_, rfl, by rw [← heq, hu]; exact ⟨b, c, hm⟩, hK⟩
    simp only [Tryz.f66, resF]
   by_cases h0 : k = 0
   ·subst h0
    apply W.seq
    apply W.run 20
    ·intro M
     simp (disch := first | decide +kernel | omega) only [c58b1, c58, Tryz.f66, Aq, Nat.reduceEqDiff, g1, Nat.sub_zero, quo_m1]
     with_reducible rfl
    apply W.seq
    refine fin _ (upL_zero m) ?_
    apply W.run 20
    ·intro M
     simp (config := { maxSteps := 4000000 }) (disch := first | decide +kernel | omega | simp only [Wq, Nat.reduceEqDiff]) only [c58b1, c58, Tryz.f66, Aq, Nat.ble, reduceIte, Nat.reduceEqDiff, Nat.reduceAdd, g0, g1]
     with_reducible rfl
    exact ⟨rfl, rfl, rfl⟩
   ·have hi : (k - 1) / 2 < m.length := by omega
    have hkm : k < m.length := by omega
    have ex : m[(k - 1) / 2]? = some (m[(k - 1) / 2]'hi) := List.getElem?_eq_getElem hi
    have ey : m[k]? = some (m[k]'hkm) := List.getElem?_eq_getElem hkm
    have hst := upL_step h0 ex ey
    have hne : ¬ (k - 1) / 2 = k := by omega
    obtain ⟨gl, hgl⟩ := run_wless hm.r ey ex
    have ml := fun a b => m_less (a := a) (b := b) l0
    apply W.seq
    apply W.run 20
    ·intro M
     simp (disch := first | decide +kernel | omega) only [c58b1, c58, Tryz.f66, Aq, Nat.reduceEqDiff, g1]
     with_reducible rfl
    apply W.seq
    cases hless : lessB (m[(k - 1) / 2]'hi) (m[k]'hkm) with
    | false =>
     rw [hless] at hgl hst
     refine fin _ (by rw [hst]; rfl) ?_
     apply W.runG (gl) 20
     ·intro M hM
      simp (config := { maxSteps := 4000000 }) (disch := first | decide +kernel | omega | simp only [Wq, Nat.reduceEqDiff]) only [c58b1, c58, Tryz.f66, Aq, Nat.ble, reduceIte, Nat.reduceEqDiff, Nat.reduceAdd, g0, g1, hne, opF_invoke, ml, hgl]
      with_reducible rfl
     exact ⟨rfl, rfl, rfl⟩
    | true =>
     rw [hless, if_pos rfl] at hst
     rw [hless] at hgl
     have ms := fun a b => m_swap (a := a) (b := b) l0
     obtain ⟨C2, ⟨g2, hg2⟩, hp2, k2⟩ := hm.swap hi hkm
     apply W.runG (gl) 20
     ·intro M hM
      simp (config := { maxSteps := 4000000 }) (disch := first | decide +kernel | omega | simp only [Wq, Nat.reduceEqDiff]) only [c58b1, c58, Tryz.f66, Aq, Nat.ble, reduceIte, Nat.reduceEqDiff, Nat.reduceAdd, g0, g1, hne, opF_invoke, ml, hgl]
      with_reducible rfl
     apply W.seq
     apply W.runG (g2) 20
     ·intro M hM
      simp (disch := first | decide +kernel | omega) only [c58b1, c58, Tryz.f66, Aq, Nat.reduceEqDiff, g0, g1, opF_invoke, ms, hg2]
      with_reducible rfl
     apply W.run 20
     ·intro M
      simp (disch := first | decide +kernel | omega) only [c58b1, c58, Tryz.f66, Aq, Nat.reduceEqDiff]
      with_reducible rfl
     refine ⟨(k - 1) / 2, _, _, by omega, rfl, swapL m ((k - 1) / 2) k, ⟨b, c, hp2⟩, by rw [swapL_len, hml], by omega, by rw [← heq, hst], hK.trans k2, ?_⟩
     simp only [Sl_cons, Sl_nil, T.get_set, T.puts_cons, T.puts_nil, Nat.reduceEqDiff, Nat.reduceAdd, if_true, if_false, and_true, true_and, g0]
  ·simp only [Sl_cons, Sl_nil, T.get_set, T.puts_cons, T.puts_nil, Nat.reduceEqDiff, Nat.reduceAdd, if_true, if_false, and_true, true_and]
 exact ⟨A', hg, h1, h2⟩
end Go.Proofs.YtnelkapmmgggdaaGreat.mdl

/-
 Model: container/heap over hits: down, Push and Pop.
-/
namespace Go.Proofs.YtnelkapmmgggdaaGreat.mdl
open Go.Am Go.Mdl
open Go.Proofs.YtnelkapmmgggdaaGreat.rnk (HitD hitC ordD lessB sortH ordK lessK hitC_len)
set_option linter.unusedSimpArgs false
set_option linter.unusedVariables false
set_option linter.unusedVariables false

def childL (l : List HitD) (i n : Nat) : Nat := match l[2 * i + 1]?, l[2 * i + 2]? with
 | some a, some b => if 2 * i + 2 < n ∧ lessB a b = true then 2 * i + 2 else 2 * i + 1
 | _, _ => 2 * i + 1
theorem childL_lt {l : List HitD} {i n : Nat} (h : 2 * i + 1 < n) : i < childL l i n ∧ childL l i n < n := by
 unfold childL
 split
 ·split <;> omega
 ·omega
def downL (l : List HitD) (i n : Nat) : List HitD :=
 if h : 2 * i + 1 < n then
  match l[i]?, l[childL l i n]? with
  | some x, some y => if lessB x y = true then downL (swapL l i (childL l i n)) (childL l i n) n else l
  | _, _ => l
 else l
termination_by n - i
decreasing_by
 have := childL_lt (l := l) h
 omega
theorem downL_stop {l : List HitD} {i n : Nat} (h : ¬ 2 * i + 1 < n) : downL l i n = l := by rw [downL, dif_neg h]
theorem downL_step {l : List HitD} {i n : Nat} {x y : HitD} (h : 2 * i + 1 < n) (hx : l[i]? = some x) (hy : l[childL l i n]? = some y) : downL l i n = if lessB x y = true then downL (swapL l i (childL l i n)) (childL l i n) n else l := by
 rw [downL, dif_pos h, hx, hy]
noncomputable def c59 : Code := Tryz.f67.body.getD .skip
noncomputable def c59b1 : Code := sub c59 [1,1,0,0,0]
theorem c59_eq : Tryz.f67.body = some (.seq (sub c59 [0]) (.seq (sub c59 [1,0]) (.seq (.block 0 (.loop c59b1)) (.seq (sub c59 [1,1,1,0]) (sub c59 [1,1,1,1]))))) := by kernel_rfl
theorem c59b1_eq : c59b1 = .block 1 (.seq (sub c59b1 [0,0]) (.seq (sub c59b1 [0,1,0]) (.seq (sub c59b1 [0,1,1,0]) (.seq (sub c59b1 [0,1,1,1,0]) (.seq (sub c59b1 [0,1,1,1,1,0]) (.seq (sub c59b1 [0,1,1,1,1,1,0]) (sub c59b1 [0,1,1,1,1,1,1]))))))) := by kernel_rfl
theorem run_down {A : Mem} {lo bw n : Nat} {l : List HitD} (hp : Hp A lo bw l) (hn : n ≤ l.length) (hl : l.length < 90000) :
  ∃ v A', Ans tb4 67 [wV bw, .int .i64 ((0 : Nat) : Int), .int .i64 ((n : Nat) : Int)] A v A' ∧ Hp A' lo bw (downL l 0 n) ∧ KL lo A A' := by
 refine ans_of_W (fn_at Tryz.func67) c59_eq (by rw [Tryz.ntmps67]; simp) (by kernel_rfl) (by kernel_rfl) ?_
 apply W.seq
 apply W.run 20
 ·intro M
  simp (disch := first | decide +kernel | omega) only [c59, Tryz.f67, Aq, Nat.reduceEqDiff]
  with_reducible rfl
 apply W.seq
 apply W.run 20
 ·intro M
  simp (disch := first | decide +kernel | omega) only [c59, Tryz.f67, Aq, Nat.reduceEqDiff]
  with_reducible rfl
 apply W.seq
 apply W.block
 refine W.fall (fun k t C => ∃ i m, k = n - i ∧ Hp C lo bw m ∧ m.length = l.length ∧ (i < n ∨ i = 0) ∧ downL m i n = downL l 0 n ∧ KL lo A C ∧ Sl t [(0, wV bw), (1, .int .i64 ((0 : Nat) : Int)), (2, .int .i64 ((n : Nat) : Int)), (7, .int .i64 ((i : Nat) : Int))]) ?_ (k := n) ⟨0, l, rfl, hp, rfl, .inr rfl, rfl, KL.refl _ _, ?_⟩
 ·rintro k t C ⟨i, m, rfl, hm, hml, hin, heq, hK, g0, g1, g2, g7, -⟩
  obtain ⟨b, c, hm⟩ := hm
  have l0 := hm.load
  rw [c59b1_eq]
  apply W.block
  -- what is behind the loop
  have fin : ∀ t', downL m i n = m → (∃ z : Nat, t'.get 7 = some (.int .i64 ((z : Nat) : Int))) → t'.get 1 = some (.int .i64 ((0 : Nat) : Int)) → W tb4 (.seq (sub c59 [1,1,1,0]) (sub c59 [1,1,1,1])) ⟨t', 48, [], C, none⟩ (fun e s => (e = .nrm ∨ e = .ret) ∧ ∃ A' vs, takeF s.d s.m = .ok A' ∧ resF tb4 s.t A'.get Tryz.f67.results.toList = .ok vs ∧ Hp A' lo bw (downL l 0 n) ∧ KL lo A A') := by
   rintro t' hu ⟨z, h7⟩ h1
   apply W.seq
   apply W.run 20
   ·intro M
    simp (disch := first | decide +kernel | omega) only [c59, Tryz.f67, Aq, Nat.reduceEqDiff, h7, h1]
    with_reducible rfl
   apply W.run 20
   ·intro M
    simp (disch := first | decide +kernel | omega) only [c59, Tryz.f67, Aq, Nat.reduceEqDiff]
    with_reducible rfl
   refine ⟨.inr rfl, C, [.bool (decide (0 < z))], rfl, ?_, by rw [← heq, hu]; exact ⟨b, c, hm⟩, hK⟩
   simp only [Tryz.f67, resF, ev_tmp, T.get_set, Nat.reduceEqDiff, if_true, if_false, evG_some, R.ok_bind]
  have hi9 : i ≤ 90000 := by omega
  apply W.seq
  apply W.run 20
  ·intro M
   simp (disch := first | decide +kernel | omega) only [c59b1, c59, Tryz.f67, Aq, Nat.reduceEqDiff, g7]
   with_reducible rfl
  apply W.seq
  by_cases h1 : 2 * i + 1 < n
  ·have h1' : ¬ (n ≤ 2 * i + 1) := by omega
   have h1n : ¬ ((2 * i + 1 : Nat) < 0) := by omega
   apply W.run 20
   ·intro M
    simp (config := { maxSteps := 4000000 }) (disch := first | decide +kernel | omega | simp only [Wq, Nat.reduceEqDiff]) only [c59b1, c59, Tryz.f67, Aq, Nat.ble, reduceIte, Nat.reduceEqDiff, Nat.reduceAdd, g2, h1', h1n]
    with_reducible rfl
   apply W.seq
   apply W.run 20
   ·intro M
    simp (disch := first | decide +kernel | omega) only [c59b1, c59, Tryz.f67, Aq, Nat.reduceEqDiff]
    with_reducible rfl
   show W tb4 _ _ _
   have e1 : m[2 * i + 1]? = some (m[2 * i + 1]'(by omega)) := List.getElem?_eq_getElem (by omega)
   have hc := childL_lt (l := m) h1
   have ml := fun a b => m_less (a := a) (b := b) l0
   -- the child
   have step : ∀ t', Sl t' [(0, wV bw), (1, .int .i64 ((0 : Nat) : Int)), (2, .int .i64 ((n : Nat) : Int)), (7, .int .i64 ((i : Nat) : Int)), (8, .int .i64 ((2 * i + 1 : Nat) : Int)), (9, .int .i64 ((2 * i + 1 : Nat) : Int))] →
     W tb4 (sub c59b1 [0,1,1,1,0]) ⟨t', 48, [], C, none⟩ (fun e s' => ∃ t2, e = .nrm ∧ s' = ⟨t2, 48, [], C, none⟩ ∧ Sl t2 [(0, wV bw), (1, .int .i64 ((0 : Nat) : Int)), (2, .int .i64 ((n : Nat) : Int)), (7, .int .i64 ((i : Nat) : Int)), (9, .int .i64 ((childL m i n : Nat) : Int))]) := by
    rintro t' ⟨f0, f1, f2, f7, f8, f9, -⟩
    by_cases h2 : 2 * i + 2 < n
    ·have h2' : 2 * i + 1 + 1 < n := h2
     have e2 : m[2 * i + 2]? = some (m[2 * i + 2]'(by omega)) := List.getElem?_eq_getElem (by omega)
     obtain ⟨gl, hgl⟩ := run_wless hm.r (i := 2 * i + 1 + 1) e2 e1
     cases hless : lessB (m[2 * i + 1]'(by omega)) (m[2 * i + 2]'(by omega)) with
     | true =>
      have hch : childL m i n = 2 * i + 1 + 1 := by
       unfold childL
       rw [e1, e2]
       simp only
       rw [if_pos ⟨h2, hless⟩]
      rw [hless] at hgl
      apply W.runG (gl) 20
      ·intro M hM
       simp (config := { maxSteps := 4000000 }) (disch := first | decide +kernel | omega | simp only [Wq, Nat.reduceEqDiff]) only [c59b1, c59, Tryz.f67, Aq, Nat.ble, reduceIte, Nat.reduceEqDiff, Nat.reduceAdd, f0, f2, f8, h2', opF_invoke, ml, hgl]
       with_reducible rfl
      refine ⟨_, rfl, rfl, ?_⟩
      rw [hch]
      simp only [Sl_cons, Sl_nil, T.get_set, T.puts_cons, T.puts_nil, Nat.reduceEqDiff, Nat.reduceAdd, if_true, if_false, and_true, true_and, f0, f1, f2, f7]
     | false =>
      have hch : childL m i n = 2 * i + 1 := by
       unfold childL
       rw [e1, e2]
       simp only
       rw [if_neg (fun h => by rw [hless] at h; exact Bool.noConfusion h.2)]
      rw [hless] at hgl
      apply W.runG (gl) 20
      ·intro M hM
       simp (config := { maxSteps := 4000000 }) (disch := first | decide +kernel | omega | simp only [Wq, Nat.reduceEqDiff]) only [c59b1, c59, Tryz.f67, Aq, Nat.ble, reduceIte, Nat.reduceEqDiff, Nat.reduceAdd, f0, f2, f8, h2', opF_invoke, ml, hgl]
       with_reducible rfl
      refine ⟨_, rfl, rfl, ?_⟩
      rw [hch]
      simp only [Sl_cons, Sl_nil, T.get_set, T.puts_cons, T.puts_nil, Nat.reduceEqDiff, Nat.reduceAdd, if_true, if_false, and_true, true_and, f0, f1, f2, f7, f9]
    ·have h2' : ¬ 2 * i + 1 + 1 < n := h2
     have hch : childL m i n = 2 * i + 1 := by
      unfold childL
      split
      ·rw [if_neg (fun h => h2 h.1)]
      ·rfl
     apply W.run 20
     ·intro M
      simp (config := { maxSteps := 4000000 }) (disch := first | decide +kernel | omega | simp only [Wq, Nat.reduceEqDiff]) only [c59b1, c59, Tryz.f67, Aq, Nat.ble, reduceIte, Nat.reduceEqDiff, Nat.reduceAdd, f0, f2, f8, h2']
      with_reducible rfl
     refine ⟨_, rfl, rfl, ?_⟩
     rw [hch]
     simp only [Sl_cons, Sl_nil, T.get_set, T.puts_cons, T.puts_nil, Nat.reduceEqDiff, Nat.reduceAdd, if_true, if_false, and_true, true_and, f0, f1, f2, f7, f9]
   apply W.seq
   refine (step _ (by simp only [Sl_cons, Sl_nil, T.get_set, T.puts_cons, T.puts_nil, Nat.reduceEqDiff, Nat.reduceAdd, if_true, if_false, and_true, true_and, g0, g1, g2, g7])).mono ?_
   rintro e s' ⟨t2, rfl, rfl, f0, f1, f2, f7, f9, -⟩
   show W tb4 _ _ _
   have him : i < m.length := by omega
   have hcm : childL m i n < m.length := by omega
   have ex : m[i]? = some (m[i]'him) := List.getElem?_eq_getElem him
   have ey : m[childL m i n]? = some (m[childL m i n]'hcm) := List.getElem?_eq_getElem hcm
   have hst := downL_step h1 ex ey
   obtain ⟨gl, hgl⟩ := run_wless hm.r ey ex
   apply W.seq
   cases hless : lessB (m[i]'him) (m[childL m i n]'hcm) with
   | false =>
    rw [hless] at hgl hst
    apply W.runG (gl) 20
    ·intro M hM
     simp (disch := first | decide +kernel | omega) only [c59b1, c59, Tryz.f67, Aq, Nat.reduceEqDiff, f0, f7, f9, opF_invoke, ml, hgl]
     with_reducible rfl
    show W tb4 _ _ _
    exact fin _ (by rw [hst]; rfl) ⟨i, by simp only [T.get_set, Nat.reduceEqDiff, if_true, if_false]; exact f7⟩ (by simp only [T.get_set, Nat.reduceEqDiff, if_true, if_false]; exact f1)
   | true =>
    rw [hless, if_pos rfl] at hst
    rw [hless] at hgl
    have ms := fun a b => m_swap (a := a) (b := b) l0
    obtain ⟨C2, ⟨gs, hgs⟩, hp2, k2⟩ := hm.swap him hcm
    apply W.runG (gl) 20
    ·intro M hM
     simp (disch := first | decide +kernel | omega) only [c59b1, c59, Tryz.f67, Aq, Nat.reduceEqDiff, f0, f7, f9, opF_invoke, ml, hgl]
     with_reducible rfl
    apply W.seq
    apply W.runG (gs) 20
    ·intro M hM
     simp (disch := first | decide +kernel | omega) only [c59b1, c59, Tryz.f67, Aq, Nat.reduceEqDiff, f0, f7, f9, opF_invoke, ms, hgs]
     with_reducible rfl
    apply W.run 20
    ·intro M
     simp (disch := first | decide +kernel | omega) only [c59b1, c59, Tryz.f67, Aq, Nat.reduceEqDiff, f9]
     with_reducible rfl
    refine ⟨n - childL m i n, _, _, by omega, rfl, childL m i n, swapL m i (childL m i n), rfl, ⟨b, c, hp2⟩, by rw [swapL_len, hml], .inl hc.2, by rw [← heq, hst], hK.trans k2, ?_⟩
    simp only [Sl_cons, Sl_nil, T.get_set, T.puts_cons, T.puts_nil, Nat.reduceEqDiff, Nat.reduceAdd, if_true, if_false, and_true, true_and, f0, f1, f2]
  ·have h1' : n ≤ 2 * i + 1 := by omega
   apply W.run 20
   ·intro M
    simp (config := { maxSteps := 4000000 }) (disch := first | decide +kernel | omega | simp only [Wq, Nat.reduceEqDiff]) only [c59b1, c59, Tryz.f67, Aq, Nat.ble, reduceIte, Nat.reduceEqDiff, Nat.reduceAdd, g2, h1']
    with_reducible rfl
   show W tb4 _ _ _
   exact fin _ (downL_stop h1) ⟨i, by simp only [T.get_set, Nat.reduceEqDiff, if_true, if_false]; exact g7⟩ (by simp only [T.get_set, Nat.reduceEqDiff, if_true, if_false]; exact g1)
 ·simp only [Sl_cons, Sl_nil, T.get_set, T.puts_cons, T.puts_nil, Nat.reduceEqDiff, Nat.reduceAdd, if_true, if_false, and_true, true_and]
end Go.Proofs.YtnelkapmmgggdaaGreat.mdl

/-
 Model: container/heap over hits: Push and Pop, whole; Top.
-/
namespace Go.Proofs.YtnelkapmmgggdaaGreat.mdl
open Go.Am Go.Mdl
open Go.Proofs.YtnelkapmmgggdaaGreat.rnk (HitD hitC ordD lessB sortH ordK lessK hitC_len)
set_option linter.unusedSimpArgs false
set_option linter.unusedVariables false
set_option linter.unusedVariables false

theorem upL_len : ∀ (j : Nat) (l : List HitD), (upL l j).length = l.length := by
 intro j
 induction j using Nat.strongRecOn with
 | ind j ih =>
  intro l
  rw [upL]
  split
  ·rfl
  ·rename_i h
   split
   ·split
    ·rw [ih _ (by omega), swapL_len]
    ·rfl
   ·rfl
theorem downL_len (n : Nat) : ∀ (k i : Nat) (l : List HitD), n - i = k → (downL l i n).length = l.length := by
 intro k
 induction k using Nat.strongRecOn with
 | ind k ih =>
  intro i l hk
  rw [downL]
  split
  ·rename_i h
   split
   ·split
    ·have := childL_lt (l := l) h
     rw [ih (n - childL l i n) (by omega) _ _ rfl, swapL_len]
    ·rfl
   ·rfl
  ·rfl
def pushL (l : List HitD) (h : HitD) : List HitD := upL (l ++ [h]) l.length
def popL (l : List HitD) : List HitD := (downL (swapL l 0 (l.length - 1)) 0 (l.length - 1)).take (l.length - 1)
theorem pushL_len (l : List HitD) (h : HitD) : (pushL l h).length = l.length + 1 := by unfold pushL; rw [upL_len]; simp
theorem popL_len (l : List HitD) : (popL l).length = l.length - 1 := by unfold popL; rw [List.length_take, downL_len _ _ _ _ rfl, swapL_len]; omega
noncomputable def c47 : Code := Tryz.f50.body.getD .skip
theorem c47_eq : Tryz.f50.body = some (.seq (sub c47 [0]) (sub c47 [1])) := by kernel_rfl
theorem run_hpush {A : Mem} {lo bw : Nat} {l : List HitD} {h : HitD} (hp : Hp A lo bw l) (hl : l.length < 80000) :
  ∃ A', Ans tb4 50 [wV bw, .iface 73 (.agg ⟨hitC h⟩)] A (.tuple ⟨[]⟩) A' ∧ Hp A' lo bw (pushL l h) ∧ KL lo A A' := by
 obtain ⟨v, A', hg, rfl, h1, h2⟩ : ∃ v A', Ans tb4 50 [wV bw, .iface 73 (.agg ⟨hitC h⟩)] A v A' ∧ v = .tuple ⟨[]⟩ ∧ Hp A' lo bw (pushL l h) ∧ KL lo A A' := by
  refine ans_of_W (fn_at Tryz.func50) c47_eq (by rw [Tryz.ntmps50]; simp) (by kernel_rfl) (by kernel_rfl) ?_
  obtain ⟨B, ⟨g1, hg1⟩, hp1, k1⟩ := run_wpush (h := h) hp (by omega)
  have hll : (l ++ [h]).length = l.length + 1 := by simp
  have mp := fun a => m_push (g := A.get) (bw := bw) (a := a)
  apply W.seq
  apply W.runG (g1) 20
  ·intro M hM
   simp (disch := first | decide +kernel | omega) only [c47, Tryz.f50, Aq, Nat.reduceEqDiff, opF_invoke, mp, hg1]
   with_reducible rfl
  show W tb4 _ _ _
  obtain ⟨C, ⟨g2, hg2⟩, hp2, k2⟩ := run_up (j := l.length) hp1 (by rw [hll]; omega) (by rw [hll]; omega)
  obtain ⟨b, c, hpb⟩ := hp1
  have ml := m_len hpb.load
  rw [hll] at ml
  obtain ⟨g3, hg3⟩ := run_len (A := B) (b := some ⟨b, 0, none⟩) (n := l.length + 1) (c := c)
  apply W.runG ((g2+g3)) 20
  ·intro M hM
   simp (disch := first | decide +kernel | omega) only [c47, Tryz.f50, Aq, Nat.reduceEqDiff, opF_invoke, ml, hg3, Nat.add_sub_cancel, hg2]
   with_reducible rfl
  refine ⟨.inl rfl, C, [], rfl, ?_, rfl, hp2, k1.trans k2⟩
  simp only [Tryz.f50, resF, ev_tmp, T.get_set, Nat.reduceEqDiff, if_true, if_false, evG_some, R.ok_bind]
 exact ⟨A', hg, h1, h2⟩
noncomputable def c49 : Code := Tryz.f52.body.getD .skip
theorem c49_eq : Tryz.f52.body = some (.seq (sub c49 [0]) (.seq (sub c49 [1,0]) (.seq (sub c49 [1,1,0]) (.seq (sub c49 [1,1,1,0]) (.seq (sub c49 [1,1,1,1,0]) (sub c49 [1,1,1,1,1])))))) := by kernel_rfl
theorem run_hpop {A : Mem} {lo bw : Nat} {l : List HitD} (hp : Hp A lo bw l) (h0 : 0 < l.length) (hl : l.length < 80000) :
  ∃ v A', Ans tb4 52 [wV bw] A v A' ∧ Hp A' lo bw (popL l) ∧ KL lo A A' := by
 refine ans_of_W (fn_at Tryz.func52) c49_eq (by rw [Tryz.ntmps52]; simp) (by kernel_rfl) (by kernel_rfl) ?_
 obtain ⟨b, c, hpb⟩ := hp
 have ml := m_len hpb.load
 obtain ⟨g1, hg1⟩ := run_len (A := A) (b := some ⟨b, 0, none⟩) (n := l.length) (c := c)
 apply W.seq
 apply W.run 20
 ·intro M
  simp (disch := first | decide +kernel | omega) only [c49, Tryz.f52, Aq, Nat.reduceEqDiff, ev_nili]
  with_reducible rfl
 apply W.seq
 apply W.runG (g1) 20
 ·intro M hM
  simp (disch := first | decide +kernel | omega) only [c49, Tryz.f52, Aq, Nat.reduceEqDiff, opF_invoke, ml, hg1]
  with_reducible rfl
 show W tb4 _ _ _
 have ms := fun a b => m_swap (a := a) (b := b) hpb.load
 obtain ⟨B, ⟨g2, hg2⟩, hp1, k1⟩ := hpb.swap (i := 0) (j := l.length - 1) h0 (by omega)
 apply W.seq
 apply W.runG (g2) 20
 ·intro M hM
  simp (disch := first | decide +kernel | omega) only [c49, Tryz.f52, Aq, Nat.reduceEqDiff, opF_invoke, ms, hg2]
  with_reducible rfl
 show W tb4 _ _ _
 have hsl := swapL_len l 0 (l.length - 1)
 obtain ⟨v3, C, ⟨g3, hg3⟩, hp2, k2⟩ := run_down (n := l.length - 1) ⟨b, c, hp1⟩ (by rw [hsl]; omega) (by rw [hsl]; omega)
 apply W.seq
 apply W.runG (g3) 20
 ·intro M hM
  simp (disch := first | decide +kernel | omega) only [c49, Tryz.f52, Aq, Nat.reduceEqDiff, hg3]
  with_reducible rfl
 show W tb4 _ _ _
 have hdl := downL_len (l.length - 1) _ 0 (swapL l 0 (l.length - 1)) rfl
 obtain ⟨D, ⟨g4, hg4⟩, hp3, k3⟩ := run_wpop hp2 (by rw [hdl, hsl]; exact h0) (by rw [hdl, hsl]; omega)
 rw [hdl, hsl] at hp3
 have mp := m_pop (g := C.get) (bw := bw)
 generalize Value.iface 73 (.agg ⟨hitC _⟩) = vi at hg4
 apply W.seq
 apply W.runG (g4) 20
 ·intro M hM
  simp (disch := first | decide +kernel | omega) only [c49, Tryz.f52, Aq, Nat.reduceEqDiff, opF_invoke, mp, hg4]
  with_reducible rfl
 apply W.run 20
 ·intro M
  simp (disch := first | decide +kernel | omega) only [c49, Tryz.f52, Aq, Nat.reduceEqDiff]
  with_reducible rfl
 refine ⟨.inr rfl, D, [vi], rfl, ?_, hp3, (k1.trans k2).trans k3⟩
 simp only [Tryz.f52, resF, ev_tmp, T.get_set, Nat.reduceEqDiff, if_true, if_false, evG_some, R.ok_bind]
end Go.Proofs.YtnelkapmmgggdaaGreat.mdl

