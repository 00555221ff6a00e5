/-
  What the functions of this group compute on the abstract machine, and the plain laws of it. Part D: conditions stand in each theorem.
-/
import Derived.Test.YtnelkapmmgggdaaGreatMdzC

set_option maxHeartbeats 16000000
set_option maxRecDepth 20000
/-
 Model: the document's lists: one, With, Live; Is, Get, May.
-/
namespace Go.Proofs.YtnelkapmmgggdaaGreat.mdl
open Go.Am Go.Mdl
open Go.Proofs.YtnelkapmmgggdaaGreat.rnk (HitD hitC ordD lessB sortH ordK lessK hitC_len sortH_len)
set_option linter.unusedSimpArgs false
set_option linter.unusedVariables false
set_option linter.unusedVariables false

def EntO (A0 C : Mem) (b : Nat) (l : List EntD) (x : Value) : Prop := EntS C b l x ∧ Kp A0 C ∧ A0.next ≤ b
theorem EntO.nil (A0 C : Mem) (k : Kp A0 C) : EntO A0 C A0.next [] (.slice none 0 0) := ⟨.inl ⟨rfl, rfl⟩, k, Nat.le_refl _⟩
theorem EntO.kp {A0 C D : Mem} {b : Nat} {l : List EntD} {x : Value} (h : EntO A0 C b l x) (k : Kp C D) : EntO A0 D b l x := ⟨EntS.kp h.1 k, h.2.1.trans k, h.2.2⟩
theorem EntO.push {A0 C : Mem} {b : Nat} {l : List EntD} {x : Value} (h : EntO A0 C b l x) (e : EntD) (hl : l.length < 1000000) : ∃ x' C', appendF tb4 (C.alloc (rowOb 59 (entC e))) 24 24 x (.slice (some ⟨C.next, 0, none⟩) 1 2) = .ok (x', C') ∧ EntO A0 C' (C.next + 1) (l ++ [e]) x' := by
 obtain ⟨hs, hk, hb⟩ := h
 obtain ⟨ti, ht1, ht2, ht3⟩ := ty45'
 have hk2 := Kp.alloc C (rowOb 59 (entC e))
 have hn2 : (C.alloc (rowOb 59 (entC e))).next = C.next + 1 := next_alloc _ _
 have hlt : (l.map entC).length < 16777216 := by rw [List.length_map]; omega
 obtain ⟨x', F, happ, hs3, hn3, hf3⟩ := SlcM.append (tb := tb4) (st := 24) (xt := 24) (SlcM.same hs hk2.1 (fun hl => hk2.2 b hl)) und32' und32' zc45' ht1 ht2 ht3 (by omega) (by omega) hlt (get_alloc_self C _) rfl (entC_one e)
 have hk0 := hk.1
 refine ⟨x', F, happ, ?_, ⟨by omega, fun z hz => by rw [hf3 z (fun e => by omega) (by omega), hk2.2 z (by omega), hk.2 z hz]⟩, by omega⟩
 show SlcM F 59 3 _ ((l ++ [e]).map entC) x'
 rw [List.map_append, ← hn2]
 exact hs3
theorem EntS.fst {A : Mem} {b i : Nat} {l : List EntD} {x : Value} {e : EntD} (h : EntS A b l x) (he : l[i]? = some e) : loadF tb4 A.get 4 (.pointer (some ⟨b, i * 3 + 2, none⟩)) = .ok (.bool e.gone) :=
 SlcM.load h und4' rfl (by rw [List.getElem?_map, he]; rfl) (j := 2) rfl (by omega)
theorem fb2o {b o : Nat} : fieldAddrF tb4 59 (.pointer (some ⟨b, o, none⟩)) 2 = .ok (.pointer (some ⟨b, o + 2, none⟩)) := by kernel_rfl
theorem lssS (a b : List UInt8) : strOpF .lss a b = .ok (.bool (bytesLt a b)) := rfl
theorem gtrS (a b : List UInt8) : strOpF .gtr a b = .ok (.bool (bytesLt b a)) := by
 show R.ok (Value.bool (!(bytesLt a b || bytesEq a b))) = _
 rw [gtr_lt]
noncomputable def v24 : Code := Tryz.f24.body.getD .skip
noncomputable def v24b1 : Code := sub v24 [1,1,0,1,0,0]
theorem v24_eq : Tryz.f24.body = some (.seq (sub v24 [0]) (.seq (sub v24 [1,0]) (.seq (.seq (sub v24 [1,1,0,0]) (.block 0 (.loop v24b1))) (.seq (sub v24 [1,1,1,0]) (sub v24 [1,1,1,1]))))) := by kernel_rfl
theorem v24b1_eq : v24b1 = .seq (.seq (sub v24b1 [0,0]) (sub v24b1 [0,1])) (.seq (.block 1 (.seq (sub v24b1 [1,0,0,0]) (sub v24b1 [1,0,0,1]))) (sub v24b1 [1,1])) := by kernel_rfl
theorem live_snoc (l : List EntD) (e : EntD) : Go.Mdl.live (l ++ [e]) = if e.gone = true then Go.Mdl.live l else Go.Mdl.live l ++ [e] := by
 unfold Go.Mdl.live
 rw [List.filter_append]
 cases h : e.gone <;> simp [h]
theorem run_vlive {A : Mem} {l : List EntD} {x : Value} (h : EntE A l x) (hl : l.length < 1000000) : ∃ v A', Ans tb4 24 [x] A v A' ∧ EntE A' (Go.Mdl.live l) v ∧ Kp A A' := by
 obtain ⟨bx, h⟩ := h
 refine ans_of_W (fn_at Tryz.func24) v24_eq (by rw [Tryz.ntmps24]; simp) (by kernel_rfl) (by kernel_rfl) ?_
 have hlen := EntS.lens h
 apply W.seq
 apply W.run 20
 ·intro M
  simp (disch := first | decide +kernel | omega) only [v24, Tryz.f24, Aq, Nat.reduceEqDiff]
  with_reducible rfl
 apply W.seq
 apply W.run 20
 ·intro M
  simp (disch := first | decide +kernel | omega) only [v24, Tryz.f24, Aq, Nat.reduceEqDiff]
  with_reducible rfl
 apply W.seq
 apply W.seq
 apply W.run 20
 ·intro M
  simp (disch := first | decide +kernel | omega) only [v24, Tryz.f24, Aq, Nat.reduceEqDiff]
  with_reducible rfl
 apply W.block
 refine W.up l.length (fun i t C => ∃ b y, EntO A C b (Go.Mdl.live (l.take i)) y ∧ Sl t [(0, x), (3, y), (4, .int .i64 (i : Int))]) ?_ (Nat.zero_le _) ⟨_, _, EntO.nil A A (Kp.refl _), ?_⟩
 ·rintro i t C hi ⟨b, y, hO, g0, g3, g4, -⟩
  rw [v24b1_eq]
  apply W.seq
  apply W.seq
  by_cases hlt : i < l.length
  ·have he : l[i]? = some l[i] := List.getElem?_eq_getElem hlt
   have hxC := EntS.kp h hO.2.1
   obtain ⟨i1, i2⟩ := EntS.at hxC he
   have ig := EntS.fst hxC he
   have htk : Go.Mdl.live (l.take (i + 1)) = if (l[i]).gone = true then Go.Mdl.live (l.take i) else Go.Mdl.live (l.take i) ++ [l[i]] := by rw [List.take_succ_eq_append_getElem hlt, live_snoc]
   have hll := live_le (l.take i)
   rw [List.length_take] at hll
   apply W.run 20
   ·intro M
    simp (disch := first | decide +kernel | omega) only [v24b1, v24, Tryz.f24, Aq, Nat.reduceEqDiff, g0, g4, hlen, hlt]
    with_reducible rfl
   apply W.run 20
   ·intro M
    simp (disch := first | decide +kernel | omega) only [v24b1, v24, Tryz.f24, Aq, Nat.reduceEqDiff]
    with_reducible rfl
   apply W.seq
   apply W.block
   apply W.seq
   cases hgn : (l[i]).gone with
   | true =>
    rw [hgn] at ig
    rw [if_pos hgn] at htk
    apply W.run 20
    ·intro M
     simp (disch := first | decide +kernel | omega) only [v24b1, v24, Tryz.f24, Aq, Nat.reduceEqDiff, g0, g4, i1, fb2o, ig]
     with_reducible rfl
    apply W.run 20
    ·intro M
     simp (disch := first | decide +kernel | omega) only [v24b1, v24, Tryz.f24, Aq, Nat.reduceEqDiff]
     with_reducible rfl
    apply W.run 20
    ·intro M
     simp (disch := first | decide +kernel | omega) only [v24b1, v24, Tryz.f24, Aq, Nat.reduceEqDiff, g4]
     with_reducible rfl
    refine ⟨hlt, _, _, rfl, b, y, by rw [htk]; exact hO, ?_⟩
    simp only [Sl_cons, Sl_nil, T.get_set, T.puts_cons, T.puts_nil, Nat.reduceEqDiff, Nat.reduceAdd, if_true, if_false, and_true, true_and, g0, g3]
   | false =>
    rw [hgn] at ig
    rw [if_neg (by rw [hgn]; decide)] at htk
    obtain ⟨y', D, happ, hO2⟩ := hO.push l[i] (by omega)
    apply W.run 20
    ·intro M
     simp (disch := first | decide +kernel | omega) only [v24b1, v24, Tryz.f24, Aq, Nat.reduceEqDiff, g0, g4, i1, fb2o, ig]
     with_reducible rfl
    apply W.run 20
    ·intro M
     simp (disch := first | decide +kernel | omega) only [v24b1, v24, Tryz.f24, Aq, Nat.reduceEqDiff, g0, g3, g4, i1, i2, bs45, at_slc, happ]
     with_reducible rfl
    apply W.run 20
    ·intro M
     simp (disch := first | decide +kernel | omega) only [v24b1, v24, Tryz.f24, Aq, Nat.reduceEqDiff, g4]
     with_reducible rfl
    refine ⟨hlt, _, _, rfl, _, y', by rw [htk]; exact hO2, ?_⟩
    simp only [Sl_cons, Sl_nil, T.get_set, T.puts_cons, T.puts_nil, Nat.reduceEqDiff, Nat.reduceAdd, if_true, if_false, and_true, true_and, g0]
  ·have hin : i = l.length := by omega
   subst hin
   rw [List.take_length] at hO
   apply W.run 20
   ·intro M
    simp (disch := first | decide +kernel | omega) only [v24b1, v24, Tryz.f24, Aq, Nat.reduceEqDiff, g0, g4, hlen]
    with_reducible rfl
   apply W.run 20
   ·intro M
    simp (disch := first | decide +kernel | omega) only [v24b1, v24, Tryz.f24, Aq, Nat.reduceEqDiff]
    with_reducible rfl
   apply W.seq
   apply W.run 20
   ·intro M
    simp (disch := first | decide +kernel | omega) only [v24, Tryz.f24, Aq, Nat.reduceEqDiff, g3]
    with_reducible rfl
   apply W.run 20
   ·intro M
    simp (disch := first | decide +kernel | omega) only [v24, Tryz.f24, Aq, Nat.reduceEqDiff]
    with_reducible rfl
   refine ⟨.inr rfl, C, [y], rfl, ?_, ⟨b, hO.1⟩, hO.2.1⟩
   simp only [Tryz.f24, resF, ev_tmp, T.get_set, Nat.reduceEqDiff, if_true, if_false, evG_some, R.ok_bind]
 ·simp only [Sl_cons, Sl_nil, T.get_set, T.puts_cons, T.puts_nil, Nat.reduceEqDiff, Nat.reduceAdd, if_true, if_false, and_true, true_and]
theorem one_split {e : EntD} : ∀ {l : List EntD}, Asc l → oneL e l = l.takeWhile (fun y => bytesLt y.word e.word) ++ e :: l.filter (fun y => bytesLt e.word y.word)
 | [], _ => rfl
 | x :: l, h => by
  have hx := h.1
  unfold oneL
  by_cases h1 : lt x.word e.word
  ·have h2 : bytesLt e.word x.word = false := by
    cases hq : bytesLt e.word x.word with
    | false => rfl
    | true => exact absurd (lt_tr h1 hq) (lt_irr _)
   rw [if_pos h1, one_split h.2, List.takeWhile_cons, if_pos h1, List.filter_cons, h2]
   rfl
  ·have htw : (x :: l).takeWhile (fun y => bytesLt y.word e.word) = [] := by rw [List.takeWhile_cons, if_neg h1]
   rw [if_neg h1, htw]
   by_cases h3 : x.word = e.word
   ·rw [if_pos h3, List.filter_cons, ← h3, if_neg (by rw [bytesLt_irr]; simp)]
    rw [List.filter_eq_self.2 (fun y hy => hx y hy)]
    rfl
   ·have h4 : lt e.word x.word := Classical.byContradiction fun hn => h3 (lt_tri h1 hn)
    rw [if_neg h3, List.filter_cons, if_pos h4, List.filter_eq_self.2 (fun y hy => lt_tr h4 (hx y hy))]
    rfl
theorem tw_exit {p : EntD → Bool} : ∀ {l : List EntD} {i : Nat}, (∀ y ∈ l.take i, p y = true) → (∀ e, l[i]? = some e → p e = false) → l.takeWhile p = l.take i
 | [], i, _, _ => by simp
 | x :: l, 0, _, h => by
  rw [List.takeWhile_cons, h x rfl]
  simp
 | x :: l, i + 1, h1, h2 => by
  rw [List.takeWhile_cons, if_pos (h1 x (by simp)), List.take_succ_cons, tw_exit (i := i) (fun y hy => h1 y (by simp [hy])) (fun e he => h2 e (by simpa using he))]
noncomputable def o43 : Code := Tryz.f43.body.getD .skip
noncomputable def o43b1 : Code := sub o43 [1,1,0,1,0,0]
noncomputable def o43b2 : Code := sub o43 [1,1,1,1,0,1,0,0]
theorem o43_eq : Tryz.f43.body = some (.seq (sub o43 [0]) (.seq (sub o43 [1,0]) (.seq (.seq (sub o43 [1,1,0,0]) (.block 0 (.loop o43b1))) (.seq (sub o43 [1,1,1,0]) (.seq (.seq (sub o43 [1,1,1,1,0,0]) (.block 2 (.loop o43b2))) (.seq (sub o43 [1,1,1,1,1,0]) (sub o43 [1,1,1,1,1,1]))))))) := by kernel_rfl
theorem o43b1_eq : o43b1 = .seq (.seq (sub o43b1 [0,0]) (sub o43b1 [0,1])) (.seq (.block 1 (sub o43b1 [1,0,0])) (sub o43b1 [1,1])) := by kernel_rfl
theorem o43b2_eq : o43b2 = .seq (.seq (sub o43b2 [0,0]) (sub o43b2 [0,1])) (.seq (.block 3 (.seq (sub o43b2 [1,0,0,0]) (sub o43b2 [1,0,0,1]))) (sub o43b2 [1,1])) := by kernel_rfl
theorem run_rone {A : Mem} {l : List EntD} {x : Value} {e : EntD} (h : EntE A l x) (ha : Asc l) (hl : l.length < 400000) : ∃ v A', Ans tb4 43 [x, .agg ⟨entC e⟩] A v A' ∧ EntE A' (oneL (norm e) l) v ∧ Kp A A' := by
 obtain ⟨bx, h⟩ := h
 refine ans_of_W (fn_at Tryz.func43) o43_eq (by rw [Tryz.ntmps43]; simp) (by kernel_rfl) (by kernel_rfl) ?_
 have hwn : (norm e).word = e.word := by unfold norm; split <;> rfl
 have hlen := EntS.lens h
 obtain ⟨d45, hd1, hd2⟩ := und45'
 have k0 := Kp.alloc A (rowOb 59 (entC e))
 have v0 : Vals (A.alloc (rowOb 59 (entC e))) 59 A.next (.var 3) (entC e) := vals_puts (get_alloc_self _ _)
 have n0 : (A.alloc (rowOb 59 (entC e))).next = A.next + 1 := next_alloc _ _
 apply W.seq
 apply W.run 20
 ·intro M
  simp (disch := first | decide +kernel | omega) only [o43, Tryz.f43, Aq, Nat.reduceEqDiff, cells_agg]
  with_reducible rfl
 show W tb4 _ _ _
 generalize A.alloc (rowOb 59 (entC e)) = B at k0 v0 n0
 have hB := EntS.kp h k0
 have lwB : ∀ C, Kp B C → loadF tb4 C.get 9 (.pointer (some ⟨A.next, 0, none⟩)) = .ok (strOf e.word) := fun C k => load_vals und9' rfl (v0.same (k.2 _ (by omega))) rfl
 apply W.seq
 apply W.run 20
 ·intro M
  simp (disch := first | decide +kernel | omega) only [o43, Tryz.f43, Aq, Nat.reduceEqDiff]
  with_reducible rfl
 apply W.seq
 apply W.seq
 apply W.run 20
 ·intro M
  simp (disch := first | decide +kernel | omega) only [o43, Tryz.f43, Aq, Nat.reduceEqDiff]
  with_reducible rfl
 apply W.block
 have second : ∀ (t : T Value) (C : Mem) (b : Nat) (y : Value), EntO B C b (l.takeWhile (fun y => bytesLt y.word e.word)) y → Sl t [(0, x), (3, .pointer (some ⟨A.next, 0, none⟩)), (5, y)] →
   W tb4 (.seq (sub o43 [1,1,1,0]) (.seq (.seq (sub o43 [1,1,1,1,0,0]) (.block 2 (.loop o43b2))) (.seq (sub o43 [1,1,1,1,1,0]) (sub o43 [1,1,1,1,1,1])))) ⟨t, 58, [], C, none⟩ (fun e_1 s => (e_1 = .nrm ∨ e_1 = .ret) ∧ ∃ A' vs, takeF s.d s.m = .ok A' ∧ resF tb4 s.t A'.get Tryz.f43.results.toList = .ok vs ∧ EntE A' (oneL (norm e) l) (oneOf vs) ∧ Kp A A') := by
  rintro t C b y hO ⟨g0, g3, g5, -⟩
  have hlt1 : (l.takeWhile (fun y => bytesLt y.word e.word)).length ≤ l.length := (List.takeWhile_sublist _).length_le
  have le := load_all (tb := tb4) hd1 hd2 (l := entC e) size45' (v0.same (hO.2.1.2 _ (by omega)))
  obtain ⟨D, ⟨g, hg⟩, kD⟩ := run_bare (A := C) (e := e)
  obtain ⟨y', E, happ, hO2⟩ := (hO.kp kD).push (norm e) (by omega)
  apply W.seq
  apply W.runG (g) 20
  ·intro M hM
   simp (disch := first | decide +kernel | omega) only [o43, Tryz.f43, Aq, Nat.reduceEqDiff, g3, g5, le, hg, bs45, at_slc, happ]
   with_reducible rfl
  apply W.seq
  apply W.seq
  apply W.run 20
  ·intro M
   simp (disch := first | decide +kernel | omega) only [o43, Tryz.f43, Aq, Nat.reduceEqDiff]
   with_reducible rfl
  apply W.block
  refine W.up l.length (fun i t C => ∃ b y, EntO B C b ((l.takeWhile (fun y => bytesLt y.word e.word) ++ [norm e]) ++ (l.take i).filter (fun y => bytesLt e.word y.word)) y ∧ Sl t [(0, x), (3, .pointer (some ⟨A.next, 0, none⟩)), (5, y), (7, .int .i64 (i : Int))]) ?_ (Nat.zero_le _) ⟨_, y', by simpa using hO2, ?_⟩
  ·rintro i t C hi ⟨b, y, hO, g0, g3, g5, g7, -⟩
   have lw := lwB C hO.2.1
   rw [o43b2_eq]
   apply W.seq
   apply W.seq
   by_cases hlt : i < l.length
   ·have he : l[i]? = some l[i] := List.getElem?_eq_getElem hlt
    have hxC := EntS.kp hB hO.2.1
    obtain ⟨i1, i2⟩ := EntS.at hxC he
    have iw := EntS.word hxC he
    have hgs := gtrS (l[i]).word e.word
    apply W.run 20
    ·intro M
     simp (disch := first | decide +kernel | omega) only [o43b2, o43, Tryz.f43, Aq, Nat.reduceEqDiff, g0, g7, hlen, hlt]
     with_reducible rfl
    apply W.run 20
    ·intro M
     simp (disch := first | decide +kernel | omega) only [o43b2, o43, Tryz.f43, Aq, Nat.reduceEqDiff]
     with_reducible rfl
    apply W.seq
    apply W.block
    apply W.seq
    cases hc : bytesLt e.word (l[i]).word with
    | true =>
     rw [hc] at hgs
     have hfl : ((l.takeWhile (fun y => bytesLt y.word e.word) ++ [norm e]) ++ (l.take i).filter (fun y => bytesLt e.word y.word)).length < 1000000 := by
      have := List.length_filter_le (fun y : EntD => bytesLt e.word y.word) (l.take i)
      rw [List.length_take] at this
      simp only [List.length_append, List.length_cons, List.length_nil]
      omega
     have htk : (l.take (i + 1)).filter (fun y => bytesLt e.word y.word) = (l.take i).filter (fun y => bytesLt e.word y.word) ++ [l[i]] := by
      rw [List.take_succ_eq_append_getElem hlt, List.filter_append, List.filter_cons, if_pos hc]; rfl
     obtain ⟨y2, D2, happ2, hO3⟩ := hO.push l[i] hfl
     apply W.run 20
     ·intro M
      simp (disch := first | decide +kernel | omega) only [o43b2, o43, Tryz.f43, Aq, Nat.reduceEqDiff, g0, g3, g7, i1, fb0o, iw, fb0, lw, hgs]
      with_reducible rfl
     apply W.run 20
     ·intro M
      simp (disch := first | decide +kernel | omega) only [o43b2, o43, Tryz.f43, Aq, Nat.reduceEqDiff, g0, g5, g7, i1, i2, bs45, at_slc, happ2]
      with_reducible rfl
     apply W.run 20
     ·intro M
      simp (disch := first | decide +kernel | omega) only [o43b2, o43, Tryz.f43, Aq, Nat.reduceEqDiff, g7]
      with_reducible rfl
     refine ⟨hlt, _, _, rfl, _, y2, by rw [htk, ← List.append_assoc]; exact hO3, ?_⟩
     simp only [Sl_cons, Sl_nil, T.get_set, T.puts_cons, T.puts_nil, Nat.reduceEqDiff, Nat.reduceAdd, if_true, if_false, and_true, true_and, g0, g3]
    | false =>
     rw [hc] at hgs
     have htk : (l.take (i + 1)).filter (fun y => bytesLt e.word y.word) = (l.take i).filter (fun y => bytesLt e.word y.word) := by
      rw [List.take_succ_eq_append_getElem hlt, List.filter_append, List.filter_cons, if_neg (by rw [hc]; decide)]; simp
     apply W.run 20
     ·intro M
      simp (disch := first | decide +kernel | omega) only [o43b2, o43, Tryz.f43, Aq, Nat.reduceEqDiff, g0, g3, g7, i1, fb0o, iw, fb0, lw, hgs]
      with_reducible rfl
     apply W.run 20
     ·intro M
      simp (disch := first | decide +kernel | omega) only [o43b2, o43, Tryz.f43, Aq, Nat.reduceEqDiff]
      with_reducible rfl
     apply W.run 20
     ·intro M
      simp (disch := first | decide +kernel | omega) only [o43b2, o43, Tryz.f43, Aq, Nat.reduceEqDiff, g7]
      with_reducible rfl
     refine ⟨hlt, _, _, rfl, b, y, by rw [htk]; exact hO, ?_⟩
     simp only [Sl_cons, Sl_nil, T.get_set, T.puts_cons, T.puts_nil, Nat.reduceEqDiff, Nat.reduceAdd, if_true, if_false, and_true, true_and, g0, g3, g5]
   ·have hin : i = l.length := by omega
    subst hin
    rw [List.take_length] at hO
    apply W.run 20
    ·intro M
     simp (disch := first | decide +kernel | omega) only [o43b2, o43, Tryz.f43, Aq, Nat.reduceEqDiff, g0, g7, hlen]
     with_reducible rfl
    apply W.run 20
    ·intro M
     simp (disch := first | decide +kernel | omega) only [o43b2, o43, Tryz.f43, Aq, Nat.reduceEqDiff]
     with_reducible rfl
    apply W.seq
    apply W.run 20
    ·intro M
     simp (disch := first | decide +kernel | omega) only [o43, Tryz.f43, Aq, Nat.reduceEqDiff, g5]
     with_reducible rfl
    apply W.run 20
    ·intro M
     simp (disch := first | decide +kernel | omega) only [o43, Tryz.f43, Aq, Nat.reduceEqDiff]
     with_reducible rfl
    refine ⟨.inr rfl, C, [y], rfl, ?_, ⟨b, ?_⟩, k0.trans hO.2.1⟩
    ·simp only [Tryz.f43, resF, ev_tmp, T.get_set, Nat.reduceEqDiff, if_true, if_false, evG_some, R.ok_bind]
    ·rw [one_split ha, hwn]
     have := hO.1
     rw [List.append_assoc] at this
     exact this
  ·simp only [Sl_cons, Sl_nil, T.get_set, T.puts_cons, T.puts_nil, Nat.reduceEqDiff, Nat.reduceAdd, if_true, if_false, and_true, true_and, g0, g3]
 refine W.up l.length (fun i t C => (∀ y ∈ l.take i, bytesLt y.word e.word = true) ∧ ∃ b y, EntO B C b (l.take i) y ∧ Sl t [(0, x), (3, .pointer (some ⟨A.next, 0, none⟩)), (5, y), (6, .int .i64 (i : Int))]) ?_ (Nat.zero_le _) ⟨(fun y hy => by simp at hy), _, _, EntO.nil B B (Kp.refl _), ?_⟩
 ·rintro i t C hi ⟨hall, b, y, hO, g0, g3, g5, g6, -⟩
  have lw := lwB C hO.2.1
  rw [o43b1_eq]
  apply W.seq
  apply W.seq
  by_cases hlt : i < l.length
  ·have he : l[i]? = some l[i] := List.getElem?_eq_getElem hlt
   have hxC := EntS.kp hB hO.2.1
   obtain ⟨i1, i2⟩ := EntS.at hxC he
   have iw := EntS.word hxC he
   have hls := lssS (l[i]).word e.word
   cases hc : bytesLt (l[i]).word e.word with
   | true =>
    rw [hc] at hls
    have htk : l.take (i + 1) = l.take i ++ [l[i]] := List.take_succ_eq_append_getElem hlt
    obtain ⟨y2, D2, happ2, hO3⟩ := hO.push l[i] (by rw [List.length_take]; omega)
    apply W.run 20
    ·intro M
     simp (config := { maxSteps := 4000000 }) (disch := first | decide +kernel | omega | simp only [Wq, Nat.reduceEqDiff]) only [o43b1, o43, Tryz.f43, Aq, Nat.ble, reduceIte, Nat.reduceEqDiff, Nat.reduceAdd, g0, g3, g6, hlen, hlt, i1, fb0o, iw, fb0, lw, hls]
     with_reducible rfl
    apply W.run 20
    ·intro M
     simp (disch := first | decide +kernel | omega) only [o43b1, o43, Tryz.f43, Aq, Nat.reduceEqDiff]
     with_reducible rfl
    apply W.seq
    apply W.block
    apply W.run 20
    ·intro M
     simp (disch := first | decide +kernel | omega) only [o43b1, o43, Tryz.f43, Aq, Nat.reduceEqDiff, g0, g5, g6, i1, i2, bs45, at_slc, happ2]
     with_reducible rfl
    apply W.run 20
    ·intro M
     simp (disch := first | decide +kernel | omega) only [o43b1, o43, Tryz.f43, Aq, Nat.reduceEqDiff, g6]
     with_reducible rfl
    refine ⟨hlt, _, _, rfl, fun z hz => ?_, _, y2, by rw [htk]; exact hO3, ?_⟩
    ·rw [htk] at hz
     rcases List.mem_append.1 hz with hz | hz
     ·exact hall z hz
     ·rw [List.mem_singleton.1 hz]; exact hc
    ·simp only [Sl_cons, Sl_nil, T.get_set, T.puts_cons, T.puts_nil, Nat.reduceEqDiff, Nat.reduceAdd, if_true, if_false, and_true, true_and, g0, g3]
   | false =>
    rw [hc] at hls
    have htw : l.takeWhile (fun y => bytesLt y.word e.word) = l.take i := tw_exit hall (fun z hz => by rw [he] at hz; rw [← Option.some.inj hz]; exact hc)
    apply W.run 20
    ·intro M
     simp (config := { maxSteps := 4000000 }) (disch := first | decide +kernel | omega | simp only [Wq, Nat.reduceEqDiff]) only [o43b1, o43, Tryz.f43, Aq, Nat.ble, reduceIte, Nat.reduceEqDiff, Nat.reduceAdd, g0, g3, g6, hlen, hlt, i1, fb0o, iw, fb0, lw, hls]
     with_reducible rfl
    apply W.run 20
    ·intro M
     simp (disch := first | decide +kernel | omega) only [o43b1, o43, Tryz.f43, Aq, Nat.reduceEqDiff]
     with_reducible rfl
    refine second _ C b y (by rw [htw]; exact hO) ?_
    simp only [Sl_cons, Sl_nil, T.get_set, T.puts_cons, T.puts_nil, Nat.reduceEqDiff, Nat.reduceAdd, if_true, if_false, and_true, true_and, g0, g3, g5]
  ·have hin : i = l.length := by omega
   subst hin
   have htw : l.takeWhile (fun y => bytesLt y.word e.word) = l.take l.length := tw_exit hall (fun z hz => by rw [List.getElem?_eq_none (Nat.le_refl _)] at hz; cases hz)
   apply W.run 20
   ·intro M
    simp (config := { maxSteps := 4000000 }) (disch := first | decide +kernel | omega | simp only [Wq, Nat.reduceEqDiff]) only [o43b1, o43, Tryz.f43, Aq, Nat.ble, reduceIte, Nat.reduceEqDiff, Nat.reduceAdd, g0, g6, hlen]
    with_reducible rfl
   apply W.run 20
   ·intro M
    simp (disch := first | decide +kernel | omega) only [o43b1, o43, Tryz.f43, Aq, Nat.reduceEqDiff]
    with_reducible rfl
   refine second _ C b y (by rw [htw]; exact hO) ?_
   simp only [Sl_cons, Sl_nil, T.get_set, T.puts_cons, T.puts_nil, Nat.reduceEqDiff, Nat.reduceAdd, if_true, if_false, and_true, true_and, g0, g3, g5]
 ·simp only [Sl_cons, Sl_nil, T.get_set, T.puts_cons, T.puts_nil, Nat.reduceEqDiff, Nat.reduceAdd, if_true, if_false, and_true, true_and]
end Go.Proofs.YtnelkapmmgggdaaGreat.mdl

/-
 Model: the document's With, Is, Get, May, New, one, Update; the operations that are drawn.
-/
namespace Go.Proofs.YtnelkapmmgggdaaGreat.mdl
open Go.Am Go.Mdl
open Go.Proofs.YtnelkapmmgggdaaGreat.rnk (HitD hitC ordD lessB sortH ordK lessK hitC_len sortH_len)
set_option linter.unusedSimpArgs false
set_option linter.unusedVariables false
set_option linter.unusedVariables false

theorem withL_snoc (own more : List EntD) (e : EntD) : withL own (more ++ [e]) = oneL (norm e) (withL own more) := by
 unfold withL
 rw [List.foldl_append]; rfl
theorem ents_of1 {A : Mem} {e : EntD} : EntS (A.alloc (rowOb 59 (entC e))) A.next [e] (.slice (some ⟨A.next, 0, none⟩) 1 2) :=
 .inr ⟨.var 3, 2, rfl, by rw [next_alloc]; omega, vals_puts (get_alloc_self _ _), fun l hl => (by
  simp only [List.map_cons, List.map_nil, List.mem_singleton] at hl
  rw [hl]; rfl), .inl rfl⟩
noncomputable def w25 : Code := Tryz.f25.body.getD .skip
noncomputable def w25b1 : Code := sub w25 [1,1,0,1,0,0]
theorem w25_eq : Tryz.f25.body = some (.seq (sub w25 [0]) (.seq (sub w25 [1,0]) (.seq (.seq (sub w25 [1,1,0,0]) (.block 0 (.loop w25b1))) (.seq (sub w25 [1,1,1,0]) (sub w25 [1,1,1,1]))))) := by kernel_rfl
theorem w25b1_eq : w25b1 = .seq (.seq (sub w25b1 [0,0]) (sub w25b1 [0,1])) (.seq (.block 1 (sub w25b1 [1,0,0])) (sub w25b1 [1,1])) := by kernel_rfl
theorem run_rwith {A : Mem} {own more : List EntD} {x xm : Value} (h : EntE A own x) (hm : EntE A more xm) (ha : Asc own) (hl : own.length + more.length < 300000) : ∃ v A', Ans tb4 25 [x, xm] A v A' ∧ EntE A' (withL own more) v ∧ Kp A A' := by
 obtain ⟨bx, h⟩ := h
 obtain ⟨bm, hm⟩ := hm
 refine ans_of_W (fn_at Tryz.func25) w25_eq (by rw [Tryz.ntmps25]; simp) (by kernel_rfl) (by kernel_rfl) ?_
 have hlen := EntS.lens hm
 obtain ⟨y0, B, happ, hw0, hn0, -, hk0⟩ := app_nil h (by omega)
 have kB : Kp A B := ⟨hn0, hk0⟩
 apply W.seq
 apply W.run 20
 ·intro M
  simp (disch := first | decide +kernel | omega) only [w25, Tryz.f25, Aq, Nat.reduceEqDiff]
  with_reducible rfl
 apply W.seq
 apply W.run 20
 ·intro M
  simp (disch := first | decide +kernel | omega) only [w25, Tryz.f25, Aq, Nat.reduceEqDiff, happ]
  with_reducible rfl
 apply W.seq
 apply W.seq
 apply W.run 20
 ·intro M
  simp (disch := first | decide +kernel | omega) only [w25, Tryz.f25, Aq, Nat.reduceEqDiff]
  with_reducible rfl
 apply W.block
 refine W.up more.length (fun i t C => ∃ y, EntE C (withL own (more.take i)) y ∧ Kp A C ∧ Sl t [(1, xm), (5, y), (6, .int .i64 (i : Int))]) ?_ (Nat.zero_le _) ⟨y0, ⟨_, hw0.ents⟩, kB, ?_⟩
 ·rintro i t C hi ⟨y, hy, kC, g1, g5, g6, -⟩
  rw [w25b1_eq]
  apply W.seq
  apply W.seq
  by_cases hlt : i < more.length
  ·have he : more[i]? = some more[i] := List.getElem?_eq_getElem hlt
   obtain ⟨i1, i2⟩ := EntS.at (EntS.kp hm kC) he
   have hwl := withL_len (own := own) (more := more.take i) ha
   rw [List.length_take] at hwl
   obtain ⟨v, D, ⟨g, hg⟩, hv, kD⟩ := run_rone (e := more[i]) hy (withL_asc ha) (by omega)
   apply W.run 20
   ·intro M
    simp (disch := first | decide +kernel | omega) only [w25b1, w25, Tryz.f25, Aq, Nat.reduceEqDiff, g1, g6, hlen, hlt]
    with_reducible rfl
   apply W.run 20
   ·intro M
    simp (disch := first | decide +kernel | omega) only [w25b1, w25, Tryz.f25, Aq, Nat.reduceEqDiff]
    with_reducible rfl
   apply W.seq
   apply W.block
   apply W.runG (g) 20
   ·intro M hM
    simp (disch := first | decide +kernel | omega) only [w25b1, w25, Tryz.f25, Aq, Nat.reduceEqDiff, g1, g5, g6, i1, i2, hg]
    with_reducible rfl
   apply W.run 20
   ·intro M
    simp (disch := first | decide +kernel | omega) only [w25b1, w25, Tryz.f25, Aq, Nat.reduceEqDiff, g6]
    with_reducible rfl
   refine ⟨hlt, _, _, rfl, v, ?_, kC.trans kD, ?_⟩
   ·rw [List.take_succ_eq_append_getElem hlt, withL_snoc]; exact hv
   ·simp only [Sl_cons, Sl_nil, T.get_set, T.puts_cons, T.puts_nil, Nat.reduceEqDiff, Nat.reduceAdd, if_true, if_false, and_true, true_and, g1]
  ·have hin : i = more.length := by omega
   subst hin
   rw [List.take_length] at hy
   apply W.run 20
   ·intro M
    simp (disch := first | decide +kernel | omega) only [w25b1, w25, Tryz.f25, Aq, Nat.reduceEqDiff, g1, g6, hlen]
    with_reducible rfl
   apply W.run 20
   ·intro M
    simp (disch := first | decide +kernel | omega) only [w25b1, w25, Tryz.f25, Aq, Nat.reduceEqDiff]
    with_reducible rfl
   apply W.seq
   apply W.run 20
   ·intro M
    simp (disch := first | decide +kernel | omega) only [w25, Tryz.f25, Aq, Nat.reduceEqDiff, g5]
    with_reducible rfl
   apply W.run 20
   ·intro M
    simp (disch := first | decide +kernel | omega) only [w25, Tryz.f25, Aq, Nat.reduceEqDiff]
    with_reducible rfl
   refine ⟨.inr rfl, C, [y], rfl, ?_, hy, kC⟩
   simp only [Tryz.f25, resF, ev_tmp, T.get_set, Nat.reduceEqDiff, if_true, if_false, evG_some, R.ok_bind]
 ·simp only [Sl_cons, Sl_nil, T.get_set, T.puts_cons, T.puts_nil, Nat.reduceEqDiff, Nat.reduceAdd, if_true, if_false, and_true, true_and]
noncomputable def q34 : Code := Tryz.f34.body.getD .skip
theorem q34_eq : Tryz.f34.body = some (.seq (sub q34 [0]) (.seq (sub q34 [1,0]) (sub q34 [1,1]))) := by kernel_rfl
theorem run_ris {A : Mem} {w : List UInt8} : Ans tb4 34 [strOf w] A (.bool (okW w)) A := by
 obtain ⟨v, A', hg, rfl, rfl⟩ : ∃ v A', Ans tb4 34 [strOf w] A v A' ∧ v = .bool (okW w) ∧ A' = A := by
  refine ans_of_W (fn_at Tryz.func34) q34_eq (by rw [Tryz.ntmps34]; simp) (by kernel_rfl) (by kernel_rfl) ?_
  have hlen := len_str (tb := tb4) und9' (l := w)
  have fin : ∀ (p : Bool) (t : T Value), p = okW w → t.get 2 = some (.bool p) → W tb4 (sub q34 [1,1]) ⟨t, 11, [], A, none⟩ (fun e s => (e = .nrm ∨ e = .ret) ∧ ∃ A' vs, takeF s.d s.m = .ok A' ∧ resF tb4 s.t A'.get Tryz.f34.results.toList = .ok vs ∧ oneOf vs = .bool (okW w) ∧ A' = A) := by
   intro p t hp h2
   apply W.run 20
   ·intro M
    simp (disch := first | decide +kernel | omega) only [q34, Tryz.f34, Aq, Nat.reduceEqDiff]
    with_reducible rfl
   refine ⟨.inr rfl, A, [.bool p], rfl, ?_, by rw [hp]; rfl, rfl⟩
   simp only [Tryz.f34, resF, ev_tmp, h2, evG_some, R.ok_bind]
  apply W.seq
  apply W.run 20
  ·intro M
   simp (disch := first | decide +kernel | omega) only [q34, Tryz.f34, Aq, Nat.reduceEqDiff]
   with_reducible rfl
  apply W.seq
  by_cases h1 : 1 ≤ w.length
  ·by_cases h2 : w.length ≤ 255
   ·apply W.run 20
    ·intro M
     simp (config := { maxSteps := 4000000 }) (disch := first | decide +kernel | omega | simp only [Wq, Nat.reduceEqDiff]) only [q34, Tryz.f34, Aq, Nat.ble, reduceIte, Nat.reduceEqDiff, Nat.reduceAdd, hlen, h1, h2]
     with_reducible rfl
    refine fin true _ ?_ (by simp only [T.get_set, if_true])
    unfold okW; exact (decide_eq_true ⟨h1, h2⟩).symm
   ·apply W.run 20
    ·intro M
     simp (config := { maxSteps := 4000000 }) (disch := first | decide +kernel | omega | simp only [Wq, Nat.reduceEqDiff]) only [q34, Tryz.f34, Aq, Nat.ble, reduceIte, Nat.reduceEqDiff, Nat.reduceAdd, hlen, h1, h2]
     with_reducible rfl
    refine fin false _ ?_ (by simp only [T.get_set, if_true])
    unfold okW; exact (decide_eq_false fun h => h2 h.2).symm
  ·apply W.run 20
   ·intro M
    simp (config := { maxSteps := 4000000 }) (disch := first | decide +kernel | omega | simp only [Wq, Nat.reduceEqDiff]) only [q34, Tryz.f34, Aq, Nat.ble, reduceIte, Nat.reduceEqDiff, Nat.reduceAdd, hlen, h1]
    with_reducible rfl
   refine fin false _ ?_ (by simp only [T.get_set, if_true])
   unfold okW; exact (decide_eq_false fun h => h1 h.1).symm
 exact hg
noncomputable def g33 : Code := Tryz.f33.body.getD .skip
theorem g33_eq : Tryz.f33.body = some (.seq (sub g33 [0]) (.seq (sub g33 [1,0]) (.seq (sub g33 [1,1,0]) (sub g33 [1,1,1])))) := by kernel_rfl
theorem run_rget {A : Mem} {l : List EntD} {x : Value} {w : List UInt8} (h : EntE A l x) (hl : l.length < 1000000) : ∃ v A', Ans tb4 33 [x, strOf w] A v A' ∧ v = .tuple ⟨[.int .u32 (((find w l).getD zeroE).weight : Int), .bool (find w l).isSome]⟩ ∧ Kp A A' := by
 refine ans_of_W (fn_at Tryz.func33) g33_eq (by rw [Tryz.ntmps33]; simp) (by kernel_rfl) (by kernel_rfl) ?_
 obtain ⟨D, ⟨g, hg⟩, kD⟩ := run_rfind (w := w) h hl
 have z2 : Vals (D.alloc (rowOb 59 [.string .empty, .int .u32 0, .bool false])) 59 D.next (.var 3) [.string .empty, .int .u32 0, .bool false] := vals_puts (get_alloc_self _ _)
 obtain ⟨E, s2, v2, n2, e2⟩ := store_all (tb := tb4) (t := 59) (l := [.string .empty, .int .u32 0, .bool false]) (l' := entC ((find w l).getD zeroE)) size45' z2 rfl (by simp) (entC_one _)
 rw [next_alloc] at n2
 have kE : Kp A E := kD.trans ⟨by omega, fun z hz => by rw [e2 z (by omega), get_alloc_ne (by omega)]⟩
 have lwt : loadF tb4 E.get 41 (.pointer (some ⟨D.next, 1, none⟩)) = .ok (.int .u32 (((find w l).getD zeroE).weight : Int)) := load_vals und24' rfl v2 rfl
 apply W.seq
 apply W.run 20
 ·intro M
  simp (disch := first | decide +kernel | omega) only [g33, Tryz.f33, Aq, Nat.reduceEqDiff]
  with_reducible rfl
 apply W.seq
 apply W.runG (g) 20
 ·intro M hM
  simp (disch := first | decide +kernel | omega) only [g33, Tryz.f33, Aq, Nat.reduceEqDiff, hg, List.getElem?_cons_zero, List.getElem?_cons_succ, z45, cells_agg, s2]
  with_reducible rfl
 apply W.seq
 apply W.run 20
 ·intro M
  simp (disch := first | decide +kernel | omega) only [g33, Tryz.f33, Aq, Nat.reduceEqDiff, fb1', lwt]
  with_reducible rfl
 apply W.run 20
 ·intro M
  simp (disch := first | decide +kernel | omega) only [g33, Tryz.f33, Aq, Nat.reduceEqDiff]
  with_reducible rfl
 refine ⟨.inr rfl, E, [.int .u32 (((find w l).getD zeroE).weight : Int), .bool (find w l).isSome], rfl, ?_, rfl, kE⟩
 simp only [Tryz.f33, resF, ev_tmp, T.get_set, Nat.reduceEqDiff, if_true, if_false, evG_some, R.ok_bind]
def mayB (w : List UInt8) (k : Int) : Bool := decide (w.length ≤ 255 ∧ 0 ≤ k ∧ k ≤ 3)
noncomputable def y54 : Code := Tryz.f54.body.getD .skip
theorem y54_eq : Tryz.f54.body = some (.seq (sub y54 [0]) (.seq (sub y54 [1,0]) (sub y54 [1,1]))) := by kernel_rfl
theorem run_rmay {A : Mem} {w : List UInt8} {k : Int} : Ans tb4 54 [strOf w, .int .i64 k] A (.bool (mayB w k)) A := by
 obtain ⟨v, A', hg, rfl, rfl⟩ : ∃ v A', Ans tb4 54 [strOf w, .int .i64 k] A v A' ∧ v = .bool (mayB w k) ∧ A' = A := by
  refine ans_of_W (fn_at Tryz.func54) y54_eq (by rw [Tryz.ntmps54]; simp) (by kernel_rfl) (by kernel_rfl) ?_
  have hlen := len_str (tb := tb4) und9' (l := w)
  have fin : ∀ (p : Bool) (t : T Value), p = mayB w k → t.get 4 = some (.bool p) → W tb4 (sub y54 [1,1]) ⟨t, 16, [], A, none⟩ (fun e s => (e = .nrm ∨ e = .ret) ∧ ∃ A' vs, takeF s.d s.m = .ok A' ∧ resF tb4 s.t A'.get Tryz.f54.results.toList = .ok vs ∧ oneOf vs = .bool (mayB w k) ∧ A' = A) := by
   intro p t hp h2
   apply W.run 20
   ·intro M
    simp (disch := first | decide +kernel | omega) only [y54, Tryz.f54, Aq, Nat.reduceEqDiff]
    with_reducible rfl
   refine ⟨.inr rfl, A, [.bool p], rfl, ?_, by rw [hp]; rfl, rfl⟩
   simp only [Tryz.f54, resF, ev_tmp, h2, evG_some, R.ok_bind]
  apply W.seq
  apply W.run 20
  ·intro M
   simp (disch := first | decide +kernel | omega) only [y54, Tryz.f54, Aq, Nat.reduceEqDiff]
   with_reducible rfl
  apply W.seq
  by_cases h1 : w.length ≤ 255
  ·by_cases h2 : ((0 : Nat) : Int) ≤ k
   ·by_cases h3 : k ≤ ((3 : Nat) : Int)
    ·apply W.run 20
     ·intro M
      simp (config := { maxSteps := 4000000 }) (disch := first | decide +kernel | omega | simp only [Wq, Nat.reduceEqDiff]) only [y54, Tryz.f54, Aq, Nat.ble, reduceIte, Nat.reduceEqDiff, Nat.reduceAdd, hlen, h1, h2, h3]
      with_reducible rfl
     refine fin true _ ?_ (by simp only [T.get_set, if_true])
     unfold mayB; exact (decide_eq_true ⟨h1, h2, h3⟩).symm
    ·apply W.run 20
     ·intro M
      simp (config := { maxSteps := 4000000 }) (disch := first | decide +kernel | omega | simp only [Wq, Nat.reduceEqDiff]) only [y54, Tryz.f54, Aq, Nat.ble, reduceIte, Nat.reduceEqDiff, Nat.reduceAdd, hlen, h1, h2, h3]
      with_reducible rfl
     refine fin false _ ?_ (by simp only [T.get_set, if_true])
     unfold mayB; exact (decide_eq_false fun h => h3 h.2.2).symm
   ·apply W.run 20
    ·intro M
     simp (config := { maxSteps := 4000000 }) (disch := first | decide +kernel | omega | simp only [Wq, Nat.reduceEqDiff]) only [y54, Tryz.f54, Aq, Nat.ble, reduceIte, Nat.reduceEqDiff, Nat.reduceAdd, hlen, h1, h2]
     with_reducible rfl
    refine fin false _ ?_ (by simp only [T.get_set, if_true])
    unfold mayB; exact (decide_eq_false fun h => h2 h.2.1).symm
  ·apply W.run 20
   ·intro M
    simp (config := { maxSteps := 4000000 }) (disch := first | decide +kernel | omega | simp only [Wq, Nat.reduceEqDiff]) only [y54, Tryz.f54, Aq, Nat.ble, reduceIte, Nat.reduceEqDiff, Nat.reduceAdd, hlen, h1]
    with_reducible rfl
   refine fin false _ ?_ (by simp only [T.get_set, if_true])
   unfold mayB; exact (decide_eq_false fun h => h1 h.1).symm
 exact hg
def ModR (A : Mem) (q : Nat) (s : MdlS) : Prop := ∃ x, q < A.next ∧ Vals A 33 q (.var 3) [x, .bool s.bad, .bool s.closed] ∧ EntE A s.d x
noncomputable def n6 : Code := Tryz.f6.body.getD .skip
theorem n6_eq : Tryz.f6.body = some (.seq (sub n6 [0]) (.seq (sub n6 [1,0]) (sub n6 [1,1]))) := by kernel_rfl
theorem bld33 {x : Value} {A : Mem} {l : List EntD} (h : EntE A l x) : buildF tb4 33 [(0, x)] = .ok (.agg ⟨[x, .bool false, .bool false]⟩) := by
 obtain ⟨b, h⟩ := h
 rcases h with ⟨rfl, _⟩ | ⟨k, c, rfl, _⟩ <;> kernel_rfl
theorem run_rnew {A : Mem} {l : List EntD} {x : Value} (h : EntE A l x) (hl : l.length < 100000) : ∃ v A', Ans tb4 6 [x] A v A' ∧ ∃ q, v = .pointer (some ⟨q, 0, none⟩) ∧ ModR A' q ⟨newL l, false, false⟩ ∧ A.next ≤ q ∧ Kp A A' := by
 refine ans_of_W (fn_at Tryz.func6) n6_eq (by rw [Tryz.ntmps6]; simp) (by kernel_rfl) (by kernel_rfl) ?_
 obtain ⟨y1, B, ⟨g1, hg1⟩, h1, k1⟩ := run_rwith (own := []) (x := .slice none 0 0) ⟨0, .inl ⟨rfl, rfl⟩⟩ h trivial (by simp; omega)
 have hwl := withL_len (own := []) (more := l) trivial
 simp only [List.length_nil] at hwl
 obtain ⟨y2, C, ⟨g2, hg2⟩, h2, k2⟩ := run_vlive h1 (by omega)
 have hb := bld33 h2
 have kk := k1.trans k2
 have hkn := kk.1
 apply W.seq
 apply W.run 20
 ·intro M
  simp (disch := first | decide +kernel | omega) only [n6, Tryz.f6, Aq, Nat.reduceEqDiff, ev_nilptr]
  with_reducible rfl
 apply W.seq
 apply W.runG ((g1+g2)) 20
 ·intro M hM
  simp (disch := first | decide +kernel | omega) only [n6, Tryz.f6, Aq, Nat.reduceEqDiff, ev_nilslice, hg1, hg2, hb, cells_agg]
  with_reducible rfl
 apply W.run 20
 ·intro M
  simp (disch := first | decide +kernel | omega) only [n6, Tryz.f6, Aq, Nat.reduceEqDiff]
  with_reducible rfl
 refine ⟨.inr rfl, C.alloc (rowOb 33 [y2, .bool false, .bool false]), [.pointer (some ⟨C.next, 0, none⟩)], rfl, ?_, C.next, rfl, ⟨y2, by rw [next_alloc]; omega, vals_puts (get_alloc_self _ _), h2.kp (Kp.alloc _ _)⟩, hkn, kk.trans (Kp.alloc _ _)⟩
 simp only [Tryz.f6, resF, ev_tmp, T.get_set, Nat.reduceEqDiff, if_true, if_false, evG_some, R.ok_bind]
def updB (o : OpV) : Bool := decide (o.kind = 0 ∨ o.kind = 1 ∨ o.kind = 2)
noncomputable def u37 : Code := Tryz.f37.body.getD .skip
theorem u37_eq : Tryz.f37.body = some (.seq (sub u37 [0]) (.seq (sub u37 [1,0]) (sub u37 [1,1]))) := by kernel_rfl
theorem eqK (a : Int) (n : Nat) : intOpF .eql .i64 a ((n : Nat) : Int) = .ok (.bool (decide (a = (n : Int)))) := op_eqlI
theorem run_rupd {A : Mem} {o : OpV} : ∃ v A', Ans tb4 37 [.agg ⟨opC o⟩] A v A' ∧ v = .bool (updB o) ∧ Kp A A' := by
 refine ans_of_W (fn_at Tryz.func37) u37_eq (by rw [Tryz.ntmps37]; simp) (by kernel_rfl) (by kernel_rfl) ?_
 have k0 := Kp.alloc A (rowOb 47 (opC o))
 have v0 : VarO (A.alloc (rowOb 47 (opC o))) A.next o := ⟨by rw [next_alloc]; omega, vals_puts (get_alloc_self _ _)⟩
 have lk := v0.kind
 apply W.seq
 apply W.run 20
 ·intro M
  simp (disch := first | decide +kernel | omega) only [u37, Tryz.f37, Aq, Nat.reduceEqDiff, cells_agg]
  with_reducible rfl
 show W tb4 _ _ _
 generalize A.alloc (rowOb 47 (opC o)) = B at k0 v0 lk
 have fin : ∀ (p : Bool) (t : T Value), p = updB o → t.get 2 = some (.bool p) → W tb4 (sub u37 [1,1]) ⟨t, 16, [], B, none⟩ (fun e s => (e = .nrm ∨ e = .ret) ∧ ∃ A' vs, takeF s.d s.m = .ok A' ∧ resF tb4 s.t A'.get Tryz.f37.results.toList = .ok vs ∧ oneOf vs = .bool (updB o) ∧ Kp A A') := by
  intro p t hp h2
  apply W.run 20
  ·intro M
   simp (disch := first | decide +kernel | omega) only [u37, Tryz.f37, Aq, Nat.reduceEqDiff]
   with_reducible rfl
  refine ⟨.inr rfl, B, [.bool p], rfl, ?_, by rw [hp]; rfl, k0⟩
  simp only [Tryz.f37, resF, ev_tmp, h2, evG_some, R.ok_bind]
 apply W.seq
 by_cases h0 : o.kind = 0
 ·have e0 : intOpF .eql .i64 o.kind ((0 : Nat) : Int) = .ok (.bool true) := by rw [eqK, decide_eq_true (show o.kind = ((0 : Nat) : Int) from h0)]
  apply W.run 20
  ·intro M
   simp (config := { maxSteps := 4000000 }) (disch := first | decide +kernel | omega | simp only [Wq, Nat.reduceEqDiff]) only [u37, Tryz.f37, Aq, Nat.ble, reduceIte, Nat.reduceEqDiff, Nat.reduceAdd, f38_0, lk, e0]
   with_reducible rfl
  refine fin true _ ?_ (by simp only [T.get_set, if_true])
  unfold updB; exact (decide_eq_true (.inl h0)).symm
 ·have e0 : intOpF .eql .i64 o.kind ((0 : Nat) : Int) = .ok (.bool false) := by rw [eqK, decide_eq_false (show ¬ o.kind = ((0 : Nat) : Int) from h0)]
  by_cases h1 : o.kind = 1
  ·have e1 : intOpF .eql .i64 o.kind ((1 : Nat) : Int) = .ok (.bool true) := by rw [eqK, decide_eq_true (show o.kind = ((1 : Nat) : Int) from h1)]
   apply W.run 20
   ·intro M
    simp (config := { maxSteps := 4000000 }) (disch := first | decide +kernel | omega | simp only [Wq, Nat.reduceEqDiff]) only [u37, Tryz.f37, Aq, Nat.ble, reduceIte, Nat.reduceEqDiff, Nat.reduceAdd, f38_0, lk, e0, e1]
    with_reducible rfl
   refine fin true _ ?_ (by simp only [T.get_set, if_true])
   unfold updB; exact (decide_eq_true (.inr (.inl h1))).symm
  ·have e1 : intOpF .eql .i64 o.kind ((1 : Nat) : Int) = .ok (.bool false) := by rw [eqK, decide_eq_false (show ¬ o.kind = ((1 : Nat) : Int) from h1)]
   by_cases h2 : o.kind = 2
   ·have e2 : intOpF .eql .i64 o.kind ((2 : Nat) : Int) = .ok (.bool true) := by rw [eqK, decide_eq_true (show o.kind = ((2 : Nat) : Int) from h2)]
    apply W.run 20
    ·intro M
     simp (config := { maxSteps := 4000000 }) (disch := first | decide +kernel | omega | simp only [Wq, Nat.reduceEqDiff]) only [u37, Tryz.f37, Aq, Nat.ble, reduceIte, Nat.reduceEqDiff, Nat.reduceAdd, f38_0, lk, e0, e1, e2]
     with_reducible rfl
    refine fin true _ ?_ (by simp only [T.get_set, if_true])
    unfold updB; exact (decide_eq_true (.inr (.inr h2))).symm
   ·have e2 : intOpF .eql .i64 o.kind ((2 : Nat) : Int) = .ok (.bool false) := by rw [eqK, decide_eq_false (show ¬ o.kind = ((2 : Nat) : Int) from h2)]
    apply W.run 20
    ·intro M
     simp (config := { maxSteps := 4000000 }) (disch := first | decide +kernel | omega | simp only [Wq, Nat.reduceEqDiff]) only [u37, Tryz.f37, Aq, Nat.ble, reduceIte, Nat.reduceEqDiff, Nat.reduceAdd, f38_0, lk, e0, e1, e2]
     with_reducible rfl
    refine fin false _ ?_ (by simp only [T.get_set, if_true])
    unfold updB; exact (decide_eq_false fun h => by rcases h with h | h | h; exact h0 h; exact h1 h; exact h2 h).symm
end Go.Proofs.YtnelkapmmgggdaaGreat.mdl

/-
 Model: the document's one and Update; the operations that are drawn.
-/
namespace Go.Proofs.YtnelkapmmgggdaaGreat.mdl
open Go.Am Go.Mdl
open Go.Proofs.YtnelkapmmgggdaaGreat.rnk (HitD hitC ordD lessB sortH ordK lessK hitC_len sortH_len)
set_option linter.unusedSimpArgs false
set_option linter.unusedVariables false
set_option linter.unusedVariables false

theorem step_none {d : List EntD} {o : OpV} (h : updB o = false) : stepP d o = (d, 2) := by
 have h' := of_decide_eq_false h
 unfold stepP
 rw [if_neg (fun e => h' (.inl e)), if_neg (fun e => h' (.inr (.inl e))), if_neg (fun e => h' (.inr (.inr e)))]
theorem step_bad {d : List EntD} {o : OpV} (h : updB o = true) (hw : okW o.word = false) : stepP d o = (d, 7) := by
 have h' := of_decide_eq_true h
 unfold stepP putD
 rcases h' with h' | h' | h' <;> rw [h'] <;> simp [hw]
theorem step_twice {d : List EntD} {o : OpV} (h : o.kind = 0) (hw : okW o.word = true) (hf : (find o.word d).isSome = true) : stepP d o = (d, 8) := by
 unfold stepP putD
 rw [h]; simp [hw, hf]
theorem step_lack {d : List EntD} {o : OpV} (h : updB o = true) (h0 : o.kind ≠ 0) (hw : okW o.word = true) (hf : (find o.word d).isSome = false) : stepP d o = (d, 9) := by
 have h' := of_decide_eq_true h
 unfold stepP putD
 rcases h' with h' | h' | h'
 ·exact absurd h' h0
 ·rw [h']; simp [hw, hf]
 ·rw [h']; simp [hw, hf]
theorem step_done {d : List EntD} {o : OpV} (h : updB o = true) (hw : okW o.word = true) (hf : (find o.word d).isSome = !decide (o.kind = 0)) : stepP d o = (Go.Mdl.live (withL d [⟨o.word, o.weight, decide (o.kind = 1)⟩]), 0) := by
 have h' := of_decide_eq_true h
 unfold stepP putD
 rcases h' with h' | h' | h' <;> rw [h'] at hf ⊢ <;> simp at hf <;> simp [hw, hf]
noncomputable def v28 : Code := Tryz.f28.body.getD .skip
theorem v28_eq : Tryz.f28.body = some (.seq (sub v28 [0]) (.seq (.seq (sub v28 [1,0,0]) (sub v28 [1,0,1])) (.seq (.seq (sub v28 [1,1,0,0]) (sub v28 [1,1,0,1])) (.seq (sub v28 [1,1,1,0]) (.seq (.seq (sub v28 [1,1,1,1,0,0]) (sub v28 [1,1,1,1,0,1])) (.seq (.seq (sub v28 [1,1,1,1,1,0,0]) (sub v28 [1,1,1,1,1,0,1])) (.seq (sub v28 [1,1,1,1,1,1,0]) (.seq (sub v28 [1,1,1,1,1,1,1,0]) (sub v28 [1,1,1,1,1,1,1,1]))))))))) := by kernel_rfl
theorem run_r1 {A : Mem} {d : List EntD} {o : OpV} {x : Value} (h : EntE A d x) (ha : Asc d) (hl : d.length < 200000) : ∃ v A', Ans tb4 28 [x, .agg ⟨opC o⟩] A v A' ∧ ∃ y, v = .tuple ⟨[y, .int .i64 (((stepP d o).2 : Nat) : Int)]⟩ ∧ EntE A' (stepP d o).1 y ∧ Kp A A' := by
 refine ans_of_W (fn_at Tryz.func28) v28_eq (by rw [Tryz.ntmps28]; simp) (by kernel_rfl) (by kernel_rfl) ?_
 have k0 := Kp.alloc A (rowOb 47 (opC o))
 have v0 : VarO (A.alloc (rowOb 47 (opC o))) A.next o := ⟨by rw [next_alloc]; omega, vals_puts (get_alloc_self _ _)⟩
 apply W.seq
 apply W.run 20
 ·intro M
  simp (disch := first | decide +kernel | omega) only [v28, Tryz.f28, Aq, Nat.reduceEqDiff, cells_agg]
  with_reducible rfl
 show W tb4 _ _ _
 generalize A.alloc (rowOb 47 (opC o)) = B at k0 v0
 have lo := v0.all
 obtain ⟨vu, C, ⟨gu, hgu⟩, rfl, kC⟩ := run_rupd (A := B) (o := o)
 have kAC := k0.trans kC
 have vC := v0.kp kC
 have lw := vC.word
 have lk := vC.kind
 apply W.seq
 apply W.seq
 cases hu : updB o with
 | false =>
  rw [hu] at hgu
  rw [step_none hu]
  apply W.runG (gu) 20
  ·intro M hM
   simp (disch := first | decide +kernel | omega) only [v28, Tryz.f28, Aq, Nat.reduceEqDiff, lo, hgu]
   with_reducible rfl
  apply W.run 20
  ·intro M
   simp (disch := first | decide +kernel | omega) only [v28, Tryz.f28, Aq, Nat.reduceEqDiff]
   with_reducible rfl
  refine ⟨.inr rfl, C, [x, .int .i64 ((2 : Nat) : Int)], rfl, ?_, x, rfl, h.kp kAC, kAC⟩
  simp only [Tryz.f28, resF, ev_tmp, T.get_set, T.puts_cons, T.puts_nil, Nat.reduceEqDiff, Nat.reduceAdd, if_true, if_false, evG_some, R.ok_bind]
 | true =>
  rw [hu] at hgu
  apply W.runG (gu) 20
  ·intro M hM
   simp (disch := first | decide +kernel | omega) only [v28, Tryz.f28, Aq, Nat.reduceEqDiff, lo, hgu]
   with_reducible rfl
  apply W.run 20
  ·intro M
   simp (disch := first | decide +kernel | omega) only [v28, Tryz.f28, Aq, Nat.reduceEqDiff]
   with_reducible rfl
  apply W.seq
  apply W.seq
  obtain ⟨gi, hgi⟩ := run_ris (A := C) (w := o.word)
  cases hw : okW o.word with
  | false =>
   rw [hw] at hgi
   rw [step_bad hu hw]
   apply W.runG (gi) 20
   ·intro M hM
    simp (disch := first | decide +kernel | omega) only [v28, Tryz.f28, Aq, Nat.reduceEqDiff, f38_1, lw, hgi]
    with_reducible rfl
   apply W.run 20
   ·intro M
    simp (disch := first | decide +kernel | omega) only [v28, Tryz.f28, Aq, Nat.reduceEqDiff]
    with_reducible rfl
   refine ⟨.inr rfl, C, [x, .int .i64 ((7 : Nat) : Int)], rfl, ?_, x, rfl, h.kp kAC, kAC⟩
   simp only [Tryz.f28, resF, ev_tmp, T.get_set, T.puts_cons, T.puts_nil, Nat.reduceEqDiff, Nat.reduceAdd, if_true, if_false, evG_some, R.ok_bind]
  | true =>
   rw [hw] at hgi
   apply W.runG (gi) 20
   ·intro M hM
    simp (disch := first | decide +kernel | omega) only [v28, Tryz.f28, Aq, Nat.reduceEqDiff, f38_1, lw, hgi]
    with_reducible rfl
   apply W.run 20
   ·intro M
    simp (disch := first | decide +kernel | omega) only [v28, Tryz.f28, Aq, Nat.reduceEqDiff]
    with_reducible rfl
   show W tb4 _ _ _
   obtain ⟨D, ⟨g, hg⟩, kD⟩ := run_rfind (w := o.word) (h.kp kAC) (by omega)
   have z2 : Vals (D.alloc (rowOb 59 [.string .empty, .int .u32 0, .bool false])) 59 D.next (.var 3) [.string .empty, .int .u32 0, .bool false] := vals_puts (get_alloc_self _ _)
   obtain ⟨E, s2, v2, n2, e2⟩ := store_all (tb := tb4) (t := 59) (l := [.string .empty, .int .u32 0, .bool false]) (l' := entC ((find o.word d).getD zeroE)) size45' z2 rfl (by simp) (entC_one _)
   rw [next_alloc] at n2
   have kE : Kp C E := kD.trans ⟨by omega, fun z hz => by rw [e2 z (by omega), get_alloc_ne (by omega)]⟩
   have kAE := kAC.trans kE
   have vE := vC.kp kE
   have lkE := vE.kind
   have lwE := vE.word
   have ltE := vE.weight
   have hE := h.kp kAE
   apply W.seq
   apply W.runG (g) 20
   ·intro M hM
    simp (disch := first | decide +kernel | omega) only [v28, Tryz.f28, Aq, Nat.reduceEqDiff, f38_1, lw, hg, List.getElem?_cons_zero, List.getElem?_cons_succ, z45, cells_agg, s2]
    with_reducible rfl
   apply W.seq
   apply W.seq
   -- what is laid
   have fin : (find o.word d).isSome = (!decide (o.kind = 0)) → ∀ t : T Value, Sl t [(0, x), (3, .pointer (some ⟨A.next, 0, none⟩))] → W tb4 (.seq (sub v28 [1,1,1,1,1,1,0]) (.seq (sub v28 [1,1,1,1,1,1,1,0]) (sub v28 [1,1,1,1,1,1,1,1]))) ⟨t, 53, [], E, none⟩ (fun e s => (e = .nrm ∨ e = .ret) ∧ ∃ A' vs, takeF s.d s.m = .ok A' ∧ resF tb4 s.t A'.get Tryz.f28.results.toList = .ok vs ∧ ∃ y, oneOf vs = .tuple ⟨[y, .int .i64 (((stepP d o).2 : Nat) : Int)]⟩ ∧ EntE A' (stepP d o).1 y ∧ Kp A A') := by
    rintro hf t ⟨g0, g3, -⟩
    rw [step_done hu hw hf]
    have hk1 := eqK o.kind 1
    obtain ⟨gn, hgn⟩ : ∃ gn, decide (o.kind = ((1 : Nat) : Int)) = gn := ⟨_, rfl⟩
    rw [hgn] at hk1
    have hgn' : decide (o.kind = 1) = gn := hgn
    rw [hgn']
    have z3 : Vals (E.alloc (rowOb 59 [.string .empty, .int .u32 0, .bool false])) 59 E.next (.var 3) [.string .empty, .int .u32 0, .bool false] := vals_puts (get_alloc_self _ _)
    obtain ⟨F, s3, v3, n3, e3⟩ := store_all (tb := tb4) (t := 59) (l := [.string .empty, .int .u32 0, .bool false]) (l' := entC ⟨o.word, o.weight, gn⟩) size45' z3 rfl (by simp) (entC_one _)
    rw [next_alloc] at n3
    have kF : Kp E F := ⟨by omega, fun z hz => by rw [e3 z (by omega), get_alloc_ne (by omega)]⟩
    obtain ⟨d45, hd1, hd2⟩ := und45'
    have le := load_all (tb := tb4) hd1 hd2 (l := entC ⟨o.word, o.weight, gn⟩) size45' v3
    have kG := Kp.alloc F (rowOb 59 (entC ⟨o.word, o.weight, gn⟩))
    obtain ⟨y1, G, ⟨g1, hg1⟩, h1, k1⟩ := run_rwith ((hE.kp kF).kp kG) ⟨_, ents_of1⟩ ha (by simp only [List.length_cons, List.length_nil]; omega)
    have hwl := withL_len (own := d) (more := [⟨o.word, o.weight, gn⟩]) ha
    simp only [List.length_cons, List.length_nil] at hwl
    obtain ⟨y2, H, ⟨g2, hg2⟩, h2, k2⟩ := run_vlive h1 (by omega)
    apply W.seq
    apply W.run 20
    ·intro M
     simp (disch := first | decide +kernel | omega) only [v28, Tryz.f28, Aq, Nat.reduceEqDiff, g3, f38_0, f38_1, f38_2, lwE, ltE, lkE, hk1, bld45, z45, cells_agg, s3]
     with_reducible rfl
    apply W.seq
    apply W.runG ((g1+g2)) 20
    ·intro M hM
     simp (disch := first | decide +kernel | omega) only [v28, Tryz.f28, Aq, Nat.reduceEqDiff, g0, le, bs45, at_slc, hg1, hg2]
     with_reducible rfl
    apply W.run 20
    ·intro M
     simp (disch := first | decide +kernel | omega) only [v28, Tryz.f28, Aq, Nat.reduceEqDiff]
     with_reducible rfl
    refine ⟨.inr rfl, H, [y2, .int .i64 ((0 : Nat) : Int)], rfl, ?_, y2, rfl, h2, (((kAE.trans kF).trans kG).trans k1).trans k2⟩
    simp only [Tryz.f28, resF, ev_tmp, T.get_set, T.puts_cons, T.puts_nil, Nat.reduceEqDiff, Nat.reduceAdd, if_true, if_false, evG_some, R.ok_bind]
   cases hf : (find o.word d).isSome with
   | true =>
    by_cases h0 : o.kind = 0
    ·have e0 : intOpF .eql .i64 o.kind ((0 : Nat) : Int) = .ok (.bool true) := by rw [eqK, decide_eq_true (show o.kind = ((0 : Nat) : Int) from h0)]
     rw [step_twice h0 hw hf]
     apply W.run 20
     ·intro M
      simp (config := { maxSteps := 4000000 }) (disch := first | decide +kernel | omega | simp only [Wq, Nat.reduceEqDiff]) only [v28, Tryz.f28, Aq, Nat.ble, reduceIte, Nat.reduceEqDiff, Nat.reduceAdd, hf, f38_0, lkE, e0]
      with_reducible rfl
     apply W.run 20
     ·intro M
      simp (disch := first | decide +kernel | omega) only [v28, Tryz.f28, Aq, Nat.reduceEqDiff]
      with_reducible rfl
     refine ⟨.inr rfl, E, [x, .int .i64 ((8 : Nat) : Int)], rfl, ?_, x, rfl, hE, kAE⟩
     simp only [Tryz.f28, resF, ev_tmp, T.get_set, T.puts_cons, T.puts_nil, Nat.reduceEqDiff, Nat.reduceAdd, if_true, if_false, evG_some, R.ok_bind]
    ·have e0 : intOpF .eql .i64 o.kind ((0 : Nat) : Int) = .ok (.bool false) := by rw [eqK, decide_eq_false (show ¬ o.kind = ((0 : Nat) : Int) from h0)]
     apply W.run 20
     ·intro M
      simp (config := { maxSteps := 4000000 }) (disch := first | decide +kernel | omega | simp only [Wq, Nat.reduceEqDiff]) only [v28, Tryz.f28, Aq, Nat.ble, reduceIte, Nat.reduceEqDiff, Nat.reduceAdd, hf, f38_0, lkE, e0]
      with_reducible rfl
     apply W.run 20
     ·intro M
      simp (disch := first | decide +kernel | omega) only [v28, Tryz.f28, Aq, Nat.reduceEqDiff]
      with_reducible rfl
     apply W.seq
     apply W.seq
     apply W.run 20
     ·intro M
      simp (config := { maxSteps := 4000000 }) (disch := first | decide +kernel | omega | simp only [Wq, Nat.reduceEqDiff]) only [v28, Tryz.f28, Aq, Nat.ble, reduceIte, Nat.reduceEqDiff, Nat.reduceAdd, hf]
      with_reducible rfl
     apply W.run 20
     ·intro M
      simp (disch := first | decide +kernel | omega) only [v28, Tryz.f28, Aq, Nat.reduceEqDiff]
      with_reducible rfl
     refine fin (by rw [hf, decide_eq_false h0]; rfl) _ ?_
     simp only [Sl_cons, Sl_nil, T.get_set, T.puts_cons, T.puts_nil, Nat.reduceEqDiff, Nat.reduceAdd, if_true, if_false, and_true, true_and]
   | false =>
    apply W.run 20
    ·intro M
     simp (config := { maxSteps := 4000000 }) (disch := first | decide +kernel | omega | simp only [Wq, Nat.reduceEqDiff]) only [v28, Tryz.f28, Aq, Nat.ble, reduceIte, Nat.reduceEqDiff, Nat.reduceAdd, hf]
     with_reducible rfl
    apply W.run 20
    ·intro M
     simp (disch := first | decide +kernel | omega) only [v28, Tryz.f28, Aq, Nat.reduceEqDiff]
     with_reducible rfl
    apply W.seq
    apply W.seq
    by_cases h0 : o.kind = 0
    ·have e0 : intOpF .neq .i64 o.kind ((0 : Nat) : Int) = .ok (.bool false) := by rw [op_neqI, decide_eq_false (fun h => h h0)]
     apply W.run 20
     ·intro M
      simp (config := { maxSteps := 4000000 }) (disch := first | decide +kernel | omega | simp only [Wq, Nat.reduceEqDiff]) only [v28, Tryz.f28, Aq, Nat.ble, reduceIte, Nat.reduceEqDiff, Nat.reduceAdd, hf, f38_0, lkE, e0]
      with_reducible rfl
     apply W.run 20
     ·intro M
      simp (disch := first | decide +kernel | omega) only [v28, Tryz.f28, Aq, Nat.reduceEqDiff]
      with_reducible rfl
     refine fin (by rw [hf, decide_eq_true h0]; rfl) _ ?_
     simp only [Sl_cons, Sl_nil, T.get_set, T.puts_cons, T.puts_nil, Nat.reduceEqDiff, Nat.reduceAdd, if_true, if_false, and_true, true_and]
    ·have e0 : intOpF .neq .i64 o.kind ((0 : Nat) : Int) = .ok (.bool true) := by rw [op_neqI, decide_eq_true (show o.kind ≠ ((0 : Nat) : Int) from h0)]
     rw [step_lack hu h0 hw hf]
     apply W.run 20
     ·intro M
      simp (config := { maxSteps := 4000000 }) (disch := first | decide +kernel | omega | simp only [Wq, Nat.reduceEqDiff]) only [v28, Tryz.f28, Aq, Nat.ble, reduceIte, Nat.reduceEqDiff, Nat.reduceAdd, hf, f38_0, lkE, e0]
      with_reducible rfl
     apply W.run 20
     ·intro M
      simp (disch := first | decide +kernel | omega) only [v28, Tryz.f28, Aq, Nat.reduceEqDiff]
      with_reducible rfl
     refine ⟨.inr rfl, E, [x, .int .i64 ((9 : Nat) : Int)], rfl, ?_, x, rfl, hE, kAE⟩
     simp only [Tryz.f28, resF, ev_tmp, T.get_set, T.puts_cons, T.puts_nil, Nat.reduceEqDiff, Nat.reduceAdd, if_true, if_false, evG_some, R.ok_bind]
noncomputable def v11 : Code := Tryz.f11.body.getD .skip
noncomputable def v11b1 : Code := sub v11 [1,1,0,1,0,0]
theorem v11_eq : Tryz.f11.body = some (.seq (sub v11 [0]) (.seq (sub v11 [1,0]) (.seq (.seq (sub v11 [1,1,0,0]) (.block 0 (.loop v11b1))) (.seq (sub v11 [1,1,1,0]) (sub v11 [1,1,1,1]))))) := by kernel_rfl
theorem v11b1_eq : v11b1 = .seq (.seq (sub v11b1 [0,0]) (sub v11b1 [0,1])) (.seq (.block 1 (.seq (sub v11b1 [1,0,0,0]) (.seq (.seq (sub v11b1 [1,0,0,1,0,0]) (sub v11b1 [1,0,0,1,0,1])) (sub v11b1 [1,0,0,1,1])))) (sub v11b1 [1,1])) := by kernel_rfl
theorem OpS.at {C : Mem} {l : List OpV} {o : OpV} {bo k : Nat} {xo : Value} (ho : OpS C bo l xo) (hk : l[k]? = some o) : indexAddrF tb4 34 xo (.int .i64 ((k : Nat) : Int)) = .ok (.pointer (some ⟨bo, k * 5, none⟩)) ∧ loadF tb4 C.get 47 (.pointer (some ⟨bo, k * 5, none⟩)) = .ok (.agg ⟨opC o⟩) := by
 obtain ⟨d38, hf1, hf2⟩ := und38
 exact ⟨ho.idx und70 size38 (by rw [List.length_map]; exact (List.getElem?_eq_some_iff.1 hk).1), ho.load_all hf1 hf2 size38 (by rw [List.getElem?_map, hk]; rfl)⟩
theorem run_rupdate {A : Mem} {d : List EntD} {l : List OpV} {x xo : Value} {bo : Nat} (h : EntE A d x) (ha : Asc d) (ho : OpS A bo l xo) (hl : d.length + l.length < 100000) :
  ∃ v A', Ans tb4 11 [x, xo] A v A' ∧ ∃ y, v = .tuple ⟨[y, .int .i64 (((runU l (d, 0)).2 : Nat) : Int)]⟩ ∧ EntE A' (runU l (d, 0)).1 y ∧ Kp A A' := by
 refine ans_of_W (fn_at Tryz.func11) v11_eq (by rw [Tryz.ntmps11]; simp) (by kernel_rfl) (by kernel_rfl) ?_
 have hlen := OpS.len ho
 apply W.seq
 apply W.run 20
 ·intro M
  simp (disch := first | decide +kernel | omega) only [v11, Tryz.f11, Aq, Nat.reduceEqDiff]
  with_reducible rfl
 apply W.seq
 apply W.run 20
 ·intro M
  simp (disch := first | decide +kernel | omega) only [v11, Tryz.f11, Aq, Nat.reduceEqDiff]
  with_reducible rfl
 apply W.seq
 apply W.seq
 apply W.run 20
 ·intro M
  simp (disch := first | decide +kernel | omega) only [v11, Tryz.f11, Aq, Nat.reduceEqDiff]
  with_reducible rfl
 apply W.block
 refine W.up l.length (fun k t C => ∃ d' f x', runU (l.drop k) (d', f) = runU l (d, 0) ∧ Asc d' ∧ d'.length ≤ d.length + k ∧ EntE C d' x' ∧ Kp A C ∧ Sl t [(0, x'), (1, xo), (6, .int .i64 ((f : Nat) : Int)), (7, .int .i64 (k : Int))]) ?_ (Nat.zero_le _) ⟨d, 0, x, rfl, ha, Nat.le_refl _, h, Kp.refl _, ?_⟩
 ·rintro k t C hk ⟨d', f, x', heq, has, hle, hE, hK, g0, g1, g6, g7, -⟩
  rw [v11b1_eq]
  apply W.seq
  apply W.seq
  by_cases hlt : k < l.length
  ·have hek : l[k]? = some l[k] := List.getElem?_eq_getElem hlt
   obtain ⟨i1, i2⟩ := OpS.at (OpS.kp ho hK) hek
   obtain ⟨v, D, ⟨g, hg⟩, y, rfl, hy, kD⟩ := run_r1 (o := l[k]) hE has (by omega)
   have hst := stepP_asc (o := l[k]) has
   have hnext : runU (l.drop (k + 1)) ((stepP d' l[k]).1, if f = 0 then (stepP d' l[k]).2 else f) = runU l (d, 0) := by
    rw [← heq, List.drop_eq_getElem_cons hlt]; rfl
   apply W.run 20
   ·intro M
    simp (disch := first | decide +kernel | omega) only [v11b1, v11, Tryz.f11, Aq, Nat.reduceEqDiff, g1, g7, hlen, hlt]
    with_reducible rfl
   apply W.run 20
   ·intro M
    simp (disch := first | decide +kernel | omega) only [v11b1, v11, Tryz.f11, Aq, Nat.reduceEqDiff]
    with_reducible rfl
   apply W.seq
   apply W.block
   apply W.seq
   apply W.runG (g) 20
   ·intro M hM
    simp (disch := first | decide +kernel | omega) only [v11b1, v11, Tryz.f11, Aq, Nat.reduceEqDiff, g0, g1, g7, i1, i2, hg, List.getElem?_cons_zero, List.getElem?_cons_succ]
    with_reducible rfl
   apply W.seq
   apply W.seq
   by_cases hf : f = 0
   ·subst hf
    rw [if_pos rfl] at hnext
    apply W.run 20
    ·intro M
     simp (disch := first | decide +kernel | omega) only [v11b1, v11, Tryz.f11, Aq, Nat.reduceEqDiff, g6]
     with_reducible rfl
    apply W.run 20
    ·intro M
     simp (disch := first | decide +kernel | omega) only [v11b1, v11, Tryz.f11, Aq, Nat.reduceEqDiff]
     with_reducible rfl
    apply W.run 20
    ·intro M
     simp (disch := first | decide +kernel | omega) only [v11b1, v11, Tryz.f11, Aq, Nat.reduceEqDiff]
     with_reducible rfl
    apply W.run 20
    ·intro M
     simp (disch := first | decide +kernel | omega) only [v11b1, v11, Tryz.f11, Aq, Nat.reduceEqDiff, g7]
     with_reducible rfl
    refine ⟨hlt, _, _, rfl, (stepP d' l[k]).1, (stepP d' l[k]).2, y, hnext, hst.1, by omega, hy, hK.trans kD, ?_⟩
    simp only [Sl_cons, Sl_nil, T.get_set, T.puts_cons, T.puts_nil, Nat.reduceEqDiff, Nat.reduceAdd, if_true, if_false, and_true, true_and, g1]
   ·rw [if_neg hf] at hnext
    apply W.run 20
    ·intro M
     simp (disch := first | decide +kernel | omega) only [v11b1, v11, Tryz.f11, Aq, Nat.reduceEqDiff, g6, hf]
     with_reducible rfl
    apply W.run 20
    ·intro M
     simp (disch := first | decide +kernel | omega) only [v11b1, v11, Tryz.f11, Aq, Nat.reduceEqDiff]
     with_reducible rfl
    apply W.run 20
    ·intro M
     simp (disch := first | decide +kernel | omega) only [v11b1, v11, Tryz.f11, Aq, Nat.reduceEqDiff]
     with_reducible rfl
    apply W.run 20
    ·intro M
     simp (disch := first | decide +kernel | omega) only [v11b1, v11, Tryz.f11, Aq, Nat.reduceEqDiff, g7]
     with_reducible rfl
    refine ⟨hlt, _, _, rfl, (stepP d' l[k]).1, f, y, hnext, hst.1, by omega, hy, hK.trans kD, ?_⟩
    simp only [Sl_cons, Sl_nil, T.get_set, T.puts_cons, T.puts_nil, Nat.reduceEqDiff, Nat.reduceAdd, if_true, if_false, and_true, true_and, g1, g6]
  ·have hkl : k = l.length := by omega
   rw [hkl, List.drop_length] at heq
   have heq' : runU l (d, 0) = (d', f) := heq.symm
   rw [heq']
   apply W.run 20
   ·intro M
    simp (disch := first | decide +kernel | omega) only [v11b1, v11, Tryz.f11, Aq, Nat.reduceEqDiff, g1, g7, hlen, hlt]
    with_reducible rfl
   apply W.run 20
   ·intro M
    simp (disch := first | decide +kernel | omega) only [v11b1, v11, Tryz.f11, Aq, Nat.reduceEqDiff]
    with_reducible rfl
   apply W.seq
   apply W.run 20
   ·intro M
    simp (disch := first | decide +kernel | omega) only [v11, Tryz.f11, Aq, Nat.reduceEqDiff, g0, g6]
    with_reducible rfl
   apply W.run 20
   ·intro M
    simp (disch := first | decide +kernel | omega) only [v11, Tryz.f11, Aq, Nat.reduceEqDiff]
    with_reducible rfl
   refine ⟨.inr rfl, C, [x', .int .i64 ((f : Nat) : Int)], rfl, ?_, x', rfl, hE, hK⟩
   simp only [Tryz.f11, resF, ev_tmp, T.get_set, Nat.reduceEqDiff, if_true, if_false, evG_some, R.ok_bind]
 ·simp only [Sl_cons, Sl_nil, T.get_set, T.puts_cons, T.puts_nil, Nat.reduceEqDiff, Nat.reduceAdd, if_true, if_false, and_true, true_and]
end Go.Proofs.YtnelkapmmgggdaaGreat.mdl

/-
 Model: the document's order of hits; its Sort, Top.
-/
namespace Go.Proofs.YtnelkapmmgggdaaGreat.mdl
open Go.Am Go.Mdl
open Go.Proofs.YtnelkapmmgggdaaGreat.rnk (HitD hitC ordD lessB sortH ordK lessK hitC_len sortH_len ltH lessB_iff ltH_irr ltH_tr ltH_tri)
set_option linter.unusedSimpArgs false
set_option linter.unusedVariables false
set_option linter.unusedVariables false

def lessR (x y : HitD) : Bool := if x.dist ≠ y.dist then decide (x.dist < y.dist) else if x.e.weight ≠ y.e.weight then decide (y.e.weight < x.e.weight) else if x.e.word ≠ y.e.word then bytesLt x.e.word y.e.word else (!x.e.gone && y.e.gone)
theorem lessR_eq (x y : HitD) : lessR x y = lessB x y := by
 rw [Bool.eq_iff_iff, lessB_iff]
 unfold lessR ltH
 by_cases h1 : x.dist = y.dist
 ·by_cases h2 : x.e.weight = y.e.weight
  ·by_cases h3 : x.e.word = y.e.word
   ·cases h4 : x.e.gone <;> cases h5 : y.e.gone <;> simp [h1, h2, h3, lt_irr]
   ·simp [h1, h2, h3]
  ·simp [h1, h2]
 ·simp [h1]
theorem h73_0 {b o : Nat} : fieldAddrF tb4 73 (.pointer (some ⟨b, o, none⟩)) 0 = .ok (.pointer (some ⟨b, o, none⟩)) := by kernel_rfl
theorem h73_1 {b o : Nat} : fieldAddrF tb4 73 (.pointer (some ⟨b, o, none⟩)) 1 = .ok (.pointer (some ⟨b, o + 3, none⟩)) := by kernel_rfl
theorem fb1o {b o : Nat} : fieldAddrF tb4 59 (.pointer (some ⟨b, o, none⟩)) 1 = .ok (.pointer (some ⟨b, o + 1, none⟩)) := by kernel_rfl
noncomputable def l82 : Code := Tryz.f82.body.getD .skip
theorem l82_eq : Tryz.f82.body = some (.seq (sub l82 [0]) (.seq (.seq (sub l82 [1,0,0]) (sub l82 [1,0,1])) (.seq (.seq (sub l82 [1,1,0,0]) (sub l82 [1,1,0,1])) (.seq (.seq (sub l82 [1,1,1,0,0]) (sub l82 [1,1,1,0,1])) (.seq (sub l82 [1,1,1,1,0]) (sub l82 [1,1,1,1,1])))))) := by kernel_rfl
theorem run_rless {A : Mem} {x y : HitD} : ∃ v A', Ans tb4 82 [.agg ⟨hitC x⟩, .agg ⟨hitC y⟩] A v A' ∧ v = .bool (lessB x y) ∧ Kp A A' := by
 rw [← lessR_eq]
 refine ans_of_W (fn_at Tryz.func82) l82_eq (by rw [Tryz.ntmps82]; simp) (by kernel_rfl) (by kernel_rfl) ?_
 have k0 : Kp A ((A.alloc (rowOb 73 (hitC x))).alloc (rowOb 73 (hitC y))) := (Kp.alloc _ _).trans (Kp.alloc _ _)
 have v1 : Vals ((A.alloc (rowOb 73 (hitC x))).alloc (rowOb 73 (hitC y))) 73 A.next (.var 4) (hitC x) := (vals_puts (get_alloc_self _ _)).same (get_alloc_ne (by rw [next_alloc]; omega))
 have v2 : Vals ((A.alloc (rowOb 73 (hitC x))).alloc (rowOb 73 (hitC y))) 73 (A.next + 1) (.var 4) (hitC y) := vals_puts (get_alloc_self _ _)
 apply W.seq
 apply W.run 20
 ·intro M
  simp (disch := first | decide +kernel | omega) only [l82, Tryz.f82, Aq, Nat.reduceEqDiff, cells_agg, next_alloc]
  with_reducible rfl
 show W tb4 _ _ _
 generalize (A.alloc (rowOb 73 (hitC x))).alloc (rowOb 73 (hitC y)) = B at k0 v1 v2
 have x0 : loadF tb4 B.get 9 (.pointer (some ⟨A.next, 0, none⟩)) = .ok (strOf x.e.word) := load_vals und9' rfl v1 rfl
 have x1 : loadF tb4 B.get 41 (.pointer (some ⟨A.next, 0 + 1, none⟩)) = .ok (.int .u32 (x.e.weight : Int)) := load_vals und24' rfl v1 rfl
 have x2 : loadF tb4 B.get 4 (.pointer (some ⟨A.next, 0 + 2, none⟩)) = .ok (.bool x.e.gone) := load_vals und4' rfl v1 rfl
 have x3 : loadF tb4 B.get 3 (.pointer (some ⟨A.next, 0 + 3, none⟩)) = .ok (.int .i64 (x.dist : Int)) := load_vals und3' rfl v1 rfl
 have y0 : loadF tb4 B.get 9 (.pointer (some ⟨A.next + 1, 0, none⟩)) = .ok (strOf y.e.word) := load_vals und9' rfl v2 rfl
 have y1 : loadF tb4 B.get 41 (.pointer (some ⟨A.next + 1, 0 + 1, none⟩)) = .ok (.int .u32 (y.e.weight : Int)) := load_vals und24' rfl v2 rfl
 have y2 : loadF tb4 B.get 4 (.pointer (some ⟨A.next + 1, 0 + 2, none⟩)) = .ok (.bool y.e.gone) := load_vals und4' rfl v2 rfl
 have y3 : loadF tb4 B.get 3 (.pointer (some ⟨A.next + 1, 0 + 3, none⟩)) = .ok (.int .i64 (y.dist : Int)) := load_vals und3' rfl v2 rfl
 apply W.seq
 apply W.seq
 by_cases h1 : x.dist = y.dist
 ·rw [h1] at x3
  apply W.run 20
  ·intro M
   simp (disch := first | decide +kernel | omega) only [l82, Tryz.f82, Aq, Nat.reduceEqDiff, h73_1, x3, y3]
   with_reducible rfl
  apply W.run 20
  ·intro M
   simp (disch := first | decide +kernel | omega) only [l82, Tryz.f82, Aq, Nat.reduceEqDiff]
   with_reducible rfl
  apply W.seq
  apply W.seq
  by_cases h2 : x.e.weight = y.e.weight
  ·rw [h2] at x1
   apply W.run 20
   ·intro M
    simp (disch := first | decide +kernel | omega) only [l82, Tryz.f82, Aq, Nat.reduceEqDiff, h73_0, fb1o, x1, y1]
    with_reducible rfl
   apply W.run 20
   ·intro M
    simp (disch := first | decide +kernel | omega) only [l82, Tryz.f82, Aq, Nat.reduceEqDiff]
    with_reducible rfl
   apply W.seq
   apply W.seq
   by_cases h3 : x.e.word = y.e.word
   ·rw [h3] at x0
    apply W.run 20
    ·intro M
     simp (disch := first | decide +kernel | omega) only [l82, Tryz.f82, Aq, Nat.reduceEqDiff, h73_0, fb0o, x0, y0]
     with_reducible rfl
    apply W.run 20
    ·intro M
     simp (disch := first | decide +kernel | omega) only [l82, Tryz.f82, Aq, Nat.reduceEqDiff]
     with_reducible rfl
    apply W.seq
    have hr : lessR x y = (!x.e.gone && y.e.gone) := by unfold lessR; rw [if_neg (fun h => h h1), if_neg (fun h => h h2), if_neg (fun h => h h3)]
    rw [hr]
    cases hg : x.e.gone with
    | true =>
     rw [hg] at x2
     apply W.run 20
     ·intro M
      simp (config := { maxSteps := 4000000 }) (disch := first | decide +kernel | omega | simp only [Wq, Nat.reduceEqDiff]) only [l82, Tryz.f82, Aq, Nat.ble, reduceIte, Nat.reduceEqDiff, Nat.reduceAdd, h73_0, fb2o, x2, y2]
      with_reducible rfl
     apply W.run 20
     ·intro M
      simp (disch := first | decide +kernel | omega) only [l82, Tryz.f82, Aq, Nat.reduceEqDiff]
      with_reducible rfl
     refine ⟨.inr rfl, B, [.bool false], rfl, ?_, rfl, k0⟩
     simp only [Tryz.f82, resF, ev_tmp, T.get_set, Nat.reduceEqDiff, if_true, if_false, evG_some, R.ok_bind]
    | false =>
     rw [hg] at x2
     apply W.run 20
     ·intro M
      simp (config := { maxSteps := 4000000 }) (disch := first | decide +kernel | omega | simp only [Wq, Nat.reduceEqDiff]) only [l82, Tryz.f82, Aq, Nat.ble, reduceIte, Nat.reduceEqDiff, Nat.reduceAdd, h73_0, fb2o, x2, y2]
      with_reducible rfl
     apply W.run 20
     ·intro M
      simp (disch := first | decide +kernel | omega) only [l82, Tryz.f82, Aq, Nat.reduceEqDiff]
      with_reducible rfl
     refine ⟨.inr rfl, B, [.bool y.e.gone], rfl, ?_, rfl, k0⟩
     simp only [Tryz.f82, resF, ev_tmp, T.get_set, Nat.reduceEqDiff, if_true, if_false, evG_some, R.ok_bind]
   ·have hr : lessR x y = bytesLt x.e.word y.e.word := by unfold lessR; rw [if_neg (fun h => h h1), if_neg (fun h => h h2), if_pos h3]
    rw [hr]
    have hls := lssS x.e.word y.e.word
    apply W.run 20
    ·intro M
     simp (disch := first | decide +kernel | omega) only [l82, Tryz.f82, Aq, Nat.reduceEqDiff, h73_0, fb0o, x0, y0, h3]
     with_reducible rfl
    apply W.run 20
    ·intro M
     simp (disch := first | decide +kernel | omega) only [l82, Tryz.f82, Aq, Nat.reduceEqDiff, h73_0, fb0o, x0, y0, hls]
     with_reducible rfl
    refine ⟨.inr rfl, B, [.bool (bytesLt x.e.word y.e.word)], rfl, ?_, rfl, k0⟩
    simp only [Tryz.f82, resF, ev_tmp, T.get_set, Nat.reduceEqDiff, if_true, if_false, evG_some, R.ok_bind]
  ·have hr : lessR x y = decide (y.e.weight < x.e.weight) := by unfold lessR; rw [if_neg (fun h => h h1), if_pos h2]
   rw [hr]
   apply W.run 20
   ·intro M
    simp (disch := first | decide +kernel | omega) only [l82, Tryz.f82, Aq, Nat.reduceEqDiff, h73_0, fb1o, x1, y1, h2]
    with_reducible rfl
   apply W.run 20
   ·intro M
    simp (disch := first | decide +kernel | omega) only [l82, Tryz.f82, Aq, Nat.reduceEqDiff, h73_0, fb1o, x1, y1]
    with_reducible rfl
   refine ⟨.inr rfl, B, [.bool (decide (y.e.weight < x.e.weight))], rfl, ?_, rfl, k0⟩
   simp only [Tryz.f82, resF, ev_tmp, T.get_set, Nat.reduceEqDiff, if_true, if_false, evG_some, R.ok_bind]
 ·have hr : lessR x y = decide (x.dist < y.dist) := by unfold lessR; rw [if_pos h1]
  rw [hr]
  apply W.run 20
  ·intro M
   simp (disch := first | decide +kernel | omega) only [l82, Tryz.f82, Aq, Nat.reduceEqDiff, h73_1, x3, y3, h1]
   with_reducible rfl
  apply W.run 20
  ·intro M
   simp (disch := first | decide +kernel | omega) only [l82, Tryz.f82, Aq, Nat.reduceEqDiff, h73_1, x3, y3]
   with_reducible rfl
  refine ⟨.inr rfl, B, [.bool (decide (x.dist < y.dist))], rfl, ?_, rfl, k0⟩
  simp only [Tryz.f82, resF, ev_tmp, T.get_set, Nat.reduceEqDiff, if_true, if_false, evG_some, R.ok_bind]
def SrtH (l : List HitD) : Prop := l.Pairwise fun a b => ge b a
theorem srt_uniq : ∀ {l m : List HitD}, l.Perm m → SrtH l → SrtH m → l = m
 | [], m, h, _, _ => by
  have := h.length_eq
  exact (List.length_eq_zero_iff.1 this.symm).symm
 | a :: l, [], h, _, _ => by
  have := h.length_eq
  simp at this
 | a :: l, b :: m, h, hl, hm => by
  have e : a = b := by
   have h1 : a ∈ b :: m := h.mem_iff.1 (List.mem_cons_self ..)
   have h2 : b ∈ a :: l := h.mem_iff.2 (List.mem_cons_self ..)
   rcases List.mem_cons.1 h1 with h1 | h1
   ·exact h1
   ·rcases List.mem_cons.1 h2 with h2 | h2
    ·exact h2.symm
    ·have g1 := (List.pairwise_cons.1 hm).1 a h1
     have g2 := (List.pairwise_cons.1 hl).1 b h2
     exact ltH_tri g1 g2
  subst e
  rw [srt_uniq h.cons_inv (List.pairwise_cons.1 hl).2 (List.pairwise_cons.1 hm).2]
theorem sortH_srt (l : List HitD) : SrtH (sortH l) := by
 have h := List.pairwise_mergeSort (le := fun x y : HitD => !lessB y x) (fun a b c h1 h2 => by
  have g1 : ge b a := lessB_f.1 (by simpa using h1)
  have g2 : ge c b := lessB_f.1 (by simpa using h2)
  have g3 : ge c a := ge_tr g2 g1
  simpa using lessB_f.2 g3) (fun a b => by
  cases h : lessB b a with
  | false => rfl
  | true =>
   have g : ltH b a := lessB_iff.1 h
   have : lessB a b = false := by
    cases h2 : lessB a b with
    | false => rfl
    | true => exact absurd (ltH_tr g (lessB_iff.1 h2)) (ltH_irr _)
   simp [this]) l
 refine h.imp fun {a b} hab => ?_
 exact lessB_f.1 (by simpa using hab)
theorem sortH_perm (l : List HitD) : (sortH l).Perm l := List.mergeSort_perm _ _
theorem top_eq {n : Int} {l : List HitD} (hn : 0 ≤ n) : topL n l = (sortH l).take (min n.toNat l.length) := by
 obtain ⟨rest, h1, h2, h3, h4⟩ := top_best (l := l) hn
 have hs : SrtH (topL n l ++ sortH rest) := by
  refine List.pairwise_append.2 ⟨sortH_srt _, sortH_srt _, fun y hy z hz => h4 y hy z ((sortH_perm rest).mem_iff.1 hz)⟩
 have hp : (topL n l ++ sortH rest).Perm (sortH l) := ((sortH_perm rest).append_left _).trans (h1.symm.trans (sortH_perm l).symm)
 have e := srt_uniq hp hs (sortH_srt l)
 have hlen := h1.length_eq
 rw [List.length_append] at hlen
 have hm : min n.toNat l.length = (topL n l).length := by
  by_cases hr : rest = []
  ·rw [hr, List.length_nil] at hlen
   omega
  ·have := h3 hr
   omega
 rw [← e, hm, List.take_left]
theorem srt_insert {a c : List HitD} {x : HitD} (h : SrtH (a ++ c)) (h1 : ∀ y ∈ c, ltH x y) (h2 : ∀ p, a.getLast? = some p → ¬ ltH x p) : SrtH (a ++ x :: c) := by
 obtain ⟨ha, hc, hac⟩ := List.pairwise_append.1 h
 refine List.pairwise_append.2 ⟨ha, List.pairwise_cons.2 ⟨fun y hy => ge_lt (h1 y hy), hc⟩, fun y hy z hz => ?_⟩
 rcases List.mem_cons.1 hz with rfl | hz
 ·rcases List.eq_nil_or_concat a with rfl | ⟨a', p, rfl⟩
  ·cases hy
  ·have hp : ¬ ltH z p := h2 p (by simp)
   rw [List.concat_eq_append] at hy ha
   rcases List.mem_append.1 hy with hy | hy
   ·have := (List.pairwise_append.1 ha).2.2 y hy p (by simp)
    exact ge_tr hp this
   ·rw [List.mem_singleton.1 hy]; exact hp
 ·exact hac y hy z hz
end Go.Proofs.YtnelkapmmgggdaaGreat.mdl

/-
 Model: the document's Sort and Top of hits.
-/
namespace Go.Proofs.YtnelkapmmgggdaaGreat.mdl
open Go.Am Go.Mdl
open Go.Proofs.YtnelkapmmgggdaaGreat.rnk (HitD hitC ordD lessB sortH ordK lessK hitC_len sortH_len ltH lessB_iff ltH_irr ltH_tr ltH_tri)
set_option linter.unusedSimpArgs false
set_option linter.unusedVariables false
set_option linter.unusedVariables false

def HitO (A0 C : Mem) (b : Nat) (l : List HitD) (x : Value) : Prop := HitS C b l x ∧ Kp A0 C ∧ A0.next ≤ b
theorem HitO.kp {A0 C D : Mem} {b : Nat} {l : List HitD} {x : Value} (h : HitO A0 C b l x) (k : Kp C D) : HitO A0 D b l x := ⟨HitS.kp h.1 k, h.2.1.trans k, h.2.2⟩
theorem HitO.push {A0 C : Mem} {b : Nat} {l : List HitD} {x : Value} (h : HitO A0 C b l x) (e : HitD) (hl : l.length < 1000000) : ∃ x' C', appendF tb4 (C.alloc (rowOb 73 (hitC e))) 42 42 x (.slice (some ⟨C.next, 0, none⟩) 1 2) = .ok (x', C') ∧ HitO A0 C' (C.next + 1) (l ++ [e]) x' := by
 obtain ⟨hs, hk, hb⟩ := h
 obtain ⟨ti, ht1, ht2, ht3⟩ := ty63
 have hk2 := Kp.alloc C (rowOb 73 (hitC e))
 have hn2 : (C.alloc (rowOb 73 (hitC e))).next = C.next + 1 := next_alloc _ _
 have hlt : (l.map hitC).length < 16777216 := by rw [List.length_map]; omega
 obtain ⟨x', F, happ, hs3, hn3, hf3⟩ := SlcM.append (tb := tb4) (st := 42) (xt := 42) (SlcM.same hs hk2.1 (fun hl => hk2.2 b hl)) und51 und51 zc63 ht1 ht2 ht3 (by omega) (by omega) hlt (get_alloc_self C _) rfl (hitC_one e)
 have hk0 := hk.1
 refine ⟨x', F, happ, ?_, ⟨by omega, fun z hz => by rw [hf3 z (fun e => by omega) (by omega), hk2.2 z (by omega), hk.2 z hz]⟩, by omega⟩
 show SlcM F 73 4 _ ((l ++ [e]).map hitC) x'
 rw [List.map_append, ← hn2]
 exact hs3
theorem HitO.put {A0 C : Mem} {b i : Nat} {l : List HitD} {x : Value} {e : HitD} (h : HitO A0 C b l x) (hi : i < l.length) :
  ∃ C', storeF tb4 C 73 (.pointer (some ⟨b, i * 4, none⟩)) (.agg ⟨hitC e⟩) = .ok C' ∧ HitO A0 C' b (l.set i e) x ∧ C'.next = C.next ∧ ∀ y, y ≠ b → C'.get y = C.get y := by
 obtain ⟨C', g1, g2, g3, g4⟩ := SlcM.store (tb := tb4) (t := 73) (l := hitC e) h.1 size63' (by omega) (by rw [List.length_map]; exact hi) rfl (hitC_one e)
 have h2 := h.2.2
 refine ⟨C', g1, ⟨?_, ⟨by have := h.2.1.1; omega, fun z hz => by rw [g4 z (by omega), h.2.1.2 z hz]⟩, h.2.2⟩, g3, g4⟩
 show SlcM C' 73 4 b ((l.set i e).map hitC) x
 rw [List.map_set]; exact g2
noncomputable def s71 : Code := Tryz.f71.body.getD .skip
noncomputable def s71b1 : Code := sub s71 [1,1,0,1,0,0]
noncomputable def s71b2 : Code := sub s71b1 [1,0,0,1,1,0,0]
theorem s71_eq : Tryz.f71.body = some (.seq (sub s71 [0]) (.seq (sub s71 [1,0]) (.seq (.seq (sub s71 [1,1,0,0]) (.block 0 (.loop s71b1))) (.seq (sub s71 [1,1,1,0]) (sub s71 [1,1,1,1]))))) := by kernel_rfl
theorem s71b1_eq : s71b1 = .seq (.seq (sub s71b1 [0,0]) (sub s71b1 [0,1])) (.seq (.block 1 (.seq (sub s71b1 [1,0,0,0]) (.seq (sub s71b1 [1,0,0,1,0]) (.block 2 (.loop s71b2))))) (sub s71b1 [1,1])) := by kernel_rfl
theorem s71b2_eq : s71b2 = .seq (.seq (sub s71b2 [0,0]) (sub s71b2 [0,1])) (.seq (.block 3 (.seq (sub s71b2 [1,0,0,0]) (.seq (sub s71b2 [1,0,0,1,0]) (sub s71b2 [1,0,0,1,1])))) (sub s71b2 [1,1])) := by kernel_rfl
theorem lessB_not {x y : HitD} (h : lessB x y = false) : ¬ ltH x y := fun g => by rw [lessB_iff.2 g] at h; cases h
theorem ins_loop {A0 : Mem} {m : List HitD} {r : HitD} {x1 : Value} {b1 i0 : Nat} {xl : Value} (hm : SrtH m) (hml : m.length < 900000) {t : T Value} {C : Mem} {K : Ex → St → Prop} (hO : HitO A0 C b1 (m ++ [r]) x1)
  (ht : Sl t [(0, xl), (3, x1), (4, .int .i64 (i0 : Int)), (5, .int .i64 (m.length : Int))])
  (hk : ∀ t' C' m', m'.Perm (m ++ [r]) → SrtH m' → HitO A0 C' b1 m' x1 → Sl t' [(0, xl), (3, x1), (4, .int .i64 (i0 : Int))] → K (.exit 2) ⟨t', 57, [], C', none⟩) : W tb4 (.loop s71b2) ⟨t, 57, [], C, none⟩ K := by
 refine W.up m.length (fun j t C => ∃ a c, m = a ++ c ∧ c.length = j ∧ (∀ y ∈ c, ltH r y) ∧ HitO A0 C b1 (a ++ r :: c) x1 ∧ Sl t [(0, xl), (3, x1), (4, .int .i64 (i0 : Int)), (5, .int .i64 (a.length : Int))]) ?_ (Nat.zero_le _) ⟨m, [], by simp, rfl, (fun y hy => by cases hy), hO, ht⟩
 rintro j t C hj ⟨a, c, hac, hcl, hlt, hO, g0, g3, g4, g5, -⟩
 have hlen := HitS.lens hO.1
 rw [s71b2_eq]
 apply W.seq
 apply W.seq
 rcases List.eq_nil_or_concat a with rfl | ⟨a', p, rfl⟩
 ·apply W.run 20
  ·intro M
   simp (config := { maxSteps := 4000000 }) (disch := first | decide +kernel | omega | simp only [Wq, Nat.reduceEqDiff]) only [s71b2, s71b1, s71, Tryz.f71, Aq, Nat.ble, reduceIte, Nat.reduceEqDiff, Nat.reduceAdd, g5, List.length_nil]
   with_reducible rfl
  apply W.run 20
  ·intro M
   simp (disch := first | decide +kernel | omega) only [s71b2, s71b1, s71, Tryz.f71, Aq, Nat.reduceEqDiff]
   with_reducible rfl
  refine hk _ C (r :: c) ?_ ?_ hO ?_
  ·rw [hac, List.nil_append]
   exact (List.perm_append_singleton r c).symm
  ·have := srt_insert (a := []) (c := c) (x := r) (by rw [← hac]; exact hm) hlt (fun p hp => by cases hp)
   exact this
  ·simp only [Sl_cons, Sl_nil, T.get_set, T.puts_cons, T.puts_nil, Nat.reduceEqDiff, Nat.reduceAdd, if_true, if_false, and_true, true_and, g0, g3, g4]
 ·rw [List.concat_eq_append] at hac hO g5
  have hal : (a' ++ [p]).length = a'.length + 1 := by simp
  have er : ((a' ++ [p]) ++ r :: c)[a'.length + 1]? = some r := by rw [List.getElem?_append_right (by rw [hal]; exact Nat.le_refl _), hal, Nat.sub_self]; rfl
  have ep : ((a' ++ [p]) ++ r :: c)[a'.length]? = some p := by rw [List.append_assoc, List.getElem?_append_right (Nat.le_refl _), Nat.sub_self]; rfl
  have hml2 : a'.length < 900000 := by
   have := congrArg List.length hac
   simp only [List.length_append, List.length_cons, List.length_nil] at this
   omega
  obtain ⟨r1, r2⟩ := HitS.at hO.1 er
  obtain ⟨p1, p2⟩ := HitS.at hO.1 ep
  obtain ⟨v, D, ⟨g, hg⟩, rfl, kD⟩ := run_rless (A := C) (x := r) (y := p)
  have hOD := hO.kp kD
  rw [hal] at g5
  have hpos : 0 < a'.length + 1 := Nat.succ_pos _
  have hsub : a'.length + 1 - 1 = a'.length := rfl
  cases hc : lessB r p with
  | false =>
   rw [hc] at hg
   apply W.runG (g) 20
   ·intro M hM
    simp (config := { maxSteps := 4000000 }) (disch := first | decide +kernel | omega | simp only [Wq, Nat.reduceEqDiff]) only [s71b2, s71b1, s71, Tryz.f71, Aq, Nat.ble, reduceIte, Nat.reduceEqDiff, Nat.reduceAdd, g3, g5, r1, r2, p1, p2, hg, hsub, hpos]
    with_reducible rfl
   apply W.run 20
   ·intro M
    simp (disch := first | decide +kernel | omega) only [s71b2, s71b1, s71, Tryz.f71, Aq, Nat.reduceEqDiff]
    with_reducible rfl
   refine hk _ D ((a' ++ [p]) ++ r :: c) ?_ ?_ hOD ?_
   ·rw [hac]
    refine (List.perm_middle (l₁ := a' ++ [p]) (a := r) (l₂ := c)).trans ?_
    exact (List.perm_append_singleton r _).symm
   ·exact srt_insert (by rw [← hac]; exact hm) hlt (fun q hq => by simp at hq; rw [← hq]; exact lessB_not hc)
   ·simp only [Sl_cons, Sl_nil, T.get_set, T.puts_cons, T.puts_nil, Nat.reduceEqDiff, Nat.reduceAdd, if_true, if_false, and_true, true_and, g0, g3, g4]
  | true =>
   rw [hc] at hg
   have kA := Kp.alloc D (rowOb 73 hitZ)
   have z1 : Vals (D.alloc (rowOb 73 hitZ)) 73 D.next (.var 4) hitZ := vals_puts (get_alloc_self _ _)
   obtain ⟨E, s1, v1, n1, e1⟩ := store_all (tb := tb4) (t := 73) (l := hitZ) (l' := hitC r) size63' z1 rfl (by simp [hitZ]) (hitC_one r)
   rw [next_alloc] at n1
   have kE : Kp D E := ⟨by omega, fun z hz => by rw [e1 z (by omega), get_alloc_ne (by omega)]⟩
   have hOE := hOD.kp kE
   obtain ⟨r3, r4⟩ := HitS.at hOD.1 er
   obtain ⟨p3, p4⟩ := HitS.at hOE.1 ep
   obtain ⟨F, s2, hOF, n2, e2⟩ := hOE.put (i := a'.length + 1) (e := p) (by simp)
   have hbD : b1 < D.next := by
    rcases hOD.1 with ⟨_, h⟩ | ⟨k, c, _, h, _⟩
    ·simp at h
    ·exact h
   obtain ⟨d63, hd1, hd2⟩ := und63'
   have lr := load_all (tb := tb4) hd1 hd2 (l := hitC r) size63' (v1.same (e2 _ (by omega)))
   obtain ⟨G, s3, hOG, n3, e3⟩ := hOF.put (i := a'.length) (e := r) (by simp)
   have r5 : indexAddrF tb4 42 x1 (.int .i64 ((a'.length + 1 : Nat) : Int)) = .ok (.pointer (some ⟨b1, (a'.length + 1) * 4, none⟩)) := r1
   have fin : ((((a' ++ [p]) ++ r :: c).set (a'.length + 1) p).set a'.length r) = a' ++ r :: (p :: c) := by
    rw [show (a' ++ [p]) ++ r :: c = a' ++ p :: r :: c by simp]
    rw [List.set_append_right _ _ (by omega), show a'.length + 1 - a'.length = 1 by omega]
    rw [List.set_append_right _ _ (by omega), Nat.sub_self]
    rfl
   apply W.runG (g) 20
   ·intro M hM
    simp (config := { maxSteps := 4000000 }) (disch := first | decide +kernel | omega | simp only [Wq, Nat.reduceEqDiff]) only [s71b2, s71b1, s71, Tryz.f71, Aq, Nat.ble, reduceIte, Nat.reduceEqDiff, Nat.reduceAdd, g3, g5, r1, r2, p1, p2, hg, hsub, hpos]
    with_reducible rfl
   apply W.run 20
   ·intro M
    simp (disch := first | decide +kernel | omega) only [s71b2, s71b1, s71, Tryz.f71, Aq, Nat.reduceEqDiff]
    with_reducible rfl
   apply W.seq
   apply W.block
   apply W.seq
   apply W.run 20
   ·intro M
    simp (disch := first | decide +kernel | omega) only [s71b2, s71b1, s71, Tryz.f71, Aq, Nat.reduceEqDiff, g3, g5, r1, r4, z63, cells_agg, s1]
    with_reducible rfl
   apply W.seq
   apply W.run 20
   ·intro M
    simp (disch := first | decide +kernel | omega) only [s71b2, s71b1, s71, Tryz.f71, Aq, Nat.reduceEqDiff, g3, g5, r1, p1, p4, s2, hsub]
    with_reducible rfl
   apply W.run 20
   ·intro M
    simp (disch := first | decide +kernel | omega) only [s71b2, s71b1, s71, Tryz.f71, Aq, Nat.reduceEqDiff, g3, g5, p1, lr, s3, hsub]
    with_reducible rfl
   apply W.run 20
   ·intro M
    simp (disch := first | decide +kernel | omega) only [s71b2, s71b1, s71, Tryz.f71, Aq, Nat.reduceEqDiff, g5, hsub]
    with_reducible rfl
   refine ⟨?_, _, _, rfl, a', p :: c, by rw [hac]; simp, by simp [hcl], ?_, by rw [← fin]; exact hOG, ?_⟩
   ·have := congrArg List.length hac
    simp only [List.length_append, List.length_cons, List.length_nil] at this
    omega
   ·intro y hy
    rcases List.mem_cons.1 hy with rfl | hy
    ·exact lessB_iff.1 hc
    ·exact hlt y hy
   ·simp only [Sl_cons, Sl_nil, T.get_set, T.puts_cons, T.puts_nil, Nat.reduceEqDiff, Nat.reduceAdd, if_true, if_false, and_true, true_and, g0, g3, g4]
end Go.Proofs.YtnelkapmmgggdaaGreat.mdl

/-
 Model: the document's Sort and Top, whole; Suggest.
-/
namespace Go.Proofs.YtnelkapmmgggdaaGreat.mdl
open Go.Am Go.Mdl
open Go.Proofs.YtnelkapmmgggdaaGreat.rnk (HitD hitC ordD lessB sortH ordK lessK hitC_len sortH_len ltH lessB_iff ltH_irr ltH_tr ltH_tri)
set_option linter.unusedSimpArgs false
set_option linter.unusedVariables false
set_option linter.unusedVariables false

theorem run_rsort {A : Mem} {b : Nat} {l : List HitD} {x : Value} (h : HitS A b l x) (hl : l.length < 800000) : ∃ v A', Ans tb4 71 [x] A v A' ∧ HitE A' (sortH l) v ∧ Kp A A' := by
 refine ans_of_W (fn_at Tryz.func71) s71_eq (by rw [Tryz.ntmps71]; simp) (by kernel_rfl) (by kernel_rfl) ?_
 have hlen := HitS.lens h
 apply W.seq
 apply W.run 20
 ·intro M
  simp (disch := first | decide +kernel | omega) only [s71, Tryz.f71, Aq, Nat.reduceEqDiff]
  with_reducible rfl
 apply W.seq
 apply W.run 20
 ·intro M
  simp (disch := first | decide +kernel | omega) only [s71, Tryz.f71, Aq, Nat.reduceEqDiff]
  with_reducible rfl
 apply W.seq
 apply W.seq
 apply W.run 20
 ·intro M
  simp (disch := first | decide +kernel | omega) only [s71, Tryz.f71, Aq, Nat.reduceEqDiff]
  with_reducible rfl
 apply W.block
 refine W.up l.length (fun i t C => ∃ b1 y m, m.Perm (l.take i) ∧ SrtH m ∧ HitO A C b1 m y ∧ Sl t [(0, x), (3, y), (4, .int .i64 (i : Int))]) ?_ (Nat.zero_le _) ⟨A.next, .slice none 0 0, [], by simp, List.Pairwise.nil, ⟨.inl ⟨rfl, rfl⟩, Kp.refl _, Nat.le_refl _⟩, ?_⟩
 ·rintro i t C hi ⟨b1, y, m, hp, hs, hO, g0, g3, g4, -⟩
  have hml := hp.length_eq
  rw [List.length_take] at hml
  rw [s71b1_eq]
  apply W.seq
  apply W.seq
  by_cases hlt : i < l.length
  ·have he : l[i]? = some l[i] := List.getElem?_eq_getElem hlt
   obtain ⟨i1, i2⟩ := HitS.at (HitS.kp h hO.2.1) he
   obtain ⟨y', D, happ, hO2⟩ := hO.push l[i] (by omega)
   have hlen2 := HitS.lens hO2.1
   rw [List.length_append, List.length_singleton] at hlen2
   have hsub : m.length + 1 - 1 = m.length := rfl
   apply W.run 20
   ·intro M
    simp (disch := first | decide +kernel | omega) only [s71b1, s71, Tryz.f71, Aq, Nat.reduceEqDiff, g0, g4, hlen, hlt]
    with_reducible rfl
   apply W.run 20
   ·intro M
    simp (disch := first | decide +kernel | omega) only [s71b1, s71, Tryz.f71, Aq, Nat.reduceEqDiff]
    with_reducible rfl
   apply W.seq
   apply W.block
   apply W.seq
   apply W.run 20
   ·intro M
    simp (disch := first | decide +kernel | omega) only [s71b1, s71, Tryz.f71, Aq, Nat.reduceEqDiff, g0, g3, g4, i1, i2, bs51, at_slc, happ]
    with_reducible rfl
   apply W.seq
   apply W.run 20
   ·intro M
    simp (disch := first | decide +kernel | omega) only [s71b1, s71, Tryz.f71, Aq, Nat.reduceEqDiff, hlen2, hsub]
    with_reducible rfl
   apply W.block
   refine ins_loop (i0 := i) (xl := x) hs (by omega) hO2 ?_ fun t' C' m' h1 h2 h3 h4 => ?_
   ·simp only [Sl_cons, Sl_nil, T.get_set, T.puts_cons, T.puts_nil, Nat.reduceEqDiff, Nat.reduceAdd, if_true, if_false, and_true, true_and, g0, g4]
   ·obtain ⟨f0, f3, f4, -⟩ := h4
    apply W.run 20
    ·intro M
     simp (disch := first | decide +kernel | omega) only [s71b1, s71, Tryz.f71, Aq, Nat.reduceEqDiff, f4]
     with_reducible rfl
    refine ⟨hlt, _, _, rfl, _, y', m', ?_, h2, h3, ?_⟩
    ·rw [List.take_succ_eq_append_getElem hlt]
     exact h1.trans (hp.append_right _)
    ·simp only [Sl_cons, Sl_nil, T.get_set, T.puts_cons, T.puts_nil, Nat.reduceEqDiff, Nat.reduceAdd, if_true, if_false, and_true, true_and, f0, f3]
  ·have hin : i = l.length := by omega
   subst hin
   rw [List.take_length] at hp
   have e : m = sortH l := srt_uniq (hp.trans (sortH_perm l).symm) hs (sortH_srt l)
   subst e
   apply W.run 20
   ·intro M
    simp (disch := first | decide +kernel | omega) only [s71b1, s71, Tryz.f71, Aq, Nat.reduceEqDiff, g0, g4, hlen]
    with_reducible rfl
   apply W.run 20
   ·intro M
    simp (disch := first | decide +kernel | omega) only [s71b1, s71, Tryz.f71, Aq, Nat.reduceEqDiff]
    with_reducible rfl
   apply W.seq
   apply W.run 20
   ·intro M
    simp (disch := first | decide +kernel | omega) only [s71, Tryz.f71, Aq, Nat.reduceEqDiff, g3]
    with_reducible rfl
   apply W.run 20
   ·intro M
    simp (disch := first | decide +kernel | omega) only [s71, Tryz.f71, Aq, Nat.reduceEqDiff]
    with_reducible rfl
   refine ⟨.inr rfl, C, [y], rfl, ?_, ⟨b1, hO.1⟩, hO.2.1⟩
   simp only [Tryz.f71, resF, ev_tmp, T.get_set, Nat.reduceEqDiff, if_true, if_false, evG_some, R.ok_bind]
 ·simp only [Sl_cons, Sl_nil, T.get_set, T.puts_cons, T.puts_nil, Nat.reduceEqDiff, Nat.reduceAdd, if_true, if_false, and_true, true_and]
def HitR (A : Mem) (l : List HitD) (x : Value) : Prop := ∃ b, RowM A 73 4 b (l.map hitC) x
theorem HitE.toR {A : Mem} {l : List HitD} {x : Value} (h : HitE A l x) : HitR A l x := by
 obtain ⟨b, h⟩ := h
 exact ⟨b, h.toRow (by decide)⟩
theorem HitR.kp {A A' : Mem} {l : List HitD} {x : Value} (h : HitR A l x) (k : Kp A A') : HitR A' l x := by
 obtain ⟨b, h⟩ := h
 exact ⟨b, h.same k.1 (fun hl => k.2 _ hl)⟩
theorem HitR.lens {A : Mem} {l : List HitD} {x : Value} (h : HitR A l x) : builtinPF tb4 .len [42] [x] = .ok (.int .i64 ((l.length : Nat) : Int)) := by
 obtain ⟨b, h⟩ := h
 have := RowM.len (tb := tb4) h und51
 rwa [List.length_map] at this
theorem HitR.at {A : Mem} {i : Nat} {l : List HitD} {x : Value} {h : HitD} (hs : HitR A l x) (hi : l[i]? = some h) : ∃ p, indexAddrF tb4 42 x (.int .i64 ((i : Nat) : Int)) = .ok (.pointer (some p)) ∧ loadF tb4 A.get 73 (.pointer (some p)) = .ok (.agg ⟨hitC h⟩) := by
 obtain ⟨b, hs⟩ := hs
 obtain ⟨d63, hd1, hd2⟩ := und63'
 exact ⟨_, RowM.idx hs und51 size63' (by rw [List.length_map]; exact (List.getElem?_eq_some_iff.1 hi).1), RowM.load_all hs hd1 hd2 size63' (by rw [List.getElem?_map, hi]; rfl)⟩
theorem HitR.cells {A : Mem} {l : List HitD} {x : Value} (h : HitR A l x) : x.cells.toList = [x] ∧ oneCell x = true ∧ sameV 100 x x = true := by
 obtain ⟨b, h⟩ := h
 exact ⟨h.cells.1, h.cells.2, h.self 99⟩
theorem HitR.cut {A : Mem} {l : List HitD} {x : Value} {m : Nat} (h : HitR A l x) (hm : m ≤ l.length) : ∃ y, sliceF tb4 42 x none (some (.int .i64 (m : Int))) none = .ok y ∧ HitR A (l.take m) y := by
 obtain ⟨b, h⟩ := h
 obtain ⟨y, h1, h2⟩ := RowM.cut (tb := tb4) (t := 42) h und51 size63' (by rw [List.length_map]; exact hm)
 exact ⟨y, h1, b, by rw [List.map_take]; exact h2⟩
theorem min2_i64 {ts : List TypeId} {a : Int} {b : Nat} (ha : 0 ≤ a) : builtinPF tb4 .min ts [.int .i64 a, .int .i64 (b : Int)] = .ok (.int .i64 ((min a.toNat b : Nat) : Int)) := by
 obtain ⟨n, rfl⟩ := Int.eq_ofNat_of_zero_le ha
 exact min_i64
noncomputable def t56 : Code := Tryz.f56.body.getD .skip
theorem t56_eq : Tryz.f56.body = some (.seq (sub t56 [0]) (.seq (.seq (sub t56 [1,0,0]) (sub t56 [1,0,1])) (.seq (sub t56 [1,1,0]) (.seq (sub t56 [1,1,1,0]) (sub t56 [1,1,1,1]))))) := by kernel_rfl
theorem run_rtop {A : Mem} {b : Nat} {n : Int} {l : List HitD} {x : Value} (h : HitS A b l x) (hn : 0 ≤ n) (hl : l.length < 800000) :
  ∃ v A', Ans tb4 56 [.int .i64 n, x] A v A' ∧ ∃ y, v = .tuple ⟨[y, .int .i64 ((0 : Nat) : Int)]⟩ ∧ HitR A' (topL n l) y ∧ Kp A A' := by
 refine ans_of_W (fn_at Tryz.func56) t56_eq (by rw [Tryz.ntmps56]; simp) (by kernel_rfl) (by kernel_rfl) ?_
 have hn' : ¬ n < ((0 : Nat) : Int) := by omega
 obtain ⟨y, B, ⟨g, hg⟩, hy, kB⟩ := run_rsort h hl
 have hl2 := hy.toR.lens
 rw [sortH_len] at hl2
 have hmin := min2_i64 (ts := [3, 3]) (b := l.length) hn
 obtain ⟨z, hz, hzR⟩ := hy.toR.cut (m := min n.toNat l.length) (by rw [sortH_len]; omega)
 rw [← top_eq hn] at hzR
 apply W.seq
 apply W.run 20
 ·intro M
  simp (disch := first | decide +kernel | omega) only [t56, Tryz.f56, Aq, Nat.reduceEqDiff]
  with_reducible rfl
 apply W.seq
 apply W.seq
 apply W.run 20
 ·intro M
  simp (disch := first | decide +kernel | omega) only [t56, Tryz.f56, Aq, Nat.reduceEqDiff, hn']
  with_reducible rfl
 apply W.run 20
 ·intro M
  simp (disch := first | decide +kernel | omega) only [t56, Tryz.f56, Aq, Nat.reduceEqDiff]
  with_reducible rfl
 apply W.seq
 apply W.runG (g) 20
 ·intro M hM
  simp (disch := first | decide +kernel | omega) only [t56, Tryz.f56, Aq, Nat.reduceEqDiff, hg]
  with_reducible rfl
 apply W.seq
 apply W.run 20
 ·intro M
  simp (disch := first | decide +kernel | omega) only [t56, Tryz.f56, Aq, Nat.reduceEqDiff, hl2, hmin, hz]
  with_reducible rfl
 apply W.run 20
 ·intro M
  simp (disch := first | decide +kernel | omega) only [t56, Tryz.f56, Aq, Nat.reduceEqDiff]
  with_reducible rfl
 refine ⟨.inr rfl, B, [z, .int .i64 ((0 : Nat) : Int)], rfl, ?_, z, rfl, hzR, kB⟩
 simp only [Tryz.f56, resF, ev_tmp, T.get_set, Nat.reduceEqDiff, if_true, if_false, evG_some, R.ok_bind]
noncomputable def u35 : Code := Tryz.f35.body.getD .skip
noncomputable def u35b1 : Code := sub u35 [1,1,1,0,1,0,0]
theorem u35_eq : Tryz.f35.body = some (.seq (sub u35 [0]) (.seq (.seq (sub u35 [1,0,0]) (sub u35 [1,0,1])) (.seq (sub u35 [1,1,0]) (.seq (.seq (sub u35 [1,1,1,0,0]) (.block 0 (.loop u35b1))) (.seq (sub u35 [1,1,1,1,0]) (.seq (sub u35 [1,1,1,1,1,0]) (sub u35 [1,1,1,1,1,1]))))))) := by kernel_rfl
theorem u35b1_eq : u35b1 = .seq (.seq (sub u35b1 [0,0]) (sub u35b1 [0,1])) (.seq (.block 1 (.seq (sub u35b1 [1,0,0,0]) (.seq (sub u35b1 [1,0,0,1,0]) (sub u35b1 [1,0,0,1,1])))) (sub u35b1 [1,1])) := by kernel_rfl
theorem may_badS {o : OpV} : badS o ↔ ¬ (mayB o.word o.k = true ∧ ¬ o.n < ((0 : Nat) : Int)) := by
 unfold badS mayB
 rw [decide_eq_true_iff]
 omega
theorem run_rsug {A : Mem} {d : List EntD} {x : Value} {o : OpV} (h : EntE A d x) (hl : d.length < 700000) (hw : ∀ e ∈ d, e.word.length ≤ 900000) :
  ∃ v A', Ans tb4 35 [x, strOf o.word, .int .i64 o.k, .int .i64 o.n] A v A' ∧ ∃ y, v = .tuple ⟨[y, .int .i64 ((if badS o then 7 else 0 : Nat) : Int)]⟩ ∧ HitR A' (if badS o then [] else topL o.n (nearL o.word o.k d)) y ∧ Kp A A' := by
 obtain ⟨be, h⟩ := h
 refine ans_of_W (fn_at Tryz.func35) u35_eq (by rw [Tryz.ntmps35]; simp) (by kernel_rfl) (by kernel_rfl) ?_
 have hlen := EntS.lens h
 obtain ⟨g, hg⟩ := run_rmay (A := A) (w := o.word) (k := o.k)
 apply W.seq
 apply W.run 20
 ·intro M
  simp (disch := first | decide +kernel | omega) only [u35, Tryz.f35, Aq, Nat.reduceEqDiff]
  with_reducible rfl
 apply W.seq
 apply W.seq
 by_cases hb : badS o
 ·have hb' := may_badS.1 hb
  rw [if_pos hb, if_pos hb]
  cases hm : mayB o.word o.k with
  | false =>
   rw [hm] at hg
   apply W.runG (g) 20
   ·intro M hM
    simp (config := { maxSteps := 4000000 }) (disch := first | decide +kernel | omega | simp only [Wq, Nat.reduceEqDiff]) only [u35, Tryz.f35, Aq, Nat.ble, reduceIte, Nat.reduceEqDiff, Nat.reduceAdd, hg]
    with_reducible rfl
   apply W.run 20
   ·intro M
    simp (disch := first | decide +kernel | omega) only [u35, Tryz.f35, Aq, Nat.reduceEqDiff]
    with_reducible rfl
   refine ⟨.inr rfl, A, [.slice none 0 0, .int .i64 ((7 : Nat) : Int)], rfl, ?_, .slice none 0 0, rfl, (HitE.nil _).toR, Kp.refl _⟩
   simp only [Tryz.f35, resF, ev_tmp, T.get_set, T.puts_cons, T.puts_nil, Nat.reduceEqDiff, Nat.reduceAdd, if_true, if_false, evG_some, R.ok_bind]
  | true =>
   rw [hm] at hg
   have hn : o.n < ((0 : Nat) : Int) := Classical.byContradiction fun hn => hb' ⟨hm, hn⟩
   apply W.runG (g) 20
   ·intro M hM
    simp (config := { maxSteps := 4000000 }) (disch := first | decide +kernel | omega | simp only [Wq, Nat.reduceEqDiff]) only [u35, Tryz.f35, Aq, Nat.ble, reduceIte, Nat.reduceEqDiff, Nat.reduceAdd, hg, hn]
    with_reducible rfl
   apply W.run 20
   ·intro M
    simp (disch := first | decide +kernel | omega) only [u35, Tryz.f35, Aq, Nat.reduceEqDiff]
    with_reducible rfl
   refine ⟨.inr rfl, A, [.slice none 0 0, .int .i64 ((7 : Nat) : Int)], rfl, ?_, .slice none 0 0, rfl, (HitE.nil _).toR, Kp.refl _⟩
   simp only [Tryz.f35, resF, ev_tmp, T.get_set, T.puts_cons, T.puts_nil, Nat.reduceEqDiff, Nat.reduceAdd, if_true, if_false, evG_some, R.ok_bind]
 ·obtain ⟨hm, hn⟩ := Classical.byContradiction fun hn => hb (may_badS.2 hn)
  have hn0 : 0 ≤ o.n := by omega
  have hwl : o.word.length ≤ 900000 := by
   have : ¬ 255 < o.word.length := fun h => hb (.inl h)
   omega
  rw [if_neg hb, if_neg hb]
  rw [hm] at hg
  apply W.runG (g) 20
  ·intro M hM
   simp (config := { maxSteps := 4000000 }) (disch := first | decide +kernel | omega | simp only [Wq, Nat.reduceEqDiff]) only [u35, Tryz.f35, Aq, Nat.ble, reduceIte, Nat.reduceEqDiff, Nat.reduceAdd, hg, hn]
   with_reducible rfl
  apply W.run 20
  ·intro M
   simp (disch := first | decide +kernel | omega) only [u35, Tryz.f35, Aq, Nat.reduceEqDiff]
   with_reducible rfl
  apply W.seq
  apply W.run 20
  ·intro M
   simp (disch := first | decide +kernel | omega) only [u35, Tryz.f35, Aq, Nat.reduceEqDiff]
   with_reducible rfl
  apply W.seq
  apply W.seq
  apply W.run 20
  ·intro M
   simp (disch := first | decide +kernel | omega) only [u35, Tryz.f35, Aq, Nat.reduceEqDiff]
   with_reducible rfl
  apply W.block
  refine W.up d.length (fun i t C => ∃ b y, HitO A C b (nearL o.word o.k (d.take i)) y ∧ Sl t [(0, x), (1, strOf o.word), (2, .int .i64 o.k), (3, .int .i64 o.n), (10, y), (11, .int .i64 (i : Int))]) ?_ (Nat.zero_le _) ⟨A.next, .slice none 0 0, ⟨.inl ⟨rfl, rfl⟩, Kp.refl _, Nat.le_refl _⟩, ?_⟩
  ·rintro i t C hi ⟨b, y, hO, g0, g1, g2, g3, g10, g11, -⟩
   rw [u35b1_eq]
   apply W.seq
   apply W.seq
   by_cases hlt : i < d.length
   ·have he : d[i]? = some d[i] := List.getElem?_eq_getElem hlt
    have hxC := EntS.kp h hO.2.1
    obtain ⟨i1, i2⟩ := EntS.at hxC he
    have iw := EntS.word hxC he
    obtain ⟨D, ⟨gd, hgd⟩, hX⟩ := wth.run_refOf o.word (d[i]).word hwl (hw _ (List.getElem_mem _)) C
    have kD : Kp C D := ⟨hX.1, hX.2⟩
    have hOD := hO.kp kD
    obtain ⟨-, i3⟩ := EntS.at (EntS.kp hxC kD) he
    have hnl := nearL_len o.word o.k (d.take i)
    rw [List.length_take] at hnl
    have hsucc := nearL_succ (w := o.word) (k := o.k) he
    apply W.run 20
    ·intro M
     simp (disch := first | decide +kernel | omega) only [u35b1, u35, Tryz.f35, Aq, Nat.reduceEqDiff, g0, g11, hlen, hlt]
     with_reducible rfl
    apply W.run 20
    ·intro M
     simp (disch := first | decide +kernel | omega) only [u35b1, u35, Tryz.f35, Aq, Nat.reduceEqDiff]
     with_reducible rfl
    apply W.seq
    apply W.block
    apply W.seq
    apply W.runG (gd) 20
    ·intro M hM
     simp (disch := first | decide +kernel | omega) only [u35b1, u35, Tryz.f35, Aq, Nat.reduceEqDiff, g0, g1, g11, i1, fb0o, iw, hgd]
     with_reducible rfl
    apply W.seq
    by_cases hk : ((Go.Dist.dist o.word (d[i]).word : Nat) : Int) ≤ o.k
    ·have e : nearH o.word o.k d[i] = some ⟨d[i], Go.Dist.dist o.word (d[i]).word⟩ := by unfold nearH; rw [if_pos hk]
     rw [e] at hsucc
     obtain ⟨y2, E, happ, hO2⟩ := hOD.push ⟨d[i], Go.Dist.dist o.word (d[i]).word⟩ (by omega)
     apply W.run 20
     ·intro M
      simp (disch := first | decide +kernel | omega) only [u35b1, u35, Tryz.f35, Aq, Nat.reduceEqDiff, g2, hk]
      with_reducible rfl
     apply W.run 20
     ·intro M
      simp (disch := first | decide +kernel | omega) only [u35b1, u35, Tryz.f35, Aq, Nat.reduceEqDiff, g0, g10, g11, i1, i3, bld63, bs51, at_slc, happ]
      with_reducible rfl
     apply W.run 20
     ·intro M
      simp (disch := first | decide +kernel | omega) only [u35b1, u35, Tryz.f35, Aq, Nat.reduceEqDiff, g11]
      with_reducible rfl
     refine ⟨hlt, _, _, rfl, _, y2, by rw [hsucc]; exact hO2, ?_⟩
     simp only [Sl_cons, Sl_nil, T.get_set, T.puts_cons, T.puts_nil, Nat.reduceEqDiff, Nat.reduceAdd, if_true, if_false, and_true, true_and, g0, g1, g2, g3]
    ·have e : nearH o.word o.k d[i] = none := by unfold nearH; rw [if_neg hk]
     rw [e] at hsucc
     apply W.run 20
     ·intro M
      simp (disch := first | decide +kernel | omega) only [u35b1, u35, Tryz.f35, Aq, Nat.reduceEqDiff, g2, hk]
      with_reducible rfl
     apply W.run 20
     ·intro M
      simp (disch := first | decide +kernel | omega) only [u35b1, u35, Tryz.f35, Aq, Nat.reduceEqDiff]
      with_reducible rfl
     apply W.run 20
     ·intro M
      simp (disch := first | decide +kernel | omega) only [u35b1, u35, Tryz.f35, Aq, Nat.reduceEqDiff, g11]
      with_reducible rfl
     refine ⟨hlt, _, _, rfl, b, y, by rw [hsucc]; simpa using hOD, ?_⟩
     simp only [Sl_cons, Sl_nil, T.get_set, T.puts_cons, T.puts_nil, Nat.reduceEqDiff, Nat.reduceAdd, if_true, if_false, and_true, true_and, g0, g1, g2, g3, g10]
   ·have hin : i = d.length := by omega
    subst hin
    rw [List.take_length] at hO
    obtain ⟨v, D, ⟨gt, hgt⟩, z, rfl, hz, kD⟩ := run_rtop hO.1 hn0 (Nat.lt_of_le_of_lt (nearL_len _ _ _) (by omega))
    apply W.run 20
    ·intro M
     simp (disch := first | decide +kernel | omega) only [u35b1, u35, Tryz.f35, Aq, Nat.reduceEqDiff, g0, g11, hlen]
     with_reducible rfl
    apply W.run 20
    ·intro M
     simp (disch := first | decide +kernel | omega) only [u35b1, u35, Tryz.f35, Aq, Nat.reduceEqDiff]
     with_reducible rfl
    apply W.seq
    apply W.runG (gt) 20
    ·intro M hM
     simp (disch := first | decide +kernel | omega) only [u35, Tryz.f35, Aq, Nat.reduceEqDiff, g3, g10, hgt, List.getElem?_cons_zero, List.getElem?_cons_succ]
     with_reducible rfl
    apply W.seq
    apply W.run 20
    ·intro M
     simp (disch := first | decide +kernel | omega) only [u35, Tryz.f35, Aq, Nat.reduceEqDiff]
     with_reducible rfl
    apply W.run 20
    ·intro M
     simp (disch := first | decide +kernel | omega) only [u35, Tryz.f35, Aq, Nat.reduceEqDiff]
     with_reducible rfl
    refine ⟨.inr rfl, D, [z, .int .i64 ((0 : Nat) : Int)], rfl, ?_, z, rfl, hz, hO.2.1.trans kD⟩
    simp only [Tryz.f35, resF, ev_tmp, T.get_set, T.puts_cons, T.puts_nil, Nat.reduceEqDiff, Nat.reduceAdd, if_true, if_false, evG_some, R.ok_bind]
  ·simp only [Sl_cons, Sl_nil, T.get_set, T.puts_cons, T.puts_nil, Nat.reduceEqDiff, Nat.reduceAdd, if_true, if_false, and_true, true_and]
end Go.Proofs.YtnelkapmmgggdaaGreat.mdl

/-
 Model: the document's Answer.
-/
namespace Go.Proofs.YtnelkapmmgggdaaGreat.mdl
open Go.Am Go.Mdl
open Go.Proofs.YtnelkapmmgggdaaGreat.rnk (HitD hitC ordD lessB sortH ordK lessK hitC_len sortH_len)
set_option linter.unusedSimpArgs false
set_option linter.unusedVariables false
set_option linter.unusedVariables false

theorem RowM.put {A A' : Mem} {e : TypeId} {n b q : Nat} {ls : List (List Value)} {x : Value} (h : RowM A e n b ls x) (hq : ∀ k c z, A.get q ≠ some (.cells e k c z)) (hn : A.next ≤ A'.next) (hg : ∀ z, z < A.next → z ≠ q → A'.get z = A.get z) : RowM A' e n b ls x := by
 rcases h with h | ⟨k, c, ex, h1, h2, h3, h4⟩
 ·exact .inl h
 ·have hne : b ≠ q := fun e' => by
   obtain ⟨z, hz, -⟩ := h3
   rw [e'] at hz
   exact hq _ _ _ hz
  exact .inr ⟨k, c, ex, h1, Nat.lt_of_lt_of_le h2 hn, h3.same (hg b h2 hne), h4⟩
theorem HitR.put {A A' : Mem} {q : Nat} {l : List HitD} {x : Value} (h : HitR A l x) (hq : ∀ k c z, A.get q ≠ some (.cells 73 k c z)) (hn : A.next ≤ A'.next) (hg : ∀ z, z < A.next → z ≠ q → A'.get z = A.get z) : HitR A' l x := by
 obtain ⟨b, h⟩ := h
 exact ⟨b, RowM.put h hq hn hg⟩
def RepR (A : Mem) (r : RepD) (v : Value) : Prop := ∃ x, v = .agg ⟨repC r.err r.weight x⟩ ∧ HitR A r.hits x
theorem RepE.toR {A : Mem} {r : RepD} {v : Value} (h : RepE A r v) : RepR A r v := by
 obtain ⟨x, h1, h2⟩ := h
 exact ⟨x, h1, h2.toR⟩
theorem RepR.kp {A A' : Mem} {r : RepD} {v : Value} (h : RepR A r v) (k : Kp A A') : RepR A' r v := by
 obtain ⟨x, h1, h2⟩ := h
 exact ⟨x, h1, h2.kp k⟩
theorem repl_store {A : Mem} {q e w : Nat} {x y : Value} {e' w' : Nat} (h : Vals A 44 q (.var 3) (repC e w x)) (hy : oneCell y = true) :
  ∃ A', storeF tb4 A 44 (.pointer (some ⟨q, 0, none⟩)) (.agg ⟨repC e' w' y⟩) = .ok A' ∧ Vals A' 44 q (.var 3) (repC e' w' y) ∧ A'.next = A.next ∧ ∀ z, z ≠ q → A'.get z = A.get z :=
 store_all (tb := tb4) (t := 44) (l := repC e w x) (l' := repC e' w' y) size53 h rfl (by simp [repC]) (repC_one hy)
theorem repl_load {A : Mem} {q e w : Nat} {x : Value} (h : Vals A 44 q (.var 3) (repC e w x)) : loadF tb4 A.get 44 (.pointer (some ⟨q, 0, none⟩)) = .ok (.agg ⟨repC e w x⟩) := by
 obtain ⟨d53, hd1, hd2⟩ := und53
 exact load_all (tb := tb4) hd1 hd2 (l := repC e w x) size53 h
noncomputable def a14 : Code := Tryz.f14.body.getD .skip
noncomputable def a14l : Code := sub a14 [1,1,0,1,0,1,0]
noncomputable def a14s : Code := sub a14 [1,1,0,1,0,1,1]
theorem a14_eq : Tryz.f14.body = some (.seq (sub a14 [0]) (.seq (sub a14 [1,0]) (.seq (.seq (sub a14 [1,1,0,0]) (.block 0 (.seq (sub a14 [1,1,0,1,0,0]) (.cond (.tmp 11) a14l a14s)))) (.seq (sub a14 [1,1,1,0]) (sub a14 [1,1,1,1]))))) := by kernel_rfl
theorem a14l_eq : a14l = .seq (sub a14l [0]) (.seq (sub a14l [1,0]) (.seq (.seq (sub a14l [1,1,0,0]) (sub a14l [1,1,0,1])) (.seq (sub a14l [1,1,1,0]) (sub a14l [1,1,1,1])))) := by kernel_rfl
theorem a14s_eq : a14s = .seq (sub a14s [0]) (.cond (.tmp 30) (sub a14s [1,0]) (sub a14s [1,1])) := by kernel_rfl
theorem a14_end {A C : Mem} {r : RepD} {y : Value} {t : T Value} (hk : Kp A C) (hn : A.next + 3 ≤ C.next) (v1 : Vals C 44 (A.next + 1) (.var 3) repZ) (v2 : Vals C 44 (A.next + 2) (.var 3) (repC r.err r.weight y)) (hy : HitR C r.hits y)
  (ht : Sl t [(4, .pointer (some ⟨A.next + 1, 0, none⟩)), (5, .pointer (some ⟨A.next + 2, 0, none⟩))]) :
  W tb4 (.seq (sub a14 [1,1,1,0]) (sub a14 [1,1,1,1])) ⟨t, 46, [], C, none⟩ (fun e s => (e = .nrm ∨ e = .ret) ∧ ∃ A' vs, takeF s.d s.m = .ok A' ∧ resF tb4 s.t A'.get Tryz.f14.results.toList = .ok vs ∧ RepR A' r (oneOf vs) ∧ Kp A A') := by
 obtain ⟨g4, g5, -⟩ := ht
 have l2 := repl_load v2
 obtain ⟨D, s1, v3, n1, k1⟩ := repl_store (e' := r.err) (w' := r.weight) (y := y) v1 hy.cells.2.1
 have l3 := repl_load v3
 apply W.seq
 apply W.run 20
 ·intro M
  simp (disch := first | decide +kernel | omega) only [a14, Tryz.f14, Aq, Nat.reduceEqDiff, g4, g5, l2, s1]
  with_reducible rfl
 apply W.run 20
 ·intro M
  simp (disch := first | decide +kernel | omega) only [a14, Tryz.f14, Aq, Nat.reduceEqDiff]
  with_reducible rfl
 refine ⟨.inr rfl, D, [.agg ⟨repC r.err r.weight y⟩], rfl, ?_, ⟨y, rfl, ?_⟩, ⟨by have := hk.1; omega, fun z hz => by rw [k1 z (by omega), hk.2 z hz]⟩⟩
 ·simp only [Tryz.f14, resF, ev_tmp, T.get_set, Nat.reduceEqDiff, if_true, if_false, evG_some, R.ok_bind, g4, l3]
 ·exact HitR.put hy (q := A.next + 1) (Vals.not v1 (by decide)) (by omega) (fun z hz hne => by rw [k1 z hne])
theorem run_ranswer {A : Mem} {d : List EntD} {x : Value} {o : OpV} (h : EntE A d x) (hl : d.length < 700000) (hw : ∀ e ∈ d, e.word.length ≤ 900000) :
  ∃ v A', Ans tb4 14 [x, .agg ⟨opC o⟩] A v A' ∧ RepR A' (ansD d o) v ∧ Kp A A' := by
 refine ans_of_W (fn_at Tryz.func14) a14_eq (by rw [Tryz.ntmps14]; simp) (by kernel_rfl) (by kernel_rfl) ?_
 have hv0 : Vals (((A.alloc (rowOb 47 (opC o))).alloc (rowOb 44 repZ)).alloc (rowOb 44 repZ)) 47 A.next (.var 5) (opC o) := ((vals_puts (get_alloc_self _ _) : Vals (A.alloc (rowOb 47 (opC o))) 47 A.next (.var 5) (opC o)).same (get_alloc_ne (by rw [next_alloc]; omega))).same (get_alloc_ne (by simp only [next_alloc]; omega))
 have hv1 : Vals (((A.alloc (rowOb 47 (opC o))).alloc (rowOb 44 repZ)).alloc (rowOb 44 repZ)) 44 (A.next + 1) (.var 3) repZ := (vals_puts (get_alloc_self (A.alloc (rowOb 47 (opC o))) _) : Vals ((A.alloc (rowOb 47 (opC o))).alloc (rowOb 44 repZ)) 44 (A.next + 1) (.var 3) repZ).same (get_alloc_ne (by simp only [next_alloc]; omega))
 have hv2 : Vals (((A.alloc (rowOb 47 (opC o))).alloc (rowOb 44 repZ)).alloc (rowOb 44 repZ)) 44 (A.next + 2) (.var 3) repZ := vals_puts (get_alloc_self ((A.alloc (rowOb 47 (opC o))).alloc (rowOb 44 repZ)) _)
 have hk0 : Kp A (((A.alloc (rowOb 47 (opC o))).alloc (rowOb 44 repZ)).alloc (rowOb 44 repZ)) := ((Kp.alloc _ _).trans (Kp.alloc _ _)).trans (Kp.alloc _ _)
 have hn0 : (((A.alloc (rowOb 47 (opC o))).alloc (rowOb 44 repZ)).alloc (rowOb 44 repZ)).next = A.next + 3 := rfl
 apply W.seq
 apply W.run 20
 ·intro M
  simp (disch := first | decide +kernel | omega) only [a14, Tryz.f14, Aq, Nat.reduceEqDiff, z53, cells_agg, next_alloc]
  with_reducible rfl
 apply W.seq
 apply W.run 20
 ·intro M
  simp (disch := first | decide +kernel | omega) only [a14, Tryz.f14, Aq, Nat.reduceEqDiff, z53, cells_agg, next_alloc]
  with_reducible rfl
 show W tb4 _ _ _
 generalize ((A.alloc (rowOb 47 (opC o))).alloc (rowOb 44 repZ)).alloc (rowOb 44 repZ) = B at hv0 hv1 hv2 hk0 hn0
 refine W_gen [(0, x), (3, .pointer (some ⟨A.next, 0, none⟩)), (4, .pointer (some ⟨A.next + 1, 0, none⟩)), (5, .pointer (some ⟨A.next + 2, 0, none⟩))] (by simp only [Sl_cons, Sl_nil, T.get_set, T.puts_cons, T.puts_nil, Nat.reduceEqDiff, Nat.reduceAdd, if_true, if_false, and_true, true_and]) fun t ht => ?_
 obtain ⟨g0, g3, g4, g5, -⟩ := ht
 have vO : VarO B A.next o := ⟨by omega, hv0⟩
 have hE := h.kp hk0
 have lk := vO.kind
 have lw := vO.word
 apply W.seq
 apply W.seq
 apply W.run 20
 ·intro M
  simp (disch := first | decide +kernel | omega) only [a14, Tryz.f14, Aq, Nat.reduceEqDiff, g3, f38_0, lk]
  with_reducible rfl
 apply W.block
 apply W.seq
 by_cases h6 : o.kind = 6
 ·have he6 : intOpF .eql .i64 o.kind ((6 : Nat) : Int) = .ok (.bool true) := by rw [op_eqlI, decide_eq_true (show o.kind = ((6 : Nat) : Int) from h6)]
  have hr : ansD d o = ⟨if okW o.word = true then (if (find o.word d).isSome = true then 0 else 9) else 7, ((find o.word d).getD zeroE).weight, []⟩ := by unfold ansD; rw [if_pos h6]
  apply W.run 20
  ·intro M
   simp (disch := first | decide +kernel | omega) only [a14, Tryz.f14, Aq, Nat.reduceEqDiff, he6]
   with_reducible rfl
  refine W.cond (p := true) ?_ (fun _ => ?_) (fun h => by cases h)
  ·simp only [ev_tmp, T.get_set, Nat.reduceEqDiff, if_true, if_false, evG_some]
  obtain ⟨v, C, ⟨g, hg⟩, rfl, kC⟩ := run_rget (w := o.word) hE (by omega)
  obtain ⟨D, s1, w1, n1, k1⟩ := store_vals (tb := tb4) (t := 41) (o := 1) (v := .int .u32 (((find o.word d).getD zeroE).weight : Int)) size24' (hv2.same (kC.2 _ (by omega))) (by show 1 < 3; decide) rfl rfl
  have w1' : Vals D 44 (A.next + 2) (.var 3) (repC 0 ((find o.word d).getD zeroE).weight (.slice none 0 0)) := w1
  have kCn := kC.1
  have vOD : VarO D A.next o := ⟨by omega, (vO.kp kC).2.same (k1 _ (by omega))⟩
  have lwD := vOD.word
  have z1 : Vals D 44 (A.next + 1) (.var 3) repZ := (hv1.same (kC.2 _ (by omega))).same (k1 _ (by omega))
  have kAD : Kp A D := ⟨by omega, fun z hz => by rw [k1 z (by omega), kC.2 z (by omega), hk0.2 z hz]⟩
  obtain ⟨gi, hgi⟩ := run_ris (A := D) (w := o.word)
  rw [a14l_eq]
  apply W.seq
  apply W.runG (g) 20
  ·intro M hM
   simp (disch := first | decide +kernel | omega) only [a14l, a14, Tryz.f14, Aq, Nat.reduceEqDiff, g0, g3, f38_1, lw, hg, List.getElem?_cons_zero, List.getElem?_cons_succ]
   with_reducible rfl
  apply W.seq
  apply W.run 20
  ·intro M
   simp (disch := first | decide +kernel | omega) only [a14l, a14, Tryz.f14, Aq, Nat.reduceEqDiff, g5, f53_1, s1]
   with_reducible rfl
  apply W.seq
  apply W.seq
  -- behind the first test
  have second : ∀ (t : T Value) (E : Mem) (e0 : Nat), Vals E 44 (A.next + 2) (.var 3) (repC e0 ((find o.word d).getD zeroE).weight (.slice none 0 0)) → e0 = (if (find o.word d).isSome = true then 0 else 9) → E.next = D.next → (∀ z, z ≠ A.next + 2 → E.get z = D.get z) →
    Sl t [(3, .pointer (some ⟨A.next, 0, none⟩)), (4, .pointer (some ⟨A.next + 1, 0, none⟩)), (5, .pointer (some ⟨A.next + 2, 0, none⟩))] →
    W tb4 (.seq (sub a14l [1,1,1,0]) (sub a14l [1,1,1,1])) ⟨t, 46, [], E, none⟩ (Blk 0 (Then tb4 (.seq (sub a14 [1,1,1,0]) (sub a14 [1,1,1,1])) (fun e s => (e = .nrm ∨ e = .ret) ∧ ∃ A' vs, takeF s.d s.m = .ok A' ∧ resF tb4 s.t A'.get Tryz.f14.results.toList = .ok vs ∧ RepR A' (ansD d o) (oneOf vs) ∧ Kp A A'))) := by
   rintro t E e0 vE he0 nE kE ⟨f3, f4, f5, -⟩
   have lwE : loadF tb4 E.get 9 (.pointer (some ⟨A.next, 1, none⟩)) = .ok (strOf o.word) := by
    have : VarO E A.next o := ⟨by have := vOD.1; omega, vOD.2.same (kE _ (by omega))⟩
    exact this.word
   obtain ⟨gi, hgi⟩ := run_ris (A := E) (w := o.word)
   have zE : Vals E 44 (A.next + 1) (.var 3) repZ := z1.same (kE _ (by omega))
   have kAE : Kp A E := ⟨by have := kAD.1; omega, fun z hz => by rw [kE z (by omega), kAD.2 z hz]⟩
   apply W.seq
   cases hw' : okW o.word with
   | true =>
    rw [hw'] at hgi
    apply W.runG (gi) 20
    ·intro M hM
     simp (disch := first | decide +kernel | omega) only [a14l, a14, Tryz.f14, Aq, Nat.reduceEqDiff, f3, f38_1, lwE, hgi]
     with_reducible rfl
    apply W.run 20
    ·intro M
     simp (disch := first | decide +kernel | omega) only [a14l, a14, Tryz.f14, Aq, Nat.reduceEqDiff]
     with_reducible rfl
    show W tb4 _ _ _
    have hrr : ansD d o = ⟨e0, ((find o.word d).getD zeroE).weight, []⟩ := by rw [hr, if_pos hw', he0]
    rw [hrr]
    refine a14_end (r := ⟨e0, ((find o.word d).getD zeroE).weight, []⟩) kAE (by omega) zE vE (HitE.nil _).toR ?_
    simp only [Sl_cons, Sl_nil, T.get_set, T.puts_cons, T.puts_nil, Nat.reduceEqDiff, Nat.reduceAdd, if_true, if_false, and_true, true_and, f4, f5]
   | false =>
    rw [hw'] at hgi
    obtain ⟨F, s2, v2, n2, k2⟩ := store_vals (tb := tb4) (t := 36) (o := 0) (v := .int .i64 ((7 : Nat) : Int)) size40' vE (by show 0 < 3; decide) rfl rfl
    apply W.runG (gi) 20
    ·intro M hM
     simp (disch := first | decide +kernel | omega) only [a14l, a14, Tryz.f14, Aq, Nat.reduceEqDiff, f3, f38_1, lwE, hgi]
     with_reducible rfl
    apply W.run 20
    ·intro M
     simp (disch := first | decide +kernel | omega) only [a14l, a14, Tryz.f14, Aq, Nat.reduceEqDiff, f5, f53_0, s2]
     with_reducible rfl
    show W tb4 _ _ _
    have hrr : ansD d o = ⟨7, ((find o.word d).getD zeroE).weight, []⟩ := by rw [hr, if_neg (by rw [hw']; decide)]
    rw [hrr]
    refine a14_end (r := ⟨7, ((find o.word d).getD zeroE).weight, []⟩) ⟨by have := kAE.1; omega, fun z hz => by rw [k2 z (by omega), kAE.2 z hz]⟩ (by omega) (zE.same (k2 _ (by omega))) v2 (HitE.nil _).toR ?_
    simp only [Sl_cons, Sl_nil, T.get_set, T.puts_cons, T.puts_nil, Nat.reduceEqDiff, Nat.reduceAdd, if_true, if_false, and_true, true_and, f4, f5]
  cases hf : (find o.word d).isSome with
  | true =>
   apply W.run 20
   ·intro M
    simp (disch := first | decide +kernel | omega) only [a14l, a14, Tryz.f14, Aq, Nat.reduceEqDiff, hf]
    with_reducible rfl
   apply W.run 20
   ·intro M
    simp (disch := first | decide +kernel | omega) only [a14l, a14, Tryz.f14, Aq, Nat.reduceEqDiff]
    with_reducible rfl
   refine second _ D 0 w1' (by rw [if_pos hf]) rfl (fun _ _ => rfl) ?_
   simp only [Sl_cons, Sl_nil, T.get_set, T.puts_cons, T.puts_nil, Nat.reduceEqDiff, Nat.reduceAdd, if_true, if_false, and_true, true_and, g3, g4, g5]
  | false =>
   obtain ⟨F, s2, v2, n2, k2⟩ := store_vals (tb := tb4) (t := 36) (o := 0) (v := .int .i64 ((9 : Nat) : Int)) size40' w1' (by show 0 < 3; decide) rfl rfl
   apply W.run 20
   ·intro M
    simp (disch := first | decide +kernel | omega) only [a14l, a14, Tryz.f14, Aq, Nat.reduceEqDiff, hf]
    with_reducible rfl
   apply W.run 20
   ·intro M
    simp (disch := first | decide +kernel | omega) only [a14l, a14, Tryz.f14, Aq, Nat.reduceEqDiff, g5, f53_0, s2]
    with_reducible rfl
   refine second _ F 9 v2 (by rw [if_neg (by rw [hf]; decide)]) n2 (fun z hz => k2 z hz) ?_
   simp only [Sl_cons, Sl_nil, T.get_set, T.puts_cons, T.puts_nil, Nat.reduceEqDiff, Nat.reduceAdd, if_true, if_false, and_true, true_and, g3, g4, g5]
 ·have he6 : intOpF .eql .i64 o.kind ((6 : Nat) : Int) = .ok (.bool false) := by rw [op_eqlI, decide_eq_false (show ¬ o.kind = ((6 : Nat) : Int) from h6)]
  apply W.run 20
  ·intro M
   simp (disch := first | decide +kernel | omega) only [a14, Tryz.f14, Aq, Nat.reduceEqDiff, he6]
   with_reducible rfl
  refine W.cond (p := false) ?_ (fun h => by cases h) (fun _ => ?_)
  ·simp only [ev_tmp, T.get_set, Nat.reduceEqDiff, if_true, if_false, evG_some]
  rw [a14s_eq]
  apply W.seq
  by_cases h7 : o.kind = 7
  ·have he7 : intOpF .eql .i64 o.kind ((7 : Nat) : Int) = .ok (.bool true) := by rw [op_eqlI, decide_eq_true (show o.kind = ((7 : Nat) : Int) from h7)]
   have hr : ansD d o = ⟨if badS o then 7 else 0, 0, if badS o then [] else topL o.n (nearL o.word o.k d)⟩ := by
    unfold ansD
    rw [if_neg h6, if_pos h7]
    split <;> rfl
   rw [hr]
   apply W.run 20
   ·intro M
    simp (disch := first | decide +kernel | omega) only [a14s, a14, Tryz.f14, Aq, Nat.reduceEqDiff, he7]
    with_reducible rfl
   refine W.cond (p := true) ?_ (fun _ => ?_) (fun h => by cases h)
   ·simp only [ev_tmp, T.get_set, Nat.reduceEqDiff, if_true, if_false, evG_some]
   have lkk := vO.k
   have ln := vO.n
   obtain ⟨v, C, ⟨g, hg⟩, y, rfl, hy, kC⟩ := run_rsug (o := o) hE hl hw
   have kCn := kC.1
   obtain ⟨D, s1, w1, n1, k1⟩ := store_vals (tb := tb4) (t := 42) (o := 2) (v := y) size51 (hv2.same (kC.2 _ (by omega))) (by show 2 < 3; decide) hy.cells.1 hy.cells.2.1
   obtain ⟨E, s2, w2, n2, k2⟩ := store_vals (tb := tb4) (t := 36) (o := 0) (v := .int .i64 ((if badS o then 7 else 0 : Nat) : Int)) size40' w1 (by show 0 < 3; decide) rfl rfl
   have w2' : Vals E 44 (A.next + 2) (.var 3) (repC (if badS o then 7 else 0) 0 y) := w2
   apply W.runG (g) 20
   ·intro M hM
    simp (disch := first | decide +kernel | omega) only [a14s, a14, Tryz.f14, Aq, Nat.reduceEqDiff, g0, g3, g5, f38_1, f38_3, f38_4, lw, lkk, ln, hg, List.getElem?_cons_zero, List.getElem?_cons_succ, f53_0, f53_2, s1, s2]
    with_reducible rfl
   show W tb4 _ _ _
   refine a14_end (r := ⟨if badS o then 7 else 0, 0, if badS o then [] else topL o.n (nearL o.word o.k d)⟩) ⟨by omega, fun z hz => by rw [k2 z (by omega), k1 z (by omega), kC.2 z (by omega), hk0.2 z hz]⟩ (by omega) (((hv1.same (kC.2 _ (by omega))).same (k1 _ (by omega))).same (k2 _ (by omega))) w2' ?_ ?_
   ·exact HitR.put hy (q := A.next + 2) (Vals.not (hv2.same (kC.2 _ (by omega))) (by decide)) (by omega) (fun z hz hne => by rw [k2 z hne, k1 z hne])
   ·simp only [Sl_cons, Sl_nil, T.get_set, T.puts_cons, T.puts_nil, Nat.reduceEqDiff, Nat.reduceAdd, if_true, if_false, and_true, true_and, g4, g5]
  ·have he7 : intOpF .eql .i64 o.kind ((7 : Nat) : Int) = .ok (.bool false) := by rw [op_eqlI, decide_eq_false (show ¬ o.kind = ((7 : Nat) : Int) from h7)]
   have hr : ansD d o = ⟨2, 0, []⟩ := by unfold ansD; rw [if_neg h6, if_neg h7]
   obtain ⟨D, s1, w1, n1, k1⟩ := store_vals (tb := tb4) (t := 36) (o := 0) (v := .int .i64 ((2 : Nat) : Int)) size40' hv2 (by show 0 < 3; decide) rfl rfl
   rw [hr]
   apply W.run 20
   ·intro M
    simp (disch := first | decide +kernel | omega) only [a14s, a14, Tryz.f14, Aq, Nat.reduceEqDiff, he7]
    with_reducible rfl
   refine W.cond (p := false) ?_ (fun h => by cases h) (fun _ => ?_)
   ·simp only [ev_tmp, T.get_set, Nat.reduceEqDiff, if_true, if_false, evG_some]
   apply W.run 20
   ·intro M
    simp (disch := first | decide +kernel | omega) only [a14s, a14, Tryz.f14, Aq, Nat.reduceEqDiff, g5, f53_0, s1]
    with_reducible rfl
   show W tb4 _ _ _
   refine a14_end (r := ⟨2, 0, []⟩) ⟨by omega, fun z hz => by rw [k1 z (by omega), hk0.2 z hz]⟩ (by omega) (hv1.same (k1 _ (by omega))) w1 (HitE.nil _).toR ?_
   simp only [Sl_cons, Sl_nil, T.get_set, T.puts_cons, T.puts_nil, Nat.reduceEqDiff, Nat.reduceAdd, if_true, if_false, and_true, true_and, g4, g5]
end Go.Proofs.YtnelkapmmgggdaaGreat.mdl

/-
 Model: the document's Do.
-/
namespace Go.Proofs.YtnelkapmmgggdaaGreat.mdl
open Go.Am Go.Mdl
open Go.Proofs.YtnelkapmmgggdaaGreat.rnk (HitD hitC ordD lessB sortH ordK lessK hitC_len sortH_len)
set_option linter.unusedSimpArgs false
set_option linter.unusedVariables false
set_option linter.unusedVariables false

theorem ModR.kp {A A' : Mem} {q : Nat} {s : MdlS} (h : ModR A q s) (k : Kp A A') : ModR A' q s := by
 obtain ⟨x, h1, h2, h3⟩ := h
 exact ⟨x, Nat.lt_of_lt_of_le h1 k.1, h2.same (k.2 _ h1), h3.kp k⟩
theorem EntE.kr {A A' : Mem} {q : Nat} {l : List EntD} {x : Value} {ls : List Value} (h : EntE A l x) (hv : Vals A 33 q (.var 3) ls) (k : Kq q A A') : EntE A' l x := by
 obtain ⟨b, h⟩ := h
 exact ⟨b, SlcM.put h (Vals.not hv (by decide)) k.1 k.2⟩
theorem ModR.bad {A : Mem} {q : Nat} {s : MdlS} (h : ModR A q s) : loadF tb4 A.get 4 (.pointer (some ⟨q, 1, none⟩)) = .ok (.bool s.bad) := by
 obtain ⟨x, h1, h2, h3⟩ := h
 exact load_vals und4' rfl h2 rfl
theorem ModR.closed {A : Mem} {q : Nat} {s : MdlS} (h : ModR A q s) : loadF tb4 A.get 4 (.pointer (some ⟨q, 2, none⟩)) = .ok (.bool s.closed) := by
 obtain ⟨x, h1, h2, h3⟩ := h
 exact load_vals und4' rfl h2 rfl
theorem ModR.d {A : Mem} {q : Nat} {s : MdlS} (h : ModR A q s) : ∃ x, loadF tb4 A.get 24 (.pointer (some ⟨q, 0, none⟩)) = .ok x ∧ EntE A s.d x := by
 obtain ⟨x, h1, h2, h3⟩ := h
 exact ⟨x, load_vals und32' rfl h2 rfl, h3⟩
theorem ModR.setBad {A : Mem} {q : Nat} {s : MdlS} (h : ModR A q s) (p : Bool) : ∃ A', storeF tb4 A 4 (.pointer (some ⟨q, 1, none⟩)) (.bool p) = .ok A' ∧ ModR A' q ⟨s.d, p, s.closed⟩ ∧ A'.next = A.next ∧ ∀ z, z ≠ q → A'.get z = A.get z := by
 obtain ⟨x, h1, h2, h3⟩ := h
 obtain ⟨A', s1, v1, n1, k1⟩ := store_vals (tb := tb4) (t := 4) (o := 1) (v := .bool p) size4' h2 (by show 1 < 3; decide) rfl rfl
 exact ⟨A', s1, ⟨x, by omega, v1, h3.kr h2 ⟨by omega, fun z _ hz => k1 z hz⟩⟩, n1, k1⟩
theorem ModR.setClosed {A : Mem} {q : Nat} {s : MdlS} (h : ModR A q s) (p : Bool) : ∃ A', storeF tb4 A 4 (.pointer (some ⟨q, 2, none⟩)) (.bool p) = .ok A' ∧ ModR A' q ⟨s.d, s.bad, p⟩ ∧ A'.next = A.next ∧ ∀ z, z ≠ q → A'.get z = A.get z := by
 obtain ⟨x, h1, h2, h3⟩ := h
 obtain ⟨A', s1, v1, n1, k1⟩ := store_vals (tb := tb4) (t := 4) (o := 2) (v := .bool p) size4' h2 (by show 2 < 3; decide) rfl rfl
 exact ⟨A', s1, ⟨x, by omega, v1, h3.kr h2 ⟨by omega, fun z _ hz => k1 z hz⟩⟩, n1, k1⟩
theorem ModR.setD {A : Mem} {q : Nat} {s : MdlS} {d : List EntD} {y : Value} (h : ModR A q s) (hy : EntE A d y) : ∃ A', storeF tb4 A 24 (.pointer (some ⟨q, 0, none⟩)) y = .ok A' ∧ ModR A' q ⟨d, s.bad, s.closed⟩ ∧ A'.next = A.next ∧ ∀ z, z ≠ q → A'.get z = A.get z := by
 obtain ⟨x, h1, h2, h3⟩ := h
 obtain ⟨A', s1, v1, n1, k1⟩ := store_vals (tb := tb4) (t := 24) (o := 0) (v := y) size32 h2 (by show 0 < 3; decide) hy.cells.1 hy.cells.2.1
 exact ⟨A', s1, ⟨y, by omega, v1, hy.kr h2 ⟨by omega, fun z _ hz => k1 z hz⟩⟩, n1, k1⟩
theorem ModR.lt {A : Mem} {q : Nat} {s : MdlS} (h : ModR A q s) : q < A.next := by obtain ⟨x, h1, _⟩ := h; exact h1
theorem ModR.v {A : Mem} {q : Nat} {s : MdlS} (h : ModR A q s) : ∃ ls, Vals A 33 q (.var 3) ls := by obtain ⟨x, _, h2, _⟩ := h; exact ⟨_, h2⟩
theorem ModR.rep {A A' : Mem} {q p : Nat} {s : MdlS} {ls : List Value} (h : ModR A q s) (vR : Vals A 44 p (.var 3) ls) (hn : A'.next = A.next) (hk : ∀ z, z ≠ p → A'.get z = A.get z) : ModR A' q s := by
 obtain ⟨x, h1, h2, b, h3⟩ := h
 have hne : q ≠ p := fun e => by
  obtain ⟨c, hc, -⟩ := h2
  rw [e] at hc
  exact Vals.not vR (by decide) _ _ _ hc
 exact ⟨x, by omega, h2.same (hk _ hne), b, SlcM.put h3 (Vals.not vR (by decide)) (by omega) (fun z _ hz => hk z hz)⟩
theorem fr0 {b : Nat} : fieldAddrF tb4 33 (.pointer (some ⟨b, 0, none⟩)) 0 = .ok (.pointer (some ⟨b, 0, none⟩)) := by kernel_rfl
theorem fr1 {b : Nat} : fieldAddrF tb4 33 (.pointer (some ⟨b, 0, none⟩)) 1 = .ok (.pointer (some ⟨b, 1, none⟩)) := by kernel_rfl
theorem fr2 {b : Nat} : fieldAddrF tb4 33 (.pointer (some ⟨b, 0, none⟩)) 2 = .ok (.pointer (some ⟨b, 2, none⟩)) := by kernel_rfl
theorem bld53z : buildF tb4 44 [] = .ok (.agg ⟨repC 0 0 (.slice none 0 0)⟩) := by kernel_rfl
theorem rep_out {C : Mem} {p q e' w' : Nat} {s : MdlS} {y : Value} (m : ModR C q s) (vR : Vals C 44 p (.var 3) repZ) (hy : oneCell y = true) :
  ∃ D, storeF tb4 C 44 (.pointer (some ⟨p, 0, none⟩)) (.agg ⟨repC e' w' y⟩) = .ok D ∧ Vals D 44 p (.var 3) (repC e' w' y) ∧ ModR D q s ∧ D.next = C.next ∧ ∀ z, z ≠ p → D.get z = C.get z := by
 obtain ⟨D, s1, v1, -, n1, k1⟩ := rep_store (e' := e') (w' := w') (x' := y) vR hy
 exact ⟨D, s1, v1, m.rep vR n1 k1, n1, k1⟩
noncomputable def d17 : Code := Tryz.f17.body.getD .skip
theorem d17_eq : Tryz.f17.body = some (.seq (sub d17 [0]) (.seq (.seq (sub d17 [1,0,0]) (sub d17 [1,0,1])) (.seq (.seq (sub d17 [1,1,0,0]) (sub d17 [1,1,0,1])) (.seq (.seq (sub d17 [1,1,1,0,0]) (sub d17 [1,1,1,0,1])) (.seq (.seq (sub d17 [1,1,1,1,0,0]) (sub d17 [1,1,1,1,0,1])) (.seq (.seq (sub d17 [1,1,1,1,1,0,0]) (sub d17 [1,1,1,1,1,0,1])) (.seq (.seq (sub d17 [1,1,1,1,1,1,0,0]) (sub d17 [1,1,1,1,1,1,0,1])) (.seq (sub d17 [1,1,1,1,1,1,1,0]) (.seq (.seq (sub d17 [1,1,1,1,1,1,1,1,0,0]) (sub d17 [1,1,1,1,1,1,1,1,0,1])) (.seq (.seq (sub d17 [1,1,1,1,1,1,1,1,1,0,0]) (sub d17 [1,1,1,1,1,1,1,1,1,0,1])) (.seq (sub d17 [1,1,1,1,1,1,1,1,1,1,0]) (.seq (sub d17 [1,1,1,1,1,1,1,1,1,1,1,0]) (sub d17 [1,1,1,1,1,1,1,1,1,1,1,1]))))))))))))) := by kernel_rfl
theorem d17r_eq : sub d17 [1,1,1,1,1,0,1] = .cond (.tmp 56) (.seq (sub d17 [1,1,1,1,1,0,1,0,0]) (.seq (sub d17 [1,1,1,1,1,0,1,0,1,0]) (.seq (sub d17 [1,1,1,1,1,0,1,0,1,1,0]) (sub d17 [1,1,1,1,1,0,1,0,1,1,1])))) (sub d17 [1,1,1,1,1,0,1,1]) := by kernel_rfl
theorem d17u_eq : sub d17 [1,1,1,1,1,1,1,1,0,1] = .cond (.tmp 87) (.seq (sub d17 [1,1,1,1,1,1,1,1,0,1,0,0]) (.seq (.seq (sub d17 [1,1,1,1,1,1,1,1,0,1,0,1,0,0]) (sub d17 [1,1,1,1,1,1,1,1,0,1,0,1,0,1])) (sub d17 [1,1,1,1,1,1,1,1,0,1,0,1,1]))) (sub d17 [1,1,1,1,1,1,1,1,0,1,1]) := by kernel_rfl
abbrev PostD (A : Mem) (q : Nat) (p : MdlS × RepD) (e : Ex) (s : St) : Prop := (e = .nrm ∨ e = .ret) ∧ ∃ A' vs, takeF s.d s.m = .ok A' ∧ resF tb4 s.t A'.get Tryz.f17.results.toList = .ok vs ∧ RepR A' p.2 (oneOf vs) ∧ ModR A' q p.1 ∧ Kq q A A'
theorem d17_out {A C : Mem} {q : Nat} {p : MdlS × RepD} {y : Value} {t : T Value} (m : ModR C q p.1) (v : Vals C 44 (A.next + 1) (.var 3) (repC p.2.err p.2.weight y)) (hy : HitR C p.2.hits y) (k : Kq q A C) (h6 : t.get 6 = some (.pointer (some ⟨A.next + 1, 0, none⟩))) : PostD A q p .ret ⟨t, 114, [], C, none⟩ := by
 refine ⟨.inr rfl, C, [.agg ⟨repC p.2.err p.2.weight y⟩], rfl, ?_, ⟨y, rfl, hy⟩, m, k⟩
 have l := repl_load v
 simp only [Tryz.f17, resF, ev_tmp, T.get_set, T.puts_cons, T.puts_nil, Nat.reduceEqDiff, if_true, if_false, evG_some, R.ok_bind, h6, l]
theorem Kq.st {A C D : Mem} {q p : Nat} (k : Kq q A C) (hp : A.next ≤ p) (hn : C.next ≤ D.next) (hk : ∀ z, z < C.next → z ≠ q → z ≠ p → D.get z = C.get z) : Kq q A D :=
 ⟨Nat.le_trans k.1 hn, fun z hz hne => by rw [hk z (Nat.lt_of_lt_of_le hz k.1) hne (by omega), k.2 z hz hne]⟩
def docD (s : MdlS) (o : OpV) (told : Nat) : MdlS × RepD :=
 if s.closed = true then (s, ⟨14, 0, []⟩)
 else if (updB o = true ∧ okW o.word = false) ∨ o.kind < 0 ∨ 8 < o.kind then (s, ⟨7, 0, []⟩)
 else if o.kind = 6 ∨ o.kind = 7 then (s, ansD s.d o)
 else if o.kind = 8 then ((reopD s told).1, ⟨told, 0, []⟩)
 else if s.bad = true then (s, ⟨11, 0, []⟩)
 else if updB o = true ∧ (stepP s.d o).2 ≠ 0 then (s, ⟨(stepP s.d o).2, 0, []⟩)
 else if told ≠ 0 then (⟨s.d, true, s.closed⟩, ⟨told, 0, []⟩)
 else (⟨if updB o = true then (stepP s.d o).1 else s.d, s.bad, s.closed⟩, ⟨0, 0, []⟩)
theorem runU_one (d : List EntD) (o : OpV) : runU [o] (d, 0) = stepP d o := by
 show ((stepP d o).1, (stepP d o).2) = _
 rfl
theorem docD_eq (s : MdlS) (o : OpV) (told : Nat) : docD s o (toldD told) = doD s o told := by
 unfold docD doD
 by_cases hc : s.closed = true
 ·rw [if_pos hc, if_pos hc]
 rw [if_neg hc, if_neg hc]
 generalize toldD told = w
 by_cases hu : updB o = true
 ·have hk := of_decide_eq_true hu
  have ha : actK o.kind = some 57 := by unfold actK; rw [if_pos hk]
  have h67 : ¬ (o.kind = 6 ∨ o.kind = 7) := by omega
  have h8 : ¬ o.kind = 8 := by omega
  rw [ha]
  show _ = actD 57 s o w
  unfold actD
  rw [if_pos rfl]
  unfold changeD
  rw [runU_one]
  by_cases hw : okW o.word = false
  ·rw [if_pos (.inl ⟨hu, hw⟩), step_bad hu hw]
   unfold chE chT
   simp
  ·rw [if_neg (fun h => by rcases h with h | h; exact hw h.2; omega), if_neg h67, if_neg h8]
   have hne : (stepP s.d o).2 ≠ 7 := by
    have hw' : okW o.word = true := by simpa using hw
    cases hf : (find o.word s.d).isSome with
    | true =>
     by_cases h0 : o.kind = 0
     ·rw [step_twice h0 hw' hf]; intro h; cases h
     ·rw [step_done hu hw' (by rw [hf, decide_eq_false h0]; rfl)]; intro h; cases h
    | false =>
     by_cases h0 : o.kind = 0
     ·rw [step_done hu hw' (by rw [hf, decide_eq_true h0]; rfl)]; intro h; cases h
     ·rw [step_lack hu h0 hw' hf]; intro h; cases h
   by_cases hb : s.bad = true
   ·rw [if_pos hb]
    have e : chE s.bad (stepP s.d o).2 = 11 := by unfold chE; rw [if_pos ⟨hne, hb⟩]
    rw [e]
    rfl
   ·rw [if_neg hb]
    have e : chE s.bad (stepP s.d o).2 = (stepP s.d o).2 := by unfold chE; rw [if_neg (fun h => hb h.2)]
    rw [e]
    unfold chT keepD
    rw [if_neg hb]
    by_cases he : (stepP s.d o).2 ≠ 0
    ·rw [if_pos ⟨hu, he⟩, if_pos he]
    ·rw [if_neg (fun h => he h.2), if_neg he, if_pos hu]
     have hb' : s.bad = false := by simpa using hb
     by_cases hw0 : w = 0
     ·simp [hw0, hb']
     ·simp [hw0]
 ·have hu' := of_decide_eq_false (p := o.kind = 0 ∨ o.kind = 1 ∨ o.kind = 2) (by simpa [updB] using hu)
  by_cases hr : o.kind < 0 ∨ 8 < o.kind
  ·rw [if_pos (.inr hr)]
   have ha : actK o.kind = none := by unfold actK; rw [if_neg hu', if_neg (by omega), if_neg (by omega), if_neg (by omega)]
   rw [ha]
  rw [if_neg (fun h => by rcases h with h | h; exact hu h.1; exact hr h)]
  by_cases h67 : o.kind = 6 ∨ o.kind = 7
  ·rw [if_pos h67]
   have ha : actK o.kind = some 59 := by unfold actK; rw [if_neg hu', if_neg (by omega), if_pos h67]
   rw [ha]
   rfl
  rw [if_neg h67]
  by_cases h8 : o.kind = 8
  ·rw [if_pos h8]
   have ha : actK o.kind = some 60 := by unfold actK; rw [if_neg hu', if_neg (by omega), if_neg h67, if_pos h8]
   rw [ha]
   rfl
  rw [if_neg h8]
  have ha : actK o.kind = some 58 := by unfold actK; rw [if_neg hu', if_pos (by omega)]
  rw [ha]
  show _ = actD 58 s o w
  unfold actD keepD
  rw [if_neg (show ¬ (58 = 57) by decide), if_pos rfl]
  by_cases hb : s.bad = true
  ·rw [if_pos hb, if_pos hb]
  ·have hb' : s.bad = false := by simpa using hb
   rw [if_neg hb, if_neg (fun h => hu h.1), if_neg hu]
   by_cases hw0 : w = 0
   ·simp [hw0, hb']
   ·simp [hw0, hb']
end Go.Proofs.YtnelkapmmgggdaaGreat.mdl

/-
 Model: the document's Do, run.
-/
namespace Go.Proofs.YtnelkapmmgggdaaGreat.mdl
open Go.Am Go.Mdl
open Go.Proofs.YtnelkapmmgggdaaGreat.rnk (HitD hitC ordD lessB sortH ordK lessK hitC_len sortH_len)
set_option linter.unusedSimpArgs false
set_option linter.unusedVariables false
set_option linter.unusedVariables false

abbrev slD (A : Mem) (q told : Nat) : List (Nat × Value) := [(0, .pointer (some ⟨q, 0, none⟩)), (2, .int .i64 (told : Int)), (4, .pointer (some ⟨A.next, 0, none⟩)), (6, .pointer (some ⟨A.next + 1, 0, none⟩))]
theorem d17_done {A C : Mem} {q told : Nat} {s : MdlS} {d' : List EntD} {y : Value} {t : T Value} {p : MdlS × RepD} (hq : q < A.next) (m : ModR C q s) (hy : EntE C d' y) (vR : Vals C 44 (A.next + 1) (.var 3) repZ) (k : Kq q A C) (hn : A.next + 2 ≤ C.next)
  (hp : p = if told ≠ 0 then (⟨s.d, true, s.closed⟩, ⟨told, 0, []⟩) else (⟨d', s.bad, s.closed⟩, ⟨0, 0, []⟩)) (ht : Sl t ((7, y) :: slD A q told)) :
  W tb4 (.seq (.seq (sub d17 [1,1,1,1,1,1,1,1,1,0,0]) (sub d17 [1,1,1,1,1,1,1,1,1,0,1])) (.seq (sub d17 [1,1,1,1,1,1,1,1,1,1,0]) (.seq (sub d17 [1,1,1,1,1,1,1,1,1,1,1,0]) (sub d17 [1,1,1,1,1,1,1,1,1,1,1,1])))) ⟨t, 114, [], C, none⟩ (PostD A q p) := by
 obtain ⟨g7, g0, g2, g4, g6, -⟩ := ht
 apply W.seq
 apply W.seq
 by_cases h0 : told = 0
 ·subst h0
  rw [if_neg (fun h => h rfl)] at hp
  obtain ⟨D, s1, m1, n1, k1⟩ := m.setD hy
  have v1 := vR.same (k1 (A.next + 1) (by omega))
  obtain ⟨E, s2, v2, m2, n2, k2⟩ := rep_out (e' := 0) (w' := 0) (y := .slice none 0 0) m1 v1 rfl
  apply W.run 20
  ·intro M
   simp (disch := first | decide +kernel | omega) only [d17, Tryz.f17, Aq, Nat.reduceEqDiff, g2]
   with_reducible rfl
  apply W.run 20
  ·intro M
   simp (disch := first | decide +kernel | omega) only [d17, Tryz.f17, Aq, Nat.reduceEqDiff]
   with_reducible rfl
  apply W.seq
  apply W.run 20
  ·intro M
   simp (disch := first | decide +kernel | omega) only [d17, Tryz.f17, Aq, Nat.reduceEqDiff, g0, g7, opF_nilCheck, nil_ptr, fr0, s1]
   with_reducible rfl
  apply W.seq
  apply W.run 20
  ·intro M
   simp (disch := first | decide +kernel | omega) only [d17, Tryz.f17, Aq, Nat.reduceEqDiff, g6, bld53z, s2]
   with_reducible rfl
  apply W.run 20
  ·intro M
   simp (disch := first | decide +kernel | omega) only [d17, Tryz.f17, Aq, Nat.reduceEqDiff]
   with_reducible rfl
  refine d17_out (y := .slice none 0 0) (by rw [hp]; exact m2) (by rw [hp]; exact v2) (by rw [hp]; exact (HitE.nil _).toR) (k.st (p := A.next + 1) (by omega) (by omega) fun z hz h1 h2 => by rw [k2 z h2, k1 z h1]) ?_
  simp only [T.get_set, T.puts_cons, T.puts_nil, Nat.reduceEqDiff, Nat.reduceAdd, if_true, if_false, g6]
 ·rw [if_pos h0] at hp
  obtain ⟨D, s1, m1, n1, k1⟩ := m.setBad true
  have v1 := vR.same (k1 (A.next + 1) (by omega))
  obtain ⟨E, s2, v2, m2, n2, k2⟩ := rep_out (e' := told) (w' := 0) (y := .slice none 0 0) m1 v1 rfl
  apply W.run 20
  ·intro M
   simp (disch := first | decide +kernel | omega) only [d17, Tryz.f17, Aq, Nat.reduceEqDiff, g2, h0]
   with_reducible rfl
  apply W.run 20
  ·intro M
   simp (disch := first | decide +kernel | omega) only [d17, Tryz.f17, Aq, Nat.reduceEqDiff, g0, g2, g6, opF_nilCheck, nil_ptr, fr1, s1, bld53, s2]
   with_reducible rfl
  refine d17_out (y := .slice none 0 0) (by rw [hp]; exact m2) (by rw [hp]; exact v2) (by rw [hp]; exact (HitE.nil _).toR) (k.st (p := A.next + 1) (by omega) (by omega) fun z hz h1 h2 => by rw [k2 z h2, k1 z h1]) ?_
  simp only [T.get_set, T.puts_cons, T.puts_nil, Nat.reduceEqDiff, Nat.reduceAdd, if_true, if_false, g6]
theorem d17_upd {A C : Mem} {q told : Nat} {s : MdlS} {o : OpV} {t : T Value} {p : MdlS × RepD} (hq : q < A.next) (m : ModR C q s) (hd : OkM s.d) (vO : VarO C A.next o) (vR : Vals C 44 (A.next + 1) (.var 3) repZ) (k : Kq q A C) (hn : A.next + 2 ≤ C.next)
  (hp : p = if updB o = true ∧ (stepP s.d o).2 ≠ 0 then (s, ⟨(stepP s.d o).2, 0, []⟩) else if told ≠ 0 then (⟨s.d, true, s.closed⟩, ⟨told, 0, []⟩)
   else (⟨if updB o = true then (stepP s.d o).1 else s.d, s.bad, s.closed⟩, ⟨0, 0, []⟩)) (ht : Sl t (slD A q told)) :
  W tb4 (.seq (sub d17 [1,1,1,1,1,1,1,0]) (.seq (.seq (sub d17 [1,1,1,1,1,1,1,1,0,0]) (sub d17 [1,1,1,1,1,1,1,1,0,1])) (.seq (.seq (sub d17 [1,1,1,1,1,1,1,1,1,0,0]) (sub d17 [1,1,1,1,1,1,1,1,1,0,1])) (.seq (sub d17 [1,1,1,1,1,1,1,1,1,1,0]) (.seq (sub d17 [1,1,1,1,1,1,1,1,1,1,1,0]) (sub d17 [1,1,1,1,1,1,1,1,1,1,1,1])))))) ⟨t, 114, [], C, none⟩ (PostD A q p) := by
 obtain ⟨g0, g2, g4, g6, -⟩ := ht
 obtain ⟨x, lx, hx⟩ := m.d
 obtain ⟨vu, D, ⟨gu, hgu⟩, rfl, kD⟩ := run_rupd (A := C) (o := o)
 have lo := vO.all
 have mD := m.kp kD
 have vOD := vO.kp kD
 have vRD := vR.same (kD.2 (A.next + 1) (by omega))
 have kAD : Kq q A D := k.trans (kD.kq q)
 have hnD : A.next + 2 ≤ D.next := by have := kD.1; omega
 have hxD := hx.kp kD
 apply W.seq
 apply W.run 20
 ·intro M
  simp (disch := first | decide +kernel | omega) only [d17, Tryz.f17, Aq, Nat.reduceEqDiff, g0, opF_nilCheck, nil_ptr, fr0, lx]
  with_reducible rfl
 apply W.seq
 apply W.seq
 cases hu : updB o with
 | false =>
  rw [hu] at hgu
  rw [hu, if_neg (fun h => by cases h.1)] at hp
  simp only [Bool.false_eq_true, if_false] at hp
  apply W.runG (gu) 20
  ·intro M hM
   simp (disch := first | decide +kernel | omega) only [d17, Tryz.f17, Aq, Nat.reduceEqDiff, g4, lo, hgu]
   with_reducible rfl
  apply W.run 20
  ·intro M
   simp (disch := first | decide +kernel | omega) only [d17, Tryz.f17, Aq, Nat.reduceEqDiff]
   with_reducible rfl
  show W tb4 _ _ _
  refine d17_done hq mD hxD vRD kAD hnD hp ?_
  simp only [Sl_cons, Sl_nil, T.get_set, T.puts_cons, T.puts_nil, Nat.reduceEqDiff, Nat.reduceAdd, if_true, if_false, and_true, true_and, g0, g2, g4, g6]
 | true =>
  rw [hu] at hgu
  rw [hu, if_pos rfl] at hp
  have loD := vOD.all
  obtain ⟨x2, lx2, hx2⟩ := mD.d
  obtain ⟨v, E, ⟨g1, hg1⟩, y, rfl, hy, kE⟩ := run_r1 (o := o) hx2 hd.1 (by have := hd.2.1; omega)
  have mE := mD.kp kE
  have vRE := vRD.same (kE.2 (A.next + 1) (by omega))
  have kAE : Kq q A E := kAD.trans (kE.kq q)
  have hnE : A.next + 2 ≤ E.next := by have := kE.1; omega
  rw [d17u_eq]
  apply W.runG (gu) 20
  ·intro M hM
   simp (disch := first | decide +kernel | omega) only [d17, Tryz.f17, Aq, Nat.reduceEqDiff, g4, lo, hgu]
   with_reducible rfl
  show W tb4 _ _ _
  refine W.cond (p := true) ?_ (fun _ => ?_) (fun h => by cases h)
  ·simp only [ev_tmp, T.get_set, Nat.reduceEqDiff, if_true, if_false, evG_some]
  apply W.seq
  apply W.runG (g1) 20
  ·intro M hM
   simp (disch := first | decide +kernel | omega) only [d17, Tryz.f17, Aq, Nat.reduceEqDiff, g0, g4, opF_nilCheck, nil_ptr, fr0, lx2, loD, hg1, List.getElem?_cons_zero, List.getElem?_cons_succ]
   with_reducible rfl
  apply W.seq
  apply W.seq
  by_cases he : (stepP s.d o).2 = 0
  ·rw [if_neg (fun h => h.2 he)] at hp
   rw [he]
   apply W.run 20
   ·intro M
    simp (disch := first | decide +kernel | omega) only [d17, Tryz.f17, Aq, Nat.reduceEqDiff]
    with_reducible rfl
   apply W.run 20
   ·intro M
    simp (disch := first | decide +kernel | omega) only [d17, Tryz.f17, Aq, Nat.reduceEqDiff]
    with_reducible rfl
   apply W.run 20
   ·intro M
    simp (disch := first | decide +kernel | omega) only [d17, Tryz.f17, Aq, Nat.reduceEqDiff]
    with_reducible rfl
   show W tb4 _ _ _
   refine d17_done hq mE hy vRE kAE hnE hp ?_
   simp only [Sl_cons, Sl_nil, T.get_set, T.puts_cons, T.puts_nil, Nat.reduceEqDiff, Nat.reduceAdd, if_true, if_false, and_true, true_and, g0, g2, g4, g6]
  ·rw [if_pos ⟨rfl, he⟩] at hp
   obtain ⟨F, s2, v2, m2, n2, k2⟩ := rep_out (e' := (stepP s.d o).2) (w' := 0) (y := .slice none 0 0) mE vRE rfl
   apply W.run 20
   ·intro M
    simp (disch := first | decide +kernel | omega) only [d17, Tryz.f17, Aq, Nat.reduceEqDiff, he]
    with_reducible rfl
   apply W.run 20
   ·intro M
    simp (disch := first | decide +kernel | omega) only [d17, Tryz.f17, Aq, Nat.reduceEqDiff, g6, bld53, s2]
    with_reducible rfl
   refine d17_out (y := .slice none 0 0) (by rw [hp]; exact m2) (by rw [hp]; exact v2) (by rw [hp]; exact (HitE.nil _).toR) (kAE.st (p := A.next + 1) (by omega) (by omega) fun z hz h1 h2 => k2 z h2) ?_
   simp only [T.get_set, T.puts_cons, T.puts_nil, Nat.reduceEqDiff, Nat.reduceAdd, if_true, if_false, g6]
theorem d17_mid {A C : Mem} {q told : Nat} {s : MdlS} {o : OpV} {t : T Value} {p : MdlS × RepD} (hq : q < A.next) (m : ModR C q s) (hd : OkM s.d) (vO : VarO C A.next o) (vR : Vals C 44 (A.next + 1) (.var 3) repZ) (k : Kq q A C) (hn : A.next + 2 ≤ C.next)
  (hp : p = if o.kind = 6 ∨ o.kind = 7 then (s, ansD s.d o) else if o.kind = 8 then ((reopD s told).1, ⟨told, 0, []⟩) else if s.bad = true then (s, ⟨11, 0, []⟩)
   else if updB o = true ∧ (stepP s.d o).2 ≠ 0 then (s, ⟨(stepP s.d o).2, 0, []⟩) else if told ≠ 0 then (⟨s.d, true, s.closed⟩, ⟨told, 0, []⟩)
   else (⟨if updB o = true then (stepP s.d o).1 else s.d, s.bad, s.closed⟩, ⟨0, 0, []⟩)) (ht : Sl t (slD A q told)) :
  W tb4 (.seq (.seq (sub d17 [1,1,1,1,0,0]) (sub d17 [1,1,1,1,0,1])) (.seq (.seq (sub d17 [1,1,1,1,1,0,0]) (sub d17 [1,1,1,1,1,0,1])) (.seq (.seq (sub d17 [1,1,1,1,1,1,0,0]) (sub d17 [1,1,1,1,1,1,0,1])) (.seq (sub d17 [1,1,1,1,1,1,1,0]) (.seq (.seq (sub d17 [1,1,1,1,1,1,1,1,0,0]) (sub d17 [1,1,1,1,1,1,1,1,0,1])) (.seq (.seq (sub d17 [1,1,1,1,1,1,1,1,1,0,0]) (sub d17 [1,1,1,1,1,1,1,1,1,0,1])) (.seq (sub d17 [1,1,1,1,1,1,1,1,1,1,0]) (.seq (sub d17 [1,1,1,1,1,1,1,1,1,1,1,0]) (sub d17 [1,1,1,1,1,1,1,1,1,1,1,1]))))))))) ⟨t, 114, [], C, none⟩ (PostD A q p) := by
 obtain ⟨g0, g2, g4, g6, -⟩ := ht
 have lk := vO.kind
 have lo := vO.all
 have asked : ∀ t : T Value, o.kind = 6 ∨ o.kind = 7 → Sl t (slD A q told) → t.get 47 = some (.bool true) → W tb4 (sub d17 [1,1,1,1,0,1]) ⟨t, 114, [], C, none⟩ (Then tb4 (.seq (.seq (sub d17 [1,1,1,1,1,0,0]) (sub d17 [1,1,1,1,1,0,1])) (.seq (.seq (sub d17 [1,1,1,1,1,1,0,0]) (sub d17 [1,1,1,1,1,1,0,1])) (.seq (sub d17 [1,1,1,1,1,1,1,0]) (.seq (.seq (sub d17 [1,1,1,1,1,1,1,1,0,0]) (sub d17 [1,1,1,1,1,1,1,1,0,1])) (.seq (.seq (sub d17 [1,1,1,1,1,1,1,1,1,0,0]) (sub d17 [1,1,1,1,1,1,1,1,1,0,1])) (.seq (sub d17 [1,1,1,1,1,1,1,1,1,1,0]) (.seq (sub d17 [1,1,1,1,1,1,1,1,1,1,1,0]) (sub d17 [1,1,1,1,1,1,1,1,1,1,1,1])))))))) (PostD A q p)) := by
  rintro t h67 ⟨g0, g2, g4, g6, -⟩ h47
  rw [if_pos h67] at hp
  obtain ⟨x, lx, hx⟩ := m.d
  obtain ⟨v, D, ⟨g, hg⟩, ⟨y, rfl, hy⟩, kD⟩ := run_ranswer (o := o) hx (by have := hd.2.1; omega) hd.2.2
  have vRD := vR.same (kD.2 (A.next + 1) (by omega))
  obtain ⟨E, s2, v2, m2, n2, k2⟩ := rep_out (e' := (ansD s.d o).err) (w' := (ansD s.d o).weight) (y := y) (m.kp kD) vRD hy.cells.2.1
  have hnD := kD.1
  apply W.runG (g) 20
  ·intro M hM
   simp (disch := first | decide +kernel | omega) only [d17, Tryz.f17, Aq, Nat.reduceEqDiff, h47, g0, g4, g6, opF_nilCheck, nil_ptr, fr0, lx, lo, hg, s2]
   with_reducible rfl
  refine d17_out (y := y) (by rw [hp]; exact m2) (by rw [hp]; exact v2) (by rw [hp]; exact HitR.put hy (q := A.next + 1) (Vals.not vRD (by decide)) (by omega) (fun z _ hz => k2 z hz)) ((k.trans (kD.kq q)).st (p := A.next + 1) (by omega) (by omega) fun z hz h1 h2 => k2 z h2) ?_
  simp only [T.get_set, T.puts_cons, T.puts_nil, Nat.reduceEqDiff, Nat.reduceAdd, if_true, if_false, g6]
 apply W.seq
 apply W.seq
 by_cases h6 : o.kind = 6
 ·have e6 : intOpF .eql .i64 o.kind ((6 : Nat) : Int) = .ok (.bool true) := by rw [eqK, decide_eq_true (show o.kind = ((6 : Nat) : Int) from h6)]
  apply W.run 20
  ·intro M
   simp (config := { maxSteps := 4000000 }) (disch := first | decide +kernel | omega | simp only [Wq, Nat.reduceEqDiff]) only [d17, Tryz.f17, Aq, Nat.ble, reduceIte, Nat.reduceEqDiff, Nat.reduceAdd, g4, f38_0, lk, e6]
   with_reducible rfl
  show W tb4 _ _ _
  refine asked _ (.inl h6) ?_ ?_
  ·simp only [Sl_cons, Sl_nil, T.get_set, T.puts_cons, T.puts_nil, Nat.reduceEqDiff, Nat.reduceAdd, if_true, if_false, and_true, true_and, g0, g2, g4, g6]
  ·simp only [T.get_set, if_true]
 have e6 : intOpF .eql .i64 o.kind ((6 : Nat) : Int) = .ok (.bool false) := by rw [eqK, decide_eq_false (show ¬ o.kind = ((6 : Nat) : Int) from h6)]
 by_cases h7 : o.kind = 7
 ·have e7 : intOpF .eql .i64 o.kind ((7 : Nat) : Int) = .ok (.bool true) := by rw [eqK, decide_eq_true (show o.kind = ((7 : Nat) : Int) from h7)]
  apply W.run 20
  ·intro M
   simp (config := { maxSteps := 4000000 }) (disch := first | decide +kernel | omega | simp only [Wq, Nat.reduceEqDiff]) only [d17, Tryz.f17, Aq, Nat.ble, reduceIte, Nat.reduceEqDiff, Nat.reduceAdd, g4, f38_0, lk, e6, e7]
   with_reducible rfl
  show W tb4 _ _ _
  refine asked _ (.inr h7) ?_ ?_
  ·simp only [Sl_cons, Sl_nil, T.get_set, T.puts_cons, T.puts_nil, Nat.reduceEqDiff, Nat.reduceAdd, if_true, if_false, and_true, true_and, g0, g2, g4, g6]
  ·simp only [T.get_set, if_true]
 have e7 : intOpF .eql .i64 o.kind ((7 : Nat) : Int) = .ok (.bool false) := by rw [eqK, decide_eq_false (show ¬ o.kind = ((7 : Nat) : Int) from h7)]
 rw [if_neg (fun h => by rcases h with h | h; exact h6 h; exact h7 h)] at hp
 apply W.run 20
 ·intro M
  simp (config := { maxSteps := 4000000 }) (disch := first | decide +kernel | omega | simp only [Wq, Nat.reduceEqDiff]) only [d17, Tryz.f17, Aq, Nat.ble, reduceIte, Nat.reduceEqDiff, Nat.reduceAdd, g4, f38_0, lk, e6, e7]
  with_reducible rfl
 apply W.run 20
 ·intro M
  simp (disch := first | decide +kernel | omega) only [d17, Tryz.f17, Aq, Nat.reduceEqDiff]
  with_reducible rfl
 apply W.seq
 apply W.seq
 by_cases h8 : o.kind = 8
 ·have e8 : intOpF .eql .i64 o.kind ((8 : Nat) : Int) = .ok (.bool true) := by rw [eqK, decide_eq_true (show o.kind = ((8 : Nat) : Int) from h8)]
  rw [if_pos h8] at hp
  obtain ⟨D, s1, m1, n1, k1⟩ := m.setClosed (decide (told ≠ 0))
  have lb := m1.bad
  have lc := m1.closed
  have l8 : ∃ p8 : Bool, p8 = (if told = 0 then false else s.bad) := ⟨_, rfl⟩
  obtain ⟨p8, hp8⟩ := l8
  obtain ⟨E, s2, m2, n2, k2⟩ := m1.setBad p8
  have v1 := (vR.same (k1 (A.next + 1) (by omega))).same (k2 (A.next + 1) (by omega))
  obtain ⟨F, s3, v3, m3, n3, k3⟩ := rep_out (e' := told) (w' := 0) (y := .slice none 0 0) m2 v1 rfl
  have hne : intOpF .neq .i64 (told : Int) ((0 : Nat) : Int) = .ok (.bool (decide (told ≠ 0))) := by
   rw [op_neqI]
   congr 2
   exact decide_eq_decide.2 (by omega)
  rw [d17r_eq]
  apply W.run 20
  ·intro M
   simp (disch := first | decide +kernel | omega) only [d17, Tryz.f17, Aq, Nat.reduceEqDiff, g4, f38_0, lk, e8]
   with_reducible rfl
  show W tb4 _ _ _
  refine W.cond (p := true) ?_ (fun _ => ?_) (fun h => by cases h)
  ·simp only [ev_tmp, T.get_set, Nat.reduceEqDiff, if_true, if_false, evG_some]
  apply W.seq
  apply W.run 20
  ·intro M
   simp (disch := first | decide +kernel | omega) only [d17, Tryz.f17, Aq, Nat.reduceEqDiff, g0, g2, hne, opF_nilCheck, nil_ptr, fr2, s1]
   with_reducible rfl
  apply W.seq
  have fin : ∀ (K : Ex → St → Prop) (t : T Value), (∀ st, PostD A q p .ret st → K .ret st) → Sl t (slD A q told) → W tb4 (.seq (sub d17 [1,1,1,1,1,0,1,0,1,1,0]) (sub d17 [1,1,1,1,1,0,1,0,1,1,1])) ⟨t, 114, [], E, none⟩ K := by
   rintro K t hK ⟨g0, g2, g4, g6, -⟩
   apply W.seq
   apply W.run 20
   ·intro M
    simp (disch := first | decide +kernel | omega) only [d17, Tryz.f17, Aq, Nat.reduceEqDiff, g2, g6, bld53, s3]
    with_reducible rfl
   apply W.run 20
   ·intro M
    simp (disch := first | decide +kernel | omega) only [d17, Tryz.f17, Aq, Nat.reduceEqDiff]
    with_reducible rfl
   refine hK _ (d17_out (y := .slice none 0 0) ?_ (by rw [hp]; exact v3) (by rw [hp]; exact (HitE.nil _).toR) (k.st (p := A.next + 1) (by omega) (by omega) fun z hz h1 h2 => by rw [k3 z h2, k2 z h1, k1 z h1]) ?_)
   ·rw [hp]
    unfold reopD
    rw [← hp8]
    exact m3
   ·simp only [T.get_set, T.puts_cons, T.puts_nil, Nat.reduceEqDiff, Nat.reduceAdd, if_true, if_false, g6]
  cases hb : s.bad with
  | false =>
   have e : p8 = false := by rw [hp8, hb]; split <;> rfl
   subst e
   rw [hb] at lb
   apply W.run 20
   ·intro M
    simp (config := { maxSteps := 4000000 }) (disch := first | decide +kernel | omega | simp only [Wq, Nat.reduceEqDiff]) only [d17, Tryz.f17, Aq, Nat.ble, reduceIte, Nat.reduceEqDiff, Nat.reduceAdd, g0, opF_nilCheck, nil_ptr, fr1, lb, s2]
    with_reducible rfl
   show W tb4 _ _ _
   refine fin _ _ (fun _ h => h) ?_
   simp only [Sl_cons, Sl_nil, T.get_set, T.puts_cons, T.puts_nil, Nat.reduceEqDiff, Nat.reduceAdd, if_true, if_false, and_true, true_and, g0, g2, g4, g6]
  | true =>
   have e : p8 = decide (told ≠ 0) := by rw [hp8, hb]; by_cases h0 : told = 0 <;> simp [h0]
   rw [e] at s2
   rw [hb] at lb
   apply W.run 20
   ·intro M
    simp (config := { maxSteps := 4000000 }) (disch := first | decide +kernel | omega | simp only [Wq, Nat.reduceEqDiff]) only [d17, Tryz.f17, Aq, Nat.ble, reduceIte, Nat.reduceEqDiff, Nat.reduceAdd, g0, opF_nilCheck, nil_ptr, fr1, fr2, lb, lc, s2]
    with_reducible rfl
   show W tb4 _ _ _
   refine fin _ _ (fun _ h => h) ?_
   simp only [Sl_cons, Sl_nil, T.get_set, T.puts_cons, T.puts_nil, Nat.reduceEqDiff, Nat.reduceAdd, if_true, if_false, and_true, true_and, g0, g2, g4, g6]
 have e8 : intOpF .eql .i64 o.kind ((8 : Nat) : Int) = .ok (.bool false) := by rw [eqK, decide_eq_false (show ¬ o.kind = ((8 : Nat) : Int) from h8)]
 rw [if_neg h8] at hp
 apply W.run 20
 ·intro M
  simp (disch := first | decide +kernel | omega) only [d17, Tryz.f17, Aq, Nat.reduceEqDiff, g4, f38_0, lk, e8]
  with_reducible rfl
 apply W.run 20
 ·intro M
  simp (disch := first | decide +kernel | omega) only [d17, Tryz.f17, Aq, Nat.reduceEqDiff]
  with_reducible rfl
 apply W.seq
 apply W.seq
 have lb := m.bad
 cases hb : s.bad with
 | true =>
  rw [hb] at lb
  rw [hb, if_pos rfl] at hp
  obtain ⟨D, s2, v2, m2, n2, k2⟩ := rep_out (e' := 11) (w' := 0) (y := .slice none 0 0) m vR rfl
  apply W.run 20
  ·intro M
   simp (disch := first | decide +kernel | omega) only [d17, Tryz.f17, Aq, Nat.reduceEqDiff, g0, opF_nilCheck, nil_ptr, fr1, lb]
   with_reducible rfl
  apply W.run 20
  ·intro M
   simp (disch := first | decide +kernel | omega) only [d17, Tryz.f17, Aq, Nat.reduceEqDiff, g6, bld53, s2]
   with_reducible rfl
  refine d17_out (y := .slice none 0 0) (by rw [hp]; exact m2) (by rw [hp]; exact v2) (by rw [hp]; exact (HitE.nil _).toR) (k.st (p := A.next + 1) (by omega) (by omega) fun z hz h1 h2 => k2 z h2) ?_
  simp only [T.get_set, T.puts_cons, T.puts_nil, Nat.reduceEqDiff, Nat.reduceAdd, if_true, if_false, g6]
 | false =>
  rw [hb] at lb
  rw [hb] at hp
  simp only [Bool.false_eq_true, if_false] at hp
  apply W.run 20
  ·intro M
   simp (disch := first | decide +kernel | omega) only [d17, Tryz.f17, Aq, Nat.reduceEqDiff, g0, opF_nilCheck, nil_ptr, fr1, lb]
   with_reducible rfl
  apply W.run 20
  ·intro M
   simp (disch := first | decide +kernel | omega) only [d17, Tryz.f17, Aq, Nat.reduceEqDiff]
   with_reducible rfl
  show W tb4 _ _ _
  refine d17_upd hq m hd vO vR k hn (by rw [hb]; exact hp) ?_
  simp only [Sl_cons, Sl_nil, T.get_set, T.puts_cons, T.puts_nil, Nat.reduceEqDiff, Nat.reduceAdd, if_true, if_false, and_true, true_and, g0, g2, g4, g6]
theorem run_rDo {A : Mem} {q told : Nat} {s : MdlS} {o : OpV} (h : ModR A q s) (hd : OkM s.d) :
  ∃ v A', Ans tb4 17 [.pointer (some ⟨q, 0, none⟩), .agg ⟨opC o⟩, .int .i64 (told : Int)] A v A' ∧ RepR A' (doD s o told).2 v ∧ ModR A' q (doD s o told).1 ∧ Kq q A A' := by
 refine ans_of_W (fn_at Tryz.func17) d17_eq (by rw [Tryz.ntmps17]; simp) (by kernel_rfl) (by kernel_rfl) ?_
 show W tb4 _ _ (PostD A q (doD s o told))
 obtain ⟨vO, vR, k0, n0⟩ := two_vars A o
 have hqA := h.lt
 have hm := h.kp k0
 apply W.seq
 apply W.run 20
 ·intro M
  simp (disch := first | decide +kernel | omega) only [d17, Tryz.f17, Aq, Nat.reduceEqDiff, z53, cells_agg, next_alloc]
  with_reducible rfl
 show W tb4 _ _ _
 generalize (A.alloc (rowOb 47 (opC o))).alloc (rowOb 44 repZ) = B at vO vR k0 n0 hm
 generalize hp : doD s o told = p
 rw [← docD_eq] at hp
 have kq := k0.kq q
 have lk := vO.kind
 have lw := vO.word
 have lo := vO.all
 -- behind what is told
 have told' : ∀ t : T Value, Sl t (slD A q (toldD told)) → W tb4 (.seq (.seq (sub d17 [1,1,0,0]) (sub d17 [1,1,0,1])) (.seq (.seq (sub d17 [1,1,1,0,0]) (sub d17 [1,1,1,0,1])) (.seq (.seq (sub d17 [1,1,1,1,0,0]) (sub d17 [1,1,1,1,0,1])) (.seq (.seq (sub d17 [1,1,1,1,1,0,0]) (sub d17 [1,1,1,1,1,0,1])) (.seq (.seq (sub d17 [1,1,1,1,1,1,0,0]) (sub d17 [1,1,1,1,1,1,0,1])) (.seq (sub d17 [1,1,1,1,1,1,1,0]) (.seq (.seq (sub d17 [1,1,1,1,1,1,1,1,0,0]) (sub d17 [1,1,1,1,1,1,1,1,0,1])) (.seq (.seq (sub d17 [1,1,1,1,1,1,1,1,1,0,0]) (sub d17 [1,1,1,1,1,1,1,1,1,0,1])) (.seq (sub d17 [1,1,1,1,1,1,1,1,1,1,0]) (.seq (sub d17 [1,1,1,1,1,1,1,1,1,1,1,0]) (sub d17 [1,1,1,1,1,1,1,1,1,1,1,1]))))))))))) ⟨t, 114, [], B, none⟩ (PostD A q p) := by
  generalize toldD told = w at hp
  rintro t ⟨g0, g2, g4, g6, -⟩
  have lc := hm.closed
  apply W.seq
  apply W.seq
  unfold docD at hp
  by_cases hc : s.closed = true
  ·rw [hc] at lc
   rw [if_pos hc] at hp
   obtain ⟨D, s2, v2, m2, n2, k2⟩ := rep_out (e' := 14) (w' := 0) (y := .slice none 0 0) hm vR rfl
   apply W.run 20
   ·intro M
    simp (disch := first | decide +kernel | omega) only [d17, Tryz.f17, Aq, Nat.reduceEqDiff, g0, opF_nilCheck, nil_ptr, fr2, lc]
    with_reducible rfl
   apply W.run 20
   ·intro M
    simp (disch := first | decide +kernel | omega) only [d17, Tryz.f17, Aq, Nat.reduceEqDiff, g6, bld53, s2]
    with_reducible rfl
   refine d17_out (y := .slice none 0 0) (by rw [← hp]; exact m2) (by rw [← hp]; exact v2) (by rw [← hp]; exact (HitE.nil _).toR) (kq.st (p := A.next + 1) (by omega) (by omega) fun z hz h1 h2 => k2 z h2) ?_
   simp only [T.get_set, T.puts_cons, T.puts_nil, Nat.reduceEqDiff, Nat.reduceAdd, if_true, if_false, g6]
  rw [if_neg hc] at hp
  have hc' : s.closed = false := by simpa using hc
  rw [hc'] at lc
  apply W.run 20
  ·intro M
   simp (disch := first | decide +kernel | omega) only [d17, Tryz.f17, Aq, Nat.reduceEqDiff, g0, opF_nilCheck, nil_ptr, fr2, lc]
   with_reducible rfl
  apply W.run 20
  ·intro M
   simp (disch := first | decide +kernel | omega) only [d17, Tryz.f17, Aq, Nat.reduceEqDiff]
   with_reducible rfl
  show W tb4 _ _ _
  obtain ⟨vu, D, ⟨gu, hgu⟩, rfl, kD⟩ := run_rupd (A := B) (o := o)
  have mD := hm.kp kD
  have vOD := vO.kp kD
  have vRD := vR.same (kD.2 (A.next + 1) (by omega))
  have kAD : Kq q A D := kq.trans (kD.kq q)
  have hnD : A.next + 2 ≤ D.next := by have := kD.1; omega
  have lkD := vOD.kind
  have lwD := vOD.word
  obtain ⟨gi, hgi⟩ := run_ris (A := D) (w := o.word)
  have bad : ∀ t : T Value, ((updB o = true ∧ okW o.word = false) ∨ o.kind < 0 ∨ 8 < o.kind) → t.get 6 = some (.pointer (some ⟨A.next + 1, 0, none⟩)) → t.get 38 = some (.bool true) → W tb4 (sub d17 [1,1,1,0,1]) ⟨t, 114, [], D, none⟩ (Then tb4 (.seq (.seq (sub d17 [1,1,1,1,0,0]) (sub d17 [1,1,1,1,0,1])) (.seq (.seq (sub d17 [1,1,1,1,1,0,0]) (sub d17 [1,1,1,1,1,0,1])) (.seq (.seq (sub d17 [1,1,1,1,1,1,0,0]) (sub d17 [1,1,1,1,1,1,0,1])) (.seq (sub d17 [1,1,1,1,1,1,1,0]) (.seq (.seq (sub d17 [1,1,1,1,1,1,1,1,0,0]) (sub d17 [1,1,1,1,1,1,1,1,0,1])) (.seq (.seq (sub d17 [1,1,1,1,1,1,1,1,1,0,0]) (sub d17 [1,1,1,1,1,1,1,1,1,0,1])) (.seq (sub d17 [1,1,1,1,1,1,1,1,1,1,0]) (.seq (sub d17 [1,1,1,1,1,1,1,1,1,1,1,0]) (sub d17 [1,1,1,1,1,1,1,1,1,1,1,1]))))))))) (PostD A q p)) := by
   intro t hbd g6 h38
   rw [if_pos hbd] at hp
   obtain ⟨E, s2, v2, m2, n2, k2⟩ := rep_out (e' := 7) (w' := 0) (y := .slice none 0 0) mD vRD rfl
   apply W.run 20
   ·intro M
    simp (disch := first | decide +kernel | omega) only [d17, Tryz.f17, Aq, Nat.reduceEqDiff, h38, g6, bld53, s2]
    with_reducible rfl
   refine d17_out (y := .slice none 0 0) (by rw [← hp]; exact m2) (by rw [← hp]; exact v2) (by rw [← hp]; exact (HitE.nil _).toR) (kAD.st (p := A.next + 1) (by omega) (by omega) fun z hz h1 h2 => k2 z h2) ?_
   simp only [T.get_set, T.puts_cons, T.puts_nil, Nat.reduceEqDiff, Nat.reduceAdd, if_true, if_false, g6]
  have good : ∀ t : T Value, ¬ ((updB o = true ∧ okW o.word = false) ∨ o.kind < 0 ∨ 8 < o.kind) → Sl t (slD A q w) → t.get 38 = some (.bool false) → W tb4 (sub d17 [1,1,1,0,1]) ⟨t, 114, [], D, none⟩ (Then tb4 (.seq (.seq (sub d17 [1,1,1,1,0,0]) (sub d17 [1,1,1,1,0,1])) (.seq (.seq (sub d17 [1,1,1,1,1,0,0]) (sub d17 [1,1,1,1,1,0,1])) (.seq (.seq (sub d17 [1,1,1,1,1,1,0,0]) (sub d17 [1,1,1,1,1,1,0,1])) (.seq (sub d17 [1,1,1,1,1,1,1,0]) (.seq (.seq (sub d17 [1,1,1,1,1,1,1,1,0,0]) (sub d17 [1,1,1,1,1,1,1,1,0,1])) (.seq (.seq (sub d17 [1,1,1,1,1,1,1,1,1,0,0]) (sub d17 [1,1,1,1,1,1,1,1,1,0,1])) (.seq (sub d17 [1,1,1,1,1,1,1,1,1,1,0]) (.seq (sub d17 [1,1,1,1,1,1,1,1,1,1,1,0]) (sub d17 [1,1,1,1,1,1,1,1,1,1,1,1]))))))))) (PostD A q p)) := by
   rintro t hbd ⟨g0, g2, g4, g6, -⟩ h38
   rw [if_neg hbd] at hp
   apply W.run 20
   ·intro M
    simp (disch := first | decide +kernel | omega) only [d17, Tryz.f17, Aq, Nat.reduceEqDiff, h38]
    with_reducible rfl
   show W tb4 _ _ _
   refine d17_mid hqA mD hd vOD vRD kAD hnD hp.symm ?_
   simp only [Sl_cons, Sl_nil, T.get_set, T.puts_cons, T.puts_nil, Nat.reduceEqDiff, Nat.reduceAdd, if_true, if_false, and_true, true_and, g0, g2, g4, g6]
  have tests : ∀ (t : T Value) (e : Bool), e = false → True := fun _ _ _ => trivial
  apply W.seq
  apply W.seq
  by_cases hneg : o.kind < ((0 : Nat) : Int)
  ·have hneg' : o.kind < 0 := hneg
   have hu : updB o = false := by unfold updB; exact decide_eq_false (by omega)
   rw [hu] at hgu
   apply W.runG (gu) 20
   ·intro M hM
    simp (config := { maxSteps := 4000000 }) (disch := first | decide +kernel | omega | simp only [Wq, Nat.reduceEqDiff]) only [d17, Tryz.f17, Aq, Nat.ble, reduceIte, Nat.reduceEqDiff, Nat.reduceAdd, g4, lo, hgu, f38_0, lkD, hneg]
    with_reducible rfl
   show W tb4 _ _ _
   refine bad _ (.inr (.inl hneg')) ?_ ?_
   ·simp only [T.get_set, T.puts_cons, T.puts_nil, Nat.reduceEqDiff, Nat.reduceAdd, if_true, if_false, g6]
   ·simp only [T.get_set, if_true]
  by_cases hgt : ((8 : Nat) : Int) < o.kind
  ·have hgt' : 8 < o.kind := hgt
   have hu : updB o = false := by unfold updB; exact decide_eq_false (by omega)
   rw [hu] at hgu
   apply W.runG (gu) 20
   ·intro M hM
    simp (config := { maxSteps := 4000000 }) (disch := first | decide +kernel | omega | simp only [Wq, Nat.reduceEqDiff]) only [d17, Tryz.f17, Aq, Nat.ble, reduceIte, Nat.reduceEqDiff, Nat.reduceAdd, g4, lo, hgu, f38_0, lkD, hneg, hgt]
    with_reducible rfl
   show W tb4 _ _ _
   refine bad _ (.inr (.inr hgt')) ?_ ?_
   ·simp only [T.get_set, T.puts_cons, T.puts_nil, Nat.reduceEqDiff, Nat.reduceAdd, if_true, if_false, g6]
   ·simp only [T.get_set, if_true]
  cases hu : updB o with
  | false =>
   rw [hu] at hgu
   apply W.runG (gu) 20
   ·intro M hM
    simp (config := { maxSteps := 4000000 }) (disch := first | decide +kernel | omega | simp only [Wq, Nat.reduceEqDiff]) only [d17, Tryz.f17, Aq, Nat.ble, reduceIte, Nat.reduceEqDiff, Nat.reduceAdd, g4, lo, hgu, f38_0, lkD, hneg, hgt]
    with_reducible rfl
   show W tb4 _ _ _
   refine good _ (fun h => by rcases h with h | h | h; (rw [hu] at h; cases h.1); exact hneg h; exact hgt h) ?_ ?_
   ·simp only [Sl_cons, Sl_nil, T.get_set, T.puts_cons, T.puts_nil, Nat.reduceEqDiff, Nat.reduceAdd, if_true, if_false, and_true, true_and, g0, g2, g4, g6]
   ·simp only [T.get_set, if_true]
  | true =>
   rw [hu] at hgu
   cases hw : okW o.word with
   | false =>
    rw [hw] at hgi
    apply W.runG ((gu+gi)) 20
    ·intro M hM
     simp (config := { maxSteps := 4000000 }) (disch := first | decide +kernel | omega | simp only [Wq, Nat.reduceEqDiff]) only [d17, Tryz.f17, Aq, Nat.ble, reduceIte, Nat.reduceEqDiff, Nat.reduceAdd, g4, lo, hgu, f38_0, f38_1, lkD, lwD, hgi, hneg, hgt]
     with_reducible rfl
    show W tb4 _ _ _
    refine bad _ (.inl ⟨hu, hw⟩) ?_ ?_
    ·simp only [T.get_set, T.puts_cons, T.puts_nil, Nat.reduceEqDiff, Nat.reduceAdd, if_true, if_false, g6]
    ·simp only [T.get_set, if_true]
   | true =>
    rw [hw] at hgi
    apply W.runG ((gu+gi)) 20
    ·intro M hM
     simp (config := { maxSteps := 4000000 }) (disch := first | decide +kernel | omega | simp only [Wq, Nat.reduceEqDiff]) only [d17, Tryz.f17, Aq, Nat.ble, reduceIte, Nat.reduceEqDiff, Nat.reduceAdd, g4, lo, hgu, f38_0, f38_1, lkD, lwD, hgi, hneg, hgt]
     with_reducible rfl
    show W tb4 _ _ _
    refine good _ (fun h => by rcases h with h | h | h; (rw [hw] at h; cases h.2); exact hneg h; exact hgt h) ?_ ?_
    ·simp only [Sl_cons, Sl_nil, T.get_set, T.puts_cons, T.puts_nil, Nat.reduceEqDiff, Nat.reduceAdd, if_true, if_false, and_true, true_and, g0, g2, g4, g6]
    ·simp only [T.get_set, if_true]
 apply W.seq
 apply W.seq
 by_cases h10 : told = 10
 ·have e : toldD told = told := by unfold toldD; rw [if_neg (by omega)]
  apply W.run 20
  ·intro M
   simp (config := { maxSteps := 4000000 }) (disch := first | decide +kernel | omega | simp only [Wq, Nat.reduceEqDiff]) only [d17, Tryz.f17, Aq, Nat.ble, reduceIte, Nat.reduceEqDiff, Nat.reduceAdd, h10]
   with_reducible rfl
  apply W.run 20
  ·intro M
   simp (disch := first | decide +kernel | omega) only [d17, Tryz.f17, Aq, Nat.reduceEqDiff]
   with_reducible rfl
  show W tb4 _ _ _
  refine told' _ ?_
  rw [e, h10]
  simp only [Sl_cons, Sl_nil, T.get_set, T.puts_cons, T.puts_nil, Nat.reduceEqDiff, Nat.reduceAdd, if_true, if_false, and_true, true_and]
 by_cases h13 : told = 13
 ·have e : toldD told = told := by unfold toldD; rw [if_neg (by omega)]
  subst h13
  apply W.run 20
  ·intro M
   simp (config := { maxSteps := 4000000 }) (disch := first | decide +kernel | omega | simp only [Wq, Nat.reduceEqDiff]) only [d17, Tryz.f17, Aq, Nat.ble, reduceIte, Nat.reduceEqDiff, Nat.reduceAdd]
   with_reducible rfl
  apply W.run 20
  ·intro M
   simp (disch := first | decide +kernel | omega) only [d17, Tryz.f17, Aq, Nat.reduceEqDiff]
   with_reducible rfl
  show W tb4 _ _ _
  refine told' _ ?_
  rw [e]
  simp only [Sl_cons, Sl_nil, T.get_set, T.puts_cons, T.puts_nil, Nat.reduceEqDiff, Nat.reduceAdd, if_true, if_false, and_true, true_and]
 ·have e : toldD told = 0 := by unfold toldD; rw [if_pos ⟨h10, h13⟩]
  apply W.run 20
  ·intro M
   simp (config := { maxSteps := 4000000 }) (disch := first | decide +kernel | omega | simp only [Wq, Nat.reduceEqDiff]) only [d17, Tryz.f17, Aq, Nat.ble, reduceIte, Nat.reduceEqDiff, Nat.reduceAdd, h10, h13]
   with_reducible rfl
  apply W.run 20
  ·intro M
   simp (disch := first | decide +kernel | omega) only [d17, Tryz.f17, Aq, Nat.reduceEqDiff]
   with_reducible rfl
  show W tb4 _ _ _
  refine told' _ ?_
  rw [e]
  simp only [Sl_cons, Sl_nil, T.get_set, T.puts_cons, T.puts_nil, Nat.reduceEqDiff, Nat.reduceAdd, if_true, if_false, and_true, true_and]
end Go.Proofs.YtnelkapmmgggdaaGreat.mdl

/-
 Model: replies are alike; what is told; the operations of drafts.
-/
namespace Go.Proofs.YtnelkapmmgggdaaGreat.mdl
open Go.Am Go.Mdl
open Go.Proofs.YtnelkapmmgggdaaGreat.rnk (HitD hitC ordD lessB sortH ordK lessK hitC_len sortH_len)
set_option linter.unusedSimpArgs false
set_option linter.unusedVariables false
set_option linter.unusedVariables false

theorem run_rsame2 {A : Mem} {r : RepD} {v v' : Value} (h : RepR A r v) (h' : RepR A r v') (hl : r.hits.length < 1000000) : ∃ A', Ans tb4 12 [v, v'] A (.bool true) A' ∧ Kp A A' := by
 obtain ⟨x, rfl, hx⟩ := h
 obtain ⟨x', rfl, hx'⟩ := h'
 obtain ⟨v, A', hg, rfl, hk⟩ : ∃ v A', Ans tb4 12 [.agg ⟨repC r.err r.weight x⟩, .agg ⟨repC r.err r.weight x'⟩] A v A' ∧ v = .bool true ∧ Kp A A' := by
  refine ans_of_W (fn_at Tryz.func12) c17_eq (by rw [Tryz.ntmps12]; simp) (by kernel_rfl) (by kernel_rfl) ?_
  have k0 : Kp A ((A.alloc (rowOb 44 (repC r.err r.weight x))).alloc (rowOb 44 (repC r.err r.weight x'))) := (Kp.alloc _ _).trans (Kp.alloc _ _)
  have v1 : Vals ((A.alloc (rowOb 44 (repC r.err r.weight x))).alloc (rowOb 44 (repC r.err r.weight x'))) 44 A.next (.var 3) (repC r.err r.weight x) := (vals_puts (get_alloc_self _ _)).same (get_alloc_ne (by rw [next_alloc]; omega))
  have v2 : Vals ((A.alloc (rowOb 44 (repC r.err r.weight x))).alloc (rowOb 44 (repC r.err r.weight x'))) 44 (A.next + 1) (.var 3) (repC r.err r.weight x') := vals_puts (get_alloc_self _ _)
  apply W.seq
  apply W.run 20
  ·intro M
   simp (disch := first | decide +kernel | omega) only [c17, Tryz.f12, Aq, Nat.reduceEqDiff, cells_agg, next_alloc]
   with_reducible rfl
  show W tb4 _ _ _
  generalize (A.alloc (rowOb 44 (repC r.err r.weight x))).alloc (rowOb 44 (repC r.err r.weight x')) = B at k0 v1 v2
  have e1 : loadF tb4 B.get 36 (.pointer (some ⟨A.next, 0, none⟩)) = .ok (.int .i64 (r.err : Int)) := load_vals und40' rfl v1 rfl
  have e2 : loadF tb4 B.get 36 (.pointer (some ⟨A.next + 1, 0, none⟩)) = .ok (.int .i64 (r.err : Int)) := load_vals und40' rfl v2 rfl
  have w1 : loadF tb4 B.get 41 (.pointer (some ⟨A.next, 1, none⟩)) = .ok (.int .u32 (r.weight : Int)) := load_vals und24' rfl v1 rfl
  have w2 : loadF tb4 B.get 41 (.pointer (some ⟨A.next + 1, 1, none⟩)) = .ok (.int .u32 (r.weight : Int)) := load_vals und24' rfl v2 rfl
  have x1 : loadF tb4 B.get 42 (.pointer (some ⟨A.next, 2, none⟩)) = .ok x := load_vals und51 rfl v1 rfl
  have x2 : loadF tb4 B.get 42 (.pointer (some ⟨A.next + 1, 2, none⟩)) = .ok x' := load_vals und51 rfl v2 rfl
  have l1 := HitR.lens hx
  have l2 := HitR.lens hx'
  have hxB : HitR B r.hits x := HitR.kp hx k0
  have hxB' : HitR B r.hits x' := HitR.kp hx' k0
  apply W.seq
  apply W.seq
  apply W.run 20
  ·intro M
   simp (config := { maxSteps := 4000000 }) (disch := first | decide +kernel | omega | simp only [Wq, Nat.reduceEqDiff]) only [c17, Tryz.f12, Aq, Nat.ble, reduceIte, Nat.reduceEqDiff, Nat.reduceAdd, f53_0, f53_1, f53_2, e1, e2, w1, w2, x1, x2, l1, l2]
   with_reducible rfl
  apply W.run 20
  ·intro M
   simp (disch := first | decide +kernel | omega) only [c17, Tryz.f12, Aq, Nat.reduceEqDiff]
   with_reducible rfl
  apply W.seq
  apply W.seq
  apply W.run 20
  ·intro M
   simp (disch := first | decide +kernel | omega) only [c17, Tryz.f12, Aq, Nat.reduceEqDiff]
   with_reducible rfl
  apply W.block
  refine W.up r.hits.length (fun i t C => C = B ∧ Sl t [(2, .pointer (some ⟨A.next, 0, none⟩)), (3, .pointer (some ⟨A.next + 1, 0, none⟩)), (5, .int .i64 (i : Int))]) ?_ (Nat.zero_le _) ⟨rfl, ?_⟩
  ·rintro i t C hi ⟨rfl, g2, g3, g5, -⟩
   rw [c17b1_eq]
   apply W.seq
   apply W.seq
   by_cases hlt : i < r.hits.length
   ·have ek : r.hits[i]? = some r.hits[i] := List.getElem?_eq_getElem hlt
    obtain ⟨p1, a1, a2⟩ := HitR.at hxB ek
    obtain ⟨p2, b1, b2⟩ := HitR.at hxB' ek
    have nq := fun x y => neq63 (g := C.get) (x := x) (y := y) (h := r.hits[i])
    apply W.run 20
    ·intro M
     simp (disch := first | decide +kernel | omega) only [c17b1, c17, Tryz.f12, Aq, Nat.reduceEqDiff, g2, g5, f53_2, x1, l1, hlt]
     with_reducible rfl
    apply W.run 20
    ·intro M
     simp (disch := first | decide +kernel | omega) only [c17b1, c17, Tryz.f12, Aq, Nat.reduceEqDiff]
     with_reducible rfl
    apply W.seq
    apply W.block
    apply W.seq
    apply W.run 20
    ·intro M
     simp (disch := first | decide +kernel | omega) only [c17b1, c17, Tryz.f12, Aq, Nat.reduceEqDiff, g2, g3, g5, f53_2, x1, x2, a1, a2, b1, b2, opF_neqR, nq]
     with_reducible rfl
    apply W.run 20
    ·intro M
     simp (disch := first | decide +kernel | omega) only [c17b1, c17, Tryz.f12, Aq, Nat.reduceEqDiff]
     with_reducible rfl
    apply W.run 20
    ·intro M
     simp (disch := first | decide +kernel | omega) only [c17b1, c17, Tryz.f12, Aq, Nat.reduceEqDiff, g5]
     with_reducible rfl
    refine ⟨hlt, _, _, rfl, rfl, ?_⟩
    simp only [Sl_cons, Sl_nil, T.get_set, T.puts_cons, T.puts_nil, Nat.reduceEqDiff, Nat.reduceAdd, if_true, if_false, and_true, true_and, g2, g3]
   ·have hin : i = r.hits.length := by omega
    subst hin
    apply W.run 20
    ·intro M
     simp (disch := first | decide +kernel | omega) only [c17b1, c17, Tryz.f12, Aq, Nat.reduceEqDiff, g2, g5, f53_2, x1, l1]
     with_reducible rfl
    apply W.run 20
    ·intro M
     simp (disch := first | decide +kernel | omega) only [c17b1, c17, Tryz.f12, Aq, Nat.reduceEqDiff]
     with_reducible rfl
    apply W.seq
    apply W.run 20
    ·intro M
     simp (disch := first | decide +kernel | omega) only [c17, Tryz.f12, Aq, Nat.reduceEqDiff]
     with_reducible rfl
    apply W.run 20
    ·intro M
     simp (disch := first | decide +kernel | omega) only [c17, Tryz.f12, Aq, Nat.reduceEqDiff]
     with_reducible rfl
    refine ⟨.inr rfl, _, [.bool true], rfl, ?_, rfl, k0⟩
    simp only [Tryz.f12, resF, ev_tmp, T.get_set, Nat.reduceEqDiff, if_true, if_false, evG_some, R.ok_bind]
  ·simp only [Sl_cons, Sl_nil, T.get_set, T.puts_cons, T.puts_nil, Nat.reduceEqDiff, Nat.reduceAdd, if_true, if_false, and_true, true_and]
 exact ⟨A', hg, hk⟩
def toldI (o : OpI) : Nat := if o.told % 32 = 1 then 10 else if o.told % 32 = 2 then 13 else if o.told % 32 = 3 then 8 else 0
noncomputable def c20 : Code := Tryz.f16.body.getD .skip
theorem c20_eq : Tryz.f16.body = some (.seq (sub c20 [0]) (.seq (.seq (sub c20 [1,0,0]) (sub c20 [1,0,1])) (.seq (.seq (sub c20 [1,1,0,0]) (sub c20 [1,1,0,1])) (.seq (.seq (sub c20 [1,1,1,0,0]) (sub c20 [1,1,1,0,1])) (.seq (sub c20 [1,1,1,1,0]) (sub c20 [1,1,1,1,1])))))) := by kernel_rfl
theorem run_told {A : Mem} {o : OpI} (h : InOk A o) : ∃ v A', Ans tb4 16 [.agg ⟨inC o⟩] A v A' ∧ v = .int .i64 ((toldI o : Nat) : Int) ∧ Kp A A' := by
 refine ans_of_W (fn_at Tryz.func16) c20_eq (by rw [Tryz.ntmps16]; simp) (by kernel_rfl) (by kernel_rfl) ?_
 have k0 := Kp.alloc A (rowOb 54 (inC o))
 have v0 : Vals (A.alloc (rowOb 54 (inC o))) 54 A.next (.var 8) (inC o) := vals_puts (get_alloc_self _ _)
 have p1 : loadF tb4 (A.alloc (rowOb 54 (inC o))).get 5 (.pointer (some ⟨A.next, 1, none⟩)) = .ok (.int .u8 (o.told : Int)) := load_vals und5' rfl v0 rfl
 apply W.seq
 apply W.run 20
 ·intro M
  simp (disch := first | decide +kernel | omega) only [c20, Tryz.f16, Aq, Nat.reduceEqDiff, cells_agg]
  with_reducible rfl
 show W tb4 _ _ _
 generalize A.alloc (rowOb 54 (inC o)) = B at k0 v0 p1
 apply W.seq
 apply W.seq
 by_cases h1 : o.told % 32 = 1
 ·have ht : toldI o = 10 := by unfold toldI; rw [if_pos h1]
  apply W.run 20
  ·intro M
   simp (disch := first | decide +kernel | omega) only [c20, Tryz.f16, Aq, Nat.reduceEqDiff, f29_1, p1, h1]
   with_reducible rfl
  apply W.run 20
  ·intro M
   simp (disch := first | decide +kernel | omega) only [c20, Tryz.f16, Aq, Nat.reduceEqDiff]
   with_reducible rfl
  rw [ht]
  refine ⟨.inr rfl, B, [.int .i64 ((10 : Nat) : Int)], rfl, ?_, rfl, k0⟩
  simp only [Tryz.f16, resF, ev_tmp, T.get_set, Nat.reduceEqDiff, if_true, if_false, evG_some, R.ok_bind]
 ·apply W.run 20
  ·intro M
   simp (disch := first | decide +kernel | omega) only [c20, Tryz.f16, Aq, Nat.reduceEqDiff, f29_1, p1, h1]
   with_reducible rfl
  apply W.run 20
  ·intro M
   simp (disch := first | decide +kernel | omega) only [c20, Tryz.f16, Aq, Nat.reduceEqDiff]
   with_reducible rfl
  apply W.seq
  apply W.seq
  by_cases h2 : o.told % 32 = 2
  ·have ht : toldI o = 13 := by unfold toldI; rw [if_neg h1, if_pos h2]
   apply W.run 20
   ·intro M
    simp (disch := first | decide +kernel | omega) only [c20, Tryz.f16, Aq, Nat.reduceEqDiff, f29_1, p1, h2]
    with_reducible rfl
   apply W.run 20
   ·intro M
    simp (disch := first | decide +kernel | omega) only [c20, Tryz.f16, Aq, Nat.reduceEqDiff]
    with_reducible rfl
   rw [ht]
   refine ⟨.inr rfl, B, [.int .i64 ((13 : Nat) : Int)], rfl, ?_, rfl, k0⟩
   simp only [Tryz.f16, resF, ev_tmp, T.get_set, Nat.reduceEqDiff, if_true, if_false, evG_some, R.ok_bind]
  ·apply W.run 20
   ·intro M
    simp (disch := first | decide +kernel | omega) only [c20, Tryz.f16, Aq, Nat.reduceEqDiff, f29_1, p1, h2]
    with_reducible rfl
   apply W.run 20
   ·intro M
    simp (disch := first | decide +kernel | omega) only [c20, Tryz.f16, Aq, Nat.reduceEqDiff]
    with_reducible rfl
   apply W.seq
   apply W.seq
   by_cases h3 : o.told % 32 = 3
   ·have ht : toldI o = 8 := by unfold toldI; rw [if_neg h1, if_neg h2, if_pos h3]
    apply W.run 20
    ·intro M
     simp (disch := first | decide +kernel | omega) only [c20, Tryz.f16, Aq, Nat.reduceEqDiff, f29_1, p1, h3]
     with_reducible rfl
    apply W.run 20
    ·intro M
     simp (disch := first | decide +kernel | omega) only [c20, Tryz.f16, Aq, Nat.reduceEqDiff]
     with_reducible rfl
    rw [ht]
    refine ⟨.inr rfl, B, [.int .i64 ((8 : Nat) : Int)], rfl, ?_, rfl, k0⟩
    simp only [Tryz.f16, resF, ev_tmp, T.get_set, Nat.reduceEqDiff, if_true, if_false, evG_some, R.ok_bind]
   ·have ht : toldI o = 0 := by unfold toldI; rw [if_neg h1, if_neg h2, if_neg h3]
    apply W.run 20
    ·intro M
     simp (disch := first | decide +kernel | omega) only [c20, Tryz.f16, Aq, Nat.reduceEqDiff, f29_1, p1, h3]
     with_reducible rfl
    apply W.run 20
    ·intro M
     simp (disch := first | decide +kernel | omega) only [c20, Tryz.f16, Aq, Nat.reduceEqDiff]
     with_reducible rfl
    apply W.seq
    apply W.run 20
    ·intro M
     simp (disch := first | decide +kernel | omega) only [c20, Tryz.f16, Aq, Nat.reduceEqDiff]
     with_reducible rfl
    apply W.run 20
    ·intro M
     simp (disch := first | decide +kernel | omega) only [c20, Tryz.f16, Aq, Nat.reduceEqDiff]
     with_reducible rfl
    rw [ht]
    refine ⟨.inr rfl, B, [.int .i64 ((0 : Nat) : Int)], rfl, ?_, rfl, k0⟩
    simp only [Tryz.f16, resF, ev_tmp, T.get_set, Nat.reduceEqDiff, if_true, if_false, evG_some, R.ok_bind]

def OpO (A0 C : Mem) (b : Nat) (l : List OpV) (x : Value) : Prop := OpS C b l x ∧ Kp A0 C ∧ A0.next ≤ b
theorem zc38 : ∃ z, zcellsF tb4 47 = .ok (5, z) := by
 have h : (match zcellsF tb4 47 with | .ok (n, _) => Nat.beq n 5 | _ => false) = true := by kernel_rfl
 cases hq : zcellsF tb4 47 with
 | ok p => rw [hq] at h; obtain ⟨n, z⟩ := p; exact ⟨z, by rw [Nat.eq_of_beq_eq_true h]⟩
 | _ => rw [hq] at h; cases h
theorem ty38 : ∃ ti, tb4.ty.get 47 = some ti ∧ 0 < ti.bytes ∧ ti.bytes ≤ 65536 := by
 cases h : tb4.ty.get 47 with
 | none => exact absurd (show (tb4.ty.get 47).isSome = true by kernel_rfl) (by rw [h]; decide)
 | some ti =>
  have e : (tb4.ty.get 47).map (fun i => (Nat.blt 0 i.bytes && Nat.ble i.bytes 65536)) = some true := by kernel_rfl
  rw [h, Option.map_some, Option.some.injEq, Bool.and_eq_true, Nat.blt_eq] at e
  exact ⟨ti, rfl, e.1, Nat.le_of_ble_eq_true e.2⟩
theorem OpO.push {A0 C : Mem} {b : Nat} {l : List OpV} {x : Value} (h : OpO A0 C b l x) (e : OpV) (hl : l.length < 1000000) : ∃ x' C', appendF tb4 (C.alloc (rowOb 47 (opC e))) 34 34 x (.slice (some ⟨C.next, 0, none⟩) 1 2) = .ok (x', C') ∧ OpO A0 C' (C.next + 1) (l ++ [e]) x' := by
 obtain ⟨hs, hk, hb⟩ := h
 obtain ⟨ti, ht1, ht2, ht3⟩ := ty38
 obtain ⟨z, hz⟩ := zc38
 have hk2 := Kp.alloc C (rowOb 47 (opC e))
 have hn2 : (C.alloc (rowOb 47 (opC e))).next = C.next + 1 := next_alloc _ _
 have hlt : (l.map opC).length < 16777216 := by rw [List.length_map]; omega
 obtain ⟨x', F, happ, hs3, hn3, hf3⟩ := SlcM.append (tb := tb4) (st := 34) (xt := 34) (SlcM.same hs hk2.1 (fun hl => hk2.2 b hl)) und70 und70 hz ht1 ht2 ht3 (by omega) (by omega) hlt (get_alloc_self C _) rfl (opC_one e)
 have hk0 := hk.1
 refine ⟨x', F, happ, ?_, ⟨by omega, fun z hz => by rw [hf3 z (fun e => by omega) (by omega), hk2.2 z (by omega), hk.2 z hz]⟩, by omega⟩
 show SlcM F 47 5 _ ((l ++ [e]).map opC) x'
 rw [List.map_append, ← hn2]
 exact hs3
noncomputable def o9 : Code := Tryz.f9.body.getD .skip
noncomputable def o9b1 : Code := sub o9 [1,1,0,1,0,0]
theorem o9_eq : Tryz.f9.body = some (.seq (sub o9 [0]) (.seq (sub o9 [1,0]) (.seq (.seq (sub o9 [1,1,0,0]) (.block 0 (.loop o9b1))) (.seq (sub o9 [1,1,1,0]) (sub o9 [1,1,1,1]))))) := by kernel_rfl
theorem o9b1_eq : o9b1 = .seq (.seq (sub o9b1 [0,0]) (sub o9b1 [0,1])) (.seq (.block 1 (sub o9b1 [1,0,0])) (sub o9b1 [1,1])) := by kernel_rfl
theorem run_ops {A : Mem} {os : List OpI} {x : Value} (h : OpL A os x) (hl : os.length < 9223372036854775808) : ∃ v A', Ans tb4 9 [x, .int .i64 ((60 : Nat) : Int)] A v A' ∧ ∃ b, OpS A' b ((os.take 60).map opD) v ∧ Kp A A' ∧ A.next ≤ b := by
 refine ans_of_W (fn_at Tryz.func9) o9_eq (by rw [Tryz.ntmps9]; simp) (by kernel_rfl) (by kernel_rfl) ?_
 have hlen := h.len
 apply W.seq
 apply W.run 20
 ·intro M
  simp (disch := first | decide +kernel | omega) only [o9, Tryz.f9, Aq, Nat.reduceEqDiff]
  with_reducible rfl
 apply W.seq
 apply W.run 20
 ·intro M
  simp (disch := first | decide +kernel | omega) only [o9, Tryz.f9, Aq, Nat.reduceEqDiff]
  with_reducible rfl
 apply W.seq
 apply W.seq
 apply W.run 20
 ·intro M
  simp (disch := first | decide +kernel | omega) only [o9, Tryz.f9, Aq, Nat.reduceEqDiff]
  with_reducible rfl
 apply W.block
 have out : ∀ (t : T Value) (C : Mem) (b : Nat) (y : Value), OpO A C b ((os.take 60).map opD) y → t.get 5 = some y → W tb4 (.seq (sub o9 [1,1,1,0]) (sub o9 [1,1,1,1])) ⟨t, 27, [], C, none⟩ (fun e s => (e = .nrm ∨ e = .ret) ∧ ∃ A' vs, takeF s.d s.m = .ok A' ∧ resF tb4 s.t A'.get Tryz.f9.results.toList = .ok vs ∧ ∃ b, OpS A' b ((os.take 60).map opD) (oneOf vs) ∧ Kp A A' ∧ A.next ≤ b) := by
  intro t C b y hO h5
  apply W.seq
  apply W.run 20
  ·intro M
   simp (disch := first | decide +kernel | omega) only [o9, Tryz.f9, Aq, Nat.reduceEqDiff, h5]
   with_reducible rfl
  apply W.run 20
  ·intro M
   simp (disch := first | decide +kernel | omega) only [o9, Tryz.f9, Aq, Nat.reduceEqDiff]
   with_reducible rfl
  refine ⟨.inr rfl, C, [y], rfl, ?_, b, hO.1, hO.2.1, hO.2.2⟩
  simp only [Tryz.f9, resF, ev_tmp, T.get_set, Nat.reduceEqDiff, if_true, if_false, evG_some, R.ok_bind]
 refine W.up os.length (fun i t C => i ≤ 60 ∧ ∃ b y, OpO A C b ((os.take i).map opD) y ∧ Sl t [(0, x), (1, .int .i64 ((60 : Nat) : Int)), (5, y), (6, .int .i64 (i : Int))]) ?_ (Nat.zero_le _) ⟨by omega, A.next, .slice none 0 0, ⟨.inl ⟨rfl, rfl⟩, Kp.refl _, Nat.le_refl _⟩, ?_⟩
 ·rintro i t C hi ⟨hi60, b, y, hO, g0, g1, g5, g6, -⟩
  rw [o9b1_eq]
  apply W.seq
  apply W.seq
  by_cases hlt : i < os.length
  ·by_cases h60 : i < 60
   ·have he : os[i]? = some os[i] := List.getElem?_eq_getElem hlt
    obtain ⟨⟨p, i1, i2⟩, hin⟩ := (h.kp hO.2.1).at he
    obtain ⟨D, ⟨g, hg⟩, kD⟩ := run_op hin
    have hOD : OpO A D b ((os.take i).map opD) y := ⟨OpS.kp hO.1 kD, hO.2.1.trans kD, hO.2.2⟩
    obtain ⟨y2, E, happ, hO2⟩ := hOD.push (opD os[i]) (by rw [List.length_map, List.length_take]; omega)
    have htk : (os.take (i + 1)).map opD = (os.take i).map opD ++ [opD os[i]] := by rw [List.take_succ_eq_append_getElem hlt, List.map_append]; rfl
    apply W.run 20
    ·intro M
     simp (config := { maxSteps := 4000000 }) (disch := first | decide +kernel | omega | simp only [Wq, Nat.reduceEqDiff]) only [o9b1, o9, Tryz.f9, Aq, Nat.ble, reduceIte, Nat.reduceEqDiff, Nat.reduceAdd, g0, g1, g6, hlen, hlt, h60]
     with_reducible rfl
    apply W.run 20
    ·intro M
     simp (disch := first | decide +kernel | omega) only [o9b1, o9, Tryz.f9, Aq, Nat.reduceEqDiff]
     with_reducible rfl
    apply W.seq
    apply W.block
    apply W.runG (g) 20
    ·intro M hM
     simp (disch := first | decide +kernel | omega) only [o9b1, o9, Tryz.f9, Aq, Nat.reduceEqDiff, g0, g5, g6, i1, i2, hg, bs70, at_slc, happ]
     with_reducible rfl
    apply W.run 20
    ·intro M
     simp (disch := first | decide +kernel | omega) only [o9b1, o9, Tryz.f9, Aq, Nat.reduceEqDiff, g6]
     with_reducible rfl
    refine ⟨hlt, _, _, rfl, by omega, _, y2, by rw [htk]; exact hO2, ?_⟩
    simp only [Sl_cons, Sl_nil, T.get_set, T.puts_cons, T.puts_nil, Nat.reduceEqDiff, Nat.reduceAdd, if_true, if_false, and_true, true_and, g0, g1]
   ·have hi60' : i = 60 := by omega
    subst hi60'
    apply W.run 20
    ·intro M
     simp (config := { maxSteps := 4000000 }) (disch := first | decide +kernel | omega | simp only [Wq, Nat.reduceEqDiff]) only [o9b1, o9, Tryz.f9, Aq, Nat.ble, reduceIte, Nat.reduceEqDiff, Nat.reduceAdd, g0, g1, g6, hlen, hlt]
     with_reducible rfl
    apply W.run 20
    ·intro M
     simp (disch := first | decide +kernel | omega) only [o9b1, o9, Tryz.f9, Aq, Nat.reduceEqDiff]
     with_reducible rfl
    refine out _ C b y hO ?_
    simp only [T.get_set, Nat.reduceEqDiff, if_true, if_false, g5]
  ·have hin : i = os.length := by omega
   subst hin
   have e : os.take 60 = os.take os.length := by rw [List.take_of_length_le (by omega), List.take_length]
   apply W.run 20
   ·intro M
    simp (config := { maxSteps := 4000000 }) (disch := first | decide +kernel | omega | simp only [Wq, Nat.reduceEqDiff]) only [o9b1, o9, Tryz.f9, Aq, Nat.ble, reduceIte, Nat.reduceEqDiff, Nat.reduceAdd, g0, g6, hlen]
    with_reducible rfl
   apply W.run 20
   ·intro M
    simp (disch := first | decide +kernel | omega) only [o9b1, o9, Tryz.f9, Aq, Nat.reduceEqDiff]
    with_reducible rfl
   refine out _ C b y (by rw [e]; exact hO) ?_
   simp only [T.get_set, Nat.reduceEqDiff, if_true, if_false, g5]
 ·simp only [Sl_cons, Sl_nil, T.get_set, T.puts_cons, T.puts_nil, Nat.reduceEqDiff, Nat.reduceAdd, if_true, if_false, and_true, true_and]
end Go.Proofs.YtnelkapmmgggdaaGreat.mdl

