/-
  What the functions of this group compute on the abstract machine, and the plain laws of it. Part C: conditions stand in each theorem.
-/
import Derived.Test.YtnelkapmmgggdaaGreatMdzB

set_option maxHeartbeats 16000000
set_option maxRecDepth 20000
/-
 Model: rank.Sort, rank.Top.
-/
namespace Go.Proofs.YtnelkapmmgggdaaGreat.mdl
open Go.Am Go.Mdl
open Go.Proofs.YtnelkapmmgggdaaGreat.rnk (HitD hitC ordD lessB sortH ordK lessK hitC_len sortH_len)
set_option linter.unusedSimpArgs false
set_option linter.unusedVariables false
set_option linter.unusedVariables false

abbrev HitS (A : Mem) (b : Nat) (l : List HitD) (x : Value) : Prop := SlcM A 73 4 b (l.map hitC) x
theorem HitS.kp {A A' : Mem} {b : Nat} {l : List HitD} {x : Value} (h : HitS A b l x) (k : Kp A A') : HitS A' b l x := SlcM.same h k.1 (fun h => k.2 _ h)
def HitE (A : Mem) (l : List HitD) (x : Value) : Prop := ∃ b, HitS A b l x
theorem strOf_inj {a b : List UInt8} (h : strOf a = strOf b) : a = b := by
 unfold strOf at h
 injection h with h
 injection h with h
 injection h with h
theorem hitC_inj {x y : HitD} (h : hitC x = hitC y) : x = y := by
 unfold hitC at h
 simp only [List.cons.injEq, Value.int.injEq, Value.bool.injEq, and_true, true_and] at h
 obtain ⟨h1, h2, h3, h4⟩ := h
 obtain ⟨⟨a, b, c⟩, d⟩ := x
 obtain ⟨⟨a', b', c'⟩, d'⟩ := y
 have e1 := strOf_inj h1
 have e2 : b = b' := Int.ofNat.inj h2
 have e4 : d = d' := Int.ofNat.inj h4
 simp only at e1 h3
 subst e1 e2 h3 e4
 rfl
theorem rowOf_uniq {cs : T Value} {d d' : List HitD} (h : RowOf hitC 4 cs d) (h' : RowOf hitC 4 cs d') (hl : d.length = d'.length) : d = d' := by
 apply List.ext_getElem? 
 intro i
 by_cases hi : i < d.length
 ·have e1 : d[i]? = some d[i] := List.getElem?_eq_getElem hi
  have e2 : d'[i]? = some (d'[i]'(by omega)) := List.getElem?_eq_getElem (by omega)
  rw [e1, e2]
  congr 1
  apply hitC_inj
  apply List.ext_getElem?
  intro j
  by_cases hj : j < 4
  ·rw [← h i _ j e1 hj, h' i _ j e2 hj]
  ·rw [List.getElem?_eq_none (by show 4 ≤ j; omega), List.getElem?_eq_none (by show 4 ≤ j; omega)]
 ·rw [List.getElem?_eq_none (by omega), List.getElem?_eq_none (by omega)]
theorem k60 {ih : Code → St → R (Ex × St)} {A : Mem} {b n c : Nat} {t : TypeId} {l : List HitD} {cs : T Value} (hg : A.get b = some (.cells t .row 0 cs)) (hrow : RowOf hitC 4 cs l) (hn : l.length = n) (hb : n < 1000000) :
  callF tb4 ih (.fn 68 [.slice (some ⟨b, 0, none⟩) n c, .func (.func 69) ⟨[]⟩ ⟨[]⟩]) A = .ok (.val (.tuple ⟨[]⟩) (A.set b (.cells t .row 0 (T.puts cs 0 ((sortH l).map hitC).flatten)))) := by
 refine callF_known (c := (Tryz.f68.body).getD .skip) (fn_at Tryz.func68) (by kernel_rfl) (by kernel_rfl) (h := sortFHook hitC 4 69 sortH) (by kernel_rfl) ?_
 have hh : (69 : Nat) = 69 ∧ n < 4611686018427387904 ∧ ∃ d : List HitD, d.length = n ∧ RowOf hitC 4 cs d := ⟨rfl, by omega, l, hn, hrow⟩
 have hch : Classical.choose hh.2.2 = l := by
  have hs := Classical.choose_spec hh.2.2
  exact rowOf_uniq hs.2 hrow (by rw [hs.1, hn])
 unfold sortFHook
 simp only [hg]
 rw [dif_pos hh, hch]
theorem k60n {ih : Code → St → R (Ex × St)} {A : Mem} : callF tb4 ih (.fn 68 [.slice none 0 0, .func (.func 69) ⟨[]⟩ ⟨[]⟩]) A = .ok (.val (.tuple ⟨[]⟩) A) := by
 refine callF_known (c := (Tryz.f68.body).getD .skip) (fn_at Tryz.func68) (by kernel_rfl) (by kernel_rfl) (h := sortFHook hitC 4 69 sortH) (by kernel_rfl) ?_
 unfold sortFHook
 simp only [if_true]
theorem ev_f53 {t : T Value} : ev t (Operand.func 69) = .ok (.func (.func 69) ⟨[]⟩ ⟨[]⟩) := rfl
theorem app_hits {A : Mem} {b c : Nat} {l : List HitD} (hr : HRow A b l c) (hl : l.length ≤ 16777216) (h0 : l ≠ []) :
  appendF tb4 A 42 42 (.slice none 0 0) (.slice (some ⟨b, 0, none⟩) l.length c) = .ok (.slice (some ⟨A.next, 0, none⟩) l.length (mkX l.length 4), A.alloc (.cells 73 .row 0 (T.puts .e 0 ((l.map hitC).flatten)))) := by
 obtain ⟨ti, hti, hb1, hb2⟩ := ty63
 have hlp : 0 < l.length := List.length_pos_iff.2 h0
 have hf : firstF A.get 4 l.length (.slice (some ⟨b, 0, none⟩) l.length c) = .ok ((l.map hitC).flatten) := hr.elems
 have hlim : (Nat.ble (0 + l.length) 16777216 && Nat.ble ti.bytes 65536 && Nat.blt 0 ti.bytes && Nat.blt 0 4 && Nat.blt 4 65536) = true := by
  have a1 : Nat.ble (0 + l.length) 16777216 = true := Nat.ble_eq_true_of_le (by omega)
  have a2 : Nat.ble ti.bytes 65536 = true := Nat.ble_eq_true_of_le hb2
  have a3 : Nat.blt 0 ti.bytes = true := by rw [Nat.blt_eq]; exact hb1
  rw [a1, a2, a3]; rfl
 have hble : Nat.ble (0 + l.length) (capN 0) = false := by
  cases hq : Nat.ble (0 + l.length) (capN 0) with
  | false => rfl
  | true =>
   have h1 := Nat.le_of_ble_eq_true hq
   have h2 : capN 0 = 0 := rfl
   omega
 have hx : capX 0 = true := rfl
 have hel : elemsF A.get 4 0 none = .ok [] := rfl
 unfold appendF appendG
 simp only [und51, isIntD, cond_false, zc63, R.ok_bind, lenF, hf, hble, hti, hlim, cond_true, hel, hx, List.nil_append, Nat.zero_add]
 rw [Nat.zero_add] at hble hlim
 rw [hble, cond_false, hlim, cond_true]
theorem app_hits0 {A : Mem} {b c : Nat} : appendF tb4 A 42 42 (.slice none 0 0) (.slice (some ⟨b, 0, none⟩) 0 c) = .ok (.slice none 0 0, A) := by
 have hf : firstF A.get 4 0 (.slice (some ⟨b, 0, none⟩) 0 c) = .ok [] := rfl
 unfold appendF appendG
 simp only [und51, isIntD, cond_false, zc63, R.ok_bind, lenF, hf]
 rfl
noncomputable def c50 : Code := Tryz.f53.body.getD .skip
theorem c50_eq : Tryz.f53.body = some (.seq (sub c50 [0]) (.seq (sub c50 [1,0]) (.seq (sub c50 [1,1,0]) (.seq (sub c50 [1,1,1,0]) (sub c50 [1,1,1,1]))))) := by kernel_rfl
theorem run_sort {A : Mem} {b c : Nat} {l : List HitD} (hr : HRow A b l c) (hl : l.length < 90000) :
  ∃ y A', Ans tb4 53 [.slice (some ⟨b, 0, none⟩) l.length c] A y A' ∧ HitE A' (sortH l) y ∧ Kp A A' := by
 obtain ⟨v, A', hg, h1, h2⟩ : ∃ v A', Ans tb4 53 [.slice (some ⟨b, 0, none⟩) l.length c] A v A' ∧ HitE A' (sortH l) v ∧ Kp A A' := by
  refine ans_of_W (fn_at Tryz.func53) c50_eq (by rw [Tryz.ntmps53]; simp) (by kernel_rfl) (by kernel_rfl) ?_
  apply W.seq
  apply W.run 20
  ·intro M
   simp (disch := first | decide +kernel | omega) only [c50, Tryz.f53, Aq, Nat.reduceEqDiff]
   with_reducible rfl
  apply W.seq
  by_cases h0 : l = []
  ·subst h0
   have ha := app_hits0 (A := A) (b := b) (c := c)
   apply W.run 20
   ·intro M
    simp (disch := first | decide +kernel | omega) only [c50, Tryz.f53, Aq, Nat.reduceEqDiff, List.length_nil, ha]
    with_reducible rfl
   apply W.seq
   apply W.run 20
   ·intro M
    simp (disch := first | decide +kernel | omega) only [c50, Tryz.f53, Aq, Nat.reduceEqDiff, ev_f53, k60n]
    with_reducible rfl
   apply W.seq
   apply W.run 20
   ·intro M
    simp (disch := first | decide +kernel | omega) only [c50, Tryz.f53, Aq, Nat.reduceEqDiff]
    with_reducible rfl
   apply W.run 20
   ·intro M
    simp (disch := first | decide +kernel | omega) only [c50, Tryz.f53, Aq, Nat.reduceEqDiff]
    with_reducible rfl
   refine ⟨.inr rfl, A, [.slice none 0 0], rfl, ?_, ⟨0, .inl ⟨rfl, by rw [show sortH [] = [] from List.length_eq_zero_iff.1 (sortH_len [])]; rfl⟩⟩, Kp.refl _⟩
   simp only [Tryz.f53, resF, ev_tmp, T.get_set, Nat.reduceEqDiff, if_true, if_false, evG_some, R.ok_bind]
  ·have ha := app_hits hr (by omega) h0
   have hget := get_alloc_self A (.cells 73 .row 0 (T.puts .e 0 ((l.map hitC).flatten)))
   have hrow : RowOf hitC 4 (T.puts .e 0 ((l.map hitC).flatten)) l := fun i x j hi hj => (hcells_new l).1 i x j hi hj
   have hk := fun ih => k60 (ih := ih) (c := mkX l.length 4) hget hrow rfl (by omega)
   apply W.run 20
   ·intro M
    simp (disch := first | decide +kernel | omega) only [c50, Tryz.f53, Aq, Nat.reduceEqDiff, ha]
    with_reducible rfl
   apply W.seq
   apply W.run 20
   ·intro M
    simp (disch := first | decide +kernel | omega) only [c50, Tryz.f53, Aq, Nat.reduceEqDiff, ev_f53, hk]
    with_reducible rfl
   apply W.seq
   apply W.run 20
   ·intro M
    simp (disch := first | decide +kernel | omega) only [c50, Tryz.f53, Aq, Nat.reduceEqDiff]
    with_reducible rfl
   apply W.run 20
   ·intro M
    simp (disch := first | decide +kernel | omega) only [c50, Tryz.f53, Aq, Nat.reduceEqDiff]
    with_reducible rfl
   refine ⟨.inr rfl, _, [.slice (some ⟨A.next, 0, none⟩) l.length (mkX l.length 4)], rfl, ?_, ⟨A.next, .inr ⟨.row, mkX l.length 4, ?_, ?_, ⟨_, by rw [get_setMem, if_pos rfl], fun i hi => ?_⟩, fun x hx => (by obtain ⟨e, _, rfl⟩ := List.mem_map.1 hx; rfl), .inr ⟨by rw [List.length_map, sortH_len], .inl rfl⟩⟩⟩, ⟨?_, fun z hz => ?_⟩⟩
   ·simp only [Tryz.f53, resF, ev_tmp, T.get_set, Nat.reduceEqDiff, if_true, if_false, evG_some, R.ok_bind]
   ·rw [List.length_map, sortH_len]; rfl
   ·show A.next < A.next + 1; omega
   ·rw [T.get_puts, Nat.zero_add, if_pos ⟨Nat.zero_le _, hi⟩, Nat.sub_zero]
   ·show A.next ≤ A.next + 1; omega
   ·rw [get_setMem, if_neg (by omega), get_alloc_ne (by omega)]
 exact ⟨v, A', hg, h1, h2⟩
end Go.Proofs.YtnelkapmmgggdaaGreat.mdl

/-
 Model: rank.Top.
-/
namespace Go.Proofs.YtnelkapmmgggdaaGreat.mdl
open Go.Am Go.Mdl
open Go.Proofs.YtnelkapmmgggdaaGreat.rnk (HitD hitC ordD lessB sortH ordK lessK hitC_len sortH_len)
set_option linter.unusedSimpArgs false
set_option linter.unusedVariables false
set_option linter.unusedVariables false

def stepT (n : Int) (w : List HitD) (x : HitD) : List HitD := if n < ((pushL w x).length : Int) then popL (pushL w x) else pushL w x
def topL (n : Int) (l : List HitD) : List HitD := sortH (l.foldl (stepT n) [])
theorem stepT_len {n : Int} {w : List HitD} {x : HitD} : (stepT n w x).length ≤ w.length + 1 := by
 unfold stepT
 split
 ·rw [popL_len, pushL_len]; omega
 ·rw [pushL_len]; omega
theorem if98 {bw : Nat} : ifaceF tb4 103 (.pointer (some ⟨bw, 0, none⟩)) = .ok (wV bw) := by kernel_rfl
theorem bs99z : buildSliceF tb4 104 0 [] = .ok (rowOb 73 [], .slc 0 0) := by kernel_rfl
theorem HitS.at {A : Mem} {b i : Nat} {l : List HitD} {x : Value} {h : HitD} (hs : HitS A b l x) (hi : l[i]? = some h) : indexAddrF tb4 42 x (.int .i64 ((i : Nat) : Int)) = .ok (.pointer (some ⟨b, i * 4, none⟩)) ∧ loadF tb4 A.get 73 (.pointer (some ⟨b, i * 4, none⟩)) = .ok (.agg ⟨hitC h⟩) := by
 obtain ⟨d63, hd1, hd2⟩ := und63'
 exact ⟨SlcM.idx hs und51 size63' (by rw [List.length_map]; exact (List.getElem?_eq_some_iff.1 hi).1), SlcM.load_all hs hd1 hd2 size63' (by rw [List.getElem?_map, hi]; rfl)⟩
theorem HitS.lens {A : Mem} {b : Nat} {l : List HitD} {x : Value} (h : HitS A b l x) : builtinPF tb4 .len [42] [x] = .ok (.int .i64 ((l.length : Nat) : Int)) := by
 have := SlcM.len (tb := tb4) h und51
 rwa [List.length_map] at this
noncomputable def c31 : Code := Tryz.f32.body.getD .skip
noncomputable def c31b1 : Code := sub c31 [1,1,1,0,1,0,0]
theorem c31_eq : Tryz.f32.body = some (.seq (sub c31 [0]) (.seq (.seq (sub c31 [1,0,0]) (sub c31 [1,0,1])) (.seq (sub c31 [1,1,0]) (.seq (.seq (sub c31 [1,1,1,0,0]) (.block 0 (.loop c31b1))) (.seq (sub c31 [1,1,1,1,0]) (sub c31 [1,1,1,1,1])))))) := by kernel_rfl
theorem c31b1_eq : c31b1 = .seq (sub c31b1 [0]) (.seq (sub c31b1 [1,0]) (.seq (.block 1 (.seq (sub c31b1 [1,1,0,0,0]) (.seq (sub c31b1 [1,1,0,0,1,0]) (sub c31b1 [1,1,0,0,1,1])))) (sub c31b1 [1,1,1]))) := by kernel_rfl
theorem top_round {C : Mem} {lo bw i : Nat} {bx len : Nat} {n : Int} {l m : List HitD} {h : HitD} {x : Value} {t : T Value} {K : Ex → St → Prop} (hx : HitS C bx l x) (hm : Hp C lo bw m) (hlo : lo ≤ C.next) (hi : l[i]? = some h) (hml : m.length < 70000)
  (ht : Sl t [(0, .int .i64 n), (6, .pointer (some ⟨bw, 0, none⟩)), (13, x), (14, .int .i64 (len : Int)), (15, .int .i64 (i : Int))])
  (hK : ∀ t' C', Hp C' lo bw (stepT n m h) → KL lo C C' → Sl t' [(0, .int .i64 n), (6, .pointer (some ⟨bw, 0, none⟩)), (13, x), (14, .int .i64 (len : Int)), (15, .int .i64 (i : Int))] → K .nrm ⟨t', 38, [], C', none⟩) :
  W tb4 (.seq (sub c31b1 [1,1,0,0,0]) (.seq (sub c31b1 [1,1,0,0,1,0]) (sub c31b1 [1,1,0,0,1,1]))) ⟨t, 38, [], C, none⟩ K := by
 obtain ⟨g0, g6, g13, g14, g15, -⟩ := ht
 obtain ⟨d63, hd1, hd2⟩ := und63'
 obtain ⟨i1, i2⟩ := hx.at hi
 have z1 : Vals (C.alloc (rowOb 73 hitZ)) 73 C.next (.var 4) hitZ := vals_puts (get_alloc_self _ _)
 obtain ⟨C1, s1, v1, n1, k1⟩ := store_all (tb := tb4) (t := 73) (l := hitZ) (l' := hitC h) size63' z1 rfl (by simp [hitZ]) (hitC_one h)
 rw [next_alloc] at n1
 have kC1 : Kp C C1 := ⟨by omega, fun z hz => by rw [k1 z (by omega), get_alloc_ne (by omega)]⟩
 have lh := load_all (tb := tb4) hd1 hd2 (l := hitC h) size63' v1
 obtain ⟨b0, c0, hm0⟩ := hm
 obtain ⟨C2, ⟨g1, hg1⟩, hp2, k2⟩ := run_hpush (h := h) ⟨b0, c0, hm0.kp kC1⟩ (by omega)
 have hpl := pushL_len m h
 obtain ⟨b2, c2, hm2⟩ := hp2
 have l2 := hm2.load
 rw [hpl] at l2
 obtain ⟨g2, hg2⟩ := run_len (A := C2) (b := some ⟨b2, 0, none⟩) (n := m.length + 1) (c := c2)
 have kk := (kC1.kl hlo).trans k2
 have e98 := if98 (bw := bw)
 have e63 := if63 (h := h)
 apply W.seq
 apply W.run 20
 ·intro M
  simp (disch := first | decide +kernel | omega) only [c31b1, c31, Tryz.f32, Aq, Nat.reduceEqDiff, g13, g15, i1, i2, z63, cells_agg, s1]
  with_reducible rfl
 apply W.seq
 apply W.runG (g1) 20
 ·intro M hM
  simp (disch := first | decide +kernel | omega) only [c31b1, c31, Tryz.f32, Aq, Nat.reduceEqDiff, g6, opF_makeIface, e98, lh, e63, hg1]
  with_reducible rfl
 show W tb4 _ _ _
 by_cases hn : n < ((m.length + 1 : Nat) : Int)
 ·have hst : stepT n m h = popL (pushL m h) := by unfold stepT; rw [hpl, if_pos hn]
  obtain ⟨v3, C3, ⟨g3, hg3⟩, hp3, k3⟩ := run_hpop ⟨b2, c2, hm2⟩ (by omega) (by omega)
  have hd : decide (n < ((m.length + 1 : Nat) : Int)) = true := decide_eq_true hn
  apply W.runG ((g2+g3)) 20
  ·intro M hM
   simp (disch := first | decide +kernel | omega) only [c31b1, c31, Tryz.f32, Aq, Nat.reduceEqDiff, g0, g6, opF_nilCheck, nil_ptr, l2, hg2, hd, hn, opF_makeIface, e98, hg3]
   with_reducible rfl
  refine hK _ C3 (by rw [hst]; exact hp3) (kk.trans k3) ?_
  simp only [Sl_cons, Sl_nil, T.get_set, T.puts_cons, T.puts_nil, Nat.reduceEqDiff, Nat.reduceAdd, if_true, if_false, and_true, true_and, g0, g6, g13, g14, g15]
 ·have hst : stepT n m h = pushL m h := by unfold stepT; rw [hpl, if_neg hn]
  have hd : decide (n < ((m.length + 1 : Nat) : Int)) = false := decide_eq_false hn
  apply W.runG (g2) 20
  ·intro M hM
   simp (disch := first | decide +kernel | omega) only [c31b1, c31, Tryz.f32, Aq, Nat.reduceEqDiff, g0, g6, opF_nilCheck, nil_ptr, l2, hg2, hd, hn]
   with_reducible rfl
  refine hK _ C2 (by rw [hst]; exact ⟨b2, c2, hm2⟩) kk ?_
  simp only [Sl_cons, Sl_nil, T.get_set, T.puts_cons, T.puts_nil, Nat.reduceEqDiff, Nat.reduceAdd, if_true, if_false, and_true, true_and, g0, g6, g13, g14, g15]
end Go.Proofs.YtnelkapmmgggdaaGreat.mdl

/-
 Model: rank.Top, whole.
-/
namespace Go.Proofs.YtnelkapmmgggdaaGreat.mdl
open Go.Am Go.Mdl
open Go.Proofs.YtnelkapmmgggdaaGreat.rnk (HitD hitC ordD lessB sortH ordK lessK hitC_len sortH_len)
set_option linter.unusedSimpArgs false
set_option linter.unusedVariables false
set_option linter.unusedVariables false

theorem cells_slc0 {b : Option Addr} {n c : Nat} : (Value.slice b n c).cells.toList = [.slice b n c] := rfl
theorem run_top {A : Mem} {bx : Nat} {n : Int} {l : List HitD} {x : Value} (h : HitS A bx l x) (hn : 0 ≤ n) (hl : l.length < 60000) :
  ∃ y A', Ans tb4 32 [.int .i64 n, x] A (.tuple ⟨[y, .int .i64 ((0 : Nat) : Int)]⟩) A' ∧ HitE A' (topL n l) y ∧ Kp A A' := by
 obtain ⟨v, A', hg, y, rfl, h1, h2⟩ : ∃ v A', Ans tb4 32 [.int .i64 n, x] A v A' ∧ ∃ y, v = .tuple ⟨[y, .int .i64 ((0 : Nat) : Int)]⟩ ∧ HitE A' (topL n l) y ∧ Kp A A' := by
  refine ans_of_W (fn_at Tryz.func32) c31_eq (by rw [Tryz.ntmps32]; simp) (by kernel_rfl) (by kernel_rfl) ?_
  have hn' : ¬ n < ((0 : Nat) : Int) := by omega
  have k0 : Kp A ((A.alloc (rowOb 73 [])).alloc (rowOb 104 [.slice (some ⟨A.next, 0, none⟩) 0 0])) := (Kp.alloc _ _).trans (Kp.alloc _ _)
  have hp0 : HpS ((A.alloc (rowOb 73 [])).alloc (rowOb 104 [.slice (some ⟨A.next, 0, none⟩) 0 0])) A.next (A.next + 1) [] A.next 0 := by
   refine ⟨by omega, by rw [next_alloc, next_alloc]; omega, Nat.le_refl _, by rw [next_alloc, next_alloc]; omega, by omega, vals_puts (get_alloc_self _ _), .inl ⟨rfl, rfl, .var 0, T.puts .e 0 [], ?_⟩⟩
   rw [get_alloc_ne (by rw [next_alloc]; omega), get_alloc_self]
   rfl
  have n0 : ((A.alloc (rowOb 73 [])).alloc (rowOb 104 [.slice (some ⟨A.next, 0, none⟩) 0 0])).next = A.next + 2 := rfl
  apply W.seq
  apply W.run 20
  ·intro M
   simp (disch := first | decide +kernel | omega) only [c31, Tryz.f32, Aq, Nat.reduceEqDiff]
   with_reducible rfl
  apply W.seq
  apply W.seq
  apply W.run 20
  ·intro M
   simp (disch := first | decide +kernel | omega) only [c31, Tryz.f32, Aq, Nat.reduceEqDiff, hn']
   with_reducible rfl
  apply W.run 20
  ·intro M
   simp (disch := first | decide +kernel | omega) only [c31, Tryz.f32, Aq, Nat.reduceEqDiff]
   with_reducible rfl
  apply W.seq
  apply W.run 20
  ·intro M
   simp (disch := first | decide +kernel | omega) only [c31, Tryz.f32, Aq, Nat.reduceEqDiff, bs99z, at_slc, cells_slc0, next_alloc]
   with_reducible rfl
  show W tb4 _ _ _
  generalize (A.alloc (rowOb 73 [])).alloc (rowOb 104 [.slice (some ⟨A.next, 0, none⟩) 0 0]) = B at k0 hp0 n0
  have hlen := (h.kp k0).lens
  apply W.seq
  apply W.seq
  apply W.run 20
  ·intro M
   simp (disch := first | decide +kernel | omega) only [c31, Tryz.f32, Aq, Nat.reduceEqDiff, hlen]
   with_reducible rfl
  apply W.block
  refine W.up l.length (fun i t C => ∃ m, Hp C A.next (A.next + 1) m ∧ m = (l.take i).foldl (stepT n) [] ∧ m.length ≤ i ∧ KL A.next A C ∧ Sl t [(0, .int .i64 n), (6, .pointer (some ⟨A.next + 1, 0, none⟩)), (13, x), (14, .int .i64 (l.length : Int)), (15, .int .i64 (i : Int))]) ?_ (Nat.zero_le _) ⟨[], ⟨_, _, hp0⟩, rfl, Nat.le_refl _, k0.kl (Nat.le_refl _), ?_⟩
  ·rintro i t C hi ⟨m, hm, hmeq, hml, hK, g0, g6, g13, g14, g15, -⟩
   have hxC : HitS C bx l x := h.kp hK
   rw [c31b1_eq]
   apply W.seq
   by_cases hlt : i < l.length
   ·have he : l[i]? = some l[i] := List.getElem?_eq_getElem hlt
    apply W.run 20
    ·intro M
     simp (disch := first | decide +kernel | omega) only [c31b1, c31, Tryz.f32, Aq, Nat.reduceEqDiff, g14, g15, hlt]
     with_reducible rfl
    apply W.seq
    apply W.run 20
    ·intro M
     simp (disch := first | decide +kernel | omega) only [c31b1, c31, Tryz.f32, Aq, Nat.reduceEqDiff]
     with_reducible rfl
    apply W.seq
    apply W.block
    refine top_round (len := l.length) (n := n) (m := m) hxC hm hK.1 he (by omega) (by simp only [Sl_cons, Sl_nil, T.get_set, T.puts_cons, T.puts_nil, Nat.reduceEqDiff, Nat.reduceAdd, if_true, if_false, and_true, true_and, g0, g6, g13, g14, g15]) fun t2 C2 hp2 k2 ht2 => ?_
    obtain ⟨f0, f6, f13, f14, f15, -⟩ := ht2
    apply W.run 20
    ·intro M
     simp (disch := first | decide +kernel | omega) only [c31b1, c31, Tryz.f32, Aq, Nat.reduceEqDiff, f15]
     with_reducible rfl
    refine ⟨hlt, _, _, rfl, stepT n m l[i], hp2, ?_, ?_, hK.trans k2, ?_⟩
    ·rw [List.take_succ_eq_append_getElem hlt, List.foldl_append, hmeq]; rfl
    ·have := stepT_len (n := n) (w := m) (x := l[i]); omega
    ·simp only [Sl_cons, Sl_nil, T.get_set, T.puts_cons, T.puts_nil, Nat.reduceEqDiff, Nat.reduceAdd, if_true, if_false, and_true, true_and, f0, f6, f13, f14]
   ·have hin : i = l.length := by omega
    subst hin
    rw [List.take_length] at hmeq
    apply W.run 20
    ·intro M
     simp (disch := first | decide +kernel | omega) only [c31b1, c31, Tryz.f32, Aq, Nat.reduceEqDiff, g14, g15, hlt]
     with_reducible rfl
    apply W.seq
    apply W.run 20
    ·intro M
     simp (disch := first | decide +kernel | omega) only [c31b1, c31, Tryz.f32, Aq, Nat.reduceEqDiff]
     with_reducible rfl
    show W tb4 _ _ _
    obtain ⟨b, c, hm⟩ := hm
    have l0 := hm.load
    obtain ⟨y, D, ⟨gs, hgs⟩, hy, kD⟩ := run_sort hm.r (by omega)
    apply W.seq
    apply W.runG (gs) 20
    ·intro M hM
     simp (disch := first | decide +kernel | omega) only [c31, Tryz.f32, Aq, Nat.reduceEqDiff, g6, opF_nilCheck, nil_ptr, l0, hgs]
     with_reducible rfl
    apply W.run 20
    ·intro M
     simp (disch := first | decide +kernel | omega) only [c31, Tryz.f32, Aq, Nat.reduceEqDiff]
     with_reducible rfl
    refine ⟨.inr rfl, D, [y, .int .i64 ((0 : Nat) : Int)], rfl, ?_, y, rfl, ?_, ?_⟩
    ·simp only [Tryz.f32, resF, ev_tmp, T.get_set, Nat.reduceEqDiff, if_true, if_false, evG_some, R.ok_bind]
    ·unfold topL
     rw [← hmeq]
     exact hy
    ·have h3 := hK.trans (kD.kl hK.1)
     exact ⟨h3.1, h3.2⟩
  ·simp only [Sl_cons, Sl_nil, T.get_set, T.puts_cons, T.puts_nil, Nat.reduceEqDiff, Nat.reduceAdd, if_true, if_false, and_true, true_and]
 exact ⟨y, A', hg, h1, h2⟩
end Go.Proofs.YtnelkapmmgggdaaGreat.mdl

/-
 Model: the words that are near, called with any loop that goes on.
-/
namespace Go.Proofs.YtnelkapmmgggdaaGreat.mdl
open Go.Am Go.Mdl
open Go.Proofs.YtnelkapmmgggdaaGreat.rnk (HitD hitC ordD lessB sortH ordK lessK hitC_len sortH_len)
open Go.Proofs.YtnelkapmmgggdaaGreat.wth (withinD run_within)
set_option linter.unusedSimpArgs false
set_option linter.unusedVariables false
set_option linter.unusedVariables false

def nearH (w : List UInt8) (k : Int) (e : EntD) : Option HitD := if (Go.Dist.dist w e.word : Int) ≤ k then some ⟨e, Go.Dist.dist w e.word⟩ else none
def nearL (w : List UInt8) (k : Int) (l : List EntD) : List HitD := l.filterMap (nearH w k)
theorem nearL_len (w : List UInt8) (k : Int) (l : List EntD) : (nearL w k l).length ≤ l.length := List.length_filterMap_le _ _
theorem nearL_at {w : List UInt8} {k : Int} {l : List EntD} {i : Nat} {e : EntD} {h : HitD} (he : l[i]? = some e) (hh : nearH w k e = some h) : (nearL w k l)[(nearL w k (l.take i)).length]? = some h := by
 obtain ⟨hi, rfl⟩ := List.getElem?_eq_some_iff.1 he
 have e1 : l = l.take i ++ l[i] :: l.drop (i + 1) := by rw [← List.drop_eq_getElem_cons hi, List.take_append_drop]
 have e2 : nearL w k l = nearL w k (l.take i) ++ h :: nearL w k (l.drop (i + 1)) := by
  conv => lhs; rw [e1]
  unfold nearL
  rw [List.filterMap_append, List.filterMap_cons, hh]
 rw [e2, List.getElem?_append_right (Nat.le_refl _), Nat.sub_self]; rfl
theorem nearL_succ {w : List UInt8} {k : Int} {l : List EntD} {i : Nat} {e : EntD} (he : l[i]? = some e) : nearL w k (l.take (i + 1)) = nearL w k (l.take i) ++ (nearH w k e).toList := by
 obtain ⟨hi, rfl⟩ := List.getElem?_eq_some_iff.1 he
 rw [List.take_succ_eq_append_getElem hi]
 unfold nearL
 rw [List.filterMap_append, List.filterMap_cons]
 cases nearH w k l[i] <;> rfl
structure Cons (S : Nat → Prop) (N0 lp : Nat) (Inv : Nat → Nat → Mem → Prop) (rs : List HitD) : Prop where
 lt : ∀ i b C, Inv i b C → b < C.next
 ext : ∀ i b C C', Inv i b C → C.next ≤ C'.next → (∀ y, y < N0 ∨ y = b → C'.get y = C.get y) → Inv i b C'
 step : ∀ i r b C, rs[i]? = some r → Inv i b C → ∃ b' C', (∃ g, ∀ M, g ≤ M → callF tb4 (exec tb4 M) (.round lp [.agg ⟨hitC r⟩]) C = .ok (.val (.bool true) C')) ∧ Inv (i + 1) b' C' ∧ C.next ≤ C'.next ∧ (b' = b ∨ C.next ≤ b') ∧ ∀ y, y < C.next → ¬ S y → y ≠ b → C'.get y = C.get y
theorem bld63 {e : EntD} {n : Nat} : buildF tb4 73 [(0, .agg ⟨entC e⟩), (1, .int .i64 (n : Int))] = .ok (.agg ⟨hitC ⟨e, n⟩⟩) := by kernel_rfl
noncomputable def c46 : Code := Tryz.f48.body.getD .skip
noncomputable def c46b1 : Code := sub c46 [1,0,0]
theorem c46_eq : Tryz.f48.body = some (.seq (sub c46 [0]) (.block 0 (.loop c46b1))) := by kernel_rfl
theorem c46b1_eq : c46b1 = .seq (sub c46b1 [0]) (.seq (sub c46b1 [1,0]) (.seq (.block 1 (.seq (sub c46b1 [1,1,0,0,0]) (.seq (sub c46b1 [1,1,0,0,1,0]) (.seq (sub c46b1 [1,1,0,0,1,1,0]) (sub c46b1 [1,1,0,0,1,1,1]))))) (sub c46b1 [1,1,1]))) := by kernel_rfl
theorem EntS.or_nil {A : Mem} {b : Nat} {l : List EntD} {x : Value} (h : EntS A b l x) : ∃ b', EntS A b' l x ∧ (b' < A.next ∨ b' = 0) := by
 rcases h with h | ⟨k, c, h1, h2, h3⟩
 ·exact ⟨0, .inl h, .inr rfl⟩
 ·exact ⟨b, .inr ⟨k, c, h1, h2, h3⟩, .inl h2⟩
theorem run_near1 {S : Nat → Prop} {N0 lp be p b0 : Nat} {l : List EntD} {x : Value} {w : List UInt8} {k : Int} {Inv : Nat → Nat → Mem → Prop} {C0 : Mem} (hw : w.length ≤ 900000) (hl : ∀ e ∈ l, e.word.length ≤ 900000) (hll : l.length < 1000000) (hN : N0 ≤ C0.next) (hc : Cons S N0 lp Inv (nearL w k l)) (hI : Inv 0 b0 C0)
  (hx : EntS C0 be l x) (hd : Vals C0 24 p (.var 1) [x]) (hq : Vals C0 9 (p + 1) (.var 1) [strOf w]) (hk : Vals C0 3 (p + 2) (.var 1) [.int .i64 k]) (hbe : be < C0.next → ¬ S be ∧ be ≠ b0) (hp : p + 2 < C0.next) (hpS : ∀ y, p ≤ y → y ≤ p + 2 → ¬ S y ∧ y ≠ b0) (hS : ∀ y, S y → y < C0.next) :
  ∃ v C', Ans tb4 48 [.func (.yield lp) ⟨[]⟩ ⟨[]⟩, .pointer (some ⟨p, 0, none⟩), .pointer (some ⟨p + 1, 0, none⟩), .pointer (some ⟨p + 2, 0, none⟩)] C0 v C' ∧ ∃ b', Inv (nearL w k l).length b' C' ∧ C0.next ≤ C'.next ∧ (b' = b0 ∨ C0.next ≤ b') ∧ ∀ y, y < C0.next → ¬ S y → y ≠ b0 → C'.get y = C0.get y := by
 refine ans_of_W (fn_at Tryz.func48) c46_eq (by rw [Tryz.ntmps48]; simp) (by kernel_rfl) (by kernel_rfl) ?_
 have ld : loadF tb4 C0.get 24 (.pointer (some ⟨p, 0, none⟩)) = .ok x := load_vals und32' rfl hd rfl
 have hlen := EntS.lens hx
 apply W.seq
 apply W.run 20
 ·intro M
  simp (disch := first | decide +kernel | omega) only [c46, Tryz.f48, Aq, Nat.reduceEqDiff, ld, hlen]
  with_reducible rfl
 apply W.block
 refine W.up l.length (fun i t C => ∃ b, Inv (nearL w k (l.take i)).length b C ∧ C0.next ≤ C.next ∧ (b = b0 ∨ C0.next ≤ b) ∧ (∀ y, y < C0.next → ¬ S y → y ≠ b0 → C.get y = C0.get y) ∧ Sl t [(0, .func (.yield lp) ⟨[]⟩ ⟨[]⟩), (1, .pointer (some ⟨p, 0, none⟩)), (2, .pointer (some ⟨p + 1, 0, none⟩)), (3, .pointer (some ⟨p + 2, 0, none⟩)), (9, x), (10, .int .i64 (l.length : Int)), (11, .int .i64 (i : Int))]) ?_ (Nat.zero_le _) ⟨b0, hI, Nat.le_refl _, .inl rfl, fun _ _ _ _ => rfl, ?_⟩
 ·rintro i t C hi ⟨b, hInv, hn, hbb, hold, g0, g1, g2, g3, g9, g10, g11, -⟩
  have hbC := hc.lt _ b C hInv
  rw [c46b1_eq]
  apply W.seq
  by_cases hlt : i < l.length
  ·have he : l[i]? = some l[i] := List.getElem?_eq_getElem hlt
   have hxC : EntS C be l x := SlcM.same hx hn (fun h => hold be h (hbe h).1 (hbe h).2)
   obtain ⟨i1, i2⟩ := EntS.at hxC he
   obtain ⟨d45, hd1, hd2⟩ := und45'
   have hz : Vals (C.alloc (rowOb 59 [.string .empty, .int .u32 0, .bool false])) 59 C.next (.var 3) [.string .empty, .int .u32 0, .bool false] := vals_puts (get_alloc_self _ _)
   obtain ⟨D, s1, v1, n1, k1⟩ := store_all (tb := tb4) (t := 59) (l := [.string .empty, .int .u32 0, .bool false]) (l' := entC l[i]) size45' hz rfl (by simp) (entC_one _)
   rw [next_alloc] at n1
   have kD : Kp C D := ⟨by omega, fun z hz => by rw [k1 z (by omega), get_alloc_ne (by omega)]⟩
   have lw : loadF tb4 D.get 9 (.pointer (some ⟨C.next, 0, none⟩)) = .ok (strOf (l[i]).word) := load_vals und9' rfl v1 rfl
   have hqD : Vals D 9 (p + 1) (.var 1) [strOf w] := hq.same (by rw [kD.2 _ (by omega), hold _ (by omega) (hpS _ (by omega) (by omega)).1 (hpS _ (by omega) (by omega)).2])
   have hkD : Vals D 3 (p + 2) (.var 1) [.int .i64 k] := hk.same (by rw [kD.2 _ (by omega), hold _ (by omega) (hpS _ (by omega) (by omega)).1 (hpS _ (by omega) (by omega)).2])
   have lq : loadF tb4 D.get 9 (.pointer (some ⟨p + 1, 0, none⟩)) = .ok (strOf w) := load_vals und9' rfl hqD rfl
   have lk : loadF tb4 D.get 3 (.pointer (some ⟨p + 2, 0, none⟩)) = .ok (.int .i64 k) := load_vals und3' rfl hkD rfl
   obtain ⟨E, ⟨g, hg⟩, hE⟩ := run_within w (l[i]).word k hw (hl _ (List.getElem_mem hlt)) D
   have hE1 := hE.1
   have kE : Kp C E := ⟨by omega, fun z hz => by rw [hE.2 z (by omega), kD.2 z hz]⟩
   have vE : Vals E 59 C.next (.var 3) (entC l[i]) := v1.same (hE.2 _ (by omega))
   have lE := load_all (tb := tb4) hd1 hd2 (l := entC l[i]) size45' vE
   have hInvE := hc.ext _ b C E hInv kE.1 (fun y hy => kE.2 y (by rcases hy with h | h <;> omega))
   apply W.run 20
   ·intro M
    simp (disch := first | decide +kernel | omega) only [c46b1, c46, Tryz.f48, Aq, Nat.reduceEqDiff, g10, g11, hlt]
    with_reducible rfl
   apply W.seq
   apply W.run 20
   ·intro M
    simp (disch := first | decide +kernel | omega) only [c46b1, c46, Tryz.f48, Aq, Nat.reduceEqDiff]
    with_reducible rfl
   apply W.seq
   apply W.block
   apply W.seq
   apply W.run 20
   ·intro M
    simp (disch := first | decide +kernel | omega) only [c46b1, c46, Tryz.f48, Aq, Nat.reduceEqDiff, g9, g11, i1, i2, z45, cells_agg, s1]
    with_reducible rfl
   apply W.seq
   by_cases hk : (Go.Dist.dist w (l[i]).word : Int) ≤ k
   ·have hN1 : nearH w k l[i] = some ⟨l[i], Go.Dist.dist w (l[i]).word⟩ := by unfold nearH; rw [if_pos hk]
    have hwd : withinD w (l[i]).word k = .tuple ⟨[.int .i64 (Go.Dist.dist w (l[i]).word : Nat), .bool true]⟩ := by unfold withinD; rw [if_pos hk]
    rw [hwd] at hg
    obtain ⟨b', G, ⟨gy, hgy⟩, hInvG, hnG, hbG, hfG⟩ := hc.step _ _ b E (nearL_at he hN1) hInvE
    have hb63 := bld63 (e := l[i]) (n := Go.Dist.dist w (l[i]).word)
    apply W.runG (g) 20
    ·intro M hM
     simp (disch := first | decide +kernel | omega) only [c46b1, c46, Tryz.f48, Aq, Nat.reduceEqDiff, g2, g3, lq, lk, fb0, lw, hg, List.getElem?_cons_zero, List.getElem?_cons_succ]
     with_reducible rfl
    apply W.seq
    apply W.runG (gy) 20
    ·intro M hM
     simp (config := { maxSteps := 4000000 }) (disch := first | decide +kernel | omega | simp only [Wq, Nat.reduceEqDiff]) only [c46b1, c46, Tryz.f48, Aq, Nat.ble, reduceIte, Nat.reduceEqDiff, Nat.reduceAdd, g0, lE, hb63, hgy]
     with_reducible rfl
    apply W.run 20
    ·intro M
     simp (disch := first | decide +kernel | omega) only [c46b1, c46, Tryz.f48, Aq, Nat.reduceEqDiff]
     with_reducible rfl
    apply W.run 20
    ·intro M
     simp (disch := first | decide +kernel | omega) only [c46b1, c46, Tryz.f48, Aq, Nat.reduceEqDiff, g11]
     with_reducible rfl
    refine ⟨hlt, _, _, rfl, b', ?_, by omega, ?_, ?_, ?_⟩
    ·rw [nearL_succ he, hN1, List.length_append]; exact hInvG
    ·rcases hbG with rfl | h
     ·exact hbb
     ·exact .inr (by have := kE.1; omega)
    ·intro y hy h1 h2
     rw [hfG y (by have := kE.1; omega) h1 (by omega), kE.2 y (by omega), hold y hy h1 h2]
    ·simp only [Sl_cons, Sl_nil, T.get_set, T.puts_cons, T.puts_nil, Nat.reduceEqDiff, Nat.reduceAdd, if_true, if_false, and_true, true_and, g0, g1, g2, g3, g9, g10]
   ·have hN1 : nearH w k l[i] = none := by unfold nearH; rw [if_neg hk]
    have hwd : withinD w (l[i]).word k = .tuple ⟨[.int .i64 ((0 : Nat) : Int), .bool false]⟩ := by unfold withinD; rw [if_neg hk]
    rw [hwd] at hg
    apply W.runG (g) 20
    ·intro M hM
     simp (disch := first | decide +kernel | omega) only [c46b1, c46, Tryz.f48, Aq, Nat.reduceEqDiff, g2, g3, lq, lk, fb0, lw, hg, List.getElem?_cons_zero, List.getElem?_cons_succ]
     with_reducible rfl
    apply W.seq
    apply W.run 20
    ·intro M
     simp (config := { maxSteps := 4000000 }) (disch := first | decide +kernel | omega | simp only [Wq, Nat.reduceEqDiff]) only [c46b1, c46, Tryz.f48, Aq, Nat.ble, reduceIte, Nat.reduceEqDiff, Nat.reduceAdd]
     with_reducible rfl
    apply W.run 20
    ·intro M
     simp (disch := first | decide +kernel | omega) only [c46b1, c46, Tryz.f48, Aq, Nat.reduceEqDiff]
     with_reducible rfl
    apply W.run 20
    ·intro M
     simp (disch := first | decide +kernel | omega) only [c46b1, c46, Tryz.f48, Aq, Nat.reduceEqDiff, g11]
     with_reducible rfl
    refine ⟨hlt, _, _, rfl, b, ?_, by omega, hbb, ?_, ?_⟩
    ·rw [nearL_succ he, hN1]; simpa using hInvE
    ·intro y hy h1 h2
     rw [kE.2 y (by omega), hold y hy h1 h2]
    ·simp only [Sl_cons, Sl_nil, T.get_set, T.puts_cons, T.puts_nil, Nat.reduceEqDiff, Nat.reduceAdd, if_true, if_false, and_true, true_and, g0, g1, g2, g3, g9, g10]
  ·have hin : i = l.length := by omega
   subst hin
   rw [List.take_length] at hInv
   apply W.run 20
   ·intro M
    simp (disch := first | decide +kernel | omega) only [c46b1, c46, Tryz.f48, Aq, Nat.reduceEqDiff, g10, g11, hlt]
    with_reducible rfl
   apply W.seq
   apply W.run 20
   ·intro M
    simp (disch := first | decide +kernel | omega) only [c46b1, c46, Tryz.f48, Aq, Nat.reduceEqDiff]
    with_reducible rfl
   exact ⟨.inl rfl, _, [], rfl, rfl, b, hInv, hn, hbb, hold⟩
 ·simp only [Sl_cons, Sl_nil, T.get_set, T.puts_cons, T.puts_nil, Nat.reduceEqDiff, Nat.reduceAdd, if_true, if_false, and_true, true_and]
noncomputable def c30 : Code := Tryz.f31.body.getD .skip
theorem c30_eq : Tryz.f31.body = some (.seq (sub c30 [0]) (.seq (sub c30 [1,0]) (sub c30 [1,1]))) := by kernel_rfl
def nearF (p : Nat) : Value := .func (.func 48) ⟨[]⟩ ⟨[.pointer (some ⟨p, 0, none⟩), .pointer (some ⟨p + 1, 0, none⟩), .pointer (some ⟨p + 2, 0, none⟩)]⟩
theorem EntS.cells {A : Mem} {b : Nat} {l : List EntD} {x : Value} (h : EntS A b l x) : x.cells.toList = [x] ∧ oneCell x = true ∧ sameV 100 x x = true := by
 rcases h with ⟨rfl, -⟩ | ⟨k, c, rfl, -⟩
 ·exact ⟨rfl, rfl, rfl⟩
 ·exact ⟨rfl, rfl, sameV_slc _ _ _ _⟩
theorem run_near {A : Mem} {be : Nat} {l : List EntD} {x : Value} {w : List UInt8} {k : Int} (hx : EntS A be l x) :
  Ans tb4 31 [x, strOf w, .int .i64 k] A (nearF A.next) (((A.alloc (rowOb 24 [x])).alloc (rowOb 9 [strOf w])).alloc (rowOb 3 [.int .i64 k])) := by
 obtain ⟨v, A', hg, rfl, rfl⟩ : ∃ v A', Ans tb4 31 [x, strOf w, .int .i64 k] A v A' ∧ v = nearF A.next ∧ A' = ((A.alloc (rowOb 24 [x])).alloc (rowOb 9 [strOf w])).alloc (rowOb 3 [.int .i64 k]) := by
  refine ans_of_W (fn_at Tryz.func31) c30_eq (by rw [Tryz.ntmps31]; simp) (by kernel_rfl) (by kernel_rfl) ?_
  have hxc := hx.cells.1
  apply W.seq
  apply W.run 20
  ·intro M
   simp (disch := first | decide +kernel | omega) only [c30, Tryz.f31, Aq, Nat.reduceEqDiff, hxc, next_alloc]
   with_reducible rfl
  apply W.seq
  apply W.run 20
  ·intro M
   simp (disch := first | decide +kernel | omega) only [c30, Tryz.f31, Aq, Nat.reduceEqDiff]
   with_reducible rfl
  apply W.run 20
  ·intro M
   simp (disch := first | decide +kernel | omega) only [c30, Tryz.f31, Aq, Nat.reduceEqDiff]
   with_reducible rfl
  refine ⟨.inr rfl, _, [nearF A.next], rfl, ?_, rfl, rfl⟩
  simp only [Tryz.f31, resF, ev_tmp, T.get_set, Nat.reduceEqDiff, if_true, if_false, evG_some, R.ok_bind]
  rfl
 exact hg
end Go.Proofs.YtnelkapmmgggdaaGreat.mdl

/-
 Model: the loop over the hits.
-/
namespace Go.Proofs.YtnelkapmmgggdaaGreat.mdl
open Go.Am Go.Mdl
open Go.Proofs.YtnelkapmmgggdaaGreat.rnk (HitD hitC ordD lessB sortH ordK lessK hitC_len sortH_len)
set_option linter.unusedSimpArgs false
set_option linter.unusedVariables false
set_option linter.unusedVariables false

theorem z51 : zeroF tb4 42 = .ok (.slice none 0 0) := by kernel_rfl
theorem bs51 {h : HitD} : buildSliceF tb4 42 1 [(0, .agg ⟨hitC h⟩)] = .ok (rowOb 73 (hitC h), .slc 1 2) := by kernel_rfl
theorem size51 : sizeF tb4 42 = .ok 1 := by kernel_rfl
theorem HitS.cells {A : Mem} {b : Nat} {l : List HitD} {x : Value} (h : HitS A b l x) : x.cells.toList = [x] ∧ oneCell x = true ∧ sameV 100 x x = true := by
 rcases h with ⟨rfl, -⟩ | ⟨k, c, rfl, -⟩
 ·exact ⟨rfl, rfl, rfl⟩
 ·exact ⟨rfl, rfl, sameV_slc _ _ _ _⟩
noncomputable def c18 : Code := Tryz.f13.body.getD .skip
noncomputable def c18s : Code := sub c18 [1,0,1,0,1,1,1,0]
theorem c18r_eq : sub c18s [1,1,0,1] = .block 2 (.rangeFunc (.tmp 62) #[63] (sub c18s [1,1,0,1,0,0]) (sub c18s [1,1,0,1,0,1])) := by kernel_rfl
theorem c18b_eq : sub c18s [1,1,0,1,0,1] = .block 3 (sub c18s [1,1,0,1,0,1,0]) := by kernel_rfl
noncomputable def hitsLp (t0 : T Value) (d : Nat) : ALoop := loop0 t0 78 [63] (sub c18s [1,1,0,1,0,0]) (sub c18s [1,1,0,1,0,1]) d
structure HitsI (B0 : Mem) (xb : Nat) (t0 : T Value) (rs : List HitD) (i b : Nat) (C : Mem) : Prop where
 hd : C.get B0.next = some .defd
 hl : C.get (B0.next + 1) = some (.loop (hitsLp t0 B0.next))
 hn : B0.next + 2 ≤ C.next
 n1 : b = xb ∨ B0.next + 2 ≤ b
 lt : b < C.next
 hx : ∃ x, HitS C b (rs.take i) x ∧ Vals C 42 xb (.var 1) [x] ∧ (b = xb → x = .slice none 0 0)
theorem cons_hits {xb : Nat} {B0 : Mem} {t0 : T Value} {rs : List HitD} (hl : rs.length ≤ 1000000) (hxb : xb < B0.next) (h7 : t0.get 7 = some (.pointer (some ⟨xb, 0, none⟩))) :
  Cons (fun y => y = xb) (B0.next + 2) (B0.next + 1) (HitsI B0 xb t0 rs) rs where
 lt i b C h := h.lt
 ext i b C C' h hn hg := by
  have hnn := h.hn
  obtain ⟨x, h1, h2, h3⟩ := h.hx
  exact {
   hd := by rw [hg _ (.inl (by omega))]; exact h.hd
   hl := by rw [hg _ (.inl (by omega))]; exact h.hl
   hn := by omega
   n1 := h.n1
   lt := Nat.lt_of_lt_of_le h.lt hn
   hx := ⟨x, SlcM.same h1 hn (fun _ => hg _ (.inr rfl)), h2.same (hg _ (.inl (by omega))), h3⟩ }
 step i r b C hr h := by
  have hCn := h.hn
  have hn1 := h.n1
  have hblt := h.lt
  have hi : i < rs.length := (List.getElem?_eq_some_iff.1 hr).1
  have he : rs[i] = r := (List.getElem?_eq_some_iff.1 hr).2
  obtain ⟨x, hs, hv, hnil⟩ := h.hx
  obtain ⟨C', hcall, b', hI, hn', hb', hfr⟩ : ∃ C', (∃ g, ∀ M, g ≤ M → callF tb4 (exec tb4 M) (.round (B0.next + 1) [.agg ⟨hitC r⟩]) C = .ok (.val (.bool true) C')) ∧ ∃ b', HitsI B0 xb t0 rs (i + 1) b' C' ∧ C.next ≤ C'.next ∧ (b' = b ∨ C.next ≤ b') ∧ ∀ y, y < C.next → ¬ y = xb → y ≠ b → C'.get y = C.get y := by
   refine round_of_W h.hl (t := t0.set 63 (.agg ⟨hitC r⟩)) rfl ?_
   show W tb4 (sub c18s [1,1,0,1,0,0]) ⟨t0.set 63 (.agg ⟨hitC r⟩), 78, [], C, some (B0.next + 1)⟩ _
   obtain ⟨d63, hd1, hd2⟩ := und63'
   have hv0 : Vals (C.alloc (rowOb 73 hitZ)) 73 C.next (.var 4) hitZ := vals_puts (get_alloc_self _ _)
   obtain ⟨D, hst, hvD, hnD, hfD⟩ := store_all (tb := tb4) (t := 73) (l := hitZ) (l' := hitC r) size63' hv0 rfl (by simp [hitZ]) (hitC_one r)
   rw [next_alloc] at hnD
   have hCD : Kp C D := ⟨by omega, fun z hz => by rw [hfD z (by omega), get_alloc_ne (by omega)]⟩
   apply W.run 20
   ·intro M
    simp (disch := first | decide +kernel | omega) only [c18s, c18, Tryz.f13, Aq, Nat.reduceEqDiff, z63, cells_agg, hst]
    with_reducible rfl
   refine ⟨rfl, _, by show D.get _ = _; rw [hCD.2 _ (by omega)]; exact h.hl, rfl, ?_⟩
   show W tb4 (sub c18s [1,1,0,1,0,1]) ⟨_, 78, [], D.set (B0.next + 1) (.loop { (hitsLp t0 B0.next) with state := .busy }), some (B0.next + 1)⟩ _
   have hn0 : (D.set (B0.next + 1) (.loop { (hitsLp t0 B0.next) with state := .busy })).next = D.next := next_set _ _ _
   have hg0 : ∀ y, y ≠ B0.next + 1 → (D.set (B0.next + 1) (.loop { (hitsLp t0 B0.next) with state := .busy })).get y = D.get y := fun y hy => by rw [get_setMem, if_neg hy]
   have hl0 : (D.set (B0.next + 1) (.loop { (hitsLp t0 B0.next) with state := .busy })).get (B0.next + 1) = some (.loop { (hitsLp t0 B0.next) with state := .busy }) := by rw [get_setMem, if_pos rfl]
   revert hn0 hg0 hl0
   generalize D.set (B0.next + 1) (.loop { (hitsLp t0 B0.next) with state := .busy }) = E
   intro hn0 hg0 hl0
   have hvE : Vals E 73 C.next (.var 4) (hitC r) := hvD.same (hg0 _ (by omega))
   have l0 := load_all (tb := tb4) hd1 hd2 (l := hitC r) size63' hvE
   have hvx : Vals E 42 xb (.var 1) [x] := hv.same (by rw [hg0 _ (by omega), hCD.2 _ (by omega)])
   have lx : loadF tb4 E.get 42 (.pointer (some ⟨xb, 0, none⟩)) = .ok x := load_vals und51 rfl hvx rfl
   have hsE : HitS E b (rs.take i) x := SlcM.same hs (by omega) (fun _ => by rw [hg0 _ (by omega), hCD.2 _ (by omega)])
   have hE2 := Kp.alloc E (rowOb 73 (hitC r))
   have hn2 : (E.alloc (rowOb 73 (hitC r))).next = E.next + 1 := next_alloc _ _
   obtain ⟨ti, ht1, ht2, ht3⟩ := ty63
   have hlt : ((rs.take i).map hitC).length < 16777216 := by rw [List.length_map, List.length_take]; omega
   obtain ⟨x', F, happ, hs3, hn3, hf3⟩ := SlcM.append (tb := tb4) (st := 42) (xt := 42) (SlcM.same hsE hE2.1 (fun hl => hE2.2 b hl)) und51 und51 zc63 ht1 ht2 ht3 (by omega) (by omega) hlt (get_alloc_self E _) rfl (hitC_one r)
   have hs3' : HitS F (E.alloc (rowOb 73 (hitC r))).next (rs.take (i + 1)) x' := by
    rw [List.take_succ_eq_append_getElem hi, he]
    show SlcM F 73 4 _ ((rs.take i ++ [r]).map hitC) x'
    rw [List.map_append]
    exact hs3
   have hxF : Vals F 42 xb (.var 1) [x] := hvx.same (by rw [hf3 xb (fun e => hnil e.symm) (by omega), hE2.2 _ (by omega)])
   obtain ⟨G, hst2, hvG, hnG, hfG⟩ := store_vals (tb := tb4) (t := 42) (o := 0) (v := x') size51 hxF (by simp) (HitS.cells hs3').1 (HitS.cells hs3').2.1
   have hlG : G.get (B0.next + 1) = some (.loop { (hitsLp t0 B0.next) with state := .busy }) := by
    rw [hfG _ (by omega), hf3 _ (fun e => by omega) (by omega), hE2.2 _ (by omega)]; exact hl0
   rw [c18b_eq]
   apply W.block
   apply W.run 20
   ·intro M
    simp (disch := first | decide +kernel | omega) only [c18s, c18, Tryz.f13, Aq, Nat.reduceEqDiff, h7, l0, lx, bs51, happ, hst2]
    with_reducible rfl
   have hset : ∀ y, y ≠ B0.next + 1 → (G.set (B0.next + 1) (.loop (hitsLp t0 B0.next))).get y = G.get y := fun y hy => by rw [get_setMem, if_neg hy]
   have hsn : (G.set (B0.next + 1) (.loop (hitsLp t0 B0.next))).next = G.next := next_set _ _ _
   have old : ∀ y, y < C.next → y ≠ B0.next + 1 → ¬ y = xb → y ≠ b → (G.set (B0.next + 1) (.loop (hitsLp t0 B0.next))).get y = C.get y := fun y hy hyl hys hyb => by
    rw [hset _ hyl, hfG _ hys, hf3 _ (fun e => absurd e hyb) (by omega), hE2.2 _ (by omega), hg0 y hyl, hCD.2 y hy]
   refine ⟨rfl, rfl, _, hlG, (E.alloc (rowOb 73 (hitC r))).next, ?_⟩
   show HitsI B0 xb t0 rs (i + 1) _ (G.set (B0.next + 1) (.loop (hitsLp t0 B0.next))) ∧ C.next ≤ (G.set (B0.next + 1) (.loop (hitsLp t0 B0.next))).next ∧ _ ∧ ∀ y, y < C.next → ¬ y = xb → y ≠ b → (G.set (B0.next + 1) (.loop (hitsLp t0 B0.next))).get y = C.get y
   refine ⟨{
    hd := by rw [old _ (by omega) (by omega) (by omega) (by omega)]; exact h.hd
    hl := by rw [get_setMem, if_pos rfl]
    hn := by omega
    n1 := by omega
    lt := by omega
    hx := ⟨x', SlcM.same hs3' (by omega) (fun _ => by rw [hset _ (by omega), hfG _ (by omega)]), hvG.same (hset _ (by omega)), fun e => by omega⟩ }, by omega, by omega, fun y hy hys hyb => ?_⟩
   by_cases hyl : y = B0.next + 1
   ·subst hyl
    rw [get_setMem, if_pos rfl]; exact h.hl.symm
   ·exact old y hy hyl hys hyb
  exact ⟨b', C', hcall, hI, hn', hb', hfr⟩
end Go.Proofs.YtnelkapmmgggdaaGreat.mdl

/-
 Model: an operation's variable; works.
-/
namespace Go.Proofs.YtnelkapmmgggdaaGreat.mdl
open Go.Am Go.Mdl
set_option linter.unusedSimpArgs false
set_option linter.unusedVariables false
set_option linter.unusedVariables false

theorem k6 {ih : Code → St → R (Ex × St)} {A : Mem} : callF tb4 ih (.fn 20 []) A = .ok (.val (.bool true) A) :=
 callF_known (c := (Tryz.f20.body).getD .skip) (fn_at Tryz.func20) (by kernel_rfl) (by kernel_rfl) (h := pureHook worksK) (by kernel_rfl) rfl
theorem W_gen {c : Code} {t : T Value} {n : Nat} {d : List Nat} {A : Mem} {ro : Option Nat} {K : Ex → St → Prop} (l : List (Nat × Value)) (h : Sl t l) (k : ∀ t', Sl t' l → W tb4 c ⟨t', n, d, A, ro⟩ K) : W tb4 c ⟨t, n, d, A, ro⟩ K := k t h
def VarO (C : Mem) (p : Nat) (o : OpV) : Prop := p < C.next ∧ Vals C 47 p (.var 5) (opC o)
theorem VarO.kp {A A' : Mem} {p : Nat} {o : OpV} (h : VarO A p o) (k : Kp A A') : VarO A' p o := ⟨Nat.lt_of_lt_of_le h.1 k.1, h.2.same (k.2 _ h.1)⟩
theorem VarO.all {C : Mem} {p : Nat} {o : OpV} (h : VarO C p o) : loadF tb4 C.get 47 (.pointer (some ⟨p, 0, none⟩)) = .ok (.agg ⟨opC o⟩) := by
 obtain ⟨d38, hf1, hf2⟩ := und38
 exact load_all hf1 hf2 size38 h.2
theorem VarO.kind {C : Mem} {p : Nat} {o : OpV} (h : VarO C p o) : loadF tb4 C.get 3 (.pointer (some ⟨p, 0, none⟩)) = .ok (.int .i64 o.kind) := load_vals und3' rfl h.2 rfl
theorem VarO.word {C : Mem} {p : Nat} {o : OpV} (h : VarO C p o) : loadF tb4 C.get 9 (.pointer (some ⟨p, 1, none⟩)) = .ok (strOf o.word) := load_vals und9' rfl h.2 rfl
theorem VarO.weight {C : Mem} {p : Nat} {o : OpV} (h : VarO C p o) : loadF tb4 C.get 41 (.pointer (some ⟨p, 2, none⟩)) = .ok (.int .u32 (o.weight : Int)) := load_vals und24' rfl h.2 rfl
end Go.Proofs.YtnelkapmmgggdaaGreat.mdl

/-
 Model: Answer.
-/
namespace Go.Proofs.YtnelkapmmgggdaaGreat.mdl
open Go.Am Go.Mdl
open Go.Proofs.YtnelkapmmgggdaaGreat.rnk (HitD hitC ordD lessB sortH ordK lessK hitC_len sortH_len)
set_option linter.unusedSimpArgs false
set_option linter.unusedVariables false
set_option linter.unusedVariables false

theorem VarO.k {C : Mem} {p : Nat} {o : OpV} (h : VarO C p o) : loadF tb4 C.get 3 (.pointer (some ⟨p, 3, none⟩)) = .ok (.int .i64 o.k) := load_vals und3' rfl h.2 rfl
theorem VarO.n {C : Mem} {p : Nat} {o : OpV} (h : VarO C p o) : loadF tb4 C.get 3 (.pointer (some ⟨p, 4, none⟩)) = .ok (.int .i64 o.n) := load_vals und3' rfl h.2 rfl
theorem f38_3 {b : Nat} : fieldAddrF tb4 47 (.pointer (some ⟨b, 0, none⟩)) 3 = .ok (.pointer (some ⟨b, 3, none⟩)) := by kernel_rfl
theorem f38_4 {b : Nat} : fieldAddrF tb4 47 (.pointer (some ⟨b, 0, none⟩)) 4 = .ok (.pointer (some ⟨b, 4, none⟩)) := by kernel_rfl
theorem f53_0 {b : Nat} : fieldAddrF tb4 44 (.pointer (some ⟨b, 0, none⟩)) 0 = .ok (.pointer (some ⟨b, 0, none⟩)) := by kernel_rfl
theorem f53_1 {b : Nat} : fieldAddrF tb4 44 (.pointer (some ⟨b, 0, none⟩)) 1 = .ok (.pointer (some ⟨b, 1, none⟩)) := by kernel_rfl
theorem f53_2 {b : Nat} : fieldAddrF tb4 44 (.pointer (some ⟨b, 0, none⟩)) 2 = .ok (.pointer (some ⟨b, 2, none⟩)) := by kernel_rfl
theorem size53 : sizeF tb4 44 = .ok 3 := by kernel_rfl
theorem size40' : sizeF tb4 36 = .ok 1 := by kernel_rfl
theorem und53 : ∃ d, tb4.und 44 = some d ∧ isAggD d = true := by
 have h : (tb4.und 44).map isAggD = some true := by kernel_rfl
 cases hq : tb4.und 44 with
 | none => rw [hq] at h; cases h
 | some d => rw [hq] at h; exact ⟨d, rfl, by simpa using h⟩
structure RepD where
 err : Nat
 weight : Nat
 hits : List HitD
def repC (e w : Nat) (x : Value) : List Value := [.int .i64 (e : Int), .int .u32 (w : Int), x]
def repZ : List Value := repC 0 0 (.slice none 0 0)
theorem z53 : zeroF tb4 44 = .ok (.agg ⟨repZ⟩) := by kernel_rfl
def RepE (A : Mem) (r : RepD) (v : Value) : Prop := ∃ x, v = .agg ⟨repC r.err r.weight x⟩ ∧ HitE A r.hits x
theorem HitE.nil (A : Mem) : HitE A [] (.slice none 0 0) := ⟨0, .inl ⟨rfl, rfl⟩⟩
theorem HitE.cells {A : Mem} {l : List HitD} {x : Value} (h : HitE A l x) : x.cells.toList = [x] ∧ oneCell x = true ∧ sameV 100 x x = true := by
 obtain ⟨b, h⟩ := h
 exact h.cells
theorem repC_one {e w : Nat} {x : Value} (h : oneCell x = true) : ∀ v ∈ repC e w x, oneCell v = true := by
 intro v hv
 unfold repC at hv
 simp only [List.mem_cons, List.not_mem_nil, or_false] at hv
 rcases hv with rfl | rfl | rfl
 ·rfl
 ·rfl
 ·exact h
theorem SlcM.put {A A' : Mem} {e : TypeId} {n b q : Nat} {ls : List (List Value)} {x : Value} (h : SlcM A e n b ls x) (hq : ∀ k c z, A.get q ≠ some (.cells e k c z)) (hn : A.next ≤ A'.next) (hg : ∀ z, z < A.next → z ≠ q → A'.get z = A.get z) : SlcM A' e n b ls x := by
 rcases h with h | ⟨k, c, h1, h2, h3, h4⟩
 ·exact .inl h
 ·have hne : b ≠ q := fun e' => by
   obtain ⟨z, hz, -⟩ := h3
   rw [e'] at hz
   exact hq _ _ _ hz
  exact .inr ⟨k, c, h1, Nat.lt_of_lt_of_le h2 hn, h3.same (hg b h2 hne), h4⟩
theorem HitE.put {A A' : Mem} {q : Nat} {l : List HitD} {x : Value} (h : HitE A l x) (hq : ∀ k c z, A.get q ≠ some (.cells 73 k c z)) (hn : A.next ≤ A'.next) (hg : ∀ z, z < A.next → z ≠ q → A'.get z = A.get z) : HitE A' l x := by
 obtain ⟨b, h⟩ := h
 exact ⟨b, SlcM.put h hq hn hg⟩
theorem Vals.not {A : Mem} {e e' : TypeId} {b : Nat} {k : Kd} {l : List Value} (h : Vals A e b k l) (hne : e ≠ e') : ∀ k c z, A.get b ≠ some (.cells e' k c z) := by
 obtain ⟨c, h1, -⟩ := h
 intro k' c' z hh
 rw [h1] at hh
 injection hh with hh
 injection hh with h1 h2 h3 h4
 exact hne h1
def badS (o : OpV) : Prop := 255 < o.word.length ∨ o.k < 0 ∨ 3 < o.k ∨ o.n < 0
instance (o : OpV) : Decidable (badS o) := by unfold badS; infer_instance
def ansD (d : List EntD) (o : OpV) : RepD :=
 if o.kind = 6 then ⟨if okW o.word = true then (if (find o.word d).isSome = true then 0 else 9) else 7, ((find o.word d).getD zeroE).weight, []⟩
 else if o.kind = 7 then (if badS o then ⟨7, 0, []⟩ else ⟨0, 0, topL o.n (nearL o.word o.k d)⟩)
 else ⟨2, 0, []⟩
theorem c18_eq : Tryz.f13.body = some (.seq (sub c18 [0]) (.seq (.seq (sub c18 [1,0,0]) (.block 0 (.seq (sub c18 [1,0,1,0,0]) (.cond (.tmp 12) (sub c18 [1,0,1,0,1,0]) (sub c18 [1,0,1,0,1,1]))))) (.seq (sub c18 [1,1,0]) (sub c18 [1,1,1])))) := by kernel_rfl
noncomputable def c18l : Code := sub c18 [1,0,1,0,1,0]
theorem c18l_eq : sub c18 [1,0,1,0,1,0] = .seq (sub c18l [0]) (.seq (sub c18l [1,0]) (.block 1 (.seq (sub c18l [1,1,0,0]) (sub c18l [1,1,0,1])))) := by kernel_rfl
theorem c18e_eq : sub c18 [1,0,1,0,1,1] = .seq (sub c18 [1,0,1,0,1,1,0]) (.cond (.tmp 35) c18s (sub c18 [1,0,1,0,1,1,1,1])) := by kernel_rfl
theorem c18s_eq : c18s = .seq (.seq (sub c18s [0,0]) (.cond (.tmp 55) (sub c18s [0,1,0]) .skip)) (.seq (sub c18s [1,0]) (.seq (.seq (sub c18s [1,1,0,0]) (sub c18s [1,1,0,1])) (sub c18s [1,1,1]))) := by kernel_rfl
theorem ans_end {C : Mem} {p e w : Nat} {x : Value} {t : T Value} {ds : List Nat} {K : Ex → St → Prop} (v : Vals C 44 p (.var 3) (repC e w x)) (hx : oneCell x = true) (h4 : t.get 4 = some (.pointer (some ⟨p, 0, none⟩)))
  (hK : ∀ t' C', t'.get 4 = some (.pointer (some ⟨p, 0, none⟩)) → C'.next = C.next → (∀ z, z ≠ p → C'.get z = C.get z) → Vals C' 44 p (.var 3) (repC e w x) → K .ret ⟨t', 78, ds, C', none⟩) :
  W tb4 (.seq (sub c18 [1,1,0]) (sub c18 [1,1,1])) ⟨t, 78, ds, C, none⟩ K := by
 obtain ⟨d53, hd1, hd2⟩ := und53
 have l0 := load_all (tb := tb4) hd1 hd2 (l := repC e w x) size53 v
 obtain ⟨C1, s1, v1, n1, k1⟩ := store_all (tb := tb4) (t := 44) (l := repC e w x) (l' := repC e w x) size53 v rfl (by simp [repC]) (repC_one hx)
 apply W.seq
 apply W.run 20
 ·intro M
  simp (disch := first | decide +kernel | omega) only [c18, Tryz.f13, Aq, Nat.reduceEqDiff, h4, l0, s1]
  with_reducible rfl
 apply W.run 20
 ·intro M
  simp (disch := first | decide +kernel | omega) only [c18, Tryz.f13, Aq, Nat.reduceEqDiff]
  with_reducible rfl
 exact hK _ C1 (by simp only [T.get_set, Nat.reduceEqDiff, if_false]; exact h4) n1 k1 v1
theorem ans_look {B : Mem} {d : List EntD} {x : Value} {o : OpV} {q : Nat} {t : T Value} {K : Ex → St → Prop} (h : EntE B d x) (ha : Asc d) (hl : d.length < 1000000) (vO : VarO B q o) (v : Vals B 44 (q + 1) (.var 3) repZ) (hq : q + 1 < B.next)
  (ht : Sl t [(0, x), (3, .pointer (some ⟨q, 0, none⟩)), (4, .pointer (some ⟨q + 1, 0, none⟩))])
  (hK : ∀ t' C', t'.get 4 = some (.pointer (some ⟨q + 1, 0, none⟩)) → B.next ≤ C'.next → (∀ z, z < B.next → z ≠ q + 1 → C'.get z = B.get z) → Vals C' 44 (q + 1) (.var 3) (repC (if okW o.word = true then (if (find o.word d).isSome = true then 0 else 9) else 7) ((find o.word d).getD zeroE).weight (.slice none 0 0)) → K .nrm ⟨t', 78, [], C', none⟩) :
  W tb4 (sub c18 [1,0,1,0,1,0]) ⟨t, 78, [], B, none⟩ K := by
 obtain ⟨g0, g3, g4, -⟩ := ht
 rw [c18l_eq]
 obtain ⟨b, hb⟩ := h
 have lw := vO.word
 obtain ⟨D, ⟨g, hg⟩, nD, kD⟩ := run_find (w := o.word) hb hb.lt ha (by omega)
 have kBD : Kp B D := ⟨nD, kD⟩
 have z2 : Vals (D.alloc (rowOb 59 [.string .empty, .int .u32 0, .bool false])) 59 D.next (.var 3) [.string .empty, .int .u32 0, .bool false] := vals_puts (get_alloc_self _ _)
 obtain ⟨E, s2, v2, n2, e2⟩ := store_all (tb := tb4) (t := 59) (l := [.string .empty, .int .u32 0, .bool false]) (l' := entC ((find o.word d).getD zeroE)) size45' z2 rfl (by simp) (entC_one _)
 rw [next_alloc] at n2
 have kE : Kp B E := kBD.trans ⟨by omega, fun z hz => by rw [e2 z (by omega), get_alloc_ne (by omega)]⟩
 have lwt : loadF tb4 E.get 41 (.pointer (some ⟨D.next, 1, none⟩)) = .ok (.int .u32 (((find o.word d).getD zeroE).weight : Int)) := load_vals und24' rfl v2 rfl
 obtain ⟨F, s3, v3, n3, k3⟩ := store_vals (tb := tb4) (t := 41) (o := 1) (v := .int .u32 (((find o.word d).getD zeroE).weight : Int)) size24' (v.same (kE.2 _ hq)) (by show 1 < 3; decide) rfl rfl
 have vF : VarO F q o := ⟨by rw [n3]; exact (vO.kp kE).1, (vO.kp kE).2.same (k3 _ (by omega))⟩
 have lw3 := vF.word
 obtain ⟨g1, hg1⟩ := run_check (get_alloc_self F (rowOb 9 [strOf o.word]))
 have kG := Kp.alloc F (rowOb 9 [strOf o.word])
 have vG : Vals (F.alloc (rowOb 9 [strOf o.word])) 44 (q + 1) (.var 3) (repC 0 ((find o.word d).getD zeroE).weight (.slice none 0 0)) := v3.same (kG.2 _ (by have := kE.1; omega))
 have old : ∀ z, z < B.next → z ≠ q + 1 → (F.alloc (rowOb 9 [strOf o.word])).get z = B.get z := fun z hz hne => by
  rw [kG.2 z (by have := kE.1; omega), k3 z hne, kE.2 z hz]
 have nG : B.next ≤ (F.alloc (rowOb 9 [strOf o.word])).next := by have := kE.1; have := kG.1; omega
 apply W.seq
 apply W.runG (g) 20
 ·intro M hM
  simp (disch := first | decide +kernel | omega) only [c18l, c18, Tryz.f13, Aq, Nat.reduceEqDiff, g0, g3, f38_1, lw, hg, List.getElem?_cons_zero, List.getElem?_cons_succ, z45, cells_agg, s2]
  with_reducible rfl
 apply W.seq
 apply W.run 20
 ·intro M
  simp (disch := first | decide +kernel | omega) only [c18l, c18, Tryz.f13, Aq, Nat.reduceEqDiff, g4, fb1', lwt, f53_1, s3]
  with_reducible rfl
 apply W.block
 apply W.seq
 cases hw : okW o.word with
 | false =>
  have hch : chk o.word = 7 := by unfold chk; rw [hw]; rfl
  rw [hch] at hg1
  rw [hw] at hK
  obtain ⟨G, s4, v4, n4, k4⟩ := store_vals (tb := tb4) (t := 36) (o := 0) (v := .int .i64 ((7 : Nat) : Int)) size40' vG (by show 0 < 3; decide) rfl rfl
  apply W.runG (g1) 20
  ·intro M hM
   simp (disch := first | decide +kernel | omega) only [c18l, c18, Tryz.f13, Aq, Nat.reduceEqDiff, g3, f38_1, lw3, bs94, at_slc, hg1]
   with_reducible rfl
  apply W.run 20
  ·intro M
   simp (disch := first | decide +kernel | omega) only [c18l, c18, Tryz.f13, Aq, Nat.reduceEqDiff, g4, f53_0, s4]
   with_reducible rfl
  refine hK _ G ?_ (by omega) (fun z hz hne => by rw [k4 z hne, old z hz hne]) ?_
  ·simp only [T.get_set, Nat.reduceEqDiff, if_false, g4]
  ·exact v4
 | true =>
  have hch : chk o.word = 0 := by unfold chk; rw [hw]; rfl
  rw [hch] at hg1
  rw [hw] at hK
  apply W.runG (g1) 20
  ·intro M hM
   simp (disch := first | decide +kernel | omega) only [c18l, c18, Tryz.f13, Aq, Nat.reduceEqDiff, g3, f38_1, lw3, bs94, at_slc, hg1]
   with_reducible rfl
  show W tb4 _ _ _
  cases his : (find o.word d).isSome with
  | true =>
   rw [his] at hK
   apply W.run 20
   ·intro M
    simp (disch := first | decide +kernel | omega) only [c18l, c18, Tryz.f13, Aq, Nat.reduceEqDiff, his]
    with_reducible rfl
   refine hK _ _ ?_ nG old vG
   ·simp only [T.get_set, Nat.reduceEqDiff, if_false, g4]
  | false =>
   rw [his] at hK
   obtain ⟨G, s4, v4, n4, k4⟩ := store_vals (tb := tb4) (t := 36) (o := 0) (v := .int .i64 ((9 : Nat) : Int)) size40' vG (by show 0 < 3; decide) rfl rfl
   apply W.run 20
   ·intro M
    simp (disch := first | decide +kernel | omega) only [c18l, c18, Tryz.f13, Aq, Nat.reduceEqDiff, his, g4, f53_0, s4]
    with_reducible rfl
   refine hK _ G ?_ (by omega) (fun z hz hne => by rw [k4 z hne, old z hz hne]) ?_
   ·simp only [T.get_set, Nat.reduceEqDiff, if_false, g4]
   ·exact v4
end Go.Proofs.YtnelkapmmgggdaaGreat.mdl

/-
 Model: Answer, the suggestions.
-/
namespace Go.Proofs.YtnelkapmmgggdaaGreat.mdl
open Go.Am Go.Mdl
open Go.Proofs.YtnelkapmmgggdaaGreat.rnk (HitD hitC ordD lessB sortH ordK lessK hitC_len sortH_len)
set_option linter.unusedSimpArgs false
set_option linter.unusedVariables false
set_option linter.unusedVariables false

theorem sug_test {B : Mem} {x : Value} {o : OpV} {q : Nat} {t : T Value} (vO : VarO B q o) (ht : Sl t [(0, x), (3, .pointer (some ⟨q, 0, none⟩)), (4, .pointer (some ⟨q + 1, 0, none⟩))]) :
  W tb4 (sub c18s [0,0]) ⟨t, 78, [], B, none⟩ (fun e s => ∃ t', e = .nrm ∧ s = ⟨t', 78, [], B, none⟩ ∧ Sl t' [(0, x), (3, .pointer (some ⟨q, 0, none⟩)), (4, .pointer (some ⟨q + 1, 0, none⟩)), (55, .bool (decide (badS o)))]) := by
 obtain ⟨g0, g3, g4, -⟩ := ht
 have lw := vO.word
 have lk := vO.k
 have ln := vO.n
 have hlen := len_str (tb := tb4) und9' (l := o.word)
 by_cases h1 : 255 < o.word.length
 ·have hb : decide (badS o) = true := decide_eq_true (.inl h1)
  apply W.run 20
  ·intro M
   simp (config := { maxSteps := 4000000 }) (disch := first | decide +kernel | omega | simp only [Wq, Nat.reduceEqDiff]) only [c18s, c18, Tryz.f13, Aq, Nat.ble, reduceIte, Nat.reduceEqDiff, Nat.reduceAdd, g3, f38_1, lw, hlen, h1]
   with_reducible rfl
  refine ⟨_, rfl, rfl, ?_⟩
  rw [hb]
  simp only [Sl_cons, Sl_nil, T.get_set, T.puts_cons, T.puts_nil, Nat.reduceEqDiff, Nat.reduceAdd, if_true, if_false, and_true, true_and, g0, g3, g4]
 ·by_cases h2 : o.k < ((0 : Nat) : Int)
  ·have hb : decide (badS o) = true := decide_eq_true (.inr (.inl h2))
   apply W.run 20
   ·intro M
    simp (config := { maxSteps := 4000000 }) (disch := first | decide +kernel | omega | simp only [Wq, Nat.reduceEqDiff]) only [c18s, c18, Tryz.f13, Aq, Nat.ble, reduceIte, Nat.reduceEqDiff, Nat.reduceAdd, g3, f38_1, f38_3, lw, lk, hlen, h1, h2]
    with_reducible rfl
   refine ⟨_, rfl, rfl, ?_⟩
   rw [hb]
   simp only [Sl_cons, Sl_nil, T.get_set, T.puts_cons, T.puts_nil, Nat.reduceEqDiff, Nat.reduceAdd, if_true, if_false, and_true, true_and, g0, g3, g4]
  ·by_cases h3 : ((3 : Nat) : Int) < o.k
   ·have hb : decide (badS o) = true := decide_eq_true (.inr (.inr (.inl h3)))
    apply W.run 20
    ·intro M
     simp (config := { maxSteps := 4000000 }) (disch := first | decide +kernel | omega | simp only [Wq, Nat.reduceEqDiff]) only [c18s, c18, Tryz.f13, Aq, Nat.ble, reduceIte, Nat.reduceEqDiff, Nat.reduceAdd, g3, f38_1, f38_3, lw, lk, hlen, h1, h2, h3]
     with_reducible rfl
    refine ⟨_, rfl, rfl, ?_⟩
    rw [hb]
    simp only [Sl_cons, Sl_nil, T.get_set, T.puts_cons, T.puts_nil, Nat.reduceEqDiff, Nat.reduceAdd, if_true, if_false, and_true, true_and, g0, g3, g4]
   ·by_cases h4 : o.n < ((0 : Nat) : Int)
    ·have hb : decide (badS o) = true := decide_eq_true (.inr (.inr (.inr h4)))
     apply W.run 20
     ·intro M
      simp (config := { maxSteps := 4000000 }) (disch := first | decide +kernel | omega | simp only [Wq, Nat.reduceEqDiff]) only [c18s, c18, Tryz.f13, Aq, Nat.ble, reduceIte, Nat.reduceEqDiff, Nat.reduceAdd, g3, f38_1, f38_3, f38_4, lw, lk, ln, hlen, h1, h2, h3, h4]
      with_reducible rfl
     refine ⟨_, rfl, rfl, ?_⟩
     rw [hb]
     simp only [Sl_cons, Sl_nil, T.get_set, T.puts_cons, T.puts_nil, Nat.reduceEqDiff, Nat.reduceAdd, if_true, if_false, and_true, true_and, g0, g3, g4]
    ·have hb : decide (badS o) = false := decide_eq_false (fun h => by
      rcases h with h | h | h | h
      ·exact h1 h
      ·exact h2 h
      ·exact h3 h
      ·exact h4 h)
     apply W.run 20
     ·intro M
      simp (config := { maxSteps := 4000000 }) (disch := first | decide +kernel | omega | simp only [Wq, Nat.reduceEqDiff]) only [c18s, c18, Tryz.f13, Aq, Nat.ble, reduceIte, Nat.reduceEqDiff, Nat.reduceAdd, g3, f38_1, f38_3, f38_4, lw, lk, ln, hlen, h1, h2, h3, h4]
      with_reducible rfl
     refine ⟨_, rfl, rfl, ?_⟩
     rw [hb]
     simp only [Sl_cons, Sl_nil, T.get_set, T.puts_cons, T.puts_nil, Nat.reduceEqDiff, Nat.reduceAdd, if_true, if_false, and_true, true_and, g0, g3, g4]
theorem ans_sug {B : Mem} {d : List EntD} {x : Value} {o : OpV} {q : Nat} {t : T Value} {K : Ex → St → Prop} (h : EntE B d x) (hl : d.length < 60000) (hw : ∀ e ∈ d, e.word.length ≤ 900000) (vO : VarO B q o) (v : Vals B 44 (q + 1) (.var 3) repZ) (hq : q + 1 < B.next) (hb : ¬ badS o)
  (ht : Sl t [(0, x), (3, .pointer (some ⟨q, 0, none⟩)), (4, .pointer (some ⟨q + 1, 0, none⟩))])
  (hK : ∀ t' C' y dd, t'.get 4 = some (.pointer (some ⟨q + 1, 0, none⟩)) → B.next ≤ dd → B.next ≤ C'.next → (∀ z, z < B.next → z ≠ q + 1 → C'.get z = B.get z) → Vals C' 44 (q + 1) (.var 3) (repC 0 0 y) → HitE C' (topL o.n (nearL o.word o.k d)) y → C'.get dd = some .defd → K .nrm ⟨t', 78, [dd], C', none⟩) :
  W tb4 (.seq (sub c18s [1,0]) (.seq (.seq (sub c18s [1,1,0,0]) (sub c18s [1,1,0,1])) (sub c18s [1,1,1]))) ⟨t, 78, [], B, none⟩ K := by
 obtain ⟨g0, g3, g4, -⟩ := ht
 have h255 : ¬ 255 < o.word.length := fun h => hb (.inl h)
 have hn0 : 0 ≤ o.n := Int.not_lt.1 fun h => hb (.inr (.inr (.inr h)))
 apply W.seq
 apply W.run 20
 ·intro M
  simp (disch := first | decide +kernel | omega) only [c18s, c18, Tryz.f13, Aq, Nat.reduceEqDiff, z51]
  with_reducible rfl
 show W tb4 _ _ _
 have kB1 := Kp.alloc B (rowOb 42 [.slice none 0 0])
 have n1 : (B.alloc (rowOb 42 [.slice none 0 0])).next = B.next + 1 := next_alloc _ _
 have v1 : Vals (B.alloc (rowOb 42 [.slice none 0 0])) 42 B.next (.var 1) [.slice none 0 0] := vals_puts (get_alloc_self _ _)
 generalize B.alloc (rowOb 42 [.slice none 0 0]) = B1 at kB1 n1 v1
 have vO1 := vO.kp kB1
 have lw := vO1.word
 have lk := vO1.k
 obtain ⟨be, hbe, hbl⟩ := EntS.or_nil h.choose_spec
 have hbe1 : EntS B1 be d x := SlcM.same hbe kB1.1 (fun h => kB1.2 _ h)
 obtain ⟨gn, hgn⟩ := run_near (w := o.word) (k := o.k) hbe1
 have kB2 : Kp B1 (((B1.alloc (rowOb 24 [x])).alloc (rowOb 9 [strOf o.word])).alloc (rowOb 3 [.int .i64 o.k])) := ((Kp.alloc _ _).trans (Kp.alloc _ _)).trans (Kp.alloc _ _)
 have n2 : (((B1.alloc (rowOb 24 [x])).alloc (rowOb 9 [strOf o.word])).alloc (rowOb 3 [.int .i64 o.k])).next = B1.next + 3 := rfl
 have w1 : Vals (((B1.alloc (rowOb 24 [x])).alloc (rowOb 9 [strOf o.word])).alloc (rowOb 3 [.int .i64 o.k])) 24 B1.next (.var 1) [x] := ((vals_puts (get_alloc_self _ _) : Vals (B1.alloc (rowOb 24 [x])) 24 B1.next (.var 1) [x]).same (get_alloc_ne (by simp only [next_alloc]; omega))).same (get_alloc_ne (by simp only [next_alloc]; omega))
 have w2 : Vals (((B1.alloc (rowOb 24 [x])).alloc (rowOb 9 [strOf o.word])).alloc (rowOb 3 [.int .i64 o.k])) 9 (B1.next + 1) (.var 1) [strOf o.word] := (vals_puts (get_alloc_self (B1.alloc (rowOb 24 [x])) _) : Vals ((B1.alloc (rowOb 24 [x])).alloc (rowOb 9 [strOf o.word])) 9 (B1.next + 1) (.var 1) [strOf o.word]).same (get_alloc_ne (by simp only [next_alloc]; omega))
 have w3 : Vals (((B1.alloc (rowOb 24 [x])).alloc (rowOb 9 [strOf o.word])).alloc (rowOb 3 [.int .i64 o.k])) 3 (B1.next + 2) (.var 1) [.int .i64 o.k] := vals_puts (get_alloc_self ((B1.alloc (rowOb 24 [x])).alloc (rowOb 9 [strOf o.word])) _)
 apply W.seq
 apply W.seq
 apply W.runG (gn) 20
 ·intro M hM
  simp (disch := first | decide +kernel | omega) only [c18s, c18, Tryz.f13, Aq, Nat.reduceEqDiff, g0, g3, f38_1, f38_3, lw, lk, hgn]
  with_reducible rfl
 show W tb4 _ _ _
 generalize ((B1.alloc (rowOb 24 [x])).alloc (rowOb 9 [strOf o.word])).alloc (rowOb 3 [.int .i64 o.k]) = B0 at kB2 n2 w1 w2 w3
 rw [c18r_eq]
 apply W.block
 generalize htt : (T.set _ 62 _ : T Value) = tt
 have t4 : tt.get 4 = some (.pointer (some ⟨q + 1, 0, none⟩)) := by rw [← htt]; simp only [T.get_set, Nat.reduceEqDiff, if_true, if_false, g4]
 have t3 : tt.get 3 = some (.pointer (some ⟨q, 0, none⟩)) := by rw [← htt]; simp only [T.get_set, Nat.reduceEqDiff, if_true, if_false, g3]
 have t7 : tt.get 7 = some (.pointer (some ⟨B.next, 0, none⟩)) := by rw [← htt]; simp only [T.get_set, Nat.reduceEqDiff, if_true, if_false]
 have t62 : tt.get 62 = some (nearF B1.next) := by rw [← htt]; simp only [T.get_set, if_true]
 have hL1 : (B0.alloc .defd).next = B0.next + 1 := next_alloc _ _
 have hL2 : ((B0.alloc .defd).alloc (.loop (hitsLp tt B0.next))).next = B0.next + 2 := by rw [next_alloc, hL1]
 have hEL : Kp B0 ((B0.alloc .defd).alloc (.loop (hitsLp tt B0.next))) := (Kp.alloc B0 _).trans (Kp.alloc _ _)
 have hE3 := (kB1.trans kB2).trans hEL
 have hrl : (nearL o.word o.k d).length ≤ 1000000 := Nat.le_trans (nearL_len _ _ _) (by omega)
 have hcons := cons_hits (B0 := B0) (t0 := tt) (xb := B.next) hrl (by omega) t7
 have hI0 : HitsI B0 B.next tt (nearL o.word o.k d) 0 B.next ((B0.alloc .defd).alloc (.loop (hitsLp tt B0.next))) := {
  hd := by rw [get_alloc_ne (by omega), get_alloc_self]
  hl := by rw [← hL1, get_alloc_self]
  hn := by omega
  n1 := .inl rfl
  lt := by omega
  hx := ⟨.slice none 0 0, .inl ⟨rfl, rfl⟩, (v1.same (kB2.2 _ (by omega))).same (hEL.2 _ (by omega)), fun _ => rfl⟩ }
 obtain ⟨vv, C, hcl, b', hIC, hnC, hbC, hfC⟩ := run_near1 (p := B1.next) (be := be) (by omega) hw (by omega) (by omega) hcons hI0 (SlcM.same hbe hE3.1 (fun h => hE3.2 _ h)) (w1.same (hEL.2 _ (by omega))) (w2.same (hEL.2 _ (by omega))) (w3.same (hEL.2 _ (by omega))) (fun _ => by omega) (by omega) (fun y h1 h2 => by omega) (fun y hy => by omega)
 have hfv : ev tt (.tmp 62) = .ok (.func (.func 48) ⟨[]⟩ ⟨[.pointer (some ⟨B1.next, 0, none⟩), .pointer (some ⟨B1.next + 1, 0, none⟩), .pointer (some ⟨B1.next + 2, 0, none⟩)]⟩) := by rw [ev_tmp, t62]; rfl
 refine W.rangeF hfv hcl hIC.hl (by intro h; cases h) rfl ?_
 show W tb4 _ _ _
 have hCn := hIC.hn
 have hCb := hIC.n1
 have hClt := hIC.lt
 have chd := hIC.hd
 obtain ⟨y, hy1, hy2, hy3⟩ := hIC.hx
 rw [List.take_length] at hy1
 show W tb4 _ ⟨_, _, _, C.set (B0.next + 1) (.loop { (hitsLp tt B0.next) with state := .exhausted }), _⟩ _
 have hg : ∀ z, z ≠ B0.next + 1 → (C.set (B0.next + 1) (.loop { (hitsLp tt B0.next) with state := .exhausted })).get z = C.get z := fun z hz => by rw [get_setMem, if_neg hz]
 have hgn' : (C.set (B0.next + 1) (.loop { (hitsLp tt B0.next) with state := .exhausted })).next = C.next := next_set _ _ _
 revert hg hgn'
 generalize C.set (B0.next + 1) (.loop { (hitsLp tt B0.next) with state := .exhausted }) = D
 intro hg hgn'
 have dx : Vals D 42 B.next (.var 1) [y] := hy2.same (hg _ (by omega))
 have ly : loadF tb4 D.get 42 (.pointer (some ⟨B.next, 0, none⟩)) = .ok y := load_vals und51 rfl dx rfl
 have oldD : ∀ z, z < B.next → D.get z = B.get z := fun z hz => by
  rw [hg z (by omega), hfC z (by omega) (by omega) (by omega), hE3.2 z hz]
 have vOD : VarO D q o := ⟨by omega, vO.2.same (oldD _ (by omega))⟩
 have ln := vOD.n
 have hyD : HitS D b' (nearL o.word o.k d) y := by
  rcases hCb with hq' | hq'
  ·have hnil := hy3 hq'
   subst hnil
   rcases hy1 with hy1 | ⟨k, c, e, _⟩
   ·exact .inl hy1
   ·cases e
  ·exact SlcM.same hy1 (by omega) (fun _ => hg _ (by omega))
 have hdD : D.get B0.next = some .defd := by rw [hg _ (by omega)]; exact chd
 have hD53 : Vals D 44 (q + 1) (.var 3) repZ := v.same (oldD _ hq)
 obtain ⟨ys, E, ⟨gt, hgt⟩, hE, kE⟩ := run_top hyD hn0 (Nat.lt_of_le_of_lt (nearL_len _ _ _) hl)
 have vE : Vals E 44 (q + 1) (.var 3) repZ := hD53.same (kE.2 _ (by omega))
 obtain ⟨F, s1, v1', n1', k1⟩ := store_vals (tb := tb4) (t := 42) (o := 2) (v := ys) size51 vE (by show 2 < 3; decide) hE.cells.1 hE.cells.2.1
 obtain ⟨G, s2, v2', n2', k2⟩ := store_vals (tb := tb4) (t := 36) (o := 0) (v := .int .i64 ((0 : Nat) : Int)) size40' v1' (by show 0 < 3; decide) rfl rfl
 have kDE := kE.1
 apply W.runG (gt) 20
 ·intro M hM
  simp (disch := first | decide +kernel | omega) only [c18s, c18, Tryz.f13, Aq, Nat.reduceEqDiff, t3, t4, t7, f38_4, ln, ly, hgt, List.getElem?_cons_zero, List.getElem?_cons_succ, f53_0, f53_2, s1, s2]
  with_reducible rfl
 refine hK _ G ys B0.next ?_ (by omega) (by omega) (fun z hz hne => by rw [k2 z hne, k1 z hne, kE.2 z (by omega), oldD z hz]) v2' ?_ ?_
 ·simp only [T.get_set, Nat.reduceEqDiff, if_false, t4]
 ·exact HitE.put hE (q := q + 1) (Vals.not vE (by decide)) (by omega) (fun z hz hne => by rw [k2 z hne, k1 z hne])
 ·rw [k2 _ (by omega), k1 _ (by omega), kE.2 _ (by omega)]; exact hdD
end Go.Proofs.YtnelkapmmgggdaaGreat.mdl

/-
 Model: Answer, whole.
-/
namespace Go.Proofs.YtnelkapmmgggdaaGreat.mdl
open Go.Am Go.Mdl
open Go.Proofs.YtnelkapmmgggdaaGreat.rnk (HitD hitC ordD lessB sortH ordK lessK hitC_len sortH_len)
set_option linter.unusedSimpArgs false
set_option linter.unusedVariables false
set_option linter.unusedVariables false

theorem run_answer {A : Mem} {d : List EntD} {x : Value} {o : OpV} (h : EntE A d x) (ha : Asc d) (hl : d.length < 60000) (hw : ∀ e ∈ d, e.word.length ≤ 900000) :
  ∃ v A', Ans tb4 13 [x, .agg ⟨opC o⟩] A v A' ∧ RepE A' (ansD d o) v ∧ Kp A A' := by
 refine ans_of_W (fn_at Tryz.func13) c18_eq (by rw [Tryz.ntmps13]; simp) (by kernel_rfl) (by kernel_rfl) ?_
 obtain ⟨d53, hd1, hd2⟩ := und53
 have hv0 : Vals ((A.alloc (rowOb 47 (opC o))).alloc (rowOb 44 repZ)) 47 A.next (.var 5) (opC o) := (vals_puts (get_alloc_self _ _)).same (get_alloc_ne (by rw [next_alloc]; omega))
 have hz0 : Vals ((A.alloc (rowOb 47 (opC o))).alloc (rowOb 44 repZ)) 44 (A.next + 1) (.var 3) repZ := vals_puts (get_alloc_self _ _)
 have hk0 : Kp A ((A.alloc (rowOb 47 (opC o))).alloc (rowOb 44 repZ)) := (Kp.alloc _ _).trans (Kp.alloc _ _)
 have hn0 : ((A.alloc (rowOb 47 (opC o))).alloc (rowOb 44 repZ)).next = A.next + 2 := rfl
 apply W.seq
 apply W.run 20
 ·intro M
  simp (disch := first | decide +kernel | omega) only [c18, Tryz.f13, Aq, Nat.reduceEqDiff, z53, cells_agg, next_alloc]
  with_reducible rfl
 show W tb4 _ _ _
 generalize (A.alloc (rowOb 47 (opC o))).alloc (rowOb 44 repZ) = B at hv0 hz0 hk0 hn0
 refine W_gen [(0, x), (3, .pointer (some ⟨A.next, 0, none⟩)), (4, .pointer (some ⟨A.next + 1, 0, none⟩))] (by simp only [Sl_cons, Sl_nil, T.get_set, T.puts_cons, T.puts_nil, Nat.reduceEqDiff, Nat.reduceAdd, if_true, if_false, and_true, true_and]) fun t ht => ?_
 obtain ⟨g0, g3, g4, -⟩ := ht
 have vO : VarO B A.next o := ⟨by omega, hv0⟩
 have hE := h.kp hk0
 have lk := vO.kind
 apply W.seq
 apply W.seq
 apply W.run 20
 ·intro M
  simp (disch := first | decide +kernel | omega) only [c18, Tryz.f13, Aq, Nat.reduceEqDiff, g3, f38_0, lk]
  with_reducible rfl
 apply W.block
 apply W.seq
 by_cases h6 : o.kind = 6
 ·have he6 : intOpF .eql .i64 o.kind ((6 : Nat) : Int) = .ok (.bool true) := by rw [op_eqlI, decide_eq_true (show o.kind = ((6 : Nat) : Int) from h6)]
  have hr : ansD d o = ⟨if okW o.word = true then (if (find o.word d).isSome = true then 0 else 9) else 7, ((find o.word d).getD zeroE).weight, []⟩ := by unfold ansD; rw [if_pos h6]
  apply W.run 20
  ·intro M
   simp (disch := first | decide +kernel | omega) only [c18, Tryz.f13, Aq, Nat.reduceEqDiff, he6]
   with_reducible rfl
  refine W.cond (p := true) ?_ (fun _ => ?_) (fun h => by cases h)
  ·simp only [ev_tmp, T.get_set, Nat.reduceEqDiff, if_true, if_false, evG_some]
  refine ans_look (q := A.next) (x := x) hE ha (by omega) vO hz0 (by omega) (by simp only [Sl_cons, Sl_nil, T.get_set, T.puts_cons, T.puts_nil, Nat.reduceEqDiff, Nat.reduceAdd, if_true, if_false, and_true, true_and, g0, g3, g4]) fun t' C h4 nC kC vC => ?_
  show W tb4 _ _ _
  refine ans_end vC rfl h4 fun t2 C2 h42 n2 k2 v2 => ?_
  have l2 := load_all (tb := tb4) hd1 hd2 (l := repC (if okW o.word = true then (if (find o.word d).isSome = true then 0 else 9) else 7) ((find o.word d).getD zeroE).weight (.slice none 0 0)) size53 v2
  refine ⟨.inr rfl, C2, [.agg ⟨repC (if okW o.word = true then (if (find o.word d).isSome = true then 0 else 9) else 7) ((find o.word d).getD zeroE).weight (.slice none 0 0)⟩], rfl, ?_, ⟨.slice none 0 0, by rw [hr]; rfl, by rw [hr]; exact HitE.nil _⟩, ⟨by omega, fun z hz => by rw [k2 z (by omega), kC z (by omega) (by omega), hk0.2 z hz]⟩⟩
  simp only [Tryz.f13, resF, ev_tmp, T.get_set, Nat.reduceEqDiff, if_true, if_false, evG_some, R.ok_bind, h42, l2]
 ·have he6 : intOpF .eql .i64 o.kind ((6 : Nat) : Int) = .ok (.bool false) := by rw [op_eqlI, decide_eq_false (show ¬ o.kind = ((6 : Nat) : Int) from h6)]
  apply W.run 20
  ·intro M
   simp (disch := first | decide +kernel | omega) only [c18, Tryz.f13, Aq, Nat.reduceEqDiff, he6]
   with_reducible rfl
  refine W.cond (p := false) ?_ (fun h => by cases h) (fun _ => ?_)
  ·simp only [ev_tmp, T.get_set, Nat.reduceEqDiff, if_true, if_false, evG_some]
  rw [c18e_eq]
  apply W.seq
  by_cases h7 : o.kind = 7
  ·have he7 : intOpF .eql .i64 o.kind ((7 : Nat) : Int) = .ok (.bool true) := by rw [op_eqlI, decide_eq_true (show o.kind = ((7 : Nat) : Int) from h7)]
   apply W.run 20
   ·intro M
    simp (disch := first | decide +kernel | omega) only [c18, Tryz.f13, Aq, Nat.reduceEqDiff, he7]
    with_reducible rfl
   refine W.cond (p := true) ?_ (fun _ => ?_) (fun h => by cases h)
   ·simp only [ev_tmp, T.get_set, Nat.reduceEqDiff, if_true, if_false, evG_some]
   rw [c18s_eq]
   apply W.seq
   apply W.seq
   refine (sug_test (x := x) vO (by simp only [Sl_cons, Sl_nil, T.get_set, T.puts_cons, T.puts_nil, Nat.reduceEqDiff, Nat.reduceAdd, if_true, if_false, and_true, true_and, g0, g3, g4])).mono ?_
   rintro e s ⟨t5, rfl, rfl, f0, f3, f4, f55, -⟩
   show W tb4 _ _ _
   by_cases hb : badS o
   ·have hr : ansD d o = ⟨7, 0, []⟩ := by unfold ansD; rw [if_neg h6, if_pos h7, if_pos hb]
    rw [decide_eq_true hb] at f55
    obtain ⟨C, s1, v1, n1, k1⟩ := store_vals (tb := tb4) (t := 36) (o := 0) (v := .int .i64 ((7 : Nat) : Int)) size40' hz0 (by show 0 < 3; decide) rfl rfl
    refine W.cond (p := true) ?_ (fun _ => ?_) (fun h => by cases h)
    ·simp only [ev_tmp, f55, evG_some]
    apply W.run 20
    ·intro M
     simp (disch := first | decide +kernel | omega) only [c18s, c18, Tryz.f13, Aq, Nat.reduceEqDiff, f4, f53_0, s1]
     with_reducible rfl
    show W tb4 _ _ _
    have v1' : Vals C 44 (A.next + 1) (.var 3) (repC 7 0 (.slice none 0 0)) := v1
    refine ans_end v1' rfl ?_ fun t2 C2 h42 n2 k2 v2 => ?_
    ·simp only [T.get_set, Nat.reduceEqDiff, if_false, f4]
    have l2 := load_all (tb := tb4) hd1 hd2 (l := repC 7 0 (.slice none 0 0)) size53 v2
    refine ⟨.inr rfl, C2, [.agg ⟨repC 7 0 (.slice none 0 0)⟩], rfl, ?_, ⟨.slice none 0 0, by rw [hr]; rfl, by rw [hr]; exact HitE.nil _⟩, ⟨by omega, fun z hz => by rw [k2 z (by omega), k1 z (by omega), hk0.2 z hz]⟩⟩
    simp only [Tryz.f13, resF, ev_tmp, T.get_set, Nat.reduceEqDiff, if_true, if_false, evG_some, R.ok_bind, h42, l2]
   ·have hr : ansD d o = ⟨0, 0, topL o.n (nearL o.word o.k d)⟩ := by unfold ansD; rw [if_neg h6, if_pos h7, if_neg hb]
    rw [decide_eq_false hb] at f55
    refine W.cond (p := false) ?_ (fun h => by cases h) (fun _ => ?_)
    ·simp only [ev_tmp, f55, evG_some]
    apply W.run 20
    ·intro M
     simp (disch := first | decide +kernel | omega) only [c18s, c18, Tryz.f13, Aq, Nat.reduceEqDiff]
     with_reducible rfl
    show W tb4 _ _ _
    refine ans_sug (q := A.next) (x := x) hE hl hw vO hz0 (by omega) hb (by simp only [Sl_cons, Sl_nil, T.get_set, T.puts_cons, T.puts_nil, Nat.reduceEqDiff, Nat.reduceAdd, if_true, if_false, and_true, true_and, f0, f3, f4]) fun t' C y dd h4 hdd nC kC vC hy hdf => ?_
    show W tb4 _ _ _
    refine ans_end vC hy.cells.2.1 h4 fun t2 C2 h42 n2 k2 v2 => ?_
    have hgs : ∀ z, z ≠ dd → (C2.set dd .dead).get z = C2.get z := fun z h1 => by rw [get_setMem, if_neg h1]
    have hgsn : (C2.set dd .dead).next = C2.next := next_set _ _ _
    have v3 : Vals (C2.set dd .dead) 44 (A.next + 1) (.var 3) (repC 0 0 y) := v2.same (hgs _ (by omega))
    have l2 := load_all (tb := tb4) hd1 hd2 (l := repC 0 0 y) size53 v3
    have hdd2 : C2.get dd = some .defd := by rw [k2 _ (by omega)]; exact hdf
    have hy2 : HitE C2 (topL o.n (nearL o.word o.k d)) y := HitE.put hy (q := A.next + 1) (Vals.not vC (by decide)) (by omega) (fun z hz hne => by rw [k2 z hne])
    have hy3 : HitE (C2.set dd .dead) (topL o.n (nearL o.word o.k d)) y := HitE.put hy2 (q := dd) (fun k c z hh => by rw [hdd2] at hh; cases hh) (by omega) (fun z hz hne => hgs z hne)
    refine ⟨.inr rfl, C2.set dd .dead, [.agg ⟨repC 0 0 y⟩], ?_, ?_, ⟨y, by rw [hr]; rfl, by rw [hr]; exact hy3⟩, ⟨by omega, fun z hz => by rw [hgs z (by omega), k2 z (by omega), kC z (by omega) (by omega), hk0.2 z hz]⟩⟩
    ·show takeF [dd] C2 = _
     unfold takeF
     rw [hdd2]
     rfl
    ·simp only [Tryz.f13, resF, ev_tmp, T.get_set, Nat.reduceEqDiff, if_true, if_false, evG_some, R.ok_bind, h42, l2]
  ·have he7 : intOpF .eql .i64 o.kind ((7 : Nat) : Int) = .ok (.bool false) := by rw [op_eqlI, decide_eq_false (show ¬ o.kind = ((7 : Nat) : Int) from h7)]
   have hr : ansD d o = ⟨2, 0, []⟩ := by unfold ansD; rw [if_neg h6, if_neg h7]
   obtain ⟨C, s1, v1, n1, k1⟩ := store_vals (tb := tb4) (t := 36) (o := 0) (v := .int .i64 ((2 : Nat) : Int)) size40' hz0 (by show 0 < 3; decide) rfl rfl
   apply W.run 20
   ·intro M
    simp (disch := first | decide +kernel | omega) only [c18, Tryz.f13, Aq, Nat.reduceEqDiff, he7]
    with_reducible rfl
   refine W.cond (p := false) ?_ (fun h => by cases h) (fun _ => ?_)
   ·simp only [ev_tmp, T.get_set, Nat.reduceEqDiff, if_true, if_false, evG_some]
   apply W.run 20
   ·intro M
    simp (disch := first | decide +kernel | omega) only [c18, Tryz.f13, Aq, Nat.reduceEqDiff, g4, f53_0, s1]
    with_reducible rfl
   show W tb4 _ _ _
   have v1' : Vals C 44 (A.next + 1) (.var 3) (repC 2 0 (.slice none 0 0)) := v1
   refine ans_end v1' rfl ?_ fun t2 C2 h42 n2 k2 v2 => ?_
   ·simp only [T.get_set, Nat.reduceEqDiff, if_false, g4]
   have l2 := load_all (tb := tb4) hd1 hd2 (l := repC 2 0 (.slice none 0 0)) size53 v2
   refine ⟨.inr rfl, C2, [.agg ⟨repC 2 0 (.slice none 0 0)⟩], rfl, ?_, ⟨.slice none 0 0, by rw [hr]; rfl, by rw [hr]; exact HitE.nil _⟩, ⟨by omega, fun z hz => by rw [k2 z (by omega), k1 z (by omega), hk0.2 z hz]⟩⟩
   simp only [Tryz.f13, resF, ev_tmp, T.get_set, Nat.reduceEqDiff, if_true, if_false, evG_some, R.ok_bind, h42, l2]
end Go.Proofs.YtnelkapmmgggdaaGreat.mdl

/-
 Model: a model; what is kept; opened again; read.
-/
namespace Go.Proofs.YtnelkapmmgggdaaGreat.mdl
open Go.Am Go.Mdl
open Go.Proofs.YtnelkapmmgggdaaGreat.rnk (HitD hitC ordD lessB sortH ordK lessK hitC_len sortH_len)
set_option linter.unusedSimpArgs false
set_option linter.unusedVariables false
set_option linter.unusedVariables false

structure MdlS where
 d : List EntD
 bad : Bool
 closed : Bool
def ModV (A : Mem) (q : Nat) (s : MdlS) : Prop := ∃ x, q < A.next ∧ Vals A 64 q (.var 3) [x, .bool s.bad, .bool s.closed] ∧ EntE A s.d x
def Kq (q : Nat) (A A' : Mem) : Prop := A.next ≤ A'.next ∧ ∀ z, z < A.next → z ≠ q → A'.get z = A.get z
theorem Kq.trans {q : Nat} {A B C : Mem} (h : Kq q A B) (k : Kq q B C) : Kq q A C := ⟨Nat.le_trans h.1 k.1, fun z hz hne => by rw [k.2 z (by have := h.1; omega) hne, h.2 z hz hne]⟩
theorem Kp.kq {A A' : Mem} (h : Kp A A') (q : Nat) : Kq q A A' := ⟨h.1, fun z hz _ => h.2 z hz⟩
theorem ModV.kp {A A' : Mem} {q : Nat} {s : MdlS} (h : ModV A q s) (k : Kp A A') : ModV A' q s := by
 obtain ⟨x, h1, h2, h3⟩ := h
 exact ⟨x, Nat.lt_of_lt_of_le h1 k.1, h2.same (k.2 _ h1), h3.kp k⟩
theorem EntE.kq {A A' : Mem} {q : Nat} {l : List EntD} {x : Value} {ls : List Value} (h : EntE A l x) (hv : Vals A 64 q (.var 3) ls) (k : Kq q A A') : EntE A' l x := by
 obtain ⟨b, h⟩ := h
 exact ⟨b, SlcM.put h (Vals.not hv (by decide)) k.1 k.2⟩
theorem EntE.cells {A : Mem} {l : List EntD} {x : Value} (h : EntE A l x) : x.cells.toList = [x] ∧ oneCell x = true ∧ sameV 100 x x = true := by
 obtain ⟨b, h⟩ := h
 exact h.cells
theorem size32 : sizeF tb4 24 = .ok 1 := by kernel_rfl
theorem size4' : sizeF tb4 4 = .ok 1 := by kernel_rfl
theorem fm1 {b : Nat} : fieldAddrF tb4 64 (.pointer (some ⟨b, 0, none⟩)) 1 = .ok (.pointer (some ⟨b, 1, none⟩)) := by kernel_rfl
theorem fm2 {b : Nat} : fieldAddrF tb4 64 (.pointer (some ⟨b, 0, none⟩)) 2 = .ok (.pointer (some ⟨b, 2, none⟩)) := by kernel_rfl
theorem ModV.bad {A : Mem} {q : Nat} {s : MdlS} (h : ModV A q s) : loadF tb4 A.get 4 (.pointer (some ⟨q, 1, none⟩)) = .ok (.bool s.bad) := by
 obtain ⟨x, h1, h2, h3⟩ := h
 exact load_vals und4' rfl h2 rfl
theorem ModV.closed {A : Mem} {q : Nat} {s : MdlS} (h : ModV A q s) : loadF tb4 A.get 4 (.pointer (some ⟨q, 2, none⟩)) = .ok (.bool s.closed) := by
 obtain ⟨x, h1, h2, h3⟩ := h
 exact load_vals und4' rfl h2 rfl
theorem ModV.d {A : Mem} {q : Nat} {s : MdlS} (h : ModV A q s) : ∃ x, loadF tb4 A.get 24 (.pointer (some ⟨q, 0, none⟩)) = .ok x ∧ EntE A s.d x := by
 obtain ⟨x, h1, h2, h3⟩ := h
 exact ⟨x, load_vals und32' rfl h2 rfl, h3⟩
theorem ModV.setBad {A : Mem} {q : Nat} {s : MdlS} (h : ModV A q s) (p : Bool) : ∃ A', storeF tb4 A 4 (.pointer (some ⟨q, 1, none⟩)) (.bool p) = .ok A' ∧ ModV A' q ⟨s.d, p, s.closed⟩ ∧ A'.next = A.next ∧ ∀ z, z ≠ q → A'.get z = A.get z := by
 obtain ⟨x, h1, h2, h3⟩ := h
 obtain ⟨A', s1, v1, n1, k1⟩ := store_vals (tb := tb4) (t := 4) (o := 1) (v := .bool p) size4' h2 (by show 1 < 3; decide) rfl rfl
 exact ⟨A', s1, ⟨x, by omega, v1, h3.kq h2 ⟨by omega, fun z _ hz => k1 z hz⟩⟩, n1, k1⟩
theorem ModV.setClosed {A : Mem} {q : Nat} {s : MdlS} (h : ModV A q s) (p : Bool) : ∃ A', storeF tb4 A 4 (.pointer (some ⟨q, 2, none⟩)) (.bool p) = .ok A' ∧ ModV A' q ⟨s.d, s.bad, p⟩ ∧ A'.next = A.next ∧ ∀ z, z ≠ q → A'.get z = A.get z := by
 obtain ⟨x, h1, h2, h3⟩ := h
 obtain ⟨A', s1, v1, n1, k1⟩ := store_vals (tb := tb4) (t := 4) (o := 2) (v := .bool p) size4' h2 (by show 2 < 3; decide) rfl rfl
 exact ⟨A', s1, ⟨x, by omega, v1, h3.kq h2 ⟨by omega, fun z _ hz => k1 z hz⟩⟩, n1, k1⟩
theorem ModV.setD {A : Mem} {q : Nat} {s : MdlS} {d : List EntD} {y : Value} (h : ModV A q s) (hy : EntE A d y) : ∃ A', storeF tb4 A 24 (.pointer (some ⟨q, 0, none⟩)) y = .ok A' ∧ ModV A' q ⟨d, s.bad, s.closed⟩ ∧ A'.next = A.next ∧ ∀ z, z ≠ q → A'.get z = A.get z := by
 obtain ⟨x, h1, h2, h3⟩ := h
 obtain ⟨A', s1, v1, n1, k1⟩ := store_vals (tb := tb4) (t := 24) (o := 0) (v := y) size32 h2 (by show 0 < 3; decide) hy.cells.1 hy.cells.2.1
 exact ⟨A', s1, ⟨y, by omega, v1, hy.kq h2 ⟨by omega, fun z _ hz => k1 z hz⟩⟩, n1, k1⟩
theorem bld53 {e : Nat} : buildF tb4 44 [(0, .int .i64 (e : Int))] = .ok (.agg ⟨repC e 0 (.slice none 0 0)⟩) := by kernel_rfl
theorem rep_store {C : Mem} {p e w e' w' : Nat} {x x' : Value} (v : Vals C 44 p (.var 3) (repC e w x)) (hx : oneCell x' = true) : ∃ C', storeF tb4 C 44 (.pointer (some ⟨p, 0, none⟩)) (.agg ⟨repC e' w' x'⟩) = .ok C' ∧ Vals C' 44 p (.var 3) (repC e' w' x') ∧ loadF tb4 C'.get 44 (.pointer (some ⟨p, 0, none⟩)) = .ok (.agg ⟨repC e' w' x'⟩) ∧ C'.next = C.next ∧ ∀ z, z ≠ p → C'.get z = C.get z := by
 obtain ⟨d53, hd1, hd2⟩ := und53
 obtain ⟨C1, s1, v1, n1, k1⟩ := store_all (tb := tb4) (t := 44) (l := repC e w x) (l' := repC e' w' x') size53 v rfl (by simp [repC]) (repC_one hx)
 exact ⟨C1, s1, v1, load_all (tb := tb4) hd1 hd2 (l := repC e' w' x') size53 v1, n1, k1⟩
theorem two_vars (A : Mem) (o : OpV) : VarO ((A.alloc (rowOb 47 (opC o))).alloc (rowOb 44 repZ)) A.next o ∧ Vals ((A.alloc (rowOb 47 (opC o))).alloc (rowOb 44 repZ)) 44 (A.next + 1) (.var 3) repZ ∧ Kp A ((A.alloc (rowOb 47 (opC o))).alloc (rowOb 44 repZ)) ∧ ((A.alloc (rowOb 47 (opC o))).alloc (rowOb 44 repZ)).next = A.next + 2 :=
 ⟨⟨by show A.next < A.next + 1 + 1; omega, (vals_puts (get_alloc_self _ _)).same (get_alloc_ne (by rw [next_alloc]; omega))⟩, vals_puts (get_alloc_self _ _), (Kp.alloc _ _).trans (Kp.alloc _ _), rfl⟩
def keepD (s : MdlS) (told : Nat) : MdlS × Nat := if s.bad = true then (s, 11) else (⟨s.d, decide (told ≠ 0), s.closed⟩, told)
def repO (e : Nat) : Value := .agg ⟨repC e 0 (.slice none 0 0)⟩
theorem repO_E (A : Mem) (e : Nat) : RepE A ⟨e, 0, []⟩ (repO e) := ⟨_, rfl, HitE.nil A⟩
noncomputable def c41 : Code := Tryz.f58.body.getD .skip
theorem c41_eq : Tryz.f58.body = some (.seq (sub c41 [0]) (.seq (.seq (sub c41 [1,0,0]) (sub c41 [1,0,1])) (.seq (sub c41 [1,1,0]) (.seq (sub c41 [1,1,1,0]) (sub c41 [1,1,1,1]))))) := by kernel_rfl
theorem run_keep {A : Mem} {q told : Nat} {s : MdlS} {o : OpV} (h : ModV A q s) :
  ∃ v A', Ans tb4 58 [.pointer (some ⟨q, 0, none⟩), .agg ⟨opC o⟩, .int .i64 (told : Int)] A v A' ∧ v = repO (keepD s told).2 ∧ ModV A' q (keepD s told).1 ∧ Kq q A A' := by
 refine ans_of_W (fn_at Tryz.func58) c41_eq (by rw [Tryz.ntmps58]; simp) (by kernel_rfl) (by kernel_rfl) ?_
 obtain ⟨vO, vR, k0, n0⟩ := two_vars A o
 have hqA : q < A.next := by obtain ⟨x, h1, _⟩ := h; exact h1
 have hm := h.kp k0
 apply W.seq
 apply W.run 20
 ·intro M
  simp (disch := first | decide +kernel | omega) only [c41, Tryz.f58, Aq, Nat.reduceEqDiff, z53, cells_agg, next_alloc]
  with_reducible rfl
 show W tb4 _ _ _
 generalize (A.alloc (rowOb 47 (opC o))).alloc (rowOb 44 repZ) = B at vO vR k0 n0 hm
 have lb := hm.bad
 apply W.seq
 apply W.seq
 cases hb : s.bad with
 | true =>
  rw [hb] at lb
  have hr : keepD s told = (s, 11) := by unfold keepD; rw [if_pos hb]
  obtain ⟨C, s1, v1, l1, n1, k1⟩ := rep_store (e' := 11) (w' := 0) (x' := .slice none 0 0) vR rfl
  apply W.run 20
  ·intro M
   simp (disch := first | decide +kernel | omega) only [c41, Tryz.f58, Aq, Nat.reduceEqDiff, opF_nilCheck, nil_ptr, fm1, lb]
   with_reducible rfl
  apply W.run 20
  ·intro M
   simp (disch := first | decide +kernel | omega) only [c41, Tryz.f58, Aq, Nat.reduceEqDiff, bld53, s1]
   with_reducible rfl
  rw [hr]
  refine ⟨.inr rfl, C, [repO 11], rfl, ?_, rfl, ?_, ?_⟩
  ·simp only [Tryz.f58, resF, ev_tmp, T.get_set, T.puts_cons, T.puts_nil, Nat.reduceEqDiff, if_true, if_false, evG_some, R.ok_bind, l1]
   rfl
  ·obtain ⟨x, h1, h2, h3⟩ := hm
   obtain ⟨b, h3⟩ := h3
   exact ⟨x, by omega, h2.same (k1 _ (by omega)), b, SlcM.put h3 (Vals.not vR (by decide)) (by omega) (fun z _ hz => k1 z hz)⟩
  ·exact ⟨by omega, fun z hz _ => by rw [k1 z (by omega), k0.2 z hz]⟩
 | false =>
  rw [hb] at lb
  have hr : keepD s told = (⟨s.d, decide (told ≠ 0), s.closed⟩, told) := by unfold keepD; rw [if_neg (by rw [hb]; decide)]
  obtain ⟨C, s1, m1, n1, k1⟩ := hm.setBad (decide (told ≠ 0))
  obtain ⟨D, s2, v2, l2, n2, k2⟩ := rep_store (e' := told) (w' := 0) (x' := .slice none 0 0) (vR.same (k1 _ (by omega))) rfl
  have hne : intOpF .neq .i64 (told : Int) ((0 : Nat) : Int) = .ok (.bool (decide (told ≠ 0))) := by
   rw [op_neqI]
   congr 2
   apply decide_eq_decide.2
   omega
  apply W.run 20
  ·intro M
   simp (disch := first | decide +kernel | omega) only [c41, Tryz.f58, Aq, Nat.reduceEqDiff, opF_nilCheck, nil_ptr, fm1, lb]
   with_reducible rfl
  apply W.run 20
  ·intro M
   simp (disch := first | decide +kernel | omega) only [c41, Tryz.f58, Aq, Nat.reduceEqDiff]
   with_reducible rfl
  apply W.seq
  apply W.run 20
  ·intro M
   simp (disch := first | decide +kernel | omega) only [c41, Tryz.f58, Aq, Nat.reduceEqDiff, hne, opF_nilCheck, nil_ptr, fm1, s1]
   with_reducible rfl
  apply W.seq
  apply W.run 20
  ·intro M
   simp (disch := first | decide +kernel | omega) only [c41, Tryz.f58, Aq, Nat.reduceEqDiff, bld53, s2]
   with_reducible rfl
  apply W.run 20
  ·intro M
   simp (disch := first | decide +kernel | omega) only [c41, Tryz.f58, Aq, Nat.reduceEqDiff]
   with_reducible rfl
  rw [hr]
  refine ⟨.inr rfl, D, [repO told], rfl, ?_, rfl, ?_, ?_⟩
  ·simp only [Tryz.f58, resF, ev_tmp, T.get_set, T.puts_cons, T.puts_nil, Nat.reduceEqDiff, if_true, if_false, evG_some, R.ok_bind, l2]
   rfl
  ·obtain ⟨x, h1, h2, h3⟩ := m1
   obtain ⟨b, h3⟩ := h3
   exact ⟨x, by omega, h2.same (k2 _ (by omega)), b, SlcM.put h3 (Vals.not (vR.same (k1 _ (by omega)) : Vals C 44 (A.next + 1) (.var 3) repZ) (by decide)) (by omega) (fun z _ hz => k2 z hz)⟩
  ·exact ⟨by omega, fun z hz hne' => by rw [k2 z (by omega), k1 z hne', k0.2 z hz]⟩
end Go.Proofs.YtnelkapmmgggdaaGreat.mdl

/-
 Model: opened again; read; changed.
-/
namespace Go.Proofs.YtnelkapmmgggdaaGreat.mdl
open Go.Am Go.Mdl
open Go.Proofs.YtnelkapmmgggdaaGreat.rnk (HitD hitC ordD lessB sortH ordK lessK hitC_len sortH_len)
set_option linter.unusedSimpArgs false
set_option linter.unusedVariables false
set_option linter.unusedVariables false

theorem ModV.lt {A : Mem} {q : Nat} {s : MdlS} (h : ModV A q s) : q < A.next := by obtain ⟨x, h1, _⟩ := h; exact h1
theorem ModV.v {A : Mem} {q : Nat} {s : MdlS} (h : ModV A q s) : ∃ ls, Vals A 64 q (.var 3) ls := by obtain ⟨x, _, h2, _⟩ := h; exact ⟨_, h2⟩
theorem ModV.rep {A A' : Mem} {q p : Nat} {s : MdlS} {ls : List Value} (h : ModV A q s) (vR : Vals A 44 p (.var 3) ls) (hn : A'.next = A.next) (hk : ∀ z, z ≠ p → A'.get z = A.get z) : ModV A' q s := by
 obtain ⟨x, h1, h2, b, h3⟩ := h
 have hne : q ≠ p := fun e => by
  obtain ⟨c, hc, -⟩ := h2
  rw [e] at hc
  exact Vals.not vR (by decide) _ _ _ hc
 exact ⟨x, by omega, h2.same (hk _ hne), b, SlcM.put h3 (Vals.not vR (by decide)) (by omega) (fun z _ hz => hk z hz)⟩
def reopD (s : MdlS) (told : Nat) : MdlS × Nat := (⟨s.d, if told = 0 then false else s.bad, decide (told ≠ 0)⟩, told)
noncomputable def c43 : Code := Tryz.f60.body.getD .skip
theorem c43_eq : Tryz.f60.body = some (.seq (sub c43 [0]) (.seq (.seq (sub c43 [1,0,0]) (.seq (sub c43 [1,0,1,0]) (sub c43 [1,0,1,1]))) (.seq (sub c43 [1,1,0]) (sub c43 [1,1,1])))) := by kernel_rfl
theorem run_reopen {A : Mem} {q told : Nat} {s : MdlS} {o : OpV} (h : ModV A q s) :
  ∃ v A', Ans tb4 60 [.pointer (some ⟨q, 0, none⟩), .agg ⟨opC o⟩, .int .i64 (told : Int)] A v A' ∧ v = repO (reopD s told).2 ∧ ModV A' q (reopD s told).1 ∧ Kq q A A' := by
 refine ans_of_W (fn_at Tryz.func60) c43_eq (by rw [Tryz.ntmps60]; simp) (by kernel_rfl) (by kernel_rfl) ?_
 obtain ⟨vO, vR, k0, n0⟩ := two_vars A o
 have hqA := h.lt
 have hm := h.kp k0
 apply W.seq
 apply W.run 20
 ·intro M
  simp (disch := first | decide +kernel | omega) only [c43, Tryz.f60, Aq, Nat.reduceEqDiff, z53, cells_agg, next_alloc]
  with_reducible rfl
 show W tb4 _ _ _
 generalize (A.alloc (rowOb 47 (opC o))).alloc (rowOb 44 repZ) = B at vO vR k0 n0 hm
 obtain ⟨C, s1, m1, n1, k1⟩ := hm.setClosed (decide (told ≠ 0))
 have vR1 : Vals C 44 (A.next + 1) (.var 3) repZ := vR.same (k1 _ (by omega))
 have lc := m1.closed
 apply W.seq
 apply W.seq
 by_cases ht : told = 0
 ·subst ht
  have hr : reopD s 0 = (⟨s.d, false, false⟩, 0) := rfl
  have hdf : decide ((0 : Nat) ≠ 0) = false := rfl
  rw [hdf] at s1 lc m1
  obtain ⟨D, s2, m2, n2, k2⟩ := m1.setBad false
  have vR2 : Vals D 44 (A.next + 1) (.var 3) repZ := vR1.same (k2 _ (by omega))
  obtain ⟨E, s3, v3, l3, n3, k3⟩ := rep_store (e' := 0) (w' := 0) (x' := .slice none 0 0) vR2 rfl
  apply W.run 20
  ·intro M
   simp (disch := first | decide +kernel | omega) only [c43, Tryz.f60, Aq, Nat.reduceEqDiff, opF_nilCheck, nil_ptr, fm2, s1]
   with_reducible rfl
  apply W.seq
  apply W.run 20
  ·intro M
   simp (disch := first | decide +kernel | omega) only [c43, Tryz.f60, Aq, Nat.reduceEqDiff, opF_nilCheck, nil_ptr, fm2, lc]
   with_reducible rfl
  apply W.run 20
  ·intro M
   simp (disch := first | decide +kernel | omega) only [c43, Tryz.f60, Aq, Nat.reduceEqDiff, opF_nilCheck, nil_ptr, fm1, s2]
   with_reducible rfl
  apply W.seq
  apply W.run 20
  ·intro M
   simp (disch := first | decide +kernel | omega) only [c43, Tryz.f60, Aq, Nat.reduceEqDiff, bld53, s3]
   with_reducible rfl
  apply W.run 20
  ·intro M
   simp (disch := first | decide +kernel | omega) only [c43, Tryz.f60, Aq, Nat.reduceEqDiff]
   with_reducible rfl
  rw [hr]
  refine ⟨.inr rfl, E, [repO 0], rfl, ?_, rfl, m2.rep vR2 n3 k3, ⟨by omega, fun z hz hne => by rw [k3 z (by omega), k2 z hne, k1 z hne, k0.2 z hz]⟩⟩
  simp only [Tryz.f60, resF, ev_tmp, T.get_set, T.puts_cons, T.puts_nil, Nat.reduceEqDiff, if_true, if_false, evG_some, R.ok_bind, l3]
  rfl
 ·have hdf : decide (told ≠ 0) = true := decide_eq_true ht
  have hr : reopD s told = (⟨s.d, s.bad, true⟩, told) := by unfold reopD; rw [if_neg ht, hdf]
  rw [hdf] at s1 lc m1
  obtain ⟨E, s3, v3, l3, n3, k3⟩ := rep_store (e' := told) (w' := 0) (x' := .slice none 0 0) vR1 rfl
  apply W.run 20
  ·intro M
   simp (disch := first | decide +kernel | omega) only [c43, Tryz.f60, Aq, Nat.reduceEqDiff, ht, opF_nilCheck, nil_ptr, fm2, s1]
   with_reducible rfl
  apply W.seq
  apply W.run 20
  ·intro M
   simp (disch := first | decide +kernel | omega) only [c43, Tryz.f60, Aq, Nat.reduceEqDiff, opF_nilCheck, nil_ptr, fm2, lc]
   with_reducible rfl
  apply W.run 20
  ·intro M
   simp (disch := first | decide +kernel | omega) only [c43, Tryz.f60, Aq, Nat.reduceEqDiff]
   with_reducible rfl
  apply W.seq
  apply W.run 20
  ·intro M
   simp (disch := first | decide +kernel | omega) only [c43, Tryz.f60, Aq, Nat.reduceEqDiff, bld53, s3]
   with_reducible rfl
  apply W.run 20
  ·intro M
   simp (disch := first | decide +kernel | omega) only [c43, Tryz.f60, Aq, Nat.reduceEqDiff]
   with_reducible rfl
  rw [hr]
  refine ⟨.inr rfl, E, [repO told], rfl, ?_, rfl, m1.rep vR1 n3 k3, ⟨by omega, fun z hz hne => by rw [k3 z (by omega), k1 z hne, k0.2 z hz]⟩⟩
  simp only [Tryz.f60, resF, ev_tmp, T.get_set, T.puts_cons, T.puts_nil, Nat.reduceEqDiff, if_true, if_false, evG_some, R.ok_bind, l3]
  rfl
def OkM (d : List EntD) : Prop := Asc d ∧ d.length < 50000 ∧ ∀ e ∈ d, e.word.length ≤ 900000
noncomputable def c42 : Code := Tryz.f59.body.getD .skip
theorem c42_eq : Tryz.f59.body = some (.seq (sub c42 [0]) (.seq (sub c42 [1,0]) (sub c42 [1,1]))) := by kernel_rfl
theorem run_read {A : Mem} {q told : Nat} {s : MdlS} {o : OpV} (h : ModV A q s) (hd : OkM s.d) :
  ∃ v A', Ans tb4 59 [.pointer (some ⟨q, 0, none⟩), .agg ⟨opC o⟩, .int .i64 (told : Int)] A v A' ∧ RepE A' (ansD s.d o) v ∧ ModV A' q s ∧ Kq q A A' := by
 refine ans_of_W (fn_at Tryz.func59) c42_eq (by rw [Tryz.ntmps59]; simp) (by kernel_rfl) (by kernel_rfl) ?_
 obtain ⟨vO, vR, k0, n0⟩ := two_vars A o
 have hqA := h.lt
 have hm := h.kp k0
 apply W.seq
 apply W.run 20
 ·intro M
  simp (disch := first | decide +kernel | omega) only [c42, Tryz.f59, Aq, Nat.reduceEqDiff, z53, cells_agg, next_alloc]
  with_reducible rfl
 show W tb4 _ _ _
 generalize (A.alloc (rowOb 47 (opC o))).alloc (rowOb 44 repZ) = B at vO vR k0 n0 hm
 obtain ⟨x, lx, hx⟩ := hm.d
 have lo := vO.all
 obtain ⟨v, C, ⟨g, hg⟩, ⟨y, rfl, hy⟩, kC⟩ := run_answer (o := o) hx hd.1 (by have := hd.2.1; omega) hd.2.2
 have vR1 : Vals C 44 (A.next + 1) (.var 3) repZ := vR.same (kC.2 _ (by omega))
 obtain ⟨D, s3, v3, l3, n3, k3⟩ := rep_store (e' := (ansD s.d o).err) (w' := (ansD s.d o).weight) (x' := y) vR1 hy.cells.2.1
 have hkn := kC.1
 apply W.seq
 apply W.runG (g) 20
 ·intro M hM
  simp (disch := first | decide +kernel | omega) only [c42, Tryz.f59, Aq, Nat.reduceEqDiff, opF_nilCheck, nil_ptr, fm0, lx, lo, hg, s3]
  with_reducible rfl
 apply W.run 20
 ·intro M
  simp (disch := first | decide +kernel | omega) only [c42, Tryz.f59, Aq, Nat.reduceEqDiff]
  with_reducible rfl
 refine ⟨.inr rfl, D, [.agg ⟨repC (ansD s.d o).err (ansD s.d o).weight y⟩], rfl, ?_, ⟨y, rfl, HitE.put hy (q := A.next + 1) (Vals.not vR1 (by decide)) (by omega) (fun z _ hne => k3 z hne)⟩, (hm.kp kC).rep vR1 n3 k3, ⟨by omega, fun z hz hne => by rw [k3 z (by omega), kC.2 z (by omega), k0.2 z hz]⟩⟩
 simp only [Tryz.f59, resF, ev_tmp, T.get_set, T.puts_cons, T.puts_nil, Nat.reduceEqDiff, if_true, if_false, evG_some, R.ok_bind, l3]
end Go.Proofs.YtnelkapmmgggdaaGreat.mdl

/-
 Model: changed.
-/
namespace Go.Proofs.YtnelkapmmgggdaaGreat.mdl
open Go.Am Go.Mdl
open Go.Proofs.YtnelkapmmgggdaaGreat.rnk (HitD hitC ordD lessB sortH ordK lessK hitC_len sortH_len)
set_option linter.unusedSimpArgs false
set_option linter.unusedVariables false
set_option linter.unusedVariables false

def chT (s : MdlS) (d' : List EntD) (e told : Nat) : MdlS × Nat :=
 if e ≠ 0 then (s, e) else if (keepD s told).2 = 0 then (⟨d', (keepD s told).1.bad, (keepD s told).1.closed⟩, 0) else keepD s told
def chE (bad : Bool) (e : Nat) : Nat := if e ≠ 7 ∧ bad = true then 11 else e
def changeD (s : MdlS) (o : OpV) (told : Nat) : MdlS × Nat := chT s (runU [o] (s.d, 0)).1 (chE s.bad (runU [o] (s.d, 0)).2) told
noncomputable def c40 : Code := Tryz.f57.body.getD .skip
theorem c40_eq : Tryz.f57.body = some (.seq (sub c40 [0]) (.seq (sub c40 [1,0]) (.seq (.seq (sub c40 [1,1,0,0]) (sub c40 [1,1,0,1])) (.seq (.seq (sub c40 [1,1,1,0,0]) (sub c40 [1,1,1,0,1])) (.seq (sub c40 [1,1,1,1,0]) (.seq (.seq (sub c40 [1,1,1,1,1,0,0]) (sub c40 [1,1,1,1,1,0,1])) (.seq (sub c40 [1,1,1,1,1,1,0]) (sub c40 [1,1,1,1,1,1,1])))))))) := by kernel_rfl
theorem change_tail {C : Mem} {q p told e : Nat} {s : MdlS} {o : OpV} {d' : List EntD} {y : Value} {t : T Value} {K : Ex → St → Prop} (hm : ModV C q s) (vO : VarO C p o) (vR : Vals C 44 (p + 1) (.var 3) repZ) (hp1 : p + 1 < C.next) (hy : EntE C d' y) (hq : q < p)
  (ht : Sl t [(0, .pointer (some ⟨q, 0, none⟩)), (2, .int .i64 (told : Int)), (4, .pointer (some ⟨p, 0, none⟩)), (6, .pointer (some ⟨p + 1, 0, none⟩)), (7, y), (8, .int .i64 (e : Int))])
  (hK : ∀ t' C', t'.get 6 = some (.pointer (some ⟨p + 1, 0, none⟩)) → ModV C' q (chT s d' e told).1 → C.next ≤ C'.next → (∀ z, z < C.next → z ≠ q → z ≠ p + 1 → C'.get z = C.get z) → loadF tb4 C'.get 44 (.pointer (some ⟨p + 1, 0, none⟩)) = .ok (repO (chT s d' e told).2) → K .ret ⟨t', 44, [], C', none⟩) :
  W tb4 (.seq (.seq (sub c40 [1,1,1,0,0]) (sub c40 [1,1,1,0,1])) (.seq (sub c40 [1,1,1,1,0]) (.seq (.seq (sub c40 [1,1,1,1,1,0,0]) (sub c40 [1,1,1,1,1,0,1])) (.seq (sub c40 [1,1,1,1,1,1,0]) (sub c40 [1,1,1,1,1,1,1]))))) ⟨t, 44, [], C, none⟩ K := by
 obtain ⟨g0, g2, g4, g6, g7, g8, -⟩ := ht
 apply W.seq
 apply W.seq
 by_cases he : e = 0
 ·subst he
  apply W.run 20
  ·intro M
   simp (disch := first | decide +kernel | omega) only [c40, Tryz.f57, Aq, Nat.reduceEqDiff, g8]
   with_reducible rfl
  apply W.run 20
  ·intro M
   simp (disch := first | decide +kernel | omega) only [c40, Tryz.f57, Aq, Nat.reduceEqDiff]
   with_reducible rfl
  show W tb4 _ _ _
  have lo := vO.all
  obtain ⟨v, D, ⟨g, hg⟩, rfl, mD, kD⟩ := run_keep (told := told) (o := o) hm
  have kDn := kD.1
  obtain ⟨ls, hv68⟩ := hm.v
  have hyD := hy.kq hv68 kD
  have vRD : Vals D 44 (p + 1) (.var 3) repZ := vR.same (kD.2 _ hp1 (by omega))
  have z9 : Vals (D.alloc (rowOb 44 repZ)) 44 D.next (.var 3) repZ := vals_puts (get_alloc_self _ _)
  have kA := Kp.alloc D (rowOb 44 repZ)
  obtain ⟨E, s1, v1, l1, n1, k1⟩ := rep_store (e' := (keepD s told).2) (w' := 0) (x' := .slice none 0 0) z9 rfl
  rw [next_alloc] at n1
  have kDE : Kp D E := ⟨by omega, fun z hz => by rw [k1 z (by omega), kA.2 z hz]⟩
  have mE := mD.kp kDE
  have vRE : Vals E 44 (p + 1) (.var 3) repZ := vRD.same (kDE.2 _ (by omega))
  have lE : loadF tb4 E.get 36 (.pointer (some ⟨D.next, 0, none⟩)) = .ok (.int .i64 ((keepD s told).2 : Int)) := load_vals und40' rfl v1 rfl
  have s1' : storeF tb4 (D.alloc (rowOb 44 repZ)) 44 (.pointer (some ⟨D.next, 0, none⟩)) (repO (keepD s told).2) = .ok E := s1
  apply W.seq
  apply W.runG (g) 20
  ·intro M hM
   simp (disch := first | decide +kernel | omega) only [c40, Tryz.f57, Aq, Nat.reduceEqDiff, g0, g2, g4, lo, hg, z53, cells_agg, s1']
   with_reducible rfl
  apply W.seq
  apply W.seq
  by_cases hk : (keepD s told).2 = 0
  ·rw [hk] at lE l1
   have hr : chT s d' 0 told = (⟨d', (keepD s told).1.bad, (keepD s told).1.closed⟩, 0) := by
    unfold chT; rw [if_neg (by decide), if_pos hk]
   obtain ⟨F, s2, m2, n2, k2⟩ := mE.setD (hyD.kp kDE)
   have lF : loadF tb4 F.get 44 (.pointer (some ⟨D.next, 0, none⟩)) = .ok (.agg ⟨repC 0 0 (.slice none 0 0)⟩) := by
    obtain ⟨d53, hd1, hd2⟩ := und53
    rw [hk] at v1
    exact load_all (tb := tb4) hd1 hd2 (l := repC 0 0 (.slice none 0 0)) size53 (v1.same (k2 _ (by omega)))
   have vRF : Vals F 44 (p + 1) (.var 3) repZ := vRE.same (k2 _ (by omega))
   obtain ⟨G, s3, v3, l3, n3, k3⟩ := rep_store (e' := 0) (w' := 0) (x' := .slice none 0 0) vRF rfl
   apply W.run 20
   ·intro M
    simp (disch := first | decide +kernel | omega) only [c40, Tryz.f57, Aq, Nat.reduceEqDiff, f53_0, lE]
    with_reducible rfl
   apply W.run 20
   ·intro M
    simp (disch := first | decide +kernel | omega) only [c40, Tryz.f57, Aq, Nat.reduceEqDiff, g0, g7, opF_nilCheck, nil_ptr, fm0, s2]
    with_reducible rfl
   apply W.seq
   apply W.run 20
   ·intro M
    simp (disch := first | decide +kernel | omega) only [c40, Tryz.f57, Aq, Nat.reduceEqDiff, g6, lF, s3]
    with_reducible rfl
   apply W.run 20
   ·intro M
    simp (disch := first | decide +kernel | omega) only [c40, Tryz.f57, Aq, Nat.reduceEqDiff]
    with_reducible rfl
   refine hK _ G ?_ (by rw [hr]; exact m2.rep vRF n3 k3) (by omega) (fun z hz h1 h2 => by rw [k3 z h2, k2 z h1, kDE.2 z (by omega), kD.2 z hz h1]) (by rw [hr]; exact l3)
   simp only [T.get_set, Nat.reduceEqDiff, if_false, g6]
  ·have hr : chT s d' 0 told = keepD s told := by
    unfold chT; rw [if_neg (by decide), if_neg hk]
   obtain ⟨G, s3, v3, l3, n3, k3⟩ := rep_store (e' := (keepD s told).2) (w' := 0) (x' := .slice none 0 0) vRE rfl
   apply W.run 20
   ·intro M
    simp (disch := first | decide +kernel | omega) only [c40, Tryz.f57, Aq, Nat.reduceEqDiff, f53_0, lE, hk]
    with_reducible rfl
   apply W.run 20
   ·intro M
    simp (disch := first | decide +kernel | omega) only [c40, Tryz.f57, Aq, Nat.reduceEqDiff]
    with_reducible rfl
   apply W.seq
   apply W.run 20
   ·intro M
    simp (disch := first | decide +kernel | omega) only [c40, Tryz.f57, Aq, Nat.reduceEqDiff, g6, l1, s3]
    with_reducible rfl
   apply W.run 20
   ·intro M
    simp (disch := first | decide +kernel | omega) only [c40, Tryz.f57, Aq, Nat.reduceEqDiff]
    with_reducible rfl
   refine hK _ G ?_ (by rw [hr]; exact mE.rep vRE n3 k3) (by omega) (fun z hz h1 h2 => by rw [k3 z h2, kDE.2 z (by omega), kD.2 z hz h1]) (by rw [hr]; exact l3)
   simp only [T.get_set, Nat.reduceEqDiff, if_false, g6]
 ·have hr : chT s d' e told = (s, e) := by unfold chT; rw [if_pos he]
  obtain ⟨D, s1, v1, l1, n1, k1⟩ := rep_store (e' := e) (w' := 0) (x' := .slice none 0 0) vR rfl
  apply W.run 20
  ·intro M
   simp (disch := first | decide +kernel | omega) only [c40, Tryz.f57, Aq, Nat.reduceEqDiff, g8, he]
   with_reducible rfl
  apply W.run 20
  ·intro M
   simp (disch := first | decide +kernel | omega) only [c40, Tryz.f57, Aq, Nat.reduceEqDiff, g6, g8, bld53, s1]
   with_reducible rfl
  refine hK _ D ?_ (by rw [hr]; exact hm.rep vR n1 k1) (by omega) (fun z hz h1 h2 => k1 z h2) (by rw [hr]; exact l1)
  simp only [T.get_set, Nat.reduceEqDiff, if_false, g6]
theorem run_change {A : Mem} {q told : Nat} {s : MdlS} {o : OpV} (h : ModV A q s) (hd : OkM s.d) :
  ∃ v A', Ans tb4 57 [.pointer (some ⟨q, 0, none⟩), .agg ⟨opC o⟩, .int .i64 (told : Int)] A v A' ∧ v = repO (changeD s o told).2 ∧ ModV A' q (changeD s o told).1 ∧ Kq q A A' := by
 refine ans_of_W (fn_at Tryz.func57) c40_eq (by rw [Tryz.ntmps57]; simp) (by kernel_rfl) (by kernel_rfl) ?_
 obtain ⟨vO, vR, k0, n0⟩ := two_vars A o
 have hqA := h.lt
 have hm := h.kp k0
 apply W.seq
 apply W.run 20
 ·intro M
  simp (disch := first | decide +kernel | omega) only [c40, Tryz.f57, Aq, Nat.reduceEqDiff, z53, cells_agg, next_alloc]
  with_reducible rfl
 show W tb4 _ _ _
 generalize (A.alloc (rowOb 47 (opC o))).alloc (rowOb 44 repZ) = B at vO vR k0 n0 hm
 obtain ⟨x, lx, hx⟩ := hm.d
 have lo := vO.all
 have kF := Kp.alloc B (rowOb 47 (opC o))
 obtain ⟨y, C, ⟨g, hg⟩, hy, kC⟩ := run_update (hx.kp kF) hd.1 ops_one (by have := hd.2.1; simp only [List.length_cons, List.length_nil]; omega)
 have kBC := kF.trans kC
 have kn := kBC.1
 obtain ⟨e, he⟩ : ∃ e, (runU [o] (s.d, 0)).2 = e := ⟨_, rfl⟩
 rw [he] at hg
 have mC := hm.kp kBC
 have vRC : Vals C 44 (A.next + 1) (.var 3) repZ := vR.same (kBC.2 _ (by omega))
 have lb := mC.bad
 have hch : changeD s o told = chT s (runU [o] (s.d, 0)).1 (chE s.bad e) told := by unfold changeD; rw [he]
 apply W.seq
 apply W.runG (g) 20
 ·intro M hM
  simp (disch := first | decide +kernel | omega) only [c40, Tryz.f57, Aq, Nat.reduceEqDiff, opF_nilCheck, nil_ptr, fm0, lx, lo, bs70, at_slc, hg, List.getElem?_cons_zero, List.getElem?_cons_succ]
  with_reducible rfl
 show W tb4 _ _ _
 refine W_gen [(0, .pointer (some ⟨q, 0, none⟩)), (2, .int .i64 (told : Int)), (4, .pointer (some ⟨A.next, 0, none⟩)), (6, .pointer (some ⟨A.next + 1, 0, none⟩)), (7, y), (8, .int .i64 (e : Int))] (by simp only [Sl_cons, Sl_nil, T.get_set, T.puts_cons, T.puts_nil, Nat.reduceEqDiff, Nat.reduceAdd, if_true, if_false, and_true, true_and]) fun t ht => ?_
 obtain ⟨g0, g2, g4, g6, g7, g8, -⟩ := ht
 have fin : ∀ (t : T Value), Sl t [(0, .pointer (some ⟨q, 0, none⟩)), (2, .int .i64 (told : Int)), (4, .pointer (some ⟨A.next, 0, none⟩)), (6, .pointer (some ⟨A.next + 1, 0, none⟩)), (7, y), (8, .int .i64 ((chE s.bad e : Nat) : Int))] →
   W tb4 (.seq (.seq (sub c40 [1,1,1,0,0]) (sub c40 [1,1,1,0,1])) (.seq (sub c40 [1,1,1,1,0]) (.seq (.seq (sub c40 [1,1,1,1,1,0,0]) (sub c40 [1,1,1,1,1,0,1])) (.seq (sub c40 [1,1,1,1,1,1,0]) (sub c40 [1,1,1,1,1,1,1]))))) ⟨t, 44, [], C, none⟩ (fun e s_1 => (e = .nrm ∨ e = .ret) ∧ ∃ A' vs, takeF s_1.d s_1.m = .ok A' ∧ resF tb4 s_1.t A'.get Tryz.f57.results.toList = .ok vs ∧ oneOf vs = repO (changeD s o told).2 ∧ ModV A' q (changeD s o told).1 ∧ Kq q A A') := by
  intro t ht
  refine change_tail mC (vO.kp kBC) vRC (by omega) hy hqA ht fun t' D h6 mD nD kD lD => ?_
  rw [hch]
  refine ⟨.inr rfl, D, [repO (chT s (runU [o] (s.d, 0)).1 (chE s.bad e) told).2], rfl, ?_, rfl, mD, ⟨by omega, fun z hz hne => by rw [kD z (by omega) hne (by omega), kBC.2 z (by omega), k0.2 z hz]⟩⟩
  simp only [Tryz.f57, resF, ev_tmp, T.get_set, Nat.reduceEqDiff, if_true, if_false, evG_some, R.ok_bind, h6, lD]
 apply W.seq
 apply W.seq
 by_cases h7 : e = 7
 ·subst h7
  have hce : chE s.bad 7 = 7 := by unfold chE; rw [if_neg (fun h => h.1 rfl)]
  apply W.run 20
  ·intro M
   simp (config := { maxSteps := 4000000 }) (disch := first | decide +kernel | omega | simp only [Wq, Nat.reduceEqDiff]) only [c40, Tryz.f57, Aq, Nat.ble, reduceIte, Nat.reduceEqDiff, Nat.reduceAdd, g8]
   with_reducible rfl
  apply W.run 20
  ·intro M
   simp (disch := first | decide +kernel | omega) only [c40, Tryz.f57, Aq, Nat.reduceEqDiff]
   with_reducible rfl
  refine fin _ ?_
  rw [hce]
  simp only [Sl_cons, Sl_nil, T.get_set, T.puts_cons, T.puts_nil, Nat.reduceEqDiff, Nat.reduceAdd, if_true, if_false, and_true, true_and, g0, g2, g4, g6, g7, g8]
 ·cases hb : s.bad with
  | true =>
   have hce : chE s.bad e = 11 := by unfold chE; rw [if_pos ⟨h7, hb⟩]
   rw [hb] at lb
   apply W.run 20
   ·intro M
    simp (config := { maxSteps := 4000000 }) (disch := first | decide +kernel | omega | simp only [Wq, Nat.reduceEqDiff]) only [c40, Tryz.f57, Aq, Nat.ble, reduceIte, Nat.reduceEqDiff, Nat.reduceAdd, g0, g8, h7, opF_nilCheck, nil_ptr, fm1, lb]
    with_reducible rfl
   apply W.run 20
   ·intro M
    simp (disch := first | decide +kernel | omega) only [c40, Tryz.f57, Aq, Nat.reduceEqDiff]
    with_reducible rfl
   refine fin _ ?_
   rw [hce]
   simp only [Sl_cons, Sl_nil, T.get_set, T.puts_cons, T.puts_nil, Nat.reduceEqDiff, Nat.reduceAdd, if_true, if_false, and_true, true_and, g0, g2, g4, g6, g7]
  | false =>
   have hce : chE s.bad e = e := by unfold chE; rw [if_neg (fun h => by rw [hb] at h; cases h.2)]
   rw [hb] at lb
   apply W.run 20
   ·intro M
    simp (config := { maxSteps := 4000000 }) (disch := first | decide +kernel | omega | simp only [Wq, Nat.reduceEqDiff]) only [c40, Tryz.f57, Aq, Nat.ble, reduceIte, Nat.reduceEqDiff, Nat.reduceAdd, g0, g8, h7, opF_nilCheck, nil_ptr, fm1, lb]
    with_reducible rfl
   apply W.run 20
   ·intro M
    simp (disch := first | decide +kernel | omega) only [c40, Tryz.f57, Aq, Nat.reduceEqDiff]
    with_reducible rfl
   refine fin _ ?_
   rw [hce]
   simp only [Sl_cons, Sl_nil, T.get_set, T.puts_cons, T.puts_nil, Nat.reduceEqDiff, Nat.reduceAdd, if_true, if_false, and_true, true_and, g0, g2, g4, g6, g7, g8]
end Go.Proofs.YtnelkapmmgggdaaGreat.mdl

/-
 Model: what is done, by kinds; Do.
-/
namespace Go.Proofs.YtnelkapmmgggdaaGreat.mdl
open Go.Am Go.Mdl
open Go.Proofs.YtnelkapmmgggdaaGreat.rnk (HitD hitC ordD lessB sortH ordK lessK hitC_len sortH_len)
set_option linter.unusedSimpArgs false
set_option linter.unusedVariables false
set_option linter.unusedVariables false

def fnV (f : Nat) : Value := .func (.func f) ⟨[]⟩ ⟨[]⟩
def fk (n : Nat) : Nat := if n ≤ 2 then 57 else if n ≤ 5 then 58 else if n ≤ 7 then 59 else 60
def doE (n : Nat) : List MapEntry := (List.range n).map fun k => ⟨.int .i64 ((k : Nat) : Int), fnV (fk k), k⟩
theorem doE_succ (n : Nat) : doE (n + 1) = doE n ++ [⟨.int .i64 ((n : Nat) : Int), fnV (fk n), n⟩] := by
 unfold doE
 rw [List.range_succ, List.map_append]; rfl
theorem mm78 : makeMapF tb4 88 none = .ok (.map [] 0, .mp) := by kernel_rfl
theorem und78z : ∃ vt, tb4.und 88 = some (.map 3 vt) ∧ zeroF tb4 vt = .ok nilFn := by
 have h : (match tb4.und 88 with | some (.map k v) => Nat.beq k 3 && (match zeroF tb4 v with | .ok .nilFunc => true | _ => false) | _ => false) = true := by kernel_rfl
 cases hq : tb4.und 88 with
 | none => rw [hq] at h; cases h
 | some d =>
  rw [hq] at h
  cases d with
  | map k v =>
   simp only [Bool.and_eq_true] at h
   refine ⟨v, by rw [Nat.eq_of_beq_eq_true h.1], ?_⟩
   have h2 := h.2
   split at h2
   ·rename_i e; exact e
   ·cases h2
  | _ => cases h
theorem step78 {A : Mem} {q n f : Nat} (h : A.get q = some (.map (doE n) n)) (hf : findF (.int .i64 ((n : Nat) : Int)) (doE n) 0 = some none) (hv : f = fk n) : ∃ A', mapUpdateF tb4 A 88 (.map (some q)) (.int .i64 ((n : Nat) : Int)) (fnV f) = .ok A' ∧ A'.get q = some (.map (doE (n + 1)) (n + 1)) ∧ A'.next = A.next ∧ ∀ z, z ≠ q → A'.get z = A.get z := by
 obtain ⟨vt, hu, -⟩ := und78z
 subst hv
 have hk : keyOk tb4 3 (.int .i64 ((n : Nat) : Int)) = true := by unfold keyOk; rw [und3']
 refine ⟨A.set q (.map (doE (n + 1)) (n + 1)), ?_, ?_, next_set _ _ _, fun z hz => ?_⟩
 ·unfold mapUpdateF
  simp only [hu, hk, cond_true, h, hf, doE_succ]
 ·rw [get_setMem, if_pos rfl]
 ·rw [get_setMem, if_neg hz]
theorem ev_fn (t : T Value) (f : Nat) : ev t (Operand.func f) = .ok (fnV f) := rfl
noncomputable def c27 : Code := Tryz.f36.body.getD .skip
theorem c27_eq : Tryz.f36.body = some (.seq (sub c27 [0]) (.seq (sub c27 [1,0]) (sub c27 [1,1]))) := by kernel_rfl
theorem run_doings {A : Mem} : ∃ v A', Ans tb4 36 [] A v A' ∧ v = .map (some A.next) ∧ A'.get A.next = some (.map (doE 9) 9) ∧ A'.next = A.next + 1 ∧ Kp A A' := by
 refine ans_of_W (fn_at Tryz.func36) c27_eq (by rw [Tryz.ntmps36]; simp) (by kernel_rfl) (by kernel_rfl) ?_
 have m0 : (A.alloc (.map [] 0)).get A.next = some (.map (doE 0) 0) := get_alloc_self _ _
 have n0 : (A.alloc (.map [] 0)).next = A.next + 1 := next_alloc _ _
 have k0 : Kp A (A.alloc (.map [] 0)) := Kp.alloc _ _
 obtain ⟨A1, i1, m1, n1, k1⟩ := step78 (n := 0) (f := 57) m0 rfl rfl
 obtain ⟨A2, i2, m2, n2, k2⟩ := step78 (n := 1) (f := 57) m1 rfl rfl
 obtain ⟨A3, i3, m3, n3, k3⟩ := step78 (n := 2) (f := 57) m2 rfl rfl
 obtain ⟨A4, i4, m4, n4, k4⟩ := step78 (n := 3) (f := 58) m3 rfl rfl
 obtain ⟨A5, i5, m5, n5, k5⟩ := step78 (n := 4) (f := 58) m4 rfl rfl
 obtain ⟨A6, i6, m6, n6, k6⟩ := step78 (n := 5) (f := 58) m5 rfl rfl
 obtain ⟨A7, i7, m7, n7, k7⟩ := step78 (n := 6) (f := 59) m6 rfl rfl
 obtain ⟨A8, i8, m8, n8, k8⟩ := step78 (n := 7) (f := 59) m7 rfl rfl
 obtain ⟨A9, i9, m9, n9, k9⟩ := step78 (n := 8) (f := 60) m8 rfl rfl
 apply W.seq
 apply W.run 20
 ·intro M
  simp (disch := first | decide +kernel | omega) only [c27, Tryz.f36, Aq, Nat.reduceEqDiff, ev_nilmap]
  with_reducible rfl
 apply W.seq
 apply W.run 20
 ·intro M
  simp (disch := first | decide +kernel | omega) only [c27, Tryz.f36, Aq, Nat.reduceEqDiff, opF_makeMap, opF_insert, at_mp, mm78, ev_fn, i1, i2, i3, i4, i5, i6, i7, i8, i9]
  with_reducible rfl
 apply W.run 20
 ·intro M
  simp (disch := first | decide +kernel | omega) only [c27, Tryz.f36, Aq, Nat.reduceEqDiff]
  with_reducible rfl
 refine ⟨.inr rfl, A9, [.map (some A.next)], rfl, ?_, rfl, m9, by omega, ⟨by omega, fun z hz => ?_⟩⟩
 ·simp only [Tryz.f36, resF, ev_tmp, T.get_set, Nat.reduceEqDiff, if_true, if_false, evG_some, R.ok_bind]
 ·rw [k9 z (by omega), k8 z (by omega), k7 z (by omega), k6 z (by omega), k5 z (by omega), k4 z (by omega), k3 z (by omega), k2 z (by omega), k1 z (by omega), k0.2 z hz]
def actK (k : Int) : Option Nat :=
 if k = 0 ∨ k = 1 ∨ k = 2 then some 57 else if k = 3 ∨ k = 4 ∨ k = 5 then some 58 else if k = 6 ∨ k = 7 then some 59 else if k = 8 then some 60 else none
def actV : Option Nat → Value
 | some f => fnV f
 | none => nilFn
theorem look78 {A : Mem} {q : Nat} {k : Int} (h : A.get q = some (.map (doE 9) 9)) : lookupF tb4 A.get 88 (.map (some q)) (.int .i64 k) true = .ok (.tuple ⟨[actV (actK k), .bool (actK k).isSome]⟩) := by
 obtain ⟨vt, hu, hz⟩ := und78z
 have hk : keyOk tb4 3 (.int .i64 k) = true := by unfold keyOk; rw [und3']
 have he : entriesF A.get (.map (some q)) = .ok (doE 9) := by unfold entriesF; simp only [h]
 have hl : lookupF tb4 A.get 88 (.map (some q)) (.int .i64 k) true = match findF (.int .i64 k) (doE 9) 0 with
   | some (some (_, v)) => .ok (.tuple ⟨[v, .bool true]⟩)
   | some none => .ok (.tuple ⟨[nilFn, .bool false]⟩)
   | none => .no 80 := by
  unfold lookupF
  simp only [hu, hk, cond_true, he, R.ok_bind, hz]
  cases findF (.int .i64 k) (doE 9) 0 with
  | none => rfl
  | some y => cases y with
   | none => rfl
   | some z => rfl
 have kq : ∀ a b : Int, keyEq (.int .i64 a) (.int .i64 b) = some (decide (a = b)) := fun a b => by
  show (bif kindEq .i64 .i64 then some (ieqF a b) else none) = _
  rw [ieqF_eq]; rfl
 have fc : ∀ (a : Int) (n : Nat) (v : Value) (c : Nat) (es : List MapEntry) (i : Nat), findF (.int .i64 a) (⟨.int .i64 ((n : Nat) : Int), v, c⟩ :: es) i = if a = ((n : Nat) : Int) then some (some (i, v)) else findF (.int .i64 a) es (i + 1) := fun a n v c es i => by
  show (match keyEq (.int .i64 a) (.int .i64 ((n : Nat) : Int)) with | some true => some (some (i, v)) | some false => findF (.int .i64 a) es (Nat.succ i) | none => none) = _
  rw [kq]
  by_cases hab : a = ((n : Nat) : Int) <;> simp [hab]
 have hE : doE 9 = [⟨.int .i64 ((0 : Nat) : Int), fnV 57, 0⟩, ⟨.int .i64 ((1 : Nat) : Int), fnV 57, 1⟩, ⟨.int .i64 ((2 : Nat) : Int), fnV 57, 2⟩, ⟨.int .i64 ((3 : Nat) : Int), fnV 58, 3⟩, ⟨.int .i64 ((4 : Nat) : Int), fnV 58, 4⟩, ⟨.int .i64 ((5 : Nat) : Int), fnV 58, 5⟩, ⟨.int .i64 ((6 : Nat) : Int), fnV 59, 6⟩, ⟨.int .i64 ((7 : Nat) : Int), fnV 59, 7⟩, ⟨.int .i64 ((8 : Nat) : Int), fnV 60, 8⟩] := rfl
 rw [hl, hE]
 simp only [fc]
 have hcase : k = 0 ∨ k = 1 ∨ k = 2 ∨ k = 3 ∨ k = 4 ∨ k = 5 ∨ k = 6 ∨ k = 7 ∨ k = 8 ∨ (k ≠ 0 ∧ k ≠ 1 ∧ k ≠ 2 ∧ k ≠ 3 ∧ k ≠ 4 ∧ k ≠ 5 ∧ k ≠ 6 ∧ k ≠ 7 ∧ k ≠ 8) := by omega
 rcases hcase with rfl | rfl | rfl | rfl | rfl | rfl | rfl | rfl | rfl | ⟨h0, h1, h2, h3, h4, h5, h6, h7, h8⟩
 ·rfl
 ·rfl
 ·rfl
 ·rfl
 ·rfl
 ·rfl
 ·rfl
 ·rfl
 ·rfl
 ·have ha : actK k = none := by
   unfold actK
   rw [if_neg (by omega), if_neg (by omega), if_neg (by omega), if_neg (by omega)]
  rw [ha, if_neg (by omega), if_neg (by omega), if_neg (by omega), if_neg (by omega), if_neg (by omega), if_neg (by omega), if_neg (by omega), if_neg (by omega), if_neg (by omega)]
  rfl
def actD (f : Nat) (s : MdlS) (o : OpV) (told : Nat) : MdlS × RepD :=
 if f = 57 then ((changeD s o told).1, ⟨(changeD s o told).2, 0, []⟩) else if f = 58 then ((keepD s told).1, ⟨(keepD s told).2, 0, []⟩) else if f = 59 then (s, ansD s.d o) else ((reopD s told).1, ⟨(reopD s told).2, 0, []⟩)
theorem actK_cases {k : Int} {f : Nat} (h : actK k = some f) : f = 57 ∨ f = 58 ∨ f = 59 ∨ f = 60 := by
 unfold actK at h
 split at h
 ·injection h with h; omega
 ·split at h
  ·injection h with h; omega
  ·split at h
   ·injection h with h; omega
   ·split at h
    ·injection h with h; omega
    ·cases h
theorem run_act {A : Mem} {q told f : Nat} {s : MdlS} {o : OpV} (hf : f = 57 ∨ f = 58 ∨ f = 59 ∨ f = 60) (h : ModV A q s) (hd : OkM s.d) :
  ∃ v A', Ans tb4 f [.pointer (some ⟨q, 0, none⟩), .agg ⟨opC o⟩, .int .i64 (told : Int)] A v A' ∧ RepE A' (actD f s o told).2 v ∧ ModV A' q (actD f s o told).1 ∧ Kq q A A' := by
 rcases hf with rfl | rfl | rfl | rfl
 ·obtain ⟨v, A', hg, rfl, h1, h2⟩ := run_change (told := told) (o := o) h hd
  exact ⟨_, A', hg, repO_E _ _, h1, h2⟩
 ·obtain ⟨v, A', hg, rfl, h1, h2⟩ := run_keep (told := told) (o := o) h
  exact ⟨_, A', hg, repO_E _ _, h1, h2⟩
 ·exact run_read (told := told) (o := o) h hd
 ·obtain ⟨v, A', hg, rfl, h1, h2⟩ := run_reopen (told := told) (o := o) h
  exact ⟨_, A', hg, repO_E _ _, h1, h2⟩
def toldD (told : Nat) : Nat := if told ≠ 10 ∧ told ≠ 13 then 0 else told
def doD (s : MdlS) (o : OpV) (told : Nat) : MdlS × RepD :=
 if s.closed = true then (s, ⟨14, 0, []⟩) else match actK o.kind with
 | none => (s, ⟨7, 0, []⟩)
 | some f => actD f s o (toldD told)
noncomputable def c16 : Code := Tryz.f15.body.getD .skip
theorem c16_eq : Tryz.f15.body = some (.seq (sub c16 [0]) (.seq (.seq (sub c16 [1,0,0]) (sub c16 [1,0,1])) (.seq (.seq (sub c16 [1,1,0,0]) (sub c16 [1,1,0,1])) (.seq (.seq (sub c16 [1,1,1,0,0]) (sub c16 [1,1,1,0,1])) (.seq (sub c16 [1,1,1,1,0]) (.seq (.seq (sub c16 [1,1,1,1,1,0,0]) (sub c16 [1,1,1,1,1,0,1])) (.seq (sub c16 [1,1,1,1,1,1,0]) (sub c16 [1,1,1,1,1,1,1])))))))) := by kernel_rfl
theorem do_tail {A B : Mem} {q told : Nat} {s : MdlS} {o : OpV} {t : T Value} (hq : q < A.next) (hm : ModV B q s) (hd : OkM s.d) (vO : VarO B A.next o) (vR : Vals B 44 (A.next + 1) (.var 3) repZ) (k0 : Kp A B) (n0 : B.next = A.next + 2)
  (ht : Sl t [(0, .pointer (some ⟨q, 0, none⟩)), (2, .int .i64 (told : Int)), (4, .pointer (some ⟨A.next, 0, none⟩)), (6, .pointer (some ⟨A.next + 1, 0, none⟩))]) :
  W tb4 (.seq (.seq (sub c16 [1,1,1,0,0]) (sub c16 [1,1,1,0,1])) (.seq (sub c16 [1,1,1,1,0]) (.seq (.seq (sub c16 [1,1,1,1,1,0,0]) (sub c16 [1,1,1,1,1,0,1])) (.seq (sub c16 [1,1,1,1,1,1,0]) (sub c16 [1,1,1,1,1,1,1]))))) ⟨t, 38, [], B, none⟩ (fun e s_1 => (e = .nrm ∨ e = .ret) ∧ ∃ A' vs, takeF s_1.d s_1.m = .ok A' ∧ resF tb4 s_1.t A'.get Tryz.f15.results.toList = .ok vs ∧ RepE A' (if s.closed = true then (s, (⟨14, 0, []⟩ : RepD)) else match actK o.kind with
   | none => (s, ⟨7, 0, []⟩)
   | some f => actD f s o told).2 (oneOf vs) ∧ ModV A' q (if s.closed = true then (s, (⟨14, 0, []⟩ : RepD)) else match actK o.kind with
   | none => (s, ⟨7, 0, []⟩)
   | some f => actD f s o told).1 ∧ Kq q A A') := by
 obtain ⟨g0, g2, g4, g6, -⟩ := ht
 have lc := hm.closed
 apply W.seq
 apply W.seq
 cases hc : s.closed with
 | true =>
  rw [hc] at lc
  rw [if_pos rfl]
  obtain ⟨C, s1, v1, l1, n1, k1⟩ := rep_store (e' := 14) (w' := 0) (x' := .slice none 0 0) vR rfl
  apply W.run 20
  ·intro M
   simp (disch := first | decide +kernel | omega) only [c16, Tryz.f15, Aq, Nat.reduceEqDiff, g0, opF_nilCheck, nil_ptr, fm2, lc]
   with_reducible rfl
  apply W.run 20
  ·intro M
   simp (disch := first | decide +kernel | omega) only [c16, Tryz.f15, Aq, Nat.reduceEqDiff, g6, bld53, s1]
   with_reducible rfl
  refine ⟨.inr rfl, C, [repO 14], rfl, ?_, repO_E _ _, hm.rep vR n1 k1, ⟨by omega, fun z hz _ => by rw [k1 z (by omega), k0.2 z hz]⟩⟩
  simp only [Tryz.f15, resF, ev_tmp, T.get_set, Nat.reduceEqDiff, if_true, if_false, evG_some, R.ok_bind, g6, l1]
  rfl
 | false =>
  rw [hc] at lc
  rw [if_neg (by decide)]
  obtain ⟨v, C, ⟨g, hg⟩, rfl, mm, nC, kC⟩ := run_doings (A := B)
  have lk := vO.kind
  have lk2 := (vO.kp kC).kind
  have hself := selfI o.kind
  have hlk := look78 (k := o.kind) mm
  have vRC : Vals C 44 (A.next + 1) (.var 3) repZ := vR.same (kC.2 _ (by omega))
  have mC := hm.kp kC
  apply W.run 20
  ·intro M
   simp (disch := first | decide +kernel | omega) only [c16, Tryz.f15, Aq, Nat.reduceEqDiff, g0, opF_nilCheck, nil_ptr, fm2, lc]
   with_reducible rfl
  apply W.run 20
  ·intro M
   simp (disch := first | decide +kernel | omega) only [c16, Tryz.f15, Aq, Nat.reduceEqDiff]
   with_reducible rfl
  apply W.seq
  apply W.runG (g) 20
  ·intro M hM
   simp (config := { maxSteps := 4000000 }) (disch := first | decide +kernel | omega | simp only [Wq, Nat.reduceEqDiff]) only [c16, Tryz.f15, Aq, Nat.ble, reduceIte, Nat.reduceEqDiff, Nat.reduceAdd, Fq, exec_float [(2, 0)], g4, hg, f38_0, lk, lk2, hself, opF_lookup, rOp_lookup, hlk, List.getElem?_cons_zero, List.getElem?_cons_succ]
   with_reducible rfl
  apply W.seq
  apply W.seq
  cases ha : actK o.kind with
  | none =>
   obtain ⟨D, s1, v1, l1, n1, k1⟩ := rep_store (e' := 7) (w' := 0) (x' := .slice none 0 0) vRC rfl
   apply W.run 20
   ·intro M
    simp (disch := first | decide +kernel | omega) only [c16, Tryz.f15, Aq, Nat.reduceEqDiff, Option.isSome_none]
    with_reducible rfl
   apply W.run 20
   ·intro M
    simp (disch := first | decide +kernel | omega) only [c16, Tryz.f15, Aq, Nat.reduceEqDiff, g6, bld53, s1]
    with_reducible rfl
   refine ⟨.inr rfl, D, [repO 7], rfl, ?_, repO_E _ _, mC.rep vRC n1 k1, ⟨by omega, fun z hz _ => by rw [k1 z (by omega), kC.2 z (by omega), k0.2 z hz]⟩⟩
   simp only [Tryz.f15, resF, ev_tmp, T.get_set, Nat.reduceEqDiff, if_true, if_false, evG_some, R.ok_bind, g6, l1]
   rfl
  | some f =>
   obtain ⟨v, D, ⟨g2', hg2⟩, ⟨y, rfl, hy⟩, mD, kD⟩ := run_act (told := told) (o := o) (actK_cases ha) mC hd
   have kDn := kD.1
   have lo := (vO.kp kC).all
   have vRD : Vals D 44 (A.next + 1) (.var 3) repZ := vRC.same (kD.2 _ (by omega) (by omega))
   obtain ⟨E, s1, v1, l1, n1, k1⟩ := rep_store (e' := (actD f s o told).2.err) (w' := (actD f s o told).2.weight) (x' := y) vRD hy.cells.2.1
   have hav : actV (some f) = .func (.func f) ⟨[]⟩ ⟨[]⟩ := rfl
   apply W.run 20
   ·intro M
    simp (disch := first | decide +kernel | omega) only [c16, Tryz.f15, Aq, Nat.reduceEqDiff, Option.isSome_some]
    with_reducible rfl
   apply W.run 20
   ·intro M
    simp (disch := first | decide +kernel | omega) only [c16, Tryz.f15, Aq, Nat.reduceEqDiff]
    with_reducible rfl
   apply W.seq
   apply W.runG (g2') 20
   ·intro M hM
    simp (disch := first | decide +kernel | omega) only [c16, Tryz.f15, Aq, Nat.reduceEqDiff, g0, g2, g4, g6, hav, lo, hg2, s1]
    with_reducible rfl
   apply W.run 20
   ·intro M
    simp (disch := first | decide +kernel | omega) only [c16, Tryz.f15, Aq, Nat.reduceEqDiff]
    with_reducible rfl
   refine ⟨.inr rfl, E, [.agg ⟨repC (actD f s o told).2.err (actD f s o told).2.weight y⟩], rfl, ?_, ⟨y, rfl, HitE.put hy (q := A.next + 1) (Vals.not vRD (by decide)) (by omega) (fun z _ hne => k1 z hne)⟩, mD.rep vRD n1 k1, ⟨by omega, fun z hz hne => by rw [k1 z (by omega), kD.2 z (by omega) hne, kC.2 z (by omega), k0.2 z hz]⟩⟩
   simp only [Tryz.f15, resF, ev_tmp, T.get_set, Nat.reduceEqDiff, if_true, if_false, evG_some, R.ok_bind, g6, l1]
theorem run_Do {A : Mem} {q told : Nat} {s : MdlS} {o : OpV} (h : ModV A q s) (hd : OkM s.d) :
  ∃ v A', Ans tb4 15 [.pointer (some ⟨q, 0, none⟩), .agg ⟨opC o⟩, .int .i64 (told : Int)] A v A' ∧ RepE A' (doD s o told).2 v ∧ ModV A' q (doD s o told).1 ∧ Kq q A A' := by
 refine ans_of_W (fn_at Tryz.func15) c16_eq (by rw [Tryz.ntmps15]; simp) (by kernel_rfl) (by kernel_rfl) ?_
 obtain ⟨vO, vR, k0, n0⟩ := two_vars A o
 have hqA := h.lt
 have hm := h.kp k0
 apply W.seq
 apply W.run 20
 ·intro M
  simp (disch := first | decide +kernel | omega) only [c16, Tryz.f15, Aq, Nat.reduceEqDiff, z53, cells_agg, next_alloc]
  with_reducible rfl
 show W tb4 _ _ _
 generalize (A.alloc (rowOb 47 (opC o))).alloc (rowOb 44 repZ) = B at vO vR k0 n0 hm
 have he : eqF tb4 B.get .eql 26 (.tmp 9) (.const (.pointer none)) (.pointer (some ⟨q, 0, none⟩)) (.pointer none) = .ok (.bool false) := by kernel_rfl
 apply W.seq
 apply W.seq
 apply W.run 20
 ·intro M
  simp (disch := first | decide +kernel | omega) only [c16, Tryz.f15, Aq, Nat.reduceEqDiff, opF_eqlR, he]
  with_reducible rfl
 apply W.run 20
 ·intro M
  simp (disch := first | decide +kernel | omega) only [c16, Tryz.f15, Aq, Nat.reduceEqDiff]
  with_reducible rfl
 show W tb4 _ _ _
 refine W_gen [(0, .pointer (some ⟨q, 0, none⟩)), (2, .int .i64 (told : Int)), (4, .pointer (some ⟨A.next, 0, none⟩)), (6, .pointer (some ⟨A.next + 1, 0, none⟩))] (by simp only [Sl_cons, Sl_nil, T.get_set, T.puts_cons, T.puts_nil, Nat.reduceEqDiff, Nat.reduceAdd, if_true, if_false, and_true, true_and]) fun t ht => ?_
 obtain ⟨g0, g2, g4, g6, -⟩ := ht
 apply W.seq
 apply W.seq
 unfold doD
 by_cases h10 : told = 10
 ·subst h10
  have htl : toldD 10 = 10 := rfl
  rw [htl]
  apply W.run 20
  ·intro M
   simp (config := { maxSteps := 4000000 }) (disch := first | decide +kernel | omega | simp only [Wq, Nat.reduceEqDiff]) only [c16, Tryz.f15, Aq, Nat.ble, reduceIte, Nat.reduceEqDiff, Nat.reduceAdd, g2]
   with_reducible rfl
  apply W.run 20
  ·intro M
   simp (disch := first | decide +kernel | omega) only [c16, Tryz.f15, Aq, Nat.reduceEqDiff]
   with_reducible rfl
  refine do_tail hqA hm hd vO vR k0 n0 ?_
  simp only [Sl_cons, Sl_nil, T.get_set, T.puts_cons, T.puts_nil, Nat.reduceEqDiff, Nat.reduceAdd, if_true, if_false, and_true, true_and, g0, g2, g4, g6]
 ·by_cases h13 : told = 13
  ·subst h13
   have htl : toldD 13 = 13 := rfl
   rw [htl]
   apply W.run 20
   ·intro M
    simp (config := { maxSteps := 4000000 }) (disch := first | decide +kernel | omega | simp only [Wq, Nat.reduceEqDiff]) only [c16, Tryz.f15, Aq, Nat.ble, reduceIte, Nat.reduceEqDiff, Nat.reduceAdd, g2]
    with_reducible rfl
   apply W.run 20
   ·intro M
    simp (disch := first | decide +kernel | omega) only [c16, Tryz.f15, Aq, Nat.reduceEqDiff]
    with_reducible rfl
   refine do_tail hqA hm hd vO vR k0 n0 ?_
   simp only [Sl_cons, Sl_nil, T.get_set, T.puts_cons, T.puts_nil, Nat.reduceEqDiff, Nat.reduceAdd, if_true, if_false, and_true, true_and, g0, g2, g4, g6]
  ·have htl : toldD told = 0 := by unfold toldD; rw [if_pos ⟨h10, h13⟩]
   rw [htl]
   apply W.run 20
   ·intro M
    simp (config := { maxSteps := 4000000 }) (disch := first | decide +kernel | omega | simp only [Wq, Nat.reduceEqDiff]) only [c16, Tryz.f15, Aq, Nat.ble, reduceIte, Nat.reduceEqDiff, Nat.reduceAdd, g2, h10, h13]
    with_reducible rfl
   apply W.run 20
   ·intro M
    simp (disch := first | decide +kernel | omega) only [c16, Tryz.f15, Aq, Nat.reduceEqDiff]
    with_reducible rfl
   refine do_tail hqA hm hd vO vR k0 n0 ?_
   simp only [Sl_cons, Sl_nil, T.get_set, T.puts_cons, T.puts_nil, Nat.reduceEqDiff, Nat.reduceAdd, if_true, if_false, and_true, true_and, g0, g4, g6]
end Go.Proofs.YtnelkapmmgggdaaGreat.mdl

/-
 Model: do; is it poisoned, closed; its words; two replies are alike.
-/
namespace Go.Proofs.YtnelkapmmgggdaaGreat.mdl
open Go.Am Go.Mdl
open Go.Proofs.YtnelkapmmgggdaaGreat.rnk (HitD hitC ordD lessB sortH ordK lessK hitC_len sortH_len)
set_option linter.unusedSimpArgs false
set_option linter.unusedVariables false
set_option linter.unusedVariables false

noncomputable def c15 : Code := Tryz.f18.body.getD .skip
theorem c15_eq : Tryz.f18.body = some (.seq (sub c15 [0]) (.seq (sub c15 [1,0]) (sub c15 [1,1]))) := by kernel_rfl
theorem run_poisoned {A : Mem} {q : Nat} {s : MdlS} (h : ModV A q s) : Ans tb4 18 [.pointer (some ⟨q, 0, none⟩)] A (.bool s.bad) A := by
 obtain ⟨v, A', hg, rfl, rfl⟩ : ∃ v A', Ans tb4 18 [.pointer (some ⟨q, 0, none⟩)] A v A' ∧ v = .bool s.bad ∧ A' = A := by
  refine ans_of_W (fn_at Tryz.func18) c15_eq (by rw [Tryz.ntmps18]; simp) (by kernel_rfl) (by kernel_rfl) ?_
  have lb := h.bad
  have he : eqF tb4 A.get .eql 26 (.tmp 3) (.const (.pointer none)) (.pointer (some ⟨q, 0, none⟩)) (.pointer none) = .ok (.bool false) := by kernel_rfl
  apply W.seq
  apply W.run 20
  ·intro M
   simp (disch := first | decide +kernel | omega) only [c15, Tryz.f18, Aq, Nat.reduceEqDiff]
   with_reducible rfl
  apply W.seq
  apply W.run 20
  ·intro M
   simp (config := { maxSteps := 4000000 }) (disch := first | decide +kernel | omega | simp only [Wq, Nat.reduceEqDiff]) only [c15, Tryz.f18, Aq, Nat.ble, reduceIte, Nat.reduceEqDiff, Nat.reduceAdd, opF_eqlR, he, opF_nilCheck, nil_ptr, fm1, lb]
   with_reducible rfl
  apply W.run 20
  ·intro M
   simp (disch := first | decide +kernel | omega) only [c15, Tryz.f18, Aq, Nat.reduceEqDiff]
   with_reducible rfl
  refine ⟨.inr rfl, A, [.bool s.bad], rfl, ?_, rfl, rfl⟩
  simp only [Tryz.f18, resF, ev_tmp, T.get_set, Nat.reduceEqDiff, if_true, if_false, evG_some, R.ok_bind]
 exact hg
noncomputable def c19 : Code := Tryz.f19.body.getD .skip
theorem c19_eq : Tryz.f19.body = some (.seq (sub c19 [0]) (.seq (sub c19 [1,0]) (sub c19 [1,1]))) := by kernel_rfl
theorem run_closed {A : Mem} {q : Nat} {s : MdlS} (h : ModV A q s) : Ans tb4 19 [.pointer (some ⟨q, 0, none⟩)] A (.bool s.closed) A := by
 obtain ⟨v, A', hg, rfl, rfl⟩ : ∃ v A', Ans tb4 19 [.pointer (some ⟨q, 0, none⟩)] A v A' ∧ v = .bool s.closed ∧ A' = A := by
  refine ans_of_W (fn_at Tryz.func19) c19_eq (by rw [Tryz.ntmps19]; simp) (by kernel_rfl) (by kernel_rfl) ?_
  have lb := h.closed
  have he : eqF tb4 A.get .eql 26 (.tmp 3) (.const (.pointer none)) (.pointer (some ⟨q, 0, none⟩)) (.pointer none) = .ok (.bool false) := by kernel_rfl
  apply W.seq
  apply W.run 20
  ·intro M
   simp (disch := first | decide +kernel | omega) only [c19, Tryz.f19, Aq, Nat.reduceEqDiff]
   with_reducible rfl
  apply W.seq
  apply W.run 20
  ·intro M
   simp (config := { maxSteps := 4000000 }) (disch := first | decide +kernel | omega | simp only [Wq, Nat.reduceEqDiff]) only [c19, Tryz.f19, Aq, Nat.ble, reduceIte, Nat.reduceEqDiff, Nat.reduceAdd, opF_eqlR, he, opF_nilCheck, nil_ptr, fm2, lb]
   with_reducible rfl
  apply W.run 20
  ·intro M
   simp (disch := first | decide +kernel | omega) only [c19, Tryz.f19, Aq, Nat.reduceEqDiff]
   with_reducible rfl
  refine ⟨.inr rfl, A, [.bool s.closed], rfl, ?_, rfl, rfl⟩
  simp only [Tryz.f19, resF, ev_tmp, T.get_set, Nat.reduceEqDiff, if_true, if_false, evG_some, R.ok_bind]
 exact hg
theorem run_wordsM {A : Mem} {q : Nat} {s : MdlS} (h : ModV A q s) (hl : s.d.length < 1000000) : ∃ y A', Ans tb4 8 [.pointer (some ⟨q, 0, none⟩)] A y A' ∧ EntE A' (Go.Mdl.live s.d) y ∧ Kp A A' := by
 obtain ⟨x, hld, b, hb⟩ := h.d
 obtain ⟨y2, A2, b2, ⟨g2, hg2⟩, w2, n2, o2, hn2, k2⟩ := run_live hb hb.lt hl
 obtain ⟨v, A', hg, rfl, rfl⟩ : ∃ v A', Ans tb4 8 [.pointer (some ⟨q, 0, none⟩)] A v A' ∧ v = y2 ∧ A' = A2 := by
  refine ans_of_W (fn_at Tryz.func8) c9_eq (by rw [Tryz.ntmps8]; simp) (by kernel_rfl) (by kernel_rfl) ?_
  apply W.seq
  apply W.run 20
  ·intro M
   simp (disch := first | decide +kernel | omega) only [c9, Tryz.f8, Aq, Nat.reduceEqDiff]
   with_reducible rfl
  apply W.seq
  apply W.seq
  have he : eqF tb4 A.get .eql 26 (.tmp 3) (.const (.pointer none)) (.pointer (some ⟨q, 0, none⟩)) (.pointer none) = .ok (.bool false) := by kernel_rfl
  apply W.run 20
  ·intro M
   simp (disch := first | decide +kernel | omega) only [c9, Tryz.f8, Aq, Nat.reduceEqDiff, opF_eqlR, he]
   with_reducible rfl
  apply W.run 20
  ·intro M
   simp (disch := first | decide +kernel | omega) only [c9, Tryz.f8, Aq, Nat.reduceEqDiff]
   with_reducible rfl
  apply W.seq
  apply W.runG (g2) 20
  ·intro M hM
   simp (disch := first | decide +kernel | omega) only [c9, Tryz.f8, Aq, Nat.reduceEqDiff, opF_nilCheck, nil_ptr, fm0, hld, hg2]
   with_reducible rfl
  apply W.run 20
  ·intro M
   simp (disch := first | decide +kernel | omega) only [c9, Tryz.f8, Aq, Nat.reduceEqDiff]
   with_reducible rfl
  refine ⟨.inr rfl, _, [y2], rfl, ?_, rfl, rfl⟩
  simp only [Tryz.f8, resF, ev_tmp, T.get_set, Nat.reduceEqDiff, if_true, if_false, evG_some, R.ok_bind]
 exact ⟨_, _, hg, ⟨b2, w2⟩, n2, k2⟩
theorem foldT_len (n : Int) : ∀ (l m : List HitD), (l.foldl (stepT n) m).length ≤ m.length + l.length
 | [], m => Nat.le_refl _
 | x :: l, m => by
  have h1 := foldT_len n l (stepT n m x)
  have h2 := stepT_len (n := n) (w := m) (x := x)
  simp only [List.foldl_cons, List.length_cons]
  omega
theorem topL_len (n : Int) (l : List HitD) : (topL n l).length ≤ l.length := by
 unfold topL
 rw [sortH_len]
 have := foldT_len n l []
 simpa using this
theorem ansD_len (d : List EntD) (o : OpV) : (ansD d o).hits.length ≤ d.length := by
 unfold ansD
 split
 ·exact Nat.zero_le _
 ·split
  ·split
   ·exact Nat.zero_le _
   ·exact Nat.le_trans (topL_len _ _) (nearL_len _ _ _)
  ·exact Nat.zero_le _
theorem shape63 : fieldsOf (tb4.und 73) = [(false, 59, 0), (false, 3, 3)] := by kernel_rfl
theorem eqm63 (x y : Operand) (a b : Array Value) : eqMay tb4 73 x y (.agg a) (.agg b) = true := by
 show (!tb4.P.eqGuardType tb4.P.depth 73) = true
 have : tb4.P.eqGuardType tb4.P.depth 73 = false := by decide +kernel
 rw [this]; rfl
theorem equal45d {g : Nat → Option Ob} {e : EntD} {d : Nat} : equalF tb4 g (d + 2) 59 (.agg ⟨entC e⟩) (.agg ⟨entC e⟩) = .ok true := by
 rw [equal_struct (by kernel_rfl) shape45 (by kernel_rfl)]
 simp only [fieldsEqS, cond_false, entC]
 rw [part_one und9' rfl rfl, part_one (o := 1) und24' rfl rfl, part_one (o := 2) und4' rfl rfl]
 simp only [R.ok_bind, equal_int (tb := tb4) (t := 41) und24', equal_str (tb := tb4) (t := 9) und9', equal_bool (tb := tb4) (t := 4) und4', decide_true]
theorem equal63 {g : Nat → Option Ob} {h : HitD} : equalF tb4 g 100 73 (.agg ⟨hitC h⟩) (.agg ⟨hitC h⟩) = .ok true := by
 rw [equal_struct (by kernel_rfl) shape63 (by kernel_rfl)]
 obtain ⟨d45, hd1, hd2⟩ := und45'
 have p0 : partF tb4 59 (hitC h) 0 = .ok (.agg ⟨entC h.e⟩) := by
  unfold partF
  simp only [hd1, hd2, cond_true, size45', R.ok_bind]
  rfl
 simp only [fieldsEqS, cond_false]
 rw [p0, part_one (o := 3) (v := .int .i64 (h.dist : Int)) und3' rfl rfl]
 simp only [R.ok_bind, equal45d, equal_int (tb := tb4) (t := 3) und3', decide_true]
theorem neq63 {g : Nat → Option Ob} {x y : Operand} {h : HitD} : eqF tb4 g .neq 73 x y (.agg ⟨hitC h⟩) (.agg ⟨hitC h⟩) = .ok (.bool false) := by
 unfold eqF
 rw [eqm63, cond_true]
 simp only []
 rw [equal63]
 rfl
noncomputable def c17 : Code := Tryz.f12.body.getD .skip
noncomputable def c17b1 : Code := sub c17 [1,1,0,1,0,0]
theorem c17_eq : Tryz.f12.body = some (.seq (sub c17 [0]) (.seq (.seq (sub c17 [1,0,0]) (sub c17 [1,0,1])) (.seq (.seq (sub c17 [1,1,0,0]) (.block 0 (.loop c17b1))) (.seq (sub c17 [1,1,1,0]) (sub c17 [1,1,1,1]))))) := by kernel_rfl
theorem c17b1_eq : c17b1 = .seq (.seq (sub c17b1 [0,0]) (sub c17b1 [0,1])) (.seq (.block 1 (.seq (sub c17b1 [1,0,0,0]) (sub c17b1 [1,0,0,1]))) (sub c17b1 [1,1])) := by kernel_rfl
end Go.Proofs.YtnelkapmmgggdaaGreat.mdl

/-
 ModelPoison: operations' drafts, in a list; plain facts.
-/
namespace Go.Proofs.YtnelkapmmgggdaaGreat.mdl
open Go.Am Go.Mdl
open Go.Proofs.YtnelkapmmgggdaaGreat.rnk (HitD hitC ordD lessB sortH ordK lessK hitC_len sortH_len)
set_option linter.unusedSimpArgs false
set_option linter.unusedVariables false
set_option linter.unusedVariables false

def OpL (A : Mem) (os : List OpI) (x : Value) : Prop :=
 (x = .slice none 0 0 ∧ os = []) ∨ (x = empV ∧ os = []) ∨ ∃ q off cp, x = .slice (some ⟨q, off, none⟩) os.length cp ∧ (os = [] ∨ (q < A.next ∧ ∃ t kd fz c, A.get q = some (.cells t kd fz c) ∧
  ∀ (i : Nat) (o : OpI), os[i]? = some o → (∀ j v, (inC o)[j]? = some v → c.get (off + i * 8 + j) = some v) ∧ InOk A o))
theorem und49 : tb4.und 23 = some (.slice 54) := by kernel_rfl
theorem size29' : sizeF tb4 54 = .ok 8 := by kernel_rfl
theorem und29' : ∃ d, tb4.und 54 = some d ∧ isAggD d = true := by
 have h : (tb4.und 54).map isAggD = some true := by kernel_rfl
 cases hq : tb4.und 54 with
 | none => rw [hq] at h; cases h
 | some d => rw [hq] at h; exact ⟨d, rfl, by simpa using h⟩
theorem OpL.kp {A A' : Mem} {os : List OpI} {x : Value} (h : OpL A os x) (k : Kp A A') : OpL A' os x := by
 rcases h with h | h | ⟨q, off, cp, h1, h2⟩
 ·exact .inl h
 ·exact .inr (.inl h)
 ·refine .inr (.inr ⟨q, off, cp, h1, ?_⟩)
  rcases h2 with h2 | ⟨h2, t, kd, fz, c, h3, h4⟩
  ·exact .inl h2
  ·exact .inr ⟨Nat.lt_of_lt_of_le h2 k.1, t, kd, fz, c, by rw [k.2 _ h2]; exact h3, fun i d hd => ⟨(h4 i d hd).1, (h4 i d hd).2.kp k⟩⟩
theorem OpL.len {A : Mem} {os : List OpI} {x : Value} (h : OpL A os x) : builtinPF tb4 .len [23] [x] = .ok (.int .i64 ((os.length : Nat) : Int)) := by
 rcases h with ⟨rfl, rfl⟩ | ⟨rfl, rfl⟩ | ⟨q, off, cp, rfl, -⟩
 ·exact len_slc und49
 ·kernel_rfl
 ·exact len_slc und49
theorem OpL.at {A : Mem} {os : List OpI} {x : Value} (h : OpL A os x) {i : Nat} {o : OpI} (hi : os[i]? = some o) :
  (∃ p, indexAddrF tb4 23 x (.int .i64 (i : Int)) = .ok (.pointer (some p)) ∧ loadF tb4 A.get 54 (.pointer (some p)) = .ok (.agg ⟨inC o⟩)) ∧ InOk A o := by
 rcases h with ⟨-, rfl⟩ | ⟨-, rfl⟩ | ⟨q, off, cp, rfl, h2⟩
 ·simp at hi
 ·simp at hi
 ·rcases h2 with rfl | ⟨h2, t, kd, fz, c, h3, h4⟩
  ·simp at hi
  ·obtain ⟨c0, hok⟩ := h4 i o hi
   obtain ⟨d29, hd1, hd2⟩ := und29'
   have hlt := (List.getElem?_eq_some_iff.1 hi).1
   have hb : Nat.blt i os.length = true := by rw [Nat.blt_eq]; exact hlt
   have hn : natV (.int .i64 (i : Int)) = .ok i := rfl
   refine ⟨⟨⟨q, off + i * 8, none⟩, ?_, ?_⟩, hok⟩
   ·unfold indexAddrF
    simp only [hn, und49, hb, cond_true, size29', R.ok_bind, addA]
   ·have hgs : c.gets 8 (off + i * 8) = some (inC o) := gets_eq _ _ _ _ rfl fun j hj => by
     have hv : (inC o)[j]? = some ((inC o)[j]'(by show j < 8; exact hj)) := List.getElem?_eq_getElem _
     rw [hv]
     exact c0 j _ hv
    unfold loadF
    simp only [h3, hd1, hd2, cond_true, size29', R.ok_bind, hgs]

theorem withL_mem : ∀ {more own : List EntD} {y : EntD}, y ∈ withL own more → y ∈ own ∨ ∃ m ∈ more, y.word = m.word
 | [], own, y, h => .inl h
 | m :: more, own, y, h => by
  have h' : y ∈ withL (oneL (norm m) own) more := h
  rcases withL_mem h' with h1 | ⟨e, h1, h2⟩
  ·rcases one_mem h1 with rfl | h1
   ·refine .inr ⟨m, List.mem_cons_self .., ?_⟩
    unfold norm
    split <;> rfl
   ·exact .inl h1
  ·exact .inr ⟨e, List.mem_cons_of_mem _ h1, h2⟩
theorem mem_live {l : List EntD} {y : EntD} (h : y ∈ Go.Mdl.live l) : y ∈ l := (List.mem_filter.1 h).1
theorem newL_mem {l : List EntD} {y : EntD} (h : y ∈ newL l) : ∃ m ∈ l, y.word = m.word := by
 rcases withL_mem (mem_live h) with h | h
 ·cases h
 ·exact h
theorem live_id {l : List EntD} (h : ∀ e ∈ l, e.gone = false) : Go.Mdl.live l = l := by
 unfold Go.Mdl.live
 rw [List.filter_eq_self]
 intro e he
 rw [h e he]; rfl
theorem wordD_len9 (ls : List UInt8) : (wordD ls).length ≤ 9 := by
 unfold wordD
 split
 ·simp
 ·rw [List.length_map, List.length_take]; omega
theorem dE_word (d : DrD) : (dE d).word.length ≤ 9 := by
 have h2 : (dE d).word = wordD d.ls := by
  unfold dE entD norm
  split <;> rfl
 rw [h2]
 exact wordD_len9 _
theorem new_ok {ds : List DrD} {n : Nat} (hn : n ≤ 1000) : OkD (newL ((ds.take n).map dE)) ∧ (newL ((ds.take n).map dE)).length ≤ n ∧ ∀ e ∈ newL ((ds.take n).map dE), e.word.length ≤ 9 := by
 refine ⟨live_ok (withL_asc (by trivial)), ?_, fun e he => ?_⟩
 ·have e1 := live_le (withL [] ((ds.take n).map dE))
  have e2 := withL_len (own := []) (more := (ds.take n).map dE) trivial
  rw [List.length_map, List.length_take] at e2
  simp only [List.length_nil] at e2
  show (Go.Mdl.live _).length ≤ n
  omega
 ·obtain ⟨m, hm, hw⟩ := newL_mem he
  obtain ⟨d, -, rfl⟩ := List.mem_map.1 hm
  rw [hw]
  exact dE_word d
theorem okM_of {d : List EntD} (h : OkD d) (hl : d.length < 1000) (hw : ∀ e ∈ d, e.word.length ≤ 300) : OkM d := ⟨h.1, by omega, fun e he => by have := hw e he; omega⟩
end Go.Proofs.YtnelkapmmgggdaaGreat.mdl

/-
 Model: the heap is one: what is taken is the worst; what is left are the best.
-/
namespace Go.Proofs.YtnelkapmmgggdaaGreat.mdl
open Go.Am Go.Mdl
open Go.Proofs.YtnelkapmmgggdaaGreat.rnk (HitD hitC ordD lessB sortH ordK lessK hitC_len sortH_len ltH lessB_iff ltH_irr ltH_tr ltH_tri)
set_option linter.unusedSimpArgs false
set_option linter.unusedVariables false
set_option linter.unusedVariables false

def ge (a b : HitD) : Prop := ¬ ltH a b
theorem ge_tr {a b c : HitD} (h : ge a b) (k : ge b c) : ge a c := by
 intro hac
 by_cases hba : ltH b a
 ·exact k (ltH_tr hba hac)
 ·exact k (by rw [← ltH_tri h hba]; exact hac)
theorem ge_lt {a b : HitD} (h : ltH b a) : ge a b := fun k => ltH_irr _ (ltH_tr h k)
theorem ge_lt_tr {a b c : HitD} (h : ltH a b) (k : ge a c) : ge b c := ge_tr (ge_lt h) k
theorem lessB_f {a b : HitD} : ¬ lessB a b = true ↔ ge a b := by rw [lessB_iff]; exact Iff.rfl
def at_ (l : List HitD) (k : Nat) : HitD := l.getD k default
theorem at_some {l : List HitD} {k : Nat} (h : k < l.length) : l[k]? = some (at_ l k) := by
 unfold at_
 rw [List.getD_eq_getElem?_getD, List.getElem?_eq_getElem h]; rfl
theorem at_get {l : List HitD} {k : Nat} (h : k < l.length) : l[k] = at_ l k := by
 have := at_some h
 rw [List.getElem?_eq_getElem h] at this
 exact Option.some.inj this
theorem at_swap {l : List HitD} {i j : Nat} (hi : i < l.length) (hj : j < l.length) (k : Nat) : at_ (swapL l i j) k = if k = j then at_ l i else if k = i then at_ l j else at_ l k := by
 unfold swapL
 rw [at_some hi, at_some hj]
 unfold at_
 rw [List.getD_eq_getElem?_getD, List.getElem?_set, List.getElem?_set]
 by_cases h1 : k = j
 ·rw [if_pos h1, if_pos h1.symm]
  simp [hj]
 ·rw [if_neg h1, if_neg (fun e => h1 e.symm)]
  by_cases h2 : k = i
  ·rw [if_pos h2, if_pos h2.symm]
   simp [hi]
  ·rw [if_neg h2, if_neg (fun e => h2 e.symm)]
   rw [List.getD_eq_getElem?_getD]
theorem swap_perm {l : List HitD} {i j : Nat} (hi : i < l.length) (hj : j < l.length) : (swapL l i j).Perm l := by
 unfold swapL
 rw [List.getElem?_eq_getElem hi, List.getElem?_eq_getElem hj]
 exact List.set_set_perm hi hj
def HeapF (l : List HitD) (n : Nat) : Prop := ∀ j, 0 < j → j < n → ge (at_ l ((j - 1) / 2)) (at_ l j)
theorem up_heap : ∀ (j : Nat) (l : List HitD), j < l.length → (∀ k, 0 < k → k < l.length → k ≠ j → ge (at_ l ((k - 1) / 2)) (at_ l k)) → (∀ k, 0 < k → k < l.length → (k - 1) / 2 = j → 0 < j → ge (at_ l ((j - 1) / 2)) (at_ l k)) → HeapF (upL l j) l.length ∧ (upL l j).Perm l := by
 intro j
 induction j using Nat.strongRecOn with
 | ind j ih =>
  intro l hj h1 h2
  by_cases h0 : j = 0
  ·subst h0
   rw [upL_zero]
   exact ⟨fun k hk hkl => h1 k hk hkl (by omega), List.Perm.refl _⟩
  ·have hp : (j - 1) / 2 < l.length := by omega
   rw [upL_step h0 (at_some hp) (at_some hj)]
   by_cases hl : lessB (at_ l ((j - 1) / 2)) (at_ l j) = true
   ·rw [if_pos hl]
    rw [lessB_iff] at hl
    have hs := at_swap hp hj
    have hlen := swapL_len l ((j - 1) / 2) j
    have hA : ∀ k, 0 < k → k < (swapL l ((j - 1) / 2) j).length → k ≠ (j - 1) / 2 → ge (at_ (swapL l ((j - 1) / 2) j) ((k - 1) / 2)) (at_ (swapL l ((j - 1) / 2) j) k) := by
     intro k hk hkl hkp
     rw [hlen] at hkl
     rw [hs, hs]
     by_cases e1 : k = j
     ·subst e1
      rw [if_pos rfl, if_neg (by omega), if_pos rfl]
      exact ge_lt hl
     ·rw [if_neg e1, if_neg hkp]
      by_cases e2 : (k - 1) / 2 = j
      ·rw [if_pos e2]
       exact h2 k hk hkl e2 (by omega)
      ·rw [if_neg e2]
       by_cases e3 : (k - 1) / 2 = (j - 1) / 2
       ·rw [if_pos e3]
        have := h1 k hk hkl e1
        rw [e3] at this
        exact ge_lt_tr hl this
       ·rw [if_neg e3]
        exact h1 k hk hkl e1
    have hB : ∀ k, 0 < k → k < (swapL l ((j - 1) / 2) j).length → (k - 1) / 2 = (j - 1) / 2 → 0 < (j - 1) / 2 → ge (at_ (swapL l ((j - 1) / 2) j) (((j - 1) / 2 - 1) / 2)) (at_ (swapL l ((j - 1) / 2) j) k) := by
     intro k hk hkl hkp hp0
     rw [hlen] at hkl
     have hg := h1 ((j - 1) / 2) hp0 hp (by omega)
     rw [hs, hs, if_neg (by omega), if_neg (by omega)]
     by_cases e1 : k = j
     ·rw [if_pos e1]
      exact hg
     ·rw [if_neg e1, if_neg (by omega)]
      have := h1 k hk hkl e1
      rw [hkp] at this
      exact ge_tr hg this
    obtain ⟨i1, i2⟩ := ih ((j - 1) / 2) (by omega) (swapL l ((j - 1) / 2) j) (by omega) hA hB
    rw [hlen] at i1
    exact ⟨i1, i2.trans (swap_perm hp hj)⟩
   ·rw [if_neg hl]
    rw [lessB_f] at hl
    refine ⟨fun k hk hkl => ?_, List.Perm.refl _⟩
    by_cases e : k = j
    ·subst e; exact hl
    ·exact h1 k hk hkl e
theorem child_spec {l : List HitD} {i n : Nat} (h : 2 * i + 1 < n) (hn : n ≤ l.length) : (childL l i n = 2 * i + 1 ∨ (childL l i n = 2 * i + 2 ∧ 2 * i + 2 < n)) ∧ ∀ k, 0 < k → k < n → (k - 1) / 2 = i → ge (at_ l (childL l i n)) (at_ l k) := by
 unfold childL
 rw [at_some (by omega : 2 * i + 1 < l.length)]
 by_cases h2 : 2 * i + 2 < l.length
 ·rw [at_some h2]
  simp only []
  by_cases hc : 2 * i + 2 < n ∧ lessB (at_ l (2 * i + 1)) (at_ l (2 * i + 2)) = true
  ·rw [if_pos hc]
   refine ⟨.inr ⟨rfl, hc.1⟩, fun k hk hkn hki => ?_⟩
   have : k = 2 * i + 1 ∨ k = 2 * i + 2 := by omega
   rcases this with rfl | rfl
   ·exact ge_lt (lessB_iff.1 hc.2)
   ·exact ltH_irr _
  ·rw [if_neg hc]
   refine ⟨.inl rfl, fun k hk hkn hki => ?_⟩
   have : k = 2 * i + 1 ∨ k = 2 * i + 2 := by omega
   rcases this with rfl | rfl
   ·exact ltH_irr _
   ·exact lessB_f.1 fun h => hc ⟨hkn, h⟩
 ·rw [List.getElem?_eq_none (by omega)]
  refine ⟨.inl rfl, fun k hk hkn hki => ?_⟩
  have : k = 2 * i + 1 := by omega
  subst this
  exact ltH_irr _
theorem down_heap (n : Nat) : ∀ (m i : Nat) (l : List HitD), n - i = m → n ≤ l.length → i < l.length → (∀ k, 0 < k → k < n → (k - 1) / 2 ≠ i → ge (at_ l ((k - 1) / 2)) (at_ l k)) → (∀ k, 0 < k → k < n → (k - 1) / 2 = i → 0 < i → ge (at_ l ((i - 1) / 2)) (at_ l k)) → HeapF (downL l i n) n ∧ (downL l i n).Perm l ∧ ∀ k, n ≤ k → i < n → at_ (downL l i n) k = at_ l k := by
 intro m
 induction m using Nat.strongRecOn with
 | ind m ih =>
  intro i l hm hn hi h1 h2
  by_cases hc : 2 * i + 1 < n
  ·obtain ⟨c1, c2⟩ := child_spec hc hn
   have hcl := childL_lt (l := l) hc
   generalize hcc : childL l i n = c at c1 c2 hcl
   have hcL : c < l.length := by omega
   rw [downL_step hc (at_some hi) (by rw [hcc]; exact at_some hcL), hcc]
   by_cases hl : lessB (at_ l i) (at_ l c) = true
   ·rw [if_pos hl]
    rw [lessB_iff] at hl
    have hs := at_swap hi hcL
    have hlen := swapL_len l i c
    have hA : ∀ k, 0 < k → k < n → (k - 1) / 2 ≠ c → ge (at_ (swapL l i c) ((k - 1) / 2)) (at_ (swapL l i c) k) := by
     intro k hk hkn hkp
     rw [hs, hs, if_neg hkp]
     by_cases e1 : k = c
     ·subst e1
      have hpk : (k - 1) / 2 = i := by omega
      rw [if_pos hpk, if_pos rfl]
      exact ge_lt hl
     ·rw [if_neg e1]
      by_cases e2 : (k - 1) / 2 = i
      ·rw [if_pos e2, if_neg (by omega)]
       exact c2 k hk hkn e2
      ·rw [if_neg e2]
       by_cases e3 : k = i
       ·rw [if_pos e3]
        subst e3
        exact h2 c (by omega) hcl.2 (by omega) (by omega)
       ·rw [if_neg e3]
        exact h1 k hk hkn e2
    have hB : ∀ k, 0 < k → k < n → (k - 1) / 2 = c → 0 < c → ge (at_ (swapL l i c) ((c - 1) / 2)) (at_ (swapL l i c) k) := by
     intro k hk hkn hkp hc0
     have hpc : (c - 1) / 2 = i := by omega
     rw [hs, hs, hpc, if_neg (by omega), if_pos rfl, if_neg (by omega), if_neg (by omega)]
     have := h1 k hk hkn (by omega)
     rw [hkp] at this
     exact this
    obtain ⟨i1, i2, i3⟩ := ih (n - c) (by omega) c (swapL l i c) rfl (by omega) (by omega) hA hB
    refine ⟨i1, i2.trans (swap_perm hi hcL), fun k hk _ => ?_⟩
    rw [i3 k hk (by omega), hs, if_neg (by omega), if_neg (by omega)]
   ·rw [if_neg hl]
    rw [lessB_f] at hl
    refine ⟨fun k hk hkn => ?_, List.Perm.refl _, fun _ _ _ => rfl⟩
    by_cases e : (k - 1) / 2 = i
    ·rw [e]
     exact ge_tr hl (c2 k hk hkn e)
    ·exact h1 k hk hkn e
  ·rw [downL_stop hc]
   refine ⟨fun k hk hkn => h1 k hk hkn (by omega), List.Perm.refl _, fun _ _ _ => rfl⟩
theorem at_append {l : List HitD} {h : HitD} {k : Nat} (hk : k < l.length) : at_ (l ++ [h]) k = at_ l k := by
 unfold at_
 rw [List.getD_eq_getElem?_getD, List.getElem?_append_left hk, List.getD_eq_getElem?_getD]
theorem push_heap {l : List HitD} {h : HitD} (hh : HeapF l l.length) : HeapF (pushL l h) (pushL l h).length ∧ (pushL l h).Perm (h :: l) := by
 have hlen : (l ++ [h]).length = l.length + 1 := by simp
 obtain ⟨h1, h2⟩ := up_heap l.length (l ++ [h]) (by omega) (fun k hk hkl hne => by
  rw [hlen] at hkl
  rw [at_append (by omega), at_append (by omega)]
  exact hh k hk (by omega)) (fun k hk hkl hkp h0 => by omega)
 rw [pushL_len]
 rw [hlen] at h1
 exact ⟨h1, h2.trans (List.perm_append_comm (l₁ := l) (l₂ := [h]))⟩
theorem root_max {l : List HitD} (hh : HeapF l l.length) : ∀ k, k < l.length → ge (at_ l 0) (at_ l k) := by
 intro k
 induction k using Nat.strongRecOn with
 | ind k ih =>
  intro hk
  by_cases h0 : k = 0
  ·subst h0; exact ltH_irr _
  ·exact ge_tr (ih ((k - 1) / 2) (by omega) (by omega)) (hh k (by omega) hk)
theorem at_take {l : List HitD} {n k : Nat} (h : k < n) : at_ (l.take n) k = at_ l k := by
 unfold at_
 rw [List.getD_eq_getElem?_getD, List.getElem?_take, if_pos h, List.getD_eq_getElem?_getD]
theorem pop_heap {l : List HitD} (hh : HeapF l l.length) (h0 : 0 < l.length) : HeapF (popL l) (popL l).length ∧ ∃ r, l.Perm (r :: popL l) ∧ ∀ y ∈ l, ge r y := by
 have hm : l.length - 1 < l.length := by omega
 have hs := at_swap h0 hm
 have hlen := swapL_len l 0 (l.length - 1)
 obtain ⟨h1, h2, h3⟩ := down_heap (l.length - 1) _ 0 (swapL l 0 (l.length - 1)) rfl (by omega) (by omega) (fun k hk hkn hkp => by
  rw [hs, hs, if_neg (by omega), if_neg (by omega), if_neg (by omega), if_neg (by omega)]
  exact hh k hk (by omega)) (fun k hk hkn hkp hi => by omega)
 have hdl : (downL (swapL l 0 (l.length - 1)) 0 (l.length - 1)).length = l.length := by rw [downL_len _ _ _ _ rfl, hlen]
 have hlast : at_ (downL (swapL l 0 (l.length - 1)) 0 (l.length - 1)) (l.length - 1) = at_ l 0 := by
  by_cases h1' : 0 < l.length - 1
  ·rw [h3 _ (Nat.le_refl _) h1', hs, if_pos rfl]
  ·have e0 : l.length - 1 = 0 := by omega
   rw [downL_stop (by omega), hs, if_pos rfl]
 refine ⟨?_, at_ l 0, ?_, fun y hy => ?_⟩
 ·intro j hj hjl
  rw [popL_len] at hjl
  unfold popL
  rw [at_take (by omega), at_take (by omega)]
  exact h1 j hj hjl
 ·have e : downL (swapL l 0 (l.length - 1)) 0 (l.length - 1) = popL l ++ [at_ l 0] := by
   unfold popL
   conv => lhs; rw [← List.take_append_drop (l.length - 1) (downL (swapL l 0 (l.length - 1)) 0 (l.length - 1))]
   rw [List.drop_eq_getElem_cons (by omega), at_get (by omega), hlast, List.drop_of_length_le (by omega)]
  have p1 : (popL l ++ [at_ l 0]).Perm l := by
   rw [← e]
   exact h2.trans (swap_perm h0 hm)
  exact p1.symm.trans (List.perm_append_comm (l₁ := popL l) (l₂ := [at_ l 0]))
 ·obtain ⟨k, hk, rfl⟩ := List.mem_iff_getElem.1 hy
  rw [at_get hk]
  exact root_max hh k hk

def BestI (n : Nat) (l w rest : List HitD) : Prop := HeapF w w.length ∧ l.Perm (w ++ rest) ∧ w.length ≤ n ∧ (rest ≠ [] → w.length = n) ∧ ∀ y ∈ w, ∀ z ∈ rest, ge z y
theorem best_step {n : Nat} {l w rest : List HitD} {x : HitD} (h : BestI n l w rest) : ∃ rest', BestI n (x :: l) (stepT (n : Int) w x) rest' := by
 obtain ⟨h1, h2, h3, h4, h5⟩ := h
 obtain ⟨p1, p2⟩ := push_heap (h := x) h1
 have hpl := pushL_len w x
 unfold stepT
 by_cases hn : (n : Int) < ((pushL w x).length : Int)
 ·rw [if_pos hn]
  obtain ⟨q1, r, q2, q3⟩ := pop_heap p1 (by omega)
  have hq := popL_len (pushL w x)
  have q4 : (x :: w).Perm (r :: popL (pushL w x)) := p2.symm.trans q2
  have hrm : ∀ y ∈ x :: w, ge r y := fun y hy => q3 y (p2.mem_iff.2 hy)
  refine ⟨r :: rest, q1, ?_, by omega, fun _ => by omega, fun y hy z hz => ?_⟩
  ·have a1 : (x :: l).Perm (x :: (w ++ rest)) := h2.cons x
   have a2 : (x :: (w ++ rest)).Perm ((r :: popL (pushL w x)) ++ rest) := q4.append_right rest
   exact a1.trans (a2.trans (List.perm_middle.symm))
  ·have hyx : y ∈ x :: w := q4.mem_iff.2 (List.mem_cons_of_mem _ hy)
   rcases List.mem_cons.1 hz with rfl | hz
   ·exact hrm y hyx
   ·rcases List.mem_cons.1 hyx with rfl | hyw
    ·have hr : r ∈ y :: w := q4.mem_iff.2 (List.mem_cons_self ..)
     rcases List.mem_cons.1 hr with hry | hrw
     ·rw [hry] at q4
      have : y ∈ w := (q4.cons_inv).mem_iff.2 hy
      exact h5 y this z hz
     ·exact ge_tr (h5 r hrw z hz) (hrm y (List.mem_cons_self ..))
    ·exact h5 y hyw z hz
 ·rw [if_neg hn]
  have hr : rest = [] := Classical.byContradiction fun hr => by
   have := h4 hr
   omega
  subst hr
  rw [List.append_nil] at h2
  refine ⟨[], p1, ?_, by omega, fun h => absurd rfl h, fun y _ z hz => by cases hz⟩
  rw [List.append_nil]
  exact (h2.cons x).trans p2.symm
theorem best_fold {n : Nat} : ∀ (l l0 w rest : List HitD), BestI n l0 w rest → ∃ rest', BestI n (l.reverse ++ l0) (l.foldl (stepT (n : Int)) w) rest'
 | [], l0, w, rest, h => ⟨rest, h⟩
 | x :: l, l0, w, rest, h => by
  obtain ⟨r1, h1⟩ := best_step (x := x) h
  obtain ⟨r2, h2⟩ := best_fold l (x :: l0) _ r1 h1
  refine ⟨r2, ?_⟩
  rw [List.reverse_cons, List.append_assoc]
  exact h2
theorem top_best {n : Int} {l : List HitD} (hn : 0 ≤ n) : ∃ rest, l.Perm (topL n l ++ rest) ∧ ((topL n l).length : Int) ≤ n ∧ (rest ≠ [] → ((topL n l).length : Int) = n) ∧ ∀ y ∈ topL n l, ∀ z ∈ rest, ge z y := by
 obtain ⟨k, rfl⟩ : ∃ k : Nat, n = (k : Int) := ⟨n.toNat, by omega⟩
 obtain ⟨rest, h1, h2, h3, h4, h5⟩ := best_fold (n := k) l [] [] [] ⟨fun j _ hj => by simp at hj, List.Perm.refl _, Nat.zero_le _, fun h => absurd rfl h, fun y hy => by cases hy⟩
 have hp : (topL (k : Int) l).Perm (l.foldl (stepT (k : Int)) []) := List.mergeSort_perm _ _
 have hl := hp.length_eq
 refine ⟨rest, ?_, by omega, fun h => by have := h4 h; omega, fun y hy z hz => h5 y (hp.mem_iff.1 hy) z hz⟩
 rw [List.append_nil] at h2
 exact (List.reverse_perm l).symm.trans (h2.trans (hp.symm.append_right rest))
end Go.Proofs.YtnelkapmmgggdaaGreat.mdl

/-
 Model: the document's distance: its table (the group dist's text, turned to this seat).
-/
namespace Go.Proofs.YtnelkapmmgggdaaGreat.wth
open Go.Am Go.Dist
open Go.Proofs.YtnelkapmmgggdaaGreat.mdl (tb4 tb4_ok fn_at)
set_option linter.unusedSimpArgs false
set_option linter.unusedVariables false
set_option linter.unusedVariables false

theorem undT : tb4.und 124 = some (.slice 123) := by kernel_rfl
theorem zcR : zcellsF tb4 123 = .ok (1, [.slice none 0 0]) := by kernel_rfl
theorem tyR : ∃ i, tb4.ty.get 123 = some i ∧ i.bytes = 24 := by
 have h : (tb4.ty.get 123).map (·.bytes) = some 24 := by kernel_rfl
 cases hq : tb4.ty.get 123 with
 | none => rw [hq] at h; cases h
 | some i => rw [hq] at h; exact ⟨i, rfl, by simpa using h⟩


def tabRow (a b : List UInt8) (i : Nat) : List Nat := (List.range (b.length + 1)).map fun k => Go.Dist.dist (a.take i) (b.take k)
theorem tabRow_len (a b : List UInt8) (i : Nat) : (tabRow a b i).length = b.length + 1 := by simp [tabRow]
theorem tabRow_get {a b : List UInt8} {i k : Nat} (h : k ≤ b.length) : (tabRow a b i).getD k 0 = Go.Dist.dist (a.take i) (b.take k) := by
 simp [tabRow, List.getD, List.getElem?_eq_getElem (show k < (List.range (b.length + 1)).length by simp; omega)]
theorem dist_small {a b : List UInt8} (ha : a.length ≤ 900000) (hb : b.length ≤ 900000) (i k : Nat) : Go.Dist.dist (a.take i) (b.take k) ≤ 900000 := by
 have := dist_max (a.take i) (b.take k)
 rw [List.length_take, List.length_take] at this
 omega

noncomputable def t70 : Code := Tryz.f70.body.getD .skip
noncomputable def t70b1 : Code := sub t70 [1,1,0,1,0,0]
noncomputable def t70b2 : Code := sub t70b1 [1,0,0,1,0,1,0,0]
theorem t70_eq : Tryz.f70.body = some (.seq (sub t70 [0]) (.seq (sub t70 [1,0]) (.seq (.seq (sub t70 [1,1,0,0]) (.block 0 (.loop t70b1))) (.seq (sub t70 [1,1,1,0]) (sub t70 [1,1,1,1]))))) := by kernel_rfl
theorem t70b1_eq : t70b1 = (.seq (.seq (sub t70b1 [0,0]) (sub t70b1 [0,1])) (.seq (.block 1 (.seq (sub t70b1 [1,0,0,0]) (.seq (.seq (sub t70b1 [1,0,0,1,0,0]) (.block 2 (.loop t70b2))) (sub t70b1 [1,0,0,1,1])))) (sub t70b1 [1,1]))) := by kernel_rfl

def Tbl (A : Mem) (a b : List UInt8) (bt : Nat) (n : Nat) (xs : List Value) : Prop :=
 xs.length = n ∧ ∀ i, i < n → ∃ x bi, xs[i]? = some x ∧ Slc A 3 bi (ints (tabRow a b i)) x ∧ bi ≠ bt ∧ bi < A.next
def CellI (a b : List UInt8) (i br : Nat) (x : Value) (B : Mem) (t0 : T Value) (k : Nat) (t : T Value) (C : Mem) : Prop :=
 (∃ l : List Nat, l.length = b.length + 1 ∧ (∀ j, j < k → l[j]? = some (Go.Dist.dist (a.take i) (b.take j))) ∧ Slc C 3 br (ints l) x) ∧
 Sl t [(0, strOf a), (1, strOf b), (6, .int .i64 (i : Int)), (7, x), (8, .int .i64 (k : Int))] ∧ t.get 5 = t0.get 5 ∧ C.next = B.next ∧ ∀ y, y ≠ br → C.get y = B.get y

theorem cell_loop {a b : List UInt8} {i br bt : Nat} {x xt : Value} {xs : List Value} {B : Mem} (ha : a.length ≤ 900000) (hb : b.length ≤ 900000) (hi : i ≤ a.length) (hbr : br ≠ bt) (ht : Slc B 123 bt xs xt) {C0 : Mem} (hT : Tbl C0 a b bt i xs) (hEB : Ext C0 B) (hbC : C0.next ≤ br)
  {t0 t : T Value} {C : Mem} (h5 : t0.get 5 = some xt) (h : CellI a b i br x B t0 0 t C) {K : Ex → St → Prop} (hk : ∀ t C, CellI a b i br x B t0 (b.length + 1) t C → K (.exit 2) ⟨t, 93, [], C, none⟩) : W tb4 (.loop t70b2) ⟨t, 93, [], C, none⟩ K := by
 refine W.up (b.length + 1) (fun k t C => CellI a b i br x B t0 k t C) ?_ (Nat.zero_le _) h
 rintro k t C hkl ⟨⟨l, hl, hlj, hs⟩, ⟨g0, g1, g6, g7, g8, -⟩, g5, hnx, hfr⟩
 rw [h5] at g5
 by_cases hlt : k ≤ b.length
 ·have hix := hs.idx (tb := tb4) (t := 123) (t' := 3) (kd := .i64) (i := k) und104 size3 (by rw [ints_len]; omega)
  obtain ⟨D, hst, hsD, hnD, hfD⟩ := hs.store (tb := tb4) (t := 3) (o := k) (v := .int .i64 (Go.Dist.dist (a.take i) (b.take k) : Nat)) size3 (by rw [ints_len]; omega) rfl rfl
  have fin : ∀ t' : T Value, Sl t' [(0, strOf a), (1, strOf b), (6, .int .i64 (i : Int)), (7, x), (8, .int .i64 ((k + 1 : Nat) : Int))] → t'.get 5 = t0.get 5 → CellI a b i br x B t0 (k + 1) t' D := by
   intro t' ht' h5'
   refine ⟨⟨l.set k (Go.Dist.dist (a.take i) (b.take k)), by rw [List.length_set]; exact hl, fun j hj => ?_, by rw [← ints_set]; exact hsD⟩, ht', h5', by rw [hnD, hnx], fun y hy => by rw [hfD y hy, hfr y hy]⟩
   rw [List.getElem?_set]
   by_cases hjk : k = j
   ·subst hjk; rw [if_pos rfl, if_pos (by omega)]
   ·rw [if_neg hjk]; exact hlj j (by omega)
  have hds := dist_small ha hb i k
  by_cases hi0 : i = 0
  ·subst hi0
   have e : Go.Dist.dist (a.take 0) (b.take k) = k := by rw [List.take_zero, dist_nil, List.length_take]; omega
   rw [e] at hst
   apply W.run 20
   ·intro M
    simp (disch := first | decide +kernel | omega) only [t70b2, t70b1, t70, Tryz.f70, Aq, Nat.reduceEqDiff, g0, g1, g5, g6, g7, g8, len_str und9, hlt, hix, hst]
    with_reducible rfl
   refine ⟨by omega, _, _, rfl, fin _ ?_ ?_⟩
   ·simp only [Sl_cons, Sl_nil, T.get_set, T.puts_cons, T.puts_nil, Nat.reduceEqDiff, Nat.reduceAdd, if_true, if_false, and_true, true_and, g0, g1, g6, g7]
   ·simp only [T.get_set, Nat.reduceEqDiff, if_true, if_false, g5, h5]
  ·have hts := ht.same (A' := C) (by omega) (fun _ => hfr bt (fun h => hbr h.symm))
   obtain ⟨xp, bp, hxp, hsp, hpt, hpl⟩ := hT.2 (i - 1) (by omega)
   have hspC := (hEB.slc hsp).same (A' := C) (by omega) (fun _ => hfr bp (by omega))
   have hti := hts.idx (tb := tb4) (t := 124) (t' := 123) (kd := .i64) (i := i - 1) undT size104 (by rw [hT.1]; omega)
   have htl := hts.load (tb := tb4) (t := 123) (o := i - 1) und104 rfl hxp
   by_cases hk0 : k = 0
   ·subst hk0
    have e : Go.Dist.dist (a.take i) (b.take 0) = i := by rw [List.take_zero, dist_nil', List.length_take]; omega
    rw [e] at hst
    apply W.run 20
    ·intro M
     simp (disch := first | decide +kernel | omega) only [t70b2, t70b1, t70, Tryz.f70, Aq, Nat.reduceEqDiff, g0, g1, g5, g6, g7, g8, len_str und9, hlt, hix, hst, hi0]
     with_reducible rfl
    refine ⟨by omega, _, _, rfl, fin _ ?_ ?_⟩
    ·simp only [Sl_cons, Sl_nil, T.get_set, T.puts_cons, T.puts_nil, Nat.reduceEqDiff, Nat.reduceAdd, if_true, if_false, and_true, true_and, g0, g1, g6, g7]
    ·simp only [T.get_set, Nat.reduceEqDiff, if_true, if_false, g5, h5]
   ·have hpi1 := hspC.idx (tb := tb4) (t := 123) (t' := 3) (kd := .i64) (i := k - 1) und104 size3 (by rw [ints_len, tabRow_len]; omega)
    have hpl1 := hspC.load (tb := tb4) (t := 3) (o := k - 1) und3 rfl (ints_get (getD_some (by rw [tabRow_len]; omega)))
    rw [tabRow_get (by omega)] at hpl1
    have hpi2 := hspC.idx (tb := tb4) (t := 123) (t' := 3) (kd := .i64) (i := k) und104 size3 (by rw [ints_len, tabRow_len]; omega)
    have hpl2 := hspC.load (tb := tb4) (t := 3) (o := k) und3 rfl (ints_get (getD_some (by rw [tabRow_len]; omega)))
    rw [tabRow_get (by omega)] at hpl2
    have hni := hs.idx (tb := tb4) (t := 123) (t' := 3) (kd := .i64) (i := k - 1) und104 size3 (by rw [ints_len]; omega)
    have hnl := hs.load (tb := tb4) (t := 3) (o := k - 1) und3 rfl (ints_get (hlj (k - 1) (by omega)))
    have ea : a.take i = a.take (i - 1) ++ [a.getD (i - 1) 0] := by rw [← take_getD (by omega)]; congr 1; omega
    have eb : b.take k = b.take (k - 1) ++ [b.getD (k - 1) 0] := by rw [← take_getD (by omega)]; congr 1; omega
    have hia : i - 1 < a.length := by omega
    have hkb : k - 1 < b.length := by omega
    by_cases he : (a.getD (i - 1) 0).toNat = (b.getD (k - 1) 0).toNat
    ·have e : Go.Dist.dist (a.take i) (b.take k) = Go.Dist.dist (a.take (i - 1)) (b.take (k - 1)) := by rw [ea, eb, UInt8.toNat_inj.1 he, dist_snoc]
     rw [e] at hst
     apply W.run 20
     ·intro M
      simp (config := { maxSteps := 4000000 }) (disch := first | decide +kernel | omega | simp only [Wq, Nat.reduceEqDiff]) only [t70b2, t70b1, t70, Tryz.f70, Aq, Nat.ble, reduceIte, Nat.reduceEqDiff, Nat.reduceAdd, g0, g1, g5, g6, g7, g8, len_str und9, hlt, hix, hst, hi0, hk0, index_str und9, hia, hkb, he, hti, htl, hpi1, hpl1]
      with_reducible rfl
     refine ⟨by omega, _, _, rfl, fin _ ?_ ?_⟩
     ·simp only [Sl_cons, Sl_nil, T.get_set, T.puts_cons, T.puts_nil, Nat.reduceEqDiff, Nat.reduceAdd, if_true, if_false, and_true, true_and, g0, g1, g6, g7]
     ·simp only [T.get_set, Nat.reduceEqDiff, if_true, if_false, g5, h5]
    ·have e : Go.Dist.dist (a.take i) (b.take k) = 1 + min (min (Go.Dist.dist (a.take (i - 1)) (b.take (k - 1))) (Go.Dist.dist (a.take (i - 1)) (b.take k))) (Go.Dist.dist (a.take i) (b.take (k - 1))) := by
      have h := dist_snoc_ne (fun h => he (by rw [h])) (a.take (i - 1)) (b.take (k - 1)) (x := a.getD (i - 1) 0) (y := b.getD (k - 1) 0)
      rw [← ea, ← eb] at h
      exact h
     have h1 := dist_small ha hb (i - 1) (k - 1)
     rw [e] at hst
     apply W.run 20
     ·intro M
      simp (config := { maxSteps := 4000000 }) (disch := first | decide +kernel | omega | simp only [Wq, Nat.reduceEqDiff]) only [t70b2, t70b1, t70, Tryz.f70, Aq, Nat.ble, reduceIte, Nat.reduceEqDiff, Nat.reduceAdd, g0, g1, g5, g6, g7, g8, len_str und9, hlt, hix, hst, hi0, hk0, index_str und9, hia, hkb, he, hti, htl, hpi1, hpl1, hpi2, hpl2, hni, hnl, min3_i64]
      with_reducible rfl
     refine ⟨by omega, _, _, rfl, fin _ ?_ ?_⟩
     ·simp only [Sl_cons, Sl_nil, T.get_set, T.puts_cons, T.puts_nil, Nat.reduceEqDiff, Nat.reduceAdd, if_true, if_false, and_true, true_and, g0, g1, g6, g7]
     ·simp only [T.get_set, Nat.reduceEqDiff, if_true, if_false, g5, h5]
 ·have hkn : k = b.length + 1 := by omega
  subst hkn
  apply W.run 20
  ·intro M
   simp (disch := first | decide +kernel | omega) only [t70b2, t70b1, t70, Tryz.f70, Aq, Nat.reduceEqDiff, g1, g8, len_str und9, hlt]
   with_reducible rfl
  refine hk _ _ ⟨⟨l, hl, hlj, hs⟩, ?_, ?_, hnx, hfr⟩
  ·simp only [Sl_cons, Sl_nil, T.get_set, T.puts_cons, T.puts_nil, Nat.reduceEqDiff, Nat.reduceAdd, if_true, if_false, and_true, true_and, g0, g1, g6, g7, g8]
  ·simp only [T.get_set, Nat.reduceEqDiff, if_true, if_false, g5, h5]


theorem bsT (A : Mem) {e : TypeId} {b : Nat} {l : List Value} {x : Value} (h : Slc A e b l x) : buildSliceF tb4 124 1 [(0, x)] = .ok (rowOb 123 [x], .slc 1 2) := by
 rcases h with ⟨rfl, rfl⟩ | ⟨k, c, rfl, -⟩ <;> kernel_rfl
def TabI (A0 : Mem) (a b : List UInt8) (i : Nat) (t : T Value) (C : Mem) : Prop :=
 Ext A0 C ∧ ∃ xs bt xt, A0.next ≤ bt ∧ Slc C 123 bt xs xt ∧ Tbl C a b bt i xs ∧ bt ≠ C.next ∧ Sl t [(0, strOf a), (1, strOf b), (5, xt), (6, .int .i64 (i : Int))]
theorem tab_loop {A0 : Mem} {a b : List UInt8} (ha : a.length ≤ 900000) (hb : b.length ≤ 900000) {t : T Value} {C : Mem} (h : TabI A0 a b 0 t C) {K : Ex → St → Prop} (hk : ∀ t C, TabI A0 a b (a.length + 1) t C → K (.exit 0) ⟨t, 93, [], C, none⟩) : W tb4 (.loop t70b1) ⟨t, 93, [], C, none⟩ K := by
 refine W.up (a.length + 1) (fun k t C => TabI A0 a b k t C) ?_ (Nat.zero_le _) h
 rintro i t C hil ⟨hX, xs, bt, xt, hbt0, hs, hT, hbt, g0, g1, g5, g6, -⟩
 by_cases hlt : i ≤ a.length
 ·rw [t70b1_eq]
  apply W.seq
  apply W.run 20
  ·intro M
   simp (disch := first | decide +kernel | omega) only [t70b1, t70, Tryz.f70, Aq, Nat.reduceEqDiff, g0, g6, len_str und9, hlt]
   with_reducible rfl
  apply W.seq
  apply W.block
  apply W.seq
  apply W.run 20
  ·intro M
   simp (disch := first | decide +kernel | omega) only [t70b1, t70, Tryz.f70, Aq, Nat.reduceEqDiff, g1, len_str und9, make_ints]
   with_reducible rfl
  apply W.seq
  apply W.seq
  apply W.run 20
  ·intro M
   simp (disch := first | decide +kernel | omega) only [t70b1, t70, Tryz.f70, Aq, Nat.reduceEqDiff]
   with_reducible rfl
  apply W.block
  have hE := Ext.alloc C (rowOb 3 (ints (List.replicate (b.length + 1) 0)))
  refine cell_loop (i := i) (br := C.next) (bt := bt) (x := .slice (some ⟨C.next, 0, none⟩) (b.length + 1) (2 * (b.length + 1))) (xt := xt) (xs := xs) (B := C.alloc (rowOb 3 (ints (List.replicate (b.length + 1) 0)))) (t0 := t) ha hb hlt (fun h => hbt h.symm) (hE.slc hs) hT hE (Nat.le_refl _) g5 ⟨⟨List.replicate (b.length + 1) 0, by simp, fun j hj => absurd hj (Nat.not_lt_zero _), ?_⟩, ?_, ?_, rfl, fun y hy => rfl⟩ ?_
  ·have h := slc_row C (List.replicate (b.length + 1) 0)
   rw [List.length_replicate] at h
   exact h
  ·simp only [Sl_cons, Sl_nil, T.get_set, T.puts_cons, T.puts_nil, Nat.reduceEqDiff, Nat.reduceAdd, if_true, if_false, and_true, true_and, g0, g1, g6]
  ·simp only [T.get_set, Nat.reduceEqDiff, if_true, if_false]
  rintro t2 D ⟨⟨l, hl, hlj, hsl⟩, ⟨f0, f1, f6, f7, f8, -⟩, f5, hnx, hfr⟩
  rw [g5] at f5
  rw [next_alloc] at hnx
  have hl' : l = tabRow a b i := by
   apply List.ext_getElem?
   intro j
   by_cases hj : j < b.length + 1
   ·rw [hlj j hj, getD_some (by rw [tabRow_len]; exact hj), tabRow_get (by omega)]
   ·rw [List.getElem?_eq_none (by omega), List.getElem?_eq_none (by rw [tabRow_len]; omega)]
  subst hl'
  show W tb4 _ _ _
  have hED : Ext C D := ⟨by omega, fun y hy => by rw [hfr y (by omega), hE.2 y hy]⟩
  have hsD := hED.slc hs
  have hE3 := Ext.alloc D (rowOb 123 [.slice (some ⟨C.next, 0, none⟩) (b.length + 1) (2 * (b.length + 1))])
  obtain ⟨ti, ht1, ht2⟩ := tyR
  obtain ⟨x', D4, happ, hs4, hn4, hf4⟩ := (hE3.slc hsD).append (tb := tb4) (st := 124) (xt := 124) undT undT zcR ht1 (by omega) (by omega) (by rw [hT.1]; omega) (get_alloc_self D _) rfl
  have hbs := bsT D hsl
  have hn3 : (D.alloc (rowOb 123 [.slice (some ⟨C.next, 0, none⟩) (b.length + 1) (2 * (b.length + 1))])).next = D.next + 1 := next_alloc _ _
  apply W.run 20
  ·intro M
   simp (disch := first | decide +kernel | omega) only [t70b1, t70, Tryz.f70, Aq, Nat.reduceEqDiff, f5, f7, hbs, happ]
   with_reducible rfl
  apply W.run 20
  ·intro M
   simp (disch := first | decide +kernel | omega) only [t70b1, t70, Tryz.f70, Aq, Nat.reduceEqDiff, f6]
   with_reducible rfl
  refine ⟨by omega, _, _, rfl, ⟨by have := hX.1; have := hED.1; omega, fun y hy => by have := hX.1; have := hED.1; rw [hf4 y (by omega) (by omega), hE3.2 y (by omega), hED.2 y (by omega), hX.2 y hy]⟩, xs ++ [.slice (some ⟨C.next, 0, none⟩) (b.length + 1) (2 * (b.length + 1))], _, x', by have := hX.1; omega, hs4, ⟨by rw [List.length_append, hT.1]; rfl, fun j hj => ?_⟩, by omega, ?_⟩
  ·by_cases hji : j < i
   ·obtain ⟨x, bi, h1, h2, h3, h4⟩ := hT.2 j hji
    refine ⟨x, bi, by rw [List.getElem?_append_left (by rw [hT.1]; exact hji)]; exact h1, ?_, by omega, by omega⟩
    exact (hE3.slc (hED.slc h2)).same (by omega) (fun _ => hf4 bi h3 (by omega))
   ·have hje : j = i := by omega
    subst hje
    refine ⟨_, C.next, by rw [List.getElem?_append_right (by rw [hT.1]; omega), hT.1, Nat.sub_self]; rfl, ?_, by omega, by omega⟩
    exact (hE3.slc hsl).same (by omega) (fun _ => hf4 _ (fun h => hbt h.symm) (by omega))
  ·simp only [Sl_cons, Sl_nil, T.get_set, T.puts_cons, T.puts_nil, Nat.reduceEqDiff, Nat.reduceAdd, if_true, if_false, and_true, true_and, f0, f1]
 ·have hin : i = a.length + 1 := by omega
  subst hin
  apply W.run 20
  ·intro M
   simp (disch := first | decide +kernel | omega) only [t70b1, t70, Tryz.f70, Aq, Nat.reduceEqDiff, g0, g6, len_str und9, hlt]
   with_reducible rfl
  refine hk _ _ ⟨hX, xs, bt, xt, hbt0, hs, hT, hbt, ?_⟩
  simp only [Sl_cons, Sl_nil, T.get_set, T.puts_cons, T.puts_nil, Nat.reduceEqDiff, Nat.reduceAdd, if_true, if_false, and_true, true_and, g0, g1, g5, g6]

theorem run_table (a b : List UInt8) (ha : a.length ≤ 900000) (hb : b.length ≤ 900000) (A : Mem) : ∃ v A', Ans tb4 70 [strOf a, strOf b] A v A' ∧ Ext A A' ∧ ∃ xs bt, Slc A' 123 bt xs v ∧ Tbl A' a b bt (a.length + 1) xs := by
 refine ans_of_W (fn_at Tryz.func70) t70_eq (by rw [Tryz.ntmps70]; simp) (by kernel_rfl) (by kernel_rfl) ?_
 apply W.seq
 apply W.run 20
 ·intro M
  simp (disch := first | decide +kernel | omega) only [t70, Tryz.f70, Aq, Nat.reduceEqDiff]
  with_reducible rfl
 apply W.seq
 apply W.run 20
 ·intro M
  simp (disch := first | decide +kernel | omega) only [t70, Tryz.f70, Aq, Nat.reduceEqDiff]
  with_reducible rfl
 apply W.seq
 apply W.seq
 apply W.run 20
 ·intro M
  simp (disch := first | decide +kernel | omega) only [t70, Tryz.f70, Aq, Nat.reduceEqDiff]
  with_reducible rfl
 apply W.block
 refine tab_loop (A0 := A) ha hb ⟨Ext.refl _, [], A.next + 1, .slice none 0 0, by omega, nil_slc _ _ _, ⟨rfl, fun i hi => absurd hi (Nat.not_lt_zero _)⟩, by omega, ?_⟩ ?_
 ·simp only [Sl_cons, Sl_nil, T.get_set, T.puts_cons, T.puts_nil, Nat.reduceEqDiff, Nat.reduceAdd, if_true, if_false, and_true, true_and]
 rintro t C ⟨hX, xs, bt, xt, hbt0, hs, hT, hbt, g0, g1, g5, g6, -⟩
 apply W.seq
 apply W.run 20
 ·intro M
  simp (disch := first | decide +kernel | omega) only [t70, Tryz.f70, Aq, Nat.reduceEqDiff, g5]
  with_reducible rfl
 apply W.run 20
 ·intro M
  simp (disch := first | decide +kernel | omega) only [t70, Tryz.f70, Aq, Nat.reduceEqDiff]
  with_reducible rfl
 refine ⟨.inr rfl, _, [xt], rfl, ?_, hX, xs, bt, hs, hT⟩
 simp only [Tryz.f70, resF, ev_tmp, T.get_set, Nat.reduceEqDiff, if_true, if_false, evG_some, R.ok_bind]

noncomputable def t55 : Code := Tryz.f55.body.getD .skip
theorem t55_eq : Tryz.f55.body = some (.seq (sub t55 [0]) (.seq (sub t55 [1,0]) (sub t55 [1,1]))) := by kernel_rfl
theorem run_refOf (a b : List UInt8) (ha : a.length ≤ 900000) (hb : b.length ≤ 900000) (A : Mem) : ∃ A', Ans tb4 55 [strOf a, strOf b] A (.int .i64 (Go.Dist.dist a b : Nat)) A' ∧ Ext A A' := by
 obtain ⟨v, A', h1, h2, h3⟩ : ∃ v A', Ans tb4 55 [strOf a, strOf b] A v A' ∧ v = .int .i64 (Go.Dist.dist a b : Nat) ∧ Ext A A' := by
  refine ans_of_W (fn_at Tryz.func55) t55_eq (by rw [Tryz.ntmps55]; simp) (by kernel_rfl) (by kernel_rfl) ?_
  obtain ⟨x, B, ⟨g, hg⟩, hX, xs, bt, hs, hT⟩ := run_table a b ha hb A
  obtain ⟨xp, bp, hxp, hsp, hpt, hpl⟩ := hT.2 a.length (by omega)
  have hti := hs.idx (tb := tb4) (t := 124) (t' := 123) (kd := .i64) (i := a.length) undT size104 (by rw [hT.1]; omega)
  have htl := hs.load (tb := tb4) (t := 123) (o := a.length) und104 rfl hxp
  have hpi := hsp.idx (tb := tb4) (t := 123) (t' := 3) (kd := .i64) (i := b.length) und104 size3 (by rw [ints_len, tabRow_len]; omega)
  have hpl := hsp.load (tb := tb4) (t := 3) (o := b.length) und3 rfl (ints_get (getD_some (by rw [tabRow_len]; omega)))
  rw [tabRow_get (Nat.le_refl _), List.take_length, List.take_length] at hpl
  apply W.seq
  apply W.run 20
  ·intro M
   simp (disch := first | decide +kernel | omega) only [t55, Tryz.f55, Aq, Nat.reduceEqDiff]
   with_reducible rfl
  apply W.seq
  apply W.runG (g) 20
  ·intro M hM
   simp (disch := first | decide +kernel | omega) only [t55, Tryz.f55, Aq, Nat.reduceEqDiff, hg, len_str und9, hti, htl, hpi, hpl]
   with_reducible rfl
  apply W.run 20
  ·intro M
   simp (disch := first | decide +kernel | omega) only [t55, Tryz.f55, Aq, Nat.reduceEqDiff]
   with_reducible rfl
  refine ⟨.inr rfl, _, [.int .i64 (Go.Dist.dist a b : Nat)], rfl, ?_, rfl, hX⟩
  simp only [Tryz.f55, resF, ev_tmp, T.get_set, Nat.reduceEqDiff, if_true, if_false, evG_some, R.ok_bind]
 subst h2
 exact ⟨A', h1, h3⟩
end Go.Proofs.YtnelkapmmgggdaaGreat.wth

