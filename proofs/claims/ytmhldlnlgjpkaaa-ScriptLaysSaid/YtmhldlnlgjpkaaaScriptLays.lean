/-
  The statement ScriptLays holds, for every input: the program, run on the abstract machine AM on values of which parts are variables, answers true; what AM answers the model answers. No conditions.
-/
import Derived.Test.YtmhldlnlgjpkaaaRows
import Derived.Test.YtmhldlnlgjpkaaaScrF
import Derived.WalkKit
import Derived.ProofKit
import Derived.OpenShut
import Derived.ShutString
import Derived.ChangeOld
import Derived.Below
import Derived.Deep.Slices
import Derived.Deep.Fields
import Derived.ChangeSame
namespace Go.Proofs.Ytmhldlnlgjpkaaa.scr
open Go.Am
variable {q : Nat}
set_option linter.unusedSimpArgs false
set_option linter.unusedVariables false
set_option linter.unusedVariables false
set_option maxRecDepth 20000

/-! ### A setting's box is stored anew: what it names lies elsewhere -/
theorem vals_ne {A : Mem} {e e' : TypeId} {b b' : Nat} {k k' : Kd} {l l' : List Value} (h : Vals A e b k l) (h' : Vals A e' b' k' l') (hne : e ≠ e') : b ≠ b' := by
  rintro rfl
  obtain ⟨c, h1, -⟩ := h
  obtain ⟨c', h2, -⟩ := h'
  rw [h1] at h2
  cases h2
  exact hne rfl
section
variable {A A' : Mem} {bS : Nat} {k : Kd} {cs : List Value} (hv : Vals A 28 bS k cs) (hn : A.next ≤ A'.next) (hg : ∀ y, y ≠ bS → A'.get y = A.get y)
include hv hn hg
theorem stR_other {l : List Nat} {x : Value} (h : StR (fun _ => True) A l x) : StR (fun _ => True) A' l x := by
  rcases h with h | ⟨b, h1, h2, h3⟩
  · exact .inl h
  · refine .inr ⟨b, trivial, by omega, ?_⟩
    rcases h3 with h4 | ⟨k2, c, h5, h6, h4, h7⟩
    · exact .inl h4
    · exact .inr ⟨k2, c, h5, by omega, h4.same (hg b (vals_ne h4 hv (by decide))), h7⟩
theorem row_other {e : TypeId} (he : e ≠ 28) {n b : Nat} {ls : List (List Value)} {x : Value} (h : RowM A e n b ls x) : RowM A' e n b ls x := by
  rcases h with h | ⟨k2, c, ex, h1, h2, h3, h4⟩
  · exact .inl h
  · exact .inr ⟨k2, c, ex, h1, by omega, h3.same (hg b (vals_ne h3 hv he)), h4⟩
theorem setR_other {s : SetG} {l : List Value} (h : SetR A s l) : SetR A' s l := by
  obtain ⟨xa, rfl, ls, b, h1, h2, h3, h4⟩ := h
  refine ⟨xa, rfl, ls, b, row_other hv hn hg (by decide) h1, h2, h3, fun i d l hd hl => ?_⟩
  obtain ⟨xs, xo, h5, h6, h7, ls2, b2, h8, h9, h10, h11⟩ := h4 i d l hd hl
  refine ⟨xs, xo, h5, stR_other hv hn hg h6, h7, ls2, b2, row_other hv hn hg (by decide) h8, h9, h10, fun i d l hd hl => ?_⟩
  obtain ⟨ys, h12, h13, h14⟩ := h11 i d l hd hl
  exact ⟨ys, h12, stR_other hv hn hg h13, h14⟩
end
/-- The turns that came in. -/
def TurnsR (A : Mem) (us : List TurnD) (x : Value) : Prop :=
  (x = .slice none 0 0 ∧ us = []) ∨ ∃ p off cp, x = .slice (some ⟨p, off, none⟩) us.length cp ∧ (us = [] ∨ (p < A.next ∧ ∃ t kd fz c, A.get p = some (.cells t kd fz c) ∧
    ∀ (i : Nat) (u : TurnD), us[i]? = some u → c.get (off + i * 4) = some (.int .u8 (u.what : Int)) ∧ c.get (off + i * 4 + 1) = some (.int .u8 (u.at_ : Int)) ∧ c.get (off + i * 4 + 2) = some (.int .i16 u.n) ∧ c.get (off + i * 4 + 3) = some (strOf u.w)))
theorem und57 : tb1.und 57 = some (.slice 60) := by kernel_rfl
theorem size60 : sizeF tb1 60 = .ok 4 := by kernel_rfl
theorem und60 : ∃ d, tb1.und 60 = some d ∧ isAggD d = true := by
  have h : (tb1.und 60).map isAggD = some true := by kernel_rfl
  cases hq : tb1.und 60 with
  | none => rw [hq] at h; cases h
  | some d => rw [hq] at h; exact ⟨d, rfl, by simpa using h⟩
theorem TurnsR.ext {A A' : Mem} {us : List TurnD} {x : Value} (h : TurnsR A us x) (e : Ext A A') : TurnsR A' us x := by
  rcases h with h | ⟨p, off, cp, h1, h2⟩
  · exact .inl h
  · refine .inr ⟨p, off, cp, h1, ?_⟩
    rcases h2 with h2 | ⟨h2, t, kd, fz, c, h3, h4⟩
    · exact .inl h2
    · exact .inr ⟨Nat.lt_of_lt_of_le h2 e.n, t, kd, fz, c, by rw [e.g _ h2]; exact h3, h4⟩
theorem TurnsR.len {A : Mem} {us : List TurnD} {x : Value} (h : TurnsR A us x) : builtinPF tb1 .len [57] [x] = .ok (.int .i64 ((us.length : Nat) : Int)) := by
  rcases h with ⟨rfl, rfl⟩ | ⟨p, off, cp, rfl, -⟩ <;> exact len_slc und57
theorem TurnsR.at {A : Mem} {us : List TurnD} {x : Value} (h : TurnsR A us x) {i : Nat} (hi : i < us.length) :
    ∃ p, indexAddrF tb1 57 x (.int .i64 (i : Int)) = .ok (.pointer (some p)) ∧ loadF tb1 A.get 60 (.pointer (some p)) = .ok (turnV us[i]) := by
  rcases h with ⟨-, rfl⟩ | ⟨p, off, cp, rfl, h2⟩
  · simp at hi
  · rcases h2 with rfl | ⟨h2, t, kd, fz, c, h3, h4⟩
    · simp at hi
    · obtain ⟨c0, c1, c2, c3⟩ := h4 i us[i] (List.getElem?_eq_getElem hi)
      obtain ⟨d60, hd1, hd2⟩ := und60
      have hb : Nat.blt i us.length = true := by rw [Nat.blt_eq]; exact hi
      have hn : natV (.int .i64 (i : Int)) = .ok i := rfl
      refine ⟨⟨p, off + i * 4, none⟩, ?_, ?_⟩
      · unfold indexAddrF
        simp only [hn, und57, hb, cond_true, size60, R.ok_bind, addA]
      · have hgs : c.gets 4 (off + i * 4) = some [.int .u8 (us[i].what : Int), .int .u8 (us[i].at_ : Int), .int .i16 us[i].n, strOf us[i].w] := gets_eq _ _ _ _ rfl fun j hj => by
          have : j = 0 ∨ j = 1 ∨ j = 2 ∨ j = 3 := by omega
          rcases this with rfl | rfl | rfl | rfl
          · exact c0
          · exact c1
          · exact c2
          · exact c3
        unfold loadF
        simp only [h3, hd1, hd2, cond_true, size60, R.ok_bind, hgs]
        rfl
theorem setC_parse (b : List UInt8) : SetC 0 (setD b) := by
  have i0 := nx_lt b
  have i1 := nx_lt b.tail
  have i2 := nx_lt b.tail.tail
  have i3 := nx_lt b.tail.tail.tail
  refine { wal := ?_, fan := ?_, quota := ?_, len := setD_len b, acts := fun d hd => ?_ }
  · show -1000000 ≤ ((1 + nx b : Nat) : Int) ∧ ((1 + nx b : Nat) : Int) ≤ 1000000; omega
  · show -1000000 ≤ ((2 + nx b.tail % 8 : Nat) : Int) ∧ ((2 + nx b.tail % 8 : Nat) : Int) ≤ 1000000; omega
  · show -1000000 ≤ ((nx b.tail.tail + 256 * nx b.tail.tail.tail : Nat) : Int) ∧ ((nx b.tail.tail + 256 * nx b.tail.tail.tail : Nat) : Int) ≤ 1000000; omega
  · obtain ⟨e, he, rfl⟩ := List.mem_map.1 hd
    have k := actsD_ok2 60 (restD b) e he
    have k0 := k.ok
    have a1 := k0.kind
    have a2 := k0.arm
    have a3 := k0.k1
    have a4 := k0.k2
    have a5 := k0.n1
    have a6 := k0.n2
    refine { kind := ?_, k := ?_, n := ?_, arm := ?_, weight := ?_, word := ?_, stays := ?_, svals := ?_, opening := ?_, oarm := fun o ho => ?_, olen := fun o ho => ?_, ovals := fun o ho => ?_ }
    · show -100000 ≤ ((e.kind : Nat) : Int) ∧ ((e.kind : Nat) : Int) ≤ 100000; omega
    · show -100000 ≤ e.k ∧ e.k ≤ 100000; omega
    · show -100000 ≤ e.n ∧ e.n ≤ 100000; omega
    · show -100000 ≤ ((e.arm : Nat) : Int) ∧ ((e.arm : Nat) : Int) ≤ 100000; omega
    · show e.weight < 4294967296
      cases hw : weighs e.kind with
      | true => rcases k.w1 hw with h | h <;> omega
      | false => rw [k.w0 hw]; omega
    · show e.word.length ≤ 1000; have := k0.word; omega
    · show e.stays.length ≤ 10 + 2 * 0; have := k0.stays; omega
    · intro v hv
      rcases k.stays v hv with h | h <;> omega
    · show (e.opening.map opToG).length ≤ 4 + 0; rw [List.length_map]; have := k0.opening; omega
    · obtain ⟨o', ho', rfl⟩ := List.mem_map.1 ho
      obtain ⟨f1, f2, f3⟩ := k0.each o' ho'
      show -100000 ≤ ((o'.1 : Nat) : Int) ∧ ((o'.1 : Nat) : Int) ≤ 100000; omega
    · obtain ⟨o', ho', rfl⟩ := List.mem_map.1 ho
      obtain ⟨f1, f2, f3⟩ := k0.each o' ho'
      show o'.2.length ≤ 100; omega
    · obtain ⟨o', ho', rfl⟩ := List.mem_map.1 ho
      intro v hv
      rcases k.opening o' ho' v hv with h | h <;> omega
noncomputable def c6 : Code := Try.f6.body.getD .skip
noncomputable def c6b1 : Code := sub c6 [1,1,1,0,1,0,0]
theorem c6_eq : Try.f6.body = some (.seq (sub c6 [0]) (.seq (sub c6 [1,0]) (.seq (sub c6 [1,1,0]) (.seq (.seq (sub c6 [1,1,1,0,0]) (.block 0 (.loop c6b1))) (.seq (sub c6 [1,1,1,1,0]) (sub c6 [1,1,1,1,1])))))) := by kernel_rfl
theorem c6b1_eq : c6b1 = .seq (.seq (sub c6b1 [0,0]) (.cond (.tmp 27) .skip (.exit 0))) (.seq (.block 1 (.seq (sub c6b1 [1,0,0,0]) (.seq (sub c6b1 [1,0,0,1,0]) (.seq (sub c6b1 [1,0,0,1,1,0]) (.seq (sub c6b1 [1,0,0,1,1,1,0]) (.cond (.tmp 67) (sub c6b1 [1,0,0,1,1,1,1,0]) .skip)))))) (sub c6b1 [1,1])) := by kernel_rfl
theorem rOp_conv2 (t : T Value) (g : Nat → Option Ob) (s d : TypeId) (x : Operand) : rOp tb1 t g (.convert s d x) = (ev t x).bind fun x => convRF tb1 g s d x := rfl
def lyS (x1 : Value) (bF bS i : Nat) : List (Nat × Value) := [(1, x1), (5, .pointer (some ⟨bF, 0, none⟩)), (7, .pointer (some ⟨bS, 0, none⟩)), (8, .int .i64 (i : Int))]
set_option maxHeartbeats 32000000 in
/-- A turn of the loop: what is turned is laid alike by both, and is like the first just if both say so. -/
theorem lays_round {us : List TurnD} (hus : ∀ u ∈ us, (-40000 ≤ u.n ∧ u.n ≤ 40000) ∧ u.what < 256 ∧ u.at_ < 256 ∧ u.w.length < 9223372036854775808) {A D : Mem} {x1 : Value} {bF bS i : Nat} {s0 s : SetG} {lF l : List Value} {t : T Value} {K : Ex → St → Prop}
    (hi : i < us.length) (hi3 : i < 3) (hA0 : 0 < A.next) (ht : TurnsR A us x1) (hE : Ext A D) (hF : A.next ≤ bF) (hS : A.next ≤ bS) (hFS : bF ≠ bS) (hFl : bF < D.next) (hSl : bS < D.next) (vF : Vals D 28 bF (.var 4) lF) (vS : Vals D 28 bS (.var 4) l) (h0 : SetR D s0 lF) (hs : SetR D s l) (hC0 : SetC 0 s0) (hC : SetC i s) (hp : Sl t (lyS x1 bF bS i))
    (hK : ∀ t' D' l' s', Ext A D' → D.next ≤ D'.next → Vals D' 28 bF (.var 4) lF → Vals D' 28 bS (.var 4) l' → SetR D' s0 lF → SetR D' s' l' → SetC (i + 1) s' → Sl t' (lyS x1 bF bS i) → K .nrm ⟨t', 69, [], D', none⟩) :
    W tb1 (.seq (sub c6b1 [1,0,0,0]) (.seq (sub c6b1 [1,0,0,1,0]) (.seq (sub c6b1 [1,0,0,1,1,0]) (.seq (sub c6b1 [1,0,0,1,1,1,0]) (.cond (.tmp 67) (sub c6b1 [1,0,0,1,1,1,1,0]) .skip))))) ⟨t, 69, [], D, none⟩ K := by
  obtain ⟨g1, g5, g7, g8, -⟩ := hp
  obtain ⟨d28, hd1, hd2⟩ := und28
  obtain ⟨b1, b2, b3, b4⟩ := hus us[i] (List.getElem_mem hi)
  obtain ⟨p, ip, lp⟩ := (ht.ext hE).at hi
  have hAD := hE.n
  have lS := Go.Am.load_all (tb := tb1) (t := 28) hd1 hd2 (by rw [size28, hs.cells.1]) vS
  obtain ⟨l2, D1, s2, ⟨ga, hga⟩, hs2, hC2, e1⟩ := run_turned (r := i) b1 b2 b3 b4 (by omega) hs hC
  have hl2 := hs2.cells
  have n1 := e1.n
  obtain ⟨D2, st1, vS2, n2, f2⟩ := store_all (tb := tb1) (t := 28) (l' := l2) (by rw [size28, hs.cells.1]) (vS.same (e1.g _ hSl)) (by rw [hl2.1, hs.cells.1]) (by intro e; have := hs.cells.1; rw [e] at this; cases this) hl2.2
  have hs2' : SetR D2 s2 l2 := setR_other (vS.same (e1.g _ hSl)) (by omega) f2 hs2
  have h02 : SetR D2 s0 lF := setR_other (vS.same (e1.g _ hSl)) (by omega) f2 (h0.ext e1)
  have vF2 : Vals D2 28 bF (.var 4) lF := (vF.same (e1.g _ hFl)).same (f2 _ hFS)
  have EA2 : Ext A D2 := ⟨by omega, fun y hy => by rw [f2 y (by omega), e1.g y (by omega), hE.g y hy]⟩
  have hB : SetB s2 := (hC2.mono (by omega)).toB
  -- laid by the program
  obtain ⟨x, D3, ⟨gb, hgb⟩, e3, hx1, hx2⟩ := run_putSG hs2' hB
  have hs3 := hs2'.ext e3
  -- and by the document
  obtain ⟨la, D4, ⟨gc, hgc⟩, hTa, e4⟩ := run_as hs3
  have n3 := e3.n
  have n4 := e4.n
  obtain ⟨y, D5, ⟨gd, hgd⟩, e5, hy1, hy2⟩ := run_rPut hTa (by omega) (fun d hd => (hC2.acts d hd).word)
  have n5 := e5.n
  obtain ⟨bx, hbx⟩ : ∃ bx, Slc D5 5 bx (byts (if putSOk s2 = true then headG s2 ++ encGs s2.acts else [])) x := by
    cases hok : putSOk s2 with
    | true =>
      obtain ⟨bx, h⟩ := hx1 hok
      exact ⟨bx, h.same (by omega) (fun hl => by rw [e5.g _ (by omega), e4.g _ hl])⟩
    | false => rw [hx2 hok]; exact ⟨0, nil_slc _ _ _⟩
  obtain ⟨bY, hbY⟩ : ∃ bY, Slc D5 5 bY (byts (if putSOk s2 = true then headG s2 ++ encGs s2.acts else [])) y := by
    cases hok : putSOk s2 with
    | true => obtain ⟨-, bY, -, h⟩ := hy1 hok; exact ⟨bY, h⟩
    | false => rw [hy2 hok]; exact ⟨0, nil_slc _ _ _⟩
  have cx := slc_str (tb := tb1) (s := 22) (d := 9) und22 und9 und5 hbx
  have cy := slc_str (tb := tb1) (s := 22) (d := 9) und22 und9 und5 hbY
  obtain ⟨code, hcode⟩ : ∃ code, (if putSOk s2 = true then 0 else 2 : Nat) = code := ⟨_, rfl⟩
  rw [hcode] at hgb hgd
  have e25 := (e3.trans e4).trans e5
  -- whether both are alike
  have hs5 := hs2'.ext e25
  have h05 := h02.ext e25
  obtain ⟨D6, ⟨ge, hge⟩, e6⟩ := run_same hs5 h05
  obtain ⟨la2, D7, ⟨gf, hgf⟩, hTa2, e7⟩ := run_as (hs5.ext e6)
  obtain ⟨lb, D8, ⟨gg, hgg⟩, hTb, e8⟩ := run_as ((h05.ext e6).ext e7)
  obtain ⟨D9, ⟨gh, hgh⟩, e9⟩ := run_rsame (SetP.ext hTa2 e8) hTb
  have m0 : ∀ {M : Mem}, Ext D2 M → loadF tb1 M.get 28 (.pointer (some ⟨bS, 0, none⟩)) = .ok (.agg ⟨l2⟩) := fun e => Go.Am.load_all (tb := tb1) (t := 28) hd1 hd2 (by rw [size28, hl2.1]) (vS2.same (e.g _ (by omega)))
  have m1 : ∀ {M : Mem}, Ext D2 M → loadF tb1 M.get 28 (.pointer (some ⟨bF, 0, none⟩)) = .ok (.agg ⟨lF⟩) := fun e => Go.Am.load_all (tb := tb1) (t := 28) hd1 hd2 (by rw [size28, h0.cells.1]) (vF2.same (e.g _ (by omega)))
  have r2 := m0 (Ext.refl D2)
  have r3 := m0 e3
  have r5 := m0 e25
  have r6 := m0 (e25.trans e6)
  have q5 := m1 e25
  have q6 := m1 (e25.trans e6)
  have q7 := m1 ((e25.trans e6).trans e7)
  have hbn : ∀ c : Bool, binF .neq (tb1.und 4) (.bool c) (.bool c) = .ok (.bool false) := fun c => by rw [und4, bool_neq]; simp
  have self2 := hs5.self
  have self0 := h05.self
  have e29 := (((e25.trans e6).trans e7).trans e8).trans e9
  apply W.seq
  apply W.runG (ga) 20
  · intro M hM
    simp (config := { maxSteps := 4000000 }) (disch := first | decide +kernel | omega) only [c6b1, c6, Try.f6, Option.getD_some, sub_seq1, sub_seq0, sub_block, sub_loop, sub_nil, exec_draw, runOps_cons, opF_move, ev_tmp, g1, evG_some, putT_some, T.get_set, Nat.reduceEqDiff, g8, if_false, opF_indexAddr, if_true, opF_load, g7, opF_call, evs, R.ok_bind, resK, opF_store, putT_none, runOps_nil, lS, ip, lp, hga, st1]
    with_reducible rfl
  apply W.seq
  apply W.runG (gb) 20
  · intro M hM
    simp (config := { maxSteps := 4000000 }) (disch := first | decide +kernel | omega) only [c6b1, c6, Try.f6, Option.getD_some, sub_seq1, sub_seq0, sub_block, sub_loop, sub_nil, exec_region, runOps_cons, opF_load, ev_tmp, T.get_set, Nat.reduceEqDiff, g7, if_false, evG_some, putT_some, opF_call, evs, if_true, R.ok_bind, resK, opF_move, opF_extract, extractF, opF_assign, runOps_nil, r2, hgb, List.getElem?_cons_zero, List.getElem?_cons_succ]
    with_reducible rfl
  apply W.seq
  apply W.runG ((gc+gd)) 20
  · intro M hM
    simp (config := { maxSteps := 4000000 }) (disch := first | decide +kernel | omega) only [c6b1, c6, Try.f6, Option.getD_some, sub_seq1, sub_seq0, sub_block, sub_loop, sub_nil, exec_region, runOps_cons, opF_load, ev_tmp, T.get_set, Nat.reduceEqDiff, g7, if_false, evG_some, putT_some, opF_call, evs, if_true, R.ok_bind, resK, opF_move, opF_extract, extractF, opF_assign, runOps_nil, r3, hgc, hgd, List.getElem?_cons_zero, List.getElem?_cons_succ]
    with_reducible rfl
  apply W.seq
  apply W.runG ((ge+gf+gg+gh)) 20
  · intro M hM
    simp (config := { maxSteps := 4000000 }) (disch := first | decide +kernel | (rw [wantF_guard]; simp only [wantD_some, dstAt_zero, dstAt_succ, T.get_set, T.get_e, Nat.reduceEqDiff, if_true, if_false, wantV_bool, wantV_unit, unitV, cond_true, cond_false, Bool.not_true, Bool.not_false, List.toList_toArray]) | omega) only [c6b1, c6, Try.f6, Option.getD_some, sub_seq1, sub_seq0, sub_block, sub_loop, sub_nil, exec_float [(14, 13), (16, 13), (16, 15)], runD_P, Nat.reduceAdd, opF_move, ev_tmp, T.get_set, Nat.reduceEqDiff, if_false, if_true, evG_some, putT_some, runD_Rd, rOp_conv2, R.ok_bind, selF_nil, rereadM_nil, opF_neq, cond_true, cy, cx, binF_str, str_neq, ne_eq, not_true_eq_false, decide_false, runD_gP, opF_pick, pickF, ev_bool, binF_int, op_neq, runD_gRd, rOp_load, g7, r5, g5, q5, runD_gL, List.map_nil, hide_nil, backF_nil, selR_no, selR_nil, rereadR_nil, opF_call, evs, resK, selF_yes, rereadM_cons, reread_load, rereadV_eq, Bool.and_true, runD_end, hge, r6, q6, Bool.and_self, self2, hgf, q7, self0, hgg, hgh, hbn]
    with_reducible rfl
  refine W.cond (p := false) (by simp only [ev_tmp, T.get_set, if_true, evG_some]) (fun h => by cases h) (fun _ => ?_)
  apply W.run 20
  · intro M
    simp (config := { maxSteps := 4000000 }) (disch := first | decide +kernel | omega) only [exec_skip]
    with_reducible rfl
  refine hK _ D9 l2 s2 (EA2.trans e29) (by have := e29.n; omega) (vF2.same (e29.g _ (by omega))) (vS2.same (e29.g _ (by omega))) (h02.ext e29) (hs2'.ext e29) hC2 ?_
  · unfold lyS; simp only [Sl_cons, Sl_nil, T.get_set, T.puts_cons, T.puts_nil, Nat.reduceEqDiff, Nat.reduceAdd, if_true, if_false, and_true, true_and, g1, g5, g7, g8]
set_option maxHeartbeats 32000000 in
theorem run_scriptLays (l0 : List UInt8) (us : List TurnD) (hus : ∀ u ∈ us, (-40000 ≤ u.n ∧ u.n ≤ 40000) ∧ u.what < 256 ∧ u.at_ < 256 ∧ u.w.length < 9223372036854775808) {A : Mem} {x0 x1 : Value} (hx : RdS q A l0 x0) (ht : TurnsR A us x1) : ∃ A', CallsTo tb1 6 [x0, x1] A (.bool true) A' := by
  obtain ⟨v, A', h1, h2⟩ : ∃ v A', CallsTo tb1 6 [x0, x1] A v A' ∧ v = .bool true := by
    refine call_of_W (fn_at Try.func6) c6_eq (by rw [Try.ntmps6]; simp) ?_
    obtain ⟨x', ⟨g1, hg1⟩, hx'⟩ := run_few (n := 400) hx
    have hbl : (l0.take (min l0.length 400)).length ≤ 400 := by rw [List.length_take]; omega
    generalize l0.take (min l0.length 400) = b at hx' hbl
    have hA0 : 0 < A.next := by have := hx'.1; omega
    obtain ⟨B, xa, lo, ⟨g2, hg2⟩, hA1, hlo, hBn, hBf⟩ := run_parse hx'.1 hx' (by omega)
    have hds := actsD_ok2 60 (restD b)
    have hdl := actsD_len 60 (restD b)
    have hok : ∀ d ∈ (actsD 60 (restD b)).1, ActOk d := fun d hd => (hds d hd).ok
    have EAB : Ext A B := ⟨hBn, hBf⟩
    have hSB : SetR B (setD b) (headC (1 + nx b) (2 + nx b.tail % 8) (nx b.tail.tail + 256 * nx b.tail.tail.tail) xa) := ⟨xa, rfl, hA1.toG (by omega) hok⟩
    generalize headC (1 + nx b) (2 + nx b.tail % 8) (nx b.tail.tail + 256 * nx b.tail.tail.tail) xa = lF at hg2 hSB
    have hC0 := setC_parse b
    generalize setD b = s0 at hSB hC0
    have hc := hSB.cells
    obtain ⟨n, hn⟩ : ∃ n, b.length - (actsD 60 (restD b)).2.length = n := ⟨_, rfl⟩
    rw [hn] at hg2
    obtain ⟨d28, hd1, hd2⟩ := und28
    have v0 : Vals (B.alloc (rowOb 28 [.int .i64 0, .int .i64 0, .int .i64 0, .slice none 0 0])) 28 B.next (.var 4) [.int .i64 0, .int .i64 0, .int .i64 0, .slice none 0 0] := Go.Am.vals_new B 28 _
    have n0 : (B.alloc (rowOb 28 [.int .i64 0, .int .i64 0, .int .i64 0, .slice none 0 0])).next = B.next + 1 := next_alloc _ _
    obtain ⟨C, hst, v1, n1, f1⟩ := store_all (tb := tb1) (t := 28) (l' := lF) (by rw [size28]; rfl) v0 (by rw [hc.1]; rfl) (by simp) hc.2
    have EBC : Ext B C := (Ext.alloc B _).put (b := B.next) (Nat.le_refl _) n1 f1
    have l1 := Go.Am.load_all (tb := tb1) (t := 28) hd1 hd2 (by rw [size28, hc.1]) v1
    have w0 : Vals (C.alloc (rowOb 28 [.int .i64 0, .int .i64 0, .int .i64 0, .slice none 0 0])) 28 C.next (.var 4) [.int .i64 0, .int .i64 0, .int .i64 0, .slice none 0 0] := Go.Am.vals_new C 28 _
    have m0 : (C.alloc (rowOb 28 [.int .i64 0, .int .i64 0, .int .i64 0, .slice none 0 0])).next = C.next + 1 := next_alloc _ _
    obtain ⟨D, hst2, w1, n2, f2⟩ := store_all (tb := tb1) (t := 28) (l' := lF) (by rw [size28]; rfl) w0 (by rw [hc.1]; rfl) (by simp) hc.2
    have ECD : Ext C D := (Ext.alloc C _).put (b := C.next) (Nat.le_refl _) n2 f2
    have hCn := EBC.n
    have EAD := (EAB.trans EBC).trans ECD
    apply W.seq
    apply W.run 20
    · intro M
      simp (config := { maxSteps := 4000000 }) (disch := first | decide +kernel | omega) only [c6, Try.f6, Option.getD_some, sub_seq0, sub_nil, T.puts_cons, Nat.reduceAdd, T.puts_nil, exec_region, runOps_cons, opF_assign, ev_bool, putT_some, runOps_nil, R.ok_bind]
      with_reducible rfl
    apply W.seq
    apply W.runG ((g1+g2)) 20
    · intro M hM
      simp (config := { maxSteps := 4000000 }) (disch := first | decide +kernel | omega) only [c6, Try.f6, Option.getD_some, sub_seq1, sub_seq0, sub_nil, exec_region, runOps_cons, opF_move, ev_tmp, T.get_set, Nat.reduceEqDiff, T.get_e, if_true, if_false, evG_some, putT_some, opF_call, evs, ev_int, R.ok_bind, resK, opF_extract, extractF, opF_alloc, zero28, at_ptr, opF_store, putT_none, opF_assign, runOps_nil, cells_agg, hg1, hg2, List.getElem?_cons_zero, List.getElem?_cons_succ, hst]
      with_reducible rfl
    apply W.seq
    apply W.run 20
    · intro M
      simp (config := { maxSteps := 4000000 }) (disch := first | decide +kernel | omega) only [c6, Try.f6, Option.getD_some, sub_seq1, sub_seq0, sub_nil, exec_region, runOps_cons, opF_load, ev_tmp, T.get_set, Nat.reduceEqDiff, T.get_e, if_false, if_true, evG_some, putT_some, opF_alloc, zero28, at_ptr, opF_store, putT_none, runOps_nil, R.ok_bind, cells_agg, l1, hst2]
      with_reducible rfl
    apply W.seq
    apply W.seq
    apply W.run 20
    · intro M
      simp (config := { maxSteps := 4000000 }) (disch := first | decide +kernel | omega) only [c6, Try.f6, Option.getD_some, sub_seq1, sub_seq0, sub_nil, exec_region, runOps_cons, opF_assign, ev_int, putT_some, runOps_nil, R.ok_bind]
      with_reducible rfl
    apply W.block
    refine W.up (min us.length 3) (fun i t M => ∃ l s, Ext A M ∧ D.next ≤ M.next ∧ Vals M 28 B.next (.var 4) lF ∧ Vals M 28 C.next (.var 4) l ∧ SetR M s0 lF ∧ SetR M s l ∧ SetC i s ∧ Sl t (lyS x1 B.next C.next i)) ?_ (Nat.zero_le _) ⟨lF, s0, EAD, Nat.le_refl _, v1.same (ECD.g _ (by omega)), w1, hSB.ext (EBC.trans ECD), hSB.ext (EBC.trans ECD), hC0, ?_⟩
    · rintro i t M hi ⟨l, s, hE, hMn, vF, vS, h0, hs, hC, hp⟩
      have hp' := hp
      obtain ⟨g1, g5, g7, g8, -⟩ := hp'
      have hlen := ht.len
      rw [c6b1_eq]
      apply W.seq
      apply W.seq
      by_cases hlt : i < us.length
      · by_cases h3 : i < 3
        · apply W.run 20
          · intro M
            simp (config := { maxSteps := 4000000 }) (disch := first | decide +kernel | (rw [wantF_guard]; simp only [wantD_some, dstAt_zero, dstAt_succ, T.get_set, T.get_e, Nat.reduceEqDiff, if_true, if_false, wantV_bool, wantV_unit, unitV, cond_true, cond_false, Bool.not_true, Bool.not_false, List.toList_toArray]) | omega) only [c6b1, c6, Try.f6, Option.getD_some, sub_seq1, sub_seq0, sub_block, sub_loop, sub_nil, exec_region, runOps_cons, opF_move, ev_tmp, g8, evG_some, putT_some, T.get_set, Nat.reduceEqDiff, g1, if_false, opF_len, evs, if_true, R.ok_bind, opF_ari, hlen, binF_int, op_lssI, cast_lt, hlt, decide_true, runOps_yes, ev_int, opF_pick, pickF, ev_bool, runOps_nil, h3]
            with_reducible rfl
          refine W.cond (p := true) (by simp only [ev_tmp, T.get_set, if_true, evG_some]) (fun _ => ?_) (fun h => by cases h)
          apply W.run 20
          · intro M
            simp (config := { maxSteps := 4000000 }) (disch := first | decide +kernel | omega) only [exec_skip]
            with_reducible rfl
          show W tb1 _ _ _
          apply W.seq
          apply W.block
          refine lays_round hus hlt h3 hA0 ht hE (by omega) (by omega) (by omega) (by omega) (by omega) vF vS h0 hs hC0 hC ?_ ?_
          · unfold lyS; simp only [Sl_cons, Sl_nil, T.get_set, T.puts_cons, T.puts_nil, Nat.reduceEqDiff, Nat.reduceAdd, if_true, if_false, and_true, true_and, g1, g5, g7, g8]
          rintro t' M' l' s' hE' hMn' vF' vS' h0' hs' hC' ⟨q1, q5, q7, q8, -⟩
          show W tb1 _ _ _
          apply W.run 20
          · intro M
            simp (config := { maxSteps := 4000000 }) (disch := first | decide +kernel | omega) only [c6b1, c6, Try.f6, Option.getD_some, sub_seq1, sub_seq0, sub_block, sub_loop, sub_nil, exec_region, runOps_cons, opF_move, ev_tmp, q8, evG_some, putT_some, opF_ari, T.get_set, if_true, ev_int, opF_assign, Nat.reduceEqDiff, if_false, runOps_nil, R.ok_bind, binF_int, op_add_i64]
            with_reducible rfl
          refine ⟨by omega, _, _, rfl, l', s', hE', by omega, vF', vS', h0', hs', hC', ?_⟩
          unfold lyS; simp only [Sl_cons, Sl_nil, T.get_set, T.puts_cons, T.puts_nil, Nat.reduceEqDiff, Nat.reduceAdd, if_true, if_false, and_true, true_and, q1, q5, q7]
        · apply W.run 20
          · intro M
            simp (config := { maxSteps := 4000000 }) (disch := first | decide +kernel | (rw [wantF_guard]; simp only [wantD_some, dstAt_zero, dstAt_succ, T.get_set, T.get_e, Nat.reduceEqDiff, if_true, if_false, wantV_bool, wantV_unit, unitV, cond_true, cond_false, Bool.not_true, Bool.not_false, List.toList_toArray]) | omega) only [c6b1, c6, Try.f6, Option.getD_some, sub_seq1, sub_seq0, sub_block, sub_loop, sub_nil, exec_region, runOps_cons, opF_move, ev_tmp, g8, evG_some, putT_some, T.get_set, Nat.reduceEqDiff, g1, if_false, opF_len, evs, if_true, R.ok_bind, opF_ari, hlen, binF_int, op_lssI, cast_lt, hlt, decide_true, runOps_yes, ev_int, opF_pick, pickF, ev_bool, runOps_nil, h3, decide_false]
            with_reducible rfl
          refine W.cond (p := false) (by simp only [ev_tmp, T.get_set, if_true, evG_some]) (fun h => by cases h) (fun _ => ?_)
          apply W.run 20
          · intro M
            simp (config := { maxSteps := 4000000 }) (disch := first | decide +kernel | omega) only [exec_exit]
            with_reducible rfl
          show W tb1 _ _ _
          apply W.seq
          apply W.run 20
          · intro M
            simp (config := { maxSteps := 4000000 }) (disch := first | decide +kernel | omega) only [c6, Try.f6, Option.getD_some, sub_seq1, sub_seq0, sub_nil, exec_region, runOps_cons, opF_call, evs, resK, putT_some, opF_assign, ev_tmp, T.get_set, Nat.reduceEqDiff, if_false, if_true, evG_some, runOps_nil, R.ok_bind, k8]
            with_reducible rfl
          apply W.run 20
          · intro M
            simp (config := { maxSteps := 4000000 }) (disch := first | decide +kernel | omega) only [c6, Try.f6, Option.getD_some, sub_seq1, sub_nil, exec_ret]
            with_reducible rfl
          refine ⟨.inr rfl, _, [.bool true], rfl, ?_, rfl⟩
          simp only [Try.f6, resF, ev_tmp, T.get_set, Nat.reduceEqDiff, if_true, if_false, evG_some, R.ok_bind]
      · apply W.run 20
        · intro M
          simp (config := { maxSteps := 4000000 }) (disch := first | decide +kernel | (rw [wantF_guard]; simp only [wantD_some, dstAt_zero, dstAt_succ, T.get_set, T.get_e, Nat.reduceEqDiff, if_true, if_false, wantV_bool, wantV_unit, unitV, cond_true, cond_false, Bool.not_true, Bool.not_false, List.toList_toArray]) | omega) only [c6b1, c6, Try.f6, Option.getD_some, sub_seq1, sub_seq0, sub_block, sub_loop, sub_nil, exec_region, runOps_cons, opF_move, ev_tmp, g8, evG_some, putT_some, T.get_set, Nat.reduceEqDiff, g1, if_false, opF_len, evs, if_true, R.ok_bind, opF_ari, hlen, binF_int, op_lssI, cast_lt, hlt, decide_false, runOps_no, opF_pick, pickF, ev_bool, runOps_nil]
          with_reducible rfl
        refine W.cond (p := false) (by simp only [ev_tmp, T.get_set, if_true, evG_some]) (fun h => by cases h) (fun _ => ?_)
        apply W.run 20
        · intro M
          simp (config := { maxSteps := 4000000 }) (disch := first | decide +kernel | omega) only [exec_exit]
          with_reducible rfl
        show W tb1 _ _ _
        apply W.seq
        apply W.run 20
        · intro M
          simp (config := { maxSteps := 4000000 }) (disch := first | decide +kernel | omega) only [c6, Try.f6, Option.getD_some, sub_seq1, sub_seq0, sub_nil, exec_region, runOps_cons, opF_call, evs, resK, putT_some, opF_assign, ev_tmp, T.get_set, Nat.reduceEqDiff, if_false, if_true, evG_some, runOps_nil, R.ok_bind, k8]
          with_reducible rfl
        apply W.run 20
        · intro M
          simp (config := { maxSteps := 4000000 }) (disch := first | decide +kernel | omega) only [c6, Try.f6, Option.getD_some, sub_seq1, sub_nil, exec_ret]
          with_reducible rfl
        refine ⟨.inr rfl, _, [.bool true], rfl, ?_, rfl⟩
        simp only [Try.f6, resF, ev_tmp, T.get_set, Nat.reduceEqDiff, if_true, if_false, evG_some, R.ok_bind]
    · unfold lyS; simp only [Sl_cons, Sl_nil, T.get_set, T.puts_cons, T.puts_nil, Nat.reduceEqDiff, Nat.reduceAdd, if_true, if_false, and_true, true_and]
  subst h2
  exact ⟨A', h1⟩
end Go.Proofs.Ytmhldlnlgjpkaaa.scr

namespace Go.Proofs.Ytmhldlnlgjpkaaa.scriptLays
open Go.ChangeShapes Go.WideShapes Go.ChangeAt Go.RowKit Go.Deep Go.Am
open Go.ChangeMaps (open_string shut_string)
set_option linter.unusedVariables false

theorem own : ownKnob Try.prog.godebug = none := by kernel_rfl
theorem laidOut : laidOutB Try.prog = true := by kernel_rfl

/-- A slice of integers that came in. -/
def IsRow (k : IntKind) (w : World) (a : Option Addr) (len cap : Nat) (zs : List Int) : Prop := ParW k w a len cap zs ∧ ∀ n ∈ zs, (Lit.int k n).wf = true
theorem slice_has {P : Program} {w : World} {base : Nat} {t e : TypeId} {x : Addr} {len cap : Nat} (ht : P.underlying t = some (.slice e)) (h : Value.okWide P w .any base t (.slice (some x) len cap)) : x.spot = none ∧ x.block < w.heap.size := by
  simp only [Value.okWide, Cell.okWide, Cell.ok, ht] at h
  obtain ⟨_, _, _, hsp, row, cells, hsh, _⟩ := h
  refine ⟨hsp, ?_⟩
  unfold World.shape? at hsh
  split at hsh
  · rename_i h2
    exact (Array.getElem?_eq_some_iff.1 h2).1
  · cases hsh
section
variable {H : Type} {enc : TypeId × Value → H} {P : Program} {w : World} {base : Nat} {spare : Nat → Bool} {held : Bool}
theorem open_slice_fields {t e : TypeId} {fs : Array Field} {fuel : Nat} {cs : List Value} {x : DataW H × List MemPlace} (ht : P.underlying t = some (.slice e)) (he : P.underlying e = some (.struct fs))
    (hone : oneCellFields P fs = true) (hC : P.cellsOf e = fs.size) (h : DataW.trod enc P w base spare held fuel t cs = some x) :
    (cs = [.slice none 0 0] ∧ x = (.nil, [])) ∨
    ∃ (a : Addr) (len cap m : Nat), cs = [.slice (some a) len cap] ∧ len ≤ cap ∧ cap ≤ maxLen ∧ m = (if spare a.block then cap else len) ∧
      ∀ i, i < m → ∃ (n : Nat), ∀ (j : Nat) (f : Field), fs[j]? = some f → ∃ (v : Value) (y : DataW H × List MemPlace), w.cell? (a.add (i * fs.size + j)) = some v ∧ DataW.trod enc P w base spare held n f.type [v] = some y := by
  rcases open_slice ht h with h0 | ⟨a, len, cap, m, n, D, Pl, hcs, hb, hl, hm, hmm, hx, hi⟩
  · exact .inl h0
  · refine .inr ⟨a, len, cap, m, hcs, hl, hm, hmm, fun i him => ?_⟩
    obtain ⟨cs', hc, ht'⟩ := hi i him
    rw [hC] at hc
    obtain ⟨ys, n', hn', hy, hlen, hyl, hf⟩ := DataW.trod_struct he ht'
    obtain ⟨_, hcl, hat⟩ := World.cells?_some hc
    refine ⟨n', fun j f hj => ?_⟩
    obtain ⟨ho, hk⟩ := hone_of hone j f hj
    have hjl : j < fs.size := (Array.getElem?_eq_some_iff.1 hj).1
    have hcell := hat j hjl
    have hv : cs'[j]? = some (cs'[j]'(by omega)) := List.getElem?_eq_getElem (by omega)
    have h1 := hf j f hj
    rw [ho, hk] at h1
    have hone' : (cs'.drop j).take 1 = [cs'[j]'(by omega)] := by
      rw [List.drop_eq_getElem_cons (by omega)]
      rfl
    rw [hone'] at h1
    have hys : ys[j]? = some (ys[j]'(by omega)) := List.getElem?_eq_getElem (by omega)
    refine ⟨_, _, ?_, h1.trans hys⟩
    rw [← Go.Deep.add_add, hcell, hv]
end
/-- What the cells of the turns say. -/
def TurnVs (us : List scr.TurnD) (vs : List Value) : Prop :=
  (∀ (i : Nat) (u : scr.TurnD), us[i]? = some u → vs[i * 4]? = some (.int .u8 (u.what : Int)) ∧ vs[i * 4 + 1]? = some (.int .u8 (u.at_ : Int)) ∧ vs[i * 4 + 2]? = some (.int .i16 u.n) ∧ vs[i * 4 + 3]? = some (strOf u.w)) ∧
  ∀ u ∈ us, (-40000 ≤ u.n ∧ u.n ≤ 40000) ∧ u.what < 256 ∧ u.at_ < 256 ∧ u.w.length < 9223372036854775808
theorem turns_of {A : Mem} {us : List scr.TurnD} {vs : List Value} {len : Nat} {x : Value} (hl : us.length = len) (hu : TurnVs us vs) (h : ParG A 4 len vs x) : scr.TurnsR A us x := by
  rcases h with ⟨rfl, h⟩ | ⟨q, off, rfl, hq, h⟩
  · left
    exact ⟨rfl, List.length_eq_zero_iff.1 (by omega)⟩
  · right
    refine ⟨q, off, _, by rw [hl], ?_⟩
    rcases h with h | ⟨t, fz, c, h1, h2⟩
    · exact .inl (List.length_eq_zero_iff.1 (by omega))
    · refine .inr ⟨hq, t, _, fz, c, h1, fun i u hi => ?_⟩
      have hil := (List.getElem?_eq_some_iff.1 hi).1
      obtain ⟨k0, k1, k2, k3⟩ := hu.1 i u hi
      have get : ∀ {j : Nat} {v : Value}, j < 4 → vs[i * 4 + j]? = some v → c.get (off + (i * 4 + j)) = some v := fun {j v} hj hv => by
        obtain ⟨v', e1, e2⟩ := h2 (i * 4 + j) (by omega)
        rw [hv] at e1
        cases e1
        exact e2
      have g0 := get (j := 0) (by omega) k0
      have g1 := get (j := 1) (by omega) k1
      have g2 := get (j := 2) (by omega) k2
      have g3 := get (j := 3) (by omega) k3
      simp only [Nat.add_zero, ← Nat.add_assoc] at g0 g1 g2 g3
      exact ⟨g0, g1, g2, g3⟩
theorem byte_eq {x : Int} (h : (Lit.int .u8 x).wf = true) : Value.int .u8 x = .int .u8 ((x.toNat : Nat) : Int) ∧ x.toNat < 256 := by
  obtain ⟨h0, h1⟩ := bounds_u8 h
  rw [Int.toNat_of_nonneg h0]
  exact ⟨rfl, by omega⟩
theorem short_eq {x : Int} (h : (Lit.int .i16 x).wf = true) : -40000 ≤ x ∧ x ≤ 40000 := by
  simp [Lit.wf, IntKind.min, IntKind.max, IntKind.signed, IntKind.bits] at h
  omega
/-- The turns, out of the model's memory. -/
theorem turns_in {w : World} {a : Addr} {len cap : Nat} (hl : len ≤ cap) (hm : cap ≤ maxLen) (hsp : a.spot = none) (hb : a.block < w.heap.size)
    (h : ∀ i, i < cap → ∃ (x1 x2 x3 : Int) (s : ByteArray), ((Lit.int .u8 x1).wf = true ∧ (Lit.int .u8 x2).wf = true ∧ (Lit.int .i16 x3).wf = true ∧ s.size ≤ maxLen) ∧ w.cell? (a.add (i * 4)) = some (.int .u8 x1) ∧ w.cell? (a.add (i * 4 + 1)) = some (.int .u8 x2) ∧ w.cell? (a.add (i * 4 + 2)) = some (.int .i16 x3) ∧ w.cell? (a.add (i * 4 + 3)) = some (.string s)) :
    ∃ us vs, us.length = len ∧ TurnVs us vs ∧ ParWs w 4 (some a) len cap vs := by
  obtain ⟨f, hf⟩ := Classical.axiomOfChoice (r := fun (i : Nat) (y : Int × Int × Int × ByteArray) => i < cap → ((Lit.int .u8 y.1).wf = true ∧ (Lit.int .u8 y.2.1).wf = true ∧ (Lit.int .i16 y.2.2.1).wf = true ∧ y.2.2.2.size ≤ maxLen) ∧ w.cell? (a.add (i * 4)) = some (.int .u8 y.1) ∧ w.cell? (a.add (i * 4 + 1)) = some (.int .u8 y.2.1) ∧ w.cell? (a.add (i * 4 + 2)) = some (.int .i16 y.2.2.1) ∧ w.cell? (a.add (i * 4 + 3)) = some (.string y.2.2.2)) (fun i => by
    by_cases hi : i < cap
    · obtain ⟨x1, x2, x3, s, hh⟩ := h i hi
      exact ⟨(x1, x2, x3, s), fun _ => hh⟩
    · exact ⟨(0, 0, 0, ByteArray.empty), fun h => absurd h hi⟩)
  have hlen4 : ∀ l ∈ (List.range cap).map (fun i => [Value.int .u8 (f i).1, .int .u8 (f i).2.1, .int .i16 (f i).2.2.1, .string (f i).2.2.2]), l.length = 4 := fun l hl => by
    obtain ⟨i, -, rfl⟩ := List.mem_map.1 hl
    rfl
  have hget : ∀ {i j : Nat}, i < cap → j < 4 → ((List.range cap).map (fun i => [Value.int .u8 (f i).1, .int .u8 (f i).2.1, .int .i16 (f i).2.2.1, .string (f i).2.2.2])).flatten[i * 4 + j]? = [Value.int .u8 (f i).1, .int .u8 (f i).2.1, .int .i16 (f i).2.2.1, .string (f i).2.2.2][j]? := fun {i j} hi hj =>
    flat_get hlen4 (by rw [List.getElem?_map, List.getElem?_range hi]; rfl) hj
  refine ⟨(List.range len).map fun i => ⟨(f i).1.toNat, (f i).2.1.toNat, (f i).2.2.1, (f i).2.2.2.data.toList⟩, _, by simp, ⟨fun i u hi => ?_, fun u hu => ?_⟩, .inr ⟨a, rfl, hsp, hb, hl, Nat.lt_of_le_of_lt hm (by decide), by rw [flat_len hlen4]; simp, fun i v hi => ?_, fun v hv => ?_⟩⟩
  · have hil : i < len := by have := (List.getElem?_eq_some_iff.1 hi).1; simpa using this
    rw [List.getElem?_map, List.getElem?_range hil] at hi
    simp only [Option.map_some, Option.some.injEq] at hi
    subst hi
    obtain ⟨⟨w1, w2, w3, w4⟩, -⟩ := hf i (by omega)
    have q0 := hget (j := 0) (show i < cap by omega) (by omega)
    have q1 := hget (j := 1) (show i < cap by omega) (by omega)
    have q2 := hget (j := 2) (show i < cap by omega) (by omega)
    have q3 := hget (j := 3) (show i < cap by omega) (by omega)
    rw [Nat.add_zero] at q0
    refine ⟨q0.trans ?_, q1.trans ?_, q2, q3⟩
    · show some (Value.int .u8 (f i).1) = _
      rw [(byte_eq w1).1]
    · show some (Value.int .u8 (f i).2.1) = _
      rw [(byte_eq w2).1]
  · obtain ⟨i, hi, rfl⟩ := List.mem_map.1 hu
    have hil := List.mem_range.1 hi
    obtain ⟨⟨w1, w2, w3, w4⟩, -⟩ := hf i (by omega)
    refine ⟨short_eq w3, (byte_eq w1).2, (byte_eq w2).2, Nat.lt_of_le_of_lt w4 (by decide)⟩
  · have hiv := (List.getElem?_eq_some_iff.1 hi).1
    rw [flat_len hlen4, List.length_map, List.length_range] at hiv
    have hi4 : i / 4 < cap := by omega
    have e : i / 4 * 4 + i % 4 = i := by omega
    have g := hget hi4 (Nat.mod_lt i (show 0 < 4 by omega))
    rw [e, hi] at g
    obtain ⟨-, c0, c1, c2, c3⟩ := hf (i / 4) hi4
    have hj : i % 4 = 0 ∨ i % 4 = 1 ∨ i % 4 = 2 ∨ i % 4 = 3 := by omega
    revert g e c0 c1 c2 c3
    generalize i / 4 = k
    intro e g c0 c1 c2 c3
    rcases hj with hj | hj | hj | hj <;> rw [hj] at g e <;> simp only [List.getElem?_cons_zero, List.getElem?_cons_succ, Option.some.injEq] at g <;> rw [g, ← e]
    · exact c0
    · exact c1
    · exact c2
    · exact c3
  · obtain ⟨l, hl, hv⟩ := List.mem_flatten.1 hv
    obtain ⟨i, -, rfl⟩ := List.mem_map.1 hl
    simp only [List.mem_cons, List.not_mem_nil, or_false] at hv
    rcases hv with rfl | rfl | rfl | rfl <;> rfl

/-! ### The run -/
theorem walk (a0 : Option Addr) (len0 cap0 : Nat) (z0 : List Int) (a1 : Option Addr) (len1 cap1 : Nat) (us : List scr.TurnD) (vs : List Value) (w : World) (w0 : IsRow .u8 w a0 len0 cap0 z0) (h1 : ParWs w 4 a1 len1 cap1 vs) (hl : us.length = len1) (hu : TurnVs us vs) :
    Calls Try.prog 6 #[.slice a0 len0 cap0, .slice a1 len1 cap1] w fun e w' => e = .returned (.bool true) ∧ Below w.heap.size w w' := by
  have h0 := w0.1.toWs
  have hb : ∀ (zs : List Int) (len : Nat), (∀ n ∈ zs, (Lit.int .u8 n).wf = true) → ∀ z ∈ zs.take len, 0 ≤ z ∧ z < 256 := fun zs len h z hz => by
    have := bounds_u8 (h z (List.mem_of_mem_take hz))
    omega
  refine (?_ : Calls Try.prog 6 #[.slice a0 len0 cap0, .slice a1 len1 cap1] w fun e w' => e = .returned (.bool true) ∧ Go.Am.Leaves w w').mono fun e w' h => ⟨h.1, h.2.below⟩
  obtain ⟨x0, v0, p0⟩ := par_one (n := 1) (by omega) h0 (ex := [dumL a0 cap0 1, dumL a1 cap1 4]) (j := 0) rfl
  obtain ⟨x1, v1, p1⟩ := par_one (n := 4) (by omega) h1 (ex := [dumL a0 cap0 1, dumL a1 cap1 4]) (j := 1) rfl
  have hA : 0 < (wMem w [dumL a0 cap0 1, dumL a1 cap1 4].length).next := by show 0 < w.heap.size + 2; omega
  refine all_true scr.tb1_ok [dumL a0 cap0 1, dumL a1 cap1 4] ?_ (scr.fn_at Try.func6) scr.c6_eq (args := [x0, x1]) (.cons v0 (.cons v1 .nil)) ?_
  · intro l hl
    simp only [List.mem_cons, List.not_mem_nil, or_false] at hl
    rcases hl with h | h
    · exact dum_lt h0 h
    · exact dum_lt h1 h
  · obtain ⟨q0, r0⟩ := scr.RdS.of_parG hA (hb z0 len0 w0.2) p0
    exact scr.run_scriptLays _ us hu.2 r0 (turns_of hl hu p1)

/-! ### THE ROW's STEP: WRITTEN OUT: LEAVE IT -/
set_option maxRecDepth 100000 in
theorem lifted (os : Os) (started : os.Started) (H : Type) (enc : TypeId × Value → H) :
    ReturnsInHanded {} Try.checked os 6 .any (Rows.scriptLaysSpec.pre6 enc Try.prog Try.f6 Rows.scriptLaysRow.domain false) (Rows.scriptLaysSpec.post enc Try.prog Try.f6 false true false false) := by
  refine returnsInHanded_of_change (C := Try.checked) own started (by kernel_rfl) Try.func6
    (ChangeSpec.witness6 (enc := enc) (C := Try.checked) false ⟨#[], #[.slice none 0 0, .slice none 0 0], []⟩ 8 (by kernel_rfl) (by kernel_rfl) (by kernel_rfl) (by kernel_rfl)) ?_
  intro W base args ds gs before hval0 hW hcnd _
  have hval : ∀ (j : Nat) t v, Try.f6.params[j]? = some t → args[j]? = some v → Value.okWide Try.prog W .any base t v := hval0
  have hW' := hW
  obtain ⟨p, q, hA0, hV, rfl, hfz, hnd⟩ := hW
  have hA : DataW.TrodAll enc Try.prog W 0 (fun _ => true) true Try.f6.params.toList args.toList ds p := hA0
  rw [Try.params6] at hA hval
  obtain ⟨v0, vs0, d0, ds0, p0, q0, hargs, rfl, rfl, h0, r0⟩ := trodAll_cons hA
  obtain ⟨v1, vs1, d1, ds1, p1, q1, rfl, rfl, rfl, h1, r1⟩ := trodAll_cons r0
  obtain ⟨rfl, rfl, rfl⟩ := trodAll_nil r1
  obtain rfl : args = #[v0, v1] := by cases args; simp_all
  obtain ⟨rfl, rfl⟩ := trodVars_none hV
  obtain ⟨a0, len0, cap0, rfl⟩ := okWide_slice Try.underlying22 (hval 0 22 v0 rfl rfl)
  have k0 := h0
  have lt0 : ∀ x ∈ p0, x.block < W.heap.size := by obtain ⟨m, hm⟩ := k0; exact DataW.trod_lt m _ _ _ hm
  obtain ⟨z0, w0⟩ : ∃ zs, IsRow .u8 W a0 len0 cap0 zs := by
    obtain ⟨fuel, hf⟩ := h0
    rcases open_ints Try.underlying22 Try.underlying5 (by kernel_rfl) hf with ⟨hcs, _⟩ | ⟨x, l, c, zs, hcs, _, hl, hm, hz, _, hcell, hwz⟩
    · simp [Value.cells] at hcs
      obtain ⟨rfl, rfl, rfl⟩ := hcs
      exact ⟨[], .inl ⟨rfl, rfl, rfl, rfl⟩, fun n h => by cases h⟩
    · simp [Value.cells] at hcs
      obtain ⟨rfl, rfl, rfl⟩ := hcs
      exact ⟨zs, .inr ⟨_, rfl, (slice_has Try.underlying22 (hval 0 22 _ rfl rfl)).1, (slice_has Try.underlying22 (hval 0 22 _ rfl rfl)).2, hl, Nat.lt_of_le_of_lt hm (by decide), by simpa using hz, hcell⟩, hwz⟩
  obtain ⟨a1, len1, cap1, rfl⟩ := okWide_slice Try.underlying57 (hval 1 57 v1 rfl rfl)
  have k1 := h1
  have lt1 : ∀ x ∈ p1, x.block < W.heap.size := by obtain ⟨m, hm⟩ := k1; exact DataW.trod_lt m _ _ _ hm
  obtain ⟨us, vs, hul, huv, w1⟩ : ∃ us vs, us.length = len1 ∧ TurnVs us vs ∧ ParWs W 4 a1 len1 cap1 vs := by
    obtain ⟨fuel, hf⟩ := h1
    rcases open_slice_fields Try.underlying57 Try.underlying60 (by kernel_rfl) (by kernel_rfl) hf with ⟨hcs, _⟩ | ⟨x, l, c, m, hcs, hl, hm, hz, hcell⟩
    · simp [Value.cells] at hcs
      obtain ⟨rfl, rfl, rfl⟩ := hcs
      exact ⟨[], [], rfl, ⟨(fun i u hi => by cases hi), (fun u hu => by cases hu)⟩, .inl ⟨rfl, rfl, rfl⟩⟩
    · simp [Value.cells] at hcs
      obtain ⟨rfl, rfl, rfl⟩ := hcs
      simp only [if_true] at hz
      subst hz
      refine turns_in hl hm (slice_has Try.underlying57 (hval 1 57 _ rfl rfl)).1 (slice_has Try.underlying57 (hval 1 57 _ rfl rfl)).2 fun i hi => ?_
      obtain ⟨n, hfi⟩ := hcell i hi
      obtain ⟨u0, y0, e0, t0⟩ := hfi 0 _ rfl
      obtain ⟨u1, y1, e1, t1⟩ := hfi 1 _ rfl
      obtain ⟨u2, y2, e2, t2⟩ := hfi 2 _ rfl
      obtain ⟨u3, y3, e3, t3⟩ := hfi 3 _ rfl
      obtain ⟨m0, c0, -, b0⟩ := DataW.trod_int Try.underlying5 t0
      obtain ⟨m1, c1, -, b1⟩ := DataW.trod_int Try.underlying5 t1
      obtain ⟨m2, c2, -, b2⟩ := DataW.trod_int Try.underlying58 t2
      obtain ⟨s3, c3, -, b3⟩ := DataW.trod_string Try.underlying9 t3
      simp only [List.cons.injEq, and_true] at c0 c1 c2 c3
      subst c0 c1 c2 c3
      exact ⟨m0, m1, m2, s3, ⟨b0, b1, b2, b3⟩, e0, e1, e2, e3⟩
  clear hA0 hval0
  refine (walk a0 len0 cap0 z0 a1 len1 cap1 us vs W w0 w1 hul huv).mono fun e W' ⟨he, bel⟩ => ?_
  subst he
  exact ⟨_, rfl, _, _, _, [], _, [], hW', trodAll_mk1 (shut_bool Try.underlying4 _), (trodAll_cons_mk (Below.trod laidOut (by kernel_rfl) (of_decide_eq_true (by kernel_rfl)) k0 bel lt0) (trodAll_cons_mk (Below.trod laidOut (by kernel_rfl) (of_decide_eq_true (by kernel_rfl)) k1 bel lt1) trodAll_mk0)), rfl, bel.frame _, fun h => by cases h⟩

theorem over : Rows.scriptLaysRow.holds Try.pinned (OpenSpec.ofChange Rows.scriptLaysSpec) :=
  OpenClaim.holds_of_wide 6 Try.f6 rfl rfl rfl rfl rfl rfl rfl ⟨rfl, rfl, rfl, rfl, rfl⟩ rfl rfl rfl rfl rfl (by kernel_rfl) Try.func6 (by kernel_rfl)
    (of_decide_eq_true (by kernel_rfl)) (by unfold Func.isWrapper; first | (rw [if_pos (by decide +kernel)]; kernel_rfl) | (rw [if_neg (by decide +kernel)]; exact ⟨rfl, rfl⟩))
    (fun os started H enc _ => lifted os started H enc)

/-- ████ THE STATEMENT ████ -/
theorem proved : Rows.ScriptLaysSaid := over
#print axioms proved
end Go.Proofs.Ytmhldlnlgjpkaaa.scriptLays
