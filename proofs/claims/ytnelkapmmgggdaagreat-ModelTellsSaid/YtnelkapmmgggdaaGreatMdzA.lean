/-
  What the functions of this group compute on the abstract machine, and the plain laws of it. Part A: conditions stand in each theorem.
-/
import Derived.Test.YtnelkapmmgggdaaGreatAmH
import Derived.Test.YtnelkapmmgggdaaGreatChecked
import Derived.KernelRfl
import Derived.Shelf.SlSortCmp.NoneTotal

set_option maxHeartbeats 16000000
set_option maxRecDepth 20000
/-
 Model: the tables; what is known at once.
-/
namespace Go.Proofs.YtnelkapmmgggdaaGreat.mdl
open Go.Am
set_option linter.unusedSimpArgs false
set_option linter.unusedVariables false
set_option linter.unusedVariables false

noncomputable def exts : T Nat := (T.e.set 62 2)
theorem ext55 : ExR 2 Tryz.f62 := ⟨by kernel_rfl, by kernel_rfl, by kernel_rfl, by show Extern.find Tryz.f62 = some (Extern.SlicesOverlaps.overlaps Tryz.f62.params Tryz.f62.resultTypes); kernel_rfl⟩
theorem exts_ok : ∀ f k fn, exts.get f = some k → Tryz.checked.prog.funcs[f]? = some fn → ExR k fn := by
 intro f k fn h hf
 unfold exts at h
 simp only [T.get_set, T.get_e] at h
 split at h
 ·rename_i e
  subst e
  cases h
  cases Option.some.inj (hf.symm.trans Tryz.func62)
  exact ext55
 cases h
noncomputable def tb0 : Tab := tabOf Tryz.checked.prog exts
theorem tb0_ok : TabOk tb0 := tabOf_ok Tryz.checked _ exts_ok
theorem fn_at {k : Nat} {fn : Func} (h : Tryz.prog.funcs[k]? = some fn) : tb0.fn.get k = some fn := by
 show (T.ofList Tryz.checked.prog.funcs.toList).get k = _
 rw [T.get_ofList, Array.getElem?_toList]
 exact h
theorem works_true : isTrue (call tb0 1000000 20 [] mem0) = true := by decide +kernel
def worksK : List Value → Option Value
 | [] => some (.bool true)
 | _ => none
theorem hook_works : HookOk tb0.P 20 (pureHook worksK) := by
 refine hook_pure tb0_ok (f := 20) (fn := Tryz.f20) (fn_at Tryz.func20) (c := (Tryz.f20.body).getD .skip) (by kernel_rfl) fun args v h => ?_
 unfold worksK at h
 split at h
 ·cases h
  have hw := works_true
  revert hw
  cases hc : call tb0 1000000 20 [] mem0 with
  | no _ => intro hw; cases hw
  | ok r =>
   cases r with
   | pan _ _ => intro hw; cases hw
   | val v A =>
    intro hw
    cases v with
    | bool b =>
     cases (show b = true from hw)
     exact ⟨by simp, by simp [flat], 1000000, A, hc⟩
    | _ => cases hw
 ·cases h

theorem und3 : tb0.und 3 = some (.int .i64) := by kernel_rfl
theorem und32 : tb0.und 24 = some (.slice 59) := by kernel_rfl
theorem size45 : sizeF tb0 59 = .ok 3 := by kernel_rfl
theorem zc45 : zcellsF tb0 59 = .ok (3, [.string .empty, .int .u32 0, .bool false]) := by kernel_rfl
theorem ty45 : ∃ ti, tb0.ty.get 59 = some ti ∧ 0 < ti.bytes ∧ ti.bytes ≤ 65536 := by
 cases h : tb0.ty.get 59 with
 | none => exact absurd (show (tb0.ty.get 59).isSome = true by kernel_rfl) (by rw [h]; decide)
 | some ti =>
  have e : (tb0.ty.get 59).map (fun i => (Nat.blt 0 i.bytes && Nat.ble i.bytes 65536)) = some true := by kernel_rfl
  rw [h, Option.map_some, Option.some.injEq, Bool.and_eq_true, Nat.blt_eq] at e
  exact ⟨ti, rfl, e.1, Nat.le_of_ble_eq_true e.2⟩

theorem k55 {ih : Code → St → R (Ex × St)} {A : Mem} {q b o n k : Nat} {tq e : TypeId} {fq fb m : Nat} {cq cb : T Value} {kb : Kd} {v : Value} (hq : A.get q = some (.cells tq (.var m) fq cq)) (hb : A.get b = some (.cells e kb fb cb)) (h0 : cb.get 0 = some v) (hne : b ≠ q) :
  callF tb0 ih (.fn 62 [.slice (some ⟨q, 0, none⟩) 1 2, .slice (some ⟨b, o, none⟩) n k]) A = .ok (.val (.bool false) A) := by
 have hbq : Nat.beq q b = false := by
  cases h : Nat.beq q b with
  | false => rfl
  | true => exact absurd (Nat.eq_of_beq_eq_true h).symm hne
 have hap : apartF A ⟨q, 0, none⟩ ⟨b, o, none⟩ = .ok () := by
  unfold apartF
  simp only [hq, hb, h0, hbq, cond_false]
 have hex : externF tb0 2 Tryz.f62 [.slice (some ⟨q, 0, none⟩) 1 2, .slice (some ⟨b, o, none⟩) n k] A = .ok (.bool false, A) := by
  unfold externF
  have hp : Tryz.f62.params.toList = [24, 24] := by kernel_rfl
  have hr : Tryz.f62.resultTypes.toList = [4] := by kernel_rfl
  have hbb : Nat.beq 24 24 = true := rfl
  simp only [hp, hr, und32, size45, R.ok_bind, hbb, cond_true, hap]
 have hbody : Tryz.f62.body = none := by kernel_rfl
 have hx : tb0.ex.get 62 = some 2 := by kernel_rfl
 have hh : tb0.hk.get 62 = none := by kernel_rfl
 have hnm : (Tryz.f62.name == "runtime.NumGoroutine") = false := by kernel_rfl
 unfold callF
 simp only [fn_at Tryz.func62, hbody, hx, hh, hnm, cond_false, hex, R.ok_bind]

end Go.Proofs.YtnelkapmmgggdaaGreat.mdl

/-
 Model: slices.Insert at entries: its text, run.
-/
namespace Go.Proofs.YtnelkapmmgggdaaGreat.mdl
open Go.Am
set_option linter.unusedSimpArgs false
set_option linter.unusedVariables false
set_option linter.unusedVariables false

noncomputable def c37 : Code := Tryz.f42.body.getD .skip
theorem c37_eq : Tryz.f42.body = some (.seq (sub c37 [0]) (.seq (sub c37 [1,0]) (.seq (sub c37 [1,1,0]) (.seq (.seq (sub c37 [1,1,1,0,0]) (sub c37 [1,1,1,0,1])) (.seq (sub c37 [1,1,1,1,0]) (.seq (.seq (sub c37 [1,1,1,1,1,0,0]) (sub c37 [1,1,1,1,1,0,1])) (sub c37 [1,1,1,1,1,1]))))))) := by kernel_rfl
theorem c37_r : sub c37 [1,1,1,1,1,1] = .seq (.seq (sub c37 [1,1,1,1,1,1,0,0]) (.cond (.tmp 31) (sub c37 [1,1,1,1,1,1,0,1,0]) .skip)) (sub c37 [1,1,1,1,1,1,1]) := by kernel_rfl
theorem c37_g : sub c37 [1,1,1,1,1,1,0,1,0] = .seq (sub c37 [1,1,1,1,1,1,0,1,0,0]) (.seq (sub c37 [1,1,1,1,1,1,0,1,0,1,0]) (.seq (sub c37 [1,1,1,1,1,1,0,1,0,1,1,0]) (sub c37 [1,1,1,1,1,1,0,1,0,1,1,1]))) := by kernel_rfl
theorem c37_s : sub c37 [1,1,1,1,1,1,1] = .seq (sub c37 [1,1,1,1,1,1,1,0]) (.seq (.seq (sub c37 [1,1,1,1,1,1,1,1,0,0]) (.cond (.tmp 68) (sub c37 [1,1,1,1,1,1,1,1,0,1,0]) .skip)) (sub c37 [1,1,1,1,1,1,1,1,1])) := by kernel_rfl
theorem c37_t : sub c37 [1,1,1,1,1,1,1,1,0,1,0] = .seq (sub c37 [1,1,1,1,1,1,1,1,0,1,0,0]) (.seq (sub c37 [1,1,1,1,1,1,1,1,0,1,0,1,0]) (sub c37 [1,1,1,1,1,1,1,1,0,1,0,1,1])) := by kernel_rfl
def insS (x v : Value) (i n : Nat) : List (Nat × Value) := [(0, x), (1, .int .i64 (i : Int)), (2, v), (7, .int .i64 ((1 : Nat) : Int)), (8, .int .i64 (n : Int))]

theorem pre37 {K : Ex → St → Prop} {x y v : Value} {i n : Nat} {A : Mem} (hsl : sliceF tb0 24 x (some (.int .i64 (i : Int))) none none = .ok y) (hlx : builtinPF tb0 .len [24] [x] = .ok (.int .i64 (n : Int))) (hlv : builtinPF tb0 .len [24] [v] = .ok (.int .i64 ((1 : Nat) : Int)))
  (hK : ∀ t : T Value, Sl t (insS x v i n) → W tb0 (.seq (.seq (sub c37 [1,1,1,1,1,0,0]) (sub c37 [1,1,1,1,1,0,1])) (sub c37 [1,1,1,1,1,1])) ⟨t, 95, [], A, none⟩ K) :
  W tb0 (.seq (sub c37 [0]) (.seq (sub c37 [1,0]) (.seq (sub c37 [1,1,0]) (.seq (.seq (sub c37 [1,1,1,0,0]) (sub c37 [1,1,1,0,1])) (.seq (sub c37 [1,1,1,1,0]) (.seq (.seq (sub c37 [1,1,1,1,1,0,0]) (sub c37 [1,1,1,1,1,0,1])) (sub c37 [1,1,1,1,1,1]))))))) ⟨T.puts .e 0 [x, .int .i64 (i : Int), v], 95, [], A, none⟩ K := by
 apply W.seq
 apply W.run 20
 ·intro M
  simp (disch := first | decide +kernel | omega) only [c37, Tryz.f42, Aq, Nat.reduceEqDiff]
  with_reducible rfl
 apply W.seq
 apply W.run 20
 ·intro M
  simp (disch := first | decide +kernel | omega) only [c37, Tryz.f42, Aq, Nat.reduceEqDiff, hsl]
  with_reducible rfl
 apply W.seq
 apply W.run 20
 ·intro M
  simp (disch := first | decide +kernel | omega) only [c37, Tryz.f42, Aq, Nat.reduceEqDiff, hlv]
  with_reducible rfl
 apply W.seq
 apply W.seq
 apply W.run 20
 ·intro M
  simp (disch := first | decide +kernel | omega) only [c37, Tryz.f42, Aq, Nat.reduceEqDiff]
  with_reducible rfl
 apply W.run 20
 ·intro M
  simp (disch := first | decide +kernel | omega) only [c37, Tryz.f42, Aq, Nat.reduceEqDiff]
  with_reducible rfl
 apply W.seq
 apply W.run 20
 ·intro M
  simp (disch := first | decide +kernel | omega) only [c37, Tryz.f42, Aq, Nat.reduceEqDiff, hlx]
  with_reducible rfl
 show W tb0 _ _ _
 refine hK _ ?_
 unfold insS
 simp only [Sl_cons, Sl_nil, T.get_set, T.puts_cons, T.puts_nil, Nat.reduceEqDiff, Nat.reduceAdd, if_true, if_false, and_true, true_and]

theorem end37 {x v y : Value} {n : Nat} {A A' : Mem} {t : T Value} (ht : Sl t (insS x v n n)) (happ : appendF tb0 A 24 24 x v = .ok (y, A')) :
  W tb0 (.seq (.seq (sub c37 [1,1,1,1,1,0,0]) (sub c37 [1,1,1,1,1,0,1])) (sub c37 [1,1,1,1,1,1])) ⟨t, 95, [], A, none⟩ fun e s => (e = .nrm ∨ e = .ret) ∧ ∃ A2 vs, takeF s.d s.m = .ok A2 ∧ resF tb0 s.t A2.get Tryz.f42.results.toList = .ok vs ∧ (oneOf vs = y ∧ A2 = A') := by
 obtain ⟨g0, g1, g2, g7, g8, -⟩ := ht
 apply W.seq
 apply W.seq
 apply W.run 20
 ·intro M
  simp (disch := first | decide +kernel | omega) only [c37, Tryz.f42, Aq, Nat.reduceEqDiff, g1, g8]
  with_reducible rfl
 apply W.run 20
 ·intro M
  simp (disch := first | decide +kernel | omega) only [c37, Tryz.f42, Aq, Nat.reduceEqDiff, g0, g2, happ]
  with_reducible rfl
 refine ⟨.inr rfl, _, [y], rfl, ?_, rfl, rfl⟩
 simp only [Tryz.f42, resF, ev_tmp, T.get_set, Nat.reduceEqDiff, if_true, if_false, evG_some, R.ok_bind]

theorem cp37 {A : Mem} {d s : Value} : builtinLF tb0 A .copy [24, 24] [d, s] = copyF tb0 A 24 d s := rfl
theorem cap37 {b n c : Nat} : builtinPF tb0 .cap [24] [.slice (some ⟨b, 0, none⟩) n (2 * c)] = .ok (.int .i64 (c : Int)) := by
 unfold builtinPF capPF
 simp only [und32, capX_two, capN_two, cond_true]
 rfl

section
variable {x y v x9 y10 y11 x11 r1 r2 : Value} {i n c : Nat} {A A1 A2 A3 : Mem} {t : T Value}
theorem grow37 (hi : i < n) (hn : n < 16777215) (hcn : c < n + 1) (ht : Sl t (insS x v i n)) (hcap : builtinPF tb0 .cap [24] [x] = .ok (.int .i64 (c : Int))) (h9 : sliceF tb0 24 x none (some (.int .i64 (i : Int))) none = .ok x9) (happ : appendF tb0 A 24 3 x9 (.int .i64 ((n + 1 - i : Nat) : Int)) = .ok (y, A1))
  (h10 : sliceF tb0 24 y (some (.int .i64 (i : Int))) none none = .ok y10) (hc1 : copyF tb0 A1 24 y10 v = .ok (r1, A2)) (h11 : sliceF tb0 24 y (some (.int .i64 ((i + 1 : Nat) : Int))) none none = .ok y11) (h12 : sliceF tb0 24 x (some (.int .i64 (i : Int))) none none = .ok x11) (hc2 : copyF tb0 A2 24 y11 x11 = .ok (r2, A3)) :
  W tb0 (.seq (.seq (sub c37 [1,1,1,1,1,0,0]) (sub c37 [1,1,1,1,1,0,1])) (sub c37 [1,1,1,1,1,1])) ⟨t, 95, [], A, none⟩ fun e s => (e = .nrm ∨ e = .ret) ∧ ∃ A2 vs, takeF s.d s.m = .ok A2 ∧ resF tb0 s.t A2.get Tryz.f42.results.toList = .ok vs ∧ (oneOf vs = y ∧ A2 = A3) := by
 obtain ⟨g0, g1, g2, g7, g8, -⟩ := ht
 have hne : ¬ i = n := by omega
 have hsub : intOpF .sub .i64 ((n + 1 : Nat) : Int) (i : Int) = .ok (.int .i64 ((n + 1 - i : Nat) : Int)) := by
  rw [op_subI (by omega) (by omega)]
  congr 2
  omega
 apply W.seq
 apply W.seq
 apply W.run 20
 ·intro M
  simp (disch := first | decide +kernel | omega) only [c37, Tryz.f42, Aq, Nat.reduceEqDiff, g1, g8, hne]
  with_reducible rfl
 apply W.run 20
 ·intro M
  simp (disch := first | decide +kernel | omega) only [c37, Tryz.f42, Aq, Nat.reduceEqDiff]
  with_reducible rfl
 show W tb0 _ _ _
 rw [c37_r]
 apply W.seq
 apply W.seq
 apply W.run 20
 ·intro M
  simp (disch := first | decide +kernel | omega) only [c37, Tryz.f42, Aq, Nat.reduceEqDiff, g0, g7, g8, hcap, hcn]
  with_reducible rfl
 show W tb0 _ _ _
 refine W.cond (p := true) ?_ (fun _ => ?_) (fun h => by cases h)
 ·simp only [ev_tmp, T.get_set, Nat.reduceEqDiff, if_true, if_false, evG_some]
 rw [c37_g]
 apply W.seq
 apply W.run 20
 ·intro M
  simp (disch := first | decide +kernel | omega) only [c37, Tryz.f42, Aq, Nat.reduceEqDiff, g0, g1, g7, g8, h9, hsub, happ]
  with_reducible rfl
 apply W.seq
 apply W.run 20
 ·intro M
  simp (disch := first | decide +kernel | omega) only [c37, Tryz.f42, Aq, Nat.reduceEqDiff, g1, g2, h10, hc1, cp37]
  with_reducible rfl
 apply W.seq
 apply W.run 20
 ·intro M
  simp (disch := first | decide +kernel | omega) only [c37, Tryz.f42, Aq, Nat.reduceEqDiff, g0, g1, g7, h11, h12, hc2, cp37]
  with_reducible rfl
 apply W.run 20
 ·intro M
  simp (disch := first | decide +kernel | omega) only [c37, Tryz.f42, Aq, Nat.reduceEqDiff]
  with_reducible rfl
 refine ⟨.inr rfl, _, [y], rfl, ?_, rfl, rfl⟩
 simp only [Tryz.f42, resF, ev_tmp, T.get_set, Nat.reduceEqDiff, if_true, if_false, evG_some, R.ok_bind]

theorem room37 (hi : i < n) (hn : n < 16777215) (hcn : ¬ c < n + 1) (ht : Sl t (insS x v i n)) (hcap : builtinPF tb0 .cap [24] [x] = .ok (.int .i64 (c : Int))) (h13 : sliceF tb0 24 x none (some (.int .i64 ((n + 1 : Nat) : Int))) none = .ok y)
  (h14 : sliceF tb0 24 y (some (.int .i64 ((i + 1 : Nat) : Int))) none none = .ok y11) (h55 : ∀ ih, callF tb0 ih (.fn 62 [v, y11]) A = .ok (.val (.bool false) A)) (h15 : sliceF tb0 24 y (some (.int .i64 (i : Int))) none none = .ok y10) (hc1 : copyF tb0 A 24 y11 y10 = .ok (r1, A2)) (hc2 : copyF tb0 A2 24 y10 v = .ok (r2, A3)) :
  W tb0 (.seq (.seq (sub c37 [1,1,1,1,1,0,0]) (sub c37 [1,1,1,1,1,0,1])) (sub c37 [1,1,1,1,1,1])) ⟨t, 95, [], A, none⟩ fun e s => (e = .nrm ∨ e = .ret) ∧ ∃ A2 vs, takeF s.d s.m = .ok A2 ∧ resF tb0 s.t A2.get Tryz.f42.results.toList = .ok vs ∧ (oneOf vs = y ∧ A2 = A3) := by
 obtain ⟨g0, g1, g2, g7, g8, -⟩ := ht
 have hne : ¬ i = n := by omega
 apply W.seq
 apply W.seq
 apply W.run 20
 ·intro M
  simp (disch := first | decide +kernel | omega) only [c37, Tryz.f42, Aq, Nat.reduceEqDiff, g1, g8, hne]
  with_reducible rfl
 apply W.run 20
 ·intro M
  simp (disch := first | decide +kernel | omega) only [c37, Tryz.f42, Aq, Nat.reduceEqDiff]
  with_reducible rfl
 show W tb0 _ _ _
 rw [c37_r]
 apply W.seq
 apply W.seq
 apply W.run 20
 ·intro M
  simp (disch := first | decide +kernel | omega) only [c37, Tryz.f42, Aq, Nat.reduceEqDiff, g0, g7, g8, hcap, hcn]
  with_reducible rfl
 show W tb0 _ _ _
 refine W.cond (p := false) ?_ (fun h => by cases h) (fun _ => ?_)
 ·simp only [ev_tmp, T.get_set, Nat.reduceEqDiff, if_true, if_false, evG_some]
 apply W.run 20
 ·intro M
  simp (disch := first | decide +kernel | omega) only [c37, Tryz.f42, Aq, Nat.reduceEqDiff]
  with_reducible rfl
 show W tb0 _ _ _
 rw [c37_s]
 apply W.seq
 apply W.run 20
 ·intro M
  simp (disch := first | decide +kernel | omega) only [c37, Tryz.f42, Aq, Nat.reduceEqDiff, g0, g7, g8, h13]
  with_reducible rfl
 apply W.seq
 apply W.seq
 apply W.run 20
 ·intro M
  simp (disch := first | decide +kernel | omega) only [c37, Tryz.f42, Aq, Nat.reduceEqDiff, g1, g2, g7, h14, h55]
  with_reducible rfl
 show W tb0 _ _ _
 refine W.cond (p := true) ?_ (fun _ => ?_) (fun h => by cases h)
 ·simp only [ev_tmp, T.get_set, Nat.reduceEqDiff, if_true, if_false, evG_some]
 rw [c37_t]
 apply W.seq
 apply W.run 20
 ·intro M
  simp (disch := first | decide +kernel | omega) only [c37, Tryz.f42, Aq, Nat.reduceEqDiff, g1, g7, h14, h15, hc1, cp37]
  with_reducible rfl
 apply W.seq
 apply W.run 20
 ·intro M
  simp (disch := first | decide +kernel | omega) only [c37, Tryz.f42, Aq, Nat.reduceEqDiff, g1, g2, h15, hc2, cp37]
  with_reducible rfl
 apply W.run 20
 ·intro M
  simp (disch := first | decide +kernel | omega) only [c37, Tryz.f42, Aq, Nat.reduceEqDiff]
  with_reducible rfl
 refine ⟨.inr rfl, _, [y], rfl, ?_, rfl, rfl⟩
 simp only [Tryz.f42, resF, ev_tmp, T.get_set, Nat.reduceEqDiff, if_true, if_false, evG_some, R.ok_bind]
end
end Go.Proofs.YtnelkapmmgggdaaGreat.mdl

/-
 Model: slices.Insert at entries is what its hook says.
-/
namespace Go.Proofs.YtnelkapmmgggdaaGreat.mdl
open Go.Am
set_option linter.unusedSimpArgs false
set_option linter.unusedVariables false
set_option linter.unusedVariables false

theorem run37 {x y v yy : Value} {i n : Nat} {A A' : Mem} (hsl : sliceF tb0 24 x (some (.int .i64 (i : Int))) none none = .ok y) (hlx : builtinPF tb0 .len [24] [x] = .ok (.int .i64 (n : Int))) (hlv : builtinPF tb0 .len [24] [v] = .ok (.int .i64 ((1 : Nat) : Int)))
  (h : ∀ t : T Value, Sl t (insS x v i n) → W tb0 (.seq (.seq (sub c37 [1,1,1,1,1,0,0]) (sub c37 [1,1,1,1,1,0,1])) (sub c37 [1,1,1,1,1,1])) ⟨t, 95, [], A, none⟩ fun e s => (e = .nrm ∨ e = .ret) ∧ ∃ A2 vs, takeF s.d s.m = .ok A2 ∧ resF tb0 s.t A2.get Tryz.f42.results.toList = .ok vs ∧ (oneOf vs = yy ∧ A2 = A')) :
  ∃ m, call tb0 m 42 [x, .int .i64 (i : Int), v] A = .ok (.val yy A') := by
 obtain ⟨v', A2, ⟨m, hm⟩, rfl, rfl⟩ := call_of_W (Q := fun v A2 => v = yy ∧ A2 = A') (fn_at Tryz.func42) c37_eq (by rw [Tryz.ntmps42]; simp) (pre37 (A := A) (K := fun e s => (e = .nrm ∨ e = .ret) ∧ ∃ A2 vs, takeF s.d s.m = .ok A2 ∧ resF tb0 s.t A2.get Tryz.f42.results.toList = .ok vs ∧ (oneOf vs = yy ∧ A2 = A')) hsl hlx hlv h)
 exact ⟨m, hm⟩

theorem insL_get {i n j : Nat} {old new : List Value} (hl : old.length = n * 3) (hn : new.length = 3) (hi : i ≤ n) : (insL 3 i old new)[j]? = if j < i * 3 then old[j]? else if j < (i + 1) * 3 then new[j - i * 3]? else (old.drop (i * 3))[j - (i + 1) * 3]? := by
 have ht : (old.take (i * 3)).length = i * 3 := by rw [List.length_take]; omega
 unfold insL
 by_cases h1 : j < i * 3
 ·rw [if_pos h1, List.append_assoc, List.getElem?_append_left (by omega), List.getElem?_take_of_lt h1]
 ·rw [if_neg h1]
  by_cases h2 : j < (i + 1) * 3
  ·rw [if_pos h2, List.append_assoc, List.getElem?_append_right (by omega), ht, List.getElem?_append_left (by omega)]
  ·rw [if_neg h2, List.getElem?_append_right (by rw [List.length_append]; omega), List.length_append, ht, hn, show i * 3 + 3 = (i + 1) * 3 by omega]
theorem insL_len {i n : Nat} {old new : List Value} (hl : old.length = n * 3) (hn : new.length = 3) (hi : i ≤ n) : (insL 3 i old new).length = (n + 1) * 3 := by
 unfold insL
 rw [List.length_append, List.length_append, List.length_take, List.length_drop]
 omega
theorem rep_len (z : List Value) : ∀ m, (repF z m).length = m * z.length
 | 0 => by simp [repF]
 | m + 1 => by
  unfold repF
  rw [List.length_append, rep_len z m, Nat.add_mul]
  omega
theorem get_some {c : T Value} {l : List Value} {o k : Nat} (h1 : o ≤ k) (h2 : k < o + l.length) : ∃ y, (T.puts c o l).get k = some y := by
 rw [T.get_puts, if_pos ⟨h1, h2⟩, List.getElem?_eq_getElem (by omega)]
 exact ⟨_, rfl⟩

theorem ins_says : InsSays tb0 42 59 3 := by
 obtain ⟨ti, hti, hb1, hb2⟩ := ty45
 refine ⟨?_, ?_, ?_, ?_⟩
 ·intro A q new hq hql hq1 hqlt
  have h1 := app_first (A := A) (st := 24) (q := q) und32 zc45 hti hb1 hb2 (by decide) (by decide) hq hql
  have hsl : sliceF tb0 24 (.slice none 0 0) (some (.int .i64 ((0 : Nat) : Int))) none none = .ok (.slice none 0 0) := by
   have e1 : bound (some (.int .i64 ((0 : Nat) : Int))) 0 0 = .ok 0 := bound_some (Nat.le_refl _)
   unfold sliceF
   simp only [und32, bound_none, R.ok_bind, e1, size45]
  obtain ⟨m, hm⟩ := run37 (i := 0) (n := 0) hsl (len_slc und32) (len_slc und32) (fun t ht => end37 ht h1)
  exact ⟨m, _, hm, next_alloc _ _, vals_puts (get_alloc_self _ _), fun y hy _ => get_alloc_ne (by omega)⟩
 ·intro A b q n old new hq hql hq1 hqlt hb hbl hbo hblt hbq hn0 hn
  have h1 := app_last (A := A) (st := 24) (q := q) (n := n) und32 zc45 hti hb1 hb2 (by decide) (by decide) hq hql hq1 hb hbl hn
  have hsl := slc_from (tb := tb0) (st := 24) (b := b) (n := n) (i := n) (k := mkX n 3) und32 size45 (Nat.le_refl _) (by rw [capN_mkX (by decide)]; exact Nat.le_refl _) (by unfold capFit; rw [capX_mkX, cond_false, capE_mkX (by decide)]; rfl) (by rw [capX_mkX]; rfl)
  obtain ⟨m, hm⟩ := run37 (i := n) (n := n) hsl (len_slc und32) (len_slc und32) (fun t ht => end37 ht h1)
  have e : insL 3 n old new = old ++ new := by
   unfold insL
   rw [List.take_of_length_le (by omega), List.drop_of_length_le (by omega), List.append_nil]
  rw [e]
  refine ⟨m, _, hm, rfl, vals_puts (get_alloc_self (A.set b .dead) _), fun y hy hyb => ?_⟩
  refine (get_alloc_ne (A := A.set b .dead) (show y ≠ A.next by omega)).trans ?_
  rw [get_setMem, if_neg (fun h => hyb (by rw [h]))]
 ·intro A b q n i old new hq hql hq1 hqlt hb hbl hbo hblt hbq hi hn
  obtain ⟨cq, hgq, hcq⟩ := hq
  obtain ⟨cb, hgb, hcb⟩ := hb
  have hz : (repF [.string .empty, .int .u32 0, .bool false] (n + 1 - i)).length = (n + 1 - i) * 3 := by rw [rep_len]; rfl
  have h1 := app_grow (A := A) (st := 24) (it := 3) (b := b) (n := n) (i := i) und32 und3 zc45 hti hb1 hb2 (by decide) (by decide) ⟨cb, hgb, hcb⟩ hbl hi hn
  have hL : (old.take (i * 3) ++ repF [.string .empty, .int .u32 0, .bool false] (n + 1 - i)).length = (n + 1) * 3 := by
   rw [List.length_append, hz, List.length_take]; omega
  revert h1 hL
  generalize hLe : old.take (i * 3) ++ repF [.string .empty, .int .u32 0, .bool false] (n + 1 - i) = L
  intro h1 hL
  have hLg : ∀ j, j < i * 3 → L[j]? = old[j]? := fun j hj => by
   rw [← hLe, List.getElem?_append_left (by rw [List.length_take]; omega), List.getElem?_take_of_lt hj]
  have hne0 : ∀ k, k < n → Nat.beq n k = false := fun k hk => by
   cases h : Nat.beq n k with
   | false => rfl
   | true => have := Nat.eq_of_beq_eq_true h; omega
  have hsl := slc_from (tb := tb0) (st := 24) (b := b) (n := n) (i := i) (k := 2 * n) und32 size45 (by omega) (by rw [capN_two]; exact Nat.le_refl _) (by unfold capFit; rw [capX_two]; rfl) (by rw [capX_two, capN_two, hne0 _ hi]; rfl)
  have h9 := slc_to (tb := tb0) (st := 24) (b := b) (n := n) (i := i) (k := 2 * n) und32 size45 (by rw [capN_two]; omega) (by unfold capFit; rw [capX_two]; rfl) (by rw [capX_two, capN_two, hne0 _ (by omega)]; rfl)
  rw [capSub_two] at h9
  have hfit : capFit (mkX (n + 1) 3) 3 = true := by unfold capFit; rw [capX_mkX, cond_false, capE_mkX (by decide)]; rfl
  have hcN : capN (mkX (n + 1) 3) = n + 1 := capN_mkX (by decide)
  have h10 := slc_from (tb := tb0) (st := 24) (b := A.next) (n := n + 1) (i := i) (k := mkX (n + 1) 3) und32 size45 (by omega) (by rw [hcN]; exact Nat.le_refl _) hfit (by rw [capX_mkX]; rfl)
  have h11 := slc_from (tb := tb0) (st := 24) (b := A.next) (n := n + 1) (i := i + 1) (k := mkX (n + 1) 3) und32 size45 (by omega) (by rw [hcN]; exact Nat.le_refl _) hfit (by rw [capX_mkX]; rfl)
  have gN : (A.alloc (.cells 59 .row 0 (T.puts .e 0 L))).get A.next = some (.cells 59 .row 0 (T.puts .e 0 L)) := get_alloc_self _ _
  have hc1 := copy_at (tb := tb0) (A := A.alloc (.cells 59 .row 0 (T.puts .e 0 L))) (st := 24) (s := q) (d := A.next) (os := 0) (od := i * 3) (m := 1) (sl := 1) (dl := n + 1 - i) (cs' := 2) (cd' := capSub (mkX (n + 1) 3) i) (l := new) und32 size45
   ((get_alloc_ne (by omega)).trans hgq) gN (by rw [hql]) (fun j hj => by rw [Nat.zero_add]; exact hcq j hj) hq1 (by rw [Nat.ble_eq_true_of_le (show 1 ≤ n + 1 - i by omega)]; rfl) (fun h => by rw [h] at hql; cases hql)
   (fun j hj => .inl (get_some (by omega) (by omega)))
  obtain ⟨c2, hc2e⟩ : ∃ c2, c2 = T.puts (T.puts .e 0 L) (i * 3) new := ⟨_, rfl⟩
  rw [← hc2e] at hc1
  have hdl : (old.drop (i * 3)).length = (n - i) * 3 := by rw [List.length_drop]; omega
  have hg2b : ((A.alloc (.cells 59 .row 0 (T.puts .e 0 L))).set A.next (.cells 59 .row 0 c2)).get b = some (.cells 59 .row 0 cb) := by
   rw [get_setMem, if_neg (by omega)]
   exact (get_alloc_ne (by omega)).trans hgb
  have hg2N : ((A.alloc (.cells 59 .row 0 (T.puts .e 0 L))).set A.next (.cells 59 .row 0 c2)).get A.next = some (.cells 59 .row 0 c2) := by
   rw [get_setMem, if_pos rfl]
  have hc2 := copy_at (tb := tb0) (A := (A.alloc (.cells 59 .row 0 (T.puts .e 0 L))).set A.next (.cells 59 .row 0 c2)) (st := 24) (s := b) (d := A.next) (os := i * 3) (od := (i + 1) * 3) (m := n - i) (sl := n - i) (dl := n + 1 - (i + 1)) (cs' := capSub (2 * n) i) (cd' := capSub (mkX (n + 1) 3) (i + 1)) (l := old.drop (i * 3)) und32 size45
   hg2b hg2N hdl (fun j hj => by rw [hcb _ (by rw [hdl] at hj; omega), List.getElem?_drop]) (fun v hv => hbo v (List.mem_of_mem_drop hv)) (by rw [Nat.ble_eq_true_of_le (show n - i ≤ n + 1 - (i + 1) by omega)]; rfl) (fun h => by rw [h] at hdl; simp only [List.length_nil] at hdl; omega)
   (fun j hj => .inl (by
    rw [hdl] at hj
    rw [hc2e, T.get_puts, if_neg (by rw [hql]; omega)]
    exact get_some (by omega) (by omega)))
  obtain ⟨m, hm⟩ := run37 (i := i) (n := n) hsl (len_slc und32) (len_slc und32) (fun t ht => grow37 hi hn (by omega) ht cap37 h9 h1 h10 hc1 h11 hsl hc2)
  refine ⟨m, _, hm, rfl, ⟨_, by rw [get_setMem, if_pos rfl], fun j hj => ?_⟩, fun y hy hyb => ?_⟩
  ·rw [insL_len hbl hql (by omega)] at hj
   rw [insL_get hbl hql (by omega), T.get_puts, hdl]
   by_cases j1 : j < i * 3
   ·rw [if_pos j1, if_neg (by omega), hc2e, T.get_puts, hql, if_neg (by omega), T.get_puts, if_pos (by omega), Nat.sub_zero, hLg j j1]
   ·rw [if_neg j1]
    by_cases j2 : j < (i + 1) * 3
    ·rw [if_pos j2, if_neg (by omega), hc2e, T.get_puts, hql, if_pos (by omega)]
    ·rw [if_neg j2, if_pos (by omega)]
  ·rw [get_setMem, if_neg (by omega), get_setMem, if_neg (by omega)]
   exact get_alloc_ne (by omega)
 ·intro A b q n i c old new hq hql hq1 hqlt hb hbl hbo hblt hbq hi hn hcap hc63
  obtain ⟨cq, hgq, hcq⟩ := hq
  obtain ⟨cb, hgb, hcb⟩ := hb
  have hne0 : ∀ k, k < c → Nat.beq c k = false := fun k hk => by
   cases h : Nat.beq c k with
   | false => rfl
   | true => have := Nat.eq_of_beq_eq_true h; omega
  have hfit : capFit (2 * c) 3 = true := by unfold capFit; rw [capX_two]; rfl
  have hsl := slc_from (tb := tb0) (st := 24) (b := b) (n := n) (i := i) (k := 2 * c) und32 size45 (by omega) (by rw [capN_two]; omega) hfit (by rw [capX_two, capN_two, hne0 _ (by omega)]; rfl)
  have h13 := slc_to (tb := tb0) (st := 24) (b := b) (n := n) (i := n + 1) (k := 2 * c) und32 size45 (by rw [capN_two]; omega) hfit (by rw [capX_two, capN_two, hne0 _ (by omega)]; rfl)
  rw [capSub_two] at h13
  have h14 := slc_from (tb := tb0) (st := 24) (b := b) (n := n + 1) (i := i + 1) (k := 2 * c) und32 size45 (by omega) (by rw [capN_two]; omega) hfit (by rw [capX_two, capN_two, hne0 _ (by omega)]; rfl)
  have h15 := slc_from (tb := tb0) (st := 24) (b := b) (n := n + 1) (i := i) (k := 2 * c) und32 size45 (by omega) (by rw [capN_two]; omega) hfit (by rw [capX_two, capN_two, hne0 _ (by omega)]; rfl)
  have hc0 : cb.get 0 = some old[0] := by rw [hcb 0 (by omega), List.getElem?_eq_getElem (by omega)]
  have hdl : (old.drop (i * 3)).length = (n - i) * 3 := by rw [List.length_drop]; omega
  have hroom : roomK (.room ((n + 1) * 3)) = (n + 1) * 3 := rfl
  have hc1 := copy_at (tb := tb0) (A := A) (st := 24) (s := b) (d := b) (os := i * 3) (od := (i + 1) * 3) (m := n - i) (sl := n + 1 - i) (dl := n + 1 - (i + 1)) (cs' := capSub (2 * c) i) (cd' := capSub (2 * c) (i + 1)) (l := old.drop (i * 3)) und32 size45
   hgb hgb hdl (fun j hj => by rw [hcb _ (by rw [hdl] at hj; omega), List.getElem?_drop]) (fun v hv => hbo v (List.mem_of_mem_drop hv)) (by
    have : Nat.ble (n + 1 - i) (n + 1 - (i + 1)) = false := by
     cases h : Nat.ble (n + 1 - i) (n + 1 - (i + 1)) with
     | false => rfl
     | true => have := Nat.le_of_ble_eq_true h; omega
    rw [this, cond_false]; omega) (fun h => by rw [h] at hdl; simp only [List.length_nil] at hdl; omega)
   (fun j hj => .inr (by rw [hroom]; rw [hdl] at hj; omega))
  obtain ⟨c2, hc2e⟩ : ∃ c2, c2 = T.puts cb ((i + 1) * 3) (old.drop (i * 3)) := ⟨_, rfl⟩
  rw [← hc2e] at hc1
  have hc2 := copy_at (tb := tb0) (A := A.set b (.cells 59 (.room ((n + 1) * 3)) 0 c2)) (st := 24) (s := q) (d := b) (os := 0) (od := i * 3) (m := 1) (sl := 1) (dl := n + 1 - i) (cs' := 2) (cd' := capSub (2 * c) i) (l := new) und32 size45
   (by rw [get_setMem, if_neg hbq.symm]; exact hgq) (by rw [get_setMem, if_pos rfl]) (by rw [hql]) (fun j hj => by rw [Nat.zero_add]; exact hcq j hj) hq1 (by rw [Nat.ble_eq_true_of_le (show 1 ≤ n + 1 - i by omega)]; rfl) (fun h => by rw [h] at hql; cases hql)
   (fun j hj => .inr (by rw [hroom]; omega))
  obtain ⟨m, hm⟩ := run37 (i := i) (n := n) hsl (len_slc und32) (len_slc und32) (fun t ht => room37 hi hn (by omega) ht cap37 h13 h14 (fun ih => k55 hgq hgb hc0 hbq) h15 hc1 hc2)
  refine ⟨m, _, hm, rfl, ⟨_, by rw [get_setMem, if_pos rfl], fun j hj => ?_⟩, fun y hy => ?_⟩
  ·rw [insL_len hbl hql (by omega)] at hj
   rw [insL_get hbl hql (by omega), T.get_puts, hql]
   by_cases j1 : j < i * 3
   ·rw [if_pos j1, if_neg (by omega), hc2e, T.get_puts, hdl, if_neg (by omega), hcb j (by omega)]
   ·rw [if_neg j1]
    by_cases j2 : j < (i + 1) * 3
    ·rw [if_pos j2, if_pos (by omega)]
    ·rw [if_neg j2, if_neg (by omega), hc2e, T.get_puts, hdl, if_pos (by omega)]
  ·rw [get_setMem, if_neg hy, get_setMem, if_neg hy]

theorem hook_ins : HookOk tb0.P 42 (insHook 59 3) := ins_ok tb0_ok (fn_at Tryz.func42) (c := c37) (by kernel_rfl) (by decide) ins_says
end Go.Proofs.YtnelkapmmgggdaaGreat.mdl

/-
 Model: lists of words and weights, in order: the plain laws.
-/
namespace Go.Mdl
open Go.Am

structure EntD where
 word : List UInt8
 weight : Nat
 gone : Bool
deriving DecidableEq
abbrev lt (a b : List UInt8) : Prop := bytesLt a b = true
theorem lt_irr (a : List UInt8) : ¬ lt a a := by unfold lt; rw [bytesLt_irr]; simp
theorem lt_tr {a b c : List UInt8} (h : lt a b) (k : lt b c) : lt a c := bytesLt_trans _ _ _ h k
theorem lt_tri {a b : List UInt8} (h : ¬ lt a b) (k : ¬ lt b a) : a = b := bytesLt_tri _ _ (by simpa [lt] using h) (by simpa [lt] using k)
def Asc : List EntD → Prop
 | [] => True
 | x :: l => (∀ y ∈ l, lt x.word y.word) ∧ Asc l
def oneL (e : EntD) : List EntD → List EntD
 | [] => [e]
 | x :: l => if lt x.word e.word then x :: oneL e l else if x.word = e.word then e :: l else e :: x :: l
theorem one_mem {e : EntD} : ∀ {l : List EntD} {y : EntD}, y ∈ oneL e l → y = e ∨ y ∈ l
 | [], y, h => by simp [oneL] at h; exact .inl h
 | x :: l, y, h => by
  unfold oneL at h
  split at h
  ·rcases List.mem_cons.1 h with rfl | h
   ·exact .inr List.mem_cons_self
   ·rcases one_mem h with h | h
    ·exact .inl h
    ·exact .inr (List.mem_cons_of_mem _ h)
  ·split at h
   ·rcases List.mem_cons.1 h with h | h
    ·exact .inl h
    ·exact .inr (List.mem_cons_of_mem _ h)
   ·rcases List.mem_cons.1 h with h | h
    ·exact .inl h
    ·exact .inr h
theorem one_asc {e : EntD} : ∀ {l : List EntD}, Asc l → Asc (oneL e l)
 | [], _ => ⟨fun y hy => (by cases hy), trivial⟩
 | x :: l, h => by
  unfold oneL
  split
  ·rename_i hx
   refine ⟨fun y hy => ?_, one_asc h.2⟩
   rcases one_mem hy with rfl | hy
   ·exact hx
   ·exact h.1 y hy
  ·split
   ·rename_i hx he
    exact ⟨fun y hy => by rw [← he]; exact h.1 y hy, h.2⟩
   ·rename_i hx he
    have hex : lt e.word x.word := Classical.byContradiction fun hn => he (lt_tri hx hn)
    refine ⟨fun y hy => ?_, h⟩
    rcases List.mem_cons.1 hy with rfl | hy
    ·exact hex
    ·exact lt_tr hex (h.1 y hy)
def live (l : List EntD) : List EntD := l.filter fun e => !e.gone
theorem live_asc : ∀ {l : List EntD}, Asc l → Asc (live l)
 | [], _ => trivial
 | x :: l, h => by
  unfold live
  rw [List.filter_cons]
  split
  ·exact ⟨fun y hy => h.1 y (List.mem_filter.1 hy).1, live_asc h.2⟩
  ·exact live_asc h.2
def find (w : List UInt8) (l : List EntD) : Option EntD := l.find? fun e => decide (e.word = w)
theorem find_none {w : List UInt8} {l : List EntD} (h : ∀ y ∈ l, y.word ≠ w) : find w l = none := by
 unfold find
 rw [List.find?_eq_none]
 intro y hy
 simpa using h y hy
end Go.Mdl

/-
 Model: what updates make of a list: the plain laws.
-/
namespace Go.Mdl
open Go.Am

def okW (w : List UInt8) : Bool := decide (1 ≤ w.length ∧ w.length ≤ 255)
structure OpD where
 kind : Nat
 word : List UInt8
 weight : Nat
def OkD (d : List EntD) : Prop := Asc d ∧ ∀ e ∈ d, e.gone = false
def err (d : List EntD) (o : OpD) : Nat :=
 if okW o.word = false then 7 else if o.kind = 0 then (if (find o.word d).isSome = true then 8 else 0) else (if (find o.word d).isSome = true then 0 else 9)
theorem live_ok {d : List EntD} (h : Asc d) : OkD (live d) := ⟨live_asc h, fun e he => by
 have := (List.mem_filter.1 he).2
 simpa using this⟩
theorem len_one {e : EntD} : ∀ {l : List EntD}, Asc l → (oneL e l).length = if (find e.word l).isSome = true then l.length else l.length + 1
 | [], _ => rfl
 | x :: l, h => by
  have ih := len_one (e := e) h.2
  unfold oneL
  split
  ·rename_i hx
   have hne : x.word ≠ e.word := fun hh => lt_irr e.word (by rwa [hh] at hx)
   rw [show find e.word (x :: l) = find e.word l by simp [find, hne], List.length_cons, ih]
   split <;> simp
  ·split
   ·rename_i hx he
    rw [show find e.word (x :: l) = some x by simp [find, he]]
    simp
   ·rename_i hx he
    have hex : lt e.word x.word := Classical.byContradiction fun hn => he (lt_tri hx hn)
    rw [find_none (l := x :: l) fun y hy hyw => by
     rcases List.mem_cons.1 hy with rfl | hy
     ·exact he hyw
     ·have := lt_tr hex (h.1 y hy)
      rw [hyw] at this
      exact lt_irr _ this]
    rfl
theorem live_le (l : List EntD) : (live l).length ≤ l.length := List.length_filter_le _ _
end Go.Mdl

/-
 Model: hits are compared, and sorted: the functions that are known from the first table on.
-/
namespace Go.Proofs.YtnelkapmmgggdaaGreat.rnk
open Go.Am Go.Mdl
open Go.Proofs.YtnelkapmmgggdaaGreat.mdl (tb0 tb0_ok fn_at)
set_option linter.unusedSimpArgs false
set_option linter.unusedVariables false
set_option linter.unusedVariables false

theorem hook_at {f : FuncId} {fn : Func} {c : Code} (hf : tb0.fn.get f = some fn) (hb : fn.body = some c) {tb : Tab} (ok : TabOk tb) (hP : tb.P = tb0.P) (hfn : tb.fn.get f = tb0.fn.get f) {sp : List Value → Option Value}
  (h : ∀ args v, sp args = some v → (∀ x ∈ args, flat 9 x = true) ∧ flat 9 v = true ∧ ∃ A1, CallsTo tb f args mem0 v A1) : HookOk tb.P f (pureHook sp) := by
 refine hook_pure ok (hfn.trans hf) hb fun args v hs => ?_
 obtain ⟨h1, h2, A1, n, h3⟩ := h args v hs
 exact ⟨h1, h2, n, A1, h3⟩

theorem ev_m1 {t : T Value} : ev t (Operand.const (Value.int .i64 (-1))) = .ok (.int .i64 (-1)) := rfl
def cmpI (a b : List UInt8) : Int := if bytesLt a b = true then -1 else if bytesLt b a = true then 1 else 0
theorem gtr_lt (a b : List UInt8) : (!(bytesLt a b || bytesEq a b)) = bytesLt b a := by
 cases h1 : bytesLt b a with
 | true =>
  have h2 : bytesLt a b = false := by
   cases h : bytesLt a b with
   | false => rfl
   | true => have := bytesLt_trans _ _ _ h h1; rw [bytesLt_irr] at this; cases this
  have h3 : bytesEq a b = false := by
   rw [bytesEq_eq]
   refine beq_eq_false_iff_ne.2 fun e => ?_
   rw [e, bytesLt_irr] at h1; cases h1
  rw [h2, h3]; rfl
 | false =>
  cases h2 : bytesLt a b with
  | true => rfl
  | false =>
   obtain rfl := bytesLt_tri _ _ h2 h1
   rw [bytesEq_eq]
   simp
noncomputable def c66 : Code := Tryz.f72.body.getD .skip
theorem c66_eq : Tryz.f72.body = some (.seq (sub c66 [0]) (.seq (sub c66 [1,0]) (sub c66 [1,1]))) := by kernel_rfl
theorem run_nan (a : List UInt8) : ∃ A', CallsTo tb0 72 [strOf a] mem0 (.bool false) A' := by
 obtain ⟨v, A', h1, h2'⟩ : ∃ v A', CallsTo tb0 72 [strOf a] mem0 v A' ∧ v = .bool false := by
  refine call_of_W (fn_at Tryz.func72) c66_eq (by rw [Tryz.ntmps72]; simp) ?_
  have e : strOpF .neq a a = .ok (.bool false) := by rw [str_neq]; simp
  apply W.seq
  apply W.run 20
  ·intro M
   simp (disch := first | decide +kernel | omega) only [c66, Tryz.f72, Aq, Nat.reduceEqDiff]
   with_reducible rfl
  apply W.seq
  apply W.run 20
  ·intro M
   simp (disch := first | decide +kernel | omega) only [c66, Tryz.f72, Aq, Nat.reduceEqDiff, binF_str, e]
   with_reducible rfl
  apply W.run 20
  ·intro M
   simp (disch := first | decide +kernel | omega) only [c66, Tryz.f72, Aq, Nat.reduceEqDiff]
   with_reducible rfl
  refine ⟨.inr rfl, _, [.bool false], rfl, ?_, rfl⟩
  simp only [Tryz.f72, resF, ev_tmp, T.get_set, Nat.reduceEqDiff, if_true, if_false, evG_some, R.ok_bind]
 exact ⟨A', h2' ▸ h1⟩
def nanK : List Value → Option Value
 | [.string s] => some (.bool false)
 | _ => none
theorem hook_nan : HookOk tb0.P 72 (pureHook nanK) := by
 refine hook_at (fn_at Tryz.func72) c66_eq tb0_ok rfl rfl fun args v h => ?_
 unfold nanK at h
 split at h
 ·rename_i s
  cases h
  obtain ⟨A', h⟩ := run_nan s.data.toList
  exact ⟨by simp [flat], rfl, A', by rw [string_eq]; exact h⟩
 ·cases h
noncomputable def r1 : Tab := tb0.know 72 (pureHook nanK)
theorem r1_ok : TabOk r1 := know_ok tb0_ok hook_nan
theorem k66 {ih : Code → St → R (Ex × St)} {A : Mem} {a : List UInt8} : callF r1 ih (.fn 72 [strOf a]) A = .ok (.val (.bool false) A) :=
 callF_known (c := (Tryz.f72.body).getD .skip) (fn_at Tryz.func72) (by kernel_rfl) (by kernel_rfl) (h := pureHook nanK) (by kernel_rfl) rfl

noncomputable def c54 : Code := Tryz.f61.body.getD .skip
theorem c54_eq : Tryz.f61.body = some (.seq (sub c54 [0]) (.seq (sub c54 [1,0]) (.seq (sub c54 [1,1,0]) (.seq (sub c54 [1,1,1,0]) (.seq (sub c54 [1,1,1,1,0]) (.seq (.seq (sub c54 [1,1,1,1,1,0,0]) (sub c54 [1,1,1,1,1,0,1])) (.seq (.seq (sub c54 [1,1,1,1,1,1,0,0]) (sub c54 [1,1,1,1,1,1,0,1])) (sub c54 [1,1,1,1,1,1,1])))))))) := by kernel_rfl
theorem run_cmp (a b : List UInt8) : ∃ A', CallsTo r1 61 [strOf a, strOf b] mem0 (.int .i64 (cmpI a b)) A' := by
 obtain ⟨v, A', h1, h2'⟩ : ∃ v A', CallsTo r1 61 [strOf a, strOf b] mem0 v A' ∧ v = .int .i64 (cmpI a b) := by
  refine call_of_W (fn_at Tryz.func61) c54_eq (by rw [Tryz.ntmps61]; simp) ?_
  apply W.seq
  apply W.run 20
  ·intro M
   simp (disch := first | decide +kernel | omega) only [c54, Tryz.f61, Aq, Nat.reduceEqDiff]
   with_reducible rfl
  show W r1 _ _ _
  apply W.seq
  apply W.run 20
  ·intro M
   simp (disch := first | decide +kernel | omega) only [c54, Tryz.f61, Aq, Nat.reduceEqDiff, k66]
   with_reducible rfl
  show W r1 _ _ _
  apply W.seq
  apply W.run 20
  ·intro M
   simp (disch := first | decide +kernel | omega) only [c54, Tryz.f61, Aq, Nat.reduceEqDiff, k66]
   with_reducible rfl
  show W r1 _ _ _
  apply W.seq
  apply W.run 20
  ·intro M
   simp (disch := first | decide +kernel | omega) only [c54, Tryz.f61, Aq, Nat.reduceEqDiff]
   with_reducible rfl
  show W r1 _ _ _
  apply W.seq
  apply W.run 20
  ·intro M
   simp (disch := first | decide +kernel | omega) only [c54, Tryz.f61, Aq, Nat.reduceEqDiff]
   with_reducible rfl
  show W r1 _ _ _
  apply W.seq
  apply W.seq
  cases hl : bytesLt a b with
  | true =>
   have e : strOpF .lss a b = .ok (.bool true) := by show R.ok (Value.bool (bytesLt a b)) = _; rw [hl]
   apply W.run 20
   ·intro M
    simp (disch := first | decide +kernel | omega) only [c54, Tryz.f61, Aq, Nat.reduceEqDiff, binF_str, e]
    with_reducible rfl
   show W r1 _ _ _
   apply W.run 20
   ·intro M
    simp (disch := first | decide +kernel | omega) only [c54, Tryz.f61, Aq, Nat.reduceEqDiff, ev_m1]
    with_reducible rfl
   refine ⟨.inr rfl, _, [.int .i64 (-1)], rfl, ?_, ?_⟩
   ·simp only [Tryz.f61, resF, ev_tmp, T.get_set, Nat.reduceEqDiff, if_true, if_false, evG_some, R.ok_bind]
   ·unfold cmpI; rw [if_pos hl]; rfl
  | false =>
   have e : strOpF .lss a b = .ok (.bool false) := by show R.ok (Value.bool (bytesLt a b)) = _; rw [hl]
   apply W.run 20
   ·intro M
    simp (disch := first | decide +kernel | omega) only [c54, Tryz.f61, Aq, Nat.reduceEqDiff, binF_str, e]
    with_reducible rfl
   show W r1 _ _ _
   apply W.run 20
   ·intro M
    simp (disch := first | decide +kernel | omega) only [c54, Tryz.f61, Aq, Nat.reduceEqDiff]
    with_reducible rfl
   show W r1 _ _ _
   apply W.seq
   apply W.seq
   cases hg : bytesLt b a with
   | true =>
    have e2 : strOpF .gtr a b = .ok (.bool true) := by show R.ok (Value.bool (!(bytesLt a b || bytesEq a b))) = _; rw [gtr_lt, hg]
    apply W.run 20
    ·intro M
     simp (disch := first | decide +kernel | omega) only [c54, Tryz.f61, Aq, Nat.reduceEqDiff, binF_str, e2]
     with_reducible rfl
    show W r1 _ _ _
    apply W.run 20
    ·intro M
     simp (disch := first | decide +kernel | omega) only [c54, Tryz.f61, Aq, Nat.reduceEqDiff]
     with_reducible rfl
    refine ⟨.inr rfl, _, [.int .i64 1], rfl, ?_, ?_⟩
    ·simp only [Tryz.f61, resF, ev_tmp, T.get_set, Nat.reduceEqDiff, if_true, if_false, evG_some, R.ok_bind]; try rfl
    ·unfold cmpI; rw [hl, hg]; rfl
   | false =>
    have e2 : strOpF .gtr a b = .ok (.bool false) := by show R.ok (Value.bool (!(bytesLt a b || bytesEq a b))) = _; rw [gtr_lt, hg]
    apply W.run 20
    ·intro M
     simp (disch := first | decide +kernel | omega) only [c54, Tryz.f61, Aq, Nat.reduceEqDiff, binF_str, e2]
     with_reducible rfl
    show W r1 _ _ _
    apply W.run 20
    ·intro M
     simp (disch := first | decide +kernel | omega) only [c54, Tryz.f61, Aq, Nat.reduceEqDiff]
     with_reducible rfl
    show W r1 _ _ _
    apply W.run 20
    ·intro M
     simp (disch := first | decide +kernel | omega) only [c54, Tryz.f61, Aq, Nat.reduceEqDiff]
     with_reducible rfl
    refine ⟨.inr rfl, _, [.int .i64 0], rfl, ?_, ?_⟩
    ·simp only [Tryz.f61, resF, ev_tmp, T.get_set, Nat.reduceEqDiff, if_true, if_false, evG_some, R.ok_bind]; try rfl
    ·unfold cmpI; rw [hl, hg]; rfl
 exact ⟨A', h2' ▸ h1⟩
def cmpK : List Value → Option Value
 | [.string s, .string t] => some (.int .i64 (cmpI s.data.toList t.data.toList))
 | _ => none
theorem hook_cmp : HookOk r1.P 61 (pureHook cmpK) := by
 refine hook_at (fn_at Tryz.func61) c54_eq r1_ok rfl rfl fun args v h => ?_
 unfold cmpK at h
 split at h
 ·rename_i s t
  cases h
  obtain ⟨A', h⟩ := run_cmp s.data.toList t.data.toList
  exact ⟨by simp [flat], rfl, A', by rw [string_eq s, string_eq t]; exact h⟩
 ·cases h
noncomputable def r2 : Tab := r1.know 61 (pureHook cmpK)
theorem r2_ok : TabOk r2 := know_ok r1_ok hook_cmp
theorem k54 {ih : Code → St → R (Ex × St)} {A : Mem} {a b : List UInt8} : callF r2 ih (.fn 61 [strOf a, strOf b]) A = .ok (.val (.int .i64 (cmpI a b)) A) :=
 callF_known (c := (Tryz.f61.body).getD .skip) (fn_at Tryz.func61) (by kernel_rfl) (by kernel_rfl) (h := pureHook cmpK) (by kernel_rfl) rfl

def cmpN (a b : Int) : Int := if a < b then -1 else if b < a then 1 else 0

noncomputable def c70 : Code := Tryz.f96.body.getD .skip
theorem c70_eq : Tryz.f96.body = some (.seq (sub c70 [0]) (.seq (sub c70 [1,0]) (sub c70 [1,1]))) := by kernel_rfl
theorem run_nan70 (z : Int) : ∃ A', CallsTo r2 96 [.int .i64 z] mem0 (.bool false) A' := by
 obtain ⟨v, A', h1, h2'⟩ : ∃ v A', CallsTo r2 96 [.int .i64 z] mem0 v A' ∧ v = .bool false := by
  refine call_of_W (fn_at Tryz.func96) c70_eq (by rw [Tryz.ntmps96]; simp) ?_
  apply W.seq
  apply W.run 20
  ·intro M
   simp (disch := first | decide +kernel | omega) only [c70, Tryz.f96, Aq, Nat.reduceEqDiff]
   with_reducible rfl
  show W r2 _ _ _
  apply W.seq
  apply W.run 20
  ·intro M
   simp (disch := first | decide +kernel | omega) only [c70, Tryz.f96, Aq, Nat.reduceEqDiff, op_neqI]
   with_reducible rfl
  show W r2 _ _ _
  apply W.run 20
  ·intro M
   simp (disch := first | decide +kernel | omega) only [c70, Tryz.f96, Aq, Nat.reduceEqDiff]
   with_reducible rfl
  refine ⟨.inr rfl, _, [.bool false], rfl, ?_, rfl⟩
  simp only [Tryz.f96, resF, ev_tmp, T.get_set, Nat.reduceEqDiff, if_true, if_false, evG_some, R.ok_bind]
 exact ⟨A', h2' ▸ h1⟩
def nanK70 : List Value → Option Value
 | [.int .i64 z] => some (.bool false)
 | _ => none
theorem hook_nan70 : HookOk r2.P 96 (pureHook nanK70) := by
 refine hook_at (fn_at Tryz.func96) c70_eq r2_ok rfl rfl fun args v h => ?_
 unfold nanK70 at h
 split at h
 ·rename_i z
  cases h
  obtain ⟨A', h⟩ := run_nan70 z
  exact ⟨by simp [flat], rfl, A', h⟩
 ·cases h
noncomputable def r3 : Tab := r2.know 96 (pureHook nanK70)
theorem r3_ok : TabOk r3 := know_ok r2_ok hook_nan70
noncomputable def c71 : Code := Tryz.f97.body.getD .skip
theorem c71_eq : Tryz.f97.body = some (.seq (sub c71 [0]) (.seq (sub c71 [1,0]) (sub c71 [1,1]))) := by kernel_rfl
theorem run_nan71 (z : Int) : ∃ A', CallsTo r3 97 [.int .u32 z] mem0 (.bool false) A' := by
 obtain ⟨v, A', h1, h2'⟩ : ∃ v A', CallsTo r3 97 [.int .u32 z] mem0 v A' ∧ v = .bool false := by
  refine call_of_W (fn_at Tryz.func97) c71_eq (by rw [Tryz.ntmps97]; simp) ?_
  apply W.seq
  apply W.run 20
  ·intro M
   simp (disch := first | decide +kernel | omega) only [c71, Tryz.f97, Aq, Nat.reduceEqDiff]
   with_reducible rfl
  show W r3 _ _ _
  apply W.seq
  apply W.run 20
  ·intro M
   simp (disch := first | decide +kernel | omega) only [c71, Tryz.f97, Aq, Nat.reduceEqDiff, op_neqI]
   with_reducible rfl
  show W r3 _ _ _
  apply W.run 20
  ·intro M
   simp (disch := first | decide +kernel | omega) only [c71, Tryz.f97, Aq, Nat.reduceEqDiff]
   with_reducible rfl
  refine ⟨.inr rfl, _, [.bool false], rfl, ?_, rfl⟩
  simp only [Tryz.f97, resF, ev_tmp, T.get_set, Nat.reduceEqDiff, if_true, if_false, evG_some, R.ok_bind]
 exact ⟨A', h2' ▸ h1⟩
def nanK71 : List Value → Option Value
 | [.int .u32 z] => some (.bool false)
 | _ => none
theorem hook_nan71 : HookOk r3.P 97 (pureHook nanK71) := by
 refine hook_at (fn_at Tryz.func97) c71_eq r3_ok rfl rfl fun args v h => ?_
 unfold nanK71 at h
 split at h
 ·rename_i z
  cases h
  obtain ⟨A', h⟩ := run_nan71 z
  exact ⟨by simp [flat], rfl, A', h⟩
 ·cases h
noncomputable def r4 : Tab := r3.know 97 (pureHook nanK71)
theorem r4_ok : TabOk r4 := know_ok r3_ok hook_nan71
noncomputable def c64 : Code := Tryz.f79.body.getD .skip
theorem c64_eq : Tryz.f79.body = some (.seq (sub c64 [0]) (.seq (sub c64 [1,0]) (.seq (sub c64 [1,1,0]) (.seq (sub c64 [1,1,1,0]) (.seq (sub c64 [1,1,1,1,0]) (.seq (.seq (sub c64 [1,1,1,1,1,0,0]) (sub c64 [1,1,1,1,1,0,1])) (.seq (.seq (sub c64 [1,1,1,1,1,1,0,0]) (sub c64 [1,1,1,1,1,1,0,1])) (sub c64 [1,1,1,1,1,1,1])))))))) := by kernel_rfl
theorem run_cmp64 (a b : Int) : ∃ A', CallsTo r4 79 [.int .i64 a, .int .i64 b] mem0 (.int .i64 (cmpN a b)) A' := by
 obtain ⟨v, A', h1, h2'⟩ : ∃ v A', CallsTo r4 79 [.int .i64 a, .int .i64 b] mem0 v A' ∧ v = .int .i64 (cmpN a b) := by
  refine call_of_W (fn_at Tryz.func79) c64_eq (by rw [Tryz.ntmps79]; simp) ?_
  have kn : ∀ {ih : Code → St → R (Ex × St)} {A : Mem} {z : Int}, callF r4 ih (.fn 96 [.int .i64 z]) A = .ok (.val (.bool false) A) := fun {ih} {A} {z} =>
   callF_known (c := (Tryz.f96.body).getD .skip) (fn_at Tryz.func96) (by kernel_rfl) (by kernel_rfl) (h := pureHook nanK70) (by kernel_rfl) rfl
  apply W.seq
  apply W.run 20
  ·intro M
   simp (disch := first | decide +kernel | omega) only [c64, Tryz.f79, Aq, Nat.reduceEqDiff]
   with_reducible rfl
  show W r4 _ _ _
  apply W.seq
  apply W.run 20
  ·intro M
   simp (disch := first | decide +kernel | omega) only [c64, Tryz.f79, Aq, Nat.reduceEqDiff, kn]
   with_reducible rfl
  show W r4 _ _ _
  apply W.seq
  apply W.run 20
  ·intro M
   simp (disch := first | decide +kernel | omega) only [c64, Tryz.f79, Aq, Nat.reduceEqDiff, kn]
   with_reducible rfl
  show W r4 _ _ _
  apply W.seq
  apply W.run 20
  ·intro M
   simp (disch := first | decide +kernel | omega) only [c64, Tryz.f79, Aq, Nat.reduceEqDiff]
   with_reducible rfl
  show W r4 _ _ _
  apply W.seq
  apply W.run 20
  ·intro M
   simp (disch := first | decide +kernel | omega) only [c64, Tryz.f79, Aq, Nat.reduceEqDiff]
   with_reducible rfl
  show W r4 _ _ _
  apply W.seq
  apply W.seq
  by_cases hl : a < b
  ·apply W.run 20
   ·intro M
    simp (disch := first | decide +kernel | omega) only [c64, Tryz.f79, Aq, Nat.reduceEqDiff, hl]
    with_reducible rfl
   show W r4 _ _ _
   apply W.run 20
   ·intro M
    simp (disch := first | decide +kernel | omega) only [c64, Tryz.f79, Aq, Nat.reduceEqDiff, ev_m1]
    with_reducible rfl
   refine ⟨.inr rfl, _, [.int .i64 (-1)], rfl, ?_, ?_⟩
   ·simp only [Tryz.f79, resF, ev_tmp, T.get_set, Nat.reduceEqDiff, if_true, if_false, evG_some, R.ok_bind]
   ·unfold cmpN; rw [if_pos hl]; rfl
  ·apply W.run 20
   ·intro M
    simp (disch := first | decide +kernel | omega) only [c64, Tryz.f79, Aq, Nat.reduceEqDiff, hl]
    with_reducible rfl
   show W r4 _ _ _
   apply W.run 20
   ·intro M
    simp (disch := first | decide +kernel | omega) only [c64, Tryz.f79, Aq, Nat.reduceEqDiff]
    with_reducible rfl
   show W r4 _ _ _
   apply W.seq
   apply W.seq
   by_cases hg : b < a
   ·apply W.run 20
    ·intro M
     simp (disch := first | decide +kernel | omega) only [c64, Tryz.f79, Aq, Nat.reduceEqDiff, hg]
     with_reducible rfl
    show W r4 _ _ _
    apply W.run 20
    ·intro M
     simp (disch := first | decide +kernel | omega) only [c64, Tryz.f79, Aq, Nat.reduceEqDiff]
     with_reducible rfl
    refine ⟨.inr rfl, _, [.int .i64 1], rfl, ?_, ?_⟩
    ·simp only [Tryz.f79, resF, ev_tmp, T.get_set, Nat.reduceEqDiff, if_true, if_false, evG_some, R.ok_bind]; try rfl
    ·unfold cmpN; rw [if_neg hl, if_pos hg]; rfl
   ·apply W.run 20
    ·intro M
     simp (disch := first | decide +kernel | omega) only [c64, Tryz.f79, Aq, Nat.reduceEqDiff, hg]
     with_reducible rfl
    show W r4 _ _ _
    apply W.run 20
    ·intro M
     simp (disch := first | decide +kernel | omega) only [c64, Tryz.f79, Aq, Nat.reduceEqDiff]
     with_reducible rfl
    show W r4 _ _ _
    apply W.run 20
    ·intro M
     simp (disch := first | decide +kernel | omega) only [c64, Tryz.f79, Aq, Nat.reduceEqDiff]
     with_reducible rfl
    refine ⟨.inr rfl, _, [.int .i64 0], rfl, ?_, ?_⟩
    ·simp only [Tryz.f79, resF, ev_tmp, T.get_set, Nat.reduceEqDiff, if_true, if_false, evG_some, R.ok_bind]; try rfl
    ·unfold cmpN; rw [if_neg hl, if_neg hg]; rfl
 exact ⟨A', h2' ▸ h1⟩
def cmpK64 : List Value → Option Value
 | [.int .i64 a, .int .i64 b] => some (.int .i64 (cmpN a b))
 | _ => none
theorem hook_cmp64 : HookOk r4.P 79 (pureHook cmpK64) := by
 refine hook_at (fn_at Tryz.func79) c64_eq r4_ok rfl rfl fun args v h => ?_
 unfold cmpK64 at h
 split at h
 ·rename_i a b
  cases h
  obtain ⟨A', h⟩ := run_cmp64 a b
  exact ⟨by simp [flat], rfl, A', h⟩
 ·cases h
noncomputable def r5 : Tab := r4.know 79 (pureHook cmpK64)
theorem r5_ok : TabOk r5 := know_ok r4_ok hook_cmp64

noncomputable def c65 : Code := Tryz.f80.body.getD .skip
theorem c65_eq : Tryz.f80.body = some (.seq (sub c65 [0]) (.seq (sub c65 [1,0]) (.seq (sub c65 [1,1,0]) (.seq (sub c65 [1,1,1,0]) (.seq (sub c65 [1,1,1,1,0]) (.seq (.seq (sub c65 [1,1,1,1,1,0,0]) (sub c65 [1,1,1,1,1,0,1])) (.seq (.seq (sub c65 [1,1,1,1,1,1,0,0]) (sub c65 [1,1,1,1,1,1,0,1])) (sub c65 [1,1,1,1,1,1,1])))))))) := by kernel_rfl
theorem run_cmp65 (a b : Int) : ∃ A', CallsTo r5 80 [.int .u32 a, .int .u32 b] mem0 (.int .i64 (cmpN a b)) A' := by
 obtain ⟨v, A', h1, h2'⟩ : ∃ v A', CallsTo r5 80 [.int .u32 a, .int .u32 b] mem0 v A' ∧ v = .int .i64 (cmpN a b) := by
  refine call_of_W (fn_at Tryz.func80) c65_eq (by rw [Tryz.ntmps80]; simp) ?_
  have kn : ∀ {ih : Code → St → R (Ex × St)} {A : Mem} {z : Int}, callF r5 ih (.fn 97 [.int .u32 z]) A = .ok (.val (.bool false) A) := fun {ih} {A} {z} =>
   callF_known (c := (Tryz.f97.body).getD .skip) (fn_at Tryz.func97) (by kernel_rfl) (by kernel_rfl) (h := pureHook nanK71) (by kernel_rfl) rfl
  apply W.seq
  apply W.run 20
  ·intro M
   simp (disch := first | decide +kernel | omega) only [c65, Tryz.f80, Aq, Nat.reduceEqDiff]
   with_reducible rfl
  show W r5 _ _ _
  apply W.seq
  apply W.run 20
  ·intro M
   simp (disch := first | decide +kernel | omega) only [c65, Tryz.f80, Aq, Nat.reduceEqDiff, kn]
   with_reducible rfl
  show W r5 _ _ _
  apply W.seq
  apply W.run 20
  ·intro M
   simp (disch := first | decide +kernel | omega) only [c65, Tryz.f80, Aq, Nat.reduceEqDiff, kn]
   with_reducible rfl
  show W r5 _ _ _
  apply W.seq
  apply W.run 20
  ·intro M
   simp (disch := first | decide +kernel | omega) only [c65, Tryz.f80, Aq, Nat.reduceEqDiff]
   with_reducible rfl
  show W r5 _ _ _
  apply W.seq
  apply W.run 20
  ·intro M
   simp (disch := first | decide +kernel | omega) only [c65, Tryz.f80, Aq, Nat.reduceEqDiff]
   with_reducible rfl
  show W r5 _ _ _
  apply W.seq
  apply W.seq
  by_cases hl : a < b
  ·apply W.run 20
   ·intro M
    simp (disch := first | decide +kernel | omega) only [c65, Tryz.f80, Aq, Nat.reduceEqDiff, hl]
    with_reducible rfl
   show W r5 _ _ _
   apply W.run 20
   ·intro M
    simp (disch := first | decide +kernel | omega) only [c65, Tryz.f80, Aq, Nat.reduceEqDiff, ev_m1]
    with_reducible rfl
   refine ⟨.inr rfl, _, [.int .i64 (-1)], rfl, ?_, ?_⟩
   ·simp only [Tryz.f80, resF, ev_tmp, T.get_set, Nat.reduceEqDiff, if_true, if_false, evG_some, R.ok_bind]
   ·unfold cmpN; rw [if_pos hl]; rfl
  ·apply W.run 20
   ·intro M
    simp (disch := first | decide +kernel | omega) only [c65, Tryz.f80, Aq, Nat.reduceEqDiff, hl]
    with_reducible rfl
   show W r5 _ _ _
   apply W.run 20
   ·intro M
    simp (disch := first | decide +kernel | omega) only [c65, Tryz.f80, Aq, Nat.reduceEqDiff]
    with_reducible rfl
   show W r5 _ _ _
   apply W.seq
   apply W.seq
   by_cases hg : b < a
   ·apply W.run 20
    ·intro M
     simp (disch := first | decide +kernel | omega) only [c65, Tryz.f80, Aq, Nat.reduceEqDiff, hg]
     with_reducible rfl
    show W r5 _ _ _
    apply W.run 20
    ·intro M
     simp (disch := first | decide +kernel | omega) only [c65, Tryz.f80, Aq, Nat.reduceEqDiff]
     with_reducible rfl
    refine ⟨.inr rfl, _, [.int .i64 1], rfl, ?_, ?_⟩
    ·simp only [Tryz.f80, resF, ev_tmp, T.get_set, Nat.reduceEqDiff, if_true, if_false, evG_some, R.ok_bind]; try rfl
    ·unfold cmpN; rw [if_neg hl, if_pos hg]; rfl
   ·apply W.run 20
    ·intro M
     simp (disch := first | decide +kernel | omega) only [c65, Tryz.f80, Aq, Nat.reduceEqDiff, hg]
     with_reducible rfl
    show W r5 _ _ _
    apply W.run 20
    ·intro M
     simp (disch := first | decide +kernel | omega) only [c65, Tryz.f80, Aq, Nat.reduceEqDiff]
     with_reducible rfl
    show W r5 _ _ _
    apply W.run 20
    ·intro M
     simp (disch := first | decide +kernel | omega) only [c65, Tryz.f80, Aq, Nat.reduceEqDiff]
     with_reducible rfl
    refine ⟨.inr rfl, _, [.int .i64 0], rfl, ?_, ?_⟩
    ·simp only [Tryz.f80, resF, ev_tmp, T.get_set, Nat.reduceEqDiff, if_true, if_false, evG_some, R.ok_bind]; try rfl
    ·unfold cmpN; rw [if_neg hl, if_neg hg]; rfl
 exact ⟨A', h2' ▸ h1⟩
def cmpK65 : List Value → Option Value
 | [.int .u32 a, .int .u32 b] => some (.int .i64 (cmpN a b))
 | _ => none
theorem hook_cmp65 : HookOk r5.P 80 (pureHook cmpK65) := by
 refine hook_at (fn_at Tryz.func80) c65_eq r5_ok rfl rfl fun args v h => ?_
 unfold cmpK65 at h
 split at h
 ·rename_i a b
  cases h
  obtain ⟨A', h⟩ := run_cmp65 a b
  exact ⟨by simp [flat], rfl, A', h⟩
 ·cases h
noncomputable def r6 : Tab := r5.know 80 (pureHook cmpK65)
theorem r6_ok : TabOk r6 := know_ok r5_ok hook_cmp65
end Go.Proofs.YtnelkapmmgggdaaGreat.rnk

/-
 Model: the order of hits.
-/
namespace Go.Proofs.YtnelkapmmgggdaaGreat.rnk
open Go.Am Go.Mdl
open Go.Proofs.YtnelkapmmgggdaaGreat.mdl (tb0 tb0_ok fn_at)
set_option linter.unusedSimpArgs false
set_option linter.unusedVariables false
set_option linter.unusedVariables false

def bitI (b : Bool) : Int := if b = true then ((1 : Nat) : Int) else ((0 : Nat) : Int)
noncomputable def c33 : Code := Tryz.f81.body.getD .skip
theorem c33_eq : Tryz.f81.body = some (.seq (sub c33 [0]) (.seq (.seq (sub c33 [1,0,0]) (sub c33 [1,0,1])) (.seq (sub c33 [1,1,0]) (sub c33 [1,1,1])))) := by kernel_rfl
theorem run_bit (b : Bool) : ∃ A', CallsTo r6 81 [.bool b] mem0 (.int .i64 (bitI b)) A' := by
 obtain ⟨v, A', h1, h2'⟩ : ∃ v A', CallsTo r6 81 [.bool b] mem0 v A' ∧ v = .int .i64 (bitI b) := by
  refine call_of_W (fn_at Tryz.func81) c33_eq (by rw [Tryz.ntmps81]; simp) ?_
  apply W.seq
  apply W.run 20
  ·intro M
   simp (disch := first | decide +kernel | omega) only [c33, Tryz.f81, Aq, Nat.reduceEqDiff]
   with_reducible rfl
  show W r6 _ _ _
  apply W.seq
  apply W.seq
  cases b with
  | true =>
   apply W.run 20
   ·intro M
    simp (disch := first | decide +kernel | omega) only [c33, Tryz.f81, Aq, Nat.reduceEqDiff]
    with_reducible rfl
   apply W.run 20
   ·intro M
    simp (disch := first | decide +kernel | omega) only [c33, Tryz.f81, Aq, Nat.reduceEqDiff]
    with_reducible rfl
   refine ⟨.inr rfl, _, [.int .i64 ((1 : Nat) : Int)], rfl, ?_, rfl⟩
   simp only [Tryz.f81, resF, ev_tmp, T.get_set, Nat.reduceEqDiff, if_true, if_false, evG_some, R.ok_bind]
  | false =>
   apply W.run 20
   ·intro M
    simp (disch := first | decide +kernel | omega) only [c33, Tryz.f81, Aq, Nat.reduceEqDiff]
    with_reducible rfl
   apply W.run 20
   ·intro M
    simp (disch := first | decide +kernel | omega) only [c33, Tryz.f81, Aq, Nat.reduceEqDiff]
    with_reducible rfl
   show W r6 _ _ _
   apply W.seq
   apply W.run 20
   ·intro M
    simp (disch := first | decide +kernel | omega) only [c33, Tryz.f81, Aq, Nat.reduceEqDiff]
    with_reducible rfl
   apply W.run 20
   ·intro M
    simp (disch := first | decide +kernel | omega) only [c33, Tryz.f81, Aq, Nat.reduceEqDiff]
    with_reducible rfl
   refine ⟨.inr rfl, _, [.int .i64 ((0 : Nat) : Int)], rfl, ?_, rfl⟩
   simp only [Tryz.f81, resF, ev_tmp, T.get_set, Nat.reduceEqDiff, if_true, if_false, evG_some, R.ok_bind]
 exact ⟨A', h2' ▸ h1⟩
def bitK : List Value → Option Value
 | [.bool b] => some (.int .i64 (bitI b))
 | _ => none
theorem hook_bit : HookOk r6.P 81 (pureHook bitK) := by
 refine hook_at (fn_at Tryz.func81) c33_eq r6_ok rfl rfl fun args v h => ?_
 unfold bitK at h
 split at h
 ·rename_i b
  cases h
  obtain ⟨A', h⟩ := run_bit b
  exact ⟨by simp [flat], rfl, A', h⟩
 ·cases h
noncomputable def r7 : Tab := r6.know 81 (pureHook bitK)
theorem r7_ok : TabOk r7 := know_ok r6_ok hook_bit
theorem k33 {ih : Code → St → R (Ex × St)} {A : Mem} {b : Bool} : callF r7 ih (.fn 81 [.bool b]) A = .ok (.val (.int .i64 (bitI b)) A) :=
 callF_known (c := (Tryz.f81.body).getD .skip) (fn_at Tryz.func81) (by kernel_rfl) (by kernel_rfl) (h := pureHook bitK) (by kernel_rfl) rfl
theorem k54' {ih : Code → St → R (Ex × St)} {A : Mem} {a b : List UInt8} : callF r7 ih (.fn 61 [strOf a, strOf b]) A = .ok (.val (.int .i64 (cmpI a b)) A) :=
 callF_known (c := (Tryz.f61.body).getD .skip) (fn_at Tryz.func61) (by kernel_rfl) (by kernel_rfl) (h := pureHook cmpK) (by kernel_rfl) rfl
theorem k64 {ih : Code → St → R (Ex × St)} {A : Mem} {a b : Int} : callF r7 ih (.fn 79 [.int .i64 a, .int .i64 b]) A = .ok (.val (.int .i64 (cmpN a b)) A) :=
 callF_known (c := (Tryz.f79.body).getD .skip) (fn_at Tryz.func79) (by kernel_rfl) (by kernel_rfl) (h := pureHook cmpK64) (by kernel_rfl) rfl
theorem k65 {ih : Code → St → R (Ex × St)} {A : Mem} {a b : Int} : callF r7 ih (.fn 80 [.int .u32 a, .int .u32 b]) A = .ok (.val (.int .i64 (cmpN a b)) A) :=
 callF_known (c := (Tryz.f80.body).getD .skip) (fn_at Tryz.func80) (by kernel_rfl) (by kernel_rfl) (h := pureHook cmpK65) (by kernel_rfl) rfl

def firstNZ : List Int → Int
 | [] => 0
 | x :: l => if x ≠ 0 then x else firstNZ l
def intV (l : List Int) : List Value := l.map (.int .i64)
theorem und104 : r7.und 123 = some (.slice 3) := by kernel_rfl
theorem und3 : r7.und 3 = some (.int .i64) := by kernel_rfl
theorem und4 : r7.und 4 = some .bool := by kernel_rfl
theorem und9 : r7.und 9 = some .string := by kernel_rfl
theorem und24 : r7.und 41 = some (.int .u32) := by kernel_rfl
theorem size3 : sizeF r7 3 = .ok 1 := by kernel_rfl
theorem first_at : ∀ {l : List Int} {i : Nat} {x : Int}, l[i]? = some x → x ≠ 0 → (∀ y ∈ l.take i, y = 0) → firstNZ l = x
 | [], _, _, h, _, _ => by simp at h
 | a :: l, 0, x, h, hx, _ => by
  rw [List.getElem?_cons_zero, Option.some.injEq] at h
  subst h
  unfold firstNZ
  rw [if_pos hx]
 | a :: l, i + 1, x, h, hx, hn => by
  have ha : a = 0 := hn a (by simp)
  unfold firstNZ
  rw [if_neg (fun h => h ha)]
  exact first_at (by rwa [List.getElem?_cons_succ] at h) hx fun y hy => hn y (by simp [hy])
theorem first_none : ∀ {l : List Int}, (∀ y ∈ l, y = 0) → firstNZ l = 0
 | [], _ => rfl
 | a :: l, h => by
  unfold firstNZ
  rw [if_neg (fun hh => hh (h a (by simp)))]
  exact first_none fun y hy => h y (by simp [hy])
noncomputable def c63 : Code := Tryz.f78.body.getD .skip
noncomputable def c63b1 : Code := sub c63 [1,0,1,0,0]
theorem c63_eq : Tryz.f78.body = some (.seq (sub c63 [0]) (.seq (.seq (sub c63 [1,0,0]) (.block 0 (.loop c63b1))) (.seq (sub c63 [1,1,0]) (sub c63 [1,1,1])))) := by kernel_rfl
theorem run_first {A : Mem} {b : Nat} {l : List Int} {x : Value} (h : Slc A 3 b (intV l) x) (hl : l.length < 1000) : Ans r7 78 [x] A (.int .i64 (firstNZ l)) A := by
 obtain ⟨v, A', hg, rfl, rfl⟩ : ∃ v A', Ans r7 78 [x] A v A' ∧ v = .int .i64 (firstNZ l) ∧ A' = A := by
  refine ans_of_W (fn_at Tryz.func78) c63_eq (by rw [Tryz.ntmps78]; simp) (by kernel_rfl) (by kernel_rfl) ?_
  have hll : (intV l).length = l.length := by simp [intV]
  have hlen := h.len (tb := r7) und104
  rw [hll] at hlen
  apply W.seq
  apply W.run 20
  ·intro M
   simp (disch := first | decide +kernel | omega) only [c63, Tryz.f78, Aq, Nat.reduceEqDiff]
   with_reducible rfl
  show W r7 _ _ _
  apply W.seq
  apply W.seq
  apply W.run 20
  ·intro M
   simp (disch := first | decide +kernel | omega) only [c63, Tryz.f78, Aq, Nat.reduceEqDiff, hlen]
   with_reducible rfl
  show W r7 _ _ _
  apply W.block
  refine W.up l.length (fun i t C => C = A ∧ (∀ y ∈ l.take i, y = 0) ∧ Sl t [(5, x), (6, .int .i64 (l.length : Int)), (7, .int .i64 (i : Int))]) ?_ (Nat.zero_le _) ⟨rfl, by simp, ?_⟩
  ·rintro i t C hi ⟨rfl, hz, g5, g6, g7, -⟩
   by_cases hlt : i < l.length
   ·have el : l[i]? = some l[i] := List.getElem?_eq_getElem hlt
    have hix := h.idx (tb := r7) (t := 123) (t' := 3) (kd := .i64) (i := i) und104 size3 (by rw [hll]; exact hlt)
    have hld := h.load (tb := r7) (t := 3) (o := i) (v := .int .i64 l[i]) und3 rfl (by unfold intV; rw [List.getElem?_map, el]; rfl)
    by_cases h0 : l[i] = 0
    ·have nq : intOpF .neq .i64 l[i] ((0 : Nat) : Int) = .ok (.bool false) := by rw [h0]; rfl
     apply W.run 20
     ·intro M
      simp (disch := first | decide +kernel | omega) only [c63b1, c63, Tryz.f78, Aq, Nat.reduceEqDiff, g5, g6, g7, hlt, hix, hld, nq]
      with_reducible rfl
     refine ⟨hlt, _, _, rfl, rfl, fun y hy => ?_, ?_⟩
     ·rw [List.take_succ_eq_append_getElem hlt] at hy
      rcases List.mem_append.1 hy with hy | hy
      ·exact hz y hy
      ·simp only [List.mem_singleton] at hy
       rw [hy]; exact h0
     ·simp only [Sl_cons, Sl_nil, T.get_set, T.puts_cons, T.puts_nil, Nat.reduceEqDiff, Nat.reduceAdd, if_true, if_false, and_true, true_and, g5, g6]
    ·have nq : intOpF .neq .i64 l[i] ((0 : Nat) : Int) = .ok (.bool true) := by
      rw [op_neqI]
      have : (l[i] ≠ ((0 : Nat) : Int)) := h0
      rw [decide_eq_true this]
     apply W.run 20
     ·intro M
      simp (disch := first | decide +kernel | omega) only [c63b1, c63, Tryz.f78, Aq, Nat.reduceEqDiff, g5, g6, g7, hlt, hix, hld, nq]
      with_reducible rfl
     refine ⟨.inr rfl, _, [.int .i64 l[i]], rfl, ?_, by rw [first_at el h0 hz]; rfl, rfl⟩
     simp only [Tryz.f78, resF, ev_tmp, T.get_set, Nat.reduceEqDiff, if_true, if_false, evG_some, R.ok_bind]
   ·have hin : i = l.length := by omega
    subst hin
    rw [List.take_length] at hz
    apply W.run 20
    ·intro M
     simp (disch := first | decide +kernel | omega) only [c63b1, c63, Tryz.f78, Aq, Nat.reduceEqDiff, g6, g7]
     with_reducible rfl
    show W r7 _ _ _
    apply W.seq
    apply W.run 20
    ·intro M
     simp (disch := first | decide +kernel | omega) only [c63, Tryz.f78, Aq, Nat.reduceEqDiff]
     with_reducible rfl
    apply W.run 20
    ·intro M
     simp (disch := first | decide +kernel | omega) only [c63, Tryz.f78, Aq, Nat.reduceEqDiff]
     with_reducible rfl
    refine ⟨.inr rfl, _, [.int .i64 0], rfl, ?_, by rw [first_none hz]; rfl, rfl⟩
    simp only [Tryz.f78, resF, ev_tmp, T.get_set, Nat.reduceEqDiff, if_true, if_false, evG_some, R.ok_bind]
    try rfl
  ·simp only [Sl_cons, Sl_nil, T.get_set, T.puts_cons, T.puts_nil, Nat.reduceEqDiff, Nat.reduceAdd, if_true, if_false, and_true, true_and]
 exact hg

structure HitD where
 e : EntD
 dist : Nat
instance : Inhabited HitD := ⟨⟨⟨[], 0, false⟩, 0⟩⟩
def hitC (h : HitD) : List Value := [strOf h.e.word, .int .u32 (h.e.weight : Int), .bool h.e.gone, .int .i64 (h.dist : Int)]
def ordL (x y : HitD) : List Int := [cmpN x.dist y.dist, cmpN y.e.weight x.e.weight, cmpI x.e.word y.e.word, cmpN (bitI x.e.gone) (bitI y.e.gone)]
def ordD (x y : HitD) : Int := firstNZ (ordL x y)
theorem f63_0 {b o : Nat} : fieldAddrF r7 73 (.pointer (some ⟨b, o, none⟩)) 0 = .ok (.pointer (some ⟨b, o, none⟩)) := by kernel_rfl
theorem f63_1 {b o : Nat} : fieldAddrF r7 73 (.pointer (some ⟨b, o, none⟩)) 1 = .ok (.pointer (some ⟨b, o + 3, none⟩)) := by kernel_rfl
theorem f45_0 {b o : Nat} : fieldAddrF r7 59 (.pointer (some ⟨b, o, none⟩)) 0 = .ok (.pointer (some ⟨b, o, none⟩)) := by kernel_rfl
theorem f45_1 {b o : Nat} : fieldAddrF r7 59 (.pointer (some ⟨b, o, none⟩)) 1 = .ok (.pointer (some ⟨b, o + 1, none⟩)) := by kernel_rfl
theorem f45_2 {b o : Nat} : fieldAddrF r7 59 (.pointer (some ⟨b, o, none⟩)) 2 = .ok (.pointer (some ⟨b, o + 2, none⟩)) := by kernel_rfl
theorem bs104 {a b c d : Int} : buildSliceF r7 123 4 [(0, .int .i64 a), (1, .int .i64 b), (2, .int .i64 c), (3, .int .i64 d)] = .ok (rowOb 3 (intV [a, b, c, d]), .slc 4 8) := by kernel_rfl
theorem at_slc {n b c : Nat} : (Way.slc n c).at b = .slice (some ⟨b, 0, none⟩) n c := rfl
theorem selfInt (k : IntKind) (n : Int) : sameV 100 (.int k n) (.int k n) = true := by
 rw [sameV]
 simp only [ieqF_iff]
 cases k <;> simp [kindEq]
theorem selfBool (b : Bool) : sameV 100 (.bool b) (.bool b) = true := by cases b <;> rfl
noncomputable def c53 : Code := Tryz.f69.body.getD .skip
theorem c53_eq : Tryz.f69.body = some (.seq (sub c53 [0]) (.seq (sub c53 [1,0]) (sub c53 [1,1]))) := by kernel_rfl
theorem run_order (x y : HitD) : ∃ A', CallsTo r7 69 [.agg ⟨hitC x⟩, .agg ⟨hitC y⟩] mem0 (.int .i64 (ordD x y)) A' := by
 obtain ⟨v, A', h1, h2'⟩ : ∃ v A', CallsTo r7 69 [.agg ⟨hitC x⟩, .agg ⟨hitC y⟩] mem0 v A' ∧ v = .int .i64 (ordD x y) := by
  refine call_of_W (fn_at Tryz.func69) c53_eq (by rw [Tryz.ntmps69]; simp) ?_
  generalize mem0 = A
  have hx : Vals ((A.alloc (rowOb 73 (hitC x))).alloc (rowOb 73 (hitC y))) 73 A.next (.var 4) (hitC x) := (vals_puts (get_alloc_self _ _)).same (get_alloc_ne (by rw [next_alloc]; omega))
  have hy : Vals ((A.alloc (rowOb 73 (hitC x))).alloc (rowOb 73 (hitC y))) 73 (A.next + 1) (.var 4) (hitC y) := vals_puts (get_alloc_self _ _)
  apply W.seq
  apply W.run 20
  ·intro M
   simp (disch := first | decide +kernel | omega) only [c53, Tryz.f69, Aq, Nat.reduceEqDiff, cells_agg, next_alloc]
   with_reducible rfl
  show W r7 _ _ _
  generalize (A.alloc (rowOb 73 (hitC x))).alloc (rowOb 73 (hitC y)) = B at hx hy
  have x0 : loadF r7 B.get 9 (.pointer (some ⟨A.next, 0, none⟩)) = .ok (strOf x.e.word) := load_vals und9 rfl hx rfl
  have x1 : loadF r7 B.get 41 (.pointer (some ⟨A.next, 0 + 1, none⟩)) = .ok (.int .u32 (x.e.weight : Int)) := load_vals und24 rfl hx rfl
  have x2 : loadF r7 B.get 4 (.pointer (some ⟨A.next, 0 + 2, none⟩)) = .ok (.bool x.e.gone) := load_vals und4 rfl hx rfl
  have x3 : loadF r7 B.get 3 (.pointer (some ⟨A.next, 0 + 3, none⟩)) = .ok (.int .i64 (x.dist : Int)) := load_vals und3 rfl hx rfl
  have y0 : loadF r7 B.get 9 (.pointer (some ⟨A.next + 1, 0, none⟩)) = .ok (strOf y.e.word) := load_vals und9 rfl hy rfl
  have y1 : loadF r7 B.get 41 (.pointer (some ⟨A.next + 1, 0 + 1, none⟩)) = .ok (.int .u32 (y.e.weight : Int)) := load_vals und24 rfl hy rfl
  have y2 : loadF r7 B.get 4 (.pointer (some ⟨A.next + 1, 0 + 2, none⟩)) = .ok (.bool y.e.gone) := load_vals und4 rfl hy rfl
  have y3 : loadF r7 B.get 3 (.pointer (some ⟨A.next + 1, 0 + 3, none⟩)) = .ok (.int .i64 (y.dist : Int)) := load_vals und3 rfl hy rfl
  obtain ⟨g, hg⟩ := run_first (A := B.alloc (rowOb 3 (intV (ordL x y)))) (b := B.next) (l := ordL x y) (x := .slice (some ⟨B.next, 0, none⟩) 4 8) (.inr ⟨.var 4, 8, rfl, by rw [next_alloc]; omega, vals_puts (get_alloc_self _ _), .inl rfl⟩) (by show 4 < 1000; decide)
  have s1 := fun k n => selfInt k n
  have s2 := fun l => sameV_str l
  have s3 := fun b => selfBool b
  apply W.seq
  unfold ordL at hg
  apply W.runG (g) 20
  ·intro M hM
   simp (config := { maxSteps := 4000000 }) (disch := first | decide +kernel | omega | simp only [Wq, Nat.reduceEqDiff]) only [c53, Tryz.f69, Aq, Nat.ble, reduceIte, Nat.reduceEqDiff, Nat.reduceAdd, Fq, exec_float [(7, 4), (10, 4), (14, 4), (14, 11), (17, 4), (17, 11), (21, 4), (21, 11), (21, 18), (25, 4), (25, 11), (25, 18), (25, 22)], f63_0, f63_1, f45_0, f45_1, f45_2, x0, x1, x2, x3, y0, y1, y2, y3, s1, s2, s3, k33, k54', k64, k65, bs104, at_slc, hg]
   with_reducible rfl
  show W r7 _ _ _
  apply W.run 20
  ·intro M
   simp (disch := first | decide +kernel | omega) only [c53, Tryz.f69, Aq, Nat.reduceEqDiff]
   with_reducible rfl
  refine ⟨.inr rfl, _, [.int .i64 (ordD x y)], rfl, ?_, rfl⟩
  simp only [Tryz.f69, resF, ev_tmp, T.get_set, Nat.reduceEqDiff, if_true, if_false, evG_some, R.ok_bind]
  rfl
 exact ⟨A', h2' ▸ h1⟩
end Go.Proofs.YtnelkapmmgggdaaGreat.rnk

/-
 Model: hits, known: their order, which is ahead.
-/
namespace Go.Proofs.YtnelkapmmgggdaaGreat.rnk
open Go.Am Go.Mdl
open Go.Proofs.YtnelkapmmgggdaaGreat.mdl (tb0 tb0_ok fn_at)
set_option linter.unusedSimpArgs false
set_option linter.unusedVariables false
set_option linter.unusedVariables false

def ordK : List Value → Option Value
 | [.agg ⟨[.string s, .int .u32 (.ofNat w), .bool g, .int .i64 (.ofNat d)]⟩, .agg ⟨[.string s', .int .u32 (.ofNat w'), .bool g', .int .i64 (.ofNat d')]⟩] => some (.int .i64 (ordD ⟨⟨s.data.toList, w, g⟩, d⟩ ⟨⟨s'.data.toList, w', g'⟩, d'⟩))
 | _ => none
theorem hook_order : HookOk r7.P 69 (pureHook ordK) := by
 refine hook_at (fn_at Tryz.func69) c53_eq r7_ok rfl rfl fun args v h => ?_
 unfold ordK at h
 split at h
 ·rename_i s w g d s' w' g' d'
  cases h
  obtain ⟨A', h⟩ := run_order ⟨⟨s.data.toList, w, g⟩, d⟩ ⟨⟨s'.data.toList, w', g'⟩, d'⟩
  refine ⟨by simp [flat], rfl, A', ?_⟩
  rw [string_eq s, string_eq s']
  exact h
 ·cases h
noncomputable def r8 : Tab := r7.know 69 (pureHook ordK)
theorem r8_ok : TabOk r8 := know_ok r7_ok hook_order
theorem k53 {ih : Code → St → R (Ex × St)} {A : Mem} {x y : HitD} : callF r8 ih (.fn 69 [.agg ⟨hitC x⟩, .agg ⟨hitC y⟩]) A = .ok (.val (.int .i64 (ordD x y)) A) :=
 callF_known (c := (Tryz.f69.body).getD .skip) (fn_at Tryz.func69) (by kernel_rfl) (by kernel_rfl) (h := pureHook ordK) (by kernel_rfl) rfl

def lessB (x y : HitD) : Bool := decide (ordD x y < 0)
theorem size63 : sizeF r8 73 = .ok 4 := by kernel_rfl
theorem und63 : ∃ d, r8.und 73 = some d ∧ isAggD d = true := by
 have h : (r8.und 73).map isAggD = some true := by kernel_rfl
 cases hq : r8.und 73 with
 | none => rw [hq] at h; cases h
 | some d => rw [hq] at h; exact ⟨d, rfl, by simpa using h⟩
noncomputable def c34 : Code := Tryz.f125.body.getD .skip
theorem c34_eq : Tryz.f125.body = some (.seq (sub c34 [0]) (.seq (sub c34 [1,0]) (sub c34 [1,1]))) := by kernel_rfl
theorem run_less (x y : HitD) : ∃ A', CallsTo r8 125 [.agg ⟨hitC x⟩, .agg ⟨hitC y⟩] mem0 (.bool (lessB x y)) A' := by
 obtain ⟨v, A', h1, h2'⟩ : ∃ v A', CallsTo r8 125 [.agg ⟨hitC x⟩, .agg ⟨hitC y⟩] mem0 v A' ∧ v = .bool (lessB x y) := by
  refine call_of_W (fn_at Tryz.func125) c34_eq (by rw [Tryz.ntmps125]; simp) ?_
  generalize mem0 = A
  obtain ⟨d63, hd1, hd2⟩ := und63
  have hx : Vals ((A.alloc (rowOb 73 (hitC x))).alloc (rowOb 73 (hitC y))) 73 A.next (.var 4) (hitC x) := (vals_puts (get_alloc_self _ _)).same (get_alloc_ne (by rw [next_alloc]; omega))
  have hy : Vals ((A.alloc (rowOb 73 (hitC x))).alloc (rowOb 73 (hitC y))) 73 (A.next + 1) (.var 4) (hitC y) := vals_puts (get_alloc_self _ _)
  apply W.seq
  apply W.run 20
  ·intro M
   simp (disch := first | decide +kernel | omega) only [c34, Tryz.f125, Aq, Nat.reduceEqDiff, cells_agg, next_alloc]
   with_reducible rfl
  show W r8 _ _ _
  generalize (A.alloc (rowOb 73 (hitC x))).alloc (rowOb 73 (hitC y)) = B at hx hy
  have lx := load_all (tb := r8) hd1 hd2 (l := hitC x) size63 hx
  have ly := load_all (tb := r8) hd1 hd2 (l := hitC y) size63 hy
  apply W.seq
  apply W.run 20
  ·intro M
   simp (disch := first | decide +kernel | omega) only [c34, Tryz.f125, Aq, Nat.reduceEqDiff, lx, ly, k53]
   with_reducible rfl
  show W r8 _ _ _
  apply W.run 20
  ·intro M
   simp (disch := first | decide +kernel | omega) only [c34, Tryz.f125, Aq, Nat.reduceEqDiff]
   with_reducible rfl
  refine ⟨.inr rfl, _, [.bool (lessB x y)], rfl, ?_, rfl⟩
  simp only [Tryz.f125, resF, ev_tmp, T.get_set, Nat.reduceEqDiff, if_true, if_false, evG_some, R.ok_bind]
  rfl
 exact ⟨A', h2' ▸ h1⟩
def lessK : List Value → Option Value
 | [.agg ⟨[.string s, .int .u32 (.ofNat w), .bool g, .int .i64 (.ofNat d)]⟩, .agg ⟨[.string s', .int .u32 (.ofNat w'), .bool g', .int .i64 (.ofNat d')]⟩] => some (.bool (lessB ⟨⟨s.data.toList, w, g⟩, d⟩ ⟨⟨s'.data.toList, w', g'⟩, d'⟩))
 | _ => none
theorem hook_less : HookOk r8.P 125 (pureHook lessK) := by
 refine hook_at (fn_at Tryz.func125) c34_eq r8_ok rfl rfl fun args v h => ?_
 unfold lessK at h
 split at h
 ·rename_i s w g d s' w' g' d'
  cases h
  obtain ⟨A', h⟩ := run_less ⟨⟨s.data.toList, w, g⟩, d⟩ ⟨⟨s'.data.toList, w', g'⟩, d'⟩
  refine ⟨by simp [flat], rfl, A', ?_⟩
  rw [string_eq s, string_eq s']
  exact h
 ·cases h
noncomputable def r9 : Tab := r8.know 125 (pureHook lessK)
theorem r9_ok : TabOk r9 := know_ok r8_ok hook_less

def ltH (x y : HitD) : Prop := x.dist < y.dist ∨ (x.dist = y.dist ∧ (y.e.weight < x.e.weight ∨ (x.e.weight = y.e.weight ∧ (Go.Mdl.lt x.e.word y.e.word ∨ (x.e.word = y.e.word ∧ (x.e.gone = false ∧ y.e.gone = true))))))
theorem cmpN_neg {a b : Int} : cmpN a b < 0 ↔ a < b := by
 unfold cmpN
 split
 ·simp [*]
 ·split <;> simp [*]
theorem cmpN_zero {a b : Int} : cmpN a b = 0 ↔ a = b := by
 unfold cmpN
 split
 ·rename_i h; refine ⟨fun h => by simp at h, fun h => by omega⟩
 ·split
  ·refine ⟨fun h => by simp at h, fun h => by omega⟩
  ·refine ⟨fun _ => by omega, fun _ => rfl⟩
theorem cmpI_neg {a b : List UInt8} : cmpI a b < 0 ↔ Go.Mdl.lt a b := by
 unfold cmpI Go.Mdl.lt
 by_cases h : bytesLt a b = true
 ·rw [if_pos h]; simp [h]
 ·rw [if_neg h]
  by_cases h2 : bytesLt b a = true
  ·rw [if_pos h2]; simp [h]
  ·rw [if_neg h2]; simp [h]
theorem cmpI_zero {a b : List UInt8} : cmpI a b = 0 ↔ a = b := by
 unfold cmpI
 by_cases h : bytesLt a b = true
 ·rw [if_pos h]
  refine ⟨fun h => by simp at h, fun e => ?_⟩
  rw [e, bytesLt_irr] at h; cases h
 ·rw [if_neg h]
  by_cases h2 : bytesLt b a = true
  ·rw [if_pos h2]
   refine ⟨fun h => by simp at h, fun e => ?_⟩
   rw [e, bytesLt_irr] at h2; cases h2
  ·rw [if_neg h2]
   exact ⟨fun _ => bytesLt_tri _ _ (by simpa using h) (by simpa using h2), fun _ => rfl⟩
theorem first_neg {a : Int} {l : List Int} : firstNZ (a :: l) < 0 ↔ a < 0 ∨ (a = 0 ∧ firstNZ l < 0) := by
 show (if a ≠ 0 then a else firstNZ l) < 0 ↔ _
 by_cases h : a = 0
 ·rw [if_neg (fun hh => hh h)]; simp [h]
 ·rw [if_pos h]; simp [h]
theorem lessB_iff {x y : HitD} : lessB x y = true ↔ ltH x y := by
 unfold lessB ordD ordL ltH
 rw [decide_eq_true_iff, first_neg, first_neg, first_neg, first_neg, cmpN_neg, cmpN_zero, cmpN_neg, cmpN_zero, cmpI_neg, cmpI_zero, cmpN_neg, cmpN_zero]
 have e1 : (firstNZ [] : Int) = 0 := rfl
 rw [e1]
 have e2 : bitI x.e.gone < bitI y.e.gone ↔ (x.e.gone = false ∧ y.e.gone = true) := by
  cases x.e.gone <;> cases y.e.gone <;> decide
 rw [e2]
 simp only [Int.ofNat_lt, Int.natCast_inj, Int.lt_irrefl, and_false, or_false]
 constructor
 ·rintro (h | ⟨h0, h | ⟨h1, h | ⟨h2, h⟩⟩⟩)
  ·exact .inl h
  ·exact .inr ⟨h0, .inl h⟩
  ·exact .inr ⟨h0, .inr ⟨h1.symm, .inl h⟩⟩
  ·exact .inr ⟨h0, .inr ⟨h1.symm, .inr ⟨h2, h⟩⟩⟩
 ·rintro (h | ⟨h0, h | ⟨h1, h | ⟨h2, h⟩⟩⟩)
  ·exact .inl h
  ·exact .inr ⟨h0, .inl h⟩
  ·exact .inr ⟨h0, .inr ⟨h1.symm, .inl h⟩⟩
  ·exact .inr ⟨h0, .inr ⟨h1.symm, .inr ⟨h2, h⟩⟩⟩
theorem ltH_irr (x : HitD) : ¬ ltH x x := by
 rintro (h | ⟨-, h | ⟨-, h | ⟨-, h1, h2⟩⟩⟩)
 ·exact Nat.lt_irrefl _ h
 ·exact Nat.lt_irrefl _ h
 ·exact lt_irr _ h
 ·rw [h1] at h2; cases h2
theorem ltH_tr {x y z : HitD} (h : ltH x y) (k : ltH y z) : ltH x z := by
 rcases h with h | ⟨h0, h⟩
 ·rcases k with k | ⟨k0, -⟩
  ·exact .inl (by omega)
  ·exact .inl (by omega)
 ·rcases k with k | ⟨k0, k⟩
  ·exact .inl (by omega)
  ·refine .inr ⟨by omega, ?_⟩
   rcases h with h | ⟨h1, h⟩
   ·rcases k with k | ⟨k1, -⟩
    ·exact .inl (by omega)
    ·exact .inl (by omega)
   ·rcases k with k | ⟨k1, k⟩
    ·exact .inl (by omega)
    ·refine .inr ⟨by omega, ?_⟩
     rcases h with h | ⟨h2, h3, h4⟩
     ·rcases k with k | ⟨k2, -⟩
      ·exact .inl (lt_tr h k)
      ·exact .inl (by rw [← k2]; exact h)
     ·rcases k with k | ⟨k2, k3, k4⟩
      ·exact .inl (by rw [h2]; exact k)
      ·rw [h4] at k3; cases k3
theorem ltH_tri {x y : HitD} (h : ¬ ltH x y) (k : ¬ ltH y x) : x = y := by
 have h0 : x.dist = y.dist := by
  rcases Nat.lt_trichotomy x.dist y.dist with h1 | h1 | h1
  ·exact absurd (.inl h1) h
  ·exact h1
  ·exact absurd (.inl h1) k
 have h1 : x.e.weight = y.e.weight := by
  rcases Nat.lt_trichotomy x.e.weight y.e.weight with h1 | h1 | h1
  ·exact absurd (.inr ⟨h0.symm, .inl h1⟩) k
  ·exact h1
  ·exact absurd (.inr ⟨h0, .inl h1⟩) h
 have h2 : x.e.word = y.e.word := lt_tri (fun h2 => h (.inr ⟨h0, .inr ⟨h1, .inl h2⟩⟩)) (fun h2 => k (.inr ⟨h0.symm, .inr ⟨h1.symm, .inl h2⟩⟩))
 have h3 : x.e.gone = y.e.gone := by
  cases hx : x.e.gone <;> cases hy : y.e.gone
  ·rfl
  ·exact absurd (.inr ⟨h0, .inr ⟨h1, .inr ⟨h2, hx, hy⟩⟩⟩) h
  ·exact absurd (.inr ⟨h0.symm, .inr ⟨h1.symm, .inr ⟨h2.symm, hy, hx⟩⟩⟩) k
  ·rfl
 obtain ⟨⟨a, b, c⟩, d⟩ := x
 obtain ⟨⟨a', b', c'⟩, d'⟩ := y
 simp only at h0 h1 h2 h3
 subst h0 h1 h2 h3
 rfl
end Go.Proofs.YtnelkapmmgggdaaGreat.rnk

/-
 Model: slices.SortFunc of hits: the kit's contract laid at this program (the laying was written by the kit's tool).
-/
namespace Go.Proofs.YtnelkapmmgggdaaGreat.mdl
open Go.Shelf
def sortHit_ren : Go.Shelf.Ren := ⟨fun | 6 => 68 | 15 => 77 | 14 => 76 | 28 => 94 | 29 => 95 | 20 => 86 | 21 => 87 | 22 => 88 | 23 => 89 | 24 => 90 | 25 => 91 | 26 => 92 | 27 => 93 | 46 => 98 | 47 => 99 | 48 => 100 | 49 => 101 | 50 => 102 | 57 => 103 | n => n, fun | 22 => 42 | 24 => 73 | 25 => 122 | 3 => 3 | 39 => 112 | 0 => 0 | 53 => 41 | 55 => 149 | 4 => 4 | 46 => 142 | 45 => 141 | 50 => 93 | 5 => 5 | 9 => 9 | 66 => 152 | 70 => 156 | 76 => 158 | 77 => 159 | n => n, fun | n => n⟩
theorem sortHit : Go.Proofs.SlLaysF0.n6 Tryz.prog sortHit_ren := {
 mixed := by kernel_rfl
 f6 := ⟨Tryz.f68.name, by decide, Tryz.func68.trans (congrArg some (by kernel_rfl))⟩
 f14 := ⟨Tryz.f76.name, by decide, Tryz.func76.trans (congrArg some (by kernel_rfl))⟩
 f15 := Tryz.func77.trans (congrArg some (by kernel_rfl))
 f20 := ⟨Tryz.f86.name, by decide, Tryz.func86.trans (congrArg some (by kernel_rfl))⟩
 f21 := ⟨Tryz.f87.name, by decide, Tryz.func87.trans (congrArg some (by kernel_rfl))⟩
 f22 := ⟨Tryz.f88.name, by decide, Tryz.func88.trans (congrArg some (by kernel_rfl))⟩
 f23 := ⟨Tryz.f89.name, by decide, Tryz.func89.trans (congrArg some (by kernel_rfl))⟩
 f24 := ⟨Tryz.f90.name, by decide, Tryz.func90.trans (congrArg some (by kernel_rfl))⟩
 f25 := ⟨Tryz.f91.name, by decide, Tryz.func91.trans (congrArg some (by kernel_rfl))⟩
 f26 := ⟨Tryz.f92.name, by decide, Tryz.func92.trans (congrArg some (by kernel_rfl))⟩
 f27 := ⟨Tryz.f93.name, by decide, Tryz.func93.trans (congrArg some (by kernel_rfl))⟩
 f28 := Tryz.func94.trans (congrArg some (by kernel_rfl))
 f29 := Tryz.func95.trans (congrArg some (by kernel_rfl))
 f46 := ⟨Tryz.f98.name, by decide, Tryz.func98.trans (congrArg some (by kernel_rfl))⟩
 f47 := Tryz.func99.trans (congrArg some (by kernel_rfl))
 f48 := Tryz.func100.trans (congrArg some (by kernel_rfl))
 f49 := ⟨Tryz.f101.name, by decide, Tryz.func101.trans (congrArg some (by kernel_rfl))⟩
 f50 := ⟨Tryz.f102.name, by decide, Tryz.func102.trans (congrArg some (by kernel_rfl))⟩
 f57 := ⟨Tryz.f103.name, by decide, Tryz.func103.trans (congrArg some (by kernel_rfl))⟩
 t0 := Tryz.underlying0
 a0 := Tryz.isAgg0
 z0 := Tryz.sizeOf0
 v0 := Tryz.zeroValue0
 t3 := Tryz.underlying3
 a3 := Tryz.isAgg3
 z3 := Tryz.sizeOf3
 v3 := Tryz.zeroValue3
 t4 := Tryz.underlying4
 a4 := Tryz.isAgg4
 z4 := Tryz.sizeOf4
 v4 := Tryz.zeroValue4
 t5 := Tryz.underlying5
 a5 := Tryz.isAgg5
 z5 := Tryz.sizeOf5
 v5 := Tryz.zeroValue5
 t9 := Tryz.underlying9
 a9 := Tryz.isAgg9
 z9 := Tryz.sizeOf9
 v9 := Tryz.zeroValue9
 t22 := Tryz.underlying42
 a22 := Tryz.isAgg42
 z22 := Tryz.sizeOf42
 v22 := Tryz.zeroValue42
 t25 := Tryz.underlying122
 a25 := Tryz.isAgg122
 z25 := Tryz.sizeOf122
 v25 := Tryz.zeroValue122
 t39 := Tryz.underlying112
 a39 := Tryz.isAgg112
 z39 := Tryz.sizeOf112
 v39 := Tryz.zeroValue112
 t45 := Tryz.underlying141
 a45 := Tryz.isAgg141
 z45 := Tryz.sizeOf141
 v45 := Tryz.zeroValue141
 t46 := Tryz.underlying142
 a46 := Tryz.isAgg142
 z46 := Tryz.sizeOf142
 v46 := Tryz.zeroValue142
 t50 := Tryz.underlying93
 a50 := Tryz.isAgg93
 z50 := Tryz.sizeOf93
 v50 := Tryz.zeroValue93
 t53 := Tryz.underlying41
 a53 := Tryz.isAgg41
 z53 := Tryz.sizeOf41
 v53 := Tryz.zeroValue41
 t55 := Tryz.underlying149
 a55 := Tryz.isAgg149
 z55 := Tryz.sizeOf149
 v55 := Tryz.zeroValue149
 t66 := Tryz.underlying152
 a66 := Tryz.isAgg152
 z66 := Tryz.sizeOf152
 v66 := Tryz.zeroValue152
 t70 := Tryz.underlying156
 a70 := Tryz.isAgg156
 z70 := Tryz.sizeOf156
 v70 := Tryz.zeroValue156
 t76 := Tryz.underlying158
 a76 := Tryz.isAgg158
 z76 := Tryz.sizeOf158
 v76 := Tryz.zeroValue158
 t77 := Tryz.underlying159
 a77 := Tryz.isAgg159
 z77 := Tryz.sizeOf159
 v77 := Tryz.zeroValue159 }
end Go.Proofs.YtnelkapmmgggdaaGreat.mdl

/-
 Model: slices.SortFunc of hits, known.
-/
namespace Go.Proofs.YtnelkapmmgggdaaGreat.rnk
open Go.Am Go.Mdl Go.Sort
open Go.Proofs.YtnelkapmmgggdaaGreat.mdl (tb0 tb0_ok fn_at)
set_option linter.unusedSimpArgs false
set_option linter.unusedVariables false
set_option linter.unusedVariables false

def sortH (l : List HitD) : List HitD := l.mergeSort fun x y => !lessB y x
theorem sortH_len (l : List HitD) : (sortH l).length = l.length := List.length_mergeSort _
theorem hitC_len (x : HitD) : (hitC x).length = 4 := rfl
theorem hitC_plain (x : HitD) : ∀ v ∈ hitC x, plainV v = true := by
 intro v hv
 unfold hitC at hv
 simp only [List.mem_cons, List.not_mem_nil, or_false] at hv
 rcases hv with rfl | rfl | rfl | rfl <;> rfl
theorem lt_lessB (x y : HitD) : ltOf ordD x y = lessB x y := rfl
theorem swoH : SWO (ltOf ordD) where
 irrefl x := by
  rw [lt_lessB]
  cases h : lessB x x with
  | false => rfl
  | true => exact absurd (lessB_iff.1 h) (ltH_irr x)
 trans x y z h1 h2 := by
  rw [lt_lessB] at *
  exact lessB_iff.2 (ltH_tr (lessB_iff.1 h1) (lessB_iff.1 h2))
 ntrans x y z h1 h2 := by
  rw [lt_lessB] at *
  cases h : lessB x z with
  | false => rfl
  | true =>
   have n1 : ¬ ltH x y := fun k => by rw [lessB_iff.2 k] at h1; cases h1
   have n2 : ¬ ltH y z := fun k => by rw [lessB_iff.2 k] at h2; cases h2
   have k := lessB_iff.1 h
   by_cases hyx : ltH y x
   ·exact absurd (ltH_tr hyx k) n2
   ·have := ltH_tri n1 hyx
    rw [this] at k
    exact absurd k n2
theorem totH (x y : HitD) (h : ltOf ordD x y = false) (k : ltOf ordD y x = false) : x = y := by
 rw [lt_lessB] at *
 exact ltH_tri (fun hh => by rw [lessB_iff.2 hh] at h; cases h) (fun hh => by rw [lessB_iff.2 hh] at k; cases k)
theorem hit_VRs (x : HitD) : VRs (fun _ => none) (hitC x) (hitC x) := .cons (.string _) (.cons (.int _ _) (.cons (.bool _) (.cons (.int _ _) .nil)))
theorem order_calls (x y : HitD) (w : World) : Calls Tryz.prog 69 #[.agg (hitC x).toArray, .agg (hitC y).toArray] w fun e w' => e = .returned (.int .i64 (ordD x y)) ∧ ∃ q os', w' = grow (w.drewN q) os' := by
 obtain ⟨A', n, h⟩ := run_order x y
 exact call_grown r7_ok h (fn_at Tryz.func69) c53_eq #[.agg (hitC x).toArray, .agg (hitC y).toArray] w (.cons (.agg (hit_VRs x)) (.cons (.agg (hit_VRs y)) .nil))
theorem hook_sort : HookOk r9.P 68 (sortFHook hitC 4 69 sortH) := by
 refine sortF_ok hitC 4 hitC_len (by decide) hitC_plain sortH_len (fun blk off cap d w hH hblk hsz => ?_) (fun w => ?_)
 ·have eg : ∀ args w, (callFunc 69 args).run Tryz.prog w = .ok (.enter 69 args) w := enters_of Tryz.func69 (by kernel_rfl) rfl
  have hcon := AnyQ.slices_SortFunc_total mdl.sortHit 4 Tryz.isAgg73 Tryz.sizeOf73 hitC hitC_len (fun x v hv => by
   unfold hitC at hv
   simp only [List.mem_cons, List.not_mem_nil, or_false] at hv
   rcases hv with rfl | rfl | rfl | rfl <;> rfl) ordD swoH 69 #[] blk off cap d w eg (fun m os dk _ x y => order_calls x y _) hH hblk hsz totH
  exact hcon
 ·exact AnyF.slices_SortFunc_none mdl.sortHit none 0 (.func (.func 69) #[] #[]) w
noncomputable def r10 : Tab := r9.know 68 (sortFHook hitC 4 69 sortH)
theorem r10_ok : TabOk r10 := know_ok r9_ok hook_sort
end Go.Proofs.YtnelkapmmgggdaaGreat.rnk

/-
 Model: words are compared; an entry and a word.
-/
namespace Go.Proofs.YtnelkapmmgggdaaGreat.mdl
open Go.Am Go.Mdl
set_option linter.unusedSimpArgs false
set_option linter.unusedVariables false
set_option linter.unusedVariables false

theorem hook_at {f : FuncId} {fn : Func} {c : Code} (hf : tb0.fn.get f = some fn) (hb : fn.body = some c) {tb : Tab} (ok : TabOk tb) (hP : tb.P = tb0.P) (hfn : tb.fn.get f = tb0.fn.get f) {sp : List Value → Option Value}
  (h : ∀ args v, sp args = some v → (∀ x ∈ args, flat 9 x = true) ∧ flat 9 v = true ∧ ∃ A1, CallsTo tb f args mem0 v A1) : HookOk tb.P f (pureHook sp) := by
 refine hook_pure ok (hfn.trans hf) hb fun args v hs => ?_
 obtain ⟨h1, h2, A1, n, h3⟩ := h args v hs
 exact ⟨h1, h2, n, A1, h3⟩

noncomputable def tb1 : Tab := (rnk.r10.know 20 (pureHook worksK)).know 42 (insHook 59 3)
theorem tb1_ok : TabOk tb1 := know_ok (know_ok rnk.r10_ok hook_works) hook_ins

theorem ev_m1 {t : T Value} : ev t (Operand.const (Value.int .i64 (-1))) = .ok (.int .i64 (-1)) := rfl
def cmpI (a b : List UInt8) : Int := if bytesLt a b = true then -1 else if bytesLt b a = true then 1 else 0
theorem gtr_lt (a b : List UInt8) : (!(bytesLt a b || bytesEq a b)) = bytesLt b a := by
 cases h1 : bytesLt b a with
 | true =>
  have h2 : bytesLt a b = false := by
   cases h : bytesLt a b with
   | false => rfl
   | true => have := bytesLt_trans _ _ _ h h1; rw [bytesLt_irr] at this; cases this
  have h3 : bytesEq a b = false := by
   rw [bytesEq_eq]
   refine beq_eq_false_iff_ne.2 fun e => ?_
   rw [e, bytesLt_irr] at h1; cases h1
  rw [h2, h3]; rfl
 | false =>
  cases h2 : bytesLt a b with
  | true => rfl
  | false =>
   obtain rfl := bytesLt_tri _ _ h2 h1
   rw [bytesEq_eq]
   simp
noncomputable def c66 : Code := Tryz.f72.body.getD .skip
theorem c66_eq : Tryz.f72.body = some (.seq (sub c66 [0]) (.seq (sub c66 [1,0]) (sub c66 [1,1]))) := by kernel_rfl
theorem run_nan (a : List UInt8) : ∃ A', CallsTo tb1 72 [strOf a] mem0 (.bool false) A' := by
 obtain ⟨v, A', h1, h2'⟩ : ∃ v A', CallsTo tb1 72 [strOf a] mem0 v A' ∧ v = .bool false := by
  refine call_of_W (fn_at Tryz.func72) c66_eq (by rw [Tryz.ntmps72]; simp) ?_
  have e : strOpF .neq a a = .ok (.bool false) := by rw [str_neq]; simp
  apply W.seq
  apply W.run 20
  ·intro M
   simp (disch := first | decide +kernel | omega) only [c66, Tryz.f72, Aq, Nat.reduceEqDiff]
   with_reducible rfl
  apply W.seq
  apply W.run 20
  ·intro M
   simp (disch := first | decide +kernel | omega) only [c66, Tryz.f72, Aq, Nat.reduceEqDiff, binF_str, e]
   with_reducible rfl
  apply W.run 20
  ·intro M
   simp (disch := first | decide +kernel | omega) only [c66, Tryz.f72, Aq, Nat.reduceEqDiff]
   with_reducible rfl
  refine ⟨.inr rfl, _, [.bool false], rfl, ?_, rfl⟩
  simp only [Tryz.f72, resF, ev_tmp, T.get_set, Nat.reduceEqDiff, if_true, if_false, evG_some, R.ok_bind]
 exact ⟨A', h2' ▸ h1⟩
def nanK : List Value → Option Value
 | [.string s] => some (.bool false)
 | _ => none
theorem hook_nan : HookOk tb1.P 72 (pureHook nanK) := by
 refine hook_at (fn_at Tryz.func72) c66_eq tb1_ok rfl rfl fun args v h => ?_
 unfold nanK at h
 split at h
 ·rename_i s
  cases h
  obtain ⟨A', h⟩ := run_nan s.data.toList
  exact ⟨by simp [flat], rfl, A', by rw [string_eq]; exact h⟩
 ·cases h
noncomputable def tb2 : Tab := tb1.know 72 (pureHook nanK)
theorem tb2_ok : TabOk tb2 := know_ok tb1_ok hook_nan
theorem k66 {ih : Code → St → R (Ex × St)} {A : Mem} {a : List UInt8} : callF tb2 ih (.fn 72 [strOf a]) A = .ok (.val (.bool false) A) :=
 callF_known (c := (Tryz.f72.body).getD .skip) (fn_at Tryz.func72) (by kernel_rfl) (by kernel_rfl) (h := pureHook nanK) (by kernel_rfl) rfl

noncomputable def c54 : Code := Tryz.f61.body.getD .skip
theorem c54_eq : Tryz.f61.body = some (.seq (sub c54 [0]) (.seq (sub c54 [1,0]) (.seq (sub c54 [1,1,0]) (.seq (sub c54 [1,1,1,0]) (.seq (sub c54 [1,1,1,1,0]) (.seq (.seq (sub c54 [1,1,1,1,1,0,0]) (sub c54 [1,1,1,1,1,0,1])) (.seq (.seq (sub c54 [1,1,1,1,1,1,0,0]) (sub c54 [1,1,1,1,1,1,0,1])) (sub c54 [1,1,1,1,1,1,1])))))))) := by kernel_rfl
theorem run_cmp (a b : List UInt8) : ∃ A', CallsTo tb2 61 [strOf a, strOf b] mem0 (.int .i64 (cmpI a b)) A' := by
 obtain ⟨v, A', h1, h2'⟩ : ∃ v A', CallsTo tb2 61 [strOf a, strOf b] mem0 v A' ∧ v = .int .i64 (cmpI a b) := by
  refine call_of_W (fn_at Tryz.func61) c54_eq (by rw [Tryz.ntmps61]; simp) ?_
  apply W.seq
  apply W.run 20
  ·intro M
   simp (disch := first | decide +kernel | omega) only [c54, Tryz.f61, Aq, Nat.reduceEqDiff]
   with_reducible rfl
  apply W.seq
  apply W.run 20
  ·intro M
   simp (disch := first | decide +kernel | omega) only [c54, Tryz.f61, Aq, Nat.reduceEqDiff, k66]
   with_reducible rfl
  apply W.seq
  apply W.run 20
  ·intro M
   simp (disch := first | decide +kernel | omega) only [c54, Tryz.f61, Aq, Nat.reduceEqDiff, k66]
   with_reducible rfl
  apply W.seq
  apply W.run 20
  ·intro M
   simp (disch := first | decide +kernel | omega) only [c54, Tryz.f61, Aq, Nat.reduceEqDiff]
   with_reducible rfl
  apply W.seq
  apply W.run 20
  ·intro M
   simp (disch := first | decide +kernel | omega) only [c54, Tryz.f61, Aq, Nat.reduceEqDiff]
   with_reducible rfl
  apply W.seq
  apply W.seq
  cases hl : bytesLt a b with
  | true =>
   have e : strOpF .lss a b = .ok (.bool true) := by show R.ok (Value.bool (bytesLt a b)) = _; rw [hl]
   apply W.run 20
   ·intro M
    simp (disch := first | decide +kernel | omega) only [c54, Tryz.f61, Aq, Nat.reduceEqDiff, binF_str, e]
    with_reducible rfl
   apply W.run 20
   ·intro M
    simp (disch := first | decide +kernel | omega) only [c54, Tryz.f61, Aq, Nat.reduceEqDiff, ev_m1]
    with_reducible rfl
   refine ⟨.inr rfl, _, [.int .i64 (-1)], rfl, ?_, ?_⟩
   ·simp only [Tryz.f61, resF, ev_tmp, T.get_set, Nat.reduceEqDiff, if_true, if_false, evG_some, R.ok_bind]
   ·unfold cmpI; rw [if_pos hl]; rfl
  | false =>
   have e : strOpF .lss a b = .ok (.bool false) := by show R.ok (Value.bool (bytesLt a b)) = _; rw [hl]
   apply W.run 20
   ·intro M
    simp (disch := first | decide +kernel | omega) only [c54, Tryz.f61, Aq, Nat.reduceEqDiff, binF_str, e]
    with_reducible rfl
   apply W.run 20
   ·intro M
    simp (disch := first | decide +kernel | omega) only [c54, Tryz.f61, Aq, Nat.reduceEqDiff]
    with_reducible rfl
   apply W.seq
   apply W.seq
   cases hg : bytesLt b a with
   | true =>
    have e2 : strOpF .gtr a b = .ok (.bool true) := by show R.ok (Value.bool (!(bytesLt a b || bytesEq a b))) = _; rw [gtr_lt, hg]
    apply W.run 20
    ·intro M
     simp (disch := first | decide +kernel | omega) only [c54, Tryz.f61, Aq, Nat.reduceEqDiff, binF_str, e2]
     with_reducible rfl
    apply W.run 20
    ·intro M
     simp (disch := first | decide +kernel | omega) only [c54, Tryz.f61, Aq, Nat.reduceEqDiff]
     with_reducible rfl
    refine ⟨.inr rfl, _, [.int .i64 1], rfl, ?_, ?_⟩
    ·simp only [Tryz.f61, resF, ev_tmp, T.get_set, Nat.reduceEqDiff, if_true, if_false, evG_some, R.ok_bind]; try rfl
    ·unfold cmpI; rw [hl, hg]; rfl
   | false =>
    have e2 : strOpF .gtr a b = .ok (.bool false) := by show R.ok (Value.bool (!(bytesLt a b || bytesEq a b))) = _; rw [gtr_lt, hg]
    apply W.run 20
    ·intro M
     simp (disch := first | decide +kernel | omega) only [c54, Tryz.f61, Aq, Nat.reduceEqDiff, binF_str, e2]
     with_reducible rfl
    apply W.run 20
    ·intro M
     simp (disch := first | decide +kernel | omega) only [c54, Tryz.f61, Aq, Nat.reduceEqDiff]
     with_reducible rfl
    apply W.run 20
    ·intro M
     simp (disch := first | decide +kernel | omega) only [c54, Tryz.f61, Aq, Nat.reduceEqDiff]
     with_reducible rfl
    refine ⟨.inr rfl, _, [.int .i64 0], rfl, ?_, ?_⟩
    ·simp only [Tryz.f61, resF, ev_tmp, T.get_set, Nat.reduceEqDiff, if_true, if_false, evG_some, R.ok_bind]; try rfl
    ·unfold cmpI; rw [hl, hg]; rfl
 exact ⟨A', h2' ▸ h1⟩
def cmpK : List Value → Option Value
 | [.string s, .string t] => some (.int .i64 (cmpI s.data.toList t.data.toList))
 | _ => none
theorem hook_cmp : HookOk tb2.P 61 (pureHook cmpK) := by
 refine hook_at (fn_at Tryz.func61) c54_eq tb2_ok rfl rfl fun args v h => ?_
 unfold cmpK at h
 split at h
 ·rename_i s t
  cases h
  obtain ⟨A', h⟩ := run_cmp s.data.toList t.data.toList
  exact ⟨by simp [flat], rfl, A', by rw [string_eq s, string_eq t]; exact h⟩
 ·cases h
noncomputable def tb3 : Tab := tb2.know 61 (pureHook cmpK)
theorem tb3_ok : TabOk tb3 := know_ok tb2_ok hook_cmp
theorem k54 {ih : Code → St → R (Ex × St)} {A : Mem} {a b : List UInt8} : callF tb3 ih (.fn 61 [strOf a, strOf b]) A = .ok (.val (.int .i64 (cmpI a b)) A) :=
 callF_known (c := (Tryz.f61.body).getD .skip) (fn_at Tryz.func61) (by kernel_rfl) (by kernel_rfl) (h := pureHook cmpK) (by kernel_rfl) rfl
end Go.Proofs.YtnelkapmmgggdaaGreat.mdl

/-
 Model: an entry and a word.
-/
namespace Go.Proofs.YtnelkapmmgggdaaGreat.mdl
open Go.Am Go.Mdl
set_option linter.unusedSimpArgs false
set_option linter.unusedVariables false
set_option linter.unusedVariables false

theorem und9 : tb3.und 9 = some .string := by kernel_rfl
theorem und45 : ∃ d, tb3.und 59 = some d ∧ isAggD d = true := by
 cases h : tb3.und 59 with
 | none => exact absurd (show (tb3.und 59).isSome = true by kernel_rfl) (by rw [h]; decide)
 | some d =>
  have e : (tb3.und 59).map isAggD = some true := by kernel_rfl
  rw [h, Option.map_some, Option.some.injEq] at e
  exact ⟨d, rfl, e⟩
def entC (e : EntD) : List Value := [strOf e.word, .int .u32 (e.weight : Int), .bool e.gone]
noncomputable def c36 : Code := Tryz.f41.body.getD .skip
theorem c36_eq : Tryz.f41.body = some (.seq (sub c36 [0]) (.seq (sub c36 [1,0]) (sub c36 [1,1]))) := by kernel_rfl
theorem fa45 {b o j : Nat} (h : j < 3) : fieldAddrF tb3 59 (.pointer (some ⟨b, o, none⟩)) j = .ok (.pointer (some ⟨b, o + j, none⟩)) := by
 rcases (show j = 0 ∨ j = 1 ∨ j = 2 by omega) with rfl | rfl | rfl <;> kernel_rfl
theorem run_by (a w : List UInt8) (k : Int) (g : Bool) : ∃ A', CallsTo tb3 41 [.agg ⟨[strOf a, .int .u32 k, .bool g]⟩, strOf w] mem0 (.int .i64 (cmpI a w)) A' := by
 obtain ⟨v, A', h1, h2'⟩ : ∃ v A', CallsTo tb3 41 [.agg ⟨[strOf a, .int .u32 k, .bool g]⟩, strOf w] mem0 v A' ∧ v = .int .i64 (cmpI a w) := by
  refine call_of_W (fn_at Tryz.func41) c36_eq (by rw [Tryz.ntmps41]; simp) ?_
  have hf := fa45 (b := mem0.next) (o := 0) (j := 0) (by decide)
  have hl : loadF tb3 (mem0.alloc (rowOb 59 [strOf a, .int .u32 k, .bool g])).get 9 (.pointer (some ⟨mem0.next, 0, none⟩)) = .ok (strOf a) := load_vals und9 rfl (vals_puts (get_alloc_self _ _)) rfl
  apply W.seq
  apply W.run 20
  ·intro M
   simp (disch := first | decide +kernel | omega) only [c36, Tryz.f41, Aq, Nat.reduceEqDiff]
   with_reducible rfl
  apply W.seq
  apply W.run 20
  ·intro M
   simp (disch := first | decide +kernel | omega) only [c36, Tryz.f41, Aq, Nat.reduceEqDiff, hf, hl, k54]
   with_reducible rfl
  apply W.run 20
  ·intro M
   simp (disch := first | decide +kernel | omega) only [c36, Tryz.f41, Aq, Nat.reduceEqDiff]
   with_reducible rfl
  refine ⟨.inr rfl, _, [.int .i64 (cmpI a w)], rfl, ?_, rfl⟩
  simp only [Tryz.f41, resF, ev_tmp, T.get_set, Nat.reduceEqDiff, if_true, if_false, evG_some, R.ok_bind]
 exact ⟨A', h2' ▸ h1⟩
def byK : List Value → Option Value
 | [.agg ⟨[.string s, .int .u32 _, .bool _]⟩, .string t] => some (.int .i64 (cmpI s.data.toList t.data.toList))
 | _ => none
theorem hook_by : HookOk tb3.P 41 (pureHook byK) := by
 refine hook_at (fn_at Tryz.func41) c36_eq tb3_ok rfl rfl fun args v h => ?_
 unfold byK at h
 split at h
 ·rename_i s k g t
  cases h
  obtain ⟨A', h⟩ := run_by s.data.toList t.data.toList k g
  exact ⟨by simp [flat], rfl, A', by rw [string_eq s, string_eq t]; exact h⟩
 ·cases h
noncomputable def tb4 : Tab := tb3.know 41 (pureHook byK)
theorem tb4_ok : TabOk tb4 := know_ok tb3_ok hook_by
theorem k36 {ih : Code → St → R (Ex × St)} {A : Mem} {e : EntD} {w : List UInt8} : callF tb4 ih (.fn 41 [.agg ⟨entC e⟩, strOf w]) A = .ok (.val (.int .i64 (cmpI e.word w)) A) :=
 callF_known (c := (Tryz.f41.body).getD .skip) (fn_at Tryz.func41) (by kernel_rfl) (by kernel_rfl) (h := pureHook byK) (by kernel_rfl) rfl
end Go.Proofs.YtnelkapmmgggdaaGreat.mdl

/-
 Model: where a word stands in a list.
-/
namespace Go.Proofs.YtnelkapmmgggdaaGreat.mdl
open Go.Am Go.Mdl
set_option linter.unusedSimpArgs false
set_option linter.unusedVariables false
set_option linter.unusedVariables false

theorem und32' : tb4.und 24 = some (.slice 59) := by kernel_rfl
theorem size45' : sizeF tb4 59 = .ok 3 := by kernel_rfl
theorem und45' : ∃ d, tb4.und 59 = some d ∧ isAggD d = true := und45
theorem und3' : tb4.und 3 = some (.int .i64) := by kernel_rfl
theorem und108 : tb4.und 112 = some (.int .u64) := by kernel_rfl
theorem to_u {m : Nat} (h : m < 9223372036854775808) : convPF tb4 3 112 (.int .i64 (m : Int)) = .ok (.int .u64 (m : Int)) := by
 unfold convPF
 simp only [und3', und108]
 rw [Go.Am.wrapF_u64 (by omega)]
theorem to_i {m : Nat} (h : m < 9223372036854775808) : convPF tb4 112 3 (.int .u64 (m : Int)) = .ok (.int .i64 (m : Int)) := by
 unfold convPF
 simp only [und3', und108]
 rw [wrapF_i64 (by omega)]
theorem shr1 {m : Nat} {d : Option TypeDesc} : binF .shr d (.int .u64 (m : Int)) (.int .u64 ((1 : Nat) : Int)) = .ok (.int .u64 ((m / 2 : Nat) : Int)) := by
 rw [binF_shr (by decide), Nat.shiftRight_succ, Nat.shiftRight_zero]
abbrev EntS (A : Mem) (b : Nat) (l : List EntD) (x : Value) : Prop := SlcM A 59 3 b (l.map entC) x
def Pos (l : List EntD) (w : List UInt8) (i : Nat) : Prop := i ≤ l.length ∧ (∀ k e, k < i → l[k]? = some e → lt e.word w) ∧ ∀ k e, i ≤ k → l[k]? = some e → ¬ lt e.word w
theorem asc_get : ∀ {l : List EntD} {i j : Nat} {x y : EntD}, Asc l → i < j → l[i]? = some x → l[j]? = some y → lt x.word y.word
 | [], _, _, _, _, _, _, h, _ => by simp at h
 | a :: l, 0, j + 1, x, y, h, _, hx, hy => by
  simp only [List.getElem?_cons_zero, Option.some.injEq] at hx
  subst hx
  exact h.1 y (List.mem_of_getElem? (by simpa using hy))
 | a :: l, i + 1, j + 1, x, y, h, hij, hx, hy => asc_get (l := l) (i := i) (j := j) h.2 (by omega) (by rwa [List.getElem?_cons_succ] at hx) (by rwa [List.getElem?_cons_succ] at hy)
theorem cmpI_neg {a b : List UInt8} : cmpI a b < 0 ↔ lt a b := by
 unfold cmpI lt
 by_cases h : bytesLt a b = true
 ·rw [if_pos h]; simp [h]
 ·rw [if_neg h]
  by_cases h2 : bytesLt b a = true
  ·rw [if_pos h2]; simp [h]
  ·rw [if_neg h2]; simp [h]
theorem cmpI_zero {a b : List UInt8} : cmpI a b = 0 ↔ a = b := by
 unfold cmpI
 by_cases h : bytesLt a b = true
 ·rw [if_pos h]
  refine ⟨fun h => by simp at h, fun e => ?_⟩
  rw [e, bytesLt_irr] at h; cases h
 ·rw [if_neg h]
  by_cases h2 : bytesLt b a = true
  ·rw [if_pos h2]
   refine ⟨fun h => by simp at h, fun e => ?_⟩
   rw [e, bytesLt_irr] at h2; cases h2
  ·rw [if_neg h2]
   exact ⟨fun _ => bytesLt_tri _ _ (by simpa using h) (by simpa using h2), fun _ => rfl⟩
noncomputable def c35 : Code := Tryz.f40.body.getD .skip
noncomputable def c35b1 : Code := sub c35 [1,1,1,0,0,0]
theorem c35_eq : Tryz.f40.body = some (.seq (sub c35 [0]) (.seq (sub c35 [1,0]) (.seq (sub c35 [1,1,0]) (.seq (.block 0 (.loop c35b1)) (.seq (sub c35 [1,1,1,1,0]) (sub c35 [1,1,1,1,1])))))) := by kernel_rfl
theorem c35b1_eq : c35b1 = .seq (.seq (sub c35b1 [0,0]) (sub c35b1 [0,1])) (.block 1 (.seq (sub c35b1 [1,0,0]) (.seq (sub c35b1 [1,0,1,0]) (.cond (.tmp 31) (sub c35b1 [1,0,1,1,0]) (sub c35b1 [1,0,1,1,1]))))) := by kernel_rfl
def bsS (x : Value) (w : List UInt8) (n i j : Nat) : List (Nat × Value) := [(0, x), (1, strOf w), (2, .func (.func 41) ⟨[]⟩ ⟨[]⟩), (8, .int .i64 (n : Int)), (9, .int .i64 (i : Int)), (10, .int .i64 (j : Int))]
theorem bs_round {l : List EntD} {w : List UInt8} {A : Mem} {b i j : Nat} {x : Value} {t : T Value} {K : Ex → St → Prop} (h : EntS A b l x) (hij : i < j) (hj : j ≤ l.length) (hl : l.length < 4611686018427387904) (ht : Sl t (bsS x w l.length i j))
  (hK : ∀ (t' : T Value) (e : EntD), l[(i + j) / 2]? = some e → (lt e.word w → Sl t' (bsS x w l.length ((i + j) / 2 + 1) j)) → (¬ lt e.word w → Sl t' (bsS x w l.length i ((i + j) / 2))) → K .nrm ⟨t', 49, [], A, none⟩) :
  W tb4 (.seq (sub c35b1 [1,0,0]) (.seq (sub c35b1 [1,0,1,0]) (.cond (.tmp 31) (sub c35b1 [1,0,1,1,0]) (sub c35b1 [1,0,1,1,1])))) ⟨t, 49, [], A, none⟩ K := by
 obtain ⟨g0, g1, g2, g8, g9, g10, -⟩ := ht
 apply W.seq
 have hm : (i + j) / 2 < l.length := by omega
 have c1 := to_u (m := i + j) (by omega)
 have c2 := shr1 (m := i + j) (d := tb4.und 112)
 have c3 := to_i (m := (i + j) / 2) (by omega)
 have hidx : indexAddrF tb4 24 x (.int .i64 (((i + j) / 2 : Nat) : Int)) = .ok (.pointer (some ⟨b, (i + j) / 2 * 3, none⟩)) := h.idx und32' size45' (by rw [List.length_map]; exact hm)
 obtain ⟨e, he⟩ : ∃ e, l[(i + j) / 2]? = some e := ⟨_, List.getElem?_eq_getElem hm⟩
 obtain ⟨d45, hd1, hd2⟩ := und45'
 have hld : loadF tb4 A.get 59 (.pointer (some ⟨b, (i + j) / 2 * 3, none⟩)) = .ok (.agg ⟨entC e⟩) := h.load_all hd1 hd2 size45' (by rw [List.getElem?_map, he]; rfl)
 apply W.run 20
 ·intro M
  simp (disch := first | decide +kernel | omega) only [c35b1, c35, Tryz.f40, Aq, Nat.reduceEqDiff, g9, g10, c1, c2, c3]
  with_reducible rfl
 apply W.seq
 by_cases hc : cmpI e.word w < 0
 ·have hlss : intOpF .lss .i64 (cmpI e.word w) ((0 : Nat) : Int) = .ok (.bool true) := by
   unfold cmpI at hc ⊢
   split
   ·rfl
   ·rename_i h1
    rw [if_neg h1] at hc
    split at hc <;> simp at hc
  apply W.run 20
  ·intro M
   simp (disch := first | decide +kernel | omega) only [c35b1, c35, Tryz.f40, Aq, Nat.reduceEqDiff, g0, g1, g2, hidx, hld, k36, hlss]
   with_reducible rfl
  apply W.run 20
  ·intro M
   simp (disch := first | decide +kernel | omega) only [c35b1, c35, Tryz.f40, Aq, Nat.reduceEqDiff]
   with_reducible rfl
  refine hK _ e he (fun _ => ?_) (fun hn => absurd (cmpI_neg.1 hc) hn)
  unfold bsS
  simp only [Sl_cons, Sl_nil, T.get_set, T.puts_cons, T.puts_nil, Nat.reduceEqDiff, Nat.reduceAdd, if_true, if_false, and_true, true_and, g0, g1, g2, g8, g10]
 ·have hlss : intOpF .lss .i64 (cmpI e.word w) ((0 : Nat) : Int) = .ok (.bool false) := by
   unfold cmpI at hc ⊢
   split
   ·rename_i h1
    rw [if_pos h1] at hc; simp at hc
   ·split <;> rfl
  apply W.run 20
  ·intro M
   simp (disch := first | decide +kernel | omega) only [c35b1, c35, Tryz.f40, Aq, Nat.reduceEqDiff, g0, g1, g2, hidx, hld, k36, hlss]
   with_reducible rfl
  apply W.run 20
  ·intro M
   simp (disch := first | decide +kernel | omega) only [c35b1, c35, Tryz.f40, Aq, Nat.reduceEqDiff]
   with_reducible rfl
  refine hK _ e he (fun hy => absurd (cmpI_neg.2 hy) hc) (fun _ => ?_)
  unfold bsS
  simp only [Sl_cons, Sl_nil, T.get_set, T.puts_cons, T.puts_nil, Nat.reduceEqDiff, Nat.reduceAdd, if_true, if_false, and_true, true_and, g0, g1, g2, g8, g9]

def isAt (l : List EntD) (w : List UInt8) (i : Nat) : Bool :=
 match l[i]? with
 | some e => decide (e.word = w)
 | none => false
theorem run_bs {l : List EntD} {w : List UInt8} {A : Mem} {b : Nat} {x : Value} (h : EntS A b l x) (ha : Asc l) (hl : l.length < 4611686018427387904) :
  ∃ i, Pos l w i ∧ Ans tb4 40 [x, strOf w, .func (.func 41) ⟨[]⟩ ⟨[]⟩] A (.tuple ⟨[.int .i64 (i : Int), .bool (isAt l w i)]⟩) A := by
 obtain ⟨v, A', hg, i, hp, rfl, rfl⟩ : ∃ v A', Ans tb4 40 [x, strOf w, .func (.func 41) ⟨[]⟩ ⟨[]⟩] A v A' ∧ ∃ i, Pos l w i ∧ v = .tuple ⟨[.int .i64 (i : Int), .bool (isAt l w i)]⟩ ∧ A' = A := by
  refine ans_of_W (fn_at Tryz.func40) c35_eq (by rw [Tryz.ntmps40]; simp) (by kernel_rfl) (by kernel_rfl) ?_
  have hlen : builtinPF tb4 .len [24] [x] = .ok (.int .i64 ((l.length : Nat) : Int)) := by
   have := h.len (tb := tb4) und32'
   rwa [List.length_map] at this
  apply W.seq
  apply W.run 20
  ·intro M
   simp (disch := first | decide +kernel | omega) only [c35, Tryz.f40, Aq, Nat.reduceEqDiff]
   with_reducible rfl
  apply W.seq
  apply W.run 20
  ·intro M
   simp (disch := first | decide +kernel | omega) only [c35, Tryz.f40, Aq, Nat.reduceEqDiff, hlen]
   with_reducible rfl
  apply W.seq
  apply W.run 20
  ·intro M
   simp (disch := first | decide +kernel | omega) only [c35, Tryz.f40, Aq, Nat.reduceEqDiff]
   with_reducible rfl
  apply W.seq
  apply W.block
  refine W.fall (fun m t C => ∃ i j, C = A ∧ m = j - i ∧ i ≤ j ∧ j ≤ l.length ∧ (∀ k e, k < i → l[k]? = some e → lt e.word w) ∧ (∀ k e, j ≤ k → l[k]? = some e → ¬ lt e.word w) ∧ Sl t (bsS x w l.length i j)) ?_ (k := l.length) ⟨0, l.length, rfl, rfl, Nat.zero_le _, Nat.le_refl _, fun k e hk _ => absurd hk (Nat.not_lt_zero _), fun k e hk he => (by rw [List.getElem?_eq_none hk] at he; cases he), ?_⟩
  ·rintro m t C ⟨i, j, rfl, rfl, hij, hj, h1, h2, hs⟩
   obtain ⟨g0, g1, g2, g8, g9, g10, -⟩ := hs
   by_cases hlt : i < j
   ·rw [c35b1_eq]
    apply W.seq
    apply W.seq
    apply W.run 20
    ·intro M
     simp (disch := first | decide +kernel | omega) only [c35b1, c35, Tryz.f40, Aq, Nat.reduceEqDiff, g9, g10, hlt]
     with_reducible rfl
    apply W.run 20
    ·intro M
     simp (disch := first | decide +kernel | omega) only [c35b1, c35, Tryz.f40, Aq, Nat.reduceEqDiff]
     with_reducible rfl
    apply W.block
    refine bs_round (w := w) h hlt hj hl (by unfold bsS; simp only [Sl_cons, Sl_nil, T.get_set, T.puts_cons, T.puts_nil, Nat.reduceEqDiff, Nat.reduceAdd, if_true, if_false, and_true, true_and, g0, g1, g2, g8, g9, g10]) fun t' e he p1 p2 => ?_
    by_cases hle : lt e.word w
    ·refine ⟨j - ((i + j) / 2 + 1), _, _, by omega, rfl, (i + j) / 2 + 1, j, rfl, rfl, by omega, hj, fun k e' hk he' => ?_, h2, p1 hle⟩
     rcases Nat.lt_or_ge k ((i + j) / 2) with hq | hq
     ·exact lt_tr (asc_get ha hq he' he) hle
     ·have : k = (i + j) / 2 := by omega
      subst this
      rw [he] at he'
      cases he'
      exact hle
    ·refine ⟨(i + j) / 2 - i, _, _, by omega, rfl, i, (i + j) / 2, rfl, rfl, by omega, by omega, h1, fun k e' hk he' hc => ?_, p2 hle⟩
     rcases Nat.lt_or_ge ((i + j) / 2) k with hq | hq
     ·exact hle (lt_tr (asc_get ha hq he he') hc)
     ·have : k = (i + j) / 2 := by omega
      subst this
      rw [he] at he'
      cases he'
      exact hle hc
   ·have hji : j = i := by omega
    subst hji
    rw [c35b1_eq]
    apply W.seq
    apply W.seq
    apply W.run 20
    ·intro M
     simp (disch := first | decide +kernel | omega) only [c35b1, c35, Tryz.f40, Aq, Nat.reduceEqDiff, g9, g10, hlt]
     with_reducible rfl
    apply W.run 20
    ·intro M
     simp (disch := first | decide +kernel | omega) only [c35b1, c35, Tryz.f40, Aq, Nat.reduceEqDiff]
     with_reducible rfl
    apply W.seq
    have hp : Pos l w j := ⟨hj, h1, h2⟩
    cases he : l[j]? with
    | none =>
     have hnl : ¬ j < l.length := fun hh => by rw [List.getElem?_eq_getElem hh] at he; cases he
     have hat : isAt l w j = false := by unfold isAt; rw [he]
     apply W.run 20
     ·intro M
      simp (config := { maxSteps := 4000000 }) (disch := first | decide +kernel | omega | simp only [Wq, Nat.reduceEqDiff]) only [c35, Tryz.f40, Aq, Nat.ble, reduceIte, Nat.reduceEqDiff, Nat.reduceAdd, g0, g1, g2, g8, g9, hnl]
      with_reducible rfl
     apply W.run 20
     ·intro M
      simp (disch := first | decide +kernel | omega) only [c35, Tryz.f40, Aq, Nat.reduceEqDiff]
      with_reducible rfl
     refine ⟨.inr rfl, C, [.int .i64 (j : Int), .bool false], rfl, ?_, j, hp, by rw [hat]; rfl, rfl⟩
     simp only [Tryz.f40, resF, ev_tmp, T.get_set, Nat.reduceEqDiff, if_true, if_false, evG_some, R.ok_bind]
    | some e =>
     have hjl : j < l.length := (List.getElem?_eq_some_iff.1 he).1
     have hat : isAt l w j = decide (e.word = w) := by unfold isAt; rw [he]
     have hidx : indexAddrF tb4 24 x (.int .i64 ((j : Nat) : Int)) = .ok (.pointer (some ⟨b, j * 3, none⟩)) := h.idx und32' size45' (by rw [List.length_map]; exact hjl)
     obtain ⟨d45, hd1, hd2⟩ := und45'
     have hld : loadF tb4 C.get 59 (.pointer (some ⟨b, j * 3, none⟩)) = .ok (.agg ⟨entC e⟩) := h.load_all hd1 hd2 size45' (by rw [List.getElem?_map, he]; rfl)
     have heq : intOpF .eql .i64 (cmpI e.word w) ((0 : Nat) : Int) = .ok (.bool (decide (e.word = w))) := by
      by_cases hw : e.word = w
      ·rw [decide_eq_true hw, cmpI_zero.2 hw]; rfl
      ·rw [decide_eq_false hw]
       have hc : cmpI e.word w ≠ 0 := fun hh => hw (cmpI_zero.1 hh)
       unfold cmpI at hc ⊢
       split
       ·rfl
       ·split
        ·rfl
        ·rename_i q1 q2
         rw [if_neg q1, if_neg q2] at hc
         exact absurd rfl hc
     apply W.run 20
     ·intro M
      simp (config := { maxSteps := 4000000 }) (disch := first | decide +kernel | omega | simp only [Wq, Nat.reduceEqDiff]) only [c35, Tryz.f40, Aq, Nat.ble, reduceIte, Nat.reduceEqDiff, Nat.reduceAdd, g0, g1, g2, g8, g9, hjl, hidx, hld, k36, heq]
      with_reducible rfl
     apply W.run 20
     ·intro M
      simp (disch := first | decide +kernel | omega) only [c35, Tryz.f40, Aq, Nat.reduceEqDiff]
      with_reducible rfl
     refine ⟨.inr rfl, C, [.int .i64 (j : Int), .bool (decide (e.word = w))], rfl, ?_, j, hp, by rw [hat]; rfl, rfl⟩
     simp only [Tryz.f40, resF, ev_tmp, T.get_set, Nat.reduceEqDiff, if_true, if_false, evG_some, R.ok_bind]
  ·unfold bsS
   simp only [Sl_cons, Sl_nil, T.get_set, T.puts_cons, T.puts_nil, Nat.reduceEqDiff, Nat.reduceAdd, if_true, if_false, and_true, true_and]
 exact ⟨i, hp, hg⟩
end Go.Proofs.YtnelkapmmgggdaaGreat.mdl

/-
 Model: an entry is laid in where its word stands.
-/
namespace Go.Proofs.YtnelkapmmgggdaaGreat.mdl
open Go.Am Go.Mdl
set_option linter.unusedSimpArgs false
set_option linter.unusedVariables false
set_option linter.unusedVariables false

theorem Pos.tail {x : EntD} {l : List EntD} {w : List UInt8} {i : Nat} (h : Pos (x :: l) w (i + 1)) : Pos l w i ∧ lt x.word w := by
 obtain ⟨h1, h2, h3⟩ := h
 refine ⟨⟨by simpa using h1, fun k e hk he => h2 (k + 1) e (by omega) (by rwa [List.getElem?_cons_succ]), fun k e hk he => h3 (k + 1) e (by omega) (by rwa [List.getElem?_cons_succ])⟩, h2 0 x (by omega) rfl⟩
theorem one_pos {e : EntD} : ∀ {l : List EntD} {i : Nat}, Pos l e.word i → oneL e l = if isAt l e.word i = true then l.set i e else l.take i ++ e :: l.drop i
 | [], i, h => by
  have : i = 0 := by simpa using h.1
  subst this
  rfl
 | x :: l, 0, h => by
  have hx := h.2.2 0 x (Nat.le_refl _) rfl
  unfold oneL
  rw [if_neg hx]
  have hat : isAt (x :: l) e.word 0 = decide (x.word = e.word) := rfl
  rw [hat]
  by_cases hw : x.word = e.word
  ·rw [if_pos hw, if_pos (by simp [hw])]; rfl
  ·rw [if_neg hw, if_neg (by simp [hw])]; rfl
 | x :: l, i + 1, h => by
  obtain ⟨h1, h2⟩ := h.tail
  have ih := one_pos h1
  unfold oneL
  rw [if_pos h2, ih]
  have hat : isAt (x :: l) e.word (i + 1) = isAt l e.word i := by unfold isAt; rw [List.getElem?_cons_succ]
  rw [hat]
  split
  ·rfl
  ·rfl

theorem flat_map_take (f : EntD → List Value) (hf : ∀ e, (f e).length = 3) : ∀ (l : List EntD) (i : Nat), ((l.map f).flatten).take (i * 3) = ((l.take i).map f).flatten
 | [], i => by simp
 | x :: l, 0 => by simp
 | x :: l, i + 1 => by
  rw [List.map_cons, List.flatten_cons, List.take_succ_cons, List.map_cons, List.flatten_cons, List.take_append, hf, List.take_of_length_le (by rw [hf]; omega), show (i + 1) * 3 - 3 = i * 3 by omega, flat_map_take f hf l i]
theorem flat_map_drop (f : EntD → List Value) (hf : ∀ e, (f e).length = 3) : ∀ (l : List EntD) (i : Nat), ((l.map f).flatten).drop (i * 3) = ((l.drop i).map f).flatten
 | [], i => by simp
 | x :: l, 0 => by simp
 | x :: l, i + 1 => by
  rw [List.map_cons, List.flatten_cons, List.drop_succ_cons, List.drop_append, hf, List.drop_of_length_le (by rw [hf]; omega), List.nil_append, show (i + 1) * 3 - 3 = i * 3 by omega, flat_map_drop f hf l i]
theorem entC_len (e : EntD) : (entC e).length = 3 := rfl
theorem insL_ents {l : List EntD} {e : EntD} {i : Nat} : insL 3 i ((l.map entC).flatten) (entC e) = (((l.take i ++ e :: l.drop i)).map entC).flatten := by
 unfold insL
 rw [flat_map_take _ entC_len, flat_map_drop _ entC_len, List.map_append, List.map_cons, List.flatten_append, List.flatten_cons, List.append_assoc]
def norm (e : EntD) : EntD := if e.gone = true then { e with weight := 0 } else e
def withL (own more : List EntD) : List EntD := more.foldl (fun l e => oneL (norm e) l) own
theorem withL_asc : ∀ {more own : List EntD}, Asc own → Asc (withL own more)
 | [], _, h => h
 | e :: more, own, h => withL_asc (more := more) (own := oneL (norm e) own) (one_asc h)
end Go.Proofs.YtnelkapmmgggdaaGreat.mdl

/-
 Model: a list that grows: its row; an entry that is laid in between.
-/
namespace Go.Proofs.YtnelkapmmgggdaaGreat.mdl
open Go.Am Go.Mdl
set_option linter.unusedSimpArgs false
set_option linter.unusedVariables false
set_option linter.unusedVariables false

def EntW (A : Mem) (b : Nat) (l : List EntD) (x : Value) : Prop :=
 (x = .slice none 0 0 ∧ l = []) ∨ (l ≠ [] ∧ x = .slice (some ⟨b, 0, none⟩) l.length (mkX l.length 3) ∧ b < A.next ∧ Vals A 59 b .row (l.map entC).flatten)
theorem ents_len (l : List EntD) : ((l.map entC).flatten).length = l.length * 3 := by
 have := flat_len (n := 3) (ls := l.map entC) (fun x hx => by obtain ⟨e, _, rfl⟩ := List.mem_map.1 hx; rfl)
 rw [this, List.length_map]
theorem ents_one (l : List EntD) : ∀ v ∈ (l.map entC).flatten, oneCell v = true := by
 intro v hv
 obtain ⟨c, hc, hv⟩ := List.mem_flatten.1 hv
 obtain ⟨e, _, rfl⟩ := List.mem_map.1 hc
 unfold entC at hv
 simp only [List.mem_cons, List.not_mem_nil, or_false] at hv
 rcases hv with rfl | rfl | rfl <;> rfl
theorem EntW.ents {A : Mem} {b : Nat} {l : List EntD} {x : Value} (h : EntW A b l x) : EntS A b l x := by
 rcases h with ⟨rfl, rfl⟩ | ⟨h0, h1, h2, h3⟩
 ·exact .inl ⟨rfl, rfl⟩
 ·exact .inr ⟨.row, _, by rw [List.length_map]; exact h1, h2, h3, fun c hc => (by obtain ⟨e, _, rfl⟩ := List.mem_map.1 hc; rfl), .inr ⟨by rw [List.length_map], .inl rfl⟩⟩
theorem EntW.same {A A' : Mem} {b : Nat} {l : List EntD} {x : Value} (h : EntW A b l x) (hn : A.next ≤ A'.next) (hg : b < A.next → A'.get b = A.get b) : EntW A' b l x := by
 rcases h with h | ⟨h0, h1, h2, h3⟩
 ·exact .inl h
 ·exact .inr ⟨h0, h1, Nat.lt_of_lt_of_le h2 hn, h3.same (hg h2)⟩
theorem insMem_ents {A : Mem} {ob : Option Nat} {l : List EntD} (h0 : l ≠ []) : EntW (insMem 59 ob ((l.map entC).flatten) A) A.next l (.slice (some ⟨A.next, 0, none⟩) l.length (mkX l.length 3)) :=
 .inr ⟨h0, rfl, by rw [insMem_next]; omega, vals_puts (insMem_new _ _ _ _)⟩
theorem ins_call {ih : Code → St → R (Ex × St)} {A : Mem} {b q i : Nat} {l : List EntD} {e : EntD} {x : Value} (h : EntW A b l x) (hq : A.get q = some (rowOb 59 (entC e))) (hi : i ≤ l.length) (hl : l.length < 16777215) :
  ∃ A', callF tb4 ih (.fn 42 [x, .int .i64 (i : Int), .slice (some ⟨q, 0, none⟩) 1 2]) A = .ok (.val (.slice (some ⟨A.next, 0, none⟩) (l.length + 1) (mkX (l.length + 1) 3)) A') ∧
   EntW A' A.next (l.take i ++ e :: l.drop i) (.slice (some ⟨A.next, 0, none⟩) (l.length + 1) (mkX (l.length + 1) 3)) ∧ A'.next = A.next + 1 ∧ ∀ y, y < A.next → (l ≠ [] → y ≠ b) → A'.get y = A.get y := by
 have hlen : (l.take i ++ e :: l.drop i).length = l.length + 1 := by
  rw [List.length_append, List.length_cons, List.length_take, List.length_drop]; omega
 have hne : (l.take i ++ e :: l.drop i) ≠ [] := by simp
 have hnew : (T.puts .e 0 (entC e)).gets 3 0 = some (entC e) := gets_eq _ _ _ _ rfl fun j hj => by
  rw [T.get_puts, if_pos ⟨Nat.zero_le _, by show 0 + j < 0 + 3; omega⟩, Nat.sub_zero, Nat.zero_add]
 have hone : (entC e).all oneCell = true := rfl
 have hle : Nat.ble i l.length = true := Nat.ble_eq_true_of_le hi
 have hlt : Nat.blt l.length 16777215 = true := by rw [Nat.blt_eq]; exact hl
 have hqo : A.get q = some (.cells 59 (.var 3) 0 (T.puts .e 0 (entC e))) := hq
 have key : ∃ ob, insHook 59 3 [x, .int .i64 (.ofNat i), .slice (some ⟨q, 0, none⟩) 1 2] A = .ok (.slice (some ⟨A.next, 0, none⟩) (l.length + 1) (mkX (l.length + 1) 3), insMem 59 ob (((l.take i ++ e :: l.drop i).map entC).flatten) A) ∧ ∀ y, (l ≠ [] → y ≠ b) → ob ≠ some y := by
  rcases h with ⟨rfl, rfl⟩ | ⟨h0, rfl, h2, cb, h3, h4⟩
  ·refine ⟨none, ?_, fun y _ h => by cases h⟩
   have hi0 : i = 0 := by simpa using hi
   subst hi0
   unfold insHook
   simp only [hqo, hnew]
   simp only [Nat.beq_refl, hone, hlt, hle, List.length_nil, Bool.and_self, cond_true]
   simp
   have e1 : (Nat.ble 0 0 && Nat.blt 0 16777215) = true := by decide
   rw [e1]; rfl
  ·refine ⟨some b, ?_, fun y hy h => by cases h; exact hy h0 rfl⟩
   have hold : cb.gets (l.length * 3) 0 = some ((l.map entC).flatten) := gets_eq _ _ _ _ (ents_len l) fun j hj => by
    rw [Nat.zero_add]; exact h4 j (by rw [ents_len]; exact hj)
   have h0l : Nat.blt 0 l.length = true := by rw [Nat.blt_eq]; exact List.length_pos_iff.2 h0
   have hall : ((l.map entC).flatten).all oneCell = true := List.all_eq_true.2 (ents_one l)
   unfold insHook
   simp only [hqo, hnew, h3, hold, hone, hlt, hle, Nat.beq_refl, Bool.and_self, cond_true, h0l, hall]
   rw [← insL_ents]
 obtain ⟨ob, h1, h2⟩ := key
 refine ⟨_, callF_known (c := (Tryz.f42.body).getD .skip) (fn_at Tryz.func42) (by kernel_rfl) (by kernel_rfl) (h := insHook 59 3) (by kernel_rfl) h1, ?_, insMem_next _ _ _ _, fun y hy hyb => ?_⟩
 ·have := insMem_ents (A := A) (ob := ob) hne
  rwa [hlen] at this
 ·rw [insMem_old _ _ _ _ (by omega), if_neg (h2 y hyb)]
end Go.Proofs.YtnelkapmmgggdaaGreat.mdl

/-
 Model: a list that grows: oneL put in place of another; a copy of a list.
-/
namespace Go.Proofs.YtnelkapmmgggdaaGreat.mdl
open Go.Am Go.Mdl
set_option linter.unusedSimpArgs false
set_option linter.unusedVariables false
set_option linter.unusedVariables false

theorem ents_get {l : List EntD} {e : EntD} {i j : Nat} (hi : l[i]? = some e) (hj : j < 3) : ((l.map entC).flatten)[i * 3 + j]? = (entC e)[j]? :=
 flat_get (n := 3) (ls := l.map entC) (fun x hx => by obtain ⟨e, _, rfl⟩ := List.mem_map.1 hx; rfl) (by rw [List.getElem?_map, hi]; rfl) hj
theorem ents_set {l : List EntD} {e : EntD} {i j : Nat} (hi : i < l.length) (hj : j < l.length * 3) : (((l.set i e).map entC).flatten)[j]? = if i * 3 ≤ j ∧ j < i * 3 + (entC e).length then (entC e)[j - i * 3]? else ((l.map entC).flatten)[j]? := by
 have hq : j / 3 < l.length := by omega
 have hj3 : j = j / 3 * 3 + j % 3 := by omega
 have h3 : j % 3 < 3 := Nat.mod_lt _ (by decide)
 rw [entC_len]
 by_cases h : i * 3 ≤ j ∧ j < i * 3 + 3
 ·have hij : j / 3 = i := by omega
  rw [if_pos h, hj3, ents_get (e := e) (by rw [hij, List.getElem?_set, if_pos rfl, if_pos hi]) h3]
  congr 1
  omega
 ·have hij : ¬ i = j / 3 := by omega
  rw [if_neg h]
  conv => lhs; rw [hj3]
  conv => rhs; rw [hj3]
  rw [ents_get (e := l[j / 3]) (by rw [List.getElem?_set, if_neg hij, List.getElem?_eq_getElem hq]) h3, ents_get (e := l[j / 3]) (List.getElem?_eq_getElem hq) h3]
theorem EntW.put {A : Mem} {b i : Nat} {l : List EntD} {e : EntD} {x : Value} (h : EntW A b l x) (hi : i < l.length) :
  ∃ A', storeF tb4 A 59 (.pointer (some ⟨b, i * 3, none⟩)) (.agg ⟨entC e⟩) = .ok A' ∧ EntW A' b (l.set i e) x ∧ A'.next = A.next ∧ ∀ y, y ≠ b → A'.get y = A.get y := by
 rcases h with ⟨rfl, rfl⟩ | ⟨h0, rfl, h2, c, h3, h4⟩
 ·simp at hi
 ·have hst : storesF 0 0 (entC e) (i * 3) c = .ok (c.puts (i * 3) (entC e)) := stores_in 0 _ _ _ (fun v hv => by
   unfold entC at hv
   simp only [List.mem_cons, List.not_mem_nil, or_false] at hv
   rcases hv with rfl | rfl | rfl <;> rfl) fun j hj => .inl (by
    rw [entC_len] at hj
    rw [h4 _ (by rw [ents_len]; omega), List.getElem?_eq_getElem (by rw [ents_len]; omega)]
    exact ⟨_, rfl⟩)
  refine ⟨A.set b (.cells 59 .row 0 (c.puts (i * 3) (entC e))), ?_, .inr ⟨by simpa using h0, by rw [List.length_set], h2, _, by rw [get_setMem, if_pos rfl], fun j hj => ?_⟩, rfl, fun y hy => by rw [get_setMem, if_neg hy]⟩
  ·unfold storeF
   have hc : (Value.agg ⟨entC e⟩).cells.toList = entC e := rfl
   simp only [size45', R.ok_bind, hc]
   have hb : Nat.beq (entC e).length 3 = true := rfl
   rw [hb, cond_true]
   unfold storeAtF
   unfold entC at hst ⊢
   have hst' : storesF (roomK .row) 0 [strOf e.word, .int .u32 (e.weight : Int), .bool e.gone] (i * 3) c = .ok (c.puts (i * 3) [strOf e.word, .int .u32 (e.weight : Int), .bool e.gone]) := hst
   simp only [h3, hst', R.ok_bind]
  ·rw [ents_len, List.length_set] at hj
   rw [T.get_puts, ents_set hi hj]
   split
   ·rfl
   ·exact h4 j (by rw [ents_len]; exact hj)
end Go.Proofs.YtnelkapmmgggdaaGreat.mdl

/-
 Model: a copy of a list.
-/
namespace Go.Proofs.YtnelkapmmgggdaaGreat.mdl
open Go.Am Go.Mdl
set_option linter.unusedSimpArgs false
set_option linter.unusedVariables false
set_option linter.unusedVariables false

theorem zc45' : zcellsF tb4 59 = .ok (3, [.string .empty, .int .u32 0, .bool false]) := by kernel_rfl
theorem ty45' : ∃ ti, tb4.ty.get 59 = some ti ∧ 0 < ti.bytes ∧ ti.bytes ≤ 65536 := by
 have h : ((tb4.ty.get 59).map fun i => Nat.blt 0 i.bytes && Nat.ble i.bytes 65536) = some true := by kernel_rfl
 cases hq : tb4.ty.get 59 with
 | none => rw [hq] at h; cases h
 | some ti =>
  rw [hq, Option.map_some, Option.some.injEq, Bool.and_eq_true, Nat.blt_eq] at h
  exact ⟨ti, rfl, h.1, Nat.le_of_ble_eq_true h.2⟩
theorem app_nil {A : Mem} {x : Value} {l : List EntD} {b : Nat} (h : EntS A b l x) (hl : l.length ≤ 16777216) :
  ∃ y A', appendF tb4 A 24 24 (.slice none 0 0) x = .ok (y, A') ∧ EntW A' A.next l y ∧ A.next ≤ A'.next ∧ A'.next ≤ A.next + 1 ∧ ∀ z, z < A.next → A'.get z = A.get z := by
 obtain ⟨ti, hti, hb1, hb2⟩ := ty45'
 by_cases h0 : l = []
 ·subst h0
  refine ⟨.slice none 0 0, A, ?_, .inl ⟨rfl, rfl⟩, Nat.le_refl _, by omega, fun _ _ => rfl⟩
  have hlen : lenF x = .ok 0 := by
   rcases h with ⟨rfl, _⟩ | ⟨k, c, rfl, _⟩ <;> rfl
  have hf : firstF A.get 3 0 x = .ok [] := by
   rcases h with ⟨rfl, _⟩ | ⟨k, c, rfl, _⟩ <;> rfl
  unfold appendF appendG
  simp only [und32', isIntD, cond_false, zc45', R.ok_bind, hlen, hf]
  rfl
 ·have hlp : 0 < l.length := List.length_pos_iff.2 h0
  rcases h with ⟨_, e⟩ | ⟨k, c, rfl, h2, h3, h4, h5⟩
  ·exact absurd (List.map_eq_nil_iff.1 e) h0
  ·rw [List.length_map]
   have hf : firstF A.get 3 l.length (.slice (some ⟨b, 0, none⟩) l.length c) = .ok ((l.map entC).flatten) := elemsF_valsN h3 (ents_len l)
   have hlim : (Nat.ble (0 + l.length) 16777216 && Nat.ble ti.bytes 65536 && Nat.blt 0 ti.bytes && Nat.blt 0 3 && Nat.blt 3 65536) = true := by
    have a1 : Nat.ble (0 + l.length) 16777216 = true := Nat.ble_eq_true_of_le (by omega)
    have a2 : Nat.ble ti.bytes 65536 = true := Nat.ble_eq_true_of_le hb2
    have a3 : Nat.blt 0 ti.bytes = true := by rw [Nat.blt_eq]; exact hb1
    rw [a1, a2, a3]; rfl
   have hble : Nat.ble (0 + l.length) (capN 0) = false := by
    cases hq : Nat.ble (0 + l.length) (capN 0) with
    | false => rfl
    | true =>
     have h1 := Nat.le_of_ble_eq_true hq
     have h2 : capN 0 = 0 := rfl
     omega
   have hx : capX 0 = true := rfl
   have hel : elemsF A.get 3 0 none = .ok [] := rfl
   refine ⟨.slice (some ⟨A.next, 0, none⟩) l.length (mkX l.length 3), A.alloc (.cells 59 .row 0 (T.puts .e 0 ((l.map entC).flatten))), ?_, .inr ⟨h0, rfl, by rw [next_alloc]; omega, vals_puts (get_alloc_self _ _)⟩, by rw [next_alloc]; omega, by rw [next_alloc]; omega, fun z hz => get_alloc_ne (by omega)⟩
   unfold appendF appendG
   simp only [und32', isIntD, cond_false, zc45', R.ok_bind, lenF, hf, hble, hti, hlim, cond_true, hel, hx, List.nil_append, Nat.zero_add]
   rw [Nat.zero_add] at hble hlim
   rw [hble, cond_false, hlim, cond_true]
end Go.Proofs.YtnelkapmmgggdaaGreat.mdl

/-
 Model: entry.With: a round.
-/
namespace Go.Proofs.YtnelkapmmgggdaaGreat.mdl
open Go.Am Go.Mdl
set_option linter.unusedSimpArgs false
set_option linter.unusedVariables false
set_option linter.unusedVariables false

theorem z45 : zeroF tb4 59 = .ok (.agg ⟨[.string .empty, .int .u32 0, .bool false]⟩) := by kernel_rfl
theorem und4' : tb4.und 4 = some .bool := by kernel_rfl
theorem und9' : tb4.und 9 = some .string := by kernel_rfl
theorem size24' : sizeF tb4 41 = .ok 1 := by kernel_rfl
theorem fb0 {b : Nat} : fieldAddrF tb4 59 (.pointer (some ⟨b, 0, none⟩)) 0 = .ok (.pointer (some ⟨b, 0, none⟩)) := by kernel_rfl
theorem fb1 {b : Nat} : fieldAddrF tb4 59 (.pointer (some ⟨b, 0, none⟩)) 1 = .ok (.pointer (some ⟨b, 1, none⟩)) := by kernel_rfl
theorem fb2 {b : Nat} : fieldAddrF tb4 59 (.pointer (some ⟨b, 0, none⟩)) 2 = .ok (.pointer (some ⟨b, 2, none⟩)) := by kernel_rfl
noncomputable def c24 : Code := Tryz.f23.body.getD .skip
noncomputable def c24b1 : Code := sub c24 [1,1,0,1,0,0]
theorem c24_eq : Tryz.f23.body = some (.seq (sub c24 [0]) (.seq (sub c24 [1,0]) (.seq (.seq (sub c24 [1,1,0,0]) (.block 0 (.loop c24b1))) (.seq (sub c24 [1,1,1,0]) (sub c24 [1,1,1,1]))))) := by kernel_rfl
theorem c24b1_eq : c24b1 = .seq (sub c24b1 [0]) (.seq (sub c24b1 [1,0]) (.seq (.block 1 (.seq (sub c24b1 [1,1,0,0,0]) (.seq (.seq (sub c24b1 [1,1,0,0,1,0,0]) (sub c24b1 [1,1,0,0,1,0,1])) (.seq (sub c24b1 [1,1,0,0,1,1,0]) (.seq (sub c24b1 [1,1,0,0,1,1,1,0]) (.cond (.tmp 28) (sub c24b1 [1,1,0,0,1,1,1,1,0]) (sub c24b1 [1,1,0,0,1,1,1,1,1]))))))) (sub c24b1 [1,1,1]))) := by kernel_rfl
def wiS (xo xm : Value) (n k : Nat) : List (Nat × Value) := [(5, xo), (12, xm), (13, .int .i64 (n : Int)), (14, .int .i64 (k : Int))]
theorem with_own {C : Mem} {bm k n : Nat} {more : List EntD} {e : EntD} {xo xm : Value} {t : T Value} {K : Ex → St → Prop} (hm : EntS C bm more xm) (hbm : bm < C.next) (he : more[k]? = some e) (ht : Sl t (wiS xo xm n k)) {Rc : Code}
  (hK : ∀ (t' : T Value) (C1 : Mem), Vals C1 59 C.next (.var 3) (entC (norm e)) → C1.next = C.next + 1 → (∀ y, y < C.next → C1.get y = C.get y) → Sl t' (wiS xo xm n k) → t'.get 7 = some (.pointer (some ⟨C.next, 0, none⟩)) → W tb4 Rc ⟨t', 40, [], C1, none⟩ K) :
  W tb4 (.seq (sub c24b1 [1,1,0,0,0]) (.seq (.seq (sub c24b1 [1,1,0,0,1,0,0]) (sub c24b1 [1,1,0,0,1,0,1])) Rc)) ⟨t, 40, [], C, none⟩ K := by
 obtain ⟨g5, g12, g13, g14, -⟩ := ht
 obtain ⟨d45, hd1, hd2⟩ := und45'
 have hkl : k < more.length := (List.getElem?_eq_some_iff.1 he).1
 have hidx : indexAddrF tb4 24 xm (.int .i64 ((k : Nat) : Int)) = .ok (.pointer (some ⟨bm, k * 3, none⟩)) := hm.idx und32' size45' (by rw [List.length_map]; exact hkl)
 have hld : loadF tb4 C.get 59 (.pointer (some ⟨bm, k * 3, none⟩)) = .ok (.agg ⟨entC e⟩) := hm.load_all hd1 hd2 size45' (by rw [List.getElem?_map, he]; rfl)
 have hz : Vals (C.alloc (rowOb 59 [.string .empty, .int .u32 0, .bool false])) 59 C.next (.var 3) [.string .empty, .int .u32 0, .bool false] := vals_puts (get_alloc_self _ _)
 obtain ⟨C1, s1, v1, n1, k1⟩ := store_all (tb := tb4) (t := 59) (l := [.string .empty, .int .u32 0, .bool false]) (l' := entC e) size45' hz rfl (by simp) (fun v hv => by
  unfold entC at hv
  simp only [List.mem_cons, List.not_mem_nil, or_false] at hv
  rcases hv with rfl | rfl | rfl <;> rfl)
 have n1' : C1.next = C.next + 1 := n1
 have hk1 : ∀ y, y < C.next → C1.get y = C.get y := fun y hy => by rw [k1 y (by omega), get_alloc_ne (by omega)]
 have hg : loadF tb4 C1.get 4 (.pointer (some ⟨C.next, 2, none⟩)) = .ok (.bool e.gone) := load_vals und4' rfl v1 rfl
 apply W.seq
 apply W.run 20
 ·intro M
  simp (disch := first | decide +kernel | omega) only [c24b1, c24, Tryz.f23, Aq, Nat.reduceEqDiff, g12, g14, hidx, hld, z45, s1]
  with_reducible rfl
 apply W.seq
 apply W.seq
 cases hgo : e.gone with
 | false =>
  rw [hgo] at hg
  have hn : norm e = e := by unfold norm; rw [hgo]; rfl
  apply W.run 20
  ·intro M
   simp (disch := first | decide +kernel | omega) only [c24b1, c24, Tryz.f23, Aq, Nat.reduceEqDiff, fb2, hg]
   with_reducible rfl
  apply W.run 20
  ·intro M
   simp (disch := first | decide +kernel | omega) only [c24b1, c24, Tryz.f23, Aq, Nat.reduceEqDiff]
   with_reducible rfl
  refine hK _ C1 (by rw [hn]; exact v1) n1' hk1 ?_ ?_
  ·unfold wiS; simp only [Sl_cons, Sl_nil, T.get_set, T.puts_cons, T.puts_nil, Nat.reduceEqDiff, Nat.reduceAdd, if_true, if_false, and_true, true_and, g5, g12, g13, g14]
  ·simp only [T.get_set, Nat.reduceEqDiff, if_true, if_false]
 | true =>
  rw [hgo] at hg
  obtain ⟨C2, s2, v2, n2, k2⟩ := store_vals (tb := tb4) (t := 41) (o := 1) (v := .int .u32 ((0 : Nat) : Int)) size24' v1 (by show 1 < 3; decide) rfl rfl
  have hn : entC (norm e) = (entC e).set 1 (.int .u32 ((0 : Nat) : Int)) := by
   unfold norm
   rw [if_pos hgo]
   unfold entC
   rfl
  apply W.run 20
  ·intro M
   simp (disch := first | decide +kernel | omega) only [c24b1, c24, Tryz.f23, Aq, Nat.reduceEqDiff, fb2, hg]
   with_reducible rfl
  apply W.run 20
  ·intro M
   simp (disch := first | decide +kernel | omega) only [c24b1, c24, Tryz.f23, Aq, Nat.reduceEqDiff, fb1, s2]
   with_reducible rfl
  refine hK _ C2 (by rw [hn]; exact v2) (by omega) (fun y hy => by rw [k2 y (by omega)]; exact hk1 y hy) ?_ ?_
  ·unfold wiS; simp only [Sl_cons, Sl_nil, T.get_set, T.puts_cons, T.puts_nil, Nat.reduceEqDiff, Nat.reduceAdd, if_true, if_false, and_true, true_and, g5, g12, g13, g14]
  ·simp only [T.get_set, Nat.reduceEqDiff, if_true, if_false]
end Go.Proofs.YtnelkapmmgggdaaGreat.mdl

/-
 Model: entry.With: an entry is laid in.
-/
namespace Go.Proofs.YtnelkapmmgggdaaGreat.mdl
open Go.Am Go.Mdl
set_option linter.unusedSimpArgs false
set_option linter.unusedVariables false
set_option linter.unusedVariables false

theorem bs45 {e : EntD} : buildSliceF tb4 24 1 [(0, .agg ⟨entC e⟩)] = .ok (rowOb 59 (entC e), .slc 1 2) := by kernel_rfl
theorem at_slc {n b c : Nat} : (Way.slc n c).at b = .slice (some ⟨b, 0, none⟩) n c := rfl
theorem ev_f36 {t : T Value} : ev t (Operand.func 41) = .ok (.func (.func 41) ⟨[]⟩ ⟨[]⟩) := rfl
theorem with_rest {C : Mem} {bo q k n : Nat} {own : List EntD} {e : EntD} {xo xm : Value} {t : T Value} {K : Ex → St → Prop} (ho : EntW C bo own xo) (hq : Vals C 59 q (.var 3) (entC e)) (hqb : own ≠ [] → q ≠ bo) (hqn : q < C.next) (ha : Asc own) (hl : own.length < 1000000) (ht : Sl t (wiS xo xm n k)) (h7 : t.get 7 = some (.pointer (some ⟨q, 0, none⟩)))
  (hK : ∀ (t' : T Value) (C' : Mem) (bo' : Nat) (xo' : Value), EntW C' bo' (oneL e own) xo' → C.next ≤ C'.next → (∀ y, y < C.next → (own ≠ [] → y ≠ bo) → C'.get y = C.get y) → ((bo' = bo ∧ own ≠ []) ∨ C.next ≤ bo') → Sl t' (wiS xo' xm n k) → K .nrm ⟨t', 40, [], C', none⟩) :
  W tb4 (.seq (sub c24b1 [1,1,0,0,1,1,0]) (.seq (sub c24b1 [1,1,0,0,1,1,1,0]) (.cond (.tmp 28) (sub c24b1 [1,1,0,0,1,1,1,1,0]) (sub c24b1 [1,1,0,0,1,1,1,1,1])))) ⟨t, 40, [], C, none⟩ K := by
 obtain ⟨g5, g12, g13, g14, -⟩ := ht
 obtain ⟨d45, hd1, hd2⟩ := und45'
 have hw : loadF tb4 C.get 9 (.pointer (some ⟨q, 0, none⟩)) = .ok (strOf e.word) := load_vals und9' rfl hq rfl
 have hea : loadF tb4 C.get 59 (.pointer (some ⟨q, 0, none⟩)) = .ok (.agg ⟨entC e⟩) := load_all hd1 hd2 size45' hq
 obtain ⟨i, hp, g, hg⟩ := run_bs (w := e.word) ho.ents ha (by omega)
 have hone := one_pos hp
 apply W.seq
 apply W.runG (g) 20
 ·intro M hM
  simp (disch := first | decide +kernel | omega) only [c24b1, c24, Tryz.f23, Aq, Nat.reduceEqDiff, g5, h7, fb0, hw, ev_f36, hg, List.getElem?_cons_zero, List.getElem?_cons_succ]
  with_reducible rfl
 apply W.seq
 apply W.run 20
 ·intro M
  simp (disch := first | decide +kernel | omega) only [c24b1, c24, Tryz.f23, Aq, Nat.reduceEqDiff]
  with_reducible rfl
 show W tb4 _ _ _
 cases his : isAt own e.word i with
 | true =>
  refine W.cond (p := true) ?_ (fun _ => ?_) (fun h => by cases h)
  ·simp only [ev_tmp, T.get_set, Nat.reduceEqDiff, if_true, if_false, evG_some]
  rw [his, if_pos rfl] at hone
  have hil : i < own.length := by
   unfold isAt at his
   rcases Nat.lt_or_ge i own.length with h | h
   ·exact h
   ·rw [List.getElem?_eq_none h] at his; cases his
  have h0 : own ≠ [] := by rintro rfl; simp at hil
  have hidx : indexAddrF tb4 24 xo (.int .i64 ((i : Nat) : Int)) = .ok (.pointer (some ⟨bo, i * 3, none⟩)) := ho.ents.idx und32' size45' (by rw [List.length_map]; exact hil)
  obtain ⟨C2, s2, w2, n2, k2⟩ := ho.put (e := e) hil
  apply W.run 20
  ·intro M
   simp (disch := first | decide +kernel | omega) only [c24b1, c24, Tryz.f23, Aq, Nat.reduceEqDiff, g5, h7, hea, hidx, s2]
   with_reducible rfl
  refine hK _ C2 bo xo (by rw [hone]; exact w2) (by omega) (fun y hy hyb => k2 y (hyb h0)) (.inl ⟨rfl, h0⟩) ?_
  unfold wiS; simp only [Sl_cons, Sl_nil, T.get_set, T.puts_cons, T.puts_nil, Nat.reduceEqDiff, Nat.reduceAdd, if_true, if_false, and_true, true_and, g5, g12, g13, g14]
 | false =>
  refine W.cond (p := false) ?_ (fun h => by cases h) (fun _ => ?_)
  ·simp only [ev_tmp, T.get_set, Nat.reduceEqDiff, if_true, if_false, evG_some]
  rw [his, if_neg (by decide)] at hone
  have hbo : own ≠ [] → bo < C.next := fun h0 => by
   rcases ho with ⟨_, h⟩ | ⟨_, _, h, _⟩
   ·exact absurd h h0
   ·exact h
  have ho2 : EntW (C.alloc (rowOb 59 (entC e))) bo own xo := ho.same (by rw [next_alloc]; omega) (fun h => get_alloc_ne (by omega))
  have hcall : ∀ ih, ∃ A', callF tb4 ih (.fn 42 [xo, .int .i64 (i : Int), .slice (some ⟨C.next, 0, none⟩) 1 2]) (C.alloc (rowOb 59 (entC e))) = .ok (.val (.slice (some ⟨C.next + 1, 0, none⟩) (own.length + 1) (mkX (own.length + 1) 3)) A') ∧
   EntW A' (C.next + 1) (own.take i ++ e :: own.drop i) (.slice (some ⟨C.next + 1, 0, none⟩) (own.length + 1) (mkX (own.length + 1) 3)) ∧ A'.next = C.next + 1 + 1 ∧ ∀ y, y < C.next + 1 → (own ≠ [] → y ≠ bo) → A'.get y = (C.alloc (rowOb 59 (entC e))).get y := fun ih => ins_call ho2 (get_alloc_self _ _) hp.1 (by omega)
  obtain ⟨A', hc0, w2, n2, k2⟩ := hcall (exec tb4 0)
  have hc : ∀ ih, callF tb4 ih (.fn 42 [xo, .int .i64 (i : Int), .slice (some ⟨C.next, 0, none⟩) 1 2]) (C.alloc (rowOb 59 (entC e))) = .ok (.val (.slice (some ⟨C.next + 1, 0, none⟩) (own.length + 1) (mkX (own.length + 1) 3)) A') := fun ih => by
   rw [← hc0]
   unfold callF
   simp only [show tb4.fn.get 42 = some Tryz.f42 from fn_at Tryz.func42, show tb4.hk.get 42 = some (insHook 59 3) by kernel_rfl, show Tryz.f42.body = some c37 by kernel_rfl]
  apply W.run 20
  ·intro M
   simp (disch := first | decide +kernel | omega) only [c24b1, c24, Tryz.f23, Aq, Nat.reduceEqDiff, g5, h7, hea, bs45, at_slc, hc]
   with_reducible rfl
  refine hK _ A' (C.next + 1) _ (by rw [hone]; exact w2) (by omega) (fun y hy hyb => by rw [k2 y (by omega) hyb, get_alloc_ne (by omega)]) (.inr (by omega)) ?_
  unfold wiS; simp only [Sl_cons, Sl_nil, T.get_set, T.puts_cons, T.puts_nil, Nat.reduceEqDiff, Nat.reduceAdd, if_true, if_false, and_true, true_and, g5, g12, g13, g14]
end Go.Proofs.YtnelkapmmgggdaaGreat.mdl

/-
 Model: entry.With, whole.
-/
namespace Go.Proofs.YtnelkapmmgggdaaGreat.mdl
open Go.Am Go.Mdl
set_option linter.unusedSimpArgs false
set_option linter.unusedVariables false
set_option linter.unusedVariables false

theorem one_le {e : EntD} {l : List EntD} (h : Asc l) : (oneL e l).length ≤ l.length + 1 := by
 have := len_one (e := e) h
 split at this <;> omega
theorem run_with {A : Mem} {b bm : Nat} {own more : List EntD} {x xm : Value} (hx : EntS A b own x) (hm : EntS A bm more xm) (hbm : more ≠ [] → bm < A.next) (ha : Asc own) (hl : own.length + more.length < 1000000) :
  ∃ y A' bo, Ans tb4 23 [x, xm] A y A' ∧ EntW A' bo (withL own more) y ∧ A.next ≤ A'.next ∧ A.next ≤ bo ∧ ∀ z, z < A.next → A'.get z = A.get z := by
 obtain ⟨v, A', hg, bo, h1, h2, h3, h4⟩ : ∃ v A', Ans tb4 23 [x, xm] A v A' ∧ ∃ bo, EntW A' bo (withL own more) v ∧ A.next ≤ A'.next ∧ A.next ≤ bo ∧ ∀ z, z < A.next → A'.get z = A.get z := by
  refine ans_of_W (fn_at Tryz.func23) c24_eq (by rw [Tryz.ntmps23]; simp) (by kernel_rfl) (by kernel_rfl) ?_
  obtain ⟨y0, A0, happ, w0, n0, n0', k0⟩ := app_nil hx (by omega)
  have hlen : builtinPF tb4 .len [24] [xm] = .ok (.int .i64 ((more.length : Nat) : Int)) := by
   have := hm.len (tb := tb4) und32'
   rwa [List.length_map] at this
  apply W.seq
  apply W.run 20
  ·intro M
   simp (disch := first | decide +kernel | omega) only [c24, Tryz.f23, Aq, Nat.reduceEqDiff]
   with_reducible rfl
  apply W.seq
  apply W.run 20
  ·intro M
   simp (disch := first | decide +kernel | omega) only [c24, Tryz.f23, Aq, Nat.reduceEqDiff, happ]
   with_reducible rfl
  apply W.seq
  apply W.seq
  apply W.run 20
  ·intro M
   simp (disch := first | decide +kernel | omega) only [c24, Tryz.f23, Aq, Nat.reduceEqDiff, hlen]
   with_reducible rfl
  apply W.block
  refine W.fall (fun m t C => ∃ k bo xo own', m = more.length - k ∧ k ≤ more.length ∧ EntW C bo own' xo ∧ Asc own' ∧ own'.length ≤ own.length + k ∧ withL own' (more.drop k) = withL own more ∧ A.next ≤ C.next ∧ A.next ≤ bo ∧ (∀ z, z < A.next → C.get z = A.get z) ∧ Sl t (wiS xo xm more.length k)) ?_ (k := more.length) ⟨0, A.next, y0, own, rfl, Nat.zero_le _, w0, ha, Nat.le_refl _, rfl, n0, Nat.le_refl _, k0, ?_⟩
  ·rintro m t C ⟨k, bo, xo, own', rfl, hk, hw, has, hle, heq, hn, hbo, hgs, hs⟩
   obtain ⟨g5, g12, g13, g14, -⟩ := hs
   rw [c24b1_eq]
   apply W.seq
   by_cases hlt : k < more.length
   ·have hne : more ≠ [] := by rintro rfl; simp at hlt
    have hbm' := hbm hne
    have hm' : EntS C bm more xm := hm.same hn (fun h => hgs _ h)
    have he : more[k]? = some more[k] := List.getElem?_eq_getElem hlt
    apply W.run 20
    ·intro M
     simp (disch := first | decide +kernel | omega) only [c24b1, c24, Tryz.f23, Aq, Nat.reduceEqDiff, g13, g14, hlt]
     with_reducible rfl
    apply W.seq
    apply W.run 20
    ·intro M
     simp (disch := first | decide +kernel | omega) only [c24b1, c24, Tryz.f23, Aq, Nat.reduceEqDiff]
     with_reducible rfl
    apply W.seq
    apply W.block
    refine with_own (xo := xo) (n := more.length) hm' (by omega) he (by unfold wiS; simp only [Sl_cons, Sl_nil, T.get_set, T.puts_cons, T.puts_nil, Nat.reduceEqDiff, Nat.reduceAdd, if_true, if_false, and_true, true_and, g5, g12, g13, g14]) fun t1 C1 v1 n1 k1 s1 h7 => ?_
    have hbo' : own' ≠ [] → bo < C.next := fun h0 => by
     rcases hw with ⟨_, h⟩ | ⟨_, _, h, _⟩
     ·exact absurd h h0
     ·exact h
    refine with_rest (hw.same (by omega) (fun h => k1 _ h)) v1 (fun h0 => by have := hbo' h0; omega) (by omega) has (by omega) s1 h7 fun t2 C2 bo2 xo2 w2 n2 k2 hb2 s2 => ?_
    obtain ⟨f5, f12, f13, f14, -⟩ := s2
    apply W.run 20
    ·intro M
     simp (disch := first | decide +kernel | omega) only [c24b1, c24, Tryz.f23, Aq, Nat.reduceEqDiff, f14]
     with_reducible rfl
    refine ⟨more.length - (k + 1), _, _, by omega, rfl, k + 1, bo2, xo2, oneL (norm more[k]) own', rfl, by omega, w2, one_asc has, ?_, ?_, by omega, ?_, fun z hz => ?_, ?_⟩
    ·have := one_le (e := norm more[k]) has; omega
    ·rw [← heq, List.drop_eq_getElem_cons hlt]; rfl
    ·rcases hb2 with ⟨h, _⟩ | h <;> omega
    ·rw [k2 z (by omega) (fun h0 => by omega), k1 z (by omega)]
     exact hgs z hz
    ·unfold wiS; simp only [Sl_cons, Sl_nil, T.get_set, T.puts_cons, T.puts_nil, Nat.reduceEqDiff, Nat.reduceAdd, if_true, if_false, and_true, true_and, f5, f12, f13, f14]
   ·have hkl : k = more.length := by omega
    apply W.run 20
    ·intro M
     simp (disch := first | decide +kernel | omega) only [c24b1, c24, Tryz.f23, Aq, Nat.reduceEqDiff, g13, g14, hlt]
     with_reducible rfl
    apply W.seq
    apply W.run 20
    ·intro M
     simp (disch := first | decide +kernel | omega) only [c24b1, c24, Tryz.f23, Aq, Nat.reduceEqDiff]
     with_reducible rfl
    apply W.seq
    apply W.run 20
    ·intro M
     simp (disch := first | decide +kernel | omega) only [c24, Tryz.f23, Aq, Nat.reduceEqDiff, g5]
     with_reducible rfl
    apply W.run 20
    ·intro M
     simp (disch := first | decide +kernel | omega) only [c24, Tryz.f23, Aq, Nat.reduceEqDiff]
     with_reducible rfl
    refine ⟨.inr rfl, C, [xo], rfl, ?_, bo, ?_, hn, hbo, hgs⟩
    ·simp only [Tryz.f23, resF, ev_tmp, T.get_set, Nat.reduceEqDiff, if_true, if_false, evG_some, R.ok_bind]
    ·rw [hkl, List.drop_length] at heq
     have : withL own' [] = own' := rfl
     rw [this] at heq
     rw [← heq]; exact hw
  ·unfold wiS; simp only [Sl_cons, Sl_nil, T.get_set, T.puts_cons, T.puts_nil, Nat.reduceEqDiff, Nat.reduceAdd, if_true, if_false, and_true, true_and]
 exact ⟨v, A', bo, hg, h1, h2, h3, h4⟩
end Go.Proofs.YtnelkapmmgggdaaGreat.mdl

/-
 Model: entry.Live.
-/
namespace Go.Proofs.YtnelkapmmgggdaaGreat.mdl
open Go.Am Go.Mdl
set_option linter.unusedSimpArgs false
set_option linter.unusedVariables false
set_option linter.unusedVariables false

noncomputable def c23 : Code := Tryz.f22.body.getD .skip
noncomputable def c23b1 : Code := sub c23 [1,0,1,0,0]
theorem c23_eq : Tryz.f22.body = some (.seq (sub c23 [0]) (.seq (.seq (sub c23 [1,0,0]) (.block 0 (.loop c23b1))) (.seq (sub c23 [1,1,0]) (sub c23 [1,1,1])))) := by kernel_rfl
theorem c23b1_eq : c23b1 = .seq (sub c23b1 [0]) (.seq (sub c23b1 [1,0]) (.seq (.block 1 (.seq (sub c23b1 [1,1,0,0,0]) (.seq (sub c23b1 [1,1,0,0,1,0]) (.cond (.tmp 13) (sub c23b1 [1,1,0,0,1,1,0]) .skip)))) (sub c23b1 [1,1,1]))) := by kernel_rfl
def liS (xo xm : Value) (n k : Nat) : List (Nat × Value) := [(2, xo), (5, xm), (6, .int .i64 (n : Int)), (7, .int .i64 (k : Int))]
theorem entC_one (e : EntD) : ∀ v ∈ entC e, oneCell v = true := by
 intro v hv
 unfold entC at hv
 simp only [List.mem_cons, List.not_mem_nil, or_false] at hv
 rcases hv with rfl | rfl | rfl <;> rfl
theorem live_round {C : Mem} {bo bm k n : Nat} {l out : List EntD} {e : EntD} {xo xm : Value} {t : T Value} {K : Ex → St → Prop} (ho : EntS C bo out xo) (hol : out.length < 1000000) (hnil : out = [] → xo = .slice none 0 0) (hm : EntS C bm l xm) (hbm : bm < C.next) (he : l[k]? = some e) (ht : Sl t (liS xo xm n k))
  (hK : ∀ (t' : T Value) (C' : Mem) (bo' : Nat) (xo' : Value), EntS C' bo' (out ++ Go.Mdl.live [e]) xo' → C.next ≤ C'.next → (∀ y, y < C.next → (out ≠ [] → y ≠ bo) → C'.get y = C.get y) → ((bo' = bo ∧ Go.Mdl.live [e] = []) ∨ C.next ≤ bo') → (out ++ Go.Mdl.live [e] = [] → xo' = .slice none 0 0) → Sl t' (liS xo' xm n k) → K .nrm ⟨t', 20, [], C', none⟩) :
  W tb4 (.seq (sub c23b1 [1,1,0,0,0]) (.seq (sub c23b1 [1,1,0,0,1,0]) (.cond (.tmp 13) (sub c23b1 [1,1,0,0,1,1,0]) .skip))) ⟨t, 20, [], C, none⟩ K := by
 obtain ⟨g2, g5, g6, g7, -⟩ := ht
 obtain ⟨d45, hd1, hd2⟩ := und45'
 obtain ⟨ti, hti, hb1, hb2⟩ := ty45'
 have hkl : k < l.length := (List.getElem?_eq_some_iff.1 he).1
 have hidx : indexAddrF tb4 24 xm (.int .i64 ((k : Nat) : Int)) = .ok (.pointer (some ⟨bm, k * 3, none⟩)) := hm.idx und32' size45' (by rw [List.length_map]; exact hkl)
 have hld : loadF tb4 C.get 59 (.pointer (some ⟨bm, k * 3, none⟩)) = .ok (.agg ⟨entC e⟩) := hm.load_all hd1 hd2 size45' (by rw [List.getElem?_map, he]; rfl)
 have hz : Vals (C.alloc (rowOb 59 [.string .empty, .int .u32 0, .bool false])) 59 C.next (.var 3) [.string .empty, .int .u32 0, .bool false] := vals_puts (get_alloc_self _ _)
 obtain ⟨C1, s1, v1, n1, k1⟩ := store_all (tb := tb4) (t := 59) (l := [.string .empty, .int .u32 0, .bool false]) (l' := entC e) size45' hz rfl (by simp) (entC_one e)
 have n1' : C1.next = C.next + 1 := n1
 have hk1 : ∀ y, y < C.next → C1.get y = C.get y := fun y hy => by rw [k1 y (by omega), get_alloc_ne (by omega)]
 have hg : loadF tb4 C1.get 4 (.pointer (some ⟨C.next, 2, none⟩)) = .ok (.bool e.gone) := load_vals und4' rfl v1 rfl
 have hea : loadF tb4 C1.get 59 (.pointer (some ⟨C.next, 0, none⟩)) = .ok (.agg ⟨entC e⟩) := load_all hd1 hd2 size45' v1
 have ho1 : EntS C1 bo out xo := by
  by_cases h0 : out = []
  ·subst h0
   rcases ho with h | ⟨k, c, h1, h2, h3⟩
   ·exact .inl h
   ·exact SlcM.same (.inr ⟨k, c, h1, h2, h3⟩) (by omega) (fun h => hk1 _ h)
  ·exact ho.same (by omega) (fun h => hk1 _ h)
 apply W.seq
 apply W.run 20
 ·intro M
  simp (disch := first | decide +kernel | omega) only [c23b1, c23, Tryz.f22, Aq, Nat.reduceEqDiff, g5, g7, hidx, hld, z45, s1]
  with_reducible rfl
 apply W.seq
 apply W.run 20
 ·intro M
  simp (disch := first | decide +kernel | omega) only [c23b1, c23, Tryz.f22, Aq, Nat.reduceEqDiff, fb2, hg]
  with_reducible rfl
 show W tb4 _ _ _
 cases hgo : e.gone with
 | true =>
  have hlv : Go.Mdl.live [e] = [] := by unfold Go.Mdl.live; rw [List.filter_cons, hgo]; rfl
  refine W.cond (p := false) ?_ (fun h => by cases h) (fun _ => ?_)
  ·simp only [ev_tmp, T.get_set, Nat.reduceEqDiff, if_true, if_false, evG_some, Bool.not_true]
  apply W.run 20
  ·intro M
   simp (disch := first | decide +kernel | omega) only [c23b1, c23, Tryz.f22, Aq, Nat.reduceEqDiff]
   with_reducible rfl
  refine hK _ C1 bo xo (by rw [hlv, List.append_nil]; exact ho1) (by omega) (fun y hy _ => hk1 y hy) (.inl ⟨rfl, hlv⟩) (fun h => hnil (List.append_eq_nil_iff.1 h).1) ?_
  unfold liS; simp only [Sl_cons, Sl_nil, T.get_set, T.puts_cons, T.puts_nil, Nat.reduceEqDiff, Nat.reduceAdd, if_true, if_false, and_true, true_and, g2, g5, g6, g7]
 | false =>
  have hlv : Go.Mdl.live [e] = [e] := by unfold Go.Mdl.live; rw [List.filter_cons, hgo]; rfl
  refine W.cond (p := true) ?_ (fun _ => ?_) (fun h => by cases h)
  ·simp only [ev_tmp, T.get_set, Nat.reduceEqDiff, if_true, if_false, evG_some, Bool.not_false]
  have ho2 : EntS (C1.alloc (rowOb 59 (entC e))) bo out xo := ho1.same (by rw [next_alloc]; omega) (fun h => get_alloc_ne (by omega))
  obtain ⟨x', C2, happ, w2, n2, k2⟩ := ho2.append (st := 24) (xt := 24) und32' und32' zc45' hti hb1 hb2 (by decide) (by decide) (by rw [List.length_map]; omega) (get_alloc_self _ _) rfl (entC_one e)
  rw [next_alloc] at n2 w2
  apply W.run 20
  ·intro M
   simp (disch := first | decide +kernel | omega) only [c23b1, c23, Tryz.f22, Aq, Nat.reduceEqDiff, g2, hea, bs45, at_slc, happ]
   with_reducible rfl
  refine hK _ C2 (C1.next + 1) x' (by rw [hlv, EntS, List.map_append]; exact w2) (by omega) (fun y hy hyb => ?_) (.inr (by omega)) (fun h => by rw [hlv] at h; simp at h) ?_
  ·rw [k2 y (fun e1 => ?_) (by rw [next_alloc]; omega), get_alloc_ne (by omega), hk1 y hy]
   by_cases h0 : out = []
   ·exact hnil h0
   ·exact absurd e1 (hyb h0)
  ·unfold liS; simp only [Sl_cons, Sl_nil, T.get_set, T.puts_cons, T.puts_nil, Nat.reduceEqDiff, Nat.reduceAdd, if_true, if_false, and_true, true_and, g2, g5, g6, g7]
end Go.Proofs.YtnelkapmmgggdaaGreat.mdl

/-
 Model: entry.Live, whole.
-/
namespace Go.Proofs.YtnelkapmmgggdaaGreat.mdl
open Go.Am Go.Mdl
set_option linter.unusedSimpArgs false
set_option linter.unusedVariables false
set_option linter.unusedVariables false

theorem live_append (a b : List EntD) : Go.Mdl.live (a ++ b) = Go.Mdl.live a ++ Go.Mdl.live b := List.filter_append ..
theorem run_live {A : Mem} {bm : Nat} {l : List EntD} {xm : Value} (hm : EntS A bm l xm) (hbm : l ≠ [] → bm < A.next) (hl : l.length < 1000000) :
  ∃ y A' bo, Ans tb4 22 [xm] A y A' ∧ EntS A' bo (Go.Mdl.live l) y ∧ A.next ≤ A'.next ∧ A.next ≤ bo ∧ (Go.Mdl.live l = [] → y = .slice none 0 0) ∧ ∀ z, z < A.next → A'.get z = A.get z := by
 obtain ⟨v, A', hg, bo, h1, h2, h3, h4, h5⟩ : ∃ v A', Ans tb4 22 [xm] A v A' ∧ ∃ bo, EntS A' bo (Go.Mdl.live l) v ∧ A.next ≤ A'.next ∧ A.next ≤ bo ∧ (Go.Mdl.live l = [] → v = .slice none 0 0) ∧ ∀ z, z < A.next → A'.get z = A.get z := by
  refine ans_of_W (fn_at Tryz.func22) c23_eq (by rw [Tryz.ntmps22]; simp) (by kernel_rfl) (by kernel_rfl) ?_
  have hlen : builtinPF tb4 .len [24] [xm] = .ok (.int .i64 ((l.length : Nat) : Int)) := by
   have := hm.len (tb := tb4) und32'
   rwa [List.length_map] at this
  apply W.seq
  apply W.run 20
  ·intro M
   simp (disch := first | decide +kernel | omega) only [c23, Tryz.f22, Aq, Nat.reduceEqDiff]
   with_reducible rfl
  apply W.seq
  apply W.seq
  apply W.run 20
  ·intro M
   simp (disch := first | decide +kernel | omega) only [c23, Tryz.f22, Aq, Nat.reduceEqDiff, hlen]
   with_reducible rfl
  apply W.block
  refine W.fall (fun m t C => ∃ k bo xo, m = l.length - k ∧ k ≤ l.length ∧ EntS C bo (Go.Mdl.live (l.take k)) xo ∧ (Go.Mdl.live (l.take k) = [] → xo = .slice none 0 0) ∧ A.next ≤ C.next ∧ A.next ≤ bo ∧ (∀ z, z < A.next → C.get z = A.get z) ∧ Sl t (liS xo xm l.length k)) ?_ (k := l.length) ⟨0, A.next, .slice none 0 0, rfl, Nat.zero_le _, .inl ⟨rfl, rfl⟩, fun _ => rfl, Nat.le_refl _, Nat.le_refl _, fun _ _ => rfl, ?_⟩
  ·rintro m t C ⟨k, bo, xo, rfl, hk, hw, hnil, hn, hbo, hgs, hs⟩
   obtain ⟨g2, g5, g6, g7, -⟩ := hs
   rw [c23b1_eq]
   apply W.seq
   by_cases hlt : k < l.length
   ·have hne : l ≠ [] := by rintro rfl; simp at hlt
    have hbm' := hbm hne
    have hm' : EntS C bm l xm := hm.same hn (fun h => hgs _ h)
    have he : l[k]? = some l[k] := List.getElem?_eq_getElem hlt
    have hol : (Go.Mdl.live (l.take k)).length < 1000000 := by
     have h1 := live_le (l.take k)
     rw [List.length_take] at h1
     omega
    apply W.run 20
    ·intro M
     simp (disch := first | decide +kernel | omega) only [c23b1, c23, Tryz.f22, Aq, Nat.reduceEqDiff, g6, g7, hlt]
     with_reducible rfl
    apply W.seq
    apply W.run 20
    ·intro M
     simp (disch := first | decide +kernel | omega) only [c23b1, c23, Tryz.f22, Aq, Nat.reduceEqDiff]
     with_reducible rfl
    apply W.seq
    apply W.block
    refine live_round (xo := xo) (n := l.length) hw hol hnil hm' (by omega) he (by unfold liS; simp only [Sl_cons, Sl_nil, T.get_set, T.puts_cons, T.puts_nil, Nat.reduceEqDiff, Nat.reduceAdd, if_true, if_false, and_true, true_and, g2, g5, g6, g7]) fun t2 C2 bo2 xo2 w2 n2 k2 hb2 hnil2 s2 => ?_
    obtain ⟨f2, f5, f6, f7, -⟩ := s2
    have e1 : Go.Mdl.live (l.take (k + 1)) = Go.Mdl.live (l.take k) ++ Go.Mdl.live [l[k]] := by
     rw [← live_append, List.take_succ_eq_append_getElem hlt]
    apply W.run 20
    ·intro M
     simp (disch := first | decide +kernel | omega) only [c23b1, c23, Tryz.f22, Aq, Nat.reduceEqDiff, f7]
     with_reducible rfl
    refine ⟨l.length - (k + 1), _, _, by omega, rfl, k + 1, bo2, xo2, rfl, by omega, by rw [e1]; exact w2, by rw [e1]; exact hnil2, by omega, ?_, fun z hz => ?_, ?_⟩
    ·rcases hb2 with ⟨h, _⟩ | h <;> omega
    ·rw [k2 z (by omega) (fun h0 => by omega)]
     exact hgs z hz
    ·unfold liS; simp only [Sl_cons, Sl_nil, T.get_set, T.puts_cons, T.puts_nil, Nat.reduceEqDiff, Nat.reduceAdd, if_true, if_false, and_true, true_and, f2, f5, f6, f7]
   ·have hkl : k = l.length := by omega
    apply W.run 20
    ·intro M
     simp (disch := first | decide +kernel | omega) only [c23b1, c23, Tryz.f22, Aq, Nat.reduceEqDiff, g6, g7, hlt]
     with_reducible rfl
    apply W.seq
    apply W.run 20
    ·intro M
     simp (disch := first | decide +kernel | omega) only [c23b1, c23, Tryz.f22, Aq, Nat.reduceEqDiff]
     with_reducible rfl
    apply W.seq
    apply W.run 20
    ·intro M
     simp (disch := first | decide +kernel | omega) only [c23, Tryz.f22, Aq, Nat.reduceEqDiff, g2]
     with_reducible rfl
    apply W.run 20
    ·intro M
     simp (disch := first | decide +kernel | omega) only [c23, Tryz.f22, Aq, Nat.reduceEqDiff]
     with_reducible rfl
    rw [hkl, List.take_length] at hw hnil
    refine ⟨.inr rfl, C, [xo], rfl, ?_, bo, hw, hn, hbo, hnil, hgs⟩
    simp only [Tryz.f22, resF, ev_tmp, T.get_set, Nat.reduceEqDiff, if_true, if_false, evG_some, R.ok_bind]
  ·unfold liS; simp only [Sl_cons, Sl_nil, T.get_set, T.puts_cons, T.puts_nil, Nat.reduceEqDiff, Nat.reduceAdd, if_true, if_false, and_true, true_and]
 exact ⟨v, A', bo, hg, h1, h2, h3, h4, h5⟩
end Go.Proofs.YtnelkapmmgggdaaGreat.mdl

/-
 Model: entry.Find.
-/
namespace Go.Proofs.YtnelkapmmgggdaaGreat.mdl
open Go.Am Go.Mdl
set_option linter.unusedSimpArgs false
set_option linter.unusedVariables false
set_option linter.unusedVariables false

theorem find_pos {w : List UInt8} : ∀ {l : List EntD} {i : Nat}, Asc l → Pos l w i → find w l = if isAt l w i = true then l[i]? else none
 | [], i, _, h => by
  have hat : isAt [] w i = false := by unfold isAt; rw [List.getElem?_nil]
  rw [hat]; rfl
 | x :: l, 0, ha, h => by
  have hx := h.2.2 0 x (Nat.le_refl _) rfl
  have hat : isAt (x :: l) w 0 = decide (x.word = w) := rfl
  rw [hat]
  by_cases hw : x.word = w
  ·rw [if_pos (by simp [hw])]
   simp [find, hw]
  ·rw [if_neg (by simp [hw])]
   have hlt : lt w x.word := Classical.byContradiction fun hn => hw (lt_tri hx hn)
   refine find_none fun y hy hyw => ?_
   rcases List.mem_cons.1 hy with rfl | hy
   ·exact hw hyw
   ·have := lt_tr hlt (ha.1 y hy)
    rw [hyw] at this
    exact lt_irr _ this
 | x :: l, i + 1, ha, h => by
  obtain ⟨h1, h2⟩ := h.tail
  have ih := find_pos ha.2 h1
  have hne : x.word ≠ w := fun hh => lt_irr w (by rwa [hh] at h2)
  have hat : isAt (x :: l) w (i + 1) = isAt l w i := by unfold isAt; rw [List.getElem?_cons_succ]
  rw [show find w (x :: l) = find w l by simp [find, hne], ih, hat, List.getElem?_cons_succ]
def zeroE : EntD := ⟨[], 0, false⟩
noncomputable def c28 : Code := Tryz.f29.body.getD .skip
theorem c28_eq : Tryz.f29.body = some (.seq (sub c28 [0]) (.seq (sub c28 [1,0]) (.seq (.seq (sub c28 [1,1,0,0]) (.cond (.tmp 15) (sub c28 [1,1,0,1,0]) .skip)) (.seq (sub c28 [1,1,1,0]) (sub c28 [1,1,1,1]))))) := by kernel_rfl
theorem c28_n : sub c28 [1,1,0,1,0] = .seq (sub c28 [1,1,0,1,0,0]) (sub c28 [1,1,0,1,0,1]) := by kernel_rfl
theorem run_find {A : Mem} {b : Nat} {l : List EntD} {x : Value} {w : List UInt8} (h : EntS A b l x) (hb : l ≠ [] → b < A.next) (ha : Asc l) (hl : l.length < 1000000) :
  ∃ A', Ans tb4 29 [x, strOf w] A (.tuple ⟨[.agg ⟨entC ((find w l).getD zeroE)⟩, .bool (find w l).isSome]⟩) A' ∧ A.next ≤ A'.next ∧ ∀ z, z < A.next → A'.get z = A.get z := by
 obtain ⟨v, A', hg, rfl, h1, h2⟩ : ∃ v A', Ans tb4 29 [x, strOf w] A v A' ∧ v = .tuple ⟨[.agg ⟨entC ((find w l).getD zeroE)⟩, .bool (find w l).isSome]⟩ ∧ A.next ≤ A'.next ∧ ∀ z, z < A.next → A'.get z = A.get z := by
  refine ans_of_W (fn_at Tryz.func29) c28_eq (by rw [Tryz.ntmps29]; simp) (by kernel_rfl) (by kernel_rfl) ?_
  obtain ⟨d45, hd1, hd2⟩ := und45'
  have hz : Vals (A.alloc (rowOb 59 [.string .empty, .int .u32 0, .bool false])) 59 A.next (.var 3) [.string .empty, .int .u32 0, .bool false] := vals_puts (get_alloc_self _ _)
  have h' : EntS (A.alloc (rowOb 59 [.string .empty, .int .u32 0, .bool false])) b l x := by
   by_cases h0 : l = []
   ·subst h0
    rcases h with h | ⟨k, c, e1, e2, e3⟩
    ·exact .inl h
    ·exact SlcM.same (.inr ⟨k, c, e1, e2, e3⟩) (by rw [next_alloc]; omega) (fun h => get_alloc_ne (by omega))
   ·exact h.same (by rw [next_alloc]; omega) (fun h => get_alloc_ne (by omega))
  obtain ⟨i, hp, g, hg⟩ := run_bs (w := w) h' ha (by omega)
  have hf := find_pos ha hp
  apply W.seq
  apply W.run 20
  ·intro M
   simp (disch := first | decide +kernel | omega) only [c28, Tryz.f29, Aq, Nat.reduceEqDiff, z45]
   with_reducible rfl
  apply W.seq
  apply W.runG (g) 20
  ·intro M hM
   simp (disch := first | decide +kernel | omega) only [c28, Tryz.f29, Aq, Nat.reduceEqDiff, ev_f36, hg, List.getElem?_cons_zero, List.getElem?_cons_succ]
   with_reducible rfl
  apply W.seq
  apply W.seq
  apply W.run 20
  ·intro M
   simp (disch := first | decide +kernel | omega) only [c28, Tryz.f29, Aq, Nat.reduceEqDiff]
   with_reducible rfl
  show W tb4 _ _ _
  cases his : isAt l w i with
  | false =>
   rw [his, if_neg (by decide)] at hf
   obtain ⟨C1, s1, v1, n1, k1⟩ := store_all (tb := tb4) (t := 59) (l := [.string .empty, .int .u32 0, .bool false]) (l' := entC zeroE) size45' hz rfl (by simp) (entC_one _)
   have hld : loadF tb4 C1.get 59 (.pointer (some ⟨A.next, 0, none⟩)) = .ok (.agg ⟨entC zeroE⟩) := load_all hd1 hd2 size45' v1
   have hbz : buildF tb4 59 [] = .ok (.agg ⟨entC zeroE⟩) := by kernel_rfl
   refine W.cond (p := true) ?_ (fun _ => ?_) (fun h => by cases h)
   ·simp only [ev_tmp, T.get_set, Nat.reduceEqDiff, if_true, if_false, evG_some, Bool.not_false]
   rw [c28_n]
   apply W.seq
   apply W.run 20
   ·intro M
    simp (disch := first | decide +kernel | omega) only [c28, Tryz.f29, Aq, Nat.reduceEqDiff, hbz, s1]
    with_reducible rfl
   apply W.run 20
   ·intro M
    simp (disch := first | decide +kernel | omega) only [c28, Tryz.f29, Aq, Nat.reduceEqDiff]
    with_reducible rfl
   refine ⟨.inr rfl, C1, [.agg ⟨entC zeroE⟩, .bool false], rfl, ?_, by rw [hf]; rfl, ?_, fun z hz => ?_⟩
   ·simp only [Tryz.f29, resF, ev_tmp, T.get_set, Nat.reduceEqDiff, if_true, if_false, evG_some, R.ok_bind, hld]
   ·rw [n1, next_alloc]; omega
   ·rw [k1 z (by omega), get_alloc_ne (by omega)]
  | true =>
   rw [his, if_pos rfl] at hf
   have hil : i < l.length := by
    unfold isAt at his
    rcases Nat.lt_or_ge i l.length with h | h
    ·exact h
    ·rw [List.getElem?_eq_none h] at his; cases his
   have he : l[i]? = some l[i] := List.getElem?_eq_getElem hil
   have hidx : indexAddrF tb4 24 x (.int .i64 ((i : Nat) : Int)) = .ok (.pointer (some ⟨b, i * 3, none⟩)) := h'.idx und32' size45' (by rw [List.length_map]; exact hil)
   have hld0 : loadF tb4 (A.alloc (rowOb 59 [.string .empty, .int .u32 0, .bool false])).get 59 (.pointer (some ⟨b, i * 3, none⟩)) = .ok (.agg ⟨entC l[i]⟩) := h'.load_all hd1 hd2 size45' (by rw [List.getElem?_map, he]; rfl)
   obtain ⟨C1, s1, v1, n1, k1⟩ := store_all (tb := tb4) (t := 59) (l := [.string .empty, .int .u32 0, .bool false]) (l' := entC l[i]) size45' hz rfl (by simp) (entC_one _)
   have hld : loadF tb4 C1.get 59 (.pointer (some ⟨A.next, 0, none⟩)) = .ok (.agg ⟨entC l[i]⟩) := load_all hd1 hd2 size45' v1
   refine W.cond (p := false) ?_ (fun h => by cases h) (fun _ => ?_)
   ·simp only [ev_tmp, T.get_set, Nat.reduceEqDiff, if_true, if_false, evG_some, Bool.not_true]
   apply W.run 20
   ·intro M
    simp (disch := first | decide +kernel | omega) only [c28, Tryz.f29, Aq, Nat.reduceEqDiff]
    with_reducible rfl
   apply W.seq
   apply W.run 20
   ·intro M
    simp (disch := first | decide +kernel | omega) only [c28, Tryz.f29, Aq, Nat.reduceEqDiff, hidx, hld0, s1]
    with_reducible rfl
   apply W.run 20
   ·intro M
    simp (disch := first | decide +kernel | omega) only [c28, Tryz.f29, Aq, Nat.reduceEqDiff]
    with_reducible rfl
   refine ⟨.inr rfl, C1, [.agg ⟨entC l[i]⟩, .bool true], rfl, ?_, by rw [hf, he]; rfl, ?_, fun z hz => ?_⟩
   ·simp only [Tryz.f29, resF, ev_tmp, T.get_set, Nat.reduceEqDiff, if_true, if_false, evG_some, R.ok_bind, hld]
   ·rw [n1, next_alloc]; omega
   ·rw [k1 z (by omega), get_alloc_ne (by omega)]
 exact ⟨A', hg, h1, h2⟩
end Go.Proofs.YtnelkapmmgggdaaGreat.mdl

/-
 Model: a new model, and its words.
-/
namespace Go.Proofs.YtnelkapmmgggdaaGreat.mdl
open Go.Am Go.Mdl
set_option linter.unusedSimpArgs false
set_option linter.unusedVariables false
set_option linter.unusedVariables false

theorem EntW.lt {A : Mem} {b : Nat} {l : List EntD} {x : Value} (h : EntW A b l x) : l ≠ [] → b < A.next := fun h0 => by
 rcases h with ⟨_, h⟩ | ⟨_, _, h, _⟩
 ·exact absurd h h0
 ·exact h
theorem withL_len : ∀ {more own : List EntD}, Asc own → (withL own more).length ≤ own.length + more.length
 | [], own, _ => by show own.length ≤ _; simp
 | e :: more, own, h => by
  have h1 := withL_len (more := more) (own := oneL (norm e) own) (one_asc h)
  have h2 := one_le (e := norm e) h
  show (withL (oneL (norm e) own) more).length ≤ _
  rw [List.length_cons]
  omega
def newL (l : List EntD) : List EntD := Go.Mdl.live (withL [] l)
noncomputable def c7 : Code := Tryz.f5.body.getD .skip
theorem c7_eq : Tryz.f5.body = some (.seq (sub c7 [0]) (.seq (sub c7 [1,0]) (sub c7 [1,1]))) := by kernel_rfl
theorem run_new {A : Mem} {bm : Nat} {l : List EntD} {x : Value} (h : EntS A bm l x) (hb : l ≠ [] → bm < A.next) (hl : l.length < 1000000) :
  ∃ q A' bo y, Ans tb4 5 [x] A (.pointer (some ⟨q, 0, none⟩)) A' ∧ EntS A' bo (newL l) y ∧ A'.get q = some (rowOb 64 [y, .bool false, .bool false]) ∧ A.next ≤ q ∧ q < A'.next ∧ A.next ≤ bo ∧ (newL l = [] → y = .slice none 0 0) ∧ ∀ z, z < A.next → A'.get z = A.get z := by
 obtain ⟨y1, A1, b1, ⟨g1, hg1⟩, w1, n1, o1, k1⟩ := run_with (own := []) (x := .slice none 0 0) (b := 0) (.inl ⟨rfl, rfl⟩) h hb (show Asc [] from trivial) (by simp; omega)
 have hlen : (withL [] l).length < 1000000 := by
  have := withL_len (more := l) (own := []) trivial
  simp only [List.length_nil] at this
  omega
 obtain ⟨y2, A2, b2, ⟨g2, hg2⟩, w2, n2, o2, hn2, k2⟩ := run_live w1.ents w1.lt hlen
 obtain ⟨v, A', hg, rfl, rfl⟩ : ∃ v A', Ans tb4 5 [x] A v A' ∧ v = .pointer (some ⟨A2.next, 0, none⟩) ∧ A' = A2.alloc (rowOb 64 [y2, .bool false, .bool false]) := by
  refine ans_of_W (fn_at Tryz.func5) c7_eq (by rw [Tryz.ntmps5]; simp) (by kernel_rfl) (by kernel_rfl) ?_
  have hbd : buildF tb4 64 [(0, y2)] = .ok (.agg ⟨[y2, .bool false, .bool false]⟩) := by
   rcases w2 with ⟨rfl, _⟩ | ⟨k, c, rfl, _⟩ <;> kernel_rfl
  apply W.seq
  apply W.run 20
  ·intro M
   simp (disch := first | decide +kernel | omega) only [c7, Tryz.f5, Aq, Nat.reduceEqDiff]
   with_reducible rfl
  apply W.seq
  apply W.runG ((g1+g2)) 20
  ·intro M hM
   simp (disch := first | decide +kernel | omega) only [c7, Tryz.f5, Aq, Nat.reduceEqDiff, hg1, hg2, hbd]
   with_reducible rfl
  apply W.run 20
  ·intro M
   simp (disch := first | decide +kernel | omega) only [c7, Tryz.f5, Aq, Nat.reduceEqDiff]
   with_reducible rfl
  refine ⟨.inr rfl, _, [.pointer (some ⟨A2.next, 0, none⟩)], rfl, ?_, rfl, rfl⟩
  simp only [Tryz.f5, resF, ev_tmp, T.get_set, Nat.reduceEqDiff, if_true, if_false, evG_some, R.ok_bind]
 refine ⟨_, _, b2, y2, hg, SlcM.same w2 (by rw [next_alloc]; omega) (fun h => get_alloc_ne (by omega)), get_alloc_self _ _, by omega, by rw [next_alloc]; omega, by omega, hn2, fun z hz => ?_⟩
 rw [get_alloc_ne (by omega), k2 z (by omega), k1 z hz]
end Go.Proofs.YtnelkapmmgggdaaGreat.mdl

/-
 Model: the words of a model.
-/
namespace Go.Proofs.YtnelkapmmgggdaaGreat.mdl
open Go.Am Go.Mdl
set_option linter.unusedSimpArgs false
set_option linter.unusedVariables false
set_option linter.unusedVariables false

noncomputable def c9 : Code := Tryz.f8.body.getD .skip
theorem c9_eq : Tryz.f8.body = some (.seq (sub c9 [0]) (.seq (.seq (sub c9 [1,0,0]) (sub c9 [1,0,1])) (.seq (sub c9 [1,1,0]) (sub c9 [1,1,1])))) := by kernel_rfl
theorem fm0 {b : Nat} : fieldAddrF tb4 64 (.pointer (some ⟨b, 0, none⟩)) 0 = .ok (.pointer (some ⟨b, 0, none⟩)) := by kernel_rfl
end Go.Proofs.YtnelkapmmgggdaaGreat.mdl

/-
 Model: what stays of memory; a word's check; an entry that is bare.
-/
namespace Go.Proofs.YtnelkapmmgggdaaGreat.mdl
open Go.Am Go.Mdl
set_option linter.unusedSimpArgs false
set_option linter.unusedVariables false
set_option linter.unusedVariables false

def Kp (A A' : Mem) : Prop := A.next ≤ A'.next ∧ ∀ z, z < A.next → A'.get z = A.get z
theorem Kp.refl (A : Mem) : Kp A A := ⟨Nat.le_refl _, fun _ _ => rfl⟩
theorem Kp.trans {A B C : Mem} (h : Kp A B) (k : Kp B C) : Kp A C := ⟨Nat.le_trans h.1 k.1, fun z hz => by rw [k.2 z (by have := h.1; omega), h.2 z hz]⟩
theorem Kp.alloc (A : Mem) (o : Ob) : Kp A (A.alloc o) := ⟨by rw [next_alloc]; omega, fun z hz => get_alloc_ne (by omega)⟩
theorem EntS.lt {A : Mem} {b : Nat} {l : List EntD} {x : Value} (h : EntS A b l x) : l ≠ [] → b < A.next := fun h0 => by
 rcases h with ⟨_, h⟩ | ⟨_, _, _, h, _⟩
 ·simp at h; exact absurd h h0
 ·exact h
theorem EntS.kp {A A' : Mem} {b : Nat} {l : List EntD} {x : Value} (h : EntS A b l x) (k : Kp A A') : EntS A' b l x := SlcM.same h k.1 (fun h => k.2 _ h)
def EntE (A : Mem) (l : List EntD) (x : Value) : Prop := ∃ b, EntS A b l x
theorem EntE.kp {A A' : Mem} {l : List EntD} {x : Value} (h : EntE A l x) (k : Kp A A') : EntE A' l x := by
 obtain ⟨b, h⟩ := h
 exact ⟨b, h.kp k⟩

noncomputable def c44 : Code := Tryz.f46.body.getD .skip
theorem c44_eq : Tryz.f46.body = some (.seq (sub c44 [0]) (.seq (sub c44 [1,0]) (sub c44 [1,1]))) := by kernel_rfl
theorem run_is {A : Mem} {w : List UInt8} : Ans tb4 46 [strOf w] A (.bool (okW w)) A := by
 obtain ⟨v, A', hg, rfl, rfl⟩ : ∃ v A', Ans tb4 46 [strOf w] A v A' ∧ v = .bool (okW w) ∧ A' = A := by
  refine ans_of_W (fn_at Tryz.func46) c44_eq (by rw [Tryz.ntmps46]; simp) (by kernel_rfl) (by kernel_rfl) ?_
  have hlen := len_str (tb := tb4) und9' (l := w)
  have hn : strOf [] = Value.string .empty := rfl
  apply W.seq
  apply W.run 20
  ·intro M
   simp (disch := first | decide +kernel | omega) only [c44, Tryz.f46, Aq, Nat.reduceEqDiff]
   with_reducible rfl
  apply W.seq
  by_cases h0 : w = []
  ·subst h0
   apply W.run 20
   ·intro M
    simp (config := { maxSteps := 4000000 }) (disch := first | decide +kernel | omega | simp only [Wq, Nat.reduceEqDiff]) only [c44, Tryz.f46, Aq, Nat.ble, reduceIte, Nat.reduceEqDiff, Nat.reduceAdd, hlen]
    with_reducible rfl
   apply W.run 20
   ·intro M
    simp (disch := first | decide +kernel | omega) only [c44, Tryz.f46, Aq, Nat.reduceEqDiff]
    with_reducible rfl
   refine ⟨.inr rfl, _, [.bool false], rfl, ?_, rfl, rfl⟩
   simp only [Tryz.f46, resF, ev_tmp, T.get_set, Nat.reduceEqDiff, if_true, if_false, evG_some, R.ok_bind]
  ·have h1 : (decide (w ≠ [])) = true := by simp [h0]
   apply W.run 20
   ·intro M
    simp (config := { maxSteps := 4000000 }) (disch := first | decide +kernel | omega | simp only [Wq, Nat.reduceEqDiff]) only [c44, Tryz.f46, Aq, Nat.ble, reduceIte, Nat.reduceEqDiff, Nat.reduceAdd, h0, hlen]
    with_reducible rfl
   apply W.run 20
   ·intro M
    simp (disch := first | decide +kernel | omega) only [c44, Tryz.f46, Aq, Nat.reduceEqDiff]
    with_reducible rfl
   refine ⟨.inr rfl, _, [.bool (decide (w.length ≤ 255))], rfl, ?_, ?_, rfl⟩
   ·simp only [Tryz.f46, resF, ev_tmp, T.get_set, Nat.reduceEqDiff, if_true, if_false, evG_some, R.ok_bind]
   ·have : 1 ≤ w.length := List.length_pos_iff.2 h0
    unfold okW
    show Value.bool _ = Value.bool _
    congr 1
    exact decide_eq_decide.2 ⟨fun h => ⟨this, h⟩, fun h => h.2⟩
 exact hg
end Go.Proofs.YtnelkapmmgggdaaGreat.mdl

/-
 Model: a word's check, whole; an entry that is bare.
-/
namespace Go.Proofs.YtnelkapmmgggdaaGreat.mdl
open Go.Am Go.Mdl
set_option linter.unusedSimpArgs false
set_option linter.unusedVariables false
set_option linter.unusedVariables false

noncomputable def c45 : Code := Tryz.f47.body.getD .skip
noncomputable def c45b1 : Code := sub c45 [1,0,1,0,0]
theorem c45_eq : Tryz.f47.body = some (.seq (sub c45 [0]) (.seq (.seq (sub c45 [1,0,0]) (.block 0 (.loop c45b1))) (.seq (sub c45 [1,1,0]) (sub c45 [1,1,1])))) := by kernel_rfl
theorem size9' : sizeF tb4 9 = .ok 1 := by kernel_rfl
theorem idx94 {q : Nat} : indexAddrF tb4 99 (.slice (some ⟨q, 0, none⟩) 1 2) (.int .i64 ((0 : Nat) : Int)) = .ok (.pointer (some ⟨q, 0, none⟩)) := by
 kernel_rfl
theorem len94 {q : Nat} : builtinPF tb4 .len [99] [.slice (some ⟨q, 0, none⟩) 1 2] = .ok (.int .i64 ((1 : Nat) : Int)) := by kernel_rfl
theorem run_all {A : Mem} {q : Nat} {w : List UInt8} (hq : A.get q = some (rowOb 9 [strOf w])) : Ans tb4 47 [.func (.func 46) ⟨[]⟩ ⟨[]⟩, .slice (some ⟨q, 0, none⟩) 1 2] A (.bool (okW w)) A := by
 obtain ⟨v, A', hg, rfl, rfl⟩ : ∃ v A', Ans tb4 47 [.func (.func 46) ⟨[]⟩ ⟨[]⟩, .slice (some ⟨q, 0, none⟩) 1 2] A v A' ∧ v = .bool (okW w) ∧ A' = A := by
  refine ans_of_W (fn_at Tryz.func47) c45_eq (by rw [Tryz.ntmps47]; simp) (by kernel_rfl) (by kernel_rfl) ?_
  have hld : loadF tb4 A.get 9 (.pointer (some ⟨q, 0, none⟩)) = .ok (strOf w) := load_vals und9' rfl (vals_puts (k := .var 1) hq) rfl
  obtain ⟨g, hg⟩ := run_is (A := A) (w := w)
  apply W.seq
  apply W.run 20
  ·intro M
   simp (disch := first | decide +kernel | omega) only [c45, Tryz.f47, Aq, Nat.reduceEqDiff]
   with_reducible rfl
  apply W.seq
  apply W.seq
  apply W.run 20
  ·intro M
   simp (disch := first | decide +kernel | omega) only [c45, Tryz.f47, Aq, Nat.reduceEqDiff, len94]
   with_reducible rfl
  apply W.block
  apply W.round
  cases hw : okW w with
  | false =>
   rw [hw] at hg
   apply W.runG (g) 20
   ·intro M hM
    simp (disch := first | decide +kernel | omega) only [c45b1, c45, Tryz.f47, Aq, Nat.reduceEqDiff, idx94, hld, hg, Nat.zero_lt_one]
    with_reducible rfl
   refine ⟨.inr rfl, _, [.bool false], rfl, ?_, rfl, rfl⟩
   simp only [Tryz.f47, resF, ev_tmp, T.get_set, Nat.reduceEqDiff, if_true, if_false, evG_some, R.ok_bind]
  | true =>
   rw [hw] at hg
   apply W.runG (g) 20
   ·intro M hM
    simp (disch := first | decide +kernel | omega) only [c45b1, c45, Tryz.f47, Aq, Nat.reduceEqDiff, idx94, hld, hg, Nat.zero_lt_one]
    with_reducible rfl
   apply W.round
   apply W.run 20
   ·intro M
    simp (disch := first | decide +kernel | omega) only [c45b1, c45, Tryz.f47, Aq, Nat.reduceEqDiff]
    with_reducible rfl
   apply W.seq
   apply W.run 20
   ·intro M
    simp (disch := first | decide +kernel | omega) only [c45, Tryz.f47, Aq, Nat.reduceEqDiff]
    with_reducible rfl
   apply W.run 20
   ·intro M
    simp (disch := first | decide +kernel | omega) only [c45, Tryz.f47, Aq, Nat.reduceEqDiff]
    with_reducible rfl
   refine ⟨.inr rfl, _, [.bool true], rfl, ?_, rfl, rfl⟩
   simp only [Tryz.f47, resF, ev_tmp, T.get_set, Nat.reduceEqDiff, if_true, if_false, evG_some, R.ok_bind]
 exact hg
noncomputable def c29 : Code := Tryz.f30.body.getD .skip
theorem c29_eq : Tryz.f30.body = some (.seq (sub c29 [0]) (.seq (sub c29 [1,0]) (.seq (.seq (sub c29 [1,1,0,0]) (sub c29 [1,1,0,1])) (.seq (sub c29 [1,1,1,0]) (sub c29 [1,1,1,1]))))) := by kernel_rfl
theorem ev_f44 {t : T Value} : ev t (Operand.func 46) = .ok (.func (.func 46) ⟨[]⟩ ⟨[]⟩) := rfl
def chk (w : List UInt8) : Nat := if okW w = true then 0 else 7
theorem run_check {A : Mem} {q : Nat} {w : List UInt8} (hq : A.get q = some (rowOb 9 [strOf w])) : Ans tb4 30 [.slice (some ⟨q, 0, none⟩) 1 2] A (.int .i64 ((chk w : Nat) : Int)) A := by
 obtain ⟨v, A', hg, rfl, rfl⟩ : ∃ v A', Ans tb4 30 [.slice (some ⟨q, 0, none⟩) 1 2] A v A' ∧ v = .int .i64 ((chk w : Nat) : Int) ∧ A' = A := by
  refine ans_of_W (fn_at Tryz.func30) c29_eq (by rw [Tryz.ntmps30]; simp) (by kernel_rfl) (by kernel_rfl) ?_
  obtain ⟨g, hg⟩ := run_all hq
  apply W.seq
  apply W.run 20
  ·intro M
   simp (disch := first | decide +kernel | omega) only [c29, Tryz.f30, Aq, Nat.reduceEqDiff]
   with_reducible rfl
  apply W.seq
  apply W.run 20
  ·intro M
   simp (disch := first | decide +kernel | omega) only [c29, Tryz.f30, Aq, Nat.reduceEqDiff, ev_f44]
   with_reducible rfl
  apply W.seq
  apply W.seq
  unfold chk
  cases hw : okW w with
  | false =>
   rw [hw] at hg
   apply W.runG (g) 20
   ·intro M hM
    simp (disch := first | decide +kernel | omega) only [c29, Tryz.f30, Aq, Nat.reduceEqDiff, hg]
    with_reducible rfl
   apply W.run 20
   ·intro M
    simp (disch := first | decide +kernel | omega) only [c29, Tryz.f30, Aq, Nat.reduceEqDiff]
    with_reducible rfl
   refine ⟨.inr rfl, _, [.int .i64 ((7 : Nat) : Int)], rfl, ?_, rfl, rfl⟩
   simp only [Tryz.f30, resF, ev_tmp, T.get_set, Nat.reduceEqDiff, if_true, if_false, evG_some, R.ok_bind]
  | true =>
   rw [hw] at hg
   apply W.runG (g) 20
   ·intro M hM
    simp (disch := first | decide +kernel | omega) only [c29, Tryz.f30, Aq, Nat.reduceEqDiff, hg]
    with_reducible rfl
   apply W.run 20
   ·intro M
    simp (disch := first | decide +kernel | omega) only [c29, Tryz.f30, Aq, Nat.reduceEqDiff]
    with_reducible rfl
   apply W.seq
   apply W.run 20
   ·intro M
    simp (disch := first | decide +kernel | omega) only [c29, Tryz.f30, Aq, Nat.reduceEqDiff]
    with_reducible rfl
   apply W.run 20
   ·intro M
    simp (disch := first | decide +kernel | omega) only [c29, Tryz.f30, Aq, Nat.reduceEqDiff]
    with_reducible rfl
   refine ⟨.inr rfl, _, [.int .i64 ((0 : Nat) : Int)], rfl, ?_, rfl, rfl⟩
   simp only [Tryz.f30, resF, ev_tmp, T.get_set, Nat.reduceEqDiff, if_true, if_false, evG_some, R.ok_bind]
 exact hg

noncomputable def c38 : Code := Tryz.f39.body.getD .skip
theorem c38_eq : Tryz.f39.body = some (.seq (sub c38 [0]) (.seq (.seq (sub c38 [1,0,0]) (.cond (.tmp 4) (sub c38 [1,0,1,0]) .skip)) (.seq (sub c38 [1,1,0]) (sub c38 [1,1,1])))) := by kernel_rfl
theorem fb1' {b : Nat} : fieldAddrF tb4 59 (.pointer (some ⟨b, 0, none⟩)) 1 = .ok (.pointer (some ⟨b, 1, none⟩)) := by kernel_rfl
theorem run_bare {A : Mem} {e : EntD} : ∃ A', Ans tb4 39 [.agg ⟨entC e⟩] A (.agg ⟨entC (norm e)⟩) A' ∧ Kp A A' := by
 obtain ⟨v, A', hg, rfl, hk⟩ : ∃ v A', Ans tb4 39 [.agg ⟨entC e⟩] A v A' ∧ v = .agg ⟨entC (norm e)⟩ ∧ Kp A A' := by
  refine ans_of_W (fn_at Tryz.func39) c38_eq (by rw [Tryz.ntmps39]; simp) (by kernel_rfl) (by kernel_rfl) ?_
  obtain ⟨d45, hd1, hd2⟩ := und45'
  have v0 : Vals ((A.alloc (rowOb 59 (entC e))).alloc (rowOb 59 [.string .empty, .int .u32 0, .bool false])) 59 A.next (.var 3) (entC e) := (vals_puts (get_alloc_self _ _)).same (get_alloc_ne (by rw [next_alloc]; omega))
  have z0 : Vals ((A.alloc (rowOb 59 (entC e))).alloc (rowOb 59 [.string .empty, .int .u32 0, .bool false])) 59 (A.next + 1) (.var 3) [.string .empty, .int .u32 0, .bool false] := vals_puts (get_alloc_self _ _)
  have hg : loadF tb4 ((A.alloc (rowOb 59 (entC e))).alloc (rowOb 59 [.string .empty, .int .u32 0, .bool false])).get 4 (.pointer (some ⟨A.next, 2, none⟩)) = .ok (.bool e.gone) := load_vals und4' rfl v0 rfl
  apply W.seq
  apply W.run 20
  ·intro M
   simp (disch := first | decide +kernel | omega) only [c38, Tryz.f39, Aq, Nat.reduceEqDiff, z45, cells_agg, next_alloc]
   with_reducible rfl
  apply W.seq
  apply W.seq
  apply W.run 20
  ·intro M
   simp (disch := first | decide +kernel | omega) only [c38, Tryz.f39, Aq, Nat.reduceEqDiff, fb2, hg]
   with_reducible rfl
  show W tb4 _ _ _
  have fin : ∀ (C : Mem), Vals C 59 A.next (.var 3) (entC (norm e)) → Vals C 59 (A.next + 1) (.var 3) [.string .empty, .int .u32 0, .bool false] → Kp A C → ∃ C2, loadF tb4 C.get 59 (.pointer (some ⟨A.next, 0, none⟩)) = .ok (.agg ⟨entC (norm e)⟩) ∧ storeF tb4 C 59 (.pointer (some ⟨A.next + 1, 0, none⟩)) (.agg ⟨entC (norm e)⟩) = .ok C2 ∧ loadF tb4 C2.get 59 (.pointer (some ⟨A.next + 1, 0, none⟩)) = .ok (.agg ⟨entC (norm e)⟩) ∧ Kp A C2 := by
   intro C v1 z1 k1
   obtain ⟨C2, s2, v2, n2, k2⟩ := store_all (tb := tb4) (t := 59) (l := [.string .empty, .int .u32 0, .bool false]) (l' := entC (norm e)) size45' z1 rfl (by simp) (entC_one _)
   exact ⟨C2, load_all hd1 hd2 size45' v1, s2, load_all hd1 hd2 size45' v2, by rw [Kp, n2]; exact ⟨k1.1, fun z hz => by rw [k2 z (by omega), k1.2 z hz]⟩⟩
  cases hgo : e.gone with
  | false =>
   have hn : norm e = e := by unfold norm; rw [hgo]; rfl
   obtain ⟨C2, l1, s2, l2, k2⟩ := fin _ (by rw [hn]; exact v0) z0 ((Kp.alloc _ _).trans (Kp.alloc _ _))
   refine W.cond (p := false) ?_ (fun h => by cases h) (fun _ => ?_)
   ·simp only [ev_tmp, T.get_set, Nat.reduceEqDiff, if_true, if_false, evG_some]
   apply W.run 20
   ·intro M
    simp (disch := first | decide +kernel | omega) only [c38, Tryz.f39, Aq, Nat.reduceEqDiff]
    with_reducible rfl
   apply W.seq
   apply W.run 20
   ·intro M
    simp (disch := first | decide +kernel | omega) only [c38, Tryz.f39, Aq, Nat.reduceEqDiff, l1, s2]
    with_reducible rfl
   apply W.run 20
   ·intro M
    simp (disch := first | decide +kernel | omega) only [c38, Tryz.f39, Aq, Nat.reduceEqDiff]
    with_reducible rfl
   refine ⟨.inr rfl, C2, [.agg ⟨entC (norm e)⟩], rfl, ?_, rfl, k2⟩
   simp only [Tryz.f39, resF, ev_tmp, T.get_set, Nat.reduceEqDiff, if_true, if_false, evG_some, R.ok_bind, l2]
  | true =>
   obtain ⟨C1, s1, v1, n1, k1⟩ := store_vals (tb := tb4) (t := 41) (o := 1) (v := .int .u32 ((0 : Nat) : Int)) size24' v0 (by show 1 < 3; decide) rfl rfl
   have hn : norm e = ⟨e.word, 0, true⟩ := by unfold norm; rw [hgo]; rfl
   have e1 : (entC e).set 1 (.int .u32 ((0 : Nat) : Int)) = entC (norm e) := by rw [hn]; unfold entC; rw [hgo]; rfl
   rw [e1] at v1
   obtain ⟨C2, l1, s2, l2, k2⟩ := fin C1 v1 (z0.same (k1 _ (by omega))) (by
    have h0 := (Kp.alloc A (rowOb 59 (entC e))).trans (Kp.alloc _ (rowOb 59 [.string .empty, .int .u32 0, .bool false]))
    exact ⟨by rw [n1]; exact h0.1, fun z hz => by rw [k1 z (by omega), h0.2 z hz]⟩)
   refine W.cond (p := true) ?_ (fun _ => ?_) (fun h => by cases h)
   ·simp only [ev_tmp, T.get_set, Nat.reduceEqDiff, if_true, if_false, evG_some]
   apply W.run 20
   ·intro M
    simp (disch := first | decide +kernel | omega) only [c38, Tryz.f39, Aq, Nat.reduceEqDiff, fb1', s1]
    with_reducible rfl
   apply W.seq
   apply W.run 20
   ·intro M
    simp (disch := first | decide +kernel | omega) only [c38, Tryz.f39, Aq, Nat.reduceEqDiff, l1, s2]
    with_reducible rfl
   apply W.run 20
   ·intro M
    simp (disch := first | decide +kernel | omega) only [c38, Tryz.f39, Aq, Nat.reduceEqDiff]
    with_reducible rfl
   refine ⟨.inr rfl, C2, [.agg ⟨entC (norm e)⟩], rfl, ?_, rfl, k2⟩
   simp only [Tryz.f39, resF, ev_tmp, T.get_set, Nat.reduceEqDiff, if_true, if_false, evG_some, R.ok_bind, l2]
 exact ⟨A', hg, hk⟩
end Go.Proofs.YtnelkapmmgggdaaGreat.mdl

