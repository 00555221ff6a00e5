/-
  The statement ModelTells holds, for every input: the program, run on the abstract machine AM on values of which parts are variables, answers true; what AM answers the model answers. No conditions.
-/
import Derived.Test.YtnelkapmmgggdaaGreatRows
import Derived.Test.YtnelkapmmgggdaaGreatMdzD
import Derived.WalkKit
import Derived.ProofKit
import Derived.OpenShut
import Derived.ShutString
import Derived.ChangeOld
import Derived.Below
import Derived.Deep.Slices
import Derived.Deep.Fields
import Derived.ChangeSame
set_option maxHeartbeats 16000000
set_option maxRecDepth 20000
namespace Go.Proofs.YtnelkapmmgggdaaGreat.mdl
open Go.Am Go.Mdl
open Go.Proofs.YtnelkapmmgggdaaGreat.rnk (HitD hitC ordD lessB sortH ordK lessK hitC_len sortH_len)
set_option linter.unusedSimpArgs false
set_option linter.unusedVariables false
set_option linter.unusedVariables false

def GoodD (d : List EntD) (n : Nat) : Prop := OkD d ∧ d.length ≤ n ∧ ∀ e ∈ d, e.word.length ≤ 300
theorem putD_good {d : List EntD} {o : OpV} {th gn : Bool} {no n : Nat} (h : GoodD d n) : GoodD (putD d o th no gn).1 (n + 1) := by
 have h0 : GoodD d (n + 1) := ⟨h.1, by have := h.2.1; omega, h.2.2⟩
 unfold putD
 split
 ·exact h0
 ·rename_i hw
  split
  ·exact h0
  ·have hwl := withL_len (own := d) (more := [⟨o.word, o.weight, gn⟩]) h.1.1
   have hll := live_le (withL d [⟨o.word, o.weight, gn⟩])
   simp only [List.length_cons, List.length_nil] at hwl
   refine ⟨live_ok (withL_asc h.1.1), by show (Go.Mdl.live _).length ≤ _; have := h.2.1; omega, fun e he => ?_⟩
   rcases withL_mem (mem_live he) with he | ⟨m, hm, hq⟩
   ·exact h.2.2 e he
   ·rw [List.mem_singleton.1 hm] at hq
    rw [hq]
    have : okW o.word = true := by simpa using hw
    have := of_decide_eq_true this
    show o.word.length ≤ 300
    omega
theorem stepP_good {d : List EntD} {o : OpV} {n : Nat} (h : GoodD d n) : GoodD (stepP d o).1 (n + 1) := by
 unfold stepP
 split
 ·exact putD_good h
 ·split
  ·exact putD_good h
  ·split
   ·exact putD_good h
   ·exact ⟨h.1, by have := h.2.1; show d.length ≤ _; omega, h.2.2⟩
theorem runU_good : ∀ {l : List OpV} {d : List EntD} {f n : Nat}, GoodD d n → GoodD (runU l (d, f)).1 (n + l.length)
 | [], d, f, n, h => h
 | o :: l, d, f, n, h => by
  have := runU_good (l := l) (f := if f = 0 then (stepP d o).2 else f) (stepP_good (o := o) h)
  show GoodD (runU l ((stepP d o).1, if f = 0 then (stepP d o).2 else f)).1 _
  rw [List.length_cons, show n + (l.length + 1) = n + 1 + l.length by omega]
  exact this
theorem doD_good {s : MdlS} {o : OpV} {told n : Nat} (h : GoodD s.d n) : GoodD (doD s o told).1.d (n + 1) := by
 have h0 : GoodD s.d (n + 1) := ⟨h.1, by have := h.2.1; omega, h.2.2⟩
 rw [← docD_eq]
 unfold docD
 split
 ·exact h0
 split
 ·exact h0
 split
 ·exact h0
 split
 ·exact h0
 split
 ·exact h0
 split
 ·exact h0
 split
 ·exact h0
 ·show GoodD (if updB o = true then (stepP s.d o).1 else s.d) _
  split
  ·exact stepP_good h
  ·exact h0
theorem GoodD.m {d : List EntD} {n : Nat} (h : GoodD d n) (hn : n < 1000) : OkM d := okM_of h.1 (by have := h.2.1; omega) h.2.2
theorem SelfInt (d : Nat) (k : IntKind) (n : Int) : sameV (d + 1) (.int k n) (.int k n) = true := by
 rw [sameV]
 simp only [ieqF_iff]
 cases k <;> simp [kindEq]
theorem SelfStr (d : Nat) (l : List UInt8) : sameV (d + 1) (strOf l) (strOf l) = true := by
 show bytesEq _ _ = true
 rw [bytesEq_eq]
 simp
theorem SelfBool (d : Nat) (b : Bool) : sameV (d + 1) (.bool b) (.bool b) = true := by cases b <;> rfl
theorem BytS.selfD {A : Mem} {ls : List UInt8} {x : Value} (h : BytS A ls x) (d : Nat) : sameV (d + 1) x x = true := by
 rcases h with ⟨rfl, rfl⟩ | ⟨rfl, rfl⟩ | ⟨q, off, cp, rfl, -⟩
 ·simp [sameV]
 ·rfl
 ·simp [sameV, sameA, sameN]
theorem SelfIn {A : Mem} {o : OpI} (h : BytS A o.dr.ls o.dr.xl) : sameV 100 (.agg ⟨inC o⟩) (.agg ⟨inC o⟩) = true := by
 show sameV (98 + 2) _ _ = true
 rw [sameV]
 simp [inC, SelfInt, SelfStr, SelfBool, h.selfD]
theorem SelfOp (o : OpV) : sameV 100 (.agg ⟨opC o⟩) (.agg ⟨opC o⟩) = true := by
 show sameV (98 + 2) _ _ = true
 rw [sameV]
 simp [opC, SelfInt, SelfStr]
theorem OpL.at2 {A : Mem} {os : List OpI} {x : Value} (h : OpL A os x) {i : Nat} {o : OpI} (hi : os[i]? = some o) :
  ∃ p, indexAddrF tb4 23 x (.int .i64 (i : Int)) = .ok (.pointer (some p)) ∧ ∀ A', Kp A A' → loadF tb4 A'.get 54 (.pointer (some p)) = .ok (.agg ⟨inC o⟩) ∧ InOk A' o := by
 obtain ⟨⟨p, h1, -⟩, -⟩ := h.at hi
 refine ⟨p, h1, fun A' k => ?_⟩
 obtain ⟨⟨p', g1, g2⟩, g3⟩ := (h.kp k).at hi
 rw [h1] at g1
 injection g1 with e
 injection e with e
 injection e with e
 subst e
 exact ⟨g2, g3⟩
theorem rOp_bin (t : T Value) (g : Nat → Option Ob) (op : BinOp) (e r : TypeId) (x y : Operand) : rOp tb4 t g (.binOp op e x y r) = (ev t x).bind fun a => (ev t y).bind fun b => eqF tb4 g op e x y a b := rfl
theorem EntE.self {A : Mem} {l : List EntD} {x : Value} (h : EntE A l x) : sameV 100 x x = true := h.cells.2.2
theorem doD_hits {s : MdlS} {o : OpV} {told : Nat} : (doD s o told).2.hits.length ≤ s.d.length := by
 rw [← docD_eq]
 unfold docD
 split
 ·exact Nat.zero_le _
 split
 ·exact Nat.zero_le _
 split
 ·exact ansD_len _ _
 split
 ·exact Nat.zero_le _
 split
 ·exact Nat.zero_le _
 split
 ·exact Nat.zero_le _
 split
 ·exact Nat.zero_le _
 ·exact Nat.zero_le _
theorem ModR.kq {A A' : Mem} {q r : Nat} {s : MdlS} {ls : List Value} (h : ModR A r s) (hv : Vals A 64 q (.var 3) ls) (k : Kq q A A') : ModR A' r s := by
 obtain ⟨x, h1, h2, h3⟩ := h
 have hne : r ≠ q := fun e => by
  obtain ⟨c, hc, -⟩ := h2
  rw [e] at hc
  exact Vals.not hv (by decide) _ _ _ hc
 exact ⟨x, Nat.lt_of_lt_of_le h1 k.1, h2.same (k.2 _ h1 hne), h3.kq hv k⟩
theorem ModV.kr {A A' : Mem} {q r : Nat} {s : MdlS} {ls : List Value} (h : ModV A q s) (hv : Vals A 33 r (.var 3) ls) (k : Kq r A A') : ModV A' q s := by
 obtain ⟨x, h1, h2, h3⟩ := h
 have hne : q ≠ r := fun e => by
  obtain ⟨c, hc, -⟩ := h2
  rw [e] at hc
  exact Vals.not hv (by decide) _ _ _ hc
 exact ⟨x, Nat.lt_of_lt_of_le h1 k.1, h2.same (k.2 _ h1 hne), h3.kr hv k⟩
theorem RepR.kr {A A' : Mem} {r : Nat} {s : RepD} {v : Value} {ls : List Value} (h : RepR A s v) (hv : Vals A 33 r (.var 3) ls) (k : Kq r A A') : RepR A' s v := by
 obtain ⟨x, h1, h2⟩ := h
 exact ⟨x, h1, HitR.put h2 (Vals.not hv (by decide)) k.1 k.2⟩
noncomputable def c3 : Code := Tryz.f3.body.getD .skip
noncomputable def c3b1 : Code := sub c3 [1,1,1,1,1,1,1,1,0,1,0,0]
theorem c3_eq : Tryz.f3.body = some (.seq (sub c3 [0]) (.seq (sub c3 [1,0]) (.seq (sub c3 [1,1,0]) (.seq (.seq (sub c3 [1,1,1,0,0]) (sub c3 [1,1,1,0,1])) (.seq (sub c3 [1,1,1,1,0]) (.seq (sub c3 [1,1,1,1,1,0]) (.seq (sub c3 [1,1,1,1,1,1,0]) (.seq (.seq (sub c3 [1,1,1,1,1,1,1,0,0]) (sub c3 [1,1,1,1,1,1,1,0,1])) (.seq (.seq (sub c3 [1,1,1,1,1,1,1,1,0,0]) (.block 0 (.loop c3b1))) (.seq (sub c3 [1,1,1,1,1,1,1,1,1,0]) (sub c3 [1,1,1,1,1,1,1,1,1,1]))))))))))) := by kernel_rfl
theorem c3b1_eq : c3b1 = .seq (.seq (sub c3b1 [0,0]) (sub c3b1 [0,1])) (.seq (.block 1 (.seq (sub c3b1 [1,0,0,0]) (sub c3b1 [1,0,0,1]))) (sub c3b1 [1,1])) := by kernel_rfl
abbrev slT (x1 : Value) (q r i : Nat) (x8 : Value) : List (Nat × Value) := [(1, x1), (6, .pointer (some ⟨q, 0, none⟩)), (7, .pointer (some ⟨r, 0, none⟩)), (8, x8), (13, .int .i64 (i : Int))]
theorem tells_round {A0 C : Mem} {q r i b : Nat} {s : MdlS} {os : List OpI} {all : List OpV} {o : OpI} {x1 x8 : Value} {t : T Value} {K : Ex → St → Prop} (hm : ModV C q s) (hr : ModR C r s) (hg : GoodD s.d 900) (h0 : Kp A0 C) (hq0 : A0.next ≤ q) (hr0 : A0.next ≤ r) (hL : OpL A0 os x1) (ho : OpS C b all x8) (hi : os[i]? = some o) (ha : all[i]? = some (opD o))
  (ht : Sl t (slT x1 q r i x8))
  (hK : ∀ t' C', Kp A0 C' → ModV C' q (doD s (opD o) (toldI o)).1 → ModR C' r (doD s (opD o) (toldI o)).1 → OpS C' b all x8 → Sl t' (slT x1 q r i x8) → K .nrm ⟨t', 142, [], C', none⟩) :
  W tb4 (.seq (sub c3b1 [1,0,0,0]) (sub c3b1 [1,0,0,1])) ⟨t, 142, [], C, none⟩ K := by
 obtain ⟨g1, g6, g7, g8, g13, -⟩ := ht
 have hM := hg.m (by omega)
 have hdl := hM.2.1
 obtain ⟨lq, hv⟩ := hm.v
 obtain ⟨x, hrn, hw, hx⟩ := hr
 have hr : ModR C r s := ⟨x, hrn, hw, hx⟩
 obtain ⟨p, i1, hin⟩ := hL.at2 hi
 have a1 := (ho.at ha).1
 have hsx := EntE.self hx
 have hso := SelfOp (opD o)
 have hsi := SelfIn (hin A0 (Kp.refl _)).2.by_
 -- what is asked
 obtain ⟨v1, C1, ⟨gg1, hh1⟩, hR1, k1⟩ := run_answer (o := opD o) hx hM.1 (by omega) hM.2.2
 obtain ⟨v2, C2, ⟨gg2, hh2⟩, hR2, k2⟩ := run_ranswer (o := opD o) (hx.kp k1) (by omega) hM.2.2
 have hal := ansD_len s.d (opD o)
 obtain ⟨C3, ⟨gg3, hh3⟩, k3⟩ := run_rsame2 (hR1.toR.kp k2) hR2 (by omega)
 -- what is told, and done
 obtain ⟨vt, C4, ⟨gg4, hh4⟩, rfl, k4⟩ := run_told (hin C3 (h0.trans ((k1.trans k2).trans k3))).2
 have kC4 := ((k1.trans k2).trans k3).trans k4
 have k04 := h0.trans kC4
 have hv4 := hv.same (kC4.2 q hm.lt)
 obtain ⟨v5, C5, ⟨gg5, hh5⟩, hR5, m5, k5⟩ := run_Do (told := toldI o) (o := opD o) (hm.kp kC4) hM
 have r5 : ModR C5 r s := (hr.kp kC4).kq hv4 k5
 have kA5 : Kp A0 C5 := ⟨by have := k04.1; have := k5.1; omega, fun z hz => by rw [k5.2 z (by have := k04.1; omega) (by omega), k04.2 z hz]⟩
 have ho4 := OpS.kp ho kC4
 have ho5 : OpS C5 b all x8 := SlcM.put ho4 (Vals.not hv4 (by decide)) k5.1 k5.2
 obtain ⟨vt, C6, ⟨gg6, hh6⟩, rfl, k6⟩ := run_told (hin C5 kA5).2
 have r6 := r5.kp k6
 obtain ⟨lr6, w6⟩ := r6.v
 obtain ⟨v7, C7, ⟨gg7, hh7⟩, hR7, m7, k7⟩ := run_rDo (told := toldI o) (o := opD o) r6 hM
 have hR57 := (hR5.toR.kp k6).kr w6 k7
 have q7 := (m5.kp k6).kr w6 k7
 have kA6 := kA5.trans k6
 have kA7 : Kp A0 C7 := ⟨by have := kA6.1; have := k7.1; omega, fun z hz => by rw [k7.2 z (by have := kA6.1; omega) (by omega), kA6.2 z hz]⟩
 have ho6 := OpS.kp ho5 k6
 have ho7 : OpS C7 b all x8 := SlcM.put ho6 (Vals.not w6 (by decide)) k7.1 k7.2
 have hdh := doD_hits (s := s) (o := opD o) (told := toldI o)
 obtain ⟨C8, ⟨gg8, hh8⟩, k8⟩ := run_rsame2 hR57 hR7 (by omega)
 have hgood := doD_good (s := s) (o := opD o) (told := toldI o) hg
 generalize hs' : (doD s (opD o) (toldI o)).1 = s' at q7 m7 hgood hK
 have hgl := hgood.2.1
 have q8 := q7.kp k8
 have m8 := m7.kp k8
 obtain ⟨x8', hrn8, w8, hx8⟩ := m8
 have m8 : ModR C8 r s' := ⟨x8', hrn8, w8, hx8⟩
 obtain ⟨yw, C9, ⟨gg9, hh9⟩, hyw, k9⟩ := run_wordsM q8 (by omega)
 have hl : Go.Mdl.live s'.d = s'.d := live_id hgood.1.2
 rw [hl] at hyw
 obtain ⟨gs, hgs⟩ := run_same hyw (hx8.kp k9) (by omega) (by omega)
 rw [decide_eq_true rfl] at hgs
 have w9 := w8.same (k9.2 r hrn8)
 obtain ⟨gp, hgp⟩ := run_poisoned (q8.kp k9)
 obtain ⟨gc, hgc⟩ := run_closed (q8.kp k9)
 have kA9 := (kA7.trans k8).trans k9
 have fin : ∀ t', Sl t' (slT x1 q r i x8) → K .nrm ⟨t', 142, [], C9, none⟩ := fun t' ht' => hK t' C9 kA9 (q8.kp k9) (m8.kp k9) (OpS.kp (OpS.kp ho7 k8) k9) ht'
 -- what is read, and where
 have lo := (OpS.at ho ha).2
 have li := (hin C h0).1
 have lo1 := (OpS.at (OpS.kp ho k1) ha).2
 have li1 := (hin C1 (h0.trans k1)).1
 have lo2 := (OpS.at (OpS.kp ho (k1.trans k2)) ha).2
 have li2 := (hin C2 ((h0.trans k1).trans k2)).1
 have lo3 := (OpS.at (OpS.kp ho ((k1.trans k2).trans k3)) ha).2
 have li3 := (hin C3 (((h0.trans k1).trans k2).trans k3)).1
 have lo4 := (OpS.at (OpS.kp ho kC4) ha).2
 have li4 := (hin C4 k04).1
 have lo5 := (OpS.at ho5 ha).2
 have li5 := (hin C5 kA5).1
 have lo6 := (OpS.at ho6 ha).2
 have li6 := (hin C6 kA6).1
 have lo7 := (OpS.at ho7 ha).2
 have li7 := (hin C7 kA7).1
 have lo8 := (OpS.at (OpS.kp ho7 k8) ha).2
 have li8 := (hin C8 (kA7.trans k8)).1
 have lo9 := (OpS.at (OpS.kp (OpS.kp ho7 k8) k9) ha).2
 have li9 := (hin C9 kA9).1
 have lx : loadF tb4 C.get 24 (.pointer (some ⟨r, 0, none⟩)) = .ok x := load_vals und32' rfl hw rfl
 have lx1 : loadF tb4 C1.get 24 (.pointer (some ⟨r, 0, none⟩)) = .ok x := load_vals und32' rfl (hw.same (k1.2 r hrn)) rfl
 have lx2 : loadF tb4 C2.get 24 (.pointer (some ⟨r, 0, none⟩)) = .ok x := load_vals und32' rfl (hw.same ((k1.trans k2).2 r hrn)) rfl
 have lx3 : loadF tb4 C3.get 24 (.pointer (some ⟨r, 0, none⟩)) = .ok x := load_vals und32' rfl (hw.same (((k1.trans k2).trans k3).2 r hrn)) rfl
 have lx4 : loadF tb4 C4.get 24 (.pointer (some ⟨r, 0, none⟩)) = .ok x := load_vals und32' rfl (hw.same (kC4.2 r hrn)) rfl
 have ly8 : loadF tb4 C8.get 24 (.pointer (some ⟨r, 0, none⟩)) = .ok x8' := load_vals und32' rfl w8 rfl
 have lb8 : loadF tb4 C8.get 4 (.pointer (some ⟨r, 1, none⟩)) = .ok (.bool s'.bad) := load_vals und4' rfl w8 rfl
 have lc8 : loadF tb4 C8.get 4 (.pointer (some ⟨r, 2, none⟩)) = .ok (.bool s'.closed) := load_vals und4' rfl w8 rfl
 have ly9 : loadF tb4 C9.get 24 (.pointer (some ⟨r, 0, none⟩)) = .ok x8' := load_vals und32' rfl w9 rfl
 have lb9 : loadF tb4 C9.get 4 (.pointer (some ⟨r, 1, none⟩)) = .ok (.bool s'.bad) := load_vals und4' rfl w9 rfl
 have lc9 : loadF tb4 C9.get 4 (.pointer (some ⟨r, 2, none⟩)) = .ok (.bool s'.closed) := load_vals und4' rfl w9 rfl
 have hsx8 := EntE.self hx8
 have hb1 : ∀ b, sameV 100 (.bool b) (.bool b) = true := SelfBool 99

 apply W.seq
 have step : W tb4 (sub c3b1 [1,0,0,0]) ⟨t, 142, [], C, none⟩ (fun e st => ∃ t', e = .nrm ∧ st = ⟨t', 142, [], C9, none⟩ ∧ Sl t' ((140, .bool false) :: slT x1 q r i x8)) := by
  have hnb : ∀ b : Bool, binF .neq (tb4.und 4) (.bool b) (.bool b) = .ok (.bool false) := fun b => by cases b <;> kernel_rfl
  apply W.runG ((gg1+gg2+gg3+gg4+gg5+gg6+gg7+gg8+gg9+gs+gp+gc)) 20
  ·intro M hM
   simp (config := { maxSteps := 4000000 }) (disch := first | decide +kernel | omega | simp only [Wq, Nat.reduceEqDiff]) only [c3b1, c3, Tryz.f3, Aq, Nat.ble, reduceIte, Nat.reduceEqDiff, Nat.reduceAdd, Fq, exec_float [(12, 8), (16, 8), (25, 30), (36, 30), (36, 31), (40, 30), (40, 31), (36, 41), (52, 48), (62, 58), (71, 67)], hnb, List.append_eq, g1, g6, g7, g8, g13, fr0, fr1, fr2, opF_nilCheck, nil_ptr, a1, i1, hsx, hso, hsi, hsx8, hb1, hh1, hh2, hh3, hh4, hh5, hh6, hh7, hh8, hh9, hgs, hgp, hgc, lo, li, lo1, li1, lo2, li2, lo3, li3, lo4, li4, lo5, li5, lo6, li6, lo7, li7, lo8, li8, lo9, li9, lx, lx1, lx2, lx3, lx4, ly8, lb8, lc8, ly9, lb9, lc9]
   with_reducible rfl
  refine ⟨_, rfl, rfl, ?_⟩
  simp only [Sl_cons, Sl_nil, T.get_set, T.puts_cons, T.puts_nil, Nat.reduceEqDiff, Nat.reduceAdd, if_true, if_false, and_true, true_and, g1, g6, g7, g8, g13]
 refine step.mono ?_
 rintro e st ⟨t', rfl, rfl, f140, f1, f6, f7, f8, f13, -⟩
 apply W.run 20
 ·intro M
  simp (disch := first | decide +kernel | omega) only [c3b1, c3, Tryz.f3, Aq, Nat.reduceEqDiff, f140]
  with_reducible rfl
 refine fin _ ?_
 simp only [Sl_cons, Sl_nil, T.get_set, T.puts_cons, T.puts_nil, Nat.reduceEqDiff, Nat.reduceAdd, if_true, if_false, and_true, true_and, f1, f6, f7, f8, f13]
theorem run_modelTells {A : Mem} {x0 x1 : Value} {ds : List DrD} {os : List OpI} (hx : DrS A ds x0) (hL : OpL A os x1) (hll : os.length < 9223372036854775808) : ∃ A', CallsTo tb4 3 [x0, x1] A (.bool true) A' := by
 obtain ⟨v, A', hg, rfl⟩ : ∃ v A', CallsTo tb4 3 [x0, x1] A v A' ∧ v = .bool true := by
  refine call_of_W (fn_at Tryz.func3) c3_eq (by rw [Tryz.ntmps3]; simp) ?_
  obtain ⟨hok, hln, hwd⟩ := new_ok (ds := ds) (n := 20) (by omega)
  obtain ⟨y1, B1, ⟨g1, hg1⟩, ⟨bo, hb⟩, k1⟩ := run_entries (n := 20) hx (by omega)
  have hl : ((ds.take 20).map dE).length ≤ 20 := by rw [List.length_map, List.length_take]; omega
  obtain ⟨q, B2, b2, y2, ⟨g2, hg2⟩, hN, hq, hq1, hq2, -, -, kk2⟩ := run_new hb hb.lt (by omega)
  have k2 : Kp B1 B2 := ⟨by omega, kk2⟩
  obtain ⟨vr, B3, ⟨g3, hg3⟩, r, rfl, hr, hr1, k3⟩ := run_rnew (EntE.kp ⟨bo, hb⟩ k2) (by omega)
  generalize newL ((ds.take 20).map dE) = d at hok hln hwd hN hr
  have hgood : GoodD d 20 := ⟨hok, hln, fun e he => by have := hwd e he; omega⟩
  have mB : ModV B2 q ⟨d, false, false⟩ := ⟨y2, hq2, vals_puts (k := .var 3) hq, b2, hN⟩
  have mB3 := mB.kp k3
  obtain ⟨yw, C, ⟨g4, hg4⟩, hyw, k4⟩ := run_wordsM mB3 (by show d.length < _; omega)
  have hlv : Go.Mdl.live (⟨d, false, false⟩ : MdlS).d = d := live_id hok.2
  rw [hlv] at hyw
  obtain ⟨xr, hrn, hw, hxr⟩ := hr
  have hxr : EntE B3 d xr := hxr
  have hr3 : ModR B3 r ⟨d, false, false⟩ := ⟨xr, hrn, hw, hxr⟩
  obtain ⟨gs, hgs⟩ := run_same hyw (hxr.kp k4) (by omega) (by show d.length < _; omega)
  rw [decide_eq_true rfl] at hgs
  have wC := hw.same (k4.2 r hrn)
  have lx3 : loadF tb4 B3.get 24 (.pointer (some ⟨r, 0, none⟩)) = .ok xr := load_vals und32' rfl hw rfl
  have lxC : loadF tb4 C.get 24 (.pointer (some ⟨r, 0, none⟩)) = .ok xr := load_vals und32' rfl wC rfl
  have hsx := EntE.self hxr
  have kAC := ((k1.trans k2).trans k3).trans k4
  obtain ⟨v8, D, ⟨g5, hg5⟩, b8, ho, k5, hb8⟩ := run_ops (hL.kp kAC) hll
  have hal : ((os.take 60).map opD).length ≤ 60 := by rw [List.length_map, List.length_take]; omega
  have lxD : loadF tb4 D.get 24 (.pointer (some ⟨r, 0, none⟩)) = .ok xr := load_vals und32' rfl (wC.same (k5.2 r (by have := k4.1; omega))) rfl
  obtain ⟨y9, E, ⟨g6, hg6⟩, h9, k6'⟩ := run_update ((hxr.kp k4).kp k5) hok.1 ho (by omega)
  have lxE : loadF tb4 E.get 24 (.pointer (some ⟨r, 0, none⟩)) = .ok xr := load_vals und32' rfl ((wC.same (k5.2 r (by have := k4.1; omega))).same (k6'.2 r (by have := k4.1; have := k5.1; omega))) rfl
  obtain ⟨v11, F, ⟨g7, hg7⟩, y11, rfl, h11, k7⟩ := run_rupdate (((hxr.kp k4).kp k5).kp k6') hok.1 (OpS.kp ho k6') (by omega)
  have hru := runU_good (l := (os.take 60).map opD) (f := 0) hgood
  obtain ⟨gt, hgt⟩ := run_same (h9.kp k7) h11 (by have := hru.2.1; omega) (by have := hru.2.1; omega)
  rw [decide_eq_true rfl] at hgt
  have kBF := ((k4.trans k5).trans k6').trans k7
  have kAF := ((k1.trans k2).trans k3).trans kBF
  have mF := mB3.kp kBF
  have rF := hr3.kp kBF
  have hoF := OpS.kp (OpS.kp ho k6') k7
  have he : eqF tb4 B3.get .eql 26 (.tmp 20) (.const (.pointer none)) (.pointer (some ⟨q, 0, none⟩)) (.pointer none) = .ok (.bool false) := by kernel_rfl
  apply W.seq
  apply W.run 20
  ·intro M
   simp (disch := first | decide +kernel | omega) only [c3, Tryz.f3, Aq, Nat.reduceEqDiff]
   with_reducible rfl
  apply W.seq
  apply W.runG (g1) 20
  ·intro M hM
   simp (disch := first | decide +kernel | omega) only [c3, Tryz.f3, Aq, Nat.reduceEqDiff, hg1]
   with_reducible rfl
  apply W.seq
  apply W.runG ((g2+g3)) 20
  ·intro M hM
   simp (disch := first | decide +kernel | omega) only [c3, Tryz.f3, Aq, Nat.reduceEqDiff, hg2, hg3]
   with_reducible rfl
  apply W.seq
  apply W.seq
  apply W.runG ((g4+gs)) 20
  ·intro M hM
   simp (config := { maxSteps := 4000000 }) (disch := first | decide +kernel | omega | simp only [Wq, Nat.reduceEqDiff]) only [c3, Tryz.f3, Aq, Nat.ble, reduceIte, Nat.reduceEqDiff, Nat.reduceAdd, Fq, exec_float [(8, 4)], rOp_bin, he, opF_nilCheck, nil_ptr, fr0, hg4, hgs, lx3, lxC, hsx]
   with_reducible rfl
  apply W.run 20
  ·intro M
   simp (disch := first | decide +kernel | omega) only [c3, Tryz.f3, Aq, Nat.reduceEqDiff]
   with_reducible rfl
  apply W.seq
  apply W.runG (g5) 20
  ·intro M hM
   simp (disch := first | decide +kernel | omega) only [c3, Tryz.f3, Aq, Nat.reduceEqDiff, hg5]
   with_reducible rfl
  apply W.seq
  apply W.runG (g6) 20
  ·intro M hM
   simp (disch := first | decide +kernel | omega) only [c3, Tryz.f3, Aq, Nat.reduceEqDiff, opF_nilCheck, nil_ptr, fr0, lxD, hg6, List.getElem?_cons_zero, List.getElem?_cons_succ]
   with_reducible rfl
  apply W.seq
  apply W.runG (g7) 20
  ·intro M hM
   simp (disch := first | decide +kernel | omega) only [c3, Tryz.f3, Aq, Nat.reduceEqDiff, opF_nilCheck, nil_ptr, fr0, lxE, hg7, List.getElem?_cons_zero, List.getElem?_cons_succ]
   with_reducible rfl
  apply W.seq
  apply W.seq
  apply W.runG (gt) 20
  ·intro M hM
   simp (config := { maxSteps := 4000000 }) (disch := first | decide +kernel | omega | simp only [Wq, Nat.reduceEqDiff]) only [c3, Tryz.f3, Aq, Nat.ble, reduceIte, Nat.reduceEqDiff, Nat.reduceAdd, hgt]
   with_reducible rfl
  apply W.run 20
  ·intro M
   simp (disch := first | decide +kernel | omega) only [c3, Tryz.f3, Aq, Nat.reduceEqDiff]
   with_reducible rfl
  apply W.seq
  apply W.seq
  apply W.run 20
  ·intro M
   simp (disch := first | decide +kernel | omega) only [c3, Tryz.f3, Aq, Nat.reduceEqDiff]
   with_reducible rfl
  apply W.block
  have hq0 : A.next ≤ q := by have := k1.1; omega
  have hr0 : A.next ≤ r := by have := k1.1; omega
  refine W.up ((os.take 60).map opD).length (fun i t C => Kp A C ∧ ∃ s, ModV C q s ∧ ModR C r s ∧ GoodD s.d (20 + i) ∧ OpS C b8 ((os.take 60).map opD) v8 ∧ Sl t (slT x1 q r i v8)) ?_ (Nat.zero_le _) ⟨kAF, ⟨d, false, false⟩, mF, rF, hgood, hoF, ?_⟩
  ·rintro i t C hi ⟨kC, s, mC, rC, gC, oC, g1, g6, g7, g8, g13, -⟩
   have hlen := OpS.len oC
   rw [c3b1_eq]
   apply W.seq
   apply W.seq
   by_cases hlt : i < ((os.take 60).map opD).length
   ·have ha : ((os.take 60).map opD)[i]? = some ((os.take 60).map opD)[i] := List.getElem?_eq_getElem hlt
    have hi60 : i < 60 := by omega
    have hio : i < os.length := by rw [List.length_map, List.length_take] at hlt; omega
    have e : ((os.take 60).map opD)[i] = opD os[i] := by rw [List.getElem_map, List.getElem_take]
    rw [e] at ha
    apply W.run 20
    ·intro M
     simp (disch := first | decide +kernel | omega) only [c3b1, c3, Tryz.f3, Aq, Nat.reduceEqDiff, g8, g13, hlen, hlt]
     with_reducible rfl
    apply W.run 20
    ·intro M
     simp (disch := first | decide +kernel | omega) only [c3b1, c3, Tryz.f3, Aq, Nat.reduceEqDiff]
     with_reducible rfl
    apply W.seq
    apply W.block
    refine tells_round (A0 := A) (o := os[i]) mC rC ⟨gC.1, by have := gC.2.1; omega, gC.2.2⟩ kC hq0 hr0 hL oC (List.getElem?_eq_getElem hio) ha ?_ fun t' C' k' m' r' o' st' => ?_
    ·simp only [Sl_cons, Sl_nil, T.get_set, T.puts_cons, T.puts_nil, Nat.reduceEqDiff, Nat.reduceAdd, if_true, if_false, and_true, true_and, g1, g6, g7, g8, g13]
    ·obtain ⟨f1, f6, f7, f8, f13, -⟩ := st'
     apply W.run 20
     ·intro M
      simp (disch := first | decide +kernel | omega) only [c3b1, c3, Tryz.f3, Aq, Nat.reduceEqDiff, f13]
      with_reducible rfl
     refine ⟨hlt, _, _, rfl, k', _, m', r', doD_good gC, o', ?_⟩
     simp only [Sl_cons, Sl_nil, T.get_set, T.puts_cons, T.puts_nil, Nat.reduceEqDiff, Nat.reduceAdd, if_true, if_false, and_true, true_and, f1, f6, f7, f8]
   ·have hin : i = ((os.take 60).map opD).length := by omega
    apply W.run 20
    ·intro M
     simp (disch := first | decide +kernel | omega) only [c3b1, c3, Tryz.f3, Aq, Nat.reduceEqDiff, g8, g13, hlen, hlt]
     with_reducible rfl
    apply W.run 20
    ·intro M
     simp (disch := first | decide +kernel | omega) only [c3b1, c3, Tryz.f3, Aq, Nat.reduceEqDiff]
     with_reducible rfl
    apply W.seq
    apply W.run 20
    ·intro M
     simp (disch := first | decide +kernel | omega) only [c3, Tryz.f3, Aq, Nat.reduceEqDiff, k6]
     with_reducible rfl
    apply W.run 20
    ·intro M
     simp (disch := first | decide +kernel | omega) only [c3, Tryz.f3, Aq, Nat.reduceEqDiff]
     with_reducible rfl
    refine ⟨.inr rfl, C, [.bool true], rfl, ?_, rfl⟩
    simp only [Tryz.f3, resF, ev_tmp, T.get_set, Nat.reduceEqDiff, if_true, if_false, evG_some, R.ok_bind]
  ·simp only [Sl_cons, Sl_nil, T.get_set, T.puts_cons, T.puts_nil, Nat.reduceEqDiff, Nat.reduceAdd, if_true, if_false, and_true, true_and]
 exact ⟨A', hg⟩
end Go.Proofs.YtnelkapmmgggdaaGreat.mdl

namespace Go.Proofs.YtnelkapmmgggdaaGreat.modelTells
open Go.ChangeShapes Go.WideShapes Go.ChangeAt Go.RowKit Go.Deep Go.Am
open Go.ChangeMaps (open_string shut_string)
set_option linter.unusedVariables false

theorem own : ownKnob Tryz.prog.godebug = none := by kernel_rfl
theorem laidOut : laidOutB Tryz.prog = true := by kernel_rfl
theorem byte_eq {x : Int} (h : (Lit.int .u8 x).wf = true) : Value.int .u8 x = .int .u8 ((x.toNat : Nat) : Int) ∧ x.toNat < 256 := by
 obtain ⟨h0, h1⟩ := bounds_u8 h
 rw [Int.toNat_of_nonneg h0]
 exact ⟨rfl, by omega⟩
theorem small_eq {x : Int} (h : (Lit.int .i8 x).wf = true) : -128 ≤ x ∧ x ≤ 127 := by
 simp [Lit.wf, IntKind.min, IntKind.max, IntKind.signed, IntKind.bits] at h
 omega
theorem word_eq {x : Int} (h : (Lit.int .u32 x).wf = true) : Value.int .u32 x = .int .u32 ((x.toNat : Nat) : Int) := by
 simp [Lit.wf, IntKind.min, IntKind.max, IntKind.signed, IntKind.bits] at h
 rw [Int.toNat_of_nonneg (by omega)]
section
variable {H : Type} {enc : TypeId × Value → H} {P : Program} {w : World} {base : Nat} {spare : Nat → Bool} {held : Bool}
theorem open_slice_fields {t e : TypeId} {fs : Array Field} {fuel : Nat} {cs : List Value} {x : DataW H × List MemPlace} (ht : P.underlying t = some (.slice e)) (he : P.underlying e = some (.struct fs))
  (hone : oneCellFields P fs = true) (hC : P.cellsOf e = fs.size) (h : DataW.trod enc P w base spare held fuel t cs = some x) :
  (cs = [.slice none 0 0] ∧ x = (.nil, [])) ∨
  ∃ (a : Addr) (len cap m : Nat), cs = [.slice (some a) len cap] ∧ len ≤ cap ∧ cap ≤ maxLen ∧ m = (if spare a.block then cap else len) ∧
   ∀ i, i < m → ∃ (n : Nat), ∀ (j : Nat) (f : Field), fs[j]? = some f → ∃ (v : Value) (y : DataW H × List MemPlace), w.cell? (a.add (i * fs.size + j)) = some v ∧ DataW.trod enc P w base spare held n f.type [v] = some y := by
 rcases open_slice ht h with h0 | ⟨a, len, cap, m, n, D, Pl, hcs, hb, hl, hm, hmm, hx, hi⟩
 ·exact .inl h0
 ·refine .inr ⟨a, len, cap, m, hcs, hl, hm, hmm, fun i him => ?_⟩
  obtain ⟨cs', hc, ht'⟩ := hi i him
  rw [hC] at hc
  obtain ⟨ys, n', hn', hy, hlen, hyl, hf⟩ := DataW.trod_struct he ht'
  obtain ⟨_, hcl, hat⟩ := World.cells?_some hc
  refine ⟨n', fun j f hj => ?_⟩
  obtain ⟨ho, hk⟩ := hone_of hone j f hj
  have hjl : j < fs.size := (Array.getElem?_eq_some_iff.1 hj).1
  have hcell := hat j hjl
  have hv : cs'[j]? = some (cs'[j]'(by omega)) := List.getElem?_eq_getElem (by omega)
  have h1 := hf j f hj
  rw [ho, hk] at h1
  have hone' : (cs'.drop j).take 1 = [cs'[j]'(by omega)] := by
   rw [List.drop_eq_getElem_cons (by omega)]
   rfl
  rw [hone'] at h1
  have hys : ys[j]? = some (ys[j]'(by omega)) := List.getElem?_eq_getElem (by omega)
  refine ⟨_, _, ?_, h1.trans hys⟩
  rw [← Go.Deep.add_add, hcell, hv]
end

/-! ### Letters, drafts, operations in the model's memory -/
def bytV (ls : List UInt8) : List Value := ls.map fun b => .int .u8 ((b.toNat : Nat) : Int)
/-- Letters. -/
def LetW (w : World) (v : Value) (ls : List UInt8) : Prop := ParN w 1 v ls.length (bytV ls)
section
variable {H : Type} {enc : TypeId × Value → H} {w : World} {base fuel : Nat} {held : Bool}
theorem letters_of {v : Value} {x : DataW H × List MemPlace} (h : DataW.trod enc Tryz.prog w base (fun _ => true) held fuel 49 [v] = some x) : ∃ ls, LetW w v ls := by
 rcases open_ints Tryz.underlying49 Tryz.underlying5 (by kernel_rfl) h with ⟨hcs, _⟩ | ⟨a, len, cap, zs, hcs, -, hl, hm, hz, -, hcell, hwf⟩
 ·simp only [List.cons.injEq, and_true] at hcs
  subst hcs
  exact ⟨[], .inl ⟨rfl, rfl⟩⟩
 ·simp only [List.cons.injEq, and_true] at hcs
  subst hcs
  simp only [if_true] at hz
  by_cases hc0 : cap = 0
  ·subst hc0
   have hl0 : len = 0 := by omega
   subst hl0
   exact ⟨[], .inr (.inl ⟨a, rfl, rfl⟩)⟩
  ·have hlen : ((zs.take len).map fun z => UInt8.ofNat z.toNat).length = len := by
    rw [List.length_map, List.length_take]; omega
   refine ⟨(zs.take len).map fun z => UInt8.ofNat z.toNat, .inr (.inr ⟨a, cap, by rw [hlen], by omega, by rw [hlen]; exact hl, Nat.lt_of_le_of_lt hm (by decide), fun i hi => ⟨_, hcell i (by omega)⟩, by rw [bytV, List.length_map, Nat.mul_one], fun i c hi => ?_⟩)⟩
   have hil := (List.getElem?_eq_some_iff.1 hi).1
   rw [bytV, List.length_map, hlen] at hil
   rw [hcell i (by omega)]
   unfold bytV at hi
   rw [List.getElem?_map, List.getElem?_map, List.getElem?_take, if_pos hil, List.getElem?_eq_getElem (by omega)] at hi
   simp only [Option.map_some, Option.some.injEq] at hi
   have hzi : zs.getD i 0 = zs[i]'(by omega) := by
    rw [List.getD_eq_getElem?_getD, List.getElem?_eq_getElem (by omega)]; rfl
   have hb := byte_eq (hwf (zs[i]'(by omega)) (List.getElem_mem _))
   rw [hzi, ← hi, hb.1, UInt8.toNat_ofNat', Nat.mod_eq_of_lt hb.2]
/-- A draft, in the model. -/
structure DrM where
 v : Value
 ls : List UInt8
 wt : Nat
 gone : Bool
def drMC (d : DrM) : List Value := [d.v, .int .u32 (d.wt : Int), .bool d.gone]
theorem one_draft {v0 v1 v2 : Value} {n0 n1 n2 : Nat} {y0 y1 y2 : DataW H × List MemPlace} (t0 : DataW.trod enc Tryz.prog w base (fun _ => true) held n0 49 [v0] = some y0) (t1 : DataW.trod enc Tryz.prog w base (fun _ => true) held n1 41 [v1] = some y1) (t2 : DataW.trod enc Tryz.prog w base (fun _ => true) held n2 4 [v2] = some y2) :
  ∃ d : DrM, drMC d = [v0, v1, v2] ∧ LetW w d.v d.ls := by
 obtain ⟨ls, hl⟩ := letters_of t0
 obtain ⟨m, c1, -, w1⟩ := DataW.trod_int Tryz.underlying41 t1
 obtain ⟨b, c2, -⟩ := DataW.trod_bool Tryz.underlying4 t2
 simp only [List.cons.injEq, and_true] at c1 c2
 subst c1 c2
 exact ⟨⟨v0, ls, m.toNat, b⟩, by unfold drMC; rw [← word_eq w1], hl⟩
theorem drafts_of {v : Value} {x : DataW H × List MemPlace} (h : DataW.trod enc Tryz.prog w base (fun _ => true) held fuel 22 [v] = some x) :
  ∃ ms : List DrM, (∀ m ∈ ms, LetW w m.v m.ls) ∧ ParN w 3 v ms.length (ms.map drMC).flatten := by
 rcases open_slice_fields Tryz.underlying22 Tryz.underlying51 (by kernel_rfl) (by kernel_rfl) h with ⟨hcs, _⟩ | ⟨a, len, cap, m, hcs, hl, hm, hz, hcell⟩
 ·simp only [List.cons.injEq, and_true] at hcs
  subst hcs
  exact ⟨[], (fun m hm => by cases hm), .inl ⟨rfl, rfl⟩⟩
 ·simp only [List.cons.injEq, and_true] at hcs
  subst hcs
  simp only [if_true] at hz
  subst hz
  by_cases hc0 : m = 0
  ·subst hc0
   have hl0 : len = 0 := by omega
   subst hl0
   exact ⟨[], (fun m hm => by cases hm), .inr (.inl ⟨a, rfl, rfl⟩)⟩
  ·obtain ⟨f, hf⟩ := Classical.axiomOfChoice (r := fun (i : Nat) (d : DrM) => i < m → LetW w d.v d.ls ∧ ∀ j, j < 3 → w.cell? (a.add (i * 3 + j)) = (drMC d)[j]?) (fun i => by
    by_cases hi : i < m
    ·obtain ⟨n, hfi⟩ := hcell i hi
     obtain ⟨u0, y0, e0, t0⟩ := hfi 0 _ rfl
     obtain ⟨u1, y1, e1, t1⟩ := hfi 1 _ rfl
     obtain ⟨u2, y2, e2, t2⟩ := hfi 2 _ rfl
     obtain ⟨d, hd, hlw⟩ := one_draft t0 t1 t2
     refine ⟨d, fun _ => ⟨hlw, fun j hj => ?_⟩⟩
     rw [hd]
     have : j = 0 ∨ j = 1 ∨ j = 2 := by omega
     rcases this with rfl | rfl | rfl
     ·exact e0
     ·exact e1
     ·exact e2
    ·exact ⟨⟨.bool true, [], 0, false⟩, fun h => absurd h hi⟩)
   have hlen3 : ∀ l ∈ ((List.range len).map f).map drMC, l.length = 3 := fun l hl => by
    obtain ⟨d, -, rfl⟩ := List.mem_map.1 hl
    rfl
   have hll : ((List.range len).map f).length = len := by rw [List.length_map, List.length_range]
   refine ⟨(List.range len).map f, fun d hd => ?_, .inr (.inr ⟨a, m, by rw [hll], by omega, by rw [hll]; exact hl, Nat.lt_of_le_of_lt hm (by decide), fun i hi => ?_, by rw [flat_len hlen3, List.length_map], fun i c hi => ?_⟩)⟩
   ·obtain ⟨i, hi, rfl⟩ := List.mem_map.1 hd
    exact (hf i (by have := List.mem_range.1 hi; omega)).1
   ·have hi3 : i / 3 < m := by omega
    have e : i / 3 * 3 + i % 3 = i := by omega
    have := (hf (i / 3) hi3).2 (i % 3) (Nat.mod_lt _ (by omega))
    rw [e] at this
    rw [this, List.getElem?_eq_getElem (show i % 3 < (drMC (f (i / 3))).length from Nat.mod_lt _ (by omega))]
    exact ⟨_, rfl⟩
   ·have hiv := (List.getElem?_eq_some_iff.1 hi).1
    rw [flat_len hlen3, List.length_map, hll] at hiv
    have hi3 : i / 3 < len := by omega
    have e : i / 3 * 3 + i % 3 = i := by omega
    have g := flat_get hlen3 (i := i / 3) (j := i % 3) (l := drMC (f (i / 3))) (by rw [List.getElem?_map, List.getElem?_map, List.getElem?_range hi3]; rfl) (Nat.mod_lt _ (by omega))
    rw [e, hi] at g
    have := (hf (i / 3) (by omega)).2 (i % 3) (Nat.mod_lt _ (by omega))
    rw [e] at this
    rw [this, ← g]
/-- An operation's draft, in the model. -/
structure OpM where
 kd : Nat
 told : Nat
 dr : DrM
 k : Int
 n : Int
 raw : ByteArray
def opMC (o : OpM) : List Value := [.int .u8 (o.kd : Int), .int .u8 (o.told : Int), o.dr.v, .int .u32 (o.dr.wt : Int), .bool o.dr.gone, .int .i8 o.k, .int .i8 o.n, .string o.raw]
structure OpOk (w : World) (o : OpM) : Prop where
 kd : o.kd < 256
 told : o.told < 256
 k : -128 ≤ o.k ∧ o.k ≤ 127
 n : -128 ≤ o.n ∧ o.n ≤ 127
 raw : o.raw.size ≤ maxLen
 dr : LetW w o.dr.v o.dr.ls
set_option maxRecDepth 100000 in
theorem op_of {cs : List Value} {x : DataW H × List MemPlace} (h : DataW.trod enc Tryz.prog w base (fun _ => true) held fuel 54 cs = some x) : ∃ o : OpM, cs = opMC o ∧ OpOk w o := by
 obtain ⟨xs, n, -, -, hlen, hxl0, hf⟩ := DataW.trod_struct Tryz.underlying54 h
 have h8 : Tryz.prog.cellsOf 54 = 8 := by kernel_rfl
 rw [h8] at hlen
 have k5 : Tryz.prog.cellsOf 5 = 1 := by kernel_rfl
 have k26 : Tryz.prog.cellsOf 51 = 3 := by kernel_rfl
 have k27 : Tryz.prog.cellsOf 52 = 1 := by kernel_rfl
 have k9 : Tryz.prog.cellsOf 9 = 1 := by kernel_rfl
 have k23 : Tryz.prog.cellsOf 49 = 1 := by kernel_rfl
 have k24 : Tryz.prog.cellsOf 41 = 1 := by kernel_rfl
 have k4 : Tryz.prog.cellsOf 4 = 1 := by kernel_rfl
 match cs, hlen with
 | [c0, c1, c2, c3, c4, c5, c6, c7], _ =>
  have f0 := hf 0 { name := "Kind", type := 5, offset := 0, embedded := false, tag := "", pkgPath := "", byteOffset := 0 } rfl
  have f1 := hf 1 { name := "Told", type := 5, offset := 1, embedded := false, tag := "", pkgPath := "", byteOffset := 1 } rfl
  have f2 := hf 2 { name := "E", type := 51, offset := 2, embedded := false, tag := "", pkgPath := "", byteOffset := 8 } rfl
  have f3 := hf 3 { name := "K", type := 52, offset := 5, embedded := false, tag := "", pkgPath := "", byteOffset := 40 } rfl
  have f4 := hf 4 { name := "N", type := 52, offset := 6, embedded := false, tag := "", pkgPath := "", byteOffset := 41 } rfl
  have f5 := hf 5 { name := "Raw", type := 9, offset := 7, embedded := false, tag := "", pkgPath := "", byteOffset := 48 } rfl
  simp only [k5, k26, k27, k9, List.drop_zero, List.drop_succ_cons, List.take_succ_cons, List.take_zero] at f0 f1 f2 f3 f4 f5
  have some_of : ∀ {i : Nat} {t : TypeId} {cs : List Value}, i < xs.length → DataW.trod enc Tryz.prog w base (fun _ => true) held n t cs = xs[i]? → ∃ y, DataW.trod enc Tryz.prog w base (fun _ => true) held n t cs = some y := fun hi he => ⟨_, he.trans (List.getElem?_eq_getElem hi)⟩
  have hxl : xs.length = 6 := hxl0
  obtain ⟨y0, f0⟩ := some_of (by omega) f0
  obtain ⟨y1, f1⟩ := some_of (by omega) f1
  obtain ⟨y2, f2⟩ := some_of (by omega) f2
  obtain ⟨y3, f3⟩ := some_of (by omega) f3
  obtain ⟨y4, f4⟩ := some_of (by omega) f4
  obtain ⟨y5, f5⟩ := some_of (by omega) f5
  obtain ⟨m0, e0, -, b0⟩ := DataW.trod_int Tryz.underlying5 f0
  obtain ⟨m1, e1, -, b1⟩ := DataW.trod_int Tryz.underlying5 f1
  obtain ⟨m3, e3, -, b3⟩ := DataW.trod_int Tryz.underlying52 f3
  obtain ⟨m4, e4, -, b4⟩ := DataW.trod_int Tryz.underlying52 f4
  obtain ⟨s5, e5, -, b5⟩ := DataW.trod_string Tryz.underlying9 f5
  obtain ⟨zs, n2, -, -, -, hzl, hz⟩ := DataW.trod_struct Tryz.underlying51 f2
  have z0 := hz 0 { name := "Letters", type := 49, offset := 0, embedded := false, tag := "", pkgPath := "", byteOffset := 0 } rfl
  have z1 := hz 1 { name := "Weight", type := 41, offset := 1, embedded := false, tag := "", pkgPath := "", byteOffset := 24 } rfl
  have z2 := hz 2 { name := "Gone", type := 4, offset := 2, embedded := false, tag := "", pkgPath := "", byteOffset := 28 } rfl
  simp only [k23, k24, k4, List.drop_zero, List.drop_succ_cons, List.take_succ_cons, List.take_zero] at z0 z1 z2
  have hzl' : zs.length = 3 := hzl
  obtain ⟨d, hd, hlw⟩ := one_draft (z0.trans (List.getElem?_eq_getElem (by omega))) (z1.trans (List.getElem?_eq_getElem (by omega))) (z2.trans (List.getElem?_eq_getElem (by omega)))
  simp only [List.cons.injEq, and_true] at e0 e1 e3 e4 e5
  subst e0 e1 e3 e4 e5
  obtain ⟨dv, dls, dwt, dg⟩ := d
  simp only [drMC, List.cons.injEq, and_true] at hd
  obtain ⟨rfl, rfl, rfl⟩ := hd
  refine ⟨⟨m0.toNat, m1.toNat, ⟨dv, dls, dwt, dg⟩, m3, m4, s5⟩, ?_, ⟨(byte_eq b0).2, (byte_eq b1).2, small_eq b3, small_eq b4, b5, hlw⟩⟩
  unfold opMC
  rw [← (byte_eq b0).1, ← (byte_eq b1).1]
end

/-! ### On the abstract machine -/
noncomputable def nN (w : World) : Nat → Nat → Value → Option Value := fun _ _ v => amN w 1 v
theorem nN_ok (w : World) : NOk w [] (nN w) := fun _ _ _ _ h => amN_VR h
theorem bytS_of {w : World} {ls : List UInt8} {v : Value} (h : LetW w v ls) : ∃ x, amN w 1 v = some x ∧ mdl.BytS (wMemN w 0 (nN w)) ls x := by
 obtain ⟨x, h1, h2⟩ := par_N (N := nN w) (by omega) (by omega) h
 refine ⟨x, h1, ?_⟩
 rcases h2 with ⟨rfl, h0⟩ | ⟨rfl, h0⟩ | ⟨q, off, rfl, hq, h3⟩
 ·exact .inl ⟨rfl, List.length_eq_zero_iff.1 h0⟩
 ·exact .inr (.inl ⟨rfl, List.length_eq_zero_iff.1 h0⟩)
 ·refine .inr (.inr ⟨q, off, _, rfl, ?_⟩)
  rcases h3 with h3 | ⟨t, fz, c, h4, h5⟩
  ·exact .inl (List.length_eq_zero_iff.1 (by omega))
  ·refine .inr ⟨hq, t, .row, fz, c, h4, fun i b hi => ?_⟩
   have hil := (List.getElem?_eq_some_iff.1 hi).1
   exact h5 i (.int .u8 ((b.toNat : Nat) : Int)) _ (by omega) (by unfold bytV; rw [List.getElem?_map, hi]; rfl) (amN_plain rfl)
noncomputable def toD (w : World) (m : DrM) : mdl.DrD := ⟨(amN w 1 m.v).getD empV, m.ls, m.wt, m.gone⟩
theorem toD_xl {w : World} {m : DrM} (h : LetW w m.v m.ls) : amN w 1 m.v = some (toD w m).xl ∧ mdl.BytS (wMemN w 0 (nN w)) (toD w m).ls (toD w m).xl := by
 obtain ⟨x, h1, h2⟩ := bytS_of h
 have e : (toD w m).xl = x := by unfold toD; rw [h1]; rfl
 rw [e]
 exact ⟨h1, h2⟩
theorem drS_of {w : World} {v : Value} {ms : List DrM} (hl : ∀ m ∈ ms, LetW w m.v m.ls) (h : ParN w 3 v ms.length (ms.map drMC).flatten) : ∃ x, amN w 3 v = some x ∧ mdl.DrS (wMemN w 0 (nN w)) (ms.map (toD w)) x := by
 obtain ⟨x, h1, h2⟩ := par_N (N := nN w) (by omega) (by omega) h
 refine ⟨x, h1, ?_⟩
 rcases h2 with ⟨rfl, h0⟩ | ⟨rfl, h0⟩ | ⟨q, off, rfl, hq, h3⟩
 ·rw [List.length_eq_zero_iff.1 h0]
  exact .inl ⟨rfl, rfl⟩
 ·rw [List.length_eq_zero_iff.1 h0]
  exact .inr (.inl ⟨rfl, rfl⟩)
 ·refine .inr (.inr ⟨q, off, mkX ms.length 3, by rw [List.length_map], ?_⟩)
  rcases h3 with h3 | ⟨t, fz, c, h4, h5⟩
  ·have h0 : ms.length = 0 := by omega
   rw [List.length_eq_zero_iff.1 h0]
   exact .inl rfl
  ·refine .inr ⟨hq, t, .row, fz, c, h4, fun i d hi => ?_⟩
   rw [List.getElem?_map] at hi
   obtain ⟨m, hm, rfl⟩ := Option.map_eq_some_iff.1 hi
   have hil := (List.getElem?_eq_some_iff.1 hm).1
   obtain ⟨x1, x2⟩ := toD_xl (hl m (List.mem_of_getElem? hm))
   have hlen3 : ∀ l ∈ ms.map drMC, l.length = 3 := fun l hl => by
    obtain ⟨d, -, rfl⟩ := List.mem_map.1 hl
    rfl
   have g : ∀ {j : Nat} {v u : Value}, j < 3 → (drMC m)[j]? = some v → nN w q (off + (i * 3 + j)) v = some u → c.get (off + (i * 3 + j)) = some u := fun {j v u} hj hv hu =>
    h5 (i * 3 + j) v u (by omega) (by rw [flat_get hlen3 (l := drMC m) (by rw [List.getElem?_map, hm]; rfl) hj]; exact hv) hu
   have g0 := g (j := 0) (by omega) rfl x1
   have g1 := g (j := 1) (by omega) rfl (amN_plain rfl)
   have g2 := g (j := 2) (by omega) rfl (amN_plain rfl)
   simp only [Nat.add_zero, ← Nat.add_assoc] at g0 g1 g2
   exact ⟨g0, g1, g2, x2⟩
noncomputable def toI (w : World) (o : OpM) : mdl.OpI := ⟨o.kd, o.told, toD w o.dr, o.k, o.n, o.raw.data.toList⟩
theorem toI_ok {w : World} {o : OpM} (h : OpOk w o) : mdl.InOk (wMemN w 0 (nN w)) (toI w o) :=
 ⟨h.kd, h.told, h.k.1, h.k.2, h.n.1, h.n.2, Nat.lt_of_le_of_lt h.raw (by decide), (toD_xl h.dr).2⟩
theorem toI_VRs {w : World} {o : OpM} (h : OpOk w o) : VRs (wInj w []) (mdl.inC (toI w o)) (opMC o) :=
 .cons (.int _ _) (.cons (.int _ _) (.cons (amN_VR (toD_xl h.dr).1) (.cons (.int _ _) (.cons (.bool _) (.cons (.int _ _) (.cons (.int _ _) (.cons (by show VR _ (strOf o.raw.data.toList) _; rw [← string_eq]; exact .string _) .nil)))))))
theorem vrs_app {ι : Inj} : ∀ {a a' b b' : List Value}, VRs ι a a' → VRs ι b b' → VRs ι (a ++ b) (a' ++ b')
 | _, _, _, _, .nil, k => k
 | _, _, _, _, .cons h t, k => .cons h (vrs_app t k)

set_option maxRecDepth 100000 in
theorem ops_of {H : Type} {enc : TypeId × Value → H} {w : World} {base fuel : Nat} {held : Bool} {v : Value} {x : DataW H × List MemPlace} (h : DataW.trod enc Tryz.prog w base (fun _ => true) held fuel 23 [v] = some x) :
  ∃ os : List OpM, (∀ o ∈ os, OpOk w o) ∧ os.length ≤ maxLen ∧ ParN w 8 v os.length (os.map opMC).flatten := by
 have h8 : Tryz.prog.cellsOf 54 = 8 := by kernel_rfl
 rcases open_slice Tryz.underlying23 h with ⟨hcs, _⟩ | ⟨a, len, cap, m, n, D, Pl, hcs, hb, hl, hm, hz, hx, hi⟩
 ·simp only [List.cons.injEq, and_true] at hcs
  subst hcs
  exact ⟨[], (fun m hm => by cases hm), Nat.zero_le _, .inl ⟨rfl, rfl⟩⟩
 ·simp only [List.cons.injEq, and_true] at hcs
  subst hcs
  simp only [if_true] at hz
  subst hz
  by_cases hc0 : m = 0
  ·subst hc0
   have hl0 : len = 0 := by omega
   subst hl0
   exact ⟨[], (fun m hm => by cases hm), Nat.zero_le _, .inr (.inl ⟨a, rfl, rfl⟩)⟩
  ·obtain ⟨f, hf⟩ := Classical.axiomOfChoice (r := fun (i : Nat) (d : OpM) => i < m → OpOk w d ∧ ∀ j, j < 8 → w.cell? (a.add (i * 8 + j)) = (opMC d)[j]?) (fun i => by
    by_cases him : i < m
    ·obtain ⟨cs', hc, ht'⟩ := hi i him
     rw [h8] at hc
     obtain ⟨_, hcl, hat⟩ := World.cells?_some hc
     obtain ⟨o, rfl, hok⟩ := op_of ht'
     refine ⟨o, fun _ => ⟨hok, fun j hj => ?_⟩⟩
     rw [← Go.Deep.add_add]
     exact hat j hj
    ·exact ⟨⟨0, 0, ⟨.bool true, [], 0, false⟩, 0, 0, .empty⟩, fun h => absurd h him⟩)
   have hlen8 : ∀ l ∈ ((List.range len).map f).map opMC, l.length = 8 := fun l hl => by
    obtain ⟨d, -, rfl⟩ := List.mem_map.1 hl
    rfl
   have hll : ((List.range len).map f).length = len := by rw [List.length_map, List.length_range]
   refine ⟨(List.range len).map f, fun d hd => ?_, by rw [hll]; omega, .inr (.inr ⟨a, m, by rw [hll], by omega, by rw [hll]; exact hl, Nat.lt_of_le_of_lt hm (by decide), fun i hi => ?_, by rw [flat_len hlen8, List.length_map], fun i c hi => ?_⟩)⟩
   ·obtain ⟨i, hi, rfl⟩ := List.mem_map.1 hd
    exact (hf i (by have := List.mem_range.1 hi; omega)).1
   ·have hi8 : i / 8 < m := by omega
    have e : i / 8 * 8 + i % 8 = i := by omega
    have := (hf (i / 8) hi8).2 (i % 8) (Nat.mod_lt _ (by omega))
    rw [e] at this
    rw [this, List.getElem?_eq_getElem (show i % 8 < (opMC (f (i / 8))).length from Nat.mod_lt _ (by omega))]
    exact ⟨_, rfl⟩
   ·have hiv := (List.getElem?_eq_some_iff.1 hi).1
    rw [flat_len hlen8, List.length_map, hll] at hiv
    have hi8 : i / 8 < len := by omega
    have e : i / 8 * 8 + i % 8 = i := by omega
    have g := flat_get hlen8 (i := i / 8) (j := i % 8) (l := opMC (f (i / 8))) (by rw [List.getElem?_map, List.getElem?_map, List.getElem?_range hi8]; rfl) (Nat.mod_lt _ (by omega))
    rw [e, hi] at g
    have := (hf (i / 8) (by omega)).2 (i % 8) (Nat.mod_lt _ (by omega))
    rw [e] at this
    rw [this, ← g]
theorem opL_of {w : World} {v : Value} {os : List OpM} (hl : ∀ o ∈ os, OpOk w o) (h : ParN w 8 v os.length (os.map opMC).flatten) : ∃ x, amN w 8 v = some x ∧ mdl.OpL (wMemN w 0 (nN w)) (os.map (toI w)) x := by
 obtain ⟨x, h1, h2⟩ := par_N (N := nN w) (by omega) (by omega) h
 refine ⟨x, h1, ?_⟩
 rcases h2 with ⟨rfl, h0⟩ | ⟨rfl, h0⟩ | ⟨q, off, rfl, hq, h3⟩
 ·rw [List.length_eq_zero_iff.1 h0]
  exact .inl ⟨rfl, rfl⟩
 ·rw [List.length_eq_zero_iff.1 h0]
  exact .inr (.inl ⟨rfl, rfl⟩)
 ·refine .inr (.inr ⟨q, off, mkX os.length 8, by rw [List.length_map], ?_⟩)
  rcases h3 with h3 | ⟨t, fz, c, h4, h5⟩
  ·have h0 : os.length = 0 := by omega
   rw [List.length_eq_zero_iff.1 h0]
   exact .inl rfl
  ·refine .inr ⟨hq, t, .row, fz, c, h4, fun i d hi => ?_⟩
   rw [List.getElem?_map] at hi
   obtain ⟨m, hm, rfl⟩ := Option.map_eq_some_iff.1 hi
   have hil := (List.getElem?_eq_some_iff.1 hm).1
   have hok := hl m (List.mem_of_getElem? hm)
   obtain ⟨x1, x2⟩ := toD_xl hok.dr
   have hlen8 : ∀ l ∈ os.map opMC, l.length = 8 := fun l hl => by
    obtain ⟨d, -, rfl⟩ := List.mem_map.1 hl
    rfl
   have g : ∀ {j : Nat} {v u : Value}, j < 8 → (opMC m)[j]? = some v → nN w q (off + (i * 8 + j)) v = some u → c.get (off + i * 8 + j) = some u := fun {j v u} hj hv hu => by
    rw [Nat.add_assoc]
    exact h5 (i * 8 + j) v u (by omega) (by rw [flat_get hlen8 (l := opMC m) (by rw [List.getElem?_map, hm]; rfl) hj]; exact hv) hu
   refine ⟨fun j u hj => ?_, toI_ok hok⟩
   have hj8 : j < 8 := (List.getElem?_eq_some_iff.1 hj).1
   have hcase : j = 0 ∨ j = 1 ∨ j = 2 ∨ j = 3 ∨ j = 4 ∨ j = 5 ∨ j = 6 ∨ j = 7 := by omega
   rcases hcase with rfl | rfl | rfl | rfl | rfl | rfl | rfl | rfl
   ·injection hj with hj; subst hj; exact g (by omega) rfl (amN_plain rfl)
   ·injection hj with hj; subst hj; exact g (by omega) rfl (amN_plain rfl)
   ·injection hj with hj; subst hj; exact g (by omega) rfl x1
   ·injection hj with hj; subst hj; exact g (by omega) rfl (amN_plain rfl)
   ·injection hj with hj; subst hj; exact g (by omega) rfl (amN_plain rfl)
   ·injection hj with hj; subst hj; exact g (by omega) rfl (amN_plain rfl)
   ·injection hj with hj; subst hj; exact g (by omega) rfl (amN_plain rfl)
   ·injection hj with hj; subst hj
    refine g (by omega) rfl ?_
    rw [show strOf (toI w m).raw = .string m.raw from (string_eq _).symm]
    exact amN_plain rfl

/-! ### The run -/
theorem walk (v0 v1 : Value) (ms : List DrM) (os : List OpM) (w : World) (hl : ∀ m ∈ ms, LetW w m.v m.ls) (hp : ParN w 3 v0 ms.length (ms.map drMC).flatten) (hol : ∀ o ∈ os, OpOk w o) (hop : ParN w 8 v1 os.length (os.map opMC).flatten) (hml : os.length ≤ maxLen) :
  Calls Tryz.prog 3 #[v0, v1] w fun e w' => e = .returned (.bool true) ∧ Below w.heap.size w w' := by
 refine (?_ : Calls Tryz.prog 3 #[v0, v1] w fun e w' => e = .returned (.bool true) ∧ Go.Am.Leaves w w').mono fun e w' h => ⟨h.1, h.2.below⟩
 obtain ⟨x0, e0, d0⟩ := drS_of hl hp
 obtain ⟨x1, e1, d1⟩ := opL_of hol hop
 refine all_trueN mdl.tb4_ok [] (fun l hl => by cases hl) (nN_ok w) (mdl.fn_at Tryz.func3) mdl.c3_eq (args := [x0, x1]) (.cons (amN_VR e0) (.cons (amN_VR e1) .nil)) ?_
 exact mdl.run_modelTells d0 d1 (by rw [List.length_map]; exact Nat.lt_of_le_of_lt hml (by decide))

/-! ### THE ROW's STEP: WRITTEN OUT: LEAVE IT -/
set_option maxRecDepth 100000 in
theorem lifted (os : Os) (started : os.Started) (H : Type) (enc : TypeId × Value → H) :
  ReturnsInHanded {} Tryz.checked os 3 .any (Rows.modelTellsSpec.pre6 enc Tryz.prog Tryz.f3 Rows.modelTellsRow.domain false) (Rows.modelTellsSpec.post enc Tryz.prog Tryz.f3 false true false false) := by
 refine returnsInHanded_of_change (C := Tryz.checked) own started (by kernel_rfl) Tryz.func3
  (ChangeSpec.witness6 (enc := enc) (C := Tryz.checked) false ⟨#[], #[.slice none 0 0, .slice none 0 0], []⟩ 12 (by kernel_rfl) (by kernel_rfl) (by kernel_rfl) (by kernel_rfl)) ?_
 intro W base args ds gs before hval0 hW hcnd _
 have hval : ∀ (j : Nat) t v, Tryz.f3.params[j]? = some t → args[j]? = some v → Value.okWide Tryz.prog W .any base t v := hval0
 have hW' := hW
 obtain ⟨p, q, hA0, hV, rfl, hfz, hnd⟩ := hW
 have hA : DataW.TrodAll enc Tryz.prog W 0 (fun _ => true) true Tryz.f3.params.toList args.toList ds p := hA0
 rw [Tryz.params3] at hA hval
 obtain ⟨v0, vs0, d0, ds0, p0, q0, hargs, rfl, rfl, h0, r0⟩ := trodAll_cons hA
 obtain ⟨v1, vs1, d1, ds1, p1, q1, rfl, rfl, rfl, h1, r1⟩ := trodAll_cons r0
 obtain ⟨rfl, rfl, rfl⟩ := trodAll_nil r1
 obtain rfl : args = #[v0, v1] := by cases args; simp_all
 obtain ⟨rfl, rfl⟩ := trodVars_none hV
 have k0 := h0
 have lt0 : ∀ x ∈ p0, x.block < W.heap.size := by obtain ⟨m, hm⟩ := k0; exact DataW.trod_lt m _ _ _ hm
 obtain ⟨a0, len0, cap0, rfl⟩ := okWide_slice Tryz.underlying22 (hval 0 22 v0 rfl rfl)
 obtain ⟨ms, hl, hp⟩ : ∃ ms : List DrM, (∀ m ∈ ms, LetW W m.v m.ls) ∧ ParN W 3 (.slice a0 len0 cap0) ms.length (ms.map drMC).flatten := by
  obtain ⟨fuel, hf⟩ := h0
  exact drafts_of hf
 have k1 := h1
 have lt1 : ∀ x ∈ p1, x.block < W.heap.size := by obtain ⟨m, hm⟩ := k1; exact DataW.trod_lt m _ _ _ hm
 obtain ⟨a1, len1, cap1, rfl⟩ := okWide_slice Tryz.underlying23 (hval 1 23 v1 rfl rfl)
 obtain ⟨os1, hol, hml, hop⟩ : ∃ os : List OpM, (∀ o ∈ os, OpOk W o) ∧ os.length ≤ maxLen ∧ ParN W 8 (.slice a1 len1 cap1) os.length (os.map opMC).flatten := by
  obtain ⟨fuel, hf⟩ := h1
  exact ops_of hf
 clear hA0 hval0
 refine (walk (.slice a0 len0 cap0) (.slice a1 len1 cap1) ms os1 W hl hp hol hop hml).mono fun e W' ⟨he, bel⟩ => ?_
 subst he
 exact ⟨_, rfl, _, _, _, [], _, [], hW', trodAll_mk1 (shut_bool Tryz.underlying4 _), (trodAll_cons_mk (Below.trod laidOut (by kernel_rfl) (of_decide_eq_true (by kernel_rfl)) k0 bel lt0) (trodAll_cons_mk (Below.trod laidOut (by kernel_rfl) (of_decide_eq_true (by kernel_rfl)) k1 bel lt1) trodAll_mk0)), rfl, bel.frame _, fun h => by cases h⟩

theorem over : Rows.modelTellsRow.holds Tryz.pinned (OpenSpec.ofChange Rows.modelTellsSpec) :=
 OpenClaim.holds_of_wide 3 Tryz.f3 rfl rfl rfl rfl rfl rfl rfl ⟨rfl, rfl, rfl, rfl, rfl⟩ rfl rfl rfl rfl rfl (by kernel_rfl) Tryz.func3 (by kernel_rfl)
  (of_decide_eq_true (by kernel_rfl)) (by unfold Func.isWrapper; first | (rw [if_pos (by decide +kernel)]; kernel_rfl) | (rw [if_neg (by decide +kernel)]; exact ⟨rfl, rfl⟩))
  (fun os started H enc _ => lifted os started H enc)

/-- ████ THE STATEMENT ████ -/
theorem proved : Rows.ModelTellsSaid := over
#print axioms proved
end Go.Proofs.YtnelkapmmgggdaaGreat.modelTells
