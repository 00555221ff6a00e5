/- The abstract machine, the walk of the law and its plain laws, made small by a program; part 6: no conditions but those in each theorem. -/
import Derived.Test.YtggndfefpbmaeaaGreatDoorQ05
set_option maxHeartbeats 16000000
set_option maxRecDepth 100000
set_option linter.unusedSimpArgs false
set_option linter.unusedVariables false
noncomputable section
open Nat renaming reduceEqDiff→X2,reduceAdd→X3,ble→X5,le_refl→X9,beq→Yc,blt→Ye,zero_le→Yg,blt_eq→Yl,eq_of_beq_eq_true→Yn,lt_of_lt_of_le→Yt,le_of_ble_eq_true→Yx,zero_add→Yy,le_trans→YC,lt_or_ge→YE,add_zero→YU,ble_eq_true_of_le→YY,min_eq_left→Y4,mod_eq_of_lt→Zb,sub_zero→Zd,mul_one→Zf,sub_self→Zg,lt_irrefl→Zk,min_eq_right→ZY,beq_eq→qab,sub_add_cancel→qak,add_sub_cancel→qam,add_one_ne_zero→qax,zero_mul→qaE,min_le_left→qaM,ble_eq→qaT,add_comm→qa4,min_le_right→qbJ,le_total→qbT,beq_refl→qcf
open List renaming getElem?_eq_getElem→X6,getElem?_cons_succ→X7,getElem?_cons_zero→X8,getElem?_eq_some_iff→X_,length_append→X',length_map→Yb,take_succ_eq_append_getElem→Yd,length_cons→Yf,length_eq_zero_iff→Yh,mem_cons_of_mem→Yi,mem_cons_self→Yk,length_take→Yo,mem_cons→Yp,getElem?_map→Yr,length_nil→Ys,take_length→Yw,getElem?_append_left→Yz,getElem?_append_right→YA,mem_of_getElem?→YF,not_mem_nil→YH,map_eq_nil_iff→YK,length_pos_iff→YM,mem_map→YN,getElem_mem→YQ,getElem?_eq_none→YR,filter_cons→YS,cons_append→YT,map_append→YV,flatMap_cons→Y0,append_assoc→Y1,nil_append→Y6,mem_singleton→Y7,all_eq_true→Ze,foldl_cons→Zh,range→Zi,mem_filter→Zq,mem_append→Zs,take_of_length_le→Zt,pairwise_iff_getElem→Zv,foldl_append→ZA,map_cons→ZB,flatMap_append→ZQ,take_succ_cons→Z',filter_eq_self→qaw,filter_append→qaC,length_filter_le→qaL,findIdx?_eq_none_iff→qaS,nodup_cons→qbc,getElem_map→qbH,takeWhile_cons→qbR,take_take→qb3,map→qb9
open Bool renaming false_eq_true→Yj,and_eq_true→Yq,and_true→qau
open Option.some renaming injEq→YB,inj→YJ
open Option renaming map_some→YI,getD_some→Za,isSome_none→Zl,isSome_some→qaH,map_none→qbb
open UInt8 renaming ofNat→Zc,toNat_inj→ZS,toNat_ofNat'→qaA,lt_iff_toNat_lt→qaN
open Go.Proofs.Tryz renaming f149→Zx,f58→Z1,f148→Z4,f244→qaB,f234→qaY,f21→qa5,f260→qbe,f98→qbm,f255→qbx,f229→qbB,f97→qbO,f221→qbY,f251→qbZ,f191→qb1,f141→qb2,f245→qcb,f142→qcj,f233→qcl,f258→qco,f246→qcq
open Classical renaming byContradiction→qaW
namespace Go.Proofs.YtggndfefpbmaeaaGreatDoor.sto
open Go.Am
theorem Ml:∃d,ai.bp 77=some d∧cN d=false:=by
 have h:(ai.bp 77).map cN=some false:=by kernel_rfl
 cases hq:ai.bp 77 with
 |none=>rw [hq] at h;cases h
 |some d=>rw [hq] at h;exact⟨d,rfl,by simpa using h⟩
theorem C9:ai.bp 79=some (.map 3 82):=by kernel_rfl
theorem qo:ai.bp 121=some (.map 9 3):=by kernel_rfl
theorem gN:b7 ai 3= .ok (.int .i64 (0:Nat)):=by kernel_rfl
variable {b:Nat}
theorem AI:ax ai 81 (pw b 0) 0= .ok (pw b 0):=by kernel_rfl
theorem EO:ax ai 81 (pw b 0) 1= .ok (pw b 1):=by kernel_rfl
theorem AS:ax ai 81 (pw b 0) 5= .ok (pw b 5):=by kernel_rfl
theorem NW:ax ai 124 (pw b 0) 0= .ok (pw b 0):=by kernel_rfl
theorem qp:ax ai 124 (pw b 0) 1= .ok (pw b 1):=by kernel_rfl
theorem BS:ax ai 131 (pw b 0) 2= .ok (pw b 2):=by kernel_rfl
def numOf (ns:List (List UInt8)) (w:List UInt8):Nat:=((ns.findIdx? fun n=>decide (w=n)).map (·+1)).getD 0
variable {A:Mem} {mn c:Nat} {ns:List (List UInt8)}
theorem zW {w:List UInt8} (h:A.get mn=some (.map (cQ ns 0) c)):
 fx ai A.get 121 (.map (some mn)) (strOf w) true= .ok (.tuple ⟨[.int .i64 (numOf ns w:Nat),.bool (decide (numOf ns w≠0))]⟩):=by
 have hk:ei ai 9 (strOf w)=true:=by unfold ei;rw [u9];rfl
 unfold fx numOf;simp only [qo,hk,cond_true,iB,h,R.aA,um,gN];cases ns.findIdx? fun n=>decide (w=n) with
 |none=>rfl
 |some i=>simp [qa4]
theorem Gx {t:Operand}:u_ ai A.get .eql 77 t (.const (.pointer none)) (pw b 0) (.pointer none)= .ok (.bool false):=by kernel_rfl
variable {y:Value}
theorem Nt {pf:Nat} {ml x:Value} {w:List UInt8} (h:VB A 124 pf (.var 4) [ml,.map (some mn),x,y]) (hm:A.get mn=some (.map (cQ ns 0) c)):
 bL ai 95 [pw pf 0,strOf w] A (.tuple ⟨[.int .i64 (numOf ns w:Nat),.bool (decide (numOf ns w≠0))]⟩) A:=by
 have l1:aq ai A.get 121 (pw pf 1)= .ok (.map (some mn)):=h.ld rfl qo rfl;have l2:=zW (w:=w) hm;refine aT (aB Tryz.func95) (c:=Tryz.f95.body.getD .skip) (by kernel_rfl) (by rw [Tryz.ntmps95];simp) (by kernel_rfl) (by kernel_rfl) ?_;apply W.run 60
 ·intro M;simp (disch:=first|decide+kernel|omega) only [Tryz.f95,Aq,X2,br,Gx,aG,a8,qp,l1,eO,l2,X8,X7,aV];rfl
 exact⟨by simp,rfl,rfl,by simp only [Tryz.f95,Aq,X2,br,Gx,aG,a8,qp,l1,eO,l2,X8,X7,aV]<;>rfl⟩
variable {q p:Nat}
theorem Ln {mf:Nat} {ps:List Nat} (h:A.get mf=some (.map (eW ps 0) c)) (hq:ps[q]?=some p):
 fx ai A.get 79 (.map (some mf)) (.int .i64 (q+1:Nat)) false= .ok (pw p 0):=by
 have hk:ei ai 3 (.int .i64 (q+1:Nat))=true:=by unfold ei;rw [u3]
 unfold fx;simp only [C9,hk,cond_true,iB,h,R.aA,uF q ps 0 0 (Yg _),Zd,hq];rfl
def fT (A:Mem) (p:Nat) (fs:List (List UInt8×List UInt8)):Prop:=
 ∃pf mf mn cf cn ps ml q st ar x y,VB A 81 p (.var 6) [.pointer (some ⟨pf,0,none⟩),.map (some mf),q,st,ar,.bool false]∧VB A 124 pf (.var 4) [ml,.map (some mn),x,y]∧
  (mn<A.next∧A.get mn=some (.map (cQ (fs.map (·.1)) 0) cn))∧(mf<A.next∧A.get mf=some (.map (eW ps 0) cf))∧
  ∀(i:Nat) (s:List UInt8×List UInt8),fs[i]?=some s→∃b d a,ps[i]?=some b∧VB A 131 b (.var 3) [d,a,strOf s.2]
variable {A':Mem} {fs:List (List UInt8×List UInt8)}
theorem fT.kp (h:fT A p fs) (k:Kp A A'):fT A' p fs:=by
 obtain⟨pf,mf,mn,cf,cn,ps,ml,q,st,ar,x,y,h1,h2,⟨h3,h4⟩,⟨h5,h6⟩,h7⟩:=h;refine⟨pf,mf,mn,cf,cn,ps,ml,q,st,ar,x,y,h1.kp k,h2.kp k,⟨Yt h3 k.1,by rw [k.2 _ h3,h4]⟩,⟨Yt h5 k.1,by rw [k.2 _ h5,h6]⟩,fun i s hs=>?_⟩;obtain⟨b,d,a,e1,e2⟩:=h7 i s hs;exact⟨b,d,a,e1,e2.kp k⟩
def fileOf (fs:List (List UInt8×List UInt8)) (w:List UInt8):Option (List UInt8):=(fs.find? fun f=>decide (w=f.1)).map (·.2)
theorem sd (w:List UInt8):∀fs:List (List UInt8×List UInt8),(numOf (fs.map (·.1)) w=0∧fileOf fs w=none)∨∃i s,numOf (fs.map (·.1)) w=i+1∧fs[i]?=some s∧fileOf fs w=some s.2
 | []=>.inl ⟨rfl,rfl⟩
 |f::fs=>by
  unfold numOf fileOf;rw [ZB,List.findIdx?_cons,List.find?_cons];by_cases h:w=f.1
  ·simp only [h,decide_true,if_true];exact .inr ⟨0,f,rfl,rfl,rfl⟩
  ·simp only [h,decide_false,Yj,if_false];rcases sd w fs with⟨h1,h2⟩|⟨i,s,h1,h2,h3⟩
   ·unfold numOf at h1;unfold fileOf at h2;refine .inl ⟨?_,h2⟩;cases hq:(fs.map (·.1)).findIdx? fun n=>decide (w=n) with
    |none=>rfl
    |some i=>rw [hq] at h1;simp at h1
   ·unfold numOf at h1;unfold fileOf at h3;refine .inr ⟨i+1,s,?_,h2,h3⟩;cases hq:(fs.map (·.1)).findIdx? fun n=>decide (w=n) with
    |none=>rw [hq] at h1;simp at h1
    |some j=>rw [hq] at h1;simp only [YI,Za] at h1⊢;omega
theorem EE {t:Operand}:u_ ai A.get .eql 44 t (.const (.pointer none)) (pw b 0) (.pointer none)= .ok (.bool false):=by kernel_rfl
theorem P4 {t:Operand}:u_ ai A.get .eql 82 t (.const (.pointer none)) (pw b 0) (.pointer none)= .ok (.bool false):=by kernel_rfl
theorem Sa {t:Operand}:u_ ai A.get .eql 82 t (.const (.pointer none)) (.pointer none) (.pointer none)= .ok (.bool true):=by kernel_rfl
theorem Ol {a b c d e:Value} {z:Bool} (h:VB A 81 p (.var 6) [a,b,c,d,e,.bool z]):bL ai 73 [pw p 0] A (.bool z) A:=by
 have l1:aq ai A.get 4 (pw p 5)= .ok (.bool z):=h.ld rfl u4 rfl;refine aT (aB Tryz.func73) (c:=Tryz.f73.body.getD .skip) (by kernel_rfl) (by rw [Tryz.ntmps73];simp) (by kernel_rfl) (by kernel_rfl) ?_;apply W.run 60
 ·intro M;simp (config:={maxSteps:=4000000}) (disch:=first|decide+kernel|omega|simp only [Wq,X2]) only [Tryz.f73,Aq,X5,reduceIte,X2,X3,br,EE,aG,a8,AS,l1,aV];rfl
 exact⟨by simp,rfl,rfl,by simp only [Tryz.f73,Aq,X5,reduceIte,X2,X3,br,EE,aG,a8,AS,l1,aV]<;>rfl⟩
def ow (ps:List Nat) (n:Nat):Value:=.pointer ((if n=0 then none else ps[n-1]?).map fun b=>⟨b,0,none⟩)
theorem run_read {pf mf cf cn:Nat} {ml q st ar x:Value} {ps:List Nat} {w:List UInt8} (h1:VB A 81 p (.var 6) [pw pf 0,.map (some mf),q,st,ar,.bool false]) (h2:VB A 124 pf (.var 4) [ml,.map (some mn),x,y])
 (h3:A.get mn=some (.map (cQ (fs.map (·.1)) 0) cn)) (h4:A.get mf=some (.map (eW ps 0) cf)) (h5:∀(i:Nat) (s:List UInt8×List UInt8),fs[i]?=some s→∃b,ps[i]?=some b):
 bL ai 54 [pw p 0,strOf w] A (.tuple ⟨[ow ps (numOf (fs.map (·.1)) w),.int .i64 ((if numOf (fs.map (·.1)) w=0 then 9 else 0:Nat):Int)]⟩) A:=by
 have l0:aq ai A.get 77 (pw p 0)= .ok (pw pf 0):=by obtain⟨d,hd,ha⟩:=Ml;exact h1.ld rfl hd ha
 have l1:aq ai A.get 79 (pw p 1)= .ok (.map (some mf)):=h1.ld rfl C9 rfl;have l5:aq ai A.get 4 (pw p 5)= .ok (.bool false):=h1.ld rfl u4 rfl;obtain⟨g,hg⟩:=Nt (w:=w) h2 h3;rcases sd w fs with⟨e1,-⟩|⟨i,s,e1,e2,-⟩
 ·rw [e1] at hg⊢;refine aT (aB Tryz.func54) (c:=Tryz.f54.body.getD .skip) (by kernel_rfl) (by rw [Tryz.ntmps54];simp) (by kernel_rfl) (by kernel_rfl) ?_;apply W.a6 (g) 60
  ·intro M hM;simp (disch:=first|decide+kernel|omega) only [Tryz.f54,Aq,X2,br,EE,aG,a8,AI,EO,AS,l0,l1,l5,hg,X8,X7,aV,ow,qbb];rfl
  exact⟨by simp,rfl,rfl,by simp only [Tryz.f54,Aq,X2,br,EE,aG,a8,AI,EO,AS,l0,l1,l5,hg,X8,X7,aV,ow,qbb]<;>rfl⟩
 ·rw [e1] at hg⊢;obtain⟨b,hb⟩:=h5 i s e2;have l2:=Ln h4 hb;refine aT (aB Tryz.func54) (c:=Tryz.f54.body.getD .skip) (by kernel_rfl) (by rw [Tryz.ntmps54];simp) (by kernel_rfl) (by kernel_rfl) ?_;apply W.a6 (g) 60
  ·intro M hM;simp (disch:=first|decide+kernel|omega) only [Tryz.f54,Aq,X2,br,EE,aG,a8,AI,EO,AS,l0,l1,l5,hg,X8,X7,aV,ow,eO,l2,qax,qam,hb,YI];rfl
  exact⟨by simp,rfl,rfl,by simp only [Tryz.f54,Aq,X2,br,EE,aG,a8,AI,EO,AS,l0,l1,l5,hg,X8,X7,aV,ow,eO,l2,qax,qam,hb,YI]<;>rfl⟩
theorem Kl {d a:Value} {s:List UInt8} (h:VB A 131 b (.var 3) [d,a,strOf s]):bL ai 96 [pw b 0] A (strOf s) A:=by
 have l2:aq ai A.get 9 (pw b 2)= .ok (strOf s):=h.ld rfl u9 rfl;refine aT (aB Tryz.func96) (c:=Tryz.f96.body.getD .skip) (by kernel_rfl) (by rw [Tryz.ntmps96];simp) (by kernel_rfl) (by kernel_rfl) ?_;apply W.run 60
 ·intro M;simp (disch:=first|decide+kernel|omega) only [Tryz.f96,Aq,X2,br,P4,aG,a8,BS,l2,aV];rfl
 exact⟨by simp,rfl,rfl,by simp only [Tryz.f96,Aq,X2,br,P4,aG,a8,BS,l2,aV]<;>rfl⟩
theorem FE:bL ai 96 [.pointer none] A (strOf []) A:=by
 refine aT (aB Tryz.func96) (c:=Tryz.f96.body.getD .skip) (by kernel_rfl) (by rw [Tryz.ntmps96];simp) (by kernel_rfl) (by kernel_rfl) ?_;apply W.run 60
 ·intro M;simp (disch:=first|decide+kernel|omega) only [Tryz.f96,Aq,X2,br,Sa,aV];rfl
 exact⟨by simp,rfl,rfl,by simp only [Tryz.f96,Aq,X2,br,Sa,aV]<;>rfl⟩
theorem I1 {f:Value} {s:List UInt8} (h:bL ai 96 [f] A (strOf s) A):bL ai 55 [f] A (.int .i64 (s.length:Nat)) A:=by
 obtain⟨g,hg⟩:=h;have hl:=cd (tb:=ai) (t:=9) (l:=s) u9;refine aT (aB Tryz.func55) (c:=Tryz.f55.body.getD .skip) (by kernel_rfl) (by rw [Tryz.ntmps55];simp) (by kernel_rfl) (by kernel_rfl) ?_;apply W.a6 (g) 60
 ·intro M hM;simp (disch:=first|decide+kernel|omega) only [Tryz.f55,Aq,X2,hg,hl];rfl
 exact⟨by simp,rfl,rfl,by simp only [Tryz.f55,Aq,X2,hg,hl]<;>rfl⟩
theorem FF {d a:Value} {s:List UInt8} (h:VB A 131 b (.var 3) [d,a,strOf s]) (hs:s.length<1000000000000):
 bL ai 116 [pw b 0,.int .i64 (0:Nat),.int .i64 (s.length:Nat)] A (.tuple ⟨[strOf s,.int .i64 (0:Nat)]⟩) A:=by
 have l2:aq ai A.get 9 (pw b 2)= .ok (strOf s):=h.ld rfl u9 rfl;have hl:=cd (tb:=ai) (t:=9) (l:=s) u9;have s1:dj ai 9 (strOf s) (some (.int .i64 (0:Nat))) none none= .ok (strOf s):=w9 (n:=0) u9 (Yg _);have s2:dj ai 9 (strOf s) none (some (.int .i64 (s.length:Nat))) none= .ok (strOf s):=by rw [oM u9 (X9 _),Yw]
 have m1:aO ai .min [3,3] [.int .i64 (s.length:Nat),.int .i64 (s.length:Nat)]= .ok (.int .i64 (s.length:Nat)):=by rw [mE,Nat.min_self]
 refine aT (aB Tryz.func116) (c:=Tryz.f116.body.getD .skip) (by kernel_rfl) (by rw [Tryz.ntmps116];simp) (by kernel_rfl) (by kernel_rfl) ?_;apply W.run 60
 ·intro M;simp (config:={maxSteps:=4000000}) (disch:=first|decide+kernel|omega|simp only [Wq,X2]) only [Tryz.f116,Aq,X5,reduceIte,X2,X3,br,P4,aG,a8,BS,l2,aV,hl,s1,s2,m1,bR,bw];rfl
 exact⟨by simp,rfl,rfl,by simp only [Tryz.f116,Aq,X5,reduceIte,X2,X3,br,P4,aG,a8,BS,l2,aV,hl,s1,s2,m1,bR,bw]<;>rfl⟩
theorem Dl {w:List UInt8} (h:fT A p fs):
 bL ai 18 [pw p 0,strOf w] A (.tuple ⟨[.int .i64 ((((fileOf fs w).getD []).length:Nat):Int),.int .i64 (if(fileOf fs w).isSome then 0 else 9:Nat)]⟩) A:=by
 obtain⟨pf,mf,mn,cf,cn,ps,ml,q,st,ar,x,y,h1,h2,⟨-,h3⟩,⟨-,h4⟩,h5⟩:=h;obtain⟨g,hg⟩:=run_read (w:=w) h1 h2 h3 h4 fun i s hs=>(h5 i s hs).imp fun b hb=>hb.choose_spec.choose_spec.1
 rcases sd w fs with⟨e1,e2⟩|⟨i,s,e1,e2,e3⟩
 ·rw [e1] at hg;rw [e2];obtain⟨g',hg'⟩:=I1 (A:=A) FE;refine aT (aB Tryz.func18) (c:=Tryz.f18.body.getD .skip) (by kernel_rfl) (by rw [Tryz.ntmps18];simp) (by kernel_rfl) (by kernel_rfl) ?_;apply W.a6 (g+g') 60
  ·intro M hM;simp (disch:=first|decide+kernel|omega) only [Tryz.f18,Aq,X2,hg,ow,if_true,qbb,hg',X8,X7,Option.getD_none,Zl,Ys];rfl
  exact⟨by simp,rfl,rfl,by simp only [Tryz.f18,Aq,X2,hg,ow,if_true,qbb,hg',X8,X7,Option.getD_none,Zl,Ys]<;>rfl⟩
 ·rw [e1] at hg;rw [e3];obtain⟨b,d,a,hb,hf⟩:=h5 i s e2;obtain⟨g',hg'⟩:=I1 (Kl hf);refine aT (aB Tryz.func18) (c:=Tryz.f18.body.getD .skip) (by kernel_rfl) (by rw [Tryz.ntmps18];simp) (by kernel_rfl) (by kernel_rfl) ?_;apply W.a6 (g+g') 60
  ·intro M hM;simp (disch:=first|decide+kernel|omega) only [Tryz.f18,Aq,X2,hg,ow,qax,qam,hb,YI,hg',X8,X7,Za,qaH];rfl
  exact⟨by simp,rfl,rfl,by simp only [Tryz.f18,Aq,X2,hg,ow,qax,qam,hb,YI,hg',X8,X7,Za,qaH]<;>rfl⟩
theorem uU {w s:List UInt8} (h:fT A p fs) (hw:fileOf fs w=some s) (hs:s.length<1000000000000):
 bL ai 75 [pw p 0,strOf w,.int .i64 (0:Nat),.int .i64 (s.length:Nat)] A (.tuple ⟨[strOf s,.int .i64 (0:Nat)]⟩) A:=by
 obtain⟨pf,mf,mn,cf,cn,ps,ml,q,st,ar,x,y,h1,h2,⟨-,h3⟩,⟨-,h4⟩,h5⟩:=h;obtain⟨g,hg⟩:=run_read (w:=w) h1 h2 h3 h4 fun i s hs=>(h5 i s hs).imp fun b hb=>hb.choose_spec.choose_spec.1
 rcases sd w fs with⟨e1,e2⟩|⟨i,s',e1,e2,e3⟩
 ·rw [e2] at hw;cases hw
 ·rw [e3] at hw;cases hw;rw [e1] at hg;obtain⟨b,d,a,hb,hf⟩:=h5 i s' e2;obtain⟨g',hg'⟩:=FF hf hs;refine aT (aB Tryz.func75) (c:=Tryz.f75.body.getD .skip) (by kernel_rfl) (by rw [Tryz.ntmps75];simp) (by kernel_rfl) (by kernel_rfl) ?_;apply W.a6 (g+g') 60
  ·intro M hM;simp (disch:=first|decide+kernel|omega) only [Tryz.f75,Aq,X2,hg,ow,qax,qam,hb,YI,hg',X8,X7];rfl
  exact⟨by simp,rfl,rfl,by simp only [Tryz.f75,Aq,X2,hg,ow,qax,qam,hb,YI,hg',X8,X7]<;>rfl⟩
end Go.Proofs.YtggndfefpbmaeaaGreatDoor.sto
namespace Go.Proofs.YtggndfefpbmaeaaGreatDoor.sto
open Go.Am Go.Mdl Go.Sto
theorem NV:ai.bp 48=some (.slice 5):=y9
theorem q5:aY ai 5= .ok 1:=by kernel_rfl
def wg (A:Mem) (b:Nat) (l:List UInt8) (x:Value):Prop:=pQ A 5 b (eh l) x∧l.Pairwise (·<·)∧l.length≤256
variable {A B:Mem} {b:Nat}
theorem wg.kp {l:List UInt8} {x:Value} (h:wg A b l x) (k:Kp A B):wg B b l x:=⟨h.1.same k.1 (k.2 b),h.2⟩
theorem wg.len {l:List UInt8} {x:Value} (h:wg A b l x):aO ai .len [48] [x]= .ok (.int .i64 (l.length:Nat)):=by
 have:=pQ.len (tb:=ai) h.1 NV;rwa [eu] at this
variable {i:Nat}
theorem wg.at {l:List UInt8} {x:Value} (h:wg A b l x) (hi:i<l.length):aZ ai 48 x (.int .i64 i)= .ok (pw b i)∧aq ai A.get 5 (pw b i)= .ok (.int .u8 (l[i].toNat:Nat)):=
 ⟨pQ.idx h.1 NV q5 (by rw [eu];exact hi),pQ.load (tb:=ai) h.1 u5 rfl (by unfold eh;rw [Yr,X6 hi];rfl)⟩
variable {j:Nat}
theorem wg.le {l:List UInt8} {x:Value} (h:wg A b l x) (hij:i≤j) (hj:j<l.length):¬l[j].toNat<(l[i]'(by omega)).toNat:=by
 rcases YE i j with hlt|hge
 ·have:=qaN.1 (Zv.1 h.2.1 i j (by omega) hj hlt);omega
 ·have:i=j:=by omega
  subst this;omega
variable {n:Nat}
theorem OX:bL ai 279 [.int .u8 n] A (.bool false) A:=by
 refine aT (aB Tryz.func279) (c:=Tryz.f279.body.getD .skip) (by kernel_rfl) (by rw [Tryz.ntmps279];simp) (by kernel_rfl) (by kernel_rfl) ?_;apply W.run 60
 ·intro M;simp (disch:=first|decide+kernel|omega) only [Tryz.f279,Aq,X2];rfl
 exact⟨by simp,rfl,rfl,by simp only [Tryz.f279,Aq,X2]<;>rfl⟩
theorem J' {a:Nat}:bL ai 261 [.int .u8 a,.int .u8 b] A (.bool (decide (a<b))) A:=by
 obtain⟨g1,h1⟩:=OX (A:=A) (n:=a);refine aT (aB Tryz.func261) (c:=Tryz.f261.body.getD .skip) (by kernel_rfl) (by rw [Tryz.ntmps261];simp) (by kernel_rfl) (by kernel_rfl) ?_;apply W.a6 (g1) 60
 ·intro M hM;simp (config:={maxSteps:=4000000}) (disch:=first|decide+kernel|omega|simp only [Wq,X2]) only [Tryz.f261,Aq,X5,reduceIte,X2,X3,h1];rfl
 exact⟨by simp,rfl,rfl,by simp only [Tryz.f261,Aq,X5,reduceIte,X2,X3,h1]<;>rfl⟩
theorem wg.less {l:List UInt8} {x:Value} (h:wg A b l x) (hij:i≤j) (hj:j<l.length):∃g,∀M,g≤M→bg ai (exec ai M) (.fn 261 [.int .u8 (l[j].toNat:Nat),.int .u8 (((l[i]'(by omega)).toNat:Nat):Int)]) A= .ok (.val (.bool false) A):=by
 have h1:=J' (A:=A) (a:=l[j].toNat) (b:=(l[i]'(by omega)).toNat)
 rwa [decide_eq_false (h.le hij hj)] at h1
noncomputable def Fm:Code:=qbx.body.getD .skip
noncomputable def iX:Code:=sub Fm [1,0,0]
noncomputable def Pf:Code:=sub iX [1,0,0,1,0,0]
theorem Qr:qbx.body=some (.seq (sub Fm [0]) (.block 0 (.loop iX))):=by kernel_rfl
theorem z4:iX=(.seq (sub iX [0]) (.seq (.block 1 (.seq (sub iX [1,0,0,0]) (.block 2 (.loop Pf)))) (sub iX [1,1]))):=by kernel_rfl
theorem Kh {l:List UInt8} {x:Value} (h:wg A b l x):∃v A',bL ai 255 [x,.int .i64 (0:Nat),.int .i64 (l.length:Nat)] A v A'∧v=cM∧A'=A:=by
 refine cS (aB Tryz.func255) Qr (by rw [Tryz.ntmps255];simp) (by kernel_rfl) (by kernel_rfl) ?_;have hl:=h.2.2;apply W.seq;apply W.run 20
 ·intro M;simp (disch:=first|decide+kernel|omega) only [Fm,qbx,Aq,X2];rfl
 apply W.block;refine W.up (l.length-1) (fun k t D=>D=A∧Sl t [(0,x),(1,.int .i64 (0:Nat)),(2,.int .i64 (l.length:Nat)),(6,.int .i64 (k+1:Nat))]) ?_ (Yg _) ⟨rfl,?_⟩
 ·rintro k t D hk ⟨rfl,g0,g1,g2,g6,-⟩;by_cases hlt:k+1<l.length
  ·obtain⟨i1,i2⟩:=h.at hlt;obtain⟨j1,j2⟩:=h.at (i:=k) (by omega);obtain⟨g,hg⟩:=h.less (i:=k) (j:=k+1) (by omega) hlt;have s1:aN .sub .i64 ((k+1:Nat):Int) ((1:Nat):Int)= .ok (.int .i64 (k:Nat)):=bq (by omega) (aR (by omega));have hz:0<k+1:=by omega
   rw [z4];apply W.seq;apply W.run 20
   ·intro M;simp (disch:=first|decide+kernel|omega) only [iX,Fm,qbx,Aq,X2,g2,g6,hlt];rfl
   apply W.seq;apply W.block;apply W.seq;apply W.run 20
   ·intro M;simp (disch:=first|decide+kernel|omega) only [iX,Fm,qbx,Aq,X2,g6];rfl
   apply W.block;apply W.round;apply W.a6 (g) 20
   ·intro M hM;simp (config:={maxSteps:=4000000}) (disch:=first|decide+kernel|omega|simp only [Wq,X2]) only [Pf,iX,Fm,qbx,Aq,X5,reduceIte,X2,X3,g0,g1,g2,g6,bR,bw,hz,s1,i1,i2,j1,j2,hg,Fq,aC []];rfl
   show W ai (sub iX [1,1]) _ _;apply W.run 20
   ·intro M;simp (disch:=first|decide+kernel|omega) only [iX,Fm,qbx,Aq,X2,g6];rfl
   refine⟨by omega,_,_,rfl,rfl,?_⟩;simp only [av,aw,T.af,T.ag,T.ak,X2,X3,if_true,if_false,and_true,true_and,g0,g1,g2]
  ·rw [z4];apply W.seq;apply W.run 20
   ·intro M;simp (disch:=first|decide+kernel|omega) only [iX,Fm,qbx,Aq,X2,g2,g6,hlt];rfl
   exact⟨by simp,rfl,_,(by simp only [qbx,Aq,X2]<;>rfl),rfl,rfl⟩
 ·simp only [av,aw,T.af,T.ag,T.ak,X2,X3,if_true,if_false,and_true,true_and]
noncomputable def vY:Code:=qbe.body.getD .skip
noncomputable def jA:Code:=sub vY [1,1,0,1,0,0]
noncomputable def Gm:Code:=sub jA [1,0,0,0,0,0]
theorem Qi:qbe.body=some (.seq (sub vY [0]) (.seq (sub vY [1,0]) (.seq (.seq (sub vY [1,1,0,0]) (.block 0 (.loop jA))) (sub vY [1,1,1])))):=by kernel_rfl
theorem Lc:jA=(.seq (sub jA [0]) (.seq (.block 1 (.seq (.block 2 (.loop Gm)) (.seq (sub jA [1,0,0,1,0]) (sub jA [1,0,0,1,1])))) (sub jA [1,1]))):=by kernel_rfl
theorem Jt {l:List UInt8} {x:Value} (h:wg A b l x) (h0:0<l.length):∃v A',bL ai 260 [x,.int .i64 (0:Nat),.int .i64 (l.length:Nat)] A v A'∧v= .bool true∧A'=A:=by
 refine cS (aB Tryz.func260) Qi (by rw [Tryz.ntmps260];simp) (by kernel_rfl) (by kernel_rfl) ?_;have hl:=h.2.2;apply W.seq;apply W.run 20
 ·intro M;simp (disch:=first|decide+kernel|omega) only [vY,qbe,Aq,X2];rfl
 apply W.seq;apply W.run 20
 ·intro M;simp (disch:=first|decide+kernel|omega) only [vY,qbe,Aq,X2];rfl
 apply W.seq;apply W.seq;apply W.run 20
 ·intro M;simp (disch:=first|decide+kernel|omega) only [vY,qbe,Aq,X2];rfl
 apply W.block;apply W.round;rw [Lc];have h5:0<5:=by omega
 apply W.seq;apply W.run 20
 ·intro M;simp (disch:=first|decide+kernel|omega) only [jA,vY,qbe,Aq,X2,h5];rfl
 apply W.seq;apply W.block;apply W.seq;apply W.block;refine W.up (l.length-1) (fun k t D=>D=A∧Sl t [(0,x),(2,.int .i64 (l.length:Nat)),(7,.int .i64 (k+1:Nat))]) ?_ (Yg _) ⟨rfl,?_⟩
 ·rintro k t D hk ⟨rfl,g0,g2,g7,-⟩;by_cases hlt:k+1<l.length
  ·obtain⟨i1,i2⟩:=h.at hlt;obtain⟨j1,j2⟩:=h.at (i:=k) (by omega);obtain⟨g,hg⟩:=h.less (i:=k) (j:=k+1) (by omega) hlt;have s1:aN .sub .i64 ((k+1:Nat):Int) ((1:Nat):Int)= .ok (.int .i64 (k:Nat)):=bq (by omega) (aR (by omega));apply W.a6 (g) 20
   ·intro M hM;simp (config:={maxSteps:=4000000}) (disch:=first|decide+kernel|omega|simp only [Wq,X2]) only [Gm,jA,vY,qbe,Aq,X5,reduceIte,X2,X3,g0,g2,g7,hlt,s1,i1,i2,j1,j2,hg,Fq,aC []];rfl
   refine⟨by omega,_,_,rfl,rfl,?_⟩;simp only [av,aw,T.af,T.ag,T.ak,X2,X3,if_true,if_false,and_true,true_and,g0,g2]
  ·have e:k+1=l.length:=by omega
   rw [e] at g7;apply W.run 20
   ·intro M;simp (config:={maxSteps:=4000000}) (disch:=first|decide+kernel|omega|simp only [Wq,X2]) only [Gm,jA,vY,qbe,Aq,X5,reduceIte,X2,X3,g0,g2,g7,Zk,Fq,aC []];rfl
   apply W.seq;apply W.run 20
   ·intro M;simp (disch:=first|decide+kernel|omega) only [jA,vY,qbe,Aq,X2,g2,g7];rfl
   exact⟨by simp,rfl,_,(by simp only [qbe,Aq,X2]<;>rfl),rfl,rfl⟩
 ·simp only [av,aw,T.af,T.ag,T.ak,X2,X3,if_true,if_false,and_true,true_and]
theorem Ax {q l:_} {x:Value} (h:wg A b l x) (hij:i≤j) (hj:j<l.length):bL ai 283 [x,.int .i64 i,.int .i64 j,q] A (.tuple ⟨[.int .i64 i,.int .i64 j]⟩) A:=by
 obtain⟨i1,i2⟩:=h.at hj;obtain⟨j1,j2⟩:=h.at (i:=i) (by omega);obtain⟨g,hg⟩:=h.less hij hj;refine aT (aB Tryz.func283) (c:=Tryz.f283.body.getD .skip) (by kernel_rfl) (by rw [Tryz.ntmps283];simp) (by kernel_rfl) (by kernel_rfl) ?_;apply W.a6 (g) 60
 ·intro M hM;simp (config:={maxSteps:=4000000}) (disch:=first|decide+kernel|omega|simp only [Wq,X2]) only [Tryz.f283,Aq,X5,reduceIte,X2,X3,i1,i2,j1,j2,hg,Fq,aC []];rfl
 exact⟨by simp,rfl,rfl,by simp only [Tryz.f283,Aq,X5,reduceIte,X2,X3,i1,i2,j1,j2,hg,Fq,aC []]<;>rfl⟩
variable {k:Nat}
theorem xC {q l:_} {x:Value} (h:wg A b l x) (hij:i≤j) (hjk:j≤k) (hk:k<l.length):bL ai 278 [x,.int .i64 i,.int .i64 j,.int .i64 k,q] A (.int .i64 j) A:=by
 obtain⟨g1,h1⟩:=Ax (q:=q) h hij (by omega);obtain⟨g2,h2⟩:=Ax (q:=q) h hjk hk;refine aT (aB Tryz.func278) (c:=Tryz.f278.body.getD .skip) (by kernel_rfl) (by rw [Tryz.ntmps278];simp) (by kernel_rfl) (by kernel_rfl) ?_;apply W.a6 (g1+g2) 60
 ·intro M hM;simp (disch:=first|decide+kernel|omega) only [Tryz.f278,Aq,X2,h1,h2,X8,X7];rfl
 exact⟨by simp,rfl,rfl,by simp only [Tryz.f278,Aq,X2,h1,h2,X8,X7]<;>rfl⟩
theorem qO {q l:_} {x:Value} (h:wg A b l x) (h1:1≤i) (hi:i+1<l.length):bL ai 277 [x,.int .i64 i,q] A (.int .i64 i) A:=by
 obtain⟨g,hg⟩:=xC (q:=q) (i:=i-1) (j:=i) (k:=i+1) h (by omega) (by omega) hi;have hl:=h.2.2;have s1:aN .sub .i64 ((i:Nat):Int) ((1:Nat):Int)= .ok (.int .i64 (i-1:Nat)):=bq (by omega) (aR (by omega));have a1:aN .add .i64 ((i:Nat):Int) ((1:Nat):Int)= .ok (.int .i64 (i+1:Nat)):=a9 (aR (by omega));refine aT (aB Tryz.func277) (c:=Tryz.f277.body.getD .skip) (by kernel_rfl) (by rw [Tryz.ntmps277];simp) (by kernel_rfl) (by kernel_rfl) ?_;apply W.a6 (g) 60
 ·intro M hM;simp (disch:=first|decide+kernel|omega) only [Tryz.f277,Aq,X2,hg,s1,a1];rfl
 exact⟨by simp,rfl,rfl,by simp only [Tryz.f277,Aq,X2,hg,s1,a1]<;>rfl⟩
theorem KU {l:List UInt8} {x:Value} (h:wg A b l x) (h0:13≤l.length):∃m A',bL ai 258 [x,.int .i64 (0:Nat),.int .i64 (l.length:Nat)] A (.tuple ⟨[.int .i64 (m:Nat),.int .i64 (1:Nat)]⟩) A'∧Kp A A':=by
 have hl:=h.2.2;have kB:=Kp.alloc A (aa 3 [.int .i64 (0:Nat)]);have vB:=aF A 3 [.int .i64 (0:Nat)];have hB:=h.kp kB;refine⟨l.length/4*2,A.alloc (aa 3 [.int .i64 (0:Nat)]),?_,kB⟩;generalize hBe:A.alloc (aa 3 [.int .i64 (0:Nat)])=B at kB vB hB;have lB:aq ai B.get 3 (pw A.next 0)= .ok (.int .i64 (0:Nat)):=vB.ld rfl u3 rfl;obtain⟨g,hg⟩:=xC (q:=pV A.next) (i:=l.length/4) (j:=l.length/4*2) (k:=l.length/4*3) hB (by omega) (by omega) (by omega);obtain⟨g1,h1⟩:=qO (q:=pV A.next) (i:=l.length/4) hB (by omega) (by omega);obtain⟨g2,h2⟩:=qO (q:=pV A.next) (i:=l.length/4*2) hB (by omega) (by omega);obtain⟨g3,h3⟩:=qO (q:=pV A.next) (i:=l.length/4*3) hB (by omega) (by omega);have q1:∀c:Nat,c≤3→aN .mul .i64 ((l.length/4:Nat):Int) ((c:Nat):Int)= .ok (.int .i64 (l.length/4*c:Nat)):=fun c hc=>gq (aR (by have:l.length/4*c≤l.length/4*3:=Nat.mul_le_mul_left _ hc;omega))
 have m1:=q1 1 (by omega);have m2:=q1 2 (by omega);have m3:=q1 3 (by omega);rw [Zf] at m1;have a0:∀n:Nat,n<1000→aN .add .i64 ((0:Nat):Int) ((n:Nat):Int)= .ok (.int .i64 (n:Nat)):=fun n hn=>by rw [a9 (aR (by omega)),Yy]
 have a1:=a0 (l.length/4) (by omega);have a2:=a0 (l.length/4*2) (by omega);have a3:=a0 (l.length/4*3) (by omega);have h8:8≤l.length:=by omega
 simp only [pV] at*;by_cases h50:50≤l.length
 ·skip
  refine aT (aB Tryz.func258) (c:=qco.body.getD .skip) (by kernel_rfl) (by rw [Tryz.ntmps258];simp) (by kernel_rfl) (by kernel_rfl) ?_;apply W.a6 (g+g1+g2+g3) 60
  ·intro M hM;simp (config:={maxSteps:=4000000}) (disch:=first|decide+kernel|omega|simp only [Wq,X2]) only [qco,Aq,X5,reduceIte,X2,X3,gN,dQ,Zd,hBe,m1,m2,m3,a1,a2,a3,bO,bm,h8,h50,hg,h1,h2,h3,lB];rfl
  exact⟨by simp,rfl,rfl,by simp only [qco,Aq,X5,reduceIte,X2,X3,gN,dQ,Zd,hBe,m1,m2,m3,a1,a2,a3,bO,bm,h8,h50,hg,h1,h2,h3,lB]<;>rfl⟩
 ·skip
  refine aT (aB Tryz.func258) (c:=qco.body.getD .skip) (by kernel_rfl) (by rw [Tryz.ntmps258];simp) (by kernel_rfl) (by kernel_rfl) ?_;apply W.a6 (g) 60
  ·intro M hM;simp (config:={maxSteps:=4000000}) (disch:=first|decide+kernel|omega|simp only [Wq,X2]) only [qco,Aq,X5,reduceIte,X2,X3,gN,dQ,Zd,hBe,m1,m2,m3,a1,a2,a3,bO,bm,h8,h50,hg,lB];rfl
  exact⟨by simp,rfl,rfl,by simp only [qco,Aq,X5,reduceIte,X2,X3,gN,dQ,Zd,hBe,m1,m2,m3,a1,a2,a3,bO,bm,h8,h50,hg,lB]<;>rfl⟩
noncomputable def FA:Code:=qbZ.body.getD .skip
noncomputable def Hh:Code:=sub FA [1,1,0,0]
theorem Q0:qbZ.body=some (.seq (sub FA [0]) (.seq (sub FA [1,0]) (.block 0 (.loop Hh)))):=by kernel_rfl
variable {m:Nat}
theorem PV {l:List UInt8} {x:Value} (h:wg A b l x) (hm:0<l.length→m≠0):∃v A',bL ai 251 [x,.int .i64 (0:Nat),.int .i64 (l.length:Nat),.int .i64 m] A v A'∧v=cM∧Kp A A':=by
 refine cS (aB Tryz.func251) Q0 (by rw [Tryz.ntmps251];simp) (by kernel_rfl) (by kernel_rfl) ?_;have hl:=h.2.2;apply W.seq;apply W.run 20
 ·intro M;simp (disch:=first|decide+kernel|omega) only [FA,qbZ,Aq,X2];rfl
 apply W.seq;apply W.run 20
 ·intro M;simp (disch:=first|decide+kernel|omega) only [FA,qbZ,Aq,X2];rfl
 apply W.block;apply W.round;by_cases h12:l.length≤12
 ·obtain⟨v,B,⟨g,hg⟩,rfl,rfl⟩:=Kh h;apply W.a6 (g) 20
  ·intro M hM;simp (disch:=first|decide+kernel|omega) only [Hh,FA,qbZ,Aq,X2,Zd,h12,hg];rfl
  exact⟨by simp,rfl,_,(by simp only [qbZ,Aq,X2]<;>rfl),rfl,Kp.refl _⟩
 ·obtain⟨p,B,⟨g,hg⟩,kB⟩:=KU h (by omega);obtain⟨v,C,⟨g2,hg2⟩,rfl,rfl⟩:=Jt (h.kp kB) (by omega);have hm:=hm (by omega);apply W.a6 (g+g2) 20
  ·intro M hM;simp (config:={maxSteps:=4000000}) (disch:=first|decide+kernel|omega|simp only [Wq,X2]) only [Hh,FA,qbZ,Aq,X5,reduceIte,X2,X3,Zd,h12,hg,hg2,hm,X8,X7,Fq,aC []];rfl
  exact⟨by simp,rfl,_,(by simp only [qbZ,Aq,X2]<;>rfl),rfl,kB⟩
theorem mY {l:List UInt8} (hl:(Yc l.length 256&&(Zi 256).all fun i=>Yc (l.getD i 0).toNat (gp i))=true) (h:n<256):mV ai 9 (strOf l) (.int .u8 n)= .ok (.int .u8 (gp n:Nat)):=tS hl h
theorem MT (hn:n≤256):∃m:Nat,(0<n→m≠0)∧bL ai 229 [.int .u64 n] A (.int .i64 m) A:=by
 have k1:¬4294967296≤n:=by omega
 have k2:¬65536≤n:=by omega
 by_cases h:n<256
 ·have k3:¬256≤n:=by omega
  have hb:=Bm h;have hp:0<n→gp n≠0:=fun h=>by unfold gp;rw [if_neg (by omega)];omega
  have c1:=bu (tb:=ai) (s:=103) (d:=5) (k:=.u64) (n:=n) (by rw [ff];rfl) u5 (iV h);have c2:=bu (tb:=ai) (s:=5) (d:=3) (k:=.u8) (n:=gp n) (by rw [u5];rfl) u3 (aR (by omega));refine⟨gp n,hp,?_⟩;refine aT (aB Tryz.func229) (c:=qbB.body.getD .skip) (by kernel_rfl) (by rw [Tryz.ntmps229];simp) (by kernel_rfl) (by kernel_rfl) ?_;apply W.run 60
  ·intro M;simp (disch:=first|decide+kernel|omega) only [qbB,Aq,X2,bO,bm,k1,k2,k3,c1,c2,mY,Yy];rfl
  exact⟨by simp,rfl,rfl,by simp only [qbB,Aq,X2,bO,bm,k1,k2,k3,c1,c2,mY,Yy]<;>rfl⟩
 ·have e:n=256:=by omega
  subst e;have c1:=bu (tb:=ai) (s:=103) (d:=5) (k:=.u64) (n:=256>>>8) (by rw [ff];rfl) u5 (by rfl);have c2:=bu (tb:=ai) (s:=5) (d:=3) (k:=.u8) (n:=gp (256>>>8)) (by rw [u5];rfl) u3 (by kernel_rfl);refine⟨8+gp (256>>>8),by omega,?_⟩;refine aT (aB Tryz.func229) (c:=qbB.body.getD .skip) (by kernel_rfl) (by rw [Tryz.ntmps229];simp) (by kernel_rfl) (by kernel_rfl) ?_;apply W.run 60
  ·intro M;simp (disch:=first|decide+kernel|omega) only [qbB,Aq,X2,bO,bm,k1,k2,X9,c1,c2,mY,rS,Yy];rfl
  exact⟨by simp,rfl,rfl,by simp only [qbB,Aq,X2,bO,bm,k1,k2,X9,c1,c2,mY,rS,Yy]<;>rfl⟩
theorem SW:ai.bp 326=some (.int .u64):=by kernel_rfl
theorem Me (hn:n≤256):∃m:Nat,(0<n→m≠0)∧bL ai 252 [.int .u64 n] A (.int .i64 m) A:=by
 obtain⟨m,hm,g,hg⟩:=MT (A:=A) hn;refine⟨m,hm,?_⟩;refine aT (aB Tryz.func252) (c:=Tryz.f252.body.getD .skip) (by kernel_rfl) (by rw [Tryz.ntmps252];simp) (by kernel_rfl) (by kernel_rfl) ?_;apply W.a6 (g) 60
 ·intro M hM;simp (disch:=first|decide+kernel|omega) only [Tryz.f252,Aq,X2,hg];rfl
 exact⟨by simp,rfl,rfl,by simp only [Tryz.f252,Aq,X2,hg]<;>rfl⟩
theorem MM {l:List UInt8} {x:Value} (h:wg A b l x):∃A',bL ai 243 [x] A cM A'∧Kp A A':=by
 obtain⟨m,hm,g,hg⟩:=Me (A:=A) h.2.2;obtain⟨v,B,⟨g2,h2⟩,rfl,kB⟩:=PV h hm;have hl:=h.2.2;have lx:=h.len;have cv:=bu (tb:=ai) (s:=3) (d:=326) (k:=.i64) (n:=l.length) (by rw [u3];rfl) SW (cL (by omega));refine⟨B,?_,kB⟩;refine aT (aB Tryz.func243) (c:=Tryz.f243.body.getD .skip) (by kernel_rfl) (by rw [Tryz.ntmps243];simp) (by kernel_rfl) (by kernel_rfl) ?_;apply W.a6 (g+g2) 60
 ·intro M hM;simp (disch:=first|decide+kernel|omega) only [Tryz.f243,Aq,X2,lx,cv,hg,h2];rfl
 exact⟨by simp,rfl,rfl,by simp only [Tryz.f243,Aq,X2,lx,cv,hg,h2]<;>rfl⟩
theorem GQ:ai.bp 48=some (.slice 5):=y9
theorem DO (l m:List UInt8):eh (l++m)=eh l++eh m:=by simp [eh]
theorem Vi:∃d,ai.bp 223=some d∧cN d=false:=by
 have h:(ai.bp 223).map cN=some false:=by kernel_rfl
 cases hq:ai.bp 223 with
 |none=>rw [hq] at h;cases h
 |some d=>rw [hq] at h;exact⟨d,rfl,by simpa using h⟩
theorem UX:aY ai 223= .ok 1:=by kernel_rfl
theorem VL:aY ai 48= .ok 1:=by kernel_rfl
theorem Vt:cq ai 5= .ok (1,[.int .u8 0]):=by kernel_rfl
theorem VA:∃i,ai.ty.get 5=some i∧i.bytes=1:=by
 have h:((ai.ty.get 5).map fun i=>i.bytes)=some 1:=by kernel_rfl
 cases hq:ai.ty.get 5 with
 |none=>rw [hq] at h;cases h
 |some i=>rw [hq] at h;exact⟨i,rfl,by simpa using h⟩
theorem Wn (b:Nat):ax ai 225 (pw b 0) 0= .ok (pw b 0):=by kernel_rfl
theorem WH (b:Nat):ax ai 225 (pw b 0) 1= .ok (pw b 1):=by kernel_rfl
def rG (A:Mem) (e:TypeId) (b:Nat) (l:List Value) (x:Value):Prop:=
 (x= .slice none 0 0∧l=[])∨(l≠ []∧x= .slice (some ⟨b,0,none⟩) l.length (fe l.length 1)∧b<A.next∧dD A e b .row l)
variable {l:List Value}
theorem rG.m_ {e:TypeId} {x:Value} (h:rG A e b l x):pQ A e b l x:=by
 rcases h with h|⟨_,h1,h2,h3⟩
 ·exact .inl h
 ·exact .inr ⟨.row,_,h1,h2,h3,.inr ⟨rfl,.inl rfl⟩⟩
variable {A':Mem}
theorem rG.same {e:TypeId} {x:Value} (h:rG A e b l x) (hn:A.next≤A'.next) (hg:b<A.next→A'.get b=A.get b):rG A' e b l x:=by
 rcases h with h|⟨h0,h1,h2,h3⟩
 ·exact .inl h
 ·exact .inr ⟨h0,h1,Yt h2 hn,h3.same (hg h2)⟩
variable {tb:bI} {y:Value}
theorem rG.oZ {st xt e:TypeId} {xd:TypeDesc} {i:TypeInfo} {z:Value} {nl:List Value} {x:Value} (h:rG A e b l x) (hst:tb.bp st=some (.slice e)) (hxt:tb.bp xt=some xd) (hxd:gu xd=false) (hz:cq tb e= .ok (1,[z])) (hi:tb.ty.get e=some i) (hib:0<i.bytes) (hib':i.bytes≤65536)
 (hl:l.length+m≤16777216) (hm0:0<m) (hy:jC y= .ok m) (hnew:gX A.get 1 m y= .ok nl) (hm:nl.length=m) (h1c:∀v∈nl,aJ v=true):
 ∃x' A',bk tb A st xt x y= .ok (x',A')∧rG A' e A.next (l++nl) x'∧A'.next=A.next+1∧∀z,z≠b→z<A.next→A'.get z=A.get z:=by
 have he1:(1:Nat)<65536:=by omega
 have hlim:(X5 (l.length+m) 16777216&&X5 i.bytes 65536&&Ye 0 i.bytes&&Ye 0 1&&Ye 1 65536)=true:=by
  have a1:X5 (l.length+m) 16777216=true:=YY (by omega);have a2:X5 i.bytes 65536=true:=YY hib';have a3:Ye 0 i.bytes=true:=by rw [Yl];exact hib
  rw [a1,a2,a3];rfl
 have hone:nl.all aJ=true:=Ze.2 h1c;have fin:∀(A0:Mem),A0.next=A.next→(∀y,y≠b→A0.get y=A.get y)→
  rG (A0.alloc (.cells e .row 0 (T.bJ .e 0 (l++nl)))) e A.next (l++nl) (.slice (some ⟨A.next,0,none⟩) (l.length+m) (fe (l.length+m) 1))∧(A0.alloc (.cells e .row 0 (T.bJ .e 0 (l++nl)))).next=A.next+1∧∀y,y≠b→y<A.next→(A0.alloc (.cells e .row 0 (T.bJ .e 0 (l++nl)))).get y=A.get y:=by
  intro A0 hn hg;refine⟨.inr ⟨fun h0=>by rw [(List.append_eq_nil_iff.1 h0).2] at hm;simp at hm;omega,by rw [X',hm],by rw [ae];omega,ee ?_⟩,by rw [ae,hn],fun y hy hlt=>?_⟩
  ·rw [←hn];exact aD _ _
  ·rw [aH (by omega),hg y hy]
 rcases h with⟨rfl,rfl⟩|⟨h0,rfl,h2,h3⟩
 ·refine⟨.slice (some ⟨A.next,0,none⟩) (0+m) (fe (0+m) 1),A.alloc (.cells e .row 0 (T.bJ .e 0 ([]++nl))),?_,fin A rfl (fun _ _=>rfl)⟩;unfold bk cU;have hble:X5 (0+m) (bN 0)=false:=by
   cases hq:X5 (0+m) (bN 0) with
   |false=>rfl
   |true=>have:=Yx hq;have h9:bN 0=0:=rfl;omega
  have hx:eA 0=true:=rfl;have hel:c_ A.get 1 0 none= .ok []:=rfl;simp only [Ys] at hlim;simp only [hst,hxt,hxd,cond_false,hz,R.aA,hy,hnew,hble,hi,hlim,cond_true,hel,hx]
 ·obtain⟨cs,hb',hcs⟩:=h3;have hel:c_ A.get 1 l.length (some ⟨b,0,none⟩)= .ok l:=ke ⟨cs,hb',hcs⟩;have hble:X5 (l.length+m) (bN (fe l.length 1))=false:=by
   rw [cm he1];cases hq:X5 (l.length+m) l.length with
   |false=>rfl
   |true=>have:=Yx hq;omega
  have hx:eA (fe l.length 1)=false:=cH _ _;have he:Yc (iQ (fe l.length 1)) 1=true:=by rw [dG he1];rfl
  have hfz:(X5 0 (0+l.length*1)&&(Yc e e&&Ye 0 9223372036854775808))=true:=by
   have h0:Ye 0 9223372036854775808=true:=by rw [Yl];omega
   rw [h0];simp
  refine⟨_,(A.set b .dead).alloc (.cells e .row 0 (T.bJ .e 0 (l++nl))),?_,fin (A.set b .dead) (aX _ _ _) (fun y hy=>by rw [aL,if_neg hy])⟩;unfold bk cU;simp only [hst,hxt,hxd,cond_false,hz,R.aA,hy,hnew,hble,hi,hlim,cond_true,hel,hx,he,hone,qau,hb',hfz]
def Bd (bb b:Nat) (bs:List UInt8) (D:Mem):Prop:=∃pa x,dD D 225 bb (.var 2) [pa,x]∧(pa= .pointer none∨pa= .pointer (some ⟨bb,0,none⟩))∧rG D 5 b (eh bs) x∧b≠bb∧bb<D.next
section
variable {ih:Code→St→R (Ex×St)} {dst:Option Tmp} {ty:TypeId} {pos:String} {after:Array Edge} {g:Option (Nat×Bool)} {s:St} {k:St→R (Ex×St)}
theorem WV (x:Operand):dI ai ih {dst,op:=.convert 223 320 x,type:=ty,pos,after,guard:=g} s k=(ev s.t x).bind fun x=>(cY ai s.m.get 223 320 x).bind fun v=>bP s dst v k:=by
 rw [mC (hc:=by kernel_rfl) (hi:=rfl)];simp only [nf,R.ba]
theorem Xe (x:Operand):dI ai ih {dst,op:=.convert 320 223 x,type:=ty,pos,after,guard:=g} s k=(ev s.t x).bind fun x=>(cY ai s.m.get 320 223 x).bind fun v=>bP s dst v k:=by
 rw [mC (hc:=by kernel_rfl) (hi:=rfl)];simp only [nf,R.ba]
end
theorem WU {ih:Code→St→R (Ex×St)} {x:Value}:bg ai ih (.fn 223 [x]) A= .ok (.val x A):=by
 have h1:ai.fn.get 223=some Tryz.f223:=aB Tryz.func223;have h2:Tryz.f223.body=none:=by kernel_rfl
 have h3:ai.ex.get 223=some 1:=by kernel_rfl
 have h4:(Tryz.f223.name== "runtime.NumGoroutine")=false:=by kernel_rfl
 unfold bg;simp only [h1,h2,h3,h4,cond_false];rfl
variable {bb:Nat}
theorem Xg {D:Mem} (h:dD D 225 bb (.var 2) l):cY ai D.get 223 320 (pw bb 0)= .ok (pw bb 0):=by
 obtain⟨c,e,-⟩:=h;have u1:ai.bp 223=some (.pointer 225):=by kernel_rfl
 have u2:ai.bp 320=some .unsafePointer:=by kernel_rfl
 have u3:aY ai 225= .ok 2:=by kernel_rfl
 unfold cY;simp only [u1,u2,e,u3,R.aA];rfl
theorem Xb {D:Mem} (h:dD D 225 bb (.var 2) l):cY ai D.get 320 223 (pw bb 0)= .ok (pw bb 0):=by
 obtain⟨c,e,-⟩:=h;have u1:ai.bp 223=some (.pointer 225):=by kernel_rfl
 have u2:ai.bp 320=some .unsafePointer:=by kernel_rfl
 have u3:aY ai 225= .ok 2:=by kernel_rfl
 have u4:liesAt ai.P ai.P.depth 225 (2/ai.P.cellsOf 225) 0 225 1=true:=by kernel_rfl
 unfold cY;simp only [u1,u2,e,u3,R.aA,u4,cond_true]
noncomputable def Kk:Code:=qb1.body.getD .skip
theorem QN:qb1.body=some (.seq (sub Kk [0]) (sub Kk [1])):=by kernel_rfl
variable {bs:List UInt8}
theorem yG {D:Mem} (h:Bd bb b bs D):∃D',bL ai 191 [pw bb 0] D cM D'∧Bd bb b bs D'∧D'.next=D.next∧∀y,y≠bb→D'.get y=D.get y:=by
 obtain⟨pa,x,hv,hpa,hs,hbb,hn⟩:=h;obtain⟨d28,w27,w28⟩:=Vi;have hl0:aq ai D.get 223 (pw bb 0)= .ok pa:=bf w27 w28 hv rfl;obtain⟨v,D',hg,rfl,h1⟩:∃v D',bL ai 191 [pw bb 0] D v D'∧v=cM∧(Bd bb b bs D'∧D'.next=D.next∧∀y,y≠bb→D'.get y=D.get y):=by
  refine eE (aB Tryz.func191) QN (by rw [Tryz.ntmps191];simp) (by kernel_rfl) (by kernel_rfl) ?_;apply W.seq;rcases hpa with rfl|rfl
  ·have he:u_ ai D.get .eql 223 (.tmp 5) (.const (.pointer none)) (.pointer none) (.pointer none)= .ok (.bool true):=by kernel_rfl
   obtain⟨D1,hst,hv1,hn1,hg1⟩:=a_ (tb:=ai) (t:=223) (o:=0) (v:=pw bb 0) UX hv (by simp) rfl rfl;apply W.run 20
   ·intro M;simp (disch:=first|decide+kernel|omega) only [Kk,qb1,Aq,X2,aG,a8,Wn,hl0,br,he];rfl
   apply W.run 20
   ·intro M;simp (disch:=first|decide+kernel|omega) only [Kk,qb1,Aq,X2,aG,a8,Wn,WV,Xe,Xg hv,Xb hv,WU,hst];rfl
   refine⟨.inl rfl,_,[],rfl,?_,rfl,⟨_,x,hv1,.inr rfl,?_,hbb,by rw [hn1];exact hn⟩,hn1,hg1⟩
   ·simp only [qb1,fj]
   ·exact hs.same (by rw [hn1];exact X9 _) (fun _=>hg1 b hbb)
  ·have he:u_ ai D.get .eql 223 (.tmp 5) (.const (.pointer none)) (pw bb 0) (.pointer none)= .ok (.bool false):=by kernel_rfl
   have he2:u_ ai D.get .neq 223 (.tmp 17) (.tmp 18) (pw bb 0) (pw bb 0)= .ok (.bool false):=by
    have u1:ai.bp 223=some (.pointer 225):=by kernel_rfl
    have hb:Yc bb bb=true:=qcf bb;have u2:aY ai 225= .ok 2:=by kernel_rfl
    have u3:Am.ptrEq D.get (some ⟨bb,0,none⟩) (some ⟨bb,0,none⟩)= .ok true:=by
     unfold Am.ptrEq;simp only [hb,cond_true];rfl
    unfold u_ eZ;simp only [pY,cond_true,u1,u2,u3,R.aA];rfl
   apply W.run 20
   ·intro M;simp (disch:=first|decide+kernel|omega) only [Kk,qb1,Aq,X2,aG,a8,Wn,hl0,br,he];rfl
   apply W.run 20
   ·intro M;simp (disch:=first|decide+kernel|omega) only [Kk,qb1,Aq,X2,aG,a8,Wn,hl0,og,he2];rfl
   refine⟨.inl rfl,_,[],rfl,?_,rfl,⟨_,x,hv,.inr rfl,hs,hbb,hn⟩,rfl,fun _ _=>rfl⟩;simp only [qb1,fj]
 exact⟨D',hg,h1⟩
theorem V' (a:Int):bc ai 48 1 [(0,.int .u8 a)]= .ok (aa 5 [.int .u8 a],.m_ 1 2):=by kernel_rfl
structure BU (bb b:Nat) (A:Mem) (b':Nat) (A':Mem):Prop where
 n:A.next≤A'.next
 r:A.next≤b'
 g:∀y,y<A.next→y≠bb→y≠b→A'.get y=A.get y
variable {b':Nat} {C:Mem}
theorem BU.trans {b'':Nat} (h:BU bb b A b' B) (k:BU bb b' B b'' C):BU bb b A b'' C:=⟨YC h.n k.n,by have:=h.n;have:=k.r;omega,fun y hy h1 h2=>by rw [k.g y (by have:=h.n;omega) h1 (by have:=h.r;omega),h.g y hy h1 h2]⟩
theorem LL (c:UInt8):eh [c]=[.int .u8 (c.toNat:Nat)]:=rfl
variable {x':Value}
theorem M_ {D1 D2:Mem} {pa x:Value} (hv:dD D1 225 bb (.var 2) [pa,x]) (hpa:pa= .pointer none∨pa=pw bb 0) (hb:bb<D1.next∧D1.next≤b') (h0:b≠bb)
 (hs:rG D2 5 b' (eh bs) x') (hn2:D1.next≤D2.next) (hg:∀y,y<D1.next→y≠b→D2.get y=D1.get y):∃D3,aW ai D2 48 (pw bb 1) x'= .ok D3∧Bd bb b' bs D3∧BU bb b D1 b' D3:=by
 obtain⟨D3,hst,hv3,hn3,hg3⟩:=a_ (tb:=ai) (t:=48) (o:=1) (v:=x') VL (hv.same (hg bb hb.1 (Ne.symm h0))) (by simp) hs.m_.cells hs.m_.one;exact⟨D3,hst,⟨pa,x',hv3,hpa,hs.same (by rw [hn3];exact X9 _) (fun _=>hg3 b' (by omega)),by omega,by omega⟩,⟨by omega,hb.2,fun y hy h1 h2=>by rw [hg3 y h1,hg y hy h2]⟩⟩
noncomputable def zy:Code:=qbY.body.getD .skip
theorem Ro:qbY.body=some (.seq (sub zy [0]) (.seq (sub zy [1,0]) (.seq (sub zy [1,1,0]) (.seq (sub zy [1,1,1,0]) (sub zy [1,1,1,1]))))):=by kernel_rfl
theorem AN {D:Mem} {c:UInt8} (h:Bd bb b bs D) (hl:bs.length<16000000):∃D' b',bL ai 221 [pw bb 0,.int .u8 (c.toNat:Nat)] D .nilIface D'∧Bd bb b' (bs++[c]) D'∧BU bb b D b' D':=by
 obtain⟨D1,⟨g,hg⟩,⟨pa,x,hv,hpa,hs,hbb,hn⟩,hn1,hg1⟩:=yG h;have hld:aq ai D1.get 48 (pw bb 1)= .ok x:=bf GQ rfl hv rfl;obtain⟨ti,ht1,ht2⟩:=VA;have hn2:(D1.alloc (aa 5 [.int .u8 (c.toNat:Nat)])).next=D1.next+1:=ae _ _
 have hs2:rG (D1.alloc (aa 5 [.int .u8 (c.toNat:Nat)])) 5 b (eh bs) x:=hs.same (by omega) (fun hb=>aH (by omega));obtain⟨x',D3,happ,hs3,hn3,hf3⟩:=hs2.oZ (tb:=ai) (st:=48) (xt:=48) (m:=1) (nl:=[.int .u8 (c.toNat:Nat)]) (y:=.slice (some ⟨D1.next,0,none⟩) 1 2) GQ GQ rfl Vt ht1 (by omega) (by omega) (by rw [eu];omega) (by omega) rfl
  (ke (l:=[.int .u8 (c.toNat:Nat)]) (ee (e:=5) (k:=.var 1) (aD D1 _))) rfl (fun v hv=>by
  rw [Y7.1 hv];rfl)
 have hs4:rG D3 5 (D1.alloc (aa 5 [.int .u8 (c.toNat:Nat)])).next (eh (bs++[c])) x':=by rw [DO,LL];exact hs3
 obtain⟨D4,hst,hB,hK⟩:=M_ hv hpa ⟨hn,by omega⟩ hbb hs4 (by omega) (fun y hy hb=>by rw [hf3 y hb (by omega),aH (by omega)]);obtain⟨v,D',ha,rfl,rfl⟩:∃v D',bL ai 221 [pw bb 0,.int .u8 (c.toNat:Nat)] D v D'∧v= .nilIface∧D'=D4:=by
  refine eE (aB Tryz.func221) Ro (by rw [Tryz.ntmps221];simp) (by kernel_rfl) (by kernel_rfl) ?_;apply W.seq;apply W.run 20
  ·intro M;simp (disch:=first|decide+kernel|omega) only [zy,qbY,Aq,X2,eP];rfl
  apply W.seq;apply W.a6 (g) 20
  ·intro M hM;simp (disch:=first|decide+kernel|omega) only [zy,qbY,Aq,X2,hg];rfl
  apply W.seq;apply W.run 20
  ·intro M;simp (disch:=first|decide+kernel|omega) only [zy,qbY,Aq,X2,aG,a8,WH,hld,V',happ,hst];rfl
  apply W.seq;apply W.run 20
  ·intro M;simp (disch:=first|decide+kernel|omega) only [zy,qbY,Aq,X2,eP];rfl
  apply W.run 20
  ·intro M;simp (disch:=first|decide+kernel|omega) only [zy,qbY,Aq,X2,eP];rfl
  refine⟨.inr rfl,_,[.nilIface],rfl,?_,rfl,rfl⟩;simp only [qbY,fj,fR,T.af,X2,if_true,if_false,dA,R.aA]
 exact⟨_,_,ha,hB,⟨by rw [←hn1];exact hK.n,by rw [←hn1];exact hK.r,fun y hy hb h2=>by rw [hK.g y (by omega) hb h2,hg1 y hb]⟩⟩
noncomputable def zA:Code:=qb2.body.getD .skip
theorem Pq:qb2.body=some (.seq (sub zA [0]) (.seq (sub zA [1,0]) (.seq (sub zA [1,1,0]) (.seq (sub zA [1,1,1,0]) (sub zA [1,1,1,1]))))):=by kernel_rfl
theorem Uc {l:List UInt8}:gX A.get 1 l.length (strOf l)= .ok (eh l):=by
 show R.ok (qb9 dq (l.take l.length))=_;rw [Yw];rfl
theorem VZ (l:List UInt8):jC (strOf l)= .ok l.length:=rfl
theorem Pc {D:Mem} {cs:List UInt8} (h:Bd bb b bs D) (h0:0<cs.length) (hl:bs.length+cs.length<16000000):∃v D' b',bL ai 141 [pw bb 0,strOf cs] D v D'∧Bd bb b' (bs++cs) D'∧BU bb b D b' D':=by
 obtain⟨D1,⟨g,hg⟩,⟨pa,x,hv,hpa,hs,hbb,hn⟩,hn1,hg1⟩:=yG h;have hld:aq ai D1.get 48 (pw bb 1)= .ok x:=bf GQ rfl hv rfl;have ll:=cd (tb:=ai) (t:=9) (l:=cs) u9;obtain⟨ti,ht1,ht2⟩:=VA;obtain⟨x',D3,happ,hs3,hn3,hf3⟩:=hs.oZ (tb:=ai) (st:=48) (xt:=9) (xd:=.string) (m:=cs.length) (nl:=eh cs) (y:=strOf cs) GQ u9 rfl Vt ht1 (by omega) (by omega) (by rw [eu];omega) h0 (VZ cs) Uc (eu cs) (fun v hv=>by
  unfold eh at hv;obtain⟨c,-,rfl⟩:=YN.1 hv;rfl)
 have hs4:rG D3 5 D1.next (eh (bs++cs)) x':=by rw [DO];exact hs3
 obtain⟨D4,hst,hB,hK⟩:=M_ hv hpa ⟨hn,X9 _⟩ hbb hs4 (by omega) (fun y hy hb=>hf3 y hb (by omega));obtain⟨v,D',ha,rfl⟩:∃v D',bL ai 141 [pw bb 0,strOf cs] D v D'∧D'=D4:=by
  refine eE (aB Tryz.func141) Pq (by rw [Tryz.ntmps141];simp) (by kernel_rfl) (by kernel_rfl) ?_;apply W.seq;apply W.run 20
  ·intro M;simp (disch:=first|decide+kernel|omega) only [zA,qb2,Aq,X2,eP];rfl
  apply W.seq;apply W.a6 (g) 20
  ·intro M hM;simp (disch:=first|decide+kernel|omega) only [zA,qb2,Aq,X2,hg];rfl
  apply W.seq;apply W.run 20
  ·intro M;simp (disch:=first|decide+kernel|omega) only [zA,qb2,Aq,X2,aG,a8,WH,hld,happ,hst];rfl
  apply W.seq;apply W.run 20
  ·intro M;simp (disch:=first|decide+kernel|omega) only [zA,qb2,Aq,X2,eP,ll];rfl
  apply W.run 20
  ·intro M;simp (disch:=first|decide+kernel|omega) only [zA,qb2,Aq,X2];rfl
  refine⟨.inr rfl,_,[.int .i64 (cs.length:Nat),.nilIface],rfl,?_,rfl⟩;simp only [qb2,fj,fR,T.af,X2,if_true,if_false,dA,R.aA]
 exact⟨_,_,_,ha,hB,⟨by rw [←hn1];exact hK.n,by rw [←hn1];exact hK.r,fun y hy hb h2=>by rw [hK.g y (by omega) hb h2,hg1 y hb]⟩⟩
noncomputable def KB:Code:=qcj.body.getD .skip
theorem Q3:qcj.body=some (.seq (sub KB [0]) (.seq (sub KB [1,0]) (sub KB [1,1]))):=by kernel_rfl
section
variable {ih:Code→St→R (Ex×St)} {dst:Option Tmp} {ty:TypeId} {pos:String} {after:Array Edge} {g:Option (Nat×Bool)} {s:St} {k:St→R (Ex×St)}
theorem XR (x:Operand):dI ai ih {dst,op:=.call {callee:=.builtin .unsafeSliceData,args:= #[x],argTypes:= #[48]},type:=ty,pos,after,guard:=g} s k=(ev s.t x).bind fun v=>(aO ai .unsafeSliceData [48] [v]).bind fun v=>bP s dst v k:=by
 have hc:cls ai (.call {callee:=.builtin .unsafeSliceData,args:= #[x],argTypes:= #[48]})= .P:=by kernel_rfl
 unfold dI;simp only [ie,hc,th,oV,R.ba,R.aA]
theorem X0 (x y:Operand):dI ai ih {dst,op:=.call {callee:=.builtin .unsafeString,args:= #[x,y],argTypes:= #[280,3]},type:=ty,pos,after,guard:=g} s k=(ev s.t x).bind fun v=>(ev s.t y).bind fun n=>(xK ai s.m 280 v n).bind fun r=>bP {s with m:=r.2} dst r.1 k:=by
 have hc:cls ai (.call {callee:=.builtin .unsafeString,args:= #[x,y],argTypes:= #[280,3]})= .L:=by kernel_rfl
 unfold dI;simp only [ie,hc,Ge,oV,R.ba,R.aA,gz]
end
theorem Bn (l:List UInt8):bytesOf (eh l)= .ok l:=iJ l
theorem Mp {D:Mem} (h:dD D 5 b .row (eh bs)) (h0:0<bs.length) (hl:bs.length<16000000):∃D',xK ai D 280 (pw b 0) (.int .i64 (bs.length:Nat))= .ok (strOf bs,D')∧D'.next=D.next∧∀y,y≠b→D'.get y=D.get y:=by
 obtain⟨c,h1,h2⟩:=h;have u1:ai.bp 280=some (.pointer 5):=by kernel_rfl
 have u2:aY ai 5= .ok 1:=by kernel_rfl
 have hn:lP (.int .i64 (bs.length:Nat))= .ok bs.length:=rfl;have hg:c.ji bs.length 0=some (eh bs):=gL c bs.length 0 (eh bs) (eu bs) (fun j hj=>by rw [Yy];exact h2 j (by rw [eu];exact hj));have hb:(Yc 5 5&&Yc 1 1&&Ye 0 bs.length&&X5 bs.length 16777216&&(Ye 0 9223372036854775808&&Ye (0+bs.length) 9223372036854775808))=true:=by
  have a1:Ye 0 bs.length=true:=by rw [Yl];exact h0
  have a2:X5 bs.length 16777216=true:=YY (by omega);have a3:Ye (0+bs.length) 9223372036854775808=true:=by rw [Yl];omega
  rw [a1,a2,a3];rfl
 refine⟨D.set b (.cells 5 .row (bif X5 0 (0+bs.length) then 0+bs.length else 0) c),?_,aX _ _ _,fun y hy=>by rw [aL,if_neg hy]⟩;unfold xK;simp only [hn,R.aA,u1,h1,u5,u2,hb,cond_true,hg,Bn]
theorem DJ {D:Mem} (h:Bd bb b bs D) (h0:0<bs.length) (hl:bs.length<16000000):∃D',bL ai 142 [pw bb 0] D (strOf bs) D'∧D'.next=D.next∧∀y,y≠b→D'.get y=D.get y:=by
 obtain⟨pa,x,hv,hpa,hs,hbb,hn⟩:=h;have hld:aq ai D.get 48 (pw bb 1)= .ok x:=bf GQ rfl hv rfl;rcases hs with⟨rfl,hnil⟩|⟨hne,rfl,hlt,hV⟩
 ·have:bs.length=0:=by rw [←eu,hnil];rfl
  omega
 obtain⟨D1,hu,hn1,hg1⟩:=Mp hV h0 hl;rw [eu] at hld hv;have hsd:aO ai .unsafeSliceData [48] [.slice (some ⟨b,0,none⟩) bs.length (fe bs.length 1)]= .ok (pw b 0):=by
  have hc:Ye 0 (bN (fe bs.length 1))=true:=by rw [cm (by omega),Yl];exact h0
  unfold aO;simp only [hc,cond_true]
 have hln:aO ai .len [48] [.slice (some ⟨b,0,none⟩) bs.length (fe bs.length 1)]= .ok (.int .i64 (bs.length:Nat)):=dJ GQ;obtain⟨v,D',ha,rfl,rfl⟩:∃v D',bL ai 142 [pw bb 0] D v D'∧v=strOf bs∧D'=D1:=by
  refine eE (aB Tryz.func142) Q3 (by rw [Tryz.ntmps142];simp) (by kernel_rfl) (by kernel_rfl) ?_;apply W.seq;apply W.run 20
  ·intro M;simp (disch:=first|decide+kernel|omega) only [KB,qcj,Aq,X2];rfl
  apply W.seq;apply W.run 20
  ·intro M;simp (disch:=first|decide+kernel|omega) only [KB,qcj,Aq,X2,aG,a8,WH,hld,XR,X0,hsd,hln,hu];rfl
  apply W.run 20
  ·intro M;simp (disch:=first|decide+kernel|omega) only [KB,qcj,Aq,X2];rfl
  refine⟨.inr rfl,_,[strOf bs],rfl,?_,rfl,rfl⟩;simp only [qcj,fj,fR,T.af,X2,if_true,if_false,dA,R.aA]
 exact⟨_,ha,hn1,hg1⟩
theorem QE:b7 ai 172= .ok (.agg ⟨[.int .u8 (0:Nat),.int .u64 (0:Nat),.int .i64 (0:Nat)]⟩):=by kernel_rfl
theorem EY (t:T Value) (g:Nat→Option Ob) (a b:TypeId) (x:Operand):nf ai t g (.convert a b x)=(ev t x).bind fun x=>cY ai g a b x:=rfl
theorem Fb (g:Nat→Option Ob) (j:Nat) (t:T Value) (a b:TypeId) (x:Tmp) (v:Value):dY ai g ⟨j,t,.convert a b (.tmp x),v⟩=Cq ((ev t (.tmp x)).bind fun x=>cY ai g a b x) v:=rfl
theorem LC {c:Int}:bc ai 48 1 [(0,.int .u8 c)]= .ok (aa 5 [.int .u8 c],.m_ 1 2):=by kernel_rfl
variable {dst:Option Tmp}
theorem WD {ih:Code→St→R (Ex×St)} {ty:TypeId} {pos:String} {after:Array Edge} {g:Option (Nat×Bool)} {s:St} {k:St→R (Ex×St)} (x:Operand):dI ai ih {dst,op:=.convert 48 9 x,type:=ty,pos,after,guard:=g} s k=(ev s.t x).bind fun x=>(cY ai s.m.get 48 9 x).bind fun v=>bP s dst v k:=by
 rw [mC (hc:=by kernel_rfl) (hi:=rfl)];simp only [nf,R.ba]
theorem Ps {D:Mem} {c:UInt8}:cY ai (D.alloc (aa 5 [.int .u8 (c.toNat:Nat)])).get 48 9 (.slice (some ⟨D.next,0,none⟩) 1 2)= .ok (strOf [c]):=by
 have h:=Bx (BE (D:=D) c.toNat_lt);rw [UInt8.ofNat_toNat] at h;exact h
theorem We (t:T Value):ev t (.const (.string ⟨#[67,83,1]⟩))= .ok (strOf [67,83,1]):=rfl
theorem cat {a b:List UInt8} (h:(a++b).length<1000000):de .add a b= .ok (strOf (a++b)):=sa (by rw [X'] at h;omega)
variable {M:List bj}
theorem zS {s:bj} (h:M[i]?=some s):ig 0 (M.take (i+1))=ig 0 (M.take i)++FH i s:=by
 obtain⟨hi,rfl⟩:=X_.1 h;rw [Yd hi,A4,Yo,Yy,Y4 (by omega)]
theorem EG:∀(M:List bj) (j i:Nat),(ig j (M.take i)).length≤(ig j M).length
 | [],j,i=>by rw [List.take_nil];exact X9 _
 |s::M,j,0=>by simp [ig]
 |s::M,j,i+1=>by
  rw [Z',ig,ig,X',X'];have:=EG M (j+1) i;omega
theorem DH {i:Nat}:∀(l:List cO) (j:Nat),((l.take j).flatMap (im i)).length≤(l.flatMap (im i)).length
 | [],j=>by rw [List.take_nil];exact X9 _
 |a::l,0=>by simp
 |a::l,j+1=>by
  rw [Z',Y0,Y0,X',X'];have:=DH (i:=i) l j;omega
theorem JO {l:List cO} {a:cO} (h:l[j]?=some a):(l.take (j+1)).flatMap (im i)=(l.take j).flatMap (im i)++im i a:=by
 obtain⟨hj,rfl⟩:=X_.1 h;rw [Yd hj,ZQ];simp
noncomputable def zk:Code:=Z1.body.getD .skip
noncomputable def h_:Code:=sub zk [1,1,1,0,1,0,0]
noncomputable def IB:Code:=sub h_ [1,0,0,1,1,1,0,0]
theorem TE:Z1.body=some (.seq (sub zk [0]) (.seq (sub zk [1,0]) (.seq (sub zk [1,1,0]) (.seq (.seq (sub zk [1,1,1,0,0]) (.block 0 (.loop h_))) (.seq (sub zk [1,1,1,1,0]) (sub zk [1,1,1,1,1])))))):=by kernel_rfl
theorem Ds:h_=(.seq (sub h_ [0]) (.seq (.block 1 (.seq (sub h_ [1,0,0,0]) (.seq (sub h_ [1,0,0,1,0]) (.seq (sub h_ [1,0,0,1,1,0]) (.block 2 (.loop IB)))))) (sub h_ [1,1]))):=by kernel_rfl
variable {q:Nat} {t:T Value}
theorem SK {D:Mem} {x:Value} {s:bj} {w:List UInt8} {fp:Value} (hx:j' D s.arcs x) (hs:VB D 164 q (.var 3) (cW x s)) (hj:j<s.arcs.length) (hl:s.arcs.length≤256) (hi:i<1000000) (ha:∀a∈s.arcs,a.to<i∧a.out<18446744073709551616) (hw:(w++s.arcs.flatMap (im i)).length<900000)
 (hsl:Sl t [(3,fp),(6,strOf (w++(s.arcs.take j).flatMap (im i))),(7,.int .i64 i),(8,pw q 0),(9,.int .i64 j)]):
 W ai IB ⟨t,95,[],D,none⟩ fun e s'=>e= .nrm∧∃t' D',s'=⟨t',95,[],D',none⟩∧Kp D D'∧Sl t' [(3,fp),(6,strOf (w++(s.arcs.take (j+1)).flatMap (im i))),(7,.int .i64 i),(8,pw q 0),(9,.int .i64 (j+1:Nat))]:=by
 obtain⟨g3,g6,g7,g8,g9,-⟩:=hsl;have he:s.arcs[j]?=some s.arcs[j]:=X6 hj;obtain⟨ht,ho⟩:=ha _ (YQ hj);obtain⟨p,j1,j2⟩:=hx.at he;have l0:aq ai D.get 162 (pw q 0)= .ok x:=hs.ld rfl j8 rfl;have lx:=hx.len;have hf:=DH (i:=i) s.arcs (j+1);rw [JO he] at hf⊢;rw [X'] at hf hw;generalize s.arcs[j]=a at*;generalize (s.arcs.take j).flatMap (im i)=z at*;have b1:=eM a.out ho;have b2:=eM (i-a.to) (by omega);have eb:(im i a).length=1+(bH a.out).length+(bH (i-a.to)).length:=by unfold im;rw [Yf,X'];omega
 have sE:aW ai (D.alloc (aa 172 [.int .u8 (0:Nat),.int .u64 (0:Nat),.int .i64 (0:Nat)])) 172 (pw D.next 0) (.agg ⟨cc a⟩)= .ok (D.alloc (aa 172 (cc a))):=bn KY rfl rfl (by simp) (Jg a);have kE:=Kp.alloc D (aa 172 (cc a));have vE:=aF D 172 (cc a);generalize D.alloc (aa 172 (cc a))=E at sE kE vE;have a0:∀F,Kp E F→aq ai F.get 5 (pw D.next 0)= .ok (.int .u8 (a.byte.toNat:Nat)):=fun F h=>(vE.kp h).ld rfl u5 rfl
 have a1:∀F,Kp E F→aq ai F.get 103 (pw D.next (0+1))= .ok (.int .u64 a.out):=fun F h=>(vE.kp h).ld rfl ff rfl
 have a2:∀F,Kp E F→aq ai F.get 3 (pw D.next (0+2))= .ok (.int .i64 a.to):=fun F h=>(vE.kp h).ld rfl u3 rfl
 have kF:=Kp.alloc E (aa 5 [.int .u8 (a.byte.toNat:Nat)]);have c1:=Ps (D:=E) (c:=a.byte);have gE:=aD E (aa 5 [.int .u8 (a.byte.toNat:Nat)]);generalize hF:E.alloc (aa 5 [.int .u8 (a.byte.toNat:Nat)])=F at kF c1 gE;have hd:∀A:Mem,eS (qb9 (fun x:Nat×Nat=>x.2) [(3,E.next)]) A=A.set E.next .dead:=fun _=>rfl
 have put:∀G:Mem,G.get=F.get→G.next=F.next→∃G',gF F.get (qb9 (fun x:Nat×Nat=>x.2) [(3,E.next)]) (G.set E.next .dead)= .ok G'∧G'.get=F.get∧G'.next=F.next:=fun G hG hn=>by
  refine⟨(G.set E.next .dead).set E.next (aa 5 [.int .u8 (a.byte.toNat:Nat)]),?_,funext fun z=>?_,?_⟩
  ·show(match F.get E.next with|some o=>gF F.get [] ((G.set E.next .dead).set E.next o)|none=>.no 313)=_;rw [gE];rfl
  ·rw [aL];split
   ·rename_i h;rw [h,gE]
   ·rename_i h;rw [aL,if_neg h,hG]
  ·rw [aX,aX,hn]
 obtain⟨F2,bk1,e2,n2⟩:=put F rfl rfl;obtain⟨F3,bk2,e3,n3⟩:=put F2 e2 n2;have x0:=a0 E (Kp.refl _);have x3:=a0 F kF;have x1:=a1 F kF;have x2:=a2 F kF;have y1:=a1 E (Kp.refl _);have y2:=a2 E (Kp.refl _);have k1:=fun ih (A:Mem)=>Dh (ih:=ih) (A:=A) ho
 have k2:=fun ih (A:Mem)=>Dh (ih:=ih) (A:=A) (show i-a.to<18446744073709551616 by omega)
 have su:aN .sub .i64 ((i:Nat):Int) ((a.to:Nat):Int)= .ok (.int .i64 (i-a.to:Nat)):=bq (by omega) (aR (by omega));have cv:=bu (tb:=ai) (s:=3) (d:=103) (k:=.i64) (n:=i-a.to) (by rw [u3];rfl) ff (cL (by omega));have s1:de .add (w++z) [a.byte]= .ok (strOf (w++z++[a.byte])):=cat (by simp;omega);have s2:de .add (w++z++[a.byte]) (bH a.out)= .ok (strOf (w++z++[a.byte]++bH a.out)):=cat (by simp;omega);have s3:de .add (w++z++[a.byte]++bH a.out) (bH (i-a.to))= .ok (strOf (w++(z++im i a))):=by
  rw [cat (by simp;omega)];simp [im]
 have z1:∀n:Int,∀k,cD 100 (.int k n) (.int k n)=true:=fun n k=>by
  have h1:mL n n=true:=by rw [sw];simp
  have h2:dS k k=true:=by cases k<;>rfl
  simp [cD,h1,h2]
 apply W.run 20
 ·intro M;simp (config:={maxSteps:=4000000}) (disch:=first|decide+kernel|omega|simp only [Wq,X2]) only [IB,h_,zk,Z1,Aq,X5,reduceIte,X2,X3,g3,g6,g7,g8,g9,cZ,l0,lx,hj,j1,j2,QE,au,sE,kx,qZ,jB,x0,x1,x2,y1,y2,LC,hF,WD,EY,Fb,hd,bk1,bk2,e2,e3,z1,x3,c1,k1,k2,su,cv,s1,s2,s3,Fq,aC [(2,8),(3,8),(4,8),(12,8),(2,15),(3,15),(4,15)]];rfl
 refine⟨rfl,_,F3,rfl,⟨by rw [n3];exact(kE.trans kF).1,fun z hz=>by rw [e3];exact(kE.trans kF).2 z hz⟩,?_⟩;simp only [av,aw,T.af,T.ag,T.ak,X2,X3,if_true,if_false,and_true,true_and,g3,g7,g8]
theorem QH (h:eX A M y) (hM:M≠ []) (hn:n≤100000) (hl:M.length<1000000) (hL:Lay M) (hk:k<18446744073709551616) (hb:(iS n M k).length<900000):
 ∃v A',bL ai 58 [.int .i64 n,.agg ⟨[y,.int .u64 k]⟩] A v A'∧Kp A A'∧v= .tuple ⟨[strOf (crc.aK (iS n M k)),.int .i64 (0:Nat)]⟩:=by
 refine cS (aB Tryz.func58) TE (by rw [Tryz.ntmps58];simp) (by kernel_rfl) (by kernel_rfl) ?_;have kB:=Kp.alloc A (aa 105 [y,.int .u64 k]);have vB:=aF A 105 [y,.int .u64 k];have hy:=h.self;apply W.seq;apply W.run 20
 ·intro M;simp (disch:=first|decide+kernel|omega) only [zk,Z1,Aq,X2,au];rfl
 show W ai _ _ _;have hB:=h.kp kB;generalize A.alloc (aa 105 [y,.int .u64 k])=B at kB vB hB;obtain⟨d,hd1,hd2⟩:=bA (t:=105) (p:=true) (by kernel_rfl);have lB:aq ai B.get 105 (.pointer (some ⟨A.next,0,none⟩))= .ok (.agg ⟨[y,.int .u64 k]⟩):=aQ hd1 hd2 eD vB.2;obtain⟨v,C,⟨g1,h1⟩,rfl,kC⟩:=Nd (n:=n) (k:=k) hB hM hn hl hL;have hC:=hB.kp kC;have ly:∀D,Kp C D→aq ai D.get 102 (.pointer (some ⟨A.next,0,none⟩))= .ok y:=fun D hD=>((vB.kp kC).kp hD).ld rfl fX rfl
 have lk:∀D,Kp C D→aq ai D.get 103 (.pointer (some ⟨A.next,0+1,none⟩))= .ok (.int .u64 k):=fun D hD=>((vB.kp kC).kp hD).ld rfl ff rfl
 have lC:=ly C (Kp.refl _);have lenC:=hC.len;have b1:=eM n (by omega);have b2:=eM M.length (by omega);have b3:=eM k hk;have hbl:3+(bH n).length+(bH M.length).length+(ig 0 M).length+(bH k).length<900000:=by
  unfold iS at hb;simp only [X',Yf,Ys] at hb;omega
 have k1:=fun ih=>Dh (ih:=ih) (A:=C) (show n<18446744073709551616 by omega)
 have k2:=fun ih=>Dh (ih:=ih) (A:=C) (show M.length<18446744073709551616 by omega)
 have cv1:=bu (tb:=ai) (s:=3) (d:=103) (k:=.i64) (n:=n) (by rw [u3];rfl) ff (cL (by omega));have cv2:=bu (tb:=ai) (s:=3) (d:=103) (k:=.i64) (n:=M.length) (by rw [u3];rfl) ff (cL (by omega));have s1:de .add [67,83,1] (bH n)= .ok (strOf ([67,83,1]++bH n)):=cat (by simp;omega);have s2:de .add ([67,83,1]++bH n) (bH M.length)= .ok (strOf ([67,83,1]++bH n++bH M.length)):=cat (by simp;omega);generalize hH: [67,83,1]++bH n++bH M.length=H at s2;simp only [YT,Y6] at s1 s2;have sy:cD 100 y y=true:=by
  obtain⟨b,rows,e,-⟩:=hC;rcases e with⟨rfl,-⟩|⟨_,_,rfl,-⟩
  ·rfl
  ·exact pc _ _ _ _
 apply W.seq;apply W.a6 (g1) 20
 ·intro M hM;simp (disch:=first|decide+kernel|omega) only [zk,Z1,Aq,X2,lB,h1];rfl
 apply W.seq;apply W.run 20
 ·intro M;simp (config:={maxSteps:=4000000}) (disch:=first|decide+kernel|omega|simp only [Wq,X2]) only [zk,Z1,Aq,X5,reduceIte,X2,X3,We,k1,k2,cv1,cv2,dc,lC,sy,lenC,s1,s2,Fq,aC [(5,2)]];rfl
 show W ai _ _ _;have hHl:H.length=3+(bH n).length+(bH M.length).length:=by rw [←hH];simp;omega
 apply W.seq;apply W.seq;apply W.run 20
 ·intro M;simp (disch:=first|decide+kernel|omega) only [zk,Z1,Aq,X2];rfl
 apply W.block;refine W.up M.length (fun i t D=>Kp C D∧Sl t [(3,.pointer (some ⟨A.next,0,none⟩)),(6,strOf (H++ig 0 (M.take i))),(7,.int .i64 i)]) ?_ (Yg _) ⟨Kp.refl _,?_⟩
 ·rintro i t D hi ⟨kD,g3,g6,g7,-⟩;have lD:=ly D kD;have hD:=hC.kp kD;have lenD:=hD.len;have hpre:=EG M 0 (i+1);by_cases hlt:i<M.length
  ·have hMi:M[i]?=some M[i]:=X6 hlt;obtain⟨l1,l2,l3,l4⟩:=hL i _ hMi;obtain⟨x,p,j1,j2,hx,-⟩:=hD.at hMi;rw [zS hMi] at hpre;have htk:=zS hMi;generalize M[i]=s at*;generalize hW:H++ig 0 (M.take i)=w at*;have hwl:w.length+(FH i s).length≤3+(bH n).length+(bH M.length).length+(ig 0 M).length:=by
    rw [←hW,X'];rw [X'] at hpre;omega
   have hstl:(FH i s).length=(nd s).length+(s.arcs.flatMap (im i)).length:=by unfold FH;rw [X']
   have sE:=Dk hx;have kE:=Kp.alloc D (aa 164 (cW x s));have vE:=aF D 164 (cW x s);generalize D.alloc (aa 164 (cW x s))=E at sE kE vE;have a0:aq ai E.get 162 (.pointer (some ⟨D.next,0,none⟩))= .ok x:=vE.ld rfl j8 rfl;have a1:aq ai E.get 4 (.pointer (some ⟨D.next,0+1,none⟩))= .ok (.bool s.fin):=vE.ld rfl u4 rfl;have a2:aq ai E.get 103 (.pointer (some ⟨D.next,0+2,none⟩))= .ok (.int .u64 s.out):=vE.ld rfl ff rfl;have hxE:=hx.kp kE;have lx:=hxE.len;have m1:aN .mul .i64 ((2:Nat):Int) ((s.arcs.length:Nat):Int)= .ok (.int .i64 (2*s.arcs.length:Nat)):=gq (aR (by omega));have m2:aN .add .i64 ((2*s.arcs.length:Nat):Int) ((1:Nat):Int)= .ok (.int .i64 (2*s.arcs.length+1:Nat)):=a9 (aR (by omega));have e1:=fun ih=>Dh (ih:=ih) (A:=E) (show 2*s.arcs.length<18446744073709551616 by omega)
   have e2:=fun ih=>Dh (ih:=ih) (A:=E) (show 2*s.arcs.length+1<18446744073709551616 by omega)
   have e3:=fun ih=>Dh (ih:=ih) (A:=E) l3
   have c1:=bu (tb:=ai) (s:=3) (d:=103) (k:=.i64) (n:=2*s.arcs.length) (by rw [u3];rfl) ff (cL (by omega));have c2:=bu (tb:=ai) (s:=3) (d:=103) (k:=.i64) (n:=2*s.arcs.length+1) (by rw [u3];rfl) ff (cL (by omega));rw [Ds];apply W.seq;apply W.run 20
   ·intro M;simp (disch:=first|decide+kernel|omega) only [h_,zk,Z1,Aq,X2,g3,g7,dc,lD,lenD,hlt];rfl
   apply W.seq;apply W.block;apply W.seq;apply W.run 20
   ·intro M;simp (disch:=first|decide+kernel|omega) only [h_,zk,Z1,Aq,X2,g3,g7,dc,lD,j1,j2,jr,au,sE];rfl
   apply W.seq;refine W.to (n:=95) (fun t D'=>D'=E∧Sl t [(3,.pointer (some ⟨A.next,0,none⟩)),(6,strOf (w++nd s)),(7,.int .i64 i),(8,.pointer (some ⟨D.next,0,none⟩))]) ?_ ?_
   ·cases hf:s.fin with
    |true=>
     rw [hf] at a1;have hh:nd s=bH (2*s.arcs.length+1)++bH s.out:=by unfold nd;rw [hf];rfl
     rw [hh] at hstl⊢;rw [X'] at hstl;have t1:de .add w (bH (2*s.arcs.length+1))= .ok (strOf (w++bH (2*s.arcs.length+1))):=cat (by simp;omega);have t2:de .add (w++bH (2*s.arcs.length+1)) (bH s.out)= .ok (strOf (w++(bH (2*s.arcs.length+1)++bH s.out))):=by rw [cat (by simp;omega),Y1]
     have so:=eg .u64 s.out rfl;apply W.run 20
     ·intro M;simp (config:={maxSteps:=4000000}) (disch:=first|decide+kernel|omega|simp only [Wq,X2]) only [h_,zk,Z1,Aq,X5,reduceIte,X2,X3,so,g6,cZ,cR,iW,a0,a1,a2,lx,m1,m2,c2,e2,e3,t1,t2,Fq,aC [(10,7)]];rfl
     refine⟨rfl,_,_,rfl,rfl,?_⟩;simp only [av,aw,T.af,T.ag,T.ak,X2,X3,if_true,if_false,and_true,true_and,g3,g7]
    |false=>
     rw [hf] at a1;have hh:nd s=bH (2*s.arcs.length):=by unfold nd;rw [hf];rfl
     rw [hh] at hstl⊢;have t1:de .add w (bH (2*s.arcs.length))= .ok (strOf (w++bH (2*s.arcs.length))):=cat (by simp;omega);apply W.run 20
     ·intro M;simp (config:={maxSteps:=4000000}) (disch:=first|decide+kernel|omega|simp only [Wq,X2]) only [h_,zk,Z1,Aq,X5,reduceIte,X2,X3,g6,cZ,cR,a0,a1,lx,m1,c1,e1,t1,Fq,aC []];rfl
     refine⟨rfl,_,_,rfl,rfl,?_⟩;simp only [av,aw,T.af,T.ag,T.ak,X2,X3,if_true,if_false,and_true,true_and,g3,g7]
   ·rintro t D' ⟨rfl,g3,g6,g7,g8,-⟩;apply W.seq;apply W.run 20
    ·intro M;simp (disch:=first|decide+kernel|omega) only [h_,zk,Z1,Aq,X2];rfl
    apply W.block;refine W.up s.arcs.length (fun j t D2=>Kp D' D2∧Sl t [(3,.pointer (some ⟨A.next,0,none⟩)),(6,strOf (w++nd s++(s.arcs.take j).flatMap (im i))),(7,.int .i64 i),(8,.pointer (some ⟨D.next,0,none⟩)),(9,.int .i64 j)]) ?_ (Yg _) ⟨Kp.refl _,?_⟩
    ·rintro j t D' hj ⟨kF,hs0⟩;by_cases hlt2:j<s.arcs.length
     ·refine(SK (hxE.kp kF) (vE.kp kF) hlt2 l1 (by omega) l4 (by simp only [X'];omega) hs0).mono ?_;rintro e s' ⟨rfl,t',D2,rfl,kG,hs'⟩;exact⟨hlt2,t',D2,rfl,kF.trans kG,hs'⟩
     ·have e:j=s.arcs.length:=by omega
      subst e;obtain⟨g3,g6,g7,g8,g9,-⟩:=hs0;have a0:aq ai D'.get 162 (.pointer (some ⟨D.next,0,none⟩))= .ok x:=(vE.kp kF).ld rfl j8 rfl;have lx:=(hxE.kp kF).len;rw [Yw,Y1] at g6;apply W.run 20
      ·intro M;simp (disch:=first|decide+kernel|omega) only [IB,h_,zk,Z1,Aq,X2,g8,g9,cZ,a0,lx];rfl
      show W ai (sub h_ [1,1]) _ _;apply W.run 20
      ·intro M;simp (disch:=first|decide+kernel|omega) only [h_,zk,Z1,Aq,X2,g7];rfl
      refine⟨hlt,_,_,rfl,kD.trans (kE.trans kF),?_⟩;simp only [av,aw,T.af,T.ag,T.ak,X2,X3,if_true,if_false,and_true,true_and,g3,g6];rw [htk,←Y1 H,hW];rfl
    ·simp only [av,aw,T.af,T.ag,T.ak,X2,X3,if_true,if_false,and_true,true_and,g3,g6,g7,g8];simp
  ·have e:i=M.length:=by omega
   subst e;rw [Yw] at g6;have lk1:=lk D kD;have k3:=fun ih=>Dh (ih:=ih) (A:=D) hk
   have hp:H++ig 0 M++bH k=iS n M k:=by rw [←hH];simp [iS]
   have t1:de .add (H++ig 0 M) (bH k)= .ok (strOf (iS n M k)):=by rw [cat (by simp;omega),hp]
   have ks:=fun ih=>R9 (ih:=ih) (A:=D) hb
   rw [Ds];apply W.seq;apply W.run 20
   ·intro M;simp (disch:=first|decide+kernel|omega) only [h_,zk,Z1,Aq,X2,g3,g7,dc,lD,lenD];rfl
   apply W.seq;apply W.run 20
   ·intro M;simp (disch:=first|decide+kernel|omega) only [zk,Z1,Aq,X2,g3,g6,G6,lk1,k3,t1,ks];rfl
   apply W.run 20
   ·intro M;simp (disch:=first|decide+kernel|omega) only [zk,Z1,Aq,X2];rfl
   exact⟨by simp,rfl,_,(by simp only [Z1,Aq,X2]<;>rfl),kB.trans (kC.trans kD),rfl⟩
 ·simp only [av,aw,T.af,T.ag,T.ak,X2,X3,if_true,if_false,and_true,true_and];simp [ig]
def ez (l:List aP):List UInt8:=iS l.length (dF l) (least l)
theorem JH {l:List aP} {x:Value} (h:fm A l x) (h0:l≠ []) (ha:rj l) (hw:∀e∈l,1≤e.word.length∧e.word.length≤255∧e.weight<4294967296) (hl:l.length≤100000) (hn:(dF l).length<1000000) (hM:dF l≠ []) (hL:Lay (dF l)) (hk:least l<18446744073709551616) (hb:(ez l).length<900000):
 ∃v A',bL ai 22 [x] A v A'∧Kp A A'∧v= .tuple ⟨[strOf (crc.aK (ez l)),.int .i64 (0:Nat)]⟩:=by
 have hlen:=h.len;have hl0:¬l.length=0:=fun e=>h0 (Yh.1 e)
 have hl1:¬100000<l.length:=by omega
 obtain⟨v,B,⟨g1,h1⟩,kB,y,rfl,hS⟩:=run_build h h0 ha hw (by omega) hn;have hy:=hS.self;have cz:=(h.kp kB).len;have sC:aW ai (B.alloc (aa 105 [.slice none 0 0,.int .u64 (0:Nat)])) 105 (pw B.next 0) (.agg ⟨[y,.int .u64 (least l:Nat)]⟩)= .ok (B.alloc (aa 105 [y,.int .u64 (least l:Nat)])):=bn eD rfl rfl (by simp) (by
  intro v hv;simp only [Yp,YH,or_false] at hv;rcases hv with rfl|rfl
  ·exact hy.2
  ·rfl)
 have kC:=Kp.alloc B (aa 105 [y,.int .u64 (least l:Nat)]);have vC:=aF B 105 [y,.int .u64 (least l:Nat)];generalize B.alloc (aa 105 [y,.int .u64 (least l:Nat)])=C at sC kC vC;obtain⟨d,hd1,hd2⟩:=bA (t:=105) (p:=true) (by kernel_rfl);have lC:aq ai C.get 105 (pw B.next 0)= .ok (.agg ⟨[y,.int .u64 (least l:Nat)]⟩):=aQ hd1 hd2 eD vC.2;have lenC:=((h.kp kB).kp kC).len;obtain⟨v,D,⟨g2,h2⟩,kD,rfl⟩:=QH (n:=l.length) (hS.kp kC) hM hl hn hL hk hb;refine⟨_,D,?_,kB.trans (kC.trans kD),rfl⟩;refine aT (aB Tryz.func22) (c:=Tryz.f22.body.getD .skip) (by kernel_rfl) (by rw [Tryz.ntmps22];simp) (by kernel_rfl) (by kernel_rfl) ?_;apply W.a6 (g1+g2) 60
 ·intro M hM;simp (config:={maxSteps:=4000000}) (disch:=first|decide+kernel|omega|simp only [Wq,X2]) only [Tryz.f22,Aq,X5,reduceIte,X2,X3,hlen,hl0,hl1,bR,bw,h1,mP,au,sC,lC,lenC,h2,X8,X7];rfl
 exact⟨by simp,rfl,rfl,by simp only [Tryz.f22,Aq,X5,reduceIte,X2,X3,hlen,hl0,hl1,bR,bw,h1,mP,au,sC,lC,lenC,h2,X8,X7]<;>rfl⟩
theorem Um:b7 ai 67= .ok (.agg ⟨[.string .empty,.int .u32 0,.bool false]⟩):=by kernel_rfl
def Nj (A:Mem) (b:Nat) (l:List aP) (x:Value):Prop:=az A 67 3 b (l.map ct) x
theorem Nj.kp {l:List aP} {x:Value} (h:Nj A b l x) (k:Kp A A'):Nj A' b l x:=az.same h k.1 (k.2 b)
def tM (A:Mem) (ls:List UInt8) (x:Value):Prop:=
 (x= .slice none 0 0∧ls=[])∨(x=D6∧ls=[])∨∃q off cp,x= .slice (some ⟨q,off,none⟩) ls.length cp∧(ls=[]∨(q<A.next∧∃t kd fz c,A.get q=some (.cells t kd fz c)∧∀(i:Nat) (b:UInt8),ls[i]?=some b→c.get (off+i)=some (.int .u8 (b.toNat:Nat))))
theorem Ca:aY ai 5= .ok 1:=by kernel_rfl
theorem tM.kp {ls:List UInt8} {x:Value} (h:tM A ls x) (k:Kp A A'):tM A' ls x:=by
 rcases h with h|h|⟨q,off,cp,h1,h2⟩
 ·exact .inl h
 ·exact .inr (.inl h)
 ·refine .inr (.inr ⟨q,off,cp,h1,?_⟩);rcases h2 with h2|⟨h2,t,kd,fz,c,h3,h4⟩
  ·exact .inl h2
  ·exact .inr ⟨Yt h2 k.1,t,kd,fz,c,by rw [k.2 _ h2];exact h3,h4⟩
theorem tM.len {ls:List UInt8} {x:Value} (h:tM A ls x):aO ai .len [48] [x]= .ok (.int .i64 (ls.length:Nat)):=by
 rcases h with⟨rfl,rfl⟩|⟨rfl,rfl⟩|⟨q,off,cp,rfl,-⟩
 ·exact dJ GQ
 ·kernel_rfl
 ·exact dJ GQ
theorem tM.at {ls:List UInt8} {x:Value} (h:tM A ls x) {b:UInt8} (hi:ls[i]?=some b):
 ∃p,aZ ai 48 x (.int .i64 i)= .ok (.pointer (some p))∧aq ai A.get 5 (.pointer (some p))= .ok (.int .u8 (b.toNat:Nat)):=by
 rcases h with⟨-,rfl⟩|⟨-,rfl⟩|⟨q,off,cp,rfl,h2⟩
 ·simp at hi
 ·simp at hi
 ·rcases h2 with rfl|⟨h2,t,kd,fz,c,h3,h4⟩
  ·simp at hi
  ·have hlt:=(X_.1 hi).1;have hb:Ye i ls.length=true:=by rw [Yl];exact hlt
   have hn:lP (.int .i64 i)= .ok i:=rfl;refine⟨⟨q,off+i*1,none⟩,?_,?_⟩
   ·unfold aZ;simp only [hn,GQ,hb,cond_true,Ca,R.aA,jh]
   ·unfold aq;have hg:=h4 i b hi;have hag:cN (.int .u8)=false:=rfl;simp only [h3,u5,hag,cond_false,Zf,hg]
def nM (c:UInt8):UInt8:=if c.toNat % 8<7 then Zc (97+c.toNat % 8 % 3) else c
def n7 (ls:List UInt8):List UInt8:=if(ls.take 9).map nM=[] then [97] else(ls.take 9).map nM
theorem MN (c:UInt8):(nM c).toNat=if c.toNat % 8<7 then 97+c.toNat % 8 % 3 else c.toNat:=by
 unfold nM;split
 ·rw [qaA];omega
 ·rfl
theorem Rn {b:UInt8} (h:A.get q=some (aa 5 [.int .u8 (b.toNat:Nat)])):cY ai A.get 48 9 (.slice (some ⟨q,0,none⟩) 1 2)= .ok (strOf [b]):=by
 have hb:Fp A q 5 (.var 1) [b]:=⟨_,h,fun i hi=>by
  have hi0:i=0:=by simp at hi;exact hi
  subst hi0;rfl⟩
 exact m7 (l:=[b]) GQ u9 u5 hb
theorem KP {a:Nat} (h:a+b<256):aN .add .u8 (a:Int) (b:Int)= .ok (.int .u8 (a+b:Nat)):=by
 show R.ok (Value.int .u8 (dg .u8 ((a+b:Nat):Int)))=_;rw [k_,Zb h]
variable {o:Nat}
theorem Cb:ax ai 235 (pw b o) 0= .ok (pw b o):=by kernel_rfl
theorem TK:ax ai 235 (pw b o) 1= .ok (pw b (o+1)):=by kernel_rfl
theorem Tk:ax ai 235 (pw b o) 2= .ok (pw b (o+2)):=by kernel_rfl
noncomputable def jk:Code:=Zx.body.getD .skip
noncomputable def d_:Code:=sub jk [1,1,0,1,0,0]
theorem PG:Zx.body=some (.seq (sub jk [0]) (.seq (sub jk [1,0]) (.seq (.seq (sub jk [1,1,0,0]) (.block 0 (.loop d_))) (.seq (sub jk [1,1,1,0]) (.seq (sub jk [1,1,1,1,0]) (sub jk [1,1,1,1,1])))))):=by kernel_rfl
theorem zP:d_= .seq (.seq (sub d_ [0,0]) (sub d_ [0,1])) (.seq (.block 1 (.seq (sub d_ [1,0,0,0]) (.seq (sub d_ [1,0,0,1,0]) (sub d_ [1,0,0,1,1])))) (sub d_ [1,1])):=by kernel_rfl
def OV (q:Nat) (w:List UInt8) (i:Nat):List (Nat×Value):=[(1,.pointer (some ⟨q,0,none⟩)),(2,.pointer (some ⟨q+1,0,none⟩)),(3,strOf w),(4,.int .i64 i)]
theorem DE {ls w:List UInt8} {xl:Value} {K:Ex→St→Prop} {wt:Int} {g:Bool} (hx:tM C ls xl) (hv:dD C 235 q (.var 3) [xl,.int .u32 wt,.bool g]) {b:UInt8} (hb:ls[i]?=some b) (hw:w.length=i) (hi:i<9) (ht:Sl t (OV q w i))
 (hK:∀t',Sl t' (OV q (w++[nM b]) i)→K .nrm ⟨t',43,[],C.alloc (aa 5 [.int .u8 ((nM b).toNat:Nat)]),none⟩):
 W ai (.seq (sub d_ [1,0,0,0]) (.seq (sub d_ [1,0,0,1,0]) (sub d_ [1,0,0,1,1]))) ⟨t,43,[],C,none⟩ K:=by
 obtain⟨g1,g2,g3,g4,-⟩:=ht;obtain⟨p,a1,a2⟩:=hx.at hb;have hl:aq ai C.get 48 (pw q 0)= .ok xl:=bf GQ rfl hv rfl;have hlt:=v_ b;have hnat:=MN b;have hadd:=sa (a:=w) (b:=[nM b]) (by rw [hw];show i+1<_;omega);have hs:=Rn (aD C (aa 5 [.int .u8 ((nM b).toNat:Nat)]));apply W.seq;apply W.run 20
 ·intro M;simp (disch:=first|decide+kernel|omega) only [d_,jk,Zx,Aq,X2,g1,g4,Cb,hl,a1,a2];rfl
 apply W.seq;by_cases h7:b.toNat % 8<7
 ·rw [if_pos h7] at hnat;apply W.run 20
  ·intro M;simp (disch:=first|decide+kernel|omega) only [d_,jk,Zx,Aq,X2,h7,KP];rfl
  show W ai _ _ _;rw [←hnat];apply W.run 20
  ·intro M;simp (disch:=first|decide+kernel|omega) only [d_,jk,Zx,Aq,X2,g3,LC,ue,iR _ _ _ _ _ _ _ _ _ _ GQ u9,hs,hadd];rfl
  refine hK _ ?_;unfold OV;simp only [av,aw,T.af,T.ag,T.ak,X2,X3,if_true,if_false,and_true,true_and,g1,g2,g4]
 ·rw [if_neg h7] at hnat;apply W.run 20
  ·intro M;simp (disch:=first|decide+kernel|omega) only [d_,jk,Zx,Aq,X2,h7];rfl
  show W ai _ _ _;rw [←hnat];apply W.run 20
  ·intro M;simp (disch:=first|decide+kernel|omega) only [d_,jk,Zx,Aq,X2,g3,LC,ue,iR _ _ _ _ _ _ _ _ _ _ GQ u9,hs,hadd];rfl
  refine hK _ ?_;unfold OV;simp only [av,aw,T.af,T.ag,T.ak,X2,X3,if_true,if_false,and_true,true_and,g1,g2,g4]
theorem HA:aY ai 235= .ok 3:=by kernel_rfl
theorem zC {ls:List UInt8} {b:UInt8} (h:ls[i]?=some b):(ls.take (i+1)).map nM=(ls.take i).map nM++[nM b]:=by
 obtain⟨hlt,rfl⟩:=X_.1 h;rw [Yd hlt,YV];rfl
def BO (ls:List UInt8) (wt:Nat) (g:Bool):aP:=bare ⟨n7 ls,wt,g⟩
theorem U8 {w:List UInt8} {wt:Nat} {g:Bool}:cr ai 67 [(0,strOf w),(1,.int .u32 wt),(2,.bool g)]= .ok (.agg ⟨ct ⟨w,wt,g⟩⟩):=by kernel_rfl
theorem J0 {ls:List UInt8} {xl:Value} {wt:Nat} {g:Bool} (hx:tM A ls xl):
 ∃A',bL ai 149 [.agg ⟨[xl,.int .u32 wt,.bool g]⟩] A (.agg ⟨ct (BO ls wt g)⟩) A'∧Kp A A':=by
 obtain⟨v,A',hg,rfl,hk⟩:∃v A',bL ai 149 [.agg ⟨[xl,.int .u32 wt,.bool g]⟩] A v A'∧v= .agg ⟨ct (BO ls wt g)⟩∧Kp A A':=by
  refine eE (aB Tryz.func149) PG (by rw [Tryz.ntmps149];simp) (by kernel_rfl) (by kernel_rfl) ?_;obtain⟨d67,hd1,hd2⟩:=bA (t:=67) (p:=true) (by kernel_rfl);have hv0:dD ((A.alloc (aa 235 [xl,.int .u32 wt,.bool g])).alloc (aa 67 [.string .empty,.int .u32 0,.bool false])) 235 A.next (.var 3) [xl,.int .u32 wt,.bool g]:=(ee (aD _ _)).same (aH (by rw [ae];omega))
  have hz0:dD ((A.alloc (aa 235 [xl,.int .u32 wt,.bool g])).alloc (aa 67 [.string .empty,.int .u32 0,.bool false])) 67 (A.next+1) (.var 3) [.string .empty,.int .u32 0,.bool false]:=ee (aD _ _);have hk0:Kp A ((A.alloc (aa 235 [xl,.int .u32 wt,.bool g])).alloc (aa 67 [.string .empty,.int .u32 0,.bool false])):=(Kp.alloc _ _).trans (Kp.alloc _ _);have hn0:((A.alloc (aa 235 [xl,.int .u32 wt,.bool g])).alloc (aa 67 [.string .empty,.int .u32 0,.bool false])).next=A.next+2:=rfl
  apply W.seq;apply W.run 20
  ·intro M;simp (disch:=first|decide+kernel|omega) only [jk,Zx,Aq,X2,Um,au,ae];rfl
  show W ai _ _ _;generalize (A.alloc (aa 235 [xl,.int .u32 wt,.bool g])).alloc (aa 67 [.string .empty,.int .u32 0,.bool false])=B at hv0 hz0 hk0 hn0;apply W.seq;apply W.run 20
  ·intro M;simp (disch:=first|decide+kernel|omega) only [jk,Zx,Aq,X2];rfl
  apply W.seq;apply W.seq;apply W.run 20
  ·intro M;simp (disch:=first|decide+kernel|omega) only [jk,Zx,Aq,X2];rfl
  apply W.block;have hmin:min ls.length 9≤ls.length∧min ls.length 9≤9:=⟨qaM _ _,qbJ _ _⟩;have hmin2:min ls.length 9=ls.length∨min ls.length 9=9:=by omega
  refine W.up (min ls.length 9) (fun i t C=>Kp B C∧Sl t (OV A.next ((ls.take i).map nM) i)) ?_ (Yg _) ⟨Kp.refl _,?_⟩
  ·rintro i t C hi ⟨hk,g1,g2,g3,g4,-⟩;have hxC:=hx.kp (hk0.trans hk);have hvC:dD C 235 A.next (.var 3) [xl,.int .u32 wt,.bool g]:=hv0.same (hk.2 _ (by omega))
   have hl:aq ai C.get 48 (pw A.next 0)= .ok xl:=bf GQ rfl hvC rfl;have hlen:=hxC.len;by_cases hlt:i<min ls.length 9
   ·have h1:i<ls.length:=by omega
    have h2:i<9:=by omega
    have hb:ls[i]?=some ls[i]:=X6 h1;rw [zP];apply W.seq;apply W.run 20
    ·intro M;simp (config:={maxSteps:=4000000}) (disch:=first|decide+kernel|omega|simp only [Wq,X2]) only [d_,jk,Zx,Aq,X5,reduceIte,X2,X3,g1,g4,Cb,hl,hlen,h1,h2];rfl
    apply W.seq;apply W.block;refine DE (w:=(ls.take i).map nM) (i:=i) (q:=A.next) hxC hvC hb (by rw [Yb,Yo];omega) h2 (by unfold OV;simp only [av,aw,T.af,T.ag,T.ak,X2,X3,if_true,if_false,and_true,true_and,g1,g2,g3,g4]) fun t' ht'=>?_
    obtain⟨f1,f2,f3,f4,-⟩:=ht';apply W.run 20
    ·intro M;simp (disch:=first|decide+kernel|omega) only [d_,jk,Zx,Aq,X2,f4];rfl
    refine⟨hlt,_,_,rfl,hk.trans (Kp.alloc _ _),?_⟩;rw [zC hb];unfold OV;simp only [av,aw,T.af,T.ag,T.ak,X2,X3,if_true,if_false,and_true,true_and,f1,f2,f3]
   ·have hin:i=min ls.length 9:=by omega
    have htk:(ls.take i)=ls.take 9:=by
     rcases hmin2 with h|h
     ·rw [hin,h,Yw,Zt (by omega)]
     ·rw [hin,h]
    rw [htk] at g3;have hex:W ai (.seq (sub d_ [0,0]) (sub d_ [0,1])) ⟨t,43,[],C,none⟩ (fun e s'=>∃t',e= .exit 0∧s'=⟨t',43,[],C,none⟩∧Sl t' (OV A.next ((ls.take 9).map nM) i)):=by
     by_cases h1:i<ls.length
     ·have h2:¬i<9:=by omega
      apply W.run 20
      ·intro M;simp (config:={maxSteps:=4000000}) (disch:=first|decide+kernel|omega|simp only [Wq,X2]) only [d_,jk,Zx,Aq,X5,reduceIte,X2,X3,g1,g4,Cb,hl,hlen,h1,h2];rfl
      refine⟨_,rfl,rfl,?_⟩;unfold OV;simp only [av,aw,T.af,T.ag,T.ak,X2,X3,if_true,if_false,and_true,true_and,g1,g2,g3,g4]
     ·apply W.run 20
      ·intro M;simp (config:={maxSteps:=4000000}) (disch:=first|decide+kernel|omega|simp only [Wq,X2]) only [d_,jk,Zx,Aq,X5,reduceIte,X2,X3,g1,g4,Cb,hl,hlen,h1];rfl
      refine⟨_,rfl,rfl,?_⟩;unfold OV;simp only [av,aw,T.af,T.ag,T.ak,X2,X3,if_true,if_false,and_true,true_and,g1,g2,g3,g4]
    rw [zP];apply W.seq;refine hex.mono ?_;rintro e s' ⟨t',rfl,rfl,f1,f2,f3,f4,-⟩;apply W.seq;have hw:W ai (sub jk [1,1,1,0]) ⟨t',43,[],C,none⟩ (fun e s'=>∃t2,e= .nrm∧s'=⟨t2,43,[],C,none⟩∧Sl t2 [(1,pw A.next 0),(2,pw (A.next+1) 0),(3,strOf (n7 ls))]):=by
     by_cases h0:(ls.take 9).map nM=[]
     ·have hwd:n7 ls=[97]:=by unfold n7;rw [if_pos h0]
      have f3':t'.get 3=some (strOf []):=by rw [f3,h0]
      apply W.run 20
      ·intro M;simp (disch:=first|decide+kernel|omega) only [jk,Zx,Aq,X2,f3'];rfl
      refine⟨_,rfl,rfl,?_⟩;rw [hwd];simp only [av,aw,T.af,T.ag,T.ak,X2,X3,if_true,if_false,and_true,true_and,f1,f2]
     ·have hwd:n7 ls=(ls.take 9).map nM:=by unfold n7;rw [if_neg h0]
      rw [←hwd] at f3 h0;apply W.run 20
      ·intro M;simp (disch:=first|decide+kernel|omega) only [jk,Zx,Aq,X2,f3,h0];rfl
      refine⟨_,rfl,rfl,?_⟩;simp only [av,aw,T.af,T.ag,T.ak,X2,X3,if_true,if_false,and_true,true_and,f1,f2,f3]
    refine hw.mono ?_;rintro e s' ⟨t2,rfl,rfl,f1,f2,f3,-⟩;apply W.seq;have l1:aq ai C.get 31 (pw A.next (0+1))= .ok (.int .u32 wt):=bf XK rfl hvC rfl;have l2:aq ai C.get 4 (pw A.next (0+2))= .ok (.bool g):=bf u4 rfl hvC rfl;have hgb:=fun ih=>Rv (ih:=ih) (A:=C) (e:=⟨n7 ls,wt,g⟩)
    have hzD:dD C 67 (A.next+1) (.var 3) [.string .empty,.int .u32 0,.bool false]:=hz0.same (hk.2 _ (by omega));obtain⟨C2,s2,v2,n2,k2⟩:=bx (tb:=ai) (t:=67) (l:=[.string .empty,.int .u32 0,.bool false]) (l':=ct (BO ls wt g)) VY hzD rfl (by simp) (Er _);have hl2:=aQ (tb:=ai) hd1 hd2 (l:=ct (BO ls wt g)) VY v2;have hk1:=hk0.trans hk;unfold BO at s2 hl2⊢;apply W.run 20
    ·intro M;simp (disch:=first|decide+kernel|omega) only [jk,Zx,Aq,X2,f1,f2,f3,TK,Tk,l1,l2,U8,hgb,s2];rfl
    apply W.run 20
    ·intro M;simp (disch:=first|decide+kernel|omega) only [jk,Zx,Aq,X2];rfl
    refine⟨.inr rfl,C2,[.agg ⟨ct (bare ⟨n7 ls,wt,g⟩)⟩],rfl,?_,rfl,?_⟩
    ·simp only [Zx,fj,fR,T.af,X2,if_true,if_false,dA,R.aA,f2,hl2]
    ·exact⟨by rw [n2];exact hk1.1,fun z hz=>by rw [k2 z (by omega),hk1.2 z hz]⟩
  ·unfold OV;simp only [av,aw,T.af,T.ag,T.ak,X2,X3,if_true,if_false,and_true,true_and];rfl
 exact⟨A',hg,hk⟩
structure rP where
 xl:Value
 ls:List UInt8
 wt:Nat
 gone:Bool
def XC (d:rP):Value:=.agg ⟨[d.xl,.int .u32 d.wt,.bool d.gone]⟩
def Lo (A:Mem) (ds:List rP) (x:Value):Prop:=
 (x= .slice none 0 0∧ds=[])∨(x=D6∧ds=[])∨∃q off cp,x= .slice (some ⟨q,off,none⟩) ds.length cp∧(ds=[]∨(q<A.next∧∃t kd fz c,A.get q=some (.cells t kd fz c)∧
  ∀(i:Nat) (d:rP),ds[i]?=some d→c.get (off+i*3)=some d.xl∧c.get (off+i*3+1)=some (.int .u32 d.wt)∧c.get (off+i*3+2)=some (.bool d.gone)∧tM A d.ls d.xl))
theorem Pg:ai.bp 111=some (.slice 235):=by kernel_rfl
variable {ds:List rP}
theorem Lo.kp {x:Value} (h:Lo A ds x) (k:Kp A A'):Lo A' ds x:=by
 rcases h with h|h|⟨q,off,cp,h1,h2⟩
 ·exact .inl h
 ·exact .inr (.inl h)
 ·refine .inr (.inr ⟨q,off,cp,h1,?_⟩);rcases h2 with h2|⟨h2,t,kd,fz,c,h3,h4⟩
  ·exact .inl h2
  ·exact .inr ⟨Yt h2 k.1,t,kd,fz,c,by rw [k.2 _ h2];exact h3,fun i d hd=>⟨(h4 i d hd).1,(h4 i d hd).2.1,(h4 i d hd).2.2.1,(h4 i d hd).2.2.2.kp k⟩⟩
theorem Lo.len {x:Value} (h:Lo A ds x):aO ai .len [111] [x]= .ok (.int .i64 (ds.length:Nat)):=by
 rcases h with⟨rfl,rfl⟩|⟨rfl,rfl⟩|⟨q,off,cp,rfl,-⟩
 ·exact dJ Pg
 ·kernel_rfl
 ·exact dJ Pg
theorem Lo.at {x:Value} (h:Lo A ds x) {d:rP} (hi:ds[i]?=some d):
 (∃p,aZ ai 111 x (.int .i64 i)= .ok (.pointer (some p))∧aq ai A.get 235 (.pointer (some p))= .ok (XC d))∧tM A d.ls d.xl:=by
 rcases h with⟨-,rfl⟩|⟨-,rfl⟩|⟨q,off,cp,rfl,h2⟩
 ·simp at hi
 ·simp at hi
 ·rcases h2 with rfl|⟨h2,t,kd,fz,c,h3,h4⟩
  ·simp at hi
  ·obtain⟨c0,c1,c2,hby⟩:=h4 i d hi;obtain⟨d26,hd1,hd2⟩:=bA (t:=235) (p:=true) (by kernel_rfl);have hlt:=(X_.1 hi).1;have hb:Ye i ds.length=true:=by rw [Yl];exact hlt
   have hn:lP (.int .i64 i)= .ok i:=rfl;refine⟨⟨⟨q,off+i*3,none⟩,?_,?_⟩,hby⟩
   ·unfold aZ;simp only [hn,Pg,hb,cond_true,HA,R.aA,jh]
   ·have hgs:c.ji 3 (off+i*3)=some [d.xl,.int .u32 d.wt,.bool d.gone]:=gL _ _ _ _ rfl fun j hj=>by
     have:j=0∨j=1∨j=2:=by omega
     rcases this with rfl|rfl|rfl
     ·exact c0
     ·exact c1
     ·exact c2
    unfold aq;simp only [h3,hd1,hd2,cond_true,HA,R.aA,hgs];rfl
def dE (d:rP):aP:=BO d.ls d.wt d.gone
noncomputable def HL:Code:=qbm.body.getD .skip
noncomputable def Fe:Code:=sub HL [1,1,0,1,0,0]
theorem To:qbm.body=some (.seq (sub HL [0]) (.seq (sub HL [1,0]) (.seq (.seq (sub HL [1,1,0,0]) (.block 0 (.loop Fe))) (.seq (sub HL [1,1,1,0]) (sub HL [1,1,1,1]))))):=by kernel_rfl
theorem Ee {x:Value} (h:Lo A ds x) (hn:n≤1000):
 ∃y A',bL ai 98 [x,.int .i64 (n:Nat)] A y A'∧fm A' ((ds.take n).map dE) y∧Kp A A':=by
 obtain⟨v,A',hg,he,hk⟩:∃v A',bL ai 98 [x,.int .i64 (n:Nat)] A v A'∧fm A' ((ds.take n).map dE) v∧Kp A A':=by
  refine eE (aB Tryz.func98) To (by rw [Tryz.ntmps98];simp) (by kernel_rfl) (by kernel_rfl) ?_;apply W.seq;apply W.run 20
  ·intro M;simp (disch:=first|decide+kernel|omega) only [HL,qbm,Aq,X2];rfl
  apply W.seq;apply W.run 20
  ·intro M;simp (disch:=first|decide+kernel|omega) only [HL,qbm,Aq,X2];rfl
  apply W.seq;apply W.seq;apply W.run 20
  ·intro M;simp (disch:=first|decide+kernel|omega) only [HL,qbm,Aq,X2];rfl
  apply W.block;have hmin:min ds.length n≤ds.length∧min ds.length n≤n:=⟨qaM _ _,qbJ _ _⟩;have hmin2:min ds.length n=ds.length∨min ds.length n=n:=by omega
  refine W.up (min ds.length n) (fun i t C=>∃bo xo,Nj C bo ((ds.take i).map dE) xo∧A.next≤bo∧Kp A C∧Sl t [(0,x),(1,.int .i64 (n:Nat)),(5,xo),(6,.int .i64 i)]) ?_ (Yg _) ⟨A.next,.slice none 0 0,.inl ⟨rfl,rfl⟩,X9 _,Kp.refl _,?_⟩
  ·rintro i t C hi ⟨bo,xo,ho,hbo,hk,g0,g1,g5,g6,-⟩;have hC:=h.kp hk;have hlen:=hC.len;by_cases hlt:i<min ds.length n
   ·have h1:i<ds.length:=by omega
    have h2:i<n:=by omega
    have hd:ds[i]?=some ds[i]:=X6 h1;obtain⟨⟨p,a1,a2⟩,hby⟩:=hC.at hd;obtain⟨C1,⟨g,hg⟩,k1⟩:=J0 (wt:=ds[i].wt) (g:=ds[i].gone) hby;obtain⟨x',C2,happ,w2,n2,k2⟩:=Cx (e:=dE ds[i]) (Nj.kp ho k1) (by rw [Yb,Yo];omega);have hbe:bc ai 60 1 [(0,.agg ⟨ct (BO ds[i].ls ds[i].wt ds[i].gone)⟩)]= .ok (aa 67 (ct (dE ds[i])),.m_ 1 2):=N_;unfold XC at a2;apply W.a6 (g) 20
    ·intro M hM;simp (config:={maxSteps:=4000000}) (disch:=first|decide+kernel|omega|simp only [Wq,X2]) only [Fe,HL,qbm,Aq,X5,reduceIte,X2,X3,g0,g1,g5,g6,hlen,h1,h2,a1,a2,hg,hbe,ue,happ];rfl
    have hkA:=hk.trans k1;refine⟨hlt,_,_,rfl,C1.next+1,x',?_,?_,⟨by rw [n2];have:=hkA.1;omega,fun z hz=>?_⟩,?_⟩
    ·rw [Yd h1,YV];exact w2
    ·have:=hkA.1;omega
    ·rw [k2 z (fun e=>by omega) (by have:=hkA.1;omega),hkA.2 z hz]
    ·simp only [av,aw,T.af,T.ag,T.ak,X2,X3,if_true,if_false,and_true,true_and,g0,g1]
   ·have hin:i=min ds.length n:=by omega
    have htk:ds.take i=ds.take n:=by
     rcases hmin2 with h|h
     ·rw [hin,h,Yw,Zt (by omega)]
     ·rw [hin,h]
    rw [htk] at ho;have hex:W ai Fe ⟨t,27,[],C,none⟩ (fun e s'=>∃t',e= .exit 0∧s'=⟨t',27,[],C,none⟩∧Sl t' [(5,xo)]):=by
     by_cases h1:i<ds.length
     ·have h2:¬i<n:=by omega
      apply W.run 20
      ·intro M;simp (config:={maxSteps:=4000000}) (disch:=first|decide+kernel|omega|simp only [Wq,X2]) only [Fe,HL,qbm,Aq,X5,reduceIte,X2,X3,g0,g1,g5,g6,hlen,h1,h2];rfl
      refine⟨_,rfl,rfl,?_⟩;simp only [av,aw,T.af,T.ag,T.ak,X2,X3,if_true,if_false,and_true,true_and,g5]
     ·apply W.run 20
      ·intro M;simp (config:={maxSteps:=4000000}) (disch:=first|decide+kernel|omega|simp only [Wq,X2]) only [Fe,HL,qbm,Aq,X5,reduceIte,X2,X3,g0,g1,g5,g6,hlen,h1];rfl
      refine⟨_,rfl,rfl,?_⟩;simp only [av,aw,T.af,T.ag,T.ak,X2,X3,if_true,if_false,and_true,true_and,g5]
    refine hex.mono ?_;rintro e s' ⟨t',rfl,rfl,f5,-⟩;apply W.seq;apply W.run 20
    ·intro M;simp (disch:=first|decide+kernel|omega) only [HL,qbm,Aq,X2,f5];rfl
    apply W.run 20
    ·intro M;simp (disch:=first|decide+kernel|omega) only [HL,qbm,Aq,X2];rfl
    refine⟨.inr rfl,C,[xo],rfl,?_,⟨bo,ho⟩,hk⟩;simp only [qbm,fj,fR,T.af,X2,if_true,if_false,dA,R.aA]
  ·simp only [av,aw,T.af,T.ag,T.ak,X2,X3,if_true,if_false,and_true,true_and]
 exact⟨v,A',hg,he,hk⟩
def CA (A0 C:Mem) (b:Nat) (l:List aP) (x:Value):Prop:=az C 67 3 b (l.map ct) x∧Kp A0 C∧A0.next≤b
theorem CA.nil (A0 C:Mem) (k:Kp A0 C):CA A0 C A0.next [] (.slice none 0 0):=⟨az.nil _ _ _ _,k,X9 _⟩
theorem CA.push {A0:Mem} {l:List aP} {x:Value} (h:CA A0 C b l x) (e:aP) (hl:l.length<1000000):∃x' C',bk ai (C.alloc (aa 67 (ct e))) 60 60 x (.slice (some ⟨C.next,0,none⟩) 1 2)= .ok (x',C')∧CA A0 C' (C.next+1) (l++[e]) x':=by
 obtain⟨hs,hk,hb⟩:=h;obtain⟨x',F,h1,h2,h3,h4⟩:=Cx (e:=e) hs hl;have hk0:=hk.1;exact⟨x',F,h1,h2,⟨by omega,fun z hz=>by rw [h4 z (by omega) (by omega),hk.2 z hz]⟩,by omega⟩
theorem Tz (a b:List UInt8):(!(a7 a b||eJ a b))=a7 b a:=by
 cases h1:a7 b a with
 |true=>
  have h2:a7 a b=false:=by
   cases h:a7 a b with
   |false=>rfl
   |true=>have:=kY _ _ _ h h1;rw [iC] at this;cases this
  have h3:eJ a b=false:=by
   rw [dv];refine beq_eq_false_iff_ne.2 fun e=>?_
   rw [e,iC] at h1;cases h1
  rw [h2,h3];rfl
 |false=>
  cases h2:a7 a b with
  |true=>rfl
  |false=>
   obtain rfl:=nU _ _ h2 h1;rw [dv];simp
theorem WZ (a b:List UInt8):de .lss a b= .ok (.bool (a7 a b)):=rfl
theorem WA (a b:List UInt8):de .gtr a b= .ok (.bool (a7 b a)):=by
 show R.ok (Value.bool (!(a7 a b||eJ a b)))=_;rw [Tz]
theorem ur (e:aP):(bare e).word=e.word:=by unfold bare;split<;>rfl
variable {e:aP}
theorem AR:∀{l:List aP},rj l→mG e l=l.takeWhile (fun y=>a7 y.word e.word)++e::l.filter (fun y=>a7 e.word y.word)
 | [],_=>rfl
 |x::l,h=>by
  have hx:=h.1;unfold mG;by_cases h1:lt x.word e.word
  ·have h2:a7 e.word x.word=false:=by
    cases hq:a7 e.word x.word with
    |false=>rfl
    |true=>exact absurd (Ly h1 hq) (SP _)
   rw [if_pos h1,AR h.2,qbR,if_pos h1,YS,h2];rfl
  ·have htw:(x::l).takeWhile (fun y=>a7 y.word e.word)=[]:=by rw [qbR,if_neg h1]
   rw [if_neg h1,htw];by_cases h3:x.word=e.word
   ·rw [if_pos h3,YS,←h3,if_neg (by rw [iC];simp)];rw [qaw.2 (fun y hy=>hx y hy)];rfl
   ·have h4:lt e.word x.word:=qaW fun hn=>h3 (Of h1 hn)
    rw [if_neg h3,YS,if_pos h4,qaw.2 (fun y hy=>Ly h4 (hx y hy))];rfl
theorem Cg {p:aP→Bool}:∀{l:List aP} {i:Nat},(∀y∈l.take i,p y=true)→(∀e,l[i]?=some e→p e=false)→l.takeWhile p=l.take i
 | [],i,_,_=>by simp
 |x::l,0,_,h=>by
  rw [qbR,h x rfl];simp
 |x::l,i+1,h1,h2=>by
  rw [qbR,if_pos (h1 x (by simp)),Z',Cg (i:=i) (fun y hy=>h1 y (by simp [hy])) (fun e he=>h2 e (by simpa using he))]
noncomputable def j_:Code:=Z4.body.getD .skip
noncomputable def Bg:Code:=sub j_ [1,1,0,1,0,0]
noncomputable def CS:Code:=sub j_ [1,1,1,1,0,1,0,0]
theorem QX:Z4.body=some (.seq (sub j_ [0]) (.seq (sub j_ [1,0]) (.seq (.seq (sub j_ [1,1,0,0]) (.block 0 (.loop Bg))) (.seq (sub j_ [1,1,1,0]) (.seq (.seq (sub j_ [1,1,1,1,0,0]) (.block 2 (.loop CS))) (.seq (sub j_ [1,1,1,1,1,0]) (sub j_ [1,1,1,1,1,1]))))))):=by kernel_rfl
theorem NC {l:List aP} {x:Value} (h:fm A l x) (ha:rj l) (hl:l.length<400000):∃v A',bL ai 148 [x,.agg ⟨ct e⟩] A v A'∧fm A' (mG (bare e) l) v∧Kp A A':=by
 refine cS (aB Tryz.func148) QX (by rw [Tryz.ntmps148];simp) (by kernel_rfl) (by kernel_rfl) ?_;have hlen:=h.len;have k0:=Kp.alloc A (aa 67 (ct e));have v0:=aF A 67 (ct e);apply W.seq;apply W.run 20
 ·intro M;simp (disch:=first|decide+kernel|omega) only [j_,Z4,Aq,X2,au];rfl
 show W ai _ _ _;have hB:=h.kp k0;generalize A.alloc (aa 67 (ct e))=B at k0 v0 hB;have lwB:∀C,Kp B C→aq ai C.get 9 (.pointer (some ⟨A.next,0,none⟩))= .ok (strOf e.word):=fun C k=>(v0.kp k).ld rfl u9 rfl
 obtain⟨d67,hd1,hd2⟩:=bA (t:=67) (p:=true) (by kernel_rfl);apply W.seq;apply W.run 20
 ·intro M;simp (disch:=first|decide+kernel|omega) only [j_,Z4,Aq,X2];rfl
 apply W.seq;refine W.to (n:=58) (fun t C=>∃b y,CA B C b (l.takeWhile (fun y=>a7 y.word e.word)) y∧Sl t [(0,x),(3,.pointer (some ⟨A.next,0,none⟩)),(5,y)]) ?_ ?_
 ·apply W.seq;apply W.run 20
  ·intro M;simp (disch:=first|decide+kernel|omega) only [j_,Z4,Aq,X2];rfl
  apply W.block;refine W.up l.length (fun i t C=>(∀y∈l.take i,a7 y.word e.word=true)∧∃b y,CA B C b (l.take i) y∧Sl t [(0,x),(3,.pointer (some ⟨A.next,0,none⟩)),(5,y),(6,.int .i64 i)]) ?_ (Yg _) ⟨(fun y hy=>by simp at hy),_,_,CA.nil B B (Kp.refl _),?_⟩
  ·rintro i t C hi ⟨hall,b,y,hO,g0,g3,g5,g6,-⟩;have lw:=lwB C hO.2.1;by_cases hlt:i<l.length
   ·have he:l[i]?=some l[i]:=X6 hlt;obtain⟨p,i1,i2,q,i3,i4⟩:=(hB.kp hO.2.1).at he;have hls:=WZ (l[i]).word e.word;cases hc:a7 (l[i]).word e.word with
    |true=>
     rw [hc] at hls;have htk:l.take (i+1)=l.take i++[l[i]]:=Yd hlt;obtain⟨y2,D2,happ2,hO3⟩:=hO.push l[i] (by rw [Yo];omega);apply W.run 20
     ·intro M;simp (config:={maxSteps:=4000000}) (disch:=first|decide+kernel|omega|simp only [Wq,X2]) only [Bg,j_,Z4,Aq,X5,reduceIte,X2,X3,g0,g3,g5,g6,hlen,hlt,i1,i2,i3,i4,Ey,lw,hls,N_,happ2,Fq,aC []];rfl
     refine⟨hlt,_,_,rfl,fun z hz=>?_,_,y2,by rw [htk];exact hO3,?_⟩
     ·rw [htk] at hz;rcases Zs.1 hz with hz|hz
      ·exact hall z hz
      ·rw [Y7.1 hz];exact hc
     ·simp only [av,aw,T.af,T.ag,T.ak,X2,X3,if_true,if_false,and_true,true_and,g0,g3]
    |false=>
     rw [hc] at hls;have htw:l.takeWhile (fun y=>a7 y.word e.word)=l.take i:=Cg hall (fun z hz=>by rw [he] at hz;rw [←YJ hz];exact hc);apply W.run 20
     ·intro M;simp (config:={maxSteps:=4000000}) (disch:=first|decide+kernel|omega|simp only [Wq,X2]) only [Bg,j_,Z4,Aq,X5,reduceIte,X2,X3,g0,g3,g6,hlen,hlt,i1,i3,i4,Ey,lw,hls,Fq,aC []];rfl
     refine⟨rfl,_,_,rfl,b,y,by rw [htw];exact hO,?_⟩;simp only [av,aw,T.af,T.ag,T.ak,X2,X3,if_true,if_false,and_true,true_and,g0,g3,g5]
   ·have hin:i=l.length:=by omega
    subst hin;have htw:l.takeWhile (fun y=>a7 y.word e.word)=l.take l.length:=Cg hall (fun z hz=>by rw [YR (X9 _)] at hz;cases hz);apply W.run 20
    ·intro M;simp (config:={maxSteps:=4000000}) (disch:=first|decide+kernel|omega|simp only [Wq,X2]) only [Bg,j_,Z4,Aq,X5,reduceIte,X2,X3,g0,g6,hlen,Fq,aC []];rfl
    refine⟨rfl,_,_,rfl,b,y,by rw [htw];exact hO,?_⟩;simp only [av,aw,T.af,T.ag,T.ak,X2,X3,if_true,if_false,and_true,true_and,g0,g3,g5]
  ·simp only [av,aw,T.af,T.ag,T.ak,X2,X3,if_true,if_false,and_true,true_and]
 ·rintro t C ⟨b,y,hO,g0,g3,g5,-⟩;show W ai _ _ _;have hlt1:(l.takeWhile (fun y=>a7 y.word e.word)).length≤l.length:=(List.takeWhile_sublist _).length_le;have le:aq ai C.get 67 (.pointer (some ⟨A.next,0,none⟩))= .ok (.agg ⟨ct e⟩):=aQ hd1 hd2 VY (v0.kp hO.2.1).2;have hg:=fun ih=>Rv (ih:=ih) (A:=C) (e:=e)
  obtain⟨y',E,happ,hO2⟩:=hO.push (bare e) (by omega);apply W.seq;apply W.run 20
  ·intro M;simp (disch:=first|decide+kernel|omega) only [j_,Z4,Aq,X2,g3,g5,le,hg,N_,happ];rfl
  apply W.seq;apply W.seq;apply W.run 20
  ·intro M;simp (disch:=first|decide+kernel|omega) only [j_,Z4,Aq,X2];rfl
  apply W.block;refine W.up l.length (fun i t C=>∃b y,CA B C b ((l.takeWhile (fun y=>a7 y.word e.word)++[bare e])++(l.take i).filter (fun y=>a7 e.word y.word)) y∧Sl t [(0,x),(3,.pointer (some ⟨A.next,0,none⟩)),(5,y),(7,.int .i64 i)]) ?_ (Yg _) ⟨_,y',by simpa using hO2,?_⟩
  ·rintro i t C hi ⟨b,y,hO,g0,g3,g5,g7,-⟩;have lw:=lwB C hO.2.1;by_cases hlt:i<l.length
   ·have he:l[i]?=some l[i]:=X6 hlt;obtain⟨p,i1,i2,q,i3,i4⟩:=(hB.kp hO.2.1).at he;have hgs:=WA (l[i]).word e.word;cases hc:a7 e.word (l[i]).word with
    |true=>
     rw [hc] at hgs;have hfl:((l.takeWhile (fun y=>a7 y.word e.word)++[bare e])++(l.take i).filter (fun y=>a7 e.word y.word)).length<1000000:=by
      have:=qaL (fun y:aP=>a7 e.word y.word) (l.take i);rw [Yo] at this;simp only [X',Yf,Ys];omega
     have htk:(l.take (i+1)).filter (fun y=>a7 e.word y.word)=(l.take i).filter (fun y=>a7 e.word y.word)++[l[i]]:=by
      rw [Yd hlt,qaC,YS,if_pos hc];rfl
     obtain⟨y2,D2,happ2,hO3⟩:=hO.push l[i] hfl;apply W.run 20
     ·intro M;simp (config:={maxSteps:=4000000}) (disch:=first|decide+kernel|omega|simp only [Wq,X2]) only [CS,j_,Z4,Aq,X5,reduceIte,X2,X3,g0,g3,g5,g7,hlen,hlt,i1,i2,i3,i4,Ey,lw,hgs,N_,happ2,Fq,aC []];rfl
     refine⟨hlt,_,_,rfl,_,y2,by rw [htk,←Y1];exact hO3,?_⟩;simp only [av,aw,T.af,T.ag,T.ak,X2,X3,if_true,if_false,and_true,true_and,g0,g3]
    |false=>
     rw [hc] at hgs;have htk:(l.take (i+1)).filter (fun y=>a7 e.word y.word)=(l.take i).filter (fun y=>a7 e.word y.word):=by
      rw [Yd hlt,qaC,YS,if_neg (by rw [hc];decide)];simp
     apply W.run 20
     ·intro M;simp (config:={maxSteps:=4000000}) (disch:=first|decide+kernel|omega|simp only [Wq,X2]) only [CS,j_,Z4,Aq,X5,reduceIte,X2,X3,g0,g3,g7,hlen,hlt,i1,i3,i4,Ey,lw,hgs,Fq,aC []];rfl
     refine⟨hlt,_,_,rfl,b,y,by rw [htk];exact hO,?_⟩;simp only [av,aw,T.af,T.ag,T.ak,X2,X3,if_true,if_false,and_true,true_and,g0,g3,g5]
   ·have hin:i=l.length:=by omega
    subst hin;rw [Yw] at hO;apply W.run 20
    ·intro M;simp (disch:=first|decide+kernel|omega) only [CS,j_,Z4,Aq,X2,g0,g7,hlen];rfl
    apply W.seq;apply W.run 20
    ·intro M;simp (disch:=first|decide+kernel|omega) only [j_,Z4,Aq,X2,g5];rfl
    apply W.run 20
    ·intro M;simp (disch:=first|decide+kernel|omega) only [j_,Z4,Aq,X2];rfl
    refine⟨by simp,rfl,_,(by simp only [Z4,Aq,X2]<;>rfl),⟨b,?_⟩,k0.trans hO.2.1⟩;rw [AR ha,ur];have:=hO.1;rwa [Y1] at this
  ·simp only [av,aw,T.af,T.ag,T.ak,X2,X3,if_true,if_false,and_true,true_and,g0,g3]
def lh (more:List aP):List aP:=more.foldl (fun l e=>mG (bare e) l) []
theorem FW (more:List aP) (e:aP):lh (more++[e])=mG (bare e) (lh more):=by
 unfold lh;rw [ZA];rfl
theorem one_le {e:aP}:∀l:List aP,(mG e l).length≤l.length+1
 | []=>by simp [mG]
 |x::l=>by
  have:=one_le (e:=e) l;unfold mG;split
  ·simp only [Yf];omega
  ·split<;>simp
theorem J5 (P:List aP→Prop) (h0:P []) (h1:∀l e,P l→P (mG (bare e) l)) (more:List aP):P (lh more):=by
 unfold lh
 suffices h:∀(more l:List aP),P l→P (more.foldl (fun l e=>mG (bare e) l) l) from h more [] h0
 intro more
 induction more with
 |nil=>exact fun l h=>h
 |cons e more ih=>exact fun l h=>ih _ (h1 l e h)
theorem AE (more:List aP):rj (lh more):=J5 rj trivial (fun l e h=>Jh h) more
theorem A7:∀more:List aP,(lh more).length≤more.length:=by
 intro more;unfold lh
 suffices h:∀(more l:List aP),(more.foldl (fun l e=>mG (bare e) l) l).length≤l.length+more.length by
  have:=h more [];simpa using this
 intro more
 induction more with
 |nil=>exact fun l=>X9 _
 |cons e more ih=>
  intro l;have h1:=ih (mG (bare e) l);have h2:=one_le (e:=bare e) l;rw [Zh,Yf];omega
theorem Ka {more:List aP} (P:aP→Prop) (h:∀e∈more,P (bare e)):∀e∈lh more,P e:=by
 unfold lh
 suffices H:∀(more l:List aP),(∀e∈more,P (bare e))→(∀e∈l,P e)→∀e∈more.foldl (fun l e=>mG (bare e) l) l,P e from H more [] h (fun e he=>by cases he)
 intro more
 induction more with
 |nil=>exact fun l _ h=>h
 |cons a more ih=>
  intro l h1 h2;refine ih _ (fun e he=>h1 e (Yi _ he)) fun e he=>?_
  rcases Cz he with rfl|he
  ·exact h1 a Yk
  ·exact h2 e he
theorem J7:bk ai A 60 60 (.slice none 0 0) (.slice none 0 0)= .ok (.slice none 0 0,A):=by kernel_rfl
noncomputable def J9:Code:=qbO.body.getD .skip
noncomputable def Nn:Code:=sub J9 [1,1,0,1,0,0]
theorem Sp:qbO.body=some (.seq (sub J9 [0]) (.seq (sub J9 [1,0]) (.seq (.seq (sub J9 [1,1,0,0]) (.block 0 (.loop Nn))) (.seq (sub J9 [1,1,1,0]) (sub J9 [1,1,1,1]))))):=by kernel_rfl
theorem KA {more:List aP} {xm:Value} (hm:fm A more xm) (hl:more.length<300000):∃v A',bL ai 97 [.slice none 0 0,xm] A v A'∧fm A' (lh more) v∧Kp A A':=by
 refine cS (aB Tryz.func97) Sp (by rw [Tryz.ntmps97];simp) (by kernel_rfl) (by kernel_rfl) ?_;have hlen:=hm.len;apply W.seq;apply W.run 20
 ·intro M;simp (disch:=first|decide+kernel|omega) only [J9,qbO,Aq,X2];rfl
 apply W.seq;apply W.run 20
 ·intro M;simp (disch:=first|decide+kernel|omega) only [J9,qbO,Aq,X2,J7];rfl
 apply W.seq;apply W.seq;apply W.run 20
 ·intro M;simp (disch:=first|decide+kernel|omega) only [J9,qbO,Aq,X2];rfl
 apply W.block;refine W.up more.length (fun i t C=>∃y,fm C (lh (more.take i)) y∧Kp A C∧Sl t [(1,xm),(5,y),(6,.int .i64 i)]) ?_ (Yg _) ⟨_,⟨0,az.nil _ _ _ _⟩,Kp.refl _,?_⟩
 ·rintro i t C hi ⟨y,hy,kC,g1,g5,g6,-⟩;by_cases hlt:i<more.length
  ·have he:more[i]?=some more[i]:=X6 hlt;obtain⟨p,i1,i2,-⟩:=(hm.kp kC).at he;have hwl:=A7 (more.take i);rw [Yo] at hwl;obtain⟨v,D,⟨g,hg⟩,hv,kD⟩:=NC (e:=more[i]) hy (AE _) (by omega);apply W.a6 (g) 20
   ·intro M hM;simp (disch:=first|decide+kernel|omega) only [Nn,J9,qbO,Aq,X2,g1,g5,g6,hlen,hlt,i1,i2,hg];rfl
   refine⟨hlt,_,_,rfl,v,?_,kC.trans kD,?_⟩
   ·rw [Yd hlt,FW];exact hv
   ·simp only [av,aw,T.af,T.ag,T.ak,X2,X3,if_true,if_false,and_true,true_and,g1]
  ·have hin:i=more.length:=by omega
   subst hin;rw [Yw] at hy;apply W.run 20
   ·intro M;simp (disch:=first|decide+kernel|omega) only [Nn,J9,qbO,Aq,X2,g1,g6,hlen];rfl
   apply W.seq;apply W.run 20
   ·intro M;simp (disch:=first|decide+kernel|omega) only [J9,qbO,Aq,X2,g5];rfl
   apply W.run 20
   ·intro M;simp (disch:=first|decide+kernel|omega) only [J9,qbO,Aq,X2];rfl
   exact⟨by simp,rfl,_,(by simp only [qbO,Aq,X2]<;>rfl),hy,kC⟩
 ·simp only [av,aw,T.af,T.ag,T.ak,X2,X3,if_true,if_false,and_true,true_and]
def qc (ds:List rP):List aP:=lh ((ds.take 15).map dE)
theorem KT {x:Value} (h:Lo A ds x):∃v A',bL ai 56 [x,.int .i64 (15:Nat)] A v A'∧fm A' (qc ds) v∧Kp A A':=by
 obtain⟨y,B,⟨g1,h1⟩,hB,kB⟩:=Ee (n:=15) h (by omega);obtain⟨v,C,⟨g2,h2⟩,hC,kC⟩:=KA hB (by rw [Yb,Yo];omega);refine⟨v,C,?_,hC,kB.trans kC⟩;refine aT (aB Tryz.func56) (c:=Tryz.f56.body.getD .skip) (by kernel_rfl) (by rw [Tryz.ntmps56];simp) (by kernel_rfl) (by kernel_rfl) ?_;apply W.a6 (g1+g2) 60
 ·intro M hM;simp (disch:=first|decide+kernel|omega) only [Tryz.f56,Aq,X2,h1,h2];rfl
 exact⟨by simp,rfl,rfl,by simp only [Tryz.f56,Aq,X2,h1,h2]<;>rfl⟩
theorem S4 (d:rP):1≤(dE d).word.length∧(dE d).word.length≤9:=by
 unfold dE BO;rw [ur];show 1≤(n7 d.ls).length∧(n7 d.ls).length≤9;unfold n7;split
 ·simp
 ·rename_i h;have:(qb9 nM (List.take 9 d.ls)).length≤9:=by rw [Yb,Yo];omega
  exact⟨YM.2 h,this⟩
theorem N9 (ds:List rP) (hw:∀d∈ds,d.wt<4294967296):rj (qc ds)∧(qc ds).length≤15∧∀e∈qc ds,(1≤e.word.length∧e.word.length≤9)∧e.weight<4294967296:=by
 refine⟨AE _,YC (A7 _) (by rw [Yb,Yo];omega),Ka _ fun e he=>?_⟩;obtain⟨d,hd,rfl⟩:=YN.1 he;rw [ur];refine⟨S4 d,?_⟩;have hwt:=hw d (List.mem_of_mem_take hd);unfold dE BO bare;split<;>simp<;>omega
def yO (A:Mem) (dss:List (List rP)) (x:Value):Prop:=
 (x= .slice none 0 0∧dss=[])∨(x=D6∧dss=[])∨∃q off cp,x= .slice (some ⟨q,off,none⟩) dss.length cp∧(dss=[]∨(q<A.next∧∃t kd fz c,A.get q=some (.cells t kd fz c)∧
  ∀(i:Nat) (ds:List rP),dss[i]?=some ds→∃y,c.get (off+i)=some y∧Lo A ds y))
theorem Wl:ai.bp 22=some (.slice 111):=by kernel_rfl
theorem Xp:aY ai 111= .ok 1:=by kernel_rfl
variable {dss:List (List rP)}
theorem yO.kp {x:Value} (h:yO A dss x) (k:Kp A A'):yO A' dss x:=by
 rcases h with h|h|⟨q,off,cp,h1,h2⟩
 ·exact .inl h
 ·exact .inr (.inl h)
 ·refine .inr (.inr ⟨q,off,cp,h1,?_⟩);rcases h2 with h2|⟨h2,t,kd,fz,c,h3,h4⟩
  ·exact .inl h2
  ·exact .inr ⟨Yt h2 k.1,t,kd,fz,c,by rw [k.2 _ h2];exact h3,fun i d hd=>by
    obtain⟨y,e1,e2⟩:=h4 i d hd;exact⟨y,e1,e2.kp k⟩⟩
theorem yO.len {x:Value} (h:yO A dss x):aO ai .len [22] [x]= .ok (.int .i64 (dss.length:Nat)):=by
 rcases h with⟨rfl,rfl⟩|⟨rfl,rfl⟩|⟨q,off,cp,rfl,-⟩
 ·exact dJ Wl
 ·kernel_rfl
 ·exact dJ Wl
theorem yO.at {x:Value} (h:yO A dss x) (hi:dss[i]?=some ds):
 ∃p y,aZ ai 22 x (.int .i64 i)= .ok (.pointer (some p))∧aq ai A.get 111 (.pointer (some p))= .ok y∧Lo A ds y:=by
 rcases h with⟨-,rfl⟩|⟨-,rfl⟩|⟨q,off,cp,rfl,h2⟩
 ·simp at hi
 ·simp at hi
 ·rcases h2 with rfl|⟨h2,t,kd,fz,c,h3,h4⟩
  ·simp at hi
  ·have hlt:=(X_.1 hi).1;have hb:Ye i dss.length=true:=by rw [Yl];exact hlt
   have hn:lP (.int .i64 i)= .ok i:=rfl;obtain⟨y,e1,e2⟩:=h4 i ds hi;refine⟨⟨q,off+i*1,none⟩,y,?_,?_,e2⟩
   ·unfold aZ;simp only [hn,Wl,hb,cond_true,Xp,R.aA,jh]
   ·have hag:cN (.slice 235)=false:=rfl;unfold aq;simp only [h3,Pg,hag,cond_false,Zf,e1]
def mm (A:Mem) (ls:List (List aP)) (y:Value):Prop:=∃(b:Nat) (xs:List Value),az A 60 1 b (xs.map fun v=>[v]) y∧xs.length=ls.length∧∀(i:Nat) (l:List aP),ls[i]?=some l→∃x,xs[i]?=some x∧fm A l x
theorem Ww:ai.bp 52=some (.slice 60):=by kernel_rfl
theorem XS:aY ai 60= .ok 1:=by kernel_rfl
theorem WI:cq ai 60= .ok (1,[.slice none 0 0]):=by kernel_rfl
theorem W5:∃i,ai.ty.get 60=some i∧0<i.bytes∧i.bytes≤65536:=by
 have h:(ai.ty.get 60).map (fun i=>Ye 0 i.bytes&&X5 i.bytes 65536)=some true:=by kernel_rfl
 cases hq:ai.ty.get 60 with
 |none=>rw [hq] at h;cases h
 |some i=>
  rw [hq] at h;simp only [YI,YB,Yq,Yl] at h;exact⟨i,rfl,h.1,Yx h.2⟩
theorem mm.kp {ls:List (List aP)} (h:mm A ls y) (k:Kp A A'):mm A' ls y:=by
 obtain⟨b,xs,h1,h2,h3⟩:=h;refine⟨b,xs,h1.same k.1 (k.2 b),h2,fun i l hl=>?_⟩;obtain⟨x,e1,e2⟩:=h3 i l hl;exact⟨x,e1,e2.kp k⟩
theorem mm.len {ls:List (List aP)} (h:mm A ls y):aO ai .len [52] [y]= .ok (.int .i64 (ls.length:Nat)):=by
 obtain⟨b,xs,h1,h2,-⟩:=h;have:=az.len (tb:=ai) h1 Ww;rwa [Yb,h2] at this
theorem mm.at {ls:List (List aP)} {l:List aP} (h:mm A ls y) (hi:ls[i]?=some l):∃p x,aZ ai 52 y (.int .i64 i)= .ok p∧aq ai A.get 60 p= .ok x∧fm A l x:=by
 obtain⟨b,xs,h1,h2,h3⟩:=h;obtain⟨x,e1,e2⟩:=h3 i l hi;have hl:i<(xs.map fun v=>[v]).length:=by rw [Yb];exact(X_.1 e1).1
 refine⟨_,x,az.idx h1 Ww XS hl,?_,e2⟩;have:=az.load (tb:=ai) (j:=0) (l:=[x]) (v:=x) h1 VC rfl (by rw [Yr,e1];rfl) rfl (by omega);rwa [YU] at this
variable {c:Nat}
theorem Vm {a:Option Addr}:bc ai 52 1 [(0,.slice a m c)]= .ok (aa 60 [.slice a m c],.m_ 1 2):=by kernel_rfl
theorem Xu {l:List aP} {x:Value} (h:fm A l x):bc ai 52 1 [(0,x)]= .ok (aa 60 [x],.m_ 1 2):=by
 obtain⟨b,h⟩:=h;rcases h with⟨rfl,-⟩|⟨_,_,rfl,-⟩<;>exact Vm
def iI (dss:List (List rP)):List (List aP):=((dss.take 6).map qc).filter fun l=>!l.isEmpty
theorem Jr {l:List aP} (h:l∈iI dss):l≠ []:=by
 unfold iI at h;have:=(Zq.1 h).2;rintro rfl;simp at this
variable {ls:List (List Value)}
theorem OO {e e':TypeId} {n':Nat} {ls':List (List Value)} {x:Value} (h:az A e n b ls x) (h':az A e' n' b' ls' x') (h0:ls≠ []) (h0':ls'≠ []) (he:e≠e'):b≠b':=by
 rintro rfl;rcases h with⟨-,h⟩|⟨_,_,-,-,⟨_,h1,-⟩,-⟩
 ·exact h0 h
 ·rcases h' with⟨-,h⟩|⟨_,_,-,-,⟨_,h2,-⟩,-⟩
  ·exact h0' h
  ·rw [h1] at h2;injection h2 with h2;injection h2 with h2;exact he h2
theorem HS:ax ai 29 (pw b 0) 0= .ok (pw b 0):=by kernel_rfl
noncomputable def uv:Code:=qa5.body.getD .skip
noncomputable def nZ:Code:=sub uv [1,1,0,1,0,0]
theorem Gf:qa5.body=some (.seq (sub uv [0]) (.seq (sub uv [1,0]) (.seq (.seq (sub uv [1,1,0,0]) (.block 0 (.loop nZ))) (.seq (sub uv [1,1,1,0]) (sub uv [1,1,1,1]))))):=by kernel_rfl
theorem JG (h:dss[i]?=some ds) (hi:i<6):iI (dss.take (i+1))=if qc ds=[] then iI (dss.take i) else iI (dss.take i)++[qc ds]:=by
 obtain⟨hl,rfl⟩:=X_.1 h;unfold iI;rw [qb3,qb3,ZY (by omega),ZY (by omega),Yd hl,YV,qaC];split
 ·rename_i h0;simp [h0]
 ·rename_i h0;simp [h0]
theorem B' (dss:List (List rP)):(iI dss).length≤6:=by
 unfold iI;refine YC (qaL _ _) ?_;rw [Yb,Yo];omega
theorem Lf {x:Value} {rest:List Value} (h:yO A dss x) (hr:rest.length=7):∃v A',bL ai 21 [.agg ⟨x::rest⟩] A v A'∧mm A' (iI dss) v∧Kp A A':=by
 refine cS (aB Tryz.func21) Gf (by rw [Tryz.ntmps21];simp) (by kernel_rfl) (by kernel_rfl) ?_;have kB:=Kp.alloc A (aa 29 (x::rest));have vB:=aF A 29 (x::rest);apply W.seq;apply W.run 20
 ·intro M;simp (disch:=first|decide+kernel|omega) only [uv,qa5,Aq,X2,au];rfl
 show W ai _ _ _;have hB:=h.kp kB;generalize A.alloc (aa 29 (x::rest))=B at kB vB hB;have lx:∀D,Kp B D→aq ai D.get 22 (.pointer (some ⟨A.next,0,none⟩))= .ok x:=fun D hD=>(vB.kp hD).ld rfl Wl rfl
 apply W.seq;apply W.run 20
 ·intro M;simp (disch:=first|decide+kernel|omega) only [uv,qa5,Aq,X2];rfl
 apply W.seq;apply W.seq;apply W.run 20
 ·intro M;simp (disch:=first|decide+kernel|omega) only [uv,qa5,Aq,X2];rfl
 apply W.block;have hmin:min dss.length 6≤dss.length∧min dss.length 6≤6:=⟨qaM _ _,qbJ _ _⟩;refine W.up (min dss.length 6) (fun i t D=>Kp B D∧∃b xs y,az D 60 1 b (xs.map fun v=>[v]) y∧B.next≤b∧(xs=[]→y= .slice none 0 0)∧xs.length=(iI (dss.take i)).length∧(∀(j:Nat) (l:List aP),(iI (dss.take i))[j]?=some l→∃x,xs[j]?=some x∧fm D l x)∧Sl t [(1,.pointer (some ⟨A.next,0,none⟩)),(3,y),(4,.int .i64 i)]) ?_ (Yg _) ⟨Kp.refl _,B.next,[],.slice none 0 0,az.nil _ _ _ _,X9 _,fun _=>rfl,by simp [iI],fun j l hl=>by simp [iI] at hl,?_⟩
 ·rintro i t D hi ⟨kD,b,xs,y,hS,hb,hy0,hxl,hE,g1,g3,g4,-⟩;have lD:=lx D kD;have hD:=hB.kp kD;have lenD:=hD.len;by_cases hlt:i<min dss.length 6
  ·have h1:i<dss.length:=by omega
   have h2:i<6:=by omega
   have hds:dss[i]?=some dss[i]:=X6 h1;obtain⟨p,z,j1,j2,hz⟩:=hD.at hds;have htk:=JG hds h2;have hll:=B' (dss.take i);generalize dss[i]=ds at*;obtain⟨v,E,⟨g,hg⟩,⟨c,hv⟩,kE⟩:=KT hz;have hlen:=fm.len ⟨c,hv⟩;by_cases h0:qc ds=[]
   ·have h0l:¬0<(qc ds).length:=by rw [h0];simp
    apply W.a6 (g) 20
    ·intro M hM;simp (config:={maxSteps:=4000000}) (disch:=first|decide+kernel|omega|simp only [Wq,X2]) only [nZ,uv,qa5,Aq,X5,reduceIte,X2,X3,g1,g3,g4,HS,lD,lenD,h1,h2,j1,j2,hg,hlen,h0l,bR,bw];rfl
    rw [if_pos h0] at htk;refine⟨hlt,_,_,rfl,kD.trans kE,b,xs,y,hS.same kE.1 (kE.2 b),hb,hy0,by rw [htk];exact hxl,fun j l hl=>?_,?_⟩
    ·rw [htk] at hl;obtain⟨x',e1,e2⟩:=hE j l hl;exact⟨x',e1,e2.kp kE⟩
    ·simp only [av,aw,T.af,T.ag,T.ak,X2,X3,if_true,if_false,and_true,true_and,g1,g3]
   ·have h0l:0<(qc ds).length:=YM.2 h0;obtain⟨ti,t1,t2,t3⟩:=W5;have hSE:az E 60 1 b (xs.map fun v=>[v]) y:=hS.same kE.1 (kE.2 b);have hSE':az (E.alloc (aa 60 [v])) 60 1 b (xs.map fun v=>[v]) y:=hSE.same (by rw [ae];omega) fun h=>aH (by omega)
    have hvs:=az.dm hv;obtain⟨x',F,happ,hs3,hn3,hf3⟩:=az.append (tb:=ai) (st:=52) (xt:=52) hSE' Ww Ww WI t1 t2 t3 (by omega) (by omega) (by rw [Yb];omega) (aD E _) rfl (by
     intro w hw;rw [Y7.1 hw];exact hvs.2)
    rw [ae] at hs3 hn3 hf3;have bs:=Xu ⟨_,hv⟩;have hkD:=kD.1;have hkE:=kE.1;have keep:∀z,z<E.next→(z=b→y= .slice none 0 0)→F.get z=E.get z:=fun z hz hzb=>by rw [hf3 z hzb (by omega),aH (by omega)]
    have keepE:∀{l:List aP} {x:Value},l≠ []→fm E l x→fm F l x:=by
     rintro l x hl ⟨c',e⟩;refine⟨c',e.same (by omega) fun hlt=>keep c' hlt fun he=>?_⟩;by_cases hx:xs=[]
     ·exact hy0 hx
     ·exact absurd he.symm (OO hSE e (fun e=>hx (YK.1 e)) (fun e=>hl (YK.1 e)) (by decide))
    apply W.a6 (g) 20
    ·intro M hM;simp (config:={maxSteps:=4000000}) (disch:=first|decide+kernel|omega|simp only [Wq,X2]) only [nZ,uv,qa5,Aq,X5,reduceIte,X2,X3,g1,g3,g4,HS,lD,lenD,h1,h2,j1,j2,hg,hlen,h0l,bR,bw,bs,happ];rfl
    rw [if_neg h0] at htk;refine⟨hlt,_,_,rfl,⟨by omega,fun z hz=>by rw [keep z (by omega) (fun e=>by omega),kE.2 z (by omega),kD.2 z hz]⟩,E.next+1,xs++[v],x',by rw [YV];exact hs3,by omega,fun h=>by simp at h,by rw [htk,X',X',hxl];rfl,fun j l hl=>?_,?_⟩
    ·rw [htk] at hl;rcases YE j (iI (dss.take i)).length with hj|hj
     ·rw [Yz hj] at hl;obtain⟨x1,e1,e2⟩:=hE j l hl;exact⟨x1,by rw [Yz (by omega)];exact e1,keepE (Jr (YF hl)) (e2.kp kE)⟩
     ·rw [YA hj] at hl;cases hq:j-(iI (dss.take i)).length with
      |succ n=>rw [hq] at hl;simp at hl
      |zero=>
       rw [hq] at hl;cases hl;exact⟨v,by rw [YA (by omega),show j-xs.length=0 by omega];rfl,keepE h0 ⟨c,hv⟩⟩
    ·simp only [av,aw,T.af,T.ag,T.ak,X2,X3,if_true,if_false,and_true,true_and,g1]
  ·have e:i=min dss.length 6:=by omega
   have hfin:iI (dss.take i)=iI dss:=by
    unfold iI;rw [qb3,e];congr 2;rw [show min 6 (min dss.length 6)=min dss.length 6 by omega];rcases qbT dss.length 6 with h|h
    ·rw [Y4 h,Yw,Zt h]
    ·rw [ZY h]
   rw [hfin] at hxl hE;have hex:W ai nZ ⟨t,31,[],D,none⟩ (fun e s'=>∃t',e= .exit 0∧s'=⟨t',31,[],D,none⟩∧Sl t' [(3,y)]):=by
    by_cases h1:i<dss.length
    ·have h2:¬i<6:=by omega
     apply W.run 20
     ·intro M;simp (config:={maxSteps:=4000000}) (disch:=first|decide+kernel|omega|simp only [Wq,X2]) only [nZ,uv,qa5,Aq,X5,reduceIte,X2,X3,g1,g4,HS,lD,lenD,h1,h2];rfl
     refine⟨_,rfl,rfl,?_⟩;simp only [av,aw,T.af,T.ag,T.ak,X2,X3,if_true,if_false,and_true,true_and,g3]
    ·apply W.run 20
     ·intro M;simp (config:={maxSteps:=4000000}) (disch:=first|decide+kernel|omega|simp only [Wq,X2]) only [nZ,uv,qa5,Aq,X5,reduceIte,X2,X3,g1,g4,HS,lD,lenD,h1];rfl
     refine⟨_,rfl,rfl,?_⟩;simp only [av,aw,T.af,T.ag,T.ak,X2,X3,if_true,if_false,and_true,true_and,g3]
   refine hex.mono ?_;rintro e s' ⟨t',rfl,rfl,f3,-⟩;apply W.seq;apply W.run 20
   ·intro M;simp (disch:=first|decide+kernel|omega) only [uv,qa5,Aq,X2,f3];rfl
   apply W.run 20
   ·intro M;simp (disch:=first|decide+kernel|omega) only [uv,qa5,Aq,X2];rfl
   exact⟨by simp,rfl,_,(by simp only [qa5,Aq,X2]<;>rfl),⟨b,xs,hS,hxl,hE⟩,kB.trans kD⟩
 ·simp only [av,aw,T.af,T.ag,T.ak,X2,X3,if_true,if_false,and_true,true_and]
theorem az.Ls {e e':TypeId} {r:Nat} {k:Kd} {x:Value} (h:az A e n b ls x) (hv:VB A e' r k l) (he:e≠e') (K:wm r A A'):az A' e n b ls x:=by
 rcases h with h|⟨k',c,h1,h2,⟨cs,h3,h3'⟩,h4⟩
 ·exact .inl h
 ·refine .inr ⟨k',c,h1,Yt h2 K.1,⟨cs,?_,h3'⟩,h4⟩;rw [K.2 b h2 (fun e1=>?_)]
  ·exact h3
  ·obtain⟨cs',q,-⟩:=hv.2;rw [←e1,h3] at q;injection q with q;injection q with q;exact he q
theorem eT (n:Nat):bN (2*n)=n∧eA (2*n)=true:=by
 have h:eA (2*n)=true:=by unfold eA;rw [qab];show 2*n % 2=0;omega
 refine⟨?_,h⟩;unfold bN;rw [h,cond_true];show 2*n/2=n;omega
theorem G8 {e t:TypeId} {x:Value} (h:az A e n b ls x) (hu:tb.bp t=some (.slice e)) (hs:aY tb e= .ok n) (hn:n<65536) (h0:ls=[]→x= .slice none 0 0):
 ∃x',dj tb t x none (some (.int .i64 ls.length)) (some (.int .i64 ls.length))= .ok x'∧az A e n b ls x'∧(x= .slice none 0 0→x'= .slice none 0 0):=by
 have hb:∀m:Nat,bound (some (.int .i64 m)) 0 m= .ok m:=fun m=>by
  show(bif X5 m m then R.ok m else _)=_;rw [show X5 m m=true by rw [qaT];exact X9 _];rfl
 rcases h with⟨rfl,rfl⟩|⟨k,c,rfl,h2,h3,h4,h5⟩
 ·refine⟨.slice none 0 0,?_,az.nil _ _ _ _,fun _=>rfl⟩;unfold dj;simp only [hu,hs,R.aA];rfl
 ·have hne:ls.length≠0:=fun e=>by
   have:=h0 (Yh.1 e);cases this
  have hc:bN c=ls.length∧(eA c||(eG c n&&Ye 0 (bN c)))=true:=by
   rcases h5 with rfl|⟨rfl,-⟩
   ·obtain⟨q1,q2⟩:=eT ls.length;exact⟨q1,by rw [q2];rfl⟩
   ·have q:=cm (n:=ls.length) hn;refine⟨q,?_⟩;have e1:eG (fe ls.length n) n=true:=by
     unfold eG;rw [cH,cond_false,qab];show(2*(ls.length*65536+n)+1)/2 % 65536=n;omega
    rw [cH,e1,q,show Ye 0 ls.length=true by rw [Yl];omega];rfl
  refine⟨.slice (some ⟨b,0,none⟩) ls.length (2*ls.length),?_,.inr ⟨k,_,rfl,h2,h3,h4,.inl rfl⟩,fun h=>by cases h⟩;unfold dj;simp only [hu];rw [hc.1];have hb0:bound none 0 ls.length= .ok 0:=rfl;have hc2:=hc.2;rw [hc.1] at hc2;simp only [hb,R.aA,hb0,hs,hc.2,hc2,cond_true,qaE];rw [show Yc ls.length 0=false by cases hq:Yc ls.length 0 with
   |false=>rfl
   |true=>exact absurd (Yn hq) hne]
  rfl
theorem JB {e t:TypeId} {x:Value} (h:az A e n b ls x) (hu:tb.bp t=some (.slice e)) (hs:aY tb e= .ok n) (hn:n<65536) (h0:ls=[]→x= .slice none 0 0):
 ∃x',dj tb t x none (some (.int .i64 ls.length)) none= .ok x'∧az A e n b ls x':=by
 rcases h with⟨rfl,rfl⟩|⟨k,c,rfl,h2,h3,h4,h5⟩
 ·refine⟨.slice none 0 0,?_,az.nil _ _ _ _⟩;unfold dj;simp only [hu,hs,R.aA];rfl
 ·have hne:ls.length≠0:=fun e=>by
   have:=h0 (Yh.1 e);cases this
  have hc:bN c=ls.length∧eG c n=true∧gO c 0=c:=by
   rcases h5 with rfl|⟨rfl,-⟩
   ·obtain⟨q1,q2⟩:=eT ls.length;refine⟨q1,?_,?_⟩
    ·unfold eG;rw [q2];rfl
    ·unfold gO;rw [q2,q1];rfl
   ·have q:=cm (n:=ls.length) hn;have e0:iQ (fe ls.length n)=n:=by
     show(2*(ls.length*65536+n)+1)/2 % 65536=n;omega
    refine⟨q,?_,?_⟩
    ·unfold eG;rw [cH,cond_false,e0,qab]
    ·unfold gO;rw [cH,cond_false,q,e0];rfl
  refine⟨.slice (some ⟨b,0,none⟩) ls.length c,?_,.inr ⟨k,_,rfl,h2,h3,h4,h5⟩⟩;unfold dj;simp only [hu];rw [hc.1];have hb:bound (some (.int .i64 ls.length)) ls.length ls.length= .ok ls.length:=by
   show(bif X5 ls.length ls.length then R.ok ls.length else _)=_;rw [show X5 ls.length ls.length=true by rw [qaT];exact X9 _];rfl
  have hb0:bound none 0 ls.length= .ok 0:=rfl;simp only [hb,R.aA,hb0,hs,qaE,hc.2.1,hc.2.2,cond_true];rw [show Yc ls.length 0=false by cases hq:Yc ls.length 0 with
   |false=>rfl
   |true=>exact absurd (Yn hq) hne,Bool.and_false]
  rfl
theorem uY (w:List UInt8):∀(ns:List (List UInt8)) (o:Nat),cQ (ns++[w]) o=cQ ns o++[⟨strOf w,.int .i64 (o+ns.length+1:Nat),o+ns.length⟩]
 | [],o=>rfl
 |n::ns,o=>by
  rw [YT,cQ,uY w ns (o+1),cQ,YT,Yf,show o+1+ns.length=o+(ns.length+1) by omega]
theorem uX (p:Nat):∀(ps:List Nat) (o:Nat),eW (ps++[p]) o=eW ps o++[⟨.int .i64 (o+ps.length+1:Nat),.pointer (some ⟨p,0,none⟩),o+ps.length⟩]
 | [],o=>rfl
 |n::ps,o=>by
  rw [YT,eW,uX p ps (o+1),eW,YT,Yf,show o+1+ps.length=o+(ps.length+1) by omega]
variable {mn:Nat} {ns:List (List UInt8)}
theorem D8 {w:List UInt8} (h:A.get mn=some (.map (cQ ns 0) ns.length)) (hw:w∉ns):
 cF ai A 121 (.map (some mn)) (strOf w) (.int .i64 (ns.length+1:Nat))= .ok (A.set mn (.map (cQ (ns++[w]) 0) (ns++[w]).length)):=by
 have hk:ei ai 9 (strOf w)=true:=by unfold ei;rw [u9];rfl
 have hf:ns.findIdx? (fun n=>decide (w=n))=none:=by
  rw [qaS];intro n hn;simpa using fun e:w=n=>hw (e▸hn)
 unfold cF;simp only [qo,hk,cond_true,h,um,hf,qbb];rw [uY,Yy,X'];rfl
variable {p:Nat}
theorem On {mf:Nat} {ps:List Nat} (h:A.get mf=some (.map (eW ps 0) ps.length)):
 cF ai A 79 (.map (some mf)) (.int .i64 (ps.length+1:Nat)) (pw p 0)= .ok (A.set mf (.map (eW (ps++[p]) 0) (ps++[p]).length)):=by
 have hk:ei ai 3 (.int .i64 (ps.length+1:Nat))=true:=by unfold ei;rw [u3]
 have hf:ps[ps.length]?=none:=YR (X9 _);unfold cF;simp only [C9,hk,cond_true,h,uF ps.length ps 0 0 (Yg _),Zd,hf,qbb];rw [uX,Yy,X'];rfl
variable {l':List Value}
theorem VB.ne {e e':TypeId} {z z':Nat} {k k':Kd} (h:VB A e z k l) (h':VB A e' z' k' l') (he:e≠e'):z≠z':=by
 rintro rfl;obtain⟨_,q,-⟩:=h.2;obtain⟨_,q2,-⟩:=h'.2;rw [q] at q2;injection q2 with q2;injection q2 with q2;exact he q2
theorem VB.zi {e:TypeId} {z:Nat} {k:Kd} {es:List MapEntry} (h:VB A e z k l) (hm:A.get m=some (.map es c)):z≠m:=by
 rintro rfl;obtain⟨_,q,-⟩:=h.2;rw [q] at hm;cases hm
theorem az.Xh {e e':TypeId} {z:Nat} {k:Kd} {x:Value} (h:az A e n b ls x) (h':VB A e' z k l) (he:e'≠e) (h0:ls≠ []):z≠b:=by
 rcases h with⟨-,hh⟩|⟨k',_,-,h1,h2,-⟩
 ·exact absurd hh h0
 ·exact VB.ne h' (⟨h1,h2⟩:VB A e b k' _) he
theorem az.zi {e:TypeId} {x:Value} {es:List MapEntry} (h:az A e n b ls x) (hm:A.get m=some (.map es c)) (h0:ls≠ []):m≠b:=by
 rcases h with⟨-,hh⟩|⟨k',_,-,h1,h2,-⟩
 ·exact absurd hh h0
 ·exact(VB.zi (⟨h1,h2⟩:VB A e b k' _) hm).symm
def jV (w:List UInt8) (t s:Nat):List Value:=[strOf w,.func (.func 65) ⟨[]⟩ ⟨[pV t,pV s]⟩]
def BC:List UInt8:=[99,114,101,97,116,101]
def Fold (A:Mem) (p ml mn b:Nat) (ns:List (List UInt8)):Prop:=∃x rows,VB A 124 p (.var 4) [.map (some ml),.map (some mn),x,.int .i64 ns.length]∧(ml<A.next∧A.get ml=some (.map [] 0))∧(mn<A.next∧A.get mn=some (.map (cQ ns 0) ns.length))∧ml≠mn∧
 az A 177 2 b rows x∧(ns=[]→x= .slice none 0 0)∧rows.length=ns.length∧∀(i:Nat) (w:List UInt8),ns[i]?=some w→∃t s,rows[i]?=some (jV BC t s)∧VB A 3 t (.var 1) [.int .i64 (i+1:Nat)]∧VB A 9 s (.var 1) [strOf w]
theorem tY:ax ai 124 (pw b 0) 2= .ok (pw b 2):=by kernel_rfl
theorem NY:ax ai 124 (pw b 0) 3= .ok (pw b 3):=by kernel_rfl
theorem GP:ax ai 177 (pw b o) 1= .ok (pw b (o+1)):=by kernel_rfl
theorem BJ:b7 ai 177= .ok (.agg ⟨[.string .empty,.nilFunc]⟩):=by kernel_rfl
theorem F0:aY ai 177= .ok 2:=by kernel_rfl
theorem Vz:cq ai 177= .ok (2,[.string .empty,.nilFunc]):=by kernel_rfl
theorem vO:ai.bp 122=some (.slice 177):=by kernel_rfl
theorem IG:aY ai 122= .ok 1:=by kernel_rfl
theorem LM:aY ai 3= .ok 1:=by kernel_rfl
theorem Vn:∃i,ai.ty.get 177=some i∧0<i.bytes∧i.bytes≤65536:=by
 have h:(ai.ty.get 177).map (fun i=>Ye 0 i.bytes&&X5 i.bytes 65536)=some true:=by kernel_rfl
 cases hq:ai.ty.get 177 with
 |none=>rw [hq] at h;cases h
 |some i=>
  rw [hq] at h;simp only [YI,YB,Yq,Yl] at h;exact⟨i,rfl,h.1,Yx h.2⟩
theorem RR {w:List UInt8} {t s:Nat}:cr ai 177 [(0,strOf w),(1,.func (.func 65) ⟨[]⟩ ⟨[pw t 0,pw s 0]⟩)]= .ok (.agg ⟨jV w t s⟩):=by kernel_rfl
theorem RQ {w:List UInt8} {t s:Nat}:bc ai 122 1 [(0,.agg ⟨jV w t s⟩)]= .ok (aa 177 (jV w t s),.m_ 1 2):=by kernel_rfl
theorem LD:∃d,ai.bp 128=some d∧cN d=false:=bA (by kernel_rfl)
theorem Og {t s k:Nat} {w:List UInt8} (h:A.get mn=some (.map (cQ ns 0) ns.length)) (hw:w∉ns) (ht:VB A 3 t (.var 1) [.int .i64 (ns.length+1:Nat)]) (hs:VB A 9 s (.var 1) [strOf w]):
 bL ai 65 [.map (some mn),pV t,pV s] A (.tuple ⟨[]⟩) (A.set mn (.map (cQ (ns++[w]) 0) (ns++[w]).length)):=by
 have l1:aq ai A.get 9 (pw s 0)= .ok (strOf w):=hs.ld rfl u9 rfl;have l2:aq ai A.get 3 (pw t 0)= .ok (.int .i64 (ns.length+1:Nat)):=ht.ld rfl u3 rfl;have l3:=D8 h hw;simp only [pV];refine aT (aB Tryz.func65) (c:=Tryz.f65.body.getD .skip) (by kernel_rfl) (by rw [Tryz.ntmps65];simp) (by kernel_rfl) (by kernel_rfl) ?_;apply W.run 60
 ·intro M;simp (disch:=first|decide+kernel|omega) only [Tryz.f65,Aq,X2,l1,l2,dL,l3,cM];rfl
 exact⟨by simp,rfl,rfl,by simp only [Tryz.f65,Aq,X2,l1,l2,dL,l3,cM]<;>rfl⟩
theorem eB {z:Nat} {o:Ob}:(A.set b o).get z=if z=b then some o else A.get z:=aL _ _ _ _
theorem FQ {ml:Nat} {w:List UInt8} (h:Fold A p ml mn b ns) (hw:w∉ns) (hl:0<w.length∧w.length≤64) (hn:ns.length<1000):
 ∃v A' b',bL ai 26 [pV p,strOf w] A v A'∧v= .tuple ⟨[.int .i64 (ns.length+1:Nat),.int .i64 (0:Nat)]⟩∧Fold A' p ml mn b' (ns++[w])∧A.next≤b'∧A.next≤A'.next∧∀z,z<A.next→z≠p→z≠mn→(ns≠ []→z≠b)→A'.get z=A.get z:=by
 obtain⟨x,rows,hV,⟨hml,hml'⟩,⟨hmn,hmn'⟩,hmm,hS,hx0,hrl,hR⟩:=h;have hpA:=hV.1;have hpm:p≠ml∧p≠mn:=⟨hV.zi hml',hV.zi hmn'⟩;have hrn:ns≠ []→rows≠ []:=fun h0 h=>h0 (Yh.1 (by rw [←hrl,h];rfl))
 have kB:=Kp.alloc A (aa 9 [strOf w]);have vB:=aF A 9 [strOf w];have nB:(A.alloc (aa 9 [strOf w])).next=A.next+1:=ae _ _
 generalize hB:A.alloc (aa 9 [strOf w])=B at kB vB nB;have VB':=hV.kp kB;have lwB:aq ai B.get 9 (.pointer (some ⟨A.next,0,none⟩))= .ok (strOf w):=vB.ld rfl u9 rfl;have km:=fun ih=>Xn (ih:=ih) (A:=B) (w:=w)
 rw [decide_eq_true hl] at km;have lm:aq ai B.get 121 (.pointer (some ⟨p,1,none⟩))= .ok (.map (some mn)):=VB'.ld rfl qo rfl;have lk:=zW (A:=B) (w:=w) (ns:=ns) (c:=ns.length) (by rw [kB.2 _ hmn];exact hmn');have hno:numOf ns w=0:=by
  unfold numOf;rw [qaS.2 (fun n hn=>by simpa using fun e:w=n=>hw (e▸hn))];rfl
 rw [hno] at lk;have lc:aq ai B.get 3 (.pointer (some ⟨p,3,none⟩))= .ok (.int .i64 ns.length):=VB'.ld rfl u3 rfl;have a1:aN .add .i64 ((ns.length:Nat):Int) ((1:Nat):Int)= .ok (.int .i64 (ns.length+1:Nat)):=a9 (aR (by omega));obtain⟨C,sC,vC,nC,fC⟩:=a_ (tb:=ai) (t:=3) (o:=3) (v:=.int .i64 (ns.length+1:Nat)) LM VB'.2 (by simp) rfl rfl;have lcC:aq ai C.get 3 (.pointer (some ⟨p,3,none⟩))= .ok (.int .i64 (ns.length+1:Nat)):=bf u3 rfl vC rfl;have sD:aW ai (C.alloc (aa 3 [.int .i64 (0:Nat)])) 3 (.pointer (some ⟨C.next,0,none⟩)) (.int .i64 (ns.length+1:Nat))= .ok (C.alloc (aa 3 [.int .i64 (ns.length+1:Nat)])):=df LM rfl rfl (by simp);have kD:=Kp.alloc C (aa 3 [.int .i64 (ns.length+1:Nat)]);have vD:=aF C 3 [.int .i64 (ns.length+1:Nat)];have nD:(C.alloc (aa 3 [.int .i64 (ns.length+1:Nat)])).next=C.next+1:=ae _ _
 generalize hD:C.alloc (aa 3 [.int .i64 (ns.length+1:Nat)])=D at kD vD nD;have ltD:aq ai D.get 3 (.pointer (some ⟨C.next,0,none⟩))= .ok (.int .i64 (ns.length+1:Nat)):=vD.ld rfl u3 rfl;have fBD:∀z,z<B.next→z≠p→D.get z=B.get z:=fun z hz hp=>by rw [kD.2 z (by omega),fC z hp]
 have fAD:∀z,z<A.next→z≠p→D.get z=A.get z:=fun z hz hp=>by rw [fBD z (by omega) hp,kB.2 z hz]
 have VD:VB D 124 p (.var 4) [.map (some ml),.map (some mn),x,.int .i64 (ns.length+1:Nat)]:=⟨by omega,(show dD C 124 p (.var 4) [.map (some ml),.map (some mn),x,.int .i64 (ns.length+1:Nat)] from vC).same (kD.2 _ (by omega))⟩;have vsD:VB D 9 A.next (.var 1) [strOf w]:=⟨by omega,vB.2.same (fBD _ (by omega) (by omega))⟩
 have hr0:rows=[]→x= .slice none 0 0:=fun h=>hx0 (Yh.1 (by rw [←hrl,h];rfl))
 have hSD:az D 177 2 b rows x:=az.Ls hS hV (by decide) ⟨by omega,fun z hz hp=>fAD z hz hp⟩;have sE:aW ai (D.alloc (aa 177 [.string .empty,.nilFunc])) 177 (.pointer (some ⟨D.next,0,none⟩)) (.agg ⟨jV BC C.next A.next⟩)= .ok (D.alloc (aa 177 (jV BC C.next A.next))):=bn F0 rfl rfl (by simp) (by simp [jV,aJ,strOf]);have kE:=Kp.alloc D (aa 177 (jV BC C.next A.next));have vE:=aF D 177 (jV BC C.next A.next);have nE:(D.alloc (aa 177 (jV BC C.next A.next))).next=D.next+1:=ae _ _
 generalize hE:D.alloc (aa 177 (jV BC C.next A.next))=E at sE kE vE nE;have VE:=VD.kp kE;have lxE:aq ai E.get 122 (.pointer (some ⟨p,2,none⟩))= .ok x:=VE.ld rfl vO rfl;have hSE:=hSD.same kE.1 (kE.2 b);have lenE:=az.len (tb:=ai) hSE vO;obtain⟨x1,hsl,hS1,hx1⟩:=G8 (tb:=ai) (t:=122) hSE vO F0 (by omega) hr0;have lwE:aq ai E.get 177 (.pointer (some ⟨D.next,0,none⟩))= .ok (.agg ⟨jV BC C.next A.next⟩):=by
  obtain⟨d,hd1,hd2⟩:=bA (t:=177) (p:=true) (by kernel_rfl);exact aQ hd1 hd2 F0 vE.2
 obtain⟨ti,t1,t2,t3⟩:=Vn;have hS1':az (E.alloc (aa 177 (jV BC C.next A.next))) 177 2 b rows x1:=hS1.same (by rw [ae];omega) fun h=>aH (by omega)
 obtain⟨x2,F,happ,hs3,hn3,hf3⟩:=az.append (tb:=ai) (st:=122) (xt:=122) hS1' vO vO Vz t1 t2 t3 (by omega) (by omega) (by omega) (aD E _) rfl (by simp [jV,aJ,strOf]);rw [ae] at hs3 hn3 hf3;have keepF:∀z,z<E.next→(ns≠ []→z≠b)→F.get z=E.get z:=fun z hz hb=>by
  rw [hf3 z (fun e=>by
   by_cases h0:ns=[]
   ·exact hx1 (hx0 h0)
   ·exact absurd e (hb h0)) (by omega),aH (by omega)]
 have hpb:ns≠ []→p≠b:=fun h0=>az.Xh hS hV (by decide) (hrn h0)
 obtain⟨G,sG,vG,nG,fG⟩:=a_ (tb:=ai) (t:=122) (o:=2) (v:=x2) IG (VE.2.same (keepF p (by omega) hpb)) (by simp) (az.dm hs3).1 (az.dm hs3).2;have keepG:∀z,z<E.next→z≠p→(ns≠ []→z≠b)→G.get z=E.get z:=fun z hz hp hb=>by rw [fG z hp,keepF z hz hb]
 have hbt:∀z (e:TypeId) (k:Kd) (l:List Value),VB D e z k l→e≠177→(ns≠ []→z≠b):=fun z e k l hz he h0=>az.Xh hSD hz he (hrn h0)
 have vtG:VB G 3 C.next (.var 1) [.int .i64 (ns.length+1:Nat)]:=⟨by omega,vD.2.same (by rw [keepG _ (by omega) (by omega) (hbt _ _ _ _ vD (by decide)),kE.2 _ (by omega)])⟩
 have vsG:VB G 9 A.next (.var 1) [strOf w]:=⟨by omega,vsD.2.same (by rw [keepG _ (by omega) (by omega) (hbt _ _ _ _ vsD (by decide)),kE.2 _ (by omega)])⟩
 have hbm:∀(m:Nat) (es:List MapEntry) (c:Nat),D.get m=some (.map es c)→(ns≠ []→m≠b):=fun m es c hm h0=>az.zi hSD hm (hrn h0)
 have hmnD:D.get mn=some (.map (cQ ns 0) ns.length):=by rw [fAD mn hmn (Ne.symm hpm.2)];exact hmn'
 have hmlD:D.get ml=some (.map [] 0):=by rw [fAD ml hml (Ne.symm hpm.1)];exact hml'
 have hmnG:G.get mn=some (.map (cQ ns 0) ns.length):=by rw [keepG mn (by omega) (Ne.symm hpm.2) (hbm _ _ _ hmnD),kE.2 _ (by omega)];exact hmnD
 have hmlG:G.get ml=some (.map [] 0):=by rw [keepG ml (by omega) (Ne.symm hpm.1) (hbm _ _ _ hmlD),kE.2 _ (by omega)];exact hmlD
 have lfG:aq ai G.get 128 (.pointer (some ⟨D.next,0+1,none⟩))= .ok (.func (.func 65) ⟨[]⟩ ⟨[pV C.next,pV A.next]⟩):=by
  obtain⟨d,hd,ha⟩:=LD;exact bf hd ha (vE.2.same (keepG D.next (by omega) (by omega) (fun h0 e=>by
   have:=yT hSD (hrn h0);omega))) rfl
 have VG:VB G 124 p (.var 4) [.map (some ml),.map (some mn),x2,.int .i64 (ns.length+1:Nat)]:=⟨by omega,vG⟩;have lmG:aq ai G.get 121 (.pointer (some ⟨p,1,none⟩))= .ok (.map (some mn)):=VG.ld rfl qo rfl;obtain⟨g1,h1⟩:=Og (k:=0) hmnG hw vtG vsG;generalize hH:G.set mn (.map (cQ (ns++[w]) 0) (ns++[w]).length)=H at h1;have nH:H.next=G.next:=by rw [←hH];exact aX _ _ _
 have fH:∀z,z≠mn→H.get z=G.get z:=fun z hz=>by rw [←hH,eB,if_neg hz]
 have hdo:bL ai 64 [pV p,strOf BC,.func (.func 65) ⟨[]⟩ ⟨[pV C.next,pV A.next]⟩] D (.int .i64 (0:Nat)) H:=by
  simp only [pV] at*;refine aT (aB Tryz.func64) (c:=Tryz.f64.body.getD .skip) (by kernel_rfl) (by rw [Tryz.ntmps64];simp) (by kernel_rfl) (by kernel_rfl) ?_;apply W.a6 (g1) 60
  ·intro M hM;simp (config:={maxSteps:=4000000}) (disch:=first|decide+kernel|omega|simp only [Wq,X2]) only [Tryz.f64,Aq,X5,reduceIte,X2,X3,RR,BJ,au,hE,sE,aG,a8,qp,tY,lxE,lenE,hsl,lwE,RQ,happ,sG,GP,lfG,lmG,h1,Fq,aC []];rfl
  exact⟨by simp,rfl,rfl,by simp only [Tryz.f64,Aq,X5,reduceIte,X2,X3,RR,BJ,au,hE,sE,aG,a8,qp,tY,lxE,lenE,hsl,lwE,RQ,happ,sG,GP,lfG,lmG,h1,Fq,aC []]<;>rfl⟩
 obtain⟨g2,h2⟩:=hdo;have ltH:aq ai H.get 3 (.pointer (some ⟨C.next,0,none⟩))= .ok (.int .i64 (ns.length+1:Nat)):=VB.ld (tb:=ai) ⟨by have:=vD.1;omega,vD.2.same (by rw [fH C.next (vD.zi hmnD),keepG C.next (by have:=vD.1;omega) (vD.ne VD (by decide)) (hbt _ _ _ _ vD (by decide)),kE.2 _ vD.1])⟩ rfl u3 rfl;have sn:=eg .i64 (ns.length+1) rfl;refine⟨_,H,E.next+1,?_,rfl,⟨x2,rows++[jV BC C.next A.next],⟨by omega,?_⟩,⟨by omega,?_⟩,⟨by omega,?_⟩,hmm,?_,fun h=>by simp at h,by rw [X',X',hrl];rfl,fun i u hu=>?_⟩,by omega,by omega,fun z hz hp hm hb=>?_⟩
 ·simp only [pV] at*;have hcr:∀t:T Value,ev t (.const (.string ⟨#[99,114,101,97,116,101]⟩))= .ok (strOf BC):=fun t=>rfl
  refine aT (aB Tryz.func26) (c:=Tryz.f26.body.getD .skip) (by kernel_rfl) (by rw [Tryz.ntmps26];simp) (by kernel_rfl) (by kernel_rfl) ?_;apply W.a6 (g2) 60
  ·intro M hM;simp (config:={maxSteps:=4000000}) (disch:=first|decide+kernel|omega|simp only [Wq,X2]) only [Tryz.f26,Aq,X5,reduceIte,X2,X3,hB,br,Gx,aV,aG,a8,lwB,km,qp,NY,lm,eO,lk,X8,X7,lc,a1,sC,lcC,gN,hD,sD,ltD,ltH,sn,yV,aS,hcr,h2,Fq,aC [],aC [(0,3)]];rfl
  exact⟨by simp,rfl,rfl,by simp only [Tryz.f26,Aq,X5,reduceIte,X2,X3,hB,br,Gx,aV,aG,a8,lwB,km,qp,NY,lm,eO,lk,X8,X7,lc,a1,sC,lcC,gN,hD,sD,ltD,ltH,sn,yV,aS,hcr,h2,Fq,aC [],aC [(0,3)]]<;>rfl⟩
 ·rw [X'];exact vG.same (fH p hpm.2)
 ·rw [fH ml hmm];exact hmlG
 ·rw [←hH,eB,if_pos rfl]
 ·have e1:az G 177 2 (E.next+1) (rows++[jV BC C.next A.next]) x2:=hs3.same (by omega) fun _=>fG _ (by omega)
  exact e1.same (by omega) fun _=>fH _ (by omega)
 ·rcases YE i ns.length with hi|hi
  ·rw [Yz hi] at hu;obtain⟨t,s,e1,e2,e3⟩:=hR i u hu;have q1:VB D 3 t (.var 1) [.int .i64 (i+1:Nat)]:=⟨by have:=e2.1;omega,e2.2.same (fAD t e2.1 (e2.ne hV (by decide)))⟩;have q2:VB D 9 s (.var 1) [strOf u]:=⟨by have:=e3.1;omega,e3.2.same (fAD s e3.1 (e3.ne hV (by decide)))⟩;have ht1:∀(e:TypeId) (z:Nat) (k:Kd) (l:List Value),VB D e z k l→e≠177→e≠124→VB H e z k l:=fun e z k l hz he he2=>⟨by have:=hz.1;omega,hz.2.same (by
    rw [fH z (hz.zi hmnD),keepG z (by have:=hz.1;omega) (hz.ne VD he2) (hbt z e k l hz he),kE.2 _ hz.1])⟩
   exact⟨t,s,by rw [Yz (by omega)];exact e1,ht1 _ _ _ _ q1 (by decide) (by decide),ht1 _ _ _ _ q2 (by decide) (by decide)⟩
  ·rw [YA hi] at hu;cases hq:i-ns.length with
   |succ n=>rw [hq] at hu;simp at hu
   |zero=>
    rw [hq] at hu;cases hu;have e:i=ns.length:=by omega
    subst e;exact⟨C.next,A.next,by rw [YA (by omega),hrl,Zg];rfl,⟨by omega,vtG.2.same (fH _ (by omega))⟩,⟨by omega,vsG.2.same (fH _ (by omega))⟩⟩
 ·rw [fH z hm,keepG z (by omega) hp hb,kE.2 z (by omega),fAD z hz hp]
theorem K7 {a:cO} {b:UInt8} {pb pa:Nat} (h1:VB A 5 pb (.var 1) [.int .u8 (b.toNat:Nat)]) (h2:VB A 3 pa (.var 1) [.int .i64 i]) (ht:a.to<i):∃v A',bL ai 246 [.agg ⟨cc a⟩,pV pb,pV pa] A v A'∧v= .bool (decide (a.byte=b))∧Kp A A':=by
 have k:=Kp.alloc A (aa 172 (cc a));have v:=aF A 172 (cc a);refine⟨_,A.alloc (aa 172 (cc a)),?_,rfl,k⟩;have h1:=h1.kp k;have h2:=h2.kp k;generalize hB:A.alloc (aa 172 (cc a))=B at v h1 h2;have l0:aq ai B.get 5 (pw A.next 0)= .ok (.int .u8 (a.byte.toNat:Nat)):=v.ld rfl u5 rfl;have l1:aq ai B.get 5 (pw pb 0)= .ok (.int .u8 (b.toNat:Nat)):=h1.ld rfl u5 rfl;have l2:aq ai B.get 3 (pw A.next (0+2))= .ok (.int .i64 a.to):=v.ld rfl u3 rfl;have l3:aq ai B.get 3 (pw pa 0)= .ok (.int .i64 i):=h2.ld rfl u3 rfl;have hz:¬a.to<0:=by omega
 simp only [pV];by_cases he:a.byte=b
 ·subst he;rw [decide_eq_true rfl];refine aT (aB Tryz.func246) (c:=qcq.body.getD .skip) (by kernel_rfl) (by rw [Tryz.ntmps246];simp) (by kernel_rfl) (by kernel_rfl) ?_;apply W.run 60
  ·intro M;simp (config:={maxSteps:=4000000}) (disch:=first|decide+kernel|omega|simp only [Wq,X2]) only [qcq,Aq,X5,reduceIte,X2,X3,au,hB,kx,jB,l0,l1,l2,l3,bO,bm,hz,ht,Yg];rfl
  exact⟨by simp,rfl,rfl,by simp only [qcq,Aq,X5,reduceIte,X2,X3,au,hB,kx,jB,l0,l1,l2,l3,bO,bm,hz,ht,Yg]<;>rfl⟩
 ·have hn:¬(a.byte.toNat=b.toNat):=fun h=>he (ZS.1 h)
  rw [decide_eq_false he];refine aT (aB Tryz.func246) (c:=qcq.body.getD .skip) (by kernel_rfl) (by rw [Tryz.ntmps246];simp) (by kernel_rfl) (by kernel_rfl) ?_;apply W.run 60
  ·intro M;simp (config:={maxSteps:=4000000}) (disch:=first|decide+kernel|omega|simp only [Wq,X2]) only [qcq,Aq,X5,reduceIte,X2,X3,au,hB,kx,jB,l0,l1,l2,l3,bO,bm,hz,ht,hn];rfl
  exact⟨by simp,rfl,rfl,by simp only [qcq,Aq,X5,reduceIte,X2,X3,au,hB,kx,jB,l0,l1,l2,l3,bO,bm,hz,ht,hn]<;>rfl⟩
noncomputable def Bt:Code:=qcb.body.getD .skip
noncomputable def Hj:Code:=sub Bt [1,0,1,0,0]
theorem Re:qcb.body=some (.seq (sub Bt [0]) (.seq (.seq (sub Bt [1,0,0]) (.block 0 (.loop Hj))) (.seq (sub Bt [1,1,0]) (sub Bt [1,1,1])))):=by kernel_rfl
theorem KI {l:List cO} {x:Value} {pb pa:Nat} {a:cO} (hx:j' A l x) (h1:VB A 5 pb (.var 1) [.int .u8 (a.byte.toNat:Nat)]) (h2:VB A 3 pa (.var 1) [.int .i64 n]) (ht:∀a∈l,a.to<n) (hp:(l.map (·.byte)).Pairwise (·<·)) (hl:l.length≤256) (hi:l[i]?=some a):
 ∃v A',bL ai 245 [x,.func (.func 246) ⟨[]⟩ ⟨[pV pb,pV pa]⟩] A v A'∧v= .int .i64 i∧Kp A A':=by
 refine cS (aB Tryz.func245) Re (by rw [Tryz.ntmps245];simp) (by kernel_rfl) (by kernel_rfl) ?_;obtain⟨hil,hia⟩:=X_.1 hi;have lx:=hx.len;simp only [pV];apply W.seq;apply W.run 20
 ·intro M;simp (disch:=first|decide+kernel|omega) only [Bt,qcb,Aq,X2];rfl
 apply W.seq;apply W.seq;apply W.run 20
 ·intro M;simp (disch:=first|decide+kernel|omega) only [Bt,qcb,Aq,X2,lx];rfl
 apply W.block;refine W.up i (fun k t D=>Kp A D∧Sl t [(0,x),(1,.func (.func 246) ⟨[]⟩ ⟨[pw pb 0,pw pa 0]⟩),(7,.int .i64 l.length),(8,.int .i64 k)]) ?_ (Yg _) ⟨Kp.refl _,?_⟩
 ·rintro k t D hk ⟨kD,g0,g1,g7,g8,-⟩;have hkl:k<l.length:=by omega
  have hlk:l[k]?=some l[k]:=X6 hkl;obtain⟨p,q1,q2⟩:=(hx.kp kD).at hlk;obtain⟨v,E,⟨g,hg⟩,rfl,kE⟩:=K7 (h1.kp kD) (h2.kp kD) (ht _ (YQ hkl));simp only [pV] at hg;by_cases he:k=i
  ·subst he;have:l[k]=a:=hia;rw [this] at hg q2;rw [decide_eq_true rfl] at hg;apply W.a6 (g) 20
   ·intro M hM;simp (disch:=first|decide+kernel|omega) only [Hj,Bt,qcb,Aq,X2,g0,g1,g7,g8,hkl,q1,q2,hg];rfl
   exact⟨by simp,rfl,_,(by simp only [qcb,Aq,X2]<;>rfl),rfl,kD.trans kE⟩
  ·have hlt:=Zv.1 hp k i (by rw [Yb];omega) (by rw [Yb];omega) (by omega);rw [qbH,qbH,hia] at hlt;rw [decide_eq_false (fun h=>by rw [h] at hlt;exact absurd hlt (UInt8.lt_irrefl _))] at hg;apply W.a6 (g) 20
   ·intro M hM;simp (disch:=first|decide+kernel|omega) only [Hj,Bt,qcb,Aq,X2,g0,g1,g7,g8,hkl,q1,q2,hg];rfl
   refine⟨by omega,_,_,rfl,kD.trans kE,?_⟩;simp only [av,aw,T.af,T.ag,T.ak,X2,X3,if_true,if_false,and_true,true_and,g0,g1,g7]
 ·simp only [av,aw,T.af,T.ag,T.ak,X2,X3,if_true,if_false,and_true,true_and]
theorem eX.get {s:bj} (h:eX A M y) (hi:M[i]?=some s):
 ∃x p q,aZ ai 102 y (.int .i64 i)= .ok p∧ax ai 164 p 0= .ok q∧j' A s.arcs x∧∀A',Kp A A'→aq ai A'.get 164 p= .ok (.agg ⟨cW x s⟩)∧aq ai A'.get 162 q= .ok x:=by
 obtain⟨b,rows,h1,h2,h3⟩:=h;obtain⟨x,e1,e2⟩:=h3 i s hi;have hl:i<rows.length:=(X_.1 e1).1;obtain⟨d,hd1,hd2⟩:=bA (t:=164) (p:=true) (by kernel_rfl);refine⟨x,_,_,az.idx h1 fX mQ hl,cZ,e2,fun A' k=>?_⟩;have h1:=h1.same k.1 (k.2 b);have:=az.load (tb:=ai) (j:=0) h1 j8 rfl e1 rfl (by omega);exact⟨az.aQ h1 hd1 hd2 mQ e1,by rwa [YU] at this⟩
theorem Oo {k:Value} {s:bj} {a:cO} (h:eX A M y) (hn:M[n]?=some s) (ht:∀a∈s.arcs,a.to<n) (hp:(s.arcs.map (·.byte)).Pairwise (·<·)) (hl:s.arcs.length≤256) (hj:s.arcs[j]?=some a):
 ∃v A',bL ai 235 [.agg ⟨[y,k]⟩,.int .i64 n,.int .u8 (a.byte.toNat:Nat)] A v A'∧v= .tuple ⟨[.int .i64 a.to,.int .u64 a.out,.bool true]⟩∧Kp A A':=by
 have kB:=Kp.alloc A (aa 105 [y,k]);have vB:=aF A 105 [y,k];generalize hB:A.alloc (aa 105 [y,k])=B at kB vB;have kC:=Kp.alloc B (aa 3 [.int .i64 n]);have vC:=aF B 3 [.int .i64 n];generalize hC:B.alloc (aa 3 [.int .i64 n])=C at kC vC;have kD:=Kp.alloc C (aa 5 [.int .u8 (a.byte.toNat:Nat)]);have vD:=aF C 5 [.int .u8 (a.byte.toNat:Nat)];generalize hD:C.alloc (aa 5 [.int .u8 (a.byte.toNat:Nat)])=D at kD vD;have vC:=vC.kp kD;have vB:=vB.kp (kC.trans kD);have kAD:=(kB.trans kC).trans kD;have hS:=h.kp kAD;obtain⟨hnl,-⟩:=X_.1 hn;have lenD:=hS.len;obtain⟨x,p,q,i1,i2,hx,i4⟩:=hS.get hn;obtain⟨v,E,⟨g,hg⟩,rfl,kE⟩:=KI hx vD vC ht hp hl hj;obtain⟨r,j1,j2⟩:=(hx.kp kE).at hj;have kF:=Kp.alloc E (aa 172 (cc a));have vF:=aF E 172 (cc a);have sF:=EB (D:=E) (a:=a);generalize hF:E.alloc (aa 172 (cc a))=F at kF vF sF;have ly:∀G,Kp D G→aq ai G.get 102 (pw A.next 0)= .ok y:=fun G hG=>(vB.kp hG).ld rfl fX rfl
 have l1:=ly D (Kp.refl _);have l2:=ly E kE;have l3:∀G,Kp D G→aq ai G.get 3 (pw B.next 0)= .ok (.int .i64 n):=fun G hG=>(vC.kp hG).ld rfl u3 rfl
 have l4:=l3 D (Kp.refl _);have l5:=l3 E kE;have i5:=(i4 D (Kp.refl _)).2;have i6:=(i4 E kE).2;have o1:aq ai F.get 103 (pw E.next (0+1))= .ok (.int .u64 a.out):=vF.ld rfl ff rfl;have o2:aq ai F.get 3 (pw E.next (0+2))= .ok (.int .i64 a.to):=vF.ld rfl u3 rfl;have hz:¬n<0:=by omega
 have hz2:¬M.length≤n:=by omega
 have hz3:¬j<0:=by omega
 refine⟨_,F,?_,rfl,kAD.trans (kE.trans kF)⟩;simp only [pV] at hg;refine aT (aB Tryz.func235) (c:=Tryz.f235.body.getD .skip) (by kernel_rfl) (by rw [Tryz.ntmps235];simp) (by kernel_rfl) (by kernel_rfl) ?_;apply W.a6 (g) 60
 ·intro M hM;simp (config:={maxSteps:=4000000}) (disch:=first|decide+kernel|omega|simp only [Wq,X2]) only [Tryz.f235,Aq,X5,reduceIte,X2,X3,au,hB,hC,hD,dc,l1,l2,l4,l5,lenD,bO,bm,hz,hz2,hz3,i1,i2,i5,i6,aS,hg,j1,j2,oe,sF,qZ,jB,o1,o2,Fq,aC []];rfl
 exact⟨by simp,rfl,rfl,by simp only [Tryz.f235,Aq,X5,reduceIte,X2,X3,au,hB,hC,hD,dc,l1,l2,l4,l5,lenD,bO,bm,hz,hz2,hz3,i1,i2,i5,i6,aS,hg,j1,j2,oe,sF,qZ,jB,o1,o2,Fq,aC []]<;>rfl⟩
noncomputable def sb:Code:=qaB.body.getD .skip
noncomputable def GN:Code:=sub sb [1,1,0,1,0,0]
theorem QG:qaB.body=some (.seq (sub sb [0]) (.seq (sub sb [1,0]) (.seq (.seq (sub sb [1,1,0,0]) (.block 0 (.loop GN))) (.seq (sub sb [1,1,1,0]) (sub sb [1,1,1,1]))))):=by kernel_rfl
theorem Fk {l:List UInt8} {x:Value} (h:wg A b l x):∃v A',bL ai 244 [x] A v A'∧v=x∧A'=A:=by
 refine cS (aB Tryz.func244) QG (by rw [Tryz.ntmps244];simp) (by kernel_rfl) (by kernel_rfl) ?_;have hl:=h.2.2;have lx:=h.len;apply W.seq;apply W.run 20
 ·intro M;simp (disch:=first|decide+kernel|omega) only [sb,qaB,Aq,X2];rfl
 apply W.seq;by_cases h2:l.length<2
 ·apply W.run 20
  ·intro M;simp (disch:=first|decide+kernel|omega) only [sb,qaB,Aq,X2,lx,h2];rfl
  exact⟨by simp,rfl,_,(by simp only [qaB,Aq,X2]<;>rfl),rfl,rfl⟩
 ·apply W.run 20
  ·intro M;simp (disch:=first|decide+kernel|omega) only [sb,qaB,Aq,X2,lx,h2];rfl
  apply W.seq;apply W.seq;apply W.run 20
  ·intro M;simp (disch:=first|decide+kernel|omega) only [sb,qaB,Aq,X2];rfl
  apply W.block;refine W.up (l.length-1) (fun k t D=>D=A∧Sl t [(0,x),(3,.int .i64 (k+1:Nat))]) ?_ (Yg _) ⟨rfl,?_⟩
  ·rintro k t D hk ⟨rfl,g0,g3,-⟩;by_cases hlt:k+1<l.length
   ·obtain⟨i1,i2⟩:=h.at hlt;obtain⟨j1,j2⟩:=h.at (i:=k) (by omega);have hle:=h.le (i:=k) (j:=k+1) (by omega) hlt;have hne:¬(l[k+1].toNat=(l[k]'(by omega)).toNat):=fun e=>by
     have:=qaN.1 (Zv.1 h.2.1 k (k+1) (by omega) hlt (by omega));omega
    have s1:aN .sub .i64 ((k+1:Nat):Int) ((1:Nat):Int)= .ok (.int .i64 (k:Nat)):=bq (by omega) (aR (by omega));apply W.run 20
    ·intro M;simp (config:={maxSteps:=4000000}) (disch:=first|decide+kernel|omega|simp only [Wq,X2]) only [GN,sb,qaB,Aq,X5,reduceIte,X2,X3,g0,g3,lx,hlt,s1,i1,i2,j1,j2,hne,Fq,aC []];rfl
    refine⟨by omega,_,_,rfl,rfl,?_⟩;simp only [av,aw,T.af,T.ag,T.ak,X2,X3,if_true,if_false,and_true,true_and,g0]
   ·apply W.run 20
    ·intro M;simp (disch:=first|decide+kernel|omega) only [GN,sb,qaB,Aq,X2,g0,g3,lx,hlt];rfl
    apply W.seq;apply W.run 20
    ·intro M;simp (disch:=first|decide+kernel|omega) only [sb,qaB,Aq,X2,g0];rfl
    apply W.run 20
    ·intro M;simp (disch:=first|decide+kernel|omega) only [sb,qaB,Aq,X2];rfl
    exact⟨by simp,rfl,_,(by simp only [qaB,Aq,X2]<;>rfl),rfl,rfl⟩
  ·simp only [av,aw,T.af,T.ag,T.ak,X2,X3,if_true,if_false,and_true,true_and]
noncomputable def qj:Code:=qaY.body.getD .skip
noncomputable def F_:Code:=sub qj [1,1,0,1,0,0]
theorem QC:qaY.body=some (.seq (sub qj [0]) (.seq (sub qj [1,0]) (.seq (.seq (sub qj [1,1,0,0]) (.block 0 (.loop F_))) (.seq (sub qj [1,1,1,0]) (.seq (sub qj [1,1,1,1,0]) (sub qj [1,1,1,1,1])))))):=by kernel_rfl
theorem UE (a:Int):bc ai 48 1 [(0,.int .u8 a)]= .ok (aa 5 [.int .u8 a],.m_ 1 2):=by kernel_rfl
theorem Gs {k:Value} {s:bj} (h:eX A M y) (hn:M[n]?=some s) (ht:∀a∈s.arcs,a.to<n) (hp:(s.arcs.map (·.byte)).Pairwise (·<·)) (hl:s.arcs.length≤256) (hM:M.length<1000000):
 ∃v A',bL ai 234 [.agg ⟨[y,k]⟩,.int .i64 n] A v A'∧Kp A A'∧∃b,wg A' b (s.arcs.map (·.byte)) v∧A.next≤b:=by
 obtain⟨v,A',h1,h2⟩:∃v A',bL ai 234 [.agg ⟨[y,k]⟩,.int .i64 n] A v A'∧(Kp A A'∧∃b,wg A' b (s.arcs.map (·.byte)) v∧A.next≤b):=by
  refine cS (aB Tryz.func234) QC (by rw [Tryz.ntmps234];simp) (by kernel_rfl) (by kernel_rfl) ?_;have kB:=Kp.alloc A (aa 105 [y,k]);have vB:=aF A 105 [y,k];apply W.seq;apply W.run 20
  ·intro M;simp (disch:=first|decide+kernel|omega) only [qj,qaY,Aq,X2,au];rfl
  show W ai _ _ _;have hS:=h.kp kB;generalize A.alloc (aa 105 [y,k])=B at kB vB hS;obtain⟨hnl,-⟩:=X_.1 hn;have ly:aq ai B.get 102 (pw A.next 0)= .ok y:=vB.ld rfl fX rfl;have cz:=hS.len;obtain⟨x,p,q,i1,i2,hx,i4⟩:=hS.get hn;have i5:=(i4 B (Kp.refl _)).2;have lx:=hx.len;have hz:¬n<0:=by omega
  have hz2:¬M.length≤n:=by omega
  obtain⟨ti,ht1,ht2⟩:=Wm;apply W.seq;apply W.run 20
  ·intro M;simp (config:={maxSteps:=4000000}) (disch:=first|decide+kernel|omega|simp only [Wq,X2]) only [qj,qaY,Aq,X5,reduceIte,X2,X3,hz,hz2,dc,ly,cz,bO,bm];rfl
  apply W.seq;apply W.seq;apply W.run 20
  ·intro M;simp (disch:=first|decide+kernel|omega) only [qj,qaY,Aq,X2,dc,ly,i1,i2,i5,lx];rfl
  apply W.block;refine W.up s.arcs.length (fun i t D=>(∃b z,pQ D 5 b (eh ((s.arcs.take i).map (·.byte))) z∧B.next≤b∧Kp B D∧Sl t [(1,.int .i64 n),(4,z),(21,x),(22,.int .i64 s.arcs.length),(23,.int .i64 i)])) ?_ (Yg _) ⟨B.next,.slice none 0 0,.inl ⟨rfl,rfl⟩,X9 _,Kp.refl _,?_⟩
  ·rintro i t D hi ⟨b,z,hz,hb,kD,g1,g4,g21,g22,g23,-⟩;by_cases hlt:i<s.arcs.length
   ·have hsi:s.arcs[i]?=some s.arcs[i]:=X6 hlt;have htk:(s.arcs.take (i+1)).map (·.byte)=(s.arcs.take i).map (·.byte)++[(s.arcs[i]).byte]:=by rw [Yd hlt,YV];rfl
    have hto:=ht _ (YQ hlt);obtain⟨r,q1,q2⟩:=(hx.kp kD).at hsi;generalize s.arcs[i]=a at*;have sE:=EB (D:=D) (a:=a);have vE:=aF D 172 (cc a);have kE:=Kp.alloc D (aa 172 (cc a));generalize D.alloc (aa 172 (cc a))=E at sE vE kE;have l0:aq ai E.get 5 (pw D.next 0)= .ok (.int .u8 (a.byte.toNat:Nat)):=vE.ld rfl u5 rfl;have l2:aq ai E.get 3 (pw D.next (0+2))= .ok (.int .i64 a.to):=vE.ld rfl u3 rfl;have kF:=Kp.alloc E (aa 5 [.int .u8 (a.byte.toNat:Nat)]);have hzF:=hz.same (kE.trans kF).1 ((kE.trans kF).2 b);obtain⟨z',G,happ,hs3,hn3,hf3⟩:=hzF.append (tb:=ai) (st:=48) (xt:=48) NV NV Wv ht1 (by omega) (by omega) (by unfold eh;simp;omega) (aD E _) rfl;rw [ae] at hs3 hn3 hf3;apply W.run 20
    ·intro M;simp (config:={maxSteps:=4000000}) (disch:=first|decide+kernel|omega|simp only [Wq,X2]) only [F_,qj,qaY,Aq,X5,reduceIte,X2,X3,g1,g4,g21,g22,g23,hlt,q1,q2,oe,au,sE,kx,jB,l0,l2,bO,bm,Yg,hto,UE,happ];rfl
    have n1:=kD.1;have n2:=kE.1;refine⟨hlt,_,_,rfl,E.next+1,z',?_,by omega,⟨by omega,fun w hw=>by rw [hf3 w (by omega) (by omega),(kE.trans kF).2 w (by omega),kD.2 w hw]⟩,?_⟩
    ·rw [htk];unfold eh;rw [YV];exact hs3
    ·simp only [av,aw,T.af,T.ag,T.ak,X2,X3,if_true,if_false,and_true,true_and,g1,g21,g22]
   ·have e:i=s.arcs.length:=by omega
    subst e;rw [Yw] at hz;have hR:wg D b (s.arcs.map (·.byte)) z:=⟨hz,hp,by rw [Yb];exact hl⟩;obtain⟨E,⟨e1,h1⟩,kE⟩:=MM hR;obtain⟨v,F,⟨e2,h2⟩,rfl,rfl⟩:=Fk (hR.kp kE);apply W.run 20
    ·intro M;simp (disch:=first|decide+kernel|omega) only [F_,qj,qaY,Aq,X2,g22,g23];rfl
    apply W.seq;apply W.a6 (e1) 20
    ·intro M hM;simp (disch:=first|decide+kernel|omega) only [qj,qaY,Aq,X2,g4,h1];rfl
    apply W.seq;apply W.a6 (e2) 20
    ·intro M hM;simp (disch:=first|decide+kernel|omega) only [qj,qaY,Aq,X2,g4,h2];rfl
    apply W.run 20
    ·intro M;simp (disch:=first|decide+kernel|omega) only [qj,qaY,Aq,X2];rfl
    exact⟨by simp,rfl,_,(by simp only [qaY,Aq,X2]<;>rfl),kB.trans (kD.trans kE),b,hR.kp kE,by have:=kB.1;omega⟩
  ·simp only [av,aw,T.af,T.ag,T.ak,X2,X3,if_true,if_false,and_true,true_and]
 exact⟨v,A',h1,h2⟩
end Go.Proofs.YtggndfefpbmaeaaGreatDoor.sto
namespace Go.Am
section
variable {tb:bI}
variable {t:T Value} {n:Nat} {A A':Mem} {v:Value}
theorem W.Hv {f:Operand} {ps:Array Tmp} {a b:Code} {d:List Nat} {K:Ex→St→Prop} {fid:FuncId} {first capt:List Value} {r:gI} {e:Ex}
 (hf:ev t f= .ok (.func (.func fid) ⟨first⟩ ⟨capt⟩))
 (hc:bL tb fid (first++[.func (.yield (A.next+1)) ⟨[]⟩ ⟨[]⟩]++capt) ((A.alloc .defd).alloc (.loop (oP t n ps.toList a b A.next))) v A')
 (hr:A'.get (A.next+1)=some (.loop r)) (hst:r.state≠ .busy) (hp:(r.pending=none∧e= .nrm)∨(r.pending=some .ret∧e= .ret))
 (k:K e ⟨t,n,A.next::d,A'.set (A.next+1) (.loop {r with state:=.exhausted}),none⟩):W tb (.rangeFunc f ps a b) ⟨t,n,d,A,none⟩ K:=by
 obtain⟨g,hg⟩:=hc;refine⟨_,_,⟨g+1,fun m=>?_⟩,k⟩;rw [show m+(g+1)=(m+g)+1 by omega,n6];have h1:=hg (m+g) (by omega);unfold gv;simp only [hf,R.aA];have hn:(A.alloc .defd).next=A.next+1:=ae _ _
 rw [hn];have hcal:∀g':Nat→Option Ob,jl tb g' (.func (.func fid) ⟨first⟩ ⟨capt⟩) [.func (.yield (A.next+1)) ⟨[]⟩ ⟨[]⟩]= .ok (.fn fid (first++[.func (.yield (A.next+1)) ⟨[]⟩ ⟨[]⟩]++capt)):=fun _=>rfl
 rw [hcal,R.aA];unfold oP at h1;rw [h1,R.aA];simp only [hr];rcases hp with⟨hp,rfl⟩|⟨hp,rfl⟩
 all_goals
  simp only [hp];cases hs:r.state with
  |busy=>exact absurd hs hst
  |_=>rfl
variable {k:Nat}
theorem W.Xx {c:Code} {ro:Option Nat} {K:Ex→St→Prop} (N:Nat) (P:Nat→T Value→Mem→List Nat→Prop)
 (hb:∀k t A d,k≤N→P k t A d→W tb c ⟨t,n,d,A,ro⟩ fun e s'=>match e with
  | .nrm=>k<N∧∃t' A' d',s'=⟨t',n,d',A',ro⟩∧P (k+1) t' A' d'
  |e=>K e s') {d:List Nat} (hk:k≤N) (hp:P k t A d):W tb (.loop c) ⟨t,n,d,A,ro⟩ K:=by
 have main:∀j k t A d,k+j=N→P k t A d→W tb (.loop c) ⟨t,n,d,A,ro⟩ K:=by
  intro j
  induction j with
  |zero=>
   intro k t A d hk hp;refine W.round ((hb k t A d (by omega) hp).mono fun e s' h=>?_);cases e with
   |nrm=>exact absurd h.1 (by omega)
   |_=>exact h
  |succ j ih=>
   intro k t A d hk hp;refine W.round ((hb k t A d (by omega) hp).mono fun e s' h=>?_);cases e with
   |nrm=>
    obtain⟨_,t',A',d',rfl,h'⟩:=h;exact ih (k+1) t' A' d' (by omega) h'
   |_=>exact h
 exact main (N-k) k t A d (by omega) hp
theorem K5 {l:Nat} {args:List Value} {r:gI} {Q:Mem→Prop} (hl:A.get l=some (.loop r)) (ht:setArgs r.n r.params args r.tmps= .ok t)
 (h:W tb r.assign ⟨t,r.n,[],A,some l⟩ fun e s1=>e= .nrm∧∃r1,s1.m.get l=some (.loop r1)∧r1.state= .ready∧W tb r.body ⟨s1.t,s1.n,s1.d,s1.m.set l (.loop {r1 with state:=.busy}),s1.ro⟩ fun e s2=>e= .ret∧s2.d=[]∧∃r2,s2.m.get l=some (.loop r2)∧Q (s2.m.set l (.loop {r2 with state:=.done,pending:=some .ret}))):
 ∃A',(∃g,∀M,g≤M→bg tb (exec tb M) (.round l args) A= .ok (.val (.bool false) A'))∧Q A':=by
 obtain⟨e,s1,⟨f1,h1⟩,rfl,r1,hr1,hst1,e2,s2,⟨f2,h2⟩,rfl,hd,r2,hr2,hQ⟩:=h;refine⟨_,⟨f1+f2,fun M hM=>?_⟩,hQ⟩;show rf (exec tb M) l args A=_;unfold rf;have e1:=h1 (M-f1);rw [qak (by omega)] at e1;have e2:=h2 (M-f2);rw [qak (by omega)] at e2;simp only [hl,ht,R.aA,e1,hr1,hst1,e2,hd,hr2]
theorem iM:∀(ds:List Nat) (A:Mem),ds.Nodup→(∀d∈ds,A.get d=some .defd)→∃A',fc ds A= .ok A'∧A'.next=A.next∧∀z,z∉ds→A'.get z=A.get z
 | [],A,_,_=>⟨A,rfl,rfl,fun _ _=>rfl⟩
 |d::ds,A,hn,h=>by
  obtain⟨h1,h2⟩:=qbc.1 hn;obtain⟨A',e1,e2,e3⟩:=iM ds (A.set d .dead) h2 fun x hx=>by rw [aL,if_neg (by rintro rfl;exact h1 hx)];exact h x (Yi _ hx)
  refine⟨A',?_,by rw [e2];exact aX _ _ _,fun z hz=>?_⟩
  ·show(match A.get d with|some .defd=>fc ds (A.set d .dead)|_=>.no 240)=_;rw [h d Yk];exact e1
  ·rw [Yp,not_or] at hz;rw [e3 z hz.2,aL,if_neg hz.1]
end
end Go.Am
namespace Go.Proofs.YtggndfefpbmaeaaGreatDoor.sto
open Go.Am Go.Mdl Go.Sto
def DC (a:cO):Value:=.agg ⟨[.int .i64 a.to,.int .u64 a.out]⟩
theorem Vg {m n:Int}:cr ai 305 [(0,.int .i64 m),(1,.int .u64 n)]= .ok (.agg ⟨[.int .i64 m,.int .u64 n]⟩):=by kernel_rfl
variable {A:Mem} {y:Value} {n:Nat}
theorem Dr {k:Value}:bL ai 210 [.agg ⟨[y,k]⟩,.int .i64 n] A (.func (.func 233) ⟨[]⟩ ⟨[pV A.next,pV (A.next+1)]⟩) ((A.alloc (aa 105 [y,k])).alloc (aa 3 [.int .i64 n])):=by
 have e:=ae A (aa 105 [y,k]);simp only [pV];refine aT (aB Tryz.func210) (c:=Tryz.f210.body.getD .skip) (by kernel_rfl) (by rw [Tryz.ntmps210];simp) (by kernel_rfl) (by kernel_rfl) ?_;apply W.run 60
 ·intro M;simp (disch:=first|decide+kernel|omega) only [Tryz.f210,Aq,X2,au,dQ,e,cE,aS];rfl
 exact⟨by simp,rfl,rfl,by simp only [Tryz.f210,Aq,X2,au,dQ,e,cE,aS]<;>rfl⟩
def NZ (B:Mem) (ab lp:Nat) (s:bj) (Inv:Nat→Mem→Prop):Prop:=∀(j:Nat) (a:cO) (D:Mem),s.arcs[j]?=some a→Inv j D→B.next≤D.next→(∀z,z<B.next→z≠ab→z≠lp→D.get z=B.get z)→
 ∃E,(∃g,∀M,g≤M→bg ai (exec ai M) (.round lp [.int .u8 (a.byte.toNat:Nat),DC a]) D= .ok (.val (.bool true) E))∧Inv (j+1) E∧D.next≤E.next∧∀z,z<D.next→z≠ab→z≠lp→E.get z=D.get z
noncomputable def My:Code:=qcl.body.getD .skip
noncomputable def Hs:Code:=sub My [1,0,0]
theorem Qf:qcl.body=some (.seq (sub My [0]) (.block 0 (.loop Hs))):=by kernel_rfl
variable {B:Mem} {M:List bj} {q:Nat}
theorem Es {k:Value} {ab lp:Nat} {s:bj} {Inv:Nat→Mem→Prop} (h:eX A M y) (hn:M[n]?=some s) (ht:∀a∈s.arcs,a.to<n) (hp:(s.arcs.map (·.byte)).Pairwise (·<·)) (hl:s.arcs.length≤256) (hM:M.length<1000000)
 (hB:Kp A B) (v1:VB B 105 q (.var 2) [y,k]) (v2:VB B 3 (q+1) (.var 1) [.int .i64 n]) (hq:ab≠q∧ab≠q+1∧lp≠q∧lp≠q+1∧A.next≤ab∧A.next≤lp∧ab<B.next∧lp<B.next)
 (hK:∀j D E,Inv j D→Kp D E→Inv j E) (hc:NZ B ab lp s Inv) (hI:Inv 0 B):
 ∃v C,bL ai 233 [.func (.yield lp) ⟨[]⟩ ⟨[]⟩,pV q,pV (q+1)] B v C∧Inv s.arcs.length C∧B.next≤C.next∧∀z,z<B.next→z≠ab→z≠lp→C.get z=B.get z:=by
 obtain⟨p1,p2,p3,p4,p5,p6,p7,p8⟩:=hq;refine cS (aB Tryz.func233) Qf (by rw [Tryz.ntmps233];simp) (by kernel_rfl) (by kernel_rfl) ?_;obtain⟨d,hd1,hd2⟩:=bA (t:=105) (p:=true) (by kernel_rfl);have ld1:∀D:Mem,D.get q=B.get q→aq ai D.get 105 (pw q 0)= .ok (.agg ⟨[y,k]⟩):=fun D e=>aQ hd1 hd2 (l:=[y,k]) eD (v1.2.same e)
 have ld2:∀D:Mem,D.get (q+1)=B.get (q+1)→aq ai D.get 3 (pw (q+1) 0)= .ok (.int .i64 n):=fun D e=>bf u3 rfl (v2.2.same e) rfl
 have a1:=ld1 B rfl;have a2:=ld2 B rfl;obtain⟨x,C,⟨g,hg⟩,kC,b,hR,hb⟩:=Gs (h.kp hB) hn ht hp hl hM (k:=k);have lx:=hR.len;rw [Yb] at lx;simp only [pV];apply W.seq;apply W.a6 (g) 20
 ·intro M hM;simp (disch:=first|decide+kernel|omega) only [My,qcl,Aq,X2,a1,a2,hg,lx];rfl
 apply W.block;refine W.up s.arcs.length (fun j t D=>Inv j D∧B.next≤D.next∧(∀z,z<B.next→z≠ab→z≠lp→D.get z=B.get z)∧wg D b (s.arcs.map (·.byte)) x∧Sl t [(0,.func (.yield lp) ⟨[]⟩ ⟨[]⟩),(1,pw q 0),(2,pw (q+1) 0),(11,x),(12,.int .i64 s.arcs.length),(13,.int .i64 j)]) ?_ (Yg _) ⟨hK _ _ _ hI kC,kC.1,fun z hz _ _=>kC.2 z hz,hR,?_⟩
 ·rintro j t D hj ⟨hI,hn2,hf,hR,g0,g1,g2,g11,g12,g13,-⟩;by_cases hlt:j<s.arcs.length
  ·have hsj:s.arcs[j]?=some s.arcs[j]:=X6 hlt;obtain⟨i1,i2⟩:=hR.at (i:=j) (by rw [Yb];exact hlt);rw [qbH] at i2;have kAD:Kp A D:=⟨by have:=hB.1;omega,fun z hz=>by rw [hf z (by have:=hB.1;omega) (by omega) (by omega),hB.2 z hz]⟩;obtain⟨v,E,⟨g,hg⟩,rfl,kE⟩:=Oo (k:=k) (h.kp kAD) hn ht hp hl hsj;generalize s.arcs[j]=a at*;have nE:=kE.1;obtain⟨F,⟨gy,hy⟩,hI2,nF,fF⟩:=hc j a E hsj (hK _ _ _ hI kE) (by omega) (fun z hz h1 h2=>by rw [kE.2 z (by omega),hf z hz h1 h2]);have b1:=ld1 D (hf q v1.1 (by omega) (by omega));have b2:=ld2 D (hf (q+1) v2.1 (by omega) (by omega));have bd:=Vg (m:=(a.to:Int)) (n:=(a.out:Int));unfold DC at hy;apply W.a6 (g+gy) 20
   ·intro M hM;simp (disch:=first|decide+kernel|omega) only [Hs,My,qcl,Aq,X2,g0,g1,g2,g11,g12,g13,hlt,i1,i2,b1,b2,hg,X8,X7,bd,hy];rfl
   refine⟨hlt,_,_,rfl,hI2,by omega,fun z hz h1 h2=>by rw [fF z (by omega) h1 h2,kE.2 z (by omega),hf z hz h1 h2],⟨(hR.kp kE).1.same nF fun hlt=>fF b hlt (by omega) (by omega),hR.2⟩,?_⟩;simp only [av,aw,T.af,T.ag,T.ak,X2,X3,if_true,if_false,and_true,true_and,g0,g1,g2,g11,g12]
  ·have e:j=s.arcs.length:=by omega
   subst e;apply W.run 20
   ·intro M;simp (disch:=first|decide+kernel|omega) only [Hs,My,qcl,Aq,X2,g12,g13];rfl
   exact⟨by simp,rfl,_,(by simp only [qcl,Aq,X2]<;>rfl),hI,hn2,hf⟩
 ·simp only [av,aw,T.af,T.ag,T.ak,X2,X3,if_true,if_false,and_true,true_and]
end Go.Proofs.YtggndfefpbmaeaaGreatDoor.sto
end
