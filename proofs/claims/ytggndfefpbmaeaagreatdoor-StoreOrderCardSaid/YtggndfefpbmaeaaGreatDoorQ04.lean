/- The abstract machine, the walk of the law and its plain laws, made small by a program; part 4: no conditions but those in each theorem. -/
import Derived.Test.YtggndfefpbmaeaaGreatDoorQ03
import Derived.Test.YtggndfefpbmaeaaGreatDoorChecked
import Derived.KernelRfl
set_option maxHeartbeats 16000000
set_option maxRecDepth 100000
set_option linter.unusedSimpArgs false
set_option linter.unusedVariables false
noncomputable section
open Nat renaming reduceEqDiff→Zf,reduceAdd→Zg,ble→Zj,le_refl→Zn,beq→Zr,blt→Zt,zero_le→Zv,eq_of_beq_eq_true→ZA,blt_eq→ZB,lt_of_lt_of_le→ZJ,le_of_ble_eq_true→ZP,lt_or_ge→ZS,zero_add→ZT,le_trans→ZV,add_zero→Z8,shiftRight_eq_div_pow→qai,min_eq_left→qam,lt_of_le_of_lt→qan,pow_le_pow_right→qaq,lt_irrefl→qau,mod_lt→qav,mul_one→qaw,sub_self→qaz,mod_eq_of_lt→qaG,not_lt_zero→qaS,lt_succ_self→qa1,add_assoc→qa3,beq_eq→qbd,mod_two_eq_zero_or_one→qbv,xor_assoc→qbw,min_eq_right→qby,strongRecOn→qbL,two_pow_pos→qbM,lt_trichotomy→qbP,add_comm→qck,ble_eq→qct,min_le_left→qcu,xor_lt_two_pow→qcv,pow_succ→qcL,sub_lt_sub_left→qc8,le_of_lt→qdc,xor_zero→qdd,log2_lt→qdr,pow_add→qds,min_le_right→qdv,shiftLeft_eq→qdw,le_total→qdB
open And renaming intro→Zh
open List renaming getElem?_eq_getElem→Zi,getElem?_cons_succ→Zk,getElem?_eq_some_iff→Zl,getElem?_cons_zero→Zm,length_append→Zo,length_map→Zp,take_succ_eq_append_getElem→Zs,length_cons→Zu,length_eq_zero_iff→Zw,mem_cons_of_mem→Zx,mem_cons_self→Zy,mem_cons→ZC,length_take→ZD,length_nil→ZG,getElem?_map→ZH,take_length→ZL,getElem?_append_right→ZN,getElem_mem→ZO,length_set→ZR,getElem?_append_left→ZU,mem_map→ZX,map_eq_nil_iff→ZZ,not_mem_nil→Z0,map_append→Z3,replicate→Z4,cons_append→Z5,mem_singleton→Z9,filter_cons→Z',flatMap_cons→qaa,getD_eq_getElem?_getD→qab,nil_append→qac,drop_eq_getElem_cons→qad,length_singleton→qae,append_assoc→qah,length_drop→qak,append_nil→qap,map_cons→qar,mem_append→qas,foldl_cons→qax,range→qay,mem_filter→qaF,length→qaR,getElem?_drop→qaT,foldl_append→qa8,mem_or_eq_of_mem_set→qbc,nodup_append→qbm,getElem?_range→qbq,mem_flatMap→qbx,filter_eq_self→qbS,exists_mem_of_ne_nil→qcc,findIdx?_eq_none_iff→qcd,drop_drop→qci,prefix_append→qcs,drop_eq_nil_of_le→qcA,take_append_drop→qcJ,drop_eq_nil_iff→qcV,map→qcW,prefix_refl→qcX,map_nil→qc9,drop_length→qdu,drop_left→qdF
open Bool renaming false_eq_true→Zz,and_eq_true→ZF,not_true→qaI,true_and→qa2,not_false→qa4,or_eq_false_iff→qbH,false_and→qch,or_eq_true→qdz
open Int renaming ofNat→ZI,toNat_natCast→qb9
open Array renaming getElem?_toList→ZK
open Option.some renaming injEq→ZQ
open Option renaming map_some→Z1,getD_some→qal
open List.cons renaming injEq→Z2
open Go.Proofs.Tryz renaming prog→Z6,f160→qaC,f203→qaY,f106→qba,f107→qbD,f167→qbE,f222→qbG,checked→qbN,f109→qbQ,f198→qbR,f155→qcP,f227→qcS,f151→qdg,f195→qdi
open UInt8 renaming ofNat→qaD,toNat_inj→qbo,toNat_ofNat_of_lt'→qcn
open Classical renaming byCases→qa7,byContradiction→qcb
open Int.ofNat renaming inj→qcr
namespace Go.Proofs.YtggndfefpbmaeaaGreatDoor.sto
open Go.Am
def cm (n:Nat):Nat:=(gz n+7)/8
def wJ (n:Nat):Nat:=if n<248 then 1 else 1+cm n
variable {n:Nat}
theorem H9 (h:n<18446744073709551616):gz n≤64:=by
 unfold gz;split
 ·omega
 ·rename_i h0;have:=(qdr h0 (k:=64)).2 h;omega
theorem sQ (h:n<18446744073709551616):cm n≤8:=by have:=H9 h;unfold cm;omega
theorem Vu:b6.bp 316=some (.array 9 5):=by kernel_rfl
theorem zu:aV b6 5= .ok 1:=by kernel_rfl
theorem Xh:aV b6 3= .ok 1:=by kernel_rfl
theorem JE:aV b6 318= .ok 10:=by kernel_rfl
theorem YE:bO b6 318= .ok (.agg ⟨[.int .u8 0,.int .u8 0,.int .u8 0,.int .u8 0,.int .u8 0,.int .u8 0,.int .u8 0,.int .u8 0,.int .u8 0,.int .i64 0]⟩):=by kernel_rfl
variable {b:Nat}
theorem GH:ak b6 318 (pw b 0) 0= .ok (pw b 0):=by kernel_rfl
theorem Nl:ak b6 318 (pw b 0) 1= .ok (pw b 9):=by kernel_rfl
variable {i:Nat}
theorem NT (h:i<9):aW b6 316 (pw b 0) (.int .i64 i)= .ok (pw b i):=by
 have:=lu (tb:=b6) (b:=b) (o:=0) (k:=.i64) Vu zu h;rwa [ZT] at this
def TQ (l:List Value):Prop:=l.length=10∧∀v∈l,aH v=true
variable {v:Value}
theorem TQ.set {l:List Value} (h:TQ l) (o:Nat) (hv:aH v=true):TQ (l.set o v):=⟨by rw [ZR];exact h.1,fun w hw=>by
 rcases qbc hw with hw|rfl
 ·exact h.2 w hw
 ·exact hv⟩
variable {A:Mem} {o:Nat}
theorem Xj {l:List Value} {n:Int} (h:l.length=10) (ho:o<10):aT b6 (A.alloc (aa 318 l)) 5 (pw A.next o) (.int .u8 n)= .ok (A.alloc (aa 318 (l.set o (.int .u8 n)))):=da zu rfl rfl (by omega)
theorem Dx {l:List Value} {n:Int} (h:l.length=10):aT b6 (A.alloc (aa 318 l)) 3 (pw A.next 9) (.int .i64 n)= .ok (A.alloc (aa 318 (l.set 9 (.int .i64 n)))):=da Xh rfl rfl (by omega)
theorem I0 {l:List Value} (h:l.length=10):ai b6 (A.alloc (aa 318 l)).get 318 (pw A.next 0)= .ok (.agg ⟨l⟩):=yC (by rw [JE,h]) (by kernel_rfl)
theorem Tu {l:List Value} (h:TQ l):aT b6 (A.alloc (aa 318 l)) 318 (pw A.next 0) (.agg ⟨l⟩)= .ok (A.alloc (aa 318 l)):=a_ (by rw [JE,h.1]) rfl rfl (by intro e;have:=h.1;rw [e] at this;cases this) h.2
noncomputable def mQ:Code:=qbG.body.getD .skip
noncomputable def Ge:Code:=sub mQ [1,1,1,1,0,1,0,0]
theorem QM:qbG.body=some (.seq (sub mQ [0]) (.seq (sub mQ [1,0]) (.seq (sub mQ [1,1,0]) (.seq (sub mQ [1,1,1,0]) (.seq (.seq (sub mQ [1,1,1,1,0,0]) (.block 0 (.loop Ge))) (.seq (sub mQ [1,1,1,1,1,0]) (.seq (sub mQ [1,1,1,1,1,1,0]) (sub mQ [1,1,1,1,1,1,1])))))))):=by kernel_rfl
def XQ (tb:bL) (fn:Func) (Q:Value→Mem→Prop) (e:Ex) (s:St):Prop:=(e= .nrm∨e= .ret)∧s.d=[]∧∃v,(fj tb s.t s.m.get fn.results.toList).bind (fun vs=>.ok (oneOf vs))= .ok v∧Q v s.m
variable {tb:bL} {f:FuncId} {fn:Func}
theorem cM {c:Code} {args:List Value} {Q:Value→Mem→Prop} (hf:tb.fn.get f=some fn) (hb:fn.body=some c) (hn:args.length≤fn.ntmps) (hnm:(fn.name== "runtime.NumGoroutine")=false) (hk:tb.hk.get f=none)
 (h:W tb c ⟨T.bR .e 0 args,fn.ntmps,[],A,none⟩ (XQ tb fn Q)):∃v A',bJ tb f args A v A'∧Q v A':=by
 refine dQ hf hb hn hnm hk (h.mono fun e s hs=>?_);obtain⟨h1,h2,v,h3,h4⟩:=hs;rw [h2];cases hr:fj tb s.t s.m.get fn.results.toList with
 |no _=>rw [hr] at h3;cases h3
 |ok vs=>
  rw [hr] at h3;cases h3;exact⟨h1,s.m,vs,rfl,hr,h4⟩
theorem RZ (hn:n<18446744073709551616):∃v A',bJ b6 222 [.int .u64 n] A v A'∧∃l,v= .agg ⟨l⟩∧TQ l∧l[9]?=some (.int .i64 (wJ n:Nat)):=by
 refine cM (bB Tryz.func222) QM (by rw [Tryz.ntmps222];simp) (by kernel_rfl) (by kernel_rfl) ?_;have z10:TQ [.int .u8 0,.int .u8 0,.int .u8 0,.int .u8 0,.int .u8 0,.int .u8 0,.int .u8 0,.int .u8 0,.int .u8 0,.int .i64 0]:=⟨rfl,by simp [aH]⟩;apply W.q
 ·intro M;simp (disch:=first|decide+kernel|omega) only [mQ,qbG,Aq,Zf,YE,aj];rfl
 generalize [Value.int .u8 0,.int .u8 0,.int .u8 0,.int .u8 0,.int .u8 0,.int .u8 0,.int .u8 0,.int .u8 0,.int .u8 0,.int .i64 0]=l at z10;have zl:=z10.1;apply W.seq;by_cases h:n<248
 ·have c1:=bx (tb:=b6) (s:=103) (d:=5) (k:=.u64) (n:=n) (by rw [h_];rfl) mA (jh (by omega));have t1:=(z10.set 0 (v:=.int .u8 n) rfl);have t2:=(t1.set 9 (v:=.int .i64 (1:Nat)) rfl);have e1:=t1.1;have e2:=t2.1;have e3:=Tu (A:=A) t2;apply W.run 20
  ·intro M;simp (disch:=first|decide+kernel|omega) only [mQ,qbG,Aq,Zf,h,c1,GH,Nl,NT,Xj,Dx,zl,e1,e2,I0,e3];rfl
  refine⟨by simp,rfl,_,by simp only [qbG,Aq,Zf,I0,e2],_,rfl,t2,?_⟩;rw [List.getElem?_set_self (by rw [e1];omega)];unfold wJ;rw [if_pos h]
 ·obtain⟨g,hg⟩:=Lq (A:=A.alloc (aa 318 l)) n hn;have hm:=sQ hn;have hb:=H9 hn;have q1:gz n+8-1=gz n+7:=by omega
  have c1:=bx (tb:=b6) (s:=3) (d:=5) (k:=.i64) (n:=247+cm n) (by rw [Dq];rfl) mA (jh (by omega));have a1:aK .add .i64 ((247:Nat):Int) ((cm n:Nat):Int)= .ok (.int .i64 (247+cm n:Nat)):=a8 (aR (by omega));have t1:=(z10.set 0 (v:=.int .u8 (247+cm n:Nat)) rfl);apply W.run 20
  ·intro M;simp (disch:=first|decide+kernel|omega) only [mQ,qbG,Aq,Zf,h];rfl
  apply W.qG (g)
  ·intro M hM;simp (disch:=first|decide+kernel|omega) only [mQ,qbG,Aq,Zf,hg,bm,aR,q1];rfl
  rw [show(gz n+7)/8=cm n from rfl];apply W.q
  ·intro M;simp (disch:=first|decide+kernel|omega) only [mQ,qbG,Aq,Zf,a1,c1,GH,NT,Xj,zl];rfl
  apply W.seq;apply W.q
  ·intro M;simp (disch:=first|decide+kernel|omega) only [mQ,qbG,Aq,Zf];rfl
  apply W.block;generalize l.set 0 (.int .u8 (247+cm n:Nat))=l1 at t1;refine W.up (cm n) (fun i t D=>∃l2,D=A.alloc (aa 318 l2)∧TQ l2∧Sl t [(0,.int .u64 n),(2,pw A.next 0),(3,.int .i64 (cm n:Nat)),(23,.int .i64 (cm n:Nat)),(24,.int .i64 i)]) ?_ (Zv _) ⟨l1,rfl,t1,?_⟩
  ·rintro i t D hi ⟨l2,rfl,t2,g0,g2,g3,g23,g24,-⟩;have z2:=t2.1;by_cases hlt:i<cm n
   ·have m1:aK .mul .i64 ((8:Nat):Int) ((i:Nat):Int)= .ok (.int .i64 (8*i:Nat)):=iE (aR (by omega));have a2:aK .add .i64 ((1:Nat):Int) ((i:Nat):Int)= .ok (.int .i64 (1+i:Nat)):=a8 (aR (by omega));have c2:=MQ (tb:=b6) (s:=103) (d:=5) (k:=.u64) (n:=n>>>(8*i)) (by rw [h_];rfl) mA;have t3:=(t2.set (1+i) (v:=.int .u8 (n>>>(8*i) % 256:Nat)) rfl);apply W.run 20
    ·intro M;simp (disch:=first|decide+kernel|omega) only [Ge,mQ,qbG,Aq,Zf,g0,g2,g23,g24,hlt,m1,a2,c2,tp,GH,NT,Xj,z2];rfl
    refine⟨hlt,_,_,rfl,_,rfl,t3,?_⟩;simp only [Sq,Zf,Zg,g0,g2,g3,g23]
   ·have hin:i=cm n:=by omega
    subst hin;have a2:aK .add .i64 ((1:Nat):Int) ((cm n:Nat):Int)= .ok (.int .i64 (1+cm n:Nat)):=a8 (aR (by omega));have t3:=(t2.set 9 (v:=.int .i64 (1+cm n:Nat)) rfl);have e3:=Tu (A:=A) t3;have z3:=t3.1;apply W.run 20
    ·intro M;simp (disch:=first|decide+kernel|omega) only [Ge,mQ,qbG,Aq,Zf,g23,g24,hlt];rfl
    apply W.q
    ·intro M;simp (disch:=first|decide+kernel|omega) only [mQ,qbG,Aq,Zf,g2,g3,a2,Nl,Dx,z2];rfl
    apply W.run 20
    ·intro M;simp (disch:=first|decide+kernel|omega) only [mQ,qbG,Aq,Zf,g2,I0,z3,e3];rfl
    refine⟨by simp,rfl,_,by simp only [qbG,Aq,Zf,g2,I0,z3],_,rfl,t3,?_⟩;rw [List.getElem?_set_self (by rw [z2];omega)];unfold wJ;rw [if_neg h]
  ·simp only [Sq,Zf,Zg]
theorem Lz (hn:n<18446744073709551616):∃A',bJ b6 199 [.int .u64 n] A (.int .i64 (wJ n:Nat)) A':=by
 obtain⟨v,A',⟨g,hg⟩,l,rfl,h1,h2⟩:=RZ (A:=A) hn;have f1:um b6 318 (.agg ⟨l⟩) 1= .ok (.int .i64 (wJ n:Nat)):=by
  have e:um b6 318 (.agg ⟨l⟩) 1=jo b6 3 l 9:=by kernel_rfl
  rw [e];exact gu Dq rfl h2
 refine⟨A',?_⟩;refine aP (bB Tryz.func199) (c:=Tryz.f199.body.getD .skip) (by kernel_rfl) (by rw [Tryz.ntmps199];simp) (by kernel_rfl) (by kernel_rfl) ?_;apply W.bf (g) 60
 ·intro M hM;simp (disch:=first|decide+kernel|omega) only [Tryz.f199,Aq,Zf,hg,f1];rfl
 exact⟨by simp,rfl,rfl,by simp only [Tryz.f199,Aq,Zf,hg,f1]<;>rfl⟩
def oK (s:List UInt8) (a:Nat):Nat→Nat
 |0=>0
 |i+1=>oK s a i|||((s.getD (a+1+i) 0).toNat<<<(8*i))
theorem CC (s:List UInt8) (a:Nat):∀i,oK s a i<2^(8*i)
 |0=>by simp [oK]
 |i+1=>by
  unfold oK;refine Nat.or_lt_two_pow (ZJ (CC s a i) (qaq (by omega) (by omega))) ?_;rw [qdw,show 8*(i+1)=8+8*i by omega,qds];exact Nat.mul_lt_mul_of_pos_right (s.getD (a+1+i) 0).toNat_lt (qbM _)
def sM (s:List UInt8) (a:Nat):Nat×Nat×Nat:=
 if s.length≤a then(0,a,3) else if(s.getD a 0).toNat<248 then((s.getD a 0).toNat,a+1,0)
 else if s.length-a≤(s.getD a 0).toNat-247 then(0,a,3)
 else if wJ (oK s a ((s.getD a 0).toNat-247))=1+((s.getD a 0).toNat-247) then(oK s a ((s.getD a 0).toNat-247),a+1+((s.getD a 0).toNat-247),0) else(0,a,5)
def wI (p:Nat×Nat×Nat):Value:=.tuple ⟨[.int .u64 p.1,.int .i64 p.2.1,.int .i64 p.2.2]⟩
noncomputable def iS:Code:=qaC.body.getD .skip
noncomputable def F9:Code:=sub iS [1,1,1,1,1,1,0,1,0,0]
theorem wZ:qaC.body=some (.seq (sub iS [0]) (.seq (sub iS [1,0]) (.seq (sub iS [1,1,0]) (.seq (sub iS [1,1,1,0]) (.seq (sub iS [1,1,1,1,0]) (.seq (sub iS [1,1,1,1,1,0]) (.seq (.seq (sub iS [1,1,1,1,1,1,0,0]) (.block 0 (.loop F9))) (.seq (sub iS [1,1,1,1,1,1,1,0]) (.seq (sub iS [1,1,1,1,1,1,1,1,0]) (sub iS [1,1,1,1,1,1,1,1,1])))))))))):=by kernel_rfl
theorem run_get {s:List UInt8} {a:Nat} (hs:s.length<1000000) (ha:a≤s.length):∃v A',bJ b6 160 [strOf s,.int .i64 a] A v A'∧v=wI (sM s a):=by
 refine cM (bB Tryz.func160) wZ (by rw [Tryz.ntmps160];simp) (by kernel_rfl) (by kernel_rfl) ?_;have hl:=cd (tb:=b6) (t:=9) (l:=s) o_;apply W.q
 ·intro M;simp (config:={maxSteps:=4000000}) (disch:=first|decide+kernel|omega|simp only [Wq,Zf]) only [iS,qaC,Aq,Zj,reduceIte,Zf,Zg];rfl
 apply W.seq;by_cases h1:s.length≤a
 ·apply W.run 20
  ·intro M;simp (config:={maxSteps:=4000000}) (disch:=first|decide+kernel|omega|simp only [Wq,Zf]) only [iS,qaC,Aq,Zj,reduceIte,Zf,Zg,hl,bN,bj,h1];rfl
  exact⟨by simp,rfl,_,(by simp only [qaC,Aq,Zj,reduceIte,Zf,Zg]<;>rfl),by unfold sM;rw [if_pos h1];rfl⟩
 have hix:=eg (t:=9) (kd:=.i64) o_ (show a<s.length by omega);have hf:=(s.getD a 0).toNat_lt;generalize hfd:(s.getD a 0).toNat=f at hix hf;apply W.run 20
 ·intro M;simp (config:={maxSteps:=4000000}) (disch:=first|decide+kernel|omega|simp only [Wq,Zf]) only [iS,qaC,Aq,Zj,reduceIte,Zf,Zg,hl,bN,bj,h1];rfl
 apply W.q
 ·intro M;simp (disch:=first|decide+kernel|omega) only [iS,qaC,Aq,Zf,hix];rfl
 apply W.seq;by_cases h2:f<248
 ·have cv:=bx (tb:=b6) (s:=5) (d:=103) (k:=.u8) (n:=f) (by rw [mA];rfl) h_ (cJ (by omega));have a1:aK .add .i64 ((a:Nat):Int) ((1:Nat):Int)= .ok (.int .i64 (a+1:Nat)):=a8 (aR (by omega));apply W.run 20
  ·intro M;simp (disch:=first|decide+kernel|omega) only [iS,qaC,Aq,Zf,h2,cv,a1];rfl
  exact⟨by simp,rfl,_,(by simp only [qaC,Aq,Zf]<;>rfl),by unfold sM;rw [if_neg h1,hfd,if_pos h2];rfl⟩
 have cv:=bx (tb:=b6) (s:=5) (d:=3) (k:=.u8) (n:=f) (by rw [mA];rfl) Dq (aR (by omega));have s1:aK .sub .i64 ((f:Nat):Int) ((248:Nat):Int)= .ok (.int .i64 (f-248:Nat)):=bm (by omega) (aR (by omega));have a1:aK .add .i64 ((f-248:Nat):Int) ((1:Nat):Int)= .ok (.int .i64 (f-247:Nat)):=by rw [a8 (aR (by omega)),show f-248+1=f-247 by omega]
 have s2:aK .sub .i64 ((s.length:Nat):Int) ((a:Nat):Int)= .ok (.int .i64 (s.length-a:Nat)):=bm (by omega) (aR (by omega));apply W.run 20
 ·intro M;simp (disch:=first|decide+kernel|omega) only [iS,qaC,Aq,Zf,h2];rfl
 apply W.q
 ·intro M;simp (disch:=first|decide+kernel|omega) only [iS,qaC,Aq,Zf,cv,s1,a1];rfl
 generalize hm:f-247=m;have hm8:m≤8:=by omega
 apply W.seq;by_cases h3:s.length-a≤m
 ·apply W.run 20
  ·intro M;simp (disch:=first|decide+kernel|omega) only [iS,qaC,Aq,Zf,hl,s2,fi,bj,h3];rfl
  exact⟨by simp,rfl,_,(by simp only [qaC,Aq,Zf]<;>rfl),by unfold sM;rw [if_neg h1,hfd,if_neg h2,hm,if_pos h3];rfl⟩
 apply W.run 20
 ·intro M;simp (disch:=first|decide+kernel|omega) only [iS,qaC,Aq,Zf,hl,s2,fi,bj,h3];rfl
 apply W.seq;apply W.q
 ·intro M;simp (disch:=first|decide+kernel|omega) only [iS,qaC,Aq,Zf];rfl
 apply W.block;refine W.up m (fun i t D=>D=A∧Sl t [(0,strOf s),(1,.int .i64 a),(4,.int .u64 (oK s a i:Nat)),(8,.int .i64 m),(39,.int .i64 m),(40,.int .i64 i)]) ?_ (Zv _) ⟨rfl,?_⟩
 ·rintro i t D hi ⟨rfl,g0,g1,g4,g8,g39,g40,-⟩;have hlt2:=CC s a i;have hp:2^(8*i)≤2^64:=qaq (by omega) (by omega);by_cases hlt:i<m
  ·have hx:=eg (t:=9) (kd:=.i64) o_ (show a+1+i<s.length by omega);have hc:=(s.getD (a+1+i) 0).toNat_lt;have hlt3:=CC s a (i+1);have hp3:2^(8*(i+1))≤2^64:=qaq (by omega) (by omega);have e3:oK s a (i+1)=oK s a i|||((s.getD (a+1+i) 0).toNat<<<(8*i)):=rfl;have hsh:(s.getD (a+1+i) 0).toNat<<<(8*i)<18446744073709551616:=by
    refine ZJ ?_ hp3;rw [qdw,show 8*(i+1)=8+8*i by omega,qds];exact Nat.mul_lt_mul_of_pos_right hc (qbM _)
   generalize (s.getD (a+1+i) 0).toNat=c at hx hc hsh e3;have cv2:=bx (tb:=b6) (s:=5) (d:=103) (k:=.u8) (n:=c) (by rw [mA];rfl) h_ (cJ (by omega));have m1:aK .mul .i64 ((8:Nat):Int) ((i:Nat):Int)= .ok (.int .i64 (8*i:Nat)):=iE (aR (by omega));have a2:aK .add .i64 ((a:Nat):Int) ((1:Nat):Int)= .ok (.int .i64 (a+1:Nat)):=a8 (aR (by omega));have a3:aK .add .i64 ((a+1:Nat):Int) ((i:Nat):Int)= .ok (.int .i64 (a+1+i:Nat)):=a8 (aR (by omega));have sh:=fun d k'=>Sf (d:=d) (k':=k') (a:=c) (b:=8*i) (by omega) hsh
   have o1:=K7 (a:=oK s a i) (b:=c<<<(8*i)) (by omega) hsh;apply W.run 20
   ·intro M;simp (disch:=first|decide+kernel|omega) only [F9,iS,qaC,Aq,Zf,g0,g1,g4,g39,g40,hlt,hx,cv2,m1,a2,a3,sh,o1];rfl
   refine⟨hlt,_,_,rfl,rfl,?_⟩;simp only [Sq,Zf,Zg,g0,g1,g8,g39,e3]
  ·have hin:i=m:=by omega
   subst hin;obtain⟨A',g,hg⟩:=Lz (A:=D) (n:=oK s a i) (by omega);have a2:aK .add .i64 ((1:Nat):Int) ((i:Nat):Int)= .ok (.int .i64 (1+i:Nat)):=a8 (aR (by omega));have a3:aK .add .i64 ((a:Nat):Int) ((1:Nat):Int)= .ok (.int .i64 (a+1:Nat)):=a8 (aR (by omega));have a4:aK .add .i64 ((a+1:Nat):Int) ((i:Nat):Int)= .ok (.int .i64 (a+1+i:Nat)):=a8 (aR (by omega));apply W.run 20
   ·intro M;simp (disch:=first|decide+kernel|omega) only [F9,iS,qaC,Aq,Zf,g39,g40,hlt];rfl
   apply W.seq;by_cases h4:wJ (oK s a i)=1+i
   ·apply W.bf (g) 20
    ·intro M hM;simp (disch:=first|decide+kernel|omega) only [iS,qaC,Aq,Zf,g4,g8,hg,a2,h4];rfl
    apply W.run 20
    ·intro M;simp (disch:=first|decide+kernel|omega) only [iS,qaC,Aq,Zf,g1,g4,g8,a3,a4];rfl
    exact⟨by simp,rfl,_,(by simp only [qaC,Aq,Zf]<;>rfl),by unfold sM;rw [if_neg h1,hfd,if_neg h2,hm,if_neg h3,if_pos h4];rfl⟩
   ·apply W.bf (g) 20
    ·intro M hM;simp (disch:=first|decide+kernel|omega) only [iS,qaC,Aq,Zf,g1,g4,g8,hg,a2,h4];rfl
    exact⟨by simp,rfl,_,(by simp only [qaC,Aq,Zf]<;>rfl),by unfold sM;rw [if_neg h1,hfd,if_neg h2,hm,if_neg h3,if_neg h4];rfl⟩
 ·simp only [Sq,Zf,Zg,oK]
def ek (l:List UInt8):List Value:=l.map eC
theorem en (l:List UInt8):(ek l).length=l.length:=by simp [ek]
theorem zN:b6.bp 48=some (.slice 5):=by kernel_rfl
theorem XP:cg b6 5= .ok (1,[.int .u8 0]):=by kernel_rfl
theorem XM:∃i,b6.ty.get 5=some i∧0<i.bytes∧i.bytes≤65536:=by
 have h:(b6.ty.get 5).map (fun i=>Zt 0 i.bytes&&Zj i.bytes 65536)=some true:=by kernel_rfl
 cases hq:b6.ty.get 5 with
 |none=>rw [hq] at h;cases h
 |some i=>
  rw [hq] at h;simp only [Z1,ZQ,ZF,ZB] at h;exact⟨i,rfl,h.1,ZP h.2⟩
theorem Dc {l:List UInt8} {x:Value} (h:nZ A 5 b (ek l) x):dw b6 A.get 48 9 x= .ok (strOf l):=by
 rcases h with⟨rfl,hl⟩|⟨k,c,rfl,h4,h5,h6⟩
 ·have:l=[]:=by cases l with
   |nil=>rfl
   |cons _ _=>simp [ek] at hl
  subst this;unfold dw;simp only [zN,o_,mA];rfl
 ·have hb:XF A b 5 k l:=by
   obtain⟨cs,e1,e2⟩:=h5;exact⟨cs,e1,fun i hi=>e2 i (by rw [en];exact hi)⟩
  rw [en];exact zE zN o_ mA hb
variable {dst:Option Tmp}
theorem Yh {ih:Code→St→R (Ex×St)} {ty:TypeId} {pos:String} {after:Array Edge} {g:Option (Nat×Bool)} {s:St} {k:St→R (Ex×St)} (x:Operand):dK b6 ih {dst,op:=.convert 48 9 x,type:=ty,pos,after,guard:=g} s k=(ev s.t x).bind fun x=>(dw b6 s.m.get 48 9 x).bind fun v=>bQ s dst v k:=by
 rw [nc (hc:=by kernel_rfl) (hi:=rfl)];simp only [nz,R.a7]
variable {c:Nat}
theorem H' (h:c<256):eC (.ofNat c)= .int .u8 c:=by
 show Value.int .u8 (ZI (qaD c).toNat)=_;rw [qcn h];rfl
theorem T1 {c:Int}:a9 b6 48 1 [(0,.int .u8 c)]= .ok (aa 5 [.int .u8 c],.nO 1 2):=by kernel_rfl
theorem Mq {D:Mem} {l:List UInt8} {x:Value} (h:nZ D 5 b (ek l) x) (hb:l≠ []→b<D.next) (hl:l.length<16000000) (hc:c<256):
 ∃x' D',ba b6 (D.alloc (aa 5 [.int .u8 c])) 48 48 x (.slice (some ⟨D.next,0,none⟩) 1 2)= .ok (x',D')∧nZ D' 5 (D.next+1) (ek (l++[.ofNat c])) x'∧D'.next=D.next+2∧∀y,y≠b→y<D.next→D'.get y=D.get y:=by
 obtain⟨i,h1,h2,h3⟩:=XM;have hs:nZ (D.alloc (aa 5 [.int .u8 c])) 5 b (ek l) x:=h.same (by rw [ae];omega) fun hh=>aB (by omega)
 obtain⟨x',D',e1,e2,e3,e4⟩:=hs.append (tb:=b6) (st:=48) (xt:=48) zN zN XP h1 h2 h3 (by rw [en];omega) (ay D _) rfl;rw [ae] at e2 e3 e4;refine⟨x',D',e1,?_,by omega,fun y hy hyn=>by rw [e4 y hy (by omega),aB (by omega)]⟩;rw [show ek (l++[qaD c])=ek l++[.int .u8 c] by unfold ek;rw [Z3,List.map_singleton,H' hc]];exact e2
theorem Db {D:Mem} (hc:c<256):nZ (D.alloc (aa 5 [.int .u8 c])) 5 D.next (ek [.ofNat c]) (.slice (some ⟨D.next,0,none⟩) 1 2):=by
 have e:ek [qaD c]=[.int .u8 c]:=by unfold ek;rw [List.map_singleton,H' hc]
 rw [e];exact .inr ⟨.var 1,2,rfl,by rw [ae];omega,fe D 5 [.int .u8 c],.inl rfl⟩
def EI (n:Nat):Nat→List UInt8
 |0=>[]
 |i+1=>EI n i++[.ofNat (n>>>(8*i) % 256)]
def bI (n:Nat):List UInt8:=if n<248 then [.ofNat n] else .ofNat (247+cm n)::EI n (cm n)
theorem jV (n:Nat):∀i,(EI n i).length=i
 |0=>rfl
 |i+1=>by unfold EI;rw [Zo,jV n i];rfl
theorem ES (n:Nat):(bI n).length=wJ n:=by
 unfold bI wJ;split
 ·rfl
 ·rw [Zu,jV];omega
theorem GZ (h:n<256) (h0:n≠0):cm n=1:=by
 have h1:=BY h;unfold cm gz;rw [if_neg h0];have:=(qdr h0 (k:=8)).2 h;omega
theorem KO (h:256≤n):cm n=1+cm (n/256):=by
 unfold cm;rw [xD (n:=n) (a:=8) h,qai,show 2^8=256 from rfl];omega
noncomputable def xJ:Code:=qcP.body.getD .skip
noncomputable def F8:Code:=sub xJ [1,1,0,0,0]
theorem Qt:qcP.body=some (.seq (sub xJ [0]) (.seq (sub xJ [1,0]) (.seq (.block 0 (.loop F8)) (.seq (sub xJ [1,1,1,0]) (sub xJ [1,1,1,1]))))):=by kernel_rfl
theorem nd {a:Nat} (h:a<18446744073709551616) (hb:0<b):aK .quo .u64 (a:Int) (b:Int)= .ok (.int .u64 (a/b:Nat)):=by
 obtain⟨c,rfl⟩:∃c,b=c+1:=⟨b-1,by omega⟩;show R.ok (Value.int .u64 (dp .u64 ((a/(c+1):Nat):Int)))=_;rw [mG (cJ (qan (Nat.div_le_self _ _) h))]
theorem Hh (hn:n<18446744073709551616) (h0:n≠0):bJ b6 155 [.int .u64 n] A (.int .i64 (cm n:Nat)) A:=by
 refine aP (bB Tryz.func155) Qt (by rw [Tryz.ntmps155];simp) (by kernel_rfl) (by kernel_rfl) ?_;have hle:=sQ hn;apply W.q
 ·intro M;simp (disch:=omega) only [xJ,qcP,Aq,Zf];rfl
 apply W.q
 ·intro M;simp (disch:=omega) only [xJ,qcP,Aq,Zf];rfl
 apply W.seq;apply W.block;refine W.up 7 (fun i t D=>D=A∧∃x,x≠0∧x<18446744073709551616∧i+cm x=cm n∧Sl t [(0,.int .u64 x),(3,.int .i64 (i+1:Nat))]) ?_ (Zv _) ⟨rfl,n,h0,hn,by omega,?_⟩
 ·rintro i t D hi ⟨rfl,x,hx0,hx,hi2,g0,g3,-⟩;by_cases hlt:256≤x
  ·have hst:=KO hlt;have h1:cm (x/256)≠0:=by
    intro h;have h2:x/256=0:=by
     unfold cm gz at h;split at h
     ·assumption
     ·omega
    omega
   have q:=nd (b:=256) hx (by omega);have a1:aK .add .i64 ((i+1:Nat):Int) ((1:Nat):Int)= .ok (.int .i64 (i+1+1:Nat)):=a8 (aR (by omega));apply W.run 20
   ·intro M;simp (disch:=decide+kernel) only [F8,xJ,qcP,Aq,Zf,g0,g3,bN,bj,hlt,q,a1];rfl
   refine⟨by omega,_,_,rfl,rfl,x/256,by omega,by omega,by omega,?_⟩;simp only [Sq,Zf,Zg]
  ·have h1:=GZ (by omega) hx0;have e:i+1=cm n:=by omega
   rw [e] at g3;apply W.run 20
   ·intro M;simp (disch:=decide+kernel) only [F8,xJ,qcP,Aq,Zf,g0,bN,bj,hlt];rfl
   apply W.q
   ·intro M;simp (disch:=omega) only [xJ,qcP,Aq,Zf,g3];rfl
   apply W.run 20
   ·intro M;simp only [xJ,qcP,Aq,Zf];rfl
   exact⟨by simp,rfl,rfl,by simp only [qcP,Aq,Zf]<;>rfl⟩
 ·simp only [Sq,Zf,Zg]
noncomputable def nR:Code:=qbD.body.getD .skip
noncomputable def F5:Code:=sub nR [1,1,1,1,0,1,0,0]
theorem wY:qbD.body=some (.seq (sub nR [0]) (.seq (sub nR [1,0]) (.seq (sub nR [1,1,0]) (.seq (sub nR [1,1,1,0]) (.seq (.seq (sub nR [1,1,1,1,0,0]) (.block 0 (.loop F5))) (.seq (sub nR [1,1,1,1,1,0]) (sub nR [1,1,1,1,1,1]))))))):=by kernel_rfl
theorem O2 (hn:n<18446744073709551616):∃v A',bJ b6 107 [.int .u64 n] A v A'∧v=strOf (bI n):=by
 refine cM (bB Tryz.func107) wY (by rw [Tryz.ntmps107];simp) (by kernel_rfl) (by kernel_rfl) ?_;have hle:=sQ hn;apply W.q
 ·intro M;simp (disch:=first|decide+kernel|omega) only [nR,qbD,Aq,Zf];rfl
 apply W.seq;by_cases h:n<248
 ·have c1:=bx (tb:=b6) (s:=103) (d:=5) (k:=.u64) (n:=n) (by rw [h_];rfl) mA (jh (by omega));have c2:=Dc (Db (D:=A) (show n<256 by omega));apply W.run 20
  ·intro M;simp (disch:=decide+kernel) only [nR,qbD,Aq,Zf,h,c1,T1,c2,Yh];rfl
  exact⟨by simp,rfl,_,(by simp only [qbD,Aq,Zf]<;>rfl),by unfold bI;rw [if_pos h]⟩
 obtain⟨g,hg⟩:=Hh (A:=A) hn (by omega);have c1:=bx (tb:=b6) (s:=3) (d:=5) (k:=.i64) (n:=247+cm n) (by rw [Dq];rfl) mA (jh (by omega));have a1:aK .add .i64 ((247:Nat):Int) ((cm n:Nat):Int)= .ok (.int .i64 (247+cm n:Nat)):=a8 (aR (by omega));apply W.run 20
 ·intro M;simp (disch:=decide+kernel) only [nR,qbD,Aq,Zf,h];rfl
 apply W.qG (g)
 ·intro M hM;simp (disch:=omega) only [nR,qbD,Aq,Zf,hg];rfl
 apply W.q
 ·intro M;simp (disch:=decide+kernel) only [nR,qbD,Aq,Zf,a1,c1,T1];rfl
 have s1:=Db (D:=A) (show 247+cm n<256 by omega);apply W.seq;apply W.q
 ·intro M;simp (disch:=omega) only [nR,qbD,Aq,Zf];rfl
 apply W.block;refine W.up (cm n) (fun i t D=>∃b x,nZ D 5 b (ek (.ofNat (247+cm n)::EI n i)) x∧b<D.next∧Sl t [(0,.int .u64 (n>>>(8*i):Nat)),(3,.int .i64 (cm n:Nat)),(4,x),(5,.int .i64 i)]) ?_ (Zv _) ⟨_,_,s1,by rw [ae];omega,?_⟩
 ·rintro i t D hi ⟨b,x,hs,hb,g0,g3,g4,g5,-⟩;by_cases hlt:i<cm n
  ·have hsh:n>>>(8*i)<18446744073709551616:=qan (Nat.shiftRight_le _ _) hn;have c2:=bx (tb:=b6) (s:=103) (d:=5) (k:=.u64) (n:=n>>>(8*i) % 256) (by rw [h_];rfl) mA (jh (by omega));have q:=nd (b:=256) hsh (by omega);have e2:n>>>(8*i)/256=n>>>(8*(i+1)):=by rw [show 8*(i+1)=8*i+8 by omega,Nat.shiftRight_add];exact(qai _ 8).symm
   obtain⟨x',D',ha,hs',hn',-⟩:=Mq hs (fun _=>hb) (by rw [Zu,jV];omega) (show n>>>(8*i) % 256<256 by omega);apply W.run 20
   ·intro M;simp (disch:=first|decide+kernel|omega) only [F5,nR,qbD,Aq,Zf,g0,g3,g4,g5,hlt,c2,T1,ha,q,e2];rfl
   refine⟨hlt,_,_,rfl,_,x',hs',by omega,?_⟩;simp only [Sq,Zf,Zg,g3]
  ·have e:i=cm n:=by omega
   subst e;have c2:=Dc hs;apply W.run 20
   ·intro M;simp (disch:=decide+kernel) only [F5,nR,qbD,Aq,Zf,g3,g5,hlt];rfl
   apply W.q
   ·intro M;simp (disch:=omega) only [nR,qbD,Aq,Zf,g4,c2,Yh];rfl
   apply W.run 20
   ·intro M;simp only [nR,qbD,Aq,Zf];rfl
   exact⟨by simp,rfl,_,(by simp only [qbD,Aq,Zf]<;>rfl),by unfold bI;rw [if_neg h]⟩
 ·simp only [Sq,Zf,Zg];simp
end Go.Proofs.YtggndfefpbmaeaaGreatDoor.sto
namespace Go.Am
theorem iQ:∀x,aZ x x=false
 | []=>rfl
 |a::x=>by
  have:Zt a.toNat a.toNat=false:=by
   cases h:Zt a.toNat a.toNat with
   |false=>rfl
   |true=>rw [ZB] at h;omega
  simp [aZ,this,iQ x]
theorem lj:∀x y z,aZ x y=true→aZ y z=true→aZ x z=true
 |_,[],_,h,_=>by simp [aZ] at h
 |_,_::_,[],_,h=>by simp [aZ] at h
 | [],b::y,c::z,_,_=>rfl
 |a::x,b::y,c::z,h1,h2=>by
  simp only [aZ,qdz,ZF,ZB,qbd] at h1 h2⊢;rcases h1 with h1|⟨h1,h1'⟩
  ·rcases h2 with h2|⟨h2,_⟩
   ·left;omega
   ·left;omega
  ·rcases h2 with h2|⟨h2,h2'⟩
   ·left;omega
   ·exact .inr ⟨by omega,lj x y z h1' h2'⟩
theorem n9:∀x y,aZ x y=false→aZ y x=false→x=y
 | [],[],_,_=>rfl
 | [],_::_,h,_=>by simp [aZ] at h
 |_::_,[],_,h=>by simp [aZ] at h
 |a::x,b::y,h1,h2=>by
  simp only [aZ,qbH,Bool.and_eq_false_iff] at h1 h2;have e:a.toNat=b.toNat:=by
   rcases qbP a.toNat b.toNat with h|h|h
   ·have:=h1.1;rw [show Zt a.toNat b.toNat=true by rw [ZB];exact h] at this;cases this
   ·exact h
   ·have:=h2.1;rw [show Zt b.toNat a.toNat=true by rw [ZB];exact h] at this;cases this
  have e1:aZ x y=false:=by
   rcases h1.2 with h|h
   ·rw [e] at h;simp at h
   ·exact h
  have e2:aZ y x=false:=by
   rcases h2.2 with h|h
   ·rw [e] at h;simp at h
   ·exact h
  rw [n9 x y e1 e2,qbo.1 e]
end Go.Am
namespace Go.Mdl
open Go.Am
structure aG where
 word:List UInt8
 weight:Nat
 gone:Bool
deriving DecidableEq
abbrev lt (a b:List UInt8):Prop:=aZ a b=true
theorem US (a:List UInt8):¬lt a a:=by unfold lt;rw [iQ];simp
theorem Oc {a b c:List UInt8} (h:lt a b) (k:lt b c):lt a c:=lj _ _ _ h k
theorem Od {a b:List UInt8} (h:¬lt a b) (k:¬lt b a):a=b:=n9 _ _ (by simpa [lt] using h) (by simpa [lt] using k)
def rL:List aG→Prop
 | []=>True
 |x::l=>(∀y∈l,lt x.word y.word)∧rL l
def nb (e:aG):List aG→List aG
 | []=>[e]
 |x::l=>if lt x.word e.word then x::nb e l else if x.word=e.word then e::l else e::x::l
variable {e:aG}
theorem CO:∀{l:List aG} {y:aG},y∈nb e l→y=e∨y∈l
 | [],y,h=>by simp [nb] at h;exact .inl h
 |x::l,y,h=>by
  unfold nb at h;split at h
  ·rcases ZC.1 h with rfl|h
   ·exact .inr Zy
   ·rcases CO h with h|h
    ·exact .inl h
    ·exact .inr (Zx _ h)
  ·split at h
   ·rcases ZC.1 h with h|h
    ·exact .inl h
    ·exact .inr (Zx _ h)
   ·rcases ZC.1 h with h|h
    ·exact .inl h
    ·exact .inr h
theorem Jb:∀{l:List aG},rL l→rL (nb e l)
 | [],_=>⟨fun y hy=>(by cases hy),trivial⟩
 |x::l,h=>by
  unfold nb;split
  ·rename_i hx;refine⟨fun y hy=>?_,Jb h.2⟩;rcases CO hy with rfl|hy
   ·exact hx
   ·exact h.1 y hy
  ·split
   ·rename_i hx he;exact⟨fun y hy=>by rw [←he];exact h.1 y hy,h.2⟩
   ·rename_i hx he;have hex:lt e.word x.word:=qcb fun hn=>he (Od hx hn)
    refine⟨fun y hy=>?_,h⟩;rcases ZC.1 hy with rfl|hy
    ·exact hex
    ·exact Oc hex (h.1 y hy)
def live (l:List aG):List aG:=l.filter fun e=>!e.gone
def find (w:List UInt8) (l:List aG):Option aG:=l.find? fun e=>decide (e.word=w)
end Go.Mdl
namespace Go.Sto
open Go.Am Go.Mdl
structure cL where
 byte:UInt8
 out:Nat
 to:Nat
deriving DecidableEq
structure a6 where
 fin:Bool
 out:Nat
 arcs:List cL
deriving DecidableEq
def val (e:aG):Nat:=if e.gone then 0 else e.weight+1
def least:List aG→Nat
 | []=>0
 |x::l=>l.foldl (fun n e=>min n (val e)) (val x)
def p_ (M:List a6) (s:a6):List a6×Nat:=
 match M.findIdx? (fun x=>decide (x=s)) with
 |some i=>(M,i)
 |none=>(M++[s],M.length)
def ax (d:Nat) (e:aG):Option UInt8:=e.word[d]?
def dD (rec:List aG→Nat→List a6→List a6×Nat) (d less:Nat):List aG→List cL→List a6→List a6×List cL
 | [],Ze,M=>(M,Ze)
 |e::r,Ze,M=>
  if ax d e=none∨(Ze.getLast?).map (·.byte)=ax d e then dD rec d less r Ze M
  else
   dD rec d less r (Ze++[⟨(ax d e).getD 0,least ((e::r).filter fun x=>decide (ax d x=ax d e))-less,(rec ((e::r).filter fun x=>decide (ax d x=ax d e)) (least ((e::r).filter fun x=>decide (ax d x=ax d e))) M).2⟩])
    (rec ((e::r).filter fun x=>decide (ax d x=ax d e)) (least ((e::r).filter fun x=>decide (ax d x=ax d e))) M).1
def iW (d less:Nat) (l:List aG):Bool×Nat:=l.foldl (fun s e=>if ax d e=none then(true,val e-less) else s) (false,0)
def pP:Nat→List aG→Nat→Nat→List a6→List a6×Nat
 |0,_,_,_,M=>(M,0)
 |f+1,l,d,less,M=>
  p_ (dD (fun own n M=>pP f own (d+1) n M) d less l [] M).1 ⟨(iW d less l).1,(iW d less l).2,(dD (fun own n M=>pP f own (d+1) n M) d less l [] M).2⟩
def nq (M:List a6):Nat→Nat→List (List UInt8×Nat)
 |0,_=>[]
 |k+1,i=>match M[i]? with
  |none=>[]
  |some s=>(if s.fin then [([],s.out)] else [])++s.arcs.flatMap fun a=>(nq M k a.to).map fun w=>(a.byte::w.1,a.out+w.2)
def VS (i:Nat) (s:a6):Prop:=(s.fin=false→s.out=0)∧(s.arcs.map (·.byte)).Pairwise (·<·)∧(∀a∈s.arcs,a.to<i)∧(s.fin=true∨s.arcs≠ [])∧((s.fin=true∧s.out=0)∨∃a∈s.arcs,a.out=0)
def de (M:List a6):Prop:=∀i s,M[i]?=some s→VS i s
theorem jR {α β:Type} {f g:α→List β}:∀{l:List α},(∀a∈l,f a=g a)→l.flatMap f=l.flatMap g
 | [],_=>rfl
 |x::l,h=>by rw [qaa,qaa,h x Zy,jR fun a ha=>h a (Zx _ ha)]
variable {M:List a6} {i:Nat}
theorem CY {M':List a6} (h:M<+:M') (hi:i<M.length):M'[i]?=M[i]?:=by
 obtain⟨t,rfl⟩:=h;rw [ZU hi]
theorem BJ {M':List a6} (g:de M) (h:M<+:M'):∀k i,i<M.length→nq M' k i=nq M k i
 |0,_,_=>rfl
 |k+1,i,hi=>by
  unfold nq;rw [CY h hi];have hs:M[i]?=some M[i]:=Zi hi;rw [hs];simp only
  congr 1;refine jR fun a ha=>?_
  rw [BJ g h k a.to (Nat.lt_trans ((g i _ hs).2.2.1 a ha) hi)]
theorem HU (g:de M):∀i k,i<k→nq M k i=nq M (i+1) i:=by
 intro i
 induction i using qbL with
 |ind i ih=>
  intro k hk;obtain⟨k',rfl⟩:∃k',k=k'+1:=⟨k-1,by omega⟩;unfold nq;cases hs:M[i]? with
  |none=>rfl
  |some s=>
   simp only
   congr 1;refine jR fun a ha=>?_
   have ht:=(g i s hs).2.2.1 a ha;rw [ih a.to ht k' (by omega),ih a.to ht i ht]
def ws (M:List a6) (i:Nat):List (List UInt8×Nat):=nq M (i+1) i
def je (M:List a6) (a:cL):List (List UInt8×Nat):=(ws M a.to).map fun w=>(a.byte::w.1,a.out+w.2)
theorem nP (g:de M) {s:a6} (h:M[i]?=some s):ws M i=(if s.fin then [([],s.out)] else [])++s.arcs.flatMap (je M):=by
 unfold ws;rw [nq,h];simp only
 congr 1;refine jR fun a ha=>?_
 unfold je ws;rw [HU g a.to i ((g i s h).2.2.1 a ha)]
theorem Ds {M':List a6} (g:de M) (h:M<+:M') (hi:i<M.length):ws M' i=ws M i:=BJ g h _ _ hi
def Good (M:List a6):Prop:=de M∧M.Nodup∧∀i,i<M.length→∀w∈ws M i,w.2≤4294967296
def f_ (M:List a6):Nat→Nat→Nat→Option Nat
 |0,_,_=>none
 |k+1,i,left=>match M[i]? with
  |none=>none
  |some s=>(s.arcs.foldl (fun o a=>o.bind fun L=>if L≤a.to then f_ M k a.to L else some L) (some left)).bind fun L=>if i=L then some (L+1) else none
def jb (M:List a6) (k:Nat) (o:Option Nat) (a:cL):Option Nat:=o.bind fun L=>if L≤a.to then f_ M k a.to L else some L
theorem fold_congr {α β:Type} {f g:β→α→β}:∀{l:List α} {b:β},(∀a∈l,∀b,f b a=g b a)→l.foldl f b=l.foldl g b
 | [],_,_=>rfl
 |x::l,b,h=>by rw [qax,qax,h x Zy,fold_congr fun a ha=>h a (Zx _ ha)]
variable {k:Nat}
theorem tG {left:Nat} {s:a6} (h:M[i]?=some s):f_ M (k+1) i left=(s.arcs.foldl (jb M k) (some left)).bind fun L=>if i=L then some (L+1) else none:=by
 rw [f_,h];rfl
theorem ve {M':List a6} (g:de M) (h:M<+:M'):∀k i left,i<M.length→f_ M' k i left=f_ M k i left
 |0,_,_,_=>rfl
 |k+1,i,left,hi=>by
  have hs:M[i]?=some M[i]:=Zi hi;rw [tG hs,tG ((CY h hi).trans hs)];congr 1;refine fold_congr fun a ha o=>?_
  unfold jb;congr 1;funext L;rw [ve g h k a.to L (Nat.lt_trans ((g i _ hs).2.2.1 a ha) hi)]
theorem qO {s:a6} (h:M.findIdx? (fun x=>decide (x=s))=some i):p_ M s=(M,i):=by unfold p_;rw [h]
theorem yF {s:a6} (h:M.findIdx? (fun x=>decide (x=s))=none):p_ M s=(M++[s],M.length):=by unfold p_;rw [h]
theorem Ew {s:a6} (h:M.findIdx? (fun x=>decide (x=s))=some i):M[i]?=some s:=by
 obtain⟨hi,hp,-⟩:=List.findIdx?_eq_some_iff_getElem.1 h;rw [Zi hi];simpa using hp
theorem NL {s:a6} (h:M.findIdx? (fun x=>decide (x=s))=none):s∉M:=by
 intro hs;have:=qcd.1 h s hs;simp at this
theorem yl {s:a6} (g:de M) (hs:VS M.length s):de (M++[s]):=by
 intro i x h;rcases ZS i M.length with hi|hi
 ·rw [ZU hi] at h;exact g i x h
 ·rw [ZN hi] at h;cases hq:i-M.length with
  |zero=>
   rw [hq] at h;cases h;rwa [show i=M.length by omega]
  |succ n=>
   rw [hq] at h;simp at h
theorem JR {s:a6} (g:de M) (hs:VS M.length s):ws (M++[s]) M.length=(if s.fin then [([],s.out)] else [])++s.arcs.flatMap (je M):=by
 rw [nP (yl g hs) (show(M++[s])[M.length]?=some s by rw [ZN (Zn _),qaz];rfl)];congr 1;refine jR fun a ha=>?_
 unfold je;rw [Ds g (qcs _ _) (hs.2.2.1 a ha)]
theorem Kx {s:a6} (g:Good M) (hs:VS M.length s) (hn:s∉M) (hv:∀w∈(if s.fin then [([],s.out)] else [])++s.arcs.flatMap (je M),w.2≤4294967296):Good (M++[s]):=by
 refine⟨yl g.1 hs,?_,fun i hi w hw=>?_⟩
 ·rw [qbm];refine⟨g.2.1,by simp,fun a ha b hb=>?_⟩;rw [Z9] at hb;rintro rfl;subst hb;exact hn ha
 ·rw [Zo,qae] at hi;rcases ZS i M.length with h|h
  ·rw [Ds g.1 (qcs _ _) h] at hw;exact g.2.2 i h w hw
  ·obtain rfl:i=M.length:=by omega
   rw [JR g.1 hs] at hw;exact hv w hw
theorem oJ:∀(l:List aG) (n:Nat),l.foldl (fun n e=>min n (val e)) n≤n∧∀e∈l,l.foldl (fun n e=>min n (val e)) n≤val e
 | [],n=>⟨Zn _,fun _ h=>(by cases h)⟩
 |x::l,n=>by
  obtain⟨h1,h2⟩:=oJ l (min n (val x));refine⟨ZV h1 (qcu _ _),fun e he=>?_⟩;rcases ZC.1 he with rfl|he
  ·exact ZV h1 (qdv _ _)
  ·exact h2 e he
variable {l:List aG} {e:aG}
theorem least_le (h:e∈l):least l≤val e:=by
 cases l with
 |nil=>cases h
 |cons x l=>
  rcases ZC.1 h with rfl|h
  ·exact(oJ l _).1
  ·exact(oJ l _).2 e h
theorem vO:∀(l:List aG) (n:Nat),l.foldl (fun n e=>min n (val e)) n=n∨∃e∈l,l.foldl (fun n e=>min n (val e)) n=val e
 | [],n=>.inl rfl
 |x::l,n=>by
  rw [qax];rcases vO l (min n (val x)) with h|⟨e,he,h⟩
  ·rcases qdB n (val x) with hl|hl
   ·exact .inl (by rw [h,qam hl])
   ·exact .inr ⟨x,Zy,by rw [h,qby hl]⟩
  ·exact .inr ⟨e,Zx _ he,h⟩
theorem oO (h:l≠ []):∃e∈l,least l=val e:=by
 cases l with
 |nil=>exact absurd rfl h
 |cons x l=>
  rcases vO l (val x) with h|⟨e,he,h⟩
  ·exact⟨x,Zy,h⟩
  ·exact⟨e,Zx _ he,h⟩
def HZ (d:Nat) (p:List UInt8) (l:List aG):Prop:=∀e∈l,e.word.take d=p∧d≤e.word.length
variable {d:Nat}
theorem AD {p:List UInt8} (h:e.word.take d=p):e.word=p++e.word.drop d:=by rw [←h,qcJ]
theorem jB:ax d e=none↔e.word.length≤d:=List.getElem?_eq_none_iff
theorem ua {b:UInt8} (h:ax d e=some b):e.word.drop d=b::e.word.drop (d+1):=by
 obtain⟨hd,rfl⟩:=Zl.1 h;rw [qad hd]
theorem AO (h:ax d e=none):e.word.drop d=[]:=qcV.2 (jB.1 h)
theorem UR {p a b:List UInt8}:lt (p++a) (p++b)↔lt a b:=by
 induction p with
 |nil=>rfl
 |cons x p ih=>
  unfold lt at ih⊢;rw [Z5,Z5,←ih];simp [aZ]
theorem Rn {x y:UInt8} {a b:List UInt8} (h:lt (x::a) (y::b)):x≤y:=by
 unfold lt at h;simp only [aZ] at h;rcases ZS x.toNat y.toNat with hx|hx
 ·exact qdc hx
 ·rcases ZS y.toNat x.toNat with hy|hy
  ·simp_all;omega
  ·exact UInt8.le_iff_toNat_le.2 hy
theorem UT {a:List UInt8}:¬lt a []:=by
 unfold lt;cases a<;>simp [aZ]
theorem rS {p:List UInt8} {x y:aG} (hx:x.word.take d=p) (hy:y.word.take d=p) (h:lt x.word y.word):∃c,ax d y=some c∧∀b,ax d x=some b→b≤c:=by
 rw [AD hx,AD hy,UR] at h;cases hq:ax d y with
 |none=>rw [AO hq] at h;exact absurd h UT
 |some c=>
  refine⟨c,rfl,fun b hb=>?_⟩;rw [ua hb,ua hq] at h;exact Rn h
theorem jD {p:aG→Bool}:∀{l:List aG},rL l→rL (l.filter p)
 | [],_=>trivial
 |x::l,h=>by
  rw [Z'];split
  ·exact⟨fun y hy=>h.1 y (qaF.1 hy).1,jD h.2⟩
  ·exact jD h.2
def D (d less:Nat) (e:aG):List UInt8×Nat:=(e.word.drop d,val e-less)
theorem v_ {p:List UInt8} {b:UInt8}:∀{r:List aG},rL r→HZ d p r→(∀y∈r,∃c,ax d y=some c∧b≤c)→r=r.filter (fun x=>decide (ax d x=some b))++r.filter (fun x=>decide (ax d x≠some b))
 | [],_,_,_=>rfl
 |x::r,ha,hb,h=>by
  obtain⟨c,hc,hbc⟩:=h x Zy;rw [Z',Z'];by_cases hcb:c=b
  ·subst hcb;rw [if_pos (by simp [hc]),if_neg (by simp [hc]),Z5];congr 1;exact v_ ha.2 (fun e he=>hb e (Zx _ he)) fun y hy=>h y (Zx _ hy)
  ·rw [if_neg (by simp [hc,hcb]),if_pos (by simp [hc,hcb])];have hall:∀y∈r,ax d y≠some b:=by
    intro y hy hyb;obtain⟨c',h1,h2⟩:=rS (hb x Zy).1 (hb y (Zx _ hy)).1 (ha.1 y hy);have:=h2 c hc;rw [hyb] at h1;cases h1;exact hcb (UInt8.le_antisymm this hbc)
   rw [List.filter_eq_nil_iff.2 (fun y hy=>by simpa using hall y hy),qbS.2 (fun y hy=>by simpa using hall y hy)];rfl
def FM (M:List a6) (q:List a6×Nat) (l:List aG) (d less:Nat):Prop:=
 Good q.1∧M<+:q.1∧q.2<q.1.length∧((q.1=M∧q.2<M.length)∨(M.length≤q.2∧q.1.length=q.2+1))∧ws q.1 q.2=l.map (D d less)∧(M.length≤q.2→∀k,q.2<k→f_ q.1 k q.2 M.length=some q.1.length)
def SK (rec:List aG→Nat→List a6→List a6×Nat) (d n:Nat) (p:List UInt8):Prop:=
 ∀own M b,Good M→own≠ []→rL own→HZ (d+1) (p++[b]) own→(∀e∈own,e.word.length<n∧val e≤4294967296)→FM M (rec own (least own) M) own (d+1) (least own)
variable {n:Nat}
theorem BX {rec:List aG→Nat→List a6→List a6×Nat} {less:Nat} {p:List UInt8} (hrec:SK rec d n p):
 ∀(r:List aG) (Ze:List cL) (M:List a6),Good M→rL r→HZ d p r→(∀e∈r,e.word.length<n∧val e≤4294967296)→(∀e∈r,less≤val e)→
  (∀y∈r,∀b,(Ze.getLast?).map (·.byte)=some b→∃c,ax d y=some c∧b≤c)→
  ∃new,(dD rec d less r Ze M).2=Ze++new∧Good (dD rec d less r Ze M).1∧M<+:(dD rec d less r Ze M).1∧(new.map (·.byte)).Pairwise (·<·)∧
   (∀a∈new,∀b,(Ze.getLast?).map (·.byte)=some b→b<a.byte)∧(∀a∈new,a.to<(dD rec d less r Ze M).1.length)∧
   ((dD rec d less r Ze M).1=M∨∃a∈new,a.to+1=(dD rec d less r Ze M).1.length)∧
   new.flatMap (je (dD rec d less r Ze M).1)=(r.filter fun x=>decide (ax d x≠none∧ax d x≠(Ze.getLast?).map (·.byte))).map (D d less)∧
   ∀k,(dD rec d less r Ze M).1.length≤k→new.foldl (jb (dD rec d less r Ze M).1 k) (some M.length)=some (dD rec d less r Ze M).1.length
 | [],Ze,M,g,_,_,_,_,_=>by
  unfold dD;exact⟨[],by simp,g,qcX _,by simp,fun a ha=>(by cases ha),fun a ha=>(by cases ha),.inl rfl,by simp,fun k _=>rfl⟩
 |e::r,Ze,M,g,ha,hb,hl,hv,hy=>by
  have hb':HZ d p r:=fun x hx=>hb x (Zx _ hx)
  have hl':∀x∈r,x.word.length<n∧val x≤4294967296:=fun x hx=>hl x (Zx _ hx)
  have hv':∀x∈r,less≤val x:=fun x hx=>hv x (Zx _ hx)
  unfold dD;by_cases hskip:ax d e=none∨(Ze.getLast?).map (·.byte)=ax d e
  ·rw [if_pos hskip];obtain⟨new,h1,h2,h3,h4,h5,h6,h7,h8,h9⟩:=BX hrec r Ze M g ha.2 hb' hl' hv' fun y hr b=>hy y (Zx _ hr) b
   refine⟨new,h1,h2,h3,h4,h5,h6,h7,?_,h9⟩;rw [h8,Z',if_neg];rcases hskip with h|h
   ·simp [h]
   ·simp [h]
  ·rw [if_neg hskip];simp only [not_or] at hskip;obtain⟨hn,hla⟩:=hskip;obtain⟨b,hbe⟩:∃b,ax d e=some b:=Option.ne_none_iff_exists'.1 hn;have hge:∀y∈e::r,∃c,ax d y=some c∧b≤c:=by
    intro y hyr;rcases ZC.1 hyr with rfl|hyr
    ·exact⟨b,hbe,UInt8.le_refl _⟩
    ·obtain⟨c,h1,h2⟩:=rS (hb e Zy).1 (hb' y hyr).1 (ha.1 y hyr);exact⟨c,h1,h2 b hbe⟩
   have hown:∀x∈(e::r).filter (fun x=>decide (ax d x=ax d e)),x∈e::r∧ax d x=some b:=by
    intro x hx;obtain⟨h1,h2⟩:=qaF.1 hx;exact⟨h1,by rw [←hbe];simpa using h2⟩
   have hne:(e::r).filter (fun x=>decide (ax d x=ax d e))≠ []:=by
    intro h;have:e∈(e::r).filter (fun x=>decide (ax d x=ax d e)):=qaF.2 ⟨Zy,by simp⟩;rw [h] at this;cases this
   have hsplit:=v_ (b:=b) ha hb hge;have hbo:HZ (d+1) (p++[b]) ((e::r).filter fun x=>decide (ax d x=ax d e)):=by
    intro x hx;obtain⟨h1,h2⟩:=hown x hx;obtain⟨hd,he⟩:=Zl.1 h2;refine⟨?_,hd⟩;rw [Zs hd,(hb x h1).1,he]
   generalize hO:(e::r).filter (fun x=>decide (ax d x=ax d e))=own at hown hne hbo;obtain⟨r1,r2,r3,r4,r5,r6⟩:=hrec own M b g hne (hO▸jD ha) hbo fun x hx=>hl x (hown x hx).1
   generalize hq:rec own (least own) M=q at r1 r2 r3 r4 r5 r6;have hlast:(((Ze++[(⟨(ax d e).getD 0,least own-less,q.2⟩:cL)]).getLast?).map (·.byte))=some b:=by
    rw [List.getLast?_append];simp [hbe]
   obtain⟨new,h1,h2,h3,h4,h5,h6,h7,h8,h9⟩:=BX hrec r (Ze++[⟨(ax d e).getD 0,least own-less,q.2⟩]) q.1 r1 ha.2 hb' hl' hv' (by
    intro y hyr b' hb2;rw [hlast] at hb2;cases hb2;exact hge y (Zx _ hyr))
   generalize dD rec d less r (Ze++[⟨(ax d e).getD 0,least own-less,q.2⟩]) q.1=z at h1 h2 h3 h4 h5 h6 h7 h8 h9;have hqz:q.2<z.1.length:=ZJ r3 h3.length_le;refine⟨⟨(ax d e).getD 0,least own-less,q.2⟩::new,by rw [h1,qah];rfl,h2,r2.trans h3,?_,?_,?_,?_,?_,?_⟩
   ·rw [qar,List.pairwise_cons];refine⟨fun c hc=>?_,h4⟩;obtain⟨a,ha1,rfl⟩:=ZX.1 hc;have:=h5 a ha1 b hlast;simpa [hbe] using this
   ·intro a ha1 b' hb2;have hlt:b'<b:=by
     obtain⟨c,h1,h2⟩:=hy e Zy b' hb2;rw [hbe] at h1;cases h1;refine UInt8.lt_of_le_of_ne h2 fun h=>hla ?_
     rw [hb2,hbe,h]
    rcases ZC.1 ha1 with rfl|ha1
    ·simpa [hbe] using hlt
    ·exact UInt8.lt_trans hlt (h5 a ha1 b hlast)
   ·intro a ha1;rcases ZC.1 ha1 with rfl|ha1
    ·exact hqz
    ·exact h6 a ha1
   ·rcases h7 with h7|⟨a,ha1,h7⟩
    ·rcases r4 with⟨r4,-⟩|⟨-,r4⟩
     ·exact .inl (h7.trans r4)
     ·exact .inr ⟨_,Zy,by rw [h7];exact r4.symm⟩
    ·exact .inr ⟨a,Zx _ ha1,h7⟩
   ·rw [qaa,h8,hlast];have hall:(e::r).filter (fun x=>decide (ax d x≠none∧ax d x≠(Ze.getLast?).map (·.byte)))=e::r:=by
     rw [qbS];intro y hyr;obtain⟨c,h1,h2⟩:=hge y hyr;simp only [ne_eq,decide_not,Bool.decide_and,h1,reduceCtorEq,not_false_eq_true,decide_true,qa2,decide_false,qa4];simp only [Bool.not_eq_eq_eq_not,qaI,decide_eq_false_iff_not];intro hc;obtain⟨c',h3,h4⟩:=hy e Zy c hc.symm;rw [hbe] at h3;cases h3;have:c=b:=UInt8.le_antisymm h4 h2;subst this;exact hla (by rw [←hc,hbe])
    rw [hall]
    conv=>rhs;rw [hsplit]
    rw [Z3];congr 1
    ·have hO':(e::r).filter (fun x=>decide (ax d x=some b))=own:=by rw [←hO,hbe]
     rw [hO'];unfold je;simp only
     rw [Ds r1.1 h3 r3,r5,List.map_map];refine List.map_congr_left fun x hx=>?_
     obtain⟨h1,h2⟩:=hown x hx;have hle:=least_le hx;have hll:less≤least own:=by
      obtain⟨y,hy1,hy2⟩:=oO hne;rw [hy2];exact hv y (hown y hy1).1
     simp only [Function.comp,D,hbe,qal];rw [ua h2];congr 1;omega
    ·congr 1;rw [Z',if_neg (by simp [hbe])];refine List.filter_congr fun y hyr=>?_
     obtain⟨c,h1,-⟩:=hge y (Zx _ hyr);simp [h1]
   ·intro k hk;rw [qax];have:jb z.1 k (some M.length) ⟨(ax d e).getD 0,least own-less,q.2⟩=some q.1.length:=by
     unfold jb;show(if M.length≤q.2 then f_ z.1 k q.2 M.length else some M.length)=_;rcases r4 with⟨r4,r4'⟩|⟨r4,-⟩
     ·rw [if_neg (by omega),r4]
     ·rw [if_pos r4,ve r1.1 h3 k q.2 M.length r3];exact r6 r4 k (by omega)
    rw [this];exact h9 k hk
theorem Eg {less:Nat}:∀{l:List aG} {o:Bool×Nat},(∀e∈l,ax d e≠none)→l.foldl (fun s e=>if ax d e=none then(true,val e-less) else s) o=o
 | [],_,_=>rfl
 |x::l,o,h=>by
  rw [qax,if_neg (h x Zy)];exact Eg fun e he=>h e (Zx _ he)
theorem Uv {less:Nat} {p:List UInt8}:∀{l:List aG},rL l→HZ d p l→((iW d less l).1=false→(iW d less l).2=0)∧
 l.map (D d less)=(if(iW d less l).1 then [([],(iW d less l).2)] else [])++(l.filter fun x=>decide (ax d x≠none)).map (D d less)
 | [],_,_=>⟨fun _=>rfl,rfl⟩
 |x::l,ha,hb=>by
  have hs:∀y∈l,ax d y≠none:=by
   intro y hy;obtain⟨c,h1,-⟩:=rS (hb x Zy).1 (hb y (Zx _ hy)).1 (ha.1 y hy);rw [h1];simp
  have hf:l.filter (fun x=>decide (ax d x≠none))=l:=qbS.2 fun y hy=>by simpa using hs y hy
  unfold iW;rw [qax,Eg hs,Z',hf];by_cases hx:ax d x=none
  ·have h1:decide (ax d x≠none)=false:=by simp [hx]
   rw [h1];simp [hx,D,AO hx]
  ·have h1:decide (ax d x≠none)=true:=by simpa using hx
   rw [h1];simp [hx]
theorem Pn:∀(f:Nat) (l:List aG) (d:Nat) (p:List UInt8) (M:List a6),Good M→l≠ []→rL l→HZ d p l→(∀e∈l,e.word.length<d+f∧val e≤4294967296)→FM M (pP f l d (least l) M) l d (least l)
 |0,l,d,p,M,g,hne,ha,hb,hl=>by
  obtain⟨x,hx⟩:=qcc l hne;have:=(hl x hx).1;have:=(hb x hx).2;omega
 |f+1,l,d,p,M,g,hne,ha,hb,hl=>by
  have hrec:SK (fun own n M=>pP f own (d+1) n M) d (d+(f+1)) p:=fun own M b g1 h1 h2 h3 h4=>Pn f own (d+1) (p++[b]) M g1 h1 h2 h3 fun e he=>⟨by have:=(h4 e he).1;omega,(h4 e he).2⟩
  obtain⟨new,h1,h2,h3,h4,-,h6,h7,h8,h9⟩:=BX (less:=least l) hrec l [] M g ha hb hl (fun e he=>least_le he) (fun y hy b hb=>by cases hb);obtain⟨f1,f2⟩:=Uv (less:=least l) ha hb;unfold pP;generalize dD (fun own n M=>pP f own (d+1) n M) d (least l) l [] M=z at h1 h2 h3 h4 h6 h7 h8 h9;generalize iW d (least l) l=o at f1 f2;rw [qac] at h1;rw [h1];have hf0:(l.filter fun x=>decide (ax d x≠none∧ax d x≠(([]:List cL).getLast?).map (·.byte)))=l.filter fun x=>decide (ax d x≠none):=List.filter_congr fun x _=>by simp
  rw [hf0] at h8;have hw:l.map (D d (least l))=(if o.1 then [([],o.2)] else [])++new.flatMap (je z.1):=by rw [h8];exact f2
  have hs:VS z.1.length ⟨o.1,o.2,new⟩:=by
   refine⟨f1,h4,h6,?_,?_⟩
   ·cases ho:o.1 with
    |true=>exact .inl rfl
    |false=>
     refine .inr fun hn=>?_
     simp only at hn;rw [ho,hn] at hw;simp at hw;exact hne hw
   ·obtain⟨x,hx,hxv⟩:=oO hne;have hm:D d (least l) x∈l.map (D d (least l)):=ZX.2 ⟨x,hx,rfl⟩;rw [hw] at hm;have hx0:(D d (least l) x).2=0:=by unfold D;simp only;omega
    rcases qas.1 hm with hm|hm
    ·cases ho:o.1 with
     |true=>
      rw [ho,if_pos rfl,Z9] at hm;rw [hm] at hx0;exact .inl ⟨rfl,hx0⟩
     |false=>
      rw [ho] at hm;simp at hm
    ·obtain⟨a,ha1,ha2⟩:=qbx.1 hm;obtain⟨w,-,hw2⟩:=ZX.1 ha2;rw [←hw2] at hx0;exact .inr ⟨a,ha1,by simp only at hx0;omega⟩
  cases hi:z.1.findIdx? (fun x=>decide (x=⟨o.1,o.2,new⟩)) with
  |some j=>
   rw [qO hi];have hj:=Ew hi;have hjl:j<z.1.length:=(Zl.1 hj).1;have hz:z.1=M:=by
    rcases h7 with h7|⟨a,ha1,h7⟩
    ·exact h7
    ·have:=(h2.1 j _ hj).2.2.1 a ha1;omega
   refine⟨h2,h3,hjl,.inl ⟨hz,by rw [←hz];exact hjl⟩,?_,fun h=>?_⟩
   ·rw [hw,nP h2.1 hj]
   ·simp only at h;rw [←hz] at h;omega
  |none=>
   rw [yF hi];have hn:=NL hi;have g2:=Kx h2 hs hn fun w hw1=>by
    rw [←hw] at hw1;obtain⟨x,hx,rfl⟩:=ZX.1 hw1;exact ZV (Nat.sub_le _ _) (hl x hx).2
   have hget:(z.1++[(⟨o.1,o.2,new⟩:a6)])[z.1.length]?=some ⟨o.1,o.2,new⟩:=by rw [ZN (Zn _),qaz];rfl
   have hp:z.1<+:z.1++[(⟨o.1,o.2,new⟩:a6)]:=qcs _ _;refine⟨g2,h3.trans hp,by simp,.inr ⟨h3.length_le,by simp⟩,by rw [hw];exact JR h2.1 hs,fun _ k hk=>?_⟩
   ·simp only at hk;obtain⟨k',rfl⟩:∃k',k=k'+1:=⟨k-1,by omega⟩;rw [tG hget];have:List.foldl (jb (z.1++[(⟨o.1,o.2,new⟩:a6)]) k') (some M.length) new=some z.1.length:=by
     rw [←h9 k' (by omega)];refine fold_congr fun a ha1 b=>?_
     unfold jb;congr 1;funext L;rw [ve h2.1 hp k' a.to L (h6 a ha1)]
    show(List.foldl (jb (z.1++[(⟨o.1,o.2,new⟩:a6)]) k') (some M.length) new).bind _=_;rw [this];simp
end Go.Sto
namespace Go.Proofs.YtggndfefpbmaeaaGreatDoor.sto
open Go.Am Go.Mdl Go.Sto
theorem Tx:b6.bp 31=some (.int .u32):=by kernel_rfl
theorem uT:aV b6 67= .ok 3:=by kernel_rfl
variable {b:Nat}
theorem Ir:ak b6 67 (pw b 0) 1= .ok (pw b 1):=by kernel_rfl
theorem vw:ak b6 67 (pw b 0) 2= .ok (pw b 2):=by kernel_rfl
def bH (e:aG):List Value:=[strOf e.word,.int .u32 e.weight,.bool e.gone]
theorem az (A:Mem) (e:TypeId) (l:List Value):VB (A.alloc (aa e l)) e A.next (.var l.length) l:=⟨by rw [ae];omega,fe A e l⟩
theorem yR {a:Nat} (h:a+b<18446744073709551616):aK .add .u64 (a:Int) (b:Int)= .ok (.int .u64 (a+b:Nat)):=a8 (cJ h)
variable {A:Mem} {e:aG}
theorem LC (he:e.weight<4294967296):bJ b6 151 [.agg ⟨bH e⟩] A (.int .u64 (val e:Nat)) (A.alloc (aa 67 (bH e))):=by
 have hv:=az A 67 (bH e);have l1:ai b6 (A.alloc (aa 67 (bH e))).get 31 (.pointer (some ⟨A.next,1,none⟩))= .ok (.int .u32 e.weight):=hv.ld rfl Tx rfl;have l2:ai b6 (A.alloc (aa 67 (bH e))).get 4 (.pointer (some ⟨A.next,2,none⟩))= .ok (.bool e.gone):=hv.ld rfl LZ rfl;have c1:=bx (tb:=b6) (s:=31) (d:=103) (k:=.u32) (n:=e.weight) (by rw [Tx];rfl) h_ (cJ (by omega));unfold val;cases hg:e.gone with
 |true=>
  rw [hg] at l2;refine aP (bB Tryz.func151) (c:=qdg.body.getD .skip) (by kernel_rfl) (by rw [Tryz.ntmps151];simp) (by kernel_rfl) (by kernel_rfl) ?_;apply W.run 60
  ·intro M;simp (disch:=omega) only [qdg,Aq,Zf,aj,vw,l2];rfl
  exact⟨by simp,rfl,rfl,by simp only [qdg,Aq,Zf,aj,vw,l2]<;>rfl⟩
 |false=>
  rw [hg] at l2;refine aP (bB Tryz.func151) (c:=qdg.body.getD .skip) (by kernel_rfl) (by rw [Tryz.ntmps151];simp) (by kernel_rfl) (by kernel_rfl) ?_;apply W.run 60
  ·intro M;simp (disch:=first|decide+kernel|omega) only [qdg,Aq,Zf,aj,Ir,vw,l1,l2,c1,yR];rfl
  exact⟨by simp,rfl,rfl,by simp only [qdg,Aq,Zf,aj,Ir,vw,l1,l2,c1,yR]<;>rfl⟩
def FU (e:aG):List Value:=[.agg ⟨bH e⟩]
theorem WQ {x y:aG} (h:FU x=FU y):x=y:=by
 obtain⟨w,n,g⟩:=x;obtain⟨w',n',g'⟩:=y;simp only [FU,bH,Z2,Value.agg.injEq,Array.mk.injEq,Value.int.injEq,Value.bool.injEq,and_true,true_and] at h;obtain⟨h1,h2,h3⟩:=h;have h1:w=w':=by unfold strOf at h1;simpa using h1
 cases qcr h2;subst h1 h3;rfl
theorem Hz {a b c:Int}:bJ b6 104 [.int .i64 a,.int .i64 b,.int .i64 c] A (.bool (decide (b≤a∧a≤c))) A:=by
 by_cases h1:b≤a<;>by_cases h2:a≤c
 all_goals
  refine aP (bB Tryz.func104) (c:=Tryz.f104.body.getD .skip) (by kernel_rfl) (by rw [Tryz.ntmps104];simp) (by kernel_rfl) (by kernel_rfl) ?_;apply W.run 60
  ·intro M;simp (config:={maxSteps:=4000000}) (disch:=first|decide+kernel|omega|simp only [Wq,Zf]) only [Tryz.f104,Aq,Zj,reduceIte,Zf,Zg,bN,fi,h1,h2,and_true,true_and,and_false,false_and];rfl
  exact⟨by simp,rfl,rfl,by simp only [Tryz.f104,Aq,Zj,reduceIte,Zf,Zg,bN,fi,h1,h2,and_true,true_and,and_false,false_and]<;>rfl⟩
variable {w:List UInt8}
theorem U':bJ b6 196 [strOf w] A (.bool (decide (1≤w.length∧w.length≤255))) A:=by
 have hl:=cd (tb:=b6) (t:=9) (l:=w) o_;by_cases h1:1≤w.length<;>by_cases h2:w.length≤255
 all_goals
  refine aP (bB Tryz.func196) (c:=Tryz.f196.body.getD .skip) (by kernel_rfl) (by rw [Tryz.ntmps196];simp) (by kernel_rfl) (by kernel_rfl) ?_;apply W.run 60
  ·intro M;simp (config:={maxSteps:=4000000}) (disch:=first|decide+kernel|omega|simp only [Wq,Zf]) only [Tryz.f196,Aq,Zj,reduceIte,Zf,Zg,hl,bN,fi,bj,h1,h2,and_true,true_and,and_false,false_and];rfl
  exact⟨by simp,rfl,rfl,by simp only [Tryz.f196,Aq,Zj,reduceIte,Zf,Zg,hl,bN,fi,bj,h1,h2,and_true,true_and,and_false,false_and]<;>rfl⟩
theorem R0:bJ b6 63 [strOf w] A (.bool (decide (0<w.length∧w.length≤64))) A:=by
 have hl:=cd (tb:=b6) (t:=9) (l:=w) o_;by_cases h1:0<w.length<;>by_cases h2:w.length≤64
 all_goals
  refine aP (bB Tryz.func63) (c:=Tryz.f63.body.getD .skip) (by kernel_rfl) (by rw [Tryz.ntmps63];simp) (by kernel_rfl) (by kernel_rfl) ?_;apply W.run 60
  ·intro M;simp (config:={maxSteps:=4000000}) (disch:=first|decide+kernel|omega|simp only [Wq,Zf]) only [Tryz.f63,Aq,Zj,reduceIte,Zf,Zg,hl,bT,fi,bj,bA,h1,h2,and_true,true_and,and_false,false_and];rfl
  exact⟨by simp,rfl,rfl,by simp only [Tryz.f63,Aq,Zj,reduceIte,Zf,Zg,hl,bT,fi,bj,bA,h1,h2,and_true,true_and,and_false,false_and]<;>rfl⟩
variable {n:Nat}
theorem R8 (hn:n<1099511627776):bJ b6 112 [.int .u64 n] A (.int .i64 n) A:=by
 have m1:aL b6 .min [103,103] [.int .u64 n,.int .u64 (1099511627776:Nat)]= .ok (.int .u64 n):=by
  rw [I6,qam (by omega)]
 have c1:=bx (tb:=b6) (s:=103) (d:=3) (k:=.u64) (n:=n) (by rw [h_];rfl) Dq (aR (by omega));refine aP (bB Tryz.func112) (c:=Tryz.f112.body.getD .skip) (by kernel_rfl) (by rw [Tryz.ntmps112];simp) (by kernel_rfl) (by kernel_rfl) ?_;apply W.run 60
 ·intro M;simp (disch:=decide+kernel) only [Tryz.f112,Aq,Zf,m1,c1];rfl
 exact⟨by simp,rfl,rfl,by simp only [Tryz.f112,Aq,Zf,m1,c1]<;>rfl⟩
theorem LB {f:Bool}:bJ b6 181 [.agg ⟨[.int .u64 n,.bool f]⟩] A (.bool (f&&decide (n≤4294967296))) (A.alloc (aa 257 [.int .u64 n,.bool f])):=by
 have hv:=az A 257 [.int .u64 n,.bool f];have l1:ai b6 (A.alloc (aa 257 [.int .u64 n,.bool f])).get 103 (pw A.next 0)= .ok (.int .u64 n):=hv.ld rfl h_ rfl;have l2:ai b6 (A.alloc (aa 257 [.int .u64 n,.bool f])).get 4 (pw A.next 1)= .ok (.bool f):=hv.ld rfl LZ rfl;have f0:∀b,ak b6 257 (pw b 0) 0= .ok (pw b 0):=fun b=>by kernel_rfl
 have f1:∀b,ak b6 257 (pw b 0) 1= .ok (pw b 1):=fun b=>by kernel_rfl
 cases f
 all_goals
  refine aP (bB Tryz.func181) (c:=Tryz.f181.body.getD .skip) (by kernel_rfl) (by rw [Tryz.ntmps181];simp) (by kernel_rfl) (by kernel_rfl) ?_;apply W.run 60
  ·intro M;simp (config:={maxSteps:=4000000}) (disch:=first|decide+kernel|omega|simp only [Wq,Zf]) only [Tryz.f181,Aq,Zj,reduceIte,Zf,Zg,aj,f0,f1,l1,l2,fi,bj,qa2,qch];rfl
  exact⟨by simp,rfl,rfl,by simp only [Tryz.f181,Aq,Zj,reduceIte,Zf,Zg,aj,f0,f1,l1,l2,fi,bj,qa2,qch]<;>rfl⟩
end Go.Proofs.YtggndfefpbmaeaaGreatDoor.sto
namespace Go.Proofs.YtggndfefpbmaeaaGreatDoor.sto
open Go.Am
abbrev Ui:List UInt8:=[48,49,50,51,52,53,54,55,56,57,97,98,99,100,101,102,103,104,105,106,107,108,109,110,111,112,113,114,115,116,117,118,119,120,121,122]
def Gs (d:Nat):UInt8:=Ui.getD d 0
def nU:Nat→Nat→List UInt8
 |0,_=>[]
 |k+1,n=>if n<36 then [Gs n] else nU k (n/36)++[Gs (n % 36)]
def p9 (n:Nat):List UInt8:=nU 13 n
theorem xU:∀k n,(nU k n).length≤k
 |0,_=>Zn _
 |k+1,n=>by
  unfold nU;split
  ·simp
  ·rw [Zo];have:=xU k (n/36);simp;omega
def Sw (c:UInt8):Nat:=if c<58 then c.toNat-48 else c.toNat-87
theorem xr:∀d,d<36→Sw (Gs d)=d∧48≤(Gs d).toNat:=by decide
theorem xV:∀k n,n<36^k→(nU k n).foldl (fun a c=>36*a+Sw c) 0=n
 |0,n,h=>by simp at h;subst h;rfl
 |k+1,n,h=>by
  unfold nU;split
  ·rename_i h1;show 36*0+Sw (Gs n)=n;rw [(xr n h1).1];omega
  ·rw [qa8,xV k (n/36) (by rw [qcL] at h;omega)];show 36*(n/36)+Sw (Gs (n % 36))=n;rw [(xr _ (qav _ (by omega))).1];omega
theorem r_:∀k n,∀c∈nU k n,48≤c.toNat
 |0,_,c,h=>by cases h
 |k+1,n,c,h=>by
  unfold nU at h;split at h
  ·rename_i h1;rw [Z9.1 h];exact(xr n h1).2
  ·rcases qas.1 h with h|h
   ·exact r_ k _ c h
   ·rw [Z9.1 h];exact(xr _ (qav _ (by omega))).2
theorem YF:bO b6 330= .ok (.agg ⟨Z4 65 (.int .u8 0)⟩):=by kernel_rfl
theorem PO:b6.bp 330=some (.array 65 5):=by kernel_rfl
variable {b i:Nat}
theorem Tl (h:i<65):aW b6 330 (pw b 0) (.int .i64 i)= .ok (pw b i):=by
 have:=lu (tb:=b6) (b:=b) (o:=0) (k:=.i64) PO zu h;rwa [ZT] at this
variable {A:Mem} {o c:Nat} {w:List UInt8}
theorem Ps {k:Kd} {l:List Value} {e:TypeId} (h:dj A e b k l) (hw:l.drop o=ek w) (h0:w≠ []):dw b6 A.get 48 9 (.slice (some ⟨b,o,none⟩) w.length c)= .ok (strOf w):=by
 obtain⟨cs,h1,h2⟩:=h;have hg:cs.iX w.length o=some (ek w):=fR cs w.length o (ek w) (en w) (fun j hj=>by
  have e1:(ek w)[j]?=l[o+j]?:=by rw [←hw,qaT]
  rw [e1];refine h2 (o+j) ?_;have:=congrArg qaR hw;rw [qak,en] at this;omega)
 have hb:Zr w.length 0=false:=by
  cases hq:Zr w.length 0 with
  |false=>rfl
  |true=>
   have:=ZA hq;exact absurd (Zw.1 (by omega)) h0
 unfold dw;simp only [zN,o_,mA,iH,cT,hb,cond_false,h1,qaw,hg,R.aw];rw [show bytesOf (ek w)= .ok w from iR w];rfl
theorem Pk (h:i<65):cP b6 330 (.pointer (some ⟨b,0,none⟩)) (some (.int .i64 i)) none none= .ok (.slice (some ⟨b,i,none⟩) (65-i) (2*(65-i))):=by
 have e1:bound (some (.int .i64 i)) 0 65= .ok i:=by
  show(bif Zj i 65 then R.ok i else _)=_;rw [show Zj i 65=true by rw [qct];omega];rfl
 have e2:bound none 65 65= .ok 65:=rfl;have e3:Zr 65 i=false:=by
  cases hq:Zr 65 i with
  |false=>rfl
  |true=>have:=ZA hq;omega
 unfold cP;simp only [PO,e2,e1,R.aw,zu,e3,cond_false,jd,qaw,ZT]
variable {d:Nat}
theorem DX {kd:IntKind} (h:d<36):mY b6 9 (strOf Ui) (.int kd (d:Int))= .ok (.int .u8 ((Gs d).toNat:Nat)):=eg o_ h
theorem Iv (t:T Value):ev t (.const (.string ⟨#[48,49,50,51,52,53,54,55,56,57,97,98,99,100,101,102,103,104,105,106,107,108,109,110,111,112,113,114,115,116,117,118,119,120,121,122]⟩))= .ok (strOf Ui):=rfl
noncomputable def fX:Code:=qaY.body.getD .skip
noncomputable def Gc:Code:=sub fX [1,1,1,1,1,0,1,1,1,0,0,0]
theorem QI:qaY.body=some (.seq (sub fX [0]) (.seq (sub fX [1,0]) (.seq (sub fX [1,1,0]) (.seq (sub fX [1,1,1,0]) (.seq (sub fX [1,1,1,1,0]) (.seq (.seq (sub fX [1,1,1,1,1,0,0]) (sub fX [1,1,1,1,1,0,1])) (.seq (sub fX [1,1,1,1,1,1,0]) (.seq (sub fX [1,1,1,1,1,1,1,0]) (.seq (sub fX [1,1,1,1,1,1,1,1,0]) (sub fX [1,1,1,1,1,1,1,1,1])))))))))):=by kernel_rfl
theorem QH:sub fX [1,1,1,1,1,0,1]= .cond (.tmp 34) (sub fX [1,1,1,1,1,0,1,0]) (.seq (sub fX [1,1,1,1,1,0,1,1,0]) (.seq (.block 2 (.loop Gc)) (.seq (sub fX [1,1,1,1,1,0,1,1,1,1,0]) (sub fX [1,1,1,1,1,0,1,1,1,1,1])))):=by kernel_rfl
theorem R':bJ b6 231 [.int .i64 (36:Nat)] A (.bool false) A:=by
 have e:aK .and .i64 ((36:Nat):Int) ((35:Nat):Int)= .ok (.int .i64 (32:Nat)):=by kernel_rfl
 have e2:aK .sub .i64 ((36:Nat):Int) ((1:Nat):Int)= .ok (.int .i64 (35:Nat)):=by kernel_rfl
 refine aP (bB Tryz.func231) (c:=Tryz.f231.body.getD .skip) (by kernel_rfl) (by rw [Tryz.ntmps231];simp) (by kernel_rfl) (by kernel_rfl) ?_;apply W.run 60
 ·intro M;simp (disch:=first|decide+kernel|omega) only [Tryz.f231,Aq,Zf,e,e2];rfl
 exact⟨by simp,rfl,rfl,by simp only [Tryz.f231,Aq,Zf,e,e2]<;>rfl⟩
variable {n:Nat}
theorem OM (hn:n<18446744073709551616):∃v A',bJ b6 203 [.slice none 0 0,.int .u64 n,.int .i64 (36:Nat),.bool false,.bool false] A v A'∧v= .tuple ⟨[.slice none 0 0,strOf (p9 n)]⟩:=by
 refine cM (bB Tryz.func203) QI (by rw [Tryz.ntmps203];simp) (by kernel_rfl) (by kernel_rfl) ?_;obtain⟨g,hg⟩:=R' (A:=A.alloc (aa 330 (Z4 65 (.int .u8 0))));apply W.q
 ·intro M;simp (disch:=first|decide+kernel|omega) only [fX,qaY,Aq,Zf];rfl
 apply W.q
 ·intro M;simp (config:={maxSteps:=4000000}) (disch:=first|decide+kernel|omega|simp only [Wq,Zf]) only [fX,qaY,Aq,Zj,reduceIte,Zf,Zg,bT,bA,Nat.reduceLT];rfl
 apply W.q
 ·intro M;simp (disch:=first|decide+kernel|omega) only [fX,qaY,Aq,Zf,YF,aj];rfl
 apply W.q
 ·intro M;simp (disch:=first|decide+kernel|omega) only [fX,qaY,Aq,Zf];rfl
 apply W.q
 ·intro M;simp (disch:=first|decide+kernel|omega) only [fX,qaY,Aq,Zf];rfl
 apply W.seq;apply W.seq;apply W.bf (g) 20
 ·intro M hM;simp (disch:=first|decide+kernel|omega) only [fX,qaY,Aq,Zf,hg];rfl
 show W b6 (sub fX [1,1,1,1,1,0,1]) _ _;rw [QH];refine W.cond (p:=false) (by simp only [T.aD,Zf,if_true,if_false,im,eH]) (fun h=>by cases h) fun _=>?_
 have cv:=bx (tb:=b6) (s:=3) (d:=103) (k:=.i64) (n:=36) (by rw [Dq];rfl) h_ (cJ (by omega));apply W.q
 ·intro M;simp (disch:=first|decide+kernel|omega) only [fX,qaY,Aq,Zf,cv];rfl
 apply W.seq;apply W.block;refine W.up 12 (fun j t D=>∃l u w,D=A.alloc (aa 330 l)∧l.length=65∧(∀v∈l,aH v=true)∧p9 n=nU (13-j) u++w∧u<36^(13-j)∧u<18446744073709551616∧w.length=j∧l.drop (65-j)=ek w∧Sl t [(1,.int .u64 u),(3,.bool false),(4,.bool false),(10,.slice none 0 0),(12,pw A.next 0),(13,.int .i64 (65-j:Nat)),(17,.int .u64 (36:Nat))]) ?_ (Zv _) ⟨_,n,[],rfl,by simp,by simp [aH],by rw [qap];rfl,by omega,hn,rfl,by rw [qcA (by simp)];rfl,?_⟩
 ·rintro j t D hj ⟨l,u,w,rfl,hl,h1,hd,hu,hu2,hw,hdr,g1,g3,g4,g10,g12,g13,g17,-⟩;have s1:aK .sub .i64 ((65-j:Nat):Int) ((1:Nat):Int)= .ok (.int .i64 (65-(j+1):Nat)):=by rw [bm (by omega) (aR (by omega)),show 65-j-1=65-(j+1) by omega]
  have st:∀c:UInt8,aT b6 (A.alloc (aa 330 l)) 5 (pw A.next (65-(j+1))) (.int .u8 (c.toNat:Nat))= .ok (A.alloc (aa 330 (l.set (65-(j+1)) (.int .u8 (c.toNat:Nat))))):=fun c=>da zu rfl rfl (by omega)
  have hset:∀c:UInt8,(l.set (65-(j+1)) (.int .u8 (c.toNat:Nat))).drop (65-(j+1))=ek (c::w):=fun c=>by
   rw [qad (by rw [ZR];omega),List.getElem_set_self,show 65-(j+1)+1=65-j by omega,List.drop_set_of_lt (by omega),hdr];rfl
  obtain⟨k,hk⟩:∃k,13-j=k+1:=⟨12-j,by omega⟩;rw [hk] at hd hu;by_cases hge:36≤u
  ·have q1:=nd (b:=36) hu2 (by omega);have m1:aK .mul .u64 ((u/36:Nat):Int) ((36:Nat):Int)= .ok (.int .u64 (u/36*36:Nat)):=iE (cJ (by omega));have s2:aK .sub .u64 ((u:Nat):Int) ((u/36*36:Nat):Int)= .ok (.int .u64 (u % 36:Nat)):=by rw [bm (by omega) (cJ (by omega)),show u-u/36*36=u % 36 by omega]
   have ix:=DX (d:=u % 36) (kd:=.u64) (qav _ (by omega));have st1:=st (Gs (u % 36));have hd2:nU (k+1) u=nU k (u/36)++[Gs (u % 36)]:=by rw [nU,if_neg (by omega)]
   apply W.run 20
   ·intro M;simp (disch:=first|decide+kernel|omega) only [Gc,fX,qaY,Aq,Zf,g1,g12,g13,g17,bN,bj,hge,s1,q1,m1,s2,Iv,ix,Tl,st1];rfl
   have hj2:j<12:=by
    rcases ZS j 12 with h|h
    ·exact h
    ·have e:k=0:=by omega
     subst e;simp at hu;omega
   refine⟨hj2,_,_,rfl,_,u/36,Gs (u % 36)::w,rfl,by rw [ZR];exact hl,fun v hv=>?_,?_,?_,by omega,by rw [Zu,hw],hset _,?_⟩
   ·rcases qbc hv with hv|rfl
    ·exact h1 v hv
    ·rfl
   ·rw [hd,hd2,show 13-(j+1)=k by omega,qah];rfl
   ·rw [show 13-(j+1)=k by omega];rw [qcL] at hu;omega
   ·simp only [Sq,Zf,Zg,g3,g4,g10,g12,g17]
  ·have ix:=DX (d:=u) (kd:=.u64) (by omega);have st1:=st (Gs u);have hd2:nU (k+1) u=[Gs u]:=by rw [nU,if_pos (by omega)]
   rw [hd2] at hd;have sl:=Pk (b:=A.next) (i:=65-(j+1)) (by omega);have hsv:dw b6 (A.alloc (aa 330 (l.set (65-(j+1)) (.int .u8 ((Gs u).toNat:Nat))))).get 48 9 (.slice (some ⟨A.next,65-(j+1),none⟩) (65-(65-(j+1))) (2*(65-(65-(j+1)))))= .ok (strOf (p9 n)):=by
    have h:=Ps (A:=A.alloc (aa 330 (l.set (65-(j+1)) (.int .u8 ((Gs u).toNat:Nat))))) (c:=2*(j+1)) (fe A 330 _) (hset (Gs u)) (by simp);rw [Zu,hw] at h;rw [show 65-(65-(j+1))=j+1 by omega,hd];exact h
   apply W.run 20
   ·intro M;simp (disch:=first|decide+kernel|omega) only [Gc,fX,qaY,Aq,Zf,g1,g17,bN,bj,hge];rfl
   apply W.q
   ·intro M;simp (disch:=first|decide+kernel|omega) only [fX,qaY,Aq,Zf,g13,s1];rfl
   apply W.run 20
   ·intro M;simp (disch:=first|decide+kernel|omega) only [fX,qaY,Aq,Zf,g1,g12,Iv,ix,Tl,st1];rfl
   apply W.q
   ·intro M;simp (disch:=first|decide+kernel|omega) only [fX,qaY,Aq,Zf,g3];rfl
   apply W.q
   ·intro M;simp (disch:=first|decide+kernel|omega) only [fX,qaY,Aq,Zf,g4];rfl
   apply W.q
   ·intro M;simp (disch:=first|decide+kernel|omega) only [fX,qaY,Aq,Zf,g12,sl,Yh,hsv];rfl
   apply W.run 20
   ·intro M;simp (disch:=first|decide+kernel|omega) only [fX,qaY,Aq,Zf];rfl
   exact⟨by simp,rfl,_,(by simp only [qaY,Aq,Zf,g10]<;>rfl),rfl⟩
 ·simp only [Sq,Zf,Zg]
theorem RX (hn:n<18446744073709551616):∃A',bJ b6 220 [.int .u64 n,.int .i64 (36:Nat)] A (strOf (p9 n)) A':=by
 obtain⟨v,B,⟨g,hg⟩,rfl⟩:=OM (A:=A) hn;have h237:bJ b6 237 [.int .u64 n,.int .i64 (36:Nat)] A (strOf (p9 n)) B:=by
  refine aP (bB Tryz.func237) (c:=Tryz.f237.body.getD .skip) (by kernel_rfl) (by rw [Tryz.ntmps237];simp) (by kernel_rfl) (by kernel_rfl) ?_;apply W.bf (g) 60
  ·intro M hM;simp (disch:=first|decide+kernel|omega) only [Tryz.f237,Aq,Zf,hg,Zm,Zk];rfl
  exact⟨by simp,rfl,rfl,by simp only [Tryz.f237,Aq,Zf,hg,Zm,Zk]<;>rfl⟩
 obtain⟨g2,hg2⟩:=h237;refine⟨B,?_⟩;refine aP (bB Tryz.func220) (c:=Tryz.f220.body.getD .skip) (by kernel_rfl) (by rw [Tryz.ntmps220];simp) (by kernel_rfl) (by kernel_rfl) ?_;apply W.bf (g2) 60
 ·intro M hM;simp (disch:=first|decide+kernel|omega) only [Tryz.f220,Aq,Zf,hg2];rfl
 exact⟨by simp,rfl,rfl,by simp only [Tryz.f220,Aq,Zf,hg2]<;>rfl⟩
end Go.Proofs.YtggndfefpbmaeaaGreatDoor.sto
namespace Go.Proofs.YtggndfefpbmaeaaGreatDoor.crc
open Go.Am
noncomputable def b6:bL:=PA qbN.prog .e
theorem eX:cc b6:=FB qbN _ fun f k fn h=>by cases h
variable {k:Nat} {fn:Func}
theorem bB (h:Z6.funcs[k]?=some fn):b6.fn.get k=some fn:=by
 show(T.ofList qbN.prog.funcs.toList).get k=_;rw [T.iy,ZK];exact h
theorem o_:b6.bp 9=some .string:=by kernel_rfl
theorem PK:b6.bp 31=some (.int .u32):=by kernel_rfl
theorem mA:b6.bp 5=some (.int .u8):=by kernel_rfl
def BZ (n b:Nat):Nat:=if n % 2≠b then n/2^^^3988292384 else n/2
variable {n:Nat}
theorem Qd (b:Nat) (h:n<4294967296):BZ n b<4294967296:=by
 unfold BZ;split
 ·exact qcv (n:=32) (by omega) (by omega)
 ·omega
theorem RU (n b:Nat) (hn:n<4294967296):call b6 30 154 [.int .u32 n,.int .u32 b] ee= .ok (.val (.int .u32 (BZ n b)) ee):=by
 unfold call;simp only [bB Tryz.func154];simp only [Tryz.f154,nt,Zu,ZG];have h2:n/2<4294967296:=by omega
 by_cases hb:n % 2=b
 all_goals
  simp (disch:=first|decide+kernel|omega|simp only [Wq,Zf]) only [Aq,Zj,reduceIte,Zf,Zg,hb];simp [BZ,hb]
theorem Hx (n:Nat) (hn:n<4294967296):call b6 30 153 [.int .u32 n] ee= .ok (.val (.int .u32 (4294967295-n:Nat)) ee):=by
 unfold call;simp only [bB Tryz.func153];simp only [Tryz.f153,nt,Zu,ZG];simp (disch:=first|decide+kernel|omega|simp only [Wq,Zf]) only [Aq,Zj,reduceIte,Zf,Zg]
def J8:List Value→Option Value
 | [.int .u32 (.ofNat n),.int .u32 (.ofNat b)]=>if n<4294967296 then some (.int .u32 (BZ n b)) else none
 |_=>none
def pR:List Value→Option Value
 | [.int .u32 (.ofNat n)]=>if n<4294967296 then some (.int .u32 (4294967295-n:Nat)) else none
 |_=>none
theorem NA:b7 b6.P 154 (aJ J8):=by
 refine dN eX (bB Tryz.func154) (c:=(Tryz.f154.body).getD .skip) (by kernel_rfl) fun args v h=>?_
 unfold J8 at h;split at h
 ·rename_i n b;split at h
  ·rename_i hn;cases h;exact⟨by simp [flat],by simp [flat],_,_,RU n b hn⟩
  ·cases h
 ·cases h
theorem Et:b7 b6.P 153 (aJ pR):=by
 refine dN eX (bB Tryz.func153) (c:=(Tryz.f153.body).getD .skip) (by kernel_rfl) fun args v h=>?_
 unfold pR at h;split at h
 ·rename_i n;split at h
  ·rename_i hn;cases h;exact⟨by simp [flat],by simp [flat],_,_,Hx n hn⟩
  ·cases h
 ·cases h
noncomputable def af:bL:=(b6.pY 154 (aJ J8)).pY 153 (aJ pR)
theorem zL:cc af:=bY (bY eX NA) Et
variable {A:Mem} {b:Nat}
theorem call19 {ih:Code→St→R (Ex×St)} (hn:n<4294967296):bc af ih (.fn 154 [.int .u32 n,.int .u32 b]) A= .ok (.val (.int .u32 (BZ n b)) A):=
 bW (c:=(Tryz.f154.body).getD .skip) (bB Tryz.func154) (by kernel_rfl) (by kernel_rfl) (h:=aJ J8) (by kernel_rfl) (by
  unfold aJ;show(match J8 [.int .u32 (.ofNat n),.int .u32 (.ofNat b)] with|some v=>R.ok (v,A)|none=>.no 600)=_;simp only [J8,if_pos hn])
theorem call18 {ih:Code→St→R (Ex×St)} (hn:n<4294967296):bc af ih (.fn 153 [.int .u32 n]) A= .ok (.val (.int .u32 (4294967295-n:Nat)) A):=
 bW (c:=(Tryz.f153.body).getD .skip) (bB Tryz.func153) (by kernel_rfl) (by kernel_rfl) (h:=aJ pR) (by kernel_rfl) (by
  unfold aJ;show(match pR [.int .u32 (.ofNat n)] with|some v=>R.ok (v,A)|none=>.no 600)=_;simp only [pR,if_pos hn])
theorem FE:af.bp 9=some .string:=o_
theorem PL:af.bp 31=some (.int .u32):=PK
theorem PR:af.bp 5=some (.int .u8):=mA
def Yn (p:Nat×Nat):Nat×Nat:=(BZ p.1 (p.2 % 2),p.2/2)
def wN:Nat→Nat×Nat→Nat×Nat
 |0,p=>p
 |k+1,p=>Yn (wN k p)
theorem xn {p:Nat×Nat} (h1:p.1<4294967296) (h2:p.2<4294967296):∀k,(wN k p).1<4294967296∧(wN k p).2<4294967296
 |0=>⟨h1,h2⟩
 |k+1=>by
  obtain⟨a,b⟩:=xn h1 h2 k;refine⟨Qd _ a,?_⟩;show(wN k p).2/2<_;omega
def AE (n c:Nat):Nat:=(wN 8 (n,c)).1
variable {c:Nat}
theorem Mx (h:n<4294967296) (h2:c<4294967296):AE n c<4294967296:=(xn (p:=(n,c)) h h2 8).1
def zK (n:Nat) (l:List UInt8):Nat:=l.foldl (fun n c=>AE n c.toNat) n
theorem JJ (h:n<4294967296) (l:List UInt8):zK n l<4294967296:=by
 unfold zK
 induction l generalizing n with
 |nil=>exact h
 |cons c l ih=>exact ih (Mx h (by have:=c.toNat_lt;omega))
noncomputable def qd:Code:=qba.body.getD .skip
noncomputable def gL:Code:=sub qd [1,1,0,1,0,0]
noncomputable def Ia:Code:=sub gL [1,0,0,1,1,0,0]
theorem B7:qba.body=some (.seq (sub qd [0]) (.seq (sub qd [1,0]) (.seq (.seq (sub qd [1,1,0,0]) (.block 0 (.loop gL))) (.seq (sub qd [1,1,1,0]) (sub qd [1,1,1,1]))))):=by kernel_rfl
theorem Mz:gL=(.seq (.seq (sub gL [0,0]) (sub gL [0,1])) (.seq (.block 1 (.seq (sub gL [1,0,0,0]) (.seq (sub gL [1,0,0,1,0]) (.block 2 (.loop Ia))))) (sub gL [1,1]))):=by kernel_rfl
def In (l:List UInt8) (a:Nat) (p:Nat×Nat) (i:Nat) (s:St):Prop:=
 s.n=30∧s.d=[]∧s.ro=none∧s.m=ee∧s.t.get 0=some (strOf l)∧s.t.get 4=some (.int .i64 (a:Nat))∧s.t.get 3=some (.int .u32 ((wN i p).1:Nat))∧s.t.get 5=some (.int .u32 ((wN i p).2:Nat))∧s.t.get 6=some (.int .i64 (i:Nat))
theorem Ri {l:List UInt8} {a n0:Nat} (h1:n0<4294967296) (h2:c<4294967296) {s:St} {K:Ex→St→Prop} (h:In l a (n0,c) 0 s)
 (hk:∀t:T Value,t.get 0=some (strOf l)→t.get 4=some (.int .i64 (a:Nat))→t.get 3=some (.int .u32 (AE n0 c:Nat))→K (.exit 2) ⟨t,30,[],ee,none⟩):W af (.loop Ia) s K:=by
 refine W.loop (fun s=>∃i,i≤8∧In l a (n0,c) i s) (fun s=>8-(match s.t.get 6 with|some (.int _ i)=>i.toNat|_=>0)) ?_ ⟨0,by omega,h⟩;rintro⟨t,n,d,m,ro⟩ ⟨i,hi,h01,h02,h03,h04,g0,g4,g3,g5,g6⟩;simp only at h01 h02 h03 h04 g0 g4 g3 g5 g6;subst h01 h02 h03 h04;obtain⟨b1,b2⟩:=xn (p:=(n0,c)) h1 h2 i;by_cases hlt:i<8
 ·apply W.run 20
  ·intro m;simp (disch:=first|decide+kernel|omega) only [Ia,gL,qd,qba,Aq,Zf,g0,g3,g4,g5,g6,call19,hlt];rfl
  ·refine⟨⟨i+1,by omega,rfl,rfl,rfl,rfl,?_,?_,?_,?_,?_⟩,?_⟩
   ·simp only [T.aD,Zf,if_true,if_false,g0]
   ·simp only [T.aD,Zf,if_true,if_false,g4]
   ·simp only [T.aD,Zf,if_true,if_false];rfl
   ·simp only [T.aD,Zf,if_true,if_false];rfl
   ·simp only [T.aD,Zf,if_true,if_false]
   ·simp only [T.aD,Zf,if_true,if_false,g6,qb9];exact qc8 (by omega) (qa1 _)
 ·have h8:i=8:=by omega
  subst h8;apply W.run 20
  ·intro m;simp (disch:=decide+kernel) only [Ia,gL,qd,qba,Aq,Zf,g0,g3,g4,g5,g6,call19];rfl
  ·refine hk _ ?_ ?_ ?_
   ·simp only [T.aD,Zf,if_true,if_false,g0]
   ·simp only [T.aD,Zf,if_true,if_false,g4]
   ·simp only [T.aD,Zf,if_true,if_false,g3];rfl
def Out (l:List UInt8) (k:Nat) (s:St):Prop:=
 s.n=30∧s.d=[]∧s.ro=none∧s.m=ee∧s.t.get 0=some (strOf l)∧s.t.get 4=some (.int .i64 (k:Nat))∧s.t.get 3=some (.int .u32 (zK 4294967295 (l.take k):Nat))
theorem LN (n:Nat) (l:List UInt8) (k:Nat) (h:k<l.length):zK n (l.take (k+1))=AE (zK n (l.take k)) (l.getD k 0).toNat:=by
 unfold zK;rw [Zs h,qa8];simp [List.getD,Zi h]
theorem RA {l:List UInt8} (hl:l.length<9223372036854775807) {s:St} {K:Ex→St→Prop} (h:Out l 0 s)
 (hk:∀t:T Value,t.get 3=some (.int .u32 (zK 4294967295 l:Nat))→K (.exit 0) ⟨t,30,[],ee,none⟩):W af (.loop gL) s K:=by
 refine W.loop (fun s=>∃k,k≤l.length∧Out l k s) (fun s=>l.length-(match s.t.get 4 with|some (.int _ i)=>i.toNat|_=>0)) ?_ ⟨0,by omega,h⟩;rintro⟨t,n,d,m,ro⟩ ⟨k,hk1,h01,h02,h03,h04,g0,g4,g3⟩;simp only at h01 h02 h03 h04 g0 g4 g3;subst h01 h02 h03 h04;have b3:=JJ (n:=4294967295) (by omega) (l.take k);have b5:=B3 (l.getD k 0);rw [Mz];by_cases hlt:k<l.length
 ·apply W.seq;apply W.run 20
  ·intro m;simp (disch:=decide+kernel) only [gL,qd,qba,Aq,Zf,g0,g3,g4,cd FE,hlt];rfl
  apply W.seq;apply W.block;apply W.seq;apply W.run 20
  ·intro m;simp (disch:=first|decide+kernel|omega) only [gL,qd,qba,Aq,Zf,g0,g3,g4,eg FE,gB,PR,PL];rfl
  apply W.seq;apply W.run 20
  ·intro m;simp only [gL,qd,qba,Aq,Zf];rfl
  apply W.block;refine Ri (l:=l) (a:=k) (n0:=zK 4294967295 (l.take k)) (c:=(l.getD k 0).toNat) b3 (by omega) ⟨rfl,rfl,rfl,rfl,?_,?_,?_,?_,?_⟩ ?_
  ·simp only [T.aD,Zf,if_true,if_false,g0]
  ·simp only [T.aD,Zf,if_true,if_false,g4]
  ·simp only [T.aD,Zf,if_true,if_false,g3];first|done|rfl
  ·simp only [T.aD,Zf,if_true,if_false];first|done|rfl
  ·simp only [T.aD,Zf,if_true,if_false];first|done|rfl
  intro t2 q0 q4 q3;apply W.run 20
  ·intro m;simp (disch:=first|decide+kernel|omega) only [gL,qd,qba,Aq,Zf,q0,q3,q4];rfl
  refine⟨⟨k+1,by omega,rfl,rfl,rfl,rfl,?_,?_,?_⟩,?_⟩
  ·simp only [T.aD,Zf,if_true,if_false,q0]
  ·simp only [T.aD,Zf,if_true,if_false]
  ·simp only [T.aD,Zf,if_true,if_false,q3,LN _ _ _ hlt]
  ·simp only [T.aD,Zf,if_true,if_false,g4,qb9];exact qc8 (by omega) (qa1 _)
 ·have hkl:k=l.length:=by omega
  subst hkl;rw [ZL] at g3;apply W.seq;apply W.run 20
  ·intro m;simp (disch:=decide+kernel) only [gL,qd,qba,Aq,Zf,g0,g3,g4,cd FE];rfl
  refine hk _ ?_;simp only [T.aD,Zf,if_true,if_false,g3]
def jY (l:List UInt8):Nat:=4294967295-zK 4294967295 l
theorem Ht (l:List UInt8) (hl:l.length<9223372036854775807):jq af 106 [strOf l] ee (.int .u32 (jY l:Nat)) ee:=by
 have b:=JJ (n:=4294967295) (by omega) l;obtain⟨v,A',h1,h2,h3⟩:∃v A',jq af 106 [strOf l] ee v A'∧v= .int .u32 (jY l:Nat)∧A'=ee:=by
  refine tX (bB Tryz.func106) B7 (by rw [Tryz.ntmps106];simp) ?_;apply W.seq;apply W.run 20
  ·intro m;simp only [qd,qba,Aq,Zf];rfl
  apply W.seq;apply W.run 20
  ·intro m;simp only [qd,qba,Aq,Zf,call18];rfl
  apply W.seq;apply W.seq;apply W.run 20
  ·intro m;simp only [qd,qba,Aq,Zf];rfl
  apply W.block;refine RA hl ⟨rfl,rfl,rfl,rfl,?_,?_,?_⟩ ?_
  ·simp only [T.aD,T.bu,T.cC,Zf,if_true,if_false]
  ·simp only [T.aD,T.bu,T.cC,Zf,if_true,if_false];first|done|rfl
  ·simp only [T.aD,T.bu,T.cC,Zf,if_true,if_false];first|done|rfl
  intro t g3;apply W.seq;apply W.run 20
  ·intro m;simp (disch:=omega) only [qd,qba,Aq,Zf,g3,call18];rfl
  apply W.run 20
  ·intro m;simp only [qd,qba,Aq,Zf];rfl
  refine⟨.inr rfl,ee,[.int .u32 (jY l:Nat)],rfl,?_,rfl,rfl⟩;simp only [qba,fj,im,T.aD,Zf,if_true,if_false,eH,R.aw];rfl
 subst h2 h3;exact h1
def four (n:Nat):List UInt8:=[.ofNat (n % 256),.ofNat (n/256 % 256),.ofNat (n/65536 % 256),.ofNat (n/16777216)]
theorem Dr:af.bp 48=some (.slice 5):=by kernel_rfl
theorem YZ (a b c d:Int):a9 af 48 4 [(0,.int .u8 a),(1,.int .u8 b),(2,.int .u8 c),(3,.int .u8 d)]= .ok (aa 5 [.int .u8 a,.int .u8 b,.int .u8 c,.int .u8 d],.nO 4 8):=by kernel_rfl
variable {d:Nat}
theorem WB {a:Nat} (ha:a<256) (hb:b<256) (hc:c<256) (hd:d<256):
 dw af (A.alloc (aa 5 [.int .u8 a,.int .u8 b,.int .u8 c,.int .u8 d])).get 48 9 (.slice (some ⟨A.next,0,none⟩) 4 8)= .ok (strOf [.ofNat a,.ofNat b,.ofNat c,.ofNat d]):=by
 refine tz (tb:=af) (l:=[.ofNat a,.ofNat b,.ofNat c,.ofNat d]) (e:=5) (k:=.var 4) Dr FE PR ?_;unfold Bytes;rw [ay,iP ha,iP hb,iP hc,iP hd];rfl
theorem OU (n:Nat) (hn:n<4294967296):∃A,call af 30 105 [.int .u32 n] ee= .ok (.val (strOf (four n)) A):=by
 apply Exists.intro;unfold call;simp only [show af.fn.get 105=some Tryz.f105 from bB Tryz.func105];simp only [Tryz.f105,nt,Zu,ZG];simp (disch:=first|decide+kernel|omega) only [Aq,Zf,gB,PR,PL,YZ,kY _ _ _ _ _ _ _ _ _ _ Dr FE,WB];rfl
def LM:List Value→Option Value
 | [.string s]=>if s.data.toList.length<1000000 then some (.int .u32 (jY s.data.toList:Nat)) else none
 |_=>none
def AU:List Value→Option Value
 | [.int .u32 (.ofNat n)]=>if n<4294967296 then some (strOf (four n)) else none
 |_=>none
theorem NH:b7 af.P 106 (aJ LM):=by
 refine dN zL (f:=106) (fn:=qba) (bB Tryz.func106) B7 fun args v h=>?_
 unfold LM at h;split at h
 ·rename_i s;split at h
  ·rename_i hn;cases h;obtain⟨n,hr⟩:=Ht s.data.toList (by omega);exact⟨by simp [flat],by simp [flat],n,_,hr⟩
  ·cases h
 ·cases h
theorem KA:b7 af.P 105 (aJ AU):=by
 refine dN zL (f:=105) (fn:=Tryz.f105) (bB Tryz.func105) (c:=(Tryz.f105.body).getD .skip) (by kernel_rfl) fun args v h=>?_
 unfold AU at h;split at h
 ·rename_i n;split at h
  ·rename_i hn;cases h;obtain⟨A,hr⟩:=OU n hn;exact⟨by simp [flat],by simp [flat,strOf],30,_,hr⟩
  ·cases h
 ·cases h
noncomputable def PB:bL:=(af.pY 106 (aJ LM)).pY 105 (aJ AU)
theorem HP:cc PB:=bY (bY zL NH) KA
theorem call12 {ih:Code→St→R (Ex×St)} {l:List UInt8} (hl:l.length<1000000):bc PB ih (.fn 106 [strOf l]) A= .ok (.val (.int .u32 (jY l:Nat)) A):=
 bW (c:=(qba.body).getD .skip) (bB Tryz.func106) (by kernel_rfl) (by kernel_rfl) (h:=aJ LM) (by kernel_rfl) (by
  unfold aJ;show(match LM [.string ⟨⟨l⟩⟩] with|some v=>R.ok (v,A)|none=>.no 600)=_;simp only [LM,if_pos hl])
theorem call17 {ih:Code→St→R (Ex×St)} (hn:n<4294967296):bc PB ih (.fn 105 [.int .u32 n]) A= .ok (.val (strOf (four n)) A):=
 bW (c:=(Tryz.f105.body).getD .skip) (bB Tryz.func105) (by kernel_rfl) (by kernel_rfl) (h:=aJ AU) (by kernel_rfl) (by
  unfold aJ;show(match AU [.int .u32 (.ofNat n)] with|some v=>R.ok (v,A)|none=>.no 600)=_;simp only [AU,if_pos hn])
theorem Lb (l:List UInt8):jY l<4294967296:=by unfold jY;omega
theorem l_ (n:Nat):(four n).length=4:=rfl
def aN (l:List UInt8):List UInt8:=l++four (jY l)
theorem Fg (l:List UInt8) (hl:l.length<1000000):call PB 30 61 [strOf l] ee= .ok (.val (strOf (aN l)) ee):=by
 have hs:=Lb l;have hfl:=l_ (jY l);unfold call;simp only [show PB.fn.get 61=some Tryz.f61 from bB Tryz.func61];simp only [Tryz.f61,nt,Zu,ZG];simp (disch:=first|decide+kernel|omega) only [Aq,Zf,call12,call17,l_];rfl
def Vm (i:Nat):Nat:=(wN 4 (i,0)).1
def nj:List Value:=(qay 16).map fun i=>.int .u32 (Vm i:Nat)
def jl:Value:=.agg ⟨nj⟩
variable {i:Nat}
theorem PH (h:i<16):Vm i<4294967296:=(xn (p:=(i,0)) (by show i<_;omega) (by show 0<_;omega) 4).1
theorem HO (h:i<16):nj[i]?=some (.int .u32 (Vm i:Nat)):=by
 unfold nj;rw [ZH,qbq h];rfl
theorem LA:∃A,call PB 30 226 [] ee= .ok (.val jl A):=by
 have h:(match call PB 30 226 [] ee with| .ok (.val v _)=>bP 9 v jl|_=>false)=true:=by decide+kernel
 revert h;cases call PB 30 226 [] ee with
 |no _=>intro h;cases h
 |ok r=>
  cases r with
  |kh _ _=>intro h;cases h
  |val v A=>
   intro h;exact⟨A,by rw [j7 _ _ _ h]⟩
def Dg:List Value→Option Value
 | []=>some jl
 |_=>none
theorem GN:b7 PB.P 226 (aJ Dg):=by
 refine dN HP (f:=226) (fn:=Tryz.f226) (bB Tryz.func226) (c:=(Tryz.f226.body).getD .skip) (by kernel_rfl) fun args v h=>?_
 unfold Dg at h;split at h
 ·cases h;obtain⟨A,hr⟩:=LA;exact⟨by simp,by decide+kernel,30,A,hr⟩
 ·cases h
noncomputable def rA:bL:=PB.pY 226 (aJ Dg)
theorem PC:cc rA:=bY HP GN
theorem call20 {ih:Code→St→R (Ex×St)}:bc rA ih (.fn 226 []) A= .ok (.val jl A):=
 bW (c:=(Tryz.f226.body).getD .skip) (bB Tryz.func226) (by kernel_rfl) (by kernel_rfl) (h:=aJ Dg) (by kernel_rfl) rfl
theorem Tz:rA.bp 9=some .string:=o_
theorem PQ:rA.bp 48=some (.slice 5):=Dr
theorem PM:rA.bp 31=some (.int .u32):=PK
theorem Ty:rA.bp 5=some (.int .u8):=mA
theorem Vw:rA.bp 323=some (.array 16 31):=by kernel_rfl
theorem Vc:aV rA 31= .ok 1:=by kernel_rfl
theorem zu:aV rA 5= .ok 1:=by kernel_rfl
def ym (n h:Nat):Nat:=n>>>4^^^Vm (n % 256&&&15^^^h)
theorem DF (n:Nat):n&&&15=n % 16:=Nat.and_two_pow_sub_one_eq_mod n 4
theorem NK {h:Nat} (hh:h<16):(n % 256&&&15)^^^h<16:=qcv (n:=4) (by rw [DF];exact qav _ (by omega)) hh
theorem yn {h:Nat} (hn:n<4294967296) (hh:h<16):ym n h<4294967296:=
 qcv (n:=32) (by rw [qai];omega) (PH (NK hh))
noncomputable def tU:Code:=qcS.body.getD .skip
noncomputable def oc:Code:=sub tU [1,0,1,0,0]
theorem Gd:qcS.body=some (.seq (sub tU [0]) (.seq (.seq (sub tU [1,0,0]) (.block 0 (.loop oc))) (.seq (sub tU [1,1,0]) (sub tU [1,1,1])))):=by kernel_rfl
variable {t:T Value}
theorem yp {bt h0 h1:Nat} (hn:n<4294967296) (hh0:h0<16) (hh1:h1<16) (hi:i<2) (hb:A.get b=some (aa 5 [.int .u8 (h0:Nat),.int .u8 (h1:Nat)])) (hbt:A.get bt=some (aa 323 nj))
 (g9:t.get 9=some (.slice (some ⟨b,0,none⟩) 2 4)) (g10:t.get 10=some (.int .i64 (2:Nat))) (g11:t.get 11=some (.int .i64 (i:Nat))) (g1:t.get 1=some (.int .u32 (n:Nat))) (g3:t.get 3=some (pw bt 0))
 {K:Ex→St→Prop} (hk:∀t':T Value,t'.get 9=some (.slice (some ⟨b,0,none⟩) 2 4)→t'.get 10=some (.int .i64 (2:Nat))→t'.get 11=some (.int .i64 (i+1:Nat))→t'.get 1=some (.int .u32 (ym n (if i=0 then h0 else h1):Nat))→t'.get 3=some (pw bt 0)→K .nrm ⟨t',27,[],A,none⟩):
 W rA oc ⟨t,27,[],A,none⟩ K:=by
 have hh:(if i=0 then h0 else h1)<16:=by split<;>assumption
 have hx:=NK (n:=n) hh;have hl:ai rA A.get 5 (pw b (0+i))= .ok (.int .u8 (if i=0 then h0 else h1:Nat)):=by
  refine EG Ty rfl hb ?_;rw [ZT];rcases(show i=0∨i=1 by omega) with rfl|rfl<;>rfl
 have hl2:ai rA A.get 31 (pw bt (0+(n % 256&&&15^^^(if i=0 then h0 else h1))))= .ok (.int .u32 (Vm (n % 256&&&15^^^(if i=0 then h0 else h1)):Nat)):=by
  refine EG PM rfl hbt ?_;rw [ZT];exact HO hx
 have ht:=PH hx;have hand:n % 256&&&15<256:=by rw [DF];omega
 have hsh:n>>>4<4294967296:=by rw [qai];omega
 revert hh hx hl hl2 ht hk;generalize (if i=0 then h0 else h1)=h;intro hk hh hx hl hl2 ht;apply W.run 20
 ·intro m;simp (disch:=first|decide+kernel|omega) only [oc,tU,qcS,Aq,Zf,g9,g10,g11,g1,g3,hi,iM PQ zu,lu Vw Vc,hl,hl2,gB,PM,Ty];rfl
 ·apply hk
  all_goals simp only [T.aD,Zf,if_true,if_false,g9,g10,g3]
  rfl
def LQ (n h0 h1:Nat):Nat:=ym (ym n h0) h1
theorem U_ {h0 h1:Nat} (hn:n<4294967296) (hh0:h0<16) (hh1:h1<16) (hb:A.get b=some (aa 5 [.int .u8 (h0:Nat),.int .u8 (h1:Nat)])) (hlt:b≠A.next):
 ∃g,∀m,bc rA (exec rA (m+g)) (.fn 227 [jl,.int .u32 (n:Nat),.slice (some ⟨b,0,none⟩) 2 4]) A= .ok (.val (.int .u32 (LQ n h0 h1:Nat)) (A.alloc (aa 323 nj))):=by
 have hb':(A.alloc (aa 323 nj)).get b=some (aa 5 [.int .u8 (h0:Nat),.int .u8 (h1:Nat)]):=by rw [aB hlt];exact hb
 obtain⟨v,A',⟨g,h1⟩,h2,h3⟩:∃v A',(∃g,∀m,bc rA (exec rA (m+g)) (.fn 227 [jl,.int .u32 (n:Nat),.slice (some ⟨b,0,none⟩) 2 4]) A= .ok (.val v A'))∧v= .int .u32 (LQ n h0 h1:Nat)∧A'=A.alloc (aa 323 nj):=by
  refine xN (bB Tryz.func227) Gd (by rw [Tryz.ntmps227];simp) (by kernel_rfl) (by kernel_rfl) ?_;apply W.seq;apply W.run 20
  ·intro m;simp (disch:=omega) only [tU,qcS,Aq,Zf];rfl
  apply W.seq;apply W.seq;apply W.run 20
  ·intro m;simp (disch:=decide+kernel) only [tU,qcS,Aq,Zf,ez PQ];rfl
  apply W.block;apply W.round;refine yp (b:=b) (bt:=A.next) (n:=n) (h0:=h0) (h1:=h1) (i:=0) hn hh0 hh1 (by omega) hb' (ay _ _) ?_ ?_ ?_ ?_ ?_ ?_
  ·simp only [T.aD,T.bu,T.cC,Zf,Zg,if_true,if_false]
  ·simp only [T.aD,T.bu,T.cC,Zf,Zg,if_true,if_false]
  ·simp only [T.aD,T.bu,T.cC,Zf,Zg,if_true,if_false]
  ·simp only [T.aD,T.bu,T.cC,Zf,Zg,if_true,if_false]
  ·simp only [T.aD,T.bu,T.cC,Zf,Zg,if_true,if_false]
  intro t g9 g10 g11 g1 g3;apply W.round;refine yp (b:=b) (bt:=A.next) (n:=ym n h0) (h0:=h0) (h1:=h1) (i:=1) (yn hn hh0) hh0 hh1 (by omega) hb' (ay _ _) g9 g10 g11 g1 g3 ?_;intro t g9 g10 g11 g1 g3;apply W.round;apply W.run 20
  ·intro m;simp (disch:=decide+kernel) only [oc,tU,qcS,Aq,Zf,g9,g10,g11,g1,g3];rfl
  apply W.seq;apply W.run 20
  ·intro m;simp (disch:=omega) only [tU,qcS,Aq,Zf,g1];rfl
  apply W.run 20
  ·intro m;simp (disch:=first|decide+kernel|omega) only [tU,qcS,Aq,Zf];rfl
  refine⟨.inr rfl,A.alloc (aa 323 nj),[.int .u32 (LQ n h0 h1:Nat)],rfl,?_,rfl,rfl⟩;simp only [qcS,fj,im,T.aD,Zf,if_true,if_false,eH,R.aw];rfl
 subst h2 h3;exact⟨g,h1⟩
def Fz (n:Nat) (c:UInt8):Nat:=LQ n (c.toNat&&&15) (c.toNat>>>4)
theorem Tr (c:UInt8):c.toNat&&&15<16:=by rw [DF];exact qav _ (by omega)
theorem Tj (c:UInt8):c.toNat>>>4<16:=by have:=c.toNat_lt;rw [qai];omega
theorem Pr (h:n<4294967296) (c:UInt8):Fz n c<4294967296:=yn (yn h (Tr c)) (Tj c)
def ny (n:Nat) (l:List UInt8):Nat:=l.foldl Fz n
theorem EN (h:n<4294967296) (l:List UInt8):ny n l<4294967296:=by
 unfold ny
 induction l generalizing n with
 |nil=>exact h
 |cons c l ih=>exact ih (Pr h c)
theorem G7 (n:Nat) (l:List UInt8) (k:Nat) (h:k<l.length):ny n (l.take (k+1))=Fz (ny n (l.take k)) (l.getD k 0):=by
 unfold ny;rw [Zs h,qa8];simp [List.getD,Zi h]
noncomputable def rV:Code:=qbR.body.getD .skip
noncomputable def vk:Code:=sub rV [1,1,1,0,1,0,0]
theorem B_:qbR.body=some (.seq (sub rV [0]) (.seq (sub rV [1,0]) (.seq (sub rV [1,1,0]) (.seq (.seq (sub rV [1,1,1,0,0]) (.block 0 (.loop vk))) (.seq (sub rV [1,1,1,1,0]) (sub rV [1,1,1,1,1])))))):=by kernel_rfl
theorem YY (a b:Int):a9 rA 48 2 [(0,.int .u8 a),(1,.int .u8 b)]= .ok (aa 5 [.int .u8 a,.int .u8 b],.nO 2 4):=by kernel_rfl
theorem HX:bO rA 323= .ok (.agg ⟨Z4 16 (.int .u32 0)⟩):=by kernel_rfl
noncomputable def KS:Mem:=
 match aT rA (ee.alloc (aa 323 (Z4 16 (.int .u32 0)))) 323 (.pointer (some ⟨ee.next,0,none⟩)) jl with
 | .ok A=>A
 |_=>ee
theorem Rq:aT rA (ee.alloc (aa 323 (Z4 16 (.int .u32 0)))) 323 (pw ee.next 0) jl= .ok KS:=by kernel_rfl
theorem KT:ai rA KS.get 323 (.pointer (some ⟨0,0,none⟩))= .ok jl:=by
 have h:(match ai rA KS.get 323 (.pointer (some ⟨0,0,none⟩)) with| .ok v=>bP 9 v jl|_=>false)=true:=by decide+kernel
 revert h;cases ai rA KS.get 323 (.pointer (some ⟨0,0,none⟩)) with
 |no _=>intro h;cases h
 |ok v=>intro h;rw [j7 _ _ _ h]
theorem KU:KS.next=1:=by kernel_rfl
def VY (l:List UInt8) (n0 k:Nat) (s:St):Prop:=
 s.n=31∧s.d=[]∧s.ro=none∧1≤s.m.next∧s.m.get 0=KS.get 0∧s.t.get 1=some (strOf l)∧s.t.get 5=some (.pointer (some ⟨0,0,none⟩))∧s.t.get 12=some (.int .i64 (l.length:Nat))∧
 s.t.get 13=some (.int .i64 (k:Nat))∧s.t.get 6=some (.int .u32 (ny n0 (l.take k):Nat))
theorem UX {l:List UInt8} {n0:Nat} (hn:n0<4294967296) (hl:l.length<9223372036854775807) {s:St} {K:Ex→St→Prop} (h:VY l n0 0 s)
 (hk:∀(t:T Value) (A:Mem),t.get 6=some (.int .u32 (ny n0 l:Nat))→K (.exit 0) ⟨t,31,[],A,none⟩):W rA (.loop vk) s K:=by
 refine W.loop (fun s=>∃k,k≤l.length∧VY l n0 k s) (fun s=>l.length-(match s.t.get 13 with|some (.int _ i)=>i.toNat|_=>0)) ?_ ⟨0,by omega,h⟩;rintro⟨t,n,d,A,ro⟩ ⟨k,hk1,h01,h02,h03,hA,hA0,g1,g5,g12,g13,g6⟩;simp only at h01 h02 h03 hA hA0 g1 g5 g12 g13 g6;subst h01 h02 h03;have b3:=EN hn (l.take k);have b5:=B3 (l.getD k 0);by_cases hlt:k<l.length
 ·have hl1:=Tr (l.getD k 0);have hl2:=Tj (l.getD k 0);have hne:A.next≠(A.alloc (aa 5 [.int .u8 ((l.getD k 0).toNat&&&15:Nat),.int .u8 ((l.getD k 0).toNat>>>4:Nat)])).next:=by rw [ae];omega
  obtain⟨g,hby⟩:=U_ (A:=A.alloc (aa 5 [.int .u8 ((l.getD k 0).toNat&&&15:Nat),.int .u8 ((l.getD k 0).toNat>>>4:Nat)])) (b:=A.next) b3 hl1 hl2 (ay _ _) hne;have hld:ai rA A.get 323 (pw 0 0)= .ok jl:=by rw [KP hA0];exact KT
  apply W.run (g+20)
  ·intro m;have hby':∀j,bc rA (exec rA ((m+g)+j)) (.fn 227 [jl,.int .u32 (ny n0 (l.take k):Nat),.slice (some ⟨A.next,0,none⟩) 2 4]) (A.alloc (aa 5 [.int .u8 ((l.getD k 0).toNat&&&15:Nat),.int .u8 ((l.getD k 0).toNat>>>4:Nat)]))= .ok (.val (.int .u32 (LQ (ny n0 (l.take k)) ((l.getD k 0).toNat&&&15) ((l.getD k 0).toNat>>>4):Nat)) ((A.alloc (aa 5 [.int .u8 ((l.getD k 0).toNat&&&15:Nat),.int .u8 ((l.getD k 0).toNat>>>4:Nat)])).alloc (aa 323 nj))):=
    fun j=>by rw [show m+g+j=(m+j)+g by omega];exact hby (m+j)
   rw [←qa3];revert hby';generalize m+g=M;intro hby';simp (disch:=first|decide+kernel|omega) only [vk,rV,qbR,Aq,Zf,g1,g5,g6,g12,g13,hlt,eg Tz,YY,hld,hby'];rfl
  ·refine⟨⟨k+1,by omega,rfl,rfl,rfl,?_,?_,?_,?_,?_,?_,?_⟩,?_⟩
   ·simp only [ae];omega
   ·rw [aB (by rw [ae];omega),aB (by omega)];exact hA0
   ·simp only [T.aD,Zf,if_true,if_false,g1]
   ·simp only [T.aD,Zf,if_true,if_false,g5]
   ·simp only [T.aD,Zf,if_true,if_false,g12]
   ·simp only [T.aD,Zf,if_true,if_false]
   ·simp only [T.aD,Zf,if_true,if_false,G7 _ _ _ hlt];rfl
   ·simp only [T.aD,Zf,if_true,if_false,g13,qb9];exact qc8 (by omega) (qa1 _)
 ·have hkl:k=l.length:=by omega
  subst hkl;rw [ZL] at g6;apply W.run 20
  ·intro m;simp (disch:=decide+kernel) only [vk,rV,qbR,Aq,Zf,g12,g13];rfl
  refine hk _ _ ?_;simp only [T.aD,Zf,if_true,if_false,g6]
def sS (n:Nat) (l:List UInt8):Nat:=4294967295-ny (4294967295-n) l
theorem O1 (n:Nat) (l:List UInt8) (hn:n<4294967296) (hl:l.length<9223372036854775807):∃A,jq rA 198 [.int .u32 (n:Nat),strOf l] ee (.int .u32 (sS n l:Nat)) A:=by
 have b:=EN (n:=4294967295-n) (by omega) l;obtain⟨v,A',h1,h2⟩:∃v A',jq rA 198 [.int .u32 (n:Nat),strOf l] ee v A'∧v= .int .u32 (sS n l:Nat):=by
  refine tX (bB Tryz.func198) B_ (by rw [Tryz.ntmps198];simp) ?_;apply W.seq;apply W.run 20
  ·intro m;simp only [rV,qbR,Aq,Zf];rfl
  apply W.seq;apply W.run 20
  ·intro m;simp (disch:=omega) only [rV,qbR,Aq,Zf,call20,HX,Value.cells,Rq];rfl
  apply W.seq;apply W.run 20
  ·intro m;simp (disch:=first|decide+kernel|omega) only [rV,qbR,Aq,Zf];rfl
  apply W.seq;apply W.seq;apply W.run 20
  ·intro m;simp (disch:=first|decide+kernel|omega) only [rV,qbR,Aq,Zf,cd Tz];rfl
  apply W.block;refine UX (l:=l) (n0:=4294967295-n) (by omega) hl ⟨rfl,rfl,rfl,by rw [KU];omega,rfl,?_,?_,?_,?_,?_⟩ ?_
  ·simp only [T.aD,T.bu,T.cC,Zf,Zg,if_true,if_false]
  ·simp only [T.aD,T.bu,T.cC,Zf,Zg,if_true,if_false];rfl
  ·simp only [T.aD,T.bu,T.cC,Zf,Zg,if_true,if_false]
  ·simp only [T.aD,T.bu,T.cC,Zf,Zg,if_true,if_false]
  ·simp only [T.aD,T.bu,T.cC,Zf,Zg,if_true,if_false];rfl
  intro t A g6;apply W.seq;apply W.run 20
  ·intro m;simp (disch:=omega) only [rV,qbR,Aq,Zf,g6];rfl
  apply W.run 20
  ·intro m;simp only [rV,qbR,Aq,Zf];rfl
  refine⟨.inr rfl,A,[.int .u32 (sS n l:Nat)],rfl,?_,rfl⟩;simp only [qbR,fj,im,T.aD,Zf,if_true,if_false,eH,R.aw];rfl
 subst h2;exact⟨A',h1⟩
def Ba:List Value→Option Value
 | [.int .u32 (.ofNat n),.string s]=>if n<4294967296∧s.data.toList.length<1000000 then some (.int .u32 (sS n s.data.toList:Nat)) else none
 |_=>none
theorem KB:b7 rA.P 198 (aJ Ba):=by
 refine dN PC (f:=198) (fn:=qbR) (bB Tryz.func198) B_ fun args v h=>?_
 unfold Ba at h;split at h
 ·rename_i n s;split at h
  ·rename_i hn;cases h;obtain⟨A,k,hr⟩:=O1 n s.data.toList hn.1 (by omega);exact⟨by simp [flat],by simp [flat],k,A,hr⟩
  ·cases h
 ·cases h
noncomputable def VT:bL:=rA.pY 198 (aJ Ba)
theorem PD:cc VT:=bY PC KB
theorem call14 {ih:Code→St→R (Ex×St)} {l:List UInt8} (hn:n<4294967296) (hl:l.length<1000000):bc VT ih (.fn 198 [.int .u32 n,strOf l]) A= .ok (.val (.int .u32 (sS n l:Nat)) A):=
 bW (c:=(qbR.body).getD .skip) (bB Tryz.func198) (by kernel_rfl) (by kernel_rfl) (h:=aJ Ba) (by kernel_rfl) (by
  unfold aJ;show(match Ba [.int .u32 (.ofNat n),.string ⟨⟨l⟩⟩] with|some v=>R.ok (v,A)|none=>.no 600)=_;simp only [Ba,if_pos (Zh hn hl)])
def HM (l:List UInt8):Nat:=sS 0 l
theorem Oe (n:Nat) (l:List UInt8):sS n l<4294967296:=by unfold sS;omega
theorem Sb (l:List UInt8) (hl:l.length<1000000):call VT 30 157 [strOf l] ee= .ok (.val (.int .u32 (HM l:Nat)) ee):=by
 unfold call;simp only [show VT.fn.get 157=some Tryz.f157 from bB Tryz.func157];simp only [Tryz.f157,nt,Zu,ZG];simp (disch:=first|decide+kernel|omega) only [Aq,Zf,call14];rfl
def BC:List Value→Option Value
 | [.string s]=>if s.data.toList.length<1000000 then some (.int .u32 (HM s.data.toList:Nat)) else none
 |_=>none
theorem KE:b7 VT.P 157 (aJ BC):=by
 refine dN PD (f:=157) (fn:=Tryz.f157) (bB Tryz.func157) (c:=(Tryz.f157.body).getD .skip) (by kernel_rfl) fun args v h=>?_
 unfold BC at h;split at h
 ·rename_i s;split at h
  ·rename_i hn;cases h;exact⟨by simp [flat],by simp [flat],30,_,Sb s.data.toList hn⟩
  ·cases h
 ·cases h
noncomputable def Dy:bL:=VT.pY 157 (aJ BC)
theorem PE:cc Dy:=bY PD KE
theorem call11 {ih:Code→St→R (Ex×St)} {l:List UInt8} (hl:l.length<1000000):bc Dy ih (.fn 157 [strOf l]) A= .ok (.val (.int .u32 (HM l:Nat)) A):=
 bW (c:=(Tryz.f157.body).getD .skip) (bB Tryz.func157) (by kernel_rfl) (by kernel_rfl) (h:=aJ BC) (by kernel_rfl) (by
  unfold aJ;show(match BC [.string ⟨⟨l⟩⟩] with|some v=>R.ok (v,A)|none=>.no 600)=_;simp only [BC,if_pos hl])
theorem JO:Dy.bp 9=some .string:=o_
theorem u_:Dy.bp 48=some (.slice 5):=Dr
theorem Vs:Dy.bp 31=some (.int .u32):=PK
theorem PS:Dy.bp 5=some (.int .u8):=mA
theorem XP:cg Dy 5= .ok (1,[.int .u8 0]):=by kernel_rfl
theorem XM:∃i,Dy.ty.get 5=some i∧i.bytes=1:=by
 have h:(Dy.ty.get 5).map (·.bytes)=some 1:=by kernel_rfl
 cases hq:Dy.ty.get 5 with
 |none=>rw [hq] at h;cases h
 |some i=>rw [hq] at h;exact⟨i,rfl,by simpa using h⟩
theorem YX (a:Int):a9 Dy 48 1 [(0,.int .u8 a)]= .ok (aa 5 [.int .u8 a],.nO 1 2):=by kernel_rfl
def ax (n k:Nat):UInt8:=.ofNat (n>>>(8*k) % 256)
theorem Q9 (h:n<4294967296):four n=(qay 4).map (ax n):=by
 show _=[ax n 0,ax n 1,ax n 2,ax n 3];unfold four ax;simp only [qai];have e:n/2^(8*3) % 256=n/16777216:=by
  show n/16777216 % 256=_;omega
 rw [e];simp
noncomputable def F7:Code:=qbQ.body.getD .skip
noncomputable def Ib:Code:=sub F7 [1,1,1,0,1,0,0]
theorem MA:qbQ.body=some (.seq (sub F7 [0]) (.seq (sub F7 [1,0]) (.seq (sub F7 [1,1,0]) (.seq (.seq (sub F7 [1,1,1,0,0]) (.block 0 (.loop Ib))) (.seq (sub F7 [1,1,1,1,0]) (sub F7 [1,1,1,1,1])))))):=by kernel_rfl
def SL (l:List UInt8) (n k:Nat) (s:St):Prop:=
 s.n=24∧s.d=[]∧s.ro=none∧∃b,b<s.m.next∧Bytes s.m b 5 .mark (l++((qay k).map (ax n)))∧s.t.get 3=some (.slice (some ⟨b,0,none⟩) (l.length+k) (gO (l.length+k) 1))∧s.t.get 4=some (.int .u32 (n:Nat))∧s.t.get 10=some (.int .i64 (k:Nat))
theorem Sc {l:List UInt8} (hn:n<4294967296) (hl:l.length<1000000) {s:St} {K:Ex→St→Prop} (h:SL l n 0 s)
 (hk:∀(t:T Value) (A:Mem) (b:Nat),Bytes A b 5 .mark (l++four n)→t.get 3=some (.slice (some ⟨b,0,none⟩) (l++four n).length (gO (l.length+4) 1))→K (.exit 0) ⟨t,24,[],A,none⟩):W Dy (.loop Ib) s K:=by
 refine W.loop (fun s=>∃k,k≤4∧SL l n k s) (fun s=>4-(match s.t.get 10 with|some (.int _ i)=>i.toNat|_=>0)) ?_ ⟨0,by omega,h⟩;rintro⟨t,nn,d,A,ro⟩ ⟨k,hk1,h01,h02,h03,b,hbn,hbb,g3,g4,g10⟩;simp only at h01 h02 h03 hbn hbb g3 g4 g10;subst h01 h02 h03;by_cases hlt:k<4
 ·have h8:8*k<32:=by omega
  have hv:n>>>(8*k) % 256<256:=qav _ (by omega);have hlen:(l++(qay k).map (ax n)).length=l.length+k:=by simp
  obtain⟨i,hi,hib⟩:=XM;have hbb1:Bytes (A.alloc (aa 5 [.int .u8 (n>>>(8*k) % 256:Nat)])) b 5 .mark (l++(qay k).map (ax n)):=by
   unfold Bytes;rw [aB (by omega)];exact hbb
  have happ:=DG (tb:=Dy) (A:=A.alloc (aa 5 [.int .u8 (n>>>(8*k) % 256:Nat)])) (b:=b) (b2:=A.next) (v:=n>>>(8*k) % 256) u_ u_ XP hi hib (by omega) (.inl rfl) hbb1 (ay _ _) hv;rw [hlen] at happ;have hbl:gK Dy (A.alloc (aa 5 [.int .u8 (n>>>(8*k) % 256:Nat)])) .append [48,48] [.slice (some ⟨b,0,none⟩) (l.length+k) (gO (l.length+k) 1),.slice (some ⟨A.next,0,none⟩) 1 2]=_:=happ;apply W.run 20
  ·intro m;simp (disch:=first|decide+kernel|omega) only [Ib,F7,qbQ,Aq,Zf,g3,g4,g10,hlt,YX,gB,Vs,PS,happ];rfl
  ·refine⟨⟨k+1,by omega,rfl,rfl,rfl,(A.alloc (aa 5 [.int .u8 (n>>>(8*k) % 256:Nat)])).next,?_,?_,?_,?_,?_⟩,?_⟩
   rotate_left 2
   ·simp only [T.aD,Zf,if_true,if_false];rfl
   ·simp only [T.aD,Zf,if_true,if_false,g4]
   ·simp only [T.aD,Zf,if_true,if_false]
   ·simp only [T.aD,Zf,if_true,if_false,g10,qb9];exact qc8 (by omega) (qa1 _)
   ·simp only [ae,aO];omega
   ·unfold Bytes;have e:(A.alloc (aa 5 [.int .u8 (n>>>(8*k) % 256:Nat)])).next=((A.alloc (aa 5 [.int .u8 (n>>>(8*k) % 256:Nat)])).set b .dead).next:=by rw [aO]
    simp only [];have e2:l++qcW (ax n) (qay (k+1))=l++qcW (ax n) (qay k)++[qaD (n>>>(8*k) % 256)]:=by
     rw [List.range_succ,Z3,qah];rfl
    rw [e,ay,e2]
 ·have hk4:k=4:=by omega
  subst hk4;rw [←Q9 hn] at hbb;apply W.run 20
  ·intro m;simp (disch:=decide+kernel) only [Ib,F7,qbQ,Aq,Zf,g10];rfl
  refine hk _ _ b hbb ?_;simp only [T.aD,Zf,if_true,if_false,g3,Zo,l_]
def qs (l:List UInt8):List UInt8:=l++four (HM l)
theorem O8 (l:List UInt8) (hl:l.length<900000):∃A,jq Dy 109 [strOf l] ee (strOf (qs l)) A:=by
 have b:=Oe 0 l;obtain⟨v,A',h1,h2⟩:∃v A',jq Dy 109 [strOf l] ee v A'∧v=strOf (qs l):=by
  refine tX (bB Tryz.func109) MA (by rw [Tryz.ntmps109];simp) ?_;apply W.seq;apply W.run 20
  ·intro m;simp only [F7,qbQ,Aq,Zf];rfl
  apply W.seq;apply W.run 20
  ·intro m;simp (disch:=omega) only [F7,qbQ,Aq,Zf,Ah _ _ _ _ _ _ _ _ _ _ JO u_,B5 JO u_ PS];rfl
  apply W.seq;apply W.run 20
  ·intro m;simp (disch:=omega) only [F7,qbQ,Aq,Zf,call11];rfl
  apply W.seq;apply W.seq;apply W.run 20
  ·intro m;simp (disch:=omega) only [F7,qbQ,Aq,Zf];rfl
  apply W.block;refine Sc (l:=l) (n:=HM l) b (by omega) ⟨rfl,rfl,rfl,ee.next,by simp only [ae];omega,?_,?_,?_,?_⟩ ?_
  ·unfold Bytes;simp only [ay,List.range_zero,qc9,qap]
  ·simp only [T.aD,T.bu,T.cC,Zf,Zg,if_true,if_false,Z8]
  ·simp only [T.aD,T.bu,T.cC,Zf,Zg,if_true,if_false]
  ·simp only [T.aD,T.bu,T.cC,Zf,Zg,if_true,if_false]
  intro t A b hb g3;apply W.seq;apply W.run 20
  ·intro m;simp (disch:=omega) only [F7,qbQ,Aq,Zf,g3,kY _ _ _ _ _ _ _ _ _ _ u_ JO,tz u_ JO PS hb];rfl
  apply W.run 20
  ·intro m;simp only [F7,qbQ,Aq,Zf];rfl
  refine⟨.inr rfl,A,[strOf (qs l)],rfl,?_,rfl⟩;simp only [qbQ,fj,im,T.aD,Zf,if_true,if_false,eH,R.aw];rfl
 subst h2;exact⟨A',h1⟩
def zn:List Value→Option Value
 | [.string s]=>if s.data.toList.length<900000 then some (strOf (qs s.data.toList)) else none
 |_=>none
theorem A4:b7 Dy.P 109 (aJ zn):=by
 refine dN PE (f:=109) (fn:=qbQ) (bB Tryz.func109) MA fun args v h=>?_
 unfold zn at h;split at h
 ·rename_i s;split at h
  ·rename_i hn;cases h;obtain⟨A,k,hr⟩:=O8 s.data.toList hn;exact⟨by simp [flat],by simp [flat,strOf],k,A,hr⟩
  ·cases h
 ·cases h
noncomputable def VU:bL:=Dy.pY 109 (aJ zn)
theorem Vj:cc VU:=bY PE A4
theorem FF:VU.bp 9=some .string:=o_
theorem call13 {ih:Code→St→R (Ex×St)} {l:List UInt8} (hl:l.length<900000):bc VU ih (.fn 109 [strOf l]) A= .ok (.val (strOf (qs l)) A):=
 bW (c:=(qbQ.body).getD .skip) (bB Tryz.func109) (by kernel_rfl) (by kernel_rfl) (h:=aJ zn) (by kernel_rfl) (by
  unfold aJ;show(match zn [.string ⟨⟨l⟩⟩] with|some v=>R.ok (v,A)|none=>.no 600)=_;simp only [zn,if_pos hl])
def fm (l:List UInt8):List UInt8×Bool:=
 if l.length<4 then([],false) else if qs (l.take (l.length-4))≠l then([],false) else(l.take (l.length-4),true)
theorem zf (l:List UInt8) (hl:l.length<900000):call VU 30 68 [strOf l] ee= .ok (.val (.tuple ⟨[strOf (fm l).1,.bool (fm l).2]⟩) ee):=by
 have ht:(l.take (l.length-4)).length<900000:=by rw [ZD];omega
 unfold call;simp only [show VU.fn.get 68=some Tryz.f68 from bB Tryz.func68];simp only [Tryz.f68,nt,Zu,ZG];by_cases h4:l.length<4
 ·simp (disch:=first|omega|decide+kernel|(simp only [pd,rG,qI,qH,T.aD,T.jT,Zf,if_true,if_false,rH,rI,cQ,cond_true,cond_false,qaI,qa4,List.toList_toArray])) only [Zj,cond_true,cond_false,T.bu,T.cC,oA,ir,na,ou,lZ,ug,x_,uf,mW,oT,ri,yO,qP,CP,CU,CS,G_,uF,lA,lv,uE,uD,uG,oR,yQ,yN,uC,CR,jX,lJ,uI,yL,CT,qQ,oQ,yK,OC,im,eH,GA,Cq,GC,pC,GD,D_,R.aw,uO,uN,T.aD,T.jT,xA,uK,qZ,re,Hb,Ha,CV,qR,rb,uJ,uL,qX,mM,n7,qW,qY,qT,n6,mF,pT,G6,xi,xS,qau,qaS,if_true,if_false,reduceIte,Zf,Zg,ne_eq,not_true_eq_false,not_false_eq_true,decide_true,decide_false,Zz,qaI,qa4,Dm,zH,zJ,uY,uZ,uX,zF,u6,rn,rp,qal,FX,tN,rj,uQ,ue,q_,ra,qU,xC,tw,Dl,Dk,fc,fj,oneOf,Jd,ya,cd FF,h4];simp [fm,h4]
 ·have h4':4≤l.length:=by omega
  by_cases he:qs (l.take (l.length-4))=l
  ·simp (disch:=first|decide+kernel|omega|simp only [Wq,Zf]) only [Aq,Zj,reduceIte,Zf,Zg,cd FF,oW FF,call13,he];simp [fm,h4,he]
  ·simp (disch:=first|decide+kernel|omega|simp only [Wq,Zf]) only [Aq,Zj,reduceIte,Zf,Zg,cd FF,oW FF,call13,he];simp [fm,h4,he]
end Go.Proofs.YtggndfefpbmaeaaGreatDoor.crc
namespace Go.Proofs.YtggndfefpbmaeaaGreatDoor.crc
theorem FK (a b:Nat):(a^^^b) % 2=(a % 2+b % 2) % 2:=by
 have h:(a^^^b) % 2^1=a % 2^1^^^b % 2^1:=Nat.xor_mod_two_pow;rw [show(2:Nat)^1=2 by rfl] at h;rw [h];rcases qbv a with ha|ha<;>rcases qbv b with hb|hb<;>rw [ha,hb]<;>rfl
def j8 (n:Nat):Nat:=n/2^^^(if n % 2=1 then 3988292384 else 0)
def c9:Nat→Nat→Nat
 |0,n=>n
 |k+1,n=>c9 k (j8 n)
theorem uW (a b:Nat):j8 (a^^^b)=j8 a^^^j8 b:=by
 unfold j8;have h1:(a^^^b)/2=a/2^^^b/2:=Nat.xor_div_two;have h2:(a^^^b) % 2=(a % 2+b % 2) % 2:=FK _ _;rw [h1,h2];rcases qbv a with ha|ha<;>rcases qbv b with hb|hb<;>rw [ha,hb]
 ·simp
 ·simp [qbw]
 ·simp only [Zg,Nat.reduceMod,if_true,Nat.zero_ne_one,if_false,qdd];rw [qbw,qbw,Nat.xor_comm (b/2)]
 ·simp only [Zg,Nat.reduceMod,if_true,Nat.zero_ne_one,if_false,qdd];rw [qbw,←qbw 3988292384,Nat.xor_comm 3988292384 (b/2),qbw (b/2),Nat.xor_self,qdd]
theorem j9:∀(k a b:Nat),c9 k (a^^^b)=c9 k a^^^c9 k b
 |0,_,_=>rfl
 |k+1,a,b=>by
  show c9 k (j8 (a^^^b))=_;rw [uW,j9 k];rfl
theorem Df (n:Nat):j8 (2*n)=n:=by
 unfold j8;rw [if_neg (by omega),qdd];omega
theorem jz:∀(k n:Nat),c9 k (2^k*n)=n
 |0,n=>by show 2^0*n=n;omega
 |k+1,n=>by
  show c9 k (j8 (2^(k+1)*n))=n;rw [show 2^(k+1)*n=2*(2^k*n) by rw [qcL];ac_rfl,Df,jz k]
theorem rm:∀(j k n:Nat),c9 (j+k) n=c9 k (c9 j n)
 |0,k,n=>by rw [ZT];rfl
 |j+1,k,n=>by
  rw [show j+1+k=(j+k)+1 by omega];show c9 (j+k) (j8 n)=c9 k (c9 j (j8 n));exact rm j k _
theorem Qc (n b:Nat) (hb:b<2):BZ n b=j8 (n^^^b):=by
 unfold BZ j8;have h1:(n^^^b)/2=n/2:=by rw [Nat.xor_div_two,show b/2=0 by omega,qdd]
 have h2:(n^^^b) % 2=(n % 2+b % 2) % 2:=FK _ _;rw [h1,h2];rcases qbv n with hn|hn<;>rcases(show b=0∨b=1 by omega) with rfl|rfl<;>rw [hn]<;>simp
theorem Jk:∀(k n c:Nat),wN k (n,c)=(c9 k (n^^^(c % 2^k)),c/2^k):=by
 intro k;have main:∀(k n c:Nat),wN k (n,c)=(c9 k n^^^c9 k (c % 2^k),c/2^k):=by
  intro k
  induction k with
  |zero=>intro n c;simp [wN,c9,Nat.mod_one]
  |succ k ih=>
   intro n c;show Yn (wN k (n,c))=_;rw [ih];unfold Yn;simp only [];have hb:c/2^k % 2<2:=qav _ (by omega);rw [Qc _ _ hb];have e1:∀x,j8 (c9 k x)=c9 (k+1) x:=fun x=>by
    have:=rm k 1 x;rw [this];rfl
   have e2:c % 2^(k+1)=(c % 2^k)^^^(2^k*(c/2^k % 2)):=by
    apply Nat.eq_of_testBit_eq;intro i;rw [Nat.testBit_xor,Nat.testBit_mod_two_pow,Nat.testBit_mod_two_pow,Nat.testBit_two_pow_mul];rcases qbP i k with h|h|h
    ·simp [h,show i<k+1 by omega,show¬k≤i by omega]
    ·subst h;simp [Nat.testBit_eq_decide_div_mod_eq]
    ·have:(c/2^k % 2).testBit (i-k)=false:=by
      apply Nat.testBit_lt_two_pow
      calc c/2^k % 2<2:=hb
       _=2^1:=rfl
       _≤2^(i-k):=qaq (by omega) (by omega)
     simp [this,show¬i<k by omega,show¬i<k+1 by omega]
   have e3:j8 (c/2^k % 2)=c9 (k+1) (2^k*(c/2^k % 2)):=by
    rw [←e1,jz]
   rw [uW,uW,e1,e1,e3,e2,j9,qbw,qcL,Nat.div_div_eq_div_mul]
 intro n c;rw [main,j9]
theorem Vn (i:Nat):Vm i=c9 4 i:=by
 unfold Vm;rw [Jk];simp
theorem zQ (n h:Nat):n^^^h=(16*(n/16))^^^(n % 16^^^h):=by
 rw [←qbw];congr 1;apply Nat.eq_of_testBit_eq;intro i;rw [Nat.testBit_xor,show(16:Nat)=2^4 by rfl,Nat.testBit_two_pow_mul,Nat.testBit_mod_two_pow,Nat.testBit_div_two_pow];rcases ZS i 4 with h|h
 ·simp [h,show¬4≤i by omega]
 ·simp [h,show¬i<4 by omega,show i-4+4=i by omega]
theorem Er (n h:Nat):ym n h=c9 4 (n^^^h):=by
 have e:c9 4 (n^^^h)=n/16^^^c9 4 (n % 16^^^h):=by
  rw [zQ n h,j9,show(16:Nat)*(n/16)=2^4*(n/16) by rfl,jz]
 rw [e];unfold ym;rw [Vn,DF,show n % 256 % 16=n % 16 by omega,qai]
theorem Mw (n:Nat) (c:UInt8):AE n c.toNat=c9 8 (n^^^c.toNat):=by
 unfold AE;rw [Jk];show c9 8 (n^^^c.toNat % 256)=_;rw [qaG c.toNat_lt]
theorem Pq (n:Nat) (c:UInt8):Fz n c=c9 8 (n^^^c.toNat):=by
 unfold Fz LQ;rw [Er,Er,DF,show(8:Nat)=4+4 by rfl,rm];congr 1;have hc:c.toNat=(16*(c.toNat/16))^^^(c.toNat % 16):=by
  have:=zQ c.toNat 0;simpa using this
 have e:n^^^c.toNat=(n^^^c.toNat % 16)^^^(2^4*(c.toNat/16)):=by
  rw [qbw,Nat.xor_comm (c.toNat % 16)];exact congrArg (n^^^·) hc
 have e2:c9 4 (n^^^c.toNat)=c9 4 (n^^^c.toNat % 16)^^^c.toNat/16:=by
  rw [e,j9 4 (n^^^c.toNat % 16),jz]
 rw [e2,qai]
theorem Of (n:Nat) (l:List UInt8):ny n l=zK n l:=by
 unfold ny zK
 induction l generalizing n with
 |nil=>rfl
 |cons c l ih=>simp only [qax];rw [Pq,←Mw];exact ih _
theorem So (l:List UInt8):HM l=jY l:=by
 unfold HM sS jY;rw [Of]
theorem Pc (l:List UInt8):qs l=aN l:=by unfold qs aN;rw [So]
theorem yS (l:List UInt8):fm (aN l)=(l,true):=by
 have hl:(aN l).length=l.length+4:=by unfold aN;rw [Zo,l_]
 have ht:(aN l).take ((aN l).length-4)=l:=by rw [hl];unfold aN;simp
 unfold fm;rw [if_neg (by omega),ht,Pc,if_neg (by simp)]
end Go.Proofs.YtggndfefpbmaeaaGreatDoor.crc
namespace Go.Proofs.YtggndfefpbmaeaaGreatDoor.crc
open Go.Am
def Bg:List Value→Option Value
 | [.string s]=>if s.data.toList.length<900000 then some (.tuple ⟨[strOf (fm s.data.toList).1,.bool (fm s.data.toList).2]⟩) else none
 |_=>none
def C5:List Value→Option Value
 | [.string s]=>if s.data.toList.length<900000 then some (strOf (aN s.data.toList)) else none
 |_=>none
theorem AZ:b7 VU.P 68 (aJ Bg):=by
 refine dN Vj (f:=68) (fn:=Tryz.f68) (bB Tryz.func68) (c:=(Tryz.f68.body).getD .skip) (by kernel_rfl) fun args v h=>?_
 unfold Bg at h;split at h
 ·rename_i s;split at h
  ·rename_i hn;cases h;exact⟨by simp [flat],by simp [flat,strOf],30,_,zf s.data.toList hn⟩
  ·cases h
 ·cases h
theorem GM:b7 PB.P 61 (aJ C5):=by
 refine dN HP (f:=61) (fn:=Tryz.f61) (bB Tryz.func61) (c:=(Tryz.f61.body).getD .skip) (by kernel_rfl) fun args v h=>?_
 unfold C5 at h;split at h
 ·rename_i s;split at h
  ·rename_i hn;cases h;exact⟨by simp [flat],by simp [flat,strOf],30,_,Fg s.data.toList (by omega)⟩
  ·cases h
 ·cases h
end Go.Proofs.YtggndfefpbmaeaaGreatDoor.crc
namespace Go.Am
noncomputable def oF {X:Type} (P:X→Prop) (a:X→List Value) (r:X→Value):List Value→Option Value:=fun args=>
 open Classical in if h:∃x,P x∧args=a x then some (r h.choose) else none
theorem Q8 {X:Type} {P:X→Prop} {a:X→List Value} {r:X→Value} (hi:∀x y,a x=a y→r x=r y) {x:X} (hx:P x):oF P a r (a x)=some (r x):=by
 unfold oF;have h:∃y,P y∧a x=a y:=⟨x,hx,rfl⟩;rw [dif_pos h,hi _ _ h.choose_spec.2.symm]
variable {tb:bL}
variable {f:FuncId} {fn:Func}
theorem e_ (ok:cc tb) {c:Code} {X:Type} {P:X→Prop} {a:X→List Value} {r:X→Value} (hf:tb.fn.get f=some fn) (hb:fn.body=some c) (hnm:(fn.name== "runtime.NumGoroutine")=false) (hk:tb.hk.get f=none)
 (h:∀x,P x→(∀v∈a x,flat 9 v=true)∧flat 9 (r x)=true∧∃A',bJ tb f (a x) ee (r x) A'):b7 tb.P f (aJ (oF P a r)):=by
 refine dN ok hf hb fun args v hv=>?_
 unfold oF at hv;split at hv
 ·rename_i hx;cases hv;obtain⟨hp,he⟩:=hx.choose_spec;obtain⟨h1,h2,A',h3⟩:=h _ hp;obtain⟨n,hn⟩:=Ay hf hb hnm hk h3;refine⟨fun v hv=>h1 v (he▸hv),h2,n,A',?_⟩;rw [←hn];exact congrArg (fun l=>call tb n f l ee) he
 ·cases hv
theorem eo {ih:Code→St→R (Ex×St)} {A:Mem} {c:Code} {X:Type} {P:X→Prop} {a:X→List Value} {r:X→Value} (hf:tb.fn.get f=some fn) (hn:(fn.name== "runtime.NumGoroutine")=false) (hb:fn.body=some c)
 (hk:tb.hk.get f=some (aJ (oF P a r))) (hi:∀x y,a x=a y→r x=r y) {x:X} (hx:P x):bc tb ih (.fn f (a x)) A= .ok (.val (r x) A):=by
 refine bW hf hn hb hk ?_;unfold aJ;rw [Q8 hi hx]
end Go.Am
namespace Go.Proofs.YtggndfefpbmaeaaGreatDoor.sto
open Go.Am Go.Mdl Go.Sto
theorem str_inj {a b:List UInt8} (h:strOf a=strOf b):a=b:=by unfold strOf at h;simpa using h
def Mm (x:List UInt8×Nat):List Value:=[strOf x.1,.int .i64 x.2]
def UY (x:List UInt8×Nat):Prop:=x.1.length<1000000∧x.2≤x.1.length
theorem WR:∀x y,Mm x=Mm y→wI (sM x.1 x.2)=wI (sM y.1 y.2):=by
 rintro⟨s,a⟩ ⟨s',a'⟩ h;simp only [Mm,Z2,Value.int.injEq,and_true,true_and] at h;obtain⟨h1,h2⟩:=h;cases str_inj h1;cases qcr h2;rfl
noncomputable def WK:=aJ (oF UY Mm fun x=>wI (sM x.1 x.2))
theorem NC:b7 b6.P 160 WK:=e_ eX (bB Tryz.func160) wZ (by kernel_rfl) (by kernel_rfl) fun x hx=>⟨by simp [Mm,flat,strOf],by simp [wI,flat],by
 obtain⟨v,A',h,rfl⟩:=run_get (A:=ee) hx.1 hx.2;exact⟨A',h⟩⟩
def BS (x:Nat):List Value:=[.int .u64 x]
theorem Rs {x y:Nat} (h:BS x=BS y):x=y:=by
 simp only [BS,Z2,Value.int.injEq,and_true,true_and] at h;exact qcr h
noncomputable def Uy:=aJ (oF (fun x:Nat=>x<18446744073709551616) BS fun x=>strOf (bI x))
theorem Es:b7 b6.P 107 Uy:=e_ eX (bB Tryz.func107) wY (by kernel_rfl) (by kernel_rfl) fun x hx=>⟨by simp [BS,flat],by simp [flat,strOf],by
 obtain⟨v,A',h,rfl⟩:=O2 (A:=ee) hx;exact⟨A',h⟩⟩
noncomputable def WO:=aJ (oF (fun e:aG=>e.weight<4294967296) FU fun e=>.int .u64 (val e:Nat))
theorem NI:b7 b6.P 151 WO:=e_ eX (bB Tryz.func151) (c:=qdg.body.getD .skip) (by kernel_rfl) (by kernel_rfl) (by kernel_rfl) fun e he=>⟨by simp [FU,bH,flat,strOf],by simp [flat],_,LC he⟩
def TV (x:Int×Int×Int):List Value:=[.int .i64 x.1,.int .i64 x.2.1,.int .i64 x.2.2]
noncomputable def IQ:=aJ (oF (fun _=>True) TV fun x=>.bool (decide (x.2.1≤x.1∧x.1≤x.2.2)))
theorem Eu:b7 b6.P 104 IQ:=e_ eX (bB Tryz.func104) (c:=Tryz.f104.body.getD .skip) (by kernel_rfl) (by kernel_rfl) (by kernel_rfl) fun x _=>⟨by simp [TV,flat],by simp [flat],_,Hz⟩
def FW (w:List UInt8):List Value:=[strOf w]
theorem W6 {x y:List UInt8} (h:FW x=FW y):x=y:=by
 simp only [FW,Z2,and_true] at h;exact str_inj h
noncomputable def YQ:=aJ (oF (fun _=>True) FW fun w=>.bool (decide (1≤w.length∧w.length≤255)))
theorem Q':b7 b6.P 196 YQ:=e_ eX (bB Tryz.func196) (c:=Tryz.f196.body.getD .skip) (by kernel_rfl) (by kernel_rfl) (by kernel_rfl) fun x _=>⟨by simp [FW,flat,strOf],by simp [flat],_,U'⟩
noncomputable def WL:=aJ (oF (fun _=>True) FW fun w=>.bool (decide (0<w.length∧w.length≤64)))
theorem ND:b7 b6.P 63 WL:=e_ eX (bB Tryz.func63) (c:=Tryz.f63.body.getD .skip) (by kernel_rfl) (by kernel_rfl) (by kernel_rfl) fun x _=>⟨by simp [FW,flat,strOf],by simp [flat],_,R0⟩
noncomputable def WM:=aJ (oF (fun n:Nat=>n<1099511627776) BS fun n=>.int .i64 n)
theorem NF:b7 b6.P 112 WM:=e_ eX (bB Tryz.func112) (c:=Tryz.f112.body.getD .skip) (by kernel_rfl) (by kernel_rfl) (by kernel_rfl) fun x hx=>⟨by simp [BS,flat],by simp [flat],_,R8 hx⟩
def Mo (x:Nat×Bool):List Value:=[.agg ⟨[.int .u64 x.1,.bool x.2]⟩]
theorem Yf {x y:Nat×Bool} (h:Mo x=Mo y):x=y:=by
 obtain⟨a,b⟩:=x;obtain⟨a',b'⟩:=y;simp only [Mo,Z2,Value.agg.injEq,Array.mk.injEq,Value.int.injEq,Value.bool.injEq,and_true,true_and] at h;cases qcr h.1;cases h.2;rfl
noncomputable def Nw:=aJ (oF (fun _=>True) Mo fun x=>.bool (x.2&&decide (x.1≤4294967296)))
theorem GO:b7 b6.P 181 Nw:=e_ eX (bB Tryz.func181) (c:=Tryz.f181.body.getD .skip) (by kernel_rfl) (by kernel_rfl) (by kernel_rfl) fun x _=>⟨by simp [Mo,flat],by simp [flat],_,LB⟩
noncomputable def Xn:bL:=b6.pY 107 Uy
theorem Vk:cc Xn:=bY eX Es
noncomputable def WN:=aJ (oF (fun x:Nat=>x<18446744073709551616) BS fun x=>strOf (bI x))
variable {n:Nat}
theorem R9 {A:Mem} (h:n<18446744073709551616):bJ Xn 103 [.int .u64 n] A (strOf (bI n)) A:=by
 have k:∀ih,bc Xn ih (.fn 107 [.int .u64 n]) A= .ok (.val (strOf (bI n)) A):=fun ih=>eo (tb:=Xn) (x:=n) (bB Tryz.func107) (by kernel_rfl) wY (by simp only [Xn,bL.pY,T.aD];rfl) (fun x y h=>by rw [Rs h]) h
 refine aP (bB Tryz.func103) (c:=Tryz.f103.body.getD .skip) (by kernel_rfl) (by rw [Tryz.ntmps103];simp) (by kernel_rfl) (by kernel_rfl) ?_;apply W.run 60
 ·intro M;simp (disch:=omega) only [Tryz.f103,Aq,Zf,k];rfl
 exact⟨by simp,rfl,rfl,by simp only [Tryz.f103,Aq,Zf,k]<;>rfl⟩
theorem NG:b7 b6.P 103 WN:=e_ Vk (bB Tryz.func103) (c:=Tryz.f103.body.getD .skip) (by kernel_rfl) (by kernel_rfl) (by kernel_rfl) fun x hx=>⟨by simp [BS,flat],by simp [flat,strOf],_,R9 hx⟩
def bare (e:aG):aG:=if e.gone then⟨e.word,0,true⟩ else e
noncomputable def Ti:=aJ (oF (fun _=>True) FU fun e=>.agg ⟨bH (bare e)⟩)
theorem V_ {t:TypeId} (h:(b6.bp t).map cH=some true):∃d,b6.bp t=some d∧cH d=true:=by
 cases hq:b6.bp t with
 |none=>rw [hq] at h;cases h
 |some d=>rw [hq] at h;exact⟨d,rfl,by simpa using h⟩
theorem SG:bO b6 67= .ok (.agg ⟨[.string .empty,.int .u32 (0:Nat),.bool false]⟩):=by kernel_rfl
theorem Vd:aV b6 31= .ok 1:=by kernel_rfl
theorem It (e:aG):∀v∈bH e,aH v=true:=by
 intro v hv;simp only [bH,ZC,Z0,or_false] at hv;rcases hv with rfl|rfl|rfl<;>rfl
variable {e:aG}
theorem OL {A:Mem}:∃v A',bJ b6 195 [.agg ⟨bH e⟩] A v A'∧v= .agg ⟨bH (bare e)⟩:=by
 have v1:=az A 67 (bH e);generalize hB:A.alloc (aa 67 (bH e))=B at v1;have v2:=az B 67 [.string .empty,.int .u32 (0:Nat),.bool false];have v1:=v1.kp (Kp.alloc B (aa 67 [.string .empty,.int .u32 (0:Nat),.bool false]));have hne:B.next≠A.next:=by rw [←hB,ae];omega
 generalize hC:B.alloc (aa 67 [.string .empty,.int .u32 (0:Nat),.bool false])=C at v2 v1;have lg:ai b6 C.get 4 (.pointer (some ⟨A.next,2,none⟩))= .ok (.bool e.gone):=v1.ld rfl LZ rfl;obtain⟨d,hd1,hd2⟩:=V_ (t:=67) (by kernel_rfl);cases hg:e.gone with
 |true=>
  rw [hg] at lg;obtain⟨D,sD,vD,nD,fD⟩:=aY (tb:=b6) (t:=31) (o:=1) (v:=.int .u32 (0:Nat)) Vd v1.2 (by simp [bH]) rfl rfl;have el:(bH e).set 1 (.int .u32 (0:Nat))=bH (bare e):=by simp [bH,bare,hg]
  rw [el] at vD;have lw:ai b6 D.get 67 (.pointer (some ⟨A.next,0,none⟩))= .ok (.agg ⟨bH (bare e)⟩):=aI hd1 hd2 uT vD;obtain⟨E,sE,vE,-⟩:=bK (tb:=b6) (t:=67) (l':=bH (bare e)) (by exact uT) (v2.2.same (fD _ hne)) rfl (by simp) (It _);have lE:ai b6 E.get 67 (.pointer (some ⟨B.next,0,none⟩))= .ok (.agg ⟨bH (bare e)⟩):=aI hd1 hd2 uT vE;refine⟨_,E,?_,rfl⟩;refine aP (bB Tryz.func195) (c:=qdi.body.getD .skip) (by kernel_rfl) (by rw [Tryz.ntmps195];simp) (by kernel_rfl) (by kernel_rfl) ?_;apply W.run 60
  ·intro M;simp (disch:=omega) only [qdi,Aq,Zf,aj,SG,hB,hC,Ir,vw,lg,sD,lw,sE,lE];rfl
  exact⟨by simp,rfl,rfl,by simp only [qdi,Aq,Zf,aj,SG,hB,hC,Ir,vw,lg,sD,lw,sE,lE]<;>rfl⟩
 |false=>
  rw [hg] at lg;have el:bH e=bH (bare e):=by simp [bare,hg]
  have lw:ai b6 C.get 67 (.pointer (some ⟨A.next,0,none⟩))= .ok (.agg ⟨bH e⟩):=aI hd1 hd2 uT v1.2;obtain⟨E,sE,vE,-⟩:=bK (tb:=b6) (t:=67) (l':=bH e) (by exact uT) v2.2 rfl (by simp) (It _);have lE:ai b6 E.get 67 (.pointer (some ⟨B.next,0,none⟩))= .ok (.agg ⟨bH e⟩):=aI hd1 hd2 uT vE;refine⟨_,E,?_,congrArg (fun l=>Value.agg ⟨l⟩) el⟩;refine aP (bB Tryz.func195) (c:=qdi.body.getD .skip) (by kernel_rfl) (by rw [Tryz.ntmps195];simp) (by kernel_rfl) (by kernel_rfl) ?_;apply W.run 60
  ·intro M;simp (disch:=omega) only [qdi,Aq,Zf,aj,SG,hB,hC,vw,lg,lw,sE,lE];rfl
  exact⟨by simp,rfl,rfl,by simp only [qdi,Aq,Zf,aj,SG,hB,hC,vw,lg,lw,sE,lE]<;>rfl⟩
theorem Kz:b7 b6.P 195 Ti:=e_ eX (bB Tryz.func195) (c:=qdi.body.getD .skip) (by kernel_rfl) (by kernel_rfl) (by kernel_rfl) fun e _=>⟨by simp [FU,bH,flat,strOf],by simp [bH,flat,strOf],by
 obtain⟨v,A',h,rfl⟩:=OL (A:=ee) (e:=e);exact⟨A',h⟩⟩
def TT (x:(Nat×Bool)×Nat):List Value:=[.agg ⟨[.int .u64 x.1.1,.bool x.1.2]⟩,.int .u64 x.2]
noncomputable def hAnd:=aJ (oF (fun x:(Nat×Bool)×Nat=>x.1.1+x.2<18446744073709551616) TT fun x=>.agg ⟨[.int .u64 (x.1.1+x.2:Nat),.bool x.1.2]⟩)
variable {m:Nat}
theorem MM {ih:Code→St→R (Ex×St)} {A:Mem} (h:n+m<18446744073709551616):bc b6 ih (.fn 211 [.int .u64 n,.int .u64 m,.int .u64 (0:Nat)]) A= .ok (.val (.tuple ⟨[.int .u64 (n+m:Nat),.int .u64 (0:Nat)]⟩) A):=by
 have e:bc b6 ih (.fn 211 [.int .u64 n,.int .u64 m,.int .u64 (0:Nat)]) A= .ok (.val (.tuple ⟨[.int .u64 ((n+m+0) % 18446744073709551616:Nat),.int .u64 ((n+m+0)/18446744073709551616:Nat)]⟩) A):=by kernel_rfl
 rw [e,Z8,qaG h,Nat.div_eq_of_lt h]
theorem JD:aV b6 257= .ok 2:=by kernel_rfl
theorem JV:bO b6 257= .ok (.agg ⟨[.int .u64 (0:Nat),.bool false]⟩):=by kernel_rfl
variable {b o:Nat}
theorem Nc:ak b6 257 (pw b o) 0= .ok (pw b o):=by kernel_rfl
theorem Nd:ak b6 257 (pw b o) 1= .ok (pw b (o+1)):=by kernel_rfl
theorem SW {x:Int} {f:Bool}:cu b6 257 [(0,.int .u64 x),(1,.bool f)]= .ok (.agg ⟨[.int .u64 x,.bool f]⟩):=by kernel_rfl
theorem RT {A:Mem} {f:Bool} (h:n+m<18446744073709551616):∃v A',bJ b6 179 [.agg ⟨[.int .u64 n,.bool f]⟩,.int .u64 m] A v A'∧v= .agg ⟨[.int .u64 (n+m:Nat),.bool f]⟩:=by
 have v1:=az A 257 [.int .u64 n,.bool f];generalize hB:A.alloc (aa 257 [.int .u64 n,.bool f])=B at v1;have v2:=az B 257 [.int .u64 (0:Nat),.bool false];have v1:=v1.kp (Kp.alloc B (aa 257 [.int .u64 (0:Nat),.bool false]));generalize hC:B.alloc (aa 257 [.int .u64 (0:Nat),.bool false])=C at v2 v1;have l1:ai b6 C.get 103 (pw A.next 0)= .ok (.int .u64 n):=v1.ld rfl h_ rfl;have l2:ai b6 C.get 4 (pw A.next (0+1))= .ok (.bool f):=v1.ld rfl LZ rfl;obtain⟨d,hd1,hd2⟩:=V_ (t:=257) (by kernel_rfl);have ka:=fun ih=>MM (ih:=ih) (A:=C) h
 obtain⟨E,sE,vE,-⟩:=bK (tb:=b6) (t:=257) (l':=[.int .u64 (n+m:Nat),.bool f]) (by exact JD) v2.2 rfl (by simp) (by simp [aH]);have lE:ai b6 E.get 257 (pw B.next 0)= .ok (.agg ⟨[.int .u64 (n+m:Nat),.bool f]⟩):=aI hd1 hd2 JD vE;refine⟨_,E,?_,rfl⟩;cases f
 all_goals
  refine aP (bB Tryz.func179) (c:=Tryz.f179.body.getD .skip) (by kernel_rfl) (by rw [Tryz.ntmps179];simp) (by kernel_rfl) (by kernel_rfl) ?_;apply W.run 60
  ·intro M;simp (config:={maxSteps:=4000000}) (disch:=first|decide+kernel|omega|simp only [Wq,Zf]) only [Tryz.f179,Aq,Zj,reduceIte,Zf,Zg,aj,JV,hB,hC,Nc,Nd,l1,l2,ka,SW,sE,lE,Zm,Zk];rfl
  exact⟨by simp,rfl,rfl,by simp only [Tryz.f179,Aq,Zj,reduceIte,Zf,Zg,aj,JV,hB,hC,Nc,Nd,l1,l2,ka,SW,sE,lE,Zm,Zk]<;>rfl⟩
theorem Nz:b7 b6.P 179 hAnd:=e_ eX (bB Tryz.func179) (c:=Tryz.f179.body.getD .skip) (by kernel_rfl) (by kernel_rfl) (by kernel_rfl) fun x hx=>⟨by simp [TT,flat],by simp [flat],by
 obtain⟨v,A',h,rfl⟩:=RT (A:=ee) (f:=x.1.2) hx;exact⟨A',h⟩⟩
def TU (n:Nat):List Value:=[.int .u64 n,.int .i64 (36:Nat)]
noncomputable def WJ:=aJ (oF (fun n:Nat=>n<18446744073709551616) TU fun n=>strOf (p9 n))
theorem NB:b7 b6.P 220 WJ:=e_ eX (bB Tryz.func220) (c:=Tryz.f220.body.getD .skip) (by kernel_rfl) (by kernel_rfl) (by kernel_rfl) fun n hn=>⟨by simp [TU,flat],by simp [flat,strOf],RX hn⟩
def eF (n:Nat):List UInt8:=[115,101,103,45,.ofNat (48+n)]
def m8:List UInt8:=[109,97,110,105,102,101,115,116]
def names:J0:=([.int .i64 1,.int .i64 0],strOf m8)::(qay 6).map fun n=>([.int .i64 4,.int .i64 (.ofNat (n+1))],strOf (eF (n+1)))
theorem Rt:I5 b6 100000 32 names=true:=by kernel_rfl
theorem Ru:I5 b6 100000 23 names=true:=by kernel_rfl
variable {f:FuncId} {fn:Func}
theorem AY {c:Code} (hf:b6.fn.get f=some fn) (hb:fn.body=some c) {l:J0} (h:I5 b6 n f l=true):b7 b6.P f (aJ (qn l)):=(Rr eX hf hb h).hk f _ (by simp only [bL.pY,T.aD];rfl)
theorem KC:b7 b6.P 32 (aJ (qn names)):=AY (bB Tryz.func32) (c:=Tryz.f32.body.getD .skip) (by kernel_rfl) Rt
theorem GK:b7 b6.P 23 (aJ (qn names)):=AY (bB Tryz.func23) (c:=Tryz.f23.body.getD .skip) (by kernel_rfl) Ru
noncomputable def jv:T (List Value→Mem→R (Value×Mem)):=((((((((((((((((b6.hk.set 160 WK).set 107 Uy).set 151 WO).set 104 IQ).set 196 YQ).set 63 WL).set 112 WM).set 181 Nw).set 103 WN).set 195 Ti).set 179 hAnd).set 220 WJ).set 32 (aJ (qn names))).set 23 (aJ (qn names))).set 61 (aJ crc.C5)).set 68 (aJ crc.Bg))
noncomputable def cq:bL:={b6 with hk:=jv}
theorem PG:cc cq:=bY (bY (bY (bY (bY (bY (bY (bY (bY (bY (bY (bY (bY (bY (bY (bY eX NC) Es) NI) Eu) Q') ND) NF) GO) NG) Kz) Nz) NB) KC) GK) crc.GM) crc.AZ
variable {k:Nat}
theorem gF (h:Z6.funcs[k]?=some fn):cq.fn.get k=some fn:=bB h
theorem Ny {h:List Value→Mem→R (Value×Mem)} (e:jv.get k=some h):cq.hk.get k=some h:=e
section
variable {ih:Code→St→R (Ex×St)} {A:Mem}
theorem WV {s:List UInt8} {a:Nat} (hs:s.length<1000000) (ha:a≤s.length):bc cq ih (.fn 160 [strOf s,.int .i64 a]) A= .ok (.val (wI (sM s a)) A):=
 eo (x:=(s,a)) (gF Tryz.func160) (by kernel_rfl) wZ (Ny (by simp only [jv,T.aD];rfl)) WR (show UY (s,a) from⟨hs,ha⟩)
theorem UL {s:List UInt8} (hs:s.length<900000):bc cq ih (.fn 68 [strOf s]) A= .ok (.val (.tuple ⟨[strOf (crc.fm s).1,.bool (crc.fm s).2]⟩) A):=
 bW (gF Tryz.func68) (by kernel_rfl) (c:=Tryz.f68.body.getD .skip) (by kernel_rfl) (Ny (by simp only [jv,T.aD];rfl)) (by
  have e:crc.Bg [strOf s]=some (.tuple ⟨[strOf (crc.fm s).1,.bool (crc.fm s).2]⟩):=if_pos hs;unfold aJ;rw [e])
end
end Go.Proofs.YtggndfefpbmaeaaGreatDoor.sto
namespace Go.Proofs.YtggndfefpbmaeaaGreatDoor.sto
open Go.Am Go.Sto
theorem I3 (n:Nat):∀{m i:Nat},i<m→(EI n m)[i]?=some (.ofNat (n>>>(8*i) % 256))
 |m+1,i,h=>by
  unfold EI;rcases ZS i m with h1|h1
  ·rw [ZU (by rw [jV];exact h1)];exact I3 n h1
  ·rw [ZN (by rw [jV];exact h1),jV,show i-m=0 by omega,show i=m by omega];rfl
variable {n:Nat}
theorem Em {s:List UInt8} {a:Nat}:∀{i:Nat},(∀j,j<i→s[a+1+j]?=some (.ofNat (n>>>(8*j) % 256)))→oK s a i=n % 2^(8*i)
 |0,_=>by simp [oK,Nat.mod_one]
 |i+1,h=>by
  unfold oK;rw [Em fun j hj=>h j (by omega)];have h1:s.getD (a+1+i) 0= .ofNat (n>>>(8*i) % 256):=by rw [qab,h i (by omega)];rfl
  rw [h1,qcn (show n>>>(8*i) % 256<256 by omega),Nat.or_comm,←Nat.shiftLeft_add_eq_or_of_lt (qav _ (qbM _)),qdw,qai,show 8*(i+1)=8*i+8 by omega,qds,show(2:Nat)^8=256 from rfl,Nat.mod_mul,Nat.mul_comm (n/2^(8*i) % 256),qck]
theorem eU (n:Nat) (hn:n<18446744073709551616):(bI n).length≤9:=by
 have:=sQ hn;rw [ES];unfold wJ;split<;>omega
theorem ET (n:Nat):0<(bI n).length:=by
 rw [ES];unfold wJ;split<;>omega
theorem ju {s r:List UInt8} {a:Nat} (hn:n<18446744073709551616) (h:s.drop a=bI n++r):sM s a=(n,a+(bI n).length,0)∧s.drop (a+(bI n).length)=r∧a+(bI n).length≤s.length:=by
 have hr:s.drop (a+(bI n).length)=r:=by rw [←qci,h,qdF]
 have hlen:s.length-a=(bI n).length+r.length:=by rw [←qak,h,Zo]
 have hg:∀j x,(bI n)[j]?=some x→s[a+j]?=some x:=fun j x hx=>by
  rw [←qaT,h,ZU (Zl.1 hx).1];exact hx
 have hpos:=ET n;refine⟨?_,hr,by omega⟩;unfold sM;rw [if_neg (by omega)];by_cases h248:n<248
 ·have e:bI n=[.ofNat n]:=by unfold bI;rw [if_pos h248]
  have h0:(s.getD a 0).toNat=n:=by
   rw [qab,show s[a]?=some (.ofNat n) from hg 0 (.ofNat n) (by rw [e];rfl)];exact qcn (show n<256 by omega)
  rw [h0,if_pos h248,e];rfl
 ·have e:bI n= .ofNat (247+cm n)::EI n (cm n):=by unfold bI;rw [if_neg h248]
  have hl:=sQ hn;have el:(bI n).length=1+cm n:=by rw [e,Zu,jV];omega
  have hb:gz n=n.log2+1:=by unfold gz;rw [if_neg (by omega)]
  have hlp:0<cm n:=by unfold cm;omega
  have h0:(s.getD a 0).toNat=247+cm n:=by
   rw [qab,show s[a]?=some (.ofNat (247+cm n)) from hg 0 _ (by rw [e];rfl)];exact qcn (show 247+cm n<256 by omega)
  have hlt:n<2^(8*cm n):=ZJ ((qdr (by omega)).1 (qa1 n.log2)) (qaq (by omega) (by unfold cm;omega));have hgs:oK s a (cm n)=n:=by
   rw [Em fun j hj=>?_,qaG hlt];rw [qa3];exact hg (1+j) _ (by rw [e,qck 1 j,Zk];exact I3 n hj)
  rw [h0,if_neg (by omega),show 247+cm n-247=cm n by omega,if_neg (by omega),hgs,if_pos (by unfold wJ;rw [if_neg h248]),el,qa3]
def ij (i:Nat) (a:cL):List UInt8:=a.byte::(bI a.out++bI (i-a.to))
def nu (s:a6):List UInt8:=if s.fin then bI (2*s.arcs.length+1)++bI s.out else bI (2*s.arcs.length)
def HK (i:Nat) (s:a6):List UInt8:=nu s++s.arcs.flatMap (ij i)
def iG:Nat→List a6→List UInt8
 |_,[]=>[]
 |i,s::M=>HK i s++iG (i+1) M
theorem BA:∀(M:List a6) (i:Nat) (s:a6),iG i (M++[s])=iG i M++HK (i+M.length) s
 | [],i,s=>by simp [iG]
 |x::M,i,s=>by
  rw [Z5,iG,BA M (i+1) s,iG,qah,Zu,show i+1+M.length=i+(M.length+1) by omega]
def ja (n:Nat) (M:List a6) (k:Nat):List UInt8:=[67,83,1]++(bI n++(bI M.length++(iG 0 M++bI k)))
def Lay (M:List a6):Prop:=∀(i:Nat) (s:a6),M[i]?=some s→s.arcs.length≤256∧(s.fin=false→s.out=0)∧s.out<18446744073709551616∧∀a∈s.arcs,a.to<i∧a.out<18446744073709551616
def b9 (a:cL):List Value:=[.int .u8 (a.byte.toNat:Nat),.int .u64 a.out,.int .i64 a.to]
def ki (A:Mem) (l:List cL) (x:Value):Prop:=∃b,aq A 172 3 b (l.map b9) x
variable {A A':Mem}
theorem ki.kp {l:List cL} {x:Value} (h:ki A l x) (k:Kp A A'):ki A' l x:=by
 obtain⟨b,h⟩:=h;exact⟨b,h.same k.1 (k.2 b)⟩
def cZ (x:Value) (s:a6):List Value:=[x,.bool s.fin,.int .u64 s.out]
variable {b:Nat}
theorem aq.di {e:TypeId} {ls:List (List Value)} {x:Value} (h:aq A e n b ls x):x.cells.toList=[x]∧aH x=true:=by
 rcases h with⟨rfl,-⟩|⟨k,c,rfl,-⟩<;>exact⟨rfl,rfl⟩
theorem aq.fU {e:TypeId} {ls:List (List Value)} {x:Value} (h:aq A e n b ls x) (h0:ls=[]→x= .slice none 0 0) (hn:A.next≤A'.next) (hg:ls≠ []→b<A.next→A'.get b=A.get b):aq A' e n b ls x:=by
 by_cases hl:ls=[]
 ·exact .inl ⟨h0 hl,hl⟩
 ·exact aq.same h hn (hg hl)
def dY (A:Mem) (M:List a6) (y:Value):Prop:=∃b rows,aq A 164 3 b rows y∧rows.length=M.length∧∀(i:Nat) (s:a6),M[i]?=some s→∃x,rows[i]?=some (cZ x s)∧ki A s.arcs x
variable {M:List a6} {y:Value}
theorem dY.kp (h:dY A M y) (k:Kp A A'):dY A' M y:=by
 obtain⟨b,rows,h1,h2,h3⟩:=h;refine⟨b,rows,h1.same k.1 (k.2 b),h2,fun i s hs=>?_⟩;obtain⟨x,e1,e2⟩:=h3 i s hs;exact⟨x,e1,e2.kp k⟩
theorem jN (t:T Value) (n:Nat):ev t (.func n)= .ok (.func (.func n) ⟨[]⟩ ⟨[]⟩):=rfl
theorem i3:cq.bp 3=some (.int .i64):=Dq
theorem i4:cq.bp 4=some .bool:=LZ
theorem i5:cq.bp 5=some (.int .u8):=mA
theorem i9:cq.bp 9=some .string:=o_
theorem i103:cq.bp 103=some (.int .u64):=h_
theorem Xg:aV cq 3= .ok 1:=by kernel_rfl
theorem DE {t:TypeId} {p:Bool} (h:(cq.bp t).map cH=some p):∃d,cq.bp t=some d∧cH d=p:=by
 cases hq:cq.bp t with
 |none=>rw [hq] at h;cases h
 |some d=>rw [hq] at h;exact⟨d,rfl,by simpa using h⟩
variable {v:Value}
theorem VB.lp {e t:TypeId} (h:VB A e b (.var 1) [v]) (ht:(cq.bp t).map cH=some false):ai cq A.get t (pw b 0)= .ok v:=by
 obtain⟨d,hd,ha⟩:=DE ht;exact h.ld rfl hd ha
theorem yc:ak cq 197 (pw b 0) 0= .ok (pw b 0):=by kernel_rfl
theorem mX:ak cq 197 (pw b 0) 1= .ok (pw b 1):=by kernel_rfl
def pV (b:Nat):Value:=.pointer (some ⟨b,0,none⟩)
def tK (A:Mem) (p:Nat) (s:List UInt8) (a:Nat):Prop:=VB A 197 p (.var 2) [strOf s,.int .i64 a]
variable {p:Nat}
theorem tK.kp {a:Nat} {s:List UInt8} (h:tK A p s a) (k:Kp A A'):tK A' p s a:=VB.kp h k
theorem tK.s {a:Nat} {s:List UInt8} (h:tK A p s a):ai cq A.get 9 (pw p 0)= .ok (strOf s):=h.ld rfl i9 rfl
theorem tK.a {a:Nat} {s:List UInt8} (h:tK A p s a):ai cq A.get 3 (pw p 1)= .ok (.int .i64 a):=h.ld rfl i3 rfl
theorem tK.go {a:Nat} {s:List UInt8} (h:tK A p s a):∃A',aT cq A 3 (pw p 1) (.int .i64 b)= .ok A'∧tK A' p s b∧A'.next=A.next∧∀z,z≠p→A'.get z=A.get z:=by
 obtain⟨A',h1,h2,h3,h4⟩:=aY (tb:=cq) (t:=3) (o:=1) (v:=.int .i64 b) Xg h.2 (by simp) rfl rfl;exact⟨A',h1,⟨by have:=h.1;omega,h2⟩,h3,h4⟩
def wU (p:Nat) (A A':Mem):Prop:=A.next≤A'.next∧∀z,z<A.next→z≠p→A'.get z=A.get z
theorem wU.refl (p:Nat) (A:Mem):wU p A A:=⟨Zn _,fun _ _ _=>rfl⟩
theorem Kp.x (p:Nat) (h:Kp A A'):wU p A A':=⟨h.1,fun z hz _=>h.2 z hz⟩
variable {B C:Mem}
theorem wU.trans (h:wU p A B) (k:wU p B C):wU p A C:=⟨ZV h.1 k.1,fun z hz hp=>by rw [k.2 z (by have:=h.1;omega) hp,h.2 z hz hp]⟩
theorem RN {q a:Nat} {s:List UInt8} (h:tK A p s a) (hq:VB A 195 q (.var 1) [pV p]) (hs:s.length<900000) (ha:a≤s.length):bJ cq 207 [pV q] A (wI (sM s a)) A:=by
 have l1:ai cq A.get 195 (pw q 0)= .ok (pV p):=hq.lp (by kernel_rfl);have l2:=h.s;have l3:=h.a;have kg:=fun ih=>WV (ih:=ih) (A:=A) (show s.length<1000000 by omega) ha
 refine aP (gF Tryz.func207) (c:=Tryz.f207.body.getD .skip) (by kernel_rfl) (by rw [Tryz.ntmps207];simp) (by kernel_rfl) (by kernel_rfl) ?_;apply W.run 60
 ·intro M;simp (config:={maxSteps:=4000000}) (disch:=first|decide+kernel|omega|simp only [Wq,Zf]) only [Tryz.f207,Aq,Zj,reduceIte,Zf,Zg,pV,l1,l2,l3,aA,aX,yc,mX,kg,wI,Zm,Zk,Fq,au []];rfl
 exact⟨by simp,rfl,rfl,by simp only [Tryz.f207,Aq,Zj,reduceIte,Zf,Zg,pV,l1,l2,l3,aA,aX,yc,mX,kg,wI,Zm,Zk,Fq,au []]<;>rfl⟩
variable {r:Nat}
theorem RO {q lo hi:Nat} (hq:VB A 103 q (.var 1) [.int .u64 lo]) (hr:VB A 103 r (.var 1) [.int .u64 hi]) (h:lo≤n∧n≤hi):bJ cq 208 [.int .u64 n,pV q,pV r] A (.int .i64 (0:Nat)) A:=by
 have l1:ai cq A.get 103 (pw q 0)= .ok (.int .u64 lo):=hq.ld rfl i103 rfl;have l2:ai cq A.get 103 (pw r 0)= .ok (.int .u64 hi):=hr.ld rfl i103 rfl;have e1:¬n<lo:=by omega
 have e2:¬hi<n:=by omega
 refine aP (gF Tryz.func208) (c:=Tryz.f208.body.getD .skip) (by kernel_rfl) (by rw [Tryz.ntmps208];simp) (by kernel_rfl) (by kernel_rfl) ?_;apply W.run 60
 ·intro M;simp (config:={maxSteps:=4000000}) (disch:=first|decide+kernel|omega|simp only [Wq,Zf]) only [Tryz.f208,Aq,Zj,reduceIte,Zf,Zg,pV,l1,l2,bT,bA,e1,e2];rfl
 exact⟨by simp,rfl,rfl,by simp only [Tryz.f208,Aq,Zj,reduceIte,Zf,Zg,pV,l1,l2,bT,bA,e1,e2]<;>rfl⟩
theorem j6 {a lo hi:Nat} {s r:List UInt8} (h:tK A p s a) (hs:s.length<900000) (hn:n<18446744073709551616) (hd:s.drop a=bI n++r) (hr:lo≤n∧n≤hi):
 ∃v A',bJ cq 166 [pV p,.int .u64 lo,.int .u64 hi] A v A'∧v= .int .u64 n∧tK A' p s (a+(bI n).length)∧wU p A A':=by
 obtain⟨hg,-,hle⟩:=ju hn hd;have ha:a≤s.length:=by omega
 have kB:=Kp.alloc A (aa 195 [pV p]);have v1:=az A 195 [pV p];generalize hB:A.alloc (aa 195 [pV p])=B at kB v1;have kC:=Kp.alloc B (aa 103 [.int .u64 lo]);have v2:=az B 103 [.int .u64 lo];generalize hC:B.alloc (aa 103 [.int .u64 lo])=C at kC v2;have kD:=Kp.alloc C (aa 103 [.int .u64 hi]);have v3:=az C 103 [.int .u64 hi];generalize hD:C.alloc (aa 103 [.int .u64 hi])=D at kD v3;have v1:=v1.kp (kC.trans kD);have v2:=v2.kp kD;have kAD:=kB.trans (kC.trans kD);have hD':=h.kp kAD;obtain⟨g1,h1⟩:=RN hD' v1 hs ha;obtain⟨g2,h2⟩:=RO v2 v3 hr;rw [hg] at h1;have l1:ai cq D.get 195 (pw A.next 0)= .ok (pV p):=v1.lp (by kernel_rfl);obtain⟨E,sE,rE,nE,fE⟩:=hD'.go (b:=a+(bI n).length);have h206:bJ cq 206 [pV p,.func (.func 207) ⟨[]⟩ ⟨[pV A.next]⟩,.func (.func 208) ⟨[]⟩ ⟨[pV B.next,pV C.next]⟩] D (.int .u64 n) E:=by
  simp only [pV,wI] at*;refine aP (gF Tryz.func206) (c:=Tryz.f206.body.getD .skip) (by kernel_rfl) (by rw [Tryz.ntmps206];simp) (by kernel_rfl) (by kernel_rfl) ?_;apply W.bf (g1+g2) 60
  ·intro M hM;simp (config:={maxSteps:=4000000}) (disch:=first|decide+kernel|omega|simp only [Wq,Zf]) only [Tryz.f206,Aq,Zj,reduceIte,Zf,Zg,h1,h2,Zm,Zk,aA,aX,mX,sE];rfl
  exact⟨by simp,rfl,rfl,by simp only [Tryz.f206,Aq,Zj,reduceIte,Zf,Zg,h1,h2,Zm,Zk,aA,aX,mX,sE]<;>rfl⟩
 obtain⟨g3,h3⟩:=h206;refine⟨_,E,?_,rfl,rE,(kAD.x p).trans ⟨by omega,fun z _ hz=>fE z hz⟩⟩;simp only [pV] at*;refine aP (gF Tryz.func166) (c:=Tryz.f166.body.getD .skip) (by kernel_rfl) (by rw [Tryz.ntmps166];simp) (by kernel_rfl) (by kernel_rfl) ?_;apply W.bf (g3) 60
 ·intro M hM;simp (disch:=omega) only [Tryz.f166,Aq,Zf,dx,hB,hC,hD,l1,h3,aM];rfl
 exact⟨by simp,rfl,rfl,by simp only [Tryz.f166,Aq,Zf,dx,hB,hC,hD,l1,h3,aM]<;>rfl⟩
theorem RM {q a:Nat} {c:UInt8} {s r:List UInt8} (h:tK A p s a) (hq:VB A 195 q (.var 1) [pV p]) (hs:s.length<900000) (hd:s.drop a=c::r):bJ cq 205 [pV q] A (.tuple ⟨[.int .u8 (c.toNat:Nat),.int .i64 (a+1:Nat),.int .i64 (0:Nat)]⟩) A:=by
 have hlt:a<s.length:=by
  rcases ZS a s.length with h|h
  ·exact h
  ·rw [qcV.2 h] at hd;cases hd
 have hc:s.getD a 0=c:=by
  have:s[a]?=some c:=by rw [←Z8 a,←qaT,hd];rfl
  rw [qab,this];rfl
 have l1:ai cq A.get 195 (pw q 0)= .ok (pV p):=hq.lp (by kernel_rfl);have l2:=h.s;have l3:=h.a;have hl:=cd (tb:=cq) (t:=9) (l:=s) i9;have hx:=eg (tb:=cq) (t:=9) (kd:=.i64) i9 hlt;rw [hc] at hx;have hne:¬a=s.length:=by omega
 have a1:aK .add .i64 ((a:Nat):Int) ((1:Nat):Int)= .ok (.int .i64 (a+1:Nat)):=a8 (aR (by omega));refine aP (gF Tryz.func205) (c:=Tryz.f205.body.getD .skip) (by kernel_rfl) (by rw [Tryz.ntmps205];simp) (by kernel_rfl) (by kernel_rfl) ?_;apply W.run 60
 ·intro M;simp (config:={maxSteps:=4000000}) (disch:=first|decide+kernel|omega|simp only [Wq,Zf]) only [Tryz.f205,Aq,Zj,reduceIte,Zf,Zg,pV,l1,l2,l3,aA,aX,yc,mX,hl,hx,hne,a1,Fq,au []];rfl
 exact⟨by simp,rfl,rfl,by simp only [Tryz.f205,Aq,Zj,reduceIte,Zf,Zg,pV,l1,l2,l3,aA,aX,yc,mX,hl,hx,hne,a1,Fq,au []]<;>rfl⟩
theorem E_ {a f:Nat} {y:List Value} {c:UInt8} {s r:List UInt8} (h:tK A p s a) (hs:s.length<900000) (hd:s.drop a=c::r) (hf:∀B,Kp A B→bJ cq f (.int .u8 (c.toNat:Nat)::y) B (.int .i64 (0:Nat)) B):
 ∃v A',bJ cq 164 [pV p,.func (.func f) ⟨[]⟩ ⟨y⟩] A v A'∧v= .int .u8 (c.toNat:Nat)∧tK A' p s (a+1)∧wU p A A':=by
 have kB:=Kp.alloc A (aa 195 [pV p]);have v1:=az A 195 [pV p];generalize hB:A.alloc (aa 195 [pV p])=B at kB v1;have hB':=h.kp kB;obtain⟨g1,h1⟩:=RM hB' v1 hs hd;obtain⟨g2,h2⟩:=hf B kB;have l1:ai cq B.get 195 (pw A.next 0)= .ok (pV p):=v1.lp (by kernel_rfl);obtain⟨E,sE,rE,nE,fE⟩:=hB'.go (b:=a+1);have h204:bJ cq 204 [pV p,.func (.func 205) ⟨[]⟩ ⟨[pV A.next]⟩,.func (.func f) ⟨[]⟩ ⟨y⟩] B (.int .u8 (c.toNat:Nat)) E:=by
  simp only [pV] at*;refine aP (gF Tryz.func204) (c:=Tryz.f204.body.getD .skip) (by kernel_rfl) (by rw [Tryz.ntmps204];simp) (by kernel_rfl) (by kernel_rfl) ?_;apply W.bf (g1+g2) 60
  ·intro M hM;simp (config:={maxSteps:=4000000}) (disch:=first|decide+kernel|omega|simp only [Wq,Zf]) only [Tryz.f204,Aq,Zj,reduceIte,Zf,Zg,h1,h2,Zm,Zk,aA,aX,mX,sE];rfl
  exact⟨by simp,rfl,rfl,by simp only [Tryz.f204,Aq,Zj,reduceIte,Zf,Zg,h1,h2,Zm,Zk,aA,aX,mX,sE]<;>rfl⟩
 obtain⟨g3,h3⟩:=h204;refine⟨_,E,?_,rfl,rE,(kB.x p).trans ⟨by omega,fun z _ hz=>fE z hz⟩⟩;simp only [pV] at*;refine aP (gF Tryz.func164) (c:=Tryz.f164.body.getD .skip) (by kernel_rfl) (by rw [Tryz.ntmps164];simp) (by kernel_rfl) (by kernel_rfl) ?_;apply W.bf (g3) 60
 ·intro M hM;simp (disch:=omega) only [Tryz.f164,Aq,Zf,dx,hB,l1,h3,aM];rfl
 exact⟨by simp,rfl,rfl,by simp only [Tryz.f164,Aq,Zf,dx,hB,l1,h3,aM]<;>rfl⟩
theorem RP {c:UInt8}:bJ cq 209 [.int .u8 (c.toNat:Nat)] A (.int .i64 (0:Nat)) A:=by
 refine aP (gF Tryz.func209) (c:=Tryz.f209.body.getD .skip) (by kernel_rfl) (by rw [Tryz.ntmps209];simp) (by kernel_rfl) (by kernel_rfl) ?_;apply W.run 60
 ·intro M;simp (disch:=omega) only [Tryz.f209,Aq,Zf];rfl
 exact⟨by simp,rfl,rfl,by simp only [Tryz.f209,Aq,Zf]<;>rfl⟩
variable {i:Nat}
theorem RK {q:Nat} {c:UInt8} (hq:VB A 3 q (.var 1) [.int .i64 i]) (hi:i<3) (hc: [67,83,1][i]?=some c):bJ cq 165 [.int .u8 (c.toNat:Nat),pV q] A (.int .i64 (0:Nat)) A:=by
 have l1:ai cq A.get 3 (pw q 0)= .ok (.int .i64 i):=hq.ld rfl i3 rfl;have hx:=eg (tb:=cq) (t:=9) (kd:=.i64) (l:=[67,83,1]) i9 (i:=i) hi;have e:([67,83,1]:List UInt8).getD i 0=c:=by rw [qab,hc];rfl
 rw [e] at hx;refine aP (gF Tryz.func165) (c:=Tryz.f165.body.getD .skip) (by kernel_rfl) (by rw [Tryz.ntmps165];simp) (by kernel_rfl) (by kernel_rfl) ?_;apply W.run 60
 ·intro M;simp (disch:=decide+kernel) only [Tryz.f165,Aq,Zf,pV,l1,hx];rfl
 exact⟨by simp,rfl,rfl,by simp only [Tryz.f165,Aq,Zf,pV,l1,hx]<;>rfl⟩
end Go.Proofs.YtggndfefpbmaeaaGreatDoor.sto
namespace Go.Am
variable {tb:bL} {n:Nat}
theorem W.to {c:Code} {s:St} {K:Ex→St→Prop} (P:T Value→Mem→Prop) (h:W tb c s fun e s'=>e= .nrm∧∃t D,s'=⟨t,n,[],D,none⟩∧P t D) (k:∀t D,P t D→K .nrm ⟨t,n,[],D,none⟩):W tb c s K:=h.mono fun e s' hs=>by
 obtain⟨rfl,t,D,rfl,hp⟩:=hs;exact k t D hp
end Go.Am
namespace Go.Proofs.YtggndfefpbmaeaaGreatDoor.sto
open Go.Am Go.Sto
theorem NS:cq.bp 162=some (.slice 172):=by kernel_rfl
theorem Tm:aV cq 172= .ok 3:=by kernel_rfl
theorem UK:cg cq 172= .ok (3,[.int .u8 0,.int .u64 0,.int .i64 0]):=by kernel_rfl
theorem NX:bO cq 172= .ok (.agg ⟨[.int .u8 (0:Nat),.int .u64 (0:Nat),.int .i64 (0:Nat)]⟩):=by kernel_rfl
theorem NW:bO cq 164= .ok (.agg ⟨[.slice none 0 0,.bool false,.int .u64 (0:Nat)]⟩):=by kernel_rfl
theorem NU:aV cq 164= .ok 3:=by kernel_rfl
theorem WU:aV cq 162= .ok 1:=by kernel_rfl
theorem NQ:aV cq 103= .ok 1:=by kernel_rfl
theorem Y2:aV cq 4= .ok 1:=by kernel_rfl
variable {b o:Nat}
theorem Rc:ak cq 164 (pw b o) 0= .ok (pw b o):=by kernel_rfl
theorem xg:ak cq 164 (pw b o) 1= .ok (pw b (o+1)):=by kernel_rfl
theorem Re:ak cq 164 (pw b o) 2= .ok (pw b (o+2)):=by kernel_rfl
theorem Rf:ak cq 172 (pw b o) 1= .ok (pw b (o+1)):=by kernel_rfl
theorem Rg:ak cq 172 (pw b o) 2= .ok (pw b (o+2)):=by kernel_rfl
theorem Uz {a:Int}:cu cq 172 [(0,.int .u8 a)]= .ok (.agg ⟨[.int .u8 a,.int .u64 (0:Nat),.int .i64 (0:Nat)]⟩):=by kernel_rfl
theorem UC {a o n:Int}:a9 cq 162 1 [(0,.agg ⟨[.int .u8 a,.int .u64 o,.int .i64 n]⟩)]= .ok (aa 172 [.int .u8 a,.int .u64 o,.int .i64 n],.nO 1 2):=by kernel_rfl
theorem UI:∃i,cq.ty.get 172=some i∧0<i.bytes∧i.bytes≤65536:=by
 have h:(cq.ty.get 172).map (fun i=>Zt 0 i.bytes&&Zj i.bytes 65536)=some true:=by kernel_rfl
 cases hq:cq.ty.get 172 with
 |none=>rw [hq] at h;cases h
 |some i=>
  rw [hq] at h;simp only [Z1,ZQ,ZF,ZB] at h;exact⟨i,rfl,h.1,ZP h.2⟩
theorem H8 (a:cL):∀v∈b9 a,aH v=true:=by
 intro v hv;simp only [b9,ZC,Z0,or_false] at hv;rcases hv with rfl|rfl|rfl<;>rfl
variable {c:Nat} {y:Value}
theorem NJ {D:Mem} {l:List cL} {a:cL} (h:aq D 172 3 c (l.map b9) y) (hl:l.length<1000000):
 ∃y' D',ba cq (D.alloc (aa 172 (b9 a))) 162 162 y (.slice (some ⟨D.next,0,none⟩) 1 2)= .ok (y',D')∧aq D' 172 3 (D.next+1) ((l++[a]).map b9) y'∧D'.next=D.next+2∧∀z,(z=c→y= .slice none 0 0)→z<D.next→D'.get z=D.get z:=by
 obtain⟨i,t1,t2,t3⟩:=UI;have h':aq (D.alloc (aa 172 (b9 a))) 172 3 c (l.map b9) y:=h.same (by rw [ae];omega) fun hh=>aB (by omega)
 obtain⟨x',D',h1,h2,h3,h4⟩:=aq.append (tb:=cq) (st:=162) (xt:=162) h' NS NS UK t1 t2 t3 (by omega) (by omega) (by rw [Zp];omega) (ay D _) rfl (H8 a);rw [ae] at h2 h3 h4;exact⟨x',D',h1,by rw [Z3];exact h2,by omega,fun z hz hzn=>by rw [h4 z hz (by omega),aB (by omega)]⟩
variable {A:Mem} {n:Nat}
theorem zw {e:TypeId} {ls:List (List Value)} {x:Value} (h:aq A e n b ls x) (h0:ls≠ []):b<A.next:=by
 rcases h with⟨-,h⟩|⟨_,_,_,h,_⟩
 ·exact absurd h h0
 ·exact h
noncomputable def mP:Code:=qbE.body.getD .skip
noncomputable def Ca:Code:=sub mP [1,1,1,0,1,0,0]
theorem Qx:qbE.body=some (.seq (sub mP [0]) (.seq (sub mP [1,0]) (.seq (.seq (sub mP [1,1,0,0]) (sub mP [1,1,0,1])) (.seq (.seq (sub mP [1,1,1,0,0]) (.block 0 (.loop Ca))) (.seq (sub mP [1,1,1,1,0]) (sub mP [1,1,1,1,1])))))):=by kernel_rfl
def P' (p q i:Nat) (st:a6) (s r:List UInt8) (k:Nat) (D:Mem):Prop:=∃a c x,tK D p s a∧s.drop a=(st.arcs.drop k).flatMap (ij i)++r∧a+((st.arcs.drop k).flatMap (ij i)).length+r.length=s.length∧VB D 164 q (.var 3) (cZ x ⟨st.fin,st.out,[]⟩)∧
 aq D 172 3 c ((st.arcs.take k).map b9) x∧(k=0→x= .slice none 0 0)∧(k≠0→q<c)
variable {w:List UInt8}
theorem TW {s r:List UInt8} {a:Nat} (h:s.drop a=w++r) (hw:a≤s.length):a+w.length+r.length=s.length:=by
 have:=congrArg qaR h;rw [qak,Zo] at this;omega
variable {p i k:Nat} {t:T Value}
theorem J7 {q:Nat} {st:a6} {s r:List UInt8} {D:Mem} (hs:s.length<900000) (hpq:p<q) (hi:i<1000000) (hl:st.arcs.length≤256) (ha:∀x∈st.arcs,x.to<i∧x.out<18446744073709551616) (hk:k<st.arcs.length) (h:P' p q i st s r k D)
 (hsl:Sl t [(0,pV p),(1,.int .u64 i),(4,pV q),(19,.int .u64 (st.arcs.length:Nat)),(20,.int .u64 k)]):
 W cq Ca ⟨t,43,[],D,none⟩ fun e s'=>e= .nrm∧∃t' D',s'=⟨t',43,[],D',none⟩∧P' p q i st s r (k+1) D'∧(D.next≤D'.next∧∀z,z<q→z≠p→D'.get z=D.get z)∧Sl t' [(0,pV p),(1,.int .u64 i),(4,pV q),(19,.int .u64 (st.arcs.length:Nat)),(20,.int .u64 (k+1:Nat))]:=by
 obtain⟨a,c,x,hR,hd,hae,hV,hS,hx0,hc⟩:=h;obtain⟨g0,g1,g4,g19,g20,-⟩:=hsl;have hmem:=ZO hk;obtain⟨ht,ho⟩:=ha _ hmem;have hdk:st.arcs.drop k=st.arcs[k]::st.arcs.drop (k+1):=qad hk;rw [hdk,qaa] at hd hae;have htk:st.arcs.take (k+1)=st.arcs.take k++[st.arcs[k]]:=Zs hk;generalize st.arcs[k]=ar at*;generalize hw:(st.arcs.drop (k+1)).flatMap (ij i)=w at*;have hcD:k≠0→c<D.next:=fun h0=>zw hS (by
  intro hn;have:=congrArg qaR hn;rw [Zp,ZD,ZG] at this;omega)
 have hd1:s.drop a=ar.byte::(bI ar.out++(bI (i-ar.to)++(w++r))):=by rw [hd];simp [ij]
 obtain⟨v1,E1,⟨e1,h1⟩,rfl,R1,K1⟩:=E_ (f:=209) (y:=[]) hR hs hd1 fun B _=>RP
 have hd2:s.drop (a+1)=bI ar.out++(bI (i-ar.to)++(w++r)):=by rw [←qci,hd1];rfl
 have kF:=Kp.alloc E1 (aa 172 [.int .u8 (ar.byte.toNat:Nat),.int .u64 (0:Nat),.int .i64 (0:Nat)]);have v2:=az E1 172 [.int .u8 (ar.byte.toNat:Nat),.int .u64 (0:Nat),.int .i64 (0:Nat)];have sF:aT cq (E1.alloc (aa 172 [.int .u8 (0:Nat),.int .u64 (0:Nat),.int .i64 (0:Nat)])) 172 (pw E1.next 0) (.agg ⟨[.int .u8 (ar.byte.toNat:Nat),.int .u64 (0:Nat),.int .i64 (0:Nat)]⟩)= .ok (E1.alloc (aa 172 [.int .u8 (ar.byte.toNat:Nat),.int .u64 (0:Nat),.int .i64 (0:Nat)])):=a_ Tm rfl rfl (by simp) (by simp [aH]);have nF:(E1.alloc (aa 172 [.int .u8 (ar.byte.toNat:Nat),.int .u64 (0:Nat),.int .i64 (0:Nat)])).next=E1.next+1:=ae _ _
 have R2:=R1.kp kF;generalize E1.alloc (aa 172 [.int .u8 (ar.byte.toNat:Nat),.int .u64 (0:Nat),.int .i64 (0:Nat)])=F at kF v2 sF nF R2;obtain⟨v3,E2,⟨e2,h2⟩,rfl,R3,K2⟩:=j6 (lo:=0) (hi:=18446744073709551615) R2 hs ho hd2 ⟨Zv _,by omega⟩;obtain⟨-,hd3,-⟩:=ju ho hd2;have hpD:p<D.next:=hR.1
 have n1:=K1.1;have n2:=K2.1;obtain⟨G,sG,vG,nG,fG⟩:=aY (tb:=cq) (t:=103) (o:=1) (v:=.int .u64 ar.out) NQ (v2.2.same (K2.2 _ (by omega) (by omega))) (by simp) rfl rfl;have R4:tK G p s (a+1+(bI ar.out).length):=⟨by rw [nG];exact R3.1,R3.2.same (fG p (by omega))⟩;obtain⟨v4,E3,⟨e3,h3⟩,rfl,R5,K3⟩:=j6 (n:=i-ar.to) (lo:=1) (hi:=i) R4 hs (by omega) hd3 ⟨by omega,by omega⟩;obtain⟨-,hd4,hle⟩:=ju (show i-ar.to<18446744073709551616 by omega) hd3;have n3:=K3.1;have su:aK .sub .u64 ((i:Nat):Int) ((i-ar.to:Nat):Int)= .ok (.int .u64 (ar.to:Nat)):=by rw [bm (by omega) (cJ (by omega)),show i-(i-ar.to)=ar.to by omega]
 have cv:=bx (tb:=cq) (s:=103) (d:=3) (k:=.u64) (n:=ar.to) (by rw [i103];rfl) i3 (aR (by omega));obtain⟨H,sH,vH,nH,fH⟩:=aY (tb:=cq) (t:=3) (o:=2) (v:=.int .i64 ar.to) Xg (vG.same (K3.2 _ (by omega) (by omega))) (by simp) rfl rfl;have lw:ai cq H.get 172 (pw E1.next 0)= .ok (.agg ⟨b9 ar⟩):=by
  obtain⟨d,hd1,hd2⟩:=DE (t:=172) (p:=true) (by kernel_rfl);exact aI hd1 hd2 Tm vH
 have eJ:∀z,z<D.next→z≠p→H.get z=D.get z:=fun z hz hp=>by
  rw [fH z (by omega),K3.2 z (by omega) hp,fG z (by omega),K2.2 z (by omega) hp,kF.2 z (by omega),K1.2 z hz hp]
 have hqD:=hV.1;have VH:dj H 164 q (.var 3) (cZ x ⟨st.fin,st.out,[]⟩):=hV.2.same (eJ q hqD (by omega));have lx:ai cq H.get 162 (pw q 0)= .ok x:=VB.ld (tb:=cq) ⟨by omega,VH⟩ rfl NS rfl;have SH:aq H 172 3 c ((st.arcs.take k).map b9) x:=aq.fU hS (fun h=>hx0 (by
  have:=congrArg qaR h;rw [Zp,ZD,ZG] at this;omega)) (by omega) fun hne hlt=>eJ c hlt (by
   have:k≠0:=fun h=>hne (by rw [h];rfl)
   have:=hc this;omega)
 obtain⟨y',J,happ,hs3,hn3,hf3⟩:=NJ (a:=ar) SH (by rw [ZD];omega);have happ':ba cq (H.alloc (aa 172 [.int .u8 (ar.byte.toNat:Nat),.int .u64 ar.out,.int .i64 ar.to])) 162 162 x (.slice (some ⟨H.next,0,none⟩) 1 2)= .ok (y',J):=happ;have hqc:q=c→x= .slice none 0 0:=fun e=>qa7 (fun h0:k=0=>hx0 h0) fun h0=>by have:=hc h0;omega
 obtain⟨L,sL,vL,nL,fL⟩:=aY (tb:=cq) (t:=162) (o:=0) (v:=y') WU (VH.same (hf3 q hqc (by omega))) (by simp [cZ]) (aq.di hs3).1 (aq.di hs3).2;have RL:tK L p s (a+1+(bI ar.out).length+(bI (i-ar.to)).length):=⟨by have:=R5.1;omega,R5.2.same (by
  have hp5:=R5.1;rw [fL p (by omega),hf3 p (fun e=>qa7 (fun h0:k=0=>hx0 h0) fun h0=>by have:=hc h0;omega) (by omega),fH p (by omega)])⟩
 have a1:aK .add .u64 ((k:Nat):Int) ((1:Nat):Int)= .ok (.int .u64 (k+1:Nat)):=a8 (cJ (by omega));have lk:aK .lss .u64 ((k:Nat):Int) ((st.arcs.length:Nat):Int)= .ok (.bool true):=by rw [CV];simp [hk]
 simp only [pV] at*;apply W.bf (e1+e2+e3) 20
 ·intro M hM;simp (disch:=first|decide+kernel|omega) only [Ca,mP,qbE,Aq,Zf,jN,g0,g1,g4,g19,g20,lk,h1,Uz,NX,aj,sF,h2,Rf,Rg,sG,h3,su,cv,sH,Rc,lx,lw,b9,UC,happ',sL,a1];rfl
 refine⟨rfl,_,L,rfl,⟨_,H.next+1,y',RL,by rw [hw];exact hd4,by rw [hw];simp only [ij,Zu,Zo] at hae;omega,⟨by omega,vL⟩,?_,fun h=>by omega,fun _=>?_⟩,⟨by omega,fun z hz hp=>?_⟩,?_⟩
 ·rw [htk];exact hs3.same (by omega) fun h=>fL _ (by omega)
 ·omega
 ·rw [fL z (by omega),hf3 z (fun e=>qa7 (fun h0:k=0=>hx0 h0) fun h0=>by have:=hc h0;omega) (by omega),eJ z (by omega) hp]
 ·simp only [Sq,Zf,Zg,g0,g1,g4,g19]
theorem yq (st:a6):nu st=bI (2*st.arcs.length+(if st.fin then 1 else 0))++(if st.fin then bI st.out else []):=by
 unfold nu;cases st.fin<;>simp
theorem Hv {a:Nat} {s r:List UInt8} {st:a6} (h:tK A p s a) (hs:s.length<900000) (hi:i<1000000) (hl:st.arcs.length≤256) (hf:st.fin=false→st.out=0) (ho:st.out<18446744073709551616) (ha:∀x∈st.arcs,x.to<i∧x.out<18446744073709551616) (hd:s.drop a=HK i st++r):
 ∃v A',bJ cq 167 [pV p,.int .u64 i] A v A'∧tK A' p s (a+(HK i st).length)∧wU p A A'∧∃x c,v= .agg ⟨cZ x st⟩∧aq A' 172 3 c (st.arcs.map b9) x∧(st.arcs=[]→x= .slice none 0 0)∧(st.arcs≠ []→A.next<c):=by
 refine cM (gF Tryz.func167) Qx (by rw [Tryz.ntmps167];simp) (by kernel_rfl) (by kernel_rfl) ?_;have hae:a≤s.length:=by
  rcases ZS s.length a with h|h
  ·rw [qcV.2 (by omega)] at hd;have:=congrArg qaR hd;have h1:=ET (2*st.arcs.length+(if st.fin then 1 else 0));unfold HK at this;rw [yq] at this;simp only [ZG,Zo] at this;omega
  ·exact h
 have hend:=TW hd hae;have kB:=Kp.alloc A (aa 164 [.slice none 0 0,.bool false,.int .u64 (0:Nat)]);have vB:=az A 164 [.slice none 0 0,.bool false,.int .u64 (0:Nat)];apply W.seq;apply W.run 20
 ·intro M;simp (disch:=omega) only [mP,qbE,Aq,Zf,NW,aj];rfl
 show W cq _ _ _;have RB:=h.kp kB;generalize A.alloc (aa 164 [.slice none 0 0,.bool false,.int .u64 (0:Nat)])=B at kB vB RB;have hpA:=h.1;have hd0:s.drop a=bI (2*st.arcs.length+(if st.fin then 1 else 0))++((if st.fin then bI st.out else [])++(st.arcs.flatMap (ij i)++r)):=by rw [hd,HK,yq];simp
 have hn:2*st.arcs.length+(if st.fin then 1 else 0)≤513:=by split<;>omega
 obtain⟨v1,C,⟨e1,h1⟩,rfl,R1,K1⟩:=j6 (lo:=0) (hi:=513) RB hs (by omega) hd0 ⟨Zv _,hn⟩;obtain⟨-,hd1,-⟩:=ju (show 2*st.arcs.length+(if st.fin then 1 else 0)<18446744073709551616 by omega) hd0;have hstl:(HK i st).length=(bI (2*st.arcs.length+(if st.fin then 1 else 0))).length+(if st.fin then bI st.out else []).length+(st.arcs.flatMap (ij i)).length:=by rw [HK,yq];simp [qa3]
 have b1:=vB.1;have k1:=K1.1;have kb:=kB.1;have hrem:aK .rem .u64 ((2*st.arcs.length+(if st.fin then 1 else 0):Nat):Int) ((2:Nat):Int)= .ok (.int .u64 (if st.fin then 1 else 0:Nat)):=by
  have e:(2*st.arcs.length+(if st.fin then 1 else 0)) % 2=(if st.fin then 1 else 0):=by split<;>omega
  rw [uK (by omega),e]
 have hquo:aK .quo .u64 ((2*st.arcs.length+(if st.fin then 1 else 0):Nat):Int) ((2:Nat):Int)= .ok (.int .u64 (st.arcs.length:Nat)):=by
  rw [nd (by omega) (by omega)];congr 3;split<;>omega
 generalize hN:2*st.arcs.length+(if st.fin then 1 else 0)=N at*;obtain⟨E,sE,vE,nE,fE⟩:=aY (tb:=cq) (t:=4) (o:=1) (v:=.bool st.fin) Y2 (vB.2.same (K1.2 _ b1 (by omega))) (by simp) rfl rfl;have R2:tK E p s (a+(bI N).length):=⟨by have:=R1.1;omega,R1.2.same (fE p (by omega))⟩;have lf:ai cq E.get 4 (.pointer (some ⟨A.next,0+1,none⟩))= .ok (.bool st.fin):=VB.ld (tb:=cq) ⟨by omega,vE⟩ rfl i4 rfl;have kE:wU p A E:=⟨by omega,fun z hz hp=>by rw [fE z (by omega),K1.2 z (by omega) hp,kB.2 z hz]⟩;apply W.seq;simp only [pV] at*;apply W.bf (e1) 20
 ·intro M hM;simp (disch:=omega) only [mP,qbE,Aq,Zf,h1];rfl
 show W cq _ _ _;apply W.seq;refine W.to (n:=43) (fun t D=>P' p A.next i st s r 0 D∧wU p A D∧Sl t [(0,pV p),(1,.int .u64 i),(4,pV A.next),(5,.int .u64 N)]) ?_ ?_
 ·cases hfin:st.fin with
  |false=>
   rw [hfin] at hrem lf hd1 vE sE;apply W.seq;apply W.run 20
   ·intro M;simp (disch:=decide+kernel) only [mP,qbE,Aq,Zf,hrem,xg,sE];rfl
   show W cq _ _ _;apply W.run 20
   ·intro M;simp (disch:=omega) only [mP,qbE,Aq,Zf,xg,lf];rfl
   refine⟨rfl,_,E,rfl,⟨_,A.next,.slice none 0 0,R2,by simpa using hd1,?_,?_,aq.nil _ _ _ _,fun _=>rfl,fun h=>absurd rfl h⟩,kE,?_⟩
   ·rw [hfin] at hstl;simp at hstl;simp;omega
   ·refine⟨by omega,?_⟩;rw [hf hfin];simpa [cZ,hfin] using vE
   ·simp only [Sq,Zf,Zg,pV]
  |true=>
   rw [hfin] at hrem lf hd1 vE sE;have hd1':s.drop (a+(bI N).length)=bI st.out++(st.arcs.flatMap (ij i)++r):=by simpa using hd1
   obtain⟨v3,E2,⟨e2,h2⟩,rfl,R3,K2⟩:=j6 (lo:=0) (hi:=18446744073709551615) R2 hs ho hd1' ⟨Zv _,by omega⟩;obtain⟨-,hd3,-⟩:=ju ho hd1';have k2:=K2.1;obtain⟨G,sG,vG,nG,fG⟩:=aY (tb:=cq) (t:=103) (o:=2) (v:=.int .u64 st.out) NQ (vE.same (K2.2 _ (by omega) (by omega))) (by simp) rfl rfl;simp only [pV] at h2;apply W.seq;apply W.run 20
   ·intro M;simp (disch:=decide+kernel) only [mP,qbE,Aq,Zf,hrem,xg,sE];rfl
   show W cq _ _ _;apply W.bf (e2) 20
   ·intro M hM;simp (disch:=omega) only [mP,qbE,Aq,Zf,xg,Re,lf,h2,sG];rfl
   refine⟨rfl,_,G,rfl,⟨_,A.next,.slice none 0 0,⟨by have:=R3.1;omega,R3.2.same (fG p (by omega))⟩,by simpa using hd3,?_,?_,aq.nil _ _ _ _,fun _=>rfl,fun h=>absurd rfl h⟩,⟨by have:=kE.1;omega,fun z hz hp=>by rw [fG z (by omega),K2.2 z (by have:=kE.1;omega) hp,kE.2 z hz hp]⟩,?_⟩
   ·rw [hfin] at hstl;simp at hstl;simp;omega
   ·exact⟨by omega,by simpa [cZ,hfin] using vG⟩
   ·simp only [Sq,Zf,Zg,pV]
 ·rintro t D ⟨hR,hK,hs0⟩;show W cq _ _ _;obtain⟨g0,g1,g4,g5,-⟩:=hs0;apply W.seq;apply W.seq;apply W.run 20
  ·intro M;simp (disch:=decide+kernel) only [mP,qbE,Aq,Zf,g5,hquo];rfl
  show W cq _ _ _;apply W.block;refine W.up st.arcs.length (fun k t D=>P' p A.next i st s r k D∧wU p A D∧Sl t [(0,pV p),(1,.int .u64 i),(4,pV A.next),(19,.int .u64 (st.arcs.length:Nat)),(20,.int .u64 k)]) ?_ (Zv _) ⟨hR,hK,?_⟩
  ·rintro k t D hk ⟨hR,hK,hs0⟩;by_cases hlt:k<st.arcs.length
   ·refine(J7 hs hpA hi hl ha hlt hR hs0).mono ?_;rintro e s' ⟨rfl,t',D',rfl,hR',hk',hs'⟩;exact⟨hlt,t',D',rfl,hR',⟨ZV hK.1 hk'.1,fun z hz hp=>by rw [hk'.2 z hz hp,hK.2 z hz hp]⟩,hs'⟩
   ·have e:k=st.arcs.length:=by omega
    subst e;obtain⟨a',c,x,q1,q2,q3,q4,q5,q6,q7⟩:=hR;obtain⟨g0,g1,g4,g19,g20,-⟩:=hs0;rw [qdu,List.flatMap_nil] at q2 q3;rw [ZL] at q5;have lw:ai cq D.get 164 (.pointer (some ⟨A.next,0,none⟩))= .ok (.agg ⟨cZ x st⟩):=by
     obtain⟨d,hd1,hd2⟩:=DE (t:=164) (p:=true) (by kernel_rfl);exact aI hd1 hd2 NU q4.2
    obtain⟨G,sG,vG,nG,fG⟩:=bK (tb:=cq) (t:=164) (l':=cZ x st) (by exact NU) q4.2 rfl (by simp [cZ]) (by
     intro v hv;simp only [cZ,ZC,Z0,or_false] at hv;rcases hv with rfl|rfl|rfl
     ·exact(aq.di q5).2
     ·rfl
     ·rfl)
    have lG:ai cq G.get 164 (.pointer (some ⟨A.next,0,none⟩))= .ok (.agg ⟨cZ x st⟩):=by
     obtain⟨d,hd1,hd2⟩:=DE (t:=164) (p:=true) (by kernel_rfl);exact aI hd1 hd2 NU vG
    simp only [pV] at g4;apply W.run 20
    ·intro M;simp (disch:=decide+kernel) only [Ca,mP,qbE,Aq,Zf,g19,g20];rfl
    show W cq _ _ _;apply W.seq;apply W.run 20
    ·intro M;simp (disch:=omega) only [mP,qbE,Aq,Zf,g4,lw,sG];rfl
    show W cq _ _ _;apply W.run 20
    ·intro M;simp only [mP,qbE,Aq,Zf];rfl
    refine⟨by simp,rfl,_,(by simp only [qbE,Aq,Zf,g4,lG]<;>rfl),⟨by have:=q1.1;show _<G.next;omega,?_⟩,⟨by have:=hK.1;show _≤G.next;omega,fun z hz hp=>by rw [fG z (by omega),hK.2 z hz hp]⟩,x,c,rfl,?_,fun h=>q6 (by rw [h];rfl),fun h=>q7 (fun e=>h (Zw.1 e))⟩
    ·have e:a+(HK i st).length=a':=by simp at q3;omega
     rw [e];exact q1.2.same (fG p (by omega))
    ·exact aq.fU q5 (fun h=>q6 (by have:=congrArg qaR h;simpa using this)) (by show _≤G.next;omega) fun hne _=>fG c (by
      have:=q7 (fun e=>hne (ZZ.2 (Zw.1 e)));omega)
  ·simp only [Sq,Zf,Zg,g0,g1,g4]
end Go.Proofs.YtggndfefpbmaeaaGreatDoor.sto
end
