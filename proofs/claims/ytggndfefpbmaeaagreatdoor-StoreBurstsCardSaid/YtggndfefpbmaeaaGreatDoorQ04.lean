/- The abstract machine, the walk of the law and its plain laws, made small by a program; part 4: no conditions but those in each theorem. -/
import Derived.Test.YtggndfefpbmaeaaGreatDoorQ03
import Derived.Test.YtggndfefpbmaeaaGreatDoorChecked
import Derived.KernelRfl
set_option maxHeartbeats 16000000
set_option maxRecDepth 100000
set_option linter.unusedSimpArgs false
set_option linter.unusedVariables false
noncomputable section
open Nat renaming reduceEqDiff→X2,reduceAdd→X3,ble→X5,le_refl→X9,beq→Yc,blt→Ye,zero_le→Yg,blt_eq→Yl,eq_of_beq_eq_true→Yn,lt_of_lt_of_le→Yt,le_of_ble_eq_true→Yx,zero_add→Yy,le_trans→YC,lt_or_ge→YE,add_zero→YU,shiftRight_eq_div_pow→YX,pow_le_pow_right→Y2,min_eq_left→Y4,lt_of_le_of_lt→Y5,mod_lt→Y8,mod_eq_of_lt→Zb,mul_one→Zf,sub_self→Zg,lt_irrefl→Zk,xor_assoc→Zp,lt_succ_self→Zu,xor_lt_two_pow→ZG,not_lt_zero→ZR,min_eq_right→ZY,eq_of_testBit_eq→Z6,beq_eq→qab,mod_two_eq_zero_or_one→qac,two_pow_pos→qap,lt_trichotomy→qar,xor_zero→qaG,testBit_xor→qaJ,min_le_left→qaM,add_assoc→qaO,ble_eq→qaT,pow_add→qaX,add_comm→qa4,testBit_two_pow_mul→qa8,strongRecOn→qbf,testBit_lt_two_pow→qbh,pow_succ→qbr,div_lt_iff_lt_mul→qbu,shiftLeft_eq→qbI,min_le_right→qbJ,sub_lt_sub_left→qbQ,le_total→qbT,le_of_lt→qbX,log2_lt→qb6,div_le_self→qcd,shiftRight→qch
open And renaming intro→X4
open List renaming getElem?_eq_getElem→X6,getElem?_cons_succ→X7,getElem?_cons_zero→X8,getElem?_eq_some_iff→X_,length_append→X',take_succ_eq_append_getElem→Yd,length_cons→Yf,length_eq_zero_iff→Yh,mem_cons_of_mem→Yi,mem_cons_self→Yk,length_take→Yo,mem_cons→Yp,getElem?_map→Yr,length_nil→Ys,take_length→Yw,getElem?_append_left→Yz,getElem?_append_right→YA,length_set→YG,not_mem_nil→YH,mem_map→YN,replicate→YP,filter_cons→YS,cons_append→YT,map_append→YV,getD_eq_getElem?_getD→YZ,flatMap_cons→Y0,append_assoc→Y1,drop_eq_getElem_cons→Y3,nil_append→Y6,mem_singleton→Y7,length_singleton→Y9,append_nil→Y',all_eq_true→Ze,foldl_cons→Zh,range→Zi,length_drop→Zj,mem_filter→Zq,mem_append→Zs,mem_or_eq_of_mem_set→Zw,foldl_append→ZA,map_cons→ZB,length→ZD,getElem?_drop→ZW,getElem?_range→Z_,mem_flatMap→qaf,filter_eq_self→qaw,findIdx?_eq_none_iff→qaS,exists_mem_of_ne_nil→qaU,drop_drop→qa0,prefix_append→qbd,drop_eq_nil_of_le→qbj,nodup_append→qbo,take_append_drop→qbp,drop_eq_nil_iff→qbC,prefix_refl→qbD,map_nil→qbV,map→qb9,drop_left→qcg
open Bool renaming false_eq_true→Yj,and_eq_true→Yq,not_true→Zo,true_and→ZK,not_false→ZL,false_and→qa1,or_eq_false_iff→qbF
open Array renaming getElem?_toList→Yu
open Int renaming ofNat→Yv,toNat_natCast→qaQ
open Option.some renaming injEq→YB
open Option renaming map_some→YI,getD_some→Za
open List.cons renaming injEq→YL
open Go.Proofs.Tryz renaming prog→YO,f160→Zm,f203→ZH,f106→ZO,f107→qag,f222→qal,checked→qao,f109→qat,f198→qav,f227→qbz,f155→qbA,f229→qbB,f151→qbU,f195→qb0
open UInt8 renaming ofNat→Zc,toNat_inj→ZS,toNat_ofNat_of_lt'→qa3
open Classical renaming byContradiction→qaW
open Int.ofNat renaming inj→qa9
namespace Go.Proofs.YtggndfefpbmaeaaGreatDoor.sto
open Go.Am
variable {k':IntKind} {b:Nat}
theorem rS {d:Option TypeDesc} {a:Nat} (h:b<64):hZ .shr d (.int .u64 a) (.int k' (b:Int))= .ok (.int .u64 (a>>>b:Nat)):=by
 have e:hZ .shr d (.int .u64 a) (.int k' (b:Int))= .ok (.int .u64 (.ofNat (qch a (bif Ye b 64 then b else 64)))):=rfl;have hb:Ye b 64=true:=by rw [Yl];exact h
 rw [e,hb,cond_true];rfl
def gp (n:Nat):Nat:=if n=0 then 0 else n.log2+1
variable {n:Nat}
theorem zf {a:Nat} (h:2^a≤n):gp n=a+gp (n>>>a):=by
 have hn:n≠0:=by have:=qap a;omega
 have hd:n/2^a≠0:=by
  have:=(Nat.le_div_iff_mul_le (qap a)).2 (show 1*2^a≤n by omega);omega
 unfold gp;rw [YX,if_neg hn,if_neg hd];have h1:n.log2=a+(n/2^a).log2:=by
  apply Nat.le_antisymm
  ·have:n.log2<a+(n/2^a).log2+1:=by
    rw [qb6 hn,show a+(n/2^a).log2+1=((n/2^a).log2+1)+a by omega,qaX];have:=(qb6 hd).1 (Zu _);exact(qbu (qap a)).1 this
   omega
  ·rw [Nat.le_log2 hn,qa4,qaX];exact(Nat.le_div_iff_mul_le (qap a)).1 ((Nat.le_log2 hd).1 (X9 _))
 omega
theorem tS {l:List UInt8} (hl:(Yc l.length 256&&(Zi 256).all fun i=>Yc (l.getD i 0).toNat (gp i))=true) (h:n<256):mV bX 9 (strOf l) (.int .u8 n)= .ok (.int .u8 (gp n:Nat)):=by
 rw [Yq] at hl;have e1:=Yn hl.1;rw [ed nW (by omega),Yn (Ze.1 hl.2 n (List.mem_range.2 h))]
theorem Bm (h:n<256):gp n<256:=by
 unfold gp;split
 ·omega
 ·rename_i h0;have:=(qb6 h0 (k:=8)).2 h;omega
theorem half (n a b:Nat) (h:n<2^(a+b)):∃x s,gp n=s+gp x∧x<2^max a b∧s≤a∧((x=n>>>a∧s=a∧2^a≤n)∨(x=n∧s=0∧¬2^a≤n)):=by
 by_cases ha:2^a≤n
 ·refine⟨n>>>a,a,zf ha,?_,X9 _,.inl ⟨rfl,rfl,ha⟩⟩;rw [YX];refine Yt ((qbu (qap a)).2 (by rw [←qaX,qa4 b a];exact h)) (Y2 (by omega) (Nat.le_max_right a b))
 ·exact⟨n,0,by omega,Yt (by omega) (Y2 (by omega) (Nat.le_max_left a b)),Yg _,.inr ⟨rfl,rfl,ha⟩⟩
variable {A:Mem}
theorem KX (n:Nat) (hn:n<18446744073709551616):bL bX 229 [.int .u64 n] A (.int .i64 (gp n:Nat)) A:=by
 obtain⟨x1,s1,e1,b1,m1,h1⟩:=half n 32 32 hn;obtain⟨x2,s2,e2,b2,m2,h2⟩:=half x1 16 16 b1;obtain⟨x3,s3,e3,b3,m3,h3⟩:=half x2 8 8 b2;have b3:x3<256:=b3;have e:gp n=s1+s2+s3+gp x3:=by omega
 have hb:=Bm b3;have c1:=bu (tb:=bX) (s:=103) (d:=5) (k:=.u64) (n:=x3) (by rw [gZ];rfl) k6 (iV b3);have c2:=bu (tb:=bX) (s:=5) (d:=3) (k:=.u8) (n:=gp x3) (by rw [k6];rfl) Bf (aR (by omega));rw [e];clear e e1 e2 e3 b1 b2 hn m1 m2 m3;simp only [Nat.reducePow] at h1 h2 h3;rcases h1 with⟨rfl,rfl,h1⟩|⟨rfl,rfl,h1⟩<;>rcases h2 with⟨rfl,rfl,h2⟩|⟨rfl,rfl,h2⟩<;>rcases h3 with⟨rfl,rfl,h3⟩|⟨rfl,rfl,h3⟩
 all_goals
  refine aT (bB Tryz.func229) (c:=qbB.body.getD .skip) (by kernel_rfl) (by rw [Tryz.ntmps229];simp) (by kernel_rfl) (by kernel_rfl) ?_;apply W.run 60
  ·intro M;simp (disch:=first|decide+kernel|omega) only [qbB,Aq,X2,bO,bm,h1,h2,h3,c1,c2,tS,rS,Yy,YU];rfl
  exact⟨by simp,rfl,rfl,by simp only [qbB,Aq,X2,bO,bm,h1,h2,h3,c1,c2,tS,rS,Yy,YU]<;>rfl⟩
def cz (n:Nat):Nat:=(gp n+7)/8
def vA (n:Nat):Nat:=if n<248 then 1 else 1+cz n
theorem Ic (h:n<18446744073709551616):gp n≤64:=by
 unfold gp;split
 ·omega
 ·rename_i h0;have:=(qb6 h0 (k:=64)).2 h;omega
theorem sP (h:n<18446744073709551616):cz n≤8:=by have:=Ic h;unfold cz;omega
theorem SC:bX.bp 316=some (.array 9 5):=by kernel_rfl
theorem xG:aY bX 5= .ok 1:=by kernel_rfl
theorem Wh:aY bX 3= .ok 1:=by kernel_rfl
theorem IU:aY bX 318= .ok 10:=by kernel_rfl
theorem WK:b7 bX 318= .ok (.agg ⟨[.int .u8 0,.int .u8 0,.int .u8 0,.int .u8 0,.int .u8 0,.int .u8 0,.int .u8 0,.int .u8 0,.int .u8 0,.int .i64 0]⟩):=by kernel_rfl
theorem FP:ax bX 318 (pw b 0) 0= .ok (pw b 0):=by kernel_rfl
theorem MU:ax bX 318 (pw b 0) 1= .ok (pw b 9):=by kernel_rfl
variable {i:Nat}
theorem Pd (h:i<9):aZ bX 316 (pw b 0) (.int .i64 i)= .ok (pw b i):=by
 have:=iA (tb:=bX) (b:=b) (o:=0) (k:=.i64) SC xG h;rwa [Yy] at this
def TY (l:List Value):Prop:=l.length=10∧∀v∈l,aJ v=true
variable {l:List Value} {v:Value}
theorem TY.set (h:TY l) (o:Nat) (hv:aJ v=true):TY (l.set o v):=⟨by rw [YG];exact h.1,fun w hw=>by
 rcases Zw hw with hw|rfl
 ·exact h.2 w hw
 ·exact hv⟩
variable {o:Nat}
theorem VO {n:Int} (h:l.length=10) (ho:o<10):aW bX (A.alloc (aa 318 l)) 5 (pw A.next o) (.int .u8 n)= .ok (A.alloc (aa 318 (l.set o (.int .u8 n)))):=df xG rfl rfl (by omega)
theorem C3 {n:Int} (h:l.length=10):aW bX (A.alloc (aa 318 l)) 3 (pw A.next 9) (.int .i64 n)= .ok (A.alloc (aa 318 (l.set 9 (.int .i64 n)))):=df Wh rfl rfl (by omega)
theorem I3 (h:l.length=10):aq bX (A.alloc (aa 318 l)).get 318 (pw A.next 0)= .ok (.agg ⟨l⟩):=y7 (by rw [IU,h]) (by kernel_rfl)
theorem Sb (h:TY l):aW bX (A.alloc (aa 318 l)) 318 (pw A.next 0) (.agg ⟨l⟩)= .ok (A.alloc (aa 318 l)):=bn (by rw [IU,h.1]) rfl rfl (by intro e;have:=h.1;rw [e] at this;cases this) h.2
noncomputable def mX:Code:=qal.body.getD .skip
noncomputable def Gh:Code:=sub mX [1,1,1,1,0,1,0,0]
theorem Qa:qal.body=some (.seq (sub mX [0]) (.seq (sub mX [1,0]) (.seq (sub mX [1,1,0]) (.seq (sub mX [1,1,1,0]) (.seq (.seq (sub mX [1,1,1,1,0,0]) (.block 0 (.loop Gh))) (.seq (sub mX [1,1,1,1,1,0]) (.seq (sub mX [1,1,1,1,1,1,0]) (sub mX [1,1,1,1,1,1,1])))))))):=by kernel_rfl
def Wf (tb:bI) (fn:Func) (Q:Value→Mem→Prop) (e:Ex) (s:St):Prop:=(e= .nrm∨e= .ret)∧s.d=[]∧∃v,(fj tb s.t s.m.get fn.results.toList).bind (fun vs=>.ok (oneOf vs))= .ok v∧Q v s.m
variable {tb:bI} {f:FuncId} {fn:Func}
theorem cS {c:Code} {args:List Value} {Q:Value→Mem→Prop} (hf:tb.fn.get f=some fn) (hb:fn.body=some c) (hn:args.length≤fn.ntmps) (hnm:(fn.name== "runtime.NumGoroutine")=false) (hk:tb.hk.get f=none)
 (h:W tb c ⟨T.bJ .e 0 args,fn.ntmps,[],A,none⟩ (Wf tb fn Q)):∃v A',bL tb f args A v A'∧Q v A':=by
 refine eE hf hb hn hnm hk (h.mono fun e s hs=>?_);obtain⟨h1,h2,v,h3,h4⟩:=hs;rw [h2];cases hr:fj tb s.t s.m.get fn.results.toList with
 |no _=>rw [hr] at h3;cases h3
 |ok vs=>
  rw [hr] at h3;cases h3;exact⟨h1,s.m,vs,rfl,hr,h4⟩
theorem QT (hn:n<18446744073709551616):∃v A',bL bX 222 [.int .u64 n] A v A'∧∃l,v= .agg ⟨l⟩∧TY l∧l[9]?=some (.int .i64 (vA n:Nat)):=by
 refine cS (bB Tryz.func222) Qa (by rw [Tryz.ntmps222];simp) (by kernel_rfl) (by kernel_rfl) ?_;have z10:TY [.int .u8 0,.int .u8 0,.int .u8 0,.int .u8 0,.int .u8 0,.int .u8 0,.int .u8 0,.int .u8 0,.int .u8 0,.int .i64 0]:=⟨rfl,by simp [aJ]⟩;apply W.seq;apply W.run 20
 ·intro M;simp (disch:=first|decide+kernel|omega) only [mX,qal,Aq,X2,WK,au];rfl
 show W bX _ _ _;generalize [Value.int .u8 0,.int .u8 0,.int .u8 0,.int .u8 0,.int .u8 0,.int .u8 0,.int .u8 0,.int .u8 0,.int .u8 0,.int .i64 0]=l at z10;have zl:=z10.1;apply W.seq;by_cases h:n<248
 ·have c1:=bu (tb:=bX) (s:=103) (d:=5) (k:=.u64) (n:=n) (by rw [gZ];rfl) k6 (iV (by omega));have t1:=(z10.set 0 (v:=.int .u8 n) rfl);have t2:=(t1.set 9 (v:=.int .i64 (1:Nat)) rfl);have e1:=t1.1;have e2:=t2.1;have e3:=Sb (A:=A) t2;apply W.run 20
  ·intro M;simp (disch:=first|decide+kernel|omega) only [mX,qal,Aq,X2,h,c1,FP,MU,Pd,VO,C3,zl,e1,e2,I3,e3];rfl
  refine⟨by simp,rfl,_,by simp only [qal,Aq,X2,I3,e2],_,rfl,t2,?_⟩;rw [List.getElem?_set_self (by rw [e1];omega)];unfold vA;rw [if_pos h]
 ·obtain⟨g,hg⟩:=KX (A:=A.alloc (aa 318 l)) n hn;have hm:=sP hn;have hb:=Ic hn;have q1:gp n+8-1=gp n+7:=by omega
  have c1:=bu (tb:=bX) (s:=3) (d:=5) (k:=.i64) (n:=247+cz n) (by rw [Bf];rfl) k6 (iV (by omega));have a1:aN .add .i64 ((247:Nat):Int) ((cz n:Nat):Int)= .ok (.int .i64 (247+cz n:Nat)):=a9 (aR (by omega));have t1:=(z10.set 0 (v:=.int .u8 (247+cz n:Nat)) rfl);apply W.run 20
  ·intro M;simp (disch:=first|decide+kernel|omega) only [mX,qal,Aq,X2,h];rfl
  apply W.seq;apply W.a6 (g) 20
  ·intro M hM;simp (disch:=first|decide+kernel|omega) only [mX,qal,Aq,X2,hg,bq,aR,q1];rfl
  show W bX _ _ _;rw [show(gp n+7)/8=cz n from rfl];apply W.seq;apply W.run 20
  ·intro M;simp (disch:=first|decide+kernel|omega) only [mX,qal,Aq,X2,a1,c1,FP,Pd,VO,zl];rfl
  apply W.seq;apply W.seq;apply W.run 20
  ·intro M;simp (disch:=first|decide+kernel|omega) only [mX,qal,Aq,X2];rfl
  apply W.block;generalize l.set 0 (.int .u8 (247+cz n:Nat))=l1 at t1;refine W.up (cz n) (fun i t D=>∃l2,D=A.alloc (aa 318 l2)∧TY l2∧Sl t [(0,.int .u64 n),(2,pw A.next 0),(3,.int .i64 (cz n:Nat)),(23,.int .i64 (cz n:Nat)),(24,.int .i64 i)]) ?_ (Yg _) ⟨l1,rfl,t1,?_⟩
  ·rintro i t D hi ⟨l2,rfl,t2,g0,g2,g3,g23,g24,-⟩;have z2:=t2.1;by_cases hlt:i<cz n
   ·have m1:aN .mul .i64 ((8:Nat):Int) ((i:Nat):Int)= .ok (.int .i64 (8*i:Nat)):=gq (aR (by omega));have a2:aN .add .i64 ((1:Nat):Int) ((i:Nat):Int)= .ok (.int .i64 (1+i:Nat)):=a9 (aR (by omega));have c2:=Oh (tb:=bX) (s:=103) (d:=5) (k:=.u64) (n:=n>>>(8*i)) (by rw [gZ];rfl) k6;have t3:=(t2.set (1+i) (v:=.int .u8 (n>>>(8*i) % 256:Nat)) rfl);apply W.run 20
    ·intro M;simp (disch:=first|decide+kernel|omega) only [Gh,mX,qal,Aq,X2,g0,g2,g23,g24,hlt,m1,a2,c2,rS,FP,Pd,VO,z2];rfl
    refine⟨hlt,_,_,rfl,_,rfl,t3,?_⟩;simp only [av,aw,T.af,T.ag,T.ak,X2,X3,if_true,if_false,and_true,true_and,g0,g2,g3,g23]
   ·have hin:i=cz n:=by omega
    subst hin;have a2:aN .add .i64 ((1:Nat):Int) ((cz n:Nat):Int)= .ok (.int .i64 (1+cz n:Nat)):=a9 (aR (by omega));have t3:=(t2.set 9 (v:=.int .i64 (1+cz n:Nat)) rfl);have e3:=Sb (A:=A) t3;have z3:=t3.1;apply W.run 20
    ·intro M;simp (disch:=first|decide+kernel|omega) only [Gh,mX,qal,Aq,X2,g23,g24,hlt];rfl
    apply W.seq;apply W.run 20
    ·intro M;simp (disch:=first|decide+kernel|omega) only [mX,qal,Aq,X2,g2,g3,a2,MU,C3,z2];rfl
    apply W.run 20
    ·intro M;simp (disch:=first|decide+kernel|omega) only [mX,qal,Aq,X2,g2,I3,z3,e3];rfl
    refine⟨by simp,rfl,_,by simp only [qal,Aq,X2,g2,I3,z3],_,rfl,t3,?_⟩;rw [List.getElem?_set_self (by rw [z2];omega)];unfold vA;rw [if_neg h]
  ·simp only [av,aw,T.af,T.ag,T.ak,X2,X3,if_true,if_false,and_true,true_and]
theorem Jv (hn:n<18446744073709551616):∃A',bL bX 199 [.int .u64 n] A (.int .i64 (vA n:Nat)) A':=by
 obtain⟨v,A',⟨g,hg⟩,l,rfl,h1,h2⟩:=QT (A:=A) hn;have f1:tU bX 318 (.agg ⟨l⟩) 1= .ok (.int .i64 (vA n:Nat)):=by
  have e:tU bX 318 (.agg ⟨l⟩) 1=je bX 3 l 9:=by kernel_rfl
  rw [e];exact fW Bf rfl h2
 refine⟨A',?_⟩;refine aT (bB Tryz.func199) (c:=Tryz.f199.body.getD .skip) (by kernel_rfl) (by rw [Tryz.ntmps199];simp) (by kernel_rfl) (by kernel_rfl) ?_;apply W.a6 (g) 60
 ·intro M hM;simp (disch:=first|decide+kernel|omega) only [Tryz.f199,Aq,X2,hg,f1];rfl
 exact⟨by simp,rfl,rfl,by simp only [Tryz.f199,Aq,X2,hg,f1]<;>rfl⟩
def oH (s:List UInt8) (a:Nat):Nat→Nat
 |0=>0
 |i+1=>oH s a i|||((s.getD (a+1+i) 0).toNat<<<(8*i))
theorem BA (s:List UInt8) (a:Nat):∀i,oH s a i<2^(8*i)
 |0=>by simp [oH]
 |i+1=>by
  unfold oH;refine Nat.or_lt_two_pow (Yt (BA s a i) (Y2 (by omega) (by omega))) ?_;rw [qbI,show 8*(i+1)=8+8*i by omega,qaX];exact Nat.mul_lt_mul_of_pos_right (s.getD (a+1+i) 0).toNat_lt (qap _)
def rn (s:List UInt8) (a:Nat):Nat×Nat×Nat:=
 if s.length≤a then(0,a,3) else if(s.getD a 0).toNat<248 then((s.getD a 0).toNat,a+1,0)
 else if s.length-a≤(s.getD a 0).toNat-247 then(0,a,3)
 else if vA (oH s a ((s.getD a 0).toNat-247))=1+((s.getD a 0).toNat-247) then(oH s a ((s.getD a 0).toNat-247),a+1+((s.getD a 0).toNat-247),0) else(0,a,5)
def vu (p:Nat×Nat×Nat):Value:=.tuple ⟨[.int .u64 p.1,.int .i64 p.2.1,.int .i64 p.2.2]⟩
noncomputable def iL:Code:=Zm.body.getD .skip
noncomputable def Gu:Code:=sub iL [1,1,1,1,1,1,0,1,0,0]
theorem wu:Zm.body=some (.seq (sub iL [0]) (.seq (sub iL [1,0]) (.seq (sub iL [1,1,0]) (.seq (sub iL [1,1,1,0]) (.seq (sub iL [1,1,1,1,0]) (.seq (sub iL [1,1,1,1,1,0]) (.seq (.seq (sub iL [1,1,1,1,1,1,0,0]) (.block 0 (.loop Gu))) (.seq (sub iL [1,1,1,1,1,1,1,0]) (.seq (sub iL [1,1,1,1,1,1,1,1,0]) (sub iL [1,1,1,1,1,1,1,1,1])))))))))):=by kernel_rfl
theorem run_get {s:List UInt8} {a:Nat} (hs:s.length<1000000) (ha:a≤s.length):∃v A',bL bX 160 [strOf s,.int .i64 a] A v A'∧v=vu (rn s a):=by
 refine cS (bB Tryz.func160) wu (by rw [Tryz.ntmps160];simp) (by kernel_rfl) (by kernel_rfl) ?_;have hl:=cd (tb:=bX) (t:=9) (l:=s) nW;apply W.seq;apply W.run 20
 ·intro M;simp (config:={maxSteps:=4000000}) (disch:=first|decide+kernel|omega|simp only [Wq,X2]) only [iL,Zm,Aq,X5,reduceIte,X2,X3];rfl
 apply W.seq;by_cases h1:s.length≤a
 ·apply W.run 20
  ·intro M;simp (config:={maxSteps:=4000000}) (disch:=first|decide+kernel|omega|simp only [Wq,X2]) only [iL,Zm,Aq,X5,reduceIte,X2,X3,hl,bO,bm,h1];rfl
  exact⟨by simp,rfl,_,(by simp only [Zm,Aq,X5,reduceIte,X2,X3]<;>rfl),by unfold rn;rw [if_pos h1];rfl⟩
 have hix:=ed (t:=9) (kd:=.i64) nW (show a<s.length by omega);have hf:=(s.getD a 0).toNat_lt;generalize hfd:(s.getD a 0).toNat=f at hix hf;apply W.run 20
 ·intro M;simp (config:={maxSteps:=4000000}) (disch:=first|decide+kernel|omega|simp only [Wq,X2]) only [iL,Zm,Aq,X5,reduceIte,X2,X3,hl,bO,bm,h1];rfl
 apply W.seq;apply W.run 20
 ·intro M;simp (disch:=first|decide+kernel|omega) only [iL,Zm,Aq,X2,hix];rfl
 apply W.seq;by_cases h2:f<248
 ·have cv:=bu (tb:=bX) (s:=5) (d:=103) (k:=.u8) (n:=f) (by rw [k6];rfl) gZ (cL (by omega));have a1:aN .add .i64 ((a:Nat):Int) ((1:Nat):Int)= .ok (.int .i64 (a+1:Nat)):=a9 (aR (by omega));apply W.run 20
  ·intro M;simp (disch:=first|decide+kernel|omega) only [iL,Zm,Aq,X2,h2,cv,a1];rfl
  exact⟨by simp,rfl,_,(by simp only [Zm,Aq,X2]<;>rfl),by unfold rn;rw [if_neg h1,hfd,if_pos h2];rfl⟩
 have cv:=bu (tb:=bX) (s:=5) (d:=3) (k:=.u8) (n:=f) (by rw [k6];rfl) Bf (aR (by omega));have s1:aN .sub .i64 ((f:Nat):Int) ((248:Nat):Int)= .ok (.int .i64 (f-248:Nat)):=bq (by omega) (aR (by omega));have a1:aN .add .i64 ((f-248:Nat):Int) ((1:Nat):Int)= .ok (.int .i64 (f-247:Nat)):=by rw [a9 (aR (by omega)),show f-248+1=f-247 by omega]
 have s2:aN .sub .i64 ((s.length:Nat):Int) ((a:Nat):Int)= .ok (.int .i64 (s.length-a:Nat)):=bq (by omega) (aR (by omega));apply W.run 20
 ·intro M;simp (disch:=first|decide+kernel|omega) only [iL,Zm,Aq,X2,h2];rfl
 apply W.seq;apply W.run 20
 ·intro M;simp (disch:=first|decide+kernel|omega) only [iL,Zm,Aq,X2,cv,s1,a1];rfl
 show W bX _ _ _;generalize hm:f-247=m;have hm8:m≤8:=by omega
 apply W.seq;by_cases h3:s.length-a≤m
 ·apply W.run 20
  ·intro M;simp (disch:=first|decide+kernel|omega) only [iL,Zm,Aq,X2,hl,s2,eY,bm,h3];rfl
  exact⟨by simp,rfl,_,(by simp only [Zm,Aq,X2]<;>rfl),by unfold rn;rw [if_neg h1,hfd,if_neg h2,hm,if_pos h3];rfl⟩
 apply W.run 20
 ·intro M;simp (disch:=first|decide+kernel|omega) only [iL,Zm,Aq,X2,hl,s2,eY,bm,h3];rfl
 apply W.seq;apply W.seq;apply W.run 20
 ·intro M;simp (disch:=first|decide+kernel|omega) only [iL,Zm,Aq,X2];rfl
 apply W.block;refine W.up m (fun i t D=>D=A∧Sl t [(0,strOf s),(1,.int .i64 a),(4,.int .u64 (oH s a i:Nat)),(8,.int .i64 m),(39,.int .i64 m),(40,.int .i64 i)]) ?_ (Yg _) ⟨rfl,?_⟩
 ·rintro i t D hi ⟨rfl,g0,g1,g4,g8,g39,g40,-⟩;have hlt2:=BA s a i;have hp:2^(8*i)≤2^64:=Y2 (by omega) (by omega);by_cases hlt:i<m
  ·have hx:=ed (t:=9) (kd:=.i64) nW (show a+1+i<s.length by omega);have hc:=(s.getD (a+1+i) 0).toNat_lt;have hlt3:=BA s a (i+1);have hp3:2^(8*(i+1))≤2^64:=Y2 (by omega) (by omega);have e3:oH s a (i+1)=oH s a i|||((s.getD (a+1+i) 0).toNat<<<(8*i)):=rfl;have hsh:(s.getD (a+1+i) 0).toNat<<<(8*i)<18446744073709551616:=by
    refine Yt ?_ hp3;rw [qbI,show 8*(i+1)=8+8*i by omega,qaX];exact Nat.mul_lt_mul_of_pos_right hc (qap _)
   generalize (s.getD (a+1+i) 0).toNat=c at hx hc hsh e3;have cv2:=bu (tb:=bX) (s:=5) (d:=103) (k:=.u8) (n:=c) (by rw [k6];rfl) gZ (cL (by omega));have m1:aN .mul .i64 ((8:Nat):Int) ((i:Nat):Int)= .ok (.int .i64 (8*i:Nat)):=gq (aR (by omega));have a2:aN .add .i64 ((a:Nat):Int) ((1:Nat):Int)= .ok (.int .i64 (a+1:Nat)):=a9 (aR (by omega));have a3:aN .add .i64 ((a+1:Nat):Int) ((i:Nat):Int)= .ok (.int .i64 (a+1+i:Nat)):=a9 (aR (by omega));have sh:=fun d k'=>QJ (d:=d) (k':=k') (a:=c) (b:=8*i) (by omega) hsh
   have o1:=KQ (a:=oH s a i) (b:=c<<<(8*i)) (by omega) hsh;apply W.run 20
   ·intro M;simp (disch:=first|decide+kernel|omega) only [Gu,iL,Zm,Aq,X2,g0,g1,g4,g39,g40,hlt,hx,cv2,m1,a2,a3,sh,o1];rfl
   refine⟨hlt,_,_,rfl,rfl,?_⟩;simp only [av,aw,T.af,T.ag,T.ak,X2,X3,if_true,if_false,and_true,true_and,g0,g1,g8,g39,e3]
  ·have hin:i=m:=by omega
   subst hin;obtain⟨A',g,hg⟩:=Jv (A:=D) (n:=oH s a i) (by omega);have a2:aN .add .i64 ((1:Nat):Int) ((i:Nat):Int)= .ok (.int .i64 (1+i:Nat)):=a9 (aR (by omega));have a3:aN .add .i64 ((a:Nat):Int) ((1:Nat):Int)= .ok (.int .i64 (a+1:Nat)):=a9 (aR (by omega));have a4:aN .add .i64 ((a+1:Nat):Int) ((i:Nat):Int)= .ok (.int .i64 (a+1+i:Nat)):=a9 (aR (by omega));apply W.run 20
   ·intro M;simp (disch:=first|decide+kernel|omega) only [Gu,iL,Zm,Aq,X2,g39,g40,hlt];rfl
   apply W.seq;by_cases h4:vA (oH s a i)=1+i
   ·apply W.a6 (g) 20
    ·intro M hM;simp (disch:=first|decide+kernel|omega) only [iL,Zm,Aq,X2,g4,g8,hg,a2,h4];rfl
    apply W.run 20
    ·intro M;simp (disch:=first|decide+kernel|omega) only [iL,Zm,Aq,X2,g1,g4,g8,a3,a4];rfl
    exact⟨by simp,rfl,_,(by simp only [Zm,Aq,X2]<;>rfl),by unfold rn;rw [if_neg h1,hfd,if_neg h2,hm,if_neg h3,if_pos h4];rfl⟩
   ·apply W.a6 (g) 20
    ·intro M hM;simp (disch:=first|decide+kernel|omega) only [iL,Zm,Aq,X2,g1,g4,g8,hg,a2,h4];rfl
    exact⟨by simp,rfl,_,(by simp only [Zm,Aq,X2]<;>rfl),by unfold rn;rw [if_neg h1,hfd,if_neg h2,hm,if_neg h3,if_neg h4];rfl⟩
 ·simp only [av,aw,T.af,T.ag,T.ak,X2,X3,if_true,if_false,and_true,true_and,oH]
def eh (l:List UInt8):List Value:=l.map dq
theorem eu (l:List UInt8):(eh l).length=l.length:=by simp [eh]
theorem y9:bX.bp 48=some (.slice 5):=by kernel_rfl
theorem Wv:cq bX 5= .ok (1,[.int .u8 0]):=by kernel_rfl
theorem Wm:∃i,bX.ty.get 5=some i∧0<i.bytes∧i.bytes≤65536:=by
 have h:(bX.ty.get 5).map (fun i=>Ye 0 i.bytes&&X5 i.bytes 65536)=some true:=by kernel_rfl
 cases hq:bX.ty.get 5 with
 |none=>rw [hq] at h;cases h
 |some i=>
  rw [hq] at h;simp only [YI,YB,Yq,Yl] at h;exact⟨i,rfl,h.1,Yx h.2⟩
theorem Bx {l:List UInt8} {x:Value} (h:pQ A 5 b (eh l) x):cY bX A.get 48 9 x= .ok (strOf l):=by
 rcases h with⟨rfl,hl⟩|⟨k,c,rfl,h4,h5,h6⟩
 ·have:l=[]:=by cases l with
   |nil=>rfl
   |cons _ _=>simp [eh] at hl
  subst this;unfold cY;simp only [y9,nW,k6];rfl
 ·have hb:Fp A b 5 k l:=by
   obtain⟨cs,e1,e2⟩:=h5;exact⟨cs,e1,fun i hi=>e2 i (by rw [eu];exact hi)⟩
  rw [eu];exact m7 y9 nW k6 hb
variable {dst:Option Tmp}
theorem WB {ih:Code→St→R (Ex×St)} {ty:TypeId} {pos:String} {after:Array Edge} {g:Option (Nat×Bool)} {s:St} {k:St→R (Ex×St)} (x:Operand):dI bX ih {dst,op:=.convert 48 9 x,type:=ty,pos,after,guard:=g} s k=(ev s.t x).bind fun x=>(cY bX s.m.get 48 9 x).bind fun v=>bP s dst v k:=by
 rw [mC (hc:=by kernel_rfl) (hi:=rfl)];simp only [nf,R.ba]
variable {c:Nat}
theorem I7 (h:c<256):dq (.ofNat c)= .int .u8 c:=by
 show Value.int .u8 (Yv (Zc c).toNat)=_;rw [qa3 h];rfl
theorem Sw {c:Int}:bc bX 48 1 [(0,.int .u8 c)]= .ok (aa 5 [.int .u8 c],.m_ 1 2):=by kernel_rfl
theorem OB {D:Mem} {l:List UInt8} {x:Value} (h:pQ D 5 b (eh l) x) (hb:l≠ []→b<D.next) (hl:l.length<16000000) (hc:c<256):
 ∃x' D',bk bX (D.alloc (aa 5 [.int .u8 c])) 48 48 x (.slice (some ⟨D.next,0,none⟩) 1 2)= .ok (x',D')∧pQ D' 5 (D.next+1) (eh (l++[.ofNat c])) x'∧D'.next=D.next+2∧∀y,y≠b→y<D.next→D'.get y=D.get y:=by
 obtain⟨i,h1,h2,h3⟩:=Wm;have hs:pQ (D.alloc (aa 5 [.int .u8 c])) 5 b (eh l) x:=h.same (by rw [ae];omega) fun hh=>aH (by omega)
 obtain⟨x',D',e1,e2,e3,e4⟩:=hs.append (tb:=bX) (st:=48) (xt:=48) y9 y9 Wv h1 h2 h3 (by rw [eu];omega) (aD D _) rfl;rw [ae] at e2 e3 e4;refine⟨x',D',e1,?_,by omega,fun y hy hyn=>by rw [e4 y hy (by omega),aH (by omega)]⟩;rw [show eh (l++[Zc c])=eh l++[.int .u8 c] by unfold eh;rw [YV,List.map_singleton,I7 hc]];exact e2
theorem BE {D:Mem} (hc:c<256):pQ (D.alloc (aa 5 [.int .u8 c])) 5 D.next (eh [.ofNat c]) (.slice (some ⟨D.next,0,none⟩) 1 2):=by
 have e:eh [Zc c]=[.int .u8 c]:=by unfold eh;rw [List.map_singleton,I7 hc]
 rw [e];exact .inr ⟨.var 1,2,rfl,by rw [ae];omega,gQ D 5 [.int .u8 c],.inl rfl⟩
def Dn (n:Nat):Nat→List UInt8
 |0=>[]
 |i+1=>Dn n i++[.ofNat (n>>>(8*i) % 256)]
def bH (n:Nat):List UInt8:=if n<248 then [.ofNat n] else .ofNat (247+cz n)::Dn n (cz n)
theorem jW (n:Nat):∀i,(Dn n i).length=i
 |0=>rfl
 |i+1=>by unfold Dn;rw [X',jW n i];rfl
theorem Dd (n:Nat):(bH n).length=vA n:=by
 unfold bH vA;split
 ·rfl
 ·rw [Yf,jW];omega
theorem Hr (h:n<256) (h0:n≠0):cz n=1:=by
 have h1:=Bm h;unfold cz gp;rw [if_neg h0];have:=(qb6 h0 (k:=8)).2 h;omega
theorem J4 (h:256≤n):cz n=1+cz (n/256):=by
 unfold cz;rw [zf (n:=n) (a:=8) h,YX,show 2^8=256 from rfl];omega
noncomputable def yF:Code:=qbA.body.getD .skip
noncomputable def F8:Code:=sub yF [1,1,0,0,0]
theorem QU:qbA.body=some (.seq (sub yF [0]) (.seq (sub yF [1,0]) (.seq (.block 0 (.loop F8)) (.seq (sub yF [1,1,1,0]) (sub yF [1,1,1,1]))))):=by kernel_rfl
theorem m6 {a:Nat} (h:a<18446744073709551616) (hb:0<b):aN .quo .u64 (a:Int) (b:Int)= .ok (.int .u64 (a/b:Nat)):=by
 obtain⟨c,rfl⟩:∃c,b=c+1:=⟨b-1,by omega⟩;show R.ok (Value.int .u64 (dg .u64 ((a/(c+1):Nat):Int)))=_;rw [mo (cL (Y5 (qcd _ _) h))]
theorem Hy (hn:n<18446744073709551616) (h0:n≠0):bL bX 155 [.int .u64 n] A (.int .i64 (cz n:Nat)) A:=by
 refine aT (bB Tryz.func155) QU (by rw [Tryz.ntmps155];simp) (by kernel_rfl) (by kernel_rfl) ?_;have hle:=sP hn;apply W.seq;apply W.run 20
 ·intro M;simp (disch:=first|decide+kernel|omega) only [yF,qbA,Aq,X2];rfl
 apply W.seq;apply W.run 20
 ·intro M;simp (disch:=first|decide+kernel|omega) only [yF,qbA,Aq,X2];rfl
 apply W.seq;apply W.block;refine W.up 7 (fun i t D=>D=A∧∃x,x≠0∧x<18446744073709551616∧i+cz x=cz n∧Sl t [(0,.int .u64 x),(3,.int .i64 (i+1:Nat))]) ?_ (Yg _) ⟨rfl,n,h0,hn,by omega,?_⟩
 ·rintro i t D hi ⟨rfl,x,hx0,hx,hi2,g0,g3,-⟩;by_cases hlt:256≤x
  ·have hst:=J4 hlt;have h1:cz (x/256)≠0:=by
    intro h;have h2:x/256=0:=by
     unfold cz gp at h;split at h
     ·assumption
     ·omega
    omega
   have q:=m6 (b:=256) hx (by omega);have a1:aN .add .i64 ((i+1:Nat):Int) ((1:Nat):Int)= .ok (.int .i64 (i+1+1:Nat)):=a9 (aR (by omega));apply W.run 20
   ·intro M;simp (disch:=first|decide+kernel|omega) only [F8,yF,qbA,Aq,X2,g0,g3,bO,bm,hlt,q,a1];rfl
   refine⟨by omega,_,_,rfl,rfl,x/256,by omega,by omega,by omega,?_⟩;simp only [av,aw,T.af,T.ag,T.ak,X2,X3,if_true,if_false,and_true,true_and]
  ·have h1:=Hr (by omega) hx0;have e:i+1=cz n:=by omega
   rw [e] at g3;apply W.run 20
   ·intro M;simp (disch:=first|decide+kernel|omega) only [F8,yF,qbA,Aq,X2,g0,bO,bm,hlt];rfl
   apply W.seq;apply W.run 20
   ·intro M;simp (disch:=first|decide+kernel|omega) only [yF,qbA,Aq,X2,g3];rfl
   apply W.run 20
   ·intro M;simp (disch:=first|decide+kernel|omega) only [yF,qbA,Aq,X2];rfl
   exact⟨by simp,rfl,rfl,by simp only [qbA,Aq,X2]<;>rfl⟩
 ·simp only [av,aw,T.af,T.ag,T.ak,X2,X3,if_true,if_false,and_true,true_and]
noncomputable def nv:Code:=qag.body.getD .skip
noncomputable def Gk:Code:=sub nv [1,1,1,1,0,1,0,0]
theorem wP:qag.body=some (.seq (sub nv [0]) (.seq (sub nv [1,0]) (.seq (sub nv [1,1,0]) (.seq (sub nv [1,1,1,0]) (.seq (.seq (sub nv [1,1,1,1,0,0]) (.block 0 (.loop Gk))) (.seq (sub nv [1,1,1,1,1,0]) (sub nv [1,1,1,1,1,1]))))))):=by kernel_rfl
theorem MA (hn:n<18446744073709551616):∃v A',bL bX 107 [.int .u64 n] A v A'∧v=strOf (bH n):=by
 refine cS (bB Tryz.func107) wP (by rw [Tryz.ntmps107];simp) (by kernel_rfl) (by kernel_rfl) ?_;have hle:=sP hn;apply W.seq;apply W.run 20
 ·intro M;simp (disch:=first|decide+kernel|omega) only [nv,qag,Aq,X2];rfl
 apply W.seq;by_cases h:n<248
 ·have c1:=bu (tb:=bX) (s:=103) (d:=5) (k:=.u64) (n:=n) (by rw [gZ];rfl) k6 (iV (by omega));have c2:=Bx (BE (D:=A) (show n<256 by omega));apply W.run 20
  ·intro M;simp (disch:=first|decide+kernel|omega) only [nv,qag,Aq,X2,h,c1,Sw,c2,WB];rfl
  exact⟨by simp,rfl,_,(by simp only [qag,Aq,X2]<;>rfl),by unfold bH;rw [if_pos h]⟩
 obtain⟨g,hg⟩:=Hy (A:=A) hn (by omega);have c1:=bu (tb:=bX) (s:=3) (d:=5) (k:=.i64) (n:=247+cz n) (by rw [Bf];rfl) k6 (iV (by omega));have a1:aN .add .i64 ((247:Nat):Int) ((cz n:Nat):Int)= .ok (.int .i64 (247+cz n:Nat)):=a9 (aR (by omega));apply W.run 20
 ·intro M;simp (disch:=first|decide+kernel|omega) only [nv,qag,Aq,X2,h];rfl
 apply W.seq;apply W.a6 (g) 20
 ·intro M hM;simp (disch:=first|decide+kernel|omega) only [nv,qag,Aq,X2,hg];rfl
 apply W.seq;apply W.run 20
 ·intro M;simp (disch:=first|decide+kernel|omega) only [nv,qag,Aq,X2,a1,c1,Sw];rfl
 show W bX _ _ _;have s1:=BE (D:=A) (show 247+cz n<256 by omega);apply W.seq;apply W.seq;apply W.run 20
 ·intro M;simp (disch:=first|decide+kernel|omega) only [nv,qag,Aq,X2];rfl
 apply W.block;refine W.up (cz n) (fun i t D=>∃b x,pQ D 5 b (eh (.ofNat (247+cz n)::Dn n i)) x∧b<D.next∧Sl t [(0,.int .u64 (n>>>(8*i):Nat)),(3,.int .i64 (cz n:Nat)),(4,x),(5,.int .i64 i)]) ?_ (Yg _) ⟨_,_,s1,by rw [ae];omega,?_⟩
 ·rintro i t D hi ⟨b,x,hs,hb,g0,g3,g4,g5,-⟩;by_cases hlt:i<cz n
  ·have hsh:n>>>(8*i)<18446744073709551616:=Y5 (Nat.shiftRight_le _ _) hn;have c2:=bu (tb:=bX) (s:=103) (d:=5) (k:=.u64) (n:=n>>>(8*i) % 256) (by rw [gZ];rfl) k6 (iV (by omega));have q:=m6 (b:=256) hsh (by omega);have e2:n>>>(8*i)/256=n>>>(8*(i+1)):=by rw [show 8*(i+1)=8*i+8 by omega,Nat.shiftRight_add];exact(YX _ 8).symm
   obtain⟨x',D',ha,hs',hn',-⟩:=OB hs (fun _=>hb) (by rw [Yf,jW];omega) (show n>>>(8*i) % 256<256 by omega);apply W.run 20
   ·intro M;simp (disch:=first|decide+kernel|omega) only [Gk,nv,qag,Aq,X2,g0,g3,g4,g5,hlt,c2,Sw,ha,q,e2];rfl
   refine⟨hlt,_,_,rfl,_,x',hs',by omega,?_⟩;simp only [av,aw,T.af,T.ag,T.ak,X2,X3,if_true,if_false,and_true,true_and,g3]
  ·have e:i=cz n:=by omega
   subst e;have c2:=Bx hs;apply W.run 20
   ·intro M;simp (disch:=first|decide+kernel|omega) only [Gk,nv,qag,Aq,X2,g3,g5,hlt];rfl
   apply W.seq;apply W.run 20
   ·intro M;simp (disch:=first|decide+kernel|omega) only [nv,qag,Aq,X2,g4,c2,WB];rfl
   apply W.run 20
   ·intro M;simp (disch:=first|decide+kernel|omega) only [nv,qag,Aq,X2];rfl
   exact⟨by simp,rfl,_,(by simp only [qag,Aq,X2]<;>rfl),by unfold bH;rw [if_neg h]⟩
 ·simp only [av,aw,T.af,T.ag,T.ak,X2,X3,if_true,if_false,and_true,true_and];simp
end Go.Proofs.YtggndfefpbmaeaaGreatDoor.sto
namespace Go.Am
theorem iC:∀x,a7 x x=false
 | []=>rfl
 |a::x=>by
  have:Ye a.toNat a.toNat=false:=by
   cases h:Ye a.toNat a.toNat with
   |false=>rfl
   |true=>rw [Yl] at h;omega
  simp [a7,this,iC x]
theorem kY:∀x y z,a7 x y=true→a7 y z=true→a7 x z=true
 |_,[],_,h,_=>by simp [a7] at h
 |_,_::_,[],_,h=>by simp [a7] at h
 | [],b::y,c::z,_,_=>rfl
 |a::x,b::y,c::z,h1,h2=>by
  simp only [a7,Bool.or_eq_true,Yq,Yl,qab] at h1 h2⊢;rcases h1 with h1|⟨h1,h1'⟩
  ·rcases h2 with h2|⟨h2,_⟩
   ·left;omega
   ·left;omega
  ·rcases h2 with h2|⟨h2,h2'⟩
   ·left;omega
   ·exact .inr ⟨by omega,kY x y z h1' h2'⟩
theorem nU:∀x y,a7 x y=false→a7 y x=false→x=y
 | [],[],_,_=>rfl
 | [],_::_,h,_=>by simp [a7] at h
 |_::_,[],_,h=>by simp [a7] at h
 |a::x,b::y,h1,h2=>by
  simp only [a7,qbF,Bool.and_eq_false_iff] at h1 h2;have e:a.toNat=b.toNat:=by
   rcases qar a.toNat b.toNat with h|h|h
   ·have:=h1.1;rw [show Ye a.toNat b.toNat=true by rw [Yl];exact h] at this;cases this
   ·exact h
   ·have:=h2.1;rw [show Ye b.toNat a.toNat=true by rw [Yl];exact h] at this;cases this
  have e1:a7 x y=false:=by
   rcases h1.2 with h|h
   ·rw [e] at h;simp at h
   ·exact h
  have e2:a7 y x=false:=by
   rcases h2.2 with h|h
   ·rw [e] at h;simp at h
   ·exact h
  rw [nU x y e1 e2,ZS.1 e]
end Go.Am
namespace Go.Mdl
open Go.Am
structure aP where
 word:List UInt8
 weight:Nat
 gone:Bool
deriving DecidableEq
abbrev lt (a b:List UInt8):Prop:=a7 a b=true
theorem SP (a:List UInt8):¬lt a a:=by unfold lt;rw [iC];simp
theorem Ly {a b c:List UInt8} (h:lt a b) (k:lt b c):lt a c:=kY _ _ _ h k
theorem Of {a b:List UInt8} (h:¬lt a b) (k:¬lt b a):a=b:=nU _ _ (by simpa [lt] using h) (by simpa [lt] using k)
def rj:List aP→Prop
 | []=>True
 |x::l=>(∀y∈l,lt x.word y.word)∧rj l
def mG (e:aP):List aP→List aP
 | []=>[e]
 |x::l=>if lt x.word e.word then x::mG e l else if x.word=e.word then e::l else e::x::l
variable {e:aP}
theorem Cz:∀{l:List aP} {y:aP},y∈mG e l→y=e∨y∈l
 | [],y,h=>by simp [mG] at h;exact .inl h
 |x::l,y,h=>by
  unfold mG at h;split at h
  ·rcases Yp.1 h with rfl|h
   ·exact .inr Yk
   ·rcases Cz h with h|h
    ·exact .inl h
    ·exact .inr (Yi _ h)
  ·split at h
   ·rcases Yp.1 h with h|h
    ·exact .inl h
    ·exact .inr (Yi _ h)
   ·rcases Yp.1 h with h|h
    ·exact .inl h
    ·exact .inr h
theorem Jh:∀{l:List aP},rj l→rj (mG e l)
 | [],_=>⟨fun y hy=>(by cases hy),trivial⟩
 |x::l,h=>by
  unfold mG;split
  ·rename_i hx;refine⟨fun y hy=>?_,Jh h.2⟩;rcases Cz hy with rfl|hy
   ·exact hx
   ·exact h.1 y hy
  ·split
   ·rename_i hx he;exact⟨fun y hy=>by rw [←he];exact h.1 y hy,h.2⟩
   ·rename_i hx he;have hex:lt e.word x.word:=qaW fun hn=>he (Of hx hn)
    refine⟨fun y hy=>?_,h⟩;rcases Yp.1 hy with rfl|hy
    ·exact hex
    ·exact Ly hex (h.1 y hy)
def live (l:List aP):List aP:=l.filter fun e=>!e.gone
def find (w:List UInt8) (l:List aP):Option aP:=l.find? fun e=>decide (e.word=w)
end Go.Mdl
namespace Go.Sto
open Go.Am Go.Mdl
structure cO where
 byte:UInt8
 out:Nat
 to:Nat
deriving DecidableEq
structure bj where
 fin:Bool
 out:Nat
 arcs:List cO
deriving DecidableEq
def val (e:aP):Nat:=if e.gone then 0 else e.weight+1
def least:List aP→Nat
 | []=>0
 |x::l=>l.foldl (fun n e=>min n (val e)) (val x)
def pR (M:List bj) (s:bj):List bj×Nat:=
 match M.findIdx? (fun x=>decide (x=s)) with
 |some i=>(M,i)
 |none=>(M++[s],M.length)
def ay (d:Nat) (e:aP):Option UInt8:=e.word[d]?
def dB (rec:List aP→Nat→List bj→List bj×Nat) (d less:Nat):List aP→List cO→List bj→List bj×List cO
 | [],X1,M=>(M,X1)
 |e::r,X1,M=>
  if ay d e=none∨(X1.getLast?).map (·.byte)=ay d e then dB rec d less r X1 M
  else
   dB rec d less r (X1++[⟨(ay d e).getD 0,least ((e::r).filter fun x=>decide (ay d x=ay d e))-less,(rec ((e::r).filter fun x=>decide (ay d x=ay d e)) (least ((e::r).filter fun x=>decide (ay d x=ay d e))) M).2⟩])
    (rec ((e::r).filter fun x=>decide (ay d x=ay d e)) (least ((e::r).filter fun x=>decide (ay d x=ay d e))) M).1
def iH (d less:Nat) (l:List aP):Bool×Nat:=l.foldl (fun s e=>if ay d e=none then(true,val e-less) else s) (false,0)
def oX:Nat→List aP→Nat→Nat→List bj→List bj×Nat
 |0,_,_,_,M=>(M,0)
 |f+1,l,d,less,M=>
  pR (dB (fun own n M=>oX f own (d+1) n M) d less l [] M).1 ⟨(iH d less l).1,(iH d less l).2,(dB (fun own n M=>oX f own (d+1) n M) d less l [] M).2⟩
def mz (M:List bj):Nat→Nat→List (List UInt8×Nat)
 |0,_=>[]
 |k+1,i=>match M[i]? with
  |none=>[]
  |some s=>(if s.fin then [([],s.out)] else [])++s.arcs.flatMap fun a=>(mz M k a.to).map fun w=>(a.byte::w.1,a.out+w.2)
def Ur (i:Nat) (s:bj):Prop:=(s.fin=false→s.out=0)∧(s.arcs.map (·.byte)).Pairwise (·<·)∧(∀a∈s.arcs,a.to<i)∧(s.fin=true∨s.arcs≠ [])∧((s.fin=true∧s.out=0)∨∃a∈s.arcs,a.out=0)
def dM (M:List bj):Prop:=∀i s,M[i]?=some s→Ur i s
theorem jI {α β:Type} {f g:α→List β}:∀{l:List α},(∀a∈l,f a=g a)→l.flatMap f=l.flatMap g
 | [],_=>rfl
 |x::l,h=>by rw [Y0,Y0,h x Yk,jI fun a ha=>h a (Yi _ ha)]
variable {M:List bj} {i:Nat}
theorem BX {M':List bj} (h:M<+:M') (hi:i<M.length):M'[i]?=M[i]?:=by
 obtain⟨t,rfl⟩:=h;rw [Yz hi]
theorem AW {M':List bj} (g:dM M) (h:M<+:M'):∀k i,i<M.length→mz M' k i=mz M k i
 |0,_,_=>rfl
 |k+1,i,hi=>by
  unfold mz;rw [BX h hi];have hs:M[i]?=some M[i]:=X6 hi;rw [hs];simp only
  congr 1;refine jI fun a ha=>?_
  rw [AW g h k a.to (Nat.lt_trans ((g i _ hs).2.2.1 a ha) hi)]
theorem Gp (g:dM M):∀i k,i<k→mz M k i=mz M (i+1) i:=by
 intro i
 induction i using qbf with
 |ind i ih=>
  intro k hk;obtain⟨k',rfl⟩:∃k',k=k'+1:=⟨k-1,by omega⟩;unfold mz;cases hs:M[i]? with
  |none=>rfl
  |some s=>
   simp only
   congr 1;refine jI fun a ha=>?_
   have ht:=(g i s hs).2.2.1 a ha;rw [ih a.to ht k' (by omega),ih a.to ht i ht]
def ws (M:List bj) (i:Nat):List (List UInt8×Nat):=mz M (i+1) i
def xS (M:List bj) (a:cO):List (List UInt8×Nat):=(ws M a.to).map fun w=>(a.byte::w.1,a.out+w.2)
theorem pS (g:dM M) {s:bj} (h:M[i]?=some s):ws M i=(if s.fin then [([],s.out)] else [])++s.arcs.flatMap (xS M):=by
 unfold ws;rw [mz,h];simp only
 congr 1;refine jI fun a ha=>?_
 unfold xS ws;rw [Gp g a.to i ((g i s h).2.2.1 a ha)]
theorem BQ {M':List bj} (g:dM M) (h:M<+:M') (hi:i<M.length):ws M' i=ws M i:=AW g h _ _ hi
def Good (M:List bj):Prop:=dM M∧M.Nodup∧∀i,i<M.length→∀w∈ws M i,w.2≤4294967296
def fS (M:List bj):Nat→Nat→Nat→Option Nat
 |0,_,_=>none
 |k+1,i,left=>match M[i]? with
  |none=>none
  |some s=>(s.arcs.foldl (fun o a=>o.bind fun L=>if L≤a.to then fS M k a.to L else some L) (some left)).bind fun L=>if i=L then some (L+1) else none
def iU (M:List bj) (k:Nat) (o:Option Nat) (a:cO):Option Nat:=o.bind fun L=>if L≤a.to then fS M k a.to L else some L
theorem fold_congr {α β:Type} {f g:β→α→β}:∀{l:List α} {b:β},(∀a∈l,∀b,f b a=g b a)→l.foldl f b=l.foldl g b
 | [],_,_=>rfl
 |x::l,b,h=>by rw [Zh,Zh,h x Yk,fold_congr fun a ha=>h a (Yi _ ha)]
variable {k:Nat}
theorem rA {left:Nat} {s:bj} (h:M[i]?=some s):fS M (k+1) i left=(s.arcs.foldl (iU M k) (some left)).bind fun L=>if i=L then some (L+1) else none:=by
 rw [fS,h];rfl
theorem uk {M':List bj} (g:dM M) (h:M<+:M'):∀k i left,i<M.length→fS M' k i left=fS M k i left
 |0,_,_,_=>rfl
 |k+1,i,left,hi=>by
  have hs:M[i]?=some M[i]:=X6 hi;rw [rA hs,rA ((BX h hi).trans hs)];congr 1;refine fold_congr fun a ha o=>?_
  unfold iU;congr 1;funext L;rw [uk g h k a.to L (Nat.lt_trans ((g i _ hs).2.2.1 a ha) hi)]
theorem ri {s:bj} (h:M.findIdx? (fun x=>decide (x=s))=some i):pR M s=(M,i):=by unfold pR;rw [h]
theorem yn {s:bj} (h:M.findIdx? (fun x=>decide (x=s))=none):pR M s=(M++[s],M.length):=by unfold pR;rw [h]
theorem Em {s:bj} (h:M.findIdx? (fun x=>decide (x=s))=some i):M[i]?=some s:=by
 obtain⟨hi,hp,-⟩:=List.findIdx?_eq_some_iff_getElem.1 h;rw [X6 hi];simpa using hp
theorem Np {s:bj} (h:M.findIdx? (fun x=>decide (x=s))=none):s∉M:=by
 intro hs;have:=qaS.1 h s hs;simp at this
theorem yP {s:bj} (g:dM M) (hs:Ur M.length s):dM (M++[s]):=by
 intro i x h;rcases YE i M.length with hi|hi
 ·rw [Yz hi] at h;exact g i x h
 ·rw [YA hi] at h;cases hq:i-M.length with
  |zero=>
   rw [hq] at h;cases h;rwa [show i=M.length by omega]
  |succ n=>
   rw [hq] at h;simp at h
theorem HP {s:bj} (g:dM M) (hs:Ur M.length s):ws (M++[s]) M.length=(if s.fin then [([],s.out)] else [])++s.arcs.flatMap (xS M):=by
 rw [pS (yP g hs) (show(M++[s])[M.length]?=some s by rw [YA (X9 _),Zg];rfl)];congr 1;refine jI fun a ha=>?_
 unfold xS;rw [BQ g (qbd _ _) (hs.2.2.1 a ha)]
theorem Kv {s:bj} (g:Good M) (hs:Ur M.length s) (hn:s∉M) (hv:∀w∈(if s.fin then [([],s.out)] else [])++s.arcs.flatMap (xS M),w.2≤4294967296):Good (M++[s]):=by
 refine⟨yP g.1 hs,?_,fun i hi w hw=>?_⟩
 ·rw [qbo];refine⟨g.2.1,by simp,fun a ha b hb=>?_⟩;rw [Y7] at hb;rintro rfl;subst hb;exact hn ha
 ·rw [X',Y9] at hi;rcases YE i M.length with h|h
  ·rw [BQ g.1 (qbd _ _) h] at hw;exact g.2.2 i h w hw
  ·obtain rfl:i=M.length:=by omega
   rw [HP g.1 hs] at hw;exact hv w hw
theorem n9:∀(l:List aP) (n:Nat),l.foldl (fun n e=>min n (val e)) n≤n∧∀e∈l,l.foldl (fun n e=>min n (val e)) n≤val e
 | [],n=>⟨X9 _,fun _ h=>(by cases h)⟩
 |x::l,n=>by
  obtain⟨h1,h2⟩:=n9 l (min n (val x));refine⟨YC h1 (qaM _ _),fun e he=>?_⟩;rcases Yp.1 he with rfl|he
  ·exact YC h1 (qbJ _ _)
  ·exact h2 e he
variable {e:aP}
theorem least_le {l:List aP} (h:e∈l):least l≤val e:=by
 cases l with
 |nil=>cases h
 |cons x l=>
  rcases Yp.1 h with rfl|h
  ·exact(n9 l _).1
  ·exact(n9 l _).2 e h
theorem vj:∀(l:List aP) (n:Nat),l.foldl (fun n e=>min n (val e)) n=n∨∃e∈l,l.foldl (fun n e=>min n (val e)) n=val e
 | [],n=>.inl rfl
 |x::l,n=>by
  rw [Zh];rcases vj l (min n (val x)) with h|⟨e,he,h⟩
  ·rcases qbT n (val x) with hl|hl
   ·exact .inl (by rw [h,Y4 hl])
   ·exact .inr ⟨x,Yk,by rw [h,ZY hl]⟩
  ·exact .inr ⟨e,Yi _ he,h⟩
theorem n_ {l:List aP} (h:l≠ []):∃e∈l,least l=val e:=by
 cases l with
 |nil=>exact absurd rfl h
 |cons x l=>
  rcases vj l (val x) with h|⟨e,he,h⟩
  ·exact⟨x,Yk,h⟩
  ·exact⟨e,Yi _ he,h⟩
def HI (d:Nat) (p:List UInt8) (l:List aP):Prop:=∀e∈l,e.word.take d=p∧d≤e.word.length
variable {d:Nat}
theorem Aw {p:List UInt8} (h:e.word.take d=p):e.word=p++e.word.drop d:=by rw [←h,qbp]
theorem js:ay d e=none↔e.word.length≤d:=List.getElem?_eq_none_iff
theorem uy {b:UInt8} (h:ay d e=some b):e.word.drop d=b::e.word.drop (d+1):=by
 obtain⟨hd,rfl⟩:=X_.1 h;rw [Y3 hd]
theorem AJ (h:ay d e=none):e.word.drop d=[]:=qbC.2 (js.1 h)
theorem Ud {p a b:List UInt8}:lt (p++a) (p++b)↔lt a b:=by
 induction p with
 |nil=>rfl
 |cons x p ih=>
  unfold lt at ih⊢;rw [YT,YT,←ih];simp [a7]
theorem QF {x y:UInt8} {a b:List UInt8} (h:lt (x::a) (y::b)):x≤y:=by
 unfold lt at h;simp only [a7] at h;rcases YE x.toNat y.toNat with hx|hx
 ·exact qbX hx
 ·rcases YE y.toNat x.toNat with hy|hy
  ·simp_all;omega
  ·exact UInt8.le_iff_toNat_le.2 hy
theorem S1 {a:List UInt8}:¬lt a []:=by
 unfold lt;cases a<;>simp [a7]
theorem tc {p:List UInt8} {x y:aP} (hx:x.word.take d=p) (hy:y.word.take d=p) (h:lt x.word y.word):∃c,ay d y=some c∧∀b,ay d x=some b→b≤c:=by
 rw [Aw hx,Aw hy,Ud] at h;cases hq:ay d y with
 |none=>rw [AJ hq] at h;exact absurd h S1
 |some c=>
  refine⟨c,rfl,fun b hb=>?_⟩;rw [uy hb,uy hq] at h;exact QF h
theorem jv {p:aP→Bool}:∀{l:List aP},rj l→rj (l.filter p)
 | [],_=>trivial
 |x::l,h=>by
  rw [YS];split
  ·exact⟨fun y hy=>h.1 y (Zq.1 hy).1,jv h.2⟩
  ·exact jv h.2
def D (d less:Nat) (e:aP):List UInt8×Nat:=(e.word.drop d,val e-less)
theorem vi {p:List UInt8} {b:UInt8}:∀{r:List aP},rj r→HI d p r→(∀y∈r,∃c,ay d y=some c∧b≤c)→r=r.filter (fun x=>decide (ay d x=some b))++r.filter (fun x=>decide (ay d x≠some b))
 | [],_,_,_=>rfl
 |x::r,ha,hb,h=>by
  obtain⟨c,hc,hbc⟩:=h x Yk;rw [YS,YS];by_cases hcb:c=b
  ·subst hcb;rw [if_pos (by simp [hc]),if_neg (by simp [hc]),YT];congr 1;exact vi ha.2 (fun e he=>hb e (Yi _ he)) fun y hy=>h y (Yi _ hy)
  ·rw [if_neg (by simp [hc,hcb]),if_pos (by simp [hc,hcb])];have hall:∀y∈r,ay d y≠some b:=by
    intro y hy hyb;obtain⟨c',h1,h2⟩:=tc (hb x Yk).1 (hb y (Yi _ hy)).1 (ha.1 y hy);have:=h2 c hc;rw [hyb] at h1;cases h1;exact hcb (UInt8.le_antisymm this hbc)
   rw [List.filter_eq_nil_iff.2 (fun y hy=>by simpa using hall y hy),qaw.2 (fun y hy=>by simpa using hall y hy)];rfl
def Fv (M:List bj) (q:List bj×Nat) (l:List aP) (d less:Nat):Prop:=
 Good q.1∧M<+:q.1∧q.2<q.1.length∧((q.1=M∧q.2<M.length)∨(M.length≤q.2∧q.1.length=q.2+1))∧ws q.1 q.2=l.map (D d less)∧(M.length≤q.2→∀k,q.2<k→fS q.1 k q.2 M.length=some q.1.length)
def Rx (rec:List aP→Nat→List bj→List bj×Nat) (d n:Nat) (p:List UInt8):Prop:=
 ∀own M b,Good M→own≠ []→rj own→HI (d+1) (p++[b]) own→(∀e∈own,e.word.length<n∧val e≤4294967296)→Fv M (rec own (least own) M) own (d+1) (least own)
variable {n:Nat}
theorem Cp {rec:List aP→Nat→List bj→List bj×Nat} {less:Nat} {p:List UInt8} (hrec:Rx rec d n p):
 ∀(r:List aP) (X1:List cO) (M:List bj),Good M→rj r→HI d p r→(∀e∈r,e.word.length<n∧val e≤4294967296)→(∀e∈r,less≤val e)→
  (∀y∈r,∀b,(X1.getLast?).map (·.byte)=some b→∃c,ay d y=some c∧b≤c)→
  ∃new,(dB rec d less r X1 M).2=X1++new∧Good (dB rec d less r X1 M).1∧M<+:(dB rec d less r X1 M).1∧(new.map (·.byte)).Pairwise (·<·)∧
   (∀a∈new,∀b,(X1.getLast?).map (·.byte)=some b→b<a.byte)∧(∀a∈new,a.to<(dB rec d less r X1 M).1.length)∧
   ((dB rec d less r X1 M).1=M∨∃a∈new,a.to+1=(dB rec d less r X1 M).1.length)∧
   new.flatMap (xS (dB rec d less r X1 M).1)=(r.filter fun x=>decide (ay d x≠none∧ay d x≠(X1.getLast?).map (·.byte))).map (D d less)∧
   ∀k,(dB rec d less r X1 M).1.length≤k→new.foldl (iU (dB rec d less r X1 M).1 k) (some M.length)=some (dB rec d less r X1 M).1.length
 | [],X1,M,g,_,_,_,_,_=>by
  unfold dB;exact⟨[],by simp,g,qbD _,by simp,fun a ha=>(by cases ha),fun a ha=>(by cases ha),.inl rfl,by simp,fun k _=>rfl⟩
 |e::r,X1,M,g,ha,hb,hl,hv,hy=>by
  have hb':HI d p r:=fun x hx=>hb x (Yi _ hx)
  have hl':∀x∈r,x.word.length<n∧val x≤4294967296:=fun x hx=>hl x (Yi _ hx)
  have hv':∀x∈r,less≤val x:=fun x hx=>hv x (Yi _ hx)
  unfold dB;by_cases hskip:ay d e=none∨(X1.getLast?).map (·.byte)=ay d e
  ·rw [if_pos hskip];obtain⟨new,h1,h2,h3,h4,h5,h6,h7,h8,h9⟩:=Cp hrec r X1 M g ha.2 hb' hl' hv' fun y hr b=>hy y (Yi _ hr) b
   refine⟨new,h1,h2,h3,h4,h5,h6,h7,?_,h9⟩;rw [h8,YS,if_neg];rcases hskip with h|h
   ·simp [h]
   ·simp [h]
  ·rw [if_neg hskip];simp only [not_or] at hskip;obtain⟨hn,hla⟩:=hskip;obtain⟨b,hbe⟩:∃b,ay d e=some b:=Option.ne_none_iff_exists'.1 hn;have hge:∀y∈e::r,∃c,ay d y=some c∧b≤c:=by
    intro y hyr;rcases Yp.1 hyr with rfl|hyr
    ·exact⟨b,hbe,UInt8.le_refl _⟩
    ·obtain⟨c,h1,h2⟩:=tc (hb e Yk).1 (hb' y hyr).1 (ha.1 y hyr);exact⟨c,h1,h2 b hbe⟩
   have hown:∀x∈(e::r).filter (fun x=>decide (ay d x=ay d e)),x∈e::r∧ay d x=some b:=by
    intro x hx;obtain⟨h1,h2⟩:=Zq.1 hx;exact⟨h1,by rw [←hbe];simpa using h2⟩
   have hne:(e::r).filter (fun x=>decide (ay d x=ay d e))≠ []:=by
    intro h;have:e∈(e::r).filter (fun x=>decide (ay d x=ay d e)):=Zq.2 ⟨Yk,by simp⟩;rw [h] at this;cases this
   have hsplit:=vi (b:=b) ha hb hge;have hbo:HI (d+1) (p++[b]) ((e::r).filter fun x=>decide (ay d x=ay d e)):=by
    intro x hx;obtain⟨h1,h2⟩:=hown x hx;obtain⟨hd,he⟩:=X_.1 h2;refine⟨?_,hd⟩;rw [Yd hd,(hb x h1).1,he]
   generalize hO:(e::r).filter (fun x=>decide (ay d x=ay d e))=own at hown hne hbo;obtain⟨r1,r2,r3,r4,r5,r6⟩:=hrec own M b g hne (hO▸jv ha) hbo fun x hx=>hl x (hown x hx).1
   generalize hq:rec own (least own) M=q at r1 r2 r3 r4 r5 r6;have hlast:(((X1++[(⟨(ay d e).getD 0,least own-less,q.2⟩:cO)]).getLast?).map (·.byte))=some b:=by
    rw [List.getLast?_append];simp [hbe]
   obtain⟨new,h1,h2,h3,h4,h5,h6,h7,h8,h9⟩:=Cp hrec r (X1++[⟨(ay d e).getD 0,least own-less,q.2⟩]) q.1 r1 ha.2 hb' hl' hv' (by
    intro y hyr b' hb2;rw [hlast] at hb2;cases hb2;exact hge y (Yi _ hyr))
   generalize dB rec d less r (X1++[⟨(ay d e).getD 0,least own-less,q.2⟩]) q.1=z at h1 h2 h3 h4 h5 h6 h7 h8 h9;have hqz:q.2<z.1.length:=Yt r3 h3.length_le;refine⟨⟨(ay d e).getD 0,least own-less,q.2⟩::new,by rw [h1,Y1];rfl,h2,r2.trans h3,?_,?_,?_,?_,?_,?_⟩
   ·rw [ZB,List.pairwise_cons];refine⟨fun c hc=>?_,h4⟩;obtain⟨a,ha1,rfl⟩:=YN.1 hc;have:=h5 a ha1 b hlast;simpa [hbe] using this
   ·intro a ha1 b' hb2;have hlt:b'<b:=by
     obtain⟨c,h1,h2⟩:=hy e Yk b' hb2;rw [hbe] at h1;cases h1;refine UInt8.lt_of_le_of_ne h2 fun h=>hla ?_
     rw [hb2,hbe,h]
    rcases Yp.1 ha1 with rfl|ha1
    ·simpa [hbe] using hlt
    ·exact UInt8.lt_trans hlt (h5 a ha1 b hlast)
   ·intro a ha1;rcases Yp.1 ha1 with rfl|ha1
    ·exact hqz
    ·exact h6 a ha1
   ·rcases h7 with h7|⟨a,ha1,h7⟩
    ·rcases r4 with⟨r4,-⟩|⟨-,r4⟩
     ·exact .inl (h7.trans r4)
     ·exact .inr ⟨_,Yk,by rw [h7];exact r4.symm⟩
    ·exact .inr ⟨a,Yi _ ha1,h7⟩
   ·rw [Y0,h8,hlast];have hall:(e::r).filter (fun x=>decide (ay d x≠none∧ay d x≠(X1.getLast?).map (·.byte)))=e::r:=by
     rw [qaw];intro y hyr;obtain⟨c,h1,h2⟩:=hge y hyr;simp only [ne_eq,decide_not,Bool.decide_and,h1,reduceCtorEq,not_false_eq_true,decide_true,ZK,decide_false,ZL];simp only [Bool.not_eq_eq_eq_not,Zo,decide_eq_false_iff_not];intro hc;obtain⟨c',h3,h4⟩:=hy e Yk c hc.symm;rw [hbe] at h3;cases h3;have:c=b:=UInt8.le_antisymm h4 h2;subst this;exact hla (by rw [←hc,hbe])
    rw [hall]
    conv=>rhs;rw [hsplit]
    rw [YV];congr 1
    ·have hO':(e::r).filter (fun x=>decide (ay d x=some b))=own:=by rw [←hO,hbe]
     rw [hO'];unfold xS;simp only
     rw [BQ r1.1 h3 r3,r5,List.map_map];refine List.map_congr_left fun x hx=>?_
     obtain⟨h1,h2⟩:=hown x hx;have hle:=least_le hx;have hll:less≤least own:=by
      obtain⟨y,hy1,hy2⟩:=n_ hne;rw [hy2];exact hv y (hown y hy1).1
     simp only [Function.comp,D,hbe,Za];rw [uy h2];congr 1;omega
    ·congr 1;rw [YS,if_neg (by simp [hbe])];refine List.filter_congr fun y hyr=>?_
     obtain⟨c,h1,-⟩:=hge y (Yi _ hyr);simp [h1]
   ·intro k hk;rw [Zh];have:iU z.1 k (some M.length) ⟨(ay d e).getD 0,least own-less,q.2⟩=some q.1.length:=by
     unfold iU;show(if M.length≤q.2 then fS z.1 k q.2 M.length else some M.length)=_;rcases r4 with⟨r4,r4'⟩|⟨r4,-⟩
     ·rw [if_neg (by omega),r4]
     ·rw [if_pos r4,uk r1.1 h3 k q.2 M.length r3];exact r6 r4 k (by omega)
    rw [this];exact h9 k hk
theorem Ew {less:Nat}:∀{l:List aP} {o:Bool×Nat},(∀e∈l,ay d e≠none)→l.foldl (fun s e=>if ay d e=none then(true,val e-less) else s) o=o
 | [],_,_=>rfl
 |x::l,o,h=>by
  rw [Zh,if_neg (h x Yk)];exact Ew fun e he=>h e (Yi _ he)
theorem TO {less:Nat} {p:List UInt8}:∀{l:List aP},rj l→HI d p l→((iH d less l).1=false→(iH d less l).2=0)∧
 l.map (D d less)=(if(iH d less l).1 then [([],(iH d less l).2)] else [])++(l.filter fun x=>decide (ay d x≠none)).map (D d less)
 | [],_,_=>⟨fun _=>rfl,rfl⟩
 |x::l,ha,hb=>by
  have hs:∀y∈l,ay d y≠none:=by
   intro y hy;obtain⟨c,h1,-⟩:=tc (hb x Yk).1 (hb y (Yi _ hy)).1 (ha.1 y hy);rw [h1];simp
  have hf:l.filter (fun x=>decide (ay d x≠none))=l:=qaw.2 fun y hy=>by simpa using hs y hy
  unfold iH;rw [Zh,Ew hs,YS,hf];by_cases hx:ay d x=none
  ·have h1:decide (ay d x≠none)=false:=by simp [hx]
   rw [h1];simp [hx,D,AJ hx]
  ·have h1:decide (ay d x≠none)=true:=by simpa using hx
   rw [h1];simp [hx]
theorem Nc:∀(f:Nat) (l:List aP) (d:Nat) (p:List UInt8) (M:List bj),Good M→l≠ []→rj l→HI d p l→(∀e∈l,e.word.length<d+f∧val e≤4294967296)→Fv M (oX f l d (least l) M) l d (least l)
 |0,l,d,p,M,g,hne,ha,hb,hl=>by
  obtain⟨x,hx⟩:=qaU l hne;have:=(hl x hx).1;have:=(hb x hx).2;omega
 |f+1,l,d,p,M,g,hne,ha,hb,hl=>by
  have hrec:Rx (fun own n M=>oX f own (d+1) n M) d (d+(f+1)) p:=fun own M b g1 h1 h2 h3 h4=>Nc f own (d+1) (p++[b]) M g1 h1 h2 h3 fun e he=>⟨by have:=(h4 e he).1;omega,(h4 e he).2⟩
  obtain⟨new,h1,h2,h3,h4,-,h6,h7,h8,h9⟩:=Cp (less:=least l) hrec l [] M g ha hb hl (fun e he=>least_le he) (fun y hy b hb=>by cases hb);obtain⟨f1,f2⟩:=TO (less:=least l) ha hb;unfold oX;generalize dB (fun own n M=>oX f own (d+1) n M) d (least l) l [] M=z at h1 h2 h3 h4 h6 h7 h8 h9;generalize iH d (least l) l=o at f1 f2;rw [Y6] at h1;rw [h1];have hf0:(l.filter fun x=>decide (ay d x≠none∧ay d x≠(([]:List cO).getLast?).map (·.byte)))=l.filter fun x=>decide (ay d x≠none):=List.filter_congr fun x _=>by simp
  rw [hf0] at h8;have hw:l.map (D d (least l))=(if o.1 then [([],o.2)] else [])++new.flatMap (xS z.1):=by rw [h8];exact f2
  have hs:Ur z.1.length ⟨o.1,o.2,new⟩:=by
   refine⟨f1,h4,h6,?_,?_⟩
   ·cases ho:o.1 with
    |true=>exact .inl rfl
    |false=>
     refine .inr fun hn=>?_
     simp only at hn;rw [ho,hn] at hw;simp at hw;exact hne hw
   ·obtain⟨x,hx,hxv⟩:=n_ hne;have hm:D d (least l) x∈l.map (D d (least l)):=YN.2 ⟨x,hx,rfl⟩;rw [hw] at hm;have hx0:(D d (least l) x).2=0:=by unfold D;simp only;omega
    rcases Zs.1 hm with hm|hm
    ·cases ho:o.1 with
     |true=>
      rw [ho,if_pos rfl,Y7] at hm;rw [hm] at hx0;exact .inl ⟨rfl,hx0⟩
     |false=>
      rw [ho] at hm;simp at hm
    ·obtain⟨a,ha1,ha2⟩:=qaf.1 hm;obtain⟨w,-,hw2⟩:=YN.1 ha2;rw [←hw2] at hx0;exact .inr ⟨a,ha1,by simp only at hx0;omega⟩
  cases hi:z.1.findIdx? (fun x=>decide (x=⟨o.1,o.2,new⟩)) with
  |some j=>
   rw [ri hi];have hj:=Em hi;have hjl:j<z.1.length:=(X_.1 hj).1;have hz:z.1=M:=by
    rcases h7 with h7|⟨a,ha1,h7⟩
    ·exact h7
    ·have:=(h2.1 j _ hj).2.2.1 a ha1;omega
   refine⟨h2,h3,hjl,.inl ⟨hz,by rw [←hz];exact hjl⟩,?_,fun h=>?_⟩
   ·rw [hw,pS h2.1 hj]
   ·simp only at h;rw [←hz] at h;omega
  |none=>
   rw [yn hi];have hn:=Np hi;have g2:=Kv h2 hs hn fun w hw1=>by
    rw [←hw] at hw1;obtain⟨x,hx,rfl⟩:=YN.1 hw1;exact YC (Nat.sub_le _ _) (hl x hx).2
   have hget:(z.1++[(⟨o.1,o.2,new⟩:bj)])[z.1.length]?=some ⟨o.1,o.2,new⟩:=by rw [YA (X9 _),Zg];rfl
   have hp:z.1<+:z.1++[(⟨o.1,o.2,new⟩:bj)]:=qbd _ _;refine⟨g2,h3.trans hp,by simp,.inr ⟨h3.length_le,by simp⟩,by rw [hw];exact HP h2.1 hs,fun _ k hk=>?_⟩
   ·simp only at hk;obtain⟨k',rfl⟩:∃k',k=k'+1:=⟨k-1,by omega⟩;rw [rA hget];have:List.foldl (iU (z.1++[(⟨o.1,o.2,new⟩:bj)]) k') (some M.length) new=some z.1.length:=by
     rw [←h9 k' (by omega)];refine fold_congr fun a ha1 b=>?_
     unfold iU;congr 1;funext L;rw [uk h2.1 hp k' a.to L (h6 a ha1)]
    show(List.foldl (iU (z.1++[(⟨o.1,o.2,new⟩:bj)]) k') (some M.length) new).bind _=_;rw [this];simp
end Go.Sto
namespace Go.Proofs.YtggndfefpbmaeaaGreatDoor.sto
open Go.Am Go.Mdl Go.Sto
theorem So:bX.bp 31=some (.int .u32):=by kernel_rfl
theorem tK:aY bX 67= .ok 3:=by kernel_rfl
variable {b:Nat}
theorem HJ:ax bX 67 (pw b 0) 1= .ok (pw b 1):=by kernel_rfl
theorem uP:ax bX 67 (pw b 0) 2= .ok (pw b 2):=by kernel_rfl
def ct (e:aP):List Value:=[strOf e.word,.int .u32 e.weight,.bool e.gone]
theorem aF (A:Mem) (e:TypeId) (l:List Value):VB (A.alloc (aa e l)) e A.next (.var l.length) l:=⟨by rw [ae];omega,gQ A e l⟩
theorem yU {a:Nat} (h:a+b<18446744073709551616):aN .add .u64 (a:Int) (b:Int)= .ok (.int .u64 (a+b:Nat)):=a9 (cL h)
variable {A:Mem} {e:aP}
theorem K4 (he:e.weight<4294967296):bL bX 151 [.agg ⟨ct e⟩] A (.int .u64 (val e:Nat)) (A.alloc (aa 67 (ct e))):=by
 have hv:=aF A 67 (ct e);have l1:aq bX (A.alloc (aa 67 (ct e))).get 31 (.pointer (some ⟨A.next,1,none⟩))= .ok (.int .u32 e.weight):=hv.ld rfl So rfl;have l2:aq bX (A.alloc (aa 67 (ct e))).get 4 (.pointer (some ⟨A.next,2,none⟩))= .ok (.bool e.gone):=hv.ld rfl K9 rfl;have c1:=bu (tb:=bX) (s:=31) (d:=103) (k:=.u32) (n:=e.weight) (by rw [So];rfl) gZ (cL (by omega));unfold val;cases hg:e.gone with
 |true=>
  rw [hg] at l2;refine aT (bB Tryz.func151) (c:=qbU.body.getD .skip) (by kernel_rfl) (by rw [Tryz.ntmps151];simp) (by kernel_rfl) (by kernel_rfl) ?_;apply W.run 60
  ·intro M;simp (disch:=first|decide+kernel|omega) only [qbU,Aq,X2,au,uP,l2];rfl
  exact⟨by simp,rfl,rfl,by simp only [qbU,Aq,X2,au,uP,l2]<;>rfl⟩
 |false=>
  rw [hg] at l2;refine aT (bB Tryz.func151) (c:=qbU.body.getD .skip) (by kernel_rfl) (by rw [Tryz.ntmps151];simp) (by kernel_rfl) (by kernel_rfl) ?_;apply W.run 60
  ·intro M;simp (disch:=first|decide+kernel|omega) only [qbU,Aq,X2,au,HJ,uP,l1,l2,c1,yU];rfl
  exact⟨by simp,rfl,rfl,by simp only [qbU,Aq,X2,au,HJ,uP,l1,l2,c1,yU]<;>rfl⟩
def Ht (e:aP):List Value:=[.agg ⟨ct e⟩]
theorem V6 {x y:aP} (h:Ht x=Ht y):x=y:=by
 obtain⟨w,n,g⟩:=x;obtain⟨w',n',g'⟩:=y;simp only [Ht,ct,YL,Value.agg.injEq,Array.mk.injEq,Value.int.injEq,Value.bool.injEq,and_true,true_and] at h;obtain⟨h1,h2,h3⟩:=h;have h1:w=w':=by unfold strOf at h1;simpa using h1
 cases qa9 h2;subst h1 h3;rfl
theorem F' {a b c:Int}:bL bX 104 [.int .i64 a,.int .i64 b,.int .i64 c] A (.bool (decide (b≤a∧a≤c))) A:=by
 by_cases h1:b≤a<;>by_cases h2:a≤c
 all_goals
  refine aT (bB Tryz.func104) (c:=Tryz.f104.body.getD .skip) (by kernel_rfl) (by rw [Tryz.ntmps104];simp) (by kernel_rfl) (by kernel_rfl) ?_;apply W.run 60
  ·intro M;simp (config:={maxSteps:=4000000}) (disch:=first|decide+kernel|omega|simp only [Wq,X2]) only [Tryz.f104,Aq,X5,reduceIte,X2,X3,bO,eY,h1,h2,and_true,true_and,and_false,false_and];rfl
  exact⟨by simp,rfl,rfl,by simp only [Tryz.f104,Aq,X5,reduceIte,X2,X3,bO,eY,h1,h2,and_true,true_and,and_false,false_and]<;>rfl⟩
theorem SI {w:List UInt8}:bL bX 196 [strOf w] A (.bool (decide (1≤w.length∧w.length≤255))) A:=by
 have hl:=cd (tb:=bX) (t:=9) (l:=w) nW;by_cases h1:1≤w.length<;>by_cases h2:w.length≤255
 all_goals
  refine aT (bB Tryz.func196) (c:=Tryz.f196.body.getD .skip) (by kernel_rfl) (by rw [Tryz.ntmps196];simp) (by kernel_rfl) (by kernel_rfl) ?_;apply W.run 60
  ·intro M;simp (config:={maxSteps:=4000000}) (disch:=first|decide+kernel|omega|simp only [Wq,X2]) only [Tryz.f196,Aq,X5,reduceIte,X2,X3,hl,bO,eY,bm,h1,h2,and_true,true_and,and_false,false_and];rfl
  exact⟨by simp,rfl,rfl,by simp only [Tryz.f196,Aq,X5,reduceIte,X2,X3,hl,bO,eY,bm,h1,h2,and_true,true_and,and_false,false_and]<;>rfl⟩
theorem QD {w:List UInt8}:bL bX 63 [strOf w] A (.bool (decide (0<w.length∧w.length≤64))) A:=by
 have hl:=cd (tb:=bX) (t:=9) (l:=w) nW;by_cases h1:0<w.length<;>by_cases h2:w.length≤64
 all_goals
  refine aT (bB Tryz.func63) (c:=Tryz.f63.body.getD .skip) (by kernel_rfl) (by rw [Tryz.ntmps63];simp) (by kernel_rfl) (by kernel_rfl) ?_;apply W.run 60
  ·intro M;simp (config:={maxSteps:=4000000}) (disch:=first|decide+kernel|omega|simp only [Wq,X2]) only [Tryz.f63,Aq,X5,reduceIte,X2,X3,hl,bR,eY,bm,bw,h1,h2,and_true,true_and,and_false,false_and];rfl
  exact⟨by simp,rfl,rfl,by simp only [Tryz.f63,Aq,X5,reduceIte,X2,X3,hl,bR,eY,bm,bw,h1,h2,and_true,true_and,and_false,false_and]<;>rfl⟩
variable {n:Nat}
theorem P5 (hn:n<1099511627776):bL bX 112 [.int .u64 n] A (.int .i64 n) A:=by
 have m1:aO bX .min [103,103] [.int .u64 n,.int .u64 (1099511627776:Nat)]= .ok (.int .u64 n):=by
  rw [Ip,Y4 (by omega)]
 have c1:=bu (tb:=bX) (s:=103) (d:=3) (k:=.u64) (n:=n) (by rw [gZ];rfl) Bf (aR (by omega));refine aT (bB Tryz.func112) (c:=Tryz.f112.body.getD .skip) (by kernel_rfl) (by rw [Tryz.ntmps112];simp) (by kernel_rfl) (by kernel_rfl) ?_;apply W.run 60
 ·intro M;simp (disch:=first|decide+kernel|omega) only [Tryz.f112,Aq,X2,m1,c1];rfl
 exact⟨by simp,rfl,rfl,by simp only [Tryz.f112,Aq,X2,m1,c1]<;>rfl⟩
theorem Lm {f:Bool}:bL bX 181 [.agg ⟨[.int .u64 n,.bool f]⟩] A (.bool (f&&decide (n≤4294967296))) (A.alloc (aa 257 [.int .u64 n,.bool f])):=by
 have hv:=aF A 257 [.int .u64 n,.bool f];have l1:aq bX (A.alloc (aa 257 [.int .u64 n,.bool f])).get 103 (pw A.next 0)= .ok (.int .u64 n):=hv.ld rfl gZ rfl;have l2:aq bX (A.alloc (aa 257 [.int .u64 n,.bool f])).get 4 (pw A.next 1)= .ok (.bool f):=hv.ld rfl K9 rfl;have f0:∀b,ax bX 257 (pw b 0) 0= .ok (pw b 0):=fun b=>by kernel_rfl
 have f1:∀b,ax bX 257 (pw b 0) 1= .ok (pw b 1):=fun b=>by kernel_rfl
 cases f
 all_goals
  refine aT (bB Tryz.func181) (c:=Tryz.f181.body.getD .skip) (by kernel_rfl) (by rw [Tryz.ntmps181];simp) (by kernel_rfl) (by kernel_rfl) ?_;apply W.run 60
  ·intro M;simp (config:={maxSteps:=4000000}) (disch:=first|decide+kernel|omega|simp only [Wq,X2]) only [Tryz.f181,Aq,X5,reduceIte,X2,X3,au,f0,f1,l1,l2,eY,bm,ZK,qa1];rfl
  exact⟨by simp,rfl,rfl,by simp only [Tryz.f181,Aq,X5,reduceIte,X2,X3,au,f0,f1,l1,l2,eY,bm,ZK,qa1]<;>rfl⟩
end Go.Proofs.YtggndfefpbmaeaaGreatDoor.sto
namespace Go.Proofs.YtggndfefpbmaeaaGreatDoor.sto
open Go.Am
abbrev Tf:List UInt8:=[48,49,50,51,52,53,54,55,56,57,97,98,99,100,101,102,103,104,105,106,107,108,109,110,111,112,113,114,115,116,117,118,119,120,121,122]
def Gb (d:Nat):UInt8:=Tf.getD d 0
def nt:Nat→Nat→List UInt8
 |0,_=>[]
 |k+1,n=>if n<36 then [Gb n] else nt k (n/36)++[Gb (n % 36)]
def pO (n:Nat):List UInt8:=nt 13 n
theorem yZ:∀k n,(nt k n).length≤k
 |0,_=>X9 _
 |k+1,n=>by
  unfold nt;split
  ·simp
  ·rw [X'];have:=yZ k (n/36);simp;omega
def QI (c:UInt8):Nat:=if c<58 then c.toNat-48 else c.toNat-87
theorem v9:∀d,d<36→QI (Gb d)=d∧48≤(Gb d).toNat:=by decide
theorem xp:∀k n,n<36^k→(nt k n).foldl (fun a c=>36*a+QI c) 0=n
 |0,n,h=>by simp at h;subst h;rfl
 |k+1,n,h=>by
  unfold nt;split
  ·rename_i h1;show 36*0+QI (Gb n)=n;rw [(v9 n h1).1];omega
  ·rw [ZA,xp k (n/36) (by rw [qbr] at h;omega)];show 36*(n/36)+QI (Gb (n % 36))=n;rw [(v9 _ (Y8 _ (by omega))).1];omega
theorem se:∀k n,∀c∈nt k n,48≤c.toNat
 |0,_,c,h=>by cases h
 |k+1,n,c,h=>by
  unfold nt at h;split at h
  ·rename_i h1;rw [Y7.1 h];exact(v9 n h1).2
  ·rcases Zs.1 h with h|h
   ·exact se k _ c h
   ·rw [Y7.1 h];exact(v9 _ (Y8 _ (by omega))).2
theorem Xq:b7 bX 330= .ok (.agg ⟨YP 65 (.int .u8 0)⟩):=by kernel_rfl
theorem Na:bX.bp 330=some (.array 65 5):=by kernel_rfl
variable {b i:Nat}
theorem Sh (h:i<65):aZ bX 330 (pw b 0) (.int .i64 i)= .ok (pw b i):=by
 have:=iA (tb:=bX) (b:=b) (o:=0) (k:=.i64) Na xG h;rwa [Yy] at this
variable {A:Mem} {o c:Nat} {l:List Value}
theorem Mx {k:Kd} {w:List UInt8} {e:TypeId} (h:dD A e b k l) (hw:l.drop o=eh w) (h0:w≠ []):cY bX A.get 48 9 (.slice (some ⟨b,o,none⟩) w.length c)= .ok (strOf w):=by
 obtain⟨cs,h1,h2⟩:=h;have hg:cs.ji w.length o=some (eh w):=gL cs w.length o (eh w) (eu w) (fun j hj=>by
  have e1:(eh w)[j]?=l[o+j]?:=by rw [←hw,ZW]
  rw [e1];refine h2 (o+j) ?_;have:=congrArg ZD hw;rw [Zj,eu] at this;omega)
 have hb:Yc w.length 0=false:=by
  cases hq:Yc w.length 0 with
  |false=>rfl
  |true=>
   have:=Yn hq;exact absurd (Yh.1 (by omega)) h0
 unfold cY;simp only [y9,nW,k6,ik,c_,hb,cond_false,h1,Zf,hg,R.aA];rw [show bytesOf (eh w)= .ok w from iJ w];rfl
theorem Od (h:i<65):dj bX 330 (.pointer (some ⟨b,0,none⟩)) (some (.int .i64 i)) none none= .ok (.slice (some ⟨b,i,none⟩) (65-i) (2*(65-i))):=by
 have e1:bound (some (.int .i64 i)) 0 65= .ok i:=by
  show(bif X5 i 65 then R.ok i else _)=_;rw [show X5 i 65=true by rw [qaT];omega];rfl
 have e2:bound none 65 65= .ok 65:=rfl;have e3:Yc 65 i=false:=by
  cases hq:Yc 65 i with
  |false=>rfl
  |true=>have:=Yn hq;omega
 unfold dj;simp only [Na,e2,e1,R.aA,xG,e3,cond_false,jh,Zf,Yy]
variable {d:Nat}
theorem EL {kd:IntKind} (h:d<36):mV bX 9 (strOf Tf) (.int kd (d:Int))= .ok (.int .u8 ((Gb d).toNat:Nat)):=ed nW h
theorem HY (t:T Value):ev t (.const (.string ⟨#[48,49,50,51,52,53,54,55,56,57,97,98,99,100,101,102,103,104,105,106,107,108,109,110,111,112,113,114,115,116,117,118,119,120,121,122]⟩))= .ok (strOf Tf):=rfl
noncomputable def fP:Code:=ZH.body.getD .skip
noncomputable def GK:Code:=sub fP [1,1,1,1,1,0,1,1,1,0,0,0]
theorem PA:ZH.body=some (.seq (sub fP [0]) (.seq (sub fP [1,0]) (.seq (sub fP [1,1,0]) (.seq (sub fP [1,1,1,0]) (.seq (sub fP [1,1,1,1,0]) (.seq (.seq (sub fP [1,1,1,1,1,0,0]) (sub fP [1,1,1,1,1,0,1])) (.seq (sub fP [1,1,1,1,1,1,0]) (.seq (sub fP [1,1,1,1,1,1,1,0]) (.seq (sub fP [1,1,1,1,1,1,1,1,0]) (sub fP [1,1,1,1,1,1,1,1,1])))))))))):=by kernel_rfl
theorem QQ:sub fP [1,1,1,1,1,0,1]= .cond (.tmp 34) (sub fP [1,1,1,1,1,0,1,0]) (.seq (sub fP [1,1,1,1,1,0,1,1,0]) (.seq (.block 2 (.loop GK)) (.seq (sub fP [1,1,1,1,1,0,1,1,1,1,0]) (sub fP [1,1,1,1,1,0,1,1,1,1,1])))):=by kernel_rfl
theorem PR:bL bX 231 [.int .i64 (36:Nat)] A (.bool false) A:=by
 have e:aN .and .i64 ((36:Nat):Int) ((35:Nat):Int)= .ok (.int .i64 (32:Nat)):=by kernel_rfl
 have e2:aN .sub .i64 ((36:Nat):Int) ((1:Nat):Int)= .ok (.int .i64 (35:Nat)):=by kernel_rfl
 refine aT (bB Tryz.func231) (c:=Tryz.f231.body.getD .skip) (by kernel_rfl) (by rw [Tryz.ntmps231];simp) (by kernel_rfl) (by kernel_rfl) ?_;apply W.run 60
 ·intro M;simp (disch:=first|decide+kernel|omega) only [Tryz.f231,Aq,X2,e,e2];rfl
 exact⟨by simp,rfl,rfl,by simp only [Tryz.f231,Aq,X2,e,e2]<;>rfl⟩
variable {n:Nat}
theorem Mq (hn:n<18446744073709551616):∃v A',bL bX 203 [.slice none 0 0,.int .u64 n,.int .i64 (36:Nat),.bool false,.bool false] A v A'∧v= .tuple ⟨[.slice none 0 0,strOf (pO n)]⟩:=by
 refine cS (bB Tryz.func203) PA (by rw [Tryz.ntmps203];simp) (by kernel_rfl) (by kernel_rfl) ?_;obtain⟨g,hg⟩:=PR (A:=A.alloc (aa 330 (YP 65 (.int .u8 0))));apply W.seq;apply W.run 20
 ·intro M;simp (disch:=first|decide+kernel|omega) only [fP,ZH,Aq,X2];rfl
 apply W.seq;apply W.run 20
 ·intro M;simp (config:={maxSteps:=4000000}) (disch:=first|decide+kernel|omega|simp only [Wq,X2]) only [fP,ZH,Aq,X5,reduceIte,X2,X3,bR,bw,Nat.reduceLT];rfl
 apply W.seq;apply W.run 20
 ·intro M;simp (disch:=first|decide+kernel|omega) only [fP,ZH,Aq,X2,Xq,au];rfl
 apply W.seq;apply W.run 20
 ·intro M;simp (disch:=first|decide+kernel|omega) only [fP,ZH,Aq,X2];rfl
 apply W.seq;apply W.run 20
 ·intro M;simp (disch:=first|decide+kernel|omega) only [fP,ZH,Aq,X2];rfl
 apply W.seq;apply W.seq;apply W.a6 (g) 20
 ·intro M hM;simp (disch:=first|decide+kernel|omega) only [fP,ZH,Aq,X2,hg];rfl
 show W bX (sub fP [1,1,1,1,1,0,1]) _ _;rw [QQ];refine W.cond (p:=false) (by simp only [T.af,X2,if_true,if_false,fR,dA]) (fun h=>by cases h) fun _=>?_
 have cv:=bu (tb:=bX) (s:=3) (d:=103) (k:=.i64) (n:=36) (by rw [Bf];rfl) gZ (cL (by omega));apply W.seq;apply W.run 20
 ·intro M;simp (disch:=first|decide+kernel|omega) only [fP,ZH,Aq,X2,cv];rfl
 apply W.seq;apply W.block;refine W.up 12 (fun j t D=>∃l u w,D=A.alloc (aa 330 l)∧l.length=65∧(∀v∈l,aJ v=true)∧pO n=nt (13-j) u++w∧u<36^(13-j)∧u<18446744073709551616∧w.length=j∧l.drop (65-j)=eh w∧Sl t [(1,.int .u64 u),(3,.bool false),(4,.bool false),(10,.slice none 0 0),(12,pw A.next 0),(13,.int .i64 (65-j:Nat)),(17,.int .u64 (36:Nat))]) ?_ (Yg _) ⟨_,n,[],rfl,by simp,by simp [aJ],by rw [Y'];rfl,by omega,hn,rfl,by rw [qbj (by simp)];rfl,?_⟩
 ·rintro j t D hj ⟨l,u,w,rfl,hl,h1,hd,hu,hu2,hw,hdr,g1,g3,g4,g10,g12,g13,g17,-⟩;have s1:aN .sub .i64 ((65-j:Nat):Int) ((1:Nat):Int)= .ok (.int .i64 (65-(j+1):Nat)):=by rw [bq (by omega) (aR (by omega)),show 65-j-1=65-(j+1) by omega]
  have st:∀c:UInt8,aW bX (A.alloc (aa 330 l)) 5 (pw A.next (65-(j+1))) (.int .u8 (c.toNat:Nat))= .ok (A.alloc (aa 330 (l.set (65-(j+1)) (.int .u8 (c.toNat:Nat))))):=fun c=>df xG rfl rfl (by omega)
  have hset:∀c:UInt8,(l.set (65-(j+1)) (.int .u8 (c.toNat:Nat))).drop (65-(j+1))=eh (c::w):=fun c=>by
   rw [Y3 (by rw [YG];omega),List.getElem_set_self,show 65-(j+1)+1=65-j by omega,List.drop_set_of_lt (by omega),hdr];rfl
  obtain⟨k,hk⟩:∃k,13-j=k+1:=⟨12-j,by omega⟩;rw [hk] at hd hu;by_cases hge:36≤u
  ·have q1:=m6 (b:=36) hu2 (by omega);have m1:aN .mul .u64 ((u/36:Nat):Int) ((36:Nat):Int)= .ok (.int .u64 (u/36*36:Nat)):=gq (cL (by omega));have s2:aN .sub .u64 ((u:Nat):Int) ((u/36*36:Nat):Int)= .ok (.int .u64 (u % 36:Nat)):=by rw [bq (by omega) (cL (by omega)),show u-u/36*36=u % 36 by omega]
   have ix:=EL (d:=u % 36) (kd:=.u64) (Y8 _ (by omega));have st1:=st (Gb (u % 36));have hd2:nt (k+1) u=nt k (u/36)++[Gb (u % 36)]:=by rw [nt,if_neg (by omega)]
   apply W.run 20
   ·intro M;simp (disch:=first|decide+kernel|omega) only [GK,fP,ZH,Aq,X2,g1,g12,g13,g17,bO,bm,hge,s1,q1,m1,s2,HY,ix,Sh,st1];rfl
   have hj2:j<12:=by
    rcases YE j 12 with h|h
    ·exact h
    ·have e:k=0:=by omega
     subst e;simp at hu;omega
   refine⟨hj2,_,_,rfl,_,u/36,Gb (u % 36)::w,rfl,by rw [YG];exact hl,fun v hv=>?_,?_,?_,by omega,by rw [Yf,hw],hset _,?_⟩
   ·rcases Zw hv with hv|rfl
    ·exact h1 v hv
    ·rfl
   ·rw [hd,hd2,show 13-(j+1)=k by omega,Y1];rfl
   ·rw [show 13-(j+1)=k by omega];rw [qbr] at hu;omega
   ·simp only [av,aw,T.af,T.ag,T.ak,X2,X3,if_true,if_false,and_true,true_and,g3,g4,g10,g12,g17]
  ·have ix:=EL (d:=u) (kd:=.u64) (by omega);have st1:=st (Gb u);have hd2:nt (k+1) u=[Gb u]:=by rw [nt,if_pos (by omega)]
   rw [hd2] at hd;have sl:=Od (b:=A.next) (i:=65-(j+1)) (by omega);have hsv:cY bX (A.alloc (aa 330 (l.set (65-(j+1)) (.int .u8 ((Gb u).toNat:Nat))))).get 48 9 (.slice (some ⟨A.next,65-(j+1),none⟩) (65-(65-(j+1))) (2*(65-(65-(j+1)))))= .ok (strOf (pO n)):=by
    have h:=Mx (A:=A.alloc (aa 330 (l.set (65-(j+1)) (.int .u8 ((Gb u).toNat:Nat))))) (c:=2*(j+1)) (gQ A 330 _) (hset (Gb u)) (by simp);rw [Yf,hw] at h;rw [show 65-(65-(j+1))=j+1 by omega,hd];exact h
   apply W.run 20
   ·intro M;simp (disch:=first|decide+kernel|omega) only [GK,fP,ZH,Aq,X2,g1,g17,bO,bm,hge];rfl
   apply W.seq;apply W.run 20
   ·intro M;simp (disch:=first|decide+kernel|omega) only [fP,ZH,Aq,X2,g13,s1];rfl
   apply W.run 20
   ·intro M;simp (disch:=first|decide+kernel|omega) only [fP,ZH,Aq,X2,g1,g12,HY,ix,Sh,st1];rfl
   apply W.seq;apply W.run 20
   ·intro M;simp (disch:=first|decide+kernel|omega) only [fP,ZH,Aq,X2,g3];rfl
   apply W.seq;apply W.run 20
   ·intro M;simp (disch:=first|decide+kernel|omega) only [fP,ZH,Aq,X2,g4];rfl
   apply W.seq;apply W.run 20
   ·intro M;simp (disch:=first|decide+kernel|omega) only [fP,ZH,Aq,X2,g12,sl,WB,hsv];rfl
   apply W.run 20
   ·intro M;simp (disch:=first|decide+kernel|omega) only [fP,ZH,Aq,X2];rfl
   exact⟨by simp,rfl,_,(by simp only [ZH,Aq,X2,g10]<;>rfl),rfl⟩
 ·simp only [av,aw,T.af,T.ag,T.ak,X2,X3,if_true,if_false,and_true,true_and]
theorem PI (hn:n<18446744073709551616):∃A',bL bX 220 [.int .u64 n,.int .i64 (36:Nat)] A (strOf (pO n)) A':=by
 obtain⟨v,B,⟨g,hg⟩,rfl⟩:=Mq (A:=A) hn;have h237:bL bX 237 [.int .u64 n,.int .i64 (36:Nat)] A (strOf (pO n)) B:=by
  refine aT (bB Tryz.func237) (c:=Tryz.f237.body.getD .skip) (by kernel_rfl) (by rw [Tryz.ntmps237];simp) (by kernel_rfl) (by kernel_rfl) ?_;apply W.a6 (g) 60
  ·intro M hM;simp (disch:=first|decide+kernel|omega) only [Tryz.f237,Aq,X2,hg,X8,X7];rfl
  exact⟨by simp,rfl,rfl,by simp only [Tryz.f237,Aq,X2,hg,X8,X7]<;>rfl⟩
 obtain⟨g2,hg2⟩:=h237;refine⟨B,?_⟩;refine aT (bB Tryz.func220) (c:=Tryz.f220.body.getD .skip) (by kernel_rfl) (by rw [Tryz.ntmps220];simp) (by kernel_rfl) (by kernel_rfl) ?_;apply W.a6 (g2) 60
 ·intro M hM;simp (disch:=first|decide+kernel|omega) only [Tryz.f220,Aq,X2,hg2];rfl
 exact⟨by simp,rfl,rfl,by simp only [Tryz.f220,Aq,X2,hg2]<;>rfl⟩
end Go.Proofs.YtggndfefpbmaeaaGreatDoor.sto
namespace Go.Proofs.YtggndfefpbmaeaaGreatDoor.crc
open Go.Am
noncomputable def bX:bI:=OK qao.prog .e
theorem eK:cg bX:=DZ qao _ fun f k fn h=>by cases h
variable {k:Nat} {fn:Func}
theorem bB (h:YO.funcs[k]?=some fn):bX.fn.get k=some fn:=by
 show(T.ofList qao.prog.funcs.toList).get k=_;rw [T.gk,Yu];exact h
theorem nW:bX.bp 9=some .string:=by kernel_rfl
theorem L5:bX.bp 31=some (.int .u32):=by kernel_rfl
theorem k6:bX.bp 5=some (.int .u8):=by kernel_rfl
def BD (n b:Nat):Nat:=if n % 2≠b then n/2^^^3988292384 else n/2
variable {n:Nat}
theorem Rc (b:Nat) (h:n<4294967296):BD n b<4294967296:=by
 unfold BD;split
 ·exact ZG (n:=32) (by omega) (by omega)
 ·omega
theorem QM (n b:Nat) (hn:n<4294967296):call bX 30 154 [.int .u32 n,.int .u32 b] dX= .ok (.val (.int .u32 (BD n b)) dX):=by
 unfold call;simp only [bB Tryz.func154];simp only [Tryz.f154,lM,Yf,Ys];have h2:n/2<4294967296:=by omega
 by_cases hb:n % 2=b
 all_goals
  simp (disch:=first|decide+kernel|omega|simp only [Wq,X2]) only [Aq,X5,reduceIte,X2,X3,hb];simp [BD,hb]
theorem Hg (n:Nat) (hn:n<4294967296):call bX 30 153 [.int .u32 n] dX= .ok (.val (.int .u32 (4294967295-n:Nat)) dX):=by
 unfold call;simp only [bB Tryz.func153];simp only [Tryz.f153,lM,Yf,Ys];simp (disch:=first|decide+kernel|omega|simp only [Wq,X2]) only [Aq,X5,reduceIte,X2,X3]
def KH:List Value→Option Value
 | [.int .u32 (.ofNat n),.int .u32 (.ofNat b)]=>if n<4294967296 then some (.int .u32 (BD n b)) else none
 |_=>none
def oS:List Value→Option Value
 | [.int .u32 (.ofNat n)]=>if n<4294967296 then some (.int .u32 (4294967295-n:Nat)) else none
 |_=>none
theorem NL:b8 bX.P 154 (aM KH):=by
 refine dP eK (bB Tryz.func154) (c:=(Tryz.f154.body).getD .skip) (by kernel_rfl) fun args v h=>?_
 unfold KH at h;split at h
 ·rename_i n b;split at h
  ·rename_i hn;cases h;exact⟨by simp [flat],by simp [flat],_,_,QM n b hn⟩
  ·cases h
 ·cases h
theorem Ep:b8 bX.P 153 (aM oS):=by
 refine dP eK (bB Tryz.func153) (c:=(Tryz.f153.body).getD .skip) (by kernel_rfl) fun args v h=>?_
 unfold oS at h;split at h
 ·rename_i n;split at h
  ·rename_i hn;cases h;exact⟨by simp [flat],by simp [flat],_,_,Hg n hn⟩
  ·cases h
 ·cases h
noncomputable def ai:bI:=(bX.pK 154 (aM KH)).pK 153 (aM oS)
theorem wR:cg ai:=bZ (bZ eK NL) Ep
variable {A:Mem} {b:Nat}
theorem call19 {ih:Code→St→R (Ex×St)} (hn:n<4294967296):bg ai ih (.fn 154 [.int .u32 n,.int .u32 b]) A= .ok (.val (.int .u32 (BD n b)) A):=
 bW (c:=(Tryz.f154.body).getD .skip) (bB Tryz.func154) (by kernel_rfl) (by kernel_rfl) (h:=aM KH) (by kernel_rfl) (by
  unfold aM;show(match KH [.int .u32 (.ofNat n),.int .u32 (.ofNat b)] with|some v=>R.ok (v,A)|none=>.no 600)=_;simp only [KH,if_pos hn])
theorem call18 {ih:Code→St→R (Ex×St)} (hn:n<4294967296):bg ai ih (.fn 153 [.int .u32 n]) A= .ok (.val (.int .u32 (4294967295-n:Nat)) A):=
 bW (c:=(Tryz.f153.body).getD .skip) (bB Tryz.func153) (by kernel_rfl) (by kernel_rfl) (h:=aM oS) (by kernel_rfl) (by
  unfold aM;show(match oS [.int .u32 (.ofNat n)] with|some v=>R.ok (v,A)|none=>.no 600)=_;simp only [oS,if_pos hn])
theorem Ev:ai.bp 9=some .string:=nW
theorem MZ:ai.bp 31=some (.int .u32):=L5
theorem Ng:ai.bp 5=some (.int .u8):=k6
def Xk (p:Nat×Nat):Nat×Nat:=(BD p.1 (p.2 % 2),p.2/2)
def vM:Nat→Nat×Nat→Nat×Nat
 |0,p=>p
 |k+1,p=>Xk (vM k p)
theorem wa {p:Nat×Nat} (h1:p.1<4294967296) (h2:p.2<4294967296):∀k,(vM k p).1<4294967296∧(vM k p).2<4294967296
 |0=>⟨h1,h2⟩
 |k+1=>by
  obtain⟨a,b⟩:=wa h1 h2 k;refine⟨Rc _ a,?_⟩;show(vM k p).2/2<_;omega
def yL (n c:Nat):Nat:=(vM 8 (n,c)).1
variable {c:Nat}
theorem OH (h:n<4294967296) (h2:c<4294967296):yL n c<4294967296:=(wa (p:=(n,c)) h h2 8).1
def lY (n:Nat) (l:List UInt8):Nat:=l.foldl (fun n c=>yL n c.toNat) n
theorem BV (h:n<4294967296) (l:List UInt8):lY n l<4294967296:=by
 unfold lY
 induction l generalizing n with
 |nil=>exact h
 |cons c l ih=>exact ih (OH h (by have:=c.toNat_lt;omega))
noncomputable def CW:Code:=ZO.body.getD .skip
noncomputable def jd:Code:=sub CW [1,1,0,1,0,0]
noncomputable def IN:Code:=sub jd [1,0,0,1,1,0,0]
theorem OZ:ZO.body=some (.seq (sub CW [0]) (.seq (sub CW [1,0]) (.seq (.seq (sub CW [1,1,0,0]) (.block 0 (.loop jd))) (.seq (sub CW [1,1,1,0]) (sub CW [1,1,1,1]))))):=by kernel_rfl
theorem OY:jd=(.seq (.seq (sub jd [0,0]) (sub jd [0,1])) (.seq (.block 1 (.seq (sub jd [1,0,0,0]) (.seq (sub jd [1,0,0,1,0]) (.block 2 (.loop IN))))) (sub jd [1,1]))):=by kernel_rfl
def In (l:List UInt8) (a:Nat) (p:Nat×Nat) (i:Nat) (s:St):Prop:=
 s.n=30∧s.d=[]∧s.ro=none∧s.m=dX∧s.t.get 0=some (strOf l)∧s.t.get 4=some (.int .i64 (a:Nat))∧s.t.get 3=some (.int .u32 ((vM i p).1:Nat))∧s.t.get 5=some (.int .u32 ((vM i p).2:Nat))∧s.t.get 6=some (.int .i64 (i:Nat))
theorem QZ {l:List UInt8} {a n0:Nat} (h1:n0<4294967296) (h2:c<4294967296) {s:St} {K:Ex→St→Prop} (h:In l a (n0,c) 0 s)
 (hk:∀t:T Value,t.get 0=some (strOf l)→t.get 4=some (.int .i64 (a:Nat))→t.get 3=some (.int .u32 (yL n0 c:Nat))→K (.exit 2) ⟨t,30,[],dX,none⟩):W ai (.loop IN) s K:=by
 refine W.loop (fun s=>∃i,i≤8∧In l a (n0,c) i s) (fun s=>8-(match s.t.get 6 with|some (.int _ i)=>i.toNat|_=>0)) ?_ ⟨0,by omega,h⟩;rintro⟨t,n,d,m,ro⟩ ⟨i,hi,h01,h02,h03,h04,g0,g4,g3,g5,g6⟩;simp only at h01 h02 h03 h04 g0 g4 g3 g5 g6;subst h01 h02 h03 h04;obtain⟨b1,b2⟩:=wa (p:=(n0,c)) h1 h2 i;by_cases hlt:i<8
 ·apply W.run 20
  ·intro m;simp (disch:=first|decide+kernel|omega) only [IN,jd,CW,ZO,Aq,X2,g0,g3,g4,g5,g6,call19,hlt];rfl
  ·refine⟨⟨i+1,by omega,rfl,rfl,rfl,rfl,?_,?_,?_,?_,?_⟩,?_⟩
   ·simp only [T.af,X2,if_true,if_false,g0]
   ·simp only [T.af,X2,if_true,if_false,g4]
   ·simp only [T.af,X2,if_true,if_false];rfl
   ·simp only [T.af,X2,if_true,if_false];rfl
   ·simp only [T.af,X2,if_true,if_false]
   ·simp only [T.af,X2,if_true,if_false,g6,qaQ];exact qbQ (by omega) (Zu _)
 ·have h8:i=8:=by omega
  subst h8;apply W.run 20
  ·intro m;simp (disch:=first|decide+kernel|omega) only [IN,jd,CW,ZO,Aq,X2,g0,g3,g4,g5,g6,call19];rfl
  ·refine hk _ ?_ ?_ ?_
   ·simp only [T.af,X2,if_true,if_false,g0]
   ·simp only [T.af,X2,if_true,if_false,g4]
   ·simp only [T.af,X2,if_true,if_false,g3];rfl
def Out (l:List UInt8) (k:Nat) (s:St):Prop:=
 s.n=30∧s.d=[]∧s.ro=none∧s.m=dX∧s.t.get 0=some (strOf l)∧s.t.get 4=some (.int .i64 (k:Nat))∧s.t.get 3=some (.int .u32 (lY 4294967295 (l.take k):Nat))
theorem JX (n:Nat) (l:List UInt8) (k:Nat) (h:k<l.length):lY n (l.take (k+1))=yL (lY n (l.take k)) (l.getD k 0).toNat:=by
 unfold lY;rw [Yd h,ZA];simp [List.getD,X6 h]
theorem Qw {l:List UInt8} (hl:l.length<9223372036854775807) {s:St} {K:Ex→St→Prop} (h:Out l 0 s)
 (hk:∀t:T Value,t.get 3=some (.int .u32 (lY 4294967295 l:Nat))→K (.exit 0) ⟨t,30,[],dX,none⟩):W ai (.loop jd) s K:=by
 refine W.loop (fun s=>∃k,k≤l.length∧Out l k s) (fun s=>l.length-(match s.t.get 4 with|some (.int _ i)=>i.toNat|_=>0)) ?_ ⟨0,by omega,h⟩;rintro⟨t,n,d,m,ro⟩ ⟨k,hk1,h01,h02,h03,h04,g0,g4,g3⟩;simp only at h01 h02 h03 h04 g0 g4 g3;subst h01 h02 h03 h04;have b3:=BV (n:=4294967295) (by omega) (l.take k);have b5:=v_ (l.getD k 0);rw [OY];by_cases hlt:k<l.length
 ·apply W.seq;apply W.run 20
  ·intro m;simp (disch:=first|decide+kernel|omega) only [jd,CW,ZO,Aq,X2,g0,g3,g4,cd Ev,hlt];rfl
  apply W.seq;apply W.block;apply W.seq;apply W.run 20
  ·intro m;simp (disch:=first|decide+kernel|omega) only [jd,CW,ZO,Aq,X2,g0,g3,g4,ed Ev,gj,Ng,MZ];rfl
  apply W.seq;apply W.run 20
  ·intro m;simp (disch:=first|decide+kernel|omega) only [jd,CW,ZO,Aq,X2];rfl
  apply W.block;refine QZ (l:=l) (a:=k) (n0:=lY 4294967295 (l.take k)) (c:=(l.getD k 0).toNat) b3 (by omega) ⟨rfl,rfl,rfl,rfl,?_,?_,?_,?_,?_⟩ ?_
  ·simp only [T.af,X2,if_true,if_false,g0]
  ·simp only [T.af,X2,if_true,if_false,g4]
  ·simp only [T.af,X2,if_true,if_false,g3];first|done|rfl
  ·simp only [T.af,X2,if_true,if_false];first|done|rfl
  ·simp only [T.af,X2,if_true,if_false];first|done|rfl
  intro t2 q0 q4 q3;apply W.run 20
  ·intro m;simp (disch:=first|decide+kernel|omega) only [jd,CW,ZO,Aq,X2,q0,q3,q4];rfl
  refine⟨⟨k+1,by omega,rfl,rfl,rfl,rfl,?_,?_,?_⟩,?_⟩
  ·simp only [T.af,X2,if_true,if_false,q0]
  ·simp only [T.af,X2,if_true,if_false]
  ·simp only [T.af,X2,if_true,if_false,q3,JX _ _ _ hlt]
  ·simp only [T.af,X2,if_true,if_false,g4,qaQ];exact qbQ (by omega) (Zu _)
 ·have hkl:k=l.length:=by omega
  subst hkl;rw [Yw] at g3;apply W.seq;apply W.run 20
  ·intro m;simp (disch:=first|decide+kernel|omega) only [jd,CW,ZO,Aq,X2,g0,g3,g4,cd Ev];rfl
  refine hk _ ?_;simp only [T.af,X2,if_true,if_false,g3]
def gU (l:List UInt8):Nat:=4294967295-lY 4294967295 l
theorem FT (l:List UInt8) (hl:l.length<9223372036854775807):jf ai 106 [strOf l] dX (.int .u32 (gU l:Nat)) dX:=by
 have b:=BV (n:=4294967295) (by omega) l;obtain⟨v,A',h1,h2,h3⟩:∃v A',jf ai 106 [strOf l] dX v A'∧v= .int .u32 (gU l:Nat)∧A'=dX:=by
  refine uf (bB Tryz.func106) OZ (by rw [Tryz.ntmps106];simp) ?_;apply W.seq;apply W.run 20
  ·intro m;simp (disch:=first|decide+kernel|omega) only [CW,ZO,Aq,X2];rfl
  apply W.seq;apply W.run 20
  ·intro m;simp (disch:=first|decide+kernel|omega) only [CW,ZO,Aq,X2,call18];rfl
  apply W.seq;apply W.seq;apply W.run 20
  ·intro m;simp (disch:=first|decide+kernel|omega) only [CW,ZO,Aq,X2];rfl
  apply W.block;refine Qw hl ⟨rfl,rfl,rfl,rfl,?_,?_,?_⟩ ?_
  ·simp only [T.af,T.ag,T.ak,X2,if_true,if_false]
  ·simp only [T.af,T.ag,T.ak,X2,if_true,if_false];first|done|rfl
  ·simp only [T.af,T.ag,T.ak,X2,if_true,if_false];first|done|rfl
  intro t g3;apply W.seq;apply W.run 20
  ·intro m;simp (disch:=first|decide+kernel|omega) only [CW,ZO,Aq,X2,g3,call18];rfl
  apply W.run 20
  ·intro m;simp (disch:=first|decide+kernel|omega) only [CW,ZO,Aq,X2];rfl
  refine⟨.inr rfl,dX,[.int .u32 (gU l:Nat)],rfl,?_,rfl,rfl⟩;simp only [ZO,fj,fR,T.af,X2,if_true,if_false,dA,R.aA];rfl
 subst h2 h3;exact h1
def four (n:Nat):List UInt8:=[.ofNat (n % 256),.ofNat (n/256 % 256),.ofNat (n/65536 % 256),.ofNat (n/16777216)]
theorem BN:ai.bp 48=some (.slice 5):=by kernel_rfl
theorem XQ (a b c d:Int):bc ai 48 4 [(0,.int .u8 a),(1,.int .u8 b),(2,.int .u8 c),(3,.int .u8 d)]= .ok (aa 5 [.int .u8 a,.int .u8 b,.int .u8 c,.int .u8 d],.m_ 4 8):=by kernel_rfl
variable {d:Nat}
theorem UJ {a:Nat} (ha:a<256) (hb:b<256) (hc:c<256) (hd:d<256):
 cY ai (A.alloc (aa 5 [.int .u8 a,.int .u8 b,.int .u8 c,.int .u8 d])).get 48 9 (.slice (some ⟨A.next,0,none⟩) 4 8)= .ok (strOf [.ofNat a,.ofNat b,.ofNat c,.ofNat d]):=by
 refine rV (tb:=ai) (l:=[.ofNat a,.ofNat b,.ofNat c,.ofNat d]) (e:=5) (k:=.var 4) BN Ev Ng ?_;unfold Bytes;rw [aD,gK ha,gK hb,gK hc,gK hd];rfl
theorem OG (n:Nat) (hn:n<4294967296):∃A,call ai 30 105 [.int .u32 n] dX= .ok (.val (strOf (four n)) A):=by
 apply Exists.intro;unfold call;simp only [show ai.fn.get 105=some Tryz.f105 from bB Tryz.func105];simp only [Tryz.f105,lM,Yf,Ys];simp (disch:=first|decide+kernel|omega) only [Aq,X2,gj,Ng,MZ,XQ,iR _ _ _ _ _ _ _ _ _ _ BN Ev,UJ];rfl
def Kt:List Value→Option Value
 | [.string s]=>if s.data.toList.length<1000000 then some (.int .u32 (gU s.data.toList:Nat)) else none
 |_=>none
def zY:List Value→Option Value
 | [.int .u32 (.ofNat n)]=>if n<4294967296 then some (strOf (four n)) else none
 |_=>none
theorem NH:b8 ai.P 106 (aM Kt):=by
 refine dP wR (f:=106) (fn:=ZO) (bB Tryz.func106) OZ fun args v h=>?_
 unfold Kt at h;split at h
 ·rename_i s;split at h
  ·rename_i hn;cases h;obtain⟨n,hr⟩:=FT s.data.toList (by omega);exact⟨by simp [flat],by simp [flat],n,_,hr⟩
  ·cases h
 ·cases h
theorem Jw:b8 ai.P 105 (aM zY):=by
 refine dP wR (f:=105) (fn:=Tryz.f105) (bB Tryz.func105) (c:=(Tryz.f105.body).getD .skip) (by kernel_rfl) fun args v h=>?_
 unfold zY at h;split at h
 ·rename_i n;split at h
  ·rename_i hn;cases h;obtain⟨A,hr⟩:=OG n hn;exact⟨by simp [flat],by simp [flat,strOf],30,_,hr⟩
  ·cases h
 ·cases h
noncomputable def Lx:bI:=(ai.pK 106 (aM Kt)).pK 105 (aM zY)
theorem F4:cg Lx:=bZ (bZ wR NH) Jw
theorem call12 {ih:Code→St→R (Ex×St)} {l:List UInt8} (hl:l.length<1000000):bg Lx ih (.fn 106 [strOf l]) A= .ok (.val (.int .u32 (gU l:Nat)) A):=
 bW (c:=(ZO.body).getD .skip) (bB Tryz.func106) (by kernel_rfl) (by kernel_rfl) (h:=aM Kt) (by kernel_rfl) (by
  unfold aM;show(match Kt [.string ⟨⟨l⟩⟩] with|some v=>R.ok (v,A)|none=>.no 600)=_;simp only [Kt,if_pos hl])
theorem call17 {ih:Code→St→R (Ex×St)} (hn:n<4294967296):bg Lx ih (.fn 105 [.int .u32 n]) A= .ok (.val (strOf (four n)) A):=
 bW (c:=(Tryz.f105.body).getD .skip) (bB Tryz.func105) (by kernel_rfl) (by kernel_rfl) (h:=aM zY) (by kernel_rfl) (by
  unfold aM;show(match zY [.int .u32 (.ofNat n)] with|some v=>R.ok (v,A)|none=>.no 600)=_;simp only [zY,if_pos hn])
theorem JA (l:List UInt8):gU l<4294967296:=by unfold gU;omega
theorem iN (n:Nat):(four n).length=4:=rfl
def aK (l:List UInt8):List UInt8:=l++four (gU l)
theorem DA (l:List UInt8) (hl:l.length<1000000):call Lx 30 61 [strOf l] dX= .ok (.val (strOf (aK l)) dX):=by
 have hs:=JA l;have hfl:=iN (gU l);unfold call;simp only [show Lx.fn.get 61=some Tryz.f61 from bB Tryz.func61];simp only [Tryz.f61,lM,Yf,Ys];simp (disch:=first|decide+kernel|omega) only [Aq,X2,call12,call17,iN];rfl
def wF (l:List UInt8):List UInt8×Bool:=
 if l.length<4 then([],false) else if l.drop (l.length-4)≠four (gU (l.take (l.length-4))) then([],false) else(l.take (l.length-4),true)
def SM (i:Nat):Nat:=(vM 4 (i,0)).1
def mH:List Value:=(Zi 16).map fun i=>.int .u32 (SM i:Nat)
def ja:Value:=.agg ⟨mH⟩
variable {i:Nat}
theorem NT (h:i<16):SM i<4294967296:=(wa (p:=(i,0)) (by show i<_;omega) (by show 0<_;omega) 4).1
theorem Gv (h:i<16):mH[i]?=some (.int .u32 (SM i:Nat)):=by
 unfold mH;rw [Yr,Z_ h];rfl
theorem J3:∃A,call Lx 30 226 [] dX= .ok (.val ja A):=by
 have h:(match call Lx 30 226 [] dX with| .ok (.val v _)=>cD 9 v ja|_=>false)=true:=by decide+kernel
 revert h;cases call Lx 30 226 [] dX with
 |no _=>intro h;cases h
 |ok r=>
  cases r with
  |i_ _ _=>intro h;cases h
  |val v A=>
   intro h;exact⟨A,by rw [jx _ _ _ h]⟩
def CC:List Value→Option Value
 | []=>some ja
 |_=>none
theorem F9:b8 Lx.P 226 (aM CC):=by
 refine dP F4 (f:=226) (fn:=Tryz.f226) (bB Tryz.func226) (c:=(Tryz.f226.body).getD .skip) (by kernel_rfl) fun args v h=>?_
 unfold CC at h;split at h
 ·cases h;obtain⟨A,hr⟩:=J3;exact⟨by simp,by decide+kernel,30,A,hr⟩
 ·cases h
noncomputable def qI:bI:=Lx.pK 226 (aM CC)
theorem Nx:cg qI:=bZ F4 F9
theorem call20 {ih:Code→St→R (Ex×St)}:bg qI ih (.fn 226 []) A= .ok (.val ja A):=
 bW (c:=(Tryz.f226.body).getD .skip) (bB Tryz.func226) (by kernel_rfl) (by kernel_rfl) (h:=aM CC) (by kernel_rfl) rfl
theorem Rz:qI.bp 9=some .string:=nW
theorem Mm:qI.bp 48=some (.slice 5):=BN
theorem MV:qI.bp 31=some (.int .u32):=L5
theorem RU:qI.bp 5=some (.int .u8):=k6
theorem Tx:qI.bp 323=some (.array 16 31):=by kernel_rfl
theorem T7:aY qI 31= .ok 1:=by kernel_rfl
theorem xG:aY qI 5= .ok 1:=by kernel_rfl
def xI (n h:Nat):Nat:=n>>>4^^^SM (n % 256&&&15^^^h)
theorem Fg (n:Nat):n&&&15=n % 16:=Nat.and_two_pow_sub_one_eq_mod n 4
theorem Nr {h:Nat} (hh:h<16):(n % 256&&&15)^^^h<16:=ZG (n:=4) (by rw [Fg];exact Y8 _ (by omega)) hh
theorem xP {h:Nat} (hn:n<4294967296) (hh:h<16):xI n h<4294967296:=
 ZG (n:=32) (by rw [YX];omega) (NT (Nr hh))
noncomputable def uv:Code:=qbz.body.getD .skip
noncomputable def nZ:Code:=sub uv [1,0,1,0,0]
theorem Gf:qbz.body=some (.seq (sub uv [0]) (.seq (.seq (sub uv [1,0,0]) (.block 0 (.loop nZ))) (.seq (sub uv [1,1,0]) (sub uv [1,1,1])))):=by kernel_rfl
variable {t:T Value}
theorem xJ {bt h0 h1:Nat} (hn:n<4294967296) (hh0:h0<16) (hh1:h1<16) (hi:i<2) (hb:A.get b=some (aa 5 [.int .u8 (h0:Nat),.int .u8 (h1:Nat)])) (hbt:A.get bt=some (aa 323 mH))
 (g9:t.get 9=some (.slice (some ⟨b,0,none⟩) 2 4)) (g10:t.get 10=some (.int .i64 (2:Nat))) (g11:t.get 11=some (.int .i64 (i:Nat))) (g1:t.get 1=some (.int .u32 (n:Nat))) (g3:t.get 3=some (pw bt 0))
 {K:Ex→St→Prop} (hk:∀t':T Value,t'.get 9=some (.slice (some ⟨b,0,none⟩) 2 4)→t'.get 10=some (.int .i64 (2:Nat))→t'.get 11=some (.int .i64 (i+1:Nat))→t'.get 1=some (.int .u32 (xI n (if i=0 then h0 else h1):Nat))→t'.get 3=some (pw bt 0)→K .nrm ⟨t',27,[],A,none⟩):
 W qI nZ ⟨t,27,[],A,none⟩ K:=by
 have hh:(if i=0 then h0 else h1)<16:=by split<;>assumption
 have hx:=Nr (n:=n) hh;have hl:aq qI A.get 5 (pw b (0+i))= .ok (.int .u8 (if i=0 then h0 else h1:Nat)):=by
  refine DY RU rfl hb ?_;rw [Yy];rcases(show i=0∨i=1 by omega) with rfl|rfl<;>rfl
 have hl2:aq qI A.get 31 (pw bt (0+(n % 256&&&15^^^(if i=0 then h0 else h1))))= .ok (.int .u32 (SM (n % 256&&&15^^^(if i=0 then h0 else h1)):Nat)):=by
  refine DY MV rfl hbt ?_;rw [Yy];exact Gv hx
 have ht:=NT hx;have hand:n % 256&&&15<256:=by rw [Fg];omega
 have hsh:n>>>4<4294967296:=by rw [YX];omega
 revert hh hx hl hl2 ht hk;generalize (if i=0 then h0 else h1)=h;intro hk hh hx hl hl2 ht;apply W.run 20
 ·intro m;simp (disch:=first|decide+kernel|omega) only [nZ,uv,qbz,Aq,X2,g9,g10,g11,g1,g3,hi,fZ Mm xG,iA Tx T7,hl,hl2,gj,MV,RU];rfl
 ·apply hk
  all_goals simp only [T.af,X2,if_true,if_false,g9,g10,g3]
  rfl
def J6 (n h0 h1:Nat):Nat:=xI (xI n h0) h1
theorem SF {h0 h1:Nat} (hn:n<4294967296) (hh0:h0<16) (hh1:h1<16) (hb:A.get b=some (aa 5 [.int .u8 (h0:Nat),.int .u8 (h1:Nat)])) (hlt:b≠A.next):
 ∃g,∀m,bg qI (exec qI (m+g)) (.fn 227 [ja,.int .u32 (n:Nat),.slice (some ⟨b,0,none⟩) 2 4]) A= .ok (.val (.int .u32 (J6 n h0 h1:Nat)) (A.alloc (aa 323 mH))):=by
 have hb':(A.alloc (aa 323 mH)).get b=some (aa 5 [.int .u8 (h0:Nat),.int .u8 (h1:Nat)]):=by rw [aH hlt];exact hb
 obtain⟨v,A',⟨g,h1⟩,h2,h3⟩:∃v A',(∃g,∀m,bg qI (exec qI (m+g)) (.fn 227 [ja,.int .u32 (n:Nat),.slice (some ⟨b,0,none⟩) 2 4]) A= .ok (.val v A'))∧v= .int .u32 (J6 n h0 h1:Nat)∧A'=A.alloc (aa 323 mH):=by
  refine yp (bB Tryz.func227) Gf (by rw [Tryz.ntmps227];simp) (by kernel_rfl) (by kernel_rfl) ?_;apply W.seq;apply W.run 20
  ·intro m;simp (disch:=first|decide+kernel|omega) only [uv,qbz,Aq,X2];rfl
  apply W.seq;apply W.seq;apply W.run 20
  ·intro m;simp (disch:=first|decide+kernel|omega) only [uv,qbz,Aq,X2,dJ Mm];rfl
  apply W.block;apply W.round;refine xJ (b:=b) (bt:=A.next) (n:=n) (h0:=h0) (h1:=h1) (i:=0) hn hh0 hh1 (by omega) hb' (aD _ _) ?_ ?_ ?_ ?_ ?_ ?_
  ·simp only [T.af,T.ag,T.ak,X2,X3,if_true,if_false]
  ·simp only [T.af,T.ag,T.ak,X2,X3,if_true,if_false]
  ·simp only [T.af,T.ag,T.ak,X2,X3,if_true,if_false]
  ·simp only [T.af,T.ag,T.ak,X2,X3,if_true,if_false]
  ·simp only [T.af,T.ag,T.ak,X2,X3,if_true,if_false]
  intro t g9 g10 g11 g1 g3;apply W.round;refine xJ (b:=b) (bt:=A.next) (n:=xI n h0) (h0:=h0) (h1:=h1) (i:=1) (xP hn hh0) hh0 hh1 (by omega) hb' (aD _ _) g9 g10 g11 g1 g3 ?_;intro t g9 g10 g11 g1 g3;apply W.round;apply W.run 20
  ·intro m;simp (disch:=first|decide+kernel|omega) only [nZ,uv,qbz,Aq,X2,g9,g10,g11,g1,g3];rfl
  apply W.seq;apply W.run 20
  ·intro m;simp (disch:=first|decide+kernel|omega) only [uv,qbz,Aq,X2,g1];rfl
  apply W.run 20
  ·intro m;simp (disch:=first|decide+kernel|omega) only [uv,qbz,Aq,X2];rfl
  refine⟨.inr rfl,A.alloc (aa 323 mH),[.int .u32 (J6 n h0 h1:Nat)],rfl,?_,rfl,rfl⟩;simp only [qbz,fj,fR,T.af,X2,if_true,if_false,dA,R.aA];rfl
 subst h2 h3;exact⟨g,h1⟩
def Eg (n:Nat) (c:UInt8):Nat:=J6 n (c.toNat&&&15) (c.toNat>>>4)
theorem R8 (c:UInt8):c.toNat&&&15<16:=by rw [Fg];exact Y8 _ (by omega)
theorem RO (c:UInt8):c.toNat>>>4<16:=by have:=c.toNat_lt;rw [YX];omega
theorem NP (h:n<4294967296) (c:UInt8):Eg n c<4294967296:=xP (xP h (R8 c)) (RO c)
def ng (n:Nat) (l:List UInt8):Nat:=l.foldl Eg n
theorem EU (h:n<4294967296) (l:List UInt8):ng n l<4294967296:=by
 unfold ng
 induction l generalizing n with
 |nil=>exact h
 |cons c l ih=>exact ih (NP h c)
theorem FZ (n:Nat) (l:List UInt8) (k:Nat) (h:k<l.length):ng n (l.take (k+1))=Eg (ng n (l.take k)) (l.getD k 0):=by
 unfold ng;rw [Yd h,ZA];simp [List.getD,X6 h]
noncomputable def GS:Code:=qav.body.getD .skip
noncomputable def HE:Code:=sub GS [1,1,1,0,1,0,0]
theorem Pa:qav.body=some (.seq (sub GS [0]) (.seq (sub GS [1,0]) (.seq (sub GS [1,1,0]) (.seq (.seq (sub GS [1,1,1,0,0]) (.block 0 (.loop HE))) (.seq (sub GS [1,1,1,1,0]) (sub GS [1,1,1,1,1])))))):=by kernel_rfl
theorem XZ (a b:Int):bc qI 48 2 [(0,.int .u8 a),(1,.int .u8 b)]= .ok (aa 5 [.int .u8 a,.int .u8 b],.m_ 2 4):=by kernel_rfl
theorem GC:b7 qI 323= .ok (.agg ⟨YP 16 (.int .u32 0)⟩):=by kernel_rfl
noncomputable def Kg:Mem:=
 match aW qI (dX.alloc (aa 323 (YP 16 (.int .u32 0)))) 323 (.pointer (some ⟨dX.next,0,none⟩)) ja with
 | .ok A=>A
 |_=>dX
theorem PB:aW qI (dX.alloc (aa 323 (YP 16 (.int .u32 0)))) 323 (pw dX.next 0) ja= .ok Kg:=by kernel_rfl
theorem JC:aq qI Kg.get 323 (.pointer (some ⟨0,0,none⟩))= .ok ja:=by
 have h:(match aq qI Kg.get 323 (.pointer (some ⟨0,0,none⟩)) with| .ok v=>cD 9 v ja|_=>false)=true:=by decide+kernel
 revert h;cases aq qI Kg.get 323 (.pointer (some ⟨0,0,none⟩)) with
 |no _=>intro h;cases h
 |ok v=>intro h;rw [jx _ _ _ h]
theorem Kq:Kg.next=1:=by kernel_rfl
def Wa (l:List UInt8) (n0 k:Nat) (s:St):Prop:=
 s.n=31∧s.d=[]∧s.ro=none∧1≤s.m.next∧s.m.get 0=Kg.get 0∧s.t.get 1=some (strOf l)∧s.t.get 5=some (.pointer (some ⟨0,0,none⟩))∧s.t.get 12=some (.int .i64 (l.length:Nat))∧
 s.t.get 13=some (.int .i64 (k:Nat))∧s.t.get 6=some (.int .u32 (ng n0 (l.take k):Nat))
theorem S6 {l:List UInt8} {n0:Nat} (hn:n0<4294967296) (hl:l.length<9223372036854775807) {s:St} {K:Ex→St→Prop} (h:Wa l n0 0 s)
 (hk:∀(t:T Value) (A:Mem),t.get 6=some (.int .u32 (ng n0 l:Nat))→K (.exit 0) ⟨t,31,[],A,none⟩):W qI (.loop HE) s K:=by
 refine W.loop (fun s=>∃k,k≤l.length∧Wa l n0 k s) (fun s=>l.length-(match s.t.get 13 with|some (.int _ i)=>i.toNat|_=>0)) ?_ ⟨0,by omega,h⟩;rintro⟨t,n,d,A,ro⟩ ⟨k,hk1,h01,h02,h03,hA,hA0,g1,g5,g12,g13,g6⟩;simp only at h01 h02 h03 hA hA0 g1 g5 g12 g13 g6;subst h01 h02 h03;have b3:=EU hn (l.take k);have b5:=v_ (l.getD k 0);by_cases hlt:k<l.length
 ·have hl1:=R8 (l.getD k 0);have hl2:=RO (l.getD k 0);have hne:A.next≠(A.alloc (aa 5 [.int .u8 ((l.getD k 0).toNat&&&15:Nat),.int .u8 ((l.getD k 0).toNat>>>4:Nat)])).next:=by rw [ae];omega
  obtain⟨g,hby⟩:=SF (A:=A.alloc (aa 5 [.int .u8 ((l.getD k 0).toNat&&&15:Nat),.int .u8 ((l.getD k 0).toNat>>>4:Nat)])) (b:=A.next) b3 hl1 hl2 (aD _ _) hne;have hld:aq qI A.get 323 (pw 0 0)= .ok ja:=by rw [JS hA0];exact JC
  apply W.run (g+20)
  ·intro m;have hby':∀j,bg qI (exec qI ((m+g)+j)) (.fn 227 [ja,.int .u32 (ng n0 (l.take k):Nat),.slice (some ⟨A.next,0,none⟩) 2 4]) (A.alloc (aa 5 [.int .u8 ((l.getD k 0).toNat&&&15:Nat),.int .u8 ((l.getD k 0).toNat>>>4:Nat)]))= .ok (.val (.int .u32 (J6 (ng n0 (l.take k)) ((l.getD k 0).toNat&&&15) ((l.getD k 0).toNat>>>4):Nat)) ((A.alloc (aa 5 [.int .u8 ((l.getD k 0).toNat&&&15:Nat),.int .u8 ((l.getD k 0).toNat>>>4:Nat)])).alloc (aa 323 mH))):=
    fun j=>by rw [show m+g+j=(m+j)+g by omega];exact hby (m+j)
   rw [←qaO];revert hby';generalize m+g=M;intro hby';simp (disch:=first|decide+kernel|omega) only [HE,GS,qav,Aq,X2,g1,g5,g6,g12,g13,hlt,ed Rz,XZ,hld,hby'];rfl
  ·refine⟨⟨k+1,by omega,rfl,rfl,rfl,?_,?_,?_,?_,?_,?_,?_⟩,?_⟩
   ·simp only [ae];omega
   ·rw [aH (by rw [ae];omega),aH (by omega)];exact hA0
   ·simp only [T.af,X2,if_true,if_false,g1]
   ·simp only [T.af,X2,if_true,if_false,g5]
   ·simp only [T.af,X2,if_true,if_false,g12]
   ·simp only [T.af,X2,if_true,if_false]
   ·simp only [T.af,X2,if_true,if_false,FZ _ _ _ hlt];rfl
   ·simp only [T.af,X2,if_true,if_false,g13,qaQ];exact qbQ (by omega) (Zu _)
 ·have hkl:k=l.length:=by omega
  subst hkl;rw [Yw] at g6;apply W.run 20
  ·intro m;simp (disch:=first|decide+kernel|omega) only [HE,GS,qav,Aq,X2,g12,g13];rfl
  refine hk _ _ ?_;simp only [T.af,X2,if_true,if_false,g6]
def rN (n:Nat) (l:List UInt8):Nat:=4294967295-ng (4294967295-n) l
theorem NI (n:Nat) (l:List UInt8) (hn:n<4294967296) (hl:l.length<9223372036854775807):∃A,jf qI 198 [.int .u32 (n:Nat),strOf l] dX (.int .u32 (rN n l:Nat)) A:=by
 have b:=EU (n:=4294967295-n) (by omega) l;obtain⟨v,A',h1,h2⟩:∃v A',jf qI 198 [.int .u32 (n:Nat),strOf l] dX v A'∧v= .int .u32 (rN n l:Nat):=by
  refine uf (bB Tryz.func198) Pa (by rw [Tryz.ntmps198];simp) ?_;apply W.seq;apply W.run 20
  ·intro m;simp (disch:=first|decide+kernel|omega) only [GS,qav,Aq,X2];rfl
  apply W.seq;apply W.run 20
  ·intro m;simp (disch:=first|decide+kernel|omega) only [GS,qav,Aq,X2,call20,GC,Value.cells,PB];rfl
  apply W.seq;apply W.run 20
  ·intro m;simp (disch:=first|decide+kernel|omega) only [GS,qav,Aq,X2];rfl
  apply W.seq;apply W.seq;apply W.run 20
  ·intro m;simp (disch:=first|decide+kernel|omega) only [GS,qav,Aq,X2,cd Rz];rfl
  apply W.block;refine S6 (l:=l) (n0:=4294967295-n) (by omega) hl ⟨rfl,rfl,rfl,by rw [Kq];omega,rfl,?_,?_,?_,?_,?_⟩ ?_
  ·simp only [T.af,T.ag,T.ak,X2,X3,if_true,if_false]
  ·simp only [T.af,T.ag,T.ak,X2,X3,if_true,if_false];rfl
  ·simp only [T.af,T.ag,T.ak,X2,X3,if_true,if_false]
  ·simp only [T.af,T.ag,T.ak,X2,X3,if_true,if_false]
  ·simp only [T.af,T.ag,T.ak,X2,X3,if_true,if_false];rfl
  intro t A g6;apply W.seq;apply W.run 20
  ·intro m;simp (disch:=first|decide+kernel|omega) only [GS,qav,Aq,X2,g6];rfl
  apply W.run 20
  ·intro m;simp (disch:=first|decide+kernel|omega) only [GS,qav,Aq,X2];rfl
  refine⟨.inr rfl,A,[.int .u32 (rN n l:Nat)],rfl,?_,rfl⟩;simp only [qav,fj,fR,T.af,X2,if_true,if_false,dA,R.aA];rfl
 subst h2;exact⟨A',h1⟩
def AV:List Value→Option Value
 | [.int .u32 (.ofNat n),.string s]=>if n<4294967296∧s.data.toList.length<1000000 then some (.int .u32 (rN n s.data.toList:Nat)) else none
 |_=>none
theorem Jx:b8 qI.P 198 (aM AV):=by
 refine dP Nx (f:=198) (fn:=qav) (bB Tryz.func198) Pa fun args v h=>?_
 unfold AV at h;split at h
 ·rename_i n s;split at h
  ·rename_i hn;cases h;obtain⟨A,k,hr⟩:=NI n s.data.toList hn.1 (by omega);exact⟨by simp [flat],by simp [flat],k,A,hr⟩
  ·cases h
 ·cases h
noncomputable def Uv:bI:=qI.pK 198 (aM AV)
theorem Lt:cg Uv:=bZ Nx Jx
theorem call14 {ih:Code→St→R (Ex×St)} {l:List UInt8} (hn:n<4294967296) (hl:l.length<1000000):bg Uv ih (.fn 198 [.int .u32 n,strOf l]) A= .ok (.val (.int .u32 (rN n l:Nat)) A):=
 bW (c:=(qav.body).getD .skip) (bB Tryz.func198) (by kernel_rfl) (by kernel_rfl) (h:=aM AV) (by kernel_rfl) (by
  unfold aM;show(match AV [.int .u32 (.ofNat n),.string ⟨⟨l⟩⟩] with|some v=>R.ok (v,A)|none=>.no 600)=_;simp only [AV,if_pos (X4 hn hl)])
def Hz (l:List UInt8):Nat:=rN 0 l
theorem Mr (n:Nat) (l:List UInt8):rN n l<4294967296:=by unfold rN;omega
theorem P2 (l:List UInt8) (hl:l.length<1000000):call Uv 30 157 [strOf l] dX= .ok (.val (.int .u32 (Hz l:Nat)) dX):=by
 unfold call;simp only [show Uv.fn.get 157=some Tryz.f157 from bB Tryz.func157];simp only [Tryz.f157,lM,Yf,Ys];simp (disch:=first|decide+kernel|omega) only [Aq,X2,call14];rfl
def Af:List Value→Option Value
 | [.string s]=>if s.data.toList.length<1000000 then some (.int .u32 (Hz s.data.toList:Nat)) else none
 |_=>none
theorem JP:b8 Uv.P 157 (aM Af):=by
 refine dP Lt (f:=157) (fn:=Tryz.f157) (bB Tryz.func157) (c:=(Tryz.f157.body).getD .skip) (by kernel_rfl) fun args v h=>?_
 unfold Af at h;split at h
 ·rename_i s;split at h
  ·rename_i hn;cases h;exact⟨by simp [flat],by simp [flat],30,_,P2 s.data.toList hn⟩
  ·cases h
 ·cases h
noncomputable def CX:bI:=Uv.pK 157 (aM Af)
theorem NF:cg CX:=bZ Lt JP
theorem call11 {ih:Code→St→R (Ex×St)} {l:List UInt8} (hl:l.length<1000000):bg CX ih (.fn 157 [strOf l]) A= .ok (.val (.int .u32 (Hz l:Nat)) A):=
 bW (c:=(Tryz.f157.body).getD .skip) (bB Tryz.func157) (by kernel_rfl) (by kernel_rfl) (h:=aM Af) (by kernel_rfl) (by
  unfold aM;show(match Af [.string ⟨⟨l⟩⟩] with|some v=>R.ok (v,A)|none=>.no 600)=_;simp only [Af,if_pos hl])
theorem Iw:CX.bp 9=some .string:=nW
theorem tX:CX.bp 48=some (.slice 5):=BN
theorem Tc:CX.bp 31=some (.int .u32):=L5
theorem NM:CX.bp 5=some (.int .u8):=k6
theorem Wv:cq CX 5= .ok (1,[.int .u8 0]):=by kernel_rfl
theorem Wm:∃i,CX.ty.get 5=some i∧i.bytes=1:=by
 have h:(CX.ty.get 5).map (·.bytes)=some 1:=by kernel_rfl
 cases hq:CX.ty.get 5 with
 |none=>rw [hq] at h;cases h
 |some i=>rw [hq] at h;exact⟨i,rfl,by simpa using h⟩
theorem XN (a:Int):bc CX 48 1 [(0,.int .u8 a)]= .ok (aa 5 [.int .u8 a],.m_ 1 2):=by kernel_rfl
def ay (n k:Nat):UInt8:=.ofNat (n>>>(8*k) % 256)
theorem Pv (h:n<4294967296):four n=(Zi 4).map (ay n):=by
 show _=[ay n 0,ay n 1,ay n 2,ay n 3];unfold four ay;simp only [YX];have e:n/2^(8*3) % 256=n/16777216:=by
  show n/16777216 % 256=_;omega
 rw [e];simp
noncomputable def GX:Code:=qat.body.getD .skip
noncomputable def Jp:Code:=sub GX [1,1,1,0,1,0,0]
theorem O3:qat.body=some (.seq (sub GX [0]) (.seq (sub GX [1,0]) (.seq (sub GX [1,1,0]) (.seq (.seq (sub GX [1,1,1,0,0]) (.block 0 (.loop Jp))) (.seq (sub GX [1,1,1,1,0]) (sub GX [1,1,1,1,1])))))):=by kernel_rfl
def RV (l:List UInt8) (n k:Nat) (s:St):Prop:=
 s.n=24∧s.d=[]∧s.ro=none∧∃b,b<s.m.next∧Bytes s.m b 5 .mark (l++((Zi k).map (ay n)))∧s.t.get 3=some (.slice (some ⟨b,0,none⟩) (l.length+k) (fe (l.length+k) 1))∧s.t.get 4=some (.int .u32 (n:Nat))∧s.t.get 10=some (.int .i64 (k:Nat))
theorem Rg {l:List UInt8} (hn:n<4294967296) (hl:l.length<1000000) {s:St} {K:Ex→St→Prop} (h:RV l n 0 s)
 (hk:∀(t:T Value) (A:Mem) (b:Nat),Bytes A b 5 .mark (l++four n)→t.get 3=some (.slice (some ⟨b,0,none⟩) (l++four n).length (fe (l.length+4) 1))→K (.exit 0) ⟨t,24,[],A,none⟩):W CX (.loop Jp) s K:=by
 refine W.loop (fun s=>∃k,k≤4∧RV l n k s) (fun s=>4-(match s.t.get 10 with|some (.int _ i)=>i.toNat|_=>0)) ?_ ⟨0,by omega,h⟩;rintro⟨t,nn,d,A,ro⟩ ⟨k,hk1,h01,h02,h03,b,hbn,hbb,g3,g4,g10⟩;simp only at h01 h02 h03 hbn hbb g3 g4 g10;subst h01 h02 h03;by_cases hlt:k<4
 ·have h8:8*k<32:=by omega
  have hv:n>>>(8*k) % 256<256:=Y8 _ (by omega);have hlen:(l++(Zi k).map (ay n)).length=l.length+k:=by simp
  obtain⟨i,hi,hib⟩:=Wm;have hbb1:Bytes (A.alloc (aa 5 [.int .u8 (n>>>(8*k) % 256:Nat)])) b 5 .mark (l++(Zi k).map (ay n)):=by
   unfold Bytes;rw [aH (by omega)];exact hbb
  have happ:=E4 (tb:=CX) (A:=A.alloc (aa 5 [.int .u8 (n>>>(8*k) % 256:Nat)])) (b:=b) (b2:=A.next) (v:=n>>>(8*k) % 256) tX tX Wv hi hib (by omega) (.inl rfl) hbb1 (aD _ _) hv;rw [hlen] at happ;have hbl:gz CX (A.alloc (aa 5 [.int .u8 (n>>>(8*k) % 256:Nat)])) .append [48,48] [.slice (some ⟨b,0,none⟩) (l.length+k) (fe (l.length+k) 1),.slice (some ⟨A.next,0,none⟩) 1 2]=_:=happ;apply W.run 20
  ·intro m;simp (disch:=first|decide+kernel|omega) only [Jp,GX,qat,Aq,X2,g3,g4,g10,hlt,XN,gj,Tc,NM,happ];rfl
  ·refine⟨⟨k+1,by omega,rfl,rfl,rfl,(A.alloc (aa 5 [.int .u8 (n>>>(8*k) % 256:Nat)])).next,?_,?_,?_,?_,?_⟩,?_⟩
   rotate_left 2
   ·simp only [T.af,X2,if_true,if_false];rfl
   ·simp only [T.af,X2,if_true,if_false,g4]
   ·simp only [T.af,X2,if_true,if_false]
   ·simp only [T.af,X2,if_true,if_false,g10,qaQ];exact qbQ (by omega) (Zu _)
   ·simp only [ae,aX];omega
   ·unfold Bytes;have e:(A.alloc (aa 5 [.int .u8 (n>>>(8*k) % 256:Nat)])).next=((A.alloc (aa 5 [.int .u8 (n>>>(8*k) % 256:Nat)])).set b .dead).next:=by rw [aX]
    simp only [];have e2:l++qb9 (ay n) (Zi (k+1))=l++qb9 (ay n) (Zi k)++[Zc (n>>>(8*k) % 256)]:=by
     rw [List.range_succ,YV,Y1];rfl
    rw [e,aD,e2]
 ·have hk4:k=4:=by omega
  subst hk4;rw [←Pv hn] at hbb;apply W.run 20
  ·intro m;simp (disch:=first|decide+kernel|omega) only [Jp,GX,qat,Aq,X2,g10];rfl
  refine hk _ _ b hbb ?_;simp only [T.af,X2,if_true,if_false,g3,X',iN]
def pT (l:List UInt8):List UInt8:=l++four (Hz l)
theorem Mv (l:List UInt8) (hl:l.length<900000):∃A,jf CX 109 [strOf l] dX (strOf (pT l)) A:=by
 have b:=Mr 0 l;obtain⟨v,A',h1,h2⟩:∃v A',jf CX 109 [strOf l] dX v A'∧v=strOf (pT l):=by
  refine uf (bB Tryz.func109) O3 (by rw [Tryz.ntmps109];simp) ?_;apply W.seq;apply W.run 20
  ·intro m;simp (disch:=first|decide+kernel|omega) only [GX,qat,Aq,X2];rfl
  apply W.seq;apply W.run 20
  ·intro m;simp (disch:=first|decide+kernel|omega) only [GX,qat,Aq,X2,qf _ _ _ _ _ _ _ _ _ _ Iw tX,sV Iw tX NM];rfl
  apply W.seq;apply W.run 20
  ·intro m;simp (disch:=first|decide+kernel|omega) only [GX,qat,Aq,X2,call11];rfl
  apply W.seq;apply W.seq;apply W.run 20
  ·intro m;simp (disch:=first|decide+kernel|omega) only [GX,qat,Aq,X2];rfl
  apply W.block;refine Rg (l:=l) (n:=Hz l) b (by omega) ⟨rfl,rfl,rfl,dX.next,by simp only [ae];omega,?_,?_,?_,?_⟩ ?_
  ·unfold Bytes;simp only [aD,List.range_zero,qbV,Y']
  ·simp only [T.af,T.ag,T.ak,X2,X3,if_true,if_false,YU]
  ·simp only [T.af,T.ag,T.ak,X2,X3,if_true,if_false]
  ·simp only [T.af,T.ag,T.ak,X2,X3,if_true,if_false]
  intro t A b hb g3;apply W.seq;apply W.run 20
  ·intro m;simp (disch:=first|decide+kernel|omega) only [GX,qat,Aq,X2,g3,iR _ _ _ _ _ _ _ _ _ _ tX Iw,rV tX Iw NM hb];rfl
  apply W.run 20
  ·intro m;simp (disch:=first|decide+kernel|omega) only [GX,qat,Aq,X2];rfl
  refine⟨.inr rfl,A,[strOf (pT l)],rfl,?_,rfl⟩;simp only [qat,fj,fR,T.af,X2,if_true,if_false,dA,R.aA];rfl
 subst h2;exact⟨A',h1⟩
def wU:List Value→Option Value
 | [.string s]=>if s.data.toList.length<900000 then some (strOf (pT s.data.toList)) else none
 |_=>none
theorem Ag:b8 CX.P 109 (aM wU):=by
 refine dP NF (f:=109) (fn:=qat) (bB Tryz.func109) O3 fun args v h=>?_
 unfold wU at h;split at h
 ·rename_i s;split at h
  ·rename_i hn;cases h;obtain⟨A,k,hr⟩:=Mv s.data.toList hn;exact⟨by simp [flat],by simp [flat,strOf],k,A,hr⟩
  ·cases h
 ·cases h
noncomputable def Us:bI:=CX.pK 109 (aM wU)
theorem Tr:cg Us:=bZ NF Ag
theorem Ec:Us.bp 9=some .string:=nW
theorem call13 {ih:Code→St→R (Ex×St)} {l:List UInt8} (hl:l.length<900000):bg Us ih (.fn 109 [strOf l]) A= .ok (.val (strOf (pT l)) A):=
 bW (c:=(qat.body).getD .skip) (bB Tryz.func109) (by kernel_rfl) (by kernel_rfl) (h:=aM wU) (by kernel_rfl) (by
  unfold aM;show(match wU [.string ⟨⟨l⟩⟩] with|some v=>R.ok (v,A)|none=>.no 600)=_;simp only [wU,if_pos hl])
def dN (l:List UInt8):List UInt8×Bool:=
 if l.length<4 then([],false) else if pT (l.take (l.length-4))≠l then([],false) else(l.take (l.length-4),true)
theorem xx (l:List UInt8) (hl:l.length<900000):call Us 30 68 [strOf l] dX= .ok (.val (.tuple ⟨[strOf (dN l).1,.bool (dN l).2]⟩) dX):=by
 have ht:(l.take (l.length-4)).length<900000:=by rw [Yo];omega
 unfold call;simp only [show Us.fn.get 68=some Tryz.f68 from bB Tryz.func68];simp only [Tryz.f68,lM,Yf,Ys];by_cases h4:l.length<4
 ·simp (disch:=first|omega|decide+kernel|(simp only [nX,qk,qs,qJ,T.af,T.ju,X2,if_true,if_false,qN,qz,cM,cond_true,cond_false,Zo,ZL,List.toList_toArray])) only [X5,cond_true,cond_false,T.ag,T.ak,oI,ia,mA,ny,lq,tF,ya,tz,mS,oh,qu,yg,qW,CV,Bi,Bq,FB,tf,kU,kX,tH,te,uo,nQ,yK,ze,uq,B3,jO,kT,t_,wT,B7,qq,nT,yf,OQ,fR,dA,Hp,CO,G_,oV,Hc,D_,R.aA,tw,tW,T.af,T.ju,xn,tp,qm,qT,Hd,GG,Bz,qL,q_,ud,uI,ql,mJ,om,qQ,qA,qD,nP,k_,pk,Gr,wo,yr,Zk,ZR,if_true,if_false,reduceIte,X2,X3,ne_eq,not_true_eq_false,not_false_eq_true,decide_true,decide_false,Yj,Zo,ZL,Bs,w_,xU,uc,uG,uD,zd,tL,qt,qC,Za,Ha,ue,qK,uh,ug,qx,qY,qv,xg,sa,CM,B9,fc,fj,oneOf,HK,xq,cd Ec,h4];simp [dN,h4]
 ·have h4':4≤l.length:=by omega
  by_cases he:pT (l.take (l.length-4))=l
  ·simp (disch:=first|decide+kernel|omega|simp only [Wq,X2]) only [Aq,X5,reduceIte,X2,X3,cd Ec,oM Ec,call13,he];simp [dN,h4,he]
  ·simp (disch:=first|decide+kernel|omega|simp only [Wq,X2]) only [Aq,X5,reduceIte,X2,X3,cd Ec,oM Ec,call13,he];simp [dN,h4,he]
end Go.Proofs.YtggndfefpbmaeaaGreatDoor.crc
namespace Go.Proofs.YtggndfefpbmaeaaGreatDoor.crc
theorem EI (a b:Nat):(a^^^b) % 2=(a % 2+b % 2) % 2:=by
 have h:(a^^^b) % 2^1=a % 2^1^^^b % 2^1:=Nat.xor_mod_two_pow;rw [show(2:Nat)^1=2 by rfl] at h;rw [h];rcases qac a with ha|ha<;>rcases qac b with hb|hb<;>rw [ha,hb]<;>rfl
def gS (n:Nat):Nat:=n/2^^^(if n % 2=1 then 3988292384 else 0)
def cu:Nat→Nat→Nat
 |0,n=>n
 |k+1,n=>cu k (gS n)
theorem tN (a b:Nat):gS (a^^^b)=gS a^^^gS b:=by
 unfold gS;have h1:(a^^^b)/2=a/2^^^b/2:=Nat.xor_div_two;have h2:(a^^^b) % 2=(a % 2+b % 2) % 2:=EI _ _;rw [h1,h2];rcases qac a with ha|ha<;>rcases qac b with hb|hb<;>rw [ha,hb]
 ·simp
 ·simp [Zp]
 ·simp only [X3,Nat.reduceMod,if_true,Nat.zero_ne_one,if_false,qaG];rw [Zp,Zp,Nat.xor_comm (b/2)]
 ·simp only [X3,Nat.reduceMod,if_true,Nat.zero_ne_one,if_false,qaG];rw [Zp,←Zp 3988292384,Nat.xor_comm 3988292384 (b/2),Zp (b/2),Nat.xor_self,qaG]
theorem ga:∀(k a b:Nat),cu k (a^^^b)=cu k a^^^cu k b
 |0,_,_=>rfl
 |k+1,a,b=>by
  show cu k (gS (a^^^b))=_;rw [tN,ga k];rfl
theorem Br (n:Nat):gS (2*n)=n:=by
 unfold gS;rw [if_neg (by omega),qaG];omega
theorem fy:∀(k n:Nat),cu k (2^k*n)=n
 |0,n=>by show 2^0*n=n;omega
 |k+1,n=>by
  show cu k (gS (2^(k+1)*n))=n;rw [show 2^(k+1)*n=2*(2^k*n) by rw [qbr];ac_rfl,Br,fy k]
variable {n:Nat}
theorem Nb (h:n<4294967296):gS n<4294967296:=by
 unfold gS;refine ZG (n:=32) (by omega) ?_;split<;>omega
theorem jK:∀(j k n:Nat),cu (j+k) n=cu k (cu j n)
 |0,k,n=>by rw [Yy];rfl
 |j+1,k,n=>by
  rw [show j+1+k=(j+k)+1 by omega];show cu (j+k) (gS n)=cu k (cu j (gS n));exact jK j k _
theorem Qs (n b:Nat) (hb:b<2):BD n b=gS (n^^^b):=by
 unfold BD gS;have h1:(n^^^b)/2=n/2:=by rw [Nat.xor_div_two,show b/2=0 by omega,qaG]
 have h2:(n^^^b) % 2=(n % 2+b % 2) % 2:=EI _ _;rw [h1,h2];rcases qac n with hn|hn<;>rcases(show b=0∨b=1 by omega) with rfl|rfl<;>rw [hn]<;>simp
theorem HN:∀(k n c:Nat),vM k (n,c)=(cu k (n^^^(c % 2^k)),c/2^k):=by
 intro k;have main:∀(k n c:Nat),vM k (n,c)=(cu k n^^^cu k (c % 2^k),c/2^k):=by
  intro k
  induction k with
  |zero=>intro n c;simp [vM,cu,Nat.mod_one]
  |succ k ih=>
   intro n c;show Xk (vM k (n,c))=_;rw [ih];unfold Xk;simp only [];have hb:c/2^k % 2<2:=Y8 _ (by omega);rw [Qs _ _ hb];have e1:∀x,gS (cu k x)=cu (k+1) x:=fun x=>by
    have:=jK k 1 x;rw [this];rfl
   have e2:c % 2^(k+1)=(c % 2^k)^^^(2^k*(c/2^k % 2)):=by
    apply Z6;intro i;rw [qaJ,Nat.testBit_mod_two_pow,Nat.testBit_mod_two_pow,qa8];rcases qar i k with h|h|h
    ·simp [h,show i<k+1 by omega,show¬k≤i by omega]
    ·subst h;simp [Nat.testBit_eq_decide_div_mod_eq]
    ·have:(c/2^k % 2).testBit (i-k)=false:=by
      apply qbh
      calc c/2^k % 2<2:=hb
       _=2^1:=rfl
       _≤2^(i-k):=Y2 (by omega) (by omega)
     simp [this,show¬i<k by omega,show¬i<k+1 by omega]
   have e3:gS (c/2^k % 2)=cu (k+1) (2^k*(c/2^k % 2)):=by
    rw [←e1,fy]
   rw [tN,tN,e1,e1,e3,e2,ga,Zp,qbr,Nat.div_div_eq_div_mul]
 intro n c;rw [main,ga]
theorem TX (i:Nat):SM i=cu 4 i:=by
 unfold SM;rw [HN];simp
theorem xj (n h:Nat):n^^^h=(16*(n/16))^^^(n % 16^^^h):=by
 rw [←Zp];congr 1;apply Z6;intro i;rw [qaJ,show(16:Nat)=2^4 by rfl,qa8,Nat.testBit_mod_two_pow,Nat.testBit_div_two_pow];rcases YE i 4 with h|h
 ·simp [h,show¬4≤i by omega]
 ·simp [h,show¬i<4 by omega,show i-4+4=i by omega]
theorem ET (n h:Nat):xI n h=cu 4 (n^^^h):=by
 have e:cu 4 (n^^^h)=n/16^^^cu 4 (n % 16^^^h):=by
  rw [xj n h,ga,show(16:Nat)*(n/16)=2^4*(n/16) by rfl,fy]
 rw [e];unfold xI;rw [TX,Fg,show n % 256 % 16=n % 16 by omega,YX]
theorem C7 (n:Nat) (c:UInt8):yL n c.toNat=cu 8 (n^^^c.toNat):=by
 unfold yL;rw [HN];show cu 8 (n^^^c.toNat % 256)=_;rw [Zb c.toNat_lt]
theorem MK (n:Nat) (c:UInt8):Eg n c=cu 8 (n^^^c.toNat):=by
 unfold Eg J6;rw [ET,ET,Fg,show(8:Nat)=4+4 by rfl,jK];congr 1;have hc:c.toNat=(16*(c.toNat/16))^^^(c.toNat % 16):=by
  have:=xj c.toNat 0;simpa using this
 have e:n^^^c.toNat=(n^^^c.toNat % 16)^^^(2^4*(c.toNat/16)):=by
  rw [Zp,Nat.xor_comm (c.toNat % 16)];exact congrArg (n^^^·) hc
 have e2:cu 4 (n^^^c.toNat)=cu 4 (n^^^c.toNat % 16)^^^c.toNat/16:=by
  rw [e,ga 4 (n^^^c.toNat % 16),fy]
 rw [e2,YX]
theorem N8 (n:Nat) (l:List UInt8):ng n l=lY n l:=by
 unfold ng lY
 induction l generalizing n with
 |nil=>rfl
 |cons c l ih=>simp only [Zh];rw [MK,←C7];exact ih _
theorem QP (l:List UInt8):Hz l=gU l:=by
 unfold Hz rN gU;rw [N8]
theorem DS (l:List UInt8):pT l=aK l:=by unfold pT aK;rw [QP]
theorem Oc (l:List UInt8):dN l=wF l:=by
 unfold dN wF;by_cases h4:l.length<4
 ·rw [if_pos h4,if_pos h4]
 ·rw [if_neg h4,if_neg h4,DS];have e:aK (l.take (l.length-4))≠l↔l.drop (l.length-4)≠four (gU (l.take (l.length-4))):=by
   refine not_congr ⟨fun h=>?_,fun h=>?_⟩
   ·have h2:=congrArg (List.drop (l.length-4)) h;rw [←h2];unfold aK;rw [List.drop_append_of_le_length (by rw [Yo];omega)];simp
   ·unfold aK;rw [←h,qbp]
  by_cases he:aK (l.take (l.length-4))≠l
  ·rw [if_pos he,if_pos (e.1 he)]
  ·rw [if_neg he,if_neg (fun x=>he (e.2 x))]
theorem yy (l:List UInt8):dN (aK l)=(l,true):=by
 have hl:(aK l).length=l.length+4:=by unfold aK;rw [X',iN]
 have ht:(aK l).take ((aK l).length-4)=l:=by rw [hl];unfold aK;simp
 unfold dN;rw [if_neg (by omega),ht,DS,if_neg (by simp)]
end Go.Proofs.YtggndfefpbmaeaaGreatDoor.crc
namespace Go.Proofs.YtggndfefpbmaeaaGreatDoor.crc
open Go.Am
def Az:List Value→Option Value
 | [.string s]=>if s.data.toList.length<900000 then some (.tuple ⟨[strOf (dN s.data.toList).1,.bool (dN s.data.toList).2]⟩) else none
 |_=>none
def Cf:List Value→Option Value
 | [.string s]=>if s.data.toList.length<900000 then some (strOf (aK s.data.toList)) else none
 |_=>none
theorem An:b8 Us.P 68 (aM Az):=by
 refine dP Tr (f:=68) (fn:=Tryz.f68) (bB Tryz.func68) (c:=(Tryz.f68.body).getD .skip) (by kernel_rfl) fun args v h=>?_
 unfold Az at h;split at h
 ·rename_i s;split at h
  ·rename_i hn;cases h;exact⟨by simp [flat],by simp [flat,strOf],30,_,xx s.data.toList hn⟩
  ·cases h
 ·cases h
theorem GF:b8 Lx.P 61 (aM Cf):=by
 refine dP F4 (f:=61) (fn:=Tryz.f61) (bB Tryz.func61) (c:=(Tryz.f61.body).getD .skip) (by kernel_rfl) fun args v h=>?_
 unfold Cf at h;split at h
 ·rename_i s;split at h
  ·rename_i hn;cases h;exact⟨by simp [flat],by simp [flat,strOf],30,_,DA s.data.toList (by omega)⟩
  ·cases h
 ·cases h
end Go.Proofs.YtggndfefpbmaeaaGreatDoor.crc
namespace Go.Am
noncomputable def oA {X:Type} (P:X→Prop) (a:X→List Value) (r:X→Value):List Value→Option Value:=fun args=>
 open Classical in if h:∃x,P x∧args=a x then some (r h.choose) else none
theorem Po {X:Type} {P:X→Prop} {a:X→List Value} {r:X→Value} (hi:∀x y,a x=a y→r x=r y) {x:X} (hx:P x):oA P a r (a x)=some (r x):=by
 unfold oA;have h:∃y,P y∧a x=a y:=⟨x,hx,rfl⟩;rw [dif_pos h,hi _ _ h.choose_spec.2.symm]
variable {tb:bI}
variable {f:FuncId} {fn:Func}
theorem eQ (ok:cg tb) {c:Code} {X:Type} {P:X→Prop} {a:X→List Value} {r:X→Value} (hf:tb.fn.get f=some fn) (hb:fn.body=some c) (hnm:(fn.name== "runtime.NumGoroutine")=false) (hk:tb.hk.get f=none)
 (h:∀x,P x→(∀v∈a x,flat 9 v=true)∧flat 9 (r x)=true∧∃A',bL tb f (a x) dX (r x) A'):b8 tb.P f (aM (oA P a r)):=by
 refine dP ok hf hb fun args v hv=>?_
 unfold oA at hv;split at hv
 ·rename_i hx;cases hv;obtain⟨hp,he⟩:=hx.choose_spec;obtain⟨h1,h2,A',h3⟩:=h _ hp;obtain⟨n,hn⟩:=AQ hf hb hnm hk h3;refine⟨fun v hv=>h1 v (he▸hv),h2,n,A',?_⟩;rw [←hn];exact congrArg (fun l=>call tb n f l dX) he
 ·cases hv
theorem ep {ih:Code→St→R (Ex×St)} {A:Mem} {c:Code} {X:Type} {P:X→Prop} {a:X→List Value} {r:X→Value} (hf:tb.fn.get f=some fn) (hn:(fn.name== "runtime.NumGoroutine")=false) (hb:fn.body=some c)
 (hk:tb.hk.get f=some (aM (oA P a r))) (hi:∀x y,a x=a y→r x=r y) {x:X} (hx:P x):bg tb ih (.fn f (a x)) A= .ok (.val (r x) A):=by
 refine bW hf hn hb hk ?_;unfold aM;rw [Po hi hx]
end Go.Am
namespace Go.Proofs.YtggndfefpbmaeaaGreatDoor.sto
open Go.Am Go.Mdl Go.Sto
theorem str_inj {a b:List UInt8} (h:strOf a=strOf b):a=b:=by unfold strOf at h;simpa using h
def M4 (x:List UInt8×Nat):List Value:=[strOf x.1,.int .i64 x.2]
def SZ (x:List UInt8×Nat):Prop:=x.1.length<1000000∧x.2≤x.1.length
theorem UN:∀x y,M4 x=M4 y→vu (rn x.1 x.2)=vu (rn y.1 y.2):=by
 rintro⟨s,a⟩ ⟨s',a'⟩ h;simp only [M4,YL,Value.int.injEq,and_true,true_and] at h;obtain⟨h1,h2⟩:=h;cases str_inj h1;cases qa9 h2;rfl
noncomputable def U9:=aM (oA SZ M4 fun x=>vu (rn x.1 x.2))
theorem Mw:b8 bX.P 160 U9:=eQ eK (bB Tryz.func160) wu (by kernel_rfl) (by kernel_rfl) fun x hx=>⟨by simp [M4,flat,strOf],by simp [vu,flat],by
 obtain⟨v,A',h,rfl⟩:=run_get (A:=dX) hx.1 hx.2;exact⟨A',h⟩⟩
def Co (x:Nat):List Value:=[.int .u64 x]
theorem Ph {x y:Nat} (h:Co x=Co y):x=y:=by
 simp only [Co,YL,Value.int.injEq,and_true,true_and] at h;exact qa9 h
noncomputable def Ui:=aM (oA (fun x:Nat=>x<18446744073709551616) Co fun x=>strOf (bH x))
theorem EW:b8 bX.P 107 Ui:=eQ eK (bB Tryz.func107) wP (by kernel_rfl) (by kernel_rfl) fun x hx=>⟨by simp [Co,flat],by simp [flat,strOf],by
 obtain⟨v,A',h,rfl⟩:=MA (A:=dX) hx;exact⟨A',h⟩⟩
noncomputable def V0:=aM (oA (fun e:aP=>e.weight<4294967296) Ht fun e=>.int .u64 (val e:Nat))
theorem LV:b8 bX.P 151 V0:=eQ eK (bB Tryz.func151) (c:=qbU.body.getD .skip) (by kernel_rfl) (by kernel_rfl) (by kernel_rfl) fun e he=>⟨by simp [Ht,ct,flat,strOf],by simp [flat],_,K4 he⟩
def SS (x:Int×Int×Int):List Value:=[.int .i64 x.1,.int .i64 x.2.1,.int .i64 x.2.2]
noncomputable def HQ:=aM (oA (fun _=>True) SS fun x=>.bool (decide (x.2.1≤x.1∧x.1≤x.2.2)))
theorem EF:b8 bX.P 104 HQ:=eQ eK (bB Tryz.func104) (c:=Tryz.f104.body.getD .skip) (by kernel_rfl) (by kernel_rfl) (by kernel_rfl) fun x _=>⟨by simp [SS,flat],by simp [flat],_,F'⟩
def FR (w:List UInt8):List Value:=[strOf w]
theorem VN {x y:List UInt8} (h:FR x=FR y):x=y:=by
 simp only [FR,YL,and_true] at h;exact str_inj h
noncomputable def XE:=aM (oA (fun _=>True) FR fun w=>.bool (decide (1≤w.length∧w.length≤255)))
theorem Qz:b8 bX.P 196 XE:=eQ eK (bB Tryz.func196) (c:=Tryz.f196.body.getD .skip) (by kernel_rfl) (by kernel_rfl) (by kernel_rfl) fun x _=>⟨by simp [FR,flat,strOf],by simp [flat],_,SI⟩
noncomputable def UO:=aM (oA (fun _=>True) FR fun w=>.bool (decide (0<w.length∧w.length≤64)))
theorem LA:b8 bX.P 63 UO:=eQ eK (bB Tryz.func63) (c:=Tryz.f63.body.getD .skip) (by kernel_rfl) (by kernel_rfl) (by kernel_rfl) fun x _=>⟨by simp [FR,flat,strOf],by simp [flat],_,QD⟩
noncomputable def UM:=aM (oA (fun n:Nat=>n<1099511627776) Co fun n=>.int .i64 n)
theorem OD:b8 bX.P 112 UM:=eQ eK (bB Tryz.func112) (c:=Tryz.f112.body.getD .skip) (by kernel_rfl) (by kernel_rfl) (by kernel_rfl) fun x hx=>⟨by simp [Co,flat],by simp [flat],_,P5 hx⟩
def MI (x:Nat×Bool):List Value:=[.agg ⟨[.int .u64 x.1,.bool x.2]⟩]
theorem WO {x y:Nat×Bool} (h:MI x=MI y):x=y:=by
 obtain⟨a,b⟩:=x;obtain⟨a',b'⟩:=y;simp only [MI,YL,Value.agg.injEq,Array.mk.injEq,Value.int.injEq,Value.bool.injEq,and_true,true_and] at h;cases qa9 h.1;cases h.2;rfl
noncomputable def Nh:=aM (oA (fun _=>True) MI fun x=>.bool (x.2&&decide (x.1≤4294967296)))
theorem FY:b8 bX.P 181 Nh:=eQ eK (bB Tryz.func181) (c:=Tryz.f181.body.getD .skip) (by kernel_rfl) (by kernel_rfl) (by kernel_rfl) fun x _=>⟨by simp [MI,flat],by simp [flat],_,Lm⟩
noncomputable def Vc:bI:=bX.pK 107 Ui
theorem TH:cg Vc:=bZ eK EW
noncomputable def UC:=aM (oA (fun x:Nat=>x<18446744073709551616) Co fun x=>strOf (bH x))
variable {n:Nat}
theorem PT {A:Mem} (h:n<18446744073709551616):bL Vc 103 [.int .u64 n] A (strOf (bH n)) A:=by
 have k:∀ih,bg Vc ih (.fn 107 [.int .u64 n]) A= .ok (.val (strOf (bH n)) A):=fun ih=>ep (tb:=Vc) (x:=n) (bB Tryz.func107) (by kernel_rfl) wP (by simp only [Vc,bI.pK,T.af];rfl) (fun x y h=>by rw [Ph h]) h
 refine aT (bB Tryz.func103) (c:=Tryz.f103.body.getD .skip) (by kernel_rfl) (by rw [Tryz.ntmps103];simp) (by kernel_rfl) (by kernel_rfl) ?_;apply W.run 60
 ·intro M;simp (disch:=first|decide+kernel|omega) only [Tryz.f103,Aq,X2,k];rfl
 exact⟨by simp,rfl,rfl,by simp only [Tryz.f103,Aq,X2,k]<;>rfl⟩
theorem O6:b8 bX.P 103 UC:=eQ TH (bB Tryz.func103) (c:=Tryz.f103.body.getD .skip) (by kernel_rfl) (by kernel_rfl) (by kernel_rfl) fun x hx=>⟨by simp [Co,flat],by simp [flat,strOf],_,PT hx⟩
def bare (e:aP):aP:=if e.gone then⟨e.word,0,true⟩ else e
noncomputable def RA:=aM (oA (fun _=>True) Ht fun e=>.agg ⟨ct (bare e)⟩)
theorem Wj {t:TypeId} (h:(bX.bp t).map cN=some true):∃d,bX.bp t=some d∧cN d=true:=by
 cases hq:bX.bp t with
 |none=>rw [hq] at h;cases h
 |some d=>rw [hq] at h;exact⟨d,rfl,by simpa using h⟩
theorem Rq:b7 bX 67= .ok (.agg ⟨[.string .empty,.int .u32 (0:Nat),.bool false]⟩):=by kernel_rfl
theorem TT:aY bX 31= .ok 1:=by kernel_rfl
theorem Jf (e:aP):∀v∈ct e,aJ v=true:=by
 intro v hv;simp only [ct,Yp,YH,or_false] at hv;rcases hv with rfl|rfl|rfl<;>rfl
variable {e:aP}
theorem OT {A:Mem}:∃v A',bL bX 195 [.agg ⟨ct e⟩] A v A'∧v= .agg ⟨ct (bare e)⟩:=by
 have v1:=aF A 67 (ct e);generalize hB:A.alloc (aa 67 (ct e))=B at v1;have v2:=aF B 67 [.string .empty,.int .u32 (0:Nat),.bool false];have v1:=v1.kp (Kp.alloc B (aa 67 [.string .empty,.int .u32 (0:Nat),.bool false]));have hne:B.next≠A.next:=by rw [←hB,ae];omega
 generalize hC:B.alloc (aa 67 [.string .empty,.int .u32 (0:Nat),.bool false])=C at v2 v1;have lg:aq bX C.get 4 (.pointer (some ⟨A.next,2,none⟩))= .ok (.bool e.gone):=v1.ld rfl K9 rfl;obtain⟨d,hd1,hd2⟩:=Wj (t:=67) (by kernel_rfl);cases hg:e.gone with
 |true=>
  rw [hg] at lg;obtain⟨D,sD,vD,nD,fD⟩:=a_ (tb:=bX) (t:=31) (o:=1) (v:=.int .u32 (0:Nat)) TT v1.2 (by simp [ct]) rfl rfl;have el:(ct e).set 1 (.int .u32 (0:Nat))=ct (bare e):=by simp [ct,bare,hg]
  rw [el] at vD;have lw:aq bX D.get 67 (.pointer (some ⟨A.next,0,none⟩))= .ok (.agg ⟨ct (bare e)⟩):=aQ hd1 hd2 tK vD;obtain⟨E,sE,vE,-⟩:=bx (tb:=bX) (t:=67) (l':=ct (bare e)) (by exact tK) (v2.2.same (fD _ hne)) rfl (by simp) (Jf _);have lE:aq bX E.get 67 (.pointer (some ⟨B.next,0,none⟩))= .ok (.agg ⟨ct (bare e)⟩):=aQ hd1 hd2 tK vE;refine⟨_,E,?_,rfl⟩;refine aT (bB Tryz.func195) (c:=qb0.body.getD .skip) (by kernel_rfl) (by rw [Tryz.ntmps195];simp) (by kernel_rfl) (by kernel_rfl) ?_;apply W.run 60
  ·intro M;simp (disch:=first|decide+kernel|omega) only [qb0,Aq,X2,au,Rq,hB,hC,HJ,uP,lg,sD,lw,sE,lE];rfl
  exact⟨by simp,rfl,rfl,by simp only [qb0,Aq,X2,au,Rq,hB,hC,HJ,uP,lg,sD,lw,sE,lE]<;>rfl⟩
 |false=>
  rw [hg] at lg;have el:ct e=ct (bare e):=by simp [bare,hg]
  have lw:aq bX C.get 67 (.pointer (some ⟨A.next,0,none⟩))= .ok (.agg ⟨ct e⟩):=aQ hd1 hd2 tK v1.2;obtain⟨E,sE,vE,-⟩:=bx (tb:=bX) (t:=67) (l':=ct e) (by exact tK) v2.2 rfl (by simp) (Jf _);have lE:aq bX E.get 67 (.pointer (some ⟨B.next,0,none⟩))= .ok (.agg ⟨ct e⟩):=aQ hd1 hd2 tK vE;refine⟨_,E,?_,congrArg (fun l=>Value.agg ⟨l⟩) el⟩;refine aT (bB Tryz.func195) (c:=qb0.body.getD .skip) (by kernel_rfl) (by rw [Tryz.ntmps195];simp) (by kernel_rfl) (by kernel_rfl) ?_;apply W.run 60
  ·intro M;simp (disch:=first|decide+kernel|omega) only [qb0,Aq,X2,au,Rq,hB,hC,uP,lg,lw,sE,lE];rfl
  exact⟨by simp,rfl,rfl,by simp only [qb0,Aq,X2,au,Rq,hB,hC,uP,lg,lw,sE,lE]<;>rfl⟩
theorem KS:b8 bX.P 195 RA:=eQ eK (bB Tryz.func195) (c:=qb0.body.getD .skip) (by kernel_rfl) (by kernel_rfl) (by kernel_rfl) fun e _=>⟨by simp [Ht,ct,flat,strOf],by simp [ct,flat,strOf],by
 obtain⟨v,A',h,rfl⟩:=OT (A:=dX) (e:=e);exact⟨A',h⟩⟩
def T3 (x:(Nat×Bool)×Nat):List Value:=[.agg ⟨[.int .u64 x.1.1,.bool x.1.2]⟩,.int .u64 x.2]
noncomputable def hAnd:=aM (oA (fun x:(Nat×Bool)×Nat=>x.1.1+x.2<18446744073709551616) T3 fun x=>.agg ⟨[.int .u64 (x.1.1+x.2:Nat),.bool x.1.2]⟩)
variable {m:Nat}
theorem LF {ih:Code→St→R (Ex×St)} {A:Mem} (h:n+m<18446744073709551616):bg bX ih (.fn 211 [.int .u64 n,.int .u64 m,.int .u64 (0:Nat)]) A= .ok (.val (.tuple ⟨[.int .u64 (n+m:Nat),.int .u64 (0:Nat)]⟩) A):=by
 have e:bg bX ih (.fn 211 [.int .u64 n,.int .u64 m,.int .u64 (0:Nat)]) A= .ok (.val (.tuple ⟨[.int .u64 ((n+m+0) % 18446744073709551616:Nat),.int .u64 ((n+m+0)/18446744073709551616:Nat)]⟩) A):=by kernel_rfl
 rw [e,YU,Zb h,Nat.div_eq_of_lt h]
theorem HV:aY bX 257= .ok 2:=by kernel_rfl
theorem Jo:b7 bX 257= .ok (.agg ⟨[.int .u64 (0:Nat),.bool false]⟩):=by kernel_rfl
variable {b o:Nat}
theorem Mt:ax bX 257 (pw b o) 0= .ok (pw b o):=by kernel_rfl
theorem Ov:ax bX 257 (pw b o) 1= .ok (pw b (o+1)):=by kernel_rfl
theorem RZ {x:Int} {f:Bool}:cr bX 257 [(0,.int .u64 x),(1,.bool f)]= .ok (.agg ⟨[.int .u64 x,.bool f]⟩):=by kernel_rfl
theorem PW {A:Mem} {f:Bool} (h:n+m<18446744073709551616):∃v A',bL bX 179 [.agg ⟨[.int .u64 n,.bool f]⟩,.int .u64 m] A v A'∧v= .agg ⟨[.int .u64 (n+m:Nat),.bool f]⟩:=by
 have v1:=aF A 257 [.int .u64 n,.bool f];generalize hB:A.alloc (aa 257 [.int .u64 n,.bool f])=B at v1;have v2:=aF B 257 [.int .u64 (0:Nat),.bool false];have v1:=v1.kp (Kp.alloc B (aa 257 [.int .u64 (0:Nat),.bool false]));generalize hC:B.alloc (aa 257 [.int .u64 (0:Nat),.bool false])=C at v2 v1;have l1:aq bX C.get 103 (pw A.next 0)= .ok (.int .u64 n):=v1.ld rfl gZ rfl;have l2:aq bX C.get 4 (pw A.next (0+1))= .ok (.bool f):=v1.ld rfl K9 rfl;obtain⟨d,hd1,hd2⟩:=Wj (t:=257) (by kernel_rfl);have ka:=fun ih=>LF (ih:=ih) (A:=C) h
 obtain⟨E,sE,vE,-⟩:=bx (tb:=bX) (t:=257) (l':=[.int .u64 (n+m:Nat),.bool f]) (by exact HV) v2.2 rfl (by simp) (by simp [aJ]);have lE:aq bX E.get 257 (pw B.next 0)= .ok (.agg ⟨[.int .u64 (n+m:Nat),.bool f]⟩):=aQ hd1 hd2 HV vE;refine⟨_,E,?_,rfl⟩;cases f
 all_goals
  refine aT (bB Tryz.func179) (c:=Tryz.f179.body.getD .skip) (by kernel_rfl) (by rw [Tryz.ntmps179];simp) (by kernel_rfl) (by kernel_rfl) ?_;apply W.run 60
  ·intro M;simp (config:={maxSteps:=4000000}) (disch:=first|decide+kernel|omega|simp only [Wq,X2]) only [Tryz.f179,Aq,X5,reduceIte,X2,X3,au,Jo,hB,hC,Mt,Ov,l1,l2,ka,RZ,sE,lE,X8,X7];rfl
  exact⟨by simp,rfl,rfl,by simp only [Tryz.f179,Aq,X5,reduceIte,X2,X3,au,Jo,hB,hC,Mt,Ov,l1,l2,ka,RZ,sE,lE,X8,X7]<;>rfl⟩
theorem O5:b8 bX.P 179 hAnd:=eQ eK (bB Tryz.func179) (c:=Tryz.f179.body.getD .skip) (by kernel_rfl) (by kernel_rfl) (by kernel_rfl) fun x hx=>⟨by simp [T3,flat],by simp [flat],by
 obtain⟨v,A',h,rfl⟩:=PW (A:=dX) (f:=x.1.2) hx;exact⟨A',h⟩⟩
def Td (n:Nat):List Value:=[.int .u64 n,.int .i64 (36:Nat)]
noncomputable def U4:=aM (oA (fun n:Nat=>n<18446744073709551616) Td fun n=>strOf (pO n))
theorem NR:b8 bX.P 220 U4:=eQ eK (bB Tryz.func220) (c:=Tryz.f220.body.getD .skip) (by kernel_rfl) (by kernel_rfl) (by kernel_rfl) fun n hn=>⟨by simp [Td,flat],by simp [flat,strOf],PI hn⟩
def mh (n:Nat):List UInt8:=[115,101,103,45,.ofNat (48+n)]
def jF:List UInt8:=[109,97,110,105,102,101,115,116]
def names:JV:=([.int .i64 1,.int .i64 0],strOf jF)::(Zi 6).map fun n=>([.int .i64 4,.int .i64 (.ofNat (n+1))],strOf (mh (n+1)))
theorem Q_:Ix bX 100000 32 names=true:=by kernel_rfl
theorem Qm:Ix bX 100000 23 names=true:=by kernel_rfl
variable {f:FuncId} {fn:Func}
theorem AU {c:Code} (hf:bX.fn.get f=some fn) (hb:fn.body=some c) {l:JV} (h:Ix bX n f l=true):b8 bX.P f (aM (qb l)):=(Pp eK hf hb h).hk f _ (by simp only [bI.pK,T.af];rfl)
theorem Lj:b8 bX.P 32 (aM (qb names)):=AU (bB Tryz.func32) (c:=Tryz.f32.body.getD .skip) (by kernel_rfl) Q_
theorem Gl:b8 bX.P 23 (aM (qb names)):=AU (bB Tryz.func23) (c:=Tryz.f23.body.getD .skip) (by kernel_rfl) Qm
noncomputable def jm:T (List Value→Mem→R (Value×Mem)):=((((((((((((((((bX.hk.set 160 U9).set 107 Ui).set 151 V0).set 104 HQ).set 196 XE).set 63 UO).set 112 UM).set 181 Nh).set 103 UC).set 195 RA).set 179 hAnd).set 220 U4).set 32 (aM (qb names))).set 23 (aM (qb names))).set 61 (aM crc.Cf)).set 68 (aM crc.Az))
noncomputable def bU:bI:={bX with hk:=jm}
theorem Ns:cg bU:=bZ (bZ (bZ (bZ (bZ (bZ (bZ (bZ (bZ (bZ (bZ (bZ (bZ (bZ (bZ (bZ eK Mw) EW) LV) EF) Qz) LA) OD) FY) O6) KS) O5) NR) Lj) Gl) crc.GF) crc.An
variable {k:Nat}
theorem fQ (h:YO.funcs[k]?=some fn):bU.fn.get k=some fn:=bB h
theorem NX {h:List Value→Mem→R (Value×Mem)} (e:jm.get k=some h):bU.hk.get k=some h:=e
section
variable {ih:Code→St→R (Ex×St)} {A:Mem}
theorem VU {s:List UInt8} {a:Nat} (hs:s.length<1000000) (ha:a≤s.length):bg bU ih (.fn 160 [strOf s,.int .i64 a]) A= .ok (.val (vu (rn s a)) A):=
 ep (x:=(s,a)) (fQ Tryz.func160) (by kernel_rfl) wu (NX (by simp only [jm,T.af];rfl)) UN (show SZ (s,a) from⟨hs,ha⟩)
theorem Lw {s:List UInt8} (hs:s.length<900000):bg bU ih (.fn 68 [strOf s]) A= .ok (.val (.tuple ⟨[strOf (crc.dN s).1,.bool (crc.dN s).2]⟩) A):=
 bW (fQ Tryz.func68) (by kernel_rfl) (c:=Tryz.f68.body.getD .skip) (by kernel_rfl) (NX (by simp only [jm,T.af];rfl)) (by
  have e:crc.Az [strOf s]=some (.tuple ⟨[strOf (crc.dN s).1,.bool (crc.dN s).2]⟩):=if_pos hs;unfold aM;rw [e])
end
end Go.Proofs.YtggndfefpbmaeaaGreatDoor.sto
namespace Go.Proofs.YtggndfefpbmaeaaGreatDoor.sto
open Go.Am Go.Sto
theorem II (n:Nat):∀{m i:Nat},i<m→(Dn n m)[i]?=some (.ofNat (n>>>(8*i) % 256))
 |m+1,i,h=>by
  unfold Dn;rcases YE i m with h1|h1
  ·rw [Yz (by rw [jW];exact h1)];exact II n h1
  ·rw [YA (by rw [jW];exact h1),jW,show i-m=0 by omega,show i=m by omega];rfl
variable {n:Nat}
theorem DD {s:List UInt8} {a:Nat}:∀{i:Nat},(∀j,j<i→s[a+1+j]?=some (.ofNat (n>>>(8*j) % 256)))→oH s a i=n % 2^(8*i)
 |0,_=>by simp [oH,Nat.mod_one]
 |i+1,h=>by
  unfold oH;rw [DD fun j hj=>h j (by omega)];have h1:s.getD (a+1+i) 0= .ofNat (n>>>(8*i) % 256):=by rw [YZ,h i (by omega)];rfl
  rw [h1,qa3 (show n>>>(8*i) % 256<256 by omega),Nat.or_comm,←Nat.shiftLeft_add_eq_or_of_lt (Y8 _ (qap _)),qbI,YX,show 8*(i+1)=8*i+8 by omega,qaX,show(2:Nat)^8=256 from rfl,Nat.mod_mul,Nat.mul_comm (n/2^(8*i) % 256),qa4]
theorem eM (n:Nat) (hn:n<18446744073709551616):(bH n).length≤9:=by
 have:=sP hn;rw [Dd];unfold vA;split<;>omega
theorem C_ (n:Nat):0<(bH n).length:=by
 rw [Dd];unfold vA;split<;>omega
variable {r:List UInt8}
theorem jn {s:List UInt8} {a:Nat} (hn:n<18446744073709551616) (h:s.drop a=bH n++r):rn s a=(n,a+(bH n).length,0)∧s.drop (a+(bH n).length)=r∧a+(bH n).length≤s.length:=by
 have hr:s.drop (a+(bH n).length)=r:=by rw [←qa0,h,qcg]
 have hlen:s.length-a=(bH n).length+r.length:=by rw [←Zj,h,X']
 have hg:∀j x,(bH n)[j]?=some x→s[a+j]?=some x:=fun j x hx=>by
  rw [←ZW,h,Yz (X_.1 hx).1];exact hx
 have hpos:=C_ n;refine⟨?_,hr,by omega⟩;unfold rn;rw [if_neg (by omega)];by_cases h248:n<248
 ·have e:bH n=[.ofNat n]:=by unfold bH;rw [if_pos h248]
  have h0:(s.getD a 0).toNat=n:=by
   rw [YZ,show s[a]?=some (.ofNat n) from hg 0 (.ofNat n) (by rw [e];rfl)];exact qa3 (show n<256 by omega)
  rw [h0,if_pos h248,e];rfl
 ·have e:bH n= .ofNat (247+cz n)::Dn n (cz n):=by unfold bH;rw [if_neg h248]
  have hl:=sP hn;have el:(bH n).length=1+cz n:=by rw [e,Yf,jW];omega
  have hb:gp n=n.log2+1:=by unfold gp;rw [if_neg (by omega)]
  have hlp:0<cz n:=by unfold cz;omega
  have h0:(s.getD a 0).toNat=247+cz n:=by
   rw [YZ,show s[a]?=some (.ofNat (247+cz n)) from hg 0 _ (by rw [e];rfl)];exact qa3 (show 247+cz n<256 by omega)
  have hlt:n<2^(8*cz n):=Yt ((qb6 (by omega)).1 (Zu n.log2)) (Y2 (by omega) (by unfold cz;omega));have hgs:oH s a (cz n)=n:=by
   rw [DD fun j hj=>?_,Zb hlt];rw [qaO];exact hg (1+j) _ (by rw [e,qa4 1 j,X7];exact II n hj)
  rw [h0,if_neg (by omega),show 247+cz n-247=cz n by omega,if_neg (by omega),hgs,if_pos (by unfold vA;rw [if_neg h248]),el,qaO]
def im (i:Nat) (a:cO):List UInt8:=a.byte::(bH a.out++bH (i-a.to))
def nd (s:bj):List UInt8:=if s.fin then bH (2*s.arcs.length+1)++bH s.out else bH (2*s.arcs.length)
def FH (i:Nat) (s:bj):List UInt8:=nd s++s.arcs.flatMap (im i)
def ig:Nat→List bj→List UInt8
 |_,[]=>[]
 |i,s::M=>FH i s++ig (i+1) M
theorem A4:∀(M:List bj) (i:Nat) (s:bj),ig i (M++[s])=ig i M++FH (i+M.length) s
 | [],i,s=>by simp [ig]
 |x::M,i,s=>by
  rw [YT,ig,A4 M (i+1) s,ig,Y1,Yf,show i+1+M.length=i+(M.length+1) by omega]
def iS (n:Nat) (M:List bj) (k:Nat):List UInt8:=[67,83,1]++(bH n++(bH M.length++(ig 0 M++bH k)))
def Lay (M:List bj):Prop:=∀(i:Nat) (s:bj),M[i]?=some s→s.arcs.length≤256∧(s.fin=false→s.out=0)∧s.out<18446744073709551616∧∀a∈s.arcs,a.to<i∧a.out<18446744073709551616
def cc (a:cO):List Value:=[.int .u8 (a.byte.toNat:Nat),.int .u64 a.out,.int .i64 a.to]
def j' (A:Mem) (l:List cO) (x:Value):Prop:=∃b,az A 172 3 b (l.map cc) x
variable {A A':Mem}
theorem j'.kp {l:List cO} {x:Value} (h:j' A l x) (k:Kp A A'):j' A' l x:=by
 obtain⟨b,h⟩:=h;exact⟨b,h.same k.1 (k.2 b)⟩
def cW (x:Value) (s:bj):List Value:=[x,.bool s.fin,.int .u64 s.out]
variable {b:Nat} {ls:List (List Value)}
theorem az.dm {e:TypeId} {x:Value} (h:az A e n b ls x):x.cells.toList=[x]∧aJ x=true:=by
 rcases h with⟨rfl,-⟩|⟨k,c,rfl,-⟩<;>exact⟨rfl,rfl⟩
theorem az.fA {e:TypeId} {x:Value} (h:az A e n b ls x) (h0:ls=[]→x= .slice none 0 0) (hn:A.next≤A'.next) (hg:ls≠ []→b<A.next→A'.get b=A.get b):az A' e n b ls x:=by
 by_cases hl:ls=[]
 ·exact .inl ⟨h0 hl,hl⟩
 ·exact az.same h hn (hg hl)
def eX (A:Mem) (M:List bj) (y:Value):Prop:=∃b rows,az A 164 3 b rows y∧rows.length=M.length∧∀(i:Nat) (s:bj),M[i]?=some s→∃x,rows[i]?=some (cW x s)∧j' A s.arcs x
variable {M:List bj} {y:Value}
theorem eX.kp (h:eX A M y) (k:Kp A A'):eX A' M y:=by
 obtain⟨b,rows,h1,h2,h3⟩:=h;refine⟨b,rows,h1.same k.1 (k.2 b),h2,fun i s hs=>?_⟩;obtain⟨x,e1,e2⟩:=h3 i s hs;exact⟨x,e1,e2.kp k⟩
theorem mr (t:T Value) (n:Nat):ev t (.func n)= .ok (.func (.func n) ⟨[]⟩ ⟨[]⟩):=rfl
theorem i3:bU.bp 3=some (.int .i64):=Bf
theorem i4:bU.bp 4=some .bool:=K9
theorem i5:bU.bp 5=some (.int .u8):=k6
theorem i9:bU.bp 9=some .string:=nW
theorem i103:bU.bp 103=some (.int .u64):=gZ
theorem Ut:aY bU 3= .ok 1:=by kernel_rfl
theorem zp {t:TypeId} {p:Bool} (h:(bU.bp t).map cN=some p):∃d,bU.bp t=some d∧cN d=p:=by
 cases hq:bU.bp t with
 |none=>rw [hq] at h;cases h
 |some d=>rw [hq] at h;exact⟨d,rfl,by simpa using h⟩
variable {v:Value}
theorem VB.lp {e t:TypeId} (h:VB A e b (.var 1) [v]) (ht:(bU.bp t).map cN=some false):aq bU A.get t (pw b 0)= .ok v:=by
 obtain⟨d,hd,ha⟩:=zp ht;exact h.ld rfl hd ha
theorem xu:ax bU 197 (pw b 0) 0= .ok (pw b 0):=by kernel_rfl
theorem mO:ax bU 197 (pw b 0) 1= .ok (pw b 1):=by kernel_rfl
def pV (b:Nat):Value:=.pointer (some ⟨b,0,none⟩)
def tv (A:Mem) (p:Nat) (s:List UInt8) (a:Nat):Prop:=VB A 197 p (.var 2) [strOf s,.int .i64 a]
variable {p:Nat}
theorem tv.kp {a:Nat} {s:List UInt8} (h:tv A p s a) (k:Kp A A'):tv A' p s a:=VB.kp h k
theorem tv.s {a:Nat} {s:List UInt8} (h:tv A p s a):aq bU A.get 9 (pw p 0)= .ok (strOf s):=h.ld rfl i9 rfl
theorem tv.a {a:Nat} {s:List UInt8} (h:tv A p s a):aq bU A.get 3 (pw p 1)= .ok (.int .i64 a):=h.ld rfl i3 rfl
theorem tv.go {a:Nat} {s:List UInt8} (h:tv A p s a):∃A',aW bU A 3 (pw p 1) (.int .i64 b)= .ok A'∧tv A' p s b∧A'.next=A.next∧∀z,z≠p→A'.get z=A.get z:=by
 obtain⟨A',h1,h2,h3,h4⟩:=a_ (tb:=bU) (t:=3) (o:=1) (v:=.int .i64 b) Ut h.2 (by simp) rfl rfl;exact⟨A',h1,⟨by have:=h.1;omega,h2⟩,h3,h4⟩
def wm (p:Nat) (A A':Mem):Prop:=A.next≤A'.next∧∀z,z<A.next→z≠p→A'.get z=A.get z
theorem wm.refl (p:Nat) (A:Mem):wm p A A:=⟨X9 _,fun _ _ _=>rfl⟩
theorem Kp.x (p:Nat) (h:Kp A A'):wm p A A':=⟨h.1,fun z hz _=>h.2 z hz⟩
variable {B C:Mem}
theorem wm.trans (h:wm p A B) (k:wm p B C):wm p A C:=⟨YC h.1 k.1,fun z hz hp=>by rw [k.2 z (by have:=h.1;omega) hp,h.2 z hz hp]⟩
variable {q:Nat}
theorem Pw {a:Nat} {s:List UInt8} (h:tv A p s a) (hq:VB A 195 q (.var 1) [pV p]) (hs:s.length<900000) (ha:a≤s.length):bL bU 207 [pV q] A (vu (rn s a)) A:=by
 have l1:aq bU A.get 195 (pw q 0)= .ok (pV p):=hq.lp (by kernel_rfl);have l2:=h.s;have l3:=h.a;have kg:=fun ih=>VU (ih:=ih) (A:=A) (show s.length<1000000 by omega) ha
 refine aT (fQ Tryz.func207) (c:=Tryz.f207.body.getD .skip) (by kernel_rfl) (by rw [Tryz.ntmps207];simp) (by kernel_rfl) (by kernel_rfl) ?_;apply W.run 60
 ·intro M;simp (config:={maxSteps:=4000000}) (disch:=first|decide+kernel|omega|simp only [Wq,X2]) only [Tryz.f207,Aq,X5,reduceIte,X2,X3,pV,l1,l2,l3,aG,a8,xu,mO,kg,vu,X8,X7,Fq,aC []];rfl
 exact⟨by simp,rfl,rfl,by simp only [Tryz.f207,Aq,X5,reduceIte,X2,X3,pV,l1,l2,l3,aG,a8,xu,mO,kg,vu,X8,X7,Fq,aC []]<;>rfl⟩
theorem Qy {r lo hi:Nat} (hq:VB A 103 q (.var 1) [.int .u64 lo]) (hr:VB A 103 r (.var 1) [.int .u64 hi]) (h:lo≤n∧n≤hi):bL bU 208 [.int .u64 n,pV q,pV r] A (.int .i64 (0:Nat)) A:=by
 have l1:aq bU A.get 103 (pw q 0)= .ok (.int .u64 lo):=hq.ld rfl i103 rfl;have l2:aq bU A.get 103 (pw r 0)= .ok (.int .u64 hi):=hr.ld rfl i103 rfl;have e1:¬n<lo:=by omega
 have e2:¬hi<n:=by omega
 refine aT (fQ Tryz.func208) (c:=Tryz.f208.body.getD .skip) (by kernel_rfl) (by rw [Tryz.ntmps208];simp) (by kernel_rfl) (by kernel_rfl) ?_;apply W.run 60
 ·intro M;simp (config:={maxSteps:=4000000}) (disch:=first|decide+kernel|omega|simp only [Wq,X2]) only [Tryz.f208,Aq,X5,reduceIte,X2,X3,pV,l1,l2,bR,bw,e1,e2];rfl
 exact⟨by simp,rfl,rfl,by simp only [Tryz.f208,Aq,X5,reduceIte,X2,X3,pV,l1,l2,bR,bw,e1,e2]<;>rfl⟩
theorem jS {a lo hi:Nat} {s:List UInt8} (h:tv A p s a) (hs:s.length<900000) (hn:n<18446744073709551616) (hd:s.drop a=bH n++r) (hr:lo≤n∧n≤hi):
 ∃v A',bL bU 166 [pV p,.int .u64 lo,.int .u64 hi] A v A'∧v= .int .u64 n∧tv A' p s (a+(bH n).length)∧wm p A A':=by
 obtain⟨hg,-,hle⟩:=jn hn hd;have ha:a≤s.length:=by omega
 have kB:=Kp.alloc A (aa 195 [pV p]);have v1:=aF A 195 [pV p];generalize hB:A.alloc (aa 195 [pV p])=B at kB v1;have kC:=Kp.alloc B (aa 103 [.int .u64 lo]);have v2:=aF B 103 [.int .u64 lo];generalize hC:B.alloc (aa 103 [.int .u64 lo])=C at kC v2;have kD:=Kp.alloc C (aa 103 [.int .u64 hi]);have v3:=aF C 103 [.int .u64 hi];generalize hD:C.alloc (aa 103 [.int .u64 hi])=D at kD v3;have v1:=v1.kp (kC.trans kD);have v2:=v2.kp kD;have kAD:=kB.trans (kC.trans kD);have hD':=h.kp kAD;obtain⟨g1,h1⟩:=Pw hD' v1 hs ha;obtain⟨g2,h2⟩:=Qy v2 v3 hr;rw [hg] at h1;have l1:aq bU D.get 195 (pw A.next 0)= .ok (pV p):=v1.lp (by kernel_rfl);obtain⟨E,sE,rE,nE,fE⟩:=hD'.go (b:=a+(bH n).length);have h206:bL bU 206 [pV p,.func (.func 207) ⟨[]⟩ ⟨[pV A.next]⟩,.func (.func 208) ⟨[]⟩ ⟨[pV B.next,pV C.next]⟩] D (.int .u64 n) E:=by
  simp only [pV,vu] at*;refine aT (fQ Tryz.func206) (c:=Tryz.f206.body.getD .skip) (by kernel_rfl) (by rw [Tryz.ntmps206];simp) (by kernel_rfl) (by kernel_rfl) ?_;apply W.a6 (g1+g2) 60
  ·intro M hM;simp (config:={maxSteps:=4000000}) (disch:=first|decide+kernel|omega|simp only [Wq,X2]) only [Tryz.f206,Aq,X5,reduceIte,X2,X3,h1,h2,X8,X7,aG,a8,mO,sE];rfl
  exact⟨by simp,rfl,rfl,by simp only [Tryz.f206,Aq,X5,reduceIte,X2,X3,h1,h2,X8,X7,aG,a8,mO,sE]<;>rfl⟩
 obtain⟨g3,h3⟩:=h206;refine⟨_,E,?_,rfl,rE,(kAD.x p).trans ⟨by omega,fun z _ hz=>fE z hz⟩⟩;simp only [pV] at*;refine aT (fQ Tryz.func166) (c:=Tryz.f166.body.getD .skip) (by kernel_rfl) (by rw [Tryz.ntmps166];simp) (by kernel_rfl) (by kernel_rfl) ?_;apply W.a6 (g3) 60
 ·intro M hM;simp (disch:=first|decide+kernel|omega) only [Tryz.f166,Aq,X2,ec,hB,hC,hD,l1,h3,aS];rfl
 exact⟨by simp,rfl,rfl,by simp only [Tryz.f166,Aq,X2,ec,hB,hC,hD,l1,h3,aS]<;>rfl⟩
theorem Q' {a:Nat} {c:UInt8} {s:List UInt8} (h:tv A p s a) (hq:VB A 195 q (.var 1) [pV p]) (hs:s.length<900000) (hd:s.drop a=c::r):bL bU 205 [pV q] A (.tuple ⟨[.int .u8 (c.toNat:Nat),.int .i64 (a+1:Nat),.int .i64 (0:Nat)]⟩) A:=by
 have hlt:a<s.length:=by
  rcases YE a s.length with h|h
  ·exact h
  ·rw [qbC.2 h] at hd;cases hd
 have hc:s.getD a 0=c:=by
  have:s[a]?=some c:=by rw [←YU a,←ZW,hd];rfl
  rw [YZ,this];rfl
 have l1:aq bU A.get 195 (pw q 0)= .ok (pV p):=hq.lp (by kernel_rfl);have l2:=h.s;have l3:=h.a;have hl:=cd (tb:=bU) (t:=9) (l:=s) i9;have hx:=ed (tb:=bU) (t:=9) (kd:=.i64) i9 hlt;rw [hc] at hx;have hne:¬a=s.length:=by omega
 have a1:aN .add .i64 ((a:Nat):Int) ((1:Nat):Int)= .ok (.int .i64 (a+1:Nat)):=a9 (aR (by omega));refine aT (fQ Tryz.func205) (c:=Tryz.f205.body.getD .skip) (by kernel_rfl) (by rw [Tryz.ntmps205];simp) (by kernel_rfl) (by kernel_rfl) ?_;apply W.run 60
 ·intro M;simp (config:={maxSteps:=4000000}) (disch:=first|decide+kernel|omega|simp only [Wq,X2]) only [Tryz.f205,Aq,X5,reduceIte,X2,X3,pV,l1,l2,l3,aG,a8,xu,mO,hl,hx,hne,a1,Fq,aC []];rfl
 exact⟨by simp,rfl,rfl,by simp only [Tryz.f205,Aq,X5,reduceIte,X2,X3,pV,l1,l2,l3,aG,a8,xu,mO,hl,hx,hne,a1,Fq,aC []]<;>rfl⟩
theorem Dw {a f:Nat} {y:List Value} {c:UInt8} {s:List UInt8} (h:tv A p s a) (hs:s.length<900000) (hd:s.drop a=c::r) (hf:∀B,Kp A B→bL bU f (.int .u8 (c.toNat:Nat)::y) B (.int .i64 (0:Nat)) B):
 ∃v A',bL bU 164 [pV p,.func (.func f) ⟨[]⟩ ⟨y⟩] A v A'∧v= .int .u8 (c.toNat:Nat)∧tv A' p s (a+1)∧wm p A A':=by
 have kB:=Kp.alloc A (aa 195 [pV p]);have v1:=aF A 195 [pV p];generalize hB:A.alloc (aa 195 [pV p])=B at kB v1;have hB':=h.kp kB;obtain⟨g1,h1⟩:=Q' hB' v1 hs hd;obtain⟨g2,h2⟩:=hf B kB;have l1:aq bU B.get 195 (pw A.next 0)= .ok (pV p):=v1.lp (by kernel_rfl);obtain⟨E,sE,rE,nE,fE⟩:=hB'.go (b:=a+1);have h204:bL bU 204 [pV p,.func (.func 205) ⟨[]⟩ ⟨[pV A.next]⟩,.func (.func f) ⟨[]⟩ ⟨y⟩] B (.int .u8 (c.toNat:Nat)) E:=by
  simp only [pV] at*;refine aT (fQ Tryz.func204) (c:=Tryz.f204.body.getD .skip) (by kernel_rfl) (by rw [Tryz.ntmps204];simp) (by kernel_rfl) (by kernel_rfl) ?_;apply W.a6 (g1+g2) 60
  ·intro M hM;simp (config:={maxSteps:=4000000}) (disch:=first|decide+kernel|omega|simp only [Wq,X2]) only [Tryz.f204,Aq,X5,reduceIte,X2,X3,h1,h2,X8,X7,aG,a8,mO,sE];rfl
  exact⟨by simp,rfl,rfl,by simp only [Tryz.f204,Aq,X5,reduceIte,X2,X3,h1,h2,X8,X7,aG,a8,mO,sE]<;>rfl⟩
 obtain⟨g3,h3⟩:=h204;refine⟨_,E,?_,rfl,rE,(kB.x p).trans ⟨by omega,fun z _ hz=>fE z hz⟩⟩;simp only [pV] at*;refine aT (fQ Tryz.func164) (c:=Tryz.f164.body.getD .skip) (by kernel_rfl) (by rw [Tryz.ntmps164];simp) (by kernel_rfl) (by kernel_rfl) ?_;apply W.a6 (g3) 60
 ·intro M hM;simp (disch:=first|decide+kernel|omega) only [Tryz.f164,Aq,X2,ec,hB,l1,h3,aS];rfl
 exact⟨by simp,rfl,rfl,by simp only [Tryz.f164,Aq,X2,ec,hB,l1,h3,aS]<;>rfl⟩
theorem P9 {c:UInt8}:bL bU 209 [.int .u8 (c.toNat:Nat)] A (.int .i64 (0:Nat)) A:=by
 refine aT (fQ Tryz.func209) (c:=Tryz.f209.body.getD .skip) (by kernel_rfl) (by rw [Tryz.ntmps209];simp) (by kernel_rfl) (by kernel_rfl) ?_;apply W.run 60
 ·intro M;simp (disch:=first|decide+kernel|omega) only [Tryz.f209,Aq,X2];rfl
 exact⟨by simp,rfl,rfl,by simp only [Tryz.f209,Aq,X2]<;>rfl⟩
variable {i:Nat}
theorem Qo {c:UInt8} (hq:VB A 3 q (.var 1) [.int .i64 i]) (hi:i<3) (hc: [67,83,1][i]?=some c):bL bU 165 [.int .u8 (c.toNat:Nat),pV q] A (.int .i64 (0:Nat)) A:=by
 have l1:aq bU A.get 3 (pw q 0)= .ok (.int .i64 i):=hq.ld rfl i3 rfl;have hx:=ed (tb:=bU) (t:=9) (kd:=.i64) (l:=[67,83,1]) i9 (i:=i) hi;have e:([67,83,1]:List UInt8).getD i 0=c:=by rw [YZ,hc];rfl
 rw [e] at hx;refine aT (fQ Tryz.func165) (c:=Tryz.f165.body.getD .skip) (by kernel_rfl) (by rw [Tryz.ntmps165];simp) (by kernel_rfl) (by kernel_rfl) ?_;apply W.run 60
 ·intro M;simp (disch:=first|decide+kernel|omega) only [Tryz.f165,Aq,X2,pV,l1,hx];rfl
 exact⟨by simp,rfl,rfl,by simp only [Tryz.f165,Aq,X2,pV,l1,hx]<;>rfl⟩
end Go.Proofs.YtggndfefpbmaeaaGreatDoor.sto
end
