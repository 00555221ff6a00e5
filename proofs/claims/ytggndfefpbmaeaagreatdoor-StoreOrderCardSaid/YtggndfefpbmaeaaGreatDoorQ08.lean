/- The abstract machine, the walk of the law and its plain laws, made small by a program; part 8: no conditions but those in each theorem. -/
import Derived.Test.YtggndfefpbmaeaaGreatDoorQ07
set_option maxHeartbeats 16000000
set_option maxRecDepth 100000
set_option linter.unusedSimpArgs false
set_option linter.unusedVariables false
noncomputable section
open Nat renaming reduceEqDiff→Zf,reduceAdd→Zg,ble→Zj,le_refl→Zn,beq→Zr,blt→Zt,zero_le→Zv,eq_of_beq_eq_true→ZA,blt_eq→ZB,lt_of_lt_of_le→ZJ,lt_or_ge→ZS,zero_add→ZT,min_eq_left→qam,lt_irrefl→qau,mul_one→qaw,sub_self→qaz,not_lt_zero→qaS,add_assoc→qa3,xor_assoc→qbw,min_eq_right→qby,add_sub_cancel_left→qcq,max_eq_right→qcY,xor_zero→qdd,max_eq_left→qdC,shiftRight→qdG
open List renaming getElem?_eq_getElem→Zi,getElem?_cons_succ→Zk,getElem?_eq_some_iff→Zl,getElem?_cons_zero→Zm,length_append→Zo,length_map→Zp,take_succ_eq_append_getElem→Zs,length_cons→Zu,length_eq_zero_iff→Zw,mem_cons_of_mem→Zx,mem_cons_self→Zy,mem_cons→ZC,length_take→ZD,length_nil→ZG,getElem?_map→ZH,take_length→ZL,mem_of_getElem?→ZM,getElem?_append_right→ZN,getElem_mem→ZO,getElem?_append_left→ZU,length_pos_iff→ZW,mem_map→ZX,map_eq_nil_iff→ZZ,not_mem_nil→Z0,map_append→Z3,cons_append→Z5,mem_singleton→Z9,flatMap_cons→qaa,nil_append→qac,drop_eq_getElem_cons→qad,append_assoc→qah,length_drop→qak,append_nil→qap,map_cons→qar,mem_append→qas,flatMap_append→qaH,take_of_length_le→qaJ,pairwise_iff_getElem→qaK,mem_append_right→qaP,take_zero→qaQ,length→qaR,getElem?_drop→qaT,drop_zero→qa5,nodup_append→qbm,mem_flatMap→qbx,getElem?_take→qbB,mem_append_left→qbJ,getElem_of_mem→qbT,nodup_cons→qb5,drop_drop→qci,drop_eq_nil_of_le→qcA,nodup_nil→qcI,take_append_drop→qcJ,take_take→qdp,drop_left→qdF
open Bool renaming false_eq_true→Zz
open Int renaming ofNat→ZI
open Option.some renaming inj→Z_
open Option renaming getD_some→qal,isSome_none→qaB,isSome_some→qbW
open Go.Proofs.Tryz renaming f6→qa6,f30→qbj,f7→qb6,f79→qcm,f8→qcN,f162→qcQ,f70→qc2,f71→qc3,f13→qde,f35→qdm,f37→qdn,f66→qdx,f110→qdH,f158→qdJ,f159→qdK,f161→qdL
namespace Go.Proofs.YtggndfefpbmaeaaGreatDoor.sto
open Go.Am Go.Mdl Go.Sto
variable {A A':Mem} {ls:List (List aG)} {y:Value} {r:Nat}
theorem ic.L6 {k:Kd} {l:List Value} (h:ic A ls y) (hv:VB A 36 r k l) (K:wU r A A'):ic A' ls y:=by
 obtain⟨b,xs,h1,h2,h3⟩:=h;refine⟨b,xs,aq.L6 h1 hv (by decide) K,h2,fun i l hl=>?_⟩;obtain⟨x,e1,c,e2⟩:=h3 i l hl;exact⟨x,e1,c,aq.L6 e2 hv (by decide) K⟩
def fy (ls:List (List aG)) (k:Nat):List (List UInt8×List UInt8):=eu ls++[(m8,crc.aN (iC (fb ls k)))]
def Ts:List UInt8:=[115,101,103,45,55,55]
def NN (ls:List (List aG)) (k:Nat) (o:List UInt8):List (List UInt8×List UInt8):=fy ls k++[(Ts,o.take 80)]
theorem mq (ls:List (List aG)) (k:Nat):(fy ls k).length=ls.length+1:=by unfold fy;rw [Zo,dJ];rfl
theorem Sd (n:Nat):eF n≠Ts:=by unfold eF Ts;simp
theorem gM:∀{ls:List (List aG)} {f:List UInt8×List UInt8},f∈eu ls→∃n,1≤n∧n≤ls.length∧f.1=eF n
 |l::r,f,h=>by
  rcases ZC.1 h with rfl|h
  ·exact⟨r.length+1,by omega,by simp,rfl⟩
  ·obtain⟨n,h1,h2,h3⟩:=gM h;exact⟨n,h1,by rw [Zu];omega,h3⟩
variable {k:Nat}
theorem Rz {f:List UInt8×List UInt8} (h:f∈fy ls k):f.1≠Ts:=by
 rcases qas.1 h with h|h
 ·obtain⟨n,-,-,e⟩:=gM h;rw [e];exact Sd n
 ·rw [Z9.1 h];show m8≠Ts;decide
variable {b:Nat}
theorem WH:ak af 29 (pw b 0) 1= .ok (pw b 1):=by kernel_rfl
theorem Te:ak af 29 (pw b 0) 2= .ok (pw b 2):=by kernel_rfl
theorem Tf:ak af 29 (pw b 0) 3= .ok (pw b 3):=by kernel_rfl
theorem Ni:ak af 29 (pw b 0) 4= .ok (pw b 6):=by kernel_rfl
variable {o:Nat}
theorem WG:ak af 25 (pw b o) 0= .ok (pw b o):=by kernel_rfl
theorem Jv:∀(ls:List (List aG)) (N:Nat),(∀l∈ls,wo l)→ls.length<N→∀s∈cV ls,Ju N s
 |l::r,N,h,hN,s,hs=>by
  rw [Zu] at hN;rcases ZC.1 hs with rfl|hs
  ·obtain⟨o1,o2,o3,o4,o5,o6,o7,o8,o9⟩:=h l Zy;have hl:=ZW.2 o1;have hsl:(crc.aN (cX l)).length=(cX l).length+4:=by unfold crc.aN;rw [Zo,crc.l_]
   refine⟨⟨by simp,hN⟩,⟨hl,by show l.length≤100000;omega⟩,?_,?_⟩
   ·show 1≤(crc.aN (cX l)).length;omega
   ·show(crc.aN (cX l)).length≤1000000000;omega
  ·exact Jv r N (fun l hl=>h l (Zx _ hl)) (by omega) s hs
theorem Fo:∀{ls:List (List aG)} {n:Nat},n∈(cV ls).map (·.1)→n≤ls.length
 |l::r,n,h=>by
  rw [cV,qar] at h;rcases ZC.1 h with rfl|h
  ·simp
  ·have:=Fo h;rw [Zu];omega
theorem zq:∀ls:List (List aG),((cV ls).map (·.1)).Nodup
 | []=>qcI
 |l::r=>by
  rw [cV,qar,qb5];refine⟨fun h=>?_,zq r⟩;have:=Fo h;simp at this;omega
theorem IV (h:∀l∈ls,wo l) (hl:ls.length≤6):nX (fb ls k):=
 ⟨by show ls.length≤_;omega,⟨by show 1≤ls.length+1+k % 4;omega,by show ls.length+1+k % 4≤_;omega⟩,by show(cV ls).length≤_;rw [eW];omega,Jv ls _ h (by show ls.length<ls.length+1+k % 4;omega),zq ls⟩
theorem Ln:∃A',bJ af 20 [] A (.agg ⟨[.int .i64 (0:Nat),.int .i64 (1:Nat),.int .i64 (1:Nat),.slice none 0 0]⟩) A'∧Kp A A':=by
 have bd:cu af 36 [(1,.int .i64 (1:Nat)),(2,.int .i64 (1:Nat))]= .ok (.agg ⟨[.int .i64 (0:Nat),.int .i64 (1:Nat),.int .i64 (1:Nat),.slice none 0 0]⟩):=by kernel_rfl
 have s1:aT af (A.alloc (aa 36 [.int .i64 (0:Nat),.int .i64 (0:Nat),.int .i64 (0:Nat),.slice none 0 0])) 36 (pw A.next 0) (.agg ⟨[.int .i64 (0:Nat),.int .i64 (1:Nat),.int .i64 (1:Nat),.slice none 0 0]⟩)= .ok (A.alloc (aa 36 [.int .i64 (0:Nat),.int .i64 (1:Nat),.int .i64 (1:Nat),.slice none 0 0])):=a_ nh rfl rfl (by simp) (by simp [aH]);have l1:ai af (A.alloc (aa 36 [.int .i64 (0:Nat),.int .i64 (1:Nat),.int .i64 (1:Nat),.slice none 0 0])).get 36 (pw A.next 0)= .ok (.agg ⟨[.int .i64 (0:Nat),.int .i64 (1:Nat),.int .i64 (1:Nat),.slice none 0 0]⟩):=yC nh (by kernel_rfl);refine⟨A.alloc (aa 36 [.int .i64 (0:Nat),.int .i64 (1:Nat),.int .i64 (1:Nat),.slice none 0 0]),?_,Kp.alloc _ _⟩;refine aP (av Tryz.func20) (c:=Tryz.f20.body.getD .skip) (by kernel_rfl) (by rw [Tryz.ntmps20];simp) (by kernel_rfl) (by kernel_rfl) ?_;apply W.run 60
 ·intro M;simp (disch:=first|decide+kernel|omega) only [Tryz.f20,Aq,Zf,zT,aj,bd,s1,l1];rfl
 exact⟨by simp,rfl,rfl,by simp only [Tryz.f20,Aq,Zj,reduceIte,Zf,Zg,zT,aj,bd,s1,l1]<;>rfl⟩
theorem Wy:qa6.body=some (.seq (sub c6 [0]) (.seq (sub c6 [1,0]) (.seq (sub c6 [1,1,0]) (.seq (sub c6 [1,1,1,0]) (.seq (sub c6 [1,1,1,1,0]) (.seq (sub c6 [1,1,1,1,1,0]) (.seq (.seq (sub c6 [1,1,1,1,1,1,0,0]) (.block 0 (.loop QV))) (.seq (sub c6 [1,1,1,1,1,1,1,0]) (.seq (sub c6 [1,1,1,1,1,1,1,1,0]) (.seq (sub c6 [1,1,1,1,1,1,1,1,1,0]) (.seq (.seq (sub c6 [1,1,1,1,1,1,1,1,1,1,0,0]) (.block 2 (.loop QW))) (.seq (sub c6 [1,1,1,1,1,1,1,1,1,1,1,0]) (.seq (sub c6 [1,1,1,1,1,1,1,1,1,1,1,1,0]) (sub c6 [1,1,1,1,1,1,1,1,1,1,1,1,1])))))))))))))):=by kernel_rfl
theorem Sh:aV af 121= .ok 1:=by kernel_rfl
variable {mn i:Nat} {ns:List (List UInt8)} {w:List UInt8}
theorem BF (hi:ns[i]?=some w) (hnd:ns.Nodup) (h:A.get mn=some (.map (cU (ns.take i) 0) i)):
 cI af A 121 (.map (some mn)) (strOf w) (.int .i64 (i+1:Nat))= .ok (A.set mn (.map (cU (ns.take (i+1)) 0) (i+1))):=by
 obtain⟨hl,rfl⟩:=Zl.1 hi;have htl:(ns.take i).length=i:=by rw [ZD];omega
 have hnot:ns[i]∉ns.take i:=fun hm=>by
  obtain⟨j,hj,e⟩:=qbT hm;rw [List.getElem_take] at e;exact qaK.1 hnd j i (by omega) hl (by omega) e
 have:=FH (A:=A) (mn:=mn) (ns:=ns.take i) (w:=ns[i]) (by rw [htl];exact h) hnot;rw [htl] at this;rw [this,Zs hl,Zo,htl];rfl
variable {m c:Nat}
theorem Gm {ih:Code→St→R (Ex×St)} {es:List MapEntry} (h:A.get m=some (.map es c)):bc af ih (.fn 156 [.iface 121 (.map (some m))]) A= .ok (.val (.iface 121 (.map (some A.next))) (A.alloc (.map es c))):=by
 have e:bc af ih (.fn 156 [.iface 121 (.map (some m))]) A=((match A.get m with
  |some (.map es clock)=>R.ok (Value.iface 121 (.map (some A.next)),A.alloc (.map es clock))
  |_=>.no 237).bind fun(v,A')=>.ok (.val v A')):=by kernel_rfl
 rw [e,h];rfl
variable {v:Value}
theorem Tk:NM af 121 v= .ok (.iface 121 v):=by kernel_rfl
theorem SN:rT af (.iface 121 (.map (some m))) 121 false= .ok (.map (some m)):=by kernel_rfl
theorem S6 {g:Nat→Option Ob} {x:Operand}:wH af g .eql 121 x (.const (.map none)) (.map (some m)) (.map none)= .ok (.bool false):=by kernel_rfl
theorem Lk {es:List MapEntry} (h:A.get m=some (.map es c)):bJ af 108 [.map (some m)] A (.map (some A.next)) (A.alloc (.map es c)):=by
 have k1:=fun ih=>Gm (ih:=ih) h
 refine aP (av Tryz.func108) (c:=Tryz.f108.body.getD .skip) (by kernel_rfl) (by rw [Tryz.ntmps108];simp) (by kernel_rfl) (by kernel_rfl) ?_;apply W.run 60
 ·intro M;simp (disch:=decide+kernel) only [Tryz.f108,Aq,Zf,bk,S6,px,Bf,Tk,k1,yJ,SN];rfl
 exact⟨by simp,rfl,rfl,by simp only [Tryz.f108,Aq,Zf,bk,S6,px,Bf,Tk,k1,yJ,SN]<;>rfl⟩
noncomputable def QU:Code:=qdx.body.getD .skip
noncomputable def MI:Code:=sub QU [1,0,1,0,0]
theorem T_:qdx.body=some (.seq (sub QU [0]) (.seq (.seq (sub QU [1,0,0]) (.block 0 (.loop MI))) (sub QU [1,1]))):=by kernel_rfl
def Kept (A:Mem) (p mn:Nat) (ns:List (List UInt8)):Prop:=∃ml x y,VB A 124 p (.var 4) [ml,.map (some mn),x,y]∧(mn<A.next∧A.get mn=some (.map (cU ns 0) ns.length))
variable {p:Nat}
theorem Fj {ml:Nat} (h:Fold A p ml mn b ns) (hnd:ns.Nodup) (hn:ns.length<1000):
 ∃v A' mk,bJ af 66 [pV p,.int .i64 ns.length] A v A'∧v= .tuple ⟨[]⟩∧Kept A' p mk ns∧A.next≤mk∧A.next≤A'.next∧∀z,z<A.next→z≠p→z≠ml→A'.get z=A.get z:=by
 obtain⟨x,rows,hV,⟨hml,hml'⟩,⟨hmn,hmn'⟩,hmm,hS,hx0,hrl,hR⟩:=h;have hr0:rows=[]→x= .slice none 0 0:=fun h=>hx0 (Zw.1 (by rw [←hrl,h];rfl))
 have hrn:ns≠ []→rows≠ []:=fun h0 h=>h0 (Zw.1 (by rw [←hrl,h];rfl))
 have hpm:=hV.zZ hml';have lx:ai af A.get 122 (pw p 2)= .ok x:=hV.ld rfl wT rfl;have lenx:=aq.len (tb:=af) hS wT;rw [hrl] at lenx;have mn1:aL af .min [3,3] [.int .i64 ns.length,.int .i64 ns.length]= .ok (.int .i64 ns.length):=by rw [Am.m_,Nat.min_self]
 have mx1:aL af .max [3,3] [.int .i64 (0:Nat),.int .i64 ns.length]= .ok (.int .i64 ns.length):=by rw [Am.max_i64,qcY (Zv _)]
 obtain⟨x1,hsl,hS1⟩:=LK (tb:=af) (t:=122) hS wT HW (by omega) hr0;rw [hrl] at hsl;have len1:=aq.len (tb:=af) hS1 wT;rw [hrl] at len1
 suffices hW:∃v A',bJ af 66 [pV p,.int .i64 ns.length] A v A'∧v= .tuple ⟨[]⟩∧∃mk,Kept A' p mk ns∧A.next≤mk∧A.next≤A'.next∧∀z,z<A.next→z≠p→z≠ml→A'.get z=A.get z by
  obtain⟨v,A',h1,h2,mk,h3⟩:=hW;exact⟨v,A',mk,h1,h2,h3⟩
 refine cM (av Tryz.func66) T_ (by rw [Tryz.ntmps66];simp) (by kernel_rfl) (by kernel_rfl) ?_;simp only [pV];apply W.q
 ·intro M;simp (disch:=decide+kernel) only [QU,qdx,Aq,Zf,bk,Gy,aQ];rfl
 apply W.seq;apply W.q
 ·intro M;simp (config:={maxSteps:=4000000}) (disch:=first|decide+kernel|omega|simp only [Wq,Zf]) only [QU,qdx,Aq,Zj,reduceIte,Zf,Zg,aA,aX,uh,lx,lenx,mn1,mx1,hsl,len1,Fq,au []];rfl
 apply W.block;refine W.up ns.length (fun i t D=>(A.next≤D.next∧∀z,z<A.next→z≠ml→D.get z=A.get z)∧D.get ml=some (.map (cU (ns.take i) 0) i)∧Sl t [(0,pw p 0),(20,x1),(21,.int .i64 ns.length),(22,.int .i64 i)]) ?_ (Zv _) ⟨⟨Zn _,fun _ _ _=>rfl⟩,by rw [qaQ];exact hml',?_⟩
 ·rintro i t D hi ⟨⟨kn,kf⟩,hmD,g0,g20,g21,g22,-⟩;by_cases hlt:i<ns.length
  ·have hni:ns[i]?=some ns[i]:=Zi hlt;obtain⟨tt,ss,e1,e2,e3⟩:=hR i _ hni;have hS1D:aq D 177 2 b rows x1:=aq.fU hS1 (fun h=>by
    have:=hrn (fun e=>by rw [e] at hlt;simp at hlt);exact absurd h this) kn fun hne hl=>kf b hl (Ne.symm (aq.zZ hS hml' hne))
   have j1:=aq.idx (tb:=af) (t:=122) (i:=i) (kd:=.i64) hS1D wT HW (by omega);obtain⟨d,hd1,hd2⟩:=bg (t:=177) (p:=true) (by kernel_rfl);have j2:=aq.aI (tb:=af) (t:=177) hS1D hd1 hd2 HW e1;have hupd:=BF (A:=D) (mn:=ml) hni hnd hmD;generalize ns[i]=w at*;have sE:aT af (D.alloc (aa 177 [.string .empty,.nilFunc])) 177 (pw D.next 0) (.agg ⟨jC Cm tt ss⟩)= .ok (D.alloc (aa 177 (jC Cm tt ss))):=a_ HW rfl rfl (by simp) (by simp [jC,aH,strOf]);have kE:=Kp.alloc D (aa 177 (jC Cm tt ss));have vE:=az D 177 (jC Cm tt ss);have nE:(D.alloc (aa 177 (jC Cm tt ss))).next=D.next+1:=ae _ _
   generalize D.alloc (aa 177 (jC Cm tt ss))=E at sE kE vE nE;have lf:ai af E.get 128 (pw D.next (0+1))= .ok (.func (.func 65) ⟨[]⟩ ⟨[pV tt,pV ss]⟩):=by
    obtain⟨d,hd,ha⟩:=PJ;exact vE.ld rfl hd ha
   have fAE:∀z,z<A.next→z≠ml→E.get z=A.get z:=fun z hz hm=>by rw [kE.2 z (by omega),kf z hz hm]
   have lm:ai af E.get 121 (pw p 0)= .ok (.map (some ml)):=VB.ld (tb:=af) ⟨by have:=hV.1;omega,hV.2.same (fAE p hV.1 hpm)⟩ rfl rB rfl;have hmE:E.get ml=some (.map (cU (ns.take i) 0) i):=by rw [kE.2 ml (by omega)];exact hmD
   have htE:ai af E.get 3 (pw tt 0)= .ok (.int .i64 (i+1:Nat)):=VB.ld (tb:=af) ⟨by have:=e2.1;omega,e2.2.same (fAE tt e2.1 (e2.zZ hml'))⟩ rfl u3 rfl;have hsE:ai af E.get 9 (pw ss 0)= .ok (strOf w):=VB.ld (tb:=af) ⟨by have:=e3.1;omega,e3.2.same (fAE ss e3.1 (e3.zZ hml'))⟩ rfl u9 rfl;have hupE:=BF (A:=E) (mn:=ml) hni hnd hmE;generalize hF:E.set ml (.map (cU (ns.take (i+1)) 0) (i+1))=F at hupE;have nF:F.next=E.next:=by rw [←hF];exact aO _ _ _
   have hact:bJ af 65 [.map (some ml),pV tt,pV ss] E (.tuple ⟨[]⟩) F:=by
    simp only [pV];refine aP (av Tryz.func65) (c:=Tryz.f65.body.getD .skip) (by kernel_rfl) (by rw [Tryz.ntmps65];simp) (by kernel_rfl) (by kernel_rfl) ?_;apply W.run 60
    ·intro M;simp (disch:=omega) only [Tryz.f65,Aq,Zf,htE,hsE,dL,hupE,cQ];rfl
    exact⟨by simp,rfl,rfl,by simp only [Tryz.f65,Aq,Zf,htE,hsE,dL,hupE,cQ]<;>rfl⟩
   obtain⟨g,hg⟩:=hact;simp only [pV] at hg lf;apply W.bf (g) 20
   ·intro M hM;simp (config:={maxSteps:=4000000}) (disch:=first|decide+kernel|omega|simp only [Wq,Zf]) only [MI,QU,qdx,Aq,Zj,reduceIte,Zf,Zg,g0,g20,g21,g22,hlt,j1,j2,Dt,aj,sE,GF,lf,aA,aX,M5,lm,hg,Fq,au []];rfl
   refine⟨hlt,_,F,rfl,⟨by omega,fun z hz hm=>by rw [←hF,eA,if_neg hm,fAE z hz hm]⟩,by rw [←hF,eA,if_pos rfl],?_⟩;simp only [Sq,Zf,Zg,g0,g20,g21]
  ·have e:i=ns.length:=by omega
   subst e;rw [ZL] at hmD;have VD:VB D 124 p (.var 4) [.map (some ml),.map (some mn),x,.int .i64 ns.length]:=⟨by have:=hV.1;omega,hV.2.same (kf p hV.1 hpm)⟩;have lm:ai af D.get 121 (pw p 0)= .ok (.map (some ml)):=VD.ld rfl rB rfl;obtain⟨g,hg⟩:=Lk hmD;have kE:=Kp.alloc D (.map (cU ns 0) ns.length);have hmk:(D.alloc (.map (cU ns 0) ns.length)).get D.next=some (.map (cU ns 0) ns.length):=ay _ _
   have nE:(D.alloc (.map (cU ns 0) ns.length)).next=D.next+1:=ae _ _
   generalize D.alloc (.map (cU ns 0) ns.length)=E at hg kE hmk nE;have hpD:=VD.1;obtain⟨F,sF,vF,nF,fF⟩:=aY (tb:=af) (t:=122) (o:=2) (v:=.slice none 0 0) JB (VD.2.same (kE.2 _ hpD)) (by simp) rfl rfl;obtain⟨G,sG,vG,nG,fG⟩:=aY (tb:=af) (t:=121) (o:=1) (v:=.map (some D.next)) Sh vF (by simp) rfl rfl;apply W.run 20
   ·intro M;simp (disch:=decide+kernel) only [MI,QU,qdx,Aq,Zf,g21,g22];rfl
   apply W.bf (g) 20
   ·intro M hM;simp (disch:=omega) only [QU,qdx,Aq,Zf,g0,aA,aX,M5,qJ,uh,lm,hg,sF,sG];rfl
   refine⟨by simp,rfl,_,(by simp only [qdx,Aq,Zf]<;>rfl),rfl,D.next,⟨_,_,_,⟨by show p<G.next;omega,vG⟩,by show D.next<G.next;omega,?_⟩,kn,by show A.next≤G.next;omega,fun z hz hp hm=>?_⟩
   ·show G.get D.next=_
    rw [fG _ (by omega),fF _ (by omega)];exact hmk
   ·show G.get z=A.get z;rw [fG z hp,fF z hp,kE.2 z (by omega),kf z hz hm]
 ·simp only [Sq,Zf,Zg]
theorem O_ {ml:Nat} (h:Fold A p ml mn b ns) (hnd:ns.Nodup) (hn:ns.length<1000):
 ∃A' mk,bJ af 28 [pV p] A (.tuple ⟨[]⟩) A'∧Kept A' p mk ns∧A.next≤mk∧A.next≤A'.next∧∀z,z<A.next→z≠p→z≠ml→A'.get z=A.get z:=by
 obtain⟨v,A',mk,⟨g2,h2⟩,rfl,h3⟩:=Fj h hnd hn;obtain⟨x,rows,hV,-,-,-,hS,-,hrl,-⟩:=h;have lx:ai af A.get 122 (pw p 2)= .ok x:=hV.ld rfl wT rfl;have lenx:=aq.len (tb:=af) hS wT;rw [hrl] at lenx;have hp:bJ af 67 [pV p] A (.int .i64 ns.length) A:=by
  simp only [pV];refine aP (av Tryz.func67) (c:=Tryz.f67.body.getD .skip) (by kernel_rfl) (by rw [Tryz.ntmps67];simp) (by kernel_rfl) (by kernel_rfl) ?_;apply W.run 60
  ·intro M;simp (disch:=decide+kernel) only [Tryz.f67,Aq,Zf,bk,Gy,aQ,aA,aX,uh,lx,lenx];rfl
  exact⟨by simp,rfl,rfl,by simp only [Tryz.f67,Aq,Zf,bk,Gy,aQ,aA,aX,uh,lx,lenx]<;>rfl⟩
 obtain⟨g1,h1⟩:=hp;refine⟨A',mk,?_,h3⟩;simp only [pV] at*;refine aP (av Tryz.func28) (c:=Tryz.f28.body.getD .skip) (by kernel_rfl) (by rw [Tryz.ntmps28];simp) (by kernel_rfl) (by kernel_rfl) ?_;apply W.bf (g1+g2) 60
 ·intro M hM;simp (disch:=omega) only [Tryz.f28,Aq,Zf,h1,h2,cQ];rfl
 exact⟨by simp,rfl,rfl,by simp only [Tryz.f28,Aq,Zf,h1,h2,cQ]<;>rfl⟩
theorem SQ {a:Nat}:cu af 124 [(0,.map (some a)),(1,.map (some b))]= .ok (.agg ⟨[.map (some a),.map (some b),.slice none 0 0,.int .i64 (0:Nat)]⟩):=by kernel_rfl
theorem OT:∃v A',bJ af 25 [] A v A'∧v=pV (A.next+2)∧Fold A' (A.next+2) A.next (A.next+1) 0 []∧A'.next=A.next+3∧∀z,z<A.next→A'.get z=A.get z:=by
 have n1:(A.alloc (.map [] 0)).next=A.next+1:=ae _ _
 have n2:((A.alloc (.map [] 0)).alloc (.map [] 0)).next=A.next+2:=by rw [ae,n1]
 have n3:(((A.alloc (.map [] 0)).alloc (.map [] 0)).alloc (aa 124 [.map (some A.next),.map (some (A.next+1)),.slice none 0 0,.int .i64 (0:Nat)])).next=A.next+3:=by rw [ae,n2]
 have v:=az ((A.alloc (.map [] 0)).alloc (.map [] 0)) 124 [.map (some A.next),.map (some (A.next+1)),.slice none 0 0,.int .i64 (0:Nat)];rw [n2] at v;refine⟨_,((A.alloc (.map [] 0)).alloc (.map [] 0)).alloc (aa 124 [.map (some A.next),.map (some (A.next+1)),.slice none 0 0,.int .i64 (0:Nat)]),?_,rfl,⟨_,[],v,⟨by omega,?_⟩,⟨by omega,?_⟩,by omega,aq.nil _ _ _ _,fun _=>rfl,rfl,fun i w hw=>by simp at hw⟩,n3,fun z hz=>by rw [aB (by omega),aB (by omega),aB (by omega)]⟩
 ·simp only [pV];refine aP (av Tryz.func25) (c:=Tryz.f25.body.getD .skip) (by kernel_rfl) (by rw [Tryz.ntmps25];simp) (by kernel_rfl) (by kernel_rfl) ?_;apply W.run 60
  ·intro M;simp (disch:=omega) only [Tryz.f25,Aq,Zf,gP,fx,Az,n1,n2,SQ,aj];rfl
  exact⟨by simp,rfl,rfl,by simp only [Tryz.f25,Aq,Zf,gP,fx,Az,n1,n2,SQ,aj]<;>rfl⟩
 ·rw [aB (by omega),aB (by omega)];exact ay _ _
 ·rw [aB (by omega),←n1];exact ay _ _
theorem SS {s:List UInt8}:cu af 131 [(0,strOf s),(2,strOf s)]= .ok (.agg ⟨[strOf s,.slice none 0 0,strOf s]⟩):=by kernel_rfl
theorem R7 {s:List UInt8}:bJ af 27 [strOf s] A (pV A.next) (A.alloc (aa 131 [strOf s,.slice none 0 0,strOf s])):=by
 simp only [pV];refine aP (av Tryz.func27) (c:=Tryz.f27.body.getD .skip) (by kernel_rfl) (by rw [Tryz.ntmps27];simp) (by kernel_rfl) (by kernel_rfl) ?_;apply W.run 60
 ·intro M;simp (disch:=omega) only [Tryz.f27,Aq,Zf,SS,aj];rfl
 exact⟨by simp,rfl,rfl,by simp only [Tryz.f27,Aq,Zf,SS,aj]<;>rfl⟩
theorem XY {a:Nat} {n:Int}:cu af 81 [(0,pV a),(1,.map (some b)),(2,.int .i64 n)]= .ok (.agg ⟨[pV a,.map (some b),.int .i64 n,.int .i64 (0:Nat),.int .i64 (0:Nat),.bool false]⟩):=by kernel_rfl
noncomputable def c8:Code:=qcN.body.getD .skip
noncomputable def QX:Code:=sub c8 [1,1,1,0,1,0,0]
theorem WA:qcN.body=some (.seq (sub c8 [0]) (.seq (sub c8 [1,0]) (.seq (sub c8 [1,1,0]) (.seq (.seq (sub c8 [1,1,1,0,0]) (.block 0 (.loop QX))) (.seq (sub c8 [1,1,1,1,0]) (.seq (sub c8 [1,1,1,1,1,0]) (sub c8 [1,1,1,1,1,1]))))))):=by kernel_rfl
def Gv (pf mf q:Nat):List Value:=[pV pf,.map (some mf),.int .i64 q,.int .i64 (0:Nat),.int .i64 (0:Nat),.bool false]
def TJ (A:Mem) (p pf mf ml mn q:Nat) (fs:List (List UInt8×List UInt8)) (i:Nat) (D:Mem):Prop:=∃b ps,Fold D pf ml mn b ((fs.take i).map (·.1))∧VB D 81 p (.var 6) (Gv pf mf q)∧(mf<D.next∧D.get mf=some (.map (fh ps 0) ps.length))∧ps.length=i∧
 (∀(j:Nat) (s:List UInt8×List UInt8),j<i→fs[j]?=some s→∃b d a,ps[j]?=some b∧VB D 131 b (.var 3) [d,a,strOf s.2])∧(A.next≤D.next∧∀z,z<A.next→D.get z=A.get z)∧(i≠0→A.next≤b)
variable {fs:List (List UInt8×List UInt8)} {t:T Value}
theorem Ol {D:Mem} {pf mf ml q:Nat} {x:Value} (hF:pW A fs x) (hw:∀f∈fs,0<f.1.length∧f.1.length≤64) (hnd:(fs.map (·.1)).Nodup) (hl:fs.length<1000) (hi:i<fs.length) (ho:A.next≤p∧A.next≤pf∧A.next≤mf∧A.next≤ml∧A.next≤mn∧mf≠ml∧mf≠mn) (h:TJ A p pf mf ml mn q fs i D)
 (hs:Sl t [(5,pV p),(17,x),(18,.int .i64 fs.length),(19,.int .i64 i)]):
 W af QX ⟨t,50,[],D,none⟩ fun e s'=>e= .nrm∧∃t' D',s'=⟨t',50,[],D',none⟩∧TJ A p pf mf ml mn q fs (i+1) D'∧Sl t' [(5,pV p),(17,x),(18,.int .i64 fs.length),(19,.int .i64 (i+1:Nat))]:=by
 obtain⟨b,ps,hFo,hV,⟨hmf,hmf'⟩,hpl,hB,hK,hb⟩:=h;obtain⟨g5,g17,g18,g19,-⟩:=hs;obtain⟨o1,o2,o3,o4,o5,o6,o7⟩:=ho;have hfi:fs[i]?=some fs[i]:=Zi hi;have hwi:=hw _ (ZO hi);have hFD:=hF.kp ⟨hK.1,hK.2⟩;obtain⟨bb,oo,j1,j2,-⟩:=hFD.at hfi;have htk:(fs.take (i+1)).map (·.1)=(fs.take i).map (·.1)++[fs[i].1]:=by rw [Zs hi,Z3];rfl
 have hnot:fs[i].1∉(fs.take i).map (·.1):=by
  have h1:((fs.take (i+1)).map (·.1)).Nodup:=by
   rw [List.map_take];exact(List.take_sublist _ _).nodup hnd
  rw [htk,qbm] at h1;exact fun hm=>h1.2.2 _ hm _ (List.mem_singleton_self _) rfl
 have hnl:((fs.take i).map (·.1)).length=i:=by rw [Zp,ZD];omega
 generalize hfe:fs[i]=f at*;have sE:aT af (D.alloc (aa 27 [.string .empty,.string .empty])) 27 (pw D.next 0) (.agg ⟨cG f⟩)= .ok (D.alloc (aa 27 (cG f))):=a_ Sx rfl rfl (by simp) (sj f);have kE:=Kp.alloc D (aa 27 (cG f));have vE:=az D 27 (cG f);have nE:(D.alloc (aa 27 (cG f))).next=D.next+1:=ae _ _
 generalize D.alloc (aa 27 (cG f))=E at sE kE vE nE;have l1:ai af E.get 9 (pw D.next 0)= .ok (strOf f.1):=vE.ld rfl u9 rfl;have VE:=hV.kp kE;have lpf:ai af E.get 77 (pw p 0)= .ok (pV pf):=by
  obtain⟨d,hd,ha⟩:=PT;exact VE.ld rfl hd ha
 have hFoE:Fold E pf ml mn b ((fs.take i).map (·.1)):=by
  obtain⟨x,rows,q1,⟨q2,q3⟩,⟨q4,q5⟩,q6,q7,q8,q9,q10⟩:=hFo;refine⟨x,rows,q1.kp kE,⟨by omega,by rw [kE.2 _ q2];exact q3⟩,⟨by omega,by rw [kE.2 _ q4];exact q5⟩,q6,q7.same kE.1 (kE.2 b),q8,q9,fun j w hw=>?_⟩;obtain⟨t,s,e1,e2,e3⟩:=q10 j w hw;exact⟨t,s,e1,e2.kp kE,e3.kp kE⟩
 obtain⟨v,F,b',⟨g1,h1⟩,rfl,hFoF,hb',hnF,hfF⟩:=Hj hFoE hnot hwi (by omega);rw [hnl] at h1;have hn0:(fs.take i).map (·.1)≠ []→i≠0:=fun h e=>h (by subst e;rfl)
 obtain⟨xo,rowso,qV,⟨-,qml⟩,⟨-,qmn⟩,-,qS,qx0,qrl,-⟩:=hFoE;have hrne:(fs.take i).map (·.1)≠ []→rowso≠ []:=fun h0 h=>h0 (Zw.1 (by rw [←qrl,h];rfl))
 have eJ:∀(e:TypeId) (z:Nat) (k:Kd) (l:List Value),VB E e z k l→e≠124→e≠177→VB F e z k l:=fun e z k l hz h1 h2=>⟨by have:=hz.1;omega,hz.2.same (hfF z hz.1 (hz.ne qV h1) (hz.zZ qmn) (fun h0=>aq.Yg qS hz h2 (hrne h0)))⟩
 have VF:=eJ _ _ _ _ VE (by decide) (by decide);have vEF:=eJ _ _ _ _ vE (by decide) (by decide);have hmfE:E.get mf=some (.map (fh ps 0) ps.length):=by rw [kE.2 _ hmf];exact hmf'
 have hmfF:F.get mf=some (.map (fh ps 0) ps.length):=by
  rw [hfF mf (by omega) (Ne.symm (qV.zZ hmfE)) o7 (fun h0=>aq.zZ qS hmfE (hrne h0))];exact hmfE
 have l2:ai af F.get 9 (pw D.next (0+1))= .ok (strOf f.2):=vEF.ld rfl u9 rfl;have lmf:ai af F.get 79 (pw p 1)= .ok (.map (some mf)):=VF.ld rfl FD rfl;obtain⟨g2,h2⟩:=R7 (A:=F) (s:=f.2);have kG:=Kp.alloc F (aa 131 [strOf f.2,.slice none 0 0,strOf f.2]);have vG:=az F 131 [strOf f.2,.slice none 0 0,strOf f.2];have nG:(F.alloc (aa 131 [strOf f.2,.slice none 0 0,strOf f.2])).next=F.next+1:=ae _ _
 generalize F.alloc (aa 131 [strOf f.2,.slice none 0 0,strOf f.2])=G at h2 kG vG nG;have VG:=VF.kp kG;have lmfG:ai af G.get 79 (pw p 1)= .ok (.map (some mf)):=VG.ld rfl FD rfl;have hmfG:G.get mf=some (.map (fh ps 0) ps.length):=by rw [kG.2 _ (by omega)];exact hmfF
 have hup:=PV (p:=F.next) hmfG;rw [hpl] at hup;generalize hH:G.set mf (.map (fh (ps++[F.next]) 0) (ps++[F.next]).length)=H at hup;have nH:H.next=G.next:=by rw [←hH];exact aO _ _ _
 have fH:∀z,z≠mf→H.get z=G.get z:=fun z hz=>by rw [←hH,eA,if_neg hz]
 have toH:∀(e:TypeId) (z:Nat) (k:Kd) (l:List Value),VB F e z k l→VB H e z k l:=fun e z k l hz=>⟨by have:=hz.1;omega,hz.2.same (by rw [fH z (hz.zZ hmfF),kG.2 _ hz.1])⟩
 have smf:bP 100 (.map (some mf)) (.map (some mf))=true:=by simp [bP,td]
 have a1:aK .add .i64 ((i:Nat):Int) ((1:Nat):Int)= .ok (.int .i64 (i+1:Nat)):=a8 (aR (by omega));simp only [pV] at*;apply W.bf (g1+g2) 20
 ·intro M hM;simp (config:={maxSteps:=4000000}) (disch:=first|decide+kernel|omega|simp only [Wq,Zf]) only [QX,c8,qcN,Aq,Zj,reduceIte,Zf,Zg,g5,g17,g18,g19,hi,j1,j2,P3,aj,sE,aA,aX,AQ,Ed,lpf,Nf,Ng,l1,h1,l2,lmf,lmfG,h2,dL,hup,smf,a1,Zm,Zk,Fq,au [(3,7)]];rfl
 refine⟨rfl,_,H,rfl,⟨b',ps++[F.next],?_,toH _ _ _ _ VF,⟨by omega,by rw [←hH,eA,if_pos rfl]⟩,by rw [Zo,hpl];rfl,fun j s hj hsj=>?_,⟨by have:=hK.1;omega,fun z hz=>?_⟩,fun _=>by have:=hK.1;omega⟩,?_⟩
 ·obtain⟨x2,rows2,r1,⟨r2,r3⟩,⟨r4,r5⟩,r6,r7,r8,r9,r10⟩:=hFoF;rw [htk];refine⟨x2,rows2,toH _ _ _ _ r1,⟨by omega,by rw [fH _ (Ne.symm o6),kG.2 _ r2];exact r3⟩,⟨by omega,by rw [fH _ (Ne.symm o7),kG.2 _ r4];exact r5⟩,r6,?_,r8,r9,fun j w hw=>?_⟩
  ·refine aq.fU (r7.same kG.1 (kG.2 b')) (fun h=>r8 (Zw.1 (by rw [←r9,h];rfl))) (by omega) fun hne hlt=>fH _ (fun e=>?_)
   exact(aq.zZ r7 hmfF hne) e.symm
  ·obtain⟨t,s,e1,e2,e3⟩:=r10 j w hw;exact⟨t,s,e1,toH _ _ _ _ e2,toH _ _ _ _ e3⟩
 ·rcases ZS j i with hj2|hj2
  ·obtain⟨b0,d,a,e1,e2⟩:=hB j s hj2 hsj;exact⟨b0,d,a,by rw [ZU (by omega)];exact e1,toH _ _ _ _ (eJ _ _ _ _ (e2.kp kE) (by decide) (by decide))⟩
  ·have e:j=i:=by omega
   subst e;rw [hfi] at hsj;cases hsj;exact⟨F.next,_,_,by rw [ZN (by omega),hpl,qaz];rfl,⟨by have:=vG.1;omega,vG.2.same (fH _ (by omega))⟩⟩
 ·rw [fH z (by omega),kG.2 z (by omega),hfF z (by omega) (by omega) (by omega) (fun h0=>by have:=hb (hn0 h0);omega),kE.2 z (by omega),hK.2 z hz]
 ·simp only [Sq,Zf,Zg,g5,g17,g18]
theorem C8 {q:Nat} {x:Value} (hF:pW A fs x) (hw:∀f∈fs,0<f.1.length∧f.1.length≤64) (hnd:(fs.map (·.1)).Nodup) (hl:fs.length<1000) (hq:q<9223372036854775808):
 ∃v A',bJ af 8 [x,.int .i64 q] A v A'∧Kp A A'∧∃p,v=pV p∧fV A' p fs:=by
 refine cM (av Tryz.func8) WA (by rw [Tryz.ntmps8];simp) (by kernel_rfl) (by kernel_rfl) ?_;have hlen:=hF.len;obtain⟨v,B,⟨g1,h1⟩,rfl,hFo,nB,fB⟩:=OT (A:=A);have hmap:(B.alloc (.map [] 0)).get B.next=some (.map [] 0):=ay _ _
 have n1:(B.alloc (.map [] 0)).next=B.next+1:=ae _ _
 have kC:=(Kp.alloc B (.map [] 0)).trans (Kp.alloc (B.alloc (.map [] 0)) (aa 81 (Gv (A.next+2) B.next q)));have vC:=az (B.alloc (.map [] 0)) 81 (Gv (A.next+2) B.next q);have nC:((B.alloc (.map [] 0)).alloc (aa 81 (Gv (A.next+2) B.next q))).next=B.next+2:=by rw [ae,n1]
 have hmapC:((B.alloc (.map [] 0)).alloc (aa 81 (Gv (A.next+2) B.next q))).get B.next=some (.map [] 0):=by rw [aB (by omega)];exact hmap
 rw [n1] at vC;have bd:cu af 81 [(0,pw (A.next+2) 0),(1,.map (some B.next)),(2,.int .i64 q)]= .ok (.agg ⟨Gv (A.next+2) B.next q⟩):=XY;have hq0:¬q<0:=by omega
 simp only [pV] at h1;apply W.q
 ·intro M;simp (disch:=omega) only [c8,qcN,Aq,Zf];rfl
 apply W.q
 ·intro M;simp (disch:=decide+kernel) only [c8,qcN,Aq,Zf];rfl
 apply W.qG (g1)
 ·intro M hM;simp (disch:=omega) only [c8,qcN,Aq,Zf,h1,gP,fx,Az,bd,aj,n1];rfl
 generalize (B.alloc (.map [] 0)).alloc (aa 81 (Gv (A.next+2) B.next q))=C at kC vC nC hmapC;have hAC:Kp A C:=⟨by omega,fun z hz=>by rw [kC.2 z (by omega),fB z hz]⟩;have hFoC:Fold C (A.next+2) A.next (A.next+1) 0 []:=by
  obtain⟨x,rows,q1,⟨q2,q3⟩,⟨q4,q5⟩,q6,q7,q8,q9,q10⟩:=hFo;exact⟨x,rows,q1.kp kC,⟨by omega,by rw [kC.2 _ q2];exact q3⟩,⟨by omega,by rw [kC.2 _ q4];exact q5⟩,q6,q7.same kC.1 (kC.2 0),q8,q9,fun j w hw=>by simp at hw⟩
 apply W.seq;apply W.q
 ·intro M;simp (disch:=decide+kernel) only [c8,qcN,Aq,Zf,hlen];rfl
 apply W.block;refine W.up fs.length (fun i t D=>TJ A (B.next+1) (A.next+2) B.next A.next (A.next+1) q fs i D∧Sl t [(5,pV (B.next+1)),(17,x),(18,.int .i64 fs.length),(19,.int .i64 i)]) ?_ (Zv _) ⟨⟨0,[],hFoC,vC,⟨by omega,hmapC⟩,rfl,fun j s hj=>absurd hj (qaS _),hAC,fun h=>absurd rfl h⟩,?_⟩
 ·rintro i t D hi ⟨hR,hs0⟩;by_cases hlt:i<fs.length
  ·refine(Ol hF hw hnd hl hlt ⟨by omega,by omega,by omega,by omega,by omega,by omega,by omega⟩ hR hs0).mono ?_;rintro e s' ⟨rfl,t',D',rfl,hR',hs'⟩;exact⟨hlt,t',D',rfl,hR',hs'⟩
  ·have e:i=fs.length:=by omega
   subst e;obtain⟨b,ps,hFo,hV,⟨hmf,hmf'⟩,hpl,hB,hK,hb⟩:=hR;obtain⟨f5,f17,f18,f19,-⟩:=hs0;rw [ZL] at hFo;have hnl:(fs.map (·.1)).length=fs.length:=Zp _;obtain⟨E,mk,⟨g2,h2⟩,hKe,hmk,hnE,hfE⟩:=O_ hFo hnd (by omega);obtain⟨_,_,qV,⟨_,qml⟩,_⟩:=hFo;have lpf:ai af D.get 77 (pw (B.next+1) 0)= .ok (pV (A.next+2)):=by
    obtain⟨d,hd,ha⟩:=PT;exact hV.ld rfl hd ha
   simp only [pV] at*;apply W.run 20
   ·intro M;simp (disch:=decide+kernel) only [QX,c8,qcN,Aq,Zf,f18,f19];rfl
   apply W.qG (g2)
   ·intro M hM;simp (disch:=omega) only [c8,qcN,Aq,Zf,f5,aA,aX,AQ,lpf,h2];rfl
   apply W.q
   ·intro M;simp (disch:=omega) only [c8,qcN,Aq,Zf,f5];rfl
   apply W.run 20
   ·intro M;simp only [c8,qcN,Aq,Zf];rfl
   obtain⟨ml',x',y',r1,r2,r3⟩:=hKe;have toE:∀(e:TypeId) (z:Nat) (k:Kd) (l:List Value),VB D e z k l→e≠124→VB E e z k l:=fun e z k l hz he=>⟨by have:=hz.1;omega,hz.2.same (hfE z hz.1 (hz.ne qV he) (hz.zZ qml))⟩
   refine⟨by simp,rfl,_,(by simp only [qcN,Aq,Zf]<;>rfl),⟨by show A.next≤E.next;have:=hK.1;omega,fun z hz=>by show E.get z=A.get z;rw [hfE z (by have:=hK.1;omega) (by omega) (by omega),hK.2 z hz]⟩,B.next+1,rfl,?_⟩;refine⟨A.next+2,B.next,mk,ps.length,(fs.map (·.1)).length,ps,ml',_,_,_,x',y',toE _ _ _ _ hV (by decide),r1,⟨r2,r3⟩,⟨by show B.next<E.next;omega,?_⟩,fun j s hsj=>?_⟩
   ·show E.get B.next=_
    rw [hfE B.next hmf (Ne.symm (qV.zZ hmf')) (by omega)];exact hmf'
   ·obtain⟨b0,d,a,e1,e2⟩:=hB j s (Zl.1 hsj).1 hsj;exact⟨b0,d,a,e1,toE _ _ _ _ e2 (by decide)⟩
 ·simp only [Sq,Zf,Zg,pV]
theorem WW {ih:Code→St→R (Ex×St)} {s:List UInt8} (h:IP [strOf s] A= .ok (v,A')):bc af ih (.fn 79 [strOf s]) A= .ok (.val v A'):=
 bW (av Tryz.func79) (by kernel_rfl) (c:=qcm.body.getD .skip) (by kernel_rfl) (hU (by simp only [oM,jv,T.aD];rfl)) h
def HD (y:Value) (l:List aG):List Value:=[y,.int .u64 (least l:Nat),.int .i64 l.length,.int .i64 (((crc.aN (cX l)).length:Nat):Int)]
def iO (A:Mem) (l:List aG) (v:Value):Prop:=∃p y,v=pV p∧VB A 109 p (.var 4) (HD y l)∧dY A (dC l) y
variable {l:List aG}
theorem iO.kp (h:iO A l v) (k:Kp A A'):iO A' l v:=by
 obtain⟨p,y,h1,h2,h3⟩:=h;exact⟨p,y,h1,h2.kp k,h3.kp k⟩
variable {n:Nat}
theorem Oh {g:Nat→Option Ob}:wH af g .neq 146 (.tmp n) (.const .nilIface) .nilIface .nilIface= .ok (.bool false):=by kernel_rfl
theorem SO {k:Int}:cu af 107 [(0,.agg ⟨[y,.int .u64 k]⟩)]= .ok (.agg ⟨[y,.int .u64 k]⟩):=by kernel_rfl
theorem SP {k n m:Int}:cu af 109 [(0,.agg ⟨[y,.int .u64 k]⟩),(1,.int .i64 n),(2,.int .i64 m)]= .ok (.agg ⟨[y,.int .u64 k,.int .i64 n,.int .i64 m]⟩):=by kernel_rfl
theorem te (l:List UInt8):(crc.aN l).length≤l.length+4:=by
 unfold crc.aN;simp [crc.four]
theorem zf (h:wo l):∃v A',bJ af 36 [strOf (crc.aN (cX l))] A v A'∧Kp A A'∧∃x,v= .tuple ⟨[x,.int .i64 (0:Nat)]⟩∧iO A' l x:=by
 obtain⟨q1,-,-,q4,q5,q6,q7,q8,q9⟩:=id h;have hlen:=te (cX l);obtain⟨v,B,h1,kB,y,rfl,hS⟩:=K9 (A:=A) (s:=crc.aN (cX l)) (n:=l.length) (k:=least l) (M:=dC l) (by omega) (crc.yS _) (by omega) q6 q5 q7 q8 (by show(cX l).length<_;omega);have kp:=fun ih=>WW (ih:=ih) h1
 have kC:=Kp.alloc B (aa 105 [y,.int .u64 (least l:Nat)]);have vC:=az B 105 [y,.int .u64 (least l:Nat)];have sC:aT af (B.alloc (aa 105 [.slice none 0 0,.int .u64 (0:Nat)])) 105 (pw B.next 0) (.agg ⟨[y,.int .u64 (least l:Nat)]⟩)= .ok (B.alloc (aa 105 [y,.int .u64 (least l:Nat)])):=a_ dz rfl rfl (by simp) (fun v hv=>by
  simp only [ZC,Z0,or_false] at hv;rcases hv with rfl|rfl
  ·exact hS.self.2
  ·rfl)
 generalize hCe:B.alloc (aa 105 [y,.int .u64 (least l:Nat)])=C at kC vC sC;obtain⟨d,hd1,hd2⟩:=bg (t:=105) (p:=true) (by kernel_rfl);have lC:∀D,Kp C D→ai af D.get 105 (pw B.next 0)= .ok (.agg ⟨[y,.int .u64 (least l:Nat)]⟩):=fun D hD=>aI hd1 hd2 (l:=[y,.int .u64 (least l:Nat)]) dz (vC.kp hD).2
 have l1:=lC C (Kp.refl _);obtain⟨v,D,⟨g,hg⟩,rfl,kD⟩:=Hw h (hS.kp kC);have l2:=lC D kD;have kE:=Kp.alloc D (aa 109 (HD y l));have vE:=az D 109 (HD y l);have hE:D.alloc (aa 109 [y,.int .u64 (least l:Nat),.int .i64 l.length,.int .i64 (((crc.aN (cX l)).length:Nat):Int)])=D.alloc (aa 109 (HD y l)):=rfl;have ll:=cd (tb:=af) (t:=9) (l:=crc.aN (cX l)) u9;refine⟨_,D.alloc (aa 109 (HD y l)),?_,(kB.trans kC).trans (kD.trans kE),pV D.next,rfl,D.next,y,rfl,vE,hS.kp (kC.trans (kD.trans kE))⟩;simp only [pV];refine aP (av Tryz.func36) (c:=Tryz.f36.body.getD .skip) (by kernel_rfl) (by rw [Tryz.ntmps36];simp) (by kernel_rfl) (by kernel_rfl) ?_;apply W.bf (g) 60
 ·intro M hM;simp (config:={maxSteps:=4000000}) (disch:=first|decide+kernel|omega|simp only [Wq,Zf]) only [Tryz.f36,Aq,Zj,reduceIte,Zf,Zg,kp,tI,aj,sC,Zm,Zk,g_,yP,Oh,l1,hg,l2,SO,ll,SP,hE,aQ];rfl
 exact⟨by simp,rfl,rfl,by simp only [Tryz.f36,Aq,Zj,reduceIte,Zf,Zg,kp,tI,aj,sC,Zm,Zk,g_,yP,Oh,l1,hg,l2,SO,ll,SP,hE,aQ]<;>rfl⟩
theorem M4:ak af 109 (pw b 0) 1= .ok (pw b 2):=by kernel_rfl
theorem Q4 {t:Operand}:wH af A.get .eql 54 t (.const (.pointer none)) (pw b 0) (.pointer none)= .ok (.bool false):=by kernel_rfl
theorem Fh (h:iO A l v):bJ af 19 [v] A (.int .i64 l.length) A:=by
 obtain⟨p,y,rfl,h1,-⟩:=h;have l1:ai af A.get 3 (pw p 2)= .ok (.int .i64 l.length):=h1.ld rfl u3 rfl;simp only [pV];refine aP (av Tryz.func19) (c:=Tryz.f19.body.getD .skip) (by kernel_rfl) (by rw [Tryz.ntmps19];simp) (by kernel_rfl) (by kernel_rfl) ?_;apply W.run 60
 ·intro M;simp (disch:=decide+kernel) only [Tryz.f19,Aq,Zf,bk,Q4,aA,aX,M4,l1,aQ];rfl
 exact⟨by simp,rfl,rfl,by simp only [Tryz.f19,Aq,Zf,bk,Q4,aA,aX,M4,l1,aQ]<;>rfl⟩
theorem t_ (h:fV A p fs):bJ af 73 [pw p 0] A (.bool false) A:=by
 obtain⟨pf,mf,mn,cf,cn,ps,ml,q,st,ar,x,y,h1,-⟩:=h;exact OQ h1
theorem N8 {q:Nat} (v:VB A 44 q (.var 1) [pw p 0]):ai af A.get 44 (pw q 0)= .ok (pw p 0):=by
 obtain⟨d,hd1,hd2⟩:=bg (t:=44) (p:=false) (by kernel_rfl);exact v.ld rfl hd1 hd2
variable {is:Bool}
theorem U9 {q k0:Nat} {s:List UInt8} {P:Mem→Value→Prop} (h:fV A p fs) (hw:fileOf fs w=some s) (hs:s.length<1000000000000)
 (v0:VB A 44 k0 (.var 1) [pw p 0]) (v1:VB A 9 (k0+1) (.var 1) [strOf w]) (v2:VB A 90 (k0+2) (.var 1) [.func (.func 35) ⟨[]⟩ ⟨[pw q 0]⟩]) (v3:VB A 3 (k0+3) (.var 1) [.int .i64 (s.length:Nat)])
 (hm:∃v E,bJ af 35 [strOf s,pw q 0] A v E∧Kp A E∧∃x,v= .tuple ⟨[x,.bool is]⟩∧P E x):
 ∃v E,bJ af 81 [pw k0 0,pw (k0+1) 0,pw (k0+3) 0,pw (k0+2) 0] A v E∧Kp A E∧∃x,v= .tuple ⟨[x,.bool is]⟩∧P E x:=by
 obtain⟨g1,h1⟩:=wh h hw hs;obtain⟨v,E,⟨g2,h2⟩,kE,x,rfl,hP⟩:=hm;have l0:=N8 v0;have l1:ai af A.get 9 (pw (k0+1) 0)= .ok (strOf w):=v1.ld rfl u9 rfl;have l2:ai af A.get 90 (pw (k0+2) 0)= .ok (.func (.func 35) ⟨[]⟩ ⟨[pw q 0]⟩):=by
  obtain⟨d,hd1,hd2⟩:=bg (t:=90) (p:=false) (by kernel_rfl);exact v2.ld rfl hd1 hd2
 have l3:ai af A.get 3 (pw (k0+3) 0)= .ok (.int .i64 (s.length:Nat)):=v3.ld rfl u3 rfl;refine⟨_,E,?_,kE,x,rfl,hP⟩;refine aP (av Tryz.func81) (c:=Tryz.f81.body.getD .skip) (by kernel_rfl) (by rw [Tryz.ntmps81];simp) (by kernel_rfl) (by kernel_rfl) ?_;apply W.bf (g1+g2) 60
 ·intro M hM;simp (disch:=first|decide+kernel|omega) only [Tryz.f81,Aq,Zf,aQ,l0,l1,l2,l3,h1,h2,Zm,Zk];rfl
 exact⟨by simp,rfl,rfl,by simp only [Tryz.f81,Aq,Zf,aQ,l0,l1,l2,l3,h1,h2,Zm,Zk]<;>rfl⟩
theorem rK {k0:Nat} {f:Value} {t:TypeId} (hk:A.next=k0):(A.alloc (aa 44 [pw p 0])).next=k0+1∧((A.alloc (aa 44 [pw p 0])).alloc (aa 9 [strOf w])).next=k0+2∧
 ∃D,((A.alloc (aa 44 [pw p 0])).alloc (aa 9 [strOf w])).alloc (aa t [f])=D∧D.next=k0+3∧Kp A D∧VB D 44 k0 (.var 1) [pw p 0]∧VB D 9 (k0+1) (.var 1) [strOf w]∧VB D t (k0+2) (.var 1) [f]:=by
 have h:=CJ [(44,[pw p 0]),(9,[strOf w]),(t,[f])] A;have a:=IZ [(44,[pw p 0]),(9,[strOf w]),(t,[f])] A;rw [hk] at a h;have n1:(A.alloc (aa 44 [pw p 0])).next=k0+1:=by rw [ae,hk]
 exact⟨n1,by rw [ae,n1],_,rfl,h.2,h.1,a 0 _ rfl,a 1 _ rfl,a 2 _ rfl⟩
theorem U6 {q:Nat} {s:List UInt8} {n:Value} {P:Mem→Value→Prop} (h:fV A p fs) (hw:fileOf fs w=some s) (hs:s.length<1000000000000)
 (hm:∀D,Kp A D→∃v E,bJ af 35 [strOf s,.pointer (some ⟨q,0,none⟩)] D v E∧Kp D E∧∃x,v= .tuple ⟨[x,.bool is]⟩∧P E x):
 ∃v E,bJ af 37 [.pointer (some ⟨p,0,none⟩),strOf w,.func (.func 35) ⟨[]⟩ ⟨[.pointer (some ⟨q,0,none⟩)]⟩,n] A v E∧Kp A E∧∃x,P E x∧v=(if is then .tuple ⟨[x,.int .i64 (0:Nat)]⟩ else .tuple ⟨[.pointer none,.int .i64 (12:Nat)]⟩):=by
 generalize hk:A.next=k0
 obtain⟨n1,n2,D,hD,n3,kD,w0,w1,w2⟩:=rK (A:=A) (p:=p) (w:=w) (f:=.func (.func 35) ⟨[]⟩ ⟨[.pointer (some ⟨q,0,none⟩)]⟩) (t:=90) hk;have kE:=Kp.alloc D (aa 3 [.int .i64 (s.length:Nat)]);have w3:=az D 3 [.int .i64 (s.length:Nat)];have sE:aT af (D.alloc (aa 3 [.int .i64 (0:Nat)])) 3 (.pointer (some ⟨D.next,0,none⟩)) (.int .i64 (s.length:Nat))= .ok (D.alloc (aa 3 [.int .i64 (s.length:Nat)])):=da P6 rfl rfl (by simp);rw [n3] at sE w3;generalize hE:D.alloc (aa 3 [.int .i64 (s.length:Nat)])=E at*;obtain⟨gd,hgd⟩:=t_ (h.kp kD);obtain⟨gs,hgs⟩:=zg (w:=w) (h.kp kD);rw [hw] at hgs;simp only [qal,qbW,if_true] at hgs;have l0:=N8 w0;have l1:ai af D.get 9 (.pointer (some ⟨k0+1,0,none⟩))= .ok (strOf w):=w1.ld rfl u9 rfl;have e44:wH af D.get .eql 44 (.tmp 16) (.const (.pointer none)) (.pointer (some ⟨p,0,none⟩)) (.pointer none)= .ok (.bool false):=Cp;obtain⟨v,F,⟨gm,hgm⟩,kF,x,rfl,hP⟩:=U9 (h.kp (kD.trans kE)) hw hs (w0.kp kE) (w1.kp kE) (w2.kp kE) w3 (hm E (kD.trans kE));refine⟨_,F,?_,(kD.trans kE).trans kF,x,hP,rfl⟩;cases is with
 |true=>
  simp only [if_true];refine aP (av Tryz.func37) (c:=qdn.body.getD .skip) (by kernel_rfl) (by rw [Tryz.ntmps37];simp) (by kernel_rfl) (by kernel_rfl) ?_;apply W.bf (gd+gs+gm) 60
  ·intro M hM;simp (config:={maxSteps:=4000000}) (disch:=first|decide+kernel|omega|simp only [Wq,Zf]) only [qdn,Aq,Zj,reduceIte,Zf,Zg,aQ,bU,dx,cF,hk,n1,n2,hD,l0,bk,e44,hgd,l1,hgs,Zm,Zk,gv,n3,sE,aM,hgm];rfl
  exact⟨by simp,rfl,rfl,by simp only [qdn,Aq,Zj,reduceIte,Zf,Zg,aQ,bU,dx,cF,hk,n1,n2,hD,l0,bk,e44,hgd,l1,hgs,Zm,Zk,gv,n3,sE,aM,hgm]<;>rfl⟩
 |false=>
  simp only [Zz,if_false];refine aP (av Tryz.func37) (c:=qdn.body.getD .skip) (by kernel_rfl) (by rw [Tryz.ntmps37];simp) (by kernel_rfl) (by kernel_rfl) ?_;apply W.bf (gd+gs+gm) 60
  ·intro M hM;simp (config:={maxSteps:=4000000}) (disch:=first|decide+kernel|omega|simp only [Wq,Zf]) only [qdn,Aq,Zj,reduceIte,Zf,Zg,aQ,bU,dx,cF,hk,n1,n2,hD,l0,bk,e44,hgd,l1,hgs,Zm,Zk,gv,n3,sE,aM,hgm];rfl
  exact⟨by simp,rfl,rfl,by simp only [qdn,Aq,Zj,reduceIte,Zf,Zg,aQ,bU,dx,cF,hk,n1,n2,hD,l0,bk,e44,hgd,l1,hgs,Zm,Zk,gv,n3,sE,aM,hgm]<;>rfl⟩
def wQ (n:Nat) (l:List aG):Nat×Nat×Nat:=(n,l.length,(crc.aN (cX l)).length)
theorem JA:aV af 117= .ok 1:=by kernel_rfl
theorem Ve:aV af 41= .ok 1:=by kernel_rfl
theorem s3:aV af 3= .ok 1:=by kernel_rfl
theorem YS:af.bp 41=some (.int .i64):=by kernel_rfl
theorem SA:bO af 117= .ok (.slice none 0 0):=by kernel_rfl
theorem HX:bO af 41= .ok (.int .i64 (0:Nat)):=by kernel_rfl
theorem XE:bO af 3= .ok (.int .i64 (0:Nat)):=by kernel_rfl
theorem JS:bO af 183= .ok (.agg ⟨[.int .u64 (0:Nat),.int .i64 (0:Nat),.int .i64 (0:Nat)]⟩):=by kernel_rfl
theorem YB:aV af 183= .ok 3:=by kernel_rfl
theorem M8:ak af 183 (pw b 0) 0= .ok (pw b 0):=by kernel_rfl
theorem Uq:ak af 183 (pw b 0) 1= .ok (pw b 1):=by kernel_rfl
theorem M9:ak af 183 (pw b 0) 2= .ok (pw b 2):=by kernel_rfl
theorem Wc {a b c:Int}:cu af 183 [(0,.int .u64 a),(1,.int .i64 b),(2,.int .i64 c)]= .ok (.agg ⟨[.int .u64 a,.int .i64 b,.int .i64 c]⟩):=by kernel_rfl
theorem H_ {a:Int}:a9 af 117 1 [(0,.int .u64 a)]= .ok (aa 103 [.int .u64 a],.nO 1 2):=by kernel_rfl
noncomputable def xM:Code:=qc2.body.getD .skip
theorem T':qc2.body=some (.seq (sub xM [0]) (.seq (sub xM [1,0]) (.seq (.seq (sub xM [1,1,0,0]) (sub xM [1,1,0,1])) (.seq (sub xM [1,1,1,0]) (sub xM [1,1,1,1]))))):=by kernel_rfl
noncomputable def hZ (t0:T Value) (d:Nat):eY:=ig t0 37 [16] (sub xM [1,1,0,1,0,0]) (sub xM [1,1,0,1,0,1]) d
theorem UQ:sub xM [1,1,0,1]= .block 0 (.rangeFunc (.tmp 15) #[16] (sub xM [1,1,0,1,0,0]) (sub xM [1,1,0,1,0,1])):=by kernel_rfl
def TN (q lp:Nat) (t0:T Value) (l:List Nat) (B:Mem) (i:Nat) (C:Mem):Prop:=∃b x,VB C 117 (q+1) (.var 1) [x]∧aq C 103 1 b ((l.take i).map jw) x∧(i=0→x= .slice none 0 0)∧B.next≤b∧
 C.get (lp+1)=some (.loop (hZ t0 lp))∧B.next≤C.next
variable {B C:Mem}
theorem OI {q lp nx : Nat} {t0 : T Value} {l : List Nat} (hlp : q + 3 < lp) (hlB : lp + 1 < B.next) (h0 : Sl t0 [(5, pV q), (6, pV (q + 1)), (7, pV (q + 2)), (8, pV (q + 3))]) (hm : VB C 3 q (.var 1) [.int .i64 l.length])
    (hv2 : ∃ v, VB C 3 (q + 2) (.var 1) [v]) (hv3 : ∃ v, VB C 41 (q + 3) (.var 1) [v]) (hn : l[i]? = some n) (hll : l.length < 10000) (hI : TN q lp t0 l B i C) :
    ∃ C', (∃ g, ∀ M, g ≤ M → bc af (exec af M) (.round (lp + 1) [.agg ⟨[.int .u64 n, .int .i64 nx, .int .i64 (0 : Nat)]⟩]) C = .ok (.val (.bool (decide (i + 1 ≠ l.length))) C')) ∧
      ((i + 1 ≠ l.length → TN q lp t0 l B (i + 1) C' ∧ ∀ z, z < B.next → z ≠ q + 1 → z ≠ lp + 1 → C'.get z = C.get z) ∧
       (i + 1 = l.length → ∃ b x r, VB C' 117 (q + 1) (.var 1) [x] ∧ aq C' 103 1 b (l.map jw) x ∧ B.next ≤ b ∧ VB C' 3 (q + 2) (.var 1) [.int .i64 nx] ∧ VB C' 41 (q + 3) (.var 1) [.int .i64 (0 : Nat)] ∧ C'.get (lp + 1) = some (.loop r) ∧ r.state ≠ .busy ∧ r.pending = some .ret ∧ B.next ≤ C'.next ∧
         ∀ z, z < B.next → z ≠ q + 1 → z ≠ q + 2 → z ≠ q + 3 → z ≠ lp + 1 → C'.get z = C.get z)) := by
  obtain ⟨b, x, hV, hS, hx0, hb, hL, hBn⟩ := hI
  obtain ⟨g5, g6, g7, g8, -⟩ := h0
  obtain ⟨hil, hnl⟩ := Zl.1 hn
  have htk : l.take (i + 1) = l.take i ++ [n] := by rw [Zs hil, hnl]
  have sD : aT af (C.alloc (aa 183 [.int .u64 (0 : Nat), .int .i64 (0 : Nat), .int .i64 (0 : Nat)])) 183 (pw C.next 0) (.agg ⟨[.int .u64 n, .int .i64 nx, .int .i64 (0 : Nat)]⟩) = .ok (C.alloc (aa 183 [.int .u64 n, .int .i64 nx, .int .i64 (0 : Nat)])) := a_ YB rfl rfl (by simp) (by simp [aH])
  have kD := Kp.alloc C (aa 183 [.int .u64 n, .int .i64 nx, .int .i64 (0 : Nat)])
  have vD := az C 183 [.int .u64 n, .int .i64 nx, .int .i64 (0 : Nat)]
  have nD : (C.alloc (aa 183 [.int .u64 n, .int .i64 nx, .int .i64 (0 : Nat)])).next = C.next + 1 := ae _ _
  generalize hD : C.alloc (aa 183 [.int .u64 n, .int .i64 nx, .int .i64 (0 : Nat)]) = D at sD kD vD nD
  have hLD : D.get (lp + 1) = some (.loop (hZ t0 lp)) := by rw [kD.2 _ (by omega)]; exact hL
  generalize hE : D.set (lp + 1) (.loop { hZ t0 lp with state := .busy }) = E
  have nE : E.next = D.next := by rw [← hE]; exact aO _ _ _
  have fE : ∀ z, z ≠ lp + 1 → E.get z = D.get z := fun z hz => by rw [← hE, aC, if_neg hz]
  have hLE : E.get (lp + 1) = some (.loop { hZ t0 lp with state := .busy }) := by rw [← hE, aC, if_pos rfl]
  have fCE : ∀ z, z < C.next → z ≠ lp + 1 → E.get z = C.get z := fun z hz h => by rw [fE z h, kD.2 z hz]
  have vE : VB E 183 C.next (.var 3) [.int .u64 n, .int .i64 nx, .int .i64 (0 : Nat)] := ⟨by omega, vD.2.same (fE _ (by omega))⟩
  have le : ai af E.get 41 (pw C.next 2) = .ok (.int .i64 (0 : Nat)) := vE.ld rfl YS rfl
  have ln : ai af E.get 103 (pw C.next 0) = .ok (.int .u64 n) := vE.ld rfl eK rfl
  have hVE : VB E 117 (q + 1) (.var 1) [x] := ⟨by have := hV.1; omega, hV.2.same (fCE _ hV.1 (by omega))⟩
  have lx : ai af E.get 117 (pw (q + 1) 0) = .ok x := hVE.ld rfl qb rfl
  have hSE : aq E 103 1 b ((l.take i).map jw) x := aq.fU hS (fun h => hx0 (by
    have := congrArg qaR h
    rw [Zp, ZD, ZG] at this
    omega)) (by omega) fun _ hlt => fCE b hlt (by omega)
  have hbx : ∃ b2, aq E 103 1 b2 ((l.take i).map jw) x ∧ b2 ≠ C.next ∧ B.next ≤ b2 := by
    rcases hSE with ⟨h1, h2⟩ | h
    · exact ⟨E.next, .inl ⟨h1, h2⟩, by omega, by omega⟩
    · refine ⟨b, .inr h, ?_, hb⟩
      obtain ⟨_, _, e1, -⟩ := h
      rcases hS with ⟨q1, -⟩ | ⟨_, _, -, q2, -⟩
      · rw [q1] at e1; cases e1
      · omega
  obtain ⟨b2, hSE2, hb2, hb3⟩ := hbx
  obtain ⟨x', F, b', happ, hS', hn', hb', hf'⟩ := DC (nl := [n]) hSE2 (by rw [ZD]; simp; omega) (by simp)
  have happ' : ba af (E.alloc (aa 103 [.int .u64 n])) 117 117 x (.slice (some ⟨E.next, 0, none⟩) 1 2) = .ok (x', F) := happ
  rw [← htk] at hS'
  have hV1 := hV.1
  obtain ⟨G, sG, vG, nG, fG⟩ := aY (tb := af) (t := 117) (o := 0) (v := x') JA (hVE.2.same (hf' _ (by omega) (by omega))) (by simp) (aq.di hS').1 (aq.di hS').2
  have VG : VB G 117 (q + 1) (.var 1) [x'] := ⟨by omega, vG⟩
  have lxG : ai af G.get 117 (pw (q + 1) 0) = .ok x' := VG.ld rfl qb rfl
  have hSG : aq G 103 1 b' ((l.take (i + 1)).map jw) x' := hS'.same (by omega) fun _ => fG b' (by omega)
  have lenG := nY.len ⟨b', hSG⟩
  rw [ZD, qam (by omega)] at lenG
  have fGB : ∀ z, z < B.next → z ≠ q + 1 → z ≠ lp + 1 → G.get z = C.get z := fun z hz h1 h2 => by rw [fG z h1, hf' z (by omega) (by omega), fCE z (by omega) h2]
  have lm : ai af G.get 3 (pw q 0) = .ok (.int .i64 l.length) := VB.ld (tb := af) ⟨by omega, hm.2.same (fGB q (by omega) (by omega) (by omega))⟩ rfl u3 rfl
  have hLG : G.get (lp + 1) = some (.loop { hZ t0 lp with state := .busy }) := by rw [fG _ (by omega), hf' _ (by omega) (by omega)]; exact hLE
  simp only [pV] at g5 g6 g7 g8
  by_cases hlast : i + 1 = l.length
  · rw [decide_eq_false (by simpa using hlast)]
    obtain ⟨v2, hv2⟩ := hv2
    obtain ⟨v3, hv3⟩ := hv3
    have vnx : ai af G.get 3 (pw C.next 1) = .ok (.int .i64 nx) := VB.ld (tb := af) ⟨by omega, vE.2.same (by rw [fG C.next (by omega), hf' C.next (by omega) (by omega)])⟩ rfl u3 rfl
    obtain ⟨H, sH, vH, nH, fH⟩ := aY (tb := af) (t := 117) (o := 0) (v := x') JA vG (by simp) (aq.di hS').1 (aq.di hS').2
    have vnxH : ai af H.get 3 (pw C.next 1) = .ok (.int .i64 nx) := VB.ld (tb := af) ⟨by omega, vE.2.same (by rw [fH C.next (by omega), fG C.next (by omega), hf' C.next (by omega) (by omega)])⟩ rfl u3 rfl
    have snx := dP .i64 nx rfl
    obtain ⟨I, sI, vI, nI, fI⟩ := aY (tb := af) (t := 3) (o := 0) (v := .int .i64 nx) s3 (hv2.2.same (A' := H) (by rw [fH _ (by omega), fGB _ (by omega) (by omega) (by omega)])) (by simp) rfl rfl
    obtain ⟨J, sJ, vJ, nJ, fJ⟩ := aY (tb := af) (t := 41) (o := 0) (v := .int .i64 (0 : Nat)) Ve (hv3.2.same (A' := I) (by rw [fI _ (by omega), fH _ (by omega), fGB _ (by omega) (by omega) (by omega)])) (by simp) rfl rfl
    have hq : ∃ C', (∃ g, ∀ M, g ≤ M → bc af (exec af M) (.round (lp + 1) [.agg ⟨[.int .u64 n, .int .i64 nx, .int .i64 (0 : Nat)]⟩]) C = .ok (.val (.bool false) C')) ∧ ∃ r : eY, r.state = .done ∧ r.pending = some .ret ∧ C' = J.set (lp + 1) (.loop r) := by
      refine Bq hL (t := t0.set 16 (.agg ⟨[.int .u64 n, .int .i64 nx, .int .i64 (0 : Nat)]⟩)) rfl ?_
      show W af (sub xM [1,1,0,1,0,0]) ⟨_, 37, [], C, some (lp + 1)⟩ _
      apply W.run 20
      · intro M
        simp (disch := omega) only [xM, qc2, Aq, Zf, JS, aj, sD]
        rfl
      refine ⟨rfl, _, hLD, rfl, ?_⟩
      show W af (sub xM [1,1,0,1,0,1]) ⟨_, 37, [], D.set (lp + 1) (.loop { hZ t0 lp with state := .busy }), some (lp + 1)⟩ _
      rw [hE]
      apply W.run 20
      · intro M
        simp (config := { maxSteps := 4000000 }) (disch := first | decide +kernel | omega | simp only [Wq, Zf]) only [xM, qc2, Aq, Zj, reduceIte, Zf, Zg, g5, g6, g7, g8, M8, Uq, M9, le, ln, lx, H_, happ', sG, lxG, lenG, lm, hlast, vnx, sH, vnxH, snx, sI, sJ, Fq, au [(2, 3)]]
        rfl
      exact ⟨rfl, rfl, _, by show J.get (lp + 1) = _; rw [fJ _ (by omega), fI _ (by omega), fH _ (by omega)]; exact hLG, _, rfl, rfl, rfl⟩
    obtain ⟨C', hc, r, hr1, hr2, rfl⟩ := hq
    have fr : ∀ z, z ≠ lp + 1 → (J.set (lp + 1) (.loop r)).get z = J.get z := fun z hz => by rw [aC, if_neg hz]
    have nr : (J.set (lp + 1) (.loop r)).next = J.next := aO _ _ _
    refine ⟨_, hc, fun h => absurd hlast h, fun _ => ⟨b', x', r, ⟨by omega, vH.same (by rw [fr _ (by omega), fJ _ (by omega), fI _ (by omega)])⟩, ?_, by omega, ⟨by omega, vI.same (by rw [fr _ (by omega), fJ _ (by omega)])⟩, ⟨by omega, vJ.same (fr _ (by omega))⟩, by rw [aC, if_pos rfl], by rw [hr1]; simp, hr2, by omega, fun z hz h1 h2 h3 h4 => ?_⟩⟩
    · rw [hlast, ZL] at hSG
      exact hSG.same (by omega) fun _ => by rw [fr _ (by omega), fJ _ (by omega), fI _ (by omega), fH _ (by omega)]
    · rw [fr z h4, fJ z h3, fI z h2, fH z h1, fGB z hz h1 h4]
  · rw [decide_eq_true hlast]
    have hq : ∃ C', (∃ g, ∀ M, g ≤ M → bc af (exec af M) (.round (lp + 1) [.agg ⟨[.int .u64 n, .int .i64 nx, .int .i64 (0 : Nat)]⟩]) C = .ok (.val (.bool true) C')) ∧ C' = G.set (lp + 1) (.loop (hZ t0 lp)) := by
      refine iF hL (t := t0.set 16 (.agg ⟨[.int .u64 n, .int .i64 nx, .int .i64 (0 : Nat)]⟩)) rfl ?_
      show W af (sub xM [1,1,0,1,0,0]) ⟨_, 37, [], C, some (lp + 1)⟩ _
      apply W.run 20
      · intro M
        simp (disch := omega) only [xM, qc2, Aq, Zf, JS, aj, sD]
        rfl
      refine ⟨rfl, _, hLD, rfl, ?_⟩
      show W af (sub xM [1,1,0,1,0,1]) ⟨_, 37, [], D.set (lp + 1) (.loop { hZ t0 lp with state := .busy }), some (lp + 1)⟩ _
      rw [hE]
      apply W.run 20
      · intro M
        simp (disch := decide +kernel) only [xM, qc2, Aq, Zf, g5, g6, M8, M9, le, ln, lx, H_, happ', sG, lxG, lenG, lm, hlast]
        rfl
      exact ⟨rfl, rfl, _, hLG, rfl⟩
    obtain ⟨C', hc, rfl⟩ := hq
    have fr : ∀ z, z ≠ lp + 1 → (G.set (lp + 1) (.loop (hZ t0 lp))).get z = G.get z := fun z hz => by rw [aC, if_neg hz]
    have nr : (G.set (lp + 1) (.loop (hZ t0 lp))).next = G.next := aO _ _ _
    exact ⟨_, hc, fun _ => ⟨⟨b', x', ⟨by omega, vG.same (fr _ (by omega))⟩, hSG.same (by omega) fun _ => fr _ (by omega), fun h => by omega, by omega, by rw [aC, if_pos rfl], by omega⟩, fun z hz h1 h4 => by rw [fr z h4, fGB z hz h1 h4]⟩, fun h => absurd h hlast⟩
noncomputable def MB:Code:=qdK.body.getD .skip
noncomputable def mO:Code:=sub MB [0,0]
theorem Qu:qdK.body=some (.block 0 (.loop mO)):=by kernel_rfl
theorem J':mO= .block 1 (.seq (sub mO [0,0]) (.seq (sub mO [0,1,0]) (sub mO [0,1,1]))):=by kernel_rfl
theorem O6 {q lp a:Nat} {t0:T Value} {l:List Nat} {s r:List UInt8} (hq:q+6=lp) (hlB:B.next=lp+2) (h0:Sl t0 [(5,pV q),(6,pV (q+1)),(7,pV (q+2)),(8,pV (q+3))]) (hL:B.get (lp+1)=some (.loop (hZ t0 lp)))
 (v0:VB B 3 q (.var 1) [.int .i64 l.length]) (v1:VB B 117 (q+1) (.var 1) [.slice none 0 0]) (v2:VB B 3 (q+2) (.var 1) [.int .i64 (0:Nat)]) (v3:VB B 41 (q+3) (.var 1) [.int .i64 (0:Nat)]) (v4:VB B 9 (q+4) (.var 1) [strOf s]) (v5:VB B 3 (q+5) (.var 1) [.int .i64 a])
 (hd:s.drop a=bV l++r) (hl0:l≠ []) (hll:l.length<10000) (hw:∀n∈l,n<18446744073709551616) (hs:s.length<900000):
 ∃v C,bJ af 159 [.func (.yield (lp+1)) ⟨[]⟩ ⟨[]⟩,pV (q+4),pV (q+5)] B v C∧∃b x rr,VB C 117 (q+1) (.var 1) [x]∧aq C 103 1 b (l.map jw) x∧B.next≤b∧VB C 3 (q+2) (.var 1) [.int .i64 (a+(bV l).length:Nat)]∧VB C 41 (q+3) (.var 1) [.int .i64 (0:Nat)]∧
  C.get (lp+1)=some (.loop rr)∧rr.state≠ .busy∧rr.pending=some .ret∧B.next≤C.next∧∀z,z<q∨z=lp→C.get z=B.get z:=by
 refine dQ (av Tryz.func159) Qu (by rw [Tryz.ntmps159];simp) (by kernel_rfl) (by kernel_rfl) ?_;apply W.block;refine W.up l.length (fun i t C=>i<l.length∧TN q lp t0 l B i C∧VB C 3 q (.var 1) [.int .i64 l.length]∧(∃v,VB C 3 (q+2) (.var 1) [v])∧(∃v,VB C 41 (q+3) (.var 1) [v])∧VB C 9 (q+4) (.var 1) [strOf s]∧VB C 3 (q+5) (.var 1) [.int .i64 ((a+(bV (l.take i)).length:Nat):Int)]∧
  (∀z,z<q∨z=lp→C.get z=B.get z)∧Sl t [(0,.func (.yield (lp+1)) ⟨[]⟩ ⟨[]⟩),(1,pV (q+4)),(2,pV (q+5))]) ?_ (Zv _) ⟨ZW.2 hl0,⟨B.next,_,v1,.inl ⟨rfl,rfl⟩,fun _=>rfl,Zn _,hL,Zn _⟩,v0,⟨_,v2⟩,⟨_,v3⟩,v4,by simpa [bV] using v5,fun _ _=>rfl,?_⟩
 ·rintro i t C-⟨hi,hI,w0,w2,w3,w4,w5,hf,g0,g1,g2,-⟩;have hbn:B.next≤C.next:=by obtain⟨_,_,-,-,-,-,-,h⟩:=hI;exact h
  have hli:l[i]?=some l[i]:=Zi hi;generalize l[i]=n at hli;have hn:n<18446744073709551616:=hw n (ZM hli);obtain⟨hi',hil⟩:=Zl.1 hli;have htk:l.take (i+1)=l.take i++[n]:=by rw [Zs hi',hil]
  have e1:bV l=bV (l.take i)++bV (l.drop i):=by unfold bV;rw [←qaH,qcJ]
  have e2:bV (l.drop i)=bI n++bV (l.drop (i+1)):=by rw [qad hi',hil];rfl
  have e3:bV (l.take (i+1))=bV (l.take i)++bI n:=by unfold bV;rw [htk,qaH];simp
  have hdi:s.drop (a+(bV (l.take i)).length)=bI n++(bV (l.drop (i+1))++r):=by rw [←qci,hd,e1,qah,qdF,e2,qah]
  obtain⟨hg,-,hle⟩:=ju hn hdi;rw [qa3,←Zo,←e3] at hg hle;have kg:=fun ih=>X7 (ih:=ih) (A:=C) (s:=s) (a:=a+(bV (l.take i)).length) (by omega) (by rw [e3,Zo] at hle;omega)
  rw [hg,wI] at kg;have l4:ai af C.get 9 (pw (q+4) 0)= .ok (strOf s):=w4.ld rfl u9 rfl;have l5:ai af C.get 3 (pw (q+5) 0)= .ok (.int .i64 ((a+(bV (l.take i)).length:Nat):Int)):=w5.ld rfl u3 rfl;obtain⟨D,⟨gy,hy⟩,hgo,hend⟩:=OI (nx:=a+(bV (l.take (i+1))).length) (by omega) (by omega) h0 w0 w2 w3 hli hll hI;have hb:=Wc (a:=(n:Int)) (b:=((a+(bV (l.take (i+1))).length:Nat):Int)) (c:=((0:Nat):Int));simp only [pV] at g1 g2;rw [J'];apply W.block;apply W.q
  ·intro M;simp (config:={maxSteps:=4000000}) (disch:=first|decide+kernel|omega|simp only [Wq,Zf]) only [mO,MB,qdK,Aq,Zj,reduceIte,Zf,Zg,g1,g2,l4,l5,kg,Zm,Zk];rfl
  apply W.seq;by_cases hlast:i+1=l.length
  ·rw [decide_eq_false (by simpa using hlast)] at hy;obtain⟨b,x,rr,r1,r2,r3,r4,r5,r6,r7,r8,r9,r10⟩:=hend hlast;rw [hlast,ZL] at r4;apply W.bf (gy) 20
   ·intro M hM;simp (config:={maxSteps:=4000000}) (disch:=first|decide+kernel|omega|simp only [Wq,Zf]) only [mO,MB,qdK,Aq,Zj,reduceIte,Zf,Zg,g0,hb,hy];rfl
   exact⟨by simp,_,[],rfl,rfl,b,x,rr,r1,r2,r3,r4,r5,r6,r7,r8,r9,fun z hz=>by rw [r10 z (by omega) (by omega) (by omega) (by omega) (by omega),hf z hz]⟩
  ·rw [decide_eq_true hlast] at hy;obtain⟨hI',hf'⟩:=hgo hlast;have hn':B.next≤D.next:=by obtain⟨_,_,-,-,-,-,-,h⟩:=hI';exact h
   have fD:∀z,z<B.next→z≠q+1→z≠lp+1→D.get z=C.get z:=hf'
   obtain⟨E,sE,vE,nE,fE⟩:=aY (tb:=af) (t:=3) (o:=0) (v:=.int .i64 ((a+(bV (l.take (i+1))).length:Nat):Int)) s3 (w5.2.same (fD _ (by omega) (by omega) (by omega))) (by simp) rfl rfl;have fEC:∀z,z<B.next→z≠q+1→z≠lp+1→z≠q+5→E.get z=C.get z:=fun z a b c d=>by rw [fE z d,fD z a b c]
   have vb:∀{ty z:Nat} {k:Kd} {vs:List Value},z<B.next→z≠q+1→z≠lp+1→z≠q+5→VB C ty z k vs→VB E ty z k vs:=fun a b c d h=>⟨by omega,h.2.same (fEC _ a b c d)⟩
   apply W.bf (gy) 20
   ·intro M hM;simp (config:={maxSteps:=4000000}) (disch:=first|decide+kernel|omega|simp only [Wq,Zf]) only [mO,MB,qdK,Aq,Zj,reduceIte,Zf,Zg,g0,hb,hy];rfl
   apply W.run 20
   ·intro M;simp (disch:=omega) only [mO,MB,qdK,Aq,Zf,g2,sE];rfl
   obtain⟨v2,w2⟩:=w2;obtain⟨v3,w3⟩:=w3;obtain⟨b,x,i1,i2,i3,i4,i5,i6⟩:=hI';refine⟨hi,_,_,rfl,by omega,⟨b,x,⟨by omega,i1.2.same (fE _ (by omega))⟩,i2.same (by omega) fun _=>fE _ (by omega),i3,i4,by rw [fE _ (by omega)];exact i5,by omega⟩,vb (by omega) (by omega) (by omega) (by omega) w0,⟨v2,vb (by omega) (by omega) (by omega) (by omega) w2⟩,⟨v3,vb (by omega) (by omega) (by omega) (by omega) w3⟩,vb (by omega) (by omega) (by omega) (by omega) w4,⟨by omega,vE⟩,fun z hz=>by rw [fEC z (by omega) (by omega) (by omega) (by omega),hf z hz],?_⟩;simp only [Sq,Zf,Zg,g0,g1,g2,pV]
 ·simp only [Sq,Zf,Zg,pV]
theorem Js {s r:List UInt8} {a:Nat} {l:List Nat} (hd:s.drop a=bV l++r) (hl0:l≠ []) (hll:l.length<10000) (hw:∀n∈l,n<18446744073709551616) (hs:s.length<900000):
 ∃v A',bJ af 70 [strOf s,.int .i64 a,.int .i64 l.length] A v A'∧Kp A A'∧∃x,v= .tuple ⟨[x,.int .i64 (a+(bV l).length:Nat),.int .i64 (0:Nat)]⟩∧nY A' l x:=by
 obtain⟨v,A',hA,hk,x,hv,hx⟩:∃v A',bJ af 70 [strOf s,.int .i64 a,.int .i64 l.length] A v A'∧(Kp A A'∧∃x,v= .tuple ⟨[x,.int .i64 (a+(bV l).length:Nat),.int .i64 (0:Nat)]⟩∧nY A' l x):=by
  refine dQ (av Tryz.func70) T' (by rw [Tryz.ntmps70];simp) (by kernel_rfl) (by kernel_rfl) ?_;generalize hq:A.next=q
  have n1:(A.alloc (aa 3 [.int .i64 l.length])).next=q+1:=by rw [ae,hq]
  have n2:((A.alloc (aa 3 [.int .i64 l.length])).alloc (aa 117 [.slice none 0 0])).next=q+2:=by rw [ae,n1]
  have n3:(((A.alloc (aa 3 [.int .i64 l.length])).alloc (aa 117 [.slice none 0 0])).alloc (aa 3 [.int .i64 (0:Nat)])).next=q+3:=by rw [ae,n2]
  have k1:=Kp.alloc A (aa 3 [.int .i64 l.length]);have k2:=Kp.alloc (A.alloc (aa 3 [.int .i64 l.length])) (aa 117 [.slice none 0 0]);have k3:=Kp.alloc ((A.alloc (aa 3 [.int .i64 l.length])).alloc (aa 117 [.slice none 0 0])) (aa 3 [.int .i64 (0:Nat)]);have k4:=Kp.alloc (((A.alloc (aa 3 [.int .i64 l.length])).alloc (aa 117 [.slice none 0 0])).alloc (aa 3 [.int .i64 (0:Nat)])) (aa 41 [.int .i64 (0:Nat)]);have v1:=(az A 3 [.int .i64 l.length]).kp (k2.trans (k3.trans k4));have v2:=(az (A.alloc (aa 3 [.int .i64 l.length])) 117 [.slice none 0 0]).kp (k3.trans k4);have v3:=(az ((A.alloc (aa 3 [.int .i64 l.length])).alloc (aa 117 [.slice none 0 0])) 3 [.int .i64 (0:Nat)]).kp k4;have v4:=az (((A.alloc (aa 3 [.int .i64 l.length])).alloc (aa 117 [.slice none 0 0])).alloc (aa 3 [.int .i64 (0:Nat)])) 41 [.int .i64 (0:Nat)];have kB:=k1.trans (k2.trans (k3.trans k4));have nB:((((A.alloc (aa 3 [.int .i64 l.length])).alloc (aa 117 [.slice none 0 0])).alloc (aa 3 [.int .i64 (0:Nat)])).alloc (aa 41 [.int .i64 (0:Nat)])).next=q+4:=by rw [ae,n3]
  rw [n1] at v2;rw [n2] at v3;rw [n3] at v4;rw [hq] at v1;apply W.q
  ·intro M;simp (disch:=omega) only [xM,qc2,Aq,Zf,SA,XE,HX,n1,n2,n3,hq];rfl
  clear k1 k2 k3 k4 n1 n2 n3;generalize (((A.alloc (aa 3 [.int .i64 l.length])).alloc (aa 117 [.slice none 0 0])).alloc (aa 3 [.int .i64 (0:Nat)])).alloc (aa 41 [.int .i64 (0:Nat)])=B at*;have l1:ai af B.get 3 (pw q 0)= .ok (.int .i64 l.length):=v1.ld rfl u3 rfl;have hl1:¬l.length<1:=by have:=ZW.2 hl0;omega
  apply W.q
  ·intro M;simp (disch:=decide+kernel) only [xM,qc2,Aq,Zf,l1,hl1];rfl
  have m1:(B.alloc (aa 9 [strOf s])).next=q+5:=by rw [ae,nB]
  have kC:=(Kp.alloc B (aa 9 [strOf s])).trans (Kp.alloc (B.alloc (aa 9 [strOf s])) (aa 3 [.int .i64 a]));have w1:=(az B 9 [strOf s]).kp (Kp.alloc (B.alloc (aa 9 [strOf s])) (aa 3 [.int .i64 a]));have w2:=az (B.alloc (aa 9 [strOf s])) 3 [.int .i64 a];have nC:((B.alloc (aa 9 [strOf s])).alloc (aa 3 [.int .i64 a])).next=q+6:=by rw [ae,m1]
  rw [m1] at w2;rw [nB] at w1;have h111:bJ af 111 [strOf s,.int .i64 a] B (.func (.func 159) ⟨[]⟩ ⟨[pw (q+4) 0,pw (q+5) 0]⟩) ((B.alloc (aa 9 [strOf s])).alloc (aa 3 [.int .i64 a])):=by
   refine aP (av Tryz.func111) (c:=Tryz.f111.body.getD .skip) (by kernel_rfl) (by rw [Tryz.ntmps111];simp) (by kernel_rfl) (by kernel_rfl) ?_;apply W.run 60
   ·intro M;simp (disch:=omega) only [Tryz.f111,Aq,Zf,nB,m1,bU,aM];rfl
   exact⟨by simp,rfl,rfl,by simp only [Tryz.f111,Aq,Zf,nB,m1,bU,aM]<;>rfl⟩
  generalize (B.alloc (aa 9 [strOf s])).alloc (aa 3 [.int .i64 a])=C at kC w1 w2 nC h111;obtain⟨g1,h1⟩:=h111;apply W.seq;apply W.seq;apply W.bf (g1) 20
  ·intro M hM;simp (disch:=omega) only [xM,qc2,Aq,Zf,h1];rfl
  show W af (sub xM [1,1,0,1]) _ _;rw [UQ];apply W.block;generalize ht0:T.set _ _ _=t0;have hsl:Sl t0 [(5,pV q),(6,pV (q+1)),(7,pV (q+2)),(8,pV (q+3)),(15,.func (.func 159) ⟨[]⟩ ⟨[pV (q+4),pV (q+5)]⟩)]:=by rw [←ht0];simp only [Sq,Zf,Zg,pV]
  obtain⟨g5,g6,g7,g8,g15,-⟩:=hsl;have kF:=(Kp.alloc C .defd).trans (Kp.alloc (C.alloc .defd) (.loop (hZ t0 (q+6))));have nF1:(C.alloc .defd).next=q+7:=by rw [ae,nC]
  have nF:((C.alloc .defd).alloc (.loop (hZ t0 (q+6)))).next=q+8:=by rw [ae,nF1]
  have hF1:((C.alloc .defd).alloc (.loop (hZ t0 (q+6)))).get (q+7)=some (.loop (hZ t0 (q+6))):=by have:=ay (C.alloc .defd) (.loop (hZ t0 (q+6)));rwa [nF1] at this
  have hF2:((C.alloc .defd).alloc (.loop (hZ t0 (q+6)))).get (q+6)=some .defd:=by
   rw [(Kp.alloc (C.alloc .defd) _).2 _ (by omega)];have:=ay C .defd;rwa [nC] at this
  have u1:=v1.kp (kC.trans kF);have u2:=v2.kp (kC.trans kF);have u3':=v3.kp (kC.trans kF);have u4':=v4.kp (kC.trans kF);have u5':=w1.kp kF;have u6':=w2.kp kF;have kAF:=kB.trans (kC.trans kF);generalize hF:(C.alloc .defd).alloc (.loop (hZ t0 (q+6)))=F at*;obtain⟨v,G,hA,b,x,rr,r1,r2,r3,r4,r5,r6,r7,r8,r9,r10⟩:=O6 (lp:=q+6) rfl (by omega) ⟨g5,g6,g7,g8,trivial⟩ hF1 u1 u2 u3' u4' u5' u6' hd hl0 hll hw hs;refine W.yY (fid:=159) (first:=[]) (capt:=[pV (q+4),pV (q+5)]) (v:=v) (A':=G) (r:=rr) (e:=.ret) (by simp only [ev,g15]) (by rw [nC];show bJ af 159 _ ((C.alloc .defd).alloc (.loop (hZ t0 (q+6)))) v G;rw [hF];exact hA) (by rw [nC];exact r6) r7 (.inr ⟨r8,rfl⟩) ?_;rw [nC];generalize hH:G.set (q+6+1) (.loop {rr with state:=.exhausted})=H;have nH:H.next=G.next:=by rw [←hH];exact aO _ _ _
  have fH:∀z,z≠q+7→H.get z=G.get z:=fun z hz=>by rw [←hH,aC,if_neg (by omega)]
  obtain⟨I,t1,t2,t3⟩:=eP [q+6] H (by simp) (fun d hd=>by
   rw [Z9] at hd;rw [hd,fH _ (by omega),r10 _ (.inr rfl),hF2])
  have fI:∀z,z≠q+6→z≠q+7→I.get z=G.get z:=fun z h1 h2=>by rw [t3 z (by simpa using h1),fH z h2]
  have m1:ai af I.get 117 (pw (q+1) 0)= .ok x:=VB.ld (tb:=af) ⟨by have:=r1.1;omega,r1.2.same (fI _ (by omega) (by omega))⟩ rfl qb rfl;have m2:ai af I.get 3 (pw (q+2) 0)= .ok (.int .i64 (a+(bV l).length:Nat)):=VB.ld (tb:=af) ⟨by have:=r1.1;omega,r4.2.same (fI _ (by omega) (by omega))⟩ rfl u3 rfl;have m3:ai af I.get 41 (pw (q+3) 0)= .ok (.int .i64 (0:Nat)):=VB.ld (tb:=af) ⟨by have:=r1.1;omega,r5.2.same (fI _ (by omega) (by omega))⟩ rfl YS rfl;simp only [pV] at g6 g7 g8;refine⟨.inr rfl,I,_,t1,(by simp only [qc2,g6,g7,g8,m1,m2,m3,Aq,Zf]<;>rfl),⟨by omega,fun z hz=>?_⟩,x,rfl,b,?_⟩
  ·rw [fI z (by omega) (by omega),r10 z (.inl (by omega)),kAF.2 z hz]
  ·exact r2.same (by omega) fun _=>fI b (by omega) (by omega)
 exact⟨v,A',hA,hk,x,hv,hx⟩
theorem HS:af.bp 188=some (.map 3 3):=by kernel_rfl
theorem Nn:ak af 39 (pw b 0) 0= .ok (pw b 0):=by kernel_rfl
theorem No:ak af 39 (pw b 0) 1= .ok (pw b 1):=by kernel_rfl
theorem Eb:ak af 39 (pw b 0) 2= .ok (pw b 2):=by kernel_rfl
theorem Iz:ak af 39 (pw b 0) 3= .ok (pw b 3):=by kernel_rfl
theorem El {a:Nat} {l:List Value}:jm vV (.int .i64 a) (.int .i64 b::l)=jm vV (.int .i64 (min a b:Nat)) l:=by
 have e:jm vV (.int .i64 a) (.int .i64 b::l)=jm vV (.int .i64 (bif nV (b:Int) (a:Int) then(b:Int) else(a:Int))) l:=rfl;rw [e,iY];by_cases h:b<a
 ·rw [decide_eq_true (by omega),qby (by omega)];rfl
 ·rw [decide_eq_false (by omega),qam (by omega)];rfl
theorem Ek {a:Nat} {l:List Value}:jm vU (.int .i64 a) (.int .i64 b::l)=jm vU (.int .i64 (max a b:Nat)) l:=by
 have e:jm vU (.int .i64 a) (.int .i64 b::l)=jm vU (.int .i64 (bif nV (a:Int) (b:Int) then(b:Int) else(a:Int))) l:=rfl;rw [e,iY];by_cases h:a<b
 ·rw [decide_eq_true (by omega),qcY (by omega)];rfl
 ·rw [decide_eq_false (by omega),qdC (by omega)];rfl
theorem Yc {ts:List TypeId} {a:Nat}:aL af .min ts [.int .i64 a,.int .i64 b,.int .i64 c]= .ok (.int .i64 (min (min a b) c:Nat)):=by
 have e:aL af .min ts [.int .i64 a,.int .i64 b,.int .i64 c]=jm vV (.int .i64 a) [.int .i64 b,.int .i64 c]:=by cases ts<;>rfl
 rw [e,El,El];rfl
theorem Yb {ts:List TypeId} {a:Nat}:aL af .max ts [.int .i64 a,.int .i64 b,.int .i64 c]= .ok (.int .i64 (max (max a b) c:Nat)):=by
 have e:aL af .max ts [.int .i64 a,.int .i64 b,.int .i64 c]=jm vU (.int .i64 a) [.int .i64 b,.int .i64 c]:=by cases ts<;>rfl
 rw [e,Ek,Ek];rfl
def gJ:List Nat→Nat→List MapEntry
 | [],_=>[]
 |n::ns,o=>⟨.int .i64 n,.int .i64 (1:Nat),o⟩::gJ ns (o+1)
theorem vc (w:Nat):∀(ns:List Nat) (o j:Nat),w∉ns→findF (.int .i64 w) (gJ ns o) j=some none
 | [],o,j,_=>rfl
 |n::ns,o,j,h=>by
  rw [ZC,not_or] at h;have hne:¬((w:Int)=(n:Int)):=by omega
  unfold gJ findF;simp only [IX,hne,decide_false];exact vc w ns (o+1) (j+1) h.2
theorem wm (w:Nat):∀(ns:List Nat) (o:Nat),gJ (ns++[w]) o=gJ ns o++[⟨.int .i64 w,.int .i64 (1:Nat),o+ns.length⟩]
 | [],o=>rfl
 |n::ns,o=>by
  rw [Z5,gJ,wm w ns (o+1),gJ,Z5,Zu,show o+1+ns.length=o+(ns.length+1) by omega]
variable {mk:Nat}
theorem KR {w:Nat} {ns:List Nat} (h:A.get mk=some (.map (gJ ns 0) ns.length)) (hw:w∉ns):fS af A.get 188 (.map (some mk)) (.int .i64 w) false= .ok (.int .i64 (0:Nat)):=by
 have hk:ew af 3 (.int .i64 w)=true:=by unfold ew;rw [u3]
 unfold fS;simp only [HS,hk,cond_true,iU,h,R.aw,vc w ns 0 0 hw,gv];rfl
theorem PW {w:Nat} {ns:List Nat} (h:A.get mk=some (.map (gJ ns 0) ns.length)) (hw:w∉ns):cI af A 188 (.map (some mk)) (.int .i64 w) (.int .i64 (1:Nat))= .ok (A.set mk (.map (gJ (ns++[w]) 0) (ns++[w]).length)):=by
 have hk:ew af 3 (.int .i64 w)=true:=by unfold ew;rw [u3]
 unfold cI;simp only [HS,hk,cond_true,h,vc w ns 0 0 hw];rw [wm,ZT,Zo];rfl
theorem W0 (v:VB A 188 b (.var 1) [.map (some mk)]):ai af A.get 188 (pw b 0)= .ok (.map (some mk)):=v.ld rfl HS rfl
theorem RI {D:Mem} {pm pr:Nat} {ns:List Nat} {m:jc} {x:Value} {s:Nat×Nat×Nat} (hm:D.get mk=some (.map (gJ ns 0) ns.length)) (hml:mk<D.next) (hs:s.1∉ns) (hok:Ju m.next s) (v1:VB D 188 pm (.var 1) [.map (some mk)]) (v2:VB D 39 pr (.var 4) (cr x m)):
 ∃E,bJ af 114 [.agg ⟨dF s⟩,pw pm 0,pw pr 0] D (.bool false) E∧E.get mk=some (.map (gJ (ns++[s.1]) 0) (ns++[s.1]).length)∧D.next≤E.next∧∀z,z<D.next→z≠mk→E.get z=D.get z:=by
 obtain⟨⟨o1,o2⟩,⟨o3,o4⟩,o5,o6⟩:=hok;have kE:=Kp.alloc D (aa 58 (dF s));have vE:=az D 58 (dF s);have nE:(D.alloc (aa 58 (dF s))).next=D.next+1:=ae _ _
 generalize hEe:D.alloc (aa 58 (dF s))=E at kE vE nE;have hmE:E.get mk=some (.map (gJ ns 0) ns.length):=by rw [kE.2 mk hml];exact hm
 have w1:=v1.kp kE;have w2:=v2.kp kE;have lk:=KR hmE hs;have up:=PW hmE hs;generalize hF:E.set mk (.map (gJ (ns++[s.1]) 0) (ns++[s.1]).length)=F at up;have nF:F.next=E.next:=by rw [←hF];exact aO _ _ _
 have fF:∀z,z≠mk→F.get z=E.get z:=fun z hz=>by rw [←hF,eA,if_neg hz]
 have l1:=W0 w1;have e0:ai af E.get 3 (pw D.next 0)= .ok (.int .i64 s.1):=vE.ld rfl u3 rfl;have vF:=vE.2.same (fF _ (vE.zZ hmE));have a0:ai af F.get 3 (pw D.next 0)= .ok (.int .i64 s.1):=aU u3 rfl vF rfl;have a1:ai af F.get 3 (pw D.next (0+1))= .ok (.int .i64 s.2.1):=aU u3 rfl vF rfl;have a2:ai af F.get 3 (pw D.next (0+2))= .ok (.int .i64 s.2.2):=aU u3 rfl vF rfl;have a3:ai af F.get 3 (pw pr 2)= .ok (.int .i64 m.next):=aU u3 rfl (w2.2.same (fF _ (w2.zZ hmE))) rfl;have mn:=Yc (ts:=[3,3,3]) (a:=s.1) (b:=s.2.1) (c:=s.2.2);have b1:¬min (min s.1 s.2.1) s.2.2<1:=by omega
 have b2:¬m.next≤s.1:=by omega
 have b3:¬100000<s.2.1:=by omega
 have b4:¬1000000000<s.2.2:=by omega
 refine⟨F,?_,by rw [←hF,eA,if_pos rfl],by omega,fun z hz h=>by rw [fF z h,kE.2 z hz]⟩;refine aP (av Tryz.func114) (c:=Tryz.f114.body.getD .skip) (by kernel_rfl) (by rw [Tryz.ntmps114];simp) (by kernel_rfl) (by kernel_rfl) ?_;apply W.run 60
 ·intro M;simp (config:={maxSteps:=4000000}) (disch:=first|decide+kernel|omega|simp only [Wq,Zf]) only [Tryz.f114,Aq,Zj,reduceIte,Zf,Zg,aj,hEe,oE,vz,qi,l1,e0,eV,lk,bT,bA,qau,dL,up,a0,a1,a2,mn,b1,Eb,a3,bN,bj,b2,b3,b4];rfl
 exact⟨by simp,rfl,rfl,by simp only [Tryz.f114,Aq,Zj,reduceIte,Zf,Zg,aj,hEe,oE,vz,qi,l1,e0,eV,lk,bT,bA,qau,dL,up,a0,a1,a2,mn,b1,Eb,a3,bN,bj,b2,b3,b4]<;>rfl⟩
noncomputable def xK:Code:=qcQ.body.getD .skip
noncomputable def F':Code:=sub xK [1,0,1,0,0]
theorem Qw:qcQ.body=some (.seq (sub xK [0]) (.seq (.seq (sub xK [1,0,0]) (.block 0 (.loop F'))) (.seq (sub xK [1,1,0]) (sub xK [1,1,1])))):=by kernel_rfl
theorem RJ {A0:Mem} {pm pr:Nat} {m:jc} {x x2:Value} (h:gh A0 m.segs x) (hm:nX m) (hA:Kp A0 A) (hmk:A0.next≤mk) (hml:mk<A.next) (hg0:A.get mk=some (.map [] 0)) (v1:VB A 188 pm (.var 1) [.map (some mk)]) (v2:VB A 39 pr (.var 4) (cr x2 m)):
 ∃v A',bJ af 162 [x,.func (.func 114) ⟨[]⟩ ⟨[pw pm 0,pw pr 0]⟩] A v A'∧v= .int .i64 (-1)∧A.next≤A'.next∧∀z,z<A.next→z≠mk→A'.get z=A.get z:=by
 obtain⟨-,-,hl,hso,hnd⟩:=hm;refine cM (av Tryz.func162) Qw (by rw [Tryz.ntmps162];simp) (by kernel_rfl) (by kernel_rfl) ?_;have lx:=(h.kp hA).len;apply W.q
 ·intro M;simp (disch:=omega) only [xK,qcQ,Aq,Zf];rfl
 apply W.seq;apply W.q
 ·intro M;simp (disch:=decide+kernel) only [xK,qcQ,Aq,Zf,lx];rfl
 apply W.block;refine W.up m.segs.length (fun i t D=>D.get mk=some (.map (gJ ((m.segs.take i).map (·.1)) 0) ((m.segs.take i).map (·.1)).length)∧A.next≤D.next∧(∀z,z<A.next→z≠mk→D.get z=A.get z)∧
  Sl t [(0,x),(1,.func (.func 114) ⟨[]⟩ ⟨[pw pm 0,pw pr 0]⟩),(7,.int .i64 m.segs.length),(8,.int .i64 i)]) ?_ (Zv _) ⟨hg0,Zn _,fun _ _ _=>rfl,?_⟩
 ·rintro i t D hi ⟨hg,hn,hf,g0,g1,g7,g8,-⟩;by_cases hlt:i<m.segs.length
  ·have hsi:m.segs[i]?=some m.segs[i]:=Zi hlt;have hok:=hso _ (ZO hlt);have htk:(m.segs.take (i+1)).map (·.1)=(m.segs.take i).map (·.1)++[(m.segs[i]).1]:=by rw [Zs hlt,Z3];rfl
   have hnot:(m.segs[i]).1∉(m.segs.take i).map (·.1):=by
    have h1:((m.segs.take (i+1)).map (·.1)).Nodup:=by
     rw [List.map_take];exact(List.take_sublist _ _).nodup hnd
    rw [htk,qbm] at h1;exact fun hm=>h1.2.2 _ hm _ (List.mem_singleton_self _) rfl
   have kD:Kp A0 D:=⟨by have:=hA.1;omega,fun z hz=>by rw [hf z (by have:=hA.1;omega) (by omega),hA.2 z hz]⟩;obtain⟨b,o,j1,j2,-⟩:=(h.kp kD).at hsi;have eJ:∀e z k l,VB A e z k l→VB D e z k l:=fun e z k l h=>⟨by have:=h.1;omega,h.2.same (hf z h.1 (h.zZ hg0))⟩
   obtain⟨E,⟨g,hgg⟩,e1,e2,e3⟩:=RI hg (by omega) hnot hok (eJ _ _ _ _ v1) (eJ _ _ _ _ v2);rw [←htk] at e1;apply W.bf (g) 20
   ·intro M hM;simp (disch:=first|decide+kernel|omega) only [F',xK,qcQ,Aq,Zf,g0,g1,g7,g8,hlt,j1,j2,hgg];rfl
   refine⟨hlt,_,_,rfl,e1,by omega,fun z hz h=>by rw [e3 z (by omega) h,hf z hz h],?_⟩;simp only [Sq,Zf,Zg,g0,g1,g7]
  ·have e:i=m.segs.length:=by omega
   subst e;apply W.run 20
   ·intro M;simp (disch:=decide+kernel) only [F',xK,qcQ,Aq,Zf,g7,g8];rfl
   apply W.q
   ·intro M;simp (disch:=omega) only [xK,qcQ,Aq,Zf,Cr];rfl
   apply W.run 20
   ·intro M;simp only [xK,qcQ,Aq,Zf];rfl
   exact⟨by simp,rfl,_,(by simp only [qcQ,Aq,Zf]<;>rfl),rfl,hn,hf⟩
 ·simp only [Sq,Zf,Zg]
theorem JT:bO af 188= .ok (.map none):=by kernel_rfl
theorem Yp:aV af 188= .ok 1:=by kernel_rfl
theorem Hp {m:jc} {x:Value} (h:gh A m.segs x) (hm:nX m):∃A',bJ af 72 [.agg ⟨cr x m⟩] A (.bool true) A'∧Kp A A':=by
 obtain⟨m1,m2,m3,-,-⟩:=id hm;have kB:=Kp.alloc A (aa 39 (cr x m));have vB:=az A 39 (cr x m);have nB:(A.alloc (aa 39 (cr x m))).next=A.next+1:=ae _ _
 generalize hB:A.alloc (aa 39 (cr x m))=B at kB vB nB;have kC:=Kp.alloc B (.map [] 0);have nC:(B.alloc (.map [] 0)).next=B.next+1:=ae _ _
 have kD:=Kp.alloc (B.alloc (.map [] 0)) (aa 188 [.map (some B.next)]);have vD:=az (B.alloc (.map [] 0)) 188 [.map (some B.next)];have gD:((B.alloc (.map [] 0)).alloc (aa 188 [.map (some B.next)])).get B.next=some (.map [] 0):=by rw [aB (by omega)];exact ay _ _
 have sD:aT af ((B.alloc (.map [] 0)).alloc (aa 188 [.map none])) 188 (pw ((B.alloc (.map [] 0)).next) 0) (.map (some B.next))= .ok ((B.alloc (.map [] 0)).alloc (aa 188 [.map (some B.next)])):=da Yp rfl rfl (by simp);have nD:((B.alloc (.map [] 0)).alloc (aa 188 [.map (some B.next)])).next=B.next+2:=by rw [ae,nC]
 rw [nC] at vD sD;generalize hD:(B.alloc (.map [] 0)).alloc (aa 188 [.map (some B.next)])=D at*;have kBD:=kC.trans kD;have wD:=vB.kp kBD;have l0:ai af B.get 3 (pw A.next 0)= .ok (.int .i64 m.ver):=vB.ld rfl u3 rfl;have l1:ai af B.get 3 (pw A.next 1)= .ok (.int .i64 (1:Nat)):=vB.ld rfl u3 rfl;have l2:ai af B.get 3 (pw A.next 2)= .ok (.int .i64 m.next):=vB.ld rfl u3 rfl;have l3:ai af D.get 34 (pw A.next 3)= .ok x:=wD.ld rfl LX rfl;have lx:=(h.kp (kB.trans kBD)).len;have mn:=Am.m_ (tb:=af) (ts:=[3,3]) (a:=1) (b:=m.next);have mx:=Yb (ts:=[3,3,3]) (a:=m.ver) (b:=1) (c:=m.next);have b1:1≤min 1 m.next:=by omega
 have b2:max (max m.ver 1) m.next≤900000000:=by omega
 obtain⟨v,E,⟨g,hg⟩,rfl,nE,fE⟩:=RJ (A:=D) (A0:=A) (x2:=x) h hm (kB.trans kBD) (by omega) (by omega) gD vD wD;have h115:bJ af 115 [x,.func (.func 114) ⟨[]⟩ ⟨[pw (B.next+1) 0,pw A.next 0]⟩] D (.bool false) E:=by
  have hz:¬((0:Nat):Int)≤-1:=by omega
  refine aP (av Tryz.func115) (c:=Tryz.f115.body.getD .skip) (by kernel_rfl) (by rw [Tryz.ntmps115];simp) (by kernel_rfl) (by kernel_rfl) ?_;apply W.bf (g) 60
  ·intro M hM;simp (disch:=first|decide+kernel|omega) only [Tryz.f115,Aq,Zf,hg,bN,hz];rfl
  exact⟨by simp,rfl,rfl,by simp only [Tryz.f115,Aq,Zf,hg,bN,hz]<;>rfl⟩
 obtain⟨g2,h2⟩:=h115;refine⟨E,?_,⟨by omega,fun z hz=>by rw [fE z (by omega) (by omega),kBD.2 z (by omega),kB.2 z hz]⟩⟩;refine aP (av Tryz.func72) (c:=Tryz.f72.body.getD .skip) (by kernel_rfl) (by rw [Tryz.ntmps72];simp) (by kernel_rfl) (by kernel_rfl) ?_;apply W.bf (g2) 60
 ·intro M hM;simp (config:={maxSteps:=4000000}) (disch:=first|decide+kernel|omega|simp only [Wq,Zf]) only [Tryz.f72,Aq,Zj,reduceIte,Zf,Zg,aj,hB,Nn,No,Eb,Iz,l0,l1,l2,mn,b1,bN,fi,bj,Zv,mx,b2,gP,fx,Az,JT,AM,nC,sD,aM,l3,lx,m3,h2];rfl
 exact⟨by simp,rfl,rfl,by simp only [Tryz.f72,Aq,Zj,reduceIte,Zf,Zg,aj,hB,Nn,No,Eb,Iz,l0,l1,l2,mn,b1,bN,fi,bj,Zv,mx,b2,gP,fx,Az,JT,AM,nC,sD,aM,l3,lx,m3,h2]<;>rfl⟩
def W9 (n:Nat):Value:=.int .u64 n
def BR (A:Mem) (l:List Nat) (x:Value):Prop:=∃(b o:Nat) (full:List Nat) (k:Kd) (c:Nat),x= .slice (some ⟨b,o,none⟩) l.length c∧b<A.next∧dj A 103 b k (full.map W9)∧(full.drop o).take l.length=l∧o+l.length≤full.length∧dT c 1=true∧l.length≤bM c
theorem BR.kp {l:List Nat} {x:Value} (h:BR A l x) (k:Kp A A'):BR A' l x:=by
 obtain⟨b,o,full,kd,c,h1,h2,h3,h4⟩:=h;exact⟨b,o,full,kd,c,h1,ZJ h2 k.1,h3.same (k.2 b h2),h4⟩
theorem Kt (l:List Nat):(l.map jw).flatten=l.map W9:=jS l
theorem nY.Za {l:List Nat} {x:Value} (h:nY A l x) (h0:l≠ []):BR A l x:=by
 obtain⟨b,h⟩:=h;have h:=aq.BE (by omega) h;rcases h with⟨-,e⟩|⟨k,c,ex,h1,h2,h3,h4,h5,h6⟩
 ·exact absurd (ZZ.1 e) h0
 ·rw [Zp] at h1 h6;rw [Kt] at h3;obtain⟨cs,q1,q2⟩:=h3;exact⟨b,0,l,k,c,h1,h2,⟨cs,q1,fun j hj=>by rw [q2 j (by rw [Zo];omega),ZU hj]⟩,by rw [qa5,ZL],by omega,h5,h6⟩
theorem BR.len {l:List Nat} {x:Value} (h:BR A l x):aL af .len [117] [x]= .ok (.int .i64 (l.length:Nat)):=by
 obtain⟨b,o,full,k,c,rfl,-⟩:=h;exact ez qb
theorem BR.at {l:List Nat} {x:Value} (h:BR A l x) (hi:l[i]?=some n):∃p,aW af 117 x (.int .i64 i)= .ok p∧ai af A.get 103 p= .ok (.int .u64 n):=by
 obtain⟨b,o,full,k,c,rfl,h2,h3,h4,h5,-⟩:=h;have hil:=(Zl.1 hi).1;refine⟨_,iM qb P1 hil,aU eK rfl h3 ?_⟩;rw [←h4,qbB,if_pos (by omega),qaT] at hi;rw [ZH,hi];rfl
theorem BR.tail {l:List Nat} {x:Value} (h:BR A l x) (hm:m≤l.length):∃x',cP af 117 x (some (.int .i64 m)) none none= .ok x'∧BR A (l.drop m) x':=by
 obtain⟨b,o,full,k,c,rfl,h2,h3,h4,h5,h6,h7⟩:=h;have e1:bound (some (.int .i64 m)) 0 l.length= .ok m:=eQ hm;have hd:(full.drop (o+m)).take (l.length-m)=l.drop m:=by rw [←qci,←List.drop_take,h4]
 cases hx:ec c&&Zr (bM c) m with
 |true=>
  have hc:=ZA (Bool.and_eq_true_iff.1 hx).2;have hl:l.drop m=[]:=qcA (by omega);refine⟨.slice (some ⟨b,o,none⟩) (l.length-m) 0,?_,b,o,full,k,0,by rw [hl,show l.length-m=0 by omega];rfl,h2,h3,by rw [hl];rfl,by rw [hl];simp;omega,rfl,by rw [hl];exact Zv _⟩;unfold cP;simp only [qb,gA,R.aw,e1,P1,hx,cond_true]
 |false=>
  refine⟨.slice (some ⟨b,o+m,none⟩) (l.length-m) (fY c m),?_,b,o+m,full,k,fY c m,by rw [qak],h2,h3,by rw [qak];exact hd,by rw [qak];omega,?_,by rw [qak,jJ];omega⟩
  ·unfold cP;simp only [qb,gA,R.aw,e1,P1,hx,cond_false,h6,cond_true,jd,qaw]
  ·unfold dT at h6⊢;rw [oe];cases hcx:ec c with
   |true=>rfl
   |false=>rw [hcx] at h6;rw [rY hcx];exact h6
theorem BR.Y5 {l:List Nat} {x:Value} (h:BR A l x) (hn:0<n) (hi:i+n≤l.length):∃x',cP af 117 x (some (.int .i64 i)) (some (.int .i64 (i+n:Nat))) (some (.int .i64 (i+n:Nat)))= .ok x'∧BR A ((l.drop i).take n) x':=by
 obtain⟨b,o,full,k,c,rfl,h2,h3,h4,h5,h6,h7⟩:=h;have e1:bound (some (.int .i64 (i+n:Nat))) 0 (bM c)= .ok (i+n):=eQ (by omega);have e2:bound (some (.int .i64 (i+n:Nat))) 0 (i+n)= .ok (i+n):=eQ (Zn _);have e3:bound (some (.int .i64 i)) 0 (i+n)= .ok i:=eQ (by omega);have hp:Zt 0 (bM c)=true:=by rw [ZB];omega
 have hne:Zr (i+n) i=false:=by
  cases hq:Zr (i+n) i with
  |false=>rfl
  |true=>have:=ZA hq;omega
 have hl:((l.drop i).take n).length=n:=by rw [ZD,qak];omega
 refine⟨.slice (some ⟨b,o+i,none⟩) n (2*n),?_,b,o+i,full,k,2*n,by rw [hl],h2,h3,?_,by rw [hl];omega,by unfold dT;rw [Go.Am.gX];rfl,by rw [hl,Go.Am.eZ];exact Zn _⟩
 ·unfold cP;simp only [qb,e1,R.aw,e2,e3,P1,h6,hp,Bool.and_self,Bool.or_true,cond_true,hne,cond_false,jd,qaw,qcq]
 ·rw [hl,←h4,List.drop_take,qdp,qam (by omega),qci]
theorem sR:∀l:List (Nat×Nat×Nat),(dy l).length=3*l.length
 | []=>rfl
 |s::l=>by
  have:=sR l;unfold dy at this⊢;rw [qaa,Zo,this,Zu];simp only [Zu,ZG];omega
theorem I4:∀{l:List (Nat×Nat×Nat)} {i:Nat} {s:Nat×Nat×Nat},l[i]?=some s→((dy l).drop (3*i)).take 3=[s.1,s.2.1,s.2.2]
 |x::l,0,s,h=>by cases h;rfl
 |x::l,i+1,s,h=>by
  have:=I4 (l:=l) (i:=i) h;rw [show 3*(i+1)=3+3*i by omega,←qci];exact this
noncomputable def MC:Code:=qdL.body.getD .skip
noncomputable def F_:Code:=sub MC [1,0,0]
theorem Qv:qdL.body=some (.seq (sub MC [0]) (.block 0 (.loop F_))):=by kernel_rfl
def Mj (B:Mem) (ab lp:Nat) (l:List (Nat×Nat×Nat)) (Inv:Nat→Mem→Prop):Prop:=∀(i:Nat) (s:Nat×Nat×Nat) (D:Mem) (x:Value),l[i]?=some s→Inv i D→B.next≤D.next→(∀z,z<B.next→z≠ab→z≠lp→D.get z=B.get z)→BR D [s.1,s.2.1,s.2.2] x→
 ∃E,(∃g,∀M,g≤M→bc af (exec af M) (.round lp [x]) D= .ok (.val (.bool true) E))∧Inv (i+1) E∧D.next≤E.next∧∀z,z<B.next→z≠ab→z≠lp→E.get z=D.get z
theorem Hi {l:List (Nat×Nat×Nat)} {x:Value} {q ab lp:Nat} {Inv:Nat→Mem→Prop} (h:BR A (dy l) x) (hl:l.length≤1000) (hB:Kp A B) (v1:VB B 117 q (.var 1) [x]) (v2:VB B 3 (q+1) (.var 1) [.int .i64 (3:Nat)]) (hq:ab≠q∧ab≠q+1∧lp≠q∧lp≠q+1∧A.next≤ab∧A.next≤lp)
 (hc:Mj B ab lp l Inv) (hI:Inv 0 B):
 ∃v C,bJ af 161 [.func (.yield lp) ⟨[]⟩ ⟨[]⟩,pV q,pV (q+1)] B v C∧Inv l.length C∧B.next≤C.next∧∀z,z<B.next→z≠ab→z≠lp→C.get z=B.get z:=by
 obtain⟨p1,p2,p3,p4,p5,p6⟩:=hq;refine cM (av Tryz.func161) Qv (by rw [Tryz.ntmps161];simp) (by kernel_rfl) (by kernel_rfl) ?_;have hml:=sR l;simp only [pV];apply W.q
 ·intro M;simp (disch:=first|decide+kernel|omega) only [MC,qdL,Aq,Zf];rfl
 apply W.block;refine W.up l.length (fun i t D=>Inv i D∧B.next≤D.next∧(∀z,z<B.next→z≠ab→z≠lp→D.get z=B.get z)∧Sl t [(0,.func (.yield lp) ⟨[]⟩ ⟨[]⟩),(1,pw q 0),(2,pw (q+1) 0),(4,.int .i64 (3*i:Nat))]) ?_ (Zv _) ⟨hI,Zn _,fun _ _ _ _=>rfl,?_⟩
 ·rintro i t D hi ⟨hI,hn,hf,g0,g1,g2,g4,-⟩;have kAD:Kp A D:=⟨by have:=hB.1;omega,fun z hz=>by rw [hf z (by have:=hB.1;omega) (by omega) (by omega),hB.2 z hz]⟩;have hW:=h.kp kAD;have lw:=hW.len;rw [hml] at lw;have l1:ai af D.get 117 (pw q 0)= .ok x:=aU qb rfl (v1.2.same (hf q v1.1 (by omega) (by omega))) rfl;have l2:ai af D.get 3 (pw (q+1) 0)= .ok (.int .i64 (3:Nat)):=aU u3 rfl (v2.2.same (hf (q+1) v2.1 (by omega) (by omega))) rfl;by_cases hlt:i<l.length
  ·have hli:l[i]?=some l[i]:=Zi hlt;have hlt3:3*i<3*l.length:=by omega
   obtain⟨y,t1,t2⟩:=hW.tail (m:=3*i) (by omega);have ly:=t2.len;rw [qak,hml] at ly;have mn:=Am.m_ (tb:=af) (ts:=[3,3]) (a:=3) (b:=3*l.length-3*i);rw [qam (by omega)] at mn;obtain⟨z,s1,s2⟩:=hW.Y5 (i:=3*i) (n:=3) (by omega) (by omega);rw [I4 hli] at s2;obtain⟨E,⟨g,hg⟩,hI2,nE,fE⟩:=hc i _ D z hli hI hn hf s2;have a1:aK .add .i64 ((3*i:Nat):Int) ((3:Nat):Int)= .ok (.int .i64 (3*i+3:Nat)):=a8 (aR (by omega));have l3:ai af E.get 3 (pw (q+1) 0)= .ok (.int .i64 (3:Nat)):=aU u3 rfl (v2.2.same (by rw [fE _ v2.1 (by omega) (by omega),hf (q+1) v2.1 (by omega) (by omega)])) rfl;apply W.bf (g) 20
   ·intro M hM;simp (config:={maxSteps:=4000000}) (disch:=first|decide+kernel|omega|simp only [Wq,Zf]) only [F_,MC,qdL,Aq,Zj,reduceIte,Zf,Zg,g0,g1,g2,g4,l1,lw,hlt3,l2,t1,ly,mn,a1,s1,hg,l3,Fq,au []];rfl
   refine⟨hlt,_,_,rfl,hI2,by omega,fun z hz h1 h2=>by rw [fE z hz h1 h2,hf z hz h1 h2],?_⟩;simp only [Sq,Zf,Zg,g0,g1,g2,Nat.mul_add,qaw]
  ·have e:i=l.length:=by omega
   subst e;apply W.run 20
   ·intro M;simp (disch:=decide+kernel) only [F_,MC,qdL,Aq,Zf,g1,g4,l1,lw,qau];rfl
   exact⟨by simp,rfl,_,(by simp only [qdL,Aq,Zf]<;>rfl),hI,hn,hf⟩
 ·simp only [Sq,Zf,Zg]
theorem Lj {x:Value}:bJ af 113 [x,.int .i64 (3:Nat)] A (.func (.func 161) ⟨[]⟩ ⟨[pV A.next,pV (A.next+1)]⟩) ((A.alloc (aa 117 [x])).alloc (aa 3 [.int .i64 (3:Nat)]))∨¬(x.cells.toList=[x]):=by
 by_cases hx:x.cells.toList=[x]
 ·left;have e:=ae A (aa 117 [x]);have v:=(az (A.alloc (aa 117 [x])) 3 [.int .i64 (3:Nat)]);rw [e] at v;have l1:ai af ((A.alloc (aa 117 [x])).alloc (aa 3 [.int .i64 (3:Nat)])).get 3 (pw (A.next+1) 0)= .ok (.int .i64 (3:Nat)):=v.ld rfl u3 rfl;have h3:¬3<1:=by omega
  simp only [pV];refine aP (av Tryz.func113) (c:=Tryz.f113.body.getD .skip) (by kernel_rfl) (by rw [Tryz.ntmps113];simp) (by kernel_rfl) (by kernel_rfl) ?_;apply W.run 60
  ·intro M;simp (disch:=decide+kernel) only [Tryz.f113,Aq,Zf,hx,dc,e,bU,l1,h3,aM];rfl
  exact⟨by simp,rfl,rfl,by simp only [Tryz.f113,Aq,Zf,hx,dc,e,bU,l1,h3,aM]<;>rfl⟩
 ·exact .inr hx
noncomputable def Dv:Code:=qc3.body.getD .skip
theorem Ua:qc3.body=some (.seq (sub Dv [0]) (.seq (sub Dv [1,0]) (.seq (.seq (sub Dv [1,1,0,0]) (.block 0 (.rangeFunc (.tmp 21) #[22] (sub Dv [1,1,0,1,0,0]) (sub Dv [1,1,0,1,0,1])))) (.seq (sub Dv [1,1,1,0]) (sub Dv [1,1,1,1]))))):=by kernel_rfl
noncomputable def mi (t:T Value) (d:Nat):eY:=ig t 42 [22] (sub Dv [1,1,0,1,0,0]) (sub Dv [1,1,0,1,0,1]) d
def SJ (B:Mem) (p lp:Nat) (m:jc) (L:eY) (i:Nat) (D:Mem):Prop:=∃b y,VB D 39 p (.var 4) (cr y m)∧aq D 58 3 b ((m.segs.take i).map dF) y∧(i=0→y= .slice none 0 0)∧B.next≤b∧D.get lp=some (.loop L)∧lp<D.next
theorem A6 {ih:Code→St→R (Ex×St)} (h:n≤1000000000):bc af ih (.fn 112 [.int .u64 n]) A= .ok (.val (.int .i64 n) A):=X_ (by omega)
variable {d:Nat}
theorem KW {lp:Nat} {m:jc} (hm:nX m) (hp:p<lp∧lp<B.next) (hs:Sl t [(2,pV p)]):Mj B p lp m.segs (SJ B p lp m (mi t d)):=by
 rintro i s D x hi ⟨b,y,hV,hS,h0,hb,hL,hlt⟩ hn hf hW;obtain⟨g2,-⟩:=hs;obtain⟨hil,hsi⟩:=Zl.1 hi;obtain⟨⟨-,o2⟩,⟨-,o4⟩,-,o6⟩:=hm.2.2.2.1 s (ZM hi);have hml:=hm.2.2.1;have hnx:=hm.2.1.2;have htk:m.segs.take (i+1)=m.segs.take i++[s]:=by rw [Zs hil,hsi]
 generalize hE:D.set lp (.loop {mi t d with state:=.busy})=E;have nE:E.next=D.next:=by rw [←hE];exact aO _ _ _
 have fE:∀z,z≠lp→E.get z=D.get z:=fun z hz=>by rw [←hE,aC,if_neg hz]
 have hLE:E.get lp=some (.loop {mi t d with state:=.busy}):=by rw [←hE,aC,if_pos rfl]
 have VE:VB E 39 p (.var 4) (cr y m):=⟨by have:=hV.1;omega,hV.2.same (fE _ (by omega))⟩;have WE:BR E [s.1,s.2.1,s.2.2] x:=by
  obtain⟨b,o,full,k,c,h1,h2,h3,h4⟩:=hW;refine⟨b,o,full,k,c,h1,by omega,h3.same (fE b ?_),h4⟩;rintro rfl;obtain⟨_,e,-⟩:=h3;rw [hL] at e;cases e
 have SE:aq E 58 3 b ((m.segs.take i).map dF) y:=aq.fU hS (fun h=>h0 (by
  have:=congrArg qaR h;rw [Zp,ZD,ZG] at this;omega)) (by omega) fun _ hlt=>fE b (by omega)
 have hbx:∃b2,aq E 58 3 b2 ((m.segs.take i).map dF) y∧b2≠p∧B.next≤b2:=by
  rcases SE with⟨h1,h2⟩|h
  ·exact⟨E.next,.inl ⟨h1,h2⟩,by have:=VE.1;omega,by omega⟩
  ·exact⟨b,.inr h,by omega,hb⟩
 obtain⟨b2,SE2,hb2,hb3⟩:=hbx;obtain⟨p0,i0,d0⟩:=WE.at (i:=0) rfl;obtain⟨p1,i1,d1⟩:=WE.at (i:=1) rfl;obtain⟨p2,i2,d2⟩:=WE.at (i:=2) rfl;have ly:ai af E.get 34 (pw p 3)= .ok y:=VE.ld rfl LX rfl;have sy:bP 100 y y=true:=(aq.BE (by omega) SE2).self 99;have q0:=dP .u64 s.2.1 rfl;have q1:=dP .u64 s.2.2 rfl;have k0:=fun ih=>A6 (ih:=ih) (A:=E) (n:=s.1) (by omega)
 have k1:=fun ih=>A6 (ih:=ih) (A:=E) (n:=s.2.1) (by omega)
 have k2:=fun ih=>A6 (ih:=ih) (A:=E) (n:=s.2.2) (by omega)
 obtain⟨y',F,happ,hS',hnF,hfF⟩:=H5 (s:=s) SE2 (by rw [ZD];omega);rw [←htk] at hS';have happ':ba af (E.alloc (aa 58 [.int .i64 s.1,.int .i64 s.2.1,.int .i64 s.2.2])) 34 34 y (.slice (some ⟨E.next,0,none⟩) 1 2)= .ok (y',F):=happ;have hVp:=VE.1;obtain⟨G,sG,vG,nG,fG⟩:=aY (tb:=af) (t:=34) (o:=3) (v:=y') Pj (VE.2.same (hfF p (fun e=>absurd e.symm hb2) hVp)) (by simp [cr]) (aq.di hS').1 (aq.di hS').2;have hFB:∀z,z<B.next→F.get z=E.get z:=fun z hz=>hfF z (fun e=>by omega) (by omega)
 have hLG:G.get lp=some (.loop {mi t d with state:=.busy}):=by rw [fG _ (by omega),hFB _ hp.2];exact hLE
 simp only [pV] at g2;have hq:∃C,(∃g,∀N,g≤N→bc af (exec af N) (.round lp [x]) D= .ok (.val (.bool true) C))∧C=G.set lp (.loop (mi t d)):=by
  refine iF hL (t:=t.set 22 x) rfl ?_;show W af (sub Dv [1,1,0,1,0,0]) ⟨_,42,[],D,some lp⟩ _;apply W.run 20
  ·intro M;simp (disch:=omega) only [Dv,qc3,Aq,Zf];rfl
  refine⟨rfl,_,hL,rfl,?_⟩;show W af (sub Dv [1,1,0,1,0,1]) ⟨_,42,[],D.set lp (.loop {mi t d with state:=.busy}),some lp⟩ _;rw [hE];apply W.run 20
  ·intro M;simp (config:={maxSteps:=4000000}) (disch:=first|decide+kernel|omega|simp only [Wq,Zf]) only [Dv,qc3,Aq,Zj,reduceIte,Zf,Zg,g2,Iz,ly,i0,d0,k0,i1,d1,k1,i2,d2,k2,sy,q0,q1,Wg,Wn,happ',sG,Fq,au [(1,5),(8,5),(1,9),(12,5),(12,9),(1,13)]];rfl
  exact⟨rfl,rfl,_,hLG,rfl⟩
 obtain⟨C,hc,rfl⟩:=hq;have fr:∀z,z≠lp→(G.set lp (.loop (mi t d))).get z=G.get z:=fun z hz=>by rw [aC,if_neg hz]
 have nr:(G.set lp (.loop (mi t d))).next=G.next:=aO _ _ _
 refine⟨_,hc,⟨E.next+1,y',⟨by omega,vG.same (fr _ (by omega))⟩,hS'.same (by omega) fun _=>by rw [fr _ (by omega),fG _ (by omega)],fun h=>by omega,by omega,by rw [aC,if_pos rfl],by omega⟩,by omega,fun z hz h1 h2=>by rw [fr z h2,fG z h1,hFB z hz,fE z h2]⟩
theorem P4:bO af 39= .ok (.agg ⟨[.int .i64 (0:Nat),.int .i64 (0:Nat),.int .i64 (0:Nat),.slice none 0 0]⟩):=by kernel_rfl
theorem C9:aV af 39= .ok 4:=by kernel_rfl
theorem BR.cell {l:List Nat} {x:Value} (h:BR A l x):x.cells.toList=[x]:=by
 obtain⟨_,_,_,_,_,rfl,-⟩:=h;rfl
theorem R6 {m:jc} {x:Value} (h:nY A ([m.ver,1,m.next,m.segs.length]++dy m.segs) x) (hm:nX m):∃v A',bJ af 71 [x] A v A'∧Kp A A'∧∃y,v= .agg ⟨cr y m⟩∧gh A' m.segs y:=by
 obtain⟨m1,m2,m3,-,-⟩:=id hm;refine dQ (av Tryz.func71) Ua (by rw [Tryz.ntmps71];simp) (by kernel_rfl) (by kernel_rfl) ?_;generalize hp:A.next=p
 have kB:=Kp.alloc A (aa 39 (cr (.slice none 0 0) m));have vB:=az A 39 (cr (.slice none 0 0) m);have nB:(A.alloc (aa 39 (cr (.slice none 0 0) m))).next=p+1:=by rw [ae,hp]
 have st:∀(l:List Value) (o:Nat) (n:Nat),o<l.length→aT af (A.alloc (aa 39 l)) 3 (pw p o) (.int .i64 n)= .ok (A.alloc (aa 39 (l.set o (.int .i64 n)))):=fun l o n ho=>by rw [←hp];exact da P6 rfl rfl ho
 have st0:=st [.int .i64 (0:Nat),.int .i64 (0:Nat),.int .i64 (0:Nat),.slice none 0 0] 0 m.ver (by simp);have st1:=st [.int .i64 m.ver,.int .i64 (0:Nat),.int .i64 (0:Nat),.slice none 0 0] 1 1 (by simp);have st2:=st [.int .i64 m.ver,.int .i64 (1:Nat),.int .i64 (0:Nat),.slice none 0 0] 2 m.next (by simp)
 simp only [List.set_cons_zero,List.set_cons_succ] at st0 st1 st2;have hA1:=h.kp (Kp.alloc A (aa 39 [.int .i64 (0:Nat),.int .i64 (0:Nat),.int .i64 (0:Nat),.slice none 0 0]));obtain⟨p0,i0,d0⟩:=hA1.at (i:=0) rfl;obtain⟨p1,i1,d1⟩:=hA1.at (i:=1) rfl;obtain⟨p2,i2,d2⟩:=hA1.at (i:=2) rfl;have k0:=fun ih A=>A6 (ih:=ih) (A:=A) (n:=m.ver) (by omega)
 have k1:=fun ih A=>A6 (ih:=ih) (A:=A) (n:=1) (by omega)
 have k2:=fun ih A=>A6 (ih:=ih) (A:=A) (n:=m.next) (by omega)
 have q1:=dP .u64 1 rfl;have q2:=dP .u64 m.next rfl
 apply W.q
 ·intro M;simp (disch:=omega) only [Dv,qc3,Aq,Zf,hp,P4,aj];rfl
 apply W.q
 ·intro M;simp (config:={maxSteps:=4000000}) (disch:=first|decide+kernel|omega|simp only [Wq,Zf]) only [Dv,qc3,Aq,Zj,reduceIte,Zf,Zg,i0,d0,k0,i1,d1,k1,i2,d2,k2,q1,q2,Nn,No,Eb,st0,st1,st2,Fq,au [(6,3),(10,3),(10,7)]];rfl
 have hBe:A.alloc (aa 39 [.int .i64 m.ver,.int .i64 (1:Nat),.int .i64 m.next,.slice none 0 0])=A.alloc (aa 39 (cr (.slice none 0 0) m)):=rfl;rw [hBe];rw [hp] at vB;generalize A.alloc (aa 39 (cr (.slice none 0 0) m))=B at kB vB nB;obtain⟨z,t1,t2⟩:=(h.Za (by simp)).tail (m:=4) (by simp);have hz:([m.ver,1,m.next,m.segs.length]++dy m.segs).drop 4=dy m.segs:=rfl;rw [hz] at t2;rcases Lj (A:=B) (x:=z) with⟨g,hg⟩|hbad
 ·have c1:=(az B 117 [z]).kp (Kp.alloc _ (aa 3 [.int .i64 (3:Nat)]));have c2:=az (B.alloc (aa 117 [z])) 3 [.int .i64 (3:Nat)];have n1:(B.alloc (aa 117 [z])).next=p+2:=by rw [ae,nB]
  have n2:((B.alloc (aa 117 [z])).alloc (aa 3 [.int .i64 (3:Nat)])).next=p+3:=by rw [ae,n1]
  have kC:=(Kp.alloc B (aa 117 [z])).trans (Kp.alloc _ (aa 3 [.int .i64 (3:Nat)]));rw [nB] at c1 hg;rw [n1] at c2;generalize (B.alloc (aa 117 [z])).alloc (aa 3 [.int .i64 (3:Nat)])=C at*;apply W.seq;apply W.seq;simp only [pV] at hg;apply W.bf (g) 20
  ·intro M hM;simp (disch:=omega) only [Dv,qc3,Aq,Zf,t1,hg];rfl
  apply W.block;generalize ht0:T.set _ _ _=t0;have hsl:Sl t0 [(2,pV p),(21,.func (.func 161) ⟨[]⟩ ⟨[pV (p+1),pV (p+1+1)]⟩)]:=by rw [←ht0];simp only [Sq,Zf,Zg,pV]
  clear ht0;obtain⟨h2,h21,-⟩:=hsl;have kJ:=(Kp.alloc C .defd).trans (Kp.alloc (C.alloc .defd) (.loop (mi t0 C.next)));have nJ1:(C.alloc .defd).next=p+4:=by rw [ae,n2]
  have nJ:((C.alloc .defd).alloc (.loop (mi t0 C.next))).next=p+5:=by rw [ae,nJ1]
  have jL:((C.alloc .defd).alloc (.loop (mi t0 C.next))).get (p+4)=some (.loop (mi t0 C.next)):=by have:=ay (C.alloc .defd) (.loop (mi t0 C.next));rwa [nJ1] at this
  have jM:((C.alloc .defd).alloc (.loop (mi t0 C.next))).get (p+3)=some .defd:=by
   rw [(Kp.alloc (C.alloc .defd) _).2 _ (by omega),←n2];exact ay C .defd
  generalize hJ:(C.alloc .defd).alloc (.loop (mi t0 C.next))=J at kJ nJ jL jM;have kBJ:=kC.trans kJ;obtain⟨v,E,hC,⟨b,y,e1,e2,-,e4,e5,e6⟩,nE,fE⟩:=Hi (A:=A) (B:=J) (q:=p+1) (ab:=p) (lp:=p+4) (l:=m.segs) (Inv:=SJ J p (p+4) m (mi t0 C.next)) t2 m3 (kB.trans kBJ) (c1.kp kJ) (c2.kp kJ) ⟨by omega,by omega,by omega,by omega,by omega,by omega⟩
   (KW hm ⟨by omega,by omega⟩ ⟨h2,trivial⟩) ⟨J.next,.slice none 0 0,vB.kp kBJ,.inl ⟨rfl,rfl⟩,fun _=>rfl,Zn _,jL,by omega⟩
  rw [ZL] at e2;refine W.uP (fid:=161) (first:=[]) (capt:=[pV (p+1),pV (p+1+1)]) (v:=v) (A':=E) (r:=mi t0 C.next) (by simp only [ev,h21]) (by show bJ af 161 _ ((C.alloc .defd).alloc (.loop (mi t0 C.next))) v E;rw [hJ];have h:=hC;rwa [show p+4=C.next+1 by omega] at h) (by rw [show C.next+1=p+4 by omega];exact e5) (by simp [mi,ig]) rfl ?_;rw [n2];generalize hK:E.set (p+3+1) (.loop {mi t0 (p+3) with state:=.exhausted})=K;have nK:K.next=E.next:=by rw [←hK];exact aO _ _ _
  have fK:∀z,z≠p+4→K.get z=E.get z:=fun z hz=>by rw [←hK,aC,if_neg (by omega)]
  simp only [pV] at h2;have vK:dj K 39 p (.var 4) (cr y m):=e1.2.same (fK _ (by omega));have hy:=aq.di e2;have hone:∀v∈cr y m,aH v=true:=by
   intro v hv;simp only [cr,ZC,Z0,or_false] at hv;rcases hv with rfl|rfl|rfl|rfl
   ·rfl
   ·rfl
   ·rfl
   ·exact hy.2
  obtain⟨F,sF,vF,nF,fF⟩:=bK (tb:=af) (t:=39) (l':=cr y m) (by exact C9) vK rfl (by simp [cr]) hone;obtain⟨d,hd1,hd2⟩:=bg (t:=39) (p:=true) (by kernel_rfl);have lK:ai af K.get 39 (pw p 0)= .ok (.agg ⟨cr y m⟩):=aI hd1 hd2 (l:=cr y m) C9 vK;apply W.q
  ·intro M;simp (disch:=omega) only [Dv,qc3,Aq,Zf,h2,lK,sF];rfl
  apply W.run 20
  ·intro M;simp only [Dv,qc3,Aq,Zf];rfl
  obtain⟨I,t1,t2,t3⟩:=eP [p+3] F (by simp) (fun d hd=>by
   rw [Z9] at hd;rw [hd,fF _ (by omega),fK _ (by omega),fE _ (by omega) (by omega) (by omega),jM])
  have fI:∀z,z≠p+3→I.get z=F.get z:=fun z h=>t3 z (by simpa using h)
  have lI:ai af I.get 39 (pw p 0)= .ok (.agg ⟨cr y m⟩):=aI hd1 hd2 (l:=cr y m) C9 (vF.same (fI _ (by omega)));refine⟨.inr rfl,I,_,t1,(by simp only [qc3,h2,lI,Aq,Zf]<;>rfl),⟨by omega,fun z hz=>?_⟩,y,rfl,b,?_⟩
  ·rw [fI z (by omega),fF z (by omega),fK z (by omega),fE z (by omega) (by omega) (by omega),kBJ.2 z (by omega),kB.2 z (by omega)]
  ·exact e2.same (by omega) fun _=>by rw [fI _ (by omega),fF _ (by omega),fK _ (by omega)]
 ·exact absurd t2.cell hbad
theorem K8 {s:List UInt8} (h:(crc.fm s).2=false):(crc.fm s).1=[]:=by
 unfold crc.fm at h⊢;by_cases h1:s.length<4
 ·rw [if_pos h1]
 ·rw [if_neg h1] at h⊢;by_cases h2:crc.qs (s.take (s.length-4))≠s
  ·rw [if_pos h2]
  ·rw [if_neg h2] at h;cases h
theorem OP:bJ af 69 [strOf [],strOf [67,77,1]] A (.tuple ⟨[strOf [],.bool false]⟩) A:=by
 have l1:=cd (tb:=af) (t:=9) (l:=[]) u9;have l2:=cd (tb:=af) (t:=9) (l:=[67,77,1]) u9;have h1:¬3≤0:=by omega
 have h158:bJ af 158 [strOf [],strOf [67,77,1]] A (.bool false) A:=by
  refine aP (av Tryz.func158) (c:=qdJ.body.getD .skip) (by kernel_rfl) (by rw [Tryz.ntmps158];simp) (by kernel_rfl) (by kernel_rfl) ?_;apply W.run 60
  ·intro M;simp (config:={maxSteps:=4000000}) (disch:=first|decide+kernel|omega|simp only [Wq,Zf]) only [qdJ,Aq,Zj,reduceIte,Zf,Zg,l1,l2,ZG,Zu,bN,bj,h1];rfl
  exact⟨by simp,rfl,rfl,by simp only [qdJ,Aq,Zj,reduceIte,Zf,Zg,l1,l2,ZG,Zu,bN,bj,h1]<;>rfl⟩
 obtain⟨g,hg⟩:=h158;have h110:bJ af 110 [strOf [],strOf [67,77,1]] A (.tuple ⟨[strOf [],.bool false]⟩) A:=by
  refine aP (av Tryz.func110) (c:=qdH.body.getD .skip) (by kernel_rfl) (by rw [Tryz.ntmps110];simp) (by kernel_rfl) (by kernel_rfl) ?_;apply W.bf (g) 60
  ·intro M hM;simp (disch:=omega) only [qdH,Aq,Zf,hg];rfl
  exact⟨by simp,rfl,rfl,by simp only [qdH,Aq,Zf,hg]<;>rfl⟩
 obtain⟨g2,hg2⟩:=h110;refine aP (av Tryz.func69) (c:=Tryz.f69.body.getD .skip) (by kernel_rfl) (by rw [Tryz.ntmps69];simp) (by kernel_rfl) (by kernel_rfl) ?_;apply W.bf (g2) 60
 ·intro M hM;simp (disch:=omega) only [Tryz.f69,Aq,Zf,hg2,Zm,Zk];rfl
 exact⟨by simp,rfl,rfl,by simp only [Tryz.f69,Aq,Zf,hg2,Zm,Zk]<;>rfl⟩
theorem RV {r:List UInt8} (hr:r.length<900000):bJ af 69 [strOf ([67,77,1]++r),strOf [67,77,1]] A (.tuple ⟨[strOf r,.bool true]⟩) A:=by
 have l1:=cd (tb:=af) (t:=9) (l:=[67,77,1]++r) u9;have l2:=cd (tb:=af) (t:=9) (l:=[67,77,1]) u9;have e:([67,77,1]++r:List UInt8).length=r.length+3:=by simp
 have h1:3≤r.length+3:=by omega
 have s1:=oW (tb:=af) (t:=9) (l:=[67,77,1]++r) (k:=.i64) (n:=3) u9 (by rw [e];omega);have s2:=zx (tb:=af) (t:=9) (l:=[67,77,1]++r) (k:=.i64) (n:=3) u9 (by rw [e];omega);have t1:([67,77,1]++r:List UInt8).take 3=[67,77,1]:=rfl;have t2:([67,77,1]++r:List UInt8).drop 3=r:=rfl;rw [t1] at s1;rw [t2] at s2;rw [e] at l1;have l2:aL af .len [9] [strOf [67,77,1]]= .ok (.int .i64 (3:Nat)):=l2;generalize [67,77,1]++r=q at*;have h158:bJ af 158 [strOf q,strOf [67,77,1]] A (.bool true) A:=by
  refine aP (av Tryz.func158) (c:=qdJ.body.getD .skip) (by kernel_rfl) (by rw [Tryz.ntmps158];simp) (by kernel_rfl) (by kernel_rfl) ?_;apply W.run 60
  ·intro M;simp (config:={maxSteps:=4000000}) (disch:=first|decide+kernel|omega|simp only [Wq,Zf]) only [qdJ,Aq,Zj,reduceIte,Zf,Zg,l1,l2,bN,bj,h1,s1];rfl
  exact⟨by simp,rfl,rfl,by simp only [qdJ,Aq,Zj,reduceIte,Zf,Zg,l1,l2,bN,bj,h1,s1]<;>rfl⟩
 obtain⟨g,hg⟩:=h158;have h110:bJ af 110 [strOf q,strOf [67,77,1]] A (.tuple ⟨[strOf r,.bool true]⟩) A:=by
  refine aP (av Tryz.func110) (c:=qdH.body.getD .skip) (by kernel_rfl) (by rw [Tryz.ntmps110];simp) (by kernel_rfl) (by kernel_rfl) ?_;apply W.bf (g) 60
  ·intro M hM;simp (disch:=first|decide+kernel|omega) only [qdH,Aq,Zf,hg,l2,s2];rfl
  exact⟨by simp,rfl,rfl,by simp only [qdH,Aq,Zf,hg,l2,s2]<;>rfl⟩
 obtain⟨g2,hg2⟩:=h110;refine aP (av Tryz.func69) (c:=Tryz.f69.body.getD .skip) (by kernel_rfl) (by rw [Tryz.ntmps69];simp) (by kernel_rfl) (by kernel_rfl) ?_;apply W.bf (g2) 60
 ·intro M hM;simp (disch:=omega) only [Tryz.f69,Aq,Zf,hg2,Zm,Zk];rfl
 exact⟨by simp,rfl,rfl,by simp only [Tryz.f69,Aq,Zf,hg2,Zm,Zk]<;>rfl⟩
def cE:List Value:=[.int .i64 (0:Nat),.int .i64 (0:Nat),.int .i64 (0:Nat),.slice none 0 0]
theorem dv:bO af 39= .ok (.agg ⟨cE⟩):=P4
theorem pZ {k:Kd} {l:List Value} (h:dj A 39 b k l) (hl:l.length=4):ai af A.get 39 (pw b 0)= .ok (.agg ⟨l⟩):=by
 obtain⟨d,hd1,hd2⟩:=bg (t:=39) (p:=true) (by kernel_rfl);exact aI hd1 hd2 (by rw [hl];exact C9) h
theorem UW:∀v∈cE,aH v=true:=by simp [cE,aH]
theorem C7 {s:List UInt8} (hs:s.length<900000) (ho:(crc.fm s).2=false):∃A',bJ af 30 [strOf s] A (.tuple ⟨[.agg ⟨cE⟩,.int .i64 (16:Nat)]⟩) A'∧Kp A A':=by
 have kB:=Kp.alloc A (aa 39 cE);have vB:=az A 39 cE;generalize hB:A.alloc (aa 39 cE)=B at kB vB;have ko:=fun ih A=>To (ih:=ih) (A:=A) hs
 rw [K8 ho,ho] at ko;obtain⟨g,hg⟩:=OP (A:=B);have l1:=pZ vB.2 rfl;obtain⟨C,sC,vC,nC,fC⟩:=bK (tb:=af) (t:=39) (l':=cE) (by exact C9) vB.2 rfl (by simp [cE]) UW;have l2:=pZ vC rfl;refine⟨C,?_,⟨by have:=kB.1;omega,fun z hz=>by rw [fC z (by omega),kB.2 z hz]⟩⟩;refine aP (av Tryz.func30) (c:=qbj.body.getD .skip) (by kernel_rfl) (by rw [Tryz.ntmps30];simp) (by kernel_rfl) (by kernel_rfl) ?_;apply W.bf (g) 60
 ·intro M hM;simp (config:={maxSteps:=4000000}) (disch:=first|decide+kernel|omega|simp only [Wq,Zf]) only [qbj,Aq,Zj,reduceIte,Zf,Zg,dv,aj,hB,ko,Iu,hg,l1,sC,l2,Zm,Zk];rfl
 exact⟨by simp,rfl,rfl,by simp only [qbj,Aq,Zj,reduceIte,Zf,Zg,dv,aj,hB,ko,Iu,hg,l1,sC,l2,Zm,Zk]<;>rfl⟩
theorem I9 {D:Mem} {b2:Nat} {l nl:List Nat} {x:Value} (h:aq D 103 1 b (l.map jw) x) (hy:aq D 103 1 b2 (nl.map jw) y) (h0:nl≠ []) (hl:l.length+nl.length≤10000):
 ∃x' D' b',ba af D 117 117 x y= .ok (x',D')∧aq D' 103 1 b' ((l++nl).map jw) x'∧D.next≤D'.next∧(b'=b∨D.next≤b')∧∀z,(z=b→x= .slice none 0 0)→z<D.next→D'.get z=D.get z:=by
 obtain⟨i,t1,t2,t3⟩:=Tv;rcases hy with⟨-,e⟩|⟨k,c,rfl,y2,y3,y4,y5⟩
 ·exact absurd (ZZ.1 e) h0
 ·rw [Zp];obtain⟨x',D',b',e1,e2,e3,e4,e5⟩:=aq.kN (tb:=af) (st:=117) (xt:=117) (nl:=nl.map jw) (m:=nl.length) h qb qb rfl TC t1 t2 t3 (by omega) (by omega) (by rw [Zp];omega) (y:=.slice (some ⟨b2,0,none⟩) nl.length c) rfl
   (ep y3 (by rw [qaw,jS,Zp])) (by rw [Zp]) (fun c hc=>by obtain⟨n,-,rfl⟩:=ZX.1 hc;rfl) (by
    intro v hv;rw [jS] at hv;obtain⟨n,-,rfl⟩:=ZX.1 hv;rfl)
  exact⟨x',D',b',e1,by rw [Z3];exact e2,e3,e4,e5⟩
noncomputable def w9:Code:=qbj.body.getD .skip
noncomputable def vp:Code:=sub w9 [1,0,1,1,1,1,1,1,0,0,0]
theorem T5:qbj.body=some (.seq (sub w9 [0]) (.scope (.seq (sub w9 [1,0,0]) (.seq (sub w9 [1,0,1,0]) (.seq (sub w9 [1,0,1,1,0]) (.seq (sub w9 [1,0,1,1,1,0]) (.seq (sub w9 [1,0,1,1,1,1,0]) (.seq (sub w9 [1,0,1,1,1,1,1,0]) (.seq (.block 1 (.loop vp)) (.seq (sub w9 [1,0,1,1,1,1,1,1,1,0]) (.seq (sub w9 [1,0,1,1,1,1,1,1,1,1,0]) (.seq (sub w9 [1,0,1,1,1,1,1,1,1,1,1,0]) (sub w9 [1,0,1,1,1,1,1,1,1,1,1,1]))))))))))))):=by kernel_rfl
theorem uA (a b:List Nat):bV (a++b)=bV a++bV b:=by unfold bV;rw [qaH]
theorem KV {m:jc} {r:List UInt8} {K:Ex→St→Prop} (hm:nX m) (hr:r=bV ([m.ver,1,m.next,m.segs.length]++dy m.segs)) (hl:r.length<900000)
 (hs:Sl t [(2,pV p),(3,.int .i64 (0:Nat)),(6,strOf r),(8,.slice none 0 0),(9,.int .i64 (0:Nat)),(10,.int .i64 (4:Nat))])
 (hK:∀t D x,Kp B D→nY D ([m.ver,1,m.next,m.segs.length]++dy m.segs) x→Sl t [(2,pV p),(3,.int .i64 (0:Nat)),(6,strOf r),(8,x),(9,.int .i64 (r.length:Nat))]→K (.exit 1) ⟨t,87,[],D,none⟩):
 W af (.loop vp) ⟨t,87,[],B,none⟩ K:=by
 obtain⟨g2,g3,g6,g8,g9,g10,-⟩:=hs;obtain⟨m1,m2,m3,m4,-⟩:=hm;have hlen:=sR m.segs;have hw:∀n∈([m.ver,1,m.next,m.segs.length]++dy m.segs),n<18446744073709551616:=by
  intro n hn;rcases qas.1 hn with hn|hn
  ·simp only [ZC,Z0,or_false] at hn;omega
  ·obtain⟨s,hs,hn⟩:=qbx.1 hn;obtain⟨⟨-,o2⟩,⟨-,o4⟩,-,o6⟩:=m4 s hs;simp only [ZC,Z0,or_false] at hn;omega
 have hd0:r.drop 0=bV [m.ver,1,m.next,m.segs.length]++bV (dy m.segs):=by rw [qa5,hr,uA]
 obtain⟨v,C,⟨g,hg⟩,kC,y,rfl,hy⟩:=Js (A:=B) hd0 (by simp) (by simp) (fun n hn=>hw n (qbJ _ hn)) hl;have hg':∀M,g≤M→bc af (exec af M) (.fn 70 [strOf r,.int .i64 (0:Nat),.int .i64 (4:Nat)]) B=_:=hg;rw [ZT] at hg';obtain⟨by0,hyS⟩:=hy;obtain⟨x1,D,b1,a1,hx1,n1,hb1,f1⟩:=I9 (D:=C) (b:=C.next) (l:=[]) (aq.nil _ _ _ _) hyS (by simp) (by simp);rw [qac] at hx1;have kD:Kp B D:=⟨by have:=kC.1;omega,fun z hz=>by rw [f1 z (fun _=>rfl) (by have:=kC.1;omega),kC.2 z hz]⟩;have hnum:nY D [m.ver,1,m.next,m.segs.length] x1:=⟨b1,hx1⟩;obtain⟨p3,i3,d3⟩:=hnum.at (i:=3) rfl;have l0:aL af .len [117] [.slice none 0 0]= .ok (.int .i64 (0:Nat)):=ez qb;have lx:=hnum.len;have hc:¬1000<m.segs.length:=by omega
 have cv:=bx (tb:=af) (s:=103) (d:=3) (k:=.u64) (n:=m.segs.length) (by rw [eK];rfl) u3 (aR (by omega));have mu:aK .mul .i64 ((3:Nat):Int) ((m.segs.length:Nat):Int)= .ok (.int .i64 (3*m.segs.length:Nat)):=iE (aR (by omega));have ad:aK .add .i64 ((4:Nat):Int) ((3*m.segs.length:Nat):Int)= .ok (.int .i64 (4+3*m.segs.length:Nat)):=a8 (aR (by omega));have h04:0<4:=by omega
 have s4:aK .sub .i64 ((4:Nat):Int) ((0:Nat):Int)= .ok (.int .i64 (4:Nat)):=bm (by omega) (aR (by omega));apply W.round;refine W.to (n:=87) (fun t' D'=>D'=D∧Sl t' [(2,pV p),(3,.int .i64 (0:Nat)),(6,strOf r),(8,x1),(9,.int .i64 ((bV [m.ver,1,m.next,m.segs.length]).length:Nat)),(10,.int .i64 (4+3*m.segs.length:Nat))]) ?_ ?_
 ·apply W.bf (g) 20
  ·intro M hM;simp (config:={maxSteps:=4000000}) (disch:=first|decide+kernel|omega|simp only [Wq,Zf]) only [vp,w9,qbj,Aq,Zj,reduceIte,Zf,Zg,g2,g3,g6,g8,g9,g10,l0,h04,s4,hg',Zm,Zk,a1,i3,d3,bT,bA,hc,cv,mu,ad];rfl
  refine⟨rfl,_,_,rfl,rfl,?_⟩;simp only [Sq,Zf,Zg,g2,g6]
 ·rintro t D' ⟨rfl,g2,g3,g6,g8,g9,g10,-⟩;have lx:aL af .len [117] [x1]= .ok (.int .i64 (4:Nat)):=lx;show W af (.loop vp) _ _;apply W.round;by_cases h0:m.segs=[]
  ·have hz:4+3*m.segs.length=4:=by rw [h0];rfl
   rw [hz] at g10;apply W.run 20
   ·intro M;simp (disch:=decide+kernel) only [vp,w9,qbj,Aq,Zf,g8,g10,lx,qau];rfl
   have e0:dy m.segs=[]:=by rw [h0];rfl
   have er:(bV [m.ver,1,m.next,m.segs.length]).length=r.length:=by rw [hr,e0,qap]
   rw [er] at g9;refine hK _ _ x1 kD (by rw [e0,qap];exact hnum) ?_;simp only [Sq,Zf,Zg,g2,g3,g6,g8,g9]
  ·have hp:=ZW.2 h0;have hd1:r.drop (bV [m.ver,1,m.next,m.segs.length]).length=bV (dy m.segs)++[]:=by rw [hr,uA,qdF,qap]
   have hne:dy m.segs≠ []:=fun h=>by
    have:=hlen;rw [h] at this;simp at this;omega
   obtain⟨v,E,⟨ge,hge⟩,kE,z,rfl,bz,hzS⟩:=Js (A:=D') hd1 hne (by omega) (fun n hn=>hw n (qaP _ hn)) hl;have er:(bV [m.ver,1,m.next,m.segs.length]).length+(bV (dy m.segs)).length=r.length:=by rw [hr,uA,Zo]
   rw [hlen,er] at hge;have hx1E:=hx1.same kE.1 (kE.2 b1);obtain⟨x2,F,b2,a2,hx2,n2,hb2,f2⟩:=I9 hx1E hzS hne (by rw [hlen];simp;omega);have hbB:B.next≤b1:=by have:=kC.1;omega
   have h4:4<4+3*m.segs.length:=by omega
   have hn4:¬4+3*m.segs.length=4:=by omega
   have s5:aK .sub .i64 ((4+3*m.segs.length:Nat):Int) ((4:Nat):Int)= .ok (.int .i64 (3*m.segs.length:Nat)):=by rw [bm (by omega) (aR (by omega)),qcq]
   have kF:Kp B F:=⟨by have:=kD.1;have:=kE.1;omega,fun w hw=>by rw [f2 w (fun e=>by omega) (by have:=kD.1;have:=kE.1;omega),kE.2 w (by have:=kD.1;omega),kD.2 w hw]⟩;have hnum2:nY F ([m.ver,1,m.next,m.segs.length]++dy m.segs) x2:=⟨b2,hx2⟩;have lx2:=hnum2.len;rw [Zo,hlen] at lx2;have lx2:aL af .len [117] [x2]= .ok (.int .i64 (4+3*m.segs.length:Nat)):=lx2;refine W.to (n:=87) (fun t' D'=>D'=F∧Sl t' [(2,pV p),(3,.int .i64 (0:Nat)),(6,strOf r),(8,x2),(9,.int .i64 (r.length:Nat)),(10,.int .i64 (4+3*m.segs.length:Nat))]) ?_ ?_
   ·apply W.bf (ge) 20
    ·intro M hM;simp (disch:=first|decide+kernel|omega) only [vp,w9,qbj,Aq,Zf,g2,g3,g6,g8,g9,g10,lx,h4,s5,hge,Zm,Zk,a2,hn4];rfl
    refine⟨rfl,_,_,rfl,rfl,?_⟩;simp only [Sq,Zf,Zg,g2,g6,g10]
   ·rintro t D' ⟨rfl,g2,g3,g6,g8,g9,g10,-⟩;show W af (.loop vp) _ _;apply W.round;apply W.run 20
    ·intro M;simp (disch:=decide+kernel) only [vp,w9,qbj,Aq,Zf,g8,g10,lx2,qau];rfl
    refine hK _ _ x2 kF hnum2 ?_;simp only [Sq,Zf,Zg,g2,g3,g6,g8,g9]
theorem O0 {m:jc} (hm:nX m) (hl:(iC m).length<800000):∃v A',bJ af 30 [strOf (crc.aN (iC m))] A v A'∧Kp A A'∧∃y,v= .tuple ⟨[.agg ⟨cr y m⟩,.int .i64 (0:Nat)]⟩∧gh A' m.segs y:=by
 obtain⟨v,A',h1,h2⟩:∃v A',bJ af 30 [strOf (crc.aN (iC m))] A v A'∧(Kp A A'∧∃y,v= .tuple ⟨[.agg ⟨cr y m⟩,.int .i64 (0:Nat)]⟩∧gh A' m.segs y):=by
  refine cM (av Tryz.func30) T5 (by rw [Tryz.ntmps30];simp) (by kernel_rfl) (by kernel_rfl) ?_;have hsl:=te (iC m);have kB:=Kp.alloc A (aa 39 cE);have vB:=az A 39 cE;have ko:=fun ih A=>To (ih:=ih) (A:=A) (s:=crc.aN (iC m)) (by omega)
  rw [crc.yS] at ko;apply W.q
  ·intro M;simp (disch:=omega) only [w9,qbj,Aq,Zf,dv,aj];rfl
  generalize A.alloc (aa 39 cE)=B at kB vB;have hml:(iC m).length=(bV ([m.ver,1,m.next,m.segs.length]++dy m.segs)).length+3:=by unfold iC;rw [Zo];simp;omega
  obtain⟨gc,hc⟩:=RV (A:=B) (r:=bV ([m.ver,1,m.next,m.segs.length]++dy m.segs)) (by omega);have hcm:([67,77,1]++bV ([m.ver,1,m.next,m.segs.length]++dy m.segs):List UInt8)=iC m:=rfl;rw [hcm] at hc;have lm:=cd (tb:=af) (t:=9) (l:=iC m) u9;have h3:¬(iC m).length<3:=by omega
  apply W.scope;apply W.q
  ·intro M;simp (disch:=omega) only [w9,qbj,Aq,Zf,ko,Zm,Zk];rfl
  apply W.qG (gc)
  ·intro M hM;simp (disch:=omega) only [w9,qbj,Aq,Zf,Iu,hc,Zm,Zk];rfl
  apply W.q
  ·intro M;simp (disch:=decide+kernel) only [w9,qbj,Aq,Zf,lm,h3];rfl
  apply W.q
  ·intro M;simp (disch:=omega) only [w9,qbj,Aq,Zf];rfl
  apply W.q
  ·intro M;simp (disch:=omega) only [w9,qbj,Aq,Zf];rfl
  apply W.seq;refine W.run 1 (fun m=>rfl) ?_;apply W.seq;apply W.block;refine KV (p:=A.next) hm rfl (by omega) (by simp only [Sq,Zf,Zg,pV,Z5,qac]) ?_;rintro t D x kD hN ⟨g2,g3,g6,g8,g9,-⟩;generalize hr:bV ([m.ver,1,m.next,m.segs.length]++dy m.segs)=r at*;have lr:=cd (tb:=af) (t:=9) (l:=r) u9;obtain⟨v,E,⟨ge,hge⟩,kE,y,rfl,hS⟩:=R6 hN hm;have kF:=Kp.alloc E (aa 39 (cr y m));have vF:=az E 39 (cr y m);have hone:∀v∈cr y m,aH v=true:=by
   intro v hv;simp only [cr,ZC,Z0,or_false] at hv;rcases hv with rfl|rfl|rfl|rfl
   ·rfl
   ·rfl
   ·rfl
   ·exact hS.self.2
  have sF:aT af (E.alloc (aa 39 cE)) 39 (pw E.next 0) (.agg ⟨cr y m⟩)= .ok (E.alloc (aa 39 (cr y m))):=a_ C9 rfl rfl (by simp [cE]) hone;generalize E.alloc (aa 39 (cr y m))=F at kF vF sF;obtain⟨G,⟨gg,hgg⟩,kG⟩:=Hp (hS.kp kF) hm;have lF:=pZ vF.2 rfl;have lG:=pZ (vF.kp kG).2 rfl;have kBG:=kD.trans (kE.trans (kF.trans kG));obtain⟨H,sH,vH,nH,fH⟩:=bK (tb:=af) (t:=39) (l':=cr y m) (by exact C9) (vB.kp kBG).2 rfl (by simp [cE]) hone;have lH:=pZ vH rfl;have hSH:=hS.kp (kF.trans kG);simp only [pV] at g2;apply W.q
  ·intro M;simp (disch:=decide+kernel) only [w9,qbj,Aq,Zf,g3,g6,g9,lr,qau];rfl
  apply W.seq;apply W.bf (ge+gg) 20
  ·intro M hM;simp (disch:=omega) only [w9,qbj,Aq,Zf,g2,g8,hge,dv,aj,sF,lF,hgg,lG,sH];rfl
  refine⟨by simp,rfl,_,(by simp only [qbj,g2,lH,Aq,Zf]<;>rfl),⟨by show A.next≤H.next;have:=kB.1;have:=kBG.1;omega,fun z hz=>by show H.get z=A.get z;rw [fH z (by omega),kBG.2 z (by have:=kB.1;omega),kB.2 z hz]⟩,y,rfl,?_⟩;obtain⟨b,hb⟩:=hSH;rcases hb with hb|⟨k,c,q1,q2,q3,q4⟩
  ·exact⟨b,.inl hb⟩
  ·have hne:b≠A.next:=VB.ne (A:=G) ⟨q2,q3⟩ (vB.kp kBG) (by decide)
   exact⟨b,aq.same (.inr ⟨k,c,q1,q2,q3,q4⟩) (by show G.next≤H.next;omega) fun _=>fH b hne⟩
 exact⟨v,A',h1,h2⟩
theorem gh.put {l:List (Nat×Nat×Nat)} {x:Value} {k:Kd} {w:List Value} (h:gh A l x) (v:VB A 39 b k w) (hn:A.next≤A'.next) (hf:∀z,z≠b→A'.get z=A.get z):gh A' l x:=by
 obtain⟨c,hc⟩:=h;rcases hc with hc|⟨k,d,q1,q2,q3,q4⟩
 ·exact⟨c,.inl hc⟩
 ·exact⟨c,aq.same (.inr ⟨k,d,q1,q2,q3,q4⟩) hn fun _=>hf c (VB.ne (A:=A) ⟨q2,q3⟩ v (by decide))⟩
def xx (is:Bool) (m:jc) (E:Mem) (l:List Value):Prop:=l.length=4∧(∀v∈l,aH v=true)∧(is=true→∃y,l=cr y m∧gh E m.segs y)∧(is=false→l=cE)
variable {E F:Mem}
theorem xx.kp {m:jc} {l:List Value} (h:xx is m E l) (k:Kp E F):xx is m F l:=
 ⟨h.1,h.2.1,fun hi=>(h.2.2.1 hi).imp fun y hy=>⟨hy.1,hy.2.kp k⟩,h.2.2.2⟩
theorem xx.put {m:jc} {l:List Value} {k:Kd} {w:List Value} (h:xx is m E l) (v:VB E 39 b k w) (hn:E.next≤F.next) (hf:∀z,z≠b→F.get z=E.get z):xx is m F l:=
 ⟨h.1,h.2.1,fun hi=>(h.2.2.1 hi).imp fun y hy=>⟨hy.1,hy.2.put v hn hf⟩,h.2.2.2⟩
def DA (is:Bool) (m:jc) (s:List UInt8):Prop:=nX m∧(iC m).length<800000∧s.length<900000∧(if is then s=crc.aN (iC m) else(crc.fm s).2=false)
theorem WI {m:jc} {s:List UInt8} (h:DA is m s) (D:Mem):∃l E,bJ af 30 [strOf s] D (.tuple ⟨[.agg ⟨l⟩,.int .i64 (if is then 0 else 16:Nat)]⟩) E∧Kp D E∧xx is m E l:=by
 obtain⟨h1,h2,h3,h4⟩:=h;cases is with
 |true=>
  obtain rfl:s=crc.aN (iC m):=h4;obtain⟨v,E,e1,e2,y,rfl,e3⟩:=O0 (A:=D) h1 h2;refine⟨_,E,e1,e2,rfl,fun v hv=>?_,fun _=>⟨y,rfl,e3⟩,fun h=>by cases h⟩;simp only [cr,ZC,Z0,or_false] at hv;rcases hv with rfl|rfl|rfl|rfl
  ·rfl
  ·rfl
  ·rfl
  ·exact e3.self.2
 |false=>
  obtain⟨E,e1,e2⟩:=C7 (A:=D) h3 h4;exact⟨_,E,e1,e2,rfl,UW,fun h=>(by cases h),fun _=>rfl⟩
theorem U4 {m:jc} {s:List UInt8} (h:DA is m s) (D:Mem):∃l E,bJ af 29 [strOf s] D (.tuple ⟨[.agg ⟨l⟩,.bool is]⟩) E∧Kp D E∧xx is m E l:=by
 have kB:=Kp.alloc D (aa 39 cE);have vB:=az D 39 cE;generalize hB:D.alloc (aa 39 cE)=B at kB vB;obtain⟨l,C,⟨g,hg⟩,kC,hR⟩:=WI h B;have kE:=Kp.alloc C (aa 39 l);have vE:=az C 39 l;have sE:aT af (C.alloc (aa 39 cE)) 39 (.pointer (some ⟨C.next,0,none⟩)) (.agg ⟨l⟩)= .ok (C.alloc (aa 39 l)):=a_ (by rw [hR.1];exact C9) rfl (by rw [hR.1];rfl) (by simp [cE]) hR.2.1;generalize hE:C.alloc (aa 39 l)=E at kE vE sE;have lE:=pZ vE.2 hR.1;have wE:=vB.kp (kC.trans kE);obtain⟨F,sF,vF,nF,fF⟩:=bK (tb:=af) (t:=39) (l':=l) (by exact C9) wE.2 (by rw [hR.1];rfl) (by simp [cE]) hR.2.1;have lF:=pZ vF hR.1;have nC:=kC.1;refine⟨l,F,?_,⟨by have:=kB.1;have:=kE.1;omega,fun z hz=>by rw [fF z (by omega),kE.2 z (by have:=kB.1;omega),kC.2 z (by have:=kB.1;omega),kB.2 z hz]⟩,(hR.kp kE).put wE (by omega) fF⟩;cases is with
 |true=>
  refine aP (av Tryz.func29) (c:=Tryz.f29.body.getD .skip) (by kernel_rfl) (by rw [Tryz.ntmps29];simp) (by kernel_rfl) (by kernel_rfl) ?_;apply W.bf (g) 60
  ·intro M hM;simp (disch:=first|decide+kernel|omega) only [Tryz.f29,Aq,Zf,dv,aj,hB,hg,Zm,Zk,sE,lE,sF,lF];rfl
  exact⟨by simp,rfl,rfl,by simp only [Tryz.f29,Aq,Zf,dv,aj,hB,hg,Zm,Zk,sE,lE,sF,lF]<;>rfl⟩
 |false=>
  refine aP (av Tryz.func29) (c:=Tryz.f29.body.getD .skip) (by kernel_rfl) (by rw [Tryz.ntmps29];simp) (by kernel_rfl) (by kernel_rfl) ?_;apply W.bf (g) 60
  ·intro M hM;simp (disch:=first|decide+kernel|omega) only [Tryz.f29,Aq,Zf,dv,aj,hB,hg,Zm,Zk,sE,lE,sF,lF];rfl
  exact⟨by simp,rfl,rfl,by simp only [Tryz.f29,Aq,Zf,dv,aj,hB,hg,Zm,Zk,sE,lE,sF,lF]<;>rfl⟩
theorem U8 {k0:Nat} {s:List UInt8} {m:jc} (h:fV A p fs) (hw:fileOf fs w=some s) (hm:DA is m s)
 (v0:VB A 44 k0 (.var 1) [pw p 0]) (v1:VB A 9 (k0+1) (.var 1) [strOf w]) (v2:VB A 85 (k0+2) (.var 1) [.func (.func 29) ⟨[]⟩ ⟨[]⟩]) (q:Nat) (v3:VB A 3 q (.var 1) [.int .i64 (s.length:Nat)]):
 ∃l E,bJ af 74 [pw k0 0,pw (k0+1) 0,pw q 0,pw (k0+2) 0] A (.tuple ⟨[.agg ⟨l⟩,.bool is]⟩) E∧Kp A E∧xx is m E l:=by
 have kB:=Kp.alloc A (aa 39 cE);have vB:=az A 39 cE;generalize hB:A.alloc (aa 39 cE)=B at kB vB;obtain⟨g1,h1⟩:=wh (h.kp kB) hw (by have:=hm.2.2.1;omega);obtain⟨l,E,⟨g2,h2⟩,kE,hR⟩:=U4 hm B;have l0:=N8 (v0.kp kB);have l1:ai af B.get 9 (pw (k0+1) 0)= .ok (strOf w):=(v1.kp kB).ld rfl u9 rfl;have l2:ai af B.get 85 (pw (k0+2) 0)= .ok (.func (.func 29) ⟨[]⟩ ⟨[]⟩):=by
  obtain⟨d,hd1,hd2⟩:=bg (t:=85) (p:=false) (by kernel_rfl);exact(v2.kp kB).ld rfl hd1 hd2
 have l3:ai af B.get 3 (pw q 0)= .ok (.int .i64 (s.length:Nat)):=(v3.kp kB).ld rfl u3 rfl;have wE:=vB.kp kE;obtain⟨F,sF,vF,nF,fF⟩:=bK (tb:=af) (t:=39) (l':=l) (by exact C9) wE.2 (by rw [hR.1];rfl) (by simp [cE]) hR.2.1;have lF:=pZ vF hR.1;refine⟨l,F,?_,⟨by have:=kB.1;have:=kE.1;omega,fun z hz=>by rw [fF z (by omega),kE.2 z (by have:=kB.1;omega),kB.2 z hz]⟩,hR.put wE (by omega) fF⟩;refine aP (av Tryz.func74) (c:=Tryz.f74.body.getD .skip) (by kernel_rfl) (by rw [Tryz.ntmps74];simp) (by kernel_rfl) (by kernel_rfl) ?_;apply W.bf (g1+g2) 60
 ·intro M hM;simp (disch:=first|decide+kernel|omega) only [Tryz.f74,Aq,Zf,dv,aj,hB,l0,l1,l2,l3,h1,h2,Zm,Zk,sF,lF];rfl
 exact⟨by simp,rfl,rfl,by simp only [Tryz.f74,Aq,Zf,dv,aj,hB,l0,l1,l2,l3,h1,h2,Zm,Zk,sF,lF]<;>rfl⟩
theorem U5 {s:List UInt8} {n:Value} {m:jc} (h:fV A p fs) (hw:fileOf fs w=some s) (hm:DA is m s):
 ∃l E,bJ af 31 [.pointer (some ⟨p,0,none⟩),strOf w,.func (.func 29) ⟨[]⟩ ⟨[]⟩,n] A (.tuple ⟨[.agg ⟨l⟩,.int .i64 (if is then 0 else 12:Nat)]⟩) E∧Kp A E∧xx is m E l:=by
 generalize hk:A.next=k0
 obtain⟨n1,n2,D,hD,n3,kD,w0,w1,w2⟩:=rK (A:=A) (p:=p) (w:=w) (f:=.func (.func 29) ⟨[]⟩ ⟨[]⟩) (t:=85) hk;have kG:=Kp.alloc D (aa 39 cE);have w4:=az D 39 cE;have n4:(D.alloc (aa 39 cE)).next=k0+4:=by rw [ae,n3]
 rw [n3] at w4;generalize hG:D.alloc (aa 39 cE)=G at kG w4 n4;have kE:=Kp.alloc G (aa 3 [.int .i64 (s.length:Nat)]);have w3:=az G 3 [.int .i64 (s.length:Nat)];have sE:aT af (G.alloc (aa 3 [.int .i64 (0:Nat)])) 3 (.pointer (some ⟨G.next,0,none⟩)) (.int .i64 (s.length:Nat))= .ok (G.alloc (aa 3 [.int .i64 (s.length:Nat)])):=da P6 rfl rfl (by simp);rw [n4] at sE w3;generalize hE:G.alloc (aa 3 [.int .i64 (s.length:Nat)])=E at*;have hGd:=h.kp (kD.trans kG);obtain⟨gd,hgd⟩:=t_ hGd;obtain⟨gs,hgs⟩:=zg (w:=w) hGd;rw [hw] at hgs;simp only [qal,qbW,if_true] at hgs;have l0:=N8 (w0.kp kG);have l1:ai af G.get 9 (.pointer (some ⟨k0+1,0,none⟩))= .ok (strOf w):=(w1.kp kG).ld rfl u9 rfl;have e44:wH af G.get .eql 44 (.tmp 16) (.const (.pointer none)) (.pointer (some ⟨p,0,none⟩)) (.pointer none)= .ok (.bool false):=Cp;have kDE:=kG.trans kE;obtain⟨l,F,⟨gm,hgm⟩,kF,hR⟩:=U8 (h.kp (kD.trans kDE)) hw hm (w0.kp kDE) (w1.kp kDE) (w2.kp kDE) (k0+4) w3;have kH:=Kp.alloc F (aa 39 l);have vH:=az F 39 l;have sH:aT af (F.alloc (aa 39 cE)) 39 (.pointer (some ⟨F.next,0,none⟩)) (.agg ⟨l⟩)= .ok (F.alloc (aa 39 l)):=a_ (by rw [hR.1];exact C9) rfl (by rw [hR.1];rfl) (by simp [cE]) hR.2.1;generalize hH:F.alloc (aa 39 l)=H at kH vH sH;have lH:=pZ vH.2 hR.1;have w5:=w4.kp (kE.trans (kF.trans kH));have l8:=pZ w5.2 rfl;have nF:=kF.1;obtain⟨I,sI,vI,nI,fI⟩:=bK (tb:=af) (t:=39) (l':=l) (by exact C9) w5.2 (by rw [hR.1];rfl) (by simp [cE]) hR.2.1;have lI:=pZ vI hR.1;have kAI:Kp A I:=⟨by have:=kD.1;have:=kDE.1;have:=kH.1;omega,fun z hz=>by
  have:=kD.1;have:=kDE.1;rw [fI z (by omega),kH.2 z (by omega),kF.2 z (by omega),kDE.2 z (by omega),kD.2 z hz]⟩
 refine⟨l,I,?_,kAI,(hR.kp kH).put w5 (by omega) fI⟩;cases is with
 |true=>
  simp only [if_true];refine aP (av Tryz.func31) (c:=Tryz.f31.body.getD .skip) (by kernel_rfl) (by rw [Tryz.ntmps31];simp) (by kernel_rfl) (by kernel_rfl) ?_;apply W.bf (gd+gs+gm) 60
  ·intro M hM;simp (config:={maxSteps:=4000000}) (disch:=first|decide+kernel|omega|simp only [Wq,Zf]) only [Tryz.f31,Aq,Zj,reduceIte,Zf,Zg,aQ,bU,dx,cF,hk,n1,n2,hD,n3,dv,aj,hG,l0,bk,e44,hgd,l1,hgs,Zm,Zk,gv,n4,sE,aM,hgm,sH,lH,sI,lI];rfl
  exact⟨by simp,rfl,rfl,by simp only [Tryz.f31,Aq,Zj,reduceIte,Zf,Zg,aQ,bU,dx,cF,hk,n1,n2,hD,n3,dv,aj,hG,l0,bk,e44,hgd,l1,hgs,Zm,Zk,gv,n4,sE,aM,hgm,sH,lH,sI,lI]<;>rfl⟩
 |false=>
  have e0:=hR.2.2.2 rfl;rw [←e0] at l8;simp only [Zz,if_false];refine aP (av Tryz.func31) (c:=Tryz.f31.body.getD .skip) (by kernel_rfl) (by rw [Tryz.ntmps31];simp) (by kernel_rfl) (by kernel_rfl) ?_;apply W.bf (gd+gs+gm) 60
  ·intro M hM;simp (config:={maxSteps:=4000000}) (disch:=first|decide+kernel|omega|simp only [Wq,Zf]) only [Tryz.f31,Aq,Zj,reduceIte,Zf,Zg,aQ,bU,dx,cF,hk,n1,n2,hD,n3,dv,aj,hG,l0,bk,e44,hgd,l1,hgs,Zm,Zk,gv,n4,sE,aM,hgm,sH,l8,sI,lI];rfl
  exact⟨by simp,rfl,rfl,by simp only [Tryz.f31,Aq,Zj,reduceIte,Zf,Zg,aQ,bU,dx,cF,hk,n1,n2,hD,n3,dv,aj,hG,l0,bk,e44,hgd,l1,hgs,Zm,Zk,gv,n4,sE,aM,hgm,sH,l8,sI,lI]<;>rfl⟩
theorem U3 {s:List UInt8} {m:jc} (h:fV A p fs) (hw:fileOf fs m8=some s) (hm:DA is m s):
 ∃l E,bJ af 11 [pw p 0] A (.tuple ⟨[.agg ⟨l⟩,.int .i64 (if is then 0 else 12:Nat)]⟩) E∧Kp A E∧xx is m E l:=by
 have kB:=Kp.alloc A (aa 39 cE);have vB:=az A 39 cE;generalize hB:A.alloc (aa 39 cE)=B at kB vB;have kn:=fun ih A=>X8 (ih:=ih) (A:=A)
 obtain⟨l,E,⟨g,hg⟩,kE,hR⟩:=U5 (n:=.func (.func 33) ⟨[]⟩ ⟨[]⟩) (h.kp kB) hw hm;have wE:=vB.kp kE;obtain⟨F,sF,vF,nF,fF⟩:=bK (tb:=af) (t:=39) (l':=l) (by exact C9) wE.2 (by rw [hR.1];rfl) (by simp [cE]) hR.2.1;have lF:=pZ vF hR.1;refine⟨l,F,?_,⟨by have:=kB.1;have:=kE.1;omega,fun z hz=>by rw [fF z (by omega),kE.2 z (by have:=kB.1;omega),kB.2 z hz]⟩,hR.put wE (by omega) fF⟩;refine aP (av Tryz.func11) (c:=Tryz.f11.body.getD .skip) (by kernel_rfl) (by rw [Tryz.ntmps11];simp) (by kernel_rfl) (by kernel_rfl) ?_;apply W.bf (g) 60
 ·intro M hM;simp (disch:=omega) only [Tryz.f11,Aq,Zf,dv,aj,hB,jN,kn,hg,Zm,Zk,sF,lF];rfl
 exact⟨by simp,rfl,rfl,by simp only [Tryz.f11,Aq,Zf,dv,aj,hB,jN,kn,hg,Zm,Zk,sF,lF]<;>rfl⟩
theorem Xv:af.bp 40=some (.slice 54):=by kernel_rfl
theorem YH:cg af 54= .ok (1,[.pointer none]):=by kernel_rfl
theorem Yx:∃i,af.ty.get 54=some i∧0<i.bytes∧i.bytes≤65536:=by
 have h:((af.ty.get 54).map fun i=>i.bytes)=some 8:=by kernel_rfl
 cases hq:af.ty.get 54 with
 |none=>rw [hq] at h;cases h
 |some i=>
  rw [hq] at h;have:i.bytes=8:=by simpa using h
  exact⟨i,rfl,by omega,by omega⟩
theorem XZ:a9 af 40 1 [(0,pw p 0)]= .ok (aa 54 [pw p 0],.nO 1 2):=by kernel_rfl
def gW (A:Mem) (ls:List (List aG)) (x:Value):Prop:=∃b xs,nZ A 54 b xs x∧xs.length=ls.length∧∀(i:Nat) (l:List aG),ls[i]?=some l→∃v,xs[i]?=some v∧iO A l v
theorem gW.kp {x:Value} (h:gW A ls x) (k:Kp A A'):gW A' ls x:=by
 obtain⟨b,xs,h1,h2,h3⟩:=h;exact⟨b,xs,h1.same k.1 (k.2 b),h2,fun i l hl=>(h3 i l hl).imp fun v hv=>⟨hv.1,hv.2.kp k⟩⟩
theorem gW.len {x:Value} (h:gW A ls x):aL af .len [40] [x]= .ok (.int .i64 (ls.length:Nat)):=by
 obtain⟨b,xs,h1,h2,-⟩:=h;rw [←h2];exact h1.len Xv
theorem iO.L6 {k:Kd} {w:List Value} (h:iO A l v) (hv:VB A 54 r k w) (K:wU r A A'):iO A' l v:=by
 obtain⟨p,y,h1,h2,b,rows,h3,h4,h5⟩:=h;have hne:p≠r:=VB.ne h2 hv (by decide);refine⟨p,y,h1,⟨by have:=h2.1;have:=K.1;omega,h2.2.same (K.2 p h2.1 hne)⟩,b,rows,aq.L6 h3 hv (by decide) K,h4,fun i s hs=>?_⟩;obtain⟨x,e1,c,e2⟩:=h5 i s hs;exact⟨x,e1,c,aq.L6 e2 hv (by decide) K⟩
def XT (fs:List (List UInt8×List UInt8)) (ls:List (List aG)) (j:Option Nat):Prop:=∀(i:Nat) (l:List aG),ls[i]?=some l→wo l∧∃s,fileOf fs (eF (ls.length-i))=some s∧s.length=(crc.aN (cX l)).length∧(if j=some i then(crc.fm s).2=false else s=crc.aN (cX l))
noncomputable def c7:Code:=qb6.body.getD .skip
noncomputable def MJ:Code:=sub c7 [1,0,1,1,1,0,1,0,0]
theorem Wz:qb6.body=some (.seq (sub c7 [0]) (.scope (.seq (sub c7 [1,0,0]) (.seq (sub c7 [1,0,1,0]) (.seq (sub c7 [1,0,1,1,0]) (.seq (.seq (sub c7 [1,0,1,1,1,0,0]) (.block 0 (.loop MJ))) (.seq (sub c7 [1,0,1,1,1,1,0]) (.seq (sub c7 [1,0,1,1,1,1,1,0]) (sub c7 [1,0,1,1,1,1,1,1]))))))))):=by kernel_rfl
def Xw (ls:List (List aG)) (j:Option Nat):Nat:=match j with
 |none=>ls.length
 |some i=>min i ls.length
theorem JW:bO af 58= .ok (.agg ⟨[.int .i64 (0:Nat),.int .i64 (0:Nat),.int .i64 (0:Nat)]⟩):=P5
theorem gW.put {x:Value} {k:Kd} {w:List Value} (h:gW A ls x) (hv:VB A 39 b k w) (hn:A.next≤A'.next) (hf:∀z,z≠b→A'.get z=A.get z):gW A' ls x:=by
 obtain⟨c,xs,h1,h2,h3⟩:=h;have K:wU b A A':=⟨hn,fun z _ h=>hf z h⟩;refine⟨c,xs,?_,h2,fun i l hl=>?_⟩
 ·rcases h1 with h1|⟨k',d,q1,q2,q3,q4⟩
  ·exact .inl h1
  ·exact nZ.same (.inr ⟨k',d,q1,q2,q3,q4⟩) hn fun _=>hf c (VB.ne (A:=A) ⟨q2,q3⟩ hv (by decide))
 ·obtain⟨v,e1,p,y,f1,f2,c2,rows,f3,f4,f5⟩:=h3 i l hl;refine⟨v,e1,p,y,f1,⟨by have:=f2.1;omega,f2.2.same (hf p (VB.ne f2 hv (by decide)))⟩,c2,rows,aq.L6 f3 hv (by decide) K,f4,fun i s hs=>?_⟩;obtain⟨x,g1,c3,g2⟩:=f5 i s hs;exact⟨x,g1,c3,aq.L6 g2 hv (by decide) K⟩
def Ao (fs:List (List UInt8×List UInt8)) (w:List UInt8) (o:Option (List aG)):Prop:=match o with
 |none=>fileOf fs w=none
 |some l=>wo l∧fileOf fs w=some (crc.aN (cX l))
def qM (l:List aG) (o:Option (List aG)):Bool:=match o with
 |none=>false
 |some l'=>decide ((crc.aN (cX l')).length=(crc.aN (cX l)).length∧l'.length=l.length)
theorem RQ {q e:Nat} {n:Value} (h:wo l) (v:VB A 58 q (.var 3) [n,.int .i64 e,.int .i64 b]):
 ∃w A',bJ af 35 [strOf (crc.aN (cX l)),pV q] A w A'∧Kp A A'∧∃x,w= .tuple ⟨[x,.bool (decide ((crc.aN (cX l)).length=b∧l.length=e))]⟩∧(decide ((crc.aN (cX l)).length=b∧l.length=e)=true→iO A' l x):=by
 have ll:=cd (tb:=af) (t:=9) (l:=crc.aN (cX l)) u9;have l1:ai af A.get 3 (pw q (0+2))= .ok (.int .i64 b):=v.ld rfl u3 rfl;by_cases hb:(crc.aN (cX l)).length=b
 ·obtain⟨v1,B,⟨g,hg⟩,kB,x,rfl,hx⟩:=zf (A:=A) h;obtain⟨g2,hg2⟩:=Fh hx;have l2:ai af B.get 3 (pw q (0+1))= .ok (.int .i64 e):=(v.kp kB).ld rfl u3 rfl;have sl:=dP .i64 e rfl;refine⟨_,B,?_,kB,x,rfl,fun _=>hx⟩;simp only [pV];by_cases he:l.length=e
  ·rw [decide_eq_true ⟨hb,he⟩];rw [hb] at ll;rw [he] at hg2;refine aP (av Tryz.func35) (c:=qdm.body.getD .skip) (by kernel_rfl) (by rw [Tryz.ntmps35];simp) (by kernel_rfl) (by kernel_rfl) ?_;apply W.bf (g+g2) 60
   ·intro M hM;simp (config:={maxSteps:=4000000}) (disch:=first|decide+kernel|omega|simp only [Wq,Zf]) only [qdm,Aq,Zj,reduceIte,Zf,Zg,ll,vz,qi,l1,hg,hg2,l2,sl,Zm,Zk,aQ,Fq,au [(7,5)]];rfl
   exact⟨by simp,rfl,rfl,by simp only [qdm,Aq,Zj,reduceIte,Zf,Zg,ll,vz,qi,l1,hg,hg2,l2,sl,Zm,Zk,aQ,Fq,au [(7,5)]]<;>rfl⟩
  ·rw [decide_eq_false (fun hh=>he hh.2)];rw [hb] at ll;refine aP (av Tryz.func35) (c:=qdm.body.getD .skip) (by kernel_rfl) (by rw [Tryz.ntmps35];simp) (by kernel_rfl) (by kernel_rfl) ?_;apply W.bf (g+g2) 60
   ·intro M hM;simp (config:={maxSteps:=4000000}) (disch:=first|decide+kernel|omega|simp only [Wq,Zf]) only [qdm,Aq,Zj,reduceIte,Zf,Zg,ll,he,vz,qi,l1,hg,hg2,l2,sl,Zm,Zk,aQ,Fq,au [(7,5)]];rfl
   exact⟨by simp,rfl,rfl,by simp only [qdm,Aq,Zj,reduceIte,Zf,Zg,ll,he,vz,qi,l1,hg,hg2,l2,sl,Zm,Zk,aQ,Fq,au [(7,5)]]<;>rfl⟩
 ·refine⟨_,A,?_,Kp.refl A,.pointer none,rfl,fun hh=>absurd (of_decide_eq_true hh).1 hb⟩;rw [decide_eq_false (fun hh=>hb hh.1)];simp only [pV];refine aP (av Tryz.func35) (c:=qdm.body.getD .skip) (by kernel_rfl) (by rw [Tryz.ntmps35];simp) (by kernel_rfl) (by kernel_rfl) ?_;apply W.run 60
  ·intro M;simp (disch:=decide+kernel) only [qdm,Aq,Zf,ll,hb,qi,l1,aQ];rfl
  exact⟨by simp,rfl,rfl,by simp only [qdm,Aq,Zf,ll,hb,qi,l1,aQ]<;>rfl⟩
theorem U7:bJ af 38 [] A (.tuple ⟨[.pointer none,.bool false]⟩) A:=by
 refine aP (av Tryz.func38) (c:=Tryz.f38.body.getD .skip) (by kernel_rfl) (by rw [Tryz.ntmps38];simp) (by kernel_rfl) (by kernel_rfl) ?_;apply W.run 60
 ·intro M;simp (disch:=omega) only [Tryz.f38,Aq,Zf,aQ];rfl
 exact⟨by simp,rfl,rfl,by simp only [Tryz.f38,Aq,Zf,aQ]<;>rfl⟩
theorem RR {q:Nat} (h:fV A p fs) (hw:fileOf fs w=none):
 ∃E,bJ af 37 [pw p 0,strOf w,.func (.func 35) ⟨[]⟩ ⟨[pw q 0]⟩,.func (.func 38) ⟨[]⟩ ⟨[]⟩] A (.tuple ⟨[.pointer none,.int .i64 (12:Nat)]⟩) E∧Kp A E:=by
 generalize hk:A.next=k0
 obtain⟨n1,n2,D,hD,n3,kD,w0,w1,w2⟩:=rK (A:=A) (p:=p) (w:=w) (f:=.func (.func 35) ⟨[]⟩ ⟨[pw q 0]⟩) (t:=90) hk;have kE:=Kp.alloc D (aa 3 [.int .i64 (0:Nat)]);have sE:aT af (D.alloc (aa 3 [.int .i64 (0:Nat)])) 3 (pw D.next 0) (.int .i64 (0:Nat))= .ok (D.alloc (aa 3 [.int .i64 (0:Nat)])):=da P6 rfl rfl (by simp);rw [n3] at sE;generalize hE:D.alloc (aa 3 [.int .i64 (0:Nat)])=E at*;obtain⟨gd,hgd⟩:=t_ (h.kp kD);obtain⟨gs,hgs⟩:=zg (w:=w) (h.kp kD);rw [hw] at hgs;simp only [Option.getD_none,qaB,Zz,if_false,ZG] at hgs;have l0:=N8 w0;have l1:ai af D.get 9 (pw (k0+1) 0)= .ok (strOf w):=w1.ld rfl u9 rfl;have e44:wH af D.get .eql 44 (.tmp 16) (.const (.pointer none)) (pw p 0) (.pointer none)= .ok (.bool false):=Cp;obtain⟨gn,hgn⟩:=U7 (A:=E);refine⟨E,?_,kD.trans kE⟩;refine aP (av Tryz.func37) (c:=qdn.body.getD .skip) (by kernel_rfl) (by rw [Tryz.ntmps37];simp) (by kernel_rfl) (by kernel_rfl) ?_;apply W.bf (gd+gs+gn) 60
 ·intro M hM;simp (config:={maxSteps:=4000000}) (disch:=first|decide+kernel|omega|simp only [Wq,Zf]) only [qdn,Aq,Zj,reduceIte,Zf,Zg,aQ,bU,dx,cF,hk,n1,n2,hD,l0,bk,e44,hgd,l1,hgs,Zm,Zk,gv,dc,n3,hE,sE,aM,hgn];rfl
 exact⟨by simp,rfl,rfl,by simp only [qdn,Aq,Zj,reduceIte,Zf,Zg,aQ,bU,dx,cF,hk,n1,n2,hD,l0,bk,e44,hgd,l1,hgs,Zm,Zk,gv,dc,n3,hE,sE,aM,hgn]<;>rfl⟩
theorem Jq {o:Option (List aG)} (h:fV A p fs) (hn:1≤n∧n≤6) (hw:Ao fs (eF n) o):
 ∃v E,bJ af 13 [.pointer (some ⟨p,0,none⟩),.agg ⟨dF (wQ n l)⟩] A v E∧Kp A E∧∃x,v=(if qM l o=true then .tuple ⟨[x,.int .i64 (0:Nat)]⟩ else .tuple ⟨[.pointer none,.int .i64 (12:Nat)]⟩)∧(qM l o=true→∃l',o=some l'∧iO E l' x):=by
 have kB:=Kp.alloc A (aa 58 (dF (wQ n l)));have vB:=az A 58 (dF (wQ n l));generalize hB:A.alloc (aa 58 (dF (wQ n l)))=B at kB vB;have l0:ai af B.get 3 (.pointer (some ⟨A.next,0,none⟩))= .ok (.int .i64 n):=vB.ld rfl u3 rfl;have kn:=fun ih A=>(WX (ih:=ih) (A:=A) hn).1
 cases o with
 |none=>
  obtain⟨E,⟨g,hg⟩,kE⟩:=RR (q:=A.next) (h.kp kB) hw;refine⟨_,E,?_,kB.trans kE,.pointer none,rfl,fun h=>by cases h⟩;show bJ af 13 _ A (.tuple ⟨[.pointer none,.int .i64 (12:Nat)]⟩) E;refine aP (av Tryz.func13) (c:=qde.body.getD .skip) (by kernel_rfl) (by rw [Tryz.ntmps13];simp) (by kernel_rfl) (by kernel_rfl) ?_;apply W.bf (g) 60
  ·intro M hM;simp (disch:=omega) only [qde,Aq,Zf,aQ,aj,hB,aM,oE,l0,kn,jN,hg,Zm,Zk];rfl
  exact⟨by simp,rfl,rfl,by simp only [qde,Aq,Zf,aQ,aj,hB,aM,oE,l0,kn,jN,hg,Zm,Zk]<;>rfl⟩
 |some l'=>
  obtain⟨hok,hf⟩:=hw;have hdl:(cX l').length<800000:=hok.2.2.2.2.2.2.2.2;have hlen:=te (cX l');obtain⟨v,E,⟨g,hg⟩,kE,x,hx,rfl⟩:=U6 (q:=A.next) (n:=.func (.func 38) ⟨[]⟩ ⟨[]⟩) (is:=qM l (some l')) (P:=fun E x=>qM l (some l')=true→iO E l' x) (h.kp kB) hf (by omega) (fun D kD=>by
   obtain⟨w,E,h1,h2,x,h3,h4⟩:=RQ (A:=D) (n:=.int .i64 n) hok (vB.kp kD);exact⟨w,E,h1,h2,x,h3,h4⟩)
  refine⟨_,E,?_,kB.trans kE,x,rfl,fun hf=>⟨l',rfl,hx hf⟩⟩;cases hfit:qM l (some l') with
  |true=>
   rw [hfit] at hg;simp only [if_true] at hg⊢;refine aP (av Tryz.func13) (c:=qde.body.getD .skip) (by kernel_rfl) (by rw [Tryz.ntmps13];simp) (by kernel_rfl) (by kernel_rfl) ?_;apply W.bf (g) 60
   ·intro M hM;simp (disch:=omega) only [qde,Aq,Zf,aQ,aj,hB,aM,oE,l0,kn,jN,hg,Zm,Zk];rfl
   exact⟨by simp,rfl,rfl,by simp only [qde,Aq,Zf,aQ,aj,hB,aM,oE,l0,kn,jN,hg,Zm,Zk]<;>rfl⟩
  |false=>
   rw [hfit] at hg;simp only [Zz,if_false] at hg⊢;refine aP (av Tryz.func13) (c:=qde.body.getD .skip) (by kernel_rfl) (by rw [Tryz.ntmps13];simp) (by kernel_rfl) (by kernel_rfl) ?_;apply W.bf (g) 60
   ·intro M hM;simp (disch:=omega) only [qde,Aq,Zf,aQ,aj,hB,aM,oE,l0,kn,jN,hg,Zm,Zk];rfl
   exact⟨by simp,rfl,rfl,by simp only [qde,Aq,Zf,aQ,aj,hB,aM,oE,l0,kn,jN,hg,Zm,Zk]<;>rfl⟩
theorem J4 {ms:List (List aG)} {os:Nat→Option (List aG)} {u:Nat} {K:Ex→St→Prop} {v2 v5:Value} (h:fV C p fs) (hF:∀(i:Nat) (l:List aG),ls[i]?=some l→Ao fs (eF (ls.length-i)) (os i)) (hu:u≤ls.length) (hg:∀(i:Nat) (l:List aG),i<u→ls[i]?=some l→qM l (os i)=true) (hb0:∀l:List aG,ls[u]?=some l→qM l (os u)=false) (hml:ms.length=ls.length) (hm:∀(i:Nat) (l:List aG),i<u→ms[i]?=some l→os i=some l) (hls:ls.length≤6) (hy:gh C (cV ls) y)
 (hs:Sl t [(0,pw p 0),(2,v2),(5,v5),(6,.int .i64 (0:Nat)),(7,.slice none 0 0),(17,y),(18,.int .i64 ls.length),(19,.int .i64 (0:Nat))])
 (hK:∀t D x,Kp C D→(u=ls.length→gW D ms x)→Sl t [(2,v2),(5,v5),(6,.int .i64 (if u=ls.length then 0 else 12:Nat)),(7,x)]→K (.exit 0) ⟨t,42,[],D,none⟩):
 W af (.loop MJ) ⟨t,42,[],C,none⟩ K:=by
 refine W.up (u) (fun i t D=>(∃b xs x,nZ D 54 b xs x∧xs.length=i∧C.next≤b∧(∀(k:Nat) (l:List aG),k<i→ms[k]?=some l→∃v,xs[k]?=some v∧iO D l v)∧Sl t [(7,x)])∧Kp C D∧Sl t [(0,pw p 0),(2,v2),(5,v5),(6,.int .i64 (0:Nat)),(17,y),(18,.int .i64 ls.length),(19,.int .i64 i)]) ?_ (Zv _) ⟨⟨C.next,[],.slice none 0 0,.inl ⟨rfl,rfl⟩,rfl,Zn _,fun k l hk=>absurd hk (qaS _),?_⟩,Kp.refl _,?_⟩
 ·rintro i t D hi ⟨⟨b,xs,x,hS,hxl,hb,hX,g7,-⟩,kD,g0,g2,g5,g6,g17,g18,g19,-⟩;by_cases hlt:i<ls.length
  ·have hli:ls[i]?=some ls[i]:=Zi hlt;have hfi:=hF i _ hli;obtain⟨b0,o0,j1,j2,-⟩:=(hy.kp kD).at (gS hli);have sE:aT af (D.alloc (aa 58 [.int .i64 (0:Nat),.int .i64 (0:Nat),.int .i64 (0:Nat)])) 58 (pw D.next 0) (.agg ⟨dF (wQ (ls.length-i) ls[i])⟩)= .ok (D.alloc (aa 58 (dF (wQ (ls.length-i) ls[i])))):=a_ (by exact Xz) rfl rfl (by simp) (by simp [dF,aH]);have kE:=Kp.alloc D (aa 58 (dF (wQ (ls.length-i) ls[i])));have vE:=az D 58 (dF (wQ (ls.length-i) ls[i]));have j2:ai af D.get 58 (pw b0 o0)= .ok (.agg ⟨dF (wQ (ls.length-i) ls[i])⟩):=j2;generalize hEe:D.alloc (aa 58 (dF (wQ (ls.length-i) ls[i])))=E at kE vE sE;have lE:ai af E.get 58 (pw D.next 0)= .ok (.agg ⟨dF (wQ (ls.length-i) ls[i])⟩):=by
    obtain⟨d,hd1,hd2⟩:=bg (t:=58) (p:=true) (by kernel_rfl);exact aI hd1 hd2 (l:=dF (wQ (ls.length-i) ls[i])) Xz vE.2
   obtain⟨v,F,⟨g,hg1⟩,kF,z,rfl,hz⟩:=Jq (l:=ls[i]) (h.kp (kD.trans kE)) (n:=ls.length-i) (by omega) hfi;by_cases hji:i=u
   ·subst hji;rw [hb0 _ hli] at hg1;simp only [Zz,if_false] at hg1;apply W.bf (g) 20
    ·intro M hM;simp (disch:=first|decide+kernel|omega) only [MJ,c7,qb6,Aq,Zf,g0,g17,g18,g19,hlt,j1,j2,JW,aj,sE,aQ,lE,hg1,Zm,Zk,show Zr 0 1=false from rfl];rfl
    refine hK _ _ x (kD.trans (kE.trans kF)) (fun e=>by omega) ?_;rw [if_neg (by omega)];simp only [Sq,Zf,Zg,g2,g5,g7]
   ·have hlu:i<u:=by omega
    rw [hg i _ hlu hli] at hg1 hz;simp only [if_true] at hg1;obtain⟨l',hol,hzz⟩:=hz rfl;obtain⟨pz,yz,hzp,-⟩:=id hzz;rw [hzp] at hg1;simp only [pV] at hg1;obtain⟨ti,t1,t2,t3⟩:=Yx;have kEF:=kE.trans kF;have hSF:=hS.same kEF.1 (kEF.2 b);have hbx:∃b2,nZ F 54 b2 xs x∧C.next≤b2∧∀(G:Mem),F.next≤G.next→(∀z,z≠b2→z<F.next→G.get z=F.get z)→∀(l:List aG) v,iO F l v→iO G l v:=by
     rcases hSF with⟨h1,h2⟩|⟨k,c,q1,q2,q3,q4⟩
     ·exact⟨F.next,.inl ⟨h1,h2⟩,by have:=kD.1;have:=kEF.1;omega,fun G hn hf l v hv=>hv.kp ⟨hn,fun z hz=>hf z (by omega) hz⟩⟩
     ·exact⟨b,.inr ⟨k,c,q1,q2,q3,q4⟩,hb,fun G hn hf l v hv=>hv.L6 ⟨q2,q3⟩ ⟨hn,fun z hz h=>hf z h hz⟩⟩
    obtain⟨b2,hSF2,hb2,hkeep⟩:=hbx;have kG:=Kp.alloc F (aa 54 [z]);have nG1:(F.alloc (aa 54 [z])).next=F.next+1:=ae _ _
    obtain⟨x',G,happ,hS',nG,fG⟩:=(hSF2.same kG.1 (kG.2 b2)).append (tb:=af) (st:=40) (xt:=40) Xv Xv YH t1 t2 t3 (by omega) (ay F _) (by rw [hzp];rfl);rw [nG1] at nG fG hS';rw [hzp] at happ;simp only [pV] at happ;have a1:aK .add .i64 ((i:Nat):Int) ((1:Nat):Int)= .ok (.int .i64 (i+1:Nat)):=a8 (aR (by omega));have fGF:∀w,w≠b2→w<F.next→G.get w=F.get w:=fun w h1 h2=>by rw [fG w h1 (by omega),kG.2 w h2]
    have nF:=kEF.1;have nD:=kD.1;apply W.bf (g) 20
    ·intro M hM;simp (disch:=first|decide+kernel|omega) only [MJ,c7,qb6,Aq,Zf,g0,g7,g17,g18,g19,hlt,j1,j2,JW,aj,sE,aQ,lE,hg1,Zm,Zk,XZ,happ,a1];rfl
    refine⟨hlu,_,_,rfl,⟨F.next+1,xs++[z],x',hS',by rw [Zo,hxl];rfl,by omega,fun k l hk hkl=>?_,?_⟩,⟨by omega,fun w hw=>?_⟩,?_⟩
    ·rcases ZS k i with hki|hki
     ·obtain⟨v,e1,e2⟩:=hX k l hki hkl;exact⟨v,by rw [ZU (by omega)];exact e1,hkeep G (by omega) fGF l v (e2.kp kEF)⟩
     ·have:k=i:=by omega
      subst this;obtain rfl:l'=l:=Z_ (hol.symm.trans (hm k l hlu hkl));exact⟨z,by rw [ZN (by omega),hxl,qaz];rfl,hkeep G (by omega) fGF _ _ hzz⟩
    ·simp only [Sq,Zf,Zg]
    ·rw [fGF w (by omega) (by omega),kEF.2 w (by omega),kD.2 w hw]
    ·simp only [Sq,Zf,Zg,g0,g2,g5,g17,g18]
  ·have e:i=ls.length:=by omega
   subst e;have hue:u=ls.length:=by omega
   apply W.run 20
   ·intro M;simp (disch:=decide+kernel) only [MJ,c7,qb6,Aq,Zf,g18,g19,qau];rfl
   refine hK _ _ x kD (fun _=>⟨b,xs,hS,by rw [hxl,hml],fun k l hkl=>hX k l (by have:=(Zl.1 hkl).1;omega) hkl⟩) ?_;rw [if_pos hue];simp only [Sq,Zf,Zg,g2,g5,g6,g7]
 ·obtain⟨g0,g2,g5,g6,g7,g17,g18,g19,-⟩:=hs;exact⟨g7,trivial⟩
 ·obtain⟨g0,g2,g5,g6,g7,g17,g18,g19,-⟩:=hs;exact⟨g0,g2,g5,g6,g17,g18,g19,trivial⟩
theorem He {ms:List (List aG)} {os:Nat→Option (List aG)} {u:Nat} {s:List UInt8} (h:fV A p fs) (hw:fileOf fs m8=some s) (hs:DA true (fb ls k) s) (hF:∀(i:Nat) (l:List aG),ls[i]?=some l→Ao fs (eF (ls.length-i)) (os i)) (hu:u≤ls.length) (hg:∀(i:Nat) (l:List aG),i<u→ls[i]?=some l→qM l (os i)=true) (hb0:∀l:List aG,ls[u]?=some l→qM l (os u)=false) (hml:ms.length=ls.length) (hm:∀(i:Nat) (l:List aG),i<u→ms[i]?=some l→os i=some l) (hls:ls.length≤6):
 ∃l x E,bJ af 7 [pw p 0] A (.tuple ⟨[.agg ⟨l⟩,x,.int .i64 (if u=ls.length then 0 else 12:Nat)]⟩) E∧Kp A E∧
  ((u=ls.length)→(∃y,l=cr y (fb ls k)∧gh E (cV ls) y)∧gW E ms x)∧(¬(u=ls.length)→l=cE∧x= .slice none 0 0):=by
 suffices hsuf:∃v E,bJ af 7 [pw p 0] A v E∧(∃l x,v= .tuple ⟨[.agg ⟨l⟩,x,.int .i64 (if u=ls.length then 0 else 12:Nat)]⟩∧Kp A E∧
  ((u=ls.length)→(∃y,l=cr y (fb ls k)∧gh E (cV ls) y)∧gW E ms x)∧(¬(u=ls.length)→l=cE∧x= .slice none 0 0)) by
  obtain⟨v,E,h1,l,x,rfl,h2⟩:=hsuf;exact⟨l,x,E,h1,h2⟩
 refine cM (av Tryz.func7) Wz (by rw [Tryz.ntmps7];simp) (by kernel_rfl) (by kernel_rfl) ?_;have kB:=Kp.alloc A (aa 39 cE);have vB:=az A 39 cE;apply W.q
 ·intro M;simp (disch:=omega) only [c7,qb6,Aq,Zf,dv,aj];rfl
 generalize A.alloc (aa 39 cE)=B at kB vB;obtain⟨l,C,⟨g,hg1⟩,kC,hR⟩:=U3 (h.kp kB) hw hs;have kD:=Kp.alloc C (aa 39 l);have vD:=az C 39 l;have sD:aT af (C.alloc (aa 39 cE)) 39 (pw C.next 0) (.agg ⟨l⟩)= .ok (C.alloc (aa 39 l)):=a_ (by rw [hR.1];exact C9) rfl (by rw [hR.1];rfl) (by simp [cE]) hR.2.1;apply W.scope;apply W.qG (g)
 ·intro M hM;simp (disch:=omega) only [c7,qb6,Aq,Zf,hg1,Zm,Zk,dv,aj,sD];rfl
 have hRD:=hR.kp kD;generalize C.alloc (aa 39 l)=D at kD vD sD hRD;have kBD:=kC.trans kD;have wD:=vB.kp kBD;have lD:=pZ vD.2 hR.1;apply W.q
 ·intro M;simp (disch:=omega) only [c7,qb6,Aq,Zf];rfl
 apply W.seq;refine W.run 1 (fun m=>rfl) ?_;show W af _ _ _;obtain⟨y,rfl,hS⟩:=hRD.2.2.1 rfl;have ly:ai af D.get 34 (pw C.next 3)= .ok y:=vD.ld rfl LX rfl;have ll:=hS.len;have e1:(fb ls k).segs.length=ls.length:=eW ls;rw [e1] at ll;apply W.seq;apply W.q
 ·intro M;simp (disch:=decide+kernel) only [c7,qb6,Aq,Zf,Iz,ly,ll];rfl
 apply W.block;refine J4 (v2:=pV A.next) (v5:=pV C.next) (h.kp (kB.trans kBD)) hF hu hg hb0 hml hm hls hS (by simp only [Sq,Zf,Zg,pV]) ?_;rintro t E x kE hx ⟨g2,g5,g6,g7,-⟩;simp only [pV] at g2 g5;show W af _ _ _;have wE:=wD.kp kE;by_cases hall:u=ls.length
 ·rw [if_pos hall] at g6;have hX:=hx hall;have lE:=pZ (vD.kp kE).2 rfl;have hone:∀v∈cr y (fb ls k),aH v=true:=hR.2.1;obtain⟨F,sF,vF,nF,fF⟩:=bK (tb:=af) (t:=39) (l':=cr y (fb ls k)) (by exact C9) wE.2 rfl (by simp [cE]) hone;have lF:=pZ vF rfl;apply W.q
  ·intro M;simp (disch:=decide+kernel) only [c7,qb6,Aq,Zf,g6];rfl
  apply W.q
  ·intro M;simp (disch:=omega) only [c7,qb6,Aq,Zf,g2,g5,g7,lE,sF];rfl
  apply W.run 20
  ·intro M;simp (disch:=decide+kernel) only [c7,qb6,Aq,Zf];rfl
  refine⟨by simp,rfl,_,(by simp only [qb6,g2,lF,Aq,Zf]<;>rfl),_,_,(by rw [if_pos hall]),⟨by show A.next≤F.next;have:=kB.1;have:=kBD.1;have:=kE.1;omega,fun z hz=>by show F.get z=A.get z;rw [fF z (by omega),kE.2 z (by have:=kB.1;have:=kBD.1;omega),kBD.2 z (by have:=kB.1;omega),kB.2 z hz]⟩,fun _=>⟨⟨y,rfl,(hS.kp kE).put wE (by show E.next≤F.next;omega) fF⟩,hX.put wE (by show E.next≤F.next;omega) fF⟩,fun hh=>absurd hall hh⟩
 ·rw [if_neg hall] at g6;obtain⟨F,sF,vF,nF,fF⟩:=bK (tb:=af) (t:=39) (l':=cE) (by exact C9) wE.2 rfl (by simp [cE]) UW;have lF:=pZ vF rfl;have bd39:cu af 39 []= .ok (.agg ⟨cE⟩):=by kernel_rfl
  apply W.seq;apply W.run 20
  ·intro M;simp (disch:=decide+kernel) only [c7,qb6,Aq,Zf,g2,g6,bd39,sF];rfl
  refine⟨by simp,rfl,_,(by simp only [qb6,g2,lF,Aq,Zf]<;>rfl),_,_,(by rw [if_neg hall]),⟨by show A.next≤F.next;have:=kB.1;have:=kBD.1;have:=kE.1;omega,fun z hz=>by show F.get z=A.get z;rw [fF z (by omega),kE.2 z (by have:=kB.1;have:=kBD.1;omega),kBD.2 z (by have:=kB.1;omega),kB.2 z hz]⟩,fun hh=>absurd hh hall,fun _=>⟨rfl,rfl⟩⟩
def jn (x:Value) (k:Nat):List Value:=[x,.int .u8 k,.int .u8 (0:Nat),.int .u8 (0:Nat),.int .u8 (0:Nat),.int .u16 (0:Nat),strOf [],strOf []]
theorem Oo {f:List UInt8×List UInt8} (h:f∈fy ls k):f.1≠ []:=by
 rcases qas.1 h with h|h
 ·obtain⟨n,-,-,e⟩:=gM h;rw [e];unfold eF;simp
 ·rw [Z9.1 h];show m8≠ [];decide
theorem ED {D:Mem} {q:Nat} {x6 x4 x5 x:Value} (hV:VB D 29 q (.var 8) (jn x k)) (hF:pW D fs x6) (hn:∀f∈fs,f.1≠([]:List UInt8)) (hfl:fs.length<100) (hi:i<fs.length) (hS:aq D 27 2 b ((fs.take i).map cG) y)
 (hs:Sl t [(1,pw q 0),(3,x4),(5,x5),(6,x6),(13,y),(14,.int .i64 i)]):
 W af QW ⟨t,167,[],D,none⟩ fun e s'=>e= .nrm∧∃t' D' y',s'=⟨t',167,[],D',none⟩∧(D.next≤D'.next∧∀z,(z=b→y= .slice none 0 0)→z<D.next→D'.get z=D.get z)∧(∃b',D.next≤b'∧aq D' 27 2 b' ((fs.take (i+1)).map cG) y')∧Sl t' [(1,pw q 0),(3,x4),(5,x5),(6,x6),(13,y'),(14,.int .i64 (i+1:Nat))]:=by
 obtain⟨g1,g3,g5,g6,g13,g14,-⟩:=hs;have hfi:fs[i]?=some fs[i]:=Zi hi;have hne:=hn _ (ZO hi);have hlen:=hF.len;obtain⟨bb,oo,j1,j2,-⟩:=hF.at hfi;have htk:fs.take (i+1)=fs.take i++[fs[i]]:=Zs hi;generalize fs[i]=f at*;have sE:aT af (D.alloc (aa 27 [.string .empty,.string .empty])) 27 (pw D.next 0) (.agg ⟨cG f⟩)= .ok (D.alloc (aa 27 (cG f))):=a_ Sx rfl rfl (by simp) (sj f);have kE:=Kp.alloc D (aa 27 (cG f));have vE:=az D 27 (cG f);have nE:(D.alloc (aa 27 (cG f))).next=D.next+1:=ae _ _
 generalize D.alloc (aa 27 (cG f))=E at sE kE vE nE;have V:=hV.kp kE;have lT:ai af E.get 5 (pw q 3)= .ok (.int .u8 (0:Nat)):=V.ld rfl u5 rfl;have lL:ai af E.get 5 (pw q 2)= .ok (.int .u8 (0:Nat)):=V.ld rfl u5 rfl;have lN:ai af E.get 9 (pw q 6)= .ok (strOf ([]:List UInt8)):=V.ld rfl u9 rfl;have l1:ai af E.get 9 (pw D.next 0)= .ok (strOf f.1):=vE.ld rfl u9 rfl;have lw:ai af E.get 27 (pw D.next 0)= .ok (.agg ⟨cG f⟩):=by
  obtain⟨d,hd1,hd2⟩:=bg (t:=27) (p:=true) (by kernel_rfl);exact aI hd1 hd2 Sx vE.2
 have c1:=bx (tb:=af) (s:=5) (d:=3) (k:=.u8) (n:=0) (by rw [u5];rfl) u3 (aR (by omega));have hi1:¬(0:Nat)=i+1:=by omega
 have a1:aK .add .i64 ((i:Nat):Int) ((1:Nat):Int)= .ok (.int .i64 (i+1:Nat)):=a8 (aR (by omega));have sh:∀d,ik .shr d (.int .u8 (0:Nat)) (.int .i64 (i:Nat))= .ok (.int .u8 (0:Nat)):=fun d=>by
  have e:ik .shr d (.int .u8 (0:Nat)) (.int .i64 (i:Nat))=R.ok (Value.int .u8 (.ofNat (qdG 0 (bif Zt i 8 then i else 8)))):=rfl;rw [e];show R.ok (Value.int .u8 (ZI (0>>>(bif Zt i 8 then i else 8))))=_;rw [Nat.zero_shiftRight];rfl
 obtain⟨y',G,happ,hs3,hn3,hf3⟩:=BT (f:=f) (hS.same kE.1 (kE.2 b)) (by rw [ZD];omega);apply W.run 20
 ·intro M;simp (config:={maxSteps:=4000000}) (disch:=first|decide+kernel|omega|simp only [Wq,Zf]) only [QW,c6,qa6,Aq,Zj,reduceIte,Zf,Zg,g1,g6,g13,g14,hlen,hi,j1,j2,P3,aj,sE,Te,Tf,Ni,WG,Nf,lT,lL,lN,l1,lw,c1,hi1,a1,sh,Nat.zero_and,hne,T0,happ];rfl
 refine⟨rfl,_,G,y',rfl,⟨by omega,fun z hz hlt=>by rw [hf3 z hz (by omega),kE.2 z hlt]⟩,⟨E.next+1,by omega,by rw [htk];exact hs3⟩,?_⟩;simp only [Sq,Zf,Zg,g1,g3,g5,g6]
variable {dss:List (List rM)}
theorem Hk {x:Value} (h:xw A dss x) (hok:∀l∈ib dss,wo l) (hk:k<256):
 ∃v A',bJ af 6 [.agg ⟨jn x k⟩] A v A'∧Kp A A'∧∃y z,v= .tuple ⟨[y,.agg ⟨cr z (fb (ib dss) k)⟩]⟩∧pW A' (fy (ib dss) k) y∧gh A' (cV (ib dss)) z:=by
 refine cM (av Tryz.func6) Wy (by rw [Tryz.ntmps6];simp) (by kernel_rfl) (by kernel_rfl) ?_;generalize hls:ib dss=ls at*;have hl6:ls.length≤6:=by rw [←hls];exact CE dss
 have kB:=Kp.alloc A (aa 29 (jn x k));have vB:=az A 29 (jn x k);have nB:(A.alloc (aa 29 (jn x k))).next=A.next+1:=ae _ _
 have kC:=Kp.alloc (A.alloc (aa 29 (jn x k))) (aa 36 [.int .i64 (0:Nat),.int .i64 (0:Nat),.int .i64 (0:Nat),.slice none 0 0]);have vC:=az (A.alloc (aa 29 (jn x k))) 36 [.int .i64 (0:Nat),.int .i64 (0:Nat),.int .i64 (0:Nat),.slice none 0 0];have nC:((A.alloc (aa 29 (jn x k))).alloc (aa 36 [.int .i64 (0:Nat),.int .i64 (0:Nat),.int .i64 (0:Nat),.slice none 0 0])).next=A.next+2:=by rw [ae,nB]
 apply W.q
 ·intro M;simp (disch:=first|decide+kernel|omega) only [c6,qa6,Aq,Zf,aj,zT];rfl
 rw [nB] at vC;have vB:=vB.kp kC;have kC:=kB.trans kC;generalize (A.alloc (aa 29 (jn x k))).alloc (aa 36 [.int .i64 (0:Nat),.int .i64 (0:Nat),.int .i64 (0:Nat),.slice none 0 0])=C at kC vB vC nC;rw [nB];have lw:ai af C.get 29 (pw A.next 0)= .ok (.agg ⟨jn x k⟩):=by
  obtain⟨d,hd1,hd2⟩:=bg (t:=29) (p:=true) (by kernel_rfl);exact aI hd1 hd2 (show aV af 29= .ok 8 by kernel_rfl) vB.2
 obtain⟨z,D,⟨g1,h1⟩,hL,kD⟩:=Lr (rest:=(jn x k).tail) (h.kp kC) rfl;rw [hls] at hL;have h1':∀M,g1≤M→bc af (exec af M) (.fn 21 [.agg ⟨jn x k⟩]) C= .ok (.val z D):=h1;have lenD:=hL.len;obtain⟨E,⟨g2,h2⟩,kE⟩:=Ln (A:=D);have sF:aT af (E.alloc (aa 36 [.int .i64 (0:Nat),.int .i64 (0:Nat),.int .i64 (0:Nat),.slice none 0 0])) 36 (pw E.next 0) (.agg ⟨[.int .i64 (0:Nat),.int .i64 (1:Nat),.int .i64 (1:Nat),.slice none 0 0]⟩)= .ok (E.alloc (aa 36 [.int .i64 (0:Nat),.int .i64 (1:Nat),.int .i64 (1:Nat),.slice none 0 0])):=a_ nh rfl rfl (by simp) (by simp [aH]);have vF:=az E 36 [.int .i64 ls.length,.int .i64 (1:Nat),.int .i64 (ls.length+1+k % 4:Nat),.slice none 0 0];have kF:=Kp.alloc E (aa 36 [.int .i64 ls.length,.int .i64 (1:Nat),.int .i64 (ls.length+1+k % 4:Nat),.slice none 0 0]);have nF:(E.alloc (aa 36 [.int .i64 ls.length,.int .i64 (1:Nat),.int .i64 (ls.length+1+k % 4:Nat),.slice none 0 0])).next=E.next+1:=ae _ _
 have s1:aT af (E.alloc (aa 36 [.int .i64 (0:Nat),.int .i64 (1:Nat),.int .i64 (1:Nat),.slice none 0 0])) 3 (pw E.next 0) (.int .i64 ls.length)= .ok (E.alloc (aa 36 [.int .i64 ls.length,.int .i64 (1:Nat),.int .i64 (1:Nat),.slice none 0 0])):=da (by kernel_rfl) rfl rfl (by simp);have s2:aT af (E.alloc (aa 36 [.int .i64 ls.length,.int .i64 (1:Nat),.int .i64 (1:Nat),.slice none 0 0])) 3 (pw E.next (0+2)) (.int .i64 (ls.length+1+k % 4:Nat))= .ok (E.alloc (aa 36 [.int .i64 ls.length,.int .i64 (1:Nat),.int .i64 (ls.length+1+k % 4:Nat),.slice none 0 0])):=da (by kernel_rfl) rfl rfl (by simp);have kCE:=kD.trans kE;have lk:ai af (E.alloc (aa 36 [.int .i64 ls.length,.int .i64 (1:Nat),.int .i64 (1:Nat),.slice none 0 0])).get 5 (pw A.next 1)= .ok (.int .u8 k):=((vB.kp kCE).kp (Kp.alloc _ _)).ld rfl u5 rfl;have a1:aK .add .i64 ((ls.length:Nat):Int) ((1:Nat):Int)= .ok (.int .i64 (ls.length+1:Nat)):=a8 (aR (by omega));have a2:aK .add .i64 ((ls.length+1:Nat):Int) ((k % 4:Nat):Int)= .ok (.int .i64 (ls.length+1+k % 4:Nat)):=a8 (aR (by omega));have c4:=bx (tb:=af) (s:=5) (d:=3) (k:=.u8) (n:=k % 4) (by rw [u5];rfl) u3 (aR (by omega));apply W.qG (g1)
 ·intro M hM;simp (disch:=first|decide+kernel|omega) only [c6,qa6,Aq,Zf,lw,h1'];rfl
 apply W.qG (g2)
 ·intro M hM;simp (disch:=first|decide+kernel|omega) only [c6,qa6,Aq,Zf,h2,zT,aj,sF];rfl
 apply W.q
 ·intro M;simp (disch:=first|decide+kernel|omega) only [c6,qa6,Aq,Zf,lenD,Nm,s1];rfl
 apply W.q
 ·intro M;simp (disch:=first|decide+kernel|omega) only [c6,qa6,Aq,Zf,lenD,a1,WH,lk,c4,a2,Iy,s2];rfl
 have hLF:=(hL.kp kE).kp kF;have kAF:=kC.trans (kCE.trans kF);have VBF:=vB.kp (kCE.trans kF);have hn1:=kC.1;have hn2:=kCE.1;generalize E.alloc (aa 36 [.int .i64 ls.length,.int .i64 (1:Nat),.int .i64 (ls.length+1+k % 4:Nat),.slice none 0 0])=F at vF kF nF hLF kAF VBF;apply W.q
 ·intro M;simp (disch:=first|decide+kernel|omega) only [c6,qa6,Aq,Zf];rfl
 apply W.seq;apply W.q
 ·intro M;simp (disch:=first|decide+kernel|omega) only [c6,qa6,Aq,Zf];rfl
 apply W.block;refine W.up ls.length (fun i t D=>∃y,TK F E.next ls k i D y∧Sl t [(1,pw A.next 0),(3,pw (A.next+1) 0),(4,z),(5,pw E.next 0),(6,y),(7,.int .i64 i)]) ?_ (Zv _) ⟨.slice none 0 0,⟨wU.refl _ _,F.next,F.next,_,vF,by rw [qaQ];exact aq.nil _ _ _ _,fun _=>rfl,Zn _,by rw [qaQ];exact aq.nil _ _ _ _,fun _=>rfl,Zn _⟩,?_⟩
 ·rintro i t D hi ⟨y,hR,hs0⟩;by_cases hlt:i<ls.length
  ·refine(GJ (by omega) hLF (fun D hD=>hLF.L6 vF hD) hok hl6 hlt hR hs0).mono ?_;rintro e s' ⟨rfl,t',D',y',rfl,hR',hs'⟩;exact⟨hlt,t',D',rfl,y',hR',hs'⟩
  ·have e:i=ls.length:=by omega
   subst e;obtain⟨hK,b1,b2,xs,hV,hS1,hx0,hb1,hS2,hy0,hb2⟩:=hR;obtain⟨g1',g3,g4,g5,g6,g7,-⟩:=hs0;rw [qaJ (by rw [eW];exact Zn _)] at hS1;rw [qaJ (by rw [dJ];exact Zn _)] at hS2;have lenD2:=(hLF.L6 vF hK).len;have hkd:=hK.1;have hz1:(cV ls).map dF=[]→xs= .slice none 0 0:=fun h=>hx0 (by have:=congrArg qaR h;rw [Zp,eW] at this;simpa using this)
   have hz2:(eu ls).map cG=[]→y= .slice none 0 0:=fun h=>hy0 (by have:=congrArg qaR h;rw [Zp,dJ] at this;simpa using this)
   have lm:ai af D.get 36 (pw E.next 0)= .ok (.agg ⟨cr xs (fb ls k)⟩):=by
    obtain⟨d,hd1,hd2⟩:=bg (t:=36) (p:=true) (by kernel_rfl);exact aI hd1 hd2 nh hV.2
   obtain⟨v,G,⟨g9,h9⟩,rfl,kG⟩:=O7 (m:=fb ls k) ⟨b1,hS1⟩ (IV hok hl6);have VG:=hV.kp kG;have hS1G:=hS1.same kG.1 (kG.2 b1);have hS2G:=hS2.same kG.1 (kG.2 b2);have hkg:=kG.1;obtain⟨y2,H,hap,hS3,hn3,hf3⟩:=BT (f:=(m8,crc.aN (iC (fb ls k)))) hS2G (by rw [dJ];omega);have hFH:pW H (fy ls k) y2:=⟨_,hS3⟩;have hS1H:aq H 58 3 b1 ((cV ls).map dF) xs:=aq.apart hS2G hS1G (by decide) hz2 hz1 (by omega) hf3;have VH:VB H 36 E.next (.var 4) [.int .i64 ls.length,.int .i64 (1:Nat),.int .i64 (ls.length+1+k % 4:Nat),xs]:=⟨by omega,VG.2.same (hf3 _ (fun e=>by omega) (by omega))⟩
   have keepH:∀z,z<F.next→z≠E.next→H.get z=F.get z:=fun z hz hr=>by rw [hf3 z (fun e=>by omega) (by omega),kG.2 z (by omega),hK.2 z hz hr]
   have VIH:VB H 29 A.next (.var 8) (jn x k):=⟨by omega,VBF.2.same (keepH _ (by omega) (by omega))⟩
   have hmn:∀t:T Value,ev t (.const (.string ⟨#[109,97,110,105,102,101,115,116]⟩))= .ok (strOf m8):=fun t=>rfl
   apply W.run 20
   ·intro M;simp (disch:=first|decide+kernel|omega) only [QV,c6,qa6,Aq,Zf,g4,g7,lenD2];rfl
   apply W.qG (g9)
   ·intro M hM;simp (disch:=first|decide+kernel|omega) only [c6,qa6,Aq,Zf,g5,lm,h9,Zm,Zk];rfl
   apply W.q
   ·intro M;simp (disch:=first|decide+kernel|omega) only [c6,qa6,Aq,Zf,g6,hmn,We,T0,hap];rfl
   apply W.q
   ·intro M;simp (disch:=first|decide+kernel|omega) only [c6,qa6,Aq,Zf];rfl
   apply W.seq;apply W.q
   ·intro M;simp (disch:=first|decide+kernel|omega) only [c6,qa6,Aq,Zf];rfl
   apply W.block;have hol:=mq ls k;refine W.up (fy ls k).length (fun i t D=>Kp H D∧∃b y,H.next≤b∧aq D 27 2 b (((fy ls k).take i).map cG) y∧Sl t [(1,pw A.next 0),(3,pw (A.next+1) 0),(5,pw E.next 0),(6,y2),(13,y),(14,.int .i64 i)]) ?_ (Zv _) ⟨Kp.refl _,H.next,.slice none 0 0,Zn _,by rw [qaQ];exact aq.nil _ _ _ _,?_⟩
   ·rintro i t J hi ⟨kJ,b,y,hb,hS,hs0⟩;have hFJ:=hFH.kp kJ;by_cases hlt:i<(fy ls k).length
    ·refine(ED (VIH.kp kJ) hFJ (fun f hf=>Oo hf) (by omega) hlt hS hs0).mono ?_;rintro e s' ⟨rfl,t',D',y',rfl,⟨hn',hf'⟩,⟨b',hb',hS'⟩,hs'⟩;have:=kJ.1;exact⟨hlt,t',D',rfl,⟨by omega,fun z hz=>by rw [hf' z (fun e=>by omega) (by omega),kJ.2 z hz]⟩,b',y',by omega,hS',hs'⟩
    ·have e:i=(fy ls k).length:=by omega
     subst e;obtain⟨f1,f3,f5,f6,f13,f14,-⟩:=hs0;rw [ZL] at hS;have lenJ:=hFJ.len;have VIJ:=VIH.kp kJ;have lN:ai af J.get 9 (pw A.next 6)= .ok (strOf []):=VIJ.ld rfl u9 rfl;have hl1:aL af .len [9] [strOf []]= .ok (.int .i64 (0:Nat)):=cd u9;have hS4:=hS;have hkj:=kJ.1;have lmL:ai af J.get 36 (pw E.next 0)= .ok (.agg ⟨cr xs (fb ls k)⟩):=by
      obtain⟨d,hd1,hd2⟩:=bg (t:=36) (p:=true) (by kernel_rfl);exact aI hd1 hd2 nh (VH.2.same (by rw [kJ.2 _ (by omega)]))
     have vCL:dj J 36 (A.next+1) (.var 4) [.int .i64 (0:Nat),.int .i64 (0:Nat),.int .i64 (0:Nat),.slice none 0 0]:=vC.2.same (by rw [kJ.2 _ (by omega),keepH _ (by omega) (by omega),kF.2 _ (by omega),kCE.2 _ (by omega)]);have hxs:=aq.di hS1H;obtain⟨N,sN,vN,nN,fN⟩:=bK (tb:=af) (t:=36) (l':=cr xs (fb ls k)) (by exact nh) vCL rfl (by simp) (by
      intro v hv;simp only [cr,ZC,Z0,or_false] at hv;rcases hv with rfl|rfl|rfl|rfl
      ·rfl
      ·rfl
      ·rfl
      ·exact hxs.2)
     have lN2:ai af N.get 36 (pw (A.next+1) 0)= .ok (.agg ⟨cr xs (fb ls k)⟩):=by
      obtain⟨d,hd1,hd2⟩:=bg (t:=36) (p:=true) (by kernel_rfl);exact aI hd1 hd2 nh vN
     apply W.run 20
     ·intro M;simp (disch:=first|decide+kernel|omega) only [QW,c6,qa6,Aq,Zf,f6,f14,lenJ];rfl
     apply W.seq;apply W.q
     ·intro M;simp (config:={maxSteps:=4000000}) (disch:=first|decide+kernel|omega|simp only [Wq,Zf]) only [c6,qa6,Aq,Zj,reduceIte,Zf,Zg,f1,Ni,Nf,lN,hl1,qau,bT,fi,bA,bj];rfl
     apply W.run 20
     ·intro M;simp (disch:=first|decide+kernel|omega) only [c6,qa6,Aq,Zf];rfl
     apply W.q
     ·intro M;simp (config:={maxSteps:=4000000}) (disch:=first|decide+kernel|omega|simp only [Wq,Zf]) only [c6,qa6,Aq,Zj,reduceIte,Zf,Zg,f3,f5,f13,lmL,sN,Fq,au []];rfl
     apply W.run 20
     ·intro M;simp (disch:=first|decide+kernel|omega) only [c6,qa6,Aq,Zf];rfl
     have hAF:=kAF.1;refine⟨by simp,rfl,_,(by simp only [qa6,Aq,Zf,f3,lN2]<;>rfl),⟨by show A.next≤N.next;omega,fun z hz=>?_⟩,y,xs,rfl,⟨_,hS4.same (by show _≤N.next;omega) fun _=>fN _ (by omega)⟩,⟨b1,?_⟩⟩
     ·show N.get z=A.get z;rw [fN z (by omega),kJ.2 z (by omega),keepH z (by omega) (by omega),kAF.2 z hz]
     ·have e1:aq J 58 3 b1 ((cV ls).map dF) xs:=hS1H.same kJ.1 (kJ.2 b1);exact aq.fU e1 hz1 (by show _≤N.next;omega) fun hne hlt=>fN b1 (by omega)
   ·simp only [Sq,Zf,Zg,g1',g3,g5,g6]
 ·simp only [Sq,Zf,Zg]
theorem gh.nO {l:List (Nat×Nat×Nat)} {x:Value} (h:gh A l x):∃a n c,x= .slice a n c:=by
 obtain⟨b,⟨rfl,-⟩|⟨_,_,rfl,-⟩⟩:=h
 ·exact⟨_,_,_,rfl⟩
 ·exact⟨_,_,_,rfl⟩
end Go.Proofs.YtggndfefpbmaeaaGreatDoor.sto
namespace Go.Proofs.YtggndfefpbmaeaaGreatDoor.crc
open Go.Am
end Go.Proofs.YtggndfefpbmaeaaGreatDoor.crc
namespace Go.Proofs.YtggndfefpbmaeaaGreatDoor.crc
variable {b:Nat}
theorem xor_zero {a:Nat} (h:a^^^b=0):a=b:=by
 have:a=(a^^^b)^^^b:=by rw [qbw,Nat.xor_self,qdd]
 rw [this,h,Nat.zero_xor]
end Go.Proofs.YtggndfefpbmaeaaGreatDoor.crc
end
