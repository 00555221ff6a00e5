/- The abstract machine, the walk of the law and its plain laws, made small by a program; part 9: no conditions but those in each theorem. -/
import Derived.Test.YtjoceidiioppiaaGreatDoorQ08
set_option maxHeartbeats 16000000
set_option maxRecDepth 100000
set_option linter.unusedSimpArgs false
set_option linter.unusedVariables false
noncomputable section
open Nat renaming reduceEqDiff→qal,reduceAdd→qam,le_refl→qao,ble→qaq,beq→qaw,blt→qax,zero_le→qaB,lt_of_lt_of_le→qaD,le_of_ble_eq_true→qaG,blt_eq→qaH,le_trans→qaV,lt_or_ge→qaZ,zero_add→qa1,add_zero→qa8,lt_of_le_of_lt→qbj,sub_self→qbq,min_eq_left→qbr,mod_lt→qbE,sub_add_cancel→qce,add_assoc→qck,strongRecOn→qcL,min_eq_right→qc6,lt_irrefl→qdh,succ_ne_zero→qdv,mul_le_mul→qdV,le_total→qeG,sub_le→qeH
open List renaming getElem?_eq_getElem→qan,getElem?_eq_some_iff→qap,length_append→qar,length_map→qas,getElem?_cons_zero→qau,getElem?_cons_succ→qav,mem_cons_of_mem→qay,mem_cons_self→qaz,length_cons→qaA,take_succ_eq_append_getElem→qaC,length_take→qaE,getElem?_append_right→qaF,getElem?_append_left→qaJ,mem_cons→qaK,getElem?_map→qaN,take_length→qaR,length_singleton→qaS,length_nil→qaT,mem_singleton→qaY,mem_of_getElem?→qa0,mem_map→qa3,length_pos_iff→qa6,not_mem_nil→qbb,map_append→qbe,cons_append→qbf,getElem_mem→qbg,append_assoc→qbh,drop_eq_getElem_cons→qbi,flatMap_cons→qbl,append_nil→qbt,nil_append→qbv,map_cons→qbx,mem_append→qbF,mem_of_mem_take→qbH,getElem_of_mem→qbM,take_of_length_le→qcq,take_append_drop→qcx,take_zero→qcy,length→qcE,flatMap_append→qcY,getElem_map→qc2,exists_cons_of_ne_nil→qdg,drop_zero→qdq,drop_length→qd4,map→qew,sum_append→qeE
open Prod.mk renaming injEq→qat
open Bool renaming false_eq_true→qaI,and_true→qci,or_eq_false_iff→qcH,or_eq_true→qeC
open Option.some renaming injEq→qaX
open Option renaming map_some→qa5,getD_some→qbG,isSome_none→qbI,isSome_some→qdF,map_none→qdG,getD_none→qey
open Go.Proofs.Tryz renaming f4→qbC,f252→qb1,f20→qch,f11→qc7,f165→qc8,f279→qda,f32→qdO,f13→qd6,f251→qem,func4→qeJ
namespace Go.Proofs.YtjoceidiioppiaaGreatDoor.sto
open Go.Am Go.Mdl Go.Sto
inductive kX (b:Nat):List (FuncId×List Value)→Mem→Nat→Mem→Prop
 |nil (A:Mem):kX b [] A 0 A
 |ok {f:FuncId} {cs:List Value} {r:List (FuncId×List Value)} {A B C:Mem} {e:Nat}:bg af f cs A (.int .i64 (0:Nat)) B→A.next≤B.next→B.get b=A.get b→kX b r B e C→kX b ((f,cs)::r) A e C
 |err {f:FuncId} {cs:List Value} {r:List (FuncId×List Value)} {A B:Mem} {e:Nat}:bg af f cs A (.int .i64 e) B→e≠0→kX b ((f,cs)::r) A e B
def my (p:FuncId×List Value):Value:=.func (.func p.1) ⟨[]⟩ ⟨p.2⟩
theorem YK:af.ba 141=some (.slice 83):=by kernel_rfl
theorem YN:∃d,af.ba 83=some d∧bQ d=false:=a8 (by kernel_rfl)
theorem V_:aR af 83= .ok 1:=by kernel_rfl
noncomputable def MC:Code:=qdO.body.getD .skip
noncomputable def IW:Code:=sub MC [1,0,1,0,0]
theorem Uv:qdO.body=some (.seq (sub MC [0]) (.seq (.seq (sub MC [1,0,0]) (.block 0 (.loop IW))) (.seq (sub MC [1,1,0]) (sub MC [1,1,1])))):=by kernel_rfl
variable {C:Mem} {b:Nat}
theorem tS {A:Mem} {e:Nat} {l:List (FuncId×List Value)} {x:Value} (hx:az A 83 1 b (l.map fun p=>[my p]) x) (h:kX b l A e C) (hl:l.length<1000):bg af 32 [x] A (.int .i64 e) C:=by
 refine wI (aq Tryz.func32) Uv (by kernel_rfl) ?_;have hlen:=az.len (tb:=af) hx YK;rw [qas] at hlen;apply W.q
 ·intro M;simp (disch:=first|decide+kernel|omega) only [MC,qdO,Aq,qal];rfl
 apply W.seq;apply W.q
 ·intro M;simp (disch:=first|decide+kernel|omega) only [MC,qdO,Aq,qal,hlen];rfl
 apply W.block;refine W.up l.length (fun i t D=>(A.next≤D.next∧D.get b=A.get b)∧kX b (l.drop i) D e C∧Sl t [(6,x),(7,.int .i64 l.length),(8,.int .i64 i)]) ?_ (qaB _) ⟨⟨qao _,rfl⟩,h,?_⟩
 ·rintro i t D hi ⟨⟨kn,kf⟩,hD,g6,g7,g8,-⟩;by_cases hlt:i<l.length
  ·have hp:l[i]?=some l[i]:=qan hlt;rw [qbi hlt] at hD;generalize l[i]=p at*;have hxD:=hx.same kn fun _=>kf
   have j1:=az.idx (tb:=af) (t:=141) (i:=i) (kd:=.i64) hxD YK V_ (by rw [qas];exact hlt);obtain⟨d,hd1,hd2⟩:=YN;have j2:=az.load (tb:=af) (t:=83) (j:=0) hxD hd1 hd2 (show(l.map fun p=>[my p])[i]?=some [my p] by rw [qaN,hp];rfl) rfl (by omega);rw [qa8] at j2;cases hD with
   |ok h1 h2 h3 h4=>
    obtain⟨g,hg⟩:=h1;simp only [my] at j2;apply W.cN (g) 20
    ·intro M hM;simp (disch:=first|decide+kernel|omega) only [IW,MC,qdO,Aq,qal,g6,g7,g8,hlt,j1,j2,hg];rfl
    refine⟨hlt,_,_,rfl,⟨by omega,by rw [h3,kf]⟩,h4,?_⟩;simp only [Sq,qal,qam,g6,g7]
   |err h1 h2=>
    obtain⟨g,hg⟩:=h1;simp only [my] at j2;apply W.cN (g) 20
    ·intro M hM;simp (disch:=first|decide+kernel|omega) only [IW,MC,qdO,Aq,qal,g6,g7,g8,hlt,j1,j2,hg,h2];rfl
    exact⟨by simp,rfl,rfl,by simp only [qdO,Aq,qal]<;>rfl⟩
  ·have ei:i=l.length:=by omega
   subst ei;rw [qd4] at hD;cases hD;apply W.run 20
   ·intro M;simp (disch:=first|decide+kernel|omega) only [IW,MC,qdO,Aq,qal,g7,g8];rfl
   apply W.q
   ·intro M;simp (disch:=first|decide+kernel|omega) only [MC,qdO,Aq,qal];rfl
   apply W.run 20
   ·intro M;simp (disch:=first|decide+kernel|omega) only [MC,qdO,Aq,qal];rfl
   exact⟨by simp,rfl,rfl,by simp only [qdO,Aq,qal]<;>rfl⟩
 ·simp only [Sq,qal,qam]
def eO (l:List aP):List UInt8:=crc.bP (gq l)
theorem qah:af.ba 28=some (.slice 61):=by kernel_rfl
theorem T3:∃d,af.ba 37=some d∧bQ d=false:=a8 (by kernel_rfl)
theorem VX:aR af 37= .ok 1:=by kernel_rfl
variable {c:Nat}
theorem Ph {A:Mem} {b:Bool}:bg af 30 [.bool b,.int .i64 c] A (.func (.func 31) ⟨[]⟩ ⟨[pV A.next,pV (A.next+1)]⟩) ((A.alloc (aa 4 [.bool b])).alloc (aa 38 [.int .i64 c])):=by
 have n1:(A.alloc (aa 4 [.bool b])).next=A.next+1:=ae _ _
 simp only [pV];refine bm 60 (aq Tryz.func30) (by kernel_rfl) fun M=>?_
 simp (disch:=first|decide+kernel|omega) only [Tryz.f30,Aq,qal,w9,fh,e9,n1,aY]<;>rfl
theorem Dt {A:Mem} {a:Nat} (h:VB A 4 a (.var 1) [.bool true]):bg af 31 [pV a,pV b] A (iN 0) A:=by
 have l1:ag af A.get 4 (pw a 0)= .ok (.bool true):=h.ld rfl u4 rfl;simp only [pV];refine bm 60 (aq Tryz.func31) (by kernel_rfl) fun M=>?_
 simp (disch:=first|decide+kernel|omega) only [Tryz.f31,Aq,qal,l1]<;>rfl
theorem VI {A:Mem} {z5 z9:Nat} {l:List aP} {x s:Value} (v5:VB A 28 z5 (.var 1) [x]) (v9:VB A 9 z9 (.var 1) [s]) (hx:en A l x) (hl:l≠ []→DV l):
 ∃B e,bg af 33 [pV z5,pV z9] A (.int .i64 e) B∧A.next≤B.next∧(∀z,z<A.next→z≠z9→B.get z=A.get z)∧((l=[]∧e=2)∨(l≠ []∧e=0∧VB B 9 z9 (.var 1) [aj (eO l)])):=by
 have l1:ag af A.get 28 (pw z5 0)= .ok x:=v5.ld rfl qah rfl;by_cases h0:l=[]
 ·subst h0;obtain⟨g,hg⟩:=yV hx;obtain⟨B,sB,vB,nB,fB⟩:=aL (tb:=af) (t:=9) (o:=0) (v:=aj []) rb v9.2 (by simp) rfl rfl;refine⟨B,2,?_,by omega,fun z _=>fB z,.inl ⟨rfl,rfl⟩⟩;simp only [pV] at*;refine aT (g) 60 (aq Tryz.func33) (by kernel_rfl) fun M hM=>?_
  simp (disch:=first|decide+kernel|omega) only [Tryz.f33,Aq,qal,l1,hg,qau,qav,sB]<;>rfl
 ·obtain⟨v,B,⟨g,hg⟩,rfl,kB⟩:=BD hx (hl h0);obtain⟨C,sC,vC,nC,fC⟩:=aL (tb:=af) (t:=9) (o:=0) (v:=aj (eO l)) rb (v9.kp kB).2 (by simp) rfl rfl;refine⟨C,0,?_,by have:=kB.1;omega,fun z hz h=>by rw [fC z h,kB.2 z hz],.inr ⟨h0,rfl,⟨by have:=(v9.kp kB).1;omega,vC⟩⟩⟩;simp only [pV,eO] at*;refine aT (g) 60 (aq Tryz.func33) (by kernel_rfl) fun M hM=>?_
  simp (disch:=first|decide+kernel|omega) only [Tryz.f33,Aq,qal,l1,hg,qau,qav,sC]<;>rfl
theorem VJ {A:Mem} {z9 z10:Nat} {l:List aP} {s:Value} (v9:VB A 9 z9 (.var 1) [aj (eO l)]) (v10:VB A 37 z10 (.var 1) [s]) (hl:DV l):
 ∃B y,bg af 34 [pV z9,pV z10] A (iN 0) B∧VB B 37 z10 (.var 1) [y]∧nS B l y∧A.next≤B.next∧(∀z,z<A.next→z≠z10→B.get z=A.get z):=by
 have l1:ag af A.get 9 (pw z9 0)= .ok (aj (eO l)):=v9.ld rfl u9 rfl;obtain⟨v,B,⟨g,hg⟩,kB,y,rfl,q,yy,rfl,hS1,hS2⟩:=sm (A:=A) hl;obtain⟨C,sC,vC,nC,fC⟩:=aL (tb:=af) (t:=37) (o:=0) (v:=pV q) VX (v10.kp kB).2 (by simp) rfl rfl;have v10B:=v10.kp kB;have K:=KT.ye v10B (B:=C) (by omega) fun z _=>fC z
 refine⟨C,pV q,?_,⟨by have:=v10B.1;omega,vC⟩,⟨q,yy,rfl,K.vb hS1 (by decide),?_⟩,by have:=kB.1;omega,fun z hz h=>by rw [fC z h,kB.2 z hz]⟩
 ·simp only [pV,eO] at*;refine aT (g) 60 (aq Tryz.func34) (by kernel_rfl) fun M hM=>?_
  simp (disch:=first|decide+kernel|omega) only [Tryz.f34,Aq,qal,l1,hg,qau,qav,sC]<;>rfl
 ·obtain⟨b,rows,h1,h2,h3⟩:=hS2;refine⟨b,rows,K.Mk h1 (by decide),h2,fun i s hs=>?_⟩;obtain⟨x,e1,b',e2⟩:=h3 i s hs;exact⟨x,e1,b',K.Mk e2 (by decide)⟩
section
variable {A B:Mem} {p z3 z9 z11 e:Nat} {w s:List UInt8} (v3:VB A 24 z3 (.var 1) [pV p]) (v11:VB A 9 z11 (.var 1) [aj w])
include v3
theorem VP (h:bg af 43 [pV p] A (.int .i64 e) B):bg af 42 [pV z3] A (.int .i64 e) B:=by
 have l3:ag af A.get 24 (pw z3 0)= .ok (pV p):=by
  obtain⟨d,hd,ha⟩:=js;exact v3.ld rfl hd ha
 obtain⟨g,hg⟩:=h;simp only [pV] at*;refine aT (g) 60 (aq Tryz.func42) (by kernel_rfl) fun M hM=>?_
 simp (disch:=first|decide+kernel|omega) only [Tryz.f42,Aq,qal,l3,hg]<;>rfl
include v11
theorem VK (h:bg af 37 [pV p,aj w] A (.int .i64 e) B):bg af 36 [pV z3,pV z11] A (.int .i64 e) B:=by
 have l3:ag af A.get 24 (pw z3 0)= .ok (pV p):=by
  obtain⟨d,hd,ha⟩:=js;exact v3.ld rfl hd ha
 have l11:ag af A.get 9 (pw z11 0)= .ok (aj w):=v11.ld rfl u9 rfl;obtain⟨g,hg⟩:=h;simp only [pV] at*;refine aT (g) 60 (aq Tryz.func36) (by kernel_rfl) fun M hM=>?_
 simp (disch:=first|decide+kernel|omega) only [Tryz.f36,Aq,qal,l3,l11,hg]<;>rfl
theorem VO (h:bg af 41 [pV p,aj w] A (.int .i64 e) B):bg af 40 [pV z3,pV z11] A (.int .i64 e) B:=by
 have l3:ag af A.get 24 (pw z3 0)= .ok (pV p):=by
  obtain⟨d,hd,ha⟩:=js;exact v3.ld rfl hd ha
 have l11:ag af A.get 9 (pw z11 0)= .ok (aj w):=v11.ld rfl u9 rfl;obtain⟨g,hg⟩:=h;simp only [pV] at*;refine aT (g) 60 (aq Tryz.func40) (by kernel_rfl) fun M hM=>?_
 simp (disch:=first|decide+kernel|omega) only [Tryz.f40,Aq,qal,l3,l11,hg]<;>rfl
theorem SF (v9:VB A 9 z9 (.var 1) [aj s]) (h:bg af 39 [pV p,aj w,.slice (some ⟨A.next,0,none⟩) 1 2] (A.alloc (aa 9 [aj s])) (.int .i64 e) B):bg af 38 [pV z3,pV z11,pV z9] A (.int .i64 e) B:=by
 have l3:ag af A.get 24 (pw z3 0)= .ok (pV p):=by
  obtain⟨d,hd,ha⟩:=js;exact v3.ld rfl hd ha
 have l11:ag af A.get 9 (pw z11 0)= .ok (aj w):=v11.ld rfl u9 rfl;have l9:ag af A.get 9 (pw z9 0)= .ok (aj s):=v9.ld rfl u9 rfl;have bs:=Ur (w:=s);obtain⟨g,hg⟩:=h;simp only [pV] at*;refine aT (g) 60 (aq Tryz.func38) (by kernel_rfl) fun M hM=>?_
 simp (disch:=first|decide+kernel|omega) only [Tryz.f38,Aq,qal,l3,l11,l9,bs,hg]<;>rfl
end
variable {A:Mem} {p:Nat} {fs:List (List UInt8×List UInt8)}
theorem Az (h:ic A p fs):bg af 106 [pw p 0] A (.bool false) A:=by
 obtain⟨pf,mf,mn,cf,cn,ps,ml,q,st,ar,x,y,h1,-⟩:=h;exact FJ h1
theorem Vg {q:Nat} (v:VB A 24 q (.var 1) [pw p 0]):ag af A.get 24 (pw q 0)= .ok (pw p 0):=by
 obtain⟨d,hd1,hd2⟩:=a8 (t:=24) (p:=false) (by kernel_rfl);exact v.ld rfl hd1 hd2
variable {w:List UInt8}
theorem VQ {q k0:Nat} {s:List UInt8} {P:Mem→Value→Prop} {is:Bool} (h:ic A p fs) (hw:fileOf fs w=some s) (hs:s.length<1000000000000)
 (v0:VB A 24 k0 (.var 1) [pw p 0]) (v1:VB A 9 (k0+1) (.var 1) [aj w]) (v2:VB A 127 (k0+2) (.var 1) [.func (.func 70) ⟨[]⟩ ⟨[pw q 0]⟩]) (v3:VB A 3 (k0+3) (.var 1) [iN s.length])
 (hm:∃v E,bg af 70 [aj s,pw q 0] A v E∧Kp A E∧∃x,v= .tuple ⟨[x,.bool is]⟩∧P E x):
 ∃v E,bg af 131 [pw k0 0,pw (k0+1) 0,pw (k0+3) 0,pw (k0+2) 0] A v E∧Kp A E∧∃x,v= .tuple ⟨[x,.bool is]⟩∧P E x:=by
 obtain⟨g1,h1⟩:=uO h hw hs;obtain⟨v,E,⟨g2,h2⟩,kE,x,rfl,hP⟩:=hm;have l0:=Vg v0;have l1:ag af A.get 9 (pw (k0+1) 0)= .ok (aj w):=v1.ld rfl u9 rfl;have l2:ag af A.get 127 (pw (k0+2) 0)= .ok (.func (.func 70) ⟨[]⟩ ⟨[pw q 0]⟩):=by
  obtain⟨d,hd1,hd2⟩:=a8 (t:=127) (p:=false) (by kernel_rfl);exact v2.ld rfl hd1 hd2
 have l3:ag af A.get 3 (pw (k0+3) 0)= .ok (iN s.length):=v3.ld rfl u3 rfl;refine⟨_,E,?_,kE,x,rfl,hP⟩;refine aT (g1+g2) 60 (aq Tryz.func131) (by kernel_rfl) fun M hM=>?_
 simp (disch:=first|decide+kernel|omega) only [Tryz.f131,Aq,qal,bc,l0,l1,l2,l3,h1,h2,qau,qav]<;>rfl
theorem zy {k0:Nat} {f:Value} {t:TypeId} (hk:A.next=k0):(A.alloc (aa 24 [pw p 0])).next=k0+1∧((A.alloc (aa 24 [pw p 0])).alloc (aa 9 [aj w])).next=k0+2∧
 ∃D,((A.alloc (aa 24 [pw p 0])).alloc (aa 9 [aj w])).alloc (aa t [f])=D∧D.next=k0+3∧Kp A D∧VB D 24 k0 (.var 1) [pw p 0]∧VB D 9 (k0+1) (.var 1) [aj w]∧VB D t (k0+2) (.var 1) [f]:=by
 have h:=C9 [(24,[pw p 0]),(9,[aj w]),(t,[f])] A;have a:=Ju [(24,[pw p 0]),(9,[aj w]),(t,[f])] A;rw [hk] at a h;have n1:(A.alloc (aa 24 [pw p 0])).next=k0+1:=by rw [ae,hk]
 exact⟨n1,by rw [ae,n1],_,rfl,h.2,h.1,a 0 _ rfl,a 1 _ rfl,a 2 _ rfl⟩
theorem VL {q:Nat} {s:List UInt8} {n:Value} {P:Mem→Value→Prop} {is:Bool} (h:ic A p fs) (hw:fileOf fs w=some s) (hs:s.length<1000000000000)
 (hm:∀D,Kp A D→∃v E,bg af 70 [aj s,.pointer (some ⟨q,0,none⟩)] D v E∧Kp D E∧∃x,v= .tuple ⟨[x,.bool is]⟩∧P E x):
 ∃v E,bg af 71 [.pointer (some ⟨p,0,none⟩),aj w,.func (.func 70) ⟨[]⟩ ⟨[.pointer (some ⟨q,0,none⟩)]⟩,n] A v E∧Kp A E∧∃x,P E x∧v=(if is then .tuple ⟨[x,.int .i64 (0:Nat)]⟩ else .tuple ⟨[.pointer none,.int .i64 (12:Nat)]⟩):=by
 generalize hk:A.next=k0
 obtain⟨n1,n2,D,hD,n3,kD,w0,w1,w2⟩:=zy (A:=A) (p:=p) (w:=w) (f:=.func (.func 70) ⟨[]⟩ ⟨[.pointer (some ⟨q,0,none⟩)]⟩) (t:=127) hk;have kE:=Kp.alloc D (aa 3 [.int .i64 (s.length:Nat)]);have w3:=ay D 3 [.int .i64 (s.length:Nat)];have sE:aW af (D.alloc (aa 3 [.int .i64 (0:Nat)])) 3 (.pointer (some ⟨D.next,0,none⟩)) (.int .i64 (s.length:Nat))= .ok (D.alloc (aa 3 [.int .i64 (s.length:Nat)])):=eG VU rfl rfl (by simp);rw [n3] at sE w3;generalize hE:D.alloc (aa 3 [.int .i64 (s.length:Nat)])=E at*;obtain⟨gd,hgd⟩:=Az (h.kp kD);obtain⟨gs,hgs⟩:=yW (w:=w) (h.kp kD);rw [hw] at hgs;simp only [qbG,qdF,if_true] at hgs;have l0:=Vg w0;have l1:ag af D.get 9 (.pointer (some ⟨k0+1,0,none⟩))= .ok (aj w):=w1.ld rfl u9 rfl;have e44:vY af D.get .eql 24 (.tmp 16) (.const (.pointer none)) (.pointer (some ⟨p,0,none⟩)) (.pointer none)= .ok (.bool false):=CL;obtain⟨v,F,⟨gm,hgm⟩,kF,x,rfl,hP⟩:=VQ (h.kp (kD.trans kE)) hw hs (w0.kp kE) (w1.kp kE) (w2.kp kE) w3 (hm E (kD.trans kE));refine⟨_,F,?_,(kD.trans kE).trans kF,x,hP,rfl⟩;cases is with
 |true=>
  simp only [if_true];refine aT (gd+gs+gm) 60 (aq Tryz.func71) (by kernel_rfl) fun M hM=>?_
  simp (config:={maxSteps:=4000000}) (disch:=first|decide+kernel|omega|simp only [Wq,qal]) only [Tryz.f71,Aq,qaq,reduceIte,qal,qam,bc,e9,dj,eA,hk,n1,n2,hD,l0,bW,e44,hgd,l1,hgs,qau,qav,qA,n3,sE,aY,hgm]<;>rfl
 |false=>
  simp only [qaI,if_false];refine aT (gd+gs+gm) 60 (aq Tryz.func71) (by kernel_rfl) fun M hM=>?_
  simp (config:={maxSteps:=4000000}) (disch:=first|decide+kernel|omega|simp only [Wq,qal]) only [Tryz.f71,Aq,qaq,reduceIte,qal,qam,bc,e9,dj,eA,hk,n1,n2,hD,l0,bW,e44,hgd,l1,hgs,qau,qav,qA,n3,sE,aY,hgm]<;>rfl
def mh (n:Nat) (l:List aP):Nat×Nat×Nat:=(n,l.length,(crc.bP (gq l)).length)
def iC (D:dh) (w img:List UInt8):Nat×dh:=
 if D.ar=1 then(13,ga D) else
 let D1:=vV (ga D) w
 if D1.ar=1 then(13,ga D1) else
 let D2:=vT (ga D1) D.ns.length [] img
 if D2.ar=1 then(13,ga D2) else
 let D3:=P' (ga D2) D.ns.length ([],img)
 if D3.ar=1 then(13,ga D3) else(0,PQ (ga D3))
theorem Iw {z3 z9 z11:Nat} {D:dh} {s:List UInt8} {k:Kd} {lb:List Value} (h:fx A p D) (hd:D.dn=false) (hs:D.st<900∧D.ar<1000) (hla:D.la=D.ns.length) (hw:w∉D.ns) (hwl:0<w.length∧w.length≤64) (hN:ug (D.ns++[w])∧fW (D.ns++[w])=D.ns++[w])
 (hq:je D.all+s.length≤quo) (hs0:s≠ []) (hsl:s.length<900000) (v3:VB A 24 z3 (.var 1) [pV p]) (v9:VB A 9 z9 (.var 1) [aj s]) (v11:VB A 9 z11 (.var 1) [aj w]) (vb:VB A 83 b k lb):
 ∃C,kX b [(36,[pV z3,pV z11]),(38,[pV z3,pV z11,pV z9]),(40,[pV z3,pV z11]),(42,[pV z3])] A (iC D w s).1 C∧fx C p (iC D w s).2∧KT dT A C:=by
 have hn1:D.ns.length<999:=by
  have:=hN.1.2.2.1;rw [qar,qaS] at this;omega
 obtain⟨e1,e2⟩:=vS h;have hq0:quo=1048576:=rfl;obtain⟨v,B,hB,rfl,dB,kB⟩:=FI h hd ⟨by omega,hs.2⟩ hw hwl (by omega) hla;have h1:=VK v3 v11 hB;unfold iC;unfold u7 at h1;by_cases a1:D.ar=1
 ·rw [if_pos a1] at h1 dB⊢;exact⟨B,.err h1 (qdv 12),dB,kB⟩
 ·rw [if_neg a1] at h1 dB⊢;generalize hD1:vV (ga D) w=D1 at*;have p1:D1.dn=false∧D1.st=D.st+1∧D1.ar<1000∧D1.ns=D.ns++[w]∧D1.fs=D.fs++[([],[])]:=by
   rw [←hD1];exact⟨decide_eq_false a1,rfl,qbj (qeH _ _) hs.2,rfl,rfl⟩
  have hfl:D.fs.length=D.ns.length:=by
   obtain⟨_,_,_,_,_,_,-,-,-,⟨-,e,-⟩,-⟩:=h;exact e
  have hi1:D1.ns[D.ns.length]?=some w:=by rw [p1.2.2.2.1,qaF (qao _),qbq];rfl
  have hf1:D1.fs[D.ns.length]?=some ([],[]):=by rw [p1.2.2.2.2,←hfl,qaF (qao _),qbq];rfl
  have hal:D1.all=D.all++[(w,[])]:=by
   unfold dh.all;rw [p1.2.2.2.1,p1.2.2.2.2,qbe,List.zip_append (by rw [qas];omega)];rfl
  have hsum:je D1.all=je D.all:=by
   unfold je;rw [hal,qbe,qeE];simp
  have v3B:=kB.vb v3 (by decide);have v9B:=kB.vb v9 (by decide);have v11B:=kB.vb v11 (by decide);have vbB:=kB.vb vb (by decide);have k2:=Kp.alloc B (aa 9 [aj s]);have hr2:=ay B 9 [aj s];have hx2:az (B.alloc (aa 9 [aj s])) 9 1 B.next [[aj s]] (.slice (some ⟨B.next,0,none⟩) 1 2):=.inr ⟨.var 1,2,rfl,hr2.1,hr2.2,fun l hl=>by rw [qaY.1 hl];rfl,.inl rfl⟩
  obtain⟨v,C,hC,rfl,dC,kC0⟩:=FG (dB.kp k2) p1.1 ⟨by omega,p1.2.2.1⟩ (by unfold Ky;rw [p1.2.2.2.1];exact hN) (by rw [hsum];exact hq) hs0 hi1 hf1 hx2 (by simp;omega);have h2:=SF v3B v11B v9B hC;have kC:=k2.kt.trans kC0;unfold u7 at h2;by_cases a2:D1.ar=1
  ·rw [if_pos a2] at h2 dC⊢;exact⟨C,.ok h1 kB.1 (kB.2.1 _ _ _ _ (by decide) vb) (.err h2 (qdv 12)),dC,kB.trans kC⟩
  ·rw [if_neg a2] at h2 dC⊢;generalize hD2:vT (ga D1) D.ns.length [] s=D2 at*;have p2:D2.dn=false∧D2.st=D.st+2∧D2.ar<1000∧D2.ns=D1.ns∧D2.fs=D1.fs.set D.ns.length ([],s):=by
    rw [←hD2];exact⟨decide_eq_false a2,by show D1.st+1=_;omega,qbj (qeH _ _) p1.2.2.1,rfl,rfl⟩
   have hf2:D2.fs[D.ns.length]?=some ([],s):=by
    rw [p2.2.2.2.2,List.getElem?_set_self];exact(qap.1 hf1).1
   obtain⟨v,E,hE,rfl,dE,kE⟩:=LW dC p2.1 ⟨by omega,p2.2.2.1⟩ (by rw [p2.2.2.2.1];exact hi1) hf2;have v3C:=kC.vb v3B (by decide);have v11C:=kC.vb v11B (by decide);have vbC:=kC.vb vbB (by decide);have h3:=VO v3C v11C hE;unfold u7 at h3;by_cases a3:D2.ar=1
   ·rw [if_pos a3] at h3 dE⊢;exact⟨E,.ok h1 kB.1 (kB.2.1 _ _ _ _ (by decide) vb) (.ok h2 kC.1 (kC.2.1 _ _ _ _ (by decide) vbB) (.err h3 (qdv 12))),dE,(kB.trans kC).trans kE⟩
   ·rw [if_neg a3] at h3 dE⊢;generalize hD3:P' (ga D2) D.ns.length ([],s)=D3 at*;have p3:D3.dn=false∧D3.st=D.st+3∧D3.ar<1000∧D3.ns=D2.ns:=by
     rw [←hD3];exact⟨decide_eq_false a3,by show D2.st+1=_;omega,qbj (qeH _ _) p2.2.2.1,rfl⟩
    obtain⟨v,F,hF,rfl,dF,kF⟩:=LS dE p3.1 ⟨by omega,p3.2.2.1⟩ (by rw [p3.2.2.2,p2.2.2.2.1,p1.2.2.2.1,qar,qaS];omega);have v3E:=kE.vb v3C (by decide);have vbE:=kE.vb vbC (by decide);have h4:=VP v3E hF;unfold u7 at h4;by_cases a4:D3.ar=1
    ·rw [if_pos a4] at h4 dF⊢;exact⟨F,.ok h1 kB.1 (kB.2.1 _ _ _ _ (by decide) vb) (.ok h2 kC.1 (kC.2.1 _ _ _ _ (by decide) vbB) (.ok h3 kE.1 (kE.2.1 _ _ _ _ (by decide) vbC) (.err h4 (qdv 12)))),dF,((kB.trans kC).trans kE).trans kF⟩
    ·rw [if_neg a4] at h4 dF⊢;exact⟨F,.ok h1 kB.1 (kB.2.1 _ _ _ _ (by decide) vb) (.ok h2 kC.1 (kC.2.1 _ _ _ _ (by decide) vbB) (.ok h3 kE.1 (kE.2.1 _ _ _ _ (by decide) vbC) (.ok h4 kF.1 (kF.2.1 _ _ _ _ (by decide) vbE) (.nil F)))),dF,((kB.trans kC).trans kE).trans kF⟩
variable {B:Mem} {pf ml mn mf:Nat} {ps:List Nat}
theorem jf.kt {P:TypeId→Prop} {D:dh} (h:jf A p D pf ml mn b mf ps) (K:KT P A B) (hP:P 81∧P 201∧P 204∧P 3∧P 9∧P 162∧P 213) (hm:∀(m:Nat) (es:List MapEntry) (c:Nat),A.get m=some (.map es c)→B.get m=A.get m):jf B p D pf ml mn b mf ps:=by
 obtain⟨h1,h2,⟨h3,h3'⟩,h4,h5,h6⟩:=h;obtain⟨p1,p2,p3,p4,p5,p6,p7⟩:=hP;refine⟨K.vb h1 p1,h2.kt K ⟨p2,p3,p4,p5⟩ fun m es c h _=>hm m es c h,⟨qaD h3 K.1,by rw [hm _ _ _ h3'];exact h3'⟩,h4,fun i f hf=>?_,h6⟩;obtain⟨q,e1,e2⟩:=h5 i f hf;have e2':=e2;obtain⟨_,e3,-⟩:=e2';exact⟨q,e1,e2.kt K (K.2.1 _ _ _ _ p6 e3) ⟨p7,p5⟩⟩
variable {v:Value}
theorem nS.kt {P:TypeId→Prop} {l:List aP} (h:nS A l v) (K:KT P A B) (hP:P 150∧P 186∧P 246):nS B l v:=by
 obtain⟨q,y,rfl,h1,b,rows,h2,h3,h4⟩:=h;refine⟨q,y,rfl,K.vb h1 hP.1,b,rows,K.Mk h2 hP.2.1,h3,fun i s hs=>?_⟩;obtain⟨x,e1,b',e2⟩:=h4 i s hs;exact⟨x,e1,b',K.Mk e2 hP.2.2⟩
theorem DS:bS af 36= .ok (.agg ⟨[iN 0,iN 0,iN 0]⟩):=by kernel_rfl
theorem pW:aR af 36= .ok 3:=by kernel_rfl
theorem WD:bS af 37= .ok (.pointer none):=by kernel_rfl
theorem QD:bS af 9= .ok (aj []):=by kernel_rfl
theorem Xn:ct af 36 []= .ok (.agg ⟨[iN 0,iN 0,iN 0]⟩):=by kernel_rfl
theorem Xv {a b c d e f g h:List Value}:a6 af 141 8 [(0,my (31,a)),(1,my (31,b)),(2,my (33,c)),(3,my (34,d)),(4,my (36,e)),(5,my (38,f)),(6,my (40,g)),(7,my (42,h))]= .ok (aa 83 [my (31,a),my (31,b),my (33,c),my (34,d),my (36,e),my (38,f),my (40,g),my (42,h)],.mO 8 16):=by kernel_rfl
noncomputable def Cq:Code:=qc7.body.getD .skip
theorem Us:qc7.body=some (.seq (sub Cq [0]) (.seq (sub Cq [1,0]) (.seq (sub Cq [1,1,0]) (.seq (sub Cq [1,1,1,0]) (.seq (sub Cq [1,1,1,1,0]) (.seq (sub Cq [1,1,1,1,1,0]) (.seq (sub Cq [1,1,1,1,1,1,0]) (.seq (sub Cq [1,1,1,1,1,1,1,0]) (sub Cq [1,1,1,1,1,1,1,1]))))))))):=by kernel_rfl
theorem Vp {t:Operand}:vY af A.get .neq 24 t (.const (.pointer none)) (pw b 0) (.pointer none)= .ok (.bool true):=by kernel_rfl
variable {n:Nat}
theorem PR:(cd n).length=5:=rfl
theorem RS (l:List aP):eO l≠ []:=fun e=>by
 have h1:(eO l).length=(gq l).length+4:=by unfold eO crc.bP;rw [qar,crc.jV]
 rw [e] at h1;simp at h1
theorem BG {D:dh} {l:List aP} {x:Value} (h:fx A p D) (hd:D.dn=false) (hs:D.st<900∧D.ar<1000) (hla:D.la=D.ns.length) (hn:1≤n∧n≤6) (hw:cd n∉D.ns) (hN:ug (D.ns++[cd n])∧fW (D.ns++[cd n])=D.ns++[cd n])
 (hq:je D.all+(eO l).length≤quo) (hx:en A l x) (hl:l≠ []→DV l):
 ∃v A',bg af 11 [pV p,.int .i64 n,x] A v A'∧KT dT A A'∧∃(e:Nat) (D':dh) (sg:Nat×Nat×Nat) (sp:Value),v= .tuple ⟨[.agg ⟨ew sg⟩,sp,.int .i64 e]⟩∧fx A' p D'∧((l=[]∧e=2∧D'=D)∨(l≠ []∧(e,D')=iC D (cd n) (eO l)))∧(e=0→sg=mh n l∧nS A' l sp):=by
 refine cF (aq Tryz.func11) Us (by kernel_rfl) ?_;generalize hk:A.next=k
 have hxc:x.cells.toList=[x]∧aJ x=true:=by
  obtain⟨b,hb⟩:=hx;exact az.dk hb
 have k1:=Kp.alloc A (aa 24 [pV p]);have v1:=ay A 24 [pV p];have n1:(A.alloc (aa 24 [pV p])).next=k+1:=by rw [ae,hk]
 generalize hB1:A.alloc (aa 24 [pV p])=B1 at k1 v1 n1;have k2:=Kp.alloc B1 (aa 28 [x]);have v2:=ay B1 28 [x];have n2:(B1.alloc (aa 28 [x])).next=k+2:=by rw [ae,n1]
 generalize hB2:B1.alloc (aa 28 [x])=B2 at k2 v2 n2;have k3:=Kp.alloc B2 (aa 36 (ew (0,0,0)));have v3:=ay B2 36 (ew (0,0,0));have n3:(B2.alloc (aa 36 (ew (0,0,0)))).next=k+3:=by rw [ae,n2]
 generalize hB3:B2.alloc (aa 36 (ew (0,0,0)))=B3 at k3 v3 n3;have k4:=Kp.alloc B3 (aa 9 [aj []]);have v4:=ay B3 9 [aj []];have n4:(B3.alloc (aa 9 [aj []])).next=k+4:=by rw [ae,n3]
 generalize hB4:B3.alloc (aa 9 [aj []])=B4 at k4 v4 n4;have k5:=Kp.alloc B4 (aa 37 [.pointer none]);have v5:=ay B4 37 [.pointer none];have n5:(B4.alloc (aa 37 [.pointer none])).next=k+5:=by rw [ae,n4]
 generalize hB5:B4.alloc (aa 37 [.pointer none])=B5 at k5 v5 n5;have s6:aW af (B5.alloc (aa 9 [aj []])) 9 (pw B5.next 0) (aj (cd n))= .ok (B5.alloc (aa 9 [aj (cd n)])):=eG rb rfl rfl (by simp);have k6:=Kp.alloc B5 (aa 9 [aj (cd n)]);have v6:=ay B5 9 [aj (cd n)];have n6:(B5.alloc (aa 9 [aj (cd n)])).next=k+6:=by rw [ae,n5]
 generalize B5.alloc (aa 9 [aj (cd n)])=B6 at s6 k6 v6 n6;obtain⟨g1,h1⟩:=Ph (A:=B6) (b:=true) (c:=1);have k7:=(Kp.alloc B6 (aa 4 [.bool true])).trans (Kp.alloc (B6.alloc (aa 4 [.bool true])) (aa 38 [iN 1]));have n7':(B6.alloc (aa 4 [.bool true])).next=k+7:=by rw [ae,n6]
 have v7:=(ay B6 4 [.bool true]).kp (Kp.alloc (B6.alloc (aa 4 [.bool true])) (aa 38 [iN 1]));have n7:((B6.alloc (aa 4 [.bool true])).alloc (aa 38 [iN 1])).next=k+8:=by rw [ae,n7']
 generalize (B6.alloc (aa 4 [.bool true])).alloc (aa 38 [iN 1])=B7 at h1 k7 v7 n7;obtain⟨g2,h2⟩:=Ph (A:=B7) (b:=true) (c:=2);have k8:=(Kp.alloc B7 (aa 4 [.bool true])).trans (Kp.alloc (B7.alloc (aa 4 [.bool true])) (aa 38 [iN 2]));have n8':(B7.alloc (aa 4 [.bool true])).next=k+9:=by rw [ae,n7]
 have v8:=(ay B7 4 [.bool true]).kp (Kp.alloc (B7.alloc (aa 4 [.bool true])) (aa 38 [iN 2]));have n8:((B7.alloc (aa 4 [.bool true])).alloc (aa 38 [iN 2])).next=k+10:=by rw [ae,n8']
 generalize (B7.alloc (aa 4 [.bool true])).alloc (aa 38 [iN 2])=B8 at h2 k8 v8 n8;rw [hk] at v1;rw [n1] at v2;rw [n2] at v3;rw [n3] at v4;rw [n4] at v5;rw [n5] at v6 s6;rw [n6] at v7 h1;rw [n7] at v8 h2;have ls:List (FuncId×List Value):=[];generalize hL: [(31,[pV (k+6),pV (k+6+1)]),(31,[pV (k+8),pV (k+8+1)]),(33,[pV (k+1),pV (k+3)]),(34,[pV (k+3),pV (k+4)]),(36,[pV k,pV (k+5)]),(38,[pV k,pV (k+5),pV (k+3)]),(40,[pV k,pV (k+5)]),(42,[pV k])]=L;have bs:=Xv (a:=[pV (k+6),pV (k+6+1)]) (b:=[pV (k+8),pV (k+8+1)]) (c:=[pV (k+1),pV (k+3)]) (d:=[pV (k+3),pV (k+4)]) (e:=[pV k,pV (k+5)]) (f:=[pV k,pV (k+5),pV (k+3)]) (g:=[pV k,pV (k+5)]) (h:=[pV k]);have hrow: [my (31,[pV (k+6),pV (k+6+1)]),my (31,[pV (k+8),pV (k+8+1)]),my (33,[pV (k+1),pV (k+3)]),my (34,[pV (k+3),pV (k+4)]),my (36,[pV k,pV (k+5)]),my (38,[pV k,pV (k+5),pV (k+3)]),my (40,[pV k,pV (k+5)]),my (42,[pV k])]=L.map my:=by rw [←hL];rfl
 rw [hrow] at bs;have k9:=Kp.alloc B8 (aa 83 (L.map my));have v9:=ay B8 83 (L.map my);have n9:(B8.alloc (aa 83 (L.map my))).next=k+11:=by rw [ae,n8]
 generalize hB9:B8.alloc (aa 83 (L.map my))=B9 at k9 v9 n9;rw [n8] at v9;have hsl:az B9 83 1 (k+10) (L.map fun q=>[my q]) (.slice (some ⟨k+10,0,none⟩) 8 16):=by
  refine .inr ⟨.var (L.map my).length,16,by rw [qas,←hL];rfl,v9.1,?_,fun l hl=>by obtain⟨_,-,rfl⟩:=qa3.1 hl;rfl,.inl (by rw [qas,←hL];rfl)⟩;rw [show(L.map fun q=>[my q]).flatten=L.map my by rw [←hL];rfl];exact v9.2
 have k79:=k8.trans k9;have k69:=k7.trans k79;have k59:=k6.trans k69;have k49:=k5.trans k59;have k39:=k4.trans k49;have k29:=k3.trans k39;have k19:=k2.trans k29;have kA9:=k1.trans k19;have V1:=v1.kp k19;have V2:=v2.kp k29;have V3:=v3.kp k39;have V4:=v4.kp k49;have V5:=v5.kp k59;have V6:=v6.kp k69;have V7:=v7.kp k79;have V8:=v8.kp k9;obtain⟨e,F,D',hSt,KF,hDF,hcase,W3,hF0⟩:∃(e:Nat) (F:Mem) (D':dh),kX (k+10) L B9 e F∧KT dT A F∧fx F p D'∧((l=[]∧e=2∧D'=D)∨(l≠ []∧(e,D')=iC D (cd n) (eO l)))∧VB F 36 (k+2) (.var 3) (ew (0,0,0))∧(e=0→∃y,VB F 37 (k+4) (.var 1) [y]∧nS F l y∧VB F 9 (k+3) (.var 1) [aj (eO l)]):=by
  rw [←hL];obtain⟨C,e0,h33,nC,fC,hc⟩:=VI V2 V4 (hx.kp kA9) hl;have kAC:Kp A C:=⟨by have:=kA9.1;omega,fun z hz=>by rw [fC z (by omega) (by omega),kA9.2 z hz]⟩;rcases hc with⟨hl0,rfl⟩|⟨hl0,rfl,V9C⟩
  ·exact⟨2,C,D,.ok (Dt V7) (qao _) rfl (.ok (Dt V8) (qao _) rfl (.err h33 (by decide))),kAC.kt,h.kp kAC,.inl ⟨hl0,rfl,rfl⟩,⟨by omega,V3.2.same (fC _ (by omega) (by omega))⟩,fun h=>by cases h⟩
  ·obtain⟨E,y,h34,V10E,hSE,nE,fE⟩:=VJ (s:=.pointer none) V9C ⟨by omega,V5.2.same (fC _ (by omega) (by omega))⟩ (hl hl0);have fBE:∀z,z<k+11→z≠k+3→z≠k+4→E.get z=B9.get z:=fun z hz h1 h2=>by rw [fE z (by omega) h2,fC z (by omega) h1]
   have kAE:Kp A E:=⟨by have:=kA9.1;omega,fun z hz=>by rw [fBE z (by omega) (by omega) (by omega),kA9.2 z hz]⟩;have hlo:=hl hl0;have hil:(eO l).length<900000:=by
    have h1:(eO l).length=(gq l).length+4:=by unfold eO crc.bP;rw [qar,crc.jV]
    have h2:(gq l).length<800000:=hlo.2.2.2.2.2.2.2.2;omega
   have V9E:VB E 9 (k+3) (.var 1) [aj (eO l)]:=⟨by omega,V9C.2.same (fE _ (by omega) (by omega))⟩;have VrE:VB E 83 (k+10) (.var (L.map my).length) (L.map my):=⟨by omega,v9.2.same (fBE _ (by omega) (by omega) (by omega))⟩;obtain⟨F,hF,hD,kF⟩:=Iw (z3:=k) (z9:=k+3) (z11:=k+5) (h.kp kAE) hd hs hla hw (by rw [PR];omega) hN hq (RS l) hil ⟨by omega,V1.2.same (fBE _ (by omega) (by omega) (by omega))⟩ V9E ⟨by omega,V6.2.same (fBE _ (by omega) (by omega) (by omega))⟩ VrE;refine⟨_,F,_,.ok (Dt V7) (qao _) rfl (.ok (Dt V8) (qao _) rfl (.ok h33 nC (fC _ (by omega) (by omega)) (.ok h34 nE (fE _ (by omega) (by omega)) hF))),kAE.kt.trans kF,hD,.inr ⟨hl0,rfl⟩,kF.vb ⟨by omega,V3.2.same (fBE _ (by omega) (by omega) (by omega))⟩ (by decide),fun _=>⟨y,kF.vb V10E (by decide),hSE.kt kF ⟨by decide,by decide,by decide⟩,kF.vb V9E (by decide)⟩⟩
 obtain⟨g3,h3⟩:=tS hsl hSt (by rw [←hL];show 8<1000;omega);have hsN:=fun ih A=>(X' (ih:=ih) (A:=A) hn).1
 have fnl:∀t:T Value,ev t (.func 30)= .ok (.func (.func 30) ⟨[]⟩ ⟨[]⟩):=fun t=>oM t 30
 have l11a:ag af B6.get 9 (pw (k+5) 0)= .ok (aj (cd n)):=v6.ld rfl u9 rfl;have l11b:ag af B7.get 9 (pw (k+5) 0)= .ok (aj (cd n)):=(v6.kp k7).ld rfl u9 rfl;have lp6:ag af B6.get 24 (pw k 0)= .ok (pV p):=by
  obtain⟨d,hd,ha⟩:=js;exact(v1.kp (k2.trans (k3.trans (k4.trans (k5.trans k6))))).ld rfl hd ha
 have hne:cd n≠ []:=by simp [cd]
 clear hL hrow v1 v2 v3 v4 v5 v6 v7 v8 v9 V1 V2 V4 V5 V6 V7 V8 k19 k29 k39 k49 k59 k69 k79 k1 k2 k3 k4 k5 k6 k7 k8 k9 hsl hSt;have fin:∀(sg:Nat×Nat×Nat),∃G,aW af F 36 (pw (k+2) 0) (.agg ⟨ew sg⟩)= .ok G∧ag af G.get 36 (pw (k+2) 0)= .ok (.agg ⟨ew sg⟩)∧KT dT A G∧fx G p D'∧KT (·≠36) F G:=fun sg=>by
  obtain⟨G,sG,vG,nG,fG⟩:=cY (tb:=af) (t:=36) (l':=ew sg) (by exact pW) W3.2 rfl (by simp [ew]) (by
   intro v hv;simp only [ew,qaK,qbb,or_false] at hv;rcases hv with rfl|rfl|rfl<;>rfl)
  obtain⟨d,hd1,hd2⟩:=a8 (t:=36) (p:=true) (by kernel_rfl);have K:=KT.ye W3 (B:=G) (by omega) fun z _=>fG z
  obtain⟨pf,ml,mn,b,mf,ps,hP⟩:=hDF;have hkF:=KF.1;refine⟨G,sG,aI hd1 hd2 pW vG,⟨by omega,fun e z q l he hz=>?_,fun z hz=>?_⟩,⟨pf,ml,mn,b,mf,ps,hP.kt K ⟨by decide,by decide,by decide,by decide,by decide,by decide,by decide⟩ fun m es c hm=>fG m (Ne.symm (W3.gj hm))⟩,K⟩
  ·have:=hz.1;rw [fG z (by omega),KF.2.1 e z q l he hz]
  ·have:=hz.1;rw [fG z (by omega),KF.2.2 z hz]
 simp only [pV,my] at bs h1 h2 h3 lp6 hB1;simp only [ew] at hB3;simp only [pV];apply W.q
 ·intro M;simp (disch:=first|decide+kernel|omega) only [Cq,qc7,Aq,qal,dj,hxc.1,DS,au,hB1,hB2,hB3,hk,n1,n2];rfl
 apply W.q
 ·intro M;simp (disch:=first|decide+kernel|omega) only [Cq,qc7,Aq,qal,QD,mu,hB4,n3];rfl
 apply W.q
 ·intro M;simp (disch:=first|decide+kernel|omega) only [Cq,qc7,Aq,qal,WD,dj,hB5,n4];rfl
 apply W.q
 ·intro M;simp (disch:=first|decide+kernel|omega) only [Cq,qc7,Aq,qal,hsN,QD,mu,s6,n5];rfl
 apply W.q
 ·intro M;simp (disch:=first|decide+kernel|omega) only [Cq,qc7,Aq,qal,fnl];rfl
 apply W.qG (g1+g2+g3)
 ·intro M hM;simp (config:={maxSteps:=4000000}) (disch:=first|decide+kernel|omega|simp only [Wq,qal]) only [Cq,qc7,Aq,qaq,reduceIte,qal,qam,lp6,rZ,JS,Vp,bc,h1,l11a,l11b,hne,not_false_eq_true,decide_true,h2,aY,bs,hB9,n8,h3,pU,Fq,aA [(5,3)]];rfl
 apply W.seq;by_cases he:e=0
 ·obtain⟨y,Y10,hSF,Y9⟩:=hF0 he;subst he;obtain⟨G,sG,lG,KG,hDG,KFG⟩:=fin (mh n l);have l10:ag af F.get 37 (pw (k+4) 0)= .ok y:=by
   obtain⟨d,hd,ha⟩:=T3;exact Y10.ld rfl hd ha
  have l10G:ag af G.get 37 (pw (k+4) 0)= .ok y:=by
   obtain⟨d,hd,ha⟩:=T3;exact(KFG.vb Y10 (by decide)).ld rfl hd ha
  have l9:ag af F.get 9 (pw (k+3) 0)= .ok (aj (eO l)):=Y9.ld rfl u9 rfl;obtain⟨g4,h4⟩:=yX hSF;have ll:=cP (tb:=af) (t:=9) (l:=eO l) u9;have hys:cG 100 y y=true:=by
   obtain⟨q,_,rfl,-⟩:=hSF;exact mM q
  have hyc:∃q,y=pV q:=by
   obtain⟨q,_,rfl,-⟩:=hSF;exact⟨q,rfl⟩
  simp only [ew,mh] at sG lG;rw [show crc.bP (gq l)=eO l from rfl] at sG lG;have bd:=Zb (a:=(n:Int)) (b:=(l.length:Int)) (c:=((eO l).length:Int));apply W.run 20
  ·intro M;simp (disch:=first|decide+kernel|omega) only [Cq,qc7,Aq,qal];rfl
  apply W.qG (g4)
  ·intro M hM;simp (config:={maxSteps:=4000000}) (disch:=first|decide+kernel|omega|simp only [Wq,qal]) only [Cq,qc7,Aq,qaq,reduceIte,qal,qam,l10,l10G,h4,l9,ll,bd,sG,pU,hys,Fq,aA [(3,2),(6,2),(6,7)]];rfl
  apply W.run 20
  ·intro M;simp (disch:=first|decide+kernel|omega) only [Cq,qc7,Aq,qal];rfl
  exact⟨by simp,rfl,_,(by simp only [qc7,Aq,qal,lG]<;>rfl),KG,0,D',mh n l,y,rfl,hDG,hcase,fun _=>⟨rfl,hSF.kt KFG ⟨by decide,by decide,by decide⟩⟩⟩
 ·obtain⟨G,sG,lG,KG,hDG,KFG⟩:=fin (0,0,0);simp only [ew] at sG lG;apply W.run 20
  ·intro M;simp (disch:=first|decide+kernel|omega) only [Cq,qc7,Aq,qal,he,Xn,sG];rfl
  exact⟨by simp,rfl,_,(by simp only [qc7,Aq,qal,lG]<;>rfl),KG,e,D',(0,0,0),.pointer none,rfl,hDG,hcase,fun h=>absurd h he⟩
theorem Kh:∀(l:List aP),(∀e∈l,e.word.length≤9)→kj l≤9*l.length
 | [],_=>qao _
 |x::l,h=>by
  have h1:=Kh l fun e he=>h e (qay _ he)
  have h2:=h x qaz;unfold kj at h1⊢;simp only [qbx,List.sum_cons,qaA];omega
theorem RV {l:List aP} (hs:kj l<1000) (hw:∀e∈l,e.weight<4294967296):∀i,i≤l.length→qB i (kj (l.take i)) (gY [] (l.take i) S0):=by
 intro i
 induction i with
 |zero=>exact fun _=>X5
 |succ i ih=>
  intro hi;have:=BQ l i;have hv:=zr (hw l[i] (qbg (by omega)));rw [qaC (by omega),FY,tY];exact Jr (by omega) (ih (by omega)) (by omega)
theorem ZZ {l:List aP} (h0:l≠ []) (ha:rk l) (hl:l.length≤60) (hw:∀e∈l,(1≤e.word.length∧e.word.length≤9)∧e.weight<4294967296):DV l:=by
 obtain⟨r1,-,r3,-,-,-⟩:=NG h0 ha fun e he=>⟨by have:=(hw e he).1.2;omega,(hw e he).2⟩
 have hs:=Kh l fun e he=>(hw e he).1.2
 have iv:=RV (by omega) (fun e he=>(hw e he).2) l.length (qao _);rw [qaR] at iv;obtain⟨M,o,hM,-,hN⟩:=On (f:=255) h0 ha fun e he=>by have:=(hw e he).1.2;omega
 have iv2:qB l.length (kj l) (dx 0 (gY [] l S0)):=(jX (d:=0) (by omega) _ _ _ iv).1;rw [show dx 0 (gY [] l S0)=(M,o,[]) from hM] at iv2;obtain⟨i1,-,i3,i4,-,-⟩:=iv2;have i1:o.arcs.length≤l.length:=i1;have i3:M.length+0≤kj l:=i3;obtain⟨-,n2,-,n4⟩:=JG M (bZ o);have hdoc:dO l=(gX M (bZ o)).1:=by unfold dO;rw [←hN]
 rw [←hdoc] at n2 n4;have hL:=OG r1;have hle:least l≤4294967296:=by
  obtain⟨e,he,h⟩:=oT h0;rw [h];exact zr (hw e he).2
 refine⟨h0,ha,fun e he=>⟨(hw e he).1.1,by have:=(hw e he).1.2;omega,(hw e he).2⟩,⟨by omega,by omega⟩,by omega,fun h=>?_,hL,by omega,?_⟩
 ·unfold dO at h;rw [h] at r3;simp at r3
 ·have hs:=Ke (c:=l.length) (by omega) (dO l) 0 (by omega) fun s hs=>by
   obtain⟨i,hi,e⟩:=qbM hs;obtain⟨a1,a2,a3,a4⟩:=hL i s (by rw [←e];exact qan hi);refine⟨?_,a3,fun a ha=>(a4 a ha).2⟩;rcases n4 s hs with h|rfl
   ·exact(i4 s h).2
   ·simpa [bZ] using i1
  have hmul:(19*l.length+18)*(dO l).length≤1158*541:=qdV (by omega) (by omega);have e1:=jy l.length (by omega);have e2:=jy (dO l).length (by omega);have e3:=jy (least l) (by omega);unfold gq ib;simp only [qar,qaA,qaT];omega
def Tw (fs:List (List UInt8×List UInt8)) (w:List UInt8) (o:Option (List aP)):Prop:=match o with
 |none=>fileOf fs w=none
 |some l=>DV l∧fileOf fs w=some (crc.bP (gq l))
def CX (l:List aP) (o:Option (List aP)):Bool:=match o with
 |none=>false
 |some l'=>decide ((crc.bP (gq l')).length=(crc.bP (gq l)).length∧l'.length=l.length)
theorem SD {l:List aP} {q e:Nat} {n:Value} (h:DV l) (v:VB A 36 q (.var 3) [n,.int .i64 e,.int .i64 b]):
 ∃w A',bg af 70 [aj (crc.bP (gq l)),pV q] A w A'∧Kp A A'∧∃x,w= .tuple ⟨[x,.bool (decide ((crc.bP (gq l)).length=b∧l.length=e))]⟩∧(decide ((crc.bP (gq l)).length=b∧l.length=e)=true→nS A' l x):=by
 have ll:=cP (tb:=af) (t:=9) (l:=crc.bP (gq l)) u9;have l1:ag af A.get 3 (pw q (0+2))= .ok (.int .i64 b):=v.ld rfl u3 rfl;by_cases hb:(crc.bP (gq l)).length=b
 ·obtain⟨v1,B,⟨g,hg⟩,kB,x,rfl,hx⟩:=sm (A:=A) h;obtain⟨g2,hg2⟩:=yX hx;have l2:ag af B.get 3 (pw q (0+1))= .ok (.int .i64 e):=(v.kp kB).ld rfl u3 rfl;have sl:=eS .i64 e rfl;refine⟨_,B,?_,kB,x,rfl,fun _=>hx⟩;simp only [pV];by_cases he:l.length=e
  ·rw [decide_eq_true ⟨hb,he⟩];rw [hb] at ll;rw [he] at hg2;refine aT (g+g2) 60 (aq Tryz.func70) (by kernel_rfl) fun M hM=>?_
   simp (config:={maxSteps:=4000000}) (disch:=first|decide+kernel|omega|simp only [Wq,qal]) only [Tryz.f70,Aq,qaq,reduceIte,qal,qam,ll,TK,NZ,l1,hg,hg2,l2,sl,qau,qav,bc,Fq,aA [(7,5)]]<;>rfl
  ·rw [decide_eq_false (fun hh=>he hh.2)];rw [hb] at ll;refine aT (g+g2) 60 (aq Tryz.func70) (by kernel_rfl) fun M hM=>?_
   simp (config:={maxSteps:=4000000}) (disch:=first|decide+kernel|omega|simp only [Wq,qal]) only [Tryz.f70,Aq,qaq,reduceIte,qal,qam,ll,he,TK,NZ,l1,hg,hg2,l2,sl,qau,qav,bc,Fq,aA [(7,5)]]<;>rfl
 ·refine⟨_,A,?_,Kp.refl A,.pointer none,rfl,fun hh=>absurd (of_decide_eq_true hh).1 hb⟩;rw [decide_eq_false (fun hh=>hb hh.1)];simp only [pV];refine bm 60 (aq Tryz.func70) (by kernel_rfl) fun M=>?_
  simp (disch:=first|decide+kernel|omega) only [Tryz.f70,Aq,qal,ll,hb,NZ,l1,bc]<;>rfl
theorem VN:bg af 72 [] A (.tuple ⟨[.pointer none,.bool false]⟩) A:=by
 refine bm 60 (aq Tryz.func72) (by kernel_rfl) fun M=>?_
 simp (disch:=first|decide+kernel|omega) only [Tryz.f72,Aq,qal,bc]<;>rfl
theorem SE {q:Nat} (h:ic A p fs) (hw:fileOf fs w=none):
 ∃E,bg af 71 [pw p 0,aj w,.func (.func 70) ⟨[]⟩ ⟨[pw q 0]⟩,.func (.func 72) ⟨[]⟩ ⟨[]⟩] A (.tuple ⟨[.pointer none,iN 12]⟩) E∧Kp A E:=by
 generalize hk:A.next=k0
 obtain⟨n1,n2,D,hD,n3,kD,w0,w1,w2⟩:=zy (A:=A) (p:=p) (w:=w) (f:=.func (.func 70) ⟨[]⟩ ⟨[pw q 0]⟩) (t:=127) hk;have kE:=Kp.alloc D (aa 3 [iN 0]);have sE:aW af (D.alloc (aa 3 [iN 0])) 3 (pw D.next 0) (iN 0)= .ok (D.alloc (aa 3 [iN 0])):=eG VU rfl rfl (by simp);rw [n3] at sE;generalize hE:D.alloc (aa 3 [iN 0])=E at*;obtain⟨gd,hgd⟩:=Az (h.kp kD);obtain⟨gs,hgs⟩:=yW (w:=w) (h.kp kD);rw [hw] at hgs;simp only [qey,qbI,qaI,if_false,qaT] at hgs;have l0:=Vg w0;have l1:ag af D.get 9 (pw (k0+1) 0)= .ok (aj w):=w1.ld rfl u9 rfl;have e44:vY af D.get .eql 24 (.tmp 16) (.const (.pointer none)) (pw p 0) (.pointer none)= .ok (.bool false):=CL;obtain⟨gn,hgn⟩:=VN (A:=E);refine⟨E,?_,kD.trans kE⟩;refine aT (gd+gs+gn) 60 (aq Tryz.func71) (by kernel_rfl) fun M hM=>?_
 simp (config:={maxSteps:=4000000}) (disch:=first|decide+kernel|omega|simp only [Wq,qal]) only [Tryz.f71,Aq,qaq,reduceIte,qal,qam,bc,e9,dj,eA,hk,n1,n2,hD,l0,bW,e44,hgd,l1,hgs,qau,qav,qA,fh,n3,hE,sE,aY,hgn]<;>rfl
theorem JW {l:List aP} {o:Option (List aP)} (h:ic A p fs) (hn:1≤n∧n≤6) (hw:Tw fs (cd n) o):
 ∃v E,bg af 23 [.pointer (some ⟨p,0,none⟩),.agg ⟨ew (mh n l)⟩] A v E∧Kp A E∧∃x,v=(if CX l o=true then .tuple ⟨[x,.int .i64 (0:Nat)]⟩ else .tuple ⟨[.pointer none,.int .i64 (12:Nat)]⟩)∧(CX l o=true→∃l',o=some l'∧nS E l' x):=by
 have kB:=Kp.alloc A (aa 36 (ew (mh n l)));have vB:=ay A 36 (ew (mh n l));generalize hB:A.alloc (aa 36 (ew (mh n l)))=B at kB vB;have l0:ag af B.get 3 (.pointer (some ⟨A.next,0,none⟩))= .ok (.int .i64 n):=vB.ld rfl u3 rfl;have kn:=fun ih A=>(X' (ih:=ih) (A:=A) hn).1
 cases o with
 |none=>
  obtain⟨E,⟨g,hg⟩,kE⟩:=SE (q:=A.next) (h.kp kB) hw;refine⟨_,E,?_,kB.trans kE,.pointer none,rfl,fun h=>by cases h⟩;show bg af 23 _ A (.tuple ⟨[.pointer none,.int .i64 (12:Nat)]⟩) E;refine aT (g) 60 (aq Tryz.func23) (by kernel_rfl) fun M hM=>?_
  simp (disch:=first|decide+kernel|omega) only [Tryz.f23,Aq,qal,bc,au,hB,aY,NY,l0,kn,oM,hg,qau,qav]<;>rfl
 |some l'=>
  obtain⟨hok,hf⟩:=hw;have hdl:(gq l').length<800000:=hok.2.2.2.2.2.2.2.2;have hlen:=F4 (gq l');obtain⟨v,E,⟨g,hg⟩,kE,x,hx,rfl⟩:=VL (q:=A.next) (n:=.func (.func 72) ⟨[]⟩ ⟨[]⟩) (is:=CX l (some l')) (P:=fun E x=>CX l (some l')=true→nS E l' x) (h.kp kB) hf (by omega) (fun D kD=>by
   obtain⟨w,E,h1,h2,x,h3,h4⟩:=SD (A:=D) (n:=.int .i64 n) hok (vB.kp kD);exact⟨w,E,h1,h2,x,h3,h4⟩)
  refine⟨_,E,?_,kB.trans kE,x,rfl,fun hf=>⟨l',rfl,hx hf⟩⟩;cases hfit:CX l (some l') with
  |true=>
   rw [hfit] at hg;simp only [if_true] at hg⊢;refine aT (g) 60 (aq Tryz.func23) (by kernel_rfl) fun M hM=>?_
   simp (disch:=first|decide+kernel|omega) only [Tryz.f23,Aq,qal,bc,au,hB,aY,NY,l0,kn,oM,hg,qau,qav]<;>rfl
  |false=>
   rw [hfit] at hg;simp only [qaI,if_false] at hg⊢;refine aT (g) 60 (aq Tryz.func23) (by kernel_rfl) fun M hM=>?_
   simp (disch:=first|decide+kernel|omega) only [Tryz.f23,Aq,qal,bc,au,hB,aY,NY,l0,kn,oM,hg,qau,qav]<;>rfl
def fR:List aP:=[⟨[111,108,100],1,false⟩]
theorem Dg:DV fR:=ZZ (by simp [fR]) ⟨fun y h=>by simp at h,trivial⟩ (by simp [fR]) (fun e he=>by
 rw [qaY.1 he];exact⟨⟨by decide,by decide⟩,by decide⟩)
theorem Fj:(gq fR).length≤1000:=by decide+kernel
theorem wc (l:List aP):(eO l).length=(gq l).length+4:=by unfold eO crc.bP;rw [qar,crc.jV]
theorem Vn:ug [cd 1]∧fW [cd 1]=[cd 1]:=⟨⟨by simp,by simp,by decide,by decide⟩,List.mergeSort_of_pairwise (by simp)⟩
theorem Yh:ug [cd 1,cd 2]∧fW [cd 1,cd 2]=[cd 1,cd 2]:=⟨⟨by simp,by decide,by decide,by decide⟩,List.mergeSort_of_pairwise (by decide+kernel)⟩
def uY (i1 i2:List UInt8) (ok:Bool) (D:dh):Prop:=(1≤D.k∧D.k≤D.ns.length∧D.fs.length=D.ns.length)∧D.fs[0]?=some (i1,[])∧
 ((D.ns=[cd 1]∧ok=false)∨(D.ns=[cd 1,cd 2]∧(ok=true→D.k=2)∧∃f,D.fs[1]?=some f∧(∀m,∃q,f.1++f.2.take m=i2.take q)∧(ok=true→f=(i2,[]))))
theorem uY.qab {i1 i2:List UInt8} {ok:Bool} {D D':dh} (h:uY i1 i2 ok D) (hr:W0 D D') (hl:D'.fs.length=D'.ns.length):uY i1 i2 ok D'∧(∃o,fileOf D'.all (cd 2)=o∧(ok=true→o=some i2)∧∀s,o=some s→∃q,s=i2.take q)∧fileOf D'.all (cd 1)=some i1:=by
 obtain⟨⟨h1,h2,h3⟩,h4,h5⟩:=h;obtain⟨-,-,-,-,⟨k',r1,r2,r3,r4⟩,r5⟩:=hr;have hkl:D'.ns.length=k':=by rw [r4,qaE];omega
 have g0:D'.fs[0]?=some (i1,[]):=by
  have hg:D'.fs[0]?=some (D'.fs[0]'(by omega)):=qan (by omega)
  obtain⟨f,e1,m,e2⟩:=r5 0 _ hg;rw [h4] at e1;cases e1;rw [hg,e2];simp
 have ha:∀(i:Nat) (w:List UInt8) (f:List UInt8×List UInt8),D'.ns[i]?=some w→D'.fs[i]?=some f→D'.all[i]?=some (w,f.1++f.2):=fun i w f e1 e2=>by
  unfold dh.all;rw [List.getElem?_zip_eq_some,qaN,e2];exact⟨e1,rfl⟩
 have hal:D'.all.length=k':=by
  unfold dh.all;rw [List.length_zip,qas];omega
 rcases h5 with⟨e,hok⟩|⟨e,hk2,f,hf,hq,hfo⟩
 ·have hk1:k'=1:=by rw [e,qaS] at r2;omega
  subst hk1;have hn:D'.ns=[cd 1]:=by rw [r4,e];rfl
  have ea:D'.all=[(cd 1,i1)]:=by
   have:=ha 0 (cd 1) (i1,[]) (by rw [hn];rfl) g0
   match hq:D'.all,hal with
   | [c],_=>
    rw [hq] at this;simpa using this
  refine⟨⟨⟨by omega,by omega,hl⟩,g0,.inl ⟨hn,hok⟩⟩,⟨none,by rw [ea];simp [fileOf,show¬cd 2=cd 1 by decide],(fun h=>by rw [hok] at h;cases h),fun s h=>by cases h⟩,?_⟩;rw [ea];simp [fileOf]
 ·by_cases hk1:k'=1
  ·subst hk1;have hok:ok=false:=by
    cases hb:ok with
    |false=>rfl
    |true=>have:=hk2 hb;omega
   have hn:D'.ns=[cd 1]:=by rw [r4,e];rfl
   have ea:D'.all=[(cd 1,i1)]:=by
    have:=ha 0 (cd 1) (i1,[]) (by rw [hn];rfl) g0
    match hq:D'.all,hal with
    | [c],_=>
     rw [hq] at this;simpa using this
   refine⟨⟨⟨by omega,by omega,hl⟩,g0,.inl ⟨hn,hok⟩⟩,⟨none,by rw [ea];simp [fileOf,show¬cd 2=cd 1 by decide],(fun h=>by rw [hok] at h;cases h),fun s h=>by cases h⟩,?_⟩;rw [ea];simp [fileOf]
  ·have hk2':k'=2:=by rw [e] at r2;simp at r2;omega
   subst hk2';have hn:D'.ns=[cd 1,cd 2]:=by rw [r4,e];rfl
   have hg:D'.fs[1]?=some (D'.fs[1]'(by omega)):=qan (by omega)
   obtain⟨f',e1,m,e2⟩:=r5 1 _ hg;rw [hf] at e1;cases e1;rw [e2] at hg;obtain⟨q,hq'⟩:=hq m;have ea:D'.all=[(cd 1,i1),(cd 2,f.1++f.2.take m)]:=by
    have a0:=ha 0 (cd 1) (i1,[]) (by rw [hn];rfl) g0;have a1:=ha 1 (cd 2) _ (by rw [hn];rfl) hg
    match hq:D'.all,hal with
    | [c,d],_=>
     rw [hq] at a0 a1;simp at a0 a1;rw [a0,a1]
   have hfo2:ok=true→f.1++f.2.take m=i2:=fun h=>by rw [hfo h];simp
   refine⟨⟨⟨by omega,by omega,hl⟩,g0,.inr ⟨hn,fun _=>r3,_,hg,fun m'=>⟨q,by simp [hq']⟩,fun h=>by rw [hfo2 h]⟩⟩,⟨some (f.1++f.2.take m),?_,fun h=>by rw [hfo2 h],fun s h=>⟨q,by cases h;exact hq'⟩⟩,?_⟩
   ·rw [ea];have:¬cd 2=cd 1:=by decide
    simp [fileOf,this]
   ·rw [ea];simp [fileOf]
def D1 (i1:List UInt8) (a:Nat):dh:=⟨1,1,[cd 1],[(i1,[])],4,a,false⟩
theorem Wz (i1:List UInt8):iC D0 (cd 1) i1=(0,D1 i1 0):=rfl
theorem WA {i1 i2:List UInt8} {a e:Nat} {D:dh} (ha:a<6) (h:(e,D)=iC (D1 i1 a) (cd 2) i2):uY i1 i2 (decide (e=0)) D∧(e=0↔a=0∨a=5):=by
 have hlt:∀(i:List UInt8),∀m,∃q,([]:List UInt8)++i.take m=i.take q:=fun i m=>⟨m,rfl⟩
 have h0:∀m,∃q,([]:List UInt8)++([]:List UInt8).take m=i2.take q:=fun m=>⟨0,by simp⟩
 have hall:∀m,∃q,i2++([]:List UInt8).take m=i2.take q:=fun m=>⟨i2.length,by simp⟩
 have:a=0∨a=1∨a=2∨a=3∨a=4∨a=5:=by omega
 rcases this with rfl|rfl|rfl|rfl|rfl|rfl
 ·have e1:iC (D1 i1 0) (cd 2) i2=(0,⟨2,2,[cd 1,cd 2],[(i1,[]),(i2,[])],8,0,false⟩):=rfl;rw [e1] at h;cases h;exact⟨⟨⟨qaG rfl,qaG rfl,rfl⟩,rfl,.inr ⟨rfl,fun _=>rfl,_,rfl,hall,fun _=>rfl⟩⟩,by decide⟩
 ·have e1:iC (D1 i1 1) (cd 2) i2=(13,⟨1,1,[cd 1],[(i1,[])],5,0,true⟩):=rfl;rw [e1] at h;cases h;exact⟨⟨⟨qaG rfl,qaG rfl,rfl⟩,rfl,.inl ⟨rfl,rfl⟩⟩,by decide⟩
 ·have e1:iC (D1 i1 2) (cd 2) i2=(13,⟨1,2,[cd 1,cd 2],[(i1,[]),([],[])],6,0,true⟩):=rfl;rw [e1] at h;cases h;exact⟨⟨⟨qaG rfl,qaG rfl,rfl⟩,rfl,.inr ⟨rfl,(fun h=>by cases h),_,rfl,h0,(fun h=>by cases h)⟩⟩,by decide⟩
 ·have e1:iC (D1 i1 3) (cd 2) i2=(13,⟨1,2,[cd 1,cd 2],[(i1,[]),([],i2)],7,0,true⟩):=rfl;rw [e1] at h;cases h;exact⟨⟨⟨qaG rfl,qaG rfl,rfl⟩,rfl,.inr ⟨rfl,(fun h=>by cases h),_,rfl,hlt i2,(fun h=>by cases h)⟩⟩,by decide⟩
 ·have e1:iC (D1 i1 4) (cd 2) i2=(13,⟨1,2,[cd 1,cd 2],[(i1,[]),(i2,[])],8,0,true⟩):=rfl;rw [e1] at h;cases h;exact⟨⟨⟨qaG rfl,qaG rfl,rfl⟩,rfl,.inr ⟨rfl,(fun h=>by cases h),_,rfl,hall,(fun h=>by cases h)⟩⟩,by decide⟩
 ·have e1:iC (D1 i1 5) (cd 2) i2=(0,⟨2,2,[cd 1,cd 2],[(i1,[]),(i2,[])],8,1,false⟩):=rfl;rw [e1] at h;cases h;exact⟨⟨⟨qaG rfl,qaG rfl,rfl⟩,rfl,.inr ⟨rfl,fun _=>rfl,_,rfl,hall,fun _=>rfl⟩⟩,by decide⟩
theorem Wy (i1 i2:List UInt8) (a:Nat):uY i1 i2 false (D1 i1 a):=⟨⟨qaG rfl,qaG rfl,rfl⟩,rfl,.inl ⟨rfl,rfl⟩⟩
theorem uY.Z9 {i1 i2:List UInt8} {ok:Bool} {D:dh} (h:uY i1 i2 ok D):∀k,D.k≤k→k≤D.ns.length→ug (D.ns.take k)∧fW (D.ns.take k)=D.ns.take k:=fun k h1 h2=>by
 obtain⟨⟨q1,-,-⟩,-,h3⟩:=h;rcases h3 with⟨e,-⟩|⟨e,-⟩
 ·rw [e] at h2⊢;simp at h2;obtain rfl:k=1:=by omega
  exact Vn
 ·rw [e] at h2⊢;simp at h2;have:k=1∨k=2:=by omega
  rcases this with rfl|rfl
  ·exact Vn
  ·exact Yh
theorem uY.len {i1 i2:List UInt8} {ok:Bool} {D:dh} (h:uY i1 i2 ok D) (h1:i1.length<900000) (h2:i2.length<900000):∀f∈D.fs,f.1.length+f.2.length<1000000:=fun f hf=>by
 obtain⟨⟨-,-,q⟩,g0,h3⟩:=h;obtain⟨j,hj,rfl⟩:=qbM hf;have hj':D.fs[j]?=some D.fs[j]:=qan hj;generalize D.fs[j]=g at*;by_cases hj0:j=0
 ·subst hj0;rw [g0] at hj';cases hj';show i1.length+0<_;omega
 ·rcases h3 with⟨e,-⟩|⟨e,-,f,hf1,hq,-⟩
  ·rw [e,qaS] at q;omega
  ·have hj1:j=1:=by rw [e] at q;simp at q;omega
   subst hj1;rw [hf1] at hj';cases hj';obtain⟨r,hr⟩:=hq g.2.length;rw [qaR] at hr;have:=congrArg qcE hr;rw [qar,qaE] at this;omega
def po (X:List Nat) (D:Mem) (r:Nat) (E:Mem) (r':Nat):Prop:=D.next≤E.next∧(r'=r∨D.next≤r')∧∀z,z<D.next→z∉X→z≠r→E.get z=D.get z
variable {X:List Nat} {r:Nat}
theorem po.trans {D E F:Mem} {s t:Nat} (h:po X D r E s) (k:po X E s F t):po X D r F t:=by
 obtain⟨h1,h2,h3⟩:=h;obtain⟨k1,k2,k3⟩:=k;refine⟨by omega,by omega,fun z hz hx hr=>?_⟩;rw [k3 z (by omega) hx (by omega),h3 z hz hx hr]
theorem po.kp {D E:Mem} (h:Kp D E):po X D r E r:=⟨h.1,.inl rfl,fun z hz _ _=>h.2 z hz⟩
def MP (X:List Nat) (lp:Nat) (s:aZ) (b:Bool) (Q:Nat→Mem→Nat→Prop):Prop:=∀(j:Nat) (a:cJ) (D:Mem) (r:Nat),s.arcs[j]?=some a→Q j D r→
 ∃E r',(∃g,∀M,g≤M→bA af (exec af M) (.round lp [.int .u8 (a.byte.toNat:Nat),ri a]) D= .ok (.val (.bool (b||decide (j+1<s.arcs.length))) E))∧Q (j+1) E r'∧po X D r E r'
variable {M:List aZ} {y:Value}
theorem Me {k:Value} {q lp r0:Nat} {s:aZ} {b:Bool} {Q:Nat→Mem→Nat→Prop} (h:dJ A M y) (hn:M[n]?=some s) (ht:∀a∈s.arcs,a.to<n) (hp:(s.arcs.map (·.byte)).Pairwise (·<·)) (hl:s.arcs.length≤256) (hM:M.length<1000000)
 (hB:Kp A B) (v1:VB B 115 q (.var 2) [y,k]) (v2:VB B 3 (q+1) (.var 1) [.int .i64 n]) (hX:∀x,(x∈X∨x=r0)→A.next≤x∧x<B.next∧x≠q∧x≠q+1)
 (hK:∀j D E r,Q j D r→Kp D E→Q j E r) (hc:MP X lp s b Q) (hI:Q 0 B r0):
 ∃v C,bg af 279 [.func (.yield lp) ⟨[]⟩ ⟨[]⟩,pV q,pV (q+1)] B v C∧∃r,Q s.arcs.length C r∧po X B r0 C r:=by
 refine cF (aq Tryz.func279) IV (by kernel_rfl) ?_;obtain⟨d,hd1,hd2⟩:=a8 (t:=115) (p:=true) (by kernel_rfl);have ld1:∀D:Mem,D.get q=B.get q→ag af D.get 115 (.pointer (some ⟨q,0,none⟩))= .ok (.agg ⟨[y,k]⟩):=fun D e=>aI hd1 hd2 (l:=[y,k]) du (v1.2.same e)
 have ld2:∀D:Mem,D.get (q+1)=B.get (q+1)→ag af D.get 3 (.pointer (some ⟨q+1,0,none⟩))= .ok (.int .i64 n):=fun D e=>aQ u3 rfl (v2.2.same e) rfl
 have a1:=ld1 B rfl;have a2:=ld2 B rfl;obtain⟨x,C,⟨g,hg⟩,kC,b0,hR,hb⟩:=yQ (h.kp hB) hn ht hp hl hM (k:=k);have lx:=hR.len;rw [qas] at lx;have hr0:=hX r0 (.inr rfl);have hq1:q∉X:=fun h=>(hX q (.inl h)).2.2.1 rfl
 have hq2:q+1∉X:=fun h=>(hX _ (.inl h)).2.2.2 rfl
 have hbX:∀z,B.next≤z→z∉X:=fun z hz h=>by have:=(hX z (.inl h)).2.1;omega
 have hAX:∀z,z<A.next→z∉X:=fun z hz h=>by have:=(hX z (.inl h)).1;omega
 have kCn:=kC.1;simp only [pV];apply W.qG (g)
 ·intro M hM;simp (disch:=first|decide+kernel|omega) only [CC,qda,Aq,qal,a1,a2,hg,lx];rfl
 apply W.block;refine W.up s.arcs.length (fun j t D=>∃r,Q j D r∧po X C r0 D r∧Sl t [(0,.func (.yield lp) ⟨[]⟩ ⟨[]⟩),(1,.pointer (some ⟨q,0,none⟩)),(2,.pointer (some ⟨q+1,0,none⟩)),(11,x),(12,.int .i64 s.arcs.length),(13,.int .i64 j)]) ?_ (qaB _) ⟨r0,hK _ _ _ _ hI kC,po.kp (Kp.refl C),?_⟩
 ·rintro j t D hj ⟨r,hI,hf,g0,g1,g2,g11,g12,g13,-⟩;have hfB:po X B r0 D r:=(po.kp kC).trans hf;by_cases hlt:j<s.arcs.length
  ·have hsj:s.arcs[j]?=some s.arcs[j]:=qan hlt;have hRD:uZ D b0 (s.arcs.map (·.byte)) x:=⟨hR.1.same hf.1 fun hz=>hf.2.2 b0 hz (hbX b0 hb) (by omega),hR.2⟩;obtain⟨i1,i2⟩:=hRD.at (i:=j) (by rw [qas];exact hlt);rw [qc2] at i2;have hBn:=hB.1;have kAD:Kp A D:=⟨by have:=hfB.1;omega,fun z hz=>by rw [hfB.2.2 z (by omega) (hAX z hz) (by omega),hB.2 z hz]⟩;obtain⟨v,E,⟨g,hg⟩,rfl,kE⟩:=FZ (k:=k) (h.kp kAD) hn ht hp hl hsj;generalize s.arcs[j]=a at*;obtain⟨F,r',⟨gy,hy⟩,hI2,hF⟩:=hc j a E r hsj (hK _ _ _ _ hI kE);have hBF:po X C r0 F r':=(hf.trans (po.kp kE)).trans hF;have b1:=ld1 D (hfB.2.2 q v1.1 hq1 (by omega));have b2:=ld2 D (hfB.2.2 (q+1) v2.1 hq2 (by omega));have bd:=TC (m:=(a.to:Int)) (n:=(a.out:Int));unfold ri at hy;cases hu:(b||decide (j+1<s.arcs.length)) with
   |true=>
    rw [hu] at hy;apply W.cN (g+gy) 20
    ·intro M hM;simp (disch:=first|decide+kernel|omega) only [tq,CC,qda,Aq,qal,g0,g1,g2,g11,g12,g13,hlt,i1,i2,b1,b2,hg,qau,qav,bd,hy];rfl
    refine⟨hlt,_,_,rfl,r',hI2,hBF,?_⟩;simp only [Sq,qal,qam,g0,g1,g2,g11,g12]
   |false=>
    rw [hu] at hy;simp only [qcH,decide_eq_false_iff_not] at hu;have e:j+1=s.arcs.length:=by omega
    apply W.cN (g+gy) 20
    ·intro M hM;simp (disch:=first|decide+kernel|omega) only [tq,CC,qda,Aq,qal,g0,g1,g2,g11,g12,g13,hlt,i1,i2,b1,b2,hg,qau,qav,bd,hy];rfl
    exact⟨by simp,rfl,_,(by simp only [qda,Aq,qal]<;>rfl),r',e▸hI2,(po.kp kC).trans hBF⟩
  ·have e:j=s.arcs.length:=by omega
   subst e;apply W.run 20
   ·intro M;simp (disch:=first|decide+kernel|omega) only [tq,CC,qda,Aq,qal,g12,g13];rfl
   exact⟨by simp,rfl,_,(by simp only [qda,Aq,qal]<;>rfl),r,hI,hfB⟩
 ·simp only [Sq,qal,qam]
theorem Tj:∃d,af.ba 115=some d∧bQ d=true:=a8 (t:=115) (p:=true) (by kernel_rfl)
theorem Py {a:List UInt8}:bg af 253 [aj a,aj []] A (.bool false) A:=by
 have e:fb .lss a []= .ok (.bool false):=by
  show R.ok (Value.bool (aX a []))=_;cases a<;>rfl
 refine bm 60 (aq Tryz.func253) (by kernel_rfl) fun M=>?_
 simp (disch:=first|decide+kernel|omega) only [Tryz.f253,Aq,qal,e]<;>rfl
variable {i:Nat}
theorem dJ.Z6 {s:aZ} (h:dJ A M y) (hi:M[i]?=some s):
 ∃p q1 q2,aU af 112 y (.int .i64 i)= .ok p∧av af 186 p 1= .ok q1∧av af 186 p 2= .ok q2∧∀A',Kp A A'→ag af A'.get 4 q1= .ok (.bool s.fin)∧ag af A'.get 113 q2= .ok (.int .u64 s.out):=by
 obtain⟨b,rows,h1,h2,h3⟩:=h;obtain⟨x,e1,e2⟩:=h3 i s hi;have hl:i<rows.length:=(qap.1 e1).1;refine⟨_,_,_,az.idx h1 fy jD hl,ee,m_,fun A' k=>?_⟩;have h1:=h1.same k.1 (k.2 b);exact⟨az.load (tb:=af) (j:=1) h1 u4 rfl e1 rfl (by omega),az.load (tb:=af) (j:=2) h1 fp rfl e1 rfl (by omega)⟩
def kS (p3 p4 p5 p6:Nat):List Value:=[pV p3,pV p4,pV p5,pV p6]
def sW (n:Nat):Value:=.agg ⟨[.int .u64 n,.bool true]⟩
structure T9 (A:Mem) (y k:Value) (l0 p3 p4 p5 p6:Nat) (X:List Nat) (D:Mem) (r:Nat):Prop where
 kp:Kp A D
 v3:VB D 9 p3 (.var 1) [aj []]
 v4:VB D 115 p4 (.var 2) [y,k]
 v5:VB D 352 p5 (.var 1) [.func (.yield l0) ⟨[]⟩ ⟨[]⟩]
 v6:VB D 353 p6 (.var 1) [.func (.func 252) ⟨[]⟩ ⟨kS p3 p4 p5 p6⟩]
 x:∀x,(x∈X∨x=r)→A.next≤x∧x<D.next
def T' (X:List Nat) (l0:Nat) (L:List (List UInt8×Nat)) (Q:Nat→Mem→Nat→Prop):Prop:=∀(j:Nat) (w:List UInt8) (v:Nat) (D:Mem) (r:Nat),L[j]?=some (w,v)→Q j D r→
 ∃E r',(∃g,∀M,g≤M→bA af (exec af M) (.round l0 [aj w,sW v]) D= .ok (.val (.bool (decide (j+1<L.length))) E))∧Q (j+1) E r'∧po X D r E r'
noncomputable def jK:Code:=qb1.body.getD .skip
noncomputable def uo:Code:=sub jK [1,1,1,1,0,1,0,0]
noncomputable def uq:Code:=sub jK [1,1,1,1,0,1,0,1]
theorem Rk:qb1.body=some (.seq (sub jK [0]) (.seq (sub jK [1,0]) (.seq (sub jK [1,1,0]) (.seq (sub jK [1,1,1,0]) (.seq (.seq (sub jK [1,1,1,1,0,0]) (.block 0 (.rangeFunc (.tmp 52) #[53,54] uo uq))) (sub jK [1,1,1,1,1])))))):=by kernel_rfl
noncomputable def eI (t:T Value) (d:Nat):f_:=iZ t 69 [53,54] uo uq d
theorem J1:aR af 280= .ok 2:=by kernel_rfl
theorem ZI:aR af 4= .ok 1:=by kernel_rfl
theorem Wl:∃d,af.ba 352=some d∧bQ d=false:=a8 (t:=352) (p:=false) (by kernel_rfl)
theorem Qp:∃d,af.ba 353=some d∧bQ d=false:=a8 (t:=353) (p:=false) (by kernel_rfl)
theorem T7:bS af 342= .ok (.agg ⟨[iN 0,uN 0]⟩):=by kernel_rfl
theorem YA:aR af 342= .ok 2:=by kernel_rfl
theorem NV:av af 342 (pw b 0) 0= .ok (pw b 0):=by kernel_rfl
theorem NW:av af 342 (pw b 0) 1= .ok (pw b 1):=by kernel_rfl
theorem Im (d p3 p4 p5 p6:Nat):cG (d+2) (.func (.func 252) ⟨[]⟩ ⟨kS p3 p4 p5 p6⟩) (.func (.func 252) ⟨[]⟩ ⟨kS p3 p4 p5 p6⟩)=true:=by simp [cG,yZ,kS,pV,uT,qx]
theorem Mh (p3 p4 p5 p6:Nat):cG 100 (.func (.func 252) ⟨[]⟩ ⟨kS p3 p4 p5 p6⟩) (.func (.func 252) ⟨[]⟩ ⟨kS p3 p4 p5 p6⟩)=true:=Im 98 p3 p4 p5 p6
theorem Io (d l:Nat):cG (d+1) (.func (.yield l) ⟨[]⟩ ⟨[]⟩) (.func (.yield l) ⟨[]⟩ ⟨[]⟩)=true:=by simp [cG,yZ]
theorem Mj (l:Nat):cG 100 (.func (.yield l) ⟨[]⟩ ⟨[]⟩) (.func (.yield l) ⟨[]⟩ ⟨[]⟩)=true:=Io 99 l
theorem Mi (n:Nat):cG 100 (.int .i64 n) (.int .i64 n)=true:=eS .i64 n rfl
def jP (M:List aZ) (s:aZ) (jj:Nat):Nat:=((s.arcs.take jj).flatMap (jh M)).length
theorem Ny {s:aZ} {jj:Nat} {a:cJ} (h:s.arcs[jj]?=some a):jP M s (jj+1)=jP M s jj+(ws M a.to).length:=by
 obtain⟨hj,rfl⟩:=qap.1 h;unfold jP;rw [qaC hj,qcY,qar];simp [jh]
theorem Nx {s:aZ} {jj t:Nat} {a:cJ} {x:List UInt8×Nat} (h:s.arcs[jj]?=some a) (hx:(ws M a.to)[t]?=some x):(s.arcs.flatMap (jh M))[jP M s jj+t]?=some (a.byte::x.1,a.out+x.2):=by
 obtain⟨hj,rfl⟩:=qap.1 h;have e:s.arcs=s.arcs.take jj++s.arcs[jj]::s.arcs.drop (jj+1):=by rw [←qbi hj,qcx]
 have e2:s.arcs.flatMap (jh M)=(s.arcs.take jj).flatMap (jh M)++(jh M s.arcs[jj]++(s.arcs.drop (jj+1)).flatMap (jh M)):=by
  conv=>lhs;rw [e]
  rw [qcY,qbl]
 have ht:=(qap.1 hx).1;rw [e2];unfold jP;rw [qaF (by omega),Nat.add_sub_cancel_left,qaJ (by unfold jh;rw [qas];exact ht)];unfold jh;rw [qaN,hx];rfl
theorem IE (g:dg M):∀i,i<M.length→0<(ws M i).length:=by
 intro i
 induction i using qcL with
 |ind i ih=>
  intro hi;have hs:M[i]?=some M[i]:=qan hi;rw [n_ g hs];obtain⟨-,-,k3,k4,-⟩:=g i _ hs;generalize M[i]=s at*;rw [qar];rcases k4 with k4|k4
  ·rw [if_pos k4,qaS];omega
  ·obtain⟨a,l,e⟩:=qdg k4;have ha:a∈s.arcs:=by rw [e];exact qaz
   have:=ih a.to (k3 a ha) (Nat.lt_trans (k3 a ha) hi);rw [e,qbl,qar];unfold jh;rw [qas];omega
def Ub (M:List aZ) (s:aZ) (t:T Value) (mk lp p10:Nat) (X1:List Nat) (J:Mem) (r1:Nat) (b:Bool) (j1:Nat) (Q:Nat→Mem→Nat→Prop) (jj:Nat) (D:Mem) (r:Nat):Prop:=
 Q (j1+jP M s jj) D r∧po X1 J r1 D r∧VB D 4 p10 (.var 1) [.bool false]∧D.get lp=some (.loop (if jj<s.arcs.length∨b=true then eI t mk else {eI t mk with state:=.done,pending:=some .ret}))
variable {t:T Value} {mk:Nat}
theorem Pc {J:Mem} {k:Value} {l0 p3 p4 p5 p6 P0 q8 lp r1:Nat} {L:List (List UInt8×Nat)} {Q:Nat→Mem→Nat→Prop} {s:aZ} {j1 v:Nat} {b:Bool} (hs:M[i]?=some s) (g:dg M) (hL:∀x∈L,x.1.length<1000∧x.2<18446744073709551616)
 (hK:∀j D E r,Q j D r→D.next≤E.next→(∀z,(z<P0∨z=r)→E.get z=D.get z)→Q j E r) (hC:∀j D r,Q j D r→T9 A y k l0 p3 p4 p5 p6 X D r∧P0≤D.next∧∀x∈X,x<P0)
 (ih:∀a∈s.arcs,∀w v j D r0,Q j D r0→(∀t x,(ws M a.to)[t]?=some x→L[j+t]?=some (w++x.1,v+x.2))→
  ∃b E,bg af 252 ([.int .i64 a.to,aj w,sW v]++kS p3 p4 p5 p6) D b E∧b= .bool (decide (j+(ws M a.to).length<L.length))∧∃r,Q (j+(ws M a.to).length) E r∧po X D r0 E r)
 (hb:b=decide (j1+jP M s s.arcs.length<L.length)) (hle:j1+jP M s s.arcs.length≤L.length)
 (hW:∀t x,(s.arcs.flatMap (jh M))[t]?=some x→L[j1+t]?=some (w++x.1,v+x.2))
 (v8:VB J 9 q8 (.var 1) [aj w]) (v9:VB J 280 (q8+1) (.var 2) [.int .u64 v,.bool true]) (v10:VB J 4 (q8+2) (.var 1) [.bool false])
 (hP:P0≤q8∧q8+2<mk∧lp=mk+1∧lp<J.next∧(r1<q8∨q8+2<r1)∧r1<mk)
 (hsl:Sl t [(6,pV p6),(8,pV q8),(9,pV (q8+1)),(10,pV (q8+2))]):
 MP (lp::(q8+2)::X) lp s b (Ub M s t mk lp (q8+2) (lp::(q8+2)::X) J r1 b j1 Q):=by
 rintro jj a D r hj ⟨hQ,hF,w10,hLp⟩;obtain⟨g6,g8,g9,g10,-⟩:=hsl;obtain⟨hP1,hP2,rfl,hP4,hP5,hP6⟩:=hP;obtain⟨hjl,hja⟩:=qap.1 hj;have ham:a∈s.arcs:=qa0 hj;have hil:=(qap.1 hs).1;have hto:=(g i s hs).2.2.1 a ham;obtain⟨hc,hPD,hXP⟩:=hC _ _ _ hQ;rw [if_pos (.inl hjl)] at hLp;have hrr:r=r1∨J.next≤r:=hF.2.1
 have hXlt:∀z,P0≤z→z∉X:=fun z hz h=>by have:=hXP z h;omega
 have fJ:∀z,z<J.next→P0≤z→z≠mk+1→z≠q8+2→z≠r1→D.get z=J.get z:=fun z hz h0 h1 h2 h3=>hF.2.2 z hz (by simp [h1,h2,hXlt z h0]) h3
 have hDn:J.next≤D.next:=hF.1
 have hpos:=IE g a.to (by omega);have hwa:∀t x,(ws M a.to)[t]?=some x→L[j1+jP M s jj+t]?=some (w++[a.byte]++x.1,v+a.out+x.2):=fun t x hx=>by
  have:=hW _ _ (Nx hj hx);rw [qck,this];simp [qck]
 have hL0:=hwa 0 _ (qan hpos);obtain⟨hl1,hl2⟩:=hL _ (qa0 hL0);simp only [qar,qaA,qaT] at hl1;have sE:aW af (D.alloc (aa 342 [.int .i64 (0:Nat),.int .u64 (0:Nat)])) 342 (.pointer (some ⟨D.next,0,none⟩)) (ri a)= .ok (D.alloc (aa 342 [.int .i64 a.to,.int .u64 a.out])):=bk YA rfl rfl (by simp) (by simp [aJ]);have kE:=Kp.alloc D (aa 342 [.int .i64 a.to,.int .u64 a.out]);have vE:=ay D 342 [.int .i64 a.to,.int .u64 a.out];have nE:(D.alloc (aa 342 [.int .i64 a.to,.int .u64 a.out])).next=D.next+1:=ae _ _
 generalize D.alloc (aa 342 [.int .i64 a.to,.int .u64 a.out])=E at sE kE vE nE;have hLE:E.get (mk+1)=some (.loop (eI t mk)):=by rw [kE.2 _ (by omega)];exact hLp
 generalize hF1:E.set (mk+1) (.loop {eI t mk with state:=.busy})=F;have nF:F.next=E.next:=by rw [←hF1];exact aO _ _ _
 have fF:∀z,z≠mk+1→F.get z=E.get z:=fun z hz=>by rw [←hF1,aC,if_neg hz]
 have hLF:F.get (mk+1)=some (.loop {eI t mk with state:=.busy}):=by rw [←hF1,aC,if_pos rfl]
 have fFD:∀z,z<D.next→z≠mk+1→F.get z=D.get z:=fun z hz h=>by rw [fF z h,kE.2 z hz]
 have kG:=Kp.alloc F (aa 5 [.int .u8 (a.byte.toNat:Nat)]);have c1:=Td (D:=F) (c:=a.byte);have gG:=ax F (aa 5 [.int .u8 (a.byte.toNat:Nat)]);generalize hG:F.alloc (aa 5 [.int .u8 (a.byte.toNat:Nat)])=G at kG c1 gG;have hd:∀A:Mem,ff (qew (fun x:Nat×Nat=>x.2) [(5,F.next)]) A=A.set F.next .dead:=fun _=>rfl
 have put:∀H:Mem,H.get=G.get→H.next=G.next→∃G',gI G.get (qew (fun x:Nat×Nat=>x.2) [(5,F.next)]) (H.set F.next .dead)= .ok G'∧G'.get=G.get∧G'.next=G.next:=fun H hH hn=>by
  refine⟨(H.set F.next .dead).set F.next (aa 5 [.int .u8 (a.byte.toNat:Nat)]),?_,funext fun z=>?_,?_⟩
  ·show(match G.get F.next with|some o=>gI G.get [] ((H.set F.next .dead).set F.next o)|none=>.no 313)=_;rw [gG];rfl
  ·rw [aC];split
   ·rename_i h;rw [h,gG]
   ·rename_i h;rw [aC,if_neg h,hH]
  ·rw [aO,aO,hn]
 obtain⟨G2,bk1,e2,n2⟩:=put G rfl rfl;have kFG2:Kp F G2:=⟨by rw [n2];exact kG.1,fun z hz=>by rw [e2];exact kG.2 z hz⟩;have nG2:F.next≤G2.next:=kFG2.1
 have fG2:∀z,z<D.next→z≠mk+1→G2.get z=D.get z:=fun z hz h=>by rw [kFG2.2 z (by omega),fFD z hz h]
 have hrD:=(hc.x r (.inr rfl)).2;have hQG:Q (j1+jP M s jj) G2 r:=hK _ _ _ _ hQ (by omega) fun z hz=>fG2 z (by omega) (by omega)
 obtain⟨u,H,⟨gb,hgb⟩,hu,r',hQH,hFH⟩:=ih a ham (w++[a.byte]) (v+a.out) _ G2 r hQG hwa;rw [qck,←Ny hj] at hQH hu;have hub:decide (j1+jP M s (jj+1)<L.length)=(b||decide (jj+1<s.arcs.length)):=by
  rcases qaZ (jj+1) s.arcs.length with hlt|hge
  ·rw [decide_eq_true hlt,Bool.or_true];have hj2:s.arcs[jj+1]?=some s.arcs[jj+1]:=qan hlt;have hp2:=IE g s.arcs[jj+1].to (by have:=(g i s hs).2.2.1 _ (qbg hlt);omega);have h2:=hW _ _ (Nx hj2 (qan hp2));have:=(qap.1 h2).1;exact decide_eq_true (by omega)
  ·rw [decide_eq_false (show¬jj+1<s.arcs.length by omega),Bool.or_false,hb,show jj+1=s.arcs.length by omega]
 rw [hub] at hu;subst hu;have l8:∀N:Mem,(∀z,z<D.next→z≠mk+1→N.get z=D.get z)→ag af N.get 9 (.pointer (some ⟨q8,0,none⟩))= .ok (aj w):=fun N h=>aQ u9 rfl (v8.2.same (by rw [h q8 (by omega) (by omega),fJ q8 (by omega) hP1 (by omega) (by omega) (by omega)])) rfl
 have l9:∀N:Mem,(∀z,z<D.next→z≠mk+1→N.get z=D.get z)→ag af N.get 280 (.pointer (some ⟨q8+1,0,none⟩))= .ok (.agg ⟨[.int .u64 v,.bool true]⟩):=fun N h=>by
  obtain⟨d,hd1,hd2⟩:=a8 (t:=280) (p:=true) (by kernel_rfl);exact aI hd1 hd2 (l:=[.int .u64 v,.bool true]) J1 (v9.2.same (by rw [h _ (by omega) (by omega),fJ _ (by omega) (by omega) (by omega) (by omega) (by omega)]))
 have l6:∀N:Mem,(∀z,z<D.next→z≠mk+1→N.get z=D.get z)→ag af N.get 353 (.pointer (some ⟨p6,0,none⟩))= .ok (.func (.func 252) ⟨[]⟩ ⟨kS p3 p4 p5 p6⟩):=fun N h=>by
  obtain⟨d,hd1,hd2⟩:=Qp;have hp6:p6≠mk+1:=fun e=>by
   have h6:=hc.v6.2;obtain⟨cs,h6,-⟩:=h6;rw [e,hLp] at h6;cases h6
  exact aQ hd1 hd2 (hc.v6.2.same (h p6 hc.v6.1 hp6)) rfl
 have fG:∀z,z<D.next→z≠mk+1→G.get z=D.get z:=fun z hz h=>by rw [kG.2 z (by omega),fFD z hz h]
 have vG:∀N:Mem,(∀z,z<E.next→z≠mk+1→N.get z=E.get z)→ag af N.get 3 (.pointer (some ⟨D.next,0,none⟩))= .ok (.int .i64 a.to)∧ag af N.get 113 (.pointer (some ⟨D.next,1,none⟩))= .ok (.int .u64 a.out):=fun N h=>by
  have:=vE.2.same (h D.next (by omega) (by omega));exact⟨aQ u3 rfl this rfl,aQ fp rfl this rfl⟩
 have x6:=l6 F fFD;have x6':=l6 G fG;have x8:=l8 F fFD;have x8':=l8 G fG;have x9:=l9 G fG;obtain⟨x0,x1⟩:=vG F fun z hz h=>fF z h
 obtain⟨x0',x1'⟩:=vG G fun z hz h=>by rw [kG.2 z (by omega),fF z h]
 have ka:=fun ih A=>RX (ih:=ih) (A:=A) (n:=v) (m:=a.out) (f:=true) (by omega)
 have sc:=Mh p3 p4 p5 p6;have si:=Mi a.to;have s1:fb .add w [a.byte]= .ok (aj (w++[a.byte])):=cat (by simp;omega);have hlH:H.get (mk+1)=some (.loop {eI t mk with state:=.busy}):=by
  rw [hFH.2.2 (mk+1) (by omega) (hXlt _ (by omega)) (by omega),kFG2.2 _ (by omega)];exact hLF
 simp only [pV] at g6 g8 g9 g10;simp only [kS,pV,sW,qbf,qbv] at hgb x6 x6' sc;have fin:∀N:Mem,N.next=H.next→(∀z,z≠mk+1→z≠q8+2→N.get z=H.get z)→VB N 4 (q8+2) (.var 1) [.bool false]→N.get (mk+1)=some (.loop (if jj+1<s.arcs.length∨b=true then eI t mk else {eI t mk with state:=.done,pending:=some .ret}))→
  Ub M s t mk (mk+1) (q8+2) ((mk+1)::(q8+2)::X) J r1 b j1 Q (jj+1) N r'∧po ((mk+1)::(q8+2)::X) D r N r':=fun N hn hf h10 hlp=>by
  have hcH:=(hC _ _ _ hQH).1;have hrH:=(hcH.x r' (.inr rfl)).2;have hr2:r'=r∨G2.next≤r':=hFH.2.1
  have hfr:po ((mk+1)::(q8+2)::X) D r N r':=⟨by have:=hFH.1;omega,by omega,fun z hz hx hr=>by
   simp only [qaK,not_or] at hx;rw [hf z hx.1 hx.2.1,hFH.2.2 z (by omega) hx.2.2 hr,fG2 z hz hx.1]⟩
  exact⟨⟨hK _ _ _ _ hQH (by omega) fun z hz=>hf z (by omega) (by omega),hF.trans hfr,h10,hlp⟩,hfr⟩
 have w10H:VB H 4 (q8+2) (.var 1) [.bool false]:=⟨by have:=hFH.1;omega,w10.2.same (by rw [hFH.2.2 _ (by omega) (hXlt _ (by omega)) (by omega),fG2 _ (by omega) (by omega)])⟩;cases hu:(b||decide (jj+1<s.arcs.length)) with
 |true=>
  rw [hu] at hgb;have hst:jj+1<s.arcs.length∨b=true:=by
   simp only [qeC,decide_eq_true_eq] at hu;exact hu.symm
  have hq:∃C,(∃g,∀N,g≤N→bA af (exec af N) (.round (mk+1) [.int .u8 (a.byte.toNat:Nat),ri a]) D= .ok (.val (.bool true) C))∧C=H.set (mk+1) (.loop (eI t mk)):=by
   refine j7 hLp (t:=(t.set 53 (.int .u8 (a.byte.toNat:Nat))).set 54 (ri a)) rfl ?_;show W af uo ⟨_,69,[],D,some (mk+1)⟩ _;apply W.run 20
   ·intro M;simp (disch:=first|decide+kernel|omega) only [uo,jK,qb1,Aq,qal,T7,au,sE];rfl
   refine⟨rfl,_,hLE,rfl,?_⟩;show W af uq ⟨_,69,[],E.set (mk+1) (.loop {eI t mk with state:=.busy}),some (mk+1)⟩ _;rw [hF1];apply W.cN (gb) 20
   ·intro M hM;simp (config:={maxSteps:=4000000}) (disch:=first|decide+kernel|omega|simp only [Wq,qal]) only [uq,jK,qb1,Aq,qaq,reduceIte,qal,qam,g6,g8,g9,x6,x6',x8,x8',x9,x0,x1,x0',x1',NV,NW,Eh,hG,Sc,Fu,uL,c1,hd,bk1,e2,ka,s1,sc,si,hgb,Fq,aA [(0,11),(2,11),(3,11),(5,11),(6,11)]];rfl
   exact⟨rfl,rfl,_,hlH,rfl⟩
  obtain⟨C,hc,rfl⟩:=hq;have:=fin (H.set (mk+1) (.loop (eI t mk))) (aO _ _ _) (fun z h1 _=>by rw [aC,if_neg h1]) ⟨by rw [aO];exact w10H.1,w10H.2.same (by rw [aC,if_neg (by omega)])⟩ (by rw [aC,if_pos rfl,if_pos hst]);exact⟨_,r',hc,this.1,this.2⟩
 |false=>
  rw [hu] at hgb;have hst:¬(jj+1<s.arcs.length∨b=true):=by
   simp only [qcH,decide_eq_false_iff_not] at hu;rintro(h|h)
   ·exact hu.2 h
   ·rw [h] at hu;cases hu.1
  obtain⟨I,sI,vI,nI,fI⟩:=aL (tb:=af) (t:=4) (o:=0) (v:=.bool false) ZI w10H.2 (by simp) rfl rfl;have hlI:I.get (mk+1)=some (.loop {eI t mk with state:=.busy}):=by rw [fI _ (by omega)];exact hlH
  have hq:∃C,(∃g,∀N,g≤N→bA af (exec af N) (.round (mk+1) [.int .u8 (a.byte.toNat:Nat),ri a]) D= .ok (.val (.bool false) C))∧C=I.set (mk+1) (.loop {eI t mk with state:=.done,pending:=some .ret}):=by
   refine LI hLp (t:=(t.set 53 (.int .u8 (a.byte.toNat:Nat))).set 54 (ri a)) rfl ?_;show W af uo ⟨_,69,[],D,some (mk+1)⟩ _;apply W.run 20
   ·intro M;simp (disch:=first|decide+kernel|omega) only [uo,jK,qb1,Aq,qal,T7,au,sE];rfl
   refine⟨rfl,_,hLE,rfl,?_⟩;show W af uq ⟨_,69,[],E.set (mk+1) (.loop {eI t mk with state:=.busy}),some (mk+1)⟩ _;rw [hF1];apply W.cN (gb) 20
   ·intro M hM;simp (config:={maxSteps:=4000000}) (disch:=first|decide+kernel|omega|simp only [Wq,qal]) only [uq,jK,qb1,Aq,qaq,reduceIte,qal,qam,g6,g8,g9,g10,x6,x6',x8,x8',x9,x0,x1,x0',x1',NV,NW,Eh,hG,Sc,Fu,uL,c1,hd,bk1,e2,ka,s1,sc,si,hgb,sI,Fq,aA [(0,11),(2,11),(3,11),(5,11),(6,11)]];rfl
   exact⟨rfl,rfl,_,hlI,rfl⟩
  obtain⟨C,hc,rfl⟩:=hq;have:=fin (I.set (mk+1) (.loop {eI t mk with state:=.done,pending:=some .ret})) (by rw [aO];exact nI) (fun z h1 h2=>by rw [aC,if_neg h1,fI z h2]) ⟨by rw [aO,nI];exact w10H.1,dw.same (A:=I) vI (by rw [aC,if_neg (by omega)])⟩ (by rw [aC,if_pos rfl,if_neg hst]);exact⟨_,r',hc,this.1,this.2⟩
theorem vZ:av af 115 (pw b 0) 0= .ok (pw b 0):=by kernel_rfl
def kW (X:List Nat) (L:List (List UInt8×Nat)) (Q:Nat→Mem→Nat→Prop) (E3:Mem) (r0 n:Nat) (e:Ex) (s:St):Prop:=
 (e= .nrm∨e= .ret)∧∃A' vs,eW s.d s.m= .ok A'∧eV af s.t A'.get qb1.results.toList= .ok vs∧(oneOf vs= .bool (decide (n<L.length))∧∃r,Q n A' r∧po X E3 r0 A' r)
theorem Ki {E0 E3 F:Mem} {k:Value} {l0 p3 p4 p5 p6 P0 r0 r1:Nat} {L:List (List UInt8×Nat)} {Q:Nat→Mem→Nat→Prop} {s:aZ} {j1 v b8:Nat} (hS:dJ A M y) (hs:M[i]?=some s) (g:dg M) (hl:M.length<1000000) (hL:∀x∈L,x.1.length<1000∧x.2<18446744073709551616)
 (hK:∀j D E r,Q j D r→D.next≤E.next→(∀z,(z<P0∨z=r)→E.get z=D.get z)→Q j E r) (hC:∀j D r,Q j D r→T9 A y k l0 p3 p4 p5 p6 X D r∧P0≤D.next∧∀x∈X,x<P0)
 (ih:∀a∈s.arcs,∀w v j D r0,Q j D r0→(∀t x,(ws M a.to)[t]?=some x→L[j+t]?=some (w++x.1,v+x.2))→
  ∃b E,bg af 252 ([.int .i64 a.to,aj w,sW v]++kS p3 p4 p5 p6) D b E∧b= .bool (decide (j+(ws M a.to).length<L.length))∧∃r,Q (j+(ws M a.to).length) E r∧po X D r0 E r)
 (hne:s.arcs≠ []∨j1+jP M s s.arcs.length<L.length) (hle:j1+jP M s s.arcs.length≤L.length)
 (hW:∀t x,(s.arcs.flatMap (jh M))[t]?=some x→L[j1+t]?=some (w++x.1,v+x.2))
 (v8:VB E3 9 b8 (.var 1) [aj w]) (v9:VB E3 280 (b8+1) (.var 2) [.int .u64 v,.bool true]) (v10:VB E3 4 (b8+2) (.var 1) [.bool false])
 (hP:P0≤b8∧b8+2<E3.next∧r0<b8∧E0.next=b8∧A.next≤b8) (hk0:Kp E0 E3) (hQ:Q j1 F r1) (hF:po X E3 r0 F r1)
 (hsl:Sl t [(0,.int .i64 i),(4,pV p4),(6,pV p6),(8,pV b8),(9,pV (b8+1)),(10,pV (b8+2))]):
 W af (.seq (.seq (sub jK [1,1,1,1,0,0]) (.block 0 (.rangeFunc (.tmp 52) #[53,54] uo uq))) (sub jK [1,1,1,1,1])) ⟨t,69,[],F,none⟩ (kW X L Q E0 r0 (j1+jP M s s.arcs.length)):=by
 obtain⟨h0,h4,h6,h8,h9,h10,-⟩:=hsl;obtain⟨hP1,hP2,hP3,hP4,hP5⟩:=hP;obtain⟨hc,hPF,hXP⟩:=hC _ _ _ hQ;obtain⟨k1,k2,k3,k4,-⟩:=g i s hs;have hfew:=np (g i s hs);have hXlt:∀z,P0≤z→z∉X:=fun z hz h=>by have:=hXP z h;omega
 have nF:=hF.1;have hr1:r1=r0∨E3.next≤r1:=hF.2.1
 have fF:∀z,z<E3.next→P0≤z→z≠r0→F.get z=E3.get z:=fun z hz h0 h=>hF.2.2 z hz (hXlt z h0) h
 obtain⟨d,hd1,hd2⟩:=Tj;have ld:ag af F.get 115 (pw p4 0)= .ok (.agg ⟨[y,k]⟩):=aI hd1 hd2 (l:=[y,k]) du hc.v4.2;obtain⟨gw,hgw⟩:=yY (A:=F) (y:=y) (k:=k) (n:=i);have x1:=(ay F 115 [y,k]).kp (Kp.alloc _ (aa 3 [.int .i64 i]));have x2:=ay (F.alloc (aa 115 [y,k])) 3 [.int .i64 i];have y1:(F.alloc (aa 115 [y,k])).next=F.next+1:=ae _ _
 have y2:((F.alloc (aa 115 [y,k])).alloc (aa 3 [.int .i64 i])).next=F.next+2:=by rw [ae,y1]
 have kH:=(Kp.alloc F (aa 115 [y,k])).trans (Kp.alloc _ (aa 3 [.int .i64 i]));rw [y1] at x2;generalize (F.alloc (aa 115 [y,k])).alloc (aa 3 [.int .i64 i])=H at hgw x1 x2 y2 kH;simp only [pV] at h4 h6 h8 h9 h10 hgw;apply W.seq;apply W.qG (gw)
 ·intro M hM;simp (disch:=first|decide+kernel|omega) only [jK,qb1,Aq,qal,h0,h4,ld,hgw];rfl
 apply W.block;generalize ht0:T.set _ _ _=t0;have hsl:Sl t0 [(6,pV p6),(8,pV b8),(9,pV (b8+1)),(10,pV (b8+2)),(52,.func (.func 279) ⟨[]⟩ ⟨[pV F.next,pV (F.next+1)]⟩)]:=by
  rw [←ht0];simp only [Sq,qal,qam,h6,h8,h9,h10,pV]
 clear ht0;obtain⟨h6,h8,h9,h10,h52,-⟩:=hsl;have kJ:=(Kp.alloc H .defd).trans (Kp.alloc (H.alloc .defd) (.loop (eI t0 H.next)));have nJ1:(H.alloc .defd).next=H.next+1:=ae _ _
 have nJ:((H.alloc .defd).alloc (.loop (eI t0 H.next))).next=H.next+2:=by rw [ae,nJ1]
 have jL:((H.alloc .defd).alloc (.loop (eI t0 H.next))).get (H.next+1)=some (.loop (eI t0 H.next)):=by have:=ax (H.alloc .defd) (.loop (eI t0 H.next));rwa [nJ1] at this
 have jM:((H.alloc .defd).alloc (.loop (eI t0 H.next))).get H.next=some .defd:=by rw [(Kp.alloc (H.alloc .defd) _).2 _ (by omega)];exact ax H .defd
 generalize hJ:(H.alloc .defd).alloc (.loop (eI t0 H.next))=J at kJ nJ jL jM;have kFJ:=kH.trans kJ;have toJ:∀e z k l,VB E3 e z k l→P0≤z→z≠r0→VB J e z k l:=fun e z k l h h0 h1=>VB.kp (A:=F) ⟨by have:=h.1;omega,h.2.same (fF z h.1 h0 h1)⟩ kFJ
 have hcr:=hc.x r1 (.inr rfl);have hKp:=hc.kp.1;have hQJ:Q j1 J r1:=hK _ _ _ _ hQ (by omega) fun z hz=>kFJ.2 z (by omega)
 have hI:Ub M s t0 H.next (H.next+1) (b8+2) ((H.next+1)::(b8+2)::X) J r1 (decide (j1+jP M s s.arcs.length<L.length)) j1 Q 0 J r1:=by
  refine⟨by unfold jP;simpa using hQJ,po.kp (Kp.refl J),toJ _ _ _ _ v10 (by omega) (by omega),?_⟩;rw [if_pos]
  ·exact jL
  ·rcases hne with hne|hne
   ·exact .inl (qa6.2 hne)
   ·exact .inr (decide_eq_true hne)
 have hKp2:Kp A J:=hc.kp.trans kFJ;obtain⟨va,C,hA,r2,⟨q1,q2,q3,q4⟩,hFC⟩:=Me (A:=A) (B:=J) (q:=F.next) (lp:=H.next+1) (r0:=r1) (k:=k) (X:=(H.next+1)::(b8+2)::X) hS hs k3 k2 hfew hl hKp2 (x1.kp kJ) (x2.kp kJ)
  (fun x hx=>by
   have h1:x=H.next+1∨x=b8+2∨x∈X∨x=r1:=by
    rcases hx with hx|hx
    ·simp only [qaK] at hx;rcases hx with hx|hx|hx
     ·exact .inl hx
     ·exact .inr (.inl hx)
     ·exact .inr (.inr (.inl hx))
    ·exact .inr (.inr (.inr hx))
   rcases h1 with h1|h1|h1|h1
   ·omega
   ·omega
   ·have q1:=(hc.x x (.inl h1)).1;have q2:=hXP x h1;exact⟨by omega,by omega,by omega,by omega⟩
   ·omega)
  (fun jj D E r hq hk=>by
   obtain⟨a1,a2,a3,a4⟩:=hq;obtain⟨b1,b2,b3⟩:=hC _ _ _ a1;have:=(b1.x r (.inr rfl)).2;exact⟨hK _ _ _ _ a1 hk.1 fun z hz=>hk.2 z (by omega),a2.trans (po.kp hk),a3.kp hk,by rw [hk.2 _ (by have:=a2.1;omega)];exact a4⟩)
  (Pc hs g hL hK hC ih rfl hle hW (toJ _ _ _ _ v8 (by omega) (by omega)) (toJ _ _ _ _ v9 (by omega) (by omega)) (toJ _ _ _ _ v10 (by omega) (by omega)) ⟨hP1,by omega,rfl,by omega,by omega,by omega⟩ ⟨h6,h8,h9,h10,trivial⟩) hI
 have hans:bg af 279 ([]++[.func (.yield (H.next+1)) ⟨[]⟩ ⟨[]⟩]++[pV F.next,pV (F.next+1)]) ((H.alloc .defd).alloc (.loop (iZ t0 69 [53,54] uo uq H.next))) va C:=by
  show bg af 279 _ ((H.alloc .defd).alloc (.loop (eI t0 H.next))) va C;rw [hJ];exact hA
 have hev:ev t0 (.tmp 52)= .ok (.func (.func 279) ⟨[]⟩ ⟨[pV F.next,pV (F.next+1)]⟩):=by simp only [ev,h52]
 have hr2:r2=r1∨J.next≤r2:=hFC.2.1
 have nC:=hFC.1;have mC:C.get H.next=some .defd:=by rw [hFC.2.2 _ (by omega) (by simp only [qaK,not_or];exact⟨by omega,by omega,hXlt _ (by omega)⟩) (by omega),jM]
 have hcC:=(hC _ _ _ q1).1;have hrC:=(hcC.x r2 (.inr rfl)).2;have fin:∀N:Mem,N.next=C.next→(∀z,z≠H.next→z≠H.next+1→z≠b8+2→N.get z=C.get z)→Q (j1+jP M s s.arcs.length) N r2∧po X E0 r0 N r2:=fun N hn hf=>by
  refine⟨hK _ _ _ _ q1 (by omega) fun z hz=>hf z (by omega) (by omega) (by omega),by have:=hk0.1;omega,by have:=hk0.1;omega,fun z hz hx hr=>?_⟩;have hk01:=hk0.1;rw [hf z (by omega) (by omega) (by omega),hFC.2.2 z (by omega) (by simp only [qaK,not_or];exact⟨by omega,by omega,hx⟩) (by omega),kFJ.2 z (by omega),hF.2.2 z (by omega) hx hr,hk0.2 z hz]
 generalize hKm:C.set (H.next+1) (.loop {(if s.arcs.length<s.arcs.length∨decide (j1+jP M s s.arcs.length<L.length)=true then eI t0 H.next else {eI t0 H.next with state:=.done,pending:=some .ret}) with state:=.exhausted})=Km;have nKm:Km.next=C.next:=by rw [←hKm];exact aO _ _ _
 have fKm:∀z,z≠H.next+1→Km.get z=C.get z:=fun z hz=>by rw [←hKm,aC,if_neg hz]
 have mK:Km.get H.next=some .defd:=by rw [fKm _ (by omega)];exact mC
 have vK:VB Km 4 (b8+2) (.var 1) [.bool false]:=⟨by rw [nKm];exact q3.1,q3.2.same (fKm _ (by omega))⟩;simp only [pV] at h10;by_cases hb:j1+jP M s s.arcs.length<L.length
 ·rw [if_pos (.inr (decide_eq_true hb))] at q4 hKm;refine W.Dp (fid:=279) (first:=[]) (capt:=[pV F.next,pV (F.next+1)]) (v:=va) (A':=C) (r:=eI t0 H.next) (e:=.nrm) hev hans q4 (by simp [eI,iZ]) (.inl ⟨rfl,rfl⟩) ?_;rw [hKm];obtain⟨I,sI,vI,nI,fI⟩:=aL (tb:=af) (t:=4) (o:=0) (v:=.bool true) ZI vK.2 (by simp) rfl rfl;show W af (sub jK [1,1,1,1,1]) _ _;apply W.run 20
  ·intro M;simp (disch:=first|decide+kernel|omega) only [jK,qb1,Aq,qal,h10,sI];rfl
  obtain⟨N,t1,t2,t3⟩:=fX [H.next] I (by simp) (fun d hd=>by
   rw [qaY] at hd;rw [hd,fI _ (by omega)];exact mK)
  have lN:ag af N.get 4 (pw (b8+2) 0)= .ok (.bool true):=aQ u4 rfl (vI.same (t3 _ (by simp;omega))) rfl;obtain⟨f1,f2⟩:=fin N (by rw [t2,nI,nKm]) (fun z h1 h2 h3=>by rw [t3 z (by simp [h1]),fI z h3,fKm z h2]);show kW _ _ _ _ _ _ _ _;unfold kW;rw [decide_eq_true hb];exact⟨.inr rfl,N,_,t1,(by simp only [qb1,Aq,qal,h10,lN]<;>rfl),rfl,r2,f1,f2⟩
 ·rw [if_neg (by simp [hb])] at q4 hKm;refine W.Dp (fid:=279) (first:=[]) (capt:=[pV F.next,pV (F.next+1)]) (v:=va) (A':=C) (r:={eI t0 H.next with state:=.done,pending:=some .ret}) (e:=.ret) hev hans q4 (by simp) (.inr ⟨rfl,rfl⟩) ?_;rw [hKm];obtain⟨N,t1,t2,t3⟩:=fX [H.next] Km (by simp) (fun d hd=>by
   rw [qaY] at hd;rw [hd];exact mK)
  have lN:ag af N.get 4 (pw (b8+2) 0)= .ok (.bool false):=aQ u4 rfl (vK.2.same (t3 _ (by simp;omega))) rfl;obtain⟨f1,f2⟩:=fin N (by rw [t2,nKm]) (fun z h1 h2 h3=>by rw [t3 z (by simp [h1]),fKm z h2]);show kW _ _ _ _ _ _ _ _;unfold kW;rw [decide_eq_false hb];exact⟨.inr rfl,N,_,t1,(by simp only [qb1,Aq,qal,h10,lN]<;>rfl),rfl,r2,f1,f2⟩
theorem WG:bS af 4= .ok (.bool false):=by kernel_rfl
theorem H3 {k:Value} {l0 p3 p4 p5 p6 P0:Nat} {L:List (List UInt8×Nat)} {Q:Nat→Mem→Nat→Prop} (hS:dJ A M y) (g:dg M) (hl:M.length<1000000) (hL:∀x∈L,x.1.length<1000∧x.2<18446744073709551616)
 (hK:∀j D E r,Q j D r→D.next≤E.next→(∀z,(z<P0∨z=r)→E.get z=D.get z)→Q j E r) (hC:∀j D r,Q j D r→T9 A y k l0 p3 p4 p5 p6 X D r∧P0≤D.next∧∀x∈X,x<P0) (hE:T' X l0 L Q):
 ∀i,i<M.length→∀w v j D r0,Q j D r0→(∀t x,(ws M i)[t]?=some x→L[j+t]?=some (w++x.1,v+x.2))→
  ∃b E,bg af 252 ([.int .i64 i,aj w,sW v]++kS p3 p4 p5 p6) D b E∧b= .bool (decide (j+(ws M i).length<L.length))∧∃r,Q (j+(ws M i).length) E r∧po X D r0 E r:=by
 intro i
 induction i using qcL with
 |ind i IH=>
 intro hi w v j D r0 hQ hW;obtain⟨hc,hPD,hXP⟩:=hC _ _ _ hQ;have hs:M[i]?=some M[i]:=qan hi;generalize M[i]=s at hs;obtain⟨k1,k2,k3,k4,-⟩:=g i s hs;have ih:∀a∈s.arcs,∀w v j D r0,Q j D r0→(∀t x,(ws M a.to)[t]?=some x→L[j+t]?=some (w++x.1,v+x.2))→
  ∃b E,bg af 252 ([.int .i64 a.to,aj w,sW v]++kS p3 p4 p5 p6) D b E∧b= .bool (decide (j+(ws M a.to).length<L.length))∧∃r,Q (j+(ws M a.to).length) E r∧po X D r0 E r:=fun a ha=>IH a.to (k3 a ha) (Nat.lt_trans (k3 a ha) hi)
 have hws:=n_ g hs;have hcnt:jP M s s.arcs.length=(s.arcs.flatMap (jh M)).length:=by unfold jP;rw [qaR]
 have hpos:=IE g i hi;have h00:=hW 0 _ (qan hpos);have hlast:=hW ((ws M i).length-1) _ (qan (by omega));have hjl:=(qap.1 hlast).1;obtain⟨hw1,-⟩:=hL _ (qa0 h00);simp only [qar] at hw1;refine eL (aq Tryz.func252) Rk (by rw [Tryz.ntmps252];simp [kS]) (by kernel_rfl) (by kernel_rfl) ?_;show W af _ _ (kW X L Q D r0 (j+(ws M i).length));generalize hb8:D.next=b8
 have n1:(D.alloc (aa 9 [aj w])).next=b8+1:=by rw [ae,hb8]
 have n2:((D.alloc (aa 9 [aj w])).alloc (aa 280 [.int .u64 v,.bool true])).next=b8+2:=by rw [ae,n1]
 have n3:(((D.alloc (aa 9 [aj w])).alloc (aa 280 [.int .u64 v,.bool true])).alloc (aa 4 [.bool false])).next=b8+3:=by rw [ae,n2]
 have q1:=Kp.alloc D (aa 9 [aj w]);have q2:=Kp.alloc (D.alloc (aa 9 [aj w])) (aa 280 [.int .u64 v,.bool true]);have q3:=Kp.alloc ((D.alloc (aa 9 [aj w])).alloc (aa 280 [.int .u64 v,.bool true])) (aa 4 [.bool false]);have v8:=((ay D 9 [aj w]).kp q2).kp q3;have v9:=(ay (D.alloc (aa 9 [aj w])) 280 [.int .u64 v,.bool true]).kp q3;have v10:=ay ((D.alloc (aa 9 [aj w])).alloc (aa 280 [.int .u64 v,.bool true])) 4 [.bool false];have hk:=q1.trans (q2.trans q3);rw [hb8] at v8;rw [n1] at v9;rw [n2] at v10;apply W.seq;simp only [sW,kS,pV,qbf,qbv];apply W.run 20
 ·intro M;simp (disch:=first|decide+kernel|omega) only [jK,qb1,Aq,qal,au,mu,w9,hb8,n1,n2,WG];rfl
 show W af _ _ _;generalize ((D.alloc (aa 9 [aj w])).alloc (aa 280 [.int .u64 v,.bool true])).alloc (aa 4 [.bool false])=E at hk n3 v8 v9 v10;have l8:ag af E.get 9 (.pointer (some ⟨b8,0,none⟩))= .ok (aj w):=v8.ld rfl u9 rfl;have l3:ag af E.get 9 (.pointer (some ⟨p3,0,none⟩))= .ok (aj []):=(hc.v3.kp hk).ld rfl u9 rfl;have mn:aN af .min [3,3] [.int .i64 (w.length:Nat),.int .i64 (0:Nat)]= .ok (.int .i64 (0:Nat)):=by rw [Am.nj,Nat.min_zero]
 have sl:c6 af 9 (aj []) none (some (.int .i64 (0:Nat))) none= .ok (aj []):=mP u9 (qao 0);have ll1:aN af .len [9] [aj w]= .ok (.int .i64 (w.length:Nat)):=cP u9;have ll2:aN af .len [9] [aj []]= .ok (.int .i64 (0:Nat)):=cP u9;obtain⟨g1,hg1⟩:=Py (A:=E) (a:=w);apply W.qG (g1)
 ·intro M hM;simp (config:={maxSteps:=4000000}) (disch:=first|decide+kernel|omega|simp only [Wq,qal]) only [jK,qb1,Aq,qaq,reduceIte,qal,qam,l8,l3,ll1,ll2,mn,sl,hg1,Fq,aA []];rfl
 apply W.q
 ·intro M;simp (disch:=first|decide+kernel|omega) only [jK,qb1,Aq,qal];rfl
 obtain⟨p,r1,r2,i1,i2,i3,i4⟩:=hS.Z6 hs;have hkE:=hc.kp.trans hk;obtain⟨m1,m2⟩:=i4 E hkE;have m3:ag af E.get 112 (.pointer (some ⟨p4,0,none⟩))= .ok y:=(hc.v4.kp hk).ld rfl fy rfl;have hQE:Q j E r0:=hK _ _ _ _ hQ hk.1 fun z hz=>hk.2 z (by have:=(hc.x r0 (.inr rfl)).2;omega)
 have hrr:=hc.x r0 (.inr rfl);have hkp:=hc.kp.1;cases hf:s.fin with
 |false=>
  rw [hf] at m1 hws;rw [if_neg (by simp),qbv] at hws;rw [hws] at hW hjl⊢;rw [←hcnt] at hjl⊢;apply W.q
  ·intro M;simp (config:={maxSteps:=4000000}) (disch:=first|decide+kernel|omega|simp only [Wq,qal]) only [jK,qb1,Aq,qaq,reduceIte,qal,qam,vZ,m3,i1,i2,m1,Fq,aA [(13,22),(14,22)]];rfl
  refine Ki (E3:=E) hS hs g hl hL hK hC ih (.inl ?_) (by omega) hW v8 v9 v10 ⟨by omega,by omega,by omega,hb8,by omega⟩ hk hQE (po.kp (Kp.refl E)) ?_
  ·rcases k4 with k4|k4
   ·rw [hf] at k4;cases k4
   ·exact k4
  ·simp only [Sq,qal,qam,pV]
 |true=>
  rw [hf] at m1 hws;rw [if_pos rfl] at hws;have e0:L[j]?=some (w,v+s.out):=by
   have:=hW 0 ([],s.out) (by rw [hws];rfl);simpa using this
  have hln:j+(ws M i).length=j+1+jP M s s.arcs.length:=by rw [hws,hcnt,qar,qaS];omega
  have hW':∀t x,(s.arcs.flatMap (jh M))[t]?=some x→L[j+1+t]?=some (w++x.1,v+x.2):=fun t x hx=>by
   rw [qck];exact hW (1+t) x (by rw [hws,qaF (by simp),qaS,Nat.add_sub_cancel_left];exact hx)
  obtain⟨F,r3,⟨gy,hy⟩,hQF,hFF⟩:=hE j w (v+s.out) E r0 e0 hQE;have hv:=(hL _ (qa0 e0)).2;have ka:=fun ih A=>RX (ih:=ih) (A:=A) (n:=v) (m:=s.out) (f:=true) hv
  have ly:ag af E.get 352 (.pointer (some ⟨p5,0,none⟩))= .ok (.func (.yield l0) ⟨[]⟩ ⟨[]⟩):=by
   obtain⟨d,hd1,hd2⟩:=Wl;exact(hc.v5.kp hk).ld rfl hd1 hd2
  have ls:ag af E.get 280 (.pointer (some ⟨b8+1,0,none⟩))= .ok (.agg ⟨[.int .u64 v,.bool true]⟩):=by
   obtain⟨d,hd1,hd2⟩:=a8 (t:=280) (p:=true) (by kernel_rfl);exact aI hd1 hd2 (l:=[.int .u64 v,.bool true]) J1 v9.2
  have sy:=Mj l0;have hrb:r0<b8:=by omega
  have hXlt:∀z,P0≤z→z∉X:=fun z hz h=>by have:=hXP z h;omega
  have w10:VB F 4 (b8+2) (.var 1) [.bool false]:=⟨by have:=hFF.1;omega,v10.2.same (hFF.2.2 _ (by omega) (hXlt _ (by omega)) (by omega))⟩;simp only [sW] at hy;have hjl:j+(ws M i).length≤L.length:=by omega
  rw [hln] at hjl⊢;by_cases hlt:j+1<L.length
  ·rw [decide_eq_true hlt] at hy;apply W.qG (g1+gy)
   ·intro M hM;simp (config:={maxSteps:=4000000}) (disch:=first|decide+kernel|omega|simp only [Wq,qal]) only [jK,qb1,Aq,qaq,reduceIte,qal,qam,vZ,m3,i1,i2,i3,m1,m2,l8,l3,hg1,ly,ls,ka,hy,sy,Fq,aA [(13,22),(14,22)]];rfl
   refine Ki (E3:=E) hS hs g hl hL hK hC ih ?_ (by omega) hW' v8 v9 v10 ⟨by omega,by omega,by omega,hb8,by omega⟩ hk hQF hFF ?_
   ·by_cases ha:s.arcs=[]
    ·refine .inr ?_;rw [hcnt,ha];exact hlt
    ·exact .inl ha
   ·simp only [Sq,qal,qam,pV]
  ·rw [decide_eq_false hlt] at hy;obtain⟨I,sI,vI,nI,fI⟩:=aL (tb:=af) (t:=4) (o:=0) (v:=.bool false) ZI w10.2 (by simp) rfl rfl;have lI:ag af I.get 4 (.pointer (some ⟨b8+2,0,none⟩))= .ok (.bool false):=aQ u4 rfl vI rfl;apply W.seq;apply W.cN (g1+gy) 20
   ·intro M hM;simp (config:={maxSteps:=4000000}) (disch:=first|decide+kernel|omega|simp only [Wq,qal]) only [jK,qb1,Aq,qaq,reduceIte,qal,qam,vZ,m3,i1,i2,i3,m1,m2,l8,l3,hg1,ly,ls,ka,hy,sy,sI,Fq,aA [(13,22),(14,22)]];rfl
   show kW _ _ _ _ _ _ _ _;have hz:jP M s s.arcs.length=0:=by omega
   rw [hz,qa8];unfold kW;rw [decide_eq_false hlt];have hkI:=hFF.1;refine⟨.inr rfl,I,_,rfl,(by simp only [qb1,Aq,qal,lI]<;>rfl),rfl,r3,hK _ _ _ _ hQF (by omega) fun z hz=>fI z ?_,⟨by omega,by have:=hFF.2.1;omega,fun z hz hx hr=>?_⟩⟩
   ·have:=(hC _ _ _ hQF).1.x r3 (.inr rfl);have:=hFF.2.1;omega
   ·rw [fI z (by omega),hFF.2.2 z (by omega) hx hr,hk.2 z hz]
end Go.Proofs.YtjoceidiioppiaaGreatDoor.sto
namespace Go.Am
variable {tb:bO}
variable {t:T Value} {n i:Nat} {A A':Mem} {v:Value}
theorem W.Vr {f:Operand} {ps:Array Tmp} {a b:Code} {d:List Nat} {K:Ex→St→Prop} {fid:FuncId} {first capt:List Value} {r:f_}
 (hf:ev t f= .ok (.func (.func fid) ⟨first⟩ ⟨capt⟩))
 (hc:bg tb fid (first++[.func (.yield (A.next+1)) ⟨[]⟩ ⟨[]⟩]++capt) ((A.alloc .defd).alloc (.loop (iZ t n ps.toList a b A.next))) v A')
 (hr:A'.get (A.next+1)=some (.loop r)) (hst:r.state= .done) (hp:r.pending=some (.exit i))
 (k:K (.exit i) ⟨t,n,A.next::d,A'.set (A.next+1) (.loop {r with state:=.exhausted}),none⟩):W tb (.rangeFunc f ps a b) ⟨t,n,d,A,none⟩ K:=by
 obtain⟨g,hg⟩:=hc;refine⟨_,_,⟨g+1,fun m=>?_⟩,k⟩;rw [show m+(g+1)=(m+g)+1 by omega,jR];have h1:=hg (m+g) (by omega);unfold fU;simp only [hf,R.aw];have hn:(A.alloc .defd).next=A.next+1:=ae _ _
 rw [hn];have hcal:∀g':Nat→Option Ob,iG tb g' (.func (.func fid) ⟨first⟩ ⟨capt⟩) [.func (.yield (A.next+1)) ⟨[]⟩ ⟨[]⟩]= .ok (.fn fid (first++[.func (.yield (A.next+1)) ⟨[]⟩ ⟨[]⟩]++capt)):=fun _=>rfl
 rw [hcal,R.aw];unfold iZ at h1;rw [h1,R.aw];simp only [hr,hp,hst];rfl
theorem H0 {l:Nat} {args:List Value} {r:f_} {Q:Mem→Prop} (hl:A.get l=some (.loop r)) (ht:setArgs r.n r.params args r.tmps= .ok t)
 (h:W tb r.assign ⟨t,r.n,[],A,some l⟩ fun e s1=>e= .nrm∧∃r1,s1.m.get l=some (.loop r1)∧r1.state= .ready∧W tb r.body ⟨s1.t,s1.n,s1.d,s1.m.set l (.loop {r1 with state:=.busy}),s1.ro⟩ fun e s2=>e= .exit i∧s2.d=[]∧∃r2,s2.m.get l=some (.loop r2)∧Q (s2.m.set l (.loop {r2 with state:=.done,pending:=some (.exit i)}))):
 ∃A',(∃g,∀M,g≤M→bA tb (exec tb M) (.round l args) A= .ok (.val (.bool false) A'))∧Q A':=by
 obtain⟨e,s1,⟨f1,h1⟩,rfl,r1,hr1,hst1,e2,s2,⟨f2,h2⟩,rfl,hd,r2,hr2,hQ⟩:=h;refine⟨_,⟨f1+f2,fun M hM=>?_⟩,hQ⟩;show nw (exec tb M) l args A=_;unfold nw;have e1:=h1 (M-f1);rw [qce (by omega)] at e1;have e2:=h2 (M-f2);rw [qce (by omega)] at e2;simp only [hl,ht,R.aw,e1,hr1,hst1,e2,hd,hr2]
end Go.Am
namespace Go.Proofs.YtjoceidiioppiaaGreatDoor.sto
open Go.Am Go.Mdl Go.Sto
theorem wv:bS af 61= .ok (.agg ⟨[aj [],wN 0,.bool false]⟩):=by kernel_rfl
variable {w:List UInt8}
theorem Xo:ct af 61 [(0,aj w),(2,.bool true)]= .ok (.agg ⟨[aj w,wN 0,.bool true]⟩):=by kernel_rfl
theorem Xp {n:Int}:ct af 61 [(0,aj w),(1,.int .u32 n)]= .ok (.agg ⟨[aj w,.int .u32 n,.bool false]⟩):=by kernel_rfl
def Norm (e:aP):Prop:=(e.gone=true→e.weight=0)∧e.weight<4294967296
variable {A:Mem} {e:aP}
theorem SM (h:Norm e):∃A',bg af 213 [aj e.word,.int .u64 (val e:Nat)] A (.tuple ⟨[.agg ⟨a_ e⟩,.bool true]⟩) A'∧Kp A A':=by
 obtain⟨w,n,gn⟩:=e;obtain⟨h1,h2⟩:=h;have h2:n<4294967296:=h2;have kB:=Kp.alloc A (aa 61 (a_ ⟨w,n,gn⟩));have sB:aW af (A.alloc (aa 61 [aj [],.int .u32 (0:Nat),.bool false])) 61 (.pointer (some ⟨A.next,0,none⟩)) (.agg ⟨a_ ⟨w,n,gn⟩⟩)= .ok (A.alloc (aa 61 (a_ ⟨w,n,gn⟩))):=bk IG rfl rfl (by simp) (oH _);have lB:ag af (A.alloc (aa 61 (a_ ⟨w,n,gn⟩))).get 61 (.pointer (some ⟨A.next,0,none⟩))= .ok (.agg ⟨a_ ⟨w,n,gn⟩⟩):=by
  obtain⟨d,hd1,hd2⟩:=a8 (t:=61) (p:=true) (by kernel_rfl);exact aI hd1 hd2 IG (g_ A 61 (a_ ⟨w,n,gn⟩))
 refine⟨_,?_,kB⟩;cases gn with
 |true=>
  obtain rfl:=h1 rfl;simp only [val,a_] at sB lB⊢;refine bm 60 (aq Tryz.func213) (by kernel_rfl) fun M=>?_
  simp (disch:=first|decide+kernel|omega) only [Tryz.f213,Aq,qal,wv,au,Xo,sB,lB]<;>rfl
 |false=>
  have hn:¬(n+1=0):=by omega
  have s1:aM .sub .u64 ((n+1:Nat):Int) ((1:Nat):Int)= .ok (.int .u64 (n:Nat)):=br (by omega) (cV (by omega));have hle:¬(4294967295<n):=by omega
  have cv:=bM (tb:=af) (s:=113) (d:=59) (k:=.u64) (n:=n) (by rw [fp];rfl) WS (by unfold iy;show qax n 4294967296=true;rw [qaH];exact h2);simp only [val,a_,qaI,if_false] at sB lB⊢;refine bm 60 (aq Tryz.func213) (by kernel_rfl) fun M=>?_
  simp (disch:=first|decide+kernel|omega) only [Tryz.f213,Aq,qal,wv,au,Xp,sB,lB,hn,s1,cT,bY,hle,cv]<;>rfl
end Go.Proofs.YtjoceidiioppiaaGreatDoor.sto
namespace Go.Proofs.YtjoceidiioppiaaGreatDoor.sto
open Go.Am Go.Mdl Go.Sto
variable {A:Mem} {M:List aZ} {y:Value}
theorem PE {k:Value} (h:dJ A M y) (hM:M≠ []) (hl:M.length<1000000):∃A',bg af 254 [.agg ⟨[y,k]⟩] A (iN (M.length-1)) A'∧Kp A A':=by
 have kB:=Kp.alloc A (aa 115 [y,k]);have vB:=ay A 115 [y,k];generalize hB:A.alloc (aa 115 [y,k])=B at kB vB;have ly:ag af B.get 112 (pw A.next 0)= .ok y:=vB.ld rfl fy rfl;have bX:=(h.kp kB).len;have hpos:=qa6.2 hM;have s1:aM .sub .i64 ((M.length:Nat):Int) ((1:Nat):Int)= .ok (iN (M.length-1)):=br (by omega) (aV (by omega));refine⟨B,?_,kB⟩;refine bm 60 (aq Tryz.func254) (by kernel_rfl) fun M=>?_
 simp (disch:=first|decide+kernel|omega) only [Tryz.f254,Aq,qal,au,hB,vZ,ly,bX,s1]<;>rfl
theorem Hj:Value.nilFunc.cells.toList=[.nilFunc]:=rfl
theorem Tt:bS af 353= .ok .nilFunc:=by kernel_rfl
theorem ZH:aR af 353= .ok 1:=by kernel_rfl
theorem Un {x:Int} {f:Bool}:ct af 280 [(0,.int .u64 x),(1,.bool f)]= .ok (.agg ⟨[.int .u64 x,.bool f]⟩):=by kernel_rfl
def kv (M:List aZ) (k:Nat):List (List UInt8×Nat):=(ws M (M.length-1)).map fun x=>(x.1,k+x.2)
noncomputable def zO:Code:=qem.body.getD .skip
theorem Rj:qem.body=some (.seq (sub zO [0]) (.seq (sub zO [1,0]) (.seq (sub zO [1,1,0]) (.seq (sub zO [1,1,1,0]) (sub zO [1,1,1,1]))))):=by kernel_rfl
variable {k:Nat} {X:List Nat}
theorem PL {J:Mem} {lp p3 p4 r0:Nat} {Q:Nat→Mem→Nat→Prop} (hS:dJ A M y) (g:dg M) (hM:M≠ []) (hl:M.length<1000000) (hL:∀x∈kv M k,x.1.length<1000∧x.2<18446744073709551616)
 (hK:∀j D E r,Q j D r→D.next≤E.next→(∀z,(z<J.next∨z=r)→E.get z=D.get z)→Q j E r) (hR:∀j D r,Q j D r→r<D.next) (hE:T' X lp (kv M k) Q) (hJ:Kp A J) (hX:∀x,(x∈X∨x=r0)→A.next≤x∧x<J.next∧x≠p3∧x≠p4)
 (v3:VB J 9 p3 (.var 1) [aj []]) (v4:VB J 115 p4 (.var 2) [y,.int .u64 k]) (hI:Q 0 J r0):
 ∃v E,bg af 251 [.func (.yield lp) ⟨[]⟩ ⟨[]⟩,pV p3,pV p4] J v E∧∃r,Q (kv M k).length E r∧po X J r0 E r:=by
 generalize hb:J.next=b5
 have hpos:=qa6.2 hM;have k1:=Kp.alloc J (aa 352 [.func (.yield lp) ⟨[]⟩ ⟨[]⟩]);have n1:(J.alloc (aa 352 [.func (.yield lp) ⟨[]⟩ ⟨[]⟩])).next=b5+1:=by rw [ae,hb]
 have w5:=ay J 352 [.func (.yield lp) ⟨[]⟩ ⟨[]⟩];rw [hb] at w5;generalize hB1:J.alloc (aa 352 [.func (.yield lp) ⟨[]⟩ ⟨[]⟩])=B1 at k1 n1 w5;have k2:=Kp.alloc B1 (aa 353 [.func (.func 252) ⟨[]⟩ ⟨kS p3 p4 b5 (b5+1)⟩]);have n2:(B1.alloc (aa 353 [.func (.func 252) ⟨[]⟩ ⟨kS p3 p4 b5 (b5+1)⟩])).next=b5+2:=by rw [ae,n1]
 have w6:=ay B1 353 [.func (.func 252) ⟨[]⟩ ⟨kS p3 p4 b5 (b5+1)⟩];have s6:aW af (B1.alloc (aa 353 [.nilFunc])) 353 (pw B1.next 0) (.func (.func 252) ⟨[]⟩ ⟨kS p3 p4 b5 (b5+1)⟩)= .ok (B1.alloc (aa 353 [.func (.func 252) ⟨[]⟩ ⟨kS p3 p4 b5 (b5+1)⟩])):=bk ZH rfl rfl (by simp) (by simp [aJ]);rw [n1] at w6 s6;generalize B1.alloc (aa 353 [.func (.func 252) ⟨[]⟩ ⟨kS p3 p4 b5 (b5+1)⟩])=B at k2 n2 w6 s6;have kJB:=k1.trans k2;have V5:=w5.kp k2;have hSB:=hS.kp (hJ.trans kJB);obtain⟨d,hd1,hd2⟩:=Tj;have l4:ag af B.get 115 (pw p4 0)= .ok (.agg ⟨[y,.int .u64 k]⟩):=aI hd1 hd2 (l:=[y,.int .u64 k]) du (v4.kp kJB).2;obtain⟨C,⟨gr,hgr⟩,kC⟩:=PE hSB hM hl (k:=.int .u64 k);have kJC:=kJB.trans kC;have l6:ag af C.get 353 (pw (b5+1) 0)= .ok (.func (.func 252) ⟨[]⟩ ⟨kS p3 p4 b5 (b5+1)⟩):=by
  obtain⟨d,hd1,hd2⟩:=Qp;exact(w6.kp kC).ld rfl hd1 hd2
 have l7:ag af C.get 113 (pw p4 (0+1))= .ok (.int .u64 k):=(v4.kp kJC).ld rfl fp rfl;have hr0:=hX r0 (.inr rfl);have hAJ:=hJ.1;have nC:=kC.1;have hQC:Q 0 C r0:=hK _ _ _ _ hI kJC.1 fun z hz=>kJC.2 z (by omega)
 obtain⟨vb,E,⟨gb,hgb⟩,rfl,r,hQE,hFE⟩:=H3 (A:=A) (M:=M) (y:=y) (k:=.int .u64 k) (l0:=lp) (p3:=p3) (p4:=p4) (p5:=b5) (p6:=b5+1) (P0:=C.next) (X:=X) (L:=kv M k)
  (Q:=fun j D r=>Q j D r∧po X C r0 D r) hS g hl hL
  (fun j D E r hq hn hz=>⟨hK _ _ _ _ hq.1 hn fun z hz'=>hz z (by have:=kJC.1;omega),⟨by have:=hq.2.1;omega,hq.2.2.1,fun z hz' hx hr=>by rw [hz z (.inl hz'),hq.2.2.2 z hz' hx hr]⟩⟩)
  (fun j D r hq=>by
   obtain⟨hq,hf⟩:=hq;have hrD:=hR _ _ _ hq;have hfn:=hf.1;have hfr:r=r0∨C.next≤r:=hf.2.1
   have kp:∀e z kk l,VB C e z kk l→z∉X→z≠r0→VB D e z kk l:=fun e z kk l h h1 h2=>⟨by have:=h.1;omega,h.2.same (hf.2.2 z h.1 h1 h2)⟩
   refine⟨⟨⟨by have:=kJC.1;omega,fun z hz=>by rw [hf.2.2 z (by have:=kJC.1;omega) (fun hx=>by have:=(hX z (.inl hx)).1;omega) (by omega),kJC.2 z (by omega),hJ.2 z hz]⟩,
    kp _ _ _ _ (v3.kp kJC) (fun hx=>(hX _ (.inl hx)).2.2.1 rfl) (fun e=>hr0.2.2.1 e.symm),kp _ _ _ _ (v4.kp kJC) (fun hx=>(hX _ (.inl hx)).2.2.2 rfl) (fun e=>hr0.2.2.2 e.symm),
    kp _ _ _ _ (V5.kp kC) (fun hx=>by have:=(hX _ (.inl hx)).2.1;omega) (by omega),kp _ _ _ _ (w6.kp kC) (fun hx=>by have:=(hX _ (.inl hx)).2.1;omega) (by omega),fun x hx=>?_⟩,hfn,fun x hx=>by have:=(hX x (.inl hx)).2.1;have:=kJC.1;omega⟩
   rcases hx with hx|rfl
   ·have:=hX x (.inl hx);have:=kJC.1;omega
   ·have:=kJC.1;omega)
  (fun j w v D r hj hq=>by
   obtain⟨E,r',h1,h2,h3⟩:=hE j w v D r hj hq.1;exact⟨E,r',h1,⟨h2,hq.2.trans h3⟩,h3⟩)
  (M.length-1) (by omega) [] k 0 C r0 ⟨hQC,po.kp (Kp.refl C)⟩ (fun t x hx=>by
   rw [qa1];unfold kv;rw [qaN,hx];rfl)
 have hlen:(kv M k).length=(ws M (M.length-1)).length:=by unfold kv;rw [qas]
 rw [qa1] at hQE;rw [←hlen] at hQE;refine cF (aq Tryz.func251) Rj (by kernel_rfl) ?_;simp only [kS,pV,sW,qbf,qbv] at hgb s6 l6⊢;apply W.q
 ·intro M;simp (disch:=first|decide+kernel|omega) only [zO,qem,Aq,qal,eA,hB1];rfl
 apply W.q
 ·intro M;simp (disch:=first|decide+kernel|omega) only [zO,qem,Aq,qal,Tt,Hj,n1];rfl
 apply W.q
 ·intro M;simp (disch:=first|decide+kernel|omega) only [zO,qem,Aq,qal,eA,hb,n1,s6];rfl
 apply W.qG (gr)
 ·intro M hM;simp (disch:=first|decide+kernel|omega) only [zO,qem,Aq,qal,hb,l4,hgr];rfl
 apply W.cN (gb) 20
 ·intro M hM;simp (disch:=first|decide+kernel|omega) only [zO,qem,Aq,qal,qaB,decide_true,if_true,l6,l7,Ht,Un,hgb];rfl
 exact⟨by simp,rfl,_,(by simp only [qem,Aq,qal]<;>rfl),r,hQE.1,(po.kp kJC).trans hFE⟩
theorem Yu:aR af 28= .ok 1:=by kernel_rfl
theorem ZQ:bS af 28= .ok (.slice none 0 0):=by kernel_rfl
theorem T6:bS af 280= .ok (.agg ⟨[uN 0,.bool false]⟩):=by kernel_rfl
variable {b:Nat}
theorem I_:av af 280 (pw b 0) 0= .ok (pw b 0):=by kernel_rfl
noncomputable def oh:Code:=qc8.body.getD .skip
noncomputable def wR:Code:=sub oh [1,1,0,1,0,0]
noncomputable def wS:Code:=sub oh [1,1,0,1,0,1]
theorem QW:qc8.body=some (.seq (sub oh [0]) (.seq (sub oh [1,0]) (.seq (.seq (sub oh [1,1,0,0]) (.block 0 (.rangeFunc (.tmp 15) #[16,17] wR wS))) (.seq (sub oh [1,1,1,0]) (sub oh [1,1,1,1]))))):=by kernel_rfl
noncomputable def ft (t:T Value) (d:Nat):f_:=iZ t 37 [16,17] wR wS d
def QF (es:List aP) (t:T Value) (mk a:Nat) (j:Nat) (D:Mem) (r:Nat):Prop:=
 (r=a∨mk+2≤r)∧r<D.next∧mk+2≤D.next∧VB D 3 (a+1) (.var 1) [.int .i64 es.length]∧(∃x,VB D 28 (a+2) (.var 1) [x]∧az D 61 3 r ((es.take j).map a_) x)∧
  D.get (mk+1)=some (.loop (if j<es.length then ft t mk else {ft t mk with state:=.done,pending:=some (.exit 0)}))
variable {t:T Value} {mk n:Nat}
theorem QF.mb {es:List aP} {a:Nat} (hn:n≤mk+2) (ha:a+2<mk) (hmk:mk+1<n):∀j D E r,QF es t mk a j D r→D.next≤E.next→(∀z,(z<n∨z=r)→E.get z=D.get z)→QF es t mk a j E r:=by
 rintro j D E r ⟨h1,h2,h3,h4,⟨x,h5,h6⟩,h7⟩ hl hz;exact⟨h1,by omega,by omega,⟨by have:=h4.1;omega,h4.2.same (hz _ (by omega))⟩,⟨x,⟨by have:=h5.1;omega,h5.2.same (hz _ (by omega))⟩,h6.same hl fun _=>hz _ (.inr rfl)⟩,by rw [hz _ (by omega)];exact h7⟩
theorem RA {es:List aP} {a:Nat} {L:List (List UInt8×Nat)} (hL:L=es.map fun e=>(e.word,val e)) (hN:∀e∈es,Norm e) (hn:es.length<1000000) (ha:a+2<mk) (hs:Sl t [(5,pV (a+1)),(6,pV (a+2))]):T' [a+2,mk+1] (mk+1) L (QF es t mk a):=by
 subst hL;rintro j w v D r hj ⟨hr,hrD,hm,v5,⟨x,v6,hS⟩,hlp⟩;obtain⟨g5,g6,-⟩:=hs;rw [qaN] at hj;cases hej:es[j]? with
 |none=>rw [hej] at hj;cases hj
 |some e=>
 rw [hej] at hj;simp only [qa5,qaX,qat] at hj;obtain⟨rfl,rfl⟩:=hj;obtain⟨hjl,hje⟩:=qap.1 hej;have hNe:=hN e (qa0 hej);have hv:val e≤4294967296:=by
  have:=hNe.2;unfold val;split<;>omega
 rw [if_pos hjl] at hlp;rw [qas];have kE:=Kp.alloc D (aa 280 [.int .u64 (val e:Nat),.bool true]);have vE:=ay D 280 [.int .u64 (val e:Nat),.bool true];have nE:(D.alloc (aa 280 [.int .u64 (val e:Nat),.bool true])).next=D.next+1:=ae _ _
 have sE:aW af (D.alloc (aa 280 [.int .u64 (0:Nat),.bool false])) 280 (.pointer (some ⟨D.next,0,none⟩)) (sW (val e))= .ok (D.alloc (aa 280 [.int .u64 (val e:Nat),.bool true])):=bk J1 rfl rfl (by simp) (by simp [aJ]);generalize D.alloc (aa 280 [.int .u64 (val e:Nat),.bool true])=E at kE vE nE sE;have hLE:E.get (mk+1)=some (.loop (ft t mk)):=by rw [kE.2 _ (by omega)];exact hlp
 generalize hF1:E.set (mk+1) (.loop {ft t mk with state:=.busy})=F;have nF:F.next=E.next:=by rw [←hF1];exact aO _ _ _
 have fF:∀z,z≠mk+1→F.get z=E.get z:=fun z hz=>by rw [←hF1,aC,if_neg hz]
 have hLF:F.get (mk+1)=some (.loop {ft t mk with state:=.busy}):=by rw [←hF1,aC,if_pos rfl]
 have vF:VB F 280 D.next (.var 2) [.int .u64 (val e:Nat),.bool true]:=⟨by omega,vE.2.same (fF _ (by omega))⟩
 obtain⟨d,hd1,hd2⟩:=a8 (t:=280) (p:=true) (by kernel_rfl);have l8:ag af F.get 280 (.pointer (some ⟨D.next,0,none⟩))= .ok (.agg ⟨[.int .u64 (val e:Nat),.bool true]⟩):=aI hd1 hd2 (l:=[.int .u64 (val e:Nat),.bool true]) J1 vF.2;have l8':ag af F.get 113 (.pointer (some ⟨D.next,0,none⟩))= .ok (.int .u64 (val e:Nat)):=vF.ld rfl fp rfl;have ks:=fun ih A=>OA (ih:=ih) (A:=A) (n:=val e) (f:=true)
 rw [decide_eq_true hv] at ks;simp only [qci] at ks;obtain⟨G,⟨go,hgo⟩,kG⟩:=SM (A:=F) hNe;have nG:=kG.1;have kH:=Kp.alloc G (aa 61 (a_ e));have nH:(G.alloc (aa 61 (a_ e))).next=G.next+1:=ae _ _
 have sH:aW af (G.alloc (aa 61 [aj [],.int .u32 (0:Nat),.bool false])) 61 (.pointer (some ⟨G.next,0,none⟩)) (.agg ⟨a_ e⟩)= .ok (G.alloc (aa 61 (a_ e))):=bk IG rfl rfl (by simp) (oH _);have lH:ag af (G.alloc (aa 61 (a_ e))).get 61 (.pointer (some ⟨G.next,0,none⟩))= .ok (.agg ⟨a_ e⟩):=by
  obtain⟨d,hd1,hd2⟩:=a8 (t:=61) (p:=true) (by kernel_rfl);exact aI hd1 hd2 IG (g_ G 61 (a_ e))
 generalize G.alloc (aa 61 (a_ e))=H at kH nH sH lH;have fH:∀z,z<D.next→z≠mk+1→H.get z=D.get z:=fun z hz h=>by rw [kH.2 z (by omega),kG.2 z (by omega),fF z h,kE.2 z hz]
 have hSH:az H 61 3 r ((es.take j).map a_) x:=hS.same (by omega) fun h=>fH r h (by omega)
 have l6:ag af H.get 28 (.pointer (some ⟨a+2,0,none⟩))= .ok x:=aQ QH rfl (v6.2.same (fH _ v6.1 (by omega))) rfl;obtain⟨x',I,happ,hSI,nI,fI⟩:=Ca (e:=e) hSH (by rw [qaE];omega);have happ':bj af (H.alloc (aa 61 (a_ e))) 28 28 x (.slice (some ⟨H.next,0,none⟩) 1 2)= .ok (x',I):=happ;have et:es.take j++[e]=es.take (j+1):=by rw [qaC hjl,hje]
 rw [et] at hSI;have hdn:=v6.1;have v6I:dw I 28 (a+2) (.var 1) [x]:=v6.2.same (by rw [fI _ (by omega) (by omega),fH _ v6.1 (by omega)]);obtain⟨xc1,xc2⟩:=az.dk hSI;obtain⟨N,sN,vN,nN,fN⟩:=aL (tb:=af) (t:=28) (o:=0) (v:=x') Yu v6I (by simp) xc1 xc2;have hSN:az N 61 3 (H.next+1) ((es.take (j+1)).map a_) x':=hSI.same (by omega) fun _=>fN _ (by omega)
 have l6':ag af N.get 28 (.pointer (some ⟨a+2,0,none⟩))= .ok x':=aQ QH rfl vN rfl;have hlenN:=(show en N (es.take (j+1)) x' from⟨_,hSN⟩).len;rw [qaE,qbr (by omega)] at hlenN;have fND:∀z,z<D.next→z≠mk+1→z≠a+2→z≠r→N.get z=D.get z:=fun z hz h1 h2 h3=>by rw [fN z h2,fI z h3 (by omega),fH z hz h1]
 have v5N:VB N 3 (a+1) (.var 1) [.int .i64 es.length]:=⟨by have:=v5.1;omega,v5.2.same (fND _ v5.1 (by omega) (by omega) (by omega))⟩;have l5:ag af N.get 3 (.pointer (some ⟨a+1,0,none⟩))= .ok (.int .i64 es.length):=v5N.ld rfl u3 rfl;have hlN:N.get (mk+1)=some (.loop {ft t mk with state:=.busy}):=by rw [fN _ (by omega),fI _ (by omega) (by omega),kH.2 _ (by omega),kG.2 _ (by omega)];exact hLF
 simp only [pV] at g5 g6;have fin:∀O:Mem,O.next=N.next→(∀z,z≠mk+1→O.get z=N.get z)→O.get (mk+1)=some (.loop (if j+1<es.length then ft t mk else {ft t mk with state:=.done,pending:=some (.exit 0)}))→
  QF es t mk a (j+1) O (H.next+1)∧po [a+2,mk+1] D r O (H.next+1):=fun O hn hf hl=>by
  refine⟨⟨.inr (by omega),by omega,by omega,⟨by have:=v5N.1;omega,v5N.2.same (hf _ (by omega))⟩,⟨x',⟨by omega,dw.same (A:=N) vN (hf _ (by omega))⟩,hSN.same (by omega) fun _=>hf _ (by omega)⟩,hl⟩,by omega,.inr (by omega),fun z hz hx hr'=>?_⟩;simp only [qaK,qbb,or_false,not_or] at hx;rw [hf z hx.2,fND z hz hx.2 hx.1 hr']
 by_cases hlt:j+1<es.length
 ·have hne:¬(j+1=es.length):=by omega
  rw [decide_eq_true hlt];have hq:∃C,(∃g,∀N,g≤N→bA af (exec af N) (.round (mk+1) [aj e.word,sW (val e)]) D= .ok (.val (.bool true) C))∧C=N.set (mk+1) (.loop (ft t mk)):=by
   refine j7 hlp (t:=(t.set 16 (aj e.word)).set 17 (sW (val e))) rfl ?_;show W af wR ⟨_,37,[],D,some (mk+1)⟩ _;apply W.run 20
   ·intro M;simp (disch:=first|decide+kernel|omega) only [wR,oh,qc8,Aq,qal,T6,au,sE];rfl
   refine⟨rfl,_,hLE,rfl,?_⟩;show W af wS ⟨_,37,[],E.set (mk+1) (.loop {ft t mk with state:=.busy}),some (mk+1)⟩ _;rw [hF1];apply W.cN (go) 20
   ·intro M hM;simp (config:={maxSteps:=4000000}) (disch:=first|decide+kernel|omega|simp only [Wq,qal]) only [wS,oh,qc8,Aq,qaq,reduceIte,qal,qam,g5,g6,l8,l8',I_,ks,hgo,qau,qav,wv,au,sH,l6,lH,KL,happ',sN,l6',hlenN,l5,hne,Fq,aA []];rfl
   exact⟨rfl,rfl,_,hlN,rfl⟩
  obtain⟨C,hc,rfl⟩:=hq;have:=fin (N.set (mk+1) (.loop (ft t mk))) (aO _ _ _) (fun z h=>by rw [aC,if_neg h]) (by rw [aC,if_pos rfl,if_pos hlt]);exact⟨_,_,hc,this.1,this.2⟩
 ·have heq:j+1=es.length:=by omega
  rw [decide_eq_false hlt];have hq:∃C,(∃g,∀N,g≤N→bA af (exec af N) (.round (mk+1) [aj e.word,sW (val e)]) D= .ok (.val (.bool false) C))∧C=N.set (mk+1) (.loop {ft t mk with state:=.done,pending:=some (.exit 0)}):=by
   refine H0 (i:=0) hlp (t:=(t.set 16 (aj e.word)).set 17 (sW (val e))) rfl ?_;show W af wR ⟨_,37,[],D,some (mk+1)⟩ _;apply W.run 20
   ·intro M;simp (disch:=first|decide+kernel|omega) only [wR,oh,qc8,Aq,qal,T6,au,sE];rfl
   refine⟨rfl,_,hLE,rfl,?_⟩;show W af wS ⟨_,37,[],E.set (mk+1) (.loop {ft t mk with state:=.busy}),some (mk+1)⟩ _;rw [hF1];apply W.cN (go) 20
   ·intro M hM;simp (config:={maxSteps:=4000000}) (disch:=first|decide+kernel|omega|simp only [Wq,qal]) only [wS,oh,qc8,Aq,qaq,reduceIte,qal,qam,g5,g6,l8,l8',I_,ks,hgo,qau,qav,wv,au,sH,l6,lH,KL,happ',sN,l6',hlenN,l5,heq,show qaw 0 1=false from rfl,Fq,aA []];rfl
   exact⟨rfl,rfl,_,hlN,rfl⟩
  obtain⟨C,hc,rfl⟩:=hq;have:=fin (N.set (mk+1) (.loop {ft t mk with state:=.done,pending:=some (.exit 0)})) (aO _ _ _) (fun z h=>by rw [aC,if_neg h]) (by rw [aC,if_pos rfl,if_neg hlt]);exact⟨_,_,hc,this.1,this.2⟩
theorem PK {k:Value}:bg af 212 [.agg ⟨[y,k]⟩,aj []] A (.func (.func 251) ⟨[]⟩ ⟨[pV (A.next+1),pV A.next]⟩) ((A.alloc (aa 115 [y,k])).alloc (aa 9 [aj []])):=by
 have e:=ae A (aa 115 [y,k]);simp only [pV];refine bm 60 (aq Tryz.func212) (by kernel_rfl) fun M=>?_
 simp (disch:=first|decide+kernel|omega) only [Tryz.f212,Aq,qal,au,mu,e,e9,aY]<;>rfl
theorem Pv {es:List aP} (hS:dJ A M y) (g:dg M) (hM:M≠ []) (hl:M.length<1000000) (hL:kv M k=es.map fun e=>(e.word,val e)) (hw:∀e∈es,e.word.length<1000∧Norm e) (h0:es≠ []) (hn:es.length<1000000):
 ∃v A',bg af 165 [.agg ⟨[y,.int .u64 k]⟩,aj [],iN es.length] A v A'∧en A' es v∧Kp A A':=by
 refine eL (aq Tryz.func165) QW (by rw [Tryz.ntmps165];simp) (by kernel_rfl) (by kernel_rfl) ?_;generalize ha:A.next=a
 have n1:(A.alloc (aa 115 [y,.int .u64 k])).next=a+1:=by rw [ae,ha]
 have n2:((A.alloc (aa 115 [y,.int .u64 k])).alloc (aa 3 [iN es.length])).next=a+2:=by rw [ae,n1]
 have n3:(((A.alloc (aa 115 [y,.int .u64 k])).alloc (aa 3 [iN es.length])).alloc (aa 28 [.slice none 0 0])).next=a+3:=by rw [ae,n2]
 have q1:=Kp.alloc A (aa 115 [y,.int .u64 k]);have q2:=Kp.alloc (A.alloc (aa 115 [y,.int .u64 k])) (aa 3 [iN es.length]);have q3:=Kp.alloc ((A.alloc (aa 115 [y,.int .u64 k])).alloc (aa 3 [iN es.length])) (aa 28 [.slice none 0 0]);have w3:=((ay A 115 [y,.int .u64 k]).kp q2).kp q3;have w5:=(ay (A.alloc (aa 115 [y,.int .u64 k])) 3 [iN es.length]).kp q3;have w6:=ay ((A.alloc (aa 115 [y,.int .u64 k])).alloc (aa 3 [iN es.length])) 28 [.slice none 0 0];have hk:=q1.trans (q2.trans q3);rw [ha] at w3;rw [n1] at w5;rw [n2] at w6;have hpos:=qa6.2 h0;have hlt1:¬(es.length<1):=by omega
 apply W.q
 ·intro M;simp (disch:=first|decide+kernel|omega) only [oh,qc8,Aq,qal,au,fh,Ax,ha,n1,n2,ZQ];rfl
 generalize ((A.alloc (aa 115 [y,.int .u64 k])).alloc (aa 3 [iN es.length])).alloc (aa 28 [.slice none 0 0])=B at hk n3 w3 w5 w6;have l5:ag af B.get 3 (pw (a+1) 0)= .ok (iN es.length):=w5.ld rfl u3 rfl;apply W.q
 ·intro M;simp (disch:=first|decide+kernel|omega) only [oh,qc8,Aq,qal,l5,hlt1];rfl
 obtain⟨d,hd1,hd2⟩:=Tj;have l3:ag af B.get 115 (pw a 0)= .ok (.agg ⟨[y,.int .u64 k]⟩):=aI hd1 hd2 (l:=[y,.int .u64 k]) du w3.2;obtain⟨gw,hgw⟩:=PK (A:=B) (y:=y) (k:=.int .u64 k);have m1:(B.alloc (aa 115 [y,.int .u64 k])).next=a+4:=by rw [ae,n3]
 have m2:((B.alloc (aa 115 [y,.int .u64 k])).alloc (aa 9 [aj []])).next=a+5:=by rw [ae,m1]
 have x4:=(ay B 115 [y,.int .u64 k]).kp (Kp.alloc _ (aa 9 [aj []]));have x3:=ay (B.alloc (aa 115 [y,.int .u64 k])) 9 [aj []];have kC:=(Kp.alloc B (aa 115 [y,.int .u64 k])).trans (Kp.alloc _ (aa 9 [aj []]));rw [n3] at x4 hgw;rw [m1] at x3;generalize (B.alloc (aa 115 [y,.int .u64 k])).alloc (aa 9 [aj []])=C at hgw m2 x3 x4 kC;simp only [pV] at hgw;apply W.seq;apply W.qG (gw)
 ·intro M hM;simp (disch:=first|decide+kernel|omega) only [oh,qc8,Aq,qal,l3,hgw];rfl
 apply W.block;generalize ht0:T.set _ _ _=t0;have hsl:Sl t0 [(5,pV (a+1)),(6,pV (a+2)),(15,.func (.func 251) ⟨[]⟩ ⟨[pV (a+4),pV (a+3)]⟩)]:=by
  rw [←ht0];simp only [Sq,qal,qam,pV]
 clear ht0;obtain⟨h5,h6,h15,-⟩:=hsl;have nC:C.next=a+5:=m2
 have kJ:=(Kp.alloc C .defd).trans (Kp.alloc (C.alloc .defd) (.loop (ft t0 C.next)));have nJ1:(C.alloc .defd).next=C.next+1:=ae _ _
 have nJ:((C.alloc .defd).alloc (.loop (ft t0 C.next))).next=C.next+2:=by rw [ae,nJ1]
 have jL:((C.alloc .defd).alloc (.loop (ft t0 C.next))).get (C.next+1)=some (.loop (ft t0 C.next)):=by have:=ax (C.alloc .defd) (.loop (ft t0 C.next));rwa [nJ1] at this
 have jM:((C.alloc .defd).alloc (.loop (ft t0 C.next))).get C.next=some .defd:=by rw [(Kp.alloc (C.alloc .defd) _).2 _ (by omega)];exact ax C .defd
 generalize hJ:(C.alloc .defd).alloc (.loop (ft t0 C.next))=J at kJ nJ jL jM;have kBJ:=kC.trans kJ;have kAJ:=hk.trans kBJ;have hI:QF es t0 C.next a 0 J a:=⟨.inl rfl,by omega,by omega,w5.kp kBJ,⟨_,w6.kp kBJ,.inl ⟨rfl,rfl⟩⟩,by rw [if_pos hpos];exact jL⟩
 obtain⟨va,E,hA,r,hQE,hFE⟩:=PL (A:=A) (J:=J) (lp:=C.next+1) (p3:=a+4) (p4:=a+3) (r0:=a) (X:=[a+2,C.next+1]) (Q:=QF es t0 C.next a) hS g hM hl (by
  rw [hL];intro x hx;obtain⟨e,he,rfl⟩:=qa3.1 hx;have:=(hw e he).2.2;refine⟨(hw e he).1,?_⟩;show val e<_;unfold val;split<;>omega)
  (QF.mb (by omega) (by omega) (by omega)) (fun j D r h=>h.2.1) (RA hL (fun e he=>(hw e he).2) hn (by omega) ⟨h5,h6,trivial⟩) kAJ
  (fun x hx=>by
   simp only [qaK,qbb,or_false] at hx;omega)
  (x3.kp kJ) (x4.kp kJ) hI
 have hlen:(kv M k).length=es.length:=by rw [hL,qas]
 rw [hlen] at hQE;obtain⟨e1,e2,e3,e4,⟨x,e5,e6⟩,e7⟩:=hQE;rw [if_neg (qdh _)] at e7;rw [qaR] at e6;have hans:bg af 251 ([]++[.func (.yield (C.next+1)) ⟨[]⟩ ⟨[]⟩]++[pV (a+4),pV (a+3)]) ((C.alloc .defd).alloc (.loop (iZ t0 37 [16,17] wR wS C.next))) va E:=by
  show bg af 251 _ ((C.alloc .defd).alloc (.loop (ft t0 C.next))) va E;rw [hJ];exact hA
 have hev:ev t0 (.tmp 15)= .ok (.func (.func 251) ⟨[]⟩ ⟨[pV (a+4),pV (a+3)]⟩):=by simp only [ev,h15]
 refine W.Vr (fid:=251) (first:=[]) (capt:=[pV (a+4),pV (a+3)]) (v:=va) (A':=E) (r:={ft t0 C.next with state:=.done,pending:=some (.exit 0)}) (i:=0) hev hans e7 rfl rfl ?_;generalize hK:E.set (C.next+1) (.loop {({ft t0 C.next with state:=.done,pending:=some (.exit 0)}:f_) with state:=.exhausted})=K;have nK:K.next=E.next:=by rw [←hK];exact aO _ _ _
 have fK:∀z,z≠C.next+1→K.get z=E.get z:=fun z hz=>by rw [←hK,aC,if_neg hz]
 have nE:=hFE.1;have w6K:dw K 28 (a+2) (.var 1) [x]:=e5.2.same (fK _ (by omega));have l6:ag af K.get 28 (pw (a+2) 0)= .ok x:=aQ QH rfl w6K rfl;obtain⟨xc1,xc2⟩:=az.dk e6;obtain⟨N,sN,vN,nN,fN⟩:=aL (tb:=af) (t:=28) (o:=0) (v:=x) Yu w6K (by simp) xc1 xc2;simp only [pV] at h6;show W af (.seq (sub oh [1,1,1,0]) (sub oh [1,1,1,1])) _ _;apply W.q
 ·intro M;simp (disch:=first|decide+kernel|omega) only [oh,qc8,Aq,qal,h6,l6,sN];rfl
 apply W.run 20
 ·intro M;simp (disch:=first|decide+kernel|omega) only [oh,qc8,Aq,qal];rfl
 have mE:E.get C.next=some .defd:=by rw [hFE.2.2 _ (by omega) (by simp;omega) (by omega),jM]
 obtain⟨O,t1,t2,t3⟩:=fX [C.next] N (by simp) (fun d hd=>by
  rw [qaY] at hd;rw [hd,fN _ (by omega),fK _ (by omega)];exact mE)
 have lO:ag af O.get 28 (pw (a+2) 0)= .ok x:=aQ QH rfl (vN.same (t3 _ (by simp;omega))) rfl;have hrx:r=a∨C.next+2≤r:=e1
 have hO:en O es x:=⟨r,e6.same (by omega) fun h=>by rw [t3 _ (by simp;omega),fN _ (by omega),fK _ (by omega)]⟩;have kO:Kp A O:=⟨by omega,fun z hz=>by rw [t3 _ (by simp;omega),fN _ (by omega),fK _ (by omega),hFE.2.2 z (by omega) (by simp;omega) (by omega),kAJ.2 z (by omega)]⟩;exact⟨.inr rfl,O,[x],t1,(by simp only [qc8,Aq,qal,h6,lO]<;>rfl),hO,kO⟩
variable {e:aP}
theorem Lu (h:e.weight<4294967296):Norm (bare e):=by
 unfold bare Norm;cases hg:e.gone
 ·simp [hg,h]
 ·simp
theorem KX {l:List aP} (h:DV l):kv (dO l) (least l)=l.map fun e=>(e.word,val e):=by
 unfold kv;rw [(Iq h).words,List.map_map];refine List.map_congr_left fun e he=>?_
 have:=least_le he;simp only [Function.comp,D,qdq];congr 1;omega
theorem UK:av af 148 (pw b 0) 0= .ok (pw b 0):=by kernel_rfl
theorem UL:av af 150 (pw b 0) 0= .ok (pw b 0):=by kernel_rfl
theorem ZE:aR af 148= .ok 2:=by kernel_rfl
variable {v:Value}
theorem Bw {l:List aP} (h:nS A l v) (hl:DV l) (hN:∀e∈l,Norm e):∃x A',bg af 14 [v] A x A'∧en A' l x∧Kp A A':=by
 obtain⟨g1,hg1⟩:=yX h;obtain⟨p,y,rfl,h1,h2⟩:=h;have so:=Iq hl;obtain⟨q0,-,qw,ql,-⟩:=id hl;have r1:ag af A.get 148 (pw p 0)= .ok (.agg ⟨[y,uN (least l)]⟩):=by
  obtain⟨d,hd1,hd2⟩:=a8 (t:=148) (p:=true) (by kernel_rfl);obtain⟨c,e1,e2⟩:=h1.2;have hg:c.iu 2 0=some [y,uN (least l)]:=fq _ _ _ _ rfl fun j hj=>by
   have:j=0∨j=1:=by omega
   rcases this with rfl|rfl
   ·exact e2 0 (by simp [Ip])
   ·exact e2 1 (by simp [Ip])
  unfold ag;simp only [e1,hd1,hd2,cond_true,ZE,R.aw,hg]
 have kB:=Kp.alloc A (aa 148 [y,uN (least l)]);have vB:=ay A 148 [y,uN (least l)];generalize hB:A.alloc (aa 148 [y,uN (least l)])=B at kB vB;have l5:ag af B.get 115 (pw A.next 0)= .ok (.agg ⟨[y,uN (least l)]⟩):=by
  obtain⟨d,hd1,hd2⟩:=Tj;exact aI hd1 hd2 (l:=[y,uN (least l)]) du vB.2
 obtain⟨x,C,⟨g2,hg2⟩,hC,kC⟩:=Pv (A:=B) (k:=least l) (es:=l) (h2.kp kB) so.good.1 so.ne (by have:=so.len;omega) (KX hl) (fun e he=>⟨by have:=(qw e he).2.1;omega,hN e he⟩) q0 (by omega);have a82:bg af 105 [.agg ⟨[y,uN (least l)]⟩,aj [],iN l.length] A x C:=by
  refine aT (g2) 60 (aq Tryz.func105) (by kernel_rfl) fun M hM=>?_
  simp (disch:=first|decide+kernel|omega) only [Tryz.f105,Aq,qal,au,hB,UK,l5,hg2,iW]<;>rfl
 obtain⟨g3,hg3⟩:=a82;have a39:bg af 51 [pV p,aj [],iN l.length] A x C:=by
  simp only [pV];refine aT (g3) 60 (aq Tryz.func51) (by kernel_rfl) fun M hM=>?_
  simp (disch:=first|decide+kernel|omega) only [Tryz.f51,Aq,qal,bW,XK,ak,aF,UL,r1,hg3,iW]<;>rfl
 obtain⟨g4,hg4⟩:=a39;refine⟨x,C,?_,hC,kB.trans kC⟩;simp only [pV] at hg1 hg4⊢;refine aT (g1+g4) 60 (aq Tryz.func14) (by kernel_rfl) fun M hM=>?_
 simp (disch:=first|decide+kernel|omega) only [Tryz.f14,Aq,qal,hg1,hg4,iW]<;>rfl
theorem S5:fieldsOf (af.ba 61)=[(false,9,0),(false,59,1),(false,4,2)]:=by kernel_rfl
theorem Yj {g:Nat→Option Ob} {x y:Operand}:vY af g .neq 61 x y (.agg ⟨a_ e⟩) (.agg ⟨a_ e⟩)= .ok (.bool false):=by
 have e1:uv af 61 x y (.agg ⟨a_ e⟩) (.agg ⟨a_ e⟩)=true:=by
  unfold uv;have:af.P.eqGuardType af.P.depth 61=false:=by decide+kernel
  rw [this];rfl
 have q:eC af g 100 61 (.agg ⟨a_ e⟩) (.agg ⟨a_ e⟩)= .ok true:=by
  rw [CM (by kernel_rfl) S5 (by kernel_rfl)];simp only [jF,cond_false,a_];rw [sa u9 rfl rfl,sa (o:=1) WS rfl rfl,sa (o:=2) u4 rfl rfl];simp only [R.aw,K4 (tb:=af) (t:=9) u9,K0 (tb:=af) (t:=59) WS,Hq (tb:=af) (t:=4) u4];simp [R.aw]
 unfold vY;rw [e1,cond_true];simp only [];rw [q];rfl
noncomputable def rI:Code:=qd6.body.getD .skip
noncomputable def uk:Code:=sub rI [1,1,0,1,0,0]
theorem Cw:qd6.body=some (.seq (sub rI [0]) (.seq (sub rI [1,0]) (.seq (.seq (sub rI [1,1,0,0]) (.block 0 (.loop uk))) (.seq (sub rI [1,1,1,0]) (sub rI [1,1,1,1]))))):=by kernel_rfl
theorem Bz {l:List aP} {x:Value} (h:en A l x) (h2:en A l y) (hl:l.length<1000000):∃v A',bg af 13 [x,y] A v A'∧v= .bool true∧A'=A:=by
 refine cF (aq Tryz.func13) Cw (by kernel_rfl) ?_;have n1:=h.len;have n2:=h2.len;apply W.q
 ·intro M;simp (disch:=first|decide+kernel|omega) only [rI,qd6,Aq,qal];rfl
 apply W.q
 ·intro M;simp (disch:=first|decide+kernel|omega) only [rI,qd6,Aq,qal,n1,n2];rfl
 apply W.seq;apply W.q
 ·intro M;simp (disch:=first|decide+kernel|omega) only [rI,qd6,Aq,qal];rfl
 apply W.block;refine W.up l.length (fun i t D=>D=A∧Sl t [(0,x),(1,y),(5,.int .i64 i)]) ?_ (qaB _) ⟨rfl,?_⟩
 ·rintro i t D hi ⟨rfl,g0,g1,g5,-⟩;by_cases hlt:i<l.length
  ·have hli:=qan hlt;obtain⟨p,i1,i2,-⟩:=h.at hli;obtain⟨q,j1,j2,-⟩:=h2.at hli;apply W.run 20
   ·intro M;simp (config:={maxSteps:=4000000}) (disch:=first|decide+kernel|omega|simp only [Wq,qal]) only [uk,rI,qd6,Aq,qaq,reduceIte,qal,qam,g0,g1,g5,n1,hlt,i1,i2,j1,j2,JS,Yj,Fq,aA []];rfl
   refine⟨hlt,_,_,rfl,rfl,?_⟩;simp only [Sq,qal,qam,g0,g1]
  ·apply W.run 20
   ·intro M;simp (disch:=first|decide+kernel|omega) only [uk,rI,qd6,Aq,qal,g0,g5,n1,hlt];rfl
   apply W.q
   ·intro M;simp (disch:=first|decide+kernel|omega) only [rI,qd6,Aq,qal];rfl
   apply W.run 20
   ·intro M;simp (disch:=first|decide+kernel|omega) only [rI,qd6,Aq,qal];rfl
   exact⟨by simp,rfl,_,(by simp only [qd6,Aq,qal]<;>rfl),rfl,rfl⟩
 ·simp only [Sq,qal,qam]
variable {p:Nat} {fs:List (List UInt8×List UInt8)} {w:List UInt8}
theorem FK (h:ic A p fs) (hw:fileOf fs w=none):
 bg af 25 [pw p 0,aj w,iN 0,.int .i64 n] A (.tuple ⟨[aj [],iN 9]⟩) A:=by
 obtain⟨pf,mf,mn,cf,cn,ps,ml,q,st,ar,x,y,h1,h2,⟨-,h3⟩,⟨-,h4⟩,h5⟩:=h;obtain⟨g,hg⟩:=run_read (w:=w) h1 h2 h3 h4 fun i s hs=>(h5 i s hs).imp fun b hb=>hb.choose_spec.choose_spec.1
 have he:∀t:T Value,ev t (.const (.string ⟨#[]⟩))= .ok (aj []):=fun _=>rfl
 rcases oV w fs with⟨e1,e2⟩|⟨i,s',e1,e2,e3⟩
 ·rw [e1] at hg;refine aT (g) 60 (aq Tryz.func25) (by kernel_rfl) fun M hM=>?_
  simp (disch:=first|decide+kernel|omega) only [Tryz.f25,Aq,qal,he,hg,uy,if_true,qdG,qau,qav]<;>rfl
 ·rw [e3] at hw;cases hw
theorem xC:av af 58 (pw b 0) 0= .ok (pw b 0):=by kernel_rfl
theorem Hy:av af 58 (pw b 0) 1= .ok (pw b 1):=by kernel_rfl
variable {i:Nat}
theorem U' (h:i<2):aU af 56 (pw b 1) (.int .i64 i)= .ok (pw b (1+i)):=by
 have:i=0∨i=1:=by omega
 rcases this with rfl|rfl
 ·clear h;show _=_;kernel_rfl
 ·clear h;show _=_;kernel_rfl
theorem J2:cd 2=[115,101,103,45,50]:=by decide
noncomputable def c4:Code:=qbC.body.getD .skip
noncomputable def Hc:Code:=sub c4 [1,1,1,1,1,1,1,1,1,1,1,0,1,0,0]
theorem OT:∀e∈fR,Norm e:=fun e he=>by
 rw [qaY.1 he];exact⟨fun h=>(by cases h),by decide⟩
def Ud (B:Mem) (im:List UInt8) (ok:Bool) (p:Nat) (D:Mem):Prop:=(∃Dd,fx D p Dd∧uY (eO fR) im ok Dd)∧KT (fun e=>dT e∧e≠55) B D
variable {B:Mem}
theorem Lk {D:Mem} {im:List UInt8} {l:List aP} {ok:Bool} {z9 z15 Tm e:Nat} {s x0 x1 y8 y12:Value} {l0 l1:List Nat} (hR:Ud B im ok p D) (hi:i<2) (v9:VB B 36 z9 (.var 3) (ew (mh 1 fR))) (h8:en B fR y8) (h12:en B l y12) (hok:ok=true→(VB B 36 z15 (.var 3) (ew (mh 2 l))∧DV l)∧im=eO l)
 (v58:VB B 58 Tm (.var 3) [s,x0,x1]) (u0:jg B l0 x0) (u1:jg B l1 x1) (hN:∀e∈l,Norm e) (hl:l.length≤60) (hee:ok=decide (e=0)) (him:im.length<900000)
 (hs:Sl t [(5,pV Tm),(7,pV p),(8,y8),(9,pV z9),(11,.int .i64 e),(12,y12),(13,aj im),(15,pV z15),(17,.int .i64 i)]):
 W af Hc ⟨t,148,[],D,none⟩ fun e' s'=>e'= .nrm∧∃t' D',s'=⟨t',148,[],D',none⟩∧Ud B im ok p D'∧Sl t' [(5,pV Tm),(7,pV p),(8,y8),(9,pV z9),(11,.int .i64 e),(12,y12),(13,aj im),(15,pV z15),(17,.int .i64 (i+1:Nat))]:=by
 obtain⟨⟨Dd,hD,hLaw⟩,K⟩:=hR;obtain⟨s5,s7,s8,s9,s11,s12,s13,s15,s17,-⟩:=hs;obtain⟨x,lx,hux,l55⟩:∃x lx,jg D lx x∧ag af D.get 55 (.pointer (some ⟨Tm,1+i,none⟩))= .ok x:=by
  have:i=0∨i=1:=by omega
  rcases this with rfl|rfl
  ·exact⟨x0,l0,u0.kf K.f,(K.vb v58 ⟨by decide,by decide⟩).ld rfl T1 rfl⟩
  ·exact⟨x1,l1,u1.kf K.f,(K.vb v58 ⟨by decide,by decide⟩).ld rfl T1 rfl⟩
 have hfl:=hLaw.len (by rw [wc];have:=Fj;omega) him;have hn1:Dd.ns.length<1000:=by
  obtain⟨-,-,h|⟨h,-⟩⟩:=hLaw
  ·rw [h.1];decide
  ·rw [h];decide
 obtain⟨v,E,⟨g1,r1⟩,rfl,⟨D',hDE,hRst⟩,KE⟩:=FV hD hux hLaw.Z9 hn1 hfl;have hlen':D'.fs.length=D'.ns.length:=by
  obtain⟨_,_,_,_,_,_,-,-,-,⟨-,q,-⟩,-⟩:=hDE;exact q
 obtain⟨hLaw',⟨o,ho,ho1,ho2⟩,hf1⟩:=hLaw.qab hRst hlen';have K2:=K.trans KE;have hat:ic E p D'.all:=by
  obtain⟨pf,ml,mn,b,mf,ps,hP⟩:=hDE;exact hP.at hRst.1
 obtain⟨d,hd1,hd2⟩:=a8 (t:=36) (p:=true) (by kernel_rfl);have l9:ag af E.get 36 (.pointer (some ⟨z9,0,none⟩))= .ok (.agg ⟨ew (mh 1 fR)⟩):=aI hd1 hd2 pW (K2.vb v9 ⟨by decide,by decide⟩).2;obtain⟨v2,F,⟨g2,r2⟩,kF,y,hy,hS⟩:=JW (n:=1) (l:=fR) (o:=some fR) hat ⟨by omega,by omega⟩ ⟨Dg,hf1⟩;have hfit:CX fR (some fR)=true:=by simp [CX]
 rw [if_pos hfit] at hy;subst hy;obtain⟨l',hl',hSeg⟩:=hS hfit;cases hl';obtain⟨xa,G,⟨g3,r3⟩,hxa,kG⟩:=Bw hSeg Dg OT;have h8G:en G fR y8:=by
  obtain⟨b,hb⟩:=h8;exact⟨b,((K2.Mk hb ⟨by decide,by decide⟩).same kF.1 (kF.2 b)).same kG.1 (kG.2 b)⟩
 obtain⟨v3,G',⟨g4,r4⟩,rfl,rfl⟩:=Bz hxa h8G (by decide);have kEG:=kF.trans kG;have hatG:=hat.kp kEG;have he0:∀t:T Value,ev t (.const (.string ⟨#[]⟩))= .ok (aj []):=fun _=>rfl
 have hni:¬i=2:=by omega
 simp only [pV] at*;cases hb:ok with
 |true=>
  rw [hb] at hee ho1;have he:e=0:=of_decide_eq_true hee.symm;subst he;obtain⟨⟨v15,hlo⟩,hio⟩:=hok hb;have hfo:Tw D'.all (cd 2) (some l):=⟨hlo,by rw [ho,ho1 rfl,hio];rfl⟩;have l15:ag af G'.get 36 (.pointer (some ⟨z15,0,none⟩))= .ok (.agg ⟨ew (mh 2 l)⟩):=aI hd1 hd2 pW ((K2.vb v15 ⟨by decide,by decide⟩).kp kEG).2;obtain⟨v5,H,⟨g5,r5⟩,kH,y5,hy5,hS5⟩:=JW (n:=2) (l:=l) (o:=some l) hatG ⟨by omega,by omega⟩ hfo;have hfit2:CX l (some l)=true:=by simp [CX]
  rw [if_pos hfit2] at hy5;subst hy5;obtain⟨l5,hl5,hSeg5⟩:=hS5 hfit2;cases hl5;obtain⟨xb,I,⟨g6,r6⟩,hxb,kI⟩:=Bw hSeg5 hlo hN;have h12I:en I l y12:=by
   obtain⟨b,hb⟩:=h12;exact⟨b,(((K2.Mk hb ⟨by decide,by decide⟩).same kEG.1 (kEG.2 b)).same kH.1 (kH.2 b)).same kI.1 (kI.2 b)⟩
  obtain⟨v6,I',⟨g7,r7⟩,rfl,rfl⟩:=Bz hxb h12I (by omega);apply W.cN (g1+g2+g3+g4+g5+g6+g7) 20
  ·intro M hM;simp (config:={maxSteps:=4000000}) (disch:=first|decide+kernel|omega|simp only [Wq,qal]) only [Hc,c4,qbC,Aq,qaq,reduceIte,qal,qam,s5,s7,s8,s9,s11,s12,s13,s15,s17,hi,Hy,U',l55,r1,l9,r2,qau,qav,r3,r4,l15,r5,r6,r7,Fq,aA []];rfl
  refine⟨rfl,_,I',rfl,⟨⟨D',hDE.kp ((kEG.trans kH).trans kI),hb▸hLaw'⟩,K2.trans ((kEG.trans kH).trans kI).kt⟩,?_⟩;simp only [Sq,qal,qam,s5,s7,s8,s9,s11,s12,s13,s15]
 |false=>
  rw [hb] at hee;have he:e≠0:=of_decide_eq_false hee.symm;have hsz:=yW (w:=cd 2) hatG;rw [ho] at hsz;cases o with
  |none=>
   obtain⟨g5,r5⟩:=hsz;obtain⟨g6,r6⟩:=FK (n:=0) hatG ho;simp only [qey,qaT,qbI,qaI,if_false] at r5;rw [J2] at r5 r6;apply W.cN (g1+g2+g3+g4+g5+g6) 20
   ·intro M hM;simp (config:={maxSteps:=4000000}) (disch:=first|decide+kernel|omega|simp only [Wq,qal]) only [Hc,c4,qbC,Aq,qaq,reduceIte,qal,qam,s5,s7,s8,s9,s11,s12,s13,s15,s17,hi,Hy,U',l55,r1,l9,r2,qau,qav,r3,r4,he,r5,r6,Fq,aA []];rfl
   refine⟨rfl,_,G',rfl,⟨⟨D',hDE.kp kEG,hb▸hLaw'⟩,K2.trans kEG.kt⟩,?_⟩;simp only [Sq,qal,qam,s5,s7,s8,s9,s11,s12,s13,s15]
  |some r=>
   obtain⟨q,hq⟩:=ho2 r rfl;have hrl:r.length≤im.length:=by rw [hq,qaE];omega
   obtain⟨g5,r5⟩:=hsz;obtain⟨g6,r6⟩:=uO hatG ho (by omega);simp only [qbG,qdF,if_true] at r5;have ll:=cP (tb:=af) (t:=9) (l:=im) u9;have hg:¬im.length<r.length:=by omega
   have st:=mP (tb:=af) (t:=9) (l:=im) (k:=.i64) (n:=r.length) u9 hrl;have hre:im.take r.length=r:=by
    rw [hq,qaE];rcases qeG q im.length with h|h
    ·rw [qbr h]
    ·rw [qc6 h,qaR,qcq h]
   rw [hre] at st;rw [J2] at r5 r6;apply W.cN (g1+g2+g3+g4+g5+g6) 20
   ·intro M hM;simp (config:={maxSteps:=4000000}) (disch:=first|decide+kernel|omega|simp only [Wq,qal]) only [Hc,c4,qbC,Aq,qaq,reduceIte,qal,qam,s5,s7,s8,s9,s11,s12,s13,s15,s17,hi,Hy,U',l55,r1,l9,r2,qau,qav,r3,r4,he,r5,r6,ll,cT,bY,hg,st,Fq,aA []];rfl
   refine⟨rfl,_,G',rfl,⟨⟨D',hDE.kp kEG,hb▸hLaw'⟩,K2.trans kEG.kt⟩,?_⟩;simp only [Sq,qal,qam,s5,s7,s8,s9,s11,s12,s13,s15]
theorem NB {D:Mem} {l:List aP} (h:en D l y) (hl:l.length<1000):
 ∃x E,bj af D 28 28 (.slice none 0 0) y= .ok (x,E)∧en E l x∧Kp D E:=by
 obtain⟨i,t1,t2,t3⟩:=YI;obtain⟨bb,hb⟩:=h;have hy:gP y= .ok l.length∧eN D.get 3 l.length y= .ok (l.map a_).flatten:=by
  rcases hb with⟨rfl,e⟩|⟨k,c,rfl,e1,e2,e3,e4⟩
  ·have:l=[]:=by simpa using e
   subst this;exact⟨rfl,rfl⟩
  ·rw [qas];exact⟨rfl,ep e2 (by rw [cM e3,qas])⟩
 obtain⟨x',D',b',e1,e2,e3,e4,e5⟩:=az.kY (tb:=af) (st:=28) (xt:=28) (nl:=l.map a_) (m:=l.length) (az.nil D 61 3 D.next) QH QH rfl YW t1 t2 t3 (by omega) (by omega) (by simp;omega) (y:=y) hy.1 hy.2 (by rw [qas]) (fun c hc=>by obtain⟨f,-,rfl⟩:=qa3.1 hc;rfl) (by
  intro v hv;obtain⟨c,hc,hv⟩:=List.mem_flatten.1 hv;obtain⟨f,-,rfl⟩:=qa3.1 hc;exact vX f v hv)
 exact⟨x',D',e1,⟨b',e2⟩,e3,fun z hz=>e5 z (fun _=>rfl) hz⟩
theorem IB (a:List aP) (more:List aP) (e:aP):hU (a++(more++[e]))=mH (bare e) (hU (a++more)):=by
 rw [←qbh,zz]
theorem Mf {a more:List aP} {xo xm:Value} (ho:en A (hU a) xo) (hm:en A more xm) (hl:a.length+more.length<900):∃v A',bg af 20 [xo,xm] A v A'∧en A' (hU (a++more)) v∧Kp A A':=by
 refine cF (aq Tryz.func20) Ns (by kernel_rfl) ?_;have hlo:=p_ a;obtain⟨x,B,hap,hxB,kB⟩:=NB ho (by omega);replace hm:=hm.kp kB;have hlen:=hm.len;apply W.q
 ·intro M;simp (disch:=first|decide+kernel|omega) only [Av,qch,Aq,qal];rfl
 apply W.q
 ·intro M;simp (disch:=first|decide+kernel|omega) only [Av,qch,Aq,qal,hap];rfl
 apply W.seq;apply W.q
 ·intro M;simp (disch:=first|decide+kernel|omega) only [Av,qch,Aq,qal];rfl
 apply W.block;refine W.up more.length (fun i t C=>∃y,en C (hU (a++more.take i)) y∧Kp B C∧Sl t [(1,xm),(5,y),(6,.int .i64 i)]) ?_ (qaB _) ⟨_,by rw [qcy,qbt];exact hxB,Kp.refl _,?_⟩
 ·rintro i t C hi ⟨y,hy,kC,g1,g5,g6,-⟩;by_cases hlt:i<more.length
  ·have he:more[i]?=some more[i]:=qan hlt;obtain⟨p,i1,i2,-⟩:=(hm.kp kC).at he;have hwl:=p_ (a++more.take i);rw [qar,qaE] at hwl;obtain⟨v,D,⟨g,hg⟩,hv,kD⟩:=FX (e:=more[i]) hy (uc _) (by omega);have hlen':=hlen;apply W.cN (g) 20
   ·intro M hM;simp (disch:=first|decide+kernel|omega) only [Ek,Av,qch,Aq,qal,g1,g5,g6,hlen,hlt,i1,i2,hg];rfl
   refine⟨hlt,_,_,rfl,v,?_,kC.trans kD,?_⟩
   ·rw [qaC hlt,IB];exact hv
   ·simp only [Sq,qal,qam,g1]
  ·have hin:i=more.length:=by omega
   subst hin;rw [qaR] at hy;apply W.run 20
   ·intro M;simp (disch:=first|decide+kernel|omega) only [Ek,Av,qch,Aq,qal,g1,g6,hlen];rfl
   apply W.q
   ·intro M;simp (disch:=first|decide+kernel|omega) only [Av,qch,Aq,qal,g5];rfl
   apply W.run 20
   ·intro M;simp (disch:=first|decide+kernel|omega) only [Av,qch,Aq,qal];rfl
   exact⟨by simp,rfl,_,(by simp only [qch,Aq,qal]<;>rfl),hy,kB.trans kC⟩
 ·simp only [Sq,qal,qam]
def Fa (ds:List DT):List aP:=(ds.take 30).map dE
variable {ds:List DT}
theorem FW {x:Value} (h:Gt A ds x):∃v A',bg af 7 [x,iN 30] A v A'∧en A' (hU (Fa ds)) v∧Kp A A':=by
 obtain⟨y,B,⟨g1,h1⟩,hB,kB⟩:=uP (n:=30) h (by omega);obtain⟨v,C,⟨g2,h2⟩,hC,kC⟩:=Ma hB (by rw [qas,qaE];omega);refine⟨v,C,?_,hC,kB.trans kC⟩;refine aT (g1+g2) 60 (aq Tryz.func7) (by kernel_rfl) fun M hM=>?_
 simp (disch:=first|decide+kernel|omega) only [Tryz.f7,Aq,qal,h1,h2]<;>rfl
def A4 (ds es:List DT):List aP:=hU (Fa ds++Fa es)
theorem OJ (ds es:List DT) (hd:∀d∈ds,d.wt<4294967296) (he:∀d∈es,d.wt<4294967296):rk (A4 ds es)∧(A4 ds es).length≤60∧∀e∈A4 ds es,(1≤e.word.length∧e.word.length≤9)∧e.weight<4294967296:=by
 refine⟨uc _,qaV (p_ _) (by unfold Fa;rw [qar,qas,qaE,qas,qaE];omega),BS _ fun e hm=>?_⟩;obtain⟨d,hd',rfl⟩:∃d,d.wt<4294967296∧dE d=e:=by
  rcases qbF.1 hm with h|h
  ·obtain⟨d,hq,rfl⟩:=qa3.1 h;exact⟨d,hd d (qbH hq),rfl⟩
  ·obtain⟨d,hq,rfl⟩:=qa3.1 h;exact⟨d,he d (qbH hq),rfl⟩
 rw [te];refine⟨UF d,?_⟩;unfold dE zR bare;split<;>simp<;>omega
theorem Nk:qbC.body=some (.seq (sub c4 [0]) (.seq (sub c4 [1,0]) (.seq (sub c4 [1,1,0]) (.seq (sub c4 [1,1,1,0]) (.seq (sub c4 [1,1,1,1,0]) (.seq (sub c4 [1,1,1,1,1,0]) (.seq (sub c4 [1,1,1,1,1,1,0]) (.seq (sub c4 [1,1,1,1,1,1,1,0]) (.seq (sub c4 [1,1,1,1,1,1,1,1,0]) (.seq (sub c4 [1,1,1,1,1,1,1,1,1,0]) (.seq (sub c4 [1,1,1,1,1,1,1,1,1,1,0]) (.seq (.seq (sub c4 [1,1,1,1,1,1,1,1,1,1,1,0,0]) (.block 0 (.loop Hc))) (.seq (sub c4 [1,1,1,1,1,1,1,1,1,1,1,1,0]) (sub c4 [1,1,1,1,1,1,1,1,1,1,1,1,1])))))))))))))):=by kernel_rfl
theorem HP (ds es:List DT) (hd:∀d∈ds,d.wt<4294967296) (he:∀d∈es,d.wt<4294967296):∀e∈A4 ds es,Norm e:=BS Norm fun e hm=>by
 refine Lu ?_;obtain⟨d,hd',rfl⟩:∃d,d.wt<4294967296∧dE d=e:=by
  rcases qbF.1 hm with h|h
  ·obtain⟨d,hq,rfl⟩:=qa3.1 h;exact⟨d,hd d (qbH hq),rfl⟩
  ·obtain⟨d,hq,rfl⟩:=qa3.1 h;exact⟨d,he d (qbH hq),rfl⟩
 unfold dE zR bare;split<;>simp<;>omega
theorem Zc {n:Int}:ct af 61 [(0,aj w),(1,.int .u32 n)]= .ok (.agg ⟨[aj w,.int .u32 n,.bool false]⟩):=by kernel_rfl
theorem Ze {n:Int} {b:Bool}:a6 af 28 1 [(0,.agg ⟨[aj w,.int .u32 n,.bool b]⟩)]= .ok (aa 61 [aj w,.int .u32 n,.bool b],.mO 1 2):=by kernel_rfl
theorem JC:iM .neq (af.ba 4) (.bool true) (.bool true)= .ok (.bool false):=by kernel_rfl
theorem JB:iM .neq (af.ba 4) (.bool false) (.bool false)= .ok (.bool false):=by kernel_rfl
noncomputable def ZU:Code:=(.seq (.seq (sub c4 [1,1,1,1,1,1,1,1,1,1,1,0,0]) (.block 0 (.loop Hc))) (.seq (sub c4 [1,1,1,1,1,1,1,1,1,1,1,1,0]) (sub c4 [1,1,1,1,1,1,1,1,1,1,1,1,1])))
theorem wh {im:List UInt8} {l:List aP} {e:Nat} {Dd:dh} {z9 z15 Tm:Nat} {s x0 x1 y8 y12:Value} {l0 l1:List Nat} (hD:fx B p Dd) (hL:uY (eO fR) im (decide (e=0)) Dd) (v58:VB B 58 Tm (.var 3) [s,x0,x1]) (v9:VB B 36 z9 (.var 3) (ew (mh 1 fR))) (h8:en B fR y8) (h12:en B l y12)
 (hok:decide (e=0)=true→(VB B 36 z15 (.var 3) (ew (mh 2 l))∧DV l)∧im=eO l) (u0:jg B l0 x0) (u1:jg B l1 x1) (hN:∀e∈l,Norm e) (hl:l.length≤60) (him:im.length<900000)
 (hs:Sl t [(5,pV Tm),(7,pV p),(8,y8),(9,pV z9),(11,.int .i64 e),(12,y12),(13,aj im),(15,pV z15)]):
 W af ZU ⟨t,148,[],B,none⟩ (WV af qbC fun v _=>v= .bool true):=by
 obtain⟨s5,s7,s8,s9,s11,s12,s13,s15,-⟩:=hs;unfold ZU;apply W.seq;apply W.q
 ·intro M;simp (disch:=first|decide+kernel|omega) only [c4,qbC,Aq,qal];rfl
 apply W.block;refine W.up 2 (fun i t D=>Ud B im (decide (e=0)) p D∧Sl t [(5,pV Tm),(7,pV p),(8,y8),(9,pV z9),(11,.int .i64 e),(12,y12),(13,aj im),(15,pV z15),(17,.int .i64 i)]) ?_ (qaB _) ⟨⟨⟨Dd,hD,hL⟩,Kp.kt (Kp.refl _)⟩,?_⟩
 ·rintro i t D hi ⟨hR,hs0⟩;by_cases hlt:i<2
  ·refine(Lk hR hlt v9 h8 h12 hok v58 u0 u1 hN hl rfl him hs0).mono ?_;rintro e' s' ⟨rfl,t',D',rfl,hR',hs'⟩;exact⟨hlt,t',D',rfl,hR',hs'⟩
  ·obtain rfl:i=2:=by omega
   obtain⟨s5,s7,s8,s9,s11,s12,s13,s15,s17,-⟩:=hs0;apply W.run 20
   ·intro M;simp (disch:=first|decide+kernel|omega) only [Hc,c4,qbC,Aq,qal,s17];rfl
   apply W.q
   ·intro M;simp (disch:=first|decide+kernel|omega) only [c4,qbC,Aq,qal];rfl
   apply W.run 20
   ·intro M;simp (disch:=first|decide+kernel|omega) only [c4,qbC,Aq,qal];rfl
   exact⟨by simp,rfl,_,(by simp only [qbC,Aq,qal]<;>rfl),rfl⟩
 ·simp only [Sq,qal,qam,s5,s7,s8,s9,s11,s12,s13,s15]
theorem Sb:(gq []).length≤1000:=by decide+kernel
theorem SP {es:List DT} {s:Nat} {x0 x1 xd xe:Value} {l0 l1:List Nat} (hd:Gt A ds xd) (he:Gt A es xe) (wd:∀d∈ds,d.wt<4294967296) (we:∀d∈es,d.wt<4294967296) (hs:s<256) (u0:jg A l0 x0) (u1:jg A l1 x1):
 ∃v A',bg af 4 [xd,xe,.agg ⟨[.int .u8 s,x0,x1]⟩] A v A'∧v= .bool true:=by
 refine cF (aq qeJ) Nk (by kernel_rfl) ?_;have kB:=Kp.alloc A (aa 58 [.int .u8 s,x0,x1]);have vB:=ay A 58 [.int .u8 s,x0,x1];generalize hB:A.alloc (aa 58 [.int .u8 s,x0,x1])=B at kB vB;obtain⟨v1,C,⟨g1,h1⟩,kC,p,rfl,hD0⟩:=Pr (A:=B);have kE:=Kp.alloc C (aa 61 [aj [111,108,100],wN 1,.bool false]);have vE:=ay C 61 [aj [111,108,100],wN 1,.bool false];have hEE:en (C.alloc (aa 61 [aj [111,108,100],wN 1,.bool false])) fR (.slice (some ⟨C.next,0,none⟩) 1 2):=⟨C.next,.inr ⟨.var 3,2,rfl,vE.1,vE.2,fun l hl=>by obtain⟨e,he,rfl⟩:=qa3.1 hl;rfl,.inl rfl⟩⟩;generalize hE:C.alloc (aa 61 [aj [111,108,100],wN 1,.bool false])=E at kE vE hEE;have hold:=Fj;have hio:=wc fR;have hq0:quo=1048576:=rfl;obtain⟨v2,F,⟨g2,h2⟩,kF,e1,D',sg,sp,rfl,hDF,hc,hres⟩:=BG (n:=1) (l:=fR) (hD0.kp kE) rfl ⟨by decide,by decide⟩ rfl ⟨by omega,by omega⟩ (by simp [D0]) Vn (by show 0+(eO fR).length≤quo;omega) hEE fun _=>Dg
 obtain⟨rfl,rfl⟩:e1=0∧D'=D1 (eO fR) 0:=by
  rcases hc with⟨h,-⟩|⟨-,h⟩
  ·cases h
  ·rw [Wz] at h;cases h;exact⟨rfl,rfl⟩
 obtain⟨rfl,-⟩:=hres rfl;have sG:aW af (F.alloc (aa 36 (ew (0,0,0)))) 36 (pw F.next 0) (.agg ⟨ew (mh 1 fR)⟩)= .ok (F.alloc (aa 36 (ew (mh 1 fR)))):=bk pW rfl rfl (by simp [ew]) (by simp [ew,aJ]);have kG:=Kp.alloc F (aa 36 (ew (mh 1 fR)));have vG:=ay F 36 (ew (mh 1 fR));generalize F.alloc (aa 36 (ew (mh 1 fR)))=G at sG kG vG;have KBG:KT dT B G:=(kC.kt.trans kE.kt).trans (kF.trans kG.kt);obtain⟨v3,H,⟨g3,h3⟩,hH,kH⟩:=FW ((hd.kp kB).kf KBG.f);obtain⟨v4,I,⟨g4,h4⟩,hI,kI⟩:=uP (n:=30) (((he.kp kB).kf KBG.f).kp kH) (by omega);obtain⟨v5,J,⟨g5,h5⟩,hJ,kJ⟩:=Mf (hH.kp kI) hI (by unfold Fa;rw [qas,qaE,qas,qaE];omega);replace hJ:en J (A4 ds es) v5:=hJ;obtain⟨la,ll60,lwt⟩:=OJ ds es wd we;have hN:=HP ds es wd we;generalize A4 ds es=l at*;have hlok:l≠ []→DV l:=fun h0=>ZZ h0 la ll60 lwt
 have kGJ:=kH.trans (kI.trans kJ);have hlenJ:=hJ.len;obtain⟨im,e2,L,⟨g6,h6⟩,kL,him⟩:∃im e2 L,bg af 21 [v5] J (.tuple ⟨[aj im,iN e2]⟩) L∧Kp J L∧((l=[]∧im=[])∨(l≠ []∧im=eO l)):=by
  by_cases h0:l=[]
  ·rw [h0] at hJ;exact⟨[],2,J,yV hJ,Kp.refl _,.inl ⟨h0,rfl⟩⟩
  ·obtain⟨v,L,h,rfl,k⟩:=BD hJ (hlok h0);exact⟨eO l,0,L,h,k,.inr ⟨h0,rfl⟩⟩
 have kGL:=kGJ.trans kL;have KBL:=KBG.trans kGL.kt;have hDL:fx L p (D1 (eO fR) 0):=(hDF.kp kG).kp kGL;obtain⟨v6,M,⟨g7,h7⟩,rfl,hDM,kM⟩:=Pq (a:=s % 6) hDL;replace hDM:fx M p (D1 (eO fR) (s % 6)):=hDM;have ha6:s % 6<6:=qbE _ (by omega);have hJM:en M l v5:=by
  obtain⟨b,hb⟩:=hJ.kp kL;exact⟨b,kM.Mk hb (by decide)⟩
 have hsum:je (D1 (eO fR) (s % 6)).all=(eO fR).length:=by simp [je,dh.all,D1]
 have hqq:je (D1 (eO fR) (s % 6)).all+(eO l).length≤quo:=by
  rw [hsum,wc l];by_cases h0:l=[]
  ·have:=Sb;rw [h0];omega
  ·have h2:(gq l).length<800000:=(hlok h0).2.2.2.2.2.2.2.2;omega
 have himl:im.length<900000:=by
  rcases him with⟨-,h⟩|⟨h0,h⟩
  ·rw [h];simp
  ·have h2:(gq l).length<800000:=(hlok h0).2.2.2.2.2.2.2.2;rw [h,wc];omega
 obtain⟨v7,N,⟨g8,h8⟩,kN,e3,D2,sg2,sp2,rfl,hDN,hc2,hres2⟩:=BG (n:=2) (l:=l) hDM rfl ⟨by show 4<900;omega,by show s % 6<1000;omega⟩ rfl ⟨by omega,by omega⟩ (by show cd 2∉ [cd 1];decide) Yh hqq hJM hlok;have hlaw:uY (eO fR) im (decide (e3=0)) D2∧((e3=0∧0<l.length∧(s % 6=0∨(s % 6≠0∧s % 6=5))∧im=eO l)∨(e3≠0∧(l.length=0∨(0<l.length∧s % 6≠0∧s % 6≠5)))):=by
  rcases hc2 with⟨h0,rfl,rfl⟩|⟨h0,h⟩
  ·exact⟨Wy _ _ _,.inr ⟨by decide,.inl (by rw [h0];rfl)⟩⟩
  ·have hi:im=eO l:=by
    rcases him with⟨h,-⟩|⟨-,h⟩
    ·exact absurd h h0
    ·exact h
   have hp:=qa6.2 h0;rw [←hi] at h;obtain⟨w1,w2⟩:=WA ha6 h;refine⟨w1,?_⟩;by_cases he:e3=0
   ·refine .inl ⟨he,hp,?_,hi⟩;rcases w2.1 he with h|h
    ·exact .inl h
    ·exact .inr ⟨by omega,h⟩
   ·exact .inr ⟨he,.inr ⟨hp,fun h=>he (w2.2 (.inl h)),fun h=>he (w2.2 (.inr h))⟩⟩
 obtain⟨hLD,hcs⟩:=hlaw;have sO:aW af (N.alloc (aa 36 (ew (0,0,0)))) 36 (pw N.next 0) (.agg ⟨ew sg2⟩)= .ok (N.alloc (aa 36 (ew sg2))):=bk pW rfl rfl (by simp [ew]) (by simp [ew,aJ]);have kO:=Kp.alloc N (aa 36 (ew sg2));have vO:=ay N 36 (ew sg2);generalize N.alloc (aa 36 (ew sg2))=O at sO kO vO;have KLO:KT dT L O:=kM.trans (kN.trans kO.kt);have KGO:KT dT G O:=kGL.kt.trans KLO;have KBO:KT dT B O:=KBG.trans KGO;have vBO:VB O 58 A.next (.var 3) [.int .u8 s,x0,x1]:=KBO.vb vB (by decide)
 have vGO:VB O 36 F.next (.var 3) (ew (mh 1 fR)):=KGO.vb vG (by decide)
 have KEO:KT dT E O:=(kF.trans kG.kt).trans KGO;have hEO:en O fR (.slice (some ⟨C.next,0,none⟩) 1 2):=by
  obtain⟨b,hb⟩:=hEE;exact⟨b,KEO.Mk hb (by decide)⟩
 have hJO:en O l v5:=by
  obtain⟨b,hb⟩:=hJ.kp kL;exact⟨b,KLO.Mk hb (by decide)⟩
 have hDO:=hDN.kp kO;have uO0:jg O l0 x0:=(u0.kf kB.f).kf KBO.f;have uO1:jg O l1 x1:=(u1.kf kB.f).kf KBO.f;have hokO:decide (e3=0)=true→(VB O 36 N.next (.var 3) (ew (mh 2 l))∧DV l)∧im=eO l:=fun h=>by
  have he:e3=0:=of_decide_eq_true h;rcases hcs with⟨-,hp,-,hi⟩|⟨h,-⟩
  ·obtain⟨rfl,-⟩:=hres2 he;exact⟨⟨vO,hlok (qa6.1 hp)⟩,hi⟩
  ·exact absurd he h
 have vBL:VB L 58 A.next (.var 3) [.int .u8 s,x0,x1]:=KBL.vb vB (by decide)
 have lsL:ag af L.get 5 (pw A.next 0)= .ok (.int .u8 s):=vBL.ld rfl u5 rfl;have lsO:ag af O.get 5 (pw A.next 0)= .ok (.int .u8 s):=vBO.ld rfl u5 rfl;have rm:aM .rem .u8 ((s:Nat):Int) ((6:Nat):Int)= .ok (bN (s % 6)):=Dk (by omega);have cv:gi af 5 3 (bN (s % 6))= .ok (iN (s % 6)):=bM (by kernel_rfl) u3 (aV (by omega));have hlenO:=hJO.len;have kw:=fun ih A=>Ve (ih:=ih) (A:=A)
 have hq1:((1048576:Nat):Int)=(quo:Int):=rfl;simp only [pV] at*;apply W.q
 ·intro M;simp (disch:=first|decide+kernel|omega) only [c4,qbC,Aq,qal,au,hB];rfl
 apply W.q
 ·intro M;simp (disch:=first|decide+kernel|omega) only [c4,qbC,Aq,qal,kw];rfl
 apply W.qG (g1)
 ·intro M hM;simp (disch:=first|decide+kernel|omega) only [c4,qbC,Aq,qal,hq1,h1];rfl
 apply W.q
 ·intro M;simp (disch:=first|decide+kernel|omega) only [c4,qbC,Aq,qal,Zc,Ze,hE];rfl
 apply W.seq;simp only [ew] at sG h2;apply W.cN (g2) 20
 ·intro M hM;simp (disch:=first|decide+kernel|omega) only [c4,qbC,Aq,qal,h2,qau,qav,DS,au,sG];rfl
 apply W.qG (g3+g4+g5)
 ·intro M hM;simp (disch:=first|decide+kernel|omega) only [c4,qbC,Aq,qal,h3,h4,h5];rfl
 apply W.q
 ·intro M;simp (disch:=first|decide+kernel|omega) only [c4,qbC,Aq,qal];rfl
 apply W.qG (g6)
 ·intro M hM;simp (disch:=first|decide+kernel|omega) only [c4,qbC,Aq,qal,h6,qau,qav];rfl
 apply W.qG (g7)
 ·intro M hM;simp (disch:=first|decide+kernel|omega) only [c4,qbC,Aq,qal,xC,lsL,rm,cv,h7];rfl
 apply W.seq;simp only [ew] at sO h8;apply W.cN (g8) 20
 ·intro M hM;simp (config:={maxSteps:=4000000}) (disch:=first|decide+kernel|omega|simp only [Wq,qal]) only [c4,qbC,Aq,qaq,reduceIte,qal,qam,h8,qau,qav,DS,au,sO];rfl
 apply W.seq;rcases hcs with⟨q1,q2,q3|⟨q3,q4⟩,-⟩|⟨q1,q2|⟨q2,q3,q4⟩⟩
 ·apply W.run 20
  ·intro M;simp (config:={maxSteps:=4000000}) (disch:=first|decide+kernel|omega|simp only [Wq,qal]) only [c4,qbC,Aq,qaq,reduceIte,qal,qam,xC,lsO,rm,hlenO,cT,bY,JC,JB,q1,q2,q3];rfl
  refine wh hDO hLD vBO vGO hEO hJO hokO uO0 uO1 hN ll60 himl ?_;simp only [Sq,qal,qam];exact⟨rfl,rfl,rfl,by rw [q1],rfl⟩
 ·apply W.run 20
  ·intro M;simp (config:={maxSteps:=4000000}) (disch:=first|decide+kernel|omega|simp only [Wq,qal]) only [c4,qbC,Aq,qaq,reduceIte,qal,qam,xC,lsO,rm,hlenO,cT,bY,JC,JB,q1,q2,q3,q4];rfl
  refine wh hDO hLD vBO vGO hEO hJO hokO uO0 uO1 hN ll60 himl ?_;simp only [Sq,qal,qam];exact⟨rfl,rfl,rfl,by rw [q1],rfl⟩
 ·apply W.run 20
  ·intro M;simp (config:={maxSteps:=4000000}) (disch:=first|decide+kernel|omega|simp only [Wq,qal]) only [c4,qbC,Aq,qaq,reduceIte,qal,qam,xC,lsO,rm,hlenO,cT,bY,JC,JB,q1,q2];rfl
  refine wh hDO hLD vBO vGO hEO hJO hokO uO0 uO1 hN ll60 himl ?_;simp only [Sq,qal,qam];exact⟨rfl,rfl,rfl,rfl⟩
 ·apply W.run 20
  ·intro M;simp (config:={maxSteps:=4000000}) (disch:=first|decide+kernel|omega|simp only [Wq,qal]) only [c4,qbC,Aq,qaq,reduceIte,qal,qam,xC,lsO,rm,hlenO,cT,bY,JC,JB,q1,q2,q3,q4];rfl
  refine wh hDO hLD vBO vGO hEO hJO hokO uO0 uO1 hN ll60 himl ?_;simp only [Sq,qal,qam];exact⟨rfl,rfl,rfl,rfl⟩
end Go.Proofs.YtjoceidiioppiaaGreatDoor.sto
end
