/- The abstract machine, the walk of the law and its plain laws, made small by a program; part 8: no conditions but those in each theorem. -/
import Derived.Test.YtjoceidiioppiaaGreatDoorQ07
set_option maxHeartbeats 16000000
set_option maxRecDepth 100000
set_option linter.unusedSimpArgs false
set_option linter.unusedVariables false
noncomputable section
open Nat renaming reduceEqDiff→qal,reduceAdd→qam,le_refl→qao,ble→qaq,beq→qaw,blt→qax,zero_le→qaB,lt_of_lt_of_le→qaD,le_of_ble_eq_true→qaG,blt_eq→qaH,eq_of_beq_eq_true→qaL,lt_or_ge→qaZ,zero_add→qa1,add_zero→qa8,ble_eq_true_of_le→qbd,lt_of_le_of_lt→qbj,sub_self→qbq,min_eq_left→qbr,sub_zero→qbA,mul_one→qb2,strongRecOn→qcL,zero_mul→qcN,max_eq_right→qc5,lt_irrefl→qdh,not_lt_zero→qdD,le_total→qeG
open List renaming getElem?_eq_getElem→qan,getElem?_eq_some_iff→qap,length_append→qar,length_map→qas,getElem?_cons_zero→qau,getElem?_cons_succ→qav,mem_cons_of_mem→qay,mem_cons_self→qaz,length_cons→qaA,take_succ_eq_append_getElem→qaC,length_take→qaE,getElem?_append_right→qaF,getElem?_append_left→qaJ,mem_cons→qaK,getElem?_map→qaN,length_eq_zero_iff→qaP,length_set→qaQ,take_length→qaR,length_singleton→qaS,length_nil→qaT,mem_of_getElem?→qa0,mem_map→qa3,length_pos_iff→qa6,replicate→qa7,getD_eq_getElem?_getD→qa9,not_mem_nil→qbb,getElem?_eq_none→qbc,map_append→qbe,getElem_mem→qbg,append_assoc→qbh,drop_eq_getElem_cons→qbi,flatMap_cons→qbl,getElem?_take→qbm,pairwise_iff_getElem→qbs,append_nil→qbt,foldl_cons→qbu,map_cons→qbx,all_eq_true→qby,getElem?_set→qbB,getElem_of_mem→qbM,range→qbN,mem_or_eq_of_mem_set→qbR,mem_append_right→qbU,flatten_cons→qb3,map_nil→qcp,take_of_length_le→qcq,take_zero→qcy,foldl_append→qcR,getElem_map→qc2,nodup_nil→qc4,length_replicate→qdc,set_append_right→qdd,exists_mem_of_ne_nil→qdl,drop_zero→qdq,mem_flatMap→qds,drop_length→qd4,nodup_cons→qee,map→qew,map_set→qeD,sum_append→qeE,take→qeM
open Bool renaming false_eq_true→qaI,and_true→qci,true_and→qcs,false_and→qdT
open Option.some renaming inj→qbo
open Go.Proofs.Tryz renaming f191→qbX,f192→qbY,f197→qbZ,f142→qcg,f279→qda,f290→qdb,f280→qdp,f83→qdx,f300→qdI,f84→qdQ,f295→qd2,f294→qen,f291→qeB
open Option renaming bind_some→qcf
open UInt8 renaming lt_iff_toNat_lt→qde,toNat_inj→qdf
namespace Go.Proofs.YtjoceidiioppiaaGreatDoor.sto
open Go.Am Go.Mdl Go.Sto
theorem Y1:af.ba 74=some (.slice 5):=zo
theorem q5:aR af 5= .ok 1:=by kernel_rfl
def uZ (A:Mem) (b:Nat) (l:List UInt8) (x:Value):Prop:=oe A 5 b (cZ l) x∧l.Pairwise (·<·)∧l.length≤256
variable {A B:Mem} {b:Nat}
theorem uZ.kp {l:List UInt8} {x:Value} (h:uZ A b l x) (k:Kp A B):uZ B b l x:=⟨h.1.same k.1 (k.2 b),h.2⟩
theorem uZ.len {l:List UInt8} {x:Value} (h:uZ A b l x):aN af .len [74] [x]= .ok (iN l.length):=by
 have:=oe.len (tb:=af) h.1 Y1;rwa [cI] at this
variable {i:Nat}
theorem uZ.at {l:List UInt8} {x:Value} (h:uZ A b l x) (hi:i<l.length):aU af 74 x (.int .i64 i)= .ok (pw b i)∧ag af A.get 5 (pw b i)= .ok (bN (l[i].toNat)):=
 ⟨oe.idx h.1 Y1 q5 (by rw [cI];exact hi),oe.load (tb:=af) h.1 u5 rfl (by unfold cZ;rw [qaN,qan hi];rfl)⟩
variable {j:Nat}
theorem uZ.le {l:List UInt8} {x:Value} (h:uZ A b l x) (hij:i≤j) (hj:j<l.length):¬l[j].toNat<(l[i]'(by omega)).toNat:=by
 rcases qaZ i j with hlt|hge
 ·have:=qde.1 (qbs.1 h.2.1 i j (by omega) hj hlt);omega
 ·have:i=j:=by omega
  subst this;omega
variable {n:Nat}
theorem Po:bg af 307 [.int .u8 n] A (.bool false) A:=by
 refine bm 60 (aq Tryz.func307) (by kernel_rfl) fun M=>?_
 simp (disch:=first|decide+kernel|omega) only [Tryz.f307,Aq,qal]<;>rfl
theorem LM {a:Nat}:bg af 301 [.int .u8 a,.int .u8 b] A (.bool (decide (a<b))) A:=by
 obtain⟨g1,h1⟩:=Po (A:=A) (n:=a);refine aT (g1) 60 (aq Tryz.func301) (by kernel_rfl) fun M hM=>?_
 simp (config:={maxSteps:=4000000}) (disch:=first|decide+kernel|omega|simp only [Wq,qal]) only [Tryz.f301,Aq,qaq,reduceIte,qal,qam,h1]<;>rfl
theorem uZ.less {l:List UInt8} {x:Value} (h:uZ A b l x) (hij:i≤j) (hj:j<l.length):∃g,∀M,g≤M→bA af (exec af M) (.fn 301 [bN (l[j].toNat),bN ((l[i]'(by omega)).toNat)]) A= .ok (.val (.bool false) A):=by
 have h1:=LM (A:=A) (a:=l[j].toNat) (b:=(l[i]'(by omega)).toNat)
 rwa [decide_eq_false (h.le hij hj)] at h1
noncomputable def Ej:Code:=qd2.body.getD .skip
noncomputable def ji:Code:=sub Ej [1,0,0]
noncomputable def Nj:Code:=sub ji [1,0,0,1,0,0]
theorem Rr:qd2.body=some (.seq (sub Ej [0]) (.block 0 (.loop ji))):=by kernel_rfl
theorem Au:ji=(.seq (sub ji [0]) (.seq (.block 1 (.seq (sub ji [1,0,0,0]) (.block 2 (.loop Nj)))) (sub ji [1,1]))):=by kernel_rfl
theorem L3 {l:List UInt8} {x:Value} (h:uZ A b l x):∃v A',bg af 295 [x,iN 0,iN l.length] A v A'∧v=bL∧A'=A:=by
 refine cF (aq Tryz.func295) Rr (by kernel_rfl) ?_;have hl:=h.2.2;apply W.q
 ·intro M;simp (disch:=first|decide+kernel|omega) only [Ej,qd2,Aq,qal];rfl
 apply W.block;refine W.up (l.length-1) (fun k t D=>D=A∧Sl t [(0,x),(1,iN 0),(2,iN l.length),(6,iN (k+1))]) ?_ (qaB _) ⟨rfl,?_⟩
 ·rintro k t D hk ⟨rfl,g0,g1,g2,g6,-⟩;by_cases hlt:k+1<l.length
  ·obtain⟨i1,i2⟩:=h.at hlt;obtain⟨j1,j2⟩:=h.at (i:=k) (by omega);obtain⟨g,hg⟩:=h.less (i:=k) (j:=k+1) (by omega) hlt;have s1:aM .sub .i64 ((k+1:Nat):Int) ((1:Nat):Int)= .ok (iN k):=br (by omega) (aV (by omega));have hz:0<k+1:=by omega
   rw [Au];apply W.q
   ·intro M;simp (disch:=first|decide+kernel|omega) only [ji,Ej,qd2,Aq,qal,g2,g6,hlt];rfl
   apply W.seq;apply W.block;apply W.q
   ·intro M;simp (disch:=first|decide+kernel|omega) only [ji,Ej,qd2,Aq,qal,g6];rfl
   apply W.block;apply W.round;apply W.cN (g) 20
   ·intro M hM;simp (config:={maxSteps:=4000000}) (disch:=first|decide+kernel|omega|simp only [Wq,qal]) only [Nj,ji,Ej,qd2,Aq,qaq,reduceIte,qal,qam,g0,g1,g2,g6,cT,bY,hz,s1,i1,i2,j1,j2,hg,Fq,aA []];rfl
   show W af (sub ji [1,1]) _ _;apply W.run 20
   ·intro M;simp (disch:=first|decide+kernel|omega) only [ji,Ej,qd2,Aq,qal,g6];rfl
   refine⟨by omega,_,_,rfl,rfl,?_⟩;simp only [Sq,qal,qam,g0,g1,g2]
  ·rw [Au];apply W.seq;apply W.run 20
   ·intro M;simp (disch:=first|decide+kernel|omega) only [ji,Ej,qd2,Aq,qal,g2,g6,hlt];rfl
   exact⟨by simp,rfl,_,(by simp only [qd2,Aq,qal]<;>rfl),rfl,rfl⟩
 ·simp only [Sq,qal,qam]
noncomputable def vf:Code:=qdI.body.getD .skip
noncomputable def jN:Code:=sub vf [1,1,0,1,0,0]
noncomputable def Hb:Code:=sub jN [1,0,0,0,0,0]
theorem Rs:qdI.body=some (.seq (sub vf [0]) (.seq (sub vf [1,0]) (.seq (.seq (sub vf [1,1,0,0]) (.block 0 (.loop jN))) (sub vf [1,1,1])))):=by kernel_rfl
theorem KS:jN=(.seq (sub jN [0]) (.seq (.block 1 (.seq (.block 2 (.loop Hb)) (.seq (sub jN [1,0,0,1,0]) (sub jN [1,0,0,1,1])))) (sub jN [1,1]))):=by kernel_rfl
theorem L9 {l:List UInt8} {x:Value} (h:uZ A b l x) (h0:0<l.length):∃v A',bg af 300 [x,iN 0,iN l.length] A v A'∧v= .bool true∧A'=A:=by
 refine cF (aq Tryz.func300) Rs (by kernel_rfl) ?_;have hl:=h.2.2;apply W.q
 ·intro M;simp (disch:=first|decide+kernel|omega) only [vf,qdI,Aq,qal];rfl
 apply W.q
 ·intro M;simp (disch:=first|decide+kernel|omega) only [vf,qdI,Aq,qal];rfl
 apply W.seq;apply W.q
 ·intro M;simp (disch:=first|decide+kernel|omega) only [vf,qdI,Aq,qal];rfl
 apply W.block;apply W.round;rw [KS];have h5:0<5:=by omega
 apply W.q
 ·intro M;simp (disch:=first|decide+kernel|omega) only [jN,vf,qdI,Aq,qal,h5];rfl
 apply W.seq;apply W.block;apply W.seq;apply W.block;refine W.up (l.length-1) (fun k t D=>D=A∧Sl t [(0,x),(2,iN l.length),(7,iN (k+1))]) ?_ (qaB _) ⟨rfl,?_⟩
 ·rintro k t D hk ⟨rfl,g0,g2,g7,-⟩;by_cases hlt:k+1<l.length
  ·obtain⟨i1,i2⟩:=h.at hlt;obtain⟨j1,j2⟩:=h.at (i:=k) (by omega);obtain⟨g,hg⟩:=h.less (i:=k) (j:=k+1) (by omega) hlt;have s1:aM .sub .i64 ((k+1:Nat):Int) ((1:Nat):Int)= .ok (iN k):=br (by omega) (aV (by omega));apply W.cN (g) 20
   ·intro M hM;simp (config:={maxSteps:=4000000}) (disch:=first|decide+kernel|omega|simp only [Wq,qal]) only [Hb,jN,vf,qdI,Aq,qaq,reduceIte,qal,qam,g0,g2,g7,hlt,s1,i1,i2,j1,j2,hg,Fq,aA []];rfl
   refine⟨by omega,_,_,rfl,rfl,?_⟩;simp only [Sq,qal,qam,g0,g2]
  ·have e:k+1=l.length:=by omega
   rw [e] at g7;apply W.run 20
   ·intro M;simp (config:={maxSteps:=4000000}) (disch:=first|decide+kernel|omega|simp only [Wq,qal]) only [Hb,jN,vf,qdI,Aq,qaq,reduceIte,qal,qam,g0,g2,g7,qdh,Fq,aA []];rfl
   apply W.seq;apply W.run 20
   ·intro M;simp (disch:=first|decide+kernel|omega) only [jN,vf,qdI,Aq,qal,g2,g7];rfl
   exact⟨by simp,rfl,_,(by simp only [qdI,Aq,qal]<;>rfl),rfl,rfl⟩
 ·simp only [Sq,qal,qam]
theorem BC {q l:_} {x:Value} (h:uZ A b l x) (hij:i≤j) (hj:j<l.length):bg af 308 [x,.int .i64 i,.int .i64 j,q] A (.tuple ⟨[.int .i64 i,.int .i64 j]⟩) A:=by
 obtain⟨i1,i2⟩:=h.at hj;obtain⟨j1,j2⟩:=h.at (i:=i) (by omega);obtain⟨g,hg⟩:=h.less hij hj;refine aT (g) 60 (aq Tryz.func308) (by kernel_rfl) fun M hM=>?_
 simp (config:={maxSteps:=4000000}) (disch:=first|decide+kernel|omega|simp only [Wq,qal]) only [Tryz.f308,Aq,qaq,reduceIte,qal,qam,i1,i2,j1,j2,hg,Fq,aA []]<;>rfl
variable {k:Nat}
theorem yU {q l:_} {x:Value} (h:uZ A b l x) (hij:i≤j) (hjk:j≤k) (hk:k<l.length):bg af 306 [x,.int .i64 i,.int .i64 j,.int .i64 k,q] A (.int .i64 j) A:=by
 obtain⟨g1,h1⟩:=BC (q:=q) h hij (by omega);obtain⟨g2,h2⟩:=BC (q:=q) h hjk hk;refine aT (g1+g2) 60 (aq Tryz.func306) (by kernel_rfl) fun M hM=>?_
 simp (disch:=first|decide+kernel|omega) only [Tryz.f306,Aq,qal,h1,h2,qau,qav]<;>rfl
theorem qZ {q l:_} {x:Value} (h:uZ A b l x) (h1:1≤i) (hi:i+1<l.length):bg af 305 [x,.int .i64 i,q] A (.int .i64 i) A:=by
 obtain⟨g,hg⟩:=yU (q:=q) (i:=i-1) (j:=i) (k:=i+1) h (by omega) (by omega) hi;have hl:=h.2.2;have s1:aM .sub .i64 ((i:Nat):Int) ((1:Nat):Int)= .ok (iN (i-1)):=br (by omega) (aV (by omega));have a1:aM .add .i64 ((i:Nat):Int) ((1:Nat):Int)= .ok (iN (i+1)):=bf (aV (by omega));refine aT (g) 60 (aq Tryz.func305) (by kernel_rfl) fun M hM=>?_
 simp (disch:=first|decide+kernel|omega) only [Tryz.f305,Aq,qal,hg,s1,a1]<;>rfl
theorem L8 {l:List UInt8} {x:Value} (h:uZ A b l x) (h0:13≤l.length):∃m A',bg af 298 [x,iN 0,iN l.length] A (.tuple ⟨[iN m,iN 1]⟩) A'∧Kp A A':=by
 have hl:=h.2.2;have kB:=Kp.alloc A (aa 3 [iN 0]);have vB:=ay A 3 [iN 0];have hB:=h.kp kB;refine⟨l.length/4*2,A.alloc (aa 3 [iN 0]),?_,kB⟩;generalize hBe:A.alloc (aa 3 [iN 0])=B at kB vB hB;have lB:ag af B.get 3 (pw A.next 0)= .ok (iN 0):=vB.ld rfl u3 rfl;obtain⟨g,hg⟩:=yU (q:=pV A.next) (i:=l.length/4) (j:=l.length/4*2) (k:=l.length/4*3) hB (by omega) (by omega) (by omega);obtain⟨g1,h1⟩:=qZ (q:=pV A.next) (i:=l.length/4) hB (by omega) (by omega);obtain⟨g2,h2⟩:=qZ (q:=pV A.next) (i:=l.length/4*2) hB (by omega) (by omega);obtain⟨g3,h3⟩:=qZ (q:=pV A.next) (i:=l.length/4*3) hB (by omega) (by omega);have q1:∀c:Nat,c≤3→aM .mul .i64 ((l.length/4:Nat):Int) ((c:Nat):Int)= .ok (iN (l.length/4*c)):=fun c hc=>j5 (aV (by have:l.length/4*c≤l.length/4*3:=Nat.mul_le_mul_left _ hc;omega))
 have m1:=q1 1 (by omega);have m2:=q1 2 (by omega);have m3:=q1 3 (by omega);rw [qb2] at m1;have a0:∀n:Nat,n<1000→aM .add .i64 ((0:Nat):Int) ((n:Nat):Int)= .ok (iN n):=fun n hn=>by rw [bf (aV (by omega)),qa1]
 have a1:=a0 (l.length/4) (by omega);have a2:=a0 (l.length/4*2) (by omega);have a3:=a0 (l.length/4*3) (by omega);have h8:8≤l.length:=by omega
 simp only [pV] at*;by_cases h50:50≤l.length
 ·skip
  refine aT (g+g1+g2+g3) 60 (aq Tryz.func298) (by kernel_rfl) fun M hM=>?_
  simp (config:={maxSteps:=4000000}) (disch:=first|decide+kernel|omega|simp only [Wq,qal]) only [Tryz.f298,Aq,qaq,reduceIte,qal,qam,qA,fh,qbA,hBe,m1,m2,m3,a1,a2,a3,ef,cL,h8,h50,hg,h1,h2,h3,lB]<;>rfl
 ·skip
  refine aT (g) 60 (aq Tryz.func298) (by kernel_rfl) fun M hM=>?_
  simp (config:={maxSteps:=4000000}) (disch:=first|decide+kernel|omega|simp only [Wq,qal]) only [Tryz.f298,Aq,qaq,reduceIte,qal,qam,qA,fh,qbA,hBe,m1,m2,m3,a1,a2,a3,ef,cL,h8,h50,hg,lB]<;>rfl
noncomputable def G_:Code:=qen.body.getD .skip
noncomputable def Ha:Code:=sub G_ [1,1,0,0]
theorem Rq:qen.body=some (.seq (sub G_ [0]) (.seq (sub G_ [1,0]) (.block 0 (.loop Ha)))):=by kernel_rfl
variable {m:Nat}
theorem SW {l:List UInt8} {x:Value} (h:uZ A b l x) (hm:0<l.length→m≠0):∃v A',bg af 294 [x,iN 0,iN l.length,.int .i64 m] A v A'∧v=bL∧Kp A A':=by
 refine cF (aq Tryz.func294) Rq (by kernel_rfl) ?_;have hl:=h.2.2;apply W.q
 ·intro M;simp (disch:=first|decide+kernel|omega) only [G_,qen,Aq,qal];rfl
 apply W.q
 ·intro M;simp (disch:=first|decide+kernel|omega) only [G_,qen,Aq,qal];rfl
 apply W.block;apply W.round;by_cases h12:l.length≤12
 ·obtain⟨v,B,⟨g,hg⟩,rfl,rfl⟩:=L3 h;apply W.cN (g) 20
  ·intro M hM;simp (disch:=first|decide+kernel|omega) only [Ha,G_,qen,Aq,qal,qbA,h12,hg];rfl
  exact⟨by simp,rfl,_,(by simp only [qen,Aq,qal]<;>rfl),rfl,Kp.refl _⟩
 ·obtain⟨p,B,⟨g,hg⟩,kB⟩:=L8 h (by omega);obtain⟨v,C,⟨g2,hg2⟩,rfl,rfl⟩:=L9 (h.kp kB) (by omega);have hm:=hm (by omega);apply W.cN (g+g2) 20
  ·intro M hM;simp (config:={maxSteps:=4000000}) (disch:=first|decide+kernel|omega|simp only [Wq,qal]) only [Ha,G_,qen,Aq,qaq,reduceIte,qal,qam,qbA,h12,hg,hg2,hm,qau,qav,Fq,aA []];rfl
  exact⟨by simp,rfl,_,(by simp only [qen,Aq,qal]<;>rfl),rfl,kB⟩
theorem xO {l:List UInt8} (hl:(qaw l.length 256&&(qbN 256).all fun i=>qaw (l.getD i 0).toNat (gD i))=true) (h:n<256):nf af 9 (aj l) (.int .u8 n)= .ok (bN (gD n)):=AW hl h
theorem Px (hn:n≤256):∃m:Nat,(0<n→m≠0)∧bg af 261 [.int .u64 n] A (.int .i64 m) A:=by
 have k1:¬4294967296≤n:=by omega
 have k2:¬65536≤n:=by omega
 by_cases h:n<256
 ·have k3:¬256≤n:=by omega
  have hb:=Cf h;have hp:0<n→gD n≠0:=fun h=>by unfold gD;rw [if_neg (by omega)];omega
  have c1:=bM (tb:=af) (s:=113) (d:=5) (k:=.u64) (n:=n) (by rw [fp];rfl) u5 (jm h);have c2:=bM (tb:=af) (s:=5) (d:=3) (k:=.u8) (n:=gD n) (by rw [u5];rfl) u3 (aV (by omega));refine⟨gD n,hp,?_⟩;refine bm 60 (aq Tryz.func261) (by kernel_rfl) fun M=>?_
  simp (disch:=first|decide+kernel|omega) only [Tryz.f261,Aq,qal,ef,cL,k1,k2,k3,c1,c2,xO,qa1]<;>rfl
 ·have e:n=256:=by omega
  subst e;have c1:=bM (tb:=af) (s:=113) (d:=5) (k:=.u64) (n:=256>>>8) (by rw [fp];rfl) u5 (by rfl);have c2:=bM (tb:=af) (s:=5) (d:=3) (k:=.u8) (n:=gD (256>>>8)) (by rw [u5];rfl) u3 (by kernel_rfl);refine⟨8+gD (256>>>8),by omega,?_⟩;refine bm 60 (aq Tryz.func261) (by kernel_rfl) fun M=>?_
  simp (disch:=first|decide+kernel|omega) only [Tryz.f261,Aq,qal,ef,cL,k1,k2,qao,c1,c2,xO,Dz,qa1]<;>rfl
theorem Wm:af.ba 321=some (.int .u64):=by kernel_rfl
theorem Pn (hn:n≤256):∃m:Nat,(0<n→m≠0)∧bg af 230 [.int .u64 n] A (.int .i64 m) A:=by
 obtain⟨m,hm,g,hg⟩:=Px (A:=A) hn;refine⟨m,hm,?_⟩;refine aT (g) 60 (aq Tryz.func230) (by kernel_rfl) fun M hM=>?_
 simp (disch:=first|decide+kernel|omega) only [Tryz.f230,Aq,qal,hg]<;>rfl
theorem PG {l:List UInt8} {x:Value} (h:uZ A b l x):∃A',bg af 289 [x] A bL A'∧Kp A A':=by
 obtain⟨m,hm,g,hg⟩:=Pn (A:=A) h.2.2;obtain⟨v,B,⟨g2,h2⟩,rfl,kB⟩:=SW h hm;have hl:=h.2.2;have lx:=h.len;have cv:=bM (tb:=af) (s:=3) (d:=321) (k:=.i64) (n:=l.length) (by rw [u3];rfl) Wm (cV (by omega));refine⟨B,?_,kB⟩;refine aT (g+g2) 60 (aq Tryz.func289) (by kernel_rfl) fun M hM=>?_
 simp (disch:=first|decide+kernel|omega) only [Tryz.f289,Aq,qal,lx,cv,hg,h2]<;>rfl
theorem LL {a:cJ} {b:UInt8} {pb pa:Nat} (h1:VB A 5 pb (.var 1) [bN b.toNat]) (h2:VB A 3 pa (.var 1) [.int .i64 i]) (ht:a.to<i):∃v A',bg af 292 [.agg ⟨b6 a⟩,pV pb,pV pa] A v A'∧v= .bool (decide (a.byte=b))∧Kp A A':=by
 have k:=Kp.alloc A (aa 246 (b6 a));have v:=ay A 246 (b6 a);refine⟨_,A.alloc (aa 246 (b6 a)),?_,rfl,k⟩;have h1:=h1.kp k;have h2:=h2.kp k;generalize hB:A.alloc (aa 246 (b6 a))=B at v h1 h2;have l0:ag af B.get 5 (pw A.next 0)= .ok (bN a.byte.toNat):=v.ld rfl u5 rfl;have l1:ag af B.get 5 (pw pb 0)= .ok (bN b.toNat):=h1.ld rfl u5 rfl;have l2:ag af B.get 3 (pw A.next (0+2))= .ok (.int .i64 a.to):=v.ld rfl u3 rfl;have l3:ag af B.get 3 (pw pa 0)= .ok (.int .i64 i):=h2.ld rfl u3 rfl;have hz:¬a.to<0:=by omega
 simp only [pV];by_cases he:a.byte=b
 ·subst he;rw [decide_eq_true rfl];refine bm 60 (aq Tryz.func292) (by kernel_rfl) fun M=>?_
  simp (config:={maxSteps:=4000000}) (disch:=first|decide+kernel|omega|simp only [Wq,qal]) only [Tryz.f292,Aq,qaq,reduceIte,qal,qam,au,hB,pH,nb,l0,l1,l2,l3,ef,cL,hz,ht,qaB]<;>rfl
 ·have hn:¬(a.byte.toNat=b.toNat):=fun h=>he (qdf.1 h)
  rw [decide_eq_false he];refine bm 60 (aq Tryz.func292) (by kernel_rfl) fun M=>?_
  simp (disch:=first|decide+kernel|omega) only [Tryz.f292,Aq,qal,au,hB,pH,nb,l0,l1,l2,l3,ef,cL,hz,ht,hn]<;>rfl
noncomputable def CD:Code:=qeB.body.getD .skip
noncomputable def G9:Code:=sub CD [1,0,1,0,0]
theorem Rp:qeB.body=some (.seq (sub CD [0]) (.seq (.seq (sub CD [1,0,0]) (.block 0 (.loop G9))) (.seq (sub CD [1,1,0]) (sub CD [1,1,1])))):=by kernel_rfl
theorem L2 {l:List cJ} {x:Value} {pb pa:Nat} {a:cJ} (hx:iI A l x) (h1:VB A 5 pb (.var 1) [bN a.byte.toNat]) (h2:VB A 3 pa (.var 1) [.int .i64 n]) (ht:∀a∈l,a.to<n) (hp:(l.map (·.byte)).Pairwise (·<·)) (hl:l.length≤256) (hi:l[i]?=some a):
 ∃v A',bg af 291 [x,.func (.func 292) ⟨[]⟩ ⟨[pV pb,pV pa]⟩] A v A'∧v= .int .i64 i∧Kp A A':=by
 refine cF (aq Tryz.func291) Rp (by kernel_rfl) ?_;obtain⟨hil,hia⟩:=qap.1 hi;have lx:=hx.len;simp only [pV];apply W.q
 ·intro M;simp (disch:=first|decide+kernel|omega) only [CD,qeB,Aq,qal];rfl
 apply W.seq;apply W.q
 ·intro M;simp (disch:=first|decide+kernel|omega) only [CD,qeB,Aq,qal,lx];rfl
 apply W.block;refine W.up i (fun k t D=>Kp A D∧Sl t [(0,x),(1,.func (.func 292) ⟨[]⟩ ⟨[pw pb 0,pw pa 0]⟩),(7,iN l.length),(8,.int .i64 k)]) ?_ (qaB _) ⟨Kp.refl _,?_⟩
 ·rintro k t D hk ⟨kD,g0,g1,g7,g8,-⟩;have hkl:k<l.length:=by omega
  have hlk:l[k]?=some l[k]:=qan hkl;obtain⟨p,q1,q2⟩:=(hx.kp kD).at hlk;obtain⟨v,E,⟨g,hg⟩,rfl,kE⟩:=LL (h1.kp kD) (h2.kp kD) (ht _ (qbg hkl));simp only [pV] at hg;by_cases he:k=i
  ·subst he;have:l[k]=a:=hia;rw [this] at hg q2;rw [decide_eq_true rfl] at hg;apply W.cN (g) 20
   ·intro M hM;simp (disch:=first|decide+kernel|omega) only [G9,CD,qeB,Aq,qal,g0,g1,g7,g8,hkl,q1,q2,hg];rfl
   exact⟨by simp,rfl,_,(by simp only [qeB,Aq,qal]<;>rfl),rfl,kD.trans kE⟩
  ·have hlt:=qbs.1 hp k i (by rw [qas];omega) (by rw [qas];omega) (by omega);rw [qc2,qc2,hia] at hlt;rw [decide_eq_false (fun h=>by rw [h] at hlt;exact absurd hlt (UInt8.lt_irrefl _))] at hg;apply W.cN (g) 20
   ·intro M hM;simp (disch:=first|decide+kernel|omega) only [G9,CD,qeB,Aq,qal,g0,g1,g7,g8,hkl,q1,q2,hg];rfl
   refine⟨by omega,_,_,rfl,kD.trans kE,?_⟩;simp only [Sq,qal,qam,g0,g1,g7]
 ·simp only [Sq,qal,qam]
variable {M:List aZ} {y:Value}
theorem dJ.get {s:aZ} (h:dJ A M y) (hi:M[i]?=some s):
 ∃x p q,aU af 112 y (.int .i64 i)= .ok p∧av af 186 p 0= .ok q∧iI A s.arcs x∧∀A',Kp A A'→ag af A'.get 186 p= .ok (.agg ⟨cW x s⟩)∧ag af A'.get 184 q= .ok x:=by
 obtain⟨b,rows,h1,h2,h3⟩:=h;obtain⟨x,e1,e2⟩:=h3 i s hi;have hl:i<rows.length:=(qap.1 e1).1;obtain⟨d,hd1,hd2⟩:=a8 (t:=186) (p:=true) (by kernel_rfl);refine⟨x,_,_,az.idx h1 fy jD hl,fk,e2,fun A' k=>?_⟩;have h1:=h1.same k.1 (k.2 b);have:=az.load (tb:=af) (j:=0) h1 mi rfl e1 rfl (by omega);exact⟨az.aI h1 hd1 hd2 jD e1,by rwa [qa8] at this⟩
theorem FZ {k:Value} {s:aZ} {a:cJ} (h:dJ A M y) (hn:M[n]?=some s) (ht:∀a∈s.arcs,a.to<n) (hp:(s.arcs.map (·.byte)).Pairwise (·<·)) (hl:s.arcs.length≤256) (hj:s.arcs[j]?=some a):
 ∃v A',bg af 281 [.agg ⟨[y,k]⟩,.int .i64 n,bN a.byte.toNat] A v A'∧v= .tuple ⟨[.int .i64 a.to,.int .u64 a.out,.bool true]⟩∧Kp A A':=by
 have kB:=Kp.alloc A (aa 115 [y,k]);have vB:=ay A 115 [y,k];generalize hB:A.alloc (aa 115 [y,k])=B at kB vB;have kC:=Kp.alloc B (aa 3 [.int .i64 n]);have vC:=ay B 3 [.int .i64 n];generalize hC:B.alloc (aa 3 [.int .i64 n])=C at kC vC;have kD:=Kp.alloc C (aa 5 [bN a.byte.toNat]);have vD:=ay C 5 [bN a.byte.toNat];generalize hD:C.alloc (aa 5 [bN a.byte.toNat])=D at kD vD;have vC:=vC.kp kD;have vB:=vB.kp (kC.trans kD);have kAD:=(kB.trans kC).trans kD;have hS:=h.kp kAD;obtain⟨hnl,-⟩:=qap.1 hn;have lenD:=hS.len;obtain⟨x,p,q,i1,i2,hx,i4⟩:=hS.get hn;obtain⟨v,E,⟨g,hg⟩,rfl,kE⟩:=L2 hx vD vC ht hp hl hj;obtain⟨r,j1,j2⟩:=(hx.kp kE).at hj;have kF:=Kp.alloc E (aa 246 (b6 a));have vF:=ay E 246 (b6 a);have sF:=F6 (D:=E) (a:=a);generalize hF:E.alloc (aa 246 (b6 a))=F at kF vF sF;have ly:∀G,Kp D G→ag af G.get 112 (pw A.next 0)= .ok y:=fun G hG=>(vB.kp hG).ld rfl fy rfl
 have l1:=ly D (Kp.refl _);have l2:=ly E kE;have l3:∀G,Kp D G→ag af G.get 3 (pw B.next 0)= .ok (.int .i64 n):=fun G hG=>(vC.kp hG).ld rfl u3 rfl
 have l4:=l3 D (Kp.refl _);have l5:=l3 E kE;have i5:=(i4 D (Kp.refl _)).2;have i6:=(i4 E kE).2;have o1:ag af F.get 113 (pw E.next (0+1))= .ok (.int .u64 a.out):=vF.ld rfl fp rfl;have o2:ag af F.get 3 (pw E.next (0+2))= .ok (.int .i64 a.to):=vF.ld rfl u3 rfl;have hz:¬n<0:=by omega
 have hz2:¬M.length≤n:=by omega
 have hz3:¬j<0:=by omega
 refine⟨_,F,?_,rfl,kAD.trans (kE.trans kF)⟩;simp only [pV] at hg;refine aT (g) 60 (aq Tryz.func281) (by kernel_rfl) fun M hM=>?_
 simp (config:={maxSteps:=4000000}) (disch:=first|decide+kernel|omega|simp only [Wq,qal]) only [Tryz.f281,Aq,qaq,reduceIte,qal,qam,au,hB,hC,hD,ed,l1,l2,l4,l5,lenD,ef,cL,hz,hz2,hz3,i1,i2,i5,i6,aY,hg,j1,j2,rj,sF,qR,nb,o1,o2,Fq,aA []]<;>rfl
noncomputable def rJ:Code:=qdb.body.getD .skip
noncomputable def G8:Code:=sub rJ [1,1,0,1,0,0]
theorem Ro:qdb.body=some (.seq (sub rJ [0]) (.seq (sub rJ [1,0]) (.seq (.seq (sub rJ [1,1,0,0]) (.block 0 (.loop G8))) (.seq (sub rJ [1,1,1,0]) (sub rJ [1,1,1,1]))))):=by kernel_rfl
theorem FE {l:List UInt8} {x:Value} (h:uZ A b l x):∃v A',bg af 290 [x] A v A'∧v=x∧A'=A:=by
 refine cF (aq Tryz.func290) Ro (by kernel_rfl) ?_;have hl:=h.2.2;have lx:=h.len;apply W.q
 ·intro M;simp (disch:=first|decide+kernel|omega) only [rJ,qdb,Aq,qal];rfl
 apply W.seq;by_cases h2:l.length<2
 ·apply W.run 20
  ·intro M;simp (disch:=first|decide+kernel|omega) only [rJ,qdb,Aq,qal,lx,h2];rfl
  exact⟨by simp,rfl,_,(by simp only [qdb,Aq,qal]<;>rfl),rfl,rfl⟩
 ·apply W.run 20
  ·intro M;simp (disch:=first|decide+kernel|omega) only [rJ,qdb,Aq,qal,lx,h2];rfl
  apply W.seq;apply W.q
  ·intro M;simp (disch:=first|decide+kernel|omega) only [rJ,qdb,Aq,qal];rfl
  apply W.block;refine W.up (l.length-1) (fun k t D=>D=A∧Sl t [(0,x),(3,iN (k+1))]) ?_ (qaB _) ⟨rfl,?_⟩
  ·rintro k t D hk ⟨rfl,g0,g3,-⟩;by_cases hlt:k+1<l.length
   ·obtain⟨i1,i2⟩:=h.at hlt;obtain⟨j1,j2⟩:=h.at (i:=k) (by omega);have hle:=h.le (i:=k) (j:=k+1) (by omega) hlt;have hne:¬(l[k+1].toNat=(l[k]'(by omega)).toNat):=fun e=>by
     have:=qde.1 (qbs.1 h.2.1 k (k+1) (by omega) hlt (by omega));omega
    have s1:aM .sub .i64 ((k+1:Nat):Int) ((1:Nat):Int)= .ok (iN k):=br (by omega) (aV (by omega));apply W.run 20
    ·intro M;simp (config:={maxSteps:=4000000}) (disch:=first|decide+kernel|omega|simp only [Wq,qal]) only [G8,rJ,qdb,Aq,qaq,reduceIte,qal,qam,g0,g3,lx,hlt,s1,i1,i2,j1,j2,hne,Fq,aA []];rfl
    refine⟨by omega,_,_,rfl,rfl,?_⟩;simp only [Sq,qal,qam,g0]
   ·apply W.run 20
    ·intro M;simp (disch:=first|decide+kernel|omega) only [G8,rJ,qdb,Aq,qal,g0,g3,lx,hlt];rfl
    apply W.q
    ·intro M;simp (disch:=first|decide+kernel|omega) only [rJ,qdb,Aq,qal,g0];rfl
    apply W.run 20
    ·intro M;simp (disch:=first|decide+kernel|omega) only [rJ,qdb,Aq,qal];rfl
    exact⟨by simp,rfl,_,(by simp only [qdb,Aq,qal]<;>rfl),rfl,rfl⟩
  ·simp only [Sq,qal,qam]
noncomputable def qM:Code:=qdp.body.getD .skip
noncomputable def G7:Code:=sub qM [1,1,0,1,0,0]
theorem Rn:qdp.body=some (.seq (sub qM [0]) (.seq (sub qM [1,0]) (.seq (.seq (sub qM [1,1,0,0]) (.block 0 (.loop G7))) (.seq (sub qM [1,1,1,0]) (.seq (sub qM [1,1,1,1,0]) (sub qM [1,1,1,1,1])))))):=by kernel_rfl
theorem XB (a:Int):a6 af 74 1 [(0,.int .u8 a)]= .ok (aa 5 [.int .u8 a],.mO 1 2):=by kernel_rfl
theorem yQ {k:Value} {s:aZ} (h:dJ A M y) (hn:M[n]?=some s) (ht:∀a∈s.arcs,a.to<n) (hp:(s.arcs.map (·.byte)).Pairwise (·<·)) (hl:s.arcs.length≤256) (hM:M.length<1000000):
 ∃v A',bg af 280 [.agg ⟨[y,k]⟩,.int .i64 n] A v A'∧Kp A A'∧∃b,uZ A' b (s.arcs.map (·.byte)) v∧A.next≤b:=by
 obtain⟨v,A',h1,h2⟩:∃v A',bg af 280 [.agg ⟨[y,k]⟩,.int .i64 n] A v A'∧(Kp A A'∧∃b,uZ A' b (s.arcs.map (·.byte)) v∧A.next≤b):=by
  refine cF (aq Tryz.func280) Rn (by kernel_rfl) ?_;have kB:=Kp.alloc A (aa 115 [y,k]);have vB:=ay A 115 [y,k];apply W.q
  ·intro M;simp (disch:=first|decide+kernel|omega) only [qM,qdp,Aq,qal,au];rfl
  have hS:=h.kp kB;generalize A.alloc (aa 115 [y,k])=B at kB vB hS;obtain⟨hnl,-⟩:=qap.1 hn;have ly:ag af B.get 112 (pw A.next 0)= .ok y:=vB.ld rfl fy rfl;have bX:=hS.len;obtain⟨x,p,q,i1,i2,hx,i4⟩:=hS.get hn;have i5:=(i4 B (Kp.refl _)).2;have lx:=hx.len;have hz:¬n<0:=by omega
  have hz2:¬M.length≤n:=by omega
  obtain⟨ti,ht1,ht2⟩:=Y3;apply W.q
  ·intro M;simp (config:={maxSteps:=4000000}) (disch:=first|decide+kernel|omega|simp only [Wq,qal]) only [qM,qdp,Aq,qaq,reduceIte,qal,qam,hz,hz2,ed,ly,bX,ef,cL];rfl
  apply W.seq;apply W.q
  ·intro M;simp (disch:=first|decide+kernel|omega) only [qM,qdp,Aq,qal,ed,ly,i1,i2,i5,lx];rfl
  apply W.block;refine W.up s.arcs.length (fun i t D=>(∃b z,oe D 5 b (cZ ((s.arcs.take i).map (·.byte))) z∧B.next≤b∧Kp B D∧Sl t [(1,.int .i64 n),(4,z),(21,x),(22,iN s.arcs.length),(23,.int .i64 i)])) ?_ (qaB _) ⟨B.next,.slice none 0 0,.inl ⟨rfl,rfl⟩,qao _,Kp.refl _,?_⟩
  ·rintro i t D hi ⟨b,z,hz,hb,kD,g1,g4,g21,g22,g23,-⟩;by_cases hlt:i<s.arcs.length
   ·have hsi:s.arcs[i]?=some s.arcs[i]:=qan hlt;have htk:(s.arcs.take (i+1)).map (·.byte)=(s.arcs.take i).map (·.byte)++[(s.arcs[i]).byte]:=by rw [qaC hlt,qbe];rfl
    have hto:=ht _ (qbg hlt);obtain⟨r,q1,q2⟩:=(hx.kp kD).at hsi;generalize s.arcs[i]=a at*;have sE:=F6 (D:=D) (a:=a);have vE:=ay D 246 (b6 a);have kE:=Kp.alloc D (aa 246 (b6 a));generalize D.alloc (aa 246 (b6 a))=E at sE vE kE;have l0:ag af E.get 5 (pw D.next 0)= .ok (bN a.byte.toNat):=vE.ld rfl u5 rfl;have l2:ag af E.get 3 (pw D.next (0+2))= .ok (.int .i64 a.to):=vE.ld rfl u3 rfl;have kF:=Kp.alloc E (aa 5 [bN a.byte.toNat]);have hzF:=hz.same (kE.trans kF).1 ((kE.trans kF).2 b);obtain⟨z',G,happ,hs3,hn3,hf3⟩:=hzF.append (tb:=af) (st:=74) (xt:=74) Y1 Y1 Y5 ht1 (by omega) (by omega) (by unfold cZ;simp;omega) (ax E _) rfl;rw [ae] at hs3 hn3 hf3;apply W.run 20
    ·intro M;simp (config:={maxSteps:=4000000}) (disch:=first|decide+kernel|omega|simp only [Wq,qal]) only [G7,qM,qdp,Aq,qaq,reduceIte,qal,qam,g1,g4,g21,g22,g23,hlt,q1,q2,rj,au,sE,pH,nb,l0,l2,ef,cL,qaB,hto,XB,happ];rfl
    have n1:=kD.1;have n2:=kE.1;refine⟨hlt,_,_,rfl,E.next+1,z',?_,by omega,⟨by omega,fun w hw=>by rw [hf3 w (by omega) (by omega),(kE.trans kF).2 w (by omega),kD.2 w hw]⟩,?_⟩
    ·rw [htk];unfold cZ;rw [qbe];exact hs3
    ·simp only [Sq,qal,qam,g1,g21,g22]
   ·have e:i=s.arcs.length:=by omega
    subst e;rw [qaR] at hz;have hR:uZ D b (s.arcs.map (·.byte)) z:=⟨hz,hp,by rw [qas];exact hl⟩;obtain⟨E,⟨e1,h1⟩,kE⟩:=PG hR;obtain⟨v,F,⟨e2,h2⟩,rfl,rfl⟩:=FE (hR.kp kE);apply W.run 20
    ·intro M;simp (disch:=first|decide+kernel|omega) only [G7,qM,qdp,Aq,qal,g22,g23];rfl
    apply W.qG (e1)
    ·intro M hM;simp (disch:=first|decide+kernel|omega) only [qM,qdp,Aq,qal,g4,h1];rfl
    apply W.qG (e2)
    ·intro M hM;simp (disch:=first|decide+kernel|omega) only [qM,qdp,Aq,qal,g4,h2];rfl
    apply W.run 20
    ·intro M;simp (disch:=first|decide+kernel|omega) only [qM,qdp,Aq,qal];rfl
    exact⟨by simp,rfl,_,(by simp only [qdp,Aq,qal]<;>rfl),kB.trans (kD.trans kE),b,hR.kp kE,by have:=kB.1;omega⟩
  ·simp only [Sq,qal,qam]
 exact⟨v,A',h1,h2⟩
def ri (a:cJ):Value:=.agg ⟨[.int .i64 a.to,.int .u64 a.out]⟩
theorem TC {m n:Int}:ct af 342 [(0,.int .i64 m),(1,.int .u64 n)]= .ok (.agg ⟨[.int .i64 m,.int .u64 n]⟩):=by kernel_rfl
theorem yY {k:Value}:bg af 242 [.agg ⟨[y,k]⟩,.int .i64 n] A (.func (.func 279) ⟨[]⟩ ⟨[pV A.next,pV (A.next+1)]⟩) ((A.alloc (aa 115 [y,k])).alloc (aa 3 [.int .i64 n])):=by
 have e:=ae A (aa 115 [y,k]);simp only [pV];refine bm 60 (aq Tryz.func242) (by kernel_rfl) fun M=>?_
 simp (disch:=first|decide+kernel|omega) only [Tryz.f242,Aq,qal,au,fh,e,e9,aY]<;>rfl
def MO (B:Mem) (ab lp:Nat) (s:aZ) (Inv:Nat→Mem→Prop):Prop:=∀(j:Nat) (a:cJ) (D:Mem),s.arcs[j]?=some a→Inv j D→B.next≤D.next→(∀z,z<B.next→z≠ab→z≠lp→D.get z=B.get z)→
 ∃E,(∃g,∀M,g≤M→bA af (exec af M) (.round lp [.int .u8 (a.byte.toNat:Nat),ri a]) D= .ok (.val (.bool true) E))∧Inv (j+1) E∧D.next≤E.next∧∀z,z<D.next→z≠ab→z≠lp→E.get z=D.get z
noncomputable def CC:Code:=qda.body.getD .skip
noncomputable def tq:Code:=sub CC [1,0,0]
theorem IV:qda.body=some (.seq (sub CC [0]) (.block 0 (.loop tq))):=by kernel_rfl
theorem F0 {k:Value} {q ab lp:Nat} {s:aZ} {Inv:Nat→Mem→Prop} (h:dJ A M y) (hn:M[n]?=some s) (ht:∀a∈s.arcs,a.to<n) (hp:(s.arcs.map (·.byte)).Pairwise (·<·)) (hl:s.arcs.length≤256) (hM:M.length<1000000)
 (hB:Kp A B) (v1:VB B 115 q (.var 2) [y,k]) (v2:VB B 3 (q+1) (.var 1) [.int .i64 n]) (hq:ab≠q∧ab≠q+1∧lp≠q∧lp≠q+1∧A.next≤ab∧A.next≤lp∧ab<B.next∧lp<B.next)
 (hK:∀j D E,Inv j D→Kp D E→Inv j E) (hc:MO B ab lp s Inv) (hI:Inv 0 B):
 ∃v C,bg af 279 [.func (.yield lp) ⟨[]⟩ ⟨[]⟩,pV q,pV (q+1)] B v C∧Inv s.arcs.length C∧B.next≤C.next∧∀z,z<B.next→z≠ab→z≠lp→C.get z=B.get z:=by
 obtain⟨p1,p2,p3,p4,p5,p6,p7,p8⟩:=hq;refine cF (aq Tryz.func279) IV (by kernel_rfl) ?_;obtain⟨d,hd1,hd2⟩:=a8 (t:=115) (p:=true) (by kernel_rfl);have ld1:∀D:Mem,D.get q=B.get q→ag af D.get 115 (pw q 0)= .ok (.agg ⟨[y,k]⟩):=fun D e=>aI hd1 hd2 (l:=[y,k]) du (v1.2.same e)
 have ld2:∀D:Mem,D.get (q+1)=B.get (q+1)→ag af D.get 3 (pw (q+1) 0)= .ok (.int .i64 n):=fun D e=>aQ u3 rfl (v2.2.same e) rfl
 have a1:=ld1 B rfl;have a2:=ld2 B rfl;obtain⟨x,C,⟨g,hg⟩,kC,b,hR,hb⟩:=yQ (h.kp hB) hn ht hp hl hM (k:=k);have lx:=hR.len;rw [qas] at lx;simp only [pV];apply W.qG (g)
 ·intro M hM;simp (disch:=first|decide+kernel|omega) only [CC,qda,Aq,qal,a1,a2,hg,lx];rfl
 apply W.block;refine W.up s.arcs.length (fun j t D=>Inv j D∧B.next≤D.next∧(∀z,z<B.next→z≠ab→z≠lp→D.get z=B.get z)∧uZ D b (s.arcs.map (·.byte)) x∧Sl t [(0,.func (.yield lp) ⟨[]⟩ ⟨[]⟩),(1,pw q 0),(2,pw (q+1) 0),(11,x),(12,iN s.arcs.length),(13,.int .i64 j)]) ?_ (qaB _) ⟨hK _ _ _ hI kC,kC.1,fun z hz _ _=>kC.2 z hz,hR,?_⟩
 ·rintro j t D hj ⟨hI,hn2,hf,hR,g0,g1,g2,g11,g12,g13,-⟩;by_cases hlt:j<s.arcs.length
  ·have hsj:s.arcs[j]?=some s.arcs[j]:=qan hlt;obtain⟨i1,i2⟩:=hR.at (i:=j) (by rw [qas];exact hlt);rw [qc2] at i2;have kAD:Kp A D:=⟨by have:=hB.1;omega,fun z hz=>by rw [hf z (by have:=hB.1;omega) (by omega) (by omega),hB.2 z hz]⟩;obtain⟨v,E,⟨g,hg⟩,rfl,kE⟩:=FZ (k:=k) (h.kp kAD) hn ht hp hl hsj;generalize s.arcs[j]=a at*;have nE:=kE.1;obtain⟨F,⟨gy,hy⟩,hI2,nF,fF⟩:=hc j a E hsj (hK _ _ _ hI kE) (by omega) (fun z hz h1 h2=>by rw [kE.2 z (by omega),hf z hz h1 h2]);have b1:=ld1 D (hf q v1.1 (by omega) (by omega));have b2:=ld2 D (hf (q+1) v2.1 (by omega) (by omega));have bd:=TC (m:=(a.to:Int)) (n:=(a.out:Int));unfold ri at hy;apply W.cN (g+gy) 20
   ·intro M hM;simp (disch:=first|decide+kernel|omega) only [tq,CC,qda,Aq,qal,g0,g1,g2,g11,g12,g13,hlt,i1,i2,b1,b2,hg,qau,qav,bd,hy];rfl
   refine⟨hlt,_,_,rfl,hI2,by omega,fun z hz h1 h2=>by rw [fF z (by omega) h1 h2,kE.2 z (by omega),hf z hz h1 h2],⟨(hR.kp kE).1.same nF fun hlt=>fF b hlt (by omega) (by omega),hR.2⟩,?_⟩;simp only [Sq,qal,qam,g0,g1,g2,g11,g12]
  ·have e:j=s.arcs.length:=by omega
   subst e;apply W.run 20
   ·intro M;simp (disch:=first|decide+kernel|omega) only [tq,CC,qda,Aq,qal,g12,g13];rfl
   exact⟨by simp,rfl,_,(by simp only [qda,Aq,qal]<;>rfl),hI,hn2,hf⟩
 ·simp only [Sq,qal,qam]
section
variable {T:Type} (o:aZ→T) (w:T→T→Nat→T) (z:T)
def jz (acc:List T) (s:aZ) (j:Nat):T:=(s.arcs.take j).foldl (fun x a=>w x (acc.getD a.to z) a.out) (o s)
def dp (M:List aZ):List T:=M.foldl (fun acc s=>acc++[jz o w z acc s s.arcs.length]) []
theorem KC (M:List aZ) (s:aZ):dp o w z (M++[s])=dp o w z M++[jz o w z (dp o w z M) s s.arcs.length]:=by unfold dp;rw [qcR];rfl
theorem mm (M:List aZ):(dp o w z M).length=M.length:=by
 have:∀(l:List aZ) (acc:List T),(l.foldl (fun acc s=>acc++[jz o w z acc s s.arcs.length]) acc).length=acc.length+l.length:=by
  intro l
  induction l with
  |nil=>intro acc;rfl
  |cons s l ih=>intro acc;rw [qbu,ih,qar,qaA,qaA,qaT];omega
 unfold dp;rw [this];simp
theorem pR {acc:List T} {s:aZ} {a:cJ} (h:s.arcs[j]?=some a):jz o w z acc s (j+1)=w (jz o w z acc s j) (acc.getD a.to z) a.out:=by
 obtain⟨hj,rfl⟩:=qap.1 h;unfold jz;rw [qaC hj,qcR];rfl
theorem Ae {s:aZ} (h:M[i]?=some s):dp o w z (M.take (i+1))=dp o w z (M.take i)++[jz o w z (dp o w z (M.take i)) s s.arcs.length]:=by
 obtain⟨hi,rfl⟩:=qap.1 h;rw [qaC hi,KC]
def j8 (M:List aZ) (i:Nat):List T:=dp o w z (M.take i)++qa7 (M.length-i) z
theorem se (h:i≤M.length):(j8 o w z M i).length=M.length:=by unfold j8;rw [qar,mm,qaE,qdc];omega
theorem JV (h:i≤M.length) (hk:k<i) (v:T):((j8 o w z M i).set i v)[k]?=some ((dp o w z (M.take i)).getD k z):=by
 have hl:=mm o w z (M.take i);rw [qaE,qbr h] at hl;rw [qbB,if_neg (by omega)];unfold j8;rw [qaJ (by omega),qan (by omega),qa9,qan (by omega)];rfl
theorem Bt {s:aZ} (h:M[i]?=some s):(j8 o w z M i).set i (jz o w z (dp o w z (M.take i)) s s.arcs.length)=j8 o w z M (i+1):=by
 have hi:=(qap.1 h).1;have hl:=mm o w z (M.take i);rw [qaE,qbr (by omega)] at hl;unfold j8;rw [Ae o w z h,qdd _ _ (by omega),hl,qbq,show M.length-i=(M.length-(i+1))+1 by omega,List.replicate_succ,List.set_cons_zero,qbh];rfl
end
theorem yG (l:List Value):∀n,qW l n=(qa7 n l).flatten
 |0=>rfl
 |n+1=>by
  show l++qW l n=_;rw [yG l n,List.replicate_succ,qb3]
def encI (v:Int):List Value:=[.int .i64 v]
def sZ (v:Int):Value:=.int .i64 v
def zI:Int:=0
theorem Mu:af.ba 337=some (.slice 3):=by kernel_rfl
theorem S_:aR af 337= .ok 1:=by kernel_rfl
theorem VU:aR af 3= .ok 1:=by kernel_rfl
theorem Zt (h:n≤1000000):eE af 337 (.int .i64 (n:Nat)) (.int .i64 (n:Nat))= .ok (aa 3 ((qa7 n zI).map encI).flatten,.mO n (2*n)):=by
 have h1:((af.ty.get 3).map fun i=>i.bytes)=some 8:=by kernel_rfl
 have z3:cm af 3= .ok (1,encI zI):=by kernel_rfl
 have e:kU (.int .i64 (n:Nat))= .ok n:=rfl;cases hq:af.ty.get 3 with
 |none=>rw [hq] at h1;cases h1
 |some i=>
  rw [hq] at h1;have h2:i.bytes=8:=by simpa using h1
  have hb:(qaq n n&&qaq n 1048576&&qaq i.bytes 1048576)=true:=by
   rw [h2];simp;omega
  unfold eE;simp only [Mu,e,R.aw,z3,hq,hb,cond_true,yG,List.map_replicate]
theorem Jq {vs:List Int} {x:Value} (h:az A 3 1 b (vs.map encI) x) (hi:i<vs.length):aU af 337 x (.int .i64 i)= .ok (pw b (i*1)):=az.idx h Mu VU (by rw [qas];exact hi)
theorem Vi {vs:List Int} {v:Int} {x:Value} (h:az A 3 1 b (vs.map encI) x) (hi:vs[i]?=some v):ag af A.get 3 (pw b (i*1))= .ok (sZ v):=by
 have:=az.load (tb:=af) (i:=i) (j:=0) h u3 rfl (by rw [qaN,hi];rfl) rfl (by omega);rwa [qa8] at this
theorem Yz {vs:List Int} {v:Int} {x:Value} (h:az A 3 1 b (vs.map encI) x) (hi:i<vs.length):∃A',aW af A 3 (pw b (i*1)) (sZ v)= .ok A'∧az A' 3 1 b ((vs.set i v).map encI) x∧A'.next=A.next∧∀y,y≠b→A'.get y=A.get y:=by
 have hm:(vs.map encI)[i]?=some (encI vs[i]):=by rw [qaN,qan hi];rfl
 obtain⟨A',h1,h2,h3,h4⟩:=az.field (tb:=af) (t:=3) (i:=i) (j:=0) (v:=sZ v) h VU hm (by omega) rfl rfl;refine⟨A',by rwa [qa8] at h1,?_,h3,h4⟩;rw [qeD];exact h2
structure dM where
 n:Nat
 fits:Bool
 any:Bool
def bT (m:dM):List Value:=[.int .u64 m.n,.bool m.fits,.bool m.any]
def kV (m:dM):Value:=.agg ⟨bT m⟩
def zG:dM:=⟨0,false,false⟩
theorem Mv:af.ba 343=some (.slice 282):=by kernel_rfl
theorem Ta:aR af 343= .ok 1:=by kernel_rfl
theorem vu:aR af 282= .ok 3:=by kernel_rfl
theorem HU (m:dM):∀v∈bT m,aJ v=true:=by simp [bT,aJ]
theorem Zs (h:n≤1000000):eE af 343 (.int .i64 (n:Nat)) (.int .i64 (n:Nat))= .ok (aa 282 ((qa7 n zG).map bT).flatten,.mO n (2*n)):=by
 have h1:((af.ty.get 282).map fun i=>i.bytes)=some 24:=by kernel_rfl
 have z3:cm af 282= .ok (3,bT zG):=by kernel_rfl
 have e:kU (.int .i64 (n:Nat))= .ok n:=rfl;cases hq:af.ty.get 282 with
 |none=>rw [hq] at h1;cases h1
 |some i=>
  rw [hq] at h1;have h2:i.bytes=24:=by simpa using h1
  have hb:(qaq n n&&qaq n 1048576&&qaq i.bytes 1048576)=true:=by
   rw [h2];simp;omega
  unfold eE;simp only [Mv,e,R.aw,z3,hq,hb,cond_true,yG,List.map_replicate]
theorem Jp {vs:List dM} {x:Value} (h:az A 282 3 b (vs.map bT) x) (hi:i<vs.length):aU af 343 x (.int .i64 i)= .ok (pw b (i*3)):=az.idx h Mv vu (by rw [qas];exact hi)
theorem Vh {vs:List dM} {v:dM} {x:Value} (h:az A 282 3 b (vs.map bT) x) (hi:vs[i]?=some v):ag af A.get 282 (pw b (i*3))= .ok (kV v):=by
 obtain⟨d,hd1,hd2⟩:=a8 (t:=282) (p:=true) (by kernel_rfl);exact az.aI h hd1 hd2 vu (by rw [qaN,hi];rfl)
theorem Yy {vs:List dM} {v:dM} {x:Value} (h:az A 282 3 b (vs.map bT) x) (hi:i<vs.length):∃A',aW af A 282 (pw b (i*3)) (kV v)= .ok A'∧az A' 282 3 b ((vs.set i v).map bT) x∧A'.next=A.next∧∀y,y≠b→A'.get y=A.get y:=by
 obtain⟨A',h1,h2,h3,h4⟩:=az.store (tb:=af) (t:=282) (i:=i) (l:=bT v) h vu (by omega) (by rw [qas];exact hi) rfl (HU v);refine⟨A',h1,?_,h3,h4⟩;rw [qeD];exact h2
noncomputable def kQ:Code:=qbY.body.getD .skip
noncomputable def dA:Code:=sub kQ [1,1,0,1,0,0]
theorem Q':qbY.body=some (.seq (sub kQ [0]) (.seq (sub kQ [1,0]) (.seq (.seq (sub kQ [1,1,0,0]) (.block 0 (.loop dA))) (.seq (sub kQ [1,1,1,0]) (.seq (sub kQ [1,1,1,1,0]) (sub kQ [1,1,1,1,1])))))):=by kernel_rfl
theorem KP:dA=(.seq (sub dA [0]) (.seq (sub dA [1,0]) (.seq (.block 1 (.seq (sub dA [1,1,0,0,0]) (.seq (sub dA [1,1,0,0,1,0]) (.seq (sub dA [1,1,0,0,1,1,0]) (.block 2 (.rangeFunc (.tmp 32) #[33,34] (sub dA [1,1,0,0,1,1,1,0,0]) (sub dA [1,1,0,0,1,1,1,0,1]))))))) (sub dA [1,1,1])))):=by kernel_rfl
noncomputable def gx (t:T Value) (d:Nat):f_:=iZ t 62 [33,34] (sub dA [1,1,0,0,1,1,1,0,0]) (sub dA [1,1,0,0,1,1,1,0,1]) d
def BY (o:aZ→Int) (w:Int→Int→Nat→Int) (M:List aZ) (i:Nat) (s:aZ) (ab lp:Nat) (x:Value) (L:f_) (j:Nat) (D:Mem):Prop:=
 az D 3 1 ab (((j8 o w zI M i).set i (jz o w zI (dp o w zI (M.take i)) s j)).map encI) x∧D.get lp=some (.loop L)∧lp<D.next
theorem Lg {o:aZ→Int} {w:Int→Int→Nat→Int} {s:aZ} {ab lp:Nat} {x:Value} {L:f_} (j:Nat) (D E:Mem) (h:BY o w M i s ab lp x L j D) (k:Kp D E):BY o w M i s ab lp x L j E:=
 ⟨h.1.same k.1 (k.2 ab),by rw [k.2 _ h.2.2];exact h.2.1,qaD h.2.2 k.1⟩
def B0 (fo:FuncId) (o:aZ→Int):Prop:=∀(D:Mem) (x:Value) (s:aZ),∃E,bg af fo [.agg ⟨cW x s⟩] D (sZ (o s)) E∧Kp D E
def rp (fw:FuncId) (o:aZ→Int) (w:Int→Int→Nat→Int) (M:List aZ):Prop:=∀(D:Mem) (i j:Nat) (s:aZ) (a:cJ),M[i]?=some s→s.arcs[j]?=some a→
 ∃E,bg af fw [sZ (jz o w zI (dp o w zI (M.take i)) s j),sZ ((dp o w zI (M.take i)).getD a.to zI),.int .u64 a.out] D (sZ (jz o w zI (dp o w zI (M.take i)) s (j+1))) E∧Kp D E
variable {fw:FuncId} {p d:Nat} {t:T Value}
theorem Wp {o:aZ→Int} {w:Int→Int→Nat→Int} {a lp:Nat} {s:aZ} {x:Value} (hW:rp fw o w M) (hi:M[i]?=some s) (ht:∀a∈s.arcs,a.to<i)
 (v7:VB B 337 (a+3) (.var 1) [x]) (v8:VB B 3 p (.var 1) [.int .i64 i]) (v5:VB B 278 (a+1) (.var 1) [.func (.func fw) ⟨[]⟩ ⟨[]⟩]) (hp:a+3<p∧p<lp∧lp<B.next)
 (hs:Sl t [(5,pV (a+1)),(7,pV (a+3)),(8,pV p)]):MO B (a+2) lp s (BY o w M i s (a+2) lp x (gx t d)):=by
 rintro j c D hj ⟨hA,hL,hlt⟩ hn hf;obtain⟨g5,g7,g8,-⟩:=hs;obtain⟨p1,p2,p3⟩:=hp;have hil:=(qap.1 hi).1;have hto:=ht c (qa0 hj);have hrl:=se o w zI (i:=i) (M:=M) (by omega);have sE:aW af (D.alloc (aa 342 [iN 0,uN 0])) 342 (pw D.next 0) (ri c)= .ok (D.alloc (aa 342 [.int .i64 c.to,.int .u64 c.out])):=bk (by kernel_rfl) rfl rfl (by simp) (by simp [aJ]);have z305:bS af 342= .ok (.agg ⟨[iN 0,uN 0]⟩):=by kernel_rfl
 have f0:∀b,av af 342 (pw b 0) 0= .ok (pw b 0):=fun b=>by kernel_rfl
 have f1:∀b,av af 342 (pw b 0) 1= .ok (pw b 1):=fun b=>by kernel_rfl
 have kE:=Kp.alloc D (aa 342 [.int .i64 c.to,.int .u64 c.out]);have vE:=ay D 342 [.int .i64 c.to,.int .u64 c.out];have nE:(D.alloc (aa 342 [.int .i64 c.to,.int .u64 c.out])).next=D.next+1:=ae _ _
 generalize D.alloc (aa 342 [.int .i64 c.to,.int .u64 c.out])=E at sE kE vE nE;have hLE:E.get lp=some (.loop (gx t d)):=by rw [kE.2 _ hlt];exact hL
 generalize hF:E.set lp (.loop {gx t d with state:=.busy})=F;have nF:F.next=E.next:=by rw [←hF];exact aO _ _ _
 have fF:∀z,z≠lp→F.get z=E.get z:=fun z hz=>by rw [←hF,aC,if_neg hz]
 have hLF:F.get lp=some (.loop {gx t d with state:=.busy}):=by rw [←hF,aC,if_pos rfl]
 have hBF:∀z,z<B.next→z≠a+2→z≠lp→F.get z=B.get z:=fun z hz h1 h2=>by rw [fF z h2,kE.2 z (by omega),hf z hz h1 h2]
 have hAF:=hA.same (A':=F) (by omega) fun hlt=>by rw [fF _ (by omega),kE.2 _ hlt]
 obtain⟨G,⟨g,hg⟩,kG⟩:=hW F i j s c hi hj;have mb:∀e z k l,VB B e z k l→z≠a+2→z≠lp→VB F e z k l:=fun e z k l h h1 h2=>⟨by have:=h.1;omega,h.2.same (hBF z h.1 h1 h2)⟩
 have w7:=mb _ _ _ _ v7 (by omega) (by omega);have w8:=mb _ _ _ _ v8 (by omega) (by omega);have w5:=mb _ _ _ _ v5 (by omega) (by omega);have l7:∀G,Kp F G→ag af G.get 337 (pw (a+3) 0)= .ok x:=fun G h=>(w7.kp h).ld rfl Mu rfl
 have l8:∀G,Kp F G→ag af G.get 3 (pw p 0)= .ok (.int .i64 i):=fun G h=>(w8.kp h).ld rfl u3 rfl
 have l5:ag af F.get 278 (pw (a+1) 0)= .ok (.func (.func fw) ⟨[]⟩ ⟨[]⟩):=by
  obtain⟨d,hd1,hd2⟩:=a8 (t:=278) (p:=false) (by kernel_rfl);exact w5.ld rfl hd1 hd2
 have r7:=l7 F (Kp.refl _);have r8:=l8 F (Kp.refl _);have r7':=l7 G kG;have r8':=l8 G kG;have vF:VB F 342 D.next (.var 2) [.int .i64 c.to,.int .u64 c.out]:=⟨by omega,vE.2.same (fF _ (by omega))⟩
 have e0:ag af F.get 3 (pw D.next 0)= .ok (.int .i64 c.to):=vF.ld rfl u3 rfl;have e1:ag af F.get 113 (pw D.next 1)= .ok (.int .u64 c.out):=vF.ld rfl fp rfl;have i1:=Jq hAF (i:=i) (by rw [qaQ];omega);have i2:=Jq hAF (i:=c.to) (by rw [qaQ];omega);have d1:=Vi hAF (i:=i) (by rw [qbB,if_pos rfl,if_pos (by omega)]);have d2:=Vi hAF (i:=c.to) (JV o w zI (by omega) hto _);have hAG:=hAF.same kG.1 (kG.2 _);obtain⟨H,sH,hAH,nH,fH⟩:=Yz (v:=jz o w zI (dp o w zI (M.take i)) s (j+1)) hAG (i:=i) (by rw [qaQ];omega);rw [List.set_set] at hAH;have nG:=kG.1;have hLH:H.get lp=some (.loop {gx t d with state:=.busy}):=by rw [fH _ (by omega),kG.2 _ (by omega)];exact hLF
 have sx:cG 100 x x=true:=(az.BR (by omega) hAF).self 99;have si:=eS .i64 i rfl;simp only [pV] at g5 g7 g8;have hq:∃C,(∃g,∀N,g≤N→bA af (exec af N) (.round lp [bN c.byte.toNat,ri c]) D= .ok (.val (.bool true) C))∧C=H.set lp (.loop (gx t d)):=by
  refine j7 hL (t:=(t.set 33 (bN c.byte.toNat)).set 34 (ri c)) rfl ?_;show W af (sub dA [1,1,0,0,1,1,1,0,0]) ⟨_,62,[],D,some lp⟩ _;apply W.run 20
  ·intro M;simp (disch:=first|decide+kernel|omega) only [dA,kQ,qbY,Aq,qal,z305,au,sE];rfl
  refine⟨rfl,_,hLE,rfl,?_⟩;show W af (sub dA [1,1,0,0,1,1,1,0,1]) ⟨_,62,[],E.set lp (.loop {gx t d with state:=.busy}),some lp⟩ _;rw [hF];apply W.cN (g) 20
  ·intro M hM;simp (config:={maxSteps:=4000000}) (disch:=first|decide+kernel|omega|simp only [Wq,qal]) only [dA,kQ,qbY,Aq,qaq,reduceIte,qal,qam,g5,g7,g8,r7,r8,r7',r8',l5,f0,f1,e0,e1,i1,i2,d1,d2,hg,sH,sx,si,Fq,aA [(0,14),(1,14)]];rfl
  exact⟨rfl,rfl,_,hLH,rfl⟩
 obtain⟨C,hc,rfl⟩:=hq;have fr:∀z,z≠lp→(H.set lp (.loop (gx t d))).get z=H.get z:=fun z hz=>by rw [aC,if_neg hz]
 have nr:(H.set lp (.loop (gx t d))).next=H.next:=aO _ _ _
 refine⟨_,hc,⟨hAH.same (by omega) fun _=>fr _ (by omega),by rw [aC,if_pos rfl],by omega⟩,by omega,fun z hz h1 h2=>?_⟩;rw [fr z h2,fH z h1,kG.2 z (by omega),fF z h2,kE.2 z hz]
def Gx (o:aZ→Int) (w:Int→Int→Nat→Int) (M:List aZ) (B:Mem) (a:Nat) (x:Value) (i:Nat) (D:Mem) (ds:List Nat):Prop:=
 az D 3 1 (a+2) ((j8 o w zI M i).map encI) x∧(∀z,z<B.next→z≠a+2→D.get z=B.get z)∧B.next≤D.next∧ds.Nodup∧∀d∈ds,B.next≤d∧d<D.next∧D.get d=some .defd
theorem ZN:bS af 337= .ok (.slice none 0 0):=by kernel_rfl
theorem Vy {fo:FuncId} {o:aZ→Int} {w:Int→Int→Nat→Int} {D:Mem} {k x:Value} {a:Nat} {s:aZ} {ds:List Nat} (h:dJ A M y) (hg:dg M) (hl:M.length<1000000) (hO:B0 fo o) (hW:rp fw o w M) (hi:M[i]?=some s)
 (hB:Kp A B) (ha:A.next=a∧B.next=a+3+1) (v3:VB B 115 a (.var 2) [y,k]) (v5:VB B 278 (a+1) (.var 1) [.func (.func fw) ⟨[]⟩ ⟨[]⟩]) (v7:VB B 337 (a+3) (.var 1) [x]) (hR:Gx o w M B a x i D ds)
 (hs:Sl t [(1,.func (.func fo) ⟨[]⟩ ⟨[]⟩),(3,pV a),(5,pV (a+1)),(6,iN 0),(7,pV (a+3)),(17,y),(18,iN M.length),(19,.int .i64 i)]):
 W af dA ⟨t,62,ds,D,none⟩ fun e s'=>e= .nrm∧∃t' D' d',s'=⟨t',62,d',D',none⟩∧Gx o w M B a x (i+1) D' d'∧
  Sl t' [(1,.func (.func fo) ⟨[]⟩ ⟨[]⟩),(3,pV a),(5,pV (a+1)),(6,iN 0),(7,pV (a+3)),(17,y),(18,iN M.length),(19,iN (i+1))]:=by
 obtain⟨hA,hf,hn,hnd,hds⟩:=hR;obtain⟨g1,g3,g5,g6,g7,g17,g18,g19,-⟩:=hs;obtain⟨ha1,ha2⟩:=ha;have hil:=(qap.1 hi).1;obtain⟨-,k2,k3,-,-⟩:=hg i s hi;have hfew:=np (hg i s hi);have hrl:=se o w zI (i:=i) (M:=M) (by omega);have kAD:Kp A D:=⟨by omega,fun z hz=>by rw [hf z (by omega) (by omega),hB.2 z hz]⟩;obtain⟨xs,p,q,i1,i2,hx,i4⟩:=(h.kp kAD).get hi;have i5:=(i4 D (Kp.refl _)).1;have k1:=Kp.alloc D (aa 3 [iN 0]);have n1:(D.alloc (aa 3 [iN 0])).next=D.next+1:=ae _ _
 have n2:((D.alloc (aa 3 [iN 0])).alloc (aa 186 [.slice none 0 0,.bool false,uN 0])).next=D.next+2:=by rw [ae,n1]
 have w1:=(ay D 3 [iN 0]).kp (Kp.alloc _ (aa 186 [.slice none 0 0,.bool false,uN 0]));have w2:=ay (D.alloc (aa 3 [iN 0])) 186 [.slice none 0 0,.bool false,uN 0];have k2':=k1.trans (Kp.alloc _ (aa 186 [.slice none 0 0,.bool false,uN 0]));rw [n1] at w2;obtain⟨E1,sE1,u1,m1,fE1⟩:=aL (tb:=af) (t:=3) (o:=0) (v:=.int .i64 i) VU w1.2 (by simp) rfl rfl;obtain⟨E,sE,u2,m2,fE⟩:=cY (tb:=af) (t:=186) (l':=cW xs s) (by exact jD) (w2.2.same (fE1 _ (by omega))) rfl (by simp) (DE hx);have hzero3:bS af 3= .ok (iN 0):=qA;have fED:∀z,z<D.next→E.get z=D.get z:=fun z hz=>by rw [fE z (by omega),fE1 z (by omega),k2'.2 z hz]
 have kDE:Kp D E:=⟨by omega,fED⟩;have V8:VB E 3 D.next (.var 1) [.int .i64 i]:=⟨by omega,u1.same (fE _ (by omega))⟩
 have V9:VB E 186 (D.next+1) (.var 3) (cW xs s):=⟨by omega,u2⟩;have mb:∀e z k l,VB B e z k l→z≠a+2→VB E e z k l:=fun e z k l h h1=>⟨by have:=h.1;omega,h.2.same (by rw [fED z (by have:=h.1;omega),hf z h.1 h1])⟩
 have V7:=mb _ _ _ _ v7 (by omega);have V3:=mb _ _ _ _ v3 (by omega);have V5:=mb _ _ _ _ v5 (by omega);have hAE:=hA.same kDE.1 (kDE.2 _);obtain⟨F,⟨gf,hgf⟩,kF⟩:=hO E xs s;obtain⟨d,hd1,hd2⟩:=a8 (t:=186) (p:=true) (by kernel_rfl);have l9:ag af E.get 186 (pw (D.next+1) 0)= .ok (.agg ⟨cW xs s⟩):=aI hd1 hd2 (l:=cW xs s) jD V9.2;have l7:∀G,Kp E G→ag af G.get 337 (pw (a+3) 0)= .ok x:=fun G h=>(V7.kp h).ld rfl Mu rfl
 have l8:∀G,Kp E G→ag af G.get 3 (pw D.next 0)= .ok (.int .i64 i):=fun G h=>(V8.kp h).ld rfl u3 rfl
 have r7:=l7 E (Kp.refl _);have r8:=l8 E (Kp.refl _);have r7':=l7 F kF;have r8':=l8 F kF;have ix:=Jq hAE (i:=i) (by omega);obtain⟨G,sG,hAG,nG,fG⟩:=Yz (v:=o s) (hAE.same kF.1 (kF.2 _)) (i:=i) (by omega);have sx:cG 100 x x=true:=(az.BR (by omega) hA).self 99;have si:=eS .i64 i rfl;have nF:=kF.1;have nE:E.next=D.next+2:=by omega
 have fGE:∀z,z<E.next→z≠a+2→G.get z=E.get z:=fun z hz h=>by rw [fG z h,kF.2 z hz]
 have lG8:ag af G.get 3 (pw D.next 0)= .ok (.int .i64 i):=aQ u3 rfl (V8.2.same (fGE _ (by omega) (by omega))) rfl;obtain⟨d2,hd3,hd4⟩:=a8 (t:=115) (p:=true) (by kernel_rfl);have lG3:ag af G.get 115 (pw a 0)= .ok (.agg ⟨[y,k]⟩):=aI hd3 hd4 (l:=[y,k]) du (V3.2.same (fGE _ (by omega) (by omega)));obtain⟨gw,hgw⟩:=yY (A:=G) (y:=y) (k:=k) (n:=i);have x1:=(ay G 115 [y,k]).kp (Kp.alloc _ (aa 3 [.int .i64 i]));have x2:=ay (G.alloc (aa 115 [y,k])) 3 [.int .i64 i];have y1:(G.alloc (aa 115 [y,k])).next=G.next+1:=ae _ _
 have y2:((G.alloc (aa 115 [y,k])).alloc (aa 3 [.int .i64 i])).next=G.next+2:=by rw [ae,y1]
 have kH:=(Kp.alloc G (aa 115 [y,k])).trans (Kp.alloc _ (aa 3 [.int .i64 i]));rw [y1] at x2;generalize (G.alloc (aa 115 [y,k])).alloc (aa 3 [.int .i64 i])=H at hgw x1 x2 y2 kH;simp only [pV] at g3 g5 g7 hgw;rw [KP];apply W.q
 ·intro M;simp (disch:=first|decide+kernel|omega) only [dA,kQ,qbY,Aq,qal,g18,g19,hil];rfl
 apply W.q
 ·intro M;simp (disch:=first|decide+kernel|omega) only [dA,kQ,qbY,Aq,qal];rfl
 apply W.seq;apply W.block;apply W.q
 ·intro M;simp (disch:=first|decide+kernel|omega) only [dA,kQ,qbY,Aq,qal,g17,g19,i1,i5,hzero3,jE,au,fh,n1,sE1,sE];rfl
 apply W.qG (gf)
 ·intro M hM;simp (config:={maxSteps:=4000000}) (disch:=first|decide+kernel|omega|simp only [Wq,qal]) only [dA,kQ,qbY,Aq,qaq,reduceIte,qal,qam,g1,g7,r7,r8,l9,hgf,ix,r7',r8',sx,si,sG,Fq,aA [(0,4),(1,4)]];rfl
 apply W.qG (gw)
 ·intro M hM;simp (disch:=first|decide+kernel|omega) only [dA,kQ,qbY,Aq,qal,g3,lG3,lG8,hgw];rfl
 apply W.block;generalize ht0:T.set _ _ _=t0;have hsl:Sl t0 [(1,.func (.func fo) ⟨[]⟩ ⟨[]⟩),(3,pV a),(5,pV (a+1)),(6,iN 0),(7,pV (a+3)),(8,pV D.next),(17,y),(18,iN M.length),(19,.int .i64 i),(32,.func (.func 279) ⟨[]⟩ ⟨[pV G.next,pV (G.next+1)]⟩)]:=by
  rw [←ht0];simp only [Sq,qal,qam,g1,g3,g5,g6,g7,g17,g18,g19,pV]
 clear ht0;obtain⟨h1,h3,h5,h6,h7,h8,h17,h18,h19,h32,-⟩:=hsl;have kJ:=(Kp.alloc H .defd).trans (Kp.alloc (H.alloc .defd) (.loop (gx t0 H.next)));have nJ1:(H.alloc .defd).next=H.next+1:=ae _ _
 have nJ:((H.alloc .defd).alloc (.loop (gx t0 H.next))).next=H.next+2:=by rw [ae,nJ1]
 have jL:((H.alloc .defd).alloc (.loop (gx t0 H.next))).get (H.next+1)=some (.loop (gx t0 H.next)):=by have:=ax (H.alloc .defd) (.loop (gx t0 H.next));rwa [nJ1] at this
 have jM:((H.alloc .defd).alloc (.loop (gx t0 H.next))).get H.next=some .defd:=by rw [(Kp.alloc (H.alloc .defd) _).2 _ (by omega)];exact ax H .defd
 generalize hJ:(H.alloc .defd).alloc (.loop (gx t0 H.next))=J at kJ nJ jL jM;have kGJ:=kH.trans kJ;have toJ:∀e z k l,VB E e z k l→z≠a+2→VB J e z k l:=fun e z k l h h1=>VB.kp (A:=G) ⟨by have:=h.1;omega,h.2.same (fGE z h.1 h1)⟩ kGJ
 have hJA:BY o w M i s (a+2) (H.next+1) x (gx t0 H.next) 0 J:=⟨hAG.same kGJ.1 (kGJ.2 _),jL,by omega⟩;have fJD:∀z,z<D.next→z≠a+2→J.get z=D.get z:=fun z hz h=>by rw [kGJ.2 z (by omega),fGE z (by omega) h,fED z hz]
 have kAJ:Kp A J:=⟨by omega,fun z hz=>by rw [fJD z (by omega) (by omega),kAD.2 z hz]⟩;obtain⟨v,C,hC,⟨c1,c2,c3⟩,nC,fC⟩:=F0 (A:=A) (B:=J) (q:=G.next) (ab:=a+2) (lp:=H.next+1) (k:=k) h hi k3 k2 hfew hl kAJ (x1.kp kJ) (x2.kp kJ) ⟨by omega,by omega,by omega,by omega,by omega,by omega,by omega,by omega⟩ Lg
  (Wp hW hi k3 (toJ _ _ _ _ V7 (by omega)) (toJ _ _ _ _ V8 (by omega)) (toJ _ _ _ _ V5 (by omega)) ⟨by omega,by omega,by omega⟩ ⟨h5,h7,h8,trivial⟩) hJA
 refine W.Dp (fid:=279) (first:=[]) (capt:=[pV G.next,pV (G.next+1)]) (v:=v) (A':=C) (r:=gx t0 H.next) (e:=.nrm) (by simp only [ev,h32]) (by show bg af 279 _ ((H.alloc .defd).alloc (.loop (gx t0 H.next))) v C;rw [hJ];exact hC) c2 (by simp [gx,iZ]) (.inl ⟨rfl,rfl⟩) ?_;have c1:az C 3 1 (a+2) ((j8 o w zI M (i+1)).map encI) x:=by rw [←Bt o w zI hi];exact c1
 generalize hK:C.set (H.next+1) (.loop {gx t0 H.next with state:=.exhausted})=K;have nK:K.next=C.next:=by rw [←hK];exact aO _ _ _
 have fK:∀z,z≠H.next+1→K.get z=C.get z:=fun z hz=>by rw [←hK,aC,if_neg hz]
 show W af (sub dA [1,1,1]) _ _;apply W.run 20
 ·intro M;simp (disch:=first|decide+kernel|omega) only [dA,kQ,qbY,Aq,qal,h19];rfl
 have hJK:∀z,z<J.next→z≠a+2→z≠H.next+1→K.get z=J.get z:=fun z hz h1 h2=>by rw [fK z h2,fC z hz h1 h2]
 refine⟨rfl,_,K,_,rfl,⟨c1.same (by omega) fun _=>fK _ (by omega),fun z hz h1=>by rw [hJK z (by omega) h1 (by omega),fJD z (by omega) h1,hf z hz h1],by omega,qee.2 ⟨fun hm=>?_,hnd⟩,fun d hd=>?_⟩,?_⟩
 ·have:=hds _ hm;omega
 ·rcases qaK.1 hd with rfl|hd
  ·exact⟨by omega,by omega,by rw [hJK _ (by omega) (by omega) (by omega),jM]⟩
  ·obtain⟨e1,e2,e3⟩:=hds d hd;exact⟨e1,by omega,by rw [hJK _ (by omega) (by omega) (by omega),fJD _ e2 (by omega),e3]⟩
 ·simp only [Sq,qal,qam,h1,h3,h5,h6,h7,h17,h18,pV]
theorem yT {fo:FuncId} {o:aZ→Int} {w:Int→Int→Nat→Int} {k:Value} (h:dJ A M y) (hg:dg M) (hM:M≠ []) (hl:M.length<1000000) (hO:B0 fo o) (hW:rp fw o w M):
 ∃v A',bg af 192 [.agg ⟨[y,k]⟩,.func (.func fo) ⟨[]⟩ ⟨[]⟩,.func (.func fw) ⟨[]⟩ ⟨[]⟩] A v A'∧v=sZ ((dp o w zI M).getD (M.length-1) zI)∧Kp A A':=by
 refine eL (aq Tryz.func192) Q' (by rw [Tryz.ntmps192];simp) (by kernel_rfl) (by kernel_rfl) ?_;generalize ha:A.next=a
 have hpos:=qa6.2 hM;have n1:(A.alloc (aa 115 [y,k])).next=a+1:=by rw [ae,ha]
 have n2:((A.alloc (aa 115 [y,k])).alloc (aa 278 [.func (.func fw) ⟨[]⟩ ⟨[]⟩])).next=a+2:=by rw [ae,n1]
 have kB:=(Kp.alloc A (aa 115 [y,k])).trans (Kp.alloc _ (aa 278 [.func (.func fw) ⟨[]⟩ ⟨[]⟩]));have v3:=(ay A 115 [y,k]).kp (Kp.alloc _ (aa 278 [.func (.func fw) ⟨[]⟩ ⟨[]⟩]));have v5:=ay (A.alloc (aa 115 [y,k])) 278 [.func (.func fw) ⟨[]⟩ ⟨[]⟩];rw [ha] at v3;rw [n1] at v5;apply W.q
 ·intro M;simp (disch:=first|decide+kernel|omega) only [kQ,qbY,Aq,qal,au,eA,ha,n1];rfl
 generalize (A.alloc (aa 115 [y,k])).alloc (aa 278 [.func (.func fw) ⟨[]⟩ ⟨[]⟩])=B at*;have hS:=h.kp kB;have lB:ag af B.get 112 (pw a 0)= .ok y:=v3.ld rfl fy rfl;have bX:=hS.len;have mk:=Zt (n:=M.length) (by omega);have nB:B.next=a+2:=by assumption
 have n4:(B.alloc (aa 3 ((qa7 M.length zI).map encI).flatten)).next=a+3:=by rw [ae,nB]
 have kC:=(Kp.alloc B (aa 3 ((qa7 M.length zI).map encI).flatten)).trans (Kp.alloc _ (aa 337 [.slice (some ⟨a+2,0,none⟩) M.length (2*M.length)]));have vr:=(ay B 3 ((qa7 M.length zI).map encI).flatten).kp (Kp.alloc _ (aa 337 [.slice (some ⟨a+2,0,none⟩) M.length (2*M.length)]));have v7:=ay (B.alloc (aa 3 ((qa7 M.length zI).map encI).flatten)) 337 [.slice (some ⟨a+2,0,none⟩) M.length (2*M.length)];have sC:aW af ((B.alloc (aa 3 ((qa7 M.length zI).map encI).flatten)).alloc (aa 337 [.slice none 0 0])) 337 (pw ((B.alloc (aa 3 ((qa7 M.length zI).map encI).flatten)).next) 0) (.slice (some ⟨a+2,0,none⟩) M.length (2*M.length))= .ok _:=bk (l':=[.slice (some ⟨a+2,0,none⟩) M.length (2*M.length)]) S_ rfl rfl (by simp) (by simp [aJ]);have nC:((B.alloc (aa 3 ((qa7 M.length zI).map encI).flatten)).alloc (aa 337 [.slice (some ⟨a+2,0,none⟩) M.length (2*M.length)])).next=a+3+1:=by rw [ae,n4]
 rw [n4] at v7 sC;rw [nB] at vr;apply W.q
 ·intro M;simp (disch:=first|decide+kernel|omega) only [kQ,qbY,Aq,qal,ed,lB,bX,mk,nB,ZN,n4,sC];rfl
 generalize (B.alloc (aa 3 ((qa7 M.length zI).map encI).flatten)).alloc (aa 337 [.slice (some ⟨a+2,0,none⟩) M.length (2*M.length)])=C at*;have kAC:=kB.trans kC;have hSC:=h.kp kAC;have v3:=v3.kp kC;have v5:=v5.kp kC;have lC:ag af C.get 112 (pw a 0)= .ok y:=v3.ld rfl fy rfl;have lenC:=hSC.len;have r0:j8 o w zI M 0=qa7 M.length zI:=by unfold j8;rw [qcy];rfl
 have hA0:az C 3 1 (a+2) ((j8 o w zI M 0).map encI) (.slice (some ⟨a+2,0,none⟩) M.length (2*M.length)):=by
  rw [r0];exact .inr ⟨_,_,by rw [qas,qdc],vr.1,vr.2,fun l hl=>by
   obtain⟨_,_,rfl⟩:=qa3.1 hl;rfl,.inl (by rw [qas,qdc])⟩
 apply W.seq;apply W.q
 ·intro M;simp (disch:=first|decide+kernel|omega) only [kQ,qbY,Aq,qal,ed,lC,lenC];rfl
 apply W.block;refine W.Z0 M.length (fun i t D ds=>Gx o w M C a (.slice (some ⟨a+2,0,none⟩) M.length (2*M.length)) i D ds∧Sl t [(1,.func (.func fo) ⟨[]⟩ ⟨[]⟩),(3,pV a),(5,pV (a+1)),(6,iN 0),(7,pV (a+3)),(17,y),(18,iN M.length),(19,.int .i64 i)]) ?_ (qaB _) ⟨⟨hA0,fun _ _ _=>rfl,qao _,qc4,fun d hd=>by cases hd⟩,?_⟩
 ·rintro i t D ds hi ⟨hR,hs⟩;by_cases hlt:i<M.length
  ·refine(Vy h hg hl hO hW (qan hlt) kAC ⟨ha,nC⟩ v3 v5 v7 hR hs).mono ?_;rintro e s' ⟨rfl,t',D',d',rfl,hR',hs'⟩;exact⟨hlt,t',D',d',rfl,hR',hs'⟩
  ·have e:i=M.length:=by omega
   subst e;obtain⟨hA,hf,hn,hnd,hds⟩:=hR;obtain⟨g1,g3,g5,g6,g7,g17,g18,g19,-⟩:=hs;have rl:j8 o w zI M M.length=dp o w zI M:=by unfold j8;rw [qbq,qaR,List.replicate_zero,qbt]
   rw [rl] at hA;have hal:=mm o w zI M;have l7:ag af D.get 337 (pw (a+3) 0)= .ok (.slice (some ⟨a+2,0,none⟩) M.length (2*M.length)):=aQ Mu rfl (v7.2.same (hf _ (by omega) (by omega))) rfl;have ll:aN af .len [337] [.slice (some ⟨a+2,0,none⟩) M.length (2*M.length)]= .ok (iN M.length):=eu Mu;have ix:=Jq hA (i:=M.length-1) (by omega);have ld:=Vi hA (i:=M.length-1) (v:=(dp o w zI M).getD (M.length-1) zI) (by rw [qa9,qan (by omega)];rfl);have s1:aM .sub .i64 ((M.length:Nat):Int) ((1:Nat):Int)= .ok (iN (M.length-1)):=br (by omega) (aV (by omega));simp only [pV] at g6 g7;apply W.run 20
   ·intro M;simp (disch:=first|decide+kernel|omega) only [dA,kQ,qbY,Aq,qal,g18,g19];rfl
   apply W.q
   ·intro M;simp (disch:=first|decide+kernel|omega) only [kQ,qbY,Aq,qal,g6,g7,l7,ll,cT,bY,hpos,s1,ix,ld];rfl
   apply W.q
   ·intro M;simp (disch:=first|decide+kernel|omega) only [kQ,qbY,Aq,qal,g6];rfl
   apply W.run 20
   ·intro M;simp (disch:=first|decide+kernel|omega) only [kQ,qbY,Aq,qal];rfl
   obtain⟨I,t1,t2,t3⟩:=fX ds D hnd (fun d hd=>(hds d hd).2.2);refine⟨.inr rfl,I,_,t1,(by simp only [qbY,Aq,qal]<;>rfl),rfl,by omega,fun z hz=>?_⟩;rw [t3 z (fun hm=>by have:=(hds z hm).1;omega),hf z (by omega) (by omega),kAC.2 z (by omega)]
 ·simp only [Sq,qal,qam,pV]
noncomputable def kR:Code:=qbZ.body.getD .skip
noncomputable def dD:Code:=sub kR [1,1,0,1,0,0]
theorem Ra:qbZ.body=some (.seq (sub kR [0]) (.seq (sub kR [1,0]) (.seq (.seq (sub kR [1,1,0,0]) (.block 0 (.loop dD))) (.seq (sub kR [1,1,1,0]) (.seq (sub kR [1,1,1,1,0]) (sub kR [1,1,1,1,1])))))):=by kernel_rfl
theorem KQ:dD=(.seq (sub dD [0]) (.seq (sub dD [1,0]) (.seq (.block 1 (.seq (sub dD [1,1,0,0,0]) (.seq (sub dD [1,1,0,0,1,0]) (.seq (sub dD [1,1,0,0,1,1,0]) (.block 2 (.rangeFunc (.tmp 32) #[33,34] (sub dD [1,1,0,0,1,1,1,0,0]) (sub dD [1,1,0,0,1,1,1,0,1]))))))) (sub dD [1,1,1])))):=by kernel_rfl
noncomputable def gA (t:T Value) (d:Nat):f_:=iZ t 62 [33,34] (sub dD [1,1,0,0,1,1,1,0,0]) (sub dD [1,1,0,0,1,1,1,0,1]) d
def BZ (o:aZ→dM) (w:dM→dM→Nat→dM) (M:List aZ) (i:Nat) (s:aZ) (ab lp:Nat) (x:Value) (L:f_) (j:Nat) (D:Mem):Prop:=
 az D 282 3 ab (((j8 o w zG M i).set i (jz o w zG (dp o w zG (M.take i)) s j)).map bT) x∧D.get lp=some (.loop L)∧lp<D.next
theorem Lh {o:aZ→dM} {w:dM→dM→Nat→dM} {s:aZ} {ab lp:Nat} {x:Value} {L:f_} (j:Nat) (D E:Mem) (h:BZ o w M i s ab lp x L j D) (k:Kp D E):BZ o w M i s ab lp x L j E:=
 ⟨h.1.same k.1 (k.2 ab),by rw [k.2 _ h.2.2];exact h.2.1,qaD h.2.2 k.1⟩
def Gw (fo:FuncId) (o:aZ→dM):Prop:=∀(D:Mem) (x:Value) (s:aZ),∃E,bg af fo [.agg ⟨cW x s⟩] D (kV (o s)) E∧Kp D E
def vR (fw:FuncId) (o:aZ→dM) (w:dM→dM→Nat→dM) (M:List aZ):Prop:=∀(D:Mem) (i j:Nat) (s:aZ) (a:cJ),M[i]?=some s→s.arcs[j]?=some a→
 ∃E,bg af fw [kV (jz o w zG (dp o w zG (M.take i)) s j),kV ((dp o w zG (M.take i)).getD a.to zG),.int .u64 a.out] D (kV (jz o w zG (dp o w zG (M.take i)) s (j+1))) E∧Kp D E
theorem Ws {o:aZ→dM} {w:dM→dM→Nat→dM} {a lp:Nat} {s:aZ} {x:Value} (hW:vR fw o w M) (hi:M[i]?=some s) (ht:∀a∈s.arcs,a.to<i)
 (v7:VB B 343 (a+4) (.var 1) [x]) (v8:VB B 3 p (.var 1) [.int .i64 i]) (v5:VB B 287 (a+1) (.var 1) [.func (.func fw) ⟨[]⟩ ⟨[]⟩]) (hp:a+4<p∧p<lp∧lp<B.next)
 (hs:Sl t [(5,pV (a+1)),(7,pV (a+4)),(8,pV p)]):MO B (a+3) lp s (BZ o w M i s (a+3) lp x (gA t d)):=by
 rintro j c D hj ⟨hA,hL,hlt⟩ hn hf;obtain⟨g5,g7,g8,-⟩:=hs;obtain⟨p1,p2,p3⟩:=hp;have hil:=(qap.1 hi).1;have hto:=ht c (qa0 hj);have hrl:=se o w zG (i:=i) (M:=M) (by omega);have sE:aW af (D.alloc (aa 342 [iN 0,uN 0])) 342 (pw D.next 0) (ri c)= .ok (D.alloc (aa 342 [.int .i64 c.to,.int .u64 c.out])):=bk (by kernel_rfl) rfl rfl (by simp) (by simp [aJ]);have z305:bS af 342= .ok (.agg ⟨[iN 0,uN 0]⟩):=by kernel_rfl
 have f0:∀b,av af 342 (pw b 0) 0= .ok (pw b 0):=fun b=>by kernel_rfl
 have f1:∀b,av af 342 (pw b 0) 1= .ok (pw b 1):=fun b=>by kernel_rfl
 have kE:=Kp.alloc D (aa 342 [.int .i64 c.to,.int .u64 c.out]);have vE:=ay D 342 [.int .i64 c.to,.int .u64 c.out];have nE:(D.alloc (aa 342 [.int .i64 c.to,.int .u64 c.out])).next=D.next+1:=ae _ _
 generalize D.alloc (aa 342 [.int .i64 c.to,.int .u64 c.out])=E at sE kE vE nE;have hLE:E.get lp=some (.loop (gA t d)):=by rw [kE.2 _ hlt];exact hL
 generalize hF:E.set lp (.loop {gA t d with state:=.busy})=F;have nF:F.next=E.next:=by rw [←hF];exact aO _ _ _
 have fF:∀z,z≠lp→F.get z=E.get z:=fun z hz=>by rw [←hF,aC,if_neg hz]
 have hLF:F.get lp=some (.loop {gA t d with state:=.busy}):=by rw [←hF,aC,if_pos rfl]
 have hBF:∀z,z<B.next→z≠a+3→z≠lp→F.get z=B.get z:=fun z hz h1 h2=>by rw [fF z h2,kE.2 z (by omega),hf z hz h1 h2]
 have hAF:=hA.same (A':=F) (by omega) fun hlt=>by rw [fF _ (by omega),kE.2 _ hlt]
 obtain⟨G,⟨g,hg⟩,kG⟩:=hW F i j s c hi hj;have mb:∀e z k l,VB B e z k l→z≠a+3→z≠lp→VB F e z k l:=fun e z k l h h1 h2=>⟨by have:=h.1;omega,h.2.same (hBF z h.1 h1 h2)⟩
 have w7:=mb _ _ _ _ v7 (by omega) (by omega);have w8:=mb _ _ _ _ v8 (by omega) (by omega);have w5:=mb _ _ _ _ v5 (by omega) (by omega);have l7:∀G,Kp F G→ag af G.get 343 (pw (a+4) 0)= .ok x:=fun G h=>(w7.kp h).ld rfl Mv rfl
 have l8:∀G,Kp F G→ag af G.get 3 (pw p 0)= .ok (.int .i64 i):=fun G h=>(w8.kp h).ld rfl u3 rfl
 have l5:ag af F.get 287 (pw (a+1) 0)= .ok (.func (.func fw) ⟨[]⟩ ⟨[]⟩):=by
  obtain⟨d,hd1,hd2⟩:=a8 (t:=287) (p:=false) (by kernel_rfl);exact w5.ld rfl hd1 hd2
 have r7:=l7 F (Kp.refl _);have r8:=l8 F (Kp.refl _);have r7':=l7 G kG;have r8':=l8 G kG;have vF:VB F 342 D.next (.var 2) [.int .i64 c.to,.int .u64 c.out]:=⟨by omega,vE.2.same (fF _ (by omega))⟩
 have e0:ag af F.get 3 (pw D.next 0)= .ok (.int .i64 c.to):=vF.ld rfl u3 rfl;have e1:ag af F.get 113 (pw D.next 1)= .ok (.int .u64 c.out):=vF.ld rfl fp rfl;have i1:=Jp hAF (i:=i) (by rw [qaQ];omega);have i2:=Jp hAF (i:=c.to) (by rw [qaQ];omega);have d1:=Vh hAF (i:=i) (by rw [qbB,if_pos rfl,if_pos (by omega)]);have d2:=Vh hAF (i:=c.to) (JV o w zG (by omega) hto _);have hAG:=hAF.same kG.1 (kG.2 _);obtain⟨H,sH,hAH,nH,fH⟩:=Yy (v:=jz o w zG (dp o w zG (M.take i)) s (j+1)) hAG (i:=i) (by rw [qaQ];omega);rw [List.set_set] at hAH;have nG:=kG.1;have hLH:H.get lp=some (.loop {gA t d with state:=.busy}):=by rw [fH _ (by omega),kG.2 _ (by omega)];exact hLF
 have sx:cG 100 x x=true:=(az.BR (by omega) hAF).self 99;have si:=eS .i64 i rfl;simp only [pV] at g5 g7 g8;have hq:∃C,(∃g,∀N,g≤N→bA af (exec af N) (.round lp [bN c.byte.toNat,ri c]) D= .ok (.val (.bool true) C))∧C=H.set lp (.loop (gA t d)):=by
  refine j7 hL (t:=(t.set 33 (bN c.byte.toNat)).set 34 (ri c)) rfl ?_;show W af (sub dD [1,1,0,0,1,1,1,0,0]) ⟨_,62,[],D,some lp⟩ _;apply W.run 20
  ·intro M;simp (disch:=first|decide+kernel|omega) only [dD,kR,qbZ,Aq,qal,z305,au,sE];rfl
  refine⟨rfl,_,hLE,rfl,?_⟩;show W af (sub dD [1,1,0,0,1,1,1,0,1]) ⟨_,62,[],E.set lp (.loop {gA t d with state:=.busy}),some lp⟩ _;rw [hF];apply W.cN (g) 20
  ·intro M hM;simp (config:={maxSteps:=4000000}) (disch:=first|decide+kernel|omega|simp only [Wq,qal]) only [dD,kR,qbZ,Aq,qaq,reduceIte,qal,qam,g5,g7,g8,r7,r8,r7',r8',l5,f0,f1,e0,e1,i1,i2,d1,d2,hg,sH,sx,si,Fq,aA [(0,14),(1,14)]];rfl
  exact⟨rfl,rfl,_,hLH,rfl⟩
 obtain⟨C,hc,rfl⟩:=hq;have fr:∀z,z≠lp→(H.set lp (.loop (gA t d))).get z=H.get z:=fun z hz=>by rw [aC,if_neg hz]
 have nr:(H.set lp (.loop (gA t d))).next=H.next:=aO _ _ _
 refine⟨_,hc,⟨hAH.same (by omega) fun _=>fr _ (by omega),by rw [aC,if_pos rfl],by omega⟩,by omega,fun z hz h1 h2=>?_⟩;rw [fr z h2,fH z h1,kG.2 z (by omega),fF z h2,kE.2 z hz]
def Gy (o:aZ→dM) (w:dM→dM→Nat→dM) (M:List aZ) (B:Mem) (a:Nat) (x:Value) (i:Nat) (D:Mem) (ds:List Nat):Prop:=
 az D 282 3 (a+3) ((j8 o w zG M i).map bT) x∧(∀z,z<B.next→z≠a+3→D.get z=B.get z)∧B.next≤D.next∧ds.Nodup∧∀d∈ds,B.next≤d∧d<D.next∧D.get d=some .defd
theorem ZO:bS af 343= .ok (.slice none 0 0):=by kernel_rfl
theorem Vz {fo:FuncId} {o:aZ→dM} {w:dM→dM→Nat→dM} {D:Mem} {k x:Value} {a:Nat} {s:aZ} {ds:List Nat} (h:dJ A M y) (hg:dg M) (hl:M.length<1000000) (hO:Gw fo o) (hW:vR fw o w M) (hi:M[i]?=some s)
 (hB:Kp A B) (ha:A.next=a∧B.next=a+4+1) (v3:VB B 115 a (.var 2) [y,k]) (v5:VB B 287 (a+1) (.var 1) [.func (.func fw) ⟨[]⟩ ⟨[]⟩]) (v7:VB B 343 (a+4) (.var 1) [x]) (hR:Gy o w M B a x i D ds)
 (hs:Sl t [(1,.func (.func fo) ⟨[]⟩ ⟨[]⟩),(3,pV a),(5,pV (a+1)),(6,pV (a+2)),(7,pV (a+4)),(17,y),(18,iN M.length),(19,.int .i64 i)]):
 W af dD ⟨t,62,ds,D,none⟩ fun e s'=>e= .nrm∧∃t' D' d',s'=⟨t',62,d',D',none⟩∧Gy o w M B a x (i+1) D' d'∧
  Sl t' [(1,.func (.func fo) ⟨[]⟩ ⟨[]⟩),(3,pV a),(5,pV (a+1)),(6,pV (a+2)),(7,pV (a+4)),(17,y),(18,iN M.length),(19,iN (i+1))]:=by
 obtain⟨hA,hf,hn,hnd,hds⟩:=hR;obtain⟨g1,g3,g5,g6,g7,g17,g18,g19,-⟩:=hs;obtain⟨ha1,ha2⟩:=ha;have hil:=(qap.1 hi).1;obtain⟨-,k2,k3,-,-⟩:=hg i s hi;have hfew:=np (hg i s hi);have hrl:=se o w zG (i:=i) (M:=M) (by omega);have kAD:Kp A D:=⟨by omega,fun z hz=>by rw [hf z (by omega) (by omega),hB.2 z hz]⟩;obtain⟨xs,p,q,i1,i2,hx,i4⟩:=(h.kp kAD).get hi;have i5:=(i4 D (Kp.refl _)).1;have k1:=Kp.alloc D (aa 3 [iN 0]);have n1:(D.alloc (aa 3 [iN 0])).next=D.next+1:=ae _ _
 have n2:((D.alloc (aa 3 [iN 0])).alloc (aa 186 [.slice none 0 0,.bool false,uN 0])).next=D.next+2:=by rw [ae,n1]
 have w1:=(ay D 3 [iN 0]).kp (Kp.alloc _ (aa 186 [.slice none 0 0,.bool false,uN 0]));have w2:=ay (D.alloc (aa 3 [iN 0])) 186 [.slice none 0 0,.bool false,uN 0];have k2':=k1.trans (Kp.alloc _ (aa 186 [.slice none 0 0,.bool false,uN 0]));rw [n1] at w2;obtain⟨E1,sE1,u1,m1,fE1⟩:=aL (tb:=af) (t:=3) (o:=0) (v:=.int .i64 i) VU w1.2 (by simp) rfl rfl;obtain⟨E,sE,u2,m2,fE⟩:=cY (tb:=af) (t:=186) (l':=cW xs s) (by exact jD) (w2.2.same (fE1 _ (by omega))) rfl (by simp) (DE hx);have hzero3:bS af 3= .ok (iN 0):=qA;have fED:∀z,z<D.next→E.get z=D.get z:=fun z hz=>by rw [fE z (by omega),fE1 z (by omega),k2'.2 z hz]
 have kDE:Kp D E:=⟨by omega,fED⟩;have V8:VB E 3 D.next (.var 1) [.int .i64 i]:=⟨by omega,u1.same (fE _ (by omega))⟩
 have V9:VB E 186 (D.next+1) (.var 3) (cW xs s):=⟨by omega,u2⟩;have mb:∀e z k l,VB B e z k l→z≠a+3→VB E e z k l:=fun e z k l h h1=>⟨by have:=h.1;omega,h.2.same (by rw [fED z (by have:=h.1;omega),hf z h.1 h1])⟩
 have V7:=mb _ _ _ _ v7 (by omega);have V3:=mb _ _ _ _ v3 (by omega);have V5:=mb _ _ _ _ v5 (by omega);have hAE:=hA.same kDE.1 (kDE.2 _);obtain⟨F,⟨gf,hgf⟩,kF⟩:=hO E xs s;obtain⟨d,hd1,hd2⟩:=a8 (t:=186) (p:=true) (by kernel_rfl);have l9:ag af E.get 186 (pw (D.next+1) 0)= .ok (.agg ⟨cW xs s⟩):=aI hd1 hd2 (l:=cW xs s) jD V9.2;have l7:∀G,Kp E G→ag af G.get 343 (pw (a+4) 0)= .ok x:=fun G h=>(V7.kp h).ld rfl Mv rfl
 have l8:∀G,Kp E G→ag af G.get 3 (pw D.next 0)= .ok (.int .i64 i):=fun G h=>(V8.kp h).ld rfl u3 rfl
 have r7:=l7 E (Kp.refl _);have r8:=l8 E (Kp.refl _);have r7':=l7 F kF;have r8':=l8 F kF;have ix:=Jp hAE (i:=i) (by omega);obtain⟨G,sG,hAG,nG,fG⟩:=Yy (v:=o s) (hAE.same kF.1 (kF.2 _)) (i:=i) (by omega);have sx:cG 100 x x=true:=(az.BR (by omega) hA).self 99;have si:=eS .i64 i rfl;have nF:=kF.1;have nE:E.next=D.next+2:=by omega
 have fGE:∀z,z<E.next→z≠a+3→G.get z=E.get z:=fun z hz h=>by rw [fG z h,kF.2 z hz]
 have lG8:ag af G.get 3 (pw D.next 0)= .ok (.int .i64 i):=aQ u3 rfl (V8.2.same (fGE _ (by omega) (by omega))) rfl;obtain⟨d2,hd3,hd4⟩:=a8 (t:=115) (p:=true) (by kernel_rfl);have lG3:ag af G.get 115 (pw a 0)= .ok (.agg ⟨[y,k]⟩):=aI hd3 hd4 (l:=[y,k]) du (V3.2.same (fGE _ (by omega) (by omega)));obtain⟨gw,hgw⟩:=yY (A:=G) (y:=y) (k:=k) (n:=i);have x1:=(ay G 115 [y,k]).kp (Kp.alloc _ (aa 3 [.int .i64 i]));have x2:=ay (G.alloc (aa 115 [y,k])) 3 [.int .i64 i];have y1:(G.alloc (aa 115 [y,k])).next=G.next+1:=ae _ _
 have y2:((G.alloc (aa 115 [y,k])).alloc (aa 3 [.int .i64 i])).next=G.next+2:=by rw [ae,y1]
 have kH:=(Kp.alloc G (aa 115 [y,k])).trans (Kp.alloc _ (aa 3 [.int .i64 i]));rw [y1] at x2;generalize (G.alloc (aa 115 [y,k])).alloc (aa 3 [.int .i64 i])=H at hgw x1 x2 y2 kH;simp only [pV] at g3 g5 g7 hgw;rw [KQ];apply W.q
 ·intro M;simp (disch:=first|decide+kernel|omega) only [dD,kR,qbZ,Aq,qal,g18,g19,hil];rfl
 apply W.q
 ·intro M;simp (disch:=first|decide+kernel|omega) only [dD,kR,qbZ,Aq,qal];rfl
 apply W.seq;apply W.block;apply W.q
 ·intro M;simp (disch:=first|decide+kernel|omega) only [dD,kR,qbZ,Aq,qal,g17,g19,i1,i5,hzero3,jE,au,fh,n1,sE1,sE];rfl
 apply W.qG (gf)
 ·intro M hM;simp (config:={maxSteps:=4000000}) (disch:=first|decide+kernel|omega|simp only [Wq,qal]) only [dD,kR,qbZ,Aq,qaq,reduceIte,qal,qam,g1,g7,r7,r8,l9,hgf,ix,r7',r8',sx,si,sG,Fq,aA [(0,4),(1,4)]];rfl
 apply W.qG (gw)
 ·intro M hM;simp (disch:=first|decide+kernel|omega) only [dD,kR,qbZ,Aq,qal,g3,lG3,lG8,hgw];rfl
 apply W.block;generalize ht0:T.set _ _ _=t0;have hsl:Sl t0 [(1,.func (.func fo) ⟨[]⟩ ⟨[]⟩),(3,pV a),(5,pV (a+1)),(6,pV (a+2)),(7,pV (a+4)),(8,pV D.next),(17,y),(18,iN M.length),(19,.int .i64 i),(32,.func (.func 279) ⟨[]⟩ ⟨[pV G.next,pV (G.next+1)]⟩)]:=by
  rw [←ht0];simp only [Sq,qal,qam,g1,g3,g5,g6,g7,g17,g18,g19,pV]
 clear ht0;obtain⟨h1,h3,h5,h6,h7,h8,h17,h18,h19,h32,-⟩:=hsl;have kJ:=(Kp.alloc H .defd).trans (Kp.alloc (H.alloc .defd) (.loop (gA t0 H.next)));have nJ1:(H.alloc .defd).next=H.next+1:=ae _ _
 have nJ:((H.alloc .defd).alloc (.loop (gA t0 H.next))).next=H.next+2:=by rw [ae,nJ1]
 have jL:((H.alloc .defd).alloc (.loop (gA t0 H.next))).get (H.next+1)=some (.loop (gA t0 H.next)):=by have:=ax (H.alloc .defd) (.loop (gA t0 H.next));rwa [nJ1] at this
 have jM:((H.alloc .defd).alloc (.loop (gA t0 H.next))).get H.next=some .defd:=by rw [(Kp.alloc (H.alloc .defd) _).2 _ (by omega)];exact ax H .defd
 generalize hJ:(H.alloc .defd).alloc (.loop (gA t0 H.next))=J at kJ nJ jL jM;have kGJ:=kH.trans kJ;have toJ:∀e z k l,VB E e z k l→z≠a+3→VB J e z k l:=fun e z k l h h1=>VB.kp (A:=G) ⟨by have:=h.1;omega,h.2.same (fGE z h.1 h1)⟩ kGJ
 have hJA:BZ o w M i s (a+3) (H.next+1) x (gA t0 H.next) 0 J:=⟨hAG.same kGJ.1 (kGJ.2 _),jL,by omega⟩;have fJD:∀z,z<D.next→z≠a+3→J.get z=D.get z:=fun z hz h=>by rw [kGJ.2 z (by omega),fGE z (by omega) h,fED z hz]
 have kAJ:Kp A J:=⟨by omega,fun z hz=>by rw [fJD z (by omega) (by omega),kAD.2 z hz]⟩;obtain⟨v,C,hC,⟨c1,c2,c3⟩,nC,fC⟩:=F0 (A:=A) (B:=J) (q:=G.next) (ab:=a+3) (lp:=H.next+1) (k:=k) h hi k3 k2 hfew hl kAJ (x1.kp kJ) (x2.kp kJ) ⟨by omega,by omega,by omega,by omega,by omega,by omega,by omega,by omega⟩ Lh
  (Ws hW hi k3 (toJ _ _ _ _ V7 (by omega)) (toJ _ _ _ _ V8 (by omega)) (toJ _ _ _ _ V5 (by omega)) ⟨by omega,by omega,by omega⟩ ⟨h5,h7,h8,trivial⟩) hJA
 refine W.Dp (fid:=279) (first:=[]) (capt:=[pV G.next,pV (G.next+1)]) (v:=v) (A':=C) (r:=gA t0 H.next) (e:=.nrm) (by simp only [ev,h32]) (by show bg af 279 _ ((H.alloc .defd).alloc (.loop (gA t0 H.next))) v C;rw [hJ];exact hC) c2 (by simp [gA,iZ]) (.inl ⟨rfl,rfl⟩) ?_;have c1:az C 282 3 (a+3) ((j8 o w zG M (i+1)).map bT) x:=by rw [←Bt o w zG hi];exact c1
 generalize hK:C.set (H.next+1) (.loop {gA t0 H.next with state:=.exhausted})=K;have nK:K.next=C.next:=by rw [←hK];exact aO _ _ _
 have fK:∀z,z≠H.next+1→K.get z=C.get z:=fun z hz=>by rw [←hK,aC,if_neg hz]
 show W af (sub dD [1,1,1]) _ _;apply W.run 20
 ·intro M;simp (disch:=first|decide+kernel|omega) only [dD,kR,qbZ,Aq,qal,h19];rfl
 have hJK:∀z,z<J.next→z≠a+3→z≠H.next+1→K.get z=J.get z:=fun z hz h1 h2=>by rw [fK z h2,fC z hz h1 h2]
 refine⟨rfl,_,K,_,rfl,⟨c1.same (by omega) fun _=>fK _ (by omega),fun z hz h1=>by rw [hJK z (by omega) h1 (by omega),fJD z (by omega) h1,hf z hz h1],by omega,qee.2 ⟨fun hm=>?_,hnd⟩,fun d hd=>?_⟩,?_⟩
 ·have:=hds _ hm;omega
 ·rcases qaK.1 hd with rfl|hd
  ·exact⟨by omega,by omega,by rw [hJK _ (by omega) (by omega) (by omega),jM]⟩
  ·obtain⟨e1,e2,e3⟩:=hds d hd;exact⟨e1,by omega,by rw [hJK _ (by omega) (by omega) (by omega),fJD _ e2 (by omega),e3]⟩
 ·simp only [Sq,qal,qam,h1,h3,h5,h6,h7,h17,h18,pV]
theorem H_ {fo:FuncId} {o:aZ→dM} {w:dM→dM→Nat→dM} {k:Value} (h:dJ A M y) (hg:dg M) (hM:M≠ []) (hl:M.length<1000000) (hO:Gw fo o) (hW:vR fw o w M):
 ∃v A',bg af 197 [.agg ⟨[y,k]⟩,.func (.func fo) ⟨[]⟩ ⟨[]⟩,.func (.func fw) ⟨[]⟩ ⟨[]⟩] A v A'∧v=kV ((dp o w zG M).getD (M.length-1) zG)∧Kp A A':=by
 refine eL (aq Tryz.func197) Ra (by rw [Tryz.ntmps197];simp) (by kernel_rfl) (by kernel_rfl) ?_;generalize ha:A.next=a
 have hpos:=qa6.2 hM;have n1:(A.alloc (aa 115 [y,k])).next=a+1:=by rw [ae,ha]
 have n2:((A.alloc (aa 115 [y,k])).alloc (aa 287 [.func (.func fw) ⟨[]⟩ ⟨[]⟩])).next=a+2:=by rw [ae,n1]
 have n3:(((A.alloc (aa 115 [y,k])).alloc (aa 287 [.func (.func fw) ⟨[]⟩ ⟨[]⟩])).alloc (aa 282 (bT zG))).next=a+3:=by rw [ae,n2]
 have kB2:=Kp.alloc ((A.alloc (aa 115 [y,k])).alloc (aa 287 [.func (.func fw) ⟨[]⟩ ⟨[]⟩])) (aa 282 (bT zG));have kB:=((Kp.alloc A (aa 115 [y,k])).trans (Kp.alloc _ (aa 287 [.func (.func fw) ⟨[]⟩ ⟨[]⟩]))).trans kB2;have v3:=((ay A 115 [y,k]).kp (Kp.alloc _ (aa 287 [.func (.func fw) ⟨[]⟩ ⟨[]⟩]))).kp kB2;have v5:=(ay (A.alloc (aa 115 [y,k])) 287 [.func (.func fw) ⟨[]⟩ ⟨[]⟩]).kp kB2;have v6:=ay ((A.alloc (aa 115 [y,k])).alloc (aa 287 [.func (.func fw) ⟨[]⟩ ⟨[]⟩])) 282 (bT zG);have z259:bS af 282= .ok (.agg ⟨bT zG⟩):=by kernel_rfl
 rw [ha] at v3;rw [n1] at v5;rw [n2] at v6;apply W.q
 ·intro M;simp (disch:=first|decide+kernel|omega) only [kR,qbZ,Aq,qal,au,eA,ha,n1,n2,z259];rfl
 generalize ((A.alloc (aa 115 [y,k])).alloc (aa 287 [.func (.func fw) ⟨[]⟩ ⟨[]⟩])).alloc (aa 282 (bT zG))=B at*;have hS:=h.kp kB;have lB:ag af B.get 112 (pw a 0)= .ok y:=v3.ld rfl fy rfl;have bX:=hS.len;have mk:=Zs (n:=M.length) (by omega);have nB:B.next=a+3:=by assumption
 have n4:(B.alloc (aa 282 ((qa7 M.length zG).map bT).flatten)).next=a+4:=by rw [ae,nB]
 have kC:=(Kp.alloc B (aa 282 ((qa7 M.length zG).map bT).flatten)).trans (Kp.alloc _ (aa 343 [.slice (some ⟨a+3,0,none⟩) M.length (2*M.length)]));have vr:=(ay B 282 ((qa7 M.length zG).map bT).flatten).kp (Kp.alloc _ (aa 343 [.slice (some ⟨a+3,0,none⟩) M.length (2*M.length)]));have v7:=ay (B.alloc (aa 282 ((qa7 M.length zG).map bT).flatten)) 343 [.slice (some ⟨a+3,0,none⟩) M.length (2*M.length)];have sC:aW af ((B.alloc (aa 282 ((qa7 M.length zG).map bT).flatten)).alloc (aa 343 [.slice none 0 0])) 343 (pw ((B.alloc (aa 282 ((qa7 M.length zG).map bT).flatten)).next) 0) (.slice (some ⟨a+3,0,none⟩) M.length (2*M.length))= .ok _:=bk (l':=[.slice (some ⟨a+3,0,none⟩) M.length (2*M.length)]) Ta rfl rfl (by simp) (by simp [aJ]);have nC:((B.alloc (aa 282 ((qa7 M.length zG).map bT).flatten)).alloc (aa 343 [.slice (some ⟨a+3,0,none⟩) M.length (2*M.length)])).next=a+4+1:=by rw [ae,n4]
 rw [n4] at v7 sC;rw [nB] at vr;apply W.q
 ·intro M;simp (disch:=first|decide+kernel|omega) only [kR,qbZ,Aq,qal,ed,lB,bX,mk,nB,ZO,n4,sC];rfl
 generalize (B.alloc (aa 282 ((qa7 M.length zG).map bT).flatten)).alloc (aa 343 [.slice (some ⟨a+3,0,none⟩) M.length (2*M.length)])=C at*;have kAC:=kB.trans kC;have hSC:=h.kp kAC;have v3:=v3.kp kC;have v5:=v5.kp kC;have v6:=v6.kp kC;have lC:ag af C.get 112 (pw a 0)= .ok y:=v3.ld rfl fy rfl;have lenC:=hSC.len;have r0:j8 o w zG M 0=qa7 M.length zG:=by unfold j8;rw [qcy];rfl
 have hA0:az C 282 3 (a+3) ((j8 o w zG M 0).map bT) (.slice (some ⟨a+3,0,none⟩) M.length (2*M.length)):=by
  rw [r0];exact .inr ⟨_,_,by rw [qas,qdc],vr.1,vr.2,fun l hl=>by
   obtain⟨_,_,rfl⟩:=qa3.1 hl;rfl,.inl (by rw [qas,qdc])⟩
 apply W.seq;apply W.q
 ·intro M;simp (disch:=first|decide+kernel|omega) only [kR,qbZ,Aq,qal,ed,lC,lenC];rfl
 apply W.block;refine W.Z0 M.length (fun i t D ds=>Gy o w M C a (.slice (some ⟨a+3,0,none⟩) M.length (2*M.length)) i D ds∧Sl t [(1,.func (.func fo) ⟨[]⟩ ⟨[]⟩),(3,pV a),(5,pV (a+1)),(6,pV (a+2)),(7,pV (a+4)),(17,y),(18,iN M.length),(19,.int .i64 i)]) ?_ (qaB _) ⟨⟨hA0,fun _ _ _=>rfl,qao _,qc4,fun d hd=>by cases hd⟩,?_⟩
 ·rintro i t D ds hi ⟨hR,hs⟩;by_cases hlt:i<M.length
  ·refine(Vz h hg hl hO hW (qan hlt) kAC ⟨ha,nC⟩ v3 v5 v7 hR hs).mono ?_;rintro e s' ⟨rfl,t',D',d',rfl,hR',hs'⟩;exact⟨hlt,t',D',d',rfl,hR',hs'⟩
  ·have e:i=M.length:=by omega
   subst e;obtain⟨hA,hf,hn,hnd,hds⟩:=hR;obtain⟨g1,g3,g5,g6,g7,g17,g18,g19,-⟩:=hs;have rl:j8 o w zG M M.length=dp o w zG M:=by unfold j8;rw [qbq,qaR,List.replicate_zero,qbt]
   rw [rl] at hA;have hal:=mm o w zG M;have l7:ag af D.get 343 (pw (a+4) 0)= .ok (.slice (some ⟨a+3,0,none⟩) M.length (2*M.length)):=aQ Mv rfl (v7.2.same (hf _ (by omega) (by omega))) rfl;have ll:aN af .len [343] [.slice (some ⟨a+3,0,none⟩) M.length (2*M.length)]= .ok (iN M.length):=eu Mv;have ix:=Jp hA (i:=M.length-1) (by omega);have ld:=Vh hA (i:=M.length-1) (v:=(dp o w zG M).getD (M.length-1) zG) (by rw [qa9,qan (by omega)];rfl);have s1:aM .sub .i64 ((M.length:Nat):Int) ((1:Nat):Int)= .ok (iN (M.length-1)):=br (by omega) (aV (by omega));simp only [pV] at g6 g7;obtain⟨E1,sE1,w1,m1,fE1⟩:=cY (tb:=af) (t:=282) (l':=bT ((dp o w zG M).getD (M.length-1) zG)) (by exact vu) (v6.2.same (hf _ (by omega) (by omega))) rfl (by simp [bT]) (HU _);obtain⟨E,sE,w2,m2,fE⟩:=cY (tb:=af) (t:=282) (l':=bT ((dp o w zG M).getD (M.length-1) zG)) (by exact vu) w1 rfl (by simp [bT]) (HU _);obtain⟨d,hd1,hd2⟩:=a8 (t:=282) (p:=true) (by kernel_rfl);have l6:ag af E1.get 282 (pw (a+2) 0)= .ok (.agg ⟨bT ((dp o w zG M).getD (M.length-1) zG)⟩):=aI hd1 hd2 vu w1;unfold kV at ld;apply W.run 20
   ·intro M;simp (disch:=first|decide+kernel|omega) only [dD,kR,qbZ,Aq,qal,g18,g19];rfl
   apply W.q
   ·intro M;simp (disch:=first|decide+kernel|omega) only [kR,qbZ,Aq,qal,g6,g7,l7,ll,cT,bY,hpos,s1,ix,ld,sE1];rfl
   apply W.q
   ·intro M;simp (disch:=first|decide+kernel|omega) only [kR,qbZ,Aq,qal,g6,l6,sE];rfl
   apply W.run 20
   ·intro M;simp (disch:=first|decide+kernel|omega) only [kR,qbZ,Aq,qal];rfl
   obtain⟨I,t1,t2,t3⟩:=fX ds E hnd (fun d hd=>by
    obtain⟨e1,e2,e3⟩:=hds d hd;rw [fE _ (by omega),fE1 _ (by omega),e3])
   have l8:ag af I.get 282 (pw (a+2) 0)= .ok (.agg ⟨bT ((dp o w zG M).getD (M.length-1) zG)⟩):=aI hd1 hd2 vu (w2.same (t3 _ (fun hm=>by have:=(hds _ hm).1;omega)));refine⟨.inr rfl,I,_,t1,(by simp only [qbZ,g6,l8,Aq,qal]<;>rfl),rfl,by omega,fun z hz=>?_⟩;rw [t3 z (fun hm=>by have:=(hds z hm).1;omega),fE z (by omega),fE1 z (by omega),hf z (by omega) (by omega),kAC.2 z (by omega)]
 ·simp only [Sq,qal,qam,pV]
theorem rr {T:Type} {o:aZ→T} {w:T→T→Nat→T} {z:T} {R:Nat→T→Prop}
 (hs:∀i s,M[i]?=some s→(∀k,k<i→R k ((dp o w z (M.take i)).getD k z))→R i (jz o w z (dp o w z (M.take i)) s s.arcs.length)):∀i,i≤M.length→∀k,k<i→R k ((dp o w z (M.take i)).getD k z)
 |0,_,k,hk=>absurd hk (qdD _)
 |i+1,hi,k,hk=>by
  have ih:=rr hs i (by omega);have hl:=mm o w z (M.take i);rw [qaE,qbr (by omega)] at hl;rw [Ae o w z (qan (show i<M.length by omega)),qa9];rcases qaZ k i with h|h
  ·rw [qaJ (by omega),←qa9];exact ih k h
  ·have e:k=i:=by omega
   subst e;rw [qaF (by omega),hl,qbq];exact hs k _ (qan (show k<M.length by omega)) ih
theorem r_ {T:Type} {o:aZ→T} {w:T→T→Nat→T} {z:T} {acc:List T} {s:aZ} {P:Nat→T→Prop} (h0:P 0 (o s)) (hs:∀j a x,s.arcs[j]?=some a→P j x→P (j+1) (w x (acc.getD a.to z) a.out)):∀j,j≤s.arcs.length→P j (jz o w z acc s j)
 |0,_=>h0
 |j+1,hj=>by
  have hsj:=qan (show j<s.arcs.length by omega);rw [pR o w z hsj];exact hs j _ _ hsj (r_ h0 hs j (by omega))
def oC (s:aZ):Int:=if s.fin then 1 else 0
def wC (x c:Int) (_:Nat):Int:=min (x+c) 100001
theorem WB (g:dg M) {s:aZ} (h:M[i]?=some s):(ws M i).length=(if s.fin then 1 else 0)+(s.arcs.map fun a=>(ws M a.to).length).sum:=by
 rw [n_ g h,qar,List.length_flatMap];have e:(fun a=>(jh M a).length)=fun a=>(ws M a.to).length:=by funext a;unfold jh;rw [qas]
 rw [e];cases s.fin<;>rfl
def MF (M:List aZ) (s:aZ) (j:Nat) (x:Int):Prop:=x=((min ((if s.fin then 1 else 0)+((s.arcs.take j).map fun a=>(ws M a.to).length).sum) 100001:Nat):Int)
theorem I2 (g:dg M) {s:aZ} (h:M[i]?=some s) (hk:∀k,k<i→(dp oC wC zI (M.take i)).getD k zI=((min (ws M k).length 100001:Nat):Int)):∀j,j≤s.arcs.length→MF M s j (jz oC wC zI (dp oC wC zI (M.take i)) s j):=by
 refine r_ ?_ fun j a x hj hx=>?_
 ·unfold MF oC;rw [qcy];cases s.fin<;>rfl
 ·obtain⟨hjl,ha⟩:=qap.1 hj;unfold MF at hx⊢;rw [hk a.to ((g i s h).2.2.1 a (qa0 hj)),hx,qaC hjl,qbe,qeE,ha];simp only [qbx,qcp,List.sum_cons,List.sum_nil,wC];generalize (qew (fun a=>(ws M a.to).length) (qeM j s.arcs)).sum=p;generalize (if s.fin=true then 1 else 0)=q;omega
theorem I1 (g:dg M):∀i,i≤M.length→∀k,k<i→(dp oC wC zI (M.take i)).getD k zI=((min (ws M k).length 100001:Nat):Int):=
 rr (R:=fun k v=>v=((min (ws M k).length 100001:Nat):Int)) fun i s h hk=>by
  have:=I2 g h hk s.arcs.length (qao _);unfold MF at this;rw [qaR,←WB g h] at this;exact this
theorem Yn:B0 193 oC:=fun D x s=>by
 have v:=ay D 186 (cW x s);refine⟨D.alloc (aa 186 (cW x s)),?_,Kp.alloc _ _⟩;generalize hE:D.alloc (aa 186 (cW x s))=E at v;have l1:ag af E.get 4 (.pointer (some ⟨D.next,0+1,none⟩))= .ok (.bool s.fin):=v.ld rfl u4 rfl;unfold sZ oC;cases hf:s.fin with
 |true=>
  rw [hf] at l1;show bg af 193 _ _ (.int .i64 (1:Nat)) _;refine bm 60 (aq Tryz.func193) (by kernel_rfl) fun M=>?_
  simp (disch:=first|decide+kernel|omega) only [Tryz.f193,Aq,qal,au,hE,ee,l1]<;>rfl
 |false=>
  rw [hf] at l1;show bg af 193 _ _ (.int .i64 (0:Nat)) _;refine bm 60 (aq Tryz.func193) (by kernel_rfl) fun M=>?_
  simp (disch:=first|decide+kernel|omega) only [Tryz.f193,Aq,qal,au,hE,ee,l1]<;>rfl
variable {tb:bO}
theorem nj {ts:List TypeId} {a b:Int}:aN tb .min ts [.int .i64 a,.int .i64 b]= .ok (.int .i64 (min a b)):=by
 have e:aN tb .min ts [.int .i64 a,.int .i64 b]= .ok (.int .i64 (bif qc b a then b else a)):=by cases ts<;>rfl
 rw [e,mA];by_cases h:b<a
 ·rw [decide_eq_true h,Int.min_eq_right (by omega)];rfl
 ·rw [decide_eq_false h,Int.min_eq_left (by omega)];rfl
theorem max_i64 {ts:List TypeId} {a b:Int}:aN tb .max ts [.int .i64 a,.int .i64 b]= .ok (.int .i64 (max a b)):=by
 have e:aN tb .max ts [.int .i64 a,.int .i64 b]= .ok (.int .i64 (bif qc a b then b else a)):=by cases ts<;>rfl
 rw [e,mA];by_cases h:a<b
 ·rw [decide_eq_true h,Int.max_eq_right (by omega)];rfl
 ·rw [decide_eq_false h,Int.max_eq_left (by omega)];rfl
theorem R7 {ts:List TypeId} {a:Nat}:aN tb .max ts [.int .u64 a,.int .u64 b]= .ok (.int .u64 (max a b:Nat)):=by
 have e:aN tb .max ts [.int .u64 a,.int .u64 b]= .ok (.int .u64 (bif qax a b then(b:Int) else(a:Int))):=by cases ts<;>rfl
 rw [e];cases h:qax a b with
 |true=>
  have q:a<b:=by simpa [qaH] using h
  rw [qc5 (by omega)];rfl
 |false=>
  have q:¬a<b:=by intro hx;rw [←qaH,h] at hx;cases hx
  rw [Nat.max_eq_left (by omega)];rfl
theorem Wt (g:dg M):rp 194 oC wC M:=fun D i j s a hi hj=>by
 have hil:=(qap.1 hi).1;have hk:=I1 g i (by omega);have hp:=I2 g hi hk j (by have:=(qap.1 hj).1;omega);have hc:=hk a.to ((g i s hi).2.2.1 a (qa0 hj));unfold MF at hp;rw [pR oC wC zI hj,hp,hc];generalize (if s.fin=true then 1 else 0)+(qew (fun a=>(ws M a.to).length) (qeM j s.arcs)).sum=p;generalize (ws M a.to).length=q;have a1:aM .add .i64 ((min p 100001:Nat):Int) ((min q 100001:Nat):Int)= .ok (iN (min p 100001+min q 100001)):=bf (aV (by omega));have m1:=nj (tb:=af) (ts:=[3,3]) (a:=((min p 100001+min q 100001:Nat):Int)) (b:=((100001:Nat):Int));have e:wC ((min p 100001:Nat):Int) ((min q 100001:Nat):Int) a.out=min ((min p 100001+min q 100001:Nat):Int) ((100001:Nat):Int):=by unfold wC;omega
 refine⟨D,?_,Kp.refl _⟩;unfold sZ;rw [e];refine bm 60 (aq Tryz.func194) (by kernel_rfl) fun M=>?_
 simp (disch:=first|decide+kernel|omega) only [Tryz.f194,Aq,qal,a1,m1]<;>rfl
theorem LO {k:Value} (h:dJ A M y) (hk:k.cells.toList=[k]∧aJ k=true) (g:dg M) (hM:M≠ []) (hl:M.length<1000000) (hw:(ws M (M.length-1)).length≤100000):
 ∃v A',bg af 144 [.agg ⟨[y,k]⟩] A v A'∧v= .tuple ⟨[iN ((ws M (M.length-1)).length),.bool true]⟩∧Kp A A':=by
 have kB:=Kp.alloc A (aa 115 [y,k]);have vB:=ay A 115 [y,k];generalize hB:A.alloc (aa 115 [y,k])=B at kB vB;obtain⟨d,hd1,hd2⟩:=a8 (t:=115) (p:=true) (by kernel_rfl);have lB:ag af B.get 115 (pw A.next 0)= .ok (.agg ⟨[y,k]⟩):=aI hd1 hd2 (l:=[y,k]) du vB.2;obtain⟨v,C,⟨gc,hc⟩,rfl,kC⟩:=yT (h.kp kB) (k:=k) g hM hl Yn (Wt g);have hpos:=qa6.2 hM;have hv:=I1 g M.length (qao _) (M.length-1) (by omega);rw [qaR,qbr (by omega)] at hv;rw [hv] at hc;unfold sZ at hc;have hn:¬100000<(ws M (M.length-1)).length:=by omega
 refine⟨_,C,?_,rfl,kB.trans kC⟩;refine aT (gc) 60 (aq Tryz.func144) (by kernel_rfl) fun M hM=>?_
 simp (disch:=first|decide+kernel|omega) only [Tryz.f144,Aq,qal,au,hB,lB,oM,hc,cT,bY,hn]<;>rfl
def oL (s:aZ):Int:=if s.fin then 0 else-1
def wL (x c:Int) (_:Nat):Int:=if c<0 then x else max x (c+1)
def Gv (M:List aZ) (i:Nat) (x:Int):Prop:=-1≤x∧x≤i∧(x=-1∨∃w∈ws M i,x=((w.1.length:Nat):Int))
theorem Jy (g:dg M) {s:aZ} (h:M[i]?=some s) (hk:∀k,k<i→Gv M k ((dp oL wL zI (M.take i)).getD k zI)):∀j,j≤s.arcs.length→Gv M i (jz oL wL zI (dp oL wL zI (M.take i)) s j):=by
 refine r_ (P:=fun _ x=>Gv M i x) ?_ fun j a x hj hx=>?_
 ·unfold Gv oL;cases hf:s.fin with
  |false=>exact⟨by simp,by simp only [qaI,if_false];omega,.inl rfl⟩
  |true=>exact⟨by simp,by simp,.inr ⟨([],s.out),by rw [n_ g h,hf];simp,rfl⟩⟩
 ·have ha:=qa0 hj;have hto:=(g i s h).2.2.1 a ha;obtain⟨c1,c2,c3⟩:=hk a.to hto;obtain⟨x1,x2,x3⟩:=hx;generalize (dp oL wL zI (M.take i)).getD a.to zI=c at*;unfold wL;split
  ·exact⟨x1,x2,x3⟩
  ·refine⟨by omega,by omega,?_⟩;rcases Int.le_total (c+1) x with hle|hle
   ·rw [Int.max_eq_left hle];exact x3
   ·rw [Int.max_eq_right hle];rcases c3 with h|⟨w,hw,hwl⟩
    ·omega
    ·refine .inr ⟨(a.byte::w.1,a.out+w.2),?_,by rw [hwl];simp⟩;rw [n_ g h];exact qbU _ (qds.2 ⟨a,ha,qa3.2 ⟨w,hw,rfl⟩⟩)
theorem Jx (g:dg M):∀i,i≤M.length→∀k,k<i→Gv M k ((dp oL wL zI (M.take i)).getD k zI):=
 rr (R:=Gv M) fun i s h hk=>Jy g h hk s.arcs.length (qao _)
theorem Yp:B0 195 oL:=fun D x s=>by
 have v:=ay D 186 (cW x s);refine⟨D.alloc (aa 186 (cW x s)),?_,Kp.alloc _ _⟩;generalize hE:D.alloc (aa 186 (cW x s))=E at v;have l1:ag af E.get 4 (.pointer (some ⟨D.next,0+1,none⟩))= .ok (.bool s.fin):=v.ld rfl u4 rfl;unfold sZ oL;cases hf:s.fin with
 |true=>
  rw [hf] at l1;show bg af 195 _ _ (.int .i64 (0:Nat)) _;refine bm 60 (aq Tryz.func195) (by kernel_rfl) fun M=>?_
  simp (disch:=first|decide+kernel|omega) only [Tryz.f195,Aq,qal,au,hE,ee,l1]<;>rfl
 |false=>
  rw [hf] at l1;show bg af 195 _ _ (.int .i64 (-1)) _;refine bm 60 (aq Tryz.func195) (by kernel_rfl) fun M=>?_
  simp (disch:=first|decide+kernel|omega) only [Tryz.f195,Aq,qal,au,hE,ee,l1,NO]<;>rfl
theorem Ww (g:dg M) (hl:M.length<1000000):rp 196 oL wL M:=fun D i j s a hi hj=>by
 have hil:=(qap.1 hi).1;have hk:=Jx g i (by omega);obtain⟨x1,x2,-⟩:=Jy g hi hk j (by have:=(qap.1 hj).1;omega);have hto:=(g i s hi).2.2.1 a (qa0 hj);obtain⟨c1,c2,-⟩:=hk a.to hto;rw [pR oL wL zI hj];generalize jz oL wL zI (dp oL wL zI (M.take i)) s j=x at*;generalize (dp oL wL zI (M.take i)).getD a.to zI=c at*;refine⟨D,?_,Kp.refl _⟩;unfold sZ wL;by_cases h0:c<0
 ·have h1:c<((0:Nat):Int):=by simpa using h0
  rw [if_pos h0];refine bm 60 (aq Tryz.func196) (by kernel_rfl) fun M=>?_
  simp (disch:=first|decide+kernel|omega) only [Tryz.f196,Aq,qal,Dj,h1]<;>rfl
 ·have h1:¬c<((0:Nat):Int):=by simpa using h0
  have a1:aM .add .i64 c ((1:Nat):Int)= .ok (.int .i64 (c+1)):=Si (by omega) (by omega);have m1:=max_i64 (tb:=af) (ts:=[3,3]) (a:=x) (b:=c+1);rw [if_neg h0];refine bm 60 (aq Tryz.func196) (by kernel_rfl) fun M=>?_
  simp (disch:=first|decide+kernel|omega) only [Tryz.f196,Aq,qal,Dj,h1,a1,m1]<;>rfl
theorem FQ {k:Value} (h:dJ A M y) (g:dg M) (hM:M≠ []) (hl:M.length<1000000):
 ∃v A',bg af 146 [.agg ⟨[y,k]⟩] A v A'∧Kp A A'∧∃x,v= .int .i64 x∧Gv M (M.length-1) x:=by
 have kB:=Kp.alloc A (aa 115 [y,k]);have vB:=ay A 115 [y,k];generalize hB:A.alloc (aa 115 [y,k])=B at kB vB;have hS:=h.kp kB;obtain⟨d,hd1,hd2⟩:=a8 (t:=115) (p:=true) (by kernel_rfl);have lB:ag af B.get 115 (pw A.next 0)= .ok (.agg ⟨[y,k]⟩):=aI hd1 hd2 (l:=[y,k]) du vB.2;have ly:ag af B.get 112 (pw A.next 0)= .ok y:=vB.ld rfl fy rfl;have bX:=hS.len;obtain⟨v,C,⟨gc,hc⟩,rfl,kC⟩:=yT hS (k:=k) g hM hl Yp (Ww g hl);have hpos:=qa6.2 hM;have hv:=Jx g M.length (qao _) (M.length-1) (by omega);rw [qaR] at hv;have hn:¬M.length=0:=by omega
 refine⟨_,C,?_,kB.trans kC,_,rfl,hv⟩;unfold sZ at hc;refine aT (gc) 60 (aq Tryz.func146) (by kernel_rfl) fun M hM=>?_
 simp (disch:=first|decide+kernel|omega) only [Tryz.f146,Aq,qal,au,hB,ed,ly,bX,lB,oM,hc,hn]<;>rfl
def oG (s:aZ):dM:=⟨s.out,true,s.fin⟩
def MD (m x:dM):dM:=if m.any then⟨max m.n x.n,m.fits&&x.fits,true⟩ else x
def wG (x c:dM) (out:Nat):dM:=MD x ⟨c.n+out,c.fits,c.any⟩
def MK (M:List aZ) (i:Nat) (x:dM):Prop:=x.fits=true∧(x.any=true→∃w∈ws M i,w.2=x.n)
theorem D_ (g:dg M) {s:aZ} {a:cJ} {w:List UInt8×Nat} (h:M[i]?=some s) (ha:a∈s.arcs) (hw:w∈ws M a.to):(a.byte::w.1,a.out+w.2)∈ws M i:=by
 rw [n_ g h];exact qbU _ (qds.2 ⟨a,ha,qa3.2 ⟨w,hw,rfl⟩⟩)
theorem Jm (g:dg M) {s:aZ} (h:M[i]?=some s) (hk:∀k,k<i→MK M k ((dp oG wG zG (M.take i)).getD k zG)∧((dp oG wG zG (M.take i)).getD k zG).any=true):
 ∀j,j≤s.arcs.length→MK M i (jz oG wG zG (dp oG wG zG (M.take i)) s j)∧((s.fin=true∨0<j)→(jz oG wG zG (dp oG wG zG (M.take i)) s j).any=true):=by
 refine r_ (P:=fun j x=>MK M i x∧((s.fin=true∨0<j)→x.any=true)) ?_ fun j a x hj hx=>?_
 ·refine⟨⟨rfl,fun hf=>⟨([],s.out),?_,rfl⟩⟩,fun hf=>?_⟩
  ·have hf:s.fin=true:=hf;rw [n_ g h,hf];simp
  ·rcases hf with hf|hf
   ·exact hf
   ·omega
 ·have ha:=qa0 hj;obtain⟨⟨c1,c2⟩,c3⟩:=hk a.to ((g i s h).2.2.1 a ha);obtain⟨w,hw,hwn⟩:=c2 c3;obtain⟨⟨x1,x2⟩,-⟩:=hx;have hm:=D_ g h ha hw;generalize (dp oG wG zG (M.take i)).getD a.to zG=c at*;unfold wG MD;cases hx:x.any with
  |false=>
   refine⟨⟨c1,fun _=>⟨_,hm,?_⟩⟩,fun _=>c3⟩;show a.out+w.2=c.n+a.out;omega
  |true=>
   refine⟨⟨?_,fun _=>?_⟩,fun _=>rfl⟩
   ·show(x.fits&&c.fits)=true;rw [x1,c1];rfl
   ·rcases qeG x.n (c.n+a.out) with hle|hle
    ·exact⟨_,hm,by show a.out+w.2=max x.n (c.n+a.out);rw [qc5 hle];omega⟩
    ·obtain⟨w',h1,h2⟩:=x2 hx;exact⟨w',h1,by show w'.2=max x.n (c.n+a.out);rw [Nat.max_eq_left hle];exact h2⟩
theorem Jl (g:dg M):∀i,i≤M.length→∀k,k<i→MK M k ((dp oG wG zG (M.take i)).getD k zG)∧((dp oG wG zG (M.take i)).getD k zG).any=true:=
 rr (R:=fun k v=>MK M k v∧v.any=true) fun i s h hk=>by
  obtain⟨h1,h2⟩:=Jm g h hk s.arcs.length (qao _);refine⟨h1,h2 ?_⟩;rcases(g i s h).2.2.2.1 with hf|hf
  ·exact .inl hf
  ·exact .inr (qa6.2 hf)
theorem CT:av af 282 (pw b 0) 0= .ok (pw b 0):=by kernel_rfl
theorem CU:av af 282 (pw b 0) 1= .ok (pw b 2):=by kernel_rfl
theorem CS:av af 280 (pw b 0) 0= .ok (pw b 0):=by kernel_rfl
theorem Ja:av af 280 (pw b 0) 1= .ok (pw b 1):=by kernel_rfl
theorem Ys:aR af 280= .ok 2:=by kernel_rfl
theorem BU:bS af 282= .ok (.agg ⟨bT zG⟩):=by kernel_rfl
theorem GD {x:Int} {f:Bool}:ct af 280 [(0,.int .u64 x),(1,.bool f)]= .ok (.agg ⟨[.int .u64 x,.bool f]⟩):=by kernel_rfl
theorem M4 {x:Int} {f a:Bool}:ct af 282 [(0,.agg ⟨[.int .u64 x,.bool f]⟩),(1,.bool a)]= .ok (.agg ⟨[.int .u64 x,.bool f,.bool a]⟩):=by kernel_rfl
theorem OH {k:Kd} {m:dM} (h:dw A 282 b k (bT m)):ag af A.get 280 (pw b 0)= .ok (.agg ⟨[.int .u64 m.n,.bool m.fits]⟩):=by
 obtain⟨c,h1,h2⟩:=h;obtain⟨d,hd1,hd2⟩:=a8 (t:=280) (p:=true) (by kernel_rfl);have hg:c.iu 2 0=some [.int .u64 m.n,.bool m.fits]:=fq _ _ _ _ rfl fun j hj=>by
  have:j=0∨j=1:=by omega
  rcases this with rfl|rfl
  ·exact h2 0 (by simp [bT])
  ·exact h2 1 (by simp [bT])
 unfold ag;simp only [h1,hd1,hd2,cond_true,Ys,R.aw,hg]
theorem TX {k:Kd} {m:dM} {f:Bool} (h:dw A 282 b k (bT m)):∃A',aW af A 280 (pw b 0) (.agg ⟨[.int .u64 n,.bool f]⟩)= .ok A'∧dw A' 282 b k (bT ⟨n,f,m.any⟩)∧A'.next=A.next∧∀z,z≠b→A'.get z=A.get z:=by
 obtain⟨A',h1,h2,h3,h4⟩:=h.put (o:=0) (vs:=[.int .u64 n,.bool f]) (by simp [aJ]) (by simp [bT]) (by simp);refine⟨A',?_,h4 _ rfl fun j hj=>?_,h2,h3⟩
 ·unfold aW;simp only [Ys,R.aw,au];exact h1
 ·have:j=0∨j=1∨j=2:=by simp [bT] at hj;omega
  rcases this with rfl|rfl|rfl<;>simp [bT]
theorem WL {k:Kd} {m:dM} (h:dw A 282 b k (bT m)):ag af A.get 282 (pw b 0)= .ok (.agg ⟨bT m⟩):=by
 obtain⟨d,hd1,hd2⟩:=a8 (t:=282) (p:=true) (by kernel_rfl);exact aI hd1 hd2 vu h
theorem Yo:Gw 198 oG:=fun D x s=>by
 have k1:=Kp.alloc D (aa 186 (cW x s));have v1:=ay D 186 (cW x s);have n1:(D.alloc (aa 186 (cW x s))).next=D.next+1:=ae _ _
 generalize hB:D.alloc (aa 186 (cW x s))=B at v1 n1 k1;have k2:=Kp.alloc B (aa 282 (bT zG));have v2:=ay B 282 (bT zG);have v1:=v1.kp k2;have n2:(B.alloc (aa 282 (bT zG))).next=B.next+1:=ae _ _
 generalize hC:B.alloc (aa 282 (bT zG))=C at v1 v2 k2 n2;have l1:ag af C.get 4 (pw D.next (0+1))= .ok (.bool s.fin):=v1.ld rfl u4 rfl;have l2:ag af C.get 113 (pw D.next (0+2))= .ok (.int .u64 s.out):=v1.ld rfl fp rfl;obtain⟨E,sE,vE,nE,fE⟩:=cY (tb:=af) (t:=282) (l':=bT (oG s)) (by exact vu) v2.2 rfl (by simp [bT]) (HU _);have sE':aW af C 282 (pw B.next 0) (.agg ⟨[.int .u64 s.out,.bool true,.bool s.fin]⟩)= .ok E:=sE;have lE:ag af E.get 282 (pw B.next 0)= .ok (kV (oG s)):=WL vE;refine⟨E,?_,⟨by omega,fun z hz=>by rw [fE z (by omega),k2.2 z (by omega),k1.2 z hz]⟩⟩;refine bm 60 (aq Tryz.func198) (by kernel_rfl) fun M=>?_
 simp (disch:=first|decide+kernel|omega) only [Tryz.f198,Aq,qal,au,hB,hC,BU,ee,m_,l1,l2,GD,M4,sE',lE]<;>rfl
theorem VT {m x:dM} (h:x.any=true):∃A',bg af 201 [kV m,kV x] A (kV (MD m x)) A'∧Kp A A':=by
 have k1:=Kp.alloc A (aa 282 (bT m));have v1:=ay A 282 (bT m);have n1:(A.alloc (aa 282 (bT m))).next=A.next+1:=ae _ _
 generalize hB:A.alloc (aa 282 (bT m))=B at v1 n1 k1;have k2:=Kp.alloc B (aa 282 (bT x));have v2:=ay B 282 (bT x);have v1:=v1.kp k2;have n2:(B.alloc (aa 282 (bT x))).next=B.next+1:=ae _ _
 generalize hC:B.alloc (aa 282 (bT x))=C at v1 v2 k2 n2;have k3:=Kp.alloc C (aa 282 (bT zG));have v3:=ay C 282 (bT zG);have v1:=v1.kp k3;have v2:=v2.kp k3;have n3:(C.alloc (aa 282 (bT zG))).next=C.next+1:=ae _ _
 generalize hD:C.alloc (aa 282 (bT zG))=D at v1 v2 v3 k3 n3;have kD:=k1.trans (k2.trans k3);obtain⟨E,sE,vE,nE,fE⟩:=cY (tb:=af) (t:=282) (l':=bT (MD m x)) (by exact vu) v3.2 rfl (by simp [bT]) (HU _);have lE:ag af E.get 282 (.pointer (some ⟨C.next,0,none⟩))= .ok (kV (MD m x)):=WL vE;have a1:ag af D.get 4 (.pointer (some ⟨A.next,2,none⟩))= .ok (.bool m.any):=v1.ld rfl u4 rfl;have a2:ag af D.get 4 (.pointer (some ⟨B.next,2,none⟩))= .ok (.bool x.any):=v2.ld rfl u4 rfl;have kE:Kp A E:=⟨by omega,fun z hz=>by rw [fE z (by omega),kD.2 z hz]⟩;refine⟨E,?_,kE⟩;rw [h] at a2;cases hm:m.any with
 |false=>
  rw [hm] at a1;have lx:ag af D.get 282 (.pointer (some ⟨B.next,0,none⟩))= .ok (.agg ⟨bT (MD m x)⟩):=by
   have e:MD m x=x:=by unfold MD;rw [hm];rfl
   rw [e];exact WL v2.2
  unfold kV at*;refine bm 60 (aq Tryz.func201) (by kernel_rfl) fun M=>?_
  simp (disch:=first|decide+kernel|omega) only [Tryz.f201,Aq,qal,au,hB,hC,hD,BU,CU,a1,a2,lx,sE,lE]<;>rfl
 |true=>
  rw [hm] at a1;have b1:ag af D.get 113 (.pointer (some ⟨A.next,0,none⟩))= .ok (.int .u64 m.n):=v1.ld rfl fp rfl;have b2:ag af D.get 113 (.pointer (some ⟨B.next,0,none⟩))= .ok (.int .u64 x.n):=v2.ld rfl fp rfl;have d1:ag af D.get 4 (.pointer (some ⟨A.next,1,none⟩))= .ok (.bool m.fits):=v1.ld rfl u4 rfl;have d2:ag af D.get 4 (.pointer (some ⟨B.next,1,none⟩))= .ok (.bool x.fits):=v2.ld rfl u4 rfl;have mx:=R7 (tb:=af) (ts:=[113,113]) (a:=m.n) (b:=x.n);have e:MD m x=⟨max m.n x.n,m.fits&&x.fits,true⟩:=by unfold MD;rw [hm];rfl
  rw [e] at sE lE⊢;have sE':aW af D 282 (.pointer (some ⟨C.next,0,none⟩)) (.agg ⟨[.int .u64 (max m.n x.n:Nat),.bool (m.fits&&x.fits),.bool true]⟩)= .ok E:=sE;unfold kV at*;cases hf:m.fits with
  |false=>
   rw [hf] at d1;simp only [hf,qdT] at sE';rw [hf] at lE;refine bm 60 (aq Tryz.func201) (by kernel_rfl) fun M=>?_
   simp (config:={maxSteps:=4000000}) (disch:=first|decide+kernel|omega|simp only [Wq,qal]) only [Tryz.f201,Aq,qaq,reduceIte,qal,qam,au,hB,hC,hD,BU,CT,CU,CS,Ja,a1,a2,b1,b2,d1,d2,mx,GD,M4,sE',lE]<;>rfl
  |true=>
   rw [hf] at d1;simp only [hf,qcs] at sE';rw [hf] at lE;refine bm 60 (aq Tryz.func201) (by kernel_rfl) fun M=>?_
   simp (config:={maxSteps:=4000000}) (disch:=first|decide+kernel|omega|simp only [Wq,qal]) only [Tryz.f201,Aq,qaq,reduceIte,qal,qam,au,hB,hC,hD,BU,CT,CU,CS,Ja,a1,a2,b1,b2,d1,d2,mx,GD,M4,sE',lE]<;>rfl
theorem Wv (g:Sto.Good M):vR 199 oG wG M:=fun D i j s a hi hj=>by
 have hil:=(qap.1 hi).1;have hk:=Jl g.1 i (by omega);obtain⟨⟨x1,x2⟩,x3⟩:=Jm g.1 hi hk j (by have:=(qap.1 hj).1;omega);have ha:=qa0 hj;obtain⟨⟨c1,c2⟩,c3⟩:=hk a.to ((g.1 i s hi).2.2.1 a ha);obtain⟨w,hw,hwn⟩:=c2 c3;have hle:=g.2.2 i hil _ (D_ g.1 hi ha hw);rw [pR oG wG zG hj];generalize jz oG wG zG (dp oG wG zG (M.take i)) s j=x at*;generalize (dp oG wG zG (M.take i)).getD a.to zG=c at*;have hs:c.n+a.out<18446744073709551616:=by
  have:a.out+w.2≤4294967296:=hle;omega
 have k1:=Kp.alloc D (aa 282 (bT x));have v1:=ay D 282 (bT x);have n1:(D.alloc (aa 282 (bT x))).next=D.next+1:=ae _ _
 generalize hB:D.alloc (aa 282 (bT x))=B at v1 n1 k1;have k2:=Kp.alloc B (aa 282 (bT c));have v2:=ay B 282 (bT c);have v1:=v1.kp k2;have n2:(B.alloc (aa 282 (bT c))).next=B.next+1:=ae _ _
 generalize hC:B.alloc (aa 282 (bT c))=C at v1 v2 k2 n2;have k3:=Kp.alloc C (aa 282 (bT zG));have v3:=ay C 282 (bT zG);have v1:=v1.kp k3;have v2:=v2.kp k3;have n3:(C.alloc (aa 282 (bT zG))).next=C.next+1:=ae _ _
 generalize hD:C.alloc (aa 282 (bT zG))=E at v1 v2 v3 k3 n3;have l1:=OH v2.2;have ka:=fun ih A=>RX (ih:=ih) (A:=A) (f:=c.fits) hs
 obtain⟨F,sF,vF,nF,fF⟩:=TX (n:=c.n+a.out) (f:=c.fits) v2.2;have lx:ag af F.get 282 (pw D.next 0)= .ok (kV x):=WL (v1.2.same (fF _ (by omega)));have lc:ag af F.get 282 (pw B.next 0)= .ok (kV ⟨c.n+a.out,c.fits,c.any⟩):=WL vF;obtain⟨G,⟨go,hgo⟩,kG⟩:=VT (A:=F) (m:=x) (x:=⟨c.n+a.out,c.fits,c.any⟩) c3;obtain⟨H,sH,vH,nH,fH⟩:=cY (tb:=af) (t:=282) (l':=bT (MD x ⟨c.n+a.out,c.fits,c.any⟩)) (by exact vu) (A:=G) (v3.2.same (by rw [kG.2 _ (by omega),fF _ (by omega)])) rfl (by simp [bT]) (HU _);have lH:ag af H.get 282 (pw C.next 0)= .ok (kV (wG x c a.out)):=WL vH;have nG:=kG.1;refine⟨H,?_,⟨by omega,fun z hz=>by rw [fH z (by omega),kG.2 z (by omega),fF z (by omega),k3.2 z (by omega),k2.2 z (by omega),k1.2 z hz]⟩⟩;have sH':aW af G 282 (pw C.next 0) (kV (MD x ⟨c.n+a.out,c.fits,c.any⟩))= .ok H:=sH;unfold kV at*;refine aT (go) 60 (aq Tryz.func199) (by kernel_rfl) fun M hM=>?_
 simp (disch:=first|decide+kernel|omega) only [Tryz.f199,Aq,qal,au,hB,hC,hD,BU,CT,l1,ka,sF,lx,lc,hgo,sH',lH]<;>rfl
theorem Dw (h:dJ A M y) (g:Sto.Good M) (hM:M≠ []) (hl:M.length<1000000) (hk:∀w∈ws M (M.length-1),w.2+k≤4294967296):
 ∃v A',bg af 149 [.agg ⟨[y,.int .u64 k]⟩] A v A'∧Kp A A'∧∃n:Nat,v= .tuple ⟨[.int .u64 n,.bool true]⟩:=by
 have kB:=Kp.alloc A (aa 115 [y,.int .u64 k]);have vB:=ay A 115 [y,.int .u64 k];have nB:(A.alloc (aa 115 [y,.int .u64 k])).next=A.next+1:=ae _ _
 generalize hB:A.alloc (aa 115 [y,.int .u64 k])=B at kB vB nB;obtain⟨d,hd1,hd2⟩:=a8 (t:=115) (p:=true) (by kernel_rfl);have lB:ag af B.get 115 (pw A.next 0)= .ok (.agg ⟨[y,.int .u64 k]⟩):=aI hd1 hd2 (l:=[y,.int .u64 k]) du vB.2;obtain⟨v,C,⟨gc,hc⟩,rfl,kC⟩:=H_ (h.kp kB) (k:=.int .u64 k) g.1 hM hl Yo (Wv g);have hpos:=qa6.2 hM;obtain⟨⟨c1,c2⟩,c3⟩:=Jl g.1 M.length (qao _) (M.length-1) (by omega);rw [qaR] at c1 c2 c3;generalize (dp oG wG zG M).getD (M.length-1) zG=m at*;obtain⟨w,hw,hwn⟩:=c2 c3;have hle:=hk w hw;have k3:=Kp.alloc C (aa 282 (bT m));have v3:=ay C 282 (bT m);have sD:aW af (C.alloc (aa 282 (bT zG))) 282 (pw C.next 0) (kV m)= .ok (C.alloc (aa 282 (bT m))):=bk vu rfl rfl (by simp [bT]) (HU _);generalize hD:C.alloc (aa 282 (bT m))=D at k3 v3 sD;have l1:=OH v3.2;have ka:=fun ih A=>RX (ih:=ih) (A:=A) (f:=m.fits) (n:=m.n) (m:=k) (by omega)
 obtain⟨F,sF,vF,nF,fF⟩:=TX (n:=m.n+k) (f:=m.fits) v3.2;have l2:ag af D.get 113 (pw A.next (0+1))= .ok (.int .u64 k):=(vB.kp (kC.trans k3)).ld rfl fp rfl;have l3:ag af F.get 4 (pw C.next 2)= .ok (.bool m.any):=aQ u4 rfl vF rfl;have l4:=OH vF;have l5:ag af F.get 113 (pw C.next 0)= .ok (uN (m.n+k)):=aQ fp rfl vF rfl;have ks:=fun ih A=>OA (ih:=ih) (A:=A) (n:=m.n+k) (f:=m.fits)
 rw [c1,decide_eq_true (by omega)] at ks;rw [c3] at l3;rw [c1] at ka sF l1 l4;have nC:=kC.1;have nD:=k3.1;refine⟨_,F,?_,⟨by omega,fun z hz=>by rw [fF z (by omega),k3.2 z (by omega),kC.2 z (by omega),kB.2 z hz]⟩,m.n+k,rfl⟩;unfold kV at*;simp only [qci] at ks;refine aT (gc) 60 (aq Tryz.func149) (by kernel_rfl) fun M hM=>?_
 simp (config:={maxSteps:=4000000}) (disch:=first|decide+kernel|omega|simp only [Wq,qal]) only [Tryz.f149,Aq,qaq,reduceIte,qal,qam,au,hB,lB,oM,hc,BU,sD,CT,CU,CS,Ht,l1,l2,ka,sF,l3,l4,ks,l5]<;>rfl
def fY (p:Nat×Nat):List Value:=[.int .i64 p.1,.int .i64 p.2]
theorem Mt:af.ba 335=some (.slice 334):=by kernel_rfl
theorem Yt:aR af 334= .ok 2:=by kernel_rfl
theorem QC:cm af 334= .ok (2,[.int .i64 0,.int .i64 0]):=by kernel_rfl
theorem YH:∃i,af.ty.get 334=some i∧0<i.bytes∧i.bytes≤65536:=by
 have h:((af.ty.get 334).map fun i=>i.bytes)=some 16:=by kernel_rfl
 cases hq:af.ty.get 334 with
 |none=>rw [hq] at h;cases h
 |some i=>
  rw [hq] at h;have:i.bytes=16:=by simpa using h
  exact⟨i,rfl,by omega,by omega⟩
def zE (A:Mem) (b:Nat) (P:List (Nat×Nat)) (x:Value):Prop:=∃(Q:List (Nat×Nat)) (c:Nat) (k:Kd),x= .slice (some ⟨b,0,none⟩) P.length c∧b<A.next∧dw A 334 b k (Q.map fY).flatten∧bJ c=Q.length∧P.length≤Q.length∧Q.take P.length=P∧(dN c=true∨(dN c=false∧gO c=2∧k= .row))
variable {A':Mem}
theorem zE.same {P:List (Nat×Nat)} {x:Value} (h:zE A b P x) (hn:A.next≤A'.next) (hg:A'.get b=A.get b):zE A' b P x:=by
 obtain⟨Q,c,k,h1,h2,h3,h4⟩:=h;exact⟨Q,c,k,h1,qaD h2 hn,h3.same hg,h4⟩
theorem zE.len {P:List (Nat×Nat)} {x:Value} (h:zE A b P x):aN af .len [335] [x]= .ok (iN P.length):=by
 obtain⟨Q,c,k,rfl,-⟩:=h;exact eu Mt
theorem zE.idx {P:List (Nat×Nat)} {x:Value} (h:zE A b P x) (hi:i<P.length):aU af 335 x (.int .i64 i)= .ok (pw b (i*2)):=by
 obtain⟨Q,c,k,rfl,-⟩:=h;have hb:qax i P.length=true:=by rw [qaH];exact hi
 have hn:kU (.int .i64 i)= .ok i:=rfl;unfold aU;simp only [hn,Mt,hb,cond_true,Yt,R.aw,h_,qa1]
theorem gu (Q:List (Nat×Nat)):∀l∈Q.map fY,l.length=2:=fun l hl=>by
 obtain⟨_,_,rfl⟩:=qa3.1 hl;rfl
theorem zE.at {P:List (Nat×Nat)} {x:Value} {p:Nat×Nat} (h:zE A b P x) (hi:P[i]?=some p):ag af A.get 3 (pw b (i*2))= .ok (.int .i64 p.1)∧ag af A.get 3 (pw b (i*2+1))= .ok (.int .i64 p.2):=by
 obtain⟨Q,c,k,rfl,h2,h3,h4,h5,h6,h7⟩:=h;have hil:=(qap.1 hi).1;have hr:(Q.map fY)[i]?=some (fY p):=by
  rw [qaN,show Q[i]?=some p by rw [←hi,←h6,qbm,if_pos hil]];rfl
 exact⟨aQ u3 rfl h3 (by have:=dy (gu Q) hr (j:=0) (by omega);rw [qa8] at this;rw [this];rfl),aQ u3 rfl h3 (by rw [dy (gu Q) hr (j:=1) (by omega)];rfl)⟩
theorem zE.W8 {P:List (Nat×Nat)} {x:Value} {p:Nat×Nat} (h:zE A b P x) (hi:P[i]?=some p):∃A',aW af A 3 (pw b (i*2+1)) (.int .i64 n)= .ok A'∧zE A' b (P.set i (p.1,n)) x∧A'.next=A.next∧∀z,z≠b→A'.get z=A.get z:=by
 obtain⟨Q,c,k,rfl,h2,h3,h4,h5,h6,h7⟩:=h;have hil:=(qap.1 hi).1;have hri:Q[i]?=some p:=by rw [←hi,←h6,qbm,if_pos hil]
 have hr:(Q.map fY)[i]?=some (fY p):=by rw [qaN,hri];rfl
 have hlen:=cM (gu Q);have hlt:=pI (gu Q) (i:=i) (j:=1) (by rw [qas];omega) (by omega);obtain⟨A',e1,e2,e3,e4⟩:=aL (tb:=af) (t:=3) (v:=.int .i64 n) VU h3 hlt rfl rfl;refine⟨A',e1,⟨Q.set i (p.1,n),c,k,by rw [qaQ],by omega,?_,by rw [qaQ];exact h4,by rw [qaQ,qaQ];exact h5,by rw [qaQ,List.take_set,h6],h7⟩,e3,e4⟩;rw [show((Q.set i (p.1,n)).map fY).flatten=(Q.map fY).flatten.set (i*2+1) (.int .i64 n) from ?_]
 ·exact e2
 ·refine List.ext_getElem? fun j=>?_
  rw [qeD];by_cases hj:j<(Q.map fY).flatten.length
  ·rw [mw (gu Q) rfl (by rw [qas];omega) j hj,qbB];by_cases h0:j=i*2
   ·subst h0;have:=dy (gu Q) hr (j:=0) (by omega);rw [qa8] at this;rw [if_pos (by omega),if_neg (by omega),this,qbq];rfl
   ·by_cases h1:j=i*2+1
    ·subst h1;rw [if_pos (by omega),if_pos rfl,if_pos hlt,show i*2+1-i*2=1 by omega];rfl
    ·rw [if_neg (by omega),if_neg (by omega)]
  ·have e:(((Q.map fY).set i (fY (p.1,n))).flatten).length=(Q.map fY).flatten.length:=by
    rw [hlen,cM (n:=2) (fun l hl=>by
     rcases qbR hl with hl|rfl
     ·exact gu Q l hl
     ·rfl),qaQ]
   rw [qbc (by omega),qbc (by rw [qaQ];omega)]
theorem zE.push {b2:Nat} {P:List (Nat×Nat)} {x:Value} {p:Nat×Nat} (h:zE A b P x) (hb2:A.get b2=some (aa 334 (fY p))) (hl:P.length<1000000):
 ∃x' A' b',bj af A 335 335 x (.slice (some ⟨b2,0,none⟩) 1 2)= .ok (x',A')∧zE A' b' (P++[p]) x'∧(b'=b∨b'=A.next)∧A.next≤A'.next∧∀y,y≠b→y<A.next→A'.get y=A.get y:=by
 obtain⟨Q,c,k,rfl,h2,h3,h4,h5,h6,h7⟩:=h;have hnew:eN A.get 2 1 (.slice (some ⟨b2,0,none⟩) 1 2)= .ok (fY p):=by
  have:=ep (n:=2) (m:=1) (dz (e:=334) (k:=.var (fY p).length) hb2) rfl;exact this
 have h1c:∀v∈fY p,aJ v=true:=by simp [fY,aJ]
 have hlen:=cM (gu Q);rw [qas] at hlen;obtain⟨ti,t1,t2,t3⟩:=YH;by_cases hroom:P.length+1≤Q.length
 ·obtain⟨A',e1,e2,e3,e4⟩:=h3.put (o:=P.length*2) (vs:=fY p) h1c (by rw [hlen];simp [fY];omega) (by simp [fY]);have hble:qaq (P.length+1) (bJ c)=true:=qbd (by omega);refine⟨.slice (some ⟨b,0,none⟩) (P.length+1) c,A',b,?_,⟨Q.set P.length p,c,k,by rw [qar];rfl,by omega,?_,by rw [qaQ];exact h4,by rw [qaQ,qar];exact hroom,?_,h7⟩,.inl rfl,by omega,fun y hy _=>e3 y hy⟩
  ·unfold bj cO;simp only [Mt,eP,cond_false,QC,R.aw,gP,hnew,hble,cond_true,h_,qa1,e1]
  ·refine e4 _ ?_ fun j hj=>?_
   ·rw [hlen,cM (gu _),qas,qaQ]
   ·rw [qeD,mw (gu Q) rfl (by rw [qas];omega) j hj];rfl
  ·rw [qar,qaS,qaC (by rw [qaQ];omega),List.take_set_of_le (qao _),h6,List.getElem_set_self]
 ·have hRP:Q=P:=by rw [←h6,qcq (by omega)]
  have hble:qaq (P.length+1) (bJ c)=false:=by
   cases hq:qaq (P.length+1) (bJ c) with
   |false=>rfl
   |true=>have:=qaG hq;omega
  have hlim:(qaq (P.length+1) 16777216&&qaq ti.bytes 65536&&qax 0 ti.bytes&&qax 0 2&&qax 2 65536)=true:=by
   have a1:qaq (P.length+1) 16777216=true:=qbd (by omega);have a2:qaq ti.bytes 65536=true:=qbd t3;have a3:qax 0 ti.bytes=true:=by rw [qaH];exact t2
   rw [a1,a2,a3];rfl
  have hel:c9 A.get 2 P.length (some ⟨b,0,none⟩)= .ok (Q.map fY).flatten:=ep h3 (by rw [hlen,hRP]);have fin:∀A0:Mem,A0.next=A.next→zE (A0.alloc (.cells 334 .row 0 (T.bK .e 0 ((Q.map fY).flatten++fY p)))) A.next (P++[p]) (.slice (some ⟨A.next,0,none⟩) (P.length+1) (fQ (P.length+1) 2)):=fun A0 hn=>
   ⟨P++[p],fQ (P.length+1) 2,.row,by rw [qar];rfl,by rw [ae];omega,by rw [qbe,List.flatten_append,←hRP];simp only [qbx,qcp,qb3,List.flatten_nil,qbt];exact dz (by rw [←hn];exact ax _ _),by rw [cD (by omega),qar];rfl,qao _,qaR,.inr ⟨cX _ _,c7 (by omega),rfl⟩⟩
  rcases h7 with hx|⟨hx,he,rfl⟩
  ·refine⟨_,A.alloc (.cells 334 .row 0 (T.bK .e 0 ((Q.map fY).flatten++fY p))),A.next,?_,fin A rfl,.inr rfl,by rw [ae];omega,fun y _ hlt=>aB (by omega)⟩;unfold bj cO;simp only [Mt,eP,cond_false,QC,R.aw,gP,hnew,hble,t1,hlim,cond_true,hel,hx]
  ·obtain⟨cs,q1,q2⟩:=h3;have hone:(fY p).all aJ=true:=qby.2 h1c;have hbe:qaw (gO c) 2=true:=by rw [he];rfl
   have hfz:(qaq 0 (0+P.length*2)&&(qaw 334 334&&qax 0 9223372036854775808))=true:=by
    have h0:qax 0 9223372036854775808=true:=by rw [qaH];omega
    rw [h0];simp
   refine⟨_,(A.set b .dead).alloc (.cells 334 .row 0 (T.bK .e 0 ((Q.map fY).flatten++fY p))),A.next,?_,fin (A.set b .dead) (aO _ _ _),.inr rfl,by rw [ae,aO];omega,fun y hy hlt=>by rw [aB (by rw [aO];omega),aC,if_neg hy]⟩;unfold bj cO;simp only [Mt,eP,cond_false,QC,R.aw,gP,hnew,hble,t1,hlim,cond_true,hel,hx,hbe,hone,qci,q1,hfz]
theorem zE.pop {P:List (Nat×Nat)} {x:Value} {p:Nat×Nat} (h:zE A b (P++[p]) x):∃x',c6 af 335 x none (some (.int .i64 (P.length:Nat))) none= .ok x'∧zE A b P x':=by
 obtain⟨Q,c,k,rfl,h2,h3,h4,h5,h6,h7⟩:=h;rw [qar,qaS] at*;have e1:bound (some (.int .i64 (P.length:Nat))) (P.length+1) (bJ c)= .ok P.length:=fA (by omega);have hx:(dN c&&qaw (bJ c) 0)=false:=by
  have:qaw (bJ c) 0=false:=by
   cases hq:qaw (bJ c) 0 with
   |false=>rfl
   |true=>have:=qaL hq;omega
  rw [this,Bool.and_false]
 have hf:dV c 2=true:=by
  unfold dV;rcases h7 with h|⟨h,he,-⟩
  ·rw [h];rfl
  ·rw [h,he];rfl
 refine⟨.slice (some ⟨b,0,none⟩) P.length (gh c 0),?_,Q,gh c 0,k,rfl,h2,h3,by rw [gS,h4,qbA],by omega,?_,?_⟩
 ·unfold c6;simp only [Mt,e1,R.aw,eX,Yt,hx,cond_false,hf,cond_true,h_,qcN,qa8,qbA]
 ·have:=congrArg (qeM P.length) h6;rwa [List.take_take,qbr (by omega),List.take_left] at this
 ·rw [jO];rcases h7 with h|⟨h,he,hk⟩
  ·exact .inl h
  ·exact .inr ⟨h,by rw [rK h];exact he,hk⟩
theorem Tc {p:Nat×Nat} (hb:b<A.next) (h:dw A 334 b (.var 2) (fY p)):zE A b [p] (.slice (some ⟨b,0,none⟩) 1 2):=
 ⟨[p],2,.var 2,rfl,hb,by simpa using h,rfl,qao _,rfl,.inl rfl⟩
theorem AM:∀l:List cJ,l.foldl (jd M k) none=none
 | []=>rfl
 |a::l=>by rw [qbu];exact AM l
theorem EI (l:List cJ) (left:Nat):∀n j,j+n=l.length→∃q,j≤q∧q≤l.length∧(∀r (h:r<l.length),j≤r→r<q→(l[r]).to<left)∧(q=l.length∨∃a,l[q]?=some a∧left≤a.to)
 |0,j,h=>⟨j,qao _,by omega,fun r _ h1 h2=>by omega,.inl (by omega)⟩
 |n+1,j,h=>by
  by_cases hj:left≤(l[j]'(by omega)).to
  ·exact⟨j,qao _,by omega,fun r _ h1 h2=>by omega,.inr ⟨_,qan (by omega),hj⟩⟩
  ·obtain⟨q,h1,h2,h3,h4⟩:=EI l left n (j+1) (by omega);refine⟨q,by omega,h2,fun r hr ha hb=>?_,h4⟩;rcases qaZ j r with hlt|hge
   ·exact h3 r hr hlt hb
   ·have:r=j:=by omega
    subst this;omega
theorem AN {left:Nat} {l:List cJ} {q:Nat} (hq:q≤l.length):∀n j,j+n=q→(∀r (h:r<l.length),j≤r→r<q→(l[r]).to<left)→(l.drop j).foldl (jd M k) (some left)=(l.drop q).foldl (jd M k) (some left)
 |0,j,h,_=>by rw [show j=q by omega]
 |n+1,j,h,hs=>by
  have ht:=hs j (by omega) (qao _) (by omega);rw [qbi (show j<l.length by omega),qbu];have e:jd M k (some left) (l[j]'(by omega))=some left:=by unfold jd;rw [qcf,if_neg (by omega)]
  rw [e];exact AN hq n (j+1) (by omega) fun r hr h1 h2=>hs r hr (by omega) h2
noncomputable def kP:Code:=qbX.body.getD .skip
noncomputable def ec:Code:=sub kP [1,0,1,1,1,0,0,0]
noncomputable def Cz:Code:=sub ec [1,0,1,1,0,0,0]
theorem Q9:qbX.body=some (.seq (sub kP [0]) (.scope (.seq (sub kP [1,0,0]) (.seq (sub kP [1,0,1,0]) (.seq (sub kP [1,0,1,1,0]) (.seq (.block 0 (.loop ec)) (.seq (sub kP [1,0,1,1,1,1,0]) (sub kP [1,0,1,1,1,1,1])))))))):=by kernel_rfl
theorem As:ec=(.seq (sub ec [0]) (.block 1 (.seq (sub ec [1,0,0]) (.seq (sub ec [1,0,1,0]) (.seq (.block 2 (.loop Cz)) (.seq (sub ec [1,0,1,1,1,0]) (.seq (sub ec [1,0,1,1,1,1,0]) (sub ec [1,0,1,1,1,1,1])))))))):=by kernel_rfl
variable {o:Nat}
theorem NU:av af 334 (pw b o) 0= .ok (pw b o):=by kernel_rfl
theorem Hw:av af 334 (pw b o) 1= .ok (pw b (o+1)):=by kernel_rfl
theorem TB {n:Int}:ct af 334 [(0,.int .i64 n)]= .ok (.agg ⟨[.int .i64 n,iN 0]⟩):=by kernel_rfl
theorem TG {m n:Int}:a6 af 335 1 [(0,.agg ⟨[.int .i64 m,.int .i64 n]⟩)]= .ok (aa 334 [.int .i64 m,.int .i64 n],.mO 1 2):=by kernel_rfl
def Head (B:Mem) (p:Nat) (V:List (Nat×Nat)) (left:Nat) (t:T Value) (D:Mem):Prop:=∃b x,zE D b V x∧B.next≤b∧Kp B D∧Sl t [(1,pV p),(3,.int .i64 left),(4,x)]
theorem xU {α:Type} (l:List α) (a:α):(l++[a])[l.length]?=some a:=by rw [qaF (qao _),qbq];rfl
theorem PW {α:Type} (l:List α) (a b:α):(l++[a]).set l.length b=l++[b]:=by rw [qdd _ _ (qao _),qbq];rfl
theorem Bi {D:Mem} {k:Value} {q left:Nat} {s:aZ} {V:List (Nat×Nat)} (h:dJ A M y) (hAB:Kp A B) (vB:VB B 115 A.next (.var 2) [y,k]) (hi:M[i]?=some s) (hl:s.arcs.length≤256) (hM:M.length<1000000) (hW:V.length<100000) (hL:left<1000000)
 (hjq:j≤q) (hq:q≤s.arcs.length) (hsk:∀r (h:r<s.arcs.length),j≤r→r<q→(s.arcs[r]).to<left) (hend:(q=s.arcs.length∧i=left)∨∃a,s.arcs[q]?=some a∧left≤a.to) (hH:Head B A.next (V++[(i,j)]) left t D):
 W af ec ⟨t,79,[],D,none⟩ fun e s'=>e= .nrm∧∃t' D',s'=⟨t',79,[],D',none⟩∧((q=s.arcs.length∧Head B A.next V (left+1) t' D')∨∃a,s.arcs[q]?=some a∧left≤a.to∧Head B A.next (V++[(i,q+1)]++[(a.to,0)]) left t' D'):=by
 obtain⟨b,x,hS,hb,hK,g1,g3,g4,-⟩:=hH;obtain⟨xs,p,r,i1,i2,hx,i4⟩:=(h.kp hAB).get hi;have i5:=(i4 D hK).2;have ly:ag af D.get 112 (pw A.next 0)= .ok y:=(vB.kp hK).ld rfl fy rfl;have ls:=hS.len;rw [qar,qaS] at ls;have hpos:0<V.length+1:=by omega
 have s1:aM .sub .i64 ((V.length+1:Nat):Int) ((1:Nat):Int)= .ok (iN V.length):=br (by omega) (aV (by omega));have ix:=hS.idx (i:=V.length) (by rw [qar,qaS];omega);obtain⟨e0,e1⟩:=hS.at (xU V (i,j));simp only [pV] at*;rw [As];apply W.q
 ·intro M;simp (disch:=first|decide+kernel|omega) only [ec,kP,qbX,Aq,qal,g4,ls,cT,bY,hpos];rfl
 apply W.block;apply W.q
 ·intro M;simp (disch:=first|decide+kernel|omega) only [ec,kP,qbX,Aq,qal,g4,ls,s1,ix];rfl
 apply W.q
 ·intro M;simp (config:={maxSteps:=4000000}) (disch:=first|decide+kernel|omega|simp only [Wq,qal]) only [ec,kP,qbX,Aq,qaq,reduceIte,qal,qam,g1,ed,ly,ak,aF,NU,e0,i1,i2,i5,Fq,aA []];rfl
 apply W.seq;apply W.block;refine W.up q (fun j t D=>∃b x,zE D b (V++[(i,j)]) x∧B.next≤b∧Kp B D∧(∀r (h:r<s.arcs.length),j≤r→r<q→(s.arcs[r]).to<left)∧Sl t [(1,pw A.next 0),(3,.int .i64 left),(4,x),(5,pw b (V.length*2)),(6,xs)]) ?_ hjq ⟨b,x,hS,hb,hK,hsk,?_⟩
 ·rintro j t D hj ⟨b,x,hS,hb,hK,hsk,g1,g3,g4,g5,g6,-⟩;obtain⟨e0,e1⟩:=hS.at (xU V (i,j));have lx:=(hx.kp hK).len;by_cases hlt:j<s.arcs.length
  ·have hsj:s.arcs[j]?=some s.arcs[j]:=qan hlt;obtain⟨pa,j1,pq,j2,j3⟩:=(hx.kp hK).to hsj;have a1:aM .add .i64 ((j:Nat):Int) ((1:Nat):Int)= .ok (iN (j+1)):=bf (aV (by omega));obtain⟨E,sE,hSE,nE,fE⟩:=hS.W8 (n:=j+1) (xU V (i,j));rw [PW] at hSE;have kE:Kp B E:=⟨by have:=hK.1;omega,fun z hz=>by rw [fE z (by omega),hK.2 z hz]⟩;by_cases hjq:j<q
   ·have hto:¬left≤(s.arcs[j]).to:=by have:=hsk j hlt (qao _) hjq;omega
    apply W.run 20
    ·intro M;simp (disch:=first|decide+kernel|omega) only [Cz,ec,kP,qbX,Aq,qal,g3,g5,g6,ak,aF,Hw,e1,lx,hlt,j1,j2,j3,a1,sE,ef,cL,hto];rfl
    refine⟨hjq,_,_,rfl,b,x,hSE,hb,kE,fun r hr h1 h2=>hsk r hr (by omega) h2,?_⟩;simp only [Sq,qal,qam,g1,g3,g4,g5,g6]
   ·have e:j=q:=by omega
    subst e;rcases hend with⟨e,-⟩|⟨a,ha,hto⟩
    ·omega
    ·have ea:s.arcs[j]=a:=by rw [hsj] at ha;exact qbo ha
     rw [ea] at j3;have kF:=Kp.alloc E (aa 334 (fY (a.to,0)));obtain⟨x',G,b',happ,hSG,hb',nG,fG⟩:=(hSE.same kF.1 (kF.2 _ (by obtain⟨_,_,_,_,h,_⟩:=hSE;exact h))).push (b2:=E.next) (p:=(a.to,0)) (ax E _) (by rw [qar,qaS];omega);rw [ae] at nG hb' fG;have happ':bj af (E.alloc (aa 334 [iN a.to,iN 0])) 335 335 x (.slice (some ⟨E.next,0,none⟩) 1 2)= .ok (x',G):=happ;apply W.run 20
     ·intro M;simp (disch:=first|decide+kernel|omega) only [Cz,ec,kP,qbX,Aq,qal,g3,g4,g5,g6,ak,aF,Hw,e1,lx,hlt,j1,j2,j3,a1,sE,ef,cL,hto,TB,TG,happ',show qaw 1 3=false from rfl];rfl
     have nk:=kE.1;refine⟨rfl,_,_,rfl,.inr ⟨a,ha,hto,b',x',hSG,by omega,⟨by omega,fun z hz=>by rw [fG z (by omega) (by omega),kF.2 z (by omega),kE.2 z hz]⟩,?_⟩⟩;simp only [Sq,qal,qam,g1,g3,pV]
  ·have e:j=s.arcs.length:=by omega
   subst e;have hqe:q=s.arcs.length:=by omega
   subst hqe;rcases hend with⟨-,hil⟩|⟨a,ha,-⟩
   ·subst hil;have a1:aM .add .i64 ((i:Nat):Int) ((1:Nat):Int)= .ok (iN (i+1)):=bf (aV (by omega));have ls:=hS.len;rw [qar,qaS] at ls;obtain⟨x',hsl,hS'⟩:=hS.pop;apply W.run 20
    ·intro M;simp (disch:=first|decide+kernel|omega) only [Cz,ec,kP,qbX,Aq,qal,g3,g5,g6,ak,aF,Hw,e1,lx,qdh];rfl
    apply W.q
    ·intro M;simp (disch:=first|decide+kernel|omega) only [ec,kP,qbX,Aq,qal,g3,g5,ak,aF,NU,e0];rfl
    apply W.q
    ·intro M;simp (disch:=first|decide+kernel|omega) only [ec,kP,qbX,Aq,qal,g3,a1];rfl
    apply W.run 20
    ·intro M;simp (disch:=first|decide+kernel|omega) only [ec,kP,qbX,Aq,qal,g4,ls,s1,hsl];rfl
    refine⟨rfl,_,_,rfl,.inl ⟨rfl,b,x',hS',hb,hK,?_⟩⟩;simp only [Sq,qal,qam,g1,pV]
   ·rw [qbc (qao _)] at ha;cases ha
 ·simp only [Sq,qal,qam,g1,g3,g4]
def Y8 (B:Mem) (p:Nat) (K:Ex→St→Prop) (W1:List (Nat×Nat)) (l1:Nat) (W2:List (Nat×Nat)) (l2:Nat):Prop:=
 (∀t D,Head B p W2 l2 t D→W af (.loop ec) ⟨t,79,[],D,none⟩ K)→∀t D,Head B p W1 l1 t D→W af (.loop ec) ⟨t,79,[],D,none⟩ K
theorem O2 {k:Value} {K:Ex→St→Prop} (h:dJ A M y) (hAB:Kp A B) (vB:VB B 115 A.next (.var 2) [y,k]) (g:dg M) (hM:M.length<1000000) {f:Nat}
 (ih:∀i left L V,gk M f i left=some L→V.length+i<100000→left≤M.length→Y8 B A.next K (V++[(i,0)]) left V L∧L≤M.length) {s:aZ} {V:List (Nat×Nat)} (hi:M[i]?=some s) (hW:V.length+i<100000):
 ∀n j left,j+n=s.arcs.length→left≤M.length→(s.arcs.drop j).foldl (jd M f) (some left)=some i→Y8 B A.next K (V++[(i,j)]) left V (i+1):=by
 intro n
 induction n using qcL with
 |ind n ihn=>
  intro j left hj hle hf hk t D hH;have hfew:=np (g i s hi);obtain⟨q,h1,h2,h3,h4⟩:=EI s.arcs left n j hj;rw [AN h2 (q-j) j (by omega) h3] at hf;rcases qaZ q s.arcs.length with hlt|hge
  ·have hsq:=qan hlt;rcases h4 with h4|⟨a,ha,hto⟩
   ·omega
   ·have ea:s.arcs[q]=a:=by rw [hsq] at ha;exact qbo ha
    rw [qbi hlt,qbu,ea] at hf;have e:jd M f (some left) a=gk M f a.to left:=by unfold jd;rw [qcf,if_pos hto]
    rw [e] at hf;have hai:=(g i s hi).2.2.1 a (qa0 ha);cases hv:gk M f a.to left with
    |none=>rw [hv,AM] at hf;cases hf
    |some L1=>
     rw [hv] at hf;obtain⟨n1,n2⟩:=ih a.to left L1 (V++[(i,q+1)]) hv (by rw [qar,qaS];omega) hle;have n3:=ihn (n-(q+1-j)) (by omega) (q+1) L1 (by omega) n2 hf;refine W.round ((Bi h hAB vB hi hfew hM (by omega) (by omega) h1 h2 h3 (.inr ⟨a,ha,hto⟩) hH).mono ?_);rintro e s' ⟨rfl,t',D',rfl,⟨e,-⟩|⟨a',ha',-,hH'⟩⟩
     ·omega
     ·rw [ha] at ha';cases ha';exact n1 (n3 hk) t' D' hH'
  ·have e:q=s.arcs.length:=by omega
   subst e;rw [qd4] at hf;have hil:i=left:=(qbo hf).symm;refine W.round ((Bi h hAB vB hi hfew hM (by omega) (by omega) h1 h2 h3 (.inl ⟨rfl,hil⟩) hH).mono ?_);rintro e s' ⟨rfl,t',D',rfl,⟨-,hH'⟩|⟨a',ha',-⟩⟩
   ·rw [←hil] at hH';exact hk t' D' hH'
   ·rw [qbc (qao _)] at ha';cases ha'
theorem Bj {k:Value} {K:Ex→St→Prop} (h:dJ A M y) (hAB:Kp A B) (vB:VB B 115 A.next (.var 2) [y,k]) (g:dg M) (hM:M.length<1000000):
 ∀f i left L V,gk M f i left=some L→V.length+i<100000→left≤M.length→Y8 B A.next K (V++[(i,0)]) left V L∧L≤M.length
 |0,i,left,L,V,hv,_,_=>by cases hv
 |f+1,i,left,L,V,hv,hW,hle=>by
  cases hi:M[i]? with
  |none=>rw [gk,hi] at hv;cases hv
  |some s=>
   rw [s_ hi] at hv;cases hf:s.arcs.foldl (jd M f) (some left) with
   |none=>rw [hf] at hv;cases hv
   |some L'=>
    rw [hf,qcf] at hv;split at hv
    ·rename_i e;subst e;cases hv;refine⟨O2 h hAB vB g hM (fun i left L W a b c=>Bj h hAB vB g hM f i left L W a b c) hi hW s.arcs.length 0 left (by omega) hle (by rw [qdq];exact hf),(qap.1 hi).1⟩
    ·cases hv
theorem FR {k:Value} {f:Nat} (h:dJ A M y) (g:dg M) (hM0:M≠ []) (hM:M.length<100000) (hv:gk M f (M.length-1) 0=some M.length):∃v A',bg af 191 [.agg ⟨[y,k]⟩] A v A'∧v= .bool true∧Kp A A':=by
 refine cF (aq Tryz.func191) Q9 (by kernel_rfl) ?_;have hpos:=qa6.2 hM0;have kB:=Kp.alloc A (aa 115 [y,k]);have vB:=ay A 115 [y,k];apply W.q
 ·intro M;simp (disch:=first|decide+kernel|omega) only [kP,qbX,Aq,qal,au];rfl
 generalize A.alloc (aa 115 [y,k])=B at kB vB;have lB:ag af B.get 112 (pw A.next 0)= .ok y:=vB.ld rfl fy rfl;have bX:=(h.kp kB).len;have s1:aM .sub .i64 ((M.length:Nat):Int) ((1:Nat):Int)= .ok (iN (M.length-1)):=br (by omega) (aV (by omega));have kC:=Kp.alloc B (aa 334 (fY (M.length-1,0)));have vC:=ay B 334 (fY (M.length-1,0));have hC:B.alloc (aa 334 [iN (M.length-1),iN 0])=B.alloc (aa 334 (fY (M.length-1,0))):=rfl;apply W.scope;apply W.q
 ·intro M;simp (disch:=first|decide+kernel|omega) only [kP,qbX,Aq,qal];rfl
 apply W.q
 ·intro M;simp (disch:=first|decide+kernel|omega) only [kP,qbX,Aq,qal,ed,lB,bX,s1,TB,TG,hC];rfl
 generalize B.alloc (aa 334 (fY (M.length-1,0)))=C at kC vC;apply W.seq;refine W.run 1 (fun m=>rfl) ?_;apply W.seq;apply W.block;refine(Bj h kB vB g (by omega) f (M.length-1) 0 M.length [] hv (by simp;omega) (qaB _)).1 ?_ _ _ ⟨B.next,.slice (some ⟨B.next,0,none⟩) 1 2,Tc vC.1 vC.2,qao _,kC,?_⟩
 ·rintro t D ⟨b,x,hS,-,hK,g1,g3,g4,-⟩;have ls:=hS.len;have lD:ag af D.get 112 (pw A.next 0)= .ok y:=(vB.kp hK).ld rfl fy rfl;have lenD:=(h.kp (kB.trans hK)).len;simp only [pV] at g1;apply W.round;rw [As];apply W.seq;apply W.run 20
  ·intro M;simp (disch:=first|decide+kernel|omega) only [ec,kP,qbX,Aq,qal,g4,ls,cT,bY,qaT];rfl
  apply W.seq;apply W.run 20
  ·intro M;simp (disch:=first|decide+kernel|omega) only [kP,qbX,Aq,qal,g1,g3,ed,lD,lenD];rfl
  apply W.run 20
  ·intro M;simp (disch:=first|decide+kernel|omega) only [kP,qbX,Aq,qal];rfl
  exact⟨by simp,rfl,_,(by simp only [qbX,Aq,qal]<;>rfl),rfl,kB.trans hK⟩
 ·simp only [Sq,qal,qam,pV]
theorem Xj:ct af 179 [(1,.map (some m))]= .ok (.agg ⟨[.slice none 0 0,.map (some m)]⟩):=by kernel_rfl
theorem Tq:bS af 179= .ok (.agg ⟨[.slice none 0 0,.map none]⟩):=by kernel_rfl
theorem Ks:bS af 188= .ok (.agg ⟨[.slice none 0 0,.bool false,uN 0,bN 0]⟩):=by kernel_rfl
theorem TA {x:Value} {s:aZ}:ct af 188 [(0,.agg ⟨cW x s⟩)]= .ok (.agg ⟨[x,.bool s.fin,.int .u64 s.out,bN 0]⟩):=by kernel_rfl
theorem ZF:aR af 179= .ok 2:=by kernel_rfl
theorem ZG:aR af 188= .ok 4:=by kernel_rfl
noncomputable def jJ:Code:=qcg.body.getD .skip
noncomputable def wQ:Code:=sub jJ [1,1,1,1,1,1,0,1,0,0]
theorem QV:qcg.body=some (.seq (sub jJ [0]) (.seq (sub jJ [1,0]) (.seq (sub jJ [1,1,0]) (.seq (sub jJ [1,1,1,0]) (.seq (sub jJ [1,1,1,1,0]) (.seq (sub jJ [1,1,1,1,1,0]) (.seq (.seq (sub jJ [1,1,1,1,1,1,0,0]) (.block 0 (.loop wQ))) (.seq (sub jJ [1,1,1,1,1,1,1,0]) (sub jJ [1,1,1,1,1,1,1,1]))))))))):=by kernel_rfl
theorem R0 {s:aZ} (hn:M.Nodup) (hf:∀s∈M,Fit s) (h:M[i]?=some s):fm s∉(M.take i).map fm:=by
 intro hm;obtain⟨u,hu,he⟩:=qa3.1 hm;obtain⟨j,hj,rfl⟩:=qbM hu;rw [qaE] at hj;rw [List.getElem_take] at he;obtain⟨hi,rfl⟩:=qap.1 h;have:=key_inj (hf _ (qbg (by omega))) (hf _ (qbg hi)) he;exact qbs.1 hn j i (by omega) hi (by omega) this
variable {C:Mem} {mk:Nat}
theorem LG {D:Mem} {s:aZ} (h:dJ A M y) (g:dg M) (hn:M.Nodup) (hf:∀s∈M,Fit s) (hM:M.length<100000) (hi:M[i]?=some s) (hAC:Kp A C) (hp:A.next≤p∧A.next≤mk) (hR:QJ C p mk ((M.take i).map fm) D)
 (hs:Sl t [(4,pV p),(43,y),(44,.int .i64 M.length),(45,.int .i64 i)]):
 W af wQ ⟨t,72,[],D,none⟩ fun e s'=>e= .nrm∧∃t' D',s'=⟨t',72,[],D',none⟩∧QJ C p mk ((M.take (i+1)).map fm) D'∧Sl t' [(4,pV p),(43,y),(44,.int .i64 M.length),(45,.int .i64 (i+1:Nat))]:=by
 obtain⟨g4,g43,g44,g45,-⟩:=hs;have hil:=(qap.1 hi).1;have hkn:=R0 hn hf hi;have htk:(M.take (i+1)).map fm=(M.take i).map fm++[fm s]:=by
  obtain⟨hi',rfl⟩:=qap.1 hi;rw [qaC hi',qbe];rfl
 obtain⟨-,-,-,hne,h0⟩:=g i s hi;have hfew:=np (g i s hi);have hkl:((M.take i).map fm).length=i:=by rw [qas,qaE];omega
 have kAD:Kp A D:=by
  obtain⟨_,_,_,-,-,-,-,-,e6,e7⟩:=hR;exact⟨by have:=hAC.1;omega,fun z hz=>by rw [e7 z (by have:=hAC.1;omega) (by omega) (by omega),hAC.2 z hz]⟩
 obtain⟨x,q,j1,j2,hx,-⟩:=(h.kp kAD).at hi;have sE:=BJ hx;have kE:=Kp.alloc D (aa 186 (cW x s));have vE:=ay D 186 (cW x s);have hxE:=hx.kp kE;have nE:(D.alloc (aa 186 (cW x s))).next=D.next+1:=ae _ _
 generalize hEe:D.alloc (aa 186 (cW x s))=E at sE kE vE hxE nE;have sF:aW af (E.alloc (aa 188 [.slice none 0 0,.bool false,.int .u64 (0:Nat),.int .u8 (0:Nat)])) 188 (.pointer (some ⟨E.next,0,none⟩)) (.agg ⟨[x,.bool s.fin,.int .u64 s.out,.int .u8 (0:Nat)]⟩)= .ok (E.alloc (aa 188 [x,.bool s.fin,.int .u64 s.out,.int .u8 (0:Nat)])):=bk ZG rfl rfl (by simp) (fun v hv=>by
  simp only [qaK,qbb,or_false] at hv;rcases hv with rfl|rfl|rfl|rfl
  ·obtain⟨b,hb⟩:=hx;exact(az.dk hb).2
  all_goals rfl)
 have kF:=Kp.alloc E (aa 188 [x,.bool s.fin,.int .u64 s.out,.int .u8 (0:Nat)]);have vF:=ay E 188 [x,.bool s.fin,.int .u64 s.out,.int .u8 (0:Nat)];generalize hFe:E.alloc (aa 188 [x,.bool s.fin,.int .u64 s.out,.int .u8 (0:Nat)])=F at sF kF vF;obtain⟨v1,G,⟨g1,h1⟩,rfl,kG⟩:=Ia (hxE.kp kF) vF hfew h0;obtain⟨v2,H,⟨g2,h2⟩,rfl,hRH⟩:=H9 (hR.kp (kE.trans (kF.trans kG))) (hxE.kp (kF.trans kG)) (hf s (qa0 hi)) hfew hkn (by rw [hkl];omega);rw [hkl] at h2;obtain⟨d,hd1,hd2⟩:=a8 (t:=186) (p:=true) (by kernel_rfl);have l0:ag af E.get 186 (.pointer (some ⟨D.next,0,none⟩))= .ok (.agg ⟨cW x s⟩):=aI hd1 hd2 (l:=cW x s) jD vE.2;have l1:ag af F.get 4 (.pointer (some ⟨D.next,0+1,none⟩))= .ok (.bool s.fin):=(vE.kp kF).ld rfl u4 rfl;have l2:ag af F.get 184 (.pointer (some ⟨D.next,0,none⟩))= .ok x:=(vE.kp kF).ld rfl mi rfl;have l3:ag af G.get 186 (.pointer (some ⟨D.next,0,none⟩))= .ok (.agg ⟨cW x s⟩):=aI hd1 hd2 (l:=cW x s) jD (vE.kp (kF.trans kG)).2;have lx:=(hxE.kp kF).len;rw [htk];simp only [pV] at g4;cases hfin:s.fin with
 |true=>
  rw [hfin] at l1;apply W.cN (g1+g2) 20
  ·intro M hM;simp (config:={maxSteps:=4000000}) (disch:=first|decide+kernel|omega|simp only [Wq,qal]) only [wQ,jJ,qcg,Aq,qaq,reduceIte,qal,qam,g4,g43,g44,g45,hil,j1,j2,jE,au,sE,l0,TA,Ks,sF,fk,ee,l1,l2,lx,h1,l3,h2];rfl
  refine⟨rfl,_,_,rfl,hRH,?_⟩;simp only [Sq,qal,qam,g4,g43,g44,pV]
 |false=>
  rw [hfin] at l1;have hlen:¬s.arcs.length=0:=by
   rcases hne with h|h
   ·rw [hfin] at h;cases h
   ·exact fun e=>h (qaP.1 e)
  apply W.cN (g1+g2) 20
  ·intro M hM;simp (config:={maxSteps:=4000000}) (disch:=first|decide+kernel|omega|simp only [Wq,qal]) only [wQ,jJ,qcg,Aq,qaq,reduceIte,qal,qam,g4,g43,g44,g45,hil,j1,j2,jE,au,sE,l0,TA,Ks,sF,fk,ee,l1,l2,lx,hlen,h1,l3,h2];rfl
  refine⟨rfl,_,_,rfl,hRH,?_⟩;simp only [Sq,qal,qam,g4,g43,g44,pV]
theorem L_ {f:Nat} (h:dJ A M y) (hM0:M≠ []) (g:Sto.Good M) (hf:∀s∈M,Fit s) (hM:M.length<100000) (hv:gk M f (M.length-1) 0=some M.length):∃v A',bg af 142 [.agg ⟨[y,.int .u64 k]⟩] A v A'∧v= .bool true∧Kp A A':=by
 refine cF (aq Tryz.func142) QV (by kernel_rfl) ?_;have hpos:=qa6.2 hM0;have kB:=Kp.alloc A (aa 115 [y,.int .u64 k]);have vB:=ay A 115 [y,.int .u64 k];apply W.q
 ·intro M;simp (disch:=first|decide+kernel|omega) only [jJ,qcg,Aq,qal,au];rfl
 have nB:(A.alloc (aa 115 [y,.int .u64 k])).next=A.next+1:=ae _ _
 generalize A.alloc (aa 115 [y,.int .u64 k])=B at kB vB nB;obtain⟨d,hd1,hd2⟩:=a8 (t:=115) (p:=true) (by kernel_rfl);have lw:∀D,Kp B D→ag af D.get 115 (.pointer (some ⟨A.next,0,none⟩))= .ok (.agg ⟨[y,.int .u64 k]⟩):=fun D hD=>aI hd1 hd2 (l:=[y,.int .u64 k]) du (vB.kp hD).2
 have ly:∀D,Kp B D→ag af D.get 112 (.pointer (some ⟨A.next,0,none⟩))= .ok y:=fun D hD=>(vB.kp hD).ld rfl fy rfl
 have l1:=lw B (Kp.refl _);obtain⟨v1,C,⟨g1,h1⟩,rfl,kC⟩:=H' (k:=k) (h.kp kB) hM0 g.1 (by omega);apply W.qG (g1)
 ·intro M hM;simp (disch:=first|decide+kernel|omega) only [jJ,qcg,Aq,qal,l1,h1];rfl
 have hr:M[M.length-1]?=some (M[M.length-1]'(by omega)):=qan (by omega)
 have hne:=(g.1 _ _ hr).2.2.2.1;obtain⟨x,q,j1,j2,hx,-⟩:=(h.kp (kB.trans kC)).at hr;generalize M[M.length-1]'(by omega)=s at*
 have sE:=BJ hx;have kE:=Kp.alloc C (aa 186 (cW x s));have vE:=ay C 186 (cW x s);generalize hEe:C.alloc (aa 186 (cW x s))=E at sE kE vE;have l2:=ly C kC;have lenC:=(h.kp (kB.trans kC)).len;have s1:aM .sub .i64 ((M.length:Nat):Int) ((1:Nat):Int)= .ok (.int .i64 (M.length-1:Nat)):=br (by omega) (aV (by omega));apply W.q
 ·intro M;simp (disch:=first|decide+kernel|omega) only [jJ,qcg,Aq,qal,ed,l2,lenC,s1,j1,j2,jE,au,sE];rfl
 have e1:ag af E.get 4 (.pointer (some ⟨C.next,0+1,none⟩))= .ok (.bool s.fin):=vE.ld rfl u4 rfl;have e2:ag af E.get 184 (.pointer (some ⟨C.next,0,none⟩))= .ok x:=vE.ld rfl mi rfl;have lx:=(hx.kp kE).len;apply W.seq;refine W.to (n:=72) (fun t D=>D=E∧Sl t [(1,.pointer (some ⟨A.next,0,none⟩))]) ?_ ?_
 ·cases hfin:s.fin with
  |true=>
   rw [hfin] at e1;apply W.run 20
   ·intro M;simp (config:={maxSteps:=4000000}) (disch:=first|decide+kernel|omega|simp only [Wq,qal]) only [jJ,qcg,Aq,qaq,reduceIte,qal,qam,fk,ee,e1];rfl
   refine⟨rfl,_,_,rfl,rfl,?_⟩;simp only [Sq,qal,qam]
  |false=>
   rw [hfin] at e1;have hlen:¬s.arcs.length=0:=by
    rcases hne with h|h
    ·rw [hfin] at h;cases h
    ·exact fun e=>h (qaP.1 e)
   apply W.run 20
   ·intro M;simp (config:={maxSteps:=4000000}) (disch:=first|decide+kernel|omega|simp only [Wq,qal]) only [jJ,qcg,Aq,qaq,reduceIte,qal,qam,fk,ee,e1,e2,lx,hlen];rfl
   refine⟨rfl,_,_,rfl,rfl,?_⟩;simp only [Sq,qal,qam]
 ·rintro t D ⟨rfl,g1',-⟩;show W af _ _ _;have kBD:=kC.trans kE;have l3:=lw D kBD;obtain⟨v2,F,⟨g2,h2⟩,rfl,kF⟩:=FR (k:=.int .u64 k) (h.kp (kB.trans kBD)) g.1 hM0 hM hv;apply W.qG (g2)
  ·intro M hM;simp (disch:=first|decide+kernel|omega) only [jJ,qcg,Aq,qal,g1',l3,h2];rfl
  have kAF:=kB.trans (kBD.trans kF);have n1:(F.alloc (.map [] 0)).next=F.next+1:=ae _ _
  have k1:=Kp.alloc F (.map [] 0);have k2:=Kp.alloc (F.alloc (.map [] 0)) (aa 179 [.slice none 0 0,.map (some F.next)]);have n2:((F.alloc (.map [] 0)).alloc (aa 179 [.slice none 0 0,.map (some F.next)])).next=F.next+2:=by rw [ae,n1]
  have v2:=ay (F.alloc (.map [] 0)) 179 [.slice none 0 0,.map (some F.next)];have m2:((F.alloc (.map [] 0)).alloc (aa 179 [.slice none 0 0,.map (some F.next)])).get F.next=some (.map [] 0):=by rw [aB (by omega)];exact ax _ _
  have sG:aW af ((F.alloc (.map [] 0)).alloc (aa 179 [.slice none 0 0,.map none])) 179 (.pointer (some ⟨(F.alloc (.map [] 0)).next,0,none⟩)) (.agg ⟨[.slice none 0 0,.map (some F.next)]⟩)= .ok _:=bk (l':=[.slice none 0 0,.map (some F.next)]) ZF rfl rfl (by simp) (by simp [aJ]);rw [n1] at v2 sG;apply W.q
  ·intro M;simp (disch:=first|decide+kernel|omega) only [jJ,qcg,Aq,qal,jc,gB,Eb,Xj,Tq,au,n1,sG];rfl
  generalize (F.alloc (.map [] 0)).alloc (aa 179 [.slice none 0 0,.map (some F.next)])=G at k2 n2 v2 m2 sG;have kAG:=kAF.trans (k1.trans k2);have nF:=kAF.1;have l4:=ly G (kBD.trans (kF.trans (k1.trans k2)));have lenG:=(h.kp kAG).len;have hR:QJ G (F.next+1) F.next ((M.take 0).map fm) G:=⟨G.next,.slice none 0 0,[],v2,m2,.inl ⟨rfl,rfl⟩,rfl,⟨qao _,fun _=>rfl,by omega,by omega,by omega⟩,qao _,fun _ _ _ _=>rfl⟩
  apply W.seq;apply W.q
  ·intro M;simp (disch:=first|decide+kernel|omega) only [jJ,qcg,Aq,qal,g1',ed,l4,lenG];rfl
  apply W.block;refine W.up M.length (fun i t D=>QJ G (F.next+1) F.next ((M.take i).map fm) D∧Sl t [(4,pV (F.next+1)),(43,y),(44,.int .i64 M.length),(45,.int .i64 i)]) ?_ (qaB _) ⟨hR,?_⟩
  ·rintro i t D hi ⟨hR,hs⟩;by_cases hlt:i<M.length
   ·refine(LG h g.1 g.2.1 hf hM (qan hlt) kAG ⟨by omega,by omega⟩ hR hs).mono ?_;rintro e s' ⟨rfl,t',D',rfl,hR',hs'⟩;exact⟨hlt,t',D',rfl,hR',hs'⟩
   ·have e:i=M.length:=by omega
    subst e;obtain⟨_,_,_,-,-,-,-,-,e6,e7⟩:=hR;obtain⟨g4,g43,g44,g45,-⟩:=hs;apply W.run 20
    ·intro M;simp (disch:=first|decide+kernel|omega) only [wQ,jJ,qcg,Aq,qal,g44,g45];rfl
    apply W.q
    ·intro M;simp (disch:=first|decide+kernel|omega) only [jJ,qcg,Aq,qal];rfl
    apply W.run 20
    ·intro M;simp (disch:=first|decide+kernel|omega) only [jJ,qcg,Aq,qal];rfl
    exact⟨by simp,rfl,_,(by simp only [qcg,Aq,qal]<;>rfl),rfl,by show A.next≤D.next;omega,fun z hz=>by show D.get z=A.get z;rw [e7 z (by omega) (by omega) (by omega),kAG.2 z hz]⟩
  ·simp only [Sq,qal,qam,pV]
end Go.Proofs.YtjoceidiioppiaaGreatDoor.sto
namespace Go.Sto
open Go.Am Go.Mdl
variable {M:List aZ}
theorem YQ (g:dg M):∀i,i<M.length→ws M i≠ []:=by
 intro i
 induction i using qcL with
 |ind i ih=>
  intro hi;have hs:M[i]?=some M[i]:=qan hi;obtain⟨-,-,h3,h4,-⟩:=g i _ hs;rw [n_ g hs];generalize M[i]=s at*;rcases h4 with h4|h4
  ·rw [h4];simp
  ·obtain⟨a,rs,ha⟩:∃a rs,s.arcs=a::rs:=by cases h:s.arcs with
    |nil=>exact absurd h h4
    |cons a rs=>exact⟨a,rs,rfl⟩
   have hlt:=h3 a (by rw [ha];exact qaz);have:=ih a.to hlt (by omega);rw [ha,qbl];unfold jh;simp [this]
variable {i:Nat}
theorem O3 (g:Good M) {s:aZ} (hs:M[i]?=some s):s.out≤4294967296∧∀a∈s.arcs,a.out≤4294967296:=by
 have hi:=(qap.1 hs).1;have hw:=g.2.2 i hi;rw [n_ g.1 hs] at hw;obtain⟨h1,-,h3,-,-⟩:=g.1 i s hs;refine⟨?_,fun a ha=>?_⟩
 ·cases hf:s.fin with
  |false=>rw [h1 hf];omega
  |true=>
   rw [hf] at hw;exact hw ([],s.out) (by simp)
 ·obtain⟨w,hwm⟩:=qdl _ (YQ g.1 a.to (by have:=h3 a ha;omega));have:=hw (a.byte::w.1,a.out+w.2) (qbU _ (qds.2 ⟨a,ha,qa3.2 ⟨w,hwm,rfl⟩⟩));simp only at this;omega
end Go.Sto
namespace Go.Proofs.YtjoceidiioppiaaGreatDoor.sto
open Go.Am Go.Mdl Go.Sto
variable {M:List aZ}
theorem OG (g:Go.Sto.Good M):Lay M:=fun i s hs=>by
 have hm:s∈M:=qa0 hs;obtain⟨h1,-,h3,-,-⟩:=g.1 i s hs;obtain⟨h4,h5⟩:=O3 g hs;exact⟨N4 g hm,h1,by omega,fun a ha=>⟨h3 a ha,by have:=h5 a ha;omega⟩⟩
variable {i:Nat}
theorem Jd:∀{l:List cJ},i<18446744073709551616→(∀a∈l,a.out<18446744073709551616)→(l.flatMap (ky i)).length≤19*l.length
 | [],_,_=>qao _
 |a::l,hi,h=>by
  have h1:=Jd (l:=l) hi fun a ha=>h a (qay _ ha)
  have h2:=jy a.out (h a qaz);have h3:=jy (i-a.to) (by omega);have e:(ky i a).length=(cK a.out).length+(cK (i-a.to)).length+1:=by unfold ky;rw [qaA,qar]
  rw [qbl,qar,qaA,e];omega
variable {c:Nat}
theorem Ke (hc:c≤256):∀(M:List aZ) (i:Nat),i+M.length<1000000→(∀s∈M,s.arcs.length≤c∧s.out<18446744073709551616∧∀a∈s.arcs,a.out<18446744073709551616)→(jC i M).length≤(19*c+18)*M.length
 | [],_,_,_=>qao _
 |s::M,i,hi,h=>by
  rw [qaA] at hi;have h1:=Ke hc M (i+1) (by omega) fun s hs=>h s (qay _ hs)
  obtain⟨h2,h3,h4⟩:=h s qaz;have h5:=Jd (i:=i) (by omega) h4;have h6:(lu s).length≤18:=by
   unfold lu;have e1:=jy (2*s.arcs.length+1) (by omega);have e2:=jy (2*s.arcs.length) (by omega);have e3:=jy s.out h3;split
   ·rw [qar];omega
   ·omega
  rw [jC,qar,qaA];unfold Gs;rw [qar,Nat.mul_add];omega
end Go.Proofs.YtjoceidiioppiaaGreatDoor.sto
namespace Go.Proofs.YtjoceidiioppiaaGreatDoor.sto
open Go.Am Go.Mdl Go.Sto
structure W4 (l:List aP):Prop where
 ne:dO l≠ []
 good:Sto.Good (dO l)
 fit:∀s∈dO l,Fit s
 len:(dO l).length<10000
 visit:gk (dO l) (dO l).length ((dO l).length-1) 0=some (dO l).length
 words:ws (dO l) ((dO l).length-1)=l.map (D 0 (least l))
theorem Iq {l:List aP} (h:DV l):W4 l:=by
 obtain⟨h0,ha,hw,-,hlen,-,-,-,-⟩:=h;obtain⟨r1,-,r3,r4,r5,r6⟩:=NG h0 ha fun e he=>⟨(hw e he).2.1,(hw e he).2.2⟩
 have hr:(pX 256 l 0 (least l) []).2=(dO l).length-1:=by
  rcases r4 with⟨-,h⟩|⟨-,h⟩
  ·simp at h
  ·show _=(pX 256 l 0 (least l) []).1.length-1;omega
 have hpos:0<(dO l).length:=by
  have:(pX 256 l 0 (least l) []).2<(dO l).length:=r3;omega
 refine⟨qa6.1 hpos,r1,fun s hs=>?_,by omega,?_,?_⟩
 ·obtain⟨i,hi,rfl⟩:=qbM hs;have hsi:=qan hi;obtain⟨o1,o2⟩:=O3 r1 hsi;exact⟨qbj o1 (by omega),fun a hx=>⟨qbj (o2 a hx) (by omega),by have:=(r1.1 i _ hsi).2.2.1 a hx;omega⟩⟩
 ·have:=r6 (qaB _) (dO l).length (by rw [hr];omega);rwa [hr] at this
 ·rw [←hr];exact r5
def Pa (q1 q2:Nat):List Value:=[.func (.func 141) ⟨[]⟩ ⟨[.pointer (some ⟨q2,0,none⟩)]⟩,.func (.func 143) ⟨[]⟩ ⟨[.pointer (some ⟨q2,0,none⟩),.pointer (some ⟨q1,0,none⟩)]⟩,.func (.func 145) ⟨[]⟩ ⟨[.pointer (some ⟨q2,0,none⟩)]⟩,.func (.func 147) ⟨[]⟩ ⟨[.pointer (some ⟨q2,0,none⟩)]⟩,.func (.func 148) ⟨[]⟩ ⟨[.pointer (some ⟨q2,0,none⟩)]⟩]
variable {b:Nat}
theorem Xx {a:Nat}:a6 af 232 5 [(0,.func (.func 141) ⟨[]⟩ ⟨[pw b 0]⟩),(1,.func (.func 143) ⟨[]⟩ ⟨[pw b 0,pw a 0]⟩),(2,.func (.func 145) ⟨[]⟩ ⟨[pw b 0]⟩),(3,.func (.func 147) ⟨[]⟩ ⟨[pw b 0]⟩),(4,.func (.func 148) ⟨[]⟩ ⟨[pw b 0]⟩)]= .ok (aa 53 (Pa a b),.mO 5 10):=by kernel_rfl
theorem YL:af.ba 232=some (.slice 53):=by kernel_rfl
theorem qac:aR af 53= .ok 1:=by kernel_rfl
variable {C:Mem} {y:Value}
theorem Ss {l:List aP} {q1 q2:Nat} (h:DV l) (hS:dJ C (dO l) y) (v1:VB C 3 q1 (.var 1) [.int .i64 l.length]) (v2:VB C 115 q2 (.var 2) [y,.int .u64 (least l:Nat)]) (i:Nat) (hi:i<5):
 ∃f c,(Pa q1 q2)[i]?=some (.func (.func f) ⟨[]⟩ ⟨c⟩)∧∃D,bg af f c C (.bool true) D∧Kp C D:=by
 obtain⟨s1,s2,s3,s4,s5,s6⟩:=Iq h;obtain⟨h0,-,hw,hl,-⟩:=h;obtain⟨d,hd1,hd2⟩:=a8 (t:=115) (p:=true) (by kernel_rfl);have lf:ag af C.get 115 (.pointer (some ⟨q2,0,none⟩))= .ok (.agg ⟨[y,.int .u64 (least l:Nat)]⟩):=aI hd1 hd2 (l:=[y,.int .u64 (least l:Nat)]) du v2.2;have hpos:=qa6.2 s1;have hlp:=qa6.2 h0;have:i=0∨i=1∨i=2∨i=3∨i=4:=by omega
 rcases this with rfl|rfl|rfl|rfl|rfl
 ·obtain⟨v,D,⟨g,hg⟩,rfl,kD⟩:=L_ (k:=least l) hS s1 s2 s3 (by omega) s5;refine⟨141,_,rfl,D,?_,kD⟩;refine aT (g) 60 (aq Tryz.func141) (by kernel_rfl) fun M hM=>?_
  simp (disch:=first|decide+kernel|omega) only [Tryz.f141,Aq,qal,lf,hg]<;>rfl
 ·have hn:(ws (dO l) ((dO l).length-1)).length=l.length:=by rw [s6,qas]
  obtain⟨v,D,⟨g,hg⟩,rfl,kD⟩:=LO (k:=.int .u64 (least l:Nat)) hS ⟨rfl,rfl⟩ s2.1 s1 (by omega) (by omega);rw [hn] at hg;have l3:ag af D.get 3 (.pointer (some ⟨q1,0,none⟩))= .ok (.int .i64 l.length):=(v1.kp kD).ld rfl u3 rfl;refine⟨143,_,rfl,D,?_,kD⟩;refine aT (g) 60 (aq Tryz.func143) (by kernel_rfl) fun M hM=>?_
  simp (config:={maxSteps:=4000000}) (disch:=first|decide+kernel|omega|simp only [Wq,qal]) only [Tryz.f143,Aq,qaq,reduceIte,qal,qam,lf,hg,l3,cT,bY,hlp,qau,qav]<;>rfl
 ·obtain⟨v,D,⟨g,hg⟩,kD,x,rfl,-,-,hx⟩:=FQ (k:=.int .u64 (least l:Nat)) hS s2.1 s1 (by omega);have hle:x≤((255:Nat):Int):=by
   rcases hx with rfl|⟨w,hwm,rfl⟩
   ·omega
   ·rw [s6] at hwm;obtain⟨e,he,rfl⟩:=qa3.1 hwm;have:=(hw e he).2.1;show(((e.word.drop 0).length:Nat):Int)≤_;rw [qdq];omega
  refine⟨145,_,rfl,D,?_,kD⟩;refine aT (g) 60 (aq Tryz.func145) (by kernel_rfl) fun M hM=>?_
  simp (disch:=first|decide+kernel|omega) only [Tryz.f145,Aq,qal,lf,hg,nt,hle]<;>rfl
 ·have ly:ag af C.get 112 (.pointer (some ⟨q2,0,none⟩))= .ok y:=v2.ld rfl fy rfl;have hr:=qan (show(dO l).length-1<(dO l).length by omega);have hfin:((dO l)[(dO l).length-1]'(by omega)).fin=false:=by
   cases hf:((dO l)[(dO l).length-1]'(by omega)).fin with
   |false=>rfl
   |true=>
    have hm:([],((dO l)[(dO l).length-1]'(by omega)).out)∈ws (dO l) ((dO l).length-1):=by rw [n_ s2.1 hr,hf];simp
    rw [s6] at hm;obtain⟨e,he,hee⟩:=qa3.1 hm;have:=(hw e he).1;have hz:e.word.drop 0=[]:=congrArg Prod.fst hee;rw [qdq] at hz;rw [hz] at this;simp at this
  have lenC:=hS.len;have e1:aM .sub .i64 (((dO l).length:Nat):Int) ((1:Nat):Int)= .ok (.int .i64 ((dO l).length-1:Nat)):=br (by omega) (aV (by omega));obtain⟨b,rows,r1,r2,r3⟩:=hS;obtain⟨x,e2,-⟩:=r3 _ _ hr;have ix:=az.idx (tb:=af) (t:=112) (kd:=.i64) r1 fy jD (qap.1 e2).1;have lz:=az.load (tb:=af) (j:=1) r1 u4 rfl e2 rfl (by omega);rw [hfin] at lz;refine⟨147,_,rfl,C,?_,Kp.refl _⟩;refine bm 60 (aq Tryz.func147) (by kernel_rfl) fun M=>?_
  simp (disch:=first|decide+kernel|omega) only [Tryz.f147,Aq,qal,ed,ly,lenC,e1,ix,ee,lz]<;>rfl
 ·have hk:∀w∈ws (dO l) ((dO l).length-1),w.2+least l≤4294967296:=fun w hwm=>by
   rw [s6] at hwm;obtain⟨e,he,rfl⟩:=qa3.1 hwm;have h1:=least_le he;have h2:=zr (hw e he).2.2;show val e-least l+least l≤_;omega
  obtain⟨v,D,⟨g,hg⟩,kD,n,rfl⟩:=Dw (k:=least l) hS s2 s1 (by omega) hk;refine⟨148,_,rfl,D,?_,kD⟩;refine aT (g) 60 (aq Tryz.func148) (by kernel_rfl) fun M hM=>?_
  simp (disch:=first|decide+kernel|omega) only [Tryz.f148,Aq,qal,lf,hg,qau,qav]<;>rfl
noncomputable def Gr:Code:=qdQ.body.getD .skip
noncomputable def No:Code:=sub Gr [1,0,1,1,1,0,1,0,0]
theorem UA:qdQ.body=some (.seq (sub Gr [0]) (.scope (.seq (sub Gr [1,0,0]) (.seq (sub Gr [1,0,1,0]) (.seq (sub Gr [1,0,1,1,0]) (.seq (.seq (sub Gr [1,0,1,1,1,0,0]) (.block 0 (.loop No))) (.seq (sub Gr [1,0,1,1,1,1,0]) (sub Gr [1,0,1,1,1,1,1])))))))):=by kernel_rfl
variable {A:Mem}
theorem Ii {l:List aP} (h:DV l) (hS:dJ A (dO l) y):∃v A',bg af 84 [iN l.length,.agg ⟨[y,uN (least l)]⟩] A v A'∧v= .bool true∧Kp A A':=by
 refine cF (aq Tryz.func84) UA (by kernel_rfl) ?_;generalize hq:A.next=q
 have n1:(A.alloc (aa 3 [iN l.length])).next=q+1:=by rw [ae,hq]
 have n2:((A.alloc (aa 3 [iN l.length])).alloc (aa 115 [y,uN (least l)])).next=q+2:=by rw [ae,n1]
 have kB:=(Kp.alloc A (aa 3 [iN l.length])).trans (Kp.alloc _ (aa 115 [y,uN (least l)]));have v1:=(ay A 3 [iN l.length]).kp (Kp.alloc _ (aa 115 [y,uN (least l)]));have v2:=ay (A.alloc (aa 3 [iN l.length])) 115 [y,uN (least l)];rw [hq] at v1;rw [n1] at v2;apply W.q
 ·intro M;simp (disch:=first|decide+kernel|omega) only [Gr,qdQ,Aq,qal,au,fh,hq,n1];rfl
 generalize (A.alloc (aa 3 [iN l.length])).alloc (aa 115 [y,uN (least l)])=B at*;have kC:=Kp.alloc B (aa 53 (Pa q (q+1)));have vC:=ay B 53 (Pa q (q+1));have b2:=Xx (a:=q) (b:=q+1);apply W.scope;apply W.q
 ·intro M;simp (disch:=first|decide+kernel|omega) only [Gr,qdQ,Aq,qal,aY,b2,n2];rfl
 rw [n2] at vC;generalize B.alloc (aa 53 (Pa q (q+1)))=C at kC vC;have kAC:=kB.trans kC;have v1:=v1.kp kC;have v2:=v2.kp kC;have ll:aN af .len [232] [.slice (some ⟨q+2,0,none⟩) 5 10]= .ok (iN 5):=eu YL;apply W.q
 ·intro M;simp (disch:=first|decide+kernel|omega) only [Gr,qdQ,Aq,qal];rfl
 apply W.seq;refine W.run 1 (fun m=>rfl) ?_;apply W.seq;apply W.q
 ·intro M;simp (disch:=first|decide+kernel|omega) only [Gr,qdQ,Aq,qal,ll];rfl
 apply W.block;refine W.up 5 (fun i t D=>Kp C D∧Sl t [(4,.bool true),(14,.slice (some ⟨q+2,0,none⟩) 5 10),(15,iN 5),(16,.int .i64 i)]) ?_ (qaB _) ⟨Kp.refl _,?_⟩
 ·rintro i t D hi ⟨kD,g4,g14,g15,g16,-⟩;by_cases hlt:i<5
  ·obtain⟨f,c,e1,E,⟨g,hg⟩,kE⟩:=Ss h (hS.kp (kAC.trans kD)) (v1.kp kD) (v2.kp kD) i hlt;have ix:=ma (tb:=af) (t:=232) (b:=q+2) (o:=0) (len:=5) (cap:=10) (i:=i) (k:=.i64) YL qac hlt;rw [qa1] at ix;have lf:ag af D.get 53 (pw (q+2) i)= .ok (.func (.func f) ⟨[]⟩ ⟨c⟩):=by
    obtain⟨d,hd1,hd2⟩:=a8 (t:=53) (p:=false) (by kernel_rfl);exact(vC.kp kD).ld e1 hd1 hd2
   apply W.cN (g) 20
   ·intro M hM;simp (disch:=first|decide+kernel|omega) only [No,Gr,qdQ,Aq,qal,g14,g15,g16,hlt,ix,lf,hg];rfl
   refine⟨hlt,_,_,rfl,kD.trans kE,?_⟩;simp only [Sq,qal,qam,g14,g15]
  ·have e:i=5:=by omega
   subst e;apply W.run 20
   ·intro M;simp (disch:=first|decide+kernel|omega) only [No,Gr,qdQ,Aq,qal,g15,g16,qdh];rfl
   apply W.q
   ·intro M;simp (disch:=first|decide+kernel|omega) only [Gr,qdQ,Aq,qal,g4];rfl
   apply W.run 20
   ·intro M;simp (disch:=first|decide+kernel|omega) only [Gr,qdQ,Aq,qal];rfl
   exact⟨by simp,rfl,_,(by simp only [qdQ,Aq,qal]<;>rfl),rfl,kAC.trans kD⟩
 ·simp only [Sq,qal,qam]
variable {A':Mem} {v:Value}
theorem X_ {ih:Code→St→R (Ex×St)} {s:List UInt8} (h:Jn [aj s] A= .ok (v,A')):bA af ih (.fn 83 [aj s]) A= .ok (.val v A'):=
 cr (aq Tryz.func83) (by kernel_rfl) (c:=qdx.body.getD .skip) (by kernel_rfl) (nT (by simp only [tc,oR,T.aH];rfl)) h
def Ip (y:Value) (l:List aP):List Value:=[y,.int .u64 (least l:Nat),.int .i64 l.length,.int .i64 (((crc.bP (gq l)).length:Nat):Int)]
def nS (A:Mem) (l:List aP) (v:Value):Prop:=∃p y,v=pV p∧VB A 150 p (.var 4) (Ip y l)∧dJ A (dO l) y
variable {n:Nat}
theorem Vo {g:Nat→Option Ob}:vY af g .neq 143 (.tmp n) (.const .nilIface) .nilIface .nilIface= .ok (.bool false):=by kernel_rfl
theorem Xb {k:Int}:ct af 148 [(0,.agg ⟨[y,.int .u64 k]⟩)]= .ok (.agg ⟨[y,.int .u64 k]⟩):=by kernel_rfl
theorem Xc {k n m:Int}:ct af 150 [(0,.agg ⟨[y,.int .u64 k]⟩),(1,.int .i64 n),(2,.int .i64 m)]= .ok (.agg ⟨[y,.int .u64 k,.int .i64 n,.int .i64 m]⟩):=by kernel_rfl
theorem F4 (l:List UInt8):(crc.bP l).length≤l.length+4:=by
 unfold crc.bP;simp [crc.four]
theorem sm {l:List aP} (h:DV l):∃v A',bg af 35 [aj (crc.bP (gq l))] A v A'∧Kp A A'∧∃x,v= .tuple ⟨[x,iN 0]⟩∧nS A' l x:=by
 obtain⟨q1,-,-,q4,q5,q6,q7,q8,q9⟩:=id h;have hlen:=F4 (gq l);obtain⟨v,B,h1,kB,y,rfl,hS⟩:=LB (A:=A) (s:=crc.bP (gq l)) (n:=l.length) (k:=least l) (M:=dO l) (by omega) (crc.HX _) (by omega) q6 (by omega) q7 q8 (by show(gq l).length<_;omega);have kp:=fun ih=>X_ (ih:=ih) h1
 have kC:=Kp.alloc B (aa 115 [y,uN (least l)]);have vC:=ay B 115 [y,uN (least l)];have sC:aW af (B.alloc (aa 115 [.slice none 0 0,uN 0])) 115 (pw B.next 0) (.agg ⟨[y,uN (least l)]⟩)= .ok (B.alloc (aa 115 [y,uN (least l)])):=bk du rfl rfl (by simp) (fun v hv=>by
  simp only [qaK,qbb,or_false] at hv;rcases hv with rfl|rfl
  ·exact hS.self.2
  ·rfl)
 generalize hCe:B.alloc (aa 115 [y,uN (least l)])=C at kC vC sC;obtain⟨d,hd1,hd2⟩:=a8 (t:=115) (p:=true) (by kernel_rfl);have lC:∀D,Kp C D→ag af D.get 115 (pw B.next 0)= .ok (.agg ⟨[y,uN (least l)]⟩):=fun D hD=>aI hd1 hd2 (l:=[y,uN (least l)]) du (vC.kp hD).2
 have l1:=lC C (Kp.refl _);obtain⟨v,D,⟨g,hg⟩,rfl,kD⟩:=Ii h (hS.kp kC);have l2:=lC D kD;have kE:=Kp.alloc D (aa 150 (Ip y l));have vE:=ay D 150 (Ip y l);have hE:D.alloc (aa 150 [y,uN (least l),iN l.length,iN ((crc.bP (gq l)).length)])=D.alloc (aa 150 (Ip y l)):=rfl;have ll:=cP (tb:=af) (t:=9) (l:=crc.bP (gq l)) u9;refine⟨_,D.alloc (aa 150 (Ip y l)),?_,(kB.trans kC).trans (kD.trans kE),pV D.next,rfl,D.next,y,rfl,vE,hS.kp (kC.trans (kD.trans kE))⟩;simp only [pV];refine aT (g) 60 (aq Tryz.func35) (by kernel_rfl) fun M hM=>?_
 simp (config:={maxSteps:=4000000}) (disch:=first|decide+kernel|omega|simp only [Wq,qal]) only [Tryz.f35,Aq,qaq,reduceIte,qal,qam,kp,DQ,au,sC,qau,qav,iV,rZ,Vo,l1,hg,l2,Xb,ll,Xc,hE,bc]<;>rfl
theorem UM:av af 150 (pw b 0) 1= .ok (pw b 2):=by kernel_rfl
theorem XK {t:Operand}:vY af A.get .eql 37 t (.const (.pointer none)) (pw b 0) (.pointer none)= .ok (.bool false):=by kernel_rfl
theorem yX {l:List aP} (h:nS A l v):bg af 44 [v] A (iN l.length) A:=by
 obtain⟨p,y,rfl,h1,-⟩:=h;have l1:ag af A.get 3 (pw p 2)= .ok (iN l.length):=h1.ld rfl u3 rfl;simp only [pV];refine bm 60 (aq Tryz.func44) (by kernel_rfl) fun M=>?_
 simp (disch:=first|decide+kernel|omega) only [Tryz.f44,Aq,qal,bW,XK,ak,aF,UM,l1,bc]<;>rfl
end Go.Proofs.YtjoceidiioppiaaGreatDoor.sto
end
