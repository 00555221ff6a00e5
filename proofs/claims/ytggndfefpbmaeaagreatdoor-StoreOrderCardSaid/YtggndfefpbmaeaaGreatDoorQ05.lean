/- The abstract machine, the walk of the law and its plain laws, made small by a program; part 5: no conditions but those in each theorem. -/
import Derived.Test.YtggndfefpbmaeaaGreatDoorQ04
set_option maxHeartbeats 16000000
set_option maxRecDepth 100000
set_option linter.unusedSimpArgs false
set_option linter.unusedVariables false
noncomputable section
open Nat renaming reduceEqDiff→Zf,reduceAdd→Zg,ble→Zj,le_refl→Zn,beq→Zr,blt→Zt,zero_le→Zv,blt_eq→ZB,lt_of_lt_of_le→ZJ,le_of_ble_eq_true→ZP,lt_or_ge→ZS,zero_add→ZT,le_trans→ZV,add_zero→Z8,lt_of_le_of_lt→qan,lt_irrefl→qau,mul_one→qaw,sub_self→qaz,sub_zero→qaA,not_lt_zero→qaS,beq_eq→qbd,sub_add_cancel→qbf,add_sub_cancel→qbC,add_one_ne_zero→qbU,add_comm→qck,ble_eq→qct,le_of_lt→qdc
open List renaming getElem?_eq_getElem→Zi,getElem?_cons_succ→Zk,getElem?_eq_some_iff→Zl,getElem?_cons_zero→Zm,length_append→Zo,length_map→Zp,take_succ_eq_append_getElem→Zs,length_cons→Zu,length_eq_zero_iff→Zw,mem_cons_self→Zy,mem_cons→ZC,length_take→ZD,length_nil→ZG,getElem?_map→ZH,take_length→ZL,mem_of_getElem?→ZM,getElem?_append_right→ZN,getElem_mem→ZO,getElem?_append_left→ZU,length_pos_iff→ZW,map_eq_nil_iff→ZZ,not_mem_nil→Z0,map_append→Z3,filter_cons→Z',getD_eq_getElem?_getD→qab,nil_append→qac,drop_eq_getElem_cons→qad,length_singleton→qae,append_assoc→qah,length_drop→qak,append_nil→qap,map_cons→qar,foldl_cons→qax,range→qay,mem_filter→qaF,take_of_length_le→qaJ,pairwise_iff_getElem→qaK,length→qaR,drop_zero→qa5,foldl_append→qa8,getElem_of_mem→qbT,filter_append→qbV,length_filter_le→qb3,exists_mem_of_ne_nil→qcc,findIdx?_eq_none_iff→qcd,drop_drop→qci,getElem_map→qcj,prefix_append→qcs,drop_eq_nil_of_le→qcA,nodup_nil→qcI,drop_eq_nil_iff→qcV,prefix_refl→qcX,drop_length→qdu,drop_left→qdF
open Bool renaming false_eq_true→Zz,and_eq_true→ZF,not_true→qaI,not_false→qa4
open Option.some renaming injEq→ZQ,inj→Z_
open Option renaming map_some→Z1,getD_some→qal,isSome_none→qaB,isSome_some→qbW,map_none→qcw
open List.cons renaming injEq→Z2
open Go.Proofs.Tryz renaming prog→Z6,f101→qao,f168→qaM,f197→qaX,f102→qa9,f120→qbn,f152→qbZ,f170→qb0,f79→qcm,f100→qcx,f260→qcy,f229→qcT,f255→qcU,f99→qc5,f151→qdg,f195→qdi,f251→qdl,f258→qdR
open Classical renaming byCases→qa7
open UInt8 renaming toNat_inj→qbo,lt_iff_toNat_lt→qb7
open Int.ofNat renaming inj→qcr
namespace Go.Proofs.YtggndfefpbmaeaaGreatDoor.sto
open Go.Am Go.Sto
theorem IW:cq.bp 102=some (.slice 164):=by kernel_rfl
theorem UJ:cg cq 164= .ok (3,[.slice none 0 0,.bool false,.int .u64 0]):=by kernel_rfl
theorem WS:aV cq 102= .ok 1:=by kernel_rfl
theorem vQ:aV cq 105= .ok 2:=by kernel_rfl
theorem Ez:bO cq 105= .ok (.agg ⟨[.slice none 0 0,.int .u64 (0:Nat)]⟩):=by kernel_rfl
theorem NY:bO cq 3= .ok (.int .i64 (0:Nat)):=by kernel_rfl
variable {b o:Nat}
theorem Ra:ak cq 105 (pw b o) 0= .ok (pw b o):=by kernel_rfl
theorem Rb:ak cq 105 (pw b o) 1= .ok (pw b (o+1)):=by kernel_rfl
theorem UB {x:Value} {s:a6}:a9 cq 102 1 [(0,.agg ⟨cZ x s⟩)]= .ok (aa 164 (cZ x s),.nO 1 2):=by kernel_rfl
theorem UH:∃i,cq.ty.get 164=some i∧0<i.bytes∧i.bytes≤65536:=by
 have h:(cq.ty.get 164).map (fun i=>Zt 0 i.bytes&&Zj i.bytes 65536)=some true:=by kernel_rfl
 cases hq:cq.ty.get 164 with
 |none=>rw [hq] at h;cases h
 |some i=>
  rw [hq] at h;simp only [Z1,ZQ,ZF,ZB] at h;exact⟨i,rfl,h.1,ZP h.2⟩
noncomputable def kj:Code:=qbn.body.getD .skip
noncomputable def F6:Code:=sub kj [1,0,1,0,0]
noncomputable def B6:Code:=sub kj [1,1,1,0,1,0,0]
theorem Qk:qbn.body=some (.seq (sub kj [0]) (.seq (.seq (sub kj [1,0,0]) (.block 0 (.loop F6))) (.seq (sub kj [1,1,0]) (.seq (.seq (sub kj [1,1,1,0,0]) (.block 2 (.loop B6))) (.seq (sub kj [1,1,1,1,0]) (.seq (sub kj [1,1,1,1,1,0]) (.seq (sub kj [1,1,1,1,1,1,0]) (sub kj [1,1,1,1,1,1,1])))))))):=by kernel_rfl
def TM (p q:Nat) (M:List a6) (s r:List UInt8) (k:Nat) (D:Mem):Prop:=∃a b rows y,tK D p s a∧s.drop a=iG k (M.drop k)++r∧VB D 105 q (.var 2) [y,.int .u64 (0:Nat)]∧
 aq D 164 3 b rows y∧rows.length=k∧(k=0→y= .slice none 0 0)∧(k≠0→q<b)∧
 ∀(i:Nat) (st:a6),i<k→M[i]?=some st→∃x c,rows[i]?=some (cZ x st)∧aq D 172 3 c (st.arcs.map b9) x∧(st.arcs=[]→x= .slice none 0 0)∧(st.arcs≠ []→q<c∧c≠b)
variable {p k:Nat} {M:List a6} {t:T Value}
theorem Po {q:Nat} {s r:List UInt8} {D:Mem} {x2:Value} (hs:s.length<900000) (hpq:p<q) (hL:Lay M) (hM:M.length<1000000) (hk:k<M.length) (h:TM p q M s r k D)
 (hsl:Sl t [(0,pV p),(2,x2),(3,pV q),(5,.int .u64 k),(6,.int .u64 (M.length:Nat))]):
 W cq B6 ⟨t,52,[],D,none⟩ fun e s'=>e= .nrm∧∃t' D',s'=⟨t',52,[],D',none⟩∧TM p q M s r (k+1) D'∧(D.next≤D'.next∧∀z,z<q→z≠p→D'.get z=D.get z)∧Sl t' [(0,pV p),(2,x2),(3,pV q),(5,.int .u64 (k+1:Nat)),(6,.int .u64 (M.length:Nat))]:=by
 obtain⟨a,b,rows,y,hR,hd,hV,hS,hrl,hy0,hb,hA⟩:=h;obtain⟨g0,g2,g3,g5,g6,-⟩:=hsl;have hMk:M[k]?=some M[k]:=Zi hk;obtain⟨l1,l2,l3,l4⟩:=hL k _ hMk;have hdk:M.drop k=M[k]::M.drop (k+1):=qad hk;rw [hdk,iG,qah] at hd;generalize hst:M[k]=st at*;have hpD:p<D.next:=hR.1
 have hqD:q<D.next:=hV.1
 obtain⟨v1,E,⟨e1,h1⟩,hRE,hKE,x,c,rfl,hc1,hc2,hc3⟩:=Hv hR hs (by omega) l1 l2 l3 l4 hd;have hdE:s.drop (a+(HK k st).length)=iG (k+1) (M.drop (k+1))++r:=by rw [←qci,hd,qdF]
 have kE:=hKE.1;have hVE:dj E 105 q (.var 2) [y,.int .u64 (0:Nat)]:=hV.2.same (hKE.2 q hqD (by omega));have ly1:ai cq D.get 102 (pw q 0)= .ok y:=hV.ld rfl IW rfl;have ly2:ai cq E.get 102 (pw q 0)= .ok y:=VB.ld (tb:=cq) ⟨by omega,hVE⟩ rfl IW rfl;have sy:bP 100 y y=true:=by
  rcases hS with⟨rfl,-⟩|⟨_,_,rfl,-⟩
  ·rfl
  ·exact my _ _ _ _
 have hr0:k≠0→rows≠ []:=fun h0 h=>h0 (by rw [←hrl,h];rfl)
 have hbD:k≠0→b<D.next:=fun h0=>zw hS (hr0 h0)
 have hSE:aq E 164 3 b rows y:=aq.fU hS (fun h=>hy0 (by rw [←hrl,h];rfl)) kE fun hne hlt=>hKE.2 b hlt (by
  have:=hb (fun h=>hne (Zw.1 (by rw [hrl,h])));omega)
 obtain⟨ti,t1,t2,t3⟩:=UH;have hcell:∀v∈cZ x st,aH v=true:=by
  intro v hv;simp only [cZ,ZC,Z0,or_false] at hv;rcases hv with rfl|rfl|rfl
  ·exact(aq.di hc1).2
  ·rfl
  ·rfl
 have hSE':aq (E.alloc (aa 164 (cZ x st))) 164 3 b rows y:=hSE.same (by rw [ae];omega) fun h=>aB (by omega)
 obtain⟨y',F,happ,hs3,hn3,hf3⟩:=aq.append (tb:=cq) (st:=102) (xt:=102) hSE' IW IW UJ t1 t2 t3 (by omega) (by omega) (by omega) (ay E _) rfl hcell;rw [ae] at hs3 hn3 hf3;have hq0:q=b→y= .slice none 0 0:=fun e=>qa7 (fun h0:k=0=>hy0 h0) fun h0=>by have:=hb h0;omega
 have hp0:p=b→y= .slice none 0 0:=fun e=>qa7 (fun h0:k=0=>hy0 h0) fun h0=>by have:=hb h0;omega
 have keepF:∀z,z<E.next→(z=b→y= .slice none 0 0)→F.get z=E.get z:=fun z hz h=>by rw [hf3 z h (by omega),aB (by omega)]
 obtain⟨G,sG,vG,nG,fG⟩:=aY (tb:=cq) (t:=102) (o:=0) (v:=y') WS (hVE.same (keepF q (by omega) hq0)) (by simp) (aq.di hs3).1 (aq.di hs3).2;have a1:aK .add .u64 ((k:Nat):Int) ((1:Nat):Int)= .ok (.int .u64 (k+1:Nat)):=a8 (cJ (by omega));have hkeep:∀z,z<E.next→(z=b→y= .slice none 0 0)→z≠q→G.get z=E.get z:=fun z hz h hq=>by rw [fG z hq,keepF z hz h]
 simp only [pV] at*;apply W.bf (e1) 20
 ·intro M hM;simp (config:={maxSteps:=4000000}) (disch:=first|decide+kernel|omega|simp only [Wq,Zf]) only [B6,kj,qbn,Aq,Zj,reduceIte,Zf,Zg,g0,g3,g5,g6,hk,Ra,ly1,ly2,h1,UB,happ,sG,sy,a1,Fq,au [(1,4)]];rfl
 refine⟨rfl,_,G,rfl,⟨_,E.next+1,rows++[cZ x st],y',⟨by have:=hRE.1;omega,hRE.2.same (hkeep p (by omega) hp0 (by omega))⟩,hdE,⟨by omega,vG⟩,hs3.same (by omega) fun h=>fG _ (by omega),by rw [Zo,hrl];rfl,fun h=>by omega,fun _=>by omega,fun i u hi hu=>?_⟩,⟨by omega,fun z hz hp=>?_⟩,?_⟩
 ·rcases ZS i k with hik|hik
  ·obtain⟨x',c',e1,e2,e3,e4⟩:=hA i u hik hu;refine⟨x',c',by rw [ZU (by omega)];exact e1,aq.fU e2 (fun h=>e3 (ZZ.1 h)) (by omega) fun hne hlt=>?_,e3,fun h=>⟨(e4 h).1,?_⟩⟩
   ·have:=e4 (fun h=>hne (by rw [h];rfl));rw [hkeep c' (by omega) (fun e=>absurd e this.2) (by omega),hKE.2 c' hlt (by omega)]
   ·have:=zw e2 (fun e=>h (ZZ.1 e));omega
  ·have e:i=k:=by omega
   subst e;rw [hMk] at hu;cases hu;refine⟨x,c,by rw [ZN (by omega),hrl,qaz];rfl,aq.fU hc1 (fun h=>hc2 (ZZ.1 h)) (by omega) fun hne hlt=>?_,hc2,fun h=>⟨?_,?_⟩⟩
   ·have h4:=hc3 (fun h=>hne (by rw [h];rfl));exact hkeep c hlt (fun e=>qa7 (fun h0:i=0=>hy0 h0) fun h0=>by have:=hbD h0;omega) (by omega)
   ·have:=hc3 h;omega
   ·have:=zw hc1 (fun e=>h (ZZ.1 e));omega
 ·rw [hkeep z (by omega) (fun e=>qa7 (fun h0:k=0=>hy0 h0) fun h0=>by have:=hb h0;omega) (by omega),hKE.2 z (by omega) hp]
 ·simp only [Sq,Zf,Zg,g0,g2,g3,g6]
def TP (q:Nat) (A:Mem) (M:List a6) (y:Value):Prop:=∃b rows,aq A 164 3 b rows y∧rows.length=M.length∧q<b∧∀(i:Nat) (s:a6),M[i]?=some s→∃x c,rows[i]?=some (cZ x s)∧aq A 172 3 c (s.arcs.map b9) x∧(s.arcs=[]→x= .slice none 0 0)∧(s.arcs≠ []→q<c)
variable {A A':Mem} {y:Value}
theorem TP.Y' {q:Nat} (h:TP q A M y) (hn:A.next≤A'.next) (hg:∀z,z<A.next→q<z→A'.get z=A.get z):dY A' M y:=by
 obtain⟨b,rows,h1,h2,h3,h4⟩:=h;refine⟨b,rows,h1.same hn fun hlt=>hg b hlt h3,h2,fun i s hs=>?_⟩;obtain⟨x,c,e1,e2,e3,e4⟩:=h4 i s hs;exact⟨x,e1,c,aq.fU e2 (fun h=>e3 (ZZ.1 h)) hn fun hne hlt=>hg c hlt (e4 fun h=>hne (by rw [h];rfl))⟩
variable {n:Nat}
theorem RS {s:List UInt8} (h:tK A p s 0) (hs:s.length<900000) (hd:s=ja n M k) (hn:n≤100000) (hM0:M≠ []) (hM:M.length<1000000) (hL:Lay M) (hk:k<18446744073709551616):
 ∃v A',bJ cq 120 [pV p] A v A'∧wU p A A'∧∃y,v= .tuple ⟨[.int .i64 n,.agg ⟨[y,.int .u64 k]⟩]⟩∧TP A.next A' M y:=by
 refine cM (gF Tryz.func120) Qk (by rw [Tryz.ntmps120];simp) (by kernel_rfl) (by kernel_rfl) ?_;have kB:=Kp.alloc A (aa 105 [.slice none 0 0,.int .u64 (0:Nat)]);have vB:=az A 105 [.slice none 0 0,.int .u64 (0:Nat)];have hpA:p<A.next:=h.1
 apply W.seq;apply W.run 20
 ·intro M;simp (disch:=omega) only [kj,qbn,Aq,Zf,Ez,aj];rfl
 show W cq _ _ _;have RB:=h.kp kB;generalize A.alloc (aa 105 [.slice none 0 0,.int .u64 (0:Nat)])=B at kB vB RB;have hqB:=vB.1;apply W.seq;apply W.seq;apply W.run 20
 ·intro M;simp (disch:=omega) only [kj,qbn,Aq,Zf];rfl
 show W cq _ _ _;apply W.block;refine W.up 3 (fun i t D=>tK D p s i∧wU p B D∧Sl t [(0,pV p),(2,.int .i64 (0:Nat)),(3,pV A.next),(7,.int .i64 i)]) ?_ (Zv _) ⟨RB,wU.refl _ _,?_⟩
 ·rintro i t D hi ⟨hR,hK,g0,g2,g3,g7,-⟩;by_cases hlt:i<3
  ·have sD:aT cq (D.alloc (aa 3 [.int .i64 (0:Nat)])) 3 (pw D.next 0) (.int .i64 i)= .ok (D.alloc (aa 3 [.int .i64 i])):=da Xg rfl rfl (by simp);have kE:=Kp.alloc D (aa 3 [.int .i64 i]);have vE:=az D 3 [.int .i64 i];have RE:=hR.kp kE;generalize D.alloc (aa 3 [.int .i64 i])=E at sD kE vE RE;obtain⟨c,r,hc,hdr⟩:∃c r,([67,83,1]:List UInt8)[i]?=some c∧s.drop i=c::r:=by
    rw [hd];have:i=0∨i=1∨i=2:=by omega
    rcases this with rfl|rfl|rfl<;>exact⟨_,_,rfl,rfl⟩
   obtain⟨v1,F,⟨e1,h1⟩,rfl,R1,K1⟩:=E_ (f:=165) (y:=[pV D.next]) RE hs hdr fun B hB=>RK (vE.kp hB) hlt hc
   have a1:aK .add .i64 ((i:Nat):Int) ((1:Nat):Int)= .ok (.int .i64 (i+1:Nat)):=a8 (aR (by omega));simp only [pV] at*;apply W.bf (e1) 20
   ·intro M hM;simp (disch:=first|decide+kernel|omega) only [F6,kj,qbn,Aq,Zf,g0,g7,hlt,NY,sD,aM,h1,a1];rfl
   refine⟨hlt,_,F,rfl,R1,hK.trans ((kE.x p).trans K1),?_⟩;simp only [Sq,Zf,Zg,g0,g2,g3]
  ·have e:i=3:=by omega
   subst e;have hd3:s.drop 3=bI n++(bI M.length++(iG 0 M++bI k)):=by rw [hd];rfl
   have hqD:A.next<D.next:=by have:=hK.1;omega
   have VD:VB D 105 A.next (.var 2) [.slice none 0 0,.int .u64 (0:Nat)]:=⟨hqD,vB.2.same (hK.2 _ hqB (by omega))⟩
   obtain⟨v1,E1,⟨e1,h1⟩,rfl,R1,K1⟩:=j6 (lo:=0) (hi:=100000) hR hs (by omega) hd3 ⟨Zv _,hn⟩;obtain⟨-,hd4,-⟩:=ju (show n<18446744073709551616 by omega) hd3;obtain⟨v2,E2,⟨e2,h2⟩,rfl,R2,K2⟩:=j6 (lo:=1) (hi:=18446744073709551615) R1 hs (by omega) hd4 ⟨ZW.2 hM0,by omega⟩;obtain⟨-,hd5,-⟩:=ju (show M.length<18446744073709551616 by omega) hd4;have cv:=bx (tb:=cq) (s:=103) (d:=3) (k:=.u64) (n:=n) (by rw [i103];rfl) i3 (aR (by omega));have K12:=K1.trans K2;have n12:=K12.1;have V2:VB E2 105 A.next (.var 2) [.slice none 0 0,.int .u64 (0:Nat)]:=⟨by omega,VD.2.same (K12.2 _ hqD (by omega))⟩
   simp only [pV] at*;apply W.run 20
   ·intro M;simp (disch:=decide+kernel) only [F6,kj,qbn,Aq,Zf,g7];rfl
   show W cq _ _ _;apply W.seq;apply W.bf (e1) 20
   ·intro M hM;simp (disch:=first|decide+kernel|omega) only [kj,qbn,Aq,Zf,g0,h1,cv];rfl
   show W cq _ _ _;apply W.seq;apply W.seq;apply W.bf (e2) 20
   ·intro M hM;simp (disch:=omega) only [kj,qbn,Aq,Zf,g0,h2];rfl
   show W cq _ _ _;apply W.block;refine W.up M.length (fun j t D=>TM p A.next M s (bI k) j D∧wU p A D∧Sl t [(0,pV p),(2,.int .i64 n),(3,pV A.next),(5,.int .u64 j),(6,.int .u64 (M.length:Nat))]) ?_ (Zv _) ⟨⟨_,A.next,[],_,R2,by rw [qa5];exact hd5,V2,aq.nil _ _ _ _,rfl,fun _=>rfl,fun h=>absurd rfl h,fun i st hi=>absurd hi (qaS _)⟩,(kB.x p).trans (hK.trans K12),?_⟩
   ·rintro j t D hj ⟨hR,hK,hs0⟩;by_cases hlt:j<M.length
    ·refine(Po hs hpA hL hM hlt hR hs0).mono ?_;rintro e s' ⟨rfl,t',D',rfl,hR',hk',hs'⟩;exact⟨hlt,t',D',rfl,hR',⟨ZV hK.1 hk'.1,fun z hz hp=>by rw [hk'.2 z hz hp,hK.2 z hz hp]⟩,hs'⟩
    ·have e:j=M.length:=by omega
     subst e;obtain⟨a,b,rows,y,q1,q2,q3,q4,q5,q6,q7,q8⟩:=hR;obtain⟨g0,g2,g3,g5,g6,-⟩:=hs0;rw [qdu] at q2;have q2':s.drop a=bI k++[]:=by rw [qap];exact q2
     obtain⟨v3,E,⟨e3,h3⟩,rfl,R3,K3⟩:=j6 (lo:=0) (hi:=18446744073709551615) q1 hs hk q2' ⟨Zv _,by omega⟩;obtain⟨-,hd6,hle⟩:=ju hk q2';have n3:=K3.1;have hM1:M.length≠0:=fun e=>hM0 (Zw.1 e)
     have hqb:=q7 hM1;obtain⟨F,sF,vF,nF,fF⟩:=aY (tb:=cq) (t:=103) (o:=1) (v:=.int .u64 k) NQ (q3.2.same (K3.2 _ q3.1 (by omega))) (by simp) rfl rfl;have hq3:=q3.1;have RF:tK F p s (a+(bI k).length):=⟨by have:=R3.1;omega,R3.2.same (fF p (by omega))⟩;have hend:¬a+(bI k).length<s.length:=by
      have:=qcV.1 hd6;omega
     have la:=RF.a;have lb:=RF.s;have hl:=cd (tb:=cq) (t:=9) (l:=s) i9;have lw:ai cq F.get 105 (pw A.next 0)= .ok (.agg ⟨[y,.int .u64 k]⟩):=by
      obtain⟨d,hd1,hd2⟩:=DE (t:=105) (p:=true) (by kernel_rfl);exact aI hd1 hd2 vQ vF
     have hys:=aq.di q4;obtain⟨G,sG,vG,nG,fG⟩:=bK (tb:=cq) (t:=105) (l':=[y,.int .u64 k]) (by exact vQ) vF rfl (by simp) (by
      intro v hv;simp only [ZC,Z0,or_false] at hv;rcases hv with rfl|rfl
      ·exact hys.2
      ·rfl)
     have lG:ai cq G.get 105 (pw A.next 0)= .ok (.agg ⟨[y,.int .u64 k]⟩):=by
      obtain⟨d,hd1,hd2⟩:=DE (t:=105) (p:=true) (by kernel_rfl);exact aI hd1 hd2 vQ vG
     have fG':∀z,z<D.next→z≠p→z≠A.next→G.get z=D.get z:=fun z hz hp hq=>by rw [fG z hq,fF z hq,K3.2 z hz hp]
     simp only [pV] at*;apply W.run 20
     ·intro M;simp (disch:=decide+kernel) only [B6,kj,qbn,Aq,Zf,g5,g6];rfl
     show W cq _ _ _;apply W.seq;apply W.bf (e3) 20
     ·intro M hM;simp (disch:=omega) only [kj,qbn,Aq,Zf,g0,g3,h3,Rb,sF];rfl
     show W cq _ _ _;apply W.seq;apply W.run 20
     ·intro M;simp (config:={maxSteps:=4000000}) (disch:=first|decide+kernel|omega|simp only [Wq,Zf]) only [kj,qbn,Aq,Zj,reduceIte,Zf,Zg,g0,aA,aX,yc,mX,la,lb,hl,hend,Fq,au []];rfl
     show W cq _ _ _;apply W.seq;apply W.run 20
     ·intro M;simp (config:={maxSteps:=4000000}) (disch:=first|decide+kernel|omega|simp only [Wq,Zf]) only [kj,qbn,Aq,Zj,reduceIte,Zf,Zg,g2,g3,lw,sG,Fq,au []];rfl
     show W cq _ _ _;apply W.run 20
     ·intro M;simp only [kj,qbn,Aq,Zf];rfl
     refine⟨by simp,rfl,_,(by simp only [qbn,Aq,Zf,g2,g3,lG]<;>rfl),⟨by have:=hK.1;show _≤G.next;omega,fun z hz hp=>by rw [fG' z (by have:=hK.1;omega) hp (by omega),hK.2 z hz hp]⟩,y,rfl,b,rows,q4.same (by show _≤G.next;omega) fun hlt=>fG' b hlt (by omega) (by omega),q5,hqb,fun i st hst=>?_⟩;obtain⟨x,c,u1,u2,u3,u4⟩:=q8 i st (Zl.1 hst).1 hst;exact⟨x,c,u1,aq.fU u2 (fun h=>u3 (ZZ.1 h)) (by show _≤G.next;omega) fun hne hlt=>by
      have:=(u4 fun h=>hne (by rw [h];rfl)).1;exact fG' c hlt (by omega) (by omega),u3,fun h=>(u4 h).1⟩
   ·simp only [Sq,Zf,Zg,g0,g2,g3,pV]
 ·simp only [Sq,Zf,Zg,pV]
end Go.Proofs.YtggndfefpbmaeaaGreatDoor.sto
namespace Go.Am
variable {tb:bL}
noncomputable def tD (h:Nat→List Value→Mem→R (Value×Mem)):List Value→Mem→R (Value×Mem):=fun args A=>
 open Classical in if e:∃r N,∀n,N≤n→h n args A= .ok r then .ok e.choose else .no 0
variable {f:FuncId}
theorem Vh {P:Program} {h:Nat→List Value→Mem→R (Value×Mem)} (hn:∀n,b7 P f (h n)):b7 P f (tD h):=by
 intro args A v A' e;unfold tD at e;split at e
 ·rename_i hx;obtain⟨N,hN⟩:=hx.choose_spec;rw [R.ok.inj e] at hN;exact hn N args A v A' (hN N (Zn _))
 ·cases e
variable {A:Mem}
theorem Vg {h:Nat→List Value→Mem→R (Value×Mem)} {args:List Value} {r:Value×Mem} {N:Nat} (e:∀n,N≤n→h n args A= .ok r):tD h args A= .ok r:=by
 unfold tD;have hx:∃r N,∀n,N≤n→h n args A= .ok r:=⟨r,N,e⟩;rw [dif_pos hx];obtain⟨N',hN⟩:=hx.choose_spec;have h1:=hN (N+N') (by omega);rw [e _ (by omega)] at h1;rw [R.ok.inj h1]
def VW (e2:Ex) (s2:St) (rv:Value) (A1:Mem):Prop:=
 match e2 with
 | .kh v=>s2.d=[]∧rv=v∧A1=s2.m
 | .exit _=>False
 |_=>fc s2.d s2.m= .ok A1∧rv= .nilIface
theorem Q0 {D:JY} {args:List Value} {Q:Value→Mem→Prop} (hn:args.length≤D.fn.ntmps)
 (h:W tb D.c0 ⟨T.bR .e 0 args,D.fn.ntmps,[],A,none⟩ fun e s0=>e= .nrm∧∃s1 cap,(∀ih,dK tb ih D.o1 s0 (fun s=>.ok (.nrm,s))= .ok (.nrm,s1))∧s1.d=[]∧s1.t.get D.x=some (.func (.func D.g) ⟨[]⟩ ⟨cap⟩)∧cap.length≤D.gf.ntmps∧
  W tb D.c2 s1 fun e2 s2=>∃rv A1,VW e2 s2 rv A1∧W tb D.c3 ⟨(T.bR .e 0 cap).set D.t rv,D.gf.ntmps,[],A1,none⟩ fun e3 s3=>(e3= .nrm∨e3= .ret)∧∃A2 vs,fc s3.d s3.m= .ok A2∧fj tb s2.t A2.get D.fn.results.toList= .ok vs∧Q (oneOf vs) A2):
 ∃v A2,(∃N,∀n,N≤n→il tb D n args A= .ok (v,A2))∧Q v A2:=by
 obtain⟨e0,s0,⟨f0,h0⟩,he0,s1,cap,h1,hd1,hx,hc,e2,s2,⟨f2,h2⟩,rv,A1,hE,e3,s3,⟨f3,h3⟩,he3,A2,vs,h4,h5,hQ⟩:=h;subst he0;refine⟨_,A2,⟨f0+f2+f3,fun n hN=>?_⟩,hQ⟩;have x0:=h0 (n-f0);have x2:=h2 (n-f2);have x3:=h3 (n-f3);rw [qbf (by omega)] at x0 x2 x3;have hrec:Oy tb D n cap rv A1= .ok A2:=by
  unfold Oy;rw [show Zj cap.length D.gf.ntmps=true by rw [qct];exact hc,cond_true,x3,R.aw];rcases he3 with rfl|rfl<;>exact h4
 unfold il;rw [show Zj args.length D.fn.ntmps=true by rw [qct];exact hn,cond_true,x0,R.aw];simp only [h1,R.aw,hd1,hx];rw [show Zr D.g D.g=true by rw [qbd],cond_true,x2,R.aw];cases e2 with
 |kh v=>
  obtain⟨q1,rfl,rfl⟩:=hE;simp only [q1,R.aw,qac,hrec,h5]
 |exit _=>exact hE.elim
 |nrm=>
  obtain⟨q1,rfl⟩:=hE;simp only [q1,R.aw,qac,hrec,h5]
 |ret=>
  obtain⟨q1,rfl⟩:=hE;simp only [q1,R.aw,qac,hrec,h5]
section
variable {ih:Code→St→R (Ex×St)} {dst:Option Tmp} {ty:TypeId} {pos:String} {after:Array Edge} {g:Option (Nat×Bool)} {s:St} {k:St→R (Ex×St)}
theorem yJ (x:Operand) (a t:TypeId) (b:Bool):dK tb ih {dst,op:=.typeAssert x a t b,type:=ty,pos,after,guard:=g} s k=(ev s.t x).bind fun x=>(rT tb x t b).bind fun v=>bQ s dst v k:=by
 rw [i_ (hc:=rfl) (hi:=rfl)];simp only [uM,R.a7]
noncomputable def NM (tb:bL) (t:TypeId) (x:Value):R Value:=match tb.bp t with
 |some (.interface _)=>.no 208
 |some _=>.ok (.iface t x)
 |none=>.no 209
theorem Bf (t:TypeId) (x:Operand):dK tb ih {dst,op:=.makeInterface t x,type:=ty,pos,after,guard:=g} s k=(ev s.t x).bind fun x=>(NM tb t x).bind fun v=>bQ s dst v k:=by
 rw [i_ (hc:=rfl) (hi:=rfl)];simp only [uM,R.a7];rfl
theorem g_ (t:T Value):ev t (.const .nilIface)= .ok .nilIface:=rfl
end
end Go.Am
namespace Go.Proofs.YtggndfefpbmaeaaGreatDoor.sto
open Go.Am Go.Sto
noncomputable def gC:Code:=qcm.body.getD .skip
noncomputable def XJ:Code:=Tryz.f118.body.getD .skip
def Rx (c:Code) (i:Nat):Oper:=
 match c with
 | .region _ ops _=>ops.toList.getD i default
 |_=>default
noncomputable def wB:JY:={f:=79,fn:=qcm,c0:=sub gC [0],id1:=1,o1:=Rx (sub gC [1,0]) 0,od:=Rx (sub gC [1,0]) 1,c2:=sub gC [1,1],x:=7,g:=118,gf:=Tryz.f118,id3:=0,orc:=Rx (sub XJ [0]) 0,t:=6,c3:=sub XJ [1]}
theorem eS:L_ cq wB where
 hf:=gF Tryz.func79
 hb:=by kernel_rfl
 hod:=by kernel_rfl
 go1:=by kernel_rfl
 god:=by kernel_rfl
 dod:=by kernel_rfl
 hg:=gF Tryz.func118
 hgb:=by kernel_rfl
 horc:=by kernel_rfl
 dorc:=by kernel_rfl
 gorc:=by kernel_rfl
 ht:=by show Nat.lt _ _;exact ZP (by kernel_rfl)
 hres:=by kernel_rfl
 hng:=by kernel_rfl
noncomputable def IP:=tD (il cq wB)
theorem KD:b7 b6.P 79 IP:=Vh fun n=>DZ PG eS n
theorem Wx:wB.c3=sub XJ [1]:=rfl
theorem Ww:wB.c2= .seq (sub gC [1,1,0]) (.seq (sub gC [1,1,1,0]) (.seq (sub gC [1,1,1,1,0]) (.seq (sub gC [1,1,1,1,1,0]) (sub gC [1,1,1,1,1,1])))):=by kernel_rfl
theorem NV:bO cq 146= .ok .nilIface:=by kernel_rfl
theorem WT:aV cq 146= .ok 1:=by kernel_rfl
theorem UA {l:List UInt8}:cu cq 197 [(0,strOf l)]= .ok (.agg ⟨[strOf l,.int .i64 (0:Nat)]⟩):=by kernel_rfl
variable {n:Nat}
theorem UD {g:Nat→Option Ob}:wH cq g .eql 20 (.tmp n) (.const .nilIface) .nilIface .nilIface= .ok (.bool true):=by kernel_rfl
structure YV (A:Mem) (q:Nat) (v:List Value):Prop where
 a:VB A 3 q (.var 1) [v.getD 0 .nilIface]
 b:VB A 105 (q+1) (.var 2) [v.getD 1 .nilIface,v.getD 2 .nilIface]
 c:VB A 146 (q+2) (.var 1) [v.getD 3 .nilIface]
theorem Kh:Value.nilIface.cells.toList=[.nilIface]:=rfl
variable {A:Mem} {M:List a6}
theorem K9 {s:List UInt8} {k:Nat} (hs:s.length<900000) (ho:crc.fm s=(ja n M k,true)) (hn:n≤100000) (hM0:M≠ []) (hM:M.length<1000000) (hL:Lay M) (hk:k<18446744073709551616) (hb:(ja n M k).length<900000):
 ∃v A',IP [strOf s] A= .ok (v,A')∧Kp A A'∧∃y,v= .tuple ⟨[.int .i64 n,.agg ⟨[y,.int .u64 k]⟩,.nilIface]⟩∧dY A' M y:=by
 suffices h:∃v A',(∃N,∀n,N≤n→il cq wB n [strOf s] A= .ok (v,A'))∧(Kp A A'∧∃y,v= .tuple ⟨[.int .i64 n,.agg ⟨[y,.int .u64 k]⟩,.nilIface]⟩∧dY A' M y) by
  obtain⟨v,A',⟨N,hN⟩,h⟩:=h;exact⟨v,A',Vg hN,h⟩
 have kB:=Kp.alloc A (aa 3 [.int .i64 (0:Nat)]);have v1:=az A 3 [.int .i64 (0:Nat)];have nB:(A.alloc (aa 3 [.int .i64 (0:Nat)])).next=A.next+1:=ae _ _
 generalize hB:A.alloc (aa 3 [.int .i64 (0:Nat)])=B at kB v1 nB;have kC:=Kp.alloc B (aa 105 [.slice none 0 0,.int .u64 (0:Nat)]);have v2:=az B 105 [.slice none 0 0,.int .u64 (0:Nat)];have nC:(B.alloc (aa 105 [.slice none 0 0,.int .u64 (0:Nat)])).next=B.next+1:=ae _ _
 generalize hC:B.alloc (aa 105 [.slice none 0 0,.int .u64 (0:Nat)])=C at kC v2 nC;have kD:=Kp.alloc C (aa 146 [.nilIface]);have v3:=az C 146 [.nilIface];have nD:(C.alloc (aa 146 [.nilIface])).next=C.next+1:=ae _ _
 generalize hD:C.alloc (aa 146 [.nilIface])=D at kD v3 nD;have v1:=v1.kp (kC.trans kD);have v2:=v2.kp kD;have kAD:=kB.trans (kC.trans kD);have kE:=Kp.alloc D (aa 197 [strOf (ja n M k),.int .i64 (0:Nat)]);have vE:tK (D.alloc (aa 197 [strOf (ja n M k),.int .i64 (0:Nat)])) D.next (ja n M k) 0:=az D 197 [strOf (ja n M k),.int .i64 (0:Nat)]
 have nE:(D.alloc (aa 197 [strOf (ja n M k),.int .i64 (0:Nat)])).next=D.next+1:=ae _ _
 generalize hE:D.alloc (aa 197 [strOf (ja n M k),.int .i64 (0:Nat)])=E at kE vE nE;obtain⟨v,F,⟨g1,h1⟩,hKF,y,rfl,hS⟩:=RS vE hb rfl hn hM0 hM hL hk;have nF:=hKF.1;have keepF:∀z,z<D.next→F.get z=D.get z:=fun z hz=>by rw [hKF.2 z (by omega) (by omega),kE.2 z hz]
 have hy:y.cells.toList=[y]∧aH y=true:=by
  obtain⟨b,rows,e,-⟩:=hS;exact aq.di e
 have h1y:∀v∈ [y,Value.int .u64 k],aH v=true:=by
  intro v hv;simp only [ZC,Z0,or_false] at hv;rcases hv with rfl|rfl
  ·exact hy.2
  ·rfl
 obtain⟨d,hd1,hd2⟩:=DE (t:=105) (p:=true) (by kernel_rfl);have w1:=v1.1;have w2:=v2.1;have w3:=v3.1;obtain⟨G,sG,vG,nG,fG⟩:=aY (tb:=cq) (t:=3) (o:=0) (v:=.int .i64 n) Xg (v1.2.same (keepF _ w1)) (by simp) rfl rfl;obtain⟨H,sH,vH,nH,fH⟩:=bK (tb:=cq) (t:=105) (l':=[y,.int .u64 k]) (by exact vQ) (v2.2.same (by rw [fG _ (by omega),keepF _ w2])) rfl (by simp) h1y;have l1:ai cq H.get 3 (pw A.next 0)= .ok (.int .i64 n):=aU i3 rfl (vG.same (fH _ (by omega))) rfl;have l2:ai cq H.get 105 (pw B.next 0)= .ok (.agg ⟨[y,.int .u64 k]⟩):=aI hd1 hd2 vQ vH;obtain⟨I,sI,vI,nI,fI⟩:=aY (tb:=cq) (t:=3) (o:=0) (v:=.int .i64 n) Xg (vG.same (fH A.next (by omega))) (by simp) rfl rfl;obtain⟨J,sJ,vJ,nJ,fJ⟩:=bK (tb:=cq) (t:=105) (l':=[y,.int .u64 k]) (by exact vQ) (vH.same (fI B.next (by omega))) rfl (by simp) h1y;obtain⟨L,sL,vL,nL,fL⟩:=aY (tb:=cq) (t:=146) (o:=0) (v:=.nilIface) WT (v3.2.same (by rw [fJ _ (by omega),fI _ (by omega),fH _ (by omega),fG _ (by omega),keepF _ w3])) (by simp) rfl rfl;have m1:ai cq L.get 3 (pw A.next 0)= .ok (.int .i64 n):=aU i3 rfl (vI.same (by rw [fL _ (by omega),fJ _ (by omega)])) rfl;have m2:ai cq L.get 105 (pw B.next 0)= .ok (.agg ⟨[y,.int .u64 k]⟩):=aI hd1 hd2 vQ (vJ.same (fL _ (by omega)));have m3:ai cq L.get 146 (pw C.next 0)= .ok .nilIface:=by
  obtain⟨d,hd1,hd2⟩:=DE (t:=146) (p:=false) (by kernel_rfl);exact aU hd1 hd2 vL rfl
 have hL3:∀z,z<F.next→z≠A.next→z≠B.next→z≠C.next→L.get z=F.get z:=fun z _ a b c=>by rw [fL z c,fJ z b,fI z a,fH z b,fG z a]
 have l2':ai cq I.get 105 (pw B.next 0)= .ok (.agg ⟨[y,.int .u64 k]⟩):=aI hd1 hd2 vQ (vH.same (fI _ (by omega)));have sv:bP 100 (.agg ⟨[y,.int .u64 k]⟩) (.agg ⟨[y,.int .u64 k]⟩)=true:=by
  obtain⟨b,rows,e,-⟩:=hS;have h1:bP 99 y y=true:=by
   rcases e with⟨rfl,-⟩|⟨_,_,rfl,-⟩
   ·rfl
   ·simp [bP,zi,td]
  have h2:bP 99 (.int .u64 k) (.int .u64 k)=true:=by
   show(dU .u64 .u64&&mb (k:Int) (k:Int))=true;simp [mb,dU]
  show(Zr 2 2&&(bP 99 y y&&(bP 99 (.int .u64 k) (.int .u64 k)&&true)))=true;rw [h1,h2];rfl
 have ko:=fun ih=>UL (ih:=ih) (A:=D) hs
 rw [ho] at ko;refine Q0 (by show 1≤qcm.ntmps;rw [Tryz.ntmps79];omega) ?_;apply W.run 20
 ·intro M;simp (disch:=omega) only [wB,gC,qcm,Aq,Zf,NY,Ez,NV,aj,Kh,hB,hC,hD];rfl
 refine⟨rfl,_,[pV A.next,pV B.next,pV C.next],fun ih=>by
  simp only [wB,gC,qcm,Rx,aM,Aq,Zf];rfl,by rfl,by
  show T.get _ 7=_;simp only [T.aD,Zf,if_true,if_false,pV];rfl,by
  show 3≤Tryz.f118.ntmps;rw [Tryz.ntmps118];omega,?_⟩
 ·show W cq wB.c2 _ _;rw [Ww];apply W.seq;apply W.run 20
  ·intro M;simp (disch:=omega) only [gC,qcm,Aq,Zf,ko,Zm,Zk];rfl
  show W cq _ _ _;apply W.seq;apply W.run 20
  ·intro M;simp (disch:=omega) only [gC,qcm,Aq,Zf];rfl
  show W cq _ _ _;apply W.seq;simp only [pV] at h1;apply W.bf (g1) 20
  ·intro M hM;simp (disch:=omega) only [gC,qcm,Aq,Zf,UA,aj,hE,h1,Zm,Zk,sG,sH];rfl
  show W cq _ _ _;apply W.seq;apply W.run 20
  ·intro M;simp (config:={maxSteps:=4000000}) (disch:=first|decide+kernel|omega|simp only [Wq,Zf]) only [gC,qcm,Aq,Zj,reduceIte,Zf,Zg,l1,l2,sI,l2',sv,sJ,sL,g_,Fq,au [(1,2)]];rfl
  show W cq _ _ _;apply W.run 20
  ·intro M;simp only [gC,qcm,Aq,Zf];rfl
  refine⟨.nilIface,L,⟨rfl,rfl⟩,?_⟩;rw [Wx];apply W.run 20
  ·intro M;simp (disch:=decide+kernel) only [XJ,Tryz.f118,Aq,Zf,wB,g_,bk,UD];rfl
  refine⟨.inl rfl,L,_,rfl,(by simp only [wB,qcm,m1,m2,m3,Aq,Zf]<;>rfl),⟨by omega,fun z hz=>?_⟩,y,rfl,?_⟩
  ·rw [hL3 z (by omega) (by omega) (by omega) (by omega),keepF z (by omega),kAD.2 z hz]
  ·exact hS.Y' (by omega) fun z h1 h2=>hL3 z h1 (by omega) (by omega) (by omega)
end Go.Proofs.YtggndfefpbmaeaaGreatDoor.sto
namespace Go.Proofs.YtggndfefpbmaeaaGreatDoor.sto
open Go.Am Go.Mdl Go.Sto
def vg:List Value→Option Value
 | []=>some (.bool true)
 |_=>none
noncomputable def oM:T (List Value→Mem→R (Value×Mem)):=(jv.set 79 IP).set 5 (aJ vg)
noncomputable def af:bL:={b6 with hk:=oM}
theorem zL (h:b7 b6.P 5 (aJ vg)):cc af:=bY (bY PG KD) h
variable {k:Nat} {fn:Func}
theorem av (h:Z6.funcs[k]?=some fn):af.fn.get k=some fn:=bB h
theorem hU {h:List Value→Mem→R (Value×Mem)} (e:oM.get k=some h):af.hk.get k=some h:=e
section
variable {ih:Code→St→R (Ex×St)} {A:Mem}
theorem X7 {s:List UInt8} {a:Nat} (hs:s.length<1000000) (ha:a≤s.length):bc af ih (.fn 160 [strOf s,.int .i64 a]) A= .ok (.val (wI (sM s a)) A):=
 eo (x:=(s,a)) (av Tryz.func160) (by kernel_rfl) wZ (hU (by simp only [oM,jv,T.aD];rfl)) WR (show UY (s,a) from⟨hs,ha⟩)
variable {n:Nat}
theorem X' (hn:n<18446744073709551616):bc af ih (.fn 107 [.int .u64 n]) A= .ok (.val (strOf (bI n)) A):=
 eo (x:=n) (av Tryz.func107) (by kernel_rfl) wY (hU (by simp only [oM,jv,T.aD];rfl)) (fun x y h=>by rw [Rs h]) hn
variable {e:aG}
theorem UM (h:e.weight<4294967296):bc af ih (.fn 151 [.agg ⟨bH e⟩]) A= .ok (.val (.int .u64 (val e:Nat)) A):=
 eo (x:=e) (av Tryz.func151) (c:=qdg.body.getD .skip) (by kernel_rfl) (by kernel_rfl) (hU (by simp only [oM,jv,T.aD];rfl)) (fun x y h=>by rw [WQ h]) h
theorem Rl {a b c:Int}:bc af ih (.fn 104 [.int .i64 a,.int .i64 b,.int .i64 c]) A= .ok (.val (.bool (decide (b≤a∧a≤c))) A):=
 eo (x:=(a,b,c)) (av Tryz.func104) (c:=Tryz.f104.body.getD .skip) (by kernel_rfl) (by kernel_rfl) (hU (by simp only [oM,jv,T.aD];rfl)) (fun x y h=>by
  simp only [TV,Z2,Value.int.injEq,and_true,true_and] at h;rw [h.1,h.2.1,h.2.2]) trivial
variable {w:List UInt8}
theorem Y3:bc af ih (.fn 196 [strOf w]) A= .ok (.val (.bool (decide (1≤w.length∧w.length≤255))) A):=
 eo (x:=w) (av Tryz.func196) (c:=Tryz.f196.body.getD .skip) (by kernel_rfl) (by kernel_rfl) (hU (by simp only [oM,jv,T.aD];rfl)) (fun x y h=>by rw [W6 h]) trivial
theorem X9:bc af ih (.fn 63 [strOf w]) A= .ok (.val (.bool (decide (0<w.length∧w.length≤64))) A):=
 eo (x:=w) (av Tryz.func63) (c:=Tryz.f63.body.getD .skip) (by kernel_rfl) (by kernel_rfl) (hU (by simp only [oM,jv,T.aD];rfl)) (fun x y h=>by rw [W6 h]) trivial
theorem X_ (h:n<1099511627776):bc af ih (.fn 112 [.int .u64 n]) A= .ok (.val (.int .i64 n) A):=
 eo (x:=n) (av Tryz.func112) (c:=Tryz.f112.body.getD .skip) (by kernel_rfl) (by kernel_rfl) (hU (by simp only [oM,jv,T.aD];rfl)) (fun x y h=>by rw [Rs h]) h
theorem NZ {f:Bool}:bc af ih (.fn 181 [.agg ⟨[.int .u64 n,.bool f]⟩]) A= .ok (.val (.bool (f&&decide (n≤4294967296))) A):=
 eo (x:=(n,f)) (av Tryz.func181) (c:=Tryz.f181.body.getD .skip) (by kernel_rfl) (by kernel_rfl) (hU (by simp only [oM,jv,T.aD];rfl)) (fun x y h=>by rw [Yf h]) trivial
theorem EA (hn:n<18446744073709551616):bc af ih (.fn 103 [.int .u64 n]) A= .ok (.val (strOf (bI n)) A):=
 eo (x:=n) (av Tryz.func103) (c:=Tryz.f103.body.getD .skip) (by kernel_rfl) (by kernel_rfl) (hU (by simp only [oM,jv,T.aD];rfl)) (fun x y h=>by rw [Rs h]) hn
theorem Tn:bc af ih (.fn 195 [.agg ⟨bH e⟩]) A= .ok (.val (.agg ⟨bH (bare e)⟩) A):=
 eo (x:=e) (av Tryz.func195) (c:=qdi.body.getD .skip) (by kernel_rfl) (by kernel_rfl) (hU (by simp only [oM,jv,T.aD];rfl)) (fun x y h=>by rw [WQ h]) trivial
variable {m:Nat}
theorem Rk {f:Bool} (h:n+m<18446744073709551616):bc af ih (.fn 179 [.agg ⟨[.int .u64 n,.bool f]⟩,.int .u64 m]) A= .ok (.val (.agg ⟨[.int .u64 (n+m:Nat),.bool f]⟩) A):=
 eo (x:=((n,f),m)) (av Tryz.func179) (c:=Tryz.f179.body.getD .skip) (by kernel_rfl) (by kernel_rfl) (hU (by simp only [oM,jv,T.aD];rfl)) (fun x y h=>by
  obtain⟨⟨a,b⟩,c⟩:=x;obtain⟨⟨a',b'⟩,c'⟩:=y;simp only [TT,Z2,Value.agg.injEq,Array.mk.injEq,Value.int.injEq,Value.bool.injEq,and_true,true_and] at h;obtain⟨⟨h1,h2⟩,h3⟩:=h;cases qcr h1;cases qcr h3;rw [h2]) h
theorem WX (h:1≤n∧n≤6):bc af ih (.fn 32 [.int .i64 (4:Nat),.int .i64 n]) A= .ok (.val (strOf (eF n)) A)∧bc af ih (.fn 23 [.int .i64 (4:Nat),.int .i64 n]) A= .ok (.val (strOf (eF n)) A):=by
 have e:qn names [.int .i64 (4:Nat),.int .i64 n]=some (strOf (eF n)):=by
  have:n=1∨n=2∨n=3∨n=4∨n=5∨n=6:=by omega
  rcases this with rfl|rfl|rfl|rfl|rfl|rfl<;>(clear h;show _=_;kernel_rfl)
 exact⟨bW (av Tryz.func32) (by kernel_rfl) (c:=Tryz.f32.body.getD .skip) (by kernel_rfl) (hU (by simp only [oM,jv,T.aD];rfl)) (by unfold aJ;rw [e]),
  bW (av Tryz.func23) (by kernel_rfl) (c:=Tryz.f23.body.getD .skip) (by kernel_rfl) (hU (by simp only [oM,jv,T.aD];rfl)) (by unfold aJ;rw [e])⟩
theorem X8:bc af ih (.fn 32 [.int .i64 (1:Nat),.int .i64 (0:Nat)]) A= .ok (.val (strOf m8) A):=
 bW (av Tryz.func32) (by kernel_rfl) (c:=Tryz.f32.body.getD .skip) (by kernel_rfl) (hU (by simp only [oM,jv,T.aD];rfl)) (by unfold aJ;rfl)
theorem Tp {s:List UInt8} (hs:s.length<900000):bc af ih (.fn 61 [strOf s]) A= .ok (.val (strOf (crc.aN s)) A):=
 bW (av Tryz.func61) (by kernel_rfl) (c:=Tryz.f61.body.getD .skip) (by kernel_rfl) (hU (by simp only [oM,jv,T.aD];rfl)) (by
  have e:crc.C5 [strOf s]=some (strOf (crc.aN s)):=if_pos hs;unfold aJ;rw [e])
theorem To {s:List UInt8} (hs:s.length<900000):bc af ih (.fn 68 [strOf s]) A= .ok (.val (.tuple ⟨[strOf (crc.fm s).1,.bool (crc.fm s).2]⟩) A):=
 bW (av Tryz.func68) (by kernel_rfl) (c:=Tryz.f68.body.getD .skip) (by kernel_rfl) (hU (by simp only [oM,jv,T.aD];rfl)) (by
  have e:crc.Bg [strOf s]=some (.tuple ⟨[strOf (crc.fm s).1,.bool (crc.fm s).2]⟩):=if_pos hs;unfold aJ;rw [e])
theorem X6 (hn:n<18446744073709551616):bc af ih (.fn 220 [.int .u64 n,.int .i64 (36:Nat)]) A= .ok (.val (strOf (p9 n)) A):=
 eo (x:=n) (av Tryz.func220) (c:=Tryz.f220.body.getD .skip) (by kernel_rfl) (by kernel_rfl) (hU (by simp only [oM,jv,T.aD];rfl)) (fun x y h=>by
  simp only [TU,Z2,Value.int.injEq,and_true,true_and] at h;rw [qcr h]) hn
theorem UN:bc af ih (.fn 5 []) A= .ok (.val (.bool true) A):=
 bW (av Tryz.func5) (by kernel_rfl) (c:=Tryz.f5.body.getD .skip) (by kernel_rfl) (hU (by simp only [oM,jv,T.aD];rfl)) rfl
end
theorem u3:af.bp 3=some (.int .i64):=Dq
theorem u4:af.bp 4=some .bool:=LZ
theorem u5:af.bp 5=some (.int .u8):=mA
theorem u9:af.bp 9=some .string:=o_
theorem eK:af.bp 103=some (.int .u64):=h_
end Go.Proofs.YtggndfefpbmaeaaGreatDoor.sto
namespace Go.Proofs.YtggndfefpbmaeaaGreatDoor.sto
open Go.Am
noncomputable def XL:bL:=(b6.pY 109 (aJ crc.zn)).pY 68 (aJ crc.Bg)
theorem PF:cc XL:=bY (bY eX crc.A4) crc.AZ
theorem WC:L_ XL wB:=⟨eS.hf,eS.hb,eS.hod,eS.go1,eS.god,eS.dod,eS.hg,eS.hgb,eS.horc,eS.dorc,eS.gorc,eS.ht,eS.hres,eS.hng⟩
noncomputable def Yw:bL:=XL.pY 79 (il XL wB 100000)
theorem Vl:cc Yw:=bY PF (DZ PF WC 100000)
theorem VJ:isTrue (call Yw 1000000 5 [] ee)=true:=by decide+kernel
theorem GP:b7 b6.P 5 (aJ vg):=by
 refine dN Vl (bB Tryz.func5) (c:=Tryz.f5.body.getD .skip) (by kernel_rfl) fun args v hv=>?_
 cases args with
 |cons x l=>cases hv
 |nil=>
  cases hv;have h:=VJ;refine⟨fun x hx=>(Z0 hx).elim,rfl,1000000,?_⟩;cases hr:call Yw 1000000 5 [] ee with
  |no _=>rw [hr] at h;cases h
  |ok r=>
   rw [hr] at h;cases r with
   |kh v A=>cases h
   |val v A=>
    cases v with
    |bool b=>have hb':b=true:=h;subst hb';exact⟨A,rfl⟩
    |_=>cases h
end Go.Proofs.YtggndfefpbmaeaaGreatDoor.sto
namespace Go.Proofs.YtggndfefpbmaeaaGreatDoor.sto
open Go.Am Go.Mdl Go.Sto
theorem XO:af.bp 31=some (.int .u32):=by kernel_rfl
theorem P7:af.bp 60=some (.slice 67):=by kernel_rfl
theorem Sy:aV af 67= .ok 3:=by kernel_rfl
theorem Y1:(af.bp 67).map cH=some true:=by kernel_rfl
variable {b o:Nat}
theorem Ec:ak af 67 (pw b o) 0= .ok (pw b o):=by kernel_rfl
def dX (A:Mem) (l:List aG) (x:Value):Prop:=∃b,aq A 67 3 b (l.map bH) x
variable {A A':Mem} {l:List aG}
theorem dX.kp {x:Value} (h:dX A l x) (k:Kp A A'):dX A' l x:=by
 obtain⟨b,h⟩:=h;exact⟨b,h.same k.1 (k.2 b)⟩
theorem dX.len {x:Value} (h:dX A l x):aL af .len [60] [x]= .ok (.int .i64 (l.length:Nat)):=by
 obtain⟨b,h⟩:=h;have:=aq.len (tb:=af) h P7;rwa [Zp] at this
variable {i:Nat} {e:aG}
theorem dX.at {x:Value} (h:dX A l x) (hi:l[i]?=some e):
 ∃p,aW af 60 x (.int .i64 i)= .ok p∧ai af A.get 67 p= .ok (.agg ⟨bH e⟩)∧∃q,ak af 67 p 0= .ok q∧ai af A.get 9 q= .ok (strOf e.word):=by
 obtain⟨b,h⟩:=h;have hl:i<(l.map bH).length:=by rw [Zp];exact(Zl.1 hi).1
 have hm:(l.map bH)[i]?=some (bH e):=by rw [ZH,hi];rfl
 have hd:∃d,af.bp 67=some d∧cH d=true:=by
  have:=Y1;cases hq:af.bp 67 with
  |none=>rw [hq] at this;cases this
  |some d=>rw [hq] at this;exact⟨d,rfl,by simpa using this⟩
 obtain⟨d,hd1,hd2⟩:=hd;refine⟨_,aq.idx h P7 Sy hl,aq.aI h hd1 hd2 Sy hm,_,Ec,?_⟩;have:=aq.load (j:=0) h u9 rfl hm rfl (by omega);rwa [Z8] at this
theorem GX (h:l≠ []):least (l++[e])=min (least l) (val e):=by
 cases l with
 |nil=>exact absurd rfl h
 |cons x l=>simp [least,qa8]
theorem vd (h:e.weight<4294967296):val e≤4294967296:=by unfold val;split<;>omega
noncomputable def tT:Code:=qcx.body.getD .skip
noncomputable def F0:Code:=sub tT [1,1,0,1,0,0]
theorem Qh:qcx.body=some (.seq (sub tT [0]) (.seq (sub tT [1,0]) (.seq (.seq (sub tT [1,1,0,0]) (.block 0 (.loop F0))) (.seq (sub tT [1,1,1,0]) (sub tT [1,1,1,1]))))):=by kernel_rfl
theorem Bt {x:Value} (h:dX A l x) (h0:l≠ []) (hw:∀e∈l,e.weight<4294967296) (hl:l.length<1000000):bJ af 100 [x] A (.int .u64 (least l:Nat)) A:=by
 refine aP (av Tryz.func100) Qh (by rw [Tryz.ntmps100];simp) (by kernel_rfl) (by kernel_rfl) ?_;obtain⟨e0,l0,rfl⟩:∃e0 l0,l=e0::l0:=by cases l with
  |nil=>exact absurd rfl h0
  |cons e l=>exact⟨e,l,rfl⟩
 rw [Zu] at hl;obtain⟨p,i1,i2,-⟩:=h.at (i:=0) rfl;have hlen:=h.len;have k0:=fun ih=>UM (ih:=ih) (A:=A) (hw e0 Zy)
 apply W.q
 ·intro M;simp (disch:=omega) only [tT,qcx,Aq,Zf];rfl
 apply W.q
 ·intro M;simp (disch:=omega) only [tT,qcx,Aq,Zf,i1,i2,k0];rfl
 apply W.seq;apply W.q
 ·intro M;simp (disch:=omega) only [tT,qcx,Aq,Zf];rfl
 apply W.block;refine W.up (l0.length+1) (fun i t D=>D=A∧1≤i∧Sl t [(0,x),(3,.int .u64 ((least ((e0::l0).take i):Nat):Int)),(4,.int .i64 i)]) ?_ (k:=1) (by omega) ⟨rfl,by omega,?_⟩
 ·rintro i t D hi ⟨rfl,h1,g0,g3,g4,-⟩;by_cases hlt:i<l0.length+1
  ·have he:(e0::l0)[i]?=some (e0::l0)[i]:=Zi (by rw [Zu];omega);obtain⟨p,j1,j2,-⟩:=h.at he;have hm:(e0::l0)[i]∈e0::l0:=ZO _;have kv:=fun ih=>UM (ih:=ih) (A:=D) (hw _ hm)
   have e3:min (least ((e0::l0).take i)) (val (e0::l0)[i])=least ((e0::l0).take (i+1)):=by
    rw [Zs (by rw [Zu];omega),GX];intro hn;have:=congrArg qaR hn;rw [ZD] at this;simp at this;omega
   apply W.run 20
   ·intro M;simp (disch:=first|decide+kernel|omega) only [F0,tT,qcx,Aq,Zf,g0,g3,g4,hlen,hlt,j1,j2,kv,I6,e3,Zu];rfl
   refine⟨hlt,_,_,rfl,rfl,by omega,?_⟩;simp only [Sq,Zf,Zg,g0]
  ·have e:i=l0.length+1:=by omega
   subst e;rw [qaJ (by simp)] at g3;apply W.run 20
   ·intro M;simp (disch:=decide+kernel) only [F0,tT,qcx,Aq,Zf,g0,g4,hlen,hlt,Zu];rfl
   apply W.q
   ·intro M;simp (disch:=omega) only [tT,qcx,Aq,Zf,g3];rfl
   apply W.run 20
   ·intro M;simp only [tT,qcx,Aq,Zf];rfl
   exact⟨by simp,rfl,rfl,by simp only [qcx,Aq,Zf]<;>rfl⟩
 ·simp only [Sq,Zf,Zg];simp [least]
theorem kA:af.bp 162=some (.slice 172):=by kernel_rfl
theorem L2:aV af 172= .ok 3:=by kernel_rfl
theorem bg {t:TypeId} {p:Bool} (h:(af.bp t).map cH=some p):∃d,af.bp t=some d∧cH d=p:=by
 cases hq:af.bp t with
 |none=>rw [hq] at h;cases h
 |some d=>rw [hq] at h;exact⟨d,rfl,by simpa using h⟩
theorem df:ak af 164 (pw b o) 0= .ok (pw b o):=by kernel_rfl
theorem cR:ak af 164 (pw b o) 1= .ok (pw b (o+1)):=by kernel_rfl
theorem iu:ak af 164 (pw b o) 2= .ok (pw b (o+2)):=by kernel_rfl
theorem ki.len {l:List cL} {x:Value} (h:ki A l x):aL af .len [162] [x]= .ok (.int .i64 (l.length:Nat)):=by
 obtain⟨b,h⟩:=h;have:=aq.len (tb:=af) h kA;rwa [Zp] at this
theorem ki.at {l:List cL} {x:Value} {e:cL} (h:ki A l x) (hi:l[i]?=some e):
 ∃p,aW af 162 x (.int .i64 i)= .ok p∧ai af A.get 172 p= .ok (.agg ⟨b9 e⟩):=by
 obtain⟨b,h⟩:=h;have hl:i<(l.map b9).length:=by rw [Zp];exact(Zl.1 hi).1
 have hm:(l.map b9)[i]?=some (b9 e):=by rw [ZH,hi];rfl
 obtain⟨d,hd1,hd2⟩:=bg (t:=172) (p:=true) (by kernel_rfl);exact⟨_,aq.idx h kA L2 hl,aq.aI h hd1 hd2 L2 hm⟩
theorem Pg:fieldsOf (af.bp 172)=[(false,5,0),(false,103,1),(false,3,2)]:=by kernel_rfl
theorem Ul {x y:Operand} {a b:cL}:qh af 172 x y (.agg ⟨b9 a⟩) (.agg ⟨b9 b⟩)=true:=by
 unfold qh;have:af.P.eqGuardType af.P.depth 172=false:=by decide+kernel
 rw [this];rfl
theorem MZ {g:Nat→Option Ob} {a b:cL}:ed af g 100 172 (.agg ⟨b9 a⟩) (.agg ⟨b9 b⟩)= .ok (decide (a=b)):=by
 rw [se (by kernel_rfl) Pg (by kernel_rfl)];simp only [iw,cond_false,b9];rw [gu u5 rfl rfl,gu u5 rfl rfl,gu (o:=1) eK rfl rfl,gu (o:=1) eK rfl rfl,gu (o:=2) u3 rfl rfl,gu (o:=2) u3 rfl rfl];simp only [R.aw,pv (tb:=af) (t:=5) u5,pv (tb:=af) (t:=103) eK,pv (tb:=af) (t:=3) u3];obtain⟨a0,a1,a2⟩:=a;obtain⟨b0,b1,b2⟩:=b;have h0':(((a0.toNat:Nat):Int)=((b0.toNat:Nat):Int))=(a0=b0):=propext ⟨fun h=>qbo.1 (Int.natCast_inj.1 h),fun h=>by rw [h]⟩;simp only [h0',Int.natCast_inj,cL.mk.injEq];by_cases h0:a0=b0<;>by_cases h1:a1=b1<;>by_cases h2:a2=b2<;>simp [h0,h1,h2,R.aw]
theorem Oi {g:Nat→Option Ob} {x y:Operand} {a b:cL}:wH af g .neq 172 x y (.agg ⟨b9 a⟩) (.agg ⟨b9 b⟩)= .ok (.bool (!decide (a=b))):=by
 unfold wH;rw [Ul,cond_true];simp only [];rw [MZ];rfl
theorem CZ (t:T Value) (g:Nat→Option Ob) (e:TypeId) (x y:Operand) (r:TypeId):nz af t g (.binOp .neq e x y r)=(ev t x).bind fun a=>(ev t y).bind fun b=>wH af g .neq e x y a b:=rfl
noncomputable def n_:Code:=qaX.body.getD .skip
noncomputable def Cc:Code:=sub n_ [1,1,0,1,0,0]
theorem QG:qaX.body=some (.seq (sub n_ [0]) (.seq (sub n_ [1,0]) (.seq (.seq (sub n_ [1,1,0,0]) (.block 0 (.loop Cc))) (.seq (sub n_ [1,1,1,0]) (sub n_ [1,1,1,1]))))):=by kernel_rfl
variable {y:Value}
theorem Lf {s u:a6} {x:Value} (hx:ki A s.arcs x) (hy:ki A u.arcs y) (hl:s.arcs.length<1000000):∃v A',bJ af 197 [.agg ⟨cZ x s⟩,.agg ⟨cZ y u⟩] A v A'∧v= .bool (decide (s=u))∧Kp A A':=by
 refine cM (av Tryz.func197) QG (by rw [Tryz.ntmps197];simp) (by kernel_rfl) (by kernel_rfl) ?_;have kB:Kp A ((A.alloc (aa 164 (cZ x s))).alloc (aa 164 (cZ y u))):=(Kp.alloc _ _).trans (Kp.alloc _ _);have h1:VB ((A.alloc (aa 164 (cZ x s))).alloc (aa 164 (cZ y u))) 164 A.next (.var 3) (cZ x s):=(az A 164 (cZ x s)).kp (Kp.alloc _ _)
 have h2:VB ((A.alloc (aa 164 (cZ x s))).alloc (aa 164 (cZ y u))) 164 (A.alloc (aa 164 (cZ x s))).next (.var 3) (cZ y u):=az _ 164 (cZ y u)
 apply W.q
 ·intro M;simp (disch:=omega) only [n_,qaX,Aq,Zf,aj];rfl
 generalize (A.alloc (aa 164 (cZ x s))).alloc (aa 164 (cZ y u))=B at kB h1 h2;generalize (A.alloc (aa 164 (cZ x s))).next=q at h2
 generalize A.next=p at h1
 have hx:=hx.kp kB;have hy:=hy.kp kB;have a1:ai af B.get 162 (pw p 0)= .ok x:=h1.ld rfl kA rfl;have a2:ai af B.get 4 (pw p (0+1))= .ok (.bool s.fin):=h1.ld rfl u4 rfl;have a3:ai af B.get 103 (pw p (0+2))= .ok (.int .u64 s.out):=h1.ld rfl eK rfl;have b1:ai af B.get 162 (pw q 0)= .ok y:=h2.ld rfl kA rfl;have b2:ai af B.get 4 (pw q (0+1))= .ok (.bool u.fin):=h2.ld rfl u4 rfl;have b3:ai af B.get 103 (pw q (0+2))= .ok (.int .u64 u.out):=h2.ld rfl eK rfl;have lx:=hx.len;have ly:=hy.len;apply W.seq;by_cases hsame:s.fin=u.fin∧s.out=u.out∧s.arcs.length=u.arcs.length
 ·obtain⟨e1,e2,e3⟩:=hsame;rw [←e1] at b2;rw [←e2] at b3;rw [←e3] at ly;have q1:(s.fin !=s.fin)=false:=by simp
  apply W.run 20
  ·intro M;simp (config:={maxSteps:=4000000}) (disch:=first|decide+kernel|omega|simp only [Wq,Zf]) only [n_,qaX,Aq,Zj,reduceIte,Zf,Zg,df,cR,iu,a1,a2,a3,b1,b2,b3,lx,ly,u4,lU,q1];rfl
  apply W.seq;apply W.q
  ·intro M;simp (disch:=omega) only [n_,qaX,Aq,Zf];rfl
  apply W.block;refine W.up s.arcs.length (fun i t D=>D=B∧s.arcs.take i=u.arcs.take i∧Sl t [(2,pw p 0),(3,pw q 0),(5,.int .i64 i)]) ?_ (Zv _) ⟨rfl,rfl,?_⟩
  ·rintro i t D hi ⟨rfl,ht,g2,g3,g5,-⟩;by_cases hlt:i<s.arcs.length
   ·have m1:s.arcs[i]?=some s.arcs[i]:=Zi hlt;have m2:u.arcs[i]?=some (u.arcs[i]'(by omega)):=Zi (by omega)
    obtain⟨p1,j1,j2⟩:=hx.at m1;obtain⟨p2,j3,j4⟩:=hy.at m2;by_cases he:s.arcs[i]=u.arcs[i]'(by omega)
    ·have n1:=fun x y=>Oi (g:=D.get) (x:=x) (y:=y) (a:=s.arcs[i]) (b:=u.arcs[i]'(by omega))
     simp only [he,decide_true,qaI] at n1;rw [he] at j2;apply W.run 20
     ·intro M;simp (config:={maxSteps:=4000000}) (disch:=first|decide+kernel|omega|simp only [Wq,Zf]) only [Cc,n_,qaX,Aq,Zj,reduceIte,Zf,Zg,g2,g3,g5,lx,hlt,df,a1,b1,j1,j2,j3,j4,Fq,au [],CZ,n1];rfl
     refine⟨hlt,_,_,rfl,rfl,?_,?_⟩
     ·rw [Zs hlt,Zs (show i<u.arcs.length by omega),ht,he]
     ·simp only [Sq,Zf,Zg,g2,g3]
    ·have n1:=fun x y=>Oi (g:=D.get) (x:=x) (y:=y) (a:=s.arcs[i]) (b:=u.arcs[i]'(by omega))
     simp only [he,decide_false,qa4] at n1;apply W.run 20
     ·intro M;simp (config:={maxSteps:=4000000}) (disch:=first|decide+kernel|omega|simp only [Wq,Zf]) only [Cc,n_,qaX,Aq,Zj,reduceIte,Zf,Zg,g2,g3,g5,lx,hlt,df,a1,b1,j1,j2,j3,j4,Fq,au [],CZ,n1];rfl
     refine⟨by simp,rfl,_,(by simp only [qaX,Aq,Zf]<;>rfl),?_,kB⟩;rw [decide_eq_false fun h=>he (by subst h;rfl)]
   ·have e:i=s.arcs.length:=by omega
    subst e;rw [ZL,e3,ZL] at ht;apply W.run 20
    ·intro M;simp (disch:=decide+kernel) only [Cc,n_,qaX,Aq,Zf,g2,g5,lx,hlt,df,a1];rfl
    apply W.q
    ·intro M;simp (disch:=omega) only [n_,qaX,Aq,Zf];rfl
    apply W.run 20
    ·intro M;simp only [n_,qaX,Aq,Zf];rfl
    refine⟨by simp,rfl,_,(by simp only [qaX,Aq,Zj,reduceIte,Zf,Zg]<;>rfl),?_,kB⟩;have:s=u:=by
     obtain⟨f,o,a⟩:=s;obtain⟨f',o',a'⟩:=u;simp only at e1 e2 ht;rw [e1,e2,ht]
    rw [decide_eq_true this]
  ·simp only [Sq,Zf,Zg]
 ·have hne:s≠u:=fun h=>hsame (by rw [h];exact⟨rfl,rfl,rfl⟩)
  by_cases e1:s.fin=u.fin
  ·rw [←e1] at b2;have q1:(s.fin !=s.fin)=false:=by simp
   by_cases e2:s.out=u.out
   ·have e3:¬s.arcs.length=u.arcs.length:=fun h=>hsame ⟨e1,e2,h⟩
    rw [←e2] at b3;apply W.run 20
    ·intro M;simp (config:={maxSteps:=4000000}) (disch:=first|decide+kernel|omega|simp only [Wq,Zf]) only [n_,qaX,Aq,Zj,reduceIte,Zf,Zg,df,cR,iu,a1,a2,a3,b1,b2,b3,lx,ly,u4,lU,q1,e3];rfl
    exact⟨by simp,rfl,_,(by simp only [qaX,Aq,Zj,reduceIte,Zf,Zg]<;>rfl),by rw [decide_eq_false hne],kB⟩
   ·apply W.run 20
    ·intro M;simp (config:={maxSteps:=4000000}) (disch:=first|decide+kernel|omega|simp only [Wq,Zf]) only [n_,qaX,Aq,Zj,reduceIte,Zf,Zg,df,cR,iu,a1,a2,a3,b1,b2,b3,lx,ly,u4,lU,q1,e2];rfl
    exact⟨by simp,rfl,_,(by simp only [qaX,Aq,Zj,reduceIte,Zf,Zg]<;>rfl),by rw [decide_eq_false hne],kB⟩
  ·have q1:(s.fin !=u.fin)=true:=by simpa using e1
   apply W.run 20
   ·intro M;simp (config:={maxSteps:=4000000}) (disch:=first|decide+kernel|omega|simp only [Wq,Zf]) only [n_,qaX,Aq,Zj,reduceIte,Zf,Zg,df,cR,iu,a1,a2,a3,b1,b2,b3,lx,ly,u4,lU,q1];rfl
   exact⟨by simp,rfl,_,(by simp only [qaX,Aq,Zj,reduceIte,Zf,Zg]<;>rfl),by rw [decide_eq_false hne],kB⟩
theorem fP:af.bp 102=some (.slice 164):=by kernel_rfl
theorem mH:aV af 164= .ok 3:=by kernel_rfl
theorem TD:cg af 164= .ok (3,[.slice none 0 0,.bool false,.int .u64 0]):=by kernel_rfl
theorem Jz:aV af 102= .ok 1:=by kernel_rfl
theorem ui:ak af 167 (pw b 0) 0= .ok (pw b 0):=by kernel_rfl
theorem Tw:∃i,af.ty.get 164=some i∧0<i.bytes∧i.bytes≤65536:=by
 have h:(af.ty.get 164).map (fun i=>Zt 0 i.bytes&&Zj i.bytes 65536)=some true:=by kernel_rfl
 cases hq:af.ty.get 164 with
 |none=>rw [hq] at h;cases h
 |some i=>
  rw [hq] at h;simp only [Z1,ZQ,ZF,ZB] at h;exact⟨i,rfl,h.1,ZP h.2⟩
theorem S1 {x:Value} {s:a6}:a9 af 102 1 [(0,.agg ⟨cZ x s⟩)]= .ok (aa 164 (cZ x s),.nO 1 2):=by kernel_rfl
def zW (A:Mem) (m b:Nat) (M:List a6) (X:Nat→Prop):Prop:=∃x rows,VB A 167 m (.var 1) [x]∧aq A 164 3 b rows x∧((M=[]→x= .slice none 0 0)∧(M≠ []→b≠m∧b<A.next∧¬X b))∧¬X m∧rows.length=M.length∧
 ∀(i:Nat) (s:a6),M[i]?=some s→∃y c,rows[i]?=some (cZ y s)∧aq A 172 3 c (s.arcs.map b9) y∧(s.arcs=[]→y= .slice none 0 0)∧(s.arcs≠ []→c≠b∧c≠m∧¬X c)
variable {m:Nat} {M:List a6}
theorem zW.YM {X:Nat→Prop} (h:zW A m b M X) (hn:A.next≤A'.next) (hg:∀z,z<A.next→¬X z→A'.get z=A.get z):zW A' m b M X:=by
 obtain⟨x,rows,h1,h2,h3,hX,h4,h5⟩:=h;refine⟨x,rows,⟨ZJ h1.1 hn,h1.2.same (hg m h1.1 hX)⟩,aq.fU h2 (fun h=>h3.1 (Zw.1 (by rw [←h4,h];rfl))) hn (fun hne hlt=>hg b hlt (h3.2 fun h=>hne (Zw.1 (by rw [h4,h];rfl))).2.2),⟨h3.1,fun h=>⟨(h3.2 h).1,ZJ (h3.2 h).2.1 hn,(h3.2 h).2.2⟩⟩,hX,h4,fun i s hs=>?_⟩;obtain⟨y,c,e1,e2,e0,e3⟩:=h5 i s hs;exact⟨y,c,e1,aq.fU e2 (fun h=>e0 (ZZ.1 h)) hn (fun hne hlt=>hg c hlt (e3 fun h=>hne (by rw [h];rfl)).2.2),e0,e3⟩
theorem zW.kp {X:Nat→Prop} (h:zW A m b M X) (k:Kp A A'):zW A' m b M X:=h.YM k.1 fun z hz _=>k.2 z hz
theorem KF {s:a6} (h1:M[i]?=some s) (h2:∀j,j<i→M[j]?≠some s):M.findIdx? (fun x=>decide (x=s))=some i:=by
 obtain⟨hl,he⟩:=Zl.1 h1;rw [List.findIdx?_eq_some_iff_getElem];refine⟨hl,by simp [he],fun j hj=>?_⟩;have:=h2 j hj;rw [Zi (by omega)] at this;simpa using this
theorem Ev {s:a6} (h2:∀j,j<M.length→M[j]?≠some s):M.findIdx? (fun x=>decide (x=s))=none:=by
 rw [qcd];intro x hx;obtain⟨j,hj,rfl⟩:=qbT hx;have:=h2 j hj;rw [Zi hj] at this;simpa using this
noncomputable def rW:Code:=qbZ.body.getD .skip
noncomputable def B':Code:=sub rW [1,0,1,0,0]
theorem Qs:qbZ.body=some (.seq (sub rW [0]) (.seq (.seq (sub rW [1,0,0]) (.block 0 (.loop B'))) (.seq (sub rW [1,1,0]) (.seq (sub rW [1,1,1,0]) (sub rW [1,1,1,1]))))):=by kernel_rfl
variable {c:Nat}
theorem Hq {X:Nat→Prop} {s:a6} (hM:zW A m b M X) (hX:∀z,X z→z<A.next) (hs:aq A 172 3 c (s.arcs.map b9) y) (hy0:s.arcs=[]→y= .slice none 0 0) (hc:s.arcs≠ []→(M≠ []→c≠b)∧c≠m∧¬X c) (hl:s.arcs.length<1000000) (hl2:∀u∈M,u.arcs.length<1000000) (hML:M.length<1000000):
 ∃v A',bJ af 152 [.pointer (some ⟨m,0,none⟩),.agg ⟨cZ y s⟩] A v A'∧v= .int .i64 ((p_ M s).2:Nat)∧∃b',zW A' m b' (p_ M s).1 X∧((M≠ []∧b'=b)∨A.next≤b')∧A.next≤A'.next∧∀z,z<A.next→z≠m→(M≠ []→z≠b)→A'.get z=A.get z:=by
 refine cM (av Tryz.func152) Qs (by rw [Tryz.ntmps152];simp) (by kernel_rfl) (by kernel_rfl) ?_;have kB:=Kp.alloc A (aa 164 (cZ y s));have own:=az A 164 (cZ y s);have hcell:∀v∈cZ y s,aH v=true:=by
  intro v hv;simp only [cZ,ZC,Z0,or_false] at hv;rcases hv with rfl|rfl|rfl
  ·exact(aq.di hs).2
  ·rfl
  ·rfl
 apply W.q
 ·intro M;simp (disch:=omega) only [rW,qbZ,Aq,Zf,aj];rfl
 generalize A.alloc (aa 164 (cZ y s))=B at kB own;obtain⟨d,hd1,hd2⟩:=bg (t:=164) (p:=true) (by kernel_rfl);apply W.seq;apply W.q
 ·intro M;simp (disch:=omega) only [rW,qbZ,Aq,Zf];rfl
 apply W.block;refine W.up M.length (fun i t D=>Kp B D∧(∀j,j<i→M[j]?≠some s)∧Sl t [(0,.pointer (some ⟨m,0,none⟩)),(3,.pointer (some ⟨A.next,0,none⟩)),(5,.int .i64 i)]) ?_ (Zv _) ⟨Kp.refl _,fun j hj=>absurd hj (qaS _),?_⟩
 ·rintro i t D hi ⟨kD,hno,g0,g3,g5,-⟩;have hMD:=(hM.kp kB).kp kD;obtain⟨x,rows,h1,h2,h3,hXm,h4,h5⟩:=id hMD;have lm:ai af D.get 102 (.pointer (some ⟨m,0,none⟩))= .ok x:=h1.ld rfl fP rfl;have lo:ai af D.get 164 (.pointer (some ⟨A.next,0,none⟩))= .ok (.agg ⟨cZ y s⟩):=aI hd1 hd2 (l:=cZ y s) mH (own.kp kD).2;have lx:=aq.len (tb:=af) (t:=102) h2 fP;rw [h4] at lx;by_cases hlt:i<M.length
  ·have he:M[i]?=some M[i]:=Zi hlt;obtain⟨yi,ci,e1,e2,-⟩:=h5 i _ he;have j1:=aq.idx (tb:=af) (t:=102) (i:=i) (kd:=.i64) h2 fP mH (by omega);have j2:=aq.aI (tb:=af) (t:=164) h2 hd1 hd2 mH e1;obtain⟨v,E,⟨g,hg⟩,rfl,kE⟩:=Lf (A:=D) (s:=M[i]) (u:=s) ⟨ci,e2⟩ ⟨c,(hs.same kB.1 (kB.2 c)).same kD.1 (kD.2 c)⟩ (hl2 _ (ZO _));by_cases hsame:M[i]=s
   ·rw [decide_eq_true hsame] at hg;apply W.bf (g) 20
    ·intro M hM;simp (config:={maxSteps:=4000000}) (disch:=first|decide+kernel|omega|simp only [Wq,Zf]) only [B',rW,qbZ,Aq,Zj,reduceIte,Zf,Zg,g0,g3,g5,lm,lo,lx,hlt,aA,aX,ui,j1,j2,hg,Fq,au []];rfl
    have hn:p_ M s=(M,i):=qO (KF (by rw [he,hsame]) hno);refine⟨by simp,rfl,_,(by simp only [qbZ,Aq,Zf]<;>rfl),by rw [hn],b,by rw [hn];exact hMD.kp kE,.inl ⟨fun h=>by rw [h] at hlt;simp at hlt,rfl⟩,by show A.next≤E.next;have:=kB.1;have:=kD.1;have:=kE.1;omega,fun z hz _ _=>((kB.trans kD).trans kE).2 z hz⟩
   ·rw [decide_eq_false hsame] at hg;apply W.bf (g) 20
    ·intro M hM;simp (config:={maxSteps:=4000000}) (disch:=first|decide+kernel|omega|simp only [Wq,Zf]) only [B',rW,qbZ,Aq,Zj,reduceIte,Zf,Zg,g0,g3,g5,lm,lo,lx,hlt,aA,aX,ui,j1,j2,hg,Fq,au []];rfl
    refine⟨hlt,_,_,rfl,kD.trans kE,fun j hj=>?_,?_⟩
    ·rcases ZS j i with h|h
     ·exact hno j h
     ·rw [show j=i by omega,he];simpa using hsame
    ·simp only [Sq,Zf,Zg,g0,g3]
  ·have e:i=M.length:=by omega
   subst e;have hn:p_ M s=(M++[s],M.length):=yF (Ev hno);obtain⟨ti,t1,t2,t3⟩:=Tw;have h2':aq (D.alloc (aa 164 (cZ y s))) 164 3 b rows x:=h2.same (by rw [ae];omega) fun h=>aB (by omega)
   obtain⟨x',F,happ,hs3,hn3,hf3⟩:=aq.append (tb:=af) (st:=102) (xt:=102) h2' fP fP TD t1 t2 t3 (by omega) (by omega) (by omega) (ay D _) rfl hcell;rw [ae] at hs3 hn3 hf3;have hmF:dj F 167 m (.var 1) [x]:=h1.2.same (by rw [hf3 m (fun h=>qa7 h3.1 fun hne=>absurd h.symm (h3.2 hne).1) (by have:=h1.1;omega),aB (by have:=h1.1;omega)]);obtain⟨G,sG,vG,nG,kG⟩:=aY (tb:=af) (o:=0) (v:=x') Jz hmF (by simp) (aq.di hs3).1 (aq.di hs3).2;have lG:ai af G.get 102 (.pointer (some ⟨m,0,none⟩))= .ok x':=aU fP rfl vG rfl;have eJ:∀z,z<D.next→z≠m→(M≠ []→z≠b)→G.get z=D.get z:=fun z hz h1 h2=>by rw [kG z h1,hf3 z (fun h=>qa7 h3.1 fun hne=>absurd h (h2 hne)) (by omega),aB (by omega)]
   have hsG:aq G 164 3 (D.next+1) (rows++[cZ y s]) x':=hs3.same (by omega) fun h=>kG _ (by have:=h1.1;omega)
   have lxG:=aq.len (tb:=af) (t:=102) hsG fP;rw [Zo,qae,h4] at lxG;have sub1:aK .sub .i64 ((M.length+1:Nat):Int) ((1:Nat):Int)= .ok (.int .i64 (M.length:Nat)):=bm (by omega) (aR (by omega));apply W.run 20
   ·intro M;simp (disch:=decide+kernel) only [B',rW,qbZ,Aq,Zf,g0,g5,lm,lx,hlt,aA,aX,ui];rfl
   apply W.q
   ·intro M;simp (config:={maxSteps:=4000000}) (disch:=first|decide+kernel|omega|simp only [Wq,Zf]) only [rW,qbZ,Aq,Zj,reduceIte,Zf,Zg,g0,g3,lm,lo,aA,aX,ui,S1,happ,sG,Fq,au []];rfl
   apply W.q
   ·intro M;simp (disch:=decide+kernel) only [rW,qbZ,Aq,Zf,g0,aA,aX,ui,lG,lxG,sub1];rfl
   apply W.run 20
   ·intro M;simp only [rW,qbZ,Aq,Zf];rfl
   refine⟨by simp,rfl,_,(by simp only [qbZ,Aq,Zf]<;>rfl),by rw [hn],D.next+1,?_,.inr ?_,?_,fun z hz hm hb=>?_⟩
   ·rw [hn];refine⟨x',rows++[cZ y s],⟨?_,vG⟩,hsG,⟨fun h=>by simp at h,fun _=>⟨?_,?_,fun h=>?_⟩⟩,hXm,?_,fun i u hu=>?_⟩
    ·show m<G.next
     have:=h1.1;omega
    ·have:=h1.1;omega
    ·show D.next+1<G.next
     omega
    ·have:=hX _ h;have:=kB.1;have:=kD.1;omega
    ·rw [Zo,Zo,h4];rfl
    ·rcases ZS i M.length with hi2|hi2
     ·rw [ZU hi2] at hu;obtain⟨yi,ci,e1,e2,e0,e3⟩:=h5 i u hu;refine⟨yi,ci,by rw [ZU (by omega)];exact e1,aq.fU e2 (fun h=>e0 (ZZ.1 h)) (by show D.next≤G.next;omega) fun hne hlt=>eJ ci hlt (e3 fun h=>hne (by rw [h];rfl)).2.1 (fun _=>(e3 fun h=>hne (by rw [h];rfl)).1),e0,fun h=>⟨?_,(e3 h).2⟩⟩;rcases e2 with⟨_,e2⟩|⟨_,_,_,e2,_⟩
      ·exact absurd (ZZ.1 e2) h
      ·omega
     ·rw [ZN hi2] at hu;cases hq:i-M.length with
      |succ n=>rw [hq] at hu;simp at hu
      |zero=>
       rw [hq] at hu;cases hu;have hsD:aq D 172 3 c (s.arcs.map b9) y:=(hs.same kB.1 (kB.2 c)).same kD.1 (kD.2 c);refine⟨y,c,by rw [ZN (by omega),show i-rows.length=0 by omega];rfl,aq.fU hsD (fun h=>hy0 (ZZ.1 h)) (by show D.next≤G.next;omega) fun hne hlt=>eJ c hlt (hc fun h=>hne (by rw [h];rfl)).2.1 (hc fun h=>hne (by rw [h];rfl)).1,hy0,fun h=>⟨?_,(hc h).2⟩⟩;rcases hsD with⟨_,e2⟩|⟨_,_,_,e2,_⟩
       ·exact absurd (ZZ.1 e2) h
       ·omega
   ·have:=kB.1;have:=kD.1;omega
   ·show A.next≤G.next
    have:=kB.1;have:=kD.1;omega
   ·show G.get z=A.get z;have:=kB.1;have:=kD.1;rw [eJ z (by omega) hm hb,kD.2 z (by omega),kB.2 z hz]
 ·simp only [Sq,Zf,Zg]
variable {w:List UInt8}
theorem Hy (h:1≤w.length∧w.length≤255):bJ af 150 [strOf w] A (.int .i64 (0:Nat)) A:=by
 have k:=fun ih=>Y3 (ih:=ih) (A:=A) (w:=w)
 rw [decide_eq_true h] at k;refine aP (av Tryz.func150) (c:=Tryz.f150.body.getD .skip) (by kernel_rfl) (by rw [Tryz.ntmps150];simp) (by kernel_rfl) (by kernel_rfl) ?_;apply W.run 60
 ·intro M;simp (disch:=omega) only [Tryz.f150,Aq,Zf,k];rfl
 exact⟨by simp,rfl,rfl,by simp only [Tryz.f150,Aq,Zf,k]<;>rfl⟩
theorem Sn {a b:List UInt8}:db .geq a b= .ok (.bool (!aZ a b)):=rfl
theorem S8 (t:T Value) (k:IntKind):ev t (.const (.int k (-1)))= .ok (.int k (-1)):=rfl
theorem Mt:∀{l:List aG} {i:Nat} {a b:aG},rL l→l[i]?=some a→l[i+1]?=some b→aZ a.word b.word=true
 |x::l,0,a,b,h,h1,h2=>by
  cases h1;rw [Zk] at h2;exact h.1 b (ZM h2)
 |x::l,i+1,a,b,h,h1,h2=>by
  rw [Zk] at h1 h2;exact Mt h.2 h1 h2
noncomputable def L5:Code:=qc5.body.getD .skip
noncomputable def Ih:Code:=sub L5 [1,0,1,0,0]
theorem Ue:qc5.body=some (.seq (sub L5 [0]) (.seq (.seq (sub L5 [1,0,0]) (.block 0 (.loop Ih))) (.seq (sub L5 [1,1,0]) (sub L5 [1,1,1])))):=by kernel_rfl
theorem Ho {x:Value} (h:dX A l x) (ha:rL l) (hw:∀e∈l,1≤e.word.length∧e.word.length≤255) (hl:l.length<1000000):bJ af 99 [x] A (.tuple ⟨[.int .i64 (-1),.int .i64 (0:Nat)]⟩) A:=by
 refine aP (av Tryz.func99) Ue (by rw [Tryz.ntmps99];simp) (by kernel_rfl) (by kernel_rfl) ?_;have hlen:=h.len;apply W.q
 ·intro M;simp (disch:=omega) only [L5,qc5,Aq,Zf];rfl
 apply W.seq;apply W.q
 ·intro M;simp (disch:=omega) only [L5,qc5,Aq,Zf];rfl
 apply W.block;refine W.up l.length (fun i t D=>D=A∧Sl t [(0,x),(4,.int .i64 i)]) ?_ (Zv _) ⟨rfl,?_⟩
 ·rintro i t D hi ⟨rfl,g0,g4,-⟩;by_cases hlt:i<l.length
  ·have he:l[i]?=some l[i]:=Zi hlt;obtain⟨p,j1,j2,q,j3,j4⟩:=h.at he;obtain⟨g,hg⟩:=Hy (A:=D) (hw _ (ZO hlt));by_cases h0:0<i
   ·have he2:l[i-1]?=some l[i-1]:=Zi (by omega);obtain⟨p2,k1,k2,q2,k3,k4⟩:=h.at he2;have sub1:aK .sub .i64 ((i:Nat):Int) ((1:Nat):Int)= .ok (.int .i64 (i-1:Nat)):=bm (by omega) (aR (by omega));have hb:=Mt ha he2 (by rw [show i-1+1=i by omega];exact he);apply W.bf (g) 20
    ·intro M hM;simp (config:={maxSteps:=4000000}) (disch:=first|decide+kernel|omega|simp only [Wq,Zf]) only [Ih,L5,qc5,Aq,Zj,reduceIte,Zf,Zg,g0,g4,hlen,hlt,j1,j3,j4,hg,bT,bA,h0,sub1,k1,k3,k4,u9,Sn,hb,Fq,au []];rfl
    refine⟨hlt,_,_,rfl,rfl,?_⟩;simp only [Sq,Zf,Zg,g0]
   ·apply W.bf (g) 20
    ·intro M hM;simp (config:={maxSteps:=4000000}) (disch:=first|decide+kernel|omega|simp only [Wq,Zf]) only [Ih,L5,qc5,Aq,Zj,reduceIte,Zf,Zg,g0,g4,hlen,hlt,j1,j3,j4,hg,bT,bA,h0,Fq,au []];rfl
    refine⟨hlt,_,_,rfl,rfl,?_⟩;simp only [Sq,Zf,Zg,g0]
  ·have e:i=l.length:=by omega
   subst e;apply W.run 20
   ·intro M;simp (disch:=decide+kernel) only [Ih,L5,qc5,Aq,Zf,g0,g4,hlen,hlt];rfl
   apply W.q
   ·intro M;simp (disch:=omega) only [L5,qc5,Aq,Zf,S8];rfl
   apply W.run 20
   ·intro M;simp only [L5,qc5,Aq,Zf];rfl
   exact⟨by simp,rfl,rfl,by simp only [qc5,Aq,Zf]<;>rfl⟩
 ·simp only [Sq,Zf,Zg]
end Go.Proofs.YtggndfefpbmaeaaGreatDoor.sto
namespace Go.Sto
open Go.Am Go.Mdl
theorem EU (M:List a6) (s:a6):M<+:(p_ M s).1:=by
 unfold p_;split
 ·exact qcX _
 ·exact qcs _ _
theorem Rv (M:List a6) (s:a6):(p_ M s).1[(p_ M s).2]?=some s:=by
 cases h:M.findIdx? (fun x=>decide (x=s)) with
 |some i=>rw [qO h];exact Ew h
 |none=>rw [yF h,ZN (Zn _),qaz];rfl
variable {d:Nat}
theorem lS {rec:List aG→Nat→List a6→List a6×Nat} {less:Nat} (hrec:∀own n M,M<+:(rec own n M).1):∀(r:List aG) (Ze:List cL) (M:List a6),M<+:(dD rec d less r Ze M).1∧Ze<+:(dD rec d less r Ze M).2
 | [],Ze,M=>⟨qcX _,qcX _⟩
 |e::r,Ze,M=>by
  unfold dD;split
  ·exact lS hrec r Ze M
  ·obtain⟨h1,h2⟩:=lS hrec r (Ze++[⟨(ax d e).getD 0,least ((e::r).filter fun x=>decide (ax d x=ax d e))-less,(rec ((e::r).filter fun x=>decide (ax d x=ax d e)) (least ((e::r).filter fun x=>decide (ax d x=ax d e))) M).2⟩])
    (rec ((e::r).filter fun x=>decide (ax d x=ax d e)) (least ((e::r).filter fun x=>decide (ax d x=ax d e))) M).1
   exact⟨(hrec _ _ _).trans h1,(qcs _ _).trans h2⟩
theorem xq:∀(f:Nat) (l:List aG) (d less:Nat) (M:List a6),M<+:(pP f l d less M).1
 |0,_,_,_,M=>qcX _
 |f+1,l,d,less,M=>by
  unfold pP;exact(lS (fun own n M=>xq f own (d+1) n M) l [] M).1.trans (EU _ _)
variable {M:List a6}
theorem Ep {M':List a6} (g:Good M') (h:M<+:M'):Good M:=by
 have g0:de M:=fun i s hs=>g.1 i s (by rw [CY h (Zl.1 hs).1];exact hs)
 refine⟨g0,h.sublist.nodup g.2.1,fun i hi w hw=>?_⟩;rw [←Ds g0 h hi] at hw;exact g.2.2 i (ZJ hi h.length_le) w hw
theorem YP:∀{l:List UInt8} {n:Nat},l.Pairwise (·<·)→(∀x∈l,n≤x.toNat)→n≤256→l.length+n≤256
 | [],n,_,_,h=>by simpa using h
 |x::l,n,hp,hn,_=>by
  obtain⟨h1,h2⟩:=List.pairwise_cons.1 hp;have hx:=x.toNat_lt;have:=YP (l:=l) (n:=x.toNat+1) h2 (fun y hy=>qb7.1 (h1 y hy)) (by omega);have:=hn x Zy;rw [Zu];omega
variable {i:Nat}
theorem kX {s:a6} (h:VS i s):s.arcs.length≤256:=by
 have:=YP (n:=0) h.2.1 (fun _ _=>Zv _) (by omega);rwa [Zp] at this
theorem Eo (g:Good M) {s:a6} (h:s∈M):s.arcs.length≤256:=by
 obtain⟨i,hi,rfl⟩:=qbT h;exact kX (g.1 i _ (Zi hi))
variable {l:List aG}
theorem Pm {f less:Nat} (g:Good (pP (f+1) l d less M).1):(dD (fun own n M=>pP f own (d+1) n M) d less l [] M).2.length≤256:=by
 have h:=Rv (dD (fun own n M=>pP f own (d+1) n M) d less l [] M).1 ⟨(iW d less l).1,(iW d less l).2,(dD (fun own n M=>pP f own (d+1) n M) d less l [] M).2⟩;exact kX (g.1 _ _ h)
def Dw (d:Nat) (l:List aG):Nat:=(l.map fun e=>e.word.length+1-d).sum
theorem qB (d:Nat) (p:aG→Bool):∀l:List aG,Dw d (l.filter p)+Dw d (l.filter fun x=>!p x)=Dw d l
 | []=>rfl
 |x::l=>by
  have ih:=qB d p l;unfold Dw at ih⊢;rw [Z',Z'];cases h:p x<;>simp [h]<;>omega
end Go.Sto
namespace Go.Proofs.YtggndfefpbmaeaaGreatDoor.sto
open Go.Am Go.Mdl Go.Sto
theorem YJ:cg af 67= .ok (3,[.string .empty,.int .u32 0,.bool false]):=by kernel_rfl
variable {e:aG}
theorem FZ:a9 af 60 1 [(0,.agg ⟨bH e⟩)]= .ok (aa 67 (bH e),.nO 1 2):=by kernel_rfl
theorem Yz:∃i,af.ty.get 67=some i∧0<i.bytes∧i.bytes≤65536:=by
 have h:(af.ty.get 67).map (fun i=>Zt 0 i.bytes&&Zj i.bytes 65536)=some true:=by kernel_rfl
 cases hq:af.ty.get 67 with
 |none=>rw [hq] at h;cases h
 |some i=>
  rw [hq] at h;simp only [Z1,ZQ,ZF,ZB] at h;exact⟨i,rfl,h.1,ZP h.2⟩
theorem sd (e:aG):∀v∈bH e,aH v=true:=by
 intro v hv;simp only [bH,ZC,Z0,or_false] at hv;rcases hv with rfl|rfl|rfl<;>rfl
variable {b:Nat} {l:List aG}
theorem wX {D:Mem} {x:Value} (h:aq D 67 3 b (l.map bH) x) (hl:l.length<1000000):
 ∃x' D',ba af (D.alloc (aa 67 (bH e))) 60 60 x (.slice (some ⟨D.next,0,none⟩) 1 2)= .ok (x',D')∧aq D' 67 3 (D.next+1) ((l++[e]).map bH) x'∧D'.next=D.next+2∧∀z,z≠b→z<D.next→D'.get z=D.get z:=by
 obtain⟨i,t1,t2,t3⟩:=Yz;have h':aq (D.alloc (aa 67 (bH e))) 67 3 b (l.map bH) x:=h.same (by rw [ae];omega) fun hh=>aB (by omega)
 obtain⟨x',D',h1,h2,h3,h4⟩:=aq.append (tb:=af) (st:=60) (xt:=60) h' P7 P7 YJ t1 t2 t3 (by omega) (by omega) (by rw [Zp];omega) (ay D _) rfl (sd e);rw [ae] at h2 h3 h4;refine⟨x',D',h1,by rw [Z3];exact h2,by omega,fun z hz hzn=>by rw [h4 z (fun hh=>absurd hh hz) (by omega),aB (by omega)]⟩
variable {i k:Nat}
theorem xY (hik:i≤k) (hk:k<l.length):(l.take (k+1)).drop i=(l.take k).drop i++[l[k]]:=by
 rw [Zs hk,List.drop_append_of_le_length (by rw [ZD];omega)]
variable {d:Nat}
theorem jE (h:d<e.word.length):ax d e=some (e.word.getD d 0):=by
 unfold ax;rw [qab,Zi h];rfl
noncomputable def fW:Code:=qao.body.getD .skip
noncomputable def xF:Code:=sub fW [1,1,0,1,0,0]
noncomputable def cD:Code:=sub fW [1,1,1,0,1,0,0]
noncomputable def qx:Code:=sub cD [1,0,0,1,1,0,1,0,0]
variable {t:T Value}
theorem Ot {D:Mem} {x mv sp:Value} {bl less:Nat} {K:Ex→St→Prop} (h:aq D 67 3 bl (l.map bH) x) (he:l[i]?=some e) (hd:d<e.word.length) (hl:l.length<1000000)
 (hw:∀y∈l,y.word.length<1000000) (hs:Sl t [(0,mv),(1,x),(2,.int .i64 d),(3,.int .u64 less),(9,sp),(11,.int .i64 i),(12,.slice none 0 0)])
 (hK:∀t' D' xo bo,Kp D D'→aq D' 67 3 bo ((l.drop i|>.filter fun y=>decide (ax d y=ax d e)).map bH) xo→D.next≤bo→
  Sl t' [(0,mv),(1,x),(2,.int .i64 d),(3,.int .u64 less),(9,sp),(11,.int .i64 i),(12,xo)]→K .nrm ⟨t',143,[],D',none⟩):
 W af (.seq (sub cD [1,0,0,1,1,0,0]) (.block 4 (.loop qx))) ⟨t,143,[],D,none⟩ K:=by
 obtain⟨g0,g1,g2,g3,g9,g11,g12,-⟩:=hs;have hi:i<l.length:=(Zl.1 he).1;have hE:dX D l x:=⟨bl,h⟩;obtain⟨pe,i1,-,qe,i3,i4⟩:=hE.at he;have hlen:=hE.len;apply W.q
 ·intro M;simp (disch:=omega) only [cD,fW,qao,Aq,Zf,g11];rfl
 apply W.block;refine W.up l.length (fun k t E=>i≤k∧Kp D E∧∃xo bo,aq E 67 3 bo ((((l.take k).drop i).filter fun y=>decide (ax d y=ax d e)).map bH) xo∧D.next≤bo∧Sl t [(0,mv),(1,x),(2,.int .i64 d),(3,.int .u64 less),(9,sp),(11,.int .i64 i),(12,xo),(13,.int .i64 k)]) ?_ (k:=i) (by omega) ⟨Zn _,Kp.refl _,.slice none 0 0,D.next,.inl ⟨rfl,by
  rw [qcA (by rw [ZD];omega)];rfl⟩,Zn _,?_⟩
 ·rintro k t E hk ⟨hik,kE,xo,bo,hso,hbo,g0,g1,g2,g3,g9,g11,g12,g13,-⟩;have hEE:=hE.kp kE;have hlenE:=hEE.len;by_cases hlt:k<l.length
  ·have hy:l[k]?=some l[k]:=Zi hlt;obtain⟨py,j1,j2,qy,j3,j4⟩:=hEE.at hy;obtain⟨pe,i1,-,qe,i3,i4⟩:=hEE.at he;have hwy:=hw _ (ZO hlt);have ly:=cd (tb:=af) (t:=9) (l:=l[k].word) u9;have hst:=xY hik hlt;have ixe:=eg (tb:=af) (t:=9) (kd:=.i64) u9 hd;by_cases h1:d<l[k].word.length
   ·have ixy:=eg (tb:=af) (t:=9) (kd:=.i64) u9 h1;by_cases h2:(l[k].word.getD d 0).toNat=(e.word.getD d 0).toNat
    ·have hp:decide (ax d l[k]=ax d e)=true:=by
      rw [jE h1,jE hd,qbo.1 h2];simp
     have hlo:(((l.take k).drop i).filter fun y=>decide (ax d y=ax d e)).length<1000000:=by
      have:=qb3 (fun y=>decide (ax d y=ax d e)) ((l.take k).drop i);rw [qak,ZD] at this;omega
     obtain⟨x',E',ha,hs',hn',hf'⟩:=wX (e:=l[k]) hso hlo;have kEE:Kp D E':=⟨by have:=kE.1;omega,fun z hz=>by rw [hf' z (by omega) (by have:=kE.1;omega),kE.2 z hz]⟩;apply W.run 20
     ·intro M;simp (config:={maxSteps:=4000000}) (disch:=first|decide+kernel|omega|simp only [Wq,Zf]) only [qx,cD,fW,qao,Aq,Zj,reduceIte,Zf,Zg,g1,g2,g11,g12,g13,hlenE,hlt,j1,j2,j3,j4,i1,i3,i4,ly,bT,bA,h1,ixy,ixe,h2,FZ,ha,Fq,au []];rfl
     refine⟨hlt,_,_,rfl,by omega,kEE,x',E.next+1,?_,by have:=kE.1;omega,?_⟩
     ·rw [hst,qbV,Z',if_pos hp,List.filter_nil];exact hs'
     ·simp only [Sq,Zf,Zg,g0,g1,g2,g3,g9,g11]
    ·have hp:decide (ax d l[k]=ax d e)=false:=by
      rw [jE h1,jE hd];refine decide_eq_false fun hh=>h2 ?_
      rw [Z_ hh]
     apply W.run 20
     ·intro M;simp (config:={maxSteps:=4000000}) (disch:=first|decide+kernel|omega|simp only [Wq,Zf]) only [qx,cD,fW,qao,Aq,Zj,reduceIte,Zf,Zg,g1,g2,g11,g12,g13,hlenE,hlt,j1,j2,j3,j4,i1,i3,i4,ly,bT,bA,h1,ixy,ixe,h2,Fq,au []];rfl
     refine⟨hlt,_,_,rfl,by omega,kE,xo,bo,?_,hbo,?_⟩
     ·rw [hst,qbV,Z',if_neg (by rw [hp];simp),List.filter_nil,qap];exact hso
     ·simp only [Sq,Zf,Zg,g0,g1,g2,g3,g9,g11,g12]
   ·have hp:decide (ax d l[k]=ax d e)=false:=by
     rw [jB.2 (show l[k].word.length≤d by omega),jE hd];simp
    apply W.run 20
    ·intro M;simp (config:={maxSteps:=4000000}) (disch:=first|decide+kernel|omega|simp only [Wq,Zf]) only [qx,cD,fW,qao,Aq,Zj,reduceIte,Zf,Zg,g1,g2,g11,g12,g13,hlenE,hlt,j1,j2,j3,j4,i1,i3,i4,ly,bT,bA,h1,Fq,au []];rfl
    refine⟨hlt,_,_,rfl,by omega,kE,xo,bo,?_,hbo,?_⟩
    ·rw [hst,qbV,Z',if_neg (by rw [hp];simp),List.filter_nil,qap];exact hso
    ·simp only [Sq,Zf,Zg,g0,g1,g2,g3,g9,g11,g12]
  ·have hkl:k=l.length:=by omega
   subst hkl;rw [ZL] at hso;apply W.run 20
   ·intro M;simp (disch:=decide+kernel) only [qx,cD,fW,qao,Aq,Zf,g1,g13,hlenE,hlt];rfl
   refine hK _ E xo bo kE hso hbo ?_;simp only [Sq,Zf,Zg,g0,g1,g2,g3,g9,g11,g12]
 ·simp only [Sq,Zf,Zg,g0,g1,g2,g3,g9,g11,g12]
theorem jA:bO af 164= .ok (.agg ⟨[.slice none 0 0,.bool false,.int .u64 (0:Nat)]⟩):=by kernel_rfl
theorem Xi:aV af 4= .ok 1:=by kernel_rfl
theorem Sg:aV af 103= .ok 1:=by kernel_rfl
theorem Si:aV af 162= .ok 1:=by kernel_rfl
theorem XA:cg af 172= .ok (3,[.int .u8 0,.int .u64 0,.int .i64 0]):=by kernel_rfl
variable {o:Nat}
theorem M7:ak af 172 (pw b o) 0= .ok (pw b o):=by kernel_rfl
theorem Wk {a:Nat} {n:Int}:a9 af 162 1 [(0,.agg ⟨[.int .u8 a,.int .u64 o,.int .i64 n]⟩)]= .ok (aa 172 [.int .u8 a,.int .u64 o,.int .i64 n],.nO 1 2):=by kernel_rfl
theorem Xo:∃i,af.ty.get 172=some i∧0<i.bytes∧i.bytes≤65536:=by
 have h:(af.ty.get 172).map (fun i=>Zt 0 i.bytes&&Zj i.bytes 65536)=some true:=by kernel_rfl
 cases hq:af.ty.get 172 with
 |none=>rw [hq] at h;cases h
 |some i=>
  rw [hq] at h;simp only [Z1,ZQ,ZF,ZB] at h;exact⟨i,rfl,h.1,ZP h.2⟩
variable {A:Mem} {v:Value}
theorem Y_ {a b c:Value} (hv:v.cells.toList=[v]) (h1:aH v=true):aT af (A.alloc (aa 164 [a,b,c])) 4 (pw A.next (0+1)) v= .ok (A.alloc (aa 164 [a,v,c])):=da (o:=1) Xi hv h1 (by simp)
theorem Yv {a b c:Value} (hv:v.cells.toList=[v]) (h1:aH v=true):aT af (A.alloc (aa 164 [a,b,c])) 103 (pw A.next (0+2)) v= .ok (A.alloc (aa 164 [a,b,v])):=da (o:=2) Sg hv h1 (by simp)
theorem Kr {less:Nat}:iW d less (l++[e])=if ax d e=none then(true,val e-less) else iW d less l:=by
 unfold iW;rw [qa8];rfl
theorem Qi:qao.body=some (.seq (sub fW [0]) (.seq (sub fW [1,0]) (.seq (.seq (sub fW [1,1,0,0]) (.block 0 (.loop xF))) (.seq (.seq (sub fW [1,1,1,0,0]) (.block 2 (.loop cD))) (.seq (sub fW [1,1,1,1,0]) (sub fW [1,1,1,1,1])))))):=by kernel_rfl
theorem AF:cD=(.seq (sub cD [0]) (.seq (.block 3 (.seq (sub cD [1,0,0,0]) (.seq (sub cD [1,0,0,1,0]) (.seq (.seq (sub cD [1,0,0,1,1,0,0]) (.block 4 (.loop qx))) (.seq (sub cD [1,0,0,1,1,1,0]) (sub cD [1,0,0,1,1,1,1])))))) (sub cD [1,1]))):=by kernel_rfl
theorem Ns {x mv:Value} {bl less:Nat} {K:Ex→St→Prop} (h:aq A 67 3 bl (l.map bH) x) (hl:l.length<1000000) (hb:∀e∈l,d≤e.word.length∧e.weight<4294967296∧less≤val e)
 (hs:Sl t [(0,mv),(1,x),(2,.int .i64 d),(3,.int .u64 less),(9,pw A.next 0)])
 (hK:∀t',Sl t' [(0,mv),(1,x),(2,.int .i64 d),(3,.int .u64 less),(9,pw A.next 0)]→K .nrm ⟨t',143,[],A.alloc (aa 164 [.slice none 0 0,.bool (iW d less l).1,.int .u64 ((iW d less l).2:Nat)]),none⟩):
 W af (.seq (sub fW [1,1,0,0]) (.block 0 (.loop xF))) ⟨t,143,[],A.alloc (aa 164 [.slice none 0 0,.bool false,.int .u64 (0:Nat)]),none⟩ K:=by
 obtain⟨g0,g1,g2,g3,g9,-⟩:=hs;apply W.q
 ·intro M;simp (disch:=omega) only [fW,qao,Aq,Zf];rfl
 apply W.block;refine W.up l.length (fun i t D=>D=A.alloc (aa 164 [.slice none 0 0,.bool (iW d less (l.take i)).1,.int .u64 (((iW d less (l.take i)).2:Nat):Int)])∧Sl t [(0,mv),(1,x),(2,.int .i64 d),(3,.int .u64 less),(9,pw A.next 0),(10,.int .i64 i)]) ?_ (Zv _) ⟨rfl,?_⟩
 ·rintro i t D hi ⟨rfl,g0,g1,g2,g3,g9,g10,-⟩;generalize hfi:iW d less (l.take i)=fo;have hE:dX (A.alloc (aa 164 [.slice none 0 0,.bool fo.1,.int .u64 (fo.2:Nat)])) l x:=dX.kp ⟨bl,h⟩ (Kp.alloc _ _);have hlen:=hE.len;by_cases hlt:i<l.length
  ·have he:l[i]?=some l[i]:=Zi hlt;obtain⟨p,j1,j2,q,j3,j4⟩:=hE.at he;obtain⟨hd,hwt,hle⟩:=hb _ (ZO hlt);have ly:=cd (tb:=af) (t:=9) (l:=l[i].word) u9;have hsn:iW d less (l.take (i+1))=if ax d l[i]=none then(true,val l[i]-less) else iW d less (l.take i):=by rw [Zs hlt,Kr]
   by_cases hn:l[i].word.length=d
   ·rw [if_pos (jB.2 (by omega))] at hsn;have kv:=fun ih A=>UM (ih:=ih) (A:=A) hwt
    have hv4:=vd hwt;have s1:aK .sub .u64 ((val l[i]:Nat):Int) ((less:Nat):Int)= .ok (.int .u64 (val l[i]-less:Nat)):=bm hle (cJ (by omega));have hE2:dX (A.alloc (aa 164 [.slice none 0 0,.bool true,.int .u64 (fo.2:Nat)])) l x:=dX.kp ⟨bl,h⟩ (Kp.alloc _ _);obtain⟨p',j1',j2',-⟩:=hE2.at he;rw [j1] at j1';cases j1';have sA:=Y_ (A:=A) (a:=.slice none 0 0) (b:=.bool fo.1) (c:=.int .u64 (fo.2:Nat)) (v:=.bool true) rfl rfl;have sB:=Yv (A:=A) (a:=.slice none 0 0) (b:=.bool true) (c:=.int .u64 (fo.2:Nat)) (v:=.int .u64 (val l[i]-less:Nat)) rfl rfl;apply W.run 20
    ·intro M;simp (disch:=first|decide+kernel|omega) only [xF,fW,qao,Aq,Zf,g1,g2,g3,g9,g10,hlen,hlt,j1,j2,j2',j3,j4,ly,hn,cR,iu,sA,sB,kv,s1];rfl
    refine⟨hlt,_,_,rfl,by rw [hsn],?_⟩;simp only [Sq,Zf,Zg,g0,g1,g2,g3,g9]
   ·rw [if_neg (fun h=>hn (by have:=jB.1 h;omega))] at hsn;apply W.run 20
    ·intro M;simp (disch:=first|decide+kernel|omega) only [xF,fW,qao,Aq,Zf,g1,g2,g9,g10,hlen,hlt,j1,j2,j3,j4,ly,hn];rfl
    refine⟨hlt,_,_,rfl,by rw [hsn,hfi],?_⟩;simp only [Sq,Zf,Zg,g0,g1,g2,g3,g9]
  ·have e:i=l.length:=by omega
   subst e;rw [ZL] at hfi;apply W.run 20
   ·intro M;simp (disch:=decide+kernel) only [xF,fW,qao,Aq,Zf,g1,g10,hlen,hlt];rfl
   rw [←hfi];refine hK _ ?_;simp only [Sq,Zf,Zg,g0,g1,g2,g3,g9]
 ·simp only [Sq,Zf,Zg,g0,g1,g2,g3,g9]
variable {m:Nat} {M:List a6}
theorem zW.more {X Y:Nat→Prop} (h:zW A m b M X) (hx:∀z,z<A.next→Y z→X z):zW A m b M Y:=by
 obtain⟨x,rows,h1,h2,h3,hX,h4,h5⟩:=h;refine⟨x,rows,h1,h2,⟨h3.1,fun h=>⟨(h3.2 h).1,(h3.2 h).2.1,fun hy=>(h3.2 h).2.2 (hx _ (h3.2 h).2.1 hy)⟩⟩,fun hy=>hX (hx _ h1.1 hy),h4,fun i s hs=>?_⟩;obtain⟨y,c,e1,e2,e0,e3⟩:=h5 i s hs;refine⟨y,c,e1,e2,e0,fun h=>⟨(e3 h).1,(e3 h).2.1,fun hy=>(e3 h).2.2 (hx c ?_ hy)⟩⟩;rcases e2 with⟨_,e2⟩|⟨_,_,_,e2,_⟩
 ·exact absurd (ZZ.1 e2) h
 ·exact e2
theorem zW.not {X:Nat→Prop} (h:zW A m b M X):¬X m∧m<A.next∧(M≠ []→¬X b∧b<A.next):=by
 obtain⟨x,rows,h1,h2,h3,hX,h4,h5⟩:=h;exact⟨hX,h1.1,fun h=>⟨(h3.2 h).2.2,(h3.2 h).2.1⟩⟩
theorem Wb {a:Nat} {n:Int}:cu af 172 [(0,.int .u8 a),(1,.int .u64 o),(2,.int .i64 n)]= .ok (.agg ⟨[.int .u8 a,.int .u64 o,.int .i64 n]⟩):=by kernel_rfl
variable {c:Nat} {y:Value}
theorem Qa {D:Mem} {l:List cL} {a:cL} (h:aq D 172 3 c (l.map b9) y) (hl:l.length<1000000):
 ∃y' D',ba af (D.alloc (aa 172 (b9 a))) 162 162 y (.slice (some ⟨D.next,0,none⟩) 1 2)= .ok (y',D')∧aq D' 172 3 (D.next+1) ((l++[a]).map b9) y'∧D'.next=D.next+2∧∀z,(z=c→y= .slice none 0 0)→z<D.next→D'.get z=D.get z:=by
 obtain⟨i,t1,t2,t3⟩:=Xo;have h':aq (D.alloc (aa 172 (b9 a))) 172 3 c (l.map b9) y:=h.same (by rw [ae];omega) fun hh=>aB (by omega)
 obtain⟨x',D',h1,h2,h3,h4⟩:=aq.append (tb:=af) (st:=162) (xt:=162) h' kA kA XA t1 t2 t3 (by omega) (by omega) (by rw [Zp];omega) (ay D _) rfl (by
  intro v hv;simp only [b9,ZC,Z0,or_false] at hv;rcases hv with rfl|rfl|rfl<;>rfl)
 rw [ae] at h2 h3 h4;exact⟨x',D',h1,by rw [Z3];exact h2,by omega,fun z hz hzn=>by rw [h4 z hz (by omega),aB (by omega)]⟩
def wV (f:Nat):Prop:=∀(l:List aG) (d:Nat) (p:List UInt8) (M:List a6) (A:Mem) (m b bl:Nat) (x:Value) (X:Nat→Prop),Go.Sto.Good M→l≠ []→rL l→HZ d p l→(∀e∈l,e.word.length<d+f∧e.word.length<1000000∧e.weight<4294967296)→l.length<1000000→zW A m b M X→(∀z,X z→z<A.next)→
 aq A 67 3 bl (l.map bH) x→X bl→(pP f l d (least l) M).1.length<1000000→
 ∃v A',bJ af 101 [.pointer (some ⟨m,0,none⟩),x,.int .i64 d,.int .u64 (least l:Nat)] A v A'∧v= .int .i64 (((pP f l d (least l) M).2:Nat):Int)∧∃b',zW A' m b' (pP f l d (least l) M).1 X∧((M≠ []∧b'=b)∨A.next≤b')∧A.next≤A'.next∧∀z,z<A.next→z≠m→(M≠ []→z≠b)→A'.get z=A.get z
theorem Nx {D:Mem} {rs:List cL} {x mv fv ov:Value} {bl less sp:Nat} {K:Ex→St→Prop} (h:aq D 67 3 bl (l.map bH) x) (hy:aq D 172 3 c (rs.map b9) y) (hS:VB D 164 sp (.var 3) [y,fv,ov]) (hi:i<l.length) (hl:l.length<1000000) (hal:rs.length<1000000) (hd:d≤(l[i]).word.length) (hdw:(l[i]).word.length<1000000)
 (hs:Sl t [(0,mv),(1,x),(2,.int .i64 d),(3,.int .u64 less),(9,pw sp 0),(11,.int .i64 i)])
 (hskip:(ax d l[i]=none∨(rs.getLast?).map (·.byte)=ax d l[i])→∀t',Sl t' [(0,mv),(1,x),(2,.int .i64 d),(3,.int .u64 less),(9,pw sp 0),(11,.int .i64 i)]→K (.exit 3) ⟨t',143,[],D,none⟩)
 (hgo:¬(ax d l[i]=none∨(rs.getLast?).map (·.byte)=ax d l[i])→∀t',Sl t' [(0,mv),(1,x),(2,.int .i64 d),(3,.int .u64 less),(9,pw sp 0),(11,.int .i64 i)]→K .nrm ⟨t',143,[],D,none⟩):
 W af (sub cD [1,0,0,0]) ⟨t,143,[],D,none⟩ K:=by
 obtain⟨g0,g1,g2,g3,g9,g11,-⟩:=hs;have hE:dX D l x:=⟨bl,h⟩;have he:l[i]?=some l[i]:=Zi hi;obtain⟨p,j1,j2,q,j3,j4⟩:=hE.at he;have ly:=cd (tb:=af) (t:=9) (l:=l[i].word) u9;have hA:ki D rs y:=⟨c,hy⟩;have la:=hA.len;have a1:ai af D.get 162 (pw sp 0)= .ok y:=hS.ld rfl kA rfl;by_cases hn:l[i].word.length=d
 ·apply W.run 20
  ·intro M;simp (config:={maxSteps:=4000000}) (disch:=first|decide+kernel|omega|simp only [Wq,Zf]) only [cD,fW,qao,Aq,Zj,reduceIte,Zf,Zg,g1,g2,g9,g11,j1,j3,j4,ly,hn,Fq,au []];rfl
  refine hskip (.inl (jB.2 (by omega))) _ ?_;simp only [Sq,Zf,Zg,g0,g1,g2,g3,g9,g11]
 have hd1:d<l[i].word.length:=by omega
 have hbe:=jE hd1;by_cases h0:rs=[]
 ·subst h0;apply W.run 20
  ·intro M;simp (config:={maxSteps:=4000000}) (disch:=first|decide+kernel|omega|simp only [Wq,Zf]) only [cD,fW,qao,Aq,Zj,reduceIte,Zf,Zg,g1,g2,g9,g11,j1,j3,j4,ly,hn,df,a1,la,ZG,bT,bA,Fq,au []];rfl
  refine hgo (by rw [hbe];simp) _ ?_;simp only [Sq,Zf,Zg,g0,g1,g2,g3,g9,g11]
 have hpos:0<rs.length:=ZW.2 h0;have hlast:rs[rs.length-1]?=some (rs[rs.length-1]'(by omega)):=Zi (by omega)
 obtain⟨d2,hd2,hd3⟩:=bg (t:=172) (p:=true) (by kernel_rfl);have k1:=aq.idx (tb:=af) (t:=162) (i:=rs.length-1) (kd:=.i64) hy kA L2 (by rw [Zp];omega);have k2:=aq.load (tb:=af) (t:=5) (j:=0) hy u5 rfl (show(rs.map b9)[rs.length-1]?=some (b9 (rs[rs.length-1]'(by omega))) by rw [ZH,hlast];rfl) rfl (by omega)
 have s1:aK .sub .i64 ((rs.length:Nat):Int) ((1:Nat):Int)= .ok (.int .i64 (rs.length-1:Nat)):=bm (by omega) (aR (by omega));have ixe:=eg (tb:=af) (t:=9) (kd:=.i64) u9 hd1;rw [Z8] at k2;have hgl:(rs.getLast?).map (·.byte)=some (rs[rs.length-1]'(by omega)).byte:=by rw [List.getLast?_eq_getElem?,hlast];rfl
 by_cases he2:(rs[rs.length-1]'(by omega)).byte.toNat=(l[i].word.getD d 0).toNat
 ·apply W.run 20
  ·intro M;simp (config:={maxSteps:=4000000}) (disch:=first|decide+kernel|omega|simp only [Wq,Zf]) only [cD,fW,qao,Aq,Zj,reduceIte,Zf,Zg,g1,g2,g9,g11,j1,j3,j4,ly,hn,df,M7,a1,la,hpos,bT,bA,s1,k1,k2,ixe,he2,Fq,au []];rfl
  refine hskip (.inr (by rw [hgl,hbe,qbo.1 he2])) _ ?_;simp only [Sq,Zf,Zg,g0,g1,g2,g3,g9,g11]
 ·apply W.run 20
  ·intro M;simp (config:={maxSteps:=4000000}) (disch:=first|decide+kernel|omega|simp only [Wq,Zf]) only [cD,fW,qao,Aq,Zj,reduceIte,Zf,Zg,g1,g2,g9,g11,j1,j3,j4,ly,hn,df,M7,a1,la,hpos,bT,bA,s1,k1,k2,ixe,he2,Fq,au []];rfl
  refine hgo (by
   rw [hgl,hbe];rintro(h|h)
   ·cases h
   ·exact he2 (by rw [Z_ h])) _ ?_
  simp only [Sq,Zf,Zg,g0,g1,g2,g3,g9,g11]
theorem DJ:∀{l:List aG},rL l→∀i,rL (l.drop i)
 | [],_,i=>by rw [List.drop_nil];trivial
 |x::l,h,0=>h
 |x::l,h,i+1=>DJ h.2 i
def TL (A:Mem) (l:List aG) (d less:Nat) (rec:List aG→Nat→List a6→List a6×Nat) (R:List a6×List cL) (m b:Nat) (M:List a6) (X:Nat→Prop) (fv ov:Value) (r:List aG) (rs:List cL) (Mi:List a6) (D:Mem):Prop:=
 ∃bi y c,dD rec d less r rs Mi=R∧zW D m bi Mi (fun z=>X z∨z=A.next∨(rs≠ []∧z=c))∧((M≠ []∧bi=b)∨A.next≤bi)∧VB D 164 A.next (.var 3) [y,fv,ov]∧
  aq D 172 3 c (rs.map b9) y∧(rs=[]→y= .slice none 0 0)∧(rs≠ []→A.next<c)∧(A.next<D.next∧∀z,z<A.next→z≠m→(M≠ []→z≠b)→D.get z=A.get z)
theorem Uw {f:Nat} (ih:wV f) {less bl:Nat} {p:List UInt8} {Mi:List a6} {X:Nat→Prop} {fv ov x:Value} {R:List a6×List cL} {rs:List cL} {D:Mem} {K:Ex→St→Prop}
 (ha:rL l) (hbg:HZ d p l) (hb:∀e∈l,e.word.length<d+(f+1)∧e.word.length<1000000∧e.weight<4294967296∧less≤val e) (hl:l.length<1000000) (hX:∀z,X z→z<A.next) (hxl:aq A 67 3 bl (l.map bH) x) (hXb:X bl) (hmA:¬X m∧m<A.next) (hbA:M≠ []→¬X b)
 (hRg:Go.Sto.Good R.1) (hRl:R.1.length<1000000) (hRa:R.2.length≤256) (hi:i<l.length) (hdl:d<1000000)
 (hgo:¬(ax d l[i]=none∨(rs.getLast?).map (·.byte)=ax d l[i]))
 (h:TL A l d less (fun own n M=>pP f own (d+1) n M) R m b M X fv ov (l.drop i) rs Mi D)
 (hs:Sl t [(0,pw m 0),(1,x),(2,.int .i64 d),(3,.int .u64 less),(9,pw A.next 0),(11,.int .i64 i)])
 (hK:∀t' D' rs' Mi',TL A l d less (fun own n M=>pP f own (d+1) n M) R m b M X fv ov (l.drop (i+1)) rs' Mi' D'→Sl t' [(0,pw m 0),(1,x),(2,.int .i64 d),(3,.int .u64 less),(9,pw A.next 0),(11,.int .i64 i)]→K .nrm ⟨t',143,[],D',none⟩):
 W af (.seq (sub cD [1,0,0,1,0]) (.seq (.seq (sub cD [1,0,0,1,1,0,0]) (.block 4 (.loop qx))) (.seq (sub cD [1,0,0,1,1,1,0]) (sub cD [1,0,0,1,1,1,1])))) ⟨t,143,[],D,none⟩ K:=by
 obtain⟨bi,y,c,h1,h2,h3,h4,h5,h6,h7,h8⟩:=h;obtain⟨g0,g1,g2,g3,g9,g11,-⟩:=hs;have he:l[i]?=some l[i]:=Zi hi;have hmem:=ZO hi;obtain⟨hw1,hw2,hw3,hw4⟩:=hb _ hmem;have hdw:d<l[i].word.length:=by
  refine Nat.lt_of_not_le fun hh=>hgo (.inl (jB.2 hh))
 have hbe:=jE hdw;have hbl:=hX _ hXb;have hbm:bl≠m:=fun h=>hmA.1 (h▸hXb)
 have hDA:∀z,X z→D.get z=A.get z:=fun z hz=>h8.2 z (hX z hz) (fun h=>hmA.1 (h▸hz)) (fun hM h=>hbA hM (h▸hz))
 have hxD:aq D 67 3 bl (l.map bH) x:=hxl.same (by have:=h8.1;omega) fun _=>hDA bl hXb
 have hdr:l.drop i=l[i]::l.drop (i+1):=qad hi;rw [hdr] at h1;unfold dD at h1;rw [if_neg hgo] at h1;apply W.q
 ·intro M;simp (disch:=omega) only [cD,fW,qao,Aq,Zf];rfl
 apply W.seq;refine Ot hxD he hdw hl (fun e he=>(hb e he).2.1) (mv:=pw m 0) (sp:=pw A.next 0) (less:=less) (by
  simp only [Sq,Zf,Zg,g0,g1,g2,g3,g9,g11]) ?_
 rintro t' E xo bo kE hso hbo ⟨g0,g1,g2,g3,g9,g11,g12,-⟩;show W af _ _ _;rw [hdr] at hso;have hownm:∀e∈(l[i]::l.drop (i+1)).filter (fun x=>decide (ax d x=ax d l[i])),e∈l∧ax d e=ax d l[i]:=fun e he=>by
  obtain⟨e1,e2⟩:=qaF.1 he;rw [←hdr] at e1;exact⟨List.mem_of_mem_drop e1,by simpa using e2⟩
 have hne:(l[i]::l.drop (i+1)).filter (fun x=>decide (ax d x=ax d l[i]))≠ []:=by
  intro h;have:l[i]∈(l[i]::l.drop (i+1)).filter (fun x=>decide (ax d x=ax d l[i])):=qaF.2 ⟨Zy,by simp⟩;rw [h] at this;cases this
 have hlen:((l[i]::l.drop (i+1)).filter (fun x=>decide (ax d x=ax d l[i]))).length<1000000:=by
  have:=qb3 (fun x=>decide (ax d x=ax d l[i])) (l[i]::l.drop (i+1));rw [←hdr,qak] at this;rw [←hdr];omega
 have hasc:rL ((l[i]::l.drop (i+1)).filter (fun x=>decide (ax d x=ax d l[i]))):=by rw [←hdr];exact jD (DJ ha i)
 generalize (l[i]::l.drop (i+1)).filter (fun x=>decide (ax d x=ax d l[i]))=own at h1 hso hownm hne hlen hasc;obtain⟨gl,hgl⟩:=Bt (A:=E) ⟨bo,hso⟩ hne (fun e he=>(hb e (hownm e he).1).2.2.1) hlen;apply W.qG (gl)
 ·intro M hM;simp (disch:=omega) only [cD,fW,qao,Aq,Zf,g12,hgl];rfl
 have hpre:=lS (d:=d) (less:=less) (fun own n M=>xq f own (d+1) n M) (l.drop (i+1)) (rs++[⟨(ax d l[i]).getD 0,least own-less,(pP f own (d+1) (least own) Mi).2⟩]) (pP f own (d+1) (least own) Mi).1;rw [h1] at hpre;have hc:rs≠ []→c<D.next:=fun h=>by
  rcases h5 with⟨_,e⟩|⟨_,_,_,e,_⟩
  ·exact absurd (ZZ.1 e) h
  ·exact e
 have hboE:bo<E.next:=by
  rcases hso with⟨_,e⟩|⟨_,_,_,e,_⟩
  ·exact absurd (ZZ.1 e) hne
  ·exact e
 have hkE:=kE.1;have hME:zW E m bi Mi (fun z=>X z∨z=A.next∨(rs≠ []∧z=c)∨z=bo):=(h2.more (fun z hz h=>by
  rcases h with h|h|h|h
  ·exact .inl h
  ·exact .inr (.inl h)
  ·exact .inr (.inr h)
  ·omega)).kp kE
 have hown0:=hME.not;obtain⟨v,E2,⟨gs,hgs⟩,rfl,b2,hM2,hb2,hn2,hf2⟩:=ih own (d+1) (p++[l[i].word.getD d 0]) Mi E m bi bo xo _ (Ep hRg ((xq f own (d+1) (least own) Mi).trans hpre.1)) hne hasc (fun e he=>by
  obtain⟨e1,e2⟩:=hownm e he;rw [hbe] at e2;obtain⟨hd,hee⟩:=Zl.1 e2;exact⟨by rw [Zs hd,(hbg e e1).1,hee],hd⟩) (fun e he=>by
  have:=hb e (hownm e he).1;exact⟨by omega,this.2.1,this.2.2.1⟩) hlen hME (fun z h=>by
  have:=h8.1;rcases h with h|h|h|h
  ·have:=hX z h;omega
  ·omega
  ·have:=hc h.1;omega
  ·omega) hso (.inr (.inr (.inr rfl))) (qan hpre.1.length_le hRl)
 have hkept:∀z,z<E.next→(X z∨z=A.next∨(rs≠ []∧z=c)∨z=bo)→E2.get z=E.get z:=fun z hz h=>hf2 z hz (fun e=>hown0.1 (e▸h)) fun hM e=>(hown0.2.2 hM).1 (e▸h)
 have hAE:A.next<E.next:=by have:=h8.1;omega
 have vE:VB E 164 A.next (.var 3) [y,fv,ov]:=h4.kp kE
 have vE2:VB E2 164 A.next (.var 3) [y,fv,ov]:=⟨by omega,vE.2.same (hkept _ hAE (.inr (.inl rfl)))⟩
 have l1:ai af E.get 162 (pw A.next 0)= .ok y:=vE.ld rfl kA rfl;have l2:ai af E2.get 162 (pw A.next 0)= .ok y:=vE2.ld rfl kA rfl;have hxE:aq E 67 3 bl (l.map bH) x:=hxD.same hkE (kE.2 bl);have hxE2:aq E2 67 3 bl (l.map bH) x:=hxE.same hn2 fun h=>hkept bl h (.inl hXb)
 obtain⟨pe,i1,-,qe,i3,i4⟩:=dX.at ⟨bl,hxE⟩ he;obtain⟨pe',i1',-,qe',i3',i4'⟩:=dX.at ⟨bl,hxE2⟩ he;rw [i1] at i1';cases i1';rw [i3] at i3';cases i3';have ixe:=eg (tb:=af) (t:=9) (kd:=.i64) u9 hdw;have hle:less≤least own:=by
  obtain⟨e,he1,he2⟩:=oO hne;rw [he2];exact(hb e (hownm e he1).1).2.2.2
 have hlo:least own≤4294967296:=by
  obtain⟨e,he1,he2⟩:=oO hne;rw [he2];exact vd (hb e (hownm e he1).1).2.2.1
 have s1:aK .sub .u64 ((least own:Nat):Int) ((less:Nat):Int)= .ok (.int .u64 (least own-less:Nat)):=bm hle (cJ (by omega));have a1:aK .add .i64 ((d:Nat):Int) ((1:Nat):Int)= .ok (.int .i64 (d+1:Nat)):=a8 (aR (by omega));have sy:bP 100 y y=true:=by
  rcases h5 with⟨rfl,-⟩|⟨_,_,rfl,-⟩
  ·rfl
  ·exact my _ _ _ _
 have h5E:aq E2 172 3 c (rs.map b9) y:=aq.fU (aq.fU h5 (fun h=>h6 (ZZ.1 h)) hkE fun _ h=>kE.2 c h) (fun h=>h6 (ZZ.1 h)) hn2 fun h hlt=>hkept c hlt (.inr (.inr (.inl ⟨fun e=>h (by rw [e];rfl),rfl⟩)))
 have hrl:rs.length<1000000:=by
  have:=hpre.2.length_le;rw [Zo] at this;omega
 generalize hq:pP f own (d+1) (least own) Mi=q at*;obtain⟨y',F,happ,hs3,hn3,hf3⟩:=Qa (a:=⟨l[i].word.getD d 0,least own-less,q.2⟩) h5E hrl;have happ':ba af (E2.alloc (aa 172 [.int .u8 ((l[i].word.getD d 0).toNat:Nat),.int .u64 (least own-less:Nat),.int .i64 (q.2:Nat)])) 162 162 y (.slice (some ⟨E2.next,0,none⟩) 1 2)= .ok (y',F):=happ;have vF:dj F 164 A.next (.var 3) [y,fv,ov]:=vE2.2.same (hf3 _ (fun e=>by
  by_cases hr:rs=[]
  ·exact h6 hr
  ·have:=h7 hr;omega) (by omega))
 obtain⟨G,sG,vG,nG,kG⟩:=aY (tb:=af) (o:=0) (v:=y') Si vF (by simp) (aq.di hs3).1 (aq.di hs3).2;apply W.bf (gs) 20
 ·intro M hM;simp (config:={maxSteps:=4000000}) (disch:=first|decide+kernel|omega|simp only [Wq,Zf]) only [cD,fW,qao,Aq,Zj,reduceIte,Zf,Zg,g0,g1,g2,g3,g9,g11,g12,df,l1,l2,i1,i3,i4,i4',ixe,s1,a1,hgs,Wb,Wk,happ',sG,sy,Fq,au [(1,17),(6,17)]];rfl
 refine hK _ G _ _ ⟨b2,y',E2.next+1,by rw [hbe] at h1;exact h1,?_,?_,?_,?_,fun h=>by simp at h,fun _=>by omega,by omega,fun z hz hm hM=>?_⟩ ?_
 ·have hM3:zW E2 m b2 q.1 (fun z=>X z∨z=A.next∨(rs≠ []∧z=c)∨z=E2.next+1):=hM2.more (fun z hz h=>by
   rcases h with h|h|h|h
   ·exact .inl h
   ·exact .inr (.inl h)
   ·exact .inr (.inr (.inl h))
   ·omega)
  refine(hM3.YM (A':=G) (by omega) fun z hz hnx=>?_).more (fun z hz h=>by
   rcases h with h|h|h
   ·exact .inl h
   ·exact .inr (.inl h)
   ·exact .inr (.inr (.inr h.2)))
  rw [kG z (fun e=>hnx (.inr (.inl e))),hf3 z (fun e=>?_) hz];by_cases hr:rs=[]
  ·exact h6 hr
  ·exact absurd (.inr (.inr (.inl ⟨hr,e⟩))) hnx
 ·rcases hb2 with⟨_,e⟩|e
  ·rw [e];exact h3
  ·exact .inr (by omega)
 ·exact⟨by omega,vG⟩
 ·exact hs3.same (by omega) fun h=>kG _ (by omega)
 ·rw [kG z (by omega),hf3 z (fun e=>?_) (by omega),hf2 z (by omega) hm (fun hMi e=>?_),kE.2 z (by have:=h8.1;omega),h8.2 z hz hm hM]
  ·rcases h3 with⟨hM',e'⟩|e'
   ·exact hM hM' (by rw [e,e'])
   ·omega
  ·by_cases hr:rs=[]
   ·exact h6 hr
   ·have:=h7 hr;omega
 ·simp only [Sq,Zf,Zg,g0,g1,g2,g3,g9,g11]
theorem zW.free {X:Nat→Prop} (h:zW A m b M X) (h0:M=[]) (b':Nat):zW A m b' M X:=by
 obtain⟨x,rows,h1,h2,h3,hX,h4,h5⟩:=h;subst h0;have hr:rows=[]:=Zw.1 h4;subst hr;have hx:=h3.1 rfl;subst hx;exact⟨_,[],h1,aq.nil _ _ _ _,⟨fun _=>rfl,fun h=>absurd rfl h⟩,hX,h4,fun i s hs=>by simp at hs⟩
theorem HL {f:Nat} (ih:wV f):wV (f+1):=by
 intro l d p M A m b bl x X hg hne ha hbg hb hl hM hX hxl hXb hlen;refine cM (av Tryz.func101) Qi (by rw [Tryz.ntmps101];simp) (by kernel_rfl) (by kernel_rfl) ?_;have hgf:Go.Sto.Good (pP (f+1) l d (least l) M).1:=(Pn (f+1) l d p M hg hne ha hbg fun e he=>⟨(hb e he).1,vd (hb e he).2.2⟩).1;have hRa:=Pm hgf;have hst:pP (f+1) l d (least l) M=p_ (dD (fun own n M=>pP f own (d+1) n M) d (least l) l [] M).1 ⟨(iW d (least l) l).1,(iW d (least l) l).2,(dD (fun own n M=>pP f own (d+1) n M) d (least l) l [] M).2⟩:=rfl;rw [hst] at hgf hlen⊢;generalize hR:dD (fun own n M=>pP f own (d+1) n M) d (least l) l [] M=R at hgf hlen hRa⊢;have hRp:=EU R.1 ⟨(iW d (least l) l).1,(iW d (least l) l).2,R.2⟩;have hRg:=Ep hgf hRp;have hRl:R.1.length<1000000:=qan hRp.length_le hlen;have hdl:d<1000000:=by
  obtain⟨e,he⟩:=qcc l hne;have:=(hbg e he).2;have:=(hb e he).2.1;omega
 obtain⟨hmX,hmA,hMb⟩:=hM.not;apply W.q
 ·intro M;simp (disch:=omega) only [fW,qao,Aq,Zf];rfl
 apply W.q
 ·intro M;simp (disch:=omega) only [fW,qao,Aq,Zf,jA,aj];rfl
 apply W.seq;refine Ns (mv:=pw m 0) (less:=least l) hxl hl (fun e he=>⟨(hbg e he).2,(hb e he).2.2,least_le he⟩) (by
  simp only [Sq,Zf,Zg]) ?_
 rintro t0 ⟨g0,g1,g2,g3,g9,-⟩;show W af _ _ _;generalize (iW d (least l) l).1=fv at*;generalize (iW d (least l) l).2=ov at*;have vS:=az A 164 [.slice none 0 0,.bool fv,.int .u64 ov];have kS:=Kp.alloc A (aa 164 [.slice none 0 0,.bool fv,.int .u64 ov]);have nS:(A.alloc (aa 164 [.slice none 0 0,.bool fv,.int .u64 ov])).next=A.next+1:=ae _ _
 generalize A.alloc (aa 164 [.slice none 0 0,.bool fv,.int .u64 ov])=D0 at vS kS nS;apply W.seq;apply W.q
 ·intro M;simp (disch:=omega) only [fW,qao,Aq,Zf];rfl
 apply W.block;refine W.up l.length (fun i t D=>∃rs Mi,TL A l d (least l) (fun own n M=>pP f own (d+1) n M) R m b M X (.bool fv) (.int .u64 ov) (l.drop i) rs Mi D∧Sl t [(0,pw m 0),(1,x),(2,.int .i64 d),(3,.int .u64 (least l:Nat)),(9,pw A.next 0),(11,.int .i64 i)]) ?_ (Zv _) ⟨[],M,?_,?_⟩
 ·rintro i t D hi ⟨rs,Mi,hRn,hs⟩;obtain⟨g0,g1,g2,g3,g9,g11,-⟩:=id hs;obtain⟨bi,y,c,h1,h2,h3,h4,h5,h6,h7,h8⟩:=id hRn;have hDA:∀z,X z→D.get z=A.get z:=fun z hz=>h8.2 z (hX z hz) (fun h=>hmX (h▸hz)) (fun hM h=>(hMb hM).1 (h▸hz))
  have hxD:aq D 67 3 bl (l.map bH) x:=hxl.same (by have:=h8.1;omega) fun _=>hDA bl hXb
  have hlx:=dX.len ⟨bl,hxD⟩;have hrp:=lS (d:=d) (less:=least l) (fun own n M=>xq f own (d+1) n M) (l.drop i) rs Mi;rw [h1] at hrp;have hrl:rs.length<1000000:=by
   have:=hrp.2.length_le;omega
  by_cases hlt:i<l.length
  ·have hmem:=ZO hlt;rw [AF];apply W.seq;apply W.run 20
   ·intro M;simp (disch:=decide+kernel) only [cD,fW,qao,Aq,Zf,g1,g11,hlx,hlt];rfl
   apply W.seq;apply W.block;apply W.seq;refine Nx hxD h5 h4 hlt hl hrl (hbg _ hmem).2 (hb _ hmem).2.1 (mv:=pw m 0) (less:=least l) (by
    simp only [Sq,Zf,Zg,g0,g1,g2,g3,g9,g11]) (fun hsk t' hs2=>?_) (fun hgo t' hs2=>?_)
   ·show W af (sub cD [1,1]) _ _;obtain⟨g0,g1,g2,g3,g9,g11,-⟩:=hs2;apply W.run 20
    ·intro M;simp (disch:=first|decide+kernel|omega) only [cD,fW,qao,Aq,Zf,g11];rfl
    refine⟨hlt,_,_,rfl,rs,Mi,⟨bi,y,c,?_,h2,h3,h4,h5,h6,h7,h8⟩,?_⟩
    ·have hdr:l.drop i=l[i]::l.drop (i+1):=qad hlt;rw [hdr] at h1;unfold dD at h1;rw [if_pos hsk] at h1;exact h1
    ·simp only [Sq,Zf,Zg,g0,g1,g2,g3,g9,g11]
   ·show W af _ _ _;refine Uw ih ha hbg (fun e he=>⟨(hb e he).1,(hb e he).2.1,(hb e he).2.2,least_le he⟩) hl hX hxl hXb ⟨hmX,hmA⟩ (fun h=>(hMb h).1) hRg hRl hRa hlt hdl hgo hRn hs2 (fun t3 D3 rs3 M3 hR3 hs3=>?_);show W af (sub cD [1,1]) _ _;obtain⟨g0,g1,g2,g3,g9,g11,-⟩:=hs3;apply W.run 20
    ·intro M;simp (disch:=first|decide+kernel|omega) only [cD,fW,qao,Aq,Zf,g11];rfl
    refine⟨hlt,_,_,rfl,rs3,M3,hR3,?_⟩;simp only [Sq,Zf,Zg,g0,g1,g2,g3,g9,g11]
  ·have hil:i=l.length:=by omega
   subst hil;rw [qdu] at h1;unfold dD at h1;rw [←h1] at hgf hlen hRa hRl hRp hRg⊢;rw [AF];apply W.seq;apply W.run 20
   ·intro M;simp (disch:=decide+kernel) only [cD,fW,qao,Aq,Zf,g1,g11,hlx];rfl
   show W af _ _ _;obtain⟨dd,hd1,hd2⟩:=bg (t:=164) (p:=true) (by kernel_rfl);have lo:ai af D.get 164 (pw A.next 0)= .ok (.agg ⟨cZ y ⟨fv,ov,rs⟩⟩):=aI hd1 hd2 (l:=cZ y ⟨fv,ov,rs⟩) mH h4.2;have hMD:=h2.more (Y:=X) (fun z _ h=>.inl h);have hnot:=h2.not;obtain⟨v,E,⟨gn,hgn⟩,rfl,b2,hM2,hb2,hn2,hf2⟩:=Hq (s:=⟨fv,ov,rs⟩) hMD (fun z hz=>by have:=hX z hz;have:=h8.1;omega) h5 h6 (fun hr=>⟨fun hM e=>(hnot.2.2 hM).1 (.inr (.inr ⟨hr,e.symm⟩)),by have:=h7 hr;omega,fun hx=>by have:=h7 hr;have:=hX c hx;omega⟩) hrl (fun u hu=>qan (Eo hRg hu) (by omega)) hRl;apply W.bf (gn) 20
   ·intro M hM;simp (config:={maxSteps:=4000000}) (disch:=first|decide+kernel|omega|simp only [Wq,Zf]) only [fW,qao,Aq,Zj,reduceIte,Zf,Zg,g0,g9,lo,hgn,Fq,au []];rfl
   refine⟨by simp,rfl,_,(by simp only [qao,Aq,Zf]<;>rfl),rfl,b2,hM2,?_,by have:=h8.1;exact ZV (qdc this) hn2,fun z hz hm hM=>?_⟩
   ·rcases hb2 with⟨_,e⟩|e
    ·rw [e];exact h3
    ·exact .inr (by have:=h8.1;omega)
   ·show E.get z=A.get z;rw [hf2 z (by have:=h8.1;omega) hm (fun hMi e=>?_),h8.2 z hz hm hM];rcases h3 with⟨hM',e'⟩|e'
    ·exact hM hM' (by rw [e,e'])
    ·omega
 ·have hmore:∀z,z<A.next→(X z∨z=A.next∨(([]:List cL)≠ []∧z=0))→X z:=fun z hz h=>by
   rcases h with h|h|h
   ·exact h
   ·omega
   ·exact absurd rfl h.1
  by_cases hM0:M=[]
  ·exact⟨A.next,.slice none 0 0,0,hR,((hM.free hM0 A.next).more hmore).kp kS,.inr (Zn _),vS,aq.nil _ _ _ _,fun _=>rfl,fun h=>absurd rfl h,by omega,fun z hz _ _=>kS.2 z hz⟩
  ·exact⟨b,.slice none 0 0,0,hR,(hM.more hmore).kp kS,.inl ⟨hM0,rfl⟩,vS,aq.nil _ _ _ _,fun _=>rfl,fun h=>absurd rfl h,by omega,fun z hz _ _=>kS.2 z hz⟩
 ·simp only [Sq,Zf,Zg,g0,g1,g2,g3,g9]
theorem Fx:∀f,wV f
 |0=>by
  intro l d p M A m b bl x X hg hne ha hbg hb;obtain⟨e,he⟩:=qcc l hne;have h1:=(hbg e he).2;have h2:=(hb e he).1;omega
 |f+1=>HL (Fx f)
theorem dY.len (h:dY A M y):aL af .len [102] [y]= .ok (.int .i64 (M.length:Nat)):=by
 obtain⟨b,rows,h1,h2,-⟩:=h;have:=aq.len (tb:=af) h1 fP;rwa [h2] at this
theorem dY.at {s:a6} (h:dY A M y) (hi:M[i]?=some s):
 ∃x p,aW af 102 y (.int .i64 i)= .ok p∧ai af A.get 164 p= .ok (.agg ⟨cZ x s⟩)∧ki A s.arcs x∧∃q,ak af 164 p 0= .ok q∧ai af A.get 162 q= .ok x:=by
 obtain⟨b,rows,h1,h2,h3⟩:=h;obtain⟨x,e1,e2⟩:=h3 i s hi;have hl:i<rows.length:=(Zl.1 e1).1;obtain⟨d,hd1,hd2⟩:=bg (t:=164) (p:=true) (by kernel_rfl);refine⟨x,_,aq.idx h1 fP mH hl,aq.aI h1 hd1 hd2 mH e1,e2,_,df,?_⟩;have:=aq.load (tb:=af) (j:=0) h1 kA rfl e1 rfl (by omega);rwa [Z8] at this
def dC (l:List aG):List a6:=(pP 256 l 0 (least l) []).1
theorem MV (h0:l≠ []) (ha:rL l) (hw:∀e∈l,e.word.length≤255∧e.weight<4294967296):FM [] (pP 256 l 0 (least l) []) l 0 (least l):=
 Pn 256 l 0 [] [] ⟨fun i s h=>by simp at h,qcI,fun i hi=>by simp at hi⟩ h0 ha (fun e _=>⟨rfl,Zv _⟩) fun e he=>⟨by have:=(hw e he).1;omega,vd (hw e he).2⟩
theorem dz:aV af 105= .ok 2:=by kernel_rfl
theorem tI:bO af 105= .ok (.agg ⟨[.slice none 0 0,.int .u64 (0:Nat)]⟩):=by kernel_rfl
theorem Wa:cu af 167 []= .ok (.agg ⟨[.slice none 0 0]⟩):=by kernel_rfl
theorem V' {a:Option Addr} {n:Int}:cu af 105 [(0,.slice a m c),(1,.int .u64 n)]= .ok (.agg ⟨[.slice a m c,.int .u64 n]⟩):=by kernel_rfl
theorem run_build {x:Value} (h:dX A l x) (h0:l≠ []) (ha:rL l) (hw:∀e∈l,1≤e.word.length∧e.word.length≤255∧e.weight<4294967296) (hl:l.length<1000000) (hn:(dC l).length<1000000):
 ∃v A',bJ af 57 [x] A v A'∧Kp A A'∧∃y,v= .tuple ⟨[.agg ⟨[y,.int .u64 (least l:Nat)]⟩,.int .i64 (0:Nat)]⟩∧dY A' (dC l) y:=by
 have kB:=Kp.alloc A (aa 105 [.slice none 0 0,.int .u64 (0:Nat)]);have vB:=az A 105 [.slice none 0 0,.int .u64 (0:Nat)];obtain⟨g1,hg1⟩:=Ho (h.kp kB) ha (fun e he=>⟨(hw e he).1,(hw e he).2.1⟩) hl;generalize hB:A.alloc (aa 105 [.slice none 0 0,.int .u64 (0:Nat)])=B at kB vB hg1;have hlen:=(h.kp kB).len;have kC:=Kp.alloc B (aa 167 [.slice none 0 0]);have vC:=az B 167 [.slice none 0 0];have nC:(B.alloc (aa 167 [.slice none 0 0])).next=B.next+1:=ae _ _
 obtain⟨g2,hg2⟩:=Bt ((h.kp kB).kp kC) h0 (fun e he=>(hw e he).2.2) hl;generalize hC:B.alloc (aa 167 [.slice none 0 0])=C at kC vC nC hg2;obtain⟨b0,h1⟩:=(h.kp kB).kp kC;have hb0:b0<B.next:=by
  obtain⟨b1,h2⟩:=h.kp kB;rcases h1 with⟨-,h1⟩|⟨k,c,h1,-⟩
  ·exact absurd (ZZ.1 h1) h0
  ·rcases h2 with⟨-,h2⟩|⟨k',c',h2,h3,-⟩
   ·exact absurd (ZZ.1 h2) h0
   ·rw [h1] at h2;cases h2;exact h3
 have hM:zW C B.next B.next [] fun z=>z<B.next:=⟨_,[],vC,aq.nil _ _ _ _,⟨fun _=>rfl,fun h=>absurd rfl h⟩,fun hx=>qau _ hx,rfl,fun i s hs=>by simp at hs⟩
 obtain⟨v,D,⟨g3,hg3⟩,rfl,b',hM',-,hn',hf'⟩:=Fx 256 l 0 [] [] C B.next B.next b0 x (fun z=>z<B.next) ⟨fun i s h=>by simp at h,qcI,fun i hi=>by simp at hi⟩ h0 ha (fun e _=>⟨rfl,Zv _⟩)
  (fun e he=>⟨by have:=(hw e he).2.1;omega,by have:=(hw e he).2.1;omega,(hw e he).2.2⟩) hl hM (fun z hz=>by omega) h1 hb0 hn
 obtain⟨y,rows,m1,m2,m3,-,m4,m5⟩:=hM';have kD:Kp B D:=⟨by omega,fun z hz=>by rw [hf' z (by omega) (by omega) (fun h=>absurd rfl h),kC.2 z hz]⟩;have lm:ai af D.get 102 (pw B.next 0)= .ok y:=m1.ld rfl fP rfl;have hy:=aq.di m2;obtain⟨E,sE,vE,nE,fE⟩:=bK (tb:=af) (t:=105) (l':=[y,.int .u64 (least l:Nat)]) (by exact dz) (vB.kp kD).2 rfl (by simp) (by
  intro v hv;simp only [ZC,Z0,or_false] at hv;rcases hv with rfl|rfl
  ·exact hy.2
  ·rfl)
 have eJ:∀z,z<D.next→¬z<B.next→E.get z=D.get z:=fun z _ hx=>fE z (by have:=vB.1;omega)
 obtain⟨d,hd1,hd2⟩:=bg (t:=105) (p:=true) (by kernel_rfl);have lE:ai af E.get 105 (pw A.next 0)= .ok (.agg ⟨[y,.int .u64 (least l:Nat)]⟩):=aI hd1 hd2 dz vE;have hlp:¬l.length=0:=fun e=>h0 (Zw.1 e)
 have bd:cu af 105 [(0,y),(1,.int .u64 (least l:Nat))]= .ok (.agg ⟨[y,.int .u64 (least l:Nat)]⟩):=by
  rcases m2 with⟨rfl,-⟩|⟨_,_,rfl,-⟩<;>exact V'
 refine cM (av Tryz.func57) (c:=Tryz.f57.body.getD .skip) (by kernel_rfl) (by rw [Tryz.ntmps57];simp) (by kernel_rfl) (by kernel_rfl) ?_;apply W.bf (g1+g2+g3) 60
 ·intro M hM;simp (disch:=first|decide+kernel|omega) only [Tryz.f57,Aq,Zf,tI,hB,hg1,S8,hlen,hlp,Wa,hC,hg2,hg3,aA,aX,ui,lm,bd,sE,Zm,Zk];rfl
 refine⟨by simp,rfl,_,(by simp only [Tryz.f57,Aq,Zf,lE]<;>rfl),⟨by have:=kB.1;have:=kD.1;show A.next≤E.next;omega,fun z hz=>?_⟩,y,rfl,b',rows,?_,m4,fun i s hs=>?_⟩
 ·show E.get z=A.get z;rw [fE z (by omega),kD.2 z (by have:=kB.1;omega),kB.2 z hz]
 ·exact aq.fU m2 (fun h=>m3.1 (Zw.1 (by rw [←m4,h];rfl))) (by show D.next≤E.next;omega) fun hne hlt=>eJ b' hlt (m3.2 fun h=>hne (Zw.1 (by rw [m4,h];rfl))).2.2
 ·obtain⟨x',c,e1,e2,e0,e3⟩:=m5 i s hs;exact⟨x',e1,c,aq.fU e2 (fun h=>e0 (ZZ.1 h)) (by show D.next≤E.next;omega) fun hne hlt=>eJ c hlt (e3 fun h=>hne (by rw [h];rfl)).2.2⟩
theorem dm:ak af 105 (pw b o) 0= .ok (pw b o):=by kernel_rfl
theorem Cu:ak af 105 (pw b o) 1= .ok (pw b (o+1)):=by kernel_rfl
theorem kR:ak af 172 (pw b o) 0= .ok (pw b o):=by kernel_rfl
theorem qK:ak af 172 (pw b o) 1= .ok (pw b (o+1)):=by kernel_rfl
theorem jQ:ak af 172 (pw b o) 2= .ok (pw b (o+2)):=by kernel_rfl
theorem ki.to {l:List cL} {x:Value} {e:cL} (h:ki A l x) (hi:l[i]?=some e):
 ∃p,aW af 162 x (.int .i64 i)= .ok p∧∃q,ak af 172 p 2= .ok q∧ai af A.get 3 q= .ok (.int .i64 e.to):=by
 obtain⟨b,h⟩:=h;have hl:i<(l.map b9).length:=by rw [Zp];exact(Zl.1 hi).1
 exact⟨_,aq.idx h kA L2 hl,_,jQ,aq.load (tb:=af) (j:=2) h u3 rfl (show(l.map b9)[i]?=some (b9 e) by rw [ZH,hi];rfl) rfl (by omega)⟩
theorem Fv {D:Mem} {x:Value} {s:a6} (h:ki D s.arcs x):aT af (D.alloc (aa 164 [.slice none 0 0,.bool false,.int .u64 (0:Nat)])) 164 (pw D.next 0) (.agg ⟨cZ x s⟩)= .ok (D.alloc (aa 164 (cZ x s))):=by
 obtain⟨b,h⟩:=h;refine a_ mH rfl (by simp [cZ]) (by simp) ?_;intro v hv;simp only [cZ,ZC,Z0,or_false] at hv;rcases hv with rfl|rfl|rfl
 ·exact(aq.di h).2
 ·rfl
 ·rfl
theorem dY.self (h:dY A M y):y.cells.toList=[y]∧aH y=true:=by
 obtain⟨b,rows,h1,-⟩:=h;exact aq.di h1
noncomputable def lV:Code:=qa9.body.getD .skip
noncomputable def fg:Code:=sub lV [1,1,0,1,0,0]
noncomputable def F4:Code:=sub fg [1,0,0,1,1,1,0,0]
theorem Qj:qa9.body=some (.seq (sub lV [0]) (.seq (sub lV [1,0]) (.seq (.seq (sub lV [1,1,0,0]) (.block 0 (.loop fg))) (.seq (sub lV [1,1,1,0]) (sub lV [1,1,1,1]))))):=by kernel_rfl
theorem AG:fg=(.seq (sub fg [0]) (.seq (.block 1 (.seq (sub fg [1,0,0,0]) (.seq (sub fg [1,0,0,1,0]) (.seq (sub fg [1,0,0,1,1,0]) (.block 2 (.loop F4)))))) (sub fg [1,1]))):=by kernel_rfl
variable {n:Nat}
theorem O3 (h:dY A M y) (hM:M≠ []) (hn:n≤100000) (hl:M.length<1000000) (hL:Lay M):∃v A',bJ af 102 [.int .i64 n,.agg ⟨[y,.int .u64 k]⟩] A v A'∧v= .bool true∧Kp A A':=by
 refine cM (av Tryz.func102) Qj (by rw [Tryz.ntmps102];simp) (by kernel_rfl) (by kernel_rfl) ?_;have kB:=Kp.alloc A (aa 105 [y,.int .u64 k]);have vB:=az A 105 [y,.int .u64 k];have hy:=h.self;apply W.q
 ·intro M;simp (disch:=omega) only [lV,qa9,Aq,Zf,aj];rfl
 have hB:=h.kp kB;generalize A.alloc (aa 105 [y,.int .u64 k])=B at kB vB hB;have ly:∀D,Kp B D→ai af D.get 102 (.pointer (some ⟨A.next,0,none⟩))= .ok y:=fun D hD=>(vB.kp hD).ld rfl fP rfl
 have lB:=ly B (Kp.refl _);have cm:=hB.len;have hM1:¬M.length=0:=fun e=>hM (Zw.1 e)
 have hn1:¬100000<n:=by omega
 apply W.q
 ·intro M;simp (config:={maxSteps:=4000000}) (disch:=first|decide+kernel|omega|simp only [Wq,Zf]) only [lV,qa9,Aq,Zj,reduceIte,Zf,Zg,dm,lB,cm,hM1,hn1,bT,bA];rfl
 apply W.seq;apply W.q
 ·intro M;simp (disch:=omega) only [lV,qa9,Aq,Zf];rfl
 apply W.block;refine W.up M.length (fun i t D=>Kp B D∧Sl t [(3,.pointer (some ⟨A.next,0,none⟩)),(5,.int .i64 i)]) ?_ (Zv _) ⟨Kp.refl _,?_⟩
 ·rintro i t D hi ⟨kD,g3,g5,-⟩;have lD:=ly D kD;have hD:=hB.kp kD;have lenD:=hD.len;by_cases hlt:i<M.length
  ·have hMi:M[i]?=some M[i]:=Zi hlt;obtain⟨l1,l2,l3,l4⟩:=hL i _ hMi;obtain⟨x,p,j1,j2,hx,-⟩:=hD.at hMi;generalize M[i]=s at*;have sE:=Fv hx;have kE:=Kp.alloc D (aa 164 (cZ x s));have vE:=az D 164 (cZ x s);generalize D.alloc (aa 164 (cZ x s))=E at sE kE vE;have a0:ai af E.get 162 (.pointer (some ⟨D.next,0,none⟩))= .ok x:=vE.ld rfl kA rfl;have a1:ai af E.get 4 (.pointer (some ⟨D.next,0+1,none⟩))= .ok (.bool s.fin):=vE.ld rfl u4 rfl;have a2:ai af E.get 103 (.pointer (some ⟨D.next,0+2,none⟩))= .ok (.int .u64 s.out):=vE.ld rfl eK rfl;have hxE:=hx.kp kE;have lx:=hxE.len;have hl1:¬256<s.arcs.length:=by omega
   rw [AG];apply W.q
   ·intro M;simp (disch:=decide+kernel) only [fg,lV,qa9,Aq,Zf,g3,g5,dm,lD,lenD,hlt];rfl
   apply W.seq;apply W.block;apply W.q
   ·intro M;simp (disch:=omega) only [fg,lV,qa9,Aq,Zf,g3,g5,dm,lD,j1,j2,jA,aj,sE];rfl
   apply W.seq;refine W.to (n:=70) (fun t D'=>D'=E∧Sl t [(3,.pointer (some ⟨A.next,0,none⟩)),(5,.int .i64 i),(6,.pointer (some ⟨D.next,0,none⟩))]) ?_ ?_
   ·cases hf:s.fin with
    |true=>
     rw [hf] at a1;apply W.run 20
     ·intro M;simp (config:={maxSteps:=4000000}) (disch:=first|decide+kernel|omega|simp only [Wq,Zf]) only [fg,lV,qa9,Aq,Zj,reduceIte,Zf,Zg,df,cR,a0,a1,lx,hl1,bT,bA];rfl
     refine⟨rfl,_,_,rfl,rfl,?_⟩;simp only [Sq,Zf,Zg,g3,g5]
    |false=>
     rw [hf] at a1;have ho:=l2 hf;rw [ho] at a2;apply W.run 20
     ·intro M;simp (config:={maxSteps:=4000000}) (disch:=first|decide+kernel|omega|simp only [Wq,Zf]) only [fg,lV,qa9,Aq,Zj,reduceIte,Zf,Zg,df,cR,iu,a0,a1,a2,lx,hl1,bT,bA];rfl
     refine⟨rfl,_,_,rfl,rfl,?_⟩;simp only [Sq,Zf,Zg,g3,g5]
   ·rintro t D' ⟨rfl,g3,g5,g6,-⟩;apply W.seq;apply W.run 20
    ·intro M;simp (disch:=omega) only [fg,lV,qa9,Aq,Zf];rfl
    apply W.block;refine W.up s.arcs.length (fun j t D''=>D''=D'∧Sl t [(3,.pointer (some ⟨A.next,0,none⟩)),(5,.int .i64 i),(6,.pointer (some ⟨D.next,0,none⟩)),(7,.int .i64 j)]) ?_ (Zv _) ⟨rfl,?_⟩
    ·rintro j t D' hj ⟨rfl,g3,g5,g6,g7,-⟩;by_cases hlt2:j<s.arcs.length
     ·have hsj:s.arcs[j]?=some s.arcs[j]:=Zi hlt2;obtain⟨q,q1,q2,q3,q4⟩:=hxE.to hsj;have ht:=(l4 _ (ZO hlt2)).1;have ht2:¬i≤s.arcs[j].to:=by omega
      apply W.run 20
      ·intro M;simp (config:={maxSteps:=4000000}) (disch:=first|decide+kernel|omega|simp only [Wq,Zf]) only [F4,fg,lV,qa9,Aq,Zj,reduceIte,Zf,Zg,g5,g6,g7,df,a0,lx,hlt2,q1,q3,q4,bN,bj,ht2];rfl
      refine⟨hlt2,_,_,rfl,rfl,?_⟩;simp only [Sq,Zf,Zg,g3,g5,g6]
     ·have e:j=s.arcs.length:=by omega
      subst e;apply W.run 20
      ·intro M;simp (disch:=decide+kernel) only [F4,fg,lV,qa9,Aq,Zf,g6,g7,df,a0,lx];rfl
      show W af (sub fg [1,1]) _ _;apply W.run 20
      ·intro M;simp (disch:=first|decide+kernel|omega) only [fg,lV,qa9,Aq,Zf,g5];rfl
      refine⟨hlt,_,_,rfl,kD.trans kE,?_⟩;simp only [Sq,Zf,Zg,g3]
    ·simp only [Sq,Zf,Zg,g3,g5,g6]
  ·have e:i=M.length:=by omega
   subst e;rw [AG];apply W.seq;apply W.run 20
   ·intro M;simp (disch:=decide+kernel) only [fg,lV,qa9,Aq,Zf,g3,g5,dm,lD,lenD];rfl
   apply W.seq;apply W.run 20
   ·intro M;simp (disch:=omega) only [lV,qa9,Aq,Zf];rfl
   apply W.run 20
   ·intro M;simp only [lV,qa9,Aq,Zf];rfl
   exact⟨by simp,rfl,_,(by simp only [qa9,Aq,Zf]<;>rfl),rfl,kB.trans kD⟩
 ·simp only [Sq,Zf,Zg]
theorem Fw {D:Mem} {a:cL}:aT af (D.alloc (aa 172 [.int .u8 (0:Nat),.int .u64 (0:Nat),.int .i64 (0:Nat)])) 172 (pw D.next 0) (.agg ⟨b9 a⟩)= .ok (D.alloc (aa 172 (b9 a))):=a_ L2 rfl rfl (by simp) (by simp [b9,aH])
theorem ph:bO af 172= .ok (.agg ⟨[.int .u8 (0:Nat),.int .u64 (0:Nat),.int .i64 (0:Nat)]⟩):=by kernel_rfl
def EB (l:List cL) (j:Nat):Int:=if j=0 then-1 else(((l[j-1]?).map fun a=>a.byte.toNat).getD 0:Nat)
variable {j:Nat}
theorem N2 {l:List cL} (hp:(l.map (·.byte)).Pairwise (·<·)) (hj:j<l.length):¬(((l[j].byte.toNat:Nat):Int)≤EB l j):=by
 unfold EB;split
 ·omega
 ·rename_i h0;rw [Zi (by omega)];have:=qaK.1 hp (j-1) j (by rw [Zp];omega) (by rw [Zp];omega) (by omega);rw [qcj,qcj] at this;have:=qb7.1 this;simp only [Z1,qal];omega
theorem Cr (t:T Value):ev t (.const (.int .i64 (-1)))= .ok (.int .i64 (-1)):=rfl
noncomputable def lq:Code:=qaM.body.getD .skip
noncomputable def dR:Code:=sub lq [1,0,1,0,0]
noncomputable def Ga:Code:=sub dR [1,1,0,0,1,1,1,1,0,0]
theorem Qy:qaM.body=some (.seq (sub lq [0]) (.seq (.seq (sub lq [1,0,0]) (.block 0 (.loop dR))) (.seq (sub lq [1,1,0]) (sub lq [1,1,1])))):=by kernel_rfl
theorem AI:dR=(.seq (sub dR [0]) (.seq (sub dR [1,0]) (.seq (.block 1 (.seq (sub dR [1,1,0,0,0]) (.seq (sub dR [1,1,0,0,1,0]) (.seq (sub dR [1,1,0,0,1,1,0]) (.seq (sub dR [1,1,0,0,1,1,1,0]) (.block 2 (.loop Ga))))))) (sub dR [1,1,1])))):=by kernel_rfl
theorem Hn (h:dY A M y) (hM:M≠ []) (hg:de M) (hl:M.length<1000000):∃v A',bJ af 168 [.agg ⟨[y,.int .u64 k]⟩] A v A'∧v= .bool true∧Kp A A':=by
 refine cM (av Tryz.func168) Qy (by rw [Tryz.ntmps168];simp) (by kernel_rfl) (by kernel_rfl) ?_;have kB:=Kp.alloc A (aa 105 [y,.int .u64 k]);have vB:=az A 105 [y,.int .u64 k];apply W.q
 ·intro M;simp (disch:=first|decide+kernel|omega) only [lq,qaM,Aq,Zf,aj];rfl
 have hB:=h.kp kB;generalize A.alloc (aa 105 [y,.int .u64 k])=B at kB vB hB;have ly:∀D,Kp B D→ai af D.get 102 (.pointer (some ⟨A.next,0,none⟩))= .ok y:=fun D hD=>(vB.kp hD).ld rfl fP rfl
 have lB:=ly B (Kp.refl _);have cm:=hB.len;apply W.seq;apply W.q
 ·intro M;simp (disch:=first|decide+kernel|omega) only [lq,qaM,Aq,Zf,dm,lB,cm];rfl
 apply W.block;refine W.up M.length (fun i t D=>Kp B D∧Sl t [(1,.pointer (some ⟨A.next,0,none⟩)),(9,y),(10,.int .i64 M.length),(11,.int .i64 i)]) ?_ (Zv _) ⟨Kp.refl _,?_⟩
 ·rintro i t D hi ⟨kD,g1,g9,g10,g11,-⟩;have hD:=hB.kp kD;by_cases hlt:i<M.length
  ·have hMi:M[i]?=some M[i]:=Zi hlt;obtain⟨l1,l2,l3,-,-⟩:=hg i _ hMi;have hfew:=kX (hg i _ hMi);obtain⟨x,p,j1,j2,hx,-⟩:=hD.at hMi;generalize M[i]=s at*;have sE:=Fv hx;have kE:=Kp.alloc D (aa 164 (cZ x s));have vE:=az D 164 (cZ x s);generalize D.alloc (aa 164 (cZ x s))=E at sE kE vE;have a0:ai af E.get 162 (.pointer (some ⟨D.next,0,none⟩))= .ok x:=vE.ld rfl kA rfl;have a1:ai af E.get 4 (.pointer (some ⟨D.next,0+1,none⟩))= .ok (.bool s.fin):=vE.ld rfl u4 rfl;have a2:ai af E.get 103 (.pointer (some ⟨D.next,0+2,none⟩))= .ok (.int .u64 s.out):=vE.ld rfl eK rfl;have hxE:=hx.kp kE;have lx:=hxE.len;rw [AI];apply W.q
   ·intro M;simp (disch:=first|decide+kernel|omega) only [dR,lq,qaM,Aq,Zf,g10,g11,hlt];rfl
   apply W.q
   ·intro M;simp (disch:=first|decide+kernel|omega) only [dR,lq,qaM,Aq,Zf];rfl
   apply W.seq;apply W.block;apply W.q
   ·intro M;simp (disch:=first|decide+kernel|omega) only [dR,lq,qaM,Aq,Zf,g9,g11,j1,j2,jA,aj,sE];rfl
   apply W.seq;refine W.to (n:=56) (fun t D'=>D'=E∧Sl t [(1,.pointer (some ⟨A.next,0,none⟩)),(3,.int .i64 i),(4,.pointer (some ⟨D.next,0,none⟩)),(9,y),(10,.int .i64 M.length),(11,.int .i64 i)]) ?_ ?_
   ·cases hf:s.fin with
    |true=>
     rw [hf] at a1;apply W.run 20
     ·intro M;simp (config:={maxSteps:=4000000}) (disch:=first|decide+kernel|omega|simp only [Wq,Zf]) only [dR,lq,qaM,Aq,Zj,reduceIte,Zf,Zg,cR,a1];rfl
     refine⟨rfl,_,_,rfl,rfl,?_⟩;simp only [Sq,Zf,Zg,g1,g9,g10,g11]
    |false=>
     rw [hf] at a1;have ho:=l1 hf;rw [ho] at a2;apply W.run 20
     ·intro M;simp (config:={maxSteps:=4000000}) (disch:=first|decide+kernel|omega|simp only [Wq,Zf]) only [dR,lq,qaM,Aq,Zj,reduceIte,Zf,Zg,cR,iu,a1,a2];rfl
     refine⟨rfl,_,_,rfl,rfl,?_⟩;simp only [Sq,Zf,Zg,g1,g9,g10,g11]
   ·rintro t D' ⟨rfl,g1,g3,g4,g9,g10,g11,-⟩;apply W.q
    ·intro M;simp (disch:=first|decide+kernel|omega) only [dR,lq,qaM,Aq,Zf,Cr];rfl
    apply W.seq;apply W.run 20
    ·intro M;simp (disch:=first|decide+kernel|omega) only [dR,lq,qaM,Aq,Zf,g4,df,a0,lx];rfl
    apply W.block;refine W.up s.arcs.length (fun j t F=>Kp D' F∧Sl t [(1,.pointer (some ⟨A.next,0,none⟩)),(3,.int .i64 i),(5,.int .i64 (EB s.arcs j)),(9,y),(10,.int .i64 M.length),(11,.int .i64 i),(25,x),(26,.int .i64 s.arcs.length),(27,.int .i64 j)]) ?_ (Zv _) ⟨Kp.refl _,?_⟩
    ·rintro j t F hj ⟨kF,g1,g3,g5,g9,g10,g11,g25,g26,g27,-⟩;by_cases hlt2:j<s.arcs.length
     ·have hsj:s.arcs[j]?=some s.arcs[j]:=Zi hlt2;obtain⟨q,q1,q2⟩:=(hxE.kp kF).at hsj;have ht:=l3 _ (ZO hlt2);have hla:=N2 l2 hlt2;have hlv:EB s.arcs (j+1)=((s.arcs[j].byte.toNat:Nat):Int):=by unfold EB;rw [if_neg (by omega),qbC,hsj];rfl
      generalize s.arcs[j]=a at*;have sG:=Fw (D:=F) (a:=a);have kG:=Kp.alloc F (aa 172 (b9 a));have vG:=az F 172 (b9 a);generalize F.alloc (aa 172 (b9 a))=G at sG kG vG;have b0:ai af G.get 5 (.pointer (some ⟨F.next,0,none⟩))= .ok (.int .u8 (a.byte.toNat:Nat)):=vG.ld rfl u5 rfl;have b2:ai af G.get 3 (.pointer (some ⟨F.next,0+2,none⟩))= .ok (.int .i64 a.to):=vG.ld rfl u3 rfl;have ht2:¬i≤a.to:=by omega
      have cv:=bx (tb:=af) (s:=5) (d:=3) (k:=.u8) (n:=a.byte.toNat) (by rw [u5];rfl) u3 (aR (by have:=a.byte.toNat_lt;omega));apply W.run 20
      ·intro M;simp (config:={maxSteps:=4000000}) (disch:=first|decide+kernel|omega|simp only [Wq,Zf]) only [Ga,dR,lq,qaM,Aq,Zj,reduceIte,Zf,Zg,g3,g5,g25,g26,g27,hlt2,q1,q2,ph,aj,sG,kR,jQ,b0,b2,bN,bj,ht2,cv,fi,hla];rfl
      refine⟨hlt2,_,_,rfl,kF.trans kG,?_⟩;simp only [Sq,Zf,Zg,g1,g3,g9,g10,g11,g25,g26,hlv]
     ·have e:j=s.arcs.length:=by omega
      subst e;apply W.run 20
      ·intro M;simp (disch:=first|decide+kernel|omega) only [Ga,dR,lq,qaM,Aq,Zf,g26,g27];rfl
      show W af (sub dR [1,1,1]) _ _;apply W.run 20
      ·intro M;simp (disch:=first|decide+kernel|omega) only [dR,lq,qaM,Aq,Zf,g11];rfl
      refine⟨hlt,_,_,rfl,kD.trans (kE.trans kF),?_⟩;simp only [Sq,Zf,Zg,g1,g9,g10]
    ·simp only [Sq,Zf,Zg,g1,g3,g9,g10,g11];rfl
  ·have e:i=M.length:=by omega
   subst e;have lD:=ly D kD;have lenD:=hD.len;have hpos:0<M.length:=ZW.2 hM;rw [AI];apply W.q
   ·intro M;simp (disch:=first|decide+kernel|omega) only [dR,lq,qaM,Aq,Zf,g10,g11];rfl
   apply W.seq;apply W.run 20
   ·intro M;simp (disch:=first|decide+kernel|omega) only [dR,lq,qaM,Aq,Zf];rfl
   apply W.seq;apply W.run 20
   ·intro M;simp (disch:=first|decide+kernel|omega) only [lq,qaM,Aq,Zf,g1,dm,lD,lenD,bT,bA,hpos];rfl
   apply W.run 20
   ·intro M;simp (disch:=first|decide+kernel|omega) only [lq,qaM,Aq,Zf];rfl
   exact⟨by simp,rfl,_,(by simp only [qaM,Aq,Zf]<;>rfl),rfl,kB.trans kD⟩
 ·simp only [Sq,Zf,Zg]
def GU (s:Nat×Bool) (a:cL):Nat×Bool:=if s.2=false∨a.out<s.1 then(a.out,true) else s
theorem EC:∀(l:List cL) (s:Nat×Bool),(s=(0,true)∨∃a∈l,a.out=0)→l.foldl GU s=(0,true)
 | [],s,h=>by
  rcases h with h|⟨a,h,-⟩
  ·exact h
  ·cases h
 |a::l,s,h=>by
  rw [qax];refine EC l _ ?_;rcases h with rfl|⟨b,hb,h0⟩
  ·exact .inl (by unfold GU;rw [if_neg (by simp)])
  ·rcases ZC.1 hb with rfl|hb
   ·refine .inl ?_;unfold GU;obtain⟨n,an⟩:=s;cases an with
    |false=>simp [h0]
    |true=>
     by_cases hn:b.out<n
     ·rw [if_pos (.inr hn),h0]
     ·rw [if_neg (by simp;omega)];rw [h0] at hn;have:n=0:=by omega
      rw [this]
   ·exact .inr ⟨b,hb,h0⟩
theorem Nb:ak af 214 (pw b o) 0= .ok (pw b o):=by kernel_rfl
noncomputable def qz:Code:=qb0.body.getD .skip
noncomputable def xL:Code:=sub qz [1,1,0,1,0,0]
theorem QA:qb0.body=some (.seq (sub qz [0]) (.seq (sub qz [1,0]) (.seq (.seq (sub qz [1,1,0,0]) (.block 0 (.loop xL))) (.seq (sub qz [1,1,1,0]) (sub qz [1,1,1,1]))))):=by kernel_rfl
variable {z:Value} {p:Nat}
theorem Hr {s:a6} {x:Value} (hx:ki A s.arcs x) (hp:VB A 214 p (.var 4) [x,.bool s.fin,.int .u64 s.out,z]) (hl:s.arcs.length≤256) (h0:(s.fin=true∧s.out=0)∨∃a∈s.arcs,a.out=0):∃v A',bJ af 170 [.pointer (some ⟨p,0,none⟩)] A v A'∧v= .int .u64 (0:Nat)∧Kp A A':=by
 refine cM (av Tryz.func170) QA (by rw [Tryz.ntmps170];simp) (by kernel_rfl) (by kernel_rfl) ?_;have a0:ai af A.get 162 (.pointer (some ⟨p,0,none⟩))= .ok x:=hp.ld rfl kA rfl;have a1:ai af A.get 4 (.pointer (some ⟨p,0+1,none⟩))= .ok (.bool s.fin):=hp.ld rfl u4 rfl;have a2:ai af A.get 103 (.pointer (some ⟨p,0+2,none⟩))= .ok (.int .u64 s.out):=hp.ld rfl eK rfl;have lx:=hx.len;have hz:=EC s.arcs (s.out,s.fin) (by
  rcases h0 with⟨h1,h2⟩|h
  ·exact .inl (by rw [h1,h2])
  ·exact .inr h)
 apply W.q
 ·intro M;simp (disch:=first|decide+kernel|omega) only [qz,qb0,Aq,Zf];rfl
 apply W.q
 ·intro M;simp (config:={maxSteps:=4000000}) (disch:=first|decide+kernel|omega|simp only [Wq,Zf]) only [qz,qb0,Aq,Zj,reduceIte,Zf,Zg,aA,aX,Nb,cR,iu,a1,a2,Fq,au []];rfl
 apply W.seq;apply W.q
 ·intro M;simp (disch:=first|decide+kernel|omega) only [qz,qb0,Aq,Zf,aA,aX,Nb,df,a0,lx];rfl
 apply W.block;refine W.up s.arcs.length (fun j t D=>Kp A D∧Sl t [(3,.int .u64 ((((s.arcs.take j).foldl GU (s.out,s.fin)).1:Nat):Int)),(4,.bool ((s.arcs.take j).foldl GU (s.out,s.fin)).2),(21,x),(22,.int .i64 s.arcs.length),(23,.int .i64 j)]) ?_ (Zv _) ⟨Kp.refl _,?_⟩
 ·rintro j t D hj ⟨kD,g3,g4,g21,g22,g23,-⟩;by_cases hlt:j<s.arcs.length
  ·have hsj:s.arcs[j]?=some s.arcs[j]:=Zi hlt;obtain⟨q,q1,q2⟩:=(hx.kp kD).at hsj;have htk:(s.arcs.take (j+1)).foldl GU (s.out,s.fin)=GU ((s.arcs.take j).foldl GU (s.out,s.fin)) s.arcs[j]:=by rw [Zs hlt,qa8];rfl
   generalize s.arcs[j]=a at*;generalize (s.arcs.take j).foldl GU (s.out,s.fin)=w at*;obtain⟨n,an⟩:=w;have sG:=Fw (D:=D) (a:=a);have kG:=Kp.alloc D (aa 172 (b9 a));have vG:=az D 172 (b9 a);generalize D.alloc (aa 172 (b9 a))=G at sG kG vG;have b1:ai af G.get 103 (.pointer (some ⟨D.next,0+1,none⟩))= .ok (.int .u64 a.out):=vG.ld rfl eK rfl;cases an with
   |false=>
    have e:GU (n,false) a=(a.out,true):=by unfold GU;rw [if_pos (.inl rfl)]
    apply W.run 20
    ·intro M;simp (config:={maxSteps:=4000000}) (disch:=first|decide+kernel|omega|simp only [Wq,Zf]) only [xL,qz,qb0,Aq,Zj,reduceIte,Zf,Zg,g3,g4,g21,g22,g23,hlt,q1,q2,ph,aj,sG,qK,b1];rfl
    refine⟨hlt,_,_,rfl,kD.trans kG,?_⟩;rw [htk,e];simp only [Sq,Zf,Zg,g21,g22]
   |true=>
    by_cases hn:a.out<n
    ·have e:GU (n,true) a=(a.out,true):=by unfold GU;rw [if_pos (.inr hn)]
     apply W.run 20
     ·intro M;simp (config:={maxSteps:=4000000}) (disch:=first|decide+kernel|omega|simp only [Wq,Zf]) only [xL,qz,qb0,Aq,Zj,reduceIte,Zf,Zg,g3,g4,g21,g22,g23,hlt,q1,q2,ph,aj,sG,qK,b1,hn];rfl
     refine⟨hlt,_,_,rfl,kD.trans kG,?_⟩;rw [htk,e];simp only [Sq,Zf,Zg,g21,g22]
    ·have e:GU (n,true) a=(n,true):=by unfold GU;rw [if_neg (by simp;omega)]
     apply W.run 20
     ·intro M;simp (config:={maxSteps:=4000000}) (disch:=first|decide+kernel|omega|simp only [Wq,Zf]) only [xL,qz,qb0,Aq,Zj,reduceIte,Zf,Zg,g3,g4,g21,g22,g23,hlt,q1,q2,ph,aj,sG,qK,b1,hn];rfl
     refine⟨hlt,_,_,rfl,kD.trans kG,?_⟩;rw [htk,e];simp only [Sq,Zf,Zg,g3,g4,g21,g22]
  ·have e:j=s.arcs.length:=by omega
   subst e;rw [ZL,hz] at g3;apply W.run 20
   ·intro M;simp (disch:=first|decide+kernel|omega) only [xL,qz,qb0,Aq,Zf,g22,g23];rfl
   apply W.q
   ·intro M;simp (disch:=first|decide+kernel|omega) only [qz,qb0,Aq,Zf,g3];rfl
   apply W.run 20
   ·intro M;simp (disch:=first|decide+kernel|omega) only [qz,qb0,Aq,Zf];rfl
   exact⟨by simp,rfl,_,(by simp only [qb0,Aq,Zf]<;>rfl),rfl,kD⟩
 ·simp only [Sq,Zf,Zg];simp
end Go.Proofs.YtggndfefpbmaeaaGreatDoor.sto
namespace Go.Proofs.YtggndfefpbmaeaaGreatDoor.sto
open Go.Am
theorem PT:∃d,af.bp 77=some d∧cH d=false:=by
 have h:(af.bp 77).map cH=some false:=by kernel_rfl
 cases hq:af.bp 77 with
 |none=>rw [hq] at h;cases h
 |some d=>rw [hq] at h;exact⟨d,rfl,by simpa using h⟩
theorem FD:af.bp 79=some (.map 3 82):=by kernel_rfl
theorem rB:af.bp 121=some (.map 9 3):=by kernel_rfl
theorem gv:bO af 3= .ok (.int .i64 (0:Nat)):=by kernel_rfl
variable {b:Nat}
theorem AQ:ak af 81 (pw b 0) 0= .ok (pw b 0):=by kernel_rfl
theorem Ed:ak af 81 (pw b 0) 1= .ok (pw b 1):=by kernel_rfl
theorem AR:ak af 81 (pw b 0) 5= .ok (pw b 5):=by kernel_rfl
theorem M5:ak af 124 (pw b 0) 0= .ok (pw b 0):=by kernel_rfl
theorem qJ:ak af 124 (pw b 0) 1= .ok (pw b 1):=by kernel_rfl
theorem Cv:ak af 131 (pw b 0) 2= .ok (pw b 2):=by kernel_rfl
def numOf (ns:List (List UInt8)) (w:List UInt8):Nat:=((ns.findIdx? fun n=>decide (w=n)).map (·+1)).getD 0
variable {A:Mem} {mn c:Nat} {ns:List (List UInt8)} {w:List UInt8}
theorem A8 (h:A.get mn=some (.map (cU ns 0) c)):
 fS af A.get 121 (.map (some mn)) (strOf w) true= .ok (.tuple ⟨[.int .i64 (numOf ns w:Nat),.bool (decide (numOf ns w≠0))]⟩):=by
 have hk:ew af 9 (strOf w)=true:=by unfold ew;rw [u9];rfl
 unfold fS numOf;simp only [rB,hk,cond_true,iU,h,R.aw,uy,gv];cases ns.findIdx? fun n=>decide (w=n) with
 |none=>rfl
 |some i=>simp [qck]
theorem Gy {t:Operand}:wH af A.get .eql 77 t (.const (.pointer none)) (pw b 0) (.pointer none)= .ok (.bool false):=by kernel_rfl
variable {y:Value}
theorem OS {pf:Nat} {ml x:Value} (h:VB A 124 pf (.var 4) [ml,.map (some mn),x,y]) (hm:A.get mn=some (.map (cU ns 0) c)):
 bJ af 95 [pw pf 0,strOf w] A (.tuple ⟨[.int .i64 (numOf ns w:Nat),.bool (decide (numOf ns w≠0))]⟩) A:=by
 have l1:ai af A.get 121 (pw pf 1)= .ok (.map (some mn)):=h.ld rfl rB rfl;have l2:=A8 (w:=w) hm;refine aP (av Tryz.func95) (c:=Tryz.f95.body.getD .skip) (by kernel_rfl) (by rw [Tryz.ntmps95];simp) (by kernel_rfl) (by kernel_rfl) ?_;apply W.run 60
 ·intro M;simp (disch:=decide+kernel) only [Tryz.f95,Aq,Zf,bk,Gy,aA,aX,qJ,l1,eV,l2,Zm,Zk,aQ];rfl
 exact⟨by simp,rfl,rfl,by simp only [Tryz.f95,Aq,Zf,bk,Gy,aA,aX,qJ,l1,eV,l2,Zm,Zk,aQ]<;>rfl⟩
variable {p:Nat}
theorem KQ {mf q:Nat} {ps:List Nat} (h:A.get mf=some (.map (fh ps 0) c)) (hq:ps[q]?=some p):
 fS af A.get 79 (.map (some mf)) (.int .i64 (q+1:Nat)) false= .ok (pw p 0):=by
 have hk:ew af 3 (.int .i64 (q+1:Nat))=true:=by unfold ew;rw [u3]
 unfold fS;simp only [FD,hk,cond_true,iU,h,R.aw,uo q ps 0 0 (Zv _),qaA,hq];rfl
def fV (A:Mem) (p:Nat) (fs:List (List UInt8×List UInt8)):Prop:=
 ∃pf mf mn cf cn ps ml q st ar x y,VB A 81 p (.var 6) [.pointer (some ⟨pf,0,none⟩),.map (some mf),q,st,ar,.bool false]∧VB A 124 pf (.var 4) [ml,.map (some mn),x,y]∧
  (mn<A.next∧A.get mn=some (.map (cU (fs.map (·.1)) 0) cn))∧(mf<A.next∧A.get mf=some (.map (fh ps 0) cf))∧
  ∀(i:Nat) (s:List UInt8×List UInt8),fs[i]?=some s→∃b d a,ps[i]?=some b∧VB A 131 b (.var 3) [d,a,strOf s.2]
variable {A':Mem} {fs:List (List UInt8×List UInt8)}
theorem fV.kp (h:fV A p fs) (k:Kp A A'):fV A' p fs:=by
 obtain⟨pf,mf,mn,cf,cn,ps,ml,q,st,ar,x,y,h1,h2,⟨h3,h4⟩,⟨h5,h6⟩,h7⟩:=h;refine⟨pf,mf,mn,cf,cn,ps,ml,q,st,ar,x,y,h1.kp k,h2.kp k,⟨ZJ h3 k.1,by rw [k.2 _ h3,h4]⟩,⟨ZJ h5 k.1,by rw [k.2 _ h5,h6]⟩,fun i s hs=>?_⟩;obtain⟨b,d,a,e1,e2⟩:=h7 i s hs;exact⟨b,d,a,e1,e2.kp k⟩
def fileOf (fs:List (List UInt8×List UInt8)) (w:List UInt8):Option (List UInt8):=(fs.find? fun f=>decide (w=f.1)).map (·.2)
theorem sT (w:List UInt8):∀fs:List (List UInt8×List UInt8),(numOf (fs.map (·.1)) w=0∧fileOf fs w=none)∨∃i s,numOf (fs.map (·.1)) w=i+1∧fs[i]?=some s∧fileOf fs w=some s.2
 | []=>.inl ⟨rfl,rfl⟩
 |f::fs=>by
  unfold numOf fileOf;rw [qar,List.findIdx?_cons,List.find?_cons];by_cases h:w=f.1
  ·simp only [h,decide_true,if_true];exact .inr ⟨0,f,rfl,rfl,rfl⟩
  ·simp only [h,decide_false,Zz,if_false];rcases sT w fs with⟨h1,h2⟩|⟨i,s,h1,h2,h3⟩
   ·unfold numOf at h1;unfold fileOf at h2;refine .inl ⟨?_,h2⟩;cases hq:(fs.map (·.1)).findIdx? fun n=>decide (w=n) with
    |none=>rfl
    |some i=>rw [hq] at h1;simp at h1
   ·unfold numOf at h1;unfold fileOf at h3;refine .inr ⟨i+1,s,?_,h2,h3⟩;cases hq:(fs.map (·.1)).findIdx? fun n=>decide (w=n) with
    |none=>rw [hq] at h1;simp at h1
    |some j=>rw [hq] at h1;simp only [Z1,qal] at h1⊢;omega
theorem Cp {t:Operand}:wH af A.get .eql 44 t (.const (.pointer none)) (pw b 0) (.pointer none)= .ok (.bool false):=by kernel_rfl
theorem Q5 {t:Operand}:wH af A.get .eql 82 t (.const (.pointer none)) (pw b 0) (.pointer none)= .ok (.bool false):=by kernel_rfl
theorem S7 {t:Operand}:wH af A.get .eql 82 t (.const (.pointer none)) (.pointer none) (.pointer none)= .ok (.bool true):=by kernel_rfl
theorem OQ {a b c d e:Value} {z:Bool} (h:VB A 81 p (.var 6) [a,b,c,d,e,.bool z]):bJ af 73 [pw p 0] A (.bool z) A:=by
 have l1:ai af A.get 4 (pw p 5)= .ok (.bool z):=h.ld rfl u4 rfl;refine aP (av Tryz.func73) (c:=Tryz.f73.body.getD .skip) (by kernel_rfl) (by rw [Tryz.ntmps73];simp) (by kernel_rfl) (by kernel_rfl) ?_;apply W.run 60
 ·intro M;simp (config:={maxSteps:=4000000}) (disch:=first|decide+kernel|omega|simp only [Wq,Zf]) only [Tryz.f73,Aq,Zj,reduceIte,Zf,Zg,bk,Cp,aA,aX,AR,l1,aQ];rfl
 exact⟨by simp,rfl,rfl,by simp only [Tryz.f73,Aq,Zj,reduceIte,Zf,Zg,bk,Cp,aA,aX,AR,l1,aQ]<;>rfl⟩
def oH (ps:List Nat) (n:Nat):Value:=.pointer ((if n=0 then none else ps[n-1]?).map fun b=>⟨b,0,none⟩)
theorem run_read {pf mf cf cn:Nat} {ml q st ar x:Value} {ps:List Nat} (h1:VB A 81 p (.var 6) [pw pf 0,.map (some mf),q,st,ar,.bool false]) (h2:VB A 124 pf (.var 4) [ml,.map (some mn),x,y])
 (h3:A.get mn=some (.map (cU (fs.map (·.1)) 0) cn)) (h4:A.get mf=some (.map (fh ps 0) cf)) (h5:∀(i:Nat) (s:List UInt8×List UInt8),fs[i]?=some s→∃b,ps[i]?=some b):
 bJ af 54 [pw p 0,strOf w] A (.tuple ⟨[oH ps (numOf (fs.map (·.1)) w),.int .i64 ((if numOf (fs.map (·.1)) w=0 then 9 else 0:Nat):Int)]⟩) A:=by
 have l0:ai af A.get 77 (pw p 0)= .ok (pw pf 0):=by obtain⟨d,hd,ha⟩:=PT;exact h1.ld rfl hd ha
 have l1:ai af A.get 79 (pw p 1)= .ok (.map (some mf)):=h1.ld rfl FD rfl;have l5:ai af A.get 4 (pw p 5)= .ok (.bool false):=h1.ld rfl u4 rfl;obtain⟨g,hg⟩:=OS (w:=w) h2 h3;rcases sT w fs with⟨e1,-⟩|⟨i,s,e1,e2,-⟩
 ·rw [e1] at hg⊢;refine aP (av Tryz.func54) (c:=Tryz.f54.body.getD .skip) (by kernel_rfl) (by rw [Tryz.ntmps54];simp) (by kernel_rfl) (by kernel_rfl) ?_;apply W.bf (g) 60
  ·intro M hM;simp (disch:=first|decide+kernel|omega) only [Tryz.f54,Aq,Zf,bk,Cp,aA,aX,AQ,Ed,AR,l0,l1,l5,hg,Zm,Zk,aQ,oH,qcw];rfl
  exact⟨by simp,rfl,rfl,by simp only [Tryz.f54,Aq,Zf,bk,Cp,aA,aX,AQ,Ed,AR,l0,l1,l5,hg,Zm,Zk,aQ,oH,qcw]<;>rfl⟩
 ·rw [e1] at hg⊢;obtain⟨b,hb⟩:=h5 i s e2;have l2:=KQ h4 hb;refine aP (av Tryz.func54) (c:=Tryz.f54.body.getD .skip) (by kernel_rfl) (by rw [Tryz.ntmps54];simp) (by kernel_rfl) (by kernel_rfl) ?_;apply W.bf (g) 60
  ·intro M hM;simp (disch:=first|decide+kernel|omega) only [Tryz.f54,Aq,Zf,bk,Cp,aA,aX,AQ,Ed,AR,l0,l1,l5,hg,Zm,Zk,aQ,oH,eV,l2,qbU,qbC,hb,Z1];rfl
  exact⟨by simp,rfl,rfl,by simp only [Tryz.f54,Aq,Zf,bk,Cp,aA,aX,AQ,Ed,AR,l0,l1,l5,hg,Zm,Zk,aQ,oH,eV,l2,qbU,qbC,hb,Z1]<;>rfl⟩
theorem Li {d a:Value} {s:List UInt8} (h:VB A 131 b (.var 3) [d,a,strOf s]):bJ af 96 [pw b 0] A (strOf s) A:=by
 have l2:ai af A.get 9 (pw b 2)= .ok (strOf s):=h.ld rfl u9 rfl;refine aP (av Tryz.func96) (c:=Tryz.f96.body.getD .skip) (by kernel_rfl) (by rw [Tryz.ntmps96];simp) (by kernel_rfl) (by kernel_rfl) ?_;apply W.run 60
 ·intro M;simp (disch:=decide+kernel) only [Tryz.f96,Aq,Zf,bk,Q5,aA,aX,Cv,l2,aQ];rfl
 exact⟨by simp,rfl,rfl,by simp only [Tryz.f96,Aq,Zf,bk,Q5,aA,aX,Cv,l2,aQ]<;>rfl⟩
theorem Hg:bJ af 96 [.pointer none] A (strOf []) A:=by
 refine aP (av Tryz.func96) (c:=Tryz.f96.body.getD .skip) (by kernel_rfl) (by rw [Tryz.ntmps96];simp) (by kernel_rfl) (by kernel_rfl) ?_;apply W.run 60
 ·intro M;simp (disch:=decide+kernel) only [Tryz.f96,Aq,Zf,bk,S7,aQ];rfl
 exact⟨by simp,rfl,rfl,by simp only [Tryz.f96,Aq,Zf,bk,S7,aQ]<;>rfl⟩
theorem Jr {f:Value} {s:List UInt8} (h:bJ af 96 [f] A (strOf s) A):bJ af 55 [f] A (.int .i64 (s.length:Nat)) A:=by
 obtain⟨g,hg⟩:=h;have hl:=cd (tb:=af) (t:=9) (l:=s) u9;refine aP (av Tryz.func55) (c:=Tryz.f55.body.getD .skip) (by kernel_rfl) (by rw [Tryz.ntmps55];simp) (by kernel_rfl) (by kernel_rfl) ?_;apply W.bf (g) 60
 ·intro M hM;simp (disch:=first|decide+kernel|omega) only [Tryz.f55,Aq,Zf,hg,hl];rfl
 exact⟨by simp,rfl,rfl,by simp only [Tryz.f55,Aq,Zf,hg,hl]<;>rfl⟩
theorem Hs {d a:Value} {s:List UInt8} (h:VB A 131 b (.var 3) [d,a,strOf s]) (hs:s.length<1000000000000):
 bJ af 116 [pw b 0,.int .i64 (0:Nat),.int .i64 (s.length:Nat)] A (.tuple ⟨[strOf s,.int .i64 (0:Nat)]⟩) A:=by
 have l2:ai af A.get 9 (pw b 2)= .ok (strOf s):=h.ld rfl u9 rfl;have hl:=cd (tb:=af) (t:=9) (l:=s) u9;have s1:cP af 9 (strOf s) (some (.int .i64 (0:Nat))) none none= .ok (strOf s):=zx (n:=0) u9 (Zv _);have s2:cP af 9 (strOf s) none (some (.int .i64 (s.length:Nat))) none= .ok (strOf s):=by rw [oW u9 (Zn _),ZL]
 have m1:aL af .min [3,3] [.int .i64 (s.length:Nat),.int .i64 (s.length:Nat)]= .ok (.int .i64 (s.length:Nat)):=by rw [m_,Nat.min_self]
 refine aP (av Tryz.func116) (c:=Tryz.f116.body.getD .skip) (by kernel_rfl) (by rw [Tryz.ntmps116];simp) (by kernel_rfl) (by kernel_rfl) ?_;apply W.run 60
 ·intro M;simp (config:={maxSteps:=4000000}) (disch:=first|decide+kernel|omega|simp only [Wq,Zf]) only [Tryz.f116,Aq,Zj,reduceIte,Zf,Zg,bk,Q5,aA,aX,Cv,l2,aQ,hl,s1,s2,m1,bT,bA];rfl
 exact⟨by simp,rfl,rfl,by simp only [Tryz.f116,Aq,Zj,reduceIte,Zf,Zg,bk,Q5,aA,aX,Cv,l2,aQ,hl,s1,s2,m1,bT,bA]<;>rfl⟩
theorem zg (h:fV A p fs):
 bJ af 18 [pw p 0,strOf w] A (.tuple ⟨[.int .i64 ((((fileOf fs w).getD []).length:Nat):Int),.int .i64 (if(fileOf fs w).isSome then 0 else 9:Nat)]⟩) A:=by
 obtain⟨pf,mf,mn,cf,cn,ps,ml,q,st,ar,x,y,h1,h2,⟨-,h3⟩,⟨-,h4⟩,h5⟩:=h;obtain⟨g,hg⟩:=run_read (w:=w) h1 h2 h3 h4 fun i s hs=>(h5 i s hs).imp fun b hb=>hb.choose_spec.choose_spec.1
 rcases sT w fs with⟨e1,e2⟩|⟨i,s,e1,e2,e3⟩
 ·rw [e1] at hg;rw [e2];obtain⟨g',hg'⟩:=Jr (A:=A) Hg;refine aP (av Tryz.func18) (c:=Tryz.f18.body.getD .skip) (by kernel_rfl) (by rw [Tryz.ntmps18];simp) (by kernel_rfl) (by kernel_rfl) ?_;apply W.bf (g+g') 60
  ·intro M hM;simp (disch:=omega) only [Tryz.f18,Aq,Zf,hg,oH,if_true,qcw,hg',Zm,Zk,Option.getD_none,qaB,ZG];rfl
  exact⟨by simp,rfl,rfl,by simp only [Tryz.f18,Aq,Zf,hg,oH,if_true,qcw,hg',Zm,Zk,Option.getD_none,qaB,ZG]<;>rfl⟩
 ·rw [e1] at hg;rw [e3];obtain⟨b,d,a,hb,hf⟩:=h5 i s e2;obtain⟨g',hg'⟩:=Jr (Li hf);refine aP (av Tryz.func18) (c:=Tryz.f18.body.getD .skip) (by kernel_rfl) (by rw [Tryz.ntmps18];simp) (by kernel_rfl) (by kernel_rfl) ?_;apply W.bf (g+g') 60
  ·intro M hM;simp (disch:=omega) only [Tryz.f18,Aq,Zf,hg,oH,qbU,qbC,hb,Z1,hg',Zm,Zk,qal,qbW];rfl
  exact⟨by simp,rfl,rfl,by simp only [Tryz.f18,Aq,Zf,hg,oH,qbU,qbC,hb,Z1,hg',Zm,Zk,qal,qbW]<;>rfl⟩
theorem wh {s:List UInt8} (h:fV A p fs) (hw:fileOf fs w=some s) (hs:s.length<1000000000000):
 bJ af 75 [pw p 0,strOf w,.int .i64 (0:Nat),.int .i64 (s.length:Nat)] A (.tuple ⟨[strOf s,.int .i64 (0:Nat)]⟩) A:=by
 obtain⟨pf,mf,mn,cf,cn,ps,ml,q,st,ar,x,y,h1,h2,⟨-,h3⟩,⟨-,h4⟩,h5⟩:=h;obtain⟨g,hg⟩:=run_read (w:=w) h1 h2 h3 h4 fun i s hs=>(h5 i s hs).imp fun b hb=>hb.choose_spec.choose_spec.1
 rcases sT w fs with⟨e1,e2⟩|⟨i,s',e1,e2,e3⟩
 ·rw [e2] at hw;cases hw
 ·rw [e3] at hw;cases hw;rw [e1] at hg;obtain⟨b,d,a,hb,hf⟩:=h5 i s' e2;obtain⟨g',hg'⟩:=Hs hf hs;refine aP (av Tryz.func75) (c:=Tryz.f75.body.getD .skip) (by kernel_rfl) (by rw [Tryz.ntmps75];simp) (by kernel_rfl) (by kernel_rfl) ?_;apply W.bf (g+g') 60
  ·intro M hM;simp (disch:=first|decide+kernel|omega) only [Tryz.f75,Aq,Zf,hg,oH,qbU,qbC,hb,Z1,hg',Zm,Zk];rfl
  exact⟨by simp,rfl,rfl,by simp only [Tryz.f75,Aq,Zf,hg,oH,qbU,qbC,hb,Z1,hg',Zm,Zk]<;>rfl⟩
end Go.Proofs.YtggndfefpbmaeaaGreatDoor.sto
namespace Go.Proofs.YtggndfefpbmaeaaGreatDoor.sto
open Go.Am Go.Mdl Go.Sto
theorem XK:af.bp 48=some (.slice 5):=zN
theorem q5:aV af 5= .ok 1:=by kernel_rfl
def wq (A:Mem) (b:Nat) (l:List UInt8) (x:Value):Prop:=nZ A 5 b (ek l) x∧l.Pairwise (·<·)∧l.length≤256
variable {A B:Mem} {b:Nat}
theorem wq.kp {l:List UInt8} {x:Value} (h:wq A b l x) (k:Kp A B):wq B b l x:=⟨h.1.same k.1 (k.2 b),h.2⟩
theorem wq.len {l:List UInt8} {x:Value} (h:wq A b l x):aL af .len [48] [x]= .ok (.int .i64 (l.length:Nat)):=by
 have:=nZ.len (tb:=af) h.1 XK;rwa [en] at this
variable {i:Nat}
theorem wq.at {l:List UInt8} {x:Value} (h:wq A b l x) (hi:i<l.length):aW af 48 x (.int .i64 i)= .ok (pw b i)∧ai af A.get 5 (pw b i)= .ok (.int .u8 (l[i].toNat:Nat)):=
 ⟨nZ.idx h.1 XK q5 (by rw [en];exact hi),nZ.load (tb:=af) h.1 u5 rfl (by unfold ek;rw [ZH,Zi hi];rfl)⟩
variable {j:Nat}
theorem wq.le {l:List UInt8} {x:Value} (h:wq A b l x) (hij:i≤j) (hj:j<l.length):¬l[j].toNat<(l[i]'(by omega)).toNat:=by
 rcases ZS i j with hlt|hge
 ·have:=qb7.1 (qaK.1 h.2.1 i j (by omega) hj hlt);omega
 ·have:i=j:=by omega
  subst this;omega
variable {n:Nat}
theorem OO:bJ af 279 [.int .u8 n] A (.bool false) A:=by
 refine aP (av Tryz.func279) (c:=Tryz.f279.body.getD .skip) (by kernel_rfl) (by rw [Tryz.ntmps279];simp) (by kernel_rfl) (by kernel_rfl) ?_;apply W.run 60
 ·intro M;simp (disch:=decide+kernel) only [Tryz.f279,Aq,Zf];rfl
 exact⟨by simp,rfl,rfl,by simp only [Tryz.f279,Aq,Zf]<;>rfl⟩
theorem Lh {a:Nat}:bJ af 261 [.int .u8 a,.int .u8 b] A (.bool (decide (a<b))) A:=by
 obtain⟨g1,h1⟩:=OO (A:=A) (n:=a);refine aP (av Tryz.func261) (c:=Tryz.f261.body.getD .skip) (by kernel_rfl) (by rw [Tryz.ntmps261];simp) (by kernel_rfl) (by kernel_rfl) ?_;apply W.bf (g1) 60
 ·intro M hM;simp (config:={maxSteps:=4000000}) (disch:=first|decide+kernel|omega|simp only [Wq,Zf]) only [Tryz.f261,Aq,Zj,reduceIte,Zf,Zg,h1];rfl
 exact⟨by simp,rfl,rfl,by simp only [Tryz.f261,Aq,Zj,reduceIte,Zf,Zg,h1]<;>rfl⟩
theorem wq.less {l:List UInt8} {x:Value} (h:wq A b l x) (hij:i≤j) (hj:j<l.length):∃g,∀M,g≤M→bc af (exec af M) (.fn 261 [.int .u8 (l[j].toNat:Nat),.int .u8 (((l[i]'(by omega)).toNat:Nat):Int)]) A= .ok (.val (.bool false) A):=by
 have h1:=Lh (A:=A) (a:=l[j].toNat) (b:=(l[i]'(by omega)).toNat)
 rwa [decide_eq_false (h.le hij hj)] at h1
noncomputable def DS:Code:=qcU.body.getD .skip
noncomputable def jf:Code:=sub DS [1,0,0]
noncomputable def ME:Code:=sub jf [1,0,0,1,0,0]
theorem QR:qcU.body=some (.seq (sub DS [0]) (.block 0 (.loop jf))):=by kernel_rfl
theorem AK:jf=(.seq (sub jf [0]) (.seq (.block 1 (.seq (sub jf [1,0,0,0]) (.block 2 (.loop ME)))) (sub jf [1,1]))):=by kernel_rfl
theorem Lp {l:List UInt8} {x:Value} (h:wq A b l x):∃v A',bJ af 255 [x,.int .i64 (0:Nat),.int .i64 (l.length:Nat)] A v A'∧v=cQ∧A'=A:=by
 refine cM (av Tryz.func255) QR (by rw [Tryz.ntmps255];simp) (by kernel_rfl) (by kernel_rfl) ?_;have hl:=h.2.2;apply W.q
 ·intro M;simp (disch:=decide+kernel) only [DS,qcU,Aq,Zf];rfl
 apply W.block;refine W.up (l.length-1) (fun k t D=>D=A∧Sl t [(0,x),(1,.int .i64 (0:Nat)),(2,.int .i64 (l.length:Nat)),(6,.int .i64 (k+1:Nat))]) ?_ (Zv _) ⟨rfl,?_⟩
 ·rintro k t D hk ⟨rfl,g0,g1,g2,g6,-⟩;by_cases hlt:k+1<l.length
  ·obtain⟨i1,i2⟩:=h.at hlt;obtain⟨j1,j2⟩:=h.at (i:=k) (by omega);obtain⟨g,hg⟩:=h.less (i:=k) (j:=k+1) (by omega) hlt;have s1:aK .sub .i64 ((k+1:Nat):Int) ((1:Nat):Int)= .ok (.int .i64 (k:Nat)):=bm (by omega) (aR (by omega));have hz:0<k+1:=by omega
   rw [AK];apply W.q
   ·intro M;simp (disch:=decide+kernel) only [jf,DS,qcU,Aq,Zf,g2,g6,hlt];rfl
   apply W.seq;apply W.block;apply W.q
   ·intro M;simp (disch:=omega) only [jf,DS,qcU,Aq,Zf,g6];rfl
   apply W.block;apply W.round;apply W.bf (g) 20
   ·intro M hM;simp (config:={maxSteps:=4000000}) (disch:=first|decide+kernel|omega|simp only [Wq,Zf]) only [ME,jf,DS,qcU,Aq,Zj,reduceIte,Zf,Zg,g0,g1,g2,g6,bT,bA,hz,s1,i1,i2,j1,j2,hg,Fq,au []];rfl
   show W af (sub jf [1,1]) _ _;apply W.run 20
   ·intro M;simp (disch:=first|decide+kernel|omega) only [jf,DS,qcU,Aq,Zf,g6];rfl
   refine⟨by omega,_,_,rfl,rfl,?_⟩;simp only [Sq,Zf,Zg,g0,g1,g2]
  ·rw [AK];apply W.seq;apply W.run 20
   ·intro M;simp (disch:=decide+kernel) only [jf,DS,qcU,Aq,Zf,g2,g6,hlt];rfl
   exact⟨by simp,rfl,_,(by simp only [qcU,Aq,Zf]<;>rfl),rfl,rfl⟩
 ·simp only [Sq,Zf,Zg]
noncomputable def wz:Code:=qcy.body.getD .skip
noncomputable def jI:Code:=sub wz [1,1,0,1,0,0]
noncomputable def Gl:Code:=sub jI [1,0,0,0,0,0]
theorem QS:qcy.body=some (.seq (sub wz [0]) (.seq (sub wz [1,0]) (.seq (.seq (sub wz [1,1,0,0]) (.block 0 (.loop jI))) (sub wz [1,1,1])))):=by kernel_rfl
theorem Ke:jI=(.seq (sub jI [0]) (.seq (.block 1 (.seq (.block 2 (.loop Gl)) (.seq (sub jI [1,0,0,1,0]) (sub jI [1,0,0,1,1])))) (sub jI [1,1]))):=by kernel_rfl
theorem Lt {l:List UInt8} {x:Value} (h:wq A b l x) (h0:0<l.length):∃v A',bJ af 260 [x,.int .i64 (0:Nat),.int .i64 (l.length:Nat)] A v A'∧v= .bool true∧A'=A:=by
 refine cM (av Tryz.func260) QS (by rw [Tryz.ntmps260];simp) (by kernel_rfl) (by kernel_rfl) ?_;have hl:=h.2.2;apply W.q
 ·intro M;simp (disch:=omega) only [wz,qcy,Aq,Zf];rfl
 apply W.q
 ·intro M;simp (disch:=decide+kernel) only [wz,qcy,Aq,Zf];rfl
 apply W.seq;apply W.q
 ·intro M;simp (disch:=decide+kernel) only [wz,qcy,Aq,Zf];rfl
 apply W.block;apply W.round;rw [Ke];have h5:0<5:=by omega
 apply W.q
 ·intro M;simp (disch:=first|decide+kernel|omega) only [jI,wz,qcy,Aq,Zf,h5];rfl
 apply W.seq;apply W.block;apply W.seq;apply W.block;refine W.up (l.length-1) (fun k t D=>D=A∧Sl t [(0,x),(2,.int .i64 (l.length:Nat)),(7,.int .i64 (k+1:Nat))]) ?_ (Zv _) ⟨rfl,?_⟩
 ·rintro k t D hk ⟨rfl,g0,g2,g7,-⟩;by_cases hlt:k+1<l.length
  ·obtain⟨i1,i2⟩:=h.at hlt;obtain⟨j1,j2⟩:=h.at (i:=k) (by omega);obtain⟨g,hg⟩:=h.less (i:=k) (j:=k+1) (by omega) hlt;have s1:aK .sub .i64 ((k+1:Nat):Int) ((1:Nat):Int)= .ok (.int .i64 (k:Nat)):=bm (by omega) (aR (by omega));apply W.bf (g) 20
   ·intro M hM;simp (config:={maxSteps:=4000000}) (disch:=first|decide+kernel|omega|simp only [Wq,Zf]) only [Gl,jI,wz,qcy,Aq,Zj,reduceIte,Zf,Zg,g0,g2,g7,hlt,s1,i1,i2,j1,j2,hg,Fq,au []];rfl
   refine⟨by omega,_,_,rfl,rfl,?_⟩;simp only [Sq,Zf,Zg,g0,g2]
  ·have e:k+1=l.length:=by omega
   rw [e] at g7;apply W.run 20
   ·intro M;simp (config:={maxSteps:=4000000}) (disch:=first|decide+kernel|omega|simp only [Wq,Zf]) only [Gl,jI,wz,qcy,Aq,Zj,reduceIte,Zf,Zg,g0,g2,g7,qau,Fq,au []];rfl
   apply W.seq;apply W.run 20
   ·intro M;simp (disch:=decide+kernel) only [jI,wz,qcy,Aq,Zf,g2,g7];rfl
   exact⟨by simp,rfl,_,(by simp only [qcy,Aq,Zf]<;>rfl),rfl,rfl⟩
 ·simp only [Sq,Zf,Zg]
theorem Bu {q l:_} {x:Value} (h:wq A b l x) (hij:i≤j) (hj:j<l.length):bJ af 283 [x,.int .i64 i,.int .i64 j,q] A (.tuple ⟨[.int .i64 i,.int .i64 j]⟩) A:=by
 obtain⟨i1,i2⟩:=h.at hj;obtain⟨j1,j2⟩:=h.at (i:=i) (by omega);obtain⟨g,hg⟩:=h.less hij hj;refine aP (av Tryz.func283) (c:=Tryz.f283.body.getD .skip) (by kernel_rfl) (by rw [Tryz.ntmps283];simp) (by kernel_rfl) (by kernel_rfl) ?_;apply W.bf (g) 60
 ·intro M hM;simp (config:={maxSteps:=4000000}) (disch:=first|decide+kernel|omega|simp only [Wq,Zf]) only [Tryz.f283,Aq,Zj,reduceIte,Zf,Zg,i1,i2,j1,j2,hg,Fq,au []];rfl
 exact⟨by simp,rfl,rfl,by simp only [Tryz.f283,Aq,Zj,reduceIte,Zf,Zg,i1,i2,j1,j2,hg,Fq,au []]<;>rfl⟩
variable {k:Nat}
theorem ze {q l:_} {x:Value} (h:wq A b l x) (hij:i≤j) (hjk:j≤k) (hk:k<l.length):bJ af 278 [x,.int .i64 i,.int .i64 j,.int .i64 k,q] A (.int .i64 j) A:=by
 obtain⟨g1,h1⟩:=Bu (q:=q) h hij (by omega);obtain⟨g2,h2⟩:=Bu (q:=q) h hjk hk;refine aP (av Tryz.func278) (c:=Tryz.f278.body.getD .skip) (by kernel_rfl) (by rw [Tryz.ntmps278];simp) (by kernel_rfl) (by kernel_rfl) ?_;apply W.bf (g1+g2) 60
 ·intro M hM;simp (disch:=omega) only [Tryz.f278,Aq,Zf,h1,h2,Zm,Zk];rfl
 exact⟨by simp,rfl,rfl,by simp only [Tryz.f278,Aq,Zf,h1,h2,Zm,Zk]<;>rfl⟩
theorem rk {q l:_} {x:Value} (h:wq A b l x) (h1:1≤i) (hi:i+1<l.length):bJ af 277 [x,.int .i64 i,q] A (.int .i64 i) A:=by
 obtain⟨g,hg⟩:=ze (q:=q) (i:=i-1) (j:=i) (k:=i+1) h (by omega) (by omega) hi;have hl:=h.2.2;have s1:aK .sub .i64 ((i:Nat):Int) ((1:Nat):Int)= .ok (.int .i64 (i-1:Nat)):=bm (by omega) (aR (by omega));have a1:aK .add .i64 ((i:Nat):Int) ((1:Nat):Int)= .ok (.int .i64 (i+1:Nat)):=a8 (aR (by omega));refine aP (av Tryz.func277) (c:=Tryz.f277.body.getD .skip) (by kernel_rfl) (by rw [Tryz.ntmps277];simp) (by kernel_rfl) (by kernel_rfl) ?_;apply W.bf (g) 60
 ·intro M hM;simp (disch:=first|decide+kernel|omega) only [Tryz.f277,Aq,Zf,hg,s1,a1];rfl
 exact⟨by simp,rfl,rfl,by simp only [Tryz.f277,Aq,Zf,hg,s1,a1]<;>rfl⟩
theorem Ls {l:List UInt8} {x:Value} (h:wq A b l x) (h0:13≤l.length):∃m A',bJ af 258 [x,.int .i64 (0:Nat),.int .i64 (l.length:Nat)] A (.tuple ⟨[.int .i64 (m:Nat),.int .i64 (1:Nat)]⟩) A'∧Kp A A':=by
 have hl:=h.2.2;have kB:=Kp.alloc A (aa 3 [.int .i64 (0:Nat)]);have vB:=az A 3 [.int .i64 (0:Nat)];have hB:=h.kp kB;refine⟨l.length/4*2,A.alloc (aa 3 [.int .i64 (0:Nat)]),?_,kB⟩;generalize hBe:A.alloc (aa 3 [.int .i64 (0:Nat)])=B at kB vB hB;have lB:ai af B.get 3 (pw A.next 0)= .ok (.int .i64 (0:Nat)):=vB.ld rfl u3 rfl;obtain⟨g,hg⟩:=ze (q:=pV A.next) (i:=l.length/4) (j:=l.length/4*2) (k:=l.length/4*3) hB (by omega) (by omega) (by omega);obtain⟨g1,h1⟩:=rk (q:=pV A.next) (i:=l.length/4) hB (by omega) (by omega);obtain⟨g2,h2⟩:=rk (q:=pV A.next) (i:=l.length/4*2) hB (by omega) (by omega);obtain⟨g3,h3⟩:=rk (q:=pV A.next) (i:=l.length/4*3) hB (by omega) (by omega);have q1:∀c:Nat,c≤3→aK .mul .i64 ((l.length/4:Nat):Int) ((c:Nat):Int)= .ok (.int .i64 (l.length/4*c:Nat)):=fun c hc=>iE (aR (by have:l.length/4*c≤l.length/4*3:=Nat.mul_le_mul_left _ hc;omega))
 have m1:=q1 1 (by omega);have m2:=q1 2 (by omega);have m3:=q1 3 (by omega);rw [qaw] at m1;have a0:∀n:Nat,n<1000→aK .add .i64 ((0:Nat):Int) ((n:Nat):Int)= .ok (.int .i64 (n:Nat)):=fun n hn=>by rw [a8 (aR (by omega)),ZT]
 have a1:=a0 (l.length/4) (by omega);have a2:=a0 (l.length/4*2) (by omega);have a3:=a0 (l.length/4*3) (by omega);have h8:8≤l.length:=by omega
 simp only [pV] at*;by_cases h50:50≤l.length
 ·skip
  refine aP (av Tryz.func258) (c:=qdR.body.getD .skip) (by kernel_rfl) (by rw [Tryz.ntmps258];simp) (by kernel_rfl) (by kernel_rfl) ?_;apply W.bf (g+g1+g2+g3) 60
  ·intro M hM;simp (config:={maxSteps:=4000000}) (disch:=first|decide+kernel|omega|simp only [Wq,Zf]) only [qdR,Aq,Zj,reduceIte,Zf,Zg,gv,dc,qaA,hBe,m1,m2,m3,a1,a2,a3,bN,bj,h8,h50,hg,h1,h2,h3,lB];rfl
  exact⟨by simp,rfl,rfl,by simp only [qdR,Aq,Zj,reduceIte,Zf,Zg,gv,dc,qaA,hBe,m1,m2,m3,a1,a2,a3,bN,bj,h8,h50,hg,h1,h2,h3,lB]<;>rfl⟩
 ·skip
  refine aP (av Tryz.func258) (c:=qdR.body.getD .skip) (by kernel_rfl) (by rw [Tryz.ntmps258];simp) (by kernel_rfl) (by kernel_rfl) ?_;apply W.bf (g) 60
  ·intro M hM;simp (config:={maxSteps:=4000000}) (disch:=first|decide+kernel|omega|simp only [Wq,Zf]) only [qdR,Aq,Zj,reduceIte,Zf,Zg,gv,dc,qaA,hBe,m1,m2,m3,a1,a2,a3,bN,bj,h8,h50,hg,lB];rfl
  exact⟨by simp,rfl,rfl,by simp only [qdR,Aq,Zj,reduceIte,Zf,Zg,gv,dc,qaA,hBe,m1,m2,m3,a1,a2,a3,bN,bj,h8,h50,hg,lB]<;>rfl⟩
noncomputable def Gj:Code:=qdl.body.getD .skip
noncomputable def Gk:Code:=sub Gj [1,1,0,0]
theorem QQ:qdl.body=some (.seq (sub Gj [0]) (.seq (sub Gj [1,0]) (.block 0 (.loop Gk)))):=by kernel_rfl
variable {m:Nat}
theorem R_ {l:List UInt8} {x:Value} (h:wq A b l x) (hm:0<l.length→m≠0):∃v A',bJ af 251 [x,.int .i64 (0:Nat),.int .i64 (l.length:Nat),.int .i64 m] A v A'∧v=cQ∧Kp A A':=by
 refine cM (av Tryz.func251) QQ (by rw [Tryz.ntmps251];simp) (by kernel_rfl) (by kernel_rfl) ?_;have hl:=h.2.2;apply W.q
 ·intro M;simp (disch:=decide+kernel) only [Gj,qdl,Aq,Zf];rfl
 apply W.q
 ·intro M;simp (disch:=first|decide+kernel|omega) only [Gj,qdl,Aq,Zf];rfl
 apply W.block;apply W.round;by_cases h12:l.length≤12
 ·obtain⟨v,B,⟨g,hg⟩,rfl,rfl⟩:=Lp h;apply W.bf (g) 20
  ·intro M hM;simp (disch:=first|decide+kernel|omega) only [Gk,Gj,qdl,Aq,Zf,qaA,h12,hg];rfl
  exact⟨by simp,rfl,_,(by simp only [qdl,Aq,Zf]<;>rfl),rfl,Kp.refl _⟩
 ·obtain⟨p,B,⟨g,hg⟩,kB⟩:=Ls h (by omega);obtain⟨v,C,⟨g2,hg2⟩,rfl,rfl⟩:=Lt (h.kp kB) (by omega);have hm:=hm (by omega);apply W.bf (g+g2) 20
  ·intro M hM;simp (config:={maxSteps:=4000000}) (disch:=first|decide+kernel|omega|simp only [Wq,Zf]) only [Gk,Gj,qdl,Aq,Zj,reduceIte,Zf,Zg,qaA,h12,hg,hg2,hm,Zm,Zk,Fq,au []];rfl
  exact⟨by simp,rfl,_,(by simp only [qdl,Aq,Zf]<;>rfl),rfl,kB⟩
theorem mZ {l:List UInt8} (hl:(Zr l.length 256&&(qay 256).all fun i=>Zr (l.getD i 0).toNat (gz i))=true) (h:n<256):mY af 9 (strOf l) (.int .u8 n)= .ok (.int .u8 (gz n:Nat)):=uq hl h
theorem OY (hn:n≤256):∃m:Nat,(0<n→m≠0)∧bJ af 229 [.int .u64 n] A (.int .i64 m) A:=by
 have k1:¬4294967296≤n:=by omega
 have k2:¬65536≤n:=by omega
 by_cases h:n<256
 ·have k3:¬256≤n:=by omega
  have hb:=BY h;have hp:0<n→gz n≠0:=fun h=>by unfold gz;rw [if_neg (by omega)];omega
  have c1:=bx (tb:=af) (s:=103) (d:=5) (k:=.u64) (n:=n) (by rw [eK];rfl) u5 (jh h);have c2:=bx (tb:=af) (s:=5) (d:=3) (k:=.u8) (n:=gz n) (by rw [u5];rfl) u3 (aR (by omega));refine⟨gz n,hp,?_⟩;refine aP (av Tryz.func229) (c:=qcT.body.getD .skip) (by kernel_rfl) (by rw [Tryz.ntmps229];simp) (by kernel_rfl) (by kernel_rfl) ?_;apply W.run 60
  ·intro M;simp (disch:=first|decide+kernel|omega) only [qcT,Aq,Zf,bN,bj,k1,k2,k3,c1,c2,mZ,ZT];rfl
  exact⟨by simp,rfl,rfl,by simp only [qcT,Aq,Zf,bN,bj,k1,k2,k3,c1,c2,mZ,ZT]<;>rfl⟩
 ·have e:n=256:=by omega
  subst e;have c1:=bx (tb:=af) (s:=103) (d:=5) (k:=.u64) (n:=256>>>8) (by rw [eK];rfl) u5 (by rfl);have c2:=bx (tb:=af) (s:=5) (d:=3) (k:=.u8) (n:=gz (256>>>8)) (by rw [u5];rfl) u3 (by kernel_rfl);refine⟨8+gz (256>>>8),by omega,?_⟩;refine aP (av Tryz.func229) (c:=qcT.body.getD .skip) (by kernel_rfl) (by rw [Tryz.ntmps229];simp) (by kernel_rfl) (by kernel_rfl) ?_;apply W.run 60
  ·intro M;simp (disch:=decide+kernel) only [qcT,Aq,Zf,bN,bj,k1,k2,Zn,c1,c2,mZ,tp,ZT];rfl
  exact⟨by simp,rfl,rfl,by simp only [qcT,Aq,Zf,bN,bj,k1,k2,Zn,c1,c2,mZ,tp,ZT]<;>rfl⟩
theorem Vv:af.bp 326=some (.int .u64):=by kernel_rfl
theorem ON (hn:n≤256):∃m:Nat,(0<n→m≠0)∧bJ af 252 [.int .u64 n] A (.int .i64 m) A:=by
 obtain⟨m,hm,g,hg⟩:=OY (A:=A) hn;refine⟨m,hm,?_⟩;refine aP (av Tryz.func252) (c:=Tryz.f252.body.getD .skip) (by kernel_rfl) (by rw [Tryz.ntmps252];simp) (by kernel_rfl) (by kernel_rfl) ?_;apply W.bf (g) 60
 ·intro M hM;simp (disch:=omega) only [Tryz.f252,Aq,Zf,hg];rfl
 exact⟨by simp,rfl,rfl,by simp only [Tryz.f252,Aq,Zf,hg]<;>rfl⟩
theorem O9 {l:List UInt8} {x:Value} (h:wq A b l x):∃A',bJ af 243 [x] A cQ A'∧Kp A A':=by
 obtain⟨m,hm,g,hg⟩:=ON (A:=A) h.2.2;obtain⟨v,B,⟨g2,h2⟩,rfl,kB⟩:=R_ h hm;have hl:=h.2.2;have lx:=h.len;have cv:=bx (tb:=af) (s:=3) (d:=326) (k:=.i64) (n:=l.length) (by rw [u3];rfl) Vv (cJ (by omega));refine⟨B,?_,kB⟩;refine aP (av Tryz.func243) (c:=Tryz.f243.body.getD .skip) (by kernel_rfl) (by rw [Tryz.ntmps243];simp) (by kernel_rfl) (by kernel_rfl) ?_;apply W.bf (g+g2) 60
 ·intro M hM;simp (disch:=first|decide+kernel|omega) only [Tryz.f243,Aq,Zf,lx,cv,hg,h2];rfl
 exact⟨by simp,rfl,rfl,by simp only [Tryz.f243,Aq,Zf,lx,cv,hg,h2]<;>rfl⟩
end Go.Proofs.YtggndfefpbmaeaaGreatDoor.sto
end
