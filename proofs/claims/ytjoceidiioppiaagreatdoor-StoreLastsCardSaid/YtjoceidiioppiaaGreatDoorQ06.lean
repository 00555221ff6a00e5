/- The abstract machine, the walk of the law and its plain laws, made small by a program; part 6: no conditions but those in each theorem. -/
import Derived.Test.YtjoceidiioppiaaGreatDoorQ05
set_option maxHeartbeats 16000000
set_option maxRecDepth 100000
set_option linter.unusedSimpArgs false
set_option linter.unusedVariables false
noncomputable section
open Nat renaming reduceEqDiff→qal,reduceAdd→qam,le_refl→qao,ble→qaq,beq→qaw,blt→qax,zero_le→qaB,lt_of_lt_of_le→qaD,le_of_ble_eq_true→qaG,blt_eq→qaH,eq_of_beq_eq_true→qaL,le_trans→qaV,lt_or_ge→qaZ,add_zero→qa8,sub_self→qbq,min_eq_left→qbr,mod_lt→qbE,lt_succ_self→qbP,add_sub_cancel→qbW,sub_add_cancel→qce,beq_refl→qcJ,zero_mul→qcN,max_eq_right→qc5,min_eq_right→qc6,lt_irrefl→qdh,min_le_right→qdu,succ_ne_zero→qdv,add_one_ne_zero→qeb,lt_or_gt_of_ne→qeh
open List renaming getElem?_eq_getElem→qan,getElem?_eq_some_iff→qap,length_append→qar,length_map→qas,getElem?_cons_zero→qau,getElem?_cons_succ→qav,mem_cons_of_mem→qay,mem_cons_self→qaz,length_cons→qaA,take_succ_eq_append_getElem→qaC,length_take→qaE,getElem?_append_right→qaF,getElem?_append_left→qaJ,mem_cons→qaK,getElem?_map→qaN,length_eq_zero_iff→qaP,length_set→qaQ,take_length→qaR,length_singleton→qaS,length_nil→qaT,mem_singleton→qaY,mem_of_getElem?→qa0,mem_map→qa3,length_pos_iff→qa6,not_mem_nil→qbb,getElem?_eq_none→qbc,map_append→qbe,cons_append→qbf,getElem_mem→qbg,append_assoc→qbh,flatMap_cons→qbl,getElem?_take→qbm,pairwise_iff_getElem→qbs,append_nil→qbt,foldl_cons→qbu,nil_append→qbv,map_cons→qbx,getElem_of_mem→qbM,flatten_cons→qb3,findIdx?_eq_some_iff_getElem→qco,take_append_drop→qcx,take_zero→qcy,foldl_append→qcR,flatMap_append→qcY,getElem_map→qc2,nodup_nil→qc4,mem_flatMap→qds,nodup_append→qdR,findIdx?_eq_none_iff→qed,nodup_cons→qee,sum_append→qeE,take→qeM
open Bool renaming false_eq_true→qaI,and_eq_true→qaO
open Option.some renaming injEq→qaX,inj→qbo
open List.cons renaming injEq→qa4
open Option renaming map_some→qa5,getD_some→qbG
open Go.Proofs.Tryz renaming f85→qbQ,f190→qbS,f69→qb8,f176→qcA,f174→qc9,f22→qdM,f26→qdN,f67→qdP,f17→qej,f90→qeo,f66→qez,f184→qeO
open UInt8 renaming lt_iff_toNat_lt→qde,toNat_inj→qdf
namespace Go.Proofs.YtjoceidiioppiaaGreatDoor.sto
open Go.Am Go.Mdl Go.Sto
def iJ (A:Mem) (p ml mn b k la:Nat) (ns:List (List UInt8)):Prop:=∃x rows,VB A 201 p (.var 4) [.map (some ml),.map (some mn),x,.int .i64 la]∧(ml<A.next∧A.get ml=some (.map (bB (ns.take k) 0) k))∧(mn<A.next∧A.get mn=some (.map (bB ns 0) ns.length))∧ml≠mn∧
 az A 204 2 b rows x∧(rows=[]→x= .slice none 0 0)∧k+rows.length=ns.length∧∀(i:Nat) (w:List UInt8),ns[k+i]?=some w→∃t s,rows[i]?=some (ju Ay t s)∧VB A 3 t (.var 1) [.int .i64 (k+i+1:Nat)]∧VB A 9 s (.var 1) [aj w]
variable {A B:Mem} {p ml mn b k:Nat} {ns:List (List UInt8)}
theorem iJ.kp {la:Nat} (h:iJ A p ml mn b k la ns) (q:Kp A B):iJ B p ml mn b k la ns:=by
 obtain⟨x,rows,h1,⟨h2,h3⟩,⟨h4,h5⟩,h6,h7,h8,h9,h10⟩:=h;refine⟨x,rows,h1.kp q,⟨qaD h2 q.1,by rw [q.2 _ h2];exact h3⟩,⟨qaD h4 q.1,by rw [q.2 _ h4];exact h5⟩,h6,h7.same q.1 (q.2 b),h8,h9,fun i w hw=>?_⟩;obtain⟨t,s,e1,e2,e3⟩:=h10 i w hw;exact⟨t,s,e1,e2.kp q,e3.kp q⟩
variable {w:List UInt8}
theorem FF (h:iJ A p ml mn b k ns.length ns) (hw:w∉ns) (hl:0<w.length∧w.length≤64) (hn:ns.length<1000):
 ∃v A' b',bg af 76 [pV p,aj w] A v A'∧v= .tuple ⟨[.int .i64 (ns.length+1:Nat),.int .i64 (0:Nat)]⟩∧iJ A' p ml mn b' k (ns++[w]).length (ns++[w])∧A.next≤b'∧A.next≤A'.next∧∀z,z<A.next→z≠p→z≠mn→(k<ns.length→z≠b)→A'.get z=A.get z:=by
 obtain⟨x,rows,hV,⟨hml,hml'⟩,⟨hmn,hmn'⟩,hmm,hS,hx0,hrl,hR⟩:=h;have hpA:=hV.1;have hpm:p≠ml∧p≠mn:=⟨hV.gj hml',hV.gj hmn'⟩;have hrn:k<ns.length→rows≠ []:=fun h0 h=>by rw [h,qaT] at hrl;omega
 have hrn':∀{z:Nat},(k<ns.length→z≠b)→rows≠ []→z≠b:=fun h h0=>h (by have:=qa6.2 h0;omega)
 have kB:=Kp.alloc A (aa 9 [aj w]);have vB:=ay A 9 [aj w];have nB:(A.alloc (aa 9 [aj w])).next=A.next+1:=ae _ _
 generalize hB:A.alloc (aa 9 [aj w])=B at kB vB nB;have VB':=hV.kp kB;have lwB:ag af B.get 9 (.pointer (some ⟨A.next,0,none⟩))= .ok (aj w):=vB.ld rfl u9 rfl;have km:=fun ih=>Zo (ih:=ih) (A:=B) (w:=w)
 rw [decide_eq_true hl] at km;have lm:ag af B.get 199 (.pointer (some ⟨p,1,none⟩))= .ok (.map (some mn)):=VB'.ld rfl pj rfl;have lk:=A5 (A:=B) (w:=w) (ns:=ns) (c:=ns.length) (by rw [kB.2 _ hmn];exact hmn');have hno:numOf ns w=0:=by
  unfold numOf;rw [qed.2 (fun n hn=>by simpa using fun e:w=n=>hw (e▸hn))];rfl
 rw [hno] at lk;have lc:ag af B.get 3 (.pointer (some ⟨p,3,none⟩))= .ok (.int .i64 ns.length):=VB'.ld rfl u3 rfl;have a1:aM .add .i64 ((ns.length:Nat):Int) ((1:Nat):Int)= .ok (.int .i64 (ns.length+1:Nat)):=bf (aV (by omega));obtain⟨C,sC,vC,nC,fC⟩:=aL (tb:=af) (t:=3) (o:=3) (v:=.int .i64 (ns.length+1:Nat)) q_ VB'.2 (by simp) rfl rfl;have lcC:ag af C.get 3 (.pointer (some ⟨p,3,none⟩))= .ok (.int .i64 (ns.length+1:Nat)):=aQ u3 rfl vC rfl;have sD:aW af (C.alloc (aa 3 [.int .i64 (0:Nat)])) 3 (.pointer (some ⟨C.next,0,none⟩)) (.int .i64 (ns.length+1:Nat))= .ok (C.alloc (aa 3 [.int .i64 (ns.length+1:Nat)])):=eG q_ rfl rfl (by simp);have kD:=Kp.alloc C (aa 3 [.int .i64 (ns.length+1:Nat)]);have vD:=ay C 3 [.int .i64 (ns.length+1:Nat)];have nD:(C.alloc (aa 3 [.int .i64 (ns.length+1:Nat)])).next=C.next+1:=ae _ _
 generalize hD:C.alloc (aa 3 [.int .i64 (ns.length+1:Nat)])=D at kD vD nD;have ltD:ag af D.get 3 (.pointer (some ⟨C.next,0,none⟩))= .ok (.int .i64 (ns.length+1:Nat)):=vD.ld rfl u3 rfl;have fBD:∀z,z<B.next→z≠p→D.get z=B.get z:=fun z hz hp=>by rw [kD.2 z (by omega),fC z hp]
 have fAD:∀z,z<A.next→z≠p→D.get z=A.get z:=fun z hz hp=>by rw [fBD z (by omega) hp,kB.2 z hz]
 have VD:VB D 201 p (.var 4) [.map (some ml),.map (some mn),x,.int .i64 (ns.length+1:Nat)]:=⟨by omega,(show dw C 201 p (.var 4) [.map (some ml),.map (some mn),x,.int .i64 (ns.length+1:Nat)] from vC).same (kD.2 _ (by omega))⟩;have vsD:VB D 9 A.next (.var 1) [aj w]:=⟨by omega,vB.2.same (fBD _ (by omega) (by omega))⟩
 have hr0:=hx0;have hSD:az D 204 2 b rows x:=az.Zp hS hV (by decide) ⟨by omega,fun z hz hp=>fAD z hz hp⟩;have sE:aW af (D.alloc (aa 204 [.string .empty,.nilFunc])) 204 (.pointer (some ⟨D.next,0,none⟩)) (.agg ⟨ju Ay C.next A.next⟩)= .ok (D.alloc (aa 204 (ju Ay C.next A.next))):=bk IF rfl rfl (by simp) (by simp [ju,aJ,aj]);have kE:=Kp.alloc D (aa 204 (ju Ay C.next A.next));have vE:=ay D 204 (ju Ay C.next A.next);have nE:(D.alloc (aa 204 (ju Ay C.next A.next))).next=D.next+1:=ae _ _
 generalize hE:D.alloc (aa 204 (ju Ay C.next A.next))=E at sE kE vE nE;have VE:=VD.kp kE;have lxE:ag af E.get 198 (.pointer (some ⟨p,2,none⟩))= .ok x:=VE.ld rfl vQ rfl;have hSE:=hSD.same kE.1 (kE.2 b);have lenE:=az.len (tb:=af) hSE vQ;obtain⟨x1,hsl,hS1,hx1⟩:=Iu (tb:=af) (t:=198) hSE vQ IF (by omega) hr0;have lwE:ag af E.get 204 (.pointer (some ⟨D.next,0,none⟩))= .ok (.agg ⟨ju Ay C.next A.next⟩):=by
  obtain⟨d,hd1,hd2⟩:=a8 (t:=204) (p:=true) (by kernel_rfl);exact aI hd1 hd2 IF vE.2
 obtain⟨ti,t1,t2,t3⟩:=YE;have hS1':az (E.alloc (aa 204 (ju Ay C.next A.next))) 204 2 b rows x1:=hS1.same (by rw [ae];omega) fun h=>aB (by omega)
 obtain⟨x2,F,happ,hs3,hn3,hf3⟩:=az.append (tb:=af) (st:=198) (xt:=198) hS1' vQ vQ YT t1 t2 t3 (by omega) (by omega) (by omega) (ax E _) rfl (by simp [ju,aJ,aj]);rw [ae] at hs3 hn3 hf3;have keepF:∀z,z<E.next→(k<ns.length→z≠b)→F.get z=E.get z:=fun z hz hb=>by
  rw [hf3 z (fun e=>by
   by_cases h0:rows=[]
   ·exact hx1 (hx0 h0)
   ·exact absurd e (hrn' hb h0)) (by omega),aB (by omega)]
 have hpb:k<ns.length→p≠b:=fun h0=>az.vo hS hV (by decide) (hrn h0)
 obtain⟨G,sG,vG,nG,fG⟩:=aL (tb:=af) (t:=198) (o:=2) (v:=x2) J5 (VE.2.same (keepF p (by omega) hpb)) (by simp) (az.dk hs3).1 (az.dk hs3).2;have keepG:∀z,z<E.next→z≠p→(k<ns.length→z≠b)→G.get z=E.get z:=fun z hz hp hb=>by rw [fG z hp,keepF z hz hb]
 have hbt:∀z (e:TypeId) (kd:Kd) (l:List Value),VB D e z kd l→e≠204→(k<ns.length→z≠b):=fun z e kd l hz he h0=>az.vo hSD hz he (hrn h0)
 have vtG:VB G 3 C.next (.var 1) [.int .i64 (ns.length+1:Nat)]:=⟨by omega,vD.2.same (by rw [keepG _ (by omega) (by omega) (hbt _ _ _ _ vD (by decide)),kE.2 _ (by omega)])⟩
 have vsG:VB G 9 A.next (.var 1) [aj w]:=⟨by omega,vsD.2.same (by rw [keepG _ (by omega) (by omega) (hbt _ _ _ _ vsD (by decide)),kE.2 _ (by omega)])⟩
 have hbm:∀(m:Nat) (es:List MapEntry) (c:Nat),D.get m=some (.map es c)→(k<ns.length→m≠b):=fun m es c hm h0=>az.gj hSD hm (hrn h0)
 have hmnD:D.get mn=some (.map (bB ns 0) ns.length):=by rw [fAD mn hmn (Ne.symm hpm.2)];exact hmn'
 have hmlD:D.get ml=some (.map (bB (ns.take k) 0) k):=by rw [fAD ml hml (Ne.symm hpm.1)];exact hml'
 have hmnG:G.get mn=some (.map (bB ns 0) ns.length):=by rw [keepG mn (by omega) (Ne.symm hpm.2) (hbm _ _ _ hmnD),kE.2 _ (by omega)];exact hmnD
 have hmlG:G.get ml=some (.map (bB (ns.take k) 0) k):=by rw [keepG ml (by omega) (Ne.symm hpm.1) (hbm _ _ _ hmlD),kE.2 _ (by omega)];exact hmlD
 have lfG:ag af G.get 202 (.pointer (some ⟨D.next,0+1,none⟩))= .ok (.func (.func 134) ⟨[]⟩ ⟨[pV C.next,pV A.next]⟩):=by
  obtain⟨d,hd,ha⟩:=Ql;exact aQ hd ha (vE.2.same (keepG D.next (by omega) (by omega) (fun h0 e=>by
   have:=o0 hSD (hrn h0);omega))) rfl
 have VG:VB G 201 p (.var 4) [.map (some ml),.map (some mn),x2,.int .i64 (ns.length+1:Nat)]:=⟨by omega,vG⟩;have lmG:ag af G.get 199 (.pointer (some ⟨p,1,none⟩))= .ok (.map (some mn)):=VG.ld rfl pj rfl;obtain⟨g1,h1⟩:=Pw (k:=0) hmnG hw vtG vsG;generalize hH:G.set mn (.map (bB (ns++[w]) 0) (ns++[w]).length)=H at h1;have nH:H.next=G.next:=by rw [←hH];exact aO _ _ _
 have fH:∀z,z≠mn→H.get z=G.get z:=fun z hz=>by rw [←hH,dH,if_neg hz]
 have hdo:bg af 133 [pV p,aj Ay,.func (.func 134) ⟨[]⟩ ⟨[pV C.next,pV A.next]⟩] D (.int .i64 (0:Nat)) H:=by
  simp only [pV] at*;refine aT (g1) 60 (aq Tryz.func133) (by kernel_rfl) fun M hM=>?_
  simp (config:={maxSteps:=4000000}) (disch:=first|decide+kernel|omega|simp only [Wq,qal]) only [Tryz.f133,Aq,qaq,reduceIte,qal,qam,Xi,Kr,au,hE,sE,ak,aF,xw,CP,lxE,lenE,hsl,lwE,Xs,happ,sG,NT,lfG,lmG,h1,Fq,aA []]<;>rfl
 obtain⟨g2,h2⟩:=hdo;have ltH:ag af H.get 3 (.pointer (some ⟨C.next,0,none⟩))= .ok (.int .i64 (ns.length+1:Nat)):=VB.ld (tb:=af) ⟨by have:=vD.1;omega,vD.2.same (by rw [fH C.next (vD.gj hmnD),keepG C.next (by have:=vD.1;omega) (vD.ne VD (by decide)) (hbt _ _ _ _ vD (by decide)),kE.2 _ vD.1])⟩ rfl u3 rfl;have sn:=eS .i64 (ns.length+1) rfl;refine⟨_,H,E.next+1,?_,rfl,⟨x2,rows++[ju Ay C.next A.next],⟨by omega,?_⟩,⟨by omega,?_⟩,⟨by omega,?_⟩,hmm,?_,fun h=>by simp at h,by rw [qar,qar,←hrl];rfl,fun i u hu=>?_⟩,by omega,by omega,fun z hz hp hm hb=>?_⟩
 ·simp only [pV] at*;have hcr:∀t:T Value,ev t (.const (.string ⟨#[99,114,101,97,116,101]⟩))= .ok (aj Ay):=fun t=>rfl
  refine aT (g2) 60 (aq Tryz.func76) (by kernel_rfl) fun M hM=>?_
  simp (config:={maxSteps:=4000000}) (disch:=first|decide+kernel|omega|simp only [Wq,qal]) only [Tryz.f76,Aq,qaq,reduceIte,qal,qam,hB,bW,NL,bc,ak,aF,lwB,km,xw,UN,lm,fS,lk,qau,qav,lc,a1,sC,lcC,qA,hD,sD,ltD,ltH,sn,yE,aY,hcr,h2,Fq,aA [],aA [(0,3)]]<;>rfl
 ·rw [qar];exact vG.same (fH p hpm.2)
 ·rw [fH ml hmm,List.take_append_of_le_length (by omega)];exact hmlG
 ·rw [←hH,dH,if_pos rfl]
 ·have e1:az G 204 2 (E.next+1) (rows++[ju Ay C.next A.next]) x2:=hs3.same (by omega) fun _=>fG _ (by omega)
  exact e1.same (by omega) fun _=>fH _ (by omega)
 ·rcases qaZ (k+i) ns.length with hi|hi
  ·rw [qaJ hi] at hu;obtain⟨t,s,e1,e2,e3⟩:=hR i u hu;have q1:VB D 3 t (.var 1) [.int .i64 (k+i+1:Nat)]:=⟨by have:=e2.1;omega,e2.2.same (fAD t e2.1 (e2.ne hV (by decide)))⟩;have q2:VB D 9 s (.var 1) [aj u]:=⟨by have:=e3.1;omega,e3.2.same (fAD s e3.1 (e3.ne hV (by decide)))⟩;have ht1:∀(e:TypeId) (z:Nat) (kd:Kd) (l:List Value),VB D e z kd l→e≠204→e≠201→VB H e z kd l:=fun e z kd l hz he he2=>⟨by have:=hz.1;omega,hz.2.same (by
    rw [fH z (hz.gj hmnD),keepG z (by have:=hz.1;omega) (hz.ne VD he2) (hbt z e kd l hz he),kE.2 _ hz.1])⟩
   exact⟨t,s,by rw [qaJ (by omega)];exact e1,ht1 _ _ _ _ q1 (by decide) (by decide),ht1 _ _ _ _ q2 (by decide) (by decide)⟩
  ·rw [qaF hi] at hu;cases hq:k+i-ns.length with
   |succ n=>rw [hq] at hu;simp at hu
   |zero=>
    rw [hq] at hu;cases hu;have e:i=rows.length:=by omega
    subst e;rw [hrl];exact⟨C.next,A.next,by rw [qaF (by omega),qbq];rfl,⟨by omega,vtG.2.same (fH _ (by omega))⟩,⟨by omega,vsG.2.same (fH _ (by omega))⟩⟩
 ·rw [fH z hm,keepG z (by omega) hp hb,kE.2 z (by omega),fAD z hz hp]
variable {n:Nat}
theorem sq {la:Nat} (h:iJ A p ml mn b k la ns) (hnd:ns.Nodup) (hn:ns.length<1000):
 ∃v A' mk,bg af 66 [pV p,.int .i64 n] A v A'∧v= .tuple ⟨[]⟩∧iJ A' p ml mk b (k+min n (ns.length-k)) la (ns.take (k+min n (ns.length-k)))∧A.next≤mk∧A.next≤A'.next∧∀z,z<A.next→z≠p→z≠ml→A'.get z=A.get z:=by
 obtain⟨x,rows,hV,⟨hml,hml'⟩,⟨hmn,hmn'⟩,hmm,hS,hx0,hrl,hR⟩:=h;have hpm:=hV.gj hml';have lx:ag af A.get 198 (pw p 2)= .ok x:=hV.ld rfl vQ rfl;have lenx:=az.len (tb:=af) hS vQ;generalize hm:min n (ns.length-k)=m;have hmr:m≤rows.length:=by omega
 have mn1:aN af .min [3,3] [.int .i64 n,iN rows.length]= .ok (.int .i64 m):=by rw [Am.nj,←hm];congr 3;omega
 have mx1:aN af .max [3,3] [iN 0,.int .i64 m]= .ok (.int .i64 m):=by rw [Am.max_i64,qc5 (qaB _)]
 obtain⟨x1,hsl,hS1⟩:=iK.cut (tb:=af) (t:=198) (m:=m) (hS.BR (by omega)) vQ IF hmr;have len1:=iK.len (tb:=af) hS1 vQ;rw [qaE,qbr hmr] at len1
 suffices hW:∃v A',bg af 66 [pV p,.int .i64 n] A v A'∧v= .tuple ⟨[]⟩∧∃mk,iJ A' p ml mk b (k+m) la (ns.take (k+m))∧A.next≤mk∧A.next≤A'.next∧∀z,z<A.next→z≠p→z≠ml→A'.get z=A.get z by
  obtain⟨v,A',h1,h2,mk,h3⟩:=hW;exact⟨v,A',mk,h1,h2,h3⟩
 refine cF (aq Tryz.func66) Ux (by kernel_rfl) ?_;simp only [pV];apply W.q
 ·intro M;simp (disch:=first|decide+kernel|omega) only [Rt,qez,Aq,qal,bW,NL,bc];rfl
 apply W.seq;apply W.q
 ·intro M;simp (config:={maxSteps:=4000000}) (disch:=first|decide+kernel|omega|simp only [Wq,qal]) only [Rt,qez,Aq,qaq,reduceIte,qal,qam,ak,aF,CP,lx,lenx,mn1,mx1,hsl,len1,Fq,aA []];rfl
 apply W.block;refine W.up m (fun i t D=>(A.next≤D.next∧∀z,z<A.next→z≠ml→D.get z=A.get z)∧D.get ml=some (.map (bB (ns.take (k+i)) 0) (k+i))∧Sl t [(0,pw p 0),(20,x1),(21,.int .i64 m),(22,.int .i64 i)]) ?_ (qaB _) ⟨⟨qao _,fun _ _ _=>rfl⟩,hml',?_⟩
 ·rintro i t D hi ⟨⟨kn,kf⟩,hmD,g0,g20,g21,g22,-⟩;by_cases hlt:i<m
  ·have hni:ns[k+i]?=some (ns[k+i]'(by omega)):=qan (by omega)
   obtain⟨tt,ss,e1,e2,e3⟩:=hR i _ hni;have hS1D:iK D 204 2 b (rows.take m) x1:=hS1.same kn fun hl=>kf b hl (Ne.symm (az.gj hS hml' (fun e=>by rw [e] at e1;simp at e1)))
   have j1:=iK.idx (tb:=af) (t:=198) (i:=i) (kd:=.i64) hS1D vQ IF (by rw [qaE];omega);obtain⟨d,hd1,hd2⟩:=a8 (t:=204) (p:=true) (by kernel_rfl);have j2:=iK.aI (tb:=af) (t:=204) hS1D hd1 hd2 IF (by rw [qbm,if_pos hlt];exact e1);generalize ns[k+i]'(by omega)=w at*
   have sE:aW af (D.alloc (aa 204 [.string .empty,.nilFunc])) 204 (pw D.next 0) (.agg ⟨ju Ay tt ss⟩)= .ok (D.alloc (aa 204 (ju Ay tt ss))):=bk IF rfl rfl (by simp) (by simp [ju,aJ,aj]);have kE:=Kp.alloc D (aa 204 (ju Ay tt ss));have vE:=ay D 204 (ju Ay tt ss);have nE:(D.alloc (aa 204 (ju Ay tt ss))).next=D.next+1:=ae _ _
   generalize D.alloc (aa 204 (ju Ay tt ss))=E at sE kE vE nE;have lf:ag af E.get 202 (pw D.next (0+1))= .ok (.func (.func 134) ⟨[]⟩ ⟨[pV tt,pV ss]⟩):=by
    obtain⟨d,hd,ha⟩:=Ql;exact vE.ld rfl hd ha
   have fAE:∀z,z<A.next→z≠ml→E.get z=A.get z:=fun z hz hm=>by rw [kE.2 z (by omega),kf z hz hm]
   have lm:ag af E.get 199 (pw p 0)= .ok (.map (some ml)):=VB.ld (tb:=af) ⟨by have:=hV.1;omega,hV.2.same (fAE p hV.1 hpm)⟩ rfl pj rfl;have hmE:E.get ml=some (.map (bB (ns.take (k+i)) 0) (k+i)):=by rw [kE.2 ml (by omega)];exact hmD
   have htE:ag af E.get 3 (pw tt 0)= .ok (iN (k+i+1)):=VB.ld (tb:=af) ⟨by have:=e2.1;omega,e2.2.same (fAE tt e2.1 (e2.gj hml'))⟩ rfl u3 rfl;have hsE:ag af E.get 9 (pw ss 0)= .ok (aj w):=VB.ld (tb:=af) ⟨by have:=e3.1;omega,e3.2.same (fAE ss e3.1 (e3.gj hml'))⟩ rfl u9 rfl;have hupE:=Mz (A:=E) (mn:=ml) hni hnd hmE;generalize hF:E.set ml (.map (bB (ns.take (k+i+1)) 0) (k+i+1))=F at hupE;have nF:F.next=E.next:=by rw [←hF];exact aO _ _ _
   have hact:bg af 134 [.map (some ml),pV tt,pV ss] E (.tuple ⟨[]⟩) F:=by
    simp only [pV];refine bm 60 (aq Tryz.func134) (by kernel_rfl) fun M=>?_
    simp (disch:=first|decide+kernel|omega) only [Tryz.f134,Aq,qal,htE,hsE,fi,hupE,bL]<;>rfl
   obtain⟨g,hg⟩:=hact;simp only [pV] at hg lf;apply W.cN (g) 20
   ·intro M hM;simp (config:={maxSteps:=4000000}) (disch:=first|decide+kernel|omega|simp only [Wq,qal]) only [Nm,Rt,qez,Aq,qaq,reduceIte,qal,qam,g0,g20,g21,g22,hlt,j1,j2,Kr,au,sE,NT,lf,ak,aF,NR,lm,hg,Fq,aA []];rfl
   refine⟨hlt,_,F,rfl,⟨by omega,fun z hz hm=>by rw [←hF,dH,if_neg hm,fAE z hz hm]⟩,by rw [←hF,dH,if_pos rfl];rfl,?_⟩;simp only [Sq,qal,qam,g0,g20,g21]
  ·have e:i=m:=by omega
   subst e;have VD:VB D 201 p (.var 4) [.map (some ml),.map (some mn),x,.int .i64 la]:=⟨by have:=hV.1;omega,hV.2.same (kf p hV.1 hpm)⟩;have lm:ag af D.get 199 (pw p 0)= .ok (.map (some ml)):=VD.ld rfl pj rfl;obtain⟨g,hg⟩:=LN hmD;have kE:=Kp.alloc D (.map (bB (ns.take (k+i)) 0) (k+i));have hmk:(D.alloc (.map (bB (ns.take (k+i)) 0) (k+i))).get D.next=some (.map (bB (ns.take (k+i)) 0) (k+i)):=ax _ _
   have nE:(D.alloc (.map (bB (ns.take (k+i)) 0) (k+i))).next=D.next+1:=ae _ _
   generalize D.alloc (.map (bB (ns.take (k+i)) 0) (k+i))=E at hg kE hmk nE;have hpD:=VD.1;have hmlD:ml<D.next:=by omega
   obtain⟨F,sF,vF,nF,fF⟩:=aL (tb:=af) (t:=198) (o:=2) (v:=.slice none 0 0) J5 (VD.2.same (kE.2 _ hpD)) (by simp) rfl rfl;obtain⟨G,sG,vG,nG,fG⟩:=aL (tb:=af) (t:=199) (o:=1) (v:=.map (some D.next)) S7 vF (by simp) rfl rfl;apply W.run 20
   ·intro M;simp (disch:=first|decide+kernel|omega) only [Nm,Rt,qez,Aq,qal,g21,g22];rfl
   apply W.cN (g) 20
   ·intro M hM;simp (disch:=first|decide+kernel|omega) only [Rt,qez,Aq,qal,g0,ak,aF,NR,xw,CP,lm,hg,sF,sG];rfl
   have htl:(ns.take (k+i)).length=k+i:=by rw [qaE];omega
   refine⟨by simp,rfl,_,(by simp only [qez,Aq,qal]<;>rfl),rfl,D.next,⟨.slice none 0 0,[],⟨by show p<G.next;omega,vG⟩,⟨by show ml<G.next;omega,?_⟩,⟨by show D.next<G.next;omega,?_⟩,by omega,az.nil _ _ _ _,fun _=>rfl,by rw [htl];rfl,fun j w hw=>?_⟩,kn,by show A.next≤G.next;omega,fun z hz hp hm=>?_⟩
   ·show G.get ml=_;rw [fG ml (Ne.symm hpm),fF ml (Ne.symm hpm),kE.2 ml hmlD,List.take_take,Nat.min_self];exact hmD
   ·show G.get D.next=_
    rw [fG _ (by omega),fF _ (by omega),htl];exact hmk
   ·rw [qbc (by rw [htl];omega)] at hw;cases hw
   ·show G.get z=A.get z;rw [fG z hp,fF z hp,kE.2 z (by omega),kf z hz hm]
 ·simp only [Sq,qal,qam]
def oz (A:Mem) (f:Nat) (d:List UInt8) (a:Value) (s:List UInt8):Prop:=VB A 162 f (.var 3) [aj d,a,aj s]
def Ah (q:Nat):Value:=.func (.func 155) ⟨[]⟩ ⟨[pV q]⟩
theorem I9:av af 162 (pw b 0) 0= .ok (pw b 0):=by kernel_rfl
theorem pG:av af 162 (pw b 0) 1= .ok (pw b 1):=by kernel_rfl
theorem z8:af.ba 160=some (.slice 213):=by kernel_rfl
theorem J7:aR af 160= .ok 1:=by kernel_rfl
theorem rb:aR af 9= .ok 1:=by kernel_rfl
variable {m:Nat}
theorem uR:bg af 129 [.int .i64 n,iN 0,.int .i64 m] A (iN (min n m)) A:=by
 have m1:aN af .min [3,3] [.int .i64 n,.int .i64 m]= .ok (iN (min n m)):=Am.nj;have m2:aN af .max [3,3] [iN 0,iN (min n m)]= .ok (iN (min n m)):=by rw [Am.max_i64,qc5 (qaB _)]
 refine bm 60 (aq Tryz.func129) (by kernel_rfl) fun M=>?_
 simp (disch:=first|decide+kernel|omega) only [Tryz.f129,Aq,qal,m1,m2]<;>rfl
theorem FL {s:List UInt8} {q:Nat} (h:VB A 9 q (.var 1) [aj w]) (hl:s.length+w.length<1000000):bg af 155 [aj s,.int .i64 n,pV q] A (aj (s++w.take (min n w.length))) A:=by
 have l1:ag af A.get 9 (pw q 0)= .ok (aj w):=h.ld rfl u9 rfl;have ll:=cP (tb:=af) (t:=9) (l:=w) u9;obtain⟨g,hg⟩:=uR (A:=A) (n:=n) (m:=w.length);have s1:=mP (tb:=af) (t:=9) (l:=w) (k:=.i64) (n:=min n w.length) u9 (qdu _ _);have ad:fb .add s (w.take (min n w.length))= .ok (aj (s++w.take (min n w.length))):=sU (by rw [qaE];omega);simp only [pV];refine aT (g) 60 (aq Tryz.func155) (by kernel_rfl) fun M hM=>?_
 simp (config:={maxSteps:=4000000}) (disch:=first|decide+kernel|omega|simp only [Wq,qal]) only [Tryz.f155,Aq,qaq,reduceIte,qal,qam,l1,ll,hg,s1,ad,Fq,aA [(1,5)],pU]<;>rfl
theorem yS {f:Nat} {d s:List UInt8} {a:Value} (h:oz A f d a s):∃v A',bg af 130 [pV f,aj w] A v A'∧v=bL∧oz A' f w (.slice none 0 0) w∧A'.next=A.next∧∀z,z≠f→A'.get z=A.get z:=by
 obtain⟨B,s1,v1,n1,f1⟩:=aL (tb:=af) (t:=9) (o:=0) (v:=aj w) rb h.2 (by simp) rfl rfl;obtain⟨C,s2,v2,n2,f2⟩:=aL (tb:=af) (t:=9) (o:=2) (v:=aj w) rb v1 (by simp) rfl rfl;obtain⟨D,s3,v3,n3,f3⟩:=aL (tb:=af) (t:=160) (o:=1) (v:=.slice none 0 0) J7 v2 (by simp) rfl rfl;refine⟨bL,D,?_,rfl,⟨by have:=h.1;omega,v3⟩,by omega,fun z hz=>by rw [f3 z hz,f2 z hz,f1 z hz]⟩;simp only [pV];refine bm 60 (aq Tryz.func130) (by kernel_rfl) fun M=>?_
 simp (disch:=first|decide+kernel|omega) only [Tryz.f130,Aq,qal,ak,aF,I9,pG,xx,s1,s2,s3,bL]<;>rfl
theorem L0 {f:Nat} {d s:List UInt8} {a:Value} (h:oz A f d a s):∃v A',bg af 93 [pV f] A v A'∧v=iN 0∧oz A' f s (.slice none 0 0) s∧A'.next=A.next∧∀z,z≠f→A'.get z=A.get z:=by
 obtain⟨v,B,⟨g,hg⟩,rfl,hB⟩:=yS (w:=s) h;have l2:ag af A.get 9 (pw f 2)= .ok (aj s):=h.ld rfl u9 rfl;refine⟨_,B,?_,rfl,hB⟩;simp only [pV] at*;refine aT (g) 60 (aq Tryz.func93) (by kernel_rfl) fun M hM=>?_
 simp (disch:=first|decide+kernel|omega) only [Tryz.f93,Aq,qal,bW,NM,bc,ak,aF,xx,l2,hg]<;>rfl
theorem FP {x:Value} (h:az A 9 1 b [[aj w]] x):bg af 89 [x,aj []] A (aj w) A:=by
 have Qj:af.ba 91=some (.slice 9):=by kernel_rfl
 have ll:=az.len (tb:=af) h Qj;have j1:=az.idx (tb:=af) (t:=91) (i:=0) (kd:=.i64) h Qj (by kernel_rfl) (by simp);have j2:=az.load (tb:=af) (t:=9) (j:=0) h u9 rfl (show [[aj w]][0]?=some [aj w] from rfl) rfl (by omega);refine bm 60 (aq Tryz.func89) (by kernel_rfl) fun M=>?_
 simp (disch:=first|decide+kernel|omega) only [Tryz.f89,Aq,qal,ll,j1,j2,qaA,qaT]<;>rfl
theorem YM:∃d,af.ba 213=some d∧bQ d=false:=a8 (by kernel_rfl)
theorem YV:cm af 213= .ok (1,[.nilFunc]):=by kernel_rfl
theorem YG:∃i,af.ty.get 213=some i∧0<i.bytes∧i.bytes≤65536:=by
 have h:(af.ty.get 213).map (fun i=>qax 0 i.bytes&&qaq i.bytes 65536)=some true:=by kernel_rfl
 cases hq:af.ty.get 213 with
 |none=>rw [hq] at h;cases h
 |some i=>
  rw [hq] at h;simp only [qa5,qaX,qaO,qaH] at h;exact⟨i,rfl,h.1,qaG h.2⟩
theorem Xu {q:Nat}:a6 af 160 1 [(0,Ah q)]= .ok (aa 213 [Ah q],.mO 1 2):=by kernel_rfl
theorem Pp:bg af 205 [.slice none 0 0] A (.slice none 0 0) A:=by
 have l1:aN af .len [160] [.slice none 0 0]= .ok (iN 0):=eu z8;have s1:c6 af 160 (.slice none 0 0) none (some (iN 0)) (some (iN 0))= .ok (.slice none 0 0):=by kernel_rfl
 refine bm 60 (aq Tryz.func205) (by kernel_rfl) fun M=>?_
 simp (disch:=first|decide+kernel|omega) only [Tryz.f205,Aq,qal,l1,s1]<;>rfl
theorem LZ {f q:Nat} {d s:List UInt8} (h:oz A f d (.slice none 0 0) s) (hq:VB A 9 q (.var 1) [aj w]) (hl:s.length+w.length<1000000):
 ∃v A',bg af 154 [pV f,Ah q] A v A'∧v=bL∧(∃b x,oz A' f d x (s++w)∧az A' 213 1 b [[Ah q]] x∧A.next≤b)∧A.next≤A'.next∧∀z,z<A.next→z≠f→A'.get z=A.get z:=by
 have l1:ag af A.get 160 (pw f 1)= .ok (.slice none 0 0):=h.ld rfl z8 rfl;obtain⟨g1,h1⟩:=Pp (A:=A);have kB:=Kp.alloc A (aa 213 [Ah q]);obtain⟨ti,t1,t2,t3⟩:=YG;obtain⟨x,C,e1,e2,e3,e4⟩:=(az.nil (A.alloc (aa 213 [Ah q])) 213 1 0).append (tb:=af) (st:=160) (xt:=160) z8 z8 YV t1 t2 t3 (by omega) (by omega) (by simp) (ax A _) rfl (by simp [Ah,aJ]);have nB:(A.alloc (aa 213 [Ah q])).next=A.next+1:=ae _ _
 have fC:∀z,z<A.next→C.get z=A.get z:=fun z hz=>by rw [e4 z (fun _=>rfl) (by omega),kB.2 z hz]
 have hf:=h.1;have hqA:=hq.1;obtain⟨D,s2,v2,n2,f2⟩:=aL (tb:=af) (t:=160) (o:=1) (v:=x) J7 (h.2.same (fC f hf)) (by simp) (az.dk e2).1 (az.dk e2).2;have l2:ag af D.get 9 (pw f 2)= .ok (aj s):=aQ u9 rfl v2 rfl;have hqf:q≠f:=hq.ne h (by decide);have hqD:VB D 9 q (.var 1) [aj w]:=⟨by omega,hq.2.same (by rw [f2 q hqf,fC q hqA])⟩;obtain⟨g2,h2⟩:=FL (n:=4611686018427387904) (s:=s) hqD hl;rw [qc6 (by omega),qaR] at h2;obtain⟨E,s3,v3,n3,f3⟩:=aL (tb:=af) (t:=9) (o:=2) (v:=aj (s++w)) rb v2 (by simp) rfl rfl;refine⟨bL,E,?_,rfl,⟨A.next+1,x,⟨by omega,v3⟩,?_,by omega⟩,by omega,fun z hz hzf=>by rw [f3 z hzf,f2 z hzf,fC z hz]⟩
 ·have bs:=Xu (q:=q);simp only [pV,Ah] at*;refine aT (g1+g2) 60 (aq Tryz.func154) (by kernel_rfl) fun M hM=>?_
  simp (disch:=first|decide+kernel|omega) only [Tryz.f154,Aq,qal,ak,aF,pG,xx,l1,h1,bs,e1,s2,l2,h2,s3,bL]<;>rfl
 ·rw [nB] at e2;exact e2.same (by omega) fun _=>by rw [f3 _ (by omega),f2 _ (by omega)]
theorem FM {f:Nat} {d s:List UInt8} {x:Value} (h:oz A f d (.slice none 0 0) s) (hx:az A 9 1 b [[aj w]] x) (h0:w≠ []) (hl:s.length+w.length<1000000):
 ∃v A',bg af 91 [pV f,x] A v A'∧v=iN 0∧(∃b q y,oz A' f d y (s++w)∧az A' 213 1 b [[Ah q]] y∧A.next≤b∧A.next≤q∧VB A' 9 q (.var 1) [aj w])∧A.next≤A'.next∧∀z,z<A.next→z≠f→A'.get z=A.get z:=by
 obtain⟨g1,h1⟩:=FP hx;have kB:=Kp.alloc A (aa 9 [aj w]);have vB:=ay A 9 [aj w];have sB:aW af (A.alloc (aa 9 [aj []])) 9 (pw A.next 0) (aj w)= .ok (A.alloc (aa 9 [aj w])):=eG rb rfl rfl (by simp);have z9:bS af 9= .ok (aj []):=by kernel_rfl
 have nB:(A.alloc (aa 9 [aj w])).next=A.next+1:=ae _ _
 generalize A.alloc (aa 9 [aj w])=B at kB vB sB nB;have lB:ag af B.get 9 (pw A.next 0)= .ok (aj w):=vB.ld rfl u9 rfl;obtain⟨v,C,⟨g2,h2⟩,rfl,⟨b',y,p1,p2,p3⟩,p4,p5⟩:=LZ (VB.kp h kB) vB hl;have he:∀t:T Value,ev t (.const (.string ⟨#[]⟩))= .ok (aj []):=fun _=>rfl
 refine⟨_,C,?_,rfl,⟨b',A.next,y,p1,p2,by omega,qao _,⟨by omega,vB.2.same (p5 _ (by omega) ?_)⟩⟩,by omega,fun z hz hf=>by rw [p5 z (by omega) hf,kB.2 z hz]⟩
 ·have cB:(aj []).cells.toList=[aj []]:=rfl;simp only [pV,Ah,bL] at*;refine aT (g1+g2) 60 (aq Tryz.func91) (by kernel_rfl) fun M hM=>?_
  simp (disch:=first|decide+kernel|omega) only [Tryz.f91,Aq,qal,bW,NM,bc,he,h1,z9,cB,sB,lB,h0,h2]<;>rfl
 ·have:=h.1;omega
theorem N0:av af 81 (pw b 0) 3= .ok (pw b 3):=by kernel_rfl
theorem EF:av af 81 (pw b 0) 4= .ok (pw b 4):=by kernel_rfl
theorem PX:aR af 4= .ok 1:=by kernel_rfl
noncomputable def wY:Code:=qbQ.body.getD .skip
theorem Hd:qbQ.body=some (.seq (sub wY [0]) (.seq (sub wY [1,0]) (.seq (sub wY [1,1,0]) (.seq (sub wY [1,1,1,0]) (.seq (sub wY [1,1,1,1,0]) (sub wY [1,1,1,1,1])))))):=by kernel_rfl
theorem LV {a:Nat} {fd mf q:Value} (h:VB A 81 p (.var 6) [fd,mf,q,.int .i64 n,.int .i64 a,.bool false]) (hn:n<1000) (ha:a<1000):
 ∃B,VB B 81 p (.var 6) [fd,mf,q,.int .i64 (n+1:Nat),.int .i64 (a-1:Nat),.bool (decide (a=1))]∧B.next=A.next∧(∀z,z≠p→B.get z=A.get z)∧
  (a=1→∀fn,bg af 85 [pV p,fn] A (.int .i64 (13:Nat)) B)∧
  (a≠1→∀(f:Nat) (cs:List Value) (e:Nat) (C:Mem),bg af f cs B (.int .i64 e) C→bg af 85 [pV p,.func (.func f) ⟨[]⟩ ⟨cs⟩] A (.int .i64 e) C):=by
 have l3:ag af A.get 3 (.pointer (some ⟨p,3,none⟩))= .ok (.int .i64 n):=h.ld rfl u3 rfl;have a1:aM .add .i64 ((n:Nat):Int) ((1:Nat):Int)= .ok (.int .i64 (n+1:Nat)):=bf (aV (by omega));obtain⟨B,sB,vB,nB,fB⟩:=aL (tb:=af) (t:=3) (o:=3) (v:=.int .i64 (n+1:Nat)) q_ h.2 (by simp) rfl rfl;have l4:ag af B.get 3 (.pointer (some ⟨p,4,none⟩))= .ok (.int .i64 a):=aQ u3 rfl vB rfl;have l5:ag af B.get 4 (.pointer (some ⟨p,5,none⟩))= .ok (.bool false):=aQ u4 rfl vB rfl;have hp:=h.1;cases a with
 |zero=>
  refine⟨B,⟨by omega,vB⟩,nB,fB,fun e=>(by cases e),fun _ f cs e C ⟨g,hg⟩=>?_⟩;refine wI (aq Tryz.func85) Hd (by kernel_rfl) ?_;simp only [pV];apply W.q
  ·intro M;simp (disch:=first|decide+kernel|omega) only [wY,qbQ,Aq,qal];rfl
  apply W.q
  ·intro M;simp (disch:=first|decide+kernel|omega) only [wY,qbQ,Aq,qal,bW,CL,bc];rfl
  apply W.q
  ·intro M;simp (disch:=first|decide+kernel|omega) only [wY,qbQ,Aq,qal,ak,aF,N0,l3,a1,sB];rfl
  apply W.q
  ·intro M;simp (config:={maxSteps:=4000000}) (disch:=first|decide+kernel|omega|simp only [Wq,qal]) only [wY,qbQ,Aq,qaq,reduceIte,qal,qam,ak,aF,EF,l4,cT,bY,qdh];rfl
  apply W.q
  ·intro M;simp (disch:=first|decide+kernel|omega) only [wY,qbQ,Aq,qal,ak,aF,rP,l5];rfl
  apply W.cN (g) 20
  ·intro M hM;simp (disch:=first|decide+kernel|omega) only [wY,qbQ,Aq,qal,hg];rfl
  exact⟨by simp,rfl,rfl,by simp only [qbQ,Aq,qal]<;>rfl⟩
 |succ a=>
  have s1:aM .sub .i64 ((a+1:Nat):Int) ((1:Nat):Int)= .ok (.int .i64 (a:Nat)):=br (by omega) (aV (by omega));obtain⟨C,sC,vC,nC,fC⟩:=aL (tb:=af) (t:=3) (o:=4) (v:=.int .i64 (a:Nat)) q_ vB (by simp) rfl rfl;have l6:ag af C.get 3 (.pointer (some ⟨p,4,none⟩))= .ok (.int .i64 a):=aQ u3 rfl vC rfl;obtain⟨D,sD,vD,nD,fD⟩:=aL (tb:=af) (t:=4) (o:=5) (v:=.bool (decide (a=0))) PX vC (by simp) rfl rfl;have l7:ag af D.get 4 (.pointer (some ⟨p,5,none⟩))= .ok (.bool (decide (a=0))):=aQ u4 rfl vD rfl;have hd:decide (a+1=1)=decide (a=0):=by simp
  refine⟨D,⟨by omega,by rw [hd,qbW];exact vD⟩,by omega,fun z hz=>by rw [fD z hz,fC z hz,fB z hz],fun e fn=>?_,fun e f cs v E ⟨g,hg⟩=>?_⟩
  ·have e0:a=0:=by omega
   subst e0;rw [show decide (0=0)=true from rfl] at sD l7;refine wI (aq Tryz.func85) Hd (by kernel_rfl) ?_;simp only [pV];apply W.q
   ·intro M;simp (disch:=first|decide+kernel|omega) only [wY,qbQ,Aq,qal];rfl
   apply W.q
   ·intro M;simp (disch:=first|decide+kernel|omega) only [wY,qbQ,Aq,qal,bW,CL,bc];rfl
   apply W.q
   ·intro M;simp (disch:=first|decide+kernel|omega) only [wY,qbQ,Aq,qal,ak,aF,N0,l3,a1,sB];rfl
   apply W.q
   ·intro M;simp (config:={maxSteps:=4000000}) (disch:=first|decide+kernel|omega|simp only [Wq,qal]) only [wY,qbQ,Aq,qaq,reduceIte,qal,qam,ak,aF,EF,rP,l4,l5,cT,bY,Nat.succ_pos,s1,sC,l6,sD];rfl
   apply W.seq;apply W.run 20
   ·intro M;simp (disch:=first|decide+kernel|omega) only [wY,qbQ,Aq,qal,ak,aF,rP,l7];rfl
   exact⟨by simp,rfl,rfl,by simp only [qbQ,Aq,qal]<;>rfl⟩
  ·have e0:a≠0:=by omega
   rw [decide_eq_false e0] at sD l7;refine wI (aq Tryz.func85) Hd (by kernel_rfl) ?_;simp only [pV];apply W.q
   ·intro M;simp (disch:=first|decide+kernel|omega) only [wY,qbQ,Aq,qal];rfl
   apply W.q
   ·intro M;simp (disch:=first|decide+kernel|omega) only [wY,qbQ,Aq,qal,bW,CL,bc];rfl
   apply W.q
   ·intro M;simp (disch:=first|decide+kernel|omega) only [wY,qbQ,Aq,qal,ak,aF,N0,l3,a1,sB];rfl
   apply W.q
   ·intro M;simp (config:={maxSteps:=4000000}) (disch:=first|decide+kernel|omega|simp only [Wq,qal]) only [wY,qbQ,Aq,qaq,reduceIte,qal,qam,ak,aF,EF,rP,l4,l5,cT,bY,Nat.succ_pos,s1,sC,l6,e0,sD];rfl
   apply W.q
   ·intro M;simp (disch:=first|decide+kernel|omega) only [wY,qbQ,Aq,qal,ak,aF,rP,l7];rfl
   apply W.cN (g) 20
   ·intro M hM;simp (disch:=first|decide+kernel|omega) only [wY,qbQ,Aq,qal,hg];rfl
   exact⟨by simp,rfl,rfl,by simp only [qbQ,Aq,qal]<;>rfl⟩
theorem Xe {a:Nat}:ct af 201 [(0,.map (some a)),(1,.map (some b))]= .ok (.agg ⟨[.map (some a),.map (some b),.slice none 0 0,iN 0]⟩):=by kernel_rfl
theorem Pt:∃v A',bg af 75 [] A v A'∧v=pV (A.next+2)∧Fold A' (A.next+2) A.next (A.next+1) 0 []∧A'.next=A.next+3∧∀z,z<A.next→A'.get z=A.get z:=by
 have n1:(A.alloc (.map [] 0)).next=A.next+1:=ae _ _
 have n2:((A.alloc (.map [] 0)).alloc (.map [] 0)).next=A.next+2:=by rw [ae,n1]
 have n3:(((A.alloc (.map [] 0)).alloc (.map [] 0)).alloc (aa 201 [.map (some A.next),.map (some (A.next+1)),.slice none 0 0,iN 0])).next=A.next+3:=by rw [ae,n2]
 have v:=ay ((A.alloc (.map [] 0)).alloc (.map [] 0)) 201 [.map (some A.next),.map (some (A.next+1)),.slice none 0 0,iN 0];rw [n2] at v;refine⟨_,((A.alloc (.map [] 0)).alloc (.map [] 0)).alloc (aa 201 [.map (some A.next),.map (some (A.next+1)),.slice none 0 0,iN 0]),?_,rfl,⟨_,[],v,⟨by omega,?_⟩,⟨by omega,?_⟩,by omega,az.nil _ _ _ _,fun _=>rfl,rfl,fun i w hw=>by simp at hw⟩,n3,fun z hz=>by rw [aB (by omega),aB (by omega),aB (by omega)]⟩
 ·simp only [pV];refine bm 60 (aq Tryz.func75) (by kernel_rfl) fun M=>?_
  simp (disch:=first|decide+kernel|omega) only [Tryz.f75,Aq,qal,jc,gB,Eb,n1,n2,Xe,au]<;>rfl
 ·rw [aB (by omega),aB (by omega)];exact ax _ _
 ·rw [aB (by omega),←n1];exact ax _ _
theorem Xg {s:List UInt8}:ct af 162 [(0,aj s),(2,aj s)]= .ok (.agg ⟨[aj s,.slice none 0 0,aj s]⟩):=by kernel_rfl
theorem SS {s:List UInt8}:bg af 77 [aj s] A (pV A.next) (A.alloc (aa 162 [aj s,.slice none 0 0,aj s])):=by
 simp only [pV];refine bm 60 (aq Tryz.func77) (by kernel_rfl) fun M=>?_
 simp (disch:=first|decide+kernel|omega) only [Tryz.f77,Aq,qal,Xg,au]<;>rfl
theorem Zd {a:Nat} {n:Int}:ct af 81 [(0,pV a),(1,.map (some b)),(2,.int .i64 n)]= .ok (.agg ⟨[pV a,.map (some b),.int .i64 n,iN 0,iN 0,.bool false]⟩):=by kernel_rfl
noncomputable def c8:Code:=qdN.body.getD .skip
noncomputable def XG:Code:=sub c8 [1,1,1,0,1,0,0]
theorem XF:qdN.body=some (.seq (sub c8 [0]) (.seq (sub c8 [1,0]) (.seq (sub c8 [1,1,0]) (.seq (.seq (sub c8 [1,1,1,0,0]) (.block 0 (.loop XG))) (.seq (sub c8 [1,1,1,1,0]) (.seq (sub c8 [1,1,1,1,1,0]) (sub c8 [1,1,1,1,1,1]))))))):=by kernel_rfl
def KY (pf mf q:Nat):List Value:=[pV pf,.map (some mf),.int .i64 q,.int .i64 (0:Nat),.int .i64 (0:Nat),.bool false]
def KT (P:TypeId→Prop) (A B:Mem):Prop:=A.next≤B.next∧(∀(e:TypeId) (z:Nat) (k:Kd) (l:List Value),P e→VB A e z k l→B.get z=A.get z)∧∀z,MJ A z→B.get z=A.get z
section
variable {P:TypeId→Prop} {A B:Mem} (K:KT P A B)
include K
variable {z:Nat} {l:List Value}
theorem KT.vb {e:TypeId} {k:Kd} (h:VB A e z k l) (hp:P e):VB B e z k l:=⟨qaD h.1 K.1,h.2.same (K.2.1 _ _ _ _ hp h)⟩
variable {ls:List (List Value)}
theorem KT.Mk {e:TypeId} {b:Nat} {x:Value} (h:az A e n b ls x) (hp:P e):az B e n b ls x:=by
 rcases h with h|⟨k,c,h1,h2,h3,h4⟩
 ·exact .inl h
 ·exact .inr ⟨k,c,h1,qaD h2 K.1,h3.same (K.2.1 e b k _ hp ⟨h2,h3⟩),h4⟩
theorem KT.f:Uc A B:=⟨K.1,K.2.2⟩
variable {C:Mem}
theorem KT.trans (L:KT P B C):KT P A C:=⟨qaV K.1 L.1,fun e z k l hp h=>by rw [L.2.1 e z k l hp (K.vb h hp),K.2.1 e z k l hp h],fun z h=>by
 have e:=K.2.2 z h;rw [←e];obtain⟨h1,t,k,f,c,h2⟩:=h;exact L.2.2 z ⟨qaD h1 K.1,t,k,f,c,e.trans h2⟩⟩
theorem KT.mono {Q:TypeId→Prop} (h:∀e,Q e→P e):KT Q A B:=⟨K.1,fun e z k l hp=>K.2.1 e z k l (h e hp),K.2.2⟩
theorem iJ.kt {p ml mn b la:Nat} (h:iJ A p ml mn b k la ns) (hP:P 201∧P 204∧P 3∧P 9) (hm:∀(m:Nat) (es:List MapEntry) (c:Nat),A.get m=some (.map es c)→m=ml∨m=mn→B.get m=A.get m):iJ B p ml mn b k la ns:=by
 obtain⟨x,rows,h1,⟨h2,h3⟩,⟨h4,h5⟩,h6,h7,h8,h9,h10⟩:=h;refine⟨x,rows,K.vb h1 hP.1,⟨qaD h2 K.1,by rw [hm _ _ _ h3 (.inl rfl)];exact h3⟩,⟨qaD h4 K.1,by rw [hm _ _ _ h5 (.inr rfl)];exact h5⟩,h6,K.Mk h7 hP.2.1,h8,h9,fun i w hw=>?_⟩;obtain⟨t,s,e1,e2,e3⟩:=h10 i w hw;exact⟨t,s,e1,K.vb e2 hP.2.2.1,K.vb e3 hP.2.2.2⟩
end
theorem Kp.kt {P:TypeId→Prop} {A B:Mem} (k:Kp A B):KT P A B:=⟨k.1,fun _ z _ _ _ h=>k.2 z h.1,fun z h=>k.2 z h.1⟩
variable {z r:Nat} {l:List Value}
theorem MJ.ne {A:Mem} {e:TypeId} {k:Kd} (h:MJ A z) (hv:VB A e r k l):z≠r:=by
 rintro rfl;obtain⟨-,t,k',f,c,h1⟩:=h;obtain⟨-,c',h2,-⟩:=hv;rw [h1] at h2;cases h2
variable {c:Nat} {es:List MapEntry}
theorem MJ.gj {A:Mem} (h:MJ A z) (hm:A.get m=some (.map es c)):z≠m:=by
 rintro rfl;obtain⟨-,t,k',f,c,h1⟩:=h;rw [h1] at hm;cases hm
variable {ls:List (List Value)}
theorem MJ.Z_ {A:Mem} {e:TypeId} {b:Nat} {x:Value} (h:MJ A z) (hs:az A e n b ls x) (h0:ls≠ []):z≠b:=by
 rcases hs with⟨-,hh⟩|⟨k',_,-,h1,h2,-⟩
 ·exact absurd hh h0
 ·exact h.ne (⟨h1,h2⟩:VB A e b k' _)
theorem KT.ye {A B:Mem} {e:TypeId} {k:Kd} (hv:VB A e r k l) (h:A.next≤B.next) (hf:∀z,z<A.next→z≠r→B.get z=A.get z):KT (·≠e) A B:=⟨h,fun _ z _ _ he h=>hf z h.1 (h.ne hv he),fun z h=>hf z h.1 (h.ne hv)⟩
def dT (e:TypeId):Prop:=e≠81∧e≠201∧e≠204∧e≠162∧e≠213
instance {e:TypeId}:Decidable (dT e):=by unfold dT;infer_instance
def nR (A:Mem) (q:Nat) (f:List UInt8×List UInt8):Prop:=∃a,oz A q f.1 a (f.1++f.2)∧((f.2=[]∧a= .slice none 0 0)∨(f.2≠ []∧∃b r,az A 213 1 b [[Ah r]] a∧VB A 9 r (.var 1) [aj f.2]))
theorem nR.kt {P:TypeId→Prop} {A B:Mem} {q:Nat} {f:List UInt8×List UInt8} (h:nR A q f) (K:KT P A B) (h1:B.get q=A.get q) (hP:P 213∧P 9):nR B q f:=by
 obtain⟨a,e1,e2⟩:=h;refine⟨a,⟨qaD e1.1 K.1,e1.2.same h1⟩,?_⟩;rcases e2 with h|⟨h,b,r,e3,e4⟩
 ·exact .inl h
 ·exact .inr ⟨h,b,r,K.Mk e3 hP.1,K.vb e4 hP.2⟩
structure dh where
 k:Nat
 la:Nat
 ns:List (List UInt8)
 fs:List (List UInt8×List UInt8)
 st:Nat
 ar:Nat
 dn:Bool
def quo:Nat:=1048576
def jf (A:Mem) (p:Nat) (D:dh) (pf ml mn b mf:Nat) (ps:List Nat):Prop:=
 VB A 81 p (.var 6) [pV pf,.map (some mf),.int .i64 quo,.int .i64 D.st,.int .i64 D.ar,.bool D.dn]∧iJ A pf ml mn b D.k D.la D.ns∧(mf<A.next∧A.get mf=some (.map (dG ps 0) ps.length))∧
 (ps.length=D.fs.length∧D.fs.length=D.ns.length∧ps.Nodup∧D.ns.Nodup)∧(∀(i:Nat) (f:List UInt8×List UInt8),D.fs[i]?=some f→∃q,ps[i]?=some q∧nR A q f)∧mf≠ml∧mf≠mn
def fx (A:Mem) (p:Nat) (D:dh):Prop:=∃pf ml mn b mf ps,jf A p D pf ml mn b mf ps
section
variable {A B:Mem} {p pf ml mn b mf:Nat} {D:dh} {ps:List Nat}
theorem jf.kp (h:jf A p D pf ml mn b mf ps) (k:Kp A B):jf B p D pf ml mn b mf ps:=by
 obtain⟨h1,h2,⟨h3,h3'⟩,h4,h5,h6⟩:=h;refine⟨h1.kp k,h2.kp k,⟨qaD h3 k.1,by rw [k.2 _ h3];exact h3'⟩,h4,fun i f hf=>?_,h6⟩;obtain⟨q,e1,e2⟩:=h5 i f hf;exact⟨q,e1,e2.kt (P:=fun _=>True) (Kp.kt k) (k.2 q e2.choose_spec.1.1) ⟨trivial,trivial⟩⟩
theorem fx.kp (h:fx A p D) (k:Kp A B):fx B p D:=by
 obtain⟨pf,ml,mn,b,mf,ps,h⟩:=h;exact⟨pf,ml,mn,b,mf,ps,h.kp k⟩
theorem jf.file (h:jf A p D pf ml mn b mf ps) {q:Nat} (hq:q∈ps):∃k l,VB A 162 q k l:=by
 obtain⟨-,-,-,⟨h4,-⟩,h5,-⟩:=h;obtain⟨i,hi,rfl⟩:=qbM hq;obtain⟨q,e1,_,e2,-⟩:=h5 i _ (qan (by omega));rw [qan hi] at e1;cases e1;exact⟨_,_,e2⟩
theorem jf.Z1 {D':dh} (h:jf A p D pf ml mn b mf ps) (hD:D'.k=D.k∧D'.la=D.la∧D'.ns=D.ns∧D'.fs=D.fs) (vB:VB B 81 p (.var 6) [pV pf,.map (some mf),.int .i64 quo,.int .i64 D'.st,.int .i64 D'.ar,.bool D'.dn])
 (nB:A.next≤B.next) (fB:∀z,z<A.next→z≠p→B.get z=A.get z):jf B p D' pf ml mn b mf ps:=by
 obtain⟨h1,h2,⟨h3,h3'⟩,h4,h5,h6⟩:=h;obtain⟨d1,d2,d3,d4⟩:=hD;have K:=KT.ye h1 nB fB;refine⟨vB,by rw [d1,d2,d3];exact h2.kt K ⟨by decide,by decide,by decide,by decide⟩ fun m es c hm hl=>fB m (by have:=h2;obtain⟨_,_,-,⟨q,-⟩,⟨r,-⟩,-⟩:=this;rcases hl with rfl|rfl<;>assumption) (Ne.symm (h1.gj hm)),⟨by omega,by rw [fB mf h3 (Ne.symm (h1.gj h3'))];exact h3'⟩,by rw [d3,d4];exact h4,fun i f hf=>?_,h6⟩;rw [d4] at hf;obtain⟨q,e1,e2⟩:=h5 i f hf;exact⟨q,e1,e2.kt K (fB q e2.choose_spec.1.1 (VB.ne e2.choose_spec.1 h1 (by decide))) ⟨by decide,by decide⟩⟩
variable {i:Nat}
theorem jf.set {q:Nat} {f:List UInt8×List UInt8} (h:jf A p D pf ml mn b mf ps) (hi:ps[i]?=some q) (hf:nR B q f) (nB:A.next≤B.next) (fB:∀z,z<A.next→z≠q→B.get z=A.get z):jf B p {D with fs:=D.fs.set i f} pf ml mn b mf ps∧KT dT A B:=by
 have hq:=h.file (qa0 hi);obtain⟨h1,h2,⟨h3,h3'⟩,⟨h4,h4',h4n,h4m⟩,h5,h6⟩:=h;obtain⟨kq,lq,hq⟩:=hq;have K:=KT.ye hq nB fB;have hil:=(qap.1 hi).1;refine⟨⟨K.vb h1 (by decide),h2.kt K ⟨by decide,by decide,by decide,by decide⟩ fun m es c hm hl=>fB m (by have:=h2;obtain⟨_,_,-,⟨q,-⟩,⟨r,-⟩,-⟩:=this;rcases hl with rfl|rfl<;>assumption) (Ne.symm (hq.gj hm)),⟨by omega,by rw [fB mf h3 (Ne.symm (hq.gj h3'))];exact h3'⟩,⟨by rw [qaQ];exact h4,by rw [qaQ];exact h4',h4n,h4m⟩,fun j g hg=>?_,h6⟩,K.mono fun e he=>he.2.2.2.1⟩;by_cases hj:i=j
 ·subst hj;rw [List.getElem?_set_self (by omega)] at hg;cases hg;exact⟨q,hi,hf⟩
 ·rw [List.getElem?_set_ne hj] at hg;obtain⟨q',e1,e2⟩:=h5 j g hg;have hne:q'≠q:=by
   rintro rfl;obtain⟨hjl,ej⟩:=qap.1 e1;obtain⟨_,ei⟩:=qap.1 hi;rcases qeh hj with hl|hl
   ·exact qbs.1 h4n i j hil hjl hl (ei.trans ej.symm)
   ·exact qbs.1 h4n j i hjl hil hl (ej.trans ei.symm)
  exact⟨q',e1,e2.kt K (fB q' e2.choose_spec.1.1 hne) ⟨by decide,by decide⟩⟩
def ga (D:dh):dh:={D with st:=D.st+1,ar:=D.ar-1,dn:=decide (D.ar=1)}
theorem jf.step (h:jf A p D pf ml mn b mf ps) (hd:D.dn=false) (hs:D.st<1000∧D.ar<1000):
 ∃B,jf B p (ga D) pf ml mn b mf ps∧B.next=A.next∧(∀z,z≠p→B.get z=A.get z)∧KT dT A B∧(D.ar=1→∀fn,bg af 85 [pV p,fn] A (iN 13) B)∧
  (D.ar≠1→∀(f:Nat) (cs:List Value) (e:Nat) (C:Mem),bg af f cs B (.int .i64 e) C→bg af 85 [pV p,.func (.func f) ⟨[]⟩ ⟨cs⟩] A (.int .i64 e) C):=by
 have h1:=h.1;rw [hd] at h1;obtain⟨B,vB,nB,fB,g1,g2⟩:=LV h1 hs.1 hs.2;exact⟨B,h.Z1 (D':=ga D) ⟨rfl,rfl,rfl,rfl⟩ vB (by omega) fun z _=>fB z,nB,fB,(KT.ye h1 (by omega) fun z _=>fB z).mono fun e he=>he.1,g1,g2⟩
def dh.all (D:dh):List (List UInt8×List UInt8):=D.ns.zip (D.fs.map fun f=>f.1++f.2)
theorem jf.at (h:jf A p D pf ml mn b mf ps) (hd:D.dn=false):ic A p D.all:=by
 obtain⟨h1,⟨x,rows,h2,-,⟨h3,h3'⟩,-⟩,⟨h4,h4'⟩,⟨h5,h5',-⟩,h6,-⟩:=h;rw [hd] at h1;have e1:D.all.map (·.1)=D.ns:=List.map_fst_zip (by rw [qas];omega);refine⟨pf,mf,mn,_,_,ps,_,_,_,_,_,_,h1,h2,⟨h3,by rw [e1];exact h3'⟩,⟨h4,h4'⟩,fun i s hs=>?_⟩;unfold dh.all at hs;rw [List.getElem?_zip_eq_some,qaN] at hs;obtain⟨-,hs⟩:=hs;cases hf:D.fs[i]? with
 |none=>rw [hf] at hs;cases hs
 |some f=>
  rw [hf] at hs;have hs:f.1++f.2=s.2:=qbo hs;obtain⟨q,e1,a,e2,-⟩:=h6 i f hf;exact⟨q,_,_,e1,by rw [←hs];exact e2⟩
end
theorem BE {la:Nat} (h:iJ A p ml mn b k la ns) (hnd:ns.Nodup) (hn:ns.length<1000):
 ∃A' mk,bg af 78 [pV p] A (.tuple ⟨[]⟩) A'∧iJ A' p ml mk b ns.length la ns∧A.next≤mk∧A.next≤A'.next∧∀z,z<A.next→z≠p→z≠ml→A'.get z=A.get z:=by
 obtain⟨v,A',mk,⟨g2,h2⟩,rfl,h3,h4⟩:=sq (n:=ns.length-k) h hnd hn;obtain⟨x,rows,hV,-,-,-,hS,-,hrl,-⟩:=h;have lx:ag af A.get 198 (pw p 2)= .ok x:=hV.ld rfl vQ rfl;have lenx:=az.len (tb:=af) hS vQ;have er:rows.length=ns.length-k:=by omega
 rw [er] at lenx;have hp:bg af 135 [pV p] A (iN (ns.length-k)) A:=by
  simp only [pV];refine bm 60 (aq Tryz.func135) (by kernel_rfl) fun M=>?_
  simp (disch:=first|decide+kernel|omega) only [Tryz.f135,Aq,qal,bW,NL,bc,ak,aF,CP,lx,lenx]<;>rfl
 obtain⟨g1,h1⟩:=hp;rw [Nat.min_self,Nat.add_sub_cancel' (by omega),qaR] at h3;refine⟨A',mk,?_,h3,h4⟩;simp only [pV] at*;refine aT (g1+g2) 60 (aq Tryz.func78) (by kernel_rfl) fun M hM=>?_
 simp (disch:=first|decide+kernel|omega) only [Tryz.f78,Aq,qal,h1,h2,bL]<;>rfl
theorem Yi {t:Operand}:vY af A.get .neq 24 t (.const (.pointer none)) (pw b 0) (.pointer none)= .ok (.bool true):=by kernel_rfl
def D0:dh:=⟨0,0,[],[],0,0,false⟩
theorem Ps:∃v A',bg af 26 [.slice none 0 0,.int .i64 quo] A v A'∧Kp A A'∧∃p,v=pV p∧fx A' p D0:=by
 refine cF (aq Tryz.func26) XF (by kernel_rfl) ?_;have hlen:=BX.len (A:=A) (l:=[]) ⟨0,az.nil A 94 2 0⟩;obtain⟨v,B,⟨g1,h1⟩,rfl,hFo,nB,fB⟩:=Pt (A:=A);have hmap:(B.alloc (.map [] 0)).get B.next=some (.map [] 0):=ax _ _
 have n1:(B.alloc (.map [] 0)).next=B.next+1:=ae _ _
 have kC:=(Kp.alloc B (.map [] 0)).trans (Kp.alloc (B.alloc (.map [] 0)) (aa 81 (KY (A.next+2) B.next quo)));have vC:=ay (B.alloc (.map [] 0)) 81 (KY (A.next+2) B.next quo);have nC:((B.alloc (.map [] 0)).alloc (aa 81 (KY (A.next+2) B.next quo))).next=B.next+2:=by rw [ae,n1]
 have hmapC:((B.alloc (.map [] 0)).alloc (aa 81 (KY (A.next+2) B.next quo))).get B.next=some (.map [] 0):=by rw [aB (by omega)];exact hmap
 rw [n1] at vC;have bd:ct af 81 [(0,pw (A.next+2) 0),(1,.map (some B.next)),(2,.int .i64 quo)]= .ok (.agg ⟨KY (A.next+2) B.next quo⟩):=Zd;have hq0:¬quo<0:=by omega
 simp only [pV] at h1;apply W.q
 ·intro M;simp (disch:=first|decide+kernel|omega) only [c8,qdN,Aq,qal];rfl
 apply W.q
 ·intro M;simp (disch:=first|decide+kernel|omega) only [c8,qdN,Aq,qal];rfl
 apply W.qG (g1)
 ·intro M hM;simp (disch:=first|decide+kernel|omega) only [c8,qdN,Aq,qal,h1,jc,gB,Eb,bd,au,n1];rfl
 generalize (B.alloc (.map [] 0)).alloc (aa 81 (KY (A.next+2) B.next quo))=C at kC vC nC hmapC;have hAC:Kp A C:=⟨by omega,fun z hz=>by rw [kC.2 z (by omega),fB z hz]⟩;have hFoC:iJ C (A.next+2) A.next (A.next+1) 0 0 0 []:=by
  obtain⟨x,rows,q1,⟨q2,q3⟩,⟨q4,q5⟩,q6,q7,q8,q9,q10⟩:=hFo;exact⟨x,rows,q1.kp kC,⟨by omega,by rw [kC.2 _ q2];exact q3⟩,⟨by omega,by rw [kC.2 _ q4];exact q5⟩,q6,q7.same kC.1 (kC.2 0),fun _=>q8 rfl,by rw [q9];rfl,fun j w hw=>by simp at hw⟩
 apply W.seq;apply W.q
 ·intro M;simp (disch:=first|decide+kernel|omega) only [c8,qdN,Aq,qal,hlen];rfl
 apply W.block;refine W.up 0 (fun i t D=>D=C∧Sl t [(5,pV (B.next+1)),(18,iN 0),(19,.int .i64 i)]) ?_ (qaB _) ⟨rfl,?_⟩
 ·rintro i t D hi ⟨rfl,f5,f18,f19,-⟩;obtain rfl:i=0:=by omega
  obtain⟨E,mk,⟨g2,h2⟩,hKe,hmk,hnE,hfE⟩:=BE hFoC qc4 (by simp);obtain⟨_,_,qV,⟨_,qml⟩,_⟩:=hFoC;have lpf:ag af D.get 78 (pw (B.next+1) 0)= .ok (pV (A.next+2)):=by
   obtain⟨d,hd,ha⟩:=qz;exact vC.ld rfl hd ha
  simp only [pV] at*;apply W.run 20
  ·intro M;simp (disch:=first|decide+kernel|omega) only [XG,c8,qdN,Aq,qal,f18,f19];rfl
  apply W.qG (g2)
  ·intro M hM;simp (disch:=first|decide+kernel|omega) only [c8,qdN,Aq,qal,f5,ak,aF,qj,lpf,h2];rfl
  apply W.q
  ·intro M;simp (disch:=first|decide+kernel|omega) only [c8,qdN,Aq,qal,f5];rfl
  apply W.run 20
  ·intro M;simp (disch:=first|decide+kernel|omega) only [c8,qdN,Aq,qal];rfl
  refine⟨by simp,rfl,_,(by simp only [qdN,Aq,qal]<;>rfl),⟨by show A.next≤E.next;omega,fun z hz=>by show E.get z=A.get z;rw [hfE z (by omega) (by omega) (by omega),hAC.2 z hz]⟩,B.next+1,rfl,A.next+2,A.next,mk,0,B.next,[],⟨by show B.next+1<E.next;omega,vC.2.same (hfE _ (by omega) (by omega) (by omega))⟩,hKe,⟨by show B.next<E.next;omega,?_⟩,⟨rfl,rfl,qc4,qc4⟩,fun i f hf=>by simp [D0] at hf,by omega,by omega⟩;show E.get B.next=_
  rw [hfE B.next (by omega) (by omega) (by omega)];exact hmapC
 ·simp only [Sq,qal,qam];exact⟨rfl,rfl⟩
theorem Pr:∃v A',bg af 5 [.int .i64 quo] A v A'∧Kp A A'∧∃p,v=pV p∧fx A' p D0:=by
 obtain⟨v,A',⟨g,h⟩,hk,p,rfl,hD⟩:=Ps (A:=A);refine⟨_,A',?_,hk,p,rfl,hD⟩;simp only [pV] at*;refine aT (g) 60 (aq Tryz.func5) (by kernel_rfl) fun M hM=>?_
 simp (disch:=first|decide+kernel|omega) only [Tryz.f5,Aq,qal,h,bc]<;>rfl
theorem Pq {a:Nat} {D:dh} (h:fx A p D):∃v A',bg af 9 [pV p,.int .i64 a] A v A'∧v=bL∧fx A' p {D with ar:=a}∧KT dT A A':=by
 obtain⟨pf,ml,mn,b,mf,ps,h⟩:=h;obtain⟨B,sB,vB,nB,fB⟩:=aL (tb:=af) (t:=3) (o:=4) (v:=.int .i64 a) q_ h.1.2 (by simp) rfl rfl;have hn:A.next≤B.next:=by omega
 have mx1:aN af .max [3,3] [iN 0,.int .i64 a]= .ok (.int .i64 a):=by rw [Am.max_i64,qc5 (qaB _)]
 refine⟨_,B,?_,rfl,⟨pf,ml,mn,b,mf,ps,h.Z1 (D':={D with ar:=a}) ⟨rfl,rfl,rfl,rfl⟩ ⟨by have:=h.1.1;omega,vB⟩ hn fun z _=>fB z⟩,(KT.ye h.1 hn fun z _=>fB z).mono fun e he=>he.1⟩;simp only [pV];refine bm 60 (aq Tryz.func9) (by kernel_rfl) fun M=>?_
 simp (disch:=first|decide+kernel|omega) only [Tryz.f9,Aq,qal,rZ,Yi,bc,ak,aF,EF,mx1,sB,bL]<;>rfl
theorem js:∃d,af.ba 24=some d∧bQ d=false:=a8 (by kernel_rfl)
theorem mM (b:Nat):cG 100 (pw b 0) (pw b 0)=true:=by simp [cG,uT,qx]
def vV (D:dh) (w:List UInt8):dh:={D with ns:=D.ns++[w],fs:=D.fs++[([],[])],la:=D.la+1}
theorem Dv {z1 z2:Nat} {D:dh} (h:fx A p D) (v1:VB A 24 z1 (.var 1) [pV p]) (v2:VB A 9 z2 (.var 1) [aj w]) (hw:w∉D.ns) (hl:0<w.length∧w.length≤64) (hn:D.ns.length<1000) (hla:D.la=D.ns.length):
 ∃B,bg af 86 [pV z1,pV z2] A (.int .i64 (0:Nat)) B∧fx B p (vV D w)∧KT dT A B:=by
 obtain⟨pf,ml,mn,b,mf,ps,hP⟩:=h;have hpfs:=fun q hq=>hP.file (q:=q) hq
 obtain⟨hV,hF,⟨hmf,hmf'⟩,⟨hl1,hl2,hnd,hnn⟩,hfl,hm1,hm2⟩:=hP;rw [hla] at hF;obtain⟨v,F,b',⟨g1,h1⟩,rfl,hFF,hb',hnF,hfF⟩:=FF hF hw hl hn;obtain⟨xo,rowso,qV,⟨-,qml⟩,⟨-,qmn⟩,-,qS,qx0,qrl,-⟩:=hF;have hrn:D.k<D.ns.length→rowso≠ []:=fun h0 h=>by rw [h,qaT] at qrl;omega
 have K1:KT (fun e=>e≠201∧e≠204) A F:=⟨hnF,fun e z k l he hz=>hfF z hz.1 (hz.ne qV he.1) (hz.gj qmn) fun h0=>az.vo qS hz he.2 (hrn h0),fun z h=>hfF z h.1 (h.ne qV) (h.gj qmn) fun h0=>h.Z_ qS (hrn h0)⟩;have l1:ag af A.get 24 (.pointer (some ⟨z1,0,none⟩))= .ok (pV p):=by
  obtain⟨d,hd,ha⟩:=js;exact v1.ld rfl hd ha
 have l2:ag af A.get 9 (.pointer (some ⟨z2,0,none⟩))= .ok (aj w):=v2.ld rfl u9 rfl;have lpf:ag af A.get 78 (.pointer (some ⟨p,0,none⟩))= .ok (pV pf):=by
  obtain⟨d,hd,ha⟩:=qz;exact hV.ld rfl hd ha
 have VF:=K1.vb hV (by decide);have v1F:=K1.vb v1 (by decide);have l1F:ag af F.get 24 (.pointer (some ⟨z1,0,none⟩))= .ok (pV p):=by
  obtain⟨d,hd,ha⟩:=js;exact v1F.ld rfl hd ha
 have lmF:ag af F.get 79 (.pointer (some ⟨p,1,none⟩))= .ok (.map (some mf)):=VF.ld rfl zp rfl;have hmfF:F.get mf=some (.map (dG ps 0) ps.length):=by rw [hfF mf hmf (Ne.symm (qV.gj hmf')) hm2 (fun h0=>az.gj qS hmf' (hrn h0))];exact hmf'
 obtain⟨g2,h2⟩:=SS (A:=F) (s:=[]);have kG:=Kp.alloc F (aa 162 [aj [],.slice none 0 0,aj []]);have vG:=ay F 162 [aj [],.slice none 0 0,aj []];have nG:(F.alloc (aa 162 [aj [],.slice none 0 0,aj []])).next=F.next+1:=ae _ _
 generalize F.alloc (aa 162 [aj [],.slice none 0 0,aj []])=G at h2 kG vG nG;have hmfG:G.get mf=some (.map (dG ps 0) ps.length):=by rw [kG.2 _ (by omega)];exact hmfF
 have hup:=Gg (p:=F.next) hmfG;have hpn:ps.length=D.ns.length:=by omega
 rw [hpn] at hup;have l1G:ag af G.get 24 (.pointer (some ⟨z1,0,none⟩))= .ok (pV p):=by
  obtain⟨d,hd,ha⟩:=js;exact(v1F.kp kG).ld rfl hd ha
 have lmG:ag af G.get 79 (.pointer (some ⟨p,1,none⟩))= .ok (.map (some mf)):=(VF.kp kG).ld rfl zp rfl;generalize hH:G.set mf (.map (dG (ps++[F.next]) 0) (ps++[F.next]).length)=H at hup;have nH:H.next=G.next:=by rw [←hH];exact aO _ _ _
 have fH:∀z,z≠mf→H.get z=G.get z:=fun z hz=>by rw [←hH,dH,if_neg hz]
 have K2:KT (fun _=>True) F H:=⟨by omega,fun e z k l _ hz=>by rw [fH z (hz.gj hmfF),kG.2 z hz.1],fun z h=>by rw [fH z (h.gj hmfF),kG.2 z h.1]⟩;have he:∀t:T Value,ev t (.const (.string ⟨#[]⟩))= .ok (aj []):=fun _=>rfl
 have smf:cG 100 (.map (some mf)) (.map (some mf))=true:=by simp [cG,qx]
 have sn:=eS .i64 (D.ns.length+1) rfl;refine⟨H,?_,⟨pf,ml,mn,b',mf,ps++[F.next],K2.vb VF trivial,?_,⟨by omega,by rw [←hH,dH,if_pos rfl]⟩,⟨?_,?_,?_,?_⟩,fun i f hf=>?_,hm1,hm2⟩,(K1.mono fun e he=>⟨he.2.1,he.2.2.1⟩).trans (K2.mono fun _ _=>trivial)⟩
 ·simp only [pV] at*;refine aT (g1+g2) 60 (aq Tryz.func86) (by kernel_rfl) fun M hM=>?_
  simp (config:={maxSteps:=4000000}) (disch:=first|decide+kernel|omega|simp only [Wq,qal]) only [Tryz.f86,Aq,qaq,reduceIte,qal,qam,l1,l2,lpf,ak,aF,qj,AI,h1,qau,qav,l1F,l1G,lmF,lmG,mM,he,h2,fi,hup,smf,sn,Fq,aA [(0,5),(3,5)]]<;>rfl
 ·show iJ H pf ml mn b' D.k (D.la+1) (D.ns++[w]);rw [hla];rw [qar] at hFF;exact hFF.kt K2 ⟨trivial,trivial,trivial,trivial⟩ fun m es c hm hl=>by
   have hmF:m<F.next:=by
    obtain⟨_,_,-,⟨q,-⟩,⟨r,-⟩,-⟩:=hFF;rcases hl with rfl|rfl<;>assumption
   rw [fH m (by rintro rfl;exact hl.elim hm1 hm2),kG.2 m hmF]
 ·show _=(D.fs++[_]).length;rw [qar,qar,hl1];rfl
 ·show(D.fs++[_]).length=(D.ns++[w]).length;rw [qar,qar,hl2];rfl
 ·rw [qdR];refine⟨hnd,qee.2 ⟨qbb,qc4⟩,fun a ha c hc=>?_⟩;obtain⟨_,_,hz⟩:=hpfs a ha;rw [qaY.1 hc];have:=hz.1;omega
 ·show(D.ns++[w]).Nodup;rw [qdR];exact⟨hnn,qee.2 ⟨qbb,qc4⟩,fun a ha c hc e=>hw (by rw [qaY.1 hc] at e;exact e▸ha)⟩
 ·replace hf:(D.fs++[([],[])])[i]?=some f:=hf;rcases qaZ i D.fs.length with hi|hi
  ·rw [qaJ hi] at hf;obtain⟨q,e1,e2⟩:=hfl i f hf;have e2':=e2;obtain⟨_,e3,-⟩:=e2';exact⟨q,by rw [qaJ (by omega)];exact e1,(e2.kt K1 (hfF q e3.1 (VB.ne e3 qV (by decide)) (VB.gj e3 qmn) fun h0=>az.vo qS e3 (by decide) (hrn h0)) ⟨by decide,by decide⟩).kt K2 (by rw [fH q (VB.gj e3 hmf'),kG.2 q (by have:=e3.1;omega)]) ⟨trivial,trivial⟩⟩
  ·rw [qaF hi] at hf;cases hq:i-D.fs.length with
   |succ n=>rw [hq] at hf;simp at hf
   |zero=>
    rw [hq] at hf;cases hf;obtain rfl:i=D.fs.length:=by omega
    exact⟨F.next,by rw [qaF (by omega),hl1,qbq];rfl,_,⟨by omega,vG.2.same (fH _ (by omega))⟩,.inl ⟨rfl,rfl⟩⟩
def u7 (D:dh):Nat:=if D.ar=1 then 13 else 0
theorem FI {D:dh} (h:fx A p D) (hd:D.dn=false) (hs:D.st<1000∧D.ar<1000) (hw:w∉D.ns) (hl:0<w.length∧w.length≤64) (hn:D.ns.length<1000) (hla:D.la=D.ns.length):
 ∃v A',bg af 37 [pV p,aj w] A v A'∧v= .int .i64 (u7 D:Int)∧fx A' p (if D.ar=1 then ga D else vV (ga D) w)∧KT dT A A':=by
 have kB:=Kp.alloc A (aa 24 [pV p]);have vB:=ay A 24 [pV p];have nB:(A.alloc (aa 24 [pV p])).next=A.next+1:=ae _ _
 generalize hB:A.alloc (aa 24 [pV p])=B at kB vB nB;have kC:=Kp.alloc B (aa 9 [aj w]);have vC:=ay B 9 [aj w];have nC:(B.alloc (aa 9 [aj w])).next=B.next+1:=ae _ _
 generalize hC:B.alloc (aa 9 [aj w])=C at kC vC nC;rw [nB] at vC;have vBC:=vB.kp kC;obtain⟨pf,ml,mn,b,mf,ps,hP⟩:=h.kp (kB.trans kC);obtain⟨E,hE,nE,fE,kE,g1,g2⟩:=hP.step hd hs;have lp:ag af C.get 24 (pw A.next 0)= .ok (pV p):=by
  obtain⟨d,hd,ha⟩:=js;exact vBC.ld rfl hd ha
 unfold u7;by_cases h1:D.ar=1
 ·rw [if_pos h1,if_pos h1];obtain⟨g,hg⟩:=g1 h1 (.func (.func 86) ⟨[]⟩ ⟨[pV A.next,pV (A.next+1)]⟩);refine⟨_,E,?_,rfl,⟨pf,ml,mn,b,mf,ps,hE⟩,(kB.trans kC).kt.trans kE⟩;simp only [pV] at*;refine aT (g) 60 (aq Tryz.func37) (by kernel_rfl) fun M hM=>?_
  simp (disch:=first|decide+kernel|omega) only [Tryz.f37,Aq,qal,dj,hB,hC,nB,lp,aY,hg]<;>rfl
 ·rw [if_neg h1,if_neg h1];obtain⟨F,hF,hD,kF⟩:=Dv ⟨pf,ml,mn,b,mf,ps,hE⟩ (kE.vb vBC (by decide)) (kE.vb vC (by decide)) hw hl hn hla;obtain⟨g,hg⟩:=g2 h1 _ _ _ _ hF;refine⟨_,F,?_,rfl,hD,((kB.trans kC).kt.trans kE).trans kF⟩;simp only [pV] at*;refine aT (g) 60 (aq Tryz.func37) (by kernel_rfl) fun M hM=>?_
  simp (disch:=first|decide+kernel|omega) only [Tryz.f37,Aq,qal,dj,hB,hC,nB,lp,aY,hg]<;>rfl
def PQ (D:dh):dh:={D with k:=D.ns.length}
theorem Ih {z1:Nat} {D:dh} (h:fx A p D) (v1:VB A 24 z1 (.var 1) [pV p]) (hn:D.ns.length<1000):
 ∃B,bg af 94 [pV z1] A (iN 0) B∧fx B p (PQ D)∧KT dT A B:=by
 obtain⟨pf,ml,mn,b,mf,ps,hV,hF,⟨hmf,hmf'⟩,⟨hl1,hl2,hnd,hnn⟩,hfl,hm1,hm2⟩:=h;obtain⟨B,mk,⟨g1,h1⟩,hFB,hmk,hnB,hfB⟩:=BE hF hnn hn;obtain⟨_,_,qV,⟨_,qml⟩,-⟩:=hF;have K:KT (fun e=>e≠201) A B:=⟨hnB,fun e z k l he hz=>hfB z hz.1 (hz.ne qV he) (hz.gj qml),fun z h=>hfB z h.1 (h.ne qV) (h.gj qml)⟩;have l1:ag af A.get 24 (pw z1 0)= .ok (pV p):=by
  obtain⟨d,hd,ha⟩:=js;exact v1.ld rfl hd ha
 have lpf:ag af A.get 78 (pw p 0)= .ok (pV pf):=by
  obtain⟨d,hd,ha⟩:=qz;exact hV.ld rfl hd ha
 refine⟨B,?_,⟨pf,ml,mk,b,mf,ps,K.vb hV (by decide),hFB,⟨by omega,by rw [hfB mf hmf (Ne.symm (qV.gj hmf')) hm1];exact hmf'⟩,⟨hl1,hl2,hnd,hnn⟩,fun i f hf=>?_,hm1,by omega⟩,K.mono fun e he=>he.2.1⟩
 ·simp only [pV] at*;refine aT (g1) 60 (aq Tryz.func94) (by kernel_rfl) fun M hM=>?_
  simp (disch:=first|decide+kernel|omega) only [Tryz.f94,Aq,qal,l1,lpf,ak,aF,qj,h1]<;>rfl
 ·obtain⟨q,e1,e2⟩:=hfl i f hf;have e2':=e2;obtain⟨_,e3,-⟩:=e2';exact⟨q,e1,e2.kt K (hfB q e3.1 (VB.ne e3 qV (by decide)) (VB.gj e3 qml)) ⟨by decide,by decide⟩⟩
theorem LS {D:dh} (h:fx A p D) (hd:D.dn=false) (hs:D.st<1000∧D.ar<1000) (hn:D.ns.length<1000):
 ∃v A',bg af 43 [pV p] A v A'∧v= .int .i64 (u7 D:Int)∧fx A' p (if D.ar=1 then ga D else PQ (ga D))∧KT dT A A':=by
 have kB:=Kp.alloc A (aa 24 [pV p]);have vB:=ay A 24 [pV p];have nB:(A.alloc (aa 24 [pV p])).next=A.next+1:=ae _ _
 generalize hB:A.alloc (aa 24 [pV p])=B at kB vB nB;obtain⟨pf,ml,mn,b,mf,ps,hP⟩:=h.kp kB;obtain⟨E,hE,nE,fE,kE,g1,g2⟩:=hP.step hd hs;have lp:ag af B.get 24 (pw A.next 0)= .ok (pV p):=by
  obtain⟨d,hd,ha⟩:=js;exact vB.ld rfl hd ha
 unfold u7;by_cases h1:D.ar=1
 ·rw [if_pos h1,if_pos h1];obtain⟨g,hg⟩:=g1 h1 (.func (.func 94) ⟨[]⟩ ⟨[pV A.next]⟩);refine⟨_,E,?_,rfl,⟨pf,ml,mn,b,mf,ps,hE⟩,kB.kt.trans kE⟩;simp only [pV] at*;refine aT (g) 60 (aq Tryz.func43) (by kernel_rfl) fun M hM=>?_
  simp (disch:=first|decide+kernel|omega) only [Tryz.f43,Aq,qal,dj,hB,lp,aY,hg]<;>rfl
 ·rw [if_neg h1,if_neg h1];obtain⟨F,hF,hD,kF⟩:=Ih ⟨pf,ml,mn,b,mf,ps,hE⟩ (kE.vb vB (by decide)) hn;obtain⟨g,hg⟩:=g2 h1 _ _ _ _ hF;refine⟨_,F,?_,rfl,hD,(kB.kt.trans kE).trans kF⟩;simp only [pV] at*;refine aT (g) 60 (aq Tryz.func43) (by kernel_rfl) fun M hM=>?_
  simp (disch:=first|decide+kernel|omega) only [Tryz.f43,Aq,qal,dj,hB,lp,aY,hg]<;>rfl
variable {i:Nat}
theorem HR (hnd:ns.Nodup) (hi:ns[i]?=some w):numOf ns w=i+1:=by
 obtain⟨hl,rfl⟩:=qap.1 hi;unfold numOf;have:ns.findIdx? (fun n=>decide (ns[i]=n))=some i:=by
  rw [qco];refine⟨hl,by simp,fun j hj=>?_⟩;simp only [decide_eq_true_eq];exact fun e=>qbs.1 hnd j i (by omega) hl hj e.symm
 rw [this];rfl
theorem Wj:∃d,af.ba 155=some d∧bQ d=false:=a8 (by kernel_rfl)
variable {pf mf:Nat} {cs:List Value} {ps:List Nat}
theorem L7 {z1 z2 z3 q f e:Nat} {D:dh} (h:jf A p D pf ml mn b mf ps) (v1:VB A 24 z1 (.var 1) [pV p]) (v2:VB A 9 z2 (.var 1) [aj w]) (v3:VB A 155 z3 (.var 1) [.func (.func f) ⟨[]⟩ ⟨cs⟩])
 (hi:D.ns[i]?=some w) (hq:ps[i]?=some q) (hc:bg af f (pV q::cs) A (.int .i64 e) B):bg af 150 [pV z1,pV z2,pV z3] A (.int .i64 e) B:=by
 obtain⟨hV,⟨x,rows,qV,-,⟨-,qmn⟩,-⟩,⟨-,hmf⟩,⟨-,-,-,hnn⟩,-⟩:=h;obtain⟨g1,h1⟩:=yR (w:=w) qV qmn;rw [HR hnn hi] at h1;have lk:=pQ hmf hq;have l1:ag af A.get 24 (pw z1 0)= .ok (pV p):=by
  obtain⟨d,hd,ha⟩:=js;exact v1.ld rfl hd ha
 have l2:ag af A.get 9 (pw z2 0)= .ok (aj w):=v2.ld rfl u9 rfl;have l3:ag af A.get 155 (pw z3 0)= .ok (.func (.func f) ⟨[]⟩ ⟨cs⟩):=by
  obtain⟨d,hd,ha⟩:=Wj;exact v3.ld rfl hd ha
 have lpf:ag af A.get 78 (pw p 0)= .ok (pV pf):=by
  obtain⟨d,hd,ha⟩:=qz;exact hV.ld rfl hd ha
 have lmf:ag af A.get 79 (pw p 1)= .ok (.map (some mf)):=hV.ld rfl zp rfl;obtain⟨g2,h2⟩:=hc;simp only [pV] at*;refine aT (g1+g2) 60 (aq Tryz.func150) (by kernel_rfl) fun M hM=>?_
 simp (config:={maxSteps:=4000000}) (disch:=first|decide+kernel|omega|simp only [Wq,qal]) only [Tryz.f150,Aq,qaq,reduceIte,qal,qam,l1,l2,l3,lpf,lmf,ak,aF,qj,AI,h1,qau,qav,qeb,fS,lk,yE,mM,h2,Fq,aA []]<;>rfl
theorem JX {f:Nat} {D:dh} (h:jf A p D pf ml mn b mf ps) (hd:D.dn=false) (hs:D.st<1000∧D.ar<1000) (hi:D.ns[i]?=some w):
 ∃B,jf B p (ga D) pf ml mn b mf ps∧KT dT A B∧(D.ar=1→bg af 87 [pV p,aj w,.func (.func f) ⟨[]⟩ ⟨cs⟩] A (iN 13) B)∧
  (D.ar≠1→∀(q e:Nat) (C:Mem),ps[i]?=some q→bg af f (pV q::cs) B (.int .i64 e) C→bg af 87 [pV p,aj w,.func (.func f) ⟨[]⟩ ⟨cs⟩] A (.int .i64 e) C):=by
 have k1:=Kp.alloc A (aa 24 [pV p]);have v1:=ay A 24 [pV p];have n1:(A.alloc (aa 24 [pV p])).next=A.next+1:=ae _ _
 generalize hB1:A.alloc (aa 24 [pV p])=B1 at k1 v1 n1;have k2:=Kp.alloc B1 (aa 9 [aj w]);have v2:=ay B1 9 [aj w];have n2:(B1.alloc (aa 9 [aj w])).next=A.next+2:=by rw [ae,n1]
 generalize hB2:B1.alloc (aa 9 [aj w])=B2 at k2 v2 n2;have k3:=Kp.alloc B2 (aa 155 [.func (.func f) ⟨[]⟩ ⟨cs⟩]);have v3:=ay B2 155 [.func (.func f) ⟨[]⟩ ⟨cs⟩];have n3:(B2.alloc (aa 155 [.func (.func f) ⟨[]⟩ ⟨cs⟩])).next=A.next+3:=by rw [ae,n2]
 generalize hB3:B2.alloc (aa 155 [.func (.func f) ⟨[]⟩ ⟨cs⟩])=B3 at k3 v3 n3;rw [n1] at v2;rw [n2] at v3;have v1':=(v1.kp k2).kp k3;have v2':=v2.kp k3;have kB:=(k1.trans k2).trans k3;obtain⟨E,hE,nE,fE,kE,g1,g2⟩:=(h.kp kB).step hd hs;have lp:ag af B3.get 24 (pw A.next 0)= .ok (pV p):=by
  obtain⟨d,hd,ha⟩:=js;exact v1'.ld rfl hd ha
 refine⟨E,hE,kB.kt.trans kE,fun h1=>?_,fun h1 q e C hq hc=>?_⟩
 ·obtain⟨g,hg⟩:=g1 h1 (.func (.func 150) ⟨[]⟩ ⟨[pV A.next,pV (A.next+1),pV (A.next+2)]⟩);simp only [pV] at*;refine aT (g) 60 (aq Tryz.func87) (by kernel_rfl) fun M hM=>?_
  simp (disch:=first|decide+kernel|omega) only [Tryz.f87,Aq,qal,dj,eA,hB1,hB2,hB3,n1,n2,lp,aY,hg]<;>rfl
 ·obtain⟨g,hg⟩:=g2 h1 _ _ _ _ (L7 hE (kE.vb v1' (by decide)) (kE.vb v2' (by decide)) (kE.vb v3 (by decide)) hi hq hc);simp only [pV] at*;refine aT (g) 60 (aq Tryz.func87) (by kernel_rfl) fun M hM=>?_
  simp (disch:=first|decide+kernel|omega) only [Tryz.f87,Aq,qal,dj,eA,hB1,hB2,hB3,n1,n2,lp,aY,hg]<;>rfl
def P' (D:dh) (i:Nat) (f:List UInt8×List UInt8):dh:={D with fs:=D.fs.set i (f.1++f.2,[])}
theorem LW {D:dh} {f:List UInt8×List UInt8} (h:fx A p D) (hd:D.dn=false) (hs:D.st<1000∧D.ar<1000) (hi:D.ns[i]?=some w) (hf:D.fs[i]?=some f):
 ∃v A',bg af 41 [pV p,aj w] A v A'∧v= .int .i64 (u7 D:Int)∧fx A' p (if D.ar=1 then ga D else P' (ga D) i f)∧KT dT A A':=by
 obtain⟨pf,ml,mn,b,mf,ps,hP⟩:=h;obtain⟨B,hB,kB,g1,g2⟩:=JX (f:=92) (cs:=[]) hP hd hs hi;unfold u7;by_cases h1:D.ar=1
 ·rw [if_pos h1,if_pos h1];obtain⟨g,hg⟩:=g1 h1;refine⟨_,B,?_,rfl,⟨pf,ml,mn,b,mf,ps,hB⟩,kB⟩;simp only [pV] at*;refine aT (g) 60 (aq Tryz.func41) (by kernel_rfl) fun M hM=>?_
  simp (disch:=first|decide+kernel|omega) only [Tryz.f41,Aq,qal,oM,hg]<;>rfl
 ·rw [if_neg h1,if_neg h1];obtain⟨q,hq,a,e2,-⟩:=hB.2.2.2.2.1 i f hf;obtain⟨v,C,⟨g3,h3⟩,rfl,h4,nC,fC⟩:=L0 e2;obtain⟨s1,s2⟩:=hB.set hq (f:=(f.1++f.2,[])) ⟨_,by rw [qbt];exact h4,.inl ⟨rfl,rfl⟩⟩ (by omega) fun z _=>fC z
  have h5:bg af 92 [pV q] B (iN 0) C:=by
   simp only [pV] at*;refine aT (g3) 60 (aq Tryz.func92) (by kernel_rfl) fun M hM=>?_
   simp (disch:=first|decide+kernel|omega) only [Tryz.f92,Aq,qal,h3]<;>rfl
  obtain⟨g,hg⟩:=g2 h1 q 0 C hq h5;refine⟨_,C,?_,rfl,⟨pf,ml,mn,b,mf,ps,s1⟩,kB.trans s2⟩;simp only [pV] at*;refine aT (g) 60 (aq Tryz.func41) (by kernel_rfl) fun M hM=>?_
  simp (disch:=first|decide+kernel|omega) only [Tryz.f41,Aq,qal,oM,hg]<;>rfl
end Go.Proofs.YtjoceidiioppiaaGreatDoor.sto
namespace Go.Am
section
variable {tb:bO}
variable {t:T Value} {n:Nat} {A A':Mem} {v:Value}
theorem W.Dp {f:Operand} {ps:Array Tmp} {a b:Code} {d:List Nat} {K:Ex→St→Prop} {fid:FuncId} {first capt:List Value} {r:f_} {e:Ex}
 (hf:ev t f= .ok (.func (.func fid) ⟨first⟩ ⟨capt⟩))
 (hc:bg tb fid (first++[.func (.yield (A.next+1)) ⟨[]⟩ ⟨[]⟩]++capt) ((A.alloc .defd).alloc (.loop (iZ t n ps.toList a b A.next))) v A')
 (hr:A'.get (A.next+1)=some (.loop r)) (hst:r.state≠ .busy) (hp:(r.pending=none∧e= .nrm)∨(r.pending=some .ret∧e= .ret))
 (k:K e ⟨t,n,A.next::d,A'.set (A.next+1) (.loop {r with state:=.exhausted}),none⟩):W tb (.rangeFunc f ps a b) ⟨t,n,d,A,none⟩ K:=by
 obtain⟨g,hg⟩:=hc;refine⟨_,_,⟨g+1,fun m=>?_⟩,k⟩;rw [show m+(g+1)=(m+g)+1 by omega,jR];have h1:=hg (m+g) (by omega);unfold fU;simp only [hf,R.aw];have hn:(A.alloc .defd).next=A.next+1:=ae _ _
 rw [hn];have hcal:∀g':Nat→Option Ob,iG tb g' (.func (.func fid) ⟨first⟩ ⟨capt⟩) [.func (.yield (A.next+1)) ⟨[]⟩ ⟨[]⟩]= .ok (.fn fid (first++[.func (.yield (A.next+1)) ⟨[]⟩ ⟨[]⟩]++capt)):=fun _=>rfl
 rw [hcal,R.aw];unfold iZ at h1;rw [h1,R.aw];simp only [hr];rcases hp with⟨hp,rfl⟩|⟨hp,rfl⟩
 all_goals
  simp only [hp];cases hs:r.state with
  |busy=>exact absurd hs hst
  |_=>rfl
variable {k:Nat}
theorem W.Z0 {c:Code} {ro:Option Nat} {K:Ex→St→Prop} (N:Nat) (P:Nat→T Value→Mem→List Nat→Prop)
 (hb:∀k t A d,k≤N→P k t A d→W tb c ⟨t,n,d,A,ro⟩ fun e s'=>match e with
  | .nrm=>k<N∧∃t' A' d',s'=⟨t',n,d',A',ro⟩∧P (k+1) t' A' d'
  |e=>K e s') {d:List Nat} (hk:k≤N) (hp:P k t A d):W tb (.loop c) ⟨t,n,d,A,ro⟩ K:=by
 have main:∀j k t A d,k+j=N→P k t A d→W tb (.loop c) ⟨t,n,d,A,ro⟩ K:=by
  intro j
  induction j with
  |zero=>
   intro k t A d hk hp;refine W.round ((hb k t A d (by omega) hp).mono fun e s' h=>?_);cases e with
   |nrm=>exact absurd h.1 (by omega)
   |_=>exact h
  |succ j ih=>
   intro k t A d hk hp;refine W.round ((hb k t A d (by omega) hp).mono fun e s' h=>?_);cases e with
   |nrm=>
    obtain⟨_,t',A',d',rfl,h'⟩:=h;exact ih (k+1) t' A' d' (by omega) h'
   |_=>exact h
 exact main (N-k) k t A d (by omega) hp
theorem LI {l:Nat} {args:List Value} {r:f_} {Q:Mem→Prop} (hl:A.get l=some (.loop r)) (ht:setArgs r.n r.params args r.tmps= .ok t)
 (h:W tb r.assign ⟨t,r.n,[],A,some l⟩ fun e s1=>e= .nrm∧∃r1,s1.m.get l=some (.loop r1)∧r1.state= .ready∧W tb r.body ⟨s1.t,s1.n,s1.d,s1.m.set l (.loop {r1 with state:=.busy}),s1.ro⟩ fun e s2=>e= .ret∧s2.d=[]∧∃r2,s2.m.get l=some (.loop r2)∧Q (s2.m.set l (.loop {r2 with state:=.done,pending:=some .ret}))):
 ∃A',(∃g,∀M,g≤M→bA tb (exec tb M) (.round l args) A= .ok (.val (.bool false) A'))∧Q A':=by
 obtain⟨e,s1,⟨f1,h1⟩,rfl,r1,hr1,hst1,e2,s2,⟨f2,h2⟩,rfl,hd,r2,hr2,hQ⟩:=h;refine⟨_,⟨f1+f2,fun M hM=>?_⟩,hQ⟩;show nw (exec tb M) l args A=_;unfold nw;have e1:=h1 (M-f1);rw [qce (by omega)] at e1;have e2:=h2 (M-f2);rw [qce (by omega)] at e2;simp only [hl,ht,R.aw,e1,hr1,hst1,e2,hd,hr2]
theorem fX:∀(ds:List Nat) (A:Mem),ds.Nodup→(∀d∈ds,A.get d=some .defd)→∃A',eW ds A= .ok A'∧A'.next=A.next∧∀z,z∉ds→A'.get z=A.get z
 | [],A,_,_=>⟨A,rfl,rfl,fun _ _=>rfl⟩
 |d::ds,A,hn,h=>by
  obtain⟨h1,h2⟩:=qee.1 hn;obtain⟨A',e1,e2,e3⟩:=fX ds (A.set d .dead) h2 fun x hx=>by rw [aC,if_neg (by rintro rfl;exact h1 hx)];exact h x (qay _ hx)
  refine⟨A',?_,by rw [e2];exact aO _ _ _,fun z hz=>?_⟩
  ·show(match A.get d with|some .defd=>eW ds (A.set d .dead)|_=>.no 240)=_;rw [h d qaz];exact e1
  ·rw [qaK,not_or] at hz;rw [e3 z hz.2,aC,if_neg hz.1]
end
end Go.Am
namespace Go.Proofs.YtjoceidiioppiaaGreatDoor.sto
open Go.Am Go.Mdl Go.Sto
theorem Mw:af.ba 91=some (.slice 9):=by kernel_rfl
theorem PY:aR af 91= .ok 1:=by kernel_rfl
theorem WI:bS af 91= .ok (.slice none 0 0):=by kernel_rfl
theorem z9:aR af 9= .ok 1:=by kernel_rfl
theorem qai:cm af 9= .ok (1,[.string .empty]):=by kernel_rfl
theorem qaf:∃i,af.ty.get 9=some i∧0<i.bytes∧i.bytes≤65536:=by
 have h:(af.ty.get 9).map (fun i=>qax 0 i.bytes&&qaq i.bytes 65536)=some true:=by kernel_rfl
 cases hq:af.ty.get 9 with
 |none=>rw [hq] at h;cases h
 |some i=>
  rw [hq] at h;simp only [qa5,qaX,qaO,qaH] at h;exact⟨i,rfl,h.1,qaG h.2⟩
variable {w:List UInt8}
theorem Ur:a6 af 91 1 [(0,aj w)]= .ok (aa 9 [aj w],.mO 1 2):=by kernel_rfl
abbrev B' (A:Mem) (b:Nat) (l:List (List UInt8)) (x:Value):Prop:=az A 9 1 b (l.map fun n=>[aj n]) x
variable {A:Mem} {m:Nat}
theorem L5:bg af 127 [.map (some m)] A (.func (.func 183) ⟨[]⟩ ⟨[pV A.next]⟩) (A.alloc (aa 199 [.map (some m)])):=by
 simp only [pV];refine bm 60 (aq Tryz.func127) (by kernel_rfl) fun M=>?_
 simp (disch:=first|decide+kernel|omega) only [Tryz.f127,Aq,qal,KU,e9,aY]<;>rfl
theorem L6 {x:Value} (hx:x.cells.toList=[x]):bg af 128 [x] A (.func (.func 184) ⟨[]⟩ ⟨[pV A.next]⟩) (A.alloc (aa 91 [x])):=by
 simp only [pV];refine bm 60 (aq Tryz.func128) (by kernel_rfl) fun M=>?_
 simp (disch:=first|decide+kernel|omega) only [Tryz.f128,Aq,qal,hx,e9,aY]<;>rfl
variable {B:Mem} {n b:Nat} {ls:List (List Value)}
theorem az.W_ {e:TypeId} {x:Value} (h:az A e n b ls x) (k:A.next≤B.next) (hz:x= .slice none 0 0∨B.get b=A.get b):az B e n b ls x:=by
 rcases hz with rfl|hz
 ·rcases h with h|⟨_,_,h,-⟩
  ·exact .inl h
  ·cases h
 ·exact h.same k fun _=>hz
noncomputable def Ni:Code:=qeO.body.getD .skip
noncomputable def GW:Code:=sub Ni [1,0,0]
theorem Rb:qeO.body=some (.seq (sub Ni [0]) (.block 0 (.loop GW))):=by kernel_rfl
theorem PI {q lp:Nat} {x:Value} {ls:List (List UInt8)} {Inv:Nat→Mem→Prop} (v1:VB B 91 q (.var 1) [x]) (hx:B' B b ls x) (hl:ls.length<1000000) (hk:∀j D,Inv j D→B.next≤D.next∧D.get q=B.get q∧D.get b=B.get b)
 (hc:∀j n D,ls[j]?=some n→Inv j D→∃E,(∃g,∀M,g≤M→bA af (exec af M) (.round lp [aj n]) D= .ok (.val (.bool true) E))∧Inv (j+1) E) (hI:Inv 0 B):
 ∃v C,bg af 184 [.func (.yield lp) ⟨[]⟩ ⟨[]⟩,pV q] B v C∧Inv ls.length C:=by
 refine cF (aq Tryz.func184) Rb (by kernel_rfl) ?_;have l1:ag af B.get 91 (pw q 0)= .ok x:=v1.ld rfl Mw rfl;have len:=az.len (tb:=af) hx Mw;rw [qas] at len;simp only [pV];apply W.q
 ·intro M;simp (disch:=first|decide+kernel|omega) only [Ni,qeO,Aq,qal,l1,len];rfl
 apply W.block;refine W.up ls.length (fun j t D=>Inv j D∧Sl t [(0,.func (.yield lp) ⟨[]⟩ ⟨[]⟩),(5,x),(6,iN ls.length),(7,.int .i64 j)]) ?_ (qaB _) ⟨hI,?_⟩
 ·rintro j t D hj ⟨hI,g0,g5,g6,g7,-⟩;by_cases hlt:j<ls.length
  ·have hsj:ls[j]?=some ls[j]:=qan hlt;obtain⟨d1,-,d3⟩:=hk j D hI;have hxD:B' D b ls x:=hx.same d1 fun _=>d3
   have j1:=az.idx (tb:=af) (t:=91) (i:=j) (kd:=.i64) hxD Mw z9 (by rw [qas];exact hlt);have j2:=az.load (tb:=af) (t:=9) (j:=0) hxD u9 rfl (show(ls.map fun n=>[aj n])[j]?=some [aj ls[j]] by rw [qaN,hsj];rfl) rfl (by omega);rw [qa8] at j2;obtain⟨E,⟨g,hg⟩,hE⟩:=hc j _ D hsj hI;apply W.cN (g) 20
   ·intro M hM;simp (disch:=first|decide+kernel|omega) only [GW,Ni,qeO,Aq,qal,g0,g5,g6,g7,hlt,j1,j2,hg];rfl
   refine⟨hlt,_,E,rfl,hE,?_⟩;simp only [Sq,qal,qam,g0,g5,g6]
  ·have e:j=ls.length:=by omega
   subst e;apply W.run 20
   ·intro M;simp (disch:=first|decide+kernel|omega) only [GW,Ni,qeO,Aq,qal,g6,g7];rfl
   exact⟨by simp,rfl,_,(by simp only [qeO,Aq,qal]<;>rfl),hI⟩
 ·simp only [Sq,qal,qam]
noncomputable def Gq:Code:=qdP.body.getD .skip
noncomputable def Ru:Code:=sub Gq [1,1,1,0,1,0,0]
noncomputable def Rv:Code:=sub Gq [1,1,1,0,1,0,1]
theorem Uy:qdP.body=some (.seq (sub Gq [0]) (.seq (sub Gq [1,0]) (.seq (sub Gq [1,1,0]) (.seq (.seq (sub Gq [1,1,1,0,0]) (.block 0 (.rangeFunc (.tmp 14) #[15] Ru Rv))) (.seq (sub Gq [1,1,1,1,0]) (sub Gq [1,1,1,1,1])))))):=by kernel_rfl
theorem EK:∀l:List (List UInt8),(l.map fun n=>[aj n]).flatten=l.map aj
 | []=>rfl
 |n::l=>by rw [qbx,qb3,EK l];rfl
noncomputable def Dc (t:T Value) (d:Nat):f_:=iZ t 21 [15] Ru Rv d
def ug (ns:List (List UInt8)):Prop:=ns≠ []∧ns.Nodup∧ns.length<1000∧∀n∈ns,n.length<1000
variable {p:Nat} {y:Value} {ns:List (List UInt8)}
theorem BB {a x:Value} (h:VB A 201 p (.var 4) [a,.map (some m),x,y]) (hm:m<A.next∧A.get m=some (.map (bB ns 0) ns.length)) (hn:ug ns):
 ∃v A',bg af 67 [pV p] A v A'∧(∃b,B' A' b (fW ns) v)∧Kp A A':=by
 refine eL (aq Tryz.func67) Uy (by rw [Tryz.ntmps67];simp) (by kernel_rfl) (by kernel_rfl) ?_;generalize hk:A.next=k
 have sl:(fW ns).length=ns.length:=List.length_mergeSort ns;have hlen:ns.length<1000:=hn.2.2.1;have kB:=Kp.alloc A (aa 91 [.slice none 0 0]);have vB:=ay A 91 [.slice none 0 0];have nB:(A.alloc (aa 91 [.slice none 0 0])).next=k+1:=by rw [ae,hk]
 rw [hk] at vB;simp only [pV];apply W.q
 ·intro M;simp (disch:=first|decide+kernel|omega) only [Gq,qdP,Aq,qal,WI,hk];rfl
 generalize A.alloc (aa 91 [.slice none 0 0])=B at*;have lm:ag af B.get 199 (pw p 1)= .ok (.map (some m)):=(h.kp kB).ld rfl pj rfl;obtain⟨g1,h1⟩:=L5 (A:=B) (m:=m);have kC:=Kp.alloc B (aa 199 [.map (some m)]);have vC:=ay B 199 [.map (some m)];have nC:(B.alloc (aa 199 [.map (some m)])).next=k+2:=by rw [ae,nB]
 rw [nB] at vC;generalize B.alloc (aa 199 [.map (some m)])=C at*;have hmC:C.get m=some (.map (bB ns 0) ns.length):=by rw [(kB.trans kC).2 m hm.1];exact hm.2
 have sat:iL [.func (.func 183) ⟨[]⟩ ⟨[pw (k+1) 0]⟩] C ns:=⟨k+1,m,rfl,vC,hmC,hn.1,hn.2.1,hn.2.2⟩;have h2:=fun ih=>RY (ih:=ih) sat
 unfold kc at h2;rw [nC] at h2;have kD:=Kp.alloc C (.cells 9 .row 0 (T.bK .e 0 ((fW ns).map aj)));have nD:(C.alloc (.cells 9 .row 0 (T.bK .e 0 ((fW ns).map aj)))).next=k+3:=by rw [ae,nC]
 have hS:B' (C.alloc (.cells 9 .row 0 (T.bK .e 0 ((fW ns).map aj)))) (k+2) (fW ns) (.slice (some ⟨k+2,0,none⟩) ns.length (fQ ns.length 1)):=
  .inr ⟨.row,fQ ns.length 1,by rw [qas,sl],by omega,⟨_,by rw [←nC];exact ax _ _,fun j hj=>by
   rw [EK] at hj⊢;rw [T.dW,if_pos (by omega)];rfl⟩,fun l hl=>by
   obtain⟨n,-,rfl⟩:=qa3.1 hl;rfl,.inr ⟨by rw [qas,sl],.inl rfl⟩⟩
 simp only [pV] at h1;rw [nB] at h1;apply W.q
 ·intro M;simp (disch:=first|decide+kernel|omega) only [Gq,qdP,Aq,qal,bW,NL,bc];rfl
 apply W.qG (g1)
 ·intro M hM;simp (disch:=first|decide+kernel|omega) only [Gq,qdP,Aq,qal,ak,aF,xw,lm,h1,h2];rfl
 generalize C.alloc (.cells 9 .row 0 (T.bK .e 0 ((fW ns).map aj)))=D at*;generalize (Value.slice (some ⟨k+2,0,none⟩) ns.length (fQ ns.length 1))=z at*;obtain⟨g3,h3⟩:=L6 (A:=D) (az.dk hS).1;have kE:=Kp.alloc D (aa 91 [z]);have vE:=ay D 91 [z];have nE:(D.alloc (aa 91 [z])).next=k+4:=by rw [ae,nD]
 simp only [pV] at h3;rw [nD] at h3 vE;apply W.seq;apply W.qG (g3)
 ·intro M hM;simp (disch:=first|decide+kernel|omega) only [Gq,qdP,Aq,qal,h3];rfl
 generalize D.alloc (aa 91 [z])=E at*;apply W.block;generalize ht0:T.set _ _ _=t0;have hsl:Sl t0 [(2,pV k),(14,.func (.func 184) ⟨[]⟩ ⟨[pV (k+3)]⟩)]:=by
  rw [←ht0];simp only [Sq,qal,qam,pV]
 clear ht0;obtain⟨s2,s14,-⟩:=hsl;have nJ1:(E.alloc .defd).next=k+5:=by rw [ae,nE]
 have kJ:=(Kp.alloc E .defd).trans (Kp.alloc (E.alloc .defd) (.loop (Dc t0 (k+4))));have nJ:((E.alloc .defd).alloc (.loop (Dc t0 (k+4)))).next=k+6:=by rw [ae,nJ1]
 have jL:((E.alloc .defd).alloc (.loop (Dc t0 (k+4)))).get (k+5)=some (.loop (Dc t0 (k+4))):=by have:=ax (E.alloc .defd) (.loop (Dc t0 (k+4)));rwa [nJ1] at this
 have jM:((E.alloc .defd).alloc (.loop (Dc t0 (k+4)))).get (k+4)=some .defd:=by rw [(Kp.alloc (E.alloc .defd) _).2 _ (by omega),←nE];exact ax E .defd
 generalize hJ:(E.alloc .defd).alloc (.loop (Dc t0 (k+4)))=J at kJ nJ jL jM;have kDJ:=kE.trans kJ;have hSJ:=hS.same kDJ.1 (kDJ.2 _);have vBJ:=(((vB.kp kC).kp kD).kp kE).kp kJ;obtain⟨ti,t1,t2,t3⟩:=qaf;obtain⟨v,M,hM,hI⟩:=PI (lp:=k+5) (Inv:=fun j D=>(J.next≤D.next∧∀z,z<J.next→z≠k→z≠k+5→D.get z=J.get z)∧D.get (k+5)=some (.loop (Dc t0 (k+4)))∧∃y b,VB D 91 k (.var 1) [y]∧B' D b ((fW ns).take j) y∧(b<k+6→y= .slice none 0 0)) (vE.kp kJ) hSJ (by omega) (fun j D ⟨⟨d1,d2⟩,_⟩=>⟨d1,d2 _ (by omega) (by omega) (by omega),d2 _ (by omega) (by omega) (by omega)⟩) (fun j n D hj ⟨⟨d1,d2⟩,d3,y,b,d4,d5,d6⟩=>by
  generalize hF:D.set (k+5) (.loop {Dc t0 (k+4) with state:=.busy})=F;have nF:F.next=D.next:=by rw [←hF];exact aO _ _ _
  have fF:∀z,z≠k+5→F.get z=D.get z:=fun z hz=>by rw [←hF,aC,if_neg hz]
  have hLF:F.get (k+5)=some (.loop {Dc t0 (k+4) with state:=.busy}):=by rw [←hF,aC,if_pos rfl]
  have lF:ag af F.get 91 (pw k 0)= .ok y:=aQ Mw rfl (d4.2.same (fF k (by omega))) rfl;have kG:=Kp.alloc F (aa 9 [aj n]);have d5F:B' F b ((fW ns).take j) y:=az.W_ d5 (by omega) (by
   by_cases hb:b<k+6
   ·exact .inl (d6 hb)
   ·exact .inr (fF b (by omega)))
  obtain⟨y',G,happ,hs3,hn3,hf3⟩:=(d5F.same kG.1 (kG.2 b)).append (tb:=af) (st:=91) (xt:=91) Mw Mw qai t1 t2 t3 (by omega) (by omega) (by rw [qas,qaE];omega) (ax F _) rfl (by simp [aj,aJ]);rw [ae] at hs3 hn3 hf3;have fG:∀z,z<k+6→G.get z=F.get z:=fun z hz=>by rw [hf3 z (fun e=>d6 (by omega)) (by omega),kG.2 z (by omega)]
  obtain⟨H,sH,vH,nH,fH⟩:=aL (tb:=af) (t:=91) (o:=0) (v:=y') PY (d4.2.same (by rw [fG k (by omega),fF k (by omega)])) (by simp) (az.dk hs3).1 (az.dk hs3).2;have bs:=Ur (w:=n);have hq:∃C,(∃g,∀N,g≤N→bA af (exec af N) (.round (k+5) [aj n]) D= .ok (.val (.bool true) C))∧C=H.set (k+5) (.loop (Dc t0 (k+4))):=by
   refine j7 d3 (t:=t0.set 15 (aj n)) rfl ?_;show W af Ru ⟨_,21,[],D,some (k+5)⟩ _;simp only [pV] at s2;apply W.run 20
   ·intro M;simp (disch:=first|decide+kernel|omega) only [Ru,Gq,qdP,Aq,qal];rfl
   refine⟨rfl,_,d3,rfl,?_⟩;show W af Rv ⟨_,21,[],D.set (k+5) (.loop {Dc t0 (k+4) with state:=.busy}),some (k+5)⟩ _;rw [hF];apply W.run 20
   ·intro M;simp (disch:=first|decide+kernel|omega) only [Rv,Gq,qdP,Aq,qal,s2,lF,bs,happ,sH];rfl
   exact⟨rfl,rfl,_,by rw [fH _ (by omega),fG _ (by omega)];exact hLF,rfl⟩
  obtain⟨C,hc,rfl⟩:=hq;have fr:∀z,z≠k+5→(H.set (k+5) (.loop (Dc t0 (k+4)))).get z=H.get z:=fun z hz=>by rw [aC,if_neg hz]
  have nr:(H.set (k+5) (.loop (Dc t0 (k+4)))).next=H.next:=aO _ _ _
  refine⟨_,hc,⟨by omega,fun z hz h1 h2=>by rw [fr z h2,fH z h1,fG z (by omega),fF z h2,d2 z hz h1 h2]⟩,by rw [aC,if_pos rfl],y',F.next+1,⟨by omega,vH.same (fr k (by omega))⟩,?_,fun h=>by omega⟩;have e:=hs3.same (A':=H.set (k+5) (.loop (Dc t0 (k+4)))) (by omega) fun _=>by rw [fr _ (by omega),fH _ (by omega)]
  rw [List.take_add_one,hj];show az _ _ _ _ (((fW ns).take j++[n]).map _) _;rw [qbe];exact e) ⟨⟨qao _,fun _ _ _ _=>rfl⟩,jL,.slice none 0 0,k+6,vBJ,az.nil _ _ _ _,fun h=>by omega⟩
 rw [qaR] at hI;obtain⟨⟨i1,i2⟩,i3,y,b,i4,i5,i6⟩:=hI;refine W.tR (fid:=184) (first:=[]) (capt:=[pV (k+3)]) (v:=v) (A':=M) (r:=Dc t0 (k+4)) (by simp only [ev,s14]) (by
  rw [nE];show bg af 184 _ ((E.alloc .defd).alloc (.loop (Dc t0 (k+4)))) v M;rw [hJ];exact hM) (by rw [nE];exact i3) (by simp [Dc,iZ]) rfl ?_
 rw [nE];generalize hN:M.set (k+5) (.loop {Dc t0 (k+4) with state:=.exhausted})=N;have nN:N.next=M.next:=by rw [←hN];exact aO _ _ _
 have fN:∀z,z≠k+5→N.get z=M.get z:=fun z hz=>by rw [←hN,aC,if_neg hz]
 have lN:ag af N.get 91 (pw k 0)= .ok y:=aQ Mw rfl (i4.2.same (fN k (by omega))) rfl;obtain⟨O,sO,vO,nO,fO⟩:=aL (tb:=af) (t:=91) (o:=0) (v:=y) PY (i4.2.same (fN k (by omega))) (by simp) (az.dk i5).1 (az.dk i5).2;obtain⟨Q,m1,m2,m3⟩:=fX [k+4] O (by simp) (fun d hd=>by
  rw [qaY.1 hd,fO _ (by omega),fN _ (by omega),i2 _ (by omega) (by omega) (by omega)];exact jM)
 have lQ:ag af Q.get 91 (pw k 0)= .ok y:=aQ Mw rfl (vO.same (m3 k (by simp))) rfl;simp only [pV] at s2;apply W.q
 ·intro M;simp (disch:=first|decide+kernel|omega) only [Gq,qdP,Aq,qal,s2,lN,sO];rfl
 apply W.run 20
 ·intro M;simp (disch:=first|decide+kernel|omega) only [Gq,qdP,Aq,qal];rfl
 refine⟨.inr rfl,Q,_,m1,(by simp only [qdP,s2,lQ,Aq,qal]<;>rfl),⟨b,?_⟩,by omega,fun z hz=>?_⟩
 ·refine az.W_ i5 (by omega) ?_;by_cases hb:b<k+6
  ·exact .inl (i6 hb)
  ·exact .inr (by rw [m3 b (by simp;omega),fO b (by omega),fN b (by omega)])
 ·rw [m3 z (by simp;omega),fO z (by omega),fN z (by omega),i2 z (by omega) (by omega) (by omega),kDJ.2 z (by omega),kD.2 z (by omega),kC.2 z (by omega),kB.2 z (by omega)]
def Ky (D:dh):Prop:=ug D.ns∧fW D.ns=D.ns
theorem LP {D:dh} (h:fx A p D) (hd:D.dn=false) (hn:Ky D):∃v A',bg af 52 [pV p] A v A'∧(∃b,B' A' b D.ns v)∧Kp A A':=by
 obtain⟨pf,ml,mn,b,mf,ps,hV,⟨x,rows,qV,-,qm,-⟩,-⟩:=h;rw [hd] at hV;obtain⟨g1,h1⟩:=FJ hV;have lpf:ag af A.get 78 (pw p 0)= .ok (pV pf):=by
  obtain⟨d,hd,ha⟩:=qz;exact hV.ld rfl hd ha
 obtain⟨v,A',⟨g2,h2⟩,⟨b,h3⟩,h4⟩:=BB qV qm hn.1;rw [hn.2] at h3;refine⟨v,A',?_,⟨b,h3⟩,h4⟩;have hv:=(az.dk h3).2;simp only [pV] at*;refine aT (g1+g2) 60 (aq Tryz.func52) (by kernel_rfl) fun M hM=>?_
 simp (disch:=first|decide+kernel|omega) only [Tryz.f52,Aq,qal,iW,h1,ak,aF,qj,lpf,h2]<;>rfl
theorem vS {D:dh} (h:fx A p D):D.all.length=D.ns.length∧D.all.map (·.1)=D.ns:=by
 obtain⟨pf,ml,mn,b,mf,ps,-,-,-,⟨-,h5,-⟩,-⟩:=h;have e1:D.all.map (·.1)=D.ns:=List.map_fst_zip (by rw [qas];omega);exact⟨by rw [←e1,qas],e1⟩
variable {i:Nat}
theorem LQ {D:dh} {s:List UInt8×List UInt8} (h:fx A p D) (hd:D.dn=false) (hi:D.all[i]?=some s):∃q,bg af 53 [pV p,aj s.1] A (.tuple ⟨[pV q,iN 0]⟩) A∧bg af 54 [pV q] A (aj s.2) A:=by
 obtain⟨he,hm⟩:=vS h;obtain⟨pf,ml,mn,b,mf,ps,hP⟩:=h;obtain⟨pf',mf',mn',cf,cn,ps',ml',q,st,ar,x,y,h1,h2,⟨-,h3⟩,⟨-,h4⟩,h5⟩:=hP.at hd;have hr:=run_read (w:=s.1) h1 h2 h3 h4 fun i s hs=>(h5 i s hs).imp fun b hb=>hb.choose_spec.choose_spec.1
 obtain⟨bq,d,a,e1,e2⟩:=h5 i s hi;have hnum:numOf (D.all.map (·.1)) s.1=i+1:=HR (by rw [hm];exact hP.2.2.2.1.2.2.2) (by rw [qaN,hi];rfl);rw [hnum] at hr;refine⟨bq,?_,Bx e2⟩;unfold uy at hr;rw [if_neg (qdv i),if_neg (qdv i),qbW,e1] at hr;exact hr
noncomputable def Ng:Code:=qej.body.getD .skip
noncomputable def Nh:Code:=sub Ng [1,0,1,0,0]
theorem Ut:qej.body=some (.seq (sub Ng [0]) (.seq (.seq (sub Ng [1,0,0]) (.block 0 (.loop Nh))) (.seq (sub Ng [1,1,0]) (sub Ng [1,1,1])))):=by kernel_rfl
theorem H7 {D:dh} (h:fx A p D) (hd:D.dn=false) (hn:Ky D):∃v A',bg af 17 [pV p] A v A'∧BX A' D.all v∧Kp A A':=by
 refine cF (aq Tryz.func17) Ut (by kernel_rfl) ?_;obtain⟨hl,hm⟩:=vS h;obtain⟨v,B,⟨g1,h1⟩,⟨b,hb⟩,kB⟩:=LP h hd hn;have hlen:=az.len (tb:=af) hb Mw;rw [qas] at hlen;have hnl:=hn.1.2.2.1;simp only [pV] at h1;apply W.q
 ·intro M;simp (disch:=first|decide+kernel|omega) only [Ng,qej,Aq,qal];rfl
 apply W.seq;apply W.seq;simp only [pV];apply W.cN (g1) 20
 ·intro M hM;simp (disch:=first|decide+kernel|omega) only [Ng,qej,Aq,qal,h1,hlen];rfl
 apply W.block;refine W.up D.ns.length (fun i t C=>∃b' y,az C 94 2 b' ((D.all.take i).map lZ) y∧Kp B C∧B.next≤b'∧Sl t [(0,pw p 0),(2,y),(8,v),(9,iN D.ns.length),(10,.int .i64 i)]) ?_ (qaB _) ⟨B.next,_,az.nil _ _ _ _,Kp.refl _,qao _,?_⟩
 ·rintro i t C hi ⟨b',y,hy,kC,hb',g0,g2,g8,g9,g10,-⟩;by_cases hlt:i<D.ns.length
  ·have hs:D.all[i]?=some D.all[i]:=qan (by omega);have hw:D.ns[i]?=some D.all[i].1:=by rw [←hm,qaN,hs];rfl
   have htk:D.all.take (i+1)=D.all.take i++[D.all[i]]:=qaC (by omega);generalize D.all[i]=s at*;have hbC:=hb.same kC.1 (kC.2 b);have j1:=az.idx (tb:=af) (t:=91) (i:=i) (kd:=.i64) hbC Mw z9 (by rw [qas];exact hlt);have j2:=az.load (tb:=af) (t:=9) (j:=0) hbC u9 rfl (show(D.ns.map fun n=>[aj n])[i]?=some [aj s.1] by rw [qaN,hw];rfl) rfl (by omega);rw [qa8] at j2;obtain⟨q,⟨g3,h3⟩,⟨g4,h4⟩⟩:=LQ ((h.kp kB).kp kC) hd hs;obtain⟨y',E,happ,hs',nE,fE⟩:=QN (f:=s) hy (by rw [qaE];omega);have bd:=Za (a:=s.1) (b:=s.2);have bs:=Zf (f:=s);have hkn:=kC.1;simp only [pV] at h3 h4;apply W.cN (g3+g4) 20
   ·intro M hM;simp (disch:=first|decide+kernel|omega) only [Nh,Ng,qej,Aq,qal,g0,g2,g8,g9,g10,hlt,j1,j2,h3,h4,qau,qav,bd,bs,happ];rfl
   refine⟨hlt,_,E,rfl,C.next+1,y',by rw [htk];exact hs',⟨by omega,fun z hz=>?_⟩,by omega,?_⟩
   ·rw [fE z (fun e=>by omega) (by omega),kC.2 z hz]
   ·simp only [Sq,qal,qam,g0,g8,g9]
  ·have e:i=D.ns.length:=by omega
   subst e;rw [←hl,qaR] at hy;have hyc:=az.dk hy;apply W.run 20
   ·intro M;simp (disch:=first|decide+kernel|omega) only [Nh,Ng,qej,Aq,qal,g9,g10];rfl
   apply W.q
   ·intro M;simp (disch:=first|decide+kernel|omega) only [Ng,qej,Aq,qal,g2];rfl
   apply W.run 20
   ·intro M;simp (disch:=first|decide+kernel|omega) only [Ng,qej,Aq,qal];rfl
   exact⟨by simp,rfl,_,(by simp only [qej,Aq,qal]<;>rfl),⟨b',hy⟩,kB.trans kC⟩
 ·simp only [Sq,qal,qam]
noncomputable def Nq:Code:=qeo.body.getD .skip
noncomputable def Nr:Code:=sub Nq [1,0,1,0,0]
theorem UC:qeo.body=some (.seq (sub Nq [0]) (.seq (.seq (sub Nq [1,0,0]) (.block 0 (.loop Nr))) (.seq (sub Nq [1,1,0]) (sub Nq [1,1,1])))):=by kernel_rfl
def je (l:List (List UInt8×List UInt8)):Nat:=(l.map fun f=>f.2.length).sum
theorem Mo {l:List (List UInt8×List UInt8)} (h:i<l.length):je (l.take (i+1))=je (l.take i)+l[i].2.length:=by
 unfold je;rw [qaC h,qbe,qeE];simp
theorem Te (l:List (List UInt8×List UInt8)) (i:Nat):je (l.take i)≤je l:=by
 conv=>rhs;rw [←qcx i l]
 unfold je;rw [qbe,qeE];omega
theorem LX {D:dh} (h:fx A p D) (hd:D.dn=false) (hn:Ky D) (hs:je D.all<100000000):∃v A',bg af 90 [pV p] A v A'∧v= .int .i64 (je D.all:Int)∧Kp A A':=by
 refine cF (aq Tryz.func90) UC (by kernel_rfl) ?_;have hnl:D.all.length<1000:=by rw [(vS h).1];exact hn.1.2.2.1
 obtain⟨v,B,⟨g1,h1⟩,hF,kB⟩:=H7 h hd hn;have hlen:=hF.len;simp only [pV] at h1;apply W.q
 ·intro M;simp (disch:=first|decide+kernel|omega) only [Nq,qeo,Aq,qal];rfl
 apply W.seq;apply W.seq;simp only [pV];apply W.cN (g1) 20
 ·intro M hM;simp (disch:=first|decide+kernel|omega) only [Nq,qeo,Aq,qal,h1,hlen];rfl
 apply W.block;refine W.up D.all.length (fun i t C=>Kp B C∧Sl t [(2,.int .i64 (je (D.all.take i):Int)),(6,v),(7,iN D.all.length),(8,.int .i64 i)]) ?_ (qaB _) ⟨Kp.refl _,?_⟩
 ·rintro i t C hi ⟨kC,g2,g6,g7,g8,-⟩;by_cases hlt:i<D.all.length
  ·have hs':D.all[i]?=some D.all[i]:=qan hlt;have ht:=Mo hlt;have hle:=Te D.all (i+1);generalize D.all[i]=s at*;obtain⟨bb,oo,j1,j2,-⟩:=(hF.kp kC).at hs';have sE:aW af (C.alloc (aa 94 [.string .empty,.string .empty])) 94 (pw C.next 0) (.agg ⟨lZ s⟩)= .ok (C.alloc (aa 94 (lZ s))):=bk z27 rfl rfl (by simp) (Jc s);have kE:=Kp.alloc C (aa 94 (lZ s));have vE:=ay C 94 (lZ s);generalize C.alloc (aa 94 (lZ s))=E at sE kE vE;have l1:ag af E.get 9 (pw C.next (0+1))= .ok (aj s.2):=vE.ld rfl u9 rfl;have ll:=cP (tb:=af) (t:=9) (l:=s.2) u9;have a1:aM .add .i64 ((je (D.all.take i):Nat):Int) ((s.2.length:Nat):Int)= .ok (iN (je (D.all.take (i+1)))):=by
    rw [ht];exact bf (aV (by omega))
   apply W.run 20
   ·intro M;simp (disch:=first|decide+kernel|omega) only [Nr,Nq,qeo,Aq,qal,g2,g6,g7,g8,hlt,j1,j2,WC,au,sE,XT,l1,ll,a1];rfl
   refine⟨hlt,_,E,rfl,kC.trans kE,?_⟩;simp only [Sq,qal,qam,g6,g7]
  ·have e:i=D.all.length:=by omega
   subst e;rw [qaR] at g2;apply W.run 20
   ·intro M;simp (disch:=first|decide+kernel|omega) only [Nr,Nq,qeo,Aq,qal,g7,g8];rfl
   apply W.q
   ·intro M;simp (disch:=first|decide+kernel|omega) only [Nq,qeo,Aq,qal,g2];rfl
   apply W.run 20
   ·intro M;simp (disch:=first|decide+kernel|omega) only [Nq,qeo,Aq,qal];rfl
   exact⟨by simp,rfl,_,(by simp only [qeo,Aq,qal]<;>rfl),rfl,kB.trans kC⟩
 ·simp only [Sq,qal,qam];exact rfl
theorem XV:av af 81 (pw b 0) 2= .ok (pw b 2):=by kernel_rfl
def vT (D:dh) (i:Nat) (d w:List UInt8):dh:={D with fs:=D.fs.set i (d,w)}
variable {pf ml mn mf:Nat} {ps:List Nat}
theorem Du {q z1 z2 bx:Nat} {D:dh} {d:List UInt8} {x:Value} (h:jf A p D pf ml mn b mf ps) (hd:D.dn=false) (hn:Ky D) (hs:je D.all+w.length≤quo) (h0:w≠ [])
 (hf:D.fs[i]?=some (d,[])) (hq:ps[i]?=some q) (hx:az A 9 1 bx [[aj w]] x) (v1:VB A 91 z1 (.var 1) [x]) (v2:VB A 24 z2 (.var 1) [pV p]) (hdl:d.length+w.length<1000000):
 ∃B,bg af 88 [pV q,pV z1,pV z2] A (iN 0) B∧jf B p (vT D i d w) pf ml mn b mf ps∧KT dT A B:=by
 obtain⟨g1,h1⟩:=FP hx;have l1:ag af A.get 91 (pw z1 0)= .ok x:=v1.ld rfl Mw rfl;have l2:ag af A.get 24 (pw z2 0)= .ok (pV p):=by
  obtain⟨d,hd,ha⟩:=js;exact v2.ld rfl hd ha
 have lq:ag af A.get 3 (pw p 2)= .ok (.int .i64 quo):=h.1.ld rfl u3 rfl;have hq0:quo=1048576:=rfl;obtain⟨v,B,⟨g2,h2⟩,rfl,kB⟩:=LX ⟨pf,ml,mn,b,mf,ps,h⟩ hd hn (by omega);have l2B:ag af B.get 24 (pw z2 0)= .ok (pV p):=by
  obtain⟨d,hd,ha⟩:=js;exact(v2.kp kB).ld rfl hd ha
 have lqB:ag af B.get 3 (pw p 2)= .ok (.int .i64 quo):=(h.kp kB).1.ld rfl u3 rfl;have s1:aM .sub .i64 ((quo:Nat):Int) ((je D.all:Nat):Int)= .ok (iN (quo-je D.all)):=br (by omega) (aV (by omega));have mx1:aN af .max [3,3] [iN 0,iN (quo-je D.all)]= .ok (iN (quo-je D.all)):=by rw [Am.max_i64,qc5 (qaB _)]
 have ll:=cP (tb:=af) (t:=9) (l:=w) u9;have hg:¬quo-je D.all<w.length:=by omega
 have kC:=Kp.alloc B (aa 9 [aj w]);have vC:=ay B 9 [aj w];have nC:(B.alloc (aa 9 [aj w])).next=B.next+1:=ae _ _
 have bs:=Ur (w:=w);have hC0:(B.alloc (aa 9 [aj w])).get B.next=some (aa 9 [aj w]):=ax _ _
 generalize hC:B.alloc (aa 9 [aj w])=C at kC vC nC hC0;have hP:=(h.kp kB).kp kC;have hxC:az C 9 1 B.next [[aj w]] (.slice (some ⟨B.next,0,none⟩) 1 2):=.inr ⟨.var 1,2,rfl,vC.1,vC.2,fun l hl=>by rw [qaY.1 hl];rfl,.inl rfl⟩
 obtain⟨q',hq',a,e2,e3⟩:=hP.2.2.2.2.1 i _ hf;rw [hq] at hq';cases hq';have ea:a= .slice none 0 0:=by
  rcases e3 with⟨-,h⟩|⟨h,-⟩
  ·exact h
  ·exact absurd rfl h
 subst ea;obtain⟨v,E,⟨g3,h3⟩,rfl,⟨b',r,y,m1,m2,m3,m4,m5⟩,nE,fE⟩:=FM (w:=w) e2 hxC h0 (by simpa using hdl);rw [show(d,([]:List UInt8)).1++(d,([]:List UInt8)).2=d from qbt d] at m1;obtain⟨s2,s3⟩:=hP.set hq (f:=(d,w)) ⟨y,m1,.inr ⟨h0,b',r,m2,m5⟩⟩ nE fE;have he:∀t:T Value,ev t (.const (.string ⟨#[]⟩))= .ok (aj []):=fun _=>rfl
 have sn:=eS .i64 quo rfl;refine⟨E,?_,s2,(kB.trans kC).kt.trans s3⟩;simp only [pV] at*;refine aT (g1+g2+g3) 60 (aq Tryz.func88) (by kernel_rfl) fun M hM=>?_
 simp (config:={maxSteps:=4000000}) (disch:=first|decide+kernel|omega|simp only [Wq,qal]) only [Tryz.f88,Aq,qaq,reduceIte,qal,qam,l1,l2,he,h1,lq,h2,l2B,lqB,ak,aF,XV,s1,mx1,ll,cT,bY,hg,bs,hC,h3,sn,mM,Fq,aA [(0,5),(3,5)]]<;>rfl
theorem FG {bx:Nat} {D:dh} {d n:List UInt8} {x:Value} (h:fx A p D) (hd:D.dn=false) (hs:D.st<1000∧D.ar<1000) (hn:Ky D) (hq:je D.all+w.length≤quo) (h0:w≠ []) (hi:D.ns[i]?=some n)
 (hf:D.fs[i]?=some (d,[])) (hx:az A 9 1 bx [[aj w]] x) (hdl:d.length+w.length<1000000):
 ∃v A',bg af 39 [pV p,aj n,x] A v A'∧v= .int .i64 (u7 D:Int)∧fx A' p (if D.ar=1 then ga D else vT (ga D) i d w)∧KT dT A A':=by
 have hxc:=(az.dk hx).1;have k1:=Kp.alloc A (aa 24 [pV p]);have v1:=ay A 24 [pV p];have n1:(A.alloc (aa 24 [pV p])).next=A.next+1:=ae _ _
 generalize hB1:A.alloc (aa 24 [pV p])=B1 at k1 v1 n1;have k2:=Kp.alloc B1 (aa 91 [x]);have v2:=ay B1 91 [x];have n2:(B1.alloc (aa 91 [x])).next=A.next+2:=by rw [ae,n1]
 generalize hB2:B1.alloc (aa 91 [x])=B2 at k2 v2 n2;rw [n1] at v2;have kB:=k1.trans k2;have v1':=v1.kp k2;obtain⟨pf,ml,mn,b,mf,ps,hP⟩:=h.kp kB;obtain⟨B,hB,kE,g1,g2⟩:=JX (f:=88) (cs:=[pV (A.next+1),pV A.next]) hP hd hs hi;have lp:ag af B2.get 24 (pw A.next 0)= .ok (pV p):=by
  obtain⟨d,hd,ha⟩:=js;exact v1'.ld rfl hd ha
 unfold u7;by_cases h1:D.ar=1
 ·rw [if_pos h1,if_pos h1];obtain⟨g,hg⟩:=g1 h1;refine⟨_,B,?_,rfl,⟨pf,ml,mn,b,mf,ps,hB⟩,kB.kt.trans kE⟩;simp only [pV] at*;refine aT (g) 60 (aq Tryz.func39) (by kernel_rfl) fun M hM=>?_
  simp (disch:=first|decide+kernel|omega) only [Tryz.f39,Aq,qal,dj,hxc,hB1,hB2,n1,lp,aY,hg]<;>rfl
 ·rw [if_neg h1,if_neg h1];obtain⟨q,hq',-⟩:=hB.2.2.2.2.1 i _ hf;obtain⟨C,hC,hD,kC⟩:=Du hB (show decide (D.ar=1)=false from decide_eq_false h1) hn hq h0 hf hq' (kE.Mk (hx.same kB.1 (kB.2 bx)) (by decide)) (kE.vb v2 (by decide)) (kE.vb v1' (by decide)) hdl;obtain⟨g,hg⟩:=g2 h1 q 0 C hq' hC;refine⟨_,C,?_,rfl,⟨pf,ml,mn,b,mf,ps,hD⟩,(kB.kt.trans kE).trans kC⟩;simp only [pV] at*;refine aT (g) 60 (aq Tryz.func39) (by kernel_rfl) fun M hM=>?_
  simp (disch:=first|decide+kernel|omega) only [Tryz.f39,Aq,qal,dj,hxc,hB1,hB2,n1,lp,aY,hg]<;>rfl
def jg (A:Mem) (ls:List Nat) (x:Value):Prop:=(∀v∈ls,v<65536)∧
 ((x= .slice none 0 0∧ls=[])∨(x=Ew∧ls=[])∨∃q off cp,x= .slice (some ⟨q,off,none⟩) ls.length cp∧(ls=[]∨((dV cp 1=true∧ls.length≤bJ cp)∧q<A.next∧∃t kd fz c,A.get q=some (.cells t kd (fz+1) c)∧∀(i:Nat) (v:Nat),ls[i]?=some v→c.get (off+i)=some (.int .u16 v))))
theorem T1:af.ba 55=some (.slice 23):=by kernel_rfl
theorem qag:af.ba 23=some (.int .u16):=by kernel_rfl
theorem Is:aR af 23= .ok 1:=by kernel_rfl
theorem VZ:aR af 55= .ok 1:=by kernel_rfl
variable {A':Mem}
theorem jg.kf {ls:List Nat} {x:Value} (h:jg A ls x) (k:Uc A A'):jg A' ls x:=by
 refine⟨h.1,?_⟩;rcases h.2 with h|h|⟨q,off,cp,h1,h2⟩
 ·exact .inl h
 ·exact .inr (.inl h)
 ·refine .inr (.inr ⟨q,off,cp,h1,?_⟩);rcases h2 with h2|⟨h0,h2,t,kd,fz,c,h3,h4⟩
  ·exact .inl h2
  ·exact .inr ⟨h0,qaD h2 k.1,t,kd,fz,c,by rw [k.2 _ ⟨h2,t,kd,fz,c,h3⟩];exact h3,h4⟩
theorem jg.len {ls:List Nat} {x:Value} (h:jg A ls x):aN af .len [55] [x]= .ok (iN ls.length):=by
 rcases h.2 with⟨rfl,rfl⟩|⟨rfl,rfl⟩|⟨q,off,cp,rfl,-⟩
 ·exact eu T1
 ·kernel_rfl
 ·exact eu T1
theorem jg.self {ls:List Nat} {x:Value} (h:jg A ls x):x.cells.toList=[x]∧aJ x=true∧cG 100 x x=true:=by
 rcases h.2 with⟨rfl,rfl⟩|⟨rfl,rfl⟩|⟨q,off,cp,rfl,-⟩
 ·exact⟨rfl,rfl,rfl⟩
 ·exact⟨rfl,rfl,by kernel_rfl⟩
 ·exact⟨rfl,rfl,mN _ _ _ _⟩
variable {c:Nat}
theorem Hh {l:Nat} (h:dV c n=true):dV (gh c l) n=true:=by
 unfold dV at*;rw [jO];cases hcx:dN c with
 |true=>rfl
 |false=>
  rw [hcx,cond_false] at h;have he:gO c=n:=qaL h;have hlt:gO c<65536:=qbE _ (by omega);unfold gh;rw [hcx,cond_false,cond_false,c7 hlt,he];exact qcJ _
theorem jg.pop {v:Nat} {r:List Nat} {x:Value} (h:jg A (v::r) x):
 ∃p x',aU af 55 x (.int .i64 (0:Nat))= .ok (.pointer (some p))∧ag af A.get 23 (.pointer (some p))= .ok (.int .u16 v)∧v<65536∧c6 af 55 x (some (.int .i64 (1:Nat))) none none= .ok x'∧jg A r x':=by
 have hb0:=h.1;rcases h.2 with⟨-,h⟩|⟨-,h⟩|⟨q,off,cp,rfl,h2⟩
 ·cases h
 ·cases h
 ·rcases h2 with h2|⟨⟨hf,hc⟩,h2,t,kd,fz,c,h3,h4⟩
  ·cases h2
  ·rw [qaA] at hc;have hb:qax 0 (v::r).length=true:=by rw [qaH];exact Nat.succ_pos _
   have hn:kU (.int .i64 (0:Nat))= .ok 0:=rfl;have e1:bound (some (.int .i64 (1:Nat))) 0 (r.length+1)= .ok 1:=fA (by omega);have hag:bQ (.int .u16)=false:=rfl;have hlt:∀w∈r,w<65536:=fun w hw=>hb0 w (qay _ hw)
   refine⟨⟨q,off+0*1,none⟩,?_⟩;have g1:aU af 55 (.slice (some ⟨q,off,none⟩) (v::r).length cp) (.int .i64 (0:Nat))= .ok (.pointer (some ⟨q,off+0*1,none⟩)):=by
    unfold aU;simp only [hn,T1,hb,cond_true,Is,R.aw,h_]
   have g2:ag af A.get 23 (.pointer (some ⟨q,off+0*1,none⟩))= .ok (.int .u16 v):=by
    unfold ag;have hg:=h4 0 v rfl;simp only [h3,qag,hag,cond_false,qcN,hg]
   cases hx:dN cp&&qaw (bJ cp) 1 with
   |true=>
    have hc1:bJ cp=1:=qaL (Bool.and_eq_true_iff.1 hx).2;have hr:r=[]:=qaP.1 (by omega);subst hr;refine⟨.slice (some ⟨q,off,none⟩) 0 0,g1,g2,hb0 v (qaz ..),?_,hlt,.inr (.inr ⟨q,off,0,rfl,.inl rfl⟩)⟩;unfold c6;simp only [T1,eX,R.aw,qaA];rw [e1];simp only [R.aw,Is,hx,cond_true];rfl
   |false=>
    refine⟨.slice (some ⟨q,off+1*1,none⟩) r.length (gh cp 1),g1,g2,hb0 v (qaz ..),?_,hlt,.inr (.inr ⟨q,off+1*1,_,rfl,.inr ⟨⟨Hh hf,by rw [gS];omega⟩,h2,t,kd,fz,c,h3,fun i w hw=>?_⟩⟩)⟩
    ·unfold c6;simp only [T1,eX,qaA,R.aw,e1,Is,hx,cond_false,hf,cond_true,h_,qbW]
    ·have:=h4 (i+1) w hw;rw [show off+1*1+i=off+(i+1) by omega];exact this
variable {z:Nat}
theorem qY {ls:List Nat} {x:Value} (h:VB A 55 z (.var 1) [x]) (hx:jg A ls x):
 ∃n B,bg af 124 [pV z] A (.int .i64 (n:Nat)) B∧(∃ls' x',VB B 55 z (.var 1) [x']∧jg B ls' x')∧n<65536∧B.next=A.next∧∀y,y≠z→B.get y=A.get y:=by
 have hlen:=hx.len;have l1:ag af A.get 55 (.pointer (some ⟨z,0,none⟩))= .ok x:=h.ld rfl T1 rfl;cases ls with
 |nil=>
  refine⟨0,A,?_,⟨[],x,h,hx⟩,by omega,rfl,fun _ _=>rfl⟩;simp only [pV];refine bm 60 (aq Tryz.func124) (by kernel_rfl) fun M=>?_
  simp (disch:=first|decide+kernel|omega) only [Tryz.f124,Aq,qal,l1,hlen,qaT]<;>rfl
 |cons v r=>
  obtain⟨p,x',g1,g2,hv,g3,g4⟩:=hx.pop;obtain⟨B,sB,vB,nB,fB⟩:=aL (tb:=af) (t:=55) (o:=0) (v:=x') VZ h.2 (by simp) g4.self.1 g4.self.2.1;have kB:Uc A B:=⟨by omega,fun y hy=>fB y (by
   rintro rfl;obtain⟨-,t,k',f,c,h1⟩:=hy;obtain⟨-,c',h2,-⟩:=h;rw [h1] at h2;cases h2)⟩
  refine⟨v,B,?_,⟨r,x',⟨by have:=h.1;omega,vB⟩,g4.kf kB⟩,hv,nB,fB⟩;have ss:=hx.self.2.2;have lp:0<(v::r).length:=Nat.succ_pos _;have cv:gi af 23 3 (.int .u16 v)= .ok (.int .i64 v):=bM (by kernel_rfl) u3 (aV (by omega));simp only [pV];refine bm 60 (aq Tryz.func124) (by kernel_rfl) fun M=>?_
  simp (config:={maxSteps:=4000000}) (disch:=first|decide+kernel|omega|simp only [Wq,qal]) only [Tryz.f124,Aq,qaq,reduceIte,qal,qam,l1,hlen,cT,bY,lp,g1,g2,g3,sB,ss,cv,Fq,aA []]<;>rfl
def B_ (f g:List UInt8×List UInt8):Prop:=∃m,g=(f.1++f.2.take m,[])
theorem UO:av af 125 (pw b 0) 0= .ok (pw b 0):=by kernel_rfl
theorem NS:av af 125 (pw b 0) 1= .ok (pw b 1):=by kernel_rfl
noncomputable def vi:Code:=qb8.body.getD .skip
noncomputable def Nn:Code:=sub vi [1,1,1,1,0,1,0,0]
theorem Uz:qb8.body=some (.seq (sub vi [0]) (.seq (sub vi [1,0]) (.seq (sub vi [1,1,0]) (.seq (sub vi [1,1,1,0]) (.seq (.seq (sub vi [1,1,1,1,0,0]) (.block 0 (.loop Nn))) (.seq (sub vi [1,1,1,1,1,0]) (.seq (sub vi [1,1,1,1,1,1,0]) (.seq (sub vi [1,1,1,1,1,1,1,0]) (sub vi [1,1,1,1,1,1,1,1]))))))))):=by kernel_rfl
theorem PH {q:Nat} {f:List UInt8×List UInt8} (h:nR A q f) (hl:f.1.length+f.2.length<1000000):
 ∃v A',bg af 69 [pV q,.agg ⟨[.int .i64 n,.int .i64 m]⟩] A v A'∧v=iN 0∧∃g,B_ f g∧nR A' q g∧A.next≤A'.next∧∀z,z<A.next→z≠q→A'.get z=A.get z:=by
 refine cF (aq Tryz.func69) Uz (by kernel_rfl) ?_;obtain⟨a,hF,hA⟩:=h;obtain⟨d,w⟩:=f;simp only at*;obtain⟨b,R,hR,hRw⟩:∃b R,az A 213 1 b R a∧((R=[]∧w=[])∨∃r,R=[[Ah r]]∧VB A 9 r (.var 1) [aj w]):=by
  rcases hA with⟨h1,rfl⟩|⟨-,b,r,h1,h2⟩
  ·exact⟨0,[],az.nil _ _ _ _,.inl ⟨rfl,h1⟩⟩
  ·exact⟨b,_,h1,.inr ⟨r,rfl,h2⟩⟩
 have kB:=Kp.alloc A (aa 125 [.int .i64 n,.int .i64 m]);have vB:=ay A 125 [.int .i64 n,.int .i64 m];have hL1:R.length≤1:=by rcases hRw with⟨rfl,-⟩|⟨r,rfl,-⟩<;>simp
 generalize hB:A.alloc (aa 125 [.int .i64 n,.int .i64 m])=B at kB vB;have hFB:oz B q d a (d++w):=VB.kp hF kB;have hRB:=hR.same kB.1 (kB.2 b);have l0:ag af B.get 9 (pw q 0)= .ok (aj d):=hFB.ld rfl u9 rfl;have la:ag af B.get 160 (pw q 1)= .ok a:=hFB.ld rfl z8 rfl;have lna:ag af B.get 3 (pw A.next 0)= .ok (.int .i64 n):=vB.ld rfl u3 rfl;have lnb:ag af B.get 3 (pw A.next 1)= .ok (.int .i64 m):=vB.ld rfl u3 rfl;have lenA:=az.len (tb:=af) hRB z8;obtain⟨g1,h1⟩:=uR (A:=B) (n:=n) (m:=R.length);have hz:aR af 213= .ok 1:=by kernel_rfl
 obtain⟨x1,hsl,hS1⟩:=iK.cut (tb:=af) (t:=160) (m:=min n R.length) (hRB.BR (by omega)) z8 hz (qdu _ _);have len1:=iK.len (tb:=af) hS1 z8;rw [qaE,qbr (qdu _ _)] at len1;simp only [pV];apply W.q
 ·intro M;simp (disch:=first|decide+kernel|omega) only [vi,qb8,Aq,qal,au,hB];rfl
 apply W.q
 ·intro M;simp (disch:=first|decide+kernel|omega) only [vi,qb8,Aq,qal,bW,NM,bc];rfl
 apply W.q
 ·intro M;simp (disch:=first|decide+kernel|omega) only [vi,qb8,Aq,qal,ak,aF,I9,l0];rfl
 apply W.qG (g1)
 ·intro M hM;simp (config:={maxSteps:=4000000}) (disch:=first|decide+kernel|omega|simp only [Wq,qal]) only [vi,qb8,Aq,qaq,reduceIte,qal,qam,ak,aF,UO,pG,lna,la,lenA,h1,Fq,aA []];rfl
 apply W.seq;apply W.q
 ·intro M;simp (disch:=first|decide+kernel|omega) only [vi,qb8,Aq,qal,ak,aF,pG,la,hsl,len1];rfl
 apply W.block;generalize hN:min n R.length=N at*;have hNR:N≤R.length:=by omega
 have fact:∀(r k:Nat),VB A 9 r (.var 1) [aj w]→bg af 155 [aj d,.int .i64 k,pV r] B (aj (d++w.take (min k w.length))) B:=fun r k hv=>FL (hv.kp kB) hl
 refine W.up N (fun i t D=>D=B∧Sl t [(0,pw q 0),(3,pw A.next 0),(5,aj (if i=0 then d else d++w)),(6,.int .i64 N),(28,x1),(29,.int .i64 N),(30,.int .i64 i)]) ?_ (qaB _) ⟨rfl,?_⟩
 ·rintro i t D hi ⟨rfl,s0,s3,s5,s6,s28,s29,s30,-⟩;by_cases hlt:i<N
  ·obtain rfl:i=0:=by omega
   rcases hRw with⟨rfl,-⟩|⟨r,rfl,hr⟩
   ·rw [qaT] at hNR;omega
   ·have hN1:N=1:=by rw [qaS] at hNR;omega
    subst hN1;obtain⟨g2,h2⟩:=fact r 4611686018427387904 hr;rw [qc6 (by omega),qaR] at h2;have j1:=iK.idx (tb:=af) (t:=160) (i:=0) (kd:=.i64) hS1 z8 hz (by simp);obtain⟨dd,hd1,hd2⟩:=YM;have j2:=iK.load (tb:=af) (t:=213) (j:=0) hS1 hd1 hd2 (show(qeM 1 [[Ah r]])[0]?=some [Ah r] from rfl) rfl (by omega);rw [if_pos rfl] at s5;simp only [Ah,pV] at h2 j2;apply W.cN (g2) 20
    ·intro M hM;simp (disch:=first|decide+kernel|omega) only [Nn,vi,qb8,Aq,qal,s0,s5,s28,s29,s30,hlt,j1,j2,h2];rfl
    refine⟨hlt,_,_,rfl,rfl,?_⟩;simp only [Sq,qal,qam,s0,s3,s6,s28,s29]
  ·obtain rfl:i=N:=by omega
   generalize hs:(if i=0 then d else d++w)=s at s5;have key:∃k,B_ (d,w) (k,[])∧((¬i<R.length∧k=s)∨(i<R.length∧∃r,R=[[Ah r]]∧i=0∧VB A 9 r (.var 1) [aj w]∧k=d++w.take (min (min m 4611686018427387903) w.length)∧s=d)):=by
    by_cases hi0:i=0
    ·rw [if_pos hi0] at hs;rcases hRw with⟨rfl,rfl⟩|⟨r,rfl,hr⟩
     ·exact⟨d,⟨0,by simp⟩,.inl ⟨by simp,hs⟩⟩
     ·exact⟨_,⟨_,rfl⟩,.inr ⟨by simp;omega,r,rfl,hi0,hr,rfl,hs.symm⟩⟩
    ·rw [if_neg hi0] at hs;exact⟨d++w,⟨w.length,by rw [qaR]⟩,.inl ⟨by omega,hs⟩⟩
   obtain⟨k,hk,hcase⟩:=key;obtain⟨v,C,⟨g3,h3⟩,rfl,h4,nC,fC⟩:=yS (w:=k) hFB;have hend:nR C q (k,[]):=⟨_,by rw [qbt];exact h4,.inl ⟨rfl,rfl⟩⟩;have hqA:=hF.1;simp only [pV] at h3;apply W.run 20
   ·intro M;simp (disch:=first|decide+kernel|omega) only [Nn,vi,qb8,Aq,qal,s29,s30];rfl
   apply W.seq;rcases hcase with⟨hnl,rfl⟩|⟨hl',r,rfl,rfl,hr,rfl,rfl⟩
   ·apply W.run 20
    ·intro M;simp (disch:=first|decide+kernel|omega) only [vi,qb8,Aq,qal,s0,s6,ak,aF,pG,la,lenA,hnl];rfl
    apply W.qG (g3)
    ·intro M hM;simp (disch:=first|decide+kernel|omega) only [vi,qb8,Aq,qal,s0,s5,h3];rfl
    apply W.q
    ·intro M;simp (disch:=first|decide+kernel|omega) only [vi,qb8,Aq,qal];rfl
    apply W.run 20
    ·intro M;simp (disch:=first|decide+kernel|omega) only [vi,qb8,Aq,qal];rfl
    exact⟨by simp,rfl,_,(by simp only [qb8,Aq,qal]<;>rfl),rfl,_,hk,hend,by show A.next≤C.next;have:=kB.1;omega,fun z hz hq=>by show C.get z=A.get z;rw [fC z hq,kB.2 z hz]⟩
   ·obtain⟨g2,h2⟩:=fact r (min m 4611686018427387903) hr;have mn1:aN af .min [3,3] [.int .i64 m,iN 4611686018427387903]= .ok (iN (min m 4611686018427387903)):=Am.nj;have j1:=az.idx (tb:=af) (t:=160) (i:=0) (kd:=.i64) hRB z8 hz (by simp);obtain⟨dd,hd1,hd2⟩:=YM;have j2:=az.load (tb:=af) (t:=213) (j:=0) hRB hd1 hd2 (show [[Ah r]][0]?=some [Ah r] from rfl) rfl (by omega);simp only [Ah,pV] at h2 j2;apply W.cN (g2) 20
    ·intro M hM;simp (config:={maxSteps:=4000000}) (disch:=first|decide+kernel|omega|simp only [Wq,qal]) only [vi,qb8,Aq,qaq,reduceIte,qal,qam,s0,s3,s5,s6,ak,aF,pG,la,lenA,hl',j1,j2,NS,lnb,mn1,h2,Fq,aA []];rfl
    apply W.qG (g3)
    ·intro M hM;simp (disch:=first|decide+kernel|omega) only [vi,qb8,Aq,qal,s0,h3];rfl
    apply W.q
    ·intro M;simp (disch:=first|decide+kernel|omega) only [vi,qb8,Aq,qal];rfl
    apply W.run 20
    ·intro M;simp (disch:=first|decide+kernel|omega) only [vi,qb8,Aq,qal];rfl
    exact⟨by simp,rfl,_,(by simp only [qb8,Aq,qal]<;>rfl),rfl,_,hk,hend,by show A.next≤C.next;have:=kB.1;omega,fun z hz hq=>by show C.get z=A.get z;rw [fC z hq,kB.2 z hz]⟩
 ·simp only [Sq,qal,qam]
def ig (z:Nat):Value:=.func (.func 124) ⟨[]⟩ ⟨[pV z]⟩
theorem Xd:ct af 120 [(0,ig z)]= .ok (.agg ⟨[ig z]⟩):=by kernel_rfl
theorem DA:aR af 120= .ok 1:=by kernel_rfl
theorem Kq:bS af 120= .ok (.agg ⟨[.nilFunc]⟩):=by kernel_rfl
theorem NQ:av af 120 (pw b 0) 0= .ok (pw b 0):=by kernel_rfl
theorem Qt:∃d,af.ba 45=some d∧bQ d=false:=a8 (by kernel_rfl)
theorem Xf:ct af 125 [(0,.int .i64 n)]= .ok (.agg ⟨[.int .i64 n,iN 0]⟩):=by kernel_rfl
theorem J6:aR af 125= .ok 2:=by kernel_rfl
theorem Tp:bS af 125= .ok (.agg ⟨[iN 0,iN 0]⟩):=by kernel_rfl
theorem V0:aR af 79= .ok 1:=by kernel_rfl
theorem PA {ls:List Nat} {x:Value} (hx:jg A ls x):∃v A',bg af 65 [x] A v A'∧v= .agg ⟨[ig A.next]⟩∧Kp A A'∧VB A' 55 A.next (.var 1) [x]:=by
 have hxc:=hx.self.1;have k1:=Kp.alloc A (aa 55 [x]);have v1:=ay A 55 [x];have n1:(A.alloc (aa 55 [x])).next=A.next+1:=ae _ _
 generalize hB:A.alloc (aa 55 [x])=B at k1 v1 n1;have k2:=Kp.alloc B (aa 120 [ig A.next]);have v2:=ay B 120 [ig A.next];have sC:aW af (B.alloc (aa 120 [.nilFunc])) 120 (pw B.next 0) (.agg ⟨[ig A.next]⟩)= .ok (B.alloc (aa 120 [ig A.next])):=bk DA rfl rfl (by simp) (by simp [ig,aJ]);generalize hC:B.alloc (aa 120 [ig A.next])=C at k2 v2 sC;obtain⟨d,hd1,hd2⟩:=a8 (t:=120) (p:=true) (by kernel_rfl);have lC:ag af C.get 120 (pw B.next 0)= .ok (.agg ⟨[ig A.next]⟩):=aI hd1 hd2 DA v2.2;have bd:=Xd (z:=A.next);refine⟨_,C,?_,rfl,k1.trans k2,v1.kp k2⟩;simp only [ig,pV] at*;refine bm 60 (aq Tryz.func65) (by kernel_rfl) fun M=>?_
 simp (config:={maxSteps:=4000000}) (disch:=first|decide+kernel|omega|simp only [Wq,qal]) only [Tryz.f65,Aq,qaq,reduceIte,qal,qam,hxc,hB,Kq,au,aY,bd,sC,lC]<;>rfl
noncomputable def G5:Code:=qdM.body.getD .skip
noncomputable def IU:Code:=sub G5 [1,1,1,1,0,1,0,0]
theorem Uu:qdM.body=some (.seq (sub G5 [0]) (.seq (sub G5 [1,0]) (.seq (sub G5 [1,1,0]) (.seq (sub G5 [1,1,1,0]) (.seq (.seq (sub G5 [1,1,1,1,0,0]) (.block 0 (.loop IU))) (sub G5 [1,1,1,1,1])))))):=by kernel_rfl
def Uf (B:Mem) (fs:List (List UInt8×List UInt8)) (ps:List Nat) (z0 th i:Nat) (D:Mem):Prop:=
 (KT (fun e=>e≠162∧e≠55) B D∧∀(m:Nat) (es:List MapEntry) (c:Nat),m<B.next→m≠th→B.get m=some (.map es c)→D.get m=some (.map es c))∧(th<D.next∧D.get th=some (.map (dG (ps.take i) 0) i))∧(∃ls x,VB D 55 z0 (.var 1) [x]∧jg D ls x)∧
 (∃L:List (List UInt8×List UInt8),L.length=i∧∀(j:Nat) (g:List UInt8×List UInt8),L[j]?=some g→∃f q,fs[j]?=some f∧ps[j]?=some q∧B_ f g∧nR D q g)∧
 ∀(j:Nat) (f:List UInt8×List UInt8),i≤j→fs[j]?=some f→∃q,ps[j]?=some q∧nR D q f
variable {fs:List (List UInt8×List UInt8)} {mk:Nat} {v:Value} {t:T Value}
theorem LK {D:Mem} {z0 z1 th cf cn bn:Nat} {a1 a2 a3 b1 b2 b3 b4:Value} (h:Uf B fs ps z0 th i D) (hV:VB B 81 p (.var 6) [pV pf,.map (some mf),b1,b2,b3,b4]) (qV:VB B 201 pf (.var 4) [a1,.map (some mk),a2,a3])
 (hmk:B.get mk=some (.map (bB ns 0) cn)) (hmf:B.get mf=some (.map (dG ps 0) cf)) (hz1:VB B 120 z1 (.var 1) [ig z0]) (hv:B' B bn ns v) (hi:i<ns.length) (hnn:ns.Nodup) (hpn:ps.Nodup) (hsz:ns.length<1000) (hps:ns.length≤ps.length) (hfp:ps.length=fs.length) (hlen:∀f∈fs,f.1.length+f.2.length<1000000) (hne:mk≠th∧mf≠th) (hml:mk<B.next∧mf<B.next)
 (hs:Sl t [(0,pV p),(4,pV z1),(5,.map (some th)),(28,v),(29,.int .i64 ns.length),(30,.int .i64 i)]):
 W af IU ⟨t,75,[],D,none⟩ fun e s'=>e= .nrm∧∃t' D',s'=⟨t',75,[],D',none⟩∧Uf B fs ps z0 th (i+1) D'∧Sl t' [(0,pV p),(4,pV z1),(5,.map (some th)),(28,v),(29,.int .i64 ns.length),(30,.int .i64 (i+1:Nat))]:=by
 obtain⟨⟨K,hMp⟩,⟨hth,hth'⟩,⟨ls,x,hz0,hx⟩,⟨L,hL,hLf⟩,hR⟩:=h;obtain⟨s0,s4,s5,s28,s29,s30,-⟩:=hs;have hmkD:=hMp mk _ _ hml.1 hne.1 hmk;have hmfD:=hMp mf _ _ hml.2 hne.2 hmf;have VD:=K.vb hV ⟨by decide,by decide⟩;have qD:=K.vb qV ⟨by decide,by decide⟩;have z1D:=K.vb hz1 ⟨by decide,by decide⟩;have vD:B' D bn ns v:=K.Mk hv ⟨by decide,by decide⟩;have hw:ns[i]?=some ns[i]:=qan hi;have hfi:fs[i]?=some (fs[i]'(by omega)):=qan (by omega)
 obtain⟨q,hq,hFq⟩:=hR i _ (qao _) hfi;have hfl:=hlen _ (qbg (l:=fs) (n:=i) (by omega));generalize hf0:fs[i]'(by omega)=f at*
 generalize ns[i]=w at*;have hqV:∃k l,VB D 162 q k l:=by
  obtain⟨_,e,-⟩:=hFq;exact⟨_,_,e⟩
 obtain⟨kq,lq,hqV⟩:=hqV;have j1:=az.idx (tb:=af) (t:=91) (i:=i) (kd:=.i64) vD Mw z9 (by rw [qas];exact hi);have j2:=az.load (tb:=af) (t:=9) (j:=0) vD u9 rfl (show(ns.map fun n=>[aj n])[i]?=some [aj w] by rw [qaN,hw];rfl) rfl (by omega);rw [qa8] at j2;have lpf:ag af D.get 78 (.pointer (some ⟨p,0,none⟩))= .ok (pV pf):=by
  obtain⟨d,hd,ha⟩:=qz;exact VD.ld rfl hd ha
 have lmf:ag af D.get 79 (.pointer (some ⟨p,1,none⟩))= .ok (.map (some mf)):=VD.ld rfl zp rfl;obtain⟨g1,h1⟩:=yR (w:=w) qD hmkD;rw [HR hnn hw] at h1;have lk:=pQ hmfD hq;have hpl:(ps.take i).length=i:=by rw [qaE];omega
 have hup:=Gg (p:=q) (A:=D) (ps:=ps.take i) (by rw [hpl];exact hth');rw [hpl] at hup;have hpt:ps.take i++[q]=ps.take (i+1):=by
  obtain⟨hl,rfl⟩:=qap.1 hq;exact(qaC hl).symm
 have hpt1:(ps.take (i+1)).length=i+1:=by rw [qaE];omega
 rw [hpt,hpt1] at hup;generalize hE:D.set th (.map (dG (ps.take (i+1)) 0) (i+1))=E at hup;have nE:E.next=D.next:=by rw [←hE];exact aO _ _ _
 have fE:∀z,z≠th→E.get z=D.get z:=fun z hz=>by rw [←hE,dH,if_neg hz]
 have hthE:E.get th=some (.map (dG (ps.take (i+1)) 0) (i+1)):=by rw [←hE,dH,if_pos rfl]
 have z0E:VB E 55 z0 (.var 1) [x]:=⟨by have:=hz0.1;omega,hz0.2.same (fE _ (hz0.gj hth'))⟩;have z1E:VB E 120 z1 (.var 1) [ig z0]:=⟨by have:=z1D.1;omega,z1D.2.same (fE _ (z1D.gj hth'))⟩;have KDE:Uc D E:=⟨by omega,fun z hz=>fE z (hz.gj hth')⟩;have l45E:ag af E.get 45 (.pointer (some ⟨z1,0,none⟩))= .ok (ig z0):=by
  obtain⟨d,hd,ha⟩:=Qt;exact z1E.ld rfl hd ha
 obtain⟨n1,F,⟨g2,h2⟩,⟨ls2,x2,z0F,hx2⟩,hn1,nF,fF⟩:=qY z0E (hx.kf KDE);have z1F:VB F 120 z1 (.var 1) [ig z0]:=⟨by have:=z1E.1;omega,z1E.2.same (fF _ (z1E.ne z0E (by decide)))⟩;have sG:aW af (F.alloc (aa 125 [.int .i64 (0:Nat),.int .i64 (0:Nat)])) 125 (.pointer (some ⟨F.next,0,none⟩)) (.agg ⟨[.int .i64 n1,.int .i64 (0:Nat)]⟩)= .ok (F.alloc (aa 125 [.int .i64 n1,.int .i64 (0:Nat)])):=bk J6 rfl rfl (by simp) (by simp [aJ]);have kG:=Kp.alloc F (aa 125 [.int .i64 n1,.int .i64 (0:Nat)]);have vG:=ay F 125 [.int .i64 n1,.int .i64 (0:Nat)];have nG:(F.alloc (aa 125 [.int .i64 n1,.int .i64 (0:Nat)])).next=F.next+1:=ae _ _
 generalize F.alloc (aa 125 [.int .i64 n1,.int .i64 (0:Nat)])=G at sG kG vG nG;have l45G:ag af G.get 45 (.pointer (some ⟨z1,0,none⟩))= .ok (ig z0):=by
  obtain⟨d,hd,ha⟩:=Qt;exact(z1F.kp kG).ld rfl hd ha
 obtain⟨n2,H,⟨g3,h3⟩,⟨ls3,x3,z0H,hx3⟩,hn2,nH,fH⟩:=qY (z0F.kp kG) (hx2.kf kG.f);have hz0l:=hz0.1;have vH:VB H 125 F.next (.var 2) [.int .i64 n1,.int .i64 (0:Nat)]:=⟨by omega,vG.2.same (fH _ (by omega))⟩
 obtain⟨I,sI,vI,nI,fI⟩:=aL (tb:=af) (t:=3) (o:=1) (v:=.int .i64 n2) q_ vH.2 (by simp) rfl rfl;have fDI:∀z,z<D.next→z≠th→z≠z0→I.get z=D.get z:=fun z hz h1 h2=>by rw [fI z (by omega),fH z h2,kG.2 z (by omega),fF z h2,fE z h1]
 have hthI:I.get th=some (.map (dG (ps.take (i+1)) 0) (i+1)):=by
  have h0:th≠z0:=Ne.symm (z0E.gj hthE);rw [fI _ (by omega),fH _ h0,kG.2 _ (by omega),fF _ h0];exact hthE
 have lkI:=pQ hthI (q:=i) (by rw [qbm,if_pos (qbP i)];exact hq);obtain⟨d,hd1,hd2⟩:=a8 (t:=125) (p:=true) (by kernel_rfl);have l125:ag af I.get 125 (.pointer (some ⟨F.next,0,none⟩))= .ok (.agg ⟨[.int .i64 n1,.int .i64 n2]⟩):=aI hd1 hd2 J6 vI;have KDI:KT (fun e=>e≠55) D I:=⟨by omega,fun e z k l he hz=>fDI z hz.1 (hz.gj hth') (hz.ne hz0 he),fun z hz=>fDI z hz.1 (hz.gj hth') (hz.ne hz0)⟩;have hFI:=hFq.kt KDI (fDI q hqV.1 (hqV.gj hth') (hqV.ne hz0 (by decide))) ⟨by decide,by decide⟩;obtain⟨v',J,⟨g4,h4⟩,rfl,g,hst,hFJ,nJ,fJ⟩:=PH (n:=n1) (m:=n2) hFI hfl;have fDJ:∀z,z<D.next→z≠th→z≠z0→z≠q→J.get z=D.get z:=fun z hz h1 h2 h3=>by rw [fJ z (by omega) h3,fDI z hz h1 h2]
 have KDJ:KT (fun e=>e≠162∧e≠55) D J:=⟨by omega,fun e z k l he hz=>fDJ z hz.1 (hz.gj hth') (hz.ne hz0 he.2) (hz.ne hqV he.1),fun z hz=>fDJ z hz.1 (hz.gj hth') (hz.ne hz0) (hz.ne hqV)⟩;have oth:∀(j q':Nat) (f':List UInt8×List UInt8),ps[j]?=some q'→j≠i→nR D q' f'→nR J q' f':=fun j q' f' hj hji hF=>by
  have hqq:q'≠q:=by
   rintro rfl;obtain⟨a1,b1⟩:=qap.1 hj;obtain⟨a2,b2⟩:=qap.1 hq;rcases qeh hji with hlt|hlt
   ·exact qbs.1 hpn j i a1 a2 hlt (b1.trans b2.symm)
   ·exact qbs.1 hpn i j a2 a1 hlt (b2.trans b1.symm)
  have hF':=hF;obtain⟨_,e3,-⟩:=hF';exact hF.kt KDJ (fDJ q' e3.1 (VB.gj e3 hth') (VB.ne e3 hz0 (by decide)) hqq) ⟨by decide,by decide⟩
 have hcv:(Value.agg ⟨[.int .i64 n1,.int .i64 (0:Nat)]⟩:Value).cells.toList=[.int .i64 n1,.int .i64 (0:Nat)]:=rfl;have bd:=Xf (n:=n1);simp only [pV,ig] at*;apply W.cN (g1+g2+g3+g4) 20
 ·intro M hM;simp (config:={maxSteps:=4000000}) (disch:=first|decide+kernel|omega|simp only [Wq,qal]) only [IU,G5,qdM,Aq,qaq,reduceIte,qal,qam,s0,s4,s5,s28,s29,s30,hi,j1,j2,ak,aF,qj,AI,lpf,h1,qau,qav,lmf,fS,lk,fi,hup,NQ,l45E,h2,bd,Tp,au,sG,l45G,h3,NS,sI,lkI,l125,h4];rfl
 refine⟨rfl,_,J,rfl,⟨⟨K.trans KDJ,fun m es c hm h1 h2=>?_⟩,⟨by omega,?_⟩,⟨ls3,x3,⟨by have:=z0H.1;omega,z0H.2.same ?_⟩,?_⟩,⟨L++[g],by rw [qar,hL];rfl,fun j g' hg'=>?_⟩,fun j f' hj hf'=>?_⟩,?_⟩
 ·have h3:=hMp m es c hm h1 h2;rw [fDJ m (by have:=K.1;omega) h1 (Ne.symm (hz0.gj h3)) (Ne.symm (hqV.gj h3))];exact h3
 ·rw [fJ th (by omega) (Ne.symm (hqV.gj hth'))];exact hthI
 ·rw [fJ z0 (by omega) (Ne.symm (hqV.ne hz0 (by decide))),fI z0 (by omega)]
 ·refine hx3.kf ⟨by omega,fun z hz=>?_⟩;have hzne:z≠F.next:=MJ.ne hz vH
  rcases qaZ z D.next with hzl|hzl
  ·have hFD:oz I q f.1 hFI.choose (f.1++f.2):=hFI.choose_spec.1;have hIH:I.get z=H.get z:=fI z hzne;have hfz:MJ I z:=⟨by have:=hz.1;omega,by obtain⟨_,t,k,f,c,e⟩:=hz;exact⟨t,k,f,c,hIH.trans e⟩⟩;rw [fJ z (by omega) (MJ.ne hfz hFD),hIH]
  ·rw [fJ z (by have:=hz.1;omega) (by have:=hqV.1;omega),fI z hzne]
 ·rcases qaZ j i with hji|hji
  ·rw [qaJ (by omega)] at hg';obtain⟨f',q',e1,e2,e3,e4⟩:=hLf j g' hg';exact⟨f',q',e1,e2,e3,oth j q' g' e2 (by omega) e4⟩
  ·rw [qaF (by omega)] at hg';cases hjx:j-L.length with
   |succ n=>rw [hjx] at hg';simp at hg'
   |zero=>
    rw [hjx] at hg';cases hg';obtain rfl:j=i:=by omega
    exact⟨f,q,hfi,hq,hst,hFJ⟩
 ·obtain⟨q',e1,e2⟩:=hR j f' (by omega) hf';exact⟨q',e1,oth j q' f' e1 (by omega) e2⟩
 ·simp only [Sq,qal,qam,s0,s4,s5,s28,s29]
def W0 (D D':dh):Prop:=D'.dn=false∧D'.ar=0∧D'.st=D.st∧D'.la=D.la∧(∃k',D.k≤k'∧k'≤D.ns.length∧D'.k=k'∧D'.ns=D.ns.take k')∧∀(i:Nat) (g:List UInt8×List UInt8),D'.fs[i]?=some g→∃f,D.fs[i]?=some f∧B_ f g
theorem DK {α:Type} {l:List α} (n:Nat) (h:l.Nodup):(l.take n).Nodup:=(List.take_sublist n l).nodup h
theorem FV {D:dh} {ls:List Nat} {x:Value} (h:fx A p D) (hx:jg A ls x) (hn:∀k,D.k≤k→k≤D.ns.length→ug (D.ns.take k)∧fW (D.ns.take k)=D.ns.take k) (hn1:D.ns.length<1000) (hlen:∀f∈D.fs,f.1.length+f.2.length<1000000):
 ∃v A',bg af 22 [pV p,x] A v A'∧v=bL∧(∃D',fx A' p D'∧W0 D D')∧KT (fun e=>dT e∧e≠55) A A':=by
 refine cF (aq Tryz.func22) Uu (by kernel_rfl) ?_;obtain⟨v1,A1,⟨g1,h1⟩,rfl,k1,z0A⟩:=PA hx;have sB:aW af (A1.alloc (aa 120 [.nilFunc])) 120 (pw A1.next 0) (.agg ⟨[ig A.next]⟩)= .ok (A1.alloc (aa 120 [ig A.next])):=bk DA rfl rfl (by simp) (by simp [ig,aJ]);have k2:=Kp.alloc A1 (aa 120 [ig A.next]);have z1B:=ay A1 120 [ig A.next];have n2:(A1.alloc (aa 120 [ig A.next])).next=A1.next+1:=ae _ _
 generalize A1.alloc (aa 120 [ig A.next])=B at sB k2 z1B n2;have z0B:=z0A.kp k2;obtain⟨n,C,⟨g2,h2⟩,⟨ls2,x2,z0C,hxC⟩,hnb,nC,fC⟩:=qY z0B ((hx.kf k1.f).kf k2.f);have z1C:VB C 120 A1.next (.var 1) [ig A.next]:=⟨by have:=z1B.1;omega,z1B.2.same (fC _ (z1B.ne z0B (by decide)))⟩
 have hAn:=k1.1;have hz0A:=z0A.1;have kC:Kp A C:=⟨by omega,fun z hz=>by rw [fC z (by omega),k2.2 z (by omega),k1.2 z hz]⟩;have hDC:=h.kp kC;obtain⟨pf,ml,mn,b,mf,ps,hV,hF,⟨hmf,hmf'⟩,⟨hl1,hl2,hnd,hnn⟩,hfl,hm1,hm2⟩:=hDC;have VB0:=(hV:VB C 81 p _ _);have lpB:ag af B.get 78 (pw p 0)= .ok (pV pf):=by
  obtain⟨d,hd,ha⟩:=qz;exact VB.ld (tb:=af) (A:=B) (e:=81) (k:=.var 6) ⟨by have:=hV.1;omega,hV.2.same (fC p (by
   have:=hV.ne z0C (by decide);exact this)).symm⟩ rfl hd ha
 have lpC:ag af C.get 78 (pw p 0)= .ok (pV pf):=by
  obtain⟨d,hd,ha⟩:=qz;exact hV.ld rfl hd ha
 have l45B:ag af B.get 45 (pw A1.next 0)= .ok (ig A.next):=by
  obtain⟨d,hd,ha⟩:=Qt;exact z1B.ld rfl hd ha
 obtain⟨v3,E,mk,⟨g3,h3⟩,rfl,hFE,hmkC,nE,fE⟩:=sq (n:=n) hF hnn hn1;have hkl:D.k≤D.ns.length:=by
  obtain⟨_,_,_,_,_,_,_,_,e,_⟩:=hF;omega
 generalize hk':D.k+min n (D.ns.length-D.k)=k' at hFE;have hkk:D.k≤k'∧k'≤D.ns.length:=by omega
 obtain⟨hno,hso⟩:=hn k' hkk.1 hkk.2;obtain⟨_,_,qV,⟨_,qml⟩,-⟩:=hF;have KCE:KT (fun e=>e≠201) C E:=⟨nE,fun e z k l he hz=>fE z hz.1 (hz.ne qV he) (hz.gj qml),fun z hz=>fE z hz.1 (hz.ne qV) (hz.gj qml)⟩;have hmfE:E.get mf=some (.map (dG ps 0) ps.length):=by rw [fE mf hmf (Ne.symm (qV.gj hmf')) hm1];exact hmf'
 have kG:=Kp.alloc E (.map [] 0);have hth:(E.alloc (.map [] 0)).get E.next=some (.map [] 0):=ax _ _
 have nG:(E.alloc (.map [] 0)).next=E.next+1:=ae _ _
 generalize hG:E.alloc (.map [] 0)=G at kG hth nG;have kFG:iJ G pf ml mk b k' D.la (D.ns.take k'):=hFE.kp kG;obtain⟨y,yr,qG,ymlG,ymkG,-⟩:=id kFG;obtain⟨vn,H,⟨g4,h4⟩,⟨bn,hbn⟩,kH⟩:=BB qG ymkG hno;rw [hso] at hbn;have hlenN:=az.len (tb:=af) hbn Mw;have htl:(D.ns.take k').length=k':=by rw [qaE];omega
 rw [qas,htl] at hlenN;have VE:=KCE.vb hV (by decide);have lpG:ag af G.get 78 (pw p 0)= .ok (pV pf):=by
  obtain⟨d,hd,ha⟩:=qz;exact(VE.kp kG).ld rfl hd ha
 have kEH:=kG.trans kH;have VH:=VE.kp kEH;have z0H:=(KCE.vb z0C (by decide)).kp kEH;have z1H:=(KCE.vb z1C (by decide)).kp kEH;have hxH:=(hxC.kf KCE.f).kf kEH.f;have FH:=kFG.kp kH;obtain⟨yH,yrH,qH,⟨-,ymlH⟩,⟨ymkl,ymkH⟩,-⟩:=id FH;have hmfH:H.get mf=some (.map (dG ps 0) ps.length):=by rw [kEH.2 mf (by omega)];exact hmfE
 have hthH:H.get E.next=some (.map [] 0):=by rw [kH.2 _ (by omega)];exact hth
 have hH1:=kEH.1;have hH2:=kH.1;have hmkE:mk<E.next:=by
  obtain⟨_,_,_,_,⟨e,-⟩,-⟩:=hFE;exact e
 have hmlE:ml<E.next:=by
  obtain⟨_,_,_,⟨e,-⟩,-⟩:=hFE;exact e
 have sn:=eS .i64 n rfl;have hbt:∀(z:Nat),z<C.next→z≠pf→z≠ml→H.get z=C.get z:=fun z h1 h2 h3=>by rw [kEH.2 z (by omega),fE z h1 h2 h3]
 simp only [pV,ig] at h1 h2 h3 h4 sB lpB lpC l45B lpG;simp only [pV];apply W.q
 ·intro M;simp (disch:=first|decide+kernel|omega) only [G5,qdM,Aq,qal,bW,CL,bc];rfl
 apply W.qG (g1)
 ·intro M hM;simp (disch:=first|decide+kernel|omega) only [G5,qdM,Aq,qal,h1,Kq,au,sB];rfl
 apply W.qG (g2+g3)
 ·intro M hM;simp (config:={maxSteps:=4000000}) (disch:=first|decide+kernel|omega|simp only [Wq,qal]) only [G5,qdM,Aq,qaq,reduceIte,qal,qam,ak,aF,qj,NQ,lpB,lpC,l45B,h2,h3,mM,sn,Fq,aA [(3,6)]];rfl
 apply W.q
 ·intro M;simp (disch:=first|decide+kernel|omega) only [G5,qdM,Aq,qal,jc,gB,Eb,hG];rfl
 apply W.seq;apply W.qG (g4)
 ·intro M hM;simp (disch:=first|decide+kernel|omega) only [G5,qdM,Aq,qal,ak,aF,qj,lpG,h4,hlenN];rfl
 apply W.block;refine W.up k' (fun i t M=>Uf H D.fs ps A.next E.next i M∧Sl t [(0,pV p),(4,pV A1.next),(5,.map (some E.next)),(28,vn),(29,.int .i64 ((D.ns.take k').length:Int)),(30,.int .i64 i)]) ?_ (qaB _) ⟨⟨⟨⟨qao _,fun _ _ _ _ _ _=>rfl,fun _ _=>rfl⟩,fun _ _ _ _ _ h=>h⟩,⟨by omega,hthH⟩,⟨ls2,x2,z0H,hxH⟩,⟨[],rfl,fun j g hg=>by simp at hg⟩,fun j f _ hf=>?_⟩,?_⟩
 ·rintro i t M hi ⟨hR,hs0⟩;by_cases hlt:i<k'
  ·refine(LK hR VH qH ymkH hmfH z1H hbn (by rw [htl];exact hlt) (DK _ hnn) hnd (by rw [htl];omega) (by rw [htl];omega) hl1 hlen ⟨by omega,by omega⟩ ⟨ymkl,by omega⟩ hs0).mono ?_;rintro e s' ⟨rfl,t',D',rfl,hR',hs'⟩;exact⟨hlt,t',D',rfl,hR',hs'⟩
  ·obtain rfl:i=k':=by omega
   obtain⟨⟨K,hMp⟩,⟨htM,htM'⟩,-,⟨L,hL,hLf⟩,-⟩:=hR;obtain⟨f0,f4,f5,f28,f29,f30,-⟩:=hs0;rw [htl] at f29;have VM:=K.vb VH ⟨by decide,by decide⟩;obtain⟨M1,s1,w1,m1,e1⟩:=aL (tb:=af) (t:=79) (o:=1) (v:=.map (some E.next)) V0 VM.2 (by simp) rfl rfl;obtain⟨M2,s2,w2,m2,e2⟩:=aL (tb:=af) (t:=4) (o:=5) (v:=.bool false) PX w1 (by simp) rfl rfl;obtain⟨M3,s3,w3,m3,e3⟩:=aL (tb:=af) (t:=3) (o:=4) (v:=iN 0) q_ w2 (by simp) rfl rfl;have eM:∀z,z≠p→M3.get z=M.get z:=fun z hz=>by rw [e3 z hz,e2 z hz,e1 z hz]
   have KM:=KT.ye VM (B:=M3) (by omega) fun z _=>eM z
   simp only [pV] at*;apply W.run 20
   ·intro M;simp (disch:=first|decide+kernel|omega) only [IU,G5,qdM,Aq,qal,f29,f30];rfl
   apply W.run 20
   ·intro M;simp (disch:=first|decide+kernel|omega) only [G5,qdM,Aq,qal,f0,f5,ak,aF,AI,EF,rP,s1,s2,s3];rfl
   have nM:M3.next=M.next:=by omega
   refine⟨by simp,rfl,_,(by simp only [qdM,Aq,qal]<;>rfl),rfl,⟨⟨i,D.la,D.ns.take i,L,D.st,0,false⟩,⟨pf,ml,mk,b,E.next,ps.take i,⟨by show p<M3.next;have:=VM.1;omega,w3⟩,?_,⟨by show E.next<M3.next;omega,?_⟩,⟨?_,?_,DK _ hnd,DK _ hnn⟩,fun j g hg=>?_,by omega,by omega⟩,rfl,rfl,rfl,rfl,⟨i,hkk.1,hkk.2,rfl,rfl⟩,fun j g hg=>?_⟩,?_⟩
   ·have hmlH:ml<H.next:=by omega
    refine(FH.kt K ⟨by decide,by decide,by decide,by decide⟩ fun m es c hm hl=>(hMp m es c (by rcases hl with rfl|rfl<;>omega) (by rcases hl with rfl|rfl<;>omega) hm).trans hm.symm).kt KM ⟨by decide,by decide,by decide,by decide⟩ fun m es c hm hl=>eM m (Ne.symm (VM.gj hm))
   ·show M3.get E.next=some (.map (dG (ps.take i) 0) (ps.take i).length)
    rw [eM _ (Ne.symm (VM.gj htM')),htM',qaE,qbr (by omega)]
   ·show(ps.take i).length=L.length;rw [qaE,hL];omega
   ·show L.length=(D.ns.take i).length;rw [htl,hL]
   ·obtain⟨f,q,a1,a2,a3,a4⟩:=hLf j g hg;have hjl:j<L.length:=(qap.1 hg).1;have a4':=a4;obtain⟨_,a5,-⟩:=a4';exact⟨q,by rw [qbm,if_pos (by omega)];exact a2,a4.kt KM (eM q (VB.ne a5 VM (by decide))) ⟨by decide,by decide⟩⟩
   ·obtain⟨f,q,a1,a2,a3,a4⟩:=hLf j g hg;exact⟨f,a1,a3⟩
   ·have t1:KT (fun e=>dT e∧e≠55) A H:=kC.kt.trans ((KCE.mono fun e he=>he.1.2.1).trans kEH.kt);exact t1.trans ((K.mono fun e he=>⟨he.1.2.2.2.1,he.2⟩).trans (KM.mono fun e he=>he.1.1))
 ·obtain⟨q,a1,a2⟩:=hfl j f hf;have a2':=a2;obtain⟨_,a5,-⟩:=a2';exact⟨q,a1,(a2.kt KCE (fE q a5.1 (VB.ne a5 qV (by decide)) (VB.gj a5 qml)) ⟨by decide,by decide⟩).kt (P:=fun _=>True) kEH.kt (kEH.2 q (by have:=a5.1;omega)) ⟨trivial,trivial⟩⟩
 ·rw [htl];simp only [Sq,qal,qam,pV]
theorem F6 {D:Mem} {a:cJ}:aW af (D.alloc (aa 246 [bN 0,uN 0,iN 0])) 246 (pw D.next 0) (.agg ⟨b6 a⟩)= .ok (D.alloc (aa 246 (b6 a))):=bk MB rfl rfl (by simp) (by simp [b6,aJ])
theorem rj:bS af 246= .ok (.agg ⟨[bN 0,uN 0,iN 0]⟩):=by kernel_rfl
def E4 (l:List cJ) (j:Nat):Int:=if j=0 then-1 else(((l[j-1]?).map fun a=>a.byte.toNat).getD 0:Nat)
variable {j:Nat}
theorem OD {l:List cJ} (hp:(l.map (·.byte)).Pairwise (·<·)) (hj:j<l.length):¬(((l[j].byte.toNat:Nat):Int)≤E4 l j):=by
 unfold E4;split
 ·omega
 ·rename_i h0;rw [qan (by omega)];have:=qbs.1 hp (j-1) j (by rw [qas];omega) (by rw [qas];omega) (by omega);rw [qc2,qc2] at this;have:=qde.1 this;simp only [qa5,qbG];omega
theorem NO (t:T Value):ev t (.const (.int .i64 (-1)))= .ok (.int .i64 (-1)):=rfl
noncomputable def lY:Code:=qbS.body.getD .skip
noncomputable def dU:Code:=sub lY [1,0,1,0,0]
noncomputable def GV:Code:=sub dU [1,1,0,0,1,1,1,1,0,0]
theorem Q8:qbS.body=some (.seq (sub lY [0]) (.seq (.seq (sub lY [1,0,0]) (.block 0 (.loop dU))) (.seq (sub lY [1,1,0]) (sub lY [1,1,1])))):=by kernel_rfl
theorem Ar:dU=(.seq (sub dU [0]) (.seq (sub dU [1,0]) (.seq (.block 1 (.seq (sub dU [1,1,0,0,0]) (.seq (sub dU [1,1,0,0,1,0]) (.seq (sub dU [1,1,0,0,1,1,0]) (.seq (sub dU [1,1,0,0,1,1,1,0]) (.block 2 (.loop GV))))))) (sub dU [1,1,1])))):=by kernel_rfl
variable {M:List aZ} {k:Nat}
theorem H' (h:dJ A M y) (hM:M≠ []) (hg:dg M) (hl:M.length<1000000):∃v A',bg af 190 [.agg ⟨[y,.int .u64 k]⟩] A v A'∧v= .bool true∧Kp A A':=by
 refine cF (aq Tryz.func190) Q8 (by kernel_rfl) ?_;have kB:=Kp.alloc A (aa 115 [y,.int .u64 k]);have vB:=ay A 115 [y,.int .u64 k];apply W.q
 ·intro M;simp (disch:=first|decide+kernel|omega) only [lY,qbS,Aq,qal,au];rfl
 have hB:=h.kp kB;generalize A.alloc (aa 115 [y,.int .u64 k])=B at kB vB hB;have ly:∀D,Kp B D→ag af D.get 112 (.pointer (some ⟨A.next,0,none⟩))= .ok y:=fun D hD=>(vB.kp hD).ld rfl fy rfl
 have lB:=ly B (Kp.refl _);have bX:=hB.len;apply W.seq;apply W.q
 ·intro M;simp (disch:=first|decide+kernel|omega) only [lY,qbS,Aq,qal,ed,lB,bX];rfl
 apply W.block;refine W.up M.length (fun i t D=>Kp B D∧Sl t [(1,.pointer (some ⟨A.next,0,none⟩)),(9,y),(10,.int .i64 M.length),(11,.int .i64 i)]) ?_ (qaB _) ⟨Kp.refl _,?_⟩
 ·rintro i t D hi ⟨kD,g1,g9,g10,g11,-⟩;have hD:=hB.kp kD;by_cases hlt:i<M.length
  ·have hMi:M[i]?=some M[i]:=qan hlt;obtain⟨l1,l2,l3,-,-⟩:=hg i _ hMi;have hfew:=np (hg i _ hMi);obtain⟨x,p,j1,j2,hx,-⟩:=hD.at hMi;generalize M[i]=s at*;have sE:=BJ hx;have kE:=Kp.alloc D (aa 186 (cW x s));have vE:=ay D 186 (cW x s);generalize D.alloc (aa 186 (cW x s))=E at sE kE vE;have a0:ag af E.get 184 (.pointer (some ⟨D.next,0,none⟩))= .ok x:=vE.ld rfl mi rfl;have a1:ag af E.get 4 (.pointer (some ⟨D.next,0+1,none⟩))= .ok (.bool s.fin):=vE.ld rfl u4 rfl;have a2:ag af E.get 113 (.pointer (some ⟨D.next,0+2,none⟩))= .ok (.int .u64 s.out):=vE.ld rfl fp rfl;have hxE:=hx.kp kE;have lx:=hxE.len;rw [Ar];apply W.q
   ·intro M;simp (disch:=first|decide+kernel|omega) only [dU,lY,qbS,Aq,qal,g10,g11,hlt];rfl
   apply W.q
   ·intro M;simp (disch:=first|decide+kernel|omega) only [dU,lY,qbS,Aq,qal];rfl
   apply W.seq;apply W.block;apply W.q
   ·intro M;simp (disch:=first|decide+kernel|omega) only [dU,lY,qbS,Aq,qal,g9,g11,j1,j2,jE,au,sE];rfl
   apply W.seq;refine W.to (n:=56) (fun t D'=>D'=E∧Sl t [(1,.pointer (some ⟨A.next,0,none⟩)),(3,.int .i64 i),(4,.pointer (some ⟨D.next,0,none⟩)),(9,y),(10,.int .i64 M.length),(11,.int .i64 i)]) ?_ ?_
   ·cases hf:s.fin with
    |true=>
     rw [hf] at a1;apply W.run 20
     ·intro M;simp (config:={maxSteps:=4000000}) (disch:=first|decide+kernel|omega|simp only [Wq,qal]) only [dU,lY,qbS,Aq,qaq,reduceIte,qal,qam,ee,a1];rfl
     refine⟨rfl,_,_,rfl,rfl,?_⟩;simp only [Sq,qal,qam,g1,g9,g10,g11]
    |false=>
     rw [hf] at a1;have ho:=l1 hf;rw [ho] at a2;apply W.run 20
     ·intro M;simp (config:={maxSteps:=4000000}) (disch:=first|decide+kernel|omega|simp only [Wq,qal]) only [dU,lY,qbS,Aq,qaq,reduceIte,qal,qam,ee,m_,a1,a2];rfl
     refine⟨rfl,_,_,rfl,rfl,?_⟩;simp only [Sq,qal,qam,g1,g9,g10,g11]
   ·rintro t D' ⟨rfl,g1,g3,g4,g9,g10,g11,-⟩;apply W.q
    ·intro M;simp (disch:=first|decide+kernel|omega) only [dU,lY,qbS,Aq,qal,NO];rfl
    apply W.seq;apply W.run 20
    ·intro M;simp (disch:=first|decide+kernel|omega) only [dU,lY,qbS,Aq,qal,g4,fk,a0,lx];rfl
    apply W.block;refine W.up s.arcs.length (fun j t F=>Kp D' F∧Sl t [(1,.pointer (some ⟨A.next,0,none⟩)),(3,.int .i64 i),(5,.int .i64 (E4 s.arcs j)),(9,y),(10,.int .i64 M.length),(11,.int .i64 i),(25,x),(26,.int .i64 s.arcs.length),(27,.int .i64 j)]) ?_ (qaB _) ⟨Kp.refl _,?_⟩
    ·rintro j t F hj ⟨kF,g1,g3,g5,g9,g10,g11,g25,g26,g27,-⟩;by_cases hlt2:j<s.arcs.length
     ·have hsj:s.arcs[j]?=some s.arcs[j]:=qan hlt2;obtain⟨q,q1,q2⟩:=(hxE.kp kF).at hsj;have ht:=l3 _ (qbg hlt2);have hla:=OD l2 hlt2;have hlv:E4 s.arcs (j+1)=((s.arcs[j].byte.toNat:Nat):Int):=by unfold E4;rw [if_neg (by omega),qbW,hsj];rfl
      generalize s.arcs[j]=a at*;have sG:=F6 (D:=F) (a:=a);have kG:=Kp.alloc F (aa 246 (b6 a));have vG:=ay F 246 (b6 a);generalize F.alloc (aa 246 (b6 a))=G at sG kG vG;have b0:ag af G.get 5 (.pointer (some ⟨F.next,0,none⟩))= .ok (.int .u8 (a.byte.toNat:Nat)):=vG.ld rfl u5 rfl;have b2:ag af G.get 3 (.pointer (some ⟨F.next,0+2,none⟩))= .ok (.int .i64 a.to):=vG.ld rfl u3 rfl;have ht2:¬i≤a.to:=by omega
      have cv:=bM (tb:=af) (s:=5) (d:=3) (k:=.u8) (n:=a.byte.toNat) (by rw [u5];rfl) u3 (aV (by have:=a.byte.toNat_lt;omega));apply W.run 20
      ·intro M;simp (config:={maxSteps:=4000000}) (disch:=first|decide+kernel|omega|simp only [Wq,qal]) only [GV,dU,lY,qbS,Aq,qaq,reduceIte,qal,qam,g3,g5,g25,g26,g27,hlt2,q1,q2,rj,au,sG,pH,nb,b0,b2,ef,cL,ht2,cv,nt,hla];rfl
      refine⟨hlt2,_,_,rfl,kF.trans kG,?_⟩;simp only [Sq,qal,qam,g1,g3,g9,g10,g11,g25,g26,hlv]
     ·have e:j=s.arcs.length:=by omega
      subst e;apply W.run 20
      ·intro M;simp (disch:=first|decide+kernel|omega) only [GV,dU,lY,qbS,Aq,qal,g26,g27];rfl
      show W af (sub dU [1,1,1]) _ _;apply W.run 20
      ·intro M;simp (disch:=first|decide+kernel|omega) only [dU,lY,qbS,Aq,qal,g11];rfl
      refine⟨hlt,_,_,rfl,kD.trans (kE.trans kF),?_⟩;simp only [Sq,qal,qam,g1,g9,g10]
    ·simp only [Sq,qal,qam,g1,g3,g9,g10,g11];rfl
  ·have e:i=M.length:=by omega
   subst e;have lD:=ly D kD;have lenD:=hD.len;have hpos:0<M.length:=qa6.2 hM;rw [Ar];apply W.q
   ·intro M;simp (disch:=first|decide+kernel|omega) only [dU,lY,qbS,Aq,qal,g10,g11];rfl
   apply W.seq;apply W.run 20
   ·intro M;simp (disch:=first|decide+kernel|omega) only [dU,lY,qbS,Aq,qal];rfl
   apply W.seq;apply W.run 20
   ·intro M;simp (disch:=first|decide+kernel|omega) only [lY,qbS,Aq,qal,g1,ed,lD,lenD,cT,bY,hpos];rfl
   apply W.run 20
   ·intro M;simp (disch:=first|decide+kernel|omega) only [lY,qbS,Aq,qal];rfl
   exact⟨by simp,rfl,_,(by simp only [qbS,Aq,qal]<;>rfl),rfl,kB.trans kD⟩
 ·simp only [Sq,qal,qam]
def E5 (s:Nat×Bool) (a:cJ):Nat×Bool:=if s.2=false∨a.out<s.1 then(a.out,true) else s
theorem E6:∀(l:List cJ) (s:Nat×Bool),(s=(0,true)∨∃a∈l,a.out=0)→l.foldl E5 s=(0,true)
 | [],s,h=>by
  rcases h with h|⟨a,h,-⟩
  ·exact h
  ·cases h
 |a::l,s,h=>by
  rw [qbu];refine E6 l _ ?_;rcases h with rfl|⟨b,hb,h0⟩
  ·exact .inl (by unfold E5;rw [if_neg (by simp)])
  ·rcases qaK.1 hb with rfl|hb
   ·refine .inl ?_;unfold E5;obtain⟨n,an⟩:=s;cases an with
    |false=>simp [h0]
    |true=>
     by_cases hn:b.out<n
     ·rw [if_pos (.inr hn),h0]
     ·rw [if_neg (by simp;omega)];rw [h0] at hn;have:n=0:=by omega
      rw [this]
   ·exact .inr ⟨b,hb,h0⟩
variable {o:Nat}
theorem nd:av af 188 (pw b o) 0= .ok (pw b o):=by kernel_rfl
noncomputable def qL:Code:=qc9.body.getD .skip
noncomputable def wV:Code:=sub qL [1,1,0,1,0,0]
theorem Q_:qc9.body=some (.seq (sub qL [0]) (.seq (sub qL [1,0]) (.seq (.seq (sub qL [1,1,0,0]) (.block 0 (.loop wV))) (.seq (sub qL [1,1,1,0]) (sub qL [1,1,1,1]))))):=by kernel_rfl
theorem uS {s:aZ} {x z:Value} (hx:iI A s.arcs x) (hp:VB A 188 p (.var 4) [x,.bool s.fin,.int .u64 s.out,z]) (hl:s.arcs.length≤256):∃v A',bg af 174 [.pointer (some ⟨p,0,none⟩)] A v A'∧v= .int .u64 (((s.arcs.foldl E5 (s.out,s.fin)).1:Nat):Int)∧Kp A A':=by
 refine cF (aq Tryz.func174) Q_ (by kernel_rfl) ?_;have a0:ag af A.get 184 (.pointer (some ⟨p,0,none⟩))= .ok x:=hp.ld rfl mi rfl;have a1:ag af A.get 4 (.pointer (some ⟨p,0+1,none⟩))= .ok (.bool s.fin):=hp.ld rfl u4 rfl;have a2:ag af A.get 113 (.pointer (some ⟨p,0+2,none⟩))= .ok (.int .u64 s.out):=hp.ld rfl fp rfl;have lx:=hx.len;apply W.q
 ·intro M;simp (disch:=first|decide+kernel|omega) only [qL,qc9,Aq,qal];rfl
 apply W.q
 ·intro M;simp (config:={maxSteps:=4000000}) (disch:=first|decide+kernel|omega|simp only [Wq,qal]) only [qL,qc9,Aq,qaq,reduceIte,qal,qam,ak,aF,nd,ee,m_,a1,a2,Fq,aA []];rfl
 apply W.seq;apply W.q
 ·intro M;simp (disch:=first|decide+kernel|omega) only [qL,qc9,Aq,qal,ak,aF,nd,fk,a0,lx];rfl
 apply W.block;refine W.up s.arcs.length (fun j t D=>Kp A D∧Sl t [(3,.int .u64 ((((s.arcs.take j).foldl E5 (s.out,s.fin)).1:Nat):Int)),(4,.bool ((s.arcs.take j).foldl E5 (s.out,s.fin)).2),(21,x),(22,.int .i64 s.arcs.length),(23,.int .i64 j)]) ?_ (qaB _) ⟨Kp.refl _,?_⟩
 ·rintro j t D hj ⟨kD,g3,g4,g21,g22,g23,-⟩;by_cases hlt:j<s.arcs.length
  ·have hsj:s.arcs[j]?=some s.arcs[j]:=qan hlt;obtain⟨q,q1,q2⟩:=(hx.kp kD).at hsj;have htk:(s.arcs.take (j+1)).foldl E5 (s.out,s.fin)=E5 ((s.arcs.take j).foldl E5 (s.out,s.fin)) s.arcs[j]:=by rw [qaC hlt,qcR];rfl
   generalize s.arcs[j]=a at*;generalize (s.arcs.take j).foldl E5 (s.out,s.fin)=w at*;obtain⟨n,an⟩:=w;have sG:=F6 (D:=D) (a:=a);have kG:=Kp.alloc D (aa 246 (b6 a));have vG:=ay D 246 (b6 a);generalize D.alloc (aa 246 (b6 a))=G at sG kG vG;have b1:ag af G.get 113 (.pointer (some ⟨D.next,0+1,none⟩))= .ok (.int .u64 a.out):=vG.ld rfl fp rfl;cases an with
   |false=>
    have e:E5 (n,false) a=(a.out,true):=by unfold E5;rw [if_pos (.inl rfl)]
    apply W.run 20
    ·intro M;simp (config:={maxSteps:=4000000}) (disch:=first|decide+kernel|omega|simp only [Wq,qal]) only [wV,qL,qc9,Aq,qaq,reduceIte,qal,qam,g3,g4,g21,g22,g23,hlt,q1,q2,rj,au,sG,qR,b1];rfl
    refine⟨hlt,_,_,rfl,kD.trans kG,?_⟩;rw [htk,e];simp only [Sq,qal,qam,g21,g22]
   |true=>
    by_cases hn:a.out<n
    ·have e:E5 (n,true) a=(a.out,true):=by unfold E5;rw [if_pos (.inr hn)]
     apply W.run 20
     ·intro M;simp (config:={maxSteps:=4000000}) (disch:=first|decide+kernel|omega|simp only [Wq,qal]) only [wV,qL,qc9,Aq,qaq,reduceIte,qal,qam,g3,g4,g21,g22,g23,hlt,q1,q2,rj,au,sG,qR,b1,hn];rfl
     refine⟨hlt,_,_,rfl,kD.trans kG,?_⟩;rw [htk,e];simp only [Sq,qal,qam,g21,g22]
    ·have e:E5 (n,true) a=(n,true):=by unfold E5;rw [if_neg (by simp;omega)]
     apply W.run 20
     ·intro M;simp (config:={maxSteps:=4000000}) (disch:=first|decide+kernel|omega|simp only [Wq,qal]) only [wV,qL,qc9,Aq,qaq,reduceIte,qal,qam,g3,g4,g21,g22,g23,hlt,q1,q2,rj,au,sG,qR,b1,hn];rfl
     refine⟨hlt,_,_,rfl,kD.trans kG,?_⟩;rw [htk,e];simp only [Sq,qal,qam,g3,g4,g21,g22]
  ·have e:j=s.arcs.length:=by omega
   subst e;rw [qaR] at g3;apply W.run 20
   ·intro M;simp (disch:=first|decide+kernel|omega) only [wV,qL,qc9,Aq,qal,g22,g23];rfl
   apply W.q
   ·intro M;simp (disch:=first|decide+kernel|omega) only [qL,qc9,Aq,qal,g3];rfl
   apply W.run 20
   ·intro M;simp (disch:=first|decide+kernel|omega) only [qL,qc9,Aq,qal];rfl
   exact⟨by simp,rfl,_,(by simp only [qc9,Aq,qal]<;>rfl),rfl,kD⟩
 ·simp only [Sq,qal,qam];simp
theorem Ia {s:aZ} {x z:Value} (hx:iI A s.arcs x) (hp:VB A 188 p (.var 4) [x,.bool s.fin,.int .u64 s.out,z]) (hl:s.arcs.length≤256) (h0:(s.fin=true∧s.out=0)∨∃a∈s.arcs,a.out=0):∃v A',bg af 174 [pw p 0] A v A'∧v=uN 0∧Kp A A':=by
 obtain⟨v,A',h1,rfl,h3⟩:=uS hx hp hl;refine⟨_,A',h1,?_,h3⟩;rw [E6 s.arcs (s.out,s.fin) (h0.imp (fun h=>by rw [h.1,h.2]) id)]
def gH (ns:List Nat):List UInt8:=ns.flatMap fun n=>qe n++[32]
def qC (a:cJ):List Nat:=[a.byte.toNat,a.out,a.to]
def uG (s:aZ):List Nat:=s.out::s.arcs.flatMap qC
def fm (s:aZ):List UInt8:=(if s.fin then [33] else [])++gH (uG s)
theorem OW {a:Nat} (ha:a<18446744073709551616) (hb:b<18446744073709551616) (h:qe a=qe b):a=b:=by
 have h1:=xg 13 a (by omega);have h2:=xg 13 b (by omega);unfold qe at h;rw [←h1,←h2,h]
theorem Ka:∀{x y r q:List UInt8},(∀c∈x,48≤c.toNat)→(∀c∈y,48≤c.toNat)→x++32::r=y++32::q→x=y∧r=q
 | [],[],_,_,_,_,h=>⟨rfl,by simpa using h⟩
 | [],c::y,_,_,_,hy,h=>by
  have:=hy c qaz;simp only [qbv,qbf,qa4] at h;rw [←h.1] at this;exact absurd this (by decide)
 |c::x,[],_,_,hx,_,h=>by
  have:=hx c qaz;simp only [qbv,qbf,qa4] at h;rw [h.1] at this;exact absurd this (by decide)
 |c::x,d::y,r,q,hx,hy,h=>by
  simp only [qbf,qa4] at h;obtain⟨h1,h2⟩:=Ka (fun e he=>hx e (qay _ he)) (fun e he=>hy e (qay _ he)) h.2;exact⟨by rw [h.1,h1],h2⟩
theorem Kj:∀{l m:List Nat},(∀n∈l,n<18446744073709551616)→(∀n∈m,n<18446744073709551616)→gH l=gH m→l=m
 | [],[],_,_,_=>rfl
 | [],n::m,_,_,h=>by simp [gH] at h
 |n::l,[],_,_,h=>by simp [gH] at h
 |n::l,k::m,hl,hm,h=>by
  simp only [gH,qbl,qbh,List.singleton_append] at h;obtain⟨h1,h2⟩:=Ka (rL 13 n) (rL 13 k) h;rw [OW (hl n qaz) (hm k qaz) h1,Kj (fun e he=>hl e (qay _ he)) (fun e he=>hm e (qay _ he)) h2]
theorem Ea:∀{l m:List cJ},l.flatMap qC=m.flatMap qC→l=m
 | [],[],_=>rfl
 | [],a::m,h=>by simp [qC] at h
 |a::l,[],h=>by simp [qC] at h
 |a::l,b::m,h=>by
  simp only [qbl,qC,qbf,qbv,qa4] at h;obtain⟨h1,h2,h3,h4⟩:=h;rw [Ea h4];obtain⟨a1,a2,a3⟩:=a;obtain⟨b1,b2,b3⟩:=b;simp only at h1 h2 h3;rw [qdf.1 h1,h2,h3]
def Fit (s:aZ):Prop:=s.out<18446744073709551616∧∀a∈s.arcs,a.out<18446744073709551616∧a.to<1000000
theorem EJ {s:aZ} (h:Fit s):∀n∈uG s,n<18446744073709551616:=by
 intro n hn;rcases qaK.1 hn with rfl|hn
 ·exact h.1
 ·obtain⟨a,ha,hn⟩:=qds.1 hn;have:=h.2 a ha;have:=a.byte.toNat_lt;simp only [qC,qaK,qbb,or_false] at hn;omega
theorem I4 (k n:Nat):ot (k+1) n≠ []:=by
 unfold ot;split<;>simp
theorem key_inj {s u:aZ} (hs:Fit s) (hu:Fit u) (h:fm s=fm u):s=u:=by
 have hd:∀v:aZ,∃c w,gH (uG v)=c::w∧48≤c.toNat:=fun v=>by
  unfold gH uG;rw [qbl];unfold qe;cases hq:ot 13 v.out with
  |nil=>exact absurd hq (I4 _ _)
  |cons c w=>exact⟨c,_,rfl,rL 13 v.out c (by rw [hq];exact qaz)⟩
 unfold fm at h;have hf:s.fin=u.fin∧gH (uG s)=gH (uG u):=by
  obtain⟨c1,w1,e1,g1⟩:=hd s;obtain⟨c2,w2,e2,g2⟩:=hd u;cases h1:s.fin<;>cases h2:u.fin<;>simp only [h1,h2,if_true,qaI,if_false,qbv,qbf,qa4,true_and] at h
  ·exact⟨rfl,h⟩
  ·rw [e1] at h;simp only [qa4] at h;rw [h.1] at g1;exact absurd g1 (by decide)
  ·rw [e2] at h;simp only [qa4] at h;rw [←h.1] at g2;exact absurd g2 (by decide)
  ·exact⟨rfl,h⟩
 have hn:=Kj (EJ hs) (EJ hu) hf.2;unfold uG at hn;simp only [qa4] at hn;obtain⟨f1,o1,a1⟩:=s;obtain⟨f2,o2,a2⟩:=u;simp only at hf hn;rw [hf.1,hn.1,Ea hn.2]
theorem Gc (l m:List Nat):gH (l++m)=gH l++gH m:=by unfold gH;rw [qcY]
theorem sY:∀l:List Nat,(gH l).length≤14*l.length
 | []=>qao _
 |n::l=>by
  have h1:=sY l;have h2:=xf 13 n;unfold gH at h1⊢;rw [qbl,qar,qar,qaA,qaA,qaT];have e:(qe n).length=(ot 13 n).length:=rfl;rw [e];omega
variable {bb:Nat} {bs:List UInt8}
theorem sk {D:Mem} (h:Bd bb b bs D) (hn:n<18446744073709551616) (hl:bs.length<1000000):∃v D' b',bg af 223 [.int .u64 n,pw bb 0] D v D'∧Bd bb b' (bs++gH [n]) D'∧Grow bb b D b' D':=by
 have hk:=fun ih A=>Zm (ih:=ih) (A:=A) hn
 have hlen:=xf 13 n;obtain⟨v1,D1,b1,⟨g1,h1⟩,q1,k1⟩:=PO (cs:=qe n) h (qa6.2 (I4 12 n)) (by unfold qe;omega);obtain⟨D2,b2,⟨g2,h2⟩,q2,k2⟩:=BF (c:=32) q1 (by rw [qar];unfold qe;omega);have h2':∀M,g2≤M→bA af (exec af M) (.fn 225 [pw bb 0,bN 32]) D1= .ok (.val .nilIface D2):=h2;refine⟨bL,D2,b2,?_,by rw [qbh] at q2;simpa [gH] using q2,k1.trans k2⟩;refine aT (g1+g2) 60 (aq Tryz.func223) (by kernel_rfl) fun M hM=>?_
 simp (disch:=first|decide+kernel|omega) only [Tryz.f223,Aq,qal,hk,h1,h2']<;>rfl
noncomputable def mr:Code:=qcA.body.getD .skip
noncomputable def GX:Code:=sub mr [1,1,1,1,1,0,1,0,0]
theorem Rc:qcA.body=some (.seq (sub mr [0]) (.seq (sub mr [1,0]) (.seq (sub mr [1,1,0]) (.seq (sub mr [1,1,1,0]) (.seq (sub mr [1,1,1,1,0]) (.seq (.seq (sub mr [1,1,1,1,1,0,0]) (.block 0 (.loop GX))) (.seq (sub mr [1,1,1,1,1,1,0]) (sub mr [1,1,1,1,1,1,1])))))))):=by kernel_rfl
theorem Tr:bS af 235= .ok (.agg ⟨[.pointer none,.slice none 0 0]⟩):=by kernel_rfl
theorem Uo (A:Mem):Bd A.next (A.next+1) [] (A.alloc (aa 235 [.pointer none,.slice none 0 0])):=
 ⟨.pointer none,_,g_ A 235 _,.inl rfl,.inl ⟨rfl,rfl⟩,by omega,by rw [ae];omega⟩
theorem Bd.al {D:Mem} (h:Bd bb b bs D) (o:Ob):Bd bb b bs (D.alloc o):=by
 obtain⟨pa,x,h1,h2,h3,h4,h5⟩:=h;exact⟨pa,x,h1.same (aB (by omega)),h2,h3.same (by rw [ae];omega) fun hb=>aB (by omega),h4,by rw [ae];omega⟩
theorem OB {s:aZ} {a:cJ} (h:s.arcs[i]?=some a):gH ((s.arcs.take (i+1)).flatMap qC)=gH ((s.arcs.take i).flatMap qC)++gH [a.byte.toNat]++gH [a.out]++gH [a.to]:=by
 obtain⟨hi,rfl⟩:=qap.1 h;rw [qaC hi,qcY,Gc];simp [gH,qC]
theorem OX (s:aZ) (i:Nat):((s.arcs.take i).flatMap qC).length≤3*s.arcs.length:=by
 have:∀l:List cJ,(l.flatMap qC).length=3*l.length:=by
  intro l
  induction l with
  |nil=>rfl
  |cons a l ih=>rw [qbl,qar,ih,qaA];simp only [qC,qaA,qaT];omega
 rw [this,qaE];omega
def vp (s:aZ) (i:Nat):List UInt8:=(if s.fin then [33] else [])++gH [s.out]++gH ((s.arcs.take i).flatMap qC)
theorem O6 (s:aZ) (i:Nat) (hl:s.arcs.length≤256):(vp s i).length≤20000:=by
 have h1:=sY ((s.arcs.take i).flatMap qC);have h2:=sY [s.out];have h3:=OX s i;have h4:(if s.fin then [33] else []:List UInt8).length≤1:=by split<;>simp
 unfold vp;rw [qar,qar];simp only [qaA,qaT] at h2;omega
theorem JO (s:aZ) (i:Nat):vp s i≠ []:=by
 unfold vp;simp [gH]
theorem Bd.lt {D:Mem} (h:Bd bb b bs D) (h0:bs≠ []):b<D.next:=by
 obtain⟨pa,x,-,-,h3,-,-⟩:=h;rcases h3 with⟨-,e⟩|⟨-,-,h,-⟩
 ·exact absurd (by simpa [cZ] using e) h0
 ·exact h
def zK (p bb:Nat) (C:Mem) (bs:List UInt8) (F:Mem):Prop:=∃b,Bd bb b bs F∧C.next≤b∧C.next≤F.next∧∀y,y<C.next→y≠bb→F.get y=C.get y
variable {b':Nat} {C:Mem}
theorem zK.grow {F G:Mem} (h1:C.next≤b) (h2:C.next≤F.next) (h3:∀y,y<C.next→y≠bb→F.get y=C.get y) (hB:Bd bb b' bs G) (k:Grow bb b F b' G):zK p bb C bs G:=
 ⟨b',hB,by have:=k.r;omega,by have:=k.n;omega,fun y hy hb=>by rw [k.g y (by omega) hb (by omega),h3 y hy hb]⟩
theorem Dx {s:aZ} {x:Value} (hx:iI A s.arcs x) (hf:Fit s) (hl:s.arcs.length≤256):∃v A',bg af 176 [.agg ⟨cW x s⟩] A v A'∧v=aj (fm s)∧Kp A A':=by
 refine cF (aq Tryz.func176) Rc (by kernel_rfl) ?_;have kB:=Kp.alloc A (aa 186 (cW x s));have vB:=ay A 186 (cW x s);apply W.q
 ·intro M;simp (disch:=first|decide+kernel|omega) only [mr,qcA,Aq,qal,au];rfl
 have nB:(A.alloc (aa 186 (cW x s))).next=A.next+1:=ae _ _
 generalize A.alloc (aa 186 (cW x s))=B at kB vB nB;have bC:=Uo B;have kC:=Kp.alloc B (aa 235 [.pointer none,.slice none 0 0]);have nC:(B.alloc (aa 235 [.pointer none,.slice none 0 0])).next=B.next+1:=ae _ _
 apply W.q
 ·intro M;simp (disch:=first|decide+kernel|omega) only [mr,qcA,Aq,qal,Tr,au];rfl
 generalize B.alloc (aa 235 [.pointer none,.slice none 0 0])=C at bC kC nC;have toK:∀bs D,zK A.next B.next C bs D→Kp B D:=fun bs D h=>by
  obtain⟨b,-,-,h2,h3⟩:=h;exact⟨by omega,fun z hz=>by rw [h3 z (by omega) (by omega),kC.2 z hz]⟩
 have a1:ag af C.get 4 (.pointer (some ⟨A.next,0+1,none⟩))= .ok (.bool s.fin):=(vB.kp kC).ld rfl u4 rfl;have rC:zK A.next B.next C [] C:=⟨B.next+1,bC,by omega,qao _,fun _ _ _=>rfl⟩
 apply W.q
 ·intro M;simp (disch:=first|decide+kernel|omega) only [mr,qcA,Aq,qal,aY];rfl
 apply W.seq;refine W.to (n:=38) (fun t D=>zK A.next B.next C (if s.fin then [33] else []) D∧Sl t [(1,.pointer (some ⟨A.next,0,none⟩)),(3,.pointer (some ⟨B.next,0,none⟩)),(4,.func (.func 223) ⟨[]⟩ ⟨[.pointer (some ⟨B.next,0,none⟩)]⟩)]) ?_ ?_
 ·cases hfin:s.fin with
  |true=>
   rw [hfin] at a1;obtain⟨D2,b2,⟨g2,h2⟩,q2,k2⟩:=BF (c:=33) bC (by simp);have h2':∀M,g2≤M→bA af (exec af M) (.fn 225 [.pointer (some ⟨B.next,0,none⟩),.int .u8 (33:Nat)]) C= .ok (.val .nilIface D2):=h2;apply W.cN (g2) 20
   ·intro M hM;simp (disch:=first|decide+kernel|omega) only [mr,qcA,Aq,qal,ee,a1,h2'];rfl
   refine⟨rfl,_,_,rfl,zK.grow (by omega) (qao _) (fun _ _ _=>rfl) q2 k2,?_⟩;simp only [Sq,qal,qam]
  |false=>
   rw [hfin] at a1;apply W.run 20
   ·intro M;simp (disch:=first|decide+kernel|omega) only [mr,qcA,Aq,qal,ee,a1];rfl
   refine⟨rfl,_,_,rfl,rC,?_⟩;simp only [Sq,qal,qam]
 ·rintro t D ⟨rD,g1,g3,g4,-⟩;show W af _ _ _;have kD:=toK _ _ rD;have a2:ag af D.get 113 (.pointer (some ⟨A.next,0+2,none⟩))= .ok (.int .u64 s.out):=(vB.kp kD).ld rfl fp rfl;obtain⟨b,bD,m1,m2,m3⟩:=rD;obtain⟨v1,E,b1,⟨e1,h1⟩,bE,kE⟩:=sk bD hf.1 (by split<;>simp);have rE:zK A.next B.next C (vp s 0) E:=zK.grow m1 m2 m3 (by unfold vp;rw [qcy];simpa [gH] using bE) kE
  apply W.qG (e1)
  ·intro M hM;simp (disch:=first|decide+kernel|omega) only [mr,qcA,Aq,qal,g1,g4,m_,a2,h1];rfl
  have kE:=toK _ _ rE;have lx:=(hx.kp (kB.trans kE)).len;have aE:ag af E.get 184 (.pointer (some ⟨A.next,0,none⟩))= .ok x:=(vB.kp kE).ld rfl mi rfl;apply W.seq;apply W.q
  ·intro M;simp (disch:=first|decide+kernel|omega) only [mr,qcA,Aq,qal,g1,fk,aE,lx];rfl
  apply W.block;refine W.up s.arcs.length (fun i t F=>zK A.next B.next C (vp s i) F∧Sl t [(3,.pointer (some ⟨B.next,0,none⟩)),(4,.func (.func 223) ⟨[]⟩ ⟨[.pointer (some ⟨B.next,0,none⟩)]⟩),(16,x),(17,.int .i64 s.arcs.length),(18,.int .i64 i)]) ?_ (qaB _) ⟨rE,?_⟩
  ·rintro i t F hi ⟨rF,g3,g4,g16,g17,g18,-⟩;have kF:=toK _ _ rF;obtain⟨b,bF,m1,m2,m3⟩:=rF;have hpl:=O6 s i hl;by_cases hlt:i<s.arcs.length
   ·have hsi:s.arcs[i]?=some s.arcs[i]:=qan hlt;have hfa:=hf.2 _ (qbg hlt);have hkt:vp s (i+1)=vp s i++gH [(s.arcs[i]).byte.toNat]++gH [(s.arcs[i]).out]++gH [(s.arcs[i]).to]:=by
     unfold vp;rw [OB hsi];simp only [qbh]
    obtain⟨q,q1,q2⟩:=(hx.kp (kB.trans kF)).at hsi;generalize s.arcs[i]=a at*;have sG:=F6 (D:=F) (a:=a);have vG:=ay F 246 (b6 a);have kG:=Kp.alloc F (aa 246 (b6 a));have nG:(F.alloc (aa 246 (b6 a))).next=F.next+1:=ae _ _
    have bG:=bF.al (aa 246 (b6 a));generalize F.alloc (aa 246 (b6 a))=G at sG vG kG nG bG;have hbF:b<F.next:=bF.lt (JO s i)
    have hB:a.byte.toNat<18446744073709551616:=by have:=a.byte.toNat_lt;omega
    have hT:a.to<18446744073709551616:=by omega
    have cv1:=bM (tb:=af) (s:=5) (d:=113) (k:=.u8) (n:=a.byte.toNat) (by rw [u5];rfl) fp (cV hB);have cv2:=bM (tb:=af) (s:=3) (d:=113) (k:=.i64) (n:=a.to) (by rw [u3];rfl) fp (cV hT);have t1:=sY [a.byte.toNat];have t2:=sY [a.out];simp only [qaA,qaT] at t1 t2;obtain⟨v1,G1,b1,⟨e1,h1⟩,r1,k1⟩:=sk bG hB (by omega);obtain⟨v2,G2,b2,⟨e2,h2⟩,r2,k2⟩:=sk r1 hfa.1 (by rw [qar];omega);obtain⟨v3,G3,b3,⟨e3,h3⟩,r3,k3⟩:=sk r2 hT (by rw [qar,qar];omega);have n1:=k1.n;have n2:=k2.n;have i1:=k1.r;have i2:=k2.r;have V1:VB G1 246 F.next (.var 3) (b6 a):=⟨by omega,vG.2.same (k1.g _ (by omega) (by omega) (by omega))⟩
    have V2:VB G2 246 F.next (.var 3) (b6 a):=⟨by omega,V1.2.same (k2.g _ (by omega) (by omega) (by omega))⟩
    have l0:ag af G.get 5 (.pointer (some ⟨F.next,0,none⟩))= .ok (.int .u8 (a.byte.toNat:Nat)):=vG.ld rfl u5 rfl;have l1:ag af G1.get 113 (.pointer (some ⟨F.next,0+1,none⟩))= .ok (.int .u64 a.out):=V1.ld rfl fp rfl;have l2:ag af G2.get 3 (.pointer (some ⟨F.next,0+2,none⟩))= .ok (.int .i64 a.to):=V2.ld rfl u3 rfl;apply W.cN (e1+e2+e3) 20
    ·intro M hM;simp (disch:=first|decide+kernel|omega) only [GX,mr,qcA,Aq,qal,g3,g4,g16,g17,g18,hlt,q1,q2,rj,au,sG,pH,qR,nb,l0,l1,l2,cv1,cv2,h1,h2,h3];rfl
    refine⟨hlt,_,_,rfl,?_,?_⟩
    ·rw [hkt];exact zK.grow (F:=G) (b:=b) m1 (by omega) (fun y hy hb=>by rw [kG.2 y (by omega),m3 y hy hb]) r3 ((k1.trans k2).trans k3)
    ·simp only [Sq,qal,qam,g3,g4,g16,g17]
   ·have e:i=s.arcs.length:=by omega
    subst e;have hk:vp s s.arcs.length=fm s:=by
     unfold vp fm uG;rw [qaR,qbh,←Gc];rfl
    have h0:=qa6.2 (JO s s.arcs.length);rw [hk] at bF hpl h0;obtain⟨G,⟨e1,h1⟩,nG,fG⟩:=FC bF h0 (by omega);apply W.run 20
    ·intro M;simp (disch:=first|decide+kernel|omega) only [GX,mr,qcA,Aq,qal,g17,g18];rfl
    apply W.qG (e1)
    ·intro M hM;simp (disch:=first|decide+kernel|omega) only [mr,qcA,Aq,qal,g3,h1];rfl
    apply W.run 20
    ·intro M;simp (disch:=first|decide+kernel|omega) only [mr,qcA,Aq,qal];rfl
    exact⟨by simp,rfl,_,(by simp only [qcA,Aq,qal]<;>rfl),rfl,by show A.next≤G.next;omega,fun z hz=>by show G.get z=A.get z;rw [fG z (by omega),m3 z (by omega) (by omega),kC.2 z (by omega),kB.2 z hz]⟩
  ·simp only [Sq,qal,qam,g3,g4]
end Go.Proofs.YtjoceidiioppiaaGreatDoor.sto
end
