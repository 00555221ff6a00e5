/- The abstract machine, the walk of the law and its plain laws, made small by a program; part 5: no conditions but those in each theorem. -/
import Derived.Test.YtjoceidiioppiaaGreatDoorQ04
set_option maxHeartbeats 16000000
set_option maxRecDepth 100000
set_option linter.unusedSimpArgs false
set_option linter.unusedVariables false
noncomputable section
open Nat renaming reduceEqDiff→qal,reduceAdd→qam,le_refl→qao,ble→qaq,beq→qaw,blt→qax,zero_le→qaB,lt_of_lt_of_le→qaD,le_of_ble_eq_true→qaG,blt_eq→qaH,eq_of_beq_eq_true→qaL,le_trans→qaV,lt_or_ge→qaZ,zero_add→qa1,add_zero→qa8,ble_eq_true_of_le→qbd,sub_self→qbq,min_eq_left→qbr,sub_zero→qbA,mod_eq_of_lt→qbL,add_sub_cancel→qbW,mul_one→qb2,sub_add_cancel→qce,add_assoc→qck,add_mul→qcl,one_mul→qcG,beq_eq→qcI,beq_refl→qcJ,mul_le_mul_right→qcK,zero_mul→qcN,ble_eq→qdm,add_comm→qdt,min_le_right→qdu,not_lt_zero→qdD,add_one_ne_zero→qeb,min_le_left→qef
open List renaming getElem?_eq_getElem→qan,getElem?_eq_some_iff→qap,length_append→qar,length_map→qas,getElem?_cons_zero→qau,getElem?_cons_succ→qav,mem_cons_of_mem→qay,mem_cons_self→qaz,length_cons→qaA,take_succ_eq_append_getElem→qaC,length_take→qaE,getElem?_append_right→qaF,getElem?_append_left→qaJ,mem_cons→qaK,getElem?_map→qaN,length_eq_zero_iff→qaP,length_set→qaQ,take_length→qaR,length_singleton→qaS,length_nil→qaT,mem_singleton→qaY,mem_of_getElem?→qa0,mem_map→qa3,length_pos_iff→qa6,not_mem_nil→qbb,getElem?_eq_none→qbc,map_append→qbe,cons_append→qbf,getElem_mem→qbg,append_assoc→qbh,drop_eq_getElem_cons→qbi,map_eq_nil_iff→qbk,flatMap_cons→qbl,getElem?_take→qbm,filter_cons→qbp,pairwise_iff_getElem→qbs,append_nil→qbt,foldl_cons→qbu,nil_append→qbv,map_cons→qbx,all_eq_true→qby,getElem?_set→qbB,mem_append→qbF,getElem_of_mem→qbM,mem_or_eq_of_mem_set→qbR,flatten_cons→qb3,take_of_length_le→qcq,length→qcE,foldl_append→qcR,flatMap_append→qcY,take_succ_cons→qc0,length_drop→qc3,nodup_nil→qc4,drop_zero→qdq,filter_eq_self→qdz,drop_eq_nil_iff→qd3,drop_length→qd4,takeWhile_cons→qea,findIdx?_eq_none_iff→qed,map→qew,take→qeM
open Bool renaming false_eq_true→qaI,and_eq_true→qaO,and_true→qci
open Option.some renaming injEq→qaX,inj→qbo
open List.cons renaming injEq→qa4
open Option renaming map_some→qa5,getD_some→qbG,isSome_none→qbI,isSome_some→qdF,map_none→qdG,getD_none→qey
open Go.Proofs.Tryz renaming prog→qba,f28→qb7,f20→qch,f140→qcn,f62→qcu,f123→qcz,f189→qcB,f83→qdx,f8→qd9,f152→qei,f203→qek,f225→qel,f66→qez,f153→qeN
open UInt8 renaming ofNat→qbD,lt_iff_toNat_lt→qde,toNat_ofNat'→qep
open Classical renaming byContradiction→qca,byCases→qcQ
open Int.ofNat renaming inj→qdC
open Array.mk renaming injEq→qeL
namespace Go.Am
variable {tb:bO} {n:Nat}
theorem W.to {c:Code} {s:St} {K:Ex→St→Prop} (P:T Value→Mem→Prop) (h:W tb c s fun e s'=>e= .nrm∧∃t D,s'=⟨t,n,[],D,none⟩∧P t D) (k:∀t D,P t D→K .nrm ⟨t,n,[],D,none⟩):W tb c s K:=h.mono fun e s' hs=>by
 obtain⟨rfl,t,D,rfl,hp⟩:=hs;exact k t D hp
end Go.Am
namespace Go.Proofs.YtjoceidiioppiaaGreatDoor.sto
open Go.Am Go.Sto
theorem Ot:cE.ba 184=some (.slice 246):=by kernel_rfl
theorem TQ:aR cE 246= .ok 3:=by kernel_rfl
theorem Vb:cm cE 246= .ok (3,[.int .u8 0,.int .u64 0,.int .i64 0]):=by kernel_rfl
theorem Oy:bS cE 246= .ok (.agg ⟨[bN 0,uN 0,iN 0]⟩):=by kernel_rfl
theorem Ox:bS cE 186= .ok (.agg ⟨[.slice none 0 0,.bool false,uN 0]⟩):=by kernel_rfl
theorem Ov:aR cE 186= .ok 3:=by kernel_rfl
theorem X8:aR cE 184= .ok 1:=by kernel_rfl
theorem Oo:aR cE 113= .ok 1:=by kernel_rfl
theorem Z8:aR cE 4= .ok 1:=by kernel_rfl
variable {b o:Nat}
theorem RO:av cE 186 (pw b o) 0= .ok (pw b o):=by kernel_rfl
theorem wa:av cE 186 (pw b o) 1= .ok (pw b (o+1)):=by kernel_rfl
theorem RP:av cE 186 (pw b o) 2= .ok (pw b (o+2)):=by kernel_rfl
theorem RQ:av cE 246 (pw b o) 1= .ok (pw b (o+1)):=by kernel_rfl
theorem RR:av cE 246 (pw b o) 2= .ok (pw b (o+2)):=by kernel_rfl
theorem U3 {a:Int}:ct cE 246 [(0,.int .u8 a)]= .ok (.agg ⟨[.int .u8 a,uN 0,iN 0]⟩):=by kernel_rfl
theorem U6 {a o n:Int}:a6 cE 184 1 [(0,.agg ⟨[.int .u8 a,.int .u64 o,.int .i64 n]⟩)]= .ok (aa 246 [.int .u8 a,.int .u64 o,.int .i64 n],.mO 1 2):=by kernel_rfl
theorem U_:∃i,cE.ty.get 246=some i∧0<i.bytes∧i.bytes≤65536:=by
 have h:(cE.ty.get 246).map (fun i=>qax 0 i.bytes&&qaq i.bytes 65536)=some true:=by kernel_rfl
 cases hq:cE.ty.get 246 with
 |none=>rw [hq] at h;cases h
 |some i=>
  rw [hq] at h;simp only [qa5,qaX,qaO,qaH] at h;exact⟨i,rfl,h.1,qaG h.2⟩
theorem QO (a:cJ):∀v∈b6 a,aJ v=true:=by
 intro v hv;simp only [b6,qaK,qbb,or_false] at hv;rcases hv with rfl|rfl|rfl<;>rfl
variable {c:Nat} {y:Value}
theorem Oj {D:Mem} {l:List cJ} {a:cJ} (h:az D 246 3 c (l.map b6) y) (hl:l.length<1000000):
 ∃y' D',bj cE (D.alloc (aa 246 (b6 a))) 184 184 y (.slice (some ⟨D.next,0,none⟩) 1 2)= .ok (y',D')∧az D' 246 3 (D.next+1) ((l++[a]).map b6) y'∧D'.next=D.next+2∧∀z,(z=c→y= .slice none 0 0)→z<D.next→D'.get z=D.get z:=by
 obtain⟨i,t1,t2,t3⟩:=U_;have h':az (D.alloc (aa 246 (b6 a))) 246 3 c (l.map b6) y:=h.same (by rw [ae];omega) fun hh=>aB (by omega)
 obtain⟨x',D',h1,h2,h3,h4⟩:=az.append (tb:=cE) (st:=184) (xt:=184) h' Ot Ot Vb t1 t2 t3 (by omega) (by omega) (by rw [qas];omega) (ax D _) rfl (QO a);rw [ae] at h2 h3 h4;exact⟨x',D',h1,by rw [qbe];exact h2,by omega,fun z hz hzn=>by rw [h4 z hz (by omega),aB (by omega)]⟩
variable {A:Mem} {n:Nat} {ls:List (List Value)}
theorem o0 {e:TypeId} {x:Value} (h:az A e n b ls x) (h0:ls≠ []):b<A.next:=by
 rcases h with⟨-,h⟩|⟨_,_,_,h,_⟩
 ·exact absurd h h0
 ·exact h
noncomputable def mX:Code:=qcB.body.getD .skip
noncomputable def Cy:Code:=sub mX [1,1,1,0,1,0,0]
theorem Q7:qcB.body=some (.seq (sub mX [0]) (.seq (sub mX [1,0]) (.seq (.seq (sub mX [1,1,0,0]) (sub mX [1,1,0,1])) (.seq (.seq (sub mX [1,1,1,0,0]) (.block 0 (.loop Cy))) (.seq (sub mX [1,1,1,1,0]) (sub mX [1,1,1,1,1])))))):=by kernel_rfl
def QK (p q i:Nat) (st:aZ) (s r:List UInt8) (k:Nat) (D:Mem):Prop:=∃a c x,td D p s a∧s.drop a=(st.arcs.drop k).flatMap (ky i)++r∧a+((st.arcs.drop k).flatMap (ky i)).length+r.length=s.length∧VB D 186 q (.var 3) (cW x ⟨st.fin,st.out,[]⟩)∧
 az D 246 3 c ((st.arcs.take k).map b6) x∧(k=0→x= .slice none 0 0)∧(k≠0→q<c)
variable {w:List UInt8}
theorem Ul {s r:List UInt8} {a:Nat} (h:s.drop a=w++r) (hw:a≤s.length):a+w.length+r.length=s.length:=by
 have:=congrArg qcE h;rw [qc3,qar] at this;omega
variable {p i k:Nat} {t:T Value}
theorem KI {q:Nat} {st:aZ} {s r:List UInt8} {D:Mem} (hs:s.length<900000) (hpq:p<q) (hi:i<1000000) (hl:st.arcs.length≤256) (ha:∀x∈st.arcs,x.to<i∧x.out<18446744073709551616) (hk:k<st.arcs.length) (h:QK p q i st s r k D)
 (hsl:Sl t [(0,pV p),(1,.int .u64 i),(4,pV q),(19,uN st.arcs.length),(20,.int .u64 k)]):
 W cE Cy ⟨t,43,[],D,none⟩ fun e s'=>e= .nrm∧∃t' D',s'=⟨t',43,[],D',none⟩∧QK p q i st s r (k+1) D'∧(D.next≤D'.next∧∀z,z<q→z≠p→D'.get z=D.get z)∧Sl t' [(0,pV p),(1,.int .u64 i),(4,pV q),(19,uN st.arcs.length),(20,uN (k+1))]:=by
 obtain⟨a,c,x,hR,hd,hae,hV,hS,hx0,hc⟩:=h;obtain⟨g0,g1,g4,g19,g20,-⟩:=hsl;have hmem:=qbg hk;obtain⟨ht,ho⟩:=ha _ hmem;have hdk:st.arcs.drop k=st.arcs[k]::st.arcs.drop (k+1):=qbi hk;rw [hdk,qbl] at hd hae;have htk:st.arcs.take (k+1)=st.arcs.take k++[st.arcs[k]]:=qaC hk;generalize st.arcs[k]=ar at*;generalize hw:(st.arcs.drop (k+1)).flatMap (ky i)=w at*;have hcD:k≠0→c<D.next:=fun h0=>o0 hS (by
  intro hn;have:=congrArg qcE hn;rw [qas,qaE,qaT] at this;omega)
 have hd1:s.drop a=ar.byte::(cK ar.out++(cK (i-ar.to)++(w++r))):=by rw [hd];simp [ky]
 obtain⟨v1,E1,⟨e1,h1⟩,rfl,R1,K1⟩:=FD (f:=241) (y:=[]) hR hs hd1 fun B _=>SC
 have hd2:s.drop (a+1)=cK ar.out++(cK (i-ar.to)++(w++r)):=by rw [←List.drop_drop,hd1];rfl
 have kF:=Kp.alloc E1 (aa 246 [bN ar.byte.toNat,uN 0,iN 0]);have v2:=ay E1 246 [bN ar.byte.toNat,uN 0,iN 0];have sF:aW cE (E1.alloc (aa 246 [bN 0,uN 0,iN 0])) 246 (pw E1.next 0) (.agg ⟨[bN ar.byte.toNat,uN 0,iN 0]⟩)= .ok (E1.alloc (aa 246 [bN ar.byte.toNat,uN 0,iN 0])):=bk TQ rfl rfl (by simp) (by simp [aJ]);have nF:(E1.alloc (aa 246 [bN ar.byte.toNat,uN 0,iN 0])).next=E1.next+1:=ae _ _
 have R2:=R1.kp kF;generalize E1.alloc (aa 246 [bN ar.byte.toNat,uN 0,iN 0])=F at kF v2 sF nF R2;obtain⟨v3,E2,⟨e2,h2⟩,rfl,R3,K2⟩:=j9 (lo:=0) (hi:=18446744073709551615) R2 hs ho hd2 ⟨qaB _,by omega⟩;obtain⟨-,hd3,-⟩:=lr ho hd2;have hpD:p<D.next:=hR.1
 have n1:=K1.1;have n2:=K2.1;obtain⟨G,sG,vG,nG,fG⟩:=aL (tb:=cE) (t:=113) (o:=1) (v:=.int .u64 ar.out) Oo (v2.2.same (K2.2 _ (by omega) (by omega))) (by simp) rfl rfl;have R4:td G p s (a+1+(cK ar.out).length):=⟨by rw [nG];exact R3.1,R3.2.same (fG p (by omega))⟩;obtain⟨v4,E3,⟨e3,h3⟩,rfl,R5,K3⟩:=j9 (n:=i-ar.to) (lo:=1) (hi:=i) R4 hs (by omega) hd3 ⟨by omega,by omega⟩;obtain⟨-,hd4,hle⟩:=lr (show i-ar.to<18446744073709551616 by omega) hd3;have n3:=K3.1;have su:aM .sub .u64 ((i:Nat):Int) ((i-ar.to:Nat):Int)= .ok (uN ar.to):=by rw [br (by omega) (cV (by omega)),show i-(i-ar.to)=ar.to by omega]
 have cv:=bM (tb:=cE) (s:=113) (d:=3) (k:=.u64) (n:=ar.to) (by rw [i103];rfl) i3 (aV (by omega));obtain⟨H,sH,vH,nH,fH⟩:=aL (tb:=cE) (t:=3) (o:=2) (v:=.int .i64 ar.to) Yv (vG.same (K3.2 _ (by omega) (by omega))) (by simp) rfl rfl;have lw:ag cE H.get 246 (pw E1.next 0)= .ok (.agg ⟨b6 ar⟩):=by
  obtain⟨d,hd1,hd2⟩:=D7 (t:=246) (p:=true) (by kernel_rfl);exact aI hd1 hd2 TQ vH
 have mb:∀z,z<D.next→z≠p→H.get z=D.get z:=fun z hz hp=>by
  rw [fH z (by omega),K3.2 z (by omega) hp,fG z (by omega),K2.2 z (by omega) hp,kF.2 z (by omega),K1.2 z hz hp]
 have hqD:=hV.1;have VH:dw H 186 q (.var 3) (cW x ⟨st.fin,st.out,[]⟩):=hV.2.same (mb q hqD (by omega));have lx:ag cE H.get 184 (pw q 0)= .ok x:=VB.ld (tb:=cE) ⟨by omega,VH⟩ rfl Ot rfl;have SH:az H 246 3 c ((st.arcs.take k).map b6) x:=az.j_ hS (fun h=>hx0 (by
  have:=congrArg qcE h;rw [qas,qaE,qaT] at this;omega)) (by omega) fun hne hlt=>mb c hlt (by
   have:k≠0:=fun h=>hne (by rw [h];rfl)
   have:=hc this;omega)
 obtain⟨y',J,happ,hs3,hn3,hf3⟩:=Oj (a:=ar) SH (by rw [qaE];omega);have happ':bj cE (H.alloc (aa 246 [bN ar.byte.toNat,.int .u64 ar.out,.int .i64 ar.to])) 184 184 x (.slice (some ⟨H.next,0,none⟩) 1 2)= .ok (y',J):=happ;have hqc:q=c→x= .slice none 0 0:=fun e=>qcQ (fun h0:k=0=>hx0 h0) fun h0=>by have:=hc h0;omega
 obtain⟨L,sL,vL,nL,fL⟩:=aL (tb:=cE) (t:=184) (o:=0) (v:=y') X8 (VH.same (hf3 q hqc (by omega))) (by simp [cW]) (az.dk hs3).1 (az.dk hs3).2;have RL:td L p s (a+1+(cK ar.out).length+(cK (i-ar.to)).length):=⟨by have:=R5.1;omega,R5.2.same (by
  have hp5:=R5.1;rw [fL p (by omega),hf3 p (fun e=>qcQ (fun h0:k=0=>hx0 h0) fun h0=>by have:=hc h0;omega) (by omega),fH p (by omega)])⟩
 have a1:aM .add .u64 ((k:Nat):Int) ((1:Nat):Int)= .ok (uN (k+1)):=bf (cV (by omega));have lk:aM .lss .u64 ((k:Nat):Int) ((st.arcs.length:Nat):Int)= .ok (.bool true):=by rw [HW];simp [hk]
 simp only [pV] at*;apply W.cN (e1+e2+e3) 20
 ·intro M hM;simp (disch:=first|decide+kernel|omega) only [Cy,mX,qcB,Aq,qal,oM,g0,g1,g4,g19,g20,lk,h1,U3,Oy,au,sF,h2,RQ,RR,sG,h3,su,cv,sH,RO,lx,lw,b6,U6,happ',sL,a1];rfl
 refine⟨rfl,_,L,rfl,⟨_,H.next+1,y',RL,by rw [hw];exact hd4,by rw [hw];simp only [ky,qaA,qar] at hae;omega,⟨by omega,vL⟩,?_,fun h=>by omega,fun _=>?_⟩,⟨by omega,fun z hz hp=>?_⟩,?_⟩
 ·rw [htk];exact hs3.same (by omega) fun h=>fL _ (by omega)
 ·omega
 ·rw [fL z (by omega),hf3 z (fun e=>qcQ (fun h0:k=0=>hx0 h0) fun h0=>by have:=hc h0;omega) (by omega),mb z (by omega) hp]
 ·simp only [Sq,qal,qam,g0,g1,g4,g19]
theorem xN (st:aZ):lu st=cK (2*st.arcs.length+(if st.fin then 1 else 0))++(if st.fin then cK st.out else []):=by
 unfold lu;cases st.fin<;>simp
theorem Ig {a:Nat} {s r:List UInt8} {st:aZ} (h:td A p s a) (hs:s.length<900000) (hi:i<1000000) (hl:st.arcs.length≤256) (hf:st.fin=false→st.out=0) (ho:st.out<18446744073709551616) (ha:∀x∈st.arcs,x.to<i∧x.out<18446744073709551616) (hd:s.drop a=Gs i st++r):
 ∃v A',bg cE 189 [pV p,.int .u64 i] A v A'∧td A' p s (a+(Gs i st).length)∧DU p A A'∧∃x c,v= .agg ⟨cW x st⟩∧az A' 246 3 c (st.arcs.map b6) x∧(st.arcs=[]→x= .slice none 0 0)∧(st.arcs≠ []→A.next<c):=by
 refine cF (gF Tryz.func189) Q7 (by kernel_rfl) ?_;have hae:a≤s.length:=by
  rcases qaZ s.length a with h|h
  ·rw [qd3.2 (by omega)] at hd;have:=congrArg qcE hd;have h1:=x_ (2*st.arcs.length+(if st.fin then 1 else 0));unfold Gs at this;rw [xN] at this;simp only [qaT,qar] at this;omega
  ·exact h
 have hend:=Ul hd hae;have kB:=Kp.alloc A (aa 186 [.slice none 0 0,.bool false,.int .u64 (0:Nat)]);have vB:=ay A 186 [.slice none 0 0,.bool false,.int .u64 (0:Nat)];apply W.seq;apply W.run 20
 ·intro M;simp (disch:=first|decide+kernel|omega) only [mX,qcB,Aq,qal,Ox,au];rfl
 show W cE _ _ _;have RB:=h.kp kB;generalize A.alloc (aa 186 [.slice none 0 0,.bool false,.int .u64 (0:Nat)])=B at kB vB RB;have hpA:=h.1;have hd0:s.drop a=cK (2*st.arcs.length+(if st.fin then 1 else 0))++((if st.fin then cK st.out else [])++(st.arcs.flatMap (ky i)++r)):=by rw [hd,Gs,xN];simp
 have hn:2*st.arcs.length+(if st.fin then 1 else 0)≤513:=by split<;>omega
 obtain⟨v1,C,⟨e1,h1⟩,rfl,R1,K1⟩:=j9 (lo:=0) (hi:=513) RB hs (by omega) hd0 ⟨qaB _,hn⟩;obtain⟨-,hd1,-⟩:=lr (show 2*st.arcs.length+(if st.fin then 1 else 0)<18446744073709551616 by omega) hd0;have hstl:(Gs i st).length=(cK (2*st.arcs.length+(if st.fin then 1 else 0))).length+(if st.fin then cK st.out else []).length+(st.arcs.flatMap (ky i)).length:=by rw [Gs,xN];simp [qck]
 have b1:=vB.1;have k1:=K1.1;have kb:=kB.1;have hrem:aM .rem .u64 ((2*st.arcs.length+(if st.fin then 1 else 0):Nat):Int) ((2:Nat):Int)= .ok (.int .u64 (if st.fin then 1 else 0:Nat)):=by
  have e:(2*st.arcs.length+(if st.fin then 1 else 0)) % 2=(if st.fin then 1 else 0):=by split<;>omega
  rw [Dk (by omega),e]
 have hquo:aM .quo .u64 ((2*st.arcs.length+(if st.fin then 1 else 0):Nat):Int) ((2:Nat):Int)= .ok (.int .u64 (st.arcs.length:Nat)):=by
  rw [nu (by omega) (by omega)];congr 3;split<;>omega
 generalize hN:2*st.arcs.length+(if st.fin then 1 else 0)=N at*;obtain⟨E,sE,vE,nE,fE⟩:=aL (tb:=cE) (t:=4) (o:=1) (v:=.bool st.fin) Z8 (vB.2.same (K1.2 _ b1 (by omega))) (by simp) rfl rfl;have R2:td E p s (a+(cK N).length):=⟨by have:=R1.1;omega,R1.2.same (fE p (by omega))⟩;have lf:ag cE E.get 4 (.pointer (some ⟨A.next,0+1,none⟩))= .ok (.bool st.fin):=VB.ld (tb:=cE) ⟨by omega,vE⟩ rfl i4 rfl;have kE:DU p A E:=⟨by omega,fun z hz hp=>by rw [fE z (by omega),K1.2 z (by omega) hp,kB.2 z hz]⟩;apply W.seq;simp only [pV] at*;apply W.cN (e1) 20
 ·intro M hM;simp (disch:=first|decide+kernel|omega) only [mX,qcB,Aq,qal,h1];rfl
 show W cE _ _ _;apply W.seq;refine W.to (n:=43) (fun t D=>QK p A.next i st s r 0 D∧DU p A D∧Sl t [(0,pV p),(1,.int .u64 i),(4,pV A.next),(5,.int .u64 N)]) ?_ ?_
 ·cases hfin:st.fin with
  |false=>
   rw [hfin] at hrem lf hd1 vE sE;apply W.seq;apply W.run 20
   ·intro M;simp (disch:=first|decide+kernel|omega) only [mX,qcB,Aq,qal,hrem,wa,sE];rfl
   show W cE _ _ _;apply W.run 20
   ·intro M;simp (disch:=first|decide+kernel|omega) only [mX,qcB,Aq,qal,wa,lf];rfl
   refine⟨rfl,_,E,rfl,⟨_,A.next,.slice none 0 0,R2,by simpa using hd1,?_,?_,az.nil _ _ _ _,fun _=>rfl,fun h=>absurd rfl h⟩,kE,?_⟩
   ·rw [hfin] at hstl;simp at hstl;simp;omega
   ·refine⟨by omega,?_⟩;rw [hf hfin];simpa [cW,hfin] using vE
   ·simp only [Sq,qal,qam,pV]
  |true=>
   rw [hfin] at hrem lf hd1 vE sE;have hd1':s.drop (a+(cK N).length)=cK st.out++(st.arcs.flatMap (ky i)++r):=by simpa using hd1
   obtain⟨v3,E2,⟨e2,h2⟩,rfl,R3,K2⟩:=j9 (lo:=0) (hi:=18446744073709551615) R2 hs ho hd1' ⟨qaB _,by omega⟩;obtain⟨-,hd3,-⟩:=lr ho hd1';have k2:=K2.1;obtain⟨G,sG,vG,nG,fG⟩:=aL (tb:=cE) (t:=113) (o:=2) (v:=.int .u64 st.out) Oo (vE.same (K2.2 _ (by omega) (by omega))) (by simp) rfl rfl;simp only [pV] at h2;apply W.seq;apply W.run 20
   ·intro M;simp (disch:=first|decide+kernel|omega) only [mX,qcB,Aq,qal,hrem,wa,sE];rfl
   show W cE _ _ _;apply W.cN (e2) 20
   ·intro M hM;simp (disch:=first|decide+kernel|omega) only [mX,qcB,Aq,qal,wa,RP,lf,h2,sG];rfl
   refine⟨rfl,_,G,rfl,⟨_,A.next,.slice none 0 0,⟨by have:=R3.1;omega,R3.2.same (fG p (by omega))⟩,by simpa using hd3,?_,?_,az.nil _ _ _ _,fun _=>rfl,fun h=>absurd rfl h⟩,⟨by have:=kE.1;omega,fun z hz hp=>by rw [fG z (by omega),K2.2 z (by have:=kE.1;omega) hp,kE.2 z hz hp]⟩,?_⟩
   ·rw [hfin] at hstl;simp at hstl;simp;omega
   ·exact⟨by omega,by simpa [cW,hfin] using vG⟩
   ·simp only [Sq,qal,qam,pV]
 ·rintro t D ⟨hR,hK,hs0⟩;show W cE _ _ _;obtain⟨g0,g1,g4,g5,-⟩:=hs0;apply W.seq;apply W.seq;apply W.run 20
  ·intro M;simp (disch:=first|decide+kernel|omega) only [mX,qcB,Aq,qal,g5,hquo];rfl
  show W cE _ _ _;apply W.block;refine W.up st.arcs.length (fun k t D=>QK p A.next i st s r k D∧DU p A D∧Sl t [(0,pV p),(1,.int .u64 i),(4,pV A.next),(19,.int .u64 (st.arcs.length:Nat)),(20,.int .u64 k)]) ?_ (qaB _) ⟨hR,hK,?_⟩
  ·rintro k t D hk ⟨hR,hK,hs0⟩;by_cases hlt:k<st.arcs.length
   ·refine(KI hs hpA hi hl ha hlt hR hs0).mono ?_;rintro e s' ⟨rfl,t',D',rfl,hR',hk',hs'⟩;exact⟨hlt,t',D',rfl,hR',⟨qaV hK.1 hk'.1,fun z hz hp=>by rw [hk'.2 z hz hp,hK.2 z hz hp]⟩,hs'⟩
   ·have e:k=st.arcs.length:=by omega
    subst e;obtain⟨a',c,x,q1,q2,q3,q4,q5,q6,q7⟩:=hR;obtain⟨g0,g1,g4,g19,g20,-⟩:=hs0;rw [qd4,List.flatMap_nil] at q2 q3;rw [qaR] at q5;have lw:ag cE D.get 186 (.pointer (some ⟨A.next,0,none⟩))= .ok (.agg ⟨cW x st⟩):=by
     obtain⟨d,hd1,hd2⟩:=D7 (t:=186) (p:=true) (by kernel_rfl);exact aI hd1 hd2 Ov q4.2
    obtain⟨G,sG,vG,nG,fG⟩:=cY (tb:=cE) (t:=186) (l':=cW x st) (by exact Ov) q4.2 rfl (by simp [cW]) (by
     intro v hv;simp only [cW,qaK,qbb,or_false] at hv;rcases hv with rfl|rfl|rfl
     ·exact(az.dk q5).2
     ·rfl
     ·rfl)
    have lG:ag cE G.get 186 (.pointer (some ⟨A.next,0,none⟩))= .ok (.agg ⟨cW x st⟩):=by
     obtain⟨d,hd1,hd2⟩:=D7 (t:=186) (p:=true) (by kernel_rfl);exact aI hd1 hd2 Ov vG
    simp only [pV] at g4;apply W.run 20
    ·intro M;simp (disch:=first|decide+kernel|omega) only [Cy,mX,qcB,Aq,qal,g19,g20];rfl
    show W cE _ _ _;apply W.seq;apply W.run 20
    ·intro M;simp (disch:=first|decide+kernel|omega) only [mX,qcB,Aq,qal,g4,lw,sG];rfl
    show W cE _ _ _;apply W.run 20
    ·intro M;simp (disch:=first|decide+kernel|omega) only [mX,qcB,Aq,qal];rfl
    refine⟨by simp,rfl,_,(by simp only [qcB,Aq,qal,g4,lG]<;>rfl),⟨by have:=q1.1;show _<G.next;omega,?_⟩,⟨by have:=hK.1;show _≤G.next;omega,fun z hz hp=>by rw [fG z (by omega),hK.2 z hz hp]⟩,x,c,rfl,?_,fun h=>q6 (by rw [h];rfl),fun h=>q7 (fun e=>h (qaP.1 e))⟩
    ·have e:a+(Gs i st).length=a':=by simp at q3;omega
     rw [e];exact q1.2.same (fG p (by omega))
    ·exact az.j_ q5 (fun h=>q6 (by have:=congrArg qcE h;simpa using this)) (by show _≤G.next;omega) fun hne _=>fG c (by
      have:=q7 (fun e=>hne (qbk.2 (qaP.1 e)));omega)
  ·simp only [Sq,qal,qam,g0,g1,g4]
end Go.Proofs.YtjoceidiioppiaaGreatDoor.sto
namespace Go.Proofs.YtjoceidiioppiaaGreatDoor.sto
open Go.Am Go.Sto
theorem Js:cE.ba 112=some (.slice 186):=by kernel_rfl
theorem Va:cm cE 186= .ok (3,[.slice none 0 0,.bool false,.int .u64 0]):=by kernel_rfl
theorem X6:aR cE 112= .ok 1:=by kernel_rfl
theorem uB:aR cE 115= .ok 2:=by kernel_rfl
theorem EY:bS cE 115= .ok (.agg ⟨[.slice none 0 0,uN 0]⟩):=by kernel_rfl
theorem Oz:bS cE 3= .ok (iN 0):=by kernel_rfl
variable {b o:Nat}
theorem RM:av cE 115 (pw b o) 0= .ok (pw b o):=by kernel_rfl
theorem RN:av cE 115 (pw b o) 1= .ok (pw b (o+1)):=by kernel_rfl
theorem U5 {x:Value} {s:aZ}:a6 cE 112 1 [(0,.agg ⟨cW x s⟩)]= .ok (aa 186 (cW x s),.mO 1 2):=by kernel_rfl
theorem U9:∃i,cE.ty.get 186=some i∧0<i.bytes∧i.bytes≤65536:=by
 have h:(cE.ty.get 186).map (fun i=>qax 0 i.bytes&&qaq i.bytes 65536)=some true:=by kernel_rfl
 cases hq:cE.ty.get 186 with
 |none=>rw [hq] at h;cases h
 |some i=>
  rw [hq] at h;simp only [qa5,qaX,qaO,qaH] at h;exact⟨i,rfl,h.1,qaG h.2⟩
noncomputable def kz:Code:=qcn.body.getD .skip
noncomputable def GJ:Code:=sub kz [1,0,1,0,0]
noncomputable def Cr:Code:=sub kz [1,1,1,0,1,0,0]
theorem QU:qcn.body=some (.seq (sub kz [0]) (.seq (.seq (sub kz [1,0,0]) (.block 0 (.loop GJ))) (.seq (sub kz [1,1,0]) (.seq (.seq (sub kz [1,1,1,0,0]) (.block 2 (.loop Cr))) (.seq (sub kz [1,1,1,1,0]) (.seq (sub kz [1,1,1,1,1,0]) (.seq (sub kz [1,1,1,1,1,1,0]) (sub kz [1,1,1,1,1,1,1])))))))):=by kernel_rfl
def Ue (p q:Nat) (M:List aZ) (s r:List UInt8) (k:Nat) (D:Mem):Prop:=∃a b rows y,td D p s a∧s.drop a=jC k (M.drop k)++r∧VB D 115 q (.var 2) [y,.int .u64 (0:Nat)]∧
 az D 186 3 b rows y∧rows.length=k∧(k=0→y= .slice none 0 0)∧(k≠0→q<b)∧
 ∀(i:Nat) (st:aZ),i<k→M[i]?=some st→∃x c,rows[i]?=some (cW x st)∧az D 246 3 c (st.arcs.map b6) x∧(st.arcs=[]→x= .slice none 0 0)∧(st.arcs≠ []→q<c∧c≠b)
variable {p k:Nat} {M:List aZ} {t:T Value}
theorem P4 {q:Nat} {s r:List UInt8} {D:Mem} {x2:Value} (hs:s.length<900000) (hpq:p<q) (hL:Lay M) (hM:M.length<1000000) (hk:k<M.length) (h:Ue p q M s r k D)
 (hsl:Sl t [(0,pV p),(2,x2),(3,pV q),(5,.int .u64 k),(6,uN M.length)]):
 W cE Cr ⟨t,52,[],D,none⟩ fun e s'=>e= .nrm∧∃t' D',s'=⟨t',52,[],D',none⟩∧Ue p q M s r (k+1) D'∧(D.next≤D'.next∧∀z,z<q→z≠p→D'.get z=D.get z)∧Sl t' [(0,pV p),(2,x2),(3,pV q),(5,uN (k+1)),(6,uN M.length)]:=by
 obtain⟨a,b,rows,y,hR,hd,hV,hS,hrl,hy0,hb,hA⟩:=h;obtain⟨g0,g2,g3,g5,g6,-⟩:=hsl;have hMk:M[k]?=some M[k]:=qan hk;obtain⟨l1,l2,l3,l4⟩:=hL k _ hMk;have hdk:M.drop k=M[k]::M.drop (k+1):=qbi hk;rw [hdk,jC,qbh] at hd;generalize hst:M[k]=st at*;have hpD:p<D.next:=hR.1
 have hqD:q<D.next:=hV.1
 obtain⟨v1,E,⟨e1,h1⟩,hRE,hKE,x,c,rfl,hc1,hc2,hc3⟩:=Ig hR hs (by omega) l1 l2 l3 l4 hd;have hdE:s.drop (a+(Gs k st).length)=jC (k+1) (M.drop (k+1))++r:=by rw [←List.drop_drop,hd,List.drop_left]
 have kE:=hKE.1;have hVE:dw E 115 q (.var 2) [y,uN 0]:=hV.2.same (hKE.2 q hqD (by omega));have ly1:ag cE D.get 112 (pw q 0)= .ok y:=hV.ld rfl Js rfl;have ly2:ag cE E.get 112 (pw q 0)= .ok y:=VB.ld (tb:=cE) ⟨by omega,hVE⟩ rfl Js rfl;have sy:cG 100 y y=true:=by
  rcases hS with⟨rfl,-⟩|⟨_,_,rfl,-⟩
  ·rfl
  ·exact mN _ _ _ _
 have hr0:k≠0→rows≠ []:=fun h0 h=>h0 (by rw [←hrl,h];rfl)
 have hbD:k≠0→b<D.next:=fun h0=>o0 hS (hr0 h0)
 have hSE:az E 186 3 b rows y:=az.j_ hS (fun h=>hy0 (by rw [←hrl,h];rfl)) kE fun hne hlt=>hKE.2 b hlt (by
  have:=hb (fun h=>hne (qaP.1 (by rw [hrl,h])));omega)
 obtain⟨ti,t1,t2,t3⟩:=U9;have hcell:∀v∈cW x st,aJ v=true:=by
  intro v hv;simp only [cW,qaK,qbb,or_false] at hv;rcases hv with rfl|rfl|rfl
  ·exact(az.dk hc1).2
  ·rfl
  ·rfl
 have hSE':az (E.alloc (aa 186 (cW x st))) 186 3 b rows y:=hSE.same (by rw [ae];omega) fun h=>aB (by omega)
 obtain⟨y',F,happ,hs3,hn3,hf3⟩:=az.append (tb:=cE) (st:=112) (xt:=112) hSE' Js Js Va t1 t2 t3 (by omega) (by omega) (by omega) (ax E _) rfl hcell;rw [ae] at hs3 hn3 hf3;have hq0:q=b→y= .slice none 0 0:=fun e=>qcQ (fun h0:k=0=>hy0 h0) fun h0=>by have:=hb h0;omega
 have hp0:p=b→y= .slice none 0 0:=fun e=>qcQ (fun h0:k=0=>hy0 h0) fun h0=>by have:=hb h0;omega
 have keepF:∀z,z<E.next→(z=b→y= .slice none 0 0)→F.get z=E.get z:=fun z hz h=>by rw [hf3 z h (by omega),aB (by omega)]
 obtain⟨G,sG,vG,nG,fG⟩:=aL (tb:=cE) (t:=112) (o:=0) (v:=y') X6 (hVE.same (keepF q (by omega) hq0)) (by simp) (az.dk hs3).1 (az.dk hs3).2;have a1:aM .add .u64 ((k:Nat):Int) ((1:Nat):Int)= .ok (uN (k+1)):=bf (cV (by omega));have hkeep:∀z,z<E.next→(z=b→y= .slice none 0 0)→z≠q→G.get z=E.get z:=fun z hz h hq=>by rw [fG z hq,keepF z hz h]
 simp only [pV] at*;apply W.cN (e1) 20
 ·intro M hM;simp (config:={maxSteps:=4000000}) (disch:=first|decide+kernel|omega|simp only [Wq,qal]) only [Cr,kz,qcn,Aq,qaq,reduceIte,qal,qam,g0,g3,g5,g6,hk,RM,ly1,ly2,h1,U5,happ,sG,sy,a1,Fq,aA [(1,4)]];rfl
 refine⟨rfl,_,G,rfl,⟨_,E.next+1,rows++[cW x st],y',⟨by have:=hRE.1;omega,hRE.2.same (hkeep p (by omega) hp0 (by omega))⟩,hdE,⟨by omega,vG⟩,hs3.same (by omega) fun h=>fG _ (by omega),by rw [qar,hrl];rfl,fun h=>by omega,fun _=>by omega,fun i u hi hu=>?_⟩,⟨by omega,fun z hz hp=>?_⟩,?_⟩
 ·rcases qaZ i k with hik|hik
  ·obtain⟨x',c',e1,e2,e3,e4⟩:=hA i u hik hu;refine⟨x',c',by rw [qaJ (by omega)];exact e1,az.j_ e2 (fun h=>e3 (qbk.1 h)) (by omega) fun hne hlt=>?_,e3,fun h=>⟨(e4 h).1,?_⟩⟩
   ·have:=e4 (fun h=>hne (by rw [h];rfl));rw [hkeep c' (by omega) (fun e=>absurd e this.2) (by omega),hKE.2 c' hlt (by omega)]
   ·have:=o0 e2 (fun e=>h (qbk.1 e));omega
  ·have e:i=k:=by omega
   subst e;rw [hMk] at hu;cases hu;refine⟨x,c,by rw [qaF (by omega),hrl,qbq];rfl,az.j_ hc1 (fun h=>hc2 (qbk.1 h)) (by omega) fun hne hlt=>?_,hc2,fun h=>⟨?_,?_⟩⟩
   ·have h4:=hc3 (fun h=>hne (by rw [h];rfl));exact hkeep c hlt (fun e=>qcQ (fun h0:i=0=>hy0 h0) fun h0=>by have:=hbD h0;omega) (by omega)
   ·have:=hc3 h;omega
   ·have:=o0 hc1 (fun e=>h (qbk.1 e));omega
 ·rw [hkeep z (by omega) (fun e=>qcQ (fun h0:k=0=>hy0 h0) fun h0=>by have:=hb h0;omega) (by omega),hKE.2 z (by omega) hp]
 ·simp only [Sq,qal,qam,g0,g2,g3,g6]
def Uh (q:Nat) (A:Mem) (M:List aZ) (y:Value):Prop:=∃b rows,az A 186 3 b rows y∧rows.length=M.length∧q<b∧∀(i:Nat) (s:aZ),M[i]?=some s→∃x c,rows[i]?=some (cW x s)∧az A 246 3 c (s.arcs.map b6) x∧(s.arcs=[]→x= .slice none 0 0)∧(s.arcs≠ []→q<c)
variable {A A':Mem} {y:Value}
theorem Uh.qad {q:Nat} (h:Uh q A M y) (hn:A.next≤A'.next) (hg:∀z,z<A.next→q<z→A'.get z=A.get z):dJ A' M y:=by
 obtain⟨b,rows,h1,h2,h3,h4⟩:=h;refine⟨b,rows,h1.same hn fun hlt=>hg b hlt h3,h2,fun i s hs=>?_⟩;obtain⟨x,c,e1,e2,e3,e4⟩:=h4 i s hs;exact⟨x,e1,c,az.j_ e2 (fun h=>e3 (qbk.1 h)) hn fun hne hlt=>hg c hlt (e4 fun h=>hne (by rw [h];rfl))⟩
variable {n:Nat}
theorem SI {s:List UInt8} (h:td A p s 0) (hs:s.length<900000) (hd:s=ib n M k) (hn:n≤100000) (hM0:M≠ []) (hM:M.length<1000000) (hL:Lay M) (hk:k<18446744073709551616):
 ∃v A',bg cE 140 [pV p] A v A'∧DU p A A'∧∃y,v= .tuple ⟨[.int .i64 n,.agg ⟨[y,.int .u64 k]⟩]⟩∧Uh A.next A' M y:=by
 refine cF (gF Tryz.func140) QU (by kernel_rfl) ?_;have kB:=Kp.alloc A (aa 115 [.slice none 0 0,uN 0]);have vB:=ay A 115 [.slice none 0 0,uN 0];have hpA:p<A.next:=h.1
 apply W.seq;apply W.run 20
 ·intro M;simp (disch:=first|decide+kernel|omega) only [kz,qcn,Aq,qal,EY,au];rfl
 show W cE _ _ _;have RB:=h.kp kB;generalize A.alloc (aa 115 [.slice none 0 0,uN 0])=B at kB vB RB;have hqB:=vB.1;apply W.seq;apply W.seq;apply W.run 20
 ·intro M;simp (disch:=first|decide+kernel|omega) only [kz,qcn,Aq,qal];rfl
 show W cE _ _ _;apply W.block;refine W.up 3 (fun i t D=>td D p s i∧DU p B D∧Sl t [(0,pV p),(2,iN 0),(3,pV A.next),(7,.int .i64 i)]) ?_ (qaB _) ⟨RB,DU.refl _ _,?_⟩
 ·rintro i t D hi ⟨hR,hK,g0,g2,g3,g7,-⟩;by_cases hlt:i<3
  ·have sD:aW cE (D.alloc (aa 3 [iN 0])) 3 (pw D.next 0) (.int .i64 i)= .ok (D.alloc (aa 3 [.int .i64 i])):=eG Yv rfl rfl (by simp);have kE:=Kp.alloc D (aa 3 [.int .i64 i]);have vE:=ay D 3 [.int .i64 i];have RE:=hR.kp kE;generalize D.alloc (aa 3 [.int .i64 i])=E at sD kE vE RE;obtain⟨c,r,hc,hdr⟩:∃c r,([67,83,1]:List UInt8)[i]?=some c∧s.drop i=c::r:=by
    rw [hd];have:i=0∨i=1∨i=2:=by omega
    rcases this with rfl|rfl|rfl<;>exact⟨_,_,rfl,rfl⟩
   obtain⟨v1,F,⟨e1,h1⟩,rfl,R1,K1⟩:=FD (f:=187) (y:=[pV D.next]) RE hs hdr fun B hB=>Sy (vE.kp hB) hlt hc
   have a1:aM .add .i64 ((i:Nat):Int) ((1:Nat):Int)= .ok (iN (i+1)):=bf (aV (by omega));simp only [pV] at*;apply W.cN (e1) 20
   ·intro M hM;simp (disch:=first|decide+kernel|omega) only [GJ,kz,qcn,Aq,qal,g0,g7,hlt,Oz,sD,aY,h1,a1];rfl
   refine⟨hlt,_,F,rfl,R1,hK.trans ((kE.x p).trans K1),?_⟩;simp only [Sq,qal,qam,g0,g2,g3]
  ·have e:i=3:=by omega
   subst e;have hd3:s.drop 3=cK n++(cK M.length++(jC 0 M++cK k)):=by rw [hd];rfl
   have hqD:A.next<D.next:=by have:=hK.1;omega
   have VD:VB D 115 A.next (.var 2) [.slice none 0 0,uN 0]:=⟨hqD,vB.2.same (hK.2 _ hqB (by omega))⟩
   obtain⟨v1,E1,⟨e1,h1⟩,rfl,R1,K1⟩:=j9 (lo:=0) (hi:=100000) hR hs (by omega) hd3 ⟨qaB _,hn⟩;obtain⟨-,hd4,-⟩:=lr (show n<18446744073709551616 by omega) hd3;obtain⟨v2,E2,⟨e2,h2⟩,rfl,R2,K2⟩:=j9 (lo:=1) (hi:=18446744073709551615) R1 hs (by omega) hd4 ⟨qa6.2 hM0,by omega⟩;obtain⟨-,hd5,-⟩:=lr (show M.length<18446744073709551616 by omega) hd4;have cv:=bM (tb:=cE) (s:=113) (d:=3) (k:=.u64) (n:=n) (by rw [i103];rfl) i3 (aV (by omega));have K12:=K1.trans K2;have n12:=K12.1;have V2:VB E2 115 A.next (.var 2) [.slice none 0 0,uN 0]:=⟨by omega,VD.2.same (K12.2 _ hqD (by omega))⟩
   simp only [pV] at*;apply W.run 20
   ·intro M;simp (disch:=first|decide+kernel|omega) only [GJ,kz,qcn,Aq,qal,g7];rfl
   show W cE _ _ _;apply W.seq;apply W.cN (e1) 20
   ·intro M hM;simp (disch:=first|decide+kernel|omega) only [kz,qcn,Aq,qal,g0,h1,cv];rfl
   show W cE _ _ _;apply W.seq;apply W.seq;apply W.cN (e2) 20
   ·intro M hM;simp (disch:=first|decide+kernel|omega) only [kz,qcn,Aq,qal,g0,h2];rfl
   show W cE _ _ _;apply W.block;refine W.up M.length (fun j t D=>Ue p A.next M s (cK k) j D∧DU p A D∧Sl t [(0,pV p),(2,.int .i64 n),(3,pV A.next),(5,.int .u64 j),(6,uN M.length)]) ?_ (qaB _) ⟨⟨_,A.next,[],_,R2,by rw [qdq];exact hd5,V2,az.nil _ _ _ _,rfl,fun _=>rfl,fun h=>absurd rfl h,fun i st hi=>absurd hi (qdD _)⟩,(kB.x p).trans (hK.trans K12),?_⟩
   ·rintro j t D hj ⟨hR,hK,hs0⟩;by_cases hlt:j<M.length
    ·refine(P4 hs hpA hL hM hlt hR hs0).mono ?_;rintro e s' ⟨rfl,t',D',rfl,hR',hk',hs'⟩;exact⟨hlt,t',D',rfl,hR',⟨qaV hK.1 hk'.1,fun z hz hp=>by rw [hk'.2 z hz hp,hK.2 z hz hp]⟩,hs'⟩
    ·have e:j=M.length:=by omega
     subst e;obtain⟨a,b,rows,y,q1,q2,q3,q4,q5,q6,q7,q8⟩:=hR;obtain⟨g0,g2,g3,g5,g6,-⟩:=hs0;rw [qd4] at q2;have q2':s.drop a=cK k++[]:=by rw [qbt];exact q2
     obtain⟨v3,E,⟨e3,h3⟩,rfl,R3,K3⟩:=j9 (lo:=0) (hi:=18446744073709551615) q1 hs hk q2' ⟨qaB _,by omega⟩;obtain⟨-,hd6,hle⟩:=lr hk q2';have n3:=K3.1;have hM1:M.length≠0:=fun e=>hM0 (qaP.1 e)
     have hqb:=q7 hM1;obtain⟨F,sF,vF,nF,fF⟩:=aL (tb:=cE) (t:=113) (o:=1) (v:=.int .u64 k) Oo (q3.2.same (K3.2 _ q3.1 (by omega))) (by simp) rfl rfl;have hq3:=q3.1;have RF:td F p s (a+(cK k).length):=⟨by have:=R3.1;omega,R3.2.same (fF p (by omega))⟩;have hend:¬a+(cK k).length<s.length:=by
      have:=qd3.1 hd6;omega
     have la:=RF.a;have lb:=RF.s;have hl:=cP (tb:=cE) (t:=9) (l:=s) i9;have lw:ag cE F.get 115 (pw A.next 0)= .ok (.agg ⟨[y,.int .u64 k]⟩):=by
      obtain⟨d,hd1,hd2⟩:=D7 (t:=115) (p:=true) (by kernel_rfl);exact aI hd1 hd2 uB vF
     have hys:=az.dk q4;obtain⟨G,sG,vG,nG,fG⟩:=cY (tb:=cE) (t:=115) (l':=[y,.int .u64 k]) (by exact uB) vF rfl (by simp) (by
      intro v hv;simp only [qaK,qbb,or_false] at hv;rcases hv with rfl|rfl
      ·exact hys.2
      ·rfl)
     have lG:ag cE G.get 115 (pw A.next 0)= .ok (.agg ⟨[y,.int .u64 k]⟩):=by
      obtain⟨d,hd1,hd2⟩:=D7 (t:=115) (p:=true) (by kernel_rfl);exact aI hd1 hd2 uB vG
     have fG':∀z,z<D.next→z≠p→z≠A.next→G.get z=D.get z:=fun z hz hp hq=>by rw [fG z hq,fF z hq,K3.2 z hz hp]
     simp only [pV] at*;apply W.run 20
     ·intro M;simp (disch:=first|decide+kernel|omega) only [Cr,kz,qcn,Aq,qal,g5,g6];rfl
     show W cE _ _ _;apply W.seq;apply W.cN (e3) 20
     ·intro M hM;simp (disch:=first|decide+kernel|omega) only [kz,qcn,Aq,qal,g0,g3,h3,RN,sF];rfl
     show W cE _ _ _;apply W.seq;apply W.run 20
     ·intro M;simp (config:={maxSteps:=4000000}) (disch:=first|decide+kernel|omega|simp only [Wq,qal]) only [kz,qcn,Aq,qaq,reduceIte,qal,qam,g0,ak,aF,Hu,xy,la,lb,hl,hend,Fq,aA []];rfl
     show W cE _ _ _;apply W.seq;apply W.run 20
     ·intro M;simp (config:={maxSteps:=4000000}) (disch:=first|decide+kernel|omega|simp only [Wq,qal]) only [kz,qcn,Aq,qaq,reduceIte,qal,qam,g2,g3,lw,sG,Fq,aA []];rfl
     show W cE _ _ _;apply W.run 20
     ·intro M;simp (disch:=first|decide+kernel|omega) only [kz,qcn,Aq,qal];rfl
     refine⟨by simp,rfl,_,(by simp only [qcn,Aq,qal,g2,g3,lG]<;>rfl),⟨by have:=hK.1;show _≤G.next;omega,fun z hz hp=>by rw [fG' z (by have:=hK.1;omega) hp (by omega),hK.2 z hz hp]⟩,y,rfl,b,rows,q4.same (by show _≤G.next;omega) fun hlt=>fG' b hlt (by omega) (by omega),q5,hqb,fun i st hst=>?_⟩;obtain⟨x,c,u1,u2,u3,u4⟩:=q8 i st (qap.1 hst).1 hst;exact⟨x,c,u1,az.j_ u2 (fun h=>u3 (qbk.1 h)) (by show _≤G.next;omega) fun hne hlt=>by
      have:=(u4 fun h=>hne (by rw [h];rfl)).1;exact fG' c hlt (by omega) (by omega),u3,fun h=>(u4 h).1⟩
   ·simp only [Sq,qal,qam,g0,g2,g3,pV]
 ·simp only [Sq,qal,qam,pV]
end Go.Proofs.YtjoceidiioppiaaGreatDoor.sto
namespace Go.Am
variable {tb:bO}
noncomputable def sX (h:Nat→List Value→Mem→R (Value×Mem)):List Value→Mem→R (Value×Mem):=fun args A=>
 open Classical in if e:∃r N,∀n,N≤n→h n args A= .ok r then .ok e.choose else .no 0
theorem Wa {P:Program} {f:FuncId} {h:Nat→List Value→Mem→R (Value×Mem)} (hn:∀n,b9 P f (h n)):b9 P f (sX h):=by
 intro args A v A' e;unfold sX at e;split at e
 ·rename_i hx;obtain⟨N,hN⟩:=hx.choose_spec;rw [R.ok.inj e] at hN;exact hn N args A v A' (hN N (qao _))
 ·cases e
variable {A:Mem}
theorem V' {h:Nat→List Value→Mem→R (Value×Mem)} {args:List Value} {r:Value×Mem} {N:Nat} (e:∀n,N≤n→h n args A= .ok r):sX h args A= .ok r:=by
 unfold sX;have hx:∃r N,∀n,N≤n→h n args A= .ok r:=⟨r,N,e⟩;rw [dif_pos hx];obtain⟨N',hN⟩:=hx.choose_spec;have h1:=hN (N+N') (by omega);rw [e _ (by omega)] at h1;rw [R.ok.inj h1]
def WU (e2:Ex) (s2:St) (rv:Value) (A1:Mem):Prop:=
 match e2 with
 | .kx v=>s2.d=[]∧rv=v∧A1=s2.m
 | .exit _=>False
 |_=>eW s2.d s2.m= .ok A1∧rv= .nilIface
theorem Ry {D:Kv} {args:List Value} {Q:Value→Mem→Prop} (hn:args.length≤D.fn.ntmps)
 (h:W tb D.c0 ⟨T.bK .e 0 args,D.fn.ntmps,[],A,none⟩ fun e s0=>e= .nrm∧∃s1 cap,(∀ih,dL tb ih D.o1 s0 (fun s=>.ok (.nrm,s))= .ok (.nrm,s1))∧s1.d=[]∧s1.t.get D.x=some (.func (.func D.g) ⟨[]⟩ ⟨cap⟩)∧cap.length≤D.gf.ntmps∧
  W tb D.c2 s1 fun e2 s2=>∃rv A1,WU e2 s2 rv A1∧W tb D.c3 ⟨(T.bK .e 0 cap).set D.t rv,D.gf.ntmps,[],A1,none⟩ fun e3 s3=>(e3= .nrm∨e3= .ret)∧∃A2 vs,eW s3.d s3.m= .ok A2∧eV tb s2.t A2.get D.fn.results.toList= .ok vs∧Q (oneOf vs) A2):
 ∃v A2,(∃N,∀n,N≤n→ij tb D n args A= .ok (v,A2))∧Q v A2:=by
 obtain⟨e0,s0,⟨f0,h0⟩,he0,s1,cap,h1,hd1,hx,hc,e2,s2,⟨f2,h2⟩,rv,A1,hE,e3,s3,⟨f3,h3⟩,he3,A2,vs,h4,h5,hQ⟩:=h;subst he0;refine⟨_,A2,⟨f0+f2+f3,fun n hN=>?_⟩,hQ⟩;have x0:=h0 (n-f0);have x2:=h2 (n-f2);have x3:=h3 (n-f3);rw [qce (by omega)] at x0 x2 x3;have hrec:O_ tb D n cap rv A1= .ok A2:=by
  unfold O_;rw [show qaq cap.length D.gf.ntmps=true by rw [qdm];exact hc,cond_true,x3,R.aw];rcases he3 with rfl|rfl<;>exact h4
 unfold ij;rw [show qaq args.length D.fn.ntmps=true by rw [qdm];exact hn,cond_true,x0,R.aw];simp only [h1,R.aw,hd1,hx];rw [show qaw D.g D.g=true by rw [qcI],cond_true,x2,R.aw];cases e2 with
 |kx v=>
  obtain⟨q1,rfl,rfl⟩:=hE;simp only [q1,R.aw,qbv,hrec,h5]
 |exit _=>exact hE.elim
 |nrm=>
  obtain⟨q1,rfl⟩:=hE;simp only [q1,R.aw,qbv,hrec,h5]
 |ret=>
  obtain⟨q1,rfl⟩:=hE;simp only [q1,R.aw,qbv,hrec,h5]
section
variable {ih:Code→St→R (Ex×St)} {dst:Option Tmp} {ty:TypeId} {pos:String} {after:Array Edge} {g:Option (Nat×Bool)} {s:St} {k:St→R (Ex×St)}
theorem HV (x:Operand) (a t:TypeId) (b:Bool):dL tb ih {dst,op:=.typeAssert x a t b,type:=ty,pos,after,guard:=g} s k=(ev s.t x).bind fun x=>(rA tb x t b).bind fun v=>bR s dst v k:=by
 rw [jb (hc:=rfl) (hi:=rfl)];simp only [tQ,R.a7]
noncomputable def Om (tb:bO) (t:TypeId) (x:Value):R Value:=match tb.ba t with
 |some (.interface _)=>.no 208
 |some _=>.ok (.iface t x)
 |none=>.no 209
theorem Ly (t:TypeId) (x:Operand):dL tb ih {dst,op:=.makeInterface t x,type:=ty,pos,after,guard:=g} s k=(ev s.t x).bind fun x=>(Om tb t x).bind fun v=>bR s dst v k:=by
 rw [jb (hc:=rfl) (hi:=rfl)];simp only [tQ,R.a7];rfl
theorem iV (t:T Value):ev t (.const .nilIface)= .ok .nilIface:=rfl
end
end Go.Am
namespace Go.Proofs.YtjoceidiioppiaaGreatDoor.sto
open Go.Am Go.Sto
noncomputable def gC:Code:=qdx.body.getD .skip
noncomputable def Y0:Code:=Tryz.f137.body.getD .skip
def Sh (c:Code) (i:Nat):Oper:=
 match c with
 | .region _ ops _=>ops.toList.getD i default
 |_=>default
noncomputable def vj:Kv:={f:=83,fn:=qdx,c0:=sub gC [0],id1:=1,o1:=Sh (sub gC [1,0]) 0,od:=Sh (sub gC [1,0]) 1,c2:=sub gC [1,1],x:=7,g:=137,gf:=Tryz.f137,id3:=0,orc:=Sh (sub Y0 [0]) 0,t:=6,c3:=sub Y0 [1]}
theorem e8:MG cE vj where
 hf:=gF Tryz.func83
 hb:=by kernel_rfl
 hod:=by kernel_rfl
 go1:=by kernel_rfl
 god:=by kernel_rfl
 dod:=by kernel_rfl
 hg:=gF Tryz.func137
 hgb:=by kernel_rfl
 horc:=by kernel_rfl
 dorc:=by kernel_rfl
 gorc:=by kernel_rfl
 ht:=by show Nat.lt _ _;exact qaG (by kernel_rfl)
 hres:=by kernel_rfl
 hng:=by kernel_rfl
noncomputable def Jn:=sX (ij cE vj)
theorem Le:b9 cg.P 83 Jn:=Wa fun n=>Et Qh e8 n
theorem XE:vj.c3=sub Y0 [1]:=rfl
theorem XD:vj.c2= .seq (sub gC [1,1,0]) (.seq (sub gC [1,1,1,0]) (.seq (sub gC [1,1,1,1,0]) (.seq (sub gC [1,1,1,1,1,0]) (sub gC [1,1,1,1,1,1])))):=by kernel_rfl
theorem Ow:bS cE 143= .ok .nilIface:=by kernel_rfl
theorem X7:aR cE 143= .ok 1:=by kernel_rfl
theorem U4 {l:List UInt8}:ct cE 225 [(0,aj l)]= .ok (.agg ⟨[aj l,iN 0]⟩):=by kernel_rfl
variable {n:Nat}
theorem U7 {g:Nat→Option Ob}:vY cE g .eql 20 (.tmp n) (.const .nilIface) .nilIface .nilIface= .ok (.bool true):=by kernel_rfl
structure Z3 (A:Mem) (q:Nat) (v:List Value):Prop where
 a:VB A 3 q (.var 1) [v.getD 0 .nilIface]
 b:VB A 115 (q+1) (.var 2) [v.getD 1 .nilIface,v.getD 2 .nilIface]
 c:VB A 143 (q+2) (.var 1) [v.getD 3 .nilIface]
theorem KV:Value.nilIface.cells.toList=[.nilIface]:=rfl
variable {A:Mem} {M:List aZ}
theorem LB {s:List UInt8} {k:Nat} (hs:s.length<900000) (ho:crc.lM s=(ib n M k,true)) (hn:n≤100000) (hM0:M≠ []) (hM:M.length<1000000) (hL:Lay M) (hk:k<18446744073709551616) (hb:(ib n M k).length<900000):
 ∃v A',Jn [aj s] A= .ok (v,A')∧Kp A A'∧∃y,v= .tuple ⟨[.int .i64 n,.agg ⟨[y,.int .u64 k]⟩,.nilIface]⟩∧dJ A' M y:=by
 suffices h:∃v A',(∃N,∀n,N≤n→ij cE vj n [aj s] A= .ok (v,A'))∧(Kp A A'∧∃y,v= .tuple ⟨[.int .i64 n,.agg ⟨[y,.int .u64 k]⟩,.nilIface]⟩∧dJ A' M y) by
  obtain⟨v,A',⟨N,hN⟩,h⟩:=h;exact⟨v,A',V' hN,h⟩
 have kB:=Kp.alloc A (aa 3 [iN 0]);have v1:=ay A 3 [iN 0];have nB:(A.alloc (aa 3 [iN 0])).next=A.next+1:=ae _ _
 generalize hB:A.alloc (aa 3 [iN 0])=B at kB v1 nB;have kC:=Kp.alloc B (aa 115 [.slice none 0 0,uN 0]);have v2:=ay B 115 [.slice none 0 0,uN 0];have nC:(B.alloc (aa 115 [.slice none 0 0,uN 0])).next=B.next+1:=ae _ _
 generalize hC:B.alloc (aa 115 [.slice none 0 0,uN 0])=C at kC v2 nC;have kD:=Kp.alloc C (aa 143 [.nilIface]);have v3:=ay C 143 [.nilIface];have nD:(C.alloc (aa 143 [.nilIface])).next=C.next+1:=ae _ _
 generalize hD:C.alloc (aa 143 [.nilIface])=D at kD v3 nD;have v1:=v1.kp (kC.trans kD);have v2:=v2.kp kD;have kAD:=kB.trans (kC.trans kD);have kE:=Kp.alloc D (aa 225 [aj (ib n M k),iN 0]);have vE:td (D.alloc (aa 225 [aj (ib n M k),iN 0])) D.next (ib n M k) 0:=ay D 225 [aj (ib n M k),iN 0]
 have nE:(D.alloc (aa 225 [aj (ib n M k),iN 0])).next=D.next+1:=ae _ _
 generalize hE:D.alloc (aa 225 [aj (ib n M k),iN 0])=E at kE vE nE;obtain⟨v,F,⟨g1,h1⟩,hKF,y,rfl,hS⟩:=SI vE hb rfl hn hM0 hM hL hk;have nF:=hKF.1;have keepF:∀z,z<D.next→F.get z=D.get z:=fun z hz=>by rw [hKF.2 z (by omega) (by omega),kE.2 z hz]
 have hy:y.cells.toList=[y]∧aJ y=true:=by
  obtain⟨b,rows,e,-⟩:=hS;exact az.dk e
 have h1y:∀v∈ [y,Value.int .u64 k],aJ v=true:=by
  intro v hv;simp only [qaK,qbb,or_false] at hv;rcases hv with rfl|rfl
  ·exact hy.2
  ·rfl
 obtain⟨d,hd1,hd2⟩:=D7 (t:=115) (p:=true) (by kernel_rfl);have w1:=v1.1;have w2:=v2.1;have w3:=v3.1;obtain⟨G,sG,vG,nG,fG⟩:=aL (tb:=cE) (t:=3) (o:=0) (v:=.int .i64 n) Yv (v1.2.same (keepF _ w1)) (by simp) rfl rfl;obtain⟨H,sH,vH,nH,fH⟩:=cY (tb:=cE) (t:=115) (l':=[y,.int .u64 k]) (by exact uB) (v2.2.same (by rw [fG _ (by omega),keepF _ w2])) rfl (by simp) h1y;have l1:ag cE H.get 3 (pw A.next 0)= .ok (.int .i64 n):=aQ i3 rfl (vG.same (fH _ (by omega))) rfl;have l2:ag cE H.get 115 (pw B.next 0)= .ok (.agg ⟨[y,.int .u64 k]⟩):=aI hd1 hd2 uB vH;obtain⟨I,sI,vI,nI,fI⟩:=aL (tb:=cE) (t:=3) (o:=0) (v:=.int .i64 n) Yv (vG.same (fH A.next (by omega))) (by simp) rfl rfl;obtain⟨J,sJ,vJ,nJ,fJ⟩:=cY (tb:=cE) (t:=115) (l':=[y,.int .u64 k]) (by exact uB) (vH.same (fI B.next (by omega))) rfl (by simp) h1y;obtain⟨L,sL,vL,nL,fL⟩:=aL (tb:=cE) (t:=143) (o:=0) (v:=.nilIface) X7 (v3.2.same (by rw [fJ _ (by omega),fI _ (by omega),fH _ (by omega),fG _ (by omega),keepF _ w3])) (by simp) rfl rfl;have m1:ag cE L.get 3 (pw A.next 0)= .ok (.int .i64 n):=aQ i3 rfl (vI.same (by rw [fL _ (by omega),fJ _ (by omega)])) rfl;have m2:ag cE L.get 115 (pw B.next 0)= .ok (.agg ⟨[y,.int .u64 k]⟩):=aI hd1 hd2 uB (vJ.same (fL _ (by omega)));have m3:ag cE L.get 143 (pw C.next 0)= .ok .nilIface:=by
  obtain⟨d,hd1,hd2⟩:=D7 (t:=143) (p:=false) (by kernel_rfl);exact aQ hd1 hd2 vL rfl
 have hL3:∀z,z<F.next→z≠A.next→z≠B.next→z≠C.next→L.get z=F.get z:=fun z _ a b c=>by rw [fL z c,fJ z b,fI z a,fH z b,fG z a]
 have l2':ag cE I.get 115 (pw B.next 0)= .ok (.agg ⟨[y,.int .u64 k]⟩):=aI hd1 hd2 uB (vH.same (fI _ (by omega)));have sv:cG 100 (.agg ⟨[y,.int .u64 k]⟩) (.agg ⟨[y,.int .u64 k]⟩)=true:=by
  obtain⟨b,rows,e,-⟩:=hS;have h1:cG 99 y y=true:=by
   rcases e with⟨rfl,-⟩|⟨_,_,rfl,-⟩
   ·rfl
   ·simp [cG,uT,qx]
  have h2:cG 99 (.int .u64 k) (.int .u64 k)=true:=by
   show(eD .u64 .u64&&ou (k:Int) (k:Int))=true;simp [ou,eD]
  show(qaw 2 2&&(cG 99 y y&&(cG 99 (.int .u64 k) (.int .u64 k)&&true)))=true;rw [h1,h2];rfl
 have ko:=fun ih=>Vc (ih:=ih) (A:=D) hs
 rw [ho] at ko;refine Ry (by show 1≤qdx.ntmps;rw [Tryz.ntmps83];omega) ?_;apply W.run 20
 ·intro M;simp (disch:=first|decide+kernel|omega) only [vj,gC,qdx,Aq,qal,Oz,EY,Ow,au,KV,hB,hC,hD];rfl
 refine⟨rfl,_,[pV A.next,pV B.next,pV C.next],fun ih=>by
  simp only [vj,gC,qdx,Sh,aY,Aq,qal];rfl,by rfl,by
  show T.get _ 7=_;simp only [T.aH,qal,if_true,if_false,pV];rfl,by
  show 3≤Tryz.f137.ntmps;rw [Tryz.ntmps137];omega,?_⟩
 ·show W cE vj.c2 _ _;rw [XD];apply W.seq;apply W.run 20
  ·intro M;simp (disch:=first|decide+kernel|omega) only [gC,qdx,Aq,qal,ko,qau,qav];rfl
  show W cE _ _ _;apply W.seq;apply W.run 20
  ·intro M;simp (disch:=first|decide+kernel|omega) only [gC,qdx,Aq,qal];rfl
  show W cE _ _ _;apply W.seq;simp only [pV] at h1;apply W.cN (g1) 20
  ·intro M hM;simp (disch:=first|decide+kernel|omega) only [gC,qdx,Aq,qal,U4,au,hE,h1,qau,qav,sG,sH];rfl
  show W cE _ _ _;apply W.seq;apply W.run 20
  ·intro M;simp (config:={maxSteps:=4000000}) (disch:=first|decide+kernel|omega|simp only [Wq,qal]) only [gC,qdx,Aq,qaq,reduceIte,qal,qam,l1,l2,sI,l2',sv,sJ,sL,iV,Fq,aA [(1,2)]];rfl
  show W cE _ _ _;apply W.run 20
  ·intro M;simp (disch:=first|decide+kernel|omega) only [gC,qdx,Aq,qal];rfl
  refine⟨.nilIface,L,⟨rfl,rfl⟩,?_⟩;rw [XE];apply W.run 20
  ·intro M;simp (disch:=first|decide+kernel|omega) only [Y0,Tryz.f137,Aq,qal,vj,iV,bW,U7];rfl
  refine⟨.inl rfl,L,_,rfl,(by simp only [vj,qdx,m1,m2,m3,Aq,qal]<;>rfl),⟨by omega,fun z hz=>?_⟩,y,rfl,?_⟩
  ·rw [hL3 z (by omega) (by omega) (by omega) (by omega),keepF z (by omega),kAD.2 z hz]
  ·exact hS.qad (by omega) fun z h1 h2=>hL3 z h1 (by omega) (by omega) (by omega)
end Go.Proofs.YtjoceidiioppiaaGreatDoor.sto
namespace Go.Proofs.YtjoceidiioppiaaGreatDoor.sto
open Go.Am Go.Mdl Go.Sto
def ud:List Value→Option Value
 | []=>some (.bool true)
 |_=>none
noncomputable def tc:T (List Value→Mem→R (Value×Mem)):=(oR.set 83 Jn).set 19 (aK ud)
noncomputable def af:bO:={cg with hk:=tc}
theorem zm (h:b9 cg.P 19 (aK ud)):cC af:=bV (bV Qh Le) h
variable {k:Nat} {fn:Func}
theorem aq (h:qba.funcs[k]?=some fn):af.fn.get k=some fn:=bH h
theorem nT {h:List Value→Mem→R (Value×Mem)} (e:tc.get k=some h):af.hk.get k=some h:=e
section
variable {ih:Code→St→R (Ex×St)} {A:Mem}
variable {n:Nat}
theorem Zn (hn:n<18446744073709551616):bA af ih (.fn 226 [.int .u64 n]) A= .ok (.val (.agg ⟨kT n⟩) A):=
 iS (x:=n) (aq Tryz.func226) (by kernel_rfl) CB (nT (by simp only [tc,oR,T.aH];rfl)) (fun x y h=>by rw [Yg h]) hn
variable {w:List UInt8}
theorem Zo:bA af ih (.fn 132 [aj w]) A= .ok (.val (.bool (decide (0<w.length∧w.length≤64))) A):=
 iS (x:=w) (aq Tryz.func132) (c:=Tryz.f132.body.getD .skip) (by kernel_rfl) (by kernel_rfl) (nT (by simp only [tc,oR,T.aH];rfl)) (fun x y h=>by rw [Zu h]) trivial
theorem OA {f:Bool}:bA af ih (.fn 202 [.agg ⟨[.int .u64 n,.bool f]⟩]) A= .ok (.val (.bool (f&&decide (n≤4294967296))) A):=
 iS (x:=(n,f)) (aq Tryz.func202) (c:=Tryz.f202.body.getD .skip) (by kernel_rfl) (by kernel_rfl) (nT (by simp only [tc,oR,T.aH];rfl)) (fun x y h=>by rw [Zv h]) trivial
variable {e:aP}
theorem TS:bA af ih (.fn 79 [.agg ⟨a_ e⟩]) A= .ok (.val (.agg ⟨a_ (bare e)⟩) A):=
 iS (x:=e) (aq Tryz.func79) (c:=Tryz.f79.body.getD .skip) (by kernel_rfl) (by kernel_rfl) (nT (by simp only [tc,oR,T.aH];rfl)) (fun x y h=>by rw [Zj h]) trivial
variable {m:Nat}
theorem RX {f:Bool} (h:n+m<18446744073709551616):bA af ih (.fn 200 [.agg ⟨[.int .u64 n,.bool f]⟩,.int .u64 m]) A= .ok (.val (.agg ⟨[uN (n+m),.bool f]⟩) A):=
 iS (x:=((n,f),m)) (aq Tryz.func200) (c:=Tryz.f200.body.getD .skip) (by kernel_rfl) (by kernel_rfl) (nT (by simp only [tc,oR,T.aH];rfl)) (fun x y h=>by
  obtain⟨⟨a,b⟩,c⟩:=x;obtain⟨⟨a',b'⟩,c'⟩:=y;simp only [Uj,qa4,Value.agg.injEq,qeL,Value.int.injEq,Value.bool.injEq,and_true,true_and] at h;obtain⟨⟨h1,h2⟩,h3⟩:=h;cases qdC h1;cases qdC h3;rw [h2]) h
theorem X' (h:1≤n∧n≤6):bA af ih (.fn 29 [iN 4,.int .i64 n]) A= .ok (.val (aj (cd n)) A)∧bA af ih (.fn 45 [iN 4,.int .i64 n]) A= .ok (.val (aj (cd n)) A):=by
 have e:qo names [iN 4,.int .i64 n]=some (aj (cd n)):=by
  have:n=1∨n=2∨n=3∨n=4∨n=5∨n=6:=by omega
  rcases this with rfl|rfl|rfl|rfl|rfl|rfl<;>(clear h;show _=_;kernel_rfl)
 exact⟨cr (aq Tryz.func29) (by kernel_rfl) (c:=Tryz.f29.body.getD .skip) (by kernel_rfl) (nT (by simp only [tc,oR,T.aH];rfl)) (by unfold aK;rw [e]),
  cr (aq Tryz.func45) (by kernel_rfl) (c:=Tryz.f45.body.getD .skip) (by kernel_rfl) (nT (by simp only [tc,oR,T.aH];rfl)) (by unfold aK;rw [e])⟩
theorem Vd {s:List UInt8} (hs:s.length<900000):bA af ih (.fn 123 [aj s]) A= .ok (.val (aj (crc.bP s)) A):=
 cr (aq Tryz.func123) (by kernel_rfl) (c:=qcz.body.getD .skip) (by kernel_rfl) (nT (by simp only [tc,oR,T.aH];rfl)) (by
  have e:crc.sr [aj s]=some (aj (crc.bP s)):=by rw [←crc.F3];exact if_pos hs
  unfold aK;rw [e])
theorem Zm (hn:n<18446744073709551616):bA af ih (.fn 224 [.int .u64 n,iN 36]) A= .ok (.val (aj (qe n)) A):=
 iS (x:=n) (aq Tryz.func224) (c:=Tryz.f224.body.getD .skip) (by kernel_rfl) (by kernel_rfl) (nT (by simp only [tc,oR,T.aH];rfl)) (fun x y h=>by
  simp only [Uk,qa4,Value.int.injEq,and_true,true_and] at h;rw [qdC h]) hn
variable {ns:List (List UInt8)}
theorem RY {args:List Value} (h:iL args A ns):bA af ih (.fn 126 args) A= .ok (.val (kc ns A).1 (kc ns A).2):=
 cr (aq Tryz.func126) (by kernel_rfl) (c:=Tryz.f126.body.getD .skip) (by kernel_rfl) (nT (by simp only [tc,oR,T.aH];rfl)) (HA h)
theorem Ve:bA af ih (.fn 19 []) A= .ok (.val (.bool true) A):=
 cr (aq Tryz.func19) (by kernel_rfl) (c:=Tryz.f19.body.getD .skip) (by kernel_rfl) (nT (by simp only [tc,oR,T.aH];rfl)) rfl
end
theorem u3:af.ba 3=some (.int .i64):=DN
theorem u4:af.ba 4=some .bool:=My
theorem u5:af.ba 5=some (.int .u8):=mR
theorem u9:af.ba 9=some .string:=ov
theorem fp:af.ba 113=some (.int .u64):=gZ
end Go.Proofs.YtjoceidiioppiaaGreatDoor.sto
namespace Go.Proofs.YtjoceidiioppiaaGreatDoor.sto
open Go.Am
noncomputable def Y2:bO:=(cg.qd 123 (aK crc.sr)).qd 138 (aK crc.Fs)
theorem Qg:cC Y2:=bV (bV fc crc.tH) crc.AU
theorem XI:MG Y2 vj:=⟨e8.hf,e8.hb,e8.hod,e8.go1,e8.god,e8.dod,e8.hg,e8.hgb,e8.horc,e8.dorc,e8.gorc,e8.ht,e8.hres,e8.hng⟩
noncomputable def ZJ:bO:=Y2.qd 83 (ij Y2 vj 100000)
theorem Wd:cC ZJ:=bV Qg (Et Qg XI 100000)
theorem Wx:isTrue (call ZJ 1000000 19 [] dZ)=true:=by decide+kernel
theorem HF:b9 cg.P 19 (aK ud):=by
 refine dP Wd (bH Tryz.func19) (c:=Tryz.f19.body.getD .skip) (by kernel_rfl) fun args v hv=>?_
 cases args with
 |cons x l=>cases hv
 |nil=>
  cases hv;have h:=Wx;refine⟨fun x hx=>(qbb hx).elim,rfl,1000000,?_⟩;cases hr:call ZJ 1000000 19 [] dZ with
  |no _=>rw [hr] at h;cases h
  |ok r=>
   rw [hr] at h;cases r with
   |kx v A=>cases h
   |val v A=>
    cases v with
    |bool b=>have hb':b=true:=h;subst hb';exact⟨A,rfl⟩
    |_=>cases h
theorem qz:∃d,af.ba 78=some d∧bQ d=false:=by
 have h:(af.ba 78).map bQ=some false:=by kernel_rfl
 cases hq:af.ba 78 with
 |none=>rw [hq] at h;cases h
 |some d=>rw [hq] at h;exact⟨d,rfl,by simpa using h⟩
theorem zp:af.ba 79=some (.map 3 96):=by kernel_rfl
theorem pj:af.ba 199=some (.map 9 3):=by kernel_rfl
theorem qA:bS af 3= .ok (iN 0):=by kernel_rfl
variable {b:Nat}
theorem qj:av af 81 (pw b 0) 0= .ok (pw b 0):=by kernel_rfl
theorem AI:av af 81 (pw b 0) 1= .ok (pw b 1):=by kernel_rfl
theorem rP:av af 81 (pw b 0) 5= .ok (pw b 5):=by kernel_rfl
theorem NR:av af 201 (pw b 0) 0= .ok (pw b 0):=by kernel_rfl
theorem xw:av af 201 (pw b 0) 1= .ok (pw b 1):=by kernel_rfl
theorem xx:av af 162 (pw b 0) 2= .ok (pw b 2):=by kernel_rfl
def numOf (ns:List (List UInt8)) (w:List UInt8):Nat:=((ns.findIdx? fun n=>decide (w=n)).map (·+1)).getD 0
variable {A:Mem} {mn c:Nat} {ns:List (List UInt8)} {w:List UInt8}
theorem A5 (h:A.get mn=some (.map (bB ns 0) c)):
 fZ af A.get 199 (.map (some mn)) (aj w) true= .ok (.tuple ⟨[.int .i64 (numOf ns w:Nat),.bool (decide (numOf ns w≠0))]⟩):=by
 have hk:eQ af 9 (aj w)=true:=by unfold eQ;rw [u9];rfl
 unfold fZ numOf;simp only [pj,hk,cond_true,iU,h,R.aw,tM,qA];cases ns.findIdx? fun n=>decide (w=n) with
 |none=>rfl
 |some i=>simp [qdt]
theorem NL {t:Operand}:vY af A.get .eql 78 t (.const (.pointer none)) (pw b 0) (.pointer none)= .ok (.bool false):=by kernel_rfl
variable {pf:Nat} {y:Value}
theorem yR {ml x:Value} (h:VB A 201 pf (.var 4) [ml,.map (some mn),x,y]) (hm:A.get mn=some (.map (bB ns 0) c)):
 bg af 68 [pw pf 0,aj w] A (.tuple ⟨[iN (numOf ns w),.bool (decide (numOf ns w≠0))]⟩) A:=by
 have l1:ag af A.get 199 (pw pf 1)= .ok (.map (some mn)):=h.ld rfl pj rfl;have l2:=A5 (w:=w) hm;refine bm 60 (aq Tryz.func68) (by kernel_rfl) fun M=>?_
 simp (disch:=first|decide+kernel|omega) only [Tryz.f68,Aq,qal,bW,NL,ak,aF,xw,l1,fS,l2,qau,qav,bc]<;>rfl
variable {mf p:Nat} {ps:List Nat}
theorem pQ {q:Nat} (h:A.get mf=some (.map (dG ps 0) c)) (hq:ps[q]?=some p):
 fZ af A.get 79 (.map (some mf)) (iN (q+1)) false= .ok (pw p 0):=by
 have hk:eQ af 3 (iN (q+1))=true:=by unfold eQ;rw [u3]
 unfold fZ;simp only [zp,hk,cond_true,iU,h,R.aw,tF q ps 0 0 (qaB _),qbA,hq];rfl
def ic (A:Mem) (p:Nat) (fs:List (List UInt8×List UInt8)):Prop:=
 ∃pf mf mn cf cn ps ml q st ar x y,VB A 81 p (.var 6) [.pointer (some ⟨pf,0,none⟩),.map (some mf),q,st,ar,.bool false]∧VB A 201 pf (.var 4) [ml,.map (some mn),x,y]∧
  (mn<A.next∧A.get mn=some (.map (bB (fs.map (·.1)) 0) cn))∧(mf<A.next∧A.get mf=some (.map (dG ps 0) cf))∧
  ∀(i:Nat) (s:List UInt8×List UInt8),fs[i]?=some s→∃b d a,ps[i]?=some b∧VB A 162 b (.var 3) [d,a,aj s.2]
variable {A':Mem} {fs:List (List UInt8×List UInt8)}
theorem ic.kp (h:ic A p fs) (k:Kp A A'):ic A' p fs:=by
 obtain⟨pf,mf,mn,cf,cn,ps,ml,q,st,ar,x,y,h1,h2,⟨h3,h4⟩,⟨h5,h6⟩,h7⟩:=h;refine⟨pf,mf,mn,cf,cn,ps,ml,q,st,ar,x,y,h1.kp k,h2.kp k,⟨qaD h3 k.1,by rw [k.2 _ h3,h4]⟩,⟨qaD h5 k.1,by rw [k.2 _ h5,h6]⟩,fun i s hs=>?_⟩;obtain⟨b,d,a,e1,e2⟩:=h7 i s hs;exact⟨b,d,a,e1,e2.kp k⟩
def fileOf (fs:List (List UInt8×List UInt8)) (w:List UInt8):Option (List UInt8):=(fs.find? fun f=>decide (w=f.1)).map (·.2)
theorem oV (w:List UInt8):∀fs:List (List UInt8×List UInt8),(numOf (fs.map (·.1)) w=0∧fileOf fs w=none)∨∃i s,numOf (fs.map (·.1)) w=i+1∧fs[i]?=some s∧fileOf fs w=some s.2
 | []=>.inl ⟨rfl,rfl⟩
 |f::fs=>by
  unfold numOf fileOf;rw [qbx,List.findIdx?_cons,List.find?_cons];by_cases h:w=f.1
  ·simp only [h,decide_true,if_true];exact .inr ⟨0,f,rfl,rfl,rfl⟩
  ·simp only [h,decide_false,qaI,if_false];rcases oV w fs with⟨h1,h2⟩|⟨i,s,h1,h2,h3⟩
   ·unfold numOf at h1;unfold fileOf at h2;refine .inl ⟨?_,h2⟩;cases hq:(fs.map (·.1)).findIdx? fun n=>decide (w=n) with
    |none=>rfl
    |some i=>rw [hq] at h1;simp at h1
   ·unfold numOf at h1;unfold fileOf at h3;refine .inr ⟨i+1,s,?_,h2,h3⟩;cases hq:(fs.map (·.1)).findIdx? fun n=>decide (w=n) with
    |none=>rw [hq] at h1;simp at h1
    |some j=>rw [hq] at h1;simp only [qa5,qbG] at h1⊢;omega
theorem CL {t:Operand}:vY af A.get .eql 24 t (.const (.pointer none)) (pw b 0) (.pointer none)= .ok (.bool false):=by kernel_rfl
theorem NM {t:Operand}:vY af A.get .eql 96 t (.const (.pointer none)) (pw b 0) (.pointer none)= .ok (.bool false):=by kernel_rfl
theorem XL {t:Operand}:vY af A.get .eql 96 t (.const (.pointer none)) (.pointer none) (.pointer none)= .ok (.bool true):=by kernel_rfl
theorem FJ {a b c d e:Value} {z:Bool} (h:VB A 81 p (.var 6) [a,b,c,d,e,.bool z]):bg af 106 [pw p 0] A (.bool z) A:=by
 have l1:ag af A.get 4 (pw p 5)= .ok (.bool z):=h.ld rfl u4 rfl;refine bm 60 (aq Tryz.func106) (by kernel_rfl) fun M=>?_
 simp (config:={maxSteps:=4000000}) (disch:=first|decide+kernel|omega|simp only [Wq,qal]) only [Tryz.f106,Aq,qaq,reduceIte,qal,qam,bW,CL,ak,aF,rP,l1,bc]<;>rfl
def uy (ps:List Nat) (n:Nat):Value:=.pointer ((if n=0 then none else ps[n-1]?).map fun b=>⟨b,0,none⟩)
theorem run_read {cf cn:Nat} {ml q st ar x:Value} (h1:VB A 81 p (.var 6) [pw pf 0,.map (some mf),q,st,ar,.bool false]) (h2:VB A 201 pf (.var 4) [ml,.map (some mn),x,y])
 (h3:A.get mn=some (.map (bB (fs.map (·.1)) 0) cn)) (h4:A.get mf=some (.map (dG ps 0) cf)) (h5:∀(i:Nat) (s:List UInt8×List UInt8),fs[i]?=some s→∃b,ps[i]?=some b):
 bg af 53 [pw p 0,aj w] A (.tuple ⟨[uy ps (numOf (fs.map (·.1)) w),iN (if numOf (fs.map (·.1)) w=0 then 9 else 0)]⟩) A:=by
 have l0:ag af A.get 78 (pw p 0)= .ok (pw pf 0):=by obtain⟨d,hd,ha⟩:=qz;exact h1.ld rfl hd ha
 have l1:ag af A.get 79 (pw p 1)= .ok (.map (some mf)):=h1.ld rfl zp rfl;have l5:ag af A.get 4 (pw p 5)= .ok (.bool false):=h1.ld rfl u4 rfl;obtain⟨g,hg⟩:=yR (w:=w) h2 h3;rcases oV w fs with⟨e1,-⟩|⟨i,s,e1,e2,-⟩
 ·rw [e1] at hg⊢;refine aT (g) 60 (aq Tryz.func53) (by kernel_rfl) fun M hM=>?_
  simp (disch:=first|decide+kernel|omega) only [Tryz.f53,Aq,qal,bW,CL,ak,aF,qj,AI,rP,l0,l1,l5,hg,qau,qav,bc,uy,qdG]<;>rfl
 ·rw [e1] at hg⊢;obtain⟨b,hb⟩:=h5 i s e2;have l2:=pQ h4 hb;refine aT (g) 60 (aq Tryz.func53) (by kernel_rfl) fun M hM=>?_
  simp (disch:=first|decide+kernel|omega) only [Tryz.f53,Aq,qal,bW,CL,ak,aF,qj,AI,rP,l0,l1,l5,hg,qau,qav,bc,uy,fS,l2,qeb,qbW,hb,qa5]<;>rfl
theorem Bx {d a:Value} {s:List UInt8} (h:VB A 162 b (.var 3) [d,a,aj s]):bg af 54 [pw b 0] A (aj s) A:=by
 have l2:ag af A.get 9 (pw b 2)= .ok (aj s):=h.ld rfl u9 rfl;refine bm 60 (aq Tryz.func54) (by kernel_rfl) fun M=>?_
 simp (disch:=first|decide+kernel|omega) only [Tryz.f54,Aq,qal,bW,NM,ak,aF,xx,l2,bc]<;>rfl
theorem H5:bg af 54 [.pointer none] A (aj []) A:=by
 refine bm 60 (aq Tryz.func54) (by kernel_rfl) fun M=>?_
 simp (disch:=first|decide+kernel|omega) only [Tryz.f54,Aq,qal,bW,XL,bc]<;>rfl
theorem JZ {f:Value} {s:List UInt8} (h:bg af 54 [f] A (aj s) A):bg af 73 [f] A (iN s.length) A:=by
 obtain⟨g,hg⟩:=h;have hl:=cP (tb:=af) (t:=9) (l:=s) u9;refine aT (g) 60 (aq Tryz.func73) (by kernel_rfl) fun M hM=>?_
 simp (disch:=first|decide+kernel|omega) only [Tryz.f73,Aq,qal,hg,hl]<;>rfl
theorem Ic {d a:Value} {s:List UInt8} (h:VB A 162 b (.var 3) [d,a,aj s]) (hs:s.length<1000000000000):
 bg af 74 [pw b 0,iN 0,iN s.length] A (.tuple ⟨[aj s,iN 0]⟩) A:=by
 have l2:ag af A.get 9 (pw b 2)= .ok (aj s):=h.ld rfl u9 rfl;have hl:=cP (tb:=af) (t:=9) (l:=s) u9;have s1:c6 af 9 (aj s) (some (iN 0)) none none= .ok (aj s):=It (n:=0) u9 (qaB _);have s2:c6 af 9 (aj s) none (some (iN s.length)) none= .ok (aj s):=by rw [mP u9 (qao _),qaR]
 have m1:aN af .min [3,3] [iN s.length,iN s.length]= .ok (iN s.length):=by rw [nj,Nat.min_self]
 refine bm 60 (aq Tryz.func74) (by kernel_rfl) fun M=>?_
 simp (config:={maxSteps:=4000000}) (disch:=first|decide+kernel|omega|simp only [Wq,qal]) only [Tryz.f74,Aq,qaq,reduceIte,qal,qam,bW,NM,ak,aF,xx,l2,bc,hl,s1,s2,m1,cT,bY]<;>rfl
theorem yW (h:ic A p fs):
 bg af 24 [pw p 0,aj w] A (.tuple ⟨[iN (((fileOf fs w).getD []).length),iN (if(fileOf fs w).isSome then 0 else 9)]⟩) A:=by
 obtain⟨pf,mf,mn,cf,cn,ps,ml,q,st,ar,x,y,h1,h2,⟨-,h3⟩,⟨-,h4⟩,h5⟩:=h;obtain⟨g,hg⟩:=run_read (w:=w) h1 h2 h3 h4 fun i s hs=>(h5 i s hs).imp fun b hb=>hb.choose_spec.choose_spec.1
 rcases oV w fs with⟨e1,e2⟩|⟨i,s,e1,e2,e3⟩
 ·rw [e1] at hg;rw [e2];obtain⟨g',hg'⟩:=JZ (A:=A) H5;refine aT (g+g') 60 (aq Tryz.func24) (by kernel_rfl) fun M hM=>?_
  simp (disch:=first|decide+kernel|omega) only [Tryz.f24,Aq,qal,hg,uy,if_true,qdG,hg',qau,qav,qey,qbI,qaT]<;>rfl
 ·rw [e1] at hg;rw [e3];obtain⟨b,d,a,hb,hf⟩:=h5 i s e2;obtain⟨g',hg'⟩:=JZ (Bx hf);refine aT (g+g') 60 (aq Tryz.func24) (by kernel_rfl) fun M hM=>?_
  simp (disch:=first|decide+kernel|omega) only [Tryz.f24,Aq,qal,hg,uy,qeb,qbW,hb,qa5,hg',qau,qav,qbG,qdF]<;>rfl
theorem uO {s:List UInt8} (h:ic A p fs) (hw:fileOf fs w=some s) (hs:s.length<1000000000000):
 bg af 25 [pw p 0,aj w,iN 0,iN s.length] A (.tuple ⟨[aj s,iN 0]⟩) A:=by
 obtain⟨pf,mf,mn,cf,cn,ps,ml,q,st,ar,x,y,h1,h2,⟨-,h3⟩,⟨-,h4⟩,h5⟩:=h;obtain⟨g,hg⟩:=run_read (w:=w) h1 h2 h3 h4 fun i s hs=>(h5 i s hs).imp fun b hb=>hb.choose_spec.choose_spec.1
 rcases oV w fs with⟨e1,e2⟩|⟨i,s',e1,e2,e3⟩
 ·rw [e2] at hw;cases hw
 ·rw [e3] at hw;cases hw;rw [e1] at hg;obtain⟨b,d,a,hb,hf⟩:=h5 i s' e2;obtain⟨g',hg'⟩:=Ic hf hs;refine aT (g+g') 60 (aq Tryz.func25) (by kernel_rfl) fun M hM=>?_
  simp (disch:=first|decide+kernel|omega) only [Tryz.f25,Aq,qal,hg,uy,qeb,qbW,hb,qa5,hg',qau,qav]<;>rfl
end Go.Proofs.YtjoceidiioppiaaGreatDoor.sto
namespace Go.Proofs.YtjoceidiioppiaaGreatDoor.sto
open Go.Am Go.Mdl Go.Sto
theorem WS:af.ba 59=some (.int .u32):=by kernel_rfl
theorem QH:af.ba 28=some (.slice 61):=by kernel_rfl
theorem IG:aR af 61= .ok 3:=by kernel_rfl
theorem Z7:(af.ba 61).map bQ=some true:=by kernel_rfl
variable {b o:Nat}
theorem jT:av af 61 (pw b o) 0= .ok (pw b o):=by kernel_rfl
theorem XU:av af 61 (pw b o) 1= .ok (pw b (o+1)):=by kernel_rfl
theorem TL:av af 61 (pw b o) 2= .ok (pw b (o+2)):=by kernel_rfl
def en (A:Mem) (l:List aP) (x:Value):Prop:=∃b,az A 61 3 b (l.map a_) x
variable {A A':Mem}
theorem en.kp {l:List aP} {x:Value} (h:en A l x) (k:Kp A A'):en A' l x:=by
 obtain⟨b,h⟩:=h;exact⟨b,h.same k.1 (k.2 b)⟩
theorem en.len {l:List aP} {x:Value} (h:en A l x):aN af .len [28] [x]= .ok (iN l.length):=by
 obtain⟨b,h⟩:=h;have:=az.len (tb:=af) h QH;rwa [qas] at this
variable {i:Nat} {e:aP}
theorem en.at {l:List aP} {x:Value} (h:en A l x) (hi:l[i]?=some e):
 ∃p,aU af 28 x (.int .i64 i)= .ok p∧ag af A.get 61 p= .ok (.agg ⟨a_ e⟩)∧∃q,av af 61 p 0= .ok q∧ag af A.get 9 q= .ok (aj e.word):=by
 obtain⟨b,h⟩:=h;have hl:i<(l.map a_).length:=by rw [qas];exact(qap.1 hi).1
 have hm:(l.map a_)[i]?=some (a_ e):=by rw [qaN,hi];rfl
 have hd:∃d,af.ba 61=some d∧bQ d=true:=by
  have:=Z7;cases hq:af.ba 61 with
  |none=>rw [hq] at this;cases this
  |some d=>rw [hq] at this;exact⟨d,rfl,by simpa using this⟩
 obtain⟨d,hd1,hd2⟩:=hd;refine⟨_,az.idx h QH IG hl,az.aI h hd1 hd2 IG hm,_,jT,?_⟩;have:=az.load (j:=0) h u9 rfl hm rfl (by omega);rwa [qa8] at this
theorem zr (h:e.weight<4294967296):val e≤4294967296:=by unfold val;split<;>omega
theorem mi:af.ba 184=some (.slice 246):=by kernel_rfl
theorem MB:aR af 246= .ok 3:=by kernel_rfl
theorem a8 {t:TypeId} {p:Bool} (h:(af.ba t).map bQ=some p):∃d,af.ba t=some d∧bQ d=p:=by
 cases hq:af.ba t with
 |none=>rw [hq] at h;cases h
 |some d=>rw [hq] at h;exact⟨d,rfl,by simpa using h⟩
theorem fk:av af 186 (pw b o) 0= .ok (pw b o):=by kernel_rfl
theorem ee:av af 186 (pw b o) 1= .ok (pw b (o+1)):=by kernel_rfl
theorem m_:av af 186 (pw b o) 2= .ok (pw b (o+2)):=by kernel_rfl
theorem iI.len {l:List cJ} {x:Value} (h:iI A l x):aN af .len [184] [x]= .ok (iN l.length):=by
 obtain⟨b,h⟩:=h;have:=az.len (tb:=af) h mi;rwa [qas] at this
theorem iI.at {l:List cJ} {x:Value} {e:cJ} (h:iI A l x) (hi:l[i]?=some e):
 ∃p,aU af 184 x (.int .i64 i)= .ok p∧ag af A.get 246 p= .ok (.agg ⟨b6 e⟩):=by
 obtain⟨b,h⟩:=h;have hl:i<(l.map b6).length:=by rw [qas];exact(qap.1 hi).1
 have hm:(l.map b6)[i]?=some (b6 e):=by rw [qaN,hi];rfl
 obtain⟨d,hd1,hd2⟩:=a8 (t:=246) (p:=true) (by kernel_rfl);exact⟨_,az.idx h mi MB hl,az.aI h hd1 hd2 MB hm⟩
theorem JS (t:T Value) (g:Nat→Option Ob) (e:TypeId) (x y:Operand) (r:TypeId):nX af t g (.binOp .neq e x y r)=(ev t x).bind fun a=>(ev t y).bind fun b=>vY af g .neq e x y a b:=rfl
theorem fy:af.ba 112=some (.slice 186):=by kernel_rfl
theorem jD:aR af 186= .ok 3:=by kernel_rfl
theorem T8:cm af 186= .ok (3,[.slice none 0 0,.bool false,.int .u64 0]):=by kernel_rfl
theorem J4:aR af 112= .ok 1:=by kernel_rfl
theorem T0:∃i,af.ty.get 186=some i∧0<i.bytes∧i.bytes≤65536:=by
 have h:(af.ty.get 186).map (fun i=>qax 0 i.bytes&&qaq i.bytes 65536)=some true:=by kernel_rfl
 cases hq:af.ty.get 186 with
 |none=>rw [hq] at h;cases h
 |some i=>
  rw [hq] at h;simp only [qa5,qaX,qaO,qaH] at h;exact⟨i,rfl,h.1,qaG h.2⟩
theorem TF {x:Value} {s:aZ}:a6 af 112 1 [(0,.agg ⟨cW x s⟩)]= .ok (aa 186 (cW x s),.mO 1 2):=by kernel_rfl
theorem TJ (t:T Value) (k:IntKind):ev t (.const (.int k (-1)))= .ok (.int k (-1)):=rfl
theorem MZ:∀{l:List aP} {i:Nat} {a b:aP},rk l→l[i]?=some a→l[i+1]?=some b→aX a.word b.word=true
 |x::l,0,a,b,h,h1,h2=>by
  cases h1;rw [qav] at h2;exact h.1 b (qa0 h2)
 |x::l,i+1,a,b,h,h1,h2=>by
  rw [qav] at h1 h2;exact MZ h.2 h1 h2
end Go.Proofs.YtjoceidiioppiaaGreatDoor.sto
namespace Go.Sto
open Go.Am Go.Mdl
theorem ZX:∀{l:List UInt8} {n:Nat},l.Pairwise (·<·)→(∀x∈l,n≤x.toNat)→n≤256→l.length+n≤256
 | [],n,_,_,h=>by simpa using h
 |x::l,n,hp,hn,_=>by
  obtain⟨h1,h2⟩:=List.pairwise_cons.1 hp;have hx:=x.toNat_lt;have:=ZX (l:=l) (n:=x.toNat+1) h2 (fun y hy=>qde.1 (h1 y hy)) (by omega);have:=hn x qaz;rw [qaA];omega
variable {i:Nat}
theorem np {s:aZ} (h:WN i s):s.arcs.length≤256:=by
 have:=ZX (n:=0) h.2.1 (fun _ _=>qaB _) (by omega);rwa [qas] at this
variable {M:List aZ}
theorem N4 (g:Good M) {s:aZ} (h:s∈M):s.arcs.length≤256:=by
 obtain⟨i,hi,rfl⟩:=qbM h;exact np (g.1 i _ (qan hi))
end Go.Sto
namespace Go.Proofs.YtjoceidiioppiaaGreatDoor.sto
open Go.Am Go.Mdl Go.Sto
theorem YW:cm af 61= .ok (3,[.string .empty,.int .u32 0,.bool false]):=by kernel_rfl
variable {e:aP}
theorem KL:a6 af 28 1 [(0,.agg ⟨a_ e⟩)]= .ok (aa 61 (a_ e),.mO 1 2):=by kernel_rfl
theorem YI:∃i,af.ty.get 61=some i∧0<i.bytes∧i.bytes≤65536:=by
 have h:(af.ty.get 61).map (fun i=>qax 0 i.bytes&&qaq i.bytes 65536)=some true:=by kernel_rfl
 cases hq:af.ty.get 61 with
 |none=>rw [hq] at h;cases h
 |some i=>
  rw [hq] at h;simp only [qa5,qaX,qaO,qaH] at h;exact⟨i,rfl,h.1,qaG h.2⟩
theorem oH (e:aP):∀v∈a_ e,aJ v=true:=by
 intro v hv;simp only [a_,qaK,qbb,or_false] at hv;rcases hv with rfl|rfl|rfl<;>rfl
variable {b:Nat}
theorem Ca {D:Mem} {l:List aP} {x:Value} (h:az D 61 3 b (l.map a_) x) (hl:l.length<1000000):
 ∃x' D',bj af (D.alloc (aa 61 (a_ e))) 28 28 x (.slice (some ⟨D.next,0,none⟩) 1 2)= .ok (x',D')∧az D' 61 3 (D.next+1) ((l++[e]).map a_) x'∧D'.next=D.next+2∧∀z,z≠b→z<D.next→D'.get z=D.get z:=by
 obtain⟨i,t1,t2,t3⟩:=YI;have h':az (D.alloc (aa 61 (a_ e))) 61 3 b (l.map a_) x:=h.same (by rw [ae];omega) fun hh=>aB (by omega)
 obtain⟨x',D',h1,h2,h3,h4⟩:=az.append (tb:=af) (st:=28) (xt:=28) h' QH QH YW t1 t2 t3 (by omega) (by omega) (by rw [qas];omega) (ax D _) rfl (oH e);rw [ae] at h2 h3 h4;refine⟨x',D',h1,by rw [qbe];exact h2,by omega,fun z hz hzn=>by rw [h4 z (fun hh=>absurd hh hz) (by omega),aB (by omega)]⟩
theorem jE:bS af 186= .ok (.agg ⟨[.slice none 0 0,.bool false,uN 0]⟩):=by kernel_rfl
theorem S8:aR af 184= .ok 1:=by kernel_rfl
theorem YS:cm af 246= .ok (3,[.int .u8 0,.int .u64 0,.int .i64 0]):=by kernel_rfl
variable {o:Nat}
theorem Xw {a:Nat} {n:Int}:a6 af 184 1 [(0,.agg ⟨[.int .u8 a,.int .u64 o,.int .i64 n]⟩)]= .ok (aa 246 [.int .u8 a,.int .u64 o,.int .i64 n],.mO 1 2):=by kernel_rfl
theorem YD:∃i,af.ty.get 246=some i∧0<i.bytes∧i.bytes≤65536:=by
 have h:(af.ty.get 246).map (fun i=>qax 0 i.bytes&&qaq i.bytes 65536)=some true:=by kernel_rfl
 cases hq:af.ty.get 246 with
 |none=>rw [hq] at h;cases h
 |some i=>
  rw [hq] at h;simp only [qa5,qaX,qaO,qaH] at h;exact⟨i,rfl,h.1,qaG h.2⟩
theorem Xh {a:Nat} {n:Int}:ct af 246 [(0,.int .u8 a),(1,.int .u64 o),(2,.int .i64 n)]= .ok (.agg ⟨[.int .u8 a,.int .u64 o,.int .i64 n]⟩):=by kernel_rfl
variable {c:Nat} {y:Value}
theorem QM {D:Mem} {l:List cJ} {a:cJ} (h:az D 246 3 c (l.map b6) y) (hl:l.length<1000000):
 ∃y' D',bj af (D.alloc (aa 246 (b6 a))) 184 184 y (.slice (some ⟨D.next,0,none⟩) 1 2)= .ok (y',D')∧az D' 246 3 (D.next+1) ((l++[a]).map b6) y'∧D'.next=D.next+2∧∀z,(z=c→y= .slice none 0 0)→z<D.next→D'.get z=D.get z:=by
 obtain⟨i,t1,t2,t3⟩:=YD;have h':az (D.alloc (aa 246 (b6 a))) 246 3 c (l.map b6) y:=h.same (by rw [ae];omega) fun hh=>aB (by omega)
 obtain⟨x',D',h1,h2,h3,h4⟩:=az.append (tb:=af) (st:=184) (xt:=184) h' mi mi YS t1 t2 t3 (by omega) (by omega) (by rw [qas];omega) (ax D _) rfl (by
  intro v hv;simp only [b6,qaK,qbb,or_false] at hv;rcases hv with rfl|rfl|rfl<;>rfl)
 rw [ae] at h2 h3 h4;exact⟨x',D',h1,by rw [qbe];exact h2,by omega,fun z hz hzn=>by rw [h4 z hz (by omega),aB (by omega)]⟩
variable {A:Mem} {M:List aZ}
theorem dJ.len (h:dJ A M y):aN af .len [112] [y]= .ok (iN M.length):=by
 obtain⟨b,rows,h1,h2,-⟩:=h;have:=az.len (tb:=af) h1 fy;rwa [h2] at this
variable {i:Nat}
theorem dJ.at {s:aZ} (h:dJ A M y) (hi:M[i]?=some s):
 ∃x p,aU af 112 y (.int .i64 i)= .ok p∧ag af A.get 186 p= .ok (.agg ⟨cW x s⟩)∧iI A s.arcs x∧∃q,av af 186 p 0= .ok q∧ag af A.get 184 q= .ok x:=by
 obtain⟨b,rows,h1,h2,h3⟩:=h;obtain⟨x,e1,e2⟩:=h3 i s hi;have hl:i<rows.length:=(qap.1 e1).1;obtain⟨d,hd1,hd2⟩:=a8 (t:=186) (p:=true) (by kernel_rfl);refine⟨x,_,az.idx h1 fy jD hl,az.aI h1 hd1 hd2 jD e1,e2,_,fk,?_⟩;have:=az.load (tb:=af) (j:=0) h1 mi rfl e1 rfl (by omega);rwa [qa8] at this
def dO (l:List aP):List aZ:=(pX 256 l 0 (least l) []).1
theorem NG {l:List aP} (h0:l≠ []) (ha:rk l) (hw:∀e∈l,e.word.length≤255∧e.weight<4294967296):Gp [] (pX 256 l 0 (least l) []) l 0 (least l):=
 TZ 256 l 0 [] [] ⟨fun i s h=>by simp at h,qc4,fun i hi=>by simp at hi⟩ h0 ha (fun e _=>⟨rfl,qaB _⟩) fun e he=>⟨by have:=(hw e he).1;omega,zr (hw e he).2⟩
theorem du:aR af 115= .ok 2:=by kernel_rfl
theorem DQ:bS af 115= .ok (.agg ⟨[.slice none 0 0,uN 0]⟩):=by kernel_rfl
variable {m:Nat}
theorem Xa {a:Option Addr} {n:Int}:ct af 115 [(0,.slice a m c),(1,.int .u64 n)]= .ok (.agg ⟨[.slice a m c,.int .u64 n]⟩):=by kernel_rfl
theorem ed:av af 115 (pw b o) 0= .ok (pw b o):=by kernel_rfl
theorem Ht:av af 115 (pw b o) 1= .ok (pw b (o+1)):=by kernel_rfl
theorem pH:av af 246 (pw b o) 0= .ok (pw b o):=by kernel_rfl
theorem qR:av af 246 (pw b o) 1= .ok (pw b (o+1)):=by kernel_rfl
theorem nb:av af 246 (pw b o) 2= .ok (pw b (o+2)):=by kernel_rfl
theorem iI.to {l:List cJ} {x:Value} {e:cJ} (h:iI A l x) (hi:l[i]?=some e):
 ∃p,aU af 184 x (.int .i64 i)= .ok p∧∃q,av af 246 p 2= .ok q∧ag af A.get 3 q= .ok (.int .i64 e.to):=by
 obtain⟨b,h⟩:=h;have hl:i<(l.map b6).length:=by rw [qas];exact(qap.1 hi).1
 exact⟨_,az.idx h mi MB hl,_,nb,az.load (tb:=af) (j:=2) h u3 rfl (show(l.map b6)[i]?=some (b6 e) by rw [qaN,hi];rfl) rfl (by omega)⟩
theorem BJ {D:Mem} {x:Value} {s:aZ} (h:iI D s.arcs x):aW af (D.alloc (aa 186 [.slice none 0 0,.bool false,uN 0])) 186 (pw D.next 0) (.agg ⟨cW x s⟩)= .ok (D.alloc (aa 186 (cW x s))):=by
 obtain⟨b,h⟩:=h;refine bk jD rfl (by simp [cW]) (by simp) ?_;intro v hv;simp only [cW,qaK,qbb,or_false] at hv;rcases hv with rfl|rfl|rfl
 ·exact(az.dk h).2
 ·rfl
 ·rfl
theorem dJ.self (h:dJ A M y):y.cells.toList=[y]∧aJ y=true:=by
 obtain⟨b,rows,h1,-⟩:=h;exact az.dk h1
theorem z_:af.ba 74=some (.slice 5):=zo
theorem wP (l m:List UInt8):cZ (l++m)=cZ l++cZ m:=by simp [cZ]
theorem XC:∃d,af.ba 233=some d∧bQ d=false:=by
 have h:(af.ba 233).map bQ=some false:=by kernel_rfl
 cases hq:af.ba 233 with
 |none=>rw [hq] at h;cases h
 |some d=>rw [hq] at h;exact⟨d,rfl,by simpa using h⟩
theorem Xz:aR af 233= .ok 1:=by kernel_rfl
theorem TH:aR af 74= .ok 1:=by kernel_rfl
theorem Tn:cm af 5= .ok (1,[.int .u8 0]):=by kernel_rfl
theorem Ti:∃i,af.ty.get 5=some i∧i.bytes=1:=by
 have h:((af.ty.get 5).map fun i=>i.bytes)=some 1:=by kernel_rfl
 cases hq:af.ty.get 5 with
 |none=>rw [hq] at h;cases h
 |some i=>rw [hq] at h;exact⟨i,rfl,by simpa using h⟩
theorem YZ (b:Nat):av af 235 (pw b 0) 0= .ok (pw b 0):=by kernel_rfl
theorem Zh (b:Nat):av af 235 (pw b 0) 1= .ok (pw b 1):=by kernel_rfl
def oA (A:Mem) (e:TypeId) (b:Nat) (l:List Value) (x:Value):Prop:=
 (x= .slice none 0 0∧l=[])∨(l≠ []∧x= .slice (some ⟨b,0,none⟩) l.length (fQ l.length 1)∧b<A.next∧dw A e b .row l)
variable {l:List Value}
theorem oA.mO {e:TypeId} {x:Value} (h:oA A e b l x):oe A e b l x:=by
 rcases h with h|⟨_,h1,h2,h3⟩
 ·exact .inl h
 ·exact .inr ⟨.row,_,h1,h2,h3,.inr ⟨rfl,.inl rfl⟩⟩
variable {A':Mem}
theorem oA.same {e:TypeId} {x:Value} (h:oA A e b l x) (hn:A.next≤A'.next) (hg:b<A.next→A'.get b=A.get b):oA A' e b l x:=by
 rcases h with h|⟨h0,h1,h2,h3⟩
 ·exact .inl h
 ·exact .inr ⟨h0,h1,qaD h2 hn,h3.same (hg h2)⟩
variable {tb:bO}
theorem oA.kY {st xt e:TypeId} {xd:TypeDesc} {i:TypeInfo} {z:Value} {nl:List Value} {x:Value} (h:oA A e b l x) (hst:tb.ba st=some (.slice e)) (hxt:tb.ba xt=some xd) (hxd:eP xd=false) (hz:cm tb e= .ok (1,[z])) (hi:tb.ty.get e=some i) (hib:0<i.bytes) (hib':i.bytes≤65536)
 (hl:l.length+m≤16777216) (hm0:0<m) (hy:gP y= .ok m) (hnew:eN A.get 1 m y= .ok nl) (hm:nl.length=m) (h1c:∀v∈nl,aJ v=true):
 ∃x' A',bj tb A st xt x y= .ok (x',A')∧oA A' e A.next (l++nl) x'∧A'.next=A.next+1∧∀z,z≠b→z<A.next→A'.get z=A.get z:=by
 have he1:(1:Nat)<65536:=by omega
 have hlim:(qaq (l.length+m) 16777216&&qaq i.bytes 65536&&qax 0 i.bytes&&qax 0 1&&qax 1 65536)=true:=by
  have a1:qaq (l.length+m) 16777216=true:=qbd (by omega);have a2:qaq i.bytes 65536=true:=qbd hib';have a3:qax 0 i.bytes=true:=by rw [qaH];exact hib
  rw [a1,a2,a3];rfl
 have hone:nl.all aJ=true:=qby.2 h1c;have fin:∀(A0:Mem),A0.next=A.next→(∀y,y≠b→A0.get y=A.get y)→
  oA (A0.alloc (.cells e .row 0 (T.bK .e 0 (l++nl)))) e A.next (l++nl) (.slice (some ⟨A.next,0,none⟩) (l.length+m) (fQ (l.length+m) 1))∧(A0.alloc (.cells e .row 0 (T.bK .e 0 (l++nl)))).next=A.next+1∧∀y,y≠b→y<A.next→(A0.alloc (.cells e .row 0 (T.bK .e 0 (l++nl)))).get y=A.get y:=by
  intro A0 hn hg;refine⟨.inr ⟨fun h0=>by rw [(List.append_eq_nil_iff.1 h0).2] at hm;simp at hm;omega,by rw [qar,hm],by rw [ae];omega,dz ?_⟩,by rw [ae,hn],fun y hy hlt=>?_⟩
  ·rw [←hn];exact ax _ _
  ·rw [aB (by omega),hg y hy]
 rcases h with⟨rfl,rfl⟩|⟨h0,rfl,h2,h3⟩
 ·refine⟨.slice (some ⟨A.next,0,none⟩) (0+m) (fQ (0+m) 1),A.alloc (.cells e .row 0 (T.bK .e 0 ([]++nl))),?_,fin A rfl (fun _ _=>rfl)⟩;unfold bj cO;have hble:qaq (0+m) (bJ 0)=false:=by
   cases hq:qaq (0+m) (bJ 0) with
   |false=>rfl
   |true=>have:=qaG hq;have h9:bJ 0=0:=rfl;omega
  have hx:dN 0=true:=rfl;have hel:c9 A.get 1 0 none= .ok []:=rfl;simp only [qaT] at hlim;simp only [hst,hxt,hxd,cond_false,hz,R.aw,hy,hnew,hble,hi,hlim,cond_true,hel,hx]
 ·obtain⟨cs,hb',hcs⟩:=h3;have hel:c9 A.get 1 l.length (some ⟨b,0,none⟩)= .ok l:=gK ⟨cs,hb',hcs⟩;have hble:qaq (l.length+m) (bJ (fQ l.length 1))=false:=by
   rw [cD he1];cases hq:qaq (l.length+m) l.length with
   |false=>rfl
   |true=>have:=qaG hq;omega
  have hx:dN (fQ l.length 1)=false:=cX _ _;have he:qaw (gO (fQ l.length 1)) 1=true:=by rw [c7 he1];rfl
  have hfz:(qaq 0 (0+l.length*1)&&(qaw e e&&qax 0 9223372036854775808))=true:=by
   have h0:qax 0 9223372036854775808=true:=by rw [qaH];omega
   rw [h0];simp
  refine⟨_,(A.set b .dead).alloc (.cells e .row 0 (T.bK .e 0 (l++nl))),?_,fin (A.set b .dead) (aO _ _ _) (fun y hy=>by rw [aC,if_neg hy])⟩;unfold bj cO;simp only [hst,hxt,hxd,cond_false,hz,R.aw,hy,hnew,hble,hi,hlim,cond_true,hel,hx,he,hone,qci,hb',hfz]
def Bd (bb b:Nat) (bs:List UInt8) (D:Mem):Prop:=∃pa x,dw D 235 bb (.var 2) [pa,x]∧(pa= .pointer none∨pa= .pointer (some ⟨bb,0,none⟩))∧oA D 5 b (cZ bs) x∧b≠bb∧bb<D.next
section
variable {ih:Code→St→R (Ex×St)} {dst:Option Tmp} {ty:TypeId} {pos:String} {after:Array Edge} {g:Option (Nat×Bool)} {s:St} {k:St→R (Ex×St)}
theorem Zy (x:Operand):dL af ih {dst,op:=.convert 233 346 x,type:=ty,pos,after,guard:=g} s k=(ev s.t x).bind fun x=>(df af s.m.get 233 346 x).bind fun v=>bR s dst v k:=by
 rw [nq (hc:=by kernel_rfl) (hi:=rfl)];simp only [nX,R.a7]
theorem Zz (x:Operand):dL af ih {dst,op:=.convert 346 233 x,type:=ty,pos,after,guard:=g} s k=(ev s.t x).bind fun x=>(df af s.m.get 346 233 x).bind fun v=>bR s dst v k:=by
 rw [nq (hc:=by kernel_rfl) (hi:=rfl)];simp only [nX,R.a7]
end
theorem Zl {ih:Code→St→R (Ex×St)} {x:Value}:bA af ih (.fn 244 [x]) A= .ok (.val x A):=by
 have h1:af.fn.get 244=some Tryz.f244:=aq Tryz.func244;have h2:Tryz.f244.body=none:=by kernel_rfl
 have h3:af.ex.get 244=some 1:=by kernel_rfl
 have h4:(Tryz.f244.name== "runtime.NumGoroutine")=false:=by kernel_rfl
 unfold bA;simp only [h1,h2,h3,h4,cond_false];rfl
variable {bb:Nat}
theorem Y_ {D:Mem} (h:dw D 235 bb (.var 2) l):df af D.get 233 346 (pw bb 0)= .ok (pw bb 0):=by
 obtain⟨c,e,-⟩:=h;have u1:af.ba 233=some (.pointer 235):=by kernel_rfl
 have u2:af.ba 346=some .unsafePointer:=by kernel_rfl
 have u3:aR af 235= .ok 2:=by kernel_rfl
 unfold df;simp only [u1,u2,e,u3,R.aw];rfl
theorem Y' {D:Mem} (h:dw D 235 bb (.var 2) l):df af D.get 346 233 (pw bb 0)= .ok (pw bb 0):=by
 obtain⟨c,e,-⟩:=h;have u1:af.ba 233=some (.pointer 235):=by kernel_rfl
 have u2:af.ba 346=some .unsafePointer:=by kernel_rfl
 have u3:aR af 235= .ok 2:=by kernel_rfl
 have u4:liesAt af.P af.P.depth 235 (2/af.P.cellsOf 235) 0 235 1=true:=by kernel_rfl
 unfold df;simp only [u1,u2,e,u3,R.aw,u4,cond_true]
noncomputable def KR:Code:=qek.body.getD .skip
theorem Rg:qek.body=some (.seq (sub KR [0]) (sub KR [1])):=by kernel_rfl
variable {bs:List UInt8}
theorem yP {D:Mem} (h:Bd bb b bs D):∃D',bg af 203 [pw bb 0] D bL D'∧Bd bb b bs D'∧D'.next=D.next∧∀y,y≠bb→D'.get y=D.get y:=by
 obtain⟨pa,x,hv,hpa,hs,hbb,hn⟩:=h;obtain⟨d28,w27,w28⟩:=XC;have hl0:ag af D.get 233 (pw bb 0)= .ok pa:=aQ w27 w28 hv rfl;obtain⟨v,D',hg,rfl,h1⟩:∃v D',bg af 203 [pw bb 0] D v D'∧v=bL∧(Bd bb b bs D'∧D'.next=D.next∧∀y,y≠bb→D'.get y=D.get y):=by
  refine eL (aq Tryz.func203) Rg (by rw [Tryz.ntmps203];simp) (by kernel_rfl) (by kernel_rfl) ?_;apply W.seq;rcases hpa with rfl|rfl
  ·have he:vY af D.get .eql 233 (.tmp 5) (.const (.pointer none)) (.pointer none) (.pointer none)= .ok (.bool true):=by kernel_rfl
   obtain⟨D1,hst,hv1,hn1,hg1⟩:=aL (tb:=af) (t:=233) (o:=0) (v:=pw bb 0) Xz hv (by simp) rfl rfl;apply W.run 20
   ·intro M;simp (disch:=first|decide+kernel|omega) only [KR,qek,Aq,qal,ak,aF,YZ,hl0,bW,he];rfl
   apply W.run 20
   ·intro M;simp (disch:=first|decide+kernel|omega) only [KR,qek,Aq,qal,ak,aF,YZ,Zy,Zz,Y_ hv,Y' hv,Zl,hst];rfl
   refine⟨.inl rfl,_,[],rfl,?_,rfl,⟨_,x,hv1,.inr rfl,?_,hbb,by rw [hn1];exact hn⟩,hn1,hg1⟩
   ·simp only [qek,eV]
   ·exact hs.same (by rw [hn1];exact qao _) (fun _=>hg1 b hbb)
  ·have he:vY af D.get .eql 233 (.tmp 5) (.const (.pointer none)) (pw bb 0) (.pointer none)= .ok (.bool false):=by kernel_rfl
   have he2:vY af D.get .neq 233 (.tmp 17) (.tmp 18) (pw bb 0) (pw bb 0)= .ok (.bool false):=by
    have u1:af.ba 233=some (.pointer 235):=by kernel_rfl
    have hb:qaw bb bb=true:=qcJ bb;have u2:aR af 235= .ok 2:=by kernel_rfl
    have u3:Am.ptrEq D.get (some ⟨bb,0,none⟩) (some ⟨bb,0,none⟩)= .ok true:=by
     unfold Am.ptrEq;simp only [hb,cond_true];rfl
    unfold vY eC;simp only [uv,cond_true,u1,u2,u3,R.aw];rfl
   apply W.run 20
   ·intro M;simp (disch:=first|decide+kernel|omega) only [KR,qek,Aq,qal,ak,aF,YZ,hl0,bW,he];rfl
   apply W.run 20
   ·intro M;simp (disch:=first|decide+kernel|omega) only [KR,qek,Aq,qal,ak,aF,YZ,hl0,rZ,he2];rfl
   refine⟨.inl rfl,_,[],rfl,?_,rfl,⟨_,x,hv,.inr rfl,hs,hbb,hn⟩,rfl,fun _ _=>rfl⟩;simp only [qek,eV]
 exact⟨D',hg,h1⟩
theorem XA (a:Int):a6 af 74 1 [(0,.int .u8 a)]= .ok (aa 5 [.int .u8 a],.mO 1 2):=by kernel_rfl
structure Grow (bb b:Nat) (A:Mem) (b':Nat) (A':Mem):Prop where
 n:A.next≤A'.next
 r:A.next≤b'
 g:∀y,y<A.next→y≠bb→y≠b→A'.get y=A.get y
variable {b':Nat} {B C:Mem}
theorem Grow.trans {b'':Nat} (h:Grow bb b A b' B) (k:Grow bb b' B b'' C):Grow bb b A b'' C:=⟨qaV h.n k.n,by have:=h.n;have:=k.r;omega,fun y hy h1 h2=>by rw [k.g y (by have:=h.n;omega) h1 (by have:=h.r;omega),h.g y hy h1 h2]⟩
theorem Nb (c:UInt8):cZ [c]=[bN c.toNat]:=rfl
variable {x':Value}
theorem M5 {D1 D2:Mem} {pa x:Value} (hv:dw D1 235 bb (.var 2) [pa,x]) (hpa:pa= .pointer none∨pa=pw bb 0) (hb:bb<D1.next∧D1.next≤b') (h0:b≠bb)
 (hs:oA D2 5 b' (cZ bs) x') (hn2:D1.next≤D2.next) (hg:∀y,y<D1.next→y≠b→D2.get y=D1.get y):∃D3,aW af D2 74 (pw bb 1) x'= .ok D3∧Bd bb b' bs D3∧Grow bb b D1 b' D3:=by
 obtain⟨D3,hst,hv3,hn3,hg3⟩:=aL (tb:=af) (t:=74) (o:=1) (v:=x') TH (hv.same (hg bb hb.1 (Ne.symm h0))) (by simp) hs.mO.cells hs.mO.one;exact⟨D3,hst,⟨pa,x',hv3,hpa,hs.same (by rw [hn3];exact qao _) (fun _=>hg3 b' (by omega)),by omega,by omega⟩,⟨by omega,hb.2,fun y hy h1 h2=>by rw [hg3 y h1,hg y hy h2]⟩⟩
noncomputable def zP:Code:=qel.body.getD .skip
theorem Rm:qel.body=some (.seq (sub zP [0]) (.seq (sub zP [1,0]) (.seq (sub zP [1,1,0]) (.seq (sub zP [1,1,1,0]) (sub zP [1,1,1,1]))))):=by kernel_rfl
theorem BF {D:Mem} {c:UInt8} (h:Bd bb b bs D) (hl:bs.length<16000000):∃D' b',bg af 225 [pw bb 0,bN c.toNat] D .nilIface D'∧Bd bb b' (bs++[c]) D'∧Grow bb b D b' D':=by
 obtain⟨D1,⟨g,hg⟩,⟨pa,x,hv,hpa,hs,hbb,hn⟩,hn1,hg1⟩:=yP h;have hld:ag af D1.get 74 (pw bb 1)= .ok x:=aQ z_ rfl hv rfl;obtain⟨ti,ht1,ht2⟩:=Ti;have hn2:(D1.alloc (aa 5 [bN c.toNat])).next=D1.next+1:=ae _ _
 have hs2:oA (D1.alloc (aa 5 [bN c.toNat])) 5 b (cZ bs) x:=hs.same (by omega) (fun hb=>aB (by omega));obtain⟨x',D3,happ,hs3,hn3,hf3⟩:=hs2.kY (tb:=af) (st:=74) (xt:=74) (m:=1) (nl:=[bN c.toNat]) (y:=.slice (some ⟨D1.next,0,none⟩) 1 2) z_ z_ rfl Tn ht1 (by omega) (by omega) (by rw [cI];omega) (by omega) rfl
  (gK (l:=[bN c.toNat]) (dz (e:=5) (k:=.var 1) (ax D1 _))) rfl (fun v hv=>by
  rw [qaY.1 hv];rfl)
 have hs4:oA D3 5 (D1.alloc (aa 5 [bN c.toNat])).next (cZ (bs++[c])) x':=by rw [wP,Nb];exact hs3
 obtain⟨D4,hst,hB,hK⟩:=M5 hv hpa ⟨hn,by omega⟩ hbb hs4 (by omega) (fun y hy hb=>by rw [hf3 y hb (by omega),aB (by omega)]);obtain⟨v,D',ha,rfl,rfl⟩:∃v D',bg af 225 [pw bb 0,bN c.toNat] D v D'∧v= .nilIface∧D'=D4:=by
  refine eL (aq Tryz.func225) Rm (by rw [Tryz.ntmps225];simp) (by kernel_rfl) (by kernel_rfl) ?_;apply W.q
  ·intro M;simp (disch:=first|decide+kernel|omega) only [zP,qel,Aq,qal,iV];rfl
  apply W.qG (g)
  ·intro M hM;simp (disch:=first|decide+kernel|omega) only [zP,qel,Aq,qal,hg];rfl
  apply W.q
  ·intro M;simp (disch:=first|decide+kernel|omega) only [zP,qel,Aq,qal,ak,aF,Zh,hld,XA,happ,hst];rfl
  apply W.q
  ·intro M;simp (disch:=first|decide+kernel|omega) only [zP,qel,Aq,qal,iV];rfl
  apply W.run 20
  ·intro M;simp (disch:=first|decide+kernel|omega) only [zP,qel,Aq,qal,iV];rfl
  refine⟨.inr rfl,_,[.nilIface],rfl,?_,rfl,rfl⟩;simp only [qel,eV,jk,T.aH,qal,if_true,if_false,fe,R.aw]
 exact⟨_,_,ha,hB,⟨by rw [←hn1];exact hK.n,by rw [←hn1];exact hK.r,fun y hy hb h2=>by rw [hK.g y (by omega) hb h2,hg1 y hb]⟩⟩
noncomputable def zN:Code:=qei.body.getD .skip
theorem Q2:qei.body=some (.seq (sub zN [0]) (.seq (sub zN [1,0]) (.seq (sub zN [1,1,0]) (.seq (sub zN [1,1,1,0]) (sub zN [1,1,1,1]))))):=by kernel_rfl
theorem GF {l:List UInt8}:eN A.get 1 l.length (aj l)= .ok (cZ l):=by
 show R.ok (qew eo (l.take l.length))=_;rw [qaR];rfl
theorem TD (l:List UInt8):gP (aj l)= .ok l.length:=rfl
theorem PO {D:Mem} {cs:List UInt8} (h:Bd bb b bs D) (h0:0<cs.length) (hl:bs.length+cs.length<16000000):∃v D' b',bg af 152 [pw bb 0,aj cs] D v D'∧Bd bb b' (bs++cs) D'∧Grow bb b D b' D':=by
 obtain⟨D1,⟨g,hg⟩,⟨pa,x,hv,hpa,hs,hbb,hn⟩,hn1,hg1⟩:=yP h;have hld:ag af D1.get 74 (pw bb 1)= .ok x:=aQ z_ rfl hv rfl;have ll:=cP (tb:=af) (t:=9) (l:=cs) u9;obtain⟨ti,ht1,ht2⟩:=Ti;obtain⟨x',D3,happ,hs3,hn3,hf3⟩:=hs.kY (tb:=af) (st:=74) (xt:=9) (xd:=.string) (m:=cs.length) (nl:=cZ cs) (y:=aj cs) z_ u9 rfl Tn ht1 (by omega) (by omega) (by rw [cI];omega) h0 (TD cs) GF (cI cs) (fun v hv=>by
  unfold cZ at hv;obtain⟨c,-,rfl⟩:=qa3.1 hv;rfl)
 have hs4:oA D3 5 D1.next (cZ (bs++cs)) x':=by rw [wP];exact hs3
 obtain⟨D4,hst,hB,hK⟩:=M5 hv hpa ⟨hn,qao _⟩ hbb hs4 (by omega) (fun y hy hb=>hf3 y hb (by omega));obtain⟨v,D',ha,rfl⟩:∃v D',bg af 152 [pw bb 0,aj cs] D v D'∧D'=D4:=by
  refine eL (aq Tryz.func152) Q2 (by rw [Tryz.ntmps152];simp) (by kernel_rfl) (by kernel_rfl) ?_;apply W.q
  ·intro M;simp (disch:=first|decide+kernel|omega) only [zN,qei,Aq,qal,iV];rfl
  apply W.qG (g)
  ·intro M hM;simp (disch:=first|decide+kernel|omega) only [zN,qei,Aq,qal,hg];rfl
  apply W.q
  ·intro M;simp (disch:=first|decide+kernel|omega) only [zN,qei,Aq,qal,ak,aF,Zh,hld,happ,hst];rfl
  apply W.q
  ·intro M;simp (disch:=first|decide+kernel|omega) only [zN,qei,Aq,qal,iV,ll];rfl
  apply W.run 20
  ·intro M;simp (disch:=first|decide+kernel|omega) only [zN,qei,Aq,qal];rfl
  refine⟨.inr rfl,_,[iN cs.length,.nilIface],rfl,?_,rfl⟩;simp only [qei,eV,jk,T.aH,qal,if_true,if_false,fe,R.aw]
 exact⟨_,_,_,ha,hB,⟨by rw [←hn1];exact hK.n,by rw [←hn1];exact hK.r,fun y hy hb h2=>by rw [hK.g y (by omega) hb h2,hg1 y hb]⟩⟩
noncomputable def KO:Code:=qeN.body.getD .skip
theorem Q3:qeN.body=some (.seq (sub KO [0]) (.seq (sub KO [1,0]) (sub KO [1,1]))):=by kernel_rfl
section
variable {ih:Code→St→R (Ex×St)} {dst:Option Tmp} {ty:TypeId} {pos:String} {after:Array Edge} {g:Option (Nat×Bool)} {s:St} {k:St→R (Ex×St)}
theorem Z' (x:Operand):dL af ih {dst,op:=.call {callee:=.builtin .unsafeSliceData,args:= #[x],argTypes:= #[74]},type:=ty,pos,after,guard:=g} s k=(ev s.t x).bind fun v=>(aN af .unsafeSliceData [74] [v]).bind fun v=>bR s dst v k:=by
 have hc:cls af (.call {callee:=.builtin .unsafeSliceData,args:= #[x],argTypes:= #[74]})= .P:=by kernel_rfl
 unfold dL;simp only [iz,hc,tQ,pC,R.a7,R.aw]
theorem qaa (x y:Operand):dL af ih {dst,op:=.call {callee:=.builtin .unsafeString,args:= #[x,y],argTypes:= #[288,3]},type:=ty,pos,after,guard:=g} s k=(ev s.t x).bind fun v=>(ev s.t y).bind fun n=>(zq af s.m 288 v n).bind fun r=>bR {s with m:=r.2} dst r.1 k:=by
 have hc:cls af (.call {callee:=.builtin .unsafeString,args:= #[x,y],argTypes:= #[288,3]})= .L:=by kernel_rfl
 unfold dL;simp only [iz,hc,HI,pC,R.a7,R.aw,gJ]
end
theorem Cn (l:List UInt8):bytesOf (cZ l)= .ok l:=iQ l
theorem Qz {D:Mem} (h:dw D 5 b .row (cZ bs)) (h0:0<bs.length) (hl:bs.length<16000000):∃D',zq af D 288 (pw b 0) (iN bs.length)= .ok (aj bs,D')∧D'.next=D.next∧∀y,y≠b→D'.get y=D.get y:=by
 obtain⟨c,h1,h2⟩:=h;have u1:af.ba 288=some (.pointer 5):=by kernel_rfl
 have u2:aR af 5= .ok 1:=by kernel_rfl
 have hn:kU (iN bs.length)= .ok bs.length:=rfl;have hg:c.iu bs.length 0=some (cZ bs):=fq c bs.length 0 (cZ bs) (cI bs) (fun j hj=>by rw [qa1];exact h2 j (by rw [cI];exact hj));have hb:(qaw 5 5&&qaw 1 1&&qax 0 bs.length&&qaq bs.length 16777216&&(qax 0 9223372036854775808&&qax (0+bs.length) 9223372036854775808))=true:=by
  have a1:qax 0 bs.length=true:=by rw [qaH];exact h0
  have a2:qaq bs.length 16777216=true:=qbd (by omega);have a3:qax (0+bs.length) 9223372036854775808=true:=by rw [qaH];omega
  rw [a1,a2,a3];rfl
 refine⟨D.set b (.cells 5 .row (bif qaq 0 (0+bs.length) then 0+bs.length else 0) c),?_,aO _ _ _,fun y hy=>by rw [aC,if_neg hy]⟩;unfold zq;simp only [hn,R.aw,u1,h1,u5,u2,hb,cond_true,hg,Cn]
theorem FC {D:Mem} (h:Bd bb b bs D) (h0:0<bs.length) (hl:bs.length<16000000):∃D',bg af 153 [pw bb 0] D (aj bs) D'∧D'.next=D.next∧∀y,y≠b→D'.get y=D.get y:=by
 obtain⟨pa,x,hv,hpa,hs,hbb,hn⟩:=h;have hld:ag af D.get 74 (pw bb 1)= .ok x:=aQ z_ rfl hv rfl;rcases hs with⟨rfl,hnil⟩|⟨hne,rfl,hlt,hV⟩
 ·have:bs.length=0:=by rw [←cI,hnil];rfl
  omega
 obtain⟨D1,hu,hn1,hg1⟩:=Qz hV h0 hl;rw [cI] at hld hv;have hsd:aN af .unsafeSliceData [74] [.slice (some ⟨b,0,none⟩) bs.length (fQ bs.length 1)]= .ok (pw b 0):=by
  have hc:qax 0 (bJ (fQ bs.length 1))=true:=by rw [cD (by omega),qaH];exact h0
  unfold aN;simp only [hc,cond_true]
 have hln:aN af .len [74] [.slice (some ⟨b,0,none⟩) bs.length (fQ bs.length 1)]= .ok (iN bs.length):=eu z_;obtain⟨v,D',ha,rfl,rfl⟩:∃v D',bg af 153 [pw bb 0] D v D'∧v=aj bs∧D'=D1:=by
  refine eL (aq Tryz.func153) Q3 (by rw [Tryz.ntmps153];simp) (by kernel_rfl) (by kernel_rfl) ?_;apply W.q
  ·intro M;simp (disch:=first|decide+kernel|omega) only [KO,qeN,Aq,qal];rfl
  apply W.q
  ·intro M;simp (disch:=first|decide+kernel|omega) only [KO,qeN,Aq,qal,ak,aF,Zh,hld,Z',qaa,hsd,hln,hu];rfl
  apply W.run 20
  ·intro M;simp (disch:=first|decide+kernel|omega) only [KO,qeN,Aq,qal];rfl
  refine⟨.inr rfl,_,[aj bs],rfl,?_,rfl,rfl⟩;simp only [qeN,eV,jk,T.aH,qal,if_true,if_false,fe,R.aw]
 exact⟨_,ha,hn1,hg1⟩
theorem Fu (t:T Value) (g:Nat→Option Ob) (a b:TypeId) (x:Operand):nX af t g (.convert a b x)=(ev t x).bind fun x=>df af g a b x:=rfl
theorem uL (g:Nat→Option Ob) (j:Nat) (t:T Value) (a b:TypeId) (x:Tmp) (v:Value):eg af g ⟨j,t,.convert a b (.tmp x),v⟩=Ds ((ev t (.tmp x)).bind fun x=>df af g a b x) v:=rfl
theorem Eh {c:Int}:a6 af 74 1 [(0,.int .u8 c)]= .ok (aa 5 [.int .u8 c],.mO 1 2):=by kernel_rfl
variable {dst:Option Tmp}
theorem Sc {ih:Code→St→R (Ex×St)} {ty:TypeId} {pos:String} {after:Array Edge} {g:Option (Nat×Bool)} {s:St} {k:St→R (Ex×St)} (x:Operand):dL af ih {dst,op:=.convert 74 9 x,type:=ty,pos,after,guard:=g} s k=(ev s.t x).bind fun x=>(df af s.m.get 74 9 x).bind fun v=>bR s dst v k:=by
 rw [nq (hc:=by kernel_rfl) (hi:=rfl)];simp only [nX,R.a7]
theorem Td {D:Mem} {c:UInt8}:df af (D.alloc (aa 5 [bN c.toNat])).get 74 9 (.slice (some ⟨D.next,0,none⟩) 1 2)= .ok (aj [c]):=by
 have h:=sQ (DB (D:=D) c.toNat_lt);rw [UInt8.ofNat_toNat] at h;exact h
theorem XM (t:T Value):ev t (.const (.string ⟨#[67,83,1]⟩))= .ok (aj [67,83,1]):=rfl
theorem cat {a b:List UInt8} (h:(a++b).length<1000000):fb .add a b= .ok (aj (a++b)):=sU (by rw [qar] at h;omega)
theorem Mn {s:aZ} (h:M[i]?=some s):jC 0 (M.take (i+1))=jC 0 (M.take i)++Gs i s:=by
 obtain⟨hi,rfl⟩:=qap.1 h;rw [qaC hi,BK,qaE,qa1,qbr (by omega)]
theorem F9:∀(M:List aZ) (j i:Nat),(jC j (M.take i)).length≤(jC j M).length
 | [],j,i=>by rw [List.take_nil];exact qao _
 |s::M,j,0=>by simp [jC]
 |s::M,j,i+1=>by
  rw [qc0,jC,jC,qar,qar];have:=F9 M (j+1) i;omega
theorem EL {i:Nat}:∀(l:List cJ) (j:Nat),((l.take j).flatMap (ky i)).length≤(l.flatMap (ky i)).length
 | [],j=>by rw [List.take_nil];exact qao _
 |a::l,0=>by simp
 |a::l,j+1=>by
  rw [qc0,qbl,qbl,qar,qar];have:=EL (i:=i) l j;omega
variable {j:Nat}
theorem K6 {l:List cJ} {a:cJ} (h:l[j]?=some a):(l.take (j+1)).flatMap (ky i)=(l.take j).flatMap (ky i)++ky i a:=by
 obtain⟨hj,rfl⟩:=qap.1 h;rw [qaC hj,qcY];simp
def gq (l:List aP):List UInt8:=ib l.length (dO l) (least l)
theorem WH:bS af 61= .ok (.agg ⟨[.string .empty,.int .u32 0,.bool false]⟩):=by kernel_rfl
def MH (A:Mem) (b:Nat) (l:List aP) (x:Value):Prop:=az A 61 3 b (l.map a_) x
theorem MH.kp {l:List aP} {x:Value} (h:MH A b l x) (k:Kp A A'):MH A' b l x:=az.same h k.1 (k.2 b)
def p' (A:Mem) (ls:List UInt8) (x:Value):Prop:=
 (x= .slice none 0 0∧ls=[])∨(x=Ew∧ls=[])∨∃q off cp,x= .slice (some ⟨q,off,none⟩) ls.length cp∧(ls=[]∨(q<A.next∧∃t kd fz c,A.get q=some (.cells t kd (fz+1) c)∧∀(i:Nat) (b:UInt8),ls[i]?=some b→c.get (off+i)=some (.int .u8 (b.toNat:Nat))))
theorem VY:aR af 5= .ok 1:=by kernel_rfl
def MJ (A:Mem) (z:Nat):Prop:=z<A.next∧∃t k f c,A.get z=some (.cells t k (f+1) c)
def Uc (A A':Mem):Prop:=A.next≤A'.next∧∀z,MJ A z→A'.get z=A.get z
theorem Kp.f (k:Kp A A'):Uc A A':=⟨k.1,fun z h=>k.2 z h.1⟩
theorem p'.kf {ls:List UInt8} {x:Value} (h:p' A ls x) (k:Uc A A'):p' A' ls x:=by
 rcases h with h|h|⟨q,off,cp,h1,h2⟩
 ·exact .inl h
 ·exact .inr (.inl h)
 ·refine .inr (.inr ⟨q,off,cp,h1,?_⟩);rcases h2 with h2|⟨h2,t,kd,fz,c,h3,h4⟩
  ·exact .inl h2
  ·exact .inr ⟨qaD h2 k.1,t,kd,fz,c,by rw [k.2 _ ⟨h2,t,kd,fz,c,h3⟩];exact h3,h4⟩
theorem p'.kp {ls:List UInt8} {x:Value} (h:p' A ls x) (k:Kp A A'):p' A' ls x:=h.kf k.f
theorem p'.len {ls:List UInt8} {x:Value} (h:p' A ls x):aN af .len [74] [x]= .ok (iN ls.length):=by
 rcases h with⟨rfl,rfl⟩|⟨rfl,rfl⟩|⟨q,off,cp,rfl,-⟩
 ·exact eu z_
 ·kernel_rfl
 ·exact eu z_
theorem p'.at {ls:List UInt8} {x:Value} (h:p' A ls x) {b:UInt8} (hi:ls[i]?=some b):
 ∃p,aU af 74 x (.int .i64 i)= .ok (.pointer (some p))∧ag af A.get 5 (.pointer (some p))= .ok (bN b.toNat):=by
 rcases h with⟨-,rfl⟩|⟨-,rfl⟩|⟨q,off,cp,rfl,h2⟩
 ·simp at hi
 ·simp at hi
 ·rcases h2 with rfl|⟨h2,t,kd,fz,c,h3,h4⟩
  ·simp at hi
  ·have hlt:=(qap.1 hi).1;have hb:qax i ls.length=true:=by rw [qaH];exact hlt
   have hn:kU (.int .i64 i)= .ok i:=rfl;refine⟨⟨q,off+i*1,none⟩,?_,?_⟩
   ·unfold aU;simp only [hn,z_,hb,cond_true,VY,R.aw,h_]
   ·unfold ag;have hg:=h4 i b hi;have hag:bQ (.int .u8)=false:=rfl;simp only [h3,u5,hag,cond_false,qb2,hg]
def oU (c:UInt8):UInt8:=if c.toNat % 8<7 then qbD (97+c.toNat % 8 % 3) else c
def pk (ls:List UInt8):List UInt8:=if(ls.take 9).map oU=[] then [97] else(ls.take 9).map oU
theorem OI (c:UInt8):(oU c).toNat=if c.toNat % 8<7 then 97+c.toNat % 8 % 3 else c.toNat:=by
 unfold oU;split
 ·rw [qep];omega
 ·rfl
theorem Sg {q:Nat} {b:UInt8} (h:A.get q=some (aa 5 [bN b.toNat])):df af A.get 74 9 (.slice (some ⟨q,0,none⟩) 1 2)= .ok (aj [b]):=by
 have hb:YX A q 5 (.var 1) [b]:=⟨_,h,fun i hi=>by
  have hi0:i=0:=by simp at hi;exact hi
  subst hi0;rfl⟩
 exact zh (l:=[b]) z_ u9 u5 hb
theorem Lz {a:Nat} (h:a+b<256):aM .add .u8 (a:Int) (b:Int)= .ok (bN (a+b)):=by
 show R.ok (Value.int .u8 (dm .u8 ((a+b:Nat):Int)))=_;rw [pn,qbL h]
theorem CR:av af 76 (pw b o) 0= .ok (pw b o):=by kernel_rfl
theorem UR:av af 76 (pw b o) 1= .ok (pw b (o+1)):=by kernel_rfl
theorem US:av af 76 (pw b o) 2= .ok (pw b (o+2)):=by kernel_rfl
noncomputable def jw:Code:=qb7.body.getD .skip
noncomputable def d_:Code:=sub jw [1,1,0,1,0,0]
theorem Q5:qb7.body=some (.seq (sub jw [0]) (.seq (sub jw [1,0]) (.seq (.seq (sub jw [1,1,0,0]) (.block 0 (.loop d_))) (.seq (sub jw [1,1,1,0]) (.seq (sub jw [1,1,1,1,0]) (sub jw [1,1,1,1,1])))))):=by kernel_rfl
theorem Ap:d_= .seq (.seq (sub d_ [0,0]) (sub d_ [0,1])) (.seq (.block 1 (.seq (sub d_ [1,0,0,0]) (.seq (sub d_ [1,0,0,1,0]) (sub d_ [1,0,0,1,1])))) (sub d_ [1,1])):=by kernel_rfl
def NK (q:Nat) (w:List UInt8) (i:Nat):List (Nat×Value):=[(1,.pointer (some ⟨q,0,none⟩)),(2,.pointer (some ⟨q+1,0,none⟩)),(3,aj w),(4,.int .i64 i)]
variable {w:List UInt8} {t:T Value}
theorem Ez {q:Nat} {ls:List UInt8} {xl:Value} {K:Ex→St→Prop} {wt:Int} {g:Bool} (hx:p' C ls xl) (hv:dw C 76 q (.var 3) [xl,.int .u32 wt,.bool g]) {b:UInt8} (hb:ls[i]?=some b) (hw:w.length=i) (hi:i<9) (ht:Sl t (NK q w i))
 (hK:∀t',Sl t' (NK q (w++[oU b]) i)→K .nrm ⟨t',43,[],C.alloc (aa 5 [bN ((oU b).toNat)]),none⟩):
 W af (.seq (sub d_ [1,0,0,0]) (.seq (sub d_ [1,0,0,1,0]) (sub d_ [1,0,0,1,1]))) ⟨t,43,[],C,none⟩ K:=by
 obtain⟨g1,g2,g3,g4,-⟩:=ht;obtain⟨p,a1,a2⟩:=hx.at hb;have hl:ag af C.get 74 (pw q 0)= .ok xl:=aQ z_ rfl hv rfl;have hlt:=Ck b;have hnat:=OI b;have hadd:=sU (a:=w) (b:=[oU b]) (by rw [hw];show i+1<_;omega);have hs:=Sg (ax C (aa 5 [bN ((oU b).toNat)]));apply W.q
 ·intro M;simp (disch:=first|decide+kernel|omega) only [d_,jw,qb7,Aq,qal,g1,g4,CR,hl,a1,a2];rfl
 apply W.seq;by_cases h7:b.toNat % 8<7
 ·rw [if_pos h7] at hnat;apply W.run 20
  ·intro M;simp (disch:=first|decide+kernel|omega) only [d_,jw,qb7,Aq,qal,h7,Lz];rfl
  show W af _ _ _;rw [←hnat];apply W.run 20
  ·intro M;simp (disch:=first|decide+kernel|omega) only [d_,jw,qb7,Aq,qal,g3,Eh,wK,lL _ _ _ _ _ _ _ _ _ _ z_ u9,hs,hadd];rfl
  refine hK _ ?_;unfold NK;simp only [Sq,qal,qam,g1,g2,g4]
 ·rw [if_neg h7] at hnat;apply W.run 20
  ·intro M;simp (disch:=first|decide+kernel|omega) only [d_,jw,qb7,Aq,qal,h7];rfl
  show W af _ _ _;rw [←hnat];apply W.run 20
  ·intro M;simp (disch:=first|decide+kernel|omega) only [d_,jw,qb7,Aq,qal,g3,Eh,wK,lL _ _ _ _ _ _ _ _ _ _ z_ u9,hs,hadd];rfl
  refine hK _ ?_;unfold NK;simp only [Sq,qal,qam,g1,g2,g4]
theorem J8:aR af 76= .ok 3:=by kernel_rfl
theorem z6 {ls:List UInt8} {b:UInt8} (h:ls[i]?=some b):(ls.take (i+1)).map oU=(ls.take i).map oU++[oU b]:=by
 obtain⟨hlt,rfl⟩:=qap.1 h;rw [qaC hlt,qbe];rfl
def zR (ls:List UInt8) (wt:Nat) (g:Bool):aP:=bare ⟨pk ls,wt,g⟩
theorem Xq {wt:Nat} {g:Bool}:ct af 61 [(0,aj w),(1,.int .u32 wt),(2,.bool g)]= .ok (.agg ⟨a_ ⟨w,wt,g⟩⟩):=by kernel_rfl
theorem LY {ls:List UInt8} {xl:Value} {wt:Nat} {g:Bool} (hx:p' A ls xl):
 ∃A',bg af 28 [.agg ⟨[xl,.int .u32 wt,.bool g]⟩] A (.agg ⟨a_ (zR ls wt g)⟩) A'∧Kp A A':=by
 obtain⟨v,A',hg,rfl,hk⟩:∃v A',bg af 28 [.agg ⟨[xl,.int .u32 wt,.bool g]⟩] A v A'∧v= .agg ⟨a_ (zR ls wt g)⟩∧Kp A A':=by
  refine eL (aq Tryz.func28) Q5 (by rw [Tryz.ntmps28];simp) (by kernel_rfl) (by kernel_rfl) ?_;obtain⟨d67,hd1,hd2⟩:=a8 (t:=61) (p:=true) (by kernel_rfl);have hv0:dw ((A.alloc (aa 76 [xl,.int .u32 wt,.bool g])).alloc (aa 61 [.string .empty,.int .u32 0,.bool false])) 76 A.next (.var 3) [xl,.int .u32 wt,.bool g]:=(dz (ax _ _)).same (aB (by rw [ae];omega))
  have hz0:dw ((A.alloc (aa 76 [xl,.int .u32 wt,.bool g])).alloc (aa 61 [.string .empty,.int .u32 0,.bool false])) 61 (A.next+1) (.var 3) [.string .empty,.int .u32 0,.bool false]:=dz (ax _ _);have hk0:Kp A ((A.alloc (aa 76 [xl,.int .u32 wt,.bool g])).alloc (aa 61 [.string .empty,.int .u32 0,.bool false])):=(Kp.alloc _ _).trans (Kp.alloc _ _);have hn0:((A.alloc (aa 76 [xl,.int .u32 wt,.bool g])).alloc (aa 61 [.string .empty,.int .u32 0,.bool false])).next=A.next+2:=rfl
  apply W.q
  ·intro M;simp (disch:=first|decide+kernel|omega) only [jw,qb7,Aq,qal,WH,au,ae];rfl
  generalize (A.alloc (aa 76 [xl,.int .u32 wt,.bool g])).alloc (aa 61 [.string .empty,.int .u32 0,.bool false])=B at hv0 hz0 hk0 hn0;apply W.q
  ·intro M;simp (disch:=first|decide+kernel|omega) only [jw,qb7,Aq,qal];rfl
  apply W.seq;apply W.q
  ·intro M;simp (disch:=first|decide+kernel|omega) only [jw,qb7,Aq,qal];rfl
  apply W.block;have hmin:min ls.length 9≤ls.length∧min ls.length 9≤9:=⟨qef _ _,qdu _ _⟩;have hmin2:min ls.length 9=ls.length∨min ls.length 9=9:=by omega
  refine W.up (min ls.length 9) (fun i t C=>Kp B C∧Sl t (NK A.next ((ls.take i).map oU) i)) ?_ (qaB _) ⟨Kp.refl _,?_⟩
  ·rintro i t C hi ⟨hk,g1,g2,g3,g4,-⟩;have hxC:=hx.kp (hk0.trans hk);have hvC:dw C 76 A.next (.var 3) [xl,.int .u32 wt,.bool g]:=hv0.same (hk.2 _ (by omega))
   have hl:ag af C.get 74 (pw A.next 0)= .ok xl:=aQ z_ rfl hvC rfl;have hlen:=hxC.len;by_cases hlt:i<min ls.length 9
   ·have h1:i<ls.length:=by omega
    have h2:i<9:=by omega
    have hb:ls[i]?=some ls[i]:=qan h1;rw [Ap];apply W.q
    ·intro M;simp (config:={maxSteps:=4000000}) (disch:=first|decide+kernel|omega|simp only [Wq,qal]) only [d_,jw,qb7,Aq,qaq,reduceIte,qal,qam,g1,g4,CR,hl,hlen,h1,h2];rfl
    apply W.seq;apply W.block;refine Ez (w:=(ls.take i).map oU) (i:=i) (q:=A.next) hxC hvC hb (by rw [qas,qaE];omega) h2 (by unfold NK;simp only [Sq,qal,qam,g1,g2,g3,g4]) fun t' ht'=>?_
    obtain⟨f1,f2,f3,f4,-⟩:=ht';apply W.run 20
    ·intro M;simp (disch:=first|decide+kernel|omega) only [d_,jw,qb7,Aq,qal,f4];rfl
    refine⟨hlt,_,_,rfl,hk.trans (Kp.alloc _ _),?_⟩;rw [z6 hb];unfold NK;simp only [Sq,qal,qam,f1,f2,f3]
   ·have hin:i=min ls.length 9:=by omega
    have htk:(ls.take i)=ls.take 9:=by
     rcases hmin2 with h|h
     ·rw [hin,h,qaR,qcq (by omega)]
     ·rw [hin,h]
    rw [htk] at g3;have hex:W af (.seq (sub d_ [0,0]) (sub d_ [0,1])) ⟨t,43,[],C,none⟩ (fun e s'=>∃t',e= .exit 0∧s'=⟨t',43,[],C,none⟩∧Sl t' (NK A.next ((ls.take 9).map oU) i)):=by
     by_cases h1:i<ls.length
     ·have h2:¬i<9:=by omega
      apply W.run 20
      ·intro M;simp (config:={maxSteps:=4000000}) (disch:=first|decide+kernel|omega|simp only [Wq,qal]) only [d_,jw,qb7,Aq,qaq,reduceIte,qal,qam,g1,g4,CR,hl,hlen,h1,h2];rfl
      refine⟨_,rfl,rfl,?_⟩;unfold NK;simp only [Sq,qal,qam,g1,g2,g3,g4]
     ·apply W.run 20
      ·intro M;simp (config:={maxSteps:=4000000}) (disch:=first|decide+kernel|omega|simp only [Wq,qal]) only [d_,jw,qb7,Aq,qaq,reduceIte,qal,qam,g1,g4,CR,hl,hlen,h1];rfl
      refine⟨_,rfl,rfl,?_⟩;unfold NK;simp only [Sq,qal,qam,g1,g2,g3,g4]
    rw [Ap];apply W.seq;refine hex.mono ?_;rintro e s' ⟨t',rfl,rfl,f1,f2,f3,f4,-⟩;apply W.seq;have hw:W af (sub jw [1,1,1,0]) ⟨t',43,[],C,none⟩ (fun e s'=>∃t2,e= .nrm∧s'=⟨t2,43,[],C,none⟩∧Sl t2 [(1,pw A.next 0),(2,pw (A.next+1) 0),(3,aj (pk ls))]):=by
     by_cases h0:(ls.take 9).map oU=[]
     ·have hwd:pk ls=[97]:=by unfold pk;rw [if_pos h0]
      have f3':t'.get 3=some (aj []):=by rw [f3,h0]
      apply W.run 20
      ·intro M;simp (disch:=first|decide+kernel|omega) only [jw,qb7,Aq,qal,f3'];rfl
      refine⟨_,rfl,rfl,?_⟩;rw [hwd];simp only [Sq,qal,qam,f1,f2]
     ·have hwd:pk ls=(ls.take 9).map oU:=by unfold pk;rw [if_neg h0]
      rw [←hwd] at f3 h0;apply W.run 20
      ·intro M;simp (disch:=first|decide+kernel|omega) only [jw,qb7,Aq,qal,f3,h0];rfl
      refine⟨_,rfl,rfl,?_⟩;simp only [Sq,qal,qam,f1,f2,f3]
    refine hw.mono ?_;rintro e s' ⟨t2,rfl,rfl,f1,f2,f3,-⟩;apply W.seq;have l1:ag af C.get 59 (pw A.next (0+1))= .ok (.int .u32 wt):=aQ WS rfl hvC rfl;have l2:ag af C.get 4 (pw A.next (0+2))= .ok (.bool g):=aQ u4 rfl hvC rfl;have hgb:=fun ih=>TS (ih:=ih) (A:=C) (e:=⟨pk ls,wt,g⟩)
    have hzD:dw C 61 (A.next+1) (.var 3) [.string .empty,.int .u32 0,.bool false]:=hz0.same (hk.2 _ (by omega));obtain⟨C2,s2,v2,n2,k2⟩:=cY (tb:=af) (t:=61) (l:=[.string .empty,.int .u32 0,.bool false]) (l':=a_ (zR ls wt g)) IG hzD rfl (by simp) (oH _);have hl2:=aI (tb:=af) hd1 hd2 (l:=a_ (zR ls wt g)) IG v2;have hk1:=hk0.trans hk;unfold zR at s2 hl2⊢;apply W.run 20
    ·intro M;simp (disch:=first|decide+kernel|omega) only [jw,qb7,Aq,qal,f1,f2,f3,UR,US,l1,l2,Xq,hgb,s2];rfl
    apply W.run 20
    ·intro M;simp (disch:=first|decide+kernel|omega) only [jw,qb7,Aq,qal];rfl
    refine⟨.inr rfl,C2,[.agg ⟨a_ (bare ⟨pk ls,wt,g⟩)⟩],rfl,?_,rfl,?_⟩
    ·simp only [qb7,eV,jk,T.aH,qal,if_true,if_false,fe,R.aw,f2,hl2]
    ·exact⟨by rw [n2];exact hk1.1,fun z hz=>by rw [k2 z (by omega),hk1.2 z hz]⟩
  ·unfold NK;simp only [Sq,qal,qam];rfl
 exact⟨A',hg,hk⟩
structure DT where
 xl:Value
 ls:List UInt8
 wt:Nat
 gone:Bool
def ZV (d:DT):Value:=.agg ⟨[d.xl,.int .u32 d.wt,.bool d.gone]⟩
def Gt (A:Mem) (ds:List DT) (x:Value):Prop:=
 (x= .slice none 0 0∧ds=[])∨(x=Ew∧ds=[])∨∃q off cp,x= .slice (some ⟨q,off,none⟩) ds.length cp∧(ds=[]∨(q<A.next∧∃t kd fz c,A.get q=some (.cells t kd (fz+1) c)∧
  ∀(i:Nat) (d:DT),ds[i]?=some d→c.get (off+i*3)=some d.xl∧c.get (off+i*3+1)=some (.int .u32 d.wt)∧c.get (off+i*3+2)=some (.bool d.gone)∧p' A d.ls d.xl))
theorem Wh:af.ba 30=some (.slice 76):=by kernel_rfl
variable {ds:List DT}
theorem Gt.kf {x:Value} (h:Gt A ds x) (k:Uc A A'):Gt A' ds x:=by
 rcases h with h|h|⟨q,off,cp,h1,h2⟩
 ·exact .inl h
 ·exact .inr (.inl h)
 ·refine .inr (.inr ⟨q,off,cp,h1,?_⟩);rcases h2 with h2|⟨h2,t,kd,fz,c,h3,h4⟩
  ·exact .inl h2
  ·exact .inr ⟨qaD h2 k.1,t,kd,fz,c,by rw [k.2 _ ⟨h2,t,kd,fz,c,h3⟩];exact h3,fun i d hd=>⟨(h4 i d hd).1,(h4 i d hd).2.1,(h4 i d hd).2.2.1,(h4 i d hd).2.2.2.kf k⟩⟩
theorem Gt.kp {x:Value} (h:Gt A ds x) (k:Kp A A'):Gt A' ds x:=h.kf k.f
theorem Gt.len {x:Value} (h:Gt A ds x):aN af .len [30] [x]= .ok (iN ds.length):=by
 rcases h with⟨rfl,rfl⟩|⟨rfl,rfl⟩|⟨q,off,cp,rfl,-⟩
 ·exact eu Wh
 ·kernel_rfl
 ·exact eu Wh
theorem Gt.at {x:Value} (h:Gt A ds x) {d:DT} (hi:ds[i]?=some d):
 (∃p,aU af 30 x (.int .i64 i)= .ok (.pointer (some p))∧ag af A.get 76 (.pointer (some p))= .ok (ZV d))∧p' A d.ls d.xl:=by
 rcases h with⟨-,rfl⟩|⟨-,rfl⟩|⟨q,off,cp,rfl,h2⟩
 ·simp at hi
 ·simp at hi
 ·rcases h2 with rfl|⟨h2,t,kd,fz,c,h3,h4⟩
  ·simp at hi
  ·obtain⟨c0,c1,c2,hby⟩:=h4 i d hi;obtain⟨d26,hd1,hd2⟩:=a8 (t:=76) (p:=true) (by kernel_rfl);have hlt:=(qap.1 hi).1;have hb:qax i ds.length=true:=by rw [qaH];exact hlt
   have hn:kU (.int .i64 i)= .ok i:=rfl;refine⟨⟨⟨q,off+i*3,none⟩,?_,?_⟩,hby⟩
   ·unfold aU;simp only [hn,Wh,hb,cond_true,J8,R.aw,h_]
   ·have hgs:c.iu 3 (off+i*3)=some [d.xl,.int .u32 d.wt,.bool d.gone]:=fq _ _ _ _ rfl fun j hj=>by
     have:j=0∨j=1∨j=2:=by omega
     rcases this with rfl|rfl|rfl
     ·exact c0
     ·exact c1
     ·exact c2
    unfold ag;simp only [h3,hd1,hd2,cond_true,J8,R.aw,hgs];rfl
def dE (d:DT):aP:=zR d.ls d.wt d.gone
noncomputable def IX:Code:=qd9.body.getD .skip
noncomputable def El:Code:=sub IX [1,1,0,1,0,0]
theorem UD:qd9.body=some (.seq (sub IX [0]) (.seq (sub IX [1,0]) (.seq (.seq (sub IX [1,1,0,0]) (.block 0 (.loop El))) (.seq (sub IX [1,1,1,0]) (sub IX [1,1,1,1]))))):=by kernel_rfl
variable {n:Nat}
theorem uP {x:Value} (h:Gt A ds x) (hn:n≤1000):
 ∃y A',bg af 8 [x,iN n] A y A'∧en A' ((ds.take n).map dE) y∧Kp A A':=by
 obtain⟨v,A',hg,he,hk⟩:∃v A',bg af 8 [x,iN n] A v A'∧en A' ((ds.take n).map dE) v∧Kp A A':=by
  refine eL (aq Tryz.func8) UD (by rw [Tryz.ntmps8];simp) (by kernel_rfl) (by kernel_rfl) ?_;apply W.q
  ·intro M;simp (disch:=first|decide+kernel|omega) only [IX,qd9,Aq,qal];rfl
  apply W.q
  ·intro M;simp (disch:=first|decide+kernel|omega) only [IX,qd9,Aq,qal];rfl
  apply W.seq;apply W.q
  ·intro M;simp (disch:=first|decide+kernel|omega) only [IX,qd9,Aq,qal];rfl
  apply W.block;have hmin:min ds.length n≤ds.length∧min ds.length n≤n:=⟨qef _ _,qdu _ _⟩;have hmin2:min ds.length n=ds.length∨min ds.length n=n:=by omega
  refine W.up (min ds.length n) (fun i t C=>∃bo xo,MH C bo ((ds.take i).map dE) xo∧A.next≤bo∧Kp A C∧Sl t [(0,x),(1,iN n),(5,xo),(6,.int .i64 i)]) ?_ (qaB _) ⟨A.next,.slice none 0 0,.inl ⟨rfl,rfl⟩,qao _,Kp.refl _,?_⟩
  ·rintro i t C hi ⟨bo,xo,ho,hbo,hk,g0,g1,g5,g6,-⟩;have hC:=h.kp hk;have hlen:=hC.len;by_cases hlt:i<min ds.length n
   ·have h1:i<ds.length:=by omega
    have h2:i<n:=by omega
    have hd:ds[i]?=some ds[i]:=qan h1;obtain⟨⟨p,a1,a2⟩,hby⟩:=hC.at hd;obtain⟨C1,⟨g,hg⟩,k1⟩:=LY (wt:=ds[i].wt) (g:=ds[i].gone) hby;obtain⟨x',C2,happ,w2,n2,k2⟩:=Ca (e:=dE ds[i]) (MH.kp ho k1) (by rw [qas,qaE];omega);have hbe:a6 af 28 1 [(0,.agg ⟨a_ (zR ds[i].ls ds[i].wt ds[i].gone)⟩)]= .ok (aa 61 (a_ (dE ds[i])),.mO 1 2):=KL;unfold ZV at a2;apply W.cN (g) 20
    ·intro M hM;simp (config:={maxSteps:=4000000}) (disch:=first|decide+kernel|omega|simp only [Wq,qal]) only [El,IX,qd9,Aq,qaq,reduceIte,qal,qam,g0,g1,g5,g6,hlen,h1,h2,a1,a2,hg,hbe,wK,happ];rfl
    have hkA:=hk.trans k1;refine⟨hlt,_,_,rfl,C1.next+1,x',?_,?_,⟨by rw [n2];have:=hkA.1;omega,fun z hz=>?_⟩,?_⟩
    ·rw [qaC h1,qbe];exact w2
    ·have:=hkA.1;omega
    ·rw [k2 z (fun e=>by omega) (by have:=hkA.1;omega),hkA.2 z hz]
    ·simp only [Sq,qal,qam,g0,g1]
   ·have hin:i=min ds.length n:=by omega
    have htk:ds.take i=ds.take n:=by
     rcases hmin2 with h|h
     ·rw [hin,h,qaR,qcq (by omega)]
     ·rw [hin,h]
    rw [htk] at ho;have hex:W af El ⟨t,27,[],C,none⟩ (fun e s'=>∃t',e= .exit 0∧s'=⟨t',27,[],C,none⟩∧Sl t' [(5,xo)]):=by
     by_cases h1:i<ds.length
     ·have h2:¬i<n:=by omega
      apply W.run 20
      ·intro M;simp (config:={maxSteps:=4000000}) (disch:=first|decide+kernel|omega|simp only [Wq,qal]) only [El,IX,qd9,Aq,qaq,reduceIte,qal,qam,g0,g1,g5,g6,hlen,h1,h2];rfl
      refine⟨_,rfl,rfl,?_⟩;simp only [Sq,qal,qam,g5]
     ·apply W.run 20
      ·intro M;simp (config:={maxSteps:=4000000}) (disch:=first|decide+kernel|omega|simp only [Wq,qal]) only [El,IX,qd9,Aq,qaq,reduceIte,qal,qam,g0,g1,g5,g6,hlen,h1];rfl
      refine⟨_,rfl,rfl,?_⟩;simp only [Sq,qal,qam,g5]
    refine hex.mono ?_;rintro e s' ⟨t',rfl,rfl,f5,-⟩;apply W.q
    ·intro M;simp (disch:=first|decide+kernel|omega) only [IX,qd9,Aq,qal,f5];rfl
    apply W.run 20
    ·intro M;simp (disch:=first|decide+kernel|omega) only [IX,qd9,Aq,qal];rfl
    refine⟨.inr rfl,C,[xo],rfl,?_,⟨bo,ho⟩,hk⟩;simp only [qd9,eV,jk,T.aH,qal,if_true,if_false,fe,R.aw]
  ·simp only [Sq,qal,qam]
 exact⟨v,A',hg,he,hk⟩
def BW (A0 C:Mem) (b:Nat) (l:List aP) (x:Value):Prop:=az C 61 3 b (l.map a_) x∧Kp A0 C∧A0.next≤b
theorem BW.nil (A0 C:Mem) (k:Kp A0 C):BW A0 C A0.next [] (.slice none 0 0):=⟨az.nil _ _ _ _,k,qao _⟩
theorem BW.push {A0:Mem} {l:List aP} {x:Value} (h:BW A0 C b l x) (e:aP) (hl:l.length<1000000):∃x' C',bj af (C.alloc (aa 61 (a_ e))) 28 28 x (.slice (some ⟨C.next,0,none⟩) 1 2)= .ok (x',C')∧BW A0 C' (C.next+1) (l++[e]) x':=by
 obtain⟨hs,hk,hb⟩:=h;obtain⟨x',F,h1,h2,h3,h4⟩:=Ca (e:=e) hs hl;have hk0:=hk.1;exact⟨x',F,h1,h2,⟨by omega,fun z hz=>by rw [h4 z (by omega) (by omega),hk.2 z hz]⟩,by omega⟩
theorem U1 (a b:List UInt8):(!(aX a b||eY a b))=aX b a:=by
 cases h1:aX b a with
 |true=>
  have h2:aX a b=false:=by
   cases h:aX a b with
   |false=>rfl
   |true=>have:=lX _ _ _ h h1;rw [iP] at this;cases this
  have h3:eY a b=false:=by
   rw [di];refine beq_eq_false_iff_ne.2 fun e=>?_
   rw [e,iP] at h1;cases h1
  rw [h2,h3];rfl
 |false=>
  cases h2:aX a b with
  |true=>rfl
  |false=>
   obtain rfl:=oE _ _ h2 h1;rw [di];simp
theorem Zq (a b:List UInt8):fb .lss a b= .ok (.bool (aX a b)):=rfl
theorem Zi (a b:List UInt8):fb .gtr a b= .ok (.bool (aX b a)):=by
 show R.ok (Value.bool (!(aX a b||eY a b)))=_;rw [U1]
theorem te (e:aP):(bare e).word=e.word:=by unfold bare;split<;>rfl
theorem A9:∀{l:List aP},rk l→mH e l=l.takeWhile (fun y=>aX y.word e.word)++e::l.filter (fun y=>aX e.word y.word)
 | [],_=>rfl
 |x::l,h=>by
  have hx:=h.1;unfold mH;by_cases h1:lt x.word e.word
  ·have h2:aX e.word x.word=false:=by
    cases hq:aX e.word x.word with
    |false=>rfl
    |true=>exact absurd (OK h1 hq) (Vk _)
   rw [if_pos h1,A9 h.2,qea,if_pos h1,qbp,h2];rfl
  ·have htw:(x::l).takeWhile (fun y=>aX y.word e.word)=[]:=by rw [qea,if_neg h1]
   rw [if_neg h1,htw];by_cases h3:x.word=e.word
   ·rw [if_pos h3,qbp,←h3,if_neg (by rw [iP];simp)];rw [qdz.2 (fun y hy=>hx y hy)];rfl
   ·have h4:lt e.word x.word:=qca fun hn=>h3 (OL h1 hn)
    rw [if_neg h3,qbp,if_pos h4,qdz.2 (fun y hy=>OK h4 (hx y hy))];rfl
theorem DM {p:aP→Bool}:∀{l:List aP} {i:Nat},(∀y∈l.take i,p y=true)→(∀e,l[i]?=some e→p e=false)→l.takeWhile p=l.take i
 | [],i,_,_=>by simp
 |x::l,0,_,h=>by
  rw [qea,h x rfl];simp
 |x::l,i+1,h1,h2=>by
  rw [qea,if_pos (h1 x (by simp)),qc0,DM (i:=i) (fun y hy=>h1 y (by simp [hy])) (fun e he=>h2 e (by simpa using he))]
noncomputable def kK:Code:=qcu.body.getD .skip
noncomputable def Cu:Code:=sub kK [1,1,0,1,0,0]
noncomputable def Cv:Code:=sub kK [1,1,1,1,0,1,0,0]
theorem Q4:qcu.body=some (.seq (sub kK [0]) (.seq (sub kK [1,0]) (.seq (.seq (sub kK [1,1,0,0]) (.block 0 (.loop Cu))) (.seq (sub kK [1,1,1,0]) (.seq (.seq (sub kK [1,1,1,1,0,0]) (.block 2 (.loop Cv))) (.seq (sub kK [1,1,1,1,1,0]) (sub kK [1,1,1,1,1,1]))))))):=by kernel_rfl
theorem FX {l:List aP} {x:Value} (h:en A l x) (ha:rk l) (hl:l.length<400000):∃v A',bg af 62 [x,.agg ⟨a_ e⟩] A v A'∧en A' (mH (bare e) l) v∧Kp A A':=by
 refine cF (aq Tryz.func62) Q4 (by kernel_rfl) ?_;have hlen:=h.len;have k0:=Kp.alloc A (aa 61 (a_ e));have v0:=ay A 61 (a_ e);apply W.q
 ·intro M;simp (disch:=first|decide+kernel|omega) only [kK,qcu,Aq,qal,au];rfl
 have hB:=h.kp k0;generalize A.alloc (aa 61 (a_ e))=B at k0 v0 hB;have lwB:∀C,Kp B C→ag af C.get 9 (.pointer (some ⟨A.next,0,none⟩))= .ok (aj e.word):=fun C k=>(v0.kp k).ld rfl u9 rfl
 obtain⟨d67,hd1,hd2⟩:=a8 (t:=61) (p:=true) (by kernel_rfl);apply W.q
 ·intro M;simp (disch:=first|decide+kernel|omega) only [kK,qcu,Aq,qal];rfl
 apply W.seq;refine W.to (n:=58) (fun t C=>∃b y,BW B C b (l.takeWhile (fun y=>aX y.word e.word)) y∧Sl t [(0,x),(3,.pointer (some ⟨A.next,0,none⟩)),(5,y)]) ?_ ?_
 ·apply W.seq;apply W.run 20
  ·intro M;simp (disch:=first|decide+kernel|omega) only [kK,qcu,Aq,qal];rfl
  apply W.block;refine W.up l.length (fun i t C=>(∀y∈l.take i,aX y.word e.word=true)∧∃b y,BW B C b (l.take i) y∧Sl t [(0,x),(3,.pointer (some ⟨A.next,0,none⟩)),(5,y),(6,.int .i64 i)]) ?_ (qaB _) ⟨(fun y hy=>by simp at hy),_,_,BW.nil B B (Kp.refl _),?_⟩
  ·rintro i t C hi ⟨hall,b,y,hO,g0,g3,g5,g6,-⟩;have lw:=lwB C hO.2.1;by_cases hlt:i<l.length
   ·have he:l[i]?=some l[i]:=qan hlt;obtain⟨p,i1,i2,q,i3,i4⟩:=(hB.kp hO.2.1).at he;have hls:=Zq (l[i]).word e.word;cases hc:aX (l[i]).word e.word with
    |true=>
     rw [hc] at hls;have htk:l.take (i+1)=l.take i++[l[i]]:=qaC hlt;obtain⟨y2,D2,happ2,hO3⟩:=hO.push l[i] (by rw [qaE];omega);apply W.run 20
     ·intro M;simp (config:={maxSteps:=4000000}) (disch:=first|decide+kernel|omega|simp only [Wq,qal]) only [Cu,kK,qcu,Aq,qaq,reduceIte,qal,qam,g0,g3,g5,g6,hlen,hlt,i1,i2,i3,i4,jT,lw,hls,KL,happ2,Fq,aA []];rfl
     refine⟨hlt,_,_,rfl,fun z hz=>?_,_,y2,by rw [htk];exact hO3,?_⟩
     ·rw [htk] at hz;rcases qbF.1 hz with hz|hz
      ·exact hall z hz
      ·rw [qaY.1 hz];exact hc
     ·simp only [Sq,qal,qam,g0,g3]
    |false=>
     rw [hc] at hls;have htw:l.takeWhile (fun y=>aX y.word e.word)=l.take i:=DM hall (fun z hz=>by rw [he] at hz;rw [←qbo hz];exact hc);apply W.run 20
     ·intro M;simp (config:={maxSteps:=4000000}) (disch:=first|decide+kernel|omega|simp only [Wq,qal]) only [Cu,kK,qcu,Aq,qaq,reduceIte,qal,qam,g0,g3,g6,hlen,hlt,i1,i3,i4,jT,lw,hls,Fq,aA []];rfl
     refine⟨rfl,_,_,rfl,b,y,by rw [htw];exact hO,?_⟩;simp only [Sq,qal,qam,g0,g3,g5]
   ·have hin:i=l.length:=by omega
    subst hin;have htw:l.takeWhile (fun y=>aX y.word e.word)=l.take l.length:=DM hall (fun z hz=>by rw [qbc (qao _)] at hz;cases hz);apply W.run 20
    ·intro M;simp (config:={maxSteps:=4000000}) (disch:=first|decide+kernel|omega|simp only [Wq,qal]) only [Cu,kK,qcu,Aq,qaq,reduceIte,qal,qam,g0,g6,hlen,Fq,aA []];rfl
    refine⟨rfl,_,_,rfl,b,y,by rw [htw];exact hO,?_⟩;simp only [Sq,qal,qam,g0,g3,g5]
  ·simp only [Sq,qal,qam]
 ·rintro t C ⟨b,y,hO,g0,g3,g5,-⟩;show W af _ _ _;have hlt1:(l.takeWhile (fun y=>aX y.word e.word)).length≤l.length:=(List.takeWhile_sublist _).length_le;have le:ag af C.get 61 (.pointer (some ⟨A.next,0,none⟩))= .ok (.agg ⟨a_ e⟩):=aI hd1 hd2 IG (v0.kp hO.2.1).2;have hg:=fun ih=>TS (ih:=ih) (A:=C) (e:=e)
  obtain⟨y',E,happ,hO2⟩:=hO.push (bare e) (by omega);apply W.q
  ·intro M;simp (disch:=first|decide+kernel|omega) only [kK,qcu,Aq,qal,g3,g5,le,hg,KL,happ];rfl
  apply W.seq;apply W.q
  ·intro M;simp (disch:=first|decide+kernel|omega) only [kK,qcu,Aq,qal];rfl
  apply W.block;refine W.up l.length (fun i t C=>∃b y,BW B C b ((l.takeWhile (fun y=>aX y.word e.word)++[bare e])++(l.take i).filter (fun y=>aX e.word y.word)) y∧Sl t [(0,x),(3,.pointer (some ⟨A.next,0,none⟩)),(5,y),(7,.int .i64 i)]) ?_ (qaB _) ⟨_,y',by simpa using hO2,?_⟩
  ·rintro i t C hi ⟨b,y,hO,g0,g3,g5,g7,-⟩;have lw:=lwB C hO.2.1;by_cases hlt:i<l.length
   ·have he:l[i]?=some l[i]:=qan hlt;obtain⟨p,i1,i2,q,i3,i4⟩:=(hB.kp hO.2.1).at he;have hgs:=Zi (l[i]).word e.word;cases hc:aX e.word (l[i]).word with
    |true=>
     rw [hc] at hgs;have hfl:((l.takeWhile (fun y=>aX y.word e.word)++[bare e])++(l.take i).filter (fun y=>aX e.word y.word)).length<1000000:=by
      have:=List.length_filter_le (fun y:aP=>aX e.word y.word) (l.take i);rw [qaE] at this;simp only [qar,qaA,qaT];omega
     have htk:(l.take (i+1)).filter (fun y=>aX e.word y.word)=(l.take i).filter (fun y=>aX e.word y.word)++[l[i]]:=by
      rw [qaC hlt,List.filter_append,qbp,if_pos hc];rfl
     obtain⟨y2,D2,happ2,hO3⟩:=hO.push l[i] hfl;apply W.run 20
     ·intro M;simp (config:={maxSteps:=4000000}) (disch:=first|decide+kernel|omega|simp only [Wq,qal]) only [Cv,kK,qcu,Aq,qaq,reduceIte,qal,qam,g0,g3,g5,g7,hlen,hlt,i1,i2,i3,i4,jT,lw,hgs,KL,happ2,Fq,aA []];rfl
     refine⟨hlt,_,_,rfl,_,y2,by rw [htk,←qbh];exact hO3,?_⟩;simp only [Sq,qal,qam,g0,g3]
    |false=>
     rw [hc] at hgs;have htk:(l.take (i+1)).filter (fun y=>aX e.word y.word)=(l.take i).filter (fun y=>aX e.word y.word):=by
      rw [qaC hlt,List.filter_append,qbp,if_neg (by rw [hc];decide)];simp
     apply W.run 20
     ·intro M;simp (config:={maxSteps:=4000000}) (disch:=first|decide+kernel|omega|simp only [Wq,qal]) only [Cv,kK,qcu,Aq,qaq,reduceIte,qal,qam,g0,g3,g7,hlen,hlt,i1,i3,i4,jT,lw,hgs,Fq,aA []];rfl
     refine⟨hlt,_,_,rfl,b,y,by rw [htk];exact hO,?_⟩;simp only [Sq,qal,qam,g0,g3,g5]
   ·have hin:i=l.length:=by omega
    subst hin;rw [qaR] at hO;apply W.run 20
    ·intro M;simp (disch:=first|decide+kernel|omega) only [Cv,kK,qcu,Aq,qal,g0,g7,hlen];rfl
    apply W.q
    ·intro M;simp (disch:=first|decide+kernel|omega) only [kK,qcu,Aq,qal,g5];rfl
    apply W.run 20
    ·intro M;simp (disch:=first|decide+kernel|omega) only [kK,qcu,Aq,qal];rfl
    refine⟨by simp,rfl,_,(by simp only [qcu,Aq,qal]<;>rfl),⟨b,?_⟩,k0.trans hO.2.1⟩;rw [A9 ha,te];have:=hO.1;rwa [qbh] at this
  ·simp only [Sq,qal,qam,g0,g3]
def hU (more:List aP):List aP:=more.foldl (fun l e=>mH (bare e) l) []
theorem zz (more:List aP) (e:aP):hU (more++[e])=mH (bare e) (hU more):=by
 unfold hU;rw [qcR];rfl
theorem one_le {e:aP}:∀l:List aP,(mH e l).length≤l.length+1
 | []=>by simp [mH]
 |x::l=>by
  have:=one_le (e:=e) l;unfold mH;split
  ·simp only [qaA];omega
  ·split<;>simp
theorem MA (P:List aP→Prop) (h0:P []) (h1:∀l e,P l→P (mH (bare e) l)) (more:List aP):P (hU more):=by
 unfold hU
 suffices h:∀(more l:List aP),P l→P (more.foldl (fun l e=>mH (bare e) l) l) from h more [] h0
 intro more
 induction more with
 |nil=>exact fun l h=>h
 |cons e more ih=>exact fun l h=>ih _ (h1 l e h)
theorem uc (more:List aP):rk (hU more):=MA rk trivial (fun l e h=>JH h) more
theorem p_:∀more:List aP,(hU more).length≤more.length:=by
 intro more;unfold hU
 suffices h:∀(more l:List aP),(more.foldl (fun l e=>mH (bare e) l) l).length≤l.length+more.length by
  have:=h more [];simpa using this
 intro more
 induction more with
 |nil=>exact fun l=>qao _
 |cons e more ih=>
  intro l;have h1:=ih (mH (bare e) l);have h2:=one_le (e:=bare e) l;rw [qbu,qaA];omega
theorem BS {more:List aP} (P:aP→Prop) (h:∀e∈more,P (bare e)):∀e∈hU more,P e:=by
 unfold hU
 suffices H:∀(more l:List aP),(∀e∈more,P (bare e))→(∀e∈l,P e)→∀e∈more.foldl (fun l e=>mH (bare e) l) l,P e from H more [] h (fun e he=>by cases he)
 intro more
 induction more with
 |nil=>exact fun l _ h=>h
 |cons a more ih=>
  intro l h1 h2;refine ih _ (fun e he=>h1 e (qay _ he)) fun e he=>?_
  rcases Dh he with rfl|he
  ·exact h1 a qaz
  ·exact h2 e he
theorem KH:bj af A 28 28 (.slice none 0 0) (.slice none 0 0)= .ok (.slice none 0 0,A):=by kernel_rfl
noncomputable def Av:Code:=qch.body.getD .skip
noncomputable def Ek:Code:=sub Av [1,1,0,1,0,0]
theorem Ns:qch.body=some (.seq (sub Av [0]) (.seq (sub Av [1,0]) (.seq (.seq (sub Av [1,1,0,0]) (.block 0 (.loop Ek))) (.seq (sub Av [1,1,1,0]) (sub Av [1,1,1,1]))))):=by kernel_rfl
theorem Ma {more:List aP} {xm:Value} (hm:en A more xm) (hl:more.length<300000):∃v A',bg af 20 [.slice none 0 0,xm] A v A'∧en A' (hU more) v∧Kp A A':=by
 refine cF (aq Tryz.func20) Ns (by kernel_rfl) ?_;have hlen:=hm.len;apply W.q
 ·intro M;simp (disch:=first|decide+kernel|omega) only [Av,qch,Aq,qal];rfl
 apply W.q
 ·intro M;simp (disch:=first|decide+kernel|omega) only [Av,qch,Aq,qal,KH];rfl
 apply W.seq;apply W.q
 ·intro M;simp (disch:=first|decide+kernel|omega) only [Av,qch,Aq,qal];rfl
 apply W.block;refine W.up more.length (fun i t C=>∃y,en C (hU (more.take i)) y∧Kp A C∧Sl t [(1,xm),(5,y),(6,.int .i64 i)]) ?_ (qaB _) ⟨_,⟨0,az.nil _ _ _ _⟩,Kp.refl _,?_⟩
 ·rintro i t C hi ⟨y,hy,kC,g1,g5,g6,-⟩;by_cases hlt:i<more.length
  ·have he:more[i]?=some more[i]:=qan hlt;obtain⟨p,i1,i2,-⟩:=(hm.kp kC).at he;have hwl:=p_ (more.take i);rw [qaE] at hwl;obtain⟨v,D,⟨g,hg⟩,hv,kD⟩:=FX (e:=more[i]) hy (uc _) (by omega);apply W.cN (g) 20
   ·intro M hM;simp (disch:=first|decide+kernel|omega) only [Ek,Av,qch,Aq,qal,g1,g5,g6,hlen,hlt,i1,i2,hg];rfl
   refine⟨hlt,_,_,rfl,v,?_,kC.trans kD,?_⟩
   ·rw [qaC hlt,zz];exact hv
   ·simp only [Sq,qal,qam,g1]
  ·have hin:i=more.length:=by omega
   subst hin;rw [qaR] at hy;apply W.run 20
   ·intro M;simp (disch:=first|decide+kernel|omega) only [Ek,Av,qch,Aq,qal,g1,g6,hlen];rfl
   apply W.q
   ·intro M;simp (disch:=first|decide+kernel|omega) only [Av,qch,Aq,qal,g5];rfl
   apply W.run 20
   ·intro M;simp (disch:=first|decide+kernel|omega) only [Av,qch,Aq,qal];rfl
   exact⟨by simp,rfl,_,(by simp only [qch,Aq,qal]<;>rfl),hy,kC⟩
 ·simp only [Sq,qal,qam]
theorem UF (d:DT):1≤(dE d).word.length∧(dE d).word.length≤9:=by
 unfold dE zR;rw [te];show 1≤(pk d.ls).length∧(pk d.ls).length≤9;unfold pk;split
 ·simp
 ·rename_i h;have:(qew oU (qeM 9 d.ls)).length≤9:=by rw [qas,qaE];omega
  exact⟨qa6.2 h,this⟩
variable {ls:List (List Value)}
theorem re {e e':TypeId} {n':Nat} {ls':List (List Value)} {x:Value} (h:az A e n b ls x) (h':az A e' n' b' ls' x') (h0:ls≠ []) (h0':ls'≠ []) (he:e≠e'):b≠b':=by
 rintro rfl;rcases h with⟨-,h⟩|⟨_,_,-,-,⟨_,h1,-⟩,-⟩
 ·exact h0 h
 ·rcases h' with⟨-,h⟩|⟨_,_,-,-,⟨_,h2,-⟩,-⟩
  ·exact h0' h
  ·rw [h1] at h2;injection h2 with h2;injection h2 with h2;exact he h2
variable {r:Nat}
theorem az.Zp {e e':TypeId} {k:Kd} {x:Value} (h:az A e n b ls x) (hv:VB A e' r k l) (he:e≠e') (K:DU r A A'):az A' e n b ls x:=by
 rcases h with h|⟨k',c,h1,h2,⟨cs,h3,h3'⟩,h4⟩
 ·exact .inl h
 ·refine .inr ⟨k',c,h1,qaD h2 K.1,⟨cs,?_,h3'⟩,h4⟩;rw [K.2 b h2 (fun e1=>?_)]
  ·exact h3
  ·obtain⟨cs',q,-⟩:=hv.2;rw [←e1,h3] at q;injection q with q;injection q with q;exact he q
theorem gp (n:Nat):bJ (2*n)=n∧dN (2*n)=true:=by
 have h:dN (2*n)=true:=by unfold dN;rw [qcI];show 2*n % 2=0;omega
 refine⟨?_,h⟩;unfold bJ;rw [h,cond_true];show 2*n/2=n;omega
theorem Iu {e t:TypeId} {x:Value} (h:az A e n b ls x) (hu:tb.ba t=some (.slice e)) (hs:aR tb e= .ok n) (hn:n<65536) (h0:ls=[]→x= .slice none 0 0):
 ∃x',c6 tb t x none (some (.int .i64 ls.length)) (some (.int .i64 ls.length))= .ok x'∧az A e n b ls x'∧(x= .slice none 0 0→x'= .slice none 0 0):=by
 have hb:∀m:Nat,bound (some (.int .i64 m)) 0 m= .ok m:=fun m=>by
  show(bif qaq m m then R.ok m else _)=_;rw [show qaq m m=true by rw [qdm];exact qao _];rfl
 rcases h with⟨rfl,rfl⟩|⟨k,c,rfl,h2,h3,h4,h5⟩
 ·refine⟨.slice none 0 0,?_,az.nil _ _ _ _,fun _=>rfl⟩;unfold c6;simp only [hu,hs,R.aw];rfl
 ·have hne:ls.length≠0:=fun e=>by
   have:=h0 (qaP.1 e);cases this
  have hc:bJ c=ls.length∧(dN c||(dV c n&&qax 0 (bJ c)))=true:=by
   rcases h5 with rfl|⟨rfl,-⟩
   ·obtain⟨q1,q2⟩:=gp ls.length;exact⟨q1,by rw [q2];rfl⟩
   ·have q:=cD (n:=ls.length) hn;refine⟨q,?_⟩;have e1:dV (fQ ls.length n) n=true:=by
     unfold dV;rw [cX,cond_false,qcI];show(2*(ls.length*65536+n)+1)/2 % 65536=n;omega
    rw [cX,e1,q,show qax 0 ls.length=true by rw [qaH];omega];rfl
  refine⟨.slice (some ⟨b,0,none⟩) ls.length (2*ls.length),?_,.inr ⟨k,_,rfl,h2,h3,h4,.inl rfl⟩,fun h=>by cases h⟩;unfold c6;simp only [hu];rw [hc.1];have hb0:bound none 0 ls.length= .ok 0:=rfl;have hc2:=hc.2;rw [hc.1] at hc2;simp only [hb,R.aw,hb0,hs,hc.2,hc2,cond_true,qcN];rw [show qaw ls.length 0=false by cases hq:qaw ls.length 0 with
   |false=>rfl
   |true=>exact absurd (qaL hq) hne]
  rfl
theorem uE (w:List UInt8):∀(ns:List (List UInt8)) (o:Nat),bB (ns++[w]) o=bB ns o++[⟨aj w,.int .i64 (o+ns.length+1:Nat),o+ns.length⟩]
 | [],o=>rfl
 |n::ns,o=>by
  rw [qbf,bB,uE w ns (o+1),bB,qbf,qaA,show o+1+ns.length=o+(ns.length+1) by omega]
theorem ux (p:Nat):∀(ps:List Nat) (o:Nat),dG (ps++[p]) o=dG ps o++[⟨.int .i64 (o+ps.length+1:Nat),.pointer (some ⟨p,0,none⟩),o+ps.length⟩]
 | [],o=>rfl
 |n::ps,o=>by
  rw [qbf,dG,ux p ps (o+1),dG,qbf,qaA,show o+1+ps.length=o+(ps.length+1) by omega]
variable {mn:Nat} {ns:List (List UInt8)}
theorem Gh (h:A.get mn=some (.map (bB ns 0) ns.length)) (hw:w∉ns):
 c_ af A 199 (.map (some mn)) (aj w) (iN (ns.length+1))= .ok (A.set mn (.map (bB (ns++[w]) 0) (ns++[w]).length)):=by
 have hk:eQ af 9 (aj w)=true:=by unfold eQ;rw [u9];rfl
 have hf:ns.findIdx? (fun n=>decide (w=n))=none:=by
  rw [qed];intro n hn;simpa using fun e:w=n=>hw (e▸hn)
 unfold c_;simp only [pj,hk,cond_true,h,tM,hf,qdG];rw [uE,qa1,qar];rfl
variable {mf p:Nat} {ps:List Nat}
theorem Gg (h:A.get mf=some (.map (dG ps 0) ps.length)):
 c_ af A 79 (.map (some mf)) (iN (ps.length+1)) (pw p 0)= .ok (A.set mf (.map (dG (ps++[p]) 0) (ps++[p]).length)):=by
 have hk:eQ af 3 (iN (ps.length+1))=true:=by unfold eQ;rw [u3]
 have hf:ps[ps.length]?=none:=qbc (qao _);unfold c_;simp only [zp,hk,cond_true,h,tF ps.length ps 0 0 (qaB _),qbA,hf,qdG];rw [ux,qa1,qar];rfl
variable {z:Nat}
theorem VB.ne {e e':TypeId} {z':Nat} {k k':Kd} {l':List Value} (h:VB A e z k l) (h':VB A e' z' k' l') (he:e≠e'):z≠z':=by
 rintro rfl;obtain⟨_,q,-⟩:=h.2;obtain⟨_,q2,-⟩:=h'.2;rw [q] at q2;injection q2 with q2;injection q2 with q2;exact he q2
variable {es:List MapEntry}
theorem VB.gj {e:TypeId} {k:Kd} (h:VB A e z k l) (hm:A.get m=some (.map es c)):z≠m:=by
 rintro rfl;obtain⟨_,q,-⟩:=h.2;rw [q] at hm;cases hm
theorem az.vo {e e':TypeId} {k:Kd} {x:Value} (h:az A e n b ls x) (h':VB A e' z k l) (he:e'≠e) (h0:ls≠ []):z≠b:=by
 rcases h with⟨-,hh⟩|⟨k',_,-,h1,h2,-⟩
 ·exact absurd hh h0
 ·exact VB.ne h' (⟨h1,h2⟩:VB A e b k' _) he
theorem az.gj {e:TypeId} {x:Value} (h:az A e n b ls x) (hm:A.get m=some (.map es c)) (h0:ls≠ []):m≠b:=by
 rcases h with⟨-,hh⟩|⟨k',_,-,h1,h2,-⟩
 ·exact absurd hh h0
 ·exact(VB.gj (⟨h1,h2⟩:VB A e b k' _) hm).symm
def ju (w:List UInt8) (t s:Nat):List Value:=[aj w,.func (.func 134) ⟨[]⟩ ⟨[pV t,pV s]⟩]
def Ay:List UInt8:=[99,114,101,97,116,101]
def Fold (A:Mem) (p ml mn b:Nat) (ns:List (List UInt8)):Prop:=∃x rows,VB A 201 p (.var 4) [.map (some ml),.map (some mn),x,.int .i64 ns.length]∧(ml<A.next∧A.get ml=some (.map [] 0))∧(mn<A.next∧A.get mn=some (.map (bB ns 0) ns.length))∧ml≠mn∧
 az A 204 2 b rows x∧(ns=[]→x= .slice none 0 0)∧rows.length=ns.length∧∀(i:Nat) (w:List UInt8),ns[i]?=some w→∃t s,rows[i]?=some (ju Ay t s)∧VB A 3 t (.var 1) [.int .i64 (i+1:Nat)]∧VB A 9 s (.var 1) [aj w]
theorem CP:av af 201 (pw b 0) 2= .ok (pw b 2):=by kernel_rfl
theorem UN:av af 201 (pw b 0) 3= .ok (pw b 3):=by kernel_rfl
theorem NT:av af 204 (pw b o) 1= .ok (pw b (o+1)):=by kernel_rfl
theorem Kr:bS af 204= .ok (.agg ⟨[.string .empty,.nilFunc]⟩):=by kernel_rfl
theorem IF:aR af 204= .ok 2:=by kernel_rfl
theorem YT:cm af 204= .ok (2,[.string .empty,.nilFunc]):=by kernel_rfl
theorem vQ:af.ba 198=some (.slice 204):=by kernel_rfl
theorem J5:aR af 198= .ok 1:=by kernel_rfl
theorem q_:aR af 3= .ok 1:=by kernel_rfl
theorem YE:∃i,af.ty.get 204=some i∧0<i.bytes∧i.bytes≤65536:=by
 have h:(af.ty.get 204).map (fun i=>qax 0 i.bytes&&qaq i.bytes 65536)=some true:=by kernel_rfl
 cases hq:af.ty.get 204 with
 |none=>rw [hq] at h;cases h
 |some i=>
  rw [hq] at h;simp only [qa5,qaX,qaO,qaH] at h;exact⟨i,rfl,h.1,qaG h.2⟩
theorem Xi {t s:Nat}:ct af 204 [(0,aj w),(1,.func (.func 134) ⟨[]⟩ ⟨[pw t 0,pw s 0]⟩)]= .ok (.agg ⟨ju w t s⟩):=by kernel_rfl
theorem Xs {t s:Nat}:a6 af 198 1 [(0,.agg ⟨ju w t s⟩)]= .ok (aa 204 (ju w t s),.mO 1 2):=by kernel_rfl
theorem Ql:∃d,af.ba 202=some d∧bQ d=false:=a8 (by kernel_rfl)
theorem Pw {t s k:Nat} (h:A.get mn=some (.map (bB ns 0) ns.length)) (hw:w∉ns) (ht:VB A 3 t (.var 1) [iN (ns.length+1)]) (hs:VB A 9 s (.var 1) [aj w]):
 bg af 134 [.map (some mn),pV t,pV s] A (.tuple ⟨[]⟩) (A.set mn (.map (bB (ns++[w]) 0) (ns++[w]).length)):=by
 have l1:ag af A.get 9 (pw s 0)= .ok (aj w):=hs.ld rfl u9 rfl;have l2:ag af A.get 3 (pw t 0)= .ok (iN (ns.length+1)):=ht.ld rfl u3 rfl;have l3:=Gh h hw;simp only [pV];refine bm 60 (aq Tryz.func134) (by kernel_rfl) fun M=>?_
 simp (disch:=first|decide+kernel|omega) only [Tryz.f134,Aq,qal,l1,l2,fi,l3,bL]<;>rfl
theorem dH {o:Ob}:(A.set b o).get z=if z=b then some o else A.get z:=aC _ _ _ _
structure Z2 where
 ver:Nat
 next:Nat
 segs:List (Nat×Nat×Nat)
def ew (s:Nat×Nat×Nat):List Value:=[.int .i64 s.1,.int .i64 s.2.1,.int .i64 s.2.2]
def eR (l:List Nat):List UInt8:=l.flatMap cK
theorem Tm:aR af 36= .ok 3:=by kernel_rfl
theorem NY:av af 36 (pw b o) 0= .ok (pw b o):=by kernel_rfl
theorem TK:av af 36 (pw b o) 1= .ok (pw b (o+1)):=by kernel_rfl
theorem NZ:av af 36 (pw b o) 2= .ok (pw b (o+2)):=by kernel_rfl
def OU (n:Nat):List Value:=[.int .u64 n]
def zH (A:Mem) (l:List Nat) (x:Value):Prop:=∃b,az A 113 1 b (l.map OU) x
theorem YJ:af.ba 251=some (.slice 113):=by kernel_rfl
theorem ZM:aR af 113= .ok 1:=by kernel_rfl
theorem zH.kp {l:List Nat} {x:Value} (h:zH A l x) (k:Kp A A'):zH A' l x:=by
 obtain⟨b,h⟩:=h;exact⟨b,h.same k.1 (k.2 b)⟩
theorem zH.len {l:List Nat} {x:Value} (h:zH A l x):aN af .len [251] [x]= .ok (iN l.length):=by
 obtain⟨b,h⟩:=h;have:=az.len (tb:=af) h YJ;rwa [qas] at this
theorem zH.at {l:List Nat} {x:Value} (h:zH A l x) (hi:l[i]?=some n):∃p,aU af 251 x (.int .i64 i)= .ok p∧ag af A.get 113 p= .ok (.int .u64 n):=by
 obtain⟨b,h⟩:=h;have hl:i<(l.map OU).length:=by rw [qas];exact(qap.1 hi).1
 have hm:(l.map OU)[i]?=some (OU n):=by rw [qaN,hi];rfl
 refine⟨_,az.idx h YJ ZM hl,?_⟩;have:=az.load (tb:=af) (j:=0) h fp rfl hm rfl (by omega);rwa [qa8] at this
theorem yc {l:List Nat} (h:l[i]?=some n):eR (l.take (i+1))=eR (l.take i)++cK n:=by
 obtain⟨hi,rfl⟩:=qap.1 h;unfold eR;rw [qaC hi,qcY];simp
theorem yb:∀(l:List Nat),(∀n∈l,n<18446744073709551616)→(eR l).length≤9*l.length
 | [],_=>qao _
 |n::l,h=>by
  have h1:=jy n (h n qaz);have h2:=yb l fun n hn=>h n (qay _ hn)
  unfold eR at h2⊢;rw [qbl,qar,qaA];omega
def kj (l:List aP):Nat:=(l.map (·.word.length)).sum
def DV (l:List aP):Prop:=l≠ []∧rk l∧(∀e∈l,1≤e.word.length∧e.word.length≤255∧e.weight<4294967296)∧(l.length≤100∧kj l<999)∧(dO l).length<10000∧dO l≠ []∧Lay (dO l)∧least l<18446744073709551616∧(gq l).length<800000
def lZ (f:List UInt8×List UInt8):List Value:=[aj f.1,aj f.2]
def BX (A:Mem) (l:List (List UInt8×List UInt8)) (x:Value):Prop:=∃b,az A 94 2 b (l.map lZ) x
theorem BX.kp {l:List (List UInt8×List UInt8)} {x:Value} (h:BX A l x) (k:Kp A A'):BX A' l x:=by
 obtain⟨b,h⟩:=h;exact⟨b,h.same k.1 (k.2 b)⟩
theorem Y4:af.ba 51=some (.slice 94):=by kernel_rfl
theorem z27:aR af 94= .ok 2:=by kernel_rfl
theorem ZR:cm af 94= .ok (2,[.string .empty,.string .empty]):=by kernel_rfl
theorem WC:bS af 94= .ok (.agg ⟨[.string .empty,.string .empty]⟩):=by kernel_rfl
theorem ZK:∃i,af.ty.get 94=some i∧0<i.bytes∧i.bytes≤65536:=by
 have h:(af.ty.get 94).map (fun i=>qax 0 i.bytes&&qaq i.bytes 65536)=some true:=by kernel_rfl
 cases hq:af.ty.get 94 with
 |none=>rw [hq] at h;cases h
 |some i=>
  rw [hq] at h;simp only [qa5,qaX,qaO,qaH] at h;exact⟨i,rfl,h.1,qaG h.2⟩
theorem BX.len {l:List (List UInt8×List UInt8)} {x:Value} (h:BX A l x):aN af .len [51] [x]= .ok (iN l.length):=by
 obtain⟨b,h⟩:=h;have:=az.len (tb:=af) h Y4;rwa [qas] at this
theorem XT:av af 94 (pw b o) 1= .ok (pw b (o+1)):=by kernel_rfl
theorem BX.at {l:List (List UInt8×List UInt8)} {x:Value} {f:List UInt8×List UInt8} (h:BX A l x) (hi:l[i]?=some f):
 ∃b o,aU af 51 x (.int .i64 i)= .ok (pw b o)∧ag af A.get 94 (pw b o)= .ok (.agg ⟨lZ f⟩)∧ag af A.get 9 (pw b o)= .ok (aj f.1)∧ag af A.get 9 (pw b (o+1))= .ok (aj f.2):=by
 obtain⟨b,h⟩:=h;have hl:i<(l.map lZ).length:=by rw [qas];exact(qap.1 hi).1
 have hm:(l.map lZ)[i]?=some (lZ f):=by rw [qaN,hi];rfl
 obtain⟨d,hd1,hd2⟩:=a8 (t:=94) (p:=true) (by kernel_rfl);refine⟨b,_,az.idx h Y4 z27 hl,az.aI h hd1 hd2 z27 hm,?_,az.load (tb:=af) (j:=1) h u9 rfl hm rfl (by omega)⟩;have:=az.load (tb:=af) (j:=0) h u9 rfl hm rfl (by omega);rwa [qa8] at this
theorem Jc (f:List UInt8×List UInt8):∀v∈lZ f,aJ v=true:=by
 intro v hv;simp only [lZ,qaK,qbb,or_false] at hv;rcases hv with rfl|rfl<;>rfl
theorem Za {a b:List UInt8}:ct af 94 [(0,aj a),(1,aj b)]= .ok (.agg ⟨lZ (a,b)⟩):=by kernel_rfl
theorem Zf {f:List UInt8×List UInt8}:a6 af 51 1 [(0,.agg ⟨lZ f⟩)]= .ok (aa 94 (lZ f),.mO 1 2):=by kernel_rfl
theorem QN {D:Mem} {l:List (List UInt8×List UInt8)} {x:Value} {f:List UInt8×List UInt8} (h:az D 94 2 b (l.map lZ) x) (hl:l.length<1000):
 ∃x' D',bj af (D.alloc (aa 94 (lZ f))) 51 51 x (.slice (some ⟨D.next,0,none⟩) 1 2)= .ok (x',D')∧az D' 94 2 (D.next+1) ((l++[f]).map lZ) x'∧D'.next=D.next+2∧∀z,(z=b→x= .slice none 0 0)→z<D.next→D'.get z=D.get z:=by
 obtain⟨i,t1,t2,t3⟩:=ZK;have h':az (D.alloc (aa 94 (lZ f))) 94 2 b (l.map lZ) x:=h.same (by rw [ae];omega) fun hh=>aB (by omega)
 obtain⟨x',D',h1,h2,h3,h4⟩:=az.append (tb:=af) (st:=51) (xt:=51) h' Y4 Y4 ZR t1 t2 t3 (by omega) (by omega) (by rw [qas];omega) (ax D _) rfl (Jc f);rw [ae] at h2 h3 h4;exact⟨x',D',h1,by rw [qbe];exact h2,by omega,fun z hz hzn=>by rw [h4 z hz (by omega),aB (by omega)]⟩
theorem Zb {a b c:Int}:ct af 36 [(0,.int .i64 a),(1,.int .i64 b),(2,.int .i64 c)]= .ok (.agg ⟨[.int .i64 a,.int .i64 b,.int .i64 c]⟩):=by kernel_rfl
theorem S7:aR af 199= .ok 1:=by kernel_rfl
theorem Mz (hi:ns[i]?=some w) (hnd:ns.Nodup) (h:A.get mn=some (.map (bB (ns.take i) 0) i)):
 c_ af A 199 (.map (some mn)) (aj w) (iN (i+1))= .ok (A.set mn (.map (bB (ns.take (i+1)) 0) (i+1))):=by
 obtain⟨hl,rfl⟩:=qap.1 hi;have htl:(ns.take i).length=i:=by rw [qaE];omega
 have hnot:ns[i]∉ns.take i:=fun hm=>by
  obtain⟨j,hj,e⟩:=qbM hm;rw [List.getElem_take] at e;exact qbs.1 hnd j i (by omega) hl (by omega) e
 have:=Gh (A:=A) (mn:=mn) (ns:=ns.take i) (w:=ns[i]) (by rw [htl];exact h) hnot;rw [htl] at this;rw [this,qaC hl,qar,htl];rfl
theorem Hf {ih:Code→St→R (Ex×St)} (h:A.get m=some (.map es c)):bA af ih (.fn 180 [.iface 199 (.map (some m))]) A= .ok (.val (.iface 199 (.map (some A.next))) (A.alloc (.map es c))):=by
 have e:bA af ih (.fn 180 [.iface 199 (.map (some m))]) A=((match A.get m with
  |some (.map es clock)=>R.ok (Value.iface 199 (.map (some A.next)),A.alloc (.map es clock))
  |_=>.no 237).bind fun(v,A')=>.ok (.val v A')):=by kernel_rfl
 rw [e,h];rfl
variable {v:Value}
theorem X4:Om af 199 v= .ok (.iface 199 v):=by kernel_rfl
theorem W9:rA af (.iface 199 (.map (some m))) 199 false= .ok (.map (some m)):=by kernel_rfl
theorem XJ {g:Nat→Option Ob} {x:Operand}:vY af g .eql 199 x (.const (.map none)) (.map (some m)) (.map none)= .ok (.bool false):=by kernel_rfl
theorem LN (h:A.get m=some (.map es c)):bg af 125 [.map (some m)] A (.map (some A.next)) (A.alloc (.map es c)):=by
 have k1:=fun ih=>Hf (ih:=ih) h
 refine bm 60 (aq Tryz.func125) (by kernel_rfl) fun M=>?_
 simp (disch:=first|decide+kernel|omega) only [Tryz.f125,Aq,qal,bW,XJ,AE,Ly,X4,k1,HV,W9]<;>rfl
noncomputable def Rt:Code:=qez.body.getD .skip
noncomputable def Nm:Code:=sub Rt [1,0,1,0,0]
theorem Ux:qez.body=some (.seq (sub Rt [0]) (.seq (.seq (sub Rt [1,0,0]) (.block 0 (.loop Nm))) (sub Rt [1,1]))):=by kernel_rfl
end Go.Proofs.YtjoceidiioppiaaGreatDoor.sto
namespace Go.Am
section
variable {tb:bO} {e st:TypeId} {n:Nat}
def ie (A:Mem) (e:TypeId) (n b:Nat) (P:List (List Value)) (x:Value):Prop:=∃(Q:List (List Value)) (c:Nat) (k:Kd),x= .slice (some ⟨b,0,none⟩) P.length c∧b<A.next∧dw A e b k Q.flatten∧(∀l∈Q,l.length=n)∧bJ c=Q.length∧P.length≤Q.length∧Q.take P.length=P∧(dN c=true∨(dN c=false∧gO c=n∧k= .row))
variable {A A':Mem} {b:Nat} {P:List (List Value)}
theorem ie.same {x:Value} (h:ie A e n b P x) (hn:A.next≤A'.next) (hg:A'.get b=A.get b):ie A' e n b P x:=by
 obtain⟨Q,c,k,h1,h2,h3,h4⟩:=h;exact⟨Q,c,k,h1,qaD h2 hn,h3.same hg,h4⟩
theorem ie.len {x:Value} (h:ie A e n b P x) (hu:tb.ba st=some (.slice e)):aN tb .len [st] [x]= .ok (iN P.length):=by
 obtain⟨Q,c,k,rfl,-⟩:=h;exact eu hu
variable {i:Nat}
theorem ie.idx {x:Value} (h:ie A e n b P x) (hu:tb.ba st=some (.slice e)) (hs:aR tb e= .ok n) (hi:i<P.length):aU tb st x (.int .i64 i)= .ok (pw b (i*n)):=by
 obtain⟨Q,c,k,rfl,-⟩:=h;have hb:qax i P.length=true:=by rw [qaH];exact hi
 have hn:kU (.int .i64 i)= .ok i:=rfl;unfold aU;simp only [hn,hu,hb,cond_true,hs,R.aw,h_,qa1]
variable {l:List Value}
theorem ie.row {x:Value} (h:ie A e n b P x) (hi:P[i]?=some l):l.length=n∧∃k Q,dw A e b k Q∧∀j,j<n→Q[i*n+j]?=l[j]?:=by
 obtain⟨Q,c,k,rfl,h2,h3,hq,h4,h5,h6,h7⟩:=h;have hil:=(qap.1 hi).1;have hr:Q[i]?=some l:=by rw [←hi,←h6,qbm,if_pos hil]
 exact⟨hq l (qa0 hr),k,_,h3,fun j hj=>dy hq hr hj⟩
variable {j:Nat} {v:Value}
theorem ie.load {x:Value} {t:TypeId} {d:TypeDesc} (h:ie A e n b P x) (hi:P[i]?=some l) (hu:tb.ba t=some d) (ha:bQ d=false) (hj:l[j]?=some v):ag tb A.get t (pw b (i*n+j))= .ok v:=by
 obtain⟨hl,k,Q,h1,h2⟩:=h.row hi;exact aQ hu ha h1 (by rw [h2 j (by rw [←hl];exact(qap.1 hj).1)];exact hj)
theorem ie.aI {x:Value} {t:TypeId} {d:TypeDesc} (h:ie A e n b P x) (hu:tb.ba t=some d) (ha:bQ d=true) (hs:aR tb t= .ok n) (hi:P[i]?=some l):ag tb A.get t (pw b (i*n))= .ok (.agg ⟨l⟩):=by
 obtain⟨Q,c,k,rfl,h2,⟨cs,h5,h6⟩,hq,h4,h8,h9,h7⟩:=h;have hil:=(qap.1 hi).1;have hr:Q[i]?=some l:=by rw [←hi,←h9,qbm,if_pos hil]
 have hl:l.length=n:=hq l (qa0 hr);have hg:cs.iu n (i*n)=some l:=fq _ _ _ _ hl fun j hj=>by rw [h6 (i*n+j) (pI hq (by omega) hj),dy hq hr hj]
 unfold ag;simp only [h5,hu,ha,cond_true,hs,R.aw,hg]
theorem ie.field {x:Value} {t:TypeId} (h:ie A e n b P x) (hs:aR tb t= .ok 1) (hi:P[i]?=some l) (hj:j<n) (hv:v.cells.toList=[v]) (h1c:aJ v=true):
 ∃A',aW tb A t (pw b (i*n+j)) v= .ok A'∧ie A' e n b (P.set i (l.set j v)) x∧A'.next=A.next∧∀z,z≠b→A'.get z=A.get z:=by
 obtain⟨Q,c,k,rfl,h2,h3,hq,h4,h5,h6,h7⟩:=h;have hil:=(qap.1 hi).1;have hr:Q[i]?=some l:=by rw [←hi,←h6,qbm,if_pos hil]
 have hl:l.length=n:=hq l (qa0 hr);have hlen:=pI hq (i:=i) (j:=j) (by omega) hj;have hq':∀x∈Q.set i (l.set j v),x.length=n:=fun x hx=>by
  rcases qbR hx with hx|rfl
  ·exact hq x hx
  ·rw [qaQ];exact hl
 obtain⟨A',g1,g2,g3,g4⟩:=h3.put (o:=i*n+j) (vs:=[v]) (fun w hw=>by rw [qaY.1 hw];exact h1c) (by rw [qaS];omega) (by simp);refine⟨A',?_,⟨Q.set i (l.set j v),c,k,by rw [qaQ],by omega,g4 _ (by rw [cM hq',cM hq,qaQ]) fun m hm=>?_,hq',by rw [qaQ];exact h4,by rw [qaQ,qaQ];exact h5,by rw [qaQ,List.take_set,h6],h7⟩,g2,g3⟩
 ·unfold aW;simp only [hs,R.aw,hv,qaS,qcJ,cond_true];exact g1
 ·rw [mw hq (by rw [qaQ];exact hl) (by omega) m hm,qaS];by_cases hin:i*n≤m∧m<i*n+n
  ·rw [if_pos hin,qbB];by_cases hmj:j=m-i*n
   ·rw [if_pos hmj,if_pos (by omega),if_pos ⟨by omega,by omega⟩];have:m-(i*n+j)=0:=by omega
    rw [this];rfl
   ·rw [if_neg hmj,if_neg (by omega)];have:=dy hq hr (j:=m-i*n) (by omega);rw [show i*n+(m-i*n)=m by omega] at this;exact this.symm
  ·rw [if_neg hin,if_neg (by omega)]
theorem ie.push {b2:Nat} {p z:List Value} {x:Value} {ti:TypeInfo} (h:ie A e n b P x) (hu:tb.ba st=some (.slice e)) (hz:cm tb e= .ok (n,z)) (t1:tb.ty.get e=some ti) (t2:0<ti.bytes) (t3:ti.bytes≤65536) (hn0:0<n) (hn1:n<65536) (hb2:A.get b2=some (aa e p)) (hp:p.length=n) (h1c:∀v∈p,aJ v=true) (hl:P.length<1000000) (hP:n*P.length<9000000000000000000):
 ∃x' A' b',bj tb A st st x (.slice (some ⟨b2,0,none⟩) 1 2)= .ok (x',A')∧ie A' e n b' (P++[p]) x'∧(b'=b∨b'=A.next)∧A.next≤A'.next∧∀y,y≠b→y<A.next→A'.get y=A.get y:=by
 obtain⟨Q,c,k,rfl,h2,h3,hq,h4,h5,h6,h7⟩:=h;have hnew:eN A.get n 1 (.slice (some ⟨b2,0,none⟩) 1 2)= .ok p:=ep (n:=n) (m:=1) (dz (e:=e) (k:=.var p.length) hb2) (by rw [qcG];exact hp);have hlen:=cM hq;by_cases hroom:P.length+1≤Q.length
 ·have hmul:=qcK n hroom;rw [qcl,qcG] at hmul;obtain⟨A',e1,e2,e3,e4⟩:=h3.put (o:=P.length*n) (vs:=p) h1c (by omega) (fun hh=>by rw [hh] at hp;simp at hp;omega);have hble:qaq (P.length+1) (bJ c)=true:=qbd (by omega);have hq':∀x∈Q.set P.length p,x.length=n:=fun x hx=>by
   rcases qbR hx with hx|rfl
   ·exact hq x hx
   ·exact hp
  refine⟨.slice (some ⟨b,0,none⟩) (P.length+1) c,A',b,?_,⟨Q.set P.length p,c,k,by rw [qar];rfl,by omega,?_,hq',by rw [qaQ];exact h4,by rw [qaQ,qar];exact hroom,?_,h7⟩,.inl rfl,by omega,fun y hy _=>e3 y hy⟩
  ·unfold bj cO;simp only [hu,eP,cond_false,hz,R.aw,gP,hnew,hble,cond_true,h_,qa1,e1]
  ·refine e4 _ ?_ fun j hj=>?_
   ·rw [hlen,cM hq',qaQ]
   ·rw [mw hq hp (by omega) j hj,hp]
  ·rw [qar,qaS,qaC (by rw [qaQ];omega),List.take_set_of_le (qao _),h6,List.getElem_set_self]
 ·have hRP:Q=P:=by rw [←h6,qcq (by omega)]
  have hble:qaq (P.length+1) (bJ c)=false:=by
   cases hq:qaq (P.length+1) (bJ c) with
   |false=>rfl
   |true=>have:=qaG hq;omega
  have hlim:(qaq (P.length+1) 16777216&&qaq ti.bytes 65536&&qax 0 ti.bytes&&qax 0 n&&qax n 65536)=true:=by
   have a1:qaq (P.length+1) 16777216=true:=qbd (by omega);have a2:qaq ti.bytes 65536=true:=qbd t3;have a3:qax 0 ti.bytes=true:=by rw [qaH];exact t2
   have a4:qax 0 n=true:=by rw [qaH];exact hn0
   have a5:qax n 65536=true:=by rw [qaH];exact hn1
   rw [a1,a2,a3,a4,a5];rfl
  have hel:c9 A.get n P.length (some ⟨b,0,none⟩)= .ok Q.flatten:=ep h3 (by rw [hlen,hRP]);have fin:∀A0:Mem,A0.next=A.next→ie (A0.alloc (.cells e .row 0 (T.bK .e 0 (Q.flatten++p)))) e n A.next (P++[p]) (.slice (some ⟨A.next,0,none⟩) (P.length+1) (fQ (P.length+1) n)):=fun A0 hn=>
   ⟨P++[p],fQ (P.length+1) n,.row,by rw [qar];rfl,by rw [ae];omega,by rw [List.flatten_append,←hRP];simp only [qb3,List.flatten_nil,qbt];exact dz (by rw [←hn];exact ax _ _),fun l hl=>by
    rcases qbF.1 hl with hl|hl
    ·exact hq l (hRP▸hl)
    ·rw [qaY.1 hl];exact hp,by rw [cD hn1,qar];rfl,qao _,qaR,.inr ⟨cX _ _,c7 hn1,rfl⟩⟩
  rcases h7 with hx|⟨hx,he,rfl⟩
  ·refine⟨_,A.alloc (.cells e .row 0 (T.bK .e 0 (Q.flatten++p))),A.next,?_,fin A rfl,.inr rfl,by rw [ae];omega,fun y _ hlt=>aB (by omega)⟩;unfold bj cO;simp only [hu,eP,cond_false,hz,R.aw,gP,hnew,hble,t1,hlim,cond_true,hel,hx]
  ·obtain⟨cs,q1,q2⟩:=h3;have hone:p.all aJ=true:=qby.2 h1c;have hbe:qaw (gO c) n=true:=by rw [he];exact qcJ n
   have hfz:(qaq 0 (0+P.length*n)&&(qaw e e&&qax 0 9223372036854775808))=true:=by
    have h0:qax 0 9223372036854775808=true:=by rw [qaH];omega
    rw [h0,qcJ];simp
   refine⟨_,(A.set b .dead).alloc (.cells e .row 0 (T.bK .e 0 (Q.flatten++p))),A.next,?_,fin (A.set b .dead) (aO _ _ _),.inr rfl,by rw [ae,aO];omega,fun y hy hlt=>by rw [aB (by rw [aO];omega),aC,if_neg hy]⟩;unfold bj cO;simp only [hu,eP,cond_false,hz,R.aw,gP,hnew,hble,t1,hlim,cond_true,hel,hx,hbe,hone,qci,q1,hfz]
theorem ie.pop {p:List Value} {x:Value} (h:ie A e n b (P++[p]) x) (hu:tb.ba st=some (.slice e)) (hs:aR tb e= .ok n):∃x',c6 tb st x none (some (.int .i64 (P.length:Nat))) none= .ok x'∧ie A e n b P x':=by
 obtain⟨Q,c,k,rfl,h2,h3,hq,h4,h5,h6,h7⟩:=h;rw [qar,qaS] at*;have e1:bound (some (.int .i64 (P.length:Nat))) (P.length+1) (bJ c)= .ok P.length:=fA (by omega);have hx:(dN c&&qaw (bJ c) 0)=false:=by
  have:qaw (bJ c) 0=false:=by
   cases hq:qaw (bJ c) 0 with
   |false=>rfl
   |true=>have:=qaL hq;omega
  rw [this,Bool.and_false]
 have hf:dV c n=true:=by
  unfold dV;rcases h7 with h|⟨h,he,-⟩
  ·rw [h];rfl
  ·rw [h,he,cond_false];exact qcJ n
 refine⟨.slice (some ⟨b,0,none⟩) P.length (gh c 0),?_,Q,gh c 0,k,rfl,h2,h3,hq,by rw [gS,h4,qbA],by omega,?_,?_⟩
 ·unfold c6;simp only [hu,e1,R.aw,eX,hs,hx,cond_false,hf,cond_true,h_,qcN,qa8,qbA]
 ·have:=congrArg (qeM P.length) h6;rwa [List.take_take,qbr (by omega),List.take_left] at this
 ·rw [jO];rcases h7 with h|⟨h,he,hk⟩
  ·exact .inl h
  ·exact .inr ⟨h,by rw [rK h];exact he,hk⟩
theorem P8 {p:List Value} {k:Kd} (hb:b<A.next) (h:dw A e b k p) (hp:p.length=n):ie A e n b [p] (.slice (some ⟨b,0,none⟩) 1 2):=
 ⟨[p],2,k,rfl,hb,by simpa using h,fun l hl=>by rw [qaY.1 hl];exact hp,rfl,qao _,rfl,.inl rfl⟩
end
end Go.Am
end
