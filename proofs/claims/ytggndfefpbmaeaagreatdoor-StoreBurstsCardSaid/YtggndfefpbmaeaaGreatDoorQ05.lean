/- The abstract machine, the walk of the law and its plain laws, made small by a program; part 5: no conditions but those in each theorem. -/
import Derived.Test.YtggndfefpbmaeaaGreatDoorQ04
set_option maxHeartbeats 16000000
set_option maxRecDepth 100000
set_option linter.unusedSimpArgs false
set_option linter.unusedVariables false
noncomputable section
open Nat renaming reduceEqDiff→X2,reduceAdd→X3,ble→X5,le_refl→X9,beq→Yc,blt→Ye,zero_le→Yg,blt_eq→Yl,lt_of_lt_of_le→Yt,le_of_ble_eq_true→Yx,le_trans→YC,lt_or_ge→YE,add_zero→YU,lt_of_le_of_lt→Y5,sub_self→Zg,lt_irrefl→Zk,not_lt_zero→ZR,beq_eq→qab,sub_add_cancel→qak,add_sub_cancel→qam,add_assoc→qaO,ble_eq→qaT,le_of_lt→qbX
open List renaming getElem?_eq_getElem→X6,getElem?_cons_succ→X7,getElem?_cons_zero→X8,getElem?_eq_some_iff→X_,length_append→X',length_map→Yb,take_succ_eq_append_getElem→Yd,length_cons→Yf,length_eq_zero_iff→Yh,mem_cons_self→Yk,length_take→Yo,mem_cons→Yp,getElem?_map→Yr,length_nil→Ys,take_length→Yw,getElem?_append_left→Yz,getElem?_append_right→YA,mem_of_getElem?→YF,not_mem_nil→YH,map_eq_nil_iff→YK,length_pos_iff→YM,getElem_mem→YQ,filter_cons→YS,map_append→YV,getD_eq_getElem?_getD→YZ,flatMap_cons→Y0,append_assoc→Y1,drop_eq_getElem_cons→Y3,nil_append→Y6,length_singleton→Y9,append_nil→Y',foldl_cons→Zh,length_drop→Zj,mem_filter→Zq,take_of_length_le→Zt,pairwise_iff_getElem→Zv,foldl_append→ZA,length→ZD,drop_zero→Z5,getElem_of_mem→qay,filter_append→qaC,length_filter_le→qaL,findIdx?_eq_none_iff→qaS,exists_mem_of_ne_nil→qaU,drop_drop→qa0,prefix_append→qbd,drop_eq_nil_of_le→qbj,nodup_nil→qbs,drop_eq_nil_iff→qbC,prefix_refl→qbD,getElem_map→qbH,drop_length→qb7,drop_left→qcg
open Bool renaming and_eq_true→Yq,not_true→Zo,not_false→ZL
open Option.some renaming injEq→YB,inj→YJ
open Option renaming map_some→YI,getD_some→Za
open List.cons renaming injEq→YL
open Go.Proofs.Tryz renaming prog→YO,f101→Y_,f168→Zy,f197→ZF,f102→ZN,f79→Z2,f120→Z7,f167→qaj,f170→qaF,f152→qaI,f100→qba,f99→qbP,f151→qbU,f195→qb0,f118→qcp
open Classical renaming byCases→ZP
open UInt8 renaming toNat_inj→ZS,lt_iff_toNat_lt→qaN
open Int.ofNat renaming inj→qa9
namespace Go.Am
variable {tb:bI} {n:Nat}
theorem W.to {c:Code} {s:St} {K:Ex→St→Prop} (P:T Value→Mem→Prop) (h:W tb c s fun e s'=>e= .nrm∧∃t D,s'=⟨t,n,[],D,none⟩∧P t D) (k:∀t D,P t D→K .nrm ⟨t,n,[],D,none⟩):W tb c s K:=h.mono fun e s' hs=>by
 obtain⟨rfl,t,D,rfl,hp⟩:=hs;exact k t D hp
end Go.Am
namespace Go.Proofs.YtggndfefpbmaeaaGreatDoor.sto
open Go.Am Go.Sto
theorem N3:bU.bp 162=some (.slice 172):=by kernel_rfl
theorem RN:aY bU 172= .ok 3:=by kernel_rfl
theorem S_:cq bU 172= .ok (3,[.int .u8 0,.int .u64 0,.int .i64 0]):=by kernel_rfl
theorem NO:b7 bU 172= .ok (.agg ⟨[.int .u8 (0:Nat),.int .u64 (0:Nat),.int .i64 (0:Nat)]⟩):=by kernel_rfl
theorem Nl:b7 bU 164= .ok (.agg ⟨[.slice none 0 0,.bool false,.int .u64 (0:Nat)]⟩):=by kernel_rfl
theorem Mj:aY bU 164= .ok 3:=by kernel_rfl
theorem VV:aY bU 162= .ok 1:=by kernel_rfl
theorem LN:aY bU 103= .ok 1:=by kernel_rfl
theorem XP:aY bU 4= .ok 1:=by kernel_rfl
variable {b o:Nat}
theorem Qg:ax bU 164 (pw b o) 0= .ok (pw b o):=by kernel_rfl
theorem wc:ax bU 164 (pw b o) 1= .ok (pw b (o+1)):=by kernel_rfl
theorem PF:ax bU 164 (pw b o) 2= .ok (pw b (o+2)):=by kernel_rfl
theorem PE:ax bU 172 (pw b o) 1= .ok (pw b (o+1)):=by kernel_rfl
theorem Q1:ax bU 172 (pw b o) 2= .ok (pw b (o+2)):=by kernel_rfl
theorem Ti {a:Int}:cr bU 172 [(0,.int .u8 a)]= .ok (.agg ⟨[.int .u8 a,.int .u64 (0:Nat),.int .i64 (0:Nat)]⟩):=by kernel_rfl
theorem S8 {a o n:Int}:bc bU 162 1 [(0,.agg ⟨[.int .u8 a,.int .u64 o,.int .i64 n]⟩)]= .ok (aa 172 [.int .u8 a,.int .u64 o,.int .i64 n],.m_ 1 2):=by kernel_rfl
theorem Tw:∃i,bU.ty.get 172=some i∧0<i.bytes∧i.bytes≤65536:=by
 have h:(bU.ty.get 172).map (fun i=>Ye 0 i.bytes&&X5 i.bytes 65536)=some true:=by kernel_rfl
 cases hq:bU.ty.get 172 with
 |none=>rw [hq] at h;cases h
 |some i=>
  rw [hq] at h;simp only [YI,YB,Yq,Yl] at h;exact⟨i,rfl,h.1,Yx h.2⟩
theorem Jg (a:cO):∀v∈cc a,aJ v=true:=by
 intro v hv;simp only [cc,Yp,YH,or_false] at hv;rcases hv with rfl|rfl|rfl<;>rfl
variable {c:Nat} {y:Value}
theorem MO {D:Mem} {l:List cO} {a:cO} (h:az D 172 3 c (l.map cc) y) (hl:l.length<1000000):
 ∃y' D',bk bU (D.alloc (aa 172 (cc a))) 162 162 y (.slice (some ⟨D.next,0,none⟩) 1 2)= .ok (y',D')∧az D' 172 3 (D.next+1) ((l++[a]).map cc) y'∧D'.next=D.next+2∧∀z,(z=c→y= .slice none 0 0)→z<D.next→D'.get z=D.get z:=by
 obtain⟨i,t1,t2,t3⟩:=Tw;have h':az (D.alloc (aa 172 (cc a))) 172 3 c (l.map cc) y:=h.same (by rw [ae];omega) fun hh=>aH (by omega)
 obtain⟨x',D',h1,h2,h3,h4⟩:=az.append (tb:=bU) (st:=162) (xt:=162) h' N3 N3 S_ t1 t2 t3 (by omega) (by omega) (by rw [Yb];omega) (aD D _) rfl (Jg a);rw [ae] at h2 h3 h4;exact⟨x',D',h1,by rw [YV];exact h2,by omega,fun z hz hzn=>by rw [h4 z hz (by omega),aH (by omega)]⟩
variable {A:Mem} {n:Nat} {ls:List (List Value)}
theorem yT {e:TypeId} {x:Value} (h:az A e n b ls x) (h0:ls≠ []):b<A.next:=by
 rcases h with⟨-,h⟩|⟨_,_,_,h,_⟩
 ·exact absurd h h0
 ·exact h
noncomputable def mK:Code:=qaj.body.getD .skip
noncomputable def CH:Code:=sub mK [1,1,1,0,1,0,0]
theorem Qx:qaj.body=some (.seq (sub mK [0]) (.seq (sub mK [1,0]) (.seq (.seq (sub mK [1,1,0,0]) (sub mK [1,1,0,1])) (.seq (.seq (sub mK [1,1,1,0,0]) (.block 0 (.loop CH))) (.seq (sub mK [1,1,1,1,0]) (sub mK [1,1,1,1,1])))))):=by kernel_rfl
def Pr (p q i:Nat) (st:bj) (s r:List UInt8) (k:Nat) (D:Mem):Prop:=∃a c x,tv D p s a∧s.drop a=(st.arcs.drop k).flatMap (im i)++r∧a+((st.arcs.drop k).flatMap (im i)).length+r.length=s.length∧VB D 164 q (.var 3) (cW x ⟨st.fin,st.out,[]⟩)∧
 az D 172 3 c ((st.arcs.take k).map cc) x∧(k=0→x= .slice none 0 0)∧(k≠0→q<c)
variable {r:List UInt8}
theorem SO {s w:List UInt8} {a:Nat} (h:s.drop a=w++r) (hw:a≤s.length):a+w.length+r.length=s.length:=by
 have:=congrArg ZD h;rw [Zj,X'] at this;omega
variable {p q i k:Nat} {t:T Value}
theorem Kf {st:bj} {s:List UInt8} {D:Mem} (hs:s.length<900000) (hpq:p<q) (hi:i<1000000) (hl:st.arcs.length≤256) (ha:∀x∈st.arcs,x.to<i∧x.out<18446744073709551616) (hk:k<st.arcs.length) (h:Pr p q i st s r k D)
 (hsl:Sl t [(0,pV p),(1,.int .u64 i),(4,pV q),(19,.int .u64 (st.arcs.length:Nat)),(20,.int .u64 k)]):
 W bU CH ⟨t,43,[],D,none⟩ fun e s'=>e= .nrm∧∃t' D',s'=⟨t',43,[],D',none⟩∧Pr p q i st s r (k+1) D'∧(D.next≤D'.next∧∀z,z<q→z≠p→D'.get z=D.get z)∧Sl t' [(0,pV p),(1,.int .u64 i),(4,pV q),(19,.int .u64 (st.arcs.length:Nat)),(20,.int .u64 (k+1:Nat))]:=by
 obtain⟨a,c,x,hR,hd,hae,hV,hS,hx0,hc⟩:=h;obtain⟨g0,g1,g4,g19,g20,-⟩:=hsl;have hmem:=YQ hk;obtain⟨ht,ho⟩:=ha _ hmem;have hdk:st.arcs.drop k=st.arcs[k]::st.arcs.drop (k+1):=Y3 hk;rw [hdk,Y0] at hd hae;have htk:st.arcs.take (k+1)=st.arcs.take k++[st.arcs[k]]:=Yd hk;generalize st.arcs[k]=ar at*;generalize hw:(st.arcs.drop (k+1)).flatMap (im i)=w at*;have hcD:k≠0→c<D.next:=fun h0=>yT hS (by
  intro hn;have:=congrArg ZD hn;rw [Yb,Yo,Ys] at this;omega)
 have hd1:s.drop a=ar.byte::(bH ar.out++(bH (i-ar.to)++(w++r))):=by rw [hd];simp [im]
 obtain⟨v1,E1,⟨e1,h1⟩,rfl,R1,K1⟩:=Dw (f:=209) (y:=[]) hR hs hd1 fun B _=>P9
 have hd2:s.drop (a+1)=bH ar.out++(bH (i-ar.to)++(w++r)):=by rw [←qa0,hd1];rfl
 have kF:=Kp.alloc E1 (aa 172 [.int .u8 (ar.byte.toNat:Nat),.int .u64 (0:Nat),.int .i64 (0:Nat)]);have v2:=aF E1 172 [.int .u8 (ar.byte.toNat:Nat),.int .u64 (0:Nat),.int .i64 (0:Nat)];have sF:aW bU (E1.alloc (aa 172 [.int .u8 (0:Nat),.int .u64 (0:Nat),.int .i64 (0:Nat)])) 172 (pw E1.next 0) (.agg ⟨[.int .u8 (ar.byte.toNat:Nat),.int .u64 (0:Nat),.int .i64 (0:Nat)]⟩)= .ok (E1.alloc (aa 172 [.int .u8 (ar.byte.toNat:Nat),.int .u64 (0:Nat),.int .i64 (0:Nat)])):=bn RN rfl rfl (by simp) (by simp [aJ]);have nF:(E1.alloc (aa 172 [.int .u8 (ar.byte.toNat:Nat),.int .u64 (0:Nat),.int .i64 (0:Nat)])).next=E1.next+1:=ae _ _
 have R2:=R1.kp kF;generalize E1.alloc (aa 172 [.int .u8 (ar.byte.toNat:Nat),.int .u64 (0:Nat),.int .i64 (0:Nat)])=F at kF v2 sF nF R2;obtain⟨v3,E2,⟨e2,h2⟩,rfl,R3,K2⟩:=jS (lo:=0) (hi:=18446744073709551615) R2 hs ho hd2 ⟨Yg _,by omega⟩;obtain⟨-,hd3,-⟩:=jn ho hd2;have hpD:p<D.next:=hR.1
 have n1:=K1.1;have n2:=K2.1;obtain⟨G,sG,vG,nG,fG⟩:=a_ (tb:=bU) (t:=103) (o:=1) (v:=.int .u64 ar.out) LN (v2.2.same (K2.2 _ (by omega) (by omega))) (by simp) rfl rfl;have R4:tv G p s (a+1+(bH ar.out).length):=⟨by rw [nG];exact R3.1,R3.2.same (fG p (by omega))⟩;obtain⟨v4,E3,⟨e3,h3⟩,rfl,R5,K3⟩:=jS (n:=i-ar.to) (lo:=1) (hi:=i) R4 hs (by omega) hd3 ⟨by omega,by omega⟩;obtain⟨-,hd4,hle⟩:=jn (show i-ar.to<18446744073709551616 by omega) hd3;have n3:=K3.1;have su:aN .sub .u64 ((i:Nat):Int) ((i-ar.to:Nat):Int)= .ok (.int .u64 (ar.to:Nat)):=by rw [bq (by omega) (cL (by omega)),show i-(i-ar.to)=ar.to by omega]
 have cv:=bu (tb:=bU) (s:=103) (d:=3) (k:=.u64) (n:=ar.to) (by rw [i103];rfl) i3 (aR (by omega));obtain⟨H,sH,vH,nH,fH⟩:=a_ (tb:=bU) (t:=3) (o:=2) (v:=.int .i64 ar.to) Ut (vG.same (K3.2 _ (by omega) (by omega))) (by simp) rfl rfl;have lw:aq bU H.get 172 (pw E1.next 0)= .ok (.agg ⟨cc ar⟩):=by
  obtain⟨d,hd1,hd2⟩:=zp (t:=172) (p:=true) (by kernel_rfl);exact aQ hd1 hd2 RN vH
 have keep:∀z,z<D.next→z≠p→H.get z=D.get z:=fun z hz hp=>by
  rw [fH z (by omega),K3.2 z (by omega) hp,fG z (by omega),K2.2 z (by omega) hp,kF.2 z (by omega),K1.2 z hz hp]
 have hqD:=hV.1;have VH:dD H 164 q (.var 3) (cW x ⟨st.fin,st.out,[]⟩):=hV.2.same (keep q hqD (by omega));have lx:aq bU H.get 162 (pw q 0)= .ok x:=VB.ld (tb:=bU) ⟨by omega,VH⟩ rfl N3 rfl;have SH:az H 172 3 c ((st.arcs.take k).map cc) x:=az.fA hS (fun h=>hx0 (by
  have:=congrArg ZD h;rw [Yb,Yo,Ys] at this;omega)) (by omega) fun hne hlt=>keep c hlt (by
   have:k≠0:=fun h=>hne (by rw [h];rfl)
   have:=hc this;omega)
 obtain⟨y',J,happ,hs3,hn3,hf3⟩:=MO (a:=ar) SH (by rw [Yo];omega);have happ':bk bU (H.alloc (aa 172 [.int .u8 (ar.byte.toNat:Nat),.int .u64 ar.out,.int .i64 ar.to])) 162 162 x (.slice (some ⟨H.next,0,none⟩) 1 2)= .ok (y',J):=happ;have hqc:q=c→x= .slice none 0 0:=fun e=>ZP (fun h0:k=0=>hx0 h0) fun h0=>by have:=hc h0;omega
 obtain⟨L,sL,vL,nL,fL⟩:=a_ (tb:=bU) (t:=162) (o:=0) (v:=y') VV (VH.same (hf3 q hqc (by omega))) (by simp [cW]) (az.dm hs3).1 (az.dm hs3).2;have RL:tv L p s (a+1+(bH ar.out).length+(bH (i-ar.to)).length):=⟨by have:=R5.1;omega,R5.2.same (by
  have hp5:=R5.1;rw [fL p (by omega),hf3 p (fun e=>ZP (fun h0:k=0=>hx0 h0) fun h0=>by have:=hc h0;omega) (by omega),fH p (by omega)])⟩
 have a1:aN .add .u64 ((k:Nat):Int) ((1:Nat):Int)= .ok (.int .u64 (k+1:Nat)):=a9 (cL (by omega));have lk:aN .lss .u64 ((k:Nat):Int) ((st.arcs.length:Nat):Int)= .ok (.bool true):=by rw [Bz];simp [hk]
 simp only [pV] at*;apply W.a6 (e1+e2+e3) 20
 ·intro M hM;simp (disch:=first|decide+kernel|omega) only [CH,mK,qaj,Aq,X2,mr,g0,g1,g4,g19,g20,lk,h1,Ti,NO,au,sF,h2,PE,Q1,sG,h3,su,cv,sH,Qg,lx,lw,cc,S8,happ',sL,a1];rfl
 refine⟨rfl,_,L,rfl,⟨_,H.next+1,y',RL,by rw [hw];exact hd4,by rw [hw];simp only [im,Yf,X'] at hae;omega,⟨by omega,vL⟩,?_,fun h=>by omega,fun _=>?_⟩,⟨by omega,fun z hz hp=>?_⟩,?_⟩
 ·rw [htk];exact hs3.same (by omega) fun h=>fL _ (by omega)
 ·omega
 ·rw [fL z (by omega),hf3 z (fun e=>ZP (fun h0:k=0=>hx0 h0) fun h0=>by have:=hc h0;omega) (by omega),keep z (by omega) hp]
 ·simp only [av,aw,T.af,T.ag,T.ak,X2,X3,if_true,if_false,and_true,true_and,g0,g1,g4,g19]
theorem zc (st:bj):nd st=bH (2*st.arcs.length+(if st.fin then 1 else 0))++(if st.fin then bH st.out else []):=by
 unfold nd;cases st.fin<;>simp
theorem GV {a:Nat} {s:List UInt8} {st:bj} (h:tv A p s a) (hs:s.length<900000) (hi:i<1000000) (hl:st.arcs.length≤256) (hf:st.fin=false→st.out=0) (ho:st.out<18446744073709551616) (ha:∀x∈st.arcs,x.to<i∧x.out<18446744073709551616) (hd:s.drop a=FH i st++r):
 ∃v A',bL bU 167 [pV p,.int .u64 i] A v A'∧tv A' p s (a+(FH i st).length)∧wm p A A'∧∃x c,v= .agg ⟨cW x st⟩∧az A' 172 3 c (st.arcs.map cc) x∧(st.arcs=[]→x= .slice none 0 0)∧(st.arcs≠ []→A.next<c):=by
 refine cS (fQ Tryz.func167) Qx (by rw [Tryz.ntmps167];simp) (by kernel_rfl) (by kernel_rfl) ?_;have hae:a≤s.length:=by
  rcases YE s.length a with h|h
  ·rw [qbC.2 (by omega)] at hd;have:=congrArg ZD hd;have h1:=C_ (2*st.arcs.length+(if st.fin then 1 else 0));unfold FH at this;rw [zc] at this;simp only [Ys,X'] at this;omega
  ·exact h
 have hend:=SO hd hae;have kB:=Kp.alloc A (aa 164 [.slice none 0 0,.bool false,.int .u64 (0:Nat)]);have vB:=aF A 164 [.slice none 0 0,.bool false,.int .u64 (0:Nat)];apply W.seq;apply W.run 20
 ·intro M;simp (disch:=first|decide+kernel|omega) only [mK,qaj,Aq,X2,Nl,au];rfl
 show W bU _ _ _;have RB:=h.kp kB;generalize A.alloc (aa 164 [.slice none 0 0,.bool false,.int .u64 (0:Nat)])=B at kB vB RB;have hpA:=h.1;have hd0:s.drop a=bH (2*st.arcs.length+(if st.fin then 1 else 0))++((if st.fin then bH st.out else [])++(st.arcs.flatMap (im i)++r)):=by rw [hd,FH,zc];simp
 have hn:2*st.arcs.length+(if st.fin then 1 else 0)≤513:=by split<;>omega
 obtain⟨v1,C,⟨e1,h1⟩,rfl,R1,K1⟩:=jS (lo:=0) (hi:=513) RB hs (by omega) hd0 ⟨Yg _,hn⟩;obtain⟨-,hd1,-⟩:=jn (show 2*st.arcs.length+(if st.fin then 1 else 0)<18446744073709551616 by omega) hd0;have hstl:(FH i st).length=(bH (2*st.arcs.length+(if st.fin then 1 else 0))).length+(if st.fin then bH st.out else []).length+(st.arcs.flatMap (im i)).length:=by rw [FH,zc];simp [qaO]
 have b1:=vB.1;have k1:=K1.1;have kb:=kB.1;have hrem:aN .rem .u64 ((2*st.arcs.length+(if st.fin then 1 else 0):Nat):Int) ((2:Nat):Int)= .ok (.int .u64 (if st.fin then 1 else 0:Nat)):=by
  have e:(2*st.arcs.length+(if st.fin then 1 else 0)) % 2=(if st.fin then 1 else 0):=by split<;>omega
  rw [tp (by omega),e]
 have hquo:aN .quo .u64 ((2*st.arcs.length+(if st.fin then 1 else 0):Nat):Int) ((2:Nat):Int)= .ok (.int .u64 (st.arcs.length:Nat)):=by
  rw [m6 (by omega) (by omega)];congr 3;split<;>omega
 generalize hN:2*st.arcs.length+(if st.fin then 1 else 0)=N at*;obtain⟨E,sE,vE,nE,fE⟩:=a_ (tb:=bU) (t:=4) (o:=1) (v:=.bool st.fin) XP (vB.2.same (K1.2 _ b1 (by omega))) (by simp) rfl rfl;have R2:tv E p s (a+(bH N).length):=⟨by have:=R1.1;omega,R1.2.same (fE p (by omega))⟩;have lf:aq bU E.get 4 (.pointer (some ⟨A.next,0+1,none⟩))= .ok (.bool st.fin):=VB.ld (tb:=bU) ⟨by omega,vE⟩ rfl i4 rfl;have kE:wm p A E:=⟨by omega,fun z hz hp=>by rw [fE z (by omega),K1.2 z (by omega) hp,kB.2 z hz]⟩;apply W.seq;simp only [pV] at*;apply W.a6 (e1) 20
 ·intro M hM;simp (disch:=first|decide+kernel|omega) only [mK,qaj,Aq,X2,h1];rfl
 show W bU _ _ _;apply W.seq;refine W.to (n:=43) (fun t D=>Pr p A.next i st s r 0 D∧wm p A D∧Sl t [(0,pV p),(1,.int .u64 i),(4,pV A.next),(5,.int .u64 N)]) ?_ ?_
 ·cases hfin:st.fin with
  |false=>
   rw [hfin] at hrem lf hd1 vE sE;apply W.seq;apply W.run 20
   ·intro M;simp (disch:=first|decide+kernel|omega) only [mK,qaj,Aq,X2,hrem,wc,sE];rfl
   show W bU _ _ _;apply W.run 20
   ·intro M;simp (disch:=first|decide+kernel|omega) only [mK,qaj,Aq,X2,wc,lf];rfl
   refine⟨rfl,_,E,rfl,⟨_,A.next,.slice none 0 0,R2,by simpa using hd1,?_,?_,az.nil _ _ _ _,fun _=>rfl,fun h=>absurd rfl h⟩,kE,?_⟩
   ·rw [hfin] at hstl;simp at hstl;simp;omega
   ·refine⟨by omega,?_⟩;rw [hf hfin];simpa [cW,hfin] using vE
   ·simp only [av,aw,T.af,T.ag,T.ak,X2,X3,if_true,if_false,and_true,true_and,pV]
  |true=>
   rw [hfin] at hrem lf hd1 vE sE;have hd1':s.drop (a+(bH N).length)=bH st.out++(st.arcs.flatMap (im i)++r):=by simpa using hd1
   obtain⟨v3,E2,⟨e2,h2⟩,rfl,R3,K2⟩:=jS (lo:=0) (hi:=18446744073709551615) R2 hs ho hd1' ⟨Yg _,by omega⟩;obtain⟨-,hd3,-⟩:=jn ho hd1';have k2:=K2.1;obtain⟨G,sG,vG,nG,fG⟩:=a_ (tb:=bU) (t:=103) (o:=2) (v:=.int .u64 st.out) LN (vE.same (K2.2 _ (by omega) (by omega))) (by simp) rfl rfl;simp only [pV] at h2;apply W.seq;apply W.run 20
   ·intro M;simp (disch:=first|decide+kernel|omega) only [mK,qaj,Aq,X2,hrem,wc,sE];rfl
   show W bU _ _ _;apply W.a6 (e2) 20
   ·intro M hM;simp (disch:=first|decide+kernel|omega) only [mK,qaj,Aq,X2,wc,PF,lf,h2,sG];rfl
   refine⟨rfl,_,G,rfl,⟨_,A.next,.slice none 0 0,⟨by have:=R3.1;omega,R3.2.same (fG p (by omega))⟩,by simpa using hd3,?_,?_,az.nil _ _ _ _,fun _=>rfl,fun h=>absurd rfl h⟩,⟨by have:=kE.1;omega,fun z hz hp=>by rw [fG z (by omega),K2.2 z (by have:=kE.1;omega) hp,kE.2 z hz hp]⟩,?_⟩
   ·rw [hfin] at hstl;simp at hstl;simp;omega
   ·exact⟨by omega,by simpa [cW,hfin] using vG⟩
   ·simp only [av,aw,T.af,T.ag,T.ak,X2,X3,if_true,if_false,and_true,true_and,pV]
 ·rintro t D ⟨hR,hK,hs0⟩;show W bU _ _ _;obtain⟨g0,g1,g4,g5,-⟩:=hs0;apply W.seq;apply W.seq;apply W.run 20
  ·intro M;simp (disch:=first|decide+kernel|omega) only [mK,qaj,Aq,X2,g5,hquo];rfl
  show W bU _ _ _;apply W.block;refine W.up st.arcs.length (fun k t D=>Pr p A.next i st s r k D∧wm p A D∧Sl t [(0,pV p),(1,.int .u64 i),(4,pV A.next),(19,.int .u64 (st.arcs.length:Nat)),(20,.int .u64 k)]) ?_ (Yg _) ⟨hR,hK,?_⟩
  ·rintro k t D hk ⟨hR,hK,hs0⟩;by_cases hlt:k<st.arcs.length
   ·refine(Kf hs hpA hi hl ha hlt hR hs0).mono ?_;rintro e s' ⟨rfl,t',D',rfl,hR',hk',hs'⟩;exact⟨hlt,t',D',rfl,hR',⟨YC hK.1 hk'.1,fun z hz hp=>by rw [hk'.2 z hz hp,hK.2 z hz hp]⟩,hs'⟩
   ·have e:k=st.arcs.length:=by omega
    subst e;obtain⟨a',c,x,q1,q2,q3,q4,q5,q6,q7⟩:=hR;obtain⟨g0,g1,g4,g19,g20,-⟩:=hs0;rw [qb7,List.flatMap_nil] at q2 q3;rw [Yw] at q5;have lw:aq bU D.get 164 (.pointer (some ⟨A.next,0,none⟩))= .ok (.agg ⟨cW x st⟩):=by
     obtain⟨d,hd1,hd2⟩:=zp (t:=164) (p:=true) (by kernel_rfl);exact aQ hd1 hd2 Mj q4.2
    obtain⟨G,sG,vG,nG,fG⟩:=bx (tb:=bU) (t:=164) (l':=cW x st) (by exact Mj) q4.2 rfl (by simp [cW]) (by
     intro v hv;simp only [cW,Yp,YH,or_false] at hv;rcases hv with rfl|rfl|rfl
     ·exact(az.dm q5).2
     ·rfl
     ·rfl)
    have lG:aq bU G.get 164 (.pointer (some ⟨A.next,0,none⟩))= .ok (.agg ⟨cW x st⟩):=by
     obtain⟨d,hd1,hd2⟩:=zp (t:=164) (p:=true) (by kernel_rfl);exact aQ hd1 hd2 Mj vG
    simp only [pV] at g4;apply W.run 20
    ·intro M;simp (disch:=first|decide+kernel|omega) only [CH,mK,qaj,Aq,X2,g19,g20];rfl
    show W bU _ _ _;apply W.seq;apply W.run 20
    ·intro M;simp (disch:=first|decide+kernel|omega) only [mK,qaj,Aq,X2,g4,lw,sG];rfl
    show W bU _ _ _;apply W.run 20
    ·intro M;simp (disch:=first|decide+kernel|omega) only [mK,qaj,Aq,X2];rfl
    refine⟨by simp,rfl,_,(by simp only [qaj,Aq,X2,g4,lG]<;>rfl),⟨by have:=q1.1;show _<G.next;omega,?_⟩,⟨by have:=hK.1;show _≤G.next;omega,fun z hz hp=>by rw [fG z (by omega),hK.2 z hz hp]⟩,x,c,rfl,?_,fun h=>q6 (by rw [h];rfl),fun h=>q7 (fun e=>h (Yh.1 e))⟩
    ·have e:a+(FH i st).length=a':=by simp at q3;omega
     rw [e];exact q1.2.same (fG p (by omega))
    ·exact az.fA q5 (fun h=>q6 (by have:=congrArg ZD h;simpa using this)) (by show _≤G.next;omega) fun hne _=>fG c (by
      have:=q7 (fun e=>hne (YK.2 (Yh.1 e)));omega)
  ·simp only [av,aw,T.af,T.ag,T.ak,X2,X3,if_true,if_false,and_true,true_and,g0,g1,g4]
end Go.Proofs.YtggndfefpbmaeaaGreatDoor.sto
namespace Go.Proofs.YtggndfefpbmaeaaGreatDoor.sto
open Go.Am Go.Sto
theorem Jq:bU.bp 102=some (.slice 164):=by kernel_rfl
theorem T8:cq bU 164= .ok (3,[.slice none 0 0,.bool false,.int .u64 0]):=by kernel_rfl
theorem VI:aY bU 102= .ok 1:=by kernel_rfl
theorem pX:aY bU 105= .ok 2:=by kernel_rfl
theorem xR:b7 bU 105= .ok (.agg ⟨[.slice none 0 0,.int .u64 (0:Nat)]⟩):=by kernel_rfl
theorem FJ:b7 bU 3= .ok (.int .i64 (0:Nat)):=by kernel_rfl
variable {b o:Nat}
theorem Qe:ax bU 105 (pw b o) 0= .ok (pw b o):=by kernel_rfl
theorem PK:ax bU 105 (pw b o) 1= .ok (pw b (o+1)):=by kernel_rfl
theorem T9 {x:Value} {s:bj}:bc bU 102 1 [(0,.agg ⟨cW x s⟩)]= .ok (aa 164 (cW x s),.m_ 1 2):=by kernel_rfl
theorem SD:∃i,bU.ty.get 164=some i∧0<i.bytes∧i.bytes≤65536:=by
 have h:(bU.ty.get 164).map (fun i=>Ye 0 i.bytes&&X5 i.bytes 65536)=some true:=by kernel_rfl
 cases hq:bU.ty.get 164 with
 |none=>rw [hq] at h;cases h
 |some i=>
  rw [hq] at h;simp only [YI,YB,Yq,Yl] at h;exact⟨i,rfl,h.1,Yx h.2⟩
noncomputable def j7:Code:=Z7.body.getD .skip
noncomputable def GH:Code:=sub j7 [1,0,1,0,0]
noncomputable def BZ:Code:=sub j7 [1,1,1,0,1,0,0]
theorem QS:Z7.body=some (.seq (sub j7 [0]) (.seq (.seq (sub j7 [1,0,0]) (.block 0 (.loop GH))) (.seq (sub j7 [1,1,0]) (.seq (.seq (sub j7 [1,1,1,0,0]) (.block 2 (.loop BZ))) (.seq (sub j7 [1,1,1,1,0]) (.seq (sub j7 [1,1,1,1,1,0]) (.seq (sub j7 [1,1,1,1,1,1,0]) (sub j7 [1,1,1,1,1,1,1])))))))):=by kernel_rfl
def TW (p q:Nat) (M:List bj) (s r:List UInt8) (k:Nat) (D:Mem):Prop:=∃a b rows y,tv D p s a∧s.drop a=ig k (M.drop k)++r∧VB D 105 q (.var 2) [y,.int .u64 (0:Nat)]∧
 az D 164 3 b rows y∧rows.length=k∧(k=0→y= .slice none 0 0)∧(k≠0→q<b)∧
 ∀(i:Nat) (st:bj),i<k→M[i]?=some st→∃x c,rows[i]?=some (cW x st)∧az D 172 3 c (st.arcs.map cc) x∧(st.arcs=[]→x= .slice none 0 0)∧(st.arcs≠ []→q<c∧c≠b)
variable {p q k:Nat} {M:List bj} {r:List UInt8} {t:T Value}
theorem L8 {s:List UInt8} {D:Mem} {x2:Value} (hs:s.length<900000) (hpq:p<q) (hL:Lay M) (hM:M.length<1000000) (hk:k<M.length) (h:TW p q M s r k D)
 (hsl:Sl t [(0,pV p),(2,x2),(3,pV q),(5,.int .u64 k),(6,.int .u64 (M.length:Nat))]):
 W bU BZ ⟨t,52,[],D,none⟩ fun e s'=>e= .nrm∧∃t' D',s'=⟨t',52,[],D',none⟩∧TW p q M s r (k+1) D'∧(D.next≤D'.next∧∀z,z<q→z≠p→D'.get z=D.get z)∧Sl t' [(0,pV p),(2,x2),(3,pV q),(5,.int .u64 (k+1:Nat)),(6,.int .u64 (M.length:Nat))]:=by
 obtain⟨a,b,rows,y,hR,hd,hV,hS,hrl,hy0,hb,hA⟩:=h;obtain⟨g0,g2,g3,g5,g6,-⟩:=hsl;have hMk:M[k]?=some M[k]:=X6 hk;obtain⟨l1,l2,l3,l4⟩:=hL k _ hMk;have hdk:M.drop k=M[k]::M.drop (k+1):=Y3 hk;rw [hdk,ig,Y1] at hd;generalize hst:M[k]=st at*;have hpD:p<D.next:=hR.1
 have hqD:q<D.next:=hV.1
 obtain⟨v1,E,⟨e1,h1⟩,hRE,hKE,x,c,rfl,hc1,hc2,hc3⟩:=GV hR hs (by omega) l1 l2 l3 l4 hd;have hdE:s.drop (a+(FH k st).length)=ig (k+1) (M.drop (k+1))++r:=by rw [←qa0,hd,qcg]
 have kE:=hKE.1;have hVE:dD E 105 q (.var 2) [y,.int .u64 (0:Nat)]:=hV.2.same (hKE.2 q hqD (by omega));have ly1:aq bU D.get 102 (pw q 0)= .ok y:=hV.ld rfl Jq rfl;have ly2:aq bU E.get 102 (pw q 0)= .ok y:=VB.ld (tb:=bU) ⟨by omega,hVE⟩ rfl Jq rfl;have sy:cD 100 y y=true:=by
  rcases hS with⟨rfl,-⟩|⟨_,_,rfl,-⟩
  ·rfl
  ·exact pc _ _ _ _
 have hr0:k≠0→rows≠ []:=fun h0 h=>h0 (by rw [←hrl,h];rfl)
 have hbD:k≠0→b<D.next:=fun h0=>yT hS (hr0 h0)
 have hSE:az E 164 3 b rows y:=az.fA hS (fun h=>hy0 (by rw [←hrl,h];rfl)) kE fun hne hlt=>hKE.2 b hlt (by
  have:=hb (fun h=>hne (Yh.1 (by rw [hrl,h])));omega)
 obtain⟨ti,t1,t2,t3⟩:=SD;have hcell:∀v∈cW x st,aJ v=true:=by
  intro v hv;simp only [cW,Yp,YH,or_false] at hv;rcases hv with rfl|rfl|rfl
  ·exact(az.dm hc1).2
  ·rfl
  ·rfl
 have hSE':az (E.alloc (aa 164 (cW x st))) 164 3 b rows y:=hSE.same (by rw [ae];omega) fun h=>aH (by omega)
 obtain⟨y',F,happ,hs3,hn3,hf3⟩:=az.append (tb:=bU) (st:=102) (xt:=102) hSE' Jq Jq T8 t1 t2 t3 (by omega) (by omega) (by omega) (aD E _) rfl hcell;rw [ae] at hs3 hn3 hf3;have hq0:q=b→y= .slice none 0 0:=fun e=>ZP (fun h0:k=0=>hy0 h0) fun h0=>by have:=hb h0;omega
 have hp0:p=b→y= .slice none 0 0:=fun e=>ZP (fun h0:k=0=>hy0 h0) fun h0=>by have:=hb h0;omega
 have keepF:∀z,z<E.next→(z=b→y= .slice none 0 0)→F.get z=E.get z:=fun z hz h=>by rw [hf3 z h (by omega),aH (by omega)]
 obtain⟨G,sG,vG,nG,fG⟩:=a_ (tb:=bU) (t:=102) (o:=0) (v:=y') VI (hVE.same (keepF q (by omega) hq0)) (by simp) (az.dm hs3).1 (az.dm hs3).2;have a1:aN .add .u64 ((k:Nat):Int) ((1:Nat):Int)= .ok (.int .u64 (k+1:Nat)):=a9 (cL (by omega));have hkeep:∀z,z<E.next→(z=b→y= .slice none 0 0)→z≠q→G.get z=E.get z:=fun z hz h hq=>by rw [fG z hq,keepF z hz h]
 simp only [pV] at*;apply W.a6 (e1) 20
 ·intro M hM;simp (config:={maxSteps:=4000000}) (disch:=first|decide+kernel|omega|simp only [Wq,X2]) only [BZ,j7,Z7,Aq,X5,reduceIte,X2,X3,g0,g3,g5,g6,hk,Qe,ly1,ly2,h1,T9,happ,sG,sy,a1,Fq,aC [(1,4)]];rfl
 refine⟨rfl,_,G,rfl,⟨_,E.next+1,rows++[cW x st],y',⟨by have:=hRE.1;omega,hRE.2.same (hkeep p (by omega) hp0 (by omega))⟩,hdE,⟨by omega,vG⟩,hs3.same (by omega) fun h=>fG _ (by omega),by rw [X',hrl];rfl,fun h=>by omega,fun _=>by omega,fun i u hi hu=>?_⟩,⟨by omega,fun z hz hp=>?_⟩,?_⟩
 ·rcases YE i k with hik|hik
  ·obtain⟨x',c',e1,e2,e3,e4⟩:=hA i u hik hu;refine⟨x',c',by rw [Yz (by omega)];exact e1,az.fA e2 (fun h=>e3 (YK.1 h)) (by omega) fun hne hlt=>?_,e3,fun h=>⟨(e4 h).1,?_⟩⟩
   ·have:=e4 (fun h=>hne (by rw [h];rfl));rw [hkeep c' (by omega) (fun e=>absurd e this.2) (by omega),hKE.2 c' hlt (by omega)]
   ·have:=yT e2 (fun e=>h (YK.1 e));omega
  ·have e:i=k:=by omega
   subst e;rw [hMk] at hu;cases hu;refine⟨x,c,by rw [YA (by omega),hrl,Zg];rfl,az.fA hc1 (fun h=>hc2 (YK.1 h)) (by omega) fun hne hlt=>?_,hc2,fun h=>⟨?_,?_⟩⟩
   ·have h4:=hc3 (fun h=>hne (by rw [h];rfl));exact hkeep c hlt (fun e=>ZP (fun h0:i=0=>hy0 h0) fun h0=>by have:=hbD h0;omega) (by omega)
   ·have:=hc3 h;omega
   ·have:=yT hc1 (fun e=>h (YK.1 e));omega
 ·rw [hkeep z (by omega) (fun e=>ZP (fun h0:k=0=>hy0 h0) fun h0=>by have:=hb h0;omega) (by omega),hKE.2 z (by omega) hp]
 ·simp only [av,aw,T.af,T.ag,T.ak,X2,X3,if_true,if_false,and_true,true_and,g0,g2,g3,g6]
def TU (q:Nat) (A:Mem) (M:List bj) (y:Value):Prop:=∃b rows,az A 164 3 b rows y∧rows.length=M.length∧q<b∧∀(i:Nat) (s:bj),M[i]?=some s→∃x c,rows[i]?=some (cW x s)∧az A 172 3 c (s.arcs.map cc) x∧(s.arcs=[]→x= .slice none 0 0)∧(s.arcs≠ []→q<c)
variable {A A':Mem} {y:Value}
theorem TU.XJ (h:TU q A M y) (hn:A.next≤A'.next) (hg:∀z,z<A.next→q<z→A'.get z=A.get z):eX A' M y:=by
 obtain⟨b,rows,h1,h2,h3,h4⟩:=h;refine⟨b,rows,h1.same hn fun hlt=>hg b hlt h3,h2,fun i s hs=>?_⟩;obtain⟨x,c,e1,e2,e3,e4⟩:=h4 i s hs;exact⟨x,e1,c,az.fA e2 (fun h=>e3 (YK.1 h)) hn fun hne hlt=>hg c hlt (e4 fun h=>hne (by rw [h];rfl))⟩
variable {n:Nat}
theorem Pm {s:List UInt8} (h:tv A p s 0) (hs:s.length<900000) (hd:s=iS n M k) (hn:n≤100000) (hM0:M≠ []) (hM:M.length<1000000) (hL:Lay M) (hk:k<18446744073709551616):
 ∃v A',bL bU 120 [pV p] A v A'∧wm p A A'∧∃y,v= .tuple ⟨[.int .i64 n,.agg ⟨[y,.int .u64 k]⟩]⟩∧TU A.next A' M y:=by
 refine cS (fQ Tryz.func120) QS (by rw [Tryz.ntmps120];simp) (by kernel_rfl) (by kernel_rfl) ?_;have kB:=Kp.alloc A (aa 105 [.slice none 0 0,.int .u64 (0:Nat)]);have vB:=aF A 105 [.slice none 0 0,.int .u64 (0:Nat)];have hpA:p<A.next:=h.1
 apply W.seq;apply W.run 20
 ·intro M;simp (disch:=first|decide+kernel|omega) only [j7,Z7,Aq,X2,xR,au];rfl
 show W bU _ _ _;have RB:=h.kp kB;generalize A.alloc (aa 105 [.slice none 0 0,.int .u64 (0:Nat)])=B at kB vB RB;have hqB:=vB.1;apply W.seq;apply W.seq;apply W.run 20
 ·intro M;simp (disch:=first|decide+kernel|omega) only [j7,Z7,Aq,X2];rfl
 show W bU _ _ _;apply W.block;refine W.up 3 (fun i t D=>tv D p s i∧wm p B D∧Sl t [(0,pV p),(2,.int .i64 (0:Nat)),(3,pV A.next),(7,.int .i64 i)]) ?_ (Yg _) ⟨RB,wm.refl _ _,?_⟩
 ·rintro i t D hi ⟨hR,hK,g0,g2,g3,g7,-⟩;by_cases hlt:i<3
  ·have sD:aW bU (D.alloc (aa 3 [.int .i64 (0:Nat)])) 3 (pw D.next 0) (.int .i64 i)= .ok (D.alloc (aa 3 [.int .i64 i])):=df Ut rfl rfl (by simp);have kE:=Kp.alloc D (aa 3 [.int .i64 i]);have vE:=aF D 3 [.int .i64 i];have RE:=hR.kp kE;generalize D.alloc (aa 3 [.int .i64 i])=E at sD kE vE RE;obtain⟨c,r,hc,hdr⟩:∃c r,([67,83,1]:List UInt8)[i]?=some c∧s.drop i=c::r:=by
    rw [hd];have:i=0∨i=1∨i=2:=by omega
    rcases this with rfl|rfl|rfl<;>exact⟨_,_,rfl,rfl⟩
   obtain⟨v1,F,⟨e1,h1⟩,rfl,R1,K1⟩:=Dw (f:=165) (y:=[pV D.next]) RE hs hdr fun B hB=>Qo (vE.kp hB) hlt hc
   have a1:aN .add .i64 ((i:Nat):Int) ((1:Nat):Int)= .ok (.int .i64 (i+1:Nat)):=a9 (aR (by omega));simp only [pV] at*;apply W.a6 (e1) 20
   ·intro M hM;simp (disch:=first|decide+kernel|omega) only [GH,j7,Z7,Aq,X2,g0,g7,hlt,FJ,sD,aS,h1,a1];rfl
   refine⟨hlt,_,F,rfl,R1,hK.trans ((kE.x p).trans K1),?_⟩;simp only [av,aw,T.af,T.ag,T.ak,X2,X3,if_true,if_false,and_true,true_and,g0,g2,g3]
  ·have e:i=3:=by omega
   subst e;have hd3:s.drop 3=bH n++(bH M.length++(ig 0 M++bH k)):=by rw [hd];rfl
   have hqD:A.next<D.next:=by have:=hK.1;omega
   have VD:VB D 105 A.next (.var 2) [.slice none 0 0,.int .u64 (0:Nat)]:=⟨hqD,vB.2.same (hK.2 _ hqB (by omega))⟩
   obtain⟨v1,E1,⟨e1,h1⟩,rfl,R1,K1⟩:=jS (lo:=0) (hi:=100000) hR hs (by omega) hd3 ⟨Yg _,hn⟩;obtain⟨-,hd4,-⟩:=jn (show n<18446744073709551616 by omega) hd3;obtain⟨v2,E2,⟨e2,h2⟩,rfl,R2,K2⟩:=jS (lo:=1) (hi:=18446744073709551615) R1 hs (by omega) hd4 ⟨YM.2 hM0,by omega⟩;obtain⟨-,hd5,-⟩:=jn (show M.length<18446744073709551616 by omega) hd4;have cv:=bu (tb:=bU) (s:=103) (d:=3) (k:=.u64) (n:=n) (by rw [i103];rfl) i3 (aR (by omega));have K12:=K1.trans K2;have n12:=K12.1;have V2:VB E2 105 A.next (.var 2) [.slice none 0 0,.int .u64 (0:Nat)]:=⟨by omega,VD.2.same (K12.2 _ hqD (by omega))⟩
   simp only [pV] at*;apply W.run 20
   ·intro M;simp (disch:=first|decide+kernel|omega) only [GH,j7,Z7,Aq,X2,g7];rfl
   show W bU _ _ _;apply W.seq;apply W.a6 (e1) 20
   ·intro M hM;simp (disch:=first|decide+kernel|omega) only [j7,Z7,Aq,X2,g0,h1,cv];rfl
   show W bU _ _ _;apply W.seq;apply W.seq;apply W.a6 (e2) 20
   ·intro M hM;simp (disch:=first|decide+kernel|omega) only [j7,Z7,Aq,X2,g0,h2];rfl
   show W bU _ _ _;apply W.block;refine W.up M.length (fun j t D=>TW p A.next M s (bH k) j D∧wm p A D∧Sl t [(0,pV p),(2,.int .i64 n),(3,pV A.next),(5,.int .u64 j),(6,.int .u64 (M.length:Nat))]) ?_ (Yg _) ⟨⟨_,A.next,[],_,R2,by rw [Z5];exact hd5,V2,az.nil _ _ _ _,rfl,fun _=>rfl,fun h=>absurd rfl h,fun i st hi=>absurd hi (ZR _)⟩,(kB.x p).trans (hK.trans K12),?_⟩
   ·rintro j t D hj ⟨hR,hK,hs0⟩;by_cases hlt:j<M.length
    ·refine(L8 hs hpA hL hM hlt hR hs0).mono ?_;rintro e s' ⟨rfl,t',D',rfl,hR',hk',hs'⟩;exact⟨hlt,t',D',rfl,hR',⟨YC hK.1 hk'.1,fun z hz hp=>by rw [hk'.2 z hz hp,hK.2 z hz hp]⟩,hs'⟩
    ·have e:j=M.length:=by omega
     subst e;obtain⟨a,b,rows,y,q1,q2,q3,q4,q5,q6,q7,q8⟩:=hR;obtain⟨g0,g2,g3,g5,g6,-⟩:=hs0;rw [qb7] at q2;have q2':s.drop a=bH k++[]:=by rw [Y'];exact q2
     obtain⟨v3,E,⟨e3,h3⟩,rfl,R3,K3⟩:=jS (lo:=0) (hi:=18446744073709551615) q1 hs hk q2' ⟨Yg _,by omega⟩;obtain⟨-,hd6,hle⟩:=jn hk q2';have n3:=K3.1;have hM1:M.length≠0:=fun e=>hM0 (Yh.1 e)
     have hqb:=q7 hM1;obtain⟨F,sF,vF,nF,fF⟩:=a_ (tb:=bU) (t:=103) (o:=1) (v:=.int .u64 k) LN (q3.2.same (K3.2 _ q3.1 (by omega))) (by simp) rfl rfl;have hq3:=q3.1;have RF:tv F p s (a+(bH k).length):=⟨by have:=R3.1;omega,R3.2.same (fF p (by omega))⟩;have hend:¬a+(bH k).length<s.length:=by
      have:=qbC.1 hd6;omega
     have la:=RF.a;have lb:=RF.s;have hl:=cd (tb:=bU) (t:=9) (l:=s) i9;have lw:aq bU F.get 105 (pw A.next 0)= .ok (.agg ⟨[y,.int .u64 k]⟩):=by
      obtain⟨d,hd1,hd2⟩:=zp (t:=105) (p:=true) (by kernel_rfl);exact aQ hd1 hd2 pX vF
     have hys:=az.dm q4;obtain⟨G,sG,vG,nG,fG⟩:=bx (tb:=bU) (t:=105) (l':=[y,.int .u64 k]) (by exact pX) vF rfl (by simp) (by
      intro v hv;simp only [Yp,YH,or_false] at hv;rcases hv with rfl|rfl
      ·exact hys.2
      ·rfl)
     have lG:aq bU G.get 105 (pw A.next 0)= .ok (.agg ⟨[y,.int .u64 k]⟩):=by
      obtain⟨d,hd1,hd2⟩:=zp (t:=105) (p:=true) (by kernel_rfl);exact aQ hd1 hd2 pX vG
     have fG':∀z,z<D.next→z≠p→z≠A.next→G.get z=D.get z:=fun z hz hp hq=>by rw [fG z hq,fF z hq,K3.2 z hz hp]
     simp only [pV] at*;apply W.run 20
     ·intro M;simp (disch:=first|decide+kernel|omega) only [BZ,j7,Z7,Aq,X2,g5,g6];rfl
     show W bU _ _ _;apply W.seq;apply W.a6 (e3) 20
     ·intro M hM;simp (disch:=first|decide+kernel|omega) only [j7,Z7,Aq,X2,g0,g3,h3,PK,sF];rfl
     show W bU _ _ _;apply W.seq;apply W.run 20
     ·intro M;simp (config:={maxSteps:=4000000}) (disch:=first|decide+kernel|omega|simp only [Wq,X2]) only [j7,Z7,Aq,X5,reduceIte,X2,X3,g0,aG,a8,xu,mO,la,lb,hl,hend,Fq,aC []];rfl
     show W bU _ _ _;apply W.seq;apply W.run 20
     ·intro M;simp (config:={maxSteps:=4000000}) (disch:=first|decide+kernel|omega|simp only [Wq,X2]) only [j7,Z7,Aq,X5,reduceIte,X2,X3,g2,g3,lw,sG,Fq,aC []];rfl
     show W bU _ _ _;apply W.run 20
     ·intro M;simp (disch:=first|decide+kernel|omega) only [j7,Z7,Aq,X2];rfl
     refine⟨by simp,rfl,_,(by simp only [Z7,Aq,X2,g2,g3,lG]<;>rfl),⟨by have:=hK.1;show _≤G.next;omega,fun z hz hp=>by rw [fG' z (by have:=hK.1;omega) hp (by omega),hK.2 z hz hp]⟩,y,rfl,b,rows,q4.same (by show _≤G.next;omega) fun hlt=>fG' b hlt (by omega) (by omega),q5,hqb,fun i st hst=>?_⟩;obtain⟨x,c,u1,u2,u3,u4⟩:=q8 i st (X_.1 hst).1 hst;exact⟨x,c,u1,az.fA u2 (fun h=>u3 (YK.1 h)) (by show _≤G.next;omega) fun hne hlt=>by
      have:=(u4 fun h=>hne (by rw [h];rfl)).1;exact fG' c hlt (by omega) (by omega),u3,fun h=>(u4 h).1⟩
   ·simp only [av,aw,T.af,T.ag,T.ak,X2,X3,if_true,if_false,and_true,true_and,g0,g2,g3,pV]
 ·simp only [av,aw,T.af,T.ag,T.ak,X2,X3,if_true,if_false,and_true,true_and,pV]
end Go.Proofs.YtggndfefpbmaeaaGreatDoor.sto
namespace Go.Am
variable {tb:bI}
noncomputable def rB (h:Nat→List Value→Mem→R (Value×Mem)):List Value→Mem→R (Value×Mem):=fun args A=>
 open Classical in if e:∃r N,∀n,N≤n→h n args A= .ok r then .ok e.choose else .no 0
variable {f:FuncId}
theorem SY {P:Program} {h:Nat→List Value→Mem→R (Value×Mem)} (hn:∀n,b8 P f (h n)):b8 P f (rB h):=by
 intro args A v A' e;unfold rB at e;split at e
 ·rename_i hx;obtain⟨N,hN⟩:=hx.choose_spec;rw [R.ok.inj e] at hN;exact hn N args A v A' (hN N (X9 _))
 ·cases e
variable {A:Mem}
theorem MJ {h:Nat→List Value→Mem→R (Value×Mem)} {args:List Value} {r:Value×Mem} {N:Nat} (e:∀n,N≤n→h n args A= .ok r):rB h args A= .ok r:=by
 unfold rB;have hx:∃r N,∀n,N≤n→h n args A= .ok r:=⟨r,N,e⟩;rw [dif_pos hx];obtain⟨N',hN⟩:=hx.choose_spec;have h1:=hN (N+N') (by omega);rw [e _ (by omega)] at h1;rw [R.ok.inj h1]
def VK (e2:Ex) (s2:St) (rv:Value) (A1:Mem):Prop:=
 match e2 with
 | .i_ v=>s2.d=[]∧rv=v∧A1=s2.m
 | .exit _=>False
 |_=>fc s2.d s2.m= .ok A1∧rv= .nilIface
theorem Il {D:KZ} {args:List Value} {Q:Value→Mem→Prop} (hn:args.length≤D.fn.ntmps)
 (h:W tb D.c0 ⟨T.bJ .e 0 args,D.fn.ntmps,[],A,none⟩ fun e s0=>e= .nrm∧∃s1 cap,(∀ih,dI tb ih D.o1 s0 (fun s=>.ok (.nrm,s))= .ok (.nrm,s1))∧s1.d=[]∧s1.t.get D.x=some (.func (.func D.g) ⟨[]⟩ ⟨cap⟩)∧cap.length≤D.gf.ntmps∧
  W tb D.c2 s1 fun e2 s2=>∃rv A1,VK e2 s2 rv A1∧W tb D.c3 ⟨(T.bJ .e 0 cap).set D.t rv,D.gf.ntmps,[],A1,none⟩ fun e3 s3=>(e3= .nrm∨e3= .ret)∧∃A2 vs,fc s3.d s3.m= .ok A2∧fj tb s2.t A2.get D.fn.results.toList= .ok vs∧Q (oneOf vs) A2):
 ∃v A2,(∃N,∀n,N≤n→gB tb D n args A= .ok (v,A2))∧Q v A2:=by
 obtain⟨e0,s0,⟨f0,h0⟩,he0,s1,cap,h1,hd1,hx,hc,e2,s2,⟨f2,h2⟩,rv,A1,hE,e3,s3,⟨f3,h3⟩,he3,A2,vs,h4,h5,hQ⟩:=h;subst he0;refine⟨_,A2,⟨f0+f2+f3,fun n hN=>?_⟩,hQ⟩;have x0:=h0 (n-f0);have x2:=h2 (n-f2);have x3:=h3 (n-f3);rw [qak (by omega)] at x0 x2 x3;have hrec:Pe tb D n cap rv A1= .ok A2:=by
  unfold Pe;rw [show X5 cap.length D.gf.ntmps=true by rw [qaT];exact hc,cond_true,x3,R.aA];rcases he3 with rfl|rfl<;>exact h4
 unfold gB;rw [show X5 args.length D.fn.ntmps=true by rw [qaT];exact hn,cond_true,x0,R.aA];simp only [h1,R.aA,hd1,hx];rw [show Yc D.g D.g=true by rw [qab],cond_true,x2,R.aA];cases e2 with
 |i_ v=>
  obtain⟨q1,rfl,rfl⟩:=hE;simp only [q1,R.aA,Y6,hrec,h5]
 |exit _=>exact hE.elim
 |nrm=>
  obtain⟨q1,rfl⟩:=hE;simp only [q1,R.aA,Y6,hrec,h5]
 |ret=>
  obtain⟨q1,rfl⟩:=hE;simp only [q1,R.aA,Y6,hrec,h5]
section
variable {ih:Code→St→R (Ex×St)} {dst:Option Tmp} {ty:TypeId} {pos:String} {after:Array Edge} {g:Option (Nat×Bool)} {s:St} {k:St→R (Ex×St)}
theorem qP (x:Operand) (a t:TypeId) (b:Bool):dI tb ih {dst,op:=.typeAssert x a t b,type:=ty,pos,after,guard:=g} s k=(ev s.t x).bind fun x=>(pg tb x t b).bind fun v=>bP s dst v k:=by
 rw [iO (hc:=rfl) (hi:=rfl)];simp only [th,R.ba]
noncomputable def Hk (tb:bI) (t:TypeId) (x:Value):R Value:=match tb.bp t with
 |some (.interface _)=>.no 208
 |some _=>.ok (.iface t x)
 |none=>.no 209
theorem pG (t:TypeId) (x:Operand):dI tb ih {dst,op:=.makeInterface t x,type:=ty,pos,after,guard:=g} s k=(ev s.t x).bind fun x=>(Hk tb t x).bind fun v=>bP s dst v k:=by
 rw [iO (hc:=rfl) (hi:=rfl)];simp only [th,R.ba];rfl
noncomputable def LU (s:St):Value→R (Ex×St)
 | .iface t v=>.ok (.i_ (.iface t v),s)
 |_=>.no 252
variable {v:Value}
theorem OA {t:TypeId}:LU s (.iface t v)= .ok (.i_ (.iface t v),s):=rfl
theorem J1 (x:Operand):dI tb ih {dst,op:=.panic x,type:=ty,pos,after,guard:=g} s k=(ev s.t x).bind fun x=>LU s x:=by
 unfold dI;show((ev s.t x).bind fun x=>_)=_;congr 1
variable {fn:Func}
theorem FK {c:Code} {args:List Value} {Q:Value→Mem→Prop} (hf:tb.fn.get f=some fn) (hb:fn.body=some c) (hn:args.length≤fn.ntmps) (hnm:(fn.name== "runtime.NumGoroutine")=false) (hk:tb.hk.get f=none)
 (h:W tb c ⟨T.bJ .e 0 args,fn.ntmps,[],A,none⟩ fun e s=>∃v,e= .i_ v∧s.d=[]∧Q v s.m):
 ∃v A',(∃g,∀M,g≤M→bg tb (exec tb M) (.fn f args) A= .ok (.i_ v A'))∧Q v A':=by
 obtain⟨e,s1,⟨g,h1⟩,v,rfl,hd,h4⟩:=h;refine⟨_,_,⟨g,fun M hM=>?_⟩,h4⟩;have h1:=h1 (M-g);rw [qak hM] at h1;unfold bg;simp only [hf,hb,hnm,hk,cond_false];unfold lM;have hb:X5 args.length fn.ntmps=true:=by rw [qaT];exact hn
 rw [hb,cond_true,h1,R.aA];simp only [hd]
theorem eP (t:T Value):ev t (.const .nilIface)= .ok .nilIface:=rfl
end
end Go.Am
namespace Go.Proofs.YtggndfefpbmaeaaGreatDoor.sto
open Go.Am Go.Sto
noncomputable def gC:Code:=Z2.body.getD .skip
noncomputable def Vj:Code:=qcp.body.getD .skip
def Lv (c:Code) (i:Nat):Oper:=
 match c with
 | .region _ ops _=>ops.toList.getD i default
 |_=>default
noncomputable def np:KZ:={f:=79,fn:=Z2,c0:=sub gC [0],id1:=1,o1:=Lv (sub gC [1,0]) 0,od:=Lv (sub gC [1,0]) 1,c2:=sub gC [1,1],x:=7,g:=118,gf:=qcp,id3:=0,orc:=Lv (sub Vj [0]) 0,t:=6,c3:=sub Vj [1]}
theorem eN:L2 bU np where
 hf:=fQ Tryz.func79
 hb:=by kernel_rfl
 hod:=by kernel_rfl
 go1:=by kernel_rfl
 god:=by kernel_rfl
 dod:=by kernel_rfl
 hg:=fQ Tryz.func118
 hgb:=by kernel_rfl
 horc:=by kernel_rfl
 dorc:=by kernel_rfl
 gorc:=by kernel_rfl
 ht:=by show Nat.lt _ _;exact Yx (by kernel_rfl)
 hres:=by kernel_rfl
 hng:=by kernel_rfl
noncomputable def DG:=rB (gB bU np)
theorem Kb:b8 bX.P 79 DG:=SY fun n=>Dj Ns eN n
theorem R':np.c3=sub Vj [1]:=rfl
theorem Sc:np.c2= .seq (sub gC [1,1,0]) (.seq (sub gC [1,1,1,0]) (.seq (sub gC [1,1,1,1,0]) (.seq (sub gC [1,1,1,1,1,0]) (sub gC [1,1,1,1,1,1])))):=by kernel_rfl
theorem Du:b7 bU 146= .ok .nilIface:=by kernel_rfl
theorem Sg:aY bU 146= .ok 1:=by kernel_rfl
theorem S3 {l:List UInt8}:cr bU 197 [(0,strOf l)]= .ok (.agg ⟨[strOf l,.int .i64 (0:Nat)]⟩):=by kernel_rfl
theorem Ue:cr bU 105 []= .ok (.agg ⟨[.slice none 0 0,.int .u64 (0:Nat)]⟩):=by kernel_rfl
theorem Tq {a b:Int}:cr bU 249 [(0,.int .i64 a),(1,.int .i64 b)]= .ok (.agg ⟨[.int .i64 a,.int .i64 b]⟩):=by kernel_rfl
variable {v:Value}
theorem LQ:Hk bU 192 v= .ok (.iface 192 v):=by kernel_rfl
theorem Tv:pg bU (.iface 192 v) 192 true= .ok (.tuple ⟨[v,.bool true]⟩):=by kernel_rfl
variable {n:Nat}
theorem Th {g:Nat→Option Ob}:u_ bU g .eql 20 (.tmp n) (.const .nilIface) .nilIface .nilIface= .ok (.bool true):=by kernel_rfl
theorem U2 {g:Nat→Option Ob} {x:Operand}:u_ bU g .eql 20 x (.const .nilIface) (.iface 192 v) .nilIface= .ok (.bool false):=by kernel_rfl
structure XV (A:Mem) (q:Nat) (v:List Value):Prop where
 a:VB A 3 q (.var 1) [v.getD 0 .nilIface]
 b:VB A 105 (q+1) (.var 2) [v.getD 1 .nilIface,v.getD 2 .nilIface]
 c:VB A 146 (q+2) (.var 1) [v.getD 3 .nilIface]
theorem Ab:Value.nilIface.cells.toList=[.nilIface]:=rfl
variable {A:Mem} {M:List bj}
theorem Ko {s:List UInt8} {k:Nat} (hs:s.length<900000) (ho:crc.dN s=(iS n M k,true)) (hn:n≤100000) (hM0:M≠ []) (hM:M.length<1000000) (hL:Lay M) (hk:k<18446744073709551616) (hb:(iS n M k).length<900000):
 ∃v A',DG [strOf s] A= .ok (v,A')∧Kp A A'∧∃y,v= .tuple ⟨[.int .i64 n,.agg ⟨[y,.int .u64 k]⟩,.nilIface]⟩∧eX A' M y:=by
 suffices h:∃v A',(∃N,∀n,N≤n→gB bU np n [strOf s] A= .ok (v,A'))∧(Kp A A'∧∃y,v= .tuple ⟨[.int .i64 n,.agg ⟨[y,.int .u64 k]⟩,.nilIface]⟩∧eX A' M y) by
  obtain⟨v,A',⟨N,hN⟩,h⟩:=h;exact⟨v,A',MJ hN,h⟩
 have kB:=Kp.alloc A (aa 3 [.int .i64 (0:Nat)]);have v1:=aF A 3 [.int .i64 (0:Nat)];have nB:(A.alloc (aa 3 [.int .i64 (0:Nat)])).next=A.next+1:=ae _ _
 generalize hB:A.alloc (aa 3 [.int .i64 (0:Nat)])=B at kB v1 nB;have kC:=Kp.alloc B (aa 105 [.slice none 0 0,.int .u64 (0:Nat)]);have v2:=aF B 105 [.slice none 0 0,.int .u64 (0:Nat)];have nC:(B.alloc (aa 105 [.slice none 0 0,.int .u64 (0:Nat)])).next=B.next+1:=ae _ _
 generalize hC:B.alloc (aa 105 [.slice none 0 0,.int .u64 (0:Nat)])=C at kC v2 nC;have kD:=Kp.alloc C (aa 146 [.nilIface]);have v3:=aF C 146 [.nilIface];have nD:(C.alloc (aa 146 [.nilIface])).next=C.next+1:=ae _ _
 generalize hD:C.alloc (aa 146 [.nilIface])=D at kD v3 nD;have v1:=v1.kp (kC.trans kD);have v2:=v2.kp kD;have kAD:=kB.trans (kC.trans kD);have kE:=Kp.alloc D (aa 197 [strOf (iS n M k),.int .i64 (0:Nat)]);have vE:tv (D.alloc (aa 197 [strOf (iS n M k),.int .i64 (0:Nat)])) D.next (iS n M k) 0:=aF D 197 [strOf (iS n M k),.int .i64 (0:Nat)]
 have nE:(D.alloc (aa 197 [strOf (iS n M k),.int .i64 (0:Nat)])).next=D.next+1:=ae _ _
 generalize hE:D.alloc (aa 197 [strOf (iS n M k),.int .i64 (0:Nat)])=E at kE vE nE;obtain⟨v,F,⟨g1,h1⟩,hKF,y,rfl,hS⟩:=Pm vE hb rfl hn hM0 hM hL hk;have nF:=hKF.1;have keepF:∀z,z<D.next→F.get z=D.get z:=fun z hz=>by rw [hKF.2 z (by omega) (by omega),kE.2 z hz]
 have hy:y.cells.toList=[y]∧aJ y=true:=by
  obtain⟨b,rows,e,-⟩:=hS;exact az.dm e
 have h1y:∀v∈ [y,Value.int .u64 k],aJ v=true:=by
  intro v hv;simp only [Yp,YH,or_false] at hv;rcases hv with rfl|rfl
  ·exact hy.2
  ·rfl
 obtain⟨d,hd1,hd2⟩:=zp (t:=105) (p:=true) (by kernel_rfl);have w1:=v1.1;have w2:=v2.1;have w3:=v3.1;obtain⟨G,sG,vG,nG,fG⟩:=a_ (tb:=bU) (t:=3) (o:=0) (v:=.int .i64 n) Ut (v1.2.same (keepF _ w1)) (by simp) rfl rfl;obtain⟨H,sH,vH,nH,fH⟩:=bx (tb:=bU) (t:=105) (l':=[y,.int .u64 k]) (by exact pX) (v2.2.same (by rw [fG _ (by omega),keepF _ w2])) rfl (by simp) h1y;have l1:aq bU H.get 3 (pw A.next 0)= .ok (.int .i64 n):=bf i3 rfl (vG.same (fH _ (by omega))) rfl;have l2:aq bU H.get 105 (pw B.next 0)= .ok (.agg ⟨[y,.int .u64 k]⟩):=aQ hd1 hd2 pX vH;obtain⟨I,sI,vI,nI,fI⟩:=a_ (tb:=bU) (t:=3) (o:=0) (v:=.int .i64 n) Ut (vG.same (fH A.next (by omega))) (by simp) rfl rfl;obtain⟨J,sJ,vJ,nJ,fJ⟩:=bx (tb:=bU) (t:=105) (l':=[y,.int .u64 k]) (by exact pX) (vH.same (fI B.next (by omega))) rfl (by simp) h1y;obtain⟨L,sL,vL,nL,fL⟩:=a_ (tb:=bU) (t:=146) (o:=0) (v:=.nilIface) Sg (v3.2.same (by rw [fJ _ (by omega),fI _ (by omega),fH _ (by omega),fG _ (by omega),keepF _ w3])) (by simp) rfl rfl;have m1:aq bU L.get 3 (pw A.next 0)= .ok (.int .i64 n):=bf i3 rfl (vI.same (by rw [fL _ (by omega),fJ _ (by omega)])) rfl;have m2:aq bU L.get 105 (pw B.next 0)= .ok (.agg ⟨[y,.int .u64 k]⟩):=aQ hd1 hd2 pX (vJ.same (fL _ (by omega)));have m3:aq bU L.get 146 (pw C.next 0)= .ok .nilIface:=by
  obtain⟨d,hd1,hd2⟩:=zp (t:=146) (p:=false) (by kernel_rfl);exact bf hd1 hd2 vL rfl
 have hL3:∀z,z<F.next→z≠A.next→z≠B.next→z≠C.next→L.get z=F.get z:=fun z _ a b c=>by rw [fL z c,fJ z b,fI z a,fH z b,fG z a]
 have l2':aq bU I.get 105 (pw B.next 0)= .ok (.agg ⟨[y,.int .u64 k]⟩):=aQ hd1 hd2 pX (vH.same (fI _ (by omega)));have sv:cD 100 (.agg ⟨[y,.int .u64 k]⟩) (.agg ⟨[y,.int .u64 k]⟩)=true:=by
  obtain⟨b,rows,e,-⟩:=hS;have h1:cD 99 y y=true:=by
   rcases e with⟨rfl,-⟩|⟨_,_,rfl,-⟩
   ·rfl
   ·simp [cD,xD,rL]
  have h2:cD 99 (.int .u64 k) (.int .u64 k)=true:=by
   show(dS .u64 .u64&&mL (k:Int) (k:Int))=true;simp [mL,dS]
  show(Yc 2 2&&(cD 99 y y&&(cD 99 (.int .u64 k) (.int .u64 k)&&true)))=true;rw [h1,h2];rfl
 have ko:=fun ih=>Lw (ih:=ih) (A:=D) hs
 rw [ho] at ko;refine Il (by show 1≤Z2.ntmps;rw [Tryz.ntmps79];omega) ?_;apply W.run 20
 ·intro M;simp (disch:=first|decide+kernel|omega) only [np,gC,Z2,Aq,X2,FJ,xR,Du,au,Ab,hB,hC,hD];rfl
 refine⟨rfl,_,[pV A.next,pV B.next,pV C.next],fun ih=>by
  simp only [np,gC,Z2,Lv,aS,Aq,X2];rfl,by rfl,by
  show T.get _ 7=_;simp only [T.af,X2,if_true,if_false,pV];rfl,by
  show 3≤qcp.ntmps;rw [Tryz.ntmps118];omega,?_⟩
 ·show W bU np.c2 _ _;rw [Sc];apply W.seq;apply W.run 20
  ·intro M;simp (disch:=first|decide+kernel|omega) only [gC,Z2,Aq,X2,ko,X8,X7];rfl
  show W bU _ _ _;apply W.seq;apply W.run 20
  ·intro M;simp (disch:=first|decide+kernel|omega) only [gC,Z2,Aq,X2];rfl
  show W bU _ _ _;apply W.seq;simp only [pV] at h1;apply W.a6 (g1) 20
  ·intro M hM;simp (disch:=first|decide+kernel|omega) only [gC,Z2,Aq,X2,S3,au,hE,h1,X8,X7,sG,sH];rfl
  show W bU _ _ _;apply W.seq;apply W.run 20
  ·intro M;simp (config:={maxSteps:=4000000}) (disch:=first|decide+kernel|omega|simp only [Wq,X2]) only [gC,Z2,Aq,X5,reduceIte,X2,X3,l1,l2,sI,l2',sv,sJ,sL,eP,Fq,aC [(1,2)]];rfl
  show W bU _ _ _;apply W.run 20
  ·intro M;simp (disch:=first|decide+kernel|omega) only [gC,Z2,Aq,X2];rfl
  refine⟨.nilIface,L,⟨rfl,rfl⟩,?_⟩;rw [R'];apply W.run 20
  ·intro M;simp (disch:=first|decide+kernel|omega) only [Vj,qcp,Aq,X2,np,eP,br,Th];rfl
  refine⟨.inl rfl,L,_,rfl,(by simp only [np,Z2,m1,m2,m3,Aq,X2]<;>rfl),⟨by omega,fun z hz=>?_⟩,y,rfl,?_⟩
  ·rw [hL3 z (by omega) (by omega) (by omega) (by omega),keepF z (by omega),kAD.2 z hz]
  ·exact hS.XJ (by omega) fun z h1 h2=>hL3 z h1 (by omega) (by omega) (by omega)
theorem Ot {s:List UInt8} (hs:s.length<900000) (ho:(crc.dN s).2=false):
 ∃v A',DG [strOf s] A= .ok (v,A')∧Kp A A'∧∃p,v= .tuple ⟨[.int .i64 (0:Nat),.agg ⟨[.slice none 0 0,.int .u64 (0:Nat)]⟩,.iface 192 (pV p)]⟩:=by
 suffices h:∃v A',(∃N,∀n,N≤n→gB bU np n [strOf s] A= .ok (v,A'))∧(Kp A A'∧∃p,v= .tuple ⟨[.int .i64 (0:Nat),.agg ⟨[.slice none 0 0,.int .u64 (0:Nat)]⟩,.iface 192 (pV p)]⟩) by
  obtain⟨v,A',⟨N,hN⟩,h⟩:=h;exact⟨v,A',MJ hN,h⟩
 have kB:=Kp.alloc A (aa 3 [.int .i64 (0:Nat)]);have v1:=aF A 3 [.int .i64 (0:Nat)];have nB:(A.alloc (aa 3 [.int .i64 (0:Nat)])).next=A.next+1:=ae _ _
 generalize hB:A.alloc (aa 3 [.int .i64 (0:Nat)])=B at kB v1 nB;have kC:=Kp.alloc B (aa 105 [.slice none 0 0,.int .u64 (0:Nat)]);have v2:=aF B 105 [.slice none 0 0,.int .u64 (0:Nat)];have nC:(B.alloc (aa 105 [.slice none 0 0,.int .u64 (0:Nat)])).next=B.next+1:=ae _ _
 generalize hC:B.alloc (aa 105 [.slice none 0 0,.int .u64 (0:Nat)])=C at kC v2 nC;have kD:=Kp.alloc C (aa 146 [.nilIface]);have v3:=aF C 146 [.nilIface];have nD:(C.alloc (aa 146 [.nilIface])).next=C.next+1:=ae _ _
 generalize hD:C.alloc (aa 146 [.nilIface])=D at kD v3 nD;have kE:=Kp.alloc D (aa 249 [.int .i64 (16:Nat),.int .i64 (0:Nat)]);have nE:(D.alloc (aa 249 [.int .i64 (16:Nat),.int .i64 (0:Nat)])).next=D.next+1:=ae _ _
 generalize hE:D.alloc (aa 249 [.int .i64 (16:Nat),.int .i64 (0:Nat)])=E at kE nE;obtain⟨v,E',⟨g1,h1⟩,rfl,rfl⟩:∃v E',(∃g,∀M,g≤M→bg bU (exec bU M) (.fn 119 [.int .i64 (16:Nat),.int .i64 (0:Nat)]) D= .ok (.i_ v E'))∧(v= .iface 192 (pV D.next)∧E'=E):=by
  refine FK (fQ Tryz.func119) (c:=Tryz.f119.body.getD .skip) (by kernel_rfl) (by rw [Tryz.ntmps119];simp) (by kernel_rfl) (by kernel_rfl) ?_;apply W.run 20
  ·intro M;simp (disch:=first|decide+kernel|omega) only [Tryz.f119,Aq,X2,Tq,au,pG,LQ,J1,OA,hE];rfl
  exact⟨_,rfl,rfl,rfl,rfl⟩
 have v1:=v1.kp (kC.trans (kD.trans kE));have v2:=v2.kp (kD.trans kE);have v3:=v3.kp kE;have kAE:=kB.trans (kC.trans (kD.trans kE));obtain⟨I,sI,vI,nI,fI⟩:=a_ (tb:=bU) (t:=3) (o:=0) (v:=.int .i64 (0:Nat)) Ut v1.2 (by simp) rfl rfl;obtain⟨d,hd1,hd2⟩:=zp (t:=105) (p:=true) (by kernel_rfl);obtain⟨J,sJ,vJ,nJ,fJ⟩:=bx (tb:=bU) (t:=105) (l':=[.slice none 0 0,.int .u64 (0:Nat)]) (by exact pX) (v2.2.same (fI B.next (by omega))) rfl (by simp) (by simp [aJ]);obtain⟨L,sL,vL,nL,fL⟩:=a_ (tb:=bU) (t:=146) (o:=0) (v:=.iface 192 (pV D.next)) Sg (v3.2.same (by rw [fJ _ (by omega),fI _ (by omega)])) (by simp) rfl rfl;have m1:aq bU L.get 3 (pw A.next 0)= .ok (.int .i64 (0:Nat)):=bf i3 rfl (vI.same (by rw [fL _ (by omega),fJ _ (by omega)])) rfl;have m2:aq bU L.get 105 (pw B.next 0)= .ok (.agg ⟨[.slice none 0 0,.int .u64 (0:Nat)]⟩):=aQ hd1 hd2 pX (vJ.same (fL _ (by omega)));have m3:aq bU L.get 146 (pw C.next 0)= .ok (.iface 192 (pV D.next)):=by
  obtain⟨d,hd1,hd2⟩:=zp (t:=146) (p:=false) (by kernel_rfl);exact bf hd1 hd2 vL rfl
 have ko:=fun ih=>Lw (ih:=ih) (A:=D) hs
 rw [ho] at ko;refine Il (by show 1≤Z2.ntmps;rw [Tryz.ntmps79];omega) ?_;apply W.run 20
 ·intro M;simp (disch:=first|decide+kernel|omega) only [np,gC,Z2,Aq,X2,FJ,xR,Du,au,Ab,hB,hC,hD];rfl
 refine⟨rfl,_,[pV A.next,pV B.next,pV C.next],fun ih=>by
  simp only [np,gC,Z2,Lv,aS,Aq,X2];rfl,by rfl,by
  show T.get _ 7=_;simp only [T.af,X2,if_true,if_false,pV];rfl,by
  show 3≤qcp.ntmps;rw [Tryz.ntmps118];omega,?_⟩
 ·show W bU np.c2 _ _;rw [Sc];apply W.seq;apply W.run 20
  ·intro M;simp (disch:=first|decide+kernel|omega) only [gC,Z2,Aq,X2,ko,X8,X7];rfl
  show W bU _ _ _;apply W.seq;apply W.a6 (g1) 20
  ·intro M hM;simp (disch:=first|decide+kernel|omega) only [gC,Z2,Aq,X2,h1];rfl
  refine⟨.iface 192 (pV D.next),E',⟨rfl,rfl,rfl⟩,?_⟩;rw [R'];simp only [pV] at sL m3;apply W.run 20
  ·intro M;simp (disch:=first|decide+kernel|omega) only [Vj,qcp,Aq,X2,np,pV,eP,br,U2,qP,Tv,X8,X7,Ue,pG,LQ,sI,sJ,sL];rfl
  refine⟨.inl rfl,L,_,rfl,(by simp only [np,Z2,m1,m2,m3,Aq,X2]<;>rfl),⟨by omega,fun z hz=>?_⟩,D.next,rfl⟩;rw [fL z (by omega),fJ z (by omega),fI z (by omega),kAE.2 z hz]
end Go.Proofs.YtggndfefpbmaeaaGreatDoor.sto
namespace Go.Proofs.YtggndfefpbmaeaaGreatDoor.sto
open Go.Am Go.Mdl Go.Sto
def uB:List Value→Option Value
 | []=>some (.bool true)
 |_=>none
noncomputable def ot:T (List Value→Mem→R (Value×Mem)):=(jm.set 79 DG).set 5 (aM uB)
noncomputable def ai:bI:={bX with hk:=ot}
theorem wR (h:b8 bX.P 5 (aM uB)):cg ai:=bZ (bZ Ns Kb) h
variable {k:Nat} {fn:Func}
theorem aB (h:YO.funcs[k]?=some fn):ai.fn.get k=some fn:=bB h
theorem gP {h:List Value→Mem→R (Value×Mem)} (e:ot.get k=some h):ai.hk.get k=some h:=e
section
variable {ih:Code→St→R (Ex×St)} {A:Mem}
theorem WX {s:List UInt8} {a:Nat} (hs:s.length<1000000) (ha:a≤s.length):bg ai ih (.fn 160 [strOf s,.int .i64 a]) A= .ok (.val (vu (rn s a)) A):=
 ep (x:=(s,a)) (aB Tryz.func160) (by kernel_rfl) wu (gP (by simp only [ot,jm,T.af];rfl)) UN (show SZ (s,a) from⟨hs,ha⟩)
variable {n:Nat}
theorem WS (hn:n<18446744073709551616):bg ai ih (.fn 107 [.int .u64 n]) A= .ok (.val (strOf (bH n)) A):=
 ep (x:=n) (aB Tryz.func107) (by kernel_rfl) wP (gP (by simp only [ot,jm,T.af];rfl)) (fun x y h=>by rw [Ph h]) hn
variable {e:aP}
theorem Ug (h:e.weight<4294967296):bg ai ih (.fn 151 [.agg ⟨ct e⟩]) A= .ok (.val (.int .u64 (val e:Nat)) A):=
 ep (x:=e) (aB Tryz.func151) (c:=qbU.body.getD .skip) (by kernel_rfl) (by kernel_rfl) (gP (by simp only [ot,jm,T.af];rfl)) (fun x y h=>by rw [V6 h]) h
theorem Qv {a b c:Int}:bg ai ih (.fn 104 [.int .i64 a,.int .i64 b,.int .i64 c]) A= .ok (.val (.bool (decide (b≤a∧a≤c))) A):=
 ep (x:=(a,b,c)) (aB Tryz.func104) (c:=Tryz.f104.body.getD .skip) (by kernel_rfl) (by kernel_rfl) (gP (by simp only [ot,jm,T.af];rfl)) (fun x y h=>by
  simp only [SS,YL,Value.int.injEq,and_true,true_and] at h;rw [h.1,h.2.1,h.2.2]) trivial
theorem XY {w:List UInt8}:bg ai ih (.fn 196 [strOf w]) A= .ok (.val (.bool (decide (1≤w.length∧w.length≤255))) A):=
 ep (x:=w) (aB Tryz.func196) (c:=Tryz.f196.body.getD .skip) (by kernel_rfl) (by kernel_rfl) (gP (by simp only [ot,jm,T.af];rfl)) (fun x y h=>by rw [VN h]) trivial
theorem Xn {w:List UInt8}:bg ai ih (.fn 63 [strOf w]) A= .ok (.val (.bool (decide (0<w.length∧w.length≤64))) A):=
 ep (x:=w) (aB Tryz.func63) (c:=Tryz.f63.body.getD .skip) (by kernel_rfl) (by kernel_rfl) (gP (by simp only [ot,jm,T.af];rfl)) (fun x y h=>by rw [VN h]) trivial
theorem Xl (h:n<1099511627776):bg ai ih (.fn 112 [.int .u64 n]) A= .ok (.val (.int .i64 n) A):=
 ep (x:=n) (aB Tryz.func112) (c:=Tryz.f112.body.getD .skip) (by kernel_rfl) (by kernel_rfl) (gP (by simp only [ot,jm,T.af];rfl)) (fun x y h=>by rw [Ph h]) h
theorem TD {f:Bool}:bg ai ih (.fn 181 [.agg ⟨[.int .u64 n,.bool f]⟩]) A= .ok (.val (.bool (f&&decide (n≤4294967296))) A):=
 ep (x:=(n,f)) (aB Tryz.func181) (c:=Tryz.f181.body.getD .skip) (by kernel_rfl) (by kernel_rfl) (gP (by simp only [ot,jm,T.af];rfl)) (fun x y h=>by rw [WO h]) trivial
theorem Dh (hn:n<18446744073709551616):bg ai ih (.fn 103 [.int .u64 n]) A= .ok (.val (strOf (bH n)) A):=
 ep (x:=n) (aB Tryz.func103) (c:=Tryz.f103.body.getD .skip) (by kernel_rfl) (by kernel_rfl) (gP (by simp only [ot,jm,T.af];rfl)) (fun x y h=>by rw [Ph h]) hn
theorem Rv:bg ai ih (.fn 195 [.agg ⟨ct e⟩]) A= .ok (.val (.agg ⟨ct (bare e)⟩) A):=
 ep (x:=e) (aB Tryz.func195) (c:=qb0.body.getD .skip) (by kernel_rfl) (by kernel_rfl) (gP (by simp only [ot,jm,T.af];rfl)) (fun x y h=>by rw [V6 h]) trivial
variable {m:Nat}
theorem Ve {f:Bool} (h:n+m<18446744073709551616):bg ai ih (.fn 179 [.agg ⟨[.int .u64 n,.bool f]⟩,.int .u64 m]) A= .ok (.val (.agg ⟨[.int .u64 (n+m:Nat),.bool f]⟩) A):=
 ep (x:=((n,f),m)) (aB Tryz.func179) (c:=Tryz.f179.body.getD .skip) (by kernel_rfl) (by kernel_rfl) (gP (by simp only [ot,jm,T.af];rfl)) (fun x y h=>by
  obtain⟨⟨a,b⟩,c⟩:=x;obtain⟨⟨a',b'⟩,c'⟩:=y;simp only [T3,YL,Value.agg.injEq,Array.mk.injEq,Value.int.injEq,Value.bool.injEq,and_true,true_and] at h;obtain⟨⟨h1,h2⟩,h3⟩:=h;cases qa9 h1;cases qa9 h3;rw [h2]) h
theorem U3 (h:1≤n∧n≤6):bg ai ih (.fn 32 [.int .i64 (4:Nat),.int .i64 n]) A= .ok (.val (strOf (mh n)) A)∧bg ai ih (.fn 23 [.int .i64 (4:Nat),.int .i64 n]) A= .ok (.val (strOf (mh n)) A):=by
 have e:qb names [.int .i64 (4:Nat),.int .i64 n]=some (strOf (mh n)):=by
  have:n=1∨n=2∨n=3∨n=4∨n=5∨n=6:=by omega
  rcases this with rfl|rfl|rfl|rfl|rfl|rfl<;>(clear h;show _=_;kernel_rfl)
 exact⟨bW (aB Tryz.func32) (by kernel_rfl) (c:=Tryz.f32.body.getD .skip) (by kernel_rfl) (gP (by simp only [ot,jm,T.af];rfl)) (by unfold aM;rw [e]),
  bW (aB Tryz.func23) (by kernel_rfl) (c:=Tryz.f23.body.getD .skip) (by kernel_rfl) (gP (by simp only [ot,jm,T.af];rfl)) (by unfold aM;rw [e])⟩
theorem Xo:bg ai ih (.fn 32 [.int .i64 (1:Nat),.int .i64 (0:Nat)]) A= .ok (.val (strOf jF) A):=
 bW (aB Tryz.func32) (by kernel_rfl) (c:=Tryz.f32.body.getD .skip) (by kernel_rfl) (gP (by simp only [ot,jm,T.af];rfl)) (by unfold aM;rfl)
theorem R9 {s:List UInt8} (hs:s.length<900000):bg ai ih (.fn 61 [strOf s]) A= .ok (.val (strOf (crc.aK s)) A):=
 bW (aB Tryz.func61) (by kernel_rfl) (c:=Tryz.f61.body.getD .skip) (by kernel_rfl) (gP (by simp only [ot,jm,T.af];rfl)) (by
  have e:crc.Cf [strOf s]=some (strOf (crc.aK s)):=if_pos hs;unfold aM;rw [e])
theorem RH {s:List UInt8} (hs:s.length<900000):bg ai ih (.fn 68 [strOf s]) A= .ok (.val (.tuple ⟨[strOf (crc.dN s).1,.bool (crc.dN s).2]⟩) A):=
 bW (aB Tryz.func68) (by kernel_rfl) (c:=Tryz.f68.body.getD .skip) (by kernel_rfl) (gP (by simp only [ot,jm,T.af];rfl)) (by
  have e:crc.Az [strOf s]=some (.tuple ⟨[strOf (crc.dN s).1,.bool (crc.dN s).2]⟩):=if_pos hs;unfold aM;rw [e])
theorem Xf (hn:n<18446744073709551616):bg ai ih (.fn 220 [.int .u64 n,.int .i64 (36:Nat)]) A= .ok (.val (strOf (pO n)) A):=
 ep (x:=n) (aB Tryz.func220) (c:=Tryz.f220.body.getD .skip) (by kernel_rfl) (by kernel_rfl) (gP (by simp only [ot,jm,T.af];rfl)) (fun x y h=>by
  simp only [Td,YL,Value.int.injEq,and_true,true_and] at h;rw [qa9 h]) hn
theorem S7:bg ai ih (.fn 5 []) A= .ok (.val (.bool true) A):=
 bW (aB Tryz.func5) (by kernel_rfl) (c:=Tryz.f5.body.getD .skip) (by kernel_rfl) (gP (by simp only [ot,jm,T.af];rfl)) rfl
end
theorem u3:ai.bp 3=some (.int .i64):=Bf
theorem u4:ai.bp 4=some .bool:=K9
theorem u5:ai.bp 5=some (.int .u8):=k6
theorem u9:ai.bp 9=some .string:=nW
theorem ff:ai.bp 103=some (.int .u64):=gZ
end Go.Proofs.YtggndfefpbmaeaaGreatDoor.sto
namespace Go.Proofs.YtggndfefpbmaeaaGreatDoor.sto
open Go.Am
noncomputable def Wp:bI:=(bX.pK 109 (aM crc.wU)).pK 68 (aM crc.Az)
theorem Mf:cg Wp:=bZ (bZ eK crc.Ag) crc.An
theorem VP:L2 Wp np:=⟨eN.hf,eN.hb,eN.hod,eN.go1,eN.god,eN.dod,eN.hg,eN.hgb,eN.horc,eN.dorc,eN.gorc,eN.ht,eN.hres,eN.hng⟩
noncomputable def Wz:bI:=Wp.pK 79 (gB Wp np 100000)
theorem SB:cg Wz:=bZ Mf (Dj Mf VP 100000)
theorem TJ:isTrue (call Wz 1000000 5 [] dX)=true:=by decide+kernel
theorem FG:b8 bX.P 5 (aM uB):=by
 refine dP SB (bB Tryz.func5) (c:=Tryz.f5.body.getD .skip) (by kernel_rfl) fun args v hv=>?_
 cases args with
 |cons x l=>cases hv
 |nil=>
  cases hv;have h:=TJ;refine⟨fun x hx=>(YH hx).elim,rfl,1000000,?_⟩;cases hr:call Wz 1000000 5 [] dX with
  |no _=>rw [hr] at h;cases h
  |ok r=>
   rw [hr] at h;cases r with
   |i_ v A=>cases h
   |val v A=>
    cases v with
    |bool b=>have hb':b=true:=h;subst hb';exact⟨A,rfl⟩
    |_=>cases h
end Go.Proofs.YtggndfefpbmaeaaGreatDoor.sto
namespace Go.Proofs.YtggndfefpbmaeaaGreatDoor.sto
open Go.Am Go.Mdl Go.Sto
theorem XK:ai.bp 31=some (.int .u32):=by kernel_rfl
theorem VC:ai.bp 60=some (.slice 67):=by kernel_rfl
theorem VY:aY ai 67= .ok 3:=by kernel_rfl
theorem XL:(ai.bp 67).map cN=some true:=by kernel_rfl
variable {b o:Nat}
theorem Ey:ax ai 67 (pw b o) 0= .ok (pw b o):=by kernel_rfl
def fm (A:Mem) (l:List aP) (x:Value):Prop:=∃b,az A 67 3 b (l.map ct) x
variable {A A':Mem}
theorem fm.kp {l:List aP} {x:Value} (h:fm A l x) (k:Kp A A'):fm A' l x:=by
 obtain⟨b,h⟩:=h;exact⟨b,h.same k.1 (k.2 b)⟩
theorem fm.len {l:List aP} {x:Value} (h:fm A l x):aO ai .len [60] [x]= .ok (.int .i64 (l.length:Nat)):=by
 obtain⟨b,h⟩:=h;have:=az.len (tb:=ai) h VC;rwa [Yb] at this
variable {i:Nat} {e:aP}
theorem fm.at {l:List aP} {x:Value} (h:fm A l x) (hi:l[i]?=some e):
 ∃p,aZ ai 60 x (.int .i64 i)= .ok p∧aq ai A.get 67 p= .ok (.agg ⟨ct e⟩)∧∃q,ax ai 67 p 0= .ok q∧aq ai A.get 9 q= .ok (strOf e.word):=by
 obtain⟨b,h⟩:=h;have hl:i<(l.map ct).length:=by rw [Yb];exact(X_.1 hi).1
 have hm:(l.map ct)[i]?=some (ct e):=by rw [Yr,hi];rfl
 have hd:∃d,ai.bp 67=some d∧cN d=true:=by
  have:=XL;cases hq:ai.bp 67 with
  |none=>rw [hq] at this;cases this
  |some d=>rw [hq] at this;exact⟨d,rfl,by simpa using this⟩
 obtain⟨d,hd1,hd2⟩:=hd;refine⟨_,az.idx h VC VY hl,az.aQ h hd1 hd2 VY hm,_,Ey,?_⟩;have:=az.load (j:=0) h u9 rfl hm rfl (by omega);rwa [YU] at this
theorem Fy {l:List aP} (h:l≠ []):least (l++[e])=min (least l) (val e):=by
 cases l with
 |nil=>exact absurd rfl h
 |cons x l=>simp [least,ZA]
theorem tG (h:e.weight<4294967296):val e≤4294967296:=by unfold val;split<;>omega
noncomputable def tT:Code:=qba.body.getD .skip
noncomputable def GJ:Code:=sub tT [1,1,0,1,0,0]
theorem Rl:qba.body=some (.seq (sub tT [0]) (.seq (sub tT [1,0]) (.seq (.seq (sub tT [1,1,0,0]) (.block 0 (.loop GJ))) (.seq (sub tT [1,1,1,0]) (sub tT [1,1,1,1]))))):=by kernel_rfl
theorem AT {l:List aP} {x:Value} (h:fm A l x) (h0:l≠ []) (hw:∀e∈l,e.weight<4294967296) (hl:l.length<1000000):bL ai 100 [x] A (.int .u64 (least l:Nat)) A:=by
 refine aT (aB Tryz.func100) Rl (by rw [Tryz.ntmps100];simp) (by kernel_rfl) (by kernel_rfl) ?_;obtain⟨e0,l0,rfl⟩:∃e0 l0,l=e0::l0:=by cases l with
  |nil=>exact absurd rfl h0
  |cons e l=>exact⟨e,l,rfl⟩
 rw [Yf] at hl;obtain⟨p,i1,i2,-⟩:=h.at (i:=0) rfl;have hlen:=h.len;have k0:=fun ih=>Ug (ih:=ih) (A:=A) (hw e0 Yk)
 apply W.seq;apply W.run 20
 ·intro M;simp (disch:=first|decide+kernel|omega) only [tT,qba,Aq,X2];rfl
 apply W.seq;apply W.run 20
 ·intro M;simp (disch:=first|decide+kernel|omega) only [tT,qba,Aq,X2,i1,i2,k0];rfl
 apply W.seq;apply W.seq;apply W.run 20
 ·intro M;simp (disch:=first|decide+kernel|omega) only [tT,qba,Aq,X2];rfl
 apply W.block;refine W.up (l0.length+1) (fun i t D=>D=A∧1≤i∧Sl t [(0,x),(3,.int .u64 ((least ((e0::l0).take i):Nat):Int)),(4,.int .i64 i)]) ?_ (k:=1) (by omega) ⟨rfl,by omega,?_⟩
 ·rintro i t D hi ⟨rfl,h1,g0,g3,g4,-⟩;by_cases hlt:i<l0.length+1
  ·have he:(e0::l0)[i]?=some (e0::l0)[i]:=X6 (by rw [Yf];omega);obtain⟨p,j1,j2,-⟩:=h.at he;have hm:(e0::l0)[i]∈e0::l0:=YQ _;have kv:=fun ih=>Ug (ih:=ih) (A:=D) (hw _ hm)
   have e3:min (least ((e0::l0).take i)) (val (e0::l0)[i])=least ((e0::l0).take (i+1)):=by
    rw [Yd (by rw [Yf];omega),Fy];intro hn;have:=congrArg ZD hn;rw [Yo] at this;simp at this;omega
   apply W.run 20
   ·intro M;simp (disch:=first|decide+kernel|omega) only [GJ,tT,qba,Aq,X2,g0,g3,g4,hlen,hlt,j1,j2,kv,Ip,e3,Yf];rfl
   refine⟨hlt,_,_,rfl,rfl,by omega,?_⟩;simp only [av,aw,T.af,T.ag,T.ak,X2,X3,if_true,if_false,and_true,true_and,g0]
  ·have e:i=l0.length+1:=by omega
   subst e;rw [Zt (by simp)] at g3;apply W.run 20
   ·intro M;simp (disch:=first|decide+kernel|omega) only [GJ,tT,qba,Aq,X2,g0,g4,hlen,hlt,Yf];rfl
   apply W.seq;apply W.run 20
   ·intro M;simp (disch:=first|decide+kernel|omega) only [tT,qba,Aq,X2,g3];rfl
   apply W.run 20
   ·intro M;simp (disch:=first|decide+kernel|omega) only [tT,qba,Aq,X2];rfl
   exact⟨by simp,rfl,rfl,by simp only [qba,Aq,X2]<;>rfl⟩
 ·simp only [av,aw,T.af,T.ag,T.ak,X2,X3,if_true,if_false,and_true,true_and];simp [least]
theorem j8:ai.bp 162=some (.slice 172):=by kernel_rfl
theorem KY:aY ai 172= .ok 3:=by kernel_rfl
theorem bA {t:TypeId} {p:Bool} (h:(ai.bp t).map cN=some p):∃d,ai.bp t=some d∧cN d=p:=by
 cases hq:ai.bp t with
 |none=>rw [hq] at h;cases h
 |some d=>rw [hq] at h;exact⟨d,rfl,by simpa using h⟩
theorem cZ:ax ai 164 (pw b o) 0= .ok (pw b o):=by kernel_rfl
theorem cR:ax ai 164 (pw b o) 1= .ok (pw b (o+1)):=by kernel_rfl
theorem iW:ax ai 164 (pw b o) 2= .ok (pw b (o+2)):=by kernel_rfl
theorem j'.len {l:List cO} {x:Value} (h:j' A l x):aO ai .len [162] [x]= .ok (.int .i64 (l.length:Nat)):=by
 obtain⟨b,h⟩:=h;have:=az.len (tb:=ai) h j8;rwa [Yb] at this
theorem j'.at {l:List cO} {x:Value} {e:cO} (h:j' A l x) (hi:l[i]?=some e):
 ∃p,aZ ai 162 x (.int .i64 i)= .ok p∧aq ai A.get 172 p= .ok (.agg ⟨cc e⟩):=by
 obtain⟨b,h⟩:=h;have hl:i<(l.map cc).length:=by rw [Yb];exact(X_.1 hi).1
 have hm:(l.map cc)[i]?=some (cc e):=by rw [Yr,hi];rfl
 obtain⟨d,hd1,hd2⟩:=bA (t:=172) (p:=true) (by kernel_rfl);exact⟨_,az.idx h j8 KY hl,az.aQ h hd1 hd2 KY hm⟩
theorem OM:fieldsOf (ai.bp 172)=[(false,5,0),(false,103,1),(false,3,2)]:=by kernel_rfl
theorem SA {x y:Operand} {a b:cO}:pY ai 172 x y (.agg ⟨cc a⟩) (.agg ⟨cc b⟩)=true:=by
 unfold pY;have:ai.P.eqGuardType ai.P.depth 172=false:=by decide+kernel
 rw [this];rfl
theorem L4 {g:Nat→Option Ob} {a b:cO}:eZ ai g 100 172 (.agg ⟨cc a⟩) (.agg ⟨cc b⟩)= .ok (decide (a=b)):=by
 rw [r_ (by kernel_rfl) OM (by kernel_rfl)];simp only [ib,cond_false,cc];rw [fW u5 rfl rfl,fW u5 rfl rfl,fW (o:=1) ff rfl rfl,fW (o:=1) ff rfl rfl,fW (o:=2) u3 rfl rfl,fW (o:=2) u3 rfl rfl];simp only [R.aA,o_ (tb:=ai) (t:=5) u5,o_ (tb:=ai) (t:=103) ff,o_ (tb:=ai) (t:=3) u3];obtain⟨a0,a1,a2⟩:=a;obtain⟨b0,b1,b2⟩:=b;have h0':(((a0.toNat:Nat):Int)=((b0.toNat:Nat):Int))=(a0=b0):=propext ⟨fun h=>ZS.1 (Int.natCast_inj.1 h),fun h=>by rw [h]⟩;simp only [h0',Int.natCast_inj,cO.mk.injEq];by_cases h0:a0=b0<;>by_cases h1:a1=b1<;>by_cases h2:a2=b2<;>simp [h0,h1,h2,R.aA]
theorem LS {g:Nat→Option Ob} {x y:Operand} {a b:cO}:u_ ai g .neq 172 x y (.agg ⟨cc a⟩) (.agg ⟨cc b⟩)= .ok (.bool (!decide (a=b))):=by
 unfold u_;rw [SA,cond_true];simp only [];rw [L4];rfl
theorem Cc (t:T Value) (g:Nat→Option Ob) (e:TypeId) (x y:Operand) (r:TypeId):nf ai t g (.binOp .neq e x y r)=(ev t x).bind fun a=>(ev t y).bind fun b=>u_ ai g .neq e x y a b:=rfl
noncomputable def n5:Code:=ZF.body.getD .skip
noncomputable def CF:Code:=sub n5 [1,1,0,1,0,0]
theorem QA:ZF.body=some (.seq (sub n5 [0]) (.seq (sub n5 [1,0]) (.seq (.seq (sub n5 [1,1,0,0]) (.block 0 (.loop CF))) (.seq (sub n5 [1,1,1,0]) (sub n5 [1,1,1,1]))))):=by kernel_rfl
variable {y:Value}
theorem Ky {s u:bj} {x:Value} (hx:j' A s.arcs x) (hy:j' A u.arcs y) (hl:s.arcs.length<1000000):∃v A',bL ai 197 [.agg ⟨cW x s⟩,.agg ⟨cW y u⟩] A v A'∧v= .bool (decide (s=u))∧Kp A A':=by
 refine cS (aB Tryz.func197) QA (by rw [Tryz.ntmps197];simp) (by kernel_rfl) (by kernel_rfl) ?_;have kB:Kp A ((A.alloc (aa 164 (cW x s))).alloc (aa 164 (cW y u))):=(Kp.alloc _ _).trans (Kp.alloc _ _);have h1:VB ((A.alloc (aa 164 (cW x s))).alloc (aa 164 (cW y u))) 164 A.next (.var 3) (cW x s):=(aF A 164 (cW x s)).kp (Kp.alloc _ _)
 have h2:VB ((A.alloc (aa 164 (cW x s))).alloc (aa 164 (cW y u))) 164 (A.alloc (aa 164 (cW x s))).next (.var 3) (cW y u):=aF _ 164 (cW y u)
 apply W.seq;apply W.run 20
 ·intro M;simp (disch:=first|decide+kernel|omega) only [n5,ZF,Aq,X2,au];rfl
 show W ai _ _ _;generalize (A.alloc (aa 164 (cW x s))).alloc (aa 164 (cW y u))=B at kB h1 h2;generalize (A.alloc (aa 164 (cW x s))).next=q at h2
 generalize A.next=p at h1
 have hx:=hx.kp kB;have hy:=hy.kp kB;have a1:aq ai B.get 162 (pw p 0)= .ok x:=h1.ld rfl j8 rfl;have a2:aq ai B.get 4 (pw p (0+1))= .ok (.bool s.fin):=h1.ld rfl u4 rfl;have a3:aq ai B.get 103 (pw p (0+2))= .ok (.int .u64 s.out):=h1.ld rfl ff rfl;have b1:aq ai B.get 162 (pw q 0)= .ok y:=h2.ld rfl j8 rfl;have b2:aq ai B.get 4 (pw q (0+1))= .ok (.bool u.fin):=h2.ld rfl u4 rfl;have b3:aq ai B.get 103 (pw q (0+2))= .ok (.int .u64 u.out):=h2.ld rfl ff rfl;have lx:=hx.len;have ly:=hy.len;apply W.seq;by_cases hsame:s.fin=u.fin∧s.out=u.out∧s.arcs.length=u.arcs.length
 ·obtain⟨e1,e2,e3⟩:=hsame;rw [←e1] at b2;rw [←e2] at b3;rw [←e3] at ly;have q1:(s.fin !=s.fin)=false:=by simp
  apply W.run 20
  ·intro M;simp (config:={maxSteps:=4000000}) (disch:=first|decide+kernel|omega|simp only [Wq,X2]) only [n5,ZF,Aq,X5,reduceIte,X2,X3,cZ,cR,iW,a1,a2,a3,b1,b2,b3,lx,ly,u4,k7,q1];rfl
  apply W.seq;apply W.seq;apply W.run 20
  ·intro M;simp (disch:=first|decide+kernel|omega) only [n5,ZF,Aq,X2];rfl
  apply W.block;refine W.up s.arcs.length (fun i t D=>D=B∧s.arcs.take i=u.arcs.take i∧Sl t [(2,pw p 0),(3,pw q 0),(5,.int .i64 i)]) ?_ (Yg _) ⟨rfl,rfl,?_⟩
  ·rintro i t D hi ⟨rfl,ht,g2,g3,g5,-⟩;by_cases hlt:i<s.arcs.length
   ·have m1:s.arcs[i]?=some s.arcs[i]:=X6 hlt;have m2:u.arcs[i]?=some (u.arcs[i]'(by omega)):=X6 (by omega)
    obtain⟨p1,j1,j2⟩:=hx.at m1;obtain⟨p2,j3,j4⟩:=hy.at m2;by_cases he:s.arcs[i]=u.arcs[i]'(by omega)
    ·have n1:=fun x y=>LS (g:=D.get) (x:=x) (y:=y) (a:=s.arcs[i]) (b:=u.arcs[i]'(by omega))
     simp only [he,decide_true,Zo] at n1;rw [he] at j2;apply W.run 20
     ·intro M;simp (config:={maxSteps:=4000000}) (disch:=first|decide+kernel|omega|simp only [Wq,X2]) only [CF,n5,ZF,Aq,X5,reduceIte,X2,X3,g2,g3,g5,lx,hlt,cZ,a1,b1,j1,j2,j3,j4,Fq,aC [],Cc,n1];rfl
     refine⟨hlt,_,_,rfl,rfl,?_,?_⟩
     ·rw [Yd hlt,Yd (show i<u.arcs.length by omega),ht,he]
     ·simp only [av,aw,T.af,T.ag,T.ak,X2,X3,if_true,if_false,and_true,true_and,g2,g3]
    ·have n1:=fun x y=>LS (g:=D.get) (x:=x) (y:=y) (a:=s.arcs[i]) (b:=u.arcs[i]'(by omega))
     simp only [he,decide_false,ZL] at n1;apply W.run 20
     ·intro M;simp (config:={maxSteps:=4000000}) (disch:=first|decide+kernel|omega|simp only [Wq,X2]) only [CF,n5,ZF,Aq,X5,reduceIte,X2,X3,g2,g3,g5,lx,hlt,cZ,a1,b1,j1,j2,j3,j4,Fq,aC [],Cc,n1];rfl
     refine⟨by simp,rfl,_,(by simp only [ZF,Aq,X2]<;>rfl),?_,kB⟩;rw [decide_eq_false fun h=>he (by subst h;rfl)]
   ·have e:i=s.arcs.length:=by omega
    subst e;rw [Yw,e3,Yw] at ht;apply W.run 20
    ·intro M;simp (disch:=first|decide+kernel|omega) only [CF,n5,ZF,Aq,X2,g2,g5,lx,hlt,cZ,a1];rfl
    apply W.seq;apply W.run 20
    ·intro M;simp (disch:=first|decide+kernel|omega) only [n5,ZF,Aq,X2];rfl
    apply W.run 20
    ·intro M;simp (disch:=first|decide+kernel|omega) only [n5,ZF,Aq,X2];rfl
    refine⟨by simp,rfl,_,(by simp only [ZF,Aq,X5,reduceIte,X2,X3]<;>rfl),?_,kB⟩;have:s=u:=by
     obtain⟨f,o,a⟩:=s;obtain⟨f',o',a'⟩:=u;simp only at e1 e2 ht;rw [e1,e2,ht]
    rw [decide_eq_true this]
  ·simp only [av,aw,T.af,T.ag,T.ak,X2,X3,if_true,if_false,and_true,true_and]
 ·have hne:s≠u:=fun h=>hsame (by rw [h];exact⟨rfl,rfl,rfl⟩)
  by_cases e1:s.fin=u.fin
  ·rw [←e1] at b2;have q1:(s.fin !=s.fin)=false:=by simp
   by_cases e2:s.out=u.out
   ·have e3:¬s.arcs.length=u.arcs.length:=fun h=>hsame ⟨e1,e2,h⟩
    rw [←e2] at b3;apply W.run 20
    ·intro M;simp (config:={maxSteps:=4000000}) (disch:=first|decide+kernel|omega|simp only [Wq,X2]) only [n5,ZF,Aq,X5,reduceIte,X2,X3,cZ,cR,iW,a1,a2,a3,b1,b2,b3,lx,ly,u4,k7,q1,e3];rfl
    exact⟨by simp,rfl,_,(by simp only [ZF,Aq,X5,reduceIte,X2,X3]<;>rfl),by rw [decide_eq_false hne],kB⟩
   ·apply W.run 20
    ·intro M;simp (config:={maxSteps:=4000000}) (disch:=first|decide+kernel|omega|simp only [Wq,X2]) only [n5,ZF,Aq,X5,reduceIte,X2,X3,cZ,cR,iW,a1,a2,a3,b1,b2,b3,lx,ly,u4,k7,q1,e2];rfl
    exact⟨by simp,rfl,_,(by simp only [ZF,Aq,X5,reduceIte,X2,X3]<;>rfl),by rw [decide_eq_false hne],kB⟩
  ·have q1:(s.fin !=u.fin)=true:=by simpa using e1
   apply W.run 20
   ·intro M;simp (config:={maxSteps:=4000000}) (disch:=first|decide+kernel|omega|simp only [Wq,X2]) only [n5,ZF,Aq,X5,reduceIte,X2,X3,cZ,cR,iW,a1,a2,a3,b1,b2,b3,lx,ly,u4,k7,q1];rfl
   exact⟨by simp,rfl,_,(by simp only [ZF,Aq,X5,reduceIte,X2,X3]<;>rfl),by rw [decide_eq_false hne],kB⟩
theorem fX:ai.bp 102=some (.slice 164):=by kernel_rfl
theorem mQ:aY ai 164= .ok 3:=by kernel_rfl
theorem RW:cq ai 164= .ok (3,[.slice none 0 0,.bool false,.int .u64 0]):=by kernel_rfl
theorem H7:aY ai 102= .ok 1:=by kernel_rfl
theorem uu:ax ai 167 (pw b 0) 0= .ok (pw b 0):=by kernel_rfl
theorem Sn:∃i,ai.ty.get 164=some i∧0<i.bytes∧i.bytes≤65536:=by
 have h:(ai.ty.get 164).map (fun i=>Ye 0 i.bytes&&X5 i.bytes 65536)=some true:=by kernel_rfl
 cases hq:ai.ty.get 164 with
 |none=>rw [hq] at h;cases h
 |some i=>
  rw [hq] at h;simp only [YI,YB,Yq,Yl] at h;exact⟨i,rfl,h.1,Yx h.2⟩
theorem RM {x:Value} {s:bj}:bc ai 102 1 [(0,.agg ⟨cW x s⟩)]= .ok (aa 164 (cW x s),.m_ 1 2):=by kernel_rfl
def zm (A:Mem) (m b:Nat) (M:List bj) (X:Nat→Prop):Prop:=∃x rows,VB A 167 m (.var 1) [x]∧az A 164 3 b rows x∧((M=[]→x= .slice none 0 0)∧(M≠ []→b≠m∧b<A.next∧¬X b))∧¬X m∧rows.length=M.length∧
 ∀(i:Nat) (s:bj),M[i]?=some s→∃y c,rows[i]?=some (cW y s)∧az A 172 3 c (s.arcs.map cc) y∧(s.arcs=[]→y= .slice none 0 0)∧(s.arcs≠ []→c≠b∧c≠m∧¬X c)
variable {m:Nat} {M:List bj}
theorem zm.XA {X:Nat→Prop} (h:zm A m b M X) (hn:A.next≤A'.next) (hg:∀z,z<A.next→¬X z→A'.get z=A.get z):zm A' m b M X:=by
 obtain⟨x,rows,h1,h2,h3,hX,h4,h5⟩:=h;refine⟨x,rows,⟨Yt h1.1 hn,h1.2.same (hg m h1.1 hX)⟩,az.fA h2 (fun h=>h3.1 (Yh.1 (by rw [←h4,h];rfl))) hn (fun hne hlt=>hg b hlt (h3.2 fun h=>hne (Yh.1 (by rw [h4,h];rfl))).2.2),⟨h3.1,fun h=>⟨(h3.2 h).1,Yt (h3.2 h).2.1 hn,(h3.2 h).2.2⟩⟩,hX,h4,fun i s hs=>?_⟩;obtain⟨y,c,e1,e2,e0,e3⟩:=h5 i s hs;exact⟨y,c,e1,az.fA e2 (fun h=>e0 (YK.1 h)) hn (fun hne hlt=>hg c hlt (e3 fun h=>hne (by rw [h];rfl)).2.2),e0,e3⟩
theorem zm.kp {X:Nat→Prop} (h:zm A m b M X) (k:Kp A A'):zm A' m b M X:=h.XA k.1 fun z hz _=>k.2 z hz
theorem JL {s:bj} (h1:M[i]?=some s) (h2:∀j,j<i→M[j]?≠some s):M.findIdx? (fun x=>decide (x=s))=some i:=by
 obtain⟨hl,he⟩:=X_.1 h1;rw [List.findIdx?_eq_some_iff_getElem];refine⟨hl,by simp [he],fun j hj=>?_⟩;have:=h2 j hj;rw [X6 (by omega)] at this;simpa using this
theorem E5 {s:bj} (h2:∀j,j<M.length→M[j]?≠some s):M.findIdx? (fun x=>decide (x=s))=none:=by
 rw [qaS];intro x hx;obtain⟨j,hj,rfl⟩:=qay hx;have:=h2 j hj;rw [X6 hj] at this;simpa using this
noncomputable def sM:Code:=qaI.body.getD .skip
noncomputable def Bu:Code:=sub sM [1,0,1,0,0]
theorem P6:qaI.body=some (.seq (sub sM [0]) (.seq (.seq (sub sM [1,0,0]) (.block 0 (.loop Bu))) (.seq (sub sM [1,1,0]) (.seq (sub sM [1,1,1,0]) (sub sM [1,1,1,1]))))):=by kernel_rfl
variable {c:Nat}
theorem Gg {X:Nat→Prop} {s:bj} (hM:zm A m b M X) (hX:∀z,X z→z<A.next) (hs:az A 172 3 c (s.arcs.map cc) y) (hy0:s.arcs=[]→y= .slice none 0 0) (hc:s.arcs≠ []→(M≠ []→c≠b)∧c≠m∧¬X c) (hl:s.arcs.length<1000000) (hl2:∀u∈M,u.arcs.length<1000000) (hML:M.length<1000000):
 ∃v A',bL ai 152 [.pointer (some ⟨m,0,none⟩),.agg ⟨cW y s⟩] A v A'∧v= .int .i64 ((pR M s).2:Nat)∧∃b',zm A' m b' (pR M s).1 X∧((M≠ []∧b'=b)∨A.next≤b')∧A.next≤A'.next∧∀z,z<A.next→z≠m→(M≠ []→z≠b)→A'.get z=A.get z:=by
 refine cS (aB Tryz.func152) P6 (by rw [Tryz.ntmps152];simp) (by kernel_rfl) (by kernel_rfl) ?_;have kB:=Kp.alloc A (aa 164 (cW y s));have own:=aF A 164 (cW y s);have hcell:∀v∈cW y s,aJ v=true:=by
  intro v hv;simp only [cW,Yp,YH,or_false] at hv;rcases hv with rfl|rfl|rfl
  ·exact(az.dm hs).2
  ·rfl
  ·rfl
 apply W.seq;apply W.run 20
 ·intro M;simp (disch:=first|decide+kernel|omega) only [sM,qaI,Aq,X2,au];rfl
 show W ai _ _ _;generalize A.alloc (aa 164 (cW y s))=B at kB own;obtain⟨d,hd1,hd2⟩:=bA (t:=164) (p:=true) (by kernel_rfl);apply W.seq;apply W.seq;apply W.run 20
 ·intro M;simp (disch:=first|decide+kernel|omega) only [sM,qaI,Aq,X2];rfl
 apply W.block;refine W.up M.length (fun i t D=>Kp B D∧(∀j,j<i→M[j]?≠some s)∧Sl t [(0,.pointer (some ⟨m,0,none⟩)),(3,.pointer (some ⟨A.next,0,none⟩)),(5,.int .i64 i)]) ?_ (Yg _) ⟨Kp.refl _,fun j hj=>absurd hj (ZR _),?_⟩
 ·rintro i t D hi ⟨kD,hno,g0,g3,g5,-⟩;have hMD:=(hM.kp kB).kp kD;obtain⟨x,rows,h1,h2,h3,hXm,h4,h5⟩:=id hMD;have lm:aq ai D.get 102 (.pointer (some ⟨m,0,none⟩))= .ok x:=h1.ld rfl fX rfl;have lo:aq ai D.get 164 (.pointer (some ⟨A.next,0,none⟩))= .ok (.agg ⟨cW y s⟩):=aQ hd1 hd2 (l:=cW y s) mQ (own.kp kD).2;have lx:=az.len (tb:=ai) (t:=102) h2 fX;rw [h4] at lx;by_cases hlt:i<M.length
  ·have he:M[i]?=some M[i]:=X6 hlt;obtain⟨yi,ci,e1,e2,-⟩:=h5 i _ he;have j1:=az.idx (tb:=ai) (t:=102) (i:=i) (kd:=.i64) h2 fX mQ (by omega);have j2:=az.aQ (tb:=ai) (t:=164) h2 hd1 hd2 mQ e1;obtain⟨v,E,⟨g,hg⟩,rfl,kE⟩:=Ky (A:=D) (s:=M[i]) (u:=s) ⟨ci,e2⟩ ⟨c,(hs.same kB.1 (kB.2 c)).same kD.1 (kD.2 c)⟩ (hl2 _ (YQ _));by_cases hsame:M[i]=s
   ·rw [decide_eq_true hsame] at hg;apply W.a6 (g) 20
    ·intro M hM;simp (config:={maxSteps:=4000000}) (disch:=first|decide+kernel|omega|simp only [Wq,X2]) only [Bu,sM,qaI,Aq,X5,reduceIte,X2,X3,g0,g3,g5,lm,lo,lx,hlt,aG,a8,uu,j1,j2,hg,Fq,aC []];rfl
    have hn:pR M s=(M,i):=ri (JL (by rw [he,hsame]) hno);refine⟨by simp,rfl,_,(by simp only [qaI,Aq,X2]<;>rfl),by rw [hn],b,by rw [hn];exact hMD.kp kE,.inl ⟨fun h=>by rw [h] at hlt;simp at hlt,rfl⟩,by show A.next≤E.next;have:=kB.1;have:=kD.1;have:=kE.1;omega,fun z hz _ _=>((kB.trans kD).trans kE).2 z hz⟩
   ·rw [decide_eq_false hsame] at hg;apply W.a6 (g) 20
    ·intro M hM;simp (config:={maxSteps:=4000000}) (disch:=first|decide+kernel|omega|simp only [Wq,X2]) only [Bu,sM,qaI,Aq,X5,reduceIte,X2,X3,g0,g3,g5,lm,lo,lx,hlt,aG,a8,uu,j1,j2,hg,Fq,aC []];rfl
    refine⟨hlt,_,_,rfl,kD.trans kE,fun j hj=>?_,?_⟩
    ·rcases YE j i with h|h
     ·exact hno j h
     ·rw [show j=i by omega,he];simpa using hsame
    ·simp only [av,aw,T.af,T.ag,T.ak,X2,X3,if_true,if_false,and_true,true_and,g0,g3]
  ·have e:i=M.length:=by omega
   subst e;have hn:pR M s=(M++[s],M.length):=yn (E5 hno);obtain⟨ti,t1,t2,t3⟩:=Sn;have h2':az (D.alloc (aa 164 (cW y s))) 164 3 b rows x:=h2.same (by rw [ae];omega) fun h=>aH (by omega)
   obtain⟨x',F,happ,hs3,hn3,hf3⟩:=az.append (tb:=ai) (st:=102) (xt:=102) h2' fX fX RW t1 t2 t3 (by omega) (by omega) (by omega) (aD D _) rfl hcell;rw [ae] at hs3 hn3 hf3;have hmF:dD F 167 m (.var 1) [x]:=h1.2.same (by rw [hf3 m (fun h=>ZP h3.1 fun hne=>absurd h.symm (h3.2 hne).1) (by have:=h1.1;omega),aH (by have:=h1.1;omega)]);obtain⟨G,sG,vG,nG,kG⟩:=a_ (tb:=ai) (o:=0) (v:=x') H7 hmF (by simp) (az.dm hs3).1 (az.dm hs3).2;have lG:aq ai G.get 102 (.pointer (some ⟨m,0,none⟩))= .ok x':=bf fX rfl vG rfl;have keep:∀z,z<D.next→z≠m→(M≠ []→z≠b)→G.get z=D.get z:=fun z hz h1 h2=>by rw [kG z h1,hf3 z (fun h=>ZP h3.1 fun hne=>absurd h (h2 hne)) (by omega),aH (by omega)]
   have hsG:az G 164 3 (D.next+1) (rows++[cW y s]) x':=hs3.same (by omega) fun h=>kG _ (by have:=h1.1;omega)
   have lxG:=az.len (tb:=ai) (t:=102) hsG fX;rw [X',Y9,h4] at lxG;have sub1:aN .sub .i64 ((M.length+1:Nat):Int) ((1:Nat):Int)= .ok (.int .i64 (M.length:Nat)):=bq (by omega) (aR (by omega));apply W.run 20
   ·intro M;simp (disch:=first|decide+kernel|omega) only [Bu,sM,qaI,Aq,X2,g0,g5,lm,lx,hlt,aG,a8,uu];rfl
   apply W.seq;apply W.run 20
   ·intro M;simp (config:={maxSteps:=4000000}) (disch:=first|decide+kernel|omega|simp only [Wq,X2]) only [sM,qaI,Aq,X5,reduceIte,X2,X3,g0,g3,lm,lo,aG,a8,uu,RM,happ,sG,Fq,aC []];rfl
   apply W.seq;apply W.run 20
   ·intro M;simp (disch:=first|decide+kernel|omega) only [sM,qaI,Aq,X2,g0,aG,a8,uu,lG,lxG,sub1];rfl
   apply W.run 20
   ·intro M;simp (disch:=first|decide+kernel|omega) only [sM,qaI,Aq,X2];rfl
   refine⟨by simp,rfl,_,(by simp only [qaI,Aq,X2]<;>rfl),by rw [hn],D.next+1,?_,.inr ?_,?_,fun z hz hm hb=>?_⟩
   ·rw [hn];refine⟨x',rows++[cW y s],⟨?_,vG⟩,hsG,⟨fun h=>by simp at h,fun _=>⟨?_,?_,fun h=>?_⟩⟩,hXm,?_,fun i u hu=>?_⟩
    ·show m<G.next
     have:=h1.1;omega
    ·have:=h1.1;omega
    ·show D.next+1<G.next
     omega
    ·have:=hX _ h;have:=kB.1;have:=kD.1;omega
    ·rw [X',X',h4];rfl
    ·rcases YE i M.length with hi2|hi2
     ·rw [Yz hi2] at hu;obtain⟨yi,ci,e1,e2,e0,e3⟩:=h5 i u hu;refine⟨yi,ci,by rw [Yz (by omega)];exact e1,az.fA e2 (fun h=>e0 (YK.1 h)) (by show D.next≤G.next;omega) fun hne hlt=>keep ci hlt (e3 fun h=>hne (by rw [h];rfl)).2.1 (fun _=>(e3 fun h=>hne (by rw [h];rfl)).1),e0,fun h=>⟨?_,(e3 h).2⟩⟩;rcases e2 with⟨_,e2⟩|⟨_,_,_,e2,_⟩
      ·exact absurd (YK.1 e2) h
      ·omega
     ·rw [YA hi2] at hu;cases hq:i-M.length with
      |succ n=>rw [hq] at hu;simp at hu
      |zero=>
       rw [hq] at hu;cases hu;have hsD:az D 172 3 c (s.arcs.map cc) y:=(hs.same kB.1 (kB.2 c)).same kD.1 (kD.2 c);refine⟨y,c,by rw [YA (by omega),show i-rows.length=0 by omega];rfl,az.fA hsD (fun h=>hy0 (YK.1 h)) (by show D.next≤G.next;omega) fun hne hlt=>keep c hlt (hc fun h=>hne (by rw [h];rfl)).2.1 (hc fun h=>hne (by rw [h];rfl)).1,hy0,fun h=>⟨?_,(hc h).2⟩⟩;rcases hsD with⟨_,e2⟩|⟨_,_,_,e2,_⟩
       ·exact absurd (YK.1 e2) h
       ·omega
   ·have:=kB.1;have:=kD.1;omega
   ·show A.next≤G.next
    have:=kB.1;have:=kD.1;omega
   ·show G.get z=A.get z;have:=kB.1;have:=kD.1;rw [keep z (by omega) hm hb,kD.2 z (by omega),kB.2 z hz]
 ·simp only [av,aw,T.af,T.ag,T.ak,X2,X3,if_true,if_false,and_true,true_and]
theorem G5 {w:List UInt8} (h:1≤w.length∧w.length≤255):bL ai 150 [strOf w] A (.int .i64 (0:Nat)) A:=by
 have k:=fun ih=>XY (ih:=ih) (A:=A) (w:=w)
 rw [decide_eq_true h] at k;refine aT (aB Tryz.func150) (c:=Tryz.f150.body.getD .skip) (by kernel_rfl) (by rw [Tryz.ntmps150];simp) (by kernel_rfl) (by kernel_rfl) ?_;apply W.run 60
 ·intro M;simp (disch:=first|decide+kernel|omega) only [Tryz.f150,Aq,X2,k];rfl
 exact⟨by simp,rfl,rfl,by simp only [Tryz.f150,Aq,X2,k]<;>rfl⟩
theorem P7 {a b:List UInt8}:de .geq a b= .ok (.bool (!a7 a b)):=rfl
theorem Sd (t:T Value) (k:IntKind):ev t (.const (.int k (-1)))= .ok (.int k (-1)):=rfl
theorem OU:∀{l:List aP} {i:Nat} {a b:aP},rj l→l[i]?=some a→l[i+1]?=some b→a7 a.word b.word=true
 |x::l,0,a,b,h,h1,h2=>by
  cases h1;rw [X7] at h2;exact h.1 b (YF h2)
 |x::l,i+1,a,b,h,h1,h2=>by
  rw [X7] at h1 h2;exact OU h.2 h1 h2
noncomputable def Lr:Code:=qbP.body.getD .skip
noncomputable def HB:Code:=sub Lr [1,0,1,0,0]
theorem Uo:qbP.body=some (.seq (sub Lr [0]) (.seq (.seq (sub Lr [1,0,0]) (.block 0 (.loop HB))) (.seq (sub Lr [1,1,0]) (sub Lr [1,1,1])))):=by kernel_rfl
theorem Gz {l:List aP} {x:Value} (h:fm A l x) (ha:rj l) (hw:∀e∈l,1≤e.word.length∧e.word.length≤255) (hl:l.length<1000000):bL ai 99 [x] A (.tuple ⟨[.int .i64 (-1),.int .i64 (0:Nat)]⟩) A:=by
 refine aT (aB Tryz.func99) Uo (by rw [Tryz.ntmps99];simp) (by kernel_rfl) (by kernel_rfl) ?_;have hlen:=h.len;apply W.seq;apply W.run 20
 ·intro M;simp (disch:=first|decide+kernel|omega) only [Lr,qbP,Aq,X2];rfl
 apply W.seq;apply W.seq;apply W.run 20
 ·intro M;simp (disch:=first|decide+kernel|omega) only [Lr,qbP,Aq,X2];rfl
 apply W.block;refine W.up l.length (fun i t D=>D=A∧Sl t [(0,x),(4,.int .i64 i)]) ?_ (Yg _) ⟨rfl,?_⟩
 ·rintro i t D hi ⟨rfl,g0,g4,-⟩;by_cases hlt:i<l.length
  ·have he:l[i]?=some l[i]:=X6 hlt;obtain⟨p,j1,j2,q,j3,j4⟩:=h.at he;obtain⟨g,hg⟩:=G5 (A:=D) (hw _ (YQ hlt));by_cases h0:0<i
   ·have he2:l[i-1]?=some l[i-1]:=X6 (by omega);obtain⟨p2,k1,k2,q2,k3,k4⟩:=h.at he2;have sub1:aN .sub .i64 ((i:Nat):Int) ((1:Nat):Int)= .ok (.int .i64 (i-1:Nat)):=bq (by omega) (aR (by omega));have hb:=OU ha he2 (by rw [show i-1+1=i by omega];exact he);apply W.a6 (g) 20
    ·intro M hM;simp (config:={maxSteps:=4000000}) (disch:=first|decide+kernel|omega|simp only [Wq,X2]) only [HB,Lr,qbP,Aq,X5,reduceIte,X2,X3,g0,g4,hlen,hlt,j1,j3,j4,hg,bR,bw,h0,sub1,k1,k3,k4,u9,P7,hb,Fq,aC []];rfl
    refine⟨hlt,_,_,rfl,rfl,?_⟩;simp only [av,aw,T.af,T.ag,T.ak,X2,X3,if_true,if_false,and_true,true_and,g0]
   ·apply W.a6 (g) 20
    ·intro M hM;simp (config:={maxSteps:=4000000}) (disch:=first|decide+kernel|omega|simp only [Wq,X2]) only [HB,Lr,qbP,Aq,X5,reduceIte,X2,X3,g0,g4,hlen,hlt,j1,j3,j4,hg,bR,bw,h0,Fq,aC []];rfl
    refine⟨hlt,_,_,rfl,rfl,?_⟩;simp only [av,aw,T.af,T.ag,T.ak,X2,X3,if_true,if_false,and_true,true_and,g0]
  ·have e:i=l.length:=by omega
   subst e;apply W.run 20
   ·intro M;simp (disch:=first|decide+kernel|omega) only [HB,Lr,qbP,Aq,X2,g0,g4,hlen,hlt];rfl
   apply W.seq;apply W.run 20
   ·intro M;simp (disch:=first|decide+kernel|omega) only [Lr,qbP,Aq,X2,Sd];rfl
   apply W.run 20
   ·intro M;simp (disch:=first|decide+kernel|omega) only [Lr,qbP,Aq,X2];rfl
   exact⟨by simp,rfl,rfl,by simp only [qbP,Aq,X2]<;>rfl⟩
 ·simp only [av,aw,T.af,T.ag,T.ak,X2,X3,if_true,if_false,and_true,true_and]
end Go.Proofs.YtggndfefpbmaeaaGreatDoor.sto
namespace Go.Sto
open Go.Am Go.Mdl
theorem Dc (M:List bj) (s:bj):M<+:(pR M s).1:=by
 unfold pR;split
 ·exact qbD _
 ·exact qbd _ _
theorem PL (M:List bj) (s:bj):(pR M s).1[(pR M s).2]?=some s:=by
 cases h:M.findIdx? (fun x=>decide (x=s)) with
 |some i=>rw [ri h];exact Em h
 |none=>rw [yn h,YA (X9 _),Zg];rfl
variable {d:Nat}
theorem mb {rec:List aP→Nat→List bj→List bj×Nat} {less:Nat} (hrec:∀own n M,M<+:(rec own n M).1):∀(r:List aP) (X1:List cO) (M:List bj),M<+:(dB rec d less r X1 M).1∧X1<+:(dB rec d less r X1 M).2
 | [],X1,M=>⟨qbD _,qbD _⟩
 |e::r,X1,M=>by
  unfold dB;split
  ·exact mb hrec r X1 M
  ·obtain⟨h1,h2⟩:=mb hrec r (X1++[⟨(ay d e).getD 0,least ((e::r).filter fun x=>decide (ay d x=ay d e))-less,(rec ((e::r).filter fun x=>decide (ay d x=ay d e)) (least ((e::r).filter fun x=>decide (ay d x=ay d e))) M).2⟩])
    (rec ((e::r).filter fun x=>decide (ay d x=ay d e)) (least ((e::r).filter fun x=>decide (ay d x=ay d e))) M).1
   exact⟨(hrec _ _ _).trans h1,(qbd _ _).trans h2⟩
theorem wA:∀(f:Nat) (l:List aP) (d less:Nat) (M:List bj),M<+:(oX f l d less M).1
 |0,_,_,_,M=>qbD _
 |f+1,l,d,less,M=>by
  unfold oX;exact(mb (fun own n M=>wA f own (d+1) n M) l [] M).1.trans (Dc _ _)
variable {M:List bj}
theorem DP {M':List bj} (g:Good M') (h:M<+:M'):Good M:=by
 have g0:dM M:=fun i s hs=>g.1 i s (by rw [BX h (X_.1 hs).1];exact hs)
 refine⟨g0,h.sublist.nodup g.2.1,fun i hi w hw=>?_⟩;rw [←BQ g0 h hi] at hw;exact g.2.2 i (Yt hi h.length_le) w hw
theorem XG:∀{l:List UInt8} {n:Nat},l.Pairwise (·<·)→(∀x∈l,n≤x.toNat)→n≤256→l.length+n≤256
 | [],n,_,_,h=>by simpa using h
 |x::l,n,hp,hn,_=>by
  obtain⟨h1,h2⟩:=List.pairwise_cons.1 hp;have hx:=x.toNat_lt;have:=XG (l:=l) (n:=x.toNat+1) h2 (fun y hy=>qaN.1 (h1 y hy)) (by omega);have:=hn x Yk;rw [Yf];omega
variable {i:Nat}
theorem mU {s:bj} (h:Ur i s):s.arcs.length≤256:=by
 have:=XG (n:=0) h.2.1 (fun _ _=>Yg _) (by omega);rwa [Yb] at this
theorem Dq (g:Good M) {s:bj} (h:s∈M):s.arcs.length≤256:=by
 obtain⟨i,hi,rfl⟩:=qay h;exact mU (g.1 i _ (X6 hi))
theorem N0 {f less:Nat} {l:List aP} (g:Good (oX (f+1) l d less M).1):(dB (fun own n M=>oX f own (d+1) n M) d less l [] M).2.length≤256:=by
 have h:=PL (dB (fun own n M=>oX f own (d+1) n M) d less l [] M).1 ⟨(iH d less l).1,(iH d less l).2,(dB (fun own n M=>oX f own (d+1) n M) d less l [] M).2⟩;exact mU (g.1 _ _ h)
def CY (d:Nat) (l:List aP):Nat:=(l.map fun e=>e.word.length+1-d).sum
theorem qU (d:Nat) (p:aP→Bool):∀l:List aP,CY d (l.filter p)+CY d (l.filter fun x=>!p x)=CY d l
 | []=>rfl
 |x::l=>by
  have ih:=qU d p l;unfold CY at ih⊢;rw [YS,YS];cases h:p x<;>simp [h]<;>omega
end Go.Sto
namespace Go.Proofs.YtggndfefpbmaeaaGreatDoor.sto
open Go.Am Go.Mdl Go.Sto
theorem Xj:cq ai 67= .ok (3,[.string .empty,.int .u32 0,.bool false]):=by kernel_rfl
variable {e:aP}
theorem N_:bc ai 60 1 [(0,.agg ⟨ct e⟩)]= .ok (aa 67 (ct e),.m_ 1 2):=by kernel_rfl
theorem Xv:∃i,ai.ty.get 67=some i∧0<i.bytes∧i.bytes≤65536:=by
 have h:(ai.ty.get 67).map (fun i=>Ye 0 i.bytes&&X5 i.bytes 65536)=some true:=by kernel_rfl
 cases hq:ai.ty.get 67 with
 |none=>rw [hq] at h;cases h
 |some i=>
  rw [hq] at h;simp only [YI,YB,Yq,Yl] at h;exact⟨i,rfl,h.1,Yx h.2⟩
theorem Er (e:aP):∀v∈ct e,aJ v=true:=by
 intro v hv;simp only [ct,Yp,YH,or_false] at hv;rcases hv with rfl|rfl|rfl<;>rfl
variable {b:Nat}
theorem Cx {D:Mem} {l:List aP} {x:Value} (h:az D 67 3 b (l.map ct) x) (hl:l.length<1000000):
 ∃x' D',bk ai (D.alloc (aa 67 (ct e))) 60 60 x (.slice (some ⟨D.next,0,none⟩) 1 2)= .ok (x',D')∧az D' 67 3 (D.next+1) ((l++[e]).map ct) x'∧D'.next=D.next+2∧∀z,z≠b→z<D.next→D'.get z=D.get z:=by
 obtain⟨i,t1,t2,t3⟩:=Xv;have h':az (D.alloc (aa 67 (ct e))) 67 3 b (l.map ct) x:=h.same (by rw [ae];omega) fun hh=>aH (by omega)
 obtain⟨x',D',h1,h2,h3,h4⟩:=az.append (tb:=ai) (st:=60) (xt:=60) h' VC VC Xj t1 t2 t3 (by omega) (by omega) (by rw [Yb];omega) (aD D _) rfl (Er e);rw [ae] at h2 h3 h4;refine⟨x',D',h1,by rw [YV];exact h2,by omega,fun z hz hzn=>by rw [h4 z (fun hh=>absurd hh hz) (by omega),aH (by omega)]⟩
variable {i k:Nat}
theorem yj {l:List aP} (hik:i≤k) (hk:k<l.length):(l.take (k+1)).drop i=(l.take k).drop i++[l[k]]:=by
 rw [Yd hk,List.drop_append_of_le_length (by rw [Yo];omega)]
variable {d:Nat}
theorem jQ (h:d<e.word.length):ay d e=some (e.word.getD d 0):=by
 unfold ay;rw [YZ,X6 h];rfl
noncomputable def fO:Code:=Y_.body.getD .skip
noncomputable def xz:Code:=sub fO [1,1,0,1,0,0]
noncomputable def cC:Code:=sub fO [1,1,1,0,1,0,0]
noncomputable def rb:Code:=sub cC [1,0,0,1,1,0,1,0,0]
variable {t:T Value}
theorem O0 {D:Mem} {l:List aP} {x mv sp:Value} {bl less:Nat} {K:Ex→St→Prop} (h:az D 67 3 bl (l.map ct) x) (he:l[i]?=some e) (hd:d<e.word.length) (hl:l.length<1000000)
 (hw:∀y∈l,y.word.length<1000000) (hs:Sl t [(0,mv),(1,x),(2,.int .i64 d),(3,.int .u64 less),(9,sp),(11,.int .i64 i),(12,.slice none 0 0)])
 (hK:∀t' D' xo bo,Kp D D'→az D' 67 3 bo ((l.drop i|>.filter fun y=>decide (ay d y=ay d e)).map ct) xo→D.next≤bo→
  Sl t' [(0,mv),(1,x),(2,.int .i64 d),(3,.int .u64 less),(9,sp),(11,.int .i64 i),(12,xo)]→K .nrm ⟨t',143,[],D',none⟩):
 W ai (.seq (sub cC [1,0,0,1,1,0,0]) (.block 4 (.loop rb))) ⟨t,143,[],D,none⟩ K:=by
 obtain⟨g0,g1,g2,g3,g9,g11,g12,-⟩:=hs;have hi:i<l.length:=(X_.1 he).1;have hE:fm D l x:=⟨bl,h⟩;obtain⟨pe,i1,-,qe,i3,i4⟩:=hE.at he;have hlen:=hE.len;apply W.seq;apply W.run 20
 ·intro M;simp (disch:=first|decide+kernel|omega) only [cC,fO,Y_,Aq,X2,g11];rfl
 apply W.block;refine W.up l.length (fun k t E=>i≤k∧Kp D E∧∃xo bo,az E 67 3 bo ((((l.take k).drop i).filter fun y=>decide (ay d y=ay d e)).map ct) xo∧D.next≤bo∧Sl t [(0,mv),(1,x),(2,.int .i64 d),(3,.int .u64 less),(9,sp),(11,.int .i64 i),(12,xo),(13,.int .i64 k)]) ?_ (k:=i) (by omega) ⟨X9 _,Kp.refl _,.slice none 0 0,D.next,.inl ⟨rfl,by
  rw [qbj (by rw [Yo];omega)];rfl⟩,X9 _,?_⟩
 ·rintro k t E hk ⟨hik,kE,xo,bo,hso,hbo,g0,g1,g2,g3,g9,g11,g12,g13,-⟩;have hEE:=hE.kp kE;have hlenE:=hEE.len;by_cases hlt:k<l.length
  ·have hy:l[k]?=some l[k]:=X6 hlt;obtain⟨py,j1,j2,qy,j3,j4⟩:=hEE.at hy;obtain⟨pe,i1,-,qe,i3,i4⟩:=hEE.at he;have hwy:=hw _ (YQ hlt);have ly:=cd (tb:=ai) (t:=9) (l:=l[k].word) u9;have hst:=yj hik hlt;have ixe:=ed (tb:=ai) (t:=9) (kd:=.i64) u9 hd;by_cases h1:d<l[k].word.length
   ·have ixy:=ed (tb:=ai) (t:=9) (kd:=.i64) u9 h1;by_cases h2:(l[k].word.getD d 0).toNat=(e.word.getD d 0).toNat
    ·have hp:decide (ay d l[k]=ay d e)=true:=by
      rw [jQ h1,jQ hd,ZS.1 h2];simp
     have hlo:(((l.take k).drop i).filter fun y=>decide (ay d y=ay d e)).length<1000000:=by
      have:=qaL (fun y=>decide (ay d y=ay d e)) ((l.take k).drop i);rw [Zj,Yo] at this;omega
     obtain⟨x',E',ha,hs',hn',hf'⟩:=Cx (e:=l[k]) hso hlo;have kEE:Kp D E':=⟨by have:=kE.1;omega,fun z hz=>by rw [hf' z (by omega) (by have:=kE.1;omega),kE.2 z hz]⟩;apply W.run 20
     ·intro M;simp (config:={maxSteps:=4000000}) (disch:=first|decide+kernel|omega|simp only [Wq,X2]) only [rb,cC,fO,Y_,Aq,X5,reduceIte,X2,X3,g1,g2,g11,g12,g13,hlenE,hlt,j1,j2,j3,j4,i1,i3,i4,ly,bR,bw,h1,ixy,ixe,h2,N_,ha,Fq,aC []];rfl
     refine⟨hlt,_,_,rfl,by omega,kEE,x',E.next+1,?_,by have:=kE.1;omega,?_⟩
     ·rw [hst,qaC,YS,if_pos hp,List.filter_nil];exact hs'
     ·simp only [av,aw,T.af,T.ag,T.ak,X2,X3,if_true,if_false,and_true,true_and,g0,g1,g2,g3,g9,g11]
    ·have hp:decide (ay d l[k]=ay d e)=false:=by
      rw [jQ h1,jQ hd];refine decide_eq_false fun hh=>h2 ?_
      rw [YJ hh]
     apply W.run 20
     ·intro M;simp (config:={maxSteps:=4000000}) (disch:=first|decide+kernel|omega|simp only [Wq,X2]) only [rb,cC,fO,Y_,Aq,X5,reduceIte,X2,X3,g1,g2,g11,g12,g13,hlenE,hlt,j1,j2,j3,j4,i1,i3,i4,ly,bR,bw,h1,ixy,ixe,h2,Fq,aC []];rfl
     refine⟨hlt,_,_,rfl,by omega,kE,xo,bo,?_,hbo,?_⟩
     ·rw [hst,qaC,YS,if_neg (by rw [hp];simp),List.filter_nil,Y'];exact hso
     ·simp only [av,aw,T.af,T.ag,T.ak,X2,X3,if_true,if_false,and_true,true_and,g0,g1,g2,g3,g9,g11,g12]
   ·have hp:decide (ay d l[k]=ay d e)=false:=by
     rw [js.2 (show l[k].word.length≤d by omega),jQ hd];simp
    apply W.run 20
    ·intro M;simp (config:={maxSteps:=4000000}) (disch:=first|decide+kernel|omega|simp only [Wq,X2]) only [rb,cC,fO,Y_,Aq,X5,reduceIte,X2,X3,g1,g2,g11,g12,g13,hlenE,hlt,j1,j2,j3,j4,i1,i3,i4,ly,bR,bw,h1,Fq,aC []];rfl
    refine⟨hlt,_,_,rfl,by omega,kE,xo,bo,?_,hbo,?_⟩
    ·rw [hst,qaC,YS,if_neg (by rw [hp];simp),List.filter_nil,Y'];exact hso
    ·simp only [av,aw,T.af,T.ag,T.ak,X2,X3,if_true,if_false,and_true,true_and,g0,g1,g2,g3,g9,g11,g12]
  ·have hkl:k=l.length:=by omega
   subst hkl;rw [Yw] at hso;apply W.run 20
   ·intro M;simp (disch:=first|decide+kernel|omega) only [rb,cC,fO,Y_,Aq,X2,g1,g13,hlenE,hlt];rfl
   refine hK _ E xo bo kE hso hbo ?_;simp only [av,aw,T.af,T.ag,T.ak,X2,X3,if_true,if_false,and_true,true_and,g0,g1,g2,g3,g9,g11,g12]
 ·simp only [av,aw,T.af,T.ag,T.ak,X2,X3,if_true,if_false,and_true,true_and,g0,g1,g2,g3,g9,g11,g12]
theorem jr:b7 ai 164= .ok (.agg ⟨[.slice none 0 0,.bool false,.int .u64 (0:Nat)]⟩):=by kernel_rfl
theorem V4:aY ai 4= .ok 1:=by kernel_rfl
theorem Pz:aY ai 103= .ok 1:=by kernel_rfl
theorem P':aY ai 162= .ok 1:=by kernel_rfl
theorem U_:cq ai 172= .ok (3,[.int .u8 0,.int .u64 0,.int .i64 0]):=by kernel_rfl
variable {o:Nat}
theorem Nw:ax ai 172 (pw b o) 0= .ok (pw b o):=by kernel_rfl
theorem U' {a:Nat} {n:Int}:bc ai 162 1 [(0,.agg ⟨[.int .u8 a,.int .u64 o,.int .i64 n]⟩)]= .ok (aa 172 [.int .u8 a,.int .u64 o,.int .i64 n],.m_ 1 2):=by kernel_rfl
theorem UG:∃i,ai.ty.get 172=some i∧0<i.bytes∧i.bytes≤65536:=by
 have h:(ai.ty.get 172).map (fun i=>Ye 0 i.bytes&&X5 i.bytes 65536)=some true:=by kernel_rfl
 cases hq:ai.ty.get 172 with
 |none=>rw [hq] at h;cases h
 |some i=>
  rw [hq] at h;simp only [YI,YB,Yq,Yl] at h;exact⟨i,rfl,h.1,Yx h.2⟩
variable {A:Mem} {v:Value}
theorem XW {a b c:Value} (hv:v.cells.toList=[v]) (h1:aJ v=true):aW ai (A.alloc (aa 164 [a,b,c])) 4 (pw A.next (0+1)) v= .ok (A.alloc (aa 164 [a,v,c])):=df (o:=1) V4 hv h1 (by simp)
theorem Xa {a b c:Value} (hv:v.cells.toList=[v]) (h1:aJ v=true):aW ai (A.alloc (aa 164 [a,b,c])) 103 (pw A.next (0+2)) v= .ok (A.alloc (aa 164 [a,b,v])):=df (o:=2) Pz hv h1 (by simp)
theorem Jz {less:Nat} {l:List aP}:iH d less (l++[e])=if ay d e=none then(true,val e-less) else iH d less l:=by
 unfold iH;rw [ZA];rfl
theorem Q6:Y_.body=some (.seq (sub fO [0]) (.seq (sub fO [1,0]) (.seq (.seq (sub fO [1,1,0,0]) (.block 0 (.loop xz))) (.seq (.seq (sub fO [1,1,1,0,0]) (.block 2 (.loop cC))) (.seq (sub fO [1,1,1,1,0]) (sub fO [1,1,1,1,1])))))):=by kernel_rfl
theorem AA:cC=(.seq (sub cC [0]) (.seq (.block 3 (.seq (sub cC [1,0,0,0]) (.seq (sub cC [1,0,0,1,0]) (.seq (.seq (sub cC [1,0,0,1,1,0,0]) (.block 4 (.loop rb))) (.seq (sub cC [1,0,0,1,1,1,0]) (sub cC [1,0,0,1,1,1,1])))))) (sub cC [1,1]))):=by kernel_rfl
theorem OP {l:List aP} {x mv:Value} {bl less:Nat} {K:Ex→St→Prop} (h:az A 67 3 bl (l.map ct) x) (hl:l.length<1000000) (hb:∀e∈l,d≤e.word.length∧e.weight<4294967296∧less≤val e)
 (hs:Sl t [(0,mv),(1,x),(2,.int .i64 d),(3,.int .u64 less),(9,pw A.next 0)])
 (hK:∀t',Sl t' [(0,mv),(1,x),(2,.int .i64 d),(3,.int .u64 less),(9,pw A.next 0)]→K .nrm ⟨t',143,[],A.alloc (aa 164 [.slice none 0 0,.bool (iH d less l).1,.int .u64 ((iH d less l).2:Nat)]),none⟩):
 W ai (.seq (sub fO [1,1,0,0]) (.block 0 (.loop xz))) ⟨t,143,[],A.alloc (aa 164 [.slice none 0 0,.bool false,.int .u64 (0:Nat)]),none⟩ K:=by
 obtain⟨g0,g1,g2,g3,g9,-⟩:=hs;apply W.seq;apply W.run 20
 ·intro M;simp (disch:=first|decide+kernel|omega) only [fO,Y_,Aq,X2];rfl
 apply W.block;refine W.up l.length (fun i t D=>D=A.alloc (aa 164 [.slice none 0 0,.bool (iH d less (l.take i)).1,.int .u64 (((iH d less (l.take i)).2:Nat):Int)])∧Sl t [(0,mv),(1,x),(2,.int .i64 d),(3,.int .u64 less),(9,pw A.next 0),(10,.int .i64 i)]) ?_ (Yg _) ⟨rfl,?_⟩
 ·rintro i t D hi ⟨rfl,g0,g1,g2,g3,g9,g10,-⟩;generalize hfi:iH d less (l.take i)=fo;have hE:fm (A.alloc (aa 164 [.slice none 0 0,.bool fo.1,.int .u64 (fo.2:Nat)])) l x:=fm.kp ⟨bl,h⟩ (Kp.alloc _ _);have hlen:=hE.len;by_cases hlt:i<l.length
  ·have he:l[i]?=some l[i]:=X6 hlt;obtain⟨p,j1,j2,q,j3,j4⟩:=hE.at he;obtain⟨hd,hwt,hle⟩:=hb _ (YQ hlt);have ly:=cd (tb:=ai) (t:=9) (l:=l[i].word) u9;have hsn:iH d less (l.take (i+1))=if ay d l[i]=none then(true,val l[i]-less) else iH d less (l.take i):=by rw [Yd hlt,Jz]
   by_cases hn:l[i].word.length=d
   ·rw [if_pos (js.2 (by omega))] at hsn;have kv:=fun ih A=>Ug (ih:=ih) (A:=A) hwt
    have hv4:=tG hwt;have s1:aN .sub .u64 ((val l[i]:Nat):Int) ((less:Nat):Int)= .ok (.int .u64 (val l[i]-less:Nat)):=bq hle (cL (by omega));have hE2:fm (A.alloc (aa 164 [.slice none 0 0,.bool true,.int .u64 (fo.2:Nat)])) l x:=fm.kp ⟨bl,h⟩ (Kp.alloc _ _);obtain⟨p',j1',j2',-⟩:=hE2.at he;rw [j1] at j1';cases j1';have sA:=XW (A:=A) (a:=.slice none 0 0) (b:=.bool fo.1) (c:=.int .u64 (fo.2:Nat)) (v:=.bool true) rfl rfl;have sB:=Xa (A:=A) (a:=.slice none 0 0) (b:=.bool true) (c:=.int .u64 (fo.2:Nat)) (v:=.int .u64 (val l[i]-less:Nat)) rfl rfl;apply W.run 20
    ·intro M;simp (disch:=first|decide+kernel|omega) only [xz,fO,Y_,Aq,X2,g1,g2,g3,g9,g10,hlen,hlt,j1,j2,j2',j3,j4,ly,hn,cR,iW,sA,sB,kv,s1];rfl
    refine⟨hlt,_,_,rfl,by rw [hsn],?_⟩;simp only [av,aw,T.af,T.ag,T.ak,X2,X3,if_true,if_false,and_true,true_and,g0,g1,g2,g3,g9]
   ·rw [if_neg (fun h=>hn (by have:=js.1 h;omega))] at hsn;apply W.run 20
    ·intro M;simp (disch:=first|decide+kernel|omega) only [xz,fO,Y_,Aq,X2,g1,g2,g9,g10,hlen,hlt,j1,j2,j3,j4,ly,hn];rfl
    refine⟨hlt,_,_,rfl,by rw [hsn,hfi],?_⟩;simp only [av,aw,T.af,T.ag,T.ak,X2,X3,if_true,if_false,and_true,true_and,g0,g1,g2,g3,g9]
  ·have e:i=l.length:=by omega
   subst e;rw [Yw] at hfi;apply W.run 20
   ·intro M;simp (disch:=first|decide+kernel|omega) only [xz,fO,Y_,Aq,X2,g1,g10,hlen,hlt];rfl
   rw [←hfi];refine hK _ ?_;simp only [av,aw,T.af,T.ag,T.ak,X2,X3,if_true,if_false,and_true,true_and,g0,g1,g2,g3,g9]
 ·simp only [av,aw,T.af,T.ag,T.ak,X2,X3,if_true,if_false,and_true,true_and,g0,g1,g2,g3,g9]
variable {m:Nat} {M:List bj}
theorem zm.more {X Y:Nat→Prop} (h:zm A m b M X) (hx:∀z,z<A.next→Y z→X z):zm A m b M Y:=by
 obtain⟨x,rows,h1,h2,h3,hX,h4,h5⟩:=h;refine⟨x,rows,h1,h2,⟨h3.1,fun h=>⟨(h3.2 h).1,(h3.2 h).2.1,fun hy=>(h3.2 h).2.2 (hx _ (h3.2 h).2.1 hy)⟩⟩,fun hy=>hX (hx _ h1.1 hy),h4,fun i s hs=>?_⟩;obtain⟨y,c,e1,e2,e0,e3⟩:=h5 i s hs;refine⟨y,c,e1,e2,e0,fun h=>⟨(e3 h).1,(e3 h).2.1,fun hy=>(e3 h).2.2 (hx c ?_ hy)⟩⟩;rcases e2 with⟨_,e2⟩|⟨_,_,_,e2,_⟩
 ·exact absurd (YK.1 e2) h
 ·exact e2
theorem zm.not {X:Nat→Prop} (h:zm A m b M X):¬X m∧m<A.next∧(M≠ []→¬X b∧b<A.next):=by
 obtain⟨x,rows,h1,h2,h3,hX,h4,h5⟩:=h;exact⟨hX,h1.1,fun h=>⟨(h3.2 h).2.2,(h3.2 h).2.1⟩⟩
theorem VM {a:Nat} {n:Int}:cr ai 172 [(0,.int .u8 a),(1,.int .u64 o),(2,.int .i64 n)]= .ok (.agg ⟨[.int .u8 a,.int .u64 o,.int .i64 n]⟩):=by kernel_rfl
variable {c:Nat} {y:Value}
theorem PH {D:Mem} {l:List cO} {a:cO} (h:az D 172 3 c (l.map cc) y) (hl:l.length<1000000):
 ∃y' D',bk ai (D.alloc (aa 172 (cc a))) 162 162 y (.slice (some ⟨D.next,0,none⟩) 1 2)= .ok (y',D')∧az D' 172 3 (D.next+1) ((l++[a]).map cc) y'∧D'.next=D.next+2∧∀z,(z=c→y= .slice none 0 0)→z<D.next→D'.get z=D.get z:=by
 obtain⟨i,t1,t2,t3⟩:=UG;have h':az (D.alloc (aa 172 (cc a))) 172 3 c (l.map cc) y:=h.same (by rw [ae];omega) fun hh=>aH (by omega)
 obtain⟨x',D',h1,h2,h3,h4⟩:=az.append (tb:=ai) (st:=162) (xt:=162) h' j8 j8 U_ t1 t2 t3 (by omega) (by omega) (by rw [Yb];omega) (aD D _) rfl (by
  intro v hv;simp only [cc,Yp,YH,or_false] at hv;rcases hv with rfl|rfl|rfl<;>rfl)
 rw [ae] at h2 h3 h4;exact⟨x',D',h1,by rw [YV];exact h2,by omega,fun z hz hzn=>by rw [h4 z hz (by omega),aH (by omega)]⟩
def wO (f:Nat):Prop:=∀(l:List aP) (d:Nat) (p:List UInt8) (M:List bj) (A:Mem) (m b bl:Nat) (x:Value) (X:Nat→Prop),Go.Sto.Good M→l≠ []→rj l→HI d p l→(∀e∈l,e.word.length<d+f∧e.word.length<1000000∧e.weight<4294967296)→l.length<1000000→zm A m b M X→(∀z,X z→z<A.next)→
 az A 67 3 bl (l.map ct) x→X bl→(oX f l d (least l) M).1.length<1000000→
 ∃v A',bL ai 101 [.pointer (some ⟨m,0,none⟩),x,.int .i64 d,.int .u64 (least l:Nat)] A v A'∧v= .int .i64 (((oX f l d (least l) M).2:Nat):Int)∧∃b',zm A' m b' (oX f l d (least l) M).1 X∧((M≠ []∧b'=b)∨A.next≤b')∧A.next≤A'.next∧∀z,z<A.next→z≠m→(M≠ []→z≠b)→A'.get z=A.get z
theorem Oq {D:Mem} {l:List aP} {rs:List cO} {x mv fv ov:Value} {bl less sp:Nat} {K:Ex→St→Prop} (h:az D 67 3 bl (l.map ct) x) (hy:az D 172 3 c (rs.map cc) y) (hS:VB D 164 sp (.var 3) [y,fv,ov]) (hi:i<l.length) (hl:l.length<1000000) (hal:rs.length<1000000) (hd:d≤(l[i]).word.length) (hdw:(l[i]).word.length<1000000)
 (hs:Sl t [(0,mv),(1,x),(2,.int .i64 d),(3,.int .u64 less),(9,pw sp 0),(11,.int .i64 i)])
 (hskip:(ay d l[i]=none∨(rs.getLast?).map (·.byte)=ay d l[i])→∀t',Sl t' [(0,mv),(1,x),(2,.int .i64 d),(3,.int .u64 less),(9,pw sp 0),(11,.int .i64 i)]→K (.exit 3) ⟨t',143,[],D,none⟩)
 (hgo:¬(ay d l[i]=none∨(rs.getLast?).map (·.byte)=ay d l[i])→∀t',Sl t' [(0,mv),(1,x),(2,.int .i64 d),(3,.int .u64 less),(9,pw sp 0),(11,.int .i64 i)]→K .nrm ⟨t',143,[],D,none⟩):
 W ai (sub cC [1,0,0,0]) ⟨t,143,[],D,none⟩ K:=by
 obtain⟨g0,g1,g2,g3,g9,g11,-⟩:=hs;have hE:fm D l x:=⟨bl,h⟩;have he:l[i]?=some l[i]:=X6 hi;obtain⟨p,j1,j2,q,j3,j4⟩:=hE.at he;have ly:=cd (tb:=ai) (t:=9) (l:=l[i].word) u9;have hA:j' D rs y:=⟨c,hy⟩;have la:=hA.len;have a1:aq ai D.get 162 (pw sp 0)= .ok y:=hS.ld rfl j8 rfl;by_cases hn:l[i].word.length=d
 ·apply W.run 20
  ·intro M;simp (config:={maxSteps:=4000000}) (disch:=first|decide+kernel|omega|simp only [Wq,X2]) only [cC,fO,Y_,Aq,X5,reduceIte,X2,X3,g1,g2,g9,g11,j1,j3,j4,ly,hn,Fq,aC []];rfl
  refine hskip (.inl (js.2 (by omega))) _ ?_;simp only [av,aw,T.af,T.ag,T.ak,X2,X3,if_true,if_false,and_true,true_and,g0,g1,g2,g3,g9,g11]
 have hd1:d<l[i].word.length:=by omega
 have hbe:=jQ hd1;by_cases h0:rs=[]
 ·subst h0;apply W.run 20
  ·intro M;simp (config:={maxSteps:=4000000}) (disch:=first|decide+kernel|omega|simp only [Wq,X2]) only [cC,fO,Y_,Aq,X5,reduceIte,X2,X3,g1,g2,g9,g11,j1,j3,j4,ly,hn,cZ,a1,la,Ys,bR,bw,Fq,aC []];rfl
  refine hgo (by rw [hbe];simp) _ ?_;simp only [av,aw,T.af,T.ag,T.ak,X2,X3,if_true,if_false,and_true,true_and,g0,g1,g2,g3,g9,g11]
 have hpos:0<rs.length:=YM.2 h0;have hlast:rs[rs.length-1]?=some (rs[rs.length-1]'(by omega)):=X6 (by omega)
 obtain⟨d2,hd2,hd3⟩:=bA (t:=172) (p:=true) (by kernel_rfl);have k1:=az.idx (tb:=ai) (t:=162) (i:=rs.length-1) (kd:=.i64) hy j8 KY (by rw [Yb];omega);have k2:=az.load (tb:=ai) (t:=5) (j:=0) hy u5 rfl (show(rs.map cc)[rs.length-1]?=some (cc (rs[rs.length-1]'(by omega))) by rw [Yr,hlast];rfl) rfl (by omega)
 have s1:aN .sub .i64 ((rs.length:Nat):Int) ((1:Nat):Int)= .ok (.int .i64 (rs.length-1:Nat)):=bq (by omega) (aR (by omega));have ixe:=ed (tb:=ai) (t:=9) (kd:=.i64) u9 hd1;rw [YU] at k2;have hgl:(rs.getLast?).map (·.byte)=some (rs[rs.length-1]'(by omega)).byte:=by rw [List.getLast?_eq_getElem?,hlast];rfl
 by_cases he2:(rs[rs.length-1]'(by omega)).byte.toNat=(l[i].word.getD d 0).toNat
 ·apply W.run 20
  ·intro M;simp (config:={maxSteps:=4000000}) (disch:=first|decide+kernel|omega|simp only [Wq,X2]) only [cC,fO,Y_,Aq,X5,reduceIte,X2,X3,g1,g2,g9,g11,j1,j3,j4,ly,hn,cZ,Nw,a1,la,hpos,bR,bw,s1,k1,k2,ixe,he2,Fq,aC []];rfl
  refine hskip (.inr (by rw [hgl,hbe,ZS.1 he2])) _ ?_;simp only [av,aw,T.af,T.ag,T.ak,X2,X3,if_true,if_false,and_true,true_and,g0,g1,g2,g3,g9,g11]
 ·apply W.run 20
  ·intro M;simp (config:={maxSteps:=4000000}) (disch:=first|decide+kernel|omega|simp only [Wq,X2]) only [cC,fO,Y_,Aq,X5,reduceIte,X2,X3,g1,g2,g9,g11,j1,j3,j4,ly,hn,cZ,Nw,a1,la,hpos,bR,bw,s1,k1,k2,ixe,he2,Fq,aC []];rfl
  refine hgo (by
   rw [hgl,hbe];rintro(h|h)
   ·cases h
   ·exact he2 (by rw [YJ h])) _ ?_
  simp only [av,aw,T.af,T.ag,T.ak,X2,X3,if_true,if_false,and_true,true_and,g0,g1,g2,g3,g9,g11]
theorem DQ:∀{l:List aP},rj l→∀i,rj (l.drop i)
 | [],_,i=>by rw [List.drop_nil];trivial
 |x::l,h,0=>h
 |x::l,h,i+1=>DQ h.2 i
def Sr (A:Mem) (l:List aP) (d less:Nat) (rec:List aP→Nat→List bj→List bj×Nat) (R:List bj×List cO) (m b:Nat) (M:List bj) (X:Nat→Prop) (fv ov:Value) (r:List aP) (rs:List cO) (Mi:List bj) (D:Mem):Prop:=
 ∃bi y c,dB rec d less r rs Mi=R∧zm D m bi Mi (fun z=>X z∨z=A.next∨(rs≠ []∧z=c))∧((M≠ []∧bi=b)∨A.next≤bi)∧VB D 164 A.next (.var 3) [y,fv,ov]∧
  az D 172 3 c (rs.map cc) y∧(rs=[]→y= .slice none 0 0)∧(rs≠ []→A.next<c)∧(A.next<D.next∧∀z,z<A.next→z≠m→(M≠ []→z≠b)→D.get z=A.get z)
theorem Uf {f:Nat} (ih:wO f) {l:List aP} {less bl:Nat} {p:List UInt8} {Mi:List bj} {X:Nat→Prop} {fv ov x:Value} {R:List bj×List cO} {rs:List cO} {D:Mem} {K:Ex→St→Prop}
 (ha:rj l) (hbg:HI d p l) (hb:∀e∈l,e.word.length<d+(f+1)∧e.word.length<1000000∧e.weight<4294967296∧less≤val e) (hl:l.length<1000000) (hX:∀z,X z→z<A.next) (hxl:az A 67 3 bl (l.map ct) x) (hXb:X bl) (hmA:¬X m∧m<A.next) (hbA:M≠ []→¬X b)
 (hRg:Go.Sto.Good R.1) (hRl:R.1.length<1000000) (hRa:R.2.length≤256) (hi:i<l.length) (hdl:d<1000000)
 (hgo:¬(ay d l[i]=none∨(rs.getLast?).map (·.byte)=ay d l[i]))
 (h:Sr A l d less (fun own n M=>oX f own (d+1) n M) R m b M X fv ov (l.drop i) rs Mi D)
 (hs:Sl t [(0,pw m 0),(1,x),(2,.int .i64 d),(3,.int .u64 less),(9,pw A.next 0),(11,.int .i64 i)])
 (hK:∀t' D' rs' Mi',Sr A l d less (fun own n M=>oX f own (d+1) n M) R m b M X fv ov (l.drop (i+1)) rs' Mi' D'→Sl t' [(0,pw m 0),(1,x),(2,.int .i64 d),(3,.int .u64 less),(9,pw A.next 0),(11,.int .i64 i)]→K .nrm ⟨t',143,[],D',none⟩):
 W ai (.seq (sub cC [1,0,0,1,0]) (.seq (.seq (sub cC [1,0,0,1,1,0,0]) (.block 4 (.loop rb))) (.seq (sub cC [1,0,0,1,1,1,0]) (sub cC [1,0,0,1,1,1,1])))) ⟨t,143,[],D,none⟩ K:=by
 obtain⟨bi,y,c,h1,h2,h3,h4,h5,h6,h7,h8⟩:=h;obtain⟨g0,g1,g2,g3,g9,g11,-⟩:=hs;have he:l[i]?=some l[i]:=X6 hi;have hmem:=YQ hi;obtain⟨hw1,hw2,hw3,hw4⟩:=hb _ hmem;have hdw:d<l[i].word.length:=by
  refine Nat.lt_of_not_le fun hh=>hgo (.inl (js.2 hh))
 have hbe:=jQ hdw;have hbl:=hX _ hXb;have hbm:bl≠m:=fun h=>hmA.1 (h▸hXb)
 have hDA:∀z,X z→D.get z=A.get z:=fun z hz=>h8.2 z (hX z hz) (fun h=>hmA.1 (h▸hz)) (fun hM h=>hbA hM (h▸hz))
 have hxD:az D 67 3 bl (l.map ct) x:=hxl.same (by have:=h8.1;omega) fun _=>hDA bl hXb
 have hdr:l.drop i=l[i]::l.drop (i+1):=Y3 hi;rw [hdr] at h1;unfold dB at h1;rw [if_neg hgo] at h1;apply W.seq;apply W.run 20
 ·intro M;simp (disch:=first|decide+kernel|omega) only [cC,fO,Y_,Aq,X2];rfl
 apply W.seq;refine O0 hxD he hdw hl (fun e he=>(hb e he).2.1) (mv:=pw m 0) (sp:=pw A.next 0) (less:=less) (by
  simp only [av,aw,T.af,T.ag,T.ak,X2,X3,if_true,if_false,and_true,true_and,g0,g1,g2,g3,g9,g11]) ?_
 rintro t' E xo bo kE hso hbo ⟨g0,g1,g2,g3,g9,g11,g12,-⟩;show W ai _ _ _;rw [hdr] at hso;have hownm:∀e∈(l[i]::l.drop (i+1)).filter (fun x=>decide (ay d x=ay d l[i])),e∈l∧ay d e=ay d l[i]:=fun e he=>by
  obtain⟨e1,e2⟩:=Zq.1 he;rw [←hdr] at e1;exact⟨List.mem_of_mem_drop e1,by simpa using e2⟩
 have hne:(l[i]::l.drop (i+1)).filter (fun x=>decide (ay d x=ay d l[i]))≠ []:=by
  intro h;have:l[i]∈(l[i]::l.drop (i+1)).filter (fun x=>decide (ay d x=ay d l[i])):=Zq.2 ⟨Yk,by simp⟩;rw [h] at this;cases this
 have hlen:((l[i]::l.drop (i+1)).filter (fun x=>decide (ay d x=ay d l[i]))).length<1000000:=by
  have:=qaL (fun x=>decide (ay d x=ay d l[i])) (l[i]::l.drop (i+1));rw [←hdr,Zj] at this;rw [←hdr];omega
 have hasc:rj ((l[i]::l.drop (i+1)).filter (fun x=>decide (ay d x=ay d l[i]))):=by rw [←hdr];exact jv (DQ ha i)
 generalize (l[i]::l.drop (i+1)).filter (fun x=>decide (ay d x=ay d l[i]))=own at h1 hso hownm hne hlen hasc;obtain⟨gl,hgl⟩:=AT (A:=E) ⟨bo,hso⟩ hne (fun e he=>(hb e (hownm e he).1).2.2.1) hlen;apply W.seq;apply W.a6 (gl) 20
 ·intro M hM;simp (disch:=first|decide+kernel|omega) only [cC,fO,Y_,Aq,X2,g12,hgl];rfl
 show W ai _ _ _;have hpre:=mb (d:=d) (less:=less) (fun own n M=>wA f own (d+1) n M) (l.drop (i+1)) (rs++[⟨(ay d l[i]).getD 0,least own-less,(oX f own (d+1) (least own) Mi).2⟩]) (oX f own (d+1) (least own) Mi).1;rw [h1] at hpre;have hc:rs≠ []→c<D.next:=fun h=>by
  rcases h5 with⟨_,e⟩|⟨_,_,_,e,_⟩
  ·exact absurd (YK.1 e) h
  ·exact e
 have hboE:bo<E.next:=by
  rcases hso with⟨_,e⟩|⟨_,_,_,e,_⟩
  ·exact absurd (YK.1 e) hne
  ·exact e
 have hkE:=kE.1;have hME:zm E m bi Mi (fun z=>X z∨z=A.next∨(rs≠ []∧z=c)∨z=bo):=(h2.more (fun z hz h=>by
  rcases h with h|h|h|h
  ·exact .inl h
  ·exact .inr (.inl h)
  ·exact .inr (.inr h)
  ·omega)).kp kE
 have hown0:=hME.not;obtain⟨v,E2,⟨gs,hgs⟩,rfl,b2,hM2,hb2,hn2,hf2⟩:=ih own (d+1) (p++[l[i].word.getD d 0]) Mi E m bi bo xo _ (DP hRg ((wA f own (d+1) (least own) Mi).trans hpre.1)) hne hasc (fun e he=>by
  obtain⟨e1,e2⟩:=hownm e he;rw [hbe] at e2;obtain⟨hd,hee⟩:=X_.1 e2;exact⟨by rw [Yd hd,(hbg e e1).1,hee],hd⟩) (fun e he=>by
  have:=hb e (hownm e he).1;exact⟨by omega,this.2.1,this.2.2.1⟩) hlen hME (fun z h=>by
  have:=h8.1;rcases h with h|h|h|h
  ·have:=hX z h;omega
  ·omega
  ·have:=hc h.1;omega
  ·omega) hso (.inr (.inr (.inr rfl))) (Y5 hpre.1.length_le hRl)
 have hkept:∀z,z<E.next→(X z∨z=A.next∨(rs≠ []∧z=c)∨z=bo)→E2.get z=E.get z:=fun z hz h=>hf2 z hz (fun e=>hown0.1 (e▸h)) fun hM e=>(hown0.2.2 hM).1 (e▸h)
 have hAE:A.next<E.next:=by have:=h8.1;omega
 have vE:VB E 164 A.next (.var 3) [y,fv,ov]:=h4.kp kE
 have vE2:VB E2 164 A.next (.var 3) [y,fv,ov]:=⟨by omega,vE.2.same (hkept _ hAE (.inr (.inl rfl)))⟩
 have l1:aq ai E.get 162 (pw A.next 0)= .ok y:=vE.ld rfl j8 rfl;have l2:aq ai E2.get 162 (pw A.next 0)= .ok y:=vE2.ld rfl j8 rfl;have hxE:az E 67 3 bl (l.map ct) x:=hxD.same hkE (kE.2 bl);have hxE2:az E2 67 3 bl (l.map ct) x:=hxE.same hn2 fun h=>hkept bl h (.inl hXb)
 obtain⟨pe,i1,-,qe,i3,i4⟩:=fm.at ⟨bl,hxE⟩ he;obtain⟨pe',i1',-,qe',i3',i4'⟩:=fm.at ⟨bl,hxE2⟩ he;rw [i1] at i1';cases i1';rw [i3] at i3';cases i3';have ixe:=ed (tb:=ai) (t:=9) (kd:=.i64) u9 hdw;have hle:less≤least own:=by
  obtain⟨e,he1,he2⟩:=n_ hne;rw [he2];exact(hb e (hownm e he1).1).2.2.2
 have hlo:least own≤4294967296:=by
  obtain⟨e,he1,he2⟩:=n_ hne;rw [he2];exact tG (hb e (hownm e he1).1).2.2.1
 have s1:aN .sub .u64 ((least own:Nat):Int) ((less:Nat):Int)= .ok (.int .u64 (least own-less:Nat)):=bq hle (cL (by omega));have a1:aN .add .i64 ((d:Nat):Int) ((1:Nat):Int)= .ok (.int .i64 (d+1:Nat)):=a9 (aR (by omega));have sy:cD 100 y y=true:=by
  rcases h5 with⟨rfl,-⟩|⟨_,_,rfl,-⟩
  ·rfl
  ·exact pc _ _ _ _
 have h5E:az E2 172 3 c (rs.map cc) y:=az.fA (az.fA h5 (fun h=>h6 (YK.1 h)) hkE fun _ h=>kE.2 c h) (fun h=>h6 (YK.1 h)) hn2 fun h hlt=>hkept c hlt (.inr (.inr (.inl ⟨fun e=>h (by rw [e];rfl),rfl⟩)))
 have hrl:rs.length<1000000:=by
  have:=hpre.2.length_le;rw [X'] at this;omega
 generalize hq:oX f own (d+1) (least own) Mi=q at*;obtain⟨y',F,happ,hs3,hn3,hf3⟩:=PH (a:=⟨l[i].word.getD d 0,least own-less,q.2⟩) h5E hrl;have happ':bk ai (E2.alloc (aa 172 [.int .u8 ((l[i].word.getD d 0).toNat:Nat),.int .u64 (least own-less:Nat),.int .i64 (q.2:Nat)])) 162 162 y (.slice (some ⟨E2.next,0,none⟩) 1 2)= .ok (y',F):=happ;have vF:dD F 164 A.next (.var 3) [y,fv,ov]:=vE2.2.same (hf3 _ (fun e=>by
  by_cases hr:rs=[]
  ·exact h6 hr
  ·have:=h7 hr;omega) (by omega))
 obtain⟨G,sG,vG,nG,kG⟩:=a_ (tb:=ai) (o:=0) (v:=y') P' vF (by simp) (az.dm hs3).1 (az.dm hs3).2;apply W.a6 (gs) 20
 ·intro M hM;simp (config:={maxSteps:=4000000}) (disch:=first|decide+kernel|omega|simp only [Wq,X2]) only [cC,fO,Y_,Aq,X5,reduceIte,X2,X3,g0,g1,g2,g3,g9,g11,g12,cZ,l1,l2,i1,i3,i4,i4',ixe,s1,a1,hgs,VM,U',happ',sG,sy,Fq,aC [(1,17),(6,17)]];rfl
 refine hK _ G _ _ ⟨b2,y',E2.next+1,by rw [hbe] at h1;exact h1,?_,?_,?_,?_,fun h=>by simp at h,fun _=>by omega,by omega,fun z hz hm hM=>?_⟩ ?_
 ·have hM3:zm E2 m b2 q.1 (fun z=>X z∨z=A.next∨(rs≠ []∧z=c)∨z=E2.next+1):=hM2.more (fun z hz h=>by
   rcases h with h|h|h|h
   ·exact .inl h
   ·exact .inr (.inl h)
   ·exact .inr (.inr (.inl h))
   ·omega)
  refine(hM3.XA (A':=G) (by omega) fun z hz hnx=>?_).more (fun z hz h=>by
   rcases h with h|h|h
   ·exact .inl h
   ·exact .inr (.inl h)
   ·exact .inr (.inr (.inr h.2)))
  rw [kG z (fun e=>hnx (.inr (.inl e))),hf3 z (fun e=>?_) hz];by_cases hr:rs=[]
  ·exact h6 hr
  ·exact absurd (.inr (.inr (.inl ⟨hr,e⟩))) hnx
 ·rcases hb2 with⟨_,e⟩|e
  ·rw [e];exact h3
  ·exact .inr (by omega)
 ·exact⟨by omega,vG⟩
 ·exact hs3.same (by omega) fun h=>kG _ (by omega)
 ·rw [kG z (by omega),hf3 z (fun e=>?_) (by omega),hf2 z (by omega) hm (fun hMi e=>?_),kE.2 z (by have:=h8.1;omega),h8.2 z hz hm hM]
  ·rcases h3 with⟨hM',e'⟩|e'
   ·exact hM hM' (by rw [e,e'])
   ·omega
  ·by_cases hr:rs=[]
   ·exact h6 hr
   ·have:=h7 hr;omega
 ·simp only [av,aw,T.af,T.ag,T.ak,X2,X3,if_true,if_false,and_true,true_and,g0,g1,g2,g3,g9,g11]
theorem zm.free {X:Nat→Prop} (h:zm A m b M X) (h0:M=[]) (b':Nat):zm A m b' M X:=by
 obtain⟨x,rows,h1,h2,h3,hX,h4,h5⟩:=h;subst h0;have hr:rows=[]:=Yh.1 h4;subst hr;have hx:=h3.1 rfl;subst hx;exact⟨_,[],h1,az.nil _ _ _ _,⟨fun _=>rfl,fun h=>absurd rfl h⟩,hX,h4,fun i s hs=>by simp at hs⟩
theorem Hm {f:Nat} (ih:wO f):wO (f+1):=by
 intro l d p M A m b bl x X hg hne ha hbg hb hl hM hX hxl hXb hlen;refine cS (aB Tryz.func101) Q6 (by rw [Tryz.ntmps101];simp) (by kernel_rfl) (by kernel_rfl) ?_;have hgf:Go.Sto.Good (oX (f+1) l d (least l) M).1:=(Nc (f+1) l d p M hg hne ha hbg fun e he=>⟨(hb e he).1,tG (hb e he).2.2⟩).1;have hRa:=N0 hgf;have hst:oX (f+1) l d (least l) M=pR (dB (fun own n M=>oX f own (d+1) n M) d (least l) l [] M).1 ⟨(iH d (least l) l).1,(iH d (least l) l).2,(dB (fun own n M=>oX f own (d+1) n M) d (least l) l [] M).2⟩:=rfl;rw [hst] at hgf hlen⊢;generalize hR:dB (fun own n M=>oX f own (d+1) n M) d (least l) l [] M=R at hgf hlen hRa⊢;have hRp:=Dc R.1 ⟨(iH d (least l) l).1,(iH d (least l) l).2,R.2⟩;have hRg:=DP hgf hRp;have hRl:R.1.length<1000000:=Y5 hRp.length_le hlen;have hdl:d<1000000:=by
  obtain⟨e,he⟩:=qaU l hne;have:=(hbg e he).2;have:=(hb e he).2.1;omega
 obtain⟨hmX,hmA,hMb⟩:=hM.not;apply W.seq;apply W.run 20
 ·intro M;simp (disch:=first|decide+kernel|omega) only [fO,Y_,Aq,X2];rfl
 apply W.seq;apply W.run 20
 ·intro M;simp (disch:=first|decide+kernel|omega) only [fO,Y_,Aq,X2,jr,au];rfl
 apply W.seq;refine OP (mv:=pw m 0) (less:=least l) hxl hl (fun e he=>⟨(hbg e he).2,(hb e he).2.2,least_le he⟩) (by
  simp only [av,aw,T.af,T.ag,T.ak,X2,X3,if_true,if_false,and_true,true_and]) ?_
 rintro t0 ⟨g0,g1,g2,g3,g9,-⟩;show W ai _ _ _;generalize (iH d (least l) l).1=fv at*;generalize (iH d (least l) l).2=ov at*;have vS:=aF A 164 [.slice none 0 0,.bool fv,.int .u64 ov];have kS:=Kp.alloc A (aa 164 [.slice none 0 0,.bool fv,.int .u64 ov]);have nS:(A.alloc (aa 164 [.slice none 0 0,.bool fv,.int .u64 ov])).next=A.next+1:=ae _ _
 generalize A.alloc (aa 164 [.slice none 0 0,.bool fv,.int .u64 ov])=D0 at vS kS nS;apply W.seq;apply W.seq;apply W.run 20
 ·intro M;simp (disch:=first|decide+kernel|omega) only [fO,Y_,Aq,X2];rfl
 apply W.block;refine W.up l.length (fun i t D=>∃rs Mi,Sr A l d (least l) (fun own n M=>oX f own (d+1) n M) R m b M X (.bool fv) (.int .u64 ov) (l.drop i) rs Mi D∧Sl t [(0,pw m 0),(1,x),(2,.int .i64 d),(3,.int .u64 (least l:Nat)),(9,pw A.next 0),(11,.int .i64 i)]) ?_ (Yg _) ⟨[],M,?_,?_⟩
 ·rintro i t D hi ⟨rs,Mi,hRn,hs⟩;obtain⟨g0,g1,g2,g3,g9,g11,-⟩:=id hs;obtain⟨bi,y,c,h1,h2,h3,h4,h5,h6,h7,h8⟩:=id hRn;have hDA:∀z,X z→D.get z=A.get z:=fun z hz=>h8.2 z (hX z hz) (fun h=>hmX (h▸hz)) (fun hM h=>(hMb hM).1 (h▸hz))
  have hxD:az D 67 3 bl (l.map ct) x:=hxl.same (by have:=h8.1;omega) fun _=>hDA bl hXb
  have hlx:=fm.len ⟨bl,hxD⟩;have hrp:=mb (d:=d) (less:=least l) (fun own n M=>wA f own (d+1) n M) (l.drop i) rs Mi;rw [h1] at hrp;have hrl:rs.length<1000000:=by
   have:=hrp.2.length_le;omega
  by_cases hlt:i<l.length
  ·have hmem:=YQ hlt;rw [AA];apply W.seq;apply W.run 20
   ·intro M;simp (disch:=first|decide+kernel|omega) only [cC,fO,Y_,Aq,X2,g1,g11,hlx,hlt];rfl
   apply W.seq;apply W.block;apply W.seq;refine Oq hxD h5 h4 hlt hl hrl (hbg _ hmem).2 (hb _ hmem).2.1 (mv:=pw m 0) (less:=least l) (by
    simp only [av,aw,T.af,T.ag,T.ak,X2,X3,if_true,if_false,and_true,true_and,g0,g1,g2,g3,g9,g11]) (fun hsk t' hs2=>?_) (fun hgo t' hs2=>?_)
   ·show W ai (sub cC [1,1]) _ _;obtain⟨g0,g1,g2,g3,g9,g11,-⟩:=hs2;apply W.run 20
    ·intro M;simp (disch:=first|decide+kernel|omega) only [cC,fO,Y_,Aq,X2,g11];rfl
    refine⟨hlt,_,_,rfl,rs,Mi,⟨bi,y,c,?_,h2,h3,h4,h5,h6,h7,h8⟩,?_⟩
    ·have hdr:l.drop i=l[i]::l.drop (i+1):=Y3 hlt;rw [hdr] at h1;unfold dB at h1;rw [if_pos hsk] at h1;exact h1
    ·simp only [av,aw,T.af,T.ag,T.ak,X2,X3,if_true,if_false,and_true,true_and,g0,g1,g2,g3,g9,g11]
   ·show W ai _ _ _;refine Uf ih ha hbg (fun e he=>⟨(hb e he).1,(hb e he).2.1,(hb e he).2.2,least_le he⟩) hl hX hxl hXb ⟨hmX,hmA⟩ (fun h=>(hMb h).1) hRg hRl hRa hlt hdl hgo hRn hs2 (fun t3 D3 rs3 M3 hR3 hs3=>?_);show W ai (sub cC [1,1]) _ _;obtain⟨g0,g1,g2,g3,g9,g11,-⟩:=hs3;apply W.run 20
    ·intro M;simp (disch:=first|decide+kernel|omega) only [cC,fO,Y_,Aq,X2,g11];rfl
    refine⟨hlt,_,_,rfl,rs3,M3,hR3,?_⟩;simp only [av,aw,T.af,T.ag,T.ak,X2,X3,if_true,if_false,and_true,true_and,g0,g1,g2,g3,g9,g11]
  ·have hil:i=l.length:=by omega
   subst hil;rw [qb7] at h1;unfold dB at h1;rw [←h1] at hgf hlen hRa hRl hRp hRg⊢;rw [AA];apply W.seq;apply W.run 20
   ·intro M;simp (disch:=first|decide+kernel|omega) only [cC,fO,Y_,Aq,X2,g1,g11,hlx];rfl
   show W ai _ _ _;obtain⟨dd,hd1,hd2⟩:=bA (t:=164) (p:=true) (by kernel_rfl);have lo:aq ai D.get 164 (pw A.next 0)= .ok (.agg ⟨cW y ⟨fv,ov,rs⟩⟩):=aQ hd1 hd2 (l:=cW y ⟨fv,ov,rs⟩) mQ h4.2;have hMD:=h2.more (Y:=X) (fun z _ h=>.inl h);have hnot:=h2.not;obtain⟨v,E,⟨gn,hgn⟩,rfl,b2,hM2,hb2,hn2,hf2⟩:=Gg (s:=⟨fv,ov,rs⟩) hMD (fun z hz=>by have:=hX z hz;have:=h8.1;omega) h5 h6 (fun hr=>⟨fun hM e=>(hnot.2.2 hM).1 (.inr (.inr ⟨hr,e.symm⟩)),by have:=h7 hr;omega,fun hx=>by have:=h7 hr;have:=hX c hx;omega⟩) hrl (fun u hu=>Y5 (Dq hRg hu) (by omega)) hRl;apply W.a6 (gn) 20
   ·intro M hM;simp (config:={maxSteps:=4000000}) (disch:=first|decide+kernel|omega|simp only [Wq,X2]) only [fO,Y_,Aq,X5,reduceIte,X2,X3,g0,g9,lo,hgn,Fq,aC []];rfl
   refine⟨by simp,rfl,_,(by simp only [Y_,Aq,X2]<;>rfl),rfl,b2,hM2,?_,by have:=h8.1;exact YC (qbX this) hn2,fun z hz hm hM=>?_⟩
   ·rcases hb2 with⟨_,e⟩|e
    ·rw [e];exact h3
    ·exact .inr (by have:=h8.1;omega)
   ·show E.get z=A.get z;rw [hf2 z (by have:=h8.1;omega) hm (fun hMi e=>?_),h8.2 z hz hm hM];rcases h3 with⟨hM',e'⟩|e'
    ·exact hM hM' (by rw [e,e'])
    ·omega
 ·have hmore:∀z,z<A.next→(X z∨z=A.next∨(([]:List cO)≠ []∧z=0))→X z:=fun z hz h=>by
   rcases h with h|h|h
   ·exact h
   ·omega
   ·exact absurd rfl h.1
  by_cases hM0:M=[]
  ·exact⟨A.next,.slice none 0 0,0,hR,((hM.free hM0 A.next).more hmore).kp kS,.inr (X9 _),vS,az.nil _ _ _ _,fun _=>rfl,fun h=>absurd rfl h,by omega,fun z hz _ _=>kS.2 z hz⟩
  ·exact⟨b,.slice none 0 0,0,hR,(hM.more hmore).kp kS,.inl ⟨hM0,rfl⟩,vS,az.nil _ _ _ _,fun _=>rfl,fun h=>absurd rfl h,by omega,fun z hz _ _=>kS.2 z hz⟩
 ·simp only [av,aw,T.af,T.ag,T.ak,X2,X3,if_true,if_false,and_true,true_and,g0,g1,g2,g3,g9]
theorem DB:∀f,wO f
 |0=>by
  intro l d p M A m b bl x X hg hne ha hbg hb;obtain⟨e,he⟩:=qaU l hne;have h1:=(hbg e he).2;have h2:=(hb e he).1;omega
 |f+1=>Hm (DB f)
theorem eX.len (h:eX A M y):aO ai .len [102] [y]= .ok (.int .i64 (M.length:Nat)):=by
 obtain⟨b,rows,h1,h2,-⟩:=h;have:=az.len (tb:=ai) h1 fX;rwa [h2] at this
theorem eX.at {s:bj} (h:eX A M y) (hi:M[i]?=some s):
 ∃x p,aZ ai 102 y (.int .i64 i)= .ok p∧aq ai A.get 164 p= .ok (.agg ⟨cW x s⟩)∧j' A s.arcs x∧∃q,ax ai 164 p 0= .ok q∧aq ai A.get 162 q= .ok x:=by
 obtain⟨b,rows,h1,h2,h3⟩:=h;obtain⟨x,e1,e2⟩:=h3 i s hi;have hl:i<rows.length:=(X_.1 e1).1;obtain⟨d,hd1,hd2⟩:=bA (t:=164) (p:=true) (by kernel_rfl);refine⟨x,_,az.idx h1 fX mQ hl,az.aQ h1 hd1 hd2 mQ e1,e2,_,cZ,?_⟩;have:=az.load (tb:=ai) (j:=0) h1 j8 rfl e1 rfl (by omega);rwa [YU] at this
def dF (l:List aP):List bj:=(oX 256 l 0 (least l) []).1
theorem OJ {l:List aP} (h0:l≠ []) (ha:rj l) (hw:∀e∈l,e.word.length≤255∧e.weight<4294967296):Fv [] (oX 256 l 0 (least l) []) l 0 (least l):=
 Nc 256 l 0 [] [] ⟨fun i s h=>by simp at h,qbs,fun i hi=>by simp at hi⟩ h0 ha (fun e _=>⟨rfl,Yg _⟩) fun e he=>⟨by have:=(hw e he).1;omega,tG (hw e he).2⟩
theorem eD:aY ai 105= .ok 2:=by kernel_rfl
theorem mP:b7 ai 105= .ok (.agg ⟨[.slice none 0 0,.int .u64 (0:Nat)]⟩):=by kernel_rfl
theorem U1:cr ai 167 []= .ok (.agg ⟨[.slice none 0 0]⟩):=by kernel_rfl
theorem UY {a:Option Addr} {n:Int}:cr ai 105 [(0,.slice a m c),(1,.int .u64 n)]= .ok (.agg ⟨[.slice a m c,.int .u64 n]⟩):=by kernel_rfl
theorem run_build {l:List aP} {x:Value} (h:fm A l x) (h0:l≠ []) (ha:rj l) (hw:∀e∈l,1≤e.word.length∧e.word.length≤255∧e.weight<4294967296) (hl:l.length<1000000) (hn:(dF l).length<1000000):
 ∃v A',bL ai 57 [x] A v A'∧Kp A A'∧∃y,v= .tuple ⟨[.agg ⟨[y,.int .u64 (least l:Nat)]⟩,.int .i64 (0:Nat)]⟩∧eX A' (dF l) y:=by
 have kB:=Kp.alloc A (aa 105 [.slice none 0 0,.int .u64 (0:Nat)]);have vB:=aF A 105 [.slice none 0 0,.int .u64 (0:Nat)];obtain⟨g1,hg1⟩:=Gz (h.kp kB) ha (fun e he=>⟨(hw e he).1,(hw e he).2.1⟩) hl;generalize hB:A.alloc (aa 105 [.slice none 0 0,.int .u64 (0:Nat)])=B at kB vB hg1;have hlen:=(h.kp kB).len;have kC:=Kp.alloc B (aa 167 [.slice none 0 0]);have vC:=aF B 167 [.slice none 0 0];have nC:(B.alloc (aa 167 [.slice none 0 0])).next=B.next+1:=ae _ _
 obtain⟨g2,hg2⟩:=AT ((h.kp kB).kp kC) h0 (fun e he=>(hw e he).2.2) hl;generalize hC:B.alloc (aa 167 [.slice none 0 0])=C at kC vC nC hg2;obtain⟨b0,h1⟩:=(h.kp kB).kp kC;have hb0:b0<B.next:=by
  obtain⟨b1,h2⟩:=h.kp kB;rcases h1 with⟨-,h1⟩|⟨k,c,h1,-⟩
  ·exact absurd (YK.1 h1) h0
  ·rcases h2 with⟨-,h2⟩|⟨k',c',h2,h3,-⟩
   ·exact absurd (YK.1 h2) h0
   ·rw [h1] at h2;cases h2;exact h3
 have hM:zm C B.next B.next [] fun z=>z<B.next:=⟨_,[],vC,az.nil _ _ _ _,⟨fun _=>rfl,fun h=>absurd rfl h⟩,fun hx=>Zk _ hx,rfl,fun i s hs=>by simp at hs⟩
 obtain⟨v,D,⟨g3,hg3⟩,rfl,b',hM',-,hn',hf'⟩:=DB 256 l 0 [] [] C B.next B.next b0 x (fun z=>z<B.next) ⟨fun i s h=>by simp at h,qbs,fun i hi=>by simp at hi⟩ h0 ha (fun e _=>⟨rfl,Yg _⟩)
  (fun e he=>⟨by have:=(hw e he).2.1;omega,by have:=(hw e he).2.1;omega,(hw e he).2.2⟩) hl hM (fun z hz=>by omega) h1 hb0 hn
 obtain⟨y,rows,m1,m2,m3,-,m4,m5⟩:=hM';have kD:Kp B D:=⟨by omega,fun z hz=>by rw [hf' z (by omega) (by omega) (fun h=>absurd rfl h),kC.2 z hz]⟩;have lm:aq ai D.get 102 (pw B.next 0)= .ok y:=m1.ld rfl fX rfl;have hy:=az.dm m2;obtain⟨E,sE,vE,nE,fE⟩:=bx (tb:=ai) (t:=105) (l':=[y,.int .u64 (least l:Nat)]) (by exact eD) (vB.kp kD).2 rfl (by simp) (by
  intro v hv;simp only [Yp,YH,or_false] at hv;rcases hv with rfl|rfl
  ·exact hy.2
  ·rfl)
 have keep:∀z,z<D.next→¬z<B.next→E.get z=D.get z:=fun z _ hx=>fE z (by have:=vB.1;omega)
 obtain⟨d,hd1,hd2⟩:=bA (t:=105) (p:=true) (by kernel_rfl);have lE:aq ai E.get 105 (pw A.next 0)= .ok (.agg ⟨[y,.int .u64 (least l:Nat)]⟩):=aQ hd1 hd2 eD vE;have hlp:¬l.length=0:=fun e=>h0 (Yh.1 e)
 have bd:cr ai 105 [(0,y),(1,.int .u64 (least l:Nat))]= .ok (.agg ⟨[y,.int .u64 (least l:Nat)]⟩):=by
  rcases m2 with⟨rfl,-⟩|⟨_,_,rfl,-⟩<;>exact UY
 refine cS (aB Tryz.func57) (c:=Tryz.f57.body.getD .skip) (by kernel_rfl) (by rw [Tryz.ntmps57];simp) (by kernel_rfl) (by kernel_rfl) ?_;apply W.a6 (g1+g2+g3) 60
 ·intro M hM;simp (disch:=first|decide+kernel|omega) only [Tryz.f57,Aq,X2,mP,hB,hg1,Sd,hlen,hlp,U1,hC,hg2,hg3,aG,a8,uu,lm,bd,sE,X8,X7];rfl
 refine⟨by simp,rfl,_,(by simp only [Tryz.f57,Aq,X2,lE]<;>rfl),⟨by have:=kB.1;have:=kD.1;show A.next≤E.next;omega,fun z hz=>?_⟩,y,rfl,b',rows,?_,m4,fun i s hs=>?_⟩
 ·show E.get z=A.get z;rw [fE z (by omega),kD.2 z (by have:=kB.1;omega),kB.2 z hz]
 ·exact az.fA m2 (fun h=>m3.1 (Yh.1 (by rw [←m4,h];rfl))) (by show D.next≤E.next;omega) fun hne hlt=>keep b' hlt (m3.2 fun h=>hne (Yh.1 (by rw [m4,h];rfl))).2.2
 ·obtain⟨x',c,e1,e2,e0,e3⟩:=m5 i s hs;exact⟨x',e1,c,az.fA e2 (fun h=>e0 (YK.1 h)) (by show D.next≤E.next;omega) fun hne hlt=>keep c hlt (e3 fun h=>hne (by rw [h];rfl)).2.2⟩
theorem dc:ax ai 105 (pw b o) 0= .ok (pw b o):=by kernel_rfl
theorem G6:ax ai 105 (pw b o) 1= .ok (pw b (o+1)):=by kernel_rfl
theorem kx:ax ai 172 (pw b o) 0= .ok (pw b o):=by kernel_rfl
theorem qZ:ax ai 172 (pw b o) 1= .ok (pw b (o+1)):=by kernel_rfl
theorem jB:ax ai 172 (pw b o) 2= .ok (pw b (o+2)):=by kernel_rfl
theorem j'.to {l:List cO} {x:Value} {e:cO} (h:j' A l x) (hi:l[i]?=some e):
 ∃p,aZ ai 162 x (.int .i64 i)= .ok p∧∃q,ax ai 172 p 2= .ok q∧aq ai A.get 3 q= .ok (.int .i64 e.to):=by
 obtain⟨b,h⟩:=h;have hl:i<(l.map cc).length:=by rw [Yb];exact(X_.1 hi).1
 exact⟨_,az.idx h j8 KY hl,_,jB,az.load (tb:=ai) (j:=2) h u3 rfl (show(l.map cc)[i]?=some (cc e) by rw [Yr,hi];rfl) rfl (by omega)⟩
theorem Dk {D:Mem} {x:Value} {s:bj} (h:j' D s.arcs x):aW ai (D.alloc (aa 164 [.slice none 0 0,.bool false,.int .u64 (0:Nat)])) 164 (pw D.next 0) (.agg ⟨cW x s⟩)= .ok (D.alloc (aa 164 (cW x s))):=by
 obtain⟨b,h⟩:=h;refine bn mQ rfl (by simp [cW]) (by simp) ?_;intro v hv;simp only [cW,Yp,YH,or_false] at hv;rcases hv with rfl|rfl|rfl
 ·exact(az.dm h).2
 ·rfl
 ·rfl
theorem eX.self (h:eX A M y):y.cells.toList=[y]∧aJ y=true:=by
 obtain⟨b,rows,h1,-⟩:=h;exact az.dm h1
noncomputable def mj:Code:=ZN.body.getD .skip
noncomputable def eV:Code:=sub mj [1,1,0,1,0,0]
noncomputable def GD:Code:=sub eV [1,0,0,1,1,1,0,0]
theorem Qd:ZN.body=some (.seq (sub mj [0]) (.seq (sub mj [1,0]) (.seq (.seq (sub mj [1,1,0,0]) (.block 0 (.loop eV))) (.seq (sub mj [1,1,1,0]) (sub mj [1,1,1,1]))))):=by kernel_rfl
theorem AZ:eV=(.seq (sub eV [0]) (.seq (.block 1 (.seq (sub eV [1,0,0,0]) (.seq (sub eV [1,0,0,1,0]) (.seq (sub eV [1,0,0,1,1,0]) (.block 2 (.loop GD)))))) (sub eV [1,1]))):=by kernel_rfl
variable {n:Nat}
theorem Nd (h:eX A M y) (hM:M≠ []) (hn:n≤100000) (hl:M.length<1000000) (hL:Lay M):∃v A',bL ai 102 [.int .i64 n,.agg ⟨[y,.int .u64 k]⟩] A v A'∧v= .bool true∧Kp A A':=by
 refine cS (aB Tryz.func102) Qd (by rw [Tryz.ntmps102];simp) (by kernel_rfl) (by kernel_rfl) ?_;have kB:=Kp.alloc A (aa 105 [y,.int .u64 k]);have vB:=aF A 105 [y,.int .u64 k];have hy:=h.self;apply W.seq;apply W.run 20
 ·intro M;simp (disch:=first|decide+kernel|omega) only [mj,ZN,Aq,X2,au];rfl
 show W ai _ _ _;have hB:=h.kp kB;generalize A.alloc (aa 105 [y,.int .u64 k])=B at kB vB hB;have ly:∀D,Kp B D→aq ai D.get 102 (.pointer (some ⟨A.next,0,none⟩))= .ok y:=fun D hD=>(vB.kp hD).ld rfl fX rfl
 have lB:=ly B (Kp.refl _);have cz:=hB.len;have hM1:¬M.length=0:=fun e=>hM (Yh.1 e)
 have hn1:¬100000<n:=by omega
 apply W.seq;apply W.run 20
 ·intro M;simp (config:={maxSteps:=4000000}) (disch:=first|decide+kernel|omega|simp only [Wq,X2]) only [mj,ZN,Aq,X5,reduceIte,X2,X3,dc,lB,cz,hM1,hn1,bR,bw];rfl
 apply W.seq;apply W.seq;apply W.run 20
 ·intro M;simp (disch:=first|decide+kernel|omega) only [mj,ZN,Aq,X2];rfl
 apply W.block;refine W.up M.length (fun i t D=>Kp B D∧Sl t [(3,.pointer (some ⟨A.next,0,none⟩)),(5,.int .i64 i)]) ?_ (Yg _) ⟨Kp.refl _,?_⟩
 ·rintro i t D hi ⟨kD,g3,g5,-⟩;have lD:=ly D kD;have hD:=hB.kp kD;have lenD:=hD.len;by_cases hlt:i<M.length
  ·have hMi:M[i]?=some M[i]:=X6 hlt;obtain⟨l1,l2,l3,l4⟩:=hL i _ hMi;obtain⟨x,p,j1,j2,hx,-⟩:=hD.at hMi;generalize M[i]=s at*;have sE:=Dk hx;have kE:=Kp.alloc D (aa 164 (cW x s));have vE:=aF D 164 (cW x s);generalize D.alloc (aa 164 (cW x s))=E at sE kE vE;have a0:aq ai E.get 162 (.pointer (some ⟨D.next,0,none⟩))= .ok x:=vE.ld rfl j8 rfl;have a1:aq ai E.get 4 (.pointer (some ⟨D.next,0+1,none⟩))= .ok (.bool s.fin):=vE.ld rfl u4 rfl;have a2:aq ai E.get 103 (.pointer (some ⟨D.next,0+2,none⟩))= .ok (.int .u64 s.out):=vE.ld rfl ff rfl;have hxE:=hx.kp kE;have lx:=hxE.len;have hl1:¬256<s.arcs.length:=by omega
   rw [AZ];apply W.seq;apply W.run 20
   ·intro M;simp (disch:=first|decide+kernel|omega) only [eV,mj,ZN,Aq,X2,g3,g5,dc,lD,lenD,hlt];rfl
   apply W.seq;apply W.block;apply W.seq;apply W.run 20
   ·intro M;simp (disch:=first|decide+kernel|omega) only [eV,mj,ZN,Aq,X2,g3,g5,dc,lD,j1,j2,jr,au,sE];rfl
   apply W.seq;refine W.to (n:=70) (fun t D'=>D'=E∧Sl t [(3,.pointer (some ⟨A.next,0,none⟩)),(5,.int .i64 i),(6,.pointer (some ⟨D.next,0,none⟩))]) ?_ ?_
   ·cases hf:s.fin with
    |true=>
     rw [hf] at a1;apply W.run 20
     ·intro M;simp (config:={maxSteps:=4000000}) (disch:=first|decide+kernel|omega|simp only [Wq,X2]) only [eV,mj,ZN,Aq,X5,reduceIte,X2,X3,cZ,cR,a0,a1,lx,hl1,bR,bw];rfl
     refine⟨rfl,_,_,rfl,rfl,?_⟩;simp only [av,aw,T.af,T.ag,T.ak,X2,X3,if_true,if_false,and_true,true_and,g3,g5]
    |false=>
     rw [hf] at a1;have ho:=l2 hf;rw [ho] at a2;apply W.run 20
     ·intro M;simp (config:={maxSteps:=4000000}) (disch:=first|decide+kernel|omega|simp only [Wq,X2]) only [eV,mj,ZN,Aq,X5,reduceIte,X2,X3,cZ,cR,iW,a0,a1,a2,lx,hl1,bR,bw];rfl
     refine⟨rfl,_,_,rfl,rfl,?_⟩;simp only [av,aw,T.af,T.ag,T.ak,X2,X3,if_true,if_false,and_true,true_and,g3,g5]
   ·rintro t D' ⟨rfl,g3,g5,g6,-⟩;apply W.seq;apply W.run 20
    ·intro M;simp (disch:=first|decide+kernel|omega) only [eV,mj,ZN,Aq,X2];rfl
    apply W.block;refine W.up s.arcs.length (fun j t D''=>D''=D'∧Sl t [(3,.pointer (some ⟨A.next,0,none⟩)),(5,.int .i64 i),(6,.pointer (some ⟨D.next,0,none⟩)),(7,.int .i64 j)]) ?_ (Yg _) ⟨rfl,?_⟩
    ·rintro j t D' hj ⟨rfl,g3,g5,g6,g7,-⟩;by_cases hlt2:j<s.arcs.length
     ·have hsj:s.arcs[j]?=some s.arcs[j]:=X6 hlt2;obtain⟨q,q1,q2,q3,q4⟩:=hxE.to hsj;have ht:=(l4 _ (YQ hlt2)).1;have ht2:¬i≤s.arcs[j].to:=by omega
      apply W.run 20
      ·intro M;simp (config:={maxSteps:=4000000}) (disch:=first|decide+kernel|omega|simp only [Wq,X2]) only [GD,eV,mj,ZN,Aq,X5,reduceIte,X2,X3,g5,g6,g7,cZ,a0,lx,hlt2,q1,q3,q4,bO,bm,ht2];rfl
      refine⟨hlt2,_,_,rfl,rfl,?_⟩;simp only [av,aw,T.af,T.ag,T.ak,X2,X3,if_true,if_false,and_true,true_and,g3,g5,g6]
     ·have e:j=s.arcs.length:=by omega
      subst e;apply W.run 20
      ·intro M;simp (disch:=first|decide+kernel|omega) only [GD,eV,mj,ZN,Aq,X2,g6,g7,cZ,a0,lx];rfl
      show W ai (sub eV [1,1]) _ _;apply W.run 20
      ·intro M;simp (disch:=first|decide+kernel|omega) only [eV,mj,ZN,Aq,X2,g5];rfl
      refine⟨hlt,_,_,rfl,kD.trans kE,?_⟩;simp only [av,aw,T.af,T.ag,T.ak,X2,X3,if_true,if_false,and_true,true_and,g3]
    ·simp only [av,aw,T.af,T.ag,T.ak,X2,X3,if_true,if_false,and_true,true_and,g3,g5,g6]
  ·have e:i=M.length:=by omega
   subst e;rw [AZ];apply W.seq;apply W.run 20
   ·intro M;simp (disch:=first|decide+kernel|omega) only [eV,mj,ZN,Aq,X2,g3,g5,dc,lD,lenD];rfl
   apply W.seq;apply W.run 20
   ·intro M;simp (disch:=first|decide+kernel|omega) only [mj,ZN,Aq,X2];rfl
   apply W.run 20
   ·intro M;simp (disch:=first|decide+kernel|omega) only [mj,ZN,Aq,X2];rfl
   exact⟨by simp,rfl,_,(by simp only [ZN,Aq,X2]<;>rfl),rfl,kB.trans kD⟩
 ·simp only [av,aw,T.af,T.ag,T.ak,X2,X3,if_true,if_false,and_true,true_and]
theorem EB {D:Mem} {a:cO}:aW ai (D.alloc (aa 172 [.int .u8 (0:Nat),.int .u64 (0:Nat),.int .i64 (0:Nat)])) 172 (pw D.next 0) (.agg ⟨cc a⟩)= .ok (D.alloc (aa 172 (cc a))):=bn KY rfl rfl (by simp) (by simp [cc,aJ])
theorem oe:b7 ai 172= .ok (.agg ⟨[.int .u8 (0:Nat),.int .u64 (0:Nat),.int .i64 (0:Nat)]⟩):=by kernel_rfl
def Fl (l:List cO) (j:Nat):Int:=if j=0 then-1 else(((l[j-1]?).map fun a=>a.byte.toNat).getD 0:Nat)
variable {j:Nat}
theorem NJ {l:List cO} (hp:(l.map (·.byte)).Pairwise (·<·)) (hj:j<l.length):¬(((l[j].byte.toNat:Nat):Int)≤Fl l j):=by
 unfold Fl;split
 ·omega
 ·rename_i h0;rw [X6 (by omega)];have:=Zv.1 hp (j-1) j (by rw [Yb];omega) (by rw [Yb];omega) (by omega);rw [qbH,qbH] at this;have:=qaN.1 this;simp only [YI,Za];omega
theorem BP (t:T Value):ev t (.const (.int .i64 (-1)))= .ok (.int .i64 (-1)):=rfl
noncomputable def kW:Code:=Zy.body.getD .skip
noncomputable def dT:Code:=sub kW [1,0,1,0,0]
noncomputable def Gt:Code:=sub dT [1,1,0,0,1,1,1,1,0,0]
theorem P3:Zy.body=some (.seq (sub kW [0]) (.seq (.seq (sub kW [1,0,0]) (.block 0 (.loop dT))) (.seq (sub kW [1,1,0]) (sub kW [1,1,1])))):=by kernel_rfl
theorem AH:dT=(.seq (sub dT [0]) (.seq (sub dT [1,0]) (.seq (.block 1 (.seq (sub dT [1,1,0,0,0]) (.seq (sub dT [1,1,0,0,1,0]) (.seq (sub dT [1,1,0,0,1,1,0]) (.seq (sub dT [1,1,0,0,1,1,1,0]) (.block 2 (.loop Gt))))))) (sub dT [1,1,1])))):=by kernel_rfl
theorem Ho (h:eX A M y) (hM:M≠ []) (hg:dM M) (hl:M.length<1000000):∃v A',bL ai 168 [.agg ⟨[y,.int .u64 k]⟩] A v A'∧v= .bool true∧Kp A A':=by
 refine cS (aB Tryz.func168) P3 (by rw [Tryz.ntmps168];simp) (by kernel_rfl) (by kernel_rfl) ?_;have kB:=Kp.alloc A (aa 105 [y,.int .u64 k]);have vB:=aF A 105 [y,.int .u64 k];apply W.seq;apply W.run 20
 ·intro M;simp (disch:=first|decide+kernel|omega) only [kW,Zy,Aq,X2,au];rfl
 show W ai _ _ _;have hB:=h.kp kB;generalize A.alloc (aa 105 [y,.int .u64 k])=B at kB vB hB;have ly:∀D,Kp B D→aq ai D.get 102 (.pointer (some ⟨A.next,0,none⟩))= .ok y:=fun D hD=>(vB.kp hD).ld rfl fX rfl
 have lB:=ly B (Kp.refl _);have cz:=hB.len;apply W.seq;apply W.seq;apply W.run 20
 ·intro M;simp (disch:=first|decide+kernel|omega) only [kW,Zy,Aq,X2,dc,lB,cz];rfl
 apply W.block;refine W.up M.length (fun i t D=>Kp B D∧Sl t [(1,.pointer (some ⟨A.next,0,none⟩)),(9,y),(10,.int .i64 M.length),(11,.int .i64 i)]) ?_ (Yg _) ⟨Kp.refl _,?_⟩
 ·rintro i t D hi ⟨kD,g1,g9,g10,g11,-⟩;have hD:=hB.kp kD;by_cases hlt:i<M.length
  ·have hMi:M[i]?=some M[i]:=X6 hlt;obtain⟨l1,l2,l3,-,-⟩:=hg i _ hMi;have hfew:=mU (hg i _ hMi);obtain⟨x,p,j1,j2,hx,-⟩:=hD.at hMi;generalize M[i]=s at*;have sE:=Dk hx;have kE:=Kp.alloc D (aa 164 (cW x s));have vE:=aF D 164 (cW x s);generalize D.alloc (aa 164 (cW x s))=E at sE kE vE;have a0:aq ai E.get 162 (.pointer (some ⟨D.next,0,none⟩))= .ok x:=vE.ld rfl j8 rfl;have a1:aq ai E.get 4 (.pointer (some ⟨D.next,0+1,none⟩))= .ok (.bool s.fin):=vE.ld rfl u4 rfl;have a2:aq ai E.get 103 (.pointer (some ⟨D.next,0+2,none⟩))= .ok (.int .u64 s.out):=vE.ld rfl ff rfl;have hxE:=hx.kp kE;have lx:=hxE.len;rw [AH];apply W.seq;apply W.run 20
   ·intro M;simp (disch:=first|decide+kernel|omega) only [dT,kW,Zy,Aq,X2,g10,g11,hlt];rfl
   apply W.seq;apply W.run 20
   ·intro M;simp (disch:=first|decide+kernel|omega) only [dT,kW,Zy,Aq,X2];rfl
   apply W.seq;apply W.block;apply W.seq;apply W.run 20
   ·intro M;simp (disch:=first|decide+kernel|omega) only [dT,kW,Zy,Aq,X2,g9,g11,j1,j2,jr,au,sE];rfl
   apply W.seq;refine W.to (n:=56) (fun t D'=>D'=E∧Sl t [(1,.pointer (some ⟨A.next,0,none⟩)),(3,.int .i64 i),(4,.pointer (some ⟨D.next,0,none⟩)),(9,y),(10,.int .i64 M.length),(11,.int .i64 i)]) ?_ ?_
   ·cases hf:s.fin with
    |true=>
     rw [hf] at a1;apply W.run 20
     ·intro M;simp (config:={maxSteps:=4000000}) (disch:=first|decide+kernel|omega|simp only [Wq,X2]) only [dT,kW,Zy,Aq,X5,reduceIte,X2,X3,cR,a1];rfl
     refine⟨rfl,_,_,rfl,rfl,?_⟩;simp only [av,aw,T.af,T.ag,T.ak,X2,X3,if_true,if_false,and_true,true_and,g1,g9,g10,g11]
    |false=>
     rw [hf] at a1;have ho:=l1 hf;rw [ho] at a2;apply W.run 20
     ·intro M;simp (config:={maxSteps:=4000000}) (disch:=first|decide+kernel|omega|simp only [Wq,X2]) only [dT,kW,Zy,Aq,X5,reduceIte,X2,X3,cR,iW,a1,a2];rfl
     refine⟨rfl,_,_,rfl,rfl,?_⟩;simp only [av,aw,T.af,T.ag,T.ak,X2,X3,if_true,if_false,and_true,true_and,g1,g9,g10,g11]
   ·rintro t D' ⟨rfl,g1,g3,g4,g9,g10,g11,-⟩;apply W.seq;apply W.run 20
    ·intro M;simp (disch:=first|decide+kernel|omega) only [dT,kW,Zy,Aq,X2,BP];rfl
    apply W.seq;apply W.run 20
    ·intro M;simp (disch:=first|decide+kernel|omega) only [dT,kW,Zy,Aq,X2,g4,cZ,a0,lx];rfl
    apply W.block;refine W.up s.arcs.length (fun j t F=>Kp D' F∧Sl t [(1,.pointer (some ⟨A.next,0,none⟩)),(3,.int .i64 i),(5,.int .i64 (Fl s.arcs j)),(9,y),(10,.int .i64 M.length),(11,.int .i64 i),(25,x),(26,.int .i64 s.arcs.length),(27,.int .i64 j)]) ?_ (Yg _) ⟨Kp.refl _,?_⟩
    ·rintro j t F hj ⟨kF,g1,g3,g5,g9,g10,g11,g25,g26,g27,-⟩;by_cases hlt2:j<s.arcs.length
     ·have hsj:s.arcs[j]?=some s.arcs[j]:=X6 hlt2;obtain⟨q,q1,q2⟩:=(hxE.kp kF).at hsj;have ht:=l3 _ (YQ hlt2);have hla:=NJ l2 hlt2;have hlv:Fl s.arcs (j+1)=((s.arcs[j].byte.toNat:Nat):Int):=by unfold Fl;rw [if_neg (by omega),qam,hsj];rfl
      generalize s.arcs[j]=a at*;have sG:=EB (D:=F) (a:=a);have kG:=Kp.alloc F (aa 172 (cc a));have vG:=aF F 172 (cc a);generalize F.alloc (aa 172 (cc a))=G at sG kG vG;have b0:aq ai G.get 5 (.pointer (some ⟨F.next,0,none⟩))= .ok (.int .u8 (a.byte.toNat:Nat)):=vG.ld rfl u5 rfl;have b2:aq ai G.get 3 (.pointer (some ⟨F.next,0+2,none⟩))= .ok (.int .i64 a.to):=vG.ld rfl u3 rfl;have ht2:¬i≤a.to:=by omega
      have cv:=bu (tb:=ai) (s:=5) (d:=3) (k:=.u8) (n:=a.byte.toNat) (by rw [u5];rfl) u3 (aR (by have:=a.byte.toNat_lt;omega));apply W.run 20
      ·intro M;simp (config:={maxSteps:=4000000}) (disch:=first|decide+kernel|omega|simp only [Wq,X2]) only [Gt,dT,kW,Zy,Aq,X5,reduceIte,X2,X3,g3,g5,g25,g26,g27,hlt2,q1,q2,oe,au,sG,kx,jB,b0,b2,bO,bm,ht2,cv,eY,hla];rfl
      refine⟨hlt2,_,_,rfl,kF.trans kG,?_⟩;simp only [av,aw,T.af,T.ag,T.ak,X2,X3,if_true,if_false,and_true,true_and,g1,g3,g9,g10,g11,g25,g26,hlv]
     ·have e:j=s.arcs.length:=by omega
      subst e;apply W.run 20
      ·intro M;simp (disch:=first|decide+kernel|omega) only [Gt,dT,kW,Zy,Aq,X2,g26,g27];rfl
      show W ai (sub dT [1,1,1]) _ _;apply W.run 20
      ·intro M;simp (disch:=first|decide+kernel|omega) only [dT,kW,Zy,Aq,X2,g11];rfl
      refine⟨hlt,_,_,rfl,kD.trans (kE.trans kF),?_⟩;simp only [av,aw,T.af,T.ag,T.ak,X2,X3,if_true,if_false,and_true,true_and,g1,g9,g10]
    ·simp only [av,aw,T.af,T.ag,T.ak,X2,X3,if_true,if_false,and_true,true_and,g1,g3,g9,g10,g11];rfl
  ·have e:i=M.length:=by omega
   subst e;have lD:=ly D kD;have lenD:=hD.len;have hpos:0<M.length:=YM.2 hM;rw [AH];apply W.seq;apply W.run 20
   ·intro M;simp (disch:=first|decide+kernel|omega) only [dT,kW,Zy,Aq,X2,g10,g11];rfl
   apply W.seq;apply W.run 20
   ·intro M;simp (disch:=first|decide+kernel|omega) only [dT,kW,Zy,Aq,X2];rfl
   apply W.seq;apply W.run 20
   ·intro M;simp (disch:=first|decide+kernel|omega) only [kW,Zy,Aq,X2,g1,dc,lD,lenD,bR,bw,hpos];rfl
   apply W.run 20
   ·intro M;simp (disch:=first|decide+kernel|omega) only [kW,Zy,Aq,X2];rfl
   exact⟨by simp,rfl,_,(by simp only [Zy,Aq,X2]<;>rfl),rfl,kB.trans kD⟩
 ·simp only [av,aw,T.af,T.ag,T.ak,X2,X3,if_true,if_false,and_true,true_and]
def GZ (s:Nat×Bool) (a:cO):Nat×Bool:=if s.2=false∨a.out<s.1 then(a.out,true) else s
theorem Ed:∀(l:List cO) (s:Nat×Bool),(s=(0,true)∨∃a∈l,a.out=0)→l.foldl GZ s=(0,true)
 | [],s,h=>by
  rcases h with h|⟨a,h,-⟩
  ·exact h
  ·cases h
 |a::l,s,h=>by
  rw [Zh];refine Ed l _ ?_;rcases h with rfl|⟨b,hb,h0⟩
  ·exact .inl (by unfold GZ;rw [if_neg (by simp)])
  ·rcases Yp.1 hb with rfl|hb
   ·refine .inl ?_;unfold GZ;obtain⟨n,an⟩:=s;cases an with
    |false=>simp [h0]
    |true=>
     by_cases hn:b.out<n
     ·rw [if_pos (.inr hn),h0]
     ·rw [if_neg (by simp;omega)];rw [h0] at hn;have:n=0:=by omega
      rw [this]
   ·exact .inr ⟨b,hb,h0⟩
theorem O8:ax ai 214 (pw b o) 0= .ok (pw b o):=by kernel_rfl
noncomputable def qw:Code:=qaF.body.getD .skip
noncomputable def xM:Code:=sub qw [1,1,0,1,0,0]
theorem Q7:qaF.body=some (.seq (sub qw [0]) (.seq (sub qw [1,0]) (.seq (.seq (sub qw [1,1,0,0]) (.block 0 (.loop xM))) (.seq (sub qw [1,1,1,0]) (sub qw [1,1,1,1]))))):=by kernel_rfl
variable {p:Nat}
theorem G9 {s:bj} {x z:Value} (hx:j' A s.arcs x) (hp:VB A 214 p (.var 4) [x,.bool s.fin,.int .u64 s.out,z]) (hl:s.arcs.length≤256) (h0:(s.fin=true∧s.out=0)∨∃a∈s.arcs,a.out=0):∃v A',bL ai 170 [.pointer (some ⟨p,0,none⟩)] A v A'∧v= .int .u64 (0:Nat)∧Kp A A':=by
 refine cS (aB Tryz.func170) Q7 (by rw [Tryz.ntmps170];simp) (by kernel_rfl) (by kernel_rfl) ?_;have a0:aq ai A.get 162 (.pointer (some ⟨p,0,none⟩))= .ok x:=hp.ld rfl j8 rfl;have a1:aq ai A.get 4 (.pointer (some ⟨p,0+1,none⟩))= .ok (.bool s.fin):=hp.ld rfl u4 rfl;have a2:aq ai A.get 103 (.pointer (some ⟨p,0+2,none⟩))= .ok (.int .u64 s.out):=hp.ld rfl ff rfl;have lx:=hx.len;have hz:=Ed s.arcs (s.out,s.fin) (by
  rcases h0 with⟨h1,h2⟩|h
  ·exact .inl (by rw [h1,h2])
  ·exact .inr h)
 apply W.seq;apply W.run 20
 ·intro M;simp (disch:=first|decide+kernel|omega) only [qw,qaF,Aq,X2];rfl
 apply W.seq;apply W.run 20
 ·intro M;simp (config:={maxSteps:=4000000}) (disch:=first|decide+kernel|omega|simp only [Wq,X2]) only [qw,qaF,Aq,X5,reduceIte,X2,X3,aG,a8,O8,cR,iW,a1,a2,Fq,aC []];rfl
 apply W.seq;apply W.seq;apply W.run 20
 ·intro M;simp (disch:=first|decide+kernel|omega) only [qw,qaF,Aq,X2,aG,a8,O8,cZ,a0,lx];rfl
 apply W.block;refine W.up s.arcs.length (fun j t D=>Kp A D∧Sl t [(3,.int .u64 ((((s.arcs.take j).foldl GZ (s.out,s.fin)).1:Nat):Int)),(4,.bool ((s.arcs.take j).foldl GZ (s.out,s.fin)).2),(21,x),(22,.int .i64 s.arcs.length),(23,.int .i64 j)]) ?_ (Yg _) ⟨Kp.refl _,?_⟩
 ·rintro j t D hj ⟨kD,g3,g4,g21,g22,g23,-⟩;by_cases hlt:j<s.arcs.length
  ·have hsj:s.arcs[j]?=some s.arcs[j]:=X6 hlt;obtain⟨q,q1,q2⟩:=(hx.kp kD).at hsj;have htk:(s.arcs.take (j+1)).foldl GZ (s.out,s.fin)=GZ ((s.arcs.take j).foldl GZ (s.out,s.fin)) s.arcs[j]:=by rw [Yd hlt,ZA];rfl
   generalize s.arcs[j]=a at*;generalize (s.arcs.take j).foldl GZ (s.out,s.fin)=w at*;obtain⟨n,an⟩:=w;have sG:=EB (D:=D) (a:=a);have kG:=Kp.alloc D (aa 172 (cc a));have vG:=aF D 172 (cc a);generalize D.alloc (aa 172 (cc a))=G at sG kG vG;have b1:aq ai G.get 103 (.pointer (some ⟨D.next,0+1,none⟩))= .ok (.int .u64 a.out):=vG.ld rfl ff rfl;cases an with
   |false=>
    have e:GZ (n,false) a=(a.out,true):=by unfold GZ;rw [if_pos (.inl rfl)]
    apply W.run 20
    ·intro M;simp (config:={maxSteps:=4000000}) (disch:=first|decide+kernel|omega|simp only [Wq,X2]) only [xM,qw,qaF,Aq,X5,reduceIte,X2,X3,g3,g4,g21,g22,g23,hlt,q1,q2,oe,au,sG,qZ,b1];rfl
    refine⟨hlt,_,_,rfl,kD.trans kG,?_⟩;rw [htk,e];simp only [av,aw,T.af,T.ag,T.ak,X2,X3,if_true,if_false,and_true,true_and,g21,g22]
   |true=>
    by_cases hn:a.out<n
    ·have e:GZ (n,true) a=(a.out,true):=by unfold GZ;rw [if_pos (.inr hn)]
     apply W.run 20
     ·intro M;simp (config:={maxSteps:=4000000}) (disch:=first|decide+kernel|omega|simp only [Wq,X2]) only [xM,qw,qaF,Aq,X5,reduceIte,X2,X3,g3,g4,g21,g22,g23,hlt,q1,q2,oe,au,sG,qZ,b1,hn];rfl
     refine⟨hlt,_,_,rfl,kD.trans kG,?_⟩;rw [htk,e];simp only [av,aw,T.af,T.ag,T.ak,X2,X3,if_true,if_false,and_true,true_and,g21,g22]
    ·have e:GZ (n,true) a=(n,true):=by unfold GZ;rw [if_neg (by simp;omega)]
     apply W.run 20
     ·intro M;simp (config:={maxSteps:=4000000}) (disch:=first|decide+kernel|omega|simp only [Wq,X2]) only [xM,qw,qaF,Aq,X5,reduceIte,X2,X3,g3,g4,g21,g22,g23,hlt,q1,q2,oe,au,sG,qZ,b1,hn];rfl
     refine⟨hlt,_,_,rfl,kD.trans kG,?_⟩;rw [htk,e];simp only [av,aw,T.af,T.ag,T.ak,X2,X3,if_true,if_false,and_true,true_and,g3,g4,g21,g22]
  ·have e:j=s.arcs.length:=by omega
   subst e;rw [Yw,hz] at g3;apply W.run 20
   ·intro M;simp (disch:=first|decide+kernel|omega) only [xM,qw,qaF,Aq,X2,g22,g23];rfl
   apply W.seq;apply W.run 20
   ·intro M;simp (disch:=first|decide+kernel|omega) only [qw,qaF,Aq,X2,g3];rfl
   apply W.run 20
   ·intro M;simp (disch:=first|decide+kernel|omega) only [qw,qaF,Aq,X2];rfl
   exact⟨by simp,rfl,_,(by simp only [qaF,Aq,X2]<;>rfl),rfl,kD⟩
 ·simp only [av,aw,T.af,T.ag,T.ak,X2,X3,if_true,if_false,and_true,true_and];simp
end Go.Proofs.YtggndfefpbmaeaaGreatDoor.sto
end
