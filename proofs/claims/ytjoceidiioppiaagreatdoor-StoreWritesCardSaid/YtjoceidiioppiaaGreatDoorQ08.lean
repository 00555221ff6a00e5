/- The abstract machine, the walk of the law and its plain laws, made small by a program; part 8: no conditions but those in each theorem. -/
import Derived.Test.YtjoceidiioppiaaGreatDoorQ07
set_option maxHeartbeats 16000000
set_option maxRecDepth 100000
set_option linter.unusedSimpArgs false
set_option linter.unusedVariables false
set_option linter.defProp false
noncomputable section
open Bool renaming and_true→sK,false_and→Bo,false_eq_true→dR,true_and→tR,false→ag,true→ae
open Go renaming Code→aH,TypeId→au,Value→I
open List renaming all_eq_true→oT,append_assoc→iC,append_nil→jT,exists_cons_of_ne_nil→Hi,flatMap_cons→mr,flatten_append→D5,flatten_cons→vq,flatten_nil→Hj,foldl_append→tV,foldl_cons→mu,getD_eq_getElem?_getD→m_,getElem?_append_left→fe,getElem?_append_right→eV,getElem?_cons_succ→dc,getElem?_cons_zero→c7,getElem?_eq_getElem→aZ,getElem?_eq_none→ky,getElem?_eq_some_iff→bU,getElem?_map→dN,getElem?_set→pL,getElem?_take→pM,getElem_map→zu,getElem_mem→ff,length→Z,length_append→aY,length_cons→cD,length_eq_zero_iff→eN,length_map→bc,length_nil→eB,length_pos_iff→je,length_replicate→D7,length_set→dS,length_singleton→fb,length_take→df,map→tW,map_append→gg,map_cons→lK,map_eq_nil_iff→gu,map_nil→sQ,map_set→D8,mem_append_right→xS,mem_cons→cG,mem_flatMap→BD,mem_map→eH,mem_of_getElem?→gJ,mem_of_mem_take→zw,mem_or_eq_of_mem_set→zx,mem_singleton→dX,nil_append→lL,nodup_cons→vw,nodup_nil→nb,not_mem_nil→eC,pairwise_iff_getElem→tY,range→lM,replicate→fQ,reverse_cons→Ea,set_append_right→Eb,take_append_drop→tZ,take_length→dU,take_of_length_le→BF,take_succ_eq_append_getElem→d_,take_zero→zz
open Nat renaming add_zero→eo,beq→aL,ble→av,ble_eq_true_of_le→my,blt→aO,blt_eq→bZ,eq_of_beq_eq_true→eW,le_of_ble_eq_true→gK,le_refl→aI,le_trans→dm,lt_irrefl→t_,lt_of_lt_of_le→c9,lt_or_ge→ec,max_eq_right→ub,min_eq_left→nf,mul_one→qq,not_lt_zero→zD,reduceAdd→ak,reduceEqDiff→aa,reduceMul→Ef,sub_self→iQ,sub_zero→kL,zero_add→ep,zero_le→a8,zero_mul→xZ
open Option renaming getD_some→sU,map_none→Hx,map_some→gX,none→V,some→U
open Go.Proofs.Tryz renaming f120→mB,f122→sY,f177→yc,f178→yd,f192→pc,f197→pd,f21→uo,f279→rG,f280→uq,f290→tc,f291→zL,f294→zM,f295→vW,f300→vX,f63→pR,f64→qC
open UInt8 renaming lt_iff_toNat_lt→BV,toNat_inj→td
namespace Go.Proofs.YtjoceidiioppiaaGreatDoor.sto
open Go.Am Go.Mdl Go.Sto Go.Shelf
def jr:=cu pR
def IQ:aH:=sub jr [1,1,1,1,0,1,0,0]
def XE:pR.body=U (.seq (sub jr [0]) (.seq (sub jr [1,0]) (.seq (sub jr [1,1,0]) (.seq (sub jr [1,1,1,0]) (.seq (.seq (sub jr [1,1,1,1,0,0]) (.block 0 (.loop IQ))) (.seq (sub jr [1,1,1,1,1,0]) (.seq (sub jr [1,1,1,1,1,1,0]) (.seq (sub jr [1,1,1,1,1,1,1,0]) (.seq (sub jr [1,1,1,1,1,1,1,1,0]) (.seq (sub jr [1,1,1,1,1,1,1,1,1,0]) (sub jr [1,1,1,1,1,1,1,1,1,1]))))))))))):=by kernel_rfl
def Vz{a:Nat}:eu O 179 [(1,.map (U a))]=.ok (.agg ⟨[.slice V 0 0,.map (U a)]⟩):=by kernel_rfl
def qbB:tK O 180 (iN 1) (iN 1)=.ok (af 188 (dy (.slice V 0 0) ⟨ag,0,[],0⟩),.dZ 1 2):=by kernel_rfl
variable {b:Nat}
def VA{a:Nat}:eu O 182 [(0,.agg ⟨[.slice V 0 0,.map (U a)]⟩),(1,.slice (U ⟨b,0,V⟩) 1 2)]=.ok (.agg ⟨[.slice V 0 0,.map (U a),.slice (U ⟨b,0,V⟩) 1 2]⟩):=by kernel_rfl
def S0:nw:=([],⟨ag,0,[],0⟩,[])
def uO(l:List aK):List UInt8:=(l.getLast?.map (·.word)).getD []
def qaX(l:List aK)(e:aK):uO (l++[e])=e.word:=by simp[uO]
def Lq(l:List aK)(e:aK):jc (l++[e])=jc l+Z e.word:=by simp[jc]
def TX(l:List aK)(i:Nat):jc (l.take i)<=jc l:=by
 have:=cX jc (tZ i l);have e:∀a b:List aK,jc (a++b)=jc a+jc b:=λ a b=>by simp[jc]
 rw[e]at this;omega
variable {e:aK}
def qhx{l:List aK}(h:e∈l):Z e.word<=jc l:=by
 obtain⟨a,b,rfl⟩:=List.append_of_mem h;simp[jc];omega
def SK(l:List aK)(e:aK):gD [] (l++[e]) S0=qD (uO l) e (gD [] l S0):=by rw[KO];rfl
def PE:ou 0 0 S0:=⟨aI _,λ u hu=>by simp[S0]at hu,aI _,λ s hs=>by simp[S0]at hs,⟨⟨by show 0<18446744073709551616;omega,λ a ha=>by simp[S0]at ha⟩,λ u hu=>by simp[S0]at hu⟩,λ h=>aU rfl h⟩
variable {A:Mem}
def qeY{l:List aK}{x:I}(h:dz A l x)(h0:l≠ [])(ha:dk l)(hw:∀e∈l,1<=Z e.word/\Z e.word<=255/\e.weight<4294967296)(hs:jc l<999)(hl:Z l<=255):
 ∃v A',az O 63 [x] A v A'/\(∃y,v=.tuple ⟨[.agg ⟨[y,.int .u64 (least l:Nat)]⟩,.int .i64 (0:Nat)]⟩/\dA A' (dx l) y)/\Kp A A':=by
 refine cZ (aD Tryz.func63) XE (by kernel_rfl) ?_;have kA:=Kp.alloc A (af 115 [.slice V 0 0,.int .u64 (0:Nat)]);have vA:=aQ A 115 [.slice V 0 0,.int .u64 (0:Nat)];have nA:=aG A (af 115 [.slice V 0 0,.int .u64 (0:Nat)]);apply W.q
 .intro M;simp(disch:=omega)only[jr,pR,Aq,aa,vf,a7];rfl
 generalize A.alloc (af 115 [.slice V 0 0,.int .u64 (0:Nat)])=A1 at kA vA nA;obtain⟨v,B,⟨g1,h1⟩,⟨ca,ce,rfl,hce,-⟩,kB⟩:=Sm (h.kp kA) (λ e he=>⟨(hw e he).1,(hw e he).2.1⟩) (by omega);obtain rfl:=hce ha;apply W.qG (g1)
 .intro M hM;simp(disch:=first|decide+kernel|omega)only[jr,pR,Aq,aa,h1,c7,dc];rfl
 have hEB:=(h.kp kA).kp kB;have vB:=vA.kp kB;have hAB:=kB.1;generalize hk:B.next=k0
 have m1:(B.alloc (.map [] 0)).next=k0+1:=by rw[aG,hk]
 have m2:((B.alloc (.map [] 0)).alloc (af 188 (dy (.slice V 0 0) ⟨ag,0,[],0⟩))).next=k0+2:=by rw[aG,m1]
 have w3:=aQ ((B.alloc (.map [] 0)).alloc (af 188 (dy (.slice V 0 0) ⟨ag,0,[],0⟩))) 182 [.slice V 0 0,.map (U k0),.slice (U ⟨k0+1,0,V⟩) 1 2];have w2:=(aQ (B.alloc (.map [] 0)) 188 (dy (.slice V 0 0) ⟨ag,0,[],0⟩)).kp (Kp.alloc _ (af 182 [.slice V 0 0,.map (U k0),.slice (U ⟨k0+1,0,V⟩) 1 2]));have kC:=((Kp.alloc B (.map [] 0)).trans (Kp.alloc _ (af 188 (dy (.slice V 0 0) ⟨ag,0,[],0⟩)))).trans (Kp.alloc _ (af 182 [.slice V 0 0,.map (U k0),.slice (U ⟨k0+1,0,V⟩) 1 2]));have w1:((((B.alloc (.map [] 0)).alloc (af 188 (dy (.slice V 0 0) ⟨ag,0,[],0⟩))).alloc (af 182 [.slice V 0 0,.map (U k0),.slice (U ⟨k0+1,0,V⟩) 1 2]))).get k0=U (.map [] 0):=by
  rw[cY (by omega),cY (by omega),<-hk];exact de _ _
 have nC:((((B.alloc (.map [] 0)).alloc (af 188 (dy (.slice V 0 0) ⟨ag,0,[],0⟩))).alloc (af 182 [.slice V 0 0,.map (U k0),.slice (U ⟨k0+1,0,V⟩) 1 2]))).next=k0+3:=by rw[aG,m2]
 rw[m1]at w2;rw[m2]at w3;apply W.q
 .intro M;simp(disch:=first|decide+kernel|omega)only[jr,pR,Aq,aa,F_,uQ,Eu,hk,m1,m2,Vz,qbB,VA,a7];rfl
 generalize (((B.alloc (.map [] 0)).alloc (af 188 (dy (.slice V 0 0) ⟨ag,0,[],0⟩))).alloc (af 182 [.slice V 0 0,.map (U k0),.slice (U ⟨k0+1,0,V⟩) 1 2]))=C at w1 w2 w3 kC nC;have hC:gI C (λ z=>z<k0) (k0+2) k0 S0.1 (S0.2.1::S0.2.2).reverse (k0+2) (k0+1) [k0+2]:=
  ⟨.slice V 0 0,.slice (U ⟨k0+1,0,V⟩) 1 2,[],[dy (.slice V 0 0) ⟨ag,0,[],0⟩],⟨w3,⟨by omega,w1⟩,aq.nil _ _ _ _,rfl,λ _=>rfl⟩,qho w2.1 w2.2 rfl,⟨rfl,rfl,by simp⟩,λ i s hi=>by simp[S0]at hi,λ i o bx hi hb=>by
   cases i with
   |zero=>
    cases hi;cases hb;exact⟨.slice V 0 0,rfl,⟨aq.nil _ _ _ _,λ _=>rfl⟩,by omega⟩
   |succ i=>simp at hb,⟨by omega,by omega,by omega,by omega⟩,λ z hz=>by have:=dX.1 hz;omega,⟨by omega,by omega⟩,λ z hz=>by omega⟩
 have hEC:=hEB.kp kC;have hlen:=hEC.len;apply W.q
 .intro M;simp(disch:=first|decide+kernel|omega)only[jr,pR,Aq,aa];rfl
 apply W.seq;apply W.q
 .intro M;simp(disch:=first|decide+kernel|omega)only[jr,pR,Aq,aa,hlen];rfl
 apply W.block;refine W.up (Z l) (λ i t D=>(∃b bw bs,gI D (λ z=>z<k0) (k0+2) k0 (gD [] (l.take i) S0).1 ((gD [] (l.take i) S0).2.1::(gD [] (l.take i) S0).2.2).reverse b bw bs)/\ou i (jc (l.take i)) (gD [] (l.take i) S0)/\(C.next<=D.next/\∀z,z<k0->D.get z=C.get z)/\
  Sl t [(2,pV A.next),(6,pV (k0+2)),(7,ai (uO (l.take i))),(26,x),(27,.int .i64 (Z l:Nat)),(28,.int .i64 i)]) ?_ (a8 _) ⟨⟨_,_,_,hC⟩,PE,⟨aI _,λ _ _=>rfl⟩,?_⟩
 .rintro i t D hi ⟨⟨b,bw,bs,hD⟩,iv,⟨nD,fD⟩,g2,g6,g7,g26,g27,g28,-⟩;have kBD:Kp B D:=⟨by omega,λ z hz=>by rw[fD z (by omega),kC.2 z hz]⟩;by_cases hlt:i<Z l
  .have he:l[i]?=U l[i]:=aZ hlt;have hwe:=hw l[i] (ff hlt);obtain⟨bx,j1,j2,-⟩:=(hEB.kp kBD).at he;have hsm:=TX l (i+1);have hlw:(uO (l.take i)).length<1000:=by
    cases hq:(l.take i).getLast? with
    |none=>simp[uO,hq]
    |some u=>
     have:=qhx (zw (List.mem_of_mem_getLast? hq));simp only[uO,hq,gX,sU];omega
   rw[d_ hlt,Lq]at hsm;rw[d_ hlt,SK,Lq,qaX];generalize l[i]=e at*;have sE:cm O (D.alloc (af 61 [.string .empty,.int .u32 (0:Nat),.bool ag])) 61 (.pointer (U ⟨D.next,0,V⟩)) (.agg ⟨aX e⟩)=.ok (D.alloc (af 61 (aX e))):=fP oh rfl rfl (by simp) (CA e);have kE:=Kp.alloc D (af 61 (aX e));have vE:=aQ D 61 (aX e);have nE:(D.alloc (af 61 (aX e))).next=D.next+1:=aG _ _
   generalize D.alloc (af 61 (aX e))=E at sE kE vE nE;obtain⟨d4,hd4,hd5⟩:=cF (t:=61) (p:=ae) (by kernel_rfl);have lA:aj O E.get 61 (.pointer (U ⟨D.next,0,V⟩))=.ok (.agg ⟨aX e⟩):=cg hd4 hd5 (l:=aX e) oh vE.2;obtain⟨v,F,⟨g3,h3⟩,rfl,⟨b1,bw1,wj,hF⟩,nF,fF⟩:=qdA (z:=uO (l.take i)) (hD.more kE (aI _) (by omega)) iv (by omega) (by omega) hlw hwe.2.2;have lF:aj O F.get 9 (.pointer (U ⟨D.next,0,V⟩))=.ok (ai e.word):=VB.ld (tb:=O) ⟨by have:=vE.1;omega,vE.2.same (fF _ (.inr rfl))⟩ rfl u9 rfl;have z9:dj O 61=.ok (.agg ⟨[.string .empty,.int .u32 (0:Nat),.bool ag]⟩):=by kernel_rfl
   simp only[pV]at g6 h3;apply W.cC (g3) 20
   .intro M hM;simp(disch:=first|decide+kernel|omega)only[IQ,jr,pR,Aq,aa,g6,g7,g26,g27,g28,hlt,j1,j2,z9,a7,sE,lA,h3,mJ,lF,cQ];rfl
   refine⟨hlt,_,F,rfl,⟨b1,bw1,wj,hF.less λ _ h=>.inl h⟩,PF (by omega) iv (by have:=xE hwe.2.2;omega),⟨by omega,λ z hz=>by rw[fF z (.inl hz),kE.2 z (by omega),fD z hz]⟩,?_⟩;simp only[Sq,aa,ak,g2,g6,g26,g27,pV]
  .have e0:i=Z l:=by omega
   subst e0;rw[dU]at hD iv;apply W.run 20
   .intro M;simp(disch:=first|decide+kernel|omega)only[IQ,jr,pR,Aq,aa,g27,g28,hlt];rfl
   show W O _ _ _;obtain⟨M,o,hM,hLe,hNu⟩:=Py (f:=255) h0 ha λ e he=>by have:=(hw e he).2.1;omega
   have hM':im 0 (gD [] l S0)=(M,o,[]):=hM;have iv2:ou (Z l) (jc l) (im 0 (gD [] l S0)):=(CW (d:=0) (by omega) _ _ _ iv).1;obtain⟨v,E,⟨g3,h3⟩,rfl,⟨b1,wj,hE⟩,nE,fE⟩:=Sh (d:=0) hD iv (by omega) (by omega) (by omega);rw[hM']at hE iv2;obtain⟨i1,-,i3,i4,⟨i5,-⟩,i6⟩:=iv2;have i6:=i6 (by have:=je.2 h0;omega);have i1:Z o.arcs<=Z l:=i1;have i3:Z M+0<=jc l:=i3;have hbl:=hE.H6;obtain⟨y,w,rows,ws,hR,hS,⟨q3,q3b,-⟩,q4,q5,⟨n1,n2,n3,n4⟩,n5,⟨n6,n7⟩,n8⟩:=hE;obtain⟨r1,⟨r2,r3⟩,r4,r5,r6⟩:=id hR;simp only[Ea,List.reverse_nil,lL,fb]at q3 q3b q5;obtain⟨x0,hwx,hx0,hbx⟩:=q5 0 o _ rfl (aZ (by omega));have hbm:=ff (l:=wj) (n:=0) (by omega);generalize wj[0]'(by omega)=bx at hx0 hbx hbm
   have lw:aj O E.get 180 (.pointer (U ⟨k0+2,0+2,V⟩))=.ok w:=r1.ld rfl mY rfl;obtain⟨dd,hd1,hd2⟩:=cF (t:=188) (p:=ae) (by kernel_rfl);have j1:=hS.idx (tb:=O) (st:=180) (i:=0) mY ve (by omega);have j2:=hS.cg (tb:=O) hd1 hd2 ve hwx;have hone:∀v∈dy x0 o,bS v=ae:=by
    intro v hv;simp only[dy,cG,eC,or_false]at hv;rcases hv with rfl|rfl|rfl|rfl
    .exact(aq.dQ hx0.1).2
    all_goals rfl
   have sF:cm O (E.alloc (af 188 [.slice V 0 0,.bool ag,.int .u64 (0:Nat),.int .u8 (0:Nat)])) 188 (.pointer (U ⟨E.next,0,V⟩)) (.agg ⟨dy x0 o⟩)=.ok (E.alloc (af 188 (dy x0 o))):=fP ve rfl rfl (by simp) hone;have kF:=Kp.alloc E (af 188 (dy x0 o));have vF:=aQ E 188 (dy x0 o);have nF:(E.alloc (af 188 (dy x0 o))).next=E.next+1:=aG _ _
   generalize E.alloc (af 188 (dy x0 o))=F at sF kF vF nF;obtain⟨v,G,⟨g4,h4⟩,rfl,vG,hxG,nG,fG⟩:=SD vF (hx0.1.same kF.1 (kF.2 bx)) i6 (by omega) ⟨i5.1,λ a ha=>(i5.2 a ha).1⟩;have fEG:∀z,z<E.next->(o.arcs≠ []->z≠bx)->G.get z=E.get z:=λ z hz hh=>by rw[fG z (by omega) (by omega) hh,kF.2 z hz]
   have ne0:o.arcs≠ []->o.arcs.map bP≠ []:=λ hh e=>hh (gu.1 e)
   have hRG:rA G 182 3 (k0+2) k0 b1 [w] (M.map eU) rows y:=⟨⟨by have:=r1.1;omega,r1.2.same (fEG _ r1.1 λ hh=>aq.iA hx0.1 r1 (by decide) (ne0 hh))⟩,⟨by omega,by rw[fEG k0 r2 λ hh=>aq.dP hx0.1 r3 (ne0 hh)];exact r3⟩,aq.jb r4 r6 (by omega) λ hr hb=>fEG b1 hb λ hh=>y5 r4 hx0.1 hr (ne0 hh) (by decide),r5,r6⟩;obtain⟨v2,H,⟨g5,h5⟩,rfl,b2,y2,rows2,hRH,hcase,hb2,nH,fH⟩:=Ss (by decide) hRG ⟨bx,hxG⟩ (Jw i5) (λ s hs=>(i4 s hs).1) (by simpa[du]using (show Z o.arcs<=256 by omega)) (by omega);have vP:dp G 188 E.next (.var 4) (aS x0 (du o)):=by
    obtain⟨cc,a1,a2⟩:=vG.2;refine⟨cc,a1,λ j hj=>?_⟩;rw[a2 j (by simp[aS,dy]at hj⊢;omega)];have:dy x0 ⟨o.fin,(du o).out,(du o).arcs,o.by'⟩=aS x0 (du o)++[.int .u8 (o.by'.toNat:Nat)]:=rfl;rw[this,fe hj]
   obtain⟨d4,hd4,hd5⟩:=cF (t:=186) (p:=ae) (by kernel_rfl);have lP:aj O G.get 186 (.pointer (U ⟨E.next,0,V⟩))=.ok (.agg ⟨aS x0 (du o)⟩):=cg hd4 hd5 (l:=aS x0 (du o)) gV vP;have ly:aj O H.get 112 (.pointer (U ⟨k0+2,0,V⟩))=.ok y2:=hRH.1.ld rfl eg rfl;have hb1:rows≠ []->b1<E.next:=λ _=>n6
   have vAE:VB E 115 A.next (.var 2) [.slice V 0 0,.int .u64 (0:Nat)]:=⟨by omega,vB.2.same (by rw[fE A.next (by omega),fD A.next (by omega),kC.2 A.next (by omega)])⟩
   have vAH:VB H 115 A.next (.var 2) [.slice V 0 0,.int .u64 (0:Nat)]:=⟨by omega,vAE.2.same (by rw[fH A.next (by omega) (by omega) (by omega) λ _ e=>n3 (by omega),fEG A.next (by omega) λ _ e=>n5 _ hbm (by omega)])⟩
   have hy2:∃a m c,y2=.slice a m c:=by
    rcases hRH.2.2.1 with⟨rfl,-⟩|⟨_,_,rfl,-⟩<;>exact⟨_,_,_,rfl⟩
   obtain⟨J,sJ,vJ,nJ,fJ⟩:=ku (tb:=O) (t:=115) (l':=[y2,.int .u64 (ew o:Nat)]) (by exact gF) vAH.2 rfl (by simp) (by
    intro v hv;simp only[cG,eC,or_false]at hv;obtain⟨_,_,_,rfl⟩:=hy2;rcases hv with rfl|rfl<;>rfl)
   obtain⟨d5,hd6,hd7⟩:=cF (t:=115) (p:=ae) (by kernel_rfl);have lJ:aj O J.get 115 (.pointer (U ⟨A.next,0,V⟩))=.ok (.agg ⟨[y2,.int .u64 (ew o:Nat)]⟩):=cg hd6 hd7 (l:=[y2,.int .u64 (ew o:Nat)]) gF vJ;have bd:eu O 115 [(0,y2),(1,.int .u64 (ew o:Nat))]=.ok (.agg ⟨[y2,.int .u64 (ew o:Nat)]⟩):=by
    obtain⟨_,_,_,rfl⟩:=hy2;exact Mw
   simp only[pV]at g2 g6 h3 h4;have z214':=UM;apply W.ic (g3)
   .intro M hM _;simp(disch:=first|decide+kernel|omega)only[jr,pR,Aq,aa,g6,h3,cQ,bA,br,yL,lw,j1,j2,z214',a7,sF];rfl
   apply W.ic (g4+g5)
   .intro M hM _;simp(config:={maxSteps:=4000000})(disch:=first|decide+kernel|omega|simp only[Wq,aa])only[jr,pR,Aq,aa,h4,av,reduceIte,ak,g6,bA,br,Jl,uH,lP,h5,Fq,bQ []];rfl
   apply W.run 40
   .intro M;simp(disch:=first|decide+kernel|omega)only[jr,pR,Aq,aa,g2,g6,bA,br,Jl,CH,ly,bd,sJ];rfl
   have far:∀{l:List cr} {q:Nat} {x:I},lu E q l x->q≠bx->gd J l x:=λ {l q x} hq hne=>⟨q,(hq.same (G:=J) (by omega) λ hh hlt=>by rw[fJ q (Ne.symm (aq.iA hq.1 vAE (by decide) hh)),fH q (by omega) (Ne.symm (aq.iA hq.1 r1 (by decide) hh)) (Ne.symm (aq.dP hq.1 r3 hh)) λ hr=>y5 hq.1 r4 hh hr (by decide),fEG q hlt λ _=>hne]).1⟩
   have old:∀(i:Nat) (s:aw),M[i]?=U s->∃x,rows[i]?=U (aS x s)/\gd J s.arcs x:=λ i s hs=>by
    obtain⟨x1,q,e1,e2,e3,e4⟩:=q4 i s hs;exact⟨x1,e1,far e2 λ e=>e3 (e▸hbm)⟩
   have hdoc:dx l=(eP M (du o)).1:=by unfold dx;rw[<-hNu]
   refine⟨by simp,rfl,_,(by simp only[pR,g2,lJ,Aq,aa]<;>rfl),⟨y2,by rw[hLe],b2,rows2,aq.jb hRH.2.2.1 hRH.2.2.2.2 (by show H.next<=J.next;omega) λ hr _=>fJ b2 (Ne.symm (aq.iA hRH.2.2.1 vAH (by decide) hr)),by rw[hdoc,hRH.2.2.2.1,bc],λ i s hs=>?_⟩,by show A.next<=J.next;omega,λ z hz=>?_⟩
   .show∃x,rows2[i]?=U (aS x s)/\gd J s.arcs x;rw[hdoc]at hs;rcases hcase with⟨rfl,hM2⟩|⟨rfl,hM2⟩
    .rw[hM2]at hs;exact old i s hs
    .rw[hM2]at hs;rcases ec i (Z M)with hi|hi
     .rw[fe hi]at hs;obtain⟨x1,e1,e2⟩:=old i s hs;exact⟨x1,by rw[fe (bU.1 e1).1];exact e1,e2⟩
     .rw[eV hi]at hs;obtain⟨e,rfl⟩:i=Z M/\du o=s:=by
       cases hq:i-Z M with
       |zero=>rw[hq]at hs;exact⟨by omega,by simpa using hs⟩
       |succ n=>rw[hq]at hs;simp at hs
      refine⟨x0,by rw[eV (by rw[r5,bc];exact hi),r5,bc,e,iQ];rfl,bx,(lu.same (A:=G) ⟨hxG,λ e=>hx0.2 (gu.1 e)⟩ (by omega) λ hh hlt=>?_).1⟩;have hh0:o.arcs.map bP≠ []:=λ e=>hh (by simpa[du]using e)
      rw[fJ bx (Ne.symm (aq.iA hx0.1 vAE (by decide) hh0)),fH bx hlt (Ne.symm (aq.iA hx0.1 r1 (by decide) hh0)) (Ne.symm (aq.dP hx0.1 r3 hh0)) λ hr=>y5 hx0.1 r4 hh0 hr (by decide)]
   .show J.get z=A.get z;rw[fJ z (by omega),fH z (by omega) (by omega) (by omega) λ _ e=>n3 (by omega),fEG z (by omega) λ _ e=>n5 _ hbm (by omega),fE z (by omega),fD z (by omega),kC.2 z (by omega),kB.2 z (by omega),kA.2 z hz]
 .simp only[Sq,aa,ak,pV,uO,zz,List.getLast?_nil,Hx,Option.getD_none]
def qeZ{l:List aK}{x:I}(h:dz A l x)(ha:¬dk l)(hw:∀e∈l,1<=Z e.word/\Z e.word<=255)(hl:Z l<1000000):
 ∃v A',az O 63 [x] A v A'/\LP v/\Kp A A':=by
 have kB:=Kp.alloc A (af 115 [.slice V 0 0,uN 0]);have vB:=aQ A 115 [.slice V 0 0,uN 0];obtain⟨v,C,⟨g1,hg1⟩,⟨ca,ce,rfl,-,hce⟩,kC⟩:=Sm (h.kp kB) hw hl;obtain rfl:=hce ha;obtain⟨E,sE,lE,nE,fE⟩:=To (B:=A) (vB.kp kC);generalize hB:A.alloc (af 115 [.slice V 0 0,uN 0])=B at kB vB hg1 kC;have kA:=kB.trans kC;refine⟨_,E,?_,rfl,⟨by have:=kA.1;omega,λ z hz=>by rw[fE z (by omega),kA.2 z hz]⟩⟩;refine bX (g1) 60 (aD Tryz.func63) (by kernel_rfl) λ M hM=>?_
 simp(disch:=first|decide+kernel|omega)only[pR,Aq,aa,vf,a7,hB,hg1,c7,dc,Mx,sE,lE]<;>rfl
def qiW:dj O 315=.ok (.agg ⟨gQ [] 9 0⟩):=UI
def qh0:O.aB 313=U (.array 9 5):=Ug
def Y6:bK O 315 (pw b 0) 0=.ok (pw b 0):=by kernel_rfl
def Y7:bK O 315 (pw b 0) 1=.ok (pw b 9):=by kernel_rfl
variable {i:Nat}
def qgR(h:i<=9):iL O 313 (pw b 0) V (U (.int .i64 i)) V=.ok (.slice (U ⟨b,0,V⟩) i 18):=by
 have e1:bound (U (.int .i64 i)) 9 9=.ok i:=zT h;have e0:bound V 0 i=.ok 0:=rfl;unfold iL;simp only[qh0,e1,R.aW,(show bk O 5=.ok 1 from xr),e0];rfl
def rP:=cu yd
def IB:aH:=sub rP [1,1,0,1,0,0]
def Xg:yd.body=U (.seq (sub rP [0]) (.seq (sub rP [1,0]) (.seq (.seq (sub rP [1,1,0,0]) (.block 0 (.loop IB))) (.seq (sub rP [1,1,1,0]) (sub rP [1,1,1,1]))))):=by kernel_rfl
def qfV{l:List Nat}{x:I}(h:sT A l x)(hl:Z l<1000)(hw:∀n∈l,n<18446744073709551616):∃v A',az O 178 [x] A v A'/\v=ai (ia l)/\Kp A A':=by
 refine cZ (aD Tryz.func178) Xg (by kernel_rfl) ?_;have hlen:=h.len;apply W.q2
 .intro M _;simp(disch:=first|decide+kernel|omega)only[rP,yd,Aq,aa];rfl
 apply W.seq;apply W.q
 .intro M;simp(disch:=first|decide+kernel|omega)only[rP,yd,Aq,aa,hlen];rfl
 apply W.block;refine W.up (Z l) (λ i t D=>Kp A D/\∃y b,eS D 5 b (c6 (ia (l.take i))) y/\A.next<=b/\Sl t [(3,y),(7,x),(8,iN (Z l)),(9,.int .i64 i)]) ?_ (a8 _) ⟨Kp.refl _,.slice V 0 0,A.next,.inl ⟨rfl,rfl⟩,aI _,?_⟩
 .rintro i t D hi ⟨kD,y,b,hs,hb,g3,g7,g8,g9,-⟩;by_cases hlt:i<Z l
  .have he:l[i]?=U l[i]:=aZ hlt;have hn:=hw _ (ff hlt);obtain⟨p,j1,j2⟩:=(h.kp kD).at he;have k1:=λ ih=>qaE (ih:=ih) (A:=D) hn
   have hle:=Kk (l.take (i+1)) λ n hn=>hw n (zw hn)
   rw[df,QK he]at hle;have h9:=P2 hn;have hlb:=F5 l[i];have hT:=QK he;generalize l[i]=n at*;have sE:cm O (D.alloc (af 315 (gQ [] 9 0))) 315 (pw D.next 0) (.agg ⟨jw n⟩)=.ok (D.alloc (af 315 (jw n))):=
    have t0:=Au (w:=((iY n:Nat):Int)) (show(bL n).length+(9-iY n)=9 by omega)
    fP (by rw[show(jw n).length=10 from t0.1];kernel_rfl) rfl (by rw[show(jw n).length=10 from t0.1];rfl) (by intro e;cases e) t0.2
   have kE:=Kp.alloc D (af 315 (jw n));have vE:=aQ D 315 (jw n);generalize hE:D.alloc (af 315 (jw n))=E at sE kE vE;have l3:aj O E.get 3 (pw D.next 9)=.ok (iN (iY n)):=vE.ld (PW hn) u3 rfl;have vP:dp E 315 D.next (.var (jw n).length) (c6 (bL n)):=by
    obtain⟨c,q1,q2⟩:=vE.2;refine⟨c,q1,λ j hj=>?_⟩;rw[q2 j (by unfold jw gQ;simp only[aY];omega)];unfold jw gQ;rw[iC,fe hj]
   have hf:jJ E.get 1 (iY n) (.slice (U ⟨D.next,0,V⟩) (iY n) 18)=.ok (c6 (bL n)):=by
    have:=Aa vP;rw[iS,hlb]at this;exact this
   obtain⟨ti,t1,t2⟩:=GK;obtain⟨y',F,b',e1,e2,e3,e4,e5⟩:=eS.wi (tb:=O) (st:=74) (xt:=74) (hs.same kE.1 (λ hb=>kE.2 b hb)) jS jS rfl G6 t1 (by omega) (by omega) (by rw[iS];rw[aY]at hle;omega) (y:=.slice (U ⟨D.next,0,V⟩) (iY n) 18) rfl hf (by rw[iS,hlb]) (λ v hv=>by
    obtain⟨_,-,rfl⟩:=eH.1 hv;rfl)
   rw[show c6 (ia (l.take i))++c6 (bL n)=c6 (ia (l.take (i+1))) by rw[hT];unfold c6;rw[gg]]at e2;have kF:Kp A F:=⟨by have:=kD.1;have:=kE.1;omega,λ z hz=>by
    have:=kD.1;rw[e5 z (λ e=>by omega) (by have:=kE.1;omega),kE.2 z (by omega),kD.2 z hz]⟩
   apply W.run 20
   .intro M;simp(disch:=first|decide+kernel|omega)only[IB,rP,yd,Aq,aa,g3,g7,g8,g9,hlt,j1,j2,k1,qiW,a7,hE,sE,Y6,Y7,l3,qgR,h9,e1];rfl
   refine⟨hlt,_,F,rfl,kF,y',b',e2,by have:=kD.1;have:=kE.1;omega,?_⟩;simp only[Sq,aa,ak,g7,g8]
  .have e:i=Z l:=by omega
   subst e;rw[dU]at hs;have cs:gO O D.get 74 9 y=.ok (ai (ia l)):=Dt hs;apply W.run 20
   .intro M;simp(disch:=first|decide+kernel|omega)only[IB,rP,yd,Aq,aa,g8,g9,hlt];rfl
   apply W.run 40
   .intro M;simp(disch:=first|decide+kernel|omega)only[rP,yd,Aq,aa,g3,cs,C7];rfl
   exact⟨by simp,rfl,_,(by simp only[yd,Aq,aa]<;>rfl),rfl,kD⟩
 .simp only[Sq,aa,ak]
def tp:=cu yc
def IA:aH:=sub tp [1,0,1,0,0]
def Xe:yc.body=U (.seq (sub tp [0]) (.seq (.seq (sub tp [1,0,0]) (.block 0 (.loop IA))) (.seq (sub tp [1,1,0]) (sub tp [1,1,1])))):=by kernel_rfl
variable {M:List aw}{y:I}{k:Nat}
def qd9(h:dA A M y)(hl:Z M<1000000)(hL:Lay M):∃v A',az O 177 [.agg ⟨[y,.int .u64 k]⟩] A v A'/\(∃n:Nat,v=.tuple ⟨[iN (Z M),.int .i64 n]⟩)/\Kp A A':=by
 refine cZ (aD Tryz.func177) Xe (by kernel_rfl) ?_;have kB:=Kp.alloc A (af 115 [y,.int .u64 k]);have vB:=aQ A 115 [y,.int .u64 k];have hy:=h.self;apply W.q
 .intro M;simp(disch:=omega)only[tp,yc,Aq,aa,a7];rfl
 have hB:=h.kp kB;generalize A.alloc (af 115 [y,.int .u64 k])=B at kB vB hB;have ly:=λ D hD=>(vB.kp (A':=D) hD).l0 eg rfl
 have lB:=ly B (Kp.refl _);have cd:=hB.len;apply W.seq;apply W.q
 .intro M;simp(disch:=decide+kernel)only[tp,yc,Aq,aa,gi,lB,cd];rfl
 apply W.block;refine W.up (Z M) (λ i t D=>Kp B D/\∃n,n<=256*i/\Sl t [(1,pw A.next 0),(3,iN n),(7,y),(8,iN (Z M)),(9,.int .i64 i)]) ?_ (a8 _) ⟨Kp.refl _,0,aI _,?_⟩
 .rintro i t D hi ⟨kD,n,hn,g1,g3,g7,g8,g9,-⟩;have lD:=ly D kD;have hD:=hB.kp kD;have lenD:=hD.len;by_cases hlt:i<Z M
  .have hMi:=aZ hlt;obtain⟨l1,-⟩:=hL i _ hMi;obtain⟨x,p,j1,j2,hx,-⟩:=hD.at hMi;generalize M[i]=s at*;have sE:=xC hx;have kE:=Kp.alloc D (af 186 (aS x s));have vE:=aQ D 186 (aS x s);generalize D.alloc (af 186 (aS x s))=E at sE kE vE;have a0:=vE.l0 f_ rfl;have lx:=(hx.kp kE).len;have ad:a_ .add .i64 ((n:Nat):Int) ((Z s.arcs:Nat):Int)=.ok (iN (n+Z s.arcs)):=e_ (ct (by omega));apply W.run 20
   .intro M;simp(disch:=first|decide+kernel|omega)only[IA,tp,yc,Aq,aa,g3,g7,g8,g9,hlt,j1,j2,rh,a7,sE,eT,a0,lx,ad];rfl
   refine⟨hlt,_,_,rfl,kD.trans kE,n+Z s.arcs,by omega,?_⟩;simp only[Sq,aa,ak,g1,g7,g8]
  .have e:i=Z M:=by omega
   subst e;apply W.run 20
   .intro M;simp(disch:=decide+kernel)only[IA,tp,yc,Aq,aa,g8,g9,hlt];rfl
   apply W.run 40
   .intro M;simp(disch:=decide+kernel)only[tp,yc,Aq,aa,g1,g3,gi,lD,lenD];rfl
   exact⟨by simp,rfl,_,(by simp only[yc,Aq,aa]<;>rfl),⟨n,rfl⟩,kB.trans kD⟩
 .simp only[Sq,aa,ak]
def Vg(a:cr):∀v∈bP a,bS v=ae:=by
 intro v hv;simp only[bP,cG,eC,or_false]at hv;rcases hv with rfl|rfl|rfl<;>rfl
def Tq{D:Mem}(a:cr):cm O (D.alloc (af 246 [bN 0,uN 0,iN 0])) 246 (pw D.next 0) (.agg ⟨bP a⟩)=.ok (D.alloc (af 246 (bP a))):=fP xH rfl rfl (by simp) (Vg a)
def UJ:dj O 246=.ok (.agg ⟨[bN 0,uN 0,iN 0]⟩):=by kernel_rfl
def jm:=cu mB
def j6:aH:=sub jm [1,1,1,0,1,0,0]
def Iq:aH:=sub j6 [1,1,0,0,1,1,1,0,0]
def WR:mB.body=U (.seq (sub jm [0]) (.seq (sub jm [1,0]) (.seq (sub jm [1,1,0]) (.seq (.seq (sub jm [1,1,1,0,0]) (.block 0 (.loop j6))) (.seq (sub jm [1,1,1,1,0]) (sub jm [1,1,1,1,1])))))):=by kernel_rfl
def M1:j6=(.seq (sub j6 [0]) (.seq (sub j6 [1,0]) (.seq (.block 1 (.seq (sub j6 [1,1,0,0,0]) (.seq (sub j6 [1,1,0,0,1,0]) (.seq (sub j6 [1,1,0,0,1,1,0]) (.block 2 (.loop Iq)))))) (sub j6 [1,1,1])))):=by kernel_rfl
variable {n:Nat}
def qe5(h:dA A M y)(hM:M≠ [])(hn:n<=100000)(hl:Z M<1000000)(hL:Lay M):∃v A',az O 120 [.int .i64 n,.agg ⟨[y,.int .u64 k]⟩] A v A'/\v=.bool ae/\Kp A A':=by
 refine cZ (aD Tryz.func120) WR (by kernel_rfl) ?_;have kB:=Kp.alloc A (af 115 [y,.int .u64 k]);have vB:=aQ A 115 [y,.int .u64 k];have hy:=h.self;apply W.q
 .intro M;simp(disch:=omega)only[jm,mB,Aq,aa,a7];rfl
 have hB:=h.kp kB;generalize A.alloc (af 115 [y,.int .u64 k])=B at kB vB hB;obtain⟨d,hd1,hd2⟩:=cF (p:=ae) (by kernel_rfl);have lA:aj O B.get 115 (.pointer (U ⟨A.next,0,V⟩))=.ok (.agg ⟨[y,.int .u64 k]⟩):=cg hd1 hd2 gF vB.2;obtain⟨v,C,⟨g,hg⟩,⟨na,rfl⟩,kC⟩:=qd9 (k:=k) hB hl hL;have hC:=hB.kp kC;have ly:∀D,Kp C D->aj O D.get 112 (.pointer (U ⟨A.next,0,V⟩))=.ok y:=λ D hD=>(vB.kp (kC.trans hD)).ld rfl eg rfl
 have lC:=ly C (Kp.refl _);have lenC:=hC.len;have hM1:¬Z M=0:=λ e=>hM (eN.1 e)
 have hn1:¬100000<n:=by omega
 apply W.ic (g)
 .intro M hM _;simp(config:={maxSteps:=4000000})(disch:=first|decide+kernel|omega|simp only[Wq,aa])only[jm,mB,Aq,aa,lA,hg,c7,dc,av,reduceIte,ak,hM1,hn1,dM,dK];rfl
 apply W.seq;apply W.q
 .intro M;simp(disch:=first|decide+kernel|omega)only[jm,mB,Aq,aa,gi,lC,lenC];rfl
 apply W.block;refine W.up (Z M) (λ i t D=>Kp C D/\Sl t [(27,y),(28,.int .i64 (Z M:Nat)),(29,.int .i64 i)]) ?_ (a8 _) ⟨Kp.refl _,?_⟩
 .rintro i t D hi ⟨kD,g27,g28,g29,-⟩;have hD:=hC.kp kD;by_cases hlt:i<Z M
  .have hMi:M[i]?=U M[i]:=aZ hlt;obtain⟨l1,l2,l3,l4⟩:=hL i _ hMi;obtain⟨x,p,j1,j2,hx,-⟩:=hD.at hMi;generalize M[i]=s at*;have sE:=xC hx;have kE:=Kp.alloc D (af 186 (aS x s));have vE:=aQ D 186 (aS x s);generalize D.alloc (af 186 (aS x s))=E at sE kE vE;have a0:aj O E.get 184 (.pointer (U ⟨D.next,0,V⟩))=.ok x:=vE.ld rfl f_ rfl;have a1:aj O E.get 4 (.pointer (U ⟨D.next,0+1,V⟩))=.ok (.bool s.fin):=vE.ld rfl u4 rfl;have a2:aj O E.get 113 (.pointer (U ⟨D.next,0+2,V⟩))=.ok (.int .u64 s.out):=vE.ld rfl dH rfl;have hxE:=hx.kp kE;have lx:=hxE.len;have hl1:¬256<Z s.arcs:=by omega
   rw[M1];apply W.q2
   .intro M _;simp(disch:=first|decide+kernel|omega)only[j6,jm,mB,Aq,aa,g28,g29,hlt];rfl
   apply W.seq;apply W.block;apply W.q
   .intro M;simp(disch:=first|decide+kernel|omega)only[j6,jm,mB,Aq,aa,g27,g29,j1,j2,rh,a7,sE];rfl
   apply W.seq;refine W.to (n:=66) (λ t D'=>D'=E/\Sl t [(7,.int .i64 i),(8,.pointer (U ⟨D.next,0,V⟩)),(27,y),(28,.int .i64 (Z M:Nat)),(29,.int .i64 i)]) ?_ ?_
   .cases hf:s.fin with
    |true=>
     rw[hf]at a1;apply W.run 20
     .intro M;simp(config:={maxSteps:=4000000})(disch:=first|decide+kernel|omega|simp only[Wq,aa])only[j6,jm,mB,Aq,av,reduceIte,aa,ak,eT,fV,a0,a1,lx,hl1,dM,dK];rfl
     refine⟨rfl,_,_,rfl,rfl,?_⟩;simp only[Sq,aa,ak,g27,g28,g29]
    |false=>
     rw[hf]at a1;have ho:=l2 hf;rw[ho]at a2;apply W.run 20
     .intro M;simp(config:={maxSteps:=4000000})(disch:=first|decide+kernel|omega|simp only[Wq,aa])only[j6,jm,mB,Aq,av,reduceIte,aa,ak,eT,fV,nT,a0,a1,a2,lx,hl1,dM,dK];rfl
     refine⟨rfl,_,_,rfl,rfl,?_⟩;simp only[Sq,aa,ak,g27,g28,g29]
   .rintro t D' ⟨rfl,g7,g8,g27,g28,g29,-⟩;apply W.seq;apply W.run 20
    .intro M;simp(disch:=first|decide+kernel|omega)only[j6,jm,mB,Aq,aa,g8,eT,a0,lx];rfl
    apply W.block;refine W.up (Z s.arcs) (λ j t D''=>Kp D' D''/\Sl t [(7,.int .i64 i),(27,y),(28,.int .i64 (Z M:Nat)),(29,.int .i64 i),(49,x),(50,.int .i64 (Z s.arcs:Nat)),(51,.int .i64 j)]) ?_ (a8 _) ⟨Kp.refl _,?_⟩
    .rintro j t F hj ⟨kF,g7,g27,g28,g29,g49,g50,g51,-⟩;by_cases hlt2:j<Z s.arcs
     .have hsj:s.arcs[j]?=U s.arcs[j]:=aZ hlt2;obtain⟨q,q1,q2⟩:=(hxE.kp kF).at hsj;have ht:=(l4 _ (ff hlt2)).1;have ht2:¬i<=s.arcs[j].to:=by omega
      have sG:=Tq (D:=F) s.arcs[j];have kG:=Kp.alloc F (af 246 (bP s.arcs[j]));have vG:=aQ F 246 (bP s.arcs[j]);generalize F.alloc (af 246 (bP s.arcs[j]))=G at sG kG vG;have b2:aj O G.get 3 (.pointer (U ⟨F.next,0+2,V⟩))=.ok (.int .i64 (s.arcs[j].to:Int)):=vG.ld rfl u3 rfl;apply W.run 20
      .intro M;simp(config:={maxSteps:=4000000})(disch:=first|decide+kernel|omega|simp only[Wq,aa])only[Iq,j6,jm,mB,Aq,av,reduceIte,aa,ak,g7,g49,g50,g51,hlt2,q1,q2,UJ,a7,sG,tG,b2,iZ,gA,ht2];rfl
      refine⟨hlt2,_,_,rfl,kF.trans kG,?_⟩;simp only[Sq,aa,ak,g7,g27,g28,g29,g49,g50]
     .have e:j=Z s.arcs:=by omega
      subst e;apply W.run 20
      .intro M;simp(disch:=first|decide+kernel|omega)only[Iq,j6,jm,mB,Aq,aa,g50,g51,hlt2];rfl
      show W O (sub j6 [1,1,1]) _ _;apply W.run 20
      .intro M;simp(disch:=first|decide+kernel|omega)only[j6,jm,mB,Aq,aa,g29];rfl
      refine⟨hlt,_,_,rfl,kD.trans (kE.trans kF),?_⟩;simp only[Sq,aa,ak,g27,g28]
    .simp only[Sq,aa,ak,g7,g27,g28,g29]
  .have e:i=Z M:=by omega
   subst e;rw[M1];apply W.q
   .intro M;simp(disch:=first|decide+kernel|omega)only[j6,jm,mB,Aq,aa,g28,g29,hlt];rfl
   apply W.seq;apply W.run 20
   .intro M;simp(disch:=first|decide+kernel|omega)only[j6,jm,mB,Aq,aa];rfl
   apply W.seq;apply W.run 20
   .intro M;simp(disch:=first|decide+kernel|omega)only[jm,mB,Aq,aa];rfl
   apply W.run 20
   .intro M;simp(disch:=first|decide+kernel|omega)only[jm,mB,Aq,aa];rfl
   exact⟨by simp,rfl,_,(by simp only[mB,Aq,aa]<;>rfl),rfl,kB.trans (kC.trans kD)⟩
 .simp only[Sq,aa,ak]
def Wr(A:Mem)(p b:Nat)(w:List UInt8)(y:I)(k:Nat):Prop:=∃x,VB A 195 p (.var 3) [x,y,.int .u64 k]/\mA A 5 b (c6 w) x/\b≠p/\(w≠ []->b<A.next)
variable {o:Nat}
def Fu:bK O 193 (pw b o) 0=.ok (pw b o):=by kernel_rfl
def yM:bK O 195 (pw b o) 0=.ok (pw b o):=by kernel_rfl
def Y1:bK O 195 (pw b o) 1=.ok (pw b (o+1)):=by kernel_rfl
variable {l:List I}
def mA.dD{e:au}{x:I}(h:mA A e b l x):Am.dD 100 x x=ae:=by
 rcases h with⟨rfl,-⟩|⟨-,rfl,-⟩
 .rfl
 .exact AP _ _ _ _
variable {B:Mem}{p:Nat}{w:List UInt8}
def Wr.more{cs:List UInt8}{z:I}{xt:au}{xd:TypeDesc}(h:Wr A p b w y k)(kB:Kp A B)(hxt:O.aB xt=U xd)(hxd:kh xd=ag)(h0:0<Z cs)(hl:Z w+Z cs<16000000)(hz:gj z=.ok (Z cs))(hf:jJ B.get 1 (Z cs) z=.ok (c6 cs)):
 ∃x x' C D,(∀E:Mem,A.next<=E.next->E.get p=A.get p->aj O E.get 74 (pw p 0)=.ok x)/\Am.dD 100 x x=ae/\dJ O B 74 xt x z=.ok (x',C)/\cm O C 74 (pw p 0) x'=.ok D/\Wr D p B.next (w++cs) y k/\Grow p b A B.next D:=by
 obtain⟨x,hV,hS,hbp,hbn⟩:=h;obtain⟨ti,t1,t2⟩:=GK;obtain⟨x',C,e1,e2,e3,e4⟩:=(hS.same kB.1 (kB.2 b)).wi jS hxt hxd G6 t1 (by omega) (by omega) (by rw[iS];omega) h0 hz hf (iS cs) (λ v hv=>by
  obtain⟨_,-,rfl⟩:=eH.1 hv;rfl)
 have hp:=hV.1;have hn:=kB.1;obtain⟨D,sD,vD,nD,fD⟩:=db (o:=0) MT ((hV.kp kB).2.same (e4 p (Ne.symm hbp) (by omega))) (by simp) e2.dZ.cells e2.dZ.one;refine⟨x,x',C,D,λ E hn hE=>VB.ld ⟨c9 hp hn,hV.2.same hE⟩ rfl jS rfl,hS.dD,e1,sD,⟨x',⟨by omega,vD⟩,?_,by omega,λ _=>by omega⟩,⟨by omega,by omega,λ z hz h1 h2=>by rw[fD z h1,e4 z h2 (by omega),kB.2 z hz]⟩⟩;rw[Ia];exact e2.same (by omega) λ _=>fD _ (by omega)
def qf1{x:I}{l:List Nat}(h:Wr A p b w y k)(hN:sT A l x)(hl:Z l<1000)(h0:l≠ [])(hw:∀n∈l,n<18446744073709551616)(hwl:Z w<1000000):
 ∃v D b',az O 121 [pw p 0,x] A v D/\v=cQ/\Wr D p b' (w++ia l) y k/\Grow p b A b' D:=by
 obtain⟨v,B,⟨g,hg⟩,rfl,kB⟩:=qfV hN hl hw;have hp:p<A.next:=by obtain⟨_,hV,-⟩:=h;exact hV.1
 have hle:=Kk l hw;have hpos:0<(ia l).length:=by
  obtain⟨n,r,rfl⟩:=Hi h0;have:=Kj n;unfold ia;rw[mr,aY];omega
 obtain⟨z,z',C,D,e1,e2,e3,e4,e5,e6⟩:=h.more kB u9 rfl hpos (by omega) (MO _) HW;have l1:=e1 A (aI _) rfl;have l2:=e1 B kB.1 (kB.2 p hp);refine⟨cQ,D,_,?_,rfl,e5,e6⟩;refine bX (g) 60 (aD Tryz.func121) (by kernel_rfl) λ M hM=>?_
 simp(disch:=first|decide+kernel|omega|simp only[Wq,aa])only[Tryz.f121,Aq,av,reduceIte,aa,ak,bA,br,Fu,l1,l2,hg,e2,e3,e4,cQ,Fq,bQ [(4,6)]]<;>rfl
def qbV(A:Mem)(l:List Nat):sT (A.alloc (af 113 (l.map λ n:Nat=>Value.int .u64 n))) l (.slice (U ⟨A.next,0,V⟩) (Z l) (2*Z l)):=by
 refine⟨A.next,.inr ⟨.var (Z l),2*Z l,by rw[bc],by rw[aG];omega,?_,λ c hc=>by obtain⟨_,-,rfl⟩:=eH.1 hc;rfl,.inl (by rw[bc])⟩⟩;have:=xF A 113 (l.map λ n:Nat=>Value.int .u64 n);rw[bc]at this;have e:∀l:List Nat,(l.map C6).flatten=l.map λ n:Nat=>Value.int .u64 n:=λ l=>by
  induction l with
  |nil=>rfl
  |cons n l ih=>rw[lK,vq,ih];rfl
 rw[e];exact this
def Wr.kp(h:Wr A p b w y k)(kB:Kp A B):Wr B p b w y k:=by
 obtain⟨x,h1,h2,h3,h4⟩:=h;exact⟨x,h1.kp kB,h2.same kB.1 (kB.2 b),h3,λ h=>c9 (h4 h) kB.1⟩
def Dl(l:List Nat)(h:Wr A p b w y k)(hl:Z l<1000)(h0:l≠ [])(hw:∀n∈l,n<18446744073709551616)(hwl:Z w<1000000):
 ∃D b',az O 121 [pw p 0,.slice (U ⟨A.next,0,V⟩) (Z l) (2*Z l)] (A.alloc (af 113 (l.map λ n:Nat=>Value.int .u64 n))) cQ D/\Wr D p b' (w++ia l) y k/\Grow p b A b' D:=by
 have kB:=Kp.alloc A (af 113 (l.map λ n:Nat=>Value.int .u64 n));obtain⟨v,D,b',h1,rfl,h3,h4⟩:=qf1 (h.kp kB) (qbV A l) hl h0 hw hwl;exact⟨D,b',h1,h3,⟨dm kB.1 h4.n,dm kB.1 h4.r,λ z hz e1 e2=>by rw[h4.g z (c9 hz kB.1) e1 e2,kB.2 z hz]⟩⟩
variable {b':Nat}
def Grow.kp{A0:Mem}(h:Grow p b A b' B)(k:Kp A0 A)(hp:A0.next<=p)(hb:A0.next<=b):Kp A0 B/\A0.next<=b':=⟨⟨dm k.1 h.n,λ z hz=>by rw[h.g z (c9 hz k.1) (by omega) (by omega),k.2 z hz]⟩,dm k.1 h.r⟩
def MP{a:Int}:eO O 251 1 [(0,.int .u64 a)]=.ok (af 113 [.int .u64 a],.dZ 1 2):=by kernel_rfl
def H2{a b:Int}:eO O 251 2 [(0,.int .u64 a),(1,.int .u64 b)]=.ok (af 113 [.int .u64 a,.int .u64 b],.dZ 2 4):=by kernel_rfl
def dA.Vl{s:aw}(h:dA A M y)(hi:M[i]?=U s):
 ∃x p,eE O 112 y (.int .i64 i)=.ok p/\∀A',Kp A A'->aj O A'.get 186 p=.ok (.agg ⟨aS x s⟩)/\gd A' s.arcs x:=by
 obtain⟨b,rows,h1,h2,h3⟩:=h;obtain⟨x,e1,e2⟩:=h3 i s hi;obtain⟨d,hd1,hd2⟩:=cF (by kernel_rfl);exact⟨x,_,aq.idx h1 eg gV (bU.1 e1).1,λ A' k=>⟨aq.cg (h1.same k.1 (k.2 b)) hd1 hd2 gV e1,e2.kp k⟩⟩
def pk:=cu sY
def Ir:aH:=sub pk [1,1,1,1,0,0]
def WS:sY.body=U (.seq (sub pk [0]) (.seq (sub pk [1,0]) (.seq (.seq (sub pk [1,1,0,0]) (sub pk [1,1,0,1])) (.seq (sub pk [1,1,1,0]) (.block 0 (.loop Ir)))))):=by kernel_rfl
def qf3{A0:Mem}{s:aw}(h0:dA A0 M y)(k0:Kp A0 A)(hp:A0.next<=p)(hb:A0.next<=b)(h:Wr A p b w y k)(hi:M[i]?=U s)(hL:Lay M)(hl:Z M<1000000)(hw0:w≠ [])(hwl:(w++lh i s).length<900000):
 ∃v D,az O 122 [.pointer (U ⟨p,0,V⟩),.int .i64 i] A v D/\v=cQ/\∃b',Wr D p b' (w++lh i s) y k/\Grow p b A b' D:=by
 obtain⟨l1,l2,l3,l4⟩:=hL i s hi;have hil:=(bU.1 hi).1;have hpA:p<A.next:=by obtain⟨_,hV,-⟩:=h;exact hV.1
 have hbA:b<A.next:=by obtain⟨_,-,-,-,h⟩:=h;exact h hw0
 have ly:aj O A.get 112 (.pointer (U ⟨p,0+1,V⟩))=.ok y:=by obtain⟨_,hV,-⟩:=h;exact hV.ld rfl eg rfl
 obtain⟨x,q,j1,j⟩:=h0.Vl hi;obtain⟨j2,hx⟩:=j A k0;refine cZ (aD Tryz.func122) WS (by kernel_rfl) ?_;have sB:=xC hx;have kB:=Kp.alloc A (af 186 (aS x s));have vB:=aQ A 186 (aS x s);have m1:a_ .mul .i64 ((2:Nat):Int) ((Z s.arcs:Nat):Int)=.ok (.int .i64 (2*Z s.arcs:Nat)):=AK (ct (by omega));have c1:=eX (tb:=O) (s:=3) (d:=113) (k:=.i64) (n:=2*Z s.arcs) (by rw[u3];rfl) dH (fM (by omega));apply W.q
 .intro M;simp(disch:=first|decide+kernel|omega)only[pk,sY,Aq,aa,bA,br,Y1,gi,ly,j1,j2,rh,a7,sB];rfl
 generalize A.alloc (af 186 (aS x s))=B at sB kB vB;have h1:=h.kp kB;have kAB:=k0.trans kB;have a0:∀E:Mem,B.next<=E.next->E.get A.next=B.get A.next->aj O E.get 184 (.pointer (U ⟨A.next,0,V⟩))=.ok x:=λ E hn hE=>VB.ld (tb:=O) ⟨c9 vB.1 hn,vB.2.same hE⟩ rfl f_ rfl
 have lB:=a0 B (aI _) rfl;have a1:aj O B.get 4 (.pointer (U ⟨A.next,0+1,V⟩))=.ok (.bool s.fin):=vB.ld rfl u4 rfl;have a2:aj O B.get 113 (.pointer (U ⟨A.next,0+2,V⟩))=.ok (.int .u64 s.out):=vB.ld rfl dH rfl;have lx:=(hx.kp kB).len;have hw1:Z w<900000:=by rw[aY]at hwl;omega
 apply W.q
 .intro M;simp(disch:=first|decide+kernel|omega)only[pk,sY,Aq,aa,eT,lB,lx,m1,c1];rfl
 apply W.seq;refine W.to (n:=71) (λ t D=>∃b',Wr D p b' (w++jK s) y k/\Grow p b B b' D/\Sl t [(0,.pointer (U ⟨p,0,V⟩)),(1,.int .i64 i),(4,.pointer (U ⟨A.next,0,V⟩))]) ?_ ?_
 .apply W.seq;apply W.run 20
  .intro M;simp(disch:=first|decide+kernel|omega)only[pk,sY,Aq,aa,fV,a1];rfl
  show W O _ _ _;cases hf:s.fin with
  |true=>
   have a3:a_ .add .u64 ((2*Z s.arcs:Nat):Int) ((1:Nat):Int)=.ok (.int .u64 (2*Z s.arcs+1:Nat)):=e_ (fM (by omega));obtain⟨D,b',⟨g,hg⟩,hD,hG⟩:=Dl [2*Z s.arcs+1,s.out] h1 (by simp) (by simp) (by simp;omega) (by omega);simp only[lK,sQ,cD,eB,ak,Ef]at hg;apply W.cC (g) 20
   .intro M hM;simp(config:={maxSteps:=4000000})(disch:=first|decide+kernel|omega|simp only[Wq,aa])only[pk,sY,Aq,av,reduceIte,aa,ak,bA,br,yM,nT,a2,a3,H2,hg,Fq,bQ []];rfl
   refine⟨rfl,_,D,rfl,b',?_,hG,?_⟩
   .have:jK s=ia [2*Z s.arcs+1,s.out]:=by unfold jK ia;rw[aA hf];simp
    rw[this];exact hD
   .simp only[Sq,aa,ak]
  |false=>
   obtain⟨D,b',⟨g,hg⟩,hD,hG⟩:=Dl [2*Z s.arcs] h1 (by simp) (by simp) (by simp;omega) (by omega);simp only[lK,sQ,cD,eB,ak,Ef]at hg;apply W.cC (g) 20
   .intro M hM;simp(disch:=first|decide+kernel|omega)only[pk,sY,Aq,aa,bA,br,yM,MP,hg];rfl
   refine⟨rfl,_,D,rfl,b',?_,hG,?_⟩
   .have:jK s=ia [2*Z s.arcs]:=by unfold jK ia;rw[ax (by simp[hf])];simp
    rw[this];exact hD
   .simp only[Sq,aa,ak]
 .rintro t D ⟨b1,hW1,hG1,g0,g1,g4,-⟩;obtain⟨kD,hb1⟩:=hG1.kp kAB hp hb;have lD:=a0 D hG1.n (hG1.g _ vB.1 (by omega) (by omega));have lxD:=(j D kD).2.len;apply W.q
  .intro M;simp(disch:=first|decide+kernel|omega)only[pk,sY,Aq,aa,g4,eT,lD,lxD];rfl
  apply W.block;refine W.up (Z s.arcs) (λ e t F=>∃b2,Wr F p b2 (w++jK s++(s.arcs.take e).flatMap (fx i)) y k/\Grow p b A b2 F/\Sl t [(0,.pointer (U ⟨p,0,V⟩)),(1,.int .i64 i),(39,x),(40,.int .i64 (Z s.arcs:Nat)),(41,.int .i64 e)]) ?_ (a8 _) ⟨b1,by simpa using hW1,⟨dm kB.1 hG1.n,dm kB.1 hG1.r,λ z hz e1 e2=>by rw[hG1.g z (c9 hz kB.1) e1 e2,kB.2 z hz]⟩,?_⟩
  .rintro e t F he ⟨b2,hW2,hG2,g0,g1,g39,g40,g41,-⟩;by_cases hlt:e<Z s.arcs
   .have hse:s.arcs[e]?=U s.arcs[e]:=aZ hlt;obtain⟨kF,hb2⟩:=hG2.kp k0 hp hb;obtain⟨p2,j3,j4⟩:=(j F kF).2.at hse;obtain⟨ht,ho⟩:=l4 _ (ff hlt);have hT:=OM (i:=i) hse;have hfl:=Jy (i:=i) s.arcs (e+1);rw[hT]at hfl;generalize hz:(s.arcs.take e).flatMap (fx i)=z at*;have hle1:(w++jK s++(z++fx i s.arcs[e])).length<900000:=by
     unfold lh at hwl;simp only[aY]at hwl hfl⊢;omega
    generalize s.arcs[e]=a at*;simp only[aY]at hle1;have sG:=Tq (D:=F) a;have kG:=Kp.alloc F (af 246 (bP a));have vG:=aQ F 246 (bP a);generalize hGG:F.alloc (af 246 (bP a))=G at sG kG vG;have hWG:=hW2.kp kG;have hpF:p<F.next:=by obtain⟨_,hV,-⟩:=hW2;exact hV.1
    have kH:=Kp.alloc G (af 5 [.int .u8 (a.byte.toNat:Nat)]);have vH:=aQ G 5 [.int .u8 (a.byte.toNat:Nat)];have c0:aj O G.get 5 (.pointer (U ⟨F.next,0,V⟩))=.ok (.int .u8 (a.byte.toNat:Nat)):=vG.ld rfl u5 rfl;have bs:eO O 74 1 [(0,.int .u8 (a.byte.toNat:Nat))]=.ok (af 5 [.int .u8 (a.byte.toNat:Nat)],.dZ 1 2):=zU;have hf1:jJ (G.alloc (af 5 [.int .u8 (a.byte.toNat:Nat)])).get 1 [a.byte].length (.slice (U ⟨G.next,0,V⟩) 1 2)=.ok (c6 [a.byte]):=Aa vH.2;obtain⟨v1,v2,H,qi6,e1,e2,e3,e4,e5,e6⟩:=hWG.more (cs:=[a.byte]) (z:=.slice (U ⟨G.next,0,V⟩) 1 2) kH jS rfl (by simp) (by simp;omega) rfl hf1;have l1:=e1 G (aI _) rfl;have l1':=e1 _ kH.1 (kH.2 p (by have:=kG.1;omega));have c3:∀E:Mem,G.next<=E.next->E.get F.next=G.get F.next->aj O E.get 113 (.pointer (U ⟨F.next,0+1,V⟩))=.ok (.int .u64 a.out)/\aj O E.get 3 (.pointer (U ⟨F.next,0+2,V⟩))=.ok (.int .i64 a.to):=λ E hn hE=>⟨VB.ld (tb:=O) ⟨c9 vG.1 hn,vG.2.same hE⟩ rfl dH rfl,VB.ld (tb:=O) ⟨c9 vG.1 hn,vG.2.same hE⟩ rfl u3 rfl⟩
    have hbF:b2<F.next:=by obtain⟨_,-,-,-,h⟩:=hW2;exact h (by simp[hw0])
    obtain⟨c4,c5⟩:=c3 qi6 e6.n (e6.g _ vG.1 (by omega) (by omega));have su:a_ .sub .i64 ((i:Nat):Int) ((a.to:Nat):Int)=.ok (.int .i64 (i-a.to:Nat)):=eQ (by omega) (ct (by omega));have cv:=eX (tb:=O) (s:=3) (d:=113) (k:=.i64) (n:=i-a.to) (by rw[u3];rfl) dH (fM (by omega));obtain⟨J,b3,⟨g,hg⟩,hJ,hGJ⟩:=Dl [a.out,i-a.to] e5 (by simp) (by simp) (by simp;omega) (by simp only[aY,fb];omega);simp only[lK,sQ,cD,eB,ak,Ef]at hg;apply W.cC (g) 20
    .intro M hM;simp(config:={maxSteps:=4000000})(disch:=first|decide+kernel|omega|simp only[Wq,aa])only[Ir,pk,sY,Aq,av,reduceIte,aa,ak,g0,g1,g39,g40,g41,hlt,j3,j4,UJ,a7,hGG,sG,bA,br,yM,Fu,yK,wP,tG,l1,l1',c0,bs,e2,e3,e4,c4,c5,su,cv,H2,hg,cQ,Fq,bQ []];rfl
    refine⟨hlt,_,J,rfl,b3,?_,?_,?_⟩
    .rw[hT];have:w++jK s++(z++fx i a)=w++jK s++z++[a.byte]++ia [a.out,i-a.to]:=by unfold fx ia;simp
     rw[this];exact hJ
    .have hFG:Grow p b2 F _ qi6:=⟨dm kG.1 e6.n,dm kG.1 e6.r,λ z hz e1 e2=>by rw[e6.g z (c9 hz kG.1) e1 e2,kG.2 z hz]⟩;exact hG2.trans (hFG.trans hGJ)
    .simp only[Sq,aa,ak,g0,g1,g39,g40]
   .have hee:e=Z s.arcs:=by omega
    subst hee;apply W.run 20
    .intro M;simp(disch:=first|decide+kernel|omega)only[Ir,pk,sY,Aq,aa,g40,g41,hlt];rfl
    rw[dU]at hW2;exact⟨by simp,rfl,_,(by simp only[sY,Aq,aa]<;>rfl),rfl,b2,by unfold lh;rw[<-iC];exact hW2,hG2⟩
  .simp only[Sq,aa,ak,g0,g1]
def j9:=cu qC
def IU:aH:=sub j9 [1,1,1,1,1,0,1,0,0]
def XI:qC.body=U (.seq (sub j9 [0]) (.seq (sub j9 [1,0]) (.seq (sub j9 [1,1,0]) (.seq (sub j9 [1,1,1,0]) (.seq (sub j9 [1,1,1,1,0]) (.seq (.seq (sub j9 [1,1,1,1,1,0,0]) (.block 0 (.loop IU))) (.seq (sub j9 [1,1,1,1,1,1,0]) (.seq (sub j9 [1,1,1,1,1,1,1,0]) (sub j9 [1,1,1,1,1,1,1,1]))))))))):=by kernel_rfl
def VI{k:Int}:eu O 195 [(1,.agg ⟨[y,.int .u64 k]⟩)]=.ok (.agg ⟨[.slice V 0 0,y,.int .u64 k]⟩):=by kernel_rfl
def RJ(h:i<=Z M):([67,83,1]++ia [n,Z M]++fX 0 (M.take i)).length+(bL k).length<=(iJ n M k).length:=by
 have:=Lo M 0 i;unfold iJ ia;simp only[aY,mr,List.flatMap_nil,jT];omega
def qe7(h:dA A M y)(hM:M≠ [])(hn:n<=100000)(hl:Z M<1000000)(hL:Lay M)(hk:k<18446744073709551616)(hb:(iJ n M k).length<900000):
 ∃v A',az O 64 [.int .i64 n,.agg ⟨[y,.int .u64 k]⟩] A v A'/\v=.tuple ⟨[ai (crc.gk (iJ n M k)),iN 0]⟩/\Kp A A':=by
 refine cZ (aD Tryz.func64) XI (by kernel_rfl) ?_;have kB:=Kp.alloc A (af 115 [y,.int .u64 k]);have vB:=aQ A 115 [y,.int .u64 k];have hy:=h.self;apply W.q
 .intro M;simp(disch:=omega)only[j9,qC,Aq,aa,a7];rfl
 have hB:=h.kp kB;have nB:=aG A (af 115 [y,.int .u64 k]);generalize A.alloc (af 115 [y,.int .u64 k])=B at kB vB hB nB;obtain⟨d,hd1,hd2⟩:=cF (t:=115) (p:=ae) (by kernel_rfl);have lA:∀D,Kp B D->aj O D.get 115 (pw A.next 0)=.ok (.agg ⟨[y,.int .u64 k]⟩):=λ D hD=>cg hd1 hd2 gF (vB.kp hD).2
 have lB:=lA B (Kp.refl _);obtain⟨v,C,⟨g,hg⟩,rfl,kC⟩:=qe5 (k:=k) hB hM hn hl hL;have lC:=lA C kC;apply W.seq;apply W.cC (g) 40
 .intro M hM;simp(disch:=first|decide+kernel|omega)only[j9,qC,Aq,aa,lB,hg];rfl
 show W O _ _ _;have kD:=Kp.alloc C (af 195 [.slice V 0 0,y,.int .u64 k]);have vD:=aQ C 195 [.slice V 0 0,y,.int .u64 k];apply W.q
 .intro M;simp(disch:=first|decide+kernel|omega)only[j9,qC,Aq,aa,lC,VI,a7];rfl
 have hW:Wr (C.alloc (af 195 [.slice V 0 0,y,.int .u64 k])) C.next (C.next+1) [] y k:=⟨.slice V 0 0,vD,.inl ⟨rfl,rfl⟩,by omega,λ h=>aU rfl h⟩
 generalize C.alloc (af 195 [.slice V 0 0,y,.int .u64 k])=D at kD vD hW;have kAD:=kB.trans (kC.trans kD);have nD:B.next<=C.next:=kC.1
 have hcs:jJ D.get 1 ([67,83,1]:List UInt8).length (ai [67,83,1])=.ok (c6 [67,83,1]):=HW;obtain⟨v1,v2,E,F,e1,e2,e3,e4,e5,e6⟩:=hW.more (cs:=[67,83,1]) (z:=ai [67,83,1]) (Kp.refl _) u9 rfl (by simp) (by simp) rfl hcs;have l1:=e1 D (aI _) rfl;have kBF:=e6.kp (kC.trans kD) nD (by omega);have b1:∀G,Kp B G->aj O G.get 112 (pw A.next 0)=.ok y/\aj O G.get 113 (pw A.next (0+1))=.ok (.int .u64 k):=λ G k=>⟨(vB.kp k).ld rfl eg rfl,(vB.kp k).ld rfl dH rfl⟩
 apply W.q
 .intro M;simp(disch:=first|decide+kernel|omega)only[j9,qC,Aq,aa,bA,br,yM,Fu,l1,NZ,e3,e4];rfl
 have cn:=eX (tb:=O) (s:=3) (d:=113) (k:=.i64) (n:=n) (by rw[u3];rfl) dH (fM (by omega));have cl:=eX (tb:=O) (s:=3) (d:=113) (k:=.i64) (n:=Z M) (by rw[u3];rfl) dH (fM (by omega));have gj:=(hB.kp kBF.1).len;have lyF:=(b1 F kBF.1).1;obtain⟨G,b',⟨g,hg⟩,hG,hGG⟩:=Dl [n,Z M] e5 (by simp) (by simp) (by simp;omega) (by simp);simp only[lK,sQ,cD,eB,ak,Ef]at hg;apply W.qG (g)
 .intro M hM;simp(config:={maxSteps:=4000000})(disch:=first|decide+kernel|omega|simp only[Wq,aa])only[j9,qC,Aq,av,reduceIte,aa,ak,bA,br,yM,gi,lyF,gj,cn,cl,H2,hg,Fq,bQ []];rfl
 obtain⟨kG,hb'⟩:=hGG.kp kBF.1 nD kBF.2;have lenG:=(hB.kp kG).len;have lyG:=(b1 G kG).1;apply W.seq;apply W.q
 .intro M;simp(disch:=first|decide+kernel|omega)only[j9,qC,Aq,aa,gi,lyG,lenG];rfl
 apply W.block;refine W.up (Z M) (λ i t H=>∃b2,Wr H C.next b2 ([67,83,1]++ia [n,Z M]++fX 0 (M.take i)) y k/\Kp B H/\B.next<=b2/\Sl t [(3,pw A.next 0),(6,pw C.next 0),(38,iN (Z M)),(39,.int .i64 i)]) ?_ (a8 _) ⟨b',by simpa[fX]using hG,kG,hb',?_⟩
 .rintro i t H hi ⟨b2,hH,kH,hb2,g3,g6,g38,g39,-⟩;by_cases hlt:i<Z M
  .have hMi:M[i]?=U M[i]:=aZ hlt;have hT:=Lp hMi;have hle:=RJ (n:=n) (k:=k) (show i+1<=Z M by omega);rw[hT]at hle;obtain⟨v,qi6,⟨g,hg⟩,rfl,b3,hI,hGI⟩:=qf3 hB kH nD hb2 hH hMi hL hl (by simp) (by rw[iC];omega);obtain⟨kI,hb3⟩:=hGI.kp kH nD hb2;apply W.cC (g) 20
   .intro M hM;simp(disch:=first|decide+kernel|omega)only[IU,j9,qC,Aq,aa,g6,g38,g39,hlt,hg];rfl
   refine⟨hlt,_,qi6,rfl,b3,?_,kI,hb3,?_⟩
   .rw[hT,<-iC];exact hI
   .simp only[Sq,aa,ak,g3,g6,g38]
  .have e:i=Z M:=by omega
   subst e;rw[dU]at hH;have hle:=RJ (M:=M) (n:=n) (k:=k) (aI _);rw[dU]at hle;apply W.run 20
   .intro M;simp(disch:=first|decide+kernel|omega)only[IU,j9,qC,Aq,aa,g38,g39,hlt];rfl
   show W O _ _ _;have lk:=(b1 H kH).2;obtain⟨qi6,b3,⟨g,hg⟩,hI,hGI⟩:=Dl [k] hH (by simp) (by simp) (by simpa using hk) (by omega);simp only[lK,sQ,cD,eB,ak,Ef]at hg;obtain⟨kI,-⟩:=hGI.kp kH nD hb2;apply W.qG (g)
   .intro M hM;simp(config:={maxSteps:=4000000})(disch:=first|decide+kernel|omega|simp only[Wq,aa])only[j9,qC,Aq,av,reduceIte,aa,ak,g3,g6,bA,br,yM,Fm,lk,MP,hg,Fq,bQ []];rfl
   obtain⟨x,hV,hS,-⟩:=hI;have lx:aj O qi6.get 74 (pw C.next 0)=.ok x:=hV.ld rfl jS rfl;have e: [67,83,1]++ia [n,Z M]++fX 0 M++ia [k]=iJ n M k:=by unfold iJ ia;simp
   rw[e]at hS;have cs:gO O qi6.get 74 9 x=.ok (ai (iJ n M k)):=Dt hS.dZ;have ks:=λ ih=>qaG (ih:=ih) (A:=qi6) hb
   apply W.run 40
   .intro M;simp(disch:=first|decide+kernel|omega)only[j9,qC,Aq,aa,g6,bA,br,yM,Fu,lx,C7,cs,ks];rfl
   exact⟨by simp,rfl,_,(by simp only[qC,Aq,aa]<;>rfl),rfl,kB.trans kI⟩
 .simp only[Sq,aa,ak]
def iV:=cu uo
def EN:uo.body=U (.seq (sub iV [0]) (.seq (sub iV [1,0]) (.seq (sub iV [1,1,0]) (.seq (sub iV [1,1,1,0]) (.seq (sub iV [1,1,1,1,0]) (sub iV [1,1,1,1,1])))))):=by kernel_rfl
def qe4{x:I}(h:dz A [] x):az O 21 [x] A (.tuple ⟨[ai [],iN 2]⟩) A:=by
 have hl:=h.len;have he:∀t:T I,ev t (.const (.string ⟨#[]⟩))=.ok (ai []):=λ _=>rfl
 refine wg (aD Tryz.func21) EN (by kernel_rfl) ?_;apply W.q
 .intro M;simp(disch:=first|decide+kernel|omega)only[iV,uo,Aq,aa,he];rfl
 apply W.seq;apply W.run 20
 .intro M;simp(config:={maxSteps:=4000000})(disch:=first|decide+kernel|omega|simp only[Wq,aa])only[iV,uo,Aq,av,reduceIte,aa,ak,hl,eB,he];rfl
 exact⟨by simp,rfl,rfl,by simp only[uo,Aq,av,reduceIte,aa,ak]<;>rfl⟩
def qe2{l:List aK}{x:I}(h:dz A l x)(hl:mo l):
 ∃v A',az O 21 [x] A v A'/\v=.tuple ⟨[ai (crc.gk (ke l)),iN 0]⟩/\Kp A A':=by
 refine cZ (aD Tryz.func21) EN (by kernel_rfl) ?_;obtain⟨o1,o2,o3,o4,o5,o6,o7,o8,o9⟩:=id hl;have h0:¬Z l=0:=λ e=>o1 (eN.1 e)
 have h2:¬100000<Z l:=by omega
 have he:∀t:T I,ev t (.const (.string ⟨#[]⟩))=.ok (ai []):=λ _=>rfl
 have hlen:=h.len;obtain⟨v,B,⟨g1,h1⟩,⟨y,rfl,hS⟩,kB⟩:=qeY h o1 o2 o3 o4.2 (by omega);have kC:=Kp.alloc B (af 115 [y,uN (least l)]);have sC:cm O (B.alloc (af 115 [.slice V 0 0,uN 0])) 115 (pw B.next 0) (.agg ⟨[y,uN (least l)]⟩)=.ok (B.alloc (af 115 [y,uN (least l)])):=fP gF rfl rfl (by simp) (by
  intro v hv;simp only[cG,eC,or_false]at hv;rcases hv with rfl|rfl
  .obtain⟨_,_,hS,-⟩:=hS;exact(aq.dQ hS).2
  .rfl)
 have lC:aj O (B.alloc (af 115 [y,uN (least l)])).get 115 (pw B.next 0)=.ok (.agg ⟨[y,uN (least l)]⟩):=P8 gF (by kernel_rfl);have hlenC:=((h.kp kB).kp kC).len;have hSC:=hS.kp kC;generalize B.alloc (af 115 [y,uN (least l)])=C at sC lC kC hlenC hSC;obtain⟨v,D,⟨g2,hg2⟩,rfl,kD⟩:=qe7 (n:=Z l) (k:=least l) hSC o6 (by omega) (by omega) o7 o8 (by show(ke l).length<_;omega);apply W.q2
 .intro M _;simp(config:={maxSteps:=4000000})(disch:=first|decide+kernel|omega|simp only[Wq,aa])only[iV,uo,Aq,aa,he,av,reduceIte,ak,hlen,h0,h2,dM,dK];rfl
 apply W.ic (g1)
 .intro M hM _;simp(disch:=first|decide+kernel|omega)only[iV,uo,Aq,aa,h1,c7,dc,vf,a7,sC];rfl
 apply W.cC (g2) 40
 .intro M hM;simp(disch:=first|decide+kernel|omega)only[iV,uo,Aq,aa,hlenC,lC,hg2,c7,dc];rfl
 exact⟨by simp,rfl,_,(by simp only[uo,Aq,aa]<;>rfl),rfl,kB.trans (kC.trans kD)⟩
def qe3{l:List aK}{x:I}(h:dz A l x)(ha:¬dk l)(hw:∀e∈l,1<=Z e.word/\Z e.word<=255)(hl:Z l<=100000):
 ∃v A',az O 21 [x] A v A'/\v=.tuple ⟨[ai [],iN 15]⟩/\Kp A A':=by
 have hlen:=h.len;have hl0:¬Z l=0:=λ e=>ha (by rw[eN.1 e];trivial)
 have hl1:¬100000<Z l:=by omega
 obtain⟨v,B,⟨g,hg⟩,rfl,kB⟩:=qeZ h ha hw (by omega);have sC:=Tp (A:=B);refine⟨_,_,?_,rfl,kB.trans (Kp.alloc _ (af 115 [.slice V 0 0,uN 0]))⟩;refine bX (g) 60 (aD Tryz.func21) (by kernel_rfl) λ M hM=>?_
 simp(config:={maxSteps:=4000000})(disch:=first|decide+kernel|omega|simp only[Wq,aa])only[uo,Aq,av,reduceIte,aa,ak,hlen,hl0,hl1,dM,dK,hg,vf,a7,sC,c7,dc,tF]<;>rfl
def Gg:O.aB 74=U (.slice 5):=zc
def q5:bk O 5=.ok 1:=by kernel_rfl
def iw(A:Mem)(b:Nat)(l:List UInt8)(x:I):Prop:=eS A 5 b (c6 l) x/\l.Pairwise (·<·)/\Z l<=256
def iw.kp{l:List UInt8}{x:I}(h:iw A b l x)(k:Kp A B):iw B b l x:=⟨h.1.same k.1 (k.2 b),h.2⟩
def iw.len{l:List UInt8}{x:I}(h:iw A b l x):c_ O .len [74] [x]=.ok (iN (Z l)):=by
 have:=eS.len h.1 Gg;rwa[iS]at this
def iw.at{l:List UInt8}{x:I}(h:iw A b l x)(hi:i<Z l):eE O 74 x (.int .i64 i)=.ok (pw b i)/\aj O A.get 5 (pw b i)=.ok (bN (l[i].toNat)):=
 ⟨eS.idx h.1 Gg q5 (by rw[iS];exact hi),eS.load h.1 u5 rfl (by unfold c6;rw[dN,aZ hi];rfl)⟩
variable {j:Nat}
def iw.le{l:List UInt8}{x:I}(h:iw A b l x)(hij:i<=j)(hj:j<Z l):¬l[j].toNat<(l[i]'(by omega)).toNat:=by
 rcases ec i j with hlt|hge
 .have:=BV.1 (tY.1 h.2.1 i j (by omega) hj hlt);omega
 .have:i=j:=by omega
  subst this;omega
def qdO:az O 307 [.int .u8 n] A (.bool ag) A:=by
 refine cq 60 (aD Tryz.func307) (by kernel_rfl) λ M=>?_
 simp(disch:=decide+kernel)only[Tryz.f307,Aq,aa]<;>rfl
def qdN{a:Nat}:az O 301 [.int .u8 a,.int .u8 b] A (.bool (decide (a<b))) A:=by
 obtain⟨g1,h1⟩:=qdO (A:=A) (n:=a);refine bX (g1) 60 (aD Tryz.func301) (by kernel_rfl) λ M hM=>?_
 simp(disch:=first|decide+kernel|omega|simp only[Wq,aa])only[Tryz.f301,Aq,av,reduceIte,aa,ak,h1]<;>rfl
def iw.less{l:List UInt8}{x:I}(h:iw A b l x)(hij:i<=j)(hj:j<Z l):∃g,∀M,g<=M->cE O (exec O M) (.fn 301 [bN (l[j].toNat),bN ((l[i]'(by omega)).toNat)]) A=.ok (.val (.bool ag) A):=by
 have h1:=qdN (A:=A) (a:=l[j].toNat) (b:=(l[i]'(by omega)).toNat)
 rwa[decide_eq_false (h.le hij hj)]at h1
def wD:=cu vW
def qK:aH:=sub wD [1,0,0]
def M_:aH:=sub qK [1,0,0,1,0,0]
def Xu:vW.body=U (.seq (sub wD [0]) (.block 0 (.loop qK))):=by kernel_rfl
def M9:qK=(.seq (sub qK [0]) (.seq (.block 1 (.seq (sub qK [1,0,0,0]) (.block 2 (.loop M_)))) (sub qK [1,1]))):=by kernel_rfl
def qeC{l:List UInt8}{x:I}(h:iw A b l x):∃v A',az O 295 [x,iN 0,iN (Z l)] A v A'/\v=cQ/\A'=A:=by
 refine cZ (aD Tryz.func295) Xu (by kernel_rfl) ?_;have hl:=h.2.2;apply W.q
 .intro M;simp(disch:=decide+kernel)only[wD,vW,Aq,aa];rfl
 apply W.block;refine W.up (Z l-1) (λ k t D=>D=A/\Sl t [(0,x),(1,iN 0),(2,iN (Z l)),(6,iN (k+1))]) ?_ (a8 _) ⟨rfl,?_⟩
 .rintro k t D hk ⟨rfl,g0,g1,g2,g6,-⟩;by_cases hlt:k+1<Z l
  .obtain⟨i1,i2⟩:=h.at hlt;obtain⟨j1,j2⟩:=h.at (i:=k) (by omega);obtain⟨g,hg⟩:=h.less (i:=k) (by omega) hlt;have s1:a_ .sub .i64 ((k+1:Nat):Int) ((1:Nat):Int)=.ok (iN k):=eQ (by omega) (ct (by omega));have hz:0<k+1:=by omega
   rw[M9];apply W.q
   .intro M;simp(disch:=decide+kernel)only[qK,wD,vW,Aq,aa,g2,g6,hlt];rfl
   apply W.seq;apply W.block;apply W.q
   .intro M;simp(disch:=first|decide+kernel|omega)only[qK,wD,vW,Aq,aa,g6];rfl
   apply W.block;apply W.round;apply W.cC (g) 20
   .intro M hM;simp(config:={maxSteps:=4000000})(disch:=first|decide+kernel|omega|simp only[Wq,aa])only[M_,qK,wD,vW,Aq,av,reduceIte,aa,ak,g0,g1,g2,g6,dM,dK,hz,s1,i1,i2,j1,j2,hg,Fq,bQ []];rfl
   apply W.run 20
   .intro M;simp(disch:=first|decide+kernel|omega)only[qK,wD,vW,Aq,aa,g6];rfl
   refine⟨by omega,_,_,rfl,rfl,?_⟩;simp only[Sq,aa,ak,g0,g1,g2]
  .rw[M9];apply W.seq;apply W.run 20
   .intro M;simp(disch:=decide+kernel)only[qK,wD,vW,Aq,aa,g2,g6,hlt];rfl
   exact⟨by simp,rfl,_,(by simp only[vW,Aq,aa]<;>rfl),rfl,rfl⟩
 .simp only[Sq,aa,ak]
def rQ:=cu vX
def rR:aH:=sub rQ [1,1,0,1,0,0]
def IL:aH:=sub rR [1,0,0,0,0,0]
def Xv:vX.body=U (.seq (sub rQ [0]) (.seq (sub rQ [1,0]) (.seq (.seq (sub rQ [1,1,0,0]) (.block 0 (.loop rR))) (sub rQ [1,1,1])))):=by kernel_rfl
def Xw:rR=(.seq (sub rR [0]) (.seq (.block 1 (.seq (.block 2 (.loop IL)) (.seq (sub rR [1,0,0,1,0]) (sub rR [1,0,0,1,1])))) (sub rR [1,1]))):=by kernel_rfl
def qe8{l:List UInt8}{x:I}(h:iw A b l x)(h0:0<Z l):∃v A',az O 300 [x,iN 0,iN (Z l)] A v A'/\v=.bool ae/\A'=A:=by
 refine cZ (aD Tryz.func300) Xv (by kernel_rfl) ?_;have hl:=h.2.2;apply W.q2
 .intro M _;simp(disch:=decide+kernel)only[rQ,vX,Aq,aa];rfl
 apply W.seq;apply W.q
 .intro M;simp(disch:=omega)only[rQ,vX,Aq,aa];rfl
 apply W.block;apply W.round;rw[Xw];have h5:0<5:=by omega
 apply W.q
 .intro M;simp(disch:=decide+kernel)only[rR,rQ,vX,Aq,aa,h5];rfl
 apply W.seq;apply W.block;apply W.seq;apply W.block;refine W.up (Z l-1) (λ k t D=>D=A/\Sl t [(0,x),(2,iN (Z l)),(7,iN (k+1))]) ?_ (a8 _) ⟨rfl,?_⟩
 .rintro k t D hk ⟨rfl,g0,g2,g7,-⟩;by_cases hlt:k+1<Z l
  .obtain⟨i1,i2⟩:=h.at hlt;obtain⟨j1,j2⟩:=h.at (i:=k) (by omega);obtain⟨g,hg⟩:=h.less (i:=k) (by omega) hlt;have s1:a_ .sub .i64 ((k+1:Nat):Int) ((1:Nat):Int)=.ok (iN k):=eQ (by omega) (ct (by omega));apply W.cC (g) 20
   .intro M hM;simp(config:={maxSteps:=4000000})(disch:=first|decide+kernel|omega|simp only[Wq,aa])only[IL,rR,rQ,vX,Aq,av,reduceIte,aa,ak,g0,g2,g7,hlt,s1,i1,i2,j1,j2,hg,Fq,bQ []];rfl
   refine⟨by omega,_,_,rfl,rfl,?_⟩;simp only[Sq,aa,ak,g0,g2]
  .have e:k+1=Z l:=by omega
   rw[e]at g7;apply W.run 20
   .intro M;simp(disch:=first|decide+kernel|omega|simp only[Wq,aa])only[IL,rR,rQ,vX,Aq,av,reduceIte,aa,ak,g0,g2,g7,t_,Fq,bQ []];rfl
   apply W.seq;apply W.run 20
   .intro M;simp(disch:=decide+kernel)only[rR,rQ,vX,Aq,aa,g2,g7];rfl
   exact⟨by simp,rfl,_,(by simp only[vX,Aq,aa]<;>rfl),rfl,rfl⟩
 .simp only[Sq,aa,ak]
def SB{q l:_}{x:I}(h:iw A b l x)(hij:i<=j)(hj:j<Z l):az O 308 [x,.int .i64 i,.int .i64 j,q] A (.tuple ⟨[.int .i64 i,.int .i64 j]⟩) A:=by
 obtain⟨i1,i2⟩:=h.at hj;obtain⟨j1,j2⟩:=h.at (i:=i) (by omega);obtain⟨g,hg⟩:=h.less hij hj;refine bX (g) 60 (aD Tryz.func308) (by kernel_rfl) λ M hM=>?_
 simp(disch:=first|decide+kernel|omega|simp only[Wq,aa])only[Tryz.f308,Aq,av,reduceIte,aa,ak,i1,i2,j1,j2,hg,Fq,bQ []]<;>rfl
def Sz{q l:_}{x:I}(h:iw A b l x)(hij:i<=j)(hjk:j<=k)(hk:k<Z l):az O 306 [x,.int .i64 i,.int .i64 j,.int .i64 k,q] A (.int .i64 j) A:=by
 obtain⟨g1,h1⟩:=SB (q:=q) h hij (by omega);obtain⟨g2,h2⟩:=SB (q:=q) h hjk hk;refine bX (g1+g2) 60 (aD Tryz.func306) (by kernel_rfl) λ M hM=>?_
 simp(disch:=omega)only[Tryz.f306,Aq,aa,h1,h2,c7,dc]<;>rfl
def KU{q l:_}{x:I}(h:iw A b l x)(h1:1<=i)(hi:i+1<Z l):az O 305 [x,.int .i64 i,q] A (.int .i64 i) A:=by
 obtain⟨g,hg⟩:=Sz (q:=q) (i:=i-1) (j:=i) h (by omega) (by omega) hi;have hl:=h.2.2;have s1:=eQ (by omega) (ct (by omega));have a1:a_ .add .i64 ((i:Nat):Int) ((1:Nat):Int)=.ok (iN (i+1)):=e_ (ct (by omega));refine bX (g) 60 (aD Tryz.func305) (by kernel_rfl) λ M hM=>?_
 simp(disch:=first|decide+kernel|omega)only[Tryz.f305,Aq,aa,hg,s1,a1]<;>rfl
def qe1{l:List UInt8}{x:I}(h:iw A b l x)(h0:13<=Z l):∃m A',az O 298 [x,iN 0,iN (Z l)] A (.tuple ⟨[iN m,iN 1]⟩) A'/\Kp A A':=by
 have hl:=h.2.2;have kB:=Kp.alloc A (af 3 [iN 0]);have vB:=aQ A 3 [iN 0];have hB:=h.kp kB;refine⟨Z l/4*2,A.alloc (af 3 [iN 0]),?_,kB⟩;generalize hBe:A.alloc (af 3 [iN 0])=B at kB vB hB;have lB:=vB.l0 u3 rfl;obtain⟨g,hg⟩:=Sz (q:=pV A.next) (i:=Z l/4) (j:=Z l/4*2) (k:=Z l/4*3) hB (by omega) (by omega) (by omega);obtain⟨g1,h1⟩:=KU (q:=pV A.next) (i:=Z l/4) hB (by omega) (by omega);obtain⟨g2,h2⟩:=KU (q:=pV A.next) (i:=Z l/4*2) hB (by omega) (by omega);obtain⟨g3,h3⟩:=KU (q:=pV A.next) (i:=Z l/4*3) hB (by omega) (by omega);have q1:∀c:Nat,c<=3->a_ .mul .i64 ((Z l/4:Nat):Int) ((c:Nat):Int)=.ok (iN (Z l/4*c)):=λ c hc=>AK (ct (by have:Z l/4*c<=Z l/4*3:=Nat.mul_le_mul_left _ hc;omega))
 have m1:=q1 1 (by omega);have m2:=q1 2 (by omega);have m3:=q1 3 (by omega);rw[qq]at m1;have a0:∀n:Nat,n<1000->a_ .add .i64 ((0:Nat):Int) ((n:Nat):Int)=.ok (iN n):=λ n hn=>by rw[e_ (ct (by omega)),ep]
 have a1:=a0 (Z l/4) (by omega);have a2:=a0 (Z l/4*2) (by omega);have a3:=a0 (Z l/4*3) (by omega);have h8:8<=Z l:=by omega
 simp only[pV]at*;by_cases h50:50<=Z l
 .skip
  refine bX (g+g1+g2+g3) 60 (aD Tryz.func298) (by kernel_rfl) λ M hM=>?_
  simp(config:={maxSteps:=4000000})(disch:=first|decide+kernel|omega|simp only[Wq,aa])only[Tryz.f298,Aq,av,reduceIte,aa,ak,zj,uC,kL,hBe,m1,m2,m3,a1,a2,a3,iZ,gA,h8,h50,hg,h1,h2,h3,lB]<;>rfl
 .skip
  refine bX (g) 60 (aD Tryz.func298) (by kernel_rfl) λ M hM=>?_
  simp(config:={maxSteps:=4000000})(disch:=first|decide+kernel|omega|simp only[Wq,aa])only[Tryz.f298,Aq,av,reduceIte,aa,ak,zj,uC,kL,hBe,m1,m2,m3,a1,a2,a3,iZ,gA,h8,h50,hg,lB]<;>rfl
def zZ:=cu zM
def IK:aH:=sub zZ [1,1,0,0]
def Xs:zM.body=U (.seq (sub zZ [0]) (.seq (sub zZ [1,0]) (.block 0 (.loop IK)))):=by kernel_rfl
variable {m:Nat}
def qe0{l:List UInt8}{x:I}(h:iw A b l x)(hm:0<Z l->m≠0):∃v A',az O 294 [x,iN 0,iN (Z l),.int .i64 m] A v A'/\v=cQ/\Kp A A':=by
 refine cZ (aD Tryz.func294) Xs (by kernel_rfl) ?_;have hl:=h.2.2;apply W.q2
 .intro M _;simp(disch:=omega)only[zZ,zM,Aq,aa];rfl
 apply W.block;apply W.round;by_cases h12:Z l<=12
 .obtain⟨v,B,⟨g,hg⟩,rfl,rfl⟩:=qeC h;apply W.cC (g) 20
  .intro M hM;simp(disch:=first|decide+kernel|omega)only[IK,zZ,zM,Aq,aa,kL,h12,hg];rfl
  exact⟨by simp,rfl,_,(by simp only[zM,Aq,aa]<;>rfl),rfl,Kp.refl _⟩
 .obtain⟨p,B,⟨g,hg⟩,kB⟩:=qe1 h (by omega);obtain⟨v,C,⟨g2,hg2⟩,rfl,rfl⟩:=qe8 (h.kp kB) (by omega);have hm:=hm (by omega);apply W.cC (g+g2) 20
  .intro M hM;simp(config:={maxSteps:=4000000})(disch:=first|decide+kernel|omega|simp only[Wq,aa])only[IK,zZ,zM,Aq,av,reduceIte,aa,ak,kL,h12,hg,hg2,hm,c7,dc,Fq,bQ []];rfl
  exact⟨by simp,rfl,_,(by simp only[zM,Aq,aa]<;>rfl),rfl,kB⟩
def PB{l:List UInt8}(hl:(aL (Z l) 256&&(lM 256).all λ i=>aL (l.getD i 0).toNat (fS i))=ae)(h:n<256):uL O 9 (ai l) (.int .u8 n)=.ok (bN (fS n)):=PA hl h
def qeG(hn:n<=256):∃m:Nat,(0<n->m≠0)/\az O 261 [.int .u64 n] A (.int .i64 m) A:=by
 have k1:¬4294967296<=n:=by omega
 have k2:¬65536<=n:=by omega
 by_cases h:n<256
 .have k3:¬256<=n:=by omega
  have hb:=HX h;have hp:0<n->fS n≠0:=λ h=>by unfold fS;rw[ax (by omega)];omega
  have c1:=eX (k:=.u64) (by rw[dH];rfl) u5 (qc h);have c2:=eX (tb:=O) (s:=5) (d:=3) (k:=.u8) (n:=fS n) (by rw[u5];rfl) u3 (ct (by omega));refine⟨fS n,hp,?_⟩;refine cq 60 (aD Tryz.func261) (by kernel_rfl) λ M=>?_
  simp(disch:=first|decide+kernel|omega)only[Tryz.f261,Aq,aa,iZ,gA,k1,k2,k3,c1,c2,PB,ep]<;>rfl
 .have e:n=256:=by omega
  subst e;have c1:=eX (tb:=O) (s:=113) (d:=5) (k:=.u64) (n:=256>>>8) (by rw[dH];rfl) u5 (by rfl);have c2:=eX (tb:=O) (s:=5) (d:=3) (k:=.u8) (n:=fS (256>>>8)) (by rw[u5];rfl) u3 (by kernel_rfl);refine⟨8+fS (256>>>8),by omega,?_⟩;refine cq 60 (aD Tryz.func261) (by kernel_rfl) λ M=>?_
  simp only[Tryz.f261,Aq,aa,iZ,gA,k1,k2,aI,c1,c2,PB,La,ep]<;>rfl
def qh8:O.aB 321=U (.int .u64):=by kernel_rfl
def qdM(hn:n<=256):∃m:Nat,(0<n->m≠0)/\az O 230 [.int .u64 n] A (.int .i64 m) A:=by
 obtain⟨m,hm,g,hg⟩:=qeG (A:=A) hn;refine⟨m,hm,?_⟩;refine bX (g) 60 (aD Tryz.func230) (by kernel_rfl) λ M hM=>?_
 simp(disch:=omega)only[Tryz.f230,Aq,aa,hg]<;>rfl
def qfK{l:List UInt8}{x:I}(h:iw A b l x):∃A',az O 289 [x] A cQ A'/\Kp A A':=by
 obtain⟨m,hm,g,hg⟩:=qdM (A:=A) h.2.2;obtain⟨v,B,⟨g2,h2⟩,rfl,kB⟩:=qe0 h hm;have hl:=h.2.2;have lx:=h.len;have cv:=eX (k:=.i64) (n:=Z l) (by rw[u3];rfl) qh8 (fM (by omega));refine⟨B,?_,kB⟩;refine bX (g+g2) 60 (aD Tryz.func289) (by kernel_rfl) λ M hM=>?_
 simp(disch:=first|decide+kernel|omega)only[Tryz.f289,Aq,aa,lx,cv,hg,h2]<;>rfl
def qdH{a:cr}{b:UInt8}{pb pa:Nat}(h1:VB A 5 pb (.var 1) [bN b.toNat])(h2:VB A 3 pa (.var 1) [.int .i64 i])(ht:a.to<i):∃v A',az O 292 [.agg ⟨bP a⟩,pV pb,pV pa] A v A'/\v=.bool (decide (a.byte=b))/\Kp A A':=by
 have k:=Kp.alloc A (af 246 (bP a));have v:=aQ A 246 (bP a);refine⟨_,A.alloc (af 246 (bP a)),?_,rfl,k⟩;have h1:=h1.kp k;have h2:=h2.kp k;generalize hB:A.alloc (af 246 (bP a))=B at v h1 h2;have l0:aj O B.get 5 (pw A.next 0)=.ok (bN a.byte.toNat):=v.ld rfl u5 rfl;have l1:aj O B.get 5 (pw pb 0)=.ok (bN b.toNat):=h1.ld rfl u5 rfl;have l2:aj O B.get 3 (pw A.next (0+2))=.ok (.int .i64 a.to):=v.ld rfl u3 rfl;have l3:aj O B.get 3 (pw pa 0)=.ok (.int .i64 i):=h2.ld rfl u3 rfl;have hz:¬a.to<0:=by omega
 simp only[pV];by_cases he:a.byte=b
 .subst he;rw[decide_eq_true rfl];refine cq 60 (aD Tryz.func292) (by kernel_rfl) λ M=>?_
  simp(config:={maxSteps:=4000000})(disch:=first|decide+kernel|omega|simp only[Wq,aa])only[Tryz.f292,Aq,av,reduceIte,aa,ak,a7,hB,yK,tG,l0,l1,l2,l3,iZ,gA,hz,ht,a8]<;>rfl
 .have hn:¬(a.byte.toNat=b.toNat):=λ h=>he (td.1 h)
  rw[decide_eq_false he];refine cq 60 (aD Tryz.func292) (by kernel_rfl) λ M=>?_
  simp(disch:=first|decide+kernel|omega)only[Tryz.f292,Aq,aa,a7,hB,yK,tG,l0,l1,l2,l3,iZ,gA,hz,ht,hn]<;>rfl
def uA:=cu zL
def IJ:aH:=sub uA [1,0,1,0,0]
def Xr:zL.body=U (.seq (sub uA [0]) (.seq (.seq (sub uA [1,0,0]) (.block 0 (.loop IJ))) (.seq (sub uA [1,1,0]) (sub uA [1,1,1])))):=by kernel_rfl
def qeA{l:List cr}{x:I}{pb pa:Nat}{a:cr}(hx:gd A l x)(h1:VB A 5 pb (.var 1) [bN a.byte.toNat])(h2:VB A 3 pa (.var 1) [.int .i64 n])(ht:∀a∈l,a.to<n)(hp:(l.map (·.byte)).Pairwise (·<·))(hl:Z l<=256)(hi:l[i]?=U a):
 ∃v A',az O 291 [x,.func (.func 292) ⟨[]⟩ ⟨[pV pb,pV pa]⟩] A v A'/\v=.int .i64 i/\Kp A A':=by
 refine cZ (aD Tryz.func291) Xr (by kernel_rfl) ?_;obtain⟨hil,hia⟩:=bU.1 hi;have lx:=hx.len;simp only[pV];apply W.q
 .intro M;simp(disch:=first|decide+kernel|omega)only[uA,zL,Aq,aa];rfl
 apply W.seq;apply W.q
 .intro M;simp(disch:=first|decide+kernel|omega)only[uA,zL,Aq,aa,lx];rfl
 apply W.block;refine W.up i (λ k t D=>Kp A D/\Sl t [(0,x),(1,.func (.func 292) ⟨[]⟩ ⟨[pw pb 0,pw pa 0]⟩),(7,iN (Z l)),(8,.int .i64 k)]) ?_ (a8 _) ⟨Kp.refl _,?_⟩
 .rintro k t D hk ⟨kD,g0,g1,g7,g8,-⟩;have hkl:k<Z l:=by omega
  have hlk:l[k]?=U l[k]:=aZ hkl;obtain⟨p,q1,q2⟩:=(hx.kp kD).at hlk;obtain⟨v,E,⟨g,hg⟩,rfl,kE⟩:=qdH (h1.kp kD) (h2.kp kD) (ht _ (ff hkl));simp only[pV]at hg;by_cases he:k=i
  .subst he;have:l[k]=a:=hia;rw[this]at hg q2;rw[decide_eq_true rfl]at hg;apply W.cC (g) 20
   .intro M hM;simp(disch:=first|decide+kernel|omega)only[IJ,uA,zL,Aq,aa,g0,g1,g7,g8,hkl,q1,q2,hg];rfl
   exact⟨by simp,rfl,_,(by simp only[zL,Aq,aa]<;>rfl),rfl,kD.trans kE⟩
  .have hlt:=tY.1 hp k i (by rw[bc];omega) (by rw[bc];omega) (by omega);rw[zu,zu,hia]at hlt;rw[decide_eq_false (λ h=>by rw[h]at hlt;exact aU hlt (UInt8.lt_irrefl _))]at hg;apply W.cC (g) 20
   .intro M hM;simp(disch:=first|decide+kernel|omega)only[IJ,uA,zL,Aq,aa,g0,g1,g7,g8,hkl,q1,q2,hg];rfl
   refine⟨by omega,_,_,rfl,kD.trans kE,?_⟩;simp only[Sq,aa,ak,g0,g1,g7]
 .simp only[Sq,aa,ak]
def dA.get{s:aw}(h:dA A M y)(hi:M[i]?=U s):
 ∃x p q,eE O 112 y (.int .i64 i)=.ok p/\bK O 186 p 0=.ok q/\gd A s.arcs x/\∀A',Kp A A'->aj O A'.get 186 p=.ok (.agg ⟨aS x s⟩)/\aj O A'.get 184 q=.ok x:=by
 obtain⟨b,rows,h1,h2,h3⟩:=h;obtain⟨x,e1,e2⟩:=h3 i s hi;have hl:i<Z rows:=(bU.1 e1).1;obtain⟨d,hd1,hd2⟩:=cF (t:=186) (p:=ae) (by kernel_rfl);refine⟨x,_,_,aq.idx h1 eg gV hl,eT,e2,λ A' k=>?_⟩;have h1:=h1.same k.1 (k.2 b);have:=aq.load (tb:=O) (j:=0) h1 f_ rfl e1 rfl (by omega);exact⟨aq.cg h1 hd1 hd2 gV e1,by rwa[eo]at this⟩
def SL{k:I}{s:aw}{a:cr}(h:dA A M y)(hn:M[n]?=U s)(ht:∀a∈s.arcs,a.to<n)(hp:(s.arcs.map (·.byte)).Pairwise (·<·))(hl:Z s.arcs<=256)(hj:s.arcs[j]?=U a):
 ∃v A',az O 281 [.agg ⟨[y,k]⟩,.int .i64 n,bN a.byte.toNat] A v A'/\v=.tuple ⟨[.int .i64 a.to,.int .u64 a.out,.bool ae]⟩/\Kp A A':=by
 have kB:=Kp.alloc A (af 115 [y,k]);have vB:=aQ A 115 [y,k];generalize hB:A.alloc (af 115 [y,k])=B at kB vB;have kC:=Kp.alloc B (af 3 [.int .i64 n]);have vC:=aQ B 3 [.int .i64 n];generalize hC:B.alloc (af 3 [.int .i64 n])=C at kC vC;have kD:=Kp.alloc C (af 5 [bN a.byte.toNat]);have vD:=aQ C 5 [bN a.byte.toNat];generalize hD:C.alloc (af 5 [bN a.byte.toNat])=D at kD vD;have vC:=vC.kp kD;have vB:=vB.kp (kC.trans kD);have kAD:=(kB.trans kC).trans kD;have hS:=h.kp kAD;obtain⟨hnl,-⟩:=bU.1 hn;have lenD:=hS.len;obtain⟨x,p,q,i1,i2,hx,i4⟩:=hS.get hn;obtain⟨v,E,⟨g,hg⟩,rfl,kE⟩:=qeA hx vD vC ht hp hl hj;obtain⟨r,j1,j2⟩:=(hx.kp kE).at hj;have kF:=Kp.alloc E (af 246 (bP a));have vF:=aQ E 246 (bP a);have sF:=Du (D:=E) (a:=a);generalize hF:E.alloc (af 246 (bP a))=F at kF vF sF;have ly:∀G,Kp D G->aj O G.get 112 (pw A.next 0)=.ok y:=λ G hG=>(vB.kp hG).ld rfl eg rfl
 have l1:=ly D (Kp.refl _);have l2:=ly E kE;have l3:∀G,Kp D G->aj O G.get 3 (pw B.next 0)=.ok (.int .i64 n):=λ G hG=>(vC.kp hG).ld rfl u3 rfl
 have l4:=l3 D (Kp.refl _);have l5:=l3 E kE;have i5:=(i4 D (Kp.refl _)).2;have i6:=(i4 E kE).2;have o1:aj O F.get 113 (pw E.next (0+1))=.ok (.int .u64 a.out):=vF.ld rfl dH rfl;have o2:aj O F.get 3 (pw E.next (0+2))=.ok (.int .i64 a.to):=vF.ld rfl u3 rfl;have hz:¬n<0:=by omega
 have hz2:¬Z M<=n:=by omega
 have hz3:¬j<0:=by omega
 refine⟨_,F,?_,rfl,kAD.trans (kE.trans kF)⟩;simp only[pV]at hg;refine bX (g) 60 (aD Tryz.func281) (by kernel_rfl) λ M hM=>?_
 simp(config:={maxSteps:=4000000})(disch:=first|decide+kernel|omega|simp only[Wq,aa])only[Tryz.f281,Aq,av,reduceIte,aa,ak,a7,hB,hC,hD,gi,l1,l2,l4,l5,lenD,iZ,gA,hz,hz2,hz3,i1,i2,i5,i6,ki,hg,j1,j2,zi,sF,wP,tG,o1,o2,Fq,bQ []]<;>rfl
def pZ:=cu tc
def II:aH:=sub pZ [1,1,0,1,0,0]
def Xq:tc.body=U (.seq (sub pZ [0]) (.seq (sub pZ [1,0]) (.seq (.seq (sub pZ [1,1,0,0]) (.block 0 (.loop II))) (.seq (sub pZ [1,1,1,0]) (sub pZ [1,1,1,1]))))):=by kernel_rfl
def qdX{l:List UInt8}{x:I}(h:iw A b l x):∃v A',az O 290 [x] A v A'/\v=x/\A'=A:=by
 refine cZ (aD Tryz.func290) Xq (by kernel_rfl) ?_;have hl:=h.2.2;have lx:=h.len;apply W.q
 .intro M;simp(disch:=first|decide+kernel|omega)only[pZ,tc,Aq,aa];rfl
 apply W.seq;by_cases h2:Z l<2
 .apply W.run 20
  .intro M;simp(disch:=first|decide+kernel|omega)only[pZ,tc,Aq,aa,lx,h2];rfl
  exact⟨by simp,rfl,_,(by simp only[tc,Aq,aa]<;>rfl),rfl,rfl⟩
 .apply W.run 20
  .intro M;simp(disch:=first|decide+kernel|omega)only[pZ,tc,Aq,aa,lx,h2];rfl
  apply W.seq;apply W.q
  .intro M;simp(disch:=first|decide+kernel|omega)only[pZ,tc,Aq,aa];rfl
  apply W.block;refine W.up (Z l-1) (λ k t D=>D=A/\Sl t [(0,x),(3,iN (k+1))]) ?_ (a8 _) ⟨rfl,?_⟩
  .rintro k t D hk ⟨rfl,g0,g3,-⟩;by_cases hlt:k+1<Z l
   .obtain⟨i1,i2⟩:=h.at hlt;obtain⟨j1,j2⟩:=h.at (i:=k) (by omega);have hle:=h.le (i:=k) (j:=k+1) (by omega) hlt;have hne:¬(l[k+1].toNat=(l[k]'(by omega)).toNat):=λ e=>by
     have:=BV.1 (tY.1 h.2.1 k (k+1) (by omega) hlt (by omega));omega
    have s1:a_ .sub .i64 ((k+1:Nat):Int) ((1:Nat):Int)=.ok (iN k):=eQ (by omega) (ct (by omega));apply W.run 20
    .intro M;simp(config:={maxSteps:=4000000})(disch:=first|decide+kernel|omega|simp only[Wq,aa])only[II,pZ,tc,Aq,av,reduceIte,aa,ak,g0,g3,lx,hlt,s1,i1,i2,j1,j2,hne,Fq,bQ []];rfl
    refine⟨by omega,_,_,rfl,rfl,?_⟩;simp only[Sq,aa,ak,g0]
   .apply W.run 20
    .intro M;simp(disch:=first|decide+kernel|omega)only[II,pZ,tc,Aq,aa,g0,g3,lx,hlt];rfl
    apply W.run 40
    .intro M;simp(disch:=first|decide+kernel|omega)only[pZ,tc,Aq,aa,g0];rfl
    exact⟨by simp,rfl,_,(by simp only[tc,Aq,aa]<;>rfl),rfl,rfl⟩
  .simp only[Sq,aa,ak]
def pn:=cu uq
def IG:aH:=sub pn [1,1,0,1,0,0]
def Xp:uq.body=U (.seq (sub pn [0]) (.seq (sub pn [1,0]) (.seq (.seq (sub pn [1,1,0,0]) (.block 0 (.loop IG))) (.seq (sub pn [1,1,1,0]) (.seq (sub pn [1,1,1,1,0]) (sub pn [1,1,1,1,1])))))):=by kernel_rfl
def Wk(a:Int):eO O 74 1 [(0,.int .u8 a)]=.ok (af 5 [.int .u8 a],.dZ 1 2):=by kernel_rfl
def Sp{k:I}{s:aw}(h:dA A M y)(hn:M[n]?=U s)(ht:∀a∈s.arcs,a.to<n)(hp:(s.arcs.map (·.byte)).Pairwise (·<·))(hl:Z s.arcs<=256)(hM:Z M<1000000):
 ∃v A',az O 280 [.agg ⟨[y,k]⟩,.int .i64 n] A v A'/\Kp A A'/\∃b,iw A' b (s.arcs.map (·.byte)) v/\A.next<=b:=by
 obtain⟨v,A',h1,h2⟩:∃v A',az O 280 [.agg ⟨[y,k]⟩,.int .i64 n] A v A'/\(Kp A A'/\∃b,iw A' b (s.arcs.map (·.byte)) v/\A.next<=b):=by
  refine cZ (aD Tryz.func280) Xp (by kernel_rfl) ?_;have kB:=Kp.alloc A (af 115 [y,k]);have vB:=aQ A 115 [y,k];apply W.q
  .intro M;simp(disch:=first|decide+kernel|omega)only[pn,uq,Aq,aa,a7];rfl
  have hS:=h.kp kB;generalize A.alloc (af 115 [y,k])=B at kB vB hS;obtain⟨hnl,-⟩:=bU.1 hn;have ly:aj O B.get 112 (pw A.next 0)=.ok y:=vB.ld rfl eg rfl;have cd:=hS.len;obtain⟨x,p,q,i1,i2,hx,i4⟩:=hS.get hn;have i5:=(i4 B (Kp.refl _)).2;have lx:=hx.len;have hz:¬n<0:=by omega
  have hz2:¬Z M<=n:=by omega
  obtain⟨ti,ht1,ht2⟩:=GJ;apply W.q
  .intro M;simp(config:={maxSteps:=4000000})(disch:=first|decide+kernel|omega|simp only[Wq,aa])only[pn,uq,Aq,av,reduceIte,aa,ak,hz,hz2,gi,ly,cd,iZ,gA];rfl
  apply W.seq;apply W.q
  .intro M;simp(disch:=first|decide+kernel|omega)only[pn,uq,Aq,aa,gi,ly,i1,i2,i5,lx];rfl
  apply W.block;refine W.up (Z s.arcs) (λ i t D=>(∃b z,eS D 5 b (c6 ((s.arcs.take i).map (·.byte))) z/\B.next<=b/\Kp B D/\Sl t [(1,.int .i64 n),(4,z),(21,x),(22,iN (Z s.arcs)),(23,.int .i64 i)])) ?_ (a8 _) ⟨B.next,.slice V 0 0,.inl ⟨rfl,rfl⟩,aI _,Kp.refl _,?_⟩
  .rintro i t D hi ⟨b,z,hz,hb,kD,g1,g4,g21,g22,g23,-⟩;by_cases hlt:i<Z s.arcs
   .have hsi:s.arcs[i]?=U s.arcs[i]:=aZ hlt;have htk:(s.arcs.take (i+1)).map (·.byte)=(s.arcs.take i).map (·.byte)++[(s.arcs[i]).byte]:=by rw[d_ hlt,gg];rfl
    have hto:=ht _ (ff hlt);obtain⟨r,q1,q2⟩:=(hx.kp kD).at hsi;generalize s.arcs[i]=a at*;have sE:=Du (D:=D) (a:=a);have vE:=aQ D 246 (bP a);have kE:=Kp.alloc D (af 246 (bP a));generalize D.alloc (af 246 (bP a))=E at sE vE kE;have l0:aj O E.get 5 (pw D.next 0)=.ok (bN a.byte.toNat):=vE.ld rfl u5 rfl;have l2:aj O E.get 3 (pw D.next (0+2))=.ok (.int .i64 a.to):=vE.ld rfl u3 rfl;have kF:=Kp.alloc E (af 5 [bN a.byte.toNat]);have hzF:=hz.same (kE.trans kF).1 ((kE.trans kF).2 b);obtain⟨z',G,happ,hs3,hn3,hf3⟩:=hzF.append (tb:=O) (st:=74) (xt:=74) Gg Gg G5 ht1 (by omega) (by omega) (by unfold c6;simp;omega) (de E _) rfl;rw[aG]at hs3 hn3 hf3;apply W.run 20
    .intro M;simp(config:={maxSteps:=4000000})(disch:=first|decide+kernel|omega|simp only[Wq,aa])only[IG,pn,uq,Aq,av,reduceIte,aa,ak,g1,g4,g21,g22,g23,hlt,q1,q2,zi,a7,sE,yK,tG,l0,l2,iZ,gA,a8,hto,Wk,happ];rfl
    have n1:=kD.1;have n2:=kE.1;refine⟨hlt,_,_,rfl,E.next+1,z',?_,by omega,⟨by omega,λ w hw=>by rw[hf3 w (by omega) (by omega),(kE.trans kF).2 w (by omega),kD.2 w hw]⟩,?_⟩
    .rw[htk];unfold c6;rw[gg];exact hs3
    .simp only[Sq,aa,ak,g1,g21,g22]
   .have e:i=Z s.arcs:=by omega
    subst e;rw[dU]at hz;have hR:iw D b (s.arcs.map (·.byte)) z:=⟨hz,hp,by rw[bc];exact hl⟩;obtain⟨E,⟨e1,h1⟩,kE⟩:=qfK hR;obtain⟨v,F,⟨e2,h2⟩,rfl,rfl⟩:=qdX (hR.kp kE);apply W.run 20
    .intro M;simp(disch:=first|decide+kernel|omega)only[IG,pn,uq,Aq,aa,g22,g23];rfl
    apply W.ic (e1+e2)
    .intro M hM _;simp(disch:=first|decide+kernel|omega)only[pn,uq,Aq,aa,g4,h1,h2];rfl
    apply W.run 20
    .intro M;simp(disch:=first|decide+kernel|omega)only[pn,uq,Aq,aa];rfl
    exact⟨by simp,rfl,_,(by simp only[uq,Aq,aa]<;>rfl),kB.trans (kD.trans kE),b,hR.kp kE,by have:=kB.1;omega⟩
  .simp only[Sq,aa,ak]
 exact⟨v,A',h1,h2⟩
def oR(a:cr):I:=.agg ⟨[.int .i64 a.to,.int .u64 a.out]⟩
def MC{m n:Int}:eu O 342 [(0,.int .i64 m),(1,.int .u64 n)]=.ok (.agg ⟨[.int .i64 m,.int .u64 n]⟩):=by kernel_rfl
def K4{k:I}:az O 242 [.agg ⟨[y,k]⟩,.int .i64 n] A (.func (.func 279) ⟨[]⟩ ⟨[pV A.next,pV (A.next+1)]⟩) ((A.alloc (af 115 [y,k])).alloc (af 3 [.int .i64 n])):=by
 have e:=aG A (af 115 [y,k]);simp only[pV];refine cq 60 (aD Tryz.func242) (by kernel_rfl) λ M=>?_
 simp(disch:=first|decide+kernel|omega)only[Tryz.f242,Aq,aa,a7,uC,e,Ac,ki]<;>rfl
def HE(B:Mem)(ab lp:Nat)(s:aw)(Inv:Nat->Mem->Prop):Prop:=∀(j:Nat) (a:cr) (D:Mem),s.arcs[j]?=U a->Inv j D->B.next<=D.next->(∀z,z<B.next->z≠ab->z≠lp->D.get z=B.get z)->
 ∃E,(∃g,∀M,g<=M->cE O (exec O M) (.round lp [bN a.byte.toNat,oR a]) D=.ok (.val (.bool ae) E))/\Inv (j+1) E/\D.next<=E.next/\∀z,z<D.next->z≠ab->z≠lp->E.get z=D.get z
def uz:=cu rG
def zY:aH:=sub uz [1,0,0]
def M8:rG.body=U (.seq (sub uz [0]) (.block 0 (.loop zY))):=by kernel_rfl
def SN{k:I}{q ab lp:Nat}{s:aw}{Inv:Nat->Mem->Prop}(h:dA A M y)(hn:M[n]?=U s)(ht:∀a∈s.arcs,a.to<n)(hp:(s.arcs.map (·.byte)).Pairwise (·<·))(hl:Z s.arcs<=256)(hM:Z M<1000000)
 (hB:Kp A B)(v1:VB B 115 q (.var 2) [y,k])(v2:VB B 3 (q+1) (.var 1) [.int .i64 n])(hq:ab≠q/\ab≠q+1/\lp≠q/\lp≠q+1/\A.next<=ab/\A.next<=lp/\ab<B.next/\lp<B.next)
 (hK:∀j D E,Inv j D->Kp D E->Inv j E)(hc:HE B ab lp s Inv)(hI:Inv 0 B):
 ∃v C,az O 279 [.func (.yield lp) ⟨[]⟩ ⟨[]⟩,pV q,pV (q+1)] B v C/\Inv (Z s.arcs) C/\B.next<=C.next/\∀z,z<B.next->z≠ab->z≠lp->C.get z=B.get z:=by
 obtain⟨p1,p2,p3,p4,p5,p6,p7,p8⟩:=hq;refine cZ (aD Tryz.func279) M8 (by kernel_rfl) ?_;obtain⟨d,hd1,hd2⟩:=cF (t:=115) (p:=ae) (by kernel_rfl);have uP:∀D:Mem,D.get q=B.get q->aj O D.get 115 (pw q 0)=.ok (.agg ⟨[y,k]⟩):=λ D e=>cg hd1 hd2 (l:=[y,k]) gF (v1.2.same e)
 have ld2:∀D:Mem,D.get (q+1)=B.get (q+1)->aj O D.get 3 (pw (q+1) 0)=.ok (.int .i64 n):=λ D e=>dg u3 rfl (v2.2.same e) rfl
 have a1:=uP B rfl;have a2:=ld2 B rfl;obtain⟨x,C,⟨g,hg⟩,kC,b,hR,hb⟩:=Sp (h.kp hB) hn ht hp hl hM (k:=k);have lx:=hR.len;rw[bc]at lx;simp only[pV];apply W.qG (g)
 .intro M hM;simp(disch:=first|decide+kernel|omega)only[uz,rG,Aq,aa,a1,a2,hg,lx];rfl
 apply W.block;refine W.up (Z s.arcs) (λ j t D=>Inv j D/\B.next<=D.next/\(∀z,z<B.next->z≠ab->z≠lp->D.get z=B.get z)/\iw D b (s.arcs.map (·.byte)) x/\Sl t [(0,.func (.yield lp) ⟨[]⟩ ⟨[]⟩),(1,pw q 0),(2,pw (q+1) 0),(11,x),(12,iN (Z s.arcs)),(13,.int .i64 j)]) ?_ (a8 _) ⟨hK _ _ _ hI kC,kC.1,λ z hz _ _=>kC.2 z hz,hR,?_⟩
 .rintro j t D hj ⟨hI,hn2,hf,hR,g0,g1,g2,g11,g12,g13,-⟩;by_cases hlt:j<Z s.arcs
  .have hsj:s.arcs[j]?=U s.arcs[j]:=aZ hlt;obtain⟨i1,i2⟩:=hR.at (i:=j) (by rw[bc];exact hlt);rw[zu]at i2;have kAD:Kp A D:=⟨by have:=hB.1;omega,λ z hz=>by rw[hf z (by have:=hB.1;omega) (by omega) (by omega),hB.2 z hz]⟩;obtain⟨v,E,⟨g,hg⟩,rfl,kE⟩:=SL (k:=k) (h.kp kAD) hn ht hp hl hsj;generalize s.arcs[j]=a at*;have nE:=kE.1;obtain⟨F,⟨gy,hy⟩,hI2,nF,fF⟩:=hc j a E hsj (hK _ _ _ hI kE) (by omega) (λ z hz h1 h2=>by rw[kE.2 z (by omega),hf z hz h1 h2]);have b1:=uP D (hf q v1.1 (by omega) (by omega));have b2:=ld2 D (hf (q+1) v2.1 (by omega) (by omega));have bd:=MC (m:=(a.to:Int)) (n:=(a.out:Int));unfold oR at hy;apply W.cC (g+gy) 20
   .intro M hM;simp(disch:=first|decide+kernel|omega)only[zY,uz,rG,Aq,aa,g0,g1,g2,g11,g12,g13,hlt,i1,i2,b1,b2,hg,c7,dc,bd,hy];rfl
   refine⟨hlt,_,_,rfl,hI2,by omega,λ z hz h1 h2=>by rw[fF z (by omega) h1 h2,kE.2 z (by omega),hf z hz h1 h2],⟨(hR.kp kE).1.same nF λ hlt=>fF b hlt (by omega) (by omega),hR.2⟩,?_⟩;simp only[Sq,aa,ak,g0,g1,g2,g11,g12]
  .have e:j=Z s.arcs:=by omega
   subst e;apply W.run 20
   .intro M;simp(disch:=first|decide+kernel|omega)only[zY,uz,rG,Aq,aa,g12,g13];rfl
   exact⟨by simp,rfl,_,(by simp only[rG,Aq,aa]<;>rfl),hI,hn2,hf⟩
 .simp only[Sq,aa,ak]
section
variable {T:Type}(o:aw->T)(w:T->T->Nat->T)(z:T)
def iK(acc:List T)(s:aw)(j:Nat):T:=(s.arcs.take j).foldl (λ x a=>w x (acc.getD a.to z) a.out) (o s)
def dq(M:List aw):List T:=M.foldl (λ acc s=>acc++[iK o w z acc s (Z s.arcs)]) []
def U9(M:List aw)(s:aw):dq o w z (M++[s])=dq o w z M++[iK o w z (dq o w z M) s (Z s.arcs)]:=by unfold dq;rw[tV];rfl
def zO(M:List aw):(dq o w z M).length=Z M:=by
 have:∀(l:List aw) (acc:List T),(l.foldl (λ acc s=>acc++[iK o w z acc s (Z s.arcs)]) acc).length=Z acc+Z l:=by
  intro l
  induction l with
  |nil=>intro acc;rfl
  |cons s l ih=>intro acc;rw[mu,ih,aY,cD,cD,eB];omega
 unfold dq;rw[this];simp
def Ge{acc:List T}{s:aw}{a:cr}(h:s.arcs[j]?=U a):iK o w z acc s (j+1)=w (iK o w z acc s j) (acc.getD a.to z) a.out:=by
 obtain⟨hj,rfl⟩:=bU.1 h;unfold iK;rw[d_ hj,tV];rfl
def Md{s:aw}(h:M[i]?=U s):dq o w z (M.take (i+1))=dq o w z (M.take i)++[iK o w z (dq o w z (M.take i)) s (Z s.arcs)]:=by
 obtain⟨hi,rfl⟩:=bU.1 h;rw[d_ hi,U9]
def i_(M:List aw)(i:Nat):List T:=dq o w z (M.take i)++fQ (Z M-i) z
def Gm(h:i<=Z M):(i_ o w z M i).length=Z M:=by unfold i_;rw[aY,zO,df,D7];omega
def R6(h:i<=Z M)(hk:k<i)(v:T):((i_ o w z M i).set i v)[k]?=U ((dq o w z (M.take i)).getD k z):=by
 have hl:=zO o w z (M.take i);rw[df,nf h]at hl;rw[pL,ax (by omega)];unfold i_;rw[fe (by omega),aZ (by omega),m_,aZ (by omega)];rfl
def R7{s:aw}(h:M[i]?=U s):(i_ o w z M i).set i (iK o w z (dq o w z (M.take i)) s (Z s.arcs))=i_ o w z M (i+1):=by
 have hi:=(bU.1 h).1;have hl:=zO o w z (M.take i);rw[df,nf (by omega)]at hl;unfold i_;rw[Md o w z h,Eb _ _ (by omega),hl,iQ,show Z M-i=(Z M-(i+1))+1 by omega,List.replicate_succ,List.set_cons_zero,iC];rfl
end
theorem KD(l:List I):∀n,n_ l n=(fQ n l).flatten
 |0=>rfl
 |n+1=>by
  show l++n_ l n=_;rw[KD l n,List.replicate_succ,vq]
def encI(v:Int):List I:=[.int .i64 v]
def pH(v:Int):I:=.int .i64 v
def zI:Int:=0
def Ba:O.aB 337=U (.slice 3):=by kernel_rfl
def qgF:bk O 337=.ok 1:=by kernel_rfl
def Dm:bk O 3=.ok 1:=by kernel_rfl
def qbx(h:n<=1000000):tK O 337 (.int .i64 (n:Nat)) (.int .i64 (n:Nat))=.ok (af 3 ((fQ n zI).map encI).flatten,.dZ n (2*n)):=by
 have h1:((O.ty.get 3).map λ i=>i.bytes)=U 8:=by kernel_rfl
 have z3:fu O 3=.ok (1,encI zI):=by kernel_rfl
 have e:jx (.int .i64 (n:Nat))=.ok n:=rfl;cases hq:O.ty.get 3 with
 |none=>rw[hq]at h1;cases h1
 |some i=>
  rw[hq]at h1;have h2:i.bytes=8:=by simpa using h1
  have hb:(av n n&&av n 1048576&&av i.bytes 1048576)=ae:=by
   rw[h2];simp;omega
  unfold tK;simp only[Ba,e,R.aW,z3,hq,hb,aJ,KD,List.map_replicate]
def FM{vs:List Int}{x:I}(h:aq A 3 1 b (vs.map encI) x)(hi:i<Z vs):eE O 337 x (.int .i64 i)=.ok (pw b (i*1)):=aq.idx h Ba Dm (by rw[bc];exact hi)
def J1{vs:List Int}{v:Int}{x:I}(h:aq A 3 1 b (vs.map encI) x)(hi:vs[i]?=U v):aj O A.get 3 (pw b (i*1))=.ok (pH v):=by
 have:=aq.load (tb:=O) (i:=i) (j:=0) h u3 rfl (by rw[dN,hi];rfl) rfl (by omega);rwa[eo]at this
def Tu{vs:List Int}{v:Int}{x:I}(h:aq A 3 1 b (vs.map encI) x)(hi:i<Z vs):∃A',cm O A 3 (pw b (i*1)) (pH v)=.ok A'/\aq A' 3 1 b ((vs.set i v).map encI) x/\A'.next=A.next/\∀y,y≠b->A'.get y=A.get y:=by
 have hm:(vs.map encI)[i]?=U (encI vs[i]):=by rw[dN,aZ hi];rfl
 obtain⟨A',h1,h2,h3,h4⟩:=aq.field (tb:=O) (t:=3) (i:=i) (j:=0) (v:=pH v) h Dm hm (by omega) rfl rfl;refine⟨A',by rwa[eo]at h1,?_,h3,h4⟩;rw[D8];exact h2
structure dV where
 n:Nat
 fits:Bool
 any:Bool
def b_(m:dV):List I:=[.int .u64 m.n,.bool m.fits,.bool m.any]
def jA(m:dV):I:=.agg ⟨b_ m⟩
def zG:dV:=⟨0,ag,ag⟩
def Bb:O.aB 343=U (.slice 282):=by kernel_rfl
def qgG:bk O 343=.ok 1:=by kernel_rfl
def qZ:bk O 282=.ok 3:=by kernel_rfl
def yT(m:dV):∀v∈b_ m,bS v=ae:=by simp[b_,bS]
def qbw(h:n<=1000000):tK O 343 (.int .i64 (n:Nat)) (.int .i64 (n:Nat))=.ok (af 282 ((fQ n zG).map b_).flatten,.dZ n (2*n)):=by
 have h1:((O.ty.get 282).map λ i=>i.bytes)=U 24:=by kernel_rfl
 have z3:fu O 282=.ok (3,b_ zG):=by kernel_rfl
 have e:jx (.int .i64 (n:Nat))=.ok n:=rfl;cases hq:O.ty.get 282 with
 |none=>rw[hq]at h1;cases h1
 |some i=>
  rw[hq]at h1;have h2:i.bytes=24:=by simpa using h1
  have hb:(av n n&&av n 1048576&&av i.bytes 1048576)=ae:=by
   rw[h2];simp;omega
  unfold tK;simp only[Bb,e,R.aW,z3,hq,hb,aJ,KD,List.map_replicate]
def FL{vs:List dV}{x:I}(h:aq A 282 3 b (vs.map b_) x)(hi:i<Z vs):eE O 343 x (.int .i64 i)=.ok (pw b (i*3)):=aq.idx h Bb qZ (by rw[bc];exact hi)
def J0{vs:List dV}{v:dV}{x:I}(h:aq A 282 3 b (vs.map b_) x)(hi:vs[i]?=U v):aj O A.get 282 (pw b (i*3))=.ok (jA v):=by
 obtain⟨d,hd1,hd2⟩:=cF (t:=282) (p:=ae) (by kernel_rfl);exact aq.cg h hd1 hd2 qZ (by rw[dN,hi];rfl)
def Tt{vs:List dV}{v:dV}{x:I}(h:aq A 282 3 b (vs.map b_) x)(hi:i<Z vs):∃A',cm O A 282 (pw b (i*3)) (jA v)=.ok A'/\aq A' 282 3 b ((vs.set i v).map b_) x/\A'.next=A.next/\∀y,y≠b->A'.get y=A.get y:=by
 obtain⟨A',h1,h2,h3,h4⟩:=aq.store (tb:=O) (t:=282) (i:=i) (l:=b_ v) h qZ (by omega) (by rw[bc];exact hi) rfl (yT v);refine⟨A',h1,?_,h3,h4⟩;rw[D8];exact h2
def kQ:=cu pc
def iT:aH:=sub kQ [1,1,0,1,0,0]
def W8:pc.body=U (.seq (sub kQ [0]) (.seq (sub kQ [1,0]) (.seq (.seq (sub kQ [1,1,0,0]) (.block 0 (.loop iT))) (.seq (sub kQ [1,1,1,0]) (.seq (sub kQ [1,1,1,1,0]) (sub kQ [1,1,1,1,1])))))):=by kernel_rfl
def W9:iT=(.seq (sub iT [0]) (.seq (sub iT [1,0]) (.seq (.block 1 (.seq (sub iT [1,1,0,0,0]) (.seq (sub iT [1,1,0,0,1,0]) (.seq (sub iT [1,1,0,0,1,1,0]) (.block 2 (.rangeFunc (.tmp 32) #[33,34] (sub iT [1,1,0,0,1,1,1,0,0]) (sub iT [1,1,0,0,1,1,1,0,1]))))))) (sub iT [1,1,1])))):=by kernel_rfl
def jO(t:T I)(d:Nat):jd:=mS t 62 [33,34] (sub iT [1,1,0,0,1,1,1,0,0]) (sub iT [1,1,0,0,1,1,1,0,1]) d
def DT(o:aw->Int)(w:Int->Int->Nat->Int)(M:List aw)(i:Nat)(s:aw)(ab lp:Nat)(x:I)(L:jd)(j:Nat)(D:Mem):Prop:=
 aq D 3 1 ab (((i_ o w zI M i).set i (iK o w zI (dq o w zI (M.take i)) s j)).map encI) x/\D.get lp=U (.loop L)/\lp<D.next
def qaj{o:aw->Int}{w:Int->Int->Nat->Int}{s:aw}{ab lp:Nat}{x:I}{L:jd}(j:Nat)(D E:Mem)(h:DT o w M i s ab lp x L j D)(k:Kp D E):DT o w M i s ab lp x L j E:=
 ⟨h.1.same k.1 (k.2 ab),by rw[k.2 _ h.2.2];exact h.2.1,c9 h.2.2 k.1⟩
def Ek(fo:FuncId)(o:aw->Int):Prop:=∀(D:Mem) (x:I) (s:aw),∃E,az O fo [.agg ⟨aS x s⟩] D (pH (o s)) E/\Kp D E
def BW(fw:FuncId)(o:aw->Int)(w:Int->Int->Nat->Int)(M:List aw):Prop:=∀(D:Mem) (i j:Nat) (s:aw) (a:cr),M[i]?=U s->s.arcs[j]?=U a->
 ∃E,az O fw [pH (iK o w zI (dq o w zI (M.take i)) s j),pH ((dq o w zI (M.take i)).getD a.to zI),.int .u64 a.out] D (pH (iK o w zI (dq o w zI (M.take i)) s (j+1))) E/\Kp D E
variable {fw:FuncId}{t:T I}{d:Nat}
def qij{o:aw->Int}{w:Int->Int->Nat->Int}{a lp:Nat}{s:aw}{x:I}(hW:BW fw o w M)(hi:M[i]?=U s)(ht:∀a∈s.arcs,a.to<i)
 (v7:VB B 337 (a+3) (.var 1) [x])(v8:VB B 3 p (.var 1) [.int .i64 i])(v5:VB B 278 (a+1) (.var 1) [.func (.func fw) ⟨[]⟩ ⟨[]⟩])(hp:a+3<p/\p<lp/\lp<B.next)
 (hs:Sl t [(5,pV (a+1)),(7,pV (a+3)),(8,pV p)]):HE B (a+2) lp s (DT o w M i s (a+2) lp x (jO t d)):=by
 rintro j c D hj ⟨hA,hL,hlt⟩ hn hf;obtain⟨g5,g7,g8,-⟩:=hs;obtain⟨p1,p2,p3⟩:=hp;have hil:=(bU.1 hi).1;have hto:=ht c (gJ hj);have hrl:=Gm o w zI (i:=i) (M:=M) (by omega);have sE:cm O (D.alloc (af 342 [iN 0,uN 0])) 342 (pw D.next 0) (oR c)=.ok (D.alloc (af 342 [.int .i64 c.to,.int .u64 c.out])):=fP (by kernel_rfl) rfl rfl (by simp) (by simp[bS]);have z305:dj O 342=.ok (.agg ⟨[iN 0,uN 0]⟩):=by kernel_rfl
 have f0:∀b,bK O 342 (pw b 0) 0=.ok (pw b 0):=λ b=>by kernel_rfl
 have f1:∀b,bK O 342 (pw b 0) 1=.ok (pw b 1):=λ b=>by kernel_rfl
 have kE:=Kp.alloc D (af 342 [.int .i64 c.to,.int .u64 c.out]);have vE:=aQ D 342 [.int .i64 c.to,.int .u64 c.out];have nE:=aG D (af 342 [.int .i64 c.to,.int .u64 c.out]);generalize D.alloc (af 342 [.int .i64 c.to,.int .u64 c.out])=E at sE kE vE nE;have hLE:E.get lp=U (.loop (jO t d)):=by rw[kE.2 _ hlt];exact hL
 generalize hF:E.set lp (.loop {jO t d with state:=.busy})=F;have nF:F.next=E.next:=by rw[<-hF];exact cU _ _ _
 have fF:∀z,z≠lp->F.get z=E.get z:=λ z hz=>by rw[<-hF,cN,ax hz]
 have hLF:F.get lp=U (.loop {jO t d with state:=.busy}):=by rw[<-hF,cN,aA rfl]
 have hBF:∀z,z<B.next->z≠a+2->z≠lp->F.get z=B.get z:=λ z hz h1 h2=>by rw[fF z h2,kE.2 z (by omega),hf z hz h1 h2]
 have hAF:=hA.same (A':=F) (by omega) λ hlt=>by rw[fF _ (by omega),kE.2 _ hlt]
 obtain⟨G,⟨g,hg⟩,kG⟩:=hW F i j s c hi hj;have gP:∀e z k l,VB B e z k l->z≠a+2->z≠lp->VB F e z k l:=λ e z k l h h1 h2=>⟨by have:=h.1;omega,h.2.same (hBF z h.1 h1 h2)⟩
 have w7:=gP _ _ _ _ v7 (by omega) (by omega);have w8:=gP _ _ _ _ v8 (by omega) (by omega);have w5:=gP _ _ _ _ v5 (by omega) (by omega);have l7:=λ G h=>(w7.kp (A':=G) h).l0 Ba rfl
 have l8:=λ G h=>(w8.kp (A':=G) h).l0 u3 rfl
 have l5:aj O F.get 278 (pw (a+1) 0)=.ok (.func (.func fw) ⟨[]⟩ ⟨[]⟩):=by
  obtain⟨d,hd1,hd2⟩:=cF (by kernel_rfl);exact w5.ld rfl hd1 hd2
 have r7:=l7 F (Kp.refl _);have r8:=l8 F (Kp.refl _);have r7':=l7 G kG;have r8':=l8 G kG;have vF:VB F 342 D.next (.var 2) [.int .i64 c.to,.int .u64 c.out]:=⟨by omega,vE.2.same (fF _ (by omega))⟩
 have e0:=vF.l0 u3 rfl;have e1:=vF.l1 dH rfl;have i1:=FM hAF (i:=i) (by rw[dS];omega);have i2:=FM hAF (i:=c.to) (by rw[dS];omega);have d1:=J1 hAF (by rw[pL,aA rfl,aA (by omega)]);have d2:=J1 hAF (R6 o w zI (by omega) hto _);have hAG:=hAF.same kG.1 (kG.2 _);obtain⟨H,sH,hAH,nH,fH⟩:=Tu (v:=iK o w zI (dq o w zI (M.take i)) s (j+1)) hAG (i:=i) (by rw[dS];omega);rw[List.set_set]at hAH;have nG:=kG.1;have hLH:H.get lp=U (.loop {jO t d with state:=.busy}):=by rw[fH _ (by omega),kG.2 _ (by omega)];exact hLF
 have sx:=(aq.DD (by omega) hAF).self 99;have si:=pE .i64 i rfl;simp only[pV]at g5 g7 g8;have hq:∃C,(∃g,∀N,g<=N->cE O (exec O N) (.round lp [bN c.byte.toNat,oR c]) D=.ok (.val (.bool ae) C))/\C=H.set lp (.loop (jO t d)):=by
  refine Dj hL (t:=(t.set 33 (bN c.byte.toNat)).set 34 (oR c)) rfl ?_;show W O (sub iT [1,1,0,0,1,1,1,0,0]) ⟨_,62,[],D,U lp⟩ _;apply W.run 20
  .intro M;simp(disch:=first|decide+kernel|omega)only[iT,kQ,pc,Aq,aa,z305,a7,sE];rfl
  refine⟨rfl,_,hLE,rfl,?_⟩;show W O (sub iT [1,1,0,0,1,1,1,0,1]) ⟨_,62,[],E.set lp (.loop {jO t d with state:=.busy}),U lp⟩ _;rw[hF];apply W.cC (g) 20
  .intro M hM;simp(config:={maxSteps:=4000000})(disch:=first|decide+kernel|omega|simp only[Wq,aa])only[iT,kQ,pc,Aq,av,reduceIte,aa,ak,g5,g7,g8,r7,r8,r7',r8',l5,f0,f1,e0,e1,i1,i2,d1,d2,hg,sH,sx,si,Fq,bQ [(0,14),(1,14)]];rfl
  exact⟨rfl,rfl,_,hLH,rfl⟩
 obtain⟨C,hc,rfl⟩:=hq;have fr:∀z,z≠lp->(H.set lp (.loop (jO t d))).get z=H.get z:=λ z hz=>by rw[cN,ax hz]
 have nr:(H.set lp (.loop (jO t d))).next=H.next:=cU _ _ _
 refine⟨_,hc,⟨hAH.same (by omega) λ _=>fr _ (by omega),by rw[cN,aA rfl],by omega⟩,by omega,λ z hz h1 h2=>?_⟩;rw[fr z h2,fH z h1,kG.2 z (by omega),fF z h2,kE.2 z hz]
def Hz(o:aw->Int)(w:Int->Int->Nat->Int)(M:List aw)(B:Mem)(a:Nat)(x:I)(i:Nat)(D:Mem)(ds:List Nat):Prop:=
 aq D 3 1 (a+2) ((i_ o w zI M i).map encI) x/\(∀z,z<B.next->z≠a+2->D.get z=B.get z)/\B.next<=D.next/\ds.Nodup/\∀d∈ds,B.next<=d/\d<D.next/\D.get d=U .defd
def qiE:dj O 337=.ok (.slice V 0 0):=by kernel_rfl
def qc4{fo:FuncId}{o:aw->Int}{w:Int->Int->Nat->Int}{D:Mem}{k x:I}{a:Nat}{s:aw}{ds:List Nat}(h:dA A M y)(hg:eM M)(hl:Z M<1000000)(hO:Ek fo o)(hW:BW fw o w M)(hi:M[i]?=U s)
 (hB:Kp A B)(ha:A.next=a/\B.next=a+3+1)(v3:VB B 115 a (.var 2) [y,k])(v5:VB B 278 (a+1) (.var 1) [.func (.func fw) ⟨[]⟩ ⟨[]⟩])(v7:VB B 337 (a+3) (.var 1) [x])(hR:Hz o w M B a x i D ds)
 (hs:Sl t [(1,.func (.func fo) ⟨[]⟩ ⟨[]⟩),(3,pV a),(5,pV (a+1)),(6,iN 0),(7,pV (a+3)),(17,y),(18,iN (Z M)),(19,.int .i64 i)]):
 W O iT ⟨t,62,ds,D,V⟩ λ e s'=>e=.nrm/\∃t' D' d',s'=⟨t',62,d',D',V⟩/\Hz o w M B a x (i+1) D' d'/\
  Sl t' [(1,.func (.func fo) ⟨[]⟩ ⟨[]⟩),(3,pV a),(5,pV (a+1)),(6,iN 0),(7,pV (a+3)),(17,y),(18,iN (Z M)),(19,iN (i+1))]:=by
 obtain⟨hA,hf,hn,hnd,hds⟩:=hR;obtain⟨g1,g3,g5,g6,g7,g17,g18,g19,-⟩:=hs;obtain⟨ha1,ha2⟩:=ha;have hil:=(bU.1 hi).1;obtain⟨-,k2,k3,-,-⟩:=hg i s hi;have hfew:=w_ (hg i s hi);have hrl:=Gm o w zI (i:=i) (M:=M) (by omega);have kAD:Kp A D:=⟨by omega,λ z hz=>by rw[hf z (by omega) (by omega),hB.2 z hz]⟩;obtain⟨xs,p,q,i1,i2,hx,i4⟩:=(h.kp kAD).get hi;have i5:=(i4 D (Kp.refl _)).1;have k1:=Kp.alloc D (af 3 [iN 0]);have n1:=aG D (af 3 [iN 0]);have n2:((D.alloc (af 3 [iN 0])).alloc (af 186 [.slice V 0 0,.bool ag,uN 0])).next=D.next+2:=by rw[aG,n1]
 have w1:=(aQ D 3 [iN 0]).kp (Kp.alloc _ (af 186 [.slice V 0 0,.bool ag,uN 0]));have w2:=aQ (D.alloc (af 3 [iN 0])) 186 [.slice V 0 0,.bool ag,uN 0];have k2':=k1.trans (Kp.alloc _ (af 186 [.slice V 0 0,.bool ag,uN 0]));rw[n1]at w2;obtain⟨E1,sE1,u1,m1,fE1⟩:=db (t:=3) (o:=0) (v:=.int .i64 i) Dm w1.2 (by simp) rfl rfl;obtain⟨E,sE,u2,m2,fE⟩:=ku (tb:=O) (t:=186) (l':=aS xs s) (by exact gV) (w2.2.same (fE1 _ (by omega))) rfl (by simp) (Gz hx);have hzero3:=zj;have fED:∀z,z<D.next->E.get z=D.get z:=λ z hz=>by rw[fE z (by omega),fE1 z (by omega),k2'.2 z hz]
 have kDE:Kp D E:=⟨by omega,fED⟩;have V8:VB E 3 D.next (.var 1) [.int .i64 i]:=⟨by omega,u1.same (fE _ (by omega))⟩
 have V9:VB E 186 (D.next+1) (.var 3) (aS xs s):=⟨by omega,u2⟩;have gP:∀e z k l,VB B e z k l->z≠a+2->VB E e z k l:=λ e z k l h h1=>⟨by have:=h.1;omega,h.2.same (by rw[fED z (by have:=h.1;omega),hf z h.1 h1])⟩
 have V7:=gP _ _ _ _ v7 (by omega);have V3:=gP _ _ _ _ v3 (by omega);have V5:=gP _ _ _ _ v5 (by omega);have hAE:=hA.same kDE.1 (kDE.2 _);obtain⟨F,⟨gf,hgf⟩,kF⟩:=hO E xs s;obtain⟨d,hd1,hd2⟩:=cF (by kernel_rfl);have l9:=cg hd1 hd2 gV V9.2;have l7:=λ G h=>(V7.kp (A':=G) h).l0 Ba rfl
 have l8:=λ G h=>(V8.kp (A':=G) h).l0 u3 rfl
 have r7:=l7 E (Kp.refl _);have r8:=l8 E (Kp.refl _);have r7':=l7 F kF;have r8':=l8 F kF;have ix:=FM hAE (i:=i) (by omega);obtain⟨G,sG,hAG,nG,fG⟩:=Tu (v:=o s) (hAE.same kF.1 (kF.2 _)) (i:=i) (by omega);have sx:=(aq.DD (by omega) hA).self 99;have si:=pE .i64 i rfl;have nF:=kF.1;have nE:E.next=D.next+2:=by omega
 have fGE:∀z,z<E.next->z≠a+2->G.get z=E.get z:=λ z hz h=>by rw[fG z h,kF.2 z hz]
 have lG8:aj O G.get 3 (pw D.next 0)=.ok (.int .i64 i):=dg u3 rfl (V8.2.same (fGE _ (by omega) (by omega))) rfl;obtain⟨d2,hd3,hd4⟩:=cF (by kernel_rfl);have lG3:=cg hd3 hd4 gF (V3.2.same (fGE _ (by omega) (by omega)));obtain⟨gw,hgw⟩:=K4;have x1:=(aQ G 115 [y,k]).kp (Kp.alloc _ (af 3 [.int .i64 i]));have x2:=aQ (G.alloc (af 115 [y,k])) 3 [.int .i64 i];have y1:=aG G (af 115 [y,k]);have y2:((G.alloc (af 115 [y,k])).alloc (af 3 [.int .i64 i])).next=G.next+2:=by rw[aG,y1]
 have kH:=(Kp.alloc G (af 115 [y,k])).trans (Kp.alloc _ (af 3 [.int .i64 i]));rw[y1]at x2;generalize (G.alloc (af 115 [y,k])).alloc (af 3 [.int .i64 i])=H at hgw x1 x2 y2 kH;simp only[pV]at g3 g5 g7 hgw;rw[W9];apply W.q2
 .intro M _;simp(disch:=decide+kernel)only[iT,kQ,pc,Aq,aa,g18,g19,hil];rfl
 apply W.seq;apply W.block;apply W.ic (gf)
 .intro M hM _;simp(disch:=first|decide+kernel|omega|simp only[Wq,aa])only[iT,kQ,pc,Aq,aa,g17,g19,i1,i5,hzero3,rh,a7,uC,n1,sE1,sE,av,reduceIte,ak,g1,g7,r7,r8,l9,hgf,ix,r7',r8',sx,si,sG,Fq,bQ [(0,4),(1,4)]];rfl
 apply W.qG (gw)
 .intro M hM;simp(disch:=omega)only[iT,kQ,pc,Aq,aa,g3,lG3,lG8,hgw];rfl
 apply W.block;generalize ht0:T.set _ _ _=t0;have hsl:Sl t0 [(1,.func (.func fo) ⟨[]⟩ ⟨[]⟩),(3,pV a),(5,pV (a+1)),(6,iN 0),(7,pV (a+3)),(8,pV D.next),(17,y),(18,iN (Z M)),(19,.int .i64 i),(32,.func (.func 279) ⟨[]⟩ ⟨[pV G.next,pV (G.next+1)]⟩)]:=by
  rw[<-ht0];simp only[Sq,aa,ak,g1,g3,g5,g6,g7,g17,g18,g19,pV]
 clear ht0;obtain⟨h1,h3,h5,h6,h7,h8,h17,h18,h19,h32,-⟩:=hsl;have kJ:=(Kp.alloc H .defd).trans (Kp.alloc (H.alloc .defd) (.loop (jO t0 H.next)));have nJ1:=aG H .defd;have nJ:((H.alloc .defd).alloc (.loop (jO t0 H.next))).next=H.next+2:=by rw[aG,nJ1]
 have jL:((H.alloc .defd).alloc (.loop (jO t0 H.next))).get (H.next+1)=U (.loop (jO t0 H.next)):=by have:=de (H.alloc .defd) (.loop (jO t0 H.next));rwa[nJ1]at this
 have jM:((H.alloc .defd).alloc (.loop (jO t0 H.next))).get H.next=U .defd:=by rw[(Kp.alloc (H.alloc .defd) _).2 _ (by omega)];exact de H .defd
 generalize hJ:(H.alloc .defd).alloc (.loop (jO t0 H.next))=J at kJ nJ jL jM;have kGJ:=kH.trans kJ;have toJ:∀e z k l,VB E e z k l->z≠a+2->VB J e z k l:=λ e z k l h h1=>VB.kp ⟨by have:=h.1;omega,h.2.same (fGE z h.1 h1)⟩ kGJ
 have hJA:DT o w M i s (a+2) (H.next+1) x (jO t0 H.next) 0 J:=⟨hAG.same kGJ.1 (kGJ.2 _),jL,by omega⟩;have fJD:∀z,z<D.next->z≠a+2->J.get z=D.get z:=λ z hz h=>by rw[kGJ.2 z (by omega),fGE z (by omega) h,fED z hz]
 have kAJ:Kp A J:=⟨by omega,λ z hz=>by rw[fJD z (by omega) (by omega),kAD.2 z hz]⟩;obtain⟨v,C,hC,⟨c1,c2,c3⟩,nC,fC⟩:=SN h hi k3 k2 hfew hl kAJ (x1.kp kJ) (x2.kp kJ) ⟨by omega,by omega,by omega,by omega,by omega,by omega,by omega,by omega⟩ qaj
  (qij hW hi k3 (toJ _ _ _ _ V7 (by omega)) (toJ _ _ _ _ V8 (by omega)) (toJ _ _ _ _ V5 (by omega)) ⟨by omega,by omega,by omega⟩ ⟨h5,h7,h8,trivial⟩) hJA
 refine W.Gh (fid:=279) (first:=[]) (capt:=[pV G.next,pV (G.next+1)]) (v:=v) (A':=C) (r:=jO t0 H.next) (e:=.nrm) (by simp only[ev,h32]) (by show az O 279 _ ((H.alloc .defd).alloc (.loop (jO t0 H.next))) v C;rw[hJ];exact hC) c2 (by simp[jO,mS]) (.inl ⟨rfl,rfl⟩) ?_;have c1:aq C 3 1 (a+2) ((i_ o w zI M (i+1)).map encI) x:=by rw[<-R7 o w zI hi];exact c1
 generalize hK:C.set (H.next+1) (.loop {jO t0 H.next with state:=.exhausted})=K;have nK:K.next=C.next:=by rw[<-hK];exact cU _ _ _
 have fK:∀z,z≠H.next+1->K.get z=C.get z:=λ z hz=>by rw[<-hK,cN,ax hz]
 apply W.run 20
 .intro M;simp(disch:=first|decide+kernel|omega)only[iT,kQ,pc,Aq,aa,h19];rfl
 have hJK:∀z,z<J.next->z≠a+2->z≠H.next+1->K.get z=J.get z:=λ z hz h1 h2=>by rw[fK z h2,fC z hz h1 h2]
 refine⟨rfl,_,K,_,rfl,⟨c1.same (by omega) λ _=>fK _ (by omega),λ z hz h1=>by rw[hJK z (by omega) h1 (by omega),fJD z (by omega) h1,hf z hz h1],by omega,vw.2 ⟨λ hm=>?_,hnd⟩,λ d hd=>?_⟩,?_⟩
 .have:=hds _ hm;omega
 .rcases cG.1 hd with rfl|hd
  .exact⟨by omega,by omega,by rw[hJK _ (by omega) (by omega) (by omega),jM]⟩
  .obtain⟨e1,e2,e3⟩:=hds d hd;exact⟨e1,by omega,by rw[hJK _ (by omega) (by omega) (by omega),fJD _ e2 (by omega),e3]⟩
 .simp only[Sq,aa,ak,h1,h3,h5,h6,h7,h17,h18,pV]
def Su{fo:FuncId}{o:aw->Int}{w:Int->Int->Nat->Int}{k:I}(h:dA A M y)(hg:eM M)(hM:M≠ [])(hl:Z M<1000000)(hO:Ek fo o)(hW:BW fw o w M):
 ∃v A',az O 192 [.agg ⟨[y,k]⟩,.func (.func fo) ⟨[]⟩ ⟨[]⟩,.func (.func fw) ⟨[]⟩ ⟨[]⟩] A v A'/\v=pH ((dq o w zI M).getD (Z M-1) zI)/\Kp A A':=by
 refine pS (aD Tryz.func192) W8 (by rw[Tryz.ntmps192];simp) (by kernel_rfl) (by kernel_rfl) ?_;generalize ha:A.next=a
 have hpos:=je.2 hM;have n1:(A.alloc (af 115 [y,k])).next=a+1:=by rw[aG,ha]
 have n2:((A.alloc (af 115 [y,k])).alloc (af 278 [.func (.func fw) ⟨[]⟩ ⟨[]⟩])).next=a+2:=by rw[aG,n1]
 have kB:=(Kp.alloc A (af 115 [y,k])).trans (Kp.alloc _ (af 278 [.func (.func fw) ⟨[]⟩ ⟨[]⟩]));have v3:=(aQ A 115 [y,k]).kp (Kp.alloc _ (af 278 [.func (.func fw) ⟨[]⟩ ⟨[]⟩]));have v5:=aQ (A.alloc (af 115 [y,k])) 278 [.func (.func fw) ⟨[]⟩ ⟨[]⟩];rw[ha]at v3;rw[n1]at v5;apply W.q
 .intro M;simp(disch:=omega)only[kQ,pc,Aq,aa,a7,yC,ha,n1];rfl
 generalize (A.alloc (af 115 [y,k])).alloc (af 278 [.func (.func fw) ⟨[]⟩ ⟨[]⟩])=B at*;have hS:=h.kp kB;have lB:=v3.l0 eg rfl;have cd:=hS.len;have mk:=qbx (n:=Z M) (by omega);have nB:B.next=a+2:=by assumption
 have n4:(B.alloc (af 3 ((fQ (Z M) zI).map encI).flatten)).next=a+3:=by rw[aG,nB]
 have kC:=(Kp.alloc B (af 3 ((fQ (Z M) zI).map encI).flatten)).trans (Kp.alloc _ (af 337 [.slice (U ⟨a+2,0,V⟩) (Z M) (2*Z M)]));have vr:=(aQ B 3 ((fQ (Z M) zI).map encI).flatten).kp (Kp.alloc _ (af 337 [.slice (U ⟨a+2,0,V⟩) (Z M) (2*Z M)]));have v7:=aQ (B.alloc (af 3 ((fQ (Z M) zI).map encI).flatten)) 337 [.slice (U ⟨a+2,0,V⟩) (Z M) (2*Z M)];have sC:cm O ((B.alloc (af 3 ((fQ (Z M) zI).map encI).flatten)).alloc (af 337 [.slice V 0 0])) 337 (pw ((B.alloc (af 3 ((fQ (Z M) zI).map encI).flatten)).next) 0) (.slice (U ⟨a+2,0,V⟩) (Z M) (2*Z M))=.ok _:=fP (l':=[.slice (U ⟨a+2,0,V⟩) (Z M) (2*Z M)]) qgF rfl rfl (by simp) (by simp[bS]);have nC:((B.alloc (af 3 ((fQ (Z M) zI).map encI).flatten)).alloc (af 337 [.slice (U ⟨a+2,0,V⟩) (Z M) (2*Z M)])).next=a+3+1:=by rw[aG,n4]
 rw[n4]at v7 sC;rw[nB]at vr;apply W.q
 .intro M;simp(disch:=decide+kernel)only[kQ,pc,Aq,aa,gi,lB,cd,mk,nB,qiE,n4,sC];rfl
 generalize (B.alloc (af 3 ((fQ (Z M) zI).map encI).flatten)).alloc (af 337 [.slice (U ⟨a+2,0,V⟩) (Z M) (2*Z M)])=C at*;have kAC:=kB.trans kC;have hSC:=h.kp kAC;have v3:=v3.kp kC;have v5:=v5.kp kC;have lC:=v3.l0 eg rfl;have lenC:=hSC.len;have r0:i_ o w zI M 0=fQ (Z M) zI:=by unfold i_;rw[zz];rfl
 have hA0:aq C 3 1 (a+2) ((i_ o w zI M 0).map encI) (.slice (U ⟨a+2,0,V⟩) (Z M) (2*Z M)):=by
  rw[r0];exact .inr ⟨_,_,by rw[bc,D7],vr.1,vr.2,λ l hl=>by
   obtain⟨_,_,rfl⟩:=eH.1 hl;rfl,.inl (by rw[bc,D7])⟩
 apply W.seq;apply W.q
 .intro M;simp(disch:=decide+kernel)only[kQ,pc,Aq,aa,gi,lC,lenC];rfl
 apply W.block;refine W.Uo (Z M) (λ i t D ds=>Hz o w M C a (.slice (U ⟨a+2,0,V⟩) (Z M) (2*Z M)) i D ds/\Sl t [(1,.func (.func fo) ⟨[]⟩ ⟨[]⟩),(3,pV a),(5,pV (a+1)),(6,iN 0),(7,pV (a+3)),(17,y),(18,iN (Z M)),(19,.int .i64 i)]) ?_ (a8 _) ⟨⟨hA0,λ _ _ _=>rfl,aI _,nb,λ d hd=>by cases hd⟩,?_⟩
 .rintro i t D ds hi ⟨hR,hs⟩;by_cases hlt:i<Z M
  .refine(qc4 h hg hl hO hW (aZ hlt) kAC ⟨ha,nC⟩ v3 v5 v7 hR hs).mono ?_;rintro e s' ⟨rfl,t',D',d',rfl,hR',hs'⟩;exact⟨hlt,t',D',d',rfl,hR',hs'⟩
  .have e:i=Z M:=by omega
   subst e;obtain⟨hA,hf,hn,hnd,hds⟩:=hR;obtain⟨g1,g3,g5,g6,g7,g17,g18,g19,-⟩:=hs;have rl:i_ o w zI M (Z M)=dq o w zI M:=by unfold i_;rw[iQ,dU,List.replicate_zero,jT]
   rw[rl]at hA;have hal:=zO o w zI M;have l7:aj O D.get 337 (pw (a+3) 0)=.ok (.slice (U ⟨a+2,0,V⟩) (Z M) (2*Z M)):=dg Ba rfl (v7.2.same (hf _ (by omega) (by omega))) rfl;have ll:c_ O .len [337] [.slice (U ⟨a+2,0,V⟩) (Z M) (2*Z M)]=.ok (iN (Z M)):=mQ Ba;have ix:=FM hA (i:=Z M-1) (by omega);have ld:=J1 hA (v:=(dq o w zI M).getD (Z M-1) zI) (by rw[m_,aZ (by omega)];rfl);have s1:a_ .sub .i64 ((Z M:Nat):Int) ((1:Nat):Int)=.ok (iN (Z M-1)):=eQ (by omega) (ct (by omega));simp only[pV]at g6 g7;apply W.run 20
   .intro M;simp(disch:=decide+kernel)only[iT,kQ,pc,Aq,aa,g18,g19];rfl
   apply W.q2
   .intro M _;simp(disch:=decide+kernel)only[kQ,pc,Aq,aa,g6,g7,l7,ll,dM,dK,hpos,s1,ix,ld];rfl
   apply W.run 20
   .intro M;simp only[kQ,pc,Aq,aa];rfl
   obtain⟨qi6,t1,t2,t3⟩:=y8 ds D hnd (λ d hd=>(hds d hd).2.2);refine⟨.inr rfl,qi6,_,t1,(by simp only[pc,Aq,aa]<;>rfl),rfl,by omega,λ z hz=>?_⟩;rw[t3 z (λ hm=>by have:=(hds z hm).1;omega),hf z (by omega) (by omega),kAC.2 z (by omega)]
 .simp only[Sq,aa,ak,pV]
def kR:=cu pd
def iU:aH:=sub kR [1,1,0,1,0,0]
def W_:pd.body=U (.seq (sub kR [0]) (.seq (sub kR [1,0]) (.seq (.seq (sub kR [1,1,0,0]) (.block 0 (.loop iU))) (.seq (sub kR [1,1,1,0]) (.seq (sub kR [1,1,1,1,0]) (sub kR [1,1,1,1,1])))))):=by kernel_rfl
def Xa:iU=(.seq (sub iU [0]) (.seq (sub iU [1,0]) (.seq (.block 1 (.seq (sub iU [1,1,0,0,0]) (.seq (sub iU [1,1,0,0,1,0]) (.seq (sub iU [1,1,0,0,1,1,0]) (.block 2 (.rangeFunc (.tmp 32) #[33,34] (sub iU [1,1,0,0,1,1,1,0,0]) (sub iU [1,1,0,0,1,1,1,0,1]))))))) (sub iU [1,1,1])))):=by kernel_rfl
def jP(t:T I)(d:Nat):jd:=mS t 62 [33,34] (sub iU [1,1,0,0,1,1,1,0,0]) (sub iU [1,1,0,0,1,1,1,0,1]) d
def DU(o:aw->dV)(w:dV->dV->Nat->dV)(M:List aw)(i:Nat)(s:aw)(ab lp:Nat)(x:I)(L:jd)(j:Nat)(D:Mem):Prop:=
 aq D 282 3 ab (((i_ o w zG M i).set i (iK o w zG (dq o w zG (M.take i)) s j)).map b_) x/\D.get lp=U (.loop L)/\lp<D.next
def qak{o:aw->dV}{w:dV->dV->Nat->dV}{s:aw}{ab lp:Nat}{x:I}{L:jd}(j:Nat)(D E:Mem)(h:DU o w M i s ab lp x L j D)(k:Kp D E):DU o w M i s ab lp x L j E:=
 ⟨h.1.same k.1 (k.2 ab),by rw[k.2 _ h.2.2];exact h.2.1,c9 h.2.2 k.1⟩
def Hy(fo:FuncId)(o:aw->dV):Prop:=∀(D:Mem) (x:I) (s:aw),∃E,az O fo [.agg ⟨aS x s⟩] D (jA (o s)) E/\Kp D E
def Eo(fw:FuncId)(o:aw->dV)(w:dV->dV->Nat->dV)(M:List aw):Prop:=∀(D:Mem) (i j:Nat) (s:aw) (a:cr),M[i]?=U s->s.arcs[j]?=U a->
 ∃E,az O fw [jA (iK o w zG (dq o w zG (M.take i)) s j),jA ((dq o w zG (M.take i)).getD a.to zG),.int .u64 a.out] D (jA (iK o w zG (dq o w zG (M.take i)) s (j+1))) E/\Kp D E
def qik{o:aw->dV}{w:dV->dV->Nat->dV}{a lp:Nat}{s:aw}{x:I}(hW:Eo fw o w M)(hi:M[i]?=U s)(ht:∀a∈s.arcs,a.to<i)
 (v7:VB B 343 (a+4) (.var 1) [x])(v8:VB B 3 p (.var 1) [.int .i64 i])(v5:VB B 287 (a+1) (.var 1) [.func (.func fw) ⟨[]⟩ ⟨[]⟩])(hp:a+4<p/\p<lp/\lp<B.next)
 (hs:Sl t [(5,pV (a+1)),(7,pV (a+4)),(8,pV p)]):HE B (a+3) lp s (DU o w M i s (a+3) lp x (jP t d)):=by
 rintro j c D hj ⟨hA,hL,hlt⟩ hn hf;obtain⟨g5,g7,g8,-⟩:=hs;obtain⟨p1,p2,p3⟩:=hp;have hil:=(bU.1 hi).1;have hto:=ht c (gJ hj);have hrl:=Gm o w zG (i:=i) (M:=M) (by omega);have sE:cm O (D.alloc (af 342 [iN 0,uN 0])) 342 (pw D.next 0) (oR c)=.ok (D.alloc (af 342 [.int .i64 c.to,.int .u64 c.out])):=fP (by kernel_rfl) rfl rfl (by simp) (by simp[bS]);have z305:dj O 342=.ok (.agg ⟨[iN 0,uN 0]⟩):=by kernel_rfl
 have f0:∀b,bK O 342 (pw b 0) 0=.ok (pw b 0):=λ b=>by kernel_rfl
 have f1:∀b,bK O 342 (pw b 0) 1=.ok (pw b 1):=λ b=>by kernel_rfl
 have kE:=Kp.alloc D (af 342 [.int .i64 c.to,.int .u64 c.out]);have vE:=aQ D 342 [.int .i64 c.to,.int .u64 c.out];have nE:=aG D (af 342 [.int .i64 c.to,.int .u64 c.out]);generalize D.alloc (af 342 [.int .i64 c.to,.int .u64 c.out])=E at sE kE vE nE;have hLE:E.get lp=U (.loop (jP t d)):=by rw[kE.2 _ hlt];exact hL
 generalize hF:E.set lp (.loop {jP t d with state:=.busy})=F;have nF:F.next=E.next:=by rw[<-hF];exact cU _ _ _
 have fF:∀z,z≠lp->F.get z=E.get z:=λ z hz=>by rw[<-hF,cN,ax hz]
 have hLF:F.get lp=U (.loop {jP t d with state:=.busy}):=by rw[<-hF,cN,aA rfl]
 have hBF:∀z,z<B.next->z≠a+3->z≠lp->F.get z=B.get z:=λ z hz h1 h2=>by rw[fF z h2,kE.2 z (by omega),hf z hz h1 h2]
 have hAF:=hA.same (A':=F) (by omega) λ hlt=>by rw[fF _ (by omega),kE.2 _ hlt]
 obtain⟨G,⟨g,hg⟩,kG⟩:=hW F i j s c hi hj;have gP:∀e z k l,VB B e z k l->z≠a+3->z≠lp->VB F e z k l:=λ e z k l h h1 h2=>⟨by have:=h.1;omega,h.2.same (hBF z h.1 h1 h2)⟩
 have w7:=gP _ _ _ _ v7 (by omega) (by omega);have w8:=gP _ _ _ _ v8 (by omega) (by omega);have w5:=gP _ _ _ _ v5 (by omega) (by omega);have l7:=λ G h=>(w7.kp (A':=G) h).l0 Bb rfl
 have l8:=λ G h=>(w8.kp (A':=G) h).l0 u3 rfl
 have l5:aj O F.get 287 (pw (a+1) 0)=.ok (.func (.func fw) ⟨[]⟩ ⟨[]⟩):=by
  obtain⟨d,hd1,hd2⟩:=cF (by kernel_rfl);exact w5.ld rfl hd1 hd2
 have r7:=l7 F (Kp.refl _);have r8:=l8 F (Kp.refl _);have r7':=l7 G kG;have r8':=l8 G kG;have vF:VB F 342 D.next (.var 2) [.int .i64 c.to,.int .u64 c.out]:=⟨by omega,vE.2.same (fF _ (by omega))⟩
 have e0:=vF.l0 u3 rfl;have e1:=vF.l1 dH rfl;have i1:=FL hAF (i:=i) (by rw[dS];omega);have i2:=FL hAF (i:=c.to) (by rw[dS];omega);have d1:=J0 hAF (by rw[pL,aA rfl,aA (by omega)]);have d2:=J0 hAF (R6 o w zG (by omega) hto _);have hAG:=hAF.same kG.1 (kG.2 _);obtain⟨H,sH,hAH,nH,fH⟩:=Tt (v:=iK o w zG (dq o w zG (M.take i)) s (j+1)) hAG (i:=i) (by rw[dS];omega);rw[List.set_set]at hAH;have nG:=kG.1;have hLH:H.get lp=U (.loop {jP t d with state:=.busy}):=by rw[fH _ (by omega),kG.2 _ (by omega)];exact hLF
 have sx:=(aq.DD (by omega) hAF).self 99;have si:=pE .i64 i rfl;simp only[pV]at g5 g7 g8;have hq:∃C,(∃g,∀N,g<=N->cE O (exec O N) (.round lp [bN c.byte.toNat,oR c]) D=.ok (.val (.bool ae) C))/\C=H.set lp (.loop (jP t d)):=by
  refine Dj hL (t:=(t.set 33 (bN c.byte.toNat)).set 34 (oR c)) rfl ?_;show W O (sub iU [1,1,0,0,1,1,1,0,0]) ⟨_,62,[],D,U lp⟩ _;apply W.run 20
  .intro M;simp(disch:=first|decide+kernel|omega)only[iU,kR,pd,Aq,aa,z305,a7,sE];rfl
  refine⟨rfl,_,hLE,rfl,?_⟩;show W O (sub iU [1,1,0,0,1,1,1,0,1]) ⟨_,62,[],E.set lp (.loop {jP t d with state:=.busy}),U lp⟩ _;rw[hF];apply W.cC (g) 20
  .intro M hM;simp(config:={maxSteps:=4000000})(disch:=first|decide+kernel|omega|simp only[Wq,aa])only[iU,kR,pd,Aq,av,reduceIte,aa,ak,g5,g7,g8,r7,r8,r7',r8',l5,f0,f1,e0,e1,i1,i2,d1,d2,hg,sH,sx,si,Fq,bQ [(0,14),(1,14)]];rfl
  exact⟨rfl,rfl,_,hLH,rfl⟩
 obtain⟨C,hc,rfl⟩:=hq;have fr:∀z,z≠lp->(H.set lp (.loop (jP t d))).get z=H.get z:=λ z hz=>by rw[cN,ax hz]
 have nr:(H.set lp (.loop (jP t d))).next=H.next:=cU _ _ _
 refine⟨_,hc,⟨hAH.same (by omega) λ _=>fr _ (by omega),by rw[cN,aA rfl],by omega⟩,by omega,λ z hz h1 h2=>?_⟩;rw[fr z h2,fH z h1,kG.2 z (by omega),fF z h2,kE.2 z hz]
def HA(o:aw->dV)(w:dV->dV->Nat->dV)(M:List aw)(B:Mem)(a:Nat)(x:I)(i:Nat)(D:Mem)(ds:List Nat):Prop:=
 aq D 282 3 (a+3) ((i_ o w zG M i).map b_) x/\(∀z,z<B.next->z≠a+3->D.get z=B.get z)/\B.next<=D.next/\ds.Nodup/\∀d∈ds,B.next<=d/\d<D.next/\D.get d=U .defd
def qiF:dj O 343=.ok (.slice V 0 0):=by kernel_rfl
def qc5{fo:FuncId}{o:aw->dV}{w:dV->dV->Nat->dV}{D:Mem}{k x:I}{a:Nat}{s:aw}{ds:List Nat}(h:dA A M y)(hg:eM M)(hl:Z M<1000000)(hO:Hy fo o)(hW:Eo fw o w M)(hi:M[i]?=U s)
 (hB:Kp A B)(ha:A.next=a/\B.next=a+4+1)(v3:VB B 115 a (.var 2) [y,k])(v5:VB B 287 (a+1) (.var 1) [.func (.func fw) ⟨[]⟩ ⟨[]⟩])(v7:VB B 343 (a+4) (.var 1) [x])(hR:HA o w M B a x i D ds)
 (hs:Sl t [(1,.func (.func fo) ⟨[]⟩ ⟨[]⟩),(3,pV a),(5,pV (a+1)),(6,pV (a+2)),(7,pV (a+4)),(17,y),(18,iN (Z M)),(19,.int .i64 i)]):
 W O iU ⟨t,62,ds,D,V⟩ λ e s'=>e=.nrm/\∃t' D' d',s'=⟨t',62,d',D',V⟩/\HA o w M B a x (i+1) D' d'/\
  Sl t' [(1,.func (.func fo) ⟨[]⟩ ⟨[]⟩),(3,pV a),(5,pV (a+1)),(6,pV (a+2)),(7,pV (a+4)),(17,y),(18,iN (Z M)),(19,iN (i+1))]:=by
 obtain⟨hA,hf,hn,hnd,hds⟩:=hR;obtain⟨g1,g3,g5,g6,g7,g17,g18,g19,-⟩:=hs;obtain⟨ha1,ha2⟩:=ha;have hil:=(bU.1 hi).1;obtain⟨-,k2,k3,-,-⟩:=hg i s hi;have hfew:=w_ (hg i s hi);have hrl:=Gm o w zG (i:=i) (M:=M) (by omega);have kAD:Kp A D:=⟨by omega,λ z hz=>by rw[hf z (by omega) (by omega),hB.2 z hz]⟩;obtain⟨xs,p,q,i1,i2,hx,i4⟩:=(h.kp kAD).get hi;have i5:=(i4 D (Kp.refl _)).1;have k1:=Kp.alloc D (af 3 [iN 0]);have n1:=aG D (af 3 [iN 0]);have n2:((D.alloc (af 3 [iN 0])).alloc (af 186 [.slice V 0 0,.bool ag,uN 0])).next=D.next+2:=by rw[aG,n1]
 have w1:=(aQ D 3 [iN 0]).kp (Kp.alloc _ (af 186 [.slice V 0 0,.bool ag,uN 0]));have w2:=aQ (D.alloc (af 3 [iN 0])) 186 [.slice V 0 0,.bool ag,uN 0];have k2':=k1.trans (Kp.alloc _ (af 186 [.slice V 0 0,.bool ag,uN 0]));rw[n1]at w2;obtain⟨E1,sE1,u1,m1,fE1⟩:=db (o:=0) (v:=.int .i64 i) Dm w1.2 (by simp) rfl rfl;obtain⟨E,sE,u2,m2,fE⟩:=ku (tb:=O) (t:=186) (l':=aS xs s) (by exact gV) (w2.2.same (fE1 _ (by omega))) rfl (by simp) (Gz hx);have hzero3:=zj;have fED:∀z,z<D.next->E.get z=D.get z:=λ z hz=>by rw[fE z (by omega),fE1 z (by omega),k2'.2 z hz]
 have kDE:Kp D E:=⟨by omega,fED⟩;have V8:VB E 3 D.next (.var 1) [.int .i64 i]:=⟨by omega,u1.same (fE _ (by omega))⟩
 have V9:VB E 186 (D.next+1) (.var 3) (aS xs s):=⟨by omega,u2⟩;have gP:∀e z k l,VB B e z k l->z≠a+3->VB E e z k l:=λ e z k l h h1=>⟨by have:=h.1;omega,h.2.same (by rw[fED z (by have:=h.1;omega),hf z h.1 h1])⟩
 have V7:=gP _ _ _ _ v7 (by omega);have V3:=gP _ _ _ _ v3 (by omega);have V5:=gP _ _ _ _ v5 (by omega);have hAE:=hA.same kDE.1 (kDE.2 _);obtain⟨F,⟨gf,hgf⟩,kF⟩:=hO E xs s;obtain⟨d,hd1,hd2⟩:=cF (by kernel_rfl);have l9:=cg hd1 hd2 gV V9.2;have l7:=λ G h=>(V7.kp (A':=G) h).l0 Bb rfl
 have l8:=λ G h=>(V8.kp (A':=G) h).l0 u3 rfl
 have r7:=l7 E (Kp.refl _);have r8:=l8 E (Kp.refl _);have r7':=l7 F kF;have r8':=l8 F kF;have ix:=FL hAE (i:=i) (by omega);obtain⟨G,sG,hAG,nG,fG⟩:=Tt (v:=o s) (hAE.same kF.1 (kF.2 _)) (i:=i) (by omega);have sx:=(aq.DD (by omega) hA).self 99;have si:=pE .i64 i rfl;have nF:=kF.1;have nE:E.next=D.next+2:=by omega
 have fGE:∀z,z<E.next->z≠a+3->G.get z=E.get z:=λ z hz h=>by rw[fG z h,kF.2 z hz]
 have lG8:aj O G.get 3 (pw D.next 0)=.ok (.int .i64 i):=dg u3 rfl (V8.2.same (fGE _ (by omega) (by omega))) rfl;obtain⟨d2,hd3,hd4⟩:=cF (by kernel_rfl);have lG3:=cg hd3 hd4 gF (V3.2.same (fGE _ (by omega) (by omega)));obtain⟨gw,hgw⟩:=K4;have x1:=(aQ G 115 [y,k]).kp (Kp.alloc _ (af 3 [.int .i64 i]));have x2:=aQ (G.alloc (af 115 [y,k])) 3 [.int .i64 i];have y1:=aG G (af 115 [y,k]);have y2:((G.alloc (af 115 [y,k])).alloc (af 3 [.int .i64 i])).next=G.next+2:=by rw[aG,y1]
 have kH:=(Kp.alloc G (af 115 [y,k])).trans (Kp.alloc _ (af 3 [.int .i64 i]));rw[y1]at x2;generalize (G.alloc (af 115 [y,k])).alloc (af 3 [.int .i64 i])=H at hgw x1 x2 y2 kH;simp only[pV]at g3 g5 g7 hgw;rw[Xa];apply W.q2
 .intro M _;simp(disch:=decide+kernel)only[iU,kR,pd,Aq,aa,g18,g19,hil];rfl
 apply W.seq;apply W.block;apply W.ic (gf)
 .intro M hM _;simp(disch:=first|decide+kernel|omega|simp only[Wq,aa])only[iU,kR,pd,Aq,aa,g17,g19,i1,i5,hzero3,rh,a7,uC,n1,sE1,sE,av,reduceIte,ak,g1,g7,r7,r8,l9,hgf,ix,r7',r8',sx,si,sG,Fq,bQ [(0,4),(1,4)]];rfl
 apply W.qG (gw)
 .intro M hM;simp(disch:=omega)only[iU,kR,pd,Aq,aa,g3,lG3,lG8,hgw];rfl
 apply W.block;generalize ht0:T.set _ _ _=t0;have hsl:Sl t0 [(1,.func (.func fo) ⟨[]⟩ ⟨[]⟩),(3,pV a),(5,pV (a+1)),(6,pV (a+2)),(7,pV (a+4)),(8,pV D.next),(17,y),(18,iN (Z M)),(19,.int .i64 i),(32,.func (.func 279) ⟨[]⟩ ⟨[pV G.next,pV (G.next+1)]⟩)]:=by
  rw[<-ht0];simp only[Sq,aa,ak,g1,g3,g5,g6,g7,g17,g18,g19,pV]
 clear ht0;obtain⟨h1,h3,h5,h6,h7,h8,h17,h18,h19,h32,-⟩:=hsl;have kJ:=(Kp.alloc H .defd).trans (Kp.alloc (H.alloc .defd) (.loop (jP t0 H.next)));have nJ1:=aG H .defd;have nJ:((H.alloc .defd).alloc (.loop (jP t0 H.next))).next=H.next+2:=by rw[aG,nJ1]
 have jL:((H.alloc .defd).alloc (.loop (jP t0 H.next))).get (H.next+1)=U (.loop (jP t0 H.next)):=by have:=de (H.alloc .defd) (.loop (jP t0 H.next));rwa[nJ1]at this
 have jM:((H.alloc .defd).alloc (.loop (jP t0 H.next))).get H.next=U .defd:=by rw[(Kp.alloc (H.alloc .defd) _).2 _ (by omega)];exact de H .defd
 generalize hJ:(H.alloc .defd).alloc (.loop (jP t0 H.next))=J at kJ nJ jL jM;have kGJ:=kH.trans kJ;have toJ:∀e z k l,VB E e z k l->z≠a+3->VB J e z k l:=λ e z k l h h1=>VB.kp ⟨by have:=h.1;omega,h.2.same (fGE z h.1 h1)⟩ kGJ
 have hJA:DU o w M i s (a+3) (H.next+1) x (jP t0 H.next) 0 J:=⟨hAG.same kGJ.1 (kGJ.2 _),jL,by omega⟩;have fJD:∀z,z<D.next->z≠a+3->J.get z=D.get z:=λ z hz h=>by rw[kGJ.2 z (by omega),fGE z (by omega) h,fED z hz]
 have kAJ:Kp A J:=⟨by omega,λ z hz=>by rw[fJD z (by omega) (by omega),kAD.2 z hz]⟩;obtain⟨v,C,hC,⟨c1,c2,c3⟩,nC,fC⟩:=SN h hi k3 k2 hfew hl kAJ (x1.kp kJ) (x2.kp kJ) ⟨by omega,by omega,by omega,by omega,by omega,by omega,by omega,by omega⟩ qak
  (qik hW hi k3 (toJ _ _ _ _ V7 (by omega)) (toJ _ _ _ _ V8 (by omega)) (toJ _ _ _ _ V5 (by omega)) ⟨by omega,by omega,by omega⟩ ⟨h5,h7,h8,trivial⟩) hJA
 refine W.Gh (fid:=279) (first:=[]) (capt:=[pV G.next,pV (G.next+1)]) (v:=v) (A':=C) (r:=jP t0 H.next) (e:=.nrm) (by simp only[ev,h32]) (by show az O 279 _ ((H.alloc .defd).alloc (.loop (jP t0 H.next))) v C;rw[hJ];exact hC) c2 (by simp[jP,mS]) (.inl ⟨rfl,rfl⟩) ?_;have c1:aq C 282 3 (a+3) ((i_ o w zG M (i+1)).map b_) x:=by rw[<-R7 o w zG hi];exact c1
 generalize hK:C.set (H.next+1) (.loop {jP t0 H.next with state:=.exhausted})=K;have nK:K.next=C.next:=by rw[<-hK];exact cU _ _ _
 have fK:∀z,z≠H.next+1->K.get z=C.get z:=λ z hz=>by rw[<-hK,cN,ax hz]
 apply W.run 20
 .intro M;simp(disch:=first|decide+kernel|omega)only[iU,kR,pd,Aq,aa,h19];rfl
 have hJK:∀z,z<J.next->z≠a+3->z≠H.next+1->K.get z=J.get z:=λ z hz h1 h2=>by rw[fK z h2,fC z hz h1 h2]
 refine⟨rfl,_,K,_,rfl,⟨c1.same (by omega) λ _=>fK _ (by omega),λ z hz h1=>by rw[hJK z (by omega) h1 (by omega),fJD z (by omega) h1,hf z hz h1],by omega,vw.2 ⟨λ hm=>?_,hnd⟩,λ d hd=>?_⟩,?_⟩
 .have:=hds _ hm;omega
 .rcases cG.1 hd with rfl|hd
  .exact⟨by omega,by omega,by rw[hJK _ (by omega) (by omega) (by omega),jM]⟩
  .obtain⟨e1,e2,e3⟩:=hds d hd;exact⟨e1,by omega,by rw[hJK _ (by omega) (by omega) (by omega),fJD _ e2 (by omega),e3]⟩
 .simp only[Sq,aa,ak,h1,h3,h5,h6,h7,h17,h18,pV]
def qer{fo:FuncId}{o:aw->dV}{w:dV->dV->Nat->dV}{k:I}(h:dA A M y)(hg:eM M)(hM:M≠ [])(hl:Z M<1000000)(hO:Hy fo o)(hW:Eo fw o w M):
 ∃v A',az O 197 [.agg ⟨[y,k]⟩,.func (.func fo) ⟨[]⟩ ⟨[]⟩,.func (.func fw) ⟨[]⟩ ⟨[]⟩] A v A'/\v=jA ((dq o w zG M).getD (Z M-1) zG)/\Kp A A':=by
 refine pS (aD Tryz.func197) W_ (by rw[Tryz.ntmps197];simp) (by kernel_rfl) (by kernel_rfl) ?_;generalize ha:A.next=a
 have hpos:=je.2 hM;have n1:(A.alloc (af 115 [y,k])).next=a+1:=by rw[aG,ha]
 have n2:((A.alloc (af 115 [y,k])).alloc (af 287 [.func (.func fw) ⟨[]⟩ ⟨[]⟩])).next=a+2:=by rw[aG,n1]
 have n3:(((A.alloc (af 115 [y,k])).alloc (af 287 [.func (.func fw) ⟨[]⟩ ⟨[]⟩])).alloc (af 282 (b_ zG))).next=a+3:=by rw[aG,n2]
 have kB2:=Kp.alloc ((A.alloc (af 115 [y,k])).alloc (af 287 [.func (.func fw) ⟨[]⟩ ⟨[]⟩])) (af 282 (b_ zG));have kB:=((Kp.alloc A (af 115 [y,k])).trans (Kp.alloc _ (af 287 [.func (.func fw) ⟨[]⟩ ⟨[]⟩]))).trans kB2;have v3:=((aQ A 115 [y,k]).kp (Kp.alloc _ (af 287 [.func (.func fw) ⟨[]⟩ ⟨[]⟩]))).kp kB2;have v5:=(aQ (A.alloc (af 115 [y,k])) 287 [.func (.func fw) ⟨[]⟩ ⟨[]⟩]).kp kB2;have v6:=aQ ((A.alloc (af 115 [y,k])).alloc (af 287 [.func (.func fw) ⟨[]⟩ ⟨[]⟩])) 282 (b_ zG);have z259:dj O 282=.ok (.agg ⟨b_ zG⟩):=by kernel_rfl
 rw[ha]at v3;rw[n1]at v5;rw[n2]at v6;apply W.q
 .intro M;simp(disch:=omega)only[kR,pd,Aq,aa,a7,yC,ha,n1,n2,z259];rfl
 generalize ((A.alloc (af 115 [y,k])).alloc (af 287 [.func (.func fw) ⟨[]⟩ ⟨[]⟩])).alloc (af 282 (b_ zG))=B at*;have hS:=h.kp kB;have lB:=v3.l0 eg rfl;have cd:=hS.len;have mk:=qbw (n:=Z M) (by omega);have nB:B.next=a+3:=by assumption
 have n4:(B.alloc (af 282 ((fQ (Z M) zG).map b_).flatten)).next=a+4:=by rw[aG,nB]
 have kC:=(Kp.alloc B (af 282 ((fQ (Z M) zG).map b_).flatten)).trans (Kp.alloc _ (af 343 [.slice (U ⟨a+3,0,V⟩) (Z M) (2*Z M)]));have vr:=(aQ B 282 ((fQ (Z M) zG).map b_).flatten).kp (Kp.alloc _ (af 343 [.slice (U ⟨a+3,0,V⟩) (Z M) (2*Z M)]));have v7:=aQ (B.alloc (af 282 ((fQ (Z M) zG).map b_).flatten)) 343 [.slice (U ⟨a+3,0,V⟩) (Z M) (2*Z M)];have sC:cm O ((B.alloc (af 282 ((fQ (Z M) zG).map b_).flatten)).alloc (af 343 [.slice V 0 0])) 343 (pw ((B.alloc (af 282 ((fQ (Z M) zG).map b_).flatten)).next) 0) (.slice (U ⟨a+3,0,V⟩) (Z M) (2*Z M))=.ok _:=fP (l':=[.slice (U ⟨a+3,0,V⟩) (Z M) (2*Z M)]) qgG rfl rfl (by simp) (by simp[bS]);have nC:((B.alloc (af 282 ((fQ (Z M) zG).map b_).flatten)).alloc (af 343 [.slice (U ⟨a+3,0,V⟩) (Z M) (2*Z M)])).next=a+4+1:=by rw[aG,n4]
 rw[n4]at v7 sC;rw[nB]at vr;apply W.q
 .intro M;simp(disch:=decide+kernel)only[kR,pd,Aq,aa,gi,lB,cd,mk,nB,qiF,n4,sC];rfl
 generalize (B.alloc (af 282 ((fQ (Z M) zG).map b_).flatten)).alloc (af 343 [.slice (U ⟨a+3,0,V⟩) (Z M) (2*Z M)])=C at*;have kAC:=kB.trans kC;have hSC:=h.kp kAC;have v3:=v3.kp kC;have v5:=v5.kp kC;have v6:=v6.kp kC;have lC:=v3.l0 eg rfl;have lenC:=hSC.len;have r0:i_ o w zG M 0=fQ (Z M) zG:=by unfold i_;rw[zz];rfl
 have hA0:aq C 282 3 (a+3) ((i_ o w zG M 0).map b_) (.slice (U ⟨a+3,0,V⟩) (Z M) (2*Z M)):=by
  rw[r0];exact .inr ⟨_,_,by rw[bc,D7],vr.1,vr.2,λ l hl=>by
   obtain⟨_,_,rfl⟩:=eH.1 hl;rfl,.inl (by rw[bc,D7])⟩
 apply W.seq;apply W.q
 .intro M;simp(disch:=decide+kernel)only[kR,pd,Aq,aa,gi,lC,lenC];rfl
 apply W.block;refine W.Uo (Z M) (λ i t D ds=>HA o w M C a (.slice (U ⟨a+3,0,V⟩) (Z M) (2*Z M)) i D ds/\Sl t [(1,.func (.func fo) ⟨[]⟩ ⟨[]⟩),(3,pV a),(5,pV (a+1)),(6,pV (a+2)),(7,pV (a+4)),(17,y),(18,iN (Z M)),(19,.int .i64 i)]) ?_ (a8 _) ⟨⟨hA0,λ _ _ _=>rfl,aI _,nb,λ d hd=>by cases hd⟩,?_⟩
 .rintro i t D ds hi ⟨hR,hs⟩;by_cases hlt:i<Z M
  .refine(qc5 h hg hl hO hW (aZ hlt) kAC ⟨ha,nC⟩ v3 v5 v7 hR hs).mono ?_;rintro e s' ⟨rfl,t',D',d',rfl,hR',hs'⟩;exact⟨hlt,t',D',d',rfl,hR',hs'⟩
  .have e:i=Z M:=by omega
   subst e;obtain⟨hA,hf,hn,hnd,hds⟩:=hR;obtain⟨g1,g3,g5,g6,g7,g17,g18,g19,-⟩:=hs;have rl:i_ o w zG M (Z M)=dq o w zG M:=by unfold i_;rw[iQ,dU,List.replicate_zero,jT]
   rw[rl]at hA;have hal:=zO o w zG M;have l7:aj O D.get 343 (pw (a+4) 0)=.ok (.slice (U ⟨a+3,0,V⟩) (Z M) (2*Z M)):=dg Bb rfl (v7.2.same (hf _ (by omega) (by omega))) rfl;have ll:c_ O .len [343] [.slice (U ⟨a+3,0,V⟩) (Z M) (2*Z M)]=.ok (iN (Z M)):=mQ Bb;have ix:=FL hA (i:=Z M-1) (by omega);have ld:=J0 hA (v:=(dq o w zG M).getD (Z M-1) zG) (by rw[m_,aZ (by omega)];rfl);have s1:a_ .sub .i64 ((Z M:Nat):Int) ((1:Nat):Int)=.ok (iN (Z M-1)):=eQ (by omega) (ct (by omega));simp only[pV]at g6 g7;obtain⟨E1,sE1,w1,m1,fE1⟩:=ku (tb:=O) (t:=282) (l':=b_ ((dq o w zG M).getD (Z M-1) zG)) (by exact qZ) (v6.2.same (hf _ (by omega) (by omega))) rfl (by simp[b_]) (yT _);obtain⟨E,sE,w2,m2,fE⟩:=ku (tb:=O) (t:=282) (l':=b_ ((dq o w zG M).getD (Z M-1) zG)) (by exact qZ) w1 rfl (by simp[b_]) (yT _);obtain⟨d,hd1,hd2⟩:=cF (t:=282) (p:=ae) (by kernel_rfl);have l6:aj O E1.get 282 (pw (a+2) 0)=.ok (.agg ⟨b_ ((dq o w zG M).getD (Z M-1) zG)⟩):=cg hd1 hd2 qZ w1;unfold jA at ld;apply W.run 20
   .intro M;simp(disch:=first|decide+kernel|omega)only[iU,kR,pd,Aq,aa,g18,g19];rfl
   apply W.q2
   .intro M _;simp(disch:=first|decide+kernel|omega)only[kR,pd,Aq,aa,g6,g7,l7,ll,dM,dK,hpos,s1,ix,ld,sE1,l6,sE];rfl
   apply W.run 20
   .intro M;simp only[kR,pd,Aq,aa];rfl
   obtain⟨qi6,t1,t2,t3⟩:=y8 ds E hnd (λ d hd=>by
    obtain⟨e1,e2,e3⟩:=hds d hd;rw[fE _ (by omega),fE1 _ (by omega),e3])
   have l8:aj O qi6.get 282 (pw (a+2) 0)=.ok (.agg ⟨b_ ((dq o w zG M).getD (Z M-1) zG)⟩):=cg hd1 hd2 qZ (w2.same (t3 _ (λ hm=>by have:=(hds _ hm).1;omega)));refine⟨.inr rfl,qi6,_,t1,(by simp only[pd,g6,l8,Aq,aa]<;>rfl),rfl,by omega,λ z hz=>?_⟩;rw[t3 z (λ hm=>by have:=(hds z hm).1;omega),fE z (by omega),fE1 z (by omega),hf z (by omega) (by omega),kAC.2 z (by omega)]
 .simp only[Sq,aa,ak,pV]
theorem Es{T:Type}{o:aw->T}{w:T->T->Nat->T}{z:T}{R:Nat->T->Prop}
 (hs:∀i s,M[i]?=U s->(∀k,k<i->R k ((dq o w z (M.take i)).getD k z))->R i (iK o w z (dq o w z (M.take i)) s (Z s.arcs))):∀i,i<=Z M->∀k,k<i->R k ((dq o w z (M.take i)).getD k z)
 |0,_,k,hk=>aU hk (zD _)
 |i+1,hi,k,hk=>by
  have ih:=Es hs i (by omega);have hl:=zO o w z (M.take i);rw[df,nf (by omega)]at hl;rw[Md o w z (aZ (show i<Z M by omega)),m_];rcases ec k i with h|h
  .rw[fe (by omega),<-m_];exact ih k h
  .have e:k=i:=by omega
   subst e;rw[eV (by omega),hl,iQ];exact hs k _ (aZ (show k<Z M by omega)) ih
theorem Gd{T:Type}{o:aw->T}{w:T->T->Nat->T}{z:T}{acc:List T}{s:aw}{P:Nat->T->Prop}(h0:P 0 (o s))(hs:∀j a x,s.arcs[j]?=U a->P j x->P (j+1) (w x (acc.getD a.to z) a.out)):∀j,j<=Z s.arcs->P j (iK o w z acc s j)
 |0,_=>h0
 |j+1,hj=>by
  have hsj:=aZ (show j<Z s.arcs by omega);rw[Ge o w z hsj];exact hs j _ _ hsj (Gd h0 hs j (by omega))
def oC(s:aw):Int:=if s.fin then 1 else 0
def wC(x c:Int)(_:Nat):Int:=min (x+c) 100001
def qiB(g:eM M){s:aw}(h:M[i]?=U s):(ws M i).length=(if s.fin then 1 else 0)+(s.arcs.map λ a=>(ws M a.to).length).sum:=by
 rw[rf g h,aY,List.length_flatMap];have e:(λ a=>(iz M a).length)=λ a=>(ws M a.to).length:=by funext a;unfold iz;rw[bc]
 rw[e];cases s.fin<;>rfl
def Bq(M:List aw)(s:aw)(j:Nat)(x:Int):Prop:=x=((min ((if s.fin then 1 else 0)+((s.arcs.take j).map λ a=>(ws M a.to).length).sum) 100001:Nat):Int)
def Ns(g:eM M){s:aw}(h:M[i]?=U s)(hk:∀k,k<i->(dq oC wC zI (M.take i)).getD k zI=((min (ws M k).length 100001:Nat):Int)):∀j,j<=Z s.arcs->Bq M s j (iK oC wC zI (dq oC wC zI (M.take i)) s j):=by
 refine Gd ?_ λ j a x hj hx=>?_
 .unfold Bq oC;rw[zz];cases s.fin<;>rfl
 .obtain⟨hjl,ha⟩:=bU.1 hj;unfold Bq at hx⊢;rw[hk a.to ((g i s h).2.2.1 a (gJ hj)),hx,d_ hjl,gg,List.sum_append,ha];simp only[lK,sQ,List.sum_cons,List.sum_nil,wC];generalize (tW (λ a=>(ws M a.to).length) (List.take j s.arcs)).sum=p;generalize (if s.fin=ae then 1 else 0)=q;omega
def Nq(g:eM M):∀i,i<=Z M->∀k,k<i->(dq oC wC zI (M.take i)).getD k zI=((min (ws M k).length 100001:Nat):Int):=
 Es (R:=λ k v=>v=((min (ws M k).length 100001:Nat):Int)) λ i s h hk=>by
  have:=Ns g h hk (Z s.arcs) (aI _);unfold Bq at this;rw[dU,<-qiB g h]at this;exact this
def qcq:Ek 193 oC:=λ D x s=>by
 have v:=aQ D 186 (aS x s);refine⟨D.alloc (af 186 (aS x s)),?_,Kp.alloc _ _⟩;generalize hE:D.alloc (af 186 (aS x s))=E at v;have l1:=v.m1 u4 rfl;unfold pH oC;cases hf:s.fin with
 |true=>
  rw[hf]at l1;refine cq 60 (aD Tryz.func193) (by kernel_rfl) λ M=>?_
  simp(disch:=omega)only[Tryz.f193,Aq,aa,a7,hE,fV,l1]<;>rfl
 |false=>
  rw[hf]at l1;refine cq 60 (aD Tryz.func193) (by kernel_rfl) λ M=>?_
  simp(disch:=omega)only[Tryz.f193,Aq,aa,a7,hE,fV,l1]<;>rfl
variable {tb:aN}
def yS{ts:List au}{a b:Int}:c_ tb .min ts [.int .i64 a,.int .i64 b]=.ok (.int .i64 (min a b)):=by
 have e:c_ tb .min ts [.int .i64 a,.int .i64 b]=.ok (.int .i64 (bif nW b a then b else a)):=by cases ts<;>rfl
 rw[e,Ar];by_cases h:b<a
 .rw[decide_eq_true h,Int.min_eq_right (by omega)];rfl
 .rw[decide_eq_false h,Int.min_eq_left (by omega)];rfl
def max_i64{ts:List au}{a b:Int}:c_ tb .max ts [.int .i64 a,.int .i64 b]=.ok (.int .i64 (max a b)):=by
 have e:c_ tb .max ts [.int .i64 a,.int .i64 b]=.ok (.int .i64 (bif nW a b then b else a)):=by cases ts<;>rfl
 rw[e,Ar];by_cases h:a<b
 .rw[decide_eq_true h,Int.max_eq_right (by omega)];rfl
 .rw[decide_eq_false h,Int.max_eq_left (by omega)];rfl
def qbq{ts:List au}{a:Nat}:c_ tb .max ts [.int .u64 a,.int .u64 b]=.ok (.int .u64 (max a b:Nat)):=by
 have e:c_ tb .max ts [.int .u64 a,.int .u64 b]=.ok (.int .u64 (bif aO a b then(b:Int)else(a:Int))):=by cases ts<;>rfl
 rw[e];cases h:aO a b with
 |true=>
  have q:a<b:=by simpa[bZ]using h
  rw[ub (by omega)];rfl
 |false=>
  have q:¬a<b:=by intro hx;rw[<-bZ,h]at hx;cases hx
  rw[Nat.max_eq_left (by omega)];rfl
def qip(g:eM M):BW 194 oC wC M:=λ D i j s a hi hj=>by
 have hil:=(bU.1 hi).1;have hk:=Nq g i (by omega);have hp:=Ns g hi hk j (by have:=(bU.1 hj).1;omega);have hc:=hk a.to ((g i s hi).2.2.1 a (gJ hj));unfold Bq at hp;rw[Ge oC wC zI hj,hp,hc];generalize (if s.fin=ae then 1 else 0)+(tW (λ a=>(ws M a.to).length) (List.take j s.arcs)).sum=p;generalize (ws M a.to).length=q;have a1:a_ .add .i64 ((min p 100001:Nat):Int) ((min q 100001:Nat):Int)=.ok (iN (min p 100001+min q 100001)):=e_ (ct (by omega));have m1:=yS (tb:=O) (ts:=[3,3]) (a:=((min p 100001+min q 100001:Nat):Int)) (b:=((100001:Nat):Int));have e:wC ((min p 100001:Nat):Int) ((min q 100001:Nat):Int) a.out=min ((min p 100001+min q 100001:Nat):Int) ((100001:Nat):Int):=by unfold wC;omega
 refine⟨D,?_,Kp.refl _⟩;unfold pH;rw[e];refine cq 60 (aD Tryz.func194) (by kernel_rfl) λ M=>?_
 simp(disch:=decide+kernel)only[Tryz.f194,Aq,aa,a1,m1]<;>rfl
def qdY{k:I}(h:dA A M y)(hk:k.cells.toList=[k]/\bS k=ae)(g:eM M)(hM:M≠ [])(hl:Z M<1000000)(hw:(ws M (Z M-1)).length<=100000):
 ∃v A',az O 144 [.agg ⟨[y,k]⟩] A v A'/\v=.tuple ⟨[iN ((ws M (Z M-1)).length),.bool ae]⟩/\Kp A A':=by
 have kB:=Kp.alloc A (af 115 [y,k]);have vB:=aQ A 115 [y,k];generalize hB:A.alloc (af 115 [y,k])=B at kB vB;obtain⟨d,hd1,hd2⟩:=cF (by kernel_rfl);have lB:=cg hd1 hd2 gF vB.2;obtain⟨v,C,⟨gc,hc⟩,rfl,kC⟩:=Su (h.kp kB) (k:=k) g hM hl qcq (qip g);have hpos:=je.2 hM;have hv:=Nq g (Z M) (aI _) (Z M-1) (by omega);rw[dU,nf (by omega)]at hv;rw[hv]at hc;unfold pH at hc;have hn:¬100000<(ws M (Z M-1)).length:=by omega
 refine⟨_,C,?_,rfl,kB.trans kC⟩;refine bX (gc) 60 (aD Tryz.func144) (by kernel_rfl) λ M hM=>?_
 simp(disch:=first|decide+kernel|omega)only[Tryz.f144,Aq,aa,a7,hB,lB,yH,hc,dM,dK,hn]<;>rfl
def oL(s:aw):Int:=if s.fin then 0 else-1
def wL(x c:Int)(_:Nat):Int:=if c<0 then x else max x (c+1)
def xT(M:List aw)(i:Nat)(x:Int):Prop:=-1<=x/\x<=i/\(x=-1\/∃w∈ws M i,x=((w.1.length:Nat):Int))
def P_(g:eM M){s:aw}(h:M[i]?=U s)(hk:∀k,k<i->xT M k ((dq oL wL zI (M.take i)).getD k zI)):∀j,j<=Z s.arcs->xT M i (iK oL wL zI (dq oL wL zI (M.take i)) s j):=by
 refine Gd ?_ λ j a x hj hx=>?_
 .unfold xT oL;cases hf:s.fin with
  |false=>exact⟨by simp,by simp only[dR,bg];omega,.inl rfl⟩
  |true=>exact⟨by simp,by simp,.inr ⟨([],s.out),by rw[rf g h,hf];simp,rfl⟩⟩
 .have ha:=gJ hj;have hto:=(g i s h).2.2.1 a ha;obtain⟨c1,c2,c3⟩:=hk a.to hto;obtain⟨x1,x2,x3⟩:=hx;generalize (dq oL wL zI (M.take i)).getD a.to zI=c at*;unfold wL;split
  .exact⟨x1,x2,x3⟩
  .refine⟨by omega,by omega,?_⟩;rcases Int.le_total (c+1) x with hle|hle
   .rw[Int.max_eq_left hle];exact x3
   .rw[Int.max_eq_right hle];rcases c3 with h|⟨w,hw,hwl⟩
    .omega
    .refine .inr ⟨(a.byte::w.1,a.out+w.2),?_,by rw[hwl];simp⟩;rw[rf g h];exact xS _ (BD.2 ⟨a,ha,eH.2 ⟨w,hw,rfl⟩⟩)
def P9(g:eM M):∀i,i<=Z M->∀k,k<i->xT M k ((dq oL wL zI (M.take i)).getD k zI):=
 Es λ i s h hk=>P_ g h hk (Z s.arcs) (aI _)
def qcs:Ek 195 oL:=λ D x s=>by
 have v:=aQ D 186 (aS x s);refine⟨D.alloc (af 186 (aS x s)),?_,Kp.alloc _ _⟩;generalize hE:D.alloc (af 186 (aS x s))=E at v;have l1:=v.m1 u4 rfl;unfold pH oL;cases hf:s.fin with
 |true=>
  rw[hf]at l1;refine cq 60 (aD Tryz.func195) (by kernel_rfl) λ M=>?_
  simp(disch:=omega)only[Tryz.f195,Aq,aa,a7,hE,fV,l1]<;>rfl
 |false=>
  rw[hf]at l1;refine cq 60 (aD Tryz.func195) (by kernel_rfl) λ M=>?_
  simp(disch:=omega)only[Tryz.f195,Aq,aa,a7,hE,fV,l1,N3]<;>rfl
def qir(g:eM M)(hl:Z M<1000000):BW 196 oL wL M:=λ D i j s a hi hj=>by
 have hil:=(bU.1 hi).1;have hk:=P9 g i (by omega);obtain⟨x1,x2,-⟩:=P_ g hi hk j (by have:=(bU.1 hj).1;omega);have hto:=(g i s hi).2.2.1 a (gJ hj);obtain⟨c1,c2,-⟩:=hk a.to hto;rw[Ge oL wL zI hj];generalize iK oL wL zI (dq oL wL zI (M.take i)) s j=x at*;generalize (dq oL wL zI (M.take i)).getD a.to zI=c at*;refine⟨D,?_,Kp.refl _⟩;unfold pH wL;by_cases h0:c<0
 .have h1:c<((0:Nat):Int):=by simpa using h0
  rw[aA h0];refine cq 60 (aD Tryz.func196) (by kernel_rfl) λ M=>?_
  simp(disch:=decide+kernel)only[Tryz.f196,Aq,aa,Ga,h1]<;>rfl
 .have h1:¬c<((0:Nat):Int):=by simpa using h0
  have a1:a_ .add .i64 c ((1:Nat):Int)=.ok (.int .i64 (c+1)):=qcg (by omega) (by omega);have m1:=max_i64 (tb:=O) (ts:=[3,3]) (a:=x) (b:=c+1);rw[ax h0];refine cq 60 (aD Tryz.func196) (by kernel_rfl) λ M=>?_
  simp(disch:=decide+kernel)only[Tryz.f196,Aq,aa,Ga,h1,a1,m1]<;>rfl
def qeJ{k:I}(h:dA A M y)(g:eM M)(hM:M≠ [])(hl:Z M<1000000):
 ∃v A',az O 146 [.agg ⟨[y,k]⟩] A v A'/\Kp A A'/\∃x,v=.int .i64 x/\xT M (Z M-1) x:=by
 have kB:=Kp.alloc A (af 115 [y,k]);have vB:=aQ A 115 [y,k];generalize hB:A.alloc (af 115 [y,k])=B at kB vB;have hS:=h.kp kB;obtain⟨d,hd1,hd2⟩:=cF (by kernel_rfl);have lB:=cg hd1 hd2 gF vB.2;have ly:=vB.l0 eg rfl;have cd:=hS.len;obtain⟨v,C,⟨gc,hc⟩,rfl,kC⟩:=Su hS (k:=k) g hM hl qcs (qir g hl);have hpos:=je.2 hM;have hv:=P9 g (Z M) (aI _) (Z M-1) (by omega);rw[dU]at hv;have hn:¬Z M=0:=by omega
 refine⟨_,C,?_,kB.trans kC,_,rfl,hv⟩;unfold pH at hc;refine bX (gc) 60 (aD Tryz.func146) (by kernel_rfl) λ M hM=>?_
 simp(disch:=first|decide+kernel|omega)only[Tryz.f146,Aq,aa,a7,hB,gi,ly,cd,lB,yH,hc,hn]<;>rfl
def oG(s:aw):dV:=⟨s.out,ae,s.fin⟩
def qW(m x:dV):dV:=if m.any then⟨max m.n x.n,m.fits&&x.fits,ae⟩else x
def wG(x c:dV)(out:Nat):dV:=qW x ⟨c.n+out,c.fits,c.any⟩
def Bs(M:List aw)(i:Nat)(x:dV):Prop:=x.fits=ae/\(x.any=ae->∃w∈ws M i,w.2=x.n)
def Mn(g:eM M){s:aw}{a:cr}{w:List UInt8×Nat}(h:M[i]?=U s)(ha:a∈s.arcs)(hw:w∈ws M a.to):(a.byte::w.1,a.out+w.2)∈ws M i:=by
 rw[rf g h];exact xS _ (BD.2 ⟨a,ha,eH.2 ⟨w,hw,rfl⟩⟩)
def O9(g:eM M){s:aw}(h:M[i]?=U s)(hk:∀k,k<i->Bs M k ((dq oG wG zG (M.take i)).getD k zG)/\((dq oG wG zG (M.take i)).getD k zG).any=ae):
 ∀j,j<=Z s.arcs->Bs M i (iK oG wG zG (dq oG wG zG (M.take i)) s j)/\((s.fin=ae\/0<j)->(iK oG wG zG (dq oG wG zG (M.take i)) s j).any=ae):=by
 refine Gd (P:=λ j x=>Bs M i x/\((s.fin=ae\/0<j)->x.any=ae)) ?_ λ j a x hj hx=>?_
 .refine⟨⟨rfl,λ hf=>⟨([],s.out),?_,rfl⟩⟩,λ hf=>?_⟩
  .have hf:s.fin=ae:=hf;rw[rf g h,hf];simp
  .rcases hf with hf|hf
   .exact hf
   .omega
 .have ha:=gJ hj;obtain⟨⟨c1,c2⟩,c3⟩:=hk a.to ((g i s h).2.2.1 a ha);obtain⟨w,hw,hwn⟩:=c2 c3;obtain⟨⟨x1,x2⟩,-⟩:=hx;have hm:=Mn g h ha hw;generalize (dq oG wG zG (M.take i)).getD a.to zG=c at*;unfold wG qW;cases hx:x.any with
  |false=>
   refine⟨⟨c1,λ _=>⟨_,hm,?_⟩⟩,λ _=>c3⟩;show a.out+w.2=c.n+a.out;omega
  |true=>
   refine⟨⟨?_,λ _=>?_⟩,λ _=>rfl⟩
   .show(x.fits&&c.fits)=ae;rw[x1,c1];rfl
   .rcases Nat.le_total x.n (c.n+a.out)with hle|hle
    .exact⟨_,hm,by show a.out+w.2=max x.n (c.n+a.out);rw[ub hle];omega⟩
    .obtain⟨w',h1,h2⟩:=x2 hx;exact⟨w',h1,by show w'.2=max x.n (c.n+a.out);rw[Nat.max_eq_left hle];exact h2⟩
def O8(g:eM M):∀i,i<=Z M->∀k,k<i->Bs M k ((dq oG wG zG (M.take i)).getD k zG)/\((dq oG wG zG (M.take i)).getD k zG).any=ae:=
 Es (R:=λ k v=>Bs M k v/\v.any=ae) λ i s h hk=>by
  obtain⟨h1,h2⟩:=O9 g h hk (Z s.arcs) (aI _);refine⟨h1,h2 ?_⟩;rcases(g i s h).2.2.2.1 with hf|hf
  .exact .inl hf
  .exact .inr (je.2 hf)
def Fw:bK O 282 (pw b 0) 0=.ok (pw b 0):=by kernel_rfl
def Fx:bK O 282 (pw b 0) 1=.ok (pw b 2):=by kernel_rfl
def Jm:bK O 280 (pw b 0) 0=.ok (pw b 0):=by kernel_rfl
def Oh:bK O 280 (pw b 0) 1=.ok (pw b 1):=by kernel_rfl
def SU:bk O 280=.ok 2:=by kernel_rfl
def Bm:dj O 282=.ok (.agg ⟨b_ zG⟩):=by kernel_rfl
def HU{x:Int}{f:Bool}:eu O 280 [(0,.int .u64 x),(1,.bool f)]=.ok (.agg ⟨[.int .u64 x,.bool f]⟩):=by kernel_rfl
def HV{x:Int}{f a:Bool}:eu O 282 [(0,.agg ⟨[.int .u64 x,.bool f]⟩),(1,.bool a)]=.ok (.agg ⟨[.int .u64 x,.bool f,.bool a]⟩):=by kernel_rfl
def JZ{k:Kd}{m:dV}(h:dp A 282 b k (b_ m)):aj O A.get 280 (pw b 0)=.ok (.agg ⟨[.int .u64 m.n,.bool m.fits]⟩):=by
 obtain⟨c,h1,h2⟩:=h;obtain⟨d,hd1,hd2⟩:=cF (t:=280) (p:=ae) (by kernel_rfl);have hg:c.hZ 2 0=U [.int .u64 m.n,.bool m.fits]:=px _ _ _ _ rfl λ j hj=>by
  have:j=0\/j=1:=by omega
  rcases this with rfl|rfl
  .exact h2 0 (by simp[b_])
  .exact h2 1 (by simp[b_])
 unfold aj;simp only[h1,hd1,hd2,aJ,SU,R.aW,hg]
def Tr{k:Kd}{m:dV}{f:Bool}(h:dp A 282 b k (b_ m)):∃A',cm O A 280 (pw b 0) (.agg ⟨[.int .u64 n,.bool f]⟩)=.ok A'/\dp A' 282 b k (b_ ⟨n,f,m.any⟩)/\A'.next=A.next/\∀z,z≠b->A'.get z=A.get z:=by
 obtain⟨A',h1,h2,h3,h4⟩:=h.put (o:=0) (vs:=[.int .u64 n,.bool f]) (by simp[bS]) (by simp[b_]) (by simp);refine⟨A',?_,h4 _ rfl λ j hj=>?_,h2,h3⟩
 .unfold cm;simp only[SU,R.aW,a7];exact h1
 .have:j=0\/j=1\/j=2:=by simp[b_]at hj;omega
  rcases this with rfl|rfl|rfl<;>simp[b_]
def Av{k:Kd}{m:dV}(h:dp A 282 b k (b_ m)):aj O A.get 282 (pw b 0)=.ok (.agg ⟨b_ m⟩):=by
 obtain⟨d,hd1,hd2⟩:=cF (by kernel_rfl);exact cg hd1 hd2 qZ h
def qcr:Hy 198 oG:=λ D x s=>by
 have k1:=Kp.alloc D (af 186 (aS x s));have v1:=aQ D 186 (aS x s);have n1:=aG D (af 186 (aS x s));generalize hB:D.alloc (af 186 (aS x s))=B at v1 n1 k1;have k2:=Kp.alloc B (af 282 (b_ zG));have v2:=aQ B 282 (b_ zG);have v1:=v1.kp k2;have n2:=aG B (af 282 (b_ zG));generalize hC:B.alloc (af 282 (b_ zG))=C at v1 v2 k2 n2;have l1:=v1.m1 u4 rfl;have l2:=v1.m2 dH rfl;obtain⟨E,sE,vE,nE,fE⟩:=ku (l':=b_ (oG s)) (by exact qZ) v2.2 rfl (by simp[b_]) (yT _);have sE':cm O C 282 (pw B.next 0) (.agg ⟨[.int .u64 s.out,.bool ae,.bool s.fin]⟩)=.ok E:=sE;have lE:=Av vE;refine⟨E,?_,⟨by omega,λ z hz=>by rw[fE z (by omega),k2.2 z (by omega),k1.2 z hz]⟩⟩;refine cq 60 (aD Tryz.func198) (by kernel_rfl) λ M=>?_
 simp(disch:=omega)only[Tryz.f198,Aq,aa,a7,hB,hC,Bm,fV,nT,l1,l2,HU,HV,sE',lE]<;>rfl
def qeV{m x:dV}(h:x.any=ae):∃A',az O 201 [jA m,jA x] A (jA (qW m x)) A'/\Kp A A':=by
 have k1:=Kp.alloc A (af 282 (b_ m));have v1:=aQ A 282 (b_ m);have n1:=aG A (af 282 (b_ m));generalize hB:A.alloc (af 282 (b_ m))=B at v1 n1 k1;have k2:=Kp.alloc B (af 282 (b_ x));have v2:=aQ B 282 (b_ x);have v1:=v1.kp k2;have n2:=aG B (af 282 (b_ x));generalize hC:B.alloc (af 282 (b_ x))=C at v1 v2 k2 n2;have k3:=Kp.alloc C (af 282 (b_ zG));have v3:=aQ C 282 (b_ zG);have v1:=v1.kp k3;have v2:=v2.kp k3;have n3:=aG C (af 282 (b_ zG));generalize hD:C.alloc (af 282 (b_ zG))=D at v1 v2 v3 k3 n3;have kD:=k1.trans (k2.trans k3);obtain⟨E,sE,vE,nE,fE⟩:=ku (l':=b_ (qW m x)) (by exact qZ) v3.2 rfl (by simp[b_]) (yT _);have lE:aj O E.get 282 (.pointer (U ⟨C.next,0,V⟩))=.ok (jA (qW m x)):=Av vE;have a1:aj O D.get 4 (.pointer (U ⟨A.next,2,V⟩))=.ok (.bool m.any):=v1.ld rfl u4 rfl;have a2:aj O D.get 4 (.pointer (U ⟨B.next,2,V⟩))=.ok (.bool x.any):=v2.ld rfl u4 rfl;have kE:Kp A E:=⟨by omega,λ z hz=>by rw[fE z (by omega),kD.2 z hz]⟩;refine⟨E,?_,kE⟩;rw[h]at a2;cases hm:m.any with
 |false=>
  rw[hm]at a1;have lx:aj O D.get 282 (.pointer (U ⟨B.next,0,V⟩))=.ok (.agg ⟨b_ (qW m x)⟩):=by
   have e:qW m x=x:=by unfold qW;rw[hm];rfl
   rw[e];exact Av v2.2
  unfold jA at*;refine cq 60 (aD Tryz.func201) (by kernel_rfl) λ M=>?_
  simp(disch:=first|decide+kernel|omega)only[Tryz.f201,Aq,aa,a7,hB,hC,hD,Bm,Fx,a1,a2,lx,sE,lE]<;>rfl
 |true=>
  rw[hm]at a1;have b1:=v1.l0 dH rfl;have b2:=v2.l0 dH rfl;have d1:=v1.l1 u4 rfl;have d2:=v2.l1 u4 rfl;have mx:=qbq (tb:=O) (ts:=[113,113]) (a:=m.n) (b:=x.n);have e:qW m x=⟨max m.n x.n,m.fits&&x.fits,ae⟩:=by unfold qW;rw[hm];rfl
  rw[e]at sE lE⊢;have sE':cm O D 282 (.pointer (U ⟨C.next,0,V⟩)) (.agg ⟨[.int .u64 (max m.n x.n:Nat),.bool (m.fits&&x.fits),.bool ae]⟩)=.ok E:=sE;unfold jA at*;cases hf:m.fits with
  |false=>
   rw[hf]at d1;simp only[hf,Bo]at sE';rw[hf]at lE;refine cq 60 (aD Tryz.func201) (by kernel_rfl) λ M=>?_
   simp(config:={maxSteps:=4000000})(disch:=first|decide+kernel|omega|simp only[Wq,aa])only[Tryz.f201,Aq,av,reduceIte,aa,ak,a7,hB,hC,hD,Bm,Fw,Fx,Jm,Oh,a1,a2,b1,b2,d1,d2,mx,HU,HV,sE',lE]<;>rfl
  |true=>
   rw[hf]at d1;simp only[hf,tR]at sE';rw[hf]at lE;refine cq 60 (aD Tryz.func201) (by kernel_rfl) λ M=>?_
   simp(config:={maxSteps:=4000000})(disch:=first|decide+kernel|omega|simp only[Wq,aa])only[Tryz.f201,Aq,av,reduceIte,aa,ak,a7,hB,hC,hD,Bm,Fw,Fx,Jm,Oh,a1,a2,b1,b2,d1,d2,mx,HU,HV,sE',lE]<;>rfl
def qiq(g:Sto.Good M):Eo 199 oG wG M:=λ D i j s a hi hj=>by
 have hil:=(bU.1 hi).1;have hk:=O8 g.1 i (by omega);obtain⟨⟨x1,x2⟩,x3⟩:=O9 g.1 hi hk j (by have:=(bU.1 hj).1;omega);have ha:=gJ hj;obtain⟨⟨c1,c2⟩,c3⟩:=hk a.to ((g.1 i s hi).2.2.1 a ha);obtain⟨w,hw,hwn⟩:=c2 c3;have hle:=g.2.2 i hil _ (Mn g.1 hi ha hw);rw[Ge oG wG zG hj];generalize iK oG wG zG (dq oG wG zG (M.take i)) s j=x at*;generalize (dq oG wG zG (M.take i)).getD a.to zG=c at*;have hs:c.n+a.out<18446744073709551616:=by
  have:=hle;omega
 have k1:=Kp.alloc D (af 282 (b_ x));have v1:=aQ D 282 (b_ x);have n1:=aG D (af 282 (b_ x));generalize hB:D.alloc (af 282 (b_ x))=B at v1 n1 k1;have k2:=Kp.alloc B (af 282 (b_ c));have v2:=aQ B 282 (b_ c);have v1:=v1.kp k2;have n2:=aG B (af 282 (b_ c));generalize hC:B.alloc (af 282 (b_ c))=C at v1 v2 k2 n2;have k3:=Kp.alloc C (af 282 (b_ zG));have v3:=aQ C 282 (b_ zG);have v1:=v1.kp k3;have v2:=v2.kp k3;have n3:=aG C (af 282 (b_ zG));generalize hD:C.alloc (af 282 (b_ zG))=E at v1 v2 v3 k3 n3;have l1:=JZ v2.2;have ka:=λ ih A=>FQ (ih:=ih) (A:=A) (f:=c.fits) hs
 obtain⟨F,sF,vF,nF,fF⟩:=Tr v2.2;have lx:=Av (v1.2.same (fF _ (by omega)));have lc:aj O F.get 282 (pw B.next 0)=.ok (jA ⟨c.n+a.out,c.fits,c.any⟩):=Av vF;obtain⟨G,⟨go,hgo⟩,kG⟩:=qeV (A:=F) (m:=x) (x:=⟨c.n+a.out,c.fits,c.any⟩) c3;obtain⟨H,sH,vH,nH,fH⟩:=ku (l':=b_ (qW x ⟨c.n+a.out,c.fits,c.any⟩)) (by exact qZ) (v3.2.same (by rw[kG.2 _ (by omega),fF _ (by omega)])) rfl (by simp[b_]) (yT _);have lH:=Av vH;have nG:=kG.1;refine⟨H,?_,⟨by omega,λ z hz=>by rw[fH z (by omega),kG.2 z (by omega),fF z (by omega),k3.2 z (by omega),k2.2 z (by omega),k1.2 z hz]⟩⟩;have sH':=sH;unfold jA at*;refine bX (go) 60 (aD Tryz.func199) (by kernel_rfl) λ M hM=>?_
 simp(disch:=omega)only[Tryz.f199,Aq,aa,a7,hB,hC,hD,Bm,Fw,l1,ka,sF,lx,lc,hgo,sH',lH]<;>rfl
def qez(h:dA A M y)(g:Sto.Good M)(hM:M≠ [])(hl:Z M<1000000)(hk:∀w∈ws M (Z M-1),w.2+k<=4294967296):
 ∃v A',az O 149 [.agg ⟨[y,.int .u64 k]⟩] A v A'/\Kp A A'/\∃n:Nat,v=.tuple ⟨[.int .u64 n,.bool ae]⟩:=by
 have kB:=Kp.alloc A (af 115 [y,.int .u64 k]);have vB:=aQ A 115 [y,.int .u64 k];have nB:=aG A (af 115 [y,.int .u64 k]);generalize hB:A.alloc (af 115 [y,.int .u64 k])=B at kB vB nB;obtain⟨d,hd1,hd2⟩:=cF (by kernel_rfl);have lB:=cg hd1 hd2 gF vB.2;obtain⟨v,C,⟨gc,hc⟩,rfl,kC⟩:=qer (h.kp kB) (k:=.int .u64 k) g.1 hM hl qcr (qiq g);have hpos:=je.2 hM;obtain⟨⟨c1,c2⟩,c3⟩:=O8 g.1 (Z M) (aI _) (Z M-1) (by omega);rw[dU]at c1 c2 c3;generalize (dq oG wG zG M).getD (Z M-1) zG=m at*;obtain⟨w,hw,hwn⟩:=c2 c3;have hle:=hk w hw;have k3:=Kp.alloc C (af 282 (b_ m));have v3:=aQ C 282 (b_ m);have sD:cm O (C.alloc (af 282 (b_ zG))) 282 (pw C.next 0) (jA m)=.ok (C.alloc (af 282 (b_ m))):=fP qZ rfl rfl (by simp[b_]) (yT _);generalize hD:C.alloc (af 282 (b_ m))=D at k3 v3 sD;have l1:=JZ v3.2;have ka:=λ ih A=>FQ (ih:=ih) (A:=A) (f:=m.fits) (n:=m.n) (m:=k) (by omega)
 obtain⟨F,sF,vF,nF,fF⟩:=Tr (n:=m.n+k) (f:=m.fits) v3.2;have l2:=(vB.kp (kC.trans k3)).m1 dH rfl;have l3:aj O F.get 4 (pw C.next 2)=.ok (.bool m.any):=dg u4 rfl vF rfl;have l4:=JZ vF;have l5:aj O F.get 113 (pw C.next 0)=.ok (uN (m.n+k)):=dg dH rfl vF rfl;have ks:=λ ih A=>PQ (ih:=ih) (A:=A) (n:=m.n+k) (f:=m.fits)
 rw[c1,decide_eq_true (by omega)]at ks;rw[c3]at l3;rw[c1]at ka sF l1 l4;have nC:=kC.1;have nD:=k3.1;refine⟨_,F,?_,⟨by omega,λ z hz=>by rw[fF z (by omega),k3.2 z (by omega),kC.2 z (by omega),kB.2 z hz]⟩,m.n+k,rfl⟩;unfold jA at*;simp only[sK]at ks;refine bX (gc) 60 (aD Tryz.func149) (by kernel_rfl) λ M hM=>?_
 simp(disch:=first|decide+kernel|omega|simp only[Wq,aa])only[Tryz.f149,Aq,av,reduceIte,aa,ak,a7,hB,lB,yH,hc,Bm,sD,Fw,Fx,Jm,Fm,l1,l2,ka,sF,l3,l4,ks,l5]<;>rfl
def fi(p:Nat×Nat):List I:=[.int .i64 p.1,.int .i64 p.2]
def A_:O.aB 335=U (.slice 334):=by kernel_rfl
def SV:bk O 334=.ok 2:=by kernel_rfl
def LL:fu O 334=.ok (2,[.int .i64 0,.int .i64 0]):=by kernel_rfl
def qhW:∃i,O.ty.get 334=U i/\0<i.bytes/\i.bytes<=65536:=by
 have h:((O.ty.get 334).map λ i=>i.bytes)=U 16:=by kernel_rfl
 cases hq:O.ty.get 334 with
 |none=>rw[hq]at h;cases h
 |some i=>
  rw[hq]at h;have:i.bytes=16:=by simpa using h
  exact⟨i,rfl,by omega,by omega⟩
def jg(A:Mem)(b:Nat)(P:List (Nat×Nat))(x:I):Prop:=∃(Q:List (Nat×Nat)) (c:Nat) (k:Kd),x=.slice (U ⟨b,0,V⟩) (Z P) c/\b<A.next/\dp A 334 b k (Q.map fi).flatten/\bV c=Z Q/\Z P<=Z Q/\Q.take (Z P)=P/\(ed c=ae\/(ed c=ag/\hY c=2/\k=.row))
variable {A':Mem}
def jg.same{P:List (Nat×Nat)}{x:I}(h:jg A b P x)(hn:A.next<=A'.next)(hg:A'.get b=A.get b):jg A' b P x:=by
 obtain⟨Q,c,k,h1,h2,h3,h4⟩:=h;exact⟨Q,c,k,h1,c9 h2 hn,h3.same hg,h4⟩
def jg.len{P:List (Nat×Nat)}{x:I}(h:jg A b P x):c_ O .len [335] [x]=.ok (iN (Z P)):=by
 obtain⟨Q,c,k,rfl,-⟩:=h;exact mQ A_
def jg.idx{P:List (Nat×Nat)}{x:I}(h:jg A b P x)(hi:i<Z P):eE O 335 x (.int .i64 i)=.ok (pw b (i*2)):=by
 obtain⟨Q,c,k,rfl,-⟩:=h;have hb:aO i (Z P)=ae:=by rw[bZ];exact hi
 have hn:jx (.int .i64 i)=.ok i:=rfl;unfold eE;simp only[hn,A_,hb,aJ,SV,R.aW,g_,ep]
def tD(Q:List (Nat×Nat)):∀l∈Q.map fi,Z l=2:=λ l hl=>by
 obtain⟨_,_,rfl⟩:=eH.1 hl;rfl
def jg.at{P:List (Nat×Nat)}{x:I}{p:Nat×Nat}(h:jg A b P x)(hi:P[i]?=U p):aj O A.get 3 (pw b (i*2))=.ok (.int .i64 p.1)/\aj O A.get 3 (pw b (i*2+1))=.ok (.int .i64 p.2):=by
 obtain⟨Q,c,k,rfl,h2,h3,h4,h5,h6,h7⟩:=h;have hil:=(bU.1 hi).1;have hr:(Q.map fi)[i]?=U (fi p):=by
  rw[dN,show Q[i]?=U p by rw[<-hi,<-h6,pM,aA hil]];rfl
 exact⟨dg u3 rfl h3 (by have:=nU (tD Q) hr (j:=0) (by omega);rw[eo]at this;rw[this];rfl),dg u3 rfl h3 (by rw[nU (tD Q) hr (j:=1) (by omega)];rfl)⟩
def jg.Ca{P:List (Nat×Nat)}{x:I}{p:Nat×Nat}(h:jg A b P x)(hi:P[i]?=U p):∃A',cm O A 3 (pw b (i*2+1)) (.int .i64 n)=.ok A'/\jg A' b (P.set i (p.1,n)) x/\A'.next=A.next/\∀z,z≠b->A'.get z=A.get z:=by
 obtain⟨Q,c,k,rfl,h2,h3,h4,h5,h6,h7⟩:=h;have hil:=(bU.1 hi).1;have hri:Q[i]?=U p:=by rw[<-hi,<-h6,pM,aA hil]
 have hr:(Q.map fi)[i]?=U (fi p):=by rw[dN,hri];rfl
 have hlen:=ju (tD Q);have hlt:=CQ (tD Q) (i:=i) (j:=1) (by rw[bc];omega) (by omega);obtain⟨A',e1,e2,e3,e4⟩:=db (tb:=O) (t:=3) (v:=.int .i64 n) Dm h3 hlt rfl rfl;refine⟨A',e1,⟨Q.set i (p.1,n),c,k,by rw[dS],by omega,?_,by rw[dS];exact h4,by rw[dS,dS];exact h5,by rw[dS,List.take_set,h6],h7⟩,e3,e4⟩;rw[show((Q.set i (p.1,n)).map fi).flatten=(Q.map fi).flatten.set (i*2+1) (.int .i64 n)from ?_]
 .exact e2
 .refine List.ext_getElem? λ j=>?_
  rw[D8];by_cases hj:j<(Q.map fi).flatten.length
  .rw[Ai (tD Q) rfl (by rw[bc];omega) j hj,pL];by_cases h0:j=i*2
   .subst h0;have:=nU (tD Q) hr (j:=0) (by omega);rw[eo]at this;rw[aA (by omega),ax (by omega),this,iQ];rfl
   .by_cases h1:j=i*2+1
    .subst h1;rw[aA (by omega),aA rfl,aA hlt,show i*2+1-i*2=1 by omega];rfl
    .rw[ax (by omega),ax (by omega)]
  .have e:(((Q.map fi).set i (fi (p.1,n))).flatten).length=(Q.map fi).flatten.length:=by
    rw[hlen,ju (n:=2) (λ l hl=>by
     rcases zx hl with hl|rfl
     .exact tD Q l hl
     .rfl),dS]
   rw[ky (by omega),ky (by rw[dS];omega)]
def jg.push{b2:Nat}{P:List (Nat×Nat)}{x:I}{p:Nat×Nat}(h:jg A b P x)(hb2:A.get b2=U (af 334 (fi p)))(hl:Z P<1000000):
 ∃x' A' b',dJ O A 335 335 x (.slice (U ⟨b2,0,V⟩) 1 2)=.ok (x',A')/\jg A' b' (P++[p]) x'/\(b'=b\/b'=A.next)/\A.next<=A'.next/\∀y,y≠b->y<A.next->A'.get y=A.get y:=by
 obtain⟨Q,c,k,rfl,h2,h3,h4,h5,h6,h7⟩:=h;have hnew:jJ A.get 2 1 (.slice (U ⟨b2,0,V⟩) 1 2)=.ok (fi p):=by
  have:=wH (n:=2) (m:=1) (oQ (e:=334) (k:=.var (fi p).length) hb2) rfl;exact this
 have h1c:∀v∈fi p,bS v=ae:=by simp[fi,bS]
 have hlen:=ju (tD Q);rw[bc]at hlen;obtain⟨ti,t1,t2,t3⟩:=qhW;by_cases hroom:Z P+1<=Z Q
 .obtain⟨A',e1,e2,e3,e4⟩:=h3.put (o:=Z P*2) (vs:=fi p) h1c (by rw[hlen];simp[fi];omega) (by simp[fi]);have hble:av (Z P+1) (bV c)=ae:=my (by omega);refine⟨.slice (U ⟨b,0,V⟩) (Z P+1) c,A',b,?_,⟨Q.set (Z P) p,c,k,by rw[aY];rfl,by omega,?_,by rw[dS];exact h4,by rw[dS,aY];exact hroom,?_,h7⟩,.inl rfl,by omega,λ y hy _=>e3 y hy⟩
  .unfold dJ ig;simp only[A_,kh,bJ,LL,R.aW,gj,hnew,hble,aJ,g_,ep,e1]
  .refine e4 _ ?_ λ j hj=>?_
   .rw[hlen,ju (tD _),bc,dS]
   .rw[D8,Ai (tD Q) rfl (by rw[bc];omega) j hj];rfl
  .rw[aY,fb,d_ (by rw[dS];omega),List.take_set_of_le (aI _),h6,List.getElem_set_self]
 .have hRP:Q=P:=by rw[<-h6,BF (by omega)]
  have hble:av (Z P+1) (bV c)=ag:=by
   cases hq:av (Z P+1) (bV c)with
   |false=>rfl
   |true=>have:=gK hq;omega
  have hlim:(av (Z P+1) 16777216&&av ti.bytes 65536&&aO 0 ti.bytes&&aO 0 2&&aO 2 65536)=ae:=by
   have a1:av (Z P+1) 16777216=ae:=my (by omega);have a2:av ti.bytes 65536=ae:=my t3;have a3:aO 0 ti.bytes=ae:=by rw[bZ];exact t2
   rw[a1,a2,a3];rfl
  have hel:gh A.get 2 (Z P) (U ⟨b,0,V⟩)=.ok (Q.map fi).flatten:=wH h3 (by rw[hlen,hRP]);have fin:∀A0:Mem,A0.next=A.next->jg (A0.alloc (.cells 334 .row 0 (T.bW .e 0 ((Q.map fi).flatten++fi p)))) A.next (P++[p]) (.slice (U ⟨A.next,0,V⟩) (Z P+1) (cP (Z P+1) 2)):=λ A0 hn=>
   ⟨P++[p],cP (Z P+1) 2,.row,by rw[aY];rfl,by rw[aG];omega,by rw[gg,D5,<-hRP];simp only[lK,sQ,vq,Hj,jT];exact oQ (by rw[<-hn];exact de _ _),by rw[iW (by omega),aY];rfl,aI _,dU,.inr ⟨kU _ _,mH (by omega),rfl⟩⟩
  rcases h7 with hx|⟨hx,he,rfl⟩
  .refine⟨_,A.alloc (.cells 334 .row 0 (T.bW .e 0 ((Q.map fi).flatten++fi p))),A.next,?_,fin A rfl,.inr rfl,by rw[aG];omega,λ y _ hlt=>cY (by omega)⟩;unfold dJ ig;simp only[A_,kh,bJ,LL,R.aW,gj,hnew,hble,t1,hlim,aJ,hel,hx]
  .obtain⟨cs,q1,q2⟩:=h3;have hone:(fi p).all bS=ae:=oT.2 h1c;have hbe:aL (hY c) 2=ae:=by rw[he];rfl
   have hfz:(av 0 (0+Z P*2)&&(aL 334 334&&aO 0 9223372036854775808))=ae:=by
    have h0:aO 0 9223372036854775808=ae:=by rw[bZ];omega
    rw[h0];simp
   refine⟨_,(A.set b .dead).alloc (.cells 334 .row 0 (T.bW .e 0 ((Q.map fi).flatten++fi p))),A.next,?_,fin (A.set b .dead) (cU _ _ _),.inr rfl,by rw[aG,cU];omega,λ y hy hlt=>by rw[cY (by rw[cU];omega),cN,ax hy]⟩;unfold dJ ig;simp only[A_,kh,bJ,LL,R.aW,gj,hnew,hble,t1,hlim,aJ,hel,hx,hbe,hone,sK,q1,hfz]
def jg.pop{P:List (Nat×Nat)}{x:I}{p:Nat×Nat}(h:jg A b (P++[p]) x):∃x',iL O 335 x V (U (.int .i64 (Z P:Nat))) V=.ok x'/\jg A b P x':=by
 obtain⟨Q,c,k,rfl,h2,h3,h4,h5,h6,h7⟩:=h;rw[aY,fb]at*;have e1:bound (U (.int .i64 (Z P:Nat))) (Z P+1) (bV c)=.ok (Z P):=zT (by omega);have hx:(ed c&&aL (bV c) 0)=ag:=by
  have:aL (bV c) 0=ag:=by
   cases hq:aL (bV c) 0 with
   |false=>rfl
   |true=>have:=eW hq;omega
  rw[this,Bool.and_false]
 have hf:lY c 2=ae:=by
  unfold lY;rcases h7 with h|⟨h,he,-⟩
  .rw[h];rfl
  .rw[h,he];rfl
 refine⟨.slice (U ⟨b,0,V⟩) (Z P) (p_ c 0),?_,Q,p_ c 0,k,rfl,h2,h3,by rw[wE,h4,kL],by omega,?_,?_⟩
 .unfold iL;simp only[A_,e1,R.aW,zS,SV,hx,bJ,hf,aJ,g_,xZ,eo,kL]
 .have:=cX (List.take (Z P)) h6;rwa[List.take_take,nf (by omega),List.take_left]at this
 .rw[z6];rcases h7 with h|⟨h,he,hk⟩
  .exact .inl h
  .exact .inr ⟨h,by rw[EW h];exact he,hk⟩
def qhp{p:Nat×Nat}(hb:b<A.next)(h:dp A 334 b (.var 2) (fi p)):jg A b [p] (.slice (U ⟨b,0,V⟩) 1 2):=
 ⟨[p],2,.var 2,rfl,hb,by simpa using h,rfl,aI _,rfl,.inl rfl⟩
end Go.Proofs.YtjoceidiioppiaaGreatDoor.sto
end
