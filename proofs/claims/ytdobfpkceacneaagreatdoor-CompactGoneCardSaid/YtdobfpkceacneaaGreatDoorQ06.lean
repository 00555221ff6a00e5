/- The abstract machine, the walk of the law and its plain laws, made small by a program; part 6: no conditions but those in each theorem. -/
import Derived.Test.YtdobfpkceacneaaGreatDoorQ05
set_option maxHeartbeats 16000000
set_option maxRecDepth 100000
set_option linter.unusedSimpArgs false
set_option linter.unusedVariables false
set_option linter.defProp false
noncomputable section
open Bool renaming and_true→sY,false_and→zB,false_eq_true→ed,true_and→t_,false→af,true→aa
open Go renaming Code→aH,Operand→bA,TypeId→aj,Value→O
open List renaming all_eq_true→ov,append_assoc→jD,append_nil→kR,cons_append→ij,drop_eq_getElem_cons→nb,drop_length→xZ,drop_zero→vZ,exists_mem_of_ne_nil→Hi,flatMap_append→zL,flatMap_cons→j',flatten_append→Bx,flatten_cons→s9,flatten_nil→Hm,foldl_append→zM,foldl_cons→mG,getD_eq_getElem?_getD→ow,getElem?_append_left→eG,getElem?_append_right→ez,getElem?_cons_succ→dU,getElem?_cons_zero→dX,getElem?_eq_getElem→aV,getElem?_eq_none→lW,getElem?_eq_some_iff→bg,getElem?_map→da,getElem?_set→pR,getElem?_set_self→Hn,getElem?_take→oz,getElem_mem→ik,getElem_of_mem→rA,length→Z,length_append→aU,length_cons→cd,length_eq_zero_iff→eQ,length_map→aR,length_nil→dL,length_pos_iff→iG,length_replicate→Bz,length_set→dI,length_singleton→fg,length_take→db,map→ya,map_append→fY,map_cons→eU,map_map→zO,map_nil→rB,map_set→BA,mem_append_right→yb,mem_cons→cC,mem_cons_of_mem→cU,mem_cons_self→cM,mem_flatMap→BB,mem_map→dA,mem_of_getElem?→fh,mem_or_eq_of_mem_set→zP,mem_singleton→ee,nil_append→lX,nodup_cons→zQ,nodup_nil→qz,not_mem_nil→en,pairwise_iff_getElem→ue,replicate→fq,set_append_right→BC,sum_append→Ed,sum_cons→BD,take_add_one→zR,take_length→dY,take_of_length_le→ug,take_succ_eq_append_getElem→eH,take_take→zS,take_zero→zT
open List.cons renaming injEq→ff
open Nat renaming add_sub_cancel→zW,add_zero→dN,beq→aL,ble→au,ble_eq_true_of_le→mJ,blt→aM,blt_eq→bT,eq_of_beq_eq_true→dZ,le_of_ble_eq_true→fQ,le_refl→aJ,le_trans→dp,lt_irrefl→gY,lt_of_le_of_lt→pU,lt_of_lt_of_le→dc,lt_or_ge→d_,max_eq_left→Ht,max_eq_right→yh,min_eq_left→oA,not_lt_zero→BK,reduceAdd→ak,reduceEqDiff→V,strongRecOn→yi,sub_self→gZ,sub_zero→iV,zero_add→dO,zero_le→a6,zero_mul→oB
open Option renaming bind_some→wj,map_some→fZ,none→Y,some→U
open Option.some renaming inj→je,injEq→eM
open Prod.mk renaming injEq→bf
open Go.Proofs.Tryz renaming f10→ym,f128→gv,f143→pW,f150→jG,f159→pc,f186→tk,f201→qK,f208→pd,f209→pe,f214→pg,f41→wA,f96→rP,f97→uA
open UInt8 renaming toNat_inj→yI
namespace Go.Proofs.YtdobfpkceacneaaGreatDoor.sto
open Go.Am Go.Mdl Go.Sto Go.Shelf
def zf:aY I 40=.ok 1:=by kernel_rfl
def LI:cX I 40=.ok (.slice Y 0 0):=by kernel_rfl
def UL:cX I 321=.ok (.agg ⟨[uN 0,.bool af]⟩):=by kernel_rfl
variable {b:Nat}
def N9:bM I 321 (pw b 0) 0=.ok (pw b 0):=by kernel_rfl
def oH:=cg tk
def yM:aH:=sub oH [1,1,0,1,0,0]
def yN:aH:=sub oH [1,1,0,1,0,1]
def Xc:tk.body=U (.seq (sub oH [0]) (.seq (sub oH [1,0]) (.seq (.seq (sub oH [1,1,0,0]) (.block 0 (.rangeFunc (.tmp 15) #[16,17] yM yN))) (.seq (sub oH [1,1,1,0]) (sub oH [1,1,1,1]))))):=by kernel_rfl
def iM(t:T O)(d:Nat):eT:=gR t 37 [16,17] yM yN d
def QF(es:List aD)(t:T O)(mk a:Nat)(j:Nat)(D:Mem)(r:Nat):Prop:=
 (r=a\/mk+2<=r)/\r<D.next/\mk+2<=D.next/\VB D 3 (a+1) (.var 1) [iN (Z es)]/\(∃x,VB D 40 (a+2) (.var 1) [x]/\ai D 44 3 r ((es.take j).map aS) x)/\
  D.get (mk+1)=U (.loop (if j<Z es then iM t mk else {iM t mk with state:=.done,pending:=U (.exit 0)}))
variable {t:T O}{mk n:Nat}
def QF.gF{es:List aD}{a:Nat}(hn:n<=mk+2)(ha:a+2<mk)(hmk:mk+1<n):∀j D E r,QF es t mk a j D r->D.next<=E.next->(∀z,(z<n\/z=r)->E.get z=D.get z)->QF es t mk a j E r:=by
 rintro j D E r ⟨h1,h2,h3,h4,⟨x,h5,h6⟩,h7⟩ hl hz;exact⟨h1,by omega,by omega,⟨by have:=h4.1;omega,h4.2.same (hz _ (by omega))⟩,⟨x,⟨by have:=h5.1;omega,h5.2.same (hz _ (by omega))⟩,h6.same hl λ _=>hz _ (.inr rfl)⟩,by rw[hz _ (by omega)];exact h7⟩
def YV{es:List aD}{a:Nat}{L:List (List UInt8×Nat)}(hL:L=es.map λ e=>(e.word,val e))(hN:∀e∈es,Norm e)(hn:Z es<1000000)(ha:a+2<mk)(hs:Sl t [(5,pV (a+1)),(6,pV (a+2))]):Ha [a+2,mk+1] (mk+1) L (QF es t mk a):=by
 subst hL;rintro j w v D r hj ⟨hr,hrD,hm,v5,⟨x,v6,hS⟩,hlp⟩;obtain⟨g5,g6,-⟩:=hs;rw[da]at hj;cases hej:es[j]? with
 |none=>rw[hej]at hj;cases hj
 |some e=>
 rw[hej]at hj;simp only[fZ,eM,bf]at hj;obtain⟨rfl,rfl⟩:=hj;obtain⟨hjl,hje⟩:=bg.1 hej;have hNe:=hN e (fh hej);have hv:val e<=4294967296:=by
  have:=hNe.2;unfold val;split<;>omega
 rw[aC hjl]at hlp;rw[aR];have kE:=Kp.alloc D (ae 321 [.int .u64 (val e:Nat),.bool aa]);have vE:=aK D 321 [.int .u64 (val e:Nat),.bool aa];have nE:=aA D (ae 321 [.int .u64 (val e:Nat),.bool aa]);have sE:bX I (D.alloc (ae 321 [.int .u64 (0:Nat),.bool af])) 321 (.pointer (U ⟨D.next,0,Y⟩)) (pK (val e))=.ok (D.alloc (ae 321 [.int .u64 (val e:Nat),.bool aa])):=ep Gl rfl rfl (by simp) (by simp[bI]);generalize D.alloc (ae 321 [.int .u64 (val e:Nat),.bool aa])=E at kE vE nE sE;have hLE:E.get (mk+1)=U (.loop (iM t mk)):=by rw[kE.2 _ (by omega)];exact hlp
 generalize hF1:E.set (mk+1) (.loop {iM t mk with state:=.busy})=F;have nF:F.next=E.next:=by rw[<-hF1];exact cE _ _ _
 have fF:∀z,z≠mk+1->F.get z=E.get z:=λ z hz=>by rw[<-hF1,cr,aq hz]
 have hLF:F.get (mk+1)=U (.loop {iM t mk with state:=.busy}):=by rw[<-hF1,cr,aC rfl]
 have vF:VB F 321 D.next (.var 2) [.int .u64 (val e:Nat),.bool aa]:=⟨by omega,vE.2.same (fF _ (by omega))⟩
 obtain⟨d,hd1,hd2⟩:=b9 (by kernel_rfl);have l8:=bU hd1 hd2 Gl vF.2;have l8':=vF.l0 eE rfl;have ks:=λ ih A=>PB (ih:=ih) (A:=A) (n:=val e) (f:=aa)
 rw[decide_eq_true hv]at ks;simp only[sY]at ks;obtain⟨G,⟨go,hgo⟩,kG⟩:=qfa (A:=F) hNe;have nG:=kG.1;have kH:=Kp.alloc G (ae 44 (aS e));have nH:=aA G (ae 44 (aS e));have sH:bX I (G.alloc (ae 44 [ag [],.int .u32 (0:Nat),.bool af])) 44 (.pointer (U ⟨G.next,0,Y⟩)) (.agg ⟨aS e⟩)=.ok (G.alloc (ae 44 (aS e))):=ep jd rfl rfl (by simp) (wX _);have lH:ax I (G.alloc (ae 44 (aS e))).get 44 (.pointer (U ⟨G.next,0,Y⟩))=.ok (.agg ⟨aS e⟩):=by
  obtain⟨d,hd1,hd2⟩:=b9 (p:=aa) (by kernel_rfl);exact bU hd1 hd2 jd (sV G 44 (aS e))
 generalize G.alloc (ae 44 (aS e))=H at kH nH sH lH;have fH:∀z,z<D.next->z≠mk+1->H.get z=D.get z:=λ z hz h=>by rw[kH.2 z (by omega),kG.2 z (by omega),fF z h,kE.2 z hz]
 have hSH:=hS.same (by omega) λ h=>fH r h (by omega)
 have l6:ax I H.get 40 (.pointer (U ⟨a+2,0,Y⟩))=.ok x:=c7 mB rfl (v6.2.same (fH _ v6.1 (by omega))) rfl;obtain⟨x',qjV,happ,hSI,nI,fI⟩:=Eu hSH (by rw[db];omega);have happ':=happ;have et:es.take j++[e]=es.take (j+1):=by rw[eH hjl,hje]
 rw[et]at hSI;have hdn:=v6.1;have v6I:=v6.2.same (by rw[fI _ (by omega) (by omega),fH _ v6.1 (by omega)]);obtain⟨xc1,xc2⟩:=ai.di hSI;obtain⟨N,sN,vN,nN,fN⟩:=df (tb:=I) (t:=40) (o:=0) (v:=x') zf v6I (by simp) xc1 xc2;have hSN:=hSI.same (by omega) λ _=>fN _ (by omega)
 have l6':ax I N.get 40 (.pointer (U ⟨a+2,0,Y⟩))=.ok x':=c7 mB rfl vN rfl;have hlenN:=(show dK N (es.take (j+1)) x' from⟨_,hSN⟩).len;rw[db,oA (by omega)]at hlenN;have fND:∀z,z<D.next->z≠mk+1->z≠a+2->z≠r->N.get z=D.get z:=λ z hz h1 h2 h3=>by rw[fN z h2,fI z h3 (by omega),fH z hz h1]
 have v5N:VB N 3 (a+1) (.var 1) [.int .i64 (Z es)]:=⟨by have:=v5.1;omega,v5.2.same (fND _ v5.1 (by omega) (by omega) (by omega))⟩;have l5:=v5N.l0 u3 rfl;have hlN:N.get (mk+1)=U (.loop {iM t mk with state:=.busy}):=by rw[fN _ (by omega),fI _ (by omega) (by omega),kH.2 _ (by omega),kG.2 _ (by omega)];exact hLF
 simp only[pV]at g5 g6;have fin:∀qjT:Mem,qjT.next=N.next->(∀z,z≠mk+1->qjT.get z=N.get z)->qjT.get (mk+1)=U (.loop (if j+1<Z es then iM t mk else {iM t mk with state:=.done,pending:=U (.exit 0)}))->
  QF es t mk a (j+1) qjT (H.next+1)/\dS [a+2,mk+1] D r qjT (H.next+1):=λ qjT hn hf hl=>by
  refine⟨⟨.inr (by omega),by omega,by omega,⟨by have:=v5N.1;omega,v5N.2.same (hf _ (by omega))⟩,⟨x',⟨by omega,de.same vN (hf _ (by omega))⟩,hSN.same (by omega) λ _=>hf _ (by omega)⟩,hl⟩,by omega,.inr (by omega),λ z hz hx hr'=>?_⟩;simp only[cC,en,or_false,not_or]at hx;rw[hf z hx.2,fND z hz hx.2 hx.1 hr']
 by_cases hlt:j+1<Z es
 .have hne:¬(j+1=Z es):=by omega
  rw[decide_eq_true hlt];have hq:∃C,(∃g,∀N,g<=N->cH I (exec I N) (.round (mk+1) [ag e.word,pK (val e)]) D=.ok (.val (.bool aa) C))/\C=N.set (mk+1) (.loop (iM t mk)):=by
   refine xF hlp (t:=(t.set 16 (ag e.word)).set 17 (pK (val e))) rfl ?_;show W I yM ⟨_,37,[],D,U (mk+1)⟩ _;apply W.run 20
   .intro M;simp(disch:=first|decide+kernel|omega)only[yM,oH,tk,Aq,V,UL,aX,sE];rfl
   refine⟨rfl,_,hLE,rfl,?_⟩;show W I yN ⟨_,37,[],E.set (mk+1) (.loop {iM t mk with state:=.busy}),U (mk+1)⟩ _;rw[hF1];apply W.ct (go) 20
   .intro M hM;simp(config:={maxSteps:=4000000})(disch:=first|decide+kernel|omega|simp only[Wq,V])only[yN,oH,tk,Aq,au,reduceIte,V,ak,g5,g6,l8,l8',N9,ks,hgo,dX,dU,zz,aX,sH,l6,lH,wK,happ',sN,l6',hlenN,l5,hne,Fq,bY []];rfl
   exact⟨rfl,rfl,_,hlN,rfl⟩
  obtain⟨C,hc,rfl⟩:=hq;have:=fin (N.set (mk+1) (.loop (iM t mk))) (cE _ _ _) (λ z h=>by rw[cr,aq h]) (by rw[cr,aC rfl,aC hlt]);exact⟨_,_,hc,this.1,this.2⟩
 .have heq:j+1=Z es:=by omega
  rw[decide_eq_false hlt];have hq:∃C,(∃g,∀N,g<=N->cH I (exec I N) (.round (mk+1) [ag e.word,pK (val e)]) D=.ok (.val (.bool af) C))/\C=N.set (mk+1) (.loop {iM t mk with state:=.done,pending:=U (.exit 0)}):=by
   refine qdT (i:=0) hlp (t:=(t.set 16 (ag e.word)).set 17 (pK (val e))) rfl ?_;show W I yM ⟨_,37,[],D,U (mk+1)⟩ _;apply W.run 20
   .intro M;simp(disch:=first|decide+kernel|omega)only[yM,oH,tk,Aq,V,UL,aX,sE];rfl
   refine⟨rfl,_,hLE,rfl,?_⟩;show W I yN ⟨_,37,[],E.set (mk+1) (.loop {iM t mk with state:=.busy}),U (mk+1)⟩ _;rw[hF1];apply W.ct (go) 20
   .intro M hM;simp(disch:=first|decide+kernel|omega|simp only[Wq,V])only[yN,oH,tk,Aq,au,reduceIte,V,ak,g5,g6,l8,l8',N9,ks,hgo,dX,dU,zz,aX,sH,l6,lH,wK,happ',sN,l6',hlenN,l5,heq,show aL 0 1=af from rfl,Fq,bY []];rfl
   exact⟨rfl,rfl,_,hlN,rfl⟩
  obtain⟨C,hc,rfl⟩:=hq;have:=fin (N.set (mk+1) (.loop {iM t mk with state:=.done,pending:=U (.exit 0)})) (cE _ _ _) (λ z h=>by rw[cr,aq h]) (by rw[cr,aC rfl,aq hlt]);exact⟨_,_,hc,this.1,this.2⟩
variable {A:Mem}{y:O}
def qgx{k:O}:az I 228 [.agg ⟨[y,k]⟩,ag []] A (.func (.func 263) ⟨[]⟩ ⟨[pV (A.next+1),pV A.next]⟩) ((A.alloc (ae 149 [y,k])).alloc (ae 9 [ag []])):=by
 have e:=aA A (ae 149 [y,k]);simp only[pV];refine cG 60 (aN Tryz.func228) (by kernel_rfl) λ M=>?_
 simp(disch:=omega)only[Tryz.f228,Aq,V,aX,sj,e,qU,fb]<;>rfl
variable {M:List ay}{k:Nat}
def qfp{es:List aD}(hS:dJ A M y)(g:eF M)(hM:M≠ [])(hl:Z M<1000000)(hL:sW M k=es.map λ e=>(e.word,val e))(hw:∀e∈es,Z e.word<1000/\Norm e)(h0:es≠ [])(hn:Z es<1000000):
 ∃v A',az I 186 [.agg ⟨[y,.int .u64 k]⟩,ag [],iN (Z es)] A v A'/\dK A' es v/\Kp A A':=by
 refine mc (aN Tryz.func186) Xc (by rw[Tryz.ntmps186];simp) (by kernel_rfl) (by kernel_rfl) ?_;generalize ha:A.next=a
 have n1:(A.alloc (ae 149 [y,.int .u64 k])).next=a+1:=by rw[aA,ha]
 have n2:((A.alloc (ae 149 [y,.int .u64 k])).alloc (ae 3 [iN (Z es)])).next=a+2:=by rw[aA,n1]
 have n3:(((A.alloc (ae 149 [y,.int .u64 k])).alloc (ae 3 [iN (Z es)])).alloc (ae 40 [.slice Y 0 0])).next=a+3:=by rw[aA,n2]
 have q1:=Kp.alloc A (ae 149 [y,.int .u64 k]);have q2:=Kp.alloc (A.alloc (ae 149 [y,.int .u64 k])) (ae 3 [iN (Z es)]);have q3:=Kp.alloc ((A.alloc (ae 149 [y,.int .u64 k])).alloc (ae 3 [iN (Z es)])) (ae 40 [.slice Y 0 0]);have w3:=((aK A 149 [y,.int .u64 k]).kp q2).kp q3;have w5:=(aK (A.alloc (ae 149 [y,.int .u64 k])) 3 [iN (Z es)]).kp q3;have w6:=aK ((A.alloc (ae 149 [y,.int .u64 k])).alloc (ae 3 [iN (Z es)])) 40 [.slice Y 0 0];have hk:=q1.trans (q2.trans q3);rw[ha]at w3;rw[n1]at w5;rw[n2]at w6;have hpos:=iG.2 h0;have hlt1:¬(Z es<1):=by omega
 apply W.q
 .intro M;simp(disch:=omega)only[oH,tk,Aq,V,aX,sd,yQ,ha,n1,n2,LI];rfl
 generalize ((A.alloc (ae 149 [y,.int .u64 k])).alloc (ae 3 [iN (Z es)])).alloc (ae 40 [.slice Y 0 0])=B at hk n3 w3 w5 w6;have l5:=w5.l0 u3 rfl;apply W.q
 .intro M;simp(disch:=decide+kernel)only[oH,tk,Aq,V,l5,hlt1];rfl
 obtain⟨d,hd1,hd2⟩:=DL;have l3:=bU hd1 hd2 (l:=[y,.int .u64 k]) iE w3.2;obtain⟨gw,hgw⟩:=qgx;have m1:(B.alloc (ae 149 [y,.int .u64 k])).next=a+4:=by rw[aA,n3]
 have m2:((B.alloc (ae 149 [y,.int .u64 k])).alloc (ae 9 [ag []])).next=a+5:=by rw[aA,m1]
 have x4:=(aK B 149 [y,.int .u64 k]).kp (Kp.alloc _ (ae 9 [ag []]));have x3:=aK (B.alloc (ae 149 [y,.int .u64 k])) 9 [ag []];have kC:=(Kp.alloc B (ae 149 [y,.int .u64 k])).trans (Kp.alloc _ (ae 9 [ag []]));rw[n3]at x4 hgw;rw[m1]at x3;generalize (B.alloc (ae 149 [y,.int .u64 k])).alloc (ae 9 [ag []])=C at hgw m2 x3 x4 kC;simp only[pV]at hgw;apply W.seq;apply W.qG (gw)
 .intro M hM;simp(disch:=omega)only[oH,tk,Aq,V,l3,hgw];rfl
 apply W.block;generalize ht0:T.set _ _ _=t0;have hsl:Sl t0 [(5,pV (a+1)),(6,pV (a+2)),(15,.func (.func 263) ⟨[]⟩ ⟨[pV (a+4),pV (a+3)]⟩)]:=by
  rw[<-ht0];simp only[Sq,V,ak,pV]
 clear ht0;obtain⟨h5,h6,h15,-⟩:=hsl;have nC:=m2;have kJ:=(Kp.alloc C .defd).trans (Kp.alloc (C.alloc .defd) (.loop (iM t0 C.next)));have nJ1:=aA C .defd;have nJ:((C.alloc .defd).alloc (.loop (iM t0 C.next))).next=C.next+2:=by rw[aA,nJ1]
 have jL:((C.alloc .defd).alloc (.loop (iM t0 C.next))).get (C.next+1)=U (.loop (iM t0 C.next)):=by have:=cR (C.alloc .defd) (.loop (iM t0 C.next));rwa[nJ1]at this
 have jM:((C.alloc .defd).alloc (.loop (iM t0 C.next))).get C.next=U .defd:=by rw[(Kp.alloc (C.alloc .defd) _).2 _ (by omega)];exact cR C .defd
 generalize hJ:(C.alloc .defd).alloc (.loop (iM t0 C.next))=J at kJ nJ jL jM;have kBJ:=kC.trans kJ;have kAJ:=hk.trans kBJ;have hI:QF es t0 C.next a 0 J a:=⟨.inl rfl,by omega,by omega,w5.kp kBJ,⟨_,w6.kp kBJ,.inl ⟨rfl,rfl⟩⟩,by rw[aC hpos];exact jL⟩
 obtain⟨va,E,hA,r,hQE,hFE⟩:=qgy hS g hM hl (by
  rw[hL];intro x hx;obtain⟨e,he,rfl⟩:=dA.1 hx;have:=(hw e he).2.2;refine⟨(hw e he).1,?_⟩;unfold val;split<;>omega)
  (QF.gF (by omega) (by omega) (by omega)) (λ j D r h=>h.2.1) (YV hL (λ e he=>(hw e he).2) hn (by omega) ⟨h5,h6,trivial⟩) kAJ
  (λ x hx=>by
   simp only[cC,en,or_false]at hx;omega)
  (x3.kp kJ) (x4.kp kJ) hI
 have hlen:(sW M k).length=Z es:=by rw[hL,aR]
 rw[hlen]at hQE;obtain⟨e1,e2,e3,e4,⟨x,e5,e6⟩,e7⟩:=hQE;rw[aq (gY _)]at e7;rw[dY]at e6;have hans:az I 263 ([]++[.func (.yield (C.next+1)) ⟨[]⟩ ⟨[]⟩]++[pV (a+4),pV (a+3)]) ((C.alloc .defd).alloc (.loop (gR t0 37 [16,17] yM yN C.next))) va E:=by
  show az I 263 _ ((C.alloc .defd).alloc (.loop (iM t0 C.next))) va E;rw[hJ];exact hA
 have hev:ev t0 (.tmp 15)=.ok (.func (.func 263) ⟨[]⟩ ⟨[pV (a+4),pV (a+3)]⟩):=by simp only[ev,h15]
 refine W.qdv (A':=E) (r:={iM t0 C.next with state:=.done,pending:=U (.exit 0)}) (i:=0) hev hans e7 rfl rfl ?_;generalize hK:E.set (C.next+1) (.loop {({iM t0 C.next with state:=.done,pending:=U (.exit 0)}:eT)with state:=.exhausted})=K;have nK:K.next=E.next:=by rw[<-hK];exact cE _ _ _
 have fK:∀z,z≠C.next+1->K.get z=E.get z:=λ z hz=>by rw[<-hK,cr,aq hz]
 have nE:=hFE.1;have w6K:=e5.2.same (fK _ (by omega));have l6:ax I K.get 40 (pw (a+2) 0)=.ok x:=c7 mB rfl w6K rfl;obtain⟨xc1,xc2⟩:=ai.di e6;obtain⟨N,sN,vN,nN,fN⟩:=df (tb:=I) (t:=40) (o:=0) (v:=x) zf w6K (by simp) xc1 xc2;simp only[pV]at h6;apply W.run 40
 .intro M;simp(disch:=omega)only[oH,tk,Aq,V,h6,l6,sN];rfl
 have mE:E.get C.next=U .defd:=by rw[hFE.2.2 _ (by omega) (by simp;omega) (by omega),jM]
 obtain⟨qjT,t1,t2,t3⟩:=tX [C.next] N (by simp) (λ d hd=>by
  rw[ee]at hd;rw[hd,fN _ (by omega),fK _ (by omega)];exact mE)
 have lO:ax I qjT.get 40 (pw (a+2) 0)=.ok x:=c7 mB rfl (vN.same (t3 _ (by simp;omega))) rfl;have hrx:=e1;have hO:dK qjT es x:=⟨r,e6.same (by omega) λ h=>by rw[t3 _ (by simp;omega),fN _ (by omega),fK _ (by omega)]⟩;have kO:Kp A qjT:=⟨by omega,λ z hz=>by rw[t3 _ (by simp;omega),fN _ (by omega),fK _ (by omega),hFE.2.2 z (by omega) (by simp;omega) (by omega),kAJ.2 z (by omega)]⟩;exact⟨.inr rfl,qjT,[x],t1,(by simp only[tk,Aq,V,h6,lO]<;>rfl),hO,kO⟩
section
variable {T:Type}(o:ay->T)(w:T->T->Nat->T)(z:T)
def iO(acc:List T)(s:ay)(j:Nat):T:=(s.arcs.take j).foldl (λ x a=>w x (acc.getD a.to z) a.out) (o s)
def dk(M:List ay):List T:=M.foldl (λ acc s=>acc++[iO o w z acc s (Z s.arcs)]) []
def Vf(M:List ay)(s:ay):dk o w z (M++[s])=dk o w z M++[iO o w z (dk o w z M) s (Z s.arcs)]:=by unfold dk;rw[zM];rfl
def Ae(M:List ay):(dk o w z M).length=Z M:=by
 have:∀(l:List ay) (acc:List T),(l.foldl (λ acc s=>acc++[iO o w z acc s (Z s.arcs)]) acc).length=Z acc+Z l:=by
  intro l
  induction l with
  |nil=>intro acc;rfl
  |cons s l ih=>intro acc;rw[mG,ih,aU,cd,cd,dL];omega
 unfold dk;rw[this];simp
variable {j:Nat}
def F9{acc:List T}{s:ay}{a:cK}(h:s.arcs[j]?=U a):iO o w z acc s (j+1)=w (iO o w z acc s j) (acc.getD a.to z) a.out:=by
 obtain⟨hj,rfl⟩:=bg.1 h;unfold iO;rw[eH hj,zM];rfl
variable {i:Nat}
def Mg{s:ay}(h:M[i]?=U s):dk o w z (M.take (i+1))=dk o w z (M.take i)++[iO o w z (dk o w z (M.take i)) s (Z s.arcs)]:=by
 obtain⟨hi,rfl⟩:=bg.1 h;rw[eH hi,Vf]
def i_(M:List ay)(i:Nat):List T:=dk o w z (M.take i)++fq (Z M-i) z
def Gg(h:i<=Z M):(i_ o w z M i).length=Z M:=by unfold i_;rw[aU,Ae,db,Bz];omega
def RT(h:i<=Z M)(hk:k<i)(v:T):((i_ o w z M i).set i v)[k]?=U ((dk o w z (M.take i)).getD k z):=by
 have hl:=Ae o w z (M.take i);rw[db,oA h]at hl;rw[pR,aq (by omega)];unfold i_;rw[eG (by omega),aV (by omega),ow,aV (by omega)];rfl
def RU{s:ay}(h:M[i]?=U s):(i_ o w z M i).set i (iO o w z (dk o w z (M.take i)) s (Z s.arcs))=i_ o w z M (i+1):=by
 have hi:=(bg.1 h).1;have hl:=Ae o w z (M.take i);rw[db,oA (by omega)]at hl;unfold i_;rw[Mg o w z h,BC _ _ (by omega),hl,gZ,show Z M-i=(Z M-(i+1))+1 by omega,List.replicate_succ,List.set_cons_zero,jD];rfl
end
theorem Du(l:List O):∀n,iP l n=(fq n l).flatten
 |0=>rfl
 |n+1=>by
  show l++iP l n=_;rw[Du l n,List.replicate_succ,s9]
def encI(v:Int):List O:=[.int .i64 v]
def pN(v:Int):O:=.int .i64 v
def zI:Int:=0
def Bf:I.aB 85=U (.slice 3):=by kernel_rfl
def qhj:aY I 85=.ok 1:=by kernel_rfl
def AW:aY I 3=.ok 1:=by kernel_rfl
def qcc(h:n<=1000000):qY I 85 (.int .i64 (n:Nat)) (.int .i64 (n:Nat))=.ok (ae 3 ((fq n zI).map encI).flatten,.dy n (2*n)):=by
 have h1:((I.ty.get 3).map λ i=>i.bytes)=U 8:=by kernel_rfl
 have z3:eR I 3=.ok (1,encI zI):=by kernel_rfl
 have e:iC (.int .i64 (n:Nat))=.ok n:=rfl;cases hq:I.ty.get 3 with
 |none=>rw[hq]at h1;cases h1
 |some i=>
  rw[hq]at h1;have h2:i.bytes=8:=by simpa using h1
  have hb:(au n n&&au n 1048576&&au i.bytes 1048576)=aa:=by
   rw[h2];simp;omega
  unfold qY;simp only[Bf,e,R.aT,z3,hq,hb,aI,Du,List.map_replicate]
variable {i:Nat}
def FH{vs:List Int}{x:O}(h:ai A 3 1 b (vs.map encI) x)(hi:i<Z vs):dQ I 85 x (.int .i64 i)=.ok (pw b (i*1)):=ai.idx h Bf AW (by rw[aR];exact hi)
def JV{vs:List Int}{v:Int}{x:O}(h:ai A 3 1 b (vs.map encI) x)(hi:vs[i]?=U v):ax I A.get 3 (pw b (i*1))=.ok (pN v):=by
 have:=ai.load (j:=0) h u3 rfl (by rw[da,hi];rfl) rfl (by omega);rwa[dN]at this
def Tx{vs:List Int}{v:Int}{x:O}(h:ai A 3 1 b (vs.map encI) x)(hi:i<Z vs):∃A',bX I A 3 (pw b (i*1)) (pN v)=.ok A'/\ai A' 3 1 b ((vs.set i v).map encI) x/\A'.next=A.next/\∀y,y≠b->A'.get y=A.get y:=by
 have hm:(vs.map encI)[i]?=U (encI vs[i]):=by rw[da,aV hi];rfl
 obtain⟨A',h1,h2,h3,h4⟩:=ai.field (j:=0) (v:=pN v) h AW hm (by omega) rfl rfl;refine⟨A',by rwa[dN]at h1,?_,h3,h4⟩;rw[BA];exact h2
structure dM where
 n:Nat
 fits:Bool
 any:Bool
def cm(m:dM):List O:=[.int .u64 m.n,.bool m.fits,.bool m.any]
def mD(m:dM):O:=.agg ⟨cm m⟩
def zG:dM:=⟨0,af,af⟩
def Bg:I.aB 376=U (.slice 323):=by kernel_rfl
def qhk:aY I 376=.ok 1:=by kernel_rfl
def rh:aY I 323=.ok 3:=by kernel_rfl
def za(m:dM):∀v∈cm m,bI v=aa:=by simp[cm,bI]
def qcb(h:n<=1000000):qY I 376 (.int .i64 (n:Nat)) (.int .i64 (n:Nat))=.ok (ae 323 ((fq n zG).map cm).flatten,.dy n (2*n)):=by
 have h1:((I.ty.get 323).map λ i=>i.bytes)=U 24:=by kernel_rfl
 have z3:eR I 323=.ok (3,cm zG):=by kernel_rfl
 have e:iC (.int .i64 (n:Nat))=.ok n:=rfl;cases hq:I.ty.get 323 with
 |none=>rw[hq]at h1;cases h1
 |some i=>
  rw[hq]at h1;have h2:i.bytes=24:=by simpa using h1
  have hb:(au n n&&au n 1048576&&au i.bytes 1048576)=aa:=by
   rw[h2];simp;omega
  unfold qY;simp only[Bg,e,R.aT,z3,hq,hb,aI,Du,List.map_replicate]
def FG{vs:List dM}{x:O}(h:ai A 323 3 b (vs.map cm) x)(hi:i<Z vs):dQ I 376 x (.int .i64 i)=.ok (pw b (i*3)):=ai.idx h Bg rh (by rw[aR];exact hi)
def JU{vs:List dM}{v:dM}{x:O}(h:ai A 323 3 b (vs.map cm) x)(hi:vs[i]?=U v):ax I A.get 323 (pw b (i*3))=.ok (mD v):=by
 obtain⟨d,hd1,hd2⟩:=b9 (by kernel_rfl);exact ai.bU h hd1 hd2 rh (by rw[da,hi];rfl)
def Tw{vs:List dM}{v:dM}{x:O}(h:ai A 323 3 b (vs.map cm) x)(hi:i<Z vs):∃A',bX I A 323 (pw b (i*3)) (mD v)=.ok A'/\ai A' 323 3 b ((vs.set i v).map cm) x/\A'.next=A.next/\∀y,y≠b->A'.get y=A.get y:=by
 obtain⟨A',h1,h2,h3,h4⟩:=ai.store h rh (by omega) (by rw[aR];exact hi) rfl (za v);refine⟨A',h1,?_,h3,h4⟩;rw[BA];exact h2
def fA(ns:List Nat):List UInt8:=ns.flatMap λ n=>nQ n++[32]
def oE(a:cK):List Nat:=[a.byte.toNat,a.out,a.to]
def xA(s:ay):List Nat:=s.out::s.arcs.flatMap oE
def eJ(s:ay):List UInt8:=(if s.fin then [33]else [])++fA (xA s)
def qcH{a:Nat}(ha:a<18446744073709551616)(hb:b<18446744073709551616)(h:nQ a=nQ b):a=b:=by
 have h1:=IY 13 a (by omega);have h2:=IY 13 b (by omega);unfold nQ at h;rw[<-h1,<-h2,h]
theorem Ts:∀{x y r q:List UInt8},(∀c∈x,48<=c.toNat)->(∀c∈y,48<=c.toNat)->x++32::r=y++32::q->x=y/\r=q
 | [],[],_,_,_,_,h=>⟨rfl,by simpa using h⟩
 | [],c::y,_,_,_,hy,h=>by
  have:=hy c cM;simp only[lX,ij,ff]at h;rw[<-h.1]at this;exact aZ this (by decide)
 |c::x,[],_,_,hx,_,h=>by
  have:=hx c cM;simp only[lX,ij,ff]at h;rw[h.1]at this;exact aZ this (by decide)
 |c::x,d::y,r,q,hx,hy,h=>by
  simp only[ij,ff]at h;obtain⟨h1,h2⟩:=Ts (λ e he=>hx e (cU _ he)) (λ e he=>hy e (cU _ he)) h.2;exact⟨by rw[h.1,h1],h2⟩
theorem T7:∀{l m:List Nat},(∀n∈l,n<18446744073709551616)->(∀n∈m,n<18446744073709551616)->fA l=fA m->l=m
 | [],[],_,_,_=>rfl
 | [],n::m,_,_,h=>by simp[fA]at h
 |n::l,[],_,_,h=>by simp[fA]at h
 |n::l,k::m,hl,hm,h=>by
  simp only[fA,j',jD,List.singleton_append]at h;obtain⟨h1,h2⟩:=Ts (E7 13 n) (E7 13 k) h;rw[qcH (hl n cM) (hm k cM) h1,T7 (λ e he=>hl e (cU _ he)) (λ e he=>hm e (cU _ he)) h2]
theorem Mq:∀{l m:List cK},l.flatMap oE=m.flatMap oE->l=m
 | [],[],_=>rfl
 | [],a::m,h=>by simp[oE]at h
 |a::l,[],h=>by simp[oE]at h
 |a::l,b::m,h=>by
  simp only[j',oE,ij,lX,ff]at h;obtain⟨h1,h2,h3,h4⟩:=h;rw[Mq h4];obtain⟨a1,a2,a3⟩:=a;obtain⟨b1,b2,b3⟩:=b;simp only at h1 h2 h3;rw[yI.1 h1,h2,h3]
def Fit(s:ay):Prop:=s.out<18446744073709551616/\∀a∈s.arcs,a.out<18446744073709551616/\a.to<1000000
def OB{s:ay}(h:Fit s):∀n∈xA s,n<18446744073709551616:=by
 intro n hn;rcases cC.1 hn with rfl|hn
 .exact h.1
 .obtain⟨a,ha,hn⟩:=BB.1 hn;have:=h.2 a ha;have:=a.byte.toNat_lt;simp only[oE,cC,en,or_false]at hn;omega
def Nv(k n:Nat):mj (k+1) n≠ []:=by
 unfold mj;split<;>simp
def key_inj{s u:ay}(hs:Fit s)(hu:Fit u)(h:eJ s=eJ u):s=u:=by
 have hd:∀v:ay,∃c w,fA (xA v)=c::w/\48<=c.toNat:=λ v=>by
  unfold fA xA;rw[j'];unfold nQ;cases hq:mj 13 v.out with
  |nil=>exact aZ hq (Nv _ _)
  |cons c w=>exact⟨c,_,rfl,E7 13 v.out c (by rw[hq];exact cM)⟩
 unfold eJ at h;have hf:s.fin=u.fin/\fA (xA s)=fA (xA u):=by
  obtain⟨c1,w1,e1,g1⟩:=hd s;obtain⟨c2,w2,e2,g2⟩:=hd u;cases h1:s.fin<;>cases h2:u.fin<;>simp only[h1,h2,bR,ed,bO,lX,ij,ff,true_and]at h
  .exact⟨rfl,h⟩
  .rw[e1]at h;simp only[ff]at h;rw[h.1]at g1;exact aZ g1 (by decide)
  .rw[e2]at h;simp only[ff]at h;rw[<-h.1]at g2;exact aZ g2 (by decide)
  .exact⟨rfl,h⟩
 have hn:=T7 (OB hs) (OB hu) hf.2;unfold xA at hn;simp only[ff]at hn;obtain⟨f1,o1,a1⟩:=s;obtain⟨f2,o2,a2⟩:=u;simp only at hf hn;rw[hf.1,hn.1,Mq hn.2]
def T8(l m:List Nat):fA (l++m)=fA l++fA m:=by unfold fA;rw[zL]
theorem DK:∀l:List Nat,(fA l).length<=14*Z l
 | []=>aJ _
 |n::l=>by
  have h1:=DK l;have h2:=IX 13 n;unfold fA at h1⊢;rw[j',aU,aU,cd,cd,dL];have e:(nQ n).length=(mj 13 n).length:=rfl;rw[e];omega
variable {bb:Nat}{bs:List UInt8}
def Gj{D:Mem}(h:Bd bb b bs D)(hn:n<18446744073709551616)(hl:Z bs<1000000):∃v D' b',az I 247 [.int .u64 n,pw bb 0] D v D'/\Bd bb b' (bs++fA [n]) D'/\Grow bb b D b' D':=by
 have hk:=λ ih A=>qa6 (ih:=ih) (A:=A) hn
 have hlen:=IX 13 n;obtain⟨v1,D1,b1,⟨g1,h1⟩,q1,k1⟩:=qgE (cs:=nQ n) h (iG.2 (Nv 12 n)) (by unfold nQ;omega);obtain⟨D2,b2,⟨g2,h2⟩,q2,k2⟩:=SO (c:=32) q1 (by rw[aU];unfold nQ;omega);have h2':∀M,g2<=M->cH I (exec I M) (.fn 249 [pw bb 0,bN 32]) D1=.ok (.val .nilIface D2):=h2;refine⟨cL,D2,b2,?_,by rw[jD]at q2;simpa[fA]using q2,k1.trans k2⟩;refine bQ (g1+g2) 60 (aN Tryz.func247) (by kernel_rfl) λ M hM=>?_
 simp(disch:=omega)only[Tryz.f247,Aq,V,hk,h1,h2']<;>rfl
def lh:=cg qK
def Io:aH:=sub lh [1,1,1,1,1,0,1,0,0]
def Xx:qK.body=U (.seq (sub lh [0]) (.seq (sub lh [1,0]) (.seq (sub lh [1,1,0]) (.seq (sub lh [1,1,1,0]) (.seq (sub lh [1,1,1,1,0]) (.seq (.seq (sub lh [1,1,1,1,1,0,0]) (.block 0 (.loop Io))) (.seq (sub lh [1,1,1,1,1,1,0]) (sub lh [1,1,1,1,1,1,1])))))))):=by kernel_rfl
def qjC:cX I 268=.ok (.agg ⟨[.pointer Y,.slice Y 0 0]⟩):=by kernel_rfl
def Wc(A:Mem):Bd A.next (A.next+1) [] (A.alloc (ae 268 [.pointer Y,.slice Y 0 0])):=
 ⟨.pointer Y,_,sV A 268 _,.inl rfl,.inl ⟨rfl,rfl⟩,by omega,by rw[aA];omega⟩
def Bd.al{D:Mem}(h:Bd bb b bs D)(o:Ob):Bd bb b bs (D.alloc o):=by
 obtain⟨pa,x,h1,h2,h3,h4,h5⟩:=h;exact⟨pa,x,h1.same (c9 (by omega)),h2,h3.same (by rw[aA];omega) λ hb=>c9 (by omega),h4,by rw[aA];omega⟩
def qbj{s:ay}{a:cK}(h:s.arcs[i]?=U a):fA ((s.arcs.take (i+1)).flatMap oE)=fA ((s.arcs.take i).flatMap oE)++fA [a.byte.toNat]++fA [a.out]++fA [a.to]:=by
 obtain⟨hi,rfl⟩:=bg.1 h;rw[eH hi,zL,T8];simp[fA,oE]
def qcI(s:ay)(i:Nat):((s.arcs.take i).flatMap oE).length<=3*Z s.arcs:=by
 have:∀l:List cK,(l.flatMap oE).length=3*Z l:=by
  intro l
  induction l with
  |nil=>rfl
  |cons a l ih=>rw[j',aU,ih,cd];simp only[oE,cd,dL];omega
 rw[this,db];omega
def rf(s:ay)(i:Nat):List UInt8:=(if s.fin then [33]else [])++fA [s.out]++fA ((s.arcs.take i).flatMap oE)
def qdk(s:ay)(i:Nat)(hl:Z s.arcs<=256):(rf s i).length<=20000:=by
 have h1:=DK ((s.arcs.take i).flatMap oE);have h2:=DK [s.out];have h3:=qcI s i;have h4:(if s.fin then [33]else []:List UInt8).length<=1:=by split<;>simp
 unfold rf;rw[aU,aU];simp only[cd,dL]at h2;omega
def Rq(s:ay)(i:Nat):rf s i≠ []:=by
 unfold rf;simp[fA]
def Bd.lt{D:Mem}(h:Bd bb b bs D)(h0:bs≠ []):b<D.next:=by
 obtain⟨pa,x,-,-,h3,-,-⟩:=h;rcases h3 with⟨-,e⟩|⟨-,-,h,-⟩
 .exact aZ (by simpa[dw]using e) h0
 .exact h
def te(p bb:Nat)(C:Mem)(bs:List UInt8)(F:Mem):Prop:=∃b,Bd bb b bs F/\C.next<=b/\C.next<=F.next/\∀y,y<C.next->y≠bb->F.get y=C.get y
variable {p b':Nat}{C:Mem}
def te.grow{F G:Mem}(h1:C.next<=b)(h2:C.next<=F.next)(h3:∀y,y<C.next->y≠bb->F.get y=C.get y)(hB:Bd bb b' bs G)(k:Grow bb b F b' G):te p bb C bs G:=
 ⟨b',hB,by have:=k.r;omega,by have:=k.n;omega,λ y hy hb=>by rw[k.g y (by omega) hb (by omega),h3 y hy hb]⟩
def KK{s:ay}{x:O}(hx:gV A s.arcs x)(hf:Fit s)(hl:Z s.arcs<=256):∃v A',az I 201 [.agg ⟨a_ x s⟩] A v A'/\v=ag (eJ s)/\Kp A A':=by
 refine c_ (aN Tryz.func201) Xx (by kernel_rfl) ?_;have kB:=Kp.alloc A (ae 239 (a_ x s));have vB:=aK A 239 (a_ x s);apply W.q
 .intro M;simp(disch:=omega)only[lh,qK,Aq,V,aX];rfl
 have nB:=aA A (ae 239 (a_ x s));generalize A.alloc (ae 239 (a_ x s))=B at kB vB nB;have bC:=Wc B;have kC:=Kp.alloc B (ae 268 [.pointer Y,.slice Y 0 0]);have nC:=aA B (ae 268 [.pointer Y,.slice Y 0 0]);apply W.q
 .intro M;simp(disch:=omega)only[lh,qK,Aq,V,qjC,aX];rfl
 generalize B.alloc (ae 268 [.pointer Y,.slice Y 0 0])=C at bC kC nC;have toK:∀bs D,te A.next B.next C bs D->Kp B D:=λ bs D h=>by
  obtain⟨b,-,-,h2,h3⟩:=h;exact⟨by omega,λ z hz=>by rw[h3 z (by omega) (by omega),kC.2 z hz]⟩
 have a1:=(vB.kp kC).m1 u4 rfl;have rC:te A.next B.next C [] C:=⟨B.next+1,bC,by omega,aJ _,λ _ _ _=>rfl⟩
 apply W.q
 .intro M;simp(disch:=omega)only[lh,qK,Aq,V,fb];rfl
 apply W.seq;refine W.to (n:=38) (λ t D=>te A.next B.next C (if s.fin then [33]else []) D/\Sl t [(1,.pointer (U ⟨A.next,0,Y⟩)),(3,.pointer (U ⟨B.next,0,Y⟩)),(4,.func (.func 247) ⟨[]⟩ ⟨[.pointer (U ⟨B.next,0,Y⟩)]⟩)]) ?_ ?_
 .cases hfin:s.fin with
  |true=>
   rw[hfin]at a1;obtain⟨D2,b2,⟨g2,h2⟩,q2,k2⟩:=SO (c:=33) bC (by simp);have h2':∀M,g2<=M->cH I (exec I M) (.fn 249 [.pointer (U ⟨B.next,0,Y⟩),.int .u8 (33:Nat)]) C=.ok (.val .nilIface D2):=h2;apply W.ct (g2) 20
   .intro M hM;simp(disch:=omega)only[lh,qK,Aq,V,jw,a1,h2'];rfl
   refine⟨rfl,_,_,rfl,te.grow (by omega) (aJ _) (λ _ _ _=>rfl) q2 k2,?_⟩;simp only[Sq,V,ak]
  |false=>
   rw[hfin]at a1;apply W.run 20
   .intro M;simp(disch:=omega)only[lh,qK,Aq,V,jw,a1];rfl
   refine⟨rfl,_,_,rfl,rC,?_⟩;simp only[Sq,V,ak]
 .rintro t D ⟨rD,g1,g3,g4,-⟩;have kD:=toK _ _ rD;have a2:=(vB.kp kD).m2 eE rfl;obtain⟨b,bD,m1,m2,m3⟩:=rD;obtain⟨v1,E,b1,⟨e1,h1⟩,bE,kE⟩:=Gj bD hf.1 (by split<;>simp);have rE:te A.next B.next C (rf s 0) E:=te.grow m1 m2 m3 (by unfold rf;rw[zT];simpa[fA]using bE) kE
  apply W.qG (e1)
  .intro M hM;simp(disch:=omega)only[lh,qK,Aq,V,g1,g4,uL,a2,h1];rfl
  have kE:=toK _ _ rE;have lx:=(hx.kp (kB.trans kE)).len;have aE:=(vB.kp kE).l0 j9 rfl;apply W.seq;apply W.q
  .intro M;simp(disch:=decide+kernel)only[lh,qK,Aq,V,g1,mm,aE,lx];rfl
  apply W.block;refine W.up (Z s.arcs) (λ i t F=>te A.next B.next C (rf s i) F/\Sl t [(3,.pointer (U ⟨B.next,0,Y⟩)),(4,.func (.func 247) ⟨[]⟩ ⟨[.pointer (U ⟨B.next,0,Y⟩)]⟩),(16,x),(17,.int .i64 (Z s.arcs)),(18,.int .i64 i)]) ?_ (a6 _) ⟨rE,?_⟩
  .rintro i t F hi ⟨rF,g3,g4,g16,g17,g18,-⟩;have kF:=toK _ _ rF;obtain⟨b,bF,m1,m2,m3⟩:=rF;have hpl:=qdk s i hl;by_cases hlt:i<Z s.arcs
   .have hsi:=aV hlt;have hfa:=hf.2 _ (ik hlt);have hkt:rf s (i+1)=rf s i++fA [(s.arcs[i]).byte.toNat]++fA [(s.arcs[i]).out]++fA [(s.arcs[i]).to]:=by
     unfold rf;rw[qbj hsi];simp only[jD]
    obtain⟨q,q1,q2⟩:=(hx.kp (kB.trans kF)).at hsi;generalize s.arcs[i]=a at*;have sG:=DC (D:=F) (a:=a);have vG:=aK F 304 (cD a);have kG:=Kp.alloc F (ae 304 (cD a));have nG:=aA F (ae 304 (cD a));have bG:=bF.al (ae 304 (cD a));generalize F.alloc (ae 304 (cD a))=G at sG vG kG nG bG;have hbF:=bF.lt (Rq s i);have hB:a.byte.toNat<18446744073709551616:=by have:=a.byte.toNat_lt;omega
    have hT:a.to<18446744073709551616:=by omega
    have cv1:=ia (tb:=I) (s:=5) (d:=147) (k:=.u8) (n:=a.byte.toNat) (by rw[u5];rfl) eE (iz hB);have cv2:=ia (tb:=I) (s:=3) (d:=147) (k:=.i64) (n:=a.to) (by rw[u3];rfl) eE (iz hT);have t1:=DK [a.byte.toNat];have t2:=DK [a.out];simp only[cd,dL]at t1 t2;obtain⟨v1,G1,b1,⟨e1,h1⟩,r1,k1⟩:=Gj bG hB (by omega);obtain⟨v2,G2,b2,⟨e2,h2⟩,r2,k2⟩:=Gj r1 hfa.1 (by rw[aU];omega);obtain⟨v3,G3,b3,⟨e3,h3⟩,r3,k3⟩:=Gj r2 hT (by rw[aU,aU];omega);have n1:=k1.n;have n2:=k2.n;have i1:=k1.r;have i2:=k2.r;have V1:VB G1 304 F.next (.var 3) (cD a):=⟨by omega,vG.2.same (k1.g _ (by omega) (by omega) (by omega))⟩
    have V2:VB G2 304 F.next (.var 3) (cD a):=⟨by omega,V1.2.same (k2.g _ (by omega) (by omega) (by omega))⟩
    have l0:=vG.l0 u5 rfl;have l1:=V1.m1 eE rfl;have l2:=V2.m2 u3 rfl;apply W.ct (e1+e2+e3) 20
    .intro M hM;simp(disch:=first|decide+kernel|omega)only[Io,lh,qK,Aq,V,g3,g4,g16,g17,g18,hlt,q1,q2,zy,aX,sG,Ap,yW,uM,l0,l1,l2,cv1,cv2,h1,h2,h3];rfl
    refine⟨hlt,_,_,rfl,?_,?_⟩
    .rw[hkt];exact te.grow m1 (by omega) (λ y hy hb=>by rw[kG.2 y (by omega),m3 y hy hb]) r3 ((k1.trans k2).trans k3)
    .simp only[Sq,V,ak,g3,g4,g16,g17]
   .have e:i=Z s.arcs:=by omega
    subst e;have hk:rf s (Z s.arcs)=eJ s:=by
     unfold rf eJ xA;rw[dY,jD,<-T8];rfl
    have h0:=iG.2 (Rq s (Z s.arcs));rw[hk]at bF hpl h0;obtain⟨G,⟨e1,h1⟩,nG,fG⟩:=qeN bF h0 (by omega);apply W.run 20
    .intro M;simp(disch:=decide+kernel)only[Io,lh,qK,Aq,V,g17,g18];rfl
    apply W.ct (e1) 40
    .intro M hM;simp(disch:=omega)only[lh,qK,Aq,V,g3,h1];rfl
    exact⟨by simp,rfl,_,(by simp only[qK,Aq,V]<;>rfl),rfl,by show A.next<=G.next;omega,λ z hz=>by show G.get z=A.get z;rw[fG z (by omega),m3 z (by omega) (by omega),kC.2 z (by omega),kB.2 z hz]⟩
  .simp only[Sq,V,ak,g3,g4]
def Bj:I.aB 161=U (.map 9 3):=by kernel_rfl
def CQ:bM I 232 (pw b 0) 0=.ok (pw b 0):=by kernel_rfl
def CR:bM I 232 (pw b 0) 1=.ok (pw b 1):=by kernel_rfl
def lu:List (List UInt8)->Nat->List MapEntry
 | [],_=>[]
 |n::ns,o=>⟨ag n,.int .i64 o,o⟩::lu ns (o+1)
theorem JP(w:List UInt8):∀(ns:List (List UInt8)) (o j:Nat),w∉ns->findF (ag w) (lu ns o) j=U Y
 | [],o,j,_=>rfl
 |n::ns,o,j,h=>by
  rw[cC,not_or]at h;unfold lu findF;simp only[FO,h.1,decide_false];exact JP w ns (o+1) (j+1) h.2
theorem PF(w:List UInt8):∀(ns:List (List UInt8)) (o:Nat),lu (ns++[w]) o=lu ns o++[⟨ag w,.int .i64 (o+Z ns:Nat),o+Z ns⟩]
 | [],o=>rfl
 |n::ns,o=>by
  rw[ij,lu,PF w ns (o+1),lu,ij,cd,show o+1+Z ns=o+(Z ns+1) by omega]
variable {ks:List (List UInt8)}{w:List UInt8}
def P3(h:A.get mk=U (.map (lu ks 0) (Z ks)))(hw:w∉ks):
 oQ I A.get 161 (.map (U mk)) (ag w) aa=.ok (.tuple ⟨[iN 0,.bool af]⟩):=by
 have hk:e_ I 9 (ag w)=aa:=by unfold e_;rw[u9];rfl
 unfold oQ;simp only[Bj,hk,aI,uK,h,R.aT,JP w ks 0 0 hw,vU]
def Ur(h:A.get mk=U (.map (lu ks 0) (Z ks)))(hw:w∉ks):
 mw I A 161 (.map (U mk)) (ag w) (iN (Z ks))=.ok (A.set mk (.map (lu (ks++[w]) 0) (ks++[w]).length)):=by
 have hk:e_ I 9 (ag w)=aa:=by unfold e_;rw[u9];rfl
 unfold mw;simp only[Bj,hk,aI,h,JP w ks 0 0 hw];rw[PF,dO,aU];rfl
def um(C:Mem)(p mk:Nat)(ks:List (List UInt8))(F:Mem):Prop:=∃b x rows,VB F 232 p (.var 2) [x,.map (U mk)]/\F.get mk=U (.map (lu ks 0) (Z ks))/\ai F 239 3 b rows x/\Z rows=Z ks/\(C.next<=b/\(ks=[]->x=.slice Y 0 0)/\p≠mk/\p<C.next/\mk<C.next)/\C.next<=F.next/\∀z,z<C.next->z≠p->z≠mk->F.get z=C.get z
def um.kp{F G:Mem}(h:um C p mk ks F)(k:Kp F G):um C p mk ks G:=by
 obtain⟨b,x,rows,h1,h2,h3,h4,h5,h6,h7⟩:=h;exact⟨b,x,rows,h1.kp k,by rw[k.2 _ (by omega)];exact h2,h3.same k.1 (k.2 b),h4,h5,dp h6 k.1,λ z hz a b=>by rw[k.2 z (by omega),h7 z hz a b]⟩
def Gz{x:O}{s:ay}(h:gV A s.arcs x):∀v∈a_ x s,bI v=aa:=by
 obtain⟨b,h⟩:=h;intro v hv;simp only[a_,cC,en,or_false]at hv;rcases hv with rfl|rfl|rfl
 .exact(ai.di h).2
 .rfl
 .rfl
def ft:=cg jG
def Ie:jG.body=U (.seq (sub ft [0]) (.seq (sub ft [1,0]) (.seq (sub ft [1,1,0]) (.seq (sub ft [1,1,1,0]) (.seq (sub ft [1,1,1,1,0]) (sub ft [1,1,1,1,1])))))):=by kernel_rfl
def Ib:sub ft [1,1,1,0]=.seq (sub ft [1,1,1,0,0]) (sub ft [1,1,1,0,1]):=by kernel_rfl
def Ic:sub ft [1,1,1,0,1]=.cond (.tmp 20) (.seq (sub ft [1,1,1,0,1,0,0]) (.seq (sub ft [1,1,1,0,1,0,1,0]) (sub ft [1,1,1,0,1,0,1,1]))) (sub ft [1,1,1,0,1,1]):=by kernel_rfl
def qff{s:ay}{x:O}(hR:um C p mk ks A)(hx:gV A s.arcs x)(hf:Fit s)(hl:Z s.arcs<=256)(hn:eJ s∉ks)(hk:Z ks<1000000):
 ∃v A',az I 150 [pw p 0,.agg ⟨a_ x s⟩] A v A'/\v=iN (Z ks)/\um C p mk (ks++[eJ s]) A':=by
 refine c_ (aN Tryz.func150) Ie (by kernel_rfl) ?_;have kB:=Kp.alloc A (ae 239 (a_ x s));have vB:=aK A 239 (a_ x s);have h1c:=Gz hx;obtain⟨d,hd1,hd2⟩:=b9 (t:=239) (p:=aa) (by kernel_rfl);apply W.q
 .intro M;simp(disch:=omega)only[ft,jG,Aq,V,aX];rfl
 have nB:=aA A (ae 239 (a_ x s));generalize A.alloc (ae 239 (a_ x s))=B at kB vB nB;have lB:=bU hd1 hd2 (l:=a_ x s) iS vB.2;obtain⟨v,D,⟨g1,h1⟩,rfl,kD⟩:=KK (hx.kp kB) hf hl;have hRD:=(hR.kp kB).kp kD;have vD:=vB.kp kD;have lD:ax I D.get 239 (pw A.next 0)=.ok (.agg ⟨a_ x s⟩):=bU hd1 hd2 (l:=a_ x s) iS vD.2;have nD:=kD.1;obtain⟨b,y,rows,q1,q2,q3,q4,⟨q5,q6,q7,q8,q9⟩,q10,q11⟩:=id hRD;have lm:=q1.l1 Bj rfl;have ly:=q1.l0 eK rfl;have lx:=ai.len q3 eK;rw[q4]at lx;have lk:=P3 q2 hn;have up:=Ur q2 hn;generalize hE:D.set mk (.map (lu (ks++[eJ s]) 0) (ks++[eJ s]).length)=E at up;have nE:E.next=D.next:=by rw[<-hE];exact cE _ _ _
 have fE:∀z,z≠mk->E.get z=D.get z:=λ z hz=>by rw[<-hE,mq,aq hz]
 have gE:E.get mk=U (.map (lu (ks++[eJ s]) 0) (ks++[eJ s]).length):=by rw[<-hE,mq,aC rfl]
 have hmD:∀(e:aj) (z:Nat) (k:Kd) (l:List O),VB D e z k l->z≠mk:=λ e z k l h=>h.cN q2
 have lE:ax I E.get 239 (pw A.next 0)=.ok (.agg ⟨a_ x s⟩):=bU hd1 hd2 (l:=a_ x s) iS (vD.2.same (fE _ (hmD _ _ _ _ vD)));have qE:=q1.2.same (fE p q7);have lyE:ax I E.get 146 (pw p 0)=.ok y:=c7 eK rfl qE rfl;obtain⟨ti,t1,t2,t3⟩:=Ua;have q3E:ai (E.alloc (ae 239 (a_ x s))) 239 3 b rows y:=q3.same (by rw[aA];omega) λ h=>by rw[c9 (by omega),fE b (by omega)]
 obtain⟨y',F,happ,hs3,hn3,hf3⟩:=ai.append q3E eK eK UO t1 t2 t3 (by omega) (by omega) (by omega) (cR E _) rfl h1c;rw[aA]at hs3 hn3 hf3;have hpb:p=b->y=.slice Y 0 0:=λ e=>by omega
 have qF:de F 232 p (.var 2) [y,.map (U mk)]:=qE.same (by rw[hf3 p hpb (by omega),c9 (by omega)]);obtain⟨G,sG,vG,nG,fG⟩:=df (tb:=I) (o:=0) (v:=y') Ta qF (by simp) (ai.di hs3).1 (ai.di hs3).2;apply W.ie (g1)
 .intro M hM _;simp(disch:=omega)only[ft,jG,Aq,V,lB,h1,bW,bV,CR,lm,uZ,lk,dX,dU];rfl
 rw[Ib];apply W.seq;apply W.q
 .intro M;simp(disch:=omega)only[ft,jG,Aq,V];rfl
 rw[Ic];refine W.cond (p:=aa) rfl (λ _=>?_) (λ h=>by cases h);apply W.q2
 .intro M _;simp(disch:=decide+kernel)only[ft,jG,Aq,V,bW,bV,CQ,ly,lx,CR,lm,zb,up];rfl
 apply W.run 20
 .intro M;simp(disch:=first|decide+kernel|omega|simp only[Wq,V])only[ft,jG,Aq,au,reduceIte,V,ak,bW,bV,CQ,lyE,lE,MK,happ,sG,Fq,bY []];rfl
 apply W.run 40
 .intro M;simp(disch:=omega)only[ft,jG,Aq,V];rfl
 have hmF:=Ne.symm q7;have hFk:∀z,z<D.next->z≠p->z≠mk->z≠b->G.get z=D.get z:=λ z h1 h2 h3 h4=>by rw[fG z h2,hf3 z (λ e=>aZ e h4) (by omega),c9 (by omega),fE z h3]
 have hbk:mk≠b:=by omega
 refine⟨by simp,rfl,_,(by simp only[jG,Aq,V]<;>rfl),rfl,⟨E.next+1,y',_,⟨by show p<G.next;omega,vG⟩,?_,hs3.same (by show F.next<=G.next;omega) (λ _=>fG _ (by omega)),by rw[aU,aU,q4];rfl,⟨by omega,λ h=>by simp at h,q7,q8,q9⟩,by show C.next<=G.next;omega,λ z hz h2 h3=>?_⟩⟩
 .show G.get mk=_;rw[fG mk hmF,hf3 mk (λ e=>aZ e hbk) (by omega),c9 (by omega),gE]
 .show G.get z=_;rw[hFk z (by omega) h2 h3 (by omega),q11 z hz h2 h3]
def kY:=cg pe
def jq:aH:=sub kY [1,1,0,1,0,0]
def Xq:pe.body=U (.seq (sub kY [0]) (.seq (sub kY [1,0]) (.seq (.seq (sub kY [1,1,0,0]) (.block 0 (.loop jq))) (.seq (sub kY [1,1,1,0]) (.seq (sub kY [1,1,1,1,0]) (sub kY [1,1,1,1,1])))))):=by kernel_rfl
def Xr:jq=(.seq (sub jq [0]) (.seq (sub jq [1,0]) (.seq (.block 1 (.seq (sub jq [1,1,0,0,0]) (.seq (sub jq [1,1,0,0,1,0]) (.seq (sub jq [1,1,0,0,1,1,0]) (.block 2 (.rangeFunc (.tmp 32) #[33,34] (sub jq [1,1,0,0,1,1,1,0,0]) (sub jq [1,1,0,0,1,1,1,0,1]))))))) (sub jq [1,1,1])))):=by kernel_rfl
def jZ(t:T O)(d:Nat):eT:=gR t 62 [33,34] (sub jq [1,1,0,0,1,1,1,0,0]) (sub jq [1,1,0,0,1,1,1,0,1]) d
def D_(o:ay->Int)(w:Int->Int->Nat->Int)(M:List ay)(i:Nat)(s:ay)(ab lp:Nat)(x:O)(L:eT)(j:Nat)(D:Mem):Prop:=
 ai D 3 1 ab (((i_ o w zI M i).set i (iO o w zI (dk o w zI (M.take i)) s j)).map encI) x/\D.get lp=U (.loop L)/\lp<D.next
def qaO{o:ay->Int}{w:Int->Int->Nat->Int}{s:ay}{ab lp:Nat}{x:O}{L:eT}(j:Nat)(D E:Mem)(h:D_ o w M i s ab lp x L j D)(k:Kp D E):D_ o w M i s ab lp x L j E:=
 ⟨h.1.same k.1 (k.2 ab),by rw[k.2 _ h.2.2];exact h.2.1,dc h.2.2 k.1⟩
def Ep(fo:FuncId)(o:ay->Int):Prop:=∀(D:Mem) (x:O) (s:ay),∃E,az I fo [.agg ⟨a_ x s⟩] D (pN (o s)) E/\Kp D E
def BZ(fw:FuncId)(o:ay->Int)(w:Int->Int->Nat->Int)(M:List ay):Prop:=∀(D:Mem) (i j:Nat) (s:ay) (a:cK),M[i]?=U s->s.arcs[j]?=U a->
 ∃E,az I fw [pN (iO o w zI (dk o w zI (M.take i)) s j),pN ((dk o w zI (M.take i)).getD a.to zI),.int .u64 a.out] D (pN (iO o w zI (dk o w zI (M.take i)) s (j+1))) E/\Kp D E
variable {fw:FuncId}{B:Mem}{d:Nat}
def qja{o:ay->Int}{w:Int->Int->Nat->Int}{a lp:Nat}{s:ay}{x:O}(hW:BZ fw o w M)(hi:M[i]?=U s)(ht:∀a∈s.arcs,a.to<i)
 (v7:VB B 85 (a+3) (.var 1) [x])(v8:VB B 3 p (.var 1) [.int .i64 i])(v5:VB B 319 (a+1) (.var 1) [.func (.func fw) ⟨[]⟩ ⟨[]⟩])(hp:a+3<p/\p<lp/\lp<B.next)
 (hs:Sl t [(5,pV (a+1)),(7,pV (a+3)),(8,pV p)]):HG B (a+2) lp s (D_ o w M i s (a+2) lp x (jZ t d)):=by
 rintro j c D hj ⟨hA,hL,hlt⟩ hn hf;obtain⟨g5,g7,g8,-⟩:=hs;obtain⟨p1,p2,p3⟩:=hp;have hil:=(bg.1 hi).1;have hto:=ht c (fh hj);have hrl:=Gg o w zI (i:=i) (M:=M) (by omega);have sE:bX I (D.alloc (ae 375 [iN 0,uN 0])) 375 (pw D.next 0) (oV c)=.ok (D.alloc (ae 375 [.int .i64 c.to,.int .u64 c.out])):=ep (by kernel_rfl) rfl rfl (by simp) (by simp[bI]);have z305:cX I 375=.ok (.agg ⟨[iN 0,uN 0]⟩):=by kernel_rfl
 have f0:∀b,bM I 375 (pw b 0) 0=.ok (pw b 0):=λ b=>by kernel_rfl
 have f1:∀b,bM I 375 (pw b 0) 1=.ok (pw b 1):=λ b=>by kernel_rfl
 have kE:=Kp.alloc D (ae 375 [.int .i64 c.to,.int .u64 c.out]);have vE:=aK D 375 [.int .i64 c.to,.int .u64 c.out];have nE:=aA D (ae 375 [.int .i64 c.to,.int .u64 c.out]);generalize D.alloc (ae 375 [.int .i64 c.to,.int .u64 c.out])=E at sE kE vE nE;have hLE:E.get lp=U (.loop (jZ t d)):=by rw[kE.2 _ hlt];exact hL
 generalize hF:E.set lp (.loop {jZ t d with state:=.busy})=F;have nF:F.next=E.next:=by rw[<-hF];exact cE _ _ _
 have fF:∀z,z≠lp->F.get z=E.get z:=λ z hz=>by rw[<-hF,cr,aq hz]
 have hLF:F.get lp=U (.loop {jZ t d with state:=.busy}):=by rw[<-hF,cr,aC rfl]
 have hBF:∀z,z<B.next->z≠a+2->z≠lp->F.get z=B.get z:=λ z hz h1 h2=>by rw[fF z h2,kE.2 z (by omega),hf z hz h1 h2]
 have hAF:=hA.same (A':=F) (by omega) λ hlt=>by rw[fF _ (by omega),kE.2 _ hlt]
 obtain⟨G,⟨g,hg⟩,kG⟩:=hW F i j s c hi hj;have gF:∀e z k l,VB B e z k l->z≠a+2->z≠lp->VB F e z k l:=λ e z k l h h1 h2=>⟨by have:=h.1;omega,h.2.same (hBF z h.1 h1 h2)⟩
 have w7:=gF _ _ _ _ v7 (by omega) (by omega);have w8:=gF _ _ _ _ v8 (by omega) (by omega);have w5:=gF _ _ _ _ v5 (by omega) (by omega);have l7:=λ G h=>(w7.kp (A':=G) h).l0 Bf rfl
 have l8:=λ G h=>(w8.kp (A':=G) h).l0 u3 rfl
 have l5:ax I F.get 319 (pw (a+1) 0)=.ok (.func (.func fw) ⟨[]⟩ ⟨[]⟩):=by
  obtain⟨d,hd1,hd2⟩:=b9 (by kernel_rfl);exact w5.ld rfl hd1 hd2
 have r7:=l7 F (Kp.refl _);have r8:=l8 F (Kp.refl _);have r7':=l7 G kG;have r8':=l8 G kG;have vF:VB F 375 D.next (.var 2) [.int .i64 c.to,.int .u64 c.out]:=⟨by omega,vE.2.same (fF _ (by omega))⟩
 have e0:=vF.l0 u3 rfl;have e1:=vF.l1 eE rfl;have i1:=FH hAF (i:=i) (by rw[dI];omega);have i2:=FH hAF (i:=c.to) (by rw[dI];omega);have d1:=JV hAF (by rw[pR,aC rfl,aC (by omega)]);have d2:=JV hAF (RT o w zI (by omega) hto _);have hAG:=hAF.same kG.1 (kG.2 _);obtain⟨H,sH,hAH,nH,fH⟩:=Tx (v:=iO o w zI (dk o w zI (M.take i)) s (j+1)) hAG (i:=i) (by rw[dI];omega);rw[List.set_set]at hAH;have nG:=kG.1;have hLH:H.get lp=U (.loop {jZ t d with state:=.busy}):=by rw[fH _ (by omega),kG.2 _ (by omega)];exact hLF
 have sx:=(ai.DJ (by omega) hAF).self 99;have si:=tV .i64 i rfl;simp only[pV]at g5 g7 g8;have hq:∃C,(∃g,∀N,g<=N->cH I (exec I N) (.round lp [bN c.byte.toNat,oV c]) D=.ok (.val (.bool aa) C))/\C=H.set lp (.loop (jZ t d)):=by
  refine xF hL (t:=(t.set 33 (bN c.byte.toNat)).set 34 (oV c)) rfl ?_;show W I (sub jq [1,1,0,0,1,1,1,0,0]) ⟨_,62,[],D,U lp⟩ _;apply W.run 20
  .intro M;simp(disch:=first|decide+kernel|omega)only[jq,kY,pe,Aq,V,z305,aX,sE];rfl
  refine⟨rfl,_,hLE,rfl,?_⟩;show W I (sub jq [1,1,0,0,1,1,1,0,1]) ⟨_,62,[],E.set lp (.loop {jZ t d with state:=.busy}),U lp⟩ _;rw[hF];apply W.ct (g) 20
  .intro M hM;simp(config:={maxSteps:=4000000})(disch:=first|decide+kernel|omega|simp only[Wq,V])only[jq,kY,pe,Aq,au,reduceIte,V,ak,g5,g7,g8,r7,r8,r7',r8',l5,f0,f1,e0,e1,i1,i2,d1,d2,hg,sH,sx,si,Fq,bY [(0,14),(1,14)]];rfl
  exact⟨rfl,rfl,_,hLH,rfl⟩
 obtain⟨C,hc,rfl⟩:=hq;have fr:∀z,z≠lp->(H.set lp (.loop (jZ t d))).get z=H.get z:=λ z hz=>by rw[cr,aq hz]
 have nr:(H.set lp (.loop (jZ t d))).next=H.next:=cE _ _ _
 refine⟨_,hc,⟨hAH.same (by omega) λ _=>fr _ (by omega),by rw[cr,aC rfl],by omega⟩,by omega,λ z hz h1 h2=>?_⟩;rw[fr z h2,fH z h1,kG.2 z (by omega),fF z h2,kE.2 z hz]
def HB(o:ay->Int)(w:Int->Int->Nat->Int)(M:List ay)(B:Mem)(a:Nat)(x:O)(i:Nat)(D:Mem)(ds:List Nat):Prop:=
 ai D 3 1 (a+2) ((i_ o w zI M i).map encI) x/\(∀z,z<B.next->z≠a+2->D.get z=B.get z)/\B.next<=D.next/\ds.Nodup/\∀d∈ds,B.next<=d/\d<D.next/\D.get d=U .defd
def qjo:cX I 85=.ok (.slice Y 0 0):=by kernel_rfl
def qdM{fo:FuncId}{o:ay->Int}{w:Int->Int->Nat->Int}{D:Mem}{k x:O}{a:Nat}{s:ay}{ds:List Nat}(h:dJ A M y)(hg:eF M)(hl:Z M<1000000)(hO:Ep fo o)(hW:BZ fw o w M)(hi:M[i]?=U s)
 (hB:Kp A B)(ha:A.next=a/\B.next=a+3+1)(v3:VB B 149 a (.var 2) [y,k])(v5:VB B 319 (a+1) (.var 1) [.func (.func fw) ⟨[]⟩ ⟨[]⟩])(v7:VB B 85 (a+3) (.var 1) [x])(hR:HB o w M B a x i D ds)
 (hs:Sl t [(1,.func (.func fo) ⟨[]⟩ ⟨[]⟩),(3,pV a),(5,pV (a+1)),(6,iN 0),(7,pV (a+3)),(17,y),(18,iN (Z M)),(19,.int .i64 i)]):
 W I jq ⟨t,62,ds,D,Y⟩ λ e s'=>e=.nrm/\∃t' D' d',s'=⟨t',62,d',D',Y⟩/\HB o w M B a x (i+1) D' d'/\
  Sl t' [(1,.func (.func fo) ⟨[]⟩ ⟨[]⟩),(3,pV a),(5,pV (a+1)),(6,iN 0),(7,pV (a+3)),(17,y),(18,iN (Z M)),(19,iN (i+1))]:=by
 obtain⟨hA,hf,hn,hnd,hds⟩:=hR;obtain⟨g1,g3,g5,g6,g7,g17,g18,g19,-⟩:=hs;obtain⟨ha1,ha2⟩:=ha;have hil:=(bg.1 hi).1;obtain⟨-,k2,k3,-,-⟩:=hg i s hi;have hfew:=y_ (hg i s hi);have hrl:=Gg o w zI (i:=i) (M:=M) (by omega);have kAD:Kp A D:=⟨by omega,λ z hz=>by rw[hf z (by omega) (by omega),hB.2 z hz]⟩;obtain⟨xs,p,q,i1,i2,hx,i4⟩:=(h.kp kAD).get hi;have i5:=(i4 D (Kp.refl _)).1;have k1:=Kp.alloc D (ae 3 [iN 0]);have n1:=aA D (ae 3 [iN 0]);have n2:((D.alloc (ae 3 [iN 0])).alloc (ae 239 [.slice Y 0 0,.bool af,uN 0])).next=D.next+2:=by rw[aA,n1]
 have w1:=(aK D 3 [iN 0]).kp (Kp.alloc _ (ae 239 [.slice Y 0 0,.bool af,uN 0]));have w2:=aK (D.alloc (ae 3 [iN 0])) 239 [.slice Y 0 0,.bool af,uN 0];have k2':=k1.trans (Kp.alloc _ (ae 239 [.slice Y 0 0,.bool af,uN 0]));rw[n1]at w2;obtain⟨E1,sE1,u1,m1,fE1⟩:=df (t:=3) (o:=0) (v:=.int .i64 i) AW w1.2 (by simp) rfl rfl;obtain⟨E,sE,u2,m2,fE⟩:=ja (tb:=I) (t:=239) (l':=a_ xs s) (by exact iS) (w2.2.same (fE1 _ (by omega))) rfl (by simp) (Gz hx);have hzero3:=vU;have fED:∀z,z<D.next->E.get z=D.get z:=λ z hz=>by rw[fE z (by omega),fE1 z (by omega),k2'.2 z hz]
 have kDE:Kp D E:=⟨by omega,fED⟩;have V8:VB E 3 D.next (.var 1) [.int .i64 i]:=⟨by omega,u1.same (fE _ (by omega))⟩
 have V9:VB E 239 (D.next+1) (.var 3) (a_ xs s):=⟨by omega,u2⟩;have gF:∀e z k l,VB B e z k l->z≠a+2->VB E e z k l:=λ e z k l h h1=>⟨by have:=h.1;omega,h.2.same (by rw[fED z (by have:=h.1;omega),hf z h.1 h1])⟩
 have V7:=gF _ _ _ _ v7 (by omega);have V3:=gF _ _ _ _ v3 (by omega);have V5:=gF _ _ _ _ v5 (by omega);have hAE:=hA.same kDE.1 (kDE.2 _);obtain⟨F,⟨gf,hgf⟩,kF⟩:=hO E xs s;obtain⟨d,hd1,hd2⟩:=b9 (by kernel_rfl);have l9:=bU hd1 hd2 iS V9.2;have l7:=λ G h=>(V7.kp (A':=G) h).l0 Bf rfl
 have l8:=λ G h=>(V8.kp (A':=G) h).l0 u3 rfl
 have r7:=l7 E (Kp.refl _);have r8:=l8 E (Kp.refl _);have r7':=l7 F kF;have r8':=l8 F kF;have ix:=FH hAE (i:=i) (by omega);obtain⟨G,sG,hAG,nG,fG⟩:=Tx (v:=o s) (hAE.same kF.1 (kF.2 _)) (i:=i) (by omega);have sx:=(ai.DJ (by omega) hA).self 99;have si:=tV .i64 i rfl;have nF:=kF.1;have nE:E.next=D.next+2:=by omega
 have fGE:∀z,z<E.next->z≠a+2->G.get z=E.get z:=λ z hz h=>by rw[fG z h,kF.2 z hz]
 have lG8:ax I G.get 3 (pw D.next 0)=.ok (.int .i64 i):=c7 u3 rfl (V8.2.same (fGE _ (by omega) (by omega))) rfl;obtain⟨d2,hd3,hd4⟩:=b9 (by kernel_rfl);have lG3:=bU hd3 hd4 iE (V3.2.same (fGE _ (by omega) (by omega)));obtain⟨gw,hgw⟩:=KP;have x1:=(aK G 149 [y,k]).kp (Kp.alloc _ (ae 3 [.int .i64 i]));have x2:=aK (G.alloc (ae 149 [y,k])) 3 [.int .i64 i];have y1:=aA G (ae 149 [y,k]);have y2:((G.alloc (ae 149 [y,k])).alloc (ae 3 [.int .i64 i])).next=G.next+2:=by rw[aA,y1]
 have kH:=(Kp.alloc G (ae 149 [y,k])).trans (Kp.alloc _ (ae 3 [.int .i64 i]));rw[y1]at x2;generalize (G.alloc (ae 149 [y,k])).alloc (ae 3 [.int .i64 i])=H at hgw x1 x2 y2 kH;simp only[pV]at g3 g5 g7 hgw;rw[Xr];apply W.q2
 .intro M _;simp(disch:=decide+kernel)only[jq,kY,pe,Aq,V,g18,g19,hil];rfl
 apply W.seq;apply W.block;apply W.ie (gf)
 .intro M hM _;simp(disch:=first|decide+kernel|omega|simp only[Wq,V])only[jq,kY,pe,Aq,V,g17,g19,i1,i5,hzero3,vS,aX,sd,n1,sE1,sE,au,reduceIte,ak,g1,g7,r7,r8,l9,hgf,ix,r7',r8',sx,si,sG,Fq,bY [(0,4),(1,4)]];rfl
 apply W.qG (gw)
 .intro M hM;simp(disch:=omega)only[jq,kY,pe,Aq,V,g3,lG3,lG8,hgw];rfl
 apply W.block;generalize ht0:T.set _ _ _=t0;have hsl:Sl t0 [(1,.func (.func fo) ⟨[]⟩ ⟨[]⟩),(3,pV a),(5,pV (a+1)),(6,iN 0),(7,pV (a+3)),(8,pV D.next),(17,y),(18,iN (Z M)),(19,.int .i64 i),(32,.func (.func 280) ⟨[]⟩ ⟨[pV G.next,pV (G.next+1)]⟩)]:=by
  rw[<-ht0];simp only[Sq,V,ak,g1,g3,g5,g6,g7,g17,g18,g19,pV]
 clear ht0;obtain⟨h1,h3,h5,h6,h7,h8,h17,h18,h19,h32,-⟩:=hsl;have kJ:=(Kp.alloc H .defd).trans (Kp.alloc (H.alloc .defd) (.loop (jZ t0 H.next)));have nJ1:=aA H .defd;have nJ:((H.alloc .defd).alloc (.loop (jZ t0 H.next))).next=H.next+2:=by rw[aA,nJ1]
 have jL:((H.alloc .defd).alloc (.loop (jZ t0 H.next))).get (H.next+1)=U (.loop (jZ t0 H.next)):=by have:=cR (H.alloc .defd) (.loop (jZ t0 H.next));rwa[nJ1]at this
 have jM:((H.alloc .defd).alloc (.loop (jZ t0 H.next))).get H.next=U .defd:=by rw[(Kp.alloc (H.alloc .defd) _).2 _ (by omega)];exact cR H .defd
 generalize hJ:(H.alloc .defd).alloc (.loop (jZ t0 H.next))=J at kJ nJ jL jM;have kGJ:=kH.trans kJ;have toJ:∀e z k l,VB E e z k l->z≠a+2->VB J e z k l:=λ e z k l h h1=>VB.kp ⟨by have:=h.1;omega,h.2.same (fGE z h.1 h1)⟩ kGJ
 have hJA:D_ o w M i s (a+2) (H.next+1) x (jZ t0 H.next) 0 J:=⟨hAG.same kGJ.1 (kGJ.2 _),jL,by omega⟩;have fJD:∀z,z<D.next->z≠a+2->J.get z=D.get z:=λ z hz h=>by rw[kGJ.2 z (by omega),fGE z (by omega) h,fED z hz]
 have kAJ:Kp A J:=⟨by omega,λ z hz=>by rw[fJD z (by omega) (by omega),kAD.2 z hz]⟩;obtain⟨v,C,hC,⟨c1,c2,c3⟩,nC,fC⟩:=SN h hi k3 k2 hfew hl kAJ (x1.kp kJ) (x2.kp kJ) ⟨by omega,by omega,by omega,by omega,by omega,by omega,by omega,by omega⟩ qaO
  (qja hW hi k3 (toJ _ _ _ _ V7 (by omega)) (toJ _ _ _ _ V8 (by omega)) (toJ _ _ _ _ V5 (by omega)) ⟨by omega,by omega,by omega⟩ ⟨h5,h7,h8,trivial⟩) hJA
 refine W.Gc (fid:=280) (first:=[]) (capt:=[pV G.next,pV (G.next+1)]) (v:=v) (A':=C) (r:=jZ t0 H.next) (e:=.nrm) (by simp only[ev,h32]) (by show az I 280 _ ((H.alloc .defd).alloc (.loop (jZ t0 H.next))) v C;rw[hJ];exact hC) c2 (by simp[jZ,gR]) (.inl ⟨rfl,rfl⟩) ?_;have c1:ai C 3 1 (a+2) ((i_ o w zI M (i+1)).map encI) x:=by rw[<-RU o w zI hi];exact c1
 generalize hK:C.set (H.next+1) (.loop {jZ t0 H.next with state:=.exhausted})=K;have nK:K.next=C.next:=by rw[<-hK];exact cE _ _ _
 have fK:∀z,z≠H.next+1->K.get z=C.get z:=λ z hz=>by rw[<-hK,cr,aq hz]
 apply W.run 20
 .intro M;simp(disch:=first|decide+kernel|omega)only[jq,kY,pe,Aq,V,h19];rfl
 have hJK:∀z,z<J.next->z≠a+2->z≠H.next+1->K.get z=J.get z:=λ z hz h1 h2=>by rw[fK z h2,fC z hz h1 h2]
 refine⟨rfl,_,K,_,rfl,⟨c1.same (by omega) λ _=>fK _ (by omega),λ z hz h1=>by rw[hJK z (by omega) h1 (by omega),fJD z (by omega) h1,hf z hz h1],by omega,zQ.2 ⟨λ hm=>?_,hnd⟩,λ d hd=>?_⟩,?_⟩
 .have:=hds _ hm;omega
 .rcases cC.1 hd with rfl|hd
  .exact⟨by omega,by omega,by rw[hJK _ (by omega) (by omega) (by omega),jM]⟩
  .obtain⟨e1,e2,e3⟩:=hds d hd;exact⟨e1,by omega,by rw[hJK _ (by omega) (by omega) (by omega),fJD _ e2 (by omega),e3]⟩
 .simp only[Sq,V,ak,h1,h3,h5,h6,h7,h17,h18,pV]
def Sr{fo:FuncId}{o:ay->Int}{w:Int->Int->Nat->Int}{k:O}(h:dJ A M y)(hg:eF M)(hM:M≠ [])(hl:Z M<1000000)(hO:Ep fo o)(hW:BZ fw o w M):
 ∃v A',az I 209 [.agg ⟨[y,k]⟩,.func (.func fo) ⟨[]⟩ ⟨[]⟩,.func (.func fw) ⟨[]⟩ ⟨[]⟩] A v A'/\v=pN ((dk o w zI M).getD (Z M-1) zI)/\Kp A A':=by
 refine mc (aN Tryz.func209) Xq (by rw[Tryz.ntmps209];simp) (by kernel_rfl) (by kernel_rfl) ?_;generalize ha:A.next=a
 have hpos:=iG.2 hM;have n1:(A.alloc (ae 149 [y,k])).next=a+1:=by rw[aA,ha]
 have n2:((A.alloc (ae 149 [y,k])).alloc (ae 319 [.func (.func fw) ⟨[]⟩ ⟨[]⟩])).next=a+2:=by rw[aA,n1]
 have kB:=(Kp.alloc A (ae 149 [y,k])).trans (Kp.alloc _ (ae 319 [.func (.func fw) ⟨[]⟩ ⟨[]⟩]));have v3:=(aK A 149 [y,k]).kp (Kp.alloc _ (ae 319 [.func (.func fw) ⟨[]⟩ ⟨[]⟩]));have v5:=aK (A.alloc (ae 149 [y,k])) 319 [.func (.func fw) ⟨[]⟩ ⟨[]⟩];rw[ha]at v3;rw[n1]at v5;apply W.q
 .intro M;simp(disch:=omega)only[kY,pe,Aq,V,aX,tL,ha,n1];rfl
 generalize (A.alloc (ae 149 [y,k])).alloc (ae 319 [.func (.func fw) ⟨[]⟩ ⟨[]⟩])=B at*;have hS:=h.kp kB;have lB:=v3.l0 eK rfl;have c6:=hS.len;have mk:=qcc (n:=Z M) (by omega);have nB:B.next=a+2:=by assumption
 have n4:(B.alloc (ae 3 ((fq (Z M) zI).map encI).flatten)).next=a+3:=by rw[aA,nB]
 have kC:=(Kp.alloc B (ae 3 ((fq (Z M) zI).map encI).flatten)).trans (Kp.alloc _ (ae 85 [.slice (U ⟨a+2,0,Y⟩) (Z M) (2*Z M)]));have vr:=(aK B 3 ((fq (Z M) zI).map encI).flatten).kp (Kp.alloc _ (ae 85 [.slice (U ⟨a+2,0,Y⟩) (Z M) (2*Z M)]));have v7:=aK (B.alloc (ae 3 ((fq (Z M) zI).map encI).flatten)) 85 [.slice (U ⟨a+2,0,Y⟩) (Z M) (2*Z M)];have sC:bX I ((B.alloc (ae 3 ((fq (Z M) zI).map encI).flatten)).alloc (ae 85 [.slice Y 0 0])) 85 (pw ((B.alloc (ae 3 ((fq (Z M) zI).map encI).flatten)).next) 0) (.slice (U ⟨a+2,0,Y⟩) (Z M) (2*Z M))=.ok _:=ep (l':=[.slice (U ⟨a+2,0,Y⟩) (Z M) (2*Z M)]) qhj rfl rfl (by simp) (by simp[bI]);have nC:((B.alloc (ae 3 ((fq (Z M) zI).map encI).flatten)).alloc (ae 85 [.slice (U ⟨a+2,0,Y⟩) (Z M) (2*Z M)])).next=a+3+1:=by rw[aA,n4]
 rw[n4]at v7 sC;rw[nB]at vr;apply W.q
 .intro M;simp(disch:=decide+kernel)only[kY,pe,Aq,V,jv,lB,c6,mk,nB,qjo,n4,sC];rfl
 generalize (B.alloc (ae 3 ((fq (Z M) zI).map encI).flatten)).alloc (ae 85 [.slice (U ⟨a+2,0,Y⟩) (Z M) (2*Z M)])=C at*;have kAC:=kB.trans kC;have hSC:=h.kp kAC;have v3:=v3.kp kC;have v5:=v5.kp kC;have lC:=v3.l0 eK rfl;have lenC:=hSC.len;have r0:i_ o w zI M 0=fq (Z M) zI:=by unfold i_;rw[zT];rfl
 have hA0:ai C 3 1 (a+2) ((i_ o w zI M 0).map encI) (.slice (U ⟨a+2,0,Y⟩) (Z M) (2*Z M)):=by
  rw[r0];exact .inr ⟨_,_,by rw[aR,Bz],vr.1,vr.2,λ l hl=>by
   obtain⟨_,_,rfl⟩:=dA.1 hl;rfl,.inl (by rw[aR,Bz])⟩
 apply W.seq;apply W.q
 .intro M;simp(disch:=decide+kernel)only[kY,pe,Aq,V,jv,lC,lenC];rfl
 apply W.block;refine W.Uq (Z M) (λ i t D ds=>HB o w M C a (.slice (U ⟨a+2,0,Y⟩) (Z M) (2*Z M)) i D ds/\Sl t [(1,.func (.func fo) ⟨[]⟩ ⟨[]⟩),(3,pV a),(5,pV (a+1)),(6,iN 0),(7,pV (a+3)),(17,y),(18,iN (Z M)),(19,.int .i64 i)]) ?_ (a6 _) ⟨⟨hA0,λ _ _ _=>rfl,aJ _,qz,λ d hd=>by cases hd⟩,?_⟩
 .rintro i t D ds hi ⟨hR,hs⟩;by_cases hlt:i<Z M
  .refine(qdM h hg hl hO hW (aV hlt) kAC ⟨ha,nC⟩ v3 v5 v7 hR hs).mono ?_;rintro e s' ⟨rfl,t',D',d',rfl,hR',hs'⟩;exact⟨hlt,t',D',d',rfl,hR',hs'⟩
  .have e:i=Z M:=by omega
   subst e;obtain⟨hA,hf,hn,hnd,hds⟩:=hR;obtain⟨g1,g3,g5,g6,g7,g17,g18,g19,-⟩:=hs;have rl:i_ o w zI M (Z M)=dk o w zI M:=by unfold i_;rw[gZ,dY,List.replicate_zero,kR]
   rw[rl]at hA;have hal:=Ae o w zI M;have l7:ax I D.get 85 (pw (a+3) 0)=.ok (.slice (U ⟨a+2,0,Y⟩) (Z M) (2*Z M)):=c7 Bf rfl (v7.2.same (hf _ (by omega) (by omega))) rfl;have ll:cQ I .len [85] [.slice (U ⟨a+2,0,Y⟩) (Z M) (2*Z M)]=.ok (iN (Z M)):=jY Bf;have ix:=FH hA (i:=Z M-1) (by omega);have ld:=JV hA (v:=(dk o w zI M).getD (Z M-1) zI) (by rw[ow,aV (by omega)];rfl);have s1:bj .sub .i64 ((Z M:Nat):Int) ((1:Nat):Int)=.ok (iN (Z M-1)):=gS (by omega) (cS (by omega));simp only[pV]at g6 g7;apply W.run 20
   .intro M;simp(disch:=decide+kernel)only[jq,kY,pe,Aq,V,g18,g19];rfl
   apply W.q2
   .intro M _;simp(disch:=decide+kernel)only[kY,pe,Aq,V,g6,g7,l7,ll,fm,fk,hpos,s1,ix,ld];rfl
   apply W.run 20
   .intro M;simp only[kY,pe,Aq,V];rfl
   obtain⟨qjV,t1,t2,t3⟩:=tX ds D hnd (λ d hd=>(hds d hd).2.2);refine⟨.inr rfl,qjV,_,t1,(by simp only[pe,Aq,V]<;>rfl),rfl,by omega,λ z hz=>?_⟩;rw[t3 z (λ hm=>by have:=(hds z hm).1;omega),hf z (by omega) (by omega),kAC.2 z (by omega)]
 .simp only[Sq,V,ak,pV]
def k_:=cg pg
def jr:aH:=sub k_ [1,1,0,1,0,0]
def Xs:pg.body=U (.seq (sub k_ [0]) (.seq (sub k_ [1,0]) (.seq (.seq (sub k_ [1,1,0,0]) (.block 0 (.loop jr))) (.seq (sub k_ [1,1,1,0]) (.seq (sub k_ [1,1,1,1,0]) (sub k_ [1,1,1,1,1])))))):=by kernel_rfl
def Xu:jr=(.seq (sub jr [0]) (.seq (sub jr [1,0]) (.seq (.block 1 (.seq (sub jr [1,1,0,0,0]) (.seq (sub jr [1,1,0,0,1,0]) (.seq (sub jr [1,1,0,0,1,1,0]) (.block 2 (.rangeFunc (.tmp 32) #[33,34] (sub jr [1,1,0,0,1,1,1,0,0]) (sub jr [1,1,0,0,1,1,1,0,1]))))))) (sub jr [1,1,1])))):=by kernel_rfl
def j5(t:T O)(d:Nat):eT:=gR t 62 [33,34] (sub jr [1,1,0,0,1,1,1,0,0]) (sub jr [1,1,0,0,1,1,1,0,1]) d
def Ea(o:ay->dM)(w:dM->dM->Nat->dM)(M:List ay)(i:Nat)(s:ay)(ab lp:Nat)(x:O)(L:eT)(j:Nat)(D:Mem):Prop:=
 ai D 323 3 ab (((i_ o w zG M i).set i (iO o w zG (dk o w zG (M.take i)) s j)).map cm) x/\D.get lp=U (.loop L)/\lp<D.next
def qaP{o:ay->dM}{w:dM->dM->Nat->dM}{s:ay}{ab lp:Nat}{x:O}{L:eT}(j:Nat)(D E:Mem)(h:Ea o w M i s ab lp x L j D)(k:Kp D E):Ea o w M i s ab lp x L j E:=
 ⟨h.1.same k.1 (k.2 ab),by rw[k.2 _ h.2.2];exact h.2.1,dc h.2.2 k.1⟩
def HA(fo:FuncId)(o:ay->dM):Prop:=∀(D:Mem) (x:O) (s:ay),∃E,az I fo [.agg ⟨a_ x s⟩] D (mD (o s)) E/\Kp D E
def Et(fw:FuncId)(o:ay->dM)(w:dM->dM->Nat->dM)(M:List ay):Prop:=∀(D:Mem) (i j:Nat) (s:ay) (a:cK),M[i]?=U s->s.arcs[j]?=U a->
 ∃E,az I fw [mD (iO o w zG (dk o w zG (M.take i)) s j),mD ((dk o w zG (M.take i)).getD a.to zG),.int .u64 a.out] D (mD (iO o w zG (dk o w zG (M.take i)) s (j+1))) E/\Kp D E
def qjb{o:ay->dM}{w:dM->dM->Nat->dM}{a lp:Nat}{s:ay}{x:O}(hW:Et fw o w M)(hi:M[i]?=U s)(ht:∀a∈s.arcs,a.to<i)
 (v7:VB B 376 (a+4) (.var 1) [x])(v8:VB B 3 p (.var 1) [.int .i64 i])(v5:VB B 328 (a+1) (.var 1) [.func (.func fw) ⟨[]⟩ ⟨[]⟩])(hp:a+4<p/\p<lp/\lp<B.next)
 (hs:Sl t [(5,pV (a+1)),(7,pV (a+4)),(8,pV p)]):HG B (a+3) lp s (Ea o w M i s (a+3) lp x (j5 t d)):=by
 rintro j c D hj ⟨hA,hL,hlt⟩ hn hf;obtain⟨g5,g7,g8,-⟩:=hs;obtain⟨p1,p2,p3⟩:=hp;have hil:=(bg.1 hi).1;have hto:=ht c (fh hj);have hrl:=Gg o w zG (i:=i) (M:=M) (by omega);have sE:bX I (D.alloc (ae 375 [iN 0,uN 0])) 375 (pw D.next 0) (oV c)=.ok (D.alloc (ae 375 [.int .i64 c.to,.int .u64 c.out])):=ep (by kernel_rfl) rfl rfl (by simp) (by simp[bI]);have z305:cX I 375=.ok (.agg ⟨[iN 0,uN 0]⟩):=by kernel_rfl
 have f0:∀b,bM I 375 (pw b 0) 0=.ok (pw b 0):=λ b=>by kernel_rfl
 have f1:∀b,bM I 375 (pw b 0) 1=.ok (pw b 1):=λ b=>by kernel_rfl
 have kE:=Kp.alloc D (ae 375 [.int .i64 c.to,.int .u64 c.out]);have vE:=aK D 375 [.int .i64 c.to,.int .u64 c.out];have nE:=aA D (ae 375 [.int .i64 c.to,.int .u64 c.out]);generalize D.alloc (ae 375 [.int .i64 c.to,.int .u64 c.out])=E at sE kE vE nE;have hLE:E.get lp=U (.loop (j5 t d)):=by rw[kE.2 _ hlt];exact hL
 generalize hF:E.set lp (.loop {j5 t d with state:=.busy})=F;have nF:F.next=E.next:=by rw[<-hF];exact cE _ _ _
 have fF:∀z,z≠lp->F.get z=E.get z:=λ z hz=>by rw[<-hF,cr,aq hz]
 have hLF:F.get lp=U (.loop {j5 t d with state:=.busy}):=by rw[<-hF,cr,aC rfl]
 have hBF:∀z,z<B.next->z≠a+3->z≠lp->F.get z=B.get z:=λ z hz h1 h2=>by rw[fF z h2,kE.2 z (by omega),hf z hz h1 h2]
 have hAF:=hA.same (A':=F) (by omega) λ hlt=>by rw[fF _ (by omega),kE.2 _ hlt]
 obtain⟨G,⟨g,hg⟩,kG⟩:=hW F i j s c hi hj;have gF:∀e z k l,VB B e z k l->z≠a+3->z≠lp->VB F e z k l:=λ e z k l h h1 h2=>⟨by have:=h.1;omega,h.2.same (hBF z h.1 h1 h2)⟩
 have w7:=gF _ _ _ _ v7 (by omega) (by omega);have w8:=gF _ _ _ _ v8 (by omega) (by omega);have w5:=gF _ _ _ _ v5 (by omega) (by omega);have l7:=λ G h=>(w7.kp (A':=G) h).l0 Bg rfl
 have l8:=λ G h=>(w8.kp (A':=G) h).l0 u3 rfl
 have l5:ax I F.get 328 (pw (a+1) 0)=.ok (.func (.func fw) ⟨[]⟩ ⟨[]⟩):=by
  obtain⟨d,hd1,hd2⟩:=b9 (by kernel_rfl);exact w5.ld rfl hd1 hd2
 have r7:=l7 F (Kp.refl _);have r8:=l8 F (Kp.refl _);have r7':=l7 G kG;have r8':=l8 G kG;have vF:VB F 375 D.next (.var 2) [.int .i64 c.to,.int .u64 c.out]:=⟨by omega,vE.2.same (fF _ (by omega))⟩
 have e0:=vF.l0 u3 rfl;have e1:=vF.l1 eE rfl;have i1:=FG hAF (i:=i) (by rw[dI];omega);have i2:=FG hAF (i:=c.to) (by rw[dI];omega);have d1:=JU hAF (by rw[pR,aC rfl,aC (by omega)]);have d2:=JU hAF (RT o w zG (by omega) hto _);have hAG:=hAF.same kG.1 (kG.2 _);obtain⟨H,sH,hAH,nH,fH⟩:=Tw (v:=iO o w zG (dk o w zG (M.take i)) s (j+1)) hAG (i:=i) (by rw[dI];omega);rw[List.set_set]at hAH;have nG:=kG.1;have hLH:H.get lp=U (.loop {j5 t d with state:=.busy}):=by rw[fH _ (by omega),kG.2 _ (by omega)];exact hLF
 have sx:=(ai.DJ (by omega) hAF).self 99;have si:=tV .i64 i rfl;simp only[pV]at g5 g7 g8;have hq:∃C,(∃g,∀N,g<=N->cH I (exec I N) (.round lp [bN c.byte.toNat,oV c]) D=.ok (.val (.bool aa) C))/\C=H.set lp (.loop (j5 t d)):=by
  refine xF hL (t:=(t.set 33 (bN c.byte.toNat)).set 34 (oV c)) rfl ?_;show W I (sub jr [1,1,0,0,1,1,1,0,0]) ⟨_,62,[],D,U lp⟩ _;apply W.run 20
  .intro M;simp(disch:=first|decide+kernel|omega)only[jr,k_,pg,Aq,V,z305,aX,sE];rfl
  refine⟨rfl,_,hLE,rfl,?_⟩;show W I (sub jr [1,1,0,0,1,1,1,0,1]) ⟨_,62,[],E.set lp (.loop {j5 t d with state:=.busy}),U lp⟩ _;rw[hF];apply W.ct (g) 20
  .intro M hM;simp(config:={maxSteps:=4000000})(disch:=first|decide+kernel|omega|simp only[Wq,V])only[jr,k_,pg,Aq,au,reduceIte,V,ak,g5,g7,g8,r7,r8,r7',r8',l5,f0,f1,e0,e1,i1,i2,d1,d2,hg,sH,sx,si,Fq,bY [(0,14),(1,14)]];rfl
  exact⟨rfl,rfl,_,hLH,rfl⟩
 obtain⟨C,hc,rfl⟩:=hq;have fr:∀z,z≠lp->(H.set lp (.loop (j5 t d))).get z=H.get z:=λ z hz=>by rw[cr,aq hz]
 have nr:(H.set lp (.loop (j5 t d))).next=H.next:=cE _ _ _
 refine⟨_,hc,⟨hAH.same (by omega) λ _=>fr _ (by omega),by rw[cr,aC rfl],by omega⟩,by omega,λ z hz h1 h2=>?_⟩;rw[fr z h2,fH z h1,kG.2 z (by omega),fF z h2,kE.2 z hz]
def HC(o:ay->dM)(w:dM->dM->Nat->dM)(M:List ay)(B:Mem)(a:Nat)(x:O)(i:Nat)(D:Mem)(ds:List Nat):Prop:=
 ai D 323 3 (a+3) ((i_ o w zG M i).map cm) x/\(∀z,z<B.next->z≠a+3->D.get z=B.get z)/\B.next<=D.next/\ds.Nodup/\∀d∈ds,B.next<=d/\d<D.next/\D.get d=U .defd
def qjp:cX I 376=.ok (.slice Y 0 0):=by kernel_rfl
def qdN{fo:FuncId}{o:ay->dM}{w:dM->dM->Nat->dM}{D:Mem}{k x:O}{a:Nat}{s:ay}{ds:List Nat}(h:dJ A M y)(hg:eF M)(hl:Z M<1000000)(hO:HA fo o)(hW:Et fw o w M)(hi:M[i]?=U s)
 (hB:Kp A B)(ha:A.next=a/\B.next=a+4+1)(v3:VB B 149 a (.var 2) [y,k])(v5:VB B 328 (a+1) (.var 1) [.func (.func fw) ⟨[]⟩ ⟨[]⟩])(v7:VB B 376 (a+4) (.var 1) [x])(hR:HC o w M B a x i D ds)
 (hs:Sl t [(1,.func (.func fo) ⟨[]⟩ ⟨[]⟩),(3,pV a),(5,pV (a+1)),(6,pV (a+2)),(7,pV (a+4)),(17,y),(18,iN (Z M)),(19,.int .i64 i)]):
 W I jr ⟨t,62,ds,D,Y⟩ λ e s'=>e=.nrm/\∃t' D' d',s'=⟨t',62,d',D',Y⟩/\HC o w M B a x (i+1) D' d'/\
  Sl t' [(1,.func (.func fo) ⟨[]⟩ ⟨[]⟩),(3,pV a),(5,pV (a+1)),(6,pV (a+2)),(7,pV (a+4)),(17,y),(18,iN (Z M)),(19,iN (i+1))]:=by
 obtain⟨hA,hf,hn,hnd,hds⟩:=hR;obtain⟨g1,g3,g5,g6,g7,g17,g18,g19,-⟩:=hs;obtain⟨ha1,ha2⟩:=ha;have hil:=(bg.1 hi).1;obtain⟨-,k2,k3,-,-⟩:=hg i s hi;have hfew:=y_ (hg i s hi);have hrl:=Gg o w zG (i:=i) (M:=M) (by omega);have kAD:Kp A D:=⟨by omega,λ z hz=>by rw[hf z (by omega) (by omega),hB.2 z hz]⟩;obtain⟨xs,p,q,i1,i2,hx,i4⟩:=(h.kp kAD).get hi;have i5:=(i4 D (Kp.refl _)).1;have k1:=Kp.alloc D (ae 3 [iN 0]);have n1:=aA D (ae 3 [iN 0]);have n2:((D.alloc (ae 3 [iN 0])).alloc (ae 239 [.slice Y 0 0,.bool af,uN 0])).next=D.next+2:=by rw[aA,n1]
 have w1:=(aK D 3 [iN 0]).kp (Kp.alloc _ (ae 239 [.slice Y 0 0,.bool af,uN 0]));have w2:=aK (D.alloc (ae 3 [iN 0])) 239 [.slice Y 0 0,.bool af,uN 0];have k2':=k1.trans (Kp.alloc _ (ae 239 [.slice Y 0 0,.bool af,uN 0]));rw[n1]at w2;obtain⟨E1,sE1,u1,m1,fE1⟩:=df (o:=0) (v:=.int .i64 i) AW w1.2 (by simp) rfl rfl;obtain⟨E,sE,u2,m2,fE⟩:=ja (tb:=I) (t:=239) (l':=a_ xs s) (by exact iS) (w2.2.same (fE1 _ (by omega))) rfl (by simp) (Gz hx);have hzero3:=vU;have fED:∀z,z<D.next->E.get z=D.get z:=λ z hz=>by rw[fE z (by omega),fE1 z (by omega),k2'.2 z hz]
 have kDE:Kp D E:=⟨by omega,fED⟩;have V8:VB E 3 D.next (.var 1) [.int .i64 i]:=⟨by omega,u1.same (fE _ (by omega))⟩
 have V9:VB E 239 (D.next+1) (.var 3) (a_ xs s):=⟨by omega,u2⟩;have gF:∀e z k l,VB B e z k l->z≠a+3->VB E e z k l:=λ e z k l h h1=>⟨by have:=h.1;omega,h.2.same (by rw[fED z (by have:=h.1;omega),hf z h.1 h1])⟩
 have V7:=gF _ _ _ _ v7 (by omega);have V3:=gF _ _ _ _ v3 (by omega);have V5:=gF _ _ _ _ v5 (by omega);have hAE:=hA.same kDE.1 (kDE.2 _);obtain⟨F,⟨gf,hgf⟩,kF⟩:=hO E xs s;obtain⟨d,hd1,hd2⟩:=b9 (by kernel_rfl);have l9:=bU hd1 hd2 iS V9.2;have l7:=λ G h=>(V7.kp (A':=G) h).l0 Bg rfl
 have l8:=λ G h=>(V8.kp (A':=G) h).l0 u3 rfl
 have r7:=l7 E (Kp.refl _);have r8:=l8 E (Kp.refl _);have r7':=l7 F kF;have r8':=l8 F kF;have ix:=FG hAE (i:=i) (by omega);obtain⟨G,sG,hAG,nG,fG⟩:=Tw (v:=o s) (hAE.same kF.1 (kF.2 _)) (i:=i) (by omega);have sx:=(ai.DJ (by omega) hA).self 99;have si:=tV .i64 i rfl;have nF:=kF.1;have nE:E.next=D.next+2:=by omega
 have fGE:∀z,z<E.next->z≠a+3->G.get z=E.get z:=λ z hz h=>by rw[fG z h,kF.2 z hz]
 have lG8:ax I G.get 3 (pw D.next 0)=.ok (.int .i64 i):=c7 u3 rfl (V8.2.same (fGE _ (by omega) (by omega))) rfl;obtain⟨d2,hd3,hd4⟩:=b9 (by kernel_rfl);have lG3:=bU hd3 hd4 iE (V3.2.same (fGE _ (by omega) (by omega)));obtain⟨gw,hgw⟩:=KP;have x1:=(aK G 149 [y,k]).kp (Kp.alloc _ (ae 3 [.int .i64 i]));have x2:=aK (G.alloc (ae 149 [y,k])) 3 [.int .i64 i];have y1:=aA G (ae 149 [y,k]);have y2:((G.alloc (ae 149 [y,k])).alloc (ae 3 [.int .i64 i])).next=G.next+2:=by rw[aA,y1]
 have kH:=(Kp.alloc G (ae 149 [y,k])).trans (Kp.alloc _ (ae 3 [.int .i64 i]));rw[y1]at x2;generalize (G.alloc (ae 149 [y,k])).alloc (ae 3 [.int .i64 i])=H at hgw x1 x2 y2 kH;simp only[pV]at g3 g5 g7 hgw;rw[Xu];apply W.q2
 .intro M _;simp(disch:=decide+kernel)only[jr,k_,pg,Aq,V,g18,g19,hil];rfl
 apply W.seq;apply W.block;apply W.ie (gf)
 .intro M hM _;simp(disch:=first|decide+kernel|omega|simp only[Wq,V])only[jr,k_,pg,Aq,V,g17,g19,i1,i5,hzero3,vS,aX,sd,n1,sE1,sE,au,reduceIte,ak,g1,g7,r7,r8,l9,hgf,ix,r7',r8',sx,si,sG,Fq,bY [(0,4),(1,4)]];rfl
 apply W.qG (gw)
 .intro M hM;simp(disch:=omega)only[jr,k_,pg,Aq,V,g3,lG3,lG8,hgw];rfl
 apply W.block;generalize ht0:T.set _ _ _=t0;have hsl:Sl t0 [(1,.func (.func fo) ⟨[]⟩ ⟨[]⟩),(3,pV a),(5,pV (a+1)),(6,pV (a+2)),(7,pV (a+4)),(8,pV D.next),(17,y),(18,iN (Z M)),(19,.int .i64 i),(32,.func (.func 280) ⟨[]⟩ ⟨[pV G.next,pV (G.next+1)]⟩)]:=by
  rw[<-ht0];simp only[Sq,V,ak,g1,g3,g5,g6,g7,g17,g18,g19,pV]
 clear ht0;obtain⟨h1,h3,h5,h6,h7,h8,h17,h18,h19,h32,-⟩:=hsl;have kJ:=(Kp.alloc H .defd).trans (Kp.alloc (H.alloc .defd) (.loop (j5 t0 H.next)));have nJ1:=aA H .defd;have nJ:((H.alloc .defd).alloc (.loop (j5 t0 H.next))).next=H.next+2:=by rw[aA,nJ1]
 have jL:((H.alloc .defd).alloc (.loop (j5 t0 H.next))).get (H.next+1)=U (.loop (j5 t0 H.next)):=by have:=cR (H.alloc .defd) (.loop (j5 t0 H.next));rwa[nJ1]at this
 have jM:((H.alloc .defd).alloc (.loop (j5 t0 H.next))).get H.next=U .defd:=by rw[(Kp.alloc (H.alloc .defd) _).2 _ (by omega)];exact cR H .defd
 generalize hJ:(H.alloc .defd).alloc (.loop (j5 t0 H.next))=J at kJ nJ jL jM;have kGJ:=kH.trans kJ;have toJ:∀e z k l,VB E e z k l->z≠a+3->VB J e z k l:=λ e z k l h h1=>VB.kp ⟨by have:=h.1;omega,h.2.same (fGE z h.1 h1)⟩ kGJ
 have hJA:Ea o w M i s (a+3) (H.next+1) x (j5 t0 H.next) 0 J:=⟨hAG.same kGJ.1 (kGJ.2 _),jL,by omega⟩;have fJD:∀z,z<D.next->z≠a+3->J.get z=D.get z:=λ z hz h=>by rw[kGJ.2 z (by omega),fGE z (by omega) h,fED z hz]
 have kAJ:Kp A J:=⟨by omega,λ z hz=>by rw[fJD z (by omega) (by omega),kAD.2 z hz]⟩;obtain⟨v,C,hC,⟨c1,c2,c3⟩,nC,fC⟩:=SN h hi k3 k2 hfew hl kAJ (x1.kp kJ) (x2.kp kJ) ⟨by omega,by omega,by omega,by omega,by omega,by omega,by omega,by omega⟩ qaP
  (qjb hW hi k3 (toJ _ _ _ _ V7 (by omega)) (toJ _ _ _ _ V8 (by omega)) (toJ _ _ _ _ V5 (by omega)) ⟨by omega,by omega,by omega⟩ ⟨h5,h7,h8,trivial⟩) hJA
 refine W.Gc (fid:=280) (first:=[]) (capt:=[pV G.next,pV (G.next+1)]) (v:=v) (A':=C) (r:=j5 t0 H.next) (e:=.nrm) (by simp only[ev,h32]) (by show az I 280 _ ((H.alloc .defd).alloc (.loop (j5 t0 H.next))) v C;rw[hJ];exact hC) c2 (by simp[j5,gR]) (.inl ⟨rfl,rfl⟩) ?_;have c1:ai C 323 3 (a+3) ((i_ o w zG M (i+1)).map cm) x:=by rw[<-RU o w zG hi];exact c1
 generalize hK:C.set (H.next+1) (.loop {j5 t0 H.next with state:=.exhausted})=K;have nK:K.next=C.next:=by rw[<-hK];exact cE _ _ _
 have fK:∀z,z≠H.next+1->K.get z=C.get z:=λ z hz=>by rw[<-hK,cr,aq hz]
 apply W.run 20
 .intro M;simp(disch:=first|decide+kernel|omega)only[jr,k_,pg,Aq,V,h19];rfl
 have hJK:∀z,z<J.next->z≠a+3->z≠H.next+1->K.get z=J.get z:=λ z hz h1 h2=>by rw[fK z h2,fC z hz h1 h2]
 refine⟨rfl,_,K,_,rfl,⟨c1.same (by omega) λ _=>fK _ (by omega),λ z hz h1=>by rw[hJK z (by omega) h1 (by omega),fJD z (by omega) h1,hf z hz h1],by omega,zQ.2 ⟨λ hm=>?_,hnd⟩,λ d hd=>?_⟩,?_⟩
 .have:=hds _ hm;omega
 .rcases cC.1 hd with rfl|hd
  .exact⟨by omega,by omega,by rw[hJK _ (by omega) (by omega) (by omega),jM]⟩
  .obtain⟨e1,e2,e3⟩:=hds d hd;exact⟨e1,by omega,by rw[hJK _ (by omega) (by omega) (by omega),fJD _ e2 (by omega),e3]⟩
 .simp only[Sq,V,ak,h1,h3,h5,h6,h7,h17,h18,pV]
def qfm{fo:FuncId}{o:ay->dM}{w:dM->dM->Nat->dM}{k:O}(h:dJ A M y)(hg:eF M)(hM:M≠ [])(hl:Z M<1000000)(hO:HA fo o)(hW:Et fw o w M):
 ∃v A',az I 214 [.agg ⟨[y,k]⟩,.func (.func fo) ⟨[]⟩ ⟨[]⟩,.func (.func fw) ⟨[]⟩ ⟨[]⟩] A v A'/\v=mD ((dk o w zG M).getD (Z M-1) zG)/\Kp A A':=by
 refine mc (aN Tryz.func214) Xs (by rw[Tryz.ntmps214];simp) (by kernel_rfl) (by kernel_rfl) ?_;generalize ha:A.next=a
 have hpos:=iG.2 hM;have n1:(A.alloc (ae 149 [y,k])).next=a+1:=by rw[aA,ha]
 have n2:((A.alloc (ae 149 [y,k])).alloc (ae 328 [.func (.func fw) ⟨[]⟩ ⟨[]⟩])).next=a+2:=by rw[aA,n1]
 have n3:(((A.alloc (ae 149 [y,k])).alloc (ae 328 [.func (.func fw) ⟨[]⟩ ⟨[]⟩])).alloc (ae 323 (cm zG))).next=a+3:=by rw[aA,n2]
 have kB2:=Kp.alloc ((A.alloc (ae 149 [y,k])).alloc (ae 328 [.func (.func fw) ⟨[]⟩ ⟨[]⟩])) (ae 323 (cm zG));have kB:=((Kp.alloc A (ae 149 [y,k])).trans (Kp.alloc _ (ae 328 [.func (.func fw) ⟨[]⟩ ⟨[]⟩]))).trans kB2;have v3:=((aK A 149 [y,k]).kp (Kp.alloc _ (ae 328 [.func (.func fw) ⟨[]⟩ ⟨[]⟩]))).kp kB2;have v5:=(aK (A.alloc (ae 149 [y,k])) 328 [.func (.func fw) ⟨[]⟩ ⟨[]⟩]).kp kB2;have v6:=aK ((A.alloc (ae 149 [y,k])).alloc (ae 328 [.func (.func fw) ⟨[]⟩ ⟨[]⟩])) 323 (cm zG);have z259:cX I 323=.ok (.agg ⟨cm zG⟩):=by kernel_rfl
 rw[ha]at v3;rw[n1]at v5;rw[n2]at v6;apply W.q
 .intro M;simp(disch:=omega)only[k_,pg,Aq,V,aX,tL,ha,n1,n2,z259];rfl
 generalize ((A.alloc (ae 149 [y,k])).alloc (ae 328 [.func (.func fw) ⟨[]⟩ ⟨[]⟩])).alloc (ae 323 (cm zG))=B at*;have hS:=h.kp kB;have lB:=v3.l0 eK rfl;have c6:=hS.len;have mk:=qcb (n:=Z M) (by omega);have nB:B.next=a+3:=by assumption
 have n4:(B.alloc (ae 323 ((fq (Z M) zG).map cm).flatten)).next=a+4:=by rw[aA,nB]
 have kC:=(Kp.alloc B (ae 323 ((fq (Z M) zG).map cm).flatten)).trans (Kp.alloc _ (ae 376 [.slice (U ⟨a+3,0,Y⟩) (Z M) (2*Z M)]));have vr:=(aK B 323 ((fq (Z M) zG).map cm).flatten).kp (Kp.alloc _ (ae 376 [.slice (U ⟨a+3,0,Y⟩) (Z M) (2*Z M)]));have v7:=aK (B.alloc (ae 323 ((fq (Z M) zG).map cm).flatten)) 376 [.slice (U ⟨a+3,0,Y⟩) (Z M) (2*Z M)];have sC:bX I ((B.alloc (ae 323 ((fq (Z M) zG).map cm).flatten)).alloc (ae 376 [.slice Y 0 0])) 376 (pw ((B.alloc (ae 323 ((fq (Z M) zG).map cm).flatten)).next) 0) (.slice (U ⟨a+3,0,Y⟩) (Z M) (2*Z M))=.ok _:=ep (l':=[.slice (U ⟨a+3,0,Y⟩) (Z M) (2*Z M)]) qhk rfl rfl (by simp) (by simp[bI]);have nC:((B.alloc (ae 323 ((fq (Z M) zG).map cm).flatten)).alloc (ae 376 [.slice (U ⟨a+3,0,Y⟩) (Z M) (2*Z M)])).next=a+4+1:=by rw[aA,n4]
 rw[n4]at v7 sC;rw[nB]at vr;apply W.q
 .intro M;simp(disch:=decide+kernel)only[k_,pg,Aq,V,jv,lB,c6,mk,nB,qjp,n4,sC];rfl
 generalize (B.alloc (ae 323 ((fq (Z M) zG).map cm).flatten)).alloc (ae 376 [.slice (U ⟨a+3,0,Y⟩) (Z M) (2*Z M)])=C at*;have kAC:=kB.trans kC;have hSC:=h.kp kAC;have v3:=v3.kp kC;have v5:=v5.kp kC;have v6:=v6.kp kC;have lC:=v3.l0 eK rfl;have lenC:=hSC.len;have r0:i_ o w zG M 0=fq (Z M) zG:=by unfold i_;rw[zT];rfl
 have hA0:ai C 323 3 (a+3) ((i_ o w zG M 0).map cm) (.slice (U ⟨a+3,0,Y⟩) (Z M) (2*Z M)):=by
  rw[r0];exact .inr ⟨_,_,by rw[aR,Bz],vr.1,vr.2,λ l hl=>by
   obtain⟨_,_,rfl⟩:=dA.1 hl;rfl,.inl (by rw[aR,Bz])⟩
 apply W.seq;apply W.q
 .intro M;simp(disch:=decide+kernel)only[k_,pg,Aq,V,jv,lC,lenC];rfl
 apply W.block;refine W.Uq (Z M) (λ i t D ds=>HC o w M C a (.slice (U ⟨a+3,0,Y⟩) (Z M) (2*Z M)) i D ds/\Sl t [(1,.func (.func fo) ⟨[]⟩ ⟨[]⟩),(3,pV a),(5,pV (a+1)),(6,pV (a+2)),(7,pV (a+4)),(17,y),(18,iN (Z M)),(19,.int .i64 i)]) ?_ (a6 _) ⟨⟨hA0,λ _ _ _=>rfl,aJ _,qz,λ d hd=>by cases hd⟩,?_⟩
 .rintro i t D ds hi ⟨hR,hs⟩;by_cases hlt:i<Z M
  .refine(qdN h hg hl hO hW (aV hlt) kAC ⟨ha,nC⟩ v3 v5 v7 hR hs).mono ?_;rintro e s' ⟨rfl,t',D',d',rfl,hR',hs'⟩;exact⟨hlt,t',D',d',rfl,hR',hs'⟩
  .have e:i=Z M:=by omega
   subst e;obtain⟨hA,hf,hn,hnd,hds⟩:=hR;obtain⟨g1,g3,g5,g6,g7,g17,g18,g19,-⟩:=hs;have rl:i_ o w zG M (Z M)=dk o w zG M:=by unfold i_;rw[gZ,dY,List.replicate_zero,kR]
   rw[rl]at hA;have hal:=Ae o w zG M;have l7:ax I D.get 376 (pw (a+4) 0)=.ok (.slice (U ⟨a+3,0,Y⟩) (Z M) (2*Z M)):=c7 Bg rfl (v7.2.same (hf _ (by omega) (by omega))) rfl;have ll:cQ I .len [376] [.slice (U ⟨a+3,0,Y⟩) (Z M) (2*Z M)]=.ok (iN (Z M)):=jY Bg;have ix:=FG hA (i:=Z M-1) (by omega);have ld:=JU hA (v:=(dk o w zG M).getD (Z M-1) zG) (by rw[ow,aV (by omega)];rfl);have s1:bj .sub .i64 ((Z M:Nat):Int) ((1:Nat):Int)=.ok (iN (Z M-1)):=gS (by omega) (cS (by omega));simp only[pV]at g6 g7;obtain⟨E1,sE1,w1,m1,fE1⟩:=ja (tb:=I) (t:=323) (l':=cm ((dk o w zG M).getD (Z M-1) zG)) (by exact rh) (v6.2.same (hf _ (by omega) (by omega))) rfl (by simp[cm]) (za _);obtain⟨E,sE,w2,m2,fE⟩:=ja (tb:=I) (t:=323) (l':=cm ((dk o w zG M).getD (Z M-1) zG)) (by exact rh) w1 rfl (by simp[cm]) (za _);obtain⟨d,hd1,hd2⟩:=b9 (t:=323) (p:=aa) (by kernel_rfl);have l6:ax I E1.get 323 (pw (a+2) 0)=.ok (.agg ⟨cm ((dk o w zG M).getD (Z M-1) zG)⟩):=bU hd1 hd2 rh w1;unfold mD at ld;apply W.run 20
   .intro M;simp(disch:=first|decide+kernel|omega)only[jr,k_,pg,Aq,V,g18,g19];rfl
   apply W.q2
   .intro M _;simp(disch:=first|decide+kernel|omega)only[k_,pg,Aq,V,g6,g7,l7,ll,fm,fk,hpos,s1,ix,ld,sE1,l6,sE];rfl
   apply W.run 20
   .intro M;simp only[k_,pg,Aq,V];rfl
   obtain⟨qjV,t1,t2,t3⟩:=tX ds E hnd (λ d hd=>by
    obtain⟨e1,e2,e3⟩:=hds d hd;rw[fE _ (by omega),fE1 _ (by omega),e3])
   have l8:ax I qjV.get 323 (pw (a+2) 0)=.ok (.agg ⟨cm ((dk o w zG M).getD (Z M-1) zG)⟩):=bU hd1 hd2 rh (w2.same (t3 _ (λ hm=>by have:=(hds _ hm).1;omega)));refine⟨.inr rfl,qjV,_,t1,(by simp only[pg,g6,l8,Aq,V]<;>rfl),rfl,by omega,λ z hz=>?_⟩;rw[t3 z (λ hm=>by have:=(hds z hm).1;omega),fE z (by omega),fE1 z (by omega),hf z (by omega) (by omega),kAC.2 z (by omega)]
 .simp only[Sq,V,ak,pV]
theorem Ev{T:Type}{o:ay->T}{w:T->T->Nat->T}{z:T}{R:Nat->T->Prop}
 (hs:∀i s,M[i]?=U s->(∀k,k<i->R k ((dk o w z (M.take i)).getD k z))->R i (iO o w z (dk o w z (M.take i)) s (Z s.arcs))):∀i,i<=Z M->∀k,k<i->R k ((dk o w z (M.take i)).getD k z)
 |0,_,k,hk=>aZ hk (BK _)
 |i+1,hi,k,hk=>by
  have ih:=Ev hs i (by omega);have hl:=Ae o w z (M.take i);rw[db,oA (by omega)]at hl;rw[Mg o w z (aV (show i<Z M by omega)),ow];rcases d_ k i with h|h
  .rw[eG (by omega),<-ow];exact ih k h
  .have e:k=i:=by omega
   subst e;rw[ez (by omega),hl,gZ];exact hs k _ (aV (show k<Z M by omega)) ih
theorem F8{T:Type}{o:ay->T}{w:T->T->Nat->T}{z:T}{acc:List T}{s:ay}{P:Nat->T->Prop}(h0:P 0 (o s))(hs:∀j a x,s.arcs[j]?=U a->P j x->P (j+1) (w x (acc.getD a.to z) a.out)):∀j,j<=Z s.arcs->P j (iO o w z acc s j)
 |0,_=>h0
 |j+1,hj=>by
  have hsj:=aV (show j<Z s.arcs by omega);rw[F9 o w z hsj];exact hs j _ _ hsj (F8 h0 hs j (by omega))
def oC(s:ay):Int:=if s.fin then 1 else 0
def wC(x c:Int)(_:Nat):Int:=min (x+c) 100001
def qjk(g:eF M){s:ay}(h:M[i]?=U s):(ws M i).length=(if s.fin then 1 else 0)+(s.arcs.map λ a=>(ws M a.to).length).sum:=by
 rw[rp g h,aU,List.length_flatMap];have e:(λ a=>(ir M a).length)=λ a=>(ws M a.to).length:=by funext a;unfold ir;rw[aR]
 rw[e];cases s.fin<;>rfl
def Bt(M:List ay)(s:ay)(j:Nat)(x:Int):Prop:=x=((min ((if s.fin then 1 else 0)+((s.arcs.take j).map λ a=>(ws M a.to).length).sum) 100001:Nat):Int)
def Nn(g:eF M){s:ay}(h:M[i]?=U s)(hk:∀k,k<i->(dk oC wC zI (M.take i)).getD k zI=((min (ws M k).length 100001:Nat):Int)):∀j,j<=Z s.arcs->Bt M s j (iO oC wC zI (dk oC wC zI (M.take i)) s j):=by
 refine F8 ?_ λ j a x hj hx=>?_
 .unfold Bt oC;rw[zT];cases s.fin<;>rfl
 .obtain⟨hjl,ha⟩:=bg.1 hj;unfold Bt at hx⊢;rw[hk a.to ((g i s h).2.2.1 a (fh hj)),hx,eH hjl,fY,Ed,ha];simp only[eU,rB,BD,List.sum_nil,wC];generalize (ya (λ a=>(ws M a.to).length) (List.take j s.arcs)).sum=p;generalize (if s.fin=aa then 1 else 0)=q;omega
def Nl(g:eF M):∀i,i<=Z M->∀k,k<i->(dk oC wC zI (M.take i)).getD k zI=((min (ws M k).length 100001:Nat):Int):=
 Ev (R:=λ k v=>v=((min (ws M k).length 100001:Nat):Int)) λ i s h hk=>by
  have:=Nn g h hk (Z s.arcs) (aJ _);unfold Bt at this;rw[dY,<-qjk g h]at this;exact this
def qda:Ep 210 oC:=λ D x s=>by
 have v:=aK D 239 (a_ x s);refine⟨D.alloc (ae 239 (a_ x s)),?_,Kp.alloc _ _⟩;generalize hE:D.alloc (ae 239 (a_ x s))=E at v;have l1:=v.m1 u4 rfl;unfold pN oC;cases hf:s.fin with
 |true=>
  rw[hf]at l1;refine cG 60 (aN Tryz.func210) (by kernel_rfl) λ M=>?_
  simp(disch:=omega)only[Tryz.f210,Aq,V,aX,hE,jw,l1]<;>rfl
 |false=>
  rw[hf]at l1;refine cG 60 (aN Tryz.func210) (by kernel_rfl) λ M=>?_
  simp(disch:=omega)only[Tryz.f210,Aq,V,aX,hE,jw,l1]<;>rfl
variable {tb:aO}
def qZ{ts:List aj}{a b:Int}:cQ tb .min ts [.int .i64 a,.int .i64 b]=.ok (.int .i64 (min a b)):=by
 have e:cQ tb .min ts [.int .i64 a,.int .i64 b]=.ok (.int .i64 (bif mu b a then b else a)):=by cases ts<;>rfl
 rw[e,xp];by_cases h:b<a
 .rw[decide_eq_true h,Int.min_eq_right (by omega)];rfl
 .rw[decide_eq_false h,Int.min_eq_left (by omega)];rfl
def max_i64{ts:List aj}{a b:Int}:cQ tb .max ts [.int .i64 a,.int .i64 b]=.ok (.int .i64 (max a b)):=by
 have e:cQ tb .max ts [.int .i64 a,.int .i64 b]=.ok (.int .i64 (bif mu a b then b else a)):=by cases ts<;>rfl
 rw[e,xp];by_cases h:a<b
 .rw[decide_eq_true h,Int.max_eq_right (by omega)];rfl
 .rw[decide_eq_false h,Int.max_eq_left (by omega)];rfl
def qb2{ts:List aj}{a:Nat}:cQ tb .max ts [.int .u64 a,.int .u64 b]=.ok (.int .u64 (max a b:Nat)):=by
 have e:cQ tb .max ts [.int .u64 a,.int .u64 b]=.ok (.int .u64 (bif aM a b then(b:Int)else(a:Int))):=by cases ts<;>rfl
 rw[e];cases h:aM a b with
 |true=>
  have q:a<b:=by simpa[bT]using h
  rw[yh (by omega)];rfl
 |false=>
  have q:¬a<b:=by intro hx;rw[<-bT,h]at hx;cases hx
  rw[Ht (by omega)];rfl
def qjf(g:eF M):BZ 211 oC wC M:=λ D i j s a hi hj=>by
 have hil:=(bg.1 hi).1;have hk:=Nl g i (by omega);have hp:=Nn g hi hk j (by have:=(bg.1 hj).1;omega);have hc:=hk a.to ((g i s hi).2.2.1 a (fh hj));unfold Bt at hp;rw[F9 oC wC zI hj,hp,hc];generalize (if s.fin=aa then 1 else 0)+(ya (λ a=>(ws M a.to).length) (List.take j s.arcs)).sum=p;generalize (ws M a.to).length=q;have a1:bj .add .i64 ((min p 100001:Nat):Int) ((min q 100001:Nat):Int)=.ok (iN (min p 100001+min q 100001)):=fc (cS (by omega));have m1:=qZ (tb:=I) (ts:=[3,3]) (a:=((min p 100001+min q 100001:Nat):Int)) (b:=((100001:Nat):Int));have e:wC ((min p 100001:Nat):Int) ((min q 100001:Nat):Int) a.out=min ((min p 100001+min q 100001:Nat):Int) ((100001:Nat):Int):=by unfold wC;omega
 refine⟨D,?_,Kp.refl _⟩;unfold pN;rw[e];refine cG 60 (aN Tryz.func211) (by kernel_rfl) λ M=>?_
 simp(disch:=decide+kernel)only[Tryz.f211,Aq,V,a1,m1]<;>rfl
def qeV{k:O}(h:dJ A M y)(hk:k.cells.toList=[k]/\bI k=aa)(g:eF M)(hM:M≠ [])(hl:Z M<1000000)(hw:(ws M (Z M-1)).length<=100000):
 ∃v A',az I 161 [.agg ⟨[y,k]⟩] A v A'/\v=.tuple ⟨[iN ((ws M (Z M-1)).length),.bool aa]⟩/\Kp A A':=by
 have kB:=Kp.alloc A (ae 149 [y,k]);have vB:=aK A 149 [y,k];generalize hB:A.alloc (ae 149 [y,k])=B at kB vB;obtain⟨d,hd1,hd2⟩:=b9 (by kernel_rfl);have lB:=bU hd1 hd2 iE vB.2;obtain⟨v,C,⟨gc,hc⟩,rfl,kC⟩:=Sr (h.kp kB) (k:=k) g hM hl qda (qjf g);have hpos:=iG.2 hM;have hv:=Nl g (Z M) (aJ _) (Z M-1) (by omega);rw[dY,oA (by omega)]at hv;rw[hv]at hc;unfold pN at hc;have hn:¬100000<(ws M (Z M-1)).length:=by omega
 refine⟨_,C,?_,rfl,kB.trans kC⟩;refine bQ (gc) 60 (aN Tryz.func161) (by kernel_rfl) λ M hM=>?_
 simp(disch:=first|decide+kernel|omega)only[Tryz.f161,Aq,V,aX,hB,lB,sr,hc,fm,fk,hn]<;>rfl
def oL(s:ay):Int:=if s.fin then 0 else-1
def wL(x c:Int)(_:Nat):Int:=if c<0 then x else max x (c+1)
def BF(M:List ay)(i:Nat)(x:Int):Prop:=-1<=x/\x<=i/\(x=-1\/∃w∈ws M i,x=((w.1.length:Nat):Int))
def P1(g:eF M){s:ay}(h:M[i]?=U s)(hk:∀k,k<i->BF M k ((dk oL wL zI (M.take i)).getD k zI)):∀j,j<=Z s.arcs->BF M i (iO oL wL zI (dk oL wL zI (M.take i)) s j):=by
 refine F8 ?_ λ j a x hj hx=>?_
 .unfold BF oL;cases hf:s.fin with
  |false=>exact⟨by simp,by simp only[ed,bO];omega,.inl rfl⟩
  |true=>exact⟨by simp,by simp,.inr ⟨([],s.out),by rw[rp g h,hf];simp,rfl⟩⟩
 .have ha:=fh hj;have hto:=(g i s h).2.2.1 a ha;obtain⟨c1,c2,c3⟩:=hk a.to hto;obtain⟨x1,x2,x3⟩:=hx;generalize (dk oL wL zI (M.take i)).getD a.to zI=c at*;unfold wL;split
  .exact⟨x1,x2,x3⟩
  .refine⟨by omega,by omega,?_⟩;rcases Int.le_total (c+1) x with hle|hle
   .rw[Int.max_eq_left hle];exact x3
   .rw[Int.max_eq_right hle];rcases c3 with h|⟨w,hw,hwl⟩
    .omega
    .refine .inr ⟨(a.byte::w.1,a.out+w.2),?_,by rw[hwl];simp⟩;rw[rp g h];exact yb _ (BB.2 ⟨a,ha,dA.2 ⟨w,hw,rfl⟩⟩)
def PZ(g:eF M):∀i,i<=Z M->∀k,k<i->BF M k ((dk oL wL zI (M.take i)).getD k zI):=
 Ev λ i s h hk=>P1 g h hk (Z s.arcs) (aJ _)
def qdc:Ep 212 oL:=λ D x s=>by
 have v:=aK D 239 (a_ x s);refine⟨D.alloc (ae 239 (a_ x s)),?_,Kp.alloc _ _⟩;generalize hE:D.alloc (ae 239 (a_ x s))=E at v;have l1:=v.m1 u4 rfl;unfold pN oL;cases hf:s.fin with
 |true=>
  rw[hf]at l1;refine cG 60 (aN Tryz.func212) (by kernel_rfl) λ M=>?_
  simp(disch:=omega)only[Tryz.f212,Aq,V,aX,hE,jw,l1]<;>rfl
 |false=>
  rw[hf]at l1;refine cG 60 (aN Tryz.func212) (by kernel_rfl) λ M=>?_
  simp(disch:=omega)only[Tryz.f212,Aq,V,aX,hE,jw,l1,I9]<;>rfl
def qjh(g:eF M)(hl:Z M<1000000):BZ 213 oL wL M:=λ D i j s a hi hj=>by
 have hil:=(bg.1 hi).1;have hk:=PZ g i (by omega);obtain⟨x1,x2,-⟩:=P1 g hi hk j (by have:=(bg.1 hj).1;omega);have hto:=(g i s hi).2.2.1 a (fh hj);obtain⟨c1,c2,-⟩:=hk a.to hto;rw[F9 oL wL zI hj];generalize iO oL wL zI (dk oL wL zI (M.take i)) s j=x at*;generalize (dk oL wL zI (M.take i)).getD a.to zI=c at*;refine⟨D,?_,Kp.refl _⟩;unfold pN wL;by_cases h0:c<0
 .have h1:c<((0:Nat):Int):=by simpa using h0
  rw[aC h0];refine cG 60 (aN Tryz.func213) (by kernel_rfl) λ M=>?_
  simp(disch:=decide+kernel)only[Tryz.f213,Aq,V,Kn,h1]<;>rfl
 .have h1:¬c<((0:Nat):Int):=by simpa using h0
  have a1:bj .add .i64 c ((1:Nat):Int)=.ok (.int .i64 (c+1)):=qc2 (by omega) (by omega);have m1:=max_i64 (tb:=I) (ts:=[3,3]) (a:=x) (b:=c+1);rw[aq h0];refine cG 60 (aN Tryz.func213) (by kernel_rfl) λ M=>?_
  simp(disch:=decide+kernel)only[Tryz.f213,Aq,V,Kn,h1,a1,m1]<;>rfl
def qfD{k:O}(h:dJ A M y)(g:eF M)(hM:M≠ [])(hl:Z M<1000000):
 ∃v A',az I 163 [.agg ⟨[y,k]⟩] A v A'/\Kp A A'/\∃x,v=.int .i64 x/\BF M (Z M-1) x:=by
 have kB:=Kp.alloc A (ae 149 [y,k]);have vB:=aK A 149 [y,k];generalize hB:A.alloc (ae 149 [y,k])=B at kB vB;have hS:=h.kp kB;obtain⟨d,hd1,hd2⟩:=b9 (by kernel_rfl);have lB:=bU hd1 hd2 iE vB.2;have ly:=vB.l0 eK rfl;have c6:=hS.len;obtain⟨v,C,⟨gc,hc⟩,rfl,kC⟩:=Sr hS (k:=k) g hM hl qdc (qjh g hl);have hpos:=iG.2 hM;have hv:=PZ g (Z M) (aJ _) (Z M-1) (by omega);rw[dY]at hv;have hn:¬Z M=0:=by omega
 refine⟨_,C,?_,kB.trans kC,_,rfl,hv⟩;unfold pN at hc;refine bQ (gc) 60 (aN Tryz.func163) (by kernel_rfl) λ M hM=>?_
 simp(disch:=first|decide+kernel|omega)only[Tryz.f163,Aq,V,aX,hB,jv,ly,c6,lB,sr,hc,hn]<;>rfl
def oG(s:ay):dM:=⟨s.out,aa,s.fin⟩
def sR(m x:dM):dM:=if m.any then⟨max m.n x.n,m.fits&&x.fits,aa⟩else x
def wG(x c:dM)(out:Nat):dM:=sR x ⟨c.n+out,c.fits,c.any⟩
def Bv(M:List ay)(i:Nat)(x:dM):Prop:=x.fits=aa/\(x.any=aa->∃w∈ws M i,w.2=x.n)
def Mo(g:eF M){s:ay}{a:cK}{w:List UInt8×Nat}(h:M[i]?=U s)(ha:a∈s.arcs)(hw:w∈ws M a.to):(a.byte::w.1,a.out+w.2)∈ws M i:=by
 rw[rp g h];exact yb _ (BB.2 ⟨a,ha,dA.2 ⟨w,hw,rfl⟩⟩)
def O1(g:eF M){s:ay}(h:M[i]?=U s)(hk:∀k,k<i->Bv M k ((dk oG wG zG (M.take i)).getD k zG)/\((dk oG wG zG (M.take i)).getD k zG).any=aa):
 ∀j,j<=Z s.arcs->Bv M i (iO oG wG zG (dk oG wG zG (M.take i)) s j)/\((s.fin=aa\/0<j)->(iO oG wG zG (dk oG wG zG (M.take i)) s j).any=aa):=by
 refine F8 (P:=λ j x=>Bv M i x/\((s.fin=aa\/0<j)->x.any=aa)) ?_ λ j a x hj hx=>?_
 .refine⟨⟨rfl,λ hf=>⟨([],s.out),?_,rfl⟩⟩,λ hf=>?_⟩
  .have hf:s.fin=aa:=hf;rw[rp g h,hf];simp
  .rcases hf with hf|hf
   .exact hf
   .omega
 .have ha:=fh hj;obtain⟨⟨c1,c2⟩,c3⟩:=hk a.to ((g i s h).2.2.1 a ha);obtain⟨w,hw,hwn⟩:=c2 c3;obtain⟨⟨x1,x2⟩,-⟩:=hx;have hm:=Mo g h ha hw;generalize (dk oG wG zG (M.take i)).getD a.to zG=c at*;unfold wG sR;cases hx:x.any with
  |false=>
   refine⟨⟨c1,λ _=>⟨_,hm,?_⟩⟩,λ _=>c3⟩;show a.out+w.2=c.n+a.out;omega
  |true=>
   refine⟨⟨?_,λ _=>?_⟩,λ _=>rfl⟩
   .show(x.fits&&c.fits)=aa;rw[x1,c1];rfl
   .rcases Nat.le_total x.n (c.n+a.out)with hle|hle
    .exact⟨_,hm,by show a.out+w.2=max x.n (c.n+a.out);rw[yh hle];omega⟩
    .obtain⟨w',h1,h2⟩:=x2 hx;exact⟨w',h1,by show w'.2=max x.n (c.n+a.out);rw[Ht hle];exact h2⟩
def O0(g:eF M):∀i,i<=Z M->∀k,k<i->Bv M k ((dk oG wG zG (M.take i)).getD k zG)/\((dk oG wG zG (M.take i)).getD k zG).any=aa:=
 Ev (R:=λ k v=>Bv M k v/\v.any=aa) λ i s h hk=>by
  obtain⟨h1,h2⟩:=O1 g h hk (Z s.arcs) (aJ _);refine⟨h1,h2 ?_⟩;rcases(g i s h).2.2.2.1 with hf|hf
  .exact .inl hf
  .exact .inr (iG.2 hf)
def Fm:bM I 323 (pw b 0) 0=.ok (pw b 0):=by kernel_rfl
def Fo:bM I 323 (pw b 0) 1=.ok (pw b 2):=by kernel_rfl
def Jh:bM I 321 (pw b 0) 0=.ok (pw b 0):=by kernel_rfl
def N_:bM I 321 (pw b 0) 1=.ok (pw b 1):=by kernel_rfl
def SP:aY I 321=.ok 2:=by kernel_rfl
def Bq:cX I 323=.ok (.agg ⟨cm zG⟩):=by kernel_rfl
def HU{x:Int}{f:Bool}:ef I 321 [(0,.int .u64 x),(1,.bool f)]=.ok (.agg ⟨[.int .u64 x,.bool f]⟩):=by kernel_rfl
def HV{x:Int}{f a:Bool}:ef I 323 [(0,.agg ⟨[.int .u64 x,.bool f]⟩),(1,.bool a)]=.ok (.agg ⟨[.int .u64 x,.bool f,.bool a]⟩):=by kernel_rfl
def JT{k:Kd}{m:dM}(h:de A 323 b k (cm m)):ax I A.get 321 (pw b 0)=.ok (.agg ⟨[.int .u64 m.n,.bool m.fits]⟩):=by
 obtain⟨c,h1,h2⟩:=h;obtain⟨d,hd1,hd2⟩:=b9 (t:=321) (p:=aa) (by kernel_rfl);have hg:c.iX 2 0=U [.int .u64 m.n,.bool m.fits]:=oP _ _ _ _ rfl λ j hj=>by
  have:j=0\/j=1:=by omega
  rcases this with rfl|rfl
  .exact h2 0 (by simp[cm])
  .exact h2 1 (by simp[cm])
 unfold ax;simp only[h1,hd1,hd2,aI,SP,R.aT,hg]
def Tu{k:Kd}{m:dM}{f:Bool}(h:de A 323 b k (cm m)):∃A',bX I A 321 (pw b 0) (.agg ⟨[.int .u64 n,.bool f]⟩)=.ok A'/\de A' 323 b k (cm ⟨n,f,m.any⟩)/\A'.next=A.next/\∀z,z≠b->A'.get z=A.get z:=by
 obtain⟨A',h1,h2,h3,h4⟩:=h.put (o:=0) (vs:=[.int .u64 n,.bool f]) (by simp[bI]) (by simp[cm]) (by simp);refine⟨A',?_,h4 _ rfl λ j hj=>?_,h2,h3⟩
 .unfold bX;simp only[SP,R.aT,aX];exact h1
 .have:j=0\/j=1\/j=2:=by simp[cm]at hj;omega
  rcases this with rfl|rfl|rfl<;>simp[cm]
def AH{k:Kd}{m:dM}(h:de A 323 b k (cm m)):ax I A.get 323 (pw b 0)=.ok (.agg ⟨cm m⟩):=by
 obtain⟨d,hd1,hd2⟩:=b9 (by kernel_rfl);exact bU hd1 hd2 rh h
def qdb:HA 215 oG:=λ D x s=>by
 have k1:=Kp.alloc D (ae 239 (a_ x s));have v1:=aK D 239 (a_ x s);have n1:=aA D (ae 239 (a_ x s));generalize hB:D.alloc (ae 239 (a_ x s))=B at v1 n1 k1;have k2:=Kp.alloc B (ae 323 (cm zG));have v2:=aK B 323 (cm zG);have v1:=v1.kp k2;have n2:=aA B (ae 323 (cm zG));generalize hC:B.alloc (ae 323 (cm zG))=C at v1 v2 k2 n2;have l1:=v1.m1 u4 rfl;have l2:=v1.m2 eE rfl;obtain⟨E,sE,vE,nE,fE⟩:=ja (l':=cm (oG s)) (by exact rh) v2.2 rfl (by simp[cm]) (za _);have sE':bX I C 323 (pw B.next 0) (.agg ⟨[.int .u64 s.out,.bool aa,.bool s.fin]⟩)=.ok E:=sE;have lE:=AH vE;refine⟨E,?_,⟨by omega,λ z hz=>by rw[fE z (by omega),k2.2 z (by omega),k1.2 z hz]⟩⟩;refine cG 60 (aN Tryz.func215) (by kernel_rfl) λ M=>?_
 simp(disch:=omega)only[Tryz.f215,Aq,V,aX,hB,hC,Bq,jw,uL,l1,l2,HU,HV,sE',lE]<;>rfl
def qfS{m x:dM}(h:x.any=aa):∃A',az I 218 [mD m,mD x] A (mD (sR m x)) A'/\Kp A A':=by
 have k1:=Kp.alloc A (ae 323 (cm m));have v1:=aK A 323 (cm m);have n1:=aA A (ae 323 (cm m));generalize hB:A.alloc (ae 323 (cm m))=B at v1 n1 k1;have k2:=Kp.alloc B (ae 323 (cm x));have v2:=aK B 323 (cm x);have v1:=v1.kp k2;have n2:=aA B (ae 323 (cm x));generalize hC:B.alloc (ae 323 (cm x))=C at v1 v2 k2 n2;have k3:=Kp.alloc C (ae 323 (cm zG));have v3:=aK C 323 (cm zG);have v1:=v1.kp k3;have v2:=v2.kp k3;have n3:=aA C (ae 323 (cm zG));generalize hD:C.alloc (ae 323 (cm zG))=D at v1 v2 v3 k3 n3;have kD:=k1.trans (k2.trans k3);obtain⟨E,sE,vE,nE,fE⟩:=ja (l':=cm (sR m x)) (by exact rh) v3.2 rfl (by simp[cm]) (za _);have lE:ax I E.get 323 (.pointer (U ⟨C.next,0,Y⟩))=.ok (mD (sR m x)):=AH vE;have a1:ax I D.get 4 (.pointer (U ⟨A.next,2,Y⟩))=.ok (.bool m.any):=v1.ld rfl u4 rfl;have a2:ax I D.get 4 (.pointer (U ⟨B.next,2,Y⟩))=.ok (.bool x.any):=v2.ld rfl u4 rfl;have kE:Kp A E:=⟨by omega,λ z hz=>by rw[fE z (by omega),kD.2 z hz]⟩;refine⟨E,?_,kE⟩;rw[h]at a2;cases hm:m.any with
 |false=>
  rw[hm]at a1;have lx:ax I D.get 323 (.pointer (U ⟨B.next,0,Y⟩))=.ok (.agg ⟨cm (sR m x)⟩):=by
   have e:sR m x=x:=by unfold sR;rw[hm];rfl
   rw[e];exact AH v2.2
  unfold mD at*;refine cG 60 (aN Tryz.func218) (by kernel_rfl) λ M=>?_
  simp(disch:=first|decide+kernel|omega)only[Tryz.f218,Aq,V,aX,hB,hC,hD,Bq,Fo,a1,a2,lx,sE,lE]<;>rfl
 |true=>
  rw[hm]at a1;have b1:=v1.l0 eE rfl;have b2:=v2.l0 eE rfl;have d1:=v1.l1 u4 rfl;have d2:=v2.l1 u4 rfl;have mx:=qb2 (tb:=I) (ts:=[147,147]) (a:=m.n) (b:=x.n);have e:sR m x=⟨max m.n x.n,m.fits&&x.fits,aa⟩:=by unfold sR;rw[hm];rfl
  rw[e]at sE lE⊢;have sE':bX I D 323 (.pointer (U ⟨C.next,0,Y⟩)) (.agg ⟨[.int .u64 (max m.n x.n:Nat),.bool (m.fits&&x.fits),.bool aa]⟩)=.ok E:=sE;unfold mD at*;cases hf:m.fits with
  |false=>
   rw[hf]at d1;simp only[hf,zB]at sE';rw[hf]at lE;refine cG 60 (aN Tryz.func218) (by kernel_rfl) λ M=>?_
   simp(config:={maxSteps:=4000000})(disch:=first|decide+kernel|omega|simp only[Wq,V])only[Tryz.f218,Aq,au,reduceIte,V,ak,aX,hB,hC,hD,Bq,Fm,Fo,Jh,N_,a1,a2,b1,b2,d1,d2,mx,HU,HV,sE',lE]<;>rfl
  |true=>
   rw[hf]at d1;simp only[hf,t_]at sE';rw[hf]at lE;refine cG 60 (aN Tryz.func218) (by kernel_rfl) λ M=>?_
   simp(config:={maxSteps:=4000000})(disch:=first|decide+kernel|omega|simp only[Wq,V])only[Tryz.f218,Aq,au,reduceIte,V,ak,aX,hB,hC,hD,Bq,Fm,Fo,Jh,N_,a1,a2,b1,b2,d1,d2,mx,HU,HV,sE',lE]<;>rfl
def qjg(g:Sto.Good M):Et 216 oG wG M:=λ D i j s a hi hj=>by
 have hil:=(bg.1 hi).1;have hk:=O0 g.1 i (by omega);obtain⟨⟨x1,x2⟩,x3⟩:=O1 g.1 hi hk j (by have:=(bg.1 hj).1;omega);have ha:=fh hj;obtain⟨⟨c1,c2⟩,c3⟩:=hk a.to ((g.1 i s hi).2.2.1 a ha);obtain⟨w,hw,hwn⟩:=c2 c3;have hle:=g.2.2 i hil _ (Mo g.1 hi ha hw);rw[F9 oG wG zG hj];generalize iO oG wG zG (dk oG wG zG (M.take i)) s j=x at*;generalize (dk oG wG zG (M.take i)).getD a.to zG=c at*;have hs:c.n+a.out<18446744073709551616:=by
  have:=hle;omega
 have k1:=Kp.alloc D (ae 323 (cm x));have v1:=aK D 323 (cm x);have n1:=aA D (ae 323 (cm x));generalize hB:D.alloc (ae 323 (cm x))=B at v1 n1 k1;have k2:=Kp.alloc B (ae 323 (cm c));have v2:=aK B 323 (cm c);have v1:=v1.kp k2;have n2:=aA B (ae 323 (cm c));generalize hC:B.alloc (ae 323 (cm c))=C at v1 v2 k2 n2;have k3:=Kp.alloc C (ae 323 (cm zG));have v3:=aK C 323 (cm zG);have v1:=v1.kp k3;have v2:=v2.kp k3;have n3:=aA C (ae 323 (cm zG));generalize hD:C.alloc (ae 323 (cm zG))=E at v1 v2 v3 k3 n3;have l1:=JT v2.2;have ka:=λ ih A=>FM (ih:=ih) (A:=A) (f:=c.fits) hs
 obtain⟨F,sF,vF,nF,fF⟩:=Tu v2.2;have lx:=AH (v1.2.same (fF _ (by omega)));have lc:ax I F.get 323 (pw B.next 0)=.ok (mD ⟨c.n+a.out,c.fits,c.any⟩):=AH vF;obtain⟨G,⟨go,hgo⟩,kG⟩:=qfS (A:=F) (m:=x) (x:=⟨c.n+a.out,c.fits,c.any⟩) c3;obtain⟨H,sH,vH,nH,fH⟩:=ja (l':=cm (sR x ⟨c.n+a.out,c.fits,c.any⟩)) (by exact rh) (v3.2.same (by rw[kG.2 _ (by omega),fF _ (by omega)])) rfl (by simp[cm]) (za _);have lH:=AH vH;have nG:=kG.1;refine⟨H,?_,⟨by omega,λ z hz=>by rw[fH z (by omega),kG.2 z (by omega),fF z (by omega),k3.2 z (by omega),k2.2 z (by omega),k1.2 z hz]⟩⟩;have sH':=sH;unfold mD at*;refine bQ (go) 60 (aN Tryz.func216) (by kernel_rfl) λ M hM=>?_
 simp(disch:=omega)only[Tryz.f216,Aq,V,aX,hB,hC,hD,Bq,Fm,l1,ka,sF,lx,lc,hgo,sH',lH]<;>rfl
def qft(h:dJ A M y)(g:Sto.Good M)(hM:M≠ [])(hl:Z M<1000000)(hk:∀w∈ws M (Z M-1),w.2+k<=4294967296):
 ∃v A',az I 166 [.agg ⟨[y,.int .u64 k]⟩] A v A'/\Kp A A'/\∃n:Nat,v=.tuple ⟨[.int .u64 n,.bool aa]⟩:=by
 have kB:=Kp.alloc A (ae 149 [y,.int .u64 k]);have vB:=aK A 149 [y,.int .u64 k];have nB:=aA A (ae 149 [y,.int .u64 k]);generalize hB:A.alloc (ae 149 [y,.int .u64 k])=B at kB vB nB;obtain⟨d,hd1,hd2⟩:=b9 (by kernel_rfl);have lB:=bU hd1 hd2 iE vB.2;obtain⟨v,C,⟨gc,hc⟩,rfl,kC⟩:=qfm (h.kp kB) (k:=.int .u64 k) g.1 hM hl qdb (qjg g);have hpos:=iG.2 hM;obtain⟨⟨c1,c2⟩,c3⟩:=O0 g.1 (Z M) (aJ _) (Z M-1) (by omega);rw[dY]at c1 c2 c3;generalize (dk oG wG zG M).getD (Z M-1) zG=m at*;obtain⟨w,hw,hwn⟩:=c2 c3;have hle:=hk w hw;have k3:=Kp.alloc C (ae 323 (cm m));have v3:=aK C 323 (cm m);have sD:bX I (C.alloc (ae 323 (cm zG))) 323 (pw C.next 0) (mD m)=.ok (C.alloc (ae 323 (cm m))):=ep rh rfl rfl (by simp[cm]) (za _);generalize hD:C.alloc (ae 323 (cm m))=D at k3 v3 sD;have l1:=JT v3.2;have ka:=λ ih A=>FM (ih:=ih) (A:=A) (f:=m.fits) (n:=m.n) (m:=k) (by omega)
 obtain⟨F,sF,vF,nF,fF⟩:=Tu (n:=m.n+k) (f:=m.fits) v3.2;have l2:=(vB.kp (kC.trans k3)).m1 eE rfl;have l3:ax I F.get 4 (pw C.next 2)=.ok (.bool m.any):=c7 u4 rfl vF rfl;have l4:=JT vF;have l5:ax I F.get 147 (pw C.next 0)=.ok (uN (m.n+k)):=c7 eE rfl vF rfl;have ks:=λ ih A=>PB (ih:=ih) (A:=A) (n:=m.n+k) (f:=m.fits)
 rw[c1,decide_eq_true (by omega)]at ks;rw[c3]at l3;rw[c1]at ka sF l1 l4;have nC:=kC.1;have nD:=k3.1;refine⟨_,F,?_,⟨by omega,λ z hz=>by rw[fF z (by omega),k3.2 z (by omega),kC.2 z (by omega),kB.2 z hz]⟩,m.n+k,rfl⟩;unfold mD at*;simp only[sY]at ks;refine bQ (gc) 60 (aN Tryz.func166) (by kernel_rfl) λ M hM=>?_
 simp(disch:=first|decide+kernel|omega|simp only[Wq,V])only[Tryz.f166,Aq,au,reduceIte,V,ak,aX,hB,lB,sr,hc,Bq,sD,Fm,Fo,Jh,Fg,l1,l2,ka,sF,l3,l4,ks,l5]<;>rfl
def fR(p:Nat×Nat):List O:=[.int .i64 p.1,.int .i64 p.2]
def Be:I.aB 369=U (.slice 368):=by kernel_rfl
def SS:aY I 368=.ok 2:=by kernel_rfl
def LJ:eR I 368=.ok (2,[.int .i64 0,.int .i64 0]):=by kernel_rfl
def qiB:∃i,I.ty.get 368=U i/\0<i.bytes/\i.bytes<=65536:=by
 have h:((I.ty.get 368).map λ i=>i.bytes)=U 16:=by kernel_rfl
 cases hq:I.ty.get 368 with
 |none=>rw[hq]at h;cases h
 |some i=>
  rw[hq]at h;have:i.bytes=16:=by simpa using h
  exact⟨i,rfl,by omega,by omega⟩
def jf(A:Mem)(b:Nat)(P:List (Nat×Nat))(x:O):Prop:=∃(Q:List (Nat×Nat)) (c:Nat) (k:Kd),x=.slice (U ⟨b,0,Y⟩) (Z P) c/\b<A.next/\de A 368 b k (Q.map fR).flatten/\bH c=Z Q/\Z P<=Z Q/\Q.take (Z P)=P/\(dH c=aa\/(dH c=af/\gM c=2/\k=.row))
variable {A':Mem}
def jf.same{P:List (Nat×Nat)}{x:O}(h:jf A b P x)(hn:A.next<=A'.next)(hg:A'.get b=A.get b):jf A' b P x:=by
 obtain⟨Q,c,k,h1,h2,h3,h4⟩:=h;exact⟨Q,c,k,h1,dc h2 hn,h3.same hg,h4⟩
def jf.len{P:List (Nat×Nat)}{x:O}(h:jf A b P x):cQ I .len [369] [x]=.ok (iN (Z P)):=by
 obtain⟨Q,c,k,rfl,-⟩:=h;exact jY Be
def jf.idx{P:List (Nat×Nat)}{x:O}(h:jf A b P x)(hi:i<Z P):dQ I 369 x (.int .i64 i)=.ok (pw b (i*2)):=by
 obtain⟨Q,c,k,rfl,-⟩:=h;have hb:aM i (Z P)=aa:=by rw[bT];exact hi
 have hn:iC (.int .i64 i)=.ok i:=rfl;unfold dQ;simp only[hn,Be,hb,aI,SS,R.aT,fi,dO]
def tO(Q:List (Nat×Nat)):∀l∈Q.map fR,Z l=2:=λ l hl=>by
 obtain⟨_,_,rfl⟩:=dA.1 hl;rfl
def jf.at{P:List (Nat×Nat)}{x:O}{p:Nat×Nat}(h:jf A b P x)(hi:P[i]?=U p):ax I A.get 3 (pw b (i*2))=.ok (.int .i64 p.1)/\ax I A.get 3 (pw b (i*2+1))=.ok (.int .i64 p.2):=by
 obtain⟨Q,c,k,rfl,h2,h3,h4,h5,h6,h7⟩:=h;have hil:=(bg.1 hi).1;have hr:(Q.map fR)[i]?=U (fR p):=by
  rw[da,show Q[i]?=U p by rw[<-hi,<-h6,oz,aC hil]];rfl
 exact⟨c7 u3 rfl h3 (by have:=nz (tO Q) hr (j:=0) (by omega);rw[dN]at this;rw[this];rfl),c7 u3 rfl h3 (by rw[nz (tO Q) hr (by omega)];rfl)⟩
def jf.Ce{P:List (Nat×Nat)}{x:O}{p:Nat×Nat}(h:jf A b P x)(hi:P[i]?=U p):∃A',bX I A 3 (pw b (i*2+1)) (.int .i64 n)=.ok A'/\jf A' b (P.set i (p.1,n)) x/\A'.next=A.next/\∀z,z≠b->A'.get z=A.get z:=by
 obtain⟨Q,c,k,rfl,h2,h3,h4,h5,h6,h7⟩:=h;have hil:=(bg.1 hi).1;have hri:Q[i]?=U p:=by rw[<-hi,<-h6,oz,aC hil]
 have hr:(Q.map fR)[i]?=U (fR p):=by rw[da,hri];rfl
 have hlen:=ic (tO Q);have hlt:=CV (tO Q) (i:=i) (j:=1) (by rw[aR];omega) (by omega);obtain⟨A',e1,e2,e3,e4⟩:=df (v:=.int .i64 n) AW h3 hlt rfl rfl;refine⟨A',e1,⟨Q.set i (p.1,n),c,k,by rw[dI],by omega,?_,by rw[dI];exact h4,by rw[dI,dI];exact h5,by rw[dI,List.take_set,h6],h7⟩,e3,e4⟩;rw[show((Q.set i (p.1,n)).map fR).flatten=(Q.map fR).flatten.set (i*2+1) (.int .i64 n)from ?_]
 .exact e2
 .refine List.ext_getElem? λ j=>?_
  rw[BA];by_cases hj:j<(Q.map fR).flatten.length
  .rw[Ax (tO Q) rfl (by rw[aR];omega) j hj,pR];by_cases h0:j=i*2
   .subst h0;have:=nz (tO Q) hr (j:=0) (by omega);rw[dN]at this;rw[aC (by omega),aq (by omega),this,gZ];rfl
   .by_cases h1:j=i*2+1
    .subst h1;rw[aC (by omega),aC rfl,aC hlt,show i*2+1-i*2=1 by omega];rfl
    .rw[aq (by omega),aq (by omega)]
  .have e:(((Q.map fR).set i (fR (p.1,n))).flatten).length=(Q.map fR).flatten.length:=by
    rw[hlen,ic (λ l hl=>by
     rcases zP hl with hl|rfl
     .exact tO Q l hl
     .rfl),dI]
   rw[lW (by omega),lW (by rw[dI];omega)]
variable {b2:Nat}
def jf.push{P:List (Nat×Nat)}{x:O}{p:Nat×Nat}(h:jf A b P x)(hb2:A.get b2=U (ae 368 (fR p)))(hl:Z P<1000000):
 ∃x' A' b',dm I A 369 369 x (.slice (U ⟨b2,0,Y⟩) 1 2)=.ok (x',A')/\jf A' b' (P++[p]) x'/\(b'=b\/b'=A.next)/\A.next<=A'.next/\∀y,y≠b->y<A.next->A'.get y=A.get y:=by
 obtain⟨Q,c,k,rfl,h2,h3,h4,h5,h6,h7⟩:=h;have hnew:ib A.get 2 1 (.slice (U ⟨b2,0,Y⟩) 1 2)=.ok (fR p):=by
  have:=tN (n:=2) (og hb2) rfl;exact this
 have h1c:∀v∈fR p,bI v=aa:=by simp[fR,bI]
 have hlen:=ic (tO Q);rw[aR]at hlen;obtain⟨ti,t1,t2,t3⟩:=qiB;by_cases hroom:Z P+1<=Z Q
 .obtain⟨A',e1,e2,e3,e4⟩:=h3.put (o:=Z P*2) h1c (by rw[hlen];simp[fR];omega) (by simp[fR]);have hble:au (Z P+1) (bH c)=aa:=mJ (by omega);refine⟨.slice (U ⟨b,0,Y⟩) (Z P+1) c,A',b,?_,⟨Q.set (Z P) p,c,k,by rw[aU];rfl,by omega,?_,by rw[dI];exact h4,by rw[dI,aU];exact hroom,?_,h7⟩,.inl rfl,by omega,λ y hy _=>e3 y hy⟩
  .unfold dm gx;simp only[Be,jx,ba,LJ,R.aT,fu,hnew,hble,aI,fi,dO,e1]
  .refine e4 _ ?_ λ j hj=>?_
   .rw[hlen,ic (tO _),aR,dI]
   .rw[BA,Ax (tO Q) rfl (by rw[aR];omega) j hj];rfl
  .rw[aU,fg,eH (by rw[dI];omega),List.take_set_of_le (aJ _),h6,List.getElem_set_self]
 .have hRP:Q=P:=by rw[<-h6,ug (by omega)]
  have hble:au (Z P+1) (bH c)=af:=by
   cases hq:au (Z P+1) (bH c)with
   |false=>rfl
   |true=>have:=fQ hq;omega
  have hlim:(au (Z P+1) 16777216&&au ti.bytes 65536&&aM 0 ti.bytes&&aM 0 2&&aM 2 65536)=aa:=by
   have a1:au (Z P+1) 16777216=aa:=mJ (by omega);have a2:=mJ t3;have a3:aM 0 ti.bytes=aa:=by rw[bT];exact t2
   rw[a1,a2,a3];rfl
  have hel:=tN h3 (by rw[hlen,hRP]);have fin:∀A0:Mem,A0.next=A.next->jf (A0.alloc (.cells 368 .row 0 (T.bP .e 0 ((Q.map fR).flatten++fR p)))) A.next (P++[p]) (.slice (U ⟨A.next,0,Y⟩) (Z P+1) (cu (Z P+1) 2)):=λ A0 hn=>
   ⟨P++[p],cu (Z P+1) 2,.row,by rw[aU];rfl,by rw[aA];omega,by rw[fY,Bx,<-hRP];simp only[eU,rB,s9,Hm,kR];exact og (by rw[<-hn];exact cR _ _),by rw[gB (by omega),aU];rfl,aJ _,dY,.inr ⟨iK _ _,lj (by omega),rfl⟩⟩
  rcases h7 with hx|⟨hx,he,rfl⟩
  .refine⟨_,A.alloc (.cells 368 .row 0 (T.bP .e 0 ((Q.map fR).flatten++fR p))),A.next,?_,fin A rfl,.inr rfl,by rw[aA];omega,λ y _ hlt=>c9 (by omega)⟩;unfold dm gx;simp only[Be,jx,ba,LJ,R.aT,fu,hnew,hble,t1,hlim,aI,hel,hx]
  .obtain⟨cs,q1,q2⟩:=h3;have hone:=ov.2 h1c;have hbe:aL (gM c) 2=aa:=by rw[he];rfl
   have hfz:(au 0 (0+Z P*2)&&(aL 368 368&&aM 0 9223372036854775808))=aa:=by
    have h0:aM 0 9223372036854775808=aa:=by rw[bT];omega
    rw[h0];simp
   refine⟨_,(A.set b .dead).alloc (.cells 368 .row 0 (T.bP .e 0 ((Q.map fR).flatten++fR p))),A.next,?_,fin (A.set b .dead) (cE _ _ _),.inr rfl,by rw[aA,cE];omega,λ y hy hlt=>by rw[c9 (by rw[cE];omega),cr,aq hy]⟩;unfold dm gx;simp only[Be,jx,ba,LJ,R.aT,fu,hnew,hble,t1,hlim,aI,hel,hx,hbe,hone,sY,q1,hfz]
def jf.pop{P:List (Nat×Nat)}{x:O}{p:Nat×Nat}(h:jf A b (P++[p]) x):∃x',eD I 369 x Y (U (.int .i64 (Z P:Nat))) Y=.ok x'/\jf A b P x':=by
 obtain⟨Q,c,k,rfl,h2,h3,h4,h5,h6,h7⟩:=h;rw[aU,fg]at*;have e1:bound (U (.int .i64 (Z P:Nat))) (Z P+1) (bH c)=.ok (Z P):=qQ (by omega);have hx:(dH c&&aL (bH c) 0)=af:=by
  have:aL (bH c) 0=af:=by
   cases hq:aL (bH c) 0 with
   |false=>rfl
   |true=>have:=dZ hq;omega
  rw[this,Bool.and_false]
 have hf:gh c 2=aa:=by
  unfold gh;rcases h7 with h|⟨h,he,-⟩
  .rw[h];rfl
  .rw[h,he];rfl
 refine⟨.slice (U ⟨b,0,Y⟩) (Z P) (jt c 0),?_,Q,jt c 0,k,rfl,h2,h3,by rw[uG,h4,iV],by omega,?_,?_⟩
 .unfold eD;simp only[Be,e1,R.aT,tw,SS,hx,ba,hf,aI,fi,oB,dN,iV]
 .have:=cV (List.take (Z P)) h6;rwa[zS,oA (by omega),List.take_left]at this
 .rw[yP];rcases h7 with h|⟨h,he,hk⟩
  .exact .inl h
  .exact .inr ⟨h,by rw[ET h];exact he,hk⟩
def qh0{p:Nat×Nat}(hb:b<A.next)(h:de A 368 b (.var 2) (fR p)):jf A b [p] (.slice (U ⟨b,0,Y⟩) 1 2):=
 ⟨[p],2,.var 2,rfl,hb,by simpa using h,rfl,aJ _,rfl,.inl rfl⟩
theorem OJ:∀l:List cK,l.foldl (mZ M k) Y=Y
 | []=>rfl
 |a::l=>by rw[mG];exact OJ l
theorem OA(l:List cK)(left:Nat):∀n j,j+n=Z l->∃q,j<=q/\q<=Z l/\(∀r (h:r<Z l),j<=r->r<q->(l[r]).to<left)/\(q=Z l\/∃a,l[q]?=U a/\left<=a.to)
 |0,j,h=>⟨j,aJ _,by omega,λ r _ h1 h2=>by omega,.inl (by omega)⟩
 |n+1,j,h=>by
  by_cases hj:left<=(l[j]'(by omega)).to
  .exact⟨j,aJ _,by omega,λ r _ h1 h2=>by omega,.inr ⟨_,aV (by omega),hj⟩⟩
  .obtain⟨q,h1,h2,h3,h4⟩:=OA l left n (j+1) (by omega);refine⟨q,by omega,h2,λ r hr ha hb=>?_,h4⟩;rcases d_ j r with hlt|hge
   .exact h3 r hr hlt hb
   .have:r=j:=by omega
    subst this;omega
theorem OK{left:Nat}{l:List cK}{q:Nat}(hq:q<=Z l):∀n j,j+n=q->(∀r (h:r<Z l),j<=r->r<q->(l[r]).to<left)->(l.drop j).foldl (mZ M k) (U left)=(l.drop q).foldl (mZ M k) (U left)
 |0,j,h,_=>by rw[show j=q by omega]
 |n+1,j,h,hs=>by
  have ht:=hs j (by omega) (aJ _) (by omega);rw[nb (show j<Z l by omega),mG];have e:mZ M k (U left) (l[j]'(by omega))=U left:=by unfold mZ;rw[wj,aq (by omega)]
  rw[e];exact OK hq n (j+1) (by omega) λ r hr h1 h2=>hs r hr (by omega) h2
def kX:=cg pd
def ku:aH:=sub kX [1,0,1,1,1,0,0,0]
def EK:aH:=sub ku [1,0,1,1,0,0,0]
def Xo:pd.body=U (.seq (sub kX [0]) (.scope (.seq (sub kX [1,0,0]) (.seq (sub kX [1,0,1,0]) (.seq (sub kX [1,0,1,1,0]) (.seq (.block 0 (.loop ku)) (.seq (sub kX [1,0,1,1,1,1,0]) (sub kX [1,0,1,1,1,1,1])))))))):=by kernel_rfl
def M1:ku=(.seq (sub ku [0]) (.block 1 (.seq (sub ku [1,0,0]) (.seq (sub ku [1,0,1,0]) (.seq (.block 2 (.loop EK)) (.seq (sub ku [1,0,1,1,1,0]) (.seq (sub ku [1,0,1,1,1,1,0]) (sub ku [1,0,1,1,1,1,1])))))))):=by kernel_rfl
variable {o:Nat}
def Oa:bM I 368 (pw b o) 0=.ok (pw b o):=by kernel_rfl
def Jk:bM I 368 (pw b o) 1=.ok (pw b (o+1)):=by kernel_rfl
def Mx{n:Int}:ef I 368 [(0,.int .i64 n)]=.ok (.agg ⟨[.int .i64 n,iN 0]⟩):=by kernel_rfl
def MM{m n:Int}:eo I 369 1 [(0,.agg ⟨[.int .i64 m,.int .i64 n]⟩)]=.ok (ae 368 [.int .i64 m,.int .i64 n],.dy 1 2):=by kernel_rfl
def Head(B:Mem)(p:Nat)(qjW:List (Nat×Nat))(left:Nat)(t:T O)(D:Mem):Prop:=∃b x,jf D b qjW x/\B.next<=b/\Kp B D/\Sl t [(1,pV p),(3,.int .i64 left),(4,x)]
def JR{α:Type}(l:List α)(a:α):(l++[a])[Z l]?=U a:=by rw[ez (aJ _),gZ];rfl
def qha{α:Type}(l:List α)(a b:α):(l++[a]).set (Z l) b=l++[b]:=by rw[BC _ _ (aJ _),gZ];rfl
variable {j:Nat}
def Rg{D:Mem}{k:O}{q left:Nat}{s:ay}{qjW:List (Nat×Nat)}(h:dJ A M y)(hAB:Kp A B)(vB:VB B 149 A.next (.var 2) [y,k])(hi:M[i]?=U s)(hl:Z s.arcs<=256)(hM:Z M<1000000)(hW:Z qjW<100000)(hL:left<1000000)
 (hjq:j<=q)(hq:q<=Z s.arcs)(hsk:∀r (h:r<Z s.arcs),j<=r->r<q->(s.arcs[r]).to<left)(hend:(q=Z s.arcs/\i=left)\/∃a,s.arcs[q]?=U a/\left<=a.to)(hH:Head B A.next (qjW++[(i,j)]) left t D):
 W I ku ⟨t,79,[],D,Y⟩ λ e s'=>e=.nrm/\∃t' D',s'=⟨t',79,[],D',Y⟩/\((q=Z s.arcs/\Head B A.next qjW (left+1) t' D')\/∃a,s.arcs[q]?=U a/\left<=a.to/\Head B A.next (qjW++[(i,q+1)]++[(a.to,0)]) left t' D'):=by
 obtain⟨b,x,hS,hb,hK,g1,g3,g4,-⟩:=hH;obtain⟨xs,p,r,i1,i2,hx,i4⟩:=(h.kp hAB).get hi;have i5:=(i4 D hK).2;have ly:=(vB.kp hK).l0 eK rfl;have ls:=hS.len;rw[aU,fg]at ls;have hpos:0<Z qjW+1:=by omega
 have s1:bj .sub .i64 ((Z qjW+1:Nat):Int) ((1:Nat):Int)=.ok (iN (Z qjW)):=gS (by omega) (cS (by omega));have ix:=hS.idx (i:=Z qjW) (by rw[aU,fg];omega);obtain⟨e0,e1⟩:=hS.at (JR qjW (i,j));simp only[pV]at*;rw[M1];apply W.q
 .intro M;simp(disch:=decide+kernel)only[ku,kX,pd,Aq,V,g4,ls,fm,fk,hpos];rfl
 apply W.block;apply W.q2
 .intro M _;simp(disch:=first|decide+kernel|omega|simp only[Wq,V])only[ku,kX,pd,Aq,V,g4,ls,s1,ix,au,reduceIte,ak,g1,jv,ly,bW,bV,Oa,e0,i1,i2,i5,Fq,bY []];rfl
 apply W.seq;apply W.block;refine W.up q (λ j t D=>∃b x,jf D b (qjW++[(i,j)]) x/\B.next<=b/\Kp B D/\(∀r (h:r<Z s.arcs),j<=r->r<q->(s.arcs[r]).to<left)/\Sl t [(1,pw A.next 0),(3,.int .i64 left),(4,x),(5,pw b (Z qjW*2)),(6,xs)]) ?_ hjq ⟨b,x,hS,hb,hK,hsk,?_⟩
 .rintro j t D hj ⟨b,x,hS,hb,hK,hsk,g1,g3,g4,g5,g6,-⟩;obtain⟨e0,e1⟩:=hS.at (JR qjW (i,j));have lx:=(hx.kp hK).len;by_cases hlt:j<Z s.arcs
  .have hsj:=aV hlt;obtain⟨pa,j1,pq,j2,j3⟩:=(hx.kp hK).to hsj;have a1:bj .add .i64 ((j:Nat):Int) ((1:Nat):Int)=.ok (iN (j+1)):=fc (cS (by omega));obtain⟨E,sE,hSE,nE,fE⟩:=hS.Ce (n:=j+1) (JR qjW (i,j));rw[qha]at hSE;have kE:Kp B E:=⟨by have:=hK.1;omega,λ z hz=>by rw[fE z (by omega),hK.2 z hz]⟩;by_cases hjq:j<q
   .have hto:¬left<=(s.arcs[j]).to:=by have:=hsk j hlt (aJ _) hjq;omega
    apply W.run 20
    .intro M;simp(disch:=first|decide+kernel|omega)only[EK,ku,kX,pd,Aq,V,g3,g5,g6,bW,bV,Jk,e1,lx,hlt,j1,j2,j3,a1,sE,iZ,hZ,hto];rfl
    refine⟨hjq,_,_,rfl,b,x,hSE,hb,kE,λ r hr h1 h2=>hsk r hr (by omega) h2,?_⟩;simp only[Sq,V,ak,g1,g3,g4,g5,g6]
   .have e:j=q:=by omega
    subst e;rcases hend with⟨e,-⟩|⟨a,ha,hto⟩
    .omega
    .have ea:s.arcs[j]=a:=by rw[hsj]at ha;exact je ha
     rw[ea]at j3;have kF:=Kp.alloc E (ae 368 (fR (a.to,0)));obtain⟨x',G,b',happ,hSG,hb',nG,fG⟩:=(hSE.same kF.1 (kF.2 _ (by obtain⟨_,_,_,_,h,_⟩:=hSE;exact h))).push (cR E _) (by rw[aU,fg];omega);rw[aA]at nG hb' fG;have happ':dm I (E.alloc (ae 368 [iN a.to,iN 0])) 369 369 x (.slice (U ⟨E.next,0,Y⟩) 1 2)=.ok (x',G):=happ;apply W.run 20
     .intro M;simp(disch:=first|decide+kernel|omega)only[EK,ku,kX,pd,Aq,V,g3,g4,g5,g6,bW,bV,Jk,e1,lx,hlt,j1,j2,j3,a1,sE,iZ,hZ,hto,Mx,MM,happ',show aL 1 3=af from rfl];rfl
     have nk:=kE.1;refine⟨rfl,_,_,rfl,.inr ⟨a,ha,hto,b',x',hSG,by omega,⟨by omega,λ z hz=>by rw[fG z (by omega) (by omega),kF.2 z (by omega),kE.2 z hz]⟩,?_⟩⟩;simp only[Sq,V,ak,g1,g3,pV]
  .have e:j=Z s.arcs:=by omega
   subst e;have hqe:q=Z s.arcs:=by omega
   subst hqe;rcases hend with⟨-,hil⟩|⟨a,ha,-⟩
   .subst hil;have a1:bj .add .i64 ((i:Nat):Int) ((1:Nat):Int)=.ok (iN (i+1)):=fc (cS (by omega));have ls:=hS.len;rw[aU,fg]at ls;obtain⟨x',hsl,hS'⟩:=hS.pop;apply W.run 20
    .intro M;simp(disch:=decide+kernel)only[EK,ku,kX,pd,Aq,V,g3,g5,g6,bW,bV,Jk,e1,lx,gY];rfl
    apply W.q2
    .intro M _;simp(disch:=decide+kernel)only[ku,kX,pd,Aq,V,g3,g5,bW,bV,Oa,e0,a1];rfl
    apply W.run 20
    .intro M;simp(disch:=decide+kernel)only[ku,kX,pd,Aq,V,g4,ls,s1,hsl];rfl
    refine⟨rfl,_,_,rfl,.inl ⟨rfl,b,x',hS',hb,hK,?_⟩⟩;simp only[Sq,V,ak,g1,pV]
   .rw[lW (aJ _)]at ha;cases ha
 .simp only[Sq,V,ak,g1,g3,g4]
def Hx(B:Mem)(p:Nat)(K:Ex->St->Prop)(W1:List (Nat×Nat))(l1:Nat)(W2:List (Nat×Nat))(l2:Nat):Prop:=
 (∀t D,Head B p W2 l2 t D->W I (.loop ku) ⟨t,79,[],D,Y⟩ K)->∀t D,Head B p W1 l1 t D->W I (.loop ku) ⟨t,79,[],D,Y⟩ K
def qc8{k:O}{K:Ex->St->Prop}(h:dJ A M y)(hAB:Kp A B)(vB:VB B 149 A.next (.var 2) [y,k])(g:eF M)(hM:Z M<1000000){f:Nat}
 (ih:∀i left L qjW,oh M f i left=U L->Z qjW+i<100000->left<=Z M->Hx B A.next K (qjW++[(i,0)]) left qjW L/\L<=Z M){s:ay}{qjW:List (Nat×Nat)}(hi:M[i]?=U s)(hW:Z qjW+i<100000):
 ∀n j left,j+n=Z s.arcs->left<=Z M->(s.arcs.drop j).foldl (mZ M f) (U left)=U i->Hx B A.next K (qjW++[(i,j)]) left qjW (i+1):=by
 intro n
 induction n using yi with
 |ind n ihn=>
  intro j left hj hle hf hk t D hH;have hfew:=y_ (g i s hi);obtain⟨q,h1,h2,h3,h4⟩:=OA s.arcs left n j hj;rw[OK h2 (q-j) j (by omega) h3]at hf;rcases d_ q (Z s.arcs)with hlt|hge
  .have hsq:=aV hlt;rcases h4 with h4|⟨a,ha,hto⟩
   .omega
   .have ea:s.arcs[q]=a:=by rw[hsq]at ha;exact je ha
    rw[nb hlt,mG,ea]at hf;have e:mZ M f (U left) a=oh M f a.to left:=by unfold mZ;rw[wj,aC hto]
    rw[e]at hf;have hai:=(g i s hi).2.2.1 a (fh ha);cases hv:oh M f a.to left with
    |none=>rw[hv,OJ]at hf;cases hf
    |some L1=>
     rw[hv]at hf;obtain⟨n1,n2⟩:=ih a.to left L1 (qjW++[(i,q+1)]) hv (by rw[aU,fg];omega) hle;have n3:=ihn (n-(q+1-j)) (by omega) (q+1) L1 (by omega) n2 hf;refine W.round ((Rg h hAB vB hi hfew hM (by omega) (by omega) h1 h2 h3 (.inr ⟨a,ha,hto⟩) hH).mono ?_);rintro e s' ⟨rfl,t',D',rfl,⟨e,-⟩|⟨a',ha',-,hH'⟩⟩
     .omega
     .rw[ha]at ha';cases ha';exact n1 (n3 hk) t' D' hH'
  .have e:q=Z s.arcs:=by omega
   subst e;rw[xZ]at hf;have hil:=(je hf).symm;refine W.round ((Rg h hAB vB hi hfew hM (by omega) (by omega) h1 h2 h3 (.inl ⟨rfl,hil⟩) hH).mono ?_);rintro e s' ⟨rfl,t',D',rfl,⟨-,hH'⟩|⟨a',ha',-⟩⟩
   .rw[<-hil]at hH';exact hk t' D' hH'
   .rw[lW (aJ _)]at ha';cases ha'
theorem Rh{k:O}{K:Ex->St->Prop}(h:dJ A M y)(hAB:Kp A B)(vB:VB B 149 A.next (.var 2) [y,k])(g:eF M)(hM:Z M<1000000):
 ∀f i left L qjW,oh M f i left=U L->Z qjW+i<100000->left<=Z M->Hx B A.next K (qjW++[(i,0)]) left qjW L/\L<=Z M
 |0,i,left,L,qjW,hv,_,_=>by cases hv
 |f+1,i,left,L,qjW,hv,hW,hle=>by
  cases hi:M[i]? with
  |none=>rw[oh,hi]at hv;cases hv
  |some s=>
   rw[GW hi]at hv;cases hf:s.arcs.foldl (mZ M f) (U left)with
   |none=>rw[hf]at hv;cases hv
   |some L'=>
    rw[hf,wj]at hv;split at hv
    .rename_i e;subst e;cases hv;refine⟨qc8 h hAB vB g hM (λ i left L W a b c=>Rh h hAB vB g hM f i left L W a b c) hi hW (Z s.arcs) 0 left (by omega) hle (by rw[vZ];exact hf),(bg.1 hi).1⟩
    .cases hv
def qfT{k:O}{f:Nat}(h:dJ A M y)(g:eF M)(hM0:M≠ [])(hM:Z M<100000)(hv:oh M f (Z M-1) 0=U (Z M)):∃v A',az I 208 [.agg ⟨[y,k]⟩] A v A'/\v=.bool aa/\Kp A A':=by
 refine c_ (aN Tryz.func208) Xo (by kernel_rfl) ?_;have hpos:=iG.2 hM0;have kB:=Kp.alloc A (ae 149 [y,k]);have vB:=aK A 149 [y,k];apply W.q
 .intro M;simp(disch:=omega)only[kX,pd,Aq,V,aX];rfl
 generalize A.alloc (ae 149 [y,k])=B at kB vB;have lB:=vB.l0 eK rfl;have c6:=(h.kp kB).len;have s1:bj .sub .i64 ((Z M:Nat):Int) ((1:Nat):Int)=.ok (iN (Z M-1)):=gS (by omega) (cS (by omega));have kC:=Kp.alloc B (ae 368 (fR (Z M-1,0)));have vC:=aK B 368 (fR (Z M-1,0));have hC:B.alloc (ae 368 [iN (Z M-1),iN 0])=B.alloc (ae 368 (fR (Z M-1,0))):=rfl;apply W.scope;apply W.q2
 .intro M _;simp(disch:=decide+kernel)only[kX,pd,Aq,V,jv,lB,c6,s1,Mx,MM,hC];rfl
 generalize B.alloc (ae 368 (fR (Z M-1,0)))=C at kC vC;apply W.seq;refine W.run 1 (λ m=>rfl) ?_;apply W.seq;apply W.block;refine(Rh h kB vB g (by omega) f (Z M-1) 0 (Z M) [] hv (by simp;omega) (a6 _)).1 ?_ _ _ ⟨B.next,.slice (U ⟨B.next,0,Y⟩) 1 2,qh0 vC.1 vC.2,aJ _,kC,?_⟩
 .rintro t D ⟨b,x,hS,-,hK,g1,g3,g4,-⟩;have ls:=hS.len;have lD:=(vB.kp hK).l0 eK rfl;have lenD:=(h.kp (kB.trans hK)).len;simp only[pV]at g1;apply W.round;rw[M1];apply W.seq;apply W.run 20
  .intro M;simp(disch:=decide+kernel)only[ku,kX,pd,Aq,V,g4,ls,fm,fk,dL];rfl
  apply W.seq;apply W.run 20
  .intro M;simp(disch:=decide+kernel)only[kX,pd,Aq,V,g1,g3,jv,lD,lenD];rfl
  apply W.run 20
  .intro M;simp only[kX,pd,Aq,V];rfl
  exact⟨by simp,rfl,_,(by simp only[pd,Aq,V]<;>rfl),rfl,kB.trans hK⟩
 .simp only[Sq,V,ak,pV]
variable {m:Nat}
def VL:ef I 232 [(1,.map (U m))]=.ok (.agg ⟨[.slice Y 0 0,.map (U m)]⟩):=by kernel_rfl
def qjA:cX I 232=.ok (.agg ⟨[.slice Y 0 0,.map Y]⟩):=by kernel_rfl
def US:cX I 241=.ok (.agg ⟨[.slice Y 0 0,.bool af,uN 0,bN 0]⟩):=by kernel_rfl
def Mw{x:O}{s:ay}:ef I 241 [(0,.agg ⟨a_ x s⟩)]=.ok (.agg ⟨[x,.bool s.fin,.int .u64 s.out,bN 0]⟩):=by kernel_rfl
def qgH:aY I 232=.ok 2:=by kernel_rfl
def qgI:aY I 241=.ok 4:=by kernel_rfl
def jm:=cg pc
def Ct:aH:=sub jm [1,1,1,1,1,1,0,1,0,0]
def W8:pc.body=U (.seq (sub jm [0]) (.seq (sub jm [1,0]) (.seq (sub jm [1,1,0]) (.seq (sub jm [1,1,1,0]) (.seq (sub jm [1,1,1,1,0]) (.seq (sub jm [1,1,1,1,1,0]) (.seq (.seq (sub jm [1,1,1,1,1,1,0,0]) (.block 0 (.loop Ct))) (.seq (sub jm [1,1,1,1,1,1,1,0]) (sub jm [1,1,1,1,1,1,1,1]))))))))):=by kernel_rfl
def qbi{s:ay}(hn:M.Nodup)(hf:∀s∈M,Fit s)(h:M[i]?=U s):eJ s∉(M.take i).map eJ:=by
 intro hm;obtain⟨u,hu,he⟩:=dA.1 hm;obtain⟨j,hj,rfl⟩:=rA hu;rw[db]at hj;rw[List.getElem_take]at he;obtain⟨hi,rfl⟩:=bg.1 h;have:=key_inj (hf _ (ik (by omega))) (hf _ (ik hi)) he;exact ue.1 hn j i (by omega) hi (by omega) this
def qdL{D:Mem}{s:ay}(h:dJ A M y)(g:eF M)(hn:M.Nodup)(hf:∀s∈M,Fit s)(hM:Z M<100000)(hi:M[i]?=U s)(hAC:Kp A C)(hp:A.next<=p/\A.next<=mk)(hR:um C p mk ((M.take i).map eJ) D)
 (hs:Sl t [(4,pV p),(43,y),(44,.int .i64 (Z M)),(45,.int .i64 i)]):
 W I Ct ⟨t,72,[],D,Y⟩ λ e s'=>e=.nrm/\∃t' D',s'=⟨t',72,[],D',Y⟩/\um C p mk ((M.take (i+1)).map eJ) D'/\Sl t' [(4,pV p),(43,y),(44,.int .i64 (Z M)),(45,.int .i64 (i+1:Nat))]:=by
 obtain⟨g4,g43,g44,g45,-⟩:=hs;have hil:=(bg.1 hi).1;have hkn:=qbi hn hf hi;have htk:(M.take (i+1)).map eJ=(M.take i).map eJ++[eJ s]:=by
  obtain⟨hi',rfl⟩:=bg.1 hi;rw[eH hi',fY];rfl
 obtain⟨-,-,-,hne,h0⟩:=g i s hi;have hfew:=y_ (g i s hi);have hkl:((M.take i).map eJ).length=i:=by rw[aR,db];omega
 have kAD:Kp A D:=by
  obtain⟨_,_,_,-,-,-,-,-,e6,e7⟩:=hR;exact⟨by have:=hAC.1;omega,λ z hz=>by rw[e7 z (by have:=hAC.1;omega) (by omega) (by omega),hAC.2 z hz]⟩
 obtain⟨x,q,j1,j2,hx,-⟩:=(h.kp kAD).at hi;have sE:=A6 hx;have kE:=Kp.alloc D (ae 239 (a_ x s));have vE:=aK D 239 (a_ x s);have hxE:=hx.kp kE;have nE:=aA D (ae 239 (a_ x s));generalize hEe:D.alloc (ae 239 (a_ x s))=E at sE kE vE hxE nE;have sF:bX I (E.alloc (ae 241 [.slice Y 0 0,.bool af,.int .u64 (0:Nat),.int .u8 (0:Nat)])) 241 (.pointer (U ⟨E.next,0,Y⟩)) (.agg ⟨[x,.bool s.fin,.int .u64 s.out,.int .u8 (0:Nat)]⟩)=.ok (E.alloc (ae 241 [x,.bool s.fin,.int .u64 s.out,.int .u8 (0:Nat)])):=ep qgI rfl rfl (by simp) (λ v hv=>by
  simp only[cC,en,or_false]at hv;rcases hv with rfl|rfl|rfl|rfl
  .obtain⟨b,hb⟩:=hx;exact(ai.di hb).2
  all_goals rfl)
 have kF:=Kp.alloc E (ae 241 [x,.bool s.fin,.int .u64 s.out,.int .u8 (0:Nat)]);have vF:=aK E 241 [x,.bool s.fin,.int .u64 s.out,.int .u8 (0:Nat)];generalize hFe:E.alloc (ae 241 [x,.bool s.fin,.int .u64 s.out,.int .u8 (0:Nat)])=F at sF kF vF;obtain⟨v1,G,⟨g1,h1⟩,rfl,kG⟩:=qfR (hxE.kp kF) vF hfew h0;obtain⟨v2,H,⟨g2,h2⟩,rfl,hRH⟩:=qff (hR.kp (kE.trans (kF.trans kG))) (hxE.kp (kF.trans kG)) (hf s (fh hi)) hfew hkn (by rw[hkl];omega);rw[hkl]at h2;obtain⟨d,hd1,hd2⟩:=b9 (by kernel_rfl);have l0:=bU hd1 hd2 iS vE.2;have l1:=(vE.kp kF).m1 u4 rfl;have l2:=(vE.kp kF).l0 j9 rfl;have l3:=bU hd1 hd2 (l:=a_ x s) iS (vE.kp (kF.trans kG)).2;have lx:=(hxE.kp kF).len;rw[htk];simp only[pV]at g4;cases hfin:s.fin with
 |true=>
  rw[hfin]at l1;apply W.ct (g1+g2) 20
  .intro M hM;simp(disch:=first|decide+kernel|omega|simp only[Wq,V])only[Ct,jm,pc,Aq,au,reduceIte,V,ak,g4,g43,g44,g45,hil,j1,j2,vS,aX,sE,l0,Mw,US,sF,mm,jw,l1,l2,lx,h1,l3,h2];rfl
  refine⟨rfl,_,_,rfl,hRH,?_⟩;simp only[Sq,V,ak,g4,g43,g44,pV]
 |false=>
  rw[hfin]at l1;have hlen:¬Z s.arcs=0:=by
   rcases hne with h|h
   .rw[hfin]at h;cases h
   .exact λ e=>h (eQ.1 e)
  apply W.ct (g1+g2) 20
  .intro M hM;simp(disch:=first|decide+kernel|omega|simp only[Wq,V])only[Ct,jm,pc,Aq,au,reduceIte,V,ak,g4,g43,g44,g45,hil,j1,j2,vS,aX,sE,l0,Mw,US,sF,mm,jw,l1,l2,lx,hlen,h1,l3,h2];rfl
  refine⟨rfl,_,_,rfl,hRH,?_⟩;simp only[Sq,V,ak,g4,g43,g44,pV]
def qf7{f:Nat}(h:dJ A M y)(hM0:M≠ [])(g:Sto.Good M)(hf:∀s∈M,Fit s)(hM:Z M<100000)(hv:oh M f (Z M-1) 0=U (Z M)):∃v A',az I 159 [.agg ⟨[y,.int .u64 k]⟩] A v A'/\v=.bool aa/\Kp A A':=by
 refine c_ (aN Tryz.func159) W8 (by kernel_rfl) ?_;have hpos:=iG.2 hM0;have kB:=Kp.alloc A (ae 149 [y,.int .u64 k]);have vB:=aK A 149 [y,.int .u64 k];apply W.q
 .intro M;simp(disch:=omega)only[jm,pc,Aq,V,aX];rfl
 have nB:=aA A (ae 149 [y,.int .u64 k]);generalize A.alloc (ae 149 [y,.int .u64 k])=B at kB vB nB;obtain⟨d,hd1,hd2⟩:=b9 (by kernel_rfl);have lw:∀D,Kp B D->ax I D.get 149 (.pointer (U ⟨A.next,0,Y⟩))=.ok (.agg ⟨[y,.int .u64 k]⟩):=λ D hD=>bU hd1 hd2 iE (vB.kp hD).2
 have ly:=λ D hD=>(vB.kp (A':=D) hD).l0 eK rfl
 have l1:=lw B (Kp.refl _);obtain⟨v1,C,⟨g1,h1⟩,rfl,kC⟩:=qfo (k:=k) (h.kp kB) hM0 g.1 (by omega);apply W.qG (g1)
 .intro M hM;simp(disch:=omega)only[jm,pc,Aq,V,l1,h1];rfl
 have hr:M[Z M-1]?=U (M[Z M-1]'(by omega)):=aV (by omega)
 have hne:=(g.1 _ _ hr).2.2.2.1;obtain⟨x,q,j1,j2,hx,-⟩:=(h.kp (kB.trans kC)).at hr;generalize M[Z M-1]'(by omega)=s at*
 have sE:=A6 hx;have kE:=Kp.alloc C (ae 239 (a_ x s));have vE:=aK C 239 (a_ x s);generalize hEe:C.alloc (ae 239 (a_ x s))=E at sE kE vE;have l2:=ly C kC;have lenC:=(h.kp (kB.trans kC)).len;have s1:bj .sub .i64 ((Z M:Nat):Int) ((1:Nat):Int)=.ok (.int .i64 (Z M-1:Nat)):=gS (by omega) (cS (by omega));apply W.q
 .intro M;simp(disch:=first|decide+kernel|omega)only[jm,pc,Aq,V,jv,l2,lenC,s1,j1,j2,vS,aX,sE];rfl
 have e1:=vE.m1 u4 rfl;have e2:=vE.l0 j9 rfl;have lx:=(hx.kp kE).len;apply W.seq;refine W.to (n:=72) (λ t D=>D=E/\Sl t [(1,.pointer (U ⟨A.next,0,Y⟩))]) ?_ ?_
 .cases hfin:s.fin with
  |true=>
   rw[hfin]at e1;apply W.run 20
   .intro M;simp(disch:=first|decide+kernel|omega|simp only[Wq,V])only[jm,pc,Aq,au,reduceIte,V,ak,mm,jw,e1];rfl
   refine⟨rfl,_,_,rfl,rfl,?_⟩;simp only[Sq,V,ak]
  |false=>
   rw[hfin]at e1;have hlen:¬Z s.arcs=0:=by
    rcases hne with h|h
    .rw[hfin]at h;cases h
    .exact λ e=>h (eQ.1 e)
   apply W.run 20
   .intro M;simp(disch:=first|decide+kernel|omega|simp only[Wq,V])only[jm,pc,Aq,au,reduceIte,V,ak,mm,jw,e1,e2,lx,hlen];rfl
   refine⟨rfl,_,_,rfl,rfl,?_⟩;simp only[Sq,V,ak]
 .rintro t D ⟨rfl,g1',-⟩;have kBD:=kC.trans kE;have l3:=lw D kBD;obtain⟨v2,F,⟨g2,h2⟩,rfl,kF⟩:=qfT (k:=.int .u64 k) (h.kp (kB.trans kBD)) g.1 hM0 hM hv;apply W.qG (g2)
  .intro M hM;simp(disch:=first|decide+kernel|omega)only[jm,pc,Aq,V,g1',l3,h2];rfl
  have kAF:=kB.trans (kBD.trans kF);have n1:=aA F (.map [] 0);have k1:=Kp.alloc F (.map [] 0);have k2:=Kp.alloc (F.alloc (.map [] 0)) (ae 232 [.slice Y 0 0,.map (U F.next)]);have n2:((F.alloc (.map [] 0)).alloc (ae 232 [.slice Y 0 0,.map (U F.next)])).next=F.next+2:=by rw[aA,n1]
  have v2:=aK (F.alloc (.map [] 0)) 232 [.slice Y 0 0,.map (U F.next)];have m2:((F.alloc (.map [] 0)).alloc (ae 232 [.slice Y 0 0,.map (U F.next)])).get F.next=U (.map [] 0):=by rw[c9 (by omega)];exact cR _ _
  have sG:bX I ((F.alloc (.map [] 0)).alloc (ae 232 [.slice Y 0 0,.map Y])) 232 (.pointer (U ⟨(F.alloc (.map [] 0)).next,0,Y⟩)) (.agg ⟨[.slice Y 0 0,.map (U F.next)]⟩)=.ok _:=ep (l':=[.slice Y 0 0,.map (U F.next)]) qgH rfl rfl (by simp) (by simp[bI]);rw[n1]at v2 sG;apply W.q
  .intro M;simp(disch:=omega)only[jm,pc,Aq,V,Dg,tP,Cj,VL,qjA,aX,n1,sG];rfl
  generalize (F.alloc (.map [] 0)).alloc (ae 232 [.slice Y 0 0,.map (U F.next)])=G at k2 n2 v2 m2 sG;have kAG:=kAF.trans (k1.trans k2);have nF:=kAF.1;have l4:=ly G (kBD.trans (kF.trans (k1.trans k2)));have lenG:=(h.kp kAG).len;have hR:um G (F.next+1) F.next ((M.take 0).map eJ) G:=⟨G.next,.slice Y 0 0,[],v2,m2,.inl ⟨rfl,rfl⟩,rfl,⟨aJ _,λ _=>rfl,by omega,by omega,by omega⟩,aJ _,λ _ _ _ _=>rfl⟩
  apply W.seq;apply W.q
  .intro M;simp(disch:=decide+kernel)only[jm,pc,Aq,V,g1',jv,l4,lenG];rfl
  apply W.block;refine W.up (Z M) (λ i t D=>um G (F.next+1) F.next ((M.take i).map eJ) D/\Sl t [(4,pV (F.next+1)),(43,y),(44,.int .i64 (Z M)),(45,.int .i64 i)]) ?_ (a6 _) ⟨hR,?_⟩
  .rintro i t D hi ⟨hR,hs⟩;by_cases hlt:i<Z M
   .refine(qdL h g.1 g.2.1 hf hM (aV hlt) kAG ⟨by omega,by omega⟩ hR hs).mono ?_;rintro e s' ⟨rfl,t',D',rfl,hR',hs'⟩;exact⟨hlt,t',D',rfl,hR',hs'⟩
   .have e:i=Z M:=by omega
    subst e;obtain⟨_,_,_,-,-,-,-,-,e6,e7⟩:=hR;obtain⟨g4,g43,g44,g45,-⟩:=hs;apply W.run 20
    .intro M;simp(disch:=decide+kernel)only[Ct,jm,pc,Aq,V,g44,g45];rfl
    apply W.run 40
    .intro M;simp(disch:=omega)only[jm,pc,Aq,V];rfl
    exact⟨by simp,rfl,_,(by simp only[pc,Aq,V]<;>rfl),rfl,by show A.next<=D.next;omega,λ z hz=>by show D.get z=A.get z;rw[e7 z (by omega) (by omega) (by omega),kAG.2 z hz]⟩
  .simp only[Sq,V,ak,pV]
end Go.Proofs.YtdobfpkceacneaaGreatDoor.sto
namespace Go.Sto
open Go.Am Go.Mdl
variable {M:List ay}
def qjl(g:eF M):∀i,i<Z M->ws M i≠ []:=by
 intro i
 induction i using yi with
 |ind i ih=>
  intro hi;have hs:=aV hi;obtain⟨-,-,h3,h4,-⟩:=g i _ hs;rw[rp g hs];generalize M[i]=s at*;rcases h4 with h4|h4
  .rw[h4];simp
  .obtain⟨a,rs,ha⟩:∃a rs,s.arcs=a::rs:=by cases h:s.arcs with
    |nil=>exact aZ h h4
    |cons a rs=>exact⟨a,rs,rfl⟩
   have hlt:=h3 a (by rw[ha];exact cM);have:=ih a.to hlt (by omega);rw[ha,j'];unfold ir;simp[this]
variable {i:Nat}
def Ri(g:Good M){s:ay}(hs:M[i]?=U s):s.out<=4294967296/\∀a∈s.arcs,a.out<=4294967296:=by
 have hi:=(bg.1 hs).1;have hw:=g.2.2 i hi;rw[rp g.1 hs]at hw;obtain⟨h1,-,h3,-,-⟩:=g.1 i s hs;refine⟨?_,λ a ha=>?_⟩
 .cases hf:s.fin with
  |false=>rw[h1 hf];omega
  |true=>
   rw[hf]at hw;exact hw ([],s.out) (by simp)
 .obtain⟨w,hwm⟩:=Hi _ (qjl g.1 a.to (by have:=h3 a ha;omega));have:=hw (a.byte::w.1,a.out+w.2) (yb _ (BB.2 ⟨a,ha,dA.2 ⟨w,hwm,rfl⟩⟩));simp only at this;omega
end Go.Sto
namespace Go.Proofs.YtdobfpkceacneaaGreatDoor.sto
open Go.Am Go.Mdl Go.Sto
variable {M:List ay}
def qbt(g:Go.Sto.Good M):Lay M:=λ i s hs=>by
 have hm:=fh hs;obtain⟨h1,-,h3,-,-⟩:=g.1 i s hs;obtain⟨h4,h5⟩:=Ri g hs;exact⟨Z2 g hm,h1,by omega,λ a ha=>⟨h3 a ha,by have:=h5 a ha;omega⟩⟩
variable {i:Nat}
theorem OD:∀{l:List cK},i<18446744073709551616->(∀a∈l,a.out<18446744073709551616)->(l.flatMap (jh i)).length<=19*Z l
 | [],_,_=>aJ _
 |a::l,hi,h=>by
  have h1:=OD hi λ a ha=>h a (cU _ ha)
  have h2:=tR a.out (h a cM);have h3:=tR (i-a.to) (by omega);have e:(jh i a).length=(cZ a.out).length+(cZ (i-a.to)).length+1:=by unfold jh;rw[cd,aU]
  rw[j',aU,cd,e];omega
variable {c:Nat}
theorem TH(hc:c<=256):∀(M:List ay) (i:Nat),i+Z M<1000000->(∀s∈M,Z s.arcs<=c/\s.out<18446744073709551616/\∀a∈s.arcs,a.out<18446744073709551616)->(iR i M).length<=(19*c+18)*Z M
 | [],_,_,_=>aJ _
 |s::M,i,hi,h=>by
  rw[cd]at hi;have h1:=TH hc M (i+1) (by omega) λ s hs=>h s (cU _ hs)
  obtain⟨h2,h3,h4⟩:=h s cM;have h5:=OD (i:=i) (by omega) h4;have h6:(pD s).length<=18:=by
   unfold pD;have e1:=tR (2*Z s.arcs+1) (by omega);have e2:=tR (2*Z s.arcs) (by omega);have e3:=tR s.out h3;split
   .rw[aU];omega
   .omega
  rw[iR,aU,cd];unfold nU;rw[aU,Nat.mul_add];omega
end Go.Proofs.YtdobfpkceacneaaGreatDoor.sto
namespace Go.Proofs.YtdobfpkceacneaaGreatDoor.sto
open Go.Am Go.Mdl Go.Sto Go.Shelf
structure U6 (l:List aD):Prop where
 ne:dx l≠ []
 good:Sto.Good (dx l)
 fit:∀s∈dx l,Fit s
 len:(dx l).length<10000
 visit:oh (dx l) (dx l).length ((dx l).length-1) 0=U (dx l).length
 words:ws (dx l) ((dx l).length-1)=l.map (D 0 (least l))
def Gq{l:List aD}(h:oX l):U6 l:=by
 obtain⟨h0,ha,hw,-,hlen,-,-,-,-⟩:=h;obtain⟨r1,-,r3,r4,r5,r6⟩:=Nz h0 ha λ e he=>⟨(hw e he).2.1,(hw e he).2.2⟩
 have hr:(fe 256 l 0 (least l) []).2=(dx l).length-1:=by
  rcases r4 with⟨-,h⟩|⟨-,h⟩
  .simp at h
  .show _=(fe 256 l 0 (least l) []).1.length-1;omega
 have hpos:0<(dx l).length:=by
  have:(fe 256 l 0 (least l) []).2<(dx l).length:=r3;omega
 refine⟨iG.1 hpos,r1,λ s hs=>?_,by omega,?_,?_⟩
 .obtain⟨i,hi,rfl⟩:=rA hs;have hsi:=aV hi;obtain⟨o1,o2⟩:=Ri r1 hsi;exact⟨pU o1 (by omega),λ a hx=>⟨pU (o2 a hx) (by omega),by have:=(r1.1 i _ hsi).2.2.1 a hx;omega⟩⟩
 .have:=r6 (a6 _) (dx l).length (by rw[hr];omega);rwa[hr]at this
 .rw[<-hr];exact r5
def Dv(q1 q2:Nat):List O:=[.func (.func 158) ⟨[]⟩ ⟨[pw q2 0]⟩,.func (.func 160) ⟨[]⟩ ⟨[pw q2 0,pw q1 0]⟩,.func (.func 162) ⟨[]⟩ ⟨[pw q2 0]⟩,.func (.func 164) ⟨[]⟩ ⟨[pw q2 0]⟩,.func (.func 165) ⟨[]⟩ ⟨[pw q2 0]⟩]
variable {b:Nat}
def WA{a:Nat}:eo I 264 5 [(0,.func (.func 158) ⟨[]⟩ ⟨[pw b 0]⟩),(1,.func (.func 160) ⟨[]⟩ ⟨[pw b 0,pw a 0]⟩),(2,.func (.func 162) ⟨[]⟩ ⟨[pw b 0]⟩),(3,.func (.func 164) ⟨[]⟩ ⟨[pw b 0]⟩),(4,.func (.func 165) ⟨[]⟩ ⟨[pw b 0]⟩)]=.ok (ae 24 (Dv a b),.dy 5 10):=by kernel_rfl
def Uc:I.aB 264=U (.slice 24):=by kernel_rfl
def qgM:aY I 24=.ok 1:=by kernel_rfl
variable {C:Mem}{y:O}
def qdK{l:List aD}{q1 q2:Nat}(h:oX l)(hS:dJ C (dx l) y)(v1:VB C 3 q1 (.var 1) [.int .i64 (Z l)])(v2:VB C 149 q2 (.var 2) [y,.int .u64 (least l:Nat)])(i:Nat)(hi:i<5):
 ∃f c,(Dv q1 q2)[i]?=U (.func (.func f) ⟨[]⟩ ⟨c⟩)/\∃D,az I f c C (.bool aa) D/\Kp C D:=by
 obtain⟨s1,s2,s3,s4,s5,s6⟩:=Gq h;obtain⟨h0,-,hw,hl,-⟩:=h;obtain⟨d,hd1,hd2⟩:=b9 (by kernel_rfl);have lf:=bU hd1 hd2 iE v2.2;have hpos:=iG.2 s1;have hlp:=iG.2 h0;have:i=0\/i=1\/i=2\/i=3\/i=4:=by omega
 rcases this with rfl|rfl|rfl|rfl|rfl
 .obtain⟨v,D,⟨g,hg⟩,rfl,kD⟩:=qf7 (k:=least l) hS s1 s2 s3 (by omega) s5;refine⟨_,_,rfl,D,?_,kD⟩;refine bQ (g) 60 (aN Tryz.func158) (by kernel_rfl) λ M hM=>?_
  simp(disch:=omega)only[Tryz.f158,Aq,V,lf,hg]<;>rfl
 .have hn:(ws (dx l) ((dx l).length-1)).length=Z l:=by rw[s6,aR]
  obtain⟨v,D,⟨g,hg⟩,rfl,kD⟩:=qeV (k:=.int .u64 (least l:Nat)) hS ⟨rfl,rfl⟩ s2.1 s1 (by omega) (by omega);rw[hn]at hg;have l3:=(v1.kp kD).l0 u3 rfl;refine⟨_,_,rfl,D,?_,kD⟩;refine bQ (g) 60 (aN Tryz.func160) (by kernel_rfl) λ M hM=>?_
  simp(disch:=first|decide+kernel|omega|simp only[Wq,V])only[Tryz.f160,Aq,au,reduceIte,V,ak,lf,hg,l3,fm,fk,hlp,dX,dU]<;>rfl
 .obtain⟨v,D,⟨g,hg⟩,kD,x,rfl,-,-,hx⟩:=qfD (k:=.int .u64 (least l:Nat)) hS s2.1 s1 (by omega);have hle:x<=((255:Nat):Int):=by
   rcases hx with rfl|⟨w,hwm,rfl⟩
   .omega
   .rw[s6]at hwm;obtain⟨e,he,rfl⟩:=dA.1 hwm;have:=(hw e he).2.1;show(((e.word.drop 0).length:Nat):Int)<=_;rw[vZ];omega
  refine⟨_,_,rfl,D,?_,kD⟩;refine bQ (g) 60 (aN Tryz.func162) (by kernel_rfl) λ M hM=>?_
  simp(disch:=first|decide+kernel|omega)only[Tryz.f162,Aq,V,lf,hg,u6,hle]<;>rfl
 .have ly:=v2.l0 eK rfl;have hr:=aV (show(dx l).length-1<(dx l).length by omega);have hfin:((dx l)[(dx l).length-1]'(by omega)).fin=af:=by
   cases hf:((dx l)[(dx l).length-1]'(by omega)).fin with
   |false=>rfl
   |true=>
    have hm:([],((dx l)[(dx l).length-1]'(by omega)).out)∈ws (dx l) ((dx l).length-1):=by rw[rp s2.1 hr,hf];simp
    rw[s6]at hm;obtain⟨e,he,hee⟩:=dA.1 hm;have:=(hw e he).1;have hz:e.word.drop 0=[]:=cV Prod.fst hee;rw[vZ]at hz;rw[hz]at this;simp at this
  have lenC:=hS.len;have e1:bj .sub .i64 (((dx l).length:Nat):Int) ((1:Nat):Int)=.ok (.int .i64 ((dx l).length-1:Nat)):=gS (by omega) (cS (by omega));obtain⟨b,rows,r1,r2,r3⟩:=hS;obtain⟨x,e2,-⟩:=r3 _ _ hr;have ix:=ai.idx (tb:=I) (t:=146) (kd:=.i64) r1 eK iS (bg.1 e2).1;have lz:=ai.load (tb:=I) (j:=1) r1 u4 rfl e2 rfl (by omega);rw[hfin]at lz;refine⟨_,_,rfl,C,?_,Kp.refl _⟩;refine cG 60 (aN Tryz.func164) (by kernel_rfl) λ M=>?_
  simp(disch:=decide+kernel)only[Tryz.f164,Aq,V,jv,ly,lenC,e1,ix,jw,lz]<;>rfl
 .have hk:∀w∈ws (dx l) ((dx l).length-1),w.2+least l<=4294967296:=λ w hwm=>by
   rw[s6]at hwm;obtain⟨e,he,rfl⟩:=dA.1 hwm;have h1:=least_le he;have h2:=DS (hw e he).2.2;show val e-least l+least l<=_;omega
  obtain⟨v,D,⟨g,hg⟩,kD,n,rfl⟩:=qft hS s2 s1 (by omega) hk;refine⟨_,_,rfl,D,?_,kD⟩;refine bQ (g) 60 (aN Tryz.func165) (by kernel_rfl) λ M hM=>?_
  simp(disch:=omega)only[Tryz.f165,Aq,V,lf,hg,dX,dU]<;>rfl
def oI:=cg uA
def IE:aH:=sub oI [1,0,1,1,1,0,1,0,0]
def XX:uA.body=U (.seq (sub oI [0]) (.scope (.seq (sub oI [1,0,0]) (.seq (sub oI [1,0,1,0]) (.seq (sub oI [1,0,1,1,0]) (.seq (.seq (sub oI [1,0,1,1,1,0,0]) (.block 0 (.loop IE))) (.seq (sub oI [1,0,1,1,1,1,0]) (sub oI [1,0,1,1,1,1,1])))))))):=by kernel_rfl
variable {A:Mem}
def qgl{l:List aD}(h:oX l)(hS:dJ A (dx l) y):∃v A',az I 97 [iN (Z l),.agg ⟨[y,uN (least l)]⟩] A v A'/\v=.bool aa/\Kp A A':=by
 refine c_ (aN Tryz.func97) XX (by kernel_rfl) ?_;generalize hq:A.next=q
 have n1:(A.alloc (ae 3 [iN (Z l)])).next=q+1:=by rw[aA,hq]
 have n2:((A.alloc (ae 3 [iN (Z l)])).alloc (ae 149 [y,uN (least l)])).next=q+2:=by rw[aA,n1]
 have kB:=(Kp.alloc A (ae 3 [iN (Z l)])).trans (Kp.alloc _ (ae 149 [y,uN (least l)]));have v1:=(aK A 3 [iN (Z l)]).kp (Kp.alloc _ (ae 149 [y,uN (least l)]));have v2:=aK (A.alloc (ae 3 [iN (Z l)])) 149 [y,uN (least l)];rw[hq]at v1;rw[n1]at v2;apply W.q
 .intro M;simp(disch:=omega)only[oI,uA,Aq,V,aX,sd,hq,n1];rfl
 generalize (A.alloc (ae 3 [iN (Z l)])).alloc (ae 149 [y,uN (least l)])=B at*;have kC:=Kp.alloc B (ae 24 (Dv q (q+1)));have vC:=aK B 24 (Dv q (q+1));have b2:=WA (a:=q) (b:=q+1);apply W.scope;apply W.q
 .intro M;simp(disch:=omega)only[oI,uA,Aq,V,fb,b2,n2];rfl
 rw[n2]at vC;generalize B.alloc (ae 24 (Dv q (q+1)))=C at kC vC;have kAC:=kB.trans kC;have v1:=v1.kp kC;have v2:=v2.kp kC;have ll:cQ I .len [264] [.slice (U ⟨q+2,0,Y⟩) 5 10]=.ok (iN 5):=jY Uc;apply W.q
 .intro M;simp(disch:=omega)only[oI,uA,Aq,V];rfl
 apply W.seq;refine W.run 1 (λ m=>rfl) ?_;apply W.seq;apply W.q
 .intro M;simp(disch:=decide+kernel)only[oI,uA,Aq,V,ll];rfl
 apply W.block;refine W.up 5 (λ i t D=>Kp C D/\Sl t [(4,.bool aa),(14,.slice (U ⟨q+2,0,Y⟩) 5 10),(15,iN 5),(16,.int .i64 i)]) ?_ (a6 _) ⟨Kp.refl _,?_⟩
 .rintro i t D hi ⟨kD,g4,g14,g15,g16,-⟩;by_cases hlt:i<5
  .obtain⟨f,c,e1,E,⟨g,hg⟩,kE⟩:=qdK h (hS.kp (kAC.trans kD)) (v1.kp kD) (v2.kp kD) i hlt;have ix:=JI (b:=q+2) (o:=0) (cap:=10) (k:=.i64) Uc qgM hlt;rw[dO]at ix;have lf:ax I D.get 24 (pw (q+2) i)=.ok (.func (.func f) ⟨[]⟩ ⟨c⟩):=by
    obtain⟨d,hd1,hd2⟩:=b9 (by kernel_rfl);exact(vC.kp kD).ld e1 hd1 hd2
   apply W.ct (g) 20
   .intro M hM;simp(disch:=first|decide+kernel|omega)only[IE,oI,uA,Aq,V,g14,g15,g16,hlt,ix,lf,hg];rfl
   refine⟨hlt,_,_,rfl,kD.trans kE,?_⟩;simp only[Sq,V,ak,g14,g15]
  .have e:i=5:=by omega
   subst e;apply W.run 20
   .intro M;simp(disch:=decide+kernel)only[IE,oI,uA,Aq,V,g15,g16,gY];rfl
   apply W.run 40
   .intro M;simp(disch:=omega)only[oI,uA,Aq,V,g4];rfl
   exact⟨by simp,rfl,_,(by simp only[uA,Aq,V]<;>rfl),rfl,kAC.trans kD⟩
 .simp only[Sq,V,ak]
def Tb:aY I 162=.ok 1:=by kernel_rfl
variable {mn i:Nat}{ns:List (List UInt8)}{w:List UInt8}
def qi4(hi:ns[i]?=U w)(hnd:ns.Nodup)(h:A.get mn=U (.map (dh (ns.take i) 0) i)):
 mw I A 162 (.map (U mn)) (ag w) (iN (i+1))=.ok (A.set mn (.map (dh (ns.take (i+1)) 0) (i+1))):=by
 obtain⟨hl,rfl⟩:=bg.1 hi;have htl:(ns.take i).length=i:=by rw[db];omega
 have hnot:ns[i]∉ns.take i:=λ hm=>by
  obtain⟨j,hj,e⟩:=rA hm;rw[List.getElem_take]at e;exact ue.1 hnd j i (by omega) hl (by omega) e
 have:=Us (by rw[htl];exact h) hnot;rw[htl]at this;rw[this,eH hl,aU,htl];rfl
variable {m c:Nat}{es:List MapEntry}
def X7{ih:aH->St->R (Ex×St)}(h:A.get m=U (.map es c)):cH I ih (.fn 241 [.iface 162 (.map (U m))]) A=.ok (.val (.iface 162 (.map (U A.next))) (A.alloc (.map es c))):=by
 have e:cH I ih (.fn 241 [.iface 162 (.map (U m))]) A=((match A.get m with
  |some (.map es clock)=>R.ok (Value.iface 162 (.map (U A.next)),A.alloc (.map es clock))
  |_=>.no 237).bind λ(v,A')=>.ok (.val v A')):=by kernel_rfl
 rw[e,h];rfl
def qaA{v:O}:AB I 162 v=.ok (.iface 162 v):=by kernel_rfl
def Vq:Ci I (.iface 162 (.map (U m))) 162 af=.ok (.map (U m)):=by kernel_rfl
def Y1{g:Nat->Option Ob}{x:bA}:gP I g .eql 162 x (.const (.map Y)) (.map (U m)) (.map Y)=.ok (.bool af):=by kernel_rfl
def Sc(h:A.get m=U (.map es c)):az I 195 [.map (U m)] A (.map (U A.next)) (A.alloc (.map es c)):=by
 have k1:=λ ih=>X7 (ih:=ih) h
 refine cG 60 (aN Tryz.func195) (by kernel_rfl) λ M=>?_
 simp(disch:=decide+kernel)only[Tryz.f195,Aq,V,eW,Y1,NY,Df,qaA,k1,qcW,Vq]<;>rfl
def py:=cg pW
def Cx:aH:=sub py [1,0,1,0,0]
def M6:pW.body=U (.seq (sub py [0]) (.seq (.seq (sub py [1,0,0]) (.block 0 (.loop Cx))) (sub py [1,1]))):=by kernel_rfl
def VC{a:Nat}:ef I 165 [(0,.map (U a)),(1,.map (U b))]=.ok (.agg ⟨[.map (U a),.map (U b),.slice Y 0 0,iN 0]⟩):=by kernel_rfl
def qfn:∃v A',az I 87 [] A v A'/\v=pV (A.next+2)/\Fold A' (A.next+2) A.next (A.next+1) 0 []/\A'.next=A.next+3/\∀z,z<A.next->A'.get z=A.get z:=by
 have n1:=aA A (.map [] 0);have n2:((A.alloc (.map [] 0)).alloc (.map [] 0)).next=A.next+2:=by rw[aA,n1]
 have n3:(((A.alloc (.map [] 0)).alloc (.map [] 0)).alloc (ae 165 [.map (U A.next),.map (U (A.next+1)),.slice Y 0 0,iN 0])).next=A.next+3:=by rw[aA,n2]
 have v:=aK ((A.alloc (.map [] 0)).alloc (.map [] 0)) 165 [.map (U A.next),.map (U (A.next+1)),.slice Y 0 0,iN 0];rw[n2]at v;refine⟨_,((A.alloc (.map [] 0)).alloc (.map [] 0)).alloc (ae 165 [.map (U A.next),.map (U (A.next+1)),.slice Y 0 0,iN 0]),?_,rfl,⟨_,[],v,⟨by omega,?_⟩,⟨by omega,?_⟩,by omega,ai.nil _ _ _ _,λ _=>rfl,rfl,λ i w hw=>by simp at hw⟩,n3,λ z hz=>by rw[c9 (by omega),c9 (by omega),c9 (by omega)]⟩
 .simp only[pV];refine cG 60 (aN Tryz.func87) (by kernel_rfl) λ M=>?_
  simp only[Tryz.f87,Aq,V,Dg,tP,Cj,n1,n2,VC,aX]<;>rfl
 .rw[c9 (by omega),c9 (by omega)];exact cR _ _
 .rw[c9 (by omega),<-n1];exact cR _ _
def VI{s:List UInt8}:ef I 228 [(0,ag s),(2,ag s)]=.ok (.agg ⟨[ag s,.slice Y 0 0,ag s]⟩):=by kernel_rfl
def qfN{s:List UInt8}:az I 89 [ag s] A (pV A.next) (A.alloc (ae 228 [ag s,.slice Y 0 0,ag s])):=by
 simp only[pV];refine cG 60 (aN Tryz.func89) (by kernel_rfl) λ M=>?_
 simp(disch:=omega)only[Tryz.f89,Aq,V,VI,aX]<;>rfl
def Wa{a:Nat}{n:Int}:ef I 101 [(0,pV a),(1,.map (U b)),(2,.int .i64 n)]=.ok (.agg ⟨[pV a,.map (U b),.int .i64 n,iN 0,iN 0,.bool af]⟩):=by kernel_rfl
def c8:=cg wA
def M8:aH:=sub c8 [1,1,1,0,1,0,0]
def XZ:wA.body=U (.seq (sub c8 [0]) (.seq (sub c8 [1,0]) (.seq (sub c8 [1,1,0]) (.seq (.seq (sub c8 [1,1,1,0,0]) (.block 0 (.loop M8))) (.seq (sub c8 [1,1,1,1,0]) (.seq (sub c8 [1,1,1,1,1,0]) (sub c8 [1,1,1,1,1,1]))))))):=by kernel_rfl
def Ak(pf mf q:Nat):List O:=[pV pf,.map (U mf),.int .i64 q,iN 0,iN 0,.bool af]
variable {A':Mem}
def qbb{ih:aH->St->R (Ex×St)}{s:List UInt8}{v:O}(h:FF [ag s] A=.ok (v,A')):cH I ih (.fn 96 [ag s]) A=.ok (.val v A'):=
 qa (aN Tryz.func96) (by kernel_rfl) (c:=rP.body.getD .skip) (by kernel_rfl) (qe (by simp only[gi,mr,T.cq];rfl)) h
def vg(y:O)(l:List aD):List O:=[y,uN (least l),iN (Z l),iN ((crc.ek (iw l)).length)]
def oD(A:Mem)(l:List aD)(v:O):Prop:=∃p y,v=pV p/\VB A 153 p (.var 4) (vg y l)/\dJ A (dx l) y
def oD.kp{l:List aD}{v:O}(h:oD A l v)(k:Kp A A'):oD A' l v:=by
 obtain⟨p,y,h1,h2,h3⟩:=h;exact⟨p,y,h1,h2.kp k,h3.kp k⟩
variable {n:Nat}
def qcm{g:Nat->Option Ob}:gP I g .neq 183 (.tmp n) (.const .nilIface) .nilIface .nilIface=.ok (.bool af):=by kernel_rfl
def Vz{k:Int}:ef I 151 [(0,.agg ⟨[y,.int .u64 k]⟩)]=.ok (.agg ⟨[y,.int .u64 k]⟩):=by kernel_rfl
def VA{k n m:Int}:ef I 153 [(0,.agg ⟨[y,.int .u64 k]⟩),(1,.int .i64 n),(2,.int .i64 m)]=.ok (.agg ⟨[y,.int .u64 k,.int .i64 n,.int .i64 m]⟩):=by kernel_rfl
def qg2(l:List UInt8):(crc.ek l).length<=Z l+4:=by
 unfold crc.ek;simp[crc.four]
def KN{l:List aD}(h:oX l):∃v A',az I 49 [ag (crc.ek (iw l))] A v A'/\Kp A A'/\∃x,v=.tuple ⟨[x,iN 0]⟩/\oD A' l x:=by
 obtain⟨q1,-,-,q4,q5,q6,q7,q8,q9⟩:=id h;have hlen:=qg2 (iw l);obtain⟨v,B,h1,kB,y,rfl,hS⟩:=qdd (s:=crc.ek (iw l)) (by omega) (crc.qc6 _) (by omega) q6 (by omega) q7 q8 (by show(iw l).length<_;omega);have kp:=λ ih=>qbb (ih:=ih) h1
 have kC:=Kp.alloc B (ae 149 [y,uN (least l)]);have vC:=aK B 149 [y,uN (least l)];have sC:bX I (B.alloc (ae 149 [.slice Y 0 0,uN 0])) 149 (pw B.next 0) (.agg ⟨[y,uN (least l)]⟩)=.ok (B.alloc (ae 149 [y,uN (least l)])):=ep iE rfl rfl (by simp) (λ v hv=>by
  simp only[cC,en,or_false]at hv;rcases hv with rfl|rfl
  .exact hS.self.2
  .rfl)
 generalize hCe:B.alloc (ae 149 [y,uN (least l)])=C at kC vC sC;obtain⟨d,hd1,hd2⟩:=b9 (by kernel_rfl);have lC:∀D,Kp C D->ax I D.get 149 (pw B.next 0)=.ok (.agg ⟨[y,uN (least l)]⟩):=λ D hD=>bU hd1 hd2 iE (vC.kp hD).2
 have l1:=lC C (Kp.refl _);obtain⟨v,D,⟨g,hg⟩,rfl,kD⟩:=qgl h (hS.kp kC);have l2:=lC D kD;have kE:=Kp.alloc D (ae 153 (vg y l));have vE:=aK D 153 (vg y l);have hE:D.alloc (ae 153 [y,uN (least l),iN (Z l),iN ((crc.ek (iw l)).length)])=D.alloc (ae 153 (vg y l)):=rfl;have ll:=lK (l:=crc.ek (iw l)) u9;refine⟨_,D.alloc (ae 153 (vg y l)),?_,(kB.trans kC).trans (kD.trans kE),pV D.next,rfl,D.next,y,rfl,vE,hS.kp (kC.trans (kD.trans kE))⟩;simp only[pV];refine bQ (g) 60 (aN Tryz.func49) (by kernel_rfl) λ M hM=>?_
 simp(disch:=first|decide+kernel|omega|simp only[Wq,V])only[Tryz.f49,Aq,au,reduceIte,V,ak,kp,DY,aX,sC,dX,dU,w9,Dh,qcm,l1,hg,l2,Vz,ll,VA,hE,eO]<;>rfl
def Zq:bM I 153 (pw b 0) 1=.ok (pw b 2):=by kernel_rfl
def E_{t:bA}:gP I A.get .eql 58 t (.const (.pointer Y)) (pw b 0) (.pointer Y)=.ok (.bool af):=by kernel_rfl
def SD{l:List aD}{v:O}(h:oD A l v):az I 31 [v] A (iN (Z l)) A:=by
 obtain⟨p,y,rfl,h1,-⟩:=h;have l1:=h1.l2 u3 rfl;simp only[pV];refine cG 60 (aN Tryz.func31) (by kernel_rfl) λ M=>?_
 simp(disch:=decide+kernel)only[Tryz.f31,Aq,V,eW,E_,bW,bV,Zq,l1,eO]<;>rfl
variable {e:aD}
def qcw(h:e.weight<4294967296):Norm (bare e):=by
 unfold bare Norm;cases hg:e.gone
 .simp[hg,h]
 .simp
def YN{l:List aD}(h:oX l):sW (dx l) (least l)=l.map λ e=>(e.word,val e):=by
 unfold sW;rw[(Gq h).words,zO];refine List.map_congr_left λ e he=>?_
 have:=least_le he;simp only[Function.comp,D,vZ];congr 1;omega
def N6:bM I 151 (pw b 0) 0=.ok (pw b 0):=by kernel_rfl
def N7:bM I 153 (pw b 0) 0=.ok (pw b 0):=by kernel_rfl
def qgG:aY I 151=.ok 2:=by kernel_rfl
def R'{l:List aD}{v:O}(h:oD A l v)(hl:oX l)(hN:∀e∈l,Norm e):∃x A',az I 24 [v] A x A'/\dK A' l x/\Kp A A':=by
 obtain⟨g1,hg1⟩:=SD h;obtain⟨p,y,rfl,h1,h2⟩:=h;have so:=Gq hl;obtain⟨q0,-,qw,ql,-⟩:=id hl;have r1:ax I A.get 151 (pw p 0)=.ok (.agg ⟨[y,uN (least l)]⟩):=by
  obtain⟨d,hd1,hd2⟩:=b9 (t:=151) (p:=aa) (by kernel_rfl);obtain⟨c,e1,e2⟩:=h1.2;have hg:c.iX 2 0=U [y,uN (least l)]:=oP _ _ _ _ rfl λ j hj=>by
   have:j=0\/j=1:=by omega
   rcases this with rfl|rfl
   .exact e2 0 (by simp[vg])
   .exact e2 1 (by simp[vg])
  unfold ax;simp only[e1,hd1,hd2,aI,qgG,R.aT,hg]
 have kB:=Kp.alloc A (ae 151 [y,uN (least l)]);have vB:=aK A 151 [y,uN (least l)];generalize hB:A.alloc (ae 151 [y,uN (least l)])=B at kB vB;have l5:ax I B.get 149 (pw A.next 0)=.ok (.agg ⟨[y,uN (least l)]⟩):=by
  obtain⟨d,hd1,hd2⟩:=DL;exact bU hd1 hd2 iE vB.2
 obtain⟨x,C,⟨g2,hg2⟩,hC,kC⟩:=qfp (h2.kp kB) so.good.1 so.ne (by have:=so.len;omega) (YN hl) (λ e he=>⟨by have:=(qw e he).2.1;omega,hN e he⟩) q0 (by omega);have a82:az I 127 [.agg ⟨[y,uN (least l)]⟩,ag [],iN (Z l)] A x C:=by
  refine bQ (g2) 60 (aN Tryz.func127) (by kernel_rfl) λ M hM=>?_
  simp(disch:=omega)only[Tryz.f127,Aq,V,aX,hB,N6,l5,hg2,kx]<;>rfl
 obtain⟨g3,hg3⟩:=a82;have a39:az I 70 [pV p,ag [],iN (Z l)] A x C:=by
  simp only[pV];refine bQ (g3) 60 (aN Tryz.func70) (by kernel_rfl) λ M hM=>?_
  simp(disch:=first|decide+kernel|omega)only[Tryz.f70,Aq,V,eW,E_,bW,bV,N7,r1,hg3,kx]<;>rfl
 obtain⟨g4,hg4⟩:=a39;refine⟨x,C,?_,hC,kB.trans kC⟩;simp only[pV]at hg1 hg4⊢;refine bQ (g1+g4) 60 (aN Tryz.func24) (by kernel_rfl) λ M hM=>?_
 simp(disch:=first|decide+kernel|omega)only[Tryz.f24,Aq,V,hg1,hg4,kx]<;>rfl
def qhc:fieldsOf (I.aB 44)=[(af,9,0),(af,42,1),(af,4,2)]:=by kernel_rfl
def qco{g:Nat->Option Ob}{x y:bA}:gP I g .neq 44 x y (.agg ⟨aS e⟩) (.agg ⟨aS e⟩)=.ok (.bool af):=by
 have e1:wZ I 44 x y (.agg ⟨aS e⟩) (.agg ⟨aS e⟩)=aa:=by
  unfold wZ;have:I.P.eqGuardType I.P.depth 44=af:=by decide+kernel
  rw[this];rfl
 have q:jV I g 100 44 (.agg ⟨aS e⟩) (.agg ⟨aS e⟩)=.ok aa:=by
  rw[Y_ (by kernel_rfl) qhc (by kernel_rfl)];simp only[Av,ba,aS];rw[F_ u9 rfl rfl,F_ Bh rfl rfl,F_ u4 rfl rfl];simp only[R.aT,Y8 u9,Y7 Bh,Y6 u4];simp[R.aT]
 unfold gP;rw[e1,aI];simp only[];rw[q];rfl
def gL:=cg ym
def wP:aH:=sub gL [1,1,0,1,0,0]
def EI:ym.body=U (.seq (sub gL [0]) (.seq (sub gL [1,0]) (.seq (.seq (sub gL [1,1,0,0]) (.block 0 (.loop wP))) (.seq (sub gL [1,1,1,0]) (sub gL [1,1,1,1]))))):=by kernel_rfl
def Sk{l:List aD}{x:O}(h:dK A l x)(h2:dK A l y)(hl:Z l<1000000):∃v A',az I 10 [x,y] A v A'/\v=.bool aa/\A'=A:=by
 refine c_ (aN Tryz.func10) EI (by kernel_rfl) ?_;have n1:=h.len;have n2:=h2.len;apply W.q2
 .intro M _;simp(disch:=decide+kernel)only[gL,ym,Aq,V,n1,n2];rfl
 apply W.seq;apply W.q
 .intro M;simp(disch:=omega)only[gL,ym,Aq,V];rfl
 apply W.block;refine W.up (Z l) (λ i t D=>D=A/\Sl t [(0,x),(1,y),(5,.int .i64 i)]) ?_ (a6 _) ⟨rfl,?_⟩
 .rintro i t D hi ⟨rfl,g0,g1,g5,-⟩;by_cases hlt:i<Z l
  .have hli:=aV hlt;obtain⟨p,i1,i2,-⟩:=h.at hli;obtain⟨q,j1,j2,-⟩:=h2.at hli;apply W.run 20
   .intro M;simp(disch:=first|decide+kernel|omega|simp only[Wq,V])only[wP,gL,ym,Aq,au,reduceIte,V,ak,g0,g1,g5,n1,hlt,i1,i2,j1,j2,Kx,qco,Fq,bY []];rfl
   refine⟨hlt,_,_,rfl,rfl,?_⟩;simp only[Sq,V,ak,g0,g1]
  .apply W.run 20
   .intro M;simp(disch:=decide+kernel)only[wP,gL,ym,Aq,V,g0,g5,n1,hlt];rfl
   apply W.run 40
   .intro M;simp(disch:=omega)only[gL,ym,Aq,V];rfl
   exact⟨by simp,rfl,_,(by simp only[ym,Aq,V]<;>rfl),rfl,rfl⟩
 .simp only[Sq,V,ak]
def qH(A:Mem)(l:List aD)(v:O):Prop:=eZ A 44 3 (l.map aS) v
def jF(A:Mem)(L:List (List aD))(vs:List O):Prop:=Z vs=Z L/\∀(i:Nat) (l:List aD) (v:O),L[i]?=U l->vs[i]?=U v->qH A l v
abbrev iq (A:Mem) (e b:Nat) (vs:List O) (x:O):Prop:=ai A e 1 b (vs.map λ v=>[v]) x
variable {vs:List O}
def GV{e:Nat}{v x:O}(h:ai A e 1 b ((vs.map λ v=>[v])++[[v]]) x):iq A e b (vs++[v]) x:=by
 show ai A e 1 b ((vs++[v]).map λ v=>[v]) x;rw[fY];exact h
def BG(A:Mem)(L:List (List aD))(x:O):Prop:=∃b vs,iq A 40 b vs x/\jF A L vs
def vd:pI 34 40 1=aa:=by kernel_rfl
def zu:I.aB 34=U (.slice 40):=by kernel_rfl
variable {B:Mem}{L:List (List aD)}
def jF.same(h:jF A L vs)(k:Kp A B):jF B L vs:=⟨h.1,λ i l v h1 h2=>(h.2 i l v h1 h2).same k.1 k.2⟩
def jF.set{l:List aD}{v:O}(h:jF A L vs)(hv:qH A l v):jF A (L.set i l) (vs.set i v):=by
 refine⟨by rw[dI,dI,h.1],λ j l' v' h1 h2=>?_⟩;by_cases hj:i=j
 .subst hj;have h3:=(bg.1 h1).1;rw[dI]at h3;rw[Hn h3]at h1;rw[Hn (by rw[h.1];exact h3)]at h2;cases h1;cases h2;exact hv
 .rw[List.getElem?_set_ne hj]at h1 h2;exact h.2 j l' v' h1 h2
def qH.len{l:List aD}{v:O}(h:qH A l v):cQ I .len [40] [v]=.ok (iN (Z l)):=by
 have:=eZ.len h mB;rwa[aR]at this
def qH.head{D:Mem}{l:List aD}{v:O}(h:qH A (e::l) v)(k:Kp A D):∃p,dQ I 40 v (iN 0)=.ok (.pointer (U p))/\ax I D.get 44 (.pointer (U p))=.ok (.agg ⟨aS e⟩):=by
 obtain⟨b,o,h1,-,h2,-⟩:=eZ.at (eZ.same h k.1 k.2) mB jd (i:=0) rfl;obtain⟨d,hd1,hd2⟩:=b9 FB;exact⟨_,h1,h2 d hd1 hd2⟩
def qH.tail{l:List aD}{v:O}(h:qH A (e::l) v):∃v',eD I 40 v (U (iN 1)) Y Y=.ok v'/\qH A l v':=by
 obtain⟨v',h1,h2⟩:=eZ.cut (i:=1) (j:=Z l+1) h mB jd (λ m hm=>by rw[tw,aR];rfl) (by omega) (by rw[aR];exact aJ _);refine⟨v',h1,?_⟩;have e1:(((e::l).map aS).drop 1).take (Z l+1-1)=l.map aS:=by
  rw[eU,List.drop_succ_cons,vZ,zW,ug (by rw[aR];exact aJ _)]
 rw[e1]at h2;exact h2
def Gk:az I 72 [.agg ⟨aS e⟩] A (ag e.word) (A.alloc (ae 44 (aS e))):=by
 have l0:ax I (A.alloc (ae 44 (aS e))).get 9 (pw A.next 0)=.ok (ag e.word):=qbG rfl (by kernel_rfl);refine cG 60 (b_ Tryz.func72) (by kernel_rfl) λ M=>?_
 simp(disch:=omega)only[Tryz.f72,Aq,V,aX,ny,l0,I_]<;>rfl
def qfE{a b:List UInt8}:az I 129 [ag a,ag b] A (.bool (cJ a b)) A:=by
 have e:=P6 a b;refine cG 60 (b_ Tryz.func129) (by kernel_rfl) λ M=>?_
 simp(disch:=decide+kernel)only[Tryz.f129,Aq,V,e]<;>rfl
def qgW(e:aD):cP 100 (.agg ⟨aS e⟩) (.agg ⟨aS e⟩)=aa:=by
 obtain⟨w,n,g⟩:=e;have h1:cP 99 (ag w) (ag w)=aa:=by show nt w w=aa;rw[pj];simp
 have h2:cP 99 (.int .u32 n) (.int .u32 n)=aa:=by show(iA .u32 .u32&&ky n n)=aa;rw[FI];simp[iA]
 have h3:cP 99 (.bool g) (.bool g)=aa:=by cases g<;>rfl
 show(aL 3 3&&(cP 99 (ag w) (ag w)&&(cP 99 (.int .u32 n) (.int .u32 n)&&(cP 99 (.bool g) (.bool g)&&aa))))=aa;rw[h1,h2,h3];rfl
def qH.sv{l:List aD}{v:O}(h:qH A (e::l) v):cP 100 v v=aa:=by
 rcases h with⟨-,h⟩|⟨b,c,p,w,rfl,-⟩
 .cases h
 .exact AX _ _ _ _
def xW(L:List (List aD))(i:Nat)(z:Int):Prop:=(z=-1/\ph (L.take i) Y=Y)\/∃k e r,z=((k:Nat):Int)/\k<i/\L[k]?=U (e::r)/\ph (L.take i) Y=U e
def gg:=cg gv
def eN:aH:=sub gg [1,1,0,0]
def mP:aH:=sub eN [0,1,0,1,0,0]
def nu:aH:=sub eN [0,1,1,1,1,1,0,0]
def W9:gv.body=U (.seq (sub gg [0]) (.seq (sub gg [1,0]) (.block 0 (.loop eN)))):=by kernel_rfl
def W_:eN=(.block 1 (.seq (sub eN [0,0]) (.seq (.seq (sub eN [0,1,0,0]) (.block 2 (.loop mP))) (.seq (sub eN [0,1,1,0]) (.seq (sub eN [0,1,1,1,0]) (.seq (sub eN [0,1,1,1,1,0]) (.block 4 (.loop nu)))))))):=by kernel_rfl
def Xa:mP=(.seq (sub mP [0]) (.seq (sub mP [1,0]) (.seq (sub mP [1,1,0]) (sub mP [1,1,1])))):=by kernel_rfl
def Xb:nu=(.seq (sub nu [0]) (.seq (sub nu [1,0]) (.seq (sub nu [1,1,0]) (sub nu [1,1,1])))):=by kernel_rfl
abbrev lR:O:=.func (.func 72) ⟨[]⟩ ⟨[]⟩
def Lv:∃d,I.aB 128=U d/\cW d=af:=b9 (by kernel_rfl)
def P5:decide ((-1:Int)<((0:Nat):Int))=aa:=by decide
def left_at{D:Mem}{q:Nat}{lv v:O}(h:iq D 40 q vs lv)(hi:vs[i]?=U v):dQ I 34 lv (.int .i64 i)=.ok (pw q (i*1))/\ax I D.get 40 (pw q (i*1))=.ok v:=by
 have hl:=(bg.1 hi).1;have h2:=ai.load (j:=0) h mB rfl (by rw[da,hi];rfl) rfl (by omega);rw[dN]at h2;exact⟨zj vd h (by rw[aR];exact hl),h2⟩
variable {t:T O}
def qit{D:Mem}{p2 q:Nat}{x1 lv:O}{d:List Nat}{K:Ex->St->Prop}(hl:Z L<1000000)(hS:iq D 40 q vs lv)(hR:jF A L vs)(hA:Kp A D)(v2:VB D 128 p2 (.var 1) [lR])
 (ht:Sl t [(0,y),(1,x1),(2,pV p2),(4,lv),(5,.int .i64 (-1))])
 (hK:∀(t':T O) (D':Mem) (z:Int),Kp D D'->xW L (Z L) z->Sl t' [(0,y),(1,x1),(2,pV p2),(4,lv),(5,.int .i64 z)]->K .nrm ⟨t',95,d,D',Y⟩):
 W I (.seq (sub eN [0,1,0,0]) (.block 2 (.loop mP))) ⟨t,95,d,D,Y⟩ K:=by
 obtain⟨g0,g1,g2,g4,g5,-⟩:=ht;have hn:=tW vd hS;rw[aR,hR.1]at hn;simp only[pV]at g2 hK;obtain⟨d',hd1,hd2⟩:=Lv;apply W.q
 .intro M;simp(disch:=decide+kernel)only[eN,gg,gv,Aq,V,g4,hn];rfl
 apply W.block;refine W.up (Z L) (λ i t E=>Kp D E/\∃z,xW L i z/\Sl t [(0,y),(1,x1),(2,.pointer (U ⟨p2,0,Y⟩)),(4,lv),(5,.int .i64 z),(17,lv),(18,.int .i64 (Z L)),(19,.int .i64 i)]) ?_ (a6 _) ⟨Kp.refl _,-1,.inl ⟨rfl,rfl⟩,?_⟩
 .rintro i t E hi ⟨kE,z,hz,f0,f1,f2,f4,f5,f17,f18,f19,-⟩;rw[Xa];by_cases hlt:i<Z L
  .have hLi:=aV hlt;generalize L[i]=l at hLi;have hvi:i<Z vs:=by rw[hR.1];exact hlt
   have hVi:=aV hvi;generalize vs[i]=v at hVi;have hv:=hR.2 i l v hLi hVi;obtain⟨i1,i2⟩:=left_at (hS.same kE.1 (kE.2 q)) hVi;have hlen:=hv.len;have lo:ax I E.get 128 (.pointer (U ⟨p2,0,Y⟩))=.ok lR:=(v2.kp kE).ld rfl hd1 hd2;have htk:L.take (i+1)=L.take i++[l]:=by rw[zR,hLi];rfl
   have nxt:∀z',xW L (i+1) z'->True:=λ _ _=>trivial
   cases l with
   |nil=>
    have hz':xW L (i+1) z:=by
     rcases hz with⟨h1,h2⟩|⟨k,e,r,h1,h2,h3,h4⟩
     .exact .inl ⟨h1,by rw[htk,wI,h2];rfl⟩
     .exact .inr ⟨k,e,r,h1,by omega,h3,by rw[htk,wI,h4];rfl⟩
    apply W.q2
    .intro M _;simp(disch:=first|decide+kernel|omega)only[mP,eN,gg,gv,Aq,V,f18,f19,hlt];rfl
    apply W.run 40
    .intro M;simp(config:={maxSteps:=4000000})(disch:=first|decide+kernel|omega|simp only[Wq,V])only[mP,eN,gg,gv,Aq,au,reduceIte,V,ak,f17,f19,i1,i2,hlen,dL,Fq,bY [(12,11),(16,11),(18,11)]];rfl
    refine⟨hlt,_,_,rfl,kE,z,hz',?_⟩;simp only[Sq,V,ak,f0,f1,f2,f4,f5,f17,f18]
   |cons e r=>
    have hpos:0<(e::r).length:=by simp
    obtain⟨p,j1,j2⟩:=hv.head (hA.trans kE);rcases hz with⟨rfl,h2⟩|⟨k,b,r',rfl,h2,h3,h4⟩
    .have hz':xW L (i+1) ((i:Nat):Int):=.inr ⟨i,e,r,rfl,by omega,hLi,by rw[htk,wI,h2];rfl⟩;apply W.q2
     .intro M _;simp(disch:=first|decide+kernel|omega)only[mP,eN,gg,gv,Aq,V,f18,f19,hlt];rfl
     apply W.run 40
     .intro M;simp(config:={maxSteps:=4000000})(disch:=first|decide+kernel|omega|simp only[Wq,V])only[mP,eN,gg,gv,Aq,au,reduceIte,V,ak,f5,f17,f19,i1,i2,hlen,hpos,fm,fk,P5,Fq,bY [(12,11),(16,11),(18,11)]];rfl
     refine⟨hlt,_,_,rfl,kE,_,hz',?_⟩;simp only[Sq,V,ak,f0,f1,f2,f4,f5,f17,f18]
    .have hk:=(bg.1 h3).1;have hVk:=aV (show k<Z vs by rw[hR.1];exact hk);generalize vs[k]=vk at hVk;have hvk:=hR.2 k _ vk h3 hVk;obtain⟨g1',hg1⟩:=Gk (A:=E) (e:=e);have kF:=Kp.alloc E (ae 44 (aS e));generalize E.alloc (ae 44 (aS e))=F at hg1 kF;obtain⟨g2',hg2⟩:=Gk (A:=F) (e:=b);have kG:=Kp.alloc F (ae 44 (aS b));generalize F.alloc (ae 44 (aS b))=G at hg2 kG;obtain⟨g3',hg3⟩:=qfE (A:=G) (a:=e.word) (b:=b.word);obtain⟨m1,m2⟩:=left_at (hS.same (kE.trans kF).1 ((kE.trans kF).2 q)) hVk;obtain⟨pk,n1,n2⟩:=hvk.head (hA.trans (kE.trans kF));obtain⟨m1',m2'⟩:=left_at (hS.same kE.1 (kE.2 q)) hVk;obtain⟨pk',n1',n2'⟩:=hvk.head (hA.trans kE);cases n1.symm.trans n1';have sf:cP 100 lR lR=aa:=by kernel_rfl
     have se:=qgW b;have sv:=hvk.sv;have lo2:ax I F.get 128 (.pointer (U ⟨p2,0,Y⟩))=.ok lR:=(v2.kp (kE.trans kF)).ld rfl hd1 hd2;have kEG:=kE.trans (kF.trans kG);by_cases hb:cJ e.word b.word=aa
     .have hz':xW L (i+1) ((i:Nat):Int):=.inr ⟨i,e,r,rfl,by omega,hLi,by rw[htk,wI,h4];exact cV U (aC hb)⟩;rw[hb]at hg3;apply W.q2
      .intro M _;simp(disch:=first|decide+kernel|omega)only[mP,eN,gg,gv,Aq,V,f18,f19,hlt];rfl
      apply W.ct (g1'+g2'+g3') 40
      .intro M hM;simp(config:={maxSteps:=4000000})(disch:=first|decide+kernel|omega|simp only[Wq,V])only[mP,eN,gg,gv,Aq,au,reduceIte,V,ak,f2,f4,f5,f17,f19,i1,i2,hlen,hpos,fm,fk,lo,j1,j2,hg1,lo2,m1,m2,n1,n2,hg2,hg3,m2',n2',sf,se,sv,Fq,bY [(12,11),(16,11),(18,11)]];rfl
      refine⟨hlt,_,_,rfl,kEG,_,hz',?_⟩;simp only[Sq,V,ak,f0,f1,f2,f4,f5,f17,f18]
     .have hz':xW L (i+1) ((k:Nat):Int):=.inr ⟨k,b,r',rfl,by omega,h3,by rw[htk,wI,h4];exact cV U (aq hb)⟩;rw[show cJ e.word b.word=af by simpa using hb]at hg3;apply W.q2
      .intro M _;simp(disch:=first|decide+kernel|omega)only[mP,eN,gg,gv,Aq,V,f18,f19,hlt];rfl
      apply W.ct (g1'+g2'+g3') 40
      .intro M hM;simp(config:={maxSteps:=4000000})(disch:=first|decide+kernel|omega|simp only[Wq,V])only[mP,eN,gg,gv,Aq,au,reduceIte,V,ak,f2,f4,f5,f17,f19,i1,i2,hlen,hpos,fm,fk,lo,j1,j2,hg1,lo2,m1,m2,n1,n2,hg2,hg3,m2',n2',sf,se,sv,Fq,bY [(12,11),(16,11),(18,11)]];rfl
      refine⟨hlt,_,_,rfl,kEG,_,hz',?_⟩;simp only[Sq,V,ak,f0,f1,f2,f4,f5,f17,f18]
  .obtain rfl:i=Z L:=by omega
   apply W.q
   .intro M;simp(disch:=first|decide+kernel|omega)only[mP,eN,gg,gv,Aq,V,f18,f19,gY];rfl
   apply W.seq;apply W.run 20
   .intro M;simp(disch:=first|decide+kernel|omega)only[mP,eN,gg,gv,Aq,V];rfl
   exact hK _ _ z kE hz (by simp only[Sq,V,ak,f0,f1,f2,f4,f5])
 .simp only[Sq,V,ak,g0,g1,g2,g4,g5]
end Go.Proofs.YtdobfpkceacneaaGreatDoor.sto
end
