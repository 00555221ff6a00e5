/- The abstract machine, the walk of the law and its plain laws, made small by a program; part 7: no conditions but those in each theorem. -/
import Derived.Test.YtdobfpkceacneaaGreatDoorQ06
set_option maxHeartbeats 16000000
set_option maxRecDepth 100000
set_option linter.unusedSimpArgs false
set_option linter.unusedVariables false
set_option linter.defProp false
noncomputable section
open Bool renaming and_eq_true→dz,and_true→sY,false_and→zB,or_eq_true→D7,false→af,true→aa
open Classical renaming byCases→vW,byContradiction→xT
open Go renaming Code→aH,Operand→bA,TypeId→aj,Value→O
open List renaming all_eq_true→ov,append_assoc→jD,append_nil→kR,cons_append→ij,drop_eq_getElem_cons→nb,drop_length→xZ,filter_append→Hj,filter_cons→kS,filter_eq_self→Bw,findIdx?_eq_none_iff→Hk,findIdx?_eq_some_iff_getElem→Hl,flatten_append→Bx,flatten_cons→s9,flatten_nil→Hm,foldl_append→zM,getElem?_append_left→eG,getElem?_append_right→ez,getElem?_cons_succ→dU,getElem?_cons_zero→dX,getElem?_drop→rz,getElem?_eq_getElem→aV,getElem?_eq_none→lW,getElem?_eq_some_iff→bg,getElem?_map→da,getElem?_set→pR,getElem?_set_self→Hn,getElem?_take→oz,getElem_mem→ik,getElem_of_mem→rA,length→Z,length_append→aU,length_cons→cd,length_drop→qx,length_eq_zero_iff→eQ,length_filter_le→By,length_map→aR,length_nil→dL,length_pos_iff→iG,length_replicate→Bz,length_set→dI,length_singleton→fg,length_take→db,map_append→fY,map_cons→eU,map_map→zO,map_set→BA,mem_append→mI,mem_cons→cC,mem_cons_of_mem→cU,mem_cons_self→cM,mem_flatten→Hq,mem_map→dA,mem_of_getElem?→fh,mem_of_mem_take→wa,mem_or_eq_of_mem_set→zP,mem_singleton→ee,nil_append→lX,nodup_append→we,nodup_cons→zQ,nodup_nil→qz,not_mem_nil→en,pairwise_cons→wg,pairwise_iff_getElem→ue,reverse_cons→Ec,set_append_right→BC,sum_append→Ed,takeWhile_cons→BE,take_add_one→zR,take_append_drop→s_,take_length→dY,take_of_length_le→ug,take_succ_eq_append_getElem→eH,take_take→zS
open Nat renaming add_assoc→rG,add_mul→oZ,add_zero→dN,beq→aL,beq_refl→uj,ble→au,ble_eq→pT,ble_eq_true_of_le→mJ,blt→aM,blt_eq→bT,eq_of_beq_eq_true→dZ,le_of_ble_eq_true→fQ,le_refl→aJ,le_trans→dp,lt_irrefl→gY,lt_of_lt_of_le→dc,lt_or_ge→d_,max_eq_left→Ht,max_eq_right→yh,min_eq_left→oA,min_eq_right→zY,min_le_right→Hu,mul_le_mul_right→BJ,mul_mod_right→Ej,one_mul→ta,reduceAdd→ak,reduceEqDiff→V,sub_add_cancel→wh,sub_self→gZ,sub_zero→iV,zero_add→dO,zero_le→a6,zero_mul→oB
open Option renaming map_some→fZ,none→Y,some→U
open Option.some renaming inj→je,injEq→eM
open Go.Proofs.Tryz renaming f111→rK,f114→yp,f128→gv,f139→BQ,f143→pW,f225→yC,f23→yD,f27→wq,f40→wz,f41→wA,f58→rN,f59→uz,f73→yH
open UInt8 renaming lt_iff_toNat_lt→BY,toNat_inj→yI
namespace Go.Proofs.YtdobfpkceacneaaGreatDoor.sto
open Go.Am Go.Mdl Go.Sto Go.Shelf
variable {tb:aO}
def builtin_copy(A:Mem)(st xt:aj)(s x:O):tD tb A .copy [st,xt] [s,x]=yR tb A st s x:=rfl
variable {i:Nat}
def qhb{α:Type}{l:List α}{x:α}(h:l[i]?=U x):l.set i x=l:=by
 obtain⟨hi,rfl⟩:=bg.1 h;exact List.set_getElem_self hi
abbrev FT (q n:Nat):O:=.slice (U ⟨q,0,Y⟩) n (2*n)
variable {B:Mem}{b:Nat}{vs:List O}
def qbv{x:O}(h:iq B 40 b vs x)(hv:∀v∈vs,bI v=aa)(hl:Z vs<1000000):
 ∃ob C,qY I 34 (.int .i64 (Z vs:Nat)) (.int .i64 (Z vs:Nat))=.ok (ob,.dy (Z vs) (2*Z vs))/\yR I (B.alloc ob) 34 (FT B.next (Z vs)) x=.ok (.int .i64 (Z vs:Nat),C)/\iq C 40 B.next vs (FT B.next (Z vs))/\Kp B C:=by
 have h1:((I.ty.get 40).map λ i=>i.bytes)=U 24:=by kernel_rfl
 have z3:eR I 40=.ok (1,[.slice Y 0 0]):=by kernel_rfl
 have e:iC (.int .i64 (Z vs:Nat))=.ok (Z vs):=rfl;have hk:Kp B (B.alloc (ae 40 (iP [.slice Y 0 0] (Z vs)))):=Kp.alloc _ _;have hV:=aK B 40 (iP [.slice Y 0 0] (Z vs));have hn:=aA B (ae 40 (iP [.slice Y 0 0] (Z vs)));have hrl:(iP [.slice Y 0 0] (Z vs):List O).length=Z vs:=by
  rw[Du];simp
 obtain⟨f1,f2,f3⟩:=ai.first (h.same hk.1 (hk.2 b))
 rw[aR]at f1 f2;have hfl:(vs.map λ v=>[v]).flatten=vs:=by rw[<-List.flatMap_def];simp
 rw[hfl]at f2;generalize hB:B.alloc (ae 40 (iP [.slice Y 0 0] (Z vs)))=B' at hk hV hn f2;obtain⟨C,s1,s2,s3,s4⟩:∃C,kQ B' ⟨B.next,0,Y⟩ vs=.ok C/\C.next=B'.next/\(∀z,z≠B.next->C.get z=B'.get z)/\de C 40 B.next (.var (Z vs)) vs:=by
  by_cases h0:vs=[]
  .subst h0;exact⟨B',rfl,rfl,λ _ _=>rfl,by have:=hV.2;rwa[eQ.1 hrl]at this⟩
  .obtain⟨C,q1,q2,q3,q4⟩:=hV.2.put (o:=0) hv (by omega) h0;refine⟨C,q1,q2,q3,?_⟩;rw[hrl]at q4;exact q4 vs rfl λ j hj=>by rw[aC ⟨a6 _,by omega⟩];rfl
 refine⟨ae 40 (iP [.slice Y 0 0] (Z vs)),C,?_,?_,?_,⟨by have:=hk.1;omega,λ z hz=>by rw[s3 z (by omega),hk.2 z hz]⟩⟩
 .cases hq:I.ty.get 40 with
  |none=>rw[hq]at h1;cases h1
  |some i=>
   rw[hq]at h1;have h2:i.bytes=24:=by simpa using h1
   have hb:(au (Z vs) (Z vs)&&au (Z vs) 1048576&&au i.bytes 1048576)=aa:=by
    rw[h2];simp;omega
   unfold qY;simp only[zu,e,R.aT,z3,hq,hb,aI]
 .rw[hB];unfold yR;simp only[zu,zf,R.aT,f1,show au (Z vs) (Z vs)=aa by simp,aI,f2,s1];rfl
 .refine .inr ⟨_,_,by rw[aR],by have:=hV.1;omega,by rw[hfl];exact s4,λ l hl=>by obtain⟨_,-,rfl⟩:=dA.1 hl;rfl,.inl (by rw[aR])⟩
variable {A:Mem}{y:O}{w:List UInt8}{L:List (List aD)}{t:T O}
def qis{D:Mem}{p2 q:Nat}{x1:O}{lv:O}{d:List Nat}{K:Ex->St->Prop}(hl:Z L<1000000)(hS:iq D 40 q vs lv)(hR:jF A L vs)(hA:Kp A D)(hq:A.next<=q)(hqD:q<D.next)(hp:p2≠q)(v2:VB D 128 p2 (.var 1) [lR])
 (ht:Sl t [(0,y),(1,x1),(2,pV p2),(4,lv),(8,ag w)])
 (hK:∀(t':T O) (D':Mem) (vs':List O),D.next<=D'.next->(∀z,z<D.next->z≠q->D'.get z=D.get z)->iq D' 40 q vs' lv->jF A (L.map (jg w)) vs'->Sl t' [(0,y),(1,x1),(2,pV p2),(4,lv)]->K .nrm ⟨t',95,d,D',Y⟩):
 W I (.seq (sub eN [0,1,1,1,1,0]) (.block 4 (.loop nu))) ⟨t,95,d,D,Y⟩ K:=by
 obtain⟨g0,g1,g2,g4,g8,-⟩:=ht;have hn:=tW vd hS;rw[aR,hR.1]at hn;simp only[pV]at g2 hK;obtain⟨d',hd1,hd2⟩:=Lv;apply W.q
 .intro M;simp(disch:=decide+kernel)only[eN,gg,gv,Aq,V,g4,hn];rfl
 apply W.block;refine W.up (Z L) (λ i t E=>(D.next<=E.next/\∀z,z<D.next->z≠q->E.get z=D.get z)/\(∃vs',iq E 40 q vs' lv/\jF A ((L.take i).map (jg w)++L.drop i) vs')/\Sl t [(0,y),(1,x1),(2,.pointer (U ⟨p2,0,Y⟩)),(4,lv),(8,ag w),(70,lv),(71,.int .i64 (Z L)),(72,.int .i64 i)]) ?_ (a6 _) ⟨⟨aJ _,λ _ _ _=>rfl⟩,⟨vs,hS,hR⟩,?_⟩
 .rintro i t E hi ⟨kE,⟨vs',hS',hR'⟩,f0,f1,f2,f4,f8,f70,f71,f72,-⟩;rw[Xb];by_cases hlt:i<Z L
  .obtain⟨l,hLi,e1⟩:∃l,L[i]?=U l/\L.drop i=l::L.drop (i+1):=⟨_,aV hlt,nb hlt⟩;have htk:L.take (i+1)=L.take i++[l]:=by rw[zR,hLi];rfl
   have hml:((L.take i).map (jg w)).length=i:=by rw[aR,db];omega
   have hLi':((L.take i).map (jg w)++L.drop i)[i]?=U l:=by rw[ez (by omega),hml,gZ,e1];rfl
   have eS:(L.take (i+1)).map (jg w)++L.drop (i+1)=((L.take i).map (jg w)++L.drop i).set i (jg w l):=by
    rw[BC _ _ (by omega),hml,gZ,e1,List.set_cons_zero,htk,fY,jD];rfl
   have hvl:=hR'.1;have hil:i<((L.take i).map (jg w)++L.drop i).length:=(bg.1 hLi').1;have hVi:=aV (show i<Z vs' by omega);generalize vs'[i]=v at hVi;have hv:=hR'.2 i l v hLi' hVi;obtain⟨i1,i2⟩:=left_at hS' hVi;have hlen:=hv.len;have lo:ax I E.get 128 (.pointer (U ⟨p2,0,Y⟩))=.ok lR:=c7 hd1 hd2 (v2.2.same (kE.2 _ v2.1 hp)) rfl;have kAE:Kp A E:=⟨by have:=hA.1;omega,λ z hz=>by rw[kE.2 z (by have:=hA.1;omega) (by omega),hA.2 z hz]⟩;have stay:jg w l=l->jF A ((L.take (i+1)).map (jg w)++L.drop (i+1)) vs':=λ h=>by
    rw[eS,h,qhb hLi'];exact hR'
   cases l with
   |nil=>
    apply W.q2
    .intro M _;simp(disch:=first|decide+kernel|omega)only[nu,eN,gg,gv,Aq,V,f71,f72,hlt];rfl
    apply W.run 40
    .intro M;simp(config:={maxSteps:=4000000})(disch:=first|decide+kernel|omega|simp only[Wq,V])only[nu,eN,gg,gv,Aq,au,reduceIte,V,ak,f70,f72,i1,i2,hlen,dL,Fq,bY []];rfl
    refine⟨hlt,_,_,rfl,kE,⟨vs',hS',stay rfl⟩,?_⟩;simp only[Sq,V,ak,f0,f1,f2,f4,f8,f70,f71]
   |cons e r=>
    have hpos:0<(e::r).length:=by simp
    obtain⟨p,j1,j2⟩:=hv.head kAE;obtain⟨g1',hg1⟩:=Gk (A:=E) (e:=e);have kF:=Kp.alloc E (ae 44 (aS e));have nF:=aA E (ae 44 (aS e));generalize E.alloc (ae 44 (aS e))=F at hg1 kF nF;have hSF:=hS'.same kF.1 (kF.2 q);by_cases hw:e.word=w
    .obtain⟨v',c1,c2⟩:=hv.tail;obtain⟨G,m1,m2,m3,m4⟩:=ai.field (j:=0) hSF zf (by rw[da,hVi];rfl) (by omega) c2.self.1 c2.self.2;rw[dN]at m1;have em:(vs'.map λ v=>[v]).set i ([v].set 0 v')=(vs'.set i v').map λ v=>[v]:=by rw[BA];rfl
     rw[em]at m2;subst hw;obtain⟨n1,-⟩:=left_at hSF hVi;apply W.q2
     .intro M _;simp(disch:=first|decide+kernel|omega)only[nu,eN,gg,gv,Aq,V,f71,f72,hlt];rfl
     apply W.ct (g1') 40
     .intro M hM;simp(config:={maxSteps:=4000000})(disch:=first|decide+kernel|omega|simp only[Wq,V])only[nu,eN,gg,gv,Aq,au,reduceIte,V,ak,f2,f4,f8,f70,f72,i1,i2,hlen,hpos,fm,fk,lo,j1,j2,hg1,c1,n1,m1,Fq,bY []];rfl
     refine⟨hlt,_,_,rfl,⟨by omega,λ z hz hzq=>by rw[m4 z hzq,kF.2 z (by omega),kE.2 z hz hzq]⟩,⟨_,m2,?_⟩,?_⟩
     .rw[eS,show jg e.word (e::r)=r from aC rfl];exact hR'.set c2
     .simp only[Sq,V,ak,f0,f1,f2,f4,f8,f70,f71]
    .apply W.seq;apply W.run 20
     .intro M;simp(disch:=first|decide+kernel|omega)only[nu,eN,gg,gv,Aq,V,f71,f72,hlt];rfl
     apply W.ie (g1')
     .intro M hM _;simp(config:={maxSteps:=4000000})(disch:=first|decide+kernel|omega|simp only[Wq,V])only[nu,eN,gg,gv,Aq,V,au,reduceIte,ak,f2,f4,f8,f70,f72,i1,i2,hlen,hpos,fm,fk,lo,j1,j2,hg1,hw,Fq,bY []];rfl
     apply W.run 20
     .intro M;simp(disch:=first|decide+kernel|omega)only[nu,eN,gg,gv,Aq,V,f72];rfl
     refine⟨hlt,_,_,rfl,⟨by omega,λ z hz hzq=>by rw[kF.2 z (by omega),kE.2 z hz hzq]⟩,⟨vs',hSF,stay (aq hw)⟩,?_⟩;simp only[Sq,V,ak,f0,f1,f2,f4,f8,f70,f71]
  .obtain rfl:i=Z L:=by omega
   rw[dY,xZ,kR]at hR';apply W.q
   .intro M;simp(disch:=first|decide+kernel|omega)only[nu,eN,gg,gv,Aq,V,f71,f72,gY];rfl
   apply W.seq;apply W.run 20
   .intro M;simp(disch:=first|decide+kernel|omega)only[nu,eN,gg,gv,Aq,V];rfl
   exact hK _ _ vs' kE.1 kE.2 hS' hR' (by simp only[Sq,V,ak,f0,f1,f2,f4])
 .simp only[Sq,V,ak,g0,g1,g2,g4,g8]
def LV(X:List Nat)(lp:Nat)(es:List aD)(Q:Nat->Mem->Nat->Prop):Prop:=∀(j:Nat) (e:aD) (D:Mem) (r:Nat),es[j]?=U e->Q j D r->
 ∃E r',(∃g,∀M,g<=M->cH I (exec I M) (.round lp [.agg ⟨aS e⟩]) D=.ok (.val (.bool aa) E))/\Q (j+1) E r'/\dS X D r E r'
variable {X:List Nat}
def qgs{J:Mem}{x:O}{lp p1 p2 r0:Nat}{Q:Nat->Mem->Nat->Prop}(hx:BG A L x)(hl:Z L<1000000)(hJ:Kp A J)(v1:VB J 34 p1 (.var 1) [x])(v2:VB J 128 p2 (.var 1) [lR])
 (hE:LV X lp (eV (total L) L) Q)(hQ:∀j D E r,Q j D r->D.next<=E.next->(∀z,(z<J.next\/z=r)->E.get z=D.get z)->Q j E r)(hX:∀z,(z∈X\/z=r0)->A.next<=z/\z<J.next/\z≠p2)(hr:∀j D r,Q j D r->r<D.next)(hI:Q 0 J r0):
 ∃v E,az I 128 [.func (.yield lp) ⟨[]⟩ ⟨[]⟩,pV p1,pV p2] J v E/\∃r,Q (eV (total L) L).length E r/\dS X J r0 E r:=by
 obtain⟨b,vs,hx,hR⟩:=hx;refine c_ (aN Tryz.func128) W9 (by kernel_rfl) ?_;have l1:=v1.l0 zu rfl;have hlen:=tW vd (hx.same hJ.1 (hJ.2 b));rw[aR]at hlen;obtain⟨ob,C,h1,h2,h3,kC⟩:=qbv (hx.same hJ.1 (hJ.2 b)) (λ v hv=>by
  obtain⟨i,hi,rfl⟩:=rA hv;have hi':i<Z L:=by rw[<-hR.1];exact hi
  exact(hR.2 i L[i] vs[i] (aV hi') (aV hi)).self.2) (by rw[hR.1];exact hl)
 have l1':ax I (J.alloc ob).get 34 (.pointer (U ⟨p1,0,Y⟩))=.ok x:=(v1.kp (Kp.alloc J ob)).ld rfl zu rfl;have hJA:=hJ.1;have hq:J.next<C.next:=by
  rcases h3 with⟨h3,-⟩|⟨_,_,-,h3,-⟩
  .cases h3
  .exact h3
 simp only[pV];apply W.q2
 .intro M _;simp(disch:=decide+kernel)only[gg,gv,Aq,V,l1,hlen,h1,uB,l1',builtin_copy,h2];rfl
 apply W.block;generalize hN:eV (total L) L=es at*;have vsL:=hR.1;refine W.up (Z es) (λ j t D=>∃r L' vs',Q j D r/\dS X J r0 D r/\r≠J.next/\J.next<D.next/\(iq D 40 J.next vs' (FT J.next (Z vs))/\jF A L' vs')/\(es.drop j=eV (total L-j) L'/\total L'<=total L-j)/\Sl t [(0,.func (.yield lp) ⟨[]⟩ ⟨[]⟩),(1,pV p1),(2,pV p2),(4,FT J.next (Z vs))]) ?_ (a6 _) ⟨r0,L,vs,hQ _ _ _ _ hI kC.1 (λ z hz=>kC.2 z (hz.elim id λ e=>e▸(hX r0 (.inr rfl)).2.1)),dS.kp kC,by have:=(hX r0 (.inr rfl)).2.1;omega,hq,⟨h3,hR⟩,⟨hN.symm,aJ _⟩,?_⟩
 .rintro j t D hj ⟨r,L',vs',hQD,hF,hrq,hqD,⟨hS,hR'⟩,⟨hm,hT⟩,f0,f1,f2,f4,-⟩;have hrD:=hr _ _ _ hQD;have hL':Z L'<1000000:=by
   have:Z vs'=Z vs:=by
    rcases hS with⟨h,-⟩|⟨_,_,h,-⟩
    .cases h
    .injection h with _ h;rw[aR]at h;exact h.symm
   have:=hR'.1;omega
  have fX:∀(D:Mem) (r:Nat),dS X J r0 D r->Kp A D/\VB D 128 p2 (.var 1) [lR]:=λ D r hF=>⟨⟨by have:=hF.1;omega,λ z hz=>by
   rw[hF.2.2 z (by omega) (λ h=>by have:=(hX z (.inl h)).1;omega) (λ h=>by have:=(hX z (.inr h)).1;omega),hJ.2 z hz]⟩,
   ⟨by have:=hF.1;have:=v2.1;omega,v2.2.same (hF.2.2 p2 v2.1 (λ h=>(hX p2 (.inl h)).2.2 rfl) λ h=>(hX r0 (.inr rfl)).2.2 h.symm)⟩⟩
  obtain⟨kAD,v2D⟩:=fX D r hF;have hJD:=hF.1;rw[W_];apply W.block;apply W.q
  .intro M;simp(disch:=first|decide+kernel|omega|simp only[Wq,V])only[eN,gg,gv,Aq,au,reduceIte,V,ak,I8];rfl
  apply W.seq;refine qit hL' hS hR' kAD v2D ⟨by simp only[T.cq,V,bO];exact f0,by simp only[T.cq,V,bO];exact f1,by simp only[T.cq,V,bO];exact f2,by simp only[T.cq,V,bO];exact f4,by simp only[T.cq,V,bR],trivial⟩ λ t2 E z kE hz ht2=>?_
  obtain⟨a0,a1,a2,a4,a5,-⟩:=ht2;simp only[pV]at a2;have hQE:=hQ _ _ _ _ hQD kE.1 λ z hz=>kE.2 z (by rcases hz with h|rfl<;>omega)
  have hFE:=hF.trans (dS.kp kE);have hEn:=kE.1;apply W.seq;rcases hz with⟨rfl,hb⟩|⟨k,e,l,rfl,hk,hLk,hb⟩
  .rw[dY]at hb;have hnil:es.drop j=[]:=by
    rw[hm];cases total L-j with
    |zero=>rfl
    |succ f=>unfold eV;rw[hb]
   have hje:j=Z es:=by
    have:=cV Z hnil;rw[qx]at this;simp at this;omega
   apply W.run 20
   .intro M;simp(disch:=first|decide+kernel|omega|simp only[Wq,V])only[eN,gg,gv,Aq,au,reduceIte,V,ak,a5,P5];rfl
   refine⟨by simp,rfl,_,(by simp only[gv,Aq,V]<;>rfl),r,hje▸hQE,hFE⟩
  .rw[dY]at hb;have htl:=T' (fh hLk);obtain⟨f,hf⟩:∃f,total L-j=f+1:=⟨total L-j-1,by omega⟩;have hme:es.drop j=e::eV f (L'.map (jg e.word)):=by
    rw[hm,hf,qb8 hb]
   have hje:es[j]?=U e:=by
    have:=cV (λ l=>l[0]?) hme;simp only[rz,dN]at this;rw[this];rfl
   have hjl:=(bg.1 hje).1;have hmd:es.drop (j+1)=eV f (L'.map (jg e.word)):=by
    have:=cV List.tail hme;rw[List.tail_drop]at this;exact this
   obtain⟨F,r',⟨gy,hgy⟩,hQF,hFF⟩:=hE j e E r hje hQE;have hFJ:=hFE.trans hFF;obtain⟨kAE,-⟩:=fX E r hFE;obtain⟨kAF,v2F⟩:=fX F r' hFJ;have hSE:=hS.same kE.1 (kE.2 _);have hqX:J.next∉X:=λ h=>by have:=(hX _ (.inl h)).2.1;omega
   have hFn:=hFF.1;have hSF:=hSE.same hFn λ _=>hFF.2.2 _ (by omega) hqX λ h=>hrq h.symm
   have hrq':r'≠J.next:=by
    have:=hFF.2.1;omega
   obtain⟨vk,hVk⟩:∃vk,vs'[k]?=U vk:=⟨_,aV (show k<Z vs' by rw[hR'.1];exact hk)⟩;have hvk:=hR'.2 k _ vk hLk hVk;obtain⟨m1,m2⟩:=left_at hSE hVk;obtain⟨m1',m2'⟩:=left_at hSF hVk;obtain⟨pk,n1,n2⟩:=hvk.head kAE;obtain⟨pk',n1',n2'⟩:=hvk.head kAF;obtain⟨go,hgo⟩:=Gk;have kG:=Kp.alloc F (ae 44 (aS e));have nG:=aA F (ae 44 (aS e));generalize F.alloc (ae 44 (aS e))=G at hgo kG nG;obtain⟨d',hd1,hd2⟩:=Lv;have lo:ax I F.get 128 (.pointer (U ⟨p2,0,Y⟩))=.ok lR:=v2F.ld rfl hd1 hd2;apply W.ct (gy) 20
   .intro M hM;simp(disch:=first|decide+kernel|omega|simp only[Wq,V])only[eN,gg,gv,Aq,au,reduceIte,V,ak,a0,a4,a5,m1,m2,n1,n2,hgy];rfl
   apply W.qG (go)
   .intro M hM;simp(disch:=first|decide+kernel|omega|simp only[Wq,V])only[eN,gg,gv,Aq,au,reduceIte,V,ak,a2,a4,a5,lo,m1',m2',n1',n2',hgo,Fq,bY []];rfl
   refine qis hL' (hSF.same kG.1 (kG.2 _)) hR' (kAF.trans kG) (by omega) (by omega) (λ h=>by have:=v2.1;omega) (v2F.kp kG) ⟨by simp only[T.cq,V,bO];exact a0,by simp only[T.cq,V,bO];exact a1,by simp only[T.cq,V,bO];exact a2,by simp only[T.cq,V,bO];exact a4,by simp only[T.cq,V,bR];rfl,trivial⟩ λ t3 H vs2 nH fH hSH hRH ht3=>?_
   refine⟨hjl,_,_,rfl,r',_,vs2,hQ _ _ _ _ hQF (by omega) (λ z hz=>?_),⟨by have:=hFJ.1;omega,hFJ.2.1,λ z hz hx hr=>?_⟩,hrq',by omega,⟨hSH,hRH⟩,⟨?_,by omega⟩,ht3⟩
   .have:=hr _ _ _ hQF;rw[fH z (by have:=hFJ.1;omega) (by omega),kG.2 z (by have:=hFJ.1;omega)]
   .rw[fH z (by have:=hFJ.1;omega) (by omega),kG.2 z (by have:=hFJ.1;omega),hFJ.2.2 z hz hx hr]
   .rw[hmd,show total L-(j+1)=f by omega]
 .simp only[Sq,V,ak,pV]
end Go.Proofs.YtdobfpkceacneaaGreatDoor.sto
namespace Go.Am
open Go.Am Go.Mdl Go.Sto Go.Shelf
section
variable {tb:aO}{e st:aj}{n:Nat}
def gK(A:Mem)(e:aj)(n b:Nat)(P:List (List O))(x:O):Prop:=∃(Q:List (List O)) (c:Nat) (k:Kd),x=.slice (U ⟨b,0,Y⟩) (Z P) c/\b<A.next/\de A e b k Q.flatten/\(∀l∈Q,Z l=n)/\bH c=Z Q/\Z P<=Z Q/\Q.take (Z P)=P/\(dH c=aa\/(dH c=af/\gM c=n/\k=.row))
variable {A A':Mem}{b:Nat}{P:List (List O)}
def gK.same{x:O}(h:gK A e n b P x)(hn:A.next<=A'.next)(hg:A'.get b=A.get b):gK A' e n b P x:=by
 obtain⟨Q,c,k,h1,h2,h3,h4⟩:=h;exact⟨Q,c,k,h1,dc h2 hn,h3.same hg,h4⟩
def gK.len{x:O}(h:gK A e n b P x)(hu:tb.aB st=U (.slice e)):cQ tb .len [st] [x]=.ok (iN (Z P)):=by
 obtain⟨Q,c,k,rfl,-⟩:=h;exact jY hu
variable {i:Nat}
def gK.idx{x:O}(h:gK A e n b P x)(hu:tb.aB st=U (.slice e))(hs:aY tb e=.ok n)(hi:i<Z P):dQ tb st x (.int .i64 i)=.ok (pw b (i*n)):=by
 obtain⟨Q,c,k,rfl,-⟩:=h;have hb:aM i (Z P)=aa:=by rw[bT];exact hi
 have hn:iC (.int .i64 i)=.ok i:=rfl;unfold dQ;simp only[hn,hu,hb,aI,hs,R.aT,fi,dO]
variable {l:List O}
def gK.row{x:O}(h:gK A e n b P x)(hi:P[i]?=U l):Z l=n/\∃k Q,de A e b k Q/\∀j,j<n->Q[i*n+j]?=l[j]?:=by
 obtain⟨Q,c,k,rfl,h2,h3,hq,h4,h5,h6,h7⟩:=h;have hil:=(bg.1 hi).1;have hr:Q[i]?=U l:=by rw[<-hi,<-h6,oz,aC hil]
 exact⟨hq l (fh hr),k,_,h3,λ j hj=>nz hq hr hj⟩
variable {j:Nat}
def gK.load{x v:O}{t:aj}{d:TypeDesc}(h:gK A e n b P x)(hi:P[i]?=U l)(hu:tb.aB t=U d)(ha:cW d=af)(hj:l[j]?=U v):ax tb A.get t (pw b (i*n+j))=.ok v:=by
 obtain⟨hl,k,Q,h1,h2⟩:=h.row hi;exact c7 hu ha h1 (by rw[h2 j (by rw[<-hl];exact(bg.1 hj).1)];exact hj)
def gK.bU{x:O}{t:aj}{d:TypeDesc}(h:gK A e n b P x)(hu:tb.aB t=U d)(ha:cW d=aa)(hs:aY tb t=.ok n)(hi:P[i]?=U l):ax tb A.get t (pw b (i*n))=.ok (.agg ⟨l⟩):=by
 obtain⟨Q,c,k,rfl,h2,⟨cs,h5,h6⟩,hq,h4,h8,h9,h7⟩:=h;have hil:=(bg.1 hi).1;have hr:Q[i]?=U l:=by rw[<-hi,<-h9,oz,aC hil]
 have hl:=hq l (fh hr);have hg:=oP _ _ _ _ hl λ j hj=>by rw[h6 (i*n+j) (CV hq (by omega) hj),nz hq hr hj]
 unfold ax;simp only[h5,hu,ha,aI,hs,R.aT,hg]
def gK.field{x v:O}{t:aj}(h:gK A e n b P x)(hs:aY tb t=.ok 1)(hi:P[i]?=U l)(hj:j<n)(hv:v.cells.toList=[v])(h1c:bI v=aa):
 ∃A',bX tb A t (pw b (i*n+j)) v=.ok A'/\gK A' e n b (P.set i (l.set j v)) x/\A'.next=A.next/\∀z,z≠b->A'.get z=A.get z:=by
 obtain⟨Q,c,k,rfl,h2,h3,hq,h4,h5,h6,h7⟩:=h;have hil:=(bg.1 hi).1;have hr:Q[i]?=U l:=by rw[<-hi,<-h6,oz,aC hil]
 have hl:=hq l (fh hr);have hlen:=CV hq (i:=i) (by omega) hj;have hq':∀x∈Q.set i (l.set j v),Z x=n:=λ x hx=>by
  rcases zP hx with hx|rfl
  .exact hq x hx
  .rw[dI];exact hl
 obtain⟨A',g1,g2,g3,g4⟩:=h3.put (o:=i*n+j) (λ w hw=>by rw[ee.1 hw];exact h1c) (by rw[fg];omega) (by simp);refine⟨A',?_,⟨Q.set i (l.set j v),c,k,by rw[dI],by omega,g4 _ (by rw[ic hq',ic hq,dI]) λ m hm=>?_,hq',by rw[dI];exact h4,by rw[dI,dI];exact h5,by rw[dI,List.take_set,h6],h7⟩,g2,g3⟩
 .unfold bX;simp only[hs,R.aT,hv,fg,uj,aI];exact g1
 .rw[Ax hq (by rw[dI];exact hl) (by omega) m hm,fg];by_cases hin:i*n<=m/\m<i*n+n
  .rw[aC hin,pR];by_cases hmj:j=m-i*n
   .rw[aC hmj,aC (by omega),aC ⟨by omega,by omega⟩];have:m-(i*n+j)=0:=by omega
    rw[this];rfl
   .rw[aq hmj,aq (by omega)];have:=nz hq hr (j:=m-i*n) (by omega);rw[show i*n+(m-i*n)=m by omega]at this;exact this.symm
  .rw[aq hin,aq (by omega)]
variable {b2:Nat}
def gK.push{p z:List O}{x:O}{ti:TypeInfo}(h:gK A e n b P x)(hu:tb.aB st=U (.slice e))(hz:eR tb e=.ok (n,z))(t1:tb.ty.get e=U ti)(t2:0<ti.bytes)(t3:ti.bytes<=65536)(hn0:0<n)(hn1:n<65536)(hb2:A.get b2=U (ae e p))(hp:Z p=n)(h1c:∀v∈p,bI v=aa)(hl:Z P<1000000)(hP:n*Z P<9000000000000000000):
 ∃x' A' b',dm tb A st st x (.slice (U ⟨b2,0,Y⟩) 1 2)=.ok (x',A')/\gK A' e n b' (P++[p]) x'/\(b'=b\/b'=A.next)/\A.next<=A'.next/\∀y,y≠b->y<A.next->A'.get y=A.get y:=by
 obtain⟨Q,c,k,rfl,h2,h3,hq,h4,h5,h6,h7⟩:=h;have hnew:ib A.get n 1 (.slice (U ⟨b2,0,Y⟩) 1 2)=.ok p:=tN (og hb2) (by rw[ta];exact hp);have hlen:=ic hq;by_cases hroom:Z P+1<=Z Q
 .have hmul:=BJ n hroom;rw[oZ,ta]at hmul;obtain⟨A',e1,e2,e3,e4⟩:=h3.put (o:=Z P*n) h1c (by omega) (λ hh=>by rw[hh]at hp;simp at hp;omega);have hble:au (Z P+1) (bH c)=aa:=mJ (by omega);have hq':∀x∈Q.set (Z P) p,Z x=n:=λ x hx=>by
   rcases zP hx with hx|rfl
   .exact hq x hx
   .exact hp
  refine⟨.slice (U ⟨b,0,Y⟩) (Z P+1) c,A',b,?_,⟨Q.set (Z P) p,c,k,by rw[aU];rfl,by omega,?_,hq',by rw[dI];exact h4,by rw[dI,aU];exact hroom,?_,h7⟩,.inl rfl,by omega,λ y hy _=>e3 y hy⟩
  .unfold dm gx;simp only[hu,jx,ba,hz,R.aT,fu,hnew,hble,aI,fi,dO,e1]
  .refine e4 _ ?_ λ j hj=>?_
   .rw[hlen,ic hq',dI]
   .rw[Ax hq hp (by omega) j hj,hp]
  .rw[aU,fg,eH (by rw[dI];omega),List.take_set_of_le (aJ _),h6,List.getElem_set_self]
 .have hRP:Q=P:=by rw[<-h6,ug (by omega)]
  have hble:au (Z P+1) (bH c)=af:=by
   cases hq:au (Z P+1) (bH c)with
   |false=>rfl
   |true=>have:=fQ hq;omega
  have hlim:(au (Z P+1) 16777216&&au ti.bytes 65536&&aM 0 ti.bytes&&aM 0 n&&aM n 65536)=aa:=by
   have a1:au (Z P+1) 16777216=aa:=mJ (by omega);have a2:=mJ t3;have a3:aM 0 ti.bytes=aa:=by rw[bT];exact t2
   have a4:aM 0 n=aa:=by rw[bT];exact hn0
   have a5:aM n 65536=aa:=by rw[bT];exact hn1
   rw[a1,a2,a3,a4,a5];rfl
  have hel:=tN h3 (by rw[hlen,hRP]);have fin:∀A0:Mem,A0.next=A.next->gK (A0.alloc (.cells e .row 0 (T.bP .e 0 (Q.flatten++p)))) e n A.next (P++[p]) (.slice (U ⟨A.next,0,Y⟩) (Z P+1) (cu (Z P+1) n)):=λ A0 hn=>
   ⟨P++[p],cu (Z P+1) n,.row,by rw[aU];rfl,by rw[aA];omega,by rw[Bx,<-hRP];simp only[s9,Hm,kR];exact og (by rw[<-hn];exact cR _ _),λ l hl=>by
    rcases mI.1 hl with hl|hl
    .exact hq l (hRP▸hl)
    .rw[ee.1 hl];exact hp,by rw[gB hn1,aU];rfl,aJ _,dY,.inr ⟨iK _ _,lj hn1,rfl⟩⟩
  rcases h7 with hx|⟨hx,he,rfl⟩
  .refine⟨_,A.alloc (.cells e .row 0 (T.bP .e 0 (Q.flatten++p))),A.next,?_,fin A rfl,.inr rfl,by rw[aA];omega,λ y _ hlt=>c9 (by omega)⟩;unfold dm gx;simp only[hu,jx,ba,hz,R.aT,fu,hnew,hble,t1,hlim,aI,hel,hx]
  .obtain⟨cs,q1,q2⟩:=h3;have hone:=ov.2 h1c;have hbe:aL (gM c) n=aa:=by rw[he];exact uj n
   have hfz:(au 0 (0+Z P*n)&&(aL e e&&aM 0 9223372036854775808))=aa:=by
    have h0:aM 0 9223372036854775808=aa:=by rw[bT];omega
    rw[h0,uj];simp
   refine⟨_,(A.set b .dead).alloc (.cells e .row 0 (T.bP .e 0 (Q.flatten++p))),A.next,?_,fin (A.set b .dead) (cE _ _ _),.inr rfl,by rw[aA,cE];omega,λ y hy hlt=>by rw[c9 (by rw[cE];omega),cr,aq hy]⟩;unfold dm gx;simp only[hu,jx,ba,hz,R.aT,fu,hnew,hble,t1,hlim,aI,hel,hx,hbe,hone,sY,q1,hfz]
def gK.pop{p:List O}{x:O}(h:gK A e n b (P++[p]) x)(hu:tb.aB st=U (.slice e))(hs:aY tb e=.ok n):∃x',eD tb st x Y (U (.int .i64 (Z P:Nat))) Y=.ok x'/\gK A e n b P x':=by
 obtain⟨Q,c,k,rfl,h2,h3,hq,h4,h5,h6,h7⟩:=h;rw[aU,fg]at*;have e1:bound (U (.int .i64 (Z P:Nat))) (Z P+1) (bH c)=.ok (Z P):=qQ (by omega);have hx:(dH c&&aL (bH c) 0)=af:=by
  have:aL (bH c) 0=af:=by
   cases hq:aL (bH c) 0 with
   |false=>rfl
   |true=>have:=dZ hq;omega
  rw[this,Bool.and_false]
 have hf:gh c n=aa:=by
  unfold gh;rcases h7 with h|⟨h,he,-⟩
  .rw[h];rfl
  .rw[h,he,ba];exact uj n
 refine⟨.slice (U ⟨b,0,Y⟩) (Z P) (jt c 0),?_,Q,jt c 0,k,rfl,h2,h3,hq,by rw[uG,h4,iV],by omega,?_,?_⟩
 .unfold eD;simp only[hu,e1,R.aT,tw,hs,hx,ba,hf,aI,fi,oB,dN,iV]
 .have:=cV (List.take (Z P)) h6;rwa[zS,oA (by omega),List.take_left]at this
 .rw[yP];rcases h7 with h|⟨h,he,hk⟩
  .exact .inl h
  .exact .inr ⟨h,by rw[ET h];exact he,hk⟩
def qhZ{p:List O}{k:Kd}(hb:b<A.next)(h:de A e b k p)(hp:Z p=n):gK A e n b [p] (.slice (U ⟨b,0,Y⟩) 1 2):=
 ⟨[p],2,k,rfl,hb,by simpa using h,λ l hl=>by rw[ee.1 hl];exact hp,rfl,aJ _,rfl,.inl rfl⟩
end
end Go.Am
namespace Go.Proofs.YtdobfpkceacneaaGreatDoor.sto
open Go.Am Go.Mdl Go.Sto Go.Shelf
def m_(A:Mem)(p ml mn b k la:Nat)(ns:List (List UInt8)):Prop:=∃x rows,VB A 165 p (.var 4) [.map (U ml),.map (U mn),x,.int .i64 la]/\(ml<A.next/\A.get ml=U (.map (dh (ns.take k) 0) k))/\(mn<A.next/\A.get mn=U (.map (dh ns 0) (Z ns)))/\ml≠mn/\
 ai A 297 2 b rows x/\(rows=[]->x=.slice Y 0 0)/\k+Z rows=Z ns/\∀(i:Nat) (w:List UInt8),ns[k+i]?=U w->∃t s,rows[i]?=U (iI jT t s)/\VB A 3 t (.var 1) [iN (k+i+1)]/\VB A 9 s (.var 1) [ag w]
variable {A B:Mem}{p ml mn b k:Nat}{ns:List (List UInt8)}
def m_.kp{la:Nat}(h:m_ A p ml mn b k la ns)(q:Kp A B):m_ B p ml mn b k la ns:=by
 obtain⟨x,rows,h1,⟨h2,h3⟩,⟨h4,h5⟩,h6,h7,h8,h9,h10⟩:=h;refine⟨x,rows,h1.kp q,⟨dc h2 q.1,by rw[q.2 _ h2];exact h3⟩,⟨dc h4 q.1,by rw[q.2 _ h4];exact h5⟩,h6,h7.same q.1 (q.2 b),h8,h9,λ i w hw=>?_⟩;obtain⟨t,s,e1,e2,e3⟩:=h10 i w hw;exact⟨t,s,e1,e2.kp q,e3.kp q⟩
variable {w:List UInt8}
def qeX(h:m_ A p ml mn b k (Z ns) ns)(hw:w∉ns)(hl:0<Z w/\Z w<=64)(hn:Z ns<1000):
 ∃v A' b',az I 88 [pV p,ag w] A v A'/\v=.tuple ⟨[.int .i64 (Z ns+1:Nat),.int .i64 (0:Nat)]⟩/\m_ A' p ml mn b' k (ns++[w]).length (ns++[w])/\A.next<=b'/\A.next<=A'.next/\∀z,z<A.next->z≠p->z≠mn->(k<Z ns->z≠b)->A'.get z=A.get z:=by
 obtain⟨x,rows,hV,⟨hml,hml'⟩,⟨hmn,hmn'⟩,hmm,hS,hx0,hrl,hR⟩:=h;have hpA:=hV.1;have hpm:p≠ml/\p≠mn:=⟨hV.cN hml',hV.cN hmn'⟩;have hrn:k<Z ns->rows≠ []:=λ h0 h=>by rw[h,dL]at hrl;omega
 have hrn':∀{z:Nat},(k<Z ns->z≠b)->rows≠ []->z≠b:=λ h h0=>h (by have:=iG.2 h0;omega)
 have kB:=Kp.alloc A (ae 9 [ag w]);have vB:=aK A 9 [ag w];have nB:=aA A (ae 9 [ag w]);generalize hB:A.alloc (ae 9 [ag w])=B at kB vB nB;have VB':=hV.kp kB;have lwB:ax I B.get 9 (.pointer (U ⟨A.next,0,Y⟩))=.ok (ag w):=vB.ld rfl u9 rfl;have km:=λ ih=>Pz (ih:=ih) (A:=B) (w:=w)
 rw[decide_eq_true hl]at km;have lm:ax I B.get 162 (.pointer (U ⟨p,1,Y⟩))=.ok (.map (U mn)):=VB'.ld rfl pM rfl;have lk:=J0 (A:=B) (w:=w) (ns:=ns) (c:=Z ns) (by rw[kB.2 _ hmn];exact hmn');have hno:numOf ns w=0:=by
  unfold numOf;rw[Hk.2 (λ n hn=>by simpa using λ e:w=n=>hw (e▸hn))];rfl
 rw[hno]at lk;have lc:ax I B.get 3 (.pointer (U ⟨p,3,Y⟩))=.ok (.int .i64 (Z ns)):=VB'.ld rfl u3 rfl;have a1:bj .add .i64 ((Z ns:Nat):Int) ((1:Nat):Int)=.ok (.int .i64 (Z ns+1:Nat)):=fc (cS (by omega));obtain⟨C,sC,vC,nC,fC⟩:=df (tb:=I) (t:=3) (o:=3) (v:=.int .i64 (Z ns+1:Nat)) Gu VB'.2 (by simp) rfl rfl;have lcC:ax I C.get 3 (.pointer (U ⟨p,3,Y⟩))=.ok (.int .i64 (Z ns+1:Nat)):=c7 u3 rfl vC rfl;have sD:bX I (C.alloc (ae 3 [.int .i64 (0:Nat)])) 3 (.pointer (U ⟨C.next,0,Y⟩)) (.int .i64 (Z ns+1:Nat))=.ok (C.alloc (ae 3 [.int .i64 (Z ns+1:Nat)])):=sS Gu rfl rfl (by simp);have kD:=Kp.alloc C (ae 3 [.int .i64 (Z ns+1:Nat)]);have vD:=aK C 3 [.int .i64 (Z ns+1:Nat)];have nD:(C.alloc (ae 3 [.int .i64 (Z ns+1:Nat)])).next=C.next+1:=aA _ _
 generalize hD:C.alloc (ae 3 [.int .i64 (Z ns+1:Nat)])=D at kD vD nD;have ltD:ax I D.get 3 (.pointer (U ⟨C.next,0,Y⟩))=.ok (.int .i64 (Z ns+1:Nat)):=vD.ld rfl u3 rfl;have fBD:∀z,z<B.next->z≠p->D.get z=B.get z:=λ z hz hp=>by rw[kD.2 z (by omega),fC z hp]
 have fAD:∀z,z<A.next->z≠p->D.get z=A.get z:=λ z hz hp=>by rw[fBD z (by omega) hp,kB.2 z hz]
 have VD:VB D 165 p (.var 4) [.map (U ml),.map (U mn),x,.int .i64 (Z ns+1:Nat)]:=⟨by omega,(show de C 165 p (.var 4) [.map (U ml),.map (U mn),x,.int .i64 (Z ns+1:Nat)]from vC).same (kD.2 _ (by omega))⟩;have vsD:VB D 9 A.next (.var 1) [ag w]:=⟨by omega,vB.2.same (fBD _ (by omega) (by omega))⟩
 have hr0:=hx0;have hSD:ai D 297 2 b rows x:=ai.JQ hS hV (by decide) ⟨by omega,λ z hz hp=>fAD z hz hp⟩;have sE:bX I (D.alloc (ae 297 [.string .empty,.nilFunc])) 297 (.pointer (U ⟨D.next,0,Y⟩)) (.agg ⟨iI jT C.next A.next⟩)=.ok (D.alloc (ae 297 (iI jT C.next A.next))):=ep pP rfl rfl (by simp) (by simp[iI,bI,ag]);have kE:=Kp.alloc D (ae 297 (iI jT C.next A.next));have vE:=aK D 297 (iI jT C.next A.next);have nE:(D.alloc (ae 297 (iI jT C.next A.next))).next=D.next+1:=aA _ _
 generalize hE:D.alloc (ae 297 (iI jT C.next A.next))=E at sE kE vE nE;have VE:=VD.kp kE;have lxE:ax I E.get 163 (.pointer (U ⟨p,2,Y⟩))=.ok x:=VE.ld rfl jC rfl;have hSE:=hSD.same kE.1 (kE.2 b);have lenE:=ai.len (tb:=I) hSE jC;obtain⟨x1,hsl,hS1,hx1⟩:=Tn (tb:=I) (t:=163) hSE jC pP (by omega) hr0;have lwE:ax I E.get 297 (.pointer (U ⟨D.next,0,Y⟩))=.ok (.agg ⟨iI jT C.next A.next⟩):=by
  obtain⟨d,hd1,hd2⟩:=b9 (t:=297) (p:=aa) (by kernel_rfl);exact bU hd1 hd2 pP vE.2
 obtain⟨ti,t1,t2,t3⟩:=qix;have hS1':ai (E.alloc (ae 297 (iI jT C.next A.next))) 297 2 b rows x1:=hS1.same (by rw[aA];omega) λ h=>c9 (by omega)
 obtain⟨x2,F,happ,hs3,hn3,hf3⟩:=ai.append (tb:=I) (st:=163) (xt:=163) hS1' jC jC qjt t1 t2 t3 (by omega) (by omega) (by omega) (cR E _) rfl (by simp[iI,bI,ag]);rw[aA]at hs3 hn3 hf3;have keepF:∀z,z<E.next->(k<Z ns->z≠b)->F.get z=E.get z:=λ z hz hb=>by
  rw[hf3 z (λ e=>by
   by_cases h0:rows=[]
   .exact hx1 (hx0 h0)
   .exact aZ e (hrn' hb h0)) (by omega),c9 (by omega)]
 have hpb:k<Z ns->p≠b:=λ h0=>ai.gj hS hV (by decide) (hrn h0)
 obtain⟨G,sG,vG,nG,fG⟩:=df (tb:=I) (t:=163) (o:=2) (v:=x2) Gt (VE.2.same (keepF p (by omega) hpb)) (by simp) (ai.di hs3).1 (ai.di hs3).2;have keepG:∀z,z<E.next->z≠p->(k<Z ns->z≠b)->G.get z=E.get z:=λ z hz hp hb=>by rw[fG z hp,keepF z hz hb]
 have hbt:∀z (e:aj) (kd:Kd) (l:List O),VB D e z kd l->e≠297->(k<Z ns->z≠b):=λ z e kd l hz he h0=>ai.gj hSD hz he (hrn h0)
 have vtG:VB G 3 C.next (.var 1) [.int .i64 (Z ns+1:Nat)]:=⟨by omega,vD.2.same (by rw[keepG _ (by omega) (by omega) (hbt _ _ _ _ vD (by decide)),kE.2 _ (by omega)])⟩
 have vsG:VB G 9 A.next (.var 1) [ag w]:=⟨by omega,vsD.2.same (by rw[keepG _ (by omega) (by omega) (hbt _ _ _ _ vsD (by decide)),kE.2 _ (by omega)])⟩
 have hbm:∀(m:Nat) (es:List MapEntry) (c:Nat),D.get m=U (.map es c)->(k<Z ns->m≠b):=λ m es c hm h0=>ai.cN hSD hm (hrn h0)
 have hmnD:D.get mn=U (.map (dh ns 0) (Z ns)):=by rw[fAD mn hmn (Ne.symm hpm.2)];exact hmn'
 have hmlD:D.get ml=U (.map (dh (ns.take k) 0) k):=by rw[fAD ml hml (Ne.symm hpm.1)];exact hml'
 have hmnG:G.get mn=U (.map (dh ns 0) (Z ns)):=by rw[keepG mn (by omega) (Ne.symm hpm.2) (hbm _ _ _ hmnD),kE.2 _ (by omega)];exact hmnD
 have hmlG:G.get ml=U (.map (dh (ns.take k) 0) k):=by rw[keepG ml (by omega) (Ne.symm hpm.1) (hbm _ _ _ hmlD),kE.2 _ (by omega)];exact hmlD
 have lfG:ax I G.get 225 (.pointer (U ⟨D.next,0+1,Y⟩))=.ok (.func (.func 142) ⟨[]⟩ ⟨[pV C.next,pV A.next]⟩):=by
  obtain⟨d,hd,ha⟩:=GP;exact c7 hd ha (vE.2.same (keepG D.next (by omega) (by omega) (λ h0 e=>by
   have:=vn hSD (hrn h0);omega))) rfl
 have VG:VB G 165 p (.var 4) [.map (U ml),.map (U mn),x2,.int .i64 (Z ns+1:Nat)]:=⟨by omega,vG⟩;have lmG:ax I G.get 162 (.pointer (U ⟨p,1,Y⟩))=.ok (.map (U mn)):=VG.ld rfl pM rfl;obtain⟨g1,h1⟩:=Su (k:=0) hmnG hw vtG vsG;generalize hH:G.set mn (.map (dh (ns++[w]) 0) (ns++[w]).length)=H at h1;have nH:H.next=G.next:=by rw[<-hH];exact cE _ _ _
 have fH:∀z,z≠mn->H.get z=G.get z:=λ z hz=>by rw[<-hH,mq,aq hz]
 have hdo:az I 141 [pV p,ag jT,.func (.func 142) ⟨[]⟩ ⟨[pV C.next,pV A.next]⟩] D (.int .i64 (0:Nat)) H:=by
  simp only[pV]at*;refine bQ (g1) 60 (aN Tryz.func141) (by kernel_rfl) λ M hM=>?_
  simp(config:={maxSteps:=4000000})(disch:=first|decide+kernel|omega|simp only[Wq,V])only[Tryz.f141,Aq,au,reduceIte,V,ak,VK,G4,aX,hE,sE,bW,bV,w_,xa,lxE,lenE,hsl,lwE,Ww,happ,sG,Fj,lfG,lmG,h1,Fq,bY []]<;>rfl
 obtain⟨g2,h2⟩:=hdo;have ltH:ax I H.get 3 (.pointer (U ⟨C.next,0,Y⟩))=.ok (.int .i64 (Z ns+1:Nat)):=VB.ld (tb:=I) ⟨by have:=vD.1;omega,vD.2.same (by rw[fH C.next (vD.cN hmnD),keepG C.next (by have:=vD.1;omega) (vD.ne VD (by decide)) (hbt _ _ _ _ vD (by decide)),kE.2 _ vD.1])⟩ rfl u3 rfl;have sn:=tV .i64 (Z ns+1) rfl;refine⟨_,H,E.next+1,?_,rfl,⟨x2,rows++[iI jT C.next A.next],⟨by omega,?_⟩,⟨by omega,?_⟩,⟨by omega,?_⟩,hmm,?_,λ h=>by simp at h,by rw[aU,aU,<-hrl];rfl,λ i u hu=>?_⟩,by omega,by omega,λ z hz hp hm hb=>?_⟩
 .simp only[pV]at*;have hcr:∀t:T O,ev t (.const (.string ⟨#[99,114,101,97,116,101]⟩))=.ok (ag jT):=λ t=>rfl
  refine bQ (g2) 60 (aN Tryz.func88) (by kernel_rfl) λ M hM=>?_
  simp(config:={maxSteps:=4000000})(disch:=first|decide+kernel|omega|simp only[Wq,V])only[Tryz.f88,Aq,au,reduceIte,V,ak,hB,eW,wY,eO,bW,bV,lwB,km,w_,Zr,lm,uZ,lk,dX,dU,lc,a1,sC,lcC,vU,hD,sD,ltD,ltH,sn,Kw,fb,hcr,h2,Fq,bY [],bY [(0,3)]]<;>rfl
 .rw[aU];exact vG.same (fH p hpm.2)
 .rw[fH ml hmm,List.take_append_of_le_length (by omega)];exact hmlG
 .rw[<-hH,mq,aC rfl]
 .have e1:ai G 297 2 (E.next+1) (rows++[iI jT C.next A.next]) x2:=hs3.same (by omega) λ _=>fG _ (by omega)
  exact e1.same (by omega) λ _=>fH _ (by omega)
 .rcases d_ (k+i) (Z ns)with hi|hi
  .rw[eG hi]at hu;obtain⟨t,s,e1,e2,e3⟩:=hR i u hu;have q1:VB D 3 t (.var 1) [.int .i64 (k+i+1:Nat)]:=⟨by have:=e2.1;omega,e2.2.same (fAD t e2.1 (e2.ne hV (by decide)))⟩;have q2:VB D 9 s (.var 1) [ag u]:=⟨by have:=e3.1;omega,e3.2.same (fAD s e3.1 (e3.ne hV (by decide)))⟩;have ht1:∀(e:aj) (z:Nat) (kd:Kd) (l:List O),VB D e z kd l->e≠297->e≠165->VB H e z kd l:=λ e z kd l hz he he2=>⟨by have:=hz.1;omega,hz.2.same (by
    rw[fH z (hz.cN hmnD),keepG z (by have:=hz.1;omega) (hz.ne VD he2) (hbt z e kd l hz he),kE.2 _ hz.1])⟩
   exact⟨t,s,by rw[eG (by omega)];exact e1,ht1 _ _ _ _ q1 (by decide) (by decide),ht1 _ _ _ _ q2 (by decide) (by decide)⟩
  .rw[ez hi]at hu;cases hq:k+i-Z ns with
   |succ n=>rw[hq]at hu;simp at hu
   |zero=>
    rw[hq]at hu;cases hu;have e:i=Z rows:=by omega
    subst e;rw[hrl];exact⟨C.next,A.next,by rw[ez (by omega),gZ];rfl,⟨by omega,vtG.2.same (fH _ (by omega))⟩,⟨by omega,vsG.2.same (fH _ (by omega))⟩⟩
 .rw[fH z hm,keepG z (by omega) hp hb,kE.2 z (by omega),fAD z hz hp]
variable {n:Nat}
def qgr{la:Nat}(h:m_ A p ml mn b k la ns)(hnd:ns.Nodup)(hn:Z ns<1000):
 ∃v A' mk,az I 143 [pV p,.int .i64 n] A v A'/\v=.tuple ⟨[]⟩/\m_ A' p ml mk b (k+min n (Z ns-k)) la (ns.take (k+min n (Z ns-k)))/\A.next<=mk/\A.next<=A'.next/\∀z,z<A.next->z≠p->z≠ml->A'.get z=A.get z:=by
 obtain⟨x,rows,hV,⟨hml,hml'⟩,⟨hmn,hmn'⟩,hmm,hS,hx0,hrl,hR⟩:=h;have hpm:=hV.cN hml';have lx:=hV.l2 jC rfl;have lenx:=ai.len hS jC;generalize hm:min n (Z ns-k)=m;have hmr:m<=Z rows:=by omega
 have mn1:cQ I .min [3,3] [.int .i64 n,iN (Z rows)]=.ok (.int .i64 m):=by rw[Am.qZ,<-hm];congr 3;omega
 have mx1:cQ I .max [3,3] [iN 0,.int .i64 m]=.ok (.int .i64 m):=by rw[Am.max_i64,yh (a6 _)]
 obtain⟨x1,hsl,hS1⟩:=kU.cut (hS.DJ (by omega)) jC pP hmr;have len1:=kU.len hS1 jC;rw[db,oA hmr]at len1
 suffices hW:∃v A',az I 143 [pV p,.int .i64 n] A v A'/\v=.tuple ⟨[]⟩/\∃mk,m_ A' p ml mk b (k+m) la (ns.take (k+m))/\A.next<=mk/\A.next<=A'.next/\∀z,z<A.next->z≠p->z≠ml->A'.get z=A.get z by
  obtain⟨v,A',h1,h2,mk,h3⟩:=hW;exact⟨v,A',mk,h1,h2,h3⟩
 refine c_ (aN Tryz.func143) M6 (by kernel_rfl) ?_;simp only[pV];apply W.q
 .intro M;simp(disch:=decide+kernel)only[py,pW,Aq,V,eW,wY,eO];rfl
 apply W.seq;apply W.q
 .intro M;simp(disch:=first|decide+kernel|omega|simp only[Wq,V])only[py,pW,Aq,au,reduceIte,V,ak,bW,bV,xa,lx,lenx,mn1,mx1,hsl,len1,Fq,bY []];rfl
 apply W.block;refine W.up m (λ i t D=>(A.next<=D.next/\∀z,z<A.next->z≠ml->D.get z=A.get z)/\D.get ml=U (.map (dh (ns.take (k+i)) 0) (k+i))/\Sl t [(0,pw p 0),(20,x1),(21,.int .i64 m),(22,.int .i64 i)]) ?_ (a6 _) ⟨⟨aJ _,λ _ _ _=>rfl⟩,hml',?_⟩
 .rintro i t D hi ⟨⟨kn,kf⟩,hmD,g0,g20,g21,g22,-⟩;by_cases hlt:i<m
  .have hni:ns[k+i]?=U (ns[k+i]'(by omega)):=aV (by omega)
   obtain⟨tt,ss,e1,e2,e3⟩:=hR i _ hni;have hS1D:=hS1.same kn λ hl=>kf b hl (Ne.symm (ai.cN hS hml' (λ e=>by rw[e]at e1;simp at e1)))
   have j1:=kU.idx (i:=i) (kd:=.i64) hS1D jC pP (by rw[db];omega);obtain⟨d,hd1,hd2⟩:=b9 (by kernel_rfl);have j2:=kU.bU hS1D hd1 hd2 pP (by rw[oz,aC hlt];exact e1);generalize ns[k+i]'(by omega)=w at*
   have sE:bX I (D.alloc (ae 297 [.string .empty,.nilFunc])) 297 (pw D.next 0) (.agg ⟨iI jT tt ss⟩)=.ok (D.alloc (ae 297 (iI jT tt ss))):=ep pP rfl rfl (by simp) (by simp[iI,bI,ag]);have kE:=Kp.alloc D (ae 297 (iI jT tt ss));have vE:=aK D 297 (iI jT tt ss);have nE:=aA D (ae 297 (iI jT tt ss));generalize D.alloc (ae 297 (iI jT tt ss))=E at sE kE vE nE;have lf:ax I E.get 225 (pw D.next (0+1))=.ok (.func (.func 142) ⟨[]⟩ ⟨[pV tt,pV ss]⟩):=by
    obtain⟨d,hd,ha⟩:=GP;exact vE.ld rfl hd ha
   have fAE:∀z,z<A.next->z≠ml->E.get z=A.get z:=λ z hz hm=>by rw[kE.2 z (by omega),kf z hz hm]
   have lm:ax I E.get 162 (pw p 0)=.ok (.map (U ml)):=VB.ld (tb:=I) ⟨by have:=hV.1;omega,hV.2.same (fAE p hV.1 hpm)⟩ rfl pM rfl;have hmE:E.get ml=U (.map (dh (ns.take (k+i)) 0) (k+i)):=by rw[kE.2 ml (by omega)];exact hmD
   have htE:ax I E.get 3 (pw tt 0)=.ok (iN (k+i+1)):=VB.ld (tb:=I) ⟨by have:=e2.1;omega,e2.2.same (fAE tt e2.1 (e2.cN hml'))⟩ rfl u3 rfl;have hsE:ax I E.get 9 (pw ss 0)=.ok (ag w):=VB.ld (tb:=I) ⟨by have:=e3.1;omega,e3.2.same (fAE ss e3.1 (e3.cN hml'))⟩ rfl u9 rfl;have hupE:=qi4 hni hnd hmE;generalize hF:E.set ml (.map (dh (ns.take (k+i+1)) 0) (k+i+1))=F at hupE;have nF:F.next=E.next:=by rw[<-hF];exact cE _ _ _
   have hact:az I 142 [.map (U ml),pV tt,pV ss] E (.tuple ⟨[]⟩) F:=by
    simp only[pV];refine cG 60 (aN Tryz.func142) (by kernel_rfl) λ M=>?_
    simp(disch:=omega)only[Tryz.f142,Aq,V,htE,hsE,zb,hupE,cL]<;>rfl
   obtain⟨g,hg⟩:=hact;simp only[pV]at hg lf;apply W.ct (g) 20
   .intro M hM;simp(disch:=first|decide+kernel|omega|simp only[Wq,V])only[Cx,py,pW,Aq,au,reduceIte,V,ak,g0,g20,g21,g22,hlt,j1,j2,G4,aX,sE,Fj,lf,bW,bV,Fh,lm,hg,Fq,bY []];rfl
   refine⟨hlt,_,F,rfl,⟨by omega,λ z hz hm=>by rw[<-hF,mq,aq hm,fAE z hz hm]⟩,by rw[<-hF,mq,aC rfl];rfl,?_⟩;simp only[Sq,V,ak,g0,g20,g21]
  .have e:i=m:=by omega
   subst e;have VD:VB D 165 p (.var 4) [.map (U ml),.map (U mn),x,.int .i64 la]:=⟨by have:=hV.1;omega,hV.2.same (kf p hV.1 hpm)⟩;have lm:=VD.l0 pM rfl;obtain⟨g,hg⟩:=Sc hmD;have kE:=Kp.alloc D (.map (dh (ns.take (k+i)) 0) (k+i));have hmk:(D.alloc (.map (dh (ns.take (k+i)) 0) (k+i))).get D.next=U (.map (dh (ns.take (k+i)) 0) (k+i)):=cR _ _
   have nE:=aA D (.map (dh (ns.take (k+i)) 0) (k+i));generalize D.alloc (.map (dh (ns.take (k+i)) 0) (k+i))=E at hg kE hmk nE;have hpD:=VD.1;have hmlD:ml<D.next:=by omega
   obtain⟨F,sF,vF,nF,fF⟩:=df (tb:=I) (t:=163) (o:=2) (v:=.slice Y 0 0) Gt (VD.2.same (kE.2 _ hpD)) (by simp) rfl rfl;obtain⟨G,sG,vG,nG,fG⟩:=df (tb:=I) (t:=162) (o:=1) (v:=.map (U D.next)) Tb vF (by simp) rfl rfl;apply W.run 20
   .intro M;simp(disch:=decide+kernel)only[Cx,py,pW,Aq,V,g21,g22];rfl
   apply W.ct (g) 20
   .intro M hM;simp(disch:=omega)only[py,pW,Aq,V,g0,bW,bV,Fh,w_,xa,lm,hg,sF,sG];rfl
   have htl:(ns.take (k+i)).length=k+i:=by rw[db];omega
   refine⟨by simp,rfl,_,(by simp only[pW,Aq,V]<;>rfl),rfl,D.next,⟨.slice Y 0 0,[],⟨by show p<G.next;omega,vG⟩,⟨by show ml<G.next;omega,?_⟩,⟨by show D.next<G.next;omega,?_⟩,by omega,ai.nil _ _ _ _,λ _=>rfl,by rw[htl];rfl,λ j w hw=>?_⟩,kn,by show A.next<=G.next;omega,λ z hz hp hm=>?_⟩
   .show G.get ml=_;rw[fG ml (Ne.symm hpm),fF ml (Ne.symm hpm),kE.2 ml hmlD,zS,Nat.min_self];exact hmD
   .show G.get D.next=_
    rw[fG _ (by omega),fF _ (by omega),htl];exact hmk
   .rw[lW (by rw[htl];omega)]at hw;cases hw
   .show G.get z=A.get z;rw[fG z hp,fF z hp,kE.2 z (by omega),kf z hz hm]
 .simp only[Sq,V,ak]
def uc(A:Mem)(f:Nat)(d:List UInt8)(a:O)(s:List UInt8):Prop:=VB A 228 f (.var 3) [ag d,a,ag s]
def qP(q:Nat):O:=.func (.func 174) ⟨[]⟩ ⟨[pV q]⟩
def Zs:bM I 228 (pw b 0) 0=.ok (pw b 0):=by kernel_rfl
def N8:bM I 228 (pw b 0) 1=.ok (pw b 1):=by kernel_rfl
def GN:I.aB 226=U (.slice 332):=by kernel_rfl
def Tc:aY I 226=.ok 1:=by kernel_rfl
def vj:aY I 9=.ok 1:=by kernel_rfl
variable {m:Nat}
def qfr:az I 175 [.int .i64 n,iN 0,.int .i64 m] A (iN (min n m)) A:=by
 have m1:cQ I .min [3,3] [.int .i64 n,.int .i64 m]=.ok (iN (min n m)):=Am.qZ;have m2:cQ I .max [3,3] [iN 0,iN (min n m)]=.ok (iN (min n m)):=by rw[Am.max_i64,yh (a6 _)]
 refine cG 60 (aN Tryz.func175) (by kernel_rfl) λ M=>?_
 simp(disch:=decide+kernel)only[Tryz.f175,Aq,V,m1,m2]<;>rfl
def qfb{s:List UInt8}{q:Nat}(h:VB A 9 q (.var 1) [ag w])(hl:Z s+Z w<1000000):az I 174 [ag s,.int .i64 n,pV q] A (ag (s++w.take (min n (Z w)))) A:=by
 have l1:=h.l0 u9 rfl;have ll:=lK (l:=w) u9;obtain⟨g,hg⟩:=qfr (A:=A) (n:=n) (m:=Z w);have s1:=Gx (k:=.i64) (n:=min n (Z w)) u9 (Hu _ _);have ad:j8 .add s (w.take (min n (Z w)))=.ok (ag (s++w.take (min n (Z w)))):=DG (by rw[db];omega);simp only[pV];refine bQ (g) 60 (aN Tryz.func174) (by kernel_rfl) λ M hM=>?_
 simp(disch:=first|decide+kernel|omega|simp only[Wq,V])only[Tryz.f174,Aq,au,reduceIte,V,ak,l1,ll,hg,s1,ad,Fq,bY [(1,5)],AY]<;>rfl
def qfj{f:Nat}{d s:List UInt8}{a:O}(h:uc A f d a s):∃v A',az I 176 [pV f,ag w] A v A'/\v=cL/\uc A' f w (.slice Y 0 0) w/\A'.next=A.next/\∀z,z≠f->A'.get z=A.get z:=by
 obtain⟨B,s1,v1,n1,f1⟩:=df (o:=0) (v:=ag w) vj h.2 (by simp) rfl rfl;obtain⟨C,s2,v2,n2,f2⟩:=df (o:=2) (v:=ag w) vj v1 (by simp) rfl rfl;obtain⟨D,s3,v3,n3,f3⟩:=df (o:=1) (v:=.slice Y 0 0) Tc v2 (by simp) rfl rfl;refine⟨cL,D,?_,rfl,⟨by have:=h.1;omega,v3⟩,by omega,λ z hz=>by rw[f3 z hz,f2 z hz,f1 z hz]⟩;simp only[pV];refine cG 60 (aN Tryz.func176) (by kernel_rfl) λ M=>?_
 simp(disch:=omega)only[Tryz.f176,Aq,V,bW,bV,Zs,N8,Fi,s1,s2,s3,cL]<;>rfl
def qfq{f:Nat}{d s:List UInt8}{a:O}(h:uc A f d a s):∃v A',az I 106 [pV f] A v A'/\v=iN 0/\uc A' f s (.slice Y 0 0) s/\A'.next=A.next/\∀z,z≠f->A'.get z=A.get z:=by
 obtain⟨v,B,⟨g,hg⟩,rfl,hB⟩:=qfj h;have l2:=h.l2 u9 rfl;refine⟨_,B,?_,rfl,hB⟩;simp only[pV]at*;refine bQ (g) 60 (aN Tryz.func106) (by kernel_rfl) λ M hM=>?_
 simp(disch:=first|decide+kernel|omega)only[Tryz.f106,Aq,V,eW,E',eO,bW,bV,Fi,l2,hg]<;>rfl
def KJ{x:O}(h:ai A 9 1 b [[ag w]] x):az I 102 [x,ag []] A (ag w) A:=by
 have DM:I.aB 52=U (.slice 9):=by kernel_rfl
 have ll:=ai.len h DM;have j1:=ai.idx (i:=0) (kd:=.i64) h DM (by kernel_rfl) (by simp);have j2:=ai.load (j:=0) h u9 rfl (show [[ag w]][0]?=U [ag w]from rfl) rfl (by omega);refine cG 60 (aN Tryz.func102) (by kernel_rfl) λ M=>?_
 simp(disch:=decide+kernel)only[Tryz.f102,Aq,V,ll,j1,j2,cd,dL]<;>rfl
def qjw:eR I 332=.ok (1,[.nilFunc]):=by kernel_rfl
def qiA:∃i,I.ty.get 332=U i/\0<i.bytes/\i.bytes<=65536:=by
 have h:(I.ty.get 332).map (λ i=>aM 0 i.bytes&&au i.bytes 65536)=U aa:=by kernel_rfl
 cases hq:I.ty.get 332 with
 |none=>rw[hq]at h;cases h
 |some i=>
  rw[hq]at h;simp only[fZ,eM,dz,bT]at h;exact⟨i,rfl,h.1,fQ h.2⟩
def Wx{q:Nat}:eo I 226 1 [(0,qP q)]=.ok (ae 332 [qP q],.dy 1 2):=by kernel_rfl
def qeP:az I 224 [.slice Y 0 0] A (.slice Y 0 0) A:=by
 have l1:cQ I .len [226] [.slice Y 0 0]=.ok (iN 0):=jY GN;have s1:eD I 226 (.slice Y 0 0) Y (U (iN 0)) (U (iN 0))=.ok (.slice Y 0 0):=by kernel_rfl
 refine cG 60 (aN Tryz.func224) (by kernel_rfl) λ M=>?_
 simp only[Tryz.f224,Aq,V,l1,s1]<;>rfl
def qfe{f q:Nat}{d s:List UInt8}(h:uc A f d (.slice Y 0 0) s)(hq:VB A 9 q (.var 1) [ag w])(hl:Z s+Z w<1000000):
 ∃v A',az I 173 [pV f,qP q] A v A'/\v=cL/\(∃b x,uc A' f d x (s++w)/\ai A' 332 1 b [[qP q]] x/\A.next<=b)/\A.next<=A'.next/\∀z,z<A.next->z≠f->A'.get z=A.get z:=by
 have l1:=h.l1 GN rfl;obtain⟨g1,h1⟩:=qeP (A:=A);have kB:=Kp.alloc A (ae 332 [qP q]);obtain⟨ti,t1,t2,t3⟩:=qiA;obtain⟨x,C,e1,e2,e3,e4⟩:=(ai.nil (A.alloc (ae 332 [qP q])) 332 1 0).append GN GN qjw t1 t2 t3 (by omega) (by omega) (by simp) (cR A _) rfl (by simp[qP,bI]);have nB:=aA A (ae 332 [qP q]);have fC:∀z,z<A.next->C.get z=A.get z:=λ z hz=>by rw[e4 z (λ _=>rfl) (by omega),kB.2 z hz]
 have hf:=h.1;have hqA:=hq.1;obtain⟨D,s2,v2,n2,f2⟩:=df (o:=1) Tc (h.2.same (fC f hf)) (by simp) (ai.di e2).1 (ai.di e2).2;have l2:ax I D.get 9 (pw f 2)=.ok (ag s):=c7 u9 rfl v2 rfl;have hqf:=hq.ne h (by decide);have hqD:VB D 9 q (.var 1) [ag w]:=⟨by omega,hq.2.same (by rw[f2 q hqf,fC q hqA])⟩;obtain⟨g2,h2⟩:=qfb (n:=4611686018427387904) hqD hl;rw[zY (by omega),dY]at h2;obtain⟨E,s3,v3,n3,f3⟩:=df (tb:=I) (t:=9) (o:=2) (v:=ag (s++w)) vj v2 (by simp) rfl rfl;refine⟨cL,E,?_,rfl,⟨A.next+1,x,⟨by omega,v3⟩,?_,by omega⟩,by omega,λ z hz hzf=>by rw[f3 z hzf,f2 z hzf,fC z hz]⟩
 .have bs:=Wx (q:=q);simp only[pV,qP]at*;refine bQ (g1+g2) 60 (aN Tryz.func173) (by kernel_rfl) λ M hM=>?_
  simp(disch:=first|decide+kernel|omega)only[Tryz.f173,Aq,V,bW,bV,N8,Fi,l1,h1,bs,e1,s2,l2,h2,s3,cL]<;>rfl
 .rw[nB]at e2;exact e2.same (by omega) λ _=>by rw[f3 _ (by omega),f2 _ (by omega)]
def qfd{f:Nat}{d s:List UInt8}{x:O}(h:uc A f d (.slice Y 0 0) s)(hx:ai A 9 1 b [[ag w]] x)(h0:w≠ [])(hl:Z s+Z w<1000000):
 ∃v A',az I 104 [pV f,x] A v A'/\v=iN 0/\(∃b q y,uc A' f d y (s++w)/\ai A' 332 1 b [[qP q]] y/\A.next<=b/\A.next<=q/\VB A' 9 q (.var 1) [ag w])/\A.next<=A'.next/\∀z,z<A.next->z≠f->A'.get z=A.get z:=by
 obtain⟨g1,h1⟩:=KJ hx;have kB:=Kp.alloc A (ae 9 [ag w]);have vB:=aK A 9 [ag w];have sB:bX I (A.alloc (ae 9 [ag []])) 9 (pw A.next 0) (ag w)=.ok (A.alloc (ae 9 [ag w])):=sS vj rfl rfl (by simp);have z9:cX I 9=.ok (ag []):=by kernel_rfl
 have nB:=aA A (ae 9 [ag w]);generalize A.alloc (ae 9 [ag w])=B at kB vB sB nB;have lB:=vB.l0 u9 rfl;obtain⟨v,C,⟨g2,h2⟩,rfl,⟨b',y,p1,p2,p3⟩,p4,p5⟩:=qfe (VB.kp h kB) vB hl;have he:∀t:T O,ev t (.const (.string ⟨#[]⟩))=.ok (ag []):=λ _=>rfl
 refine⟨_,C,?_,rfl,⟨b',A.next,y,p1,p2,by omega,aJ _,⟨by omega,vB.2.same (p5 _ (by omega) ?_)⟩⟩,by omega,λ z hz hf=>by rw[p5 z (by omega) hf,kB.2 z hz]⟩
 .have cB:(ag []).cells.toList=[ag []]:=rfl;simp only[pV,qP,cL]at*;refine bQ (g1+g2) 60 (aN Tryz.func104) (by kernel_rfl) λ M hM=>?_
  simp(disch:=first|decide+kernel|omega)only[Tryz.f104,Aq,V,eW,E',eO,he,h1,z9,cB,sB,lB,h0,h2]<;>rfl
 .have:=h.1;omega
def ZH:bM I 101 (pw b 0) 3=.ok (pw b 3):=by kernel_rfl
def ZI:bM I 101 (pw b 0) 4=.ok (pw b 4):=by kernel_rfl
def Si{fd mf q:O}(h:VB A 101 p (.var 6) [fd,mf,q,.int .i64 n,iN 0,.bool af])(hn:n<1000):
 ∃B,VB B 101 p (.var 6) [fd,mf,q,iN (n+1),iN 0,.bool af]/\B.next=A.next/\(∀z,z≠p->B.get z=A.get z)/\
  ∀(f:Nat) (cs:List O) (e:Nat) (C:Mem),az I f cs B (.int .i64 e) C->az I 98 [pV p,.func (.func f) ⟨[]⟩ ⟨cs⟩] A (.int .i64 e) C:=by
 have l3:=h.l3 u3 rfl;have a1:bj .add .i64 ((n:Nat):Int) ((1:Nat):Int)=.ok (iN (n+1)):=fc (cS (by omega));obtain⟨B,sB,vB,nB,fB⟩:=df (tb:=I) (t:=3) (o:=3) (v:=iN (n+1)) Gu h.2 (by simp) rfl rfl;have l4:ax I B.get 3 (pw p 4)=.ok (iN 0):=c7 u3 rfl vB rfl;have l5:ax I B.get 4 (pw p 5)=.ok (.bool af):=c7 u4 rfl vB rfl;have hp:=h.1;refine⟨B,⟨by omega,vB⟩,nB,fB,λ f cs e C ⟨g,hg⟩=>?_⟩;simp only[pV];refine bQ (g) 60 (aN Tryz.func98) (by kernel_rfl) λ M hM=>?_
 simp(config:={maxSteps:=4000000})(disch:=first|decide+kernel|omega|simp only[Wq,V])only[Tryz.f98,Aq,au,reduceIte,V,ak,eW,CK,eO,bW,bV,ZH,l3,a1,sB,ZI,l4,fm,fk,gY,Fs,l5,hg]<;>rfl
def KT(P:aj->Prop)(A B:Mem):Prop:=A.next<=B.next/\(∀(e:aj) (z:Nat) (k:Kd) (l:List O),P e->VB A e z k l->B.get z=A.get z)/\∀z,ud A z->B.get z=A.get z
def KV(P:aj->Prop)(A B:Mem):Prop:=A.next<=B.next/\∀(e:aj) (z:Nat) (k:Kd) (l:List O),P e->VB A e z k l->B.get z=A.get z
section
variable {P:aj->Prop}{A B:Mem}
def KT.v(K:KT P A B):KV P A B:=⟨K.1,K.2.1⟩
variable (K:KV P A B)
include K
variable {z:Nat}{l:List O}
def KV.vb{e:aj}{k:Kd}(h:VB A e z k l)(hp:P e):VB B e z k l:=⟨dc h.1 K.1,h.2.same (K.2 _ _ _ _ hp h)⟩
variable {ls:List (List O)}
def KV.fx{e:aj}{b:Nat}{x:O}(h:ai A e n b ls x)(hp:P e):ai B e n b ls x:=by
 rcases h with h|⟨k,c,h1,h2,h3,h4⟩
 .exact .inl h
 .exact .inr ⟨k,c,h1,dc h2 K.1,h3.same (K.2 e b k _ hp ⟨h2,h3⟩),h4⟩
end
section
variable {P:aj->Prop}{A B:Mem}(K:KT P A B)
include K
variable {z:Nat}{l:List O}
def KT.vb{e:aj}{k:Kd}(h:VB A e z k l)(hp:P e):VB B e z k l:=⟨dc h.1 K.1,h.2.same (K.2.1 _ _ _ _ hp h)⟩
variable {ls:List (List O)}
def KT.fx{e:aj}{b:Nat}{x:O}(h:ai A e n b ls x)(hp:P e):ai B e n b ls x:=by
 rcases h with h|⟨k,c,h1,h2,h3,h4⟩
 .exact .inl h
 .exact .inr ⟨k,c,h1,dc h2 K.1,h3.same (K.2.1 e b k _ hp ⟨h2,h3⟩),h4⟩
variable {C:Mem}
def KT.trans(L:KT P B C):KT P A C:=⟨dp K.1 L.1,λ e z k l hp h=>by rw[L.2.1 e z k l hp (K.vb h hp),K.2.1 e z k l hp h],λ z h=>by
 have e:=K.2.2 z h;rw[<-e];obtain⟨h1,o,h2,h3⟩:=h;exact L.2.2 z ⟨dc h1 K.1,o,e.trans h2,h3⟩⟩
def KT.mono{Q:aj->Prop}(h:∀e,Q e->P e):KT Q A B:=⟨K.1,λ e z k l hp=>K.2.1 e z k l (h e hp),K.2.2⟩
def m_.kt{p ml mn b la:Nat}(h:m_ A p ml mn b k la ns)(hP:P 165/\P 297/\P 3/\P 9)(hm:∀(m:Nat) (es:List MapEntry) (c:Nat),A.get m=U (.map es c)->m=ml\/m=mn->B.get m=A.get m):m_ B p ml mn b k la ns:=by
 obtain⟨x,rows,h1,⟨h2,h3⟩,⟨h4,h5⟩,h6,h7,h8,h9,h10⟩:=h;refine⟨x,rows,K.vb h1 hP.1,⟨dc h2 K.1,by rw[hm _ _ _ h3 (.inl rfl)];exact h3⟩,⟨dc h4 K.1,by rw[hm _ _ _ h5 (.inr rfl)];exact h5⟩,h6,K.fx h7 hP.2.1,h8,h9,λ i w hw=>?_⟩;obtain⟨t,s,e1,e2,e3⟩:=h10 i w hw;exact⟨t,s,e1,K.vb e2 hP.2.2.1,K.vb e3 hP.2.2.2⟩
end
def Kp.kt{P:aj->Prop}{A B:Mem}(k:Kp A B):KT P A B:=⟨k.1,λ _ z _ _ _ h=>k.2 z h.1,λ z h=>k.2 z h.1⟩
variable {z r:Nat}{l:List O}
def ud.ne{A:Mem}{e:aj}{k:Kd}(h:ud A z)(hv:VB A e r k l):z≠r:=by
 rintro rfl;obtain⟨-,o,h1,h3⟩:=h;obtain⟨-,c',h2,-⟩:=hv;rw[h1]at h2;cases h2;exact h3
variable {c:Nat}{es:List MapEntry}
def ud.cN{A:Mem}(h:ud A z)(hm:A.get m=U (.map es c)):z≠m:=by
 rintro rfl;obtain⟨-,o,h1,h3⟩:=h;rw[h1]at hm;cases hm;exact h3
variable {ls:List (List O)}
def ud.J'{A:Mem}{e:aj}{b:Nat}{x:O}(h:ud A z)(hs:ai A e n b ls x)(h0:ls≠ []):z≠b:=by
 rcases hs with⟨-,hh⟩|⟨k',_,-,h1,h2,-⟩
 .exact aZ hh h0
 .exact h.ne (⟨h1,h2⟩:VB A e b k' _)
def KT.sQ{A B:Mem}{e:aj}{k:Kd}(hv:VB A e r k l)(h:A.next<=B.next)(hf:∀z,z<A.next->z≠r->B.get z=A.get z):KT (·≠e) A B:=⟨h,λ _ z _ _ he h=>hf z h.1 (h.ne hv he),λ z h=>hf z h.1 (h.ne hv)⟩
def dT(e:aj):Prop:=e≠101/\e≠165/\e≠297/\e≠228/\e≠332
instance {e:aj}:Decidable (dT e):=by unfold dT;infer_instance
def xV(A:Mem)(q:Nat)(f:List UInt8×List UInt8):Prop:=∃a,uc A q f.1 a (f.1++f.2)/\((f.2=[]/\a=.slice Y 0 0)\/(f.2≠ []/\∃b r,ai A 332 1 b [[qP r]] a/\VB A 9 r (.var 1) [ag f.2]))
def xV.kt{P:aj->Prop}{A B:Mem}{q:Nat}{f:List UInt8×List UInt8}(h:xV A q f)(K:KT P A B)(h1:B.get q=A.get q)(hP:P 332/\P 9):xV B q f:=by
 obtain⟨a,e1,e2⟩:=h;refine⟨a,⟨dc e1.1 K.1,e1.2.same h1⟩,?_⟩;rcases e2 with h|⟨h,b,r,e3,e4⟩
 .exact .inl h
 .exact .inr ⟨h,b,r,K.fx e3 hP.1,K.vb e4 hP.2⟩
structure cT where
 k:Nat
 la:Nat
 ns:List (List UInt8)
 fs:List (List UInt8×List UInt8)
 st:Nat
 q:Nat
def gW(A:Mem)(p:Nat)(D:cT)(pf ml mn b mf:Nat)(ps:List Nat):Prop:=
 VB A 101 p (.var 6) [pV pf,.map (U mf),.int .i64 D.q,.int .i64 D.st,iN 0,.bool af]/\m_ A pf ml mn b D.k D.la D.ns/\(mf<A.next/\A.get mf=U (.map (mR ps 0) (Z ps)))/\
 (Z ps=Z D.fs/\Z D.fs=Z D.ns/\ps.Nodup/\D.ns.Nodup)/\(∀(i:Nat) (f:List UInt8×List UInt8),D.fs[i]?=U f->∃q,ps[i]?=U q/\xV A q f)/\mf≠ml/\mf≠mn
def eu(A:Mem)(p:Nat)(D:cT):Prop:=∃pf ml mn b mf ps,gW A p D pf ml mn b mf ps
section
variable {A B:Mem}{p pf ml mn b mf:Nat}{D:cT}{ps:List Nat}
def gW.kp(h:gW A p D pf ml mn b mf ps)(k:Kp A B):gW B p D pf ml mn b mf ps:=by
 obtain⟨h1,h2,⟨h3,h3'⟩,h4,h5,h6⟩:=h;refine⟨h1.kp k,h2.kp k,⟨dc h3 k.1,by rw[k.2 _ h3];exact h3'⟩,h4,λ i f hf=>?_,h6⟩;obtain⟨q,e1,e2⟩:=h5 i f hf;exact⟨q,e1,e2.kt (P:=λ _=>True) (Kp.kt k) (k.2 q e2.choose_spec.1.1) ⟨trivial,trivial⟩⟩
def eu.kp(h:eu A p D)(k:Kp A B):eu B p D:=by
 obtain⟨pf,ml,mn,b,mf,ps,h⟩:=h;exact⟨pf,ml,mn,b,mf,ps,h.kp k⟩
def gW.file(h:gW A p D pf ml mn b mf ps){q:Nat}(hq:q∈ps):∃k l,VB A 228 q k l:=by
 obtain⟨-,-,-,⟨h4,-⟩,h5,-⟩:=h;obtain⟨i,hi,rfl⟩:=rA hq;obtain⟨q,e1,_,e2,-⟩:=h5 i _ (aV (by omega));rw[aV hi]at e1;cases e1;exact⟨_,_,e2⟩
def gW.qi2{D':cT}(h:gW A p D pf ml mn b mf ps)(hD:D'.k=D.k/\D'.la=D.la/\D'.ns=D.ns/\D'.fs=D.fs/\D'.q=D.q)(vB:VB B 101 p (.var 6) [pV pf,.map (U mf),.int .i64 D'.q,.int .i64 D'.st,iN 0,.bool af])
 (nB:A.next<=B.next)(fB:∀z,z<A.next->z≠p->B.get z=A.get z):gW B p D' pf ml mn b mf ps:=by
 obtain⟨h1,h2,⟨h3,h3'⟩,h4,h5,h6⟩:=h;obtain⟨d1,d2,d3,d4,d5⟩:=hD;have K:=KT.sQ h1 nB fB;refine⟨vB,by rw[d1,d2,d3];exact h2.kt K ⟨by decide,by decide,by decide,by decide⟩ λ m es c hm hl=>fB m (by have:=h2;obtain⟨_,_,-,⟨q,-⟩,⟨r,-⟩,-⟩:=this;rcases hl with rfl|rfl<;>assumption) (Ne.symm (h1.cN hm)),⟨by omega,by rw[fB mf h3 (Ne.symm (h1.cN h3'))];exact h3'⟩,by rw[d3,d4];exact h4,λ i f hf=>?_,h6⟩;rw[d4]at hf;obtain⟨q,e1,e2⟩:=h5 i f hf;exact⟨q,e1,e2.kt K (fB q e2.choose_spec.1.1 (VB.ne e2.choose_spec.1 h1 (by decide))) ⟨by decide,by decide⟩⟩
variable {i:Nat}
def gW.set{q:Nat}{f:List UInt8×List UInt8}(h:gW A p D pf ml mn b mf ps)(hi:ps[i]?=U q)(hf:xV B q f)(nB:A.next<=B.next)(fB:∀z,z<A.next->z≠q->B.get z=A.get z):gW B p {D with fs:=D.fs.set i f} pf ml mn b mf ps/\KT dT A B:=by
 have hq:=h.file (fh hi);obtain⟨h1,h2,⟨h3,h3'⟩,⟨h4,h4',h4n,h4m⟩,h5,h6⟩:=h;obtain⟨kq,lq,hq⟩:=hq;have K:=KT.sQ hq nB fB;have hil:=(bg.1 hi).1;refine⟨⟨K.vb h1 (by decide),h2.kt K ⟨by decide,by decide,by decide,by decide⟩ λ m es c hm hl=>fB m (by have:=h2;obtain⟨_,_,-,⟨q,-⟩,⟨r,-⟩,-⟩:=this;rcases hl with rfl|rfl<;>assumption) (Ne.symm (hq.cN hm)),⟨by omega,by rw[fB mf h3 (Ne.symm (hq.cN h3'))];exact h3'⟩,⟨by rw[dI];exact h4,by rw[dI];exact h4',h4n,h4m⟩,λ j g hg=>?_,h6⟩,K.mono λ e he=>he.2.2.2.1⟩;by_cases hj:i=j
 .subst hj;rw[Hn (by omega)]at hg;cases hg;exact⟨q,hi,hf⟩
 .rw[List.getElem?_set_ne hj]at hg;obtain⟨q',e1,e2⟩:=h5 j g hg;have hne:q'≠q:=by
   rintro rfl;obtain⟨hjl,ej⟩:=bg.1 e1;obtain⟨_,ei⟩:=bg.1 hi;rcases Nat.lt_or_gt_of_ne hj with hl|hl
   .exact ue.1 h4n i j hil hjl hl (ei.trans ej.symm)
   .exact ue.1 h4n j i hjl hil hl (ej.trans ei.symm)
  exact⟨q',e1,e2.kt K (fB q' e2.choose_spec.1.1 hne) ⟨by decide,by decide⟩⟩
def eX(D:cT):cT:={D with st:=D.st+1}
def gW.step(h:gW A p D pf ml mn b mf ps)(hs:D.st<1000):
 ∃B,gW B p (eX D) pf ml mn b mf ps/\B.next=A.next/\(∀z,z≠p->B.get z=A.get z)/\KT dT A B/\∀(f:Nat) (cs:List O) (e:Nat) (C:Mem),az I f cs B (.int .i64 e) C->az I 98 [pV p,.func (.func f) ⟨[]⟩ ⟨cs⟩] A (.int .i64 e) C:=by
 have h1:=h.1;obtain⟨B,vB,nB,fB,g⟩:=Si h1 hs;exact⟨B,h.qi2 ⟨rfl,rfl,rfl,rfl,rfl⟩ vB (by omega) λ z _=>fB z,nB,fB,(KT.sQ h1 (by omega) λ z _=>fB z).mono λ e he=>he.1,g⟩
def cT.all(D:cT):List (List UInt8×List UInt8):=D.ns.zip (D.fs.map λ f=>f.1++f.2)
def gW.at(h:gW A p D pf ml mn b mf ps):UZ A p D.all:=by
 obtain⟨h1,⟨x,rows,h2,-,⟨h3,h3'⟩,-⟩,⟨h4,h4'⟩,⟨h5,h5',-⟩,h6,-⟩:=h;have e1:D.all.map (·.1)=D.ns:=List.map_fst_zip (by rw[aR];omega);refine⟨pf,mf,mn,_,_,ps,_,_,_,_,_,_,h1,h2,⟨h3,by rw[e1];exact h3'⟩,⟨h4,h4'⟩,λ i s hs=>?_⟩;unfold cT.all at hs;rw[List.getElem?_zip_eq_some,da]at hs;obtain⟨-,hs⟩:=hs;cases hf:D.fs[i]? with
 |none=>rw[hf]at hs;cases hs
 |some f=>
  rw[hf]at hs;have hs:=je hs;obtain⟨q,e1,a,e2,-⟩:=h6 i f hf;exact⟨q,_,_,e1,by rw[<-hs];exact e2⟩
end
def rn:I.aB 52=U (.slice 9):=by kernel_rfl
def Ti:aY I 52=.ok 1:=by kernel_rfl
def qjP:cX I 52=.ok (.slice Y 0 0):=by kernel_rfl
def z9:aY I 9=.ok 1:=by kernel_rfl
def qjy:eR I 9=.ok (1,[.string .empty]):=by kernel_rfl
def qiD:∃i,I.ty.get 9=U i/\0<i.bytes/\i.bytes<=65536:=by
 have h:(I.ty.get 9).map (λ i=>aM 0 i.bytes&&au i.bytes 65536)=U aa:=by kernel_rfl
 cases hq:I.ty.get 9 with
 |none=>rw[hq]at h;cases h
 |some i=>
  rw[hq]at h;simp only[fZ,eM,dz,bT]at h;exact⟨i,rfl,h.1,fQ h.2⟩
def H2:eo I 52 1 [(0,ag w)]=.ok (ae 9 [ag w],.dy 1 2):=by kernel_rfl
abbrev wF (A:Mem) (b:Nat) (l:List (List UInt8)) (x:O):Prop:=ai A 9 1 b (l.map λ n=>[ag n]) x
def qfH:az I 85 [.map (U m)] A (.func (.func 138) ⟨[]⟩ ⟨[pV A.next]⟩) (A.alloc (ae 162 [.map (U m)])):=by
 simp only[pV];refine cG 60 (aN Tryz.func85) (by kernel_rfl) λ M=>?_
 simp(disch:=omega)only[Tryz.f85,Aq,V,IL,qU,fb]<;>rfl
def qfL{x:O}(hx:x.cells.toList=[x]):az I 86 [x] A (.func (.func 139) ⟨[]⟩ ⟨[pV A.next]⟩) (A.alloc (ae 52 [x])):=by
 simp only[pV];refine cG 60 (aN Tryz.func86) (by kernel_rfl) λ M=>?_
 simp(disch:=omega)only[Tryz.f86,Aq,V,hx,qU,fb]<;>rfl
def ai.Ey{e:aj}{x:O}(h:ai A e n b ls x)(k:A.next<=B.next)(hz:x=.slice Y 0 0\/B.get b=A.get b):ai B e n b ls x:=by
 rcases hz with rfl|hz
 .rcases h with h|⟨_,_,h,-⟩
  .exact .inl h
  .cases h
 .exact h.same k λ _=>hz
def Cw:=cg BQ
def Im:aH:=sub Cw [1,0,0]
def Xw:BQ.body=U (.seq (sub Cw [0]) (.block 0 (.loop Im))):=by kernel_rfl
def qgu{q lp:Nat}{x:O}{ls:List (List UInt8)}{Inv:Nat->Mem->Prop}(v1:VB B 52 q (.var 1) [x])(hx:wF B b ls x)(hl:Z ls<1000000)(hk:∀j D,Inv j D->B.next<=D.next/\D.get q=B.get q/\D.get b=B.get b)
 (hc:∀j n D,ls[j]?=U n->Inv j D->∃E,(∃g,∀M,g<=M->cH I (exec I M) (.round lp [ag n]) D=.ok (.val (.bool aa) E))/\Inv (j+1) E)(hI:Inv 0 B):
 ∃v C,az I 139 [.func (.yield lp) ⟨[]⟩ ⟨[]⟩,pV q] B v C/\Inv (Z ls) C:=by
 refine c_ (aN Tryz.func139) Xw (by kernel_rfl) ?_;have l1:=v1.l0 rn rfl;have len:=ai.len hx rn;rw[aR]at len;simp only[pV];apply W.q
 .intro M;simp(disch:=decide+kernel)only[Cw,BQ,Aq,V,l1,len];rfl
 apply W.block;refine W.up (Z ls) (λ j t D=>Inv j D/\Sl t [(0,.func (.yield lp) ⟨[]⟩ ⟨[]⟩),(5,x),(6,iN (Z ls)),(7,.int .i64 j)]) ?_ (a6 _) ⟨hI,?_⟩
 .rintro j t D hj ⟨hI,g0,g5,g6,g7,-⟩;by_cases hlt:j<Z ls
  .have hsj:=aV hlt;obtain⟨d1,-,d3⟩:=hk j D hI;have hxD:=hx.same d1 λ _=>d3
   have j1:=ai.idx (kd:=.i64) hxD rn z9 (by rw[aR];exact hlt);have j2:=ai.load (j:=0) hxD u9 rfl (show(ls.map λ n=>[ag n])[j]?=U [ag ls[j]] by rw[da,hsj];rfl) rfl (by omega);rw[dN]at j2;obtain⟨E,⟨g,hg⟩,hE⟩:=hc j _ D hsj hI;apply W.ct (g) 20
   .intro M hM;simp(disch:=first|decide+kernel|omega)only[Im,Cw,BQ,Aq,V,g0,g5,g6,g7,hlt,j1,j2,hg];rfl
   refine⟨hlt,_,E,rfl,hE,?_⟩;simp only[Sq,V,ak,g0,g5,g6]
  .have e:j=Z ls:=by omega
   subst e;apply W.run 20
   .intro M;simp(disch:=decide+kernel)only[Im,Cw,BQ,Aq,V,g6,g7];rfl
   exact⟨by simp,rfl,_,(by simp only[BQ,Aq,V]<;>rfl),hI⟩
 .simp only[Sq,V,ak]
def pz:=cg wz
def EO:aH:=sub pz [1,1,1,0,1,0,0]
def EP:aH:=sub pz [1,1,1,0,1,0,1]
def XV:wz.body=U (.seq (sub pz [0]) (.seq (sub pz [1,0]) (.seq (sub pz [1,1,0]) (.seq (.seq (sub pz [1,1,1,0,0]) (.block 0 (.rangeFunc (.tmp 14) #[15] EO EP))) (.seq (sub pz [1,1,1,1,0]) (sub pz [1,1,1,1,1])))))):=by kernel_rfl
theorem OE:∀l:List (List UInt8),(l.map λ n=>[ag n]).flatten=l.map ag
 | []=>rfl
 |n::l=>by rw[eU,s9,OE l];rfl
def lL(t:T O)(d:Nat):eT:=gR t 21 [15] EO EP d
def oY(ns:List (List UInt8)):Prop:=ns.Nodup/\Z ns<1000/\∀n∈ns,Z n<1000
variable {y:O}
def qfM{a x:O}(h:VB A 165 p (.var 4) [a,.map (U m),x,y])(hm:m<A.next/\A.get m=U (.map (dh ns 0) (Z ns)))(hn:oY ns):
 ∃v A',az I 40 [pV p] A v A'/\(∃b,wF A' b (kP ns) v)/\Kp A A':=by
 refine mc (aN Tryz.func40) XV (by rw[Tryz.ntmps40];simp) (by kernel_rfl) (by kernel_rfl) ?_;generalize hk:A.next=k
 have sl:(kP ns).length=Z ns:=List.length_mergeSort ns;have hlen:=hn.2.1;have kB:=Kp.alloc A (ae 52 [.slice Y 0 0]);have vB:=aK A 52 [.slice Y 0 0];have nB:(A.alloc (ae 52 [.slice Y 0 0])).next=k+1:=by rw[aA,hk]
 rw[hk]at vB;simp only[pV];apply W.q
 .intro M;simp(disch:=omega)only[pz,wz,Aq,V,qjP,hk];rfl
 generalize A.alloc (ae 52 [.slice Y 0 0])=B at*;have lm:=(h.kp kB).l1 pM rfl;obtain⟨g1,h1⟩:=qfH;have kC:=Kp.alloc B (ae 162 [.map (U m)]);have vC:=aK B 162 [.map (U m)];have nC:(B.alloc (ae 162 [.map (U m)])).next=k+2:=by rw[aA,nB]
 rw[nB]at vC;generalize B.alloc (ae 162 [.map (U m)])=C at*;have hmC:C.get m=U (.map (dh ns 0) (Z ns)):=by rw[(kB.trans kC).2 m hm.1];exact hm.2
 have sat:tf [.func (.func 138) ⟨[]⟩ ⟨[pw (k+1) 0]⟩] C ns:=⟨k+1,m,rfl,vC,hmC,hn.1,hn.2⟩;have h2:=λ ih=>qbd (ih:=ih) sat
 obtain⟨z,ob,e2,hS⟩:∃z ob,pJ ns C=(z,C.alloc ob)/\wF (C.alloc ob) (k+2) (kP ns) z:=by
  unfold pJ;by_cases h0:ns=[]
  .rw[aC h0];exact⟨_,_,rfl,.inl ⟨rfl,by rw[eQ.1 (sl.trans (by rw[h0];rfl))];rfl⟩⟩
  .rw[aq h0,nC];exact⟨_,_,rfl,.inr ⟨.row,cu (Z ns) 1,by rw[aR,sl],by rw[aA];omega,⟨_,by rw[<-nC];exact cR _ _,λ j hj=>by
    rw[OE]at hj⊢;rw[T.oO,aC (by omega)];rfl⟩,λ l hl=>by
    obtain⟨n,-,rfl⟩:=dA.1 hl;rfl,.inr ⟨by rw[aR,sl],.inl rfl⟩⟩⟩
 rw[e2]at h2;have kD:=Kp.alloc C ob;have nD:(C.alloc ob).next=k+3:=by rw[aA,nC]
 simp only[pV]at h1;rw[nB]at h1;apply W.ie (g1)
 .intro M hM _;simp(disch:=first|decide+kernel|omega)only[pz,wz,Aq,V,eW,wY,eO,bW,bV,w_,lm,h1,h2];rfl
 clear e2;generalize C.alloc ob=D at*;obtain⟨g3,h3⟩:=qfL (ai.di hS).1;have kE:=Kp.alloc D (ae 52 [z]);have vE:=aK D 52 [z];have nE:(D.alloc (ae 52 [z])).next=k+4:=by rw[aA,nD]
 simp only[pV]at h3;rw[nD]at h3 vE;apply W.seq;apply W.qG (g3)
 .intro M hM;simp(disch:=omega)only[pz,wz,Aq,V,h3];rfl
 generalize D.alloc (ae 52 [z])=E at*;apply W.block;generalize ht0:T.set _ _ _=t0;have hsl:Sl t0 [(2,pV k),(14,.func (.func 139) ⟨[]⟩ ⟨[pV (k+3)]⟩)]:=by
  rw[<-ht0];simp only[Sq,V,ak,pV]
 clear ht0;obtain⟨s2,s14,-⟩:=hsl;have nJ1:(E.alloc .defd).next=k+5:=by rw[aA,nE]
 have kJ:=(Kp.alloc E .defd).trans (Kp.alloc (E.alloc .defd) (.loop (lL t0 (k+4))));have nJ:((E.alloc .defd).alloc (.loop (lL t0 (k+4)))).next=k+6:=by rw[aA,nJ1]
 have jL:((E.alloc .defd).alloc (.loop (lL t0 (k+4)))).get (k+5)=U (.loop (lL t0 (k+4))):=by have:=cR (E.alloc .defd) (.loop (lL t0 (k+4)));rwa[nJ1]at this
 have jM:((E.alloc .defd).alloc (.loop (lL t0 (k+4)))).get (k+4)=U .defd:=by rw[(Kp.alloc (E.alloc .defd) _).2 _ (by omega),<-nE];exact cR E .defd
 generalize hJ:(E.alloc .defd).alloc (.loop (lL t0 (k+4)))=J at kJ nJ jL jM;have kDJ:=kE.trans kJ;have hSJ:=hS.same kDJ.1 (kDJ.2 _);have vBJ:=(((vB.kp kC).kp kD).kp kE).kp kJ;obtain⟨ti,t1,t2,t3⟩:=qiD;obtain⟨v,M,hM,hI⟩:=qgu (Inv:=λ j D=>(J.next<=D.next/\∀z,z<J.next->z≠k->z≠k+5->D.get z=J.get z)/\D.get (k+5)=U (.loop (lL t0 (k+4)))/\∃y b,VB D 52 k (.var 1) [y]/\wF D b ((kP ns).take j) y/\(b<k+6->y=.slice Y 0 0)) (vE.kp kJ) hSJ (by omega) (λ j D ⟨⟨d1,d2⟩,_⟩=>⟨d1,d2 _ (by omega) (by omega) (by omega),d2 _ (by omega) (by omega) (by omega)⟩) (λ j n D hj ⟨⟨d1,d2⟩,d3,y,b,d4,d5,d6⟩=>by
  generalize hF:D.set (k+5) (.loop {lL t0 (k+4)with state:=.busy})=F;have nF:F.next=D.next:=by rw[<-hF];exact cE _ _ _
  have fF:∀z,z≠k+5->F.get z=D.get z:=λ z hz=>by rw[<-hF,cr,aq hz]
  have hLF:F.get (k+5)=U (.loop {lL t0 (k+4)with state:=.busy}):=by rw[<-hF,cr,aC rfl]
  have lF:ax I F.get 52 (pw k 0)=.ok y:=c7 rn rfl (d4.2.same (fF k (by omega))) rfl;have kG:=Kp.alloc F (ae 9 [ag n]);have d5F:wF F b ((kP ns).take j) y:=ai.Ey d5 (by omega) (by
   by_cases hb:b<k+6
   .exact .inl (d6 hb)
   .exact .inr (fF b (by omega)))
  obtain⟨y',G,happ,hs3,hn3,hf3⟩:=(d5F.same kG.1 (kG.2 b)).append rn rn qjy t1 t2 t3 (by omega) (by omega) (by rw[aR,db];omega) (cR F _) rfl (by simp[ag,bI]);rw[aA]at hs3 hn3 hf3;have fG:∀z,z<k+6->G.get z=F.get z:=λ z hz=>by rw[hf3 z (λ e=>d6 (by omega)) (by omega),kG.2 z (by omega)]
  obtain⟨H,sH,vH,nH,fH⟩:=df (o:=0) (v:=y') Ti (d4.2.same (by rw[fG k (by omega),fF k (by omega)])) (by simp) (ai.di hs3).1 (ai.di hs3).2;have bs:=H2 (w:=n);have hq:∃C,(∃g,∀N,g<=N->cH I (exec I N) (.round (k+5) [ag n]) D=.ok (.val (.bool aa) C))/\C=H.set (k+5) (.loop (lL t0 (k+4))):=by
   refine xF d3 (t:=t0.set 15 (ag n)) rfl ?_;show W I EO ⟨_,21,[],D,U (k+5)⟩ _;simp only[pV]at s2;apply W.run 20
   .intro M;simp(disch:=first|decide+kernel|omega)only[EO,pz,wz,Aq,V];rfl
   refine⟨rfl,_,d3,rfl,?_⟩;show W I EP ⟨_,21,[],D.set (k+5) (.loop {lL t0 (k+4)with state:=.busy}),U (k+5)⟩ _;rw[hF];apply W.run 20
   .intro M;simp(disch:=first|decide+kernel|omega)only[EP,pz,wz,Aq,V,s2,lF,bs,happ,sH];rfl
   exact⟨rfl,rfl,_,by rw[fH _ (by omega),fG _ (by omega)];exact hLF,rfl⟩
  obtain⟨C,hc,rfl⟩:=hq;have fr:∀z,z≠k+5->(H.set (k+5) (.loop (lL t0 (k+4)))).get z=H.get z:=λ z hz=>by rw[cr,aq hz]
  have nr:(H.set (k+5) (.loop (lL t0 (k+4)))).next=H.next:=cE _ _ _
  refine⟨_,hc,⟨by omega,λ z hz h1 h2=>by rw[fr z h2,fH z h1,fG z (by omega),fF z h2,d2 z hz h1 h2]⟩,by rw[cr,aC rfl],y',F.next+1,⟨by omega,vH.same (fr k (by omega))⟩,?_,λ h=>by omega⟩;have e:=hs3.same (A':=H.set (k+5) (.loop (lL t0 (k+4)))) (by omega) λ _=>by rw[fr _ (by omega),fH _ (by omega)]
  rw[zR,hj];show ai _ _ _ _ (((kP ns).take j++[n]).map _) _;rw[fY];exact e) ⟨⟨aJ _,λ _ _ _ _=>rfl⟩,jL,.slice Y 0 0,k+6,vBJ,ai.nil _ _ _ _,λ h=>by omega⟩
 rw[dY]at hI;obtain⟨⟨i1,i2⟩,i3,y,b,i4,i5,i6⟩:=hI;refine W.qn (fid:=139) (first:=[]) (capt:=[pV (k+3)]) (v:=v) (A':=M) (r:=lL t0 (k+4)) (by simp only[ev,s14]) (by
  rw[nE];show az I 139 _ ((E.alloc .defd).alloc (.loop (lL t0 (k+4)))) v M;rw[hJ];exact hM) (by rw[nE];exact i3) (by simp[lL,gR]) rfl ?_
 rw[nE];generalize hN:M.set (k+5) (.loop {lL t0 (k+4)with state:=.exhausted})=N;have nN:N.next=M.next:=by rw[<-hN];exact cE _ _ _
 have fN:∀z,z≠k+5->N.get z=M.get z:=λ z hz=>by rw[<-hN,cr,aq hz]
 have lN:ax I N.get 52 (pw k 0)=.ok y:=c7 rn rfl (i4.2.same (fN k (by omega))) rfl;obtain⟨qjT,sO,vO,nO,fO⟩:=df (tb:=I) (t:=52) (o:=0) (v:=y) Ti (i4.2.same (fN k (by omega))) (by simp) (ai.di i5).1 (ai.di i5).2;obtain⟨Q,m1,m2,m3⟩:=tX [k+4] qjT (by simp) (λ d hd=>by
  rw[ee.1 hd,fO _ (by omega),fN _ (by omega),i2 _ (by omega) (by omega) (by omega)];exact jM)
 have lQ:ax I Q.get 52 (pw k 0)=.ok y:=c7 rn rfl (vO.same (m3 k (by simp))) rfl;simp only[pV]at s2;apply W.run 40
 .intro M;simp(disch:=omega)only[pz,wz,Aq,V,s2,lN,sO];rfl
 refine⟨.inr rfl,Q,_,m1,(by simp only[wz,s2,lQ,Aq,V]<;>rfl),⟨b,?_⟩,by omega,λ z hz=>?_⟩
 .refine ai.Ey i5 (by omega) ?_;by_cases hb:b<k+6
  .exact .inl (i6 hb)
  .exact .inr (by rw[m3 b (by simp;omega),fO b (by omega),fN b (by omega)])
 .rw[m3 z (by simp;omega),fO z (by omega),fN z (by omega),i2 z (by omega) (by omega) (by omega),kDJ.2 z (by omega),kD.2 z (by omega),kC.2 z (by omega),kB.2 z (by omega)]
def A5{st e:Nat}{D:Mem}{r:List O}{x:O}(ht:pI st e n=aa)(h:ai D e n b ls x)(hl:Z ls<1000000)(hr:Z r=n)(h1:∀v∈r,bI v=aa):
 ∃x' D',dm I (D.alloc (ae e r)) st st x (.slice (U ⟨D.next,0,Y⟩) 1 2)=.ok (x',D')/\ai D' e n (D.next+1) (ls++[r]) x'/\D'.next=D.next+2/\KT (·≠e) D D'/\∀z,z<D.next->(z=b->x=.slice Y 0 0)->D'.get z=D.get z:=by
 obtain⟨hu,⟨z,hz⟩,hs,⟨i,t1,t2,t3⟩,n0,n1⟩:=A4 ht;have h':ai (D.alloc (ae e r)) e n b ls x:=h.same (by rw[aA];omega) λ hh=>c9 (by omega)
 obtain⟨x',D',g1,g2,g3,g4⟩:=ai.append h' hu hu hz t1 t2 t3 n0 n1 (by omega) (cR D _) hr h1;rw[aA]at g2 g3 g4;have g5:∀z,z<D.next->(z=b->x=.slice Y 0 0)->D'.get z=D.get z:=λ z hz hb=>by rw[g4 z hb (by omega),c9 (by omega)]
 refine⟨x',D',g1,g2,by omega,⟨by omega,λ e' z k l he hv=>g5 z hv.1 λ hzb=>?_,λ z hf=>g5 z hf.1 λ hzb=>?_⟩,g5⟩
 .rcases h with⟨h,-⟩|⟨k',c,-,q1,q2,-⟩
  .exact h
  .exact aZ hzb (VB.ne hv (⟨q1,q2⟩:VB D e b k' _) he)
 .rcases h with⟨h,-⟩|⟨k',c,-,q1,q2,-⟩
  .exact h
  .exact aZ hzb (hf.ne (⟨q1,q2⟩:VB D e b k' _))
def qgQ:pI 40 44 3=aa:=by kernel_rfl
def qiN:∃d,I.aB 130=U d/\cW d=af:=b9 (by kernel_rfl)
variable {e:aD}
def qgF:az I 74 [.agg ⟨aS e⟩] A (.bool aa) (A.alloc (ae 44 (aS e))):=by
 refine cG 60 (b_ Tryz.func74) (by kernel_rfl) λ M=>?_
 simp(disch:=omega)only[Tryz.f74,Aq,V,aX]<;>rfl
def r_:=cg yH
def Cy:aH:=sub r_ [1,0,1,0,0]
def Cz:aH:=sub r_ [1,0,1,0,1]
def XW:yH.body=U (.seq (sub r_ [0]) (.seq (.seq (sub r_ [1,0,0]) (.block 0 (.rangeFunc (.tmp 6) #[7] Cy Cz))) (.seq (sub r_ [1,1,0]) (sub r_ [1,1,1])))):=by kernel_rfl
def j6(t:T O)(d:Nat):eT:=gR t 16 [7] Cy Cz d
abbrev sX:O:=.func (.func 74) ⟨[]⟩ ⟨[]⟩
def QG(es:List aD)(t:T O)(mk a:Nat)(j:Nat)(D:Mem)(r:Nat):Prop:=
 (r=a+1\/mk+2<=r)/\r<D.next/\mk+2<=D.next/\VB D 130 a (.var 1) [sX]/\(∃x,VB D 40 (a+1) (.var 1) [x]/\ai D 44 3 r ((es.take j).map aS) x/\(x=.slice Y 0 0\/mk+2<=r))/\D.get (mk+1)=U (.loop (j6 t mk))
variable {t:T O}{mk:Nat}
def QG.gF{es:List aD}{a:Nat}(hn:n=mk+2)(ha:a+1<mk):∀j D E r,QG es t mk a j D r->D.next<=E.next->(∀z,(z<n\/z=r)->E.get z=D.get z)->QG es t mk a j E r:=by
 rintro j D E r ⟨h1,h2,h3,h4,⟨x,h5,h6,h8⟩,h7⟩ hl hz;exact⟨h1,by omega,by omega,⟨by have:=h4.1;omega,h4.2.same (hz _ (by omega))⟩,⟨x,⟨by have:=h5.1;omega,h5.2.same (hz _ (by omega))⟩,h6.same hl λ _=>hz _ (.inr rfl),h8⟩,by rw[hz _ (by omega)];exact h7⟩
def YW{es:List aD}{a:Nat}(hn:Z es<1000000)(ha:a+1<mk)(hs:Sl t [(3,pV a),(4,pV (a+1))]):LV [a+1,mk+1] (mk+1) es (QG es t mk a):=by
 rintro j e D r hej ⟨hr,hrD,hm,v3,⟨x,v4,hS,hx0⟩,hlp⟩;obtain⟨g3,g4,-⟩:=hs;obtain⟨hjl,hje⟩:=bg.1 hej;have kE:=Kp.alloc D (ae 44 (aS e));have vE:=aK D 44 (aS e);have nE:=aA D (ae 44 (aS e));have sE:bX I (D.alloc (ae 44 [ag [],wN 0,.bool af])) 44 (pw D.next 0) (.agg ⟨aS e⟩)=.ok (D.alloc (ae 44 (aS e))):=ep jd rfl rfl (by simp) (wX _);generalize D.alloc (ae 44 (aS e))=E at kE vE nE sE;have hLE:E.get (mk+1)=U (.loop (j6 t mk)):=by rw[kE.2 _ (by omega)];exact hlp
 generalize hF1:E.set (mk+1) (.loop {j6 t mk with state:=.busy})=F;have nF:F.next=E.next:=by rw[<-hF1];exact cE _ _ _
 have fF:∀z,z≠mk+1->F.get z=E.get z:=λ z hz=>by rw[<-hF1,cr,aq hz]
 have hLF:F.get (mk+1)=U (.loop {j6 t mk with state:=.busy}):=by rw[<-hF1,cr,aC rfl]
 obtain⟨d,hd1,hd2⟩:=b9 FB;have vF:VB F 44 D.next (.var 3) (aS e):=⟨by omega,vE.2.same (fF _ (by omega))⟩
 have lF:=bU (l:=aS e) hd1 hd2 jd vF.2;obtain⟨d',hd1',hd2'⟩:=qiN;have v3D:=v3.1;have v4D:=v4.1;have l3:ax I F.get 130 (pw a 0)=.ok sX:=c7 hd1' hd2' (v3.2.same (by rw[fF _ (by omega),kE.2 _ v3.1])) rfl;obtain⟨go,hgo⟩:=qgF;have kG:=Kp.alloc F (ae 44 (aS e));have nG:=aA F (ae 44 (aS e));generalize F.alloc (ae 44 (aS e))=G at hgo kG nG;have fG:∀z,z<D.next->z≠mk+1->G.get z=D.get z:=λ z hz h=>by rw[kG.2 z (by omega),fF z h,kE.2 z hz]
 have l5:=bU (l:=aS e) hd1 hd2 jd (vF.kp kG).2;have hSG:=hS.same (by omega) λ h=>fG r h (by omega)
 have l4:ax I G.get 40 (pw (a+1) 0)=.ok x:=c7 mB rfl (v4.2.same (fG _ v4.1 (by omega))) rfl;obtain⟨x',qjV,happ,hSI,nI,-,fI⟩:=A5 qgQ hSG (by rw[aR,db];omega) rfl (wX _);have et:(es.take j).map aS++[aS e]=(es.take (j+1)).map aS:=by rw[eH hjl,hje,fY];rfl
 rw[et]at hSI;have l4':ax I (G.alloc (ae 44 (aS e))).get 40 (pw (a+1) 0)=.ok x:=by rw[qbI (by omega)];exact l4
 have v4I:=v4.2.same (by rw[fI _ (by omega) (λ e=>hx0.elim id λ h=>by omega),fG _ v4.1 (by omega)]);obtain⟨xc1,xc2⟩:=ai.di hSI;obtain⟨N,sN,vN,nN,fN⟩:=df (o:=0) zf v4I (by simp) xc1 xc2;have hSN:=hSI.same (by omega) λ _=>fN _ (by omega)
 have fND:∀z,z<D.next->z≠mk+1->z≠a+1->z≠r->N.get z=D.get z:=λ z hz h1 h2 h3=>by rw[fN z h2,fI z (by omega) (λ e=>aZ e h3),fG z hz h1]
 have hlN:N.get (mk+1)=U (.loop {j6 t mk with state:=.busy}):=by rw[fN _ (by omega),fI _ (by omega) (λ e=>hx0.elim id λ h=>by omega),kG.2 _ (by omega)];exact hLF
 simp only[pV]at g3 g4;have hq:∃C,(∃g,∀N,g<=N->cH I (exec I N) (.round (mk+1) [.agg ⟨aS e⟩]) D=.ok (.val (.bool aa) C))/\C=N.set (mk+1) (.loop (j6 t mk)):=by
  refine xF hlp (t:=t.set 7 (.agg ⟨aS e⟩)) rfl ?_;show W I Cy ⟨_,16,[],D,U (mk+1)⟩ _;apply W.run 20
  .intro M;simp(disch:=omega)only[Cy,r_,yH,Aq,V,zz,aX,sE];rfl
  refine⟨rfl,_,hLE,rfl,?_⟩;show W I Cz ⟨_,16,[],E.set (mk+1) (.loop {j6 t mk with state:=.busy}),U (mk+1)⟩ _;rw[hF1];apply W.ct (go) 20
  .intro M hM;simp(disch:=first|decide+kernel|omega|simp only[Wq,V])only[Cz,r_,yH,Aq,au,reduceIte,V,ak,g3,g4,l3,lF,hgo,l4,l4',l5,wK,happ,sN,Fq,bY []];rfl
  exact⟨rfl,rfl,_,hlN,rfl⟩
 obtain⟨C,hc,rfl⟩:=hq;have nC:(N.set (mk+1) (.loop (j6 t mk))).next=N.next:=cE _ _ _
 have fC:∀z,z≠mk+1->(N.set (mk+1) (.loop (j6 t mk))).get z=N.get z:=λ z h=>by rw[cr,aq h]
 have lC:(N.set (mk+1) (.loop (j6 t mk))).get (mk+1)=U (.loop (j6 t mk)):=by rw[cr,aC rfl]
 generalize N.set (mk+1) (.loop (j6 t mk))=C at hc nC fC lC;have v3C:VB C 130 a (.var 1) [sX]:=⟨by omega,v3.2.same (by rw[fC _ (by omega),fND _ v3.1 (by omega) (by omega) (by omega)])⟩;refine⟨C,G.next+1,hc,⟨.inr (by omega),by omega,by omega,v3C,⟨x',⟨by omega,de.same vN (fC _ (by omega))⟩,hSN.same (by omega) λ _=>fC _ (by omega),.inr (by omega)⟩,lC⟩,by omega,.inr (by omega),λ z hz hx hr'=>?_⟩;simp only[cC,en,or_false,not_or]at hx;rw[fC z hx.2,fND z hz hx.2 hx.1 hr']
theorem Da:∀(f:Nat) (L:List (List aD)),(eV f L).length<=f
 |0,_=>aJ _
 |f+1,L=>by
  unfold eV;cases ph L Y with
  |none=>exact a6 _
  |some e=>exact Nat.succ_le_succ (Da f _)
variable {L:List (List aD)}
def qfs{x:O}{p1 p2:Nat}(hx:BG A L x)(hl:Z L<1000000)(ht:total L<1000000)(kB:Kp A B)(v1:VB B 34 p1 (.var 1) [x])(v2:VB B 128 p2 (.var 1) [lR]):
 ∃v C,az I 73 [.func (.func 128) ⟨[]⟩ ⟨[pV p1,pV p2]⟩,sX] B v C/\dK C (eV (total L) L) v/\Kp B C:=by
 refine mc (aN Tryz.func73) XW (by rw[Tryz.ntmps73];simp) (by kernel_rfl) (by kernel_rfl) ?_;have hes:=Da (total L) L;generalize ha:B.next=a
 have n1:(B.alloc (ae 130 [sX])).next=a+1:=by rw[aA,ha]
 have n2:((B.alloc (ae 130 [sX])).alloc (ae 40 [.slice Y 0 0])).next=a+2:=by rw[aA,n1]
 have q1:=Kp.alloc B (ae 130 [sX]);have q2:=Kp.alloc (B.alloc (ae 130 [sX])) (ae 40 [.slice Y 0 0]);have w3:=(aK B 130 [sX]).kp q2;have w4:=aK (B.alloc (ae 130 [sX])) 40 [.slice Y 0 0];have hk:=q1.trans q2;rw[ha]at w3;rw[n1]at w4;apply W.q
 .intro M;simp(disch:=omega)only[r_,yH,Aq,V,tL,yQ,ha,n1,LI];rfl
 generalize (B.alloc (ae 130 [sX])).alloc (ae 40 [.slice Y 0 0])=C at hk n2 w3 w4;apply W.seq;apply W.q
 .intro M;simp(disch:=omega)only[r_,yH,Aq,V];rfl
 apply W.block;generalize ht0:T.set _ _ _=t0;have hsl:Sl t0 [(3,pV a),(4,pV (a+1)),(6,.func (.func 128) ⟨[]⟩ ⟨[pV p1,pV p2]⟩)]:=by
  rw[<-ht0];simp only[Sq,V,ak,pV]
 clear ht0;obtain⟨h3,h4,h6,-⟩:=hsl;have kJ:=(Kp.alloc C .defd).trans (Kp.alloc (C.alloc .defd) (.loop (j6 t0 C.next)));have nJ1:=aA C .defd;have nJ:((C.alloc .defd).alloc (.loop (j6 t0 C.next))).next=C.next+2:=by rw[aA,nJ1]
 have jL:((C.alloc .defd).alloc (.loop (j6 t0 C.next))).get (C.next+1)=U (.loop (j6 t0 C.next)):=by have:=cR (C.alloc .defd) (.loop (j6 t0 C.next));rwa[nJ1]at this
 have jM:((C.alloc .defd).alloc (.loop (j6 t0 C.next))).get C.next=U .defd:=by rw[(Kp.alloc (C.alloc .defd) _).2 _ (by omega)];exact cR C .defd
 generalize hJ:(C.alloc .defd).alloc (.loop (j6 t0 C.next))=J at kJ nJ jL jM;have kBJ:=hk.trans kJ;have hAB:=kB.1;have p1B:=v1.1;have p2B:=v2.1;have hI:QG (eV (total L) L) t0 C.next a 0 J (a+1):=⟨.inl rfl,by omega,by omega,w3.kp kJ,⟨_,w4.kp kJ,.inl ⟨rfl,rfl⟩,.inl rfl⟩,jL⟩
 obtain⟨va,E,hA,r,hQE,hFE⟩:=qgs hx hl (kB.trans kBJ) (v1.kp kBJ) (v2.kp kBJ) (YW (by omega) (by omega) ⟨h3,h4,trivial⟩)
  (QG.gF nJ (by omega)) (λ z hz=>by
   simp only[cC,en,or_false]at hz;omega) (λ j D r h=>h.2.1) hI
 obtain⟨e1,e2,e3,e4,⟨y,e5,e6,e8⟩,e7⟩:=hQE;rw[dY]at e6;have hans:az I 128 ([]++[.func (.yield (C.next+1)) ⟨[]⟩ ⟨[]⟩]++[pV p1,pV p2]) ((C.alloc .defd).alloc (.loop (gR t0 16 [7] Cy Cz C.next))) va E:=by
  show az I 128 _ ((C.alloc .defd).alloc (.loop (j6 t0 C.next))) va E;rw[hJ];exact hA
 have hev:ev t0 (.tmp 6)=.ok (.func (.func 128) ⟨[]⟩ ⟨[pV p1,pV p2]⟩):=by simp only[ev,h6]
 refine W.qn hev hans e7 (by intro h;cases h) rfl ?_;generalize hK:E.set (C.next+1) (.loop {(j6 t0 C.next:eT)with state:=.exhausted})=K;have nK:K.next=E.next:=by rw[<-hK];exact cE _ _ _
 have fK:∀z,z≠C.next+1->K.get z=E.get z:=λ z hz=>by rw[<-hK,cr,aq hz]
 have nE:=hFE.1;have w4K:=e5.2.same (fK _ (by omega));have l4:ax I K.get 40 (pw (a+1) 0)=.ok y:=c7 mB rfl w4K rfl;obtain⟨xc1,xc2⟩:=ai.di e6;obtain⟨N,sN,vN,nN,fN⟩:=df (o:=0) zf w4K (by simp) xc1 xc2;simp only[pV]at h4;apply W.run 40
 .intro M;simp(disch:=omega)only[r_,yH,Aq,V,h4,l4,sN];rfl
 have mE:E.get C.next=U .defd:=by rw[hFE.2.2 _ (by omega) (by simp;omega) (by omega),jM]
 obtain⟨qjT,t1,t2,t3⟩:=tX [C.next] N (by simp) (λ d hd=>by
  rw[ee]at hd;rw[hd,fN _ (by omega),fK _ (by omega)];exact mE)
 have lO:ax I qjT.get 40 (pw (a+1) 0)=.ok y:=c7 mB rfl (vN.same (t3 _ (by simp;omega))) rfl;have hO:dK qjT (eV (total L) L) y:=⟨r,ai.Ey e6 (by omega) (e8.imp_right λ h=>by rw[t3 _ (by simp;omega),fN _ (by omega),fK _ (by omega)])⟩;have kO:Kp B qjT:=⟨by omega,λ z hz=>by rw[t3 _ (by simp;omega),fN _ (by omega),fK _ (by omega),hFE.2.2 z (by omega) (by simp;omega) (by omega),kBJ.2 z (by omega)]⟩;exact⟨.inr rfl,qjT,[y],t1,(by simp only[yH,Aq,V,h4,lO]<;>rfl),hO,kO⟩
def KL{x:O}(hx:BG A L x)(hl:Z L<1000000)(ht:total L<1000000):∃v A',az I 26 [x] A v A'/\dK A' (eV (total L) L) v/\Kp A A':=by
 have hc:x.cells.toList=[x]:=by
  obtain⟨_,_,h,-⟩:=hx;exact(ai.di h).1
 have k1:=Kp.alloc A (ae 128 [lR]);have k2:=Kp.alloc (A.alloc (ae 128 [lR])) (ae 34 [x]);have n1:=aA A (ae 128 [lR]);have v1:=(aK A 128 [lR]).kp k2;have v2:=aK (A.alloc (ae 128 [lR])) 34 [x];have a71:az I 71 [lR,x] A (.func (.func 128) ⟨[]⟩ ⟨[pV (A.next+1),pV A.next]⟩) ((A.alloc (ae 128 [lR])).alloc (ae 34 [x])):=by
  simp only[pV];refine cG 60 (b_ Tryz.func71) (by kernel_rfl) λ M=>?_
  simp(disch:=omega)only[Tryz.f71,Aq,V,tL,hc,n1,qU,fb]<;>rfl
 rw[n1]at v2;obtain⟨g1,h1⟩:=a71;generalize (A.alloc (ae 128 [lR])).alloc (ae 34 [x])=B at v1 v2 h1 k2;obtain⟨v,C,⟨g2,h2⟩,hC,kC⟩:=qfs hx hl ht (k1.trans k2) v2 v1;refine⟨v,C,?_,hC,(k1.trans k2).trans kC⟩;have e72:=λ t=>sr t 72
 have e74:=λ t=>sr t 74
 refine bQ (g1+g2) 60 (b_ Tryz.func26) (by kernel_rfl) λ M hM=>?_
 simp(disch:=omega)only[Tryz.f26,Aq,V,h1,h2,e72,e74,kx]<;>rfl
def eZ.kt{P:aj->Prop}{e:Nat}{x:O}(K:KV P A B)(h:eZ A e n ls x)(hp:P e):eZ B e n ls x:=by
 rcases h with h|⟨b,c,p,w,h1,h2,h3⟩
 .exact .inl h
 .exact .inr ⟨b,c,p,w,h1,K.fx h2 hp,h3⟩
variable {vs:List O}
def jF.kt{P:aj->Prop}(h:jF A L vs)(K:KV P A B)(hp:P 44):jF B L vs:=⟨h.1,λ i l v h1 h2=>eZ.kt K (h.2 i l v h1 h2) hp⟩
def jF.snoc{l:List aD}{v:O}(h:jF A L vs)(hv:qH A l v):jF A (L++[l]) (vs++[v]):=by
 refine⟨by rw[aU,aU,h.1];rfl,λ i l' v' h1 h2=>?_⟩;by_cases hi:i<Z L
 .rw[eG hi]at h1;rw[eG (by rw[h.1];exact hi)]at h2;exact h.2 i l' v' h1 h2
 .rw[ez (by omega)]at h1;rw[ez (by rw[h.1];omega),h.1]at h2;obtain⟨h3,rfl⟩:=bg.1 h1;have h4:i-Z L=0:=by simp at h3;omega
  simp only[h4,dX,eM]at h2⊢;subst h2;exact hv
def rY:=cg wq
def EM:aH:=sub rY [1,0,1,0,0]
def XP:wq.body=U (.seq (sub rY [0]) (.seq (.seq (sub rY [1,0,0]) (.block 0 (.loop EM))) (.seq (sub rY [1,1,0]) (sub rY [1,1,1])))):=by kernel_rfl
def Sw{l:List aD}{x:O}(h:dK A l x)(hl:Z l<1000000):∃v A',az I 27 [x] A v A'/\dK A' (Mdl.live l) v/\Kp A A':=by
 refine c_ (aN Tryz.func27) XP (by kernel_rfl) ?_;have hlen:=h.len;apply W.q
 .intro M;simp(disch:=omega)only[rY,wq,Aq,V];rfl
 apply W.seq;apply W.q
 .intro M;simp(disch:=decide+kernel)only[rY,wq,Aq,V,hlen];rfl
 apply W.block;refine W.up (Z l) (λ k t C=>∃b y,ai C 44 3 b ((Mdl.live (l.take k)).map aS) y/\A.next<=b/\Kp A C/\Sl t [(2,y),(5,x),(6,.int .i64 (Z l)),(7,.int .i64 k)]) ?_ (a6 _) ⟨A.next,.slice Y 0 0,.inl ⟨rfl,rfl⟩,aJ _,Kp.refl _,?_⟩
 .rintro k t C hk ⟨b,y,hS,hb,kC,g2,g5,g6,g7,-⟩;by_cases hlt:k<Z l
  .have he:=aV hlt;generalize l[k]=e at he;obtain⟨p,i1,i2,-⟩:=(h.kp kC).at he;have htk:Mdl.live (l.take (k+1))=Mdl.live (l.take k)++Mdl.live [e]:=by rw[zR,he];exact Hj ..
   have kD:=Kp.alloc C (ae 44 (aS e));have nD:=aA C (ae 44 (aS e));have vD:=aK C 44 (aS e);have sD:bX I (C.alloc (ae 44 [ag [],.int .u32 (0:Nat),.bool af])) 44 (.pointer (U ⟨C.next,0,Y⟩)) (.agg ⟨aS e⟩)=.ok (C.alloc (ae 44 (aS e))):=ep jd rfl rfl (by simp) (wX _);generalize C.alloc (ae 44 (aS e))=D at kD nD vD sD;have lg:=vD.m2 u4 rfl;obtain⟨d,hd1,hd2⟩:=b9 FB;have le:=bU (l:=aS e) hd1 hd2 jd vD.2;have hSD:=hS.same kD.1 (kD.2 b);have nC:=kC.1;cases hg:e.gone with
   |true=>
    rw[hg]at lg;apply W.run 20
    .intro M;simp(disch:=first|decide+kernel|omega)only[EM,rY,wq,Aq,V,g5,g6,g7,hlt,i1,i2,zz,aX,sD,As,lg];rfl
    refine⟨hlt,_,_,rfl,b,y,?_,hb,kC.trans kD,?_⟩
    .rw[htk,show Mdl.live [e]=[] by unfold Mdl.live;simp[hg],kR];exact hSD
    .simp only[Sq,V,ak,g2,g5,g6]
   |false=>
    rw[hg]at lg;have hll:(Mdl.live (l.take k)).length<1000000:=by
     have:=By (λ e:aD=>!e.gone) (l.take k);rw[db]at this;unfold Mdl.live;omega
    obtain⟨y',E,h1,h2,h3,h4⟩:=Eu (e:=e) hSD hll;apply W.run 20
    .intro M;simp(disch:=first|decide+kernel|omega)only[EM,rY,wq,Aq,V,g2,g5,g6,g7,hlt,i1,i2,zz,aX,sD,As,lg,le,wK,h1];rfl
    refine⟨hlt,_,_,rfl,D.next+1,y',?_,by omega,⟨by omega,λ z hz=>by rw[h4 z (by omega) (by omega),kD.2 z (by omega),kC.2 z hz]⟩,?_⟩
    .rw[htk,show Mdl.live [e]=[e] by unfold Mdl.live;simp[hg]];exact h2
    .simp only[Sq,V,ak,g5,g6]
  .obtain rfl:k=Z l:=by omega
   rw[dY]at hS;apply W.run 20
   .intro M;simp(disch:=decide+kernel)only[EM,rY,wq,Aq,V,g6,g7,gY];rfl
   apply W.run 40
   .intro M;simp(disch:=omega)only[rY,wq,Aq,V,g2];rfl
   exact⟨by simp,rfl,_,(by simp only[wq,Aq,V]<;>rfl),⟨b,hS⟩,kC⟩
 .simp only[Sq,V,ak]
def qeM{x:O}(hx:BG A L x)(hl:Z L<1000000)(ht:total L<1000000):∃v A',az I 25 [x] A v A'/\dK A' (Mdl.live (eV (total L) L)) v/\Kp A A':=by
 obtain⟨v,B,⟨g1,h1⟩,hB,kB⟩:=KL hx hl ht;obtain⟨w,C,⟨g2,h2⟩,hC,kC⟩:=Sw hB (by have:=Da (total L) L;omega);refine⟨w,C,?_,hC,kB.trans kC⟩;refine bQ (g1+g2) 60 (b_ Tryz.func25) (by kernel_rfl) λ M hM=>?_
 simp(disch:=omega)only[Tryz.f25,Aq,V,h1,h2,kx]<;>rfl
def nj(A:Mem)(L:List (List aD))(vs:List O):Prop:=Z vs=Z L/\∀(i:Nat) (l:List aD) (v:O),L[i]?=U l->vs[i]?=U v->oD A l v/\oX l/\∀e∈l,Norm e
def nj.kp(h:nj A L vs)(k:Kp A B):nj B L vs:=⟨h.1,λ i l v h1 h2=>by
 obtain⟨q1,q2⟩:=h.2 i l v h1 h2;exact⟨q1.kp k,q2⟩⟩
def nj.sub(h:nj A L vs)(i j:Nat):nj A ((L.drop i).take j) ((vs.drop i).take j):=by
 refine⟨by simp[h.1],λ k l v h1 h2=>?_⟩;rw[oz]at h1 h2;split at h1
 .rw[aC (by assumption)]at h2;rw[rz]at h1 h2;exact h.2 _ l v h1 h2
 .cases h1
def pL:I.aB 29=U (.slice 58):=by kernel_rfl
def Lx:∃d,I.aB 58=U d/\cW d=af:=b9 (by kernel_rfl)
def Gm:aY I 58=.ok 1:=by kernel_rfl
def ai.isS{e:aj}{x:O}(h:ai A e n b ls x):∃a n c,x=.slice a n c:=by
 rcases h with⟨rfl,-⟩|⟨k,c,rfl,-⟩<;>exact⟨_,_,_,rfl⟩
def H0{a:Option Addr}:eo I 34 1 [(0,.slice a n c)]=.ok (ae 40 [.slice a n c],.dy 1 2):=by kernel_rfl
def tH:=cg yD
def Ix:aH:=sub tH [1,0,1,0,0]
def XI:yD.body=U (.seq (sub tH [0]) (.seq (.seq (sub tH [1,0,0]) (.block 0 (.loop Ix))) (.seq (sub tH [1,1,0]) (sub tH [1,1,1])))):=by kernel_rfl
def qe6{x:O}(hx:eZ A 58 1 (vs.map λ v=>[v]) x)(hv:nj A L vs)(hl:Z L<1000000):
 ∃v A',az I 23 [x,.func (.func 24) ⟨[]⟩ ⟨[]⟩] A v A'/\BG A' L v/\Kp A A':=by
 refine c_ (aN Tryz.func23) XI (by kernel_rfl) ?_;have hlen:=eZ.len hx pL;rw[aR,hv.1]at hlen;apply W.q
 .intro M;simp(disch:=omega)only[tH,yD,Aq,V];rfl
 apply W.seq;apply W.q
 .intro M;simp(disch:=decide+kernel)only[tH,yD,Aq,V,hlen];rfl
 apply W.block;refine W.up (Z L) (λ k t C=>∃b ws y,iq C 40 b ws y/\jF C (L.take k) ws/\(y=.slice Y 0 0\/A.next<=b)/\Kp A C/\Sl t [(1,.func (.func 24) ⟨[]⟩ ⟨[]⟩),(4,y),(7,x),(8,iN (Z L)),(9,.int .i64 k)]) ?_ (a6 _) ⟨0,[],.slice Y 0 0,.inl ⟨rfl,rfl⟩,⟨rfl,λ i l v h=>by simp at h⟩,.inl rfl,Kp.refl _,?_⟩
 .rintro k t C hk ⟨b,ws,y,hS,hR,hb,kC,g1,g4,g7,g8,g9,-⟩;by_cases hlt:k<Z L
  .have hLk:=aV hlt;generalize L[k]=l at hLk;obtain⟨v,hVk⟩:∃v,vs[k]?=U v:=⟨_,aV (show k<Z vs by rw[hv.1];exact hlt)⟩;obtain⟨hs,ho,hN⟩:=(hv.kp kC).2 k l v hLk hVk;obtain⟨p,o,i1,-,-,i2⟩:=eZ.at (kd:=.i64) (eZ.same hx kC.1 kC.2) pL Gm (by rw[da,hVk];rfl);obtain⟨d,hd1,hd2⟩:=Lx;have i3:=i2 58 d 0 v hd1 hd2 rfl;rw[dN]at i3;obtain⟨w,D,⟨ga,ha⟩,hD,kD⟩:=R' hs ho hN;obtain⟨bw,hw⟩:=hD;obtain⟨wc,wo⟩:=ai.di hw;obtain⟨y',E,h1,h2,h3,h4,h5⟩:=A5 vd (hS.same kD.1 (kD.2 b)) (by rw[aR,hR.1,db];omega) (r:=[w]) rfl (by simpa using wo);obtain⟨aw,nw,cw,rfl⟩:=ai.isS hw;have bs:=H0 (a:=aw) (n:=nw) (c:=cw);have nC:=kC.1;have nD:=kD.1;apply W.ct (ga) 20
   .intro M hM;simp(disch:=first|decide+kernel|omega)only[Ix,tH,yD,Aq,V,g1,g4,g7,g8,g9,hlt,i1,i3,ha,bs,h1];rfl
   refine⟨hlt,_,_,rfl,_,ws++[.slice aw nw cw],y',GV h2,?_,.inr (by omega),⟨by omega,λ z hz=>?_⟩,?_⟩
   .rw[zR,hLk];exact((hR.same kD).snoc (ai.sub hw (by decide))).kt h4.v (by decide)
   .rw[h5 z (by omega) (λ e=>hb.elim id λ h=>by omega),kD.2 z (by omega),kC.2 z hz]
   .simp only[Sq,V,ak,g1,g7,g8]
  .obtain rfl:k=Z L:=by omega
   rw[dY]at hR;apply W.run 20
   .intro M;simp(disch:=decide+kernel)only[Ix,tH,yD,Aq,V,g8,g9,gY];rfl
   apply W.run 40
   .intro M;simp(disch:=omega)only[tH,yD,Aq,V,g4];rfl
   exact⟨by simp,rfl,_,(by simp only[yD,Aq,V]<;>rfl),⟨b,ws,hS,hR⟩,kC⟩
 .simp only[Sq,V,ak]
variable {i j:Nat}
def qfG{v0 v1 v2 v3 x:O}(hx:iq A 58 b vs x)(hv:nj A L vs)(hl:Z L<1000000)(ht:total L<1000000)(hij:i<=j)(hj:j<=Z L):
 ∃v A',az I 9 [.agg ⟨[v0,v1,v2,v3,x]⟩,.int .i64 i,.int .i64 j] A v A'/\dK A' (let M:=(L.drop i).take (j-i);if j=Z L then Mdl.live (eV (total M) M)else eV (total M) M) v/\Kp A A':=by
 have kB:=Kp.alloc A (ae 31 [v0,v1,v2,v3,x]);have vB:=aK A 31 [v0,v1,v2,v3,x];generalize hB:A.alloc (ae 31 [v0,v1,v2,v3,x])=B at kB vB;have f1:bM I 31 (pw A.next 0) 1=.ok (pw A.next 4):=by kernel_rfl
 have l4:=vB.l4 pL rfl;have hxB:=hx.same kB.1 (kB.2 b);have len:=ai.len hxB pL;rw[aR,hv.1]at len;obtain⟨y,c1,c2⟩:=eZ.cut (hi:=U (.int .i64 j)) (ai.sub hxB (by decide)) pL Gm (λ m hm=>qQ (by rw[aR,hv.1]at hm;omega)) hij (by rw[aR,hv.1];exact hj);have em:((vs.map λ v=>[v]).drop i).take (j-i)=((vs.drop i).take (j-i)).map λ v=>[v]:=by rw[List.map_take,List.map_drop]
 rw[em]at c2;have mn:min j (Z L)=j:=by omega
 have mi:min i j=i:=by omega
 have mx:∀n:Nat,max 0 n=n:=λ n=>by omega
 obtain⟨z,C,⟨g1,h1⟩,hC,kC⟩:=qe6 c2 ((hv.kp kB).sub i (j-i)) (by simp;omega);generalize hM:(L.drop i).take (j-i)=M at*;have hML:Z M<1000000:=by rw[<-hM];simp;omega
 have hMt:total M<=total L:=by
  rw[<-hM];unfold total;have e1:(L.map Z).sum=((L.map Z).take i).sum+(((L.map Z).drop i).take (j-i)).sum+(((L.map Z).drop i).drop (j-i)).sum:=by
   rw[rG,<-Ed,s_,<-Ed,s_]
  rw[List.map_take,List.map_drop];omega
 have e24:=λ t=>sr t 24
 by_cases hjn:j=Z L
 .obtain⟨v,D,⟨g2,h2⟩,hD,kD⟩:=qeM hC hML (by omega);refine⟨v,D,?_,by simp only[hjn,bR];exact hD,kB.trans (kC.trans kD)⟩;subst hjn;refine bQ (g1+g2) 60 (b_ Tryz.func9) (by kernel_rfl) λ M hM=>?_
  simp(disch:=first|decide+kernel|omega)only[Tryz.f9,Aq,V,aX,hB,f1,l4,len,Am.qZ,Am.max_i64,mn,mi,mx,c1,e24,h1,h2,kx]<;>rfl
 .obtain⟨v,D,⟨g2,h2⟩,hD,kD⟩:=KL hC hML (by omega);refine⟨v,D,?_,by simp only[hjn,bO];exact hD,kB.trans (kC.trans kD)⟩;refine bQ (g1+g2) 60 (b_ Tryz.func9) (by kernel_rfl) λ M hM=>?_
  simp(disch:=first|decide+kernel|omega)only[Tryz.f9,Aq,V,aX,hB,f1,l4,len,Am.qZ,Am.max_i64,mn,mi,mx,c1,e24,h1,h2,hjn,kx]<;>rfl
def Dy:pI 26 57 3=aa:=by kernel_rfl
def nZ:I.aB 26=U (.slice 57):=by kernel_rfl
def UP:eR I 57=.ok (3,[iN 0,iN 0,iN 0]):=by kernel_rfl
def DA(s:Nat×Nat×Nat):∀v∈cF s,bI v=aa:=by
 intro v hv;simp only[cF,cC,en,or_false]at hv;rcases hv with rfl|rfl|rfl<;>rfl
def Roo(A:Mem)(b N:Nat)(L:List (List O))(x:O):Prop:=∃k z,x=.slice (U ⟨b,0,Y⟩) (Z L) (cu N 3)/\VB A 57 b k (L.flatten++z)/\Z z=(N-Z L)*3/\Z L<=N/\(k=.row\/k=.mark)/\∀l∈L,Z l=3
def Roo.append{N:Nat}{L nl:List (List O)}{x v:O}(h:Roo A b N L x)(hl:fu v=.ok m)(hf:ib A.get 3 m v=.ok nl.flatten)(hm:Z nl=m)(h3:∀l∈nl,Z l=3)(h1:∀v∈nl.flatten,bI v=aa)(hN:Z L+m<=N):
 ∃x' A',dm I A 26 26 x v=.ok (x',A')/\Roo A' b N (L++nl) x'/\A'.next=A.next/\∀z,z≠b->A'.get z=A.get z:=by
 obtain⟨k,z,rfl,hv,hz,hLN,hk,hL⟩:=h;have fl:=ic hL;have fn:=ic h3;obtain⟨A',s1,s2,s3,s4⟩:∃A',kQ A ⟨b,Z L*3,Y⟩ nl.flatten=.ok A'/\A'.next=A.next/\(∀z,z≠b->A'.get z=A.get z)/\de A' 57 b k ((L++nl).flatten++z.drop (m*3)):=by
  by_cases h0:nl.flatten=[]
  .have hm0:m=0:=by rw[h0]at fn;simp at fn;omega
   subst hm0;obtain rfl:=eQ.1 hm;exact⟨A,by rw[h0];rfl,rfl,λ _ _=>rfl,by simpa using hv.2⟩
  .obtain⟨A',q1,q2,q3,q4⟩:=hv.2.put (o:=Z L*3) h1 (by rw[aU,hz,fl,fn,hm];have:=wh hLN;omega) h0;refine⟨A',q1,q2,q3,q4 _ ?_ λ j hj=>?_⟩
   .rw[Bx];simp only[aU,qx,hz,fl,fn,hm];omega
   .rw[Bx,jD];by_cases c1:j<Z L*3
    .rw[aq (by omega),eG (by omega),eG (by omega)]
    .rw[ez (by omega),fl];by_cases c2:j<Z L*3+Z nl.flatten
     .rw[aC ⟨by omega,c2⟩,eG (by omega)]
     .rw[aq (by omega),ez (by omega),ez (by omega),rz,fl,fn,hm];congr 1;rw[fn,hm]at c2;omega
 refine⟨.slice (U ⟨b,0,Y⟩) (Z L+m) (cu N 3),A',?_,⟨k,z.drop (m*3),by rw[aU,hm],⟨by have:=hv.1;omega,s4⟩,by rw[qx,aU,hz,hm];omega,by rw[aU];omega,hk,λ l hl=>(mI.1 hl).elim (hL l) (h3 l)⟩,s2,s3⟩;have hb:au (Z L+m) (bH (cu N 3))=aa:=by rw[gB (by omega),pT];exact hN
 unfold dm gx;simp only[nZ,jx,ba,UP,R.aT,hl,hf,hb,aI,fi,dO,s1]
def Roo.full{N:Nat}{L:List (List O)}{x:O}(h:Roo A b N L x)(hN:Z L=N):ai A 57 3 b L x:=by
 obtain⟨k,z,rfl,hv,hz,hLN,hk,hL⟩:=h;have:=eQ.1 (by rw[hz,hN,gZ,oB]);subst this;exact .inr ⟨k,_,rfl,hv.1,by simpa using hv.2,hL,.inr ⟨by rw[hN],hk⟩⟩
def X9:cQ I .cap [26] [.slice Y 0 0]=.ok (iN 0):=by kernel_rfl
def fx:eD I 26 (.slice Y 0 0) Y (U (iN 0)) Y=.ok (.slice Y 0 0):=by kernel_rfl
def qfu(h0:0<n)(hn:n<1000000):∃x A',az I 177 [.slice Y 0 0,.int .i64 n] A x A'/\Roo A' A.next n [] x/\Kp A A':=by
 have hl0:cQ I .len [26] [.slice Y 0 0]=.ok (.int .i64 (0:Nat)):=jY nZ;have s1:bj .sub .i64 ((n:Nat):Int) ((0:Nat):Int)=.ok (.int .i64 (n:Nat)):=gS (by omega) (cS (by omega));have s0:bj .sub .i64 ((0:Nat):Int) ((0:Nat):Int)=.ok (.int .i64 (0:Nat)):=by kernel_rfl
 have ap:dm I A 26 3 (.slice Y 0 0) (.int .i64 n)=.ok (.slice (U ⟨A.next,0,Y⟩) n (cu n 3),A.alloc (.cells 57 .row 0 (T.bP .e 0 (iP [.int .i64 (0:Nat),.int .i64 (0:Nat),.int .i64 (0:Nat)] n)))):=by
  have h1:((I.ty.get 57).map λ i=>i.bytes)=U 24:=by kernel_rfl
  cases hq:I.ty.get 57 with
  |none=>rw[hq]at h1;cases h1
  |some i=>
   rw[hq]at h1;have h2:i.bytes=24:=by simpa using h1
   have a1:(au n 16777216&&au i.bytes 65536)=aa:=by rw[h2];simp;omega
   have a2:au n (bH 0)=af:=by
    cases hb:au n (bH 0)with
    |false=>rfl
    |true=>have:=fQ hb;have:n<=0:=this;omega
   have a3:(aa&&aM 0 i.bytes&&aM 0 3&&aM 3 65536)=aa:=by rw[h2];rfl
   have u3':=u3;have hnat:iC (.int .i64 (n:Nat))=.ok n:=rfl;unfold dm Ew gx;simp only[nZ,u3',jx,aI,UP,R.aT,hnat,hq,a1,a2,ba,a3,dO];rfl
 have kB:=Kp.alloc A (.cells 57 .row 0 (T.bP .e 0 (iP [.int .i64 (0:Nat),.int .i64 (0:Nat),.int .i64 (0:Nat)] n)));have sl:eD I 26 (.slice (U ⟨A.next,0,Y⟩) n (cu n 3)) Y (U (.int .i64 (0:Nat))) Y=.ok (.slice (U ⟨A.next,0,Y⟩) 0 (cu n 3)):=by
  have e1:bound (U (.int .i64 (0:Nat))) n (bH (cu n 3))=.ok 0:=qQ (a6 _);have e2:gh (cu n 3) 3=aa:=EV (by omega);have e3:jt (cu n 3) 0=cu n 3:=by
   unfold jt;rw[iK,ba,gB (by omega),lj (by omega)];rfl
  unfold eD;simp only[nZ,e1,R.aT,tw,vR,iK,zB,ba,e2,aI,e3,fi,oB,dN,gZ]
 refine⟨_,_,?_,⟨.row,iP [.int .i64 (0:Nat),.int .i64 (0:Nat),.int .i64 (0:Nat)] n,rfl,⟨by rw[aA];omega,og (cR _ _)⟩,?_,a6 _,.inl rfl,λ l hl=>by cases hl⟩,kB⟩
 .have hlt:¬n<0:=by omega
  refine cG 60 (b_ Tryz.func177) (by kernel_rfl) λ M=>?_
  simp(disch:=decide+kernel)only[Tryz.f177,Aq,V,kx,X9,hl0,s0,s1,h0,fm,fk,fx,ap,sl,hlt]<;>rfl
 .rw[Du,ic (n:=3) (λ l hl=>by rw[List.eq_of_mem_replicate hl];rfl),Bz];rfl
def Src(A:Mem)(nl:List (List O))(v:O):Prop:=∃a n c,v=.slice a n c/\Z nl=n/\ib A.get 3 n v=.ok nl.flatten/\(∀l∈nl,Z l=3)/\(∀v∈nl.flatten,bI v=aa)/\(a=Y\/∃b,a=U ⟨b,0,Y⟩/\b<A.next)
def Src.same{nl:List (List O)}{v:O}(h:Src A nl v)(k:Kp A B):Src B nl v:=by
 obtain⟨a,n,c,rfl,h1,h2,h3,h4,h5⟩:=h;refine⟨a,n,c,rfl,h1,?_,h3,h4,h5.imp_right λ⟨b,e,hb⟩=>⟨b,e,by have:=k.1;omega⟩⟩;rw[<-h2];rcases h5 with rfl|⟨b,rfl,hb⟩
 .rfl
 .unfold ib gO;simp only[k.2 b hb]
def mg:=cg rK
def H8:aH:=sub mg [1,1,0,1,0,0]
def H9:aH:=sub mg [1,1,1,1,0,1,0,0]
def W4:rK.body=U (.seq (sub mg [0]) (.seq (sub mg [1,0]) (.seq (.seq (sub mg [1,1,0,0]) (.block 0 (.loop H8))) (.seq (sub mg [1,1,1,0]) (.seq (.seq (sub mg [1,1,1,1,0,0]) (.block 2 (.loop H9))) (.seq (sub mg [1,1,1,1,1,0]) (sub mg [1,1,1,1,1,1]))))))):=by kernel_rfl
def SU:pI 277 26 1=aa:=by kernel_rfl
def qeT{Ls:List (List (List O))}{x:O}(hx:iq A 26 b vs x)(hlen:Z vs=Z Ls)(hs:∀(i:Nat) (nl:List (List O)) (v:O),Ls[i]?=U nl->vs[i]?=U v->Src A nl v)(h0:0<Z Ls.flatten)(hn:Z Ls.flatten<1000000)(hl:Z Ls<1000):
 ∃v A',az I 111 [x] A v A'/\(∃b',ai A' 57 3 b' Ls.flatten v)/\Kp A A':=by
 refine c_ (aN Tryz.func111) W4 (by kernel_rfl) ?_;have len:=tW SU hx;rw[aR,hlen]at len;have at_i:∀D,Kp A D->∀(i:Nat) (nl:List (List O)),Ls[i]?=U nl->∃v,vs[i]?=U v/\Src A nl v/\dQ I 277 x (.int .i64 i)=.ok (pw b (i*1))/\ax I D.get 26 (pw b (i*1))=.ok v:=λ D k i nl hi=>by
  have hil:i<Z vs:=by rw[hlen];exact(bg.1 hi).1
  have hvi:=aV hil;have hxD:=hx.same k.1 (k.2 b);have h2:=ai.load (j:=0) hxD nZ rfl (by rw[da,hvi];rfl) rfl (by omega);rw[dN]at h2;exact⟨_,hvi,hs i nl _ hi hvi,zj SU hxD (by rw[aR];exact hil),h2⟩
 have fl:∀i,(Ls.take i).flatten.length<=Z Ls.flatten:=λ i=>by
  conv=>rhs;rw[<-s_ i Ls,Bx,aU]
  omega
 have fs:∀i nl,Ls[i]?=U nl->(Ls.take (i+1)).flatten=(Ls.take i).flatten++nl:=λ i nl hi=>by
  rw[zR,hi];simp
 apply W.q2
 .intro M _;simp(disch:=omega)only[mg,rK,Aq,V];rfl
 apply W.seq;apply W.q
 .intro M;simp(disch:=decide+kernel)only[mg,rK,Aq,V,len];rfl
 apply W.block;refine W.up (Z Ls) (λ i t C=>C=A/\Sl t [(0,x),(3,iN ((Ls.take i).flatten.length)),(9,x),(10,iN (Z Ls)),(11,.int .i64 i)]) ?_ (a6 _) ⟨rfl,?_⟩
 .rintro i t C hi ⟨rfl,g0,g3,g9,g10,g11,-⟩;by_cases hlt:i<Z Ls
  .obtain⟨nl,hnl⟩:∃nl,Ls[i]?=U nl:=⟨_,aV hlt⟩;obtain⟨v,-,⟨a,n,c,rfl,hn1,-⟩,i1,i2⟩:=at_i C (Kp.refl _) i nl hnl;have lv:cQ I .len [26] [.slice a n c]=.ok (iN n):=jY nZ;have e1:=fs i nl hnl;have e2:=fl (i+1);rw[e1,aU,hn1]at e2;have ad:bj .add .i64 (((Ls.take i).flatten.length:Nat):Int) ((n:Nat):Int)=.ok (iN ((Ls.take i).flatten.length+n)):=fc (cS (by omega));apply W.run 20
   .intro M;simp(disch:=first|decide+kernel|omega)only[H8,mg,rK,Aq,V,g0,g3,g9,g10,g11,hlt,i1,i2,lv,ad];rfl
   refine⟨hlt,_,_,rfl,rfl,?_⟩;rw[e1,aU,hn1];simp only[Sq,V,ak,g0,g9,g10]
  .obtain rfl:i=Z Ls:=by omega
   rw[dY]at g3;obtain⟨y,B,⟨g1,h1⟩,hB,kB⟩:=qfu h0 hn;have hBn:C.next<B.next:=by
    obtain⟨_,_,-,h,-⟩:=hB;exact h.1
   apply W.run 20
   .intro M;simp(disch:=decide+kernel)only[H8,mg,rK,Aq,V,g10,g11,gY];rfl
   apply W.qG (g1)
   .intro M hM;simp(disch:=omega)only[mg,rK,Aq,V,g3,kx,h1];rfl
   apply W.seq;apply W.q
   .intro M;simp(disch:=decide+kernel)only[mg,rK,Aq,V,g0,len];rfl
   apply W.block;refine W.up (Z Ls) (λ i t D=>∃z,Roo D C.next (Z Ls.flatten) (Ls.take i).flatten z/\(Kp C D/\B.next=D.next)/\Sl t [(6,z),(25,x),(26,iN (Z Ls)),(27,.int .i64 i)]) ?_ (a6 _) ⟨y,hB,⟨kB,rfl⟩,?_⟩
   .rintro i t D hi ⟨z,hz,⟨kD,nD⟩,g6,g25,g26,g27,-⟩;by_cases hlt:i<Z Ls
    .obtain⟨nl,hnl⟩:∃nl,Ls[i]?=U nl:=⟨_,aV hlt⟩;obtain⟨v,-,hsrc,i1,i2⟩:=at_i D kD i nl hnl;obtain⟨a,n,c,rfl,q1,q2,q3,q4,-⟩:=hsrc.same kD;have e1:=fs i nl hnl;have e2:=fl (i+1);rw[e1,aU,q1]at e2;obtain⟨z',E,p1,p2,p3,p4⟩:=hz.append rfl q2 q1 q3 q4 e2;apply W.run 20
     .intro M;simp(disch:=first|decide+kernel|omega)only[H9,mg,rK,Aq,V,g6,g25,g26,g27,hlt,i1,i2,p1];rfl
     refine⟨hlt,_,_,rfl,z',by rw[e1];exact p2,⟨⟨by have:=kD.1;omega,λ w hw=>by rw[p4 w (by omega),kD.2 w hw]⟩,by omega⟩,?_⟩;simp only[Sq,V,ak,g25,g26]
    .obtain rfl:i=Z Ls:=by omega
     rw[dY]at hz;apply W.run 20
     .intro M;simp(disch:=decide+kernel)only[H9,mg,rK,Aq,V,g26,g27,gY];rfl
     apply W.run 40
     .intro M;simp(disch:=omega)only[mg,rK,Aq,V,g6];rfl
     exact⟨by simp,rfl,_,(by simp only[rK,Aq,V]<;>rfl),⟨_,hz.full rfl⟩,kD⟩
   .simp only[Sq,V,ak]
 .simp only[Sq,V,ak];rfl
abbrev nV (n:Nat):O:=.int .i64 n
def pH:aY I 28=.ok 4:=by kernel_rfl
def SQ:aY I 26=.ok 1:=by kernel_rfl
def Gv:aY I 3=.ok 1:=by kernel_rfl
def LL:cX I 28=.ok (.agg ⟨[nV 0,nV 0,nV 0,.slice Y 0 0]⟩):=by kernel_rfl
def qjE:cX I 26=.ok (.slice Y 0 0):=by kernel_rfl
def Ji:bM I 28 (pw b 0) 0=.ok (pw b 0):=by kernel_rfl
def Jj:bM I 28 (pw b 0) 1=.ok (pw b 1):=by kernel_rfl
def CS:bM I 28 (pw b 0) 2=.ok (pw b 2):=by kernel_rfl
def Ar:bM I 28 (pw b 0) 3=.ok (pw b 3):=by kernel_rfl
def VW:ef I 28 [(1,nV 1),(2,nV 1)]=.ok (.agg ⟨[nV 0,nV 1,nV 1,.slice Y 0 0]⟩):=by kernel_rfl
def qfi:∃A',az I 17 [] A (.agg ⟨[nV 0,nV 1,nV 1,.slice Y 0 0]⟩) A'/\Kp A A':=by
 have sB:bX I (A.alloc (ae 28 [nV 0,nV 0,nV 0,.slice Y 0 0])) 28 (pw A.next 0) (.agg ⟨[nV 0,nV 1,nV 1,.slice Y 0 0]⟩)=.ok (A.alloc (ae 28 [nV 0,nV 1,nV 1,.slice Y 0 0])):=ep pH rfl rfl (by simp) (by simp[bI]);have lB:ax I (A.alloc (ae 28 [nV 0,nV 1,nV 1,.slice Y 0 0])).get 28 (pw A.next 0)=.ok (.agg ⟨[nV 0,nV 1,nV 1,.slice Y 0 0]⟩):=AI pH (by kernel_rfl);refine⟨_,?_,Kp.alloc _ (ae 28 [nV 0,nV 1,nV 1,.slice Y 0 0])⟩;refine cG 60 (b_ Tryz.func17) (by kernel_rfl) λ M=>?_
 simp(disch:=omega)only[Tryz.f17,Aq,V,LL,aX,VW,sB,lB]<;>rfl
def Tm{ms:List (Nat×Nat×Nat)}{x:O}{lo hi:Option O}(h:ai A 57 3 b (ms.map cF) x)(hj:j=0\/j=Z ms)(hlo:bound lo 0 j=.ok 0)(hhi:∀m,Z ms<=m->bound hi (Z ms) m=.ok j):
 ∃v,eD I 26 x lo hi Y=.ok v/\Src A ((ms.take j).map cF) v:=by
 have one:∀(L:List (Nat×Nat×Nat)),∀v∈(L.map cF).flatten,bI v=aa:=λ L v hv=>by
  obtain⟨l,hl,hv⟩:=Hq.1 hv;obtain⟨s,-,rfl⟩:=dA.1 hl;exact DA s v hv
 have three:∀(L:List (Nat×Nat×Nat)),∀l∈L.map cF,Z l=3:=λ L l hl=>by
  obtain⟨s,-,rfl⟩:=dA.1 hl;rfl
 have hjl:j<=Z ms:=by omega
 have htl:((ms.take j).map cF).length=j:=by rw[aR,db];omega
 rcases h with⟨rfl,h⟩|⟨k,c,rfl,h2,h3,h4,h5⟩
 .have hm:ms=[]:=by simpa using h
  subst hm;have e1:bound hi 0 (bH 0)=.ok j:=hhi _ (a6 _);refine⟨.slice Y 0 0,?_,Y,0,0,rfl,by simp,by simp[ib,gO],three _,one _,.inl rfl⟩;unfold eD;simp only[nZ,e1,R.aT,hlo,vR]
 .rw[aR]at h5⊢;have hc:Z ms<=bH c:=by
   rcases h5 with rfl|⟨rfl,-⟩
   .rw[Am.qb];exact aJ _
   .rw[gB (by omega)];exact aJ _
  have hf:gh c 3=aa:=by
   rcases h5 with rfl|⟨rfl,-⟩
   .exact EU (by show aL (2*Z ms % 2) 0=aa;rw[Ej];rfl)
   .exact EV (by omega)
  have e1:=hhi _ hc;have src:∀c',Src A ((ms.take j).map cF) (.slice (U ⟨b,0,Y⟩) j c'):=λ c'=>⟨_,_,_,rfl,htl,by
   rcases hj with rfl|rfl
   .unfold ib gO;simp
   .rw[dY];exact tN h3 (by rw[ic h4,aR]),three _,one _,.inr ⟨b,rfl,h2⟩⟩
  cases hx:dH c&&aL (bH c) 0 with
  |true=>
   refine⟨_,?_,src 0⟩;unfold eD;simp only[nZ,e1,R.aT,hlo,vR,hx,aI,iV]
  |false=>
   refine⟨_,?_,src (jt c 0)⟩;unfold eD;simp only[nZ,e1,R.aT,hlo,vR,hx,ba,hf,aI,fi,oB,dN,iV]
def Y2{t:bA}:gP I A.get .eql 26 t (.const (.slice Y 0 0)) (.slice (U ⟨b,0,Y⟩) n c) (.slice Y 0 0)=.ok (.bool af):=by kernel_rfl
def WD:eo I 26 0 []=.ok (ae 57 [],.dy 0 0):=by kernel_rfl
def qgh{s:Nat×Nat×Nat}(h:ai A 57 3 b [cF s] (.slice (U ⟨b,0,Y⟩) n c)):∃y A' b',az I 108 [.slice (U ⟨b,0,Y⟩) n c] A y A'/\ai A' 57 3 b' [cF s] y/\Kp A A'/\A.next<=b'/\b'<A'.next:=by
 obtain⟨y,B,b',h1,h2,-,h4,h5,h6⟩:=qhq Dy h (by simp) (λ l hl=>by rw[ee.1 hl];exact DA s);refine⟨y,B,b',?_,h2,h5,h4,h6⟩;refine cG 60 (b_ Tryz.func108) (by kernel_rfl) λ M=>?_
 simp(disch:=decide+kernel)only[Tryz.f108,Aq,V,eW,Y2,kx,WD,uB,h1]<;>rfl
def qed{a q:Nat}{v f nx:Nat}{x:O}{s:Nat×Nat×Nat}(hn:nx<1000000000)(va:VB A 28 a (.var 4) [nV v,nV f,nV nx,x])(vq:VB A 26 q (.var 1) [y])(hy:ai A 57 3 b [cF s] y):
 ∃A',az I 109 [nV 0,pV a,pV q] A cL A'/\VB A' 28 a (.var 4) [nV v,nV f,nV (nx+1),x]/\ai A' 57 3 b [cF (nx,s.2)] y/\A'.next=A.next/\∀z,z≠a->z≠b->A'.get z=A.get z:=by
 have l1:=vq.l0 nZ rfl;have l2:=va.l2 u3 rfl;have i1:=zj (i:=0) Dy hy (by simp);obtain⟨B,s1,s2,s3,s4⟩:=ai.field (i:=0) (j:=0) (v:=nV nx) hy Gv rfl (by omega) rfl rfl;rw[oB]at i1;rw[oB,dO]at s1;have es: [cF s].set 0 ((cF s).set 0 (nV nx))=[cF (nx,s.2)]:=rfl;rw[es]at s2;have hab:a≠b:=by
  rintro rfl;rcases hy with⟨-,h⟩|⟨_,_,-,h1,h2,-⟩
  .cases h
  .exact VB.ne va (⟨h1,h2⟩:VB A 57 a _ _) (by decide) rfl
 have vaB:VB B 28 a (.var 4) [nV v,nV f,nV nx,x]:=⟨by have:=va.1;omega,va.2.same (s4 _ hab)⟩;have l3:=vaB.l2 u3 rfl;have ad:bj .add .i64 (nx:Int) ((1:Nat):Int)=.ok (iN (nx+1)):=fc (cS (by omega));obtain⟨C,t1,t2,t3,t4⟩:=df (o:=2) (v:=nV (nx+1)) Gv vaB.2 (by simp) rfl rfl;refine⟨C,?_,⟨by have:=vaB.1;omega,t2⟩,s2.same (by omega) λ _=>t4 _ (Ne.symm hab),by omega,λ z h1 h2=>by rw[t4 z h1,s4 z h2]⟩;simp only[pV,nV]at*;refine cG 60 (b_ Tryz.func109) (by kernel_rfl) λ M=>?_
 simp(disch:=decide+kernel)only[Tryz.f109,Aq,V,l1,CS,l2,i1,Jn,s1,l3,ad,t1]<;>rfl
def EC:=cg Tryz.f110
def MV:aH:=sub EC [1,0,0]
def W0:Tryz.f110.body=U (.seq (sub EC [0]) (.block 0 (.loop MV))):=by kernel_rfl
def qf6{s:Nat×Nat×Nat}(hy:ai A 57 3 b [cF s] y):az I 110 [y] A cL A:=by
 have len:=tW Dy hy;rw[fg]at len;have s1:bj .sub .i64 ((1:Nat):Int) ((1:Nat):Int)=.ok (iN 0):=by kernel_rfl
 refine yK (aN Tryz.func110) W0 (by kernel_rfl) ?_;apply W.q
 .intro M;simp(disch:=decide+kernel)only[EC,Tryz.f110,Aq,V,len,s1];rfl
 apply W.block;apply W.round;apply W.run 20
 .intro M;simp(disch:=decide+kernel)only[MV,EC,Tryz.f110,Aq,V,gY];rfl
 exact⟨by simp,rfl,rfl,by simp only[Tryz.f110,Aq,V]<;>rfl⟩
def WG{a a' a'':Option Addr}{n' n'' c' c'':Nat}:eo I 277 3 [(0,.slice a n c),(1,.slice a' n' c'),(2,.slice a'' n'' c'')]=.ok (ae 26 [.slice a n c,.slice a' n' c',.slice a'' n'' c''],.dy 3 6):=by kernel_rfl
def jR:=cg rN
def IC:aH:=sub jR [1,1,1,1,1,0,1,0,0]
def XT:rN.body=U (.seq (sub jR [0]) (.seq (sub jR [1,0]) (.seq (sub jR [1,1,0]) (.seq (sub jR [1,1,1,0]) (.seq (sub jR [1,1,1,1,0]) (.seq (.seq (sub jR [1,1,1,1,1,0,0]) (.block 0 (.loop IC))) (.seq (sub jR [1,1,1,1,1,1,0]) (.seq (sub jR [1,1,1,1,1,1,1,0]) (.seq (sub jR [1,1,1,1,1,1,1,1,0]) (.seq (sub jR [1,1,1,1,1,1,1,1,1,0]) (sub jR [1,1,1,1,1,1,1,1,1,1]))))))))))):=by kernel_rfl
def qeR{v f nx bs:Nat}{ms:List (Nat×Nat×Nat)}{s:Nat×Nat×Nat}{x:O}(hm:ai A 57 3 b (ms.map cF) x)(hs:ai A 57 3 bs [cF s] (.slice (U ⟨bs,0,Y⟩) n c))(hv:v<1000000000)(hn:nx<1000000000)(hl:Z ms<1000):
 ∃r A',az I 58 [.agg ⟨[nV v,nV f,nV nx,x]⟩,nV 0,nV 0,.slice (U ⟨bs,0,Y⟩) n c] A r A'/\(∃x' b',r=.agg ⟨[nV (v+1),nV f,nV (nx+1),x']⟩/\ai A' 57 3 b' (((nx,s.2)::ms).map cF) x')/\Kp A A':=by
 refine c_ (aN Tryz.func58) XT (by kernel_rfl) ?_;have xc:=ai.di hm;generalize ha:A.next=a
 have k1:=Kp.alloc A (ae 28 [nV v,nV f,nV nx,x]);have v1:=aK A 28 [nV v,nV f,nV nx,x];have n1:=aA A (ae 28 [nV v,nV f,nV nx,x]);rw[ha]at v1 n1;generalize hB:A.alloc (ae 28 [nV v,nV f,nV nx,x])=B at k1 v1 n1;have k2:=Kp.alloc B (ae 28 [nV 0,nV 0,nV 0,.slice Y 0 0]);have v2:=aK B 28 [nV 0,nV 0,nV 0,.slice Y 0 0];have n2:=aA B (ae 28 [nV 0,nV 0,nV 0,.slice Y 0 0]);rw[n1]at v2 n2;generalize hC:B.alloc (ae 28 [nV 0,nV 0,nV 0,.slice Y 0 0])=C at k2 v2 n2;have v1C:=v1.kp k2;have kC:=k1.trans k2;have l1:=v1C.l3 nZ rfl;have lenm:=tW Dy (hm.same kC.1 (kC.2 b));rw[aR]at lenm;have mz:=Nat.zero_min;obtain⟨y,D,b',⟨g1,h1⟩,hy,kD,hb1,hb2⟩:=qgh (hs.same kC.1 (kC.2 bs));obtain⟨yc,yo⟩:=ai.di hy;have kE:=Kp.alloc D (ae 26 [y]);have vE:=aK D 26 [y];have nE:=aA D (ae 26 [y]);have sE:bX I (D.alloc (ae 26 [.slice Y 0 0])) 26 (pw D.next 0) y=.ok (D.alloc (ae 26 [y])):=ep SQ yc rfl (by simp) (by simpa using yo);generalize D.alloc (ae 26 [y])=E at kE vE nE sE;have kCE:=kD.trans kE;have hyE:=hy.same kE.1 (kE.2 b');have lE:=vE.l0 nZ rfl;have lenE:=tW Dy hyE;rw[fg]at lenE;obtain⟨F,⟨g2,h2⟩,vF,hyF,nF,fF⟩:=qed (s:=s) hn (v1C.kp kCE) vE hyE;have hnD:=kD.1;have vqF:VB F 26 D.next (.var 1) [y]:=⟨by omega,vE.2.same (fF _ (by omega) (by omega))⟩
 have lqF:=vqF.l0 nZ rfl;obtain⟨g3,h3⟩:=qf6 hyF;have lv:=vF.l0 u3 rfl;have ad:bj .add .i64 (v:Int) ((1:Nat):Int)=.ok (iN (v+1)):=fc (cS (by omega));obtain⟨G,sG,vG,nG,fG⟩:=df (tb:=I) (t:=3) (o:=0) (v:=nV (v+1)) Gv vF.2 (by simp) rfl rfl;have vGa:VB G 28 a (.var 4) [nV (v+1),nV f,nV (nx+1),x]:=⟨by have:=vF.1;omega,vG⟩;have kAG:Kp A G:=⟨by have:=kC.1;omega,λ z hz=>by rw[fG z (by omega),fF z (by omega) (by have:=kC.1;omega),kCE.2 z (by have:=kC.1;omega),kC.2 z hz]⟩;have lx:=vGa.l3 nZ rfl;have vqG:VB G 26 D.next (.var 1) [y]:=⟨by omega,vqF.2.same (fG _ (by omega))⟩
 have lqG:=vqG.l0 nZ rfl;have hyG:=hyF.same (by omega) λ _=>fG _ (by omega)
 have hmG:=hm.same kAG.1 (kAG.2 b);obtain⟨w0,q0,r0⟩:=Tm (j:=0) (lo:=Y) (hi:=U (nV 0)) hmG (.inl rfl) (by rw[tw]) (λ m _=>qQ (a6 _));obtain⟨w2,q2,r2⟩:=Tm (j:=Z ms) (lo:=U (nV 0)) (hi:=Y) hmG (.inr rfl) (qQ (a6 _)) (λ m _=>by rw[tw]);rw[dY]at r2;have r1:Src G [cF (nx,s.2)] y:=by
  obtain⟨f1,f2,f3⟩:=ai.first hyG
  rcases id hyG with⟨rfl,h⟩|⟨k,c,rfl,h,-⟩
  .cases h
  .exact⟨_,_,_,rfl,rfl,f2,f3,λ w hw=>by simp at hw;exact DA (nx,s.2) w hw,.inr ⟨b',rfl,h⟩⟩
 obtain⟨_,_,_,rfl,-⟩:=id r0;obtain⟨_,_,_,rfl,-⟩:=id r1;obtain⟨_,_,_,rfl,-⟩:=id r2;rename_i a0 n0 c0 a1 m1 c1 a2 n2' c2;have bs3:=WG (a:=a0) (n:=n0) (c:=c0) (a':=a1) (n':=m1) (c':=c1) (a'':=a2) (n'':=n2') (c'':=c2);have kH:=Kp.alloc G (ae 26 [.slice a0 n0 c0,.slice a1 m1 c1,.slice a2 n2' c2]);have vH:=aK G 26 [.slice a0 n0 c0,.slice a1 m1 c1,.slice a2 n2' c2];generalize hHe:G.alloc (ae 26 [.slice a0 n0 c0,.slice a1 m1 c1,.slice a2 n2' c2])=H at kH vH;have hrow:iq H 26 G.next [.slice a0 n0 c0,.slice a1 m1 c1,.slice a2 n2' c2] (.slice (U ⟨G.next,0,Y⟩) 3 6):=.inr ⟨_,6,rfl,vH.1,vH.2,by simp,.inl rfl⟩
 have eL:([(ms.take 0).map cF,[cF (nx,s.2)],ms.map cF]:List (List (List O))).flatten=((nx,s.2)::ms).map cF:=by simp
 obtain⟨z,K,⟨g4,h4⟩,⟨bz,hz⟩,kK⟩:=qeT (Ls:=[(ms.take 0).map cF,[cF (nx,s.2)],ms.map cF]) hrow rfl (λ i nl v h1 h2=>by
  have hi:i<3:=(bg.1 h1).1;have:i=0\/i=1\/i=2:=by omega
  rcases this with rfl|rfl|rfl<;>cases h1<;>cases h2
  .exact r0.same kH
  .exact r1.same kH
  .exact r2.same kH) (by rw[eL];simp) (by rw[eL];simp;omega) (by simp)
 rw[eL]at hz;obtain⟨zc,zo⟩:=ai.di hz;have vK:=vGa.kp (kH.trans kK);obtain⟨N,sN,vN,nN,fN⟩:=df (tb:=I) (t:=26) (o:=3) (v:=z) SQ vK.2 (by simp) zc zo;obtain⟨d28,hd1,hd2⟩:=b9 (t:=28) (p:=aa) (by kernel_rfl);have lN:ax I N.get 28 (pw a 0)=.ok (.agg ⟨[nV (v+1),nV f,nV (nx+1),z]⟩):=bU hd1 hd2 (l:=[nV (v+1),nV f,nV (nx+1),z]) pH vN;have hGn:=nG;have hCn:=kC.1;have v2K:VB K 28 (a+1) (.var 4) [nV 0,nV 0,nV 0,.slice Y 0 0]:=VB.kp (A:=G) ⟨by omega,v2.2.same (by rw[fG _ (by omega),fF _ (by omega) (by omega),kCE.2 _ (by omega)])⟩ (kH.trans kK);have v2N:VB N 28 (a+1) (.var 4) [nV 0,nV 0,nV 0,.slice Y 0 0]:=⟨by have:=v2K.1;omega,v2K.2.same (fN _ (by omega))⟩;obtain⟨qjT,sO,vO,nO,fO⟩:=ja (tb:=I) (t:=28) (l':=[nV (v+1),nV f,nV (nx+1),z]) (by exact pH) v2N.2 rfl (by simp) (by simpa[bI]using zo);have lO:ax I qjT.get 28 (pw (a+1) 0)=.ok (.agg ⟨[nV (v+1),nV f,nV (nx+1),z]⟩):=bU hd1 hd2 (l:=[nV (v+1),nV f,nV (nx+1),z]) pH vO;have kGK:=kH.trans kK;have hzO:ai qjT 57 3 bz (((nx,s.2)::ms).map cF) z:=by
  rcases id hz with⟨-,h⟩|⟨k,c,e1,e2,e3,e4⟩
  .simp at h
  .have hba:bz≠a:=λ e=>VB.ne (⟨e2,e3⟩:VB K 57 bz k _) vK (by decide) e
   have hba':bz≠a+1:=λ e=>VB.ne (⟨e2,e3⟩:VB K 57 bz k _) v2K (by decide) e
   exact hz.same (by omega) λ _=>by rw[fO _ hba',fN _ hba]
 have fin:Kp A qjT:=⟨by have:=kGK.1;omega,λ w hw=>by rw[fO w (by omega),fN w (by omega),kGK.2 w (by omega),kAG.2 w hw]⟩;have fn109:=λ t=>sr t 109
 simp only[nV,pV]at*;apply W.q2
 .intro M _;simp(disch:=first|decide+kernel|omega)only[jR,rN,Aq,V,aX,hB,n1,LL,hC,ha,Ar,l1,lenm,Am.qZ,Am.max_i64,mz,Nat.max_self];rfl
 apply W.ie (g1)
 .intro M hM _;simp(disch:=first|decide+kernel|omega)only[jR,rN,Aq,V,Ar,l1,lenm,Am.qZ,Am.max_i64,mz,Nat.max_self,h1,qjE,yQ,sE];rfl
 apply W.q
 .intro M;simp(disch:=first|decide+kernel|omega)only[jR,rN,Aq,V,fb];rfl
 apply W.seq;apply W.q
 .intro M;simp(disch:=first|decide+kernel|omega)only[jR,rN,Aq,V,lE,lenE];rfl
 apply W.block;apply W.round;apply W.ct (g2) 20
 .intro M hM;simp(disch:=first|decide+kernel|omega)only[IC,jR,rN,Aq,V,Nat.zero_lt_one,h2];rfl
 apply W.round;apply W.run 20
 .intro M;simp(disch:=first|decide+kernel|omega)only[IC,jR,rN,Aq,V,gY];rfl
 apply W.ie (g3)
 .intro M hM _;simp(disch:=first|decide+kernel|omega)only[jR,rN,Aq,V,lqF,h3,Ji,lv,ad,sG];rfl
 apply W.ie (g4)
 .intro M hM _;simp(config:={maxSteps:=4000000})(disch:=first|decide+kernel|omega|simp only[Wq,V])only[jR,rN,Aq,au,reduceIte,V,ak,Ar,lx,q0,lqG,q2,bs3,uB,hHe,h4,sN,Fq,bY [],lN,sO];rfl
 apply W.run 20
 .intro M;simp(disch:=first|decide+kernel|omega)only[jR,rN,Aq,V];rfl
 exact⟨by simp,rfl,_,(by simp only[rN,Aq,V,lO]<;>rfl),⟨z,bz,rfl,hzO⟩,fin⟩
def qfk{v f nx fl bs:Nat}{ms:List (Nat×Nat×Nat)}{s:Nat×Nat×Nat}{x:O}(hm:ai A 57 3 b (ms.map cF) x)(hs:ai A 57 3 bs [cF s] (.slice (U ⟨bs,0,Y⟩) n c))(hv:v<1000000000)(hn:nx<1000000000)(hl:Z ms<1000):
 ∃r A',az I 19 [.agg ⟨[nV v,nV f,nV nx,x]⟩,nV fl,.slice (U ⟨bs,0,Y⟩) n c] A r A'/\(∃x' b',r=.agg ⟨[nV (v+1),nV fl,nV (nx+1),x']⟩/\ai A' 57 3 b' (((nx,s.2)::ms).map cF) x')/\Kp A A':=by
 have k1:=Kp.alloc A (ae 28 [nV v,nV f,nV nx,x]);have v1:=aK A 28 [nV v,nV f,nV nx,x];have n1:=aA A (ae 28 [nV v,nV f,nV nx,x]);generalize hB:A.alloc (ae 28 [nV v,nV f,nV nx,x])=B at k1 v1 n1;have k2:=Kp.alloc B (ae 28 [nV 0,nV 0,nV 0,.slice Y 0 0]);have v2:=aK B 28 [nV 0,nV 0,nV 0,.slice Y 0 0];have n2:=aA B (ae 28 [nV 0,nV 0,nV 0,.slice Y 0 0]);rw[n1]at v2 n2;generalize hC:B.alloc (ae 28 [nV 0,nV 0,nV 0,.slice Y 0 0])=C at k2 v2 n2;have kC:=k1.trans k2;obtain⟨d28,hd1,hd2⟩:=b9 (by kernel_rfl);have l1:=bU hd1 hd2 pH (v1.kp k2).2;obtain⟨r,D,⟨g1,h1⟩,⟨z,bz,rfl,hz⟩,kD⟩:=qeR (f:=f) (hm.same kC.1 (kC.2 b)) (hs.same kC.1 (kC.2 bs)) hv hn hl;obtain⟨zc,zo⟩:=ai.di hz;have vD:=(v1.kp k2).kp kD;obtain⟨E,sE,vE,nE,fE⟩:=ja (l':=[nV (v+1),nV f,nV (nx+1),z]) (by exact pH) vD.2 rfl (by simp) (by simpa[bI]using zo);obtain⟨F,sF,vF,nF,fF⟩:=df (o:=1) (v:=nV fl) Gv vE (by simp) rfl rfl;have lF:=bU hd1 hd2 (l:=[nV (v+1),nV fl,nV (nx+1),z]) pH vF;have hDn:=kD.1;have v2D:=v2.kp kD;have v2F:VB F 28 (A.next+1) (.var 4) [nV 0,nV 0,nV 0,.slice Y 0 0]:=⟨by omega,v2D.2.same (by rw[fF _ (by omega),fE _ (by omega)])⟩;obtain⟨G,sG,vG,nG,fG⟩:=ja (l':=[nV (v+1),nV fl,nV (nx+1),z]) (by exact pH) v2F.2 rfl (by simp) (by simpa[bI]using zo);have lG:=bU hd1 hd2 (l:=[nV (v+1),nV fl,nV (nx+1),z]) pH vG;have hzG:ai G 57 3 bz (((nx,s.2)::ms).map cF) z:=by
  rcases id hz with⟨-,h⟩|⟨k,c,e1,e2,e3,e4⟩
  .simp at h
  .have hba:bz≠A.next:=λ e=>VB.ne (⟨e2,e3⟩:VB D 57 bz k _) vD (by decide) e
   have hba':bz≠A.next+1:=λ e=>VB.ne (⟨e2,e3⟩:VB D 57 bz k _) v2D (by decide) e
   exact hz.same (by omega) λ _=>by rw[fG _ hba',fF _ hba,fE _ hba]
 refine⟨_,G,?_,⟨z,bz,rfl,hzG⟩,⟨by have:=kC.1;omega,λ w hw=>by rw[fG w (by omega),fF w (by omega),fE w (by omega),kD.2 w (by omega),kC.2 w hw]⟩⟩;simp only[nV]at*;refine bQ (g1) 60 (b_ Tryz.func19) (by kernel_rfl) λ M hM=>?_
 simp(disch:=omega)only[Tryz.f19,Aq,V,aX,hB,n1,LL,hC,l1,h1,sE,Jj,sF,lF,sG,lG]<;>rfl
def qjI:cX I 285=.ok (.agg ⟨gH [] 9 0⟩):=UN
def qiG:I.aB 283=U (.array 9 5):=Ug
def ZA:bM I 285 (pw b 0) 0=.ok (pw b 0):=by kernel_rfl
def ZB:bM I 285 (pw b 0) 1=.ok (pw b 9):=by kernel_rfl
def qhs(h:i<=9):eD I 283 (pw b 0) Y (U (.int .i64 i)) Y=.ok (.slice (U ⟨b,0,Y⟩) i 18):=by
 have e1:bound (U (.int .i64 i)) 9 9=.ok i:=qQ h;have e0:bound Y 0 i=.ok 0:=rfl;unfold eD;simp only[qiG,e1,R.aT,(show aY I 5=.ok 1 from xH),e0];rfl
def rU:=cg yp
def Iq:aH:=sub rU [1,1,0,1,0,0]
def Xz:yp.body=U (.seq (sub rU [0]) (.seq (sub rU [1,0]) (.seq (.seq (sub rU [1,1,0,0]) (.block 0 (.loop Iq))) (.seq (sub rU [1,1,1,0]) (sub rU [1,1,1,1]))))):=by kernel_rfl
def SM{l:List Nat}{x:O}(h:tc A l x)(hl:Z l<1000)(hw:∀n∈l,n<18446744073709551616):∃v A',az I 114 [x] A v A'/\v=ag (fS l)/\Kp A A':=by
 refine c_ (aN Tryz.func114) Xz (by kernel_rfl) ?_;have hlen:=h.len;apply W.q2
 .intro M _;simp(disch:=omega)only[rU,yp,Aq,V];rfl
 apply W.seq;apply W.q
 .intro M;simp(disch:=decide+kernel)only[rU,yp,Aq,V,hlen];rfl
 apply W.block;refine W.up (Z l) (λ i t D=>Kp A D/\∃y b,eY D 5 b (dw (fS (l.take i))) y/\A.next<=b/\Sl t [(3,y),(7,x),(8,iN (Z l)),(9,.int .i64 i)]) ?_ (a6 _) ⟨Kp.refl _,.slice Y 0 0,A.next,.inl ⟨rfl,rfl⟩,aJ _,?_⟩
 .rintro i t D hi ⟨kD,y,b,hs,hb,g3,g7,g8,g9,-⟩;by_cases hlt:i<Z l
  .have he:=aV hlt;have hn:=hw _ (ik hlt);obtain⟨p,j1,j2⟩:=(h.kp kD).at he;have k1:=λ ih=>qa8 (ih:=ih) (A:=D) hn
   have hle:=F2 (l.take (i+1)) λ n hn=>hw n (wa hn)
   rw[db,Qu he]at hle;have h9:=PS hn;have hlb:=F1 l[i];have hT:=Qu he;generalize l[i]=n at*;have sE:bX I (D.alloc (ae 285 (gH [] 9 0))) 285 (pw D.next 0) (.agg ⟨jz n⟩)=.ok (D.alloc (ae 285 (jz n))):=
    have t0:=AG (show(cZ n).length+(9-kz n)=9 by omega)
    ep (by rw[show(jz n).length=10 from t0.1];kernel_rfl) rfl (by rw[show(jz n).length=10 from t0.1];rfl) (by intro e;cases e) t0.2
   have kE:=Kp.alloc D (ae 285 (jz n));have vE:=aK D 285 (jz n);generalize hE:D.alloc (ae 285 (jz n))=E at sE kE vE;have l3:=vE.ld (PL hn) u3 rfl;have vP:de E 285 D.next (.var (jz n).length) (dw (cZ n)):=by
    obtain⟨c,q1,q2⟩:=vE.2;refine⟨c,q1,λ j hj=>?_⟩;rw[q2 j (by unfold jz gH;simp only[aU];omega)];unfold jz gH;rw[jD,eG hj]
   have hf:ib E.get 1 (kz n) (.slice (U ⟨D.next,0,Y⟩) (kz n) 18)=.ok (dw (cZ n)):=by
    have:=Ao vP;rw[jk,hlb]at this;exact this
   obtain⟨ti,t1,t2⟩:=GJ;obtain⟨y',F,b',e1,e2,e3,e4,e5⟩:=eY.tu (hs.same kE.1 (λ hb=>kE.2 b hb)) j_ j_ rfl G0 t1 (by omega) (by omega) (by rw[jk];rw[aU]at hle;omega) rfl hf (by rw[jk,hlb]) (λ v hv=>by
    obtain⟨_,-,rfl⟩:=dA.1 hv;rfl)
   rw[show dw (fS (l.take i))++dw (cZ n)=dw (fS (l.take (i+1))) by rw[hT];unfold dw;rw[fY]]at e2;have kF:Kp A F:=⟨by have:=kD.1;have:=kE.1;omega,λ z hz=>by
    have:=kD.1;rw[e5 z (λ e=>by omega) (by have:=kE.1;omega),kE.2 z (by omega),kD.2 z hz]⟩
   apply W.run 20
   .intro M;simp(disch:=first|decide+kernel|omega)only[Iq,rU,yp,Aq,V,g3,g7,g8,g9,hlt,j1,j2,k1,qjI,aX,hE,sE,ZA,ZB,l3,qhs,h9,e1];rfl
   refine⟨hlt,_,F,rfl,kF,y',b',e2,by have:=kD.1;have:=kE.1;omega,?_⟩;simp only[Sq,V,ak,g7,g8]
  .have e:i=Z l:=by omega
   subst e;rw[dY]at hs;have cs:gN I D.get 123 9 y=.ok (ag (fS l)):=K_ hs;apply W.run 20
   .intro M;simp(disch:=decide+kernel)only[Iq,rU,yp,Aq,V,g8,g9,hlt];rfl
   apply W.run 40
   .intro M;simp(disch:=first|decide+kernel|omega)only[rU,yp,Aq,V,g3,cs,F3];rfl
   exact⟨by simp,rfl,_,(by simp only[yp,Aq,V]<;>rfl),rfl,kD⟩
 .simp only[Sq,V,ak]
def Lw:I.aB 279=U (.map 3 3):=by kernel_rfl
def OH{a:Nat}:nP xz (.int .i64 a) (.int .i64 b::l)=nP xz (iN (min a b)) l:=by
 have e:nP xz (.int .i64 a) (.int .i64 b::l)=nP xz (.int .i64 (bif mu (b:Int) (a:Int)then(b:Int)else(a:Int))) l:=rfl;rw[e,xp];by_cases h:b<a
 .rw[decide_eq_true (by omega),zY (by omega)];rfl
 .rw[decide_eq_false (by omega),oA (by omega)];rfl
def OG{a:Nat}:nP xx (.int .i64 a) (.int .i64 b::l)=nP xx (iN (max a b)) l:=by
 have e:nP xx (.int .i64 a) (.int .i64 b::l)=nP xx (.int .i64 (bif mu (a:Int) (b:Int)then(b:Int)else(a:Int))) l:=rfl;rw[e,xp];by_cases h:a<b
 .rw[decide_eq_true (by omega),yh (by omega)];rfl
 .rw[decide_eq_false (by omega),Ht (by omega)];rfl
def qca{ts:List aj}{a:Nat}:cQ I .min ts [.int .i64 a,.int .i64 b,.int .i64 c]=.ok (iN (min (min a b) c)):=by
 have e:cQ I .min ts [.int .i64 a,.int .i64 b,.int .i64 c]=nP xz (.int .i64 a) [.int .i64 b,.int .i64 c]:=by cases ts<;>rfl
 rw[e,OH,OH];rfl
def qb1{ts:List aj}{a:Nat}:cQ I .max ts [.int .i64 a,.int .i64 b,.int .i64 c]=.ok (iN (max (max a b) c)):=by
 have e:cQ I .max ts [.int .i64 a,.int .i64 b,.int .i64 c]=nP xx (.int .i64 a) [.int .i64 b,.int .i64 c]:=by cases ts<;>rfl
 rw[e,OG,OG];rfl
def oU:List Nat->Nat->List MapEntry
 | [],_=>[]
 |n::ns,o=>⟨.int .i64 n,.int .i64 (1:Nat),o⟩::oU ns (o+1)
theorem Lz(w:Nat):∀(ns:List Nat) (o j:Nat),w∉ns->findF (.int .i64 w) (oU ns o) j=U Y
 | [],o,j,_=>rfl
 |n::ns,o,j,h=>by
  rw[cC,not_or]at h;have hne:¬((w:Int)=(n:Int)):=by omega
  unfold oU findF;simp only[PG,hne,decide_false];exact Lz w ns (o+1) (j+1) h.2
theorem Ut(w:Nat):∀(ns:List Nat) (o:Nat),oU (ns++[w]) o=oU ns o++[⟨.int .i64 w,.int .i64 (1:Nat),o+Z ns⟩]
 | [],o=>rfl
 |n::ns,o=>by
  rw[ij,oU,Ut w ns (o+1),oU,ij,cd,show o+1+Z ns=o+(Z ns+1) by omega]
def qbK{w:Nat}{ns:List Nat}(h:A.get mk=U (.map (oU ns 0) (Z ns)))(hw:w∉ns):oQ I A.get 279 (.map (U mk)) (.int .i64 w) af=.ok (iN 0):=by
 have hk:e_ I 3 (.int .i64 w)=aa:=by unfold e_;rw[u3]
 unfold oQ;simp only[Lw,hk,aI,uK,h,R.aT,Lz w ns 0 0 hw,vU];rfl
def qi6{w:Nat}{ns:List Nat}(h:A.get mk=U (.map (oU ns 0) (Z ns)))(hw:w∉ns):mw I A 279 (.map (U mk)) (.int .i64 w) (iN 1)=.ok (A.set mk (.map (oU (ns++[w]) 0) (ns++[w]).length)):=by
 have hk:e_ I 3 (.int .i64 w)=aa:=by unfold e_;rw[u3]
 unfold mw;simp only[Lw,hk,aI,h,Lz w ns 0 0 hw];rw[Ut,dO,aU];rfl
def qbw(v:VB A 279 b (.var 1) [.map (U mk)]):ax I A.get 279 (pw b 0)=.ok (.map (U mk)):=v.ld rfl Lw rfl
def qeg{D:Mem}{pm pr:Nat}{ns:List Nat}{m:ui}{x:O}{s:Nat×Nat×Nat}(hm:D.get mk=U (.map (oU ns 0) (Z ns)))(hml:mk<D.next)(hs:s.1∉ns)(hok:KW m.next s)(v1:VB D 279 pm (.var 1) [.map (U mk)])(v2:VB D 28 pr (.var 4) (mW x m)):
 ∃E,az I 178 [.agg ⟨cF s⟩,pw pm 0,pw pr 0] D (.bool af) E/\E.get mk=U (.map (oU (ns++[s.1]) 0) (ns++[s.1]).length)/\D.next<=E.next/\∀z,z<D.next->z≠mk->E.get z=D.get z:=by
 obtain⟨⟨o1,o2⟩,⟨o3,o4⟩,o5,o6⟩:=hok;have kE:=Kp.alloc D (ae 57 (cF s));have vE:=aK D 57 (cF s);have nE:=aA D (ae 57 (cF s));generalize hEe:D.alloc (ae 57 (cF s))=E at kE vE nE;have hmE:E.get mk=U (.map (oU ns 0) (Z ns)):=by rw[kE.2 mk hml];exact hm
 have w1:=v1.kp kE;have w2:=v2.kp kE;have lk:=qbK hmE hs;have up:=qi6 hmE hs;generalize hF:E.set mk (.map (oU (ns++[s.1]) 0) (ns++[s.1]).length)=F at up;have nF:F.next=E.next:=by rw[<-hF];exact cE _ _ _
 have fF:∀z,z≠mk->F.get z=E.get z:=λ z hz=>by rw[<-hF,cr,aq hz]
 have l1:=qbw w1;have e0:=vE.l0 u3 rfl;have vF:=vE.2.same (fF _ (vE.cN hmE));have a0:ax I F.get 3 (pw D.next 0)=.ok (.int .i64 s.1):=c7 u3 rfl vF rfl;have a1:ax I F.get 3 (pw D.next (0+1))=.ok (.int .i64 s.2.1):=c7 u3 rfl vF rfl;have a2:ax I F.get 3 (pw D.next (0+2))=.ok (.int .i64 s.2.2):=c7 u3 rfl vF rfl;have a3:ax I F.get 3 (pw pr 2)=.ok (.int .i64 m.next):=c7 u3 rfl (w2.2.same (fF _ (w2.cN hmE))) rfl;have mn:=qca (ts:=[3,3,3]) (a:=s.1) (b:=s.2.1) (c:=s.2.2);have b1:¬min (min s.1 s.2.1) s.2.2<1:=by omega
 have b2:¬m.next<=s.1:=by omega
 have b3:¬100000<s.2.1:=by omega
 have b4:¬1000000000<s.2.2:=by omega
 refine⟨F,?_,by rw[<-hF,cr,aC rfl],by omega,λ z hz h=>by rw[fF z h,kE.2 z hz]⟩;refine cG 60 (b_ Tryz.func178) (by kernel_rfl) λ M=>?_
 simp(config:={maxSteps:=4000000})(disch:=first|decide+kernel|omega|simp only[Wq,V])only[Tryz.f178,Aq,au,reduceIte,V,ak,aX,hEe,Jn,Og,Oh,l1,e0,uZ,lk,fm,fk,gY,zb,up,a0,a1,a2,mn,b1,CS,a3,iZ,hZ,b2,b3,b4]<;>rfl
def d225:=cg yC
def IS:aH:=sub d225 [1,0,1,0,0]
def Yv:yC.body=U (.seq (sub d225 [0]) (.seq (.seq (sub d225 [1,0,0]) (.block 0 (.loop IS))) (.seq (sub d225 [1,1,0]) (sub d225 [1,1,1])))):=by kernel_rfl
def qel{A0:Mem}{pm pr:Nat}{m:ui}{x x2:O}(h:qD A0 m.dv x)(hm:zU m)(hA:Kp A0 A)(hmk:A0.next<=mk)(hml:mk<A.next)(hg0:A.get mk=U (.map [] 0))(v1:VB A 279 pm (.var 1) [.map (U mk)])(v2:VB A 28 pr (.var 4) (mW x2 m)):
 ∃v A',az I 225 [x,.func (.func 178) ⟨[]⟩ ⟨[pw pm 0,pw pr 0]⟩] A v A'/\v=.int .i64 (-1)/\A.next<=A'.next/\∀z,z<A.next->z≠mk->A'.get z=A.get z:=by
 obtain⟨-,-,hl,hso,hnd⟩:=hm;refine c_ (aN Tryz.func225) Yv (by kernel_rfl) ?_;have lx:=(h.kp hA).len;apply W.q
 .intro M;simp(disch:=omega)only[d225,yC,Aq,V];rfl
 apply W.seq;apply W.q
 .intro M;simp(disch:=decide+kernel)only[d225,yC,Aq,V,lx];rfl
 apply W.block;refine W.up (Z m.dv) (λ i t D=>D.get mk=U (.map (oU ((m.dv.take i).map (·.1)) 0) ((m.dv.take i).map (·.1)).length)/\A.next<=D.next/\(∀z,z<A.next->z≠mk->D.get z=A.get z)/\
  Sl t [(0,x),(1,.func (.func 178) ⟨[]⟩ ⟨[pw pm 0,pw pr 0]⟩),(7,iN (Z m.dv)),(8,.int .i64 i)]) ?_ (a6 _) ⟨hg0,aJ _,λ _ _ _=>rfl,?_⟩
 .rintro i t D hi ⟨hg,hn,hf,g0,g1,g7,g8,-⟩;by_cases hlt:i<Z m.dv
  .have hsi:=aV hlt;have hok:=hso _ (ik hlt);have htk:(m.dv.take (i+1)).map (·.1)=(m.dv.take i).map (·.1)++[(m.dv[i]).1]:=by rw[eH hlt,fY];rfl
   have hnot:(m.dv[i]).1∉(m.dv.take i).map (·.1):=by
    have h1:((m.dv.take (i+1)).map (·.1)).Nodup:=by
     rw[List.map_take];exact(List.take_sublist _ _).nodup hnd
    rw[htk,we]at h1;exact λ hm=>h1.2.2 _ hm _ (List.mem_singleton_self _) rfl
   have kD:Kp A0 D:=⟨by have:=hA.1;omega,λ z hz=>by rw[hf z (by have:=hA.1;omega) (by omega),hA.2 z hz]⟩;obtain⟨b,o,j1,j2,-⟩:=(h.kp kD).at hsi;have gF:∀e z k l,VB A e z k l->VB D e z k l:=λ e z k l h=>⟨by have:=h.1;omega,h.2.same (hf z h.1 (h.cN hg0))⟩
   obtain⟨E,⟨g,hgg⟩,e1,e2,e3⟩:=qeg hg (by omega) hnot hok (gF _ _ _ _ v1) (gF _ _ _ _ v2);rw[<-htk]at e1;apply W.ct (g) 20
   .intro M hM;simp(disch:=first|decide+kernel|omega)only[IS,d225,yC,Aq,V,g0,g1,g7,g8,hlt,j1,j2,hgg];rfl
   refine⟨hlt,_,_,rfl,e1,by omega,λ z hz h=>by rw[e3 z (by omega) h,hf z hz h],?_⟩;simp only[Sq,V,ak,g0,g1,g7]
  .have e:i=Z m.dv:=by omega
   subst e;apply W.run 20
   .intro M;simp(disch:=decide+kernel)only[IS,d225,yC,Aq,V,g7,g8];rfl
   apply W.run 40
   .intro M;simp(disch:=omega)only[d225,yC,Aq,V,I9];rfl
   exact⟨by simp,rfl,_,(by simp only[yC,Aq,V]<;>rfl),rfl,hn,hf⟩
 .simp only[Sq,V,ak]
def qjG:cX I 279=.ok (.map Y):=by kernel_rfl
def qgJ:aY I 279=.ok 1:=by kernel_rfl
def qfK{m:ui}{x:O}(h:qD A m.dv x)(hm:zU m):∃A',az I 112 [.agg ⟨mW x m⟩] A (.bool aa) A'/\Kp A A':=by
 obtain⟨m1,m2,m3,-,-⟩:=id hm;have kB:=Kp.alloc A (ae 28 (mW x m));have vB:=aK A 28 (mW x m);have nB:=aA A (ae 28 (mW x m));generalize hB:A.alloc (ae 28 (mW x m))=B at kB vB nB;have kC:=Kp.alloc B (.map [] 0);have nC:=aA B (.map [] 0);have kD:=Kp.alloc (B.alloc (.map [] 0)) (ae 279 [.map (U B.next)]);have vD:=aK (B.alloc (.map [] 0)) 279 [.map (U B.next)];have gD:((B.alloc (.map [] 0)).alloc (ae 279 [.map (U B.next)])).get B.next=U (.map [] 0):=by rw[c9 (by omega)];exact cR _ _
 have sD:bX I ((B.alloc (.map [] 0)).alloc (ae 279 [.map Y])) 279 (pw ((B.alloc (.map [] 0)).next) 0) (.map (U B.next))=.ok ((B.alloc (.map [] 0)).alloc (ae 279 [.map (U B.next)])):=sS qgJ rfl rfl (by simp);have nD:((B.alloc (.map [] 0)).alloc (ae 279 [.map (U B.next)])).next=B.next+2:=by rw[aA,nC]
 rw[nC]at vD sD;generalize hD:(B.alloc (.map [] 0)).alloc (ae 279 [.map (U B.next)])=D at*;have kBD:=kC.trans kD;have wD:=vB.kp kBD;have l0:=vB.l0 u3 rfl;have l1:=vB.l1 u3 rfl;have l2:=vB.l2 u3 rfl;have l3:=wD.l3 Lu rfl;have lx:=(h.kp (kB.trans kBD)).len;have mn:=Am.qZ (tb:=I) (ts:=[3,3]) (a:=1) (b:=m.next);have mx:=qb1 (ts:=[3,3,3]) (a:=m.ver) (b:=1) (c:=m.next);have b1:1<=min 1 m.next:=by omega
 have b2:max (max m.ver 1) m.next<=900000000:=by omega
 obtain⟨v,E,⟨g,hg⟩,rfl,nE,fE⟩:=qel h hm (kB.trans kBD) (by omega) (by omega) gD vD wD;have h179:az I 179 [x,.func (.func 178) ⟨[]⟩ ⟨[pw (B.next+1) 0,pw A.next 0]⟩] D (.bool af) E:=by
  have hz:¬((0:Nat):Int)<=-1:=by omega
  refine bQ (g) 60 (b_ Tryz.func179) (by kernel_rfl) λ M hM=>?_
  simp(disch:=omega)only[Tryz.f179,Aq,V,hg,iZ,hz]<;>rfl
 obtain⟨g2,h2⟩:=h179;refine⟨E,?_,⟨by omega,λ z hz=>by rw[fE z (by omega) (by omega),kBD.2 z (by omega),kB.2 z hz]⟩⟩;refine bQ (g2) 60 (b_ Tryz.func112) (by kernel_rfl) λ M hM=>?_
 simp(config:={maxSteps:=4000000})(disch:=first|decide+kernel|omega|simp only[Wq,V])only[Tryz.f112,Aq,au,reduceIte,V,ak,aX,hB,Ji,Jj,CS,Ar,l0,l1,l2,mn,b1,iZ,u6,hZ,a6,mx,b2,Dg,tP,Cj,qjG,IL,nC,sD,fb,l3,lx,m3,h2]<;>rfl
def d59:=cg uz
def IU:aH:=sub d59 [1,1,1,0,1,0,0]
def YB:uz.body=U (.seq (sub d59 [0]) (.seq (sub d59 [1,0]) (.seq (sub d59 [1,1,0]) (.seq (.seq (sub d59 [1,1,1,0,0]) (.block 0 (.loop IU))) (.seq (sub d59 [1,1,1,1,0]) (sub d59 [1,1,1,1,1])))))):=by kernel_rfl
def qfJ{m:ui}{x:O}(h:qD A m.dv x)(hm:zU m)(h100:Z m.dv<=100):∃v A',az I 59 [.agg ⟨mW x m⟩] A v A'/\v=.tuple ⟨[ag (crc.ek (qh m)),iN 0]⟩/\Kp A A':=by
 refine c_ (aN Tryz.func59) YB (by kernel_rfl) ?_;have kB:=Kp.alloc A (ae 28 (mW x m));have vB:=aK A 28 (mW x m);apply W.q
 .intro M;simp(disch:=omega)only[d59,uz,Aq,V,aX,I_];rfl
 have hB:=h.kp kB;generalize A.alloc (ae 28 (mW x m))=B at kB vB hB;obtain⟨d,hd1,hd2⟩:=b9 (by kernel_rfl);have lB:=bU hd1 hd2 pH vB.2;obtain⟨C,⟨g1,h1⟩,kC⟩:=qfK hB hm;obtain⟨m1,⟨m2,m2'⟩,m3,m4,m5⟩:=hm;have vC:=vB.kp kC;have hC:=hB.kp kC;have l0:=vC.l0 u3 rfl;have l1:=vC.l1 u3 rfl;have l2:=vC.l2 u3 rfl;have l3:=λ D hD=>(vC.kp (A':=D) hD).l3 nZ rfl
 have l3C:=l3 C (Kp.refl _);have lenC:=hC.len;have cv:∀n,n<9223372036854775808->pB I 3 147 (iN n)=.ok (uN n):=λ n hn=>ia (by rw[u3];rfl) eE (iz (by omega))
 have c0:=cv m.ver (by omega);have c1:=cv 1 (by omega);have c2:=cv m.next (by omega)
 have c3:=cv (Z m.dv) (by omega);apply W.qG (g1)
 .intro M hM;simp(disch:=omega)only[d59,uz,Aq,V,lB,h1];rfl
 have kD:=Kp.alloc C (ae 147 [.int .u64 m.ver,uN 1,.int .u64 m.next,uN (Z m.dv)]);have hN:ai (C.alloc (ae 147 [.int .u64 m.ver,uN 1,.int .u64 m.next,uN (Z m.dv)])) 147 1 C.next ([m.ver,1,m.next,Z m.dv].map qj) (.slice (U ⟨C.next,0,Y⟩) 4 8):=Qv (l:=[m.ver,1,m.next,Z m.dv]) (by simp)
 apply W.q
 .intro M;simp(disch:=decide+kernel)only[d59,uz,Aq,V,Ji,Jj,CS,Ar,l0,l1,l2,l3C,lenC,c0,c1,c2,c3,Wv];rfl
 generalize C.alloc (ae 147 [.int .u64 m.ver,uN 1,.int .u64 m.next,uN (Z m.dv)])=D at kD hN;have lD:=l3 D kD;have lenD:=(hC.kp kD).len;apply W.seq;apply W.q
 .intro M;simp(disch:=decide+kernel)only[d59,uz,Aq,V,Ar,lD,lenD];rfl
 apply W.block;refine W.up (Z m.dv) (λ i t D=>∃b y,ai D 147 1 b (([m.ver,1,m.next,Z m.dv]++pE (m.dv.take i)).map qj) y/\C.next<=b/\Kp C D/\Sl t [(4,y),(25,x),(26,iN (Z m.dv)),(27,.int .i64 i)]) ?_ (a6 _) ⟨_,_,by simpa[pE]using hN,aJ _,kD,?_⟩
 .rintro i t D hi ⟨b,y,hS,hb,kD,g4,g25,g26,g27,-⟩;have hD:=hC.kp kD;by_cases hlt:i<Z m.dv
  .have hMi:=aV hlt;obtain⟨⟨s1,s2⟩,⟨s3,AW⟩,s4,s4'⟩:=m4 _ (ik hlt);obtain⟨bb,o,j1,j2,-⟩:=hD.at hMi;have htk:=qbX hMi;have hl3:=FX (m.dv.take i);rw[db]at hl3;generalize m.dv[i]=s at*;have e0:=cv s.1 (by omega);have e1:=cv s.2.1 (by omega);have e2:=cv s.2.2 (by omega);have kE:=Kp.alloc D (ae 57 (cF s));have vE:=aK D 57 (cF s);have nE:=aA D (ae 57 (cF s));have sE:bX I (D.alloc (ae 57 [iN 0,iN 0,iN 0])) 57 (pw D.next 0) (.agg ⟨cF s⟩)=.ok (D.alloc (ae 57 (cF s))):=ep vR rfl rfl (by simp) (DA s);generalize D.alloc (ae 57 (cF s))=E at kE vE nE sE;have q0:=vE.l0 u3 rfl;have q1:=vE.m1 u3 rfl;have q2:=vE.m2 u3 rfl;obtain⟨x',F,b',happ,hS',hn',hb',hf'⟩:=Ve (nl:=[s.1,s.2.1,s.2.2]) (hS.same kE.1 (kE.2 b)) (by simp only[aU,cd,dL];omega) (by simp);have happ':dm I (E.alloc (ae 147 [.int .u64 s.1,.int .u64 s.2.1,.int .u64 s.2.2])) 196 196 y (.slice (U ⟨E.next,0,Y⟩) 3 6)=.ok (x',F):=happ;apply W.run 20
   .intro M;simp(disch:=first|decide+kernel|omega)only[IU,d59,uz,Aq,V,g4,g25,g26,g27,hlt,j1,j2,UW,aX,sE,Jn,Og,Oh,q0,q1,q2,e0,e1,e2,Wt,happ'];rfl
   have hk1:=kD.1;refine⟨hlt,_,_,rfl,b',x',by rw[htk,<-jD];exact hS',by omega,⟨by omega,λ z hz=>by rw[hf' z (by omega) (by omega),kE.2 z (by omega),kD.2 z hz]⟩,?_⟩;simp only[Sq,V,ak,g25,g26]
  .have e:i=Z m.dv:=by omega
   subst e;rw[dY]at hS;have hl3:=FX m.dv;have hnum:∀n∈ [m.ver,1,m.next,Z m.dv]++pE m.dv,n<18446744073709551616:=λ n hn=>by
    rcases mI.1 hn with hn|hn
    .simp only[cC,en,or_false]at hn;rcases hn with rfl|rfl|rfl|rfl<;>omega
    .exact J2 m4 m2' n hn
   have hll:([m.ver,1,m.next,Z m.dv]++pE m.dv).length<1000:=by simp only[aU,cd,dL];omega
   obtain⟨v,E,⟨g2,h2⟩,rfl,kE⟩:=SM ⟨b,hS⟩ hll hnum;have hbl:=F2 _ hnum;have s1:j8 .add [67,77,1] (fS ([m.ver,1,m.next,Z m.dv]++pE m.dv))=.ok (ag (qh m)):=cat (by rw[aU];simp only[cd,dL];omega);simp only[ij,lX]at s1;have ks:=λ ih=>PA (ih:=ih) (A:=E) (s:=qh m) (by unfold qh;rw[aU];simp only[cd,dL];omega)
   apply W.run 20
   .intro M;simp(disch:=decide+kernel)only[IU,d59,uz,Aq,V,g26,g27,gY];rfl
   apply W.ct (g2) 40
   .intro M hM;simp(disch:=first|decide+kernel|omega)only[d59,uz,Aq,V,g4,h2,Y',s1,ks];rfl
   exact⟨by simp,rfl,_,(by simp only[uz,Aq,V]<;>rfl),rfl,kB.trans (kC.trans (kD.trans kE))⟩
 .simp only[Sq,V,ak]
def SI{la:Nat}(h:m_ A p ml mn b k la ns)(hnd:ns.Nodup)(hn:Z ns<1000):
 ∃A' mk,az I 90 [pV p] A (.tuple ⟨[]⟩) A'/\m_ A' p ml mk b (Z ns) la ns/\A.next<=mk/\A.next<=A'.next/\∀z,z<A.next->z≠p->z≠ml->A'.get z=A.get z:=by
 obtain⟨v,A',mk,⟨g2,h2⟩,rfl,h3,h4⟩:=qgr (n:=Z ns-k) h hnd hn;obtain⟨x,rows,hV,-,-,-,hS,-,hrl,-⟩:=h;have lx:=hV.l2 jC rfl;have lenx:=ai.len hS jC;have er:Z rows=Z ns-k:=by omega
 rw[er]at lenx;have hp:az I 144 [pV p] A (iN (Z ns-k)) A:=by
  simp only[pV];refine cG 60 (aN Tryz.func144) (by kernel_rfl) λ M=>?_
  simp(disch:=decide+kernel)only[Tryz.f144,Aq,V,eW,wY,eO,bW,bV,xa,lx,lenx]<;>rfl
 obtain⟨g1,h1⟩:=hp;rw[Nat.min_self,Nat.add_sub_cancel' (by omega),dY]at h3;refine⟨A',mk,?_,h3,h4⟩;simp only[pV]at*;refine bQ (g1+g2) 60 (aN Tryz.func90) (by kernel_rfl) λ M hM=>?_
 simp(disch:=omega)only[Tryz.f90,Aq,V,h1,h2,cL]<;>rfl
def D0(q:Nat):cT:=⟨0,0,[],[],0,q⟩
def qe0{quo:Nat}:∃v A',az I 41 [.slice Y 0 0,.int .i64 quo] A v A'/\Kp A A'/\∃p,v=pV p/\eu A' p (D0 quo):=by
 refine c_ (aN Tryz.func41) XZ (by kernel_rfl) ?_;have hlen:=ub.len (l:=[]) ⟨0,ai.nil A 170 2 0⟩;obtain⟨v,B,⟨g1,h1⟩,rfl,hFo,nB,fB⟩:=qfn (A:=A);have hmap:(B.alloc (.map [] 0)).get B.next=U (.map [] 0):=cR _ _
 have n1:=aA B (.map [] 0);have kC:=(Kp.alloc B (.map [] 0)).trans (Kp.alloc (B.alloc (.map [] 0)) (ae 101 (Ak (A.next+2) B.next quo)));have vC:=aK (B.alloc (.map [] 0)) 101 (Ak (A.next+2) B.next quo);have nC:((B.alloc (.map [] 0)).alloc (ae 101 (Ak (A.next+2) B.next quo))).next=B.next+2:=by rw[aA,n1]
 have hmapC:((B.alloc (.map [] 0)).alloc (ae 101 (Ak (A.next+2) B.next quo))).get B.next=U (.map [] 0):=by rw[c9 (by omega)];exact hmap
 rw[n1]at vC;have bd:ef I 101 [(0,pw (A.next+2) 0),(1,.map (U B.next)),(2,.int .i64 quo)]=.ok (.agg ⟨Ak (A.next+2) B.next quo⟩):=Wa;have hq0:¬quo<0:=by omega
 simp only[pV]at h1;apply W.q2
 .intro M _;simp(disch:=decide+kernel)only[c8,wA,Aq,V];rfl
 apply W.qG (g1)
 .intro M hM;simp(disch:=omega)only[c8,wA,Aq,V,h1,Dg,tP,Cj,bd,aX,n1];rfl
 generalize (B.alloc (.map [] 0)).alloc (ae 101 (Ak (A.next+2) B.next quo))=C at kC vC nC hmapC;have hAC:Kp A C:=⟨by omega,λ z hz=>by rw[kC.2 z (by omega),fB z hz]⟩;have hFoC:m_ C (A.next+2) A.next (A.next+1) 0 0 0 []:=by
  obtain⟨x,rows,q1,⟨q2,q3⟩,⟨q4,q5⟩,q6,q7,q8,q9,q10⟩:=hFo;exact⟨x,rows,q1.kp kC,⟨by omega,by rw[kC.2 _ q2];exact q3⟩,⟨by omega,by rw[kC.2 _ q4];exact q5⟩,q6,q7.same kC.1 (kC.2 0),λ _=>q8 rfl,by rw[q9];rfl,λ j w hw=>by simp at hw⟩
 apply W.seq;apply W.q
 .intro M;simp(disch:=decide+kernel)only[c8,wA,Aq,V,hlen];rfl
 apply W.block;refine W.up 0 (λ i t D=>D=C/\Sl t [(5,pV (B.next+1)),(18,iN 0),(19,.int .i64 i)]) ?_ (a6 _) ⟨rfl,?_⟩
 .rintro i t D hi ⟨rfl,f5,f18,f19,-⟩;obtain rfl:i=0:=by omega
  obtain⟨E,mk,⟨g2,h2⟩,hKe,hmk,hnE,hfE⟩:=SI hFoC qz (by simp);obtain⟨_,_,qV,⟨_,qml⟩,_⟩:=hFoC;have lpf:ax I D.get 98 (pw (B.next+1) 0)=.ok (pV (A.next+2)):=by
   obtain⟨d,hd,ha⟩:=xK;exact vC.ld rfl hd ha
  simp only[pV]at*;apply W.run 20
  .intro M;simp(disch:=decide+kernel)only[M8,c8,wA,Aq,V,f18,f19];rfl
  apply W.ie (g2)
  .intro M hM _;simp(disch:=omega)only[c8,wA,Aq,V,f5,bW,bV,uP,lpf,h2];rfl
  apply W.run 20
  .intro M;simp only[c8,wA,Aq,V];rfl
  refine⟨by simp,rfl,_,(by simp only[wA,Aq,V]<;>rfl),⟨by show A.next<=E.next;omega,λ z hz=>by show E.get z=A.get z;rw[hfE z (by omega) (by omega) (by omega),hAC.2 z hz]⟩,B.next+1,rfl,A.next+2,A.next,mk,0,B.next,[],⟨by show B.next+1<E.next;omega,vC.2.same (hfE _ (by omega) (by omega) (by omega))⟩,hKe,⟨by show B.next<E.next;omega,?_⟩,⟨rfl,rfl,qz,qz⟩,λ i f hf=>by simp[D0]at hf,by omega,by omega⟩;rw[hfE B.next (by omega) (by omega) (by omega)];exact hmapC
 .simp only[Sq,V,ak];exact⟨rfl,rfl⟩
def qeZ{quo:Nat}:∃v A',az I 16 [.int .i64 quo] A v A'/\Kp A A'/\∃p,v=pV p/\eu A' p (D0 quo):=by
 obtain⟨v,A',⟨g,h⟩,hk,p,rfl,hD⟩:=qe0;refine⟨_,A',?_,hk,p,rfl,hD⟩;simp only[pV]at*;refine bQ (g) 60 (aN Tryz.func16) (by kernel_rfl) λ M hM=>?_
 simp(disch:=omega)only[Tryz.f16,Aq,V,h,eO]<;>rfl
def n_:∃d,I.aB 25=U d/\cW d=af:=b9 (by kernel_rfl)
def zi(b:Nat):cP 100 (pw b 0) (pw b 0)=aa:=by simp[cP,tU,ri]
def Qp(hnd:ns.Nodup)(hi:ns[i]?=U w):numOf ns w=i+1:=by
 obtain⟨hl,rfl⟩:=bg.1 hi;unfold numOf;have:ns.findIdx? (λ n=>decide (ns[i]=n))=U i:=by
  rw[Hl];refine⟨hl,by simp,λ j hj=>?_⟩;simp only[decide_eq_true_eq];exact λ e=>ue.1 hnd j i (by omega) hl hj e.symm
 rw[this];rfl
def jU(D:cT)(w:List UInt8):cT:={D with ns:=D.ns++[w],fs:=D.fs++[([],[])],la:=D.la+1}
def qeW{z1 z2:Nat}{D:cT}(h:eu A p D)(v1:VB A 25 z1 (.var 1) [pV p])(v2:VB A 9 z2 (.var 1) [ag w])(hw:w∉D.ns)(hl:0<Z w/\Z w<=64)(hn:Z D.ns<1000)(hla:D.la=Z D.ns):
 ∃B,az I 99 [pV z1,pV z2] A (.int .i64 (0:Nat)) B/\eu B p (jU D w)/\KT dT A B:=by
 obtain⟨pf,ml,mn,b,mf,ps,hP⟩:=h;have hpfs:=λ q hq=>hP.file (q:=q) hq
 obtain⟨hV,hF,⟨hmf,hmf'⟩,⟨hl1,hl2,hnd,hnn⟩,hfl,hm1,hm2⟩:=hP;rw[hla]at hF;obtain⟨v,F,b',⟨g1,h1⟩,rfl,hFF,hb',hnF,hfF⟩:=qeX hF hw hl hn;obtain⟨xo,rowso,qV,⟨-,qml⟩,⟨-,qmn⟩,-,qS,qx0,qrl,-⟩:=hF;have hrn:D.k<Z D.ns->rowso≠ []:=λ h0 h=>by rw[h,dL]at qrl;omega
 have K1:KT (λ e=>e≠165/\e≠297) A F:=⟨hnF,λ e z k l he hz=>hfF z hz.1 (hz.ne qV he.1) (hz.cN qmn) λ h0=>ai.gj qS hz he.2 (hrn h0),λ z h=>hfF z h.1 (h.ne qV) (h.cN qmn) λ h0=>h.J' qS (hrn h0)⟩;have l1:ax I A.get 25 (.pointer (U ⟨z1,0,Y⟩))=.ok (pV p):=by
  obtain⟨d,hd,ha⟩:=n_;exact v1.ld rfl hd ha
 have l2:=v2.l0 u9 rfl;have lpf:ax I A.get 98 (.pointer (U ⟨p,0,Y⟩))=.ok (pV pf):=by
  obtain⟨d,hd,ha⟩:=xK;exact hV.ld rfl hd ha
 have VF:=K1.vb hV (by decide);have v1F:=K1.vb v1 (by decide);have l1F:ax I F.get 25 (.pointer (U ⟨z1,0,Y⟩))=.ok (pV p):=by
  obtain⟨d,hd,ha⟩:=n_;exact v1F.ld rfl hd ha
 have lmF:=VF.l1 Bl rfl;have hmfF:F.get mf=U (.map (mR ps 0) (Z ps)):=by rw[hfF mf hmf (Ne.symm (qV.cN hmf')) hm2 (λ h0=>ai.cN qS hmf' (hrn h0))];exact hmf'
 obtain⟨g2,h2⟩:=qfN;have kG:=Kp.alloc F (ae 228 [ag [],.slice Y 0 0,ag []]);have vG:=aK F 228 [ag [],.slice Y 0 0,ag []];have nG:=aA F (ae 228 [ag [],.slice Y 0 0,ag []]);generalize F.alloc (ae 228 [ag [],.slice Y 0 0,ag []])=G at h2 kG vG nG;have hmfG:G.get mf=U (.map (mR ps 0) (Z ps)):=by rw[kG.2 _ (by omega)];exact hmfF
 have hup:=qi3 (p:=F.next) hmfG;have hpn:Z ps=Z D.ns:=by omega
 rw[hpn]at hup;have l1G:ax I G.get 25 (.pointer (U ⟨z1,0,Y⟩))=.ok (pV p):=by
  obtain⟨d,hd,ha⟩:=n_;exact(v1F.kp kG).ld rfl hd ha
 have lmG:=(VF.kp kG).l1 Bl rfl;generalize hH:G.set mf (.map (mR (ps++[F.next]) 0) (ps++[F.next]).length)=H at hup;have nH:H.next=G.next:=by rw[<-hH];exact cE _ _ _
 have fH:∀z,z≠mf->H.get z=G.get z:=λ z hz=>by rw[<-hH,mq,aq hz]
 have K2:KT (λ _=>True) F H:=⟨by omega,λ e z k l _ hz=>by rw[fH z (hz.cN hmfF),kG.2 z hz.1],λ z h=>by rw[fH z (h.cN hmfF),kG.2 z h.1]⟩;have he:∀t:T O,ev t (.const (.string ⟨#[]⟩))=.ok (ag []):=λ _=>rfl
 have smf:cP 100 (.map (U mf)) (.map (U mf))=aa:=by simp[cP,ri]
 have sn:=tV .i64 (Z D.ns+1) rfl;refine⟨H,?_,⟨pf,ml,mn,b',mf,ps++[F.next],K2.vb VF trivial,?_,⟨by omega,by rw[<-hH,mq,aC rfl]⟩,⟨?_,?_,?_,?_⟩,λ i f hf=>?_,hm1,hm2⟩,(K1.mono λ e he=>⟨he.2.1,he.2.2.1⟩).trans (K2.mono λ _ _=>trivial)⟩
 .simp only[pV]at*;refine bQ (g1+g2) 60 (aN Tryz.func99) (by kernel_rfl) λ M hM=>?_
  simp(disch:=first|decide+kernel|omega|simp only[Wq,V])only[Tryz.f99,Aq,au,reduceIte,V,ak,l1,l2,lpf,bW,bV,uP,Fp,h1,dX,dU,l1F,l1G,lmF,lmG,zi,he,h2,zb,hup,smf,sn,Fq,bY [(0,5),(3,5)]]<;>rfl
 .show m_ H pf ml mn b' D.k (D.la+1) (D.ns++[w]);rw[hla];rw[aU]at hFF;exact hFF.kt K2 ⟨trivial,trivial,trivial,trivial⟩ λ m es c hm hl=>by
   have hmF:m<F.next:=by
    obtain⟨_,_,-,⟨q,-⟩,⟨r,-⟩,-⟩:=hFF;rcases hl with rfl|rfl<;>assumption
   rw[fH m (by rintro rfl;exact hl.elim hm1 hm2),kG.2 m hmF]
 .show _=(D.fs++[_]).length;rw[aU,aU,hl1];rfl
 .show(D.fs++[_]).length=(D.ns++[w]).length;rw[aU,aU,hl2];rfl
 .rw[we];refine⟨hnd,zQ.2 ⟨en,qz⟩,λ a ha c hc=>?_⟩;obtain⟨_,_,hz⟩:=hpfs a ha;rw[ee.1 hc];have:=hz.1;omega
 .show(D.ns++[w]).Nodup;rw[we];exact⟨hnn,zQ.2 ⟨en,qz⟩,λ a ha c hc e=>hw (by rw[ee.1 hc]at e;exact e▸ha)⟩
 .replace hf:(D.fs++[([],[])])[i]?=U f:=hf;rcases d_ i (Z D.fs)with hi|hi
  .rw[eG hi]at hf;obtain⟨q,e1,e2⟩:=hfl i f hf;have e2':=e2;obtain⟨_,e3,-⟩:=e2';exact⟨q,by rw[eG (by omega)];exact e1,(e2.kt K1 (hfF q e3.1 (VB.ne e3 qV (by decide)) (VB.cN e3 qmn) λ h0=>ai.gj qS e3 (by decide) (hrn h0)) ⟨by decide,by decide⟩).kt K2 (by rw[fH q (VB.cN e3 hmf'),kG.2 q (by have:=e3.1;omega)]) ⟨trivial,trivial⟩⟩
  .rw[ez hi]at hf;cases hq:i-Z D.fs with
   |succ n=>rw[hq]at hf;simp at hf
   |zero=>
    rw[hq]at hf;cases hf;obtain rfl:i=Z D.fs:=by omega
    exact⟨F.next,by rw[ez (by omega),hl1,gZ];rfl,_,⟨by omega,vG.2.same (fH _ (by omega))⟩,.inl ⟨rfl,rfl⟩⟩
def Sf{D:cT}(h:eu A p D)(hs:D.st<1000)(hw:w∉D.ns)(hl:0<Z w/\Z w<=64)(hn:Z D.ns<1000)(hla:D.la=Z D.ns):
 ∃A',az I 51 [pV p,ag w] A (iN 0) A'/\eu A' p (jU (eX D) w)/\KT dT A A':=by
 have kB:=Kp.alloc A (ae 25 [pV p]);have vB:=aK A 25 [pV p];have nB:=aA A (ae 25 [pV p]);generalize hB:A.alloc (ae 25 [pV p])=B at kB vB nB;have kC:=Kp.alloc B (ae 9 [ag w]);have vC:=aK B 9 [ag w];generalize hC:B.alloc (ae 9 [ag w])=C at kC vC;rw[nB]at vC;have vBC:=vB.kp kC;obtain⟨pf,ml,mn,b,mf,ps,hP⟩:=h.kp (kB.trans kC);obtain⟨E,hE,nE,fE,kE,g2⟩:=hP.step hs;have lp:ax I C.get 25 (pw A.next 0)=.ok (pV p):=by
  obtain⟨d,hd,ha⟩:=n_;exact vBC.ld rfl hd ha
 obtain⟨F,hF,hD,kF⟩:=qeW ⟨pf,ml,mn,b,mf,ps,hE⟩ (kE.vb vBC (by decide)) (kE.vb vC (by decide)) hw hl hn hla;obtain⟨g,hg⟩:=g2 _ _ _ _ hF;refine⟨F,?_,hD,((kB.trans kC).kt.trans kE).trans kF⟩;simp only[pV]at*;refine bQ (g) 60 (aN Tryz.func51) (by kernel_rfl) λ M hM=>?_
 simp(disch:=omega)only[Tryz.f51,Aq,V,pA,sj,hB,hC,nB,lp,fb,hg]<;>rfl
def Gp(D:cT):cT:={D with k:=Z D.ns}
def qgi{z1:Nat}{D:cT}(h:eu A p D)(v1:VB A 25 z1 (.var 1) [pV p])(hn:Z D.ns<1000):
 ∃B,az I 107 [pV z1] A (iN 0) B/\eu B p (Gp D)/\KT dT A B:=by
 obtain⟨pf,ml,mn,b,mf,ps,hV,hF,⟨hmf,hmf'⟩,⟨hl1,hl2,hnd,hnn⟩,hfl,hm1,hm2⟩:=h;obtain⟨B,mk,⟨g1,h1⟩,hFB,hmk,hnB,hfB⟩:=SI hF hnn hn;obtain⟨_,_,qV,⟨_,qml⟩,-⟩:=hF;have K:KT (λ e=>e≠165) A B:=⟨hnB,λ e z k l he hz=>hfB z hz.1 (hz.ne qV he) (hz.cN qml),λ z h=>hfB z h.1 (h.ne qV) (h.cN qml)⟩;have l1:ax I A.get 25 (pw z1 0)=.ok (pV p):=by
  obtain⟨d,hd,ha⟩:=n_;exact v1.ld rfl hd ha
 have lpf:ax I A.get 98 (pw p 0)=.ok (pV pf):=by
  obtain⟨d,hd,ha⟩:=xK;exact hV.ld rfl hd ha
 refine⟨B,?_,⟨pf,ml,mk,b,mf,ps,K.vb hV (by decide),hFB,⟨by omega,by rw[hfB mf hmf (Ne.symm (qV.cN hmf')) hm1];exact hmf'⟩,⟨hl1,hl2,hnd,hnn⟩,λ i f hf=>?_,hm1,by omega⟩,K.mono λ e he=>he.2.1⟩
 .simp only[pV]at*;refine bQ (g1) 60 (aN Tryz.func107) (by kernel_rfl) λ M hM=>?_
  simp(disch:=omega)only[Tryz.f107,Aq,V,l1,lpf,bW,bV,uP,h1]<;>rfl
 .obtain⟨q,e1,e2⟩:=hfl i f hf;have e2':=e2;obtain⟨_,e3,-⟩:=e2';exact⟨q,e1,e2.kt K (hfB q e3.1 (VB.ne e3 qV (by decide)) (VB.cN e3 qml)) ⟨by decide,by decide⟩⟩
def qe3{D:cT}(h:eu A p D)(hs:D.st<1000)(hn:Z D.ns<1000):
 ∃A',az I 57 [pV p] A (iN 0) A'/\eu A' p (Gp (eX D))/\KT dT A A':=by
 have kB:=Kp.alloc A (ae 25 [pV p]);have vB:=aK A 25 [pV p];generalize hB:A.alloc (ae 25 [pV p])=B at kB vB;obtain⟨pf,ml,mn,b,mf,ps,hP⟩:=h.kp kB;obtain⟨E,hE,nE,fE,kE,g2⟩:=hP.step hs;have lp:ax I B.get 25 (pw A.next 0)=.ok (pV p):=by
  obtain⟨d,hd,ha⟩:=n_;exact vB.ld rfl hd ha
 obtain⟨F,hF,hD,kF⟩:=qgi ⟨pf,ml,mn,b,mf,ps,hE⟩ (kE.vb vB (by decide)) hn;obtain⟨g,hg⟩:=g2 _ _ _ _ hF;refine⟨F,?_,hD,(kB.kt.trans kE).trans kF⟩;simp only[pV]at*;refine bQ (g) 60 (aN Tryz.func57) (by kernel_rfl) λ M hM=>?_
 simp(disch:=omega)only[Tryz.f57,Aq,V,pA,hB,lp,fb,hg]<;>rfl
def y6(l:List (List UInt8×Nat))(x:List UInt8×Nat):List (List UInt8×Nat):=l.takeWhile (λ y=>cJ y.1 x.1)++x::l.filter (λ y=>cJ x.1 y.1)
def BO(l:List (List UInt8×Nat)):Prop:=l.Pairwise λ x y=>lt x.1 y.1
def qaL{y x:List UInt8×Nat}{l:List (List UInt8×Nat)}(h:BO (y::l))(hn:y.1≠x.1):y6 (y::l) x=if lt y.1 x.1 then y::y6 l x else x::y::l:=by
 have hx:=(wg.1 h).1;unfold y6;by_cases h1:lt y.1 x.1
 .have h2:cJ x.1 y.1=af:=by
   cases hq:cJ x.1 y.1 with
   |false=>rfl
   |true=>exact aZ (uV h1 hq) (FW _)
  rw[aC h1,BE,aC h1,kS,h2];rfl
 .have h4:=xT λ hc=>hn (AJ h1 hc)
  rw[aq h1,BE,aq h1,kS,aC h4,Bw.2 λ z hz=>uV h4 (hx z hz)];rfl
theorem Pp{x:List UInt8×Nat}:∀{l:List (List UInt8×Nat)},BO l->(∀y∈l,y.1≠x.1)->BO (y6 l x)/\(y6 l x).Perm (x::l)
 | [],_,_=>⟨List.pairwise_singleton _ _,List.Perm.refl _⟩
 |y::l,h,hn=>by
  have hx:=wg.1 h;have hyx:=hn y cM;rw[qaL h hyx];obtain⟨i1,i2⟩:=Pp hx.2 λ z hz=>hn z (cU _ hz)
  by_cases h1:lt y.1 x.1
  .rw[aC h1];refine⟨wg.2 ⟨λ z hz=>?_,i1⟩,(i2.cons y).trans (List.Perm.swap x y l)⟩;rcases cC.1 (i2.mem_iff.1 hz)with rfl|hz
   .exact h1
   .exact hx.1 z hz
  .have h4:=xT λ hc=>hyx (AJ h1 hc)
   rw[aq h1];refine⟨wg.2 ⟨λ z hz=>?_,h⟩,List.Perm.refl _⟩;rcases cC.1 hz with rfl|hz
   .exact h4
   .exact uV h4 (hx.1 z hz)
def qi(ns:List (List UInt8)):List (List UInt8×Nat):=ns.zipIdx.foldl (λ l p=>y6 l (p.1,p.2+1)) []
def qcC(ns:List (List UInt8))(w:List UInt8):qi (ns++[w])=y6 (qi ns) (w,Z ns+1):=by
 simp[qi,List.zipIdx_append,zM]
def qhB{α:Type}{P:List α->Prop}(h0:P [])(h1:∀l w,P l->P (l++[w]))(l:List α):P l:=by
 rw[<-List.reverse_reverse l]
 induction l.reverse with
 |nil=>exact h0
 |cons a l ih=>rw[Ec];exact h1 _ _ ih
def Dd(ns:List (List UInt8)):ns.Nodup->BO (qi ns)/\(qi ns).Perm (ns.zipIdx.map λ p=>(p.1,p.2+1)):=by
 refine qhB (P:=λ ns=>ns.Nodup->BO (qi ns)/\(qi ns).Perm (ns.zipIdx.map λ p=>(p.1,p.2+1))) (λ _=>⟨List.Pairwise.nil,List.Perm.refl _⟩) (λ ns w ih hd=>?_) ns;rw[we]at hd;obtain⟨i1,i2⟩:=ih hd.1;have hn:∀y∈qi ns,y.1≠w:=λ y hy e=>by
  obtain⟨p,hp,rfl⟩:=dA.1 (i2.mem_iff.1 hy);have:=(List.mem_zipIdx hp).2.2;simp only at e;exact hd.2.2 p.1 (by rw[this];exact ik _) w (by simp) e
 rw[qcC];obtain⟨j1,j2⟩:=Pp (x:=(w,Z ns+1)) i1 hn;refine⟨j1,j2.trans ?_⟩;rw[List.zipIdx_append,fY];exact((i2.cons _).trans (List.perm_append_singleton _ _).symm).trans (by simp)
def qcA(hd:ns.Nodup){y:List UInt8×Nat}:y∈qi ns↔∃i,ns[i]?=U y.1/\y.2=i+1:=by
 rw[(Dd ns hd).2.mem_iff,dA];constructor
 .rintro⟨⟨w,i⟩,hp,rfl⟩;exact⟨i,List.mem_zipIdx_iff_getElem?.1 hp,rfl⟩
 .rintro⟨i,h1,h2⟩;exact⟨(y.1,i),List.mem_zipIdx_iff_getElem?.2 h1,by rw[<-h2]⟩
def qcz(hd:ns.Nodup):(qi ns).length=Z ns:=by rw[(Dd ns hd).2.length_eq];simp
def JW(a b:List UInt8):a<=b↔¬lt b a:=by
 show¬(b<a)↔_;have:∀a b:List UInt8,(a<b)↔lt a b:=by
  intro a
  induction a with
  |nil=>intro b;show _↔cJ _ _=aa;cases b<;>simp[cJ]
  |cons x a ih=>
   intro b;show _↔cJ _ _=aa;cases b with
   |nil=>simp[cJ]
   |cons y b=>
    rw[List.cons_lt_cons_iff,ih b];simp[cJ,BY,<-yI]
 rw[this]
def qcB(hd:ns.Nodup):(qi ns).map (·.1)=kP ns:=by
 have h1:((qi ns).map (·.1)).Perm ns:=by
  refine((Dd ns hd).2.map _).trans ?_;rw[zO];have:ns.zipIdx.map ((λ x:List UInt8×Nat=>x.1)∘λ p=>(p.1,p.2+1))=ns:=by
   rw[show((λ x:List UInt8×Nat=>x.1)∘λ p:List UInt8×Nat=>(p.1,p.2+1))=Prod.fst from rfl,List.zipIdx_map_fst]
  rw[this]
 refine List.Perm.eq_of_pairwise (λ a b _ _ h1 h2=>AJ h2 h1) ?_ ?_ (h1.trans (List.mergeSort_perm _ _).symm)
 .rw[List.pairwise_map];exact(Dd ns hd).1.imp λ h h'=>FW _ (uV h h')
 .have:=List.pairwise_mergeSort (le:=λ x y:List UInt8=>decide (x<=y)) (λ a b c h1 h2=>by
   simp only[decide_eq_true_eq,JW]at*;intro h3;exact vW (λ h:lt a b=>h2 (uV h3 h)) (λ h=>h2 (by rw[<-AJ h h1];exact h3))) (λ a b=>by
   simp only[D7,decide_eq_true_eq,JW];exact vW (λ h:lt b a=>.inr λ h'=>FW _ (uV h h')) .inl) ns
  exact this.imp λ h=>by simpa[JW]using h
def qiO:∃d,I.aB 190=U d/\cW d=af:=b9 (by kernel_rfl)
variable {pf mf:Nat}{ps:List Nat}
def qfO{z1 z2 z3 q f e:Nat}{D:cT}{cs:List O}(h:gW A p D pf ml mn b mf ps)(v1:VB A 25 z1 (.var 1) [pV p])(v2:VB A 9 z2 (.var 1) [ag w])(v3:VB A 190 z3 (.var 1) [.func (.func f) ⟨[]⟩ ⟨cs⟩])
 (hi:D.ns[i]?=U w)(hq:ps[i]?=U q)(hc:az I f (pV q::cs) A (.int .i64 e) B):az I 167 [pV z1,pV z2,pV z3] A (.int .i64 e) B:=by
 obtain⟨hV,⟨x,rows,qV,-,⟨-,qmn⟩,-⟩,⟨-,hmf⟩,⟨-,-,-,hnn⟩,-⟩:=h;obtain⟨g1,h1⟩:=Sn qV qmn;rw[Qp hnn hi]at h1;have lk:=P2 hmf hq;have l1:ax I A.get 25 (pw z1 0)=.ok (pV p):=by
  obtain⟨d,hd,ha⟩:=n_;exact v1.ld rfl hd ha
 have l2:=v2.l0 u9 rfl;have l3:ax I A.get 190 (pw z3 0)=.ok (.func (.func f) ⟨[]⟩ ⟨cs⟩):=by
  obtain⟨d,hd,ha⟩:=qiO;exact v3.ld rfl hd ha
 have lpf:ax I A.get 98 (pw p 0)=.ok (pV pf):=by
  obtain⟨d,hd,ha⟩:=xK;exact hV.ld rfl hd ha
 have lmf:=hV.l1 Bl rfl;obtain⟨g2,h2⟩:=hc;simp only[pV]at*;refine bQ (g1+g2) 60 (aN Tryz.func167) (by kernel_rfl) λ M hM=>?_
 simp(disch:=first|decide+kernel|omega|simp only[Wq,V])only[Tryz.f167,Aq,au,reduceIte,V,ak,l1,l2,l3,lpf,lmf,bW,bV,uP,Fp,h1,dX,dU,Nat.add_one_ne_zero,uZ,lk,Kw,zi,h2,Fq,bY []]<;>rfl
def Sh{f:Nat}{D:cT}{cs:List O}(h:gW A p D pf ml mn b mf ps)(hs:D.st<1000)(hi:D.ns[i]?=U w):
 ∃B,gW B p (eX D) pf ml mn b mf ps/\KT dT A B/\∀(q e:Nat) (C:Mem),ps[i]?=U q->az I f (pV q::cs) B (.int .i64 e) C->az I 100 [pV p,ag w,.func (.func f) ⟨[]⟩ ⟨cs⟩] A (.int .i64 e) C:=by
 have k1:=Kp.alloc A (ae 25 [pV p]);have v1:=aK A 25 [pV p];have n1:=aA A (ae 25 [pV p]);generalize hB1:A.alloc (ae 25 [pV p])=B1 at k1 v1 n1;have k2:=Kp.alloc B1 (ae 9 [ag w]);have v2:=aK B1 9 [ag w];have n2:(B1.alloc (ae 9 [ag w])).next=A.next+2:=by rw[aA,n1]
 generalize hB2:B1.alloc (ae 9 [ag w])=B2 at k2 v2 n2;have k3:=Kp.alloc B2 (ae 190 [.func (.func f) ⟨[]⟩ ⟨cs⟩]);have v3:=aK B2 190 [.func (.func f) ⟨[]⟩ ⟨cs⟩];have n3:(B2.alloc (ae 190 [.func (.func f) ⟨[]⟩ ⟨cs⟩])).next=A.next+3:=by rw[aA,n2]
 generalize hB3:B2.alloc (ae 190 [.func (.func f) ⟨[]⟩ ⟨cs⟩])=B3 at k3 v3 n3;rw[n1]at v2;rw[n2]at v3;have v1':=(v1.kp k2).kp k3;have v2':=v2.kp k3;have kB:=(k1.trans k2).trans k3;obtain⟨E,hE,nE,fE,kE,g2⟩:=(h.kp kB).step hs;have lp:ax I B3.get 25 (pw A.next 0)=.ok (pV p):=by
  obtain⟨d,hd,ha⟩:=n_;exact v1'.ld rfl hd ha
 refine⟨E,hE,kB.kt.trans kE,λ q e C hq hc=>?_⟩;obtain⟨g,hg⟩:=g2 _ _ _ _ (qfO hE (kE.vb v1' (by decide)) (kE.vb v2' (by decide)) (kE.vb v3 (by decide)) hi hq hc);simp only[pV]at*;refine bQ (g) 60 (aN Tryz.func100) (by kernel_rfl) λ M hM=>?_
 simp(disch:=omega)only[Tryz.f100,Aq,V,pA,sj,tL,hB1,hB2,hB3,n1,n2,lp,fb,hg]<;>rfl
def A9(D:cT)(i:Nat)(f:List UInt8×List UInt8):cT:={D with fs:=D.fs.set i (f.1++f.2,[])}
def Sj{D:cT}{f:List UInt8×List UInt8}(h:eu A p D)(hs:D.st<1000)(hi:D.ns[i]?=U w)(hf:D.fs[i]?=U f):
 ∃A',az I 55 [pV p,ag w] A (iN 0) A'/\eu A' p (A9 (eX D) i f)/\KT dT A A':=by
 obtain⟨pf,ml,mn,b,mf,ps,hP⟩:=h;obtain⟨B,hB,kB,g2⟩:=Sh hP hs hi;obtain⟨q,hq,a,e2,-⟩:=hB.2.2.2.2.1 i f hf;obtain⟨v,C,⟨g3,h3⟩,rfl,h4,nC,fC⟩:=qfq e2;obtain⟨s1,s2⟩:=hB.set hq (f:=(f.1++f.2,[])) ⟨_,by rw[kR];exact h4,.inl ⟨rfl,rfl⟩⟩ (by omega) λ z _=>fC z
 have h5:az I 105 [pV q] B (iN 0) C:=by
  simp only[pV]at*;refine bQ (g3) 60 (aN Tryz.func105) (by kernel_rfl) λ M hM=>?_
  simp(disch:=omega)only[Tryz.f105,Aq,V,h3]<;>rfl
 obtain⟨g,hg⟩:=g2 q 0 C hq h5;refine⟨C,?_,⟨pf,ml,mn,b,mf,ps,s1⟩,kB.trans s2⟩;simp only[pV]at*;refine bQ (g) 60 (aN Tryz.func55) (by kernel_rfl) λ M hM=>?_
 simp(disch:=omega)only[Tryz.f55,Aq,V,sr,hg]<;>rfl
end Go.Proofs.YtdobfpkceacneaaGreatDoor.sto
end
