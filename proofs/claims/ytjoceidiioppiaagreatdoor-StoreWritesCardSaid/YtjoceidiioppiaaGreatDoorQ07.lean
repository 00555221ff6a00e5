/- The abstract machine, the walk of the law and its plain laws, made small by a program; part 7: no conditions but those in each theorem. -/
import Derived.Test.YtjoceidiioppiaaGreatDoorQ06
set_option maxHeartbeats 16000000
set_option maxRecDepth 100000
set_option linter.unusedSimpArgs false
set_option linter.unusedVariables false
set_option linter.defProp false
noncomputable section
open Bool renaming and_eq_true→dW,false_eq_true→dR,false→ag,true→ae
open Classical renaming byContradiction→xL
open Go renaming Code→aH,Operand→bM,TypeId→au,Value→I
open List renaming append_assoc→iC,append_nil→jT,cons_append→iP,drop_eq_getElem_cons→mq,drop_eq_nil_of_le→DW,drop_length→Bv,exists_cons_of_ne_nil→Hi,exists_mem_of_ne_nil→Bw,filter_cons→iD,findIdx?_eq_none_iff→By,findIdx?_eq_some_iff_getElem→DZ,flatMap_append→Bz,flatMap_cons→mr,foldl_append→tV,foldl_cons→mu,getD_eq_getElem?_getD→m_,getElem?_append_left→fe,getElem?_append_right→eV,getElem?_cons_succ→dc,getElem?_cons_zero→c7,getElem?_drop→xP,getElem?_eq_getElem→aZ,getElem?_eq_some_iff→bU,getElem?_map→dN,getElem?_set→pL,getElem?_take→pM,getElem?_zip_eq_some→LY,getElem_inj→Hl,getElem_map→zu,getElem_mem→ff,getElem_of_mem→oU,getElem_take→BB,length→Z,length_append→aY,length_cons→cD,length_drop→vu,length_filter_le→BC,length_map→bc,length_nil→eB,length_pos_iff→je,length_reverse→xQ,length_set→dS,length_singleton→fb,length_take→df,map_append→gg,map_eq_nil_iff→gu,map_map→xR,map_nil→sQ,map_set→D8,mem_append→mw,mem_append_left→Hm,mem_append_right→xS,mem_cons→cG,mem_cons_of_mem→cV,mem_cons_self→cJ,mem_filter→qn,mem_flatMap→BD,mem_map→eH,mem_of_getElem?→gJ,mem_of_mem_take→zw,mem_singleton→dX,nil_append→lL,nodup_append→tX,nodup_cons→vw,nodup_nil→nb,not_mem_nil→eC,pairwise_iff_getElem→tY,reverse_cons→Ea,set_append_right→Eb,take_append_drop→tZ,take_length→dU,take_of_length_le→BF,take_succ_cons→Hn,take_succ_eq_append_getElem→d_,take_zero→zz
open List.cons renaming injEq→gq
open Nat renaming add_sub_cancel→zB,add_zero→eo,beq→aL,ble→av,blt→aO,blt_eq→bZ,le_of_ble_eq_true→gK,le_of_lt→BG,le_refl→aI,le_trans→dm,lt_irrefl→t_,lt_of_le_of_lt→mz,lt_of_lt_of_le→c9,lt_or_ge→ec,max_eq_right→ub,min_eq_left→nf,min_eq_right→BI,min_le_right→Ed,reduceAdd→ak,reduceEqDiff→aa,sub_self→iQ,zero_add→ep,zero_le→a8
open Option renaming getD_some→sU,map_some→gX,ne_none_iff_exists'→L2,none→V,some→U
open Option.some renaming inj→iR,injEq→fg
open Go.Proofs.Tryz renaming f100→vT,f115→qv,f116→pO,f117→uk,f118→sX,f119→jB,f174→um,f176→qx,f18→s_,f190→mD,f221→yg,f48→pg
open UInt8 renaming lt_iff_toNat_lt→BV,toNat_inj→td
namespace Go.Proofs.YtjoceidiioppiaaGreatDoor.sto
open Go.Am Go.Mdl Go.Sto Go.Shelf
def t47:sb 47 100 1=ae:=by kernel_rfl
def GS:∃d,O.aB 46=U d/\en d=ag:=cF (by kernel_rfl)
def qh4:∃d,O.aB 100=U d/\en d=ag:=cF (by kernel_rfl)
section
variable {b:Nat}
def CJ:bK O 49 (pw b 0) 0=.ok (pw b 0):=by kernel_rfl
def Ot:bK O 49 (pw b 0) 1=.ok (pw b 1):=by kernel_rfl
def Ou:bK O 49 (pw b 0) 2=.ok (pw b 2):=by kernel_rfl
def Ae:bK O 49 (pw b 0) 3=.ok (pw b 3):=by kernel_rfl
def CK:bK O 49 (pw b 0) 4=.ok (pw b 4):=by kernel_rfl
def Af:bK O 49 (pw b 0) 5=.ok (pw b 5):=by kernel_rfl
end
def KR(A B:Mem):Prop:=A.next<=B.next/\∀z,z<A.next->(∃e k l,(e=49\/e=135\/e=158)/\VB A e z k l)\/B.get z=A.get z
def Kp.kr{A B:Mem}(h:Kp A B):KR A B:=⟨h.1,λ z hz=>.inr (h.2 z hz)⟩
variable {C:Mem}
def KR.trans{A B:Mem}(h:KR A B)(h':KR B C):KR A C:=⟨dm h.1 h'.1,λ z hz=>by
 rcases h.2 z hz with h1|h1
 .exact .inl h1
 .rcases h'.2 z (c9 hz h.1)with⟨e,k,l,he,hv⟩|h2
  .exact .inl ⟨e,k,l,he,hz,hv.2.same h1.symm⟩
  .exact .inr (h2.trans h1)⟩
variable {r:Nat}{l:List I}
def KR.of{A B:Mem}{e:Nat}{k:Kd}(hv:VB A e r k l)(he:e=49\/e=135\/e=158)(h:A.next<=B.next)(hf:∀z,z<A.next->z≠r->B.get z=A.get z):KR A B:=⟨h,λ z hz=>by
 by_cases hr:z=r
 .subst hr;exact .inl ⟨e,k,l,he,hv⟩
 .exact .inr (hf z hz hr)⟩
def KR.kt{A B:Mem}(h:KR A B):KT (λ e=>e≠49/\e≠135/\e≠158) A B:=⟨h.1,λ e z k l he hv=>by
 rcases h.2 z hv.1 with⟨e',k',l',he',hv'⟩|h2
 .exact aU rfl (VB.ne hv hv' (by rintro rfl;rcases he' with rfl|rfl|rfl<;>simp at he))
 .exact h2,λ z hz=>by
 rcases h.2 z hz.1 with⟨e',k',l',he',hv'⟩|h2
 .exact aU rfl (hz.ne hv')
 .exact h2⟩
variable {p:Nat}
def ek.kr{A B:Mem}{D:ba}(h:ek A p D)(K:KR A B):ek B p D:=by
 have hm:∀(m:Nat) (es:List MapEntry) (c:Nat),m<A.next->A.get m=U (.map es c)->B.get m=A.get m:=λ m es c hl hm=>by
  rcases K.2 m hl with⟨e',k',l',he',hv'⟩|h2
  .exact aU rfl (hv'.dP hm)
  .exact h2
 obtain⟨pf,ml,mn,b,mf,ps,h1,h2,⟨h3,h3'⟩,h4,h5,h6⟩:=h;have q:=K.kt;have h2':=h2;obtain⟨_,_,-,⟨q1,-⟩,⟨q2,-⟩,-⟩:=h2';refine⟨pf,ml,mn,b,mf,ps,q.vb h1 (by decide),h2.kt q ⟨by decide,by decide,by decide,by decide⟩ λ m es c h hl=>hm m es c (by rcases hl with rfl|rfl<;>assumption) h,⟨c9 h3 K.1,by rw[hm _ _ _ h3 h3'];exact h3'⟩,h4,λ i f hf=>?_,h6⟩;obtain⟨q',e1,e2⟩:=h5 i f hf;have e2':=e2;obtain⟨_,e3,-⟩:=e2';exact⟨q',e1,e2.kt q (q.2.1 _ _ _ _ (by decide) e3) ⟨by decide,by decide⟩⟩
def uv(w:List UInt8):List (List UInt8):=if w=[]then []else [w]
def Ep(w:List UInt8):(uv w).flatten=w:=by
 unfold uv;split
 .subst_vars;rfl
 .simp
def L_(w:List UInt8):(uv w).length<1000:=by unfold uv;split<;>simp
def pN(A:Mem)(r:Nat)(D:ba)(f bf:Nat)(xf:I)(ps:List Nat):Prop:=
 VB A 49 r (.var 6) [pV f,xf,.int .i64 D.q,.int .i64 D.st,.int .i64 D.ar,.bool D.dn]/\rz A f (kY D.ns) (Z D.ns-D.k) (Z D.ns)/\aq A 100 1 bf (ps.map λ p=>[pV p]) xf/\
 (Z ps=Z D.fs/\Z D.fs=Z D.ns/\ps.Nodup/\D.ns.Nodup)/\∀(i:Nat) (g:List UInt8×List UInt8),D.fs[i]?=U g->∃p,ps[i]?=U p/\rr A p g.1 (uv g.2)
def gL(A:Mem)(r:Nat)(D:ba):Prop:=∃f bf xf ps,pN A r D f bf xf ps
section
variable {P:au->Prop}{A B:Mem}(K:KT P A B)
include K
variable {k la:Nat}
def rz.kt{f:Nat}{l:List (List UInt8×Nat)}(h:rz A f l k la)(hP:P 135/\P 163/\P 166):rz B f l k la:=by
 obtain⟨xw,bw,xs,x,h1,h2,h3,h4,b,h5⟩:=h;exact⟨xw,bw,xs,x,K.vb h1 hP.1,K.iB h2 hP.2.1,h3,h4,b,K.iB h5 hP.2.2⟩
def rr.kt{d:List UInt8}{L:List (List UInt8)}(h:rr A p d L)(hP:P 158/\P 169):rr B p d L:=by
 obtain⟨x,b,h1,h2⟩:=h;exact⟨x,b,K.vb h1 hP.1,K.iB h2 hP.2⟩
variable {ps:List Nat}
def pN.kt{f bf:Nat}{D:ba}{xf:I}(h:pN A r D f bf xf ps)(hP:P 49/\P 100/\(P 135/\P 163/\P 166)/\P 158/\P 169):pN B r D f bf xf ps:=by
 obtain⟨h1,h2,h3,h4,h5⟩:=h;refine⟨K.vb h1 hP.1,h2.kt K hP.2.2.1,K.iB h3 hP.2.1,h4,λ i g hg=>?_⟩;obtain⟨p,e1,e2⟩:=h5 i g hg;exact⟨p,e1,e2.kt K hP.2.2.2⟩
end
def gL.kd{A B:Mem}{D:ba}(h:gL A r D)(K:KT dT A B):gL B r D:=by
 obtain⟨f,bf,xf,ps,h⟩:=h;exact⟨f,bf,xf,ps,h.kt K ⟨by decide,by decide,⟨by decide,by decide,by decide⟩,by decide,by decide⟩⟩
variable {ps:List Nat}
def pN.own{A B:Mem}{f bf:Nat}{D D':ba}{xf:I}(h:pN A r D f bf xf ps)(hD:D'.k=D.k/\D'.ns=D.ns/\D'.fs=D.fs)(vB:VB B 49 r (.var 6) [pV f,xf,.int .i64 D'.q,.int .i64 D'.st,.int .i64 D'.ar,.bool D'.dn])
 (nB:A.next<=B.next)(fB:∀z,z<A.next->z≠r->B.get z=A.get z):pN B r D' f bf xf ps/\KR A B:=by
 have K:=KT.oN h.1 nB fB;obtain⟨h1,h2,h3,h4,h5⟩:=h;obtain⟨d1,d2,d3⟩:=hD;refine⟨⟨vB,by rw[d1,d2];exact h2.kt K ⟨by decide,by decide,by decide⟩,K.iB h3 (by decide),by rw[d2,d3];exact h4,λ i g hg=>?_⟩,KR.of h1 (.inl rfl) nB fB⟩;rw[d3]at hg;obtain⟨p,e1,e2⟩:=h5 i g hg;exact⟨p,e1,e2.kt K ⟨by decide,by decide⟩⟩
variable {n:Nat}
def qfC{A:Mem}{a:Nat}{dn:Bool}{x0 x1 x2:I}(h:VB A 49 r (.var 6) [x0,x1,x2,.int .i64 n,.int .i64 a,.bool dn])(hn:n<100000)(ha:a<100000):
 ∃B,az O 98 [pV r] A (.bool (!(dn||decide (a=1)))) B/\VB B 49 r (.var 6) [x0,x1,x2,.int .i64 (n+1:Nat),.int .i64 (if dn then a else a-1:Nat),.bool (dn||decide (a=1))]/\B.next=A.next/\∀z,z≠r->B.get z=A.get z:=by
 have l3:=h.l3 u3 rfl;have a1:a_ .add .i64 ((n:Nat):Int) ((1:Nat):Int)=.ok (.int .i64 (n+1:Nat)):=e_ (ct (by omega));obtain⟨B,sB,vB,nB,fB⟩:=db (tb:=O) (t:=3) (o:=3) (v:=.int .i64 (n+1:Nat)) sa h.2 (by simp) rfl rfl;have l4:aj O B.get 3 (.pointer (U ⟨r,4,V⟩))=.ok (.int .i64 a):=dg u3 rfl vB rfl;have l5:aj O B.get 4 (.pointer (U ⟨r,5,V⟩))=.ok (.bool dn):=dg u4 rfl vB rfl;have hp:=h.1;cases dn with
 |true=>
  refine⟨B,?_,⟨by omega,vB⟩,nB,fB⟩;simp only[pV];by_cases h0:0<a
  all_goals
   skip
   refine cq 60 (aD Tryz.func98) (by kernel_rfl) λ M=>?_
   simp(disch:=first|decide+kernel|omega|simp only[Wq,aa])only[Tryz.f98,Aq,av,reduceIte,aa,ak,bA,br,Ae,CK,Af,l3,a1,sB,l4,l5,dM,dK,h0]<;>rfl
 |false=>
  rcases a with _|_|a
  .refine⟨B,?_,⟨by omega,vB⟩,nB,fB⟩;simp only[pV];refine cq 60 (aD Tryz.func98) (by kernel_rfl) λ M=>?_
   simp(disch:=first|decide+kernel|omega|simp only[Wq,aa])only[Tryz.f98,Aq,av,reduceIte,aa,ak,bA,br,Ae,CK,Af,l3,a1,sB,l4,l5,dM,dK,t_]<;>rfl
  .obtain⟨C,sC,vC,nC,fC⟩:=db (tb:=O) (t:=3) (o:=4) (v:=.int .i64 (0:Nat)) sa vB (by simp) rfl rfl;have s1:a_ .sub .i64 ((0+1:Nat):Int) ((1:Nat):Int)=.ok (.int .i64 (0:Nat)):=eQ (by omega) (ct (by omega));have l6:aj O C.get 3 (.pointer (U ⟨r,4,V⟩))=.ok (.int .i64 (0:Nat)):=dg u3 rfl vC rfl;obtain⟨E,sE,vE,nE,fE⟩:=db (tb:=O) (t:=4) (o:=5) (v:=.bool ae) Ti vC (by simp) rfl rfl;have l7:aj O E.get 4 (.pointer (U ⟨r,5,V⟩))=.ok (.bool ae):=dg u4 rfl vE rfl;refine⟨E,?_,⟨by omega,vE⟩,by omega,λ z hz=>by rw[fE z hz,fC z hz,fB z hz]⟩;simp only[pV];refine cq 60 (aD Tryz.func98) (by kernel_rfl) λ M=>?_
   simp(config:={maxSteps:=4000000})(disch:=first|decide+kernel|omega|simp only[Wq,aa])only[Tryz.f98,Aq,av,reduceIte,aa,ak,bA,br,Ae,CK,Af,l3,a1,sB,l4,l5,dM,dK,Nat.succ_pos,s1,sC,l6,sE,l7]<;>rfl
  .obtain⟨C,sC,vC,nC,fC⟩:=db (tb:=O) (t:=3) (o:=4) (v:=.int .i64 (a+1:Nat)) sa vB (by simp) rfl rfl;have s1:a_ .sub .i64 ((a+1+1:Nat):Int) ((1:Nat):Int)=.ok (.int .i64 (a+1:Nat)):=eQ (by omega) (ct (by omega));have l6:aj O C.get 3 (.pointer (U ⟨r,4,V⟩))=.ok (.int .i64 (a+1:Nat)):=dg u3 rfl vC rfl;have l7:aj O C.get 4 (.pointer (U ⟨r,5,V⟩))=.ok (.bool ag):=dg u4 rfl vC rfl;refine⟨C,?_,⟨by omega,by simpa using vC⟩,by omega,λ z hz=>by rw[fC z hz,fB z hz]⟩;rw[show(!(ag||decide (a+1+1=1)))=ae by simp];simp only[pV];refine cq 60 (aD Tryz.func98) (by kernel_rfl) λ M=>?_
   simp(config:={maxSteps:=4000000})(disch:=first|decide+kernel|omega|simp only[Wq,aa])only[Tryz.f98,Aq,av,reduceIte,aa,ak,bA,br,Ae,CK,Af,l3,a1,sB,l4,l5,dM,dK,Nat.succ_pos,s1,sC,l6,l7,Nat.succ_ne_zero]<;>rfl
def Gt{A:Mem}{f bf:Nat}{D:ba}{xf:I}(h:pN A r D f bf xf ps)(hs:D.st<1000/\D.ar<1000):∃B,az O 98 [pV r] A (.bool (!(cL D).dn)) B/\pN B r (cL D) f bf xf ps/\KR A B:=by
 obtain⟨B,hB,vB,nB,fB⟩:=qfC h.1 (by omega) (by omega);obtain⟨h1,h2⟩:=h.own (D':=cL D) ⟨rfl,rfl,rfl⟩ vB (by omega) λ z _=>fB z
 exact⟨B,hB,h1,h2⟩
def qfb{A:Mem}{a:Nat}{D:ba}(h:gL A r D):∃v B,az O 10 [pV r,.int .i64 a] A v B/\v=.tuple ⟨[]⟩/\gL B r {D with ar:=a}/\KR A B:=by
 obtain⟨f,bf,xf,ps,h⟩:=h;obtain⟨B,sB,vB,nB,fB⟩:=db (o:=4) (v:=.int .i64 a) sa h.1.2 (by simp) rfl rfl;have mx1:c_ O .max [3,3] [iN 0,.int .i64 a]=.ok (.int .i64 a):=by rw[Am.max_i64,ub (a8 _)]
 obtain⟨h1,h2⟩:=h.own (D':={D with ar:=a}) ⟨rfl,rfl,rfl⟩ ⟨by have:=h.1.1;omega,vB⟩ (by omega) λ z _=>fB z
 refine⟨_,B,?_,rfl,⟨f,bf,xf,ps,h1⟩,h2⟩;simp only[pV];refine cq 60 (aD Tryz.func10) (by kernel_rfl) λ M=>?_
 simp(disch:=decide+kernel)only[Tryz.f10,Aq,aa,bA,br,CK,mx1,sB,cQ]<;>rfl
def qff{A:Mem}{q:Nat}:∃r A',az O 6 [.int .i64 q] A (pV r) A'/\gL A' r (D0 q)/\Kp A A':=by
 obtain⟨f,B,⟨g,hg⟩,hF,kB,hf⟩:=qfn;have bd:eu O 49 [(0,pV f),(2,.int .i64 q)]=.ok (.agg ⟨[pV f,.slice V 0 0,.int .i64 q,iN 0,iN 0,.bool ag]⟩):=by kernel_rfl
 have k1:=Kp.alloc B (af 49 [pV f,.slice V 0 0,.int .i64 q,iN 0,iN 0,.bool ag]);have v1:=aQ B 49 [pV f,.slice V 0 0,.int .i64 q,iN 0,iN 0,.bool ag];have hq:¬(q:Int)<((0:Nat):Int):=by omega
 refine⟨B.next,_,?_,⟨f,0,_,[],v1,hF.kt k1.kt (P:=λ _=>True) ⟨trivial,trivial,trivial⟩,aq.nil _ _ _ _,⟨rfl,rfl,nb,nb⟩,λ i g hg=>by simp[D0]at hg⟩,kB.trans k1⟩;simp only[pV]at*;refine bX (g) 60 (aD Tryz.func6) (by kernel_rfl) λ M hM=>?_
 simp(disch:=first|decide+kernel|omega)only[Tryz.f6,Aq,aa,Ga,hq,hg,bd,a7]<;>rfl
variable {ns:List (List UInt8)}{w:List UInt8}
def qbX(h:w∉ns):numOf ns w=0:=by
 unfold numOf;rw[By.2 λ x hx=>by simp only[decide_eq_false_iff_not];rintro rfl;exact h hx];rfl
variable {A B:Mem}{i:Nat}{g:List UInt8×List UInt8}
def pN.set{f bf:Nat}{D:ba}{xf:I}(h:pN A r D f bf xf ps)(hi:ps[i]?=U p)(hg:rr B p g.1 (uv g.2))(hv:∃k l,VB A 158 p k l)(nB:A.next<=B.next)(fB:∀z,z<A.next->z≠p->B.get z=A.get z):
 pN B r {D with fs:=D.fs.set i g} f bf xf ps/\KR A B:=by
 obtain⟨k,l,hv⟩:=hv;have K:=KT.oN hv nB fB;obtain⟨h1,h2,h3,⟨h4,h4',h4n,h4m⟩,h5⟩:=h;have hil:=(bU.1 hi).1;refine⟨⟨K.vb h1 (by decide),h2.kt K ⟨by decide,by decide,by decide⟩,K.iB h3 (by decide),⟨by rw[dS];exact h4,by rw[dS];exact h4',h4n,h4m⟩,λ j y hy=>?_⟩,KR.of hv (.inr (.inr rfl)) nB fB⟩;by_cases hj:i=j
 .subst hj;rw[List.getElem?_set_self (by omega)]at hy;cases hy;exact⟨p,hi,hg⟩
 .rw[List.getElem?_set_ne hj]at hy;obtain⟨p',e1,x,b,e2,e3⟩:=h5 j y hy;have hne:p'≠p:=by
   rintro rfl;obtain⟨hjl,ej⟩:=bU.1 e1;obtain⟨_,ei⟩:=bU.1 hi;exact hj ((Hl h4n).1 (ei.trans ej.symm))
  exact⟨p',e1,x,b,⟨by have:=e2.1;omega,e2.2.same (fB p' e2.1 hne)⟩,K.iB e3 (by decide)⟩
def KW{f bf:Nat}{D:ba}{xf:I}(h:pN A r D f bf xf ps)(hn:Z D.ns<1000)(hi:D.ns[i]?=U w)(hp:ps[i]?=U p):az O 56 [pV r,ai w] A (pV p) A:=by
 obtain⟨hV,hF,hS,⟨e1,e2,e3,e4⟩,-⟩:=h;obtain⟨g,hg⟩:=KX hF (by omega) (Ki e4) (by rw[AG e4];omega);rw[Kh e4,AH e4 hi]at hg;have hil:=(bU.1 hi).1;have l0:aj O A.get 46 (pw r 0)=.ok (pV f):=by
  obtain⟨d,hd,ha⟩:=GS;exact hV.ld rfl hd ha
 have l1:aj O A.get 47 (pw r 1)=.ok xf:=hV.ld rfl (mW t47).1 rfl;have s1:a_ .sub .i64 ((i+1:Nat):Int) ((1:Nat):Int)=.ok (iN i):=eQ (by omega) (ct (by omega));have ix:=xx t47 hS (i:=i) (by rw[bc];omega);obtain⟨d,hd1,hd2⟩:=qh4;have lx:=aq.load (j:=0) hS hd1 hd2 (by rw[dN,hp];rfl) rfl (by omega);rw[eo]at lx;simp only[pV]at*;refine bX (g) 60 (aD Tryz.func56) (by kernel_rfl) λ M hM=>?_
 simp(disch:=first|decide+kernel|omega)only[Tryz.f56,Aq,aa,bA,br,CJ,Ot,l0,l1,hg,c7,dc,Nat.add_one_ne_zero,s1,ix,lx]<;>rfl
def Wh:eO O 47 1 [(0,pw p 0)]=.ok (af 100 [pw p 0],.dZ 1 2):=by kernel_rfl
def Wi:eO O 47 0 []=.ok (af 100 [],.dZ 0 0):=by kernel_rfl
def Vt:eu O 158 []=.ok (.agg ⟨[ai [],.slice V 0 0]⟩):=by kernel_rfl
variable {b:Nat}
def NR{t:bM}:fU O A.get .eql 100 t (.const (.pointer V)) (pw b 0) (.pointer V)=.ok (.bool ag):=by kernel_rfl
def qga:bk O 47=.ok 1:=by kernel_rfl
def qfe{D:ba}(h:gL A r D)(hs:D.st<1000/\D.ar<1000)(hl:0<Z w/\Z w<=64)(hn:Z D.ns<1000)(hk:D.k<=Z D.ns):
 ∃B,az O 47 [pV r,ai w] A (.int .i64 ((eJ D w).1:Int)) B/\gL B r (eJ D w).2/\KR A B:=by
 obtain⟨f,bf,xf,ps,h⟩:=h;obtain⟨B,⟨g1,h1⟩,hB,kB⟩:=Gt h hs;unfold eJ;cases hd:(cL D).dn with
 |true=>
  rw[hd]at h1;refine⟨B,?_,⟨f,bf,xf,ps,hB⟩,kB⟩;simp only[pV,bB]at*;refine bX (g1) 60 (aD Tryz.func47) (by kernel_rfl) λ M hM=>?_
  simp(disch:=omega)only[Tryz.f47,Aq,aa,h1]<;>rfl
 |false=>
  rw[hd]at h1;simp only[dR,bg];obtain⟨hV,hF,hS,⟨e1,e2,e3,e4⟩,hR⟩:=hB;have e4':=e4;have l0:aj O B.get 46 (.pointer (U ⟨r,0,V⟩))=.ok (pV f):=by
   obtain⟨d,hd,ha⟩:=GS;exact hV.ld rfl hd ha
  by_cases hw:w∈D.ns
  .rw[aA hw];obtain⟨i,hi,e⟩:=oU hw;obtain⟨g2,h2⟩:=qfE hF (by show Z D.ns-D.k<900000;omega) (Ki e4) (by rw[AG e4];show Z D.ns<400000;omega) hl (by rw[Kh e4,AH e4 (show(cL D).ns[i]?=U w by rw[<-e];exact aZ hi)];omega);refine⟨B,?_,⟨f,bf,xf,ps,hV,hF,hS,⟨e1,e2,e3,e4⟩,hR⟩,kB⟩;simp only[pV]at*;refine bX (g1+g2) 60 (aD Tryz.func47) (by kernel_rfl) λ M hM=>?_
   simp(disch:=omega)only[Tryz.f47,Aq,aa,h1,bA,br,CJ,l0,h2,c7,dc]<;>rfl
  .rw[ax hw];obtain⟨C,⟨g2,h2⟩,hFC,nC,fC⟩:=qfc hF (by show Z D.ns-D.k<900000;omega) (by show Z D.ns<900000;omega) (Ki e4) (by rw[AG e4];show Z D.ns<400000;omega) hl (by rw[Kh e4];exact qbX hw);obtain⟨_,_,_,_,qV,-⟩:=hF;have K:=KT.oN qV nC fC;have kC:=KR.of qV (.inr (.inl rfl)) nC fC;have VC:=K.vb hV (by decide);have SC:=K.iB hS (by decide);have hr:=VC.1;have hpl:Z ps<1000:=by
    have:(cL D).ns.length=Z D.ns:=rfl;omega
   obtain⟨x1,D1,b1,ap1,s1,n1,nb1,k1,hb1⟩:=Ld t47 SC (by rw[bc];omega) λ l hl v hv=>by
    obtain⟨y,hy,rfl⟩:=eH.1 hl;rw[dX.1 hv];rfl
   have k2:=Kp.alloc D1 (af 158 [ai [],.slice V 0 0]);have v2:=aQ D1 158 [ai [],.slice V 0 0];have n2:=aG D1 (af 158 [ai [],.slice V 0 0]);generalize hD2:D1.alloc (af 158 [ai [],.slice V 0 0])=D2 at k2 v2 n2;obtain⟨x3,D3,ap3,s3,n3,f3⟩:=Gx t47 (r:=[pV D1.next]) (s1.same k2.1 (k2.2 b1)) (by rw[bc];omega) rfl (λ v hv=>by rw[dX.1 hv];rfl);have l1:aj O (C.alloc (af 100 [])).get 47 (.pointer (U ⟨r,1,V⟩))=.ok xf:=(VC.kp (Kp.alloc C _)).ld rfl (mW t47).1 rfl;have V3:VB D3 49 r (.var 6) _:=⟨by omega,VC.2.same (by rw[f3 r (by omega) (by omega),k2.2 r (by omega),k1.2 r hr])⟩;obtain⟨E,sE,vE,nE,fE⟩:=db (t:=47) (o:=1) (v:=x3) qga V3.2 (by simp) (aq.dQ s3).1 (aq.dQ s3).2;have kCE:∀z,z<C.next->z≠r->E.get z=C.get z:=λ z hz hzr=>by rw[fE z hzr,f3 z (by omega) (by omega),k2.2 z (by omega),k1.2 z hz]
   have nCE:C.next<=E.next:=by omega
   have KE:=KT.oN VC nCE kCE;have vp:VB E 158 D1.next (.var 2) [ai [],.slice V 0 0]:=⟨by omega,v2.2.same (by rw[fE _ (by omega),f3 _ (by omega) (by omega)])⟩
   refine⟨E,?_,⟨f,D2.next+1,x3,ps++[D1.next],⟨by omega,vE⟩,?_,?_,⟨?_,?_,?_,?_⟩,λ i g hg=>?_⟩,(kB.trans kC).trans (KR.of VC (.inl rfl) nCE kCE)⟩
   .simp only[pV]at*;refine bX (g1+g2) 60 (aD Tryz.func47) (by kernel_rfl) λ M hM=>?_
    simp(config:={maxSteps:=4000000})(disch:=first|decide+kernel|omega|simp only[Wq,aa])only[Tryz.f47,Aq,av,reduceIte,aa,ak,h1,bA,br,CJ,Ot,l0,h2,c7,dc,Wi,l1,ap1,Vt,a7,hD2,Wh,ap3,sE]<;>rfl
   .have:=hFC.kt KE ⟨by decide,by decide,by decide⟩;rw[<-QG]at this;show rz E f (kY (D.ns++[w])) ((D.ns++[w]).length-D.k) (D.ns++[w]).length;rw[aY,fb,show Z D.ns+1-D.k=Z D.ns-D.k+1 by omega];exact this
   .have:=s3.same (by omega) λ _=>fE _ (by omega)
    rw[gg];exact this
   .show _=(D.fs++[_]).length;rw[aY,aY,e1];rfl
   .show(D.fs++[_]).length=(D.ns++[w]).length;rw[aY,aY,show Z D.fs=Z D.ns from e2];rfl
   .rw[tX];refine⟨e3,vw.2 ⟨eC,nb⟩,λ a ha c hc=>?_⟩;obtain⟨i,hi,e⟩:=oU ha;obtain⟨p',q1,_,_,q2,-⟩:=hR i _ (aZ (show i<(cL D).fs.length by omega));rw[aZ hi,e]at q1;cases q1;have:=q2.1;rw[dX.1 hc];omega
   .show(D.ns++[w]).Nodup;rw[tX];exact⟨e4',vw.2 ⟨eC,nb⟩,λ a ha c hc e=>hw (by rw[dX.1 hc]at e;exact e▸ha)⟩
   .replace hg:(D.fs++[([],[])])[i]?=U g:=hg;have e1':Z ps=Z D.fs:=e1;rcases ec i (Z D.fs)with hi|hi
    .rw[fe hi]at hg;obtain⟨q,q1,q2⟩:=hR i g hg;exact⟨q,by rw[fe (by omega)];exact q1,(q2.kt K ⟨by decide,by decide⟩).kt KE ⟨by decide,by decide⟩⟩
    .rw[eV hi]at hg;cases hq:i-Z D.fs with
     |succ n=>rw[hq]at hg;simp at hg
     |zero=>
      rw[hq]at hg;cases hg;obtain rfl:i=Z D.fs:=by omega
      exact⟨D1.next,by rw[eV (by omega),e1',iQ];rfl,_,0,vp,aq.nil _ _ _ _⟩
def qfi{D:ba}(h:gL A r D)(hs:D.st<1000/\D.ar<1000)(hn:Z D.ns<1000)(hi:D.ns[i]?=U w)(hg:D.fs[i]?=U g)(hl:g.1.length+g.2.length<1000000):
 ∃B,az O 49 [pV r,ai w] A (.int .i64 ((gU D i g).1:Int)) B/\gL B r (gU D i g).2/\KR A B:=by
 obtain⟨f,bf,xf,ps,h⟩:=h;obtain⟨B,⟨g1,h1⟩,hB,kB⟩:=Gt h hs;unfold gU;cases hd:(cL D).dn with
 |true=>
  rw[hd]at h1;refine⟨B,?_,⟨f,bf,xf,ps,hB⟩,kB⟩;simp only[pV,bB]at*;refine bX (g1) 60 (aD Tryz.func49) (by kernel_rfl) λ M hM=>?_
  simp(disch:=omega)only[Tryz.f49,Aq,aa,h1]<;>rfl
 |false=>
  rw[hd]at h1;obtain⟨p,hp,hR⟩:=hB.2.2.2.2 i g hg;obtain⟨g2,h2⟩:=KW hB hn hi hp;obtain⟨C,⟨g3,h3⟩,hC,nC,fC⟩:=qfo hR (L_ _) (by rw[Ep];exact hl);rw[Ep]at hC;obtain⟨x,b,v1,-⟩:=hR;obtain⟨s1,s2⟩:=hB.set (g:=(g.1++g.2,[])) hp hC ⟨_,_,v1⟩ nC fC;refine⟨C,?_,⟨f,bf,xf,ps,s1⟩,kB.trans s2⟩;simp only[pV]at*;refine bX (g1+g2+g3) 60 (aD Tryz.func49) (by kernel_rfl) λ M hM=>?_
  simp(disch:=first|decide+kernel|omega)only[Tryz.f49,Aq,aa,h1,h2,h3,fm,NR,eY]<;>rfl
def qfh{D:ba}(h:gL A r D)(hs:D.st<1000/\D.ar<1000)(hn:Z D.ns<1000):
 ∃B,az O 50 [pV r] A (.int .i64 ((mU D).1:Int)) B/\gL B r (mU D).2/\KR A B:=by
 obtain⟨f,bf,xf,ps,h⟩:=h;obtain⟨B,⟨g1,h1⟩,hB,kB⟩:=Gt h hs;unfold mU;cases hd:(cL D).dn with
 |true=>
  rw[hd]at h1;refine⟨B,?_,⟨f,bf,xf,ps,hB⟩,kB⟩;simp only[pV,bB]at*;refine bX (g1) 60 (aD Tryz.func50) (by kernel_rfl) λ M hM=>?_
  simp(disch:=omega)only[Tryz.f50,Aq,aa,h1]<;>rfl
 |false=>
  rw[hd]at h1;obtain⟨hV,⟨xw,bw,xs,x,q1,q2,q3,q4,q5⟩,hS,hL,hR⟩:=hB;have hk:Z xs<900000:=by
   rw[q3];show Z D.ns-D.k<900000;omega
  have l0:aj O B.get 46 (.pointer (U ⟨r,0,V⟩))=.ok (pV f):=by
   obtain⟨d,hd,ha⟩:=GS;exact hV.ld rfl hd ha
  obtain⟨g2,h2⟩:=SI q1 q2 (by omega);obtain⟨C,xw',bw',⟨g3,h3⟩,V1,S1,nC,fC⟩:=qfD q1 q2 hk q5.one;have K:=KT.oN q1 nC fC;have sp:=AO f;refine⟨C,?_,⟨f,bf,xf,ps,K.vb hV (by decide),⟨xw',bw',[],x,V1,S1,?_,λ v hv=>aU hv eC,?_⟩,K.iB hS (by decide),hL,λ i g hg=>?_⟩,kB.trans (KR.of q1 (.inr (.inl rfl)) nC fC)⟩
  .simp only[pV]at*;refine bX (g1+g2+g3) 60 (aD Tryz.func50) (by kernel_rfl) λ M hM=>?_
   simp(disch:=first|decide+kernel|omega|simp only[Wq,aa])only[Tryz.f50,Aq,av,reduceIte,aa,ak,h1,bA,br,CJ,l0,h2,h3,sp,Fq,bQ [(3,8)]]<;>rfl
  .show 0=Z D.ns-Z D.ns;omega
  .obtain⟨b,hb⟩:=q5;exact⟨b,K.iB hb (by decide)⟩
  .obtain⟨q,e1,e2⟩:=hR i g hg;exact⟨q,e1,e2.kt K ⟨by decide,by decide⟩⟩
def t51:sb 51 94 2=ae:=by kernel_rfl
def DS(D:ba):Prop:=∀g∈D.fs,g.1.length+g.2.length<1000000
def nQ:=cu s_
def EL:aH:=sub nQ [1,1,1,0,1,0,0]
def Xf:s_.body=U (.seq (sub nQ [0]) (.seq (sub nQ [1,0]) (.seq (sub nQ [1,1,0]) (.seq (.seq (sub nQ [1,1,1,0,0]) (.block 0 (.loop EL))) (.seq (sub nQ [1,1,1,1,0]) (sub nQ [1,1,1,1,1])))))):=by kernel_rfl
variable {j:Nat}
def U_{D:ba}{s:List UInt8×List UInt8}(h:D.all[j]?=U s):D.ns[j]?=U s.1/\∃g,D.fs[j]?=U g/\s.2=g.1++g.2:=by
 unfold ba.all at h;rw[LY,dN]at h;refine⟨h.1,?_⟩;cases hf:D.fs[j]? with
 |none=>rw[hf]at h;simp at h
 |some g=>
  rw[hf]at h;exact⟨g,rfl,(iR h.2).symm⟩
def SF{D:ba}(h:gL A r D)(hn:Z D.ns<1000)(hb:DS D):∃v A',az O 18 [pV r] A v A'/\pK A' D.fv v/\Kp A A':=by
 obtain⟨f,bf,xf,ps,h⟩:=h;have hnd:=h.2.2.2.1.2.2.2;obtain⟨v,B,⟨g1,h1⟩,⟨b,hN⟩,kB⟩:=qfx h.2.1 (by omega) (by rw[AG hnd];omega);have hnl:((kY D.ns).map (·.1)).length=Z D.ns:=by rw[bc,AG hnd]
 have hlen:=y4 t91 hN;rw[bc,hnl]at hlen;have hff:=h.2.2.2.1.2.1;have hl:=FE hnd;have l0:aj O A.get 46 (.pointer (U ⟨r,0,V⟩))=.ok (pV f):=by
  obtain⟨d,hd,ha⟩:=GS;exact h.1.ld rfl hd ha
 refine cZ (aD Tryz.func18) Xf (by kernel_rfl) ?_;simp only[pV]at*;apply W.q2
 .intro M _;simp(disch:=omega)only[nQ,s_,Aq,aa];rfl
 apply W.qG (g1)
 .intro M hM;simp(disch:=omega)only[nQ,s_,Aq,aa,bA,br,CJ,l0,h1];rfl
 apply W.seq;apply W.q
 .intro M;simp(disch:=omega)only[nQ,s_,Aq,aa];rfl
 apply W.block;refine W.up (Z D.ns) (λ i t C=>(D.dn=ae->i=0)/\∃b' y,oW 94 2 B C b' ((D.fl.take i).map fW) y/\Sl t [(0,.pointer (U ⟨r,0,V⟩)),(3,y),(4,v),(5,.int .i64 i)]) ?_ (a8 _) ⟨λ _=>rfl,_,_,oW.nil (Kp.refl _),?_⟩
 .rintro i t C hi ⟨hdn,b',y,hO,g0,g3,g4,g5,-⟩;have kC:=kB.trans hO.2.1;have hC:=h.kt (Kp.kt (P:=λ _=>True) kC) ⟨trivial,trivial,⟨trivial,trivial,trivial⟩,trivial,trivial⟩;have l5:=hC.1.l5 u4 rfl;have fin:∀t',D.fv=D.fl.take i->Sl t' [(3,y)]->W O (.seq (sub nQ [1,1,1,1,0]) (sub nQ [1,1,1,1,1])) ⟨t',40,[],C,V⟩ (LV O s_ λ v A'=>pK A' D.fv v/\Kp A A'):=λ t' e hs=>by
   obtain⟨g3,-⟩:=hs;apply W.run 40
   .intro M;simp(disch:=omega)only[nQ,s_,Aq,aa,g3];rfl
   exact⟨by simp,rfl,_,(by simp only[s_,Aq,aa]<;>rfl),⟨b',by rw[e];exact hO.1⟩,kC⟩
  by_cases hlt:i<Z D.ns
  .cases hd:D.dn with
   |true=>
    rw[hd]at l5;apply W.run 20
    .intro M;simp(disch:=first|decide+kernel|omega|simp only[Wq,aa])only[EL,nQ,s_,Aq,av,reduceIte,aa,ak,g0,g4,g5,hlen,hlt,bA,br,Af,l5];rfl
    refine fin _ ?_ ?_
    .unfold ba.fv;rw[hd,hdn hd];rfl
    .simp only[Sq,aa,ak,g3]
   |false=>
    rw[hd]at l5;have hsi:D.fl[i]?=U D.fl[i]:=aZ (by omega);have htk:D.fl.take (i+1)=D.fl.take i++[D.fl[i]]:=d_ (by omega);have hwi:(D.fl.map (·.1))[i]?=U (D.fl[i]).1:=by rw[dN,hsi];rfl
    obtain⟨j,hj⟩:=OI hnd hff (ff (show i<Z D.fl by omega));rw[OJ hnd,<-QE hnd]at hwi;generalize D.fl[i]=s at*;obtain⟨s1,g,s2,s3⟩:=U_ hj;obtain⟨p,p1,p2⟩:=hC.2.2.2.2 j g s2;have hNC:=hN.same hO.2.1.1 (hO.2.1.2 b);have j1:=xx t91 hNC (by rw[bc,hnl];exact hlt);have j2:=aq.load (t:=9) (i:=i) (j:=0) (l:=[ai s.1]) hNC u9 rfl (by rw[dN,hwi];rfl) rfl (by omega);rw[eo]at j2;obtain⟨ga,ha⟩:=KW hC hn s1 p1;obtain⟨w,E,⟨gb,hb'⟩,rfl,kE⟩:=SE p2 (L_ _) (by rw[Ep];exact hb g (gJ s2));rw[Ep,<-s3]at hb';have j2E:=aq.load (tb:=O) (t:=9) (i:=i) (j:=0) (l:=[ai s.1]) (hNC.same kE.1 (kE.2 b)) u9 rfl (by rw[dN,hwi];rfl) rfl (by omega);rw[eo]at j2E;have hOE:oW 94 2 B E b' ((D.fl.take i).map fW) y:=⟨hO.1.same kE.1 (kE.2 b'),hO.2.1.trans kE,hO.2.2⟩;obtain⟨y2,F,happ,hO2⟩:=hOE.push t51 (fW s) (by rw[bc,df];omega) rfl (Ju s);have bd:=MA (a:=s.1) (b:=s.2);have bs:=MS (f:=s);have ss:=Dq;simp only[pV]at ha hb';apply W.cC (ga+gb) 20
    .intro M hM;simp(disch:=first|decide+kernel|omega|simp only[Wq,aa])only[EL,nQ,s_,Aq,av,reduceIte,aa,ak,g0,g3,g4,g5,hlen,hlt,bA,br,Af,l5,j1,j2,ha,hb',j2E,bd,bs,happ,ss,Fq,bQ [(4,10),(4,11)]];rfl
    refine⟨hlt,_,_,rfl,(λ h=>by cases h),_,y2,by rw[htk,gg];exact hO2,?_⟩;simp only[Sq,aa,ak,g0,g4]
  .have e:i=Z D.ns:=by omega
   subst e;apply W.run 20
   .intro M;simp(disch:=first|decide+kernel|omega|simp only[Wq,aa])only[EL,nQ,s_,Aq,av,reduceIte,aa,ak,g4,g5,hlen,hlt];rfl
   refine fin _ ?_ ?_
   .unfold ba.fv;cases hd:D.dn with
    |true=>rw[hdn hd];rfl
    |false=>rw[<-hl,dU];rfl
   .simp only[Sq,aa,ak,g3]
 .simp only[Sq,aa,ak]
def pW:=cu vT
def Ic:aH:=sub pW [1,1,1,0,1,0,0]
def WB:vT.body=U (.seq (sub pW [0]) (.seq (sub pW [1,0]) (.seq (sub pW [1,1,0]) (.seq (.seq (sub pW [1,1,1,0,0]) (.block 0 (.loop Ic))) (.seq (sub pW [1,1,1,1,0]) (sub pW [1,1,1,1,1])))))):=by kernel_rfl
def qfj{D:ba}(h:gL A r D)(hd:D.dn=ag)(hn:Z D.ns<1000)(hb:DS D)(hs:used D<100000000):∃v A',az O 100 [pV r] A v A'/\v=.int .i64 (used D:Int)/\Kp A A':=by
 obtain⟨v,B,⟨g1,h1⟩,hF,kB⟩:=SF h hn hb;unfold used at*;unfold ba.fv at hF;rw[hd]at hF;simp only[dR,bg]at hF;have hnl:Z D.fl<1000:=by
  obtain⟨f,bf,xf,ps,h⟩:=h;rw[FE h.2.2.2.1.2.2.2];exact hn
 have hlen:=hF.len;refine cZ (aD Tryz.func100) WB (by kernel_rfl) ?_;simp only[pV]at*;apply W.q2
 .intro M _;simp(disch:=omega)only[pW,vT,Aq,aa];rfl
 apply W.qG (g1)
 .intro M hM;simp(disch:=omega)only[pW,vT,Aq,aa,h1];rfl
 apply W.seq;apply W.q
 .intro M;simp(disch:=omega)only[pW,vT,Aq,aa];rfl
 apply W.block;refine W.up (Z D.fl) (λ i t C=>C=B/\Sl t [(3,.int .i64 (gT (D.fl.take i):Int)),(4,v),(5,.int .i64 i)]) ?_ (a8 _) ⟨rfl,?_⟩
 .rintro i t C hi ⟨rfl,g3,g4,g5,-⟩;by_cases hlt:i<Z D.fl
  .have hs':=aZ hlt;have ht:=TU hlt;have hle:=TT D.fl (i+1);generalize D.fl[i]=s at*;obtain⟨bb,oo,j1,-,-,j2⟩:=hF.at hs';have ll:=gB (l:=s.2) u9;have a1:a_ .add .i64 ((gT (D.fl.take i):Nat):Int) ((s.2.length:Nat):Int)=.ok (iN (gT (D.fl.take (i+1)))):=by
    rw[ht];exact e_ (ct (by omega))
   apply W.run 20
   .intro M;simp(disch:=first|decide+kernel|omega)only[Ic,pW,vT,Aq,aa,g3,g4,g5,hlen,hlt,j1,Oi,j2,ll,a1];rfl
   refine⟨hlt,_,_,rfl,rfl,?_⟩;simp only[Sq,aa,ak,g4]
  .have e:i=Z D.fl:=by omega
   subst e;rw[dU]at g3;apply W.run 20
   .intro M;simp(disch:=decide+kernel)only[Ic,pW,vT,Aq,aa,g4,g5,hlen,hlt];rfl
   apply W.run 40
   .intro M;simp(disch:=omega)only[pW,vT,Aq,aa,g3];rfl
   exact⟨by simp,rfl,_,(by simp only[vT,Aq,aa]<;>rfl),rfl,kB⟩
 .simp only[Sq,aa,ak];exact rfl
def lW:=cu pg
def IM:aH:=sub lW [1,1,1,1,1,0,1,0,0]
def XA:pg.body=U (.seq (sub lW [0]) (.seq (sub lW [1,0]) (.seq (sub lW [1,1,0]) (.seq (sub lW [1,1,1,0]) (.seq (sub lW [1,1,1,1,0]) (.seq (.seq (sub lW [1,1,1,1,1,0,0]) (.block 0 (.loop IM))) (sub lW [1,1,1,1,1,1]))))))):=by kernel_rfl
def qfd{bx:Nat}{D:ba}{d n:List UInt8}{x:I}(h:gL A r D)(hs:D.st<1000/\D.ar<1000)(hn:Z D.ns<1000)(hb:DS D)(hu:used D<=D.q)(hqq:D.q<100000000)(hi:D.ns[i]?=U n)
 (hf:D.fs[i]?=U (d,[]))(hx:aq A 9 1 bx [[ai w]] x)(hdl:Z d+Z w<1000000):
 ∃v A',az O 48 [pV r,ai n,x] A v A'/\v=.int .i64 ((gv D i d w).1:Int)/\gL A' r (gv D i d w).2/\KR A A':=by
 obtain⟨f,bf,xf,ps,h⟩:=h;obtain⟨B,⟨g1,h1⟩,hB,kB⟩:=Gt h hs;refine cZ (aD Tryz.func48) XA (by kernel_rfl) ?_;unfold gv;simp only[pV]at*;cases hd:(cL D).dn with
 |true=>
  rw[hd]at h1;apply W.q
  .intro M;simp(disch:=omega)only[lW,pg,Aq,aa];rfl
  apply W.seq;apply W.cC (g1) 20
  .intro M hM;simp(disch:=first|decide+kernel|omega)only[lW,pg,Aq,aa,h1];rfl
  exact⟨by simp,rfl,_,(by simp only[pg,Aq,aa]<;>rfl),rfl,⟨f,bf,xf,ps,hB⟩,kB⟩
 |false=>
  rw[hd]at h1;simp only[dR,bg];obtain⟨p,hp,hR⟩:=hB.2.2.2.2 i (d,[]) hf;obtain⟨g2,h2⟩:=KW hB hn hi hp;have hxB:=kB.kt.iB hx (by decide);have hlen:=y4 t91 hxB;have ix:=xx t91 hxB (i:=0) (by simp);have ls:=aq.load (tb:=O) (t:=9) (i:=0) (j:=0) (l:=[ai w]) (v:=ai w) hxB u9 rfl rfl rfl (by omega);have hc:=I1 (a:=[]) (b:=w) (by simpa using (by omega:Z w<1000000));have h00:(0:Nat)*1+0=0*1:=rfl;have hu':used (cL D)<=(cL D).q:=hu;have hqq':(cL D).q<100000000:=hqq;obtain⟨v,C,⟨g3,h3⟩,rfl,kC⟩:=qfj ⟨f,bf,xf,ps,hB⟩ hd hn hb (by omega);have hC:=hB.kt (Kp.kt (P:=λ _=>True) kC) ⟨trivial,trivial,⟨trivial,trivial,trivial⟩,trivial,trivial⟩;have lq:aj O B.get 3 (.pointer (U ⟨r,2,V⟩))=.ok (.int .i64 ((cL D).q:Int)):=hB.1.ld rfl u3 rfl;have lqC:aj O C.get 3 (.pointer (U ⟨r,2,V⟩))=.ok (.int .i64 ((cL D).q:Int)):=hC.1.ld rfl u3 rfl;have s1:a_ .sub .i64 (((cL D).q:Nat):Int) ((used (cL D):Nat):Int)=.ok (.int .i64 ((cL D).q-used (cL D):Nat)):=eQ (by omega) (ct (by omega));have mx1:c_ O .max [3,3] [.int .i64 (0:Nat),.int .i64 ((cL D).q-used (cL D):Nat)]=.ok (.int .i64 ((cL D).q-used (cL D):Nat)):=by rw[Am.max_i64,ub (a8 _)]
  have ll:=gB (tb:=O) (t:=9) (l:=w) u9;have sn:=pE .i64 (cL D).q rfl;generalize hro:(cL D).q-used (cL D)=ro at*;have mn1:c_ O .min [3,3] [.int .i64 (ro:Nat),.int .i64 (Z w:Nat)]=.ok (.int .i64 (min ro (Z w):Nat)):=Am.yS;have st:=AR (tb:=O) (t:=9) (l:=w) (k:=.i64) (n:=min ro (Z w)) u9 (Ed _ _);have hS:qH (cL D) i d w=(if Z w<=ro then 0 else 10,wh (cL D) i d (w.take (min ro (Z w)))):=by
   unfold qH;rw[hro];split
   .rw[BI (by assumption),dU]
   .rw[nf (by omega)]
  rw[hS];have htl:(w.take (min ro (Z w))).length<=Z w:=List.length_take_le' ..;generalize w.take (min ro (Z w))=s at*;have kE:=Kp.alloc C (af 9 [ai s]);have vE:=aQ C 9 [ai s];have bs:=zV (w:=s);generalize hE:C.alloc (af 9 [ai s])=E at kE vE;have hEP:=hC.kt (Kp.kt (P:=λ _=>True) kE) ⟨trivial,trivial,⟨trivial,trivial,trivial⟩,trivial,trivial⟩;have hxE:aq E 9 1 C.next [[ai s]] (.slice (U ⟨C.next,0,V⟩) 1 2):=.inr ⟨.var 1,2,rfl,vE.1,vE.2,λ l hl=>by rw[dX.1 hl];rfl,.inl rfl⟩
  obtain⟨p',hp',hR'⟩:=hEP.2.2.2.2 i (d,[]) hf;rw[hp]at hp';cases hp';obtain⟨v,F,⟨g4,h4⟩,rfl,hF,nF,fF⟩:=qfm hR' (by simp[uv]) hxE (by omega);have hF':rr F p d (uv s):=by
   unfold uv;split at hF
   .rw[aA (by assumption)];exact hF
   .rw[ax (by assumption)];exact hF
  obtain⟨x9,b9,v9,-⟩:=hR';obtain⟨s2,s3⟩:=hEP.set (g:=(d,s)) hp hF' ⟨_,_,v9⟩ nF fF;have kF:=(kB.trans (kC.trans kE).kr).trans s3;simp only[pV]at*;apply W.ic (g1)
  .intro M hM _;simp(disch:=first|decide+kernel|omega)only[lW,pg,Aq,aa,h1];rfl
  apply W.ic (g2)
  .intro M hM _;simp(disch:=first|decide+kernel|omega)only[lW,pg,Aq,aa,h2,fm,NR,eY];rfl
  apply W.q
  .intro M;simp(disch:=first|decide+kernel|omega)only[lW,pg,Aq,aa];rfl
  apply W.seq;refine W.to (n:=52) (λ t M=>M=B/\Sl t [(0,pV r),(7,pV p),(8,ai w)]) ?_ ?_
  .apply W.seq;apply W.run 20
   .intro M;simp(disch:=first|decide+kernel|omega)only[lW,pg,Aq,aa];rfl
   apply W.block;refine W.up 1 (λ i t M=>M=B/\Sl t [(0,pV r),(2,x),(7,pV p),(8,ai (if i=0 then []else w)),(9,.int .i64 i)]) ?_ (a8 _) ⟨rfl,?_⟩
   .rintro i t M hi ⟨rfl,q0,q2,q7,q8,q9,-⟩;by_cases hlt:i<1
    .obtain rfl:i=0:=by omega
     apply W.run 20
     .intro M;simp(disch:=first|decide+kernel|omega)only[IM,lW,pg,Aq,aa,q2,q8,q9,hlen,fb,hlt,ix,ls,h00,aA,hc];rfl
     refine⟨hlt,_,_,rfl,rfl,?_⟩;simp only[Sq,aa,ak,q0,q2,q7]
    .obtain rfl:i=1:=by omega
     apply W.run 20
     .intro M;simp(disch:=first|decide+kernel|omega)only[IM,lW,pg,Aq,aa,q2,q9,hlen,fb];rfl
     refine⟨rfl,_,_,rfl,rfl,?_⟩;simp only[Sq,aa,ak,q0,q7,q8]
   .simp only[Sq,aa,ak,pV]
  .rintro t M ⟨rfl,q0,q7,q8,-⟩;show W O _ _ _;simp only[pV]at q0 q7;by_cases hg:Z w<=ro
   .rw[aA hg];have hg':¬ro<Z w:=by omega
    apply W.cC (g3+g4) 60
    .intro N hN;simp(config:={maxSteps:=4000000})(disch:=first|decide+kernel|omega|simp only[Wq,aa])only[lW,pg,Aq,av,reduceIte,aa,ak,q0,q7,q8,bA,br,Ou,lq,h3,lqC,sn,s1,mx1,ll,mn1,st,bs,hE,h4,dM,dK,hg',Fq,bQ [(3,5)]];rfl
    exact⟨by simp,rfl,_,(by simp only[pg,Aq,aa]<;>rfl),rfl,⟨f,bf,xf,ps,s2⟩,kF⟩
   .rw[ax hg];have hg':ro<Z w:=by omega
    apply W.cC (g3+g4) 60
    .intro N hN;simp(config:={maxSteps:=4000000})(disch:=first|decide+kernel|omega|simp only[Wq,aa])only[lW,pg,Aq,av,reduceIte,aa,ak,q0,q7,q8,bA,br,Ou,lq,h3,lqC,sn,s1,mx1,ll,mn1,st,bs,hE,h4,dM,dK,hg',Fq,bQ [(3,5)]];rfl
    exact⟨by simp,rfl,_,(by simp only[pg,Aq,aa]<;>rfl),rfl,⟨f,bf,xf,ps,s2⟩,kF⟩
structure fR (D:ba):Prop where
 nd:D.ns.Nodup
 fl:Z D.fs=Z D.ns
 la:D.la=Z D.ns
 k:D.k<=Z D.ns
 u:used D<=D.q
def mb(fs:List (List UInt8×List UInt8)):Nat:=(fs.map λ f=>f.1.length+f.2.length).sum
def ze{D:ba}(hd:D.ns.Nodup)(hf:Z D.fs=Z D.ns):used D=mb D.fs:=by
 unfold used gT mb ba.fl;rw[xR,((C5 D.ns hd).2.map _).sum_nat,xR];congr 1;refine List.ext_getElem (by simp[hf]) λ i h1 h2=>?_
 rw[bc]at h2;simp[List.getElem_zipIdx,aZ h2]
def qgN(a b:List (List UInt8×List UInt8)):mb (a++b)=mb a+mb b:=by simp[mb]
def qgP{fs:List (List UInt8×List UInt8)}{d s:List UInt8}(h:fs[i]?=U (d,[])):mb (fs.set i (d,s))=mb fs+Z s:=by
 obtain⟨hi,e⟩:=bU.1 h;have h1:fs=fs.take i++(d,[])::fs.drop (i+1):=by rw[<-e,<-mq hi,tZ]
 have h2:fs.set i (d,s)=fs.take i++(d,s)::fs.drop (i+1):=by
  rw[List.set_eq_take_append_cons_drop,aA hi]
 rw[h2]
 conv=>rhs;rw[h1]
 simp[mb];omega
def qgQ{fs:List (List UInt8×List UInt8)}(h:fs[i]?=U g):mb (fs.set i (g.1++g.2,[]))=mb fs:=by
 obtain⟨hi,e⟩:=bU.1 h;have h1:fs=fs.take i++g::fs.drop (i+1):=by rw[<-e,<-mq hi,tZ]
 have h2:fs.set i (g.1++g.2,[])=fs.take i++(g.1++g.2,[])::fs.drop (i+1):=by
  rw[List.set_eq_take_append_cons_drop,aA hi]
 rw[h2]
 conv=>rhs;rw[h1]
 simp[mb]
def qgO{fs:List (List UInt8×List UInt8)}(h:g∈fs):g.1.length+g.2.length<=mb fs:=by
 obtain⟨a,b,rfl⟩:=List.append_of_mem h;simp[mb];omega
def fR.CN{D:ba}(h:fR D)(hq:D.q<1000000):DS D:=λ g hg=>by
 have:=qgO hg;have:=h.u;rw[ze h.nd h.fl]at this;omega
def fR.step{D:ba}(h:fR D):fR (cL D):=⟨h.nd,h.fl,h.la,h.k,h.u⟩
def fR.create{D:ba}(h:fR D)(hw:w∉D.ns):fR (yE D w):=by
 have nd:(yE D w).ns.Nodup:=by
  show(D.ns++[w]).Nodup;rw[tX];exact⟨h.nd,vw.2 ⟨eC,nb⟩,λ a ha c hc e=>hw (by rw[dX.1 hc]at e;exact e▸ha)⟩
 have fl:(yE D w).fs.length=(yE D w).ns.length:=by
  show(D.fs++[_]).length=(D.ns++[w]).length;rw[aY,aY,h.fl];rfl
 refine⟨nd,fl,?_,?_,?_⟩
 .show D.la+1=(D.ns++[w]).length;rw[h.la,aY];rfl
 .show D.k<=(D.ns++[w]).length;rw[aY];have:=h.k;omega
 .rw[ze nd fl];have:=h.u;rw[ze h.nd h.fl]at this;show mb (D.fs++[([],[])])<=D.q;rw[qgN];simpa[mb]using this
def fR.append{D:ba}{d:List UInt8}(h:fR D)(hf:D.fs[i]?=U (d,[])):fR (qH D i d w).2:=by
 have key:∀s:List UInt8,Z s<=D.q-used D->fR (wh D i d s):=λ s hs=>by
  have fl:(wh D i d s).fs.length=(wh D i d s).ns.length:=by
   show(D.fs.set i (d,s)).length=_;rw[dS];exact h.fl
  refine⟨h.nd,fl,h.la,h.k,?_⟩;rw[ze (D:=wh D i d s) h.nd fl];have:=h.u;rw[ze h.nd h.fl]at this hs;show mb (D.fs.set i (d,s))<=D.q;rw[qgP hf];omega
 unfold qH;split
 .exact key _ (by assumption)
 .exact key _ (List.length_take_le ..)
def fR.sync{D:ba}(h:fR D)(hf:D.fs[i]?=U g):fR (Dz D i g):=by
 have fl:(Dz D i g).fs.length=(Dz D i g).ns.length:=by
  show(D.fs.set i (g.1++g.2,[])).length=_;rw[dS];exact h.fl
 refine⟨h.nd,fl,h.la,h.k,?_⟩;rw[ze (D:=Dz D i g) h.nd fl];have:=h.u;rw[ze h.nd h.fl]at this;show mb (D.fs.set i (g.1++g.2,[]))<=D.q;rw[qgQ hf];exact this
def fR.qgk{D:ba}(h:fR D):fR (K7 D):=⟨h.nd,h.fl,h.la,aI _,h.u⟩
def Du{D:Mem}{a:cr}:cm O (D.alloc (af 246 [bN 0,uN 0,iN 0])) 246 (pw D.next 0) (.agg ⟨bP a⟩)=.ok (D.alloc (af 246 (bP a))):=fP xH rfl rfl (by simp) (by simp[bP,bS])
def zi:dj O 246=.ok (.agg ⟨[bN 0,uN 0,iN 0]⟩):=by kernel_rfl
def CZ(l:List cr)(j:Nat):Int:=if j=0 then-1 else(((l[j-1]?).map λ a=>a.byte.toNat).getD 0:Nat)
def qaW{l:List cr}(hp:(l.map (·.byte)).Pairwise (·<·))(hj:j<Z l):¬(((l[j].byte.toNat:Nat):Int)<=CZ l j):=by
 unfold CZ;split
 .omega
 .rename_i h0;rw[aZ (by omega)];have:=tY.1 hp (j-1) j (by rw[bc];omega) (by rw[bc];omega) (by omega);rw[zu,zu]at this;have:=BV.1 this;simp only[gX,sU];omega
def N3(t:T I):ev t (.const (.int .i64 (-1)))=.ok (.int .i64 (-1)):=rfl
def j7:=cu mD
def jo:aH:=sub j7 [1,0,1,0,0]
def Iv:aH:=sub jo [1,1,0,0,1,1,1,1,0,0]
def W4:mD.body=U (.seq (sub j7 [0]) (.seq (.seq (sub j7 [1,0,0]) (.block 0 (.loop jo))) (.seq (sub j7 [1,1,0]) (sub j7 [1,1,1])))):=by kernel_rfl
def M6:jo=(.seq (sub jo [0]) (.seq (sub jo [1,0]) (.seq (.block 1 (.seq (sub jo [1,1,0,0,0]) (.seq (sub jo [1,1,0,0,1,0]) (.seq (sub jo [1,1,0,0,1,1,0]) (.seq (sub jo [1,1,0,0,1,1,1,0]) (.block 2 (.loop Iv))))))) (sub jo [1,1,1])))):=by kernel_rfl
variable {M:List aw}{y:I}{k:Nat}
def qet(h:dA A M y)(hM:M≠ [])(hg:eM M)(hl:Z M<1000000):∃v A',az O 190 [.agg ⟨[y,.int .u64 k]⟩] A v A'/\v=.bool ae/\Kp A A':=by
 refine cZ (aD Tryz.func190) W4 (by kernel_rfl) ?_;have kB:=Kp.alloc A (af 115 [y,.int .u64 k]);have vB:=aQ A 115 [y,.int .u64 k];apply W.q
 .intro M;simp(disch:=omega)only[j7,mD,Aq,aa,a7];rfl
 have hB:=h.kp kB;generalize A.alloc (af 115 [y,.int .u64 k])=B at kB vB hB;have ly:=λ D hD=>(vB.kp (A':=D) hD).l0 eg rfl
 have lB:=ly B (Kp.refl _);have cd:=hB.len;apply W.seq;apply W.q
 .intro M;simp(disch:=decide+kernel)only[j7,mD,Aq,aa,gi,lB,cd];rfl
 apply W.block;refine W.up (Z M) (λ i t D=>Kp B D/\Sl t [(1,.pointer (U ⟨A.next,0,V⟩)),(9,y),(10,.int .i64 (Z M)),(11,.int .i64 i)]) ?_ (a8 _) ⟨Kp.refl _,?_⟩
 .rintro i t D hi ⟨kD,g1,g9,g10,g11,-⟩;have hD:=hB.kp kD;by_cases hlt:i<Z M
  .have hMi:=aZ hlt;obtain⟨l1,l2,l3,-,-⟩:=hg i _ hMi;have hfew:=w_ (hg i _ hMi);obtain⟨x,p,j1,j2,hx,-⟩:=hD.at hMi;generalize M[i]=s at*;have sE:=xC hx;have kE:=Kp.alloc D (af 186 (aS x s));have vE:=aQ D 186 (aS x s);generalize D.alloc (af 186 (aS x s))=E at sE kE vE;have a0:=vE.l0 f_ rfl;have a1:=vE.m1 u4 rfl;have a2:=vE.m2 dH rfl;have hxE:=hx.kp kE;have lx:=hxE.len;rw[M6];apply W.q2
   .intro M _;simp(disch:=decide+kernel)only[jo,j7,mD,Aq,aa,g10,g11,hlt];rfl
   apply W.seq;apply W.block;apply W.q
   .intro M;simp(disch:=omega)only[jo,j7,mD,Aq,aa,g9,g11,j1,j2,rh,a7,sE];rfl
   apply W.seq;refine W.to (n:=56) (λ t D'=>D'=E/\Sl t [(1,.pointer (U ⟨A.next,0,V⟩)),(3,.int .i64 i),(4,.pointer (U ⟨D.next,0,V⟩)),(9,y),(10,.int .i64 (Z M)),(11,.int .i64 i)]) ?_ ?_
   .cases hf:s.fin with
    |true=>
     rw[hf]at a1;apply W.run 20
     .intro M;simp(disch:=first|decide+kernel|omega|simp only[Wq,aa])only[jo,j7,mD,Aq,av,reduceIte,aa,ak,fV,a1];rfl
     refine⟨rfl,_,_,rfl,rfl,?_⟩;simp only[Sq,aa,ak,g1,g9,g10,g11]
    |false=>
     rw[hf]at a1;have ho:=l1 hf;rw[ho]at a2;apply W.run 20
     .intro M;simp(disch:=first|decide+kernel|omega|simp only[Wq,aa])only[jo,j7,mD,Aq,av,reduceIte,aa,ak,fV,nT,a1,a2];rfl
     refine⟨rfl,_,_,rfl,rfl,?_⟩;simp only[Sq,aa,ak,g1,g9,g10,g11]
   .rintro t D' ⟨rfl,g1,g3,g4,g9,g10,g11,-⟩;apply W.q
    .intro M;simp(disch:=omega)only[jo,j7,mD,Aq,aa,N3];rfl
    apply W.seq;apply W.run 20
    .intro M;simp(disch:=decide+kernel)only[jo,j7,mD,Aq,aa,g4,eT,a0,lx];rfl
    apply W.block;refine W.up (Z s.arcs) (λ j t F=>Kp D' F/\Sl t [(1,.pointer (U ⟨A.next,0,V⟩)),(3,.int .i64 i),(5,.int .i64 (CZ s.arcs j)),(9,y),(10,.int .i64 (Z M)),(11,.int .i64 i),(25,x),(26,.int .i64 (Z s.arcs)),(27,.int .i64 j)]) ?_ (a8 _) ⟨Kp.refl _,?_⟩
    .rintro j t F hj ⟨kF,g1,g3,g5,g9,g10,g11,g25,g26,g27,-⟩;by_cases hlt2:j<Z s.arcs
     .have hsj:=aZ hlt2;obtain⟨q,q1,q2⟩:=(hxE.kp kF).at hsj;have ht:=l3 _ (ff hlt2);have hla:=qaW l2 hlt2;have hlv:CZ s.arcs (j+1)=((s.arcs[j].byte.toNat:Nat):Int):=by unfold CZ;rw[ax (by omega),zB,hsj];rfl
      generalize s.arcs[j]=a at*;have sG:=Du (D:=F) (a:=a);have kG:=Kp.alloc F (af 246 (bP a));have vG:=aQ F 246 (bP a);generalize F.alloc (af 246 (bP a))=G at sG kG vG;have b0:=vG.l0 u5 rfl;have b2:=vG.m2 u3 rfl;have ht2:¬i<=a.to:=by omega
      have cv:=eX (s:=5) (d:=3) (k:=.u8) (n:=a.byte.toNat) (by rw[u5];rfl) u3 (ct (by have:=a.byte.toNat_lt;omega));apply W.run 20
      .intro M;simp(disch:=first|decide+kernel|omega|simp only[Wq,aa])only[Iv,jo,j7,mD,Aq,av,reduceIte,aa,ak,g3,g5,g25,g26,g27,hlt2,q1,q2,zi,a7,sG,yK,tG,b0,b2,iZ,gA,ht2,cv,tM,hla];rfl
      refine⟨hlt2,_,_,rfl,kF.trans kG,?_⟩;simp only[Sq,aa,ak,g1,g3,g9,g10,g11,g25,g26,hlv]
     .have e:j=Z s.arcs:=by omega
      subst e;apply W.run 20
      .intro M;simp(disch:=decide+kernel)only[Iv,jo,j7,mD,Aq,aa,g26,g27];rfl
      apply W.run 20
      .intro M;simp(disch:=first|decide+kernel|omega)only[jo,j7,mD,Aq,aa,g11];rfl
      refine⟨hlt,_,_,rfl,kD.trans (kE.trans kF),?_⟩;simp only[Sq,aa,ak,g1,g9,g10]
    .simp only[Sq,aa,ak,g1,g3,g9,g10,g11];rfl
  .have e:i=Z M:=by omega
   subst e;have lD:=ly D kD;have lenD:=hD.len;have hpos:=je.2 hM;rw[M6];apply W.q
   .intro M;simp(disch:=decide+kernel)only[jo,j7,mD,Aq,aa,g10,g11];rfl
   apply W.seq;apply W.run 20
   .intro M;simp only[jo,j7,mD,Aq,aa];rfl
   apply W.seq;apply W.run 20
   .intro M;simp(disch:=decide+kernel)only[j7,mD,Aq,aa,g1,gi,lD,lenD,dM,dK,hpos];rfl
   apply W.run 20
   .intro M;simp only[j7,mD,Aq,aa];rfl
   exact⟨by simp,rfl,_,(by simp only[mD,Aq,aa]<;>rfl),rfl,kB.trans kD⟩
 .simp only[Sq,aa,ak]
def mP(s:Nat×Bool)(a:cr):Nat×Bool:=if s.2=ag\/a.out<s.1 then(a.out,ae)else s
theorem PY:∀(l:List cr) (s:Nat×Bool),(s=(0,ae)\/∃a∈l,a.out=0)->l.foldl mP s=(0,ae)
 | [],s,h=>by
  rcases h with h|⟨a,h,-⟩
  .exact h
  .cases h
 |a::l,s,h=>by
  rw[mu];refine PY l _ ?_;rcases h with rfl|⟨b,hb,h0⟩
  .exact .inl (by unfold mP;rw[ax (by simp)])
  .rcases cG.1 hb with rfl|hb
   .refine .inl ?_;unfold mP;obtain⟨n,an⟩:=s;cases an with
    |false=>simp[h0]
    |true=>
     by_cases hn:b.out<n
     .rw[aA (.inr hn),h0]
     .rw[ax (by simp;omega)];rw[h0]at hn;have:n=0:=by omega
      rw[this]
   .exact .inr ⟨b,hb,h0⟩
variable {o:Nat}
def uH:bK O 188 (pw b o) 0=.ok (pw b o):=by kernel_rfl
def pY:=cu um
def Cs:aH:=sub pY [1,1,0,1,0,0]
def W7:um.body=U (.seq (sub pY [0]) (.seq (sub pY [1,0]) (.seq (.seq (sub pY [1,1,0,0]) (.block 0 (.loop Cs))) (.seq (sub pY [1,1,1,0]) (sub pY [1,1,1,1]))))):=by kernel_rfl
def SA{s:aw}{x z:I}(hx:gd A s.arcs x)(hp:VB A 188 p (.var 4) [x,.bool s.fin,.int .u64 s.out,z])(hl:Z s.arcs<=256):∃v A',az O 174 [.pointer (U ⟨p,0,V⟩)] A v A'/\v=.int .u64 (((s.arcs.foldl mP (s.out,s.fin)).1:Nat):Int)/\Kp A A':=by
 refine cZ (aD Tryz.func174) W7 (by kernel_rfl) ?_;have a0:=hp.l0 f_ rfl;have a1:=hp.m1 u4 rfl;have a2:=hp.m2 dH rfl;have lx:=hx.len;apply W.q2
 .intro M _;simp(disch:=first|decide+kernel|omega|simp only[Wq,aa])only[pY,um,Aq,aa,av,reduceIte,ak,bA,br,uH,fV,nT,a1,a2,Fq,bQ []];rfl
 apply W.seq;apply W.q
 .intro M;simp(disch:=decide+kernel)only[pY,um,Aq,aa,bA,br,uH,eT,a0,lx];rfl
 apply W.block;refine W.up (Z s.arcs) (λ j t D=>Kp A D/\Sl t [(3,.int .u64 ((((s.arcs.take j).foldl mP (s.out,s.fin)).1:Nat):Int)),(4,.bool ((s.arcs.take j).foldl mP (s.out,s.fin)).2),(21,x),(22,.int .i64 (Z s.arcs)),(23,.int .i64 j)]) ?_ (a8 _) ⟨Kp.refl _,?_⟩
 .rintro j t D hj ⟨kD,g3,g4,g21,g22,g23,-⟩;by_cases hlt:j<Z s.arcs
  .have hsj:=aZ hlt;obtain⟨q,q1,q2⟩:=(hx.kp kD).at hsj;have htk:(s.arcs.take (j+1)).foldl mP (s.out,s.fin)=mP ((s.arcs.take j).foldl mP (s.out,s.fin)) s.arcs[j]:=by rw[d_ hlt,tV];rfl
   generalize s.arcs[j]=a at*;generalize (s.arcs.take j).foldl mP (s.out,s.fin)=w at*;obtain⟨n,an⟩:=w;have sG:=Du (D:=D) (a:=a);have kG:=Kp.alloc D (af 246 (bP a));have vG:=aQ D 246 (bP a);generalize D.alloc (af 246 (bP a))=G at sG kG vG;have b1:=vG.m1 dH rfl;cases an with
   |false=>
    have e:mP (n,ag) a=(a.out,ae):=by unfold mP;rw[aA (.inl rfl)]
    apply W.run 20
    .intro M;simp(disch:=first|decide+kernel|omega|simp only[Wq,aa])only[Cs,pY,um,Aq,av,reduceIte,aa,ak,g3,g4,g21,g22,g23,hlt,q1,q2,zi,a7,sG,wP,b1];rfl
    refine⟨hlt,_,_,rfl,kD.trans kG,?_⟩;rw[htk,e];simp only[Sq,aa,ak,g21,g22]
   |true=>
    by_cases hn:a.out<n
    .have e:mP (n,ae) a=(a.out,ae):=by unfold mP;rw[aA (.inr hn)]
     apply W.run 20
     .intro M;simp(disch:=first|decide+kernel|omega|simp only[Wq,aa])only[Cs,pY,um,Aq,av,reduceIte,aa,ak,g3,g4,g21,g22,g23,hlt,q1,q2,zi,a7,sG,wP,b1,hn];rfl
     refine⟨hlt,_,_,rfl,kD.trans kG,?_⟩;rw[htk,e];simp only[Sq,aa,ak,g21,g22]
    .have e:mP (n,ae) a=(n,ae):=by unfold mP;rw[ax (by simp;omega)]
     apply W.run 20
     .intro M;simp(disch:=first|decide+kernel|omega|simp only[Wq,aa])only[Cs,pY,um,Aq,av,reduceIte,aa,ak,g3,g4,g21,g22,g23,hlt,q1,q2,zi,a7,sG,wP,b1,hn];rfl
     refine⟨hlt,_,_,rfl,kD.trans kG,?_⟩;rw[htk,e];simp only[Sq,aa,ak,g3,g4,g21,g22]
  .have e:j=Z s.arcs:=by omega
   subst e;rw[dU]at g3;apply W.run 20
   .intro M;simp(disch:=decide+kernel)only[Cs,pY,um,Aq,aa,g22,g23];rfl
   apply W.run 40
   .intro M;simp(disch:=omega)only[pY,um,Aq,aa,g3];rfl
   exact⟨by simp,rfl,_,(by simp only[um,Aq,aa]<;>rfl),rfl,kD⟩
 .simp only[Sq,aa,ak];simp
def qeT{s:aw}{x z:I}(hx:gd A s.arcs x)(hp:VB A 188 p (.var 4) [x,.bool s.fin,.int .u64 s.out,z])(hl:Z s.arcs<=256)(h0:(s.fin=ae/\s.out=0)\/∃a∈s.arcs,a.out=0):∃v A',az O 174 [pw p 0] A v A'/\v=uN 0/\Kp A A':=by
 obtain⟨v,A',h1,rfl,h3⟩:=SA hx hp hl;refine⟨_,A',h1,?_,h3⟩;rw[PY s.arcs (s.out,s.fin) (h0.imp (λ h=>by rw[h.1,h.2]) id)]
def fZ(ns:List Nat):List UInt8:=ns.flatMap λ n=>nY n++[32]
def ow(a:cr):List Nat:=[a.byte.toNat,a.out,a.to]
def w9(s:aw):List Nat:=s.out::s.arcs.flatMap ow
def eU(s:aw):List UInt8:=(if s.fin then [33]else [])++fZ (w9 s)
def qbW{a:Nat}(ha:a<18446744073709551616)(hb:b<18446744073709551616)(h:nY a=nY b):a=b:=by
 have h1:=I6 13 a (by omega);have h2:=I6 13 b (by omega);unfold nY at h;rw[<-h1,<-h2,h]
theorem Tn:∀{x y r q:List UInt8},(∀c∈x,48<=c.toNat)->(∀c∈y,48<=c.toNat)->x++32::r=y++32::q->x=y/\r=q
 | [],[],_,_,_,_,h=>⟨rfl,by simpa using h⟩
 | [],c::y,_,_,_,hy,h=>by
  have:=hy c cJ;simp only[lL,iP,gq]at h;rw[<-h.1]at this;exact aU this (by decide)
 |c::x,[],_,_,hx,_,h=>by
  have:=hx c cJ;simp only[lL,iP,gq]at h;rw[h.1]at this;exact aU this (by decide)
 |c::x,d::y,r,q,hx,hy,h=>by
  simp only[iP,gq]at h;obtain⟨h1,h2⟩:=Tn (λ e he=>hx e (cV _ he)) (λ e he=>hy e (cV _ he)) h.2;exact⟨by rw[h.1,h1],h2⟩
theorem T7:∀{l m:List Nat},(∀n∈l,n<18446744073709551616)->(∀n∈m,n<18446744073709551616)->fZ l=fZ m->l=m
 | [],[],_,_,_=>rfl
 | [],n::m,_,_,h=>by simp[fZ]at h
 |n::l,[],_,_,h=>by simp[fZ]at h
 |n::l,k::m,hl,hm,h=>by
  simp only[fZ,mr,iC,List.singleton_append]at h;obtain⟨h1,h2⟩:=Tn (E9 13 n) (E9 13 k) h;rw[qbW (hl n cJ) (hm k cJ) h1,T7 (λ e he=>hl e (cV _ he)) (λ e he=>hm e (cV _ he)) h2]
theorem Mp:∀{l m:List cr},l.flatMap ow=m.flatMap ow->l=m
 | [],[],_=>rfl
 | [],a::m,h=>by simp[ow]at h
 |a::l,[],h=>by simp[ow]at h
 |a::l,b::m,h=>by
  simp only[mr,ow,iP,lL,gq]at h;obtain⟨h1,h2,h3,h4⟩:=h;rw[Mp h4];obtain⟨a1,a2,a3⟩:=a;obtain⟨b1,b2,b3⟩:=b;simp only at h1 h2 h3;rw[td.1 h1,h2,h3]
def Fit(s:aw):Prop:=s.out<18446744073709551616/\∀a∈s.arcs,a.out<18446744073709551616/\a.to<1000000
def OH{s:aw}(h:Fit s):∀n∈w9 s,n<18446744073709551616:=by
 intro n hn;rcases cG.1 hn with rfl|hn
 .exact h.1
 .obtain⟨a,ha,hn⟩:=BD.1 hn;have:=h.2 a ha;have:=a.byte.toNat_lt;simp only[ow,cG,eC,or_false]at hn;omega
def Nw(k n:Nat):lZ (k+1) n≠ []:=by
 unfold lZ;split<;>simp
def key_inj{s u:aw}(hs:Fit s)(hu:Fit u)(h:eU s=eU u):s=u:=by
 have hd:∀v:aw,∃c w,fZ (w9 v)=c::w/\48<=c.toNat:=λ v=>by
  unfold fZ w9;rw[mr];unfold nY;cases hq:lZ 13 v.out with
  |nil=>exact aU hq (Nw _ _)
  |cons c w=>exact⟨c,_,rfl,E9 13 v.out c (by rw[hq];exact cJ)⟩
 unfold eU at h;have hf:s.fin=u.fin/\fZ (w9 s)=fZ (w9 u):=by
  obtain⟨c1,w1,e1,g1⟩:=hd s;obtain⟨c2,w2,e2,g2⟩:=hd u;cases h1:s.fin<;>cases h2:u.fin<;>simp only[h1,h2,bB,dR,bg,lL,iP,gq,true_and]at h
  .exact⟨rfl,h⟩
  .rw[e1]at h;simp only[gq]at h;rw[h.1]at g1;exact aU g1 (by decide)
  .rw[e2]at h;simp only[gq]at h;rw[<-h.1]at g2;exact aU g2 (by decide)
  .exact⟨rfl,h⟩
 have hn:=T7 (OH hs) (OH hu) hf.2;unfold w9 at hn;simp only[gq]at hn;obtain⟨f1,o1,a1⟩:=s;obtain⟨f2,o2,a2⟩:=u;simp only at hf hn;rw[hf.1,hn.1,Mp hn.2]
def T8(l m:List Nat):fZ (l++m)=fZ l++fZ m:=by unfold fZ;rw[Bz]
theorem DE:∀l:List Nat,(fZ l).length<=14*Z l
 | []=>aI _
 |n::l=>by
  have h1:=DE l;have h2:=I5 13 n;unfold fZ at h1⊢;rw[mr,aY,aY,cD,cD,eB];have e:(nY n).length=(lZ 13 n).length:=rfl;rw[e];omega
variable {bb:Nat}{bs:List UInt8}
def Gr{D:Mem}(h:Bd bb b bs D)(hn:n<18446744073709551616)(hl:Z bs<1000000):∃v D' b',az O 223 [.int .u64 n,pw bb 0] D v D'/\Bd bb b' (bs++fZ [n]) D'/\Grow bb b D b' D':=by
 have hk:=λ ih A=>qaB (ih:=ih) (A:=A) hn
 have hlen:=I5 13 n;obtain⟨v1,D1,b1,⟨g1,h1⟩,q1,k1⟩:=qf4 (cs:=nY n) h (je.2 (Nw 12 n)) (by unfold nY;omega);obtain⟨D2,b2,⟨g2,h2⟩,q2,k2⟩:=SO (c:=32) q1 (by rw[aY];unfold nY;omega);have h2':∀M,g2<=M->cE O (exec O M) (.fn 225 [pw bb 0,bN 32]) D1=.ok (.val .nilIface D2):=h2;refine⟨cQ,D2,b2,?_,by rw[iC]at q2;simpa[fZ]using q2,k1.trans k2⟩;refine bX (g1+g2) 60 (aD Tryz.func223) (by kernel_rfl) λ M hM=>?_
 simp(disch:=omega)only[Tryz.f223,Aq,aa,hk,h1,h2']<;>rfl
def kT:=cu qx
def Iz:aH:=sub kT [1,1,1,1,1,0,1,0,0]
def Xd:qx.body=U (.seq (sub kT [0]) (.seq (sub kT [1,0]) (.seq (sub kT [1,1,0]) (.seq (sub kT [1,1,1,0]) (.seq (sub kT [1,1,1,1,0]) (.seq (.seq (sub kT [1,1,1,1,1,0,0]) (.block 0 (.loop Iz))) (.seq (sub kT [1,1,1,1,1,1,0]) (sub kT [1,1,1,1,1,1,1])))))))):=by kernel_rfl
def qiS:dj O 235=.ok (.agg ⟨[.pointer V,.slice V 0 0]⟩):=by kernel_rfl
def VO(A:Mem):Bd A.next (A.next+1) [] (A.alloc (af 235 [.pointer V,.slice V 0 0])):=
 ⟨.pointer V,_,xF A 235 _,.inl rfl,.inl ⟨rfl,rfl⟩,by omega,by rw[aG];omega⟩
def Bd.al{D:Mem}(h:Bd bb b bs D)(o:Ob):Bd bb b bs (D.alloc o):=by
 obtain⟨pa,x,h1,h2,h3,h4,h5⟩:=h;exact⟨pa,x,h1.same (cY (by omega)),h2,h3.same (by rw[aG];omega) λ hb=>cY (by omega),h4,by rw[aG];omega⟩
def qaP{s:aw}{a:cr}(h:s.arcs[i]?=U a):fZ ((s.arcs.take (i+1)).flatMap ow)=fZ ((s.arcs.take i).flatMap ow)++fZ [a.byte.toNat]++fZ [a.out]++fZ [a.to]:=by
 obtain⟨hi,rfl⟩:=bU.1 h;rw[d_ hi,Bz,T8];simp[fZ,ow]
def qbZ(s:aw)(i:Nat):((s.arcs.take i).flatMap ow).length<=3*Z s.arcs:=by
 have:∀l:List cr,(l.flatMap ow).length=3*Z l:=by
  intro l
  induction l with
  |nil=>rfl
  |cons a l ih=>rw[mr,aY,ih,cD];simp only[ow,cD,eB];omega
 rw[this,df];omega
def qX(s:aw)(i:Nat):List UInt8:=(if s.fin then [33]else [])++fZ [s.out]++fZ ((s.arcs.take i).flatMap ow)
def qcD(s:aw)(i:Nat)(hl:Z s.arcs<=256):(qX s i).length<=20000:=by
 have h1:=DE ((s.arcs.take i).flatMap ow);have h2:=DE [s.out];have h3:=qbZ s i;have h4:(if s.fin then [33]else []:List UInt8).length<=1:=by split<;>simp
 unfold qX;rw[aY,aY];simp only[cD,eB]at h2;omega
def RC(s:aw)(i:Nat):qX s i≠ []:=by
 unfold qX;simp[fZ]
def Bd.lt{D:Mem}(h:Bd bb b bs D)(h0:bs≠ []):b<D.next:=by
 obtain⟨pa,x,-,-,h3,-,-⟩:=h;rcases h3 with⟨-,e⟩|⟨-,-,h,-⟩
 .exact aU (by simpa[c6]using e) h0
 .exact h
def sV(p bb:Nat)(C:Mem)(bs:List UInt8)(F:Mem):Prop:=∃b,Bd bb b bs F/\C.next<=b/\C.next<=F.next/\∀y,y<C.next->y≠bb->F.get y=C.get y
variable {b':Nat}{F:Mem}
def sV.grow{G:Mem}(h1:C.next<=b)(h2:C.next<=F.next)(h3:∀y,y<C.next->y≠bb->F.get y=C.get y)(hB:Bd bb b' bs G)(k:Grow bb b F b' G):sV p bb C bs G:=
 ⟨b',hB,by have:=k.r;omega,by have:=k.n;omega,λ y hy hb=>by rw[k.g y (by omega) hb (by omega),h3 y hy hb]⟩
def KS{s:aw}{x:I}(hx:gd A s.arcs x)(hf:Fit s)(hl:Z s.arcs<=256):∃v A',az O 176 [.agg ⟨aS x s⟩] A v A'/\v=ai (eU s)/\Kp A A':=by
 refine cZ (aD Tryz.func176) Xd (by kernel_rfl) ?_;have kB:=Kp.alloc A (af 186 (aS x s));have vB:=aQ A 186 (aS x s);apply W.q
 .intro M;simp(disch:=omega)only[kT,qx,Aq,aa,a7];rfl
 have nB:=aG A (af 186 (aS x s));generalize A.alloc (af 186 (aS x s))=B at kB vB nB;have bC:=VO B;have kC:=Kp.alloc B (af 235 [.pointer V,.slice V 0 0]);have nC:=aG B (af 235 [.pointer V,.slice V 0 0]);apply W.q
 .intro M;simp(disch:=omega)only[kT,qx,Aq,aa,qiS,a7];rfl
 generalize B.alloc (af 235 [.pointer V,.slice V 0 0])=C at bC kC nC;have toK:∀bs D,sV A.next B.next C bs D->Kp B D:=λ bs D h=>by
  obtain⟨b,-,-,h2,h3⟩:=h;exact⟨by omega,λ z hz=>by rw[h3 z (by omega) (by omega),kC.2 z hz]⟩
 have a1:=(vB.kp kC).m1 u4 rfl;have rC:sV A.next B.next C [] C:=⟨B.next+1,bC,by omega,aI _,λ _ _ _=>rfl⟩
 apply W.q
 .intro M;simp(disch:=omega)only[kT,qx,Aq,aa,ki];rfl
 apply W.seq;refine W.to (n:=38) (λ t D=>sV A.next B.next C (if s.fin then [33]else []) D/\Sl t [(1,.pointer (U ⟨A.next,0,V⟩)),(3,.pointer (U ⟨B.next,0,V⟩)),(4,.func (.func 223) ⟨[]⟩ ⟨[.pointer (U ⟨B.next,0,V⟩)]⟩)]) ?_ ?_
 .cases hfin:s.fin with
  |true=>
   rw[hfin]at a1;obtain⟨D2,b2,⟨g2,h2⟩,q2,k2⟩:=SO (c:=33) bC (by simp);have h2':∀M,g2<=M->cE O (exec O M) (.fn 225 [.pointer (U ⟨B.next,0,V⟩),.int .u8 (33:Nat)]) C=.ok (.val .nilIface D2):=h2;apply W.cC (g2) 20
   .intro M hM;simp(disch:=omega)only[kT,qx,Aq,aa,fV,a1,h2'];rfl
   refine⟨rfl,_,_,rfl,sV.grow (by omega) (aI _) (λ _ _ _=>rfl) q2 k2,?_⟩;simp only[Sq,aa,ak]
  |false=>
   rw[hfin]at a1;apply W.run 20
   .intro M;simp(disch:=omega)only[kT,qx,Aq,aa,fV,a1];rfl
   refine⟨rfl,_,_,rfl,rC,?_⟩;simp only[Sq,aa,ak]
 .rintro t D ⟨rD,g1,g3,g4,-⟩;have kD:=toK _ _ rD;have a2:=(vB.kp kD).m2 dH rfl;obtain⟨b,bD,m1,m2,m3⟩:=rD;obtain⟨v1,E,b1,⟨e1,h1⟩,bE,kE⟩:=Gr bD hf.1 (by split<;>simp);have rE:sV A.next B.next C (qX s 0) E:=sV.grow m1 m2 m3 (by unfold qX;rw[zz];simpa[fZ]using bE) kE
  apply W.qG (e1)
  .intro M hM;simp(disch:=omega)only[kT,qx,Aq,aa,g1,g4,nT,a2,h1];rfl
  have kE:=toK _ _ rE;have lx:=(hx.kp (kB.trans kE)).len;have aE:=(vB.kp kE).l0 f_ rfl;apply W.seq;apply W.q
  .intro M;simp(disch:=decide+kernel)only[kT,qx,Aq,aa,g1,eT,aE,lx];rfl
  apply W.block;refine W.up (Z s.arcs) (λ i t F=>sV A.next B.next C (qX s i) F/\Sl t [(3,.pointer (U ⟨B.next,0,V⟩)),(4,.func (.func 223) ⟨[]⟩ ⟨[.pointer (U ⟨B.next,0,V⟩)]⟩),(16,x),(17,.int .i64 (Z s.arcs)),(18,.int .i64 i)]) ?_ (a8 _) ⟨rE,?_⟩
  .rintro i t F hi ⟨rF,g3,g4,g16,g17,g18,-⟩;have kF:=toK _ _ rF;obtain⟨b,bF,m1,m2,m3⟩:=rF;have hpl:=qcD s i hl;by_cases hlt:i<Z s.arcs
   .have hsi:=aZ hlt;have hfa:=hf.2 _ (ff hlt);have hkt:qX s (i+1)=qX s i++fZ [(s.arcs[i]).byte.toNat]++fZ [(s.arcs[i]).out]++fZ [(s.arcs[i]).to]:=by
     unfold qX;rw[qaP hsi];simp only[iC]
    obtain⟨q,q1,q2⟩:=(hx.kp (kB.trans kF)).at hsi;generalize s.arcs[i]=a at*;have sG:=Du (D:=F) (a:=a);have vG:=aQ F 246 (bP a);have kG:=Kp.alloc F (af 246 (bP a));have nG:=aG F (af 246 (bP a));have bG:=bF.al (af 246 (bP a));generalize F.alloc (af 246 (bP a))=G at sG vG kG nG bG;have hbF:=bF.lt (RC s i);have hB:a.byte.toNat<18446744073709551616:=by have:=a.byte.toNat_lt;omega
    have hT:a.to<18446744073709551616:=by omega
    have cv1:=eX (tb:=O) (s:=5) (d:=113) (k:=.u8) (n:=a.byte.toNat) (by rw[u5];rfl) dH (fM hB);have cv2:=eX (tb:=O) (s:=3) (d:=113) (k:=.i64) (n:=a.to) (by rw[u3];rfl) dH (fM hT);have t1:=DE [a.byte.toNat];have t2:=DE [a.out];simp only[cD,eB]at t1 t2;obtain⟨v1,G1,b1,⟨e1,h1⟩,r1,k1⟩:=Gr bG hB (by omega);obtain⟨v2,G2,b2,⟨e2,h2⟩,r2,k2⟩:=Gr r1 hfa.1 (by rw[aY];omega);obtain⟨v3,G3,b3,⟨e3,h3⟩,r3,k3⟩:=Gr r2 hT (by rw[aY,aY];omega);have n1:=k1.n;have n2:=k2.n;have i1:=k1.r;have i2:=k2.r;have V1:VB G1 246 F.next (.var 3) (bP a):=⟨by omega,vG.2.same (k1.g _ (by omega) (by omega) (by omega))⟩
    have V2:VB G2 246 F.next (.var 3) (bP a):=⟨by omega,V1.2.same (k2.g _ (by omega) (by omega) (by omega))⟩
    have l0:=vG.l0 u5 rfl;have l1:=V1.m1 dH rfl;have l2:=V2.m2 u3 rfl;apply W.cC (e1+e2+e3) 20
    .intro M hM;simp(disch:=first|decide+kernel|omega)only[Iz,kT,qx,Aq,aa,g3,g4,g16,g17,g18,hlt,q1,q2,zi,a7,sG,yK,wP,tG,l0,l1,l2,cv1,cv2,h1,h2,h3];rfl
    refine⟨hlt,_,_,rfl,?_,?_⟩
    .rw[hkt];exact sV.grow m1 (by omega) (λ y hy hb=>by rw[kG.2 y (by omega),m3 y hy hb]) r3 ((k1.trans k2).trans k3)
    .simp only[Sq,aa,ak,g3,g4,g16,g17]
   .have e:i=Z s.arcs:=by omega
    subst e;have hk:qX s (Z s.arcs)=eU s:=by
     unfold qX eU w9;rw[dU,iC,<-T8];rfl
    have h0:=je.2 (RC s (Z s.arcs));rw[hk]at bF hpl h0;obtain⟨G,⟨e1,h1⟩,nG,fG⟩:=qdP bF h0 (by omega);apply W.run 20
    .intro M;simp(disch:=decide+kernel)only[Iz,kT,qx,Aq,aa,g17,g18];rfl
    apply W.cC (e1) 40
    .intro M hM;simp(disch:=omega)only[kT,qx,Aq,aa,g3,h1];rfl
    exact⟨by simp,rfl,_,(by simp only[qx,Aq,aa]<;>rfl),rfl,by show A.next<=G.next;omega,λ z hz=>by show G.get z=A.get z;rw[fG z (by omega),m3 z (by omega) (by omega),kC.2 z (by omega),kB.2 z hz]⟩
  .simp only[Sq,aa,ak,g3,g4]
def Bf:O.aB 177=U (.map 9 3):=by kernel_rfl
def CH:bK O 179 (pw b 0) 0=.ok (pw b 0):=by kernel_rfl
def CI:bK O 179 (pw b 0) 1=.ok (pw b 1):=by kernel_rfl
def kW:List (List UInt8)->Nat->List MapEntry
 | [],_=>[]
 |n::ns,o=>⟨ai n,.int .i64 o,o⟩::kW ns (o+1)
theorem JV(w:List UInt8):∀(ns:List (List UInt8)) (o j:Nat),w∉ns->findF (ai w) (kW ns o) j=U V
 | [],o,j,_=>rfl
 |n::ns,o,j,h=>by
  rw[cG,not_or]at h;unfold kW findF;simp only[FT,h.1,decide_false];exact JV w ns (o+1) (j+1) h.2
theorem PU(w:List UInt8):∀(ns:List (List UInt8)) (o:Nat),kW (ns++[w]) o=kW ns o++[⟨ai w,.int .i64 (o+Z ns:Nat),o+Z ns⟩]
 | [],o=>rfl
 |n::ns,o=>by
  rw[iP,kW,PU w ns (o+1),kW,iP,cD,show o+1+Z ns=o+(Z ns+1) by omega]
variable {mk:Nat}{ks:List (List UInt8)}
def Qa(h:A.get mk=U (.map (kW ks 0) (Z ks)))(hw:w∉ks):
 qf O A.get 177 (.map (U mk)) (ai w) ae=.ok (.tuple ⟨[iN 0,.bool ag]⟩):=by
 have hk:h_ O 9 (ai w)=ae:=by unfold h_;rw[u9];rfl
 unfold qf;simp only[Bf,hk,aJ,wJ,h,R.aW,JV w ks 0 0 hw,zj]
def Up(h:A.get mk=U (.map (kW ks 0) (Z ks)))(hw:w∉ks):
 pA O A 177 (.map (U mk)) (ai w) (iN (Z ks))=.ok (A.set mk (.map (kW (ks++[w]) 0) (ks++[w]).length)):=by
 have hk:h_ O 9 (ai w)=ae:=by unfold h_;rw[u9];rfl
 unfold pA;simp only[Bf,hk,aJ,h,JV w ks 0 0 hw];rw[PU,ep,aY];rfl
def ud(C:Mem)(p mk:Nat)(ks:List (List UInt8))(F:Mem):Prop:=∃b x rows,VB F 179 p (.var 2) [x,.map (U mk)]/\F.get mk=U (.map (kW ks 0) (Z ks))/\aq F 186 3 b rows x/\Z rows=Z ks/\(C.next<=b/\(ks=[]->x=.slice V 0 0)/\p≠mk/\p<C.next/\mk<C.next)/\C.next<=F.next/\∀z,z<C.next->z≠p->z≠mk->F.get z=C.get z
def ud.kp{G:Mem}(h:ud C p mk ks F)(k:Kp F G):ud C p mk ks G:=by
 obtain⟨b,x,rows,h1,h2,h3,h4,h5,h6,h7⟩:=h;exact⟨b,x,rows,h1.kp k,by rw[k.2 _ (by omega)];exact h2,h3.same k.1 (k.2 b),h4,h5,dm h6 k.1,λ z hz a b=>by rw[k.2 z (by omega),h7 z hz a b]⟩
def Gz{x:I}{s:aw}(h:gd A s.arcs x):∀v∈aS x s,bS v=ae:=by
 obtain⟨b,h⟩:=h;intro v hv;simp only[aS,cG,eC,or_false]at hv;rcases hv with rfl|rfl|rfl
 .exact(aq.dQ h).2
 .rfl
 .rfl
def fT:=cu jB
def Ip:jB.body=U (.seq (sub fT [0]) (.seq (sub fT [1,0]) (.seq (sub fT [1,1,0]) (.seq (sub fT [1,1,1,0]) (.seq (sub fT [1,1,1,1,0]) (sub fT [1,1,1,1,1])))))):=by kernel_rfl
def Im:sub fT [1,1,1,0]=.seq (sub fT [1,1,1,0,0]) (sub fT [1,1,1,0,1]):=by kernel_rfl
def Io:sub fT [1,1,1,0,1]=.cond (.tmp 20) (.seq (sub fT [1,1,1,0,1,0,0]) (.seq (sub fT [1,1,1,0,1,0,1,0]) (sub fT [1,1,1,0,1,0,1,1]))) (sub fT [1,1,1,0,1,1]):=by kernel_rfl
def qem{s:aw}{x:I}(hR:ud C p mk ks A)(hx:gd A s.arcs x)(hf:Fit s)(hl:Z s.arcs<=256)(hn:eU s∉ks)(hk:Z ks<1000000):
 ∃v A',az O 119 [pw p 0,.agg ⟨aS x s⟩] A v A'/\v=iN (Z ks)/\ud C p mk (ks++[eU s]) A':=by
 refine cZ (aD Tryz.func119) Ip (by kernel_rfl) ?_;have kB:=Kp.alloc A (af 186 (aS x s));have vB:=aQ A 186 (aS x s);have h1c:=Gz hx;obtain⟨d,hd1,hd2⟩:=cF (t:=186) (p:=ae) (by kernel_rfl);apply W.q
 .intro M;simp(disch:=first|decide+kernel|omega)only[fT,jB,Aq,aa,a7];rfl
 have nB:(A.alloc (af 186 (aS x s))).next=A.next+1:=aG _ _
 generalize A.alloc (af 186 (aS x s))=B at kB vB nB;have lB:aj O B.get 186 (pw A.next 0)=.ok (.agg ⟨aS x s⟩):=cg hd1 hd2 (l:=aS x s) gV vB.2;obtain⟨v,D,⟨g1,h1⟩,rfl,kD⟩:=KS (hx.kp kB) hf hl;have hRD:=(hR.kp kB).kp kD;have vD:=vB.kp kD;have lD:aj O D.get 186 (pw A.next 0)=.ok (.agg ⟨aS x s⟩):=cg hd1 hd2 (l:=aS x s) gV vD.2;have nD:=kD.1;obtain⟨b,y,rows,q1,q2,q3,q4,⟨q5,q6,q7,q8,q9⟩,q10,q11⟩:=id hRD;have lm:aj O D.get 177 (pw p 1)=.ok (.map (U mk)):=q1.ld rfl Bf rfl;have ly:aj O D.get 112 (pw p 0)=.ok y:=q1.ld rfl eg rfl;have lx:=aq.len (tb:=O) (t:=112) q3 eg;rw[q4]at lx;have lk:=Qa q2 hn;have up:=Up q2 hn;generalize hE:D.set mk (.map (kW (ks++[eU s]) 0) (ks++[eU s]).length)=E at up;have nE:E.next=D.next:=by rw[<-hE];exact cU _ _ _
 have fE:∀z,z≠mk->E.get z=D.get z:=λ z hz=>by rw[<-hE,tH,ax hz]
 have gE:E.get mk=U (.map (kW (ks++[eU s]) 0) (ks++[eU s]).length):=by rw[<-hE,tH,aA rfl]
 have hmD:∀(e:au) (z:Nat) (k:Kd) (l:List I),VB D e z k l->z≠mk:=λ e z k l h=>h.dP q2
 have lE:aj O E.get 186 (pw A.next 0)=.ok (.agg ⟨aS x s⟩):=cg hd1 hd2 (l:=aS x s) gV (vD.2.same (fE _ (hmD _ _ _ _ vD)));have qE:=q1.2.same (fE p q7);have lyE:aj O E.get 112 (pw p 0)=.ok y:=dg eg rfl qE rfl;obtain⟨ti,t1,t2,t3⟩:=Lx;have q3E:aq (E.alloc (af 186 (aS x s))) 186 3 b rows y:=q3.same (by rw[aG];omega) λ h=>by rw[cY (by omega),fE b (by omega)]
 obtain⟨y',F,happ,hs3,hn3,hf3⟩:=aq.append (tb:=O) (st:=112) (xt:=112) q3E eg eg LK t1 t2 t3 (by omega) (by omega) (by omega) (de E _) rfl h1c;rw[aG]at hs3 hn3 hf3;have hpb:p=b->y=.slice V 0 0:=λ e=>by omega
 have qF:dp F 179 p (.var 2) [y,.map (U mk)]:=qE.same (by rw[hf3 p hpb (by omega),cY (by omega)]);obtain⟨G,sG,vG,nG,fG⟩:=db (tb:=O) (o:=0) (v:=y') Lb qF (by simp) (aq.dQ hs3).1 (aq.dQ hs3).2;apply W.ic (g1)
 .intro M hM _;simp(disch:=first|decide+kernel|omega)only[fT,jB,Aq,aa,lB,h1,bA,br,CI,lm,xa,lk,c7,dc];rfl
 rw[Im];apply W.seq;apply W.q
 .intro M;simp(disch:=first|decide+kernel|omega)only[fT,jB,Aq,aa];rfl
 rw[Io];refine W.cond (p:=ae) rfl (λ _=>?_) (λ h=>by cases h);apply W.q2
 .intro M _;simp(disch:=first|decide+kernel|omega)only[fT,jB,Aq,aa,bA,br,CH,ly,lx,CI,lm,C9,up];rfl
 apply W.run 20
 .intro M;simp(config:={maxSteps:=4000000})(disch:=first|decide+kernel|omega|simp only[Wq,aa])only[fT,jB,Aq,av,reduceIte,aa,ak,bA,br,CH,lyE,lE,H0,happ,sG,Fq,bQ []];rfl
 apply W.run 40
 .intro M;simp(disch:=first|decide+kernel|omega)only[fT,jB,Aq,aa];rfl
 have hmF:mk≠p:=Ne.symm q7;have hFk:∀z,z<D.next->z≠p->z≠mk->z≠b->G.get z=D.get z:=λ z h1 h2 h3 h4=>by rw[fG z h2,hf3 z (λ e=>aU e h4) (by omega),cY (by omega),fE z h3]
 have hbk:mk≠b:=by omega
 refine⟨by simp,rfl,_,(by simp only[jB,Aq,aa]<;>rfl),rfl,⟨E.next+1,y',_,⟨by show p<G.next;omega,vG⟩,?_,hs3.same (by show F.next<=G.next;omega) (λ _=>fG _ (by omega)),by rw[aY,aY,q4];rfl,⟨by omega,λ h=>by simp at h,q7,q8,q9⟩,by show C.next<=G.next;omega,λ z hz h2 h3=>?_⟩⟩
 .show G.get mk=_;rw[fG mk hmF,hf3 mk (λ e=>aU e hbk) (by omega),cY (by omega),gE]
 .show G.get z=_;rw[hFk z (by omega) h2 h3 (by omega),q11 z hz h2 h3]
def rA(F:Mem)(e:au)(m p mk b:Nat)(rest:List I)(ks:List (List UInt8))(rows:List (List I))(x:I):Prop:=VB F e p (.var m) (x::.map (U mk)::rest)/\(mk<F.next/\F.get mk=U (.map (kW ks 0) (Z ks)))/\aq F 186 3 b rows x/\Z rows=Z ks/\(rows=[]->x=.slice V 0 0)
variable {m:Nat}
def rA.kp{G:Mem}{e:au}{rest:List I}{rows:List (List I)}{x:I}(h:rA F e m p mk b rest ks rows x)(k:Kp F G):rA G e m p mk b rest ks rows x:=by
 obtain⟨h1,⟨h2,h3⟩,h4,h5⟩:=h;exact⟨h1.kp k,⟨c9 h2 k.1,by rw[k.2 _ h2];exact h3⟩,h4.same k.1 (k.2 b),h5⟩
def qeo{e:au}{rest:List I}{rows:List (List I)}{s:aw}{x:I}(he:e≠186)(hR:rA A e m p mk b rest ks rows y)(hx:gd A s.arcs x)(hf:Fit s)(hl:Z s.arcs<=256)(hn:eU s∉ks)(hk:Z ks<1000000):
 ∃v A',az O 119 [pw p 0,.agg ⟨aS x s⟩] A v A'/\v=iN (Z ks)/\∃b' y',rA A' e m p mk b' rest (ks++[eU s]) (rows++[aS x s]) y'/\A.next<=b'/\A.next<=A'.next/\∀z,z<A.next->z≠p->z≠mk->(rows≠ []->z≠b)->A'.get z=A.get z:=by
 refine cZ (aD Tryz.func119) Ip (by kernel_rfl) ?_;have kB:=Kp.alloc A (af 186 (aS x s));have vB:=aQ A 186 (aS x s);have h1c:=Gz hx;obtain⟨d,hd1,hd2⟩:=cF (t:=186) (p:=ae) (by kernel_rfl);apply W.q
 .intro M;simp(disch:=omega)only[fT,jB,Aq,aa,a7];rfl
 have nB:=aG A (af 186 (aS x s));generalize A.alloc (af 186 (aS x s))=B at kB vB nB;have lB:=cg hd1 hd2 (l:=aS x s) gV vB.2;obtain⟨v,D,⟨g1,h1⟩,rfl,kD⟩:=KS (hx.kp kB) hf hl;have hRD:=(hR.kp kB).kp kD;have vD:=vB.kp kD;have lD:aj O D.get 186 (pw A.next 0)=.ok (.agg ⟨aS x s⟩):=cg hd1 hd2 (l:=aS x s) gV vD.2;have nD:=kD.1;obtain⟨q1,⟨q9,q2⟩,q3,q4,q5⟩:=id hRD;have q7:=q1.dP q2;have hpA:p<A.next:=by obtain⟨h,-⟩:=hR;exact h.1
 have hmA:mk<A.next:=by obtain⟨-,⟨h,-⟩,-⟩:=hR;exact h
 have hBA:=kB.1;have lm:=q1.l1 Bf rfl;have ly:=q1.l0 eg rfl;have lx:=aq.len q3 eg;rw[q4]at lx;have lk:=Qa q2 hn;have up:=Up q2 hn;generalize hE:D.set mk (.map (kW (ks++[eU s]) 0) (ks++[eU s]).length)=E at up;have nE:E.next=D.next:=by rw[<-hE];exact cU _ _ _
 have fE:∀z,z≠mk->E.get z=D.get z:=λ z hz=>by rw[<-hE,tH,ax hz]
 have gE:E.get mk=U (.map (kW (ks++[eU s]) 0) (ks++[eU s]).length):=by rw[<-hE,tH,aA rfl]
 have hmD:∀(e:au) (z:Nat) (k:Kd) (l:List I),VB D e z k l->z≠mk:=λ e z k l h=>h.dP q2
 have lE:aj O E.get 186 (pw A.next 0)=.ok (.agg ⟨aS x s⟩):=cg hd1 hd2 (l:=aS x s) gV (vD.2.same (fE _ (hmD _ _ _ _ vD)));have qE:=q1.2.same (fE p q7);have lyE:aj O E.get 112 (pw p 0)=.ok y:=dg eg rfl qE rfl;obtain⟨ti,t1,t2,t3⟩:=Lx;have q3E:aq (E.alloc (af 186 (aS x s))) 186 3 b rows y:=aq.jb q3 q5 (by rw[aG];omega) λ h0 h=>by rw[cY (by omega),fE b (Ne.symm (aq.dP q3 q2 h0))]
 obtain⟨y',F,happ,hs3,hn3,hf3⟩:=aq.append q3E eg eg LK t1 t2 t3 (by omega) (by omega) (by omega) (de E _) rfl h1c;rw[aG]at hs3 hn3 hf3;have hbb:∀z,(rows≠ []->z≠b)->z=b->y=.slice V 0 0:=λ z h e=>xL λ hy=>h (λ h0=>hy (q5 h0)) e
 have hpb:=hbb p λ h0=>aq.iA q3 q1 he h0
 have qF:dp F e p (.var m) (y::.map (U mk)::rest):=qE.same (by rw[hf3 p hpb (by omega),cY (by omega)]);obtain⟨G,sG,vG,nG,fG⟩:=db (tb:=O) (o:=0) (v:=y') Lb qF (by simp) (aq.dQ hs3).1 (aq.dQ hs3).2;apply W.ic (g1)
 .intro M hM _;simp(disch:=omega)only[fT,jB,Aq,aa,lB,h1,bA,br,CI,lm,xa,lk,c7,dc];rfl
 rw[Im];apply W.seq;apply W.q
 .intro M;simp(disch:=omega)only[fT,jB,Aq,aa];rfl
 rw[Io];refine W.cond (p:=ae) rfl (λ _=>?_) (λ h=>by cases h);apply W.q2
 .intro M _;simp(disch:=decide+kernel)only[fT,jB,Aq,aa,bA,br,CH,ly,lx,CI,lm,C9,up];rfl
 apply W.run 20
 .intro M;simp(disch:=first|decide+kernel|omega|simp only[Wq,aa])only[fT,jB,Aq,av,reduceIte,aa,ak,bA,br,CH,lyE,lE,H0,happ,sG,Fq,bQ []];rfl
 apply W.run 40
 .intro M;simp(disch:=omega)only[fT,jB,Aq,aa];rfl
 have hmF:=Ne.symm q7;have hFk:∀z,z<D.next->z≠p->z≠mk->(rows≠ []->z≠b)->G.get z=D.get z:=λ z h1 h2 h3 h4=>by rw[fG z h2,hf3 z (hbb z h4) (by omega),cY (by omega),fE z h3]
 have hbk:=hbb mk λ h0=>aq.dP q3 q2 h0
 refine⟨by simp,rfl,_,(by simp only[jB,Aq,aa]<;>rfl),rfl,E.next+1,y',⟨⟨by show p<G.next;omega,vG⟩,⟨by show mk<G.next;omega,?_⟩,hs3.same (by show F.next<=G.next;omega) (λ _=>fG _ (by omega)),by rw[aY,aY,q4];rfl,λ h=>by simp at h⟩,by omega,by show A.next<=G.next;omega,λ z hz h2 h3 h4=>?_⟩
 .show G.get mk=_;rw[fG mk hmF,hf3 mk hbk (by omega),cY (by omega),gE]
 .show G.get z=_;rw[hFk z (by omega) h2 h3 h4,kD.2 z (by omega),kB.2 z hz]
theorem PV(w:List UInt8):∀(ns:List (List UInt8)) (o j i:Nat),ns[i]?=U w->(∀k,k<i->ns[k]?≠U w)->findF (ai w) (kW ns o) j=U (U (j+i,.int .i64 (o+i:Nat)))
 | [],o,j,i,h,_=>by simp at h
 |n::ns,o,j,0,h,_=>by
  cases h;unfold kW findF;simp only[FT,decide_true];rfl
 |n::ns,o,j,i+1,h,hk=>by
  have h0:¬w=n:=λ e=>hk 0 (by omega) (by rw[e];rfl)
  unfold kW findF;simp only[FT,h0,decide_false];rw[PV w ns (o+1) (j+1) i (by simpa using h) λ k hki=>by simpa using hk (k+1) (by omega),show j+1+i=j+(i+1) by omega,show o+1+i=o+(i+1) by omega]
def qen{e:au}{rest:List I}{rows:List (List I)}{s:aw}{x:I}(hR:rA A e m p mk b rest ks rows y)(hx:gd A s.arcs x)(hf:Fit s)(hl:Z s.arcs<=256)(hi:ks[i]?=U (eU s))(hk:∀k,k<i->ks[k]?≠U (eU s)):
 ∃v A',az O 119 [pw p 0,.agg ⟨aS x s⟩] A v A'/\v=iN i/\Kp A A':=by
 refine cZ (aD Tryz.func119) Ip (by kernel_rfl) ?_;have kB:=Kp.alloc A (af 186 (aS x s));have vB:=aQ A 186 (aS x s);obtain⟨d,hd1,hd2⟩:=cF (t:=186) (p:=ae) (by kernel_rfl);apply W.q
 .intro M;simp(disch:=omega)only[fT,jB,Aq,aa,a7];rfl
 generalize A.alloc (af 186 (aS x s))=B at kB vB;have lB:=cg hd1 hd2 (l:=aS x s) gV vB.2;obtain⟨v,D,⟨g1,h1⟩,rfl,kD⟩:=KS (hx.kp kB) hf hl;obtain⟨q1,⟨-,q2⟩,-⟩:=(hR.kp kB).kp kD;have lm:=q1.l1 Bf rfl;have lk:qf O D.get 177 (.map (U mk)) (ai (eU s)) ae=.ok (.tuple ⟨[iN i,.bool ae]⟩):=by
  have hk':h_ O 9 (ai (eU s))=ae:=by unfold h_;rw[u9];rfl
  unfold qf;simp only[Bf,hk',aJ,wJ,q2,R.aW,PV _ ks 0 0 i hi hk,ep]
 apply W.ic (g1)
 .intro M hM _;simp(disch:=omega)only[fT,jB,Aq,aa,lB,h1,bA,br,CI,lm,xa,lk,c7,dc];rfl
 rw[Im];apply W.seq;apply W.q
 .intro M;simp(disch:=omega)only[fT,jB,Aq,aa];rfl
 rw[Io];refine W.cond rfl (λ h=>by cases h) (λ _=>?_);apply W.run 20
 .intro M;simp only[fT,jB,Aq,aa];rfl
 apply W.run 40
 .intro M;simp(disch:=omega)only[fT,jB,Aq,aa];rfl
 exact⟨by simp,rfl,_,(by simp only[jB,Aq,aa]<;>rfl),rfl,kB.trans kD⟩
def Ss{e:au}{rest:List I}{rows:List (List I)}{s:aw}{x:I}(he:e≠186)(hR:rA A e m p mk b rest (M.map eU) rows y)(hx:gd A s.arcs x)(hf:Fit s)(hM:∀u∈M,Fit u)(hl:Z s.arcs<=256)(hk:Z M<1000000):
 ∃v A',az O 119 [.pointer (U ⟨p,0,V⟩),.agg ⟨aS x s⟩] A v A'/\v=.int .i64 ((eP M s).2:Nat)/\∃b' y' rows',rA A' e m p mk b' rest ((eP M s).1.map eU) rows' y'/\((rows'=rows/\(eP M s).1=M)\/(rows'=rows++[aS x s]/\(eP M s).1=M++[s]))/\(b'=b\/(A.next<=b'/\b'<A'.next))/\A.next<=A'.next/\∀z,z<A.next->z≠p->z≠mk->(rows≠ []->z≠b)->A'.get z=A.get z:=by
 cases hq:M.findIdx? (λ u=>decide (u=s))with
 |some i=>
  have hs:=JK hq;obtain⟨hi,-,hno⟩:=DZ.1 hq;rw[F6 hq];obtain⟨v,A',h1,rfl,kA⟩:=qen hR hx hf hl (by rw[dN,hs];rfl) (λ k hki h=>by
   have hkl:k<Z M:=by omega
   rw[dN,aZ hkl]at h;have e1:=key_inj (hM M[k] (ff hkl)) hf (by simpa using h);have e2:=hno k hki;exact aU e1 (by simpa using e2))
  exact⟨_,A',h1,rfl,b,y,rows,hR.kp kA,.inl ⟨rfl,rfl⟩,.inl rfl,kA.1,λ z hz _ _ _=>kA.2 z hz⟩
 |none=>
  have hn:=Pv hq;rw[F7 hq];obtain⟨v,A',h1,rfl,b',y',h3,h4,h5,h6⟩:=qeo he hR hx hf hl (λ h=>by
   obtain⟨u,hu,e⟩:=eH.1 h;exact hn (key_inj (hM u hu) hf e▸hu)) (by rw[bc];exact hk)
  refine⟨_,A',h1,by rw[bc],b',y',_,?_,.inr ⟨rfl,rfl⟩,.inr ⟨h4,xy h3.2.2.1 (by simp)⟩,h5,h6⟩;rw[gg];exact h3
end Go.Proofs.YtjoceidiioppiaaGreatDoor.sto
namespace Go.Sto
open Go.Am Go.Mdl Go.Sto Go.Shelf
section
structure dI where
 fin:Bool
 out:Nat
 arcs:List cr
 by':UInt8
def ew(o:dI):Nat:=(o.arcs.foldl (λ(q:Nat×Bool) a=>if q.2=ag\/a.out<q.1 then(a.out,ae)else q) (o.out,o.fin)).1
def du(o:dI):aw:=⟨o.fin,o.out-(bif o.fin then ew o else 0),o.arcs.map λ a=>⟨a.byte,a.out-ew o,a.to⟩⟩
abbrev nw:=List aw×dI×List dI
def jI(d:Nat)(M:List aw)(o:dI):List dI->nw
 | []=>(M,o,[])
 |u::w=>if d<=Z w then jI d (eP M (du o)).1 ⟨u.fin,u.out,u.arcs++[⟨o.by',ew o,(eP M (du o)).2⟩],u.by'⟩ w else(M,o,u::w)
def im(d:Nat)(S:nw):nw:=jI d S.1 S.2.1 S.2.2
def k_:List UInt8->dI->List dI->dI×List dI
 | [],o,w=>(o,w)
 |b::bs,o,w=>k_ bs ⟨ag,0,[],b⟩ (o::w)
def wI(v:Nat)(M:List aw)(q:dI×List dI):nw:=(M,⟨ae,v,q.1.arcs,q.1.by'⟩,q.2)
def share:List UInt8->List UInt8->Nat
 |a::x,b::y=>if a=b then share x y+1 else 0
 |_,_=>0
def qD(z:List UInt8)(e:aK)(S:nw):nw:=
 wI (val e) (im (share z e.word) S).1 (k_ (e.word.drop (share z e.word)) (im (share z e.word) S).2.1 (im (share z e.word) S).2.2)
def gD:List UInt8->List aK->nw->nw
 |_,[],S=>S
 |z,e::r,S=>gD e.word r (qD z e S)
variable {M:List aw}
def E5{d:Nat}{o:dI}{w:List dI}(h:Z w<=d):jI d M o w=(M,o,w):=by
 cases w with
 |nil=>rfl
 |cons u w=>rw[jI,ax (by simp at h;omega)]
theorem Np{d:Nat}:∀(w:List dI) (M:List aw) (o:dI),im d (jI (d+1) M o w)=jI d M o w
 | [],M,o=>rfl
 |u::w,M,o=>by
  rw[jI];by_cases h:d+1<=Z w
  .rw[aA h,Np w,jI,aA (by omega)]
  .rw[ax h];rfl
def X5{d:Nat}(S:nw):im d (im (d+1) S)=im d S:=Np _ _ _
theorem KO:∀(r s:List aK) (z:List UInt8) (S:nw),gD z (r++s) S=gD ((r.getLast?.map (·.word)).getD z) s (gD z r S)
 | [],s,z,S=>rfl
 |e::r,s,z,S=>by
  rw[iP,gD,KO r s,gD,List.getLast?_cons];cases r.getLast?<;>rfl
def K_{d:Nat}{p x y:List UInt8}(hx:x.take d=p)(hy:y.take d=p)(hl:Z p=d)(h:x[d]?≠y[d]?\/x[d]?=V):share x y=d:=by
 induction d generalizing p x y with
 |zero=>
  cases x with
  |nil=>cases y<;>rfl
  |cons a x=>cases y with
   |nil=>rfl
   |cons b y=>
    unfold share;rw[ax];rintro rfl;simp at h
 |succ d ih=>
  cases p with
  |nil=>cases hl
  |cons c p=>cases x with
   |nil=>cases hx
   |cons a x=>cases y with
    |nil=>cases hy
    |cons b y=>
     simp only[Hn,gq]at hx hy;unfold share;rw[aA (hx.1.trans hy.1.symm),ih hx.2 hy.2 (by simpa using hl) (by simpa using h)]
theorem FV:∀(l:List cr) (n:Nat) (b:Bool),((b=ae\/l≠ [])->(∀a∈l,(l.foldl (λ(q:Nat×Bool) a=>if q.2=ag\/a.out<q.1 then(a.out,ae)else q) (n,b)).1<=a.out)/\
 (b=ae->(l.foldl (λ(q:Nat×Bool) a=>if q.2=ag\/a.out<q.1 then(a.out,ae)else q) (n,b)).1<=n)/\
 ((b=ae/\(l.foldl (λ(q:Nat×Bool) a=>if q.2=ag\/a.out<q.1 then(a.out,ae)else q) (n,b)).1=n)\/∃a∈l,(l.foldl (λ(q:Nat×Bool) a=>if q.2=ag\/a.out<q.1 then(a.out,ae)else q) (n,b)).1=a.out))
 | [],n,b=>λ h=>⟨λ a ha=>(by cases ha),λ _=>aI _,.inl ⟨h.resolve_right λ h=>h rfl,rfl⟩⟩
 |x::l,n,b=>λ h=>by
  rw[mu];by_cases hc:b=ag\/x.out<n
  .rw[aA (show((n,b):Nat×Bool).2=ag\/x.out<((n,b):Nat×Bool).1 from hc)];obtain⟨h1,h2,h3⟩:=FV l x.out ae (.inl rfl);have h2:=h2 rfl;refine⟨λ a ha=>?_,λ hb=>?_,.inr ?_⟩
   .rcases cG.1 ha with rfl|ha
    .exact h2
    .exact h1 a ha
   .rcases hc with hc|hc
    .rw[hb]at hc;cases hc
    .omega
   .rcases h3 with⟨-,h3⟩|⟨a,ha,h3⟩
    .exact⟨x,cJ,h3⟩
    .exact⟨a,cV _ ha,h3⟩
  .rw[ax (show¬(((n,b):Nat×Bool).2=ag\/x.out<((n,b):Nat×Bool).1)from hc)];simp only[not_or,Bool.not_eq_false,Nat.not_lt]at hc;obtain⟨h1,h2,h3⟩:=FV l n b (.inl hc.1);have h2':=h2 hc.1;refine⟨λ a ha=>?_,h2,?_⟩
   .rcases cG.1 ha with rfl|ha
    .exact dm h2' hc.2
    .exact h1 a ha
   .rcases h3 with h3|⟨a,ha,h3⟩
    .exact .inl h3
    .exact .inr ⟨a,cV _ ha,h3⟩
variable {rec:List aK->Nat->List aw->List aw×Nat}{d n:Nat}
theorem Cb:∀(r:List aK) (rs:List cr) (M:List aw),cT rec d n r (rs.map λ a=>⟨a.byte,a.out-n,a.to⟩) M=((cT rec d 0 r rs M).1,(cT rec d 0 r rs M).2.map λ a=>⟨a.byte,a.out-n,a.to⟩)
 | [],rs,M=>rfl
 |e::r,rs,M=>by
  have hl:((rs.map λ a=>(⟨a.byte,a.out-n,a.to⟩:cr)).getLast?).map (·.byte)=(rs.getLast?).map (·.byte):=by
   rw[List.getLast?_map,Option.map_map];rfl
  unfold cT;rw[hl];split
  .exact Cb r rs M
  .rw[<-Cb r,gg];rfl
theorem HR:∀(r:List aK) (rs:List cr) (M:List aw),(∀y∈r,aR d y≠V->(rs.getLast?).map (·.byte)=aR d y->∃a∈rs,a.out<=val y)->
 (∀a∈(cT rec d 0 r rs M).2,a∈rs\/∃e∈r,a.out=val e)/\(∀a∈rs,a∈(cT rec d 0 r rs M).2)/\∀y∈r,aR d y≠V->∃a∈(cT rec d 0 r rs M).2,a.out<=val y
 | [],rs,M,h=>⟨λ a ha=>.inl ha,λ a ha=>ha,λ y hy=>by cases hy⟩
 |e::r,rs,M,h=>by
  unfold cT;split
  .rename_i hs;obtain⟨h1,h2,h3⟩:=HR r rs M λ y hy=>h y (cV _ hy)
   refine⟨λ a ha=>(h1 a ha).imp id λ⟨e,he,h⟩=>⟨e,cV _ he,h⟩,h2,λ y hy hn=>?_⟩;rcases cG.1 hy with rfl|hy
   .obtain⟨a,ha,hle⟩:=h y cJ hn (hs.resolve_left hn);exact⟨a,h2 a ha,hle⟩
   .exact h3 y hy hn
  .rename_i hs;simp only[not_or]at hs;obtain⟨b,hb⟩:=L2.1 hs.1;have hin:∀y∈e::r,aR d y=aR d e->least ((e::r).filter λ x=>decide (aR d x=aR d e))<=val y:=λ y hy hh=>least_le (qn.2 ⟨hy,by simpa using hh⟩)
   obtain⟨e0,he0,hle⟩:=yR (l:=(e::r).filter λ x=>decide (aR d x=aR d e)) (List.ne_nil_of_mem (qn.2 ⟨cJ,by simp⟩));have hown:∀x∈(e::r).filter (λ x=>decide (aR d x=aR d e)),x∈e::r:=λ x hx=>(qn.1 hx).1
   generalize (e::r).filter (λ x=>decide (aR d x=aR d e))=own at*;obtain⟨h1,h2,h3⟩:=HR r (rs++[⟨(aR d e).getD 0,least own-0,(rec own (least own) M).2⟩]) (rec own (least own) M).1 λ y hy hn hl=>by
    rw[List.getLast?_append]at hl;simp[hb]at hl;exact⟨_,xS _ cJ,hin y (cV _ hy) (hl.symm.trans hb.symm)⟩
   refine⟨λ a ha=>?_,λ a ha=>h2 a (Hm _ ha),λ y hy hn=>?_⟩
   .rcases h1 a ha with h|⟨e1,he1,h⟩
    .rcases mw.1 h with h|h
     .exact .inl h
     .rw[dX.1 h];exact .inr ⟨e0,hown e0 he0,hle⟩
    .exact .inr ⟨e1,cV _ he1,h⟩
   .rcases cG.1 hy with rfl|hy
    .exact⟨_,h2 _ (xS _ cJ),hin y cJ rfl⟩
    .exact h3 y hy hn
theorem Mo{b:UInt8}:∀(g r:List aK) (rs:List cr) (M:List aw),(rs.getLast?).map (·.byte)=U b->(∀e∈g,aR d e=U b)->cT rec d n (g++r) rs M=cT rec d n r rs M
 | [],r,rs,M,_,_=>rfl
 |e::g,r,rs,M,h,hg=>by
  rw[iP,cT,aA (.inr (h.trans (hg e cJ).symm))];exact Mo g r rs M h λ e he=>hg e (cV _ he)
theorem OB:∀(l:List aK),(∀e∈l,aR d e≠V)->∀q:Bool×Nat,l.foldl (λ s e=>if aR d e=V then(ae,val e-n)else s) q=q
 | [],_,q=>rfl
 |e::l,h,q=>by
  rw[mu,ax (h e cJ)];exact OB l (λ e he=>h e (cV _ he)) q
def Zg(l:List aK):eh d n l=((eh d 0 l).1,(eh d 0 l).2-(bif (eh d 0 l).1 then n else 0)):=by
 have:∀(l:List aK) (b:Bool) (k:Nat),l.foldl (λ s e=>if aR d e=V then(ae,val e-n)else s) (b,k-bif b then n else 0)=
  ((l.foldl (λ s e=>if aR d e=V then(ae,val e-0)else s) (b,k)).1,(l.foldl (λ s e=>if aR d e=V then(ae,val e-0)else s) (b,k)).2-bif (l.foldl (λ s e=>if aR d e=V then(ae,val e-0)else s) (b,k)).1 then n else 0):=by
  intro l
  induction l with
  |nil=>intro b k;rfl
  |cons e l ih=>
   intro b k;rw[mu,mu];split
   .exact ih ae (val e-0)
   .exact ih b k
 exact this l ag 0
variable {e:aK}
def OC{p:List UInt8}{r:List aK}(ha:dk (e::r))(hb:ot d p (e::r)):(∀x∈r,aR d x≠V)/\eh d 0 (e::r)=if aR d e=V then(ae,val e)else(ag,0):=by
 have h:∀x∈r,aR d x≠V:=λ x hx=>by
  obtain⟨c,h,-⟩:=Cd (hb e cJ).1 (hb x (cV _ hx)).1 (ha.1 x hx);rw[h];simp
 refine⟨h,?_⟩;show List.foldl _ (if aR d e=V then(ae,val e-0)else(ag,0)) r=_;rw[OB r h];split<;>rfl
def QC{p:List UInt8}{own:List aK}(y:UInt8)(h0:own≠ [])(ha:dk own)(hb:ot d p own):
 ew ⟨(eh d 0 own).1,(eh d 0 own).2,(cT rec d 0 own [] M).2,y⟩=least own/\
 du ⟨(eh d 0 own).1,(eh d 0 own).2,(cT rec d 0 own [] M).2,y⟩=⟨(eh d (least own) own).1,(eh d (least own) own).2,(cT rec d (least own) own [] M).2⟩:=by
 have hL:ew ⟨(eh d 0 own).1,(eh d 0 own).2,(cT rec d 0 own [] M).2,y⟩=least own:=by
  obtain⟨a1,-,a3⟩:=HR own [] M λ y _ hn h=>aU h.symm hn
  obtain⟨e,r,rfl⟩:=Hi h0;obtain⟨f1,f2⟩:=OC ha hb;obtain⟨m,hm,hme⟩:=yR h0;obtain⟨l1,l2,l3⟩:=FV (cT rec d 0 (e::r) [] M).2 (eh d 0 (e::r)).2 (eh d 0 (e::r)).1 (by
   rw[f2];by_cases hn:aR d e=V
   .rw[aA hn];exact .inl rfl
   .obtain⟨a,ha,-⟩:=a3 e cJ hn;exact .inr (List.ne_nil_of_mem ha))
  refine Nat.le_antisymm ?_ ?_
  .rw[hme];by_cases hn:aR d m=V
   .have he:m=e:=by
     rcases cG.1 hm with h|h
     .exact h
     .exact aU hn (f1 m h)
    subst he;have:=l2 (by rw[f2,aA hn]);rw[f2,aA hn]at this;unfold ew;rw[f2,aA hn];exact this
   .obtain⟨a,ha,hle⟩:=a3 m hm hn;exact dm (l1 a ha) hle
  .rcases l3 with⟨h1,h2⟩|⟨a,ha,h2⟩
   .unfold ew;rw[h2];rw[f2]at h1⊢;split at h1
    .rw[aA (by assumption)];exact least_le cJ
    .cases h1
   .unfold ew;rw[h2];rcases a1 a ha with h|⟨x,hx,h⟩
    .cases h
    .rw[h];exact least_le hx
 refine⟨hL,?_⟩;unfold du;rw[hL,Zg (n:=least own),show cT rec d (least own) own [] M=_ from Cb own [] M]
def Hf(f d:Nat)(p:List UInt8):Prop:=∀(e:aK) (r:List aK) (M:List aw) (y:UInt8) (W:List dI),dk (e::r)->ot d p (e::r)->(∀x∈e::r,Z x.word<d+f)->Z W=d->
 im d (gD e.word r (wI (val e) M (k_ (e.word.drop d) ⟨ag,0,[],y⟩ W)))=
  ((cT (λ own n M=>dv (f-1) own (d+1) n M) d 0 (e::r) [] M).1,⟨(eh d 0 (e::r)).1,(eh d 0 (e::r)).2,(cT (λ own n M=>dv (f-1) own (d+1) n M) d 0 (e::r) [] M).2,y⟩,W)
theorem JE{f d:Nat}{p:List UInt8}(hp:Z p=d)(hG:∀b,Hf f (d+1) (p++[b])):∀(k:Nat) (r:List aK) (z:List UInt8) (S:nw) (M:List aw) (o:dI) (W:List dI),Z r<=k->im d S=(M,o,W)->Z W=d->
 dk r->ot d p r->(∀x∈r,Z x.word<d+1+f)->(∀x∈r,aR d x≠V/\aR d x≠(o.arcs.getLast?).map (·.byte))->(∀x,r.head?=U x->share z x.word=d)->
 im d (gD z r S)=((cT (λ own n M=>dv f own (d+1) n M) d 0 r o.arcs M).1,⟨o.fin,o.out,(cT (λ own n M=>dv f own (d+1) n M) d 0 r o.arcs M).2,o.by'⟩,W)
 |_,[],z,S,M,o,W,_,hS,_,_,_,_,_,_=>hS
 |0,e::r,_,_,_,_,_,h,_,_,_,_,_,_,_=>by simp at h
 |k+1,e::r,z,S,M,o,W,hk,hS,hW,ha,hb,hl,hby,hz=>by
  obtain⟨b,hbe⟩:=L2.1 (hby e cJ).1;have hge:∀y∈e::r,∃c,aR d y=U c/\b<=c:=by
   intro y hyr;rcases cG.1 hyr with rfl|hyr
   .exact⟨b,hbe,UInt8.le_refl _⟩
   .obtain⟨c,h1,h2⟩:=Cd (hb e cJ).1 (hb y (cV _ hyr)).1 (ha.1 y hyr);exact⟨c,h1,h2 b hbe⟩
  have hsplit:=Kx ha hb hge;have hfe:(e::r).filter (λ x=>decide (aR d x=aR d e))=e::r.filter λ x=>decide (aR d x=U b):=by
   rw[iD,aA (by simp),hbe]
  rw[iD,aA (by simp[hbe]),iD,ax (by simp[hbe]),iP,gq]at hsplit;have hsp:=hsplit.2;have hg:∀x∈r.filter (λ x=>decide (aR d x=U b)),x∈r/\aR d x=U b:=λ x hx=>by
   obtain⟨h1,h2⟩:=qn.1 hx;exact⟨h1,by simpa using h2⟩
  have hr:∀x∈r.filter (λ x=>decide (aR d x≠U b)),x∈r/\aR d x≠U b:=λ x hx=>by
   obtain⟨h1,h2⟩:=qn.1 hx;exact⟨h1,by simpa using h2⟩
  have hag:dk (r.filter λ x=>decide (aR d x=U b)):=zQ ha.2;have har:dk (r.filter λ x=>decide (aR d x≠U b)):=zQ ha.2;have hlr:(r.filter λ x=>decide (aR d x≠U b)).length<=k:=dm (BC _ _) (by simpa using hk);generalize r.filter (λ x=>decide (aR d x=U b))=g at*;generalize r.filter (λ x=>decide (aR d x≠U b))=s at*;have hgo:ot (d+1) (p++[b]) (e::g):=by
   intro x hx;have:x∈e::r/\aR d x=U b:=by
    rcases cG.1 hx with rfl|hx
    .exact⟨cJ,hbe⟩
    .exact⟨cV _ (hg x hx).1,(hg x hx).2⟩
   obtain⟨hd,he⟩:=bU.1 this.2;refine⟨?_,hd⟩;rw[d_ hd,(hb x this.1).1,he]
  have hag':dk (e::g):=⟨λ y hy=>ha.1 y (hg y hy).1,hag⟩;obtain⟨hd,hde⟩:=bU.1 hbe;have hG1:=hG b e g M b (o::W) hag' hgo (λ x hx=>by
   have:=hl x (by
    rcases cG.1 hx with rfl|hx
    .exact cJ
    .exact cV _ (hg x hx).1)
   omega) (by simp[hW])
  have hadd:qD z e S=wI (val e) M (k_ (e.word.drop (d+1)) ⟨ag,0,[],b⟩ (o::W)):=by
   unfold qD;rw[hz e rfl,hS,mq hd,hde];rfl
  rw[<-hadd]at hG1;generalize hS1:gD e.word g (qD z e S)=S1 at hG1;have hC:=X5 (d:=d) S1;rw[hG1]at hC;obtain⟨f,rfl⟩:∃f',f=f'+1:=⟨f-1,by
   have q:=hl e cJ;have q2:=hd;omega⟩
  obtain⟨n1,n2⟩:=QC b (List.cons_ne_nil e g) hag' hgo;rw[zB]at hC;have hst:dv (f+1) (e::g) (d+1) (least (e::g)) M=eP (cT (λ own n M=>dv f own (d+1+1) n M) (d+1) 0 (e::g) [] M).1 (du ⟨(eh (d+1) 0 (e::g)).1,(eh (d+1) 0 (e::g)).2,(cT (λ own n M=>dv f own (d+1+1) n M) (d+1) 0 (e::g) [] M).2,b⟩):=by
   rw[n2,dv,show cT (λ own n M=>dv f own (d+1+1) n M) (d+1) (least (e::g)) (e::g) [] M=_ from Cb (e::g) [] M]
  have hC2:im d S1=((dv (f+1) (e::g) (d+1) (least (e::g)) M).1,⟨o.fin,o.out,o.arcs++[⟨b,least (e::g),(dv (f+1) (e::g) (d+1) (least (e::g)) M).2⟩],o.by'⟩,W):=by
   rw[<-hC,hst];show jI d _ _ (o::W)=_;rw[jI,aA (by omega),E5 (by omega),n1]
  have hrun:gD z (e::r) S=gD (((e::g).getLast?.map (·.word)).getD z) s S1:=by
   rw[hsp,<-iP,KO,<-hS1];rfl
  have hlast:∃x∈e::g,((e::g).getLast?.map (·.word)).getD z=x.word:=by
   rw[List.getLast?_eq_some_getLast (List.cons_ne_nil e g)];exact⟨_,List.getLast_mem (List.cons_ne_nil e g),rfl⟩
  have hby2:∀(x:cr),((o.arcs++[x]).getLast?).map (·.byte)=U x.byte:=λ x=>by rw[List.getLast?_append];simp
  rw[hrun,JE hp hG k s _ S1 _ _ W hlr hC2 hW har (λ x hx=>hb x (cV _ (hr x hx).1)) (λ x hx=>hl x (cV _ (hr x hx).1))
   (λ x hx=>⟨(hby x (cV _ (hr x hx).1)).1,by rw[hby2];exact(hr x hx).2⟩) (λ x hx=>by
    obtain⟨u,hu,e1⟩:=hlast;rw[e1];have hxs:=List.mem_of_head? hx;have hu2:u∈e::r/\aR d u=U b:=by
     rcases cG.1 hu with rfl|hu
     .exact⟨cJ,hbe⟩
     .exact⟨cV _ (hg u hu).1,(hg u hu).2⟩
    exact K_ (hb u hu2.1).1 (hb x (cV _ (hr x hxs).1)).1 hp (.inl λ h=>(hr x hxs).2 (by rw[<-hu2.2];exact h.symm)))]
  have hA:cT (λ own n M=>dv (f+1) own (d+1) n M) d 0 (e::r) o.arcs M=cT (λ own n M=>dv (f+1) own (d+1) n M) d 0 s (o.arcs++[⟨b,least (e::g),(dv (f+1) (e::g) (d+1) (least (e::g)) M).2⟩]) (dv (f+1) (e::g) (d+1) (least (e::g)) M).1:=by
   rw[cT,ax (by
    rintro(h|h)
    .rw[hbe]at h;cases h
    .exact(hby e cJ).2 h.symm),hfe,hbe,hsp]
   exact Mo g s _ _ (hby2 _) λ x hx=>(hg x hx).2
  rw[hA]
theorem O7:∀(f d:Nat) (p:List UInt8),Z p=d->Hf f d p
 |0,d,p,hp=>λ e r M y W ha hb hl hW=>by
  have:=hl e cJ;have:=(hb e cJ).2;omega
 |f+1,d,p,hp=>λ e r M y W ha hb hl hW=>by
  have hG:∀b,Hf f (d+1) (p++[b]):=λ b=>O7 f (d+1) (p++[b]) (by simp[hp])
  obtain⟨f1,f2⟩:=OC ha hb;have hl':∀x∈e::r,Z x.word<d+1+f:=λ x hx=>by have:=hl x hx;omega
  have hlast:∀x∈r,share e.word x.word=d\/aR d e≠V:=λ x hx=>by
   by_cases hn:aR d e=V
   .exact .inl (K_ (hb e cJ).1 (hb x (cV _ hx)).1 hp (.inr hn))
   .exact .inr hn
  rw[zB,f2];by_cases hn:aR d e=V
  .rw[aA hn,DW (yx.1 hn)];rw[show wI (val e) M (k_ [] ⟨ag,0,[],y⟩ W)=(M,⟨ae,val e,[],y⟩,W)from rfl,JE hp hG (Z r) r e.word (M,⟨ae,val e,[],y⟩,W) M ⟨ae,val e,[],y⟩ W (aI _) (show jI d M _ W=_ from E5 (by omega)) hW ha.2 (λ x hx=>hb x (cV _ hx)) (λ x hx=>hl' x (cV _ hx)) (λ x hx=>⟨f1 x hx,λ h=>f1 x hx h⟩) λ x hx=>(hlast x (List.mem_of_head? hx)).resolve_right λ h=>h hn];rw[show cT (λ own n M=>dv f own (d+1) n M) d 0 (e::r) [] M=cT (λ own n M=>dv f own (d+1) n M) d 0 r [] M by rw[cT,aA (.inl hn)]]
  .rw[ax hn];have hsh:=K_ (by rw[<-hp,dU]) (hb e cJ).1 hp (.inr (by rw[<-hp];simp));have h1:gD e.word r (wI (val e) M (k_ (e.word.drop d) ⟨ag,0,[],y⟩ W))=gD p (e::r) (M,⟨ag,0,[],y⟩,W):=by
    rw[gD,qD,hsh];have:im d (M,(⟨ag,0,[],y⟩:dI),W)=(M,⟨ag,0,[],y⟩,W):=E5 (by show Z W<=d;omega);rw[this]
   rw[h1,JE hp hG (e::r).length (e::r) p (M,⟨ag,0,[],y⟩,W) M ⟨ag,0,[],y⟩ W (aI _) (show jI d M _ W=_ from E5 (by omega)) hW ha hb hl' (λ x hx=>⟨by
    rcases cG.1 hx with rfl|hx
    .exact hn
    .exact f1 x hx,λ h=>by
    rcases cG.1 hx with rfl|hx
    .exact hn h
    .exact f1 x hx h⟩) λ x hx=>by cases hx;exact hsh]
def Py{f:Nat}{l:List aK}(h0:l≠ [])(ha:dk l)(hl:∀e∈l,Z e.word<f+1):∃M o,im 0 (gD [] l ([],⟨ag,0,[],0⟩,[]))=(M,o,[])/\ew o=least l/\eP M (du o)=dv (f+1) l 0 (least l) []:=by
 obtain⟨e,r,rfl⟩:=Hi h0;have hb:ot 0 [] (e::r):=λ x _=>⟨rfl,a8 _⟩
 have h:=O7 (f+1) 0 [] rfl e r [] 0 [] ha hb (by simpa using hl) rfl;obtain⟨n1,n2⟩:=QC (rec:=λ own n M=>dv f own 1 n M) 0 h0 ha hb;refine⟨(cT (λ own n M=>dv f own 1 n M) 0 0 (e::r) [] []).1,_,?_,n1,?_⟩
 .have:gD [] (e::r) ([],⟨ag,0,[],0⟩,[])=gD e.word r (wI (val e) [] (k_ (e.word.drop 0) ⟨ag,0,[],0⟩ [])):=by
   rw[gD,qD,show share [] e.word=0 by cases e.word<;>rfl];rfl
  rw[this,h];rfl
 .rw[n2,dv,show cT (λ own n M=>dv f own (0+1) n M) 0 (least (e::r)) (e::r) [] []=_ from Cb (e::r) [] []]
end
end Go.Sto
namespace Go.Proofs.YtjoceidiioppiaaGreatDoor.sto
open Go.Am Go.Mdl Go.Sto Go.Shelf
variable {A B:Mem}{b o n m:Nat}
def Sy{q:Nat}(l1:aj O A.get 113 (pw b o)=.ok (.int .u64 m))(l2:aj O A.get 113 (pw q 0)=.ok (.int .u64 n))(h:n<=m)(hm:m<18446744073709551616)
 (sB:cm O A 113 (pw b o) (uN (m-n))=.ok B):az O 175 [pw b o,pV q] A cQ B:=by
 have s1:a_ .sub .u64 ((m:Nat):Int) ((n:Nat):Int)=.ok (uN (m-n)):=eQ h (fM (by omega));simp only[pV];refine cq 60 (aD Tryz.func175) (by kernel_rfl) λ M=>?_
 simp(config:={maxSteps:=4000000})(disch:=first|decide+kernel|omega|simp only[Wq,aa])only[Tryz.f175,Aq,av,reduceIte,aa,ak,bA,br,l1,l2,s1,sB,cQ,Fq,bQ []]<;>rfl
def qif{α:Type}(f:α->α)(l:List α)(i:Nat)(h:i<Z l):((l.map f).take i++l.drop i).set i (f l[i])=(l.map f).take (i+1)++l.drop (i+1):=by
 have hl:((l.map f).take i).length=i:=by rw[df,bc];omega
 rw[Eb _ _ (by omega),hl,iQ,mq h,List.set_cons_zero,d_ (by rw[bc];exact h),zu];simp
def nP:=cu sX
def Il:aH:=sub nP [1,1,1,1,0,1,0,0]
def WQ:sX.body=U (.seq (sub nP [0]) (.seq (sub nP [1,0]) (.seq (sub nP [1,1,0]) (.seq (sub nP [1,1,1,0]) (.seq (.seq (sub nP [1,1,1,1,0,0]) (.block 0 (.loop Il))) (.seq (sub nP [1,1,1,1,1,0]) (sub nP [1,1,1,1,1,1]))))))):=by kernel_rfl
def Lc:bk O 113=.ok 1:=by kernel_rfl
def qiP:dj O 113=.ok (uN 0):=by kernel_rfl
def dy(x:I)(o:dI):List I:=[x,.bool o.fin,.int .u64 o.out,bN o.by'.toNat]
def PZ{o:dI}(h:o.fin=ae\/o.arcs≠ []):(∀a∈o.arcs,ew o<=a.out)/\(o.fin=ae->ew o<=o.out):=by
 obtain⟨h1,h2,-⟩:=FV o.arcs o.out o.fin h;exact⟨h1,h2⟩
variable {p:Nat}
def SD{bx:Nat}{o:dI}{x:I}(hp:VB A 188 p (.var 4) (dy x o))(hx:aq A 246 3 bx (o.arcs.map bP) x)(h0:o.fin=ae\/o.arcs≠ [])(hl:Z o.arcs<=256)(ho:o.out<18446744073709551616/\∀a∈o.arcs,a.out<18446744073709551616):
 ∃v A',az O 118 [pV p] A v A'/\v=.int .u64 (ew o:Nat)/\VB A' 188 p (.var 4) (dy x ⟨o.fin,(du o).out,(du o).arcs,o.by'⟩)/\aq A' 246 3 bx ((du o).arcs.map bP) x/\A.next<=A'.next/\∀z,z<A.next->z≠p->(o.arcs≠ []->z≠bx)->A'.get z=A.get z:=by
 obtain⟨q1,q2⟩:=PZ h0;obtain⟨v,B,⟨g,hg⟩,rfl,kB⟩:=SA (s:=⟨o.fin,o.out,o.arcs⟩) ⟨bx,hx⟩ hp hl;have hn:(o.arcs.foldl mP (o.out,o.fin)).1=ew o:=rfl;simp only[hn]at hg;have hpn:ew o<18446744073709551616:=by
  rcases h0 with h|h
  .have:=q2 h;omega
  .obtain⟨a,ha⟩:=Bw _ h;have:=q1 a ha;have:=ho.2 a ha;omega
 have kC:=Kp.alloc B (af 113 [.int .u64 (ew o:Nat)]);have vC:=aQ B 113 [.int .u64 (ew o:Nat)];have sC:cm O (B.alloc (af 113 [.int .u64 (0:Nat)])) 113 (.pointer (U ⟨B.next,0,V⟩)) (.int .u64 (ew o:Nat))=.ok (B.alloc (af 113 [.int .u64 (ew o:Nat)])):=se Lc rfl rfl (by simp);have nC:(B.alloc (af 113 [.int .u64 (ew o:Nat)])).next=B.next+1:=aG _ _
 have cz:(Value.int .u64 (0:Nat)).cells.toList=[.int .u64 (0:Nat)]:=rfl;refine cZ (aD Tryz.func118) WQ (by kernel_rfl) ?_;simp only[pV]at*;apply W.ic (g)
 .intro M hM _;simp(disch:=first|decide+kernel|omega)only[nP,sX,Aq,aa,hg,qiP,cz,sC];rfl
 generalize B.alloc (af 113 [.int .u64 (ew o:Nat)])=C at kC vC sC nC;have kAC:=kB.trans kC;have hpC:=VB.kp hp kAC;have hxC:=hx.same kAC.1 (kAC.2 bx);have hpA:=hp.1;have hBp:=kB.1;have lC:aj O C.get 113 (.pointer (U ⟨B.next,0,V⟩))=.ok (.int .u64 (ew o:Nat)):=vC.ld rfl dH rfl;apply W.q
 .intro M;simp(disch:=first|decide+kernel|omega)only[nP,sX,Aq,aa];rfl
 apply W.seq;have lf:aj O C.get 4 (.pointer (U ⟨p,0+1,V⟩))=.ok (.bool o.fin):=hpC.ld rfl u4 rfl;have lo:aj O C.get 113 (.pointer (U ⟨p,0+2,V⟩))=.ok (.int .u64 o.out):=hpC.ld rfl dH rfl;obtain⟨D,sD,vD,nD,fD⟩:=db (tb:=O) (t:=113) (o:=0+2) (v:=.int .u64 (o.out-ew o:Nat)) Lc hpC.2 (by simp[dy]) rfl rfl;refine W.to (n:=41) (λ t E=>VB E 188 p (.var 4) (dy x ⟨o.fin,(du o).out,o.arcs,o.by'⟩)/\E.next=C.next/\(∀z,z≠p->E.get z=C.get z)/\Sl t [(0,.pointer (U ⟨p,0,V⟩)),(3,.pointer (U ⟨B.next,0,V⟩)),(4,.func (.func 175) ⟨[]⟩ ⟨[.pointer (U ⟨B.next,0,V⟩)]⟩)]) ?_ ?_
 .cases hf:o.fin with
  |true=>
   rw[hf]at lf;have hless:=Sy lo lC (q2 hf) ho.1 sD;obtain⟨g2,h2⟩:=hless;simp only[pV]at h2;apply W.cC (g2) 20
   .intro M hM;simp(disch:=first|decide+kernel|omega)only[nP,sX,Aq,aa,bA,br,uH,fV,nT,lf,h2,cQ];rfl
   refine⟨rfl,_,D,rfl,⟨by omega,?_⟩,nD,fD,?_⟩
   .have e:dy x ⟨ae,(du o).out,o.arcs,o.by'⟩=(dy x o).set (0+2) (.int .u64 (o.out-ew o:Nat)):=by unfold dy du;rw[hf];rfl
    rw[e];exact vD
   .simp only[Sq,aa,ak]
  |false=>
   rw[hf]at lf;apply W.run 20
   .intro M;simp(disch:=first|decide+kernel|omega)only[nP,sX,Aq,aa,bA,br,uH,fV,lf];rfl
   refine⟨rfl,_,C,rfl,?_,rfl,λ _ _=>rfl,?_⟩
   .have e:dy x ⟨ag,(du o).out,o.arcs,o.by'⟩=dy x o:=by unfold dy du;rw[hf];rfl
    rw[e];exact hpC
   .simp only[Sq,aa,ak]
 .rintro t E ⟨vE,nE,fE,g0,g3,g4,-⟩;have hBp':=kC.1;have hne:o.arcs≠ []->bx<A.next/\p≠bx:=λ h=>by
   have h':o.arcs.map bP≠ []:=λ e=>h (gu.1 e)
   exact⟨xy hx h',aq.iA hx hp (by decide) h'⟩
  have hxE:aq E 246 3 bx (o.arcs.map bP) x:=aq.JW hxC hpC (by decide) ⟨by omega,λ z _ hz=>fE z hz⟩;have lx:aj O E.get 184 (.pointer (U ⟨p,0,V⟩))=.ok x:=vE.ld rfl f_ rfl;have len:=aq.len (tb:=O) hxE f_;rw[bc]at len;apply W.seq;apply W.q
  .intro M;simp(disch:=first|decide+kernel|omega)only[nP,sX,Aq,aa,g0,bA,br,uH,eT,lx,len];rfl
  apply W.block;have hP:(du o).arcs=o.arcs.map λ a=>⟨a.byte,a.out-ew o,a.to⟩:=rfl
  generalize hf:(λ a:cr=>(⟨a.byte,a.out-ew o,a.to⟩:cr))=f at hP;refine W.up (Z o.arcs) (λ i t F=>aq F 246 3 bx (((o.arcs.map f).take i++o.arcs.drop i).map bP) x/\VB F 188 p (.var 4) (dy x ⟨o.fin,(du o).out,o.arcs,o.by'⟩)/\F.next=C.next/\(∀z,z≠p->(o.arcs≠ []->z≠bx)->F.get z=C.get z)/\Sl t [(0,.pointer (U ⟨p,0,V⟩)),(3,.pointer (U ⟨B.next,0,V⟩)),(4,.func (.func 175) ⟨[]⟩ ⟨[.pointer (U ⟨B.next,0,V⟩)]⟩),(25,.int .i64 (Z o.arcs:Nat)),(26,.int .i64 i)]) ?_ (a8 _) ⟨by simpa using hxE,vE,nE,λ z h1 _=>fE z h1,?_⟩
  .rintro i t F hi ⟨hF,vF,nF,fF,g0,g3,g4,g25,g26,-⟩;by_cases hlt:i<Z o.arcs
   .obtain⟨hbx,hpb⟩:=hne (λ e=>by rw[e]at hlt;simp at hlt);have hli:((o.arcs.map f).take i).length=i:=by rw[df,bc];omega
    have hrow:(((o.arcs.map f).take i++o.arcs.drop i).map bP)[i]?=U (bP o.arcs[i]):=by
     rw[dN,eV (by omega),hli,iQ,xP,eo,aZ hlt];rfl
    have hlen:i<(((o.arcs.map f).take i++o.arcs.drop i).map bP).length:=(bU.1 hrow).1;have lF:aj O F.get 184 (.pointer (U ⟨p,0,V⟩))=.ok x:=vF.ld rfl f_ rfl;have j1:=aq.idx (tb:=O) (t:=184) (kd:=.i64) hF f_ xH hlen;have j2:=aq.load (tb:=O) (t:=113) (j:=1) hF dH rfl hrow rfl (by omega);obtain⟨G,e1,e2,e3,e4⟩:=aq.field (tb:=O) (t:=113) (j:=1) (v:=.int .u64 (o.arcs[i].out-ew o:Nat)) hF Lc hrow (by omega) rfl rfl;have lq:aj O F.get 113 (.pointer (U ⟨B.next,0,V⟩))=.ok (.int .u64 (ew o:Nat)):=VB.ld (tb:=O) ⟨by have:=vC.1;omega,vC.2.same (fF _ (by omega) λ _=>by omega)⟩ rfl dH rfl;obtain⟨g2,h2⟩:=Sy j2 lq (q1 _ (ff hlt)) (ho.2 _ (ff hlt)) e1;simp only[pV]at h2;apply W.cC (g2) 20
    .intro M hM;simp(disch:=first|decide+kernel|omega)only[Il,nP,sX,Aq,aa,g0,g4,g25,g26,hlt,bA,br,uH,eT,lF,j1,wP,h2,cQ];rfl
    refine⟨hlt,_,G,rfl,?_,⟨by have:=vF.1;omega,vF.2.same (e4 p hpb)⟩,by omega,λ z h1 h2=>by rw[e4 z (h2 λ e=>by rw[e]at hlt;simp at hlt),fF z h1 h2],?_⟩
    .have hu:=qif f o.arcs i hlt;rw[<-hu,D8,show bP (f o.arcs[i])=(bP o.arcs[i]).set 1 (.int .u64 (o.arcs[i].out-ew o:Nat)) by rw[<-hf];rfl];exact e2
    .simp only[Sq,aa,ak,g0,g3,g4,g25]
   .have e:i=Z o.arcs:=by omega
    subst e;apply W.run 20
    .intro M;simp(disch:=first|decide+kernel|omega)only[Il,nP,sX,Aq,aa,g25,g26,hlt];rfl
    show W O _ _ _;have lq:aj O F.get 113 (.pointer (U ⟨B.next,0,V⟩))=.ok (.int .u64 (ew o:Nat)):=VB.ld (tb:=O) ⟨by have:=vC.1;omega,vC.2.same (fF _ (by omega) λ h=>by have:=(hne h).1;omega)⟩ rfl dH rfl;apply W.run 40
    .intro M;simp(disch:=first|decide+kernel|omega)only[nP,sX,Aq,aa,g3,lq];rfl
    rw[BF (by rw[bc];exact aI _),Bv,jT,<-hP]at hF;refine⟨by simp,rfl,_,(by simp only[sX,Aq,aa]<;>rfl),rfl,?_,hF,by show A.next<=F.next;omega,λ z hz h1 h2=>?_⟩
    .exact vF
    .show F.get z=A.get z;rw[fF z h1 h2,kAC.2 z hz]
  .simp only[Sq,aa,ak,g0,g3,g4]
def lu(A:Mem)(b:Nat)(l:List cr)(x:I):Prop:=aq A 246 3 b (l.map bP) x/\(l=[]->x=.slice V 0 0)
def lu.same{G:Mem}{l:List cr}{x:I}(h:lu A b l x)(hn:A.next<=G.next)(hg:l.map bP≠ []->b<A.next->G.get b=A.get b):lu G b l x:=⟨aq.jb h.1 (λ e=>h.2 (gu.1 e)) hn hg,h.2⟩
def gI(A:Mem)(X:Nat->Prop)(p mk:Nat)(M:List aw)(os:List dI)(b bw:Nat)(bs:List Nat):Prop:=∃y w rows ws,
 rA A 182 3 p mk b [w] (M.map eU) rows y/\gZ A 188 4 bw ws w/\(Z ws=Z os/\Z bs=Z os/\bs.Nodup)/\
 (∀(i:Nat) (s:aw),M[i]?=U s->∃x bx,rows[i]?=U (aS x s)/\lu A bx s.arcs x/\bx∉bs/\bx<A.next)/\
 (∀(i:Nat) (o:dI) (bx:Nat),os[i]?=U o->bs[i]?=U bx->∃x,ws[i]?=U (dy x o)/\lu A bx o.arcs x/\bx<A.next)/\
 (¬X p/\¬X mk/\¬X b/\¬X bw)/\(∀z∈bs,¬X z)/\(b<A.next/\bw<A.next)/\∀z,X z->z<A.next
variable {mk bw:Nat}{M:List aw}{os:List dI}
def gI.kp{X:Nat->Prop}{bs:List Nat}(h:gI A X p mk M os b bw bs)(k:Kp A B):gI B X p mk M os b bw bs:=by
 obtain⟨y,w,rows,ws,h1,h2,h3,h4,h5,h6,h7,h8,h9⟩:=h;refine⟨y,w,rows,ws,h1.kp k,h2.same k.1 (k.2 bw h8.2),h3,λ i s hi=>?_,λ i o bx hi hb=>?_,h6,h7,⟨c9 h8.1 k.1,c9 h8.2 k.1⟩,λ z hz=>c9 (h9 z hz) k.1⟩
 .obtain⟨x,bx,e1,e2,e3,e4⟩:=h4 i s hi;exact⟨x,bx,e1,e2.same k.1 λ _=>k.2 bx,e3,c9 e4 k.1⟩
 .obtain⟨x,e1,e2,e3⟩:=h5 i o bx hi hb;exact⟨x,e1,e2.same k.1 λ _=>k.2 bx,c9 e3 k.1⟩
def gI.H6{X:Nat->Prop}{bs:List Nat}(h:gI A X p mk M os b bw bs):∀z∈bs,z<A.next:=λ z hz=>by
 obtain⟨_,_,_,_,-,-,⟨-,h3,-⟩,-,h5,-⟩:=h;obtain⟨i,hi,rfl⟩:=oU hz;obtain⟨_,-,-,h⟩:=h5 i _ _ (aZ (by omega)) (aZ hi);exact h
def gI.more{X:Nat->Prop}{q:Nat}{bs:List Nat}(h:gI A X p mk M os b bw bs)(k:Kp A B)(hq:A.next<=q)(hq2:q<B.next):gI B (λ z=>X z\/z=q) p mk M os b bw bs:=by
 have hb:=h.H6;obtain⟨y,w,rows,ws,h1,h2,h3,h4,h5,⟨n1,n2,n3,n4⟩,n5,⟨n6,n7⟩,n8⟩:=h.kp k;obtain⟨_,_,_,_,⟨⟨d1,-⟩,⟨d2,-⟩,-⟩,-,-,-,-,-,-,⟨d3,d4⟩,-⟩:=h;have no:∀z,¬X z->z<A.next->¬(X z\/z=q):=λ z h hz=>λ h'=>by
  rcases h' with h'|h'
  .exact h h'
  .omega
 exact⟨y,w,rows,ws,h1,h2,h3,h4,h5,⟨no p n1 d1,no mk n2 d2,no b n3 d3,no bw n4 d4⟩,λ z hz=>no z (n5 z hz) (hb z hz),⟨n6,n7⟩,λ z hz=>by
  rcases hz with hz|rfl
  .exact n8 z hz
  .exact hq2⟩
def gI.less{X Y:Nat->Prop}{bs:List Nat}(h:gI A X p mk M os b bw bs)(k:∀z,Y z->X z):gI A Y p mk M os b bw bs:=by
 obtain⟨y,w,rows,ws,h1,h2,h3,h4,h5,⟨n1,n2,n3,n4⟩,n5,n6,n8⟩:=h;exact⟨y,w,rows,ws,h1,h2,h3,h4,h5,⟨λ h=>n1 (k _ h),λ h=>n2 (k _ h),λ h=>n3 (k _ h),λ h=>n4 (k _ h)⟩,λ z hz h=>n5 z hz (k _ h),n6,λ z h=>n8 z (k _ h)⟩
def mY:O.aB 180=U (.slice 188):=by kernel_rfl
def ve:bk O 188=.ok 4:=by kernel_rfl
def Jl:bK O 182 (pw b o) 0=.ok (pw b o):=by kernel_rfl
def yL:bK O 182 (pw b o) 1=.ok (pw b (o+2)):=by kernel_rfl
def Y0:bK O 188 (pw b o) 1=.ok (pw b (o+3)):=by kernel_rfl
def UM:dj O 188=.ok (.agg ⟨[.slice V 0 0,.bool ag,uN 0,bN 0]⟩):=by kernel_rfl
def wo:=cu uk
def j5:aH:=sub wo [0,0]
def WO:uk.body=U (.block 0 (.loop j5)):=by kernel_rfl
def M0:j5=(.seq (.seq (sub j5 [0,0]) (sub j5 [0,1])) (.block 1 (.seq (sub j5 [1,0,0]) (.seq (sub j5 [1,0,1,0]) (.seq (sub j5 [1,0,1,1,0]) (.seq (sub j5 [1,0,1,1,1,0]) (.seq (sub j5 [1,0,1,1,1,1,0]) (sub j5 [1,0,1,1,1,1,1])))))))):=by kernel_rfl
def xN(o:dI):Prop:=Fit ⟨o.fin,o.out,o.arcs⟩
def Jw{o:dI}(h:xN o):Fit (du o):=by
 refine⟨mz (Nat.sub_le _ _) h.1,λ a ha=>?_⟩;obtain⟨b,hb,rfl⟩:=eH.1 ha;exact⟨mz (Nat.sub_le _ _) (h.2 b hb).1,(h.2 b hb).2⟩
variable {d:Nat}{t:T I}
def X7{X:Nat->Prop}{u o:dI}{bs:List Nat}(h:gI A X p mk M (os++[u,o]) b bw bs)(hd:d<=Z os)(hos:Z os<1000)
 (h0:o.fin=ae\/o.arcs≠ [])(hl:Z o.arcs<=256)(hul:Z u.arcs<=256)(ho:xN o)(hM:∀s∈M,Fit s)(hMl:Z M<1000000)
 (g:Sl t [(0,pV p),(1,.int .i64 d)]):
 W O j5 ⟨t,67,[],A,V⟩ λ e s'=>e=.nrm/\∃t' A' b' bs',s'=⟨t',67,[],A',V⟩/\Sl t' [(0,pV p),(1,.int .i64 d)]/\
  gI A' X p mk (eP M (du o)).1 (os++[⟨u.fin,u.out,u.arcs++[⟨o.by',ew o,(eP M (du o)).2⟩],u.by'⟩]) b' bw bs'/\A.next<=A'.next/\∀z,X z->A'.get z=A.get z:=by
 obtain⟨g0,g1,-⟩:=g;have hblt:=h.H6;obtain⟨y,w,rows,ws,h1,h2,⟨h3,h3b,h3c⟩,h4,h5,⟨n1,n2,n3,n4⟩,n5,⟨n7,n6⟩,n8⟩:=h;have hp:=h1.1;obtain⟨-,⟨m1,m2⟩,m3,m4,m5⟩:=id h1;have lw:=hp.m2 mY rfl;have len:=h2.len (tb:=O) (st:=180) mY;have hlen:Z ws=Z os+2:=by rw[h3];simp
 rw[hlen]at len;have a1:a_ .add .i64 ((d:Nat):Int) ((1:Nat):Int)=.ok (.int .i64 (d+1:Nat)):=e_ (ct (by omega));have hgt:d+1<Z os+2:=by omega
 have s1:a_ .sub .i64 ((Z os+2:Nat):Int) ((1:Nat):Int)=.ok (.int .i64 (Z os+1:Nat)):=eQ (by omega) (ct (by omega));have hbl:Z bs=Z os+2:=by rw[h3b];simp
 have hbo:bs[Z os+1]?=U (bs[Z os+1]'(by omega)):=aZ (by omega)
 have hbu:bs[Z os]?=U (bs[Z os]'(by omega)):=aZ (by omega)
 have hub:bs[Z os]'(by omega)≠bs[Z os+1]'(by omega):=λ e=>aU ((Hl h3c).1 e) (by omega)
 have hot:∀(i z:Nat),i<Z os->bs[i]?=U z->z≠bs[Z os]'(by omega)/\z≠bs[Z os+1]'(by omega):=λ i z hi hz=>by
  obtain⟨_,rfl⟩:=bU.1 hz;exact⟨λ e=>aU ((Hl h3c).1 e) (by omega),λ e=>aU ((Hl h3c).1 e) (by omega)⟩
 have hob:=ff (l:=bs) (n:=Z os+1) (by omega);have hubm:=ff (l:=bs) (n:=Z os) (by omega);generalize bs[Z os+1]'(by omega)=bo at hbo hub hob hot
 generalize bs[Z os]'(by omega)=bu at hbu hub hubm hot
 obtain⟨x,hwx,hx,hbx⟩:=h5 (Z os+1) o bo (by rw[eV (by omega),show Z os+1-Z os=1 by omega];rfl) hbo;obtain⟨xu,hwu,hxu,hbuA⟩:=h5 (Z os) u bu (by rw[eV (aI _),iQ];rfl) hbu;obtain⟨_,kw,Qw,hVw,-⟩:=h2.row hwx;have Vw:VB A 188 bw kw Qw:=⟨n6,hVw⟩;obtain⟨dd,hd1,hd2⟩:=cF (t:=188) (p:=ae) (by kernel_rfl);have j1:=h2.idx (tb:=O) (st:=180) (i:=Z os+1) mY ve (by omega);have j2:=h2.cg (tb:=O) hd1 hd2 ve hwx;have hone:∀v∈dy x o,bS v=ae:=by
  intro v hv;simp only[dy,cG,eC,or_false]at hv;rcases hv with rfl|rfl|rfl|rfl
  .exact(aq.dQ hx.1).2
  all_goals rfl
 have sB:cm O (A.alloc (af 188 [.slice V 0 0,.bool ag,.int .u64 (0:Nat),.int .u8 (0:Nat)])) 188 (.pointer (U ⟨A.next,0,V⟩)) (.agg ⟨dy x o⟩)=.ok (A.alloc (af 188 (dy x o))):=fP ve rfl rfl (by simp) hone;have kB:=Kp.alloc A (af 188 (dy x o));have vB:=aQ A 188 (dy x o);have nB:(A.alloc (af 188 (dy x o))).next=A.next+1:=aG _ _
 generalize A.alloc (af 188 (dy x o))=B at sB kB vB nB;obtain⟨v,C,⟨g2,hg2⟩,rfl,vC,hxC,nC,fC⟩:=SD vB (hx.1.same kB.1 (kB.2 bo)) h0 hl ⟨ho.1,λ a ha=>(ho.2 a ha).1⟩;simp only[pV]at*;rw[M0];apply W.seq;apply W.run 40
 .intro M;simp(disch:=first|decide+kernel|omega)only[j5,wo,uk,Aq,aa,g0,g1,bA,br,yL,lw,len,a1,dM,dK,hgt];rfl
 apply W.block;apply W.q2
 .intro M _;simp(disch:=first|decide+kernel|omega)only[j5,wo,uk,Aq,aa,g0,bA,br,yL,lw,len,s1,j1,j2,UM,a7,sB];rfl
 apply W.qG (g2)
 .intro M hM;simp(disch:=first|decide+kernel|omega)only[j5,wo,uk,Aq,aa,hg2];rfl
 have fAC:∀z,z<A.next->(o.arcs≠ []->z≠bo)->C.get z=A.get z:=λ z hz h=>by rw[fC z (by omega) (by omega) h,kB.2 z hz]
 have hpA:=hp.1;have Ca:∀{l:List cr} {bx:Nat} {x:I} {e z:Nat} {k:Kd} {q:List I},lu A bx l x->VB A e z k q->e≠246->l≠ []->z≠bx:=λ hx hz he h=>aq.iA hx.1 hz he λ e=>h (gu.1 e)
 have hpC:VB C 182 p (.var 3) [y,.map (U mk),w]:=⟨by omega,hp.2.same (fAC p hpA λ h=>Ca hx hp (by decide) h)⟩;have lwC:aj O C.get 180 (.pointer (U ⟨p,0+2,V⟩))=.ok w:=hpC.ld rfl mY rfl;obtain⟨w',hpop,h2'⟩:=gZ.pop (tb:=O) (st:=180) (P:=ws.take (Z os+1)) (p:=dy x o) (n:=4) (e:=188) (b:=bw) (A:=A) (x:=w) (by
  have:ws=ws.take (Z os+1)++[dy x o]:=by
   have e:=tZ (Z os+1) ws;rw[mq (by omega),DW (by omega),(bU.1 hwx).2]at e;exact e.symm
  rw[<-this];exact h2) mY ve
 rw[df,nf (by omega)]at hpop;obtain⟨D,sD,vD,nD,fD⟩:=db (tb:=O) (t:=180) (o:=0+2) (v:=w') (by kernel_rfl) hpC.2 (by simp) (by
  obtain⟨_,_,_,rfl,-⟩:=h2';rfl) (by
  obtain⟨_,_,_,rfl,-⟩:=h2';rfl)
 have lwD:aj O D.get 180 (.pointer (U ⟨p,0+2,V⟩))=.ok w':=dg mY rfl vD rfl;have hwp:bw≠p:=Vw.ne hp (by decide);have hwb:o.arcs≠ []->bw≠bo:=λ h=>Ca hx Vw (by decide) h
 have h2D:gZ D 188 4 bw (ws.take (Z os+1)) w':=h2'.same (by omega) (by rw[fD bw hwp,fAC bw n6 hwb]);have lenD:=h2D.len (tb:=O) (st:=180) mY;have s2:a_ .sub .i64 ((Z os+1:Nat):Int) ((1:Nat):Int)=.ok (.int .i64 (Z os:Nat)):=eQ (by omega) (ct (by omega));have j3:=h2D.idx (tb:=O) (st:=180) (i:=Z os) mY ve (by rw[df];omega);apply W.q2
 .intro M _;simp(disch:=first|decide+kernel|omega)only[j5,wo,uk,Aq,aa,g0,bA,br,yL,lwC,hpop,sD,lwD,s2,j3];rfl
 have hwuD:(ws.take (Z os+1))[Z os]?=U (dy xu u):=by rw[pM,aA (by omega)];exact hwu
 have r1:=h2D.load (tb:=O) (j:=0) (t:=184) hwuD f_ rfl rfl;rw[eo]at r1;have vCD:VB D 188 A.next (.var 4) (dy x ⟨o.fin,(du o).out,(du o).arcs,o.by'⟩):=⟨by have:=vC.1;omega,vC.2.same (fD _ (by omega))⟩
 have r2:aj O D.get 5 (.pointer (U ⟨A.next,0+3,V⟩))=.ok (.int .u8 (o.by'.toNat:Nat)):=vCD.ld rfl u5 rfl;have vP:dp D 188 A.next (.var 4) (aS x (du o)):=by
  obtain⟨cc,q1,q2⟩:=vCD.2;refine⟨cc,q1,λ j hj=>?_⟩;rw[q2 j (by simp[aS,dy]at hj⊢;omega)];have:dy x ⟨o.fin,(du o).out,(du o).arcs,o.by'⟩=aS x (du o)++[.int .u8 (o.by'.toNat:Nat)]:=rfl;rw[this,fe hj]
 obtain⟨d4,hd4,hd5⟩:=cF (t:=186) (p:=ae) (by kernel_rfl);have r3:aj O D.get 186 (.pointer (U ⟨A.next,0,V⟩))=.ok (.agg ⟨aS x (du o)⟩):=cg hd4 hd5 (l:=aS x (du o)) gV vP;have hxD:lu D bo (du o).arcs x:=⟨aq.JW hxC hpC (by decide) ⟨by omega,λ z _ hz=>fD z hz⟩,λ e=>hx.2 (gu.1 e)⟩;have hmp:mk≠p:=Ne.symm (hp.dP m2);have fAD:∀z,z<A.next->z≠p->(o.arcs≠ []->z≠bo)->D.get z=A.get z:=λ z hz h h'=>by rw[fD z h,fAC z hz h']
 have hRD:rA D 182 3 p mk b [w'] (M.map eU) rows y:=⟨⟨by omega,vD⟩,⟨by omega,by rw[fAD mk m1 hmp λ h=>aq.dP hx.1 m2 λ e=>h (gu.1 e)];exact m2⟩,aq.jb m3 m5 (by omega) λ hr hb=>fAD b hb (Ne.symm (aq.iA m3 hp (by decide) hr)) λ h=>y5 m3 hx.1 hr (λ e=>h (gu.1 e)) (by decide),m4,m5⟩;obtain⟨v2,E,⟨g3,hg3⟩,rfl,b',y',rows',hRE,hcase,hb',nE,fE⟩:=Ss (by decide) hRD ⟨bo,hxD.1⟩ (Jw ho) hM (by simpa[du]using hl) hMl;have hbA:rows≠ []->b<A.next:=λ hr=>xy m3 hr
 have r1E:=(h2D.same nE (fE bw (by omega) hwp (Vw.dP m2) λ hr=>aq.iA m3 Vw (by decide) hr)).load (tb:=O) (j:=0) (t:=184) hwuD f_ rfl rfl;have h2E:=h2D.same nE (fE bw (by omega) hwp (Vw.dP m2) λ hr=>aq.iA m3 Vw (by decide) hr);rw[eo]at r1E;have r2E:aj O E.get 5 (.pointer (U ⟨A.next,0+3,V⟩))=.ok (.int .u8 (o.by'.toNat:Nat)):=VB.ld (tb:=O) ⟨by omega,vCD.2.same (fE _ (by omega) (by omega) (by omega) λ hr=>by have:=hbA hr;omega)⟩ rfl u5 rfl;have fAE:∀{l:List cr} {bx:Nat} {x:I},lu A bx l x->bx≠bo->lu E bx l x:=λ {l bx x} hx' hne=>hx'.same (by omega) λ h hb=>by
  rw[fE bx (by omega) (Ne.symm (aq.iA hx'.1 hp (by decide) h)) (Ne.symm (aq.dP hx'.1 m2 h)) λ hr=>y5 hx'.1 m3 h hr (by decide),fAD bx hb (Ne.symm (aq.iA hx'.1 hp (by decide) h)) λ _=>hne]
 have hxuE:=fAE hxu hub;obtain⟨xn,F,happ,hsF,nF,fF⟩:=Ma (a:=⟨o.by',ew o,(eP M (du o)).2⟩) hxuE.1 (by omega);have hfz:∀z,(u.arcs≠ []->z≠bu)->z<E.next->F.get z=E.get z:=λ z h hz=>fF z (λ e=>xL λ hy=>h (λ h0=>hy (hxu.2 h0)) e) hz
 have h2F:=h2E.same (by omega) (hfz bw (λ h=>Ca hxu Vw (by decide) h) (by omega));obtain⟨G,sG,h2G,nG,fG⟩:=h2F.field (tb:=O) (t:=184) (j:=0) (v:=xn) Te hwuD (by omega) (aq.dQ hsF).1 (aq.dQ hsF).2;rw[eo]at sG;have bd:=My (a:=o.by'.toNat) (o:=ew o) (n:=((eP M (du o)).2:Int));have bz:=MQ (a:=o.by'.toNat) (o:=ew o) (n:=((eP M (du o)).2:Int));have sx:dD 100 xu xu=ae:=by
  rcases hxu.1 with⟨rfl,-⟩|⟨_,_,rfl,-⟩
  .rfl
  .exact AP _ _ _ _
 have sy:=pE .u8 o.by'.toNat rfl;have ra:(E.alloc (af 246 (bP ⟨o.by',ew o,(eP M (du o)).2⟩)))=E.alloc (af 246 [.int .u8 (o.by'.toNat:Nat),.int .u64 (ew o:Nat),.int .i64 (((eP M (du o)).2:Nat):Int)]):=rfl;rw[ra]at happ;apply W.cC (g3) 20
 .intro M hM;simp(config:={maxSteps:=4000000})(disch:=first|decide+kernel|omega|simp only[Wq,aa])only[j5,wo,uk,Aq,av,reduceIte,aa,ak,g0,bA,br,Jl,uH,Y0,eT,r1,r2,r3,hg3,bd,bz,happ,sG,r1E,r2E,sx,sy,Fq,bQ [(5,14),(7,14)]];rfl
 have fEG:∀z,z<E.next->z≠bw->(u.arcs≠ []->z≠bu)->G.get z=E.get z:=λ z hz h1 h2=>by rw[fG z h1,hfz z h2 hz]
 obtain⟨q1,⟨q2,q3⟩,q4,q5,q6⟩:=hRE;have VwE:VB E 188 bw kw Qw:=⟨by omega,hVw.same (by rw[fE bw (by omega) hwp (Vw.dP m2) λ hr=>aq.iA m3 Vw (by decide) hr,fD bw hwp,fAC bw n6 hwb])⟩;have hu0:u.arcs≠ []->u.arcs.map bP≠ []:=λ h e=>h (gu.1 e)
 have toG:∀{l:List cr} {bx:Nat} {x:I},lu E bx l x->bx≠bu->lu G bx l x:=λ {l bx x} h hne=>h.same (by omega) λ h0 hb=>fEG bx hb (Ne.symm (aq.iA h.1 VwE (by decide) h0)) λ _=>hne
 have hnot:∀z,z<A.next->(z∈bs->z=bo)->z∉bs.take (Z os)++[E.next+1]:=λ z hz h hm=>by
  rcases mw.1 hm with h1|h1
  .have:=h (zw h1);obtain⟨i,hi,e⟩:=oU h1;rw[df]at hi;rw[BB]at e;exact(hot i z (by omega) (by rw[aZ (by omega),e])).2 this
  .have:=dX.1 h1;omega
 have old:∀(i:Nat) (s:aw),M[i]?=U s->∃x bx,rows[i]?=U (aS x s)/\lu G bx s.arcs x/\bx∉bs.take (Z os)++[E.next+1]/\bx<G.next:=λ i s hs=>by
  obtain⟨x0,bx,e1,e2,e3,e4⟩:=h4 i s hs;exact⟨x0,bx,e1,toG (fAE e2 λ e=>e3 (e▸hob)) λ e=>e3 (e▸hubm),hnot bx e4 λ h=>aU h e3,by omega⟩
 refine⟨rfl,_,G,b',bs.take (Z os)++[E.next+1],rfl,?_,⟨y',w',rows',_,⟨⟨by omega,q1.2.same (fEG p q1.1 (Ne.symm hwp) λ h=>aq.iA hxu.1 hp (by decide) (hu0 h))⟩,⟨by omega,by rw[fEG mk q2 (Ne.symm (Vw.dP m2)) λ h=>aq.dP hxu.1 m2 (hu0 h)];exact q3⟩,aq.jb q4 q6 (by omega) λ hr hb=>fEG b' hb (Ne.symm (aq.iA q4 VwE (by decide) hr)) λ h=>y5 q4 hxuE.1 hr (hu0 h) (by decide),q5,q6⟩,h2G,⟨?_,?_,?_⟩,λ i s hs=>?_,λ i o' bx hi hb=>?_,⟨n1,n2,?_,n4⟩,λ z hz=>?_,⟨?_,by omega⟩,λ z hz=>by have:=n8 z hz;omega⟩,by omega,λ z hz=>?_⟩
 .simp only[Sq,aa,ak,g0,g1]
 .rw[dS,df,aY];show _=Z os+1;omega
 .rw[aY,aY,df,fb,fb];omega
 .rw[tX];exact⟨(List.take_sublist _ _).nodup h3c,by simp,λ a ha c hc e=>by
   have:=hblt a (zw ha);have:=dX.1 hc;omega⟩
 .rcases hcase with⟨rfl,hM'⟩|⟨rfl,hM'⟩
  .rw[hM']at hs;exact old i s hs
  .rw[hM']at hs;rcases ec i (Z M)with hi|hi
   .rw[fe hi]at hs;obtain⟨x0,bx,e1,e2⟩:=old i s hs;exact⟨x0,bx,by rw[fe (bU.1 e1).1];exact e1,e2⟩
   .rw[eV hi]at hs;obtain⟨e,rfl⟩:i=Z M/\du o=s:=by
     cases hq:i-Z M with
     |zero=>rw[hq]at hs;exact⟨by omega,by simpa using hs⟩
     |succ n=>rw[hq]at hs;simp at hs
    refine⟨x,bo,by rw[eV (by rw[m4,bc];exact hi),m4,bc,e,iQ];rfl,toG (hxD.same nE λ h hb=>fE bo hb (Ne.symm (aq.iA hxD.1 (⟨by omega,vD⟩:VB D 182 p (.var 3) _) (by decide) h)) ?_ λ hr=>?_) (Ne.symm hub),hnot bo hbx λ _=>rfl,by omega⟩
    .exact Ne.symm (aq.dP hx.1 m2 λ e=>h (by simpa[du]using e))
    .exact y5 hx.1 m3 (λ e=>h (by simpa[du]using e)) hr (by decide)
 .rcases ec i (Z os)with hi2|hi2
  .rw[fe hi2]at hi;rw[fe (by rw[df];omega),pM,aA hi2]at hb;obtain⟨x0,e1,e2,e3⟩:=h5 i o' bx (by rw[fe hi2];exact hi) hb;obtain⟨d1,d2⟩:=hot i bx hi2 hb;exact⟨x0,by rw[pL,ax (by omega),pM,aA (by omega)];exact e1,toG (fAE e2 d2) d1,by omega⟩
  .rw[eV hi2]at hi;rw[eV (by rw[df];omega),df,nf (by omega)]at hb;cases hq:i-Z os with
   |succ n=>rw[hq]at hi;simp at hi
   |zero=>
    rw[hq]at hi hb;cases hi;cases hb;refine⟨xn,by rw[show i=Z os by omega,pL,aA rfl,aA (by rw[df];omega)];rfl,⟨hsF.same (by omega) λ _=>fG _ (by omega),λ e=>by simp at e⟩,by omega⟩
 .rcases hb' with rfl|h
  .exact n3
  .exact λ hx=>by have:=n8 _ hx;omega
 .rcases mw.1 hz with h1|h1
  .exact n5 z (zw h1)
  .exact λ hx=>by have:=n8 _ hx;have:=dX.1 h1;omega
 .rcases hb' with rfl|h<;>omega
 .have hzA:=n8 z hz;have ne:∀q,¬X q->z≠q:=λ q hq e=>hq (e▸hz)
  rw[fEG z (by omega) (ne _ n4) λ _=>ne _ (n5 _ hubm),fE z (by omega) (ne _ n1) (ne _ n2) λ _=>ne _ n3,fAD z (by omega) (ne _ n1) λ _=>ne _ (n5 _ hob)]
def ou(k m:Nat)(S:nw):Prop:=S.2.1.arcs.length<=k/\(∀u∈S.2.2,Z u.arcs<k)/\S.1.length+S.2.2.length<=m/\(∀s∈S.1,Fit s/\Z s.arcs<=k)/\(xN S.2.1/\∀u∈S.2.2,xN u)/\(k≠0->S.2.1.fin=ae\/S.2.1.arcs≠ [])
def QI(M:List aw)(s:aw):Z M<=(eP M s).1.length/\(eP M s).1.length<=Z M+1/\(eP M s).2<=Z M/\∀u∈(eP M s).1,u∈M\/u=s:=by
 unfold eP;cases h:M.findIdx? (λ x=>decide (x=s))with
 |none=>exact⟨by simp,by simp,aI _,λ u hu=>by simpa using hu⟩
 |some i=>exact⟨aI _,Nat.le_succ _,BG (DZ.1 h).1,λ u hu=>.inl hu⟩
def qa4{o:dI}(h0:o.fin=ae\/o.arcs≠ [])(h:xN o):ew o<18446744073709551616:=by
 obtain⟨h1,h2⟩:=PZ h0;rcases h0 with h3|h3
 .exact mz (h2 h3) h.1
 .obtain⟨a,ha⟩:=Bw _ h3;exact mz (h1 a ha) (h.2 a ha).1
variable {k:Nat}
def PG{o u:dI}{w:List dI}(hT:m<1000)(h:ou k m (M,o,u::w)):ou k m ((eP M (du o)).1,⟨u.fin,u.out,u.arcs++[⟨o.by',ew o,(eP M (du o)).2⟩],u.by'⟩,w):=by
 obtain⟨h1,h2,h3,h4,⟨h5,h6⟩,h7⟩:=h;obtain⟨n1,n2,n3,n4⟩:=QI M (du o);have hu:=h2 u cJ;have hfu:=h6 u cJ;simp only[cD]at h3;refine⟨by simp only[aY,cD,eB];omega,λ v hv=>h2 v (cV _ hv),by simp only[];omega,λ s hs=>?_,⟨⟨hfu.1,λ a ha=>?_⟩,λ v hv=>h6 v (cV _ hv)⟩,λ _=>.inr (by simp)⟩
 .rcases n4 s hs with h|rfl
  .exact h4 s h
  .exact⟨Jw h5,by simpa[du]using h1⟩
 .rcases mw.1 ha with h|h
  .exact hfu.2 a h
  .rw[dX.1 h];exact⟨qa4 (h7 (by omega)) h5,by simp only[];omega⟩
theorem PH{k m:Nat}{M:List aw}:∀(bs:List UInt8) (o:dI) (w:List dI),Z o.arcs<=k->(∀u∈w,Z u.arcs<k+1)->(xN o/\∀u∈w,xN u)->Z M+Z w<=m->(∀s∈M,Fit s/\Z s.arcs<=k)->∀v,v<18446744073709551616->
 ou (k+1) (m+Z bs) (wI v M (k_ bs o w))/\(k_ bs o w).2.length=Z w+Z bs
 | [],o,w,h1,h2,h3,h4,h5,v,hv=>⟨⟨Nat.le_succ_of_le h1,h2,h4,λ s hs=>⟨(h5 s hs).1,Nat.le_succ_of_le (h5 s hs).2⟩,⟨⟨hv,h3.1.2⟩,h3.2⟩,λ _=>.inl rfl⟩,rfl⟩
 |b::bs,o,w,h1,h2,h3,h4,h5,v,hv=>by
  obtain⟨q1,q2⟩:=PH (k:=k) (m:=m+1) (M:=M) bs ⟨ag,0,[],b⟩ (o::w) (a8 _) (λ u hu=>by
   rcases cG.1 hu with rfl|hu
   .exact Nat.lt_succ_of_le h1
   .exact h2 u hu) ⟨⟨by show 0<18446744073709551616;omega,λ a ha=>by cases ha⟩,λ u hu=>by
   rcases cG.1 hu with rfl|hu
   .exact h3.1
   .exact h3.2 u hu⟩ (by simp only[cD];omega) h5 v hv
  refine⟨?_,by rw[k_,q2];simp only[cD];omega⟩;rw[k_,cD,show m+(Z bs+1)=m+1+Z bs by omega];exact q1
theorem CW(hT:m<1000):∀(w:List dI) (M:List aw) (o:dI),ou k m (M,o,w)->ou k m (jI d M o w)/\(jI d M o w).2.2.length=min d (Z w)
 | [],M,o,h=>⟨h,by simp[jI]⟩
 |u::w,M,o,h=>by
  rw[jI];split
  .obtain⟨h1,h2⟩:=CW hT w _ _ (PG hT h);exact⟨h1,by rw[h2,cD];omega⟩
  .exact⟨h,by rw[cD];omega⟩
variable {e:aK}
def PF{S:nw}{z:List UInt8}(hT:m<1000)(h:ou k m S)(hv:val e<18446744073709551616):ou (k+1) (m+Z e.word) (qD z e S):=by
 obtain⟨M,o,w⟩:=S;obtain⟨⟨h1,h2,h3,h4,h5,-⟩,-⟩:=CW (d:=share z e.word) hT w M o h;have:=(PH (k:=k) (m:=m) (e.word.drop (share z e.word)) _ _ h1 (λ u hu=>Nat.lt_succ_of_lt (h2 u hu)) h5 h3 h4 (val e) hv).1;obtain⟨a,b,c,d⟩:=this;exact⟨a,b,dm c (by rw[vu];omega),d⟩
def X6{X:Nat->Prop}(hk:k<=256)(hT:m<1000){K:Ex->St->Prop}:∀(ws:List dI) {A:Mem} {M:List aw} {o:dI} {b bw:Nat} {bs:List Nat} {t:T I},gI A X p mk M (o::ws).reverse b bw bs->ou k m (M,o,ws)->Sl t [(0,pV p),(1,.int .i64 d)]->
 (∀t' A' b' bs',gI A' X p mk (jI d M o ws).1 ((jI d M o ws).2.1::(jI d M o ws).2.2).reverse b' bw bs'->A.next<=A'.next->(∀z,X z->A'.get z=A.get z)->K (.exit 0) ⟨t',67,[],A',V⟩)->d<1000000->W O (.loop j5) ⟨t,67,[],A,V⟩ K:=by
 have stop:∀(ws:List dI) {A:Mem} {M:List aw} {o:dI} {b bw:Nat} {bs:List Nat} {t:T I},gI A X p mk M (o::ws).reverse b bw bs->Z ws<=d->Z ws<1000->Sl t [(0,pV p),(1,.int .i64 d)]->d<1000000->(∀t',K (.exit 0) ⟨t',67,[],A,V⟩)->W O (.loop j5) ⟨t,67,[],A,V⟩ K:=by
  rintro ws A M o b bw bs t h hd hW ⟨g0,g1,-⟩ hd1 hk;obtain⟨y,w,rows,rs,h1,h2,⟨h3,-,-⟩,-⟩:=h;have lw:aj O A.get 180 (.pointer (U ⟨p,0+2,V⟩))=.ok w:=h1.1.ld rfl mY rfl;have len:=h2.len (tb:=O) (st:=180) mY;rw[h3,xQ,cD]at len;have a1:a_ .add .i64 ((d:Nat):Int) ((1:Nat):Int)=.ok (.int .i64 (d+1:Nat)):=e_ (ct (by omega));have hgt:¬d+1<Z ws+1:=by omega
  apply W.round;rw[M0];apply W.seq;apply W.seq;simp only[pV]at g0;apply W.run 20
  .intro M;simp(disch:=first|decide+kernel|omega)only[j5,wo,uk,Aq,aa,g0,g1,bA,br,yL,lw,len,a1,dM,dK,hgt];rfl
  apply W.run 20
  .intro M;simp(disch:=first|decide+kernel|omega)only[j5,wo,uk,Aq,aa];rfl
  exact hk _
 intro ws
 induction ws with
 |nil=>
  intro A M o b bw bs t h hi g hK hd;exact stop [] h (a8 _) (by simp) g hd λ t'=>hK t' A b bs h (aI _) λ _ _=>rfl
 |cons u w ih=>
  intro A M o b bw bs t h hi g hK hd;obtain⟨i1,i2,i3,i4,⟨i5,i6⟩,i7⟩:=id hi;simp only[cD]at i3;by_cases hc:d<=Z w
  .apply W.round;rw[show(o::u::w).reverse=w.reverse++[u,o] by simp]at h;refine(X7 h (by rw[xQ];exact hc) (by rw[xQ];omega) (i7 (by have:=i2 u cJ;omega)) (dm i1 hk) (by have:=i2 u cJ;omega) i5 (λ s hs=>(i4 s hs).1) (by omega) g).mono ?_;rintro e s' ⟨rfl,t',A',b',bs',rfl,g',h',n',f'⟩;refine ih (by rw[Ea];exact h') (PG hT hi) g' (λ t2 A2 b2 yr q1 q2 q3=>?_) hd;rw[jI,aA hc]at hK;exact hK t2 A2 b2 yr q1 (dm n' q2) λ z hz=>by rw[q3 z hz,f' z hz]
  .rw[jI,ax hc]at hK;exact stop (u::w) h (by rw[cD];omega) (by rw[cD];omega) g hd λ t'=>hK t' A b bs h (aI _) λ _ _=>rfl
def Sh{X:Nat->Prop}{S:nw}{bs:List Nat}(h:gI A X p mk S.1 (S.2.1::S.2.2).reverse b bw bs)(hi:ou k m S)(hk:k<=256)(hT:m<1000)(hd:d<1000000):
 ∃v A',az O 117 [pV p,.int .i64 d] A v A'/\v=cQ/\(∃b' bs',gI A' X p mk (im d S).1 ((im d S).2.1::(im d S).2.2).reverse b' bw bs')/\A.next<=A'.next/\∀z,X z->A'.get z=A.get z:=by
 refine cZ (aD Tryz.func117) WO (by kernel_rfl) ?_;apply W.block;refine X6 hk hT S.2.2 h hi ?_ (λ t' A' b' bs' q1 q2 q3=>?_) hd
 .simp only[Sq,aa,ak]
 .exact⟨by simp,rfl,_,(by simp only[uk,Aq,aa]<;>rfl),rfl,⟨b',bs',q1⟩,q2,q3⟩
theorem S9:∀(x y:List UInt8) (i:Nat),i<share x y->∃c,x[i]?=U c/\y[i]?=U c
 |a::x,b::y,i,h=>by
  unfold share at h;split at h
  .rename_i e;subst e;cases i with
   |zero=>exact⟨a,rfl,rfl⟩
   |succ i=>exact S9 x y i (by omega)
  .omega
 | [],_,i,h=>by unfold share at h;omega
 |_::_,[],i,h=>by unfold share at h;omega
theorem S_:∀(x y:List UInt8),share x y<=Z x/\share x y<=Z y/\∀a b,x[share x y]?=U a->y[share x y]?=U b->a≠b
 |a::x,b::y=>by
  unfold share;split
  .obtain⟨h1,h2,h3⟩:=S_ x y;exact⟨by simp only[cD];omega,by simp only[cD];omega,λ c d hc hd=>h3 c d (by simpa using hc) (by simpa using hd)⟩
  .exact⟨a8 _,a8 _,λ c d hc hd=>by cases hc;cases hd;assumption⟩
 | [],y=>⟨aI _,a8 _,λ c d hc _=>by simp[share]at hc⟩
 |a::x,[]=>⟨a8 _,aI _,λ c d _ hd=>by simp[share]at hd⟩
def qfU(he:e.weight<4294967296):az O 173 [.agg ⟨aX e⟩] A (.int .u64 (val e:Nat)) (A.alloc (af 61 (aX e))):=by
 have hv:=aQ A 61 (aX e);have l1:aj O (A.alloc (af 61 (aX e))).get 59 (.pointer (U ⟨A.next,1,V⟩))=.ok (.int .u32 e.weight):=hv.ld rfl Bc rfl;have l2:aj O (A.alloc (af 61 (aX e))).get 4 (.pointer (U ⟨A.next,2,V⟩))=.ok (.bool e.gone):=hv.ld rfl u4 rfl;have c1:=eX (k:=.u32) (n:=e.weight) (by rw[Bc];rfl) dH (fM (by omega));unfold val;cases hg:e.gone with
 |true=>
  rw[hg]at l2;refine cq 60 (aD Tryz.func173) (by kernel_rfl) λ M=>?_
  simp(disch:=omega)only[Tryz.f173,Aq,aa,a7,Ov,l2]<;>rfl
 |false=>
  rw[hg]at l2;refine cq 60 (aD Tryz.func173) (by kernel_rfl) λ M=>?_
  simp(disch:=first|decide+kernel|omega)only[Tryz.f173,Aq,aa,a7,Y8,Ov,l1,l2,c1,Rc]<;>rfl
def qhT:∃i,O.ty.get 188=U i/\0<i.bytes/\i.bytes<=65536:=by
 have h:(O.ty.get 188).map (λ i=>aO 0 i.bytes&&av i.bytes 65536)=U ae:=by kernel_rfl
 cases hq:O.ty.get 188 with
 |none=>rw[hq]at h;cases h
 |some i=>
  rw[hq]at h;simp only[gX,fg,dW,bZ]at h;exact⟨i,rfl,h.1,gK h.2⟩
def qiK:fu O 188=.ok (4,[.slice V 0 0,.bool ag,uN 0,bN 0]):=by kernel_rfl
def tN(b:UInt8):dI:=⟨ag,0,[],b⟩
def VX{b:UInt8}:eu O 188 [(1,bN b.toNat)]=.ok (.agg ⟨dy (.slice V 0 0) (tN b)⟩):=by kernel_rfl
def We{b:UInt8}:eO O 180 1 [(0,.agg ⟨dy (.slice V 0 0) (tN b)⟩)]=.ok (af 188 (dy (.slice V 0 0) (tN b)),.dZ 1 2):=by kernel_rfl
def qgC:bk O 180=.ok 1:=by kernel_rfl
def VW{X:Nat->Prop}{bs:List Nat}(c:UInt8)(h:gI A X p mk M os b bw bs)(hl:Z os<100000):
 ∃w w' B C,aj O A.get 180 (.pointer (U ⟨p,0+2,V⟩))=.ok w/\dJ O (A.alloc (af 188 (dy (.slice V 0 0) (tN c)))) 180 180 w (.slice (U ⟨A.next,0,V⟩) 1 2)=.ok (w',B)/\
  cm O B 180 (.pointer (U ⟨p,0+2,V⟩)) w'=.ok C/\(∃bw',gI C X p mk M (os++[tN c]) b bw' (bs++[A.next]))/\A.next<=C.next/\∀z,X z->C.get z=A.get z:=by
 obtain⟨y,w,rows,ws,⟨h1,⟨m1,m2⟩,m3,m4,m5⟩,h2,⟨h3,h3b,h3c⟩,h4,h5,⟨n1,n2,n3,n4⟩,n5,⟨n7,n6⟩,n8⟩:=h;have kB:=Kp.alloc A (af 188 (dy (.slice V 0 0) (tN c)));have nB:=aG A (af 188 (dy (.slice V 0 0) (tN c)));obtain⟨ti,t1,t2,t3⟩:=qhT;obtain⟨w',B,bw',e1,e2,e3,e4,e5⟩:=(h2.same kB.1 (kB.2 bw n6)).push mY qiK t1 t2 t3 (by omega) (by omega) (de A _) rfl (by simp[dy,bS]) (by omega) (by omega);rw[nB]at e3 e4 e5;have hp:=h1.1;have fB:∀z,z<A.next->z≠bw->B.get z=A.get z:=λ z hz hw=>by rw[e5 z hw (by omega),kB.2 z hz]
 have hbw:∀(e:au) (z:Nat) (k:Kd) (l:List I),VB A e z k l->e≠188->z≠bw:=λ e z k l hz he=>by
  rintro rfl;obtain⟨_,_,_,rfl,-,⟨_,q,-⟩,-⟩:=h2;obtain⟨_,q2,-⟩:=hz.2;rw[q]at q2;injection q2 with q2;injection q2 with q2;exact he q2.symm
 have hmw:mk≠bw:=by
  rintro rfl;obtain⟨_,_,_,rfl,-,⟨_,q,-⟩,-⟩:=h2;rw[q]at m2;cases m2
 have one:w'.cells.toList=[w']/\bS w'=ae:=by
  obtain⟨_,_,_,rfl,-⟩:=e2;exact⟨rfl,rfl⟩
 obtain⟨C,sC,vC,nC,fC⟩:=db (o:=0+2) qgC (h1.2.same (fB p hp (hbw _ _ _ _ h1 (by decide)))) (by simp) one.1 one.2;have hbp:bw'≠p:=by
  rcases e3 with rfl|rfl
  .exact Ne.symm (hbw _ _ _ _ h1 (by decide))
  .omega
 have toC:∀{l:List cr} {bx:Nat} {x:I},lu A bx l x->lu C bx l x:=λ {l bx x} hx=>hx.same (by omega) λ h0 hb=>by
  rcases hx.1 with⟨-,hh⟩|⟨k,_,-,h6,h7,-⟩
  .exact aU hh h0
  .have qi7:VB A 246 bx k _:=⟨h6,h7⟩;rw[fC bx (qi7.ne h1 (by decide)),fB bx hb (hbw _ _ _ _ qi7 (by decide))]
 refine⟨w,w',B,C,h1.ld rfl mY rfl,e1,sC,⟨bw',y,w',rows,_,⟨⟨by omega,vC⟩,⟨by omega,by rw[fC mk (Ne.symm (h1.dP m2)),fB mk m1 hmw];exact m2⟩,aq.jb m3 m5 (by omega) λ hr hb=>?_,m4,m5⟩,e2.same (by omega) (fC bw' hbp),⟨by rw[aY,aY,h3];rfl,by rw[aY,aY,h3b];rfl,?_⟩,λ i s hs=>?_,λ i o bx hi hb=>?_,⟨n1,n2,n3,by
  rcases e3 with rfl|rfl
  .exact n4
  .exact λ hx=>by have:=n8 _ hx;omega⟩,λ z hz=>?_,⟨by omega,?_⟩,λ z hz=>by have:=n8 z hz;omega⟩,by omega,λ z hz=>by rw[fC z (λ e=>n1 (e▸hz)),fB z (n8 z hz) λ e=>n4 (e▸hz)]⟩
 .rcases m3 with⟨-,hh⟩|⟨k,_,-,h6,h7,-⟩
  .exact aU hh hr
  .have qi7:VB A 186 b k _:=⟨h6,h7⟩;rw[fC b (qi7.ne h1 (by decide)),fB b hb (hbw _ _ _ _ qi7 (by decide))]
 .rw[tX];refine⟨h3c,by simp,λ z hz q hq e=>?_⟩;obtain⟨i,hi,rfl⟩:=oU hz;obtain⟨_,-,-,hlt⟩:=h5 i _ _ (aZ (by omega)) (aZ hi);have:=dX.1 hq;omega
 .obtain⟨x,bx,q1,q2,q3,q4⟩:=h4 i s hs;exact⟨x,bx,q1,toC q2,λ hm=>by
   rcases mw.1 hm with hm|hm
   .exact q3 hm
   .have:=dX.1 hm;omega,by omega⟩
 .rcases ec i (Z os)with hi2|hi2
  .rw[fe hi2]at hi;rw[fe (by omega)]at hb;obtain⟨x,q1,q2,q3⟩:=h5 i o bx hi hb;exact⟨x,by rw[fe (by omega)];exact q1,toC q2,by omega⟩
  .rw[eV hi2]at hi;rw[eV (by omega),h3b]at hb;cases hq:i-Z os with
   |succ n=>rw[hq]at hi;simp at hi
   |zero=>
    rw[hq]at hi hb;cases hi;cases hb;exact⟨.slice V 0 0,by rw[eV (by omega),h3,hq];rfl,⟨aq.nil _ _ _ _,λ _=>rfl⟩,by omega⟩
 .rcases mw.1 hz with hz|hz
  .exact n5 z hz
  .exact λ hx=>by have:=n8 _ hx;have:=dX.1 hz;omega
 .obtain⟨_,_,_,-,h,-⟩:=e2;omega
def VV{X:Nat->Prop}{o:dI}{bs:List Nat}(v:Nat)(h:gI A X p mk M (os++[o]) b bw bs)(hl:Z os<100000):
 ∃B C,cm O A 4 (pw bw (Z os*4+1)) (.bool ae)=.ok B/\cm O B 113 (pw bw (Z os*4+2)) (.int .u64 v)=.ok C/\gI C X p mk M (os++[⟨ae,v,o.arcs,o.by'⟩]) b bw bs/\C.next=A.next/\∀z,X z->C.get z=A.get z:=by
 obtain⟨y,w,rows,ws,⟨h1,⟨m1,m2⟩,m3,m4,m5⟩,h2,⟨h3,h3b,h3c⟩,h4,h5,⟨n1,n2,n3,n4⟩,n5,⟨n7,n6⟩,n8⟩:=h;rw[aY,fb]at h3 h3b;obtain⟨x,hwx,hx,-⟩:=h5 (Z os) o _ (by rw[eV (aI _),iQ];rfl) (aZ (by omega));obtain⟨_,kw,Qw,hVw,-⟩:=h2.row hwx;have Vw:VB A 188 bw kw Qw:=⟨n6,hVw⟩;obtain⟨B,s1,hB,nB,fB⟩:=h2.field (j:=1) (v:=.bool ae) (by kernel_rfl) hwx (by omega) rfl rfl;obtain⟨C,s2,hC,nC,fC⟩:=hB.field (j:=2) (v:=.int .u64 v) (by kernel_rfl) (by rw[pL,aA rfl,aA (by omega)]) (by omega) rfl rfl;rw[List.set_set]at hC;have fAC:∀z,z≠bw->C.get z=A.get z:=λ z hz=>by rw[fC z hz,fB z hz]
 have toC:∀{l:List cr} {bx:Nat} {x:I},lu A bx l x->lu C bx l x:=λ {l bx x} hx=>hx.same (by omega) λ h0 _=>fAC bx (Ne.symm (aq.iA hx.1 Vw (by decide) h0))
 refine⟨B,C,s1,s2,⟨y,w,rows,_,⟨⟨by have:=h1.1;omega,h1.2.same (fAC p (h1.ne Vw (by decide)))⟩,⟨by omega,by rw[fAC mk (Ne.symm (Vw.dP m2))];exact m2⟩,aq.jb m3 m5 (by omega) λ hr _=>fAC b (Ne.symm (aq.iA m3 Vw (by decide) hr)),m4,m5⟩,hC,⟨by rw[dS,h3,aY];rfl,by rw[h3b,aY];rfl,h3c⟩,λ i s hs=>?_,λ i o' bx hi hb=>?_,⟨n1,n2,n3,n4⟩,n5,⟨by omega,by omega⟩,λ z hz=>by have:=n8 z hz;omega⟩,by omega,λ z hz=>fAC z λ e=>n4 (e▸hz)⟩
 .obtain⟨x,bx,q1,q2,q3,q4⟩:=h4 i s hs;exact⟨x,bx,q1,toC q2,q3,by omega⟩
 .rcases ec i (Z os)with hi2|hi2
  .rw[fe hi2]at hi;obtain⟨x,q1,q2,q3⟩:=h5 i o' bx (by rw[fe hi2];exact hi) hb;exact⟨x,by rw[pL,ax (by omega)];exact q1,toC q2,by omega⟩
  .have e:i=Z os:=by
    have:=(bU.1 hi).1;rw[aY,fb]at this;omega
   subst e;rw[eV (aI _),iQ]at hi;cases hi;obtain⟨x2,q1,q2,q3⟩:=h5 (Z os) o bx (by rw[eV (aI _),iQ];rfl) hb;rw[hwx]at q1;obtain rfl:x=x2:=by simpa[dy]using q1
   exact⟨x,by rw[pL,aA rfl,aA (by omega)];rfl,toC q2,by omega⟩
theorem Kz:∀(bs:List UInt8) (o:dI) (w:List dI),((k_ bs o w).1::(k_ bs o w).2).reverse=(o::w).reverse++bs.map tN
 | [],o,w=>by simp[k_]
 |b::bs,o,w=>by
  rw[k_,Kz bs];simp[tN]
def kM:=cu pO
def ux:aH:=sub kM [1,1,0,0,0]
def Ij:aH:=sub kM [1,1,1,1,0,1,0,0]
def WH:pO.body=U (.seq (sub kM [0]) (.seq (sub kM [1,0]) (.seq (.block 0 (.loop ux)) (.seq (sub kM [1,1,1,0]) (.seq (.seq (sub kM [1,1,1,1,0,0]) (.block 2 (.loop Ij))) (.seq (sub kM [1,1,1,1,1,0]) (sub kM [1,1,1,1,1,1]))))))):=by kernel_rfl
def qdA{X:Nat->Prop}{S:nw}{bs:List Nat}{z:List UInt8}(h:gI A X p mk S.1 (S.2.1::S.2.2).reverse b bw bs)(hi:ou k m S)(hk:k<=256)(hm:m+Z e.word<1000)(hz:Z z<1000)(he:e.weight<4294967296):
 ∃v A',az O 116 [pV p,ai z,.agg ⟨aX e⟩] A v A'/\v=cQ/\(∃b' bw' bs',gI A' X p mk (qD z e S).1 ((qD z e S).2.1::(qD z e S).2.2).reverse b' bw' bs')/\A.next<=A'.next/\∀z,X z->A'.get z=A.get z:=by
 refine cZ (aD Tryz.func116) WH (by kernel_rfl) ?_;have kB:=Kp.alloc A (af 61 (aX e));have vB:=aQ A 61 (aX e);have nB:=aG A (af 61 (aX e));have hX:∀z,X z->z<A.next:=by obtain⟨_,_,_,_,-,-,-,-,-,-,-,-,h⟩:=h;exact h
 apply W.q
 .intro M;simp(disch:=first|decide+kernel|omega)only[kM,pO,Aq,aa,a7];rfl
 generalize A.alloc (af 61 (aX e))=B at kB vB nB;have hB:=h.more kB (aI _) (by omega);have lw:=λ(D:Mem) (hD:VB D 61 A.next (.var 3) (aX e))=>VB.ld (tb:=O) (t:=9) (o:=0) hD rfl u9 rfl
 have lwB:=lw B vB;have hlz:=gB (tb:=O) (t:=9) (l:=z) u9;have hlw:=gB (tb:=O) (t:=9) (l:=e.word) u9;obtain⟨e1,e2,e3⟩:=S_ z e.word;have hws:Z e.word<1000:=by omega
 apply W.q
 .intro M;simp(disch:=first|decide+kernel|omega)only[kM,pO,Aq,aa];rfl
 apply W.seq;apply W.block;refine W.up (share z e.word) (λ i t D=>D=B/\Sl t [(0,pV p),(1,ai z),(5,pV A.next),(6,.int .i64 i)]) ?_ (a8 _) ⟨rfl,?_⟩
 .rintro i t D hi2 ⟨rfl,g0,g1,g5,g6,-⟩;simp only[pV]at g5;by_cases hlt:i<share z e.word
  .obtain⟨c,hc1,hc2⟩:=S9 z e.word i hlt;have l1:i<Z z:=by omega
   have l2:i<Z e.word:=by omega
   have i1:=mO (tb:=O) (t:=9) (kd:=.i64) u9 l1;have i2:=mO (tb:=O) (t:=9) (kd:=.i64) u9 l2;rw[m_,hc1]at i1;rw[m_,hc2]at i2;apply W.run 20
   .intro M;simp(config:={maxSteps:=4000000})(disch:=first|decide+kernel|omega|simp only[Wq,aa])only[ux,kM,pO,Aq,av,reduceIte,aa,ak,g1,g5,g6,hlz,l1,mJ,lwB,hlw,l2,i1,i2,Fq,bQ []];rfl
   refine⟨hlt,_,_,rfl,rfl,?_⟩;simp only[Sq,aa,ak,g0,g1,g5,pV]
  .have e0:i=share z e.word:=by omega
   subst e0;have fin:W O (sub ux [0]) ⟨t,78,[],D,V⟩ λ ex s=>∃t',ex=.exit 0/\s=⟨t',78,[],D,V⟩/\Sl t' [(0,pV p),(1,ai z),(5,pV A.next),(6,iN (share z e.word))]:=by
    by_cases l1:share z e.word<Z z
    .have i1:=mO (tb:=O) (t:=9) (kd:=.i64) u9 l1;by_cases l2:share z e.word<Z e.word
     .have i2:=mO (tb:=O) (t:=9) (kd:=.i64) u9 l2;have hne:¬((z.getD (share z e.word) 0).toNat=(e.word.getD (share z e.word) 0).toNat):=λ h=>e3 _ _ (aZ l1) (aZ l2) (by
       rw[m_,m_,aZ l1,aZ l2]at h;exact td.1 h)
      apply W.run 20
      .intro M;simp(config:={maxSteps:=4000000})(disch:=first|decide+kernel|omega|simp only[Wq,aa])only[ux,kM,pO,Aq,av,reduceIte,aa,ak,g1,g5,g6,hlz,l1,mJ,lwB,hlw,l2,i1,i2,hne,Fq,bQ []];rfl
      refine⟨_,rfl,rfl,?_⟩;simp only[Sq,aa,ak,g0,g1,g5,g6,pV]
     .apply W.run 20
      .intro M;simp(config:={maxSteps:=4000000})(disch:=first|decide+kernel|omega|simp only[Wq,aa])only[ux,kM,pO,Aq,av,reduceIte,aa,ak,g1,g5,g6,hlz,l1,mJ,lwB,hlw,l2,Fq,bQ []];rfl
      refine⟨_,rfl,rfl,?_⟩;simp only[Sq,aa,ak,g0,g1,g5,g6,pV]
    .apply W.run 20
     .intro M;simp(config:={maxSteps:=4000000})(disch:=first|decide+kernel|omega|simp only[Wq,aa])only[ux,kM,pO,Aq,av,reduceIte,aa,ak,g1,g5,g6,hlz,l1,mJ,lwB,hlw,Fq,bQ []];rfl
     refine⟨_,rfl,rfl,?_⟩;simp only[Sq,aa,ak,g0,g1,g5,g6,pV]
   rw[show ux=.seq (sub ux [0]) (sub ux [1]) by kernel_rfl];apply W.seq;refine fin.mono ?_;rintro _ _ ⟨t',rfl,rfl,g0,g1,g5,g6,-⟩;show W O _ _ _;obtain⟨iv,il⟩:=CW (d:=share z e.word) (by omega) S.2.2 S.1 S.2.1 hi;obtain⟨v,C,⟨g2,hg2⟩,rfl,⟨b1,wj,hC⟩,nC,fC⟩:=Sh (d:=share z e.word) hB hi hk (by omega) (by omega);have hvA:=vB.1;have hvC:VB C 61 A.next (.var 3) (aX e):=⟨by omega,vB.2.same (fC _ (.inr rfl))⟩
   have hadd:qD z e S=wI (val e) (im (share z e.word) S).1 (k_ (e.word.drop (share z e.word)) (im (share z e.word) S).2.1 (im (share z e.word) S).2.2):=rfl;rw[hadd];have il2:(im (share z e.word) S).2.2.length<=share z e.word:=by rw[show(im (share z e.word) S).2.2.length=_ from il];omega
   generalize im (share z e.word) S=S1 at hC il2;generalize hd:share z e.word=d at*;simp only[pV]at g0 g5 hg2;apply W.qG (g2)
   .intro M hM;simp(disch:=first|decide+kernel|omega)only[kM,pO,Aq,aa,g0,g6,hg2,cQ];rfl
   apply W.seq;apply W.q
   .intro M;simp(disch:=first|decide+kernel|omega)only[kM,pO,Aq,aa,g6];rfl
   apply W.block;have hdl:(e.word.drop d).length=Z e.word-d:=vu;refine W.up (e.word.drop d).length (λ j t E=>(∃bw bs,gI E (λ x=>X x\/x=A.next) p mk S1.1 ((S1.2.1::S1.2.2).reverse++((e.word.drop d).take j).map tN) b1 bw bs)/\(C.next<=E.next/\∀x,X x\/x=A.next->E.get x=C.get x)/\Sl t [(0,pV p),(5,pV A.next),(7,iN (d+j))]) ?_ (a8 _) ⟨⟨bw,wj,by rw[zz,sQ,jT];exact hC⟩,⟨aI _,λ _ _=>rfl⟩,?_⟩
   .rintro j t E hj ⟨⟨bw2,yr,hE⟩,⟨nE,fE⟩,g0,g5,g7,-⟩;simp only[pV]at g0 g5;have hvE:VB E 61 A.next (.var 3) (aX e):=⟨by have:=hvC.1;omega,hvC.2.same (fE _ (.inr rfl))⟩
    have lE:=lw E hvE;by_cases hlt:j<(e.word.drop d).length
    .have l2:d+j<Z e.word:=by omega
     have i2:=mO (tb:=O) (t:=9) (kd:=.i64) u9 l2;obtain⟨w,w',F,G,l1,ap,sG,⟨bw3,hG⟩,nG,fG⟩:=VW (e.word.getD (d+j) 0) hE (by
      rw[aY,xQ,cD,bc,df];omega)
     have a1:a_ .add .i64 ((d+j:Nat):Int) ((1:Nat):Int)=.ok (iN (d+(j+1))):=e_ (ct (by omega));have bo:=VX (b:=e.word.getD (d+j) 0);have bz:=We (b:=e.word.getD (d+j) 0);apply W.run 20
     .intro M;simp(config:={maxSteps:=4000000})(disch:=first|decide+kernel|omega|simp only[Wq,aa])only[Ij,kM,pO,Aq,av,reduceIte,aa,ak,g0,g5,g7,mJ,lE,hlw,l2,bA,br,yL,l1,i2,bo,bz,ap,sG,a1,Fq,bQ []];rfl
     refine⟨hlt,_,G,rfl,⟨bw3,yr++[E.next],?_⟩,⟨by omega,λ x hx=>by rw[fG x hx,fE x hx]⟩,?_⟩
     .have e1:(e.word.drop d)[j]=e.word.getD (d+j) 0:=by rw[List.getElem_drop,m_,aZ l2];rfl
      rw[d_ hlt,gg,e1,<-iC];exact hG
     .simp only[Sq,aa,ak,g0,g5,pV]
    .have e0:j=(e.word.drop d).length:=by omega
     subst e0;have l2:¬d+(e.word.drop d).length<Z e.word:=by omega
     apply W.run 20
     .intro M;simp(disch:=first|decide+kernel|omega)only[Ij,kM,pO,Aq,aa,g5,g7,mJ,lE,hlw,l2];rfl
     show W O _ _ _;rw[dU,<-Kz,Ea]at hE;have hq:=hE;obtain⟨y,w,rows,ws,⟨h1,-⟩,h2,⟨h3,-,-⟩,-⟩:=hE;have hln:(k_ (e.word.drop d) S1.2.1 S1.2.2).2.length<3000:=by
      have:=cX Z (Kz (e.word.drop d) S1.2.1 S1.2.2);simp only[xQ,cD,aY,bc]at this;omega
     rw[aY,xQ,fb]at h3;have l1:aj O E.get 180 (pw p (0+2))=.ok w:=h1.ld rfl mY rfl;have len:=h2.len (tb:=O) (st:=180) mY;have s1:a_ .sub .i64 ((Z ws:Nat):Int) ((1:Nat):Int)=.ok (iN ((k_ (e.word.drop d) S1.2.1 S1.2.2).2.length)):=by
      rw[eQ (by omega) (ct (by omega)),h3];rfl
     have j1:=h2.idx (tb:=O) (st:=180) (i:=(k_ (e.word.drop d) S1.2.1 S1.2.2).2.length) mY ve (by omega);obtain⟨d4,hd4,hd5⟩:=cF (t:=61) (p:=ae) (by kernel_rfl);have lA:aj O E.get 61 (pw A.next 0)=.ok (.agg ⟨aX e⟩):=cg hd4 hd5 (l:=aX e) oh hvE.2;obtain⟨g3,hg3⟩:=qfU (A:=E) he;have kF:=Kp.alloc E (af 61 (aX e));obtain⟨G,H,sG,sH,hH,nH,fH⟩:=VV (val e) (hq.kp kF) (by rw[xQ];omega);rw[xQ]at sG sH;generalize E.alloc (af 61 (aX e))=F at*;have hEA:=hX;apply W.cC (g3) 40
     .intro M hM;simp(config:={maxSteps:=4000000})(disch:=first|decide+kernel|omega|simp only[Wq,aa])only[kM,pO,Aq,av,reduceIte,aa,ak,g0,bA,br,yL,l1,len,s1,j1,Fq,bQ [],g5,lA,hg3,uH,fV,nT,sG,sH];rfl
     have n1:=kF.1;refine⟨by simp,rfl,_,(by simp only[pO,Aq,aa]<;>rfl),rfl,⟨b1,bw2,yr,?_⟩,?_,λ x hx=>?_⟩
     .show gI H X p mk S1.1 (_::_).reverse b1 bw2 yr;rw[Ea];exact hH.less λ _ h=>.inl h
     .show A.next<=H.next
      have:=kB.1;omega
     .show H.get x=A.get x;have:=hX x hx;have:=kB.1;rw[fH x (.inl hx),kF.2 x (by omega),fE x (.inl hx),fC x (.inl hx),kB.2 x (by omega)]
   .simp only[Sq,aa,ak,g0,g5,pV,eo]
 .simp only[Sq,aa,ak,pV]
def qib:O.aB 9=U .string:=mh
variable {w:List UInt8}
def qeD(h:1<=Z w/\Z w<=255):az O 220 [ai w] A (.bool ae) A:=by
 have hl:=gB (l:=w) qib;have h0:w≠ []:=λ e=>by rw[e]at h;simp at h
 have he:∀t:T I,ev t (.const (.string ⟨#[]⟩))=.ok (ai []):=λ _=>rfl
 have h2:=h.2;refine cq 60 (aD Tryz.func220) (by kernel_rfl) λ M=>?_
 simp(disch:=first|decide+kernel|omega|simp only[Wq,aa])only[Tryz.f220,Aq,av,reduceIte,aa,ak,hl,he,h0,tM,gA,h2]<;>rfl
def tq:=cu yg
def ID:aH:=sub tq [1,0,1,0,0]
def Xn:yg.body=U (.seq (sub tq [0]) (.seq (.seq (sub tq [1,0,0]) (.block 0 (.loop ID))) (.seq (sub tq [1,1,0]) (sub tq [1,1,1])))):=by kernel_rfl
def DG:O.aB 91=U (.slice 9):=by kernel_rfl
def qdE(h:1<=Z w/\Z w<=255):az O 221 [.func (.func 220) ⟨[]⟩ ⟨[]⟩,.slice (U ⟨A.next,0,V⟩) 1 2] (A.alloc (af 9 [ai w])) (.bool ae) (A.alloc (af 9 [ai w])):=by
 refine wg (aD Tryz.func221) Xn (by kernel_rfl) ?_;have vB:=aQ A 9 [ai w];have hS:aq (A.alloc (af 9 [ai w])) 9 1 A.next [[ai w]] (.slice (U ⟨A.next,0,V⟩) 1 2):=.inr ⟨.var 1,2,rfl,vB.1,vB.2,by simp,.inl rfl⟩
 have ll:=aq.len hS DG;have j1:=aq.idx (i:=0) (kd:=.i64) hS DG (by kernel_rfl) (by simp);have j2:aj O (A.alloc (af 9 [ai w])).get 9 (pw A.next (0*1))=.ok (ai w):=vB.ld rfl u9 rfl;generalize A.alloc (af 9 [ai w])=B at*;obtain⟨g,hg⟩:=qeD (A:=B) h;apply W.q
 .intro M;simp(disch:=omega)only[tq,yg,Aq,aa];rfl
 apply W.seq;apply W.q
 .intro M;simp(disch:=decide+kernel)only[tq,yg,Aq,aa,ll,cD,eB];rfl
 apply W.block;apply W.round;apply W.cC (g) 20
 .intro M hM;simp(disch:=first|decide+kernel|omega|simp only[Wq,aa])only[ID,tq,yg,Aq,av,reduceIte,aa,ak,Nat.zero_lt_one,j1,j2,hg];rfl
 apply W.round;apply W.run 20
 .intro M;simp(disch:=decide+kernel)only[ID,tq,yg,Aq,aa,t_];rfl
 apply W.run 40
 .intro M;simp(disch:=omega)only[tq,yg,Aq,aa];rfl
 exact⟨by simp,rfl,rfl,by simp only[yg,Aq,aa]<;>rfl⟩
def qf0(h:1<=Z w/\Z w<=255):az O 171 [.slice (U ⟨A.next,0,V⟩) 1 2] (A.alloc (af 9 [ai w])) (iN 0) (A.alloc (af 9 [ai w])):=by
 obtain⟨g,hg⟩:=qdE (A:=A) h;refine bX (g) 60 (aD Tryz.func171) (by kernel_rfl) λ M hM=>?_
 simp(disch:=omega)only[Tryz.f171,Aq,aa,hg,yH]<;>rfl
def Gs:az O 259 [ai w] A (.bool ag) A:=by
 refine cq 60 (aD Tryz.func259) (by kernel_rfl) λ M=>?_
 simp(disch:=decide+kernel)only[Tryz.f259,Aq,aa]<;>rfl
def qdV{a b:List UInt8}(h:b6 a b=ae):az O 222 [ai a,ai b] A (.int .i64 (-1)) A:=by
 obtain⟨g1,h1⟩:=Gs (A:=A) (w:=a);obtain⟨g2,h2⟩:=Gs (A:=A) (w:=b);have hs:ft .lss a b=.ok (.bool ae):=by
  show R.ok (Value.bool (b6 a b))=_;rw[h]
 refine bX (g1+g2) 60 (aD Tryz.func222) (by kernel_rfl) λ M hM=>?_
 simp(disch:=first|decide+kernel|omega)only[Tryz.f222,Aq,aa,h1,h2,hs,Ff]<;>rfl
def qdW{a b:List UInt8}(h:b6 a b=ag):∃n:Nat,az O 222 [ai a,ai b] A (.int .i64 n) A:=by
 obtain⟨g1,h1⟩:=Gs (A:=A) (w:=a);obtain⟨g2,h2⟩:=Gs (A:=A) (w:=b);have hs:ft .lss a b=.ok (.bool ag):=by
  show R.ok (Value.bool (b6 a b))=_;rw[h]
 have hg:=JF a b;cases hb:b6 b a with
 |true=>
  rw[hb]at hg;refine⟨1,?_⟩;refine bX (g1+g2) 60 (aD Tryz.func222) (by kernel_rfl) λ M hM=>?_
  simp(disch:=first|decide+kernel|omega)only[Tryz.f222,Aq,aa,h1,h2,hs,hg]<;>rfl
 |false=>
  rw[hb]at hg;refine⟨0,?_⟩;refine bX (g1+g2) 60 (aD Tryz.func222) (by kernel_rfl) λ M hM=>?_
  simp(disch:=first|decide+kernel|omega)only[Tryz.f222,Aq,aa,h1,h2,hs,hg]<;>rfl
def KP:∃n:Int,(0<=n↔b6 e.word w=ag)/\az O 172 [.agg ⟨aX e⟩,ai w] A (.int .i64 n) (A.alloc (af 61 (aX e))):=by
 have l1:aj O (A.alloc (af 61 (aX e))).get 9 (.pointer (U ⟨A.next,0,V⟩))=.ok (ai e.word):=(aQ A 61 (aX e)).ld rfl u9 rfl;cases h:b6 e.word w with
 |true=>
  obtain⟨g,hg⟩:=qdV (A:=A.alloc (af 61 (aX e))) h;refine⟨-1,by decide,?_⟩;refine bX (g) 60 (aD Tryz.func172) (by kernel_rfl) λ M hM=>?_
  simp(disch:=omega)only[Tryz.f172,Aq,aa,a7,mJ,l1,hg]<;>rfl
 |false=>
  obtain⟨n,g,hg⟩:=qdW (A:=A.alloc (af 61 (aX e))) h;refine⟨n,by simp,?_⟩;refine bX (g) 60 (aD Tryz.func172) (by kernel_rfl) λ M hM=>?_
  simp(disch:=omega)only[Tryz.f172,Aq,aa,a7,mJ,l1,hg]<;>rfl
def nM:=cu qv
def Cq:aH:=sub nM [1,0,1,1,0,1,0,0]
def WN:qv.body=U (.seq (sub nM [0]) (.scope (.seq (sub nM [1,0,0]) (.seq (sub nM [1,0,1,0]) (.seq (.seq (sub nM [1,0,1,1,0,0]) (.block 0 (.loop Cq))) (.seq (sub nM [1,0,1,1,1,0]) (sub nM [1,0,1,1,1,1]))))))):=by kernel_rfl
def Sm{l:List aK}{x:I}(h:dz A l x)(hw:∀e∈l,1<=Z e.word/\Z e.word<=255)(hl:Z l<1000000):∃v A',az O 115 [x] A v A'/\LQ l v/\Kp A A':=by
 refine cZ (aD Tryz.func115) WN (by kernel_rfl) ?_;have hlen:=h.len;apply W.q
 .intro M;simp(disch:=omega)only[nM,qv,Aq,aa];rfl
 apply W.scope;apply W.q
 .intro M;simp(disch:=first|decide+kernel|omega)only[nM,qv,Aq,aa,Ff];rfl
 apply W.seq;refine W.run 1 (λ m=>rfl) ?_;apply W.seq;apply W.q
 .intro M;simp(disch:=first|decide+kernel|omega)only[nM,qv,Aq,aa,hlen];rfl
 apply W.block;refine W.up (Z l) (λ i t D=>Kp A D/\dk (l.take i)/\Sl t [(0,x),(2,.int .i64 (-1)),(3,.int .i64 (0:Nat)),(6,x),(7,.int .i64 (Z l:Nat)),(8,.int .i64 i)]) ?_ (a8 _) ⟨Kp.refl _,by simp[dk],?_⟩
 .rintro i t D hi ⟨kD,ha,g0,g2,g3,g6,g7,g8,-⟩;by_cases hlt:i<Z l
  .have he:l[i]?=U l[i]:=aZ hlt;obtain⟨p,j1,j2,-⟩:=(h.kp kD).at he;have hwe:=hw _ (ff hlt);have kE:=Kp.alloc D (af 61 (aX l[i]));have sE:cm O (D.alloc (af 61 (aX ⟨[],0,ag⟩))) 61 (.pointer (U ⟨D.next,0,V⟩)) (.agg ⟨aX l[i]⟩)=.ok (D.alloc (af 61 (aX l[i]))):=fP (by kernel_rfl) rfl rfl (by simp[aX]) (Jb _);have vE:=aQ D 61 (aX l[i]);have hEE:=(h.kp kD).kp kE;have oh:dj O 61=.ok (.agg ⟨aX ⟨[],0,ag⟩⟩):=LM;generalize hE:D.alloc (af 61 (aX l[i]))=E at kE sE vE hEE;have lw:∀F,Kp E F->aj O F.get 9 (.pointer (U ⟨D.next,0,V⟩))=.ok (ai l[i].word):=λ F hF=>(vE.kp hF).ld rfl u9 rfl
   have lE:=lw E (Kp.refl _);obtain⟨g,hg⟩:=qf0 (A:=E) hwe;have bs:eO O 91 1 [(0,ai l[i].word)]=.ok (af 9 [ai l[i].word],.dZ 1 2):=by kernel_rfl
   have kF:=Kp.alloc E (af 9 [ai l[i].word]);have lF:=lw _ kF;by_cases h0:0<i
   .have he2:l[i-1]?=U l[i-1]:=aZ (by omega);obtain⟨p2,k1,k2,-⟩:=(hEE.kp kF).at he2;have sub1:a_ .sub .i64 ((i:Nat):Int) ((1:Nat):Int)=.ok (.int .i64 (i-1:Nat)):=eQ (by omega) (ct (by omega));obtain⟨n,hnn,gb,hg2⟩:=KP (A:=E.alloc (af 9 [ai l[i].word])) (e:=l[i-1]) (w:=(l[i]).word);cases hb:b6 (l[i-1]).word (l[i]).word with
    |true=>
     have hn0:¬(((0:Nat):Int)<=n):=by
      show¬(0<=n);rw[hnn,hb];simp
     apply W.cC (g+gb) 20
     .intro M hM;simp(config:={maxSteps:=4000000})(disch:=first|decide+kernel|omega|simp only[Wq,aa])only[Cq,nM,qv,Aq,av,reduceIte,aa,ak,g0,g3,g6,g7,g8,hlt,j1,j2,oh,a7,hE,sE,mJ,lE,bs,hg,dM,dK,h0,sub1,k1,k2,lF,hg2,hn0,(show aL 1 2=false from rfl),Fq,bQ []];rfl
     refine⟨hlt,_,_,rfl,kD.trans (kE.trans (kF.trans (Kp.alloc _ _))),Et ha hlt λ _=>hb,?_⟩;simp only[Sq,aa,ak,g0,g2,g3,g6,g7]
    |false=>
     have hn0:((0:Nat):Int)<=n:=by
      show 0<=n;rw[hnn];exact hb
     apply W.cC (g+gb) 20
     .intro M hM;simp(config:={maxSteps:=4000000})(disch:=first|decide+kernel|omega|simp only[Wq,aa])only[Cq,nM,qv,Aq,av,reduceIte,aa,ak,g0,g3,g6,g7,g8,hlt,j1,j2,oh,a7,hE,sE,mJ,lE,bs,hg,dM,dK,h0,sub1,k1,k2,lF,hg2,hn0,(show aL 0 1=false from rfl),Fq,bQ []];rfl
     apply W.run 40
     .intro M;simp(disch:=first|decide+kernel|omega)only[nM,qv,Aq,aa];rfl
     refine⟨by simp,rfl,_,(by simp only[qv,Aq,aa]<;>rfl),⟨i,15,rfl,λ ha=>?_,λ _=>rfl⟩,kD.trans (kE.trans (kF.trans (Kp.alloc _ _)))⟩;rw[HT ha he2 (by rw[show i-1+1=i by omega];exact he)]at hb;cases hb
   .apply W.cC (g) 20
    .intro M hM;simp(config:={maxSteps:=4000000})(disch:=first|decide+kernel|omega|simp only[Wq,aa])only[Cq,nM,qv,Aq,av,reduceIte,aa,ak,g0,g3,g6,g7,g8,hlt,j1,j2,oh,a7,hE,sE,mJ,lE,bs,hg,dM,dK,h0,(show aL 1 2=false from rfl),Fq,bQ []];rfl
    refine⟨hlt,_,_,rfl,kD.trans (kE.trans kF),Et ha hlt λ h=>aU h h0,?_⟩;simp only[Sq,aa,ak,g0,g2,g3,g6,g7]
  .have e:i=Z l:=by omega
   subst e;apply W.run 20
   .intro M;simp(disch:=first|decide+kernel|omega)only[Cq,nM,qv,Aq,aa,g7,g8,hlt];rfl
   apply W.run 40
   .intro M;simp(disch:=first|decide+kernel|omega)only[nM,qv,Aq,aa,g2,g3];rfl
   rw[dU]at ha;exact⟨by simp,rfl,_,(by simp only[qv,Aq,aa]<;>rfl),⟨-1,0,rfl,λ _=>rfl,λ h=>aU ha h⟩,kD⟩
 .simp only[Sq,aa,ak]
end Go.Proofs.YtjoceidiioppiaaGreatDoor.sto
end
