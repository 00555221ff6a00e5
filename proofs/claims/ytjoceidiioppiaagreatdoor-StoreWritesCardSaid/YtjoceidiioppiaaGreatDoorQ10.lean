/- The abstract machine, the walk of the law and its plain laws, made small by a program; part 10: no conditions but those in each theorem. -/
import Derived.Test.YtjoceidiioppiaaGreatDoorQ09
set_option maxHeartbeats 16000000
set_option maxRecDepth 100000
set_option linter.unusedSimpArgs false
set_option linter.unusedVariables false
set_option linter.defProp false
noncomputable section
open Go renaming Code→aH,IntKind→cS,Operand→bM,TypeId→au,Value→I
open List renaming getElem?_cons_succ→dc,getElem?_cons_zero→c7,getElem?_eq_getElem→aZ,getElem?_eq_some_iff→bU,getElem_mem→ff,length→Z,nodup_nil→nb
open Nat renaming ble→av,div_le_self→Hp,le_refl→aI,le_trans→dm,lt_of_le_of_lt→mz,lt_of_lt_of_le→c9,reduceAdd→ak,reduceEqDiff→aa,zero_le→a8
open Go.Proofs.Tryz renaming f3→gM,func3→BU
open Bool renaming false→ag,true→ae
open Option renaming none→V,some→U
namespace Go.Proofs.YtjoceidiioppiaaGreatDoor.sto
open Go.Am Go.Mdl Go.Sto Go.Shelf
variable {k':cS}
def Yb{s d:au}{k:cS}{n:Int}(hs:(O.aB s).isSome=ae)(hd:O.aB d=U (.int k'))(h:di k' n=ae):j' O s d (.int k n)=.ok (.int k' n):=by
 have e:j' O s d (.int k n)=.ok (.int k' (eL k' n)):=by
  unfold j';rw[hd];cases hq:O.aB s with
  |none=>rw[hq]at hs;cases hs
  |some _=>rfl
 rw[e];unfold eL;rw[h];rfl
def qac{n:Int}(h:-11<=n/\n<=11):di .i64 n=ae:=by
 obtain⟨k,hk,rfl⟩:∃k:Nat,k<23/\n=Int.subNatNat k 11:=⟨(n+11).toNat,by omega,by rw[Int.subNatNat_eq_coe];omega⟩;clear h
 iterate 23
  rcases k with _|k
  .clear hk;show _=_;kernel_rfl
 omega
def qgw:fieldsOf (O.aB 36)=[(ag,3,0),(ag,3,1),(ag,3,2)]:=by kernel_rfl
def Kf{g:Nat->Option Ob}{x y:bM}{s:Nat×Nat×Nat}:fU O g .neq 36 x y (.agg ⟨cR s⟩) (.agg ⟨cR s⟩)=.ok (.bool ag):=by
 have e1:pr O 36 x y (.agg ⟨cR s⟩) (.agg ⟨cR s⟩)=ae:=by
  unfold pr;have:O.P.eqGuardType O.P.depth 36=ag:=by decide+kernel
  rw[this];rfl
 have q:iG O g 100 36 (.agg ⟨cR s⟩) (.agg ⟨cR s⟩)=.ok ae:=by
  rw[Fe (by kernel_rfl) qgw (by kernel_rfl)];simp only[uJ,bJ,cR];rw[oO u3 rfl rfl,oO (o:=1) u3 rfl rfl,oO (o:=2) u3 rfl rfl];simp only[R.aW,CB (tb:=O) (t:=3) u3];simp[R.aW]
 unfold fU;rw[e1,aJ];simp only[];rw[q];rfl
variable {b:Nat}
def qbM{A:Mem}{t:bM}:fU O A.get .neq 37 t (.const (.pointer V)) (pw b 0) (.pointer V)=.ok (.bool ae):=by kernel_rfl
def qbK{A:Mem}{t:bM}:fU O A.get .neq 37 t (.const (.pointer V)) (.pointer V) (.pointer V)=.ok (.bool ag):=by kernel_rfl
def Qx:ij .neq (O.aB 4) (.bool ae) (.bool ae)=.ok (.bool ag):=by kernel_rfl
def Qv:ij .neq (O.aB 4) (.bool ag) (.bool ag)=.ok (.bool ag):=by kernel_rfl
def cW:=cu gM
def js:aH:=sub cW [1,1,1,0,1,0,0]
def IY:gM.body=U (.seq (sub cW [0]) (.seq (sub cW [1,0]) (.seq (sub cW [1,1,0]) (.seq (.seq (sub cW [1,1,1,0,0]) (.block 0 (.loop js))) (.seq (sub cW [1,1,1,1,0]) (sub cW [1,1,1,1,1])))))):=by kernel_rfl
def j_:aH:=sub js [1,0,0,1,1]
def XO:js=.seq (.seq (sub js [0,0]) (sub js [0,1])) (.seq (.block 1 (.seq (sub js [1,0,0,0]) (.seq (sub js [1,0,0,1,0]) j_))) (sub js [1,1])):=by kernel_rfl
def XP:j_=.seq (sub j_ [0]) (.seq (sub j_ [1,0]) (.seq (sub j_ [1,1,0]) (.seq (sub j_ [1,1,1,0]) (.seq (sub j_ [1,1,1,1,0]) (sub j_ [1,1,1,1,1]))))):=by kernel_rfl
def m9.refl(A:Mem):m9 A A:=⟨aI _,λ _ _=>rfl⟩
def m9.trans{A B C:Mem}(h:m9 A B)(h':m9 B C):m9 A C:=⟨dm h.1 h'.1,λ z hz=>by rw[h'.2 z ⟨c9 hz.1 h.1,by rw[h.2 z hz];exact hz.2⟩,h.2 z hz]⟩
def gL.st{A:Mem}{r:Nat}{D:ba}(h:gL A r D):aj O A.get 3 (pw r 3)=.ok (.int .i64 D.st):=by
 obtain⟨f,bf,xf,ps,h⟩:=h;exact h.1.ld rfl u3 rfl
structure BX (B:Mem) (p r i:Nat) (D:ba) (C:Mem):Prop where
 d:ek C p D
 r:gL C r D
 ok:fR D
 nm:kK D.ns
 q:D.q<1000000
 st:D.st<=4*i
 ar:D.ar<=8
 ns:Z D.ns<=i
 k:m9 B C
def Nc:sub j_ [1,1,1,1,1]=.seq (sub j_ [1,1,1,1,1,0]) (sub j_ [1,1,1,1,1,1]):=by kernel_rfl
section
variable {t:T I}{x y x8 x9 x10:I}{p r i e st z5 z7 b8:Nat}{s:Nat×Nat×Nat}{A B C F:Mem}
def qix(l10:aj O A.get 36 (pV z5)=.ok (.agg ⟨cR s⟩))(l13:aj O A.get 36 (pV z7)=.ok (.agg ⟨cR s⟩))
 (h15:az O 15 [pV p] A (.int .i64 st) A)(l3:aj O A.get 3 (pw r 3)=.ok (.int .i64 st))
 (h17:az O 17 [pV p] A x9 C)(h18:az O 18 [pV r] C x10 F)(h16:az O 16 [x9,x10] F (.bool ae) F)(he:e≠0)(hs:Sl t [(0,x),(5,pV p),(6,pV r),(7,.int .i64 i),(8,y),(10,pV z5),(11,.pointer V),(12,.int .i64 e),(13,pV z7),(14,.int .i64 e)]):
 W O (sub j_ [1,1,1,1,1]) ⟨t,141,[],A,V⟩ λ e' s'=>e'=.nrm/\∃t',s'=⟨t',141,[],F,V⟩/\Sl t' [(0,x),(5,pV p),(6,pV r),(7,.int .i64 i)]:=by
 obtain⟨s0,s5,s6,s7,s8,s10,s11,s12,s13,s14,-⟩:=hs;obtain⟨g15,h15⟩:=h15;obtain⟨g16,h16⟩:=h16;obtain⟨g17,h17⟩:=h17;obtain⟨g18,h18⟩:=h18;have si:=pE .i64 st rfl;have nq:=λ(g:Nat->Option Ob) (x y:bM)=>Kf (g:=g) (x:=x) (y:=y) (s:=s)
 simp only[pV,cR]at*;rw[Nc];apply W.cC (g15+g16+g17+g18) 40
 .intro M hM;simp(config:={maxSteps:=4000000})(disch:=first|decide+kernel|omega|simp only[Wq,aa])only[j_,js,cW,gM,Aq,av,reduceIte,aa,ak,s5,s6,s10,s11,s12,s13,s14,l10,l13,yV,nq,qbK,he,Qx,Qv,eY,h15,l3,bA,br,Ae,h16,h17,h18,si,Fq,bQ [(32,28)]];rfl
 refine⟨rfl,_,rfl,?_⟩;simp only[Sq,aa,ak,s0,s5,s6,s7]
def qiy(l10:aj O A.get 36 (pV z5)=.ok (.agg ⟨cR s⟩))(l13:aj O A.get 36 (pV z7)=.ok (.agg ⟨cR s⟩))
 (h15:az O 15 [pV p] B (.int .i64 st) B)(l3:aj O B.get 3 (pw r 3)=.ok (.int .i64 st))
 (h17:az O 17 [pV p] B x9 C)(h18:az O 18 [pV r] C x10 F)(h16:az O 16 [x9,x10] F (.bool ae) F)(h14:az O 14 [pV b8] A x8 B)(h13:az O 13 [x8,y] B (.bool ae) B)(hs:Sl t [(0,x),(5,pV p),(6,pV r),(7,.int .i64 i),(8,y),(10,pV z5),(11,pV b8),(12,iN 0),(13,pV z7),(14,iN 0)]):
 W O (sub j_ [1,1,1,1,1]) ⟨t,141,[],A,V⟩ λ e' s'=>e'=.nrm/\∃t',s'=⟨t',141,[],F,V⟩/\Sl t' [(0,x),(5,pV p),(6,pV r),(7,.int .i64 i)]:=by
 obtain⟨s0,s5,s6,s7,s8,s10,s11,s12,s13,s14,-⟩:=hs;obtain⟨g15,h15⟩:=h15;obtain⟨g16,h16⟩:=h16;obtain⟨g17,h17⟩:=h17;obtain⟨g18,h18⟩:=h18;obtain⟨g13,h13⟩:=h13;obtain⟨g14,h14⟩:=h14;have si:=pE .i64 st rfl;have nq:=λ(g:Nat->Option Ob) (x y:bM)=>Kf (g:=g) (x:=x) (y:=y) (s:=s)
 simp only[pV,cR]at*;rw[Nc];apply W.cC (g15+g16+g17+g18+g13+g14) 40
 .intro M hM;simp(config:={maxSteps:=4000000})(disch:=first|decide+kernel|omega|simp only[Wq,aa])only[j_,js,cW,gM,Aq,av,reduceIte,aa,ak,s5,s6,s8,s10,s11,s12,s13,s14,l10,l13,yV,nq,qbM,h13,h14,Qx,Qv,eY,h15,l3,bA,br,Ae,h16,h17,h18,si,Fq,bQ [(32,28)]];rfl
 refine⟨rfl,_,rfl,?_⟩;simp only[Sq,aa,ak,s0,s5,s6,s7]
end
def UQ(q:Nat):fR (D0 q)/\kK (D0 q).ns:=⟨⟨nb,rfl,rfl,aI _,a8 _⟩,nb,Nat.zero_lt_succ _,λ n h=>by cases h⟩
def qeX{A:Mem}{w:rJ}(h:m8 A w.l w.x)(hw:w.s<256):∃y1 B y A',az O 7 [w.x,iN 20] A y1 B/\Kp A B/\Kp A A'/\dz A' (vd w.l w.s) y/\((w.s % 8≠7/\y1=y/\B=A')\/(w.s % 8=7/\az O 8 [w.x,iN 20] B y A')):=by
 obtain⟨y1,B,h1,e1,k1⟩:=qfr h;by_cases h7:w.s % 8=7
 .obtain⟨y,C,h2,e2,k2⟩:=Sn (n:=20) (h.kp k1) (by omega);exact⟨y1,B,y,C,h1,k1,k1.trans k2,by unfold vd;rw[aA h7];exact e2,.inr ⟨h7,h2⟩⟩
 .exact⟨y1,B,y1,B,h1,k1,k1,by unfold vd;rw[ax h7];exact e1,.inl ⟨h7,rfl,rfl⟩⟩
def qcj{a:Nat}(h:0<b)(ha:a<256):a_ .quo .u8 (a:Int) (b:Int)=.ok (bN (a/b)):=by
 obtain⟨c,rfl⟩:∃c,b=c+1:=⟨b-1,by omega⟩;show R.ok (Value.int .u8 (eL .u8 ((a/(c+1):Nat):Int)))=_;rw[zg (qc (mz (Hp _ _) ha))]
def qhK(n:Int):-11<=n.tmod 12/\n.tmod 12<=11:=by
 have h1:=Int.tmod_lt_of_pos n (b:=12) (by omega);have h2:=Int.lt_tmod_of_pos n (b:=12) (by omega);omega
def qiz{B C:Mem}{p r i:Nat}{D:ba}{ws:List rJ}{w:rJ}{x:I}{t:T I}(hR:BX B p r i D C)(hx:te B ws x)(hi:i<8)(hw:ws[i]?=U w)(hwt:∀d∈w.l,d.wt<4294967296)(hws:w.s<256)
 (hs:Sl t [(0,x),(5,pV p),(6,pV r),(7,.int .i64 i)]):
 W O js ⟨t,141,[],C,V⟩ λ e' s'=>e'=.nrm/\∃t' C' D',s'=⟨t',141,[],C',V⟩/\BX B p r (i+1) D' C'/\Sl t' [(0,x),(5,pV p),(6,pV r),(7,iN (i+1))]:=by
 obtain⟨s0,s5,s6,s7,-⟩:=hs;obtain⟨hd,hr,ho,hN,hq,hst,har,hns,hk⟩:=hR;have hlt:=(bU.1 hw).1;have hxC:=hx.kf hk;have hlen:=hxC.len;obtain⟨q,o,ix,hds,hld⟩:=hxC.at hw;obtain⟨y1,B1,y,A1,⟨g1,h1⟩,kB1,kA1,hE,hcase⟩:=qeX hds hws;obtain⟨hLI,hNo⟩:=qiv w.l w.s hwt;generalize vd w.l w.s=l at*;have hsa:w.s % 32/4<8:=by omega
 obtain⟨v2,A2,⟨g2,h2⟩,rfl,d2,k2⟩:=qd2 (a:=w.s % 32/4) (hd.kp kA1);obtain⟨v3,A3,⟨g3,h3⟩,rfl,r3,k3⟩:=qfb (a:=w.s % 32/4) ((hr.kp kA1).kd k2);have d3:=d2.kr k3;have ho3:fR {D with ar:=w.s % 32/4}:=⟨ho.nd,ho.fl,ho.la,ho.k,ho.u⟩;have hst3:({D with ar:=w.s % 32/4}:ba).st<=4*i:=hst;have hq3:({D with ar:=w.s % 32/4}:ba).q<1000000:=hq;have hns3:({D with ar:=w.s % 32/4}:ba).ns.length<=i:=hns;have har3:({D with ar:=w.s % 32/4}:ba).ar<8:=hsa;have hN3:kK ({D with ar:=w.s % 32/4}:ba).ns:=hN;generalize ({D with ar:=w.s % 32/4}:ba)=D3 at*;have hn:=qhK w.n;have k13:=(kA1.kt (P:=dT)).trans k2;have hE3:dz A3 l y:=by
  obtain⟨b,hb⟩:=hE;exact⟨b,k3.kt.iB (k2.iB hb (by decide)) (by decide)⟩
 obtain⟨v4,A4,⟨g4,h4⟩,k4,e,D4,sg,sp,rfl,d4,e4,hok,hbad⟩:=qf2 d3 ho3 hN3 hq3 ⟨by omega,by omega⟩ (by omega) hn hE3 hLI;have hx3:=qg7 ho3 hN3 (n:=w.n.tmod 12) (l:=l) (by omega);have kA5:=Kp.alloc A4 (af 36 (cR sg));have v5:=aQ A4 36 (cR sg);have sG5:cm O (A4.alloc (af 36 (cR (0,0,0)))) 36 (pw A4.next 0) (.agg ⟨cR sg⟩)=.ok (A4.alloc (af 36 (cR sg))):=fP xq rfl rfl (by simp[cR]) (by simp[cR,bS]);generalize A4.alloc (af 36 (cR sg))=A5 at kA5 v5 sG5;have hE5:dz A5 l y:=by
  obtain⟨b,hb⟩:=hE3;exact⟨b,(k4.iB hb (by decide)).same kA5.1 (kA5.2 _)⟩
 obtain⟨v6,A6,⟨g6,h6⟩,k6,e',D6,sg',rfl,r6,e6,hok',hbad'⟩:=qfG ((r3.kd k4).kp kA5) ho3 hN3 hq3 ⟨by omega,by omega⟩ (by omega) hn hE5 hLI;obtain⟨rfl,rfl⟩:e'=e/\D6=D4:=by
  rw[<-e4]at e6;cases e6;exact⟨rfl,rfl⟩
 obtain rfl:sg'=sg:=by
  by_cases h0:e'=0
  .rw[(hok h0).1,hok' h0]
  .rw[(hbad h0).1,hbad' h0]
 have kA7:=Kp.alloc A6 (af 36 (cR sg'));have v7:=aQ A6 36 (cR sg');have sG7:cm O (A6.alloc (af 36 (cR (0,0,0)))) 36 (pw A6.next 0) (.agg ⟨cR sg'⟩)=.ok (A6.alloc (af 36 (cR sg'))):=fP xq rfl rfl (by simp[cR]) (by simp[cR,bS]);generalize A6.alloc (af 36 (cR sg'))=A7 at kA7 v7 sG7;have eD:(kj D3 (w.n.tmod 12) l).2=D6:=by rw[<-e4]
 rw[eD]at hx3;have d7:=((d4.kp kA5).kr k6).kp kA7;have r7:=r6.kp kA7;have V5:=(k6.vb v5).kp kA7;obtain⟨da,hda1,hda2⟩:=cF (t:=36) (p:=ae) (by kernel_rfl);have l10:aj O A7.get 36 (pw A4.next 0)=.ok (.agg ⟨cR sg'⟩):=cg hda1 hda2 xq V5.2;have l13:aj O A7.get 36 (pw A6.next 0)=.ok (.agg ⟨cR sg'⟩):=cg hda1 hda2 xq v7.2;obtain⟨A8,k8,hE8,hall⟩:∃A8,Kp A7 A8/\dz A8 l y/\((e'≠0/\sp=.pointer V/\A8=A7)\/(e'=0/\∃b8 x8,sp=pV b8/\az O 14 [pV b8] A7 x8 A8/\az O 13 [x8,y] A8 (.bool ae) A8)):=by
  have hE7:dz A7 l y:=by
   obtain⟨b,hb⟩:=hE5;exact⟨b,(k6.kt.iB hb (by decide)).same kA7.1 (kA7.2 _)⟩
  by_cases h0:e'=0
  .obtain⟨-,hS,hlo⟩:=hok h0;have hS7:=((hS.kt (Kp.kt (P:=λ _=>True) kA5) ⟨trivial,trivial,trivial⟩).kt k6.kt ⟨by decide,by decide,by decide⟩).kt (Kp.kt (P:=λ _=>True) kA7) ⟨trivial,trivial,trivial⟩;obtain⟨x8,A8,h8,e8,k8⟩:=qdD hS7 hlo hNo;obtain⟨v,F,h9,rfl,rfl⟩:=qeh e8 (hE7.kp k8) (by have:=hLI.n;omega);obtain⟨b8,yy,rfl,-⟩:=hS7;exact⟨_,k8,hE7.kp k8,.inr ⟨h0,b8,x8,rfl,h8,h9⟩⟩
  .exact⟨A7,Kp.refl _,hE7,.inl ⟨h0,(hbad h0).2,rfl⟩⟩
 have d8:=d7.kp k8;have r8:=r7.kp k8;have h15:=qec d8;have l3:=r8.st;obtain⟨x9,A9,h17,e9,k9⟩:=Si d8 hx3.nm;have hns6:=hx3.ns;obtain⟨x10,A10,h18,e10,k10⟩:=SF (r8.kp k9) (by omega) (hx3.ok.CN (by rw[hx3.q];exact hq3));obtain⟨v,F,h16,rfl,rfl⟩:=qew (e9.kp k10) e10 (by have:=OT hx3.ok.nd;omega);have KF:m9 C F:=kA1.f.trans (k2.f.trans (k3.kt.f.trans (k4.f.trans (kA5.f.trans (k6.kt.f.trans (kA7.f.trans (k8.f.trans (k9.f.trans k10.f))))))));have hst6:=hx3.st;have har6:=hx3.ar;have fin:BX B p r (i+1) D6 F:=⟨(d8.kp k9).kp k10,(r8.kp k9).kp k10,hx3.ok,hx3.nm,by rw[hx3.q];exact hq3,by omega,by omega,by omega,hk.trans KF⟩;obtain⟨la,-,-⟩:=hld C (m9.refl _);obtain⟨lb,-,lb5⟩:=hld B1 kB1.f;obtain⟨-,-,lc5⟩:=hld A1 kA1.f;have K3:=kA1.f.trans (k2.f.trans k3.kt.f);obtain⟨-,ld31,-⟩:=hld A3 K3;obtain⟨-,le31,-⟩:=hld A5 (K3.trans (k4.f.trans kA5.f));have rm8:a_ .rem .u8 ((w.s:Nat):Int) ((8:Nat):Int)=.ok (bN (w.s % 8)):=C_ (by omega);have rm32:a_ .rem .u8 ((w.s:Nat):Int) ((32:Nat):Int)=.ok (bN (w.s % 32)):=C_ (by omega);have qu:a_ .quo .u8 ((w.s % 32:Nat):Int) ((4:Nat):Int)=.ok (bN (w.s % 32/4)):=qcj (by omega) (by omega);have cv:j' O 5 3 (bN (w.s % 32/4))=.ok (iN (w.s % 32/4)):=eX (by kernel_rfl) u3 (ct (by omega));have rmI:a_ .rem .i16 w.n ((12:Nat):Int)=.ok (.int .i16 (w.n.tmod 12)):=qck (by omega);have cvI:j' O 31 3 (.int .i16 (w.n.tmod 12))=.ok (.int .i64 (w.n.tmod 12)):=Yb (by kernel_rfl) u3 (qac hn);have nq:=λ(g:Nat->Option Ob) (x y:bM)=>Kf (g:=g) (x:=x) (y:=y) (s:=sg')
 simp only[pV,cR]at*;have rest:∀t',Sl t' [(0,x),(5,pV p),(6,pV r),(7,.int .i64 i),(8,y)]->W O j_ ⟨t',141,[],A1,V⟩ (G_ 1 (HF O (sub js [1,1]) λ e' s'=>e'=.nrm/\∃t' C' D',s'=⟨t',141,[],C',V⟩/\BX B p r (i+1) D' C'/\Sl t' [(0,x),(5,pV p),(6,pV r),(7,iN (i+1))])):=by
  rintro t' ⟨s0,s5,s6,s7,s8,-⟩;simp only[pV]at*;rw[XP];apply W.ic (g2)
  .intro M hM _;simp(disch:=first|decide+kernel|omega)only[j_,js,cW,gM,Aq,aa,s0,s7,ix,Jp,lc5,rm32,qu,cv,s5,h2];rfl
  apply W.ic (g3+g4)
  .intro M hM _;simp(disch:=first|decide+kernel|omega)only[j_,js,cW,gM,Aq,aa,s6,h3,s0,s5,s7,s8,ix,Oq,ld31,rmI,cvI,h4,c7,dc,tP,a7,sG5];rfl
  apply W.qG (g6)
  .intro M hM;simp(config:={maxSteps:=4000000})(disch:=first|decide+kernel|omega|simp only[Wq,aa])only[j_,js,cW,gM,Aq,av,reduceIte,aa,ak,s0,s6,s7,s8,ix,Oq,le31,rmI,cvI,h6,c7,dc,tP,a7,sG7];rfl
  have last:∀t',Sl t' [(0,x),(5,pV p),(6,pV r),(7,.int .i64 i),(8,y),(10,pV A4.next),(11,sp),(12,.int .i64 e'),(13,pV A6.next),(14,.int .i64 e')]->W O (sub j_ [1,1,1,1,1]) ⟨t',141,[],A7,V⟩ λ e' s'=>e'=.nrm/\∃t',s'=⟨t',141,[],F,V⟩/\Sl t' [(0,x),(5,pV p),(6,pV r),(7,.int .i64 i)]:=λ t' hs=>by
   rcases hall with⟨he,rfl,rfl⟩|⟨rfl,b8,x8,rfl,h14,h13⟩
   .exact qix l10 l13 h15 l3 h17 h18 h16 he hs
   .exact qiy l10 l13 h15 l3 h17 h18 h16 h14 h13 hs
  refine(last _ ?_).mono ?_
  .simp only[Sq,aa,ak,s0,s5,s6,s7,s8];exact⟨rfl,rfl,rfl,rfl⟩
  .rintro e s' ⟨rfl,t2,rfl,s0,s5,s6,s7,-⟩;apply W.run 20
   .intro M;simp(disch:=first|decide+kernel|omega)only[js,cW,gM,Aq,aa,s7];rfl
   refine⟨rfl,_,_,_,rfl,fin,?_⟩;simp only[Sq,aa,ak,s0,s5,s6];exact⟨rfl,rfl⟩
 rw[XO];apply W.q
 .intro M;simp(config:={maxSteps:=4000000})(disch:=first|decide+kernel|omega|simp only[Wq,aa])only[js,cW,gM,Aq,av,reduceIte,aa,ak,s0,s7,hlen,hlt,hi];rfl
 apply W.seq;apply W.block;apply W.qG (g1)
 .intro M hM;simp(disch:=first|decide+kernel|omega)only[js,cW,gM,Aq,aa,s0,s7,ix,Oo,la,h1];rfl
 apply W.seq;rcases hcase with⟨h7,rfl,rfl⟩|⟨h7,g0,h0⟩
 .apply W.run 20
  .intro M;simp(disch:=first|decide+kernel|omega)only[js,cW,gM,Aq,aa,s0,s7,ix,Jp,lb5,rm8,h7];rfl
  refine rest _ ?_;simp only[Sq,aa,ak,s0,s5,s6,s7];exact⟨rfl,rfl⟩
 .apply W.cC (g0) 20
  .intro M hM;simp(disch:=first|decide+kernel|omega)only[js,cW,gM,Aq,aa,s0,s7,ix,Oo,Jp,lb,lb5,rm8,h7,h0];rfl
  refine rest _ ?_;simp only[Sq,aa,ak,s0,s5,s6,s7];exact⟨rfl,rfl⟩
def qeE{A:Mem}{ws:List rJ}{x:I}{quo:Nat}(hx:te A ws x)(hw:∀w∈ws,(∀d∈w.l,d.wt<4294967296)/\w.s<256)(hq:quo<65536):∃v A',az O 3 [x,.int .u16 quo] A v A'/\v=.bool ae:=by
 refine cZ (aD BU) IY (by kernel_rfl) ?_;obtain⟨v1,B,⟨g1,h1⟩,kB,p,rfl,hD⟩:=qd5 (A:=A) (quo:=quo);obtain⟨r,C,⟨g2,h2⟩,hR,kC⟩:=qff (A:=B) (q:=quo);have hDC:=hD.kp kC;have cv:j' O 23 3 (.int .u16 quo)=.ok (.int .i64 quo):=eX (by kernel_rfl) u3 (ct (by omega));have hxC:=hx.kf (kB.f.trans kC.f);have hlen:=hxC.len;have kw:=λ ih A=>qaK (ih:=ih) (A:=A)
 obtain⟨o0,n0⟩:=UQ quo;simp only[pV]at*;apply W.ic (g1+g2)
 .intro M hM _;simp(disch:=first|decide+kernel|omega)only[cW,gM,Aq,aa,cv,h1,h2];rfl
 apply W.q
 .intro M;simp(config:={maxSteps:=4000000})(disch:=first|decide+kernel|omega|simp only[Wq,aa])only[cW,gM,Aq,av,reduceIte,aa,ak,fm,uG,wK,eY];rfl
 apply W.seq;apply W.q
 .intro M;simp(disch:=first|decide+kernel|omega)only[cW,gM,Aq,aa];rfl
 apply W.block;refine W.up (min (Z ws) 8) (λ i t D=>∃E,BX C p r i E D/\Sl t [(0,x),(5,pV p),(6,pV r),(7,.int .i64 i)]) ?_ (a8 _) ⟨D0 quo,⟨hDC,hR,o0,n0,by show quo<_;omega,a8 _,a8 _,a8 _,m9.refl _⟩,?_⟩
 .rintro i t D hi ⟨E,hE,hs⟩;by_cases hlt:i<Z ws
  .by_cases h8:i<8
   .obtain⟨w1,w2⟩:=hw _ (ff hlt);refine(qiz hE hxC h8 (aZ hlt) w1 w2 hs).mono ?_;rintro e' s' ⟨rfl,t',D',E',rfl,hE',hs'⟩;exact⟨by omega,t',D',rfl,E',hE',hs'⟩
   .obtain⟨s0,s5,s6,s7,-⟩:=hs;apply W.run 20
    .intro M;simp(config:={maxSteps:=4000000})(disch:=first|decide+kernel|omega|simp only[Wq,aa])only[js,cW,gM,Aq,av,reduceIte,aa,ak,s0,s7,hlen,hlt,h8];rfl
    apply W.run 40
    .intro M;simp(disch:=first|decide+kernel|omega)only[cW,gM,Aq,aa,kw];rfl
    exact⟨by simp,rfl,_,(by simp only[gM,Aq,aa]<;>rfl),rfl⟩
  .obtain⟨s0,s5,s6,s7,-⟩:=hs;apply W.run 20
   .intro M;simp(config:={maxSteps:=4000000})(disch:=first|decide+kernel|omega|simp only[Wq,aa])only[js,cW,gM,Aq,av,reduceIte,aa,ak,s0,s7,hlen,hlt];rfl
   apply W.run 40
   .intro M;simp(disch:=first|decide+kernel|omega)only[cW,gM,Aq,aa,kw];rfl
   exact⟨by simp,rfl,_,(by simp only[gM,Aq,aa]<;>rfl),rfl⟩
 .simp only[Sq,aa,ak];exact⟨rfl,rfl⟩
end Go.Proofs.YtjoceidiioppiaaGreatDoor.sto
end
