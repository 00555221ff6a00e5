/- The abstract machine, the walk of the law and its plain laws, made small by a program; part 9: no conditions but those in each theorem. -/
import Derived.Test.YtdobfpkceacneaaGreatDoorQ08
set_option maxHeartbeats 16000000
set_option maxRecDepth 100000
set_option linter.unusedSimpArgs false
set_option linter.unusedVariables false
set_option linter.defProp false
noncomputable section
open Go renaming Code→aH,Operand→bA,TypeId→aj,Value→O
open Int renaming toNat_natCast→D9
open List renaming append_nil→kR,drop_eq_getElem_cons→nb,drop_length→xZ,drop_zero→vZ,filter_append→Hj,findIdx?_eq_none_iff→Hk,flatMap_cons→j',flatten_cons→s9,flatten_nil→Hm,getElem?_append_left→eG,getElem?_append_right→ez,getElem?_cons_succ→dU,getElem?_cons_zero→dX,getElem?_eq_getElem→aV,getElem?_eq_some_iff→bg,getElem?_map→da,getElem_map→v_,getElem_mem→ik,getElem_of_mem→rA,length→Z,length_append→aU,length_cons→cd,length_drop→qx,length_filter_le→By,length_map→aR,length_nil→dL,length_pos_iff→iG,length_singleton→fg,length_take→db,map_append→fY,map_cons→eU,map_eq_nil_iff→mH,map_nil→rB,mem_append→mI,mem_cons→cC,mem_cons_of_mem→cU,mem_cons_self→cM,mem_filter→qy,mem_flatten→Hq,mem_map→dA,mem_of_getElem?→fh,mem_of_mem_take→wa,mem_singleton→ee,nodup_nil→qz,not_mem_nil→en,pairwise_iff_getElem→ue,range→jE,sum_cons→BD,take_add_one→zR,take_length→dY,take_of_length_le→ug,take_succ_eq_append_getElem→eH,take_take→zS
open Nat renaming add_zero→dN,beq→aL,ble→au,blt→aM,blt_eq→bT,eq_zero_or_pos→BH,le_refl→aJ,le_trans→dp,lt_irrefl→gY,lt_of_lt_of_le→dc,max_eq_right→yh,min_eq_right→zY,mod_lt→iU,mul_le_mul→BI,mul_one→nf,reduceAdd→ak,reduceEqDiff→V,sub_self→gZ,sub_zero→iV,zero_add→dO,zero_le→a6
open Option renaming map_some→fZ,none→Y,some→U
open Option.some renaming inj→je
open Go.Proofs.Tryz renaming f115→yr,f12→yu,f143→pW,f18→yz,f184→BS,f20→tp,f230→BT,f266→Ab,f284→yE,f3→hU,f307→BW,f5→uy,f6→rO,f66→yF,f7→wE,func3→BX
open Bool renaming false→af,true→aa
namespace Go.Proofs.YtdobfpkceacneaaGreatDoor.sto
open Go.Am Go.Mdl Go.Sto Go.Shelf
variable {A B:Mem}{p pf ml mn b mf:Nat}{ps:List Nat}
def gW.PK{P:aj->Prop}{D:cT}(h:gW A p D pf ml mn b mf ps)(K:KT P A B)(hP:P 101/\P 165/\P 297/\P 3/\P 9/\P 228/\P 332)(hm:∀(m:Nat) (es:List MapEntry) (c:Nat),A.get m=U (.map es c)->B.get m=A.get m):gW B p D pf ml mn b mf ps:=by
 obtain⟨h1,h2,⟨h3,h3'⟩,h4,h5,h6⟩:=h;obtain⟨p1,p2,p3,p4,p5,p6,p7⟩:=hP;refine⟨K.vb h1 p1,h2.kt K ⟨p2,p3,p4,p5⟩ λ m es c h _=>hm m es c h,⟨dc h3 K.1,by rw[hm _ _ _ h3'];exact h3'⟩,h4,λ i f hf=>?_,h6⟩;obtain⟨q,e1,e2⟩:=h5 i f hf;have e2':=e2;obtain⟨_,e3,-⟩:=e2';exact⟨q,e1,e2.kt K (K.2.1 _ _ _ _ p6 e3) ⟨p7,p5⟩⟩
def oD.kt{P:aj->Prop}{l:List aD}{v:O}(h:oD A l v)(K:KT P A B)(hP:P 153/\P 239/\P 304):oD B l v:=by
 obtain⟨q,y,rfl,h1,b,rows,h2,h3,h4⟩:=h;refine⟨q,y,rfl,K.vb h1 hP.1,b,rows,K.fx h2 hP.2.1,h3,λ i s hs=>?_⟩;obtain⟨x,e1,b',e2⟩:=h4 i s hs;exact⟨x,e1,b',K.fx e2 hP.2.2⟩
def qjJ:cX I 57=.ok (.agg ⟨[iN 0,iN 0,iN 0]⟩):=by kernel_rfl
def Th:aY I 57=.ok 3:=by kernel_rfl
def qjK:cX I 58=.ok (.pointer Y):=by kernel_rfl
def LM:cX I 9=.ok (ag []):=by kernel_rfl
def Wy{a b c d e f g h:List O}:eo I 90 8 [(0,eg (44,a)),(1,eg (44,b)),(2,eg (46,c)),(3,eg (48,d)),(4,eg (50,e)),(5,eg (52,f)),(6,eg (54,g)),(7,eg (56,h))]=.ok (ae 94 [eg (44,a),eg (44,b),eg (46,c),eg (48,d),eg (50,e),eg (52,f),eg (54,g),eg (56,h)],.dy 8 16):=by kernel_rfl
def pn:=cg yz
def W6:yz.body=U (.seq (sub pn [0]) (.seq (sub pn [1,0]) (.seq (sub pn [1,1,0]) (.seq (sub pn [1,1,1,0]) (.seq (sub pn [1,1,1,1,0]) (.seq (sub pn [1,1,1,1,1,0]) (.seq (sub pn [1,1,1,1,1,1,0]) (.seq (sub pn [1,1,1,1,1,1,1,0]) (sub pn [1,1,1,1,1,1,1,1]))))))))):=by kernel_rfl
def qcq{t:bA}:gP I A.get .neq 25 t (.const (.pointer Y)) (pw b 0) (.pointer Y)=.ok (.bool aa):=by kernel_rfl
variable {n:Nat}
def KU:0<(iQ n).length/\(iQ n).length<=64:=by
 unfold iQ;cases aM n 10<;>exact⟨by simp,by simp⟩
def oT(n:Nat)(l:List aD):Nat×Nat×Nat:=(n,Z l,(crc.ek (iw l)).length)
def qgC{D:cT}{l:List aD}{x:O}(h:eu A p D)(ho:iH D)(hN:oY D.ns)(hq:D.q<100000000)(hs:D.st<900)(hnn:Z D.ns<900)(hn:1<=n/\n<=11)(hx:dK A l x)(hlo:oX l)(hw:iQ n∉D.ns)(hsz:fp D.fs+(iY l).length<=D.q):
 ∃v A',az I 18 [pV p,.int .i64 n,x] A v A'/\KT dT A A'/\∃sp,v=.tuple ⟨[.agg ⟨cF (oT n l)⟩,sp,iN 0]⟩/\eu A' p (DV D (iQ n) (iY l))/\oD A' l sp:=by
 refine c_ (aN Tryz.func18) W6 (by kernel_rfl) ?_;generalize hk:A.next=k
 have hxc:x.cells.toList=[x]/\bI x=aa:=by
  obtain⟨b,hb⟩:=hx;exact ai.di hb
 have k1:=Kp.alloc A (ae 25 [pV p]);have v1:=aK A 25 [pV p];have n1:(A.alloc (ae 25 [pV p])).next=k+1:=by rw[aA,hk]
 generalize hB1:A.alloc (ae 25 [pV p])=B1 at k1 v1 n1;have k2:=Kp.alloc B1 (ae 40 [x]);have v2:=aK B1 40 [x];have n2:(B1.alloc (ae 40 [x])).next=k+2:=by rw[aA,n1]
 generalize hB2:B1.alloc (ae 40 [x])=B2 at k2 v2 n2;have k3:=Kp.alloc B2 (ae 57 (cF (0,0,0)));have v3:=aK B2 57 (cF (0,0,0));have n3:(B2.alloc (ae 57 (cF (0,0,0)))).next=k+3:=by rw[aA,n2]
 generalize hB3:B2.alloc (ae 57 (cF (0,0,0)))=B3 at k3 v3 n3;have k4:=Kp.alloc B3 (ae 9 [ag []]);have v4:=aK B3 9 [ag []];have n4:(B3.alloc (ae 9 [ag []])).next=k+4:=by rw[aA,n3]
 generalize hB4:B3.alloc (ae 9 [ag []])=B4 at k4 v4 n4;have k5:=Kp.alloc B4 (ae 58 [.pointer Y]);have v5:=aK B4 58 [.pointer Y];have n5:(B4.alloc (ae 58 [.pointer Y])).next=k+5:=by rw[aA,n4]
 generalize hB5:B4.alloc (ae 58 [.pointer Y])=B5 at k5 v5 n5;have s6:bX I (B5.alloc (ae 9 [ag []])) 9 (pw B5.next 0) (ag (iQ n))=.ok (B5.alloc (ae 9 [ag (iQ n)])):=sS vj rfl rfl (by simp);have k6:=Kp.alloc B5 (ae 9 [ag (iQ n)]);have v6:=aK B5 9 [ag (iQ n)];have n6:(B5.alloc (ae 9 [ag (iQ n)])).next=k+6:=by rw[aA,n5]
 generalize B5.alloc (ae 9 [ag (iQ n)])=B6 at s6 k6 v6 n6;obtain⟨g1,h1⟩:=R9 (b:=aa) (c:=1);have k7:=(Kp.alloc B6 (ae 4 [.bool aa])).trans (Kp.alloc (B6.alloc (ae 4 [.bool aa])) (ae 48 [iN 1]));have n7':(B6.alloc (ae 4 [.bool aa])).next=k+7:=by rw[aA,n6]
 have v7:=(aK B6 4 [.bool aa]).kp (Kp.alloc (B6.alloc (ae 4 [.bool aa])) (ae 48 [iN 1]));have n7:((B6.alloc (ae 4 [.bool aa])).alloc (ae 48 [iN 1])).next=k+8:=by rw[aA,n7']
 generalize (B6.alloc (ae 4 [.bool aa])).alloc (ae 48 [iN 1])=B7 at h1 k7 v7 n7;obtain⟨g2,h2⟩:=R9 (A:=B7) (b:=aa) (c:=2);have k8:=(Kp.alloc B7 (ae 4 [.bool aa])).trans (Kp.alloc (B7.alloc (ae 4 [.bool aa])) (ae 48 [iN 2]));have n8':(B7.alloc (ae 4 [.bool aa])).next=k+9:=by rw[aA,n7]
 have v8:=(aK B7 4 [.bool aa]).kp (Kp.alloc (B7.alloc (ae 4 [.bool aa])) (ae 48 [iN 2]));have n8:((B7.alloc (ae 4 [.bool aa])).alloc (ae 48 [iN 2])).next=k+10:=by rw[aA,n8']
 generalize (B7.alloc (ae 4 [.bool aa])).alloc (ae 48 [iN 2])=B8 at h2 k8 v8 n8;rw[hk]at v1;rw[n1]at v2;rw[n2]at v3;rw[n3]at v4;rw[n4]at v5;rw[n5]at v6 s6;rw[n6]at v7 h1;rw[n7]at v8 h2;have ls:List (FuncId×List O):=[];generalize hL: [(44,[pV (k+6),pV (k+6+1)]),(44,[pV (k+8),pV (k+8+1)]),(46,[pV (k+1),pV (k+3)]),(48,[pV (k+3),pV (k+4)]),(50,[pV k,pV (k+5)]),(52,[pV k,pV (k+5),pV (k+3)]),(54,[pV k,pV (k+5)]),(56,[pV k])]=L;have bs:=Wy (a:=[pV (k+6),pV (k+6+1)]) (b:=[pV (k+8),pV (k+8+1)]) (c:=[pV (k+1),pV (k+3)]) (d:=[pV (k+3),pV (k+4)]) (e:=[pV k,pV (k+5)]) (f:=[pV k,pV (k+5),pV (k+3)]) (g:=[pV k,pV (k+5)]) (h:=[pV k]);have hrow: [eg (44,[pV (k+6),pV (k+6+1)]),eg (44,[pV (k+8),pV (k+8+1)]),eg (46,[pV (k+1),pV (k+3)]),eg (48,[pV (k+3),pV (k+4)]),eg (50,[pV k,pV (k+5)]),eg (52,[pV k,pV (k+5),pV (k+3)]),eg (54,[pV k,pV (k+5)]),eg (56,[pV k])]=L.map eg:=by rw[<-hL];rfl
 rw[hrow]at bs;have k9:=Kp.alloc B8 (ae 94 (L.map eg));have v9:=aK B8 94 (L.map eg);have n9:(B8.alloc (ae 94 (L.map eg))).next=k+11:=by rw[aA,n8]
 generalize hB9:B8.alloc (ae 94 (L.map eg))=B9 at k9 v9 n9;rw[n8]at v9;have hsl:ai B9 94 1 (k+10) (L.map λ q=>[eg q]) (.slice (U ⟨k+10,0,Y⟩) 8 16):=by
  refine .inr ⟨.var (L.map eg).length,16,by rw[aR,<-hL];rfl,v9.1,?_,λ l hl=>by obtain⟨_,-,rfl⟩:=dA.1 hl;rfl,.inl (by rw[aR,<-hL];rfl)⟩;rw[show(L.map λ q=>[eg q]).flatten=L.map eg by rw[<-hL];rfl];exact v9.2
 have k79:=k8.trans k9;have k69:=k7.trans k79;have k59:=k6.trans k69;have k49:=k5.trans k59;have k39:=k4.trans k49;have k29:=k3.trans k39;have k19:=k2.trans k29;have kA9:=k1.trans k19;have V1:=v1.kp k19;have V2:=v2.kp k29;have V3:=v3.kp k39;have V4:=v4.kp k49;have V5:=v5.kp k59;have V6:=v6.kp k69;have V7:=v7.kp k79;have V8:=v8.kp k9;obtain⟨F,y,hSt,KF,hDF,W3,Y10,hSF,Y9⟩:∃(F:Mem) (y:O),wk (k+10) L B9 0 F/\KT dT A F/\eu F p (DV D (iQ n) (iY l))/\VB F 57 (k+2) (.var 3) (cF (0,0,0))/\VB F 58 (k+4) (.var 1) [y]/\oD F l y/\VB F 9 (k+3) (.var 1) [ag (iY l)]:=by
  rw[<-hL];obtain⟨C,h33,nC,fC,V9C⟩:=qet V2 V4 (hx.kp kA9) hlo;obtain⟨E,y,h34,V10E,hSE,nE,fE⟩:=qeu (s:=.pointer Y) V9C ⟨by omega,V5.2.same (fC _ (by omega) (by omega))⟩ hlo;have fBE:∀z,z<k+11->z≠k+3->z≠k+4->E.get z=B9.get z:=λ z hz h1 h2=>by rw[fE z (by omega) h2,fC z (by omega) h1]
  have kAE:Kp A E:=⟨by have:=kA9.1;omega,λ z hz=>by rw[fBE z (by omega) (by omega) (by omega),kA9.2 z hz]⟩;have hil:(iY l).length<900000:=by
   have h1:(iY l).length=(iw l).length+4:=by unfold iY crc.ek;rw[aU,crc.Ay]
   have h2:(iw l).length<800000:=hlo.2.2.2.2.2.2.2.2;omega
  have V9E:VB E 9 (k+3) (.var 1) [ag (iY l)]:=⟨by omega,V9C.2.same (fE _ (by omega) (by omega))⟩;have VrE:VB E 94 (k+10) (.var (L.map eg).length) (L.map eg):=⟨by omega,v9.2.same (fBE _ (by omega) (by omega) (by omega))⟩;obtain⟨F,hF,hD,kF⟩:=qhY (z3:=k) (z9:=k+3) (z11:=k+5) (h.kp kAE) ho hN hq hs hnn hw KU hsz hil ⟨by omega,V1.2.same (fBE _ (by omega) (by omega) (by omega))⟩ V9E ⟨by omega,V6.2.same (fBE _ (by omega) (by omega) (by omega))⟩ VrE;exact⟨F,y,.ok (R_ V7) (aJ _) rfl (.ok (R_ V8) (aJ _) rfl (.ok h33 nC (fC _ (by omega) (by omega)) (.ok h34 nE (fE _ (by omega) (by omega)) hF))),kAE.kt.trans kF,hD,kF.vb ⟨by omega,V3.2.same (fBE _ (by omega) (by omega) (by omega))⟩ (by decide),kF.vb V10E (by decide),hSE.kt kF ⟨by decide,by decide,by decide⟩,kF.vb V9E (by decide)⟩
 obtain⟨g3,h3⟩:=KO hsl hSt (by rw[<-hL];show 8<1000;omega);have hsN:∀ih A,cH I ih (.fn 42 [iN 4,.int .i64 n]) A=.ok (.val (ag (iQ n)) A):=λ ih A=>by
  rw[qbc (by omega)];unfold F0;rw[aC (by omega),D9]
 have fnl:∀t:T O,ev t (.func 43)=.ok (.func (.func 43) ⟨[]⟩ ⟨[]⟩):=λ t=>sr t 43
 have l11a:ax I B6.get 9 (pw (k+5) 0)=.ok (ag (iQ n)):=v6.ld rfl u9 rfl;have l11b:ax I B7.get 9 (pw (k+5) 0)=.ok (ag (iQ n)):=(v6.kp k7).ld rfl u9 rfl;have lp6:ax I B6.get 25 (pw k 0)=.ok (pV p):=by
  obtain⟨d,hd,ha⟩:=n_;exact(v1.kp (k2.trans (k3.trans (k4.trans (k5.trans k6))))).ld rfl hd ha
 have hne:j8 .neq (iQ n) []=.ok (.bool aa):=by
  rw[Lh,decide_eq_true];intro e;have:=(KU (n:=n)).1;rw[e]at this;simp at this
 clear hL hrow v1 v2 v3 v4 v5 v6 v7 v8 v9 V1 V2 V4 V5 V6 V7 V8 k19 k29 k39 k49 k59 k69 k79 k1 k2 k3 k4 k5 k6 k7 k8 k9 hsl hSt;have fin:∀(sg:Nat×Nat×Nat),∃G,bX I F 57 (pw (k+2) 0) (.agg ⟨cF sg⟩)=.ok G/\ax I G.get 57 (pw (k+2) 0)=.ok (.agg ⟨cF sg⟩)/\KT dT A G/\eu G p (DV D (iQ n) (iY l))/\KT (·≠57) F G:=λ sg=>by
  obtain⟨G,sG,vG,nG,fG⟩:=ja (tb:=I) (t:=57) (l':=cF sg) (by exact Th) W3.2 rfl (by simp[cF]) (by
   intro v hv;simp only[cF,cC,en,or_false]at hv;rcases hv with rfl|rfl|rfl<;>rfl)
  obtain⟨d,hd1,hd2⟩:=b9 (t:=57) (p:=aa) (by kernel_rfl);have K:=KT.sQ W3 (B:=G) (by omega) λ z _=>fG z
  obtain⟨pf,ml,mn,b,mf,ps,hP⟩:=hDF;have hkF:=KF.1;refine⟨G,sG,bU hd1 hd2 Th vG,⟨by omega,λ e z q l he hz=>?_,λ z hz=>?_⟩,⟨pf,ml,mn,b,mf,ps,gW.PK hP K ⟨by decide,by decide,by decide,by decide,by decide,by decide,by decide⟩ λ m es c hm=>fG m (Ne.symm (W3.cN hm))⟩,K⟩
  .have:=hz.1;rw[fG z (by omega),KF.2.1 e z q l he hz]
  .have:=hz.1;rw[fG z (by omega),KF.2.2 z hz]
 simp only[pV,eg]at bs h1 h2 h3 lp6 hB1;simp only[cF]at hB3;simp only[pV];apply W.q2
 .intro M _;simp(disch:=first|decide+kernel|omega)only[pn,yz,Aq,V,pA,hxc.1,qjJ,aX,hB1,hB2,hB3,hk,n1,n2,LM,sj,hB4,n3];rfl
 apply W.q2
 .intro M _;simp(disch:=first|decide+kernel|omega)only[pn,yz,Aq,V,qjK,pA,hB5,n4,hsN,LM,sj,s6,n5];rfl
 apply W.ie (g1+g2+g3)
 .intro M hM _;simp(config:={maxSteps:=4000000})(disch:=first|decide+kernel|omega|simp only[Wq,V])only[pn,yz,Aq,V,fnl,au,reduceIte,ak,lp6,Dh,Kx,qcq,eO,h1,l11a,l11b,hne,h2,fb,bs,hB9,n8,h3,AY,Fq,bY [(5,3)]];rfl
 apply W.seq;obtain⟨G,sG,lG,KG,hDG,KFG⟩:=fin (oT n l);have l10:ax I F.get 58 (pw (k+4) 0)=.ok y:=by
  obtain⟨d,hd,ha⟩:=Uk;exact Y10.ld rfl hd ha
 have l10G:ax I G.get 58 (pw (k+4) 0)=.ok y:=by
  obtain⟨d,hd,ha⟩:=Uk;exact(KFG.vb Y10 (by decide)).ld rfl hd ha
 have l9:ax I F.get 9 (pw (k+3) 0)=.ok (ag (iY l)):=Y9.ld rfl u9 rfl;obtain⟨g4,h4⟩:=SD hSF;have ll:=lK (tb:=I) (t:=9) (l:=iY l) u9;have hys:cP 100 y y=aa:=by
  obtain⟨q,_,rfl,-⟩:=hSF;exact zi q
 have hyc:∃q,y=pV q:=by
  obtain⟨q,_,rfl,-⟩:=hSF;exact⟨q,rfl⟩
 simp only[cF,oT]at sG lG;rw[show crc.ek (iw l)=iY l from rfl]at sG lG;have bd:=VY (a:=(n:Int)) (b:=(Z l:Int)) (c:=((iY l).length:Int));apply W.run 20
 .intro M;simp(disch:=first|decide+kernel|omega)only[pn,yz,Aq,V];rfl
 apply W.ct (g4) 40
 .intro M hM;simp(config:={maxSteps:=4000000})(disch:=first|decide+kernel|omega|simp only[Wq,V])only[pn,yz,Aq,au,reduceIte,V,ak,l10,l10G,h4,l9,ll,bd,sG,AY,hys,Fq,bY [(3,2),(6,2),(6,7)]];rfl
 exact⟨by simp,rfl,_,(by simp only[yz,Aq,V,lG,cF,oT]<;>rfl),KG,y,rfl,hDG,hSF.kt KFG ⟨by decide,by decide,by decide⟩⟩
abbrev fV (q:Nat×List O×List O):O:=.func (.func q.1) ⟨q.2.1⟩ ⟨q.2.2⟩
variable {C:Mem}
def KT.ext{P:aj->Prop}(K:KT P A B)(hn:B.next<=C.next)(h:∀z,z<A.next->C.get z=B.get z):KT P A C:=
 ⟨dp K.1 hn,λ e z k l he hv=>by rw[h z hv.1,K.2.1 e z k l he hv],λ z hz=>by rw[h z hz.1,K.2.2 z hz]⟩
def qiE:I.aB 113=U (.slice 115):=by kernel_rfl
def qgP:aY I 48=.ok 1:=by kernel_rfl
def Gn:pI 113 115 1=aa:=by kernel_rfl
def qiL:∃d,I.aB 115=U d/\cW d=af:=b9 (by kernel_rfl)
def d66:=cg yF
def CD:aH:=sub d66 [1,0,1,0,0]
def CE:aH:=sub d66 [1,0,1,0,1]
def YD:yF.body=U (.seq (sub d66 [0]) (.seq (.seq (sub d66 [1,0,0]) (.block 0 (.rangeFunc (.tmp 5) #[6] CD CE))) (.seq (sub d66 [1,1,0]) (sub d66 [1,1,1])))):=by kernel_rfl
def mV(t:T O)(d:Nat):eT:=gR t 10 [6] CD CE d
def d184:=cg BS
def IQ:aH:=sub d184 [1,0,0]
def Yt:BS.body=U (.seq (sub d184 [0]) (.block 0 (.loop IQ))):=by kernel_rfl
variable {t:T O}{mk:Nat}
def qdO{E:Mem}(h:E.get (mk+1)=U (.loop (mV t mk))):∃F,(∃g,∀M,g<=M->cH I (exec I M) (.round (mk+1) [iN 0]) E=.ok (.val (.bool aa) F))/\F.next=E.next/\∀z,F.get z=E.get z:=by
 generalize hF:E.set (mk+1) (.loop {mV t mk with state:=.busy})=F;have hLF:F.get (mk+1)=U (.loop {mV t mk with state:=.busy}):=by rw[<-hF,cr,aC rfl]
 have hq:∃C,(∃g,∀N,g<=N->cH I (exec I N) (.round (mk+1) [iN 0]) E=.ok (.val (.bool aa) C))/\C=F.set (mk+1) (.loop (mV t mk)):=by
  refine xF h rfl ?_;show W I CD ⟨_,10,[],E,U (mk+1)⟩ _;apply W.run 20
  .intro M;simp(disch:=omega)only[CD,d66,yF,Aq,V];rfl
  refine⟨rfl,_,h,rfl,?_⟩;show W I CE ⟨_,10,[],E.set (mk+1) (.loop {mV t mk with state:=.busy}),U (mk+1)⟩ _;rw[hF];apply W.run 20
  .intro M;simp(disch:=decide+kernel)only[CE,d66,yF,Aq,V];rfl
  exact⟨rfl,rfl,_,hLF,rfl⟩
 obtain⟨C,hc,rfl⟩:=hq;refine⟨_,hc,by rw[cE,<-hF,cE],λ z=>?_⟩;rw[cr];split
 .rename_i e;rw[e,h]
 .rename_i e;rw[<-hF,cr,aq e]
def qgb{fs:List (Nat×List O×List O)}{x:O}(P:Nat->Mem->Prop)(hx:ai A 115 1 b (fs.map λ q=>[fV q]) x)(hl:Z fs<1000)
 (hs:∀i q D,fs[i]?=U q->P i D->∃E,az I q.1 (q.2.1++q.2.2) D (iN 0) E/\KT dT D E/\P (i+1) E)(hP:∀i D E,P i D->Kp D E->P i E)(h0:P 0 A):
 ∃v A',az I 66 [x] A v A'/\v=iN 0/\KT dT A A':=by
 refine mc (aN Tryz.func66) YD (by rw[Tryz.ntmps66];simp) (by kernel_rfl) (by kernel_rfl) ?_;generalize ha:A.next=a
 have n1:(A.alloc (ae 48 [iN 0])).next=a+1:=by rw[aA,ha]
 have k1:=Kp.alloc A (ae 48 [iN 0]);have v1:=aK A 48 [iN 0];rw[ha]at v1;have z48:cX I 48=.ok (iN 0):=by kernel_rfl
 have xc:=(ai.di hx).1;apply W.q
 .intro M;simp(disch:=omega)only[d66,yF,Aq,V,z48,sd,ha];rfl
 generalize A.alloc (ae 48 [iN 0])=B at n1 k1 v1;have k2:=Kp.alloc B (ae 113 [x]);have v2:=aK B 113 [x];have n2:=aA B (ae 113 [x]);have a122:az I 122 [x] B (.func (.func 184) ⟨[]⟩ ⟨[pV B.next]⟩) (B.alloc (ae 113 [x])):=by
  simp only[pV];refine cG 60 (b_ Tryz.func122) (by kernel_rfl) λ M=>?_
  simp(disch:=omega)only[Tryz.f122,Aq,V,xc,qU,fb]<;>rfl
 obtain⟨g1,h1⟩:=a122;generalize B.alloc (ae 113 [x])=C at k2 v2 n2 h1;apply W.seq;apply W.qG (g1)
 .intro M hM;simp(disch:=omega)only[d66,yF,Aq,V,h1];rfl
 apply W.block;generalize ht0:T.set _ _ _=t0;have hsl:Sl t0 [(2,pV a),(5,.func (.func 184) ⟨[]⟩ ⟨[pV B.next]⟩)]:=by
  rw[<-ht0];simp only[Sq,V,ak,pV]
 clear ht0;obtain⟨h2,h5,-⟩:=hsl;have kC:=k1.trans k2;have kJ:=(Kp.alloc C .defd).trans (Kp.alloc (C.alloc .defd) (.loop (mV t0 C.next)));have nJ1:=aA C .defd;have nJ:((C.alloc .defd).alloc (.loop (mV t0 C.next))).next=C.next+2:=by rw[aA,nJ1]
 have jL:((C.alloc .defd).alloc (.loop (mV t0 C.next))).get (C.next+1)=U (.loop (mV t0 C.next)):=by have:=cR (C.alloc .defd) (.loop (mV t0 C.next));rwa[nJ1]at this
 have jM:((C.alloc .defd).alloc (.loop (mV t0 C.next))).get C.next=U .defd:=by rw[(Kp.alloc (C.alloc .defd) _).2 _ (by omega)];exact cR C .defd
 generalize hJ:(C.alloc .defd).alloc (.loop (mV t0 C.next))=J at kJ nJ jL jM;have kAJ:=kC.trans kJ;obtain⟨d115,a1,a2⟩:=qiL;obtain⟨va,E,hA,hPE,hKE⟩:∃va E,az I 184 [.func (.yield (C.next+1)) ⟨[]⟩ ⟨[]⟩,pV B.next] J va E/\P (Z fs) E/\KT dT J E:=by
  refine c_ (aN Tryz.func184) Yt (by kernel_rfl) ?_;have l1:=(v2.kp kJ).l0 qiE rfl;have len:=tW Gn (hx.same kAJ.1 (kAJ.2 b));rw[aR]at len;simp only[pV];apply W.q
  .intro M;simp(disch:=decide+kernel)only[d184,BS,Aq,V,l1,len];rfl
  apply W.block;refine W.up (Z fs) (λ i t D=>P i D/\KT dT J D/\Sl t [(0,.func (.yield (C.next+1)) ⟨[]⟩ ⟨[]⟩),(5,x),(6,iN (Z fs)),(7,.int .i64 i)]) ?_ (a6 _) ⟨hP _ _ _ h0 kAJ,Kp.kt (Kp.refl J),?_⟩
  .rintro i t D hi ⟨hPD,hK,g0,g5,g6,g7,-⟩;by_cases hlt:i<Z fs
   .obtain⟨q,hq⟩:∃q,fs[i]?=U q:=⟨_,aV hlt⟩;obtain⟨E,⟨gs,hgs⟩,kE,hPE⟩:=hs i q D hq hPD;have kJE:=hK.trans kE;obtain⟨F,⟨gr,hgr⟩,nF,fF⟩:=qdO (by rw[kJE.2.2 _ ⟨by omega,_,jL,trivial⟩];exact jL);have kF:Kp E F:=⟨by omega,λ z _=>fF z⟩;have hxD:=hK.fx (hx.same kAJ.1 (kAJ.2 b)) (by decide);have i1:=zj Gn hxD (by rw[aR];exact hlt);have i2:=ai.load (j:=0) hxD a1 a2 (by rw[da,hq];rfl) rfl (by omega);rw[dN]at i2;simp only[fV]at i2;apply W.ct (gs+gr) 20
    .intro M hM;simp(disch:=first|decide+kernel|omega)only[IQ,d184,BS,Aq,V,g0,g5,g6,g7,hlt,i1,i2,hgs,hgr];rfl
    refine⟨hlt,_,_,rfl,hP _ _ _ hPE kF,kJE.trans kF.kt,?_⟩;simp only[Sq,V,ak,g0,g5,g6]
   .obtain rfl:i=Z fs:=by omega
    apply W.run 20
    .intro M;simp(disch:=decide+kernel)only[IQ,d184,BS,Aq,V,g6,g7,gY];rfl
    exact⟨by simp,rfl,_,(by simp only[BS,Aq,V]<;>rfl),hPD,hK⟩
  .simp only[Sq,V,ak]
 have hE1:E.get (C.next+1)=U (.loop (mV t0 C.next)):=by rw[hKE.2.2 _ ⟨by omega,_,jL,trivial⟩];exact jL
 have hE2:E.get C.next=U .defd:=by rw[hKE.2.2 _ ⟨by omega,_,jM,trivial⟩];exact jM
 have hans:az I 184 ([]++[.func (.yield (C.next+1)) ⟨[]⟩ ⟨[]⟩]++[pV B.next]) ((C.alloc .defd).alloc (.loop (gR t0 10 [6] CD CE C.next))) va E:=by
  show az I 184 _ ((C.alloc .defd).alloc (.loop (mV t0 C.next))) va E;rw[hJ];exact hA
 have hev:ev t0 (.tmp 5)=.ok (.func (.func 184) ⟨[]⟩ ⟨[pV B.next]⟩):=by simp only[ev,h5]
 refine W.qn hev hans hE1 (by intro h;cases h) rfl ?_;have nK:(E.set (C.next+1) (.loop {(mV t0 C.next:eT)with state:=.exhausted})).next=E.next:=cE _ _ _
 have fK:∀z,z≠C.next+1->(E.set (C.next+1) (.loop {(mV t0 C.next:eT)with state:=.exhausted})).get z=E.get z:=λ z hz=>by rw[cr,aq hz]
 generalize E.set (C.next+1) (.loop {(mV t0 C.next:eT)with state:=.exhausted})=K at nK fK;have hnE:=hKE.1;have vJ:=v1.kp (k2.trans kJ);have vE:=hKE.vb vJ (by decide);obtain⟨N,sN,vN,nN,fN⟩:=df (tb:=I) (t:=48) (o:=0) (v:=iN 0) qgP (vE.2.same (fK _ (by omega))) (by simp) rfl rfl;simp only[pV]at h2;apply W.run 40
 .intro M;simp only[d66,yF,Aq,V,h2,sN];rfl
 obtain⟨qjT,t1,t2,t3⟩:=tX [C.next] N (by simp) (λ d hd=>by
  rw[ee]at hd;rw[hd,fN _ (by omega),fK _ (by omega)];exact hE2)
 have lO:ax I qjT.get 48 (pw a 0)=.ok (iN 0):=c7 qiH rfl (vN.same (t3 _ (by simp;omega))) rfl;have kAE:=(Kp.kt kAJ).trans hKE;exact⟨.inr rfl,qjT,[_],t1,(by simp only[yF,Aq,V,h2,lO]<;>rfl),rfl,kAE.ext (by omega) λ z hz=>by rw[t3 z (by simp;omega),fN z (by omega),fK z (by omega)]⟩
def qiK:∃d,I.aB 109=U d/\cW d=af:=b9 (by kernel_rfl)
def DN:∃d,I.aB 25=U d/\cW d=af:=b9 (by kernel_rfl)
abbrev ji (g p:Nat):O:=.func (.func g) ⟨[pV p]⟩ ⟨[]⟩
variable {w:List UInt8}
def SB{g:Nat}:az I 61 [ji g p,ag w] A (.func (.func 116) ⟨[]⟩ ⟨[pV A.next,pV (A.next+1)]⟩) ((A.alloc (ae 109 [ji g p])).alloc (ae 9 [ag w])):=by
 have n1:=aA A (ae 109 [ji g p]);simp only[pV];refine cG 60 (b_ Tryz.func61) (by kernel_rfl) λ M=>?_
 simp(disch:=omega)only[Tryz.f61,Aq,V,tL,sj,n1,qU,fb]<;>rfl
def R7{q1 q2 g:Nat}{v:O}(v1:VB A 109 q1 (.var 1) [ji g p])(v2:VB A 9 q2 (.var 1) [ag w])(h:az I g [pV p,ag w] A v B):az I 116 [pV q1,pV q2] A v B:=by
 obtain⟨d,hd1,hd2⟩:=qiK;have l1:=v1.l0 hd1 hd2;have l2:=v2.l0 u9 rfl;obtain⟨g1,h1⟩:=h;simp only[pV,ji]at*;refine bQ (g1) 60 (b_ Tryz.func116) (by kernel_rfl) λ M hM=>?_
 simp(disch:=omega)only[Tryz.f116,Aq,V,l1,l2,h1]<;>rfl
def qee{q1 q2 q3:Nat}{x v:O}(v1:VB A 25 q1 (.var 1) [pV p])(v2:VB A 9 q2 (.var 1) [ag w])(v3:VB A 52 q3 (.var 1) [x])(h:az I 53 [pV p,ag w,x] A v B):az I 119 [pV q1,pV q2,pV q3] A v B:=by
 obtain⟨d,hd1,hd2⟩:=DN;have l1:=v1.l0 hd1 hd2;have l2:=v2.l0 u9 rfl;have l3:=v3.l0 rn rfl;obtain⟨g1,h1⟩:=h;simp only[pV]at*;refine bQ (g1) 60 (b_ Tryz.func119) (by kernel_rfl) λ M hM=>?_
 simp(disch:=omega)only[Tryz.f119,Aq,V,l1,l2,l3,h1]<;>rfl
variable {tb:aO}{dst:Option Tmp}{pos:String}{after:Array Edge}
def qcY{ih:aH->St->R (Ex×St)}{s:St}{k:St->R (Ex×St)}{ty:aj}{g:Option (Tmp×Bool)}(args:Array bA)(ts:Array aj):bB tb ih {dst,op:=.call {callee:=.builtin .delete,args,argTypes:=ts},type:=ty,pos,after,guard:=g} s k=
 (eI s.t args.toList).bind λ a=>(tD tb s.m .delete ts.toList a).bind λ(v,A)=>bS {s with m:=A} dst v k:=by
 unfold bB;show((jX tb s.t s.m (.call _)).bind λ(v,A)=>bS {s with m:=A} dst v k)=_;simp only[jX,R.ec]
theorem NF(e:MapEntry):∀l:List MapEntry,Aj (l++[e]) (Z l)=l
 | []=>rfl
 |x::l=>by
  show x::Aj (l++[e]) (Z l)=_;rw[NF e l]
theorem J8:∀(ns:List (List UInt8)) (o:Nat),(dh ns o).length=Z ns
 | [],_=>rfl
 |n::ns,o=>by rw[dh,cd,J8 ns];rfl
def Dt:List UInt8:=[114,101,110,97,109,101]
variable {ns:List (List UInt8)}
def Ox(hw:w∉ns):(ns++[w]).findIdx? (λ n=>decide (w=n))=U (Z ns):=by
 rw[List.findIdx?_append,Hk.2 (λ n hn=>by simpa using λ e:w=n=>hw (e▸hn))];simp
variable {m c d k:Nat}
def R8{a:Nat}{u:List UInt8}(h:A.get m=U (.map (dh (ns++[w]) 0) (ns++[w]).length))(hw:w∉ns)(hm:m<A.next)(v1:VB A 9 a (.var 1) [ag w])(v2:VB A 3 c (.var 1) [.int .i64 k])(v3:VB A 9 d (.var 1) [ag u]):
 ∃B,az I 183 [.map (U m),pV a,pV c,pV d] A cL B/\B.next=A.next/\(∀z,z≠m->B.get z=A.get z)/\∃es k,B.get m=U (.map es k):=by
 have hk:∀w,e_ I 9 (ag w)=aa:=λ w=>by unfold e_;rw[u9];rfl
 have d1:tD I A .delete [162,9] [.map (U m),ag w]=.ok (cL,A.set m (.map (dh ns 0) (Z ns+1))):=by
  show Ai I A 162 (.map (U m)) (ag w)=_;unfold Ai;simp only[pM,hk,aI,h,Db,Ox hw,fZ];rw[J9,dO,<-J8 ns 0,NF,aU,fg,J8]
 obtain⟨C,hC⟩:∃C,C=A.set m (.map (dh ns 0) (Z ns+1)):=⟨_,rfl⟩;rw[<-hC]at d1;have fC:∀z,z≠m->C.get z=A.get z:=λ z hz=>by rw[hC,mq,aq hz]
 have nC:C.next=A.next:=by rw[hC];exact cE _ _ _
 have gC:C.get m=U (.map (dh ns 0) (Z ns+1)):=by rw[hC,mq,aC rfl]
 have l1:=v1.l0 u9 rfl;have l2:=(show VB C 3 c _ _ from⟨by have:=v2.1;omega,v2.2.same (fC _ (v2.cN h))⟩).l0 u3 rfl;have l3:=(show VB C 9 d _ _ from⟨by have:=v3.1;omega,v3.2.same (fC _ (v3.cN h))⟩).l0 u9 rfl;obtain⟨es,q,hm2⟩:∃es q,mw I C 162 (.map (U m)) (ag u) (.int .i64 k)=.ok (C.set m (.map es q)):=by
  unfold mw;simp only[pM,hk,aI,gC,Db];cases ns.findIdx? λ n=>decide (u=n)with
  |none=>exact⟨_,_,rfl⟩
  |some i=>exact⟨_,_,rfl⟩
 refine⟨C.set m (.map es q),?_,by rw[cE,nC],λ z hz=>by rw[mq,aq hz,fC z hz],es,q,by rw[mq,aC rfl]⟩;simp only[pV];refine cG 60 (b_ Tryz.func183) (by kernel_rfl) λ M=>?_
 simp(disch:=omega)only[Tryz.f183,Aq,V,l1,l2,l3,qcY,d1,zb,hm2,cL]<;>rfl
abbrev sT (q:List UInt8×Nat×List O):List O:=[ag q.1,.func (.func q.2.1) ⟨[]⟩ ⟨q.2.2⟩]
def qgq{mn la x:O}{fs:List (List UInt8×Nat×List O)}(P:Nat->Mem->Prop)(hV:VB A 165 p (.var 4) [.map (U ml),mn,x,la])(hml:ml<A.next)(hpm:p≠ml)(hbm:b≠ml)(hS:ai A 297 2 b (fs.map sT) x)(hl:Z fs<1000)(hx0:fs=[]->x=.slice Y 0 0)
 (hs:∀i q D,fs[i]?=U q->P i D->A.next<=D.next->∃E,az I q.2.1 (.map (U ml)::q.2.2) D cL E/\D.next<=E.next/\(∀z,z<D.next->z≠ml->E.get z=D.get z)/\P (i+1) E)(hP:∀i D E,P i D->Kp D E->P i E)(h0:P 0 A)(hz:∀D,P (Z fs) D->∃es c,D.get ml=U (.map es c)):
 ∃A',az I 143 [pV p,iN (Z fs)] A (.tuple ⟨[]⟩) A'/\A.next<=A'.next/\∀z,z<A.next->z≠p->z≠ml->A'.get z=A.get z:=by
 have lx:=hV.l2 jC rfl;have lenx:=ai.len hS jC;rw[aR]at lenx;have mn1:cQ I .min [3,3] [iN (Z fs),iN (Z fs)]=.ok (iN (Z fs)):=by rw[Am.qZ,Nat.min_self]
 have mx1:cQ I .max [3,3] [iN 0,iN (Z fs)]=.ok (iN (Z fs)):=by rw[Am.max_i64,yh (a6 _)]
 obtain⟨x1,hsl,hS1⟩:=qhw hS jC pP (by omega) λ h=>hx0 (mH.1 h)
 rw[aR]at hsl;have len1:=ai.len hS1 jC;rw[aR]at len1
 suffices hW:∃v A',az I 143 [pV p,iN (Z fs)] A v A'/\v=.tuple ⟨[]⟩/\A.next<=A'.next/\∀z,z<A.next->z≠p->z≠ml->A'.get z=A.get z by
  obtain⟨v,A',h1,rfl,h3⟩:=hW;exact⟨A',h1,h3⟩
 refine c_ (aN Tryz.func143) M6 (by kernel_rfl) ?_;simp only[pV];apply W.q
 .intro M;simp(disch:=decide+kernel)only[py,pW,Aq,V,eW,wY,eO];rfl
 apply W.seq;apply W.q
 .intro M;simp(disch:=first|decide+kernel|omega|simp only[Wq,V])only[py,pW,Aq,au,reduceIte,V,ak,bW,bV,xa,lx,lenx,mn1,mx1,hsl,len1,Fq,bY []];rfl
 apply W.block;refine W.up (Z fs) (λ i t D=>(A.next<=D.next/\∀z,z<A.next->z≠ml->D.get z=A.get z)/\P i D/\Sl t [(0,pw p 0),(20,x1),(21,iN (Z fs)),(22,.int .i64 i)]) ?_ (a6 _) ⟨⟨aJ _,λ _ _ _=>rfl⟩,h0,?_⟩
 .rintro i t D hi ⟨⟨kn,kf⟩,hPD,g0,g20,g21,g22,-⟩;by_cases hlt:i<Z fs
  .obtain⟨q,hq⟩:∃q,fs[i]?=U q:=⟨_,aV hlt⟩;have hS1D:=hS1.same kn λ hl=>kf b hl hbm
   have j1:=ai.idx (kd:=.i64) hS1D jC pP (by rw[aR];exact hlt);obtain⟨d,hd1,hd2⟩:=b9 (by kernel_rfl);have j2:=ai.bU hS1D hd1 hd2 pP (show(fs.map sT)[i]?=U (sT q) by rw[da,hq];rfl);have sE:bX I (D.alloc (ae 297 [.string .empty,.nilFunc])) 297 (pw D.next 0) (.agg ⟨sT q⟩)=.ok (D.alloc (ae 297 (sT q))):=ep pP rfl rfl (by simp) (by simp[bI,ag]);have kE:=Kp.alloc D (ae 297 (sT q));have vE:=aK D 297 (sT q);have nE:=aA D (ae 297 (sT q));generalize D.alloc (ae 297 (sT q))=E at sE kE vE nE;have lf:ax I E.get 225 (pw D.next (0+1))=.ok (.func (.func q.2.1) ⟨[]⟩ ⟨q.2.2⟩):=by
    obtain⟨d,hd,ha⟩:=GP;exact vE.ld rfl hd ha
   have lm:ax I E.get 162 (pw p 0)=.ok (.map (U ml)):=VB.ld ⟨by have:=hV.1;omega,hV.2.same (by rw[kE.2 p (by have:=hV.1;omega),kf p hV.1 hpm])⟩ rfl pM rfl;obtain⟨F,⟨g,hg⟩,nF,fF,hPF⟩:=hs i q E hq (hP _ _ _ hPD kE) (by omega);simp only[pV]at*;apply W.ct (g) 20
   .intro M hM;simp(disch:=first|decide+kernel|omega|simp only[Wq,V])only[Cx,py,pW,Aq,au,reduceIte,V,ak,g0,g20,g21,g22,hlt,j1,j2,G4,aX,sE,Fj,lf,bW,bV,Fh,lm,hg,Fq,bY [],cL];rfl
   refine⟨hlt,_,F,rfl,⟨by omega,λ z hz hm=>by rw[fF z (by omega) hm,kE.2 z (by omega),kf z hz hm]⟩,hPF,?_⟩;simp only[Sq,V,ak,g0,g20,g21]
  .obtain rfl:i=Z fs:=by omega
   have VD:VB D 165 p (.var 4) [.map (U ml),mn,x,la]:=⟨by have:=hV.1;omega,hV.2.same (kf p hV.1 hpm)⟩;have lm:=VD.l0 pM rfl;obtain⟨es,c,hmD⟩:=hz D hPD;obtain⟨g,hg⟩:=Sc hmD;have kE:=Kp.alloc D (.map es c);have nE:=aA D (.map es c);generalize D.alloc (.map es c)=E at hg kE nE;have hpD:=VD.1;obtain⟨F,sF,vF,nF,fF⟩:=df (tb:=I) (t:=163) (o:=2) (v:=.slice Y 0 0) Gt (VD.2.same (kE.2 _ hpD)) (by simp) rfl rfl;obtain⟨G,sG,vG,nG,fG⟩:=df (tb:=I) (t:=162) (o:=1) (v:=.map (U D.next)) Tb vF (by simp) rfl rfl;apply W.run 20
   .intro M;simp(disch:=decide+kernel)only[Cx,py,pW,Aq,V,g21,g22];rfl
   apply W.ct (g) 20
   .intro M hM;simp(disch:=omega)only[py,pW,Aq,V,g0,bW,bV,Fh,w_,xa,lm,hg,sF,sG];rfl
   refine⟨by simp,rfl,_,(by simp only[pW,Aq,V]<;>rfl),rfl,by show A.next<=G.next;omega,λ z hz hp hm=>?_⟩;rw[fG z hp,fF z hp,kE.2 z (by omega),kf z hz hm]
 .simp only[Sq,V,ak]
def pG(a c d:Nat):List O:=sT (Dt,183,[pV a,pV c,pV d])
def Wb{a:Nat}:ef I 297 [(0,ag Dt),(1,.func (.func 183) ⟨[]⟩ ⟨[pw a 0,pw c 0,pw d 0]⟩)]=.ok (.agg ⟨pG a c d⟩):=by kernel_rfl
def WN{a:Nat}:eo I 163 1 [(0,.agg ⟨pG a c d⟩)]=.ok (ae 297 (pG a c d),.dy 1 2):=by kernel_rfl
def qhp:pI 163 297 2=aa:=by kernel_rfl
def qf5{u:List UInt8}{x la:O}{row:List O}(hV:VB A 165 p (.var 4) [.map (U ml),.map (U mn),x,la])(hml:ml<A.next/\A.get ml=U (.map (dh ns 0) (Z ns)))(hmn:mn<A.next/\A.get mn=U (.map (dh (ns++[w]) 0) (ns++[w]).length))(hmm:ml≠mn)
 (hS:ai A 297 2 b [row] x)(hw:w∉ns)(hu:0<Z u/\Z u<=64)(hn:Z ns<1000):
 ∃A' x' b' a c d,az I 121 [pV p,ag w,ag u] A (iN 0) A'/\VB A' 165 p (.var 4) [.map (U ml),.map (U mn),x',la]/\ai A' 297 2 b' [row,pG a c d] x'/\A.next<=A'.next/\(∀z,z<A.next->z≠p->z≠mn->z≠b->A'.get z=A.get z)/\
  VB A' 9 a (.var 1) [ag w]/\VB A' 3 c (.var 1) [iN (Z ns+1)]/\VB A' 9 d (.var 1) [ag u]:=by
 obtain⟨hmn,hmn'⟩:=hmn;obtain⟨hml,hml'⟩:=hml;have hpA:=hV.1;have hpm:p≠ml/\p≠mn:=⟨hV.cN hml',hV.cN hmn'⟩;have kB1:=Kp.alloc A (ae 9 [ag w]);have vB1:=aK A 9 [ag w];have nB1:=aA A (ae 9 [ag w]);have kB2:=Kp.alloc (A.alloc (ae 9 [ag w])) (ae 9 [ag u]);have vB2:=aK (A.alloc (ae 9 [ag w])) 9 [ag u];have nB2:=aA (A.alloc (ae 9 [ag w])) (ae 9 [ag u]);have vB1':=vB1.kp kB2;have kB:=kB1.trans kB2;rw[nB1]at vB2;generalize hB:(A.alloc (ae 9 [ag w])).alloc (ae 9 [ag u])=B at kB vB2 nB2 vB1';have VB':=hV.kp kB;have luB:=vB2.l0 u9 rfl;have lwB:=vB1'.l0 u9 rfl;have km:=λ ih=>Pz (ih:=ih) (A:=B) (w:=u)
 rw[decide_eq_true hu]at km;have lm:=VB'.l1 pM rfl;have lk:=J0 (w:=w) (c:=(ns++[w]).length) (by rw[kB.2 _ hmn];exact hmn');have hno:numOf (ns++[w]) w=Z ns+1:=by
  unfold numOf;rw[Ox hw];rfl
 rw[hno,show decide (Z ns+1≠0)=aa by simp]at lk;have sD:bX I (B.alloc (ae 3 [iN 0])) 3 (pw B.next 0) (iN (Z ns+1))=.ok (B.alloc (ae 3 [iN (Z ns+1)])):=sS Gu rfl rfl (by simp);have kD:=Kp.alloc B (ae 3 [iN (Z ns+1)]);have vD:=aK B 3 [iN (Z ns+1)];have nD:=aA B (ae 3 [iN (Z ns+1)]);generalize hD:B.alloc (ae 3 [iN (Z ns+1)])=D at kD vD nD;have kAD:=kB.trans kD;have VD:=hV.kp kAD;have v1D:=vB1'.kp kD;have v2D:=vB2.kp kD;have hSD:=hS.same kAD.1 (kAD.2 b);have sE:bX I (D.alloc (ae 297 [.string .empty,.nilFunc])) 297 (pw D.next 0) (.agg ⟨pG A.next B.next (A.next+1)⟩)=.ok (D.alloc (ae 297 (pG A.next B.next (A.next+1)))):=ep pP rfl rfl (by simp) (by simp[pG,bI,ag]);have kE:=Kp.alloc D (ae 297 (pG A.next B.next (A.next+1)));have vE:=aK D 297 (pG A.next B.next (A.next+1));have nE:=aA D (ae 297 (pG A.next B.next (A.next+1)));generalize hE:D.alloc (ae 297 (pG A.next B.next (A.next+1)))=E at sE kE vE nE;have VE:=VD.kp kE;have lxE:=VE.l2 jC rfl;have hSE:=hSD.same kE.1 (kE.2 b);have lenE:=ai.len hSE jC;obtain⟨x1,hsl,hS1,hx1⟩:=Tn hSE jC pP (by omega) (by simp);have lwE:ax I E.get 297 (pw D.next 0)=.ok (.agg ⟨pG A.next B.next (A.next+1)⟩):=by
  obtain⟨d,hd1,hd2⟩:=b9 (by kernel_rfl);exact bU hd1 hd2 pP vE.2
 obtain⟨x2,F,happ,hs3,hn3,-,hf3⟩:=A5 (r:=pG A.next B.next (A.next+1)) qhp hS1 (by simp) rfl (by simp[pG,bI,ag]);obtain⟨G,sG,vG,nG,fG⟩:=df (tb:=I) (t:=163) (o:=2) (v:=x2) Gt (VE.2.same (hf3 p (by omega) (λ e=>aZ e (ai.gj hSE VE (by decide) (by simp))))) (by simp) (ai.di hs3).1 (ai.di hs3).2;have hbA:=vn hS (by simp);have fAG:∀z,z<E.next->z≠p->z≠b->G.get z=E.get z:=λ z h1 h2 h3=>by rw[fG z h2,hf3 z h1 (λ e=>aZ e h3)]
 have hmnG:G.get mn=U (.map (dh (ns++[w]) 0) (ns++[w]).length):=by rw[fAG mn (by omega) (Ne.symm hpm.2) (ai.cN hS hmn' (by simp)),kE.2 _ (by omega),kAD.2 _ hmn];exact hmn'
 have v1G:VB G 9 A.next (.var 1) [ag w]:=⟨by omega,v1D.2.same (by rw[fAG _ (by omega) (by omega) (by omega),kE.2 _ (by omega)])⟩
 have v2G:VB G 9 (A.next+1) (.var 1) [ag u]:=⟨by omega,v2D.2.same (by rw[fAG _ (by omega) (by omega) (by omega),kE.2 _ (by omega)])⟩;have vDG:VB G 3 B.next (.var 1) [iN (Z ns+1)]:=⟨by omega,vD.2.same (by rw[fAG _ (by omega) (by omega) (by omega),kE.2 _ (by omega)])⟩
 have lfG:ax I G.get 225 (pw D.next (0+1))=.ok (.func (.func 183) ⟨[]⟩ ⟨[pV A.next,pV B.next,pV (A.next+1)]⟩):=by
  obtain⟨d,hd,ha⟩:=GP;exact c7 hd ha (vE.2.same (fAG D.next (by omega) (by omega) (by omega))) rfl
 have lmG:ax I G.get 162 (pw p 1)=.ok (.map (U mn)):=c7 pM rfl vG rfl;obtain⟨H,⟨g1,h1⟩,nH,fH,-⟩:=R8 hmnG hw (by omega) v1G vDG v2G;have hdo:az I 141 [pV p,ag Dt,.func (.func 183) ⟨[]⟩ ⟨[pV A.next,pV B.next,pV (A.next+1)]⟩] D (iN 0) H:=by
  simp only[pV,fg,cd,dL]at*;refine bQ (g1) 60 (aN Tryz.func141) (by kernel_rfl) λ M hM=>?_
  simp(config:={maxSteps:=4000000})(disch:=first|decide+kernel|omega|simp only[Wq,V])only[Tryz.f141,Aq,au,reduceIte,V,ak,Wb,G4,aX,hE,sE,bW,bV,w_,xa,lxE,lenE,hsl,lwE,WN,happ,sG,Fj,lfG,lmG,h1,Fq,bY []]<;>rfl
 obtain⟨g2,h2⟩:=hdo;have hr:∀t:T O,ev t (.const (.string ⟨#[114,101,110,97,109,101]⟩))=.ok (ag Dt):=λ t=>rfl
 refine⟨H,x2,E.next+1,A.next,B.next,A.next+1,?_,⟨by omega,vG.same (fH p hpm.2)⟩,?_,by omega,λ z h1 h2 h3 h4=>by rw[fH z h3,fAG z (by omega) h2 h4,kE.2 z (by omega),kAD.2 z h1],⟨by omega,v1G.2.same (fH _ (by omega))⟩,⟨by omega,vDG.2.same (fH _ (by omega))⟩,⟨by omega,v2G.2.same (fH _ (by omega))⟩⟩
 .simp only[pV]at*;have sn:=tV .i64 (Z ns+1) rfl;refine bQ (g2) 60 (b_ Tryz.func121) (by kernel_rfl) λ M hM=>?_
  simp(disch:=first|decide+kernel|omega|simp only[Wq,V])only[Tryz.f121,Aq,au,reduceIte,V,ak,nB1,hB,eW,wY,eO,bW,bV,luB,lwB,km,w_,lm,uZ,lk,dX,dU,vU,sd,hD,sD,sn,Kw,hr,h2,Fq,bY []]<;>rfl
 .have e1:=hs3.same (by omega) λ _=>fG _ (by omega)
  exact e1.same (by omega) λ _=>fH _ (by omega)
def z_(A:Mem)(p:Nat)(ns:List (List UInt8))(w u:List UInt8):Prop:=∃pf ml b t s a c d st k:Nat,∃ms mn x la q:O,VB A 101 p (.var 6) [pV pf,ms,q,iN st,iN 0,.bool af]/\st<1000/\VB A 165 pf (.var 4) [.map (U ml),mn,x,la]/\(ml<A.next/\A.get ml=U (.map (dh ns 0) (Z ns)))/\
 ai A 297 2 b ([(jT,142,[pV t,pV s]),(Dt,183,[pV a,pV c,pV d])].map sT) x/\VB A 3 t (.var 1) [iN (Z ns+1)]/\VB A 9 s (.var 1) [ag w]/\VB A 9 a (.var 1) [ag w]/\VB A 3 c (.var 1) [.int .i64 k]/\VB A 9 d (.var 1) [ag u]
def z_.kp{u:List UInt8}(h:z_ A p ns w u)(q:Kp A B):z_ B p ns w u:=by
 obtain⟨pf,ml,b,t,s,a,c,d,st,k,ms,mn,x,la,q',h1,h2,h3,⟨h4,h4'⟩,h5,h6,h7,h8,h9,h10⟩:=h;exact⟨pf,ml,b,t,s,a,c,d,st,k,ms,mn,x,la,q',h1.kp q,h2,h3.kp q,⟨dc h4 q.1,by rw[q.2 _ h4];exact h4'⟩,h5.same q.1 (q.2 b),h6.kp q,h7.kp q,h8.kp q,h9.kp q,h10.kp q⟩
def qf4{z0 z1 z2:Nat}{D:cT}{u:List UInt8}(h:eu A p D)(hst:D.st<900)(hD:D.ns=ns++[w])(hk:D.k=Z ns)(hw:w∉ns)(hu:0<Z u/\Z u<=64)(hn:Z ns<900)
 (v0:VB A 25 z0 (.var 1) [pV p])(v1:VB A 9 z1 (.var 1) [ag w])(v2:VB A 9 z2 (.var 1) [ag u]):∃A',az I 64 [pV z0,pV z1,pV z2] A (iN 0) A'/\z_ A' p ns w u/\KT dT A A':=by
 obtain⟨dt,hd1,hd2⟩:=DN;have k1:=Kp.alloc A (ae 25 [pV p]);have w1:=aK A 25 [pV p];have n1:=aA A (ae 25 [pV p]);have k2:=Kp.alloc (A.alloc (ae 25 [pV p])) (ae 9 [ag w]);have w2:=aK (A.alloc (ae 25 [pV p])) 9 [ag w];have n2:=aA (A.alloc (ae 25 [pV p])) (ae 9 [ag w]);have k3:=Kp.alloc ((A.alloc (ae 25 [pV p])).alloc (ae 9 [ag w])) (ae 9 [ag u]);have w3:=aK ((A.alloc (ae 25 [pV p])).alloc (ae 9 [ag w])) 9 [ag u];have n3:=aA ((A.alloc (ae 25 [pV p])).alloc (ae 9 [ag w])) (ae 9 [ag u]);have w1:=w1.kp (k2.trans k3);have w2:=w2.kp k3;rw[n2,n1]at w3;rw[n1]at w2;have kC:=(k1.trans k2).trans k3;generalize hC:((A.alloc (ae 25 [pV p])).alloc (ae 9 [ag w])).alloc (ae 9 [ag u])=C at kC w1 w2 w3;obtain⟨pf,ml,mn,b,mf,ps,hP⟩:=h.kp kC;obtain⟨E,hE,nE,fE,kE,g2⟩:=hP.step (by omega);obtain⟨h1,⟨x,rows,h3,hml,hmn,hmm,h5,h6,h7,h8⟩,-⟩:=hE;have e1:(eX D).ns=ns++[w]:=hD;have e2:(eX D).k=Z ns:=hk;have e3:(eX D).st=D.st+1:=rfl;rw[e1]at h7 h8 hmn hml;rw[e2]at h7 h8 hml;have hrl:Z rows=1:=by rw[aU,fg]at h7;omega
 obtain⟨t,s,r1,r2,r3⟩:=h8 0 w (by simp);obtain⟨row,rfl⟩:=List.length_eq_one_iff.1 hrl;cases r1;rw[List.take_append_of_le_length (aJ _),dY]at hml;obtain⟨F,x',b',a,c,d,⟨g,hg⟩,vF,sF,nF,fF,vFa,vFc,vFd⟩:=qf5 h3 hml hmn hmm h5 hw hu (by omega);have K1:KT dT E F:=⟨nF,λ e z k l he hz=>fF z hz.1 (hz.ne h3 he.2.1) (hz.cN hmn.2) (ai.gj h5 hz he.2.2.1 (by simp)),λ z hz=>fF z hz.1 (hz.ne h3) (hz.cN hmn.2) (hz.J' h5 (by simp))⟩;have a120:az I 120 [pV A.next,pV (A.next+1),pV (A.next+2)] E (iN 0) F:=by
  have l1:=(kE.vb w1 (by decide)).l0 hd1 hd2;have l2:=(kE.vb w2 (by decide)).l0 u9 rfl;have l3:=(kE.vb w3 (by decide)).l0 u9 rfl;have lpf:ax I E.get 98 (pw p 0)=.ok (pV pf):=by
   obtain⟨d,hd,ha⟩:=xK;exact h1.ld rfl hd ha
  simp only[pV]at*;refine bQ (g) 60 (b_ Tryz.func120) (by kernel_rfl) λ M hM=>?_
  simp(disch:=first|decide+kernel|omega|simp only[Wq,V])only[Tryz.f120,Aq,au,reduceIte,V,ak,l1,l2,l3,lpf,bW,bV,uP,hg,Fq,bY []]<;>rfl
 obtain⟨g5,h65⟩:az I 65 [pV p,ag w,ag u] A (iN 0) F:=by
  obtain⟨g3,h3⟩:=g2 _ _ _ _ a120;have l1:=w1.l0 hd1 hd2;simp only[pV]at*;refine bQ (g3) 60 (b_ Tryz.func65) (by kernel_rfl) λ M hM=>?_
  simp(disch:=omega)only[Tryz.f65,Aq,V,pA,sj,n1,n2,hC,l1,fb,h3]<;>rfl
 refine⟨F,?_,⟨pf,ml,b',t,s,a,c,d,D.st+1,Z ns+1,.map (U mf),.map (U mn),x',.int .i64 ((eX D).la:Int),.int .i64 ((eX D).q:Int),?_,by omega,vF,⟨by have:=hml.1;omega,?_⟩,sF,?_,?_,vFa,vFc,vFd⟩,(kC.kt.trans kE).trans K1⟩
 .have l0:=v0.l0 hd1 hd2;have l1:=v1.l0 u9 rfl;have l2:=v2.l0 u9 rfl;simp only[pV]at*;refine bQ (g5) 60 (b_ Tryz.func64) (by kernel_rfl) λ M hM=>?_
  simp(disch:=omega)only[Tryz.f64,Aq,V,l0,l1,l2,h65]<;>rfl
 .exact⟨by have:=h1.1;omega,h1.2.same (fF p h1.1 (h1.ne h3 (by decide)) (h1.cN hmn.2) (ai.gj h5 h1 (by decide) (by simp)))⟩
 .rw[fF ml hml.1 (Ne.symm (h3.cN hml.2)) hmm (ai.cN h5 hml.2 (by simp))];exact hml.2
 .exact K1.vb r2 (by decide)
 .exact K1.vb r3 (by decide)
def qgf{u:List UInt8}(h:z_ A p ns w u)(hw:w∉ns):∃A',az I 57 [pV p] A (.int .i64 (0:Nat)) A'/\KT dT A A':=by
 obtain⟨d25,hd1,hd2⟩:=DN;have kB:=Kp.alloc A (ae 25 [pV p]);have vB:=aK A 25 [pV p];have nB:=aA A (ae 25 [pV p]);generalize hB:A.alloc (ae 25 [pV p])=B at kB vB nB;obtain⟨pf,ml,b,t,s,a,c,d,st,k,ms,mn,x,la,q',h1,h2,r3,⟨r4,r4'⟩,r5,r6,r7,r8,r9,r10⟩:=h.kp kB;obtain⟨C,vC,nC,fC,g2⟩:=Si h1 h2;have K1:=KT.sQ h1 (by omega) λ z _=>fC z
 have r3:=K1.vb r3 (by decide);have r4':C.get ml=U (.map (dh ns 0) (Z ns)):=by rw[fC ml (Ne.symm (h1.cN r4'))];exact r4'
 have r4:ml<C.next:=by omega
 have r5:=K1.fx r5 (by decide);have r6:=K1.vb r6 (by decide);have r7:=K1.vb r7 (by decide);have r8:=K1.vb r8 (by decide);have r9:=K1.vb r9 (by decide);have r10:=K1.vb r10 (by decide);have hbm:=Ne.symm (ai.cN r5 r4' (by simp));obtain⟨E,⟨g1,hE⟩,nE,fE⟩:=qgq (P:=λ i D=>ml<D.next/\(i=0->D.get ml=U (.map (dh ns 0) (Z ns)))/\(i=1->D.get ml=U (.map (dh (ns++[w]) 0) (ns++[w]).length))/\(∃es c,D.get ml=U (.map es c))/\
  VB D 3 t (.var 1) [.int .i64 (Z ns+1:Nat)]/\VB D 9 s (.var 1) [ag w]/\VB D 9 a (.var 1) [ag w]/\VB D 3 c (.var 1) [.int .i64 k]/\VB D 9 d (.var 1) [ag u])
  r3 r4 (r3.cN r4') hbm r5 (by simp) (by simp) (λ i q D hq hP _=>by
   obtain⟨p1,p2,p3,⟨es0,c0,p4⟩,p5,p6,p7,p8,p9⟩:=hP;have key:∀E:Mem,E.next=D.next->(∀z,z≠ml->E.get z=D.get z)->VB E 3 t (.var 1) [.int .i64 (Z ns+1:Nat)]/\VB E 9 s (.var 1) [ag w]/\VB E 9 a (.var 1) [ag w]/\VB E 3 c (.var 1) [.int .i64 k]/\VB E 9 d (.var 1) [ag u]:=λ E nE fE=>by
    have kk:∀{e z:Nat} {kd:Kd} {l:List O},VB D e z kd l->VB E e z kd l:=λ hv=>⟨by rw[nE];exact hv.1,hv.2.same (fE _ (hv.cN p4))⟩
    exact⟨kk p5,kk p6,kk p7,kk p8,kk p9⟩
   match i,hq with
   |0,hq=>
    cases hq;have e1:=Su (k:=0) (p2 rfl) hw p5 p6;refine⟨_,e1,by rw[cE];exact aJ _,λ z _ hz=>by rw[mq,aq hz],by rw[cE];exact p1,λ h=>by omega,λ _=>by rw[mq,aC rfl],⟨_,_,by rw[mq,aC rfl]⟩,key _ (cE _ _ _) λ z hz=>by rw[mq,aq hz]⟩
   |1,hq=>
    cases hq;obtain⟨E,e1,nE,fE,mE⟩:=R8 (p3 rfl) hw p1 p7 p8 p9;exact⟨E,e1,by omega,λ z _ hz=>fE z hz,by omega,λ h=>by omega,λ h=>by omega,mE,key E nE fE⟩
   |i+2,hq=>simp at hq)
  (λ i D E hP kE=>by
   obtain⟨p1,p2,p3,⟨es0,c0,p4⟩,p5,p6,p7,p8,p9⟩:=hP;exact⟨dc p1 kE.1,λ h=>by rw[kE.2 _ p1];exact p2 h,λ h=>by rw[kE.2 _ p1];exact p3 h,⟨_,_,by rw[kE.2 _ p1];exact p4⟩,p5.kp kE,p6.kp kE,p7.kp kE,p8.kp kE,p9.kp kE⟩)
  ⟨r4,λ _=>r4',λ h=>by omega,⟨_,_,r4'⟩,r6,r7,r8,r9,r10⟩ (λ D h=>h.2.2.2.1)
 have lx:=r3.l2 jC rfl;have lenx:=ai.len r5 jC;obtain⟨g3,h3⟩:az I 144 [pV pf] C (.int .i64 (2:Nat)) C:=by
  simp only[pV];refine cG 60 (b_ Tryz.func144) (by kernel_rfl) λ M=>?_
  simp(disch:=decide+kernel)only[Tryz.f144,Aq,V,eW,wY,bW,bV,xa,lx,lenx,aR,cd,dL]<;>rfl
 have K2:KT dT C E:=⟨nE,λ e z k l he hz=>fE z hz.1 (hz.ne r3 he.2.1) (hz.cN r4'),λ z hz=>fE z hz.1 (hz.ne r3) (hz.cN r4')⟩;obtain⟨g4,h4⟩:az I 90 [pV pf] C (.tuple ⟨[]⟩) E:=by
  simp only[pV,cd,dL]at*;refine bQ (g1+g3) 60 (b_ Tryz.func90) (by kernel_rfl) λ M hM=>?_
  simp(disch:=omega)only[Tryz.f90,Aq,V,h3,hE,cL]<;>rfl
 have a107:az I 107 [pV A.next] C (.int .i64 (0:Nat)) E:=by
  have l1:=(K1.vb vB (by decide)).l0 hd1 hd2;have lpf:ax I C.get 98 (.pointer (U ⟨p,0,Y⟩))=.ok (pV pf):=by
   obtain⟨d,hd,ha⟩:=xK;exact vC.ld rfl hd ha
  simp only[pV]at*;refine bQ (g4) 60 (b_ Tryz.func107) (by kernel_rfl) λ M hM=>?_
  simp(disch:=omega)only[Tryz.f107,Aq,V,l1,lpf,bW,bV,uP,h4,cL]<;>rfl
 obtain⟨g5,h5⟩:=g2 _ _ _ _ a107;refine⟨E,?_,(kB.kt.trans (K1.mono λ e he=>he.1)).trans K2⟩;have l1:=vB.l0 hd1 hd2;simp only[pV]at*;refine bQ (g5) 60 (b_ Tryz.func57) (by kernel_rfl) λ M hM=>?_
 simp(disch:=omega)only[Tryz.f57,Aq,V,pA,hB,l1,fb,h5]<;>rfl
def d115:=cg yr
def IP:aH:=sub d115 [1,0,1,0,0]
def Yr:yr.body=U (.seq (sub d115 [0]) (.seq (.seq (sub d115 [1,0,0]) (.block 0 (.loop IP))) (.seq (sub d115 [1,1,0]) (sub d115 [1,1,1])))):=by kernel_rfl
def SV:pI 52 9 1=aa:=by kernel_rfl
def qfv{x:O}(hx:wF A b ns x)(hw:w∉ns)(hl:Z ns<1000):∃v A',az I 115 [x,ag w] A v A'/\v=.int .i64 (-1)/\A'=A:=by
 refine c_ (aN Tryz.func115) Yr (by kernel_rfl) ?_;have len:=tW SV hx;rw[aR]at len;apply W.q
 .intro M;simp(disch:=first|decide+kernel|omega)only[d115,yr,Aq,V];rfl
 apply W.seq;apply W.q
 .intro M;simp(disch:=first|decide+kernel|omega)only[d115,yr,Aq,V,len];rfl
 apply W.block;refine W.up (Z ns) (λ i t D=>D=A/\Sl t [(0,x),(1,ag w),(7,iN (Z ns)),(8,.int .i64 i)]) ?_ (a6 _) ⟨rfl,?_⟩
 .rintro i t D hi ⟨rfl,g0,g1,g7,g8,-⟩;by_cases hlt:i<Z ns
  .obtain⟨u,hu⟩:∃u,ns[i]?=U u:=⟨_,aV hlt⟩;have hne:w≠u:=λ e=>hw (e▸fh hu)
   have j1:=zj (i:=i) SV hx (by rw[aR];exact hlt);have j2:=ai.load (j:=0) hx u9 rfl (show(ns.map λ n=>[ag n])[i]?=U [ag u] by rw[da,hu];rfl) rfl (by omega);rw[dN]at j2;apply W.run 20
   .intro M;simp(disch:=first|decide+kernel|omega)only[IP,d115,yr,Aq,V,g0,g1,g7,g8,hlt,j1,j2,hne];rfl
   refine⟨hlt,_,_,rfl,rfl,?_⟩;simp only[Sq,V,ak,g0,g1,g7]
  .obtain rfl:i=Z ns:=by omega
   apply W.run 20
   .intro M;simp(disch:=first|decide+kernel|omega)only[IP,d115,yr,Aq,V,g7,g8,gY];rfl
   have hm1:∀t:T O,ev t (.const (.int .i64 (-1)))=.ok (.int .i64 (-1)):=λ _=>rfl
   apply W.run 20
   .intro M;simp(disch:=first|decide+kernel|omega)only[d115,yr,Aq,V,hm1];rfl
   exact⟨by simp,rfl,_,(by simp only[yr,Aq,V]<;>rfl),rfl,rfl⟩
 .simp only[Sq,V,ak]
def qeU{x:O}(hx:wF A b ns x)(hw:w∉ns)(hl:Z ns<1000):az I 60 [x,ag w] A (.bool af) A:=by
 obtain⟨v,A',⟨g,hg⟩,rfl,rfl⟩:=qfv hx hw hl;have e:iu .geq (I.aB 3) (.int .i64 (-1)) (iN 0)=.ok (.bool af):=by kernel_rfl
 refine bQ (g) 60 (b_ Tryz.func60) (by kernel_rfl) λ M hM=>?_
 simp(disch:=first|decide+kernel|omega)only[Tryz.f60,Aq,V,hg,e]<;>rfl
def Wp{a e f g:Nat}:eo I 113 3 [(0,.func (.func 116) ⟨[]⟩ ⟨[pw a 0,pw b 0]⟩),(1,.func (.func 119) ⟨[]⟩ ⟨[pw c 0,pw d 0,pw e 0]⟩),(2,.func (.func 116) ⟨[]⟩ ⟨[pw f 0,pw g 0]⟩)]=
 .ok (ae 115 [fV (116,[],[pV a,pV b]),fV (119,[],[pV c,pV d,pV e]),fV (116,[],[pV f,pV g])],.dy 3 6):=by kernel_rfl
def qez{x:O}(hx:x.cells.toList=[x]/\bI x=aa):
 ∃v A',az I 63 [pV p,ag w,x] A v A'/\Kp A A'/\∃b q1 q2 c d e q3 q4,A.next<=b/\ai A' 115 1 b ([(116,[],[pV q1,pV q2]),(119,[],[pV c,pV d,pV e]),(116,[],[pV q3,pV q4])].map λ q=>[fV q]) v/\
  (VB A' 109 q1 (.var 1) [ji 51 p]/\VB A' 9 q2 (.var 1) [ag w])/\(VB A' 25 c (.var 1) [pV p]/\VB A' 9 d (.var 1) [ag w]/\VB A' 52 e (.var 1) [x])/\VB A' 109 q3 (.var 1) [ji 55 p]/\VB A' 9 q4 (.var 1) [ag w]:=by
 obtain⟨d25,hd1,hd2⟩:=DN;have k1:=Kp.alloc A (ae 25 [pV p]);have w1:=aK A 25 [pV p];have n1:=aA A (ae 25 [pV p]);have k2:=Kp.alloc (A.alloc (ae 25 [pV p])) (ae 9 [ag w]);have w2:=aK (A.alloc (ae 25 [pV p])) 9 [ag w];have n2:=aA (A.alloc (ae 25 [pV p])) (ae 9 [ag w]);have k3:=Kp.alloc ((A.alloc (ae 25 [pV p])).alloc (ae 9 [ag w])) (ae 52 [x]);have w3:=aK ((A.alloc (ae 25 [pV p])).alloc (ae 9 [ag w])) 52 [x];have n3:=aA ((A.alloc (ae 25 [pV p])).alloc (ae 9 [ag w])) (ae 52 [x]);have w1:=w1.kp (k2.trans k3);have w2:=w2.kp k3;rw[n2,n1]at w3;rw[n1]at w2;have kC:=(k1.trans k2).trans k3;have nC:(((A.alloc (ae 25 [pV p])).alloc (ae 9 [ag w])).alloc (ae 52 [x])).next=A.next+3:=by omega
 generalize hC:((A.alloc (ae 25 [pV p])).alloc (ae 9 [ag w])).alloc (ae 52 [x])=C at kC w1 w2 w3 nC;obtain⟨g1,h1⟩:=SB (A:=C) (g:=51) (p:=p) (w:=w);have k4:=(Kp.alloc C (ae 109 [ji 51 p])).trans (Kp.alloc (C.alloc (ae 109 [ji 51 p])) (ae 9 [ag w]));have v4:=(aK C 109 [ji 51 p]).kp (Kp.alloc _ (ae 9 [ag w]));have v5:=aK (C.alloc (ae 109 [ji 51 p])) 9 [ag w];rw[aA]at v5;have nE:((C.alloc (ae 109 [ji 51 p])).alloc (ae 9 [ag w])).next=C.next+2:=by rw[aA,aA]
 generalize (C.alloc (ae 109 [ji 51 p])).alloc (ae 9 [ag w])=E at h1 k4 v4 v5 nE;obtain⟨g2,h2⟩:=SB (A:=E) (g:=55) (p:=p) (w:=w);have k6:=(Kp.alloc E (ae 109 [ji 55 p])).trans (Kp.alloc (E.alloc (ae 109 [ji 55 p])) (ae 9 [ag w]));have v6:=(aK E 109 [ji 55 p]).kp (Kp.alloc _ (ae 9 [ag w]));have v7:=aK (E.alloc (ae 109 [ji 55 p])) 9 [ag w];rw[aA]at v7;have nF:((E.alloc (ae 109 [ji 55 p])).alloc (ae 9 [ag w])).next=E.next+2:=by rw[aA,aA]
 generalize (E.alloc (ae 109 [ji 55 p])).alloc (ae 9 [ag w])=F at h2 k6 v6 v7 nF;have kG:=Kp.alloc F (ae 115 [fV (116,[],[pV C.next,pV (C.next+1)]),fV (119,[],[pV A.next,pV (A.next+1),pV (A.next+2)]),fV (116,[],[pV E.next,pV (E.next+1)])]);have vG:=aK F 115 [fV (116,[],[pV C.next,pV (C.next+1)]),fV (119,[],[pV A.next,pV (A.next+1),pV (A.next+2)]),fV (116,[],[pV E.next,pV (E.next+1)])];generalize hG:F.alloc (ae 115 [fV (116,[],[pV C.next,pV (C.next+1)]),fV (119,[],[pV A.next,pV (A.next+1),pV (A.next+2)]),fV (116,[],[pV E.next,pV (E.next+1)])])=G at kG vG;have l1:=w1.l0 hd1 hd2;have l2:=w2.l0 u9 rfl;have l3:=(w1.kp k4).l0 hd1 hd2;have l4:=(w2.kp k4).l0 u9 rfl;have kk:=(k4.trans k6).trans kG;refine⟨.slice (U ⟨F.next,0,Y⟩) 3 6,G,?_,kC.trans kk,F.next,C.next,C.next+1,A.next,A.next+1,A.next+2,E.next,E.next+1,by omega,.inr ⟨.var 3,6,rfl,vG.1,vG.2,λ l hl=>?_,.inl rfl⟩,⟨v4.kp (k6.trans kG),v5.kp (k6.trans kG)⟩,⟨w1.kp kk,w2.kp kk,w3.kp kk⟩,v6.kp kG,v7.kp kG⟩
 .have sp:=zi p;have bs:=Wp (a:=C.next) (b:=C.next+1) (c:=A.next) (d:=A.next+1) (e:=A.next+2) (f:=E.next) (g:=E.next+1);have cx:=hx.1;simp only[pV,ji,fV]at*;refine bQ (g1+g2) 60 (b_ Tryz.func63) (by kernel_rfl) λ M hM=>?_
  simp(config:={maxSteps:=4000000})(disch:=first|decide+kernel|omega|simp only[Wq,V])only[Tryz.f63,Aq,au,reduceIte,V,ak,pA,sj,cx,n1,n2,hC,l1,l2,l3,l4,fb,kx,h1,h2,sp,AY,bs,hG,Fq,bY [(5,3),(7,3)]]<;>rfl
 .obtain⟨q,-,rfl⟩:=dA.1 hl;rfl
def d20:=cg tp
def Yu:tp.body=U (.seq (sub d20 [0]) (.seq (sub d20 [1,0]) (.seq (sub d20 [1,1,0]) (.seq (sub d20 [1,1,1,0]) (.seq (sub d20 [1,1,1,1,0]) (.seq (sub d20 [1,1,1,1,1,0]) (.seq (sub d20 [1,1,1,1,1,1,0]) (.seq (sub d20 [1,1,1,1,1,1,1,0]) (.seq (sub d20 [1,1,1,1,1,1,1,1,0]) (sub d20 [1,1,1,1,1,1,1,1,1])))))))))):=by kernel_rfl
variable {b2:Nat}{ls:List (List O)}{y:O}
def K9{st e:Nat}{nl:List (List O)}{x:O}(ht:pI st e n=aa)(h:ai A e n b ls x)(h2:ai A e n b2 nl y)(hl:Z ls+Z nl<1000000)(h1:∀l∈nl,∀v∈l,bI v=aa):
 ∃x' A' b',dm I A st st x y=.ok (x',A')/\ai A' e n b' (ls++nl) x'/\A.next<=A'.next/\(b'=b\/A.next<=b')/\∀z,(z=b->x=.slice Y 0 0)->z<A.next->A'.get z=A.get z:=by
 obtain⟨hu,⟨z,hz⟩,hs,⟨i,t1,t2,t3⟩,n0,n1⟩:=A4 ht;obtain⟨f1,f2,f3⟩:=ai.first h2
 exact ai.tu h hu hu rfl hz t1 t2 t3 n0 n1 (by omega) f1 f2 rfl f3 λ v hv=>by
  obtain⟨l,hl,hv⟩:=Hq.1 hv;exact h1 l hl v hv
def Ws{a:Nat}:eo I 113 2 [(0,.func (.func 64) ⟨[]⟩ ⟨[pw a 0,pw b 0,pw c 0]⟩),(1,.func (.func 57) ⟨[pw p 0]⟩ ⟨[]⟩)]=
 .ok (ae 115 [fV (64,[],[pV a,pV b,pV c]),fV (57,[pV p],[])],.dy 2 4):=by kernel_rfl
def WM{s:List UInt8}:eo I 52 1 [(0,ag s)]=.ok (ae 9 [ag s],.dy 1 2):=by kernel_rfl
abbrev qd1 (q1 q2 c d e q3 q4 z2 z7 z8 p:Nat):List (Nat×List O×List O):=[(116,[],[pV q1,pV q2]),(119,[],[pV c,pV d,pV e]),(116,[],[pV q3,pV q4]),(64,[],[pV z2,pV z7,pV z8]),(57,[pV p],[])]
def qgd{bx q1 q2 e q3 q4 z2 z7 z8:Nat}{D:cT}{s:List UInt8}{x v:O}(h:eu A p D)(ho:iH D)(hN:oY D.ns)(hk:D.k=Z D.ns)(hq:D.q<100000000)(hst:D.st<800)(hn:Z D.ns<800)(hw:lT∉D.ns)(hs:fp D.fs+Z s<=D.q)(hsl:Z s<900000)
 (hv:ai A 115 1 b ((qd1 q1 q2 c d e q3 q4 z2 z7 z8 p).map λ q=>[fV q]) v)(v1:VB A 109 q1 (.var 1) [ji 51 p]/\VB A 9 q2 (.var 1) [ag lT])(v2:VB A 25 c (.var 1) [pV p]/\VB A 9 d (.var 1) [ag lT]/\VB A 52 e (.var 1) [x])(v3:VB A 109 q3 (.var 1) [ji 55 p]/\VB A 9 q4 (.var 1) [ag lT])
 (v4:VB A 25 z2 (.var 1) [pV p]/\VB A 9 z7 (.var 1) [ag lT]/\VB A 9 z8 (.var 1) [ag AL])(hx:ai A 9 1 bx [[ag s]] x):∃w A',az I 66 [v] A w A'/\w=.int .i64 (0:Nat)/\KT dT A A':=by
 obtain⟨o1,n1,i1,hu,i2,-⟩:=Kt ho hw hs;refine qgb (P:=λ i B=>KT dT A B/\(i=0->eu B p D)/\(i=1->eu B p (jU (eX D) lT))/\(i=2->eu B p (rT (eX (jU (eX D) lT)) (Z D.ns) [] s))/\(i=3->eu B p (DU D lT s))/\(i=4->z_ B p D.ns lT AL)) hv (by simp) (λ i q B hqi hP=>?_) (λ i B C hP kB=>?_) ⟨Kp.kt (Kp.refl A),λ _=>h,λ h=>by omega,λ h=>by omega,λ h=>by omega,λ h=>by omega⟩
 .obtain⟨K,p0,p1,p2,p3,p4⟩:=hP
  match i,hqi with
  |0,hqi=>
   cases hqi;obtain⟨C,hC,dC,kC⟩:=Sf (p0 rfl) (by omega) hw (by decide) (by omega) ho.la;exact⟨C,R7 (K.vb v1.1 (by decide)) (K.vb v1.2 (by decide)) hC,kC,K.trans kC,λ h=>by omega,λ _=>dC,λ h=>by omega,λ h=>by omega,λ h=>by omega⟩
  |1,hqi=>
   cases hqi;obtain⟨C,hC,dC,kC⟩:=Se (p1 rfl) (by show D.st+1<_;omega) (hN.step hw (by decide) (by omega)) hu hq n1 i1 (K.fx hx (by decide)) (by simp;omega);exact⟨C,qee (K.vb v2.1 (by decide)) (K.vb v2.2.1 (by decide)) (K.vb v2.2.2 (by decide)) hC,kC,K.trans kC,λ h=>by omega,λ h=>by omega,λ _=>dC,λ h=>by omega,λ h=>by omega⟩
  |2,hqi=>
   cases hqi;obtain⟨C,hC,dC,kC⟩:=Sj (p2 rfl) (by show D.st+1+1<_;omega) n1 i2;exact⟨C,R7 (K.vb v3.1 (by decide)) (K.vb v3.2 (by decide)) hC,kC,K.trans kC,λ h=>by omega,λ h=>by omega,λ h=>by omega,λ _=>dC,λ h=>by omega⟩
  |3,hqi=>
   cases hqi;obtain⟨C,hC,rC,kC⟩:=qf4 (ns:=D.ns) (p3 rfl) (by show D.st+1+1+1<_;omega) rfl hk hw (by decide) (by omega) (K.vb v4.1 (by decide)) (K.vb v4.2.1 (by decide)) (K.vb v4.2.2 (by decide));exact⟨C,hC,kC,K.trans kC,λ h=>by omega,λ h=>by omega,λ h=>by omega,λ h=>by omega,λ _=>rC⟩
  |4,hqi=>
   cases hqi;obtain⟨C,hC,kC⟩:=qgf (p4 rfl) hw;exact⟨C,hC,kC,K.trans kC,λ h=>by omega,λ h=>by omega,λ h=>by omega,λ h=>by omega,λ h=>by omega⟩
  |i+5,hqi=>simp at hqi
 .obtain⟨K,p0,p1,p2,p3,p4⟩:=hP;exact⟨K.trans kB.kt,λ h=>(p0 h).kp kB,λ h=>(p1 h).kp kB,λ h=>(p2 h).kp kB,λ h=>(p3 h).kp kB,λ h=>(p4 h).kp kB⟩
def qhE(h:lT∉ns)(hl:Z ns<1000):lT∉kP ns/\(kP ns).length<1000:=by
 unfold kP;exact⟨λ h'=>h (List.mem_mergeSort.1 h'),by rw[List.length_mergeSort];exact hl⟩
def qf3{D:cT}{m:ui}{x:O}(h:eu A p D)(ho:iH D)(hN:oY D.ns)(hk:D.k=Z D.ns)(hq:D.q<100000000)(hst:D.st<800)(hn:Z D.ns<800)(hw:lT∉D.ns)(hs:fp D.fs+(crc.ek (qh m)).length<=D.q)(hsl:(crc.ek (qh m)).length<900000)
 (hx:qD A m.dv x)(hm:zU m)(h100:Z m.dv<=100):∃v A',az I 20 [pV p,.agg ⟨mW x m⟩] A v A'/\v=iN 0/\KT dT A A':=by
 refine c_ (aN Tryz.func20) Yu (by kernel_rfl) ?_;obtain⟨d25,hd1,hd2⟩:=DN;have k1:=Kp.alloc A (ae 25 [pV p]);have w1:=aK A 25 [pV p];have n1:=aA A (ae 25 [pV p]);have k2:=Kp.alloc (A.alloc (ae 25 [pV p])) (ae 28 (mW x m));have w2:=aK (A.alloc (ae 25 [pV p])) 28 (mW x m);have n2:=aA (A.alloc (ae 25 [pV p])) (ae 28 (mW x m));have w1:=w1.kp k2;rw[n1]at w2;have k2:=k1.trans k2;simp only[pV]at w1 k2 w2 n2 n1⊢;apply W.q
 .intro M;simp(disch:=omega)only[d20,tp,Aq,V,pA,aX,n1];rfl
 generalize (A.alloc (ae 25 [pw p 0])).alloc (ae 28 (mW x m))=B at w1 w2 k2 n2;rw[n1]at n2;obtain⟨d28,hm1,hm2⟩:=b9 (by kernel_rfl);have lm:=bU hm1 hm2 pH w2.2;obtain⟨v,C,⟨g1,h1⟩,rfl,kC⟩:=qfJ (hx.kp k2) hm h100;apply W.qG (g1)
 .intro M hM;simp(disch:=omega)only[d20,tp,Aq,V,lm,h1,dX,dU];rfl
 have lp:=λ E (kE:Kp C E)=>((w1.kp kC).kp kE).l0 hd1 hd2
 have lpC:=lp C (Kp.refl _);apply W.q
 .intro M;simp(disch:=decide+kernel)only[d20,tp,Aq,V,lpC,eW,CK,eO];rfl
 have kE1:=Kp.alloc C (ae 9 [ag []]);have nE1:=aA C (ae 9 [ag []]);have kE2:=Kp.alloc (C.alloc (ae 9 [ag []])) (ae 9 [ag []]);have nE2:=aA (C.alloc (ae 9 [ag []])) (ae 9 [ag []]);have y1:=(aK C 9 [ag []]).kp kE2;have y2:=aK (C.alloc (ae 9 [ag []])) 9 [ag []];have kE:=kE1.trans kE2;rw[nE1]at y2 nE2;generalize hE:(C.alloc (ae 9 [ag []])).alloc (ae 9 [ag []])=E at kE nE2 y1 y2;obtain⟨F,s1,r1,nF,fF⟩:=df (o:=0) (v:=ag lT) vj y1.2 (by simp) rfl rfl;obtain⟨G,s2,r2,nG,fG⟩:=df (tb:=I) (t:=9) (o:=0) (v:=ag AL) vj (y2.2.same (fF _ (by omega))) (by simp) rfl rfl;have z7:VB G 9 C.next (.var 1) [ag lT]:=⟨by omega,(show de F 9 C.next (.var 1) [ag lT]from r1).same (fG _ (by omega))⟩
 have z8:VB G 9 (C.next+1) (.var 1) [ag AL]:=⟨by omega,r2⟩;have kCG:Kp C G:=⟨by omega,λ z hz=>by rw[fG z (by omega),fF z (by omega),kE.2 z hz]⟩;apply W.q
 .intro M;simp(disch:=omega)only[d20,tp,Aq,V,qbe,qa9,LM,sj,nE1,hE,s1,s2];rfl
 clear s1 s2 hE;apply W.q
 .intro M;simp(disch:=omega)only[d20,tp,Aq,V,kx];rfl
 have kAG:=(k2.trans kC).trans kCG;obtain⟨vl,H,⟨g2,h2⟩,⟨bl,hbl⟩,kH⟩:=Sg (h.kp kAG) hN;have hsrt:=qhE hw (by omega);obtain⟨g3,h3⟩:=qeU hbl hsrt.1 hsrt.2;have lpG:=lp G kCG;have l7G:=z7.l0 u9 rfl;have l7H:=(z7.kp kH).l0 u9 rfl;simp only[pV]at h2;apply W.qG (g2+g3)
 .intro M hM;simp(disch:=first|decide+kernel|omega|simp only[Wq,V])only[d20,tp,Aq,au,reduceIte,V,ak,lpG,h2,l7G,l7H,h3,AY,Fq,bY [(2,1)]];rfl
 have lpH:=lp H (kCG.trans kH);have kI:=Kp.alloc H (ae 9 [ag (crc.ek (qh m))]);have vI:=aK H 9 [ag (crc.ek (qh m))];have nI:=aA H (ae 9 [ag (crc.ek (qh m))]);obtain⟨vr,J,⟨g4,h4⟩,kJ,b1,q1,q2,c,d,e,q3,q4,hb1,hs1,hq1,hq2,hq3⟩:=qez (A:=H.alloc (ae 9 [ag (crc.ek (qh m))])) (p:=p) (w:=lT) (x:=.slice (U ⟨H.next,0,Y⟩) 1 2) ⟨rfl,rfl⟩;obtain⟨x5,K,b5,happ,hs5,hnK,hb5,hfK⟩:=K9 Gn (ai.nil J 115 1 J.next) hs1 (by simp) (by
  intro l hl v hv;obtain⟨q,-,rfl⟩:=dA.1 hl;rw[ee.1 hv];rfl)
 have kK:Kp J K:=⟨hnK,λ z hz=>hfK z (λ _=>rfl) hz⟩;have sbs:=WM (s:=crc.ek (qh m));simp only[pV]at h4;apply W.ie (g4)
 .intro M hM _;simp(disch:=first|decide+kernel|omega)only[d20,tp,Aq,V,lpH,l7H,sbs,h4,happ,fb];rfl
 have kIK:=(kI.trans kJ).trans kK;have lpK:=lp K ((kCG.trans kH).trans kIK);have kL:=Kp.alloc K (ae 115 [fV (64,[],[pV A.next,pV C.next,pV (C.next+1)]),fV (57,[pV p],[])]);have vL:=aK K 115 [fV (64,[],[pV A.next,pV C.next,pV (C.next+1)]),fV (57,[pV p],[])];have sL:ai (K.alloc (ae 115 [fV (64,[],[pV A.next,pV C.next,pV (C.next+1)]),fV (57,[pV p],[])])) 115 1 K.next ([(64,[],[pV A.next,pV C.next,pV (C.next+1)]),(57,[pV p],[])].map λ q=>[fV q]) (.slice (U ⟨K.next,0,Y⟩) 2 4):=.inr ⟨.var 2,4,rfl,vL.1,vL.2,λ l hl=>(by
  obtain⟨q,-,rfl⟩:=dA.1 hl;rfl),.inl rfl⟩
 obtain⟨x6,N,b6,happ2,hs6,hnN,hb6,hfN⟩:=K9 Gn (hs5.same kL.1 (kL.2 b5)) sL (by simp) (by
  intro l hl v hv;obtain⟨q,-,rfl⟩:=dA.1 hl;rw[ee.1 hv];rfl)
 have hn5:J.next<=b5:=by rcases hb5 with rfl|h<;>omega
 have K6:KT (·≠115) K N:=⟨by have:=kL.1;omega,λ e z k l he hz=>by
  rw[hfN z (λ hh=>aZ hh (ai.gj (hs5.same kL.1 (kL.2 b5)) (hz.kp kL) he (by simp))) (by have:=hz.1;have:=kL.1;omega),kL.2 z hz.1],λ z hz=>by
  rw[hfN z (λ hh=>aZ hh (hz.J' hs5 (by simp))) (by have:=hz.1;have:=kL.1;omega),kL.2 z hz.1]⟩
 have kAN:Kp A N:=⟨by have:=kAG.1;have:=kH.1;have:=kIK.1;have:=kL.1;omega,λ z hz=>by
  have a1:=kAG.1;have a2:=kH.1;have a3:=kIK.1;have a4:=kL.1;have a5:=(kI.trans kJ).1;rw[hfN z (λ hh=>by omega) (by omega),kL.2 z (by omega),kIK.2 z (by omega),kH.2 z (by omega),kAG.2 z hz]⟩
 have tC:=Ws (a:=A.next) (b:=C.next) (c:=C.next+1) (p:=p);have vIK:=hq2.2.2;have kk:=kH.trans kIK;obtain⟨vz,qjS,⟨g6,h6⟩,rfl,kZ⟩:=qgd (h.kp kAN) ho hN hk hq hst hn hw hs hsl hs6 ⟨K6.vb (hq1.1.kp kK) (by decide),K6.vb (hq1.2.kp kK) (by decide)⟩ ⟨K6.vb (hq2.1.kp kK) (by decide),K6.vb (hq2.2.1.kp kK) (by decide),K6.vb (hq2.2.2.kp kK) (by decide)⟩ ⟨K6.vb (hq3.1.kp kK) (by decide),K6.vb (hq3.2.kp kK) (by decide)⟩
  ⟨K6.vb (((w1.kp kC).kp kCG).kp kk) (by decide),K6.vb (z7.kp kk) (by decide),K6.vb (z8.kp kk) (by decide)⟩ (.inr ⟨.var 1,2,rfl,(K6.vb (vI.kp (kJ.trans kK)) (by decide)).1,(K6.vb (vI.kp (kJ.trans kK)) (by decide)).2,λ l hl=>(by rw[ee.1 hl];rfl),.inl rfl⟩)
 simp only[pV,fV]at happ2 h6 tC;apply W.ct (g6) 40
 .intro M hM;simp(disch:=first|decide+kernel|omega)only[d20,tp,Aq,V,lpK,fb,tC,happ2,h6];rfl
 exact⟨.inr rfl,rfl,_,(by simp only[tp,Aq,V]<;>rfl),rfl,kAN.kt.trans kZ⟩
theorem TV:∀(l:List aD),(∀e∈l,Z e.word<=9)->jb l<=9*Z l
 | [],_=>aJ _
 |x::l,h=>by
  have h1:=TV l λ e he=>h e (cU _ he)
  have h2:=h x cM;unfold jb at h1⊢;simp only[eU,BD,cd];omega
def qaQ{l:List aD}(hs:jb l<1000)(hw:∀e∈l,e.weight<4294967296):∀i,i<=Z l->ou i (jb (l.take i)) (gm [] (l.take i) S0):=by
 intro i
 induction i with
 |zero=>exact λ _=>Pq
 |succ i ih=>
  intro hi;have:=TW l i;have hv:=DS (hw l[i] (ik (by omega)));rw[eH (by omega),SE,Lj];exact Pr (by omega) (ih (by omega)) (by omega)
def qbJ{l:List aD}(h0:l≠ [])(ha:gp l)(hl:Z l<=60)(hw:∀e∈l,(1<=Z e.word/\Z e.word<=9)/\e.weight<4294967296):oX l/\(Z l<=14->(iw l).length<=50000):=by
 obtain⟨r1,-,r3,-,-,-⟩:=Nz h0 ha λ e he=>⟨by have:=(hw e he).1.2;omega,(hw e he).2⟩
 have hs:=TV l λ e he=>(hw e he).1.2
 have iv:=qaQ (by omega) (λ e he=>(hw e he).2) (Z l) (aJ _);rw[dY]at iv;obtain⟨M,o,hM,-,hN⟩:=Ph (f:=255) h0 ha λ e he=>by have:=(hw e he).1.2;omega
 have iv2:ou (Z l) (jb l) (h_ 0 (gm [] l S0)):=(C3 (by omega) _ _ _ iv).1;rw[show h_ 0 (gm [] l S0)=(M,o,[])from hM]at iv2;obtain⟨i1,-,i3,i4,-,-⟩:=iv2;have i1:=i1;have i3:Z M+0<=jb l:=i3;obtain⟨-,n2,-,n4⟩:=Qs M (dn o);have hdoc:dx l=(gk M (dn o)).1:=by unfold dx;rw[<-hN]
 rw[<-hdoc]at n2 n4;have hL:=qbt r1;have hle:least l<=4294967296:=by
  obtain⟨e,he,h⟩:=C8 h0;rw[h];exact DS (hw e he).2
 have key:∀m,Z l<=m->m<=60->(iw l).length<=(19*m+18)*(9*m+1)+100:=λ m hm hm'=>by
  have hs:=TH (c:=Z l) (by omega) (dx l) 0 (by omega) λ s hs=>by
   obtain⟨i,hi,e⟩:=rA hs;obtain⟨a1,a2,a3,a4⟩:=hL i s (by rw[<-e];exact aV hi);refine⟨?_,a3,λ a ha=>(a4 a ha).2⟩;rcases n4 s hs with h|rfl
   .exact(i4 s h).2
   .simpa[dn]using i1
  have hmul:(19*Z l+18)*(dx l).length<=(19*m+18)*(9*m+1):=BI (by omega) (by omega);have e1:=tR (Z l) (by omega);have e2:=tR (dx l).length (by omega);have e3:=tR (least l) (by omega);unfold iw nR;simp only[aU,cd,dL];omega
 have k60:=key 60 hl (aJ _);refine⟨⟨h0,ha,λ e he=>⟨(hw e he).1.1,by have:=(hw e he).1.2;omega,(hw e he).2⟩,⟨by omega,by omega⟩,by omega,λ h=>?_,hL,by omega,by omega⟩,λ h=>by
  have:=key 14 h (by omega);omega⟩
 unfold dx at h;rw[h]at r3;simp at r3
def Lt:I.aB 22=U (.slice 64):=by kernel_rfl
def qiX:∃d,I.aB 64=U d/\cW d=af:=b9 (by kernel_rfl)
variable {dss:List (List gJ)}
def s8.len{x:O}(h:s8 A dss x):cQ I .len [22] [x]=.ok (iN (Z dss)):=by
 rcases h with⟨rfl,rfl⟩|⟨rfl,rfl⟩|⟨q,off,cp,rfl,-⟩
 .exact jY Lt
 .kernel_rfl
 .exact jY Lt
variable {i:Nat}{ds:List gJ}
def s8.at{x:O}(h:s8 A dss x)(hi:dss[i]?=U ds):∃p y,dQ I 22 x (.int .i64 i)=.ok (.pointer (U p))/\ax I A.get 64 (.pointer (U p))=.ok y/\ot A ds y:=by
 rcases h with⟨-,rfl⟩|⟨-,rfl⟩|⟨q,off,cp,rfl,h2⟩
 .simp at hi
 .simp at hi
 .rcases h2 with rfl|⟨h2,t,kd,fz,c,h3,h4⟩
  .simp at hi
  .obtain⟨y,e1,e2⟩:=h4 i ds hi;have hlt:=(bg.1 hi).1;have hb:aM i (Z dss)=aa:=by rw[bT];exact hlt
   have hn:iC (.int .i64 i)=.ok i:=rfl;obtain⟨d,hd,ha⟩:=qiX;refine⟨⟨q,off+i*1,Y⟩,y,?_,?_,e2⟩
   .unfold dQ;simp only[hn,Lt,hb,aI,qjn,R.aT,fi]
   .rw[nf];unfold ax;simp only[h3,hd,ha,ba,e1]
def xw(ds:List gJ):List aD:=qs ((ds.take 14).map dE)
def oR(dss:List (List gJ)):List (List aD):=((dss.take 7).map xw).filter λ l=>!l.isEmpty
def qdY(h:dss[i]?=U ds)(hi:i<7):oR (dss.take (i+1))=if xw ds=[]then oR (dss.take i)else oR (dss.take i)++[xw ds]:=by
 obtain⟨hl,rfl⟩:=bg.1 h;unfold oR;rw[zS,zS,zY (by omega),zY (by omega),eH hl,fY,Hj];split
 .rename_i h0;simp[h0]
 .rename_i h0;simp[h0]
def RS(dss:List (List gJ)):(oR dss).length<=7:=by
 unfold oR;refine dp (By _ _) ?_;rw[aR,db];omega
def qC(l:List aD):Prop:=oX l/\(∀e∈l,Norm e)/\Z l<=14/\(iY l).length<=100000
def qf8{x:O}(h:ot A ds x):∃v A',az I 21 [x,iN 14] A v A'/\dK A' (xw ds) v/\Kp A A':=by
 obtain⟨y,B,⟨g1,h1⟩,hB,kB⟩:=qe8 (n:=14) h (by omega);obtain⟨v,C,⟨g2,h2⟩,hC,kC⟩:=qgg hB (by rw[aR,db];omega);refine⟨v,C,?_,hC,kB.trans kC⟩;refine bQ (g1+g2) 60 (b_ Tryz.func21) (by kernel_rfl) λ M hM=>?_
 simp(disch:=omega)only[Tryz.f21,Aq,V,h1,h2]<;>rfl
def yd(A:Mem)(b:Nat)(ls:List (List aD))(y:O):Prop:=∃xs,iq A 40 b xs y/\Z xs=Z ls/\∀(i:Nat) (l:List aD),ls[i]?=U l->∃x,xs[i]?=U x/\dK A l x
def yd.kp{ls:List (List aD)}(h:yd A b ls y)(k:Kp A B):yd B b ls y:=by
 obtain⟨xs,h1,h2,h3⟩:=h;refine⟨xs,h1.same k.1 (k.2 b),h2,λ i l hl=>?_⟩;obtain⟨x,e1,e2⟩:=h3 i l hl;exact⟨x,e1,e2.kp k⟩
variable {L:List (List aD)}
def yd.add{l:List aD}{w:O}(h:yd A b L y)(hw:dK A l w)(hL:Z L<1000000):
 ∃y' B,dm I (A.alloc (ae 40 [w])) 34 34 y (.slice (U ⟨A.next,0,Y⟩) 1 2)=.ok (y',B)/\yd B (A.next+1) (L++[l]) y'/\B.next=A.next+2/\∀z,z<A.next->(z=b->y=.slice Y 0 0)->B.get z=A.get z:=by
 obtain⟨xs,h1,h2,h3⟩:=h;obtain⟨wc,wo⟩:=hw.self;obtain⟨y',B,e1,e2,e3,e4,e5⟩:=A5 vd h1 (by rw[aR,h2];exact hL) (r:=[w]) rfl (by simpa using wo);have E8:∀{l x},dK A l x->dK B l x:=λ⟨b,h⟩=>⟨b,e4.fx h (by decide)⟩
 refine⟨y',B,e1,⟨xs++[w],GV e2,by rw[aU,aU,h2];rfl,λ i l' hi=>?_⟩,e3,e5⟩;by_cases hl:i<Z L
 .rw[eG hl]at hi;obtain⟨x,f1,f2⟩:=h3 i l' hi;exact⟨x,by rw[eG (by rw[h2];exact hl)];exact f1,E8 f2⟩
 .rw[ez (by omega)]at hi;obtain⟨q,rfl⟩:=bg.1 hi;have hq:i-Z L=0:=by simp at q;omega
  refine⟨w,by rw[ez (by omega),h2,hq];rfl,?_⟩;simp only[hq,List.getElem_cons_zero];exact E8 hw
def d6:=cg rO
def CF:aH:=sub d6 [1,1,0,1,0,0]
def YE:rO.body=U (.seq (sub d6 [0]) (.seq (sub d6 [1,0]) (.seq (.seq (sub d6 [1,1,0,0]) (.block 0 (.loop CF))) (.seq (sub d6 [1,1,1,0]) (sub d6 [1,1,1,1]))))):=by kernel_rfl
def qgc{x:O}(h:s8 A dss x)(hl:Z dss<9223372036854775808):∃v A',az I 6 [x] A v A'/\uh A' (oR dss) v/\Kp A A':=by
 refine c_ (aN Tryz.func6) YE (by kernel_rfl) ?_;have hlen:=h.len;apply W.q2
 .intro M _;simp(disch:=omega)only[d6,rO,Aq,V];rfl
 apply W.seq;apply W.q
 .intro M;simp(disch:=omega)only[d6,rO,Aq,V];rfl
 apply W.block;refine W.up (min (Z dss) 7) (λ k t C=>∃b y,yd C b (oR (dss.take k)) y/\(y=.slice Y 0 0\/A.next<=b)/\Kp A C/\Sl t [(0,x),(3,y),(4,.int .i64 k)]) ?_ (a6 _) ⟨0,.slice Y 0 0,⟨[],.inl ⟨rfl,rfl⟩,rfl,λ i l h=>by simp[oR]at h⟩,.inl rfl,Kp.refl _,?_⟩
 .rintro k t C hk ⟨b,y,hB,hb,kC,g0,g3,g4,-⟩;by_cases hlt:k<min (Z dss) 7
  .have h1:k<Z dss:=by omega
   have h7:k<7:=by omega
   obtain⟨ds,hds⟩:∃ds,dss[k]?=U ds:=⟨_,aV h1⟩;obtain⟨p,w,i1,i2,hw⟩:=(h.kp kC).at hds;obtain⟨v,D,⟨g,hg⟩,hv,kD⟩:=qf8 hw;have htk:=qdY hds h7;have vl:=hv.len;have hBD:=hB.kp kD;have hnC:=kC.1;have hnD:=kD.1;by_cases h0:xw ds=[]
   .rw[aC h0]at htk;rw[h0]at vl;apply W.ct (g) 20
    .intro M hM;simp(disch:=first|decide+kernel|omega|simp only[Wq,V])only[CF,d6,rO,Aq,au,reduceIte,V,ak,g0,g3,g4,hlen,h1,h7,i1,i2,hg,vl,dL,fm,fk,gY];rfl
    refine⟨hlt,_,_,rfl,b,y,by rw[htk];exact hBD,hb,kC.trans kD,?_⟩;simp only[Sq,V,ak,g0,g3]
   .rw[aq h0]at htk;have hpos:=iG.2 h0;obtain⟨y',E,e1,e2,e3,e4⟩:=hBD.add hv (by have:=RS (dss.take k);omega);obtain⟨bv,hbv⟩:=hv;obtain⟨aw,nw,cw,rfl⟩:=ai.isS hbv;have bs:=H0 (a:=aw) (n:=nw) (c:=cw);apply W.ct (g) 20
    .intro M hM;simp(disch:=first|decide+kernel|omega|simp only[Wq,V])only[CF,d6,rO,Aq,au,reduceIte,V,ak,g0,g3,g4,hlen,h1,h7,i1,i2,hg,vl,hpos,fm,fk,bs,e1];rfl
    refine⟨hlt,_,_,rfl,D.next+1,y',by rw[htk];exact e2,.inr (by omega),⟨by omega,λ z hz=>by rw[e4 z (by omega) (λ e=>hb.elim id λ h=>by omega),kD.2 z (by omega),kC.2 z hz]⟩,?_⟩;simp only[Sq,V,ak,g0]
  .have hk':oR (dss.take k)=oR dss:=by
    unfold oR;rw[zS];by_cases h:Z dss<=7
    .rw[ug (by omega),ug h]
    .rw[show min 7 k=7 by omega]
   rw[hk']at hB;by_cases h1:k<Z dss
   .have h7:¬k<7:=by omega
    apply W.run 20
    .intro M;simp(disch:=first|decide+kernel|omega|simp only[Wq,V])only[CF,d6,rO,Aq,au,reduceIte,V,ak,g0,g4,hlen,h1,h7];rfl
    apply W.run 40
    .intro M;simp(disch:=omega)only[d6,rO,Aq,V,g3];rfl
    exact⟨by simp,rfl,_,(by simp only[rO,Aq,V]<;>rfl),⟨b,hB⟩,kC⟩
   .apply W.run 20
    .intro M;simp(disch:=first|decide+kernel|omega|simp only[Wq,V])only[CF,d6,rO,Aq,au,reduceIte,V,ak,g0,g4,hlen,h1];rfl
    apply W.run 40
    .intro M;simp(disch:=omega)only[d6,rO,Aq,V,g3];rfl
    exact⟨by simp,rfl,_,(by simp only[rO,Aq,V]<;>rfl),⟨b,hB⟩,kC⟩
 .simp only[Sq,V,ak]
def qdX(hd:∀ds∈dss,∀d∈ds,d.wt<4294967296):∀l∈oR dss,qC l:=λ l hl=>by
 unfold oR at hl;obtain⟨hm,h0⟩:=qy.1 hl;obtain⟨ds,hds,rfl⟩:=dA.1 hm;have hwd:=hd ds (wa hds);have rows:∀e∈(ds.take 14).map dE,((1<=Z e.word/\Z e.word<=9)/\e.weight<4294967296)/\Norm e/\bare e=e:=λ e he=>by
  obtain⟨d,hq,rfl⟩:=dA.1 he;have hw:=hwd d (wa hq);have hwt:(dE d).weight<4294967296:=by
   unfold dE uJ bare;split<;>simp<;>omega
  have hb:bare (dE d)=dE d:=by
   unfold dE uJ bare;cases d.gone<;>simp
  exact⟨⟨YY d,hwt⟩,by have:=qcw hwt;rwa[hb]at this,hb⟩
 have hlen:(xw ds).length<=14:=dp (UD _) (by rw[aR,db];omega);have hne:xw ds≠ []:=by
  rintro e;rw[e]at h0;simp at h0
 have mem:∀e∈xw ds,((1<=Z e.word/\Z e.word<=9)/\e.weight<4294967296)/\Norm e:=qjc _ λ e he=>by
  rw[(rows e he).2.2];exact⟨(rows e he).1,(rows e he).2.1⟩
 obtain⟨k1,k2⟩:=qbJ hne (UC _) (by omega) λ e he=>(mem e he).1
 refine⟨k1,λ e he=>(mem e he).2,hlen,?_⟩;have:=k2 hlen;unfold iY crc.ek;rw[aU,crc.Ay];omega
def KT.E8{P:aj->Prop}(K:KT P A B)(hP:P 44){l:List aD}{x:O}(h:dK A l x):dK B l x:=by
 obtain⟨b,h⟩:=h;exact⟨b,K.fx h hP⟩
def KT.P7{P:aj->Prop}(K:KT P A B)(hP:P 44/\P 40)(h:uh A L y):uh B L y:=by
 obtain⟨b,xs,h1,h2,h3⟩:=h;refine⟨b,xs,K.fx h1 hP.2,h2,λ i l hl=>?_⟩;obtain⟨x,e1,e2⟩:=h3 i l hl;exact⟨x,e1,K.E8 hP.1 e2⟩
variable {vs:List O}
def KT.dv{P:aj->Prop}(K:KT P A B)(hP:P 153/\P 239/\P 304)(h:nj A L vs):nj B L vs:=⟨h.1,λ i l v h1 h2=>by
 obtain⟨q1,q2⟩:=h.2 i l v h1 h2;exact⟨q1.kt K hP,q2⟩⟩
variable {r:Nat}{l:List O}
def eu.Uu{D:cT}{e:aj}{k:Kd}(h:eu A p D)(hv:VB A e r k l)(hn:A.next<=B.next)(hf:∀z,z≠r->B.get z=A.get z)(he:101≠e/\165≠e/\297≠e/\3≠e/\9≠e/\228≠e/\332≠e):eu B p D:=by
 obtain⟨pf,ml,mn,b,mf,ps,h⟩:=h;exact⟨pf,ml,mn,b,mf,ps,h.PK (KT.sQ hv hn λ z _=>hf z) he λ m es c hh=>hf m (Ne.symm (hv.cN hh))⟩
def GG:aY I 31=.ok 5:=by kernel_rfl
def UU:cX I 31=.ok (.agg ⟨[nV 0,nV 0,nV 0,.slice Y 0 0,.slice Y 0 0]⟩):=by kernel_rfl
def Of:bM I 31 (pw b 0) 0=.ok (pw b 0):=by kernel_rfl
def Jm:bM I 31 (pw b 0) 1=.ok (pw b 4):=by kernel_rfl
def VX{a:Nat}:ef I 31 [(0,.agg ⟨[nV a,nV b,nV c,.slice Y 0 0]⟩)]=.ok (.agg ⟨[nV a,nV b,nV c,.slice Y 0 0,.slice Y 0 0]⟩):=by kernel_rfl
def qhh:aY I 29=.ok 1:=by kernel_rfl
def WE{s:Nat×Nat×Nat}:eo I 26 1 [(0,.agg ⟨cF s⟩)]=.ok (ae 57 (cF s),.dy 1 2):=by kernel_rfl
def WI{q:Nat}:eo I 29 1 [(0,pw q 0)]=.ok (ae 58 [pw q 0],.dy 1 2):=by kernel_rfl
def PN{k:Kd}{a0 a1 a2 a3 xs:O}(h:de A 31 b k [a0,a1,a2,a3,xs]):ax I A.get 28 (.pointer (U ⟨b,0,Y⟩))=.ok (.agg ⟨[a0,a1,a2,a3]⟩):=by
 obtain⟨d28,hd1,hd2⟩:=b9 (t:=28) (p:=aa) (by kernel_rfl);obtain⟨c,h1,h2⟩:=h;refine bU hd1 hd2 (l:=[a0,a1,a2,a3]) (k:=k) (e:=31) (by exact pH) ⟨c,h1,λ i hi=>?_⟩;rw[h2 i (by simp only[cd,dL]at*;omega)]
 match i,hi with
 |0,_=>rfl
 |1,_=>rfl
 |2,_=>rfl
 |3,_=>rfl
 |i+4,hi=>simp only[cd,dL]at hi;omega
def FP{k:Kd}{a0 a1 a2 a3 xs:O}(h:de A 31 b k [a0,a1,a2,a3,xs]):ax I A.get 31 (pw b 0)=.ok (.agg ⟨[a0,a1,a2,a3,xs]⟩):=by
 obtain⟨d,hd1,hd2⟩:=b9 (t:=31) (p:=aa) (by kernel_rfl);exact bU hd1 hd2 (by exact GG) h
def qhJ{k:Kd}{a0 a1 a2 a3 xs c0 c1 c2 c3:O}(h:de A 31 b k [a0,a1,a2,a3,xs])(h1:∀v∈ [c0,c1,c2,c3],bI v=aa):
 ∃A',bX I A 28 (.pointer (U ⟨b,0,Y⟩)) (.agg ⟨[c0,c1,c2,c3]⟩)=.ok A'/\de A' 31 b k [c0,c1,c2,c3,xs]/\A'.next=A.next/\∀z,z≠b->A'.get z=A.get z:=by
 obtain⟨A',e1,e2,e3,e4⟩:=de.put (o:=0) (vs:=[c0,c1,c2,c3]) h h1 (by simp) (by simp);refine⟨A',?_,e4 _ rfl λ j hj=>?_,e2,e3⟩
 .unfold bX;have hc:(Value.agg ⟨[c0,c1,c2,c3]⟩).cells.toList=[c0,c1,c2,c3]:=rfl;simp only[pH,R.aT,hc];exact e1
 .match j,hj with
  |0,_=>rfl
  |1,_=>rfl
  |2,_=>rfl
  |3,_=>rfl
  |4,_=>rfl
  |j+5,hj=>simp only[cd,dL]at hj;omega
def uX(k:Nat):List (List UInt8):=(jE k).map λ i=>iQ (i+1)
def qcE(k:Nat):uX (k+1)=uX k++[iQ (k+1)]:=by
 unfold uX;rw[List.range_succ,fY];rfl
def Kb(k:Nat):(uX k).length=k:=by unfold uX;simp
def qcD:∀k,k<7->iQ (k+1)∉uX k:=by decide+kernel
def qcF:∀k,k<8->lT∉uX k:=by decide+kernel
structure xU (D:cT) (k:Nat):Prop where
 ok:iH D
 nm:oY D.ns
 ns:D.ns=uX k
 kk:D.k=Z D.ns
 st:D.st=4*k
 q:D.q=1048576
 sz:fp D.fs<=100000*k
def YM:xU (D0 1048576) 0:=by
 refine⟨⟨qz,rfl,rfl,aJ _,?_⟩,⟨qz,by decide,λ n h=>by cases h⟩,rfl,rfl,rfl,rfl,by decide⟩;rw[xM qz rfl];decide
def xU.room{D:cT}{l:List aD}(h:xU D k)(hk:k<7)(hl:qC l):iQ (k+1)∉D.ns/\fp D.fs+(iY l).length<=D.q:=by
 have hs:=h.sz;have hq:=h.q;have:=hl.2.2.2;exact⟨by rw[h.ns];exact qcD k hk,by omega⟩
def xU.write{D:cT}{l:List aD}(h:xU D k)(hk:k<7)(hl:qC l):xU (DV D (iQ (k+1)) (iY l)) (k+1):=by
 obtain⟨r1,r2⟩:=h.room hk hl;obtain⟨-,-,-,-,-,o3,hz⟩:=Kt h.ok r1 r2;have hs:=h.sz;have:=hl.2.2.2;have e:D.ns++[iQ (k+1)]=uX (k+1):=by rw[h.ns,qcE]
 exact⟨o3.step.qg0,h.nm.step r1 KU.2 (by rw[h.ns,Kb];omega),e,rfl,by show D.st+4=_;rw[h.st];omega,h.q,by show fp (DU D _ _).fs<=_;rw[hz];omega⟩
def qbY(hL:∀l∈L,qC l)(h7:Z L<=7):zU ⟨Z L,Z L+1,nT L⟩:=by
 refine⟨by show Z L<=_;omega,⟨by show 1<=Z L+1;omega,by show Z L+1<=_;omega⟩,by show(nT L).length<=_;rw[vi];omega,λ s hs=>?_,?_⟩
 .obtain⟨i,hi,rfl⟩:=rA (show s∈nT L from hs);rw[vi]at hi;have e:=Gr (aV hi);obtain⟨h1,-,h3,h4⟩:=hL _ (ik hi);rw[aV (by rw[vi];exact hi)]at e;rw[je e];have hp:0<L[i].length:=iG.2 h1.1;have hb:(crc.ek (iw L[i])).length=(iw L[i]).length+4:=by unfold crc.ek;rw[aU,crc.Ay]
  unfold iY at h4;refine⟨⟨?_,?_⟩,⟨?_,?_⟩,?_,?_⟩
  .show 1<=Z L-i;omega
  .show Z L-i<Z L+1;omega
  .show 1<=L[i].length;omega
  .show L[i].length<=100000;omega
  .show 1<=(crc.ek (iw L[i])).length;omega
  .show(crc.ek (iw L[i])).length<=1000000000;omega
 .show((nT L).map (·.1)).Nodup;rw[List.nodup_iff_pairwise_ne,ue];intro i j hi hj hij;rw[aR,vi]at hi hj;have e1:=Gr (aV hi);have e2:=Gr (aV hj);rw[aV (by rw[vi];omega)]at e1 e2;rw[v_,v_,je e1,je e2];show Z L-i≠Z L-j;omega
def qbW{m:ui}(hm:zU m)(h7:Z m.dv<=7):(crc.ek (qh m)).length<=300:=by
 obtain⟨m1,⟨-,m2⟩,-,m4,-⟩:=hm;have key:∀l:List Nat,(∀n∈l,n<18446744073709551616)->(fS l).length<=9*Z l:=by
  intro l
  induction l with
  |nil=>intro _;exact aJ _
  |cons n l ih=>
   intro hl;have h1:=tR n (hl n cM);have h2:=ih λ x hx=>hl x (cU _ hx)
   unfold fS at*;rw[j',aU,cd];omega
 have:=key ([m.ver,1,m.next,Z m.dv]++pE m.dv) λ n hn=>by
  rcases mI.1 hn with h|h
  .simp only[cC,en,or_false]at h;omega
  .exact J2 m4 m2 n h
 rw[aU,FX]at this;unfold crc.ek qh;rw[aU,crc.Ay,aU];simp only[cd,dL]at*;omega
end Go.Proofs.YtdobfpkceacneaaGreatDoor.sto
namespace Go.Am
section
variable {tb:aO}{ih:aH->St->R (Ex×St)}
variable (dst:Option Tmp)(ty:aj)(pos:String)(after:Array Edge)(g:Option (Nat×Bool))(s:St)(k:St->R (Ex×St))
def qc1(t:aj)(x:bA):bB tb ih {dst,op:=.range t x,type:=ty,pos,after,guard:=g} s k=(ev s.t x).bind λ x=>(qn tb s.m t x).bind λ(v,A)=>bS {s with m:=A} dst v k:=by
 unfold bB;show((jX tb s.t s.m (.range t x)).bind λ(v,A)=>bS {s with m:=A} dst v k)=_;simp only[jX,R.ec]
def qc0(x:bA)(b:Bool):bB tb ih {dst,op:=.next x b,type:=ty,pos,after,guard:=g} s k=(ev s.t x).bind λ x=>(y9 s.m x b).bind λ(v,A)=>bS {s with m:=A} dst v k:=by
 unfold bB;show((jX tb s.t s.m (.next x b)).bind λ(v,A)=>bS {s with m:=A} dst v k)=_;simp only[jX,R.ec]
end
end Go.Am
namespace Go.Proofs.YtdobfpkceacneaaGreatDoor.sto
open Go.Am Go.Mdl Go.Sto
variable {t:T O}{n:Nat}{A:Mem}
def Ma{tb:aO}{f:bA}{ps:Array Tmp}{a b:aH}{K:Ex->St->Prop}{fid:FuncId}{first capt:List O}(hf:ev t f=.ok (.func (.func fid) ⟨first⟩ ⟨capt⟩))
 (hc:∀J lp,Kp A J->∃v E,az tb fid (first++[.func (.yield lp) ⟨[]⟩ ⟨[]⟩]++capt) J v E/\Kp J E)
 (k:∀D,Kp A D->A.next<D.next->D.get A.next=U .defd->K .nrm ⟨t,n,[A.next],D,Y⟩):W tb (.rangeFunc f ps a b) ⟨t,n,[],A,Y⟩ K:=by
 have n1:=aA A .defd;have k1:=Kp.alloc A .defd;have k2:=Kp.alloc (A.alloc .defd) (.loop (gR t n ps.toList a b A.next));have g1:=cR (A.alloc .defd) (.loop (gR t n ps.toList a b A.next));have g0:((A.alloc .defd).alloc (.loop (gR t n ps.toList a b A.next))).get A.next=U .defd:=by rw[k2.2 _ (by omega)];exact cR A .defd
 have n2:=aA (A.alloc .defd) (.loop (gR t n ps.toList a b A.next));rw[n1]at g1;obtain⟨v,E,h1,h2⟩:=hc _ (A.next+1) (k1.trans k2);have hE:=h2.1;refine W.qn hf h1 (by rw[h2.2 _ (by omega)];exact g1) (by intro h;cases h) rfl (k _ ⟨?_,λ z hz=>?_⟩ ?_ ?_)
 .rw[cE];omega
 .rw[cr,aq (by omega),h2.2 z (by omega),k2.2 z (by omega),k1.2 z hz]
 .rw[cE];omega
 .rw[cr,aq (by omega),h2.2 _ (by omega),g0]
def m6:List O:=[.map Y,.pointer Y,iN 0,iN 0]
def V':ef I 72 []=.ok (.agg ⟨m6⟩):=by kernel_rfl
def I5:dK A [] (.slice Y 0 0):=⟨0,.inl ⟨rfl,rfl⟩⟩
def d8:=cg Tryz.f8
def Nt:aH:=sub d8 [1,1,0,1,0,0]
def YH:Tryz.f8.body=U (.seq (sub d8 [0]) (.seq (sub d8 [1,0]) (.seq (.seq (sub d8 [1,1,0,0]) (.block 0 (.loop Nt))) (.seq (sub d8 [1,1,1,0]) (sub d8 [1,1,1,1]))))):=by kernel_rfl
def SK{x:O}(h:dK A [] x):az I 8 [x] A (pV A.next) (A.alloc (ae 72 m6)):=by
 have hl:=(h.kp (Kp.alloc A (ae 72 m6))).len;refine yK (aN Tryz.func8) YH (by kernel_rfl) ?_;apply W.q2
 .intro M _;simp(disch:=omega)only[d8,Tryz.f8,Aq,V,eO,V',aX];rfl
 apply W.seq;apply W.q
 .intro M;simp(disch:=decide+kernel)only[d8,Tryz.f8,Aq,V,hl,dL];rfl
 apply W.block;apply W.round;apply W.run 20
 .intro M;simp(disch:=decide+kernel)only[Nt,d8,Tryz.f8,Aq,V,gY];rfl
 apply W.run 40
 .intro M;simp(disch:=omega)only[d8,Tryz.f8,Aq,V];rfl
 exact⟨by simp,rfl,rfl,by simp only[Tryz.f8,Aq,V,pV]<;>rfl⟩
def Um:∃d,I.aB 67=U d/\cW d=af:=b9 (by kernel_rfl)
def qiY:∃d,I.aB 68=U d/\cW d=af:=b9 (by kernel_rfl)
def qdP:qn I A 67 (.map Y)=.ok (pw A.next 0,A.alloc .nit):=by
 have h:I.aB 67=U (.map 5 122):=by kernel_rfl
 unfold qn;simp only[h]
def qct:y9 (A.alloc .nit) (pw A.next 0) af=.ok (.tuple ⟨[.bool af]⟩,A.alloc .nit):=by
 unfold y9;simp only[cR]
def d297:=cg Tryz.f297
def Ns:aH:=sub d297 [1,0,0]
def Yz:Tryz.f297.body=U (.seq (sub d297 [0]) (.block 0 (.loop Ns))):=by kernel_rfl
variable {p:Nat}{y:O}
def qer(h:VB A 67 p (.var 1) [.map Y]):az I 297 [y,pV p] A cL (A.alloc .nit):=by
 obtain⟨d,hd1,hd2⟩:=Um;have l1:=h.l0 hd1 hd2;have r1:=qdP (A:=A);have r2:=qct (A:=A);refine yK (aN Tryz.func297) Yz (by kernel_rfl) ?_;simp only[pV];apply W.q
 .intro M;simp(disch:=omega)only[d297,Tryz.f297,Aq,V,l1,qc1,r1];rfl
 apply W.block;apply W.round;apply W.run 20
 .intro M;simp(disch:=omega)only[Ns,d297,Tryz.f297,Aq,V,qc0,r2,dX];rfl
 exact⟨by simp,rfl,rfl,by simp only[Tryz.f297,Aq,V]<;>rfl⟩
def GM:I.aB 123=U (.slice 5):=by kernel_rfl
def d307:=cg BW
def YA:BW.body=U (.seq (sub d307 [0]) (.seq (.seq (sub d307 [1,0,0]) (.block 0 (.rangeFunc (.tmp 6) #[7] (sub d307 [1,0,1,0,0]) (sub d307 [1,0,1,0,1])))) (.seq (sub d307 [1,1,0]) (sub d307 [1,1,1])))):=by kernel_rfl
variable {m:Nat}
def J4{D:Mem}(k:Kp A D)(h:D.get m=U .defd)(hm:A.next<=m):∃qjT,gU [m] D=.ok qjT/\qjT.next=D.next/\(∀z,z≠m->qjT.get z=D.get z)/\Kp A qjT:=by
 obtain⟨qjT,t1,t2,t3⟩:=tX [m] D (by simp) (λ d hd=>by rw[ee]at hd;rw[hd];exact h);exact⟨qjT,t1,t2,λ z hz=>t3 z (by simpa using hz),⟨by have:=k.1;omega,λ z hz=>by rw[t3 z (by simp;omega),k.2 z hz]⟩⟩
def qes(h:VB A 67 p (.var 1) [.map Y]):∃v A',az I 307 [.slice Y 0 0,.func (.func 297) ⟨[]⟩ ⟨[pV p]⟩] A v A'/\v=.slice Y 0 0/\Kp A A':=by
 refine mc (aN Tryz.func307) YA (by rw[Tryz.ntmps307];simp) (by kernel_rfl) (by kernel_rfl) ?_;have kB:=Kp.alloc A (ae 123 [.slice Y 0 0]);have vB:=aK A 123 [.slice Y 0 0];apply W.q
 .intro M;simp(disch:=omega)only[d307,BW,Aq,V,yQ];rfl
 apply W.seq;apply W.q
 .intro M;simp(disch:=omega)only[d307,BW,Aq,V];rfl
 apply W.block;refine Ma (by simp only[ev,T.cq,V,bR,bO];rfl) (λ J lp k=>⟨_,_,qer (h.kp (kB.trans k)),Kp.alloc _ _⟩) λ D k hn hm=>?_
 have l2:=(vB.kp k).l0 GM rfl;apply W.run 40
 .intro M;simp(disch:=omega)only[d307,BW,Aq,V,l2];rfl
 obtain⟨qjT,t1,-,-,t4⟩:=J4 (kB.trans k) hm (by rw[aA];omega);exact⟨.inr rfl,qjT,[.slice Y 0 0],t1,(by simp only[BW,Aq,V]<;>rfl),rfl,t4⟩
variable {b:Nat}
def NQ{t:bA}:gP I A.get .eql 122 t (.const (.pointer Y)) (pw b 0) (.pointer Y)=.ok (.bool af):=by kernel_rfl
def qcp{g:Nat->Option Ob}{t:bA}:gP I g .neq 68 t (.const (.pointer Y)) (.pointer Y) (.pointer Y)=.ok (.bool af):=by kernel_rfl
def ZE:bM I 70 (pw b 0) 0=.ok (pw b 0):=by kernel_rfl
def ZF:bM I 70 (pw b 0) 1=.ok (pw b 1):=by kernel_rfl
def Oj:bM I 72 (pw b 0) 0=.ok (pw b 0):=by kernel_rfl
def qeq(h:VB A 72 p (.var 4) m6):∃v A',az I 285 [pV p] A v A'/\v=.slice Y 0 0/\Kp A A':=by
 obtain⟨d,hd1,hd2⟩:=Um;have l1:=h.l0 hd1 hd2;have kB:=Kp.alloc A (ae 67 [.map Y]);have vB:=aK A 67 [.map Y];have a294:az I 294 [.map Y] A (.func (.func 297) ⟨[]⟩ ⟨[pV A.next]⟩) (A.alloc (ae 67 [.map Y])):=by
  simp only[pV];refine cG 60 (b_ Tryz.func294) (by kernel_rfl) λ M=>?_
  simp(disch:=omega)only[Tryz.f294,Aq,V,IL,qU,fb]<;>rfl
 obtain⟨g1,h1⟩:=a294;generalize A.alloc (ae 67 [.map Y])=B at kB vB h1;obtain⟨v,C,⟨g2,h2⟩,rfl,kC⟩:=qes vB;have a296:az I 296 [.func (.func 297) ⟨[]⟩ ⟨[pV A.next]⟩] B (.slice Y 0 0) C:=by
  refine bQ (g2) 60 (b_ Tryz.func296) (by kernel_rfl) λ M hM=>?_
  simp(disch:=omega)only[Tryz.f296,Aq,V,kx,h2]<;>rfl
 obtain⟨g3,h3⟩:=a296;obtain⟨D,⟨g4,h4⟩,kD⟩:=SF (A:=C) (b:=0) ⟨.inl ⟨rfl,rfl⟩,List.Pairwise.nil,by simp⟩;have a293:az I 293 [.func (.func 297) ⟨[]⟩ ⟨[pV A.next]⟩] B (.slice Y 0 0) D:=by
  refine bQ (g3+g4) 60 (b_ Tryz.func293) (by kernel_rfl) λ M hM=>?_
  simp(disch:=omega)only[Tryz.f293,Aq,V,kx,h3,h4]<;>rfl
 obtain⟨g5,h5⟩:=a293;refine⟨_,D,?_,rfl,kB.trans (kC.trans kD)⟩;simp only[pV]at*;refine bQ (g1+g5) 60 (b_ Tryz.func285) (by kernel_rfl) λ M hM=>?_
 simp(disch:=first|decide+kernel|omega)only[Tryz.f285,Aq,V,kx,eW,NQ,eO,bW,bV,ZE,l1,h1,h5]<;>rfl
def d284:=cg yE
def Nr:aH:=sub d284 [1,1,1,0,1,0,0]
def Yy:yE.body=U (.seq (sub d284 [0]) (.seq (sub d284 [1,0]) (.seq (sub d284 [1,1,0]) (.seq (.seq (sub d284 [1,1,1,0,0]) (.block 0 (.loop Nr))) (.seq (sub d284 [1,1,1,1,0]) (sub d284 [1,1,1,1,1])))))):=by kernel_rfl
def qep{z:O}(h:VB A 72 p (.var 4) m6):∃A',az I 284 [pV p,y,z] A (.bool aa) A'/\Kp A A':=by
 obtain⟨d,hd1,hd2⟩:=qiY;have l1:=h.l1 hd1 hd2;obtain⟨v,B,⟨g,hg⟩,rfl,kB⟩:=qeq h;have l0:cQ I .len [123] [.slice Y 0 0]=.ok (iN 0):=by kernel_rfl
 refine⟨B,yK (aN Tryz.func284) Yy (by kernel_rfl) ?_,kB⟩;simp only[pV]at*;apply W.q2
 .intro M _;simp(disch:=decide+kernel)only[d284,yE,Aq,V,eW,NQ,eO];rfl
 apply W.q
 .intro M;simp(disch:=first|decide+kernel|omega|simp only[Wq,V])only[d284,yE,Aq,au,reduceIte,V,ak,bW,bV,ZF,l1,Dh,Kx,qcp,eO,Fq,bY []];rfl
 apply W.seq;apply W.qG (g)
 .intro M hM;simp(disch:=first|decide+kernel|omega)only[d284,yE,Aq,V,hg,l0];rfl
 apply W.block;apply W.round;apply W.run 20
 .intro M;simp(disch:=decide+kernel)only[Nr,d284,yE,Aq,V,gY];rfl
 apply W.run 40
 .intro M;simp(disch:=omega)only[d284,yE,Aq,V];rfl
 exact⟨by simp,rfl,rfl,by simp only[yE,Aq,V]<;>rfl⟩
def qjL:cX I 403=.ok .nilFunc:=by kernel_rfl
def qgO:aY I 403=.ok 1:=by kernel_rfl
def qiU:∃d,I.aB 403=U d/\cW d=af:=b9 (by kernel_rfl)
def qiM:∃d,I.aB 122=U d/\cW d=af:=b9 (by kernel_rfl)
def qeo{q lp:Nat}(h:VB A 72 p (.var 4) m6)(h1:VB A 122 q (.var 1) [pV p]):∃A',az I 283 [.func (.yield lp) ⟨[]⟩ ⟨[]⟩,pV q] A cL A'/\Kp A A':=by
 have k1:=Kp.alloc A (ae 130 [.func (.yield lp) ⟨[]⟩ ⟨[]⟩]);have n1:=aA A (ae 130 [.func (.yield lp) ⟨[]⟩ ⟨[]⟩]);generalize hB:A.alloc (ae 130 [.func (.yield lp) ⟨[]⟩ ⟨[]⟩])=B at k1 n1;have k2:=Kp.alloc B (ae 403 [.func (.func 284) ⟨[]⟩ ⟨[pV A.next,pV (A.next+1)]⟩]);have v2:=aK B 403 [.func (.func 284) ⟨[]⟩ ⟨[pV A.next,pV (A.next+1)]⟩];have s2:bX I (B.alloc (ae 403 [.nilFunc])) 403 (pw B.next 0) (.func (.func 284) ⟨[]⟩ ⟨[pV A.next,pV (A.next+1)]⟩)=.ok (B.alloc (ae 403 [.func (.func 284) ⟨[]⟩ ⟨[pV A.next,pV (A.next+1)]⟩])):=ep qgO rfl rfl (by simp) (by simp[bI]);rw[n1]at v2 s2;generalize B.alloc (ae 403 [.func (.func 284) ⟨[]⟩ ⟨[pV A.next,pV (A.next+1)]⟩])=C at k2 v2 s2;obtain⟨d,hd1,hd2⟩:=qiU;obtain⟨d',hd1',hd2'⟩:=qiM;have l1:=v2.l0 hd1 hd2;have l2:=(h1.kp (k1.trans k2)).l0 hd1' hd2';obtain⟨D,⟨g,hg⟩,kD⟩:=qep (y:=pV A.next) (z:=pV (A.next+1)) (h.kp (k1.trans k2));refine⟨D,?_,(k1.trans k2).trans kD⟩;simp only[pV]at*;refine bQ (g) 60 (b_ Tryz.func283) (by kernel_rfl) λ M hM=>?_
 simp(disch:=omega)only[Tryz.f283,Aq,V,tL,hB,qjL,Nh,n1,fb,s2,l1,l2,hg]<;>rfl
def d230:=cg BT
def Yw:BT.body=U (.seq (sub d230 [0]) (.seq (sub d230 [1,0]) (.seq (.seq (sub d230 [1,1,0,0]) (.block 0 (.rangeFunc (.tmp 13) #[14] (sub d230 [1,1,0,1,0,0]) (sub d230 [1,1,0,1,0,1])))) (.seq (sub d230 [1,1,1,0]) (sub d230 [1,1,1,1]))))):=by kernel_rfl
def d266:=cg Ab
def Nq:aH:=sub d266 [1,0,1,0,0]
def Yx:Ab.body=U (.seq (sub d266 [0]) (.seq (.seq (sub d266 [1,0,0]) (.block 0 (.loop Nq))) (.seq (sub d266 [1,1,0]) (sub d266 [1,1,1])))):=by kernel_rfl
def qen{x:O}:∃A',az I 266 [x,ag []] A x A'/\Kp A A':=by
 have l0:cQ I .len [123] [.slice (U ⟨A.next,0,Y⟩) 0 (cu 0 1)]=.ok (iN 0):=jY GM;refine⟨_,yK (aN Tryz.func266) Yx (by kernel_rfl) ?_,Kp.alloc A (.cells 5 .mark 0 (T.bP .e 0 []))⟩;apply W.q
 .intro M;simp(disch:=omega)only[d266,Ab,Aq,V,eO];rfl
 apply W.seq;apply W.q
 .intro M;simp(disch:=decide+kernel)only[d266,Ab,Aq,V,QL _ _ _ _ _ _ _ _ _ _ u9 GM,MU u9 GM u5,rB,dL,uB,l0];rfl
 apply W.block;apply W.round;apply W.run 20
 .intro M;simp(disch:=decide+kernel)only[Nq,d266,Ab,Aq,V,gY];rfl
 apply W.run 40
 .intro M;simp(disch:=omega)only[d266,Ab,Aq,V];rfl
 exact⟨by simp,rfl,rfl,by simp only[Ab,Aq,V]<;>rfl⟩
def CJ{t:bA}:gP I A.get .eql 38 t (.const (.pointer Y)) (pw b 0) (.pointer Y)=.ok (.bool af):=by kernel_rfl
def qem(h:VB A 72 p (.var 4) m6):∃v A',az I 230 [pV p,ag []] A v A'/\v=.slice Y 0 0/\Kp A A':=by
 refine mc (aN Tryz.func230) Yw (by rw[Tryz.ntmps230];simp) (by kernel_rfl) (by kernel_rfl) ?_;have kB:=Kp.alloc A (ae 40 [.slice Y 0 0]);have vB:=aK A 40 [.slice Y 0 0];have nB:=aA A (ae 40 [.slice Y 0 0]);simp only[pV];apply W.q2
 .intro M _;simp(disch:=decide+kernel)only[d230,BT,Aq,V,LI,yQ,eW,CJ,eO];rfl
 generalize A.alloc (ae 40 [.slice Y 0 0])=B at kB vB nB;obtain⟨C,⟨g1,h1⟩,kC⟩:=qen (A:=B) (x:=pw p 0);have kD:=Kp.alloc C (ae 122 [pV p]);have vD:=aK C 122 [pV p];have a267:az I 267 [pV p] C (.func (.func 283) ⟨[]⟩ ⟨[pV C.next]⟩) (C.alloc (ae 122 [pV p])):=by
  simp only[pV];refine cG 60 (b_ Tryz.func267) (by kernel_rfl) λ M=>?_
  simp(disch:=omega)only[Tryz.f267,Aq,V,pA,qU,fb]<;>rfl
 obtain⟨g2,h2⟩:=a267;generalize C.alloc (ae 122 [pV p])=D at kD vD h2;simp only[pV]at h2;apply W.seq;apply W.qG (g1+g2)
 .intro M hM;simp(disch:=omega)only[d230,BT,Aq,V,bW,bV,Oj,h1,h2];rfl
 apply W.block;have kAD:=kB.trans (kC.trans kD);refine Ma (by simp only[ev,T.cq,V,bR,bO];rfl) (λ J lp k=>by
  obtain⟨E,h3,h4⟩:=qeo (h.kp (kAD.trans k)) (vD.kp k);exact⟨_,E,h3,h4⟩) λ E k hn hm=>?_
 have vE:=vB.kp (kC.trans (kD.trans k));have l4:=vE.l0 mB rfl;obtain⟨N,sN,vN,nN,fN⟩:=df (o:=0) (v:=.slice Y 0 0) zf vE.2 (by simp) rfl rfl;apply W.run 40
 .intro M;simp(disch:=omega)only[d230,BT,Aq,V,l4,sN];rfl
 have nC:=kC.1;have nD:=kD.1;have kAN:Kp A N:=⟨by have:=(kAD.trans k).1;omega,λ z hz=>by rw[fN z (by omega),(kAD.trans k).2 z hz]⟩;obtain⟨qjT,t1,t2,t3,t4⟩:=J4 (m:=D.next) kAN (by rw[fN _ (by omega)];exact hm) (by omega);have lO:ax I qjT.get 40 (pw A.next 0)=.ok (.slice Y 0 0):=c7 mB rfl (vN.same (t3 _ (by omega))) rfl;exact⟨.inr rfl,qjT,[.slice Y 0 0],t1,(by simp only[BT,Aq,V,lO]<;>rfl),rfl,t4⟩
def SJ(h:VB A 72 p (.var 4) m6):∃A',az I 187 [pV p] A (.slice Y 0 0) A'/\Kp A A':=by
 obtain⟨v,B,⟨g,hg⟩,rfl,kB⟩:=qem h;refine⟨B,?_,kB⟩;refine bQ (g) 60 (b_ Tryz.func187) (by kernel_rfl) λ M hM=>?_
 simp(disch:=omega)only[Tryz.f187,Aq,V,kx,I_,hg]<;>rfl
def Td:aY I 211=.ok 1:=by kernel_rfl
def qjB:cX I 211=.ok (.agg ⟨[.pointer Y]⟩):=by kernel_rfl
def VO{q:Nat}:ef I 211 [(0,pw q 0)]=.ok (.agg ⟨[pw q 0]⟩):=by kernel_rfl
def VP{q:Nat}:ef I 215 [(0,.agg ⟨[pw q 0]⟩)]=.ok (.agg ⟨[pw q 0]⟩):=by kernel_rfl
def qaF{v:O}:AB I 215 v=.ok (.iface 215 v):=by kernel_rfl
def qaG{v:O}:AB I 218 v=.ok (.iface 218 v):=by kernel_rfl
def UQ:cX I 135=.ok (.agg ⟨[.nilIface,ag []]⟩):=by kernel_rfl
def K8:aY I 135=.ok 2:=by kernel_rfl
def Mv{t:aj}{v:O}:ef I 135 [(0,.iface t v)]=.ok (.agg ⟨[.iface t v,ag []]⟩):=by kernel_rfl
def VQ{k n m:Int}:ef I 218 [(0,.agg ⟨[y,.int .u64 k]⟩),(1,.int .i64 n),(2,.int .u64 m)]=.ok (.agg ⟨[y,.int .u64 k,.int .i64 n,.int .u64 m]⟩):=by kernel_rfl
def PV{k:Kd}{x:O}(h:VB A 135 b k [x,y]):ax I A.get 135 (pw b 0)=.ok (.agg ⟨[x,y]⟩):=by
 obtain⟨d,hd1,hd2⟩:=b9 (by kernel_rfl);exact bU hd1 hd2 K8 h.2
def qfQ(h:VB A 72 p (.var 4) m6):∃v A',az I 76 [pV p] A v A'/\Kp A A':=by
 have k1:=Kp.alloc A (ae 135 [.nilIface,ag []]);have v1:=aK A 135 [.nilIface,ag []];generalize hB:A.alloc (ae 135 [.nilIface,ag []])=B at k1 v1;obtain⟨C,⟨g1,h1⟩,k2⟩:=SJ (h.kp k1);obtain⟨g2,h2⟩:=SK I5;have k3:=Kp.alloc C (ae 72 m6);generalize C.alloc (ae 72 m6)=D at h2 k3;have a130:az I 130 [pV p] B (pV C.next) D:=by
  simp only[pV]at*;refine bQ (g1+g2) 60 (b_ Tryz.func130) (by kernel_rfl) λ M hM=>?_
  simp(disch:=first|decide+kernel|omega)only[Tryz.f130,Aq,V,eW,CJ,eO,h1,h2]<;>rfl
 obtain⟨g3,h3⟩:=a130;have k4:=Kp.alloc D (ae 211 [pV C.next]);have s4:bX I (D.alloc (ae 211 [.pointer Y])) 211 (pw D.next 0) (.agg ⟨[pV C.next]⟩)=.ok (D.alloc (ae 211 [pV C.next])):=ep Td rfl rfl (by simp) (by simp[bI,pV]);have l4:ax I (D.alloc (ae 211 [pV C.next])).get 211 (pw D.next 0)=.ok (.agg ⟨[pV C.next]⟩):=AI Td (by kernel_rfl);generalize D.alloc (ae 211 [pV C.next])=E at k4 s4 l4;have a131:az I 131 [pV C.next] D (.agg ⟨[pV C.next]⟩) E:=by
  simp only[pV]at*;refine cG 60 (b_ Tryz.func131) (by kernel_rfl) λ M=>?_
  simp(disch:=decide+kernel)only[Tryz.f131,Aq,V,qjB,aX,eW,CJ,eO,bW,bV,Oj,VO,s4,l4]<;>rfl
 obtain⟨g5,h5⟩:=a131;have vE:=v1.kp (k2.trans (k3.trans k4));obtain⟨F,sF,vF,nF,fF⟩:=ja (l':=[.iface 215 (.agg ⟨[pV C.next]⟩),ag []]) (by exact K8) vE.2 rfl (by simp) (by simp[bI,ag]);have lF:=PV (⟨by have:=vE.1;omega,vF⟩:VB F 135 A.next _ _);have kE:=k1.trans (k2.trans (k3.trans k4));refine⟨.agg ⟨[.iface 215 (.agg ⟨[pV C.next]⟩),ag []]⟩,F,?_,⟨by have:=kE.1;omega,λ z hz=>by rw[fF z (by omega),kE.2 z hz]⟩⟩;simp only[pV]at*;refine bQ (g3+g5) 60 (b_ Tryz.func76) (by kernel_rfl) λ M hM=>?_
 simp(disch:=first|decide+kernel|omega)only[Tryz.f76,Aq,V,UQ,aX,hB,eW,CJ,eO,h3,h5,VP,Df,qaF,Mv,sF,lF]<;>rfl
def qfP{l:List aD}{v:O}(h:oD A l v)(hl:oX l):∃c A',az I 77 [v] A c A'/\Kp A A':=by
 obtain⟨p,y,rfl,h1,h2⟩:=h;have so:=Gq hl;have hpos:=iG.2 so.ne;have hml:=so.len;have k1:=Kp.alloc A (ae 135 [.nilIface,ag []]);have v1:=aK A 135 [.nilIface,ag []];generalize hB:A.alloc (ae 135 [.nilIface,ag []])=B at k1 v1;have r1:ax I (B.alloc (ae 149 [.slice Y 0 0,uN 0])).get 149 (pw p 0)=.ok (.agg ⟨[y,uN (least l)]⟩):=by
  obtain⟨d,hd1,hd2⟩:=DL;obtain⟨c,e1,e2⟩:=(h1.kp (k1.trans (Kp.alloc B (ae 149 [.slice Y 0 0,uN 0])))).2;have hg:c.iX 2 0=U [y,uN (least l)]:=oP _ _ _ _ rfl λ j hj=>by
   have:j=0\/j=1:=by omega
   rcases this with rfl|rfl
   .exact e2 0 (by simp[vg])
   .exact e2 1 (by simp[vg])
  unfold ax;simp only[e1,hd1,hd2,aI,iE,R.aT,hg]
 have one:∀v∈ [y,uN (least l)],bI v=aa:=by
  intro v hv;simp only[cC,en,or_false]at hv;rcases hv with rfl|rfl
  .exact h2.self.2
  .rfl
 have st:∀D:Mem,bX I (D.alloc (ae 149 [.slice Y 0 0,uN 0])) 149 (pw D.next 0) (.agg ⟨[y,uN (least l)]⟩)=.ok (D.alloc (ae 149 [y,uN (least l)])):=λ D=>ep iE rfl rfl (by simp) one
 have s2:=st B;have k2:=Kp.alloc B (ae 149 [y,uN (least l)]);have l2:ax I (B.alloc (ae 149 [y,uN (least l)])).get 149 (pw B.next 0)=.ok (.agg ⟨[y,uN (least l)]⟩):=AI iE (by kernel_rfl);generalize B.alloc (ae 149 [y,uN (least l)])=C at k2 s2 l2;have a132:az I 132 [pV p] B (.agg ⟨[y,uN (least l)]⟩) C:=by
  simp only[pV]at*;refine cG 60 (b_ Tryz.func132) (by kernel_rfl) λ M=>?_
  simp(disch:=decide+kernel)only[Tryz.f132,Aq,V,DY,aX,eW,E_,eO,bW,bV,N7,N6,r1,s2,l2]<;>rfl
 obtain⟨g1,h1'⟩:=a132;have s3:=st C;have k3:=Kp.alloc C (ae 149 [y,uN (least l)]);have v3:=aK C 149 [y,uN (least l)];have l3:ax I (C.alloc (ae 149 [y,uN (least l)])).get 149 (pw C.next 0)=.ok (.agg ⟨[y,uN (least l)]⟩):=AI iE (by kernel_rfl);generalize C.alloc (ae 149 [y,uN (least l)])=D at k3 s3 l3 v3;have ly:=v3.l0 eK rfl;have li:=v3.m1 eE rfl;have kAD:=k1.trans (k2.trans k3);have hlen:=(h2.kp kAD).len;have s1:bj .sub .i64 ((dx l).length:Nat) ((1:Nat):Int)=.ok (iN ((dx l).length-1)):=gS (by omega) (cS (by omega));have vE:=v1.kp (k2.trans k3);obtain⟨F,sF,vF,nF,fF⟩:=ja (l':=[.iface 218 (.agg ⟨[y,uN (least l),iN ((dx l).length-1),uN (least l)]⟩),ag []]) (by exact K8) vE.2 rfl (by simp) (by simp[bI,ag]);have lF:=PV (⟨by have:=vE.1;omega,vF⟩:VB F 135 A.next _ _);refine⟨.agg ⟨[.iface 218 (.agg ⟨[y,uN (least l),iN ((dx l).length-1),uN (least l)]⟩),ag []]⟩,F,?_,⟨by have:=kAD.1;omega,λ z hz=>by rw[fF z (by omega),kAD.2 z hz]⟩⟩;simp only[pV]at*;refine bQ (g1) 60 (b_ Tryz.func77) (by kernel_rfl) λ M hM=>?_
 simp(disch:=first|decide+kernel|omega)only[Tryz.f77,Aq,V,UQ,aX,hB,eW,E_,eO,h1',DY,s3,l3,CO,ly,hlen,s1,Fg,li,VQ,Df,qaG,Mv,sF,lF]<;>rfl
end Go.Proofs.YtdobfpkceacneaaGreatDoor.sto
namespace Go.Am
variable {tb:aO}{ih:aH->St->R (Ex×St)}
variable (dst:Option Tmp)(ty:aj)(pos:String)(after:Array Edge)(g:Option (Nat×Bool))(s:St)(k:St->R (Ex×St))
def qcZ(x:bA)(name:String)(args:Array bA)(ts:Array aj):bB tb ih {dst,op:=.call {callee:=.invoke x name,args,argTypes:=ts},type:=ty,pos,after,guard:=g} s k=
 (eI s.t args.toList).bind λ a=>(ev s.t x).bind λ rv=>(tQ tb s.m.get rv name a).bind λ cl=>(cH tb ih cl s.m).bind λ r=>AT s dst k r:=by
 unfold bB;show((qc tb s.t s.m.get {callee:=.invoke x name,args,argTypes:=ts}).bind λ cl=>(cH tb ih cl s.m).bind λ r=>match r with
  |.val v A=>bS {s with m:=A} dst v k
  |.dR v A=>.ok (.dR v,{s with m:=A}))=_
 unfold qc;simp only[R.ec];cases eI s.t args.toList with
 |no _=>rfl
 |ok a=>rfl
end Go.Am
namespace Go.Proofs.YtdobfpkceacneaaGreatDoor.sto
open Go.Am Go.Mdl Go.Sto
def qaH{v:O}:AB I 38 v=.ok (.iface 38 v):=by kernel_rfl
def qaI{v:O}:AB I 58 v=.ok (.iface 58 v):=by kernel_rfl
variable {p:Nat}
def qbQ{g:Nat->Option Ob}:tQ I g (.iface 38 (pV p)) "All" []=.ok (.fn 187 [pV p]):=by kernel_rfl
def qbR{g:Nat->Option Ob}:tQ I g (.iface 58 (pV p)) "All" []=.ok (.fn 24 [pV p]):=by kernel_rfl
variable {A:Mem}{m:Nat}
def KV.lp{r:eT}{o:Ob}(h:A.get m=U (.loop r)):KV (λ _=>True) A (A.set m o):=by
 have k:∀z,(∃t k f c,A.get z=U (.cells t k f c))->(A.set m o).get z=A.get z:=by
  rintro z ⟨t,k,f,c,h1⟩;rw[cr,aq];rintro rfl;rw[h]at h1;cases h1
 exact⟨by rw[cE];exact aJ _,λ e z _ _ _ hv=>k z (by obtain⟨-,c,h1,-⟩:=hv;exact⟨_,_,_,_,h1⟩)⟩
def qdr(t:T O)(g:Nat->Option Ob)(e:aj)(x y:bA)(r:aj):eB I t g (.binOp .eql e x y r)=(ev t x).bind λ a=>(ev t y).bind λ b=>gP I g .eql e x y a b:=rfl
def KR:pI 29 58 1=aa:=by kernel_rfl
def qgK:aY I 29=.ok 1:=by kernel_rfl
def qgN:aY I 34=.ok 1:=by kernel_rfl
def VZ:ef I 66 [(0,pw p 0)]=.ok (.agg ⟨[pw p 0,.slice Y 0 0]⟩):=by kernel_rfl
def WH:eo I 29 1 [(0,pw p 0)]=.ok (ae 58 [pw p 0],.dy 1 2):=by kernel_rfl
variable {b:Nat}
def ZC:bM I 66 (pw b 0) 0=.ok (pw b 0):=by kernel_rfl
def Oi:bM I 66 (pw b 0) 1=.ok (pw b 1):=by kernel_rfl
def qcn{t:bA}:gP I A.get .neq 58 t (.const (.pointer Y)) (pw b 0) (.pointer Y)=.ok (.bool aa):=by kernel_rfl
def d7:=cg wE
def IW:aH:=sub d7 [1,1,1,0,1,0,0]
def YG:wE.body=U (.seq (sub d7 [0]) (.seq (sub d7 [1,0]) (.seq (sub d7 [1,1,0]) (.seq (.seq (sub d7 [1,1,1,0,0]) (.block 0 (.loop IW))) (.seq (sub d7 [1,1,1,1,0]) (sub d7 [1,1,1,1,1])))))):=by kernel_rfl
variable {L:List (List aD)}{vs:List O}
def qgw{x:O}{tr:Nat}(hx:eZ A 58 1 (vs.map λ v=>[v]) x)(hv:nj A L vs)(hl:Z L<1000000):
 ∃v A',az I 7 [pV tr,x] A v A'/\v=pV A.next/\Kp A A'/\∃b y,VB A' 66 A.next (.var 2) [pV tr,y]/\iq A' 58 b vs y:=by
 refine c_ (aN Tryz.func7) YG (by kernel_rfl) ?_;have kB:=Kp.alloc A (ae 66 [pV tr,.slice Y 0 0]);have vB:=aK A 66 [pV tr,.slice Y 0 0];have nB:=aA A (ae 66 [pV tr,.slice Y 0 0]);generalize hB:A.alloc (ae 66 [pV tr,.slice Y 0 0])=B at kB vB nB;have hlen:=eZ.len (eZ.same hx kB.1 kB.2) pL;rw[aR,hv.1]at hlen;simp only[pV]at hB⊢;apply W.q2
 .intro M _;simp(disch:=decide+kernel)only[d7,wE,Aq,V,eO,eW,CJ];rfl
 apply W.q
 .intro M;simp(disch:=omega)only[d7,wE,Aq,V,VZ,aX,hB];rfl
 apply W.seq;apply W.q
 .intro M;simp(disch:=decide+kernel)only[d7,wE,Aq,V,hlen];rfl
 apply W.block;refine W.up (Z L) (λ k t C=>∃b y,VB C 66 A.next (.var 2) [pV tr,y]/\iq C 58 b (vs.take k) y/\(y=.slice Y 0 0\/A.next<b)/\Kp A C/\Sl t [(5,pw A.next 0),(13,x),(14,iN (Z L)),(15,.int .i64 k)]) ?_ (a6 _) ⟨0,.slice Y 0 0,vB,.inl ⟨rfl,rfl⟩,.inl rfl,kB,?_⟩
 .rintro k t C hk ⟨b,y,vC,hS,hb,kC,g5,g13,g14,g15,-⟩;by_cases hlt:k<Z L
  .have hLk:=aV hlt;generalize L[k]=l at hLk;have hkv:k<Z vs:=by rw[hv.1];exact hlt
   have hVk:=aV hkv;have htk:=eH hkv;generalize vs[k]=v at hVk htk;obtain⟨⟨p,y',rfl,-⟩,-⟩:=hv.2 k l v hLk hVk;obtain⟨p',o,i1,-,-,i2⟩:=eZ.at (kd:=.i64) (eZ.same hx kC.1 kC.2) pL Gm (by rw[da,hVk];rfl);obtain⟨d,hd1,hd2⟩:=Lx;have i3:=i2 58 d 0 _ hd1 hd2 rfl;rw[dN]at i3;have l1:=vC.l1 pL rfl;obtain⟨z,E,h1,h2,h3,h4,h5⟩:=A5 KR hS (by rw[aR,db];omega) (r:=[pV p]) rfl (by simp[bI,pV]);have hnC:=vC.1;have vE:=h4.vb vC (by decide);obtain⟨zc,zo⟩:=ai.di h2;obtain⟨F,sF,vF,nF,fF⟩:=df (t:=29) (o:=1) (v:=z) qgK vE.2 (by simp) zc zo;simp only[pV]at i3 h1;apply W.run 20
   .intro M;simp(disch:=first|decide+kernel|omega)only[IW,d7,wE,Aq,V,g5,g13,g14,g15,hlt,i1,i3,Dh,qcn,eO,bW,bV,Oi,l1,WH,h1,sF];rfl
   refine⟨hlt,_,_,rfl,C.next+1,z,⟨by omega,vF⟩,?_,.inr (by omega),⟨by have:=kC.1;omega,λ w hw=>?_⟩,?_⟩
   .rw[htk];exact GV (h2.same (by omega) λ _=>fF _ (by omega))
   .rw[fF w (by omega),h5 w (by have:=kC.1;omega) (λ e=>hb.elim id λ h=>by omega),kC.2 w hw]
   .simp only[Sq,V,ak,g5,g13,g14]
  .obtain rfl:k=Z L:=by omega
   rw[ug (by rw[hv.1];exact aJ _)]at hS;apply W.run 20
   .intro M;simp(disch:=decide+kernel)only[IW,d7,wE,Aq,V,g14,g15,gY];rfl
   apply W.run 40
   .intro M;simp(disch:=omega)only[d7,wE,Aq,V,g5];rfl
   exact⟨by simp,rfl,_,(by simp only[wE,Aq,V]<;>rfl),rfl,kC,b,y,vC,hS⟩
 .simp only[Sq,V,ak]
def LW(X:List Nat)(lp:Nat)(ps:List O)(Q:Nat->Mem->Nat->Prop):Prop:=∀(j:Nat) (p c:O) (D:Mem) (r:Nat),ps[j]?=U p->Q j D r->
 ∃E r',(∃g,∀M,g<=M->cH I (exec I M) (.round lp [p,c]) D=.ok (.val (.bool aa) E))/\Q (j+1) E r'/\dS X D r E r'
def d75:=cg Tryz.f75
def IV:aH:=sub d75 [1,1,0,0]
def YF:Tryz.f75.body=U (.seq (sub d75 [0]) (.seq (sub d75 [1,0]) (.block 0 (.loop IV)))):=by kernel_rfl
def F'(tr:Nat)(vs:List O):List O:=.iface 38 (pV tr)::vs.map λ v=>.iface 58 v
def qiS:∃d,I.aB 36=U d/\cW d=af:=b9 (by kernel_rfl)
def qiT:∃d,I.aB 38=U d/\cW d=af:=b9 (by kernel_rfl)
def Y3{t:bA}:gP I A.get .eql 36 t (.const (.pointer Y)) (pw b 0) (.pointer Y)=.ok (.bool af):=by kernel_rfl
variable {X:List Nat}
def qfU{J:Mem}{x:O}{tr vw p1 lp r0:Nat}{Q:Nat->Mem->Nat->Prop}(vV:VB A 66 vw (.var 2) [pV tr,x])(vT:VB A 72 tr (.var 4) m6)(hx:iq A 58 b vs x)(hv:nj A L vs)(hl:Z L<1000000)
 (hJ:Kp A J)(v1:VB J 36 p1 (.var 1) [pV vw])(hp:p1∉X/\p1≠r0)(hE:LW X lp (F' tr vs) Q)(hQ:∀j D E r,Q j D r->Kp D E->Q j E r)(hX:∀z,(z∈X\/z=r0)->A.next<=z)(hI:Q 0 J r0):
 ∃v E,az I 75 [.func (.yield lp) ⟨[]⟩ ⟨[]⟩,pV p1] J v E/\∃r,Q (Z L+1) E r/\dS X J r0 E r:=by
 refine c_ (aN Tryz.func75) YF (by kernel_rfl) ?_;obtain⟨d36,a1,a2⟩:=qiS;obtain⟨d38,a3,a4⟩:=qiT;have fX:∀(D:Mem) (r:Nat),dS X J r0 D r->Kp A D:=λ D r hF=>⟨by have:=hF.1;have:=hJ.1;omega,λ z hz=>by
  have:=hJ.1;rw[hF.2.2 z (by omega) (λ h=>by have:=hX z (.inl h);omega) (λ h=>by have:=hX z (.inr h);omega),hJ.2 z hz]⟩
 have l1:∀(D:Mem) (r:Nat),dS X J r0 D r->ax I D.get 36 (pw p1 0)=.ok (pV vw):=λ D r hF=>c7 a1 a2 (v1.2.same (hF.2.2 p1 v1.1 hp.1 hp.2)) rfl
 have l2:∀D,Kp A D->ax I D.get 38 (pw vw 0)=.ok (pV tr):=λ D k=>(vV.kp k).l0 a3 a4
 have l3:∀D,Kp A D->ax I D.get 29 (pw vw 1)=.ok x:=λ D k=>(vV.kp k).l1 pL rfl
 obtain⟨c,B,⟨g1,h1⟩,kB⟩:=qfQ (vT.kp hJ);obtain⟨C,r1,⟨g2,h2⟩,hQC,hFC⟩:=hE 0 _ c B r0 rfl (hQ _ _ _ _ hI kB);have hJC:=(dS.kp kB).trans hFC;have kC:=fX C r1 hJC;have e1:=l1 J r0 (dS.kp (Kp.refl J));have e2:=l2 J hJ;have e3:=l1 C r1 hJC;have e4:=l3 C kC;have e5:=l1 B r0 (dS.kp kB);have e6:=l2 B (hJ.trans kB);have sw:=zi vw;have st:=zi tr;have hlen:=ai.len (hx.same kC.1 (kC.2 b)) pL;rw[aR,hv.1]at hlen;simp only[pV]at*;apply W.ie (g1+g2)
 .intro M hM _;simp(disch:=first|decide+kernel|omega|simp only[Wq,V])only[d75,Tryz.f75,Aq,au,reduceIte,V,ak,e1,eW,qdr,Y3,eO,bW,bV,ZC,e2,Df,qaH,h1,h2,e5,e6,sw,st,Fq,bY [(4,13),(7,13)],e3,Oi,e4,hlen];rfl
 apply W.block;refine W.up (Z L) (λ k t D=>∃r,Q (k+1) D r/\dS X J r0 D r/\Sl t [(0,.func (.yield lp) ⟨[]⟩ ⟨[]⟩),(25,x),(26,iN (Z L)),(27,.int .i64 k)]) ?_ (a6 _) ⟨r1,hQC,hJC,?_⟩
 .rintro k t D hk ⟨r,hQD,hF,g0,g25,g26,g27,-⟩;by_cases hlt:k<Z L
  .have hLk:=aV hlt;generalize L[k]=l at hLk;have hkv:k<Z vs:=by rw[hv.1];exact hlt
   have hVk:=aV hkv;generalize vs[k]=v at hVk;have kD:=fX D r hF;obtain⟨hs,ho,-⟩:=(hv.kp kD).2 k l v hLk hVk;obtain⟨c',E,⟨g3,h3⟩,kE⟩:=qfP hs ho;obtain⟨F,r',⟨g4,h4⟩,hQF,hFF⟩:=hE (k+1) (.iface 58 v) c' E r (by unfold F';rw[dU,da,hVk];rfl) (hQ _ _ _ _ hQD kE);obtain⟨i1,i2⟩:dQ I 29 x (.int .i64 k)=.ok (pw b (k*1))/\ax I D.get 58 (pw b (k*1))=.ok v:=by
    obtain⟨d,hd1,hd2⟩:=Lx;have hxD:=hx.same kD.1 (kD.2 b);have h2:=ai.load (j:=0) hxD hd1 hd2 (by rw[da,hVk];rfl) rfl (by omega);rw[dN]at h2;exact⟨zj KR hxD (by rw[aR];exact hkv),h2⟩
   apply W.ct (g3+g4) 20
   .intro M hM;simp(disch:=first|decide+kernel|omega)only[IV,d75,Tryz.f75,Aq,V,g0,g25,g26,g27,hlt,i1,i2,Df,qaI,h3,h4];rfl
   refine⟨hlt,_,_,rfl,r',hQF,(hF.trans (dS.kp kE)).trans hFF,?_⟩;simp only[Sq,V,ak,g0,g25,g26]
  .obtain rfl:k=Z L:=by omega
   apply W.run 20
   .intro M;simp(disch:=decide+kernel)only[IV,d75,Tryz.f75,Aq,V,g26,g27,gY];rfl
   exact⟨by simp,rfl,_,(by simp only[Tryz.f75,Aq,V]<;>rfl),r,hQD,hF⟩
 .simp only[Sq,V,ak]
end Go.Proofs.YtdobfpkceacneaaGreatDoor.sto
namespace Go.Proofs.YtdobfpkceacneaaGreatDoor.sto
open Go.Am Go.Mdl Go.Sto Go.Shelf
def d12:=cg yu
def CB:aH:=sub d12 [1,1,0,1,0,0]
def CC:aH:=sub d12 [1,1,0,1,0,1]
def Ys:yu.body=U (.seq (sub d12 [0]) (.seq (sub d12 [1,0]) (.seq (.seq (sub d12 [1,1,0,0]) (.block 0 (.rangeFunc (.tmp 6) #[7,8] CB CC))) (.seq (sub d12 [1,1,1,0]) (sub d12 [1,1,1,1]))))):=by kernel_rfl
def iL(t:T O)(d:Nat):eT:=gR t 16 [7,8] CB CC d
def QW(A:Mem)(L:List (List aD))(t:T O)(mk a:Nat)(j:Nat)(D:Mem)(r:Nat):Prop:=
 (r=a\/mk+2<=r)/\r<D.next/\mk+2<=D.next/\(∃x vs,VB D 34 a (.var 1) [x]/\iq D 40 r vs x/\jF D (L.take j) vs/\(x=.slice Y 0 0\/mk+2<=r))/\D.get (mk+1)=U (.loop (iL t mk))/\Kp A D
variable {A:Mem}{L:List (List aD)}{t:T O}{mk:Nat}
def QW.gF{a:Nat}:∀j D E r,QW A L t mk a j D r->Kp D E->QW A L t mk a j E r:=by
 rintro j D E r ⟨h1,h2,h3,⟨x,vs,h4,h5,h6,h7⟩,h8,h9⟩ k;have:=k.1;exact⟨h1,by omega,by omega,⟨x,vs,h4.kp k,h5.same k.1 (k.2 r),h6.same k,h7⟩,by rw[k.2 _ (by omega)];exact h8,h9.trans k⟩
def L9(A:Mem)(ps:List Value)(L:List (List aD)):Prop:=∀(j:Nat) (p:Value),ps[j]?=some p->∃l,L[j]?=some l/\∀D,Kp A D->∃f cs w E,tQ I D.get p "All" []=.ok (.fn f cs)/\az I f cs D w E/\dK E l w/\Kp D E
def YU{ps:List O}{a:Nat}(hT:L9 A ps L)(hn:Z L<1000000)(ha:a<mk)(hA:A.next<=a)(hs:Sl t [(3,pV a)]):LW [a,mk+1] (mk+1) ps (QW A L t mk a):=by
 rintro j p c D r hp ⟨hr,hrD,hm,⟨x,vs,vD,hS,hR,hx0⟩,hlp,kA⟩;obtain⟨l,hl,hTl⟩:=hT j p hp;have hjl:=(bg.1 hl).1;obtain⟨g3,-⟩:=hs;generalize hF1:D.set (mk+1) (.loop {iL t mk with state:=.busy})=F;have kF:KV (λ _=>True) D F:=by rw[<-hF1];exact KV.lp hlp
 have nF:F.next=D.next:=by rw[<-hF1];exact cE _ _ _
 have fF:∀z,z≠mk+1->F.get z=D.get z:=λ z hz=>by rw[<-hF1,cr,aq hz]
 have hLF:F.get (mk+1)=U (.loop {iL t mk with state:=.busy}):=by rw[<-hF1,cr,aC rfl]
 have kAF:Kp A F:=⟨by have:=kA.1;omega,λ z hz=>by rw[fF z (by omega),kA.2 z hz]⟩;obtain⟨f,cs,w,G,hm1,⟨g1,h1⟩,hG,kG⟩:=hTl F kAF;obtain⟨bw,hw⟩:=hG;obtain⟨wc,wo⟩:=ai.di hw;obtain⟨aw,nw,cw,rfl⟩:=ai.isS hw;have hvD:=vD.1;have hkG:=kG.1;have vF:=kF.vb vD trivial;have lF:=vF.l0 zu rfl;have lG:=(vF.kp kG).l0 zu rfl;have hSG:=(kF.fx hS trivial).same kG.1 (kG.2 r);have hRG:=(hR.kt kF trivial).same kG;obtain⟨y,H,h2,h3,h4,h5,h6⟩:=A5 vd hSG (by rw[aR,hR.1,db];omega) (r:=[.slice aw nw cw]) rfl (by simpa using wo);have hRH:=(hRG.snoc (ai.sub hw (by decide))).kt h5.v (by decide);have et:L.take j++[l]=L.take (j+1):=by rw[zR,hl];rfl
 rw[et]at hRH;have vH:=h5.vb (vF.kp kG) (by decide);obtain⟨yc,yo⟩:=ai.di h3;obtain⟨N,sN,vN,nN,fN⟩:=df (o:=0) qgN vH.2 (by simp) yc yo;have kN:=KT.sQ vH (by omega) λ z _ h=>fN z h
 have hSN:=kN.fx h3 (by decide);have hRN:=hRH.kt kN.v (by decide);have hlN:N.get (mk+1)=U (.loop {iL t mk with state:=.busy}):=by rw[fN _ (by omega),h6 _ (by omega) (λ e=>hx0.elim id λ h=>by omega),kG.2 _ (by omega)];exact hLF
 have sx:cP 100 x x=aa:=by
  rcases hS with⟨rfl,-⟩|⟨k,c,rfl,-⟩
  .rfl
  .exact AX _ _ _ _
 have bs:=H0 (a:=aw) (n:=nw) (c:=cw);simp only[pV]at g3;have hq:∃C,(∃g,∀N,g<=N->cH I (exec I N) (.round (mk+1) [p,c]) D=.ok (.val (.bool aa) C))/\C=N.set (mk+1) (.loop (iL t mk)):=by
  refine xF hlp (t:=(t.set 7 p).set 8 c) rfl ?_;show W I CB ⟨_,16,[],D,U (mk+1)⟩ _;apply W.run 20
  .intro M;simp(disch:=omega)only[CB,d12,yu,Aq,V];rfl
  refine⟨rfl,_,hlp,rfl,?_⟩;show W I CC ⟨_,16,[],D.set (mk+1) (.loop {iL t mk with state:=.busy}),U (mk+1)⟩ _;rw[hF1];apply W.ct (g1) 20
  .intro M hM;simp(disch:=first|decide+kernel|omega|simp only[Wq,V])only[CC,d12,yu,Aq,au,reduceIte,V,ak,g3,lF,lG,qcZ,hm1,h1,bs,h2,sN,sx,Fq,bY [(0,2)]];rfl
  exact⟨rfl,rfl,_,hlN,rfl⟩
 obtain⟨C,hc,rfl⟩:=hq;have kC:KV (λ _=>True) N (N.set (mk+1) (.loop (iL t mk))):=KV.lp hlN;have nC:(N.set (mk+1) (.loop (iL t mk))).next=N.next:=cE _ _ _
 have fC:∀z,z≠mk+1->(N.set (mk+1) (.loop (iL t mk))).get z=N.get z:=λ z h=>by rw[cr,aq h]
 have lC:(N.set (mk+1) (.loop (iL t mk))).get (mk+1)=U (.loop (iL t mk)):=by rw[cr,aC rfl]
 generalize N.set (mk+1) (.loop (iL t mk))=C at hc kC nC fC lC;have all:∀z,z<D.next->z≠mk+1->z≠a->(z=r->x=.slice Y 0 0)->C.get z=D.get z:=λ z hz h1 h2 h3=>by rw[fC z h1,fN z h2,h6 z (by omega) h3,kG.2 z (by omega),fF z h1]
 have hkA:=kA.1;refine⟨C,G.next+1,hc,⟨.inr (by omega),by omega,by omega,⟨y,_,⟨by omega,de.same vN (fC _ (by omega))⟩,kC.fx (GV hSN) trivial,hRN.kt kC trivial,.inr (by omega)⟩,lC,⟨by omega,λ z hz=>?_⟩⟩,by omega,.inr (by omega),λ z hz hx hr'=>?_⟩
 .rw[all z (by omega) (by omega) (by omega) (λ e=>hx0.elim id λ h=>by omega),kA.2 z hz]
 .simp only[cC,en,or_false,not_or]at hx;exact all z hz hx.2 hx.1 λ e=>aZ e hr'
variable {vs:List O}{b:Nat}
def SL{x:O}{tr vw:Nat}(vV:VB A 66 vw (.var 2) [pV tr,x])(vT:VB A 72 tr (.var 4) m6)(hx:iq A 58 b vs x)(hv:nj A L vs)(hl:Z L<100000)(ht:total L<1000000):
 ∃v A',az I 12 [pV vw] A v A'/\dK A' (eV (total L) L) v/\Kp A A':=by
 refine mc (aN Tryz.func12) Ys (by rw[Tryz.ntmps12];simp) (by kernel_rfl) (by kernel_rfl) ?_;generalize ha:A.next=a
 have n1:(A.alloc (ae 34 [.slice Y 0 0])).next=a+1:=by rw[aA,ha]
 have k1:=Kp.alloc A (ae 34 [.slice Y 0 0]);have v1:=aK A 34 [.slice Y 0 0];rw[ha]at v1;have z34:cX I 34=.ok (.slice Y 0 0):=by kernel_rfl
 apply W.q2
 .intro M _;simp(disch:=omega)only[d12,yu,Aq,V,z34,yQ,ha];rfl
 generalize A.alloc (ae 34 [.slice Y 0 0])=B at n1 k1 v1;have k2:=Kp.alloc B (ae 36 [pV vw]);have v2:=aK B 36 [pV vw];have n2:=aA B (ae 36 [pV vw]);have a28:az I 28 [pV vw] B (.func (.func 75) ⟨[]⟩ ⟨[pV B.next]⟩) (B.alloc (ae 36 [pV vw])):=by
  simp only[pV];refine cG 60 (b_ Tryz.func28) (by kernel_rfl) λ M=>?_
  simp(disch:=omega)only[Tryz.f28,Aq,V,pA,qU,fb]<;>rfl
 obtain⟨g1,h1⟩:=a28;generalize B.alloc (ae 36 [pV vw])=C at k2 v2 n2 h1;apply W.seq;apply W.qG (g1)
 .intro M hM;simp(disch:=omega)only[d12,yu,Aq,V,h1];rfl
 apply W.block;generalize ht0:T.set _ _ _=t0;have hsl:Sl t0 [(3,pV a),(6,.func (.func 75) ⟨[]⟩ ⟨[pV B.next]⟩)]:=by
  rw[<-ht0];simp only[Sq,V,ak,pV]
 clear ht0;obtain⟨h3,h6,-⟩:=hsl;have kC:=k1.trans k2;have kJ:=(Kp.alloc C .defd).trans (Kp.alloc (C.alloc .defd) (.loop (iL t0 C.next)));have nJ1:=aA C .defd;have nJ:((C.alloc .defd).alloc (.loop (iL t0 C.next))).next=C.next+2:=by rw[aA,nJ1]
 have jL:((C.alloc .defd).alloc (.loop (iL t0 C.next))).get (C.next+1)=U (.loop (iL t0 C.next)):=by have:=cR (C.alloc .defd) (.loop (iL t0 C.next));rwa[nJ1]at this
 have jM:((C.alloc .defd).alloc (.loop (iL t0 C.next))).get C.next=U .defd:=by rw[(Kp.alloc (C.alloc .defd) _).2 _ (by omega)];exact cR C .defd
 generalize hJ:(C.alloc .defd).alloc (.loop (iL t0 C.next))=J at kJ nJ jL jM;have hT:L9 A (F' tr vs) ([]::L):=by
  rintro j p hp;cases j with
  |zero=>
   cases hp;refine⟨[],rfl,λ D k=>?_⟩;obtain⟨E,h1,h2⟩:=SJ (vT.kp k);exact⟨_,_,_,E,qbQ,h1,I5,h2⟩
  |succ j=>
   unfold F' at hp;rw[dU,da]at hp;obtain⟨v,hv1,rfl⟩:=Option.map_eq_some_iff.1 hp;have hj:j<Z L:=by rw[<-hv.1];exact(bg.1 hv1).1
   refine⟨_,by rw[dU];exact aV hj,λ D k=>?_⟩;obtain⟨hs,ho,hN⟩:=(hv.kp k).2 j _ v (aV hj) hv1;obtain⟨w,E,h1,h2,h3⟩:=R' hs ho hN;obtain⟨p,_,rfl,-⟩:=hs;exact⟨_,_,w,E,qbR,h1,h2,h3⟩
 have kAJ:=kC.trans kJ;have vJ:=v1.kp (k2.trans kJ);have hnB:=k1.1;obtain⟨va,E,hA,r,hQE,hFE⟩:=qfU vV vT hx hv (by omega) kAJ (v2.kp kJ) (by simp;omega)
  (YU hT (by simp;omega) (by omega) (by omega) ⟨h3,trivial⟩) QW.gF (λ z hz=>by
   simp only[cC,en,or_false]at hz;omega)
  ⟨.inl rfl,by omega,by omega,⟨_,[],vJ,.inl ⟨rfl,rfl⟩,⟨rfl,λ i l v h=>by simp at h⟩,.inl rfl⟩,jL,kAJ⟩
 obtain⟨e1,e2,e3,⟨y,ws,e4,e5,e6,e7⟩,e8,e9⟩:=hQE;rw[ug (by simp)]at e6;have hans:az I 75 ([]++[.func (.yield (C.next+1)) ⟨[]⟩ ⟨[]⟩]++[pV B.next]) ((C.alloc .defd).alloc (.loop (gR t0 16 [7,8] CB CC C.next))) va E:=by
  show az I 75 _ ((C.alloc .defd).alloc (.loop (iL t0 C.next))) va E;rw[hJ];exact hA
 have hev:ev t0 (.tmp 6)=.ok (.func (.func 75) ⟨[]⟩ ⟨[pV B.next]⟩):=by simp only[ev,h6]
 refine W.qn hev hans e8 (by intro h;cases h) rfl ?_;have kK:=KV.lp (o:=.loop {(iL t0 C.next:eT)with state:=.exhausted}) e8;have nK:(E.set (C.next+1) (.loop {(iL t0 C.next:eT)with state:=.exhausted})).next=E.next:=cE _ _ _
 have fK:∀z,z≠C.next+1->(E.set (C.next+1) (.loop {(iL t0 C.next:eT)with state:=.exhausted})).get z=E.get z:=λ z hz=>by rw[cr,aq hz]
 generalize E.set (C.next+1) (.loop {(iL t0 C.next:eT)with state:=.exhausted})=K at kK nK fK;have nE:=hFE.1;have l4:=(kK.vb e4 trivial).l0 zu rfl;obtain⟨v,qjT,⟨g2,h2⟩,hO,kO⟩:=KL ⟨r,ws,kK.fx e5 trivial,e6.kt kK trivial⟩ (by simp;omega) (by simpa[total]using ht);have etot:total ([]::L)=total L:=by simp[total]
 rw[etot,qb7]at hO;simp only[pV]at h3;apply W.ct (g2) 40
 .intro M hM;simp(disch:=omega)only[d12,yu,Aq,V,h3,l4,h2];rfl
 have kAK:Kp A K:=⟨by have:=e9.1;omega,λ z hz=>by rw[fK z (by omega),e9.2 z hz]⟩;have mO:qjT.get C.next=U .defd:=by rw[kO.2 _ (by omega),fK _ (by omega),hFE.2.2 _ (by omega) (by simp;omega) (by omega),jM]
 obtain⟨P,t1,t2,t3,t4⟩:=J4 (kAK.trans kO) mO (by omega);obtain⟨bv,hbv⟩:=hO;have hPv:dK P (eV (total L) L) v:=⟨bv,ai.Ey hbv (by omega) (by
  rcases id hbv with⟨h,-⟩|⟨_,_,-,-,⟨c,h,-⟩,-⟩
  .exact .inl h
  .exact .inr (t3 _ λ e=>by rw[e,mO]at h;cases h))⟩
 exact⟨.inr rfl,P,[v],t1,(by simp only[yu,Aq,V]<;>rfl),hPv,t4⟩
def qgt{x:O}{tr vw:Nat}(vV:VB A 66 vw (.var 2) [pV tr,x])(vT:VB A 72 tr (.var 4) m6)(hx:iq A 58 b vs x)(hv:nj A L vs)(hl:Z L<100000)(ht:total L<1000000):
 ∃v A',az I 11 [pV vw] A v A'/\dK A' (Mdl.live (eV (total L) L)) v/\Kp A A':=by
 obtain⟨v,B,⟨g1,h1⟩,hB,kB⟩:=SL vV vT hx hv hl ht;obtain⟨w,C,⟨g2,h2⟩,hC,kC⟩:=Sw hB (by have:=Da (total L) L;omega);refine⟨w,C,?_,hC,kB.trans kC⟩;refine bQ (g1+g2) 60 (b_ Tryz.func11) (by kernel_rfl) λ M hM=>?_
 simp(disch:=omega)only[Tryz.f11,Aq,V,h1,h2,kx]<;>rfl
def d5:=cg uy
def E6:aH:=sub d5 [1,1,1,0,1,0,0]
def YC:uy.body=U (.seq (sub d5 [0]) (.seq (sub d5 [1,0]) (.seq (sub d5 [1,1,0]) (.seq (.seq (sub d5 [1,1,1,0,0]) (.block 0 (.loop E6))) (.seq (sub d5 [1,1,1,1,0]) (sub d5 [1,1,1,1,1])))))):=by kernel_rfl
def qiV:∃d,I.aB 40=U d/\cW d=af:=b9 (by kernel_rfl)
def HE(A:Mem)(p r5 z8:Nat)(L:List (List aD))(y:O)(i:Nat)(D:Mem):Prop:=∃Dk fl bm bs,∃(xm xs:O) (vs:List O),eu D p Dk/\xU Dk i/\(i=Z L->fl=1)/\VB D 31 z8 (.var 5) [nV i,nV fl,nV (i+1),xm,xs]/\ai D 57 3 bm ((nT (L.drop (Z L-i))).map cF) xm/\
 iq D 58 bs vs xs/\nj D (L.drop (Z L-i)) vs/\uh D L y/\VB D 31 r5 (.var 5) [nV 0,nV 0,nV 0,.slice Y 0 0,.slice Y 0 0]/\KT dT A D/\z8≠r5/\A.next<=z8
variable {p i j:Nat}{y:O}
def qgn{D:Mem}{r5 z8:Nat}(h:HE A p r5 z8 L y i D)(hi:i+j+1=Z L)(h7:Z L<=7)(hL:∀l∈L,qC l)
 (hs:Sl t [(0,y),(5,pV r5),(7,pV p),(8,pV z8),(9,nV j)]):W I E6 ⟨t,61,[],D,Y⟩ λ e s'=>match e with
  |.nrm=>∃t' D',s'=⟨t',61,[],D',Y⟩/\HE A p r5 z8 L y (i+1) D'/\Sl t' [(0,y),(5,pV r5),(7,pV p),(8,pV z8),(9,.int .i64 ((Z L:Int)-1-((i+1:Nat):Int)))]
  |_=>False:=by
 obtain⟨Dk,fl,bm,bs,xm,xs,vs,hD,hDk,hfl,vz,hm,hx,hsg,hLs,v5,K,hne,hz8⟩:=h;obtain⟨g0,g5,g7,g8,g9,-⟩:=hs;obtain⟨l,hl⟩:∃l,L[j]?=U l:=⟨_,aV (by omega)⟩;have hlL:=hL l (fh hl);have hjl:=(bg.1 hl).1;have hdr:L.drop (Z L-(i+1))=l::L.drop (Z L-i):=by
  rw[show Z L-(i+1)=j by omega,show Z L-i=j+1 by omega,nb hjl,(bg.1 hl).2]
 have hdl:(L.drop (Z L-i)).length=i:=by rw[qx];omega
 have e1:=vz.l2 u3 rfl;obtain⟨bL,xL,q1,q2,q3⟩:=hLs;obtain⟨x,q4,hxe⟩:=q3 j l hl;have hLs:uh D L y:=⟨bL,xL,q1,q2,q3⟩;have i1:=zj (i:=j) vd q1 (by rw[aR];omega);obtain⟨d40,u1,u2⟩:=qiV;have i2:=ai.load (j:=0) q1 u1 u2 (by rw[da,q4];rfl) rfl (by omega);rw[dN]at i2;have hst:=hDk.st;obtain⟨r1,r2⟩:=hDk.room (by omega) hlL;obtain⟨v,E,⟨g1,h1⟩,kE,sp,rfl,hD',hsat⟩:=qgC hD hDk.ok hDk.nm (by rw[hDk.q];omega) (by omega) (by rw[hDk.ns,Kb];omega) ⟨by omega,by omega⟩ hxe hlL.1 r1 r2;have hDk':=hDk.write (by omega) hlL;obtain⟨q,yq,rfl,hsat'⟩:=hsat;have hsat:oD E l (pV q):=⟨q,yq,rfl,hsat'⟩;have vzE:=kE.vb vz (by decide);have hmE:=kE.fx hm (by decide);have hxE:=kE.fx hx (by decide);have hsgE:=kE.dv ⟨by decide,by decide,by decide⟩ hsg;have hLsE:=kE.P7 ⟨by decide,by decide⟩ hLs;have v5E:=kE.vb v5 (by decide);have sF:bX I (E.alloc (ae 57 [.int .i64 (0:Nat),.int .i64 (0:Nat),.int .i64 (0:Nat)])) 57 (.pointer (U ⟨E.next,0,Y⟩)) (.agg ⟨cF (oT (i+1) l)⟩)=.ok (E.alloc (ae 57 (cF (oT (i+1) l)))):=ep vR rfl rfl (by simp) (DA _);have kF:=Kp.alloc E (ae 57 (cF (oT (i+1) l)));have vF:=aK E 57 (cF (oT (i+1) l));have nF:=aA E (ae 57 (cF (oT (i+1) l)));generalize E.alloc (ae 57 (cF (oT (i+1) l)))=F at sF kF vF nF;have l28:=PN (vzE.kp kF).2;obtain⟨d57,a1,a2⟩:=b9 (by kernel_rfl);have l57:=bU a1 a2 vR vF.2;have kG:=Kp.alloc F (ae 57 (cF (oT (i+1) l)));have vG:=aK F 57 (cF (oT (i+1) l));have bG:=WE (s:=oT (i+1) l);generalize hG:F.alloc (ae 57 (cF (oT (i+1) l)))=G at kG vG;have kEG:=kF.trans kG;have sG:ai G 57 3 F.next [cF (oT (i+1) l)] (.slice (U ⟨F.next,0,Y⟩) 1 2):=.inr ⟨.var 3,2,rfl,vG.1,(by have:=vG.2;simp only[s9,Hm,kR];exact this),λ l hl=>(by rw[ee.1 hl];rfl),.inl rfl⟩
 obtain⟨r,H,⟨g2,h2⟩,⟨x',b',rfl,hx'⟩,kH⟩:=qfk (v:=i) (nx:=i+1) (f:=fl) (fl:=j+1) (hmE.same kEG.1 (kEG.2 bm)) sG (by omega) (by omega) (by rw[vi,hdl];omega);have kEH:=kEG.trans kH;have vzH:=vzE.kp kEH;obtain⟨qjV,sI,vI,nI,fI⟩:=qhJ (c0:=nV (i+1)) (c1:=nV (j+1)) (c2:=nV (i+1+1)) (c3:=x') vzH.2 (by
  intro v hv;simp only[cC,en,or_false]at hv;rcases hv with rfl|rfl|rfl|rfl
  .rfl
  .rfl
  .rfl
  .exact(ai.di hx').2)
 have K3:=KT.sQ vzH (by omega) λ z _=>fI z
 have hDI:=(hD'.kp kEH).Uu vzH (by omega) fI (by decide);have kJ:=Kp.alloc qjV (ae 58 [pV q]);have vJ:=aK qjV 58 [pV q];have bJ:=WI (q:=q);have hxJ:=(K3.fx (hxE.same kEH.1 (kEH.2 bs)) (by decide)).same kJ.1 (kJ.2 bs);have hvI:VB qjV 31 z8 (.var 5) [nV (i+1),nV (j+1),nV (i+1+1),x',xs]:=⟨by have:=vzH.1;omega,vI⟩;have l29:=(hvI.kp kJ).l4 pL rfl;have sJ:iq (qjV.alloc (ae 58 [pV q])) 58 qjV.next [pV q] (.slice (U ⟨qjV.next,0,Y⟩) 1 2):=.inr ⟨.var 1,2,rfl,vJ.1,vJ.2,λ l hl=>(by rw[ee.1 hl];rfl),.inl rfl⟩
 obtain⟨x7,M7,b7,happ,hs7,nM,-,fM⟩:=K9 KR sJ hxJ (by
  rw[aR,aR,hsg.1,hdl];simp only[fg];omega) (λ r hr v hv=>by
  obtain⟨v',hv',rfl⟩:=dA.1 hr;rw[ee.1 hv];obtain⟨k,hk,rfl⟩:=rA hv';obtain⟨⟨q',y',e,-⟩,-⟩:=hsg.2 k _ _ (aV (by rw[<-hsg.1];exact hk)) (aV hk);rw[e];rfl)
 have kM:Kp qjV M7:=⟨by have:=kJ.1;omega,λ z hz=>by rw[fM z (λ e=>by omega) (by have:=kJ.1;omega),kJ.2 z hz]⟩;obtain⟨N,sN,vN,nN,fN⟩:=df (tb:=I) (t:=29) (o:=4) (v:=x7) qhh (hvI.kp kM).2 (by simp) (ai.di hs7).1 (ai.di hs7).2;have hvM:=hvI.kp kM;have K4:=KT.sQ hvM (by omega) λ z _=>fN z
 have gq:bj .geq .i64 ((j:Nat):Int) ((0:Nat):Int)=.ok (.bool aa):=by rw[iZ];congr 2
 have ad:bj .add .i64 ((j:Nat):Int) ((1:Nat):Int)=.ok (.int .i64 (j+1:Nat)):=fc (cS (by omega));have sb:bj .sub .i64 ((j:Nat):Int) ((1:Nat):Int)=.ok (.int .i64 ((Z L:Int)-1-((i+1:Nat):Int))):=by
  rcases BH j with h|h
  .subst h;rw[F6 (by omega) (by omega)];congr 2;omega
  .rw[F5 (by omega) (by omega)];congr 2;omega
 simp only[pV,nV]at*;apply W.ct (g1+g2) 20
 .intro M hM;simp(config:={maxSteps:=4000000})(disch:=first|decide+kernel|omega|simp only[Wq,V])only[E6,d5,uy,Aq,au,reduceIte,V,ak,g0,g5,g7,g8,g9,gq,Of,CS,e1,i1,i2,h1,dX,dU,UW,aX,sF,l28,ad,l57,bG,hG,h2,sI,bJ,Jm,l29,happ,sN,sb,Fq,bY []];rfl
 refine⟨_,N,rfl,⟨_,j+1,b',b7,x',x7,pV q::vs,?_,hDk',λ h=>by omega,⟨by have:=hvM.1;omega,vN⟩,?_,?_,?_,?_,?_,?_,hne,hz8⟩,?_⟩
 .exact(hDI.kp kM).Uu hvM (by omega) fN (by decide)
 .rw[hdr];have:=K4.fx ((K3.fx hx' (by decide)).same kM.1 (kM.2 b')) (by decide);show ai N 57 3 b' (((L.drop (Z L-i)).length+1,Z l,(crc.ek (iw l)).length)::nT _|>.map cF) x';rw[hdl];exact this
 .have:=K4.fx hs7 (by decide);exact this
 .rw[hdr];refine⟨by rw[cd,cd,hsg.1],λ k u v hu hv=>?_⟩;have K5:=((Kp.kt kEH).trans K3).trans ((Kp.kt kM).trans K4);cases k with
  |zero=>
   cases hu;cases hv;exact⟨hsat.kt K5 ⟨by decide,by decide,by decide⟩,hlL.1,hlL.2.1⟩
  |succ k=>exact(K5.dv ⟨by decide,by decide,by decide⟩ hsgE).2 k u v hu hv
 .exact(((Kp.kt kEH).trans K3).trans ((Kp.kt kM).trans K4)).P7 ⟨by decide,by decide⟩ hLsE
 .have hr:=v5E.kp kEH;have:=kM.1;exact⟨by have:=hr.1;omega,hr.2.same (by rw[fN _ (Ne.symm hne),kM.2 _ (by have:=hr.1;omega),fI _ (Ne.symm hne)])⟩
 .refine⟨by have:=K.1;have:=kE.1;have:=kEH.1;have:=kM.1;omega,λ e z k l he hv=>?_,λ z hz=>?_⟩
  .have hD1:=K.vb hv he;have hE1:=kE.vb hD1 he;have:=hE1.1;have:=hv.1;have a:=kEH.1;have b:=kM.1;rw[fN z (by omega),kM.2 z (by omega),fI z (by omega),kEH.2 z (by omega),kE.2.1 e z k l he hD1,K.2.1 e z k l he hv]
  .have e0:=K.2.2 z hz;have hzD:ud D z:=by
    obtain⟨f1,o,f2,f3⟩:=hz;exact⟨by have:=K.1;omega,o,by rw[e0];exact f2,f3⟩
   have e1:=kE.2.2 z hzD;have:=hz.1;have a:=kEH.1;have b:=kM.1;have c:=kE.1;have d:=K.1;rw[fN z (by omega),kM.2 z (by omega),fI z (by omega),kEH.2 z (by omega),e1,e0]
 .simp only[Sq,V,ak,g0,g5,g7,g8]
def ay(A:Mem)(L:List (List aD))(l:List O):Prop:=∃bm bs,∃(xm xs:O) (vs:List O),l=[nV (Z L),nV 1,nV (Z L+1),xm,xs]/\ai A 57 3 bm ((nT L).map cF) xm/\iq A 58 bs vs xs/\nj A L vs
variable {n:Nat}{ls:List (List O)}
def To{e:aj}{x:O}(h:ai A e n b ls x):cP 99 x x=aa:=by
 rcases h with⟨rfl,-⟩|⟨k,c,rfl,-⟩<;>simp[cP,tU,ri]
variable {c:Nat}
def qhz{a:Nat}{x:O}(hx:cP 99 x x=aa)(hy:cP 99 y y=aa):cP 100 (.agg ⟨[nV a,nV b,nV c,x,y]⟩) (.agg ⟨[nV a,nV b,nV c,x,y]⟩)=aa:=by
 have hn:∀n:Nat,cP 99 (nV n) (nV n)=aa:=λ n=>by show(iA .i64 .i64&&ky n n)=aa;rw[FI];simp[iA]
 show(aL 5 5&&(cP 99 (nV a) (nV a)&&(cP 99 (nV b) (nV b)&&(cP 99 (nV c) (nV c)&&(cP 99 x x&&(cP 99 y y&&aa))))))=aa;rw[hn,hn,hn,hx,hy];rfl
def qgm(hy:uh A L y)(h7:Z L<=7)(hL:∀l∈L,qC l):
 ∃v A',az I 5 [y,.int .i64 (1048576:Nat)] A v A'/\KT dT A A'/\∃p l,v=.tuple ⟨[pV p,.agg ⟨l⟩,.bool aa]⟩/\ay A' L l:=by
 refine c_ (aN Tryz.func5) YC (by kernel_rfl) ?_;generalize ha:A.next=a
 have k1:=Kp.alloc A (ae 31 [nV 0,nV 0,nV 0,.slice Y 0 0,.slice Y 0 0]);have v1:=aK A 31 [nV 0,nV 0,nV 0,.slice Y 0 0,.slice Y 0 0];have n1:=aA A (ae 31 [nV 0,nV 0,nV 0,.slice Y 0 0,.slice Y 0 0]);rw[ha]at v1 n1;have z31:=UU;simp only[nV]at z31;apply W.seq;simp only[nV]at k1 v1 n1;apply W.run 20
 .intro M;simp(disch:=first|decide+kernel|omega)only[d5,uy,Aq,V,eO,z31,aX,ha];rfl
 show W I _ _ _;generalize A.alloc (ae 31 [.int .i64 (0:Nat),.int .i64 (0:Nat),.int .i64 (0:Nat),.slice Y 0 0,.slice Y 0 0])=B at k1 v1 n1;obtain⟨v,C,⟨g1,h1⟩,kC,p,rfl,dC⟩:=qeZ (A:=B) (quo:=1048576);simp only[pV]at h1;apply W.qG (g1)
 .intro M hM;simp(disch:=first|decide+kernel|omega)only[d5,uy,Aq,V,h1];rfl
 obtain⟨E,⟨g2,h2⟩,kE⟩:=qfi (A:=C);have sF:bX I (E.alloc (ae 31 [nV 0,nV 0,nV 0,.slice Y 0 0,.slice Y 0 0])) 31 (.pointer (U ⟨E.next,0,Y⟩)) (.agg ⟨[nV 0,nV 1,nV 1,.slice Y 0 0,.slice Y 0 0]⟩)=.ok (E.alloc (ae 31 [nV 0,nV 1,nV 1,.slice Y 0 0,.slice Y 0 0])):=ep GG rfl rfl (by simp) (by simp[bI]);have kF:=Kp.alloc E (ae 31 [nV 0,nV 1,nV 1,.slice Y 0 0,.slice Y 0 0]);have vF:=aK E 31 [nV 0,nV 1,nV 1,.slice Y 0 0,.slice Y 0 0];have nF:=aA E (ae 31 [nV 0,nV 1,nV 1,.slice Y 0 0,.slice Y 0 0]);have b31:=VX (a:=0) (b:=1) (c:=1);simp only[nV]at h2 sF kF vF nF b31;apply W.qG (g2)
 .intro M hM;simp(disch:=first|decide+kernel|omega)only[d5,uy,Aq,V,h2,b31,z31,aX,sF];rfl
 generalize E.alloc (ae 31 [.int .i64 (0:Nat),.int .i64 (1:Nat),.int .i64 (1:Nat),.slice Y 0 0,.slice Y 0 0])=F at sF kF vF nF;have kCF:=kE.trans kF;have kBF:=kC.trans kCF;have kAF:=k1.trans kBF;have hyF:=hy.kp kAF;obtain⟨bL,xL,q1,q2,q3⟩:=hyF;have len:=tW vd q1;rw[aR,q2]at len;have sb:bj .sub .i64 ((Z L:Nat):Int) ((1:Nat):Int)=.ok (.int .i64 ((Z L:Int)-1-((0:Nat):Int))):=by
  rcases BH (Z L)with h|h
  .rw[h,F6 (by omega) (by omega)];congr 2
  .rw[F5 (by omega) (by omega)];congr 2;omega
 apply W.seq;apply W.q
 .intro M;simp(disch:=first|decide+kernel|omega)only[d5,uy,Aq,V,len,sb];rfl
 apply W.block;have hEa:a+1<=E.next:=by have:=kC.1;have:=kE.1;omega
 have v1F:=v1.kp kBF;refine W.up (Z L) (λ i t D=>HE A p a E.next L y i D/\Sl t [(0,y),(5,pV a),(7,pV p),(8,pV E.next),(9,.int .i64 ((Z L:Int)-1-((i:Nat):Int)))]) ?_ (a6 _) ⟨?_,?_⟩
 .rintro i t D hi ⟨hI,hs⟩;by_cases hlt:i<Z L
  .obtain⟨j,hj⟩:∃j,i+j+1=Z L:=⟨Z L-i-1,by omega⟩;have hs':Sl t [(0,y),(5,pV a),(7,pV p),(8,pV E.next),(9,nV j)]:=by
    obtain⟨g0,g5,g7,g8,g9,-⟩:=hs;refine⟨g0,g5,g7,g8,?_,trivial⟩;rw[g9];show U (Value.int .i64 _)=U (.int .i64 j);congr 2;omega
   refine(qgn hI hj h7 hL hs').mono λ e s he=>?_
   cases e with
   |nrm=>
    obtain⟨t',D',e1,e2,e3⟩:=he;exact⟨hlt,t',D',e1,e2,e3⟩
   |_=>exact he.elim
  .obtain rfl:i=Z L:=by omega
   obtain⟨g0,g5,g7,g8,g9,-⟩:=hs;have e:((Z L:Int)-1-(Z L:Int))=-1:=by omega
   rw[e]at g9;have gq:bj .geq .i64 (-1) ((0:Nat):Int)=.ok (.bool af):=by kernel_rfl
   obtain⟨Dk,fl,bm,bs,xm,xs,vs,hD,hDk,hfl,vz,hm,hx,hsg,hLs,v5,K,hne,hz8⟩:=hI;rw[gZ,vZ]at hm hsg;obtain rfl:=hfl rfl;have hm':qD D (nT L) xm:=⟨bm,hm⟩;have hok:=qbY hL h7;have hml:=qbW hok (by show(nT L).length<=7;rw[vi];exact h7);have hst:=hDk.st;have hsz:=hDk.sz;have hq:=hDk.q;have hnl:=Kb (Z L);have ht:=qcF (Z L) (by omega);obtain⟨v,N,⟨g3,h3⟩,rfl,kN⟩:=qf3 (m:=⟨Z L,Z L+1,nT L⟩) hD hDk.ok hDk.nm hDk.kk (by omega) (by omega) (by rw[hDk.ns];omega) (by rw[hDk.ns];exact ht) (by omega) (by omega) hm' hok (by show(nT L).length<=_;rw[vi];omega);have vzN:=kN.vb vz (by decide);have v5N:=kN.vb v5 (by decide);have l31:=FP vz.2;have l31N:=FP vzN.2;have l28:=PN vz.2;obtain⟨qjT,sO,vO,nO,fO⟩:=ja (tb:=I) (t:=31) (l':=[nV (Z L),nV 1,nV (Z L+1),xm,xs]) (by exact GG) v5N.2 rfl (by simp) (by
    intro v hv;simp only[cC,en,or_false]at hv;rcases hv with rfl|rfl|rfl|rfl|rfl
    .rfl
    .rfl
    .rfl
    .exact(ai.di hm).2
    .exact(ai.di hx).2)
   have lO:=FP vO;have hs31:cP 100 (.agg ⟨[nV (Z L),nV 1,nV (Z L+1),xm,xs]⟩) (.agg ⟨[nV (Z L),nV 1,nV (Z L+1),xm,xs]⟩)=aa:=qhz (To hm) (To hx);simp only[pV,nV,mW]at*;apply W.run 20
   .intro M;simp(disch:=first|decide+kernel|omega)only[E6,d5,uy,Aq,V,g9,gq];rfl
   apply W.ct (g3) 40
   .intro M hM;simp(config:={maxSteps:=4000000})(disch:=first|decide+kernel|omega|simp only[Wq,V])only[d5,uy,Aq,au,reduceIte,V,ak,g5,g7,g8,l31,l31N,Of,l28,h3,hs31,sO,Fq,bY [(1,5)]];rfl
   have K5:KT (·≠31) N qjT:=KT.sQ v5N (by omega) λ z _=>fO z
   refine⟨by simp,rfl,_,(by simp only[uy,Aq,V,g5,lO]<;>rfl),?_,p,_,rfl,bm,bs,xm,xs,vs,rfl,K5.fx (kN.fx hm (by decide)) (by decide),K5.fx (kN.fx hx (by decide)) (by decide),K5.dv ⟨by decide,by decide,by decide⟩ (kN.dv ⟨by decide,by decide,by decide⟩ hsg)⟩;have KAN:=K.trans kN;refine KAN.ext (by show N.next<=qjT.next;omega) λ z hz=>fO z (by omega)
 .exact⟨D0 1048576,1,0,0,.slice Y 0 0,.slice Y 0 0,[],dC.kp kCF,YM,λ _=>rfl,vF,by
   rw[iV,xZ];exact ai.nil _ _ _ _,ai.nil _ _ _ _,by rw[iV,xZ];exact⟨rfl,λ i l v h=>by cases h⟩,hy.kp kAF,v1F,kAF.kt,by omega,by omega⟩
 .simp only[Sq,V,ak,pV]
def d3:=cg hU
def E5:aH:=sub d3 [1,1,1,1,1,1,1,1,1,0,1,0,0]
def IT:hU.body=U (.seq (sub d3 [0]) (.seq (sub d3 [1,0]) (.seq (sub d3 [1,1,0]) (.seq (sub d3 [1,1,1,0]) (.seq (sub d3 [1,1,1,1,0]) (.seq (sub d3 [1,1,1,1,1,0]) (.seq (sub d3 [1,1,1,1,1,1,0]) (.seq (sub d3 [1,1,1,1,1,1,1,0]) (.seq (sub d3 [1,1,1,1,1,1,1,1,0]) (.seq (.seq (sub d3 [1,1,1,1,1,1,1,1,1,0,0]) (.block 0 (.loop E5))) (.seq (sub d3 [1,1,1,1,1,1,1,1,1,1,0]) (.seq (sub d3 [1,1,1,1,1,1,1,1,1,1,1,0]) (sub d3 [1,1,1,1,1,1,1,1,1,1,1,1]))))))))))))):=by kernel_rfl
def qaq:dQ I 23 (pw b 0) (iN 0)=.ok (pw b 0):=by kernel_rfl
def qar:dQ I 23 (pw b 0) (iN 1)=.ok (pw b 1):=by kernel_rfl
def T_(h:∀l∈L,Z l<=14):total L<=14*Z L:=by
 unfold total
 induction L with
 |nil=>exact aJ _
 |cons l L ih=>
  have h1:=h l cM;have h2:=ih λ x hx=>h x (cU _ hx)
  simp only[eU,BD,cd];omega
def qhy{e:aj}{x:O}(h:ai A e n b ls x):cP 100 x x=aa:=by
 rcases h with⟨rfl,-⟩|⟨k,c,rfl,-⟩<;>simp[cP,tU,ri]
variable {e:aD}
def qbE{l:List aD}(h:e∈Mdl.live l):e.gone=af:=by
 unfold Mdl.live at h;have:=(qy.1 h).2;simpa using this
variable {dss:List (List gJ)}
def qfz{x:O}{a0 b0:Nat}(h:s8 A dss x)(hl:Z dss<9223372036854775808)(hd:∀ds∈dss,∀d∈ds,d.wt<4294967296)(ha0:a0<256)(hb0:b0<256):
 ∃v A',az I 3 [x,.agg ⟨[.int .u8 a0,.int .u8 b0]⟩] A v A'/\v=.bool aa:=by
 refine c_ (aN BX) IT (by kernel_rfl) ?_;have hR:=qdX hd;have h7:=RS dss;generalize hL:oR dss=L at hR h7;have k1:=Kp.alloc A (ae 23 [.int .u8 a0,.int .u8 b0]);have v1:=aK A 23 [.int .u8 a0,.int .u8 b0];apply W.q
 .intro M;simp(disch:=omega)only[d3,hU,Aq,V,aX];rfl
 have hB:=h.kp k1;generalize A.alloc (ae 23 [.int .u8 a0,.int .u8 b0])=B at k1 v1 hB;apply W.q
 .intro M;simp(disch:=first|decide+kernel|omega)only[d3,hU,Aq,V,qbf];rfl
 obtain⟨vl,C,⟨g1,h1⟩,hC,kC⟩:=qgc hB hl;rw[hL]at hC;obtain⟨v,D,⟨g2,h2⟩,kD,p,l,rfl,bm,bs,xm,xs,vs,rfl,hm,hx,hsg⟩:=qgm hC h7 hR;have v1D:=kD.vb (v1.kp kC) (by decide);have z31:=UU;have sE:bX I (D.alloc (ae 31 [nV 0,nV 0,nV 0,.slice Y 0 0,.slice Y 0 0])) 31 (.pointer (U ⟨D.next,0,Y⟩)) (.agg ⟨[nV (Z L),nV 1,nV (Z L+1),xm,xs]⟩)=.ok (D.alloc (ae 31 [nV (Z L),nV 1,nV (Z L+1),xm,xs])):=ep GG rfl rfl (by simp) (by
  intro v hv;simp only[cC,en,or_false]at hv;rcases hv with rfl|rfl|rfl|rfl|rfl
  .rfl
  .rfl
  .rfl
  .exact(ai.di hm).2
  .exact(ai.di hx).2)
 have kE:=Kp.alloc D (ae 31 [nV (Z L),nV 1,nV (Z L+1),xm,xs]);have vE:=aK D 31 [nV (Z L),nV 1,nV (Z L+1),xm,xs];simp only[nV,pV]at*;apply W.qG (g1+g2)
 .intro M hM;simp(disch:=first|decide+kernel|omega)only[d3,hU,Aq,V,h1,h2,dX,dU,z31,aX,sE];rfl
 generalize D.alloc (ae 31 [.int .i64 (Z L:Nat),.int .i64 (1:Nat),.int .i64 (Z L+1:Nat),xm,xs])=E at sE kE vE;have v1E:=v1D.kp kE;have hxE:iq E 58 bs vs xs:=hx.same kE.1 (kE.2 bs);have hsE:=hsg.kp kE;have ln:∀F,Kp E F->ax I F.get 29 (.pointer (U ⟨D.next,4,Y⟩))=.ok xs:=λ F kF=>(vE.kp kF).l4 pL rfl
 have l29:=ln E (Kp.refl _);have len:=ai.len hxE pL;rw[aR,hsg.1]at len;apply W.q2
 .intro M _;simp(disch:=first|decide+kernel|omega)only[d3,hU,Aq,V,Jm,l29,len];rfl
 have la:=v1E.l0 u5 rfl;have lb:=v1E.l1 u5 rfl;have c1:∀n,n<256->pB I 5 3 (.int .u8 (n:Nat))=.ok (.int .i64 (n:Nat)):=λ n hn=>ia (by rw[u5];rfl) u3 (cS (by omega))
 have ca:=c1 a0 ha0;have cb:=c1 b0 hb0;have ad:bj .add .i64 ((Z L:Nat):Int) ((1:Nat):Int)=.ok (.int .i64 (Z L+1:Nat)):=fc (cS (by omega));have ra:bj .rem .i64 ((a0:Nat):Int) ((Z L+1:Nat):Int)=.ok (.int .i64 (a0 % (Z L+1):Nat)):=Dj (by omega);have rb:bj .rem .i64 ((b0:Nat):Int) ((Z L+1:Nat):Int)=.ok (.int .i64 (b0 % (Z L+1):Nat)):=Dj (by omega);have ma:=iU a0 (show 0<Z L+1 by omega);have mb:=iU b0 (show 0<Z L+1 by omega);apply W.q
 .intro M;simp(config:={maxSteps:=4000000})(disch:=first|decide+kernel|omega|simp only[Wq,V])only[d3,hU,Aq,au,reduceIte,V,ak,qaq,qar,la,lb,ca,cb,ad,ra,rb,Fq,bY []];rfl
 generalize a0 % (Z L+1)=a1 at ma;generalize b0 % (Z L+1)=b1 at mb;have mn:cQ I .min [3,3] [.int .i64 a1,.int .i64 b1]=.ok (.int .i64 (min a1 b1:Nat)):=Am.qZ;have mx:cQ I .max [3,3] [.int .i64 a1,.int .i64 b1]=.ok (.int .i64 (max a1 b1:Nat)):=Am.max_i64;have hij:min a1 b1<=max a1 b1:=by omega
 have hjn:max a1 b1<=Z L:=by omega
 apply W.q
 .intro M;simp(disch:=first|decide+kernel|omega)only[d3,hU,Aq,V,mn,mx];rfl
 generalize min a1 b1=i at hij;generalize max a1 b1=j at hij hjn;have kmap:((vs.map λ v=>[v]).drop i).take (j-i)=((vs.drop i).take (j-i)).map λ v=>[v]:=by rw[List.map_take,List.map_drop]
 obtain⟨g3,h3⟩:=SK (A:=E) (x:=.slice Y 0 0) I5;have kF:=Kp.alloc E (ae 72 m6);have vF:=aK E 72 m6;generalize E.alloc (ae 72 m6)=F at h3 kF vF;have l29F:=ln F kF;obtain⟨y,c2,c3⟩:=eZ.cut (i:=i) (j:=j) (hi:=U (.int .i64 j)) (ai.sub (hxE.same kF.1 (kF.2 bs)) (by decide)) pL Gm (λ m hm=>qQ (by rw[aR,hsg.1]at hm;omega)) hij (by rw[aR,hsg.1];exact hjn);rw[kmap]at c3;have hQl:((L.drop i).take (j-i)).length<=Z L:=by rw[db,qx];omega
 have hQt:total ((L.drop i).take (j-i))<1000000:=by
  have:=T_ (L:=(L.drop i).take (j-i)) λ l hl=>(hR l (List.mem_of_mem_drop (wa hl))).2.2.1
  omega
 obtain⟨v,G,⟨g4,h4⟩,rfl,kG,b2,yv,vG,hxG⟩:=qgw (tr:=E.next) c3 ((hsE.kp kF).sub i (j-i)) (by omega);have sx:=qhy hx;simp only[pV]at h3 h4 vG;apply W.qG (g3+g4)
 .intro M hM;simp(config:={maxSteps:=4000000})(disch:=first|decide+kernel|omega|simp only[Wq,V])only[d3,hU,Aq,au,reduceIte,V,ak,kx,h3,Jm,l29,l29F,c2,h4,sx,Fq,bY [(2,0)]];rfl
 have kEG:=kF.trans kG;have l31:=FP (vE.kp kEG).2;have hLt:total L<1000000:=by
  have:=T_ λ l hl=>(hR l hl).2.2.1
  omega
 obtain⟨r,M,⟨g5,h5⟩,hr,kM⟩:=qfG (v0:=.int .i64 (Z L:Nat)) (v1:=.int .i64 (1:Nat)) (v2:=.int .i64 (Z L+1:Nat)) (v3:=xm) (hxE.same kEG.1 (kEG.2 bs)) (hsE.kp kEG) (by omega) hLt hij hjn;apply W.qG (g5)
 .intro M hM;simp(disch:=first|decide+kernel|omega)only[d3,hU,Aq,V,l31,h5];rfl
 have vGM:=vG.kp kM;have vFM:=vF.kp (kG.trans kM);have hxM:=hxG.same kM.1 (kM.2 b2);have hsM:=((hsE.kp kEG).kp kM).sub i (j-i);generalize hQ:(L.drop i).take (j-i)=Q at*;generalize hRR:(let M:=Q;if j=Z L then Mdl.live (eV (total M) M)else eV (total M) M)=RR at hr;have hRR:RR=if j=Z L then Mdl.live (eV (total Q) Q)else eV (total Q) Q:=hRR.symm
 have hRl:Z RR<1000000:=by
  have:=Da (total Q) Q;have hll:(Mdl.live (eV (total Q) Q)).length<=(eV (total Q) Q).length:=by unfold Mdl.live;exact By _ _
  rw[hRR];split<;>omega
 have hlen:=hr.len;obtain⟨br,hrs⟩:=id hr;apply W.seq;apply W.q
 .intro M;simp(disch:=first|decide+kernel|omega)only[d3,hU,Aq,V];rfl
 apply W.block;refine W.up (Z RR) (λ k t D=>D=M/\Sl t [(8,.int .i64 (Z L)),(10,.int .i64 j),(11,.pointer (U ⟨F.next,0,Y⟩)),(12,r),(13,.int .i64 k)]) ?_ (a6 _) ⟨rfl,?_⟩
 .rintro k t D hk ⟨rfl,t8,t10,t11,t12,t13,-⟩;by_cases hlt:k<Z RR
  .obtain⟨e,he⟩:∃e,RR[k]?=U e:=⟨_,aV hlt⟩;have j1:=ai.idx (i:=k) (kd:=.i64) hrs mB jd (by rw[aR];exact hlt);have j2:=ai.load (j:=2) hrs u4 rfl (i:=k) (by rw[da,he];rfl) rfl (by omega);cases hg:e.gone with
   |false=>
    rw[hg]at j2;apply W.run 20
    .intro M;simp(config:={maxSteps:=4000000})(disch:=first|decide+kernel|omega|simp only[Wq,V])only[E5,d3,hU,Aq,au,reduceIte,V,ak,t8,t10,t12,t13,hlt,hlen,j1,As,j2,Fq,bY []];rfl
    refine⟨hlt,_,_,rfl,rfl,?_⟩;simp only[Sq,V,ak,t8,t10,t11,t12]
   |true=>
    have hne:j≠Z L:=λ h=>by
     rw[aC h]at hRR;have:=qbE (l:=eV (total Q) Q) (e:=e) (by rw[<-hRR];exact fh he);rw[hg]at this;cases this
    rw[hg]at j2;apply W.run 20
    .intro M;simp(config:={maxSteps:=4000000})(disch:=first|decide+kernel|omega|simp only[Wq,V])only[E5,d3,hU,Aq,au,reduceIte,V,ak,t8,t10,t12,t13,hlt,hlen,j1,As,j2,hne,Fq,bY []];rfl
    refine⟨hlt,_,_,rfl,rfl,?_⟩;simp only[Sq,V,ak,t8,t10,t11,t12]
  .obtain rfl:k=Z RR:=by omega
   apply W.run 20
   .intro M;simp(disch:=first|decide+kernel|omega)only[E5,d3,hU,Aq,V,t12,t13,hlen,gY];rfl
   by_cases hj:j=Z L
   .rw[aC hj]at hRR;obtain⟨va,N,⟨g6,h6⟩,hva,kN⟩:=qgt vGM vFM hxM hsM (by omega) hQt;rw[<-hRR]at hva;obtain⟨_,_,⟨g7,h7'⟩,rfl,rfl⟩:=Sk (hr.kp kN) hva hRl;simp only[pV]at h6;apply W.seq;apply W.ct (g6+g7) 20
    .intro M hM;simp(disch:=first|decide+kernel|omega)only[d3,hU,Aq,V,t8,t10,t11,t12,hj,h6,h7'];rfl
    exact⟨by simp,rfl,_,(by simp only[hU,Aq,V]<;>rfl),rfl⟩
   .rw[aq hj]at hRR;obtain⟨va,N,⟨g6,h6⟩,hva,kN⟩:=SL vGM vFM hxM hsM (by omega) hQt;rw[<-hRR]at hva;obtain⟨_,_,⟨g7,h7'⟩,rfl,rfl⟩:=Sk (hr.kp kN) hva hRl;simp only[pV]at h6;apply W.ie (g6+g7)
    .intro M hM _;simp(disch:=first|decide+kernel|omega)only[d3,hU,Aq,V,t8,t10,hj,t11,t12,h6,h7'];rfl
    apply W.run 20
    .intro M;simp(disch:=first|decide+kernel|omega)only[d3,hU,Aq,V];rfl
    exact⟨by simp,rfl,_,(by simp only[hU,Aq,V]<;>rfl),rfl⟩
 .simp only[Sq,V,ak]
end Go.Proofs.YtdobfpkceacneaaGreatDoor.sto
end
