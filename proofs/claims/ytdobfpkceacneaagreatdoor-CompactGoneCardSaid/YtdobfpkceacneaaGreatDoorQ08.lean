/- The abstract machine, the walk of the law and its plain laws, made small by a program; part 8: no conditions but those in each theorem. -/
import Derived.Test.YtdobfpkceacneaaGreatDoorQ07
set_option maxHeartbeats 16000000
set_option maxRecDepth 100000
set_option linter.unusedSimpArgs false
set_option linter.unusedVariables false
set_option linter.defProp false
noncomputable section
open Bool renaming and_eq_true→dz,false→af,true→aa
open Classical renaming byContradiction→xT
open Go renaming Code→aH,TypeId→aj,Value→O
open List renaming append_assoc→jD,append_nil→kR,cons_append→ij,drop_eq_getElem_cons→nb,drop_eq_nil_of_le→Hg,drop_length→xZ,exists_cons_of_ne_nil→Hh,exists_mem_of_ne_nil→Hi,filter_cons→kS,findIdx?_eq_some_iff_getElem→Hl,flatMap_cons→j',flatten_cons→s9,foldl_cons→mG,getD_eq_getElem?_getD→ow,getElem?_append_left→eG,getElem?_append_right→ez,getElem?_cons_succ→dU,getElem?_cons_zero→dX,getElem?_drop→rz,getElem?_eq_getElem→aV,getElem?_eq_some_iff→bg,getElem?_map→da,getElem?_set→pR,getElem?_set_self→Hn,getElem?_take→oz,getElem_map→v_,getElem_mem→ik,getElem_of_mem→rA,length→Z,length_append→aU,length_cons→cd,length_drop→qx,length_eq_zero_iff→eQ,length_filter_le→By,length_map→aR,length_nil→dL,length_pos_iff→iG,length_reverse→x_,length_set→dI,length_singleton→fg,length_take→db,map_append→fY,map_cons→eU,map_eq_nil_iff→mH,map_map→zO,map_nil→rB,map_set→BA,mem_append→mI,mem_append_left→Hp,mem_append_right→yb,mem_cons→cC,mem_cons_of_mem→cU,mem_cons_self→cM,mem_filter→qy,mem_map→dA,mem_of_mem_take→wa,mem_singleton→ee,nil_append→lX,nodup_append→we,nodup_cons→zQ,nodup_nil→qz,not_mem_nil→en,reverse_cons→Ec,set_append_right→BC,sum_append→Ed,take_append_drop→s_,take_length→dY,take_of_length_le→ug,take_succ_cons→Ee,take_succ_eq_append_getElem→eH,take_zero→zT
open List.cons renaming injEq→ff
open Nat renaming add_sub_cancel→zW,add_zero→dN,beq→aL,ble→au,blt→aM,blt_eq→bT,le_of_ble_eq_true→fQ,le_of_lt→Ef,le_refl→aJ,le_trans→dp,lt_irrefl→gY,lt_of_le_of_lt→pU,lt_of_lt_of_le→dc,lt_or_ge→d_,max_eq_right→yh,min_eq_left→oA,reduceAdd→ak,reduceEqDiff→V,reduceMul→Ek,sub_self→gZ,zero_add→dO,zero_le→a6
open Option renaming getD_some→td,map_none→Hz,map_some→fZ,ne_none_iff_exists'→L3,none→Y,some→U
open Option.some renaming injEq→eM
open Go.Proofs.Tryz renaming f103→yn,f126→yw,f146→ur,f147→pX,f148→uu,f149→th,f150→jG,f151→mM,f153→tj,f172→yx,f202→yA,f45→ux,f94→qM,f95→qN
open UInt8 renaming toNat_inj→yI
namespace Go.Proofs.YtdobfpkceacneaaGreatDoor.sto
open Go.Am Go.Mdl Go.Sto Go.Shelf
variable {A:Mem}{p:Nat}
def Sg{D:cT}(h:eu A p D)(hn:oY D.ns):∃v A',az I 15 [pV p] A v A'/\(∃b,wF A' b (kP D.ns) v)/\Kp A A':=by
 obtain⟨pf,ml,mn,b,mf,ps,hV,⟨x,rows,qV,-,qm,-⟩,-⟩:=h;obtain⟨g1,h1⟩:=qe1 hV;have lpf:ax I A.get 98 (pw p 0)=.ok (pV pf):=by
  obtain⟨d,hd,ha⟩:=xK;exact hV.ld rfl hd ha
 obtain⟨v,A',⟨g2,h2⟩,⟨b,h3⟩,h4⟩:=qfM qV qm hn;refine⟨v,A',?_,⟨b,h3⟩,h4⟩;simp only[pV]at*;refine bQ (g1+g2) 60 (aN Tryz.func15) (by kernel_rfl) λ M hM=>?_
 simp(disch:=omega)only[Tryz.f15,Aq,V,kx,h1,bW,bV,uP,lpf,h2]<;>rfl
def Vg{D:cT}(h:eu A p D):Z D.all=Z D.ns/\D.all.map (·.1)=D.ns:=by
 obtain⟨pf,ml,mn,b,mf,ps,-,-,-,⟨-,h5,-⟩,-⟩:=h;have e1:D.all.map (·.1)=D.ns:=List.map_fst_zip (by rw[aR];omega);exact⟨by rw[<-e1,aR],e1⟩
variable {i:Nat}
def qe2{D:cT}{s:List UInt8×List UInt8}(h:eu A p D)(hi:D.all[i]?=U s):∃q,az I 222 [pV p,ag s.1] A (.tuple ⟨[pV q,iN 0]⟩) A/\az I 223 [pV q] A (ag s.2) A:=by
 obtain⟨he,hm⟩:=Vg h;obtain⟨pf,ml,mn,b,mf,ps,hP⟩:=h;obtain⟨pf',mf',mn',cf,cn,ps',ml',q,st,ar,x,y,h1,h2,⟨-,h3⟩,⟨-,h4⟩,h5⟩:=hP.at
 have hr:=run_read (w:=s.1) h1 h2 h3 h4 λ i s hs=>(h5 i s hs).imp λ b hb=>hb.choose_spec.choose_spec.1
 obtain⟨bq,d,a,e1,e2⟩:=h5 i s hi;have hnum:numOf (D.all.map (·.1)) s.1=i+1:=Qp (by rw[hm];exact hP.2.2.2.1.2.2.2) (by rw[da,hi];rfl);rw[hnum]at hr;refine⟨bq,?_,qeO e2⟩;unfold Fw at hr;rw[aq (Nat.succ_ne_zero i),aq (Nat.succ_ne_zero i),zW,e1]at hr;exact hr
def cT.fl(D:cT):List (List UInt8×List UInt8):=(qi D.ns).map λ y=>(y.1,((D.fs[y.2-1]?).map λ f=>f.1++f.2).getD [])
def ZU{D:cT}(hd:D.ns.Nodup):D.fl.map (·.1)=kP D.ns:=by
 rw[<-qcB hd];unfold cT.fl;rw[zO];rfl
def OC{D:cT}(hd:D.ns.Nodup):Z D.fl=Z D.ns:=by
 unfold cT.fl;rw[aR,qcz hd]
def ZT{D:cT}(hd:D.ns.Nodup)(hf:Z D.fs=Z D.ns){s:List UInt8×List UInt8}(h:s∈D.fl):∃i:Nat,D.all[i]?=U s:=by
 obtain⟨y,hy,rfl⟩:=dA.1 h;obtain⟨i,h1,h2⟩:=(qcA hd).1 hy;refine⟨i,?_⟩;have hi:=(bg.1 h1).1;unfold cT.all;rw[List.getElem?_zip_eq_some,da,h2,zW,aV (show i<Z D.fs by omega)];exact⟨h1,rfl⟩
def tE:=cg yx
def Il:aH:=sub tE [1,0,1,0,0]
def Xv:yx.body=U (.seq (sub tE [0]) (.seq (.seq (sub tE [1,0,0]) (.block 0 (.loop Il))) (.seq (sub tE [1,1,0]) (sub tE [1,1,1])))):=by kernel_rfl
def qeY{D:cT}(h:eu A p D)(hn:oY D.ns):∃v A',az I 172 [pV p] A v A'/\ub A' D.fl v/\Kp A A':=by
 refine c_ (aN Tryz.func172) Xv (by kernel_rfl) ?_;have hl:=OC hn.1;have hm:=ZU hn.1;have hff:Z D.fs=Z D.ns:=by
  obtain⟨_,_,_,_,_,_,-,-,-,⟨-,e,-⟩,-⟩:=h;exact e
 obtain⟨v,B,⟨g1,h1⟩,⟨b,hb⟩,kB⟩:=Sg h hn;rw[<-hm]at hb;have hlen:=ai.len hb rn;rw[aR,aR]at hlen;have hnl:=hn.2.1;simp only[pV]at h1;apply W.q
 .intro M;simp(disch:=omega)only[tE,yx,Aq,V];rfl
 apply W.seq;apply W.seq;simp only[pV];apply W.ct (g1) 20
 .intro M hM;simp(disch:=first|decide+kernel|omega)only[tE,yx,Aq,V,h1,hlen];rfl
 apply W.block;refine W.up (Z D.fl) (λ i t C=>∃b' y,ai C 170 2 b' ((D.fl.take i).map jW) y/\Kp B C/\B.next<=b'/\Sl t [(0,pw p 0),(2,y),(8,v),(9,iN (Z D.fl)),(10,.int .i64 i)]) ?_ (a6 _) ⟨B.next,_,ai.nil _ _ _ _,Kp.refl _,aJ _,?_⟩
 .rintro i t C hi ⟨b',y,hy,kC,hb',g0,g2,g8,g9,g10,-⟩;by_cases hlt:i<Z D.fl
  .have hs:=aV (by omega);have hw:(D.fl.map (·.1))[i]?=U D.fl[i].1:=by rw[da,hs];rfl
   have hmem:=ik hlt;have htk:=eH (by omega);obtain⟨j,hj⟩:=ZT hn.1 hff hmem;generalize D.fl[i]=s at*;have hbC:=hb.same kC.1 (kC.2 b);have j1:=ai.idx (kd:=.i64) hbC rn z9 (by rw[aR,aR];exact hlt);have j2:=ai.load (j:=0) hbC u9 rfl (show((D.fl.map (·.1)).map λ n=>[ag n])[i]?=U [ag s.1] by rw[da,hw];rfl) rfl (by omega);rw[dN]at j2;obtain⟨q,⟨g3,h3⟩,⟨g4,h4⟩⟩:=qe2 ((h.kp kB).kp kC) hj;obtain⟨y',E,happ,hs',nE,fE⟩:=Vd (f:=s) hy (by rw[db];omega);have bd:=VV (a:=s.1) (b:=s.2);have bs:=WJ (f:=s);have hkn:=kC.1;simp only[pV]at h3 h4;apply W.ct (g3+g4) 20
   .intro M hM;simp(disch:=first|decide+kernel|omega)only[Il,tE,yx,Aq,V,g0,g2,g8,g9,g10,hlt,j1,j2,h3,h4,dX,dU,bd,bs,happ];rfl
   refine⟨hlt,_,E,rfl,C.next+1,y',by rw[htk];exact hs',⟨by omega,λ z hz=>?_⟩,by omega,?_⟩
   .rw[fE z (λ e=>by omega) (by omega),kC.2 z hz]
   .simp only[Sq,V,ak,g0,g8,g9]
  .have e:i=Z D.fl:=by omega
   subst e;rw[dY]at hy;have hyc:=ai.di hy;apply W.run 20
   .intro M;simp(disch:=decide+kernel)only[Il,tE,yx,Aq,V,g9,g10];rfl
   apply W.run 40
   .intro M;simp(disch:=omega)only[tE,yx,Aq,V,g2];rfl
   exact⟨by simp,rfl,_,(by simp only[yx,Aq,V]<;>rfl),⟨b',hy⟩,kB.trans kC⟩
 .simp only[Sq,V,ak]
def tI:=cg yn
def IG:aH:=sub tI [1,0,1,0,0]
def X0:yn.body=U (.seq (sub tI [0]) (.seq (.seq (sub tI [1,0,0]) (.block 0 (.loop IG))) (.seq (sub tI [1,1,0]) (sub tI [1,1,1])))):=by kernel_rfl
def nX(l:List (List UInt8×List UInt8)):Nat:=(l.map λ f=>f.2.length).sum
def qia{l:List (List UInt8×List UInt8)}(h:i<Z l):nX (l.take (i+1))=nX (l.take i)+l[i].2.length:=by
 unfold nX;rw[eH h,fY,Ed];simp
def qh9(l:List (List UInt8×List UInt8))(i:Nat):nX (l.take i)<=nX l:=by
 conv=>rhs;rw[<-s_ i l]
 unfold nX;rw[fY,Ed];omega
def qe5{D:cT}(h:eu A p D)(hn:oY D.ns)(hs:nX D.fl<100000000):∃v A',az I 103 [pV p] A v A'/\v=.int .i64 (nX D.fl:Int)/\Kp A A':=by
 refine c_ (aN Tryz.func103) X0 (by kernel_rfl) ?_;have hnl:Z D.fl<1000:=by rw[OC hn.1];exact hn.2.1
 obtain⟨v,B,⟨g1,h1⟩,hF,kB⟩:=qeY h hn;have hlen:=hF.len;simp only[pV]at h1;apply W.q
 .intro M;simp(disch:=omega)only[tI,yn,Aq,V];rfl
 apply W.seq;apply W.seq;simp only[pV];apply W.ct (g1) 20
 .intro M hM;simp(disch:=first|decide+kernel|omega)only[tI,yn,Aq,V,h1,hlen];rfl
 apply W.block;refine W.up (Z D.fl) (λ i t C=>Kp B C/\Sl t [(2,.int .i64 (nX (D.fl.take i):Int)),(6,v),(7,iN (Z D.fl)),(8,.int .i64 i)]) ?_ (a6 _) ⟨Kp.refl _,?_⟩
 .rintro i t C hi ⟨kC,g2,g6,g7,g8,-⟩;by_cases hlt:i<Z D.fl
  .have hs':=aV hlt;have ht:=qia hlt;have hle:=qh9 D.fl (i+1);generalize D.fl[i]=s at*;obtain⟨bb,oo,j1,j2,-⟩:=(hF.kp kC).at hs';have sE:bX I (C.alloc (ae 170 [.string .empty,.string .empty])) 170 (pw C.next 0) (.agg ⟨jW s⟩)=.ok (C.alloc (ae 170 (jW s))):=ep z27 rfl rfl (by simp) (Oq s);have kE:=Kp.alloc C (ae 170 (jW s));have vE:=aK C 170 (jW s);generalize C.alloc (ae 170 (jW s))=E at sE kE vE;have l1:=vE.m1 u9 rfl;have ll:=lK (l:=s.2) u9;have a1:bj .add .i64 ((nX (D.fl.take i):Nat):Int) ((s.2.length:Nat):Int)=.ok (iN (nX (D.fl.take (i+1)))):=by
    rw[ht];exact fc (cS (by omega))
   apply W.run 20
   .intro M;simp(disch:=first|decide+kernel|omega)only[IG,tI,yn,Aq,V,g2,g6,g7,g8,hlt,j1,j2,qjF,aX,sE,Zz,l1,ll,a1];rfl
   refine⟨hlt,_,E,rfl,kC.trans kE,?_⟩;simp only[Sq,V,ak,g6,g7]
  .have e:i=Z D.fl:=by omega
   subst e;rw[dY]at g2;apply W.run 20
   .intro M;simp(disch:=decide+kernel)only[IG,tI,yn,Aq,V,g7,g8];rfl
   apply W.run 40
   .intro M;simp(disch:=omega)only[tI,yn,Aq,V,g2];rfl
   exact⟨by simp,rfl,_,(by simp only[yn,Aq,V]<;>rfl),rfl,kB.trans kC⟩
 .simp only[Sq,V,ak];exact rfl
variable {b:Nat}
def ZG:bM I 101 (pw b 0) 2=.ok (pw b 2):=by kernel_rfl
def NZ(t:T O):ev t (.const (.string ⟨#[]⟩))=.ok (ag []):=rfl
variable {w:List UInt8}
def qfc{q:Nat}{d:List UInt8}{x:O}(h:xV A q (d,[]))(hx:ai A 9 1 b [[ag w]] x)(hl:Z d+Z w<1000000):
 ∃B,az I 104 [pV q,x] A (iN 0) B/\xV B q (d,w)/\A.next<=B.next/\∀z,z<A.next->z≠q->B.get z=A.get z:=by
 obtain⟨a,e2,e3⟩:=h;have ea:a=.slice Y 0 0:=by
  rcases e3 with⟨-,h⟩|⟨h,-⟩
  .exact h
  .exact aZ rfl h
 subst ea;rw[show(d,([]:List UInt8)).1++(d,([]:List UInt8)).2=d from kR d]at e2;by_cases h0:w=[]
 .subst h0;obtain⟨g1,h1⟩:=KJ hx;have kB:=Kp.alloc A (ae 9 [ag []]);have vB:=aK A 9 [ag []];have sB:bX I (A.alloc (ae 9 [ag []])) 9 (pw A.next 0) (ag [])=.ok (A.alloc (ae 9 [ag []])):=sS vj rfl rfl (by simp);have z9:cX I 9=.ok (ag []):=by kernel_rfl
  have lB:ax I (A.alloc (ae 9 [ag []])).get 9 (pw A.next 0)=.ok (ag []):=vB.ld rfl u9 rfl;have cB:(ag []).cells.toList=[ag []]:=rfl;refine⟨_,?_,⟨_,(e2.kp kB:VB _ 228 q (.var 3) _)|>λ h=>by rw[kR];exact h,.inl ⟨rfl,rfl⟩⟩,kB.1,λ z hz _=>kB.2 z hz⟩;simp only[pV]at*;refine bQ (g1) 60 (aN Tryz.func104) (by kernel_rfl) λ M hM=>?_
  simp(disch:=first|decide+kernel|omega)only[Tryz.f104,Aq,V,eW,E',eO,NZ,h1,z9,cB,sB,lB]<;>rfl
 .obtain⟨v,E,hE,rfl,⟨b',r,y,m1,m2,m3,m4,m5⟩,nE,fE⟩:=qfd e2 hx h0 hl;exact⟨E,hE,⟨y,m1,.inr ⟨h0,b',r,m2,m5⟩⟩,nE,fE⟩
def used(D:cT):Nat:=nX D.fl
def rT(D:cT)(i:Nat)(d w:List UInt8):cT:={D with fs:=D.fs.set i (d,w)}
variable {pf ml mn mf:Nat}{ps:List Nat}
def qeE{q z1 z2 bx:Nat}{D:cT}{d:List UInt8}{x:O}(h:gW A p D pf ml mn b mf ps)(hn:oY D.ns)(hg:Z w+used D<=D.q)(hqq:D.q<100000000)
 (hf:D.fs[i]?=U (d,[]))(hq:ps[i]?=U q)(hx:ai A 9 1 bx [[ag w]] x)(v1:VB A 52 z1 (.var 1) [x])(v2:VB A 25 z2 (.var 1) [pV p])(hdl:Z d+Z w<1000000):
 ∃B,az I 101 [pV q,pV z1,pV z2] A (iN 0) B/\gW B p (rT D i d w) pf ml mn b mf ps/\KT dT A B:=by
 obtain⟨g1,h1⟩:=KJ hx;have l1:=v1.l0 rn rfl;have l2:ax I A.get 25 (pw z2 0)=.ok (pV p):=by
  obtain⟨d,hd,ha⟩:=n_;exact v2.ld rfl hd ha
 have lq:=h.1.l2 u3 rfl;unfold used at hg;obtain⟨v,B,⟨g2,h2⟩,rfl,kB⟩:=qe5 ⟨pf,ml,mn,b,mf,ps,h⟩ hn (by omega);have l2B:ax I B.get 25 (pw z2 0)=.ok (pV p):=by
  obtain⟨d,hd,ha⟩:=n_;exact(v2.kp kB).ld rfl hd ha
 have lqB:=(h.kp kB).1.l2 u3 rfl;have s1:=gS (by omega) (cS (by omega));have mx1:cQ I .max [3,3] [iN 0,iN (D.q-nX D.fl)]=.ok (iN (D.q-nX D.fl)):=by rw[Am.max_i64,yh (a6 _)]
 have ll:=lK (l:=w) u9;have sn:=tV .i64 D.q rfl;have kC:=Kp.alloc B (ae 9 [ag w]);have vC:=aK B 9 [ag w];have bs:=H2 (w:=w);generalize hC:B.alloc (ae 9 [ag w])=C at kC vC;have hP:=(h.kp kB).kp kC;have hxC:ai C 9 1 B.next [[ag w]] (.slice (U ⟨B.next,0,Y⟩) 1 2):=.inr ⟨.var 1,2,rfl,vC.1,vC.2,λ l hl=>by rw[ee.1 hl];rfl,.inl rfl⟩
 obtain⟨q',hq',hM⟩:=hP.2.2.2.2.1 i _ hf;rw[hq]at hq';cases hq';obtain⟨E,⟨g3,h3⟩,hE,nE,fE⟩:=qfc hM hxC (by omega);obtain⟨s2,s3⟩:=hP.set hq hE nE fE;refine⟨E,?_,s2,(kB.trans kC).kt.trans s3⟩;simp only[pV]at*;have hg':¬D.q-nX D.fl<Z w:=by omega
 refine bQ (g1+g2+g3) 60 (aN Tryz.func101) (by kernel_rfl) λ M hM=>?_
 simp(disch:=first|decide+kernel|omega|simp only[Wq,V])only[Tryz.f101,Aq,au,reduceIte,V,ak,l1,l2,NZ,h1,lq,h2,l2B,lqB,bW,bV,ZG,s1,mx1,ll,fm,fk,hg',bs,hC,h3,sn,zi,Fq,bY [(0,5),(3,5)]]<;>rfl
def Se{bx:Nat}{D:cT}{d n:List UInt8}{x:O}(h:eu A p D)(hs:D.st<1000)(hn:oY D.ns)(hg:Z w+used D<=D.q)(hqq:D.q<100000000)(hi:D.ns[i]?=U n)
 (hf:D.fs[i]?=U (d,[]))(hx:ai A 9 1 bx [[ag w]] x)(hdl:Z d+Z w<1000000):
 ∃A',az I 53 [pV p,ag n,x] A (iN 0) A'/\eu A' p (rT (eX D) i d w)/\KT dT A A':=by
 have hxc:=(ai.di hx).1;have k1:=Kp.alloc A (ae 25 [pV p]);have v1:=aK A 25 [pV p];have n1:=aA A (ae 25 [pV p]);generalize hB1:A.alloc (ae 25 [pV p])=B1 at k1 v1 n1;have k2:=Kp.alloc B1 (ae 52 [x]);have v2:=aK B1 52 [x];have n2:(B1.alloc (ae 52 [x])).next=A.next+2:=by rw[aA,n1]
 generalize hB2:B1.alloc (ae 52 [x])=B2 at k2 v2 n2;rw[n1]at v2;have kB:=k1.trans k2;have v1':=v1.kp k2;obtain⟨pf,ml,mn,b,mf,ps,hP⟩:=h.kp kB;obtain⟨B,hB,kE,g2⟩:=Sh hP hs hi;have lp:ax I B2.get 25 (pw A.next 0)=.ok (pV p):=by
  obtain⟨d,hd,ha⟩:=n_;exact v1'.ld rfl hd ha
 obtain⟨q,hq',-⟩:=hB.2.2.2.2.1 i _ hf;obtain⟨C,hC,hD,kC⟩:=qeE hB hn hg hqq hf hq' (kE.fx (hx.same kB.1 (kB.2 bx)) (by decide)) (kE.vb v2 (by decide)) (kE.vb v1' (by decide)) hdl;obtain⟨g,hgg⟩:=g2 q _ C hq' hC;refine⟨C,?_,⟨pf,ml,mn,b,mf,ps,hD⟩,(kB.kt.trans kE).trans kC⟩;simp only[pV]at*;refine bQ (g) 60 (aN Tryz.func53) (by kernel_rfl) λ M hM=>?_
 simp(disch:=omega)only[Tryz.f53,Aq,V,pA,hxc,hB1,hB2,n1,lp,fb,hgg]<;>rfl
structure iH (D:cT):Prop where
 nd:D.ns.Nodup
 fl:Z D.fs=Z D.ns
 la:D.la=Z D.ns
 k:D.k<=Z D.ns
 u:used D<=D.q
def fp(fs:List (List UInt8×List UInt8)):Nat:=(fs.map λ f=>f.1.length+f.2.length).sum
def xM{D:cT}(hd:D.ns.Nodup)(hf:Z D.fs=Z D.ns):used D=fp D.fs:=by
 unfold used nX fp cT.fl;rw[zO,((Dd D.ns hd).2.map _).sum_nat,zO];congr 1;refine List.ext_getElem (by simp[hf]) λ i h1 h2=>?_
 rw[aR]at h2;simp[List.getElem_zipIdx,aV h2]
def Tj(a b:List (List UInt8×List UInt8)):fp (a++b)=fp a+fp b:=by simp[fp]
def Tk{fs:List (List UInt8×List UInt8)}{d s:List UInt8}(h:fs[i]?=U (d,[])):fp (fs.set i (d,s))=fp fs+Z s:=by
 obtain⟨hi,e⟩:=bg.1 h;have h1:fs=fs.take i++(d,[])::fs.drop (i+1):=by rw[<-e,<-nb hi,s_]
 have h2:fs.set i (d,s)=fs.take i++(d,s)::fs.drop (i+1):=by
  rw[List.set_eq_take_append_cons_drop,aC hi]
 rw[h2]
 conv=>rhs;rw[h1]
 simp[fp];omega
def Tl{fs:List (List UInt8×List UInt8)}{g:List UInt8×List UInt8}(h:fs[i]?=U g):fp (fs.set i (g.1++g.2,[]))=fp fs:=by
 obtain⟨hi,e⟩:=bg.1 h;have h1:fs=fs.take i++g::fs.drop (i+1):=by rw[<-e,<-nb hi,s_]
 have h2:fs.set i (g.1++g.2,[])=fs.take i++(g.1++g.2,[])::fs.drop (i+1):=by
  rw[List.set_eq_take_append_cons_drop,aC hi]
 rw[h2]
 conv=>rhs;rw[h1]
 simp[fp]
def iH.step{D:cT}(h:iH D):iH (eX D):=⟨h.nd,h.fl,h.la,h.k,h.u⟩
def iH.create{D:cT}(h:iH D)(hw:w∉D.ns):iH (jU D w):=by
 have nd:(jU D w).ns.Nodup:=by
  show(D.ns++[w]).Nodup;rw[we];exact⟨h.nd,zQ.2 ⟨en,qz⟩,λ a ha c hc e=>hw (by rw[ee.1 hc]at e;exact e▸ha)⟩
 have fl:(jU D w).fs.length=(jU D w).ns.length:=by
  show(D.fs++[_]).length=(D.ns++[w]).length;rw[aU,aU,h.fl];rfl
 refine⟨nd,fl,?_,?_,?_⟩
 .show D.la+1=(D.ns++[w]).length;rw[h.la,aU];rfl
 .show D.k<=(D.ns++[w]).length;rw[aU];have:=h.k;omega
 .rw[xM nd fl];have:=h.u;rw[xM h.nd h.fl]at this;show fp (D.fs++[([],[])])<=D.q;rw[Tj];simpa[fp]using this
def iH.append{D:cT}{d:List UInt8}(h:iH D)(hf:D.fs[i]?=U (d,[]))(hg:Z w+used D<=D.q):iH (rT D i d w):=by
 have fl:(rT D i d w).fs.length=(rT D i d w).ns.length:=by
  show(D.fs.set i (d,w)).length=_;rw[dI];exact h.fl
 refine⟨h.nd,fl,h.la,h.k,?_⟩;rw[xM (D:=rT D i d w) h.nd fl];rw[xM h.nd h.fl]at hg;show fp (D.fs.set i (d,w))<=D.q;rw[Tk hf];omega
def iH.sync{D:cT}{g:List UInt8×List UInt8}(h:iH D)(hf:D.fs[i]?=U g):iH (A9 D i g):=by
 have fl:(A9 D i g).fs.length=(A9 D i g).ns.length:=by
  show(D.fs.set i (g.1++g.2,[])).length=_;rw[dI];exact h.fl
 refine⟨h.nd,fl,h.la,h.k,?_⟩;rw[xM (D:=A9 D i g) h.nd fl];have:=h.u;rw[xM h.nd h.fl]at this;show fp (D.fs.set i (g.1++g.2,[]))<=D.q;rw[Tl hf];exact this
def iH.qg0{D:cT}(h:iH D):iH (Gp D):=⟨h.nd,h.fl,h.la,aJ _,h.u⟩
def rJ(F:Mem)(e:aj)(m p mk b:Nat)(rest:List O)(ks:List (List UInt8))(rows:List (List O))(x:O):Prop:=VB F e p (.var m) (x::.map (U mk)::rest)/\(mk<F.next/\F.get mk=U (.map (lu ks 0) (Z ks)))/\ai F 239 3 b rows x/\Z rows=Z ks/\(rows=[]->x=.slice Y 0 0)
variable {m mk:Nat}{ks:List (List UInt8)}
def rJ.kp{F G:Mem}{e:aj}{rest:List O}{rows:List (List O)}{x:O}(h:rJ F e m p mk b rest ks rows x)(k:Kp F G):rJ G e m p mk b rest ks rows x:=by
 obtain⟨h1,⟨h2,h3⟩,h4,h5⟩:=h;exact⟨h1.kp k,⟨dc h2 k.1,by rw[k.2 _ h2];exact h3⟩,h4.same k.1 (k.2 b),h5⟩
variable {y:O}
def qfh{e:aj}{rest:List O}{rows:List (List O)}{s:ay}{x:O}(he:e≠239)(hR:rJ A e m p mk b rest ks rows y)(hx:gV A s.arcs x)(hf:Fit s)(hl:Z s.arcs<=256)(hn:eJ s∉ks)(hk:Z ks<1000000):
 ∃v A',az I 150 [pw p 0,.agg ⟨a_ x s⟩] A v A'/\v=iN (Z ks)/\∃b' y',rJ A' e m p mk b' rest (ks++[eJ s]) (rows++[a_ x s]) y'/\A.next<=b'/\A.next<=A'.next/\∀z,z<A.next->z≠p->z≠mk->(rows≠ []->z≠b)->A'.get z=A.get z:=by
 refine c_ (aN Tryz.func150) Ie (by kernel_rfl) ?_;have kB:=Kp.alloc A (ae 239 (a_ x s));have vB:=aK A 239 (a_ x s);have h1c:=Gz hx;obtain⟨d,hd1,hd2⟩:=b9 (t:=239) (p:=aa) (by kernel_rfl);apply W.q
 .intro M;simp(disch:=omega)only[ft,jG,Aq,V,aX];rfl
 have nB:=aA A (ae 239 (a_ x s));generalize A.alloc (ae 239 (a_ x s))=B at kB vB nB;have lB:=bU hd1 hd2 (l:=a_ x s) iS vB.2;obtain⟨v,D,⟨g1,h1⟩,rfl,kD⟩:=KK (hx.kp kB) hf hl;have hRD:=(hR.kp kB).kp kD;have vD:=vB.kp kD;have lD:ax I D.get 239 (pw A.next 0)=.ok (.agg ⟨a_ x s⟩):=bU hd1 hd2 (l:=a_ x s) iS vD.2;have nD:=kD.1;obtain⟨q1,⟨q9,q2⟩,q3,q4,q5⟩:=id hRD;have q7:=q1.cN q2;have hpA:p<A.next:=by obtain⟨h,-⟩:=hR;exact h.1
 have hmA:mk<A.next:=by obtain⟨-,⟨h,-⟩,-⟩:=hR;exact h
 have hBA:=kB.1;have lm:=q1.l1 Bj rfl;have ly:=q1.l0 eK rfl;have lx:=ai.len q3 eK;rw[q4]at lx;have lk:=P3 q2 hn;have up:=Ur q2 hn;generalize hE:D.set mk (.map (lu (ks++[eJ s]) 0) (ks++[eJ s]).length)=E at up;have nE:E.next=D.next:=by rw[<-hE];exact cE _ _ _
 have fE:∀z,z≠mk->E.get z=D.get z:=λ z hz=>by rw[<-hE,mq,aq hz]
 have gE:E.get mk=U (.map (lu (ks++[eJ s]) 0) (ks++[eJ s]).length):=by rw[<-hE,mq,aC rfl]
 have hmD:∀(e:aj) (z:Nat) (k:Kd) (l:List O),VB D e z k l->z≠mk:=λ e z k l h=>h.cN q2
 have lE:ax I E.get 239 (pw A.next 0)=.ok (.agg ⟨a_ x s⟩):=bU hd1 hd2 (l:=a_ x s) iS (vD.2.same (fE _ (hmD _ _ _ _ vD)));have qE:=q1.2.same (fE p q7);have lyE:ax I E.get 146 (pw p 0)=.ok y:=c7 eK rfl qE rfl;obtain⟨ti,t1,t2,t3⟩:=Ua;have q3E:ai (E.alloc (ae 239 (a_ x s))) 239 3 b rows y:=ai.oS q3 q5 (by rw[aA];omega) λ h0 h=>by rw[c9 (by omega),fE b (Ne.symm (ai.cN q3 q2 h0))]
 obtain⟨y',F,happ,hs3,hn3,hf3⟩:=ai.append q3E eK eK UO t1 t2 t3 (by omega) (by omega) (by omega) (cR E _) rfl h1c;rw[aA]at hs3 hn3 hf3;have hbb:∀z,(rows≠ []->z≠b)->z=b->y=.slice Y 0 0:=λ z h e=>xT λ hy=>h (λ h0=>hy (q5 h0)) e
 have hpb:=hbb p λ h0=>ai.gj q3 q1 he h0
 have qF:de F e p (.var m) (y::.map (U mk)::rest):=qE.same (by rw[hf3 p hpb (by omega),c9 (by omega)]);obtain⟨G,sG,vG,nG,fG⟩:=df (tb:=I) (o:=0) (v:=y') Ta qF (by simp) (ai.di hs3).1 (ai.di hs3).2;apply W.ie (g1)
 .intro M hM _;simp(disch:=omega)only[ft,jG,Aq,V,lB,h1,bW,bV,CR,lm,uZ,lk,dX,dU];rfl
 rw[Ib];apply W.seq;apply W.q
 .intro M;simp(disch:=omega)only[ft,jG,Aq,V];rfl
 rw[Ic];refine W.cond (p:=aa) rfl (λ _=>?_) (λ h=>by cases h);apply W.q2
 .intro M _;simp(disch:=decide+kernel)only[ft,jG,Aq,V,bW,bV,CQ,ly,lx,CR,lm,zb,up];rfl
 apply W.run 20
 .intro M;simp(disch:=first|decide+kernel|omega|simp only[Wq,V])only[ft,jG,Aq,au,reduceIte,V,ak,bW,bV,CQ,lyE,lE,MK,happ,sG,Fq,bY []];rfl
 apply W.run 40
 .intro M;simp(disch:=omega)only[ft,jG,Aq,V];rfl
 have hmF:=Ne.symm q7;have hFk:∀z,z<D.next->z≠p->z≠mk->(rows≠ []->z≠b)->G.get z=D.get z:=λ z h1 h2 h3 h4=>by rw[fG z h2,hf3 z (hbb z h4) (by omega),c9 (by omega),fE z h3]
 have hbk:=hbb mk λ h0=>ai.cN q3 q2 h0
 refine⟨by simp,rfl,_,(by simp only[jG,Aq,V]<;>rfl),rfl,E.next+1,y',⟨⟨by show p<G.next;omega,vG⟩,⟨by show mk<G.next;omega,?_⟩,hs3.same (by show F.next<=G.next;omega) (λ _=>fG _ (by omega)),by rw[aU,aU,q4];rfl,λ h=>by simp at h⟩,by omega,by show A.next<=G.next;omega,λ z hz h2 h3 h4=>?_⟩
 .show G.get mk=_;rw[fG mk hmF,hf3 mk hbk (by omega),c9 (by omega),gE]
 .show G.get z=_;rw[hFk z (by omega) h2 h3 h4,kD.2 z (by omega),kB.2 z hz]
theorem PH(w:List UInt8):∀(ns:List (List UInt8)) (o j i:Nat),ns[i]?=U w->(∀k,k<i->ns[k]?≠U w)->findF (ag w) (lu ns o) j=U (U (j+i,.int .i64 (o+i:Nat)))
 | [],o,j,i,h,_=>by simp at h
 |n::ns,o,j,0,h,_=>by
  cases h;unfold lu findF;simp only[FO,decide_true];rfl
 |n::ns,o,j,i+1,h,hk=>by
  have h0:¬w=n:=λ e=>hk 0 (by omega) (by rw[e];rfl)
  unfold lu findF;simp only[FO,h0,decide_false];rw[PH w ns (o+1) (j+1) i (by simpa using h) λ k hki=>by simpa using hk (k+1) (by omega),show j+1+i=j+(i+1) by omega,show o+1+i=o+(i+1) by omega]
def qfg{e:aj}{rest:List O}{rows:List (List O)}{s:ay}{x:O}(hR:rJ A e m p mk b rest ks rows y)(hx:gV A s.arcs x)(hf:Fit s)(hl:Z s.arcs<=256)(hi:ks[i]?=U (eJ s))(hk:∀k,k<i->ks[k]?≠U (eJ s)):
 ∃v A',az I 150 [pw p 0,.agg ⟨a_ x s⟩] A v A'/\v=iN i/\Kp A A':=by
 refine c_ (aN Tryz.func150) Ie (by kernel_rfl) ?_;have kB:=Kp.alloc A (ae 239 (a_ x s));have vB:=aK A 239 (a_ x s);obtain⟨d,hd1,hd2⟩:=b9 (t:=239) (p:=aa) (by kernel_rfl);apply W.q
 .intro M;simp(disch:=omega)only[ft,jG,Aq,V,aX];rfl
 generalize A.alloc (ae 239 (a_ x s))=B at kB vB;have lB:=bU hd1 hd2 (l:=a_ x s) iS vB.2;obtain⟨v,D,⟨g1,h1⟩,rfl,kD⟩:=KK (hx.kp kB) hf hl;obtain⟨q1,⟨-,q2⟩,-⟩:=(hR.kp kB).kp kD;have lm:=q1.l1 Bj rfl;have lk:oQ I D.get 161 (.map (U mk)) (ag (eJ s)) aa=.ok (.tuple ⟨[iN i,.bool aa]⟩):=by
  have hk':e_ I 9 (ag (eJ s))=aa:=by unfold e_;rw[u9];rfl
  unfold oQ;simp only[Bj,hk',aI,uK,q2,R.aT,PH _ ks 0 0 i hi hk,dO]
 apply W.ie (g1)
 .intro M hM _;simp(disch:=omega)only[ft,jG,Aq,V,lB,h1,bW,bV,CR,lm,uZ,lk,dX,dU];rfl
 rw[Ib];apply W.seq;apply W.q
 .intro M;simp(disch:=omega)only[ft,jG,Aq,V];rfl
 rw[Ic];refine W.cond rfl (λ h=>by cases h) (λ _=>?_);apply W.run 20
 .intro M;simp only[ft,jG,Aq,V];rfl
 apply W.run 40
 .intro M;simp(disch:=omega)only[ft,jG,Aq,V];rfl
 exact⟨by simp,rfl,_,(by simp only[jG,Aq,V]<;>rfl),rfl,kB.trans kD⟩
variable {M:List ay}
def Sp{e:aj}{rest:List O}{rows:List (List O)}{s:ay}{x:O}(he:e≠239)(hR:rJ A e m p mk b rest (M.map eJ) rows y)(hx:gV A s.arcs x)(hf:Fit s)(hM:∀u∈M,Fit u)(hl:Z s.arcs<=256)(hk:Z M<1000000):
 ∃v A',az I 150 [.pointer (U ⟨p,0,Y⟩),.agg ⟨a_ x s⟩] A v A'/\v=.int .i64 ((gk M s).2:Nat)/\∃b' y' rows',rJ A' e m p mk b' rest ((gk M s).1.map eJ) rows' y'/\((rows'=rows/\(gk M s).1=M)\/(rows'=rows++[a_ x s]/\(gk M s).1=M++[s]))/\(b'=b\/(A.next<=b'/\b'<A'.next))/\A.next<=A'.next/\∀z,z<A.next->z≠p->z≠mk->(rows≠ []->z≠b)->A'.get z=A.get z:=by
 cases hq:M.findIdx? (λ u=>decide (u=s))with
 |some i=>
  have hs:=Pf hq;obtain⟨hi,-,hno⟩:=Hl.1 hq;rw[Qr hq];obtain⟨v,A',h1,rfl,kA⟩:=qfg hR hx hf hl (by rw[da,hs];rfl) (λ k hki h=>by
   have hkl:k<Z M:=by omega
   rw[da,aV hkl]at h;have e1:=key_inj (hM M[k] (ik hkl)) hf (by simpa using h);have e2:=hno k hki;exact aZ e1 (by simpa using e2))
  exact⟨_,A',h1,rfl,b,y,rows,hR.kp kA,.inl ⟨rfl,rfl⟩,.inl rfl,kA.1,λ z hz _ _ _=>kA.2 z hz⟩
 |none=>
  have hn:=Pe hq;rw[Qt hq];obtain⟨v,A',h1,rfl,b',y',h3,h4,h5,h6⟩:=qfh he hR hx hf hl (λ h=>by
   obtain⟨u,hu,e⟩:=dA.1 h;exact hn (key_inj (hM u hu) hf e▸hu)) (by rw[aR];exact hk)
  refine⟨_,A',h1,by rw[aR],b',y',_,?_,.inr ⟨rfl,rfl⟩,.inr ⟨h4,vn h3.2.2.1 (by simp)⟩,h5,h6⟩;rw[fY];exact h3
end Go.Proofs.YtdobfpkceacneaaGreatDoor.sto
namespace Go.Sto
open Go.Am Go.Mdl Go.Sto Go.Shelf
section
structure dD where
 fin:Bool
 out:Nat
 arcs:List cK
 by':UInt8
def eh(o:dD):Nat:=(o.arcs.foldl (λ(q:Nat×Bool) a=>if q.2=af\/a.out<q.1 then(a.out,aa)else q) (o.out,o.fin)).1
def dn(o:dD):ay:=⟨o.fin,o.out-(bif o.fin then eh o else 0),o.arcs.map λ a=>⟨a.byte,a.out-eh o,a.to⟩⟩
abbrev nq:=List ay×dD×List dD
def jS(d:Nat)(M:List ay)(o:dD):List dD->nq
 | []=>(M,o,[])
 |u::w=>if d<=Z w then jS d (gk M (dn o)).1 ⟨u.fin,u.out,u.arcs++[⟨o.by',eh o,(gk M (dn o)).2⟩],u.by'⟩ w else(M,o,u::w)
def h_(d:Nat)(S:nq):nq:=jS d S.1 S.2.1 S.2.2
def lS:List UInt8->dD->List dD->dD×List dD
 | [],o,w=>(o,w)
 |b::bs,o,w=>lS bs ⟨af,0,[],b⟩ (o::w)
def wW(v:Nat)(M:List ay)(q:dD×List dD):nq:=(M,⟨aa,v,q.1.arcs,q.1.by'⟩,q.2)
def share:List UInt8->List UInt8->Nat
 |a::x,b::y=>if a=b then share x y+1 else 0
 |_,_=>0
def qO(z:List UInt8)(e:aD)(S:nq):nq:=
 wW (val e) (h_ (share z e.word) S).1 (lS (e.word.drop (share z e.word)) (h_ (share z e.word) S).2.1 (h_ (share z e.word) S).2.2)
def gm:List UInt8->List aD->nq->nq
 |_,[],S=>S
 |z,e::r,S=>gm e.word r (qO z e S)
variable {M:List ay}
def EZ{d:Nat}{o:dD}{w:List dD}(h:Z w<=d):jS d M o w=(M,o,w):=by
 cases w with
 |nil=>rfl
 |cons u w=>rw[jS,aq (by simp at h;omega)]
theorem Nk{d:Nat}:∀(w:List dD) (M:List ay) (o:dD),h_ d (jS (d+1) M o w)=jS d M o w
 | [],M,o=>rfl
 |u::w,M,o=>by
  rw[jS];by_cases h:d+1<=Z w
  .rw[aC h,Nk w,jS,aC (by omega)]
  .rw[aq h];rfl
def Yg{d:Nat}(S:nq):h_ d (h_ (d+1) S)=h_ d S:=Nk _ _ _
theorem KH:∀(r s:List aD) (z:List UInt8) (S:nq),gm z (r++s) S=gm ((r.getLast?.map (·.word)).getD z) s (gm z r S)
 | [],s,z,S=>rfl
 |e::r,s,z,S=>by
  rw[ij,gm,KH r s,gm,List.getLast?_cons];cases r.getLast?<;>rfl
def KZ{d:Nat}{p x y:List UInt8}(hx:x.take d=p)(hy:y.take d=p)(hl:Z p=d)(h:x[d]?≠y[d]?\/x[d]?=Y):share x y=d:=by
 induction d generalizing p x y with
 |zero=>
  cases x with
  |nil=>cases y<;>rfl
  |cons a x=>cases y with
   |nil=>rfl
   |cons b y=>
    unfold share;rw[aq];rintro rfl;simp at h
 |succ d ih=>
  cases p with
  |nil=>cases hl
  |cons c p=>cases x with
   |nil=>cases hx
   |cons a x=>cases y with
    |nil=>cases hy
    |cons b y=>
     simp only[Ee,ff]at hx hy;unfold share;rw[aC (hx.1.trans hy.1.symm),ih hx.2 hy.2 (by simpa using hl) (by simpa using h)]
theorem FR:∀(l:List cK) (n:Nat) (b:Bool),((b=aa\/l≠ [])->(∀a∈l,(l.foldl (λ(q:Nat×Bool) a=>if q.2=af\/a.out<q.1 then(a.out,aa)else q) (n,b)).1<=a.out)/\
 (b=aa->(l.foldl (λ(q:Nat×Bool) a=>if q.2=af\/a.out<q.1 then(a.out,aa)else q) (n,b)).1<=n)/\
 ((b=aa/\(l.foldl (λ(q:Nat×Bool) a=>if q.2=af\/a.out<q.1 then(a.out,aa)else q) (n,b)).1=n)\/∃a∈l,(l.foldl (λ(q:Nat×Bool) a=>if q.2=af\/a.out<q.1 then(a.out,aa)else q) (n,b)).1=a.out))
 | [],n,b=>λ h=>⟨λ a ha=>(by cases ha),λ _=>aJ _,.inl ⟨h.resolve_right λ h=>h rfl,rfl⟩⟩
 |x::l,n,b=>λ h=>by
  rw[mG];by_cases hc:b=af\/x.out<n
  .rw[aC (show((n,b):Nat×Bool).2=af\/x.out<((n,b):Nat×Bool).1 from hc)];obtain⟨h1,h2,h3⟩:=FR l x.out aa (.inl rfl);have h2:=h2 rfl;refine⟨λ a ha=>?_,λ hb=>?_,.inr ?_⟩
   .rcases cC.1 ha with rfl|ha
    .exact h2
    .exact h1 a ha
   .rcases hc with hc|hc
    .rw[hb]at hc;cases hc
    .omega
   .rcases h3 with⟨-,h3⟩|⟨a,ha,h3⟩
    .exact⟨x,cM,h3⟩
    .exact⟨a,cU _ ha,h3⟩
  .rw[aq (show¬(((n,b):Nat×Bool).2=af\/x.out<((n,b):Nat×Bool).1)from hc)];simp only[not_or,Bool.not_eq_false,Nat.not_lt]at hc;obtain⟨h1,h2,h3⟩:=FR l n b (.inl hc.1);have h2':=h2 hc.1;refine⟨λ a ha=>?_,h2,?_⟩
   .rcases cC.1 ha with rfl|ha
    .exact dp h2' hc.2
    .exact h1 a ha
   .rcases h3 with h3|⟨a,ha,h3⟩
    .exact .inl h3
    .exact .inr ⟨a,cU _ ha,h3⟩
variable {rec:List aD->Nat->List ay->List ay×Nat}{d n:Nat}
theorem Cf:∀(r:List aD) (rs:List cK) (M:List ay),dG rec d n r (rs.map λ a=>⟨a.byte,a.out-n,a.to⟩) M=((dG rec d 0 r rs M).1,(dG rec d 0 r rs M).2.map λ a=>⟨a.byte,a.out-n,a.to⟩)
 | [],rs,M=>rfl
 |e::r,rs,M=>by
  have hl:((rs.map λ a=>(⟨a.byte,a.out-n,a.to⟩:cK)).getLast?).map (·.byte)=(rs.getLast?).map (·.byte):=by
   rw[List.getLast?_map,Option.map_map];rfl
  unfold dG;rw[hl];split
  .exact Cf r rs M
  .rw[<-Cf r,fY];rfl
theorem HS:∀(r:List aD) (rs:List cK) (M:List ay),(∀y∈r,a7 d y≠Y->(rs.getLast?).map (·.byte)=a7 d y->∃a∈rs,a.out<=val y)->
 (∀a∈(dG rec d 0 r rs M).2,a∈rs\/∃e∈r,a.out=val e)/\(∀a∈rs,a∈(dG rec d 0 r rs M).2)/\∀y∈r,a7 d y≠Y->∃a∈(dG rec d 0 r rs M).2,a.out<=val y
 | [],rs,M,h=>⟨λ a ha=>.inl ha,λ a ha=>ha,λ y hy=>by cases hy⟩
 |e::r,rs,M,h=>by
  unfold dG;split
  .rename_i hs;obtain⟨h1,h2,h3⟩:=HS r rs M λ y hy=>h y (cU _ hy)
   refine⟨λ a ha=>(h1 a ha).imp id λ⟨e,he,h⟩=>⟨e,cU _ he,h⟩,h2,λ y hy hn=>?_⟩;rcases cC.1 hy with rfl|hy
   .obtain⟨a,ha,hle⟩:=h y cM hn (hs.resolve_left hn);exact⟨a,h2 a ha,hle⟩
   .exact h3 y hy hn
  .rename_i hs;simp only[not_or]at hs;obtain⟨b,hb⟩:=L3.1 hs.1;have hin:∀y∈e::r,a7 d y=a7 d e->least ((e::r).filter λ x=>decide (a7 d x=a7 d e))<=val y:=λ y hy hh=>least_le (qy.2 ⟨hy,by simpa using hh⟩)
   obtain⟨e0,he0,hle⟩:=C8 (l:=(e::r).filter λ x=>decide (a7 d x=a7 d e)) (List.ne_nil_of_mem (qy.2 ⟨cM,by simp⟩));have hown:∀x∈(e::r).filter (λ x=>decide (a7 d x=a7 d e)),x∈e::r:=λ x hx=>(qy.1 hx).1
   generalize (e::r).filter (λ x=>decide (a7 d x=a7 d e))=own at*;obtain⟨h1,h2,h3⟩:=HS r (rs++[⟨(a7 d e).getD 0,least own-0,(rec own (least own) M).2⟩]) (rec own (least own) M).1 λ y hy hn hl=>by
    rw[List.getLast?_append]at hl;simp[hb]at hl;exact⟨_,yb _ cM,hin y (cU _ hy) (hl.symm.trans hb.symm)⟩
   refine⟨λ a ha=>?_,λ a ha=>h2 a (Hp _ ha),λ y hy hn=>?_⟩
   .rcases h1 a ha with h|⟨e1,he1,h⟩
    .rcases mI.1 h with h|h
     .exact .inl h
     .rw[ee.1 h];exact .inr ⟨e0,hown e0 he0,hle⟩
    .exact .inr ⟨e1,cU _ he1,h⟩
   .rcases cC.1 hy with rfl|hy
    .exact⟨_,h2 _ (yb _ cM),hin y cM rfl⟩
    .exact h3 y hy hn
theorem Mp{b:UInt8}:∀(g r:List aD) (rs:List cK) (M:List ay),(rs.getLast?).map (·.byte)=U b->(∀e∈g,a7 d e=U b)->dG rec d n (g++r) rs M=dG rec d n r rs M
 | [],r,rs,M,_,_=>rfl
 |e::g,r,rs,M,h,hg=>by
  rw[ij,dG,aC (.inr (h.trans (hg e cM).symm))];exact Mp g r rs M h λ e he=>hg e (cU _ he)
theorem Ou:∀(l:List aD),(∀e∈l,a7 d e≠Y)->∀q:Bool×Nat,l.foldl (λ s e=>if a7 d e=Y then(aa,val e-n)else s) q=q
 | [],_,q=>rfl
 |e::l,h,q=>by
  rw[mG,aq (h e cM)];exact Ou l (λ e he=>h e (cU _ he)) q
def ZR(l:List aD):gQ d n l=((gQ d 0 l).1,(gQ d 0 l).2-(bif (gQ d 0 l).1 then n else 0)):=by
 have:∀(l:List aD) (b:Bool) (k:Nat),l.foldl (λ s e=>if a7 d e=Y then(aa,val e-n)else s) (b,k-bif b then n else 0)=
  ((l.foldl (λ s e=>if a7 d e=Y then(aa,val e-0)else s) (b,k)).1,(l.foldl (λ s e=>if a7 d e=Y then(aa,val e-0)else s) (b,k)).2-bif (l.foldl (λ s e=>if a7 d e=Y then(aa,val e-0)else s) (b,k)).1 then n else 0):=by
  intro l
  induction l with
  |nil=>intro b k;rfl
  |cons e l ih=>
   intro b k;rw[mG,mG];split
   .exact ih aa (val e-0)
   .exact ih b k
 exact this l af 0
variable {e:aD}
def Ov{p:List UInt8}{r:List aD}(ha:gp (e::r))(hb:pQ d p (e::r)):(∀x∈r,a7 d x≠Y)/\gQ d 0 (e::r)=if a7 d e=Y then(aa,val e)else(af,0):=by
 have h:∀x∈r,a7 d x≠Y:=λ x hx=>by
  obtain⟨c,h,-⟩:=Cg (hb e cM).1 (hb x (cU _ hx)).1 (ha.1 x hx);rw[h];simp
 refine⟨h,?_⟩;show List.foldl _ (if a7 d e=Y then(aa,val e-0)else(af,0)) r=_;rw[Ou r h];split<;>rfl
def Qn{p:List UInt8}{own:List aD}(y:UInt8)(h0:own≠ [])(ha:gp own)(hb:pQ d p own):
 eh ⟨(gQ d 0 own).1,(gQ d 0 own).2,(dG rec d 0 own [] M).2,y⟩=least own/\
 dn ⟨(gQ d 0 own).1,(gQ d 0 own).2,(dG rec d 0 own [] M).2,y⟩=⟨(gQ d (least own) own).1,(gQ d (least own) own).2,(dG rec d (least own) own [] M).2⟩:=by
 have hL:eh ⟨(gQ d 0 own).1,(gQ d 0 own).2,(dG rec d 0 own [] M).2,y⟩=least own:=by
  obtain⟨a1,-,a3⟩:=HS own [] M λ y _ hn h=>aZ h.symm hn
  obtain⟨e,r,rfl⟩:=Hh h0;obtain⟨f1,f2⟩:=Ov ha hb;obtain⟨m,hm,hme⟩:=C8 h0;obtain⟨l1,l2,l3⟩:=FR (dG rec d 0 (e::r) [] M).2 (gQ d 0 (e::r)).2 (gQ d 0 (e::r)).1 (by
   rw[f2];by_cases hn:a7 d e=Y
   .rw[aC hn];exact .inl rfl
   .obtain⟨a,ha,-⟩:=a3 e cM hn;exact .inr (List.ne_nil_of_mem ha))
  refine Nat.le_antisymm ?_ ?_
  .rw[hme];by_cases hn:a7 d m=Y
   .have he:m=e:=by
     rcases cC.1 hm with h|h
     .exact h
     .exact aZ hn (f1 m h)
    subst he;have:=l2 (by rw[f2,aC hn]);rw[f2,aC hn]at this;unfold eh;rw[f2,aC hn];exact this
   .obtain⟨a,ha,hle⟩:=a3 m hm hn;exact dp (l1 a ha) hle
  .rcases l3 with⟨h1,h2⟩|⟨a,ha,h2⟩
   .unfold eh;rw[h2];rw[f2]at h1⊢;split at h1
    .rw[aC (by assumption)];exact least_le cM
    .cases h1
   .unfold eh;rw[h2];rcases a1 a ha with h|⟨x,hx,h⟩
    .cases h
    .rw[h];exact least_le hx
 refine⟨hL,?_⟩;unfold dn;rw[hL,ZR (n:=least own),show dG rec d (least own) own [] M=_ from Cf own [] M]
def Hb(f d:Nat)(p:List UInt8):Prop:=∀(e:aD) (r:List aD) (M:List ay) (y:UInt8) (W:List dD),gp (e::r)->pQ d p (e::r)->(∀x∈e::r,Z x.word<d+f)->Z W=d->
 h_ d (gm e.word r (wW (val e) M (lS (e.word.drop d) ⟨af,0,[],y⟩ W)))=
  ((dG (λ own n M=>fe (f-1) own (d+1) n M) d 0 (e::r) [] M).1,⟨(gQ d 0 (e::r)).1,(gQ d 0 (e::r)).2,(dG (λ own n M=>fe (f-1) own (d+1) n M) d 0 (e::r) [] M).2,y⟩,W)
theorem JB{f d:Nat}{p:List UInt8}(hp:Z p=d)(hG:∀b,Hb f (d+1) (p++[b])):∀(k:Nat) (r:List aD) (z:List UInt8) (S:nq) (M:List ay) (o:dD) (W:List dD),Z r<=k->h_ d S=(M,o,W)->Z W=d->
 gp r->pQ d p r->(∀x∈r,Z x.word<d+1+f)->(∀x∈r,a7 d x≠Y/\a7 d x≠(o.arcs.getLast?).map (·.byte))->(∀x,r.head?=U x->share z x.word=d)->
 h_ d (gm z r S)=((dG (λ own n M=>fe f own (d+1) n M) d 0 r o.arcs M).1,⟨o.fin,o.out,(dG (λ own n M=>fe f own (d+1) n M) d 0 r o.arcs M).2,o.by'⟩,W)
 |_,[],z,S,M,o,W,_,hS,_,_,_,_,_,_=>hS
 |0,e::r,_,_,_,_,_,h,_,_,_,_,_,_,_=>by simp at h
 |k+1,e::r,z,S,M,o,W,hk,hS,hW,ha,hb,hl,hby,hz=>by
  obtain⟨b,hbe⟩:=L3.1 (hby e cM).1;have hge:∀y∈e::r,∃c,a7 d y=U c/\b<=c:=by
   intro y hyr;rcases cC.1 hyr with rfl|hyr
   .exact⟨b,hbe,UInt8.le_refl _⟩
   .obtain⟨c,h1,h2⟩:=Cg (hb e cM).1 (hb y (cU _ hyr)).1 (ha.1 y hyr);exact⟨c,h1,h2 b hbe⟩
  have hsplit:=Kr ha hb hge;have hfe:(e::r).filter (λ x=>decide (a7 d x=a7 d e))=e::r.filter λ x=>decide (a7 d x=U b):=by
   rw[kS,aC (by simp),hbe]
  rw[kS,aC (by simp[hbe]),kS,aq (by simp[hbe]),ij,ff]at hsplit;have hsp:=hsplit.2;have hg:∀x∈r.filter (λ x=>decide (a7 d x=U b)),x∈r/\a7 d x=U b:=λ x hx=>by
   obtain⟨h1,h2⟩:=qy.1 hx;exact⟨h1,by simpa using h2⟩
  have hr:∀x∈r.filter (λ x=>decide (a7 d x≠U b)),x∈r/\a7 d x≠U b:=λ x hx=>by
   obtain⟨h1,h2⟩:=qy.1 hx;exact⟨h1,by simpa using h2⟩
  have hag:gp (r.filter λ x=>decide (a7 d x=U b)):=Ch ha.2;have har:gp (r.filter λ x=>decide (a7 d x≠U b)):=Ch ha.2;have hlr:(r.filter λ x=>decide (a7 d x≠U b)).length<=k:=dp (By _ _) (by simpa using hk);generalize r.filter (λ x=>decide (a7 d x=U b))=g at*;generalize r.filter (λ x=>decide (a7 d x≠U b))=s at*;have hgo:pQ (d+1) (p++[b]) (e::g):=by
   intro x hx;have:x∈e::r/\a7 d x=U b:=by
    rcases cC.1 hx with rfl|hx
    .exact⟨cM,hbe⟩
    .exact⟨cU _ (hg x hx).1,(hg x hx).2⟩
   obtain⟨hd,he⟩:=bg.1 this.2;refine⟨?_,hd⟩;rw[eH hd,(hb x this.1).1,he]
  have hag':gp (e::g):=⟨λ y hy=>ha.1 y (hg y hy).1,hag⟩;obtain⟨hd,hde⟩:=bg.1 hbe;have hG1:=hG b e g M b (o::W) hag' hgo (λ x hx=>by
   have:=hl x (by
    rcases cC.1 hx with rfl|hx
    .exact cM
    .exact cU _ (hg x hx).1)
   omega) (by simp[hW])
  have hadd:qO z e S=wW (val e) M (lS (e.word.drop (d+1)) ⟨af,0,[],b⟩ (o::W)):=by
   unfold qO;rw[hz e rfl,hS,nb hd,hde];rfl
  rw[<-hadd]at hG1;generalize hS1:gm e.word g (qO z e S)=S1 at hG1;have hC:=Yg (d:=d) S1;rw[hG1]at hC;obtain⟨f,rfl⟩:∃f',f=f'+1:=⟨f-1,by
   have q:=hl e cM;have q2:=hd;omega⟩
  obtain⟨n1,n2⟩:=Qn b (List.cons_ne_nil e g) hag' hgo;rw[zW]at hC;have hst:fe (f+1) (e::g) (d+1) (least (e::g)) M=gk (dG (λ own n M=>fe f own (d+1+1) n M) (d+1) 0 (e::g) [] M).1 (dn ⟨(gQ (d+1) 0 (e::g)).1,(gQ (d+1) 0 (e::g)).2,(dG (λ own n M=>fe f own (d+1+1) n M) (d+1) 0 (e::g) [] M).2,b⟩):=by
   rw[n2,fe,show dG (λ own n M=>fe f own (d+1+1) n M) (d+1) (least (e::g)) (e::g) [] M=_ from Cf (e::g) [] M]
  have hC2:h_ d S1=((fe (f+1) (e::g) (d+1) (least (e::g)) M).1,⟨o.fin,o.out,o.arcs++[⟨b,least (e::g),(fe (f+1) (e::g) (d+1) (least (e::g)) M).2⟩],o.by'⟩,W):=by
   rw[<-hC,hst];show jS d _ _ (o::W)=_;rw[jS,aC (by omega),EZ (by omega),n1]
  have hrun:gm z (e::r) S=gm (((e::g).getLast?.map (·.word)).getD z) s S1:=by
   rw[hsp,<-ij,KH,<-hS1];rfl
  have hlast:∃x∈e::g,((e::g).getLast?.map (·.word)).getD z=x.word:=by
   rw[List.getLast?_eq_some_getLast (List.cons_ne_nil e g)];exact⟨_,List.getLast_mem (List.cons_ne_nil e g),rfl⟩
  have hby2:∀(x:cK),((o.arcs++[x]).getLast?).map (·.byte)=U x.byte:=λ x=>by rw[List.getLast?_append];simp
  rw[hrun,JB hp hG k s _ S1 _ _ W hlr hC2 hW har (λ x hx=>hb x (cU _ (hr x hx).1)) (λ x hx=>hl x (cU _ (hr x hx).1))
   (λ x hx=>⟨(hby x (cU _ (hr x hx).1)).1,by rw[hby2];exact(hr x hx).2⟩) (λ x hx=>by
    obtain⟨u,hu,e1⟩:=hlast;rw[e1];have hxs:=List.mem_of_head? hx;have hu2:u∈e::r/\a7 d u=U b:=by
     rcases cC.1 hu with rfl|hu
     .exact⟨cM,hbe⟩
     .exact⟨cU _ (hg u hu).1,(hg u hu).2⟩
    exact KZ (hb u hu2.1).1 (hb x (cU _ (hr x hxs).1)).1 hp (.inl λ h=>(hr x hxs).2 (by rw[<-hu2.2];exact h.symm)))]
  have hA:dG (λ own n M=>fe (f+1) own (d+1) n M) d 0 (e::r) o.arcs M=dG (λ own n M=>fe (f+1) own (d+1) n M) d 0 s (o.arcs++[⟨b,least (e::g),(fe (f+1) (e::g) (d+1) (least (e::g)) M).2⟩]) (fe (f+1) (e::g) (d+1) (least (e::g)) M).1:=by
   rw[dG,aq (by
    rintro(h|h)
    .rw[hbe]at h;cases h
    .exact(hby e cM).2 h.symm),hfe,hbe,hsp]
   exact Mp g s _ _ (hby2 _) λ x hx=>(hg x hx).2
  rw[hA]
theorem OZ:∀(f d:Nat) (p:List UInt8),Z p=d->Hb f d p
 |0,d,p,hp=>λ e r M y W ha hb hl hW=>by
  have:=hl e cM;have:=(hb e cM).2;omega
 |f+1,d,p,hp=>λ e r M y W ha hb hl hW=>by
  have hG:∀b,Hb f (d+1) (p++[b]):=λ b=>OZ f (d+1) (p++[b]) (by simp[hp])
  obtain⟨f1,f2⟩:=Ov ha hb;have hl':∀x∈e::r,Z x.word<d+1+f:=λ x hx=>by have:=hl x hx;omega
  have hlast:∀x∈r,share e.word x.word=d\/a7 d e≠Y:=λ x hx=>by
   by_cases hn:a7 d e=Y
   .exact .inl (KZ (hb e cM).1 (hb x (cU _ hx)).1 hp (.inr hn))
   .exact .inr hn
  rw[zW,f2];by_cases hn:a7 d e=Y
  .rw[aC hn,Hg (MQ.1 hn)];rw[show wW (val e) M (lS [] ⟨af,0,[],y⟩ W)=(M,⟨aa,val e,[],y⟩,W)from rfl,JB hp hG (Z r) r e.word (M,⟨aa,val e,[],y⟩,W) M ⟨aa,val e,[],y⟩ W (aJ _) (show jS d M _ W=_ from EZ (by omega)) hW ha.2 (λ x hx=>hb x (cU _ hx)) (λ x hx=>hl' x (cU _ hx)) (λ x hx=>⟨f1 x hx,λ h=>f1 x hx h⟩) λ x hx=>(hlast x (List.mem_of_head? hx)).resolve_right λ h=>h hn];rw[show dG (λ own n M=>fe f own (d+1) n M) d 0 (e::r) [] M=dG (λ own n M=>fe f own (d+1) n M) d 0 r [] M by rw[dG,aC (.inl hn)]]
  .rw[aq hn];have hsh:=KZ (by rw[<-hp,dY]) (hb e cM).1 hp (.inr (by rw[<-hp];simp));have h1:gm e.word r (wW (val e) M (lS (e.word.drop d) ⟨af,0,[],y⟩ W))=gm p (e::r) (M,⟨af,0,[],y⟩,W):=by
    rw[gm,qO,hsh];have:h_ d (M,(⟨af,0,[],y⟩:dD),W)=(M,⟨af,0,[],y⟩,W):=EZ (by show Z W<=d;omega);rw[this]
   rw[h1,JB hp hG (e::r).length (e::r) p (M,⟨af,0,[],y⟩,W) M ⟨af,0,[],y⟩ W (aJ _) (show jS d M _ W=_ from EZ (by omega)) hW ha hb hl' (λ x hx=>⟨by
    rcases cC.1 hx with rfl|hx
    .exact hn
    .exact f1 x hx,λ h=>by
    rcases cC.1 hx with rfl|hx
    .exact hn h
    .exact f1 x hx h⟩) λ x hx=>by cases hx;exact hsh]
def Ph{f:Nat}{l:List aD}(h0:l≠ [])(ha:gp l)(hl:∀e∈l,Z e.word<f+1):∃M o,h_ 0 (gm [] l ([],⟨af,0,[],0⟩,[]))=(M,o,[])/\eh o=least l/\gk M (dn o)=fe (f+1) l 0 (least l) []:=by
 obtain⟨e,r,rfl⟩:=Hh h0;have hb:pQ 0 [] (e::r):=λ x _=>⟨rfl,a6 _⟩
 have h:=OZ (f+1) 0 [] rfl e r [] 0 [] ha hb (by simpa using hl) rfl;obtain⟨n1,n2⟩:=Qn (rec:=λ own n M=>fe f own 1 n M) 0 h0 ha hb;refine⟨(dG (λ own n M=>fe f own 1 n M) 0 0 (e::r) [] []).1,_,?_,n1,?_⟩
 .have:gm [] (e::r) ([],⟨af,0,[],0⟩,[])=gm e.word r (wW (val e) [] (lS (e.word.drop 0) ⟨af,0,[],0⟩ [])):=by
   rw[gm,qO,show share [] e.word=0 by cases e.word<;>rfl];rfl
  rw[this,h];rfl
 .rw[n2,fe,show dG (λ own n M=>fe f own (0+1) n M) 0 (least (e::r)) (e::r) [] []=_ from Cf (e::r) [] []]
end
end Go.Sto
namespace Go.Proofs.YtdobfpkceacneaaGreatDoor.sto
open Go.Am Go.Mdl Go.Sto Go.Shelf
variable {A B:Mem}{b o n m:Nat}
def Sv{q:Nat}(l1:ax I A.get 147 (pw b o)=.ok (.int .u64 m))(l2:ax I A.get 147 (pw q 0)=.ok (.int .u64 n))(h:n<=m)(hm:m<18446744073709551616)
 (sB:bX I A 147 (pw b o) (uN (m-n))=.ok B):az I 200 [pw b o,pV q] A cL B:=by
 have s1:=gS h (iz (by omega));simp only[pV];refine cG 60 (aN Tryz.func200) (by kernel_rfl) λ M=>?_
 simp(disch:=first|decide+kernel|omega|simp only[Wq,V])only[Tryz.f200,Aq,au,reduceIte,V,ak,bW,bV,l1,l2,s1,sB,cL,Fq,bY []]<;>rfl
def qi5{α:Type}(f:α->α)(l:List α)(i:Nat)(h:i<Z l):((l.map f).take i++l.drop i).set i (f l[i])=(l.map f).take (i+1)++l.drop (i+1):=by
 have hl:((l.map f).take i).length=i:=by rw[db,aR];omega
 rw[BC _ _ (by omega),hl,gZ,nb h,List.set_cons_zero,eH (by rw[aR];exact h),v_];simp
def nv:=cg th
def Ia:aH:=sub nv [1,1,1,1,0,1,0,0]
def Xf:th.body=U (.seq (sub nv [0]) (.seq (sub nv [1,0]) (.seq (sub nv [1,1,0]) (.seq (sub nv [1,1,1,0]) (.seq (.seq (sub nv [1,1,1,1,0,0]) (.block 0 (.loop Ia))) (.seq (sub nv [1,1,1,1,1,0]) (sub nv [1,1,1,1,1,1]))))))):=by kernel_rfl
def K7:aY I 147=.ok 1:=by kernel_rfl
def qjz:cX I 147=.ok (uN 0):=by kernel_rfl
def du(x:O)(o:dD):List O:=[x,.bool o.fin,.int .u64 o.out,bN o.by'.toNat]
def PQ{o:dD}(h:o.fin=aa\/o.arcs≠ []):(∀a∈o.arcs,eh o<=a.out)/\(o.fin=aa->eh o<=o.out):=by
 obtain⟨h1,h2,-⟩:=FR o.arcs o.out o.fin h;exact⟨h1,h2⟩
variable {p:Nat}
def SC{bx:Nat}{o:dD}{x:O}(hp:VB A 241 p (.var 4) (du x o))(hx:ai A 304 3 bx (o.arcs.map cD) x)(h0:o.fin=aa\/o.arcs≠ [])(hl:Z o.arcs<=256)(ho:o.out<18446744073709551616/\∀a∈o.arcs,a.out<18446744073709551616):
 ∃v A',az I 149 [pV p] A v A'/\v=.int .u64 (eh o:Nat)/\VB A' 241 p (.var 4) (du x ⟨o.fin,(dn o).out,(dn o).arcs,o.by'⟩)/\ai A' 304 3 bx ((dn o).arcs.map cD) x/\A.next<=A'.next/\∀z,z<A.next->z≠p->(o.arcs≠ []->z≠bx)->A'.get z=A.get z:=by
 obtain⟨q1,q2⟩:=PQ h0;obtain⟨v,B,⟨g,hg⟩,rfl,kB⟩:=Sz (s:=⟨o.fin,o.out,o.arcs⟩) ⟨bx,hx⟩ hp hl;have hn:(o.arcs.foldl mT (o.out,o.fin)).1=eh o:=rfl;simp only[hn]at hg;have hpn:eh o<18446744073709551616:=by
  rcases h0 with h|h
  .have:=q2 h;omega
  .obtain⟨a,ha⟩:=Hi _ h;have:=q1 a ha;have:=ho.2 a ha;omega
 have kC:=Kp.alloc B (ae 147 [.int .u64 (eh o:Nat)]);have vC:=aK B 147 [.int .u64 (eh o:Nat)];have sC:bX I (B.alloc (ae 147 [.int .u64 (0:Nat)])) 147 (.pointer (U ⟨B.next,0,Y⟩)) (.int .u64 (eh o:Nat))=.ok (B.alloc (ae 147 [.int .u64 (eh o:Nat)])):=sS K7 rfl rfl (by simp);have nC:=aA B (ae 147 [.int .u64 (eh o:Nat)]);have cz:(Value.int .u64 (0:Nat)).cells.toList=[.int .u64 (0:Nat)]:=rfl;refine c_ (aN Tryz.func149) Xf (by kernel_rfl) ?_;simp only[pV]at*;apply W.ie (g)
 .intro M hM _;simp(disch:=omega)only[nv,th,Aq,V,hg,qjz,cz,sC];rfl
 generalize B.alloc (ae 147 [.int .u64 (eh o:Nat)])=C at kC vC sC nC;have kAC:=kB.trans kC;have hpC:=VB.kp hp kAC;have hxC:=hx.same kAC.1 (kAC.2 bx);have hpA:=hp.1;have hBp:=kB.1;have lC:=vC.l0 eE rfl;apply W.q
 .intro M;simp(disch:=omega)only[nv,th,Aq,V];rfl
 apply W.seq;have lf:=hpC.m1 u4 rfl;have lo:=hpC.m2 eE rfl;obtain⟨D,sD,vD,nD,fD⟩:=df (o:=0+2) (v:=.int .u64 (o.out-eh o:Nat)) K7 hpC.2 (by simp[du]) rfl rfl;refine W.to (n:=41) (λ t E=>VB E 241 p (.var 4) (du x ⟨o.fin,(dn o).out,o.arcs,o.by'⟩)/\E.next=C.next/\(∀z,z≠p->E.get z=C.get z)/\Sl t [(0,.pointer (U ⟨p,0,Y⟩)),(3,.pointer (U ⟨B.next,0,Y⟩)),(4,.func (.func 200) ⟨[]⟩ ⟨[.pointer (U ⟨B.next,0,Y⟩)]⟩)]) ?_ ?_
 .cases hf:o.fin with
  |true=>
   rw[hf]at lf;have hless:=Sv lo lC (q2 hf) ho.1 sD;obtain⟨g2,h2⟩:=hless;simp only[pV]at h2;apply W.ct (g2) 20
   .intro M hM;simp(disch:=omega)only[nv,th,Aq,V,bW,bV,uO,jw,uL,lf,h2,cL];rfl
   refine⟨rfl,_,D,rfl,⟨by omega,?_⟩,nD,fD,?_⟩
   .have e:du x ⟨aa,(dn o).out,o.arcs,o.by'⟩=(du x o).set (0+2) (.int .u64 (o.out-eh o:Nat)):=by unfold du dn;rw[hf];rfl
    rw[e];exact vD
   .simp only[Sq,V,ak]
  |false=>
   rw[hf]at lf;apply W.run 20
   .intro M;simp(disch:=omega)only[nv,th,Aq,V,bW,bV,uO,jw,lf];rfl
   refine⟨rfl,_,C,rfl,?_,rfl,λ _ _=>rfl,?_⟩
   .have e:du x ⟨af,(dn o).out,o.arcs,o.by'⟩=du x o:=by unfold du dn;rw[hf];rfl
    rw[e];exact hpC
   .simp only[Sq,V,ak]
 .rintro t E ⟨vE,nE,fE,g0,g3,g4,-⟩;have hBp':=kC.1;have hne:o.arcs≠ []->bx<A.next/\p≠bx:=λ h=>by
   have h':o.arcs.map cD≠ []:=λ e=>h (mH.1 e)
   exact⟨vn hx h',ai.gj hx hp (by decide) h'⟩
  have hxE:=ai.JQ hxC hpC (by decide) ⟨by omega,λ z _ hz=>fE z hz⟩;have lx:=vE.l0 j9 rfl;have len:=ai.len hxE j9;rw[aR]at len;apply W.seq;apply W.q
  .intro M;simp(disch:=decide+kernel)only[nv,th,Aq,V,g0,bW,bV,uO,mm,lx,len];rfl
  apply W.block;have hP:(dn o).arcs=o.arcs.map λ a=>⟨a.byte,a.out-eh o,a.to⟩:=rfl
  generalize hf:(λ a:cK=>(⟨a.byte,a.out-eh o,a.to⟩:cK))=f at hP;refine W.up (Z o.arcs) (λ i t F=>ai F 304 3 bx (((o.arcs.map f).take i++o.arcs.drop i).map cD) x/\VB F 241 p (.var 4) (du x ⟨o.fin,(dn o).out,o.arcs,o.by'⟩)/\F.next=C.next/\(∀z,z≠p->(o.arcs≠ []->z≠bx)->F.get z=C.get z)/\Sl t [(0,.pointer (U ⟨p,0,Y⟩)),(3,.pointer (U ⟨B.next,0,Y⟩)),(4,.func (.func 200) ⟨[]⟩ ⟨[.pointer (U ⟨B.next,0,Y⟩)]⟩),(25,.int .i64 (Z o.arcs:Nat)),(26,.int .i64 i)]) ?_ (a6 _) ⟨by simpa using hxE,vE,nE,λ z h1 _=>fE z h1,?_⟩
  .rintro i t F hi ⟨hF,vF,nF,fF,g0,g3,g4,g25,g26,-⟩;by_cases hlt:i<Z o.arcs
   .obtain⟨hbx,hpb⟩:=hne (λ e=>by rw[e]at hlt;simp at hlt);have hli:((o.arcs.map f).take i).length=i:=by rw[db,aR];omega
    have hrow:(((o.arcs.map f).take i++o.arcs.drop i).map cD)[i]?=U (cD o.arcs[i]):=by
     rw[da,ez (by omega),hli,gZ,rz,dN,aV hlt];rfl
    have hlen:=(bg.1 hrow).1;have lF:=vF.l0 j9 rfl;have j1:=ai.idx (t:=237) (kd:=.i64) hF j9 Bp hlen;have j2:=ai.load (tb:=I) (t:=147) (j:=1) hF eE rfl hrow rfl (by omega);obtain⟨G,e1,e2,e3,e4⟩:=ai.field (tb:=I) (t:=147) (j:=1) (v:=.int .u64 (o.arcs[i].out-eh o:Nat)) hF K7 hrow (by omega) rfl rfl;have lq:ax I F.get 147 (.pointer (U ⟨B.next,0,Y⟩))=.ok (.int .u64 (eh o:Nat)):=VB.ld (tb:=I) ⟨by have:=vC.1;omega,vC.2.same (fF _ (by omega) λ _=>by omega)⟩ rfl eE rfl;obtain⟨g2,h2⟩:=Sv j2 lq (q1 _ (ik hlt)) (ho.2 _ (ik hlt)) e1;simp only[pV]at h2;apply W.ct (g2) 20
    .intro M hM;simp(disch:=first|decide+kernel|omega)only[Ia,nv,th,Aq,V,g0,g4,g25,g26,hlt,bW,bV,uO,mm,lF,j1,yW,h2,cL];rfl
    refine⟨hlt,_,G,rfl,?_,⟨by have:=vF.1;omega,vF.2.same (e4 p hpb)⟩,by omega,λ z h1 h2=>by rw[e4 z (h2 λ e=>by rw[e]at hlt;simp at hlt),fF z h1 h2],?_⟩
    .have hu:=qi5 f o.arcs i hlt;rw[<-hu,BA,show cD (f o.arcs[i])=(cD o.arcs[i]).set 1 (.int .u64 (o.arcs[i].out-eh o:Nat)) by rw[<-hf];rfl];exact e2
    .simp only[Sq,V,ak,g0,g3,g4,g25]
   .have e:i=Z o.arcs:=by omega
    subst e;apply W.run 20
    .intro M;simp(disch:=decide+kernel)only[Ia,nv,th,Aq,V,g25,g26,hlt];rfl
    have lq:ax I F.get 147 (.pointer (U ⟨B.next,0,Y⟩))=.ok (.int .u64 (eh o:Nat)):=VB.ld (tb:=I) ⟨by have:=vC.1;omega,vC.2.same (fF _ (by omega) λ h=>by have:=(hne h).1;omega)⟩ rfl eE rfl;apply W.run 40
    .intro M;simp(disch:=omega)only[nv,th,Aq,V,g3,lq];rfl
    rw[ug (by rw[aR];exact aJ _),xZ,kR,<-hP]at hF;refine⟨by simp,rfl,_,(by simp only[th,Aq,V]<;>rfl),rfl,?_,hF,by show A.next<=F.next;omega,λ z hz h1 h2=>?_⟩
    .exact vF
    .show F.get z=A.get z;rw[fF z h1 h2,kAC.2 z hz]
  .simp only[Sq,V,ak,g0,g3,g4]
def lU(A:Mem)(b:Nat)(l:List cK)(x:O):Prop:=ai A 304 3 b (l.map cD) x/\(l=[]->x=.slice Y 0 0)
def lU.same{G:Mem}{l:List cK}{x:O}(h:lU A b l x)(hn:A.next<=G.next)(hg:l.map cD≠ []->b<A.next->G.get b=A.get b):lU G b l x:=⟨ai.oS h.1 (λ e=>h.2 (mH.1 e)) hn hg,h.2⟩
def gu(A:Mem)(X:Nat->Prop)(p mk:Nat)(M:List ay)(os:List dD)(b bw:Nat)(bs:List Nat):Prop:=∃y w rows ws,
 rJ A 235 3 p mk b [w] (M.map eJ) rows y/\gK A 241 4 bw ws w/\(Z ws=Z os/\Z bs=Z os/\bs.Nodup)/\
 (∀(i:Nat) (s:ay),M[i]?=U s->∃x bx,rows[i]?=U (a_ x s)/\lU A bx s.arcs x/\bx∉bs/\bx<A.next)/\
 (∀(i:Nat) (o:dD) (bx:Nat),os[i]?=U o->bs[i]?=U bx->∃x,ws[i]?=U (du x o)/\lU A bx o.arcs x/\bx<A.next)/\
 (¬X p/\¬X mk/\¬X b/\¬X bw)/\(∀z∈bs,¬X z)/\(b<A.next/\bw<A.next)/\∀z,X z->z<A.next
variable {mk bw:Nat}{M:List ay}{os:List dD}
def gu.kp{X:Nat->Prop}{bs:List Nat}(h:gu A X p mk M os b bw bs)(k:Kp A B):gu B X p mk M os b bw bs:=by
 obtain⟨y,w,rows,ws,h1,h2,h3,h4,h5,h6,h7,h8,h9⟩:=h;refine⟨y,w,rows,ws,h1.kp k,h2.same k.1 (k.2 bw h8.2),h3,λ i s hi=>?_,λ i o bx hi hb=>?_,h6,h7,⟨dc h8.1 k.1,dc h8.2 k.1⟩,λ z hz=>dc (h9 z hz) k.1⟩
 .obtain⟨x,bx,e1,e2,e3,e4⟩:=h4 i s hi;exact⟨x,bx,e1,e2.same k.1 λ _=>k.2 bx,e3,dc e4 k.1⟩
 .obtain⟨x,e1,e2,e3⟩:=h5 i o bx hi hb;exact⟨x,e1,e2.same k.1 λ _=>k.2 bx,dc e3 k.1⟩
def gu.H3{X:Nat->Prop}{bs:List Nat}(h:gu A X p mk M os b bw bs):∀z∈bs,z<A.next:=λ z hz=>by
 obtain⟨_,_,_,_,-,-,⟨-,h3,-⟩,-,h5,-⟩:=h;obtain⟨i,hi,rfl⟩:=rA hz;obtain⟨_,-,-,h⟩:=h5 i _ _ (aV (by omega)) (aV hi);exact h
def gu.more{X:Nat->Prop}{q:Nat}{bs:List Nat}(h:gu A X p mk M os b bw bs)(k:Kp A B)(hq:A.next<=q)(hq2:q<B.next):gu B (λ z=>X z\/z=q) p mk M os b bw bs:=by
 have hb:=h.H3;obtain⟨y,w,rows,ws,h1,h2,h3,h4,h5,⟨n1,n2,n3,n4⟩,n5,⟨n6,n7⟩,n8⟩:=h.kp k;obtain⟨_,_,_,_,⟨⟨d1,-⟩,⟨d2,-⟩,-⟩,-,-,-,-,-,-,⟨d3,d4⟩,-⟩:=h;have no:∀z,¬X z->z<A.next->¬(X z\/z=q):=λ z h hz=>λ h'=>by
  rcases h' with h'|h'
  .exact h h'
  .omega
 exact⟨y,w,rows,ws,h1,h2,h3,h4,h5,⟨no p n1 d1,no mk n2 d2,no b n3 d3,no bw n4 d4⟩,λ z hz=>no z (n5 z hz) (hb z hz),⟨n6,n7⟩,λ z hz=>by
  rcases hz with hz|rfl
  .exact n8 z hz
  .exact hq2⟩
def gu.less{X qjU:Nat->Prop}{bs:List Nat}(h:gu A X p mk M os b bw bs)(k:∀z,qjU z->X z):gu A qjU p mk M os b bw bs:=by
 obtain⟨y,w,rows,ws,h1,h2,h3,h4,h5,⟨n1,n2,n3,n4⟩,n5,n6,n8⟩:=h;exact⟨y,w,rows,ws,h1,h2,h3,h4,h5,⟨λ h=>n1 (k _ h),λ h=>n2 (k _ h),λ h=>n3 (k _ h),λ h=>n4 (k _ h)⟩,λ z hz h=>n5 z hz (k _ h),n6,λ z h=>n8 z (k _ h)⟩
def m7:I.aB 233=U (.slice 241):=by kernel_rfl
def vQ:aY I 241=.ok 4:=by kernel_rfl
def Jg:bM I 235 (pw b o) 0=.ok (pw b o):=by kernel_rfl
def yX:bM I 235 (pw b o) 1=.ok (pw b (o+2)):=by kernel_rfl
def Zt:bM I 241 (pw b o) 1=.ok (pw b (o+3)):=by kernel_rfl
def UT:cX I 241=.ok (.agg ⟨[.slice Y 0 0,.bool af,uN 0,bN 0]⟩):=by kernel_rfl
def wM:=cg uu
def ki:aH:=sub wM [0,0]
def Xe:uu.body=U (.block 0 (.loop ki)):=by kernel_rfl
def MW:ki=(.seq (.seq (sub ki [0,0]) (sub ki [0,1])) (.block 1 (.seq (sub ki [1,0,0]) (.seq (sub ki [1,0,1,0]) (.seq (sub ki [1,0,1,1,0]) (.seq (sub ki [1,0,1,1,1,0]) (.seq (sub ki [1,0,1,1,1,1,0]) (sub ki [1,0,1,1,1,1,1])))))))):=by kernel_rfl
def xX(o:dD):Prop:=Fit ⟨o.fin,o.out,o.arcs⟩
def Jt{o:dD}(h:xX o):Fit (dn o):=by
 refine⟨pU (Nat.sub_le _ _) h.1,λ a ha=>?_⟩;obtain⟨b,hb,rfl⟩:=dA.1 ha;exact⟨pU (Nat.sub_le _ _) (h.2 b hb).1,(h.2 b hb).2⟩
variable {d:Nat}{t:T O}
def Yi{X:Nat->Prop}{u o:dD}{bs:List Nat}(h:gu A X p mk M (os++[u,o]) b bw bs)(hd:d<=Z os)(hos:Z os<1000)
 (h0:o.fin=aa\/o.arcs≠ [])(hl:Z o.arcs<=256)(hul:Z u.arcs<=256)(ho:xX o)(hM:∀s∈M,Fit s)(hMl:Z M<1000000)
 (g:Sl t [(0,pV p),(1,.int .i64 d)]):
 W I ki ⟨t,67,[],A,Y⟩ λ e s'=>e=.nrm/\∃t' A' b' bs',s'=⟨t',67,[],A',Y⟩/\Sl t' [(0,pV p),(1,.int .i64 d)]/\
  gu A' X p mk (gk M (dn o)).1 (os++[⟨u.fin,u.out,u.arcs++[⟨o.by',eh o,(gk M (dn o)).2⟩],u.by'⟩]) b' bw bs'/\A.next<=A'.next/\∀z,X z->A'.get z=A.get z:=by
 obtain⟨g0,g1,-⟩:=g;have hblt:=h.H3;obtain⟨y,w,rows,ws,h1,h2,⟨h3,h3b,h3c⟩,h4,h5,⟨n1,n2,n3,n4⟩,n5,⟨n7,n6⟩,n8⟩:=h;have hp:=h1.1;obtain⟨-,⟨m1,m2⟩,m3,m4,m5⟩:=id h1;have lw:=hp.m2 m7 rfl;have len:=h2.len (tb:=I) (st:=233) m7;have hlen:Z ws=Z os+2:=by rw[h3];simp
 rw[hlen]at len;have a1:bj .add .i64 ((d:Nat):Int) ((1:Nat):Int)=.ok (.int .i64 (d+1:Nat)):=fc (cS (by omega));have hgt:d+1<Z os+2:=by omega
 have s1:bj .sub .i64 ((Z os+2:Nat):Int) ((1:Nat):Int)=.ok (.int .i64 (Z os+1:Nat)):=gS (by omega) (cS (by omega));have hbl:Z bs=Z os+2:=by rw[h3b];simp
 have hbo:bs[Z os+1]?=U (bs[Z os+1]'(by omega)):=aV (by omega)
 have hbu:bs[Z os]?=U (bs[Z os]'(by omega)):=aV (by omega)
 have hub:bs[Z os]'(by omega)≠bs[Z os+1]'(by omega):=λ e=>aZ ((List.getElem_inj h3c).1 e) (by omega)
 have hot:∀(i z:Nat),i<Z os->bs[i]?=U z->z≠bs[Z os]'(by omega)/\z≠bs[Z os+1]'(by omega):=λ i z hi hz=>by
  obtain⟨_,rfl⟩:=bg.1 hz;exact⟨λ e=>aZ ((List.getElem_inj h3c).1 e) (by omega),λ e=>aZ ((List.getElem_inj h3c).1 e) (by omega)⟩
 have hob:=ik (l:=bs) (n:=Z os+1) (by omega);have hubm:=ik (l:=bs) (n:=Z os) (by omega);generalize bs[Z os+1]'(by omega)=bo at hbo hub hob hot
 generalize bs[Z os]'(by omega)=bu at hbu hub hubm hot
 obtain⟨x,hwx,hx,hbx⟩:=h5 (Z os+1) o bo (by rw[ez (by omega),show Z os+1-Z os=1 by omega];rfl) hbo;obtain⟨xu,hwu,hxu,hbuA⟩:=h5 (Z os) u bu (by rw[ez (aJ _),gZ];rfl) hbu;obtain⟨_,kw,Qw,hVw,-⟩:=h2.row hwx;have Vw:VB A 241 bw kw Qw:=⟨n6,hVw⟩;obtain⟨dd,hd1,hd2⟩:=b9 (t:=241) (p:=aa) (by kernel_rfl);have j1:=h2.idx (tb:=I) (st:=233) (i:=Z os+1) m7 vQ (by omega);have j2:=h2.bU (tb:=I) hd1 hd2 vQ hwx;have hone:∀v∈du x o,bI v=aa:=by
  intro v hv;simp only[du,cC,en,or_false]at hv;rcases hv with rfl|rfl|rfl|rfl
  .exact(ai.di hx.1).2
  all_goals rfl
 have sB:bX I (A.alloc (ae 241 [.slice Y 0 0,.bool af,.int .u64 (0:Nat),.int .u8 (0:Nat)])) 241 (.pointer (U ⟨A.next,0,Y⟩)) (.agg ⟨du x o⟩)=.ok (A.alloc (ae 241 (du x o))):=ep vQ rfl rfl (by simp) hone;have kB:=Kp.alloc A (ae 241 (du x o));have vB:=aK A 241 (du x o);have nB:(A.alloc (ae 241 (du x o))).next=A.next+1:=aA _ _
 generalize A.alloc (ae 241 (du x o))=B at sB kB vB nB;obtain⟨v,C,⟨g2,hg2⟩,rfl,vC,hxC,nC,fC⟩:=SC vB (hx.1.same kB.1 (kB.2 bo)) h0 hl ⟨ho.1,λ a ha=>(ho.2 a ha).1⟩;simp only[pV]at*;rw[MW];apply W.seq;apply W.run 40
 .intro M;simp(disch:=first|decide+kernel|omega)only[ki,wM,uu,Aq,V,g0,g1,bW,bV,yX,lw,len,a1,fm,fk,hgt];rfl
 apply W.block;apply W.q2
 .intro M _;simp(disch:=first|decide+kernel|omega)only[ki,wM,uu,Aq,V,g0,bW,bV,yX,lw,len,s1,j1,j2,UT,aX,sB];rfl
 apply W.qG (g2)
 .intro M hM;simp(disch:=first|decide+kernel|omega)only[ki,wM,uu,Aq,V,hg2];rfl
 have fAC:∀z,z<A.next->(o.arcs≠ []->z≠bo)->C.get z=A.get z:=λ z hz h=>by rw[fC z (by omega) (by omega) h,kB.2 z hz]
 have hpA:=hp.1;have Ce:∀{l:List cK} {bx:Nat} {x:O} {e z:Nat} {k:Kd} {q:List O},lU A bx l x->VB A e z k q->e≠304->l≠ []->z≠bx:=λ hx hz he h=>ai.gj hx.1 hz he λ e=>h (mH.1 e)
 have hpC:VB C 235 p (.var 3) [y,.map (U mk),w]:=⟨by omega,hp.2.same (fAC p hpA λ h=>Ce hx hp (by decide) h)⟩;have lwC:ax I C.get 233 (.pointer (U ⟨p,0+2,Y⟩))=.ok w:=hpC.ld rfl m7 rfl;obtain⟨w',hpop,h2'⟩:=gK.pop (tb:=I) (st:=233) (P:=ws.take (Z os+1)) (p:=du x o) (n:=4) (e:=241) (b:=bw) (A:=A) (x:=w) (by
  have:ws=ws.take (Z os+1)++[du x o]:=by
   have e:=s_ (Z os+1) ws;rw[nb (by omega),Hg (by omega),(bg.1 hwx).2]at e;exact e.symm
  rw[<-this];exact h2) m7 vQ
 rw[db,oA (by omega)]at hpop;obtain⟨D,sD,vD,nD,fD⟩:=df (tb:=I) (t:=233) (o:=0+2) (v:=w') (by kernel_rfl) hpC.2 (by simp) (by
  obtain⟨_,_,_,rfl,-⟩:=h2';rfl) (by
  obtain⟨_,_,_,rfl,-⟩:=h2';rfl)
 have lwD:ax I D.get 233 (.pointer (U ⟨p,0+2,Y⟩))=.ok w':=c7 m7 rfl vD rfl;have hwp:bw≠p:=Vw.ne hp (by decide);have hwb:o.arcs≠ []->bw≠bo:=λ h=>Ce hx Vw (by decide) h
 have h2D:gK D 241 4 bw (ws.take (Z os+1)) w':=h2'.same (by omega) (by rw[fD bw hwp,fAC bw n6 hwb]);have lenD:=h2D.len (tb:=I) (st:=233) m7;have s2:bj .sub .i64 ((Z os+1:Nat):Int) ((1:Nat):Int)=.ok (.int .i64 (Z os:Nat)):=gS (by omega) (cS (by omega));have j3:=h2D.idx (tb:=I) (st:=233) (i:=Z os) m7 vQ (by rw[db];omega);apply W.q2
 .intro M _;simp(disch:=first|decide+kernel|omega)only[ki,wM,uu,Aq,V,g0,bW,bV,yX,lwC,hpop,sD,lwD,s2,j3];rfl
 have hwuD:(ws.take (Z os+1))[Z os]?=U (du xu u):=by rw[oz,aC (by omega)];exact hwu
 have r1:=h2D.load (tb:=I) (j:=0) (t:=237) hwuD j9 rfl rfl;rw[dN]at r1;have vCD:VB D 241 A.next (.var 4) (du x ⟨o.fin,(dn o).out,(dn o).arcs,o.by'⟩):=⟨by have:=vC.1;omega,vC.2.same (fD _ (by omega))⟩
 have r2:ax I D.get 5 (.pointer (U ⟨A.next,0+3,Y⟩))=.ok (.int .u8 (o.by'.toNat:Nat)):=vCD.ld rfl u5 rfl;have vP:de D 241 A.next (.var 4) (a_ x (dn o)):=by
  obtain⟨cc,q1,q2⟩:=vCD.2;refine⟨cc,q1,λ j hj=>?_⟩;rw[q2 j (by simp[a_,du]at hj⊢;omega)];have:du x ⟨o.fin,(dn o).out,(dn o).arcs,o.by'⟩=a_ x (dn o)++[.int .u8 (o.by'.toNat:Nat)]:=rfl;rw[this,eG hj]
 obtain⟨d4,hd4,hd5⟩:=b9 (t:=239) (p:=aa) (by kernel_rfl);have r3:ax I D.get 239 (.pointer (U ⟨A.next,0,Y⟩))=.ok (.agg ⟨a_ x (dn o)⟩):=bU hd4 hd5 (l:=a_ x (dn o)) iS vP;have hxD:lU D bo (dn o).arcs x:=⟨ai.JQ hxC hpC (by decide) ⟨by omega,λ z _ hz=>fD z hz⟩,λ e=>hx.2 (mH.1 e)⟩;have hmp:mk≠p:=Ne.symm (hp.cN m2);have fAD:∀z,z<A.next->z≠p->(o.arcs≠ []->z≠bo)->D.get z=A.get z:=λ z hz h h'=>by rw[fD z h,fAC z hz h']
 have hRD:rJ D 235 3 p mk b [w'] (M.map eJ) rows y:=⟨⟨by omega,vD⟩,⟨by omega,by rw[fAD mk m1 hmp λ h=>ai.cN hx.1 m2 λ e=>h (mH.1 e)];exact m2⟩,ai.oS m3 m5 (by omega) λ hr hb=>fAD b hb (Ne.symm (ai.gj m3 hp (by decide) hr)) λ h=>zk m3 hx.1 hr (λ e=>h (mH.1 e)) (by decide),m4,m5⟩;obtain⟨v2,E,⟨g3,hg3⟩,rfl,b',y',rows',hRE,hcase,hb',nE,fE⟩:=Sp (by decide) hRD ⟨bo,hxD.1⟩ (Jt ho) hM (by simpa[dn]using hl) hMl;have hbA:rows≠ []->b<A.next:=λ hr=>vn m3 hr
 have r1E:=(h2D.same nE (fE bw (by omega) hwp (Vw.cN m2) λ hr=>ai.gj m3 Vw (by decide) hr)).load (tb:=I) (j:=0) (t:=237) hwuD j9 rfl rfl;have h2E:=h2D.same nE (fE bw (by omega) hwp (Vw.cN m2) λ hr=>ai.gj m3 Vw (by decide) hr);rw[dN]at r1E;have r2E:ax I E.get 5 (.pointer (U ⟨A.next,0+3,Y⟩))=.ok (.int .u8 (o.by'.toNat:Nat)):=VB.ld (tb:=I) ⟨by omega,vCD.2.same (fE _ (by omega) (by omega) (by omega) λ hr=>by have:=hbA hr;omega)⟩ rfl u5 rfl;have fAE:∀{l:List cK} {bx:Nat} {x:O},lU A bx l x->bx≠bo->lU E bx l x:=λ {l bx x} hx' hne=>hx'.same (by omega) λ h hb=>by
  rw[fE bx (by omega) (Ne.symm (ai.gj hx'.1 hp (by decide) h)) (Ne.symm (ai.cN hx'.1 m2 h)) λ hr=>zk hx'.1 m3 h hr (by decide),fAD bx hb (Ne.symm (ai.gj hx'.1 hp (by decide) h)) λ _=>hne]
 have hxuE:=fAE hxu hub;obtain⟨xn,F,happ,hsF,nF,fF⟩:=Vc (a:=⟨o.by',eh o,(gk M (dn o)).2⟩) hxuE.1 (by omega);have hfz:∀z,(u.arcs≠ []->z≠bu)->z<E.next->F.get z=E.get z:=λ z h hz=>fF z (λ e=>xT λ hy=>h (λ h0=>hy (hxu.2 h0)) e) hz
 have h2F:=h2E.same (by omega) (hfz bw (λ h=>Ce hxu Vw (by decide) h) (by omega));obtain⟨G,sG,h2G,nG,fG⟩:=h2F.field (tb:=I) (t:=237) (j:=0) (v:=xn) qhe hwuD (by omega) (ai.di hsF).1 (ai.di hsF).2;rw[dN]at sG;have bd:=VJ (a:=o.by'.toNat) (o:=eh o) (n:=((gk M (dn o)).2:Int));have bz:=Wz (a:=o.by'.toNat) (o:=eh o) (n:=((gk M (dn o)).2:Int));have sx:cP 100 xu xu=aa:=by
  rcases hxu.1 with⟨rfl,-⟩|⟨_,_,rfl,-⟩
  .rfl
  .exact AX _ _ _ _
 have sy:=tV .u8 o.by'.toNat rfl;have ra:(E.alloc (ae 304 (cD ⟨o.by',eh o,(gk M (dn o)).2⟩)))=E.alloc (ae 304 [.int .u8 (o.by'.toNat:Nat),.int .u64 (eh o:Nat),.int .i64 (((gk M (dn o)).2:Nat):Int)]):=rfl;rw[ra]at happ;apply W.ct (g3) 20
 .intro M hM;simp(config:={maxSteps:=4000000})(disch:=first|decide+kernel|omega|simp only[Wq,V])only[ki,wM,uu,Aq,au,reduceIte,V,ak,g0,bW,bV,Jg,uO,Zt,mm,r1,r2,r3,hg3,bd,bz,happ,sG,r1E,r2E,sx,sy,Fq,bY [(5,14),(7,14)]];rfl
 have fEG:∀z,z<E.next->z≠bw->(u.arcs≠ []->z≠bu)->G.get z=E.get z:=λ z hz h1 h2=>by rw[fG z h1,hfz z h2 hz]
 obtain⟨q1,⟨q2,q3⟩,q4,q5,q6⟩:=hRE;have VwE:VB E 241 bw kw Qw:=⟨by omega,hVw.same (by rw[fE bw (by omega) hwp (Vw.cN m2) λ hr=>ai.gj m3 Vw (by decide) hr,fD bw hwp,fAC bw n6 hwb])⟩;have hu0:u.arcs≠ []->u.arcs.map cD≠ []:=λ h e=>h (mH.1 e)
 have toG:∀{l:List cK} {bx:Nat} {x:O},lU E bx l x->bx≠bu->lU G bx l x:=λ {l bx x} h hne=>h.same (by omega) λ h0 hb=>fEG bx hb (Ne.symm (ai.gj h.1 VwE (by decide) h0)) λ _=>hne
 have hnot:∀z,z<A.next->(z∈bs->z=bo)->z∉bs.take (Z os)++[E.next+1]:=λ z hz h hm=>by
  rcases mI.1 hm with h1|h1
  .have:=h (wa h1);obtain⟨i,hi,e⟩:=rA h1;rw[db]at hi;rw[List.getElem_take]at e;exact(hot i z (by omega) (by rw[aV (by omega),e])).2 this
  .have:=ee.1 h1;omega
 have old:∀(i:Nat) (s:ay),M[i]?=U s->∃x bx,rows[i]?=U (a_ x s)/\lU G bx s.arcs x/\bx∉bs.take (Z os)++[E.next+1]/\bx<G.next:=λ i s hs=>by
  obtain⟨x0,bx,e1,e2,e3,e4⟩:=h4 i s hs;exact⟨x0,bx,e1,toG (fAE e2 λ e=>e3 (e▸hob)) λ e=>e3 (e▸hubm),hnot bx e4 λ h=>aZ h e3,by omega⟩
 refine⟨rfl,_,G,b',bs.take (Z os)++[E.next+1],rfl,?_,⟨y',w',rows',_,⟨⟨by omega,q1.2.same (fEG p q1.1 (Ne.symm hwp) λ h=>ai.gj hxu.1 hp (by decide) (hu0 h))⟩,⟨by omega,by rw[fEG mk q2 (Ne.symm (Vw.cN m2)) λ h=>ai.cN hxu.1 m2 (hu0 h)];exact q3⟩,ai.oS q4 q6 (by omega) λ hr hb=>fEG b' hb (Ne.symm (ai.gj q4 VwE (by decide) hr)) λ h=>zk q4 hxuE.1 hr (hu0 h) (by decide),q5,q6⟩,h2G,⟨?_,?_,?_⟩,λ i s hs=>?_,λ i o' bx hi hb=>?_,⟨n1,n2,?_,n4⟩,λ z hz=>?_,⟨?_,by omega⟩,λ z hz=>by have:=n8 z hz;omega⟩,by omega,λ z hz=>?_⟩
 .simp only[Sq,V,ak,g0,g1]
 .rw[dI,db,aU];show _=Z os+1;omega
 .rw[aU,aU,db,fg,fg];omega
 .rw[we];exact⟨(List.take_sublist _ _).nodup h3c,by simp,λ a ha c hc e=>by
   have:=hblt a (wa ha);have:=ee.1 hc;omega⟩
 .rcases hcase with⟨rfl,hM'⟩|⟨rfl,hM'⟩
  .rw[hM']at hs;exact old i s hs
  .rw[hM']at hs;rcases d_ i (Z M)with hi|hi
   .rw[eG hi]at hs;obtain⟨x0,bx,e1,e2⟩:=old i s hs;exact⟨x0,bx,by rw[eG (bg.1 e1).1];exact e1,e2⟩
   .rw[ez hi]at hs;obtain⟨e,rfl⟩:i=Z M/\dn o=s:=by
     cases hq:i-Z M with
     |zero=>rw[hq]at hs;exact⟨by omega,by simpa using hs⟩
     |succ n=>rw[hq]at hs;simp at hs
    refine⟨x,bo,by rw[ez (by rw[m4,aR];exact hi),m4,aR,e,gZ];rfl,toG (hxD.same nE λ h hb=>fE bo hb (Ne.symm (ai.gj hxD.1 (⟨by omega,vD⟩:VB D 235 p (.var 3) _) (by decide) h)) ?_ λ hr=>?_) (Ne.symm hub),hnot bo hbx λ _=>rfl,by omega⟩
    .exact Ne.symm (ai.cN hx.1 m2 λ e=>h (by simpa[dn]using e))
    .exact zk hx.1 m3 (λ e=>h (by simpa[dn]using e)) hr (by decide)
 .rcases d_ i (Z os)with hi2|hi2
  .rw[eG hi2]at hi;rw[eG (by rw[db];omega),oz,aC hi2]at hb;obtain⟨x0,e1,e2,e3⟩:=h5 i o' bx (by rw[eG hi2];exact hi) hb;obtain⟨d1,d2⟩:=hot i bx hi2 hb;exact⟨x0,by rw[pR,aq (by omega),oz,aC (by omega)];exact e1,toG (fAE e2 d2) d1,by omega⟩
  .rw[ez hi2]at hi;rw[ez (by rw[db];omega),db,oA (by omega)]at hb;cases hq:i-Z os with
   |succ n=>rw[hq]at hi;simp at hi
   |zero=>
    rw[hq]at hi hb;cases hi;cases hb;refine⟨xn,by rw[show i=Z os by omega,pR,aC rfl,aC (by rw[db];omega)];rfl,⟨hsF.same (by omega) λ _=>fG _ (by omega),λ e=>by simp at e⟩,by omega⟩
 .rcases hb' with rfl|h
  .exact n3
  .exact λ hx=>by have:=n8 _ hx;omega
 .rcases mI.1 hz with h1|h1
  .exact n5 z (wa h1)
  .exact λ hx=>by have:=n8 _ hx;have:=ee.1 h1;omega
 .rcases hb' with rfl|h<;>omega
 .have hzA:=n8 z hz;have ne:∀q,¬X q->z≠q:=λ q hq e=>hq (e▸hz)
  rw[fEG z (by omega) (ne _ n4) λ _=>ne _ (n5 _ hubm),fE z (by omega) (ne _ n1) (ne _ n2) λ _=>ne _ n3,fAD z (by omega) (ne _ n1) λ _=>ne _ (n5 _ hob)]
def ou(k m:Nat)(S:nq):Prop:=S.2.1.arcs.length<=k/\(∀u∈S.2.2,Z u.arcs<k)/\S.1.length+S.2.2.length<=m/\(∀s∈S.1,Fit s/\Z s.arcs<=k)/\(xX S.2.1/\∀u∈S.2.2,xX u)/\(k≠0->S.2.1.fin=aa\/S.2.1.arcs≠ [])
def Qs(M:List ay)(s:ay):Z M<=(gk M s).1.length/\(gk M s).1.length<=Z M+1/\(gk M s).2<=Z M/\∀u∈(gk M s).1,u∈M\/u=s:=by
 unfold gk;cases h:M.findIdx? (λ x=>decide (x=s))with
 |none=>exact⟨by simp,by simp,aJ _,λ u hu=>by simpa using hu⟩
 |some i=>exact⟨aJ _,Nat.le_succ _,Ef (Hl.1 h).1,λ u hu=>.inl hu⟩
def qbz{o:dD}(h0:o.fin=aa\/o.arcs≠ [])(h:xX o):eh o<18446744073709551616:=by
 obtain⟨h1,h2⟩:=PQ h0;rcases h0 with h3|h3
 .exact pU (h2 h3) h.1
 .obtain⟨a,ha⟩:=Hi _ h3;exact pU (h1 a ha) (h.2 a ha).1
variable {k:Nat}
def Ps{o u:dD}{w:List dD}(hT:m<1000)(h:ou k m (M,o,u::w)):ou k m ((gk M (dn o)).1,⟨u.fin,u.out,u.arcs++[⟨o.by',eh o,(gk M (dn o)).2⟩],u.by'⟩,w):=by
 obtain⟨h1,h2,h3,h4,⟨h5,h6⟩,h7⟩:=h;obtain⟨n1,n2,n3,n4⟩:=Qs M (dn o);have hu:=h2 u cM;have hfu:=h6 u cM;simp only[cd]at h3;refine⟨by simp only[aU,cd,dL];omega,λ v hv=>h2 v (cU _ hv),by simp only[];omega,λ s hs=>?_,⟨⟨hfu.1,λ a ha=>?_⟩,λ v hv=>h6 v (cU _ hv)⟩,λ _=>.inr (by simp)⟩
 .rcases n4 s hs with h|rfl
  .exact h4 s h
  .exact⟨Jt h5,by simpa[dn]using h1⟩
 .rcases mI.1 ha with h|h
  .exact hfu.2 a h
  .rw[ee.1 h];exact⟨qbz (h7 (by omega)) h5,by simp only[];omega⟩
theorem Pt{m:Nat}:∀(bs:List UInt8) (o:dD) (w:List dD),Z o.arcs<=k->(∀u∈w,Z u.arcs<k+1)->(xX o/\∀u∈w,xX u)->Z M+Z w<=m->(∀s∈M,Fit s/\Z s.arcs<=k)->∀v,v<18446744073709551616->
 ou (k+1) (m+Z bs) (wW v M (lS bs o w))/\(lS bs o w).2.length=Z w+Z bs
 | [],o,w,h1,h2,h3,h4,h5,v,hv=>⟨⟨Nat.le_succ_of_le h1,h2,h4,λ s hs=>⟨(h5 s hs).1,Nat.le_succ_of_le (h5 s hs).2⟩,⟨⟨hv,h3.1.2⟩,h3.2⟩,λ _=>.inl rfl⟩,rfl⟩
 |b::bs,o,w,h1,h2,h3,h4,h5,v,hv=>by
  obtain⟨q1,q2⟩:=Pt (m:=m+1) bs ⟨af,0,[],b⟩ (o::w) (a6 _) (λ u hu=>by
   rcases cC.1 hu with rfl|hu
   .exact Nat.lt_succ_of_le h1
   .exact h2 u hu) ⟨⟨by show 0<18446744073709551616;omega,λ a ha=>by cases ha⟩,λ u hu=>by
   rcases cC.1 hu with rfl|hu
   .exact h3.1
   .exact h3.2 u hu⟩ (by simp only[cd];omega) h5 v hv
  refine⟨?_,by rw[lS,q2];simp only[cd];omega⟩;rw[lS,cd,show m+(Z bs+1)=m+1+Z bs by omega];exact q1
theorem C3(hT:m<1000):∀(w:List dD) (M:List ay) (o:dD),ou k m (M,o,w)->ou k m (jS d M o w)/\(jS d M o w).2.2.length=min d (Z w)
 | [],M,o,h=>⟨h,by simp[jS]⟩
 |u::w,M,o,h=>by
  rw[jS];split
  .obtain⟨h1,h2⟩:=C3 hT w _ _ (Ps hT h);exact⟨h1,by rw[h2,cd];omega⟩
  .exact⟨h,by rw[cd];omega⟩
variable {e:aD}
def Pr{S:nq}{z:List UInt8}(hT:m<1000)(h:ou k m S)(hv:val e<18446744073709551616):ou (k+1) (m+Z e.word) (qO z e S):=by
 obtain⟨M,o,w⟩:=S;obtain⟨⟨h1,h2,h3,h4,h5,-⟩,-⟩:=C3 hT w M o h;have:=(Pt (e.word.drop (share z e.word)) _ _ h1 (λ u hu=>Nat.lt_succ_of_lt (h2 u hu)) h5 h3 h4 (val e) hv).1;obtain⟨a,b,c,d⟩:=this;exact⟨a,b,dp c (by rw[qx];omega),d⟩
def Yh{X:Nat->Prop}(hk:k<=256)(hT:m<1000){K:Ex->St->Prop}:∀(ws:List dD) {A:Mem} {M:List ay} {o:dD} {b bw:Nat} {bs:List Nat} {t:T O},gu A X p mk M (o::ws).reverse b bw bs->ou k m (M,o,ws)->Sl t [(0,pV p),(1,.int .i64 d)]->
 (∀t' A' b' bs',gu A' X p mk (jS d M o ws).1 ((jS d M o ws).2.1::(jS d M o ws).2.2).reverse b' bw bs'->A.next<=A'.next->(∀z,X z->A'.get z=A.get z)->K (.exit 0) ⟨t',67,[],A',Y⟩)->d<1000000->W I (.loop ki) ⟨t,67,[],A,Y⟩ K:=by
 have stop:∀(ws:List dD) {A:Mem} {M:List ay} {o:dD} {b bw:Nat} {bs:List Nat} {t:T O},gu A X p mk M (o::ws).reverse b bw bs->Z ws<=d->Z ws<1000->Sl t [(0,pV p),(1,.int .i64 d)]->d<1000000->(∀t',K (.exit 0) ⟨t',67,[],A,Y⟩)->W I (.loop ki) ⟨t,67,[],A,Y⟩ K:=by
  rintro ws A M o b bw bs t h hd hW ⟨g0,g1,-⟩ hd1 hk;obtain⟨y,w,rows,rs,h1,h2,⟨h3,-,-⟩,-⟩:=h;have lw:=h1.1.m2 m7 rfl;have len:=h2.len m7;rw[h3,x_,cd]at len;have a1:bj .add .i64 ((d:Nat):Int) ((1:Nat):Int)=.ok (.int .i64 (d+1:Nat)):=fc (cS (by omega));have hgt:¬d+1<Z ws+1:=by omega
  apply W.round;rw[MW];apply W.seq;apply W.seq;simp only[pV]at g0;apply W.run 20
  .intro M;simp(disch:=decide+kernel)only[ki,wM,uu,Aq,V,g0,g1,bW,bV,yX,lw,len,a1,fm,fk,hgt];rfl
  apply W.run 20
  .intro M;simp only[ki,wM,uu,Aq,V];rfl
  exact hk _
 intro ws
 induction ws with
 |nil=>
  intro A M o b bw bs t h hi g hK hd;exact stop [] h (a6 _) (by simp) g hd λ t'=>hK t' A b bs h (aJ _) λ _ _=>rfl
 |cons u w ih=>
  intro A M o b bw bs t h hi g hK hd;obtain⟨i1,i2,i3,i4,⟨i5,i6⟩,i7⟩:=id hi;simp only[cd]at i3;by_cases hc:d<=Z w
  .apply W.round;rw[show(o::u::w).reverse=w.reverse++[u,o] by simp]at h;refine(Yi h (by rw[x_];exact hc) (by rw[x_];omega) (i7 (by have:=i2 u cM;omega)) (dp i1 hk) (by have:=i2 u cM;omega) i5 (λ s hs=>(i4 s hs).1) (by omega) g).mono ?_;rintro e s' ⟨rfl,t',A',b',bs',rfl,g',h',n',f'⟩;refine ih (by rw[Ec];exact h') (Ps hT hi) g' (λ t2 A2 b2 tC q1 q2 q3=>?_) hd;rw[jS,aC hc]at hK;exact hK t2 A2 b2 tC q1 (dp n' q2) λ z hz=>by rw[q3 z hz,f' z hz]
  .rw[jS,aq hc]at hK;exact stop (u::w) h (by rw[cd];omega) (by rw[cd];omega) g hd λ t'=>hK t' A b bs h (aJ _) λ _ _=>rfl
def Sd{X:Nat->Prop}{S:nq}{bs:List Nat}(h:gu A X p mk S.1 (S.2.1::S.2.2).reverse b bw bs)(hi:ou k m S)(hk:k<=256)(hT:m<1000)(hd:d<1000000):
 ∃v A',az I 148 [pV p,.int .i64 d] A v A'/\v=cL/\(∃b' bs',gu A' X p mk (h_ d S).1 ((h_ d S).2.1::(h_ d S).2.2).reverse b' bw bs')/\A.next<=A'.next/\∀z,X z->A'.get z=A.get z:=by
 refine c_ (aN Tryz.func148) Xe (by kernel_rfl) ?_;apply W.block;refine Yh hk hT S.2.2 h hi ?_ (λ t' A' b' bs' q1 q2 q3=>?_) hd
 .simp only[Sq,V,ak]
 .exact⟨by simp,rfl,_,(by simp only[uu,Aq,V]<;>rfl),rfl,⟨b',bs',q1⟩,q2,q3⟩
theorem S7:∀(x y:List UInt8) (i:Nat),i<share x y->∃c,x[i]?=U c/\y[i]?=U c
 |a::x,b::y,i,h=>by
  unfold share at h;split at h
  .rename_i e;subst e;cases i with
   |zero=>exact⟨a,rfl,rfl⟩
   |succ i=>exact S7 x y i (by omega)
  .omega
 | [],_,i,h=>by unfold share at h;omega
 |_::_,[],i,h=>by unfold share at h;omega
theorem S8:∀(x y:List UInt8),share x y<=Z x/\share x y<=Z y/\∀a b,x[share x y]?=U a->y[share x y]?=U b->a≠b
 |a::x,b::y=>by
  unfold share;split
  .obtain⟨h1,h2,h3⟩:=S8 x y;exact⟨by simp only[cd];omega,by simp only[cd];omega,λ c d hc hd=>h3 c d (by simpa using hc) (by simpa using hd)⟩
  .exact⟨a6 _,a6 _,λ c d hc hd=>by cases hc;cases hd;assumption⟩
 | [],y=>⟨aJ _,a6 _,λ c d hc _=>by simp[share]at hc⟩
 |a::x,[]=>⟨a6 _,aJ _,λ c d _ hd=>by simp[share]at hd⟩
def qgv(he:e.weight<4294967296):az I 198 [.agg ⟨aS e⟩] A (.int .u64 (val e:Nat)) (A.alloc (ae 44 (aS e))):=by
 have hv:=aK A 44 (aS e);have l1:ax I (A.alloc (ae 44 (aS e))).get 42 (.pointer (U ⟨A.next,1,Y⟩))=.ok (.int .u32 e.weight):=hv.ld rfl Bh rfl;have l2:ax I (A.alloc (ae 44 (aS e))).get 4 (.pointer (U ⟨A.next,2,Y⟩))=.ok (.bool e.gone):=hv.ld rfl u4 rfl;have c1:=ia (k:=.u32) (n:=e.weight) (by rw[Bh];rfl) eE (iz (by omega));unfold val;cases hg:e.gone with
 |true=>
  rw[hg]at l2;refine cG 60 (aN Tryz.func198) (by kernel_rfl) λ M=>?_
  simp(disch:=omega)only[Tryz.f198,Aq,V,aX,As,l2]<;>rfl
 |false=>
  rw[hg]at l2;refine cG 60 (aN Tryz.func198) (by kernel_rfl) λ M=>?_
  simp(disch:=first|decide+kernel|omega)only[Tryz.f198,Aq,V,aX,ZD,As,l1,l2,c1,qc3]<;>rfl
def qiy:∃i,I.ty.get 241=U i/\0<i.bytes/\i.bytes<=65536:=by
 have h:(I.ty.get 241).map (λ i=>aM 0 i.bytes&&au i.bytes 65536)=U aa:=by kernel_rfl
 cases hq:I.ty.get 241 with
 |none=>rw[hq]at h;cases h
 |some i=>
  rw[hq]at h;simp only[fZ,eM,dz,bT]at h;exact⟨i,rfl,h.1,fQ h.2⟩
def qju:eR I 241=.ok (4,[.slice Y 0 0,.bool af,uN 0,bN 0]):=by kernel_rfl
def tS(b:UInt8):dD:=⟨af,0,[],b⟩
def Wl{b:UInt8}:ef I 241 [(1,bN b.toNat)]=.ok (.agg ⟨du (.slice Y 0 0) (tS b)⟩):=by kernel_rfl
def WB{b:UInt8}:eo I 233 1 [(0,.agg ⟨du (.slice Y 0 0) (tS b)⟩)]=.ok (ae 241 (du (.slice Y 0 0) (tS b)),.dy 1 2):=by kernel_rfl
def qhf:aY I 233=.ok 1:=by kernel_rfl
def Wk{X:Nat->Prop}{bs:List Nat}(c:UInt8)(h:gu A X p mk M os b bw bs)(hl:Z os<100000):
 ∃w w' B C,ax I A.get 233 (.pointer (U ⟨p,0+2,Y⟩))=.ok w/\dm I (A.alloc (ae 241 (du (.slice Y 0 0) (tS c)))) 233 233 w (.slice (U ⟨A.next,0,Y⟩) 1 2)=.ok (w',B)/\
  bX I B 233 (.pointer (U ⟨p,0+2,Y⟩)) w'=.ok C/\(∃bw',gu C X p mk M (os++[tS c]) b bw' (bs++[A.next]))/\A.next<=C.next/\∀z,X z->C.get z=A.get z:=by
 obtain⟨y,w,rows,ws,⟨h1,⟨m1,m2⟩,m3,m4,m5⟩,h2,⟨h3,h3b,h3c⟩,h4,h5,⟨n1,n2,n3,n4⟩,n5,⟨n7,n6⟩,n8⟩:=h;have kB:=Kp.alloc A (ae 241 (du (.slice Y 0 0) (tS c)));have nB:=aA A (ae 241 (du (.slice Y 0 0) (tS c)));obtain⟨ti,t1,t2,t3⟩:=qiy;obtain⟨w',B,bw',e1,e2,e3,e4,e5⟩:=(h2.same kB.1 (kB.2 bw n6)).push m7 qju t1 t2 t3 (by omega) (by omega) (cR A _) rfl (by simp[du,bI]) (by omega) (by omega);rw[nB]at e3 e4 e5;have hp:=h1.1;have fB:∀z,z<A.next->z≠bw->B.get z=A.get z:=λ z hz hw=>by rw[e5 z hw (by omega),kB.2 z hz]
 have hbw:∀(e:aj) (z:Nat) (k:Kd) (l:List O),VB A e z k l->e≠241->z≠bw:=λ e z k l hz he=>by
  rintro rfl;obtain⟨_,_,_,rfl,-,⟨_,q,-⟩,-⟩:=h2;obtain⟨_,q2,-⟩:=hz.2;rw[q]at q2;injection q2 with q2;injection q2 with q2;exact he q2.symm
 have hmw:mk≠bw:=by
  rintro rfl;obtain⟨_,_,_,rfl,-,⟨_,q,-⟩,-⟩:=h2;rw[q]at m2;cases m2
 have one:w'.cells.toList=[w']/\bI w'=aa:=by
  obtain⟨_,_,_,rfl,-⟩:=e2;exact⟨rfl,rfl⟩
 obtain⟨C,sC,vC,nC,fC⟩:=df (o:=0+2) qhf (h1.2.same (fB p hp (hbw _ _ _ _ h1 (by decide)))) (by simp) one.1 one.2;have hbp:bw'≠p:=by
  rcases e3 with rfl|rfl
  .exact Ne.symm (hbw _ _ _ _ h1 (by decide))
  .omega
 have toC:∀{l:List cK} {bx:Nat} {x:O},lU A bx l x->lU C bx l x:=λ {l bx x} hx=>hx.same (by omega) λ h0 hb=>by
  rcases hx.1 with⟨-,hh⟩|⟨k,_,-,h6,h7,-⟩
  .exact aZ hh h0
  .have qjW:VB A 304 bx k _:=⟨h6,h7⟩;rw[fC bx (qjW.ne h1 (by decide)),fB bx hb (hbw _ _ _ _ qjW (by decide))]
 refine⟨w,w',B,C,h1.ld rfl m7 rfl,e1,sC,⟨bw',y,w',rows,_,⟨⟨by omega,vC⟩,⟨by omega,by rw[fC mk (Ne.symm (h1.cN m2)),fB mk m1 hmw];exact m2⟩,ai.oS m3 m5 (by omega) λ hr hb=>?_,m4,m5⟩,e2.same (by omega) (fC bw' hbp),⟨by rw[aU,aU,h3];rfl,by rw[aU,aU,h3b];rfl,?_⟩,λ i s hs=>?_,λ i o bx hi hb=>?_,⟨n1,n2,n3,by
  rcases e3 with rfl|rfl
  .exact n4
  .exact λ hx=>by have:=n8 _ hx;omega⟩,λ z hz=>?_,⟨by omega,?_⟩,λ z hz=>by have:=n8 z hz;omega⟩,by omega,λ z hz=>by rw[fC z (λ e=>n1 (e▸hz)),fB z (n8 z hz) λ e=>n4 (e▸hz)]⟩
 .rcases m3 with⟨-,hh⟩|⟨k,_,-,h6,h7,-⟩
  .exact aZ hh hr
  .have qjW:VB A 239 b k _:=⟨h6,h7⟩;rw[fC b (qjW.ne h1 (by decide)),fB b hb (hbw _ _ _ _ qjW (by decide))]
 .rw[we];refine⟨h3c,by simp,λ z hz q hq e=>?_⟩;obtain⟨i,hi,rfl⟩:=rA hz;obtain⟨_,-,-,hlt⟩:=h5 i _ _ (aV (by omega)) (aV hi);have:=ee.1 hq;omega
 .obtain⟨x,bx,q1,q2,q3,q4⟩:=h4 i s hs;exact⟨x,bx,q1,toC q2,λ hm=>by
   rcases mI.1 hm with hm|hm
   .exact q3 hm
   .have:=ee.1 hm;omega,by omega⟩
 .rcases d_ i (Z os)with hi2|hi2
  .rw[eG hi2]at hi;rw[eG (by omega)]at hb;obtain⟨x,q1,q2,q3⟩:=h5 i o bx hi hb;exact⟨x,by rw[eG (by omega)];exact q1,toC q2,by omega⟩
  .rw[ez hi2]at hi;rw[ez (by omega),h3b]at hb;cases hq:i-Z os with
   |succ n=>rw[hq]at hi;simp at hi
   |zero=>
    rw[hq]at hi hb;cases hi;cases hb;exact⟨.slice Y 0 0,by rw[ez (by omega),h3,hq];rfl,⟨ai.nil _ _ _ _,λ _=>rfl⟩,by omega⟩
 .rcases mI.1 hz with hz|hz
  .exact n5 z hz
  .exact λ hx=>by have:=n8 _ hx;have:=ee.1 hz;omega
 .obtain⟨_,_,_,-,h,-⟩:=e2;omega
def Wj{X:Nat->Prop}{o:dD}{bs:List Nat}(v:Nat)(h:gu A X p mk M (os++[o]) b bw bs)(hl:Z os<100000):
 ∃B C,bX I A 4 (pw bw (Z os*4+1)) (.bool aa)=.ok B/\bX I B 147 (pw bw (Z os*4+2)) (.int .u64 v)=.ok C/\gu C X p mk M (os++[⟨aa,v,o.arcs,o.by'⟩]) b bw bs/\C.next=A.next/\∀z,X z->C.get z=A.get z:=by
 obtain⟨y,w,rows,ws,⟨h1,⟨m1,m2⟩,m3,m4,m5⟩,h2,⟨h3,h3b,h3c⟩,h4,h5,⟨n1,n2,n3,n4⟩,n5,⟨n7,n6⟩,n8⟩:=h;rw[aU,fg]at h3 h3b;obtain⟨x,hwx,hx,-⟩:=h5 (Z os) o _ (by rw[ez (aJ _),gZ];rfl) (aV (by omega));obtain⟨_,kw,Qw,hVw,-⟩:=h2.row hwx;have Vw:VB A 241 bw kw Qw:=⟨n6,hVw⟩;obtain⟨B,s1,hB,nB,fB⟩:=h2.field (j:=1) (v:=.bool aa) (by kernel_rfl) hwx (by omega) rfl rfl;obtain⟨C,s2,hC,nC,fC⟩:=hB.field (j:=2) (v:=.int .u64 v) (by kernel_rfl) (by rw[pR,aC rfl,aC (by omega)]) (by omega) rfl rfl;rw[List.set_set]at hC;have fAC:∀z,z≠bw->C.get z=A.get z:=λ z hz=>by rw[fC z hz,fB z hz]
 have toC:∀{l:List cK} {bx:Nat} {x:O},lU A bx l x->lU C bx l x:=λ {l bx x} hx=>hx.same (by omega) λ h0 _=>fAC bx (Ne.symm (ai.gj hx.1 Vw (by decide) h0))
 refine⟨B,C,s1,s2,⟨y,w,rows,_,⟨⟨by have:=h1.1;omega,h1.2.same (fAC p (h1.ne Vw (by decide)))⟩,⟨by omega,by rw[fAC mk (Ne.symm (Vw.cN m2))];exact m2⟩,ai.oS m3 m5 (by omega) λ hr _=>fAC b (Ne.symm (ai.gj m3 Vw (by decide) hr)),m4,m5⟩,hC,⟨by rw[dI,h3,aU];rfl,by rw[h3b,aU];rfl,h3c⟩,λ i s hs=>?_,λ i o' bx hi hb=>?_,⟨n1,n2,n3,n4⟩,n5,⟨by omega,by omega⟩,λ z hz=>by have:=n8 z hz;omega⟩,by omega,λ z hz=>fAC z λ e=>n4 (e▸hz)⟩
 .obtain⟨x,bx,q1,q2,q3,q4⟩:=h4 i s hs;exact⟨x,bx,q1,toC q2,q3,by omega⟩
 .rcases d_ i (Z os)with hi2|hi2
  .rw[eG hi2]at hi;obtain⟨x,q1,q2,q3⟩:=h5 i o' bx (by rw[eG hi2];exact hi) hb;exact⟨x,by rw[pR,aq (by omega)];exact q1,toC q2,by omega⟩
  .have e:i=Z os:=by
    have:=(bg.1 hi).1;rw[aU,fg]at this;omega
   subst e;rw[ez (aJ _),gZ]at hi;cases hi;obtain⟨x2,q1,q2,q3⟩:=h5 (Z os) o bx (by rw[ez (aJ _),gZ];rfl) hb;rw[hwx]at q1;obtain rfl:x=x2:=by simpa[du]using q1
   exact⟨x,by rw[pR,aC rfl,aC (by omega)];rfl,toC q2,by omega⟩
theorem Ks:∀(bs:List UInt8) (o:dD) (w:List dD),((lS bs o w).1::(lS bs o w).2).reverse=(o::w).reverse++bs.map tS
 | [],o,w=>by simp[lS]
 |b::bs,o,w=>by
  rw[lS,Ks bs];simp[tS]
def kV:=cg pX
def uD:aH:=sub kV [1,1,0,0,0]
def H_:aH:=sub kV [1,1,1,1,0,1,0,0]
def W5:pX.body=U (.seq (sub kV [0]) (.seq (sub kV [1,0]) (.seq (.block 0 (.loop uD)) (.seq (sub kV [1,1,1,0]) (.seq (.seq (sub kV [1,1,1,1,0,0]) (.block 2 (.loop H_))) (.seq (sub kV [1,1,1,1,1,0]) (sub kV [1,1,1,1,1,1]))))))):=by kernel_rfl
def qeA{X:Nat->Prop}{S:nq}{bs:List Nat}{z:List UInt8}(h:gu A X p mk S.1 (S.2.1::S.2.2).reverse b bw bs)(hi:ou k m S)(hk:k<=256)(hm:m+Z e.word<1000)(hz:Z z<1000)(he:e.weight<4294967296):
 ∃v A',az I 147 [pV p,ag z,.agg ⟨aS e⟩] A v A'/\v=cL/\(∃b' bw' bs',gu A' X p mk (qO z e S).1 ((qO z e S).2.1::(qO z e S).2.2).reverse b' bw' bs')/\A.next<=A'.next/\∀z,X z->A'.get z=A.get z:=by
 refine c_ (aN Tryz.func147) W5 (by kernel_rfl) ?_;have kB:=Kp.alloc A (ae 44 (aS e));have vB:=aK A 44 (aS e);have nB:=aA A (ae 44 (aS e));have hX:∀z,X z->z<A.next:=by obtain⟨_,_,_,_,-,-,-,-,-,-,-,-,h⟩:=h;exact h
 apply W.q
 .intro M;simp(disch:=first|decide+kernel|omega)only[kV,pX,Aq,V,aX];rfl
 generalize A.alloc (ae 44 (aS e))=B at kB vB nB;have hB:=h.more kB (aJ _) (by omega);have lw:=λ(D:Mem) (hD:VB D 44 A.next (.var 3) (aS e))=>VB.ld (tb:=I) (t:=9) (o:=0) hD rfl u9 rfl
 have lwB:=lw B vB;have hlz:=lK (tb:=I) (t:=9) (l:=z) u9;have hlw:=lK (tb:=I) (t:=9) (l:=e.word) u9;obtain⟨e1,e2,e3⟩:=S8 z e.word;have hws:Z e.word<1000:=by omega
 apply W.q
 .intro M;simp(disch:=first|decide+kernel|omega)only[kV,pX,Aq,V];rfl
 apply W.seq;apply W.block;refine W.up (share z e.word) (λ i t D=>D=B/\Sl t [(0,pV p),(1,ag z),(5,pV A.next),(6,.int .i64 i)]) ?_ (a6 _) ⟨rfl,?_⟩
 .rintro i t D hi2 ⟨rfl,g0,g1,g5,g6,-⟩;simp only[pV]at g5;by_cases hlt:i<share z e.word
  .obtain⟨c,hc1,hc2⟩:=S7 z e.word i hlt;have l1:i<Z z:=by omega
   have l2:i<Z e.word:=by omega
   have i1:=qX (tb:=I) (t:=9) (kd:=.i64) u9 l1;have i2:=qX (tb:=I) (t:=9) (kd:=.i64) u9 l2;rw[ow,hc1]at i1;rw[ow,hc2]at i2;apply W.run 20
   .intro M;simp(config:={maxSteps:=4000000})(disch:=first|decide+kernel|omega|simp only[Wq,V])only[uD,kV,pX,Aq,au,reduceIte,V,ak,g1,g5,g6,hlz,l1,ny,lwB,hlw,l2,i1,i2,Fq,bY []];rfl
   refine⟨hlt,_,_,rfl,rfl,?_⟩;simp only[Sq,V,ak,g0,g1,g5,pV]
  .have e0:i=share z e.word:=by omega
   subst e0;have fin:W I (sub uD [0]) ⟨t,78,[],D,Y⟩ λ ex s=>∃t',ex=.exit 0/\s=⟨t',78,[],D,Y⟩/\Sl t' [(0,pV p),(1,ag z),(5,pV A.next),(6,iN (share z e.word))]:=by
    by_cases l1:share z e.word<Z z
    .have i1:=qX (tb:=I) (t:=9) (kd:=.i64) u9 l1;by_cases l2:share z e.word<Z e.word
     .have i2:=qX (tb:=I) (t:=9) (kd:=.i64) u9 l2;have hne:¬((z.getD (share z e.word) 0).toNat=(e.word.getD (share z e.word) 0).toNat):=λ h=>e3 _ _ (aV l1) (aV l2) (by
       rw[ow,ow,aV l1,aV l2]at h;exact yI.1 h)
      apply W.run 20
      .intro M;simp(config:={maxSteps:=4000000})(disch:=first|decide+kernel|omega|simp only[Wq,V])only[uD,kV,pX,Aq,au,reduceIte,V,ak,g1,g5,g6,hlz,l1,ny,lwB,hlw,l2,i1,i2,hne,Fq,bY []];rfl
      refine⟨_,rfl,rfl,?_⟩;simp only[Sq,V,ak,g0,g1,g5,g6,pV]
     .apply W.run 20
      .intro M;simp(config:={maxSteps:=4000000})(disch:=first|decide+kernel|omega|simp only[Wq,V])only[uD,kV,pX,Aq,au,reduceIte,V,ak,g1,g5,g6,hlz,l1,ny,lwB,hlw,l2,Fq,bY []];rfl
      refine⟨_,rfl,rfl,?_⟩;simp only[Sq,V,ak,g0,g1,g5,g6,pV]
    .apply W.run 20
     .intro M;simp(config:={maxSteps:=4000000})(disch:=first|decide+kernel|omega|simp only[Wq,V])only[uD,kV,pX,Aq,au,reduceIte,V,ak,g1,g5,g6,hlz,l1,ny,lwB,hlw,Fq,bY []];rfl
     refine⟨_,rfl,rfl,?_⟩;simp only[Sq,V,ak,g0,g1,g5,g6,pV]
   rw[show uD=.seq (sub uD [0]) (sub uD [1]) by kernel_rfl];apply W.seq;refine fin.mono ?_;rintro _ _ ⟨t',rfl,rfl,g0,g1,g5,g6,-⟩;show W I _ _ _;obtain⟨iv,il⟩:=C3 (d:=share z e.word) (by omega) S.2.2 S.1 S.2.1 hi;obtain⟨v,C,⟨g2,hg2⟩,rfl,⟨b1,wJ,hC⟩,nC,fC⟩:=Sd (d:=share z e.word) hB hi hk (by omega) (by omega);have hvA:=vB.1;have hvC:VB C 44 A.next (.var 3) (aS e):=⟨by omega,vB.2.same (fC _ (.inr rfl))⟩
   have hadd:qO z e S=wW (val e) (h_ (share z e.word) S).1 (lS (e.word.drop (share z e.word)) (h_ (share z e.word) S).2.1 (h_ (share z e.word) S).2.2):=rfl;rw[hadd];have il2:(h_ (share z e.word) S).2.2.length<=share z e.word:=by rw[show(h_ (share z e.word) S).2.2.length=_ from il];omega
   generalize h_ (share z e.word) S=S1 at hC il2;generalize hd:share z e.word=d at*;simp only[pV]at g0 g5 hg2;apply W.qG (g2)
   .intro M hM;simp(disch:=first|decide+kernel|omega)only[kV,pX,Aq,V,g0,g6,hg2,cL];rfl
   apply W.seq;apply W.q
   .intro M;simp(disch:=first|decide+kernel|omega)only[kV,pX,Aq,V,g6];rfl
   apply W.block;have hdl:(e.word.drop d).length=Z e.word-d:=qx;refine W.up (e.word.drop d).length (λ j t E=>(∃bw bs,gu E (λ x=>X x\/x=A.next) p mk S1.1 ((S1.2.1::S1.2.2).reverse++((e.word.drop d).take j).map tS) b1 bw bs)/\(C.next<=E.next/\∀x,X x\/x=A.next->E.get x=C.get x)/\Sl t [(0,pV p),(5,pV A.next),(7,iN (d+j))]) ?_ (a6 _) ⟨⟨bw,wJ,by rw[zT,rB,kR];exact hC⟩,⟨aJ _,λ _ _=>rfl⟩,?_⟩
   .rintro j t E hj ⟨⟨bw2,tC,hE⟩,⟨nE,fE⟩,g0,g5,g7,-⟩;simp only[pV]at g0 g5;have hvE:VB E 44 A.next (.var 3) (aS e):=⟨by have:=hvC.1;omega,hvC.2.same (fE _ (.inr rfl))⟩
    have lE:=lw E hvE;by_cases hlt:j<(e.word.drop d).length
    .have l2:d+j<Z e.word:=by omega
     have i2:=qX (tb:=I) (t:=9) (kd:=.i64) u9 l2;obtain⟨w,w',F,G,l1,ap,sG,⟨bw3,hG⟩,nG,fG⟩:=Wk (e.word.getD (d+j) 0) hE (by
      rw[aU,x_,cd,aR,db];omega)
     have a1:bj .add .i64 ((d+j:Nat):Int) ((1:Nat):Int)=.ok (iN (d+(j+1))):=fc (cS (by omega));have bo:=Wl (b:=e.word.getD (d+j) 0);have bz:=WB (b:=e.word.getD (d+j) 0);apply W.run 20
     .intro M;simp(config:={maxSteps:=4000000})(disch:=first|decide+kernel|omega|simp only[Wq,V])only[H_,kV,pX,Aq,au,reduceIte,V,ak,g0,g5,g7,ny,lE,hlw,l2,bW,bV,yX,l1,i2,bo,bz,ap,sG,a1,Fq,bY []];rfl
     refine⟨hlt,_,G,rfl,⟨bw3,tC++[E.next],?_⟩,⟨by omega,λ x hx=>by rw[fG x hx,fE x hx]⟩,?_⟩
     .have e1:(e.word.drop d)[j]=e.word.getD (d+j) 0:=by rw[List.getElem_drop,ow,aV l2];rfl
      rw[eH hlt,fY,e1,<-jD];exact hG
     .simp only[Sq,V,ak,g0,g5,pV]
    .have e0:j=(e.word.drop d).length:=by omega
     subst e0;have l2:¬d+(e.word.drop d).length<Z e.word:=by omega
     apply W.run 20
     .intro M;simp(disch:=first|decide+kernel|omega)only[H_,kV,pX,Aq,V,g5,g7,ny,lE,hlw,l2];rfl
     show W I _ _ _;rw[dY,<-Ks,Ec]at hE;have hq:=hE;obtain⟨y,w,rows,ws,⟨h1,-⟩,h2,⟨h3,-,-⟩,-⟩:=hE;have hln:(lS (e.word.drop d) S1.2.1 S1.2.2).2.length<3000:=by
      have:=cV Z (Ks (e.word.drop d) S1.2.1 S1.2.2);simp only[x_,cd,aU,aR]at this;omega
     rw[aU,x_,fg]at h3;have l1:ax I E.get 233 (pw p (0+2))=.ok w:=h1.ld rfl m7 rfl;have len:=h2.len (tb:=I) (st:=233) m7;have s1:bj .sub .i64 ((Z ws:Nat):Int) ((1:Nat):Int)=.ok (iN ((lS (e.word.drop d) S1.2.1 S1.2.2).2.length)):=by
      rw[gS (by omega) (cS (by omega)),h3];rfl
     have j1:=h2.idx (tb:=I) (st:=233) (i:=(lS (e.word.drop d) S1.2.1 S1.2.2).2.length) m7 vQ (by omega);obtain⟨d4,hd4,hd5⟩:=b9 (t:=44) (p:=aa) (by kernel_rfl);have lA:ax I E.get 44 (pw A.next 0)=.ok (.agg ⟨aS e⟩):=bU hd4 hd5 (l:=aS e) jd hvE.2;obtain⟨g3,hg3⟩:=qgv (A:=E) he;have kF:=Kp.alloc E (ae 44 (aS e));obtain⟨G,H,sG,sH,hH,nH,fH⟩:=Wj (val e) (hq.kp kF) (by rw[x_];omega);rw[x_]at sG sH;generalize E.alloc (ae 44 (aS e))=F at*;have hEA:=hX;apply W.ct (g3) 40
     .intro M hM;simp(config:={maxSteps:=4000000})(disch:=first|decide+kernel|omega|simp only[Wq,V])only[kV,pX,Aq,au,reduceIte,V,ak,g0,bW,bV,yX,l1,len,s1,j1,Fq,bY [],g5,lA,hg3,uO,jw,uL,sG,sH];rfl
     have n1:=kF.1;refine⟨by simp,rfl,_,(by simp only[pX,Aq,V]<;>rfl),rfl,⟨b1,bw2,tC,?_⟩,?_,λ x hx=>?_⟩
     .show gu H X p mk S1.1 (_::_).reverse b1 bw2 tC;rw[Ec];exact hH.less λ _ h=>.inl h
     .show A.next<=H.next
      have:=kB.1;omega
     .show H.get x=A.get x;have:=hX x hx;have:=kB.1;rw[fH x (.inl hx),kF.2 x (by omega),fE x (.inl hx),fC x (.inl hx),kB.2 x (by omega)]
   .simp only[Sq,V,ak,g0,g5,pV,dN]
 .simp only[Sq,V,ak,pV]
def qi0:I.aB 9=U .string:=oe
variable {w:List UInt8}
def qfy(h:1<=Z w/\Z w<=255):az I 125 [ag w] A (.bool aa) A:=by
 have hl:=lK (l:=w) qi0;have h0:w≠ []:=λ e=>by rw[e]at h;simp at h
 have he:∀t:T O,ev t (.const (.string ⟨#[]⟩))=.ok (ag []):=λ _=>rfl
 have h2:=h.2;refine cG 60 (aN Tryz.func125) (by kernel_rfl) λ M=>?_
 simp(disch:=first|decide+kernel|omega|simp only[Wq,V])only[Tryz.f125,Aq,au,reduceIte,V,ak,hl,he,h0,u6,hZ,h2]<;>rfl
def tG:=cg yw
def Is:aH:=sub tG [1,0,1,0,0]
def XF:yw.body=U (.seq (sub tG [0]) (.seq (.seq (sub tG [1,0,0]) (.block 0 (.loop Is))) (.seq (sub tG [1,1,0]) (sub tG [1,1,1])))):=by kernel_rfl
def DM:I.aB 52=U (.slice 9):=by kernel_rfl
def qeC(h:1<=Z w/\Z w<=255):az I 126 [.func (.func 125) ⟨[]⟩ ⟨[]⟩,.slice (U ⟨A.next,0,Y⟩) 1 2] (A.alloc (ae 9 [ag w])) (.bool aa) (A.alloc (ae 9 [ag w])):=by
 refine yK (aN Tryz.func126) XF (by kernel_rfl) ?_;have vB:=aK A 9 [ag w];have hS:ai (A.alloc (ae 9 [ag w])) 9 1 A.next [[ag w]] (.slice (U ⟨A.next,0,Y⟩) 1 2):=.inr ⟨.var 1,2,rfl,vB.1,vB.2,by simp,.inl rfl⟩
 have ll:=ai.len hS DM;have j1:=ai.idx (i:=0) (kd:=.i64) hS DM (by kernel_rfl) (by simp);have j2:ax I (A.alloc (ae 9 [ag w])).get 9 (pw A.next (0*1))=.ok (ag w):=vB.ld rfl u9 rfl;generalize A.alloc (ae 9 [ag w])=B at*;obtain⟨g,hg⟩:=qfy (A:=B) h;apply W.q
 .intro M;simp(disch:=omega)only[tG,yw,Aq,V];rfl
 apply W.seq;apply W.q
 .intro M;simp(disch:=decide+kernel)only[tG,yw,Aq,V,ll,cd,dL];rfl
 apply W.block;apply W.round;apply W.ct (g) 20
 .intro M hM;simp(disch:=first|decide+kernel|omega|simp only[Wq,V])only[Is,tG,yw,Aq,au,reduceIte,V,ak,Nat.zero_lt_one,j1,j2,hg];rfl
 apply W.round;apply W.run 20
 .intro M;simp(disch:=decide+kernel)only[Is,tG,yw,Aq,V,gY];rfl
 apply W.run 40
 .intro M;simp(disch:=omega)only[tG,yw,Aq,V];rfl
 exact⟨by simp,rfl,rfl,by simp only[yw,Aq,V]<;>rfl⟩
def qgA(h:1<=Z w/\Z w<=255):az I 69 [.slice (U ⟨A.next,0,Y⟩) 1 2] (A.alloc (ae 9 [ag w])) (iN 0) (A.alloc (ae 9 [ag w])):=by
 obtain⟨g,hg⟩:=qeC (A:=A) h;refine bQ (g) 60 (aN Tryz.func69) (by kernel_rfl) λ M hM=>?_
 simp(disch:=omega)only[Tryz.f69,Aq,V,hg,sr]<;>rfl
def Sy:az I 273 [ag w] A (.bool af) A:=by
 refine cG 60 (aN Tryz.func273) (by kernel_rfl) λ M=>?_
 simp(disch:=decide+kernel)only[Tryz.f273,Aq,V]<;>rfl
def qeQ{a b:List UInt8}(h:cJ a b=aa):az I 246 [ag a,ag b] A (.int .i64 (-1)) A:=by
 obtain⟨g1,h1⟩:=Sy (A:=A) (w:=a);obtain⟨g2,h2⟩:=Sy (A:=A) (w:=b);have hs:j8 .lss a b=.ok (.bool aa):=by
  show R.ok (Value.bool (cJ a b))=_;rw[h]
 refine bQ (g1+g2) 60 (aN Tryz.func246) (by kernel_rfl) λ M hM=>?_
 simp(disch:=first|decide+kernel|omega)only[Tryz.f246,Aq,V,h1,h2,hs,I8]<;>rfl
def KI(h:cJ e.word w=aa):az I 197 [.agg ⟨aS e⟩,ag w] A (.int .i64 (-1)) (A.alloc (ae 44 (aS e))):=by
 have l1:ax I (A.alloc (ae 44 (aS e))).get 9 (pw A.next 0)=.ok (ag e.word):=(aK A 44 (aS e)).ld rfl u9 rfl;obtain⟨g,hg⟩:=qeQ (A:=A.alloc (ae 44 (aS e))) h;refine bQ (g) 60 (aN Tryz.func197) (by kernel_rfl) λ M hM=>?_
 simp(disch:=omega)only[Tryz.f197,Aq,V,aX,ny,l1,hg]<;>rfl
def po:=cg ur
def EE:aH:=sub po [1,0,1,1,0,1,0,0]
def Xd:ur.body=U (.seq (sub po [0]) (.scope (.seq (sub po [1,0,0]) (.seq (sub po [1,0,1,0]) (.seq (.seq (sub po [1,0,1,1,0,0]) (.block 0 (.loop EE))) (.seq (sub po [1,0,1,1,1,0]) (sub po [1,0,1,1,1,1]))))))):=by kernel_rfl
def qe7{l:List aD}{x:O}(h:dK A l x)(hw:∀e∈l,1<=Z e.word/\Z e.word<=255)(hl:Z l<1000000)(hasc:gp l):∃v A',az I 146 [x] A v A'/\v=.tuple ⟨[.int .i64 (-1),iN 0]⟩/\Kp A A':=by
 refine c_ (aN Tryz.func146) Xd (by kernel_rfl) ?_;have hlen:=h.len;apply W.q
 .intro M;simp(disch:=omega)only[po,ur,Aq,V];rfl
 apply W.scope;apply W.q
 .intro M;simp(disch:=first|decide+kernel|omega)only[po,ur,Aq,V,I8];rfl
 apply W.seq;refine W.run 1 (λ m=>rfl) ?_;apply W.seq;apply W.q
 .intro M;simp(disch:=first|decide+kernel|omega)only[po,ur,Aq,V,hlen];rfl
 apply W.block;refine W.up (Z l) (λ i t D=>Kp A D/\Sl t [(0,x),(2,.int .i64 (-1)),(3,iN 0),(6,x),(7,iN (Z l)),(8,.int .i64 i)]) ?_ (a6 _) ⟨Kp.refl _,?_⟩
 .rintro i t D hi ⟨kD,g0,g2,g3,g6,g7,g8,-⟩;by_cases hlt:i<Z l
  .have he:l[i]?=U l[i]:=aV hlt;obtain⟨p,j1,j2,-⟩:=(h.kp kD).at he;have hwe:=hw _ (ik hlt);have kE:=Kp.alloc D (ae 44 (aS l[i]));have sE:bX I (D.alloc (ae 44 (aS ⟨[],0,af⟩))) 44 (pw D.next 0) (.agg ⟨aS l[i]⟩)=.ok (D.alloc (ae 44 (aS l[i]))):=ep (by kernel_rfl) rfl rfl (by simp[aS]) (I6 _);have vE:=aK D 44 (aS l[i]);have hEE:=(h.kp kD).kp kE;have jd:cX I 44=.ok (.agg ⟨aS ⟨[],0,af⟩⟩):=LN;generalize hE:D.alloc (ae 44 (aS l[i]))=E at kE sE vE hEE;have lw:∀F,Kp E F->ax I F.get 9 (pw D.next 0)=.ok (ag l[i].word):=λ F hF=>(vE.kp hF).ld rfl u9 rfl
   have lE:=lw E (Kp.refl _);obtain⟨g,hg⟩:=qgA (A:=E) hwe;have bs:eo I 52 1 [(0,ag l[i].word)]=.ok (ae 9 [ag l[i].word],.dy 1 2):=by kernel_rfl
   have kF:=Kp.alloc E (ae 9 [ag l[i].word]);have lF:=lw _ kF;by_cases h0:0<i
   .have he2:l[i-1]?=U l[i-1]:=aV (by omega);obtain⟨p2,k1,k2,-⟩:=(hEE.kp kF).at he2;have sub1:bj .sub .i64 ((i:Nat):Int) ((1:Nat):Int)=.ok (iN (i-1)):=gS (by omega) (cS (by omega));obtain⟨gb,hg2⟩:=KI (A:=E.alloc (ae 9 [ag l[i].word])) (Ms hasc he2 (by rw[show i-1+1=i by omega];exact he));have hn0:¬(((0:Nat):Int)<=-1):=by decide
    apply W.ct (g+gb) 20
    .intro M hM;simp(config:={maxSteps:=4000000})(disch:=first|decide+kernel|omega|simp only[Wq,V])only[EE,po,ur,Aq,au,reduceIte,V,ak,g0,g3,g6,g7,g8,hlt,j1,j2,jd,aX,hE,sE,ny,lE,bs,hg,fm,fk,h0,sub1,k1,k2,lF,hg2,hn0,(show aL 1 2=false from rfl),Fq,bY []];rfl
    refine⟨hlt,_,_,rfl,kD.trans (kE.trans (kF.trans (Kp.alloc _ _))),?_⟩;simp only[Sq,V,ak,g0,g2,g3,g6,g7]
   .apply W.ct (g) 20
    .intro M hM;simp(config:={maxSteps:=4000000})(disch:=first|decide+kernel|omega|simp only[Wq,V])only[EE,po,ur,Aq,au,reduceIte,V,ak,g0,g3,g6,g7,g8,hlt,j1,j2,jd,aX,hE,sE,ny,lE,bs,hg,fm,fk,h0,(show aL 1 2=false from rfl),Fq,bY []];rfl
    refine⟨hlt,_,_,rfl,kD.trans (kE.trans kF),?_⟩;simp only[Sq,V,ak,g0,g2,g3,g6,g7]
  .have e:i=Z l:=by omega
   subst e;apply W.run 20
   .intro M;simp(disch:=first|decide+kernel|omega)only[EE,po,ur,Aq,V,g7,g8,hlt];rfl
   apply W.run 40
   .intro M;simp(disch:=first|decide+kernel|omega)only[po,ur,Aq,V,g2,g3];rfl
   exact⟨by simp,rfl,_,(by simp only[ur,Aq,V]<;>rfl),rfl,kD⟩
 .simp only[Sq,V,ak]
def js:=cg qM
def ID:aH:=sub js [1,1,1,1,0,1,0,0]
def XU:qM.body=U (.seq (sub js [0]) (.seq (sub js [1,0]) (.seq (sub js [1,1,0]) (.seq (sub js [1,1,1,0]) (.seq (.seq (sub js [1,1,1,1,0,0]) (.block 0 (.loop ID))) (.seq (sub js [1,1,1,1,1,0]) (.seq (sub js [1,1,1,1,1,1,0]) (.seq (sub js [1,1,1,1,1,1,1,0]) (.seq (sub js [1,1,1,1,1,1,1,1,0]) (.seq (sub js [1,1,1,1,1,1,1,1,1,0]) (sub js [1,1,1,1,1,1,1,1,1,1]))))))))))):=by kernel_rfl
def VM{a:Nat}:ef I 232 [(1,.map (U a))]=.ok (.agg ⟨[.slice Y 0 0,.map (U a)]⟩):=by kernel_rfl
def qcg:qY I 233 (iN 1) (iN 1)=.ok (ae 241 (du (.slice Y 0 0) ⟨af,0,[],0⟩),.dy 1 2):=by kernel_rfl
def VN{a:Nat}:ef I 235 [(0,.agg ⟨[.slice Y 0 0,.map (U a)]⟩),(1,.slice (U ⟨b,0,Y⟩) 1 2)]=.ok (.agg ⟨[.slice Y 0 0,.map (U a),.slice (U ⟨b,0,Y⟩) 1 2]⟩):=by kernel_rfl
def S0:nq:=([],⟨af,0,[],0⟩,[])
def uU(l:List aD):List UInt8:=(l.getLast?.map (·.word)).getD []
def qbq(l:List aD)(e:aD):uU (l++[e])=e.word:=by simp[uU]
def Lj(l:List aD)(e:aD):jb (l++[e])=jb l+Z e.word:=by simp[jb]
def TW(l:List aD)(i:Nat):jb (l.take i)<=jb l:=by
 have:=cV jb (s_ i l);have e:∀a b:List aD,jb (a++b)=jb a+jb b:=λ a b=>by simp[jb]
 rw[e]at this;omega
def qic{l:List aD}(h:e∈l):Z e.word<=jb l:=by
 obtain⟨a,b,rfl⟩:=List.append_of_mem h;simp[jb];omega
def SE(l:List aD)(e:aD):gm [] (l++[e]) S0=qO (uU l) e (gm [] l S0):=by rw[KH];rfl
def Pq:ou 0 0 S0:=⟨aJ _,λ u hu=>by simp[S0]at hu,aJ _,λ s hs=>by simp[S0]at hs,⟨⟨by show 0<18446744073709551616;omega,λ a ha=>by simp[S0]at ha⟩,λ u hu=>by simp[S0]at hu⟩,λ h=>aZ rfl h⟩
def qfV{l:List aD}{x:O}(h:dK A l x)(h0:l≠ [])(ha:gp l)(hw:∀e∈l,1<=Z e.word/\Z e.word<=255/\e.weight<4294967296)(hs:jb l<999)(hl:Z l<=255):
 ∃v A',az I 94 [x] A v A'/\(∃y,v=.tuple ⟨[.agg ⟨[y,.int .u64 (least l:Nat)]⟩,.int .i64 (0:Nat)]⟩/\dJ A' (dx l) y)/\Kp A A':=by
 refine c_ (aN Tryz.func94) XU (by kernel_rfl) ?_;have kA:=Kp.alloc A (ae 149 [.slice Y 0 0,.int .u64 (0:Nat)]);have vA:=aK A 149 [.slice Y 0 0,.int .u64 (0:Nat)];have nA:=aA A (ae 149 [.slice Y 0 0,.int .u64 (0:Nat)]);apply W.q
 .intro M;simp(disch:=omega)only[js,qM,Aq,V,DY,aX];rfl
 generalize A.alloc (ae 149 [.slice Y 0 0,.int .u64 (0:Nat)])=A1 at kA vA nA;obtain⟨v,B,⟨g1,h1⟩,rfl,kB⟩:=qe7 (h.kp kA) (λ e he=>⟨(hw e he).1,(hw e he).2.1⟩) (by omega) ha;apply W.qG (g1)
 .intro M hM;simp(disch:=first|decide+kernel|omega)only[js,qM,Aq,V,h1,dX,dU];rfl
 have hEB:=(h.kp kA).kp kB;have vB:=vA.kp kB;have hAB:=kB.1;generalize hk:B.next=k0
 have m1:(B.alloc (.map [] 0)).next=k0+1:=by rw[aA,hk]
 have m2:((B.alloc (.map [] 0)).alloc (ae 241 (du (.slice Y 0 0) ⟨af,0,[],0⟩))).next=k0+2:=by rw[aA,m1]
 have w3:=aK ((B.alloc (.map [] 0)).alloc (ae 241 (du (.slice Y 0 0) ⟨af,0,[],0⟩))) 235 [.slice Y 0 0,.map (U k0),.slice (U ⟨k0+1,0,Y⟩) 1 2];have w2:=(aK (B.alloc (.map [] 0)) 241 (du (.slice Y 0 0) ⟨af,0,[],0⟩)).kp (Kp.alloc _ (ae 235 [.slice Y 0 0,.map (U k0),.slice (U ⟨k0+1,0,Y⟩) 1 2]));have kC:=((Kp.alloc B (.map [] 0)).trans (Kp.alloc _ (ae 241 (du (.slice Y 0 0) ⟨af,0,[],0⟩)))).trans (Kp.alloc _ (ae 235 [.slice Y 0 0,.map (U k0),.slice (U ⟨k0+1,0,Y⟩) 1 2]));have w1:((((B.alloc (.map [] 0)).alloc (ae 241 (du (.slice Y 0 0) ⟨af,0,[],0⟩))).alloc (ae 235 [.slice Y 0 0,.map (U k0),.slice (U ⟨k0+1,0,Y⟩) 1 2]))).get k0=U (.map [] 0):=by
  rw[c9 (by omega),c9 (by omega),<-hk];exact cR _ _
 have nC:((((B.alloc (.map [] 0)).alloc (ae 241 (du (.slice Y 0 0) ⟨af,0,[],0⟩))).alloc (ae 235 [.slice Y 0 0,.map (U k0),.slice (U ⟨k0+1,0,Y⟩) 1 2]))).next=k0+3:=by rw[aA,m2]
 rw[m1]at w2;rw[m2]at w3;apply W.q
 .intro M;simp(disch:=first|decide+kernel|omega)only[js,qM,Aq,V,Dg,tP,Cj,hk,m1,m2,VM,qcg,VN,aX];rfl
 generalize (((B.alloc (.map [] 0)).alloc (ae 241 (du (.slice Y 0 0) ⟨af,0,[],0⟩))).alloc (ae 235 [.slice Y 0 0,.map (U k0),.slice (U ⟨k0+1,0,Y⟩) 1 2]))=C at w1 w2 w3 kC nC;have hC:gu C (λ z=>z<k0) (k0+2) k0 S0.1 (S0.2.1::S0.2.2).reverse (k0+2) (k0+1) [k0+2]:=
  ⟨.slice Y 0 0,.slice (U ⟨k0+1,0,Y⟩) 1 2,[],[du (.slice Y 0 0) ⟨af,0,[],0⟩],⟨w3,⟨by omega,w1⟩,ai.nil _ _ _ _,rfl,λ _=>rfl⟩,qhZ w2.1 w2.2 rfl,⟨rfl,rfl,by simp⟩,λ i s hi=>by simp[S0]at hi,λ i o bx hi hb=>by
   cases i with
   |zero=>
    cases hi;cases hb;exact⟨.slice Y 0 0,rfl,⟨ai.nil _ _ _ _,λ _=>rfl⟩,by omega⟩
   |succ i=>simp at hb,⟨by omega,by omega,by omega,by omega⟩,λ z hz=>by have:=ee.1 hz;omega,⟨by omega,by omega⟩,λ z hz=>by omega⟩
 have hEC:=hEB.kp kC;have hlen:=hEC.len;apply W.q
 .intro M;simp(disch:=first|decide+kernel|omega)only[js,qM,Aq,V];rfl
 apply W.seq;apply W.q
 .intro M;simp(disch:=first|decide+kernel|omega)only[js,qM,Aq,V,hlen];rfl
 apply W.block;refine W.up (Z l) (λ i t D=>(∃b bw bs,gu D (λ z=>z<k0) (k0+2) k0 (gm [] (l.take i) S0).1 ((gm [] (l.take i) S0).2.1::(gm [] (l.take i) S0).2.2).reverse b bw bs)/\ou i (jb (l.take i)) (gm [] (l.take i) S0)/\(C.next<=D.next/\∀z,z<k0->D.get z=C.get z)/\
  Sl t [(2,pV A.next),(6,pV (k0+2)),(7,ag (uU (l.take i))),(26,x),(27,.int .i64 (Z l:Nat)),(28,.int .i64 i)]) ?_ (a6 _) ⟨⟨_,_,_,hC⟩,Pq,⟨aJ _,λ _ _=>rfl⟩,?_⟩
 .rintro i t D hi ⟨⟨b,bw,bs,hD⟩,iv,⟨nD,fD⟩,g2,g6,g7,g26,g27,g28,-⟩;have kBD:Kp B D:=⟨by omega,λ z hz=>by rw[fD z (by omega),kC.2 z hz]⟩;by_cases hlt:i<Z l
  .have he:l[i]?=U l[i]:=aV hlt;have hwe:=hw l[i] (ik hlt);obtain⟨bx,j1,j2,-⟩:=(hEB.kp kBD).at he;have hsm:=TW l (i+1);have hlw:(uU (l.take i)).length<1000:=by
    cases hq:(l.take i).getLast? with
    |none=>simp[uU,hq]
    |some u=>
     have:=qic (wa (List.mem_of_mem_getLast? hq));simp only[uU,hq,fZ,td];omega
   rw[eH hlt,Lj]at hsm;rw[eH hlt,SE,Lj,qbq];generalize l[i]=e at*;have sE:bX I (D.alloc (ae 44 [.string .empty,.int .u32 (0:Nat),.bool af])) 44 (.pointer (U ⟨D.next,0,Y⟩)) (.agg ⟨aS e⟩)=.ok (D.alloc (ae 44 (aS e))):=ep jd rfl rfl (by simp) (wX e);have kE:=Kp.alloc D (ae 44 (aS e));have vE:=aK D 44 (aS e);have nE:(D.alloc (ae 44 (aS e))).next=D.next+1:=aA _ _
   generalize D.alloc (ae 44 (aS e))=E at sE kE vE nE;obtain⟨d4,hd4,hd5⟩:=b9 (t:=44) (p:=aa) (by kernel_rfl);have lA:ax I E.get 44 (.pointer (U ⟨D.next,0,Y⟩))=.ok (.agg ⟨aS e⟩):=bU hd4 hd5 (l:=aS e) jd vE.2;obtain⟨v,F,⟨g3,h3⟩,rfl,⟨b1,bw1,wJ,hF⟩,nF,fF⟩:=qeA (z:=uU (l.take i)) (hD.more kE (aJ _) (by omega)) iv (by omega) (by omega) hlw hwe.2.2;have lF:ax I F.get 9 (.pointer (U ⟨D.next,0,Y⟩))=.ok (ag e.word):=VB.ld (tb:=I) ⟨by have:=vE.1;omega,vE.2.same (fF _ (.inr rfl))⟩ rfl u9 rfl;have z9:cX I 44=.ok (.agg ⟨[.string .empty,.int .u32 (0:Nat),.bool af]⟩):=by kernel_rfl
   simp only[pV]at g6 h3;apply W.ct (g3) 20
   .intro M hM;simp(disch:=first|decide+kernel|omega)only[ID,js,qM,Aq,V,g6,g7,g26,g27,g28,hlt,j1,j2,z9,aX,sE,lA,h3,ny,lF,cL];rfl
   refine⟨hlt,_,F,rfl,⟨b1,bw1,wJ,hF.less λ _ h=>.inl h⟩,Pr (by omega) iv (by have:=DS hwe.2.2;omega),⟨by omega,λ z hz=>by rw[fF z (.inl hz),kE.2 z (by omega),fD z hz]⟩,?_⟩;simp only[Sq,V,ak,g2,g6,g26,g27,pV]
  .have e0:i=Z l:=by omega
   subst e0;rw[dY]at hD iv;apply W.run 20
   .intro M;simp(disch:=first|decide+kernel|omega)only[ID,js,qM,Aq,V,g27,g28,hlt];rfl
   show W I _ _ _;obtain⟨M,o,hM,hLe,hNu⟩:=Ph (f:=255) h0 ha λ e he=>by have:=(hw e he).2.1;omega
   have hM':h_ 0 (gm [] l S0)=(M,o,[]):=hM;have iv2:ou (Z l) (jb l) (h_ 0 (gm [] l S0)):=(C3 (d:=0) (by omega) _ _ _ iv).1;obtain⟨v,E,⟨g3,h3⟩,rfl,⟨b1,wJ,hE⟩,nE,fE⟩:=Sd (d:=0) hD iv (by omega) (by omega) (by omega);rw[hM']at hE iv2;obtain⟨i1,-,i3,i4,⟨i5,-⟩,i6⟩:=iv2;have i6:=i6 (by have:=iG.2 h0;omega);have i1:Z o.arcs<=Z l:=i1;have i3:Z M+0<=jb l:=i3;have hbl:=hE.H3;obtain⟨y,w,rows,ws,hR,hS,⟨q3,q3b,-⟩,q4,q5,⟨n1,n2,n3,n4⟩,n5,⟨n6,n7⟩,n8⟩:=hE;obtain⟨r1,⟨r2,r3⟩,r4,r5,r6⟩:=id hR;simp only[Ec,List.reverse_nil,lX,fg]at q3 q3b q5;obtain⟨x0,hwx,hx0,hbx⟩:=q5 0 o _ rfl (aV (by omega));have hbm:=ik (l:=wJ) (n:=0) (by omega);generalize wJ[0]'(by omega)=bx at hx0 hbx hbm
   have lw:ax I E.get 233 (.pointer (U ⟨k0+2,0+2,Y⟩))=.ok w:=r1.ld rfl m7 rfl;obtain⟨dd,hd1,hd2⟩:=b9 (t:=241) (p:=aa) (by kernel_rfl);have j1:=hS.idx (tb:=I) (st:=233) (i:=0) m7 vQ (by omega);have j2:=hS.bU (tb:=I) hd1 hd2 vQ hwx;have hone:∀v∈du x0 o,bI v=aa:=by
    intro v hv;simp only[du,cC,en,or_false]at hv;rcases hv with rfl|rfl|rfl|rfl
    .exact(ai.di hx0.1).2
    all_goals rfl
   have sF:bX I (E.alloc (ae 241 [.slice Y 0 0,.bool af,.int .u64 (0:Nat),.int .u8 (0:Nat)])) 241 (.pointer (U ⟨E.next,0,Y⟩)) (.agg ⟨du x0 o⟩)=.ok (E.alloc (ae 241 (du x0 o))):=ep vQ rfl rfl (by simp) hone;have kF:=Kp.alloc E (ae 241 (du x0 o));have vF:=aK E 241 (du x0 o);have nF:(E.alloc (ae 241 (du x0 o))).next=E.next+1:=aA _ _
   generalize E.alloc (ae 241 (du x0 o))=F at sF kF vF nF;obtain⟨v,G,⟨g4,h4⟩,rfl,vG,hxG,nG,fG⟩:=SC vF (hx0.1.same kF.1 (kF.2 bx)) i6 (by omega) ⟨i5.1,λ a ha=>(i5.2 a ha).1⟩;have fEG:∀z,z<E.next->(o.arcs≠ []->z≠bx)->G.get z=E.get z:=λ z hz hh=>by rw[fG z (by omega) (by omega) hh,kF.2 z hz]
   have ne0:o.arcs≠ []->o.arcs.map cD≠ []:=λ hh e=>hh (mH.1 e)
   have hRG:rJ G 235 3 (k0+2) k0 b1 [w] (M.map eJ) rows y:=⟨⟨by have:=r1.1;omega,r1.2.same (fEG _ r1.1 λ hh=>ai.gj hx0.1 r1 (by decide) (ne0 hh))⟩,⟨by omega,by rw[fEG k0 r2 λ hh=>ai.cN hx0.1 r3 (ne0 hh)];exact r3⟩,ai.oS r4 r6 (by omega) λ hr hb=>fEG b1 hb λ hh=>zk r4 hx0.1 hr (ne0 hh) (by decide),r5,r6⟩;obtain⟨v2,H,⟨g5,h5⟩,rfl,b2,y2,rows2,hRH,hcase,hb2,nH,fH⟩:=Sp (by decide) hRG ⟨bx,hxG⟩ (Jt i5) (λ s hs=>(i4 s hs).1) (by simpa[dn]using (show Z o.arcs<=256 by omega)) (by omega);have vP:de G 241 E.next (.var 4) (a_ x0 (dn o)):=by
    obtain⟨cc,a1,a2⟩:=vG.2;refine⟨cc,a1,λ j hj=>?_⟩;rw[a2 j (by simp[a_,du]at hj⊢;omega)];have:du x0 ⟨o.fin,(dn o).out,(dn o).arcs,o.by'⟩=a_ x0 (dn o)++[.int .u8 (o.by'.toNat:Nat)]:=rfl;rw[this,eG hj]
   obtain⟨d4,hd4,hd5⟩:=b9 (t:=239) (p:=aa) (by kernel_rfl);have lP:ax I G.get 239 (.pointer (U ⟨E.next,0,Y⟩))=.ok (.agg ⟨a_ x0 (dn o)⟩):=bU hd4 hd5 (l:=a_ x0 (dn o)) iS vP;have ly:ax I H.get 146 (.pointer (U ⟨k0+2,0,Y⟩))=.ok y2:=hRH.1.ld rfl eK rfl;have hb1:rows≠ []->b1<E.next:=λ _=>n6
   have vAE:VB E 149 A.next (.var 2) [.slice Y 0 0,.int .u64 (0:Nat)]:=⟨by omega,vB.2.same (by rw[fE A.next (by omega),fD A.next (by omega),kC.2 A.next (by omega)])⟩
   have vAH:VB H 149 A.next (.var 2) [.slice Y 0 0,.int .u64 (0:Nat)]:=⟨by omega,vAE.2.same (by rw[fH A.next (by omega) (by omega) (by omega) λ _ e=>n3 (by omega),fEG A.next (by omega) λ _ e=>n5 _ hbm (by omega)])⟩
   have hy2:∃a m c,y2=.slice a m c:=by
    rcases hRH.2.2.1 with⟨rfl,-⟩|⟨_,_,rfl,-⟩<;>exact⟨_,_,_,rfl⟩
   obtain⟨J,sJ,vJ,nJ,fJ⟩:=ja (tb:=I) (t:=149) (l':=[y2,.int .u64 (eh o:Nat)]) (by exact iE) vAH.2 rfl (by simp) (by
    intro v hv;simp only[cC,en,or_false]at hv;obtain⟨_,_,_,rfl⟩:=hy2;rcases hv with rfl|rfl<;>rfl)
   obtain⟨d5,hd6,hd7⟩:=b9 (t:=149) (p:=aa) (by kernel_rfl);have lJ:ax I J.get 149 (.pointer (U ⟨A.next,0,Y⟩))=.ok (.agg ⟨[y2,.int .u64 (eh o:Nat)]⟩):=bU hd6 hd7 (l:=[y2,.int .u64 (eh o:Nat)]) iE vJ;have bd:ef I 149 [(0,y2),(1,.int .u64 (eh o:Nat))]=.ok (.agg ⟨[y2,.int .u64 (eh o:Nat)]⟩):=by
    obtain⟨_,_,_,rfl⟩:=hy2;exact Vy
   simp only[pV]at g2 g6 h3 h4;have z214':=UT;apply W.ie (g3)
   .intro M hM _;simp(disch:=first|decide+kernel|omega)only[js,qM,Aq,V,g6,h3,cL,bW,bV,yX,lw,j1,j2,z214',aX,sF];rfl
   apply W.ie (g4+g5)
   .intro M hM _;simp(config:={maxSteps:=4000000})(disch:=first|decide+kernel|omega|simp only[Wq,V])only[js,qM,Aq,V,h4,au,reduceIte,ak,g6,bW,bV,Jg,uO,lP,h5,Fq,bY []];rfl
   apply W.run 40
   .intro M;simp(disch:=first|decide+kernel|omega)only[js,qM,Aq,V,g2,g6,bW,bV,Jg,CQ,ly,bd,sJ];rfl
   have far:∀{l:List cK} {q:Nat} {x:O},lU E q l x->q≠bx->gV J l x:=λ {l q x} hq hne=>⟨q,(hq.same (G:=J) (by omega) λ hh hlt=>by rw[fJ q (Ne.symm (ai.gj hq.1 vAE (by decide) hh)),fH q (by omega) (Ne.symm (ai.gj hq.1 r1 (by decide) hh)) (Ne.symm (ai.cN hq.1 r3 hh)) λ hr=>zk hq.1 r4 hh hr (by decide),fEG q hlt λ _=>hne]).1⟩
   have old:∀(i:Nat) (s:ay),M[i]?=U s->∃x,rows[i]?=U (a_ x s)/\gV J s.arcs x:=λ i s hs=>by
    obtain⟨x1,q,e1,e2,e3,e4⟩:=q4 i s hs;exact⟨x1,e1,far e2 λ e=>e3 (e▸hbm)⟩
   have hdoc:dx l=(gk M (dn o)).1:=by unfold dx;rw[<-hNu]
   refine⟨by simp,rfl,_,(by simp only[qM,g2,lJ,Aq,V]<;>rfl),⟨y2,by rw[hLe],b2,rows2,ai.oS hRH.2.2.1 hRH.2.2.2.2 (by show H.next<=J.next;omega) λ hr _=>fJ b2 (Ne.symm (ai.gj hRH.2.2.1 vAH (by decide) hr)),by rw[hdoc,hRH.2.2.2.1,aR],λ i s hs=>?_⟩,by show A.next<=J.next;omega,λ z hz=>?_⟩
   .show∃x,rows2[i]?=U (a_ x s)/\gV J s.arcs x;rw[hdoc]at hs;rcases hcase with⟨rfl,hM2⟩|⟨rfl,hM2⟩
    .rw[hM2]at hs;exact old i s hs
    .rw[hM2]at hs;rcases d_ i (Z M)with hi|hi
     .rw[eG hi]at hs;obtain⟨x1,e1,e2⟩:=old i s hs;exact⟨x1,by rw[eG (bg.1 e1).1];exact e1,e2⟩
     .rw[ez hi]at hs;obtain⟨e,rfl⟩:i=Z M/\dn o=s:=by
       cases hq:i-Z M with
       |zero=>rw[hq]at hs;exact⟨by omega,by simpa using hs⟩
       |succ n=>rw[hq]at hs;simp at hs
      refine⟨x0,by rw[ez (by rw[r5,aR];exact hi),r5,aR,e,gZ];rfl,bx,(lU.same (A:=G) ⟨hxG,λ e=>hx0.2 (mH.1 e)⟩ (by omega) λ hh hlt=>?_).1⟩;have hh0:o.arcs.map cD≠ []:=λ e=>hh (by simpa[dn]using e)
      rw[fJ bx (Ne.symm (ai.gj hx0.1 vAE (by decide) hh0)),fH bx hlt (Ne.symm (ai.gj hx0.1 r1 (by decide) hh0)) (Ne.symm (ai.cN hx0.1 r3 hh0)) λ hr=>zk hx0.1 r4 hh0 hr (by decide)]
   .show J.get z=A.get z;rw[fJ z (by omega),fH z (by omega) (by omega) (by omega) λ _ e=>n3 (by omega),fEG z (by omega) λ _ e=>n5 _ hbm (by omega),fE z (by omega),fD z (by omega),kC.2 z (by omega),kB.2 z (by omega),kA.2 z hz]
 .simp only[Sq,V,ak,pV,uU,zT,List.getLast?_nil,Hz,Option.getD_none]
def tF:=cg yA
def Ip:aH:=sub tF [1,0,1,0,0]
def Xy:yA.body=U (.seq (sub tF [0]) (.seq (.seq (sub tF [1,0,0]) (.block 0 (.loop Ip))) (.seq (sub tF [1,1,0]) (sub tF [1,1,1])))):=by kernel_rfl
variable {y:O}
def qe4(h:dJ A M y)(hl:Z M<1000000)(hL:Lay M):∃v A',az I 202 [.agg ⟨[y,.int .u64 k]⟩] A v A'/\(∃n:Nat,v=.tuple ⟨[iN (Z M),.int .i64 n]⟩)/\Kp A A':=by
 refine c_ (aN Tryz.func202) Xy (by kernel_rfl) ?_;have kB:=Kp.alloc A (ae 149 [y,.int .u64 k]);have vB:=aK A 149 [y,.int .u64 k];have hy:=h.self;apply W.q
 .intro M;simp(disch:=omega)only[tF,yA,Aq,V,aX];rfl
 have hB:=h.kp kB;generalize A.alloc (ae 149 [y,.int .u64 k])=B at kB vB hB;have ly:=λ D hD=>(vB.kp (A':=D) hD).l0 eK rfl
 have lB:=ly B (Kp.refl _);have c6:=hB.len;apply W.seq;apply W.q
 .intro M;simp(disch:=decide+kernel)only[tF,yA,Aq,V,jv,lB,c6];rfl
 apply W.block;refine W.up (Z M) (λ i t D=>Kp B D/\∃n,n<=256*i/\Sl t [(1,pw A.next 0),(3,iN n),(7,y),(8,iN (Z M)),(9,.int .i64 i)]) ?_ (a6 _) ⟨Kp.refl _,0,aJ _,?_⟩
 .rintro i t D hi ⟨kD,n,hn,g1,g3,g7,g8,g9,-⟩;have lD:=ly D kD;have hD:=hB.kp kD;have lenD:=hD.len;by_cases hlt:i<Z M
  .have hMi:=aV hlt;obtain⟨l1,-⟩:=hL i _ hMi;obtain⟨x,p,j1,j2,hx,-⟩:=hD.at hMi;generalize M[i]=s at*;have sE:=A6 hx;have kE:=Kp.alloc D (ae 239 (a_ x s));have vE:=aK D 239 (a_ x s);generalize D.alloc (ae 239 (a_ x s))=E at sE kE vE;have a0:=vE.l0 j9 rfl;have lx:=(hx.kp kE).len;have ad:bj .add .i64 ((n:Nat):Int) ((Z s.arcs:Nat):Int)=.ok (iN (n+Z s.arcs)):=fc (cS (by omega));apply W.run 20
   .intro M;simp(disch:=first|decide+kernel|omega)only[Ip,tF,yA,Aq,V,g3,g7,g8,g9,hlt,j1,j2,vS,aX,sE,mm,a0,lx,ad];rfl
   refine⟨hlt,_,_,rfl,kD.trans kE,n+Z s.arcs,by omega,?_⟩;simp only[Sq,V,ak,g1,g7,g8]
  .have e:i=Z M:=by omega
   subst e;apply W.run 20
   .intro M;simp(disch:=decide+kernel)only[Ip,tF,yA,Aq,V,g8,g9,hlt];rfl
   apply W.run 40
   .intro M;simp(disch:=decide+kernel)only[tF,yA,Aq,V,g1,g3,jv,lD,lenD];rfl
   exact⟨by simp,rfl,_,(by simp only[yA,Aq,V]<;>rfl),⟨n,rfl⟩,kB.trans kD⟩
 .simp only[Sq,V,ak]
def Vn(a:cK):∀v∈cD a,bI v=aa:=by
 intro v hv;simp only[cD,cC,en,or_false]at hv;rcases hv with rfl|rfl|rfl<;>rfl
def Tt{D:Mem}(a:cK):bX I (D.alloc (ae 304 [bN 0,uN 0,iN 0])) 304 (pw D.next 0) (.agg ⟨cD a⟩)=.ok (D.alloc (ae 304 (cD a))):=ep Bp rfl rfl (by simp) (Vn a)
def UR:cX I 304=.ok (.agg ⟨[bN 0,uN 0,iN 0]⟩):=by kernel_rfl
def jn:=cg mM
def kj:aH:=sub jn [1,1,1,0,1,0,0]
def Ig:aH:=sub kj [1,1,0,0,1,1,1,0,0]
def Xg:mM.body=U (.seq (sub jn [0]) (.seq (sub jn [1,0]) (.seq (sub jn [1,1,0]) (.seq (.seq (sub jn [1,1,1,0,0]) (.block 0 (.loop kj))) (.seq (sub jn [1,1,1,1,0]) (sub jn [1,1,1,1,1])))))):=by kernel_rfl
def MX:kj=(.seq (sub kj [0]) (.seq (sub kj [1,0]) (.seq (.block 1 (.seq (sub kj [1,1,0,0,0]) (.seq (sub kj [1,1,0,0,1,0]) (.seq (sub kj [1,1,0,0,1,1,0]) (.block 2 (.loop Ig)))))) (sub kj [1,1,1])))):=by kernel_rfl
def qfZ(h:dJ A M y)(hM:M≠ [])(hn:n<=100000)(hl:Z M<1000000)(hL:Lay M):∃v A',az I 151 [.int .i64 n,.agg ⟨[y,.int .u64 k]⟩] A v A'/\v=.bool aa/\Kp A A':=by
 refine c_ (aN Tryz.func151) Xg (by kernel_rfl) ?_;have kB:=Kp.alloc A (ae 149 [y,.int .u64 k]);have vB:=aK A 149 [y,.int .u64 k];have hy:=h.self;apply W.q
 .intro M;simp(disch:=omega)only[jn,mM,Aq,V,aX];rfl
 have hB:=h.kp kB;generalize A.alloc (ae 149 [y,.int .u64 k])=B at kB vB hB;obtain⟨d,hd1,hd2⟩:=b9 (p:=aa) (by kernel_rfl);have lA:ax I B.get 149 (.pointer (U ⟨A.next,0,Y⟩))=.ok (.agg ⟨[y,.int .u64 k]⟩):=bU hd1 hd2 iE vB.2;obtain⟨v,C,⟨g,hg⟩,⟨na,rfl⟩,kC⟩:=qe4 (k:=k) hB hl hL;have hC:=hB.kp kC;have ly:∀D,Kp C D->ax I D.get 146 (.pointer (U ⟨A.next,0,Y⟩))=.ok y:=λ D hD=>(vB.kp (kC.trans hD)).ld rfl eK rfl
 have lC:=ly C (Kp.refl _);have lenC:=hC.len;have hM1:¬Z M=0:=λ e=>hM (eQ.1 e)
 have hn1:¬100000<n:=by omega
 apply W.ie (g)
 .intro M hM _;simp(config:={maxSteps:=4000000})(disch:=first|decide+kernel|omega|simp only[Wq,V])only[jn,mM,Aq,V,lA,hg,dX,dU,au,reduceIte,ak,hM1,hn1,fm,fk];rfl
 apply W.seq;apply W.q
 .intro M;simp(disch:=first|decide+kernel|omega)only[jn,mM,Aq,V,jv,lC,lenC];rfl
 apply W.block;refine W.up (Z M) (λ i t D=>Kp C D/\Sl t [(27,y),(28,.int .i64 (Z M:Nat)),(29,.int .i64 i)]) ?_ (a6 _) ⟨Kp.refl _,?_⟩
 .rintro i t D hi ⟨kD,g27,g28,g29,-⟩;have hD:=hC.kp kD;by_cases hlt:i<Z M
  .have hMi:M[i]?=U M[i]:=aV hlt;obtain⟨l1,l2,l3,l4⟩:=hL i _ hMi;obtain⟨x,p,j1,j2,hx,-⟩:=hD.at hMi;generalize M[i]=s at*;have sE:=A6 hx;have kE:=Kp.alloc D (ae 239 (a_ x s));have vE:=aK D 239 (a_ x s);generalize D.alloc (ae 239 (a_ x s))=E at sE kE vE;have a0:ax I E.get 237 (.pointer (U ⟨D.next,0,Y⟩))=.ok x:=vE.ld rfl j9 rfl;have a1:ax I E.get 4 (.pointer (U ⟨D.next,0+1,Y⟩))=.ok (.bool s.fin):=vE.ld rfl u4 rfl;have a2:ax I E.get 147 (.pointer (U ⟨D.next,0+2,Y⟩))=.ok (.int .u64 s.out):=vE.ld rfl eE rfl;have hxE:=hx.kp kE;have lx:=hxE.len;have hl1:¬256<Z s.arcs:=by omega
   rw[MX];apply W.q2
   .intro M _;simp(disch:=first|decide+kernel|omega)only[kj,jn,mM,Aq,V,g28,g29,hlt];rfl
   apply W.seq;apply W.block;apply W.q
   .intro M;simp(disch:=first|decide+kernel|omega)only[kj,jn,mM,Aq,V,g27,g29,j1,j2,vS,aX,sE];rfl
   apply W.seq;refine W.to (n:=66) (λ t D'=>D'=E/\Sl t [(7,.int .i64 i),(8,.pointer (U ⟨D.next,0,Y⟩)),(27,y),(28,.int .i64 (Z M:Nat)),(29,.int .i64 i)]) ?_ ?_
   .cases hf:s.fin with
    |true=>
     rw[hf]at a1;apply W.run 20
     .intro M;simp(config:={maxSteps:=4000000})(disch:=first|decide+kernel|omega|simp only[Wq,V])only[kj,jn,mM,Aq,au,reduceIte,V,ak,mm,jw,a0,a1,lx,hl1,fm,fk];rfl
     refine⟨rfl,_,_,rfl,rfl,?_⟩;simp only[Sq,V,ak,g27,g28,g29]
    |false=>
     rw[hf]at a1;have ho:=l2 hf;rw[ho]at a2;apply W.run 20
     .intro M;simp(config:={maxSteps:=4000000})(disch:=first|decide+kernel|omega|simp only[Wq,V])only[kj,jn,mM,Aq,au,reduceIte,V,ak,mm,jw,uL,a0,a1,a2,lx,hl1,fm,fk];rfl
     refine⟨rfl,_,_,rfl,rfl,?_⟩;simp only[Sq,V,ak,g27,g28,g29]
   .rintro t D' ⟨rfl,g7,g8,g27,g28,g29,-⟩;apply W.seq;apply W.run 20
    .intro M;simp(disch:=first|decide+kernel|omega)only[kj,jn,mM,Aq,V,g8,mm,a0,lx];rfl
    apply W.block;refine W.up (Z s.arcs) (λ j t D''=>Kp D' D''/\Sl t [(7,.int .i64 i),(27,y),(28,.int .i64 (Z M:Nat)),(29,.int .i64 i),(49,x),(50,.int .i64 (Z s.arcs:Nat)),(51,.int .i64 j)]) ?_ (a6 _) ⟨Kp.refl _,?_⟩
    .rintro j t F hj ⟨kF,g7,g27,g28,g29,g49,g50,g51,-⟩;by_cases hlt2:j<Z s.arcs
     .have hsj:s.arcs[j]?=U s.arcs[j]:=aV hlt2;obtain⟨q,q1,q2⟩:=(hxE.kp kF).at hsj;have ht:=(l4 _ (ik hlt2)).1;have ht2:¬i<=s.arcs[j].to:=by omega
      have sG:=Tt (D:=F) s.arcs[j];have kG:=Kp.alloc F (ae 304 (cD s.arcs[j]));have vG:=aK F 304 (cD s.arcs[j]);generalize F.alloc (ae 304 (cD s.arcs[j]))=G at sG kG vG;have b2:ax I G.get 3 (.pointer (U ⟨F.next,0+2,Y⟩))=.ok (.int .i64 (s.arcs[j].to:Int)):=vG.ld rfl u3 rfl;apply W.run 20
      .intro M;simp(config:={maxSteps:=4000000})(disch:=first|decide+kernel|omega|simp only[Wq,V])only[Ig,kj,jn,mM,Aq,au,reduceIte,V,ak,g7,g49,g50,g51,hlt2,q1,q2,UR,aX,sG,uM,b2,iZ,hZ,ht2];rfl
      refine⟨hlt2,_,_,rfl,kF.trans kG,?_⟩;simp only[Sq,V,ak,g7,g27,g28,g29,g49,g50]
     .have e:j=Z s.arcs:=by omega
      subst e;apply W.run 20
      .intro M;simp(disch:=first|decide+kernel|omega)only[Ig,kj,jn,mM,Aq,V,g50,g51,hlt2];rfl
      show W I (sub kj [1,1,1]) _ _;apply W.run 20
      .intro M;simp(disch:=first|decide+kernel|omega)only[kj,jn,mM,Aq,V,g29];rfl
      refine⟨hlt,_,_,rfl,kD.trans (kE.trans kF),?_⟩;simp only[Sq,V,ak,g27,g28]
    .simp only[Sq,V,ak,g7,g27,g28,g29]
  .have e:i=Z M:=by omega
   subst e;rw[MX];apply W.q
   .intro M;simp(disch:=first|decide+kernel|omega)only[kj,jn,mM,Aq,V,g28,g29,hlt];rfl
   apply W.seq;apply W.run 20
   .intro M;simp(disch:=first|decide+kernel|omega)only[kj,jn,mM,Aq,V];rfl
   apply W.seq;apply W.run 20
   .intro M;simp(disch:=first|decide+kernel|omega)only[jn,mM,Aq,V];rfl
   apply W.run 20
   .intro M;simp(disch:=first|decide+kernel|omega)only[jn,mM,Aq,V];rfl
   exact⟨by simp,rfl,_,(by simp only[mM,Aq,V]<;>rfl),rfl,kB.trans (kC.trans kD)⟩
 .simp only[Sq,V,ak]
def Wr(A:Mem)(p b:Nat)(w:List UInt8)(y:O)(k:Nat):Prop:=∃x,VB A 248 p (.var 3) [x,y,.int .u64 k]/\mL A 5 b (dw w) x/\b≠p/\(w≠ []->b<A.next)
def Fk:bM I 246 (pw b o) 0=.ok (pw b o):=by kernel_rfl
def yY:bM I 248 (pw b o) 0=.ok (pw b o):=by kernel_rfl
def Zu:bM I 248 (pw b o) 1=.ok (pw b (o+1)):=by kernel_rfl
variable {l:List O}
def mL.cP{e:aj}{x:O}(h:mL A e b l x):Am.cP 100 x x=aa:=by
 rcases h with⟨rfl,-⟩|⟨-,rfl,-⟩
 .rfl
 .exact AX _ _ _ _
def Wr.more{cs:List UInt8}{z:O}{xt:aj}{xd:TypeDesc}(h:Wr A p b w y k)(kB:Kp A B)(hxt:I.aB xt=U xd)(hxd:jx xd=af)(h0:0<Z cs)(hl:Z w+Z cs<16000000)(hz:fu z=.ok (Z cs))(hf:ib B.get 1 (Z cs) z=.ok (dw cs)):
 ∃x x' C D,(∀E:Mem,A.next<=E.next->E.get p=A.get p->ax I E.get 123 (pw p 0)=.ok x)/\Am.cP 100 x x=aa/\dm I B 123 xt x z=.ok (x',C)/\bX I C 123 (pw p 0) x'=.ok D/\Wr D p B.next (w++cs) y k/\Grow p b A B.next D:=by
 obtain⟨x,hV,hS,hbp,hbn⟩:=h;obtain⟨ti,t1,t2⟩:=GJ;obtain⟨x',C,e1,e2,e3,e4⟩:=(hS.same kB.1 (kB.2 b)).tu j_ hxt hxd G0 t1 (by omega) (by omega) (by rw[jk];omega) h0 hz hf (jk cs) (λ v hv=>by
  obtain⟨_,-,rfl⟩:=dA.1 hv;rfl)
 have hp:=hV.1;have hn:=kB.1;obtain⟨D,sD,vD,nD,fD⟩:=df (o:=0) MN ((hV.kp kB).2.same (e4 p (Ne.symm hbp) (by omega))) (by simp) e2.dy.cells e2.dy.one;refine⟨x,x',C,D,λ E hn hE=>VB.ld ⟨dc hp hn,hV.2.same hE⟩ rfl j_ rfl,hS.cP,e1,sD,⟨x',⟨by omega,vD⟩,?_,by omega,λ _=>by omega⟩,⟨by omega,by omega,λ z hz h1 h2=>by rw[fD z h1,e4 z h2 (by omega),kB.2 z hz]⟩⟩;rw[H7];exact e2.same (by omega) λ _=>fD _ (by omega)
def qgB{x:O}{l:List Nat}(h:Wr A p b w y k)(hN:tc A l x)(hl:Z l<1000)(h0:l≠ [])(hw:∀n∈l,n<18446744073709551616)(hwl:Z w<1000000):
 ∃v D b',az I 152 [pw p 0,x] A v D/\v=cL/\Wr D p b' (w++fS l) y k/\Grow p b A b' D:=by
 obtain⟨v,B,⟨g,hg⟩,rfl,kB⟩:=SM hN hl hw;have hp:p<A.next:=by obtain⟨_,hV,-⟩:=h;exact hV.1
 have hle:=F2 l hw;have hpos:0<(fS l).length:=by
  obtain⟨n,r,rfl⟩:=Hh h0;have:=Kc n;unfold fS;rw[j',aU];omega
 obtain⟨z,z',C,D,e1,e2,e3,e4,e5,e6⟩:=h.more kB u9 rfl hpos (by omega) (MJ _) HW;have l1:=e1 A (aJ _) rfl;have l2:=e1 B kB.1 (kB.2 p hp);refine⟨cL,D,_,?_,rfl,e5,e6⟩;refine bQ (g) 60 (aN Tryz.func152) (by kernel_rfl) λ M hM=>?_
 simp(disch:=first|decide+kernel|omega|simp only[Wq,V])only[Tryz.f152,Aq,au,reduceIte,V,ak,bW,bV,Fk,l1,l2,hg,e2,e3,e4,cL,Fq,bY [(4,6)]]<;>rfl
def qcG(A:Mem)(l:List Nat):tc (A.alloc (ae 147 (l.map λ n:Nat=>Value.int .u64 n))) l (.slice (U ⟨A.next,0,Y⟩) (Z l) (2*Z l)):=by
 refine⟨A.next,.inr ⟨.var (Z l),2*Z l,by rw[aR],by rw[aA];omega,?_,λ c hc=>by obtain⟨_,-,rfl⟩:=dA.1 hc;rfl,.inl (by rw[aR])⟩⟩;have:=sV A 147 (l.map λ n:Nat=>Value.int .u64 n);rw[aR]at this;have e:∀l:List Nat,(l.map qj).flatten=l.map λ n:Nat=>Value.int .u64 n:=λ l=>by
  induction l with
  |nil=>rfl
  |cons n l ih=>rw[eU,s9,ih];rfl
 rw[e];exact this
def Wr.kp(h:Wr A p b w y k)(kB:Kp A B):Wr B p b w y k:=by
 obtain⟨x,h1,h2,h3,h4⟩:=h;exact⟨x,h1.kp kB,h2.same kB.1 (kB.2 b),h3,λ h=>dc (h4 h) kB.1⟩
def Dw(l:List Nat)(h:Wr A p b w y k)(hl:Z l<1000)(h0:l≠ [])(hw:∀n∈l,n<18446744073709551616)(hwl:Z w<1000000):
 ∃D b',az I 152 [pw p 0,.slice (U ⟨A.next,0,Y⟩) (Z l) (2*Z l)] (A.alloc (ae 147 (l.map λ n:Nat=>Value.int .u64 n))) cL D/\Wr D p b' (w++fS l) y k/\Grow p b A b' D:=by
 have kB:=Kp.alloc A (ae 147 (l.map λ n:Nat=>Value.int .u64 n));obtain⟨v,D,b',h1,rfl,h3,h4⟩:=qgB (h.kp kB) (qcG A l) hl h0 hw hwl;exact⟨D,b',h1,h3,⟨dp kB.1 h4.n,dp kB.1 h4.r,λ z hz e1 e2=>by rw[h4.g z (dc hz kB.1) e1 e2,kB.2 z hz]⟩⟩
variable {b':Nat}
def Grow.kp{A0:Mem}(h:Grow p b A b' B)(k:Kp A0 A)(hp:A0.next<=p)(hb:A0.next<=b):Kp A0 B/\A0.next<=b':=⟨⟨dp k.1 h.n,λ z hz=>by rw[h.g z (dc hz k.1) (by omega) (by omega),k.2 z hz]⟩,dp k.1 h.r⟩
def ML{a:Int}:eo I 196 1 [(0,.int .u64 a)]=.ok (ae 147 [.int .u64 a],.dy 1 2):=by kernel_rfl
def HZ{a b:Int}:eo I 196 2 [(0,.int .u64 a),(1,.int .u64 b)]=.ok (ae 147 [.int .u64 a,.int .u64 b],.dy 2 4):=by kernel_rfl
variable {i:Nat}
def dJ.Vt{s:ay}(h:dJ A M y)(hi:M[i]?=U s):
 ∃x p,dQ I 146 y (.int .i64 i)=.ok p/\∀A',Kp A A'->ax I A'.get 239 p=.ok (.agg ⟨a_ x s⟩)/\gV A' s.arcs x:=by
 obtain⟨b,rows,h1,h2,h3⟩:=h;obtain⟨x,e1,e2⟩:=h3 i s hi;obtain⟨d,hd1,hd2⟩:=b9 (by kernel_rfl);exact⟨x,_,ai.idx h1 eK iS (bg.1 e1).1,λ A' k=>⟨ai.bU (h1.same k.1 (k.2 b)) hd1 hd2 iS e1,e2.kp k⟩⟩
def pv:=cg tj
def Ih:aH:=sub pv [1,1,1,1,0,0]
def Xh:tj.body=U (.seq (sub pv [0]) (.seq (sub pv [1,0]) (.seq (.seq (sub pv [1,1,0,0]) (sub pv [1,1,0,1])) (.seq (sub pv [1,1,1,0]) (.block 0 (.loop Ih)))))):=by kernel_rfl
def qgD{A0:Mem}{s:ay}(h0:dJ A0 M y)(k0:Kp A0 A)(hp:A0.next<=p)(hb:A0.next<=b)(h:Wr A p b w y k)(hi:M[i]?=U s)(hL:Lay M)(hl:Z M<1000000)(hw0:w≠ [])(hwl:(w++nU i s).length<900000):
 ∃v D,az I 153 [.pointer (U ⟨p,0,Y⟩),.int .i64 i] A v D/\v=cL/\∃b',Wr D p b' (w++nU i s) y k/\Grow p b A b' D:=by
 obtain⟨l1,l2,l3,l4⟩:=hL i s hi;have hil:=(bg.1 hi).1;have hpA:p<A.next:=by obtain⟨_,hV,-⟩:=h;exact hV.1
 have hbA:b<A.next:=by obtain⟨_,-,-,-,h⟩:=h;exact h hw0
 have ly:ax I A.get 146 (.pointer (U ⟨p,0+1,Y⟩))=.ok y:=by obtain⟨_,hV,-⟩:=h;exact hV.ld rfl eK rfl
 obtain⟨x,q,j1,j⟩:=h0.Vt hi;obtain⟨j2,hx⟩:=j A k0;refine c_ (aN Tryz.func153) Xh (by kernel_rfl) ?_;have sB:=A6 hx;have kB:=Kp.alloc A (ae 239 (a_ x s));have vB:=aK A 239 (a_ x s);have m1:bj .mul .i64 ((2:Nat):Int) ((Z s.arcs:Nat):Int)=.ok (.int .i64 (2*Z s.arcs:Nat)):=Di (cS (by omega));have c1:=ia (tb:=I) (s:=3) (d:=147) (k:=.i64) (n:=2*Z s.arcs) (by rw[u3];rfl) eE (iz (by omega));apply W.q
 .intro M;simp(disch:=first|decide+kernel|omega)only[pv,tj,Aq,V,bW,bV,Zu,jv,ly,j1,j2,vS,aX,sB];rfl
 generalize A.alloc (ae 239 (a_ x s))=B at sB kB vB;have h1:=h.kp kB;have kAB:=k0.trans kB;have a0:∀E:Mem,B.next<=E.next->E.get A.next=B.get A.next->ax I E.get 237 (.pointer (U ⟨A.next,0,Y⟩))=.ok x:=λ E hn hE=>VB.ld (tb:=I) ⟨dc vB.1 hn,vB.2.same hE⟩ rfl j9 rfl
 have lB:=a0 B (aJ _) rfl;have a1:ax I B.get 4 (.pointer (U ⟨A.next,0+1,Y⟩))=.ok (.bool s.fin):=vB.ld rfl u4 rfl;have a2:ax I B.get 147 (.pointer (U ⟨A.next,0+2,Y⟩))=.ok (.int .u64 s.out):=vB.ld rfl eE rfl;have lx:=(hx.kp kB).len;have hw1:Z w<900000:=by rw[aU]at hwl;omega
 apply W.q
 .intro M;simp(disch:=first|decide+kernel|omega)only[pv,tj,Aq,V,mm,lB,lx,m1,c1];rfl
 apply W.seq;refine W.to (n:=71) (λ t D=>∃b',Wr D p b' (w++pD s) y k/\Grow p b B b' D/\Sl t [(0,.pointer (U ⟨p,0,Y⟩)),(1,.int .i64 i),(4,.pointer (U ⟨A.next,0,Y⟩))]) ?_ ?_
 .apply W.seq;apply W.run 20
  .intro M;simp(disch:=first|decide+kernel|omega)only[pv,tj,Aq,V,jw,a1];rfl
  show W I _ _ _;cases hf:s.fin with
  |true=>
   have a3:bj .add .u64 ((2*Z s.arcs:Nat):Int) ((1:Nat):Int)=.ok (.int .u64 (2*Z s.arcs+1:Nat)):=fc (iz (by omega));obtain⟨D,b',⟨g,hg⟩,hD,hG⟩:=Dw [2*Z s.arcs+1,s.out] h1 (by simp) (by simp) (by simp;omega) (by omega);simp only[eU,rB,cd,dL,ak,Ek]at hg;apply W.ct (g) 20
   .intro M hM;simp(config:={maxSteps:=4000000})(disch:=first|decide+kernel|omega|simp only[Wq,V])only[pv,tj,Aq,au,reduceIte,V,ak,bW,bV,yY,uL,a2,a3,HZ,hg,Fq,bY []];rfl
   refine⟨rfl,_,D,rfl,b',?_,hG,?_⟩
   .have:pD s=fS [2*Z s.arcs+1,s.out]:=by unfold pD fS;rw[aC hf];simp
    rw[this];exact hD
   .simp only[Sq,V,ak]
  |false=>
   obtain⟨D,b',⟨g,hg⟩,hD,hG⟩:=Dw [2*Z s.arcs] h1 (by simp) (by simp) (by simp;omega) (by omega);simp only[eU,rB,cd,dL,ak,Ek]at hg;apply W.ct (g) 20
   .intro M hM;simp(disch:=first|decide+kernel|omega)only[pv,tj,Aq,V,bW,bV,yY,ML,hg];rfl
   refine⟨rfl,_,D,rfl,b',?_,hG,?_⟩
   .have:pD s=fS [2*Z s.arcs]:=by unfold pD fS;rw[aq (by simp[hf])];simp
    rw[this];exact hD
   .simp only[Sq,V,ak]
 .rintro t D ⟨b1,hW1,hG1,g0,g1,g4,-⟩;obtain⟨kD,hb1⟩:=hG1.kp kAB hp hb;have lD:=a0 D hG1.n (hG1.g _ vB.1 (by omega) (by omega));have lxD:=(j D kD).2.len;apply W.q
  .intro M;simp(disch:=first|decide+kernel|omega)only[pv,tj,Aq,V,g4,mm,lD,lxD];rfl
  apply W.block;refine W.up (Z s.arcs) (λ e t F=>∃b2,Wr F p b2 (w++pD s++(s.arcs.take e).flatMap (jh i)) y k/\Grow p b A b2 F/\Sl t [(0,.pointer (U ⟨p,0,Y⟩)),(1,.int .i64 i),(39,x),(40,.int .i64 (Z s.arcs:Nat)),(41,.int .i64 e)]) ?_ (a6 _) ⟨b1,by simpa using hW1,⟨dp kB.1 hG1.n,dp kB.1 hG1.r,λ z hz e1 e2=>by rw[hG1.g z (dc hz kB.1) e1 e2,kB.2 z hz]⟩,?_⟩
  .rintro e t F he ⟨b2,hW2,hG2,g0,g1,g39,g40,g41,-⟩;by_cases hlt:e<Z s.arcs
   .have hse:s.arcs[e]?=U s.arcs[e]:=aV hlt;obtain⟨kF,hb2⟩:=hG2.kp k0 hp hb;obtain⟨p2,j3,j4⟩:=(j F kF).2.at hse;obtain⟨ht,ho⟩:=l4 _ (ik hlt);have hT:=ZV (i:=i) hse;have hfl:=OF (i:=i) s.arcs (e+1);rw[hT]at hfl;generalize hz:(s.arcs.take e).flatMap (jh i)=z at*;have hle1:(w++pD s++(z++jh i s.arcs[e])).length<900000:=by
     unfold nU at hwl;simp only[aU]at hwl hfl⊢;omega
    generalize s.arcs[e]=a at*;simp only[aU]at hle1;have sG:=Tt (D:=F) a;have kG:=Kp.alloc F (ae 304 (cD a));have vG:=aK F 304 (cD a);generalize hGG:F.alloc (ae 304 (cD a))=G at sG kG vG;have hWG:=hW2.kp kG;have hpF:p<F.next:=by obtain⟨_,hV,-⟩:=hW2;exact hV.1
    have kH:=Kp.alloc G (ae 5 [.int .u8 (a.byte.toNat:Nat)]);have vH:=aK G 5 [.int .u8 (a.byte.toNat:Nat)];have c0:ax I G.get 5 (.pointer (U ⟨F.next,0,Y⟩))=.ok (.int .u8 (a.byte.toNat:Nat)):=vG.ld rfl u5 rfl;have bs:eo I 123 1 [(0,.int .u8 (a.byte.toNat:Nat))]=.ok (ae 5 [.int .u8 (a.byte.toNat:Nat)],.dy 1 2):=Co;have hf1:ib (G.alloc (ae 5 [.int .u8 (a.byte.toNat:Nat)])).get 1 [a.byte].length (.slice (U ⟨G.next,0,Y⟩) 1 2)=.ok (dw [a.byte]):=Ao vH.2;obtain⟨v1,v2,H,qjV,e1,e2,e3,e4,e5,e6⟩:=hWG.more (cs:=[a.byte]) (z:=.slice (U ⟨G.next,0,Y⟩) 1 2) kH j_ rfl (by simp) (by simp;omega) rfl hf1;have l1:=e1 G (aJ _) rfl;have l1':=e1 _ kH.1 (kH.2 p (by have:=kG.1;omega));have c3:∀E:Mem,G.next<=E.next->E.get F.next=G.get F.next->ax I E.get 147 (.pointer (U ⟨F.next,0+1,Y⟩))=.ok (.int .u64 a.out)/\ax I E.get 3 (.pointer (U ⟨F.next,0+2,Y⟩))=.ok (.int .i64 a.to):=λ E hn hE=>⟨VB.ld (tb:=I) ⟨dc vG.1 hn,vG.2.same hE⟩ rfl eE rfl,VB.ld (tb:=I) ⟨dc vG.1 hn,vG.2.same hE⟩ rfl u3 rfl⟩
    have hbF:b2<F.next:=by obtain⟨_,-,-,-,h⟩:=hW2;exact h (by simp[hw0])
    obtain⟨c4,c5⟩:=c3 qjV e6.n (e6.g _ vG.1 (by omega) (by omega));have su:bj .sub .i64 ((i:Nat):Int) ((a.to:Nat):Int)=.ok (.int .i64 (i-a.to:Nat)):=gS (by omega) (cS (by omega));have cv:=ia (tb:=I) (s:=3) (d:=147) (k:=.i64) (n:=i-a.to) (by rw[u3];rfl) eE (iz (by omega));obtain⟨J,b3,⟨g,hg⟩,hJ,hGJ⟩:=Dw [a.out,i-a.to] e5 (by simp) (by simp) (by simp;omega) (by simp only[aU,fg];omega);simp only[eU,rB,cd,dL,ak,Ek]at hg;apply W.ct (g) 20
    .intro M hM;simp(config:={maxSteps:=4000000})(disch:=first|decide+kernel|omega|simp only[Wq,V])only[Ih,pv,tj,Aq,au,reduceIte,V,ak,g0,g1,g39,g40,g41,hlt,j3,j4,UR,aX,hGG,sG,bW,bV,yY,Fk,Ap,yW,uM,l1,l1',c0,bs,e2,e3,e4,c4,c5,su,cv,HZ,hg,cL,Fq,bY []];rfl
    refine⟨hlt,_,J,rfl,b3,?_,?_,?_⟩
    .rw[hT];have:w++pD s++(z++jh i a)=w++pD s++z++[a.byte]++fS [a.out,i-a.to]:=by unfold jh fS;simp
     rw[this];exact hJ
    .have hFG:Grow p b2 F _ qjV:=⟨dp kG.1 e6.n,dp kG.1 e6.r,λ z hz e1 e2=>by rw[e6.g z (dc hz kG.1) e1 e2,kG.2 z hz]⟩;exact hG2.trans (hFG.trans hGJ)
    .simp only[Sq,V,ak,g0,g1,g39,g40]
   .have hee:e=Z s.arcs:=by omega
    subst hee;apply W.run 20
    .intro M;simp(disch:=first|decide+kernel|omega)only[Ih,pv,tj,Aq,V,g40,g41,hlt];rfl
    rw[dY]at hW2;exact⟨by simp,rfl,_,(by simp only[tj,Aq,V]<;>rfl),rfl,b2,by unfold nU;rw[<-jD];exact hW2,hG2⟩
  .simp only[Sq,V,ak,g0,g1]
def kv:=cg qN
def IF:aH:=sub kv [1,1,1,1,1,0,1,0,0]
def XY:qN.body=U (.seq (sub kv [0]) (.seq (sub kv [1,0]) (.seq (sub kv [1,1,0]) (.seq (sub kv [1,1,1,0]) (.seq (sub kv [1,1,1,1,0]) (.seq (.seq (sub kv [1,1,1,1,1,0,0]) (.block 0 (.loop IF))) (.seq (sub kv [1,1,1,1,1,1,0]) (.seq (sub kv [1,1,1,1,1,1,1,0]) (sub kv [1,1,1,1,1,1,1,1]))))))))):=by kernel_rfl
def VS{k:Int}:ef I 248 [(1,.agg ⟨[y,.int .u64 k]⟩)]=.ok (.agg ⟨[.slice Y 0 0,y,.int .u64 k]⟩):=by kernel_rfl
def Rw(h:i<=Z M):([67,83,1]++fS [n,Z M]++iR 0 (M.take i)).length+(cZ k).length<=(nR n M k).length:=by
 have:=TI M 0 i;unfold nR fS;simp only[aU,j',List.flatMap_nil,kR];omega
def qf1(h:dJ A M y)(hM:M≠ [])(hn:n<=100000)(hl:Z M<1000000)(hL:Lay M)(hk:k<18446744073709551616)(hb:(nR n M k).length<900000):
 ∃v A',az I 95 [.int .i64 n,.agg ⟨[y,.int .u64 k]⟩] A v A'/\v=.tuple ⟨[ag (crc.ek (nR n M k)),iN 0]⟩/\Kp A A':=by
 refine c_ (aN Tryz.func95) XY (by kernel_rfl) ?_;have kB:=Kp.alloc A (ae 149 [y,.int .u64 k]);have vB:=aK A 149 [y,.int .u64 k];have hy:=h.self;apply W.q
 .intro M;simp(disch:=omega)only[kv,qN,Aq,V,aX];rfl
 have hB:=h.kp kB;have nB:=aA A (ae 149 [y,.int .u64 k]);generalize A.alloc (ae 149 [y,.int .u64 k])=B at kB vB hB nB;obtain⟨d,hd1,hd2⟩:=b9 (t:=149) (p:=aa) (by kernel_rfl);have lA:∀D,Kp B D->ax I D.get 149 (pw A.next 0)=.ok (.agg ⟨[y,.int .u64 k]⟩):=λ D hD=>bU hd1 hd2 iE (vB.kp hD).2
 have lB:=lA B (Kp.refl _);obtain⟨v,C,⟨g,hg⟩,rfl,kC⟩:=qfZ (k:=k) hB hM hn hl hL;have lC:=lA C kC;apply W.seq;apply W.ct (g) 40
 .intro M hM;simp(disch:=first|decide+kernel|omega)only[kv,qN,Aq,V,lB,hg];rfl
 show W I _ _ _;have kD:=Kp.alloc C (ae 248 [.slice Y 0 0,y,.int .u64 k]);have vD:=aK C 248 [.slice Y 0 0,y,.int .u64 k];apply W.q
 .intro M;simp(disch:=first|decide+kernel|omega)only[kv,qN,Aq,V,lC,VS,aX];rfl
 have hW:Wr (C.alloc (ae 248 [.slice Y 0 0,y,.int .u64 k])) C.next (C.next+1) [] y k:=⟨.slice Y 0 0,vD,.inl ⟨rfl,rfl⟩,by omega,λ h=>aZ rfl h⟩
 generalize C.alloc (ae 248 [.slice Y 0 0,y,.int .u64 k])=D at kD vD hW;have kAD:=kB.trans (kC.trans kD);have nD:B.next<=C.next:=kC.1
 have hcs:ib D.get 1 ([67,83,1]:List UInt8).length (ag [67,83,1])=.ok (dw [67,83,1]):=HW;obtain⟨v1,v2,E,F,e1,e2,e3,e4,e5,e6⟩:=hW.more (cs:=[67,83,1]) (z:=ag [67,83,1]) (Kp.refl _) u9 rfl (by simp) (by simp) rfl hcs;have l1:=e1 D (aJ _) rfl;have kBF:=e6.kp (kC.trans kD) nD (by omega);have b1:∀G,Kp B G->ax I G.get 146 (pw A.next 0)=.ok y/\ax I G.get 147 (pw A.next (0+1))=.ok (.int .u64 k):=λ G k=>⟨(vB.kp k).ld rfl eK rfl,(vB.kp k).ld rfl eE rfl⟩
 apply W.q
 .intro M;simp(disch:=first|decide+kernel|omega)only[kv,qN,Aq,V,bW,bV,yY,Fk,l1,Za,e3,e4];rfl
 have cn:=ia (tb:=I) (s:=3) (d:=147) (k:=.i64) (n:=n) (by rw[u3];rfl) eE (iz (by omega));have cl:=ia (tb:=I) (s:=3) (d:=147) (k:=.i64) (n:=Z M) (by rw[u3];rfl) eE (iz (by omega));have fu:=(hB.kp kBF.1).len;have lyF:=(b1 F kBF.1).1;obtain⟨G,b',⟨g,hg⟩,hG,hGG⟩:=Dw [n,Z M] e5 (by simp) (by simp) (by simp;omega) (by simp);simp only[eU,rB,cd,dL,ak,Ek]at hg;apply W.qG (g)
 .intro M hM;simp(config:={maxSteps:=4000000})(disch:=first|decide+kernel|omega|simp only[Wq,V])only[kv,qN,Aq,au,reduceIte,V,ak,bW,bV,yY,jv,lyF,fu,cn,cl,HZ,hg,Fq,bY []];rfl
 obtain⟨kG,hb'⟩:=hGG.kp kBF.1 nD kBF.2;have lenG:=(hB.kp kG).len;have lyG:=(b1 G kG).1;apply W.seq;apply W.q
 .intro M;simp(disch:=first|decide+kernel|omega)only[kv,qN,Aq,V,jv,lyG,lenG];rfl
 apply W.block;refine W.up (Z M) (λ i t H=>∃b2,Wr H C.next b2 ([67,83,1]++fS [n,Z M]++iR 0 (M.take i)) y k/\Kp B H/\B.next<=b2/\Sl t [(3,pw A.next 0),(6,pw C.next 0),(38,iN (Z M)),(39,.int .i64 i)]) ?_ (a6 _) ⟨b',by simpa[iR]using hG,kG,hb',?_⟩
 .rintro i t H hi ⟨b2,hH,kH,hb2,g3,g6,g38,g39,-⟩;by_cases hlt:i<Z M
  .have hMi:M[i]?=U M[i]:=aV hlt;have hT:=qh8 hMi;have hle:=Rw (n:=n) (k:=k) (show i+1<=Z M by omega);rw[hT]at hle;obtain⟨v,qjV,⟨g,hg⟩,rfl,b3,hI,hGI⟩:=qgD hB kH nD hb2 hH hMi hL hl (by simp) (by rw[jD];omega);obtain⟨kI,hb3⟩:=hGI.kp kH nD hb2;apply W.ct (g) 20
   .intro M hM;simp(disch:=first|decide+kernel|omega)only[IF,kv,qN,Aq,V,g6,g38,g39,hlt,hg];rfl
   refine⟨hlt,_,qjV,rfl,b3,?_,kI,hb3,?_⟩
   .rw[hT,<-jD];exact hI
   .simp only[Sq,V,ak,g3,g6,g38]
  .have e:i=Z M:=by omega
   subst e;rw[dY]at hH;have hle:=Rw (M:=M) (n:=n) (k:=k) (aJ _);rw[dY]at hle;apply W.run 20
   .intro M;simp(disch:=first|decide+kernel|omega)only[IF,kv,qN,Aq,V,g38,g39,hlt];rfl
   show W I _ _ _;have lk:=(b1 H kH).2;obtain⟨qjV,b3,⟨g,hg⟩,hI,hGI⟩:=Dw [k] hH (by simp) (by simp) (by simpa using hk) (by omega);simp only[eU,rB,cd,dL,ak,Ek]at hg;obtain⟨kI,-⟩:=hGI.kp kH nD hb2;apply W.qG (g)
   .intro M hM;simp(config:={maxSteps:=4000000})(disch:=first|decide+kernel|omega|simp only[Wq,V])only[kv,qN,Aq,au,reduceIte,V,ak,g3,g6,bW,bV,yY,Fg,lk,ML,hg,Fq,bY []];rfl
   obtain⟨x,hV,hS,-⟩:=hI;have lx:ax I qjV.get 123 (pw C.next 0)=.ok x:=hV.ld rfl j_ rfl;have e: [67,83,1]++fS [n,Z M]++iR 0 M++fS [k]=nR n M k:=by unfold nR fS;simp
   rw[e]at hS;have cs:gN I qjV.get 123 9 x=.ok (ag (nR n M k)):=K_ hS.dy;have ks:=λ ih=>PA (ih:=ih) (A:=qjV) hb
   apply W.run 40
   .intro M;simp(disch:=first|decide+kernel|omega)only[kv,qN,Aq,V,g6,bW,bV,yY,Fk,lx,F3,cs,ks];rfl
   exact⟨by simp,rfl,_,(by simp only[qN,Aq,V]<;>rfl),rfl,kB.trans kI⟩
 .simp only[Sq,V,ak]
def jP:=cg Tryz.f47
def It:Tryz.f47.body=U (.seq (sub jP [0]) (.seq (sub jP [1,0]) (.seq (sub jP [1,1,0]) (.seq (sub jP [1,1,1,0]) (.seq (sub jP [1,1,1,1,0]) (sub jP [1,1,1,1,1])))))):=by kernel_rfl
def qfY{l:List aD}{x:O}(h:dK A l x)(hl:oX l):
 ∃v A',az I 47 [x] A v A'/\v=.tuple ⟨[ag (crc.ek (iw l)),iN 0]⟩/\Kp A A':=by
 refine c_ (aN Tryz.func47) It (by kernel_rfl) ?_;obtain⟨o1,o2,o3,o4,o5,o6,o7,o8,o9⟩:=id hl;have h0:¬Z l=0:=λ e=>o1 (eQ.1 e)
 have h2:¬100000<Z l:=by omega
 have he:∀t:T O,ev t (.const (.string ⟨#[]⟩))=.ok (ag []):=λ _=>rfl
 have hlen:=h.len;obtain⟨v,B,⟨g1,h1⟩,⟨y,rfl,hS⟩,kB⟩:=qfV h o1 o2 o3 o4.2 (by omega);have kC:=Kp.alloc B (ae 149 [y,uN (least l)]);have sC:bX I (B.alloc (ae 149 [.slice Y 0 0,uN 0])) 149 (pw B.next 0) (.agg ⟨[y,uN (least l)]⟩)=.ok (B.alloc (ae 149 [y,uN (least l)])):=ep iE rfl rfl (by simp) (by
  intro v hv;simp only[cC,en,or_false]at hv;rcases hv with rfl|rfl
  .obtain⟨_,_,hS,-⟩:=hS;exact(ai.di hS).2
  .rfl)
 have lC:ax I (B.alloc (ae 149 [y,uN (least l)])).get 149 (pw B.next 0)=.ok (.agg ⟨[y,uN (least l)]⟩):=AI iE (by kernel_rfl);have hlenC:=((h.kp kB).kp kC).len;have hSC:=hS.kp kC;generalize B.alloc (ae 149 [y,uN (least l)])=C at sC lC kC hlenC hSC;obtain⟨v,D,⟨g2,hg2⟩,rfl,kD⟩:=qf1 (n:=Z l) hSC o6 (by omega) (by omega) o7 o8 (by show(iw l).length<_;omega);apply W.q2
 .intro M _;simp(disch:=first|decide+kernel|omega|simp only[Wq,V])only[jP,Tryz.f47,Aq,V,he,au,reduceIte,ak,hlen,h0,h2,fm,fk];rfl
 apply W.ie (g1)
 .intro M hM _;simp(disch:=first|decide+kernel|omega)only[jP,Tryz.f47,Aq,V,h1,dX,dU,DY,aX,sC];rfl
 apply W.ct (g2) 40
 .intro M hM;simp(disch:=first|decide+kernel|omega)only[jP,Tryz.f47,Aq,V,hlenC,lC,hg2,dX,dU];rfl
 exact⟨by simp,rfl,_,(by simp only[Tryz.f47,Aq,V]<;>rfl),rfl,kB.trans (kC.trans kD)⟩
inductive wk (b:Nat):List (FuncId×List O)->Mem->Nat->Mem->Prop
 |nil (A:Mem):wk b [] A 0 A
 |ok {f:FuncId} {cs:List O} {r:List (FuncId×List O)} {A B C:Mem} {e:Nat}:az I f cs A (.int .i64 (0:Nat)) B->A.next<=B.next->B.get b=A.get b->wk b r B e C->wk b ((f,cs)::r) A e C
 |err {f:FuncId} {cs:List O} {r:List (FuncId×List O)} {A B:Mem} {e:Nat}:az I f cs A (.int .i64 e) B->e≠0->wk b ((f,cs)::r) A e B
def eg(p:FuncId×List O):O:=.func (.func p.1) ⟨[]⟩ ⟨p.2⟩
def Ub:I.aB 90=U (.slice 94):=by kernel_rfl
def qiZ:∃d,I.aB 94=U d/\cW d=af:=b9 (by kernel_rfl)
def qho:aY I 94=.ok 1:=by kernel_rfl
def rZ:=cg ux
def EN:aH:=sub rZ [1,0,1,0,0]
def XR:ux.body=U (.seq (sub rZ [0]) (.seq (.seq (sub rZ [1,0,0]) (.block 0 (.loop EN))) (.seq (sub rZ [1,1,0]) (sub rZ [1,1,1])))):=by kernel_rfl
variable {C:Mem}
def KO{A:Mem}{e:Nat}{l:List (FuncId×List O)}{x:O}(hx:ai A 94 1 b (l.map λ p=>[eg p]) x)(h:wk b l A e C)(hl:Z l<1000):az I 45 [x] A (.int .i64 e) C:=by
 refine yK (aN Tryz.func45) XR (by kernel_rfl) ?_;have hlen:=ai.len hx Ub;rw[aR]at hlen;apply W.q
 .intro M;simp(disch:=omega)only[rZ,ux,Aq,V];rfl
 apply W.seq;apply W.q
 .intro M;simp(disch:=decide+kernel)only[rZ,ux,Aq,V,hlen];rfl
 apply W.block;refine W.up (Z l) (λ i t D=>(A.next<=D.next/\D.get b=A.get b)/\wk b (l.drop i) D e C/\Sl t [(6,x),(7,.int .i64 (Z l)),(8,.int .i64 i)]) ?_ (a6 _) ⟨⟨aJ _,rfl⟩,h,?_⟩
 .rintro i t D hi ⟨⟨kn,kf⟩,hD,g6,g7,g8,-⟩;by_cases hlt:i<Z l
  .have hp:=aV hlt;rw[nb hlt]at hD;generalize l[i]=p at*;have hxD:=hx.same kn λ _=>kf
   have j1:=ai.idx (kd:=.i64) hxD Ub qho (by rw[aR];exact hlt);obtain⟨d,hd1,hd2⟩:=qiZ;have j2:=ai.load (j:=0) hxD hd1 hd2 (show(l.map λ p=>[eg p])[i]?=U [eg p] by rw[da,hp];rfl) rfl (by omega);rw[dN]at j2;cases hD with
   |ok h1 h2 h3 h4=>
    obtain⟨g,hg⟩:=h1;simp only[eg]at j2;apply W.ct (g) 20
    .intro M hM;simp(disch:=first|decide+kernel|omega)only[EN,rZ,ux,Aq,V,g6,g7,g8,hlt,j1,j2,hg];rfl
    refine⟨hlt,_,_,rfl,⟨by omega,by rw[h3,kf]⟩,h4,?_⟩;simp only[Sq,V,ak,g6,g7]
   |err h1 h2=>
    obtain⟨g,hg⟩:=h1;simp only[eg]at j2;apply W.ct (g) 20
    .intro M hM;simp(disch:=first|decide+kernel|omega)only[EN,rZ,ux,Aq,V,g6,g7,g8,hlt,j1,j2,hg,h2];rfl
    exact⟨by simp,rfl,rfl,by simp only[ux,Aq,V]<;>rfl⟩
  .have ei:i=Z l:=by omega
   subst ei;rw[xZ]at hD;cases hD;apply W.run 20
   .intro M;simp(disch:=decide+kernel)only[EN,rZ,ux,Aq,V,g7,g8];rfl
   apply W.run 40
   .intro M;simp(disch:=omega)only[rZ,ux,Aq,V];rfl
   exact⟨by simp,rfl,rfl,by simp only[ux,Aq,V]<;>rfl⟩
 .simp only[Sq,V,ak]
def iY(l:List aD):List UInt8:=crc.ek (iw l)
def qiH:I.aB 48=U (.int .i64):=by kernel_rfl
def qiF:I.aB 40=U (.slice 44):=by kernel_rfl
def Uk:∃d,I.aB 58=U d/\cW d=af:=b9 (by kernel_rfl)
def qhm:aY I 58=.ok 1:=by kernel_rfl
variable {c:Nat}
def R9{A:Mem}{b:Bool}:az I 43 [.bool b,.int .i64 c] A (.func (.func 44) ⟨[]⟩ ⟨[pV A.next,pV (A.next+1)]⟩) ((A.alloc (ae 4 [.bool b])).alloc (ae 48 [.int .i64 c])):=by
 have n1:=aA A (ae 4 [.bool b]);simp only[pV];refine cG 60 (aN Tryz.func43) (by kernel_rfl) λ M=>?_
 simp(disch:=omega)only[Tryz.f43,Aq,V,Ng,sd,qU,n1,fb]<;>rfl
def R_{A:Mem}{a:Nat}(h:VB A 4 a (.var 1) [.bool aa]):az I 44 [pV a,pV b] A (iN 0) A:=by
 have l1:=h.l0 u4 rfl;simp only[pV];refine cG 60 (aN Tryz.func44) (by kernel_rfl) λ M=>?_
 simp(disch:=omega)only[Tryz.f44,Aq,V,l1]<;>rfl
def qet{A:Mem}{z5 z9:Nat}{l:List aD}{x s:O}(v5:VB A 40 z5 (.var 1) [x])(v9:VB A 9 z9 (.var 1) [s])(hx:dK A l x)(hl:oX l):
 ∃B:Mem,az I 46 [pV z5,pV z9] A (iN 0) B/\A.next<=B.next/\(∀z,z<A.next->z≠z9->B.get z=A.get z)/\VB B 9 z9 (.var 1) [ag (iY l)]:=by
 have l1:=v5.l0 qiF rfl;obtain⟨v,B,⟨g,hg⟩,rfl,kB⟩:=qfY hx hl;have v9B:=v9.kp kB;obtain⟨C,sC,vC,nC,fC⟩:=df (o:=0) (v:=ag (iY l)) vj v9B.2 (by simp) rfl rfl;have hB:=kB.1;refine⟨C,?_,by omega,λ z hz h=>by rw[fC z h,kB.2 z hz],⟨by have:=v9B.1;omega,vC⟩⟩;simp only[pV,iY]at*;refine bQ (g) 60 (aN Tryz.func46) (by kernel_rfl) λ M hM=>?_
 simp(disch:=omega)only[Tryz.f46,Aq,V,l1,hg,dX,dU,sC]<;>rfl
def qeu{A:Mem}{z9 z10:Nat}{l:List aD}{s:O}(v9:VB A 9 z9 (.var 1) [ag (iY l)])(v10:VB A 58 z10 (.var 1) [s])(hl:oX l):
 ∃B y,az I 48 [pV z9,pV z10] A (iN 0) B/\VB B 58 z10 (.var 1) [y]/\oD B l y/\A.next<=B.next/\(∀z,z<A.next->z≠z10->B.get z=A.get z):=by
 have l1:=v9.l0 u9 rfl;obtain⟨v,B,⟨g,hg⟩,kB,y,rfl,q,yy,rfl,hS1,hS2⟩:=KN hl;obtain⟨C,sC,vC,nC,fC⟩:=df (o:=0) (v:=pV q) qhm (v10.kp kB).2 (by simp) rfl rfl;have v10B:=v10.kp kB;have K:=KT.sQ v10B (by omega) λ z _=>fC z
 refine⟨C,pV q,?_,⟨by have:=v10B.1;omega,vC⟩,⟨q,yy,rfl,K.vb hS1 (by decide),?_⟩,by have:=kB.1;omega,λ z hz h=>by rw[fC z h,kB.2 z hz]⟩
 .simp only[pV,iY]at*;refine bQ (g) 60 (aN Tryz.func48) (by kernel_rfl) λ M hM=>?_
  simp(disch:=omega)only[Tryz.f48,Aq,V,l1,hg,dX,dU,sC]<;>rfl
 .obtain⟨b,rows,h1,h2,h3⟩:=hS2;refine⟨b,rows,K.fx h1 (by decide),h2,λ i s hs=>?_⟩;obtain⟨x,e1,b',e2⟩:=h3 i s hs;exact⟨x,e1,b',K.fx e2 (by decide)⟩
section
variable {A B:Mem}{p z3 z9 z11 e:Nat}{w s:List UInt8}(v3:VB A 25 z3 (.var 1) [pV p])(v11:VB A 9 z11 (.var 1) [ag w])
include v3
def qey(h:az I 57 [pV p] A (.int .i64 e) B):az I 56 [pV z3] A (.int .i64 e) B:=by
 have l3:ax I A.get 25 (pw z3 0)=.ok (pV p):=by
  obtain⟨d,hd,ha⟩:=n_;exact v3.ld rfl hd ha
 obtain⟨g,hg⟩:=h;simp only[pV]at*;refine bQ (g) 60 (aN Tryz.func56) (by kernel_rfl) λ M hM=>?_
 simp(disch:=omega)only[Tryz.f56,Aq,V,l3,hg]<;>rfl
include v11
def qev(h:az I 51 [pV p,ag w] A (.int .i64 e) B):az I 50 [pV z3,pV z11] A (.int .i64 e) B:=by
 have l3:ax I A.get 25 (pw z3 0)=.ok (pV p):=by
  obtain⟨d,hd,ha⟩:=n_;exact v3.ld rfl hd ha
 have l11:=v11.l0 u9 rfl;obtain⟨g,hg⟩:=h;simp only[pV]at*;refine bQ (g) 60 (aN Tryz.func50) (by kernel_rfl) λ M hM=>?_
 simp(disch:=omega)only[Tryz.f50,Aq,V,l3,l11,hg]<;>rfl
def qex(h:az I 55 [pV p,ag w] A (.int .i64 e) B):az I 54 [pV z3,pV z11] A (.int .i64 e) B:=by
 have l3:ax I A.get 25 (pw z3 0)=.ok (pV p):=by
  obtain⟨d,hd,ha⟩:=n_;exact v3.ld rfl hd ha
 have l11:=v11.l0 u9 rfl;obtain⟨g,hg⟩:=h;simp only[pV]at*;refine bQ (g) 60 (aN Tryz.func54) (by kernel_rfl) λ M hM=>?_
 simp(disch:=omega)only[Tryz.f54,Aq,V,l3,l11,hg]<;>rfl
def qew(v9:VB A 9 z9 (.var 1) [ag s])(h:az I 53 [pV p,ag w,.slice (U ⟨A.next,0,Y⟩) 1 2] (A.alloc (ae 9 [ag s])) (.int .i64 e) B):az I 52 [pV z3,pV z11,pV z9] A (.int .i64 e) B:=by
 have l3:ax I A.get 25 (pw z3 0)=.ok (pV p):=by
  obtain⟨d,hd,ha⟩:=n_;exact v3.ld rfl hd ha
 have l11:=v11.l0 u9 rfl;have l9:=v9.l0 u9 rfl;have bs:=H2 (w:=s);obtain⟨g,hg⟩:=h;simp only[pV]at*;refine bQ (g) 60 (aN Tryz.func52) (by kernel_rfl) λ M hM=>?_
 simp(disch:=omega)only[Tryz.f52,Aq,V,l3,l11,l9,bs,hg]<;>rfl
end
variable {ns:List (List UInt8)}
def oY.step(h:oY ns)(hw:w∉ns)(hl:Z w<=64)(hn:Z ns<900):oY (ns++[w]):=by
 refine⟨?_,by rw[aU,fg];omega,λ n hm=>?_⟩
 .rw[we];exact⟨h.1,zQ.2 ⟨en,qz⟩,λ a ha c hc e=>hw (by rw[ee.1 hc]at e;exact e▸ha)⟩
 .rcases mI.1 hm with hm|hm
  .exact h.2.2 n hm
  .rw[ee.1 hm];omega
def DU(D:cT)(w s:List UInt8):cT:=A9 (eX (rT (eX (jU (eX D) w)) (Z D.ns) [] s)) (Z D.ns) ([],s)
def DV(D:cT)(w s:List UInt8):cT:=Gp (eX (DU D w s))
def Kt{D:cT}{s:List UInt8}(h:iH D)(hw:w∉D.ns)(hs:fp D.fs+Z s<=D.q):
 iH (jU (eX D) w)/\(jU (eX D) w).ns[Z D.ns]?=U w/\(jU (eX D) w).fs[Z D.ns]?=U ([],[])/\Z s+used (jU (eX D) w)<=D.q/\(rT (eX (jU (eX D) w)) (Z D.ns) [] s).fs[Z D.ns]?=U ([],s)/\iH (DU D w s)/\fp (DU D w s).fs=fp D.fs+Z s:=by
 have o1:iH (jU (eX D) w):=h.step.create hw;have i1:(jU (eX D) w).fs[Z D.ns]?=U ([],[]):=by
  show(D.fs++[([],[])])[Z D.ns]?=_;rw[<-h.fl];simp
 have hz:fp (jU (eX D) w).fs=fp D.fs:=by
  show fp (D.fs++[([],[])])=_;rw[Tj];simp[fp]
 have hu:Z s+used (jU (eX D) w)<=D.q:=by
  rw[xM o1.nd o1.fl,hz];omega
 have i2:(rT (eX (jU (eX D) w)) (Z D.ns) [] s).fs[Z D.ns]?=U ([],s):=Hn (bg.1 i1).1;refine⟨o1,by show(D.ns++[w])[Z D.ns]?=_;simp,i1,hu,i2,(o1.step.append i1 hu).step.sync i2,?_⟩;show fp ((rT (eX (jU (eX D) w)) (Z D.ns) [] s).fs.set (Z D.ns) _)=_;rw[Tl i2];show fp ((jU (eX D) w).fs.set (Z D.ns) _)=_;rw[Tk i1,hz]
def qhY{z3 z9 z11:Nat}{D:cT}{s:List UInt8}{k:Kd}{lb:List O}(h:eu A p D)(ho:iH D)(hN:oY D.ns)(hq:D.q<100000000)(hs:D.st<900)(hnn:Z D.ns<900)(hw:w∉D.ns)(hwl:0<Z w/\Z w<=64)(hsz:fp D.fs+Z s<=D.q)
 (hsl:Z s<900000)(v3:VB A 25 z3 (.var 1) [pV p])(v9:VB A 9 z9 (.var 1) [ag s])(v11:VB A 9 z11 (.var 1) [ag w])(vb:VB A 94 b k lb):
 ∃C,wk b [(50,[pV z3,pV z11]),(52,[pV z3,pV z11,pV z9]),(54,[pV z3,pV z11]),(56,[pV z3])] A 0 C/\eu C p (DV D w s)/\KT dT A C:=by
 obtain⟨o1,n1,i1,hu,i2,o3,-⟩:=Kt (s:=s) ho hw hsz;obtain⟨B,hB,dB,kB⟩:=Sf h (by omega) hw hwl (by omega) ho.la;have k2:=Kp.alloc B (ae 9 [ag s]);have hr2:=aK B 9 [ag s];have hx2:ai (B.alloc (ae 9 [ag s])) 9 1 B.next [[ag s]] (.slice (U ⟨B.next,0,Y⟩) 1 2):=.inr ⟨.var 1,2,rfl,hr2.1,hr2.2,λ l hl=>by rw[ee.1 hl];rfl,.inl rfl⟩
 obtain⟨C,hC,dC,kC0⟩:=Se (dB.kp k2) (by show D.st+1<_;omega) (hN.step hw hwl.2 hnn) hu hq n1 i1 hx2 (by simp;omega);have kC:=k2.kt.trans kC0;obtain⟨E,hE,dE,kE⟩:=Sj dC (by show D.st+1+1<_;omega) n1 i2;obtain⟨F,hF,dF,kF⟩:=qe3 dE (by show D.st+1+1+1<_;omega) (by show(D.ns++[w]).length<_;rw[aU];simp;omega);have v3B:=kB.vb v3 (by decide);have v11B:=kB.vb v11 (by decide);have v3C:=kC.vb v3B (by decide);have vbB:=kB.vb vb (by decide);have vbC:=kC.vb vbB (by decide);exact⟨F,.ok (qev v3 v11 hB) kB.1 (kB.2.1 _ _ _ _ (by decide) vb) (.ok (qew v3B v11B (kB.vb v9 (by decide)) hC) kC.1 (kC.2.1 _ _ _ _ (by decide) vbB) (.ok (qex v3C (kC.vb v11B (by decide)) hE) kE.1 (kE.2.1 _ _ _ _ (by decide) vbC) (.ok (qey (kE.vb v3C (by decide)) hF) kF.1 (kF.2.1 _ _ _ _ (by decide) (kE.vb vbC (by decide))) (.nil F)))),dF,((kB.trans kC).trans kE).trans kF⟩
end Go.Proofs.YtdobfpkceacneaaGreatDoor.sto
end
