/- The abstract machine, the walk of the law and its plain laws, made small by a program; part 7: no conditions but those in each theorem. -/
import Derived.Test.YtggndfefpbmaeaaGreatDoorQ06
set_option maxHeartbeats 16000000
set_option maxRecDepth 100000
set_option linter.unusedSimpArgs false
set_option linter.unusedVariables false
noncomputable section
open Nat renaming reduceEqDiff→Zf,reduceAdd→Zg,ble→Zj,le_refl→Zn,beq→Zr,blt→Zt,zero_le→Zv,eq_of_beq_eq_true→ZA,blt_eq→ZB,lt_of_lt_of_le→ZJ,le_of_ble_eq_true→ZP,lt_or_ge→ZS,zero_add→ZT,le_trans→ZV,add_zero→Z8,ble_eq_true_of_le→qaf,min_eq_left→qam,lt_of_le_of_lt→qan,lt_irrefl→qau,mul_one→qaw,sub_self→qaz,sub_zero→qaA,not_lt_zero→qaS,strongRecOn→qbL,zero_mul→qcM,max_eq_right→qcY,le_total→qdB,max_eq_left→qdC
open List renaming getElem?_eq_getElem→Zi,getElem?_cons_succ→Zk,getElem?_eq_some_iff→Zl,getElem?_cons_zero→Zm,length_append→Zo,length_map→Zp,take_succ_eq_append_getElem→Zs,length_cons→Zu,length_eq_zero_iff→Zw,mem_cons_of_mem→Zx,mem_cons_self→Zy,mem_cons→ZC,length_take→ZD,length_nil→ZG,getElem?_map→ZH,take_length→ZL,mem_of_getElem?→ZM,getElem?_append_right→ZN,getElem_mem→ZO,length_set→ZR,getElem?_append_left→ZU,length_pos_iff→ZW,mem_map→ZX,not_mem_nil→Z0,map_append→Z3,replicate→Z4,cons_append→Z5,getElem?_eq_none→Z7,mem_singleton→Z9,filter_cons→Z',flatMap_cons→qaa,getD_eq_getElem?_getD→qab,nil_append→qac,drop_eq_getElem_cons→qad,length_singleton→qae,append_assoc→qah,getElem?_set→qaj,append_nil→qap,map_cons→qar,mem_append→qas,all_eq_true→qat,foldl_cons→qax,mem_filter→qaF,flatMap_append→qaH,take_of_length_le→qaJ,pairwise_iff_getElem→qaK,flatten_cons→qaO,mem_append_right→qaP,take_zero→qaQ,length→qaR,drop_zero→qa5,mem_or_eq_of_mem_set→qbc,mem_flatMap→qbx,getElem?_take→qbB,mem_of_mem_take→qbK,filter_eq_self→qbS,getElem_of_mem→qbT,length_replicate→qb4,nodup_cons→qb5,exists_mem_of_ne_nil→qcc,nodup_nil→qcI,map→qcW,map_nil→qc9,map_set→qda,take_take→qdp,drop_length→qdu
open Bool renaming false_eq_true→Zz,and_eq_true→ZF,true_and→qa2,and_true→qbu,false_and→qch,and_false→qdE
open Option.some renaming injEq→ZQ,inj→Z_
open Option renaming map_some→Z1,bind_some→qbg
open Go.Proofs.Tryz renaming f169→qaU,f171→qaV,f176→qaW,f6→qa6,f122→qbh,f60→qbz,f24→qcD,f80→qcE,f180→qcR,f62→qc1,f172→qdM,f174→qdN,f175→qdO
namespace Go.Proofs.YtggndfefpbmaeaaGreatDoor.sto
open Go.Am Go.Mdl Go.Sto
noncomputable def ku:Code:=qaV.body.getD .skip
noncomputable def dA:Code:=sub ku [1,1,0,1,0,0]
theorem QB:qaV.body=some (.seq (sub ku [0]) (.seq (sub ku [1,0]) (.seq (.seq (sub ku [1,1,0,0]) (.block 0 (.loop dA))) (.seq (sub ku [1,1,1,0]) (.seq (sub ku [1,1,1,1,0]) (sub ku [1,1,1,1,1])))))):=by kernel_rfl
theorem Ka:dA=(.seq (sub dA [0]) (.seq (sub dA [1,0]) (.seq (.block 1 (.seq (sub dA [1,1,0,0,0]) (.seq (sub dA [1,1,0,0,1,0]) (.seq (sub dA [1,1,0,0,1,1,0]) (.block 2 (.rangeFunc (.tmp 32) #[33,34] (sub dA [1,1,0,0,1,1,1,0,0]) (sub dA [1,1,0,0,1,1,1,0,1]))))))) (sub dA [1,1,1])))):=by kernel_rfl
noncomputable def gp (t:T Value) (d:Nat):eY:=ig t 62 [33,34] (sub dA [1,1,0,0,1,1,1,0,0]) (sub dA [1,1,0,0,1,1,1,0,1]) d
def BN (o:a6→Int) (w:Int→Int→Nat→Int) (M:List a6) (i:Nat) (s:a6) (ab lp:Nat) (x:Value) (L:eY) (j:Nat) (D:Mem):Prop:=
 aq D 3 1 ab (((jZ o w zI M i).set i (jx o w zI (dq o w zI (M.take i)) s j)).map lY) x∧D.get lp=some (.loop L)∧lp<D.next
variable {M:List a6} {i:Nat}
theorem KI {o:a6→Int} {w:Int→Int→Nat→Int} {s:a6} {ab lp:Nat} {x:Value} {L:eY} (j:Nat) (D E:Mem) (h:BN o w M i s ab lp x L j D) (k:Kp D E):BN o w M i s ab lp x L j E:=
 ⟨h.1.same k.1 (k.2 ab),by rw [k.2 _ h.2.2];exact h.2.1,ZJ h.2.2 k.1⟩
def BP (fo:FuncId) (o:a6→Int):Prop:=∀(D:Mem) (x:Value) (s:a6),∃E,bJ af fo [.agg ⟨cZ x s⟩] D (tF (o s)) E∧Kp D E
def rP (fw:FuncId) (o:a6→Int) (w:Int→Int→Nat→Int) (M:List a6):Prop:=∀(D:Mem) (i j:Nat) (s:a6) (a:cL),M[i]?=some s→s.arcs[j]?=some a→
 ∃E,bJ af fw [tF (jx o w zI (dq o w zI (M.take i)) s j),tF ((dq o w zI (M.take i)).getD a.to zI),.int .u64 a.out] D (tF (jx o w zI (dq o w zI (M.take i)) s (j+1))) E∧Kp D E
variable {fw:FuncId} {B:Mem} {p d:Nat} {t:T Value}
theorem Vy {o:a6→Int} {w:Int→Int→Nat→Int} {a lp:Nat} {s:a6} {x:Value} (hW:rP fw o w M) (hi:M[i]?=some s) (ht:∀a∈s.arcs,a.to<i)
 (v7:VB B 300 (a+3) (.var 1) [x]) (v8:VB B 3 p (.var 1) [.int .i64 i]) (v5:VB B 255 (a+1) (.var 1) [.func (.func fw) ⟨[]⟩ ⟨[]⟩]) (hp:a+3<p∧p<lp∧lp<B.next)
 (hs:Sl t [(5,pV (a+1)),(7,pV (a+3)),(8,pV p)]):Mh B (a+2) lp s (BN o w M i s (a+2) lp x (gp t d)):=by
 rintro j c D hj ⟨hA,hL,hlt⟩ hn hf;obtain⟨g5,g7,g8,-⟩:=hs;obtain⟨p1,p2,p3⟩:=hp;have hil:=(Zl.1 hi).1;have hto:=ht c (ZM hj);have hrl:=s9 o w zI (i:=i) (M:=M) (by omega);have sE:aT af (D.alloc (aa 305 [.int .i64 (0:Nat),.int .u64 (0:Nat)])) 305 (pw D.next 0) (rJ c)= .ok (D.alloc (aa 305 [.int .i64 c.to,.int .u64 c.out])):=a_ (by kernel_rfl) rfl rfl (by simp) (by simp [aH]);have z305:bO af 305= .ok (.agg ⟨[.int .i64 (0:Nat),.int .u64 (0:Nat)]⟩):=by kernel_rfl
 have f0:∀b,ak af 305 (pw b 0) 0= .ok (pw b 0):=fun b=>by kernel_rfl
 have f1:∀b,ak af 305 (pw b 0) 1= .ok (pw b 1):=fun b=>by kernel_rfl
 have kE:=Kp.alloc D (aa 305 [.int .i64 c.to,.int .u64 c.out]);have vE:=az D 305 [.int .i64 c.to,.int .u64 c.out];have nE:(D.alloc (aa 305 [.int .i64 c.to,.int .u64 c.out])).next=D.next+1:=ae _ _
 generalize D.alloc (aa 305 [.int .i64 c.to,.int .u64 c.out])=E at sE kE vE nE;have hLE:E.get lp=some (.loop (gp t d)):=by rw [kE.2 _ hlt];exact hL
 generalize hF:E.set lp (.loop {gp t d with state:=.busy})=F;have nF:F.next=E.next:=by rw [←hF];exact aO _ _ _
 have fF:∀z,z≠lp→F.get z=E.get z:=fun z hz=>by rw [←hF,aC,if_neg hz]
 have hLF:F.get lp=some (.loop {gp t d with state:=.busy}):=by rw [←hF,aC,if_pos rfl]
 have hBF:∀z,z<B.next→z≠a+2→z≠lp→F.get z=B.get z:=fun z hz h1 h2=>by rw [fF z h2,kE.2 z (by omega),hf z hz h1 h2]
 have hAF:=hA.same (A':=F) (by omega) fun hlt=>by rw [fF _ (by omega),kE.2 _ hlt]
 obtain⟨G,⟨g,hg⟩,kG⟩:=hW F i j s c hi hj;have eJ:∀e z k l,VB B e z k l→z≠a+2→z≠lp→VB F e z k l:=fun e z k l h h1 h2=>⟨by have:=h.1;omega,h.2.same (hBF z h.1 h1 h2)⟩
 have w7:=eJ _ _ _ _ v7 (by omega) (by omega);have w8:=eJ _ _ _ _ v8 (by omega) (by omega);have w5:=eJ _ _ _ _ v5 (by omega) (by omega);have l7:∀G,Kp F G→ai af G.get 300 (pw (a+3) 0)= .ok x:=fun G h=>(w7.kp h).ld rfl LU rfl
 have l8:∀G,Kp F G→ai af G.get 3 (pw p 0)= .ok (.int .i64 i):=fun G h=>(w8.kp h).ld rfl u3 rfl
 have l5:ai af F.get 255 (pw (a+1) 0)= .ok (.func (.func fw) ⟨[]⟩ ⟨[]⟩):=by
  obtain⟨d,hd1,hd2⟩:=bg (t:=255) (p:=false) (by kernel_rfl);exact w5.ld rfl hd1 hd2
 have r7:=l7 F (Kp.refl _);have r8:=l8 F (Kp.refl _);have r7':=l7 G kG;have r8':=l8 G kG;have vF:VB F 305 D.next (.var 2) [.int .i64 c.to,.int .u64 c.out]:=⟨by omega,vE.2.same (fF _ (by omega))⟩
 have e0:ai af F.get 3 (pw D.next 0)= .ok (.int .i64 c.to):=vF.ld rfl u3 rfl;have e1:ai af F.get 103 (pw D.next 1)= .ok (.int .u64 c.out):=vF.ld rfl eK rfl;have i1:=IT hAF (i:=i) (by rw [ZR];omega);have i2:=IT hAF (i:=c.to) (by rw [ZR];omega);have d1:=UP hAF (i:=i) (by rw [qaj,if_pos rfl,if_pos (by omega)]);have d2:=UP hAF (i:=c.to) (Jl o w zI (by omega) hto _);have hAG:=hAF.same kG.1 (kG.2 _);obtain⟨H,sH,hAH,nH,fH⟩:=Xl (v:=jx o w zI (dq o w zI (M.take i)) s (j+1)) hAG (i:=i) (by rw [ZR];omega);rw [List.set_set] at hAH;have nG:=kG.1;have hLH:H.get lp=some (.loop {gp t d with state:=.busy}):=by rw [fH _ (by omega),kG.2 _ (by omega)];exact hLF
 have sx:bP 100 x x=true:=(aq.BE (by omega) hAF).self 99;have si:=dP .i64 i rfl;simp only [pV] at g5 g7 g8;have hq:∃C,(∃g,∀N,g≤N→bc af (exec af N) (.round lp [.int .u8 (c.byte.toNat:Nat),rJ c]) D= .ok (.val (.bool true) C))∧C=H.set lp (.loop (gp t d)):=by
  refine iF hL (t:=(t.set 33 (.int .u8 (c.byte.toNat:Nat))).set 34 (rJ c)) rfl ?_;show W af (sub dA [1,1,0,0,1,1,1,0,0]) ⟨_,62,[],D,some lp⟩ _;apply W.run 20
  ·intro M;simp (disch:=first|decide+kernel|omega) only [dA,ku,qaV,Aq,Zf,z305,aj,sE];rfl
  refine⟨rfl,_,hLE,rfl,?_⟩;show W af (sub dA [1,1,0,0,1,1,1,0,1]) ⟨_,62,[],E.set lp (.loop {gp t d with state:=.busy}),some lp⟩ _;rw [hF];apply W.bf (g) 20
  ·intro M hM;simp (config:={maxSteps:=4000000}) (disch:=first|decide+kernel|omega|simp only [Wq,Zf]) only [dA,ku,qaV,Aq,Zj,reduceIte,Zf,Zg,g5,g7,g8,r7,r8,r7',r8',l5,f0,f1,e0,e1,i1,i2,d1,d2,hg,sH,sx,si,Fq,au [(0,14),(1,14)]];rfl
  exact⟨rfl,rfl,_,hLH,rfl⟩
 obtain⟨C,hc,rfl⟩:=hq;have fr:∀z,z≠lp→(H.set lp (.loop (gp t d))).get z=H.get z:=fun z hz=>by rw [aC,if_neg hz]
 have nr:(H.set lp (.loop (gp t d))).next=H.next:=aO _ _ _
 refine⟨_,hc,⟨hAH.same (by omega) fun _=>fr _ (by omega),by rw [aC,if_pos rfl],by omega⟩,by omega,fun z hz h1 h2=>?_⟩;rw [fr z h2,fH z h1,kG.2 z (by omega),fF z h2,kE.2 z hz]
def FR (o:a6→Int) (w:Int→Int→Nat→Int) (M:List a6) (B:Mem) (a:Nat) (x:Value) (i:Nat) (D:Mem) (ds:List Nat):Prop:=
 aq D 3 1 (a+2) ((jZ o w zI M i).map lY) x∧(∀z,z<B.next→z≠a+2→D.get z=B.get z)∧B.next≤D.next∧ds.Nodup∧∀d∈ds,B.next≤d∧d<D.next∧D.get d=some .defd
theorem YC:bO af 300= .ok (.slice none 0 0):=by kernel_rfl
variable {A:Mem} {y:Value}
theorem U1 {fo:FuncId} {o:a6→Int} {w:Int→Int→Nat→Int} {D:Mem} {k x:Value} {a:Nat} {s:a6} {ds:List Nat} (h:dY A M y) (hg:de M) (hl:M.length<1000000) (hO:BP fo o) (hW:rP fw o w M) (hi:M[i]?=some s)
 (hB:Kp A B) (ha:A.next=a∧B.next=a+3+1) (v3:VB B 105 a (.var 2) [y,k]) (v5:VB B 255 (a+1) (.var 1) [.func (.func fw) ⟨[]⟩ ⟨[]⟩]) (v7:VB B 300 (a+3) (.var 1) [x]) (hR:FR o w M B a x i D ds)
 (hs:Sl t [(1,.func (.func fo) ⟨[]⟩ ⟨[]⟩),(3,pV a),(5,pV (a+1)),(6,.int .i64 (0:Nat)),(7,pV (a+3)),(17,y),(18,.int .i64 M.length),(19,.int .i64 i)]):
 W af dA ⟨t,62,ds,D,none⟩ fun e s'=>e= .nrm∧∃t' D' d',s'=⟨t',62,d',D',none⟩∧FR o w M B a x (i+1) D' d'∧
  Sl t' [(1,.func (.func fo) ⟨[]⟩ ⟨[]⟩),(3,pV a),(5,pV (a+1)),(6,.int .i64 (0:Nat)),(7,pV (a+3)),(17,y),(18,.int .i64 M.length),(19,.int .i64 (i+1:Nat))]:=by
 obtain⟨hA,hf,hn,hnd,hds⟩:=hR;obtain⟨g1,g3,g5,g6,g7,g17,g18,g19,-⟩:=hs;obtain⟨ha1,ha2⟩:=ha;have hil:=(Zl.1 hi).1;obtain⟨-,k2,k3,-,-⟩:=hg i s hi;have hfew:=kX (hg i s hi);have hrl:=s9 o w zI (i:=i) (M:=M) (by omega);have kAD:Kp A D:=⟨by omega,fun z hz=>by rw [hf z (by omega) (by omega),hB.2 z hz]⟩;obtain⟨xs,p,q,i1,i2,hx,i4⟩:=(h.kp kAD).get hi;have i5:=(i4 D (Kp.refl _)).1;have k1:=Kp.alloc D (aa 3 [.int .i64 (0:Nat)]);have n1:(D.alloc (aa 3 [.int .i64 (0:Nat)])).next=D.next+1:=ae _ _
 have n2:((D.alloc (aa 3 [.int .i64 (0:Nat)])).alloc (aa 164 [.slice none 0 0,.bool false,.int .u64 (0:Nat)])).next=D.next+2:=by rw [ae,n1]
 have w1:=(az D 3 [.int .i64 (0:Nat)]).kp (Kp.alloc _ (aa 164 [.slice none 0 0,.bool false,.int .u64 (0:Nat)]));have w2:=az (D.alloc (aa 3 [.int .i64 (0:Nat)])) 164 [.slice none 0 0,.bool false,.int .u64 (0:Nat)];have k2':=k1.trans (Kp.alloc _ (aa 164 [.slice none 0 0,.bool false,.int .u64 (0:Nat)]));rw [n1] at w2;obtain⟨E1,sE1,u1,m1,fE1⟩:=aY (tb:=af) (t:=3) (o:=0) (v:=.int .i64 i) P6 w1.2 (by simp) rfl rfl;obtain⟨E,sE,u2,m2,fE⟩:=bK (tb:=af) (t:=164) (l':=cZ xs s) (by exact mH) (w2.2.same (fE1 _ (by omega))) rfl (by simp) (HJ hx);have hzero3:bO af 3= .ok (.int .i64 (0:Nat)):=gv;have fED:∀z,z<D.next→E.get z=D.get z:=fun z hz=>by rw [fE z (by omega),fE1 z (by omega),k2'.2 z hz]
 have kDE:Kp D E:=⟨by omega,fED⟩;have V8:VB E 3 D.next (.var 1) [.int .i64 i]:=⟨by omega,u1.same (fE _ (by omega))⟩
 have V9:VB E 164 (D.next+1) (.var 3) (cZ xs s):=⟨by omega,u2⟩;have eJ:∀e z k l,VB B e z k l→z≠a+2→VB E e z k l:=fun e z k l h h1=>⟨by have:=h.1;omega,h.2.same (by rw [fED z (by have:=h.1;omega),hf z h.1 h1])⟩
 have V7:=eJ _ _ _ _ v7 (by omega);have V3:=eJ _ _ _ _ v3 (by omega);have V5:=eJ _ _ _ _ v5 (by omega);have hAE:=hA.same kDE.1 (kDE.2 _);obtain⟨F,⟨gf,hgf⟩,kF⟩:=hO E xs s;obtain⟨d,hd1,hd2⟩:=bg (t:=164) (p:=true) (by kernel_rfl);have l9:ai af E.get 164 (pw (D.next+1) 0)= .ok (.agg ⟨cZ xs s⟩):=aI hd1 hd2 (l:=cZ xs s) mH V9.2;have l7:∀G,Kp E G→ai af G.get 300 (pw (a+3) 0)= .ok x:=fun G h=>(V7.kp h).ld rfl LU rfl
 have l8:∀G,Kp E G→ai af G.get 3 (pw D.next 0)= .ok (.int .i64 i):=fun G h=>(V8.kp h).ld rfl u3 rfl
 have r7:=l7 E (Kp.refl _);have r8:=l8 E (Kp.refl _);have r7':=l7 F kF;have r8':=l8 F kF;have ix:=IT hAE (i:=i) (by omega);obtain⟨G,sG,hAG,nG,fG⟩:=Xl (v:=o s) (hAE.same kF.1 (kF.2 _)) (i:=i) (by omega);have sx:bP 100 x x=true:=(aq.BE (by omega) hA).self 99;have si:=dP .i64 i rfl;have nF:=kF.1;have nE:E.next=D.next+2:=by omega
 have fGE:∀z,z<E.next→z≠a+2→G.get z=E.get z:=fun z hz h=>by rw [fG z h,kF.2 z hz]
 have lG8:ai af G.get 3 (pw D.next 0)= .ok (.int .i64 i):=aU u3 rfl (V8.2.same (fGE _ (by omega) (by omega))) rfl;obtain⟨d2,hd3,hd4⟩:=bg (t:=105) (p:=true) (by kernel_rfl);have lG3:ai af G.get 105 (pw a 0)= .ok (.agg ⟨[y,k]⟩):=aI hd3 hd4 (l:=[y,k]) dz (V3.2.same (fGE _ (by omega) (by omega)));obtain⟨gw,hgw⟩:=zh (A:=G) (y:=y) (k:=k) (n:=i);have x1:=(az G 105 [y,k]).kp (Kp.alloc _ (aa 3 [.int .i64 i]));have x2:=az (G.alloc (aa 105 [y,k])) 3 [.int .i64 i];have y1:(G.alloc (aa 105 [y,k])).next=G.next+1:=ae _ _
 have y2:((G.alloc (aa 105 [y,k])).alloc (aa 3 [.int .i64 i])).next=G.next+2:=by rw [ae,y1]
 have kH:=(Kp.alloc G (aa 105 [y,k])).trans (Kp.alloc _ (aa 3 [.int .i64 i]));rw [y1] at x2;generalize (G.alloc (aa 105 [y,k])).alloc (aa 3 [.int .i64 i])=H at hgw x1 x2 y2 kH;simp only [pV] at g3 g5 g7 hgw;rw [Ka];apply W.q
 ·intro M;simp (disch:=decide+kernel) only [dA,ku,qaV,Aq,Zf,g18,g19,hil];rfl
 apply W.q
 ·intro M;simp only [dA,ku,qaV,Aq,Zf];rfl
 apply W.seq;apply W.block;apply W.q
 ·intro M;simp (disch:=omega) only [dA,ku,qaV,Aq,Zf,g17,g19,i1,i5,hzero3,jA,aj,dc,n1,sE1,sE];rfl
 apply W.qG (gf)
 ·intro M hM;simp (config:={maxSteps:=4000000}) (disch:=first|decide+kernel|omega|simp only [Wq,Zf]) only [dA,ku,qaV,Aq,Zj,reduceIte,Zf,Zg,g1,g7,r7,r8,l9,hgf,ix,r7',r8',sx,si,sG,Fq,au [(0,4),(1,4)]];rfl
 apply W.qG (gw)
 ·intro M hM;simp (disch:=omega) only [dA,ku,qaV,Aq,Zf,g3,lG3,lG8,hgw];rfl
 apply W.block;generalize ht0:T.set _ _ _=t0;have hsl:Sl t0 [(1,.func (.func fo) ⟨[]⟩ ⟨[]⟩),(3,pV a),(5,pV (a+1)),(6,.int .i64 (0:Nat)),(7,pV (a+3)),(8,pV D.next),(17,y),(18,.int .i64 M.length),(19,.int .i64 i),(32,.func (.func 233) ⟨[]⟩ ⟨[pV G.next,pV (G.next+1)]⟩)]:=by
  rw [←ht0];simp only [Sq,Zf,Zg,g1,g3,g5,g6,g7,g17,g18,g19,pV]
 clear ht0;obtain⟨h1,h3,h5,h6,h7,h8,h17,h18,h19,h32,-⟩:=hsl;have kJ:=(Kp.alloc H .defd).trans (Kp.alloc (H.alloc .defd) (.loop (gp t0 H.next)));have nJ1:(H.alloc .defd).next=H.next+1:=ae _ _
 have nJ:((H.alloc .defd).alloc (.loop (gp t0 H.next))).next=H.next+2:=by rw [ae,nJ1]
 have jL:((H.alloc .defd).alloc (.loop (gp t0 H.next))).get (H.next+1)=some (.loop (gp t0 H.next)):=by have:=ay (H.alloc .defd) (.loop (gp t0 H.next));rwa [nJ1] at this
 have jM:((H.alloc .defd).alloc (.loop (gp t0 H.next))).get H.next=some .defd:=by rw [(Kp.alloc (H.alloc .defd) _).2 _ (by omega)];exact ay H .defd
 generalize hJ:(H.alloc .defd).alloc (.loop (gp t0 H.next))=J at kJ nJ jL jM;have kGJ:=kH.trans kJ;have toJ:∀e z k l,VB E e z k l→z≠a+2→VB J e z k l:=fun e z k l h h1=>VB.kp (A:=G) ⟨by have:=h.1;omega,h.2.same (fGE z h.1 h1)⟩ kGJ
 have hJA:BN o w M i s (a+2) (H.next+1) x (gp t0 H.next) 0 J:=⟨hAG.same kGJ.1 (kGJ.2 _),jL,by omega⟩;have fJD:∀z,z<D.next→z≠a+2→J.get z=D.get z:=fun z hz h=>by rw [kGJ.2 z (by omega),fGE z (by omega) h,fED z hz]
 have kAJ:Kp A J:=⟨by omega,fun z hz=>by rw [fJD z (by omega) (by omega),kAD.2 z hz]⟩;obtain⟨v,C,hC,⟨c1,c2,c3⟩,nC,fC⟩:=Fk (A:=A) (B:=J) (q:=G.next) (ab:=a+2) (lp:=H.next+1) (k:=k) h hi k3 k2 hfew hl kAJ (x1.kp kJ) (x2.kp kJ) ⟨by omega,by omega,by omega,by omega,by omega,by omega,by omega,by omega⟩ KI
  (Vy hW hi k3 (toJ _ _ _ _ V7 (by omega)) (toJ _ _ _ _ V8 (by omega)) (toJ _ _ _ _ V5 (by omega)) ⟨by omega,by omega,by omega⟩ ⟨h5,h7,h8,trivial⟩) hJA
 refine W.yY (fid:=233) (first:=[]) (capt:=[pV G.next,pV (G.next+1)]) (v:=v) (A':=C) (r:=gp t0 H.next) (e:=.nrm) (by simp only [ev,h32]) (by show bJ af 233 _ ((H.alloc .defd).alloc (.loop (gp t0 H.next))) v C;rw [hJ];exact hC) c2 (by simp [gp,ig]) (.inl ⟨rfl,rfl⟩) ?_;have c1:aq C 3 1 (a+2) ((jZ o w zI M (i+1)).map lY) x:=by rw [←Br o w zI hi];exact c1
 generalize hK:C.set (H.next+1) (.loop {gp t0 H.next with state:=.exhausted})=K;have nK:K.next=C.next:=by rw [←hK];exact aO _ _ _
 have fK:∀z,z≠H.next+1→K.get z=C.get z:=fun z hz=>by rw [←hK,aC,if_neg hz]
 show W af (sub dA [1,1,1]) _ _;apply W.run 20
 ·intro M;simp (disch:=first|decide+kernel|omega) only [dA,ku,qaV,Aq,Zf,h19];rfl
 have hJK:∀z,z<J.next→z≠a+2→z≠H.next+1→K.get z=J.get z:=fun z hz h1 h2=>by rw [fK z h2,fC z hz h1 h2]
 refine⟨rfl,_,K,_,rfl,⟨c1.same (by omega) fun _=>fK _ (by omega),fun z hz h1=>by rw [hJK z (by omega) h1 (by omega),fJD z (by omega) h1,hf z hz h1],by omega,qb5.2 ⟨fun hm=>?_,hnd⟩,fun d hd=>?_⟩,?_⟩
 ·have:=hds _ hm;omega
 ·rcases ZC.1 hd with rfl|hd
  ·exact⟨by omega,by omega,by rw [hJK _ (by omega) (by omega) (by omega),jM]⟩
  ·obtain⟨e1,e2,e3⟩:=hds d hd;exact⟨e1,by omega,by rw [hJK _ (by omega) (by omega) (by omega),fJD _ e2 (by omega),e3]⟩
 ·simp only [Sq,Zf,Zg,h1,h3,h5,h6,h7,h17,h18,pV]
theorem zd {fo:FuncId} {o:a6→Int} {w:Int→Int→Nat→Int} {k:Value} (h:dY A M y) (hg:de M) (hM:M≠ []) (hl:M.length<1000000) (hO:BP fo o) (hW:rP fw o w M):
 ∃v A',bJ af 171 [.agg ⟨[y,k]⟩,.func (.func fo) ⟨[]⟩ ⟨[]⟩,.func (.func fw) ⟨[]⟩ ⟨[]⟩] A v A'∧v=tF ((dq o w zI M).getD (M.length-1) zI)∧Kp A A':=by
 refine dQ (av Tryz.func171) QB (by rw [Tryz.ntmps171];simp) (by kernel_rfl) (by kernel_rfl) ?_;generalize ha:A.next=a
 have hpos:=ZW.2 hM;have n1:(A.alloc (aa 105 [y,k])).next=a+1:=by rw [ae,ha]
 have n2:((A.alloc (aa 105 [y,k])).alloc (aa 255 [.func (.func fw) ⟨[]⟩ ⟨[]⟩])).next=a+2:=by rw [ae,n1]
 have kB:=(Kp.alloc A (aa 105 [y,k])).trans (Kp.alloc _ (aa 255 [.func (.func fw) ⟨[]⟩ ⟨[]⟩]));have v3:=(az A 105 [y,k]).kp (Kp.alloc _ (aa 255 [.func (.func fw) ⟨[]⟩ ⟨[]⟩]));have v5:=az (A.alloc (aa 105 [y,k])) 255 [.func (.func fw) ⟨[]⟩ ⟨[]⟩];rw [ha] at v3;rw [n1] at v5;apply W.q
 ·intro M;simp (disch:=omega) only [ku,qaV,Aq,Zf,aj,cF,ha,n1];rfl
 generalize (A.alloc (aa 105 [y,k])).alloc (aa 255 [.func (.func fw) ⟨[]⟩ ⟨[]⟩])=B at*;have hS:=h.kp kB;have lB:ai af B.get 102 (pw a 0)= .ok y:=v3.ld rfl fP rfl;have cm:=hS.len;have mk:=Ye (n:=M.length) (by omega);have nB:B.next=a+2:=by assumption
 have n4:(B.alloc (aa 3 ((Z4 M.length zI).map lY).flatten)).next=a+3:=by rw [ae,nB]
 have kC:=(Kp.alloc B (aa 3 ((Z4 M.length zI).map lY).flatten)).trans (Kp.alloc _ (aa 300 [.slice (some ⟨a+2,0,none⟩) M.length (2*M.length)]));have vr:=(az B 3 ((Z4 M.length zI).map lY).flatten).kp (Kp.alloc _ (aa 300 [.slice (some ⟨a+2,0,none⟩) M.length (2*M.length)]));have v7:=az (B.alloc (aa 3 ((Z4 M.length zI).map lY).flatten)) 300 [.slice (some ⟨a+2,0,none⟩) M.length (2*M.length)];have sC:aT af ((B.alloc (aa 3 ((Z4 M.length zI).map lY).flatten)).alloc (aa 300 [.slice none 0 0])) 300 (pw ((B.alloc (aa 3 ((Z4 M.length zI).map lY).flatten)).next) 0) (.slice (some ⟨a+2,0,none⟩) M.length (2*M.length))= .ok _:=a_ (l':=[.slice (some ⟨a+2,0,none⟩) M.length (2*M.length)]) Sj rfl rfl (by simp) (by simp [aH]);have nC:((B.alloc (aa 3 ((Z4 M.length zI).map lY).flatten)).alloc (aa 300 [.slice (some ⟨a+2,0,none⟩) M.length (2*M.length)])).next=a+3+1:=by rw [ae,n4]
 rw [n4] at v7 sC;rw [nB] at vr;apply W.q
 ·intro M;simp (disch:=decide+kernel) only [ku,qaV,Aq,Zf,dm,lB,cm,mk,nB,YC,n4,sC];rfl
 generalize (B.alloc (aa 3 ((Z4 M.length zI).map lY).flatten)).alloc (aa 300 [.slice (some ⟨a+2,0,none⟩) M.length (2*M.length)])=C at*;have kAC:=kB.trans kC;have hSC:=h.kp kAC;have v3:=v3.kp kC;have v5:=v5.kp kC;have lC:ai af C.get 102 (pw a 0)= .ok y:=v3.ld rfl fP rfl;have lenC:=hSC.len;have r0:jZ o w zI M 0=Z4 M.length zI:=by unfold jZ;rw [qaQ];rfl
 have hA0:aq C 3 1 (a+2) ((jZ o w zI M 0).map lY) (.slice (some ⟨a+2,0,none⟩) M.length (2*M.length)):=by
  rw [r0];exact .inr ⟨_,_,by rw [Zp,qb4],vr.1,vr.2,fun l hl=>by
   obtain⟨_,_,rfl⟩:=ZX.1 hl;rfl,.inl (by rw [Zp,qb4])⟩
 apply W.seq;apply W.q
 ·intro M;simp (disch:=decide+kernel) only [ku,qaV,Aq,Zf,dm,lC,lenC];rfl
 apply W.block;refine W.YT M.length (fun i t D ds=>FR o w M C a (.slice (some ⟨a+2,0,none⟩) M.length (2*M.length)) i D ds∧Sl t [(1,.func (.func fo) ⟨[]⟩ ⟨[]⟩),(3,pV a),(5,pV (a+1)),(6,.int .i64 (0:Nat)),(7,pV (a+3)),(17,y),(18,.int .i64 M.length),(19,.int .i64 i)]) ?_ (Zv _) ⟨⟨hA0,fun _ _ _=>rfl,Zn _,qcI,fun d hd=>by cases hd⟩,?_⟩
 ·rintro i t D ds hi ⟨hR,hs⟩;by_cases hlt:i<M.length
  ·refine(U1 h hg hl hO hW (Zi hlt) kAC ⟨ha,nC⟩ v3 v5 v7 hR hs).mono ?_;rintro e s' ⟨rfl,t',D',d',rfl,hR',hs'⟩;exact⟨hlt,t',D',d',rfl,hR',hs'⟩
  ·have e:i=M.length:=by omega
   subst e;obtain⟨hA,hf,hn,hnd,hds⟩:=hR;obtain⟨g1,g3,g5,g6,g7,g17,g18,g19,-⟩:=hs;have rl:jZ o w zI M M.length=dq o w zI M:=by unfold jZ;rw [qaz,ZL,List.replicate_zero,qap]
   rw [rl] at hA;have hal:=lR o w zI M;have l7:ai af D.get 300 (pw (a+3) 0)= .ok (.slice (some ⟨a+2,0,none⟩) M.length (2*M.length)):=aU LU rfl (v7.2.same (hf _ (by omega) (by omega))) rfl;have ll:aL af .len [300] [.slice (some ⟨a+2,0,none⟩) M.length (2*M.length)]= .ok (.int .i64 (M.length:Nat)):=ez LU;have ix:=IT hA (i:=M.length-1) (by omega);have ld:=UP hA (i:=M.length-1) (v:=(dq o w zI M).getD (M.length-1) zI) (by rw [qab,Zi (by omega)];rfl);have s1:aK .sub .i64 ((M.length:Nat):Int) ((1:Nat):Int)= .ok (.int .i64 (M.length-1:Nat)):=bm (by omega) (aR (by omega));simp only [pV] at g6 g7;apply W.run 20
   ·intro M;simp (disch:=decide+kernel) only [dA,ku,qaV,Aq,Zf,g18,g19];rfl
   apply W.q
   ·intro M;simp (disch:=decide+kernel) only [ku,qaV,Aq,Zf,g6,g7,l7,ll,bT,bA,hpos,s1,ix,ld];rfl
   apply W.q
   ·intro M;simp (disch:=omega) only [ku,qaV,Aq,Zf,g6];rfl
   apply W.run 20
   ·intro M;simp only [ku,qaV,Aq,Zf];rfl
   obtain⟨I,t1,t2,t3⟩:=eP ds D hnd (fun d hd=>(hds d hd).2.2);refine⟨.inr rfl,I,_,t1,(by simp only [qaV,Aq,Zf]<;>rfl),rfl,by omega,fun z hz=>?_⟩;rw [t3 z (fun hm=>by have:=(hds z hm).1;omega),hf z (by omega) (by omega),kAC.2 z (by omega)]
 ·simp only [Sq,Zf,Zg,pV]
noncomputable def kx:Code:=qaW.body.getD .skip
noncomputable def dB:Code:=sub kx [1,1,0,1,0,0]
theorem QC:qaW.body=some (.seq (sub kx [0]) (.seq (sub kx [1,0]) (.seq (.seq (sub kx [1,1,0,0]) (.block 0 (.loop dB))) (.seq (sub kx [1,1,1,0]) (.seq (sub kx [1,1,1,1,0]) (sub kx [1,1,1,1,1])))))):=by kernel_rfl
theorem Kb:dB=(.seq (sub dB [0]) (.seq (sub dB [1,0]) (.seq (.block 1 (.seq (sub dB [1,1,0,0,0]) (.seq (sub dB [1,1,0,0,1,0]) (.seq (sub dB [1,1,0,0,1,1,0]) (.block 2 (.rangeFunc (.tmp 32) #[33,34] (sub dB [1,1,0,0,1,1,1,0,0]) (sub dB [1,1,0,0,1,1,1,0,1]))))))) (sub dB [1,1,1])))):=by kernel_rfl
noncomputable def gq (t:T Value) (d:Nat):eY:=ig t 62 [33,34] (sub dB [1,1,0,0,1,1,1,0,0]) (sub dB [1,1,0,0,1,1,1,0,1]) d
def BO (o:a6→dM) (w:dM→dM→Nat→dM) (M:List a6) (i:Nat) (s:a6) (ab lp:Nat) (x:Value) (L:eY) (j:Nat) (D:Mem):Prop:=
 aq D 259 3 ab (((jZ o w zG M i).set i (jx o w zG (dq o w zG (M.take i)) s j)).map bS) x∧D.get lp=some (.loop L)∧lp<D.next
theorem KJ {o:a6→dM} {w:dM→dM→Nat→dM} {s:a6} {ab lp:Nat} {x:Value} {L:eY} (j:Nat) (D E:Mem) (h:BO o w M i s ab lp x L j D) (k:Kp D E):BO o w M i s ab lp x L j E:=
 ⟨h.1.same k.1 (k.2 ab),by rw [k.2 _ h.2.2];exact h.2.1,ZJ h.2.2 k.1⟩
def FQ (fo:FuncId) (o:a6→dM):Prop:=∀(D:Mem) (x:Value) (s:a6),∃E,bJ af fo [.agg ⟨cZ x s⟩] D (kL (o s)) E∧Kp D E
def wW (fw:FuncId) (o:a6→dM) (w:dM→dM→Nat→dM) (M:List a6):Prop:=∀(D:Mem) (i j:Nat) (s:a6) (a:cL),M[i]?=some s→s.arcs[j]?=some a→
 ∃E,bJ af fw [kL (jx o w zG (dq o w zG (M.take i)) s j),kL ((dq o w zG (M.take i)).getD a.to zG),.int .u64 a.out] D (kL (jx o w zG (dq o w zG (M.take i)) s (j+1))) E∧Kp D E
theorem Vz {o:a6→dM} {w:dM→dM→Nat→dM} {a lp:Nat} {s:a6} {x:Value} (hW:wW fw o w M) (hi:M[i]?=some s) (ht:∀a∈s.arcs,a.to<i)
 (v7:VB B 306 (a+4) (.var 1) [x]) (v8:VB B 3 p (.var 1) [.int .i64 i]) (v5:VB B 264 (a+1) (.var 1) [.func (.func fw) ⟨[]⟩ ⟨[]⟩]) (hp:a+4<p∧p<lp∧lp<B.next)
 (hs:Sl t [(5,pV (a+1)),(7,pV (a+4)),(8,pV p)]):Mh B (a+3) lp s (BO o w M i s (a+3) lp x (gq t d)):=by
 rintro j c D hj ⟨hA,hL,hlt⟩ hn hf;obtain⟨g5,g7,g8,-⟩:=hs;obtain⟨p1,p2,p3⟩:=hp;have hil:=(Zl.1 hi).1;have hto:=ht c (ZM hj);have hrl:=s9 o w zG (i:=i) (M:=M) (by omega);have sE:aT af (D.alloc (aa 305 [.int .i64 (0:Nat),.int .u64 (0:Nat)])) 305 (pw D.next 0) (rJ c)= .ok (D.alloc (aa 305 [.int .i64 c.to,.int .u64 c.out])):=a_ (by kernel_rfl) rfl rfl (by simp) (by simp [aH]);have z305:bO af 305= .ok (.agg ⟨[.int .i64 (0:Nat),.int .u64 (0:Nat)]⟩):=by kernel_rfl
 have f0:∀b,ak af 305 (pw b 0) 0= .ok (pw b 0):=fun b=>by kernel_rfl
 have f1:∀b,ak af 305 (pw b 0) 1= .ok (pw b 1):=fun b=>by kernel_rfl
 have kE:=Kp.alloc D (aa 305 [.int .i64 c.to,.int .u64 c.out]);have vE:=az D 305 [.int .i64 c.to,.int .u64 c.out];have nE:(D.alloc (aa 305 [.int .i64 c.to,.int .u64 c.out])).next=D.next+1:=ae _ _
 generalize D.alloc (aa 305 [.int .i64 c.to,.int .u64 c.out])=E at sE kE vE nE;have hLE:E.get lp=some (.loop (gq t d)):=by rw [kE.2 _ hlt];exact hL
 generalize hF:E.set lp (.loop {gq t d with state:=.busy})=F;have nF:F.next=E.next:=by rw [←hF];exact aO _ _ _
 have fF:∀z,z≠lp→F.get z=E.get z:=fun z hz=>by rw [←hF,aC,if_neg hz]
 have hLF:F.get lp=some (.loop {gq t d with state:=.busy}):=by rw [←hF,aC,if_pos rfl]
 have hBF:∀z,z<B.next→z≠a+3→z≠lp→F.get z=B.get z:=fun z hz h1 h2=>by rw [fF z h2,kE.2 z (by omega),hf z hz h1 h2]
 have hAF:=hA.same (A':=F) (by omega) fun hlt=>by rw [fF _ (by omega),kE.2 _ hlt]
 obtain⟨G,⟨g,hg⟩,kG⟩:=hW F i j s c hi hj;have eJ:∀e z k l,VB B e z k l→z≠a+3→z≠lp→VB F e z k l:=fun e z k l h h1 h2=>⟨by have:=h.1;omega,h.2.same (hBF z h.1 h1 h2)⟩
 have w7:=eJ _ _ _ _ v7 (by omega) (by omega);have w8:=eJ _ _ _ _ v8 (by omega) (by omega);have w5:=eJ _ _ _ _ v5 (by omega) (by omega);have l7:∀G,Kp F G→ai af G.get 306 (pw (a+4) 0)= .ok x:=fun G h=>(w7.kp h).ld rfl LV rfl
 have l8:∀G,Kp F G→ai af G.get 3 (pw p 0)= .ok (.int .i64 i):=fun G h=>(w8.kp h).ld rfl u3 rfl
 have l5:ai af F.get 264 (pw (a+1) 0)= .ok (.func (.func fw) ⟨[]⟩ ⟨[]⟩):=by
  obtain⟨d,hd1,hd2⟩:=bg (t:=264) (p:=false) (by kernel_rfl);exact w5.ld rfl hd1 hd2
 have r7:=l7 F (Kp.refl _);have r8:=l8 F (Kp.refl _);have r7':=l7 G kG;have r8':=l8 G kG;have vF:VB F 305 D.next (.var 2) [.int .i64 c.to,.int .u64 c.out]:=⟨by omega,vE.2.same (fF _ (by omega))⟩
 have e0:ai af F.get 3 (pw D.next 0)= .ok (.int .i64 c.to):=vF.ld rfl u3 rfl;have e1:ai af F.get 103 (pw D.next 1)= .ok (.int .u64 c.out):=vF.ld rfl eK rfl;have i1:=IS hAF (i:=i) (by rw [ZR];omega);have i2:=IS hAF (i:=c.to) (by rw [ZR];omega);have d1:=UO hAF (i:=i) (by rw [qaj,if_pos rfl,if_pos (by omega)]);have d2:=UO hAF (i:=c.to) (Jl o w zG (by omega) hto _);have hAG:=hAF.same kG.1 (kG.2 _);obtain⟨H,sH,hAH,nH,fH⟩:=Xk (v:=jx o w zG (dq o w zG (M.take i)) s (j+1)) hAG (i:=i) (by rw [ZR];omega);rw [List.set_set] at hAH;have nG:=kG.1;have hLH:H.get lp=some (.loop {gq t d with state:=.busy}):=by rw [fH _ (by omega),kG.2 _ (by omega)];exact hLF
 have sx:bP 100 x x=true:=(aq.BE (by omega) hAF).self 99;have si:=dP .i64 i rfl;simp only [pV] at g5 g7 g8;have hq:∃C,(∃g,∀N,g≤N→bc af (exec af N) (.round lp [.int .u8 (c.byte.toNat:Nat),rJ c]) D= .ok (.val (.bool true) C))∧C=H.set lp (.loop (gq t d)):=by
  refine iF hL (t:=(t.set 33 (.int .u8 (c.byte.toNat:Nat))).set 34 (rJ c)) rfl ?_;show W af (sub dB [1,1,0,0,1,1,1,0,0]) ⟨_,62,[],D,some lp⟩ _;apply W.run 20
  ·intro M;simp (disch:=first|decide+kernel|omega) only [dB,kx,qaW,Aq,Zf,z305,aj,sE];rfl
  refine⟨rfl,_,hLE,rfl,?_⟩;show W af (sub dB [1,1,0,0,1,1,1,0,1]) ⟨_,62,[],E.set lp (.loop {gq t d with state:=.busy}),some lp⟩ _;rw [hF];apply W.bf (g) 20
  ·intro M hM;simp (config:={maxSteps:=4000000}) (disch:=first|decide+kernel|omega|simp only [Wq,Zf]) only [dB,kx,qaW,Aq,Zj,reduceIte,Zf,Zg,g5,g7,g8,r7,r8,r7',r8',l5,f0,f1,e0,e1,i1,i2,d1,d2,hg,sH,sx,si,Fq,au [(0,14),(1,14)]];rfl
  exact⟨rfl,rfl,_,hLH,rfl⟩
 obtain⟨C,hc,rfl⟩:=hq;have fr:∀z,z≠lp→(H.set lp (.loop (gq t d))).get z=H.get z:=fun z hz=>by rw [aC,if_neg hz]
 have nr:(H.set lp (.loop (gq t d))).next=H.next:=aO _ _ _
 refine⟨_,hc,⟨hAH.same (by omega) fun _=>fr _ (by omega),by rw [aC,if_pos rfl],by omega⟩,by omega,fun z hz h1 h2=>?_⟩;rw [fr z h2,fH z h1,kG.2 z (by omega),fF z h2,kE.2 z hz]
def FT (o:a6→dM) (w:dM→dM→Nat→dM) (M:List a6) (B:Mem) (a:Nat) (x:Value) (i:Nat) (D:Mem) (ds:List Nat):Prop:=
 aq D 259 3 (a+3) ((jZ o w zG M i).map bS) x∧(∀z,z<B.next→z≠a+3→D.get z=B.get z)∧B.next≤D.next∧ds.Nodup∧∀d∈ds,B.next≤d∧d<D.next∧D.get d=some .defd
theorem YD:bO af 306= .ok (.slice none 0 0):=by kernel_rfl
theorem U2 {fo:FuncId} {o:a6→dM} {w:dM→dM→Nat→dM} {D:Mem} {k x:Value} {a:Nat} {s:a6} {ds:List Nat} (h:dY A M y) (hg:de M) (hl:M.length<1000000) (hO:FQ fo o) (hW:wW fw o w M) (hi:M[i]?=some s)
 (hB:Kp A B) (ha:A.next=a∧B.next=a+4+1) (v3:VB B 105 a (.var 2) [y,k]) (v5:VB B 264 (a+1) (.var 1) [.func (.func fw) ⟨[]⟩ ⟨[]⟩]) (v7:VB B 306 (a+4) (.var 1) [x]) (hR:FT o w M B a x i D ds)
 (hs:Sl t [(1,.func (.func fo) ⟨[]⟩ ⟨[]⟩),(3,pV a),(5,pV (a+1)),(6,pV (a+2)),(7,pV (a+4)),(17,y),(18,.int .i64 M.length),(19,.int .i64 i)]):
 W af dB ⟨t,62,ds,D,none⟩ fun e s'=>e= .nrm∧∃t' D' d',s'=⟨t',62,d',D',none⟩∧FT o w M B a x (i+1) D' d'∧
  Sl t' [(1,.func (.func fo) ⟨[]⟩ ⟨[]⟩),(3,pV a),(5,pV (a+1)),(6,pV (a+2)),(7,pV (a+4)),(17,y),(18,.int .i64 M.length),(19,.int .i64 (i+1:Nat))]:=by
 obtain⟨hA,hf,hn,hnd,hds⟩:=hR;obtain⟨g1,g3,g5,g6,g7,g17,g18,g19,-⟩:=hs;obtain⟨ha1,ha2⟩:=ha;have hil:=(Zl.1 hi).1;obtain⟨-,k2,k3,-,-⟩:=hg i s hi;have hfew:=kX (hg i s hi);have hrl:=s9 o w zG (i:=i) (M:=M) (by omega);have kAD:Kp A D:=⟨by omega,fun z hz=>by rw [hf z (by omega) (by omega),hB.2 z hz]⟩;obtain⟨xs,p,q,i1,i2,hx,i4⟩:=(h.kp kAD).get hi;have i5:=(i4 D (Kp.refl _)).1;have k1:=Kp.alloc D (aa 3 [.int .i64 (0:Nat)]);have n1:(D.alloc (aa 3 [.int .i64 (0:Nat)])).next=D.next+1:=ae _ _
 have n2:((D.alloc (aa 3 [.int .i64 (0:Nat)])).alloc (aa 164 [.slice none 0 0,.bool false,.int .u64 (0:Nat)])).next=D.next+2:=by rw [ae,n1]
 have w1:=(az D 3 [.int .i64 (0:Nat)]).kp (Kp.alloc _ (aa 164 [.slice none 0 0,.bool false,.int .u64 (0:Nat)]));have w2:=az (D.alloc (aa 3 [.int .i64 (0:Nat)])) 164 [.slice none 0 0,.bool false,.int .u64 (0:Nat)];have k2':=k1.trans (Kp.alloc _ (aa 164 [.slice none 0 0,.bool false,.int .u64 (0:Nat)]));rw [n1] at w2;obtain⟨E1,sE1,u1,m1,fE1⟩:=aY (tb:=af) (t:=3) (o:=0) (v:=.int .i64 i) P6 w1.2 (by simp) rfl rfl;obtain⟨E,sE,u2,m2,fE⟩:=bK (tb:=af) (t:=164) (l':=cZ xs s) (by exact mH) (w2.2.same (fE1 _ (by omega))) rfl (by simp) (HJ hx);have hzero3:bO af 3= .ok (.int .i64 (0:Nat)):=gv;have fED:∀z,z<D.next→E.get z=D.get z:=fun z hz=>by rw [fE z (by omega),fE1 z (by omega),k2'.2 z hz]
 have kDE:Kp D E:=⟨by omega,fED⟩;have V8:VB E 3 D.next (.var 1) [.int .i64 i]:=⟨by omega,u1.same (fE _ (by omega))⟩
 have V9:VB E 164 (D.next+1) (.var 3) (cZ xs s):=⟨by omega,u2⟩;have eJ:∀e z k l,VB B e z k l→z≠a+3→VB E e z k l:=fun e z k l h h1=>⟨by have:=h.1;omega,h.2.same (by rw [fED z (by have:=h.1;omega),hf z h.1 h1])⟩
 have V7:=eJ _ _ _ _ v7 (by omega);have V3:=eJ _ _ _ _ v3 (by omega);have V5:=eJ _ _ _ _ v5 (by omega);have hAE:=hA.same kDE.1 (kDE.2 _);obtain⟨F,⟨gf,hgf⟩,kF⟩:=hO E xs s;obtain⟨d,hd1,hd2⟩:=bg (t:=164) (p:=true) (by kernel_rfl);have l9:ai af E.get 164 (pw (D.next+1) 0)= .ok (.agg ⟨cZ xs s⟩):=aI hd1 hd2 (l:=cZ xs s) mH V9.2;have l7:∀G,Kp E G→ai af G.get 306 (pw (a+4) 0)= .ok x:=fun G h=>(V7.kp h).ld rfl LV rfl
 have l8:∀G,Kp E G→ai af G.get 3 (pw D.next 0)= .ok (.int .i64 i):=fun G h=>(V8.kp h).ld rfl u3 rfl
 have r7:=l7 E (Kp.refl _);have r8:=l8 E (Kp.refl _);have r7':=l7 F kF;have r8':=l8 F kF;have ix:=IS hAE (i:=i) (by omega);obtain⟨G,sG,hAG,nG,fG⟩:=Xk (v:=o s) (hAE.same kF.1 (kF.2 _)) (i:=i) (by omega);have sx:bP 100 x x=true:=(aq.BE (by omega) hA).self 99;have si:=dP .i64 i rfl;have nF:=kF.1;have nE:E.next=D.next+2:=by omega
 have fGE:∀z,z<E.next→z≠a+3→G.get z=E.get z:=fun z hz h=>by rw [fG z h,kF.2 z hz]
 have lG8:ai af G.get 3 (pw D.next 0)= .ok (.int .i64 i):=aU u3 rfl (V8.2.same (fGE _ (by omega) (by omega))) rfl;obtain⟨d2,hd3,hd4⟩:=bg (t:=105) (p:=true) (by kernel_rfl);have lG3:ai af G.get 105 (pw a 0)= .ok (.agg ⟨[y,k]⟩):=aI hd3 hd4 (l:=[y,k]) dz (V3.2.same (fGE _ (by omega) (by omega)));obtain⟨gw,hgw⟩:=zh (A:=G) (y:=y) (k:=k) (n:=i);have x1:=(az G 105 [y,k]).kp (Kp.alloc _ (aa 3 [.int .i64 i]));have x2:=az (G.alloc (aa 105 [y,k])) 3 [.int .i64 i];have y1:(G.alloc (aa 105 [y,k])).next=G.next+1:=ae _ _
 have y2:((G.alloc (aa 105 [y,k])).alloc (aa 3 [.int .i64 i])).next=G.next+2:=by rw [ae,y1]
 have kH:=(Kp.alloc G (aa 105 [y,k])).trans (Kp.alloc _ (aa 3 [.int .i64 i]));rw [y1] at x2;generalize (G.alloc (aa 105 [y,k])).alloc (aa 3 [.int .i64 i])=H at hgw x1 x2 y2 kH;simp only [pV] at g3 g5 g7 hgw;rw [Kb];apply W.q
 ·intro M;simp (disch:=decide+kernel) only [dB,kx,qaW,Aq,Zf,g18,g19,hil];rfl
 apply W.q
 ·intro M;simp only [dB,kx,qaW,Aq,Zf];rfl
 apply W.seq;apply W.block;apply W.q
 ·intro M;simp (disch:=omega) only [dB,kx,qaW,Aq,Zf,g17,g19,i1,i5,hzero3,jA,aj,dc,n1,sE1,sE];rfl
 apply W.qG (gf)
 ·intro M hM;simp (config:={maxSteps:=4000000}) (disch:=first|decide+kernel|omega|simp only [Wq,Zf]) only [dB,kx,qaW,Aq,Zj,reduceIte,Zf,Zg,g1,g7,r7,r8,l9,hgf,ix,r7',r8',sx,si,sG,Fq,au [(0,4),(1,4)]];rfl
 apply W.qG (gw)
 ·intro M hM;simp (disch:=omega) only [dB,kx,qaW,Aq,Zf,g3,lG3,lG8,hgw];rfl
 apply W.block;generalize ht0:T.set _ _ _=t0;have hsl:Sl t0 [(1,.func (.func fo) ⟨[]⟩ ⟨[]⟩),(3,pV a),(5,pV (a+1)),(6,pV (a+2)),(7,pV (a+4)),(8,pV D.next),(17,y),(18,.int .i64 M.length),(19,.int .i64 i),(32,.func (.func 233) ⟨[]⟩ ⟨[pV G.next,pV (G.next+1)]⟩)]:=by
  rw [←ht0];simp only [Sq,Zf,Zg,g1,g3,g5,g6,g7,g17,g18,g19,pV]
 clear ht0;obtain⟨h1,h3,h5,h6,h7,h8,h17,h18,h19,h32,-⟩:=hsl;have kJ:=(Kp.alloc H .defd).trans (Kp.alloc (H.alloc .defd) (.loop (gq t0 H.next)));have nJ1:(H.alloc .defd).next=H.next+1:=ae _ _
 have nJ:((H.alloc .defd).alloc (.loop (gq t0 H.next))).next=H.next+2:=by rw [ae,nJ1]
 have jL:((H.alloc .defd).alloc (.loop (gq t0 H.next))).get (H.next+1)=some (.loop (gq t0 H.next)):=by have:=ay (H.alloc .defd) (.loop (gq t0 H.next));rwa [nJ1] at this
 have jM:((H.alloc .defd).alloc (.loop (gq t0 H.next))).get H.next=some .defd:=by rw [(Kp.alloc (H.alloc .defd) _).2 _ (by omega)];exact ay H .defd
 generalize hJ:(H.alloc .defd).alloc (.loop (gq t0 H.next))=J at kJ nJ jL jM;have kGJ:=kH.trans kJ;have toJ:∀e z k l,VB E e z k l→z≠a+3→VB J e z k l:=fun e z k l h h1=>VB.kp (A:=G) ⟨by have:=h.1;omega,h.2.same (fGE z h.1 h1)⟩ kGJ
 have hJA:BO o w M i s (a+3) (H.next+1) x (gq t0 H.next) 0 J:=⟨hAG.same kGJ.1 (kGJ.2 _),jL,by omega⟩;have fJD:∀z,z<D.next→z≠a+3→J.get z=D.get z:=fun z hz h=>by rw [kGJ.2 z (by omega),fGE z (by omega) h,fED z hz]
 have kAJ:Kp A J:=⟨by omega,fun z hz=>by rw [fJD z (by omega) (by omega),kAD.2 z hz]⟩;obtain⟨v,C,hC,⟨c1,c2,c3⟩,nC,fC⟩:=Fk (A:=A) (B:=J) (q:=G.next) (ab:=a+3) (lp:=H.next+1) (k:=k) h hi k3 k2 hfew hl kAJ (x1.kp kJ) (x2.kp kJ) ⟨by omega,by omega,by omega,by omega,by omega,by omega,by omega,by omega⟩ KJ
  (Vz hW hi k3 (toJ _ _ _ _ V7 (by omega)) (toJ _ _ _ _ V8 (by omega)) (toJ _ _ _ _ V5 (by omega)) ⟨by omega,by omega,by omega⟩ ⟨h5,h7,h8,trivial⟩) hJA
 refine W.yY (fid:=233) (first:=[]) (capt:=[pV G.next,pV (G.next+1)]) (v:=v) (A':=C) (r:=gq t0 H.next) (e:=.nrm) (by simp only [ev,h32]) (by show bJ af 233 _ ((H.alloc .defd).alloc (.loop (gq t0 H.next))) v C;rw [hJ];exact hC) c2 (by simp [gq,ig]) (.inl ⟨rfl,rfl⟩) ?_;have c1:aq C 259 3 (a+3) ((jZ o w zG M (i+1)).map bS) x:=by rw [←Br o w zG hi];exact c1
 generalize hK:C.set (H.next+1) (.loop {gq t0 H.next with state:=.exhausted})=K;have nK:K.next=C.next:=by rw [←hK];exact aO _ _ _
 have fK:∀z,z≠H.next+1→K.get z=C.get z:=fun z hz=>by rw [←hK,aC,if_neg hz]
 show W af (sub dB [1,1,1]) _ _;apply W.run 20
 ·intro M;simp (disch:=first|decide+kernel|omega) only [dB,kx,qaW,Aq,Zf,h19];rfl
 have hJK:∀z,z<J.next→z≠a+3→z≠H.next+1→K.get z=J.get z:=fun z hz h1 h2=>by rw [fK z h2,fC z hz h1 h2]
 refine⟨rfl,_,K,_,rfl,⟨c1.same (by omega) fun _=>fK _ (by omega),fun z hz h1=>by rw [hJK z (by omega) h1 (by omega),fJD z (by omega) h1,hf z hz h1],by omega,qb5.2 ⟨fun hm=>?_,hnd⟩,fun d hd=>?_⟩,?_⟩
 ·have:=hds _ hm;omega
 ·rcases ZC.1 hd with rfl|hd
  ·exact⟨by omega,by omega,by rw [hJK _ (by omega) (by omega) (by omega),jM]⟩
  ·obtain⟨e1,e2,e3⟩:=hds d hd;exact⟨e1,by omega,by rw [hJK _ (by omega) (by omega) (by omega),fJD _ e2 (by omega),e3]⟩
 ·simp only [Sq,Zf,Zg,h1,h3,h5,h6,h7,h17,h18,pV]
theorem Hm {fo:FuncId} {o:a6→dM} {w:dM→dM→Nat→dM} {k:Value} (h:dY A M y) (hg:de M) (hM:M≠ []) (hl:M.length<1000000) (hO:FQ fo o) (hW:wW fw o w M):
 ∃v A',bJ af 176 [.agg ⟨[y,k]⟩,.func (.func fo) ⟨[]⟩ ⟨[]⟩,.func (.func fw) ⟨[]⟩ ⟨[]⟩] A v A'∧v=kL ((dq o w zG M).getD (M.length-1) zG)∧Kp A A':=by
 refine dQ (av Tryz.func176) QC (by rw [Tryz.ntmps176];simp) (by kernel_rfl) (by kernel_rfl) ?_;generalize ha:A.next=a
 have hpos:=ZW.2 hM;have n1:(A.alloc (aa 105 [y,k])).next=a+1:=by rw [ae,ha]
 have n2:((A.alloc (aa 105 [y,k])).alloc (aa 264 [.func (.func fw) ⟨[]⟩ ⟨[]⟩])).next=a+2:=by rw [ae,n1]
 have n3:(((A.alloc (aa 105 [y,k])).alloc (aa 264 [.func (.func fw) ⟨[]⟩ ⟨[]⟩])).alloc (aa 259 (bS zG))).next=a+3:=by rw [ae,n2]
 have kB2:=Kp.alloc ((A.alloc (aa 105 [y,k])).alloc (aa 264 [.func (.func fw) ⟨[]⟩ ⟨[]⟩])) (aa 259 (bS zG));have kB:=((Kp.alloc A (aa 105 [y,k])).trans (Kp.alloc _ (aa 264 [.func (.func fw) ⟨[]⟩ ⟨[]⟩]))).trans kB2;have v3:=((az A 105 [y,k]).kp (Kp.alloc _ (aa 264 [.func (.func fw) ⟨[]⟩ ⟨[]⟩]))).kp kB2;have v5:=(az (A.alloc (aa 105 [y,k])) 264 [.func (.func fw) ⟨[]⟩ ⟨[]⟩]).kp kB2;have v6:=az ((A.alloc (aa 105 [y,k])).alloc (aa 264 [.func (.func fw) ⟨[]⟩ ⟨[]⟩])) 259 (bS zG);have z259:bO af 259= .ok (.agg ⟨bS zG⟩):=by kernel_rfl
 rw [ha] at v3;rw [n1] at v5;rw [n2] at v6;apply W.q
 ·intro M;simp (disch:=omega) only [kx,qaW,Aq,Zf,aj,cF,ha,n1,n2,z259];rfl
 generalize ((A.alloc (aa 105 [y,k])).alloc (aa 264 [.func (.func fw) ⟨[]⟩ ⟨[]⟩])).alloc (aa 259 (bS zG))=B at*;have hS:=h.kp kB;have lB:ai af B.get 102 (pw a 0)= .ok y:=v3.ld rfl fP rfl;have cm:=hS.len;have mk:=Yd (n:=M.length) (by omega);have nB:B.next=a+3:=by assumption
 have n4:(B.alloc (aa 259 ((Z4 M.length zG).map bS).flatten)).next=a+4:=by rw [ae,nB]
 have kC:=(Kp.alloc B (aa 259 ((Z4 M.length zG).map bS).flatten)).trans (Kp.alloc _ (aa 306 [.slice (some ⟨a+3,0,none⟩) M.length (2*M.length)]));have vr:=(az B 259 ((Z4 M.length zG).map bS).flatten).kp (Kp.alloc _ (aa 306 [.slice (some ⟨a+3,0,none⟩) M.length (2*M.length)]));have v7:=az (B.alloc (aa 259 ((Z4 M.length zG).map bS).flatten)) 306 [.slice (some ⟨a+3,0,none⟩) M.length (2*M.length)];have sC:aT af ((B.alloc (aa 259 ((Z4 M.length zG).map bS).flatten)).alloc (aa 306 [.slice none 0 0])) 306 (pw ((B.alloc (aa 259 ((Z4 M.length zG).map bS).flatten)).next) 0) (.slice (some ⟨a+3,0,none⟩) M.length (2*M.length))= .ok _:=a_ (l':=[.slice (some ⟨a+3,0,none⟩) M.length (2*M.length)]) Sk rfl rfl (by simp) (by simp [aH]);have nC:((B.alloc (aa 259 ((Z4 M.length zG).map bS).flatten)).alloc (aa 306 [.slice (some ⟨a+3,0,none⟩) M.length (2*M.length)])).next=a+4+1:=by rw [ae,n4]
 rw [n4] at v7 sC;rw [nB] at vr;apply W.q
 ·intro M;simp (disch:=decide+kernel) only [kx,qaW,Aq,Zf,dm,lB,cm,mk,nB,YD,n4,sC];rfl
 generalize (B.alloc (aa 259 ((Z4 M.length zG).map bS).flatten)).alloc (aa 306 [.slice (some ⟨a+3,0,none⟩) M.length (2*M.length)])=C at*;have kAC:=kB.trans kC;have hSC:=h.kp kAC;have v3:=v3.kp kC;have v5:=v5.kp kC;have v6:=v6.kp kC;have lC:ai af C.get 102 (pw a 0)= .ok y:=v3.ld rfl fP rfl;have lenC:=hSC.len;have r0:jZ o w zG M 0=Z4 M.length zG:=by unfold jZ;rw [qaQ];rfl
 have hA0:aq C 259 3 (a+3) ((jZ o w zG M 0).map bS) (.slice (some ⟨a+3,0,none⟩) M.length (2*M.length)):=by
  rw [r0];exact .inr ⟨_,_,by rw [Zp,qb4],vr.1,vr.2,fun l hl=>by
   obtain⟨_,_,rfl⟩:=ZX.1 hl;rfl,.inl (by rw [Zp,qb4])⟩
 apply W.seq;apply W.q
 ·intro M;simp (disch:=decide+kernel) only [kx,qaW,Aq,Zf,dm,lC,lenC];rfl
 apply W.block;refine W.YT M.length (fun i t D ds=>FT o w M C a (.slice (some ⟨a+3,0,none⟩) M.length (2*M.length)) i D ds∧Sl t [(1,.func (.func fo) ⟨[]⟩ ⟨[]⟩),(3,pV a),(5,pV (a+1)),(6,pV (a+2)),(7,pV (a+4)),(17,y),(18,.int .i64 M.length),(19,.int .i64 i)]) ?_ (Zv _) ⟨⟨hA0,fun _ _ _=>rfl,Zn _,qcI,fun d hd=>by cases hd⟩,?_⟩
 ·rintro i t D ds hi ⟨hR,hs⟩;by_cases hlt:i<M.length
  ·refine(U2 h hg hl hO hW (Zi hlt) kAC ⟨ha,nC⟩ v3 v5 v7 hR hs).mono ?_;rintro e s' ⟨rfl,t',D',d',rfl,hR',hs'⟩;exact⟨hlt,t',D',d',rfl,hR',hs'⟩
  ·have e:i=M.length:=by omega
   subst e;obtain⟨hA,hf,hn,hnd,hds⟩:=hR;obtain⟨g1,g3,g5,g6,g7,g17,g18,g19,-⟩:=hs;have rl:jZ o w zG M M.length=dq o w zG M:=by unfold jZ;rw [qaz,ZL,List.replicate_zero,qap]
   rw [rl] at hA;have hal:=lR o w zG M;have l7:ai af D.get 306 (pw (a+4) 0)= .ok (.slice (some ⟨a+3,0,none⟩) M.length (2*M.length)):=aU LV rfl (v7.2.same (hf _ (by omega) (by omega))) rfl;have ll:aL af .len [306] [.slice (some ⟨a+3,0,none⟩) M.length (2*M.length)]= .ok (.int .i64 (M.length:Nat)):=ez LV;have ix:=IS hA (i:=M.length-1) (by omega);have ld:=UO hA (i:=M.length-1) (v:=(dq o w zG M).getD (M.length-1) zG) (by rw [qab,Zi (by omega)];rfl);have s1:aK .sub .i64 ((M.length:Nat):Int) ((1:Nat):Int)= .ok (.int .i64 (M.length-1:Nat)):=bm (by omega) (aR (by omega));simp only [pV] at g6 g7;obtain⟨E1,sE1,w1,m1,fE1⟩:=bK (tb:=af) (t:=259) (l':=bS ((dq o w zG M).getD (M.length-1) zG)) (by exact wO) (v6.2.same (hf _ (by omega) (by omega))) rfl (by simp [bS]) (G9 _);obtain⟨E,sE,w2,m2,fE⟩:=bK (tb:=af) (t:=259) (l':=bS ((dq o w zG M).getD (M.length-1) zG)) (by exact wO) w1 rfl (by simp [bS]) (G9 _);obtain⟨d,hd1,hd2⟩:=bg (t:=259) (p:=true) (by kernel_rfl);have l6:ai af E1.get 259 (pw (a+2) 0)= .ok (.agg ⟨bS ((dq o w zG M).getD (M.length-1) zG)⟩):=aI hd1 hd2 wO w1;unfold kL at ld;apply W.run 20
   ·intro M;simp (disch:=decide+kernel) only [dB,kx,qaW,Aq,Zf,g18,g19];rfl
   apply W.q
   ·intro M;simp (disch:=decide+kernel) only [kx,qaW,Aq,Zf,g6,g7,l7,ll,bT,bA,hpos,s1,ix,ld,sE1];rfl
   apply W.q
   ·intro M;simp (disch:=omega) only [kx,qaW,Aq,Zf,g6,l6,sE];rfl
   apply W.run 20
   ·intro M;simp only [kx,qaW,Aq,Zf];rfl
   obtain⟨I,t1,t2,t3⟩:=eP ds E hnd (fun d hd=>by
    obtain⟨e1,e2,e3⟩:=hds d hd;rw [fE _ (by omega),fE1 _ (by omega),e3])
   have l8:ai af I.get 259 (pw (a+2) 0)= .ok (.agg ⟨bS ((dq o w zG M).getD (M.length-1) zG)⟩):=aI hd1 hd2 wO (w2.same (t3 _ (fun hm=>by have:=(hds _ hm).1;omega)));refine⟨.inr rfl,I,_,t1,(by simp only [qaW,g6,l8,Aq,Zf]<;>rfl),rfl,by omega,fun z hz=>?_⟩;rw [t3 z (fun hm=>by have:=(hds z hm).1;omega),fE z (by omega),fE1 z (by omega),hf z (by omega) (by omega),kAC.2 z (by omega)]
 ·simp only [Sq,Zf,Zg,pV]
theorem rQ {T:Type} {o:a6→T} {w:T→T→Nat→T} {z:T} {R:Nat→T→Prop}
 (hs:∀i s,M[i]?=some s→(∀k,k<i→R k ((dq o w z (M.take i)).getD k z))→R i (jx o w z (dq o w z (M.take i)) s s.arcs.length)):∀i,i≤M.length→∀k,k<i→R k ((dq o w z (M.take i)).getD k z)
 |0,_,k,hk=>absurd hk (qaS _)
 |i+1,hi,k,hk=>by
  have ih:=rQ hs i (by omega);have hl:=lR o w z (M.take i);rw [ZD,qam (by omega)] at hl;rw [Aw o w z (Zi (show i<M.length by omega)),qab];rcases ZS k i with h|h
  ·rw [ZU (by omega),←qab];exact ih k h
  ·have e:k=i:=by omega
   subst e;rw [ZN (by omega),hl,qaz];exact hs k _ (Zi (show k<M.length by omega)) ih
theorem sW {T:Type} {o:a6→T} {w:T→T→Nat→T} {z:T} {acc:List T} {s:a6} {P:Nat→T→Prop} (h0:P 0 (o s)) (hs:∀j a x,s.arcs[j]?=some a→P j x→P (j+1) (w x (acc.getD a.to z) a.out)):∀j,j≤s.arcs.length→P j (jx o w z acc s j)
 |0,_=>h0
 |j+1,hj=>by
  have hsj:=Zi (show j<s.arcs.length by omega);rw [pL o w z hsj];exact hs j _ _ hsj (sW h0 hs j (by omega))
def oC (s:a6):Int:=if s.fin then 1 else 0
def wC (x c:Int) (_:Nat):Int:=min (x+c) 100001
theorem VK (g:de M) {s:a6} (h:M[i]?=some s):(ws M i).length=(if s.fin then 1 else 0)+(s.arcs.map fun a=>(ws M a.to).length).sum:=by
 rw [nP g h,Zo,List.length_flatMap];have e:(fun a=>(je M a).length)=fun a=>(ws M a.to).length:=by funext a;unfold je;rw [Zp]
 rw [e];cases s.fin<;>rfl
def L9 (M:List a6) (s:a6) (j:Nat) (x:Int):Prop:=x=((min ((if s.fin then 1 else 0)+((s.arcs.take j).map fun a=>(ws M a.to).length).sum) 100001:Nat):Int)
theorem Im (g:de M) {s:a6} (h:M[i]?=some s) (hk:∀k,k<i→(dq oC wC zI (M.take i)).getD k zI=((min (ws M k).length 100001:Nat):Int)):∀j,j≤s.arcs.length→L9 M s j (jx oC wC zI (dq oC wC zI (M.take i)) s j):=by
 refine sW ?_ fun j a x hj hx=>?_
 ·unfold L9 oC;rw [qaQ];cases s.fin<;>rfl
 ·obtain⟨hjl,ha⟩:=Zl.1 hj;unfold L9 at hx⊢;rw [hk a.to ((g i s h).2.2.1 a (ZM hj)),hx,Zs hjl,Z3,List.sum_append,ha];simp only [qar,qc9,List.sum_cons,List.sum_nil,wC];generalize (qcW (fun a=>(ws M a.to).length) (List.take j s.arcs)).sum=p;generalize (if s.fin=true then 1 else 0)=q;omega
theorem Il (g:de M):∀i,i≤M.length→∀k,k<i→(dq oC wC zI (M.take i)).getD k zI=((min (ws M k).length 100001:Nat):Int):=
 rQ (R:=fun k v=>v=((min (ws M k).length 100001:Nat):Int)) fun i s h hk=>by
  have:=Im g h hk s.arcs.length (Zn _);unfold L9 at this;rw [ZL,←VK g h] at this;exact this
theorem W_:BP 172 oC:=fun D x s=>by
 have v:=az D 164 (cZ x s);refine⟨D.alloc (aa 164 (cZ x s)),?_,Kp.alloc _ _⟩;generalize hE:D.alloc (aa 164 (cZ x s))=E at v;have l1:ai af E.get 4 (.pointer (some ⟨D.next,0+1,none⟩))= .ok (.bool s.fin):=v.ld rfl u4 rfl;unfold tF oC;cases hf:s.fin with
 |true=>
  rw [hf] at l1;show bJ af 172 _ _ (.int .i64 (1:Nat)) _;refine aP (av Tryz.func172) (c:=qdM.body.getD .skip) (by kernel_rfl) (by rw [Tryz.ntmps172];simp) (by kernel_rfl) (by kernel_rfl) ?_;apply W.run 60
  ·intro M;simp (disch:=omega) only [qdM,Aq,Zf,aj,hE,cR,l1];rfl
  exact⟨by simp,rfl,rfl,by simp only [qdM,Aq,Zf,aj,hE,cR,l1]<;>rfl⟩
 |false=>
  rw [hf] at l1;show bJ af 172 _ _ (.int .i64 (0:Nat)) _;refine aP (av Tryz.func172) (c:=qdM.body.getD .skip) (by kernel_rfl) (by rw [Tryz.ntmps172];simp) (by kernel_rfl) (by kernel_rfl) ?_;apply W.run 60
  ·intro M;simp (disch:=omega) only [qdM,Aq,Zf,aj,hE,cR,l1];rfl
  exact⟨by simp,rfl,rfl,by simp only [qdM,Aq,Zf,aj,hE,cR,l1]<;>rfl⟩
variable {tb:bL}
theorem m_ {ts:List TypeId} {a b:Int}:aL tb .min ts [.int .i64 a,.int .i64 b]= .ok (.int .i64 (min a b)):=by
 have e:aL tb .min ts [.int .i64 a,.int .i64 b]= .ok (.int .i64 (bif nV b a then b else a)):=by cases ts<;>rfl
 rw [e,iY];by_cases h:b<a
 ·rw [decide_eq_true h,Int.min_eq_right (by omega)];rfl
 ·rw [decide_eq_false h,Int.min_eq_left (by omega)];rfl
theorem max_i64 {ts:List TypeId} {a b:Int}:aL tb .max ts [.int .i64 a,.int .i64 b]= .ok (.int .i64 (max a b)):=by
 have e:aL tb .max ts [.int .i64 a,.int .i64 b]= .ok (.int .i64 (bif nV a b then b else a)):=by cases ts<;>rfl
 rw [e,iY];by_cases h:a<b
 ·rw [decide_eq_true h,Int.max_eq_right (by omega)];rfl
 ·rw [decide_eq_false h,Int.max_eq_left (by omega)];rfl
variable {b:Nat}
theorem Rp {ts:List TypeId} {a:Nat}:aL tb .max ts [.int .u64 a,.int .u64 b]= .ok (.int .u64 (max a b:Nat)):=by
 have e:aL tb .max ts [.int .u64 a,.int .u64 b]= .ok (.int .u64 (bif Zt a b then(b:Int) else(a:Int))):=by cases ts<;>rfl
 rw [e];cases h:Zt a b with
 |true=>
  have q:a<b:=by simpa [ZB] using h
  rw [qcY (by omega)];rfl
 |false=>
  have q:¬a<b:=by intro hx;rw [←ZB,h] at hx;cases hx
  rw [qdC (by omega)];rfl
theorem VA (g:de M):rP 173 oC wC M:=fun D i j s a hi hj=>by
 have hil:=(Zl.1 hi).1;have hk:=Il g i (by omega);have hp:=Im g hi hk j (by have:=(Zl.1 hj).1;omega);have hc:=hk a.to ((g i s hi).2.2.1 a (ZM hj));unfold L9 at hp;rw [pL oC wC zI hj,hp,hc];generalize (if s.fin=true then 1 else 0)+(qcW (fun a=>(ws M a.to).length) (List.take j s.arcs)).sum=p;generalize (ws M a.to).length=q;have a1:aK .add .i64 ((min p 100001:Nat):Int) ((min q 100001:Nat):Int)= .ok (.int .i64 (min p 100001+min q 100001:Nat)):=a8 (aR (by omega));have m1:=m_ (tb:=af) (ts:=[3,3]) (a:=((min p 100001+min q 100001:Nat):Int)) (b:=((100001:Nat):Int));have e:wC ((min p 100001:Nat):Int) ((min q 100001:Nat):Int) a.out=min ((min p 100001+min q 100001:Nat):Int) ((100001:Nat):Int):=by unfold wC;omega
 refine⟨D,?_,Kp.refl _⟩;unfold tF;rw [e];refine aP (av Tryz.func173) (c:=Tryz.f173.body.getD .skip) (by kernel_rfl) (by rw [Tryz.ntmps173];simp) (by kernel_rfl) (by kernel_rfl) ?_;apply W.run 60
 ·intro M;simp (disch:=decide+kernel) only [Tryz.f173,Aq,Zf,a1,m1];rfl
 exact⟨by simp,rfl,rfl,by simp only [Tryz.f173,Aq,Zf,a1,m1]<;>rfl⟩
theorem Ll {k:Value} (h:dY A M y) (hk:k.cells.toList=[k]∧aH k=true) (g:de M) (hM:M≠ []) (hl:M.length<1000000) (hw:(ws M (M.length-1)).length≤100000):
 ∃v A',bJ af 124 [.agg ⟨[y,k]⟩] A v A'∧v= .tuple ⟨[.int .i64 (((ws M (M.length-1)).length:Nat):Int),.bool true]⟩∧Kp A A':=by
 have kB:=Kp.alloc A (aa 105 [y,k]);have vB:=az A 105 [y,k];generalize hB:A.alloc (aa 105 [y,k])=B at kB vB;obtain⟨d,hd1,hd2⟩:=bg (t:=105) (p:=true) (by kernel_rfl);have lB:ai af B.get 105 (pw A.next 0)= .ok (.agg ⟨[y,k]⟩):=aI hd1 hd2 (l:=[y,k]) dz vB.2;obtain⟨v,C,⟨gc,hc⟩,rfl,kC⟩:=zd (h.kp kB) (k:=k) g hM hl W_ (VA g);have hpos:=ZW.2 hM;have hv:=Il g M.length (Zn _) (M.length-1) (by omega);rw [ZL,qam (by omega)] at hv;rw [hv] at hc;unfold tF at hc;have hn:¬100000<(ws M (M.length-1)).length:=by omega
 refine⟨_,C,?_,rfl,kB.trans kC⟩;refine aP (av Tryz.func124) (c:=Tryz.f124.body.getD .skip) (by kernel_rfl) (by rw [Tryz.ntmps124];simp) (by kernel_rfl) (by kernel_rfl) ?_;apply W.bf (gc) 60
 ·intro M hM;simp (disch:=first|decide+kernel|omega) only [Tryz.f124,Aq,Zf,aj,hB,lB,jN,hc,bT,bA,hn];rfl
 exact⟨by simp,rfl,rfl,by simp only [Tryz.f124,Aq,Zf,aj,hB,lB,jN,hc,bT,bA,hn]<;>rfl⟩
def oL (s:a6):Int:=if s.fin then 0 else-1
def wL (x c:Int) (_:Nat):Int:=if c<0 then x else max x (c+1)
def FP (M:List a6) (i:Nat) (x:Int):Prop:=-1≤x∧x≤i∧(x=-1∨∃w∈ws M i,x=((w.1.length:Nat):Int))
theorem I2 (g:de M) {s:a6} (h:M[i]?=some s) (hk:∀k,k<i→FP M k ((dq oL wL zI (M.take i)).getD k zI)):∀j,j≤s.arcs.length→FP M i (jx oL wL zI (dq oL wL zI (M.take i)) s j):=by
 refine sW (P:=fun _ x=>FP M i x) ?_ fun j a x hj hx=>?_
 ·unfold FP oL;cases hf:s.fin with
  |false=>exact⟨by simp,by simp only [Zz,if_false];omega,.inl rfl⟩
  |true=>exact⟨by simp,by simp,.inr ⟨([],s.out),by rw [nP g h,hf];simp,rfl⟩⟩
 ·have ha:=ZM hj;have hto:=(g i s h).2.2.1 a ha;obtain⟨c1,c2,c3⟩:=hk a.to hto;obtain⟨x1,x2,x3⟩:=hx;generalize (dq oL wL zI (M.take i)).getD a.to zI=c at*;unfold wL;split
  ·exact⟨x1,x2,x3⟩
  ·refine⟨by omega,by omega,?_⟩;rcases Int.le_total (c+1) x with hle|hle
   ·rw [Int.max_eq_left hle];exact x3
   ·rw [Int.max_eq_right hle];rcases c3 with h|⟨w,hw,hwl⟩
    ·omega
    ·refine .inr ⟨(a.byte::w.1,a.out+w.2),?_,by rw [hwl];simp⟩;rw [nP g h];exact qaP _ (qbx.2 ⟨a,ha,ZX.2 ⟨w,hw,rfl⟩⟩)
theorem I1 (g:de M):∀i,i≤M.length→∀k,k<i→FP M k ((dq oL wL zI (M.take i)).getD k zI):=
 rQ (R:=FP M) fun i s h hk=>I2 g h hk s.arcs.length (Zn _)
theorem Xb:BP 174 oL:=fun D x s=>by
 have v:=az D 164 (cZ x s);refine⟨D.alloc (aa 164 (cZ x s)),?_,Kp.alloc _ _⟩;generalize hE:D.alloc (aa 164 (cZ x s))=E at v;have l1:ai af E.get 4 (.pointer (some ⟨D.next,0+1,none⟩))= .ok (.bool s.fin):=v.ld rfl u4 rfl;unfold tF oL;cases hf:s.fin with
 |true=>
  rw [hf] at l1;show bJ af 174 _ _ (.int .i64 (0:Nat)) _;refine aP (av Tryz.func174) (c:=qdN.body.getD .skip) (by kernel_rfl) (by rw [Tryz.ntmps174];simp) (by kernel_rfl) (by kernel_rfl) ?_;apply W.run 60
  ·intro M;simp (disch:=omega) only [qdN,Aq,Zf,aj,hE,cR,l1];rfl
  exact⟨by simp,rfl,rfl,by simp only [qdN,Aq,Zf,aj,hE,cR,l1]<;>rfl⟩
 |false=>
  rw [hf] at l1;show bJ af 174 _ _ (.int .i64 (-1)) _;refine aP (av Tryz.func174) (c:=qdN.body.getD .skip) (by kernel_rfl) (by rw [Tryz.ntmps174];simp) (by kernel_rfl) (by kernel_rfl) ?_;apply W.run 60
  ·intro M;simp (disch:=omega) only [qdN,Aq,Zf,aj,hE,cR,l1,Cr];rfl
  exact⟨by simp,rfl,rfl,by simp only [qdN,Aq,Zf,aj,hE,cR,l1,Cr]<;>rfl⟩
theorem VI (g:de M) (hl:M.length<1000000):rP 175 oL wL M:=fun D i j s a hi hj=>by
 have hil:=(Zl.1 hi).1;have hk:=I1 g i (by omega);obtain⟨x1,x2,-⟩:=I2 g hi hk j (by have:=(Zl.1 hj).1;omega);have hto:=(g i s hi).2.2.1 a (ZM hj);obtain⟨c1,c2,-⟩:=hk a.to hto;rw [pL oL wL zI hj];generalize jx oL wL zI (dq oL wL zI (M.take i)) s j=x at*;generalize (dq oL wL zI (M.take i)).getD a.to zI=c at*;refine⟨D,?_,Kp.refl _⟩;unfold tF wL;by_cases h0:c<0
 ·have h1:c<((0:Nat):Int):=by simpa using h0
  rw [if_pos h0];refine aP (av Tryz.func175) (c:=qdO.body.getD .skip) (by kernel_rfl) (by rw [Tryz.ntmps175];simp) (by kernel_rfl) (by kernel_rfl) ?_;apply W.run 60
  ·intro M;simp (disch:=decide+kernel) only [qdO,Aq,Zf,pK,h1];rfl
  exact⟨by simp,rfl,rfl,by simp only [qdO,Aq,Zf,pK,h1]<;>rfl⟩
 ·have h1:¬c<((0:Nat):Int):=by simpa using h0
  have a1:aK .add .i64 c ((1:Nat):Int)= .ok (.int .i64 (c+1)):=Ry (by omega) (by omega);have m1:=max_i64 (tb:=af) (ts:=[3,3]) (a:=x) (b:=c+1);rw [if_neg h0];refine aP (av Tryz.func175) (c:=qdO.body.getD .skip) (by kernel_rfl) (by rw [Tryz.ntmps175];simp) (by kernel_rfl) (by kernel_rfl) ?_;apply W.run 60
  ·intro M;simp (disch:=decide+kernel) only [qdO,Aq,Zf,pK,h1,a1,m1];rfl
  exact⟨by simp,rfl,rfl,by simp only [qdO,Aq,Zf,pK,h1,a1,m1]<;>rfl⟩
theorem Fe {k:Value} (h:dY A M y) (g:de M) (hM:M≠ []) (hl:M.length<1000000):
 ∃v A',bJ af 126 [.agg ⟨[y,k]⟩] A v A'∧Kp A A'∧∃x,v= .int .i64 x∧FP M (M.length-1) x:=by
 have kB:=Kp.alloc A (aa 105 [y,k]);have vB:=az A 105 [y,k];generalize hB:A.alloc (aa 105 [y,k])=B at kB vB;have hS:=h.kp kB;obtain⟨d,hd1,hd2⟩:=bg (t:=105) (p:=true) (by kernel_rfl);have lB:ai af B.get 105 (pw A.next 0)= .ok (.agg ⟨[y,k]⟩):=aI hd1 hd2 (l:=[y,k]) dz vB.2;have ly:ai af B.get 102 (pw A.next 0)= .ok y:=vB.ld rfl fP rfl;have cm:=hS.len;obtain⟨v,C,⟨gc,hc⟩,rfl,kC⟩:=zd hS (k:=k) g hM hl Xb (VI g hl);have hpos:=ZW.2 hM;have hv:=I1 g M.length (Zn _) (M.length-1) (by omega);rw [ZL] at hv;have hn:¬M.length=0:=by omega
 refine⟨_,C,?_,kB.trans kC,_,rfl,hv⟩;unfold tF at hc;refine aP (av Tryz.func126) (c:=Tryz.f126.body.getD .skip) (by kernel_rfl) (by rw [Tryz.ntmps126];simp) (by kernel_rfl) (by kernel_rfl) ?_;apply W.bf (gc) 60
 ·intro M hM;simp (disch:=first|decide+kernel|omega) only [Tryz.f126,Aq,Zf,aj,hB,dm,ly,cm,lB,jN,hc,hn];rfl
 exact⟨by simp,rfl,rfl,by simp only [Tryz.f126,Aq,Zf,aj,hB,dm,ly,cm,lB,jN,hc,hn]<;>rfl⟩
def oG (s:a6):dM:=⟨s.out,true,s.fin⟩
def L7 (m x:dM):dM:=if m.any then⟨max m.n x.n,m.fits&&x.fits,true⟩ else x
def wG (x c:dM) (out:Nat):dM:=L7 x ⟨c.n+out,c.fits,c.any⟩
def Mc (M:List a6) (i:Nat) (x:dM):Prop:=x.fits=true∧(x.any=true→∃w∈ws M i,w.2=x.n)
theorem DH (g:de M) {s:a6} {a:cL} {w:List UInt8×Nat} (h:M[i]?=some s) (ha:a∈s.arcs) (hw:w∈ws M a.to):(a.byte::w.1,a.out+w.2)∈ws M i:=by
 rw [nP g h];exact qaP _ (qbx.2 ⟨a,ha,ZX.2 ⟨w,hw,rfl⟩⟩)
theorem IN (g:de M) {s:a6} (h:M[i]?=some s) (hk:∀k,k<i→Mc M k ((dq oG wG zG (M.take i)).getD k zG)∧((dq oG wG zG (M.take i)).getD k zG).any=true):
 ∀j,j≤s.arcs.length→Mc M i (jx oG wG zG (dq oG wG zG (M.take i)) s j)∧((s.fin=true∨0<j)→(jx oG wG zG (dq oG wG zG (M.take i)) s j).any=true):=by
 refine sW (P:=fun j x=>Mc M i x∧((s.fin=true∨0<j)→x.any=true)) ?_ fun j a x hj hx=>?_
 ·refine⟨⟨rfl,fun hf=>⟨([],s.out),?_,rfl⟩⟩,fun hf=>?_⟩
  ·have hf:s.fin=true:=hf;rw [nP g h,hf];simp
  ·rcases hf with hf|hf
   ·exact hf
   ·omega
 ·have ha:=ZM hj;obtain⟨⟨c1,c2⟩,c3⟩:=hk a.to ((g i s h).2.2.1 a ha);obtain⟨w,hw,hwn⟩:=c2 c3;obtain⟨⟨x1,x2⟩,-⟩:=hx;have hm:=DH g h ha hw;generalize (dq oG wG zG (M.take i)).getD a.to zG=c at*;unfold wG L7;cases hx:x.any with
  |false=>
   refine⟨⟨c1,fun _=>⟨_,hm,?_⟩⟩,fun _=>c3⟩;show a.out+w.2=c.n+a.out;omega
  |true=>
   refine⟨⟨?_,fun _=>?_⟩,fun _=>rfl⟩
   ·show(x.fits&&c.fits)=true;rw [x1,c1];rfl
   ·rcases qdB x.n (c.n+a.out) with hle|hle
    ·exact⟨_,hm,by show a.out+w.2=max x.n (c.n+a.out);rw [qcY hle];omega⟩
    ·obtain⟨w',h1,h2⟩:=x2 hx;exact⟨w',h1,by show w'.2=max x.n (c.n+a.out);rw [qdC hle];exact h2⟩
theorem IM (g:de M):∀i,i≤M.length→∀k,k<i→Mc M k ((dq oG wG zG (M.take i)).getD k zG)∧((dq oG wG zG (M.take i)).getD k zG).any=true:=
 rQ (R:=fun k v=>Mc M k v∧v.any=true) fun i s h hk=>by
  obtain⟨h1,h2⟩:=IN g h hk s.arcs.length (Zn _);refine⟨h1,h2 ?_⟩;rcases(g i s h).2.2.2.1 with hf|hf
  ·exact .inl hf
  ·exact .inr (ZW.2 hf)
theorem oB:ak af 259 (pw b 0) 0= .ok (pw b 0):=by kernel_rfl
theorem oD:ak af 259 (pw b 0) 1= .ok (pw b 2):=by kernel_rfl
theorem pF:ak af 257 (pw b 0) 0= .ok (pw b 0):=by kernel_rfl
theorem xe:ak af 257 (pw b 0) 1= .ok (pw b 1):=by kernel_rfl
theorem Xd:aV af 257= .ok 2:=by kernel_rfl
theorem nQ:bO af 259= .ok (.agg ⟨bS zG⟩):=by kernel_rfl
theorem tP {x:Int} {f:Bool}:cu af 257 [(0,.int .u64 x),(1,.bool f)]= .ok (.agg ⟨[.int .u64 x,.bool f]⟩):=by kernel_rfl
theorem AB {x:Int} {f a:Bool}:cu af 259 [(0,.agg ⟨[.int .u64 x,.bool f]⟩),(1,.bool a)]= .ok (.agg ⟨[.int .u64 x,.bool f,.bool a]⟩):=by kernel_rfl
theorem N7 {k:Kd} {m:dM} (h:dj A 259 b k (bS m)):ai af A.get 257 (pw b 0)= .ok (.agg ⟨[.int .u64 m.n,.bool m.fits]⟩):=by
 obtain⟨c,h1,h2⟩:=h;obtain⟨d,hd1,hd2⟩:=bg (t:=257) (p:=true) (by kernel_rfl);have hg:c.iX 2 0=some [.int .u64 m.n,.bool m.fits]:=fR _ _ _ _ rfl fun j hj=>by
  have:j=0∨j=1:=by omega
  rcases this with rfl|rfl
  ·exact h2 0 (by simp [bS])
  ·exact h2 1 (by simp [bS])
 unfold ai;simp only [h1,hd1,hd2,cond_true,Xd,R.aw,hg]
variable {n:Nat}
theorem Tt {k:Kd} {m:dM} {f:Bool} (h:dj A 259 b k (bS m)):∃A',aT af A 257 (pw b 0) (.agg ⟨[.int .u64 n,.bool f]⟩)= .ok A'∧dj A' 259 b k (bS ⟨n,f,m.any⟩)∧A'.next=A.next∧∀z,z≠b→A'.get z=A.get z:=by
 obtain⟨A',h1,h2,h3,h4⟩:=h.put (o:=0) (vs:=[.int .u64 n,.bool f]) (by simp [aH]) (by simp [bS]) (by simp);refine⟨A',?_,h4 _ rfl fun j hj=>?_,h2,h3⟩
 ·unfold aT;simp only [Xd,R.aw,aj];exact h1
 ·have:j=0∨j=1∨j=2:=by simp [bS] at hj;omega
  rcases this with rfl|rfl|rfl<;>simp [bS]
theorem VP {k:Kd} {m:dM} (h:dj A 259 b k (bS m)):ai af A.get 259 (pw b 0)= .ok (.agg ⟨bS m⟩):=by
 obtain⟨d,hd1,hd2⟩:=bg (t:=259) (p:=true) (by kernel_rfl);exact aI hd1 hd2 wO h
theorem Xa:FQ 177 oG:=fun D x s=>by
 have k1:=Kp.alloc D (aa 164 (cZ x s));have v1:=az D 164 (cZ x s);have n1:(D.alloc (aa 164 (cZ x s))).next=D.next+1:=ae _ _
 generalize hB:D.alloc (aa 164 (cZ x s))=B at v1 n1 k1;have k2:=Kp.alloc B (aa 259 (bS zG));have v2:=az B 259 (bS zG);have v1:=v1.kp k2;have n2:(B.alloc (aa 259 (bS zG))).next=B.next+1:=ae _ _
 generalize hC:B.alloc (aa 259 (bS zG))=C at v1 v2 k2 n2;have l1:ai af C.get 4 (pw D.next (0+1))= .ok (.bool s.fin):=v1.ld rfl u4 rfl;have l2:ai af C.get 103 (pw D.next (0+2))= .ok (.int .u64 s.out):=v1.ld rfl eK rfl;obtain⟨E,sE,vE,nE,fE⟩:=bK (tb:=af) (t:=259) (l':=bS (oG s)) (by exact wO) v2.2 rfl (by simp [bS]) (G9 _);have sE':aT af C 259 (pw B.next 0) (.agg ⟨[.int .u64 s.out,.bool true,.bool s.fin]⟩)= .ok E:=sE;have lE:ai af E.get 259 (pw B.next 0)= .ok (kL (oG s)):=VP vE;refine⟨E,?_,⟨by omega,fun z hz=>by rw [fE z (by omega),k2.2 z (by omega),k1.2 z hz]⟩⟩;refine aP (av Tryz.func177) (c:=Tryz.f177.body.getD .skip) (by kernel_rfl) (by rw [Tryz.ntmps177];simp) (by kernel_rfl) (by kernel_rfl) ?_;apply W.run 60
 ·intro M;simp (disch:=omega) only [Tryz.f177,Aq,Zf,aj,hB,hC,nQ,cR,iu,l1,l2,tP,AB,sE',lE];rfl
 exact⟨by simp,rfl,rfl,by simp only [Tryz.f177,Aq,Zf,aj,hB,hC,nQ,cR,iu,l1,l2,tP,AB,sE',lE]<;>rfl⟩
theorem Va {m x:dM} (h:x.any=true):∃A',bJ af 180 [kL m,kL x] A (kL (L7 m x)) A'∧Kp A A':=by
 have k1:=Kp.alloc A (aa 259 (bS m));have v1:=az A 259 (bS m);have n1:(A.alloc (aa 259 (bS m))).next=A.next+1:=ae _ _
 generalize hB:A.alloc (aa 259 (bS m))=B at v1 n1 k1;have k2:=Kp.alloc B (aa 259 (bS x));have v2:=az B 259 (bS x);have v1:=v1.kp k2;have n2:(B.alloc (aa 259 (bS x))).next=B.next+1:=ae _ _
 generalize hC:B.alloc (aa 259 (bS x))=C at v1 v2 k2 n2;have k3:=Kp.alloc C (aa 259 (bS zG));have v3:=az C 259 (bS zG);have v1:=v1.kp k3;have v2:=v2.kp k3;have n3:(C.alloc (aa 259 (bS zG))).next=C.next+1:=ae _ _
 generalize hD:C.alloc (aa 259 (bS zG))=D at v1 v2 v3 k3 n3;have kD:=k1.trans (k2.trans k3);obtain⟨E,sE,vE,nE,fE⟩:=bK (tb:=af) (t:=259) (l':=bS (L7 m x)) (by exact wO) v3.2 rfl (by simp [bS]) (G9 _);have lE:ai af E.get 259 (.pointer (some ⟨C.next,0,none⟩))= .ok (kL (L7 m x)):=VP vE;have a1:ai af D.get 4 (.pointer (some ⟨A.next,2,none⟩))= .ok (.bool m.any):=v1.ld rfl u4 rfl;have a2:ai af D.get 4 (.pointer (some ⟨B.next,2,none⟩))= .ok (.bool x.any):=v2.ld rfl u4 rfl;have kE:Kp A E:=⟨by omega,fun z hz=>by rw [fE z (by omega),kD.2 z hz]⟩;refine⟨E,?_,kE⟩;rw [h] at a2;cases hm:m.any with
 |false=>
  rw [hm] at a1;have lx:ai af D.get 259 (.pointer (some ⟨B.next,0,none⟩))= .ok (.agg ⟨bS (L7 m x)⟩):=by
   have e:L7 m x=x:=by unfold L7;rw [hm];rfl
   rw [e];exact VP v2.2
  unfold kL at*;refine aP (av Tryz.func180) (c:=qcR.body.getD .skip) (by kernel_rfl) (by rw [Tryz.ntmps180];simp) (by kernel_rfl) (by kernel_rfl) ?_;apply W.run 60
  ·intro M;simp (disch:=omega) only [qcR,Aq,Zf,aj,hB,hC,hD,nQ,oD,a1,a2,lx,sE,lE];rfl
  exact⟨by simp,rfl,rfl,by simp only [qcR,Aq,Zf,aj,hB,hC,hD,nQ,oD,a1,a2,lx,sE,lE]<;>rfl⟩
 |true=>
  rw [hm] at a1;have b1:ai af D.get 103 (.pointer (some ⟨A.next,0,none⟩))= .ok (.int .u64 m.n):=v1.ld rfl eK rfl;have b2:ai af D.get 103 (.pointer (some ⟨B.next,0,none⟩))= .ok (.int .u64 x.n):=v2.ld rfl eK rfl;have d1:ai af D.get 4 (.pointer (some ⟨A.next,1,none⟩))= .ok (.bool m.fits):=v1.ld rfl u4 rfl;have d2:ai af D.get 4 (.pointer (some ⟨B.next,1,none⟩))= .ok (.bool x.fits):=v2.ld rfl u4 rfl;have mx:=Rp (tb:=af) (ts:=[103,103]) (a:=m.n) (b:=x.n);have e:L7 m x=⟨max m.n x.n,m.fits&&x.fits,true⟩:=by unfold L7;rw [hm];rfl
  rw [e] at sE lE⊢;have sE':aT af D 259 (.pointer (some ⟨C.next,0,none⟩)) (.agg ⟨[.int .u64 (max m.n x.n:Nat),.bool (m.fits&&x.fits),.bool true]⟩)= .ok E:=sE;unfold kL at*;cases hf:m.fits with
  |false=>
   rw [hf] at d1;simp only [hf,qch] at sE';rw [hf] at lE;refine aP (av Tryz.func180) (c:=qcR.body.getD .skip) (by kernel_rfl) (by rw [Tryz.ntmps180];simp) (by kernel_rfl) (by kernel_rfl) ?_;apply W.run 60
   ·intro M;simp (config:={maxSteps:=4000000}) (disch:=first|decide+kernel|omega|simp only [Wq,Zf]) only [qcR,Aq,Zj,reduceIte,Zf,Zg,aj,hB,hC,hD,nQ,oB,oD,pF,xe,a1,a2,b1,b2,d1,d2,mx,tP,AB,sE',lE];rfl
   exact⟨by simp,rfl,rfl,by simp only [qcR,Aq,Zj,reduceIte,Zf,Zg,aj,hB,hC,hD,nQ,oB,oD,pF,xe,a1,a2,b1,b2,d1,d2,mx,tP,AB,sE',lE]<;>rfl⟩
  |true=>
   rw [hf] at d1;simp only [hf,qa2] at sE';rw [hf] at lE;refine aP (av Tryz.func180) (c:=qcR.body.getD .skip) (by kernel_rfl) (by rw [Tryz.ntmps180];simp) (by kernel_rfl) (by kernel_rfl) ?_;apply W.run 60
   ·intro M;simp (config:={maxSteps:=4000000}) (disch:=first|decide+kernel|omega|simp only [Wq,Zf]) only [qcR,Aq,Zj,reduceIte,Zf,Zg,aj,hB,hC,hD,nQ,oB,oD,pF,xe,a1,a2,b1,b2,d1,d2,mx,tP,AB,sE',lE];rfl
   exact⟨by simp,rfl,rfl,by simp only [qcR,Aq,Zj,reduceIte,Zf,Zg,aj,hB,hC,hD,nQ,oB,oD,pF,xe,a1,a2,b1,b2,d1,d2,mx,tP,AB,sE',lE]<;>rfl⟩
theorem VC (g:Sto.Good M):wW 178 oG wG M:=fun D i j s a hi hj=>by
 have hil:=(Zl.1 hi).1;have hk:=IM g.1 i (by omega);obtain⟨⟨x1,x2⟩,x3⟩:=IN g.1 hi hk j (by have:=(Zl.1 hj).1;omega);have ha:=ZM hj;obtain⟨⟨c1,c2⟩,c3⟩:=hk a.to ((g.1 i s hi).2.2.1 a ha);obtain⟨w,hw,hwn⟩:=c2 c3;have hle:=g.2.2 i hil _ (DH g.1 hi ha hw);rw [pL oG wG zG hj];generalize jx oG wG zG (dq oG wG zG (M.take i)) s j=x at*;generalize (dq oG wG zG (M.take i)).getD a.to zG=c at*;have hs:c.n+a.out<18446744073709551616:=by
  have:a.out+w.2≤4294967296:=hle;omega
 have k1:=Kp.alloc D (aa 259 (bS x));have v1:=az D 259 (bS x);have n1:(D.alloc (aa 259 (bS x))).next=D.next+1:=ae _ _
 generalize hB:D.alloc (aa 259 (bS x))=B at v1 n1 k1;have k2:=Kp.alloc B (aa 259 (bS c));have v2:=az B 259 (bS c);have v1:=v1.kp k2;have n2:(B.alloc (aa 259 (bS c))).next=B.next+1:=ae _ _
 generalize hC:B.alloc (aa 259 (bS c))=C at v1 v2 k2 n2;have k3:=Kp.alloc C (aa 259 (bS zG));have v3:=az C 259 (bS zG);have v1:=v1.kp k3;have v2:=v2.kp k3;have n3:(C.alloc (aa 259 (bS zG))).next=C.next+1:=ae _ _
 generalize hD:C.alloc (aa 259 (bS zG))=E at v1 v2 v3 k3 n3;have l1:=N7 v2.2;have ka:=fun ih A=>Rk (ih:=ih) (A:=A) (f:=c.fits) hs
 obtain⟨F,sF,vF,nF,fF⟩:=Tt (n:=c.n+a.out) (f:=c.fits) v2.2;have lx:ai af F.get 259 (pw D.next 0)= .ok (kL x):=VP (v1.2.same (fF _ (by omega)));have lc:ai af F.get 259 (pw B.next 0)= .ok (kL ⟨c.n+a.out,c.fits,c.any⟩):=VP vF;obtain⟨G,⟨go,hgo⟩,kG⟩:=Va (A:=F) (m:=x) (x:=⟨c.n+a.out,c.fits,c.any⟩) c3;obtain⟨H,sH,vH,nH,fH⟩:=bK (tb:=af) (t:=259) (l':=bS (L7 x ⟨c.n+a.out,c.fits,c.any⟩)) (by exact wO) (A:=G) (v3.2.same (by rw [kG.2 _ (by omega),fF _ (by omega)])) rfl (by simp [bS]) (G9 _);have lH:ai af H.get 259 (pw C.next 0)= .ok (kL (wG x c a.out)):=VP vH;have nG:=kG.1;refine⟨H,?_,⟨by omega,fun z hz=>by rw [fH z (by omega),kG.2 z (by omega),fF z (by omega),k3.2 z (by omega),k2.2 z (by omega),k1.2 z hz]⟩⟩;have sH':aT af G 259 (pw C.next 0) (kL (L7 x ⟨c.n+a.out,c.fits,c.any⟩))= .ok H:=sH;unfold kL at*;refine aP (av Tryz.func178) (c:=Tryz.f178.body.getD .skip) (by kernel_rfl) (by rw [Tryz.ntmps178];simp) (by kernel_rfl) (by kernel_rfl) ?_;apply W.bf (go) 60
 ·intro M hM;simp (disch:=omega) only [Tryz.f178,Aq,Zf,aj,hB,hC,hD,nQ,oB,l1,ka,sF,lx,lc,hgo,sH',lH];rfl
 exact⟨by simp,rfl,rfl,by simp only [Tryz.f178,Aq,Zf,aj,hB,hC,hD,nQ,oB,l1,ka,sF,lx,lc,hgo,sH',lH]<;>rfl⟩
variable {k:Nat}
theorem C6 (h:dY A M y) (g:Sto.Good M) (hM:M≠ []) (hl:M.length<1000000) (hk:∀w∈ws M (M.length-1),w.2+k≤4294967296):
 ∃v A',bJ af 129 [.agg ⟨[y,.int .u64 k]⟩] A v A'∧Kp A A'∧∃n:Nat,v= .tuple ⟨[.int .u64 n,.bool true]⟩:=by
 have kB:=Kp.alloc A (aa 105 [y,.int .u64 k]);have vB:=az A 105 [y,.int .u64 k];have nB:(A.alloc (aa 105 [y,.int .u64 k])).next=A.next+1:=ae _ _
 generalize hB:A.alloc (aa 105 [y,.int .u64 k])=B at kB vB nB;obtain⟨d,hd1,hd2⟩:=bg (t:=105) (p:=true) (by kernel_rfl);have lB:ai af B.get 105 (pw A.next 0)= .ok (.agg ⟨[y,.int .u64 k]⟩):=aI hd1 hd2 (l:=[y,.int .u64 k]) dz vB.2;obtain⟨v,C,⟨gc,hc⟩,rfl,kC⟩:=Hm (h.kp kB) (k:=.int .u64 k) g.1 hM hl Xa (VC g);have hpos:=ZW.2 hM;obtain⟨⟨c1,c2⟩,c3⟩:=IM g.1 M.length (Zn _) (M.length-1) (by omega);rw [ZL] at c1 c2 c3;generalize (dq oG wG zG M).getD (M.length-1) zG=m at*;obtain⟨w,hw,hwn⟩:=c2 c3;have hle:=hk w hw;have k3:=Kp.alloc C (aa 259 (bS m));have v3:=az C 259 (bS m);have sD:aT af (C.alloc (aa 259 (bS zG))) 259 (pw C.next 0) (kL m)= .ok (C.alloc (aa 259 (bS m))):=a_ wO rfl rfl (by simp [bS]) (G9 _);generalize hD:C.alloc (aa 259 (bS m))=D at k3 v3 sD;have l1:=N7 v3.2;have ka:=fun ih A=>Rk (ih:=ih) (A:=A) (f:=m.fits) (n:=m.n) (m:=k) (by omega)
 obtain⟨F,sF,vF,nF,fF⟩:=Tt (n:=m.n+k) (f:=m.fits) v3.2;have l2:ai af D.get 103 (pw A.next (0+1))= .ok (.int .u64 k):=(vB.kp (kC.trans k3)).ld rfl eK rfl;have l3:ai af F.get 4 (pw C.next 2)= .ok (.bool m.any):=aU u4 rfl vF rfl;have l4:=N7 vF;have l5:ai af F.get 103 (pw C.next 0)= .ok (.int .u64 (m.n+k:Nat)):=aU eK rfl vF rfl;have ks:=fun ih A=>NZ (ih:=ih) (A:=A) (n:=m.n+k) (f:=m.fits)
 rw [c1,decide_eq_true (by omega)] at ks;rw [c3] at l3;rw [c1] at ka sF l1 l4;have nC:=kC.1;have nD:=k3.1;refine⟨_,F,?_,⟨by omega,fun z hz=>by rw [fF z (by omega),k3.2 z (by omega),kC.2 z (by omega),kB.2 z hz]⟩,m.n+k,rfl⟩;unfold kL at*;simp only [qbu] at ks;refine aP (av Tryz.func129) (c:=Tryz.f129.body.getD .skip) (by kernel_rfl) (by rw [Tryz.ntmps129];simp) (by kernel_rfl) (by kernel_rfl) ?_;apply W.bf (gc) 60
 ·intro M hM;simp (config:={maxSteps:=4000000}) (disch:=first|decide+kernel|omega|simp only [Wq,Zf]) only [Tryz.f129,Aq,Zj,reduceIte,Zf,Zg,aj,hB,lB,jN,hc,nQ,sD,oB,oD,pF,Cu,l1,l2,ka,sF,l3,l4,ks,l5];rfl
 exact⟨by simp,rfl,rfl,by simp only [Tryz.f129,Aq,Zj,reduceIte,Zf,Zg,aj,hB,lB,jN,hc,nQ,sD,oB,oD,pF,Cu,l1,l2,ka,sF,l3,l4,ks,l5]<;>rfl⟩
def fQ (p:Nat×Nat):List Value:=[.int .i64 p.1,.int .i64 p.2]
theorem LS:af.bp 298=some (.slice 297):=by kernel_rfl
theorem Xe:aV af 297= .ok 2:=by kernel_rfl
theorem P2:cg af 297= .ok (2,[.int .i64 0,.int .i64 0]):=by kernel_rfl
theorem Xq:∃i,af.ty.get 297=some i∧0<i.bytes∧i.bytes≤65536:=by
 have h:((af.ty.get 297).map fun i=>i.bytes)=some 16:=by kernel_rfl
 cases hq:af.ty.get 297 with
 |none=>rw [hq] at h;cases h
 |some i=>
  rw [hq] at h;have:i.bytes=16:=by simpa using h
  exact⟨i,rfl,by omega,by omega⟩
def zX (A:Mem) (b:Nat) (P:List (Nat×Nat)) (x:Value):Prop:=∃(Q:List (Nat×Nat)) (c:Nat) (k:Kd),x= .slice (some ⟨b,0,none⟩) P.length c∧b<A.next∧dj A 297 b k (Q.map fQ).flatten∧bM c=Q.length∧P.length≤Q.length∧Q.take P.length=P∧(ec c=true∨(ec c=false∧js c=2∧k= .row))
variable {A':Mem} {P:List (Nat×Nat)}
theorem zX.same {x:Value} (h:zX A b P x) (hn:A.next≤A'.next) (hg:A'.get b=A.get b):zX A' b P x:=by
 obtain⟨Q,c,k,h1,h2,h3,h4⟩:=h;exact⟨Q,c,k,h1,ZJ h2 hn,h3.same hg,h4⟩
theorem zX.len {x:Value} (h:zX A b P x):aL af .len [298] [x]= .ok (.int .i64 (P.length:Nat)):=by
 obtain⟨Q,c,k,rfl,-⟩:=h;exact ez LS
theorem zX.idx {x:Value} (h:zX A b P x) (hi:i<P.length):aW af 298 x (.int .i64 i)= .ok (pw b (i*2)):=by
 obtain⟨Q,c,k,rfl,-⟩:=h;have hb:Zt i P.length=true:=by rw [ZB];exact hi
 have hn:mo (.int .i64 i)= .ok i:=rfl;unfold aW;simp only [hn,LS,hb,cond_true,Xe,R.aw,jd,ZT]
theorem gj (Q:List (Nat×Nat)):∀l∈Q.map fQ,l.length=2:=fun l hl=>by
 obtain⟨_,_,rfl⟩:=ZX.1 hl;rfl
theorem zX.at {x:Value} {p:Nat×Nat} (h:zX A b P x) (hi:P[i]?=some p):ai af A.get 3 (pw b (i*2))= .ok (.int .i64 p.1)∧ai af A.get 3 (pw b (i*2+1))= .ok (.int .i64 p.2):=by
 obtain⟨Q,c,k,rfl,h2,h3,h4,h5,h6,h7⟩:=h;have hil:=(Zl.1 hi).1;have hr:(Q.map fQ)[i]?=some (fQ p):=by
  rw [ZH,show Q[i]?=some p by rw [←hi,←h6,qbB,if_pos hil]];rfl
 exact⟨aU u3 rfl h3 (by have:=e9 (gj Q) hr (j:=0) (by omega);rw [Z8] at this;rw [this];rfl),aU u3 rfl h3 (by rw [e9 (gj Q) hr (j:=1) (by omega)];rfl)⟩
theorem zX.YW {x:Value} {p:Nat×Nat} (h:zX A b P x) (hi:P[i]?=some p):∃A',aT af A 3 (pw b (i*2+1)) (.int .i64 n)= .ok A'∧zX A' b (P.set i (p.1,n)) x∧A'.next=A.next∧∀z,z≠b→A'.get z=A.get z:=by
 obtain⟨Q,c,k,rfl,h2,h3,h4,h5,h6,h7⟩:=h;have hil:=(Zl.1 hi).1;have hri:Q[i]?=some p:=by rw [←hi,←h6,qbB,if_pos hil]
 have hr:(Q.map fQ)[i]?=some (fQ p):=by rw [ZH,hri];rfl
 have hlen:=dh (gj Q);have hlt:=IC (gj Q) (i:=i) (j:=1) (by rw [Zp];omega) (by omega);obtain⟨A',e1,e2,e3,e4⟩:=aY (tb:=af) (t:=3) (v:=.int .i64 n) P6 h3 hlt rfl rfl;refine⟨A',e1,⟨Q.set i (p.1,n),c,k,by rw [ZR],by omega,?_,by rw [ZR];exact h4,by rw [ZR,ZR];exact h5,by rw [ZR,List.take_set,h6],h7⟩,e3,e4⟩;rw [show((Q.set i (p.1,n)).map fQ).flatten=(Q.map fQ).flatten.set (i*2+1) (.int .i64 n) from ?_]
 ·exact e2
 ·refine List.ext_getElem? fun j=>?_
  rw [qda];by_cases hj:j<(Q.map fQ).flatten.length
  ·rw [sq (gj Q) rfl (by rw [Zp];omega) j hj,qaj];by_cases h0:j=i*2
   ·subst h0;have:=e9 (gj Q) hr (j:=0) (by omega);rw [Z8] at this;rw [if_pos (by omega),if_neg (by omega),this,qaz];rfl
   ·by_cases h1:j=i*2+1
    ·subst h1;rw [if_pos (by omega),if_pos rfl,if_pos hlt,show i*2+1-i*2=1 by omega];rfl
    ·rw [if_neg (by omega),if_neg (by omega)]
  ·have e:(((Q.map fQ).set i (fQ (p.1,n))).flatten).length=(Q.map fQ).flatten.length:=by
    rw [hlen,dh (n:=2) (fun l hl=>by
     rcases qbc hl with hl|rfl
     ·exact gj Q l hl
     ·rfl),ZR]
   rw [Z7 (by omega),Z7 (by rw [ZR];omega)]
theorem zX.push {b2:Nat} {x:Value} {p:Nat×Nat} (h:zX A b P x) (hb2:A.get b2=some (aa 297 (fQ p))) (hl:P.length<1000000):
 ∃x' A' b',ba af A 298 298 x (.slice (some ⟨b2,0,none⟩) 1 2)= .ok (x',A')∧zX A' b' (P++[p]) x'∧(b'=b∨b'=A.next)∧A.next≤A'.next∧∀y,y≠b→y<A.next→A'.get y=A.get y:=by
 obtain⟨Q,c,k,rfl,h2,h3,h4,h5,h6,h7⟩:=h;have hnew:fZ A.get 2 1 (.slice (some ⟨b2,0,none⟩) 1 2)= .ok (fQ p):=by
  have:=ep (n:=2) (m:=1) (ei (e:=297) (k:=.var (fQ p).length) hb2) rfl;exact this
 have h1c:∀v∈fQ p,aH v=true:=by simp [fQ,aH]
 have hlen:=dh (gj Q);rw [Zp] at hlen;obtain⟨ti,t1,t2,t3⟩:=Xq;by_cases hroom:P.length+1≤Q.length
 ·obtain⟨A',e1,e2,e3,e4⟩:=h3.put (o:=P.length*2) (vs:=fQ p) h1c (by rw [hlen];simp [fQ];omega) (by simp [fQ]);have hble:Zj (P.length+1) (bM c)=true:=qaf (by omega);refine⟨.slice (some ⟨b,0,none⟩) (P.length+1) c,A',b,?_,⟨Q.set P.length p,c,k,by rw [Zo];rfl,by omega,?_,by rw [ZR];exact h4,by rw [ZR,Zo];exact hroom,?_,h7⟩,.inl rfl,by omega,fun y hy _=>e3 y hy⟩
  ·unfold ba cW;simp only [LS,gH,cond_false,P2,R.aw,ji,hnew,hble,cond_true,jd,ZT,e1]
  ·refine e4 _ ?_ fun j hj=>?_
   ·rw [hlen,dh (gj _),Zp,ZR]
   ·rw [qda,sq (gj Q) rfl (by rw [Zp];omega) j hj];rfl
  ·rw [Zo,qae,Zs (by rw [ZR];omega),List.take_set_of_le (Zn _),h6,List.getElem_set_self]
 ·have hRP:Q=P:=by rw [←h6,qaJ (by omega)]
  have hble:Zj (P.length+1) (bM c)=false:=by
   cases hq:Zj (P.length+1) (bM c) with
   |false=>rfl
   |true=>have:=ZP hq;omega
  have hlim:(Zj (P.length+1) 16777216&&Zj ti.bytes 65536&&Zt 0 ti.bytes&&Zt 0 2&&Zt 2 65536)=true:=by
   have a1:Zj (P.length+1) 16777216=true:=qaf (by omega);have a2:Zj ti.bytes 65536=true:=qaf t3;have a3:Zt 0 ti.bytes=true:=by rw [ZB];exact t2
   rw [a1,a2,a3];rfl
  have hel:cT A.get 2 P.length (some ⟨b,0,none⟩)= .ok (Q.map fQ).flatten:=ep h3 (by rw [hlen,hRP]);have fin:∀A0:Mem,A0.next=A.next→zX (A0.alloc (.cells 297 .row 0 (T.bR .e 0 ((Q.map fQ).flatten++fQ p)))) A.next (P++[p]) (.slice (some ⟨A.next,0,none⟩) (P.length+1) (gO (P.length+1) 2)):=fun A0 hn=>
   ⟨P++[p],gO (P.length+1) 2,.row,by rw [Zo];rfl,by rw [ae];omega,by rw [Z3,List.flatten_append,←hRP];simp only [qar,qc9,qaO,List.flatten_nil,qap];exact ei (by rw [←hn];exact ay _ _),by rw [cz (by omega),Zo];rfl,Zn _,ZL,.inr ⟨cS _ _,dS (by omega),rfl⟩⟩
  rcases h7 with hx|⟨hx,he,rfl⟩
  ·refine⟨_,A.alloc (.cells 297 .row 0 (T.bR .e 0 ((Q.map fQ).flatten++fQ p))),A.next,?_,fin A rfl,.inr rfl,by rw [ae];omega,fun y _ hlt=>aB (by omega)⟩;unfold ba cW;simp only [LS,gH,cond_false,P2,R.aw,ji,hnew,hble,t1,hlim,cond_true,hel,hx]
  ·obtain⟨cs,q1,q2⟩:=h3;have hone:(fQ p).all aH=true:=qat.2 h1c;have hbe:Zr (js c) 2=true:=by rw [he];rfl
   have hfz:(Zj 0 (0+P.length*2)&&(Zr 297 297&&Zt 0 9223372036854775808))=true:=by
    have h0:Zt 0 9223372036854775808=true:=by rw [ZB];omega
    rw [h0];simp
   refine⟨_,(A.set b .dead).alloc (.cells 297 .row 0 (T.bR .e 0 ((Q.map fQ).flatten++fQ p))),A.next,?_,fin (A.set b .dead) (aO _ _ _),.inr rfl,by rw [ae,aO];omega,fun y hy hlt=>by rw [aB (by rw [aO];omega),aC,if_neg hy]⟩;unfold ba cW;simp only [LS,gH,cond_false,P2,R.aw,ji,hnew,hble,t1,hlim,cond_true,hel,hx,hbe,hone,qbu,q1,hfz]
theorem zX.pop {x:Value} {p:Nat×Nat} (h:zX A b (P++[p]) x):∃x',cP af 298 x none (some (.int .i64 (P.length:Nat))) none= .ok x'∧zX A b P x':=by
 obtain⟨Q,c,k,rfl,h2,h3,h4,h5,h6,h7⟩:=h;rw [Zo,qae] at*;have e1:bound (some (.int .i64 (P.length:Nat))) (P.length+1) (bM c)= .ok P.length:=eQ (by omega);have hx:(ec c&&Zr (bM c) 0)=false:=by
  have:Zr (bM c) 0=false:=by
   cases hq:Zr (bM c) 0 with
   |false=>rfl
   |true=>have:=ZA hq;omega
  rw [this,qdE]
 have hf:dT c 2=true:=by
  unfold dT;rcases h7 with h|⟨h,he,-⟩
  ·rw [h];rfl
  ·rw [h,he];rfl
 refine⟨.slice (some ⟨b,0,none⟩) P.length (fY c 0),?_,Q,fY c 0,k,rfl,h2,h3,by rw [jJ,h4,qaA],by omega,?_,?_⟩
 ·unfold cP;simp only [LS,e1,R.aw,gA,Xe,hx,cond_false,hf,cond_true,jd,qcM,Z8,qaA]
 ·have:=congrArg (List.take P.length) h6;rwa [qdp,qam (by omega),List.take_left] at this
 ·rw [oe];rcases h7 with h|⟨h,he,hk⟩
  ·exact .inl h
  ·exact .inr ⟨h,by rw [rY h];exact he,hk⟩
theorem Sm {p:Nat×Nat} (hb:b<A.next) (h:dj A 297 b (.var 2) (fQ p)):zX A b [p] (.slice (some ⟨b,0,none⟩) 1 2):=
 ⟨[p],2,.var 2,rfl,hb,by simpa using h,rfl,Zn _,rfl,.inl rfl⟩
theorem AS:∀l:List cL,l.foldl (jb M k) none=none
 | []=>rfl
 |a::l=>by rw [qax];exact AS l
theorem Eh (l:List cL) (left:Nat):∀n j,j+n=l.length→∃q,j≤q∧q≤l.length∧(∀r (h:r<l.length),j≤r→r<q→(l[r]).to<left)∧(q=l.length∨∃a,l[q]?=some a∧left≤a.to)
 |0,j,h=>⟨j,Zn _,by omega,fun r _ h1 h2=>by omega,.inl (by omega)⟩
 |n+1,j,h=>by
  by_cases hj:left≤(l[j]'(by omega)).to
  ·exact⟨j,Zn _,by omega,fun r _ h1 h2=>by omega,.inr ⟨_,Zi (by omega),hj⟩⟩
  ·obtain⟨q,h1,h2,h3,h4⟩:=Eh l left n (j+1) (by omega);refine⟨q,by omega,h2,fun r hr ha hb=>?_,h4⟩;rcases ZS j r with hlt|hge
   ·exact h3 r hr hlt hb
   ·have:r=j:=by omega
    subst this;omega
theorem AT {left:Nat} {l:List cL} {q:Nat} (hq:q≤l.length):∀n j,j+n=q→(∀r (h:r<l.length),j≤r→r<q→(l[r]).to<left)→(l.drop j).foldl (jb M k) (some left)=(l.drop q).foldl (jb M k) (some left)
 |0,j,h,_=>by rw [show j=q by omega]
 |n+1,j,h,hs=>by
  have ht:=hs j (by omega) (Zn _) (by omega);rw [qad (show j<l.length by omega),qax];have e:jb M k (some left) (l[j]'(by omega))=some left:=by unfold jb;rw [qbg,if_neg (by omega)]
  rw [e];exact AT hq n (j+1) (by omega) fun r hr h1 h2=>hs r hr (by omega) h2
noncomputable def kr:Code:=qaU.body.getD .skip
noncomputable def d_:Code:=sub kr [1,0,1,1,1,0,0,0]
noncomputable def Cb:Code:=sub d_ [1,0,1,1,0,0,0]
theorem Qz:qaU.body=some (.seq (sub kr [0]) (.scope (.seq (sub kr [1,0,0]) (.seq (sub kr [1,0,1,0]) (.seq (sub kr [1,0,1,1,0]) (.seq (.block 0 (.loop d_)) (.seq (sub kr [1,0,1,1,1,1,0]) (sub kr [1,0,1,1,1,1,1])))))))):=by kernel_rfl
theorem AJ:d_=(.seq (sub d_ [0]) (.block 1 (.seq (sub d_ [1,0,0]) (.seq (sub d_ [1,0,1,0]) (.seq (.block 2 (.loop Cb)) (.seq (sub d_ [1,0,1,1,1,0]) (.seq (sub d_ [1,0,1,1,1,1,0]) (sub d_ [1,0,1,1,1,1,1])))))))):=by kernel_rfl
variable {o:Nat}
theorem Nh:ak af 297 (pw b o) 0= .ok (pw b o):=by kernel_rfl
theorem GG:ak af 297 (pw b o) 1= .ok (pw b (o+1)):=by kernel_rfl
theorem SX {n:Int}:cu af 297 [(0,.int .i64 n)]= .ok (.agg ⟨[.int .i64 n,.int .i64 (0:Nat)]⟩):=by kernel_rfl
theorem S4 {m n:Int}:a9 af 298 1 [(0,.agg ⟨[.int .i64 m,.int .i64 n]⟩)]= .ok (aa 297 [.int .i64 m,.int .i64 n],.nO 1 2):=by kernel_rfl
def Head (B:Mem) (p:Nat) (V:List (Nat×Nat)) (left:Nat) (t:T Value) (D:Mem):Prop:=∃b x,zX D b V x∧B.next≤b∧Kp B D∧Sl t [(1,pV p),(3,.int .i64 left),(4,x)]
theorem yA {α:Type} (l:List α) (a:α):(l++[a])[l.length]?=some a:=by rw [ZN (Zn _),qaz];rfl
theorem Pf {α:Type} (l:List α) (a b:α):(l++[a]).set l.length b=l++[b]:=by rw [List.set_append_right _ _ (Zn _),qaz];rfl
variable {j:Nat}
theorem Bh {D:Mem} {k:Value} {q left:Nat} {s:a6} {V:List (Nat×Nat)} (h:dY A M y) (hAB:Kp A B) (vB:VB B 105 A.next (.var 2) [y,k]) (hi:M[i]?=some s) (hl:s.arcs.length≤256) (hM:M.length<1000000) (hW:V.length<100000) (hL:left<1000000)
 (hjq:j≤q) (hq:q≤s.arcs.length) (hsk:∀r (h:r<s.arcs.length),j≤r→r<q→(s.arcs[r]).to<left) (hend:(q=s.arcs.length∧i=left)∨∃a,s.arcs[q]?=some a∧left≤a.to) (hH:Head B A.next (V++[(i,j)]) left t D):
 W af d_ ⟨t,79,[],D,none⟩ fun e s'=>e= .nrm∧∃t' D',s'=⟨t',79,[],D',none⟩∧((q=s.arcs.length∧Head B A.next V (left+1) t' D')∨∃a,s.arcs[q]?=some a∧left≤a.to∧Head B A.next (V++[(i,q+1)]++[(a.to,0)]) left t' D'):=by
 obtain⟨b,x,hS,hb,hK,g1,g3,g4,-⟩:=hH;obtain⟨xs,p,r,i1,i2,hx,i4⟩:=(h.kp hAB).get hi;have i5:=(i4 D hK).2;have ly:ai af D.get 102 (pw A.next 0)= .ok y:=(vB.kp hK).ld rfl fP rfl;have ls:=hS.len;rw [Zo,qae] at ls;have hpos:0<V.length+1:=by omega
 have s1:aK .sub .i64 ((V.length+1:Nat):Int) ((1:Nat):Int)= .ok (.int .i64 (V.length:Nat)):=bm (by omega) (aR (by omega));have ix:=hS.idx (i:=V.length) (by rw [Zo,qae];omega);obtain⟨e0,e1⟩:=hS.at (yA V (i,j));simp only [pV] at*;rw [AJ];apply W.q
 ·intro M;simp (disch:=decide+kernel) only [d_,kr,qaU,Aq,Zf,g4,ls,bT,bA,hpos];rfl
 apply W.block;apply W.q
 ·intro M;simp (disch:=decide+kernel) only [d_,kr,qaU,Aq,Zf,g4,ls,s1,ix];rfl
 apply W.q
 ·intro M;simp (config:={maxSteps:=4000000}) (disch:=first|decide+kernel|omega|simp only [Wq,Zf]) only [d_,kr,qaU,Aq,Zj,reduceIte,Zf,Zg,g1,dm,ly,aA,aX,Nh,e0,i1,i2,i5,Fq,au []];rfl
 apply W.seq;apply W.block;refine W.up q (fun j t D=>∃b x,zX D b (V++[(i,j)]) x∧B.next≤b∧Kp B D∧(∀r (h:r<s.arcs.length),j≤r→r<q→(s.arcs[r]).to<left)∧Sl t [(1,pw A.next 0),(3,.int .i64 left),(4,x),(5,pw b (V.length*2)),(6,xs)]) ?_ hjq ⟨b,x,hS,hb,hK,hsk,?_⟩
 ·rintro j t D hj ⟨b,x,hS,hb,hK,hsk,g1,g3,g4,g5,g6,-⟩;obtain⟨e0,e1⟩:=hS.at (yA V (i,j));have lx:=(hx.kp hK).len;by_cases hlt:j<s.arcs.length
  ·have hsj:s.arcs[j]?=some s.arcs[j]:=Zi hlt;obtain⟨pa,j1,pq,j2,j3⟩:=(hx.kp hK).to hsj;have a1:aK .add .i64 ((j:Nat):Int) ((1:Nat):Int)= .ok (.int .i64 (j+1:Nat)):=a8 (aR (by omega));obtain⟨E,sE,hSE,nE,fE⟩:=hS.YW (n:=j+1) (yA V (i,j));rw [Pf] at hSE;have kE:Kp B E:=⟨by have:=hK.1;omega,fun z hz=>by rw [fE z (by omega),hK.2 z hz]⟩;by_cases hjq:j<q
   ·have hto:¬left≤(s.arcs[j]).to:=by have:=hsk j hlt (Zn _) hjq;omega
    apply W.run 20
    ·intro M;simp (disch:=decide+kernel) only [Cb,d_,kr,qaU,Aq,Zf,g3,g5,g6,aA,aX,GG,e1,lx,hlt,j1,j2,j3,a1,sE,bN,bj,hto];rfl
    refine⟨hjq,_,_,rfl,b,x,hSE,hb,kE,fun r hr h1 h2=>hsk r hr (by omega) h2,?_⟩;simp only [Sq,Zf,Zg,g1,g3,g4,g5,g6]
   ·have e:j=q:=by omega
    subst e;rcases hend with⟨e,-⟩|⟨a,ha,hto⟩
    ·omega
    ·have ea:s.arcs[j]=a:=by rw [hsj] at ha;exact Z_ ha
     rw [ea] at j3;have kF:=Kp.alloc E (aa 297 (fQ (a.to,0)));obtain⟨x',G,b',happ,hSG,hb',nG,fG⟩:=(hSE.same kF.1 (kF.2 _ (by obtain⟨_,_,_,_,h,_⟩:=hSE;exact h))).push (b2:=E.next) (p:=(a.to,0)) (ay E _) (by rw [Zo,qae];omega);rw [ae] at nG hb' fG;have happ':ba af (E.alloc (aa 297 [.int .i64 (a.to:Nat),.int .i64 (0:Nat)])) 298 298 x (.slice (some ⟨E.next,0,none⟩) 1 2)= .ok (x',G):=happ;apply W.run 20
     ·intro M;simp (disch:=decide+kernel) only [Cb,d_,kr,qaU,Aq,Zf,g3,g4,g5,g6,aA,aX,GG,e1,lx,hlt,j1,j2,j3,a1,sE,bN,bj,hto,SX,S4,happ',show Zr 1 3=false from rfl];rfl
     have nk:=kE.1;refine⟨rfl,_,_,rfl,.inr ⟨a,ha,hto,b',x',hSG,by omega,⟨by omega,fun z hz=>by rw [fG z (by omega) (by omega),kF.2 z (by omega),kE.2 z hz]⟩,?_⟩⟩;simp only [Sq,Zf,Zg,g1,g3,pV]
  ·have e:j=s.arcs.length:=by omega
   subst e;have hqe:q=s.arcs.length:=by omega
   subst hqe;rcases hend with⟨-,hil⟩|⟨a,ha,-⟩
   ·subst hil;have a1:aK .add .i64 ((i:Nat):Int) ((1:Nat):Int)= .ok (.int .i64 (i+1:Nat)):=a8 (aR (by omega));have ls:=hS.len;rw [Zo,qae] at ls;obtain⟨x',hsl,hS'⟩:=hS.pop;apply W.run 20
    ·intro M;simp (disch:=decide+kernel) only [Cb,d_,kr,qaU,Aq,Zf,g3,g5,g6,aA,aX,GG,e1,lx,qau];rfl
    apply W.q
    ·intro M;simp (disch:=decide+kernel) only [d_,kr,qaU,Aq,Zf,g3,g5,aA,aX,Nh,e0];rfl
    apply W.q
    ·intro M;simp (disch:=decide+kernel) only [d_,kr,qaU,Aq,Zf,g3,a1];rfl
    apply W.run 20
    ·intro M;simp (disch:=decide+kernel) only [d_,kr,qaU,Aq,Zf,g4,ls,s1,hsl];rfl
    refine⟨rfl,_,_,rfl,.inl ⟨rfl,b,x',hS',hb,hK,?_⟩⟩;simp only [Sq,Zf,Zg,g1,pV]
   ·rw [Z7 (Zn _)] at ha;cases ha
 ·simp only [Sq,Zf,Zg,g1,g3,g4]
def XS (B:Mem) (p:Nat) (K:Ex→St→Prop) (W1:List (Nat×Nat)) (l1:Nat) (W2:List (Nat×Nat)) (l2:Nat):Prop:=
 (∀t D,Head B p W2 l2 t D→W af (.loop d_) ⟨t,79,[],D,none⟩ K)→∀t D,Head B p W1 l1 t D→W af (.loop d_) ⟨t,79,[],D,none⟩ K
theorem On {k:Value} {K:Ex→St→Prop} (h:dY A M y) (hAB:Kp A B) (vB:VB B 105 A.next (.var 2) [y,k]) (g:de M) (hM:M.length<1000000) {f:Nat}
 (ih:∀i left L V,f_ M f i left=some L→V.length+i<100000→left≤M.length→XS B A.next K (V++[(i,0)]) left V L∧L≤M.length) {s:a6} {V:List (Nat×Nat)} (hi:M[i]?=some s) (hW:V.length+i<100000):
 ∀n j left,j+n=s.arcs.length→left≤M.length→(s.arcs.drop j).foldl (jb M f) (some left)=some i→XS B A.next K (V++[(i,j)]) left V (i+1):=by
 intro n
 induction n using qbL with
 |ind n ihn=>
  intro j left hj hle hf hk t D hH;have hfew:=kX (g i s hi);obtain⟨q,h1,h2,h3,h4⟩:=Eh s.arcs left n j hj;rw [AT h2 (q-j) j (by omega) h3] at hf;rcases ZS q s.arcs.length with hlt|hge
  ·have hsq:=Zi hlt;rcases h4 with h4|⟨a,ha,hto⟩
   ·omega
   ·have ea:s.arcs[q]=a:=by rw [hsq] at ha;exact Z_ ha
    rw [qad hlt,qax,ea] at hf;have e:jb M f (some left) a=f_ M f a.to left:=by unfold jb;rw [qbg,if_pos hto]
    rw [e] at hf;have hai:=(g i s hi).2.2.1 a (ZM ha);cases hv:f_ M f a.to left with
    |none=>rw [hv,AS] at hf;cases hf
    |some L1=>
     rw [hv] at hf;obtain⟨n1,n2⟩:=ih a.to left L1 (V++[(i,q+1)]) hv (by rw [Zo,qae];omega) hle;have n3:=ihn (n-(q+1-j)) (by omega) (q+1) L1 (by omega) n2 hf;refine W.round ((Bh h hAB vB hi hfew hM (by omega) (by omega) h1 h2 h3 (.inr ⟨a,ha,hto⟩) hH).mono ?_);rintro e s' ⟨rfl,t',D',rfl,⟨e,-⟩|⟨a',ha',-,hH'⟩⟩
     ·omega
     ·rw [ha] at ha';cases ha';exact n1 (n3 hk) t' D' hH'
  ·have e:q=s.arcs.length:=by omega
   subst e;rw [qdu] at hf;have hil:i=left:=(Z_ hf).symm;refine W.round ((Bh h hAB vB hi hfew hM (by omega) (by omega) h1 h2 h3 (.inl ⟨rfl,hil⟩) hH).mono ?_);rintro e s' ⟨rfl,t',D',rfl,⟨-,hH'⟩|⟨a',ha',-⟩⟩
   ·rw [←hil] at hH';exact hk t' D' hH'
   ·rw [Z7 (Zn _)] at ha';cases ha'
theorem Bi {k:Value} {K:Ex→St→Prop} (h:dY A M y) (hAB:Kp A B) (vB:VB B 105 A.next (.var 2) [y,k]) (g:de M) (hM:M.length<1000000):
 ∀f i left L V,f_ M f i left=some L→V.length+i<100000→left≤M.length→XS B A.next K (V++[(i,0)]) left V L∧L≤M.length
 |0,i,left,L,V,hv,_,_=>by cases hv
 |f+1,i,left,L,V,hv,hW,hle=>by
  cases hi:M[i]? with
  |none=>rw [f_,hi] at hv;cases hv
  |some s=>
   rw [tG hi] at hv;cases hf:s.arcs.foldl (jb M f) (some left) with
   |none=>rw [hf] at hv;cases hv
   |some L'=>
    rw [hf,qbg] at hv;split at hv
    ·rename_i e;subst e;cases hv;refine⟨On h hAB vB g hM (fun i left L W a b c=>Bi h hAB vB g hM f i left L W a b c) hi hW s.arcs.length 0 left (by omega) hle (by rw [qa5];exact hf),(Zl.1 hi).1⟩
    ·cases hv
theorem Ff {k:Value} {f:Nat} (h:dY A M y) (g:de M) (hM0:M≠ []) (hM:M.length<100000) (hv:f_ M f (M.length-1) 0=some M.length):∃v A',bJ af 169 [.agg ⟨[y,k]⟩] A v A'∧v= .bool true∧Kp A A':=by
 refine cM (av Tryz.func169) Qz (by rw [Tryz.ntmps169];simp) (by kernel_rfl) (by kernel_rfl) ?_;have hpos:=ZW.2 hM0;have kB:=Kp.alloc A (aa 105 [y,k]);have vB:=az A 105 [y,k];apply W.q
 ·intro M;simp (disch:=omega) only [kr,qaU,Aq,Zf,aj];rfl
 generalize A.alloc (aa 105 [y,k])=B at kB vB;have lB:ai af B.get 102 (pw A.next 0)= .ok y:=vB.ld rfl fP rfl;have cm:=(h.kp kB).len;have s1:aK .sub .i64 ((M.length:Nat):Int) ((1:Nat):Int)= .ok (.int .i64 (M.length-1:Nat)):=bm (by omega) (aR (by omega));have kC:=Kp.alloc B (aa 297 (fQ (M.length-1,0)));have vC:=az B 297 (fQ (M.length-1,0));have hC:B.alloc (aa 297 [.int .i64 (M.length-1:Nat),.int .i64 (0:Nat)])=B.alloc (aa 297 (fQ (M.length-1,0))):=rfl;apply W.scope;apply W.q
 ·intro M;simp (disch:=omega) only [kr,qaU,Aq,Zf];rfl
 apply W.q
 ·intro M;simp (disch:=decide+kernel) only [kr,qaU,Aq,Zf,dm,lB,cm,s1,SX,S4,hC];rfl
 generalize B.alloc (aa 297 (fQ (M.length-1,0)))=C at kC vC;apply W.seq;refine W.run 1 (fun m=>rfl) ?_;apply W.seq;apply W.block;refine(Bi h kB vB g (by omega) f (M.length-1) 0 M.length [] hv (by simp;omega) (Zv _)).1 ?_ _ _ ⟨B.next,.slice (some ⟨B.next,0,none⟩) 1 2,Sm vC.1 vC.2,Zn _,kC,?_⟩
 ·rintro t D ⟨b,x,hS,-,hK,g1,g3,g4,-⟩;have ls:=hS.len;have lD:ai af D.get 102 (pw A.next 0)= .ok y:=(vB.kp hK).ld rfl fP rfl;have lenD:=(h.kp (kB.trans hK)).len;simp only [pV] at g1;apply W.round;rw [AJ];apply W.seq;apply W.run 20
  ·intro M;simp (disch:=decide+kernel) only [d_,kr,qaU,Aq,Zf,g4,ls,bT,bA,ZG];rfl
  apply W.seq;apply W.run 20
  ·intro M;simp (disch:=decide+kernel) only [kr,qaU,Aq,Zf,g1,g3,dm,lD,lenD];rfl
  apply W.run 20
  ·intro M;simp only [kr,qaU,Aq,Zf];rfl
  exact⟨by simp,rfl,_,(by simp only [qaU,Aq,Zf]<;>rfl),rfl,kB.trans hK⟩
 ·simp only [Sq,Zf,Zg,pV]
variable {m:Nat}
theorem Wd:cu af 208 [(1,.map (some m))]= .ok (.agg ⟨[.slice none 0 0,.map (some m)]⟩):=by kernel_rfl
theorem SC:bO af 208= .ok (.agg ⟨[.slice none 0 0,.map none]⟩):=by kernel_rfl
theorem JU:bO af 214= .ok (.agg ⟨[.slice none 0 0,.bool false,.int .u64 (0:Nat),.int .u8 (0:Nat)]⟩):=by kernel_rfl
theorem SV {x:Value} {s:a6}:cu af 214 [(0,.agg ⟨cZ x s⟩)]= .ok (.agg ⟨[x,.bool s.fin,.int .u64 s.out,.int .u8 (0:Nat)]⟩):=by kernel_rfl
theorem Yq:aV af 208= .ok 2:=by kernel_rfl
theorem Yr:aV af 214= .ok 4:=by kernel_rfl
noncomputable def jF:Code:=qbh.body.getD .skip
noncomputable def xG:Code:=sub jF [1,1,1,1,1,1,0,1,0,0]
theorem Ql:qbh.body=some (.seq (sub jF [0]) (.seq (sub jF [1,0]) (.seq (sub jF [1,1,0]) (.seq (sub jF [1,1,1,0]) (.seq (sub jF [1,1,1,1,0]) (.seq (sub jF [1,1,1,1,1,0]) (.seq (.seq (sub jF [1,1,1,1,1,1,0,0]) (.block 0 (.loop xG))) (.seq (sub jF [1,1,1,1,1,1,1,0]) (sub jF [1,1,1,1,1,1,1,1]))))))))):=by kernel_rfl
theorem Rm {s:a6} (hn:M.Nodup) (hf:∀s∈M,Fit s) (h:M[i]?=some s):kz s∉(M.take i).map kz:=by
 intro hm;obtain⟨u,hu,he⟩:=ZX.1 hm;obtain⟨j,hj,rfl⟩:=qbT hu;rw [ZD] at hj;rw [List.getElem_take] at he;obtain⟨hi,rfl⟩:=Zl.1 h;have:=key_inj (hf _ (ZO (by omega))) (hf _ (ZO hi)) he;exact qaK.1 hn j i (by omega) hi (by omega) this
variable {C:Mem} {mk:Nat}
theorem Lc {D:Mem} {s:a6} (h:dY A M y) (g:de M) (hn:M.Nodup) (hf:∀s∈M,Fit s) (hM:M.length<100000) (hi:M[i]?=some s) (hAC:Kp A C) (hp:A.next≤p∧A.next≤mk) (hR:P_ C p mk ((M.take i).map kz) D)
 (hs:Sl t [(4,pV p),(43,y),(44,.int .i64 M.length),(45,.int .i64 i)]):
 W af xG ⟨t,72,[],D,none⟩ fun e s'=>e= .nrm∧∃t' D',s'=⟨t',72,[],D',none⟩∧P_ C p mk ((M.take (i+1)).map kz) D'∧Sl t' [(4,pV p),(43,y),(44,.int .i64 M.length),(45,.int .i64 (i+1:Nat))]:=by
 obtain⟨g4,g43,g44,g45,-⟩:=hs;have hil:=(Zl.1 hi).1;have hkn:=Rm hn hf hi;have htk:(M.take (i+1)).map kz=(M.take i).map kz++[kz s]:=by
  obtain⟨hi',rfl⟩:=Zl.1 hi;rw [Zs hi',Z3];rfl
 obtain⟨-,-,-,hne,h0⟩:=g i s hi;have hfew:=kX (g i s hi);have hkl:((M.take i).map kz).length=i:=by rw [Zp,ZD];omega
 have kAD:Kp A D:=by
  obtain⟨_,_,_,-,-,-,-,-,e6,e7⟩:=hR;exact⟨by have:=hAC.1;omega,fun z hz=>by rw [e7 z (by have:=hAC.1;omega) (by omega) (by omega),hAC.2 z hz]⟩
 obtain⟨x,q,j1,j2,hx,-⟩:=(h.kp kAD).at hi;have sE:=Fv hx;have kE:=Kp.alloc D (aa 164 (cZ x s));have vE:=az D 164 (cZ x s);have hxE:=hx.kp kE;have nE:(D.alloc (aa 164 (cZ x s))).next=D.next+1:=ae _ _
 generalize hEe:D.alloc (aa 164 (cZ x s))=E at sE kE vE hxE nE;have sF:aT af (E.alloc (aa 214 [.slice none 0 0,.bool false,.int .u64 (0:Nat),.int .u8 (0:Nat)])) 214 (.pointer (some ⟨E.next,0,none⟩)) (.agg ⟨[x,.bool s.fin,.int .u64 s.out,.int .u8 (0:Nat)]⟩)= .ok (E.alloc (aa 214 [x,.bool s.fin,.int .u64 s.out,.int .u8 (0:Nat)])):=a_ Yr rfl rfl (by simp) (fun v hv=>by
  simp only [ZC,Z0,or_false] at hv;rcases hv with rfl|rfl|rfl|rfl
  ·obtain⟨b,hb⟩:=hx;exact(aq.di hb).2
  all_goals rfl)
 have kF:=Kp.alloc E (aa 214 [x,.bool s.fin,.int .u64 s.out,.int .u8 (0:Nat)]);have vF:=az E 214 [x,.bool s.fin,.int .u64 s.out,.int .u8 (0:Nat)];generalize hFe:E.alloc (aa 214 [x,.bool s.fin,.int .u64 s.out,.int .u8 (0:Nat)])=F at sF kF vF;obtain⟨v1,G,⟨g1,h1⟩,rfl,kG⟩:=Hr (hxE.kp kF) vF hfew h0;obtain⟨v2,H,⟨g2,h2⟩,rfl,hRH⟩:=Hl (hR.kp (kE.trans (kF.trans kG))) (hxE.kp (kF.trans kG)) (hf s (ZM hi)) hfew hkn (by rw [hkl];omega);rw [hkl] at h2;obtain⟨d,hd1,hd2⟩:=bg (t:=164) (p:=true) (by kernel_rfl);have l0:ai af E.get 164 (.pointer (some ⟨D.next,0,none⟩))= .ok (.agg ⟨cZ x s⟩):=aI hd1 hd2 (l:=cZ x s) mH vE.2;have l1:ai af F.get 4 (.pointer (some ⟨D.next,0+1,none⟩))= .ok (.bool s.fin):=(vE.kp kF).ld rfl u4 rfl;have l2:ai af F.get 162 (.pointer (some ⟨D.next,0,none⟩))= .ok x:=(vE.kp kF).ld rfl kA rfl;have l3:ai af G.get 164 (.pointer (some ⟨D.next,0,none⟩))= .ok (.agg ⟨cZ x s⟩):=aI hd1 hd2 (l:=cZ x s) mH (vE.kp (kF.trans kG)).2;have lx:=(hxE.kp kF).len;rw [htk];simp only [pV] at g4;cases hfin:s.fin with
 |true=>
  rw [hfin] at l1;apply W.bf (g1+g2) 20
  ·intro M hM;simp (config:={maxSteps:=4000000}) (disch:=first|decide+kernel|omega|simp only [Wq,Zf]) only [xG,jF,qbh,Aq,Zj,reduceIte,Zf,Zg,g4,g43,g44,g45,hil,j1,j2,jA,aj,sE,l0,SV,JU,sF,df,cR,l1,l2,lx,h1,l3,h2];rfl
  refine⟨rfl,_,_,rfl,hRH,?_⟩;simp only [Sq,Zf,Zg,g4,g43,g44,pV]
 |false=>
  rw [hfin] at l1;have hlen:¬s.arcs.length=0:=by
   rcases hne with h|h
   ·rw [hfin] at h;cases h
   ·exact fun e=>h (Zw.1 e)
  apply W.bf (g1+g2) 20
  ·intro M hM;simp (config:={maxSteps:=4000000}) (disch:=first|decide+kernel|omega|simp only [Wq,Zf]) only [xG,jF,qbh,Aq,Zj,reduceIte,Zf,Zg,g4,g43,g44,g45,hil,j1,j2,jA,aj,sE,l0,SV,JU,sF,df,cR,l1,l2,lx,hlen,h1,l3,h2];rfl
  refine⟨rfl,_,_,rfl,hRH,?_⟩;simp only [Sq,Zf,Zg,g4,g43,g44,pV]
theorem Lu {f:Nat} (h:dY A M y) (hM0:M≠ []) (g:Sto.Good M) (hf:∀s∈M,Fit s) (hM:M.length<100000) (hv:f_ M f (M.length-1) 0=some M.length):∃v A',bJ af 122 [.agg ⟨[y,.int .u64 k]⟩] A v A'∧v= .bool true∧Kp A A':=by
 refine cM (av Tryz.func122) Ql (by rw [Tryz.ntmps122];simp) (by kernel_rfl) (by kernel_rfl) ?_;have hpos:=ZW.2 hM0;have kB:=Kp.alloc A (aa 105 [y,.int .u64 k]);have vB:=az A 105 [y,.int .u64 k];apply W.q
 ·intro M;simp (disch:=omega) only [jF,qbh,Aq,Zf,aj];rfl
 have nB:(A.alloc (aa 105 [y,.int .u64 k])).next=A.next+1:=ae _ _
 generalize A.alloc (aa 105 [y,.int .u64 k])=B at kB vB nB;obtain⟨d,hd1,hd2⟩:=bg (t:=105) (p:=true) (by kernel_rfl);have lw:∀D,Kp B D→ai af D.get 105 (.pointer (some ⟨A.next,0,none⟩))= .ok (.agg ⟨[y,.int .u64 k]⟩):=fun D hD=>aI hd1 hd2 (l:=[y,.int .u64 k]) dz (vB.kp hD).2
 have ly:∀D,Kp B D→ai af D.get 102 (.pointer (some ⟨A.next,0,none⟩))= .ok y:=fun D hD=>(vB.kp hD).ld rfl fP rfl
 have l1:=lw B (Kp.refl _);obtain⟨v1,C,⟨g1,h1⟩,rfl,kC⟩:=Hn (k:=k) (h.kp kB) hM0 g.1 (by omega);apply W.qG (g1)
 ·intro M hM;simp (disch:=omega) only [jF,qbh,Aq,Zf,l1,h1];rfl
 have hr:M[M.length-1]?=some (M[M.length-1]'(by omega)):=Zi (by omega)
 have hne:=(g.1 _ _ hr).2.2.2.1;obtain⟨x,q,j1,j2,hx,-⟩:=(h.kp (kB.trans kC)).at hr;generalize M[M.length-1]'(by omega)=s at*
 have sE:=Fv hx;have kE:=Kp.alloc C (aa 164 (cZ x s));have vE:=az C 164 (cZ x s);generalize hEe:C.alloc (aa 164 (cZ x s))=E at sE kE vE;have l2:=ly C kC;have lenC:=(h.kp (kB.trans kC)).len;have s1:aK .sub .i64 ((M.length:Nat):Int) ((1:Nat):Int)= .ok (.int .i64 (M.length-1:Nat)):=bm (by omega) (aR (by omega));apply W.q
 ·intro M;simp (disch:=decide+kernel) only [jF,qbh,Aq,Zf,dm,l2,lenC,s1,j1,j2,jA,aj,sE];rfl
 have e1:ai af E.get 4 (.pointer (some ⟨C.next,0+1,none⟩))= .ok (.bool s.fin):=vE.ld rfl u4 rfl;have e2:ai af E.get 162 (.pointer (some ⟨C.next,0,none⟩))= .ok x:=vE.ld rfl kA rfl;have lx:=(hx.kp kE).len;apply W.seq;refine W.to (n:=72) (fun t D=>D=E∧Sl t [(1,.pointer (some ⟨A.next,0,none⟩))]) ?_ ?_
 ·cases hfin:s.fin with
  |true=>
   rw [hfin] at e1;apply W.run 20
   ·intro M;simp (config:={maxSteps:=4000000}) (disch:=first|decide+kernel|omega|simp only [Wq,Zf]) only [jF,qbh,Aq,Zj,reduceIte,Zf,Zg,df,cR,e1];rfl
   refine⟨rfl,_,_,rfl,rfl,?_⟩;simp only [Sq,Zf,Zg]
  |false=>
   rw [hfin] at e1;have hlen:¬s.arcs.length=0:=by
    rcases hne with h|h
    ·rw [hfin] at h;cases h
    ·exact fun e=>h (Zw.1 e)
   apply W.run 20
   ·intro M;simp (config:={maxSteps:=4000000}) (disch:=first|decide+kernel|omega|simp only [Wq,Zf]) only [jF,qbh,Aq,Zj,reduceIte,Zf,Zg,df,cR,e1,e2,lx,hlen];rfl
   refine⟨rfl,_,_,rfl,rfl,?_⟩;simp only [Sq,Zf,Zg]
 ·rintro t D ⟨rfl,g1',-⟩;show W af _ _ _;have kBD:=kC.trans kE;have l3:=lw D kBD;obtain⟨v2,F,⟨g2,h2⟩,rfl,kF⟩:=Ff (k:=.int .u64 k) (h.kp (kB.trans kBD)) g.1 hM0 hM hv;apply W.qG (g2)
  ·intro M hM;simp (disch:=omega) only [jF,qbh,Aq,Zf,g1',l3,h2];rfl
  have kAF:=kB.trans (kBD.trans kF);have n1:(F.alloc (.map [] 0)).next=F.next+1:=ae _ _
  have k1:=Kp.alloc F (.map [] 0);have k2:=Kp.alloc (F.alloc (.map [] 0)) (aa 208 [.slice none 0 0,.map (some F.next)]);have n2:((F.alloc (.map [] 0)).alloc (aa 208 [.slice none 0 0,.map (some F.next)])).next=F.next+2:=by rw [ae,n1]
  have v2:=az (F.alloc (.map [] 0)) 208 [.slice none 0 0,.map (some F.next)];have m2:((F.alloc (.map [] 0)).alloc (aa 208 [.slice none 0 0,.map (some F.next)])).get F.next=some (.map [] 0):=by rw [aB (by omega)];exact ay _ _
  have sG:aT af ((F.alloc (.map [] 0)).alloc (aa 208 [.slice none 0 0,.map none])) 208 (.pointer (some ⟨(F.alloc (.map [] 0)).next,0,none⟩)) (.agg ⟨[.slice none 0 0,.map (some F.next)]⟩)= .ok _:=a_ (l':=[.slice none 0 0,.map (some F.next)]) Yq rfl rfl (by simp) (by simp [aH]);rw [n1] at v2 sG;apply W.q
  ·intro M;simp (disch:=omega) only [jF,qbh,Aq,Zf,gP,fx,Az,Wd,SC,aj,n1,sG];rfl
  generalize (F.alloc (.map [] 0)).alloc (aa 208 [.slice none 0 0,.map (some F.next)])=G at k2 n2 v2 m2 sG;have kAG:=kAF.trans (k1.trans k2);have nF:=kAF.1;have l4:=ly G (kBD.trans (kF.trans (k1.trans k2)));have lenG:=(h.kp kAG).len;have hR:P_ G (F.next+1) F.next ((M.take 0).map kz) G:=⟨G.next,.slice none 0 0,[],v2,m2,.inl ⟨rfl,rfl⟩,rfl,⟨Zn _,fun _=>rfl,by omega,by omega,by omega⟩,Zn _,fun _ _ _ _=>rfl⟩
  apply W.seq;apply W.q
  ·intro M;simp (disch:=decide+kernel) only [jF,qbh,Aq,Zf,g1',dm,l4,lenG];rfl
  apply W.block;refine W.up M.length (fun i t D=>P_ G (F.next+1) F.next ((M.take i).map kz) D∧Sl t [(4,pV (F.next+1)),(43,y),(44,.int .i64 M.length),(45,.int .i64 i)]) ?_ (Zv _) ⟨hR,?_⟩
  ·rintro i t D hi ⟨hR,hs⟩;by_cases hlt:i<M.length
   ·refine(Lc h g.1 g.2.1 hf hM (Zi hlt) kAG ⟨by omega,by omega⟩ hR hs).mono ?_;rintro e s' ⟨rfl,t',D',rfl,hR',hs'⟩;exact⟨hlt,t',D',rfl,hR',hs'⟩
   ·have e:i=M.length:=by omega
    subst e;obtain⟨_,_,_,-,-,-,-,-,e6,e7⟩:=hR;obtain⟨g4,g43,g44,g45,-⟩:=hs;apply W.run 20
    ·intro M;simp (disch:=decide+kernel) only [xG,jF,qbh,Aq,Zf,g44,g45];rfl
    apply W.q
    ·intro M;simp (disch:=omega) only [jF,qbh,Aq,Zf];rfl
    apply W.run 20
    ·intro M;simp only [jF,qbh,Aq,Zf];rfl
    exact⟨by simp,rfl,_,(by simp only [qbh,Aq,Zf]<;>rfl),rfl,by show A.next≤D.next;omega,fun z hz=>by show D.get z=A.get z;rw [e7 z (by omega) (by omega) (by omega),kAG.2 z hz]⟩
  ·simp only [Sq,Zf,Zg,pV]
structure jc where
 ver:Nat
 next:Nat
 segs:List (Nat×Nat×Nat)
def dF (s:Nat×Nat×Nat):List Value:=[.int .i64 s.1,.int .i64 s.2.1,.int .i64 s.2.2]
def gh (A:Mem) (l:List (Nat×Nat×Nat)) (x:Value):Prop:=∃b,aq A 58 3 b (l.map dF) x
def cr (x:Value) (m:jc):List Value:=[.int .i64 m.ver,.int .i64 (1:Nat),.int .i64 m.next,x]
def Ju (next:Nat) (s:Nat×Nat×Nat):Prop:=(1≤s.1∧s.1<next)∧(1≤s.2.1∧s.2.1≤100000)∧1≤s.2.2∧s.2.2≤1000000000
def nX (m:jc):Prop:=m.ver≤900000000∧(1≤m.next∧m.next≤900000000)∧m.segs.length≤1000∧(∀s∈m.segs,Ju m.next s)∧(m.segs.map (·.1)).Nodup
def bV (l:List Nat):List UInt8:=l.flatMap bI
def dy (l:List (Nat×Nat×Nat)):List Nat:=l.flatMap fun s=>[s.1,s.2.1,s.2.2]
def iC (m:jc):List UInt8:=[67,77,1]++bV ([m.ver,1,m.next,m.segs.length]++dy m.segs)
theorem gh.kp {l:List (Nat×Nat×Nat)} {x:Value} (h:gh A l x) (k:Kp A A'):gh A' l x:=by
 obtain⟨b,h⟩:=h;exact⟨b,h.same k.1 (k.2 b)⟩
theorem LX:af.bp 34=some (.slice 58):=by kernel_rfl
theorem Xz:aV af 58= .ok 3:=by kernel_rfl
theorem nh:aV af 36= .ok 4:=by kernel_rfl
theorem zT:bO af 36= .ok (.agg ⟨[.int .i64 (0:Nat),.int .i64 (0:Nat),.int .i64 (0:Nat),.slice none 0 0]⟩):=by kernel_rfl
theorem P5:bO af 58= .ok (.agg ⟨[.int .i64 (0:Nat),.int .i64 (0:Nat),.int .i64 (0:Nat)]⟩):=by kernel_rfl
theorem Nm:ak af 36 (pw b o) 0= .ok (pw b o):=by kernel_rfl
theorem Tg:ak af 36 (pw b o) 1= .ok (pw b (o+1)):=by kernel_rfl
theorem Iy:ak af 36 (pw b o) 2= .ok (pw b (o+2)):=by kernel_rfl
theorem sg:ak af 36 (pw b o) 3= .ok (pw b (o+3)):=by kernel_rfl
theorem oE:ak af 58 (pw b o) 0= .ok (pw b o):=by kernel_rfl
theorem vz:ak af 58 (pw b o) 1= .ok (pw b (o+1)):=by kernel_rfl
theorem qi:ak af 58 (pw b o) 2= .ok (pw b (o+2)):=by kernel_rfl
theorem gh.len {l:List (Nat×Nat×Nat)} {x:Value} (h:gh A l x):aL af .len [34] [x]= .ok (.int .i64 (l.length:Nat)):=by
 obtain⟨b,h⟩:=h;have:=aq.len (tb:=af) h LX;rwa [Zp] at this
theorem gh.self {l:List (Nat×Nat×Nat)} {x:Value} (h:gh A l x):x.cells.toList=[x]∧aH x=true:=by
 obtain⟨b,h⟩:=h;exact aq.di h
theorem gh.at {l:List (Nat×Nat×Nat)} {x:Value} {s:Nat×Nat×Nat} (h:gh A l x) (hi:l[i]?=some s):
 ∃b o,aW af 34 x (.int .i64 i)= .ok (pw b o)∧ai af A.get 58 (pw b o)= .ok (.agg ⟨dF s⟩)∧ai af A.get 3 (pw b o)= .ok (.int .i64 s.1)∧
  ai af A.get 3 (pw b (o+1))= .ok (.int .i64 s.2.1)∧ai af A.get 3 (pw b (o+2))= .ok (.int .i64 s.2.2):=by
 obtain⟨b,h⟩:=h;have hl:i<(l.map dF).length:=by rw [Zp];exact(Zl.1 hi).1
 have hm:(l.map dF)[i]?=some (dF s):=by rw [ZH,hi];rfl
 obtain⟨d,hd1,hd2⟩:=bg (t:=58) (p:=true) (by kernel_rfl);refine⟨b,_,aq.idx h LX Xz hl,aq.aI h hd1 hd2 Xz hm,?_,aq.load (tb:=af) (j:=1) h u3 rfl hm rfl (by omega),aq.load (tb:=af) (j:=2) h u3 rfl hm rfl (by omega)⟩;have:=aq.load (tb:=af) (j:=0) h u3 rfl hm rfl (by omega);rwa [Z8] at this
variable {c:Nat}
theorem VO {ih:Code→St→R (Ex×St)} {a:Nat} (h:b≤a∧a≤c):bc af ih (.fn 104 [.int .i64 a,.int .i64 b,.int .i64 c]) A= .ok (.val (.bool true) A):=by
 rw [Rl,decide_eq_true (by omega)]
noncomputable def Cf:Code:=qbz.body.getD .skip
noncomputable def iT:Code:=sub Cf [1,1,0,1,0,0]
noncomputable def MG:Code:=sub iT [1,0,0,1,1,1,0,0]
theorem T8:qbz.body=some (.seq (sub Cf [0]) (.seq (sub Cf [1,0]) (.seq (.seq (sub Cf [1,1,0,0]) (.block 0 (.loop iT))) (.seq (sub Cf [1,1,1,0]) (sub Cf [1,1,1,1]))))):=by kernel_rfl
theorem DU:iT=(.seq (sub iT [0]) (.seq (.block 1 (.seq (sub iT [1,0,0,0]) (.seq (sub iT [1,0,0,1,0]) (.seq (sub iT [1,0,0,1,1,0]) (.block 2 (.loop MG)))))) (sub iT [1,1]))):=by kernel_rfl
theorem Hu {m:jc} {x:Value} (h:gh A m.segs x) (hm:nX m):∃v A',bJ af 60 [.agg ⟨cr x m⟩] A v A'∧v= .bool true∧Kp A A':=by
 obtain⟨m1,m2,m3,m4,m5⟩:=hm;refine cM (av Tryz.func60) T8 (by rw [Tryz.ntmps60];simp) (by kernel_rfl) (by kernel_rfl) ?_;have kB:=Kp.alloc A (aa 36 (cr x m));have vB:=az A 36 (cr x m);apply W.q
 ·intro M;simp (disch:=omega) only [Cf,qbz,Aq,Zf,aj];rfl
 have hB:=h.kp kB;generalize A.alloc (aa 36 (cr x m))=B at kB vB hB;have l0:ai af B.get 3 (pw A.next 0)= .ok (.int .i64 m.ver):=vB.ld rfl u3 rfl;have l1:ai af B.get 3 (pw A.next (0+1))= .ok (.int .i64 (1:Nat)):=vB.ld rfl u3 rfl;have l2:∀D,Kp B D→ai af D.get 3 (pw A.next (0+2))= .ok (.int .i64 m.next):=fun D hD=>(vB.kp hD).ld rfl u3 rfl
 have l3:∀D,Kp B D→ai af D.get 34 (pw A.next (0+3))= .ok x:=fun D hD=>(vB.kp hD).ld rfl LX rfl
 have l2B:=l2 B (Kp.refl _);have l3B:=l3 B (Kp.refl _);have cm:=hB.len;have w0:=fun ih=>VO (ih:=ih) (A:=B) (a:=m.ver) (b:=0) (c:=900000000) ⟨Zv _,m1⟩
 have w1:=fun ih=>VO (ih:=ih) (A:=B) (a:=1) (b:=1) (c:=900000000) (by omega)
 have w2:=fun ih=>VO (ih:=ih) (A:=B) (a:=m.next) (b:=1) (c:=900000000) m2
 have hn1:¬1000<m.segs.length:=by omega
 apply W.q
 ·intro M;simp (config:={maxSteps:=4000000}) (disch:=first|decide+kernel|omega|simp only [Wq,Zf]) only [Cf,qbz,Aq,Zj,reduceIte,Zf,Zg,Nm,Tg,Iy,sg,l0,l1,l2B,l3B,cm,w0,w1,w2,hn1,bT,bA];rfl
 apply W.seq;apply W.q
 ·intro M;simp (disch:=omega) only [Cf,qbz,Aq,Zf];rfl
 apply W.block;refine W.up m.segs.length (fun i t D=>Kp B D∧Sl t [(1,pw A.next 0),(3,.int .i64 i)]) ?_ (Zv _) ⟨Kp.refl _,?_⟩
 ·rintro i t D hi ⟨kD,g1,g3,-⟩;have lD:=l3 D kD;have lD2:=l2 D kD;have hD:=hB.kp kD;have lenD:=hD.len;by_cases hlt:i<m.segs.length
  ·have hMi:m.segs[i]?=some m.segs[i]:=Zi hlt;obtain⟨⟨s1,s2⟩,s3,s4⟩:=m4 _ (ZO hlt);obtain⟨b,o,j1,j2,-⟩:=hD.at hMi;have hdis:∀j,(hj:j<i)→(m.segs[j]'(by omega)).1≠(m.segs[i]).1:=fun j hj e=>by
    exact qaK.1 m5 j i (by rw [Zp];omega) (by rw [Zp];exact hlt) hj (by simpa using e)
   generalize m.segs[i]=s at*;have sE:aT af (D.alloc (aa 58 [.int .i64 (0:Nat),.int .i64 (0:Nat),.int .i64 (0:Nat)])) 58 (pw D.next 0) (.agg ⟨dF s⟩)= .ok (D.alloc (aa 58 (dF s))):=a_ Xz rfl rfl (by simp) (by simp [dF,aH]);have kE:=Kp.alloc D (aa 58 (dF s));have vE:=az D 58 (dF s);generalize D.alloc (aa 58 (dF s))=E at sE kE vE;have a0:ai af E.get 3 (pw D.next 0)= .ok (.int .i64 s.1):=vE.ld rfl u3 rfl;have a1:ai af E.get 3 (pw D.next (0+1))= .ok (.int .i64 s.2.1):=vE.ld rfl u3 rfl;have a2:ai af E.get 3 (pw D.next (0+2))= .ok (.int .i64 s.2.2):=vE.ld rfl u3 rfl;have l2E:=l2 E (kD.trans kE);have l3E:=l3 E (kD.trans kE);have hE:=hD.kp kE;have w3:=fun ih=>VO (ih:=ih) (A:=E) (a:=s.1) (b:=1) (c:=m.next-1) (by omega)
   have w4:=fun ih=>VO (ih:=ih) (A:=E) (a:=s.2.1) (b:=1) (c:=100000) s3
   have w5:=fun ih=>VO (ih:=ih) (A:=E) (a:=s.2.2) (b:=1) (c:=1000000000) s4
   have su:aK .sub .i64 ((m.next:Nat):Int) ((1:Nat):Int)= .ok (.int .i64 (m.next-1:Nat)):=bm (by omega) (aR (by omega));rw [DU];apply W.q
   ·intro M;simp (disch:=decide+kernel) only [iT,Cf,qbz,Aq,Zf,g1,g3,sg,lD,lenD,hlt];rfl
   apply W.seq;apply W.block;apply W.q
   ·intro M;simp (disch:=omega) only [iT,Cf,qbz,Aq,Zf,g1,g3,sg,lD,j1,j2,P5,aj,sE];rfl
   apply W.q
   ·intro M;simp (config:={maxSteps:=4000000}) (disch:=first|decide+kernel|omega|simp only [Wq,Zf]) only [iT,Cf,qbz,Aq,Zj,reduceIte,Zf,Zg,g1,Iy,oE,vz,qi,a0,a1,a2,l2E,su,w3,w4,w5];rfl
   apply W.seq;apply W.run 20
   ·intro M;simp (disch:=omega) only [iT,Cf,qbz,Aq,Zf];rfl
   apply W.block;refine W.up i (fun j t D'=>D'=E∧Sl t [(1,pw A.next 0),(3,.int .i64 i),(4,pw D.next 0),(5,.int .i64 j)]) ?_ (Zv _) ⟨rfl,?_⟩
   ·rintro j t D' hj ⟨rfl,g1,g3,g4,g5,-⟩;by_cases hlt2:j<i
    ·have hsj:m.segs[j]?=some (m.segs[j]'(by omega)):=Zi (by omega)
     obtain⟨b',o',q1,-,q2,-⟩:=hE.at hsj;have hne:=hdis j hlt2;apply W.run 20
     ·intro M;simp (config:={maxSteps:=4000000}) (disch:=first|decide+kernel|omega|simp only [Wq,Zf]) only [MG,iT,Cf,qbz,Aq,Zj,reduceIte,Zf,Zg,g1,g3,g4,g5,hlt2,sg,oE,l3E,q1,q2,a0,hne,Fq,au []];rfl
     refine⟨hlt2,_,_,rfl,rfl,?_⟩;simp only [Sq,Zf,Zg,g1,g3,g4]
    ·have e:j=i:=by omega
     subst e;apply W.run 20
     ·intro M;simp (disch:=decide+kernel) only [MG,iT,Cf,qbz,Aq,Zf,g3,g5];rfl
     show W af (sub iT [1,1]) _ _;apply W.run 20
     ·intro M;simp (disch:=first|decide+kernel|omega) only [iT,Cf,qbz,Aq,Zf,g3];rfl
     refine⟨hlt,_,_,rfl,kD.trans kE,?_⟩;simp only [Sq,Zf,Zg,g1]
   ·simp only [Sq,Zf,Zg,g1,g3]
  ·have e:i=m.segs.length:=by omega
   subst e;rw [DU];apply W.seq;apply W.run 20
   ·intro M;simp (disch:=decide+kernel) only [iT,Cf,qbz,Aq,Zf,g1,g3,sg,lD,lenD];rfl
   apply W.seq;apply W.run 20
   ·intro M;simp (disch:=omega) only [Cf,qbz,Aq,Zf];rfl
   apply W.run 20
   ·intro M;simp only [Cf,qbz,Aq,Zf];rfl
   exact⟨by simp,rfl,_,(by simp only [qbz,Aq,Zf]<;>rfl),rfl,kB.trans kD⟩
 ·simp only [Sq,Zf,Zg]
def jw (n:Nat):List Value:=[.int .u64 n]
def nY (A:Mem) (l:List Nat) (x:Value):Prop:=∃b,aq A 103 1 b (l.map jw) x
theorem qb:af.bp 117=some (.slice 103):=by kernel_rfl
theorem P1:aV af 103= .ok 1:=by kernel_rfl
theorem TC:cg af 103= .ok (1,[.int .u64 0]):=by kernel_rfl
theorem Tv:∃i,af.ty.get 103=some i∧0<i.bytes∧i.bytes≤65536:=by
 have h:(af.ty.get 103).map (fun i=>Zt 0 i.bytes&&Zj i.bytes 65536)=some true:=by kernel_rfl
 cases hq:af.ty.get 103 with
 |none=>rw [hq] at h;cases h
 |some i=>
  rw [hq] at h;simp only [Z1,ZQ,ZF,ZB] at h;exact⟨i,rfl,h.1,ZP h.2⟩
theorem nY.kp {l:List Nat} {x:Value} (h:nY A l x) (k:Kp A A'):nY A' l x:=by
 obtain⟨b,h⟩:=h;exact⟨b,h.same k.1 (k.2 b)⟩
theorem nY.len {l:List Nat} {x:Value} (h:nY A l x):aL af .len [117] [x]= .ok (.int .i64 (l.length:Nat)):=by
 obtain⟨b,h⟩:=h;have:=aq.len (tb:=af) h qb;rwa [Zp] at this
theorem nY.at {l:List Nat} {x:Value} (h:nY A l x) (hi:l[i]?=some n):∃p,aW af 117 x (.int .i64 i)= .ok p∧ai af A.get 103 p= .ok (.int .u64 n):=by
 obtain⟨b,h⟩:=h;have hl:i<(l.map jw).length:=by rw [Zp];exact(Zl.1 hi).1
 have hm:(l.map jw)[i]?=some (jw n):=by rw [ZH,hi];rfl
 refine⟨_,aq.idx h qb P1 hl,?_⟩;have:=aq.load (tb:=af) (j:=0) h eK rfl hm rfl (by omega);rwa [Z8] at this
noncomputable def Kf:Code:=qc1.body.getD .skip
noncomputable def MH:Code:=sub Kf [1,1,0,1,0,0]
theorem T9:qc1.body=some (.seq (sub Kf [0]) (.seq (sub Kf [1,0]) (.seq (.seq (sub Kf [1,1,0,0]) (.block 0 (.loop MH))) (.seq (sub Kf [1,1,1,0]) (sub Kf [1,1,1,1]))))):=by kernel_rfl
theorem yH {l:List Nat} (h:l[i]?=some n):bV (l.take (i+1))=bV (l.take i)++bI n:=by
 obtain⟨hi,rfl⟩:=Zl.1 h;unfold bV;rw [Zs hi,qaH];simp
theorem yG:∀(l:List Nat),(∀n∈l,n<18446744073709551616)→(bV l).length≤9*l.length
 | [],_=>Zn _
 |n::l,h=>by
  have h1:=eU n (h n Zy);have h2:=yG l fun n hn=>h n (Zx _ hn)
  unfold bV at h2⊢;rw [qaa,Zo,Zu];omega
theorem Lx {l:List Nat} {x:Value} (h:nY A l x) (hl:l.length<10000) (hw:∀n∈l,n<18446744073709551616):bJ af 62 [x] A (strOf (bV l)) A:=by
 refine aP (av Tryz.func62) T9 (by rw [Tryz.ntmps62];simp) (by kernel_rfl) (by kernel_rfl) ?_;have hlen:=h.len;apply W.q
 ·intro M;simp (disch:=omega) only [Kf,qc1,Aq,Zf];rfl
 apply W.q
 ·intro M;simp (disch:=omega) only [Kf,qc1,Aq,Zf];rfl
 apply W.seq;apply W.q
 ·intro M;simp (disch:=omega) only [Kf,qc1,Aq,Zf];rfl
 apply W.block;refine W.up l.length (fun i t D=>D=A∧Sl t [(0,x),(3,strOf (bV (l.take i))),(4,.int .i64 i)]) ?_ (Zv _) ⟨rfl,?_⟩
 ·rintro i t D hi ⟨rfl,g0,g3,g4,-⟩;by_cases hlt:i<l.length
  ·have he:l[i]?=some l[i]:=Zi hlt;have hn:=hw _ (ZO hlt);obtain⟨p,j1,j2⟩:=h.at he;have k1:=fun ih=>X' (ih:=ih) (A:=D) hn
   have hb:=yG (l.take (i+1)) fun n hn=>hw n (qbK hn)
   rw [ZD,yH he] at hb;have s1:db .add (bV (l.take i)) (bI l[i])= .ok (strOf (bV (l.take (i+1)))):=by rw [cat (by omega),yH he]
   apply W.run 20
   ·intro M;simp (disch:=first|decide+kernel|omega) only [MH,Kf,qc1,Aq,Zf,g0,g3,g4,hlen,hlt,j1,j2,k1,s1];rfl
   refine⟨hlt,_,_,rfl,rfl,?_⟩;simp only [Sq,Zf,Zg,g0]
  ·have e:i=l.length:=by omega
   subst e;rw [ZL] at g3;apply W.run 20
   ·intro M;simp (disch:=decide+kernel) only [MH,Kf,qc1,Aq,Zf,g0,g4,hlen];rfl
   apply W.q
   ·intro M;simp (disch:=omega) only [Kf,qc1,Aq,Zf,g3];rfl
   apply W.run 20
   ·intro M;simp only [Kf,qc1,Aq,Zf];rfl
   exact⟨by simp,rfl,rfl,by simp only [qc1,Aq,Zf]<;>rfl⟩
 ·simp only [Sq,Zf,Zg];rfl
theorem jS:∀l:List Nat,(l.map jw).flatten=l.map fun n:Nat=>Value.int .u64 n
 | []=>rfl
 |n::l=>by rw [qar,qaO,jS l];rfl
theorem EV {D:Mem} {l:List Nat} (h0:l≠ []):aq (D.alloc (aa 103 (l.map fun n:Nat=>Value.int .u64 n))) 103 1 D.next (l.map jw) (.slice (some ⟨D.next,0,none⟩) l.length (2*l.length)):=by
 refine .inr ⟨.var l.length,2*l.length,by rw [Zp],by rw [ae];omega,?_,fun c hc=>by obtain⟨n,-,rfl⟩:=ZX.1 hc;rfl,.inl (by rw [Zp])⟩;have e:=jS l;rw [e];have:=fe D 103 (l.map fun n:Nat=>Value.int .u64 n);rwa [Zp] at this
theorem DC {D:Mem} {l nl:List Nat} {x:Value} (h:aq D 103 1 b (l.map jw) x) (hl:l.length+nl.length≤10000) (h0:nl≠ []):
 ∃x' D' b',ba af (D.alloc (aa 103 (nl.map fun n:Nat=>Value.int .u64 n))) 117 117 x (.slice (some ⟨D.next,0,none⟩) nl.length (2*nl.length))= .ok (x',D')∧aq D' 103 1 b' ((l++nl).map jw) x'∧D.next≤D'.next∧(b'=b∨D.next≤b')∧∀z,z≠b→z<D.next→D'.get z=D.get z:=by
 obtain⟨i,t1,t2,t3⟩:=Tv;have h':aq (D.alloc (aa 103 (nl.map fun n:Nat=>Value.int .u64 n))) 103 1 b (l.map jw) x:=h.same (by rw [ae];omega) fun hh=>aB (by omega)
 have hn:=EV (D:=D) h0;have hv:dj (D.alloc (aa 103 (nl.map fun n:Nat=>Value.int .u64 n))) 103 D.next (.var nl.length) ((nl.map jw).flatten):=by
  have e:=jS nl;rw [e];have:=fe D 103 (nl.map fun n:Nat=>Value.int .u64 n);rwa [Zp] at this
 obtain⟨x',D',b',e1,e2,e3,e4,e5⟩:=aq.kN (tb:=af) (st:=117) (xt:=117) (nl:=nl.map jw) (m:=nl.length) h' qb qb rfl TC t1 t2 t3 (by omega) (by omega) (by rw [Zp];omega) (y:=.slice (some ⟨D.next,0,none⟩) nl.length (2*nl.length)) rfl
  (ep hv (by rw [qaw,jS,Zp])) (by rw [Zp]) (fun c hc=>by obtain⟨n,-,rfl⟩:=ZX.1 hc;rfl) (by
   intro v hv;obtain⟨c,hc,hv⟩:=List.mem_flatten.1 hv;obtain⟨n,-,rfl⟩:=ZX.1 hc;rw [Z9.1 hv];rfl)
 rw [ae] at e3 e4 e5;refine⟨x',D',b',e1,by rw [Z3];exact e2,by omega,by omega,fun z hz hzn=>by rw [e5 z (fun e=>absurd e hz) (by omega),aB (by omega)]⟩
theorem Qf {a b c d:Int}:a9 af 117 4 [(0,.int .u64 a),(1,.int .u64 b),(2,.int .u64 c),(3,.int .u64 d)]= .ok (aa 103 [.int .u64 a,.int .u64 b,.int .u64 c,.int .u64 d],.nO 4 8):=by kernel_rfl
theorem Qe {a b c:Int}:a9 af 117 3 [(0,.int .u64 a),(1,.int .u64 b),(2,.int .u64 c)]= .ok (aa 103 [.int .u64 a,.int .u64 b,.int .u64 c],.nO 3 6):=by kernel_rfl
theorem Iu (t:T Value):ev t (.const (.string ⟨#[67,77,1]⟩))= .ok (strOf [67,77,1]):=rfl
theorem G4 {l:List (Nat×Nat×Nat)} {s:Nat×Nat×Nat} (h:l[i]?=some s):dy (l.take (i+1))=dy (l.take i)++[s.1,s.2.1,s.2.2]:=by
 obtain⟨hi,rfl⟩:=Zl.1 h;unfold dy;rw [Zs hi,qaH];simp
theorem ux:∀l:List (Nat×Nat×Nat),(dy l).length=3*l.length
 | []=>rfl
 |s::l=>by
  have:=ux l;unfold dy at this⊢;rw [qaa,Zo,this];simp;omega
theorem EK {next:Nat}:∀{l:List (Nat×Nat×Nat)},(∀s∈l,Ju next s)→next≤900000000→∀n∈dy l,n<18446744073709551616
 |s::l,h,hn,n,hm=>by
  unfold dy at hm;rw [qaa] at hm;rcases qas.1 hm with hm|hm
  ·obtain⟨⟨_,_⟩,⟨_,_⟩,_,_⟩:=h s Zy;simp only [ZC,Z0,or_false] at hm;rcases hm with rfl|rfl|rfl<;>omega
  ·exact EK (fun s hs=>h s (Zx _ hs)) hn n hm
noncomputable def Gg:Code:=qcD.body.getD .skip
noncomputable def MD:Code:=sub Gg [1,1,1,0,1,0,0]
theorem T4:qcD.body=some (.seq (sub Gg [0]) (.seq (sub Gg [1,0]) (.seq (sub Gg [1,1,0]) (.seq (.seq (sub Gg [1,1,1,0,0]) (.block 0 (.loop MD))) (.seq (sub Gg [1,1,1,1,0]) (sub Gg [1,1,1,1,1])))))):=by kernel_rfl
theorem O7 {m:jc} {x:Value} (h:gh A m.segs x) (hm:nX m):∃v A',bJ af 24 [.agg ⟨cr x m⟩] A v A'∧v= .tuple ⟨[strOf (crc.aN (iC m)),.int .i64 (0:Nat)]⟩∧Kp A A':=by
 refine cM (av Tryz.func24) T4 (by rw [Tryz.ntmps24];simp) (by kernel_rfl) (by kernel_rfl) ?_;have kB:=Kp.alloc A (aa 36 (cr x m));have vB:=az A 36 (cr x m);apply W.q
 ·intro M;simp (disch:=omega) only [Gg,qcD,Aq,Zf,aj];rfl
 have hB:=h.kp kB;generalize A.alloc (aa 36 (cr x m))=B at kB vB hB;obtain⟨d,hd1,hd2⟩:=bg (t:=36) (p:=true) (by kernel_rfl);have lB:ai af B.get 36 (pw A.next 0)= .ok (.agg ⟨cr x m⟩):=aI hd1 hd2 nh vB.2;obtain⟨v,C,⟨g1,h1⟩,rfl,kC⟩:=Hu hB hm;obtain⟨m1,⟨m2,m2'⟩,m3,m4,m5⟩:=hm;have vC:=vB.kp kC;have hC:=hB.kp kC;have l0:ai af C.get 3 (pw A.next 0)= .ok (.int .i64 m.ver):=vC.ld rfl u3 rfl;have l1:ai af C.get 3 (pw A.next (0+1))= .ok (.int .i64 (1:Nat)):=vC.ld rfl u3 rfl;have l2:ai af C.get 3 (pw A.next (0+2))= .ok (.int .i64 m.next):=vC.ld rfl u3 rfl;have l3:∀D,Kp C D→ai af D.get 34 (pw A.next (0+3))= .ok x:=fun D hD=>(vC.kp hD).ld rfl LX rfl
 have l3C:=l3 C (Kp.refl _);have lenC:=hC.len;have cv:∀n,n<9223372036854775808→gB af 3 103 (.int .i64 (n:Nat))= .ok (.int .u64 (n:Nat)):=fun n hn=>bx (by rw [u3];rfl) eK (cJ (by omega))
 have c0:=cv m.ver (by omega);have c1:=cv 1 (by omega);have c2:=cv m.next (by omega)
 have c3:=cv m.segs.length (by omega);apply W.qG (g1)
 ·intro M hM;simp (disch:=omega) only [Gg,qcD,Aq,Zf,lB,h1];rfl
 have kD:=Kp.alloc C (aa 103 [.int .u64 m.ver,.int .u64 (1:Nat),.int .u64 m.next,.int .u64 m.segs.length]);have hN:aq (C.alloc (aa 103 [.int .u64 m.ver,.int .u64 (1:Nat),.int .u64 m.next,.int .u64 m.segs.length])) 103 1 C.next ([m.ver,1,m.next,m.segs.length].map jw) (.slice (some ⟨C.next,0,none⟩) 4 8):=EV (D:=C) (l:=[m.ver,1,m.next,m.segs.length]) (by simp)
 apply W.q
 ·intro M;simp (disch:=decide+kernel) only [Gg,qcD,Aq,Zf,Nm,Tg,Iy,sg,l0,l1,l2,l3C,lenC,c0,c1,c2,c3,Qf];rfl
 generalize C.alloc (aa 103 [.int .u64 m.ver,.int .u64 (1:Nat),.int .u64 m.next,.int .u64 m.segs.length])=D at kD hN;apply W.seq;apply W.q
 ·intro M;simp (disch:=omega) only [Gg,qcD,Aq,Zf];rfl
 apply W.block;refine W.up m.segs.length (fun i t D=>∃b y,aq D 103 1 b (([m.ver,1,m.next,m.segs.length]++dy (m.segs.take i)).map jw) y∧C.next≤b∧Kp C D∧Sl t [(1,pw A.next 0),(4,y),(5,.int .i64 i)]) ?_ (Zv _) ⟨_,_,by simpa [dy] using hN,Zn _,kD,?_⟩
 ·rintro i t D hi ⟨b,y,hS,hb,kD,g1,g4,g5,-⟩;have lD:=l3 D kD;have hD:=hC.kp kD;have lenD:=hD.len;by_cases hlt:i<m.segs.length
  ·have hMi:m.segs[i]?=some m.segs[i]:=Zi hlt;obtain⟨⟨s1,s2⟩,⟨s3,P6⟩,s4,s4'⟩:=m4 _ (ZO hlt);obtain⟨bb,o,j1,-,j2,j3,j4⟩:=hD.at hMi;have htk:=G4 hMi;have hl3:=ux (m.segs.take i);rw [ZD] at hl3;generalize m.segs[i]=s at*;have e0:=cv s.1 (by omega);have e1:=cv s.2.1 (by omega);have e2:=cv s.2.2 (by omega);obtain⟨x',E,b',happ,hS',hn',hb',hf'⟩:=DC (nl:=[s.1,s.2.1,s.2.2]) hS (by simp only [Zo,Zu,ZG];omega) (by simp);have happ':ba af (D.alloc (aa 103 [.int .u64 s.1,.int .u64 s.2.1,.int .u64 s.2.2])) 117 117 y (.slice (some ⟨D.next,0,none⟩) 3 6)= .ok (x',E):=happ;apply W.run 20
   ·intro M;simp (config:={maxSteps:=4000000}) (disch:=first|decide+kernel|omega|simp only [Wq,Zf]) only [MD,Gg,qcD,Aq,Zj,reduceIte,Zf,Zg,g1,g4,g5,sg,lD,lenD,hlt,j1,j2,j3,j4,oE,vz,qi,e0,e1,e2,Qe,happ',Fq,au []];rfl
   have hk1:=kD.1;refine⟨hlt,_,_,rfl,b',x',by rw [htk,←qah];exact hS',by omega,⟨by omega,fun z hz=>by rw [hf' z (by omega) (by omega),kD.2 z hz]⟩,?_⟩;simp only [Sq,Zf,Zg,g1]
  ·have e:i=m.segs.length:=by omega
   subst e;rw [ZL] at hS;have hl3:=ux m.segs;have hnum:∀n∈ [m.ver,1,m.next,m.segs.length]++dy m.segs,n<18446744073709551616:=fun n hn=>by
    rcases qas.1 hn with hn|hn
    ·simp only [ZC,Z0,or_false] at hn;rcases hn with rfl|rfl|rfl|rfl<;>omega
    ·exact EK m4 m2' n hn
   have hll:([m.ver,1,m.next,m.segs.length]++dy m.segs).length<10000:=by simp only [Zo,Zu,ZG];omega
   obtain⟨g2,h2⟩:=Lx ⟨b,hS⟩ hll hnum;have hbl:=yG _ hnum;have s1:db .add [67,77,1] (bV ([m.ver,1,m.next,m.segs.length]++dy m.segs))= .ok (strOf (iC m)):=cat (by rw [Zo];simp only [Zu,ZG];omega);simp only [Z5,qac] at s1;have ks:=fun ih=>Tp (ih:=ih) (A:=D) (s:=iC m) (by unfold iC;rw [Zo];simp only [Zu,ZG];omega)
   apply W.run 20
   ·intro M;simp (disch:=decide+kernel) only [MD,Gg,qcD,Aq,Zf,g1,g5,sg,lD,lenD];rfl
   apply W.qG (g2)
   ·intro M hM;simp (disch:=first|decide+kernel|omega) only [Gg,qcD,Aq,Zf,g4,h2,Iu,s1,ks];rfl
   apply W.run 20
   ·intro M;simp only [Gg,qcD,Aq,Zf];rfl
   exact⟨by simp,rfl,_,(by simp only [qcD,Aq,Zf]<;>rfl),rfl,kB.trans (kC.trans kD)⟩
 ·simp only [Sq,Zf,Zg]
def wo (l:List aG):Prop:=l≠ []∧rL l∧(∀e∈l,1≤e.word.length∧e.word.length≤255∧e.weight<4294967296)∧l.length≤15∧(dC l).length<1000000∧dC l≠ []∧Lay (dC l)∧least l<18446744073709551616∧(cX l).length<800000
def cV:List (List aG)→List (Nat×Nat×Nat)
 | []=>[]
 |l::r=>(r.length+1,l.length,(crc.aN (cX l)).length)::cV r
def eu:List (List aG)→List (List UInt8×List UInt8)
 | []=>[]
 |l::r=>(eF (r.length+1),crc.aN (cX l))::eu r
theorem eW:∀ls,(cV ls).length=ls.length
 | []=>rfl
 |l::r=>by rw [cV,Zu,eW r,Zu]
theorem dJ:∀ls,(eu ls).length=ls.length
 | []=>rfl
 |l::r=>by rw [eu,Zu,dJ r,Zu]
theorem gS:∀{ls:List (List aG)} {i:Nat} {l:List aG},ls[i]?=some l→(cV ls)[i]?=some (ls.length-i,l.length,(crc.aN (cX l)).length)
 |x::r,0,l,h=>by
  cases h;rfl
 |x::r,i+1,l,h=>by
  rw [Zk] at h;rw [cV,Zk,gS h,Zu,show r.length+1-(i+1)=r.length-i by omega]
theorem qL:∀{ls:List (List aG)} {i:Nat} {l:List aG},ls[i]?=some l→(eu ls)[i]?=some (eF (ls.length-i),crc.aN (cX l))
 |x::r,0,l,h=>by
  cases h;rfl
 |x::r,i+1,l,h=>by
  rw [Zk] at h;rw [eu,Zk,qL h,Zu,show r.length+1-(i+1)=r.length-i by omega]
def fb (ls:List (List aG)) (k:Nat):jc:=⟨ls.length,ls.length+1+k % 4,cV ls⟩
def cG (f:List UInt8×List UInt8):List Value:=[strOf f.1,strOf f.2]
def pW (A:Mem) (l:List (List UInt8×List UInt8)) (x:Value):Prop:=∃b,aq A 27 2 b (l.map cG) x
theorem pW.kp {l:List (List UInt8×List UInt8)} {x:Value} (h:pW A l x) (k:Kp A A'):pW A' l x:=by
 obtain⟨b,h⟩:=h;exact⟨b,h.same k.1 (k.2 b)⟩
theorem LW:af.bp 33=some (.slice 27):=by kernel_rfl
theorem Sx:aV af 27= .ok 2:=by kernel_rfl
theorem Sz:cg af 27= .ok (2,[.string .empty,.string .empty]):=by kernel_rfl
theorem P3:bO af 27= .ok (.agg ⟨[.string .empty,.string .empty]⟩):=by kernel_rfl
theorem Vq:∃i,af.ty.get 27=some i∧0<i.bytes∧i.bytes≤65536:=by
 have h:(af.ty.get 27).map (fun i=>Zt 0 i.bytes&&Zj i.bytes 65536)=some true:=by kernel_rfl
 cases hq:af.ty.get 27 with
 |none=>rw [hq] at h;cases h
 |some i=>
  rw [hq] at h;simp only [Z1,ZQ,ZF,ZB] at h;exact⟨i,rfl,h.1,ZP h.2⟩
theorem pW.len {l:List (List UInt8×List UInt8)} {x:Value} (h:pW A l x):aL af .len [33] [x]= .ok (.int .i64 (l.length:Nat)):=by
 obtain⟨b,h⟩:=h;have:=aq.len (tb:=af) h LW;rwa [Zp] at this
theorem Nf:ak af 27 (pw b o) 0= .ok (pw b o):=by kernel_rfl
theorem Ng:ak af 27 (pw b o) 1= .ok (pw b (o+1)):=by kernel_rfl
theorem pW.at {l:List (List UInt8×List UInt8)} {x:Value} {f:List UInt8×List UInt8} (h:pW A l x) (hi:l[i]?=some f):
 ∃b o,aW af 33 x (.int .i64 i)= .ok (pw b o)∧ai af A.get 27 (pw b o)= .ok (.agg ⟨cG f⟩)∧ai af A.get 9 (pw b o)= .ok (strOf f.1)∧ai af A.get 9 (pw b (o+1))= .ok (strOf f.2):=by
 obtain⟨b,h⟩:=h;have hl:i<(l.map cG).length:=by rw [Zp];exact(Zl.1 hi).1
 have hm:(l.map cG)[i]?=some (cG f):=by rw [ZH,hi];rfl
 obtain⟨d,hd1,hd2⟩:=bg (t:=27) (p:=true) (by kernel_rfl);refine⟨b,_,aq.idx h LW Sx hl,aq.aI h hd1 hd2 Sx hm,?_,aq.load (tb:=af) (j:=1) h u9 rfl hm rfl (by omega)⟩;have:=aq.load (tb:=af) (j:=0) h u9 rfl hm rfl (by omega);rwa [Z8] at this
theorem sj (f:List UInt8×List UInt8):∀v∈cG f,aH v=true:=by
 intro v hv;simp only [cG,ZC,Z0,or_false] at hv;rcases hv with rfl|rfl<;>rfl
theorem We {a b:List UInt8}:cu af 27 [(0,strOf a),(1,strOf b)]= .ok (.agg ⟨cG (a,b)⟩):=by kernel_rfl
theorem T0 {f:List UInt8×List UInt8}:a9 af 33 1 [(0,.agg ⟨cG f⟩)]= .ok (aa 27 (cG f),.nO 1 2):=by kernel_rfl
theorem BT {D:Mem} {l:List (List UInt8×List UInt8)} {x:Value} {f:List UInt8×List UInt8} (h:aq D 27 2 b (l.map cG) x) (hl:l.length<1000):
 ∃x' D',ba af (D.alloc (aa 27 (cG f))) 33 33 x (.slice (some ⟨D.next,0,none⟩) 1 2)= .ok (x',D')∧aq D' 27 2 (D.next+1) ((l++[f]).map cG) x'∧D'.next=D.next+2∧∀z,(z=b→x= .slice none 0 0)→z<D.next→D'.get z=D.get z:=by
 obtain⟨i,t1,t2,t3⟩:=Vq;have h':aq (D.alloc (aa 27 (cG f))) 27 2 b (l.map cG) x:=h.same (by rw [ae];omega) fun hh=>aB (by omega)
 obtain⟨x',D',h1,h2,h3,h4⟩:=aq.append (tb:=af) (st:=33) (xt:=33) h' LW LW Sz t1 t2 t3 (by omega) (by omega) (by rw [Zp];omega) (ay D _) rfl (sj f);rw [ae] at h2 h3 h4;exact⟨x',D',h1,by rw [Z3];exact h2,by omega,fun z hz hzn=>by rw [h4 z hz (by omega),aB (by omega)]⟩
theorem YI:cg af 58= .ok (3,[.int .i64 0,.int .i64 0,.int .i64 0]):=by kernel_rfl
theorem Yy:∃i,af.ty.get 58=some i∧0<i.bytes∧i.bytes≤65536:=by
 have h:(af.ty.get 58).map (fun i=>Zt 0 i.bytes&&Zj i.bytes 65536)=some true:=by kernel_rfl
 cases hq:af.ty.get 58 with
 |none=>rw [hq] at h;cases h
 |some i=>
  rw [hq] at h;simp only [Z1,ZQ,ZF,ZB] at h;exact⟨i,rfl,h.1,ZP h.2⟩
theorem Wg {a b c:Int}:cu af 58 [(0,.int .i64 a),(1,.int .i64 b),(2,.int .i64 c)]= .ok (.agg ⟨[.int .i64 a,.int .i64 b,.int .i64 c]⟩):=by kernel_rfl
theorem Wn {a b c:Int}:a9 af 34 1 [(0,.agg ⟨[.int .i64 a,.int .i64 b,.int .i64 c]⟩)]= .ok (aa 58 [.int .i64 a,.int .i64 b,.int .i64 c],.nO 1 2):=by kernel_rfl
theorem H5 {D:Mem} {l:List (Nat×Nat×Nat)} {x:Value} {s:Nat×Nat×Nat} (h:aq D 58 3 b (l.map dF) x) (hl:l.length<1000):
 ∃x' D',ba af (D.alloc (aa 58 (dF s))) 34 34 x (.slice (some ⟨D.next,0,none⟩) 1 2)= .ok (x',D')∧aq D' 58 3 (D.next+1) ((l++[s]).map dF) x'∧D'.next=D.next+2∧∀z,(z=b→x= .slice none 0 0)→z<D.next→D'.get z=D.get z:=by
 obtain⟨i,t1,t2,t3⟩:=Yy;have h':aq (D.alloc (aa 58 (dF s))) 58 3 b (l.map dF) x:=h.same (by rw [ae];omega) fun hh=>aB (by omega)
 obtain⟨x',D',h1,h2,h3,h4⟩:=aq.append (tb:=af) (st:=34) (xt:=34) h' LX LX YI t1 t2 t3 (by omega) (by omega) (by rw [Zp];omega) (ay D _) rfl (by simp [dF,aH]);rw [ae] at h2 h3 h4;exact⟨x',D',h1,by rw [Z3];exact h2,by omega,fun z hz hzn=>by rw [h4 z hz (by omega),aB (by omega)]⟩
theorem Pj:aV af 34= .ok 1:=by kernel_rfl
variable {b':Nat} {x':Value}
theorem aq.apart {e e':TypeId} {n':Nat} {ls ls':List (List Value)} {x:Value} (h:aq A e n b ls x) (h':aq A e' n' b' ls' x') (he:e≠e') (h0:ls=[]→x= .slice none 0 0) (h0':ls'=[]→x'= .slice none 0 0) (hn:A.next≤A'.next)
 (hg:∀z,(z=b→x= .slice none 0 0)→z<A.next→A'.get z=A.get z):aq A' e' n' b' ls' x':=aq.fU h' h0' hn fun hne hlt=>hg b' (fun e1=>by
  by_cases hl:ls=[]
  ·exact h0 hl
  ·exact absurd e1.symm (HG h h' hl hne he)) hlt
noncomputable def c6:Code:=qa6.body.getD .skip
noncomputable def QV:Code:=sub c6 [1,1,1,1,1,1,0,1,0,0]
noncomputable def QW:Code:=sub c6 [1,1,1,1,1,1,1,1,1,1,0,1,0,0]
def TK (B:Mem) (r:Nat) (ls:List (List aG)) (k i:Nat) (D:Mem) (y:Value):Prop:=wU r B D∧∃b1 b2 xs,VB D 36 r (.var 4) [.int .i64 ls.length,.int .i64 (1:Nat),.int .i64 (ls.length+1+k % 4:Nat),xs]∧
 aq D 58 3 b1 (((cV ls).take i).map dF) xs∧(i=0→xs= .slice none 0 0)∧B.next≤b1∧aq D 27 2 b2 (((eu ls).take i).map cG) y∧(i=0→y= .slice none 0 0)∧B.next≤b2
variable {r:Nat} {ls:List (List aG)} {z:Value}
theorem GJ {D:Mem} {iv x3:Value} (hrB:r<B.next) (hL:ic B ls z) (hLr:∀D,wU r B D→ic D ls z) (hok:∀l∈ls,wo l) (hls:ls.length≤6) (hi:i<ls.length) (h:TK B r ls k i D y)
 (hs:Sl t [(1,iv),(3,x3),(4,z),(5,pw r 0),(6,y),(7,.int .i64 i)]):
 W af QV ⟨t,167,[],D,none⟩ fun e s'=>e= .nrm∧∃t' D' y',s'=⟨t',167,[],D',none⟩∧TK B r ls k (i+1) D' y'∧Sl t' [(1,iv),(3,x3),(4,z),(5,pw r 0),(6,y'),(7,.int .i64 (i+1:Nat))]:=by
 obtain⟨hK,b1,b2,xs,hV,hS1,hx0,hb1,hS2,hy0,hb2⟩:=h;obtain⟨g1,g3,g4,g5,g6,g7,-⟩:=hs;have hli:ls[i]?=some ls[i]:=Zi hi;obtain⟨o1,o2,o3,o4,o5,o6,o7,o8,o9⟩:=hok _ (ZO hi);have hse:=gS hli;have hfe:=qL hli;have hLD:=hLr D hK;have lenD:=hLD.len;obtain⟨p,xl,j1,j2,hE⟩:=hLD.at hli;generalize ls[i]=l at*;have hkd:=hK.1;have hsl:(crc.aN (cX l)).length=(cX l).length+4:=by unfold crc.aN;rw [Zo,crc.l_]
 have hstk:(cV ls).take (i+1)=(cV ls).take i++[(ls.length-i,l.length,(crc.aN (cX l)).length)]:=by
  obtain⟨h1,h2⟩:=Zl.1 hse;rw [Zs h1,h2]
 have hftk:(eu ls).take (i+1)=(eu ls).take i++[(eF (ls.length-i),crc.aN (cX l))]:=by
  obtain⟨h1,h2⟩:=Zl.1 hfe;rw [Zs h1,h2]
 obtain⟨v,E,⟨gm,hgm⟩,kE,rfl⟩:=Lw hE o1 o2 o3 (by omega) o5 o6 o7 o8 (by omega);have VE:=hV.kp kE;have hS1E:=hS1.same kE.1 (kE.2 b1);have hS2E:=hS2.same kE.1 (kE.2 b2);have hLE:=hLD.kp kE;obtain⟨p2,xl2,q1,q2,hE2⟩:=hLE.at hli;obtain rfl:p=p2:=R.ok.inj (j1.symm.trans q1);have lenE:=hLE.len;have lenl:=hE2.len;have hbl:=cd (tb:=af) (t:=9) (l:=crc.aN (cX l)) u9;have lxs:ai af E.get 34 (pw r (0+3))= .ok xs:=VE.ld rfl LX rfl;have su:aK .sub .i64 ((ls.length:Nat):Int) ((i:Nat):Int)= .ok (.int .i64 (ls.length-i:Nat)):=bm (by omega) (aR (by omega));have hsl2:((cV ls).take i).length<1000:=by rw [ZD,eW];omega
 have hfl2:((eu ls).take i).length<1000:=by rw [ZD,dJ];omega
 have z1:((cV ls).take i).map dF=[]→xs= .slice none 0 0:=fun h=>hx0 (by
  have:=congrArg qaR h;rw [Zp,ZD,eW,ZG] at this;omega)
 have z2:((eu ls).take i).map cG=[]→y= .slice none 0 0:=fun h=>hy0 (by
  have:=congrArg qaR h;rw [Zp,ZD,dJ,ZG] at this;omega)
 obtain⟨xs',F,happ,hs3,hn3,hf3⟩:=H5 (s:=(ls.length-i,l.length,(crc.aN (cX l)).length)) hS1E hsl2;have hkE:=kE.1;have happ':ba af (E.alloc (aa 58 [.int .i64 (ls.length-i:Nat),.int .i64 (l.length:Nat),.int .i64 (((crc.aN (cX l)).length:Nat):Int)])) 34 34 xs (.slice (some ⟨E.next,0,none⟩) 1 2)= .ok (xs',F):=happ;obtain⟨G,sG,vG,nG,fG⟩:=aY (tb:=af) (t:=34) (o:=3) (v:=xs') Pj (VE.2.same (hf3 r (fun e=>by omega) (by omega))) (by simp) (aq.di hs3).1 (aq.di hs3).2;have hS2F:aq F 27 2 b2 (((eu ls).take i).map cG) y:=aq.apart hS1E hS2E (by decide) z1 z2 (by omega) hf3;have hS2G:aq G 27 2 b2 (((eu ls).take i).map cG) y:=aq.fU hS2F z2 (by omega) fun _ _=>fG b2 (by omega)
 have kn:=fun ih=>(WX (ih:=ih) (A:=G) (n:=ls.length-i) (by omega)).2
 obtain⟨y',H,hap2,hs4,hn4,hf4⟩:=BT (f:=(eF (ls.length-i),crc.aN (cX l))) hS2G hfl2;apply W.bf (gm) 20
 ·intro M hM;simp (config:={maxSteps:=4000000}) (disch:=first|decide+kernel|omega|simp only [Wq,Zf]) only [QV,c6,qa6,Aq,Zj,reduceIte,Zf,Zg,g4,g5,g6,g7,lenD,hi,j1,j2,hgm,lenE,su,q1,q2,lenl,hbl,sg,lxs,Wg,Wn,happ',sG,kn,We,T0,hap2,Zm,Zk,Fq,au []];rfl
 have hkeep:∀z,z<B.next→z≠r→H.get z=B.get z:=fun z hz hr=>by rw [hf4 z (fun e=>by omega) (by omega),fG z hr,hf3 z (fun e=>by omega) (by omega),kE.2 z (by omega),hK.2 z hz hr]
 refine⟨rfl,_,H,y',rfl,⟨⟨by omega,hkeep⟩,E.next+1,G.next+1,xs',⟨by omega,vG.same (hf4 r (fun e=>by omega) (by omega))⟩,?_,fun h=>by omega,by omega,by rw [hftk];exact hs4,fun h=>by omega,by omega⟩,?_⟩
 ·rw [hstk];have e1:aq G 58 3 (E.next+1) (((cV ls).take i++[(ls.length-i,l.length,(crc.aN (cX l)).length)]).map dF) xs':=hs3.same (by omega) fun _=>fG _ (by omega)
  exact aq.apart hS2G e1 (by decide) z2 (fun h=>by simp at h) (by omega) hf4
 ·simp only [Sq,Zf,Zg,g1,g3,g4,g5]
end Go.Proofs.YtggndfefpbmaeaaGreatDoor.sto
namespace Go.Sto
open Go.Am Go.Mdl
theorem Uf (d:Nat) (p:aG→Bool) (l:List aG):Dw d (l.filter p)≤Dw d l:=by
 have:=qB d p l;omega
theorem rZ {d:Nat}:∀{l:List aG},(∀e∈l,d≤e.word.length)→Dw d l=Dw (d+1) l+l.length
 | [],_=>rfl
 |x::l,h=>by
  have ih:=rZ (d:=d) (l:=l) fun e he=>h e (Zx _ he)
  have:=h x Zy;unfold Dw at ih⊢;simp only [qar,List.sum_cons,Zu];omega
variable {d:Nat}
theorem tM {rec:List aG→Nat→List a6→List a6×Nat} {less:Nat} {p:List UInt8} (hrec:∀own n M b,own≠ []→rL own→HZ (d+1) (p++[b]) own→(rec own n M).1.length≤M.length+Dw (d+1) own):
 ∀(r:List aG) (rs:List cL) (M:List a6),rL r→HZ d p r→(∀y∈r,∀b,(rs.getLast?).map (·.byte)=some b→∃c,ax d y=some c∧b≤c)→
  (dD rec d less r rs M).1.length≤M.length+Dw (d+1) (r.filter fun x=>decide (ax d x≠none∧ax d x≠(rs.getLast?).map (·.byte)))
 | [],rs,M,_,_,_=>Zn _
 |e::r,rs,M,ha,hb,hy=>by
  have hb':HZ d p r:=fun x hx=>hb x (Zx _ hx)
  unfold dD;by_cases hskip:ax d e=none∨(rs.getLast?).map (·.byte)=ax d e
  ·rw [if_pos hskip,Z',if_neg (by rcases hskip with h|h<;>simp [h])];exact tM hrec r rs M ha.2 hb' fun y hyr=>hy y (Zx _ hyr)
  ·rw [if_neg hskip];simp only [not_or] at hskip;obtain⟨hn,hla⟩:=hskip;obtain⟨b,hbe⟩:∃b,ax d e=some b:=Option.ne_none_iff_exists'.1 hn;have hge:∀y∈e::r,∃c,ax d y=some c∧b≤c:=by
    intro y hyr;rcases ZC.1 hyr with rfl|hyr
    ·exact⟨b,hbe,UInt8.le_refl _⟩
    ·obtain⟨c,h1,h2⟩:=rS (hb e Zy).1 (hb' y hyr).1 (ha.1 y hyr);exact⟨c,h1,h2 b hbe⟩
   have hown:∀x∈(e::r).filter (fun x=>decide (ax d x=ax d e)),x∈e::r∧ax d x=some b:=by
    intro x hx;obtain⟨h1,h2⟩:=qaF.1 hx;exact⟨h1,by rw [←hbe];simpa using h2⟩
   have hne:(e::r).filter (fun x=>decide (ax d x=ax d e))≠ []:=by
    intro h;have:e∈(e::r).filter (fun x=>decide (ax d x=ax d e)):=qaF.2 ⟨Zy,by simp⟩;rw [h] at this;cases this
   have hbo:HZ (d+1) (p++[b]) ((e::r).filter fun x=>decide (ax d x=ax d e)):=by
    intro x hx;obtain⟨h1,h2⟩:=hown x hx;obtain⟨hd,he⟩:=Zl.1 h2;refine⟨?_,hd⟩;rw [Zs hd,(hb x h1).1,he]
   have q1:=hrec _ (least ((e::r).filter fun x=>decide (ax d x=ax d e))) M b hne (jD ha) hbo;have hlast:∀z,(((rs++[(⟨(ax d e).getD 0,least ((e::r).filter fun x=>decide (ax d x=ax d e))-less,z⟩:cL)]).getLast?).map (·.byte))=some b:=fun z=>by
    rw [List.getLast?_append];simp [hbe]
   have q2:=tM (less:=less) hrec r (rs++[⟨(ax d e).getD 0,least ((e::r).filter fun x=>decide (ax d x=ax d e))-less,(rec ((e::r).filter fun x=>decide (ax d x=ax d e)) (least ((e::r).filter fun x=>decide (ax d x=ax d e))) M).2⟩]) (rec ((e::r).filter fun x=>decide (ax d x=ax d e)) (least ((e::r).filter fun x=>decide (ax d x=ax d e))) M).1 ha.2 hb' (by
    intro y hyr b' hb2;rw [hlast] at hb2;cases hb2;exact hge y (Zx _ hyr))
   rw [hlast] at q2;have hall:(e::r).filter (fun x=>decide (ax d x≠none∧ax d x≠(rs.getLast?).map (·.byte)))=e::r:=by
    rw [qbS];intro y hyr;obtain⟨c,h1,h2⟩:=hge y hyr;rw [decide_eq_true];refine⟨by rw [h1];simp,fun h3=>?_⟩;obtain⟨c',h4,h5⟩:=hy e Zy c (by rw [←h3,h1]);rw [hbe] at h4;cases h4;exact hla (by rw [←h3,h1,hbe,UInt8.le_antisymm h5 h2])
   have hsp:=qB (d+1) (fun x=>decide (ax d x=ax d e)) (e::r);have hrest:(e::r).filter (fun x=>!decide (ax d x=ax d e))=r.filter (fun x=>decide (ax d x≠none∧ax d x≠some b)):=by
    rw [Z',if_neg (by simp)];refine List.filter_congr fun y hyr=>?_
    obtain⟨c,h1,-⟩:=hge y (Zx _ hyr);simp [h1,hbe]
   rw [hrest] at hsp;rw [hall];omega
theorem De:∀(f:Nat) (l:List aG) (d less:Nat) (p:List UInt8) (M:List a6),l≠ []→rL l→HZ d p l→(pP f l d less M).1.length≤M.length+Dw d l
 |0,_,_,_,_,M,_,_,_=>Nat.le_add_right _ _
 |f+1,l,d,less,p,M,h0,ha,hb=>by
  have q:=tM (rec:=fun own n M=>pP f own (d+1) n M) (less:=less) (fun own n M b h1 h2 h3=>De f own (d+1) n (p++[b]) M h1 h2 h3) l [] M ha hb (fun y _ b hb=>by cases hb);have q2:=Uf (d+1) (fun x=>decide (ax d x≠none∧ax d x≠(([]:List cL).getLast?).map (·.byte))) l;have q3:=rZ (d:=d) (l:=l) fun e he=>(hb e he).2
  have q4:=ZW.2 h0;unfold pP;have q5:∀(M:List a6) (s:a6),(p_ M s).1.length≤M.length+1:=fun M s=>by
   unfold p_;split
   ·exact Nat.le_succ _
   ·rw [Zo];exact Zn _
  refine ZV (q5 _ _) ?_;omega
variable {M:List a6}
theorem Xy (g:de M):∀i,i<M.length→ws M i≠ []:=by
 intro i
 induction i using qbL with
 |ind i ih=>
  intro hi;have hs:M[i]?=some M[i]:=Zi hi;obtain⟨-,-,h3,h4,-⟩:=g i _ hs;rw [nP g hs];generalize M[i]=s at*;rcases h4 with h4|h4
  ·rw [h4];simp
  ·obtain⟨a,rs,ha⟩:∃a rs,s.arcs=a::rs:=by cases h:s.arcs with
    |nil=>exact absurd h h4
    |cons a rs=>exact⟨a,rs,rfl⟩
   have hlt:=h3 a (by rw [ha];exact Zy);have:=ih a.to hlt (by omega);rw [ha,qaa];unfold je;simp [this]
variable {i:Nat}
theorem Oq (g:Good M) {s:a6} (hs:M[i]?=some s):s.out≤4294967296∧∀a∈s.arcs,a.out≤4294967296:=by
 have hi:=(Zl.1 hs).1;have hw:=g.2.2 i hi;rw [nP g.1 hs] at hw;obtain⟨h1,-,h3,-,-⟩:=g.1 i s hs;refine⟨?_,fun a ha=>?_⟩
 ·cases hf:s.fin with
  |false=>rw [h1 hf];omega
  |true=>
   rw [hf] at hw;exact hw ([],s.out) (by simp)
 ·obtain⟨w,hwm⟩:=qcc _ (Xy g.1 a.to (by have:=h3 a ha;omega));have:=hw (a.byte::w.1,a.out+w.2) (qaP _ (qbx.2 ⟨a,ha,ZX.2 ⟨w,hwm,rfl⟩⟩));simp only at this;omega
end Go.Sto
namespace Go.Proofs.YtggndfefpbmaeaaGreatDoor.sto
open Go.Am Go.Mdl Go.Sto
variable {M:List a6}
theorem N6 (g:Go.Sto.Good M):Lay M:=fun i s hs=>by
 have hm:s∈M:=ZM hs;obtain⟨h1,-,h3,-,-⟩:=g.1 i s hs;obtain⟨h4,h5⟩:=Oq g hs;exact⟨Eo g hm,h1,by omega,fun a ha=>⟨h3 a ha,by have:=h5 a ha;omega⟩⟩
variable {i:Nat}
theorem IB:∀{l:List cL},i<18446744073709551616→(∀a∈l,a.out<18446744073709551616)→(l.flatMap (ij i)).length≤19*l.length
 | [],_,_=>Zn _
 |a::l,hi,h=>by
  have h1:=IB (l:=l) hi fun a ha=>h a (Zx _ ha)
  have h2:=eU a.out (h a Zy);have h3:=eU (i-a.to) (by omega);have e:(ij i a).length=(bI a.out).length+(bI (i-a.to)).length+1:=by unfold ij;rw [Zu,Zo]
  rw [qaa,Zo,Zu,e];omega
theorem JI:∀(M:List a6) (i:Nat),i+M.length<1000000→(∀s∈M,s.arcs.length≤256∧s.out<18446744073709551616∧∀a∈s.arcs,a.out<18446744073709551616)→(iG i M).length≤4882*M.length
 | [],_,_,_=>Zn _
 |s::M,i,hi,h=>by
  rw [Zu] at hi;have h1:=JI M (i+1) (by omega) fun s hs=>h s (Zx _ hs)
  obtain⟨h2,h3,h4⟩:=h s Zy;have h5:=IB (i:=i) (by omega) h4;have h6:(nu s).length≤18:=by
   unfold nu;have e1:=eU (2*s.arcs.length+1) (by omega);have e2:=eU (2*s.arcs.length) (by omega);have e3:=eU s.out h3;split
   ·rw [Zo];omega
   ·omega
  rw [iG,Zo,Zu];unfold HK;rw [Zo];omega
variable {l:List aG}
theorem Y4 (h0:l≠ []) (ha:rL l) (hl:l.length≤15) (hw:∀e∈l,(1≤e.word.length∧e.word.length≤9)∧e.weight<4294967296):wo l:=by
 obtain⟨r1,-,r3,-,-,-⟩:=MV h0 ha fun e he=>⟨by have:=(hw e he).1.2;omega,(hw e he).2⟩
 have hc:=De 256 l 0 (least l) [] [] h0 ha fun e _=>⟨rfl,Zv _⟩
 have hc2:Dw 0 l≤10*l.length:=by
  have:∀l:List aG,(∀e∈l,e.word.length≤9)→Dw 0 l≤10*l.length:=by
   intro l
   induction l with
   |nil=>exact fun _=>Zn _
   |cons x l ih=>
    intro h;have h1:=ih fun e he=>h e (Zx _ he)
    have h2:=h x Zy;unfold Dw at h1⊢;simp only [qar,List.sum_cons,Zu];omega
  exact this l fun e he=>(hw e he).1.2
 have hdl:(dC l).length≤150:=by
  unfold dC;simp only [ZG] at hc;omega
 have hL:=N6 r1;have hle:least l≤4294967296:=by
  obtain⟨e,he,h⟩:=oO h0;rw [h];exact vd (hw e he).2
 refine⟨h0,ha,fun e he=>⟨(hw e he).1.1,by have:=(hw e he).1.2;omega,(hw e he).2⟩,hl,by omega,fun h=>?_,hL,by omega,?_⟩
 ·unfold dC at h;rw [h] at r3;simp at r3
 ·have hs:=JI (dC l) 0 (by omega) fun s hs=>by
   obtain⟨i,hi,rfl⟩:=qbT hs;obtain⟨a1,a2,a3,a4⟩:=hL i _ (Zi hi);exact⟨a1,a3,fun a ha=>(a4 a ha).2⟩
  have e1:=eU l.length (by omega);have e2:=eU (dC l).length (by omega);have e3:=eU (least l) (by omega);unfold cX ja;simp only [Zo,Zu,ZG];omega
theorem UF (dss:List (List rM)) (hw:∀ds∈dss,∀d∈ds,d.wt<4294967296):∀l∈ib dss,wo l:=fun l hl=>by
 have h0:=IU hl;unfold ib at hl;obtain⟨h1,-⟩:=qaF.1 hl;obtain⟨ds,h2,rfl⟩:=ZX.1 h1;obtain⟨q1,q2,q3⟩:=N_ ds (hw ds (qbK h2));exact Y4 h0 q1 q2 q3
end Go.Proofs.YtggndfefpbmaeaaGreatDoor.sto
namespace Go.Proofs.YtggndfefpbmaeaaGreatDoor.sto
open Go.Am Go.Mdl Go.Sto
theorem AN:∀{l:List aG},(∀e∈l,e.word.length≤255)→Dw 0 l≤256*l.length
 | [],_=>Zn _
 |e::l,h=>by
  have h1:=AN (l:=l) fun x hx=>h x (Zx _ hx)
  have h2:=h e Zy;unfold Dw at h1⊢;rw [qar,List.sum_cons,Zu];omega
structure V4 (l:List aG):Prop where
 ne:dC l≠ []
 good:Sto.Good (dC l)
 fit:∀s∈dC l,Fit s
 len:(dC l).length<10000
 visit:f_ (dC l) (dC l).length ((dC l).length-1) 0=some (dC l).length
 words:ws (dC l) ((dC l).length-1)=l.map (D 0 (least l))
variable {l:List aG}
theorem HE (h:wo l):V4 l:=by
 obtain⟨h0,ha,hw,hl,-,-,-,-,-⟩:=h;obtain⟨r1,-,r3,r4,r5,r6⟩:=MV h0 ha fun e he=>⟨(hw e he).2.1,(hw e he).2.2⟩
 have hc:=De 256 l 0 (least l) [] [] h0 ha fun e _=>⟨rfl,Zv _⟩
 have hb:=AN fun e he=>(hw e he).2.1
 have hr:(pP 256 l 0 (least l) []).2=(dC l).length-1:=by
  rcases r4 with⟨-,h⟩|⟨-,h⟩
  ·simp at h
  ·show _=(pP 256 l 0 (least l) []).1.length-1;omega
 have hlen:(dC l).length≤256*l.length:=by
  have:(dC l).length≤([]:List a6).length+Dw 0 l:=hc;rw [ZG] at this;omega
 have hpos:0<(dC l).length:=by
  have:(pP 256 l 0 (least l) []).2<(dC l).length:=r3;omega
 refine⟨ZW.1 hpos,r1,fun s hs=>?_,by omega,?_,?_⟩
 ·obtain⟨i,hi,rfl⟩:=qbT hs;have hsi:=Zi hi;obtain⟨o1,o2⟩:=Oq r1 hsi;exact⟨qan o1 (by omega),fun a hx=>⟨qan (o2 a hx) (by omega),by have:=(r1.1 i _ hsi).2.2.1 a hx;omega⟩⟩
 ·have:=r6 (Zv _) (dC l).length (by rw [hr];omega);rwa [hr] at this
 ·rw [←hr];exact r5
def OF (q1 q2:Nat):List Value:=[.func (.func 121) ⟨[]⟩ ⟨[.pointer (some ⟨q2,0,none⟩)]⟩,.func (.func 123) ⟨[]⟩ ⟨[.pointer (some ⟨q2,0,none⟩),.pointer (some ⟨q1,0,none⟩)]⟩,.func (.func 125) ⟨[]⟩ ⟨[.pointer (some ⟨q2,0,none⟩)]⟩,.func (.func 127) ⟨[]⟩ ⟨[.pointer (some ⟨q2,0,none⟩)]⟩,.func (.func 128) ⟨[]⟩ ⟨[.pointer (some ⟨q2,0,none⟩)]⟩]
variable {b:Nat}
theorem Wl {a:Nat}:a9 af 204 5 [(0,.func (.func 121) ⟨[]⟩ ⟨[pw b 0]⟩),(1,.func (.func 123) ⟨[]⟩ ⟨[pw b 0,pw a 0]⟩),(2,.func (.func 125) ⟨[]⟩ ⟨[pw b 0]⟩),(3,.func (.func 127) ⟨[]⟩ ⟨[pw b 0]⟩),(4,.func (.func 128) ⟨[]⟩ ⟨[pw b 0]⟩)]= .ok (aa 32 (OF a b),.nO 5 10):=by kernel_rfl
theorem Xu:af.bp 204=some (.slice 32):=by kernel_rfl
theorem Y8:aV af 32= .ok 1:=by kernel_rfl
variable {C:Mem} {y:Value}
theorem RG {q1 q2:Nat} (h:wo l) (hS:dY C (dC l) y) (v1:VB C 3 q1 (.var 1) [.int .i64 l.length]) (v2:VB C 105 q2 (.var 2) [y,.int .u64 (least l:Nat)]) (i:Nat) (hi:i<5):
 ∃f c,(OF q1 q2)[i]?=some (.func (.func f) ⟨[]⟩ ⟨c⟩)∧∃D,bJ af f c C (.bool true) D∧Kp C D:=by
 obtain⟨s1,s2,s3,s4,s5,s6⟩:=HE h;obtain⟨h0,-,hw,hl,-⟩:=h;obtain⟨d,hd1,hd2⟩:=bg (t:=105) (p:=true) (by kernel_rfl);have lf:ai af C.get 105 (.pointer (some ⟨q2,0,none⟩))= .ok (.agg ⟨[y,.int .u64 (least l:Nat)]⟩):=aI hd1 hd2 (l:=[y,.int .u64 (least l:Nat)]) dz v2.2;have hpos:=ZW.2 s1;have hlp:=ZW.2 h0;have:i=0∨i=1∨i=2∨i=3∨i=4:=by omega
 rcases this with rfl|rfl|rfl|rfl|rfl
 ·obtain⟨v,D,⟨g,hg⟩,rfl,kD⟩:=Lu (k:=least l) hS s1 s2 s3 (by omega) s5;refine⟨121,_,rfl,D,?_,kD⟩;refine aP (av Tryz.func121) (c:=Tryz.f121.body.getD .skip) (by kernel_rfl) (by rw [Tryz.ntmps121];simp) (by kernel_rfl) (by kernel_rfl) ?_;apply W.bf (g) 60
  ·intro M hM;simp (disch:=omega) only [Tryz.f121,Aq,Zf,lf,hg];rfl
  exact⟨by simp,rfl,rfl,by simp only [Tryz.f121,Aq,Zf,lf,hg]<;>rfl⟩
 ·have hn:(ws (dC l) ((dC l).length-1)).length=l.length:=by rw [s6,Zp]
  obtain⟨v,D,⟨g,hg⟩,rfl,kD⟩:=Ll (k:=.int .u64 (least l:Nat)) hS ⟨rfl,rfl⟩ s2.1 s1 (by omega) (by omega);rw [hn] at hg;have l3:ai af D.get 3 (.pointer (some ⟨q1,0,none⟩))= .ok (.int .i64 l.length):=(v1.kp kD).ld rfl u3 rfl;refine⟨123,_,rfl,D,?_,kD⟩;refine aP (av Tryz.func123) (c:=Tryz.f123.body.getD .skip) (by kernel_rfl) (by rw [Tryz.ntmps123];simp) (by kernel_rfl) (by kernel_rfl) ?_;apply W.bf (g) 60
  ·intro M hM;simp (config:={maxSteps:=4000000}) (disch:=first|decide+kernel|omega|simp only [Wq,Zf]) only [Tryz.f123,Aq,Zj,reduceIte,Zf,Zg,lf,hg,l3,bT,bA,hlp,Zm,Zk];rfl
  exact⟨by simp,rfl,rfl,by simp only [Tryz.f123,Aq,Zj,reduceIte,Zf,Zg,lf,hg,l3,bT,bA,hlp,Zm,Zk]<;>rfl⟩
 ·obtain⟨v,D,⟨g,hg⟩,kD,x,rfl,-,-,hx⟩:=Fe (k:=.int .u64 (least l:Nat)) hS s2.1 s1 (by omega);have hle:x≤((255:Nat):Int):=by
   rcases hx with rfl|⟨w,hwm,rfl⟩
   ·omega
   ·rw [s6] at hwm;obtain⟨e,he,rfl⟩:=ZX.1 hwm;have:=(hw e he).2.1;show(((e.word.drop 0).length:Nat):Int)≤_;rw [qa5];omega
  refine⟨125,_,rfl,D,?_,kD⟩;refine aP (av Tryz.func125) (c:=Tryz.f125.body.getD .skip) (by kernel_rfl) (by rw [Tryz.ntmps125];simp) (by kernel_rfl) (by kernel_rfl) ?_;apply W.bf (g) 60
  ·intro M hM;simp (disch:=first|decide+kernel|omega) only [Tryz.f125,Aq,Zf,lf,hg,fi,hle];rfl
  exact⟨by simp,rfl,rfl,by simp only [Tryz.f125,Aq,Zf,lf,hg,fi,hle]<;>rfl⟩
 ·have ly:ai af C.get 102 (.pointer (some ⟨q2,0,none⟩))= .ok y:=v2.ld rfl fP rfl;have hr:=Zi (show(dC l).length-1<(dC l).length by omega);have hfin:((dC l)[(dC l).length-1]'(by omega)).fin=false:=by
   cases hf:((dC l)[(dC l).length-1]'(by omega)).fin with
   |false=>rfl
   |true=>
    have hm:([],((dC l)[(dC l).length-1]'(by omega)).out)∈ws (dC l) ((dC l).length-1):=by rw [nP s2.1 hr,hf];simp
    rw [s6] at hm;obtain⟨e,he,hee⟩:=ZX.1 hm;have:=(hw e he).1;have hz:e.word.drop 0=[]:=congrArg Prod.fst hee;rw [qa5] at hz;rw [hz] at this;simp at this
  have lenC:=hS.len;have e1:aK .sub .i64 (((dC l).length:Nat):Int) ((1:Nat):Int)= .ok (.int .i64 ((dC l).length-1:Nat)):=bm (by omega) (aR (by omega));obtain⟨b,rows,r1,r2,r3⟩:=hS;obtain⟨x,e2,-⟩:=r3 _ _ hr;have ix:=aq.idx (tb:=af) (t:=102) (kd:=.i64) r1 fP mH (Zl.1 e2).1;have lz:=aq.load (tb:=af) (j:=1) r1 u4 rfl e2 rfl (by omega);rw [hfin] at lz;refine⟨127,_,rfl,C,?_,Kp.refl _⟩;refine aP (av Tryz.func127) (c:=Tryz.f127.body.getD .skip) (by kernel_rfl) (by rw [Tryz.ntmps127];simp) (by kernel_rfl) (by kernel_rfl) ?_;apply W.run 60
  ·intro M;simp (disch:=decide+kernel) only [Tryz.f127,Aq,Zf,dm,ly,lenC,e1,ix,cR,lz];rfl
  exact⟨by simp,rfl,rfl,by simp only [Tryz.f127,Aq,Zf,dm,ly,lenC,e1,ix,cR,lz]<;>rfl⟩
 ·have hk:∀w∈ws (dC l) ((dC l).length-1),w.2+least l≤4294967296:=fun w hwm=>by
   rw [s6] at hwm;obtain⟨e,he,rfl⟩:=ZX.1 hwm;have h1:=least_le he;have h2:=vd (hw e he).2.2;show val e-least l+least l≤_;omega
  obtain⟨v,D,⟨g,hg⟩,kD,n,rfl⟩:=C6 (k:=least l) hS s2 s1 (by omega) hk;refine⟨128,_,rfl,D,?_,kD⟩;refine aP (av Tryz.func128) (c:=Tryz.f128.body.getD .skip) (by kernel_rfl) (by rw [Tryz.ntmps128];simp) (by kernel_rfl) (by kernel_rfl) ?_;apply W.bf (g) 60
  ·intro M hM;simp (disch:=omega) only [Tryz.f128,Aq,Zf,lf,hg,Zm,Zk];rfl
  exact⟨by simp,rfl,rfl,by simp only [Tryz.f128,Aq,Zf,lf,hg,Zm,Zk]<;>rfl⟩
noncomputable def FN:Code:=qcE.body.getD .skip
noncomputable def MK:Code:=sub FN [1,0,1,1,1,0,1,0,0]
theorem Ub:qcE.body=some (.seq (sub FN [0]) (.scope (.seq (sub FN [1,0,0]) (.seq (sub FN [1,0,1,0]) (.seq (sub FN [1,0,1,1,0]) (.seq (.seq (sub FN [1,0,1,1,1,0,0]) (.block 0 (.loop MK))) (.seq (sub FN [1,0,1,1,1,1,0]) (sub FN [1,0,1,1,1,1,1])))))))):=by kernel_rfl
variable {A:Mem}
theorem Hw (h:wo l) (hS:dY A (dC l) y):∃v A',bJ af 80 [.int .i64 l.length,.agg ⟨[y,.int .u64 (least l:Nat)]⟩] A v A'∧v= .bool true∧Kp A A':=by
 refine cM (av Tryz.func80) Ub (by rw [Tryz.ntmps80];simp) (by kernel_rfl) (by kernel_rfl) ?_;generalize hq:A.next=q
 have n1:(A.alloc (aa 3 [.int .i64 l.length])).next=q+1:=by rw [ae,hq]
 have n2:((A.alloc (aa 3 [.int .i64 l.length])).alloc (aa 105 [y,.int .u64 (least l:Nat)])).next=q+2:=by rw [ae,n1]
 have kB:=(Kp.alloc A (aa 3 [.int .i64 l.length])).trans (Kp.alloc _ (aa 105 [y,.int .u64 (least l:Nat)]));have v1:=(az A 3 [.int .i64 l.length]).kp (Kp.alloc _ (aa 105 [y,.int .u64 (least l:Nat)]));have v2:=az (A.alloc (aa 3 [.int .i64 l.length])) 105 [y,.int .u64 (least l:Nat)];rw [hq] at v1;rw [n1] at v2;apply W.q
 ·intro M;simp (disch:=omega) only [FN,qcE,Aq,Zf,aj,dc,hq,n1];rfl
 generalize (A.alloc (aa 3 [.int .i64 l.length])).alloc (aa 105 [y,.int .u64 (least l:Nat)])=B at*;have kC:=Kp.alloc B (aa 32 (OF q (q+1)));have vC:=az B 32 (OF q (q+1));have b2:=Wl (a:=q) (b:=q+1);apply W.scope;apply W.q
 ·intro M;simp (disch:=omega) only [FN,qcE,Aq,Zf,aM,b2,n2];rfl
 rw [n2] at vC;generalize B.alloc (aa 32 (OF q (q+1)))=C at kC vC;have kAC:=kB.trans kC;have v1:=v1.kp kC;have v2:=v2.kp kC;have ll:aL af .len [204] [.slice (some ⟨q+2,0,none⟩) 5 10]= .ok (.int .i64 (5:Nat)):=ez Xu;apply W.q
 ·intro M;simp (disch:=omega) only [FN,qcE,Aq,Zf];rfl
 apply W.seq;refine W.run 1 (fun m=>rfl) ?_;apply W.seq;apply W.q
 ·intro M;simp (disch:=decide+kernel) only [FN,qcE,Aq,Zf,ll];rfl
 apply W.block;refine W.up 5 (fun i t D=>Kp C D∧Sl t [(4,.bool true),(14,.slice (some ⟨q+2,0,none⟩) 5 10),(15,.int .i64 (5:Nat)),(16,.int .i64 i)]) ?_ (Zv _) ⟨Kp.refl _,?_⟩
 ·rintro i t D hi ⟨kD,g4,g14,g15,g16,-⟩;by_cases hlt:i<5
  ·obtain⟨f,c,e1,E,⟨g,hg⟩,kE⟩:=RG h (hS.kp (kAC.trans kD)) (v1.kp kD) (v2.kp kD) i hlt;have ix:=iM (tb:=af) (t:=204) (b:=q+2) (o:=0) (len:=5) (cap:=10) (i:=i) (k:=.i64) Xu Y8 hlt;rw [ZT] at ix;have lf:ai af D.get 32 (pw (q+2) i)= .ok (.func (.func f) ⟨[]⟩ ⟨c⟩):=by
    obtain⟨d,hd1,hd2⟩:=bg (t:=32) (p:=false) (by kernel_rfl);exact(vC.kp kD).ld e1 hd1 hd2
   apply W.bf (g) 20
   ·intro M hM;simp (disch:=first|decide+kernel|omega) only [MK,FN,qcE,Aq,Zf,g14,g15,g16,hlt,ix,lf,hg];rfl
   refine⟨hlt,_,_,rfl,kD.trans kE,?_⟩;simp only [Sq,Zf,Zg,g14,g15]
  ·have e:i=5:=by omega
   subst e;apply W.run 20
   ·intro M;simp (disch:=decide+kernel) only [MK,FN,qcE,Aq,Zf,g15,g16,qau];rfl
   apply W.q
   ·intro M;simp (disch:=omega) only [FN,qcE,Aq,Zf,g4];rfl
   apply W.run 20
   ·intro M;simp only [FN,qcE,Aq,Zf];rfl
   exact⟨by simp,rfl,_,(by simp only [qcE,Aq,Zf]<;>rfl),rfl,kAC.trans kD⟩
 ·simp only [Sq,Zf,Zg]
end Go.Proofs.YtggndfefpbmaeaaGreatDoor.sto
end
