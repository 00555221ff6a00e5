/- The abstract machine, the walk of the law and its plain laws, made small by a program; part 8: no conditions but those in each theorem. -/
import Derived.Test.YtggndfefpbmaeaaGreatDoorQ07
set_option maxHeartbeats 16000000
set_option maxRecDepth 100000
set_option linter.unusedSimpArgs false
set_option linter.unusedVariables false
noncomputable section
open Nat renaming reduceEqDiff→X2,reduceAdd→X3,ble→X5,le_refl→X9,beq→Yc,blt→Ye,zero_le→Yg,blt_eq→Yl,eq_of_beq_eq_true→Yn,lt_of_lt_of_le→Yt,le_of_ble_eq_true→Yx,zero_add→Yy,le_trans→YC,lt_or_ge→YE,add_zero→YU,min_eq_left→Y4,lt_of_le_of_lt→Y5,mul_one→Zf,sub_self→Zg,lt_irrefl→Zk,not_lt_zero→ZR,min_eq_right→ZY,min_le_left→qaM,add_assoc→qaO,strongRecOn→qbf,max_eq_right→qbG,le_total→qbT,max_eq_left→qcc,shiftRight→qch
open List renaming getElem?_eq_getElem→X6,getElem?_cons_succ→X7,getElem?_cons_zero→X8,getElem?_eq_some_iff→X_,length_append→X',length_map→Yb,take_succ_eq_append_getElem→Yd,length_cons→Yf,length_eq_zero_iff→Yh,mem_cons_of_mem→Yi,mem_cons_self→Yk,length_take→Yo,mem_cons→Yp,getElem?_map→Yr,length_nil→Ys,take_length→Yw,getElem?_append_left→Yz,getElem?_append_right→YA,mem_of_getElem?→YF,not_mem_nil→YH,map_eq_nil_iff→YK,length_pos_iff→YM,mem_map→YN,getElem_mem→YQ,filter_cons→YS,cons_append→YT,map_append→YV,flatMap_cons→Y0,append_assoc→Y1,drop_eq_getElem_cons→Y3,mem_singleton→Y7,length_drop→Zj,mem_filter→Zq,mem_append→Zs,take_of_length_le→Zt,pairwise_iff_getElem→Zv,map_cons→ZB,take_zero→ZC,length→ZD,flatMap_append→ZQ,mem_append_right→ZV,getElem?_drop→ZW,drop_zero→Z5,mem_flatMap→qaf,getElem?_take→qah,filter_eq_self→qaw,getElem_of_mem→qay,exists_mem_of_ne_nil→qaU,drop_drop→qa0,nodup_cons→qbc,drop_eq_nil_of_le→qbj,nodup_append→qbo,take_append_drop→qbp,nodup_nil→qbs,take_take→qb3,drop_left→qcg
open Bool renaming false_eq_true→Yj,and_eq_true→Yq
open Int renaming ofNat→Yv
open Option.some renaming injEq→YB
open Option renaming map_some→YI,getD_some→Za,isSome_some→qaH
open Go.Proofs.Tryz renaming f6→ZM,f79→Z2,f80→qbk,f8→qbt,f162→qbv,f70→qbE,f71→qbK,f66→qb8,f159→qci,f161→qck
namespace Go.Proofs.YtggndfefpbmaeaaGreatDoor.sto
open Go.Am Go.Mdl Go.Sto
def Ft (l:List aP):Prop:=l≠ []∧rj l∧(∀e∈l,1≤e.word.length∧e.word.length≤255∧e.weight<4294967296)∧l.length≤15∧(dF l).length<1000000∧dF l≠ []∧Lay (dF l)∧least l<18446744073709551616∧(ez l).length<800000
def cP:List (List aP)→List (Nat×Nat×Nat)
 | []=>[]
 |l::r=>(r.length+1,l.length,(crc.aK (ez l)).length)::cP r
def eo:List (List aP)→List (List UInt8×List UInt8)
 | []=>[]
 |l::r=>(mh (r.length+1),crc.aK (ez l))::eo r
theorem dy:∀ls,(cP ls).length=ls.length
 | []=>rfl
 |l::r=>by rw [cP,Yf,dy r,Yf]
theorem cX:∀ls,(eo ls).length=ls.length
 | []=>rfl
 |l::r=>by rw [eo,Yf,cX r,Yf]
theorem uw:∀{ls:List (List aP)} {i:Nat} {l:List aP},ls[i]?=some l→(cP ls)[i]?=some (ls.length-i,l.length,(crc.aK (ez l)).length)
 |x::r,0,l,h=>by
  cases h;rfl
 |x::r,i+1,l,h=>by
  rw [X7] at h;rw [cP,X7,uw h,Yf,show r.length+1-(i+1)=r.length-i by omega]
theorem qn:∀{ls:List (List aP)} {i:Nat} {l:List aP},ls[i]?=some l→(eo ls)[i]?=some (mh (ls.length-i),crc.aK (ez l))
 |x::r,0,l,h=>by
  cases h;rfl
 |x::r,i+1,l,h=>by
  rw [X7] at h;rw [eo,X7,qn h,Yf,show r.length+1-(i+1)=r.length-i by omega]
def cT (ls:List (List aP)) (k:Nat):iK:=⟨ls.length,ls.length+1+k % 4,cP ls⟩
def dC (f:List UInt8×List UInt8):List Value:=[strOf f.1,strOf f.2]
def pP (A:Mem) (l:List (List UInt8×List UInt8)) (x:Value):Prop:=∃b,az A 27 2 b (l.map dC) x
variable {A A':Mem}
theorem pP.kp {l:List (List UInt8×List UInt8)} {x:Value} (h:pP A l x) (k:Kp A A'):pP A' l x:=by
 obtain⟨b,h⟩:=h;exact⟨b,h.same k.1 (k.2 b)⟩
theorem T2:ai.bp 33=some (.slice 27):=by kernel_rfl
theorem Sq:aY ai 27= .ok 2:=by kernel_rfl
theorem UL:cq ai 27= .ok (2,[.string .empty,.string .empty]):=by kernel_rfl
theorem Md:b7 ai 27= .ok (.agg ⟨[.string .empty,.string .empty]⟩):=by kernel_rfl
theorem Vl:∃i,ai.ty.get 27=some i∧0<i.bytes∧i.bytes≤65536:=by
 have h:(ai.ty.get 27).map (fun i=>Ye 0 i.bytes&&X5 i.bytes 65536)=some true:=by kernel_rfl
 cases hq:ai.ty.get 27 with
 |none=>rw [hq] at h;cases h
 |some i=>
  rw [hq] at h;simp only [YI,YB,Yq,Yl] at h;exact⟨i,rfl,h.1,Yx h.2⟩
theorem pP.len {l:List (List UInt8×List UInt8)} {x:Value} (h:pP A l x):aO ai .len [33] [x]= .ok (.int .i64 (l.length:Nat)):=by
 obtain⟨b,h⟩:=h;have:=az.len (tb:=ai) h T2;rwa [Yb] at this
variable {b o:Nat}
theorem vc:ax ai 27 (pw b o) 0= .ok (pw b o):=by kernel_rfl
theorem zL:ax ai 27 (pw b o) 1= .ok (pw b (o+1)):=by kernel_rfl
variable {i:Nat}
theorem pP.at {l:List (List UInt8×List UInt8)} {x:Value} {f:List UInt8×List UInt8} (h:pP A l x) (hi:l[i]?=some f):
 ∃b o,aZ ai 33 x (.int .i64 i)= .ok (pw b o)∧aq ai A.get 27 (pw b o)= .ok (.agg ⟨dC f⟩)∧aq ai A.get 9 (pw b o)= .ok (strOf f.1)∧aq ai A.get 9 (pw b (o+1))= .ok (strOf f.2):=by
 obtain⟨b,h⟩:=h;have hl:i<(l.map dC).length:=by rw [Yb];exact(X_.1 hi).1
 have hm:(l.map dC)[i]?=some (dC f):=by rw [Yr,hi];rfl
 obtain⟨d,hd1,hd2⟩:=bA (t:=27) (p:=true) (by kernel_rfl);refine⟨b,_,az.idx h T2 Sq hl,az.aQ h hd1 hd2 Sq hm,?_,az.load (tb:=ai) (j:=1) h u9 rfl hm rfl (by omega)⟩;have:=az.load (tb:=ai) (j:=0) h u9 rfl hm rfl (by omega);rwa [YU] at this
theorem sS (f:List UInt8×List UInt8):∀v∈dC f,aJ v=true:=by
 intro v hv;simp only [dC,Yp,YH,or_false] at hv;rcases hv with rfl|rfl<;>rfl
theorem PQ {a b:List UInt8}:cr ai 27 [(0,strOf a),(1,strOf b)]= .ok (.agg ⟨dC (a,b)⟩):=by kernel_rfl
theorem QW {f:List UInt8×List UInt8}:bc ai 33 1 [(0,.agg ⟨dC f⟩)]= .ok (aa 27 (dC f),.m_ 1 2):=by kernel_rfl
theorem wv {D:Mem} {l:List (List UInt8×List UInt8)} {x:Value} {f:List UInt8×List UInt8} (h:az D 27 2 b (l.map dC) x) (hl:l.length<1000):
 ∃x' D',bk ai (D.alloc (aa 27 (dC f))) 33 33 x (.slice (some ⟨D.next,0,none⟩) 1 2)= .ok (x',D')∧az D' 27 2 (D.next+1) ((l++[f]).map dC) x'∧D'.next=D.next+2∧∀z,(z=b→x= .slice none 0 0)→z<D.next→D'.get z=D.get z:=by
 obtain⟨i,t1,t2,t3⟩:=Vl;have h':az (D.alloc (aa 27 (dC f))) 27 2 b (l.map dC) x:=h.same (by rw [ae];omega) fun hh=>aH (by omega)
 obtain⟨x',D',h1,h2,h3,h4⟩:=az.append (tb:=ai) (st:=33) (xt:=33) h' T2 T2 UL t1 t2 t3 (by omega) (by omega) (by rw [Yb];omega) (aD D _) rfl (sS f);rw [ae] at h2 h3 h4;exact⟨x',D',h1,by rw [YV];exact h2,by omega,fun z hz hzn=>by rw [h4 z hz (by omega),aH (by omega)]⟩
theorem Xr:cq ai 58= .ok (3,[.int .i64 0,.int .i64 0,.int .i64 0]):=by kernel_rfl
theorem WT:∃i,ai.ty.get 58=some i∧0<i.bytes∧i.bytes≤65536:=by
 have h:(ai.ty.get 58).map (fun i=>Ye 0 i.bytes&&X5 i.bytes 65536)=some true:=by kernel_rfl
 cases hq:ai.ty.get 58 with
 |none=>rw [hq] at h;cases h
 |some i=>
  rw [hq] at h;simp only [YI,YB,Yq,Yl] at h;exact⟨i,rfl,h.1,Yx h.2⟩
theorem UU {a b c:Int}:cr ai 58 [(0,.int .i64 a),(1,.int .i64 b),(2,.int .i64 c)]= .ok (.agg ⟨[.int .i64 a,.int .i64 b,.int .i64 c]⟩):=by kernel_rfl
theorem VW {a b c:Int}:bc ai 34 1 [(0,.agg ⟨[.int .i64 a,.int .i64 b,.int .i64 c]⟩)]= .ok (aa 58 [.int .i64 a,.int .i64 b,.int .i64 c],.m_ 1 2):=by kernel_rfl
theorem HH {D:Mem} {l:List (Nat×Nat×Nat)} {x:Value} {s:Nat×Nat×Nat} (h:az D 58 3 b (l.map dw) x) (hl:l.length<1000):
 ∃x' D',bk ai (D.alloc (aa 58 (dw s))) 34 34 x (.slice (some ⟨D.next,0,none⟩) 1 2)= .ok (x',D')∧az D' 58 3 (D.next+1) ((l++[s]).map dw) x'∧D'.next=D.next+2∧∀z,(z=b→x= .slice none 0 0)→z<D.next→D'.get z=D.get z:=by
 obtain⟨i,t1,t2,t3⟩:=WT;have h':az (D.alloc (aa 58 (dw s))) 58 3 b (l.map dw) x:=h.same (by rw [ae];omega) fun hh=>aH (by omega)
 obtain⟨x',D',h1,h2,h3,h4⟩:=az.append (tb:=ai) (st:=34) (xt:=34) h' Fo Fo Xr t1 t2 t3 (by omega) (by omega) (by rw [Yb];omega) (aD D _) rfl (by simp [dw,aJ]);rw [ae] at h2 h3 h4;exact⟨x',D',h1,by rw [YV];exact h2,by omega,fun z hz hzn=>by rw [h4 z hz (by omega),aH (by omega)]⟩
theorem OC:aY ai 34= .ok 1:=by kernel_rfl
variable {n b':Nat} {ls:List (List Value)} {x':Value}
theorem az.apart {e e':TypeId} {n':Nat} {ls':List (List Value)} {x:Value} (h:az A e n b ls x) (h':az A e' n' b' ls' x') (he:e≠e') (h0:ls=[]→x= .slice none 0 0) (h0':ls'=[]→x'= .slice none 0 0) (hn:A.next≤A'.next)
 (hg:∀z,(z=b→x= .slice none 0 0)→z<A.next→A'.get z=A.get z):az A' e' n' b' ls' x':=az.fA h' h0' hn fun hne hlt=>hg b' (fun e1=>by
  by_cases hl:ls=[]
  ·exact h0 hl
  ·exact absurd e1.symm (OO h h' hl hne he)) hlt
noncomputable def c6:Code:=ZM.body.getD .skip
noncomputable def Q4:Code:=sub c6 [1,1,1,1,1,1,0,1,0,0]
noncomputable def PC:Code:=sub c6 [1,1,1,1,1,1,1,1,1,1,0,1,0,0]
def Tp (B:Mem) (r:Nat) (ls:List (List aP)) (k i:Nat) (D:Mem) (y:Value):Prop:=wm r B D∧∃b1 b2 xs,VB D 36 r (.var 4) [.int .i64 ls.length,.int .i64 (1:Nat),.int .i64 (ls.length+1+k % 4:Nat),xs]∧
 az D 58 3 b1 (((cP ls).take i).map dw) xs∧(i=0→xs= .slice none 0 0)∧B.next≤b1∧az D 27 2 b2 (((eo ls).take i).map dC) y∧(i=0→y= .slice none 0 0)∧B.next≤b2
variable {B:Mem} {k:Nat} {y:Value} {t:T Value}
theorem He {r:Nat} {ls:List (List aP)} {z:Value} {D:Mem} {iv x3:Value} (hrB:r<B.next) (hL:mm B ls z) (hLr:∀D,wm r B D→mm D ls z) (hok:∀l∈ls,Ft l) (hls:ls.length≤6) (hi:i<ls.length) (h:Tp B r ls k i D y)
 (hs:Sl t [(1,iv),(3,x3),(4,z),(5,pw r 0),(6,y),(7,.int .i64 i)]):
 W ai Q4 ⟨t,167,[],D,none⟩ fun e s'=>e= .nrm∧∃t' D' y',s'=⟨t',167,[],D',none⟩∧Tp B r ls k (i+1) D' y'∧Sl t' [(1,iv),(3,x3),(4,z),(5,pw r 0),(6,y'),(7,.int .i64 (i+1:Nat))]:=by
 obtain⟨hK,b1,b2,xs,hV,hS1,hx0,hb1,hS2,hy0,hb2⟩:=h;obtain⟨g1,g3,g4,g5,g6,g7,-⟩:=hs;have hli:ls[i]?=some ls[i]:=X6 hi;obtain⟨o1,o2,o3,o4,o5,o6,o7,o8,o9⟩:=hok _ (YQ hi);have hse:=uw hli;have hfe:=qn hli;have hLD:=hLr D hK;have lenD:=hLD.len;obtain⟨p,xl,j1,j2,hE⟩:=hLD.at hli;generalize ls[i]=l at*;have hkd:=hK.1;have hsl:(crc.aK (ez l)).length=(ez l).length+4:=by unfold crc.aK;rw [X',crc.iN]
 have hstk:(cP ls).take (i+1)=(cP ls).take i++[(ls.length-i,l.length,(crc.aK (ez l)).length)]:=by
  obtain⟨h1,h2⟩:=X_.1 hse;rw [Yd h1,h2]
 have hftk:(eo ls).take (i+1)=(eo ls).take i++[(mh (ls.length-i),crc.aK (ez l))]:=by
  obtain⟨h1,h2⟩:=X_.1 hfe;rw [Yd h1,h2]
 obtain⟨v,E,⟨gm,hgm⟩,kE,rfl⟩:=JH hE o1 o2 o3 (by omega) o5 o6 o7 o8 (by omega);have VE:=hV.kp kE;have hS1E:=hS1.same kE.1 (kE.2 b1);have hS2E:=hS2.same kE.1 (kE.2 b2);have hLE:=hLD.kp kE;obtain⟨p2,xl2,q1,q2,hE2⟩:=hLE.at hli;obtain rfl:p=p2:=R.ok.inj (j1.symm.trans q1);have lenE:=hLE.len;have lenl:=hE2.len;have hbl:=cd (tb:=ai) (t:=9) (l:=crc.aK (ez l)) u9;have lxs:aq ai E.get 34 (pw r (0+3))= .ok xs:=VE.ld rfl Fo rfl;have su:aN .sub .i64 ((ls.length:Nat):Int) ((i:Nat):Int)= .ok (.int .i64 (ls.length-i:Nat)):=bq (by omega) (aR (by omega));have hsl2:((cP ls).take i).length<1000:=by rw [Yo,dy];omega
 have hfl2:((eo ls).take i).length<1000:=by rw [Yo,cX];omega
 have z1:((cP ls).take i).map dw=[]→xs= .slice none 0 0:=fun h=>hx0 (by
  have:=congrArg ZD h;rw [Yb,Yo,dy,Ys] at this;omega)
 have z2:((eo ls).take i).map dC=[]→y= .slice none 0 0:=fun h=>hy0 (by
  have:=congrArg ZD h;rw [Yb,Yo,cX,Ys] at this;omega)
 obtain⟨xs',F,happ,hs3,hn3,hf3⟩:=HH (s:=(ls.length-i,l.length,(crc.aK (ez l)).length)) hS1E hsl2;have hkE:=kE.1;have happ':bk ai (E.alloc (aa 58 [.int .i64 (ls.length-i:Nat),.int .i64 (l.length:Nat),.int .i64 (((crc.aK (ez l)).length:Nat):Int)])) 34 34 xs (.slice (some ⟨E.next,0,none⟩) 1 2)= .ok (xs',F):=happ;obtain⟨G,sG,vG,nG,fG⟩:=a_ (tb:=ai) (t:=34) (o:=3) (v:=xs') OC (VE.2.same (hf3 r (fun e=>by omega) (by omega))) (by simp) (az.dm hs3).1 (az.dm hs3).2;have hS2F:az F 27 2 b2 (((eo ls).take i).map dC) y:=az.apart hS1E hS2E (by decide) z1 z2 (by omega) hf3;have hS2G:az G 27 2 b2 (((eo ls).take i).map dC) y:=az.fA hS2F z2 (by omega) fun _ _=>fG b2 (by omega)
 have kn:=fun ih=>(U3 (ih:=ih) (A:=G) (n:=ls.length-i) (by omega)).2
 obtain⟨y',H,hap2,hs4,hn4,hf4⟩:=wv (f:=(mh (ls.length-i),crc.aK (ez l))) hS2G hfl2;apply W.a6 (gm) 20
 ·intro M hM;simp (config:={maxSteps:=4000000}) (disch:=first|decide+kernel|omega|simp only [Wq,X2]) only [Q4,c6,ZM,Aq,X5,reduceIte,X2,X3,g4,g5,g6,g7,lenD,hi,j1,j2,hgm,lenE,su,q1,q2,lenl,hbl,mi,lxs,UU,VW,happ',sG,kn,PQ,QW,hap2,X8,X7,Fq,aC []];rfl
 have hkeep:∀z,z<B.next→z≠r→H.get z=B.get z:=fun z hz hr=>by rw [hf4 z (fun e=>by omega) (by omega),fG z hr,hf3 z (fun e=>by omega) (by omega),kE.2 z (by omega),hK.2 z hz hr]
 refine⟨rfl,_,H,y',rfl,⟨⟨by omega,hkeep⟩,E.next+1,G.next+1,xs',⟨by omega,vG.same (hf4 r (fun e=>by omega) (by omega))⟩,?_,fun h=>by omega,by omega,by rw [hftk];exact hs4,fun h=>by omega,by omega⟩,?_⟩
 ·rw [hstk];have e1:az G 58 3 (E.next+1) (((cP ls).take i++[(ls.length-i,l.length,(crc.aK (ez l)).length)]).map dw) xs':=hs3.same (by omega) fun _=>fG _ (by omega)
  exact az.apart hS2G e1 (by decide) z2 (fun h=>by simp at h) (by omega) hf4
 ·simp only [av,aw,T.af,T.ag,T.ak,X2,X3,if_true,if_false,and_true,true_and,g1,g3,g4,g5]
end Go.Proofs.YtggndfefpbmaeaaGreatDoor.sto
namespace Go.Sto
open Go.Am Go.Mdl
theorem TG (d:Nat) (p:aP→Bool) (l:List aP):CY d (l.filter p)≤CY d l:=by
 have:=qU d p l;omega
theorem Fh {d:Nat}:∀{l:List aP},(∀e∈l,d≤e.word.length)→CY d l=CY (d+1) l+l.length
 | [],_=>rfl
 |x::l,h=>by
  have ih:=Fh (d:=d) (l:=l) fun e he=>h e (Yi _ he)
  have:=h x Yk;unfold CY at ih⊢;simp only [ZB,List.sum_cons,Yf];omega
variable {d:Nat}
theorem tI {rec:List aP→Nat→List bj→List bj×Nat} {less:Nat} {p:List UInt8} (hrec:∀own n M b,own≠ []→rj own→HI (d+1) (p++[b]) own→(rec own n M).1.length≤M.length+CY (d+1) own):
 ∀(r:List aP) (rs:List cO) (M:List bj),rj r→HI d p r→(∀y∈r,∀b,(rs.getLast?).map (·.byte)=some b→∃c,ay d y=some c∧b≤c)→
  (dB rec d less r rs M).1.length≤M.length+CY (d+1) (r.filter fun x=>decide (ay d x≠none∧ay d x≠(rs.getLast?).map (·.byte)))
 | [],rs,M,_,_,_=>X9 _
 |e::r,rs,M,ha,hb,hy=>by
  have hb':HI d p r:=fun x hx=>hb x (Yi _ hx)
  unfold dB;by_cases hskip:ay d e=none∨(rs.getLast?).map (·.byte)=ay d e
  ·rw [if_pos hskip,YS,if_neg (by rcases hskip with h|h<;>simp [h])];exact tI hrec r rs M ha.2 hb' fun y hyr=>hy y (Yi _ hyr)
  ·rw [if_neg hskip];simp only [not_or] at hskip;obtain⟨hn,hla⟩:=hskip;obtain⟨b,hbe⟩:∃b,ay d e=some b:=Option.ne_none_iff_exists'.1 hn;have hge:∀y∈e::r,∃c,ay d y=some c∧b≤c:=by
    intro y hyr;rcases Yp.1 hyr with rfl|hyr
    ·exact⟨b,hbe,UInt8.le_refl _⟩
    ·obtain⟨c,h1,h2⟩:=tc (hb e Yk).1 (hb' y hyr).1 (ha.1 y hyr);exact⟨c,h1,h2 b hbe⟩
   have hown:∀x∈(e::r).filter (fun x=>decide (ay d x=ay d e)),x∈e::r∧ay d x=some b:=by
    intro x hx;obtain⟨h1,h2⟩:=Zq.1 hx;exact⟨h1,by rw [←hbe];simpa using h2⟩
   have hne:(e::r).filter (fun x=>decide (ay d x=ay d e))≠ []:=by
    intro h;have:e∈(e::r).filter (fun x=>decide (ay d x=ay d e)):=Zq.2 ⟨Yk,by simp⟩;rw [h] at this;cases this
   have hbo:HI (d+1) (p++[b]) ((e::r).filter fun x=>decide (ay d x=ay d e)):=by
    intro x hx;obtain⟨h1,h2⟩:=hown x hx;obtain⟨hd,he⟩:=X_.1 h2;refine⟨?_,hd⟩;rw [Yd hd,(hb x h1).1,he]
   have q1:=hrec _ (least ((e::r).filter fun x=>decide (ay d x=ay d e))) M b hne (jv ha) hbo;have hlast:∀z,(((rs++[(⟨(ay d e).getD 0,least ((e::r).filter fun x=>decide (ay d x=ay d e))-less,z⟩:cO)]).getLast?).map (·.byte))=some b:=fun z=>by
    rw [List.getLast?_append];simp [hbe]
   have q2:=tI (less:=less) hrec r (rs++[⟨(ay d e).getD 0,least ((e::r).filter fun x=>decide (ay d x=ay d e))-less,(rec ((e::r).filter fun x=>decide (ay d x=ay d e)) (least ((e::r).filter fun x=>decide (ay d x=ay d e))) M).2⟩]) (rec ((e::r).filter fun x=>decide (ay d x=ay d e)) (least ((e::r).filter fun x=>decide (ay d x=ay d e))) M).1 ha.2 hb' (by
    intro y hyr b' hb2;rw [hlast] at hb2;cases hb2;exact hge y (Yi _ hyr))
   rw [hlast] at q2;have hall:(e::r).filter (fun x=>decide (ay d x≠none∧ay d x≠(rs.getLast?).map (·.byte)))=e::r:=by
    rw [qaw];intro y hyr;obtain⟨c,h1,h2⟩:=hge y hyr;rw [decide_eq_true];refine⟨by rw [h1];simp,fun h3=>?_⟩;obtain⟨c',h4,h5⟩:=hy e Yk c (by rw [←h3,h1]);rw [hbe] at h4;cases h4;exact hla (by rw [←h3,h1,hbe,UInt8.le_antisymm h5 h2])
   have hsp:=qU (d+1) (fun x=>decide (ay d x=ay d e)) (e::r);have hrest:(e::r).filter (fun x=>!decide (ay d x=ay d e))=r.filter (fun x=>decide (ay d x≠none∧ay d x≠some b)):=by
    rw [YS,if_neg (by simp)];refine List.filter_congr fun y hyr=>?_
    obtain⟨c,h1,-⟩:=hge y (Yi _ hyr);simp [h1,hbe]
   rw [hrest] at hsp;rw [hall];omega
theorem CK:∀(f:Nat) (l:List aP) (d less:Nat) (p:List UInt8) (M:List bj),l≠ []→rj l→HI d p l→(oX f l d less M).1.length≤M.length+CY d l
 |0,_,_,_,_,M,_,_,_=>Nat.le_add_right _ _
 |f+1,l,d,less,p,M,h0,ha,hb=>by
  have q:=tI (rec:=fun own n M=>oX f own (d+1) n M) (less:=less) (fun own n M b h1 h2 h3=>CK f own (d+1) n (p++[b]) M h1 h2 h3) l [] M ha hb (fun y _ b hb=>by cases hb);have q2:=TG (d+1) (fun x=>decide (ay d x≠none∧ay d x≠(([]:List cO).getLast?).map (·.byte))) l;have q3:=Fh (d:=d) (l:=l) fun e he=>(hb e he).2
  have q4:=YM.2 h0;unfold oX;have q5:∀(M:List bj) (s:bj),(pR M s).1.length≤M.length+1:=fun M s=>by
   unfold pR;split
   ·exact Nat.le_succ _
   ·rw [X'];exact X9 _
  refine YC (q5 _ _) ?_;omega
variable {M:List bj}
theorem Wc (g:dM M):∀i,i<M.length→ws M i≠ []:=by
 intro i
 induction i using qbf with
 |ind i ih=>
  intro hi;have hs:M[i]?=some M[i]:=X6 hi;obtain⟨-,-,h3,h4,-⟩:=g i _ hs;rw [pS g hs];generalize M[i]=s at*;rcases h4 with h4|h4
  ·rw [h4];simp
  ·obtain⟨a,rs,ha⟩:∃a rs,s.arcs=a::rs:=by cases h:s.arcs with
    |nil=>exact absurd h h4
    |cons a rs=>exact⟨a,rs,rfl⟩
   have hlt:=h3 a (by rw [ha];exact Yk);have:=ih a.to hlt (by omega);rw [ha,Y0];unfold xS;simp [this]
variable {i:Nat}
theorem LZ (g:Good M) {s:bj} (hs:M[i]?=some s):s.out≤4294967296∧∀a∈s.arcs,a.out≤4294967296:=by
 have hi:=(X_.1 hs).1;have hw:=g.2.2 i hi;rw [pS g.1 hs] at hw;obtain⟨h1,-,h3,-,-⟩:=g.1 i s hs;refine⟨?_,fun a ha=>?_⟩
 ·cases hf:s.fin with
  |false=>rw [h1 hf];omega
  |true=>
   rw [hf] at hw;exact hw ([],s.out) (by simp)
 ·obtain⟨w,hwm⟩:=qaU _ (Wc g.1 a.to (by have:=h3 a ha;omega));have:=hw (a.byte::w.1,a.out+w.2) (ZV _ (qaf.2 ⟨a,ha,YN.2 ⟨w,hwm,rfl⟩⟩));simp only at this;omega
end Go.Sto
namespace Go.Proofs.YtggndfefpbmaeaaGreatDoor.sto
open Go.Am Go.Mdl Go.Sto
variable {M:List bj}
theorem L3 (g:Go.Sto.Good M):Lay M:=fun i s hs=>by
 have hm:s∈M:=YF hs;obtain⟨h1,-,h3,-,-⟩:=g.1 i s hs;obtain⟨h4,h5⟩:=LZ g hs;exact⟨Dq g hm,h1,by omega,fun a ha=>⟨h3 a ha,by have:=h5 a ha;omega⟩⟩
variable {i:Nat}
theorem IL:∀{l:List cO},i<18446744073709551616→(∀a∈l,a.out<18446744073709551616)→(l.flatMap (im i)).length≤19*l.length
 | [],_,_=>X9 _
 |a::l,hi,h=>by
  have h1:=IL (l:=l) hi fun a ha=>h a (Yi _ ha)
  have h2:=eM a.out (h a Yk);have h3:=eM (i-a.to) (by omega);have e:(im i a).length=(bH a.out).length+(bH (i-a.to)).length+1:=by unfold im;rw [Yf,X']
  rw [Y0,X',Yf,e];omega
theorem I5:∀(M:List bj) (i:Nat),i+M.length<1000000→(∀s∈M,s.arcs.length≤256∧s.out<18446744073709551616∧∀a∈s.arcs,a.out<18446744073709551616)→(ig i M).length≤4882*M.length
 | [],_,_,_=>X9 _
 |s::M,i,hi,h=>by
  rw [Yf] at hi;have h1:=I5 M (i+1) (by omega) fun s hs=>h s (Yi _ hs)
  obtain⟨h2,h3,h4⟩:=h s Yk;have h5:=IL (i:=i) (by omega) h4;have h6:(nd s).length≤18:=by
   unfold nd;have e1:=eM (2*s.arcs.length+1) (by omega);have e2:=eM (2*s.arcs.length) (by omega);have e3:=eM s.out h3;split
   ·rw [X'];omega
   ·omega
  rw [ig,X',Yf];unfold FH;rw [X'];omega
theorem XO {l:List aP} (h0:l≠ []) (ha:rj l) (hl:l.length≤15) (hw:∀e∈l,(1≤e.word.length∧e.word.length≤9)∧e.weight<4294967296):Ft l:=by
 obtain⟨r1,-,r3,-,-,-⟩:=OJ h0 ha fun e he=>⟨by have:=(hw e he).1.2;omega,(hw e he).2⟩
 have hc:=CK 256 l 0 (least l) [] [] h0 ha fun e _=>⟨rfl,Yg _⟩
 have hc2:CY 0 l≤10*l.length:=by
  have:∀l:List aP,(∀e∈l,e.word.length≤9)→CY 0 l≤10*l.length:=by
   intro l
   induction l with
   |nil=>exact fun _=>X9 _
   |cons x l ih=>
    intro h;have h1:=ih fun e he=>h e (Yi _ he)
    have h2:=h x Yk;unfold CY at h1⊢;simp only [ZB,List.sum_cons,Yf];omega
  exact this l fun e he=>(hw e he).1.2
 have hdl:(dF l).length≤150:=by
  unfold dF;simp only [Ys] at hc;omega
 have hL:=L3 r1;have hle:least l≤4294967296:=by
  obtain⟨e,he,h⟩:=n_ h0;rw [h];exact tG (hw e he).2
 refine⟨h0,ha,fun e he=>⟨(hw e he).1.1,by have:=(hw e he).1.2;omega,(hw e he).2⟩,hl,by omega,fun h=>?_,hL,by omega,?_⟩
 ·unfold dF at h;rw [h] at r3;simp at r3
 ·have hs:=I5 (dF l) 0 (by omega) fun s hs=>by
   obtain⟨i,hi,rfl⟩:=qay hs;obtain⟨a1,a2,a3,a4⟩:=hL i _ (X6 hi);exact⟨a1,a3,fun a ha=>(a4 a ha).2⟩
  have e1:=eM l.length (by omega);have e2:=eM (dF l).length (by omega);have e3:=eM (least l) (by omega);unfold ez iS;simp only [X',Yf,Ys];omega
theorem Sz (dss:List (List rP)) (hw:∀ds∈dss,∀d∈ds,d.wt<4294967296):∀l∈iI dss,Ft l:=fun l hl=>by
 have h0:=Jr hl;unfold iI at hl;obtain⟨h1,-⟩:=Zq.1 hl;obtain⟨ds,h2,rfl⟩:=YN.1 h1;obtain⟨q1,q2,q3⟩:=N9 ds (hw ds (List.mem_of_mem_take h2));exact XO h0 q1 q2 q3
end Go.Proofs.YtggndfefpbmaeaaGreatDoor.sto
namespace Go.Proofs.YtggndfefpbmaeaaGreatDoor.sto
open Go.Am Go.Mdl Go.Sto
theorem AD:∀{l:List aP},(∀e∈l,e.word.length≤255)→CY 0 l≤256*l.length
 | [],_=>X9 _
 |e::l,h=>by
  have h1:=AD (l:=l) fun x hx=>h x (Yi _ hx)
  have h2:=h e Yk;unfold CY at h1⊢;rw [ZB,List.sum_cons,Yf];omega
structure Wi (l:List aP):Prop where
 ne:dF l≠ []
 good:Sto.Good (dF l)
 fit:∀s∈dF l,Fit s
 len:(dF l).length<10000
 visit:fS (dF l) (dF l).length ((dF l).length-1) 0=some (dF l).length
 words:ws (dF l) ((dF l).length-1)=l.map (D 0 (least l))
theorem Sx {l:List aP} (h:Ft l):Wi l:=by
 obtain⟨h0,ha,hw,hl,-,-,-,-,-⟩:=h;obtain⟨r1,-,r3,r4,r5,r6⟩:=OJ h0 ha fun e he=>⟨(hw e he).2.1,(hw e he).2.2⟩
 have hc:=CK 256 l 0 (least l) [] [] h0 ha fun e _=>⟨rfl,Yg _⟩
 have hb:=AD fun e he=>(hw e he).2.1
 have hr:(oX 256 l 0 (least l) []).2=(dF l).length-1:=by
  rcases r4 with⟨-,h⟩|⟨-,h⟩
  ·simp at h
  ·show _=(oX 256 l 0 (least l) []).1.length-1;omega
 have hlen:(dF l).length≤256*l.length:=by
  have:(dF l).length≤([]:List bj).length+CY 0 l:=hc;rw [Ys] at this;omega
 have hpos:0<(dF l).length:=by
  have:(oX 256 l 0 (least l) []).2<(dF l).length:=r3;omega
 refine⟨YM.1 hpos,r1,fun s hs=>?_,by omega,?_,?_⟩
 ·obtain⟨i,hi,rfl⟩:=qay hs;have hsi:=X6 hi;obtain⟨o1,o2⟩:=LZ r1 hsi;exact⟨Y5 o1 (by omega),fun a hx=>⟨Y5 (o2 a hx) (by omega),by have:=(r1.1 i _ hsi).2.2.1 a hx;omega⟩⟩
 ·have:=r6 (Yg _) (dF l).length (by rw [hr];omega);rwa [hr] at this
 ·rw [←hr];exact r5
def M8 (q1 q2:Nat):List Value:=[.func (.func 121) ⟨[]⟩ ⟨[.pointer (some ⟨q2,0,none⟩)]⟩,.func (.func 123) ⟨[]⟩ ⟨[.pointer (some ⟨q2,0,none⟩),.pointer (some ⟨q1,0,none⟩)]⟩,.func (.func 125) ⟨[]⟩ ⟨[.pointer (some ⟨q2,0,none⟩)]⟩,.func (.func 127) ⟨[]⟩ ⟨[.pointer (some ⟨q2,0,none⟩)]⟩,.func (.func 128) ⟨[]⟩ ⟨[.pointer (some ⟨q2,0,none⟩)]⟩]
variable {b:Nat}
theorem VT {a:Nat}:bc ai 204 5 [(0,.func (.func 121) ⟨[]⟩ ⟨[pw b 0]⟩),(1,.func (.func 123) ⟨[]⟩ ⟨[pw b 0,pw a 0]⟩),(2,.func (.func 125) ⟨[]⟩ ⟨[pw b 0]⟩),(3,.func (.func 127) ⟨[]⟩ ⟨[pw b 0]⟩),(4,.func (.func 128) ⟨[]⟩ ⟨[pw b 0]⟩)]= .ok (aa 32 (M8 a b),.m_ 5 10):=by kernel_rfl
theorem U7:ai.bp 204=some (.slice 32):=by kernel_rfl
theorem XU:aY ai 32= .ok 1:=by kernel_rfl
variable {C:Mem} {y:Value}
theorem P0 {l:List aP} {q1 q2:Nat} (h:Ft l) (hS:eX C (dF l) y) (v1:VB C 3 q1 (.var 1) [.int .i64 l.length]) (v2:VB C 105 q2 (.var 2) [y,.int .u64 (least l:Nat)]) (i:Nat) (hi:i<5):
 ∃f c,(M8 q1 q2)[i]?=some (.func (.func f) ⟨[]⟩ ⟨c⟩)∧∃D,bL ai f c C (.bool true) D∧Kp C D:=by
 obtain⟨s1,s2,s3,s4,s5,s6⟩:=Sx h;obtain⟨h0,-,hw,hl,-⟩:=h;obtain⟨d,hd1,hd2⟩:=bA (t:=105) (p:=true) (by kernel_rfl);have lf:aq ai C.get 105 (.pointer (some ⟨q2,0,none⟩))= .ok (.agg ⟨[y,.int .u64 (least l:Nat)]⟩):=aQ hd1 hd2 (l:=[y,.int .u64 (least l:Nat)]) eD v2.2;have hpos:=YM.2 s1;have hlp:=YM.2 h0;have:i=0∨i=1∨i=2∨i=3∨i=4:=by omega
 rcases this with rfl|rfl|rfl|rfl|rfl
 ·obtain⟨v,D,⟨g,hg⟩,rfl,kD⟩:=Lh (k:=least l) hS s1 s2 s3 (by omega) s5;refine⟨121,_,rfl,D,?_,kD⟩;refine aT (aB Tryz.func121) (c:=Tryz.f121.body.getD .skip) (by kernel_rfl) (by rw [Tryz.ntmps121];simp) (by kernel_rfl) (by kernel_rfl) ?_;apply W.a6 (g) 60
  ·intro M hM;simp (disch:=first|decide+kernel|omega) only [Tryz.f121,Aq,X2,lf,hg];rfl
  exact⟨by simp,rfl,rfl,by simp only [Tryz.f121,Aq,X2,lf,hg]<;>rfl⟩
 ·have hn:(ws (dF l) ((dF l).length-1)).length=l.length:=by rw [s6,Yb]
  obtain⟨v,D,⟨g,hg⟩,rfl,kD⟩:=JT (k:=.int .u64 (least l:Nat)) hS ⟨rfl,rfl⟩ s2.1 s1 (by omega) (by omega);rw [hn] at hg;have l3:aq ai D.get 3 (.pointer (some ⟨q1,0,none⟩))= .ok (.int .i64 l.length):=(v1.kp kD).ld rfl u3 rfl;refine⟨123,_,rfl,D,?_,kD⟩;refine aT (aB Tryz.func123) (c:=Tryz.f123.body.getD .skip) (by kernel_rfl) (by rw [Tryz.ntmps123];simp) (by kernel_rfl) (by kernel_rfl) ?_;apply W.a6 (g) 60
  ·intro M hM;simp (config:={maxSteps:=4000000}) (disch:=first|decide+kernel|omega|simp only [Wq,X2]) only [Tryz.f123,Aq,X5,reduceIte,X2,X3,lf,hg,l3,bR,bw,hlp,X8,X7];rfl
  exact⟨by simp,rfl,rfl,by simp only [Tryz.f123,Aq,X5,reduceIte,X2,X3,lf,hg,l3,bR,bw,hlp,X8,X7]<;>rfl⟩
 ·obtain⟨v,D,⟨g,hg⟩,kD,x,rfl,-,-,hx⟩:=DL (k:=.int .u64 (least l:Nat)) hS s2.1 s1 (by omega);have hle:x≤((255:Nat):Int):=by
   rcases hx with rfl|⟨w,hwm,rfl⟩
   ·omega
   ·rw [s6] at hwm;obtain⟨e,he,rfl⟩:=YN.1 hwm;have:=(hw e he).2.1;show(((e.word.drop 0).length:Nat):Int)≤_;rw [Z5];omega
  refine⟨125,_,rfl,D,?_,kD⟩;refine aT (aB Tryz.func125) (c:=Tryz.f125.body.getD .skip) (by kernel_rfl) (by rw [Tryz.ntmps125];simp) (by kernel_rfl) (by kernel_rfl) ?_;apply W.a6 (g) 60
  ·intro M hM;simp (disch:=first|decide+kernel|omega) only [Tryz.f125,Aq,X2,lf,hg,eY,hle];rfl
  exact⟨by simp,rfl,rfl,by simp only [Tryz.f125,Aq,X2,lf,hg,eY,hle]<;>rfl⟩
 ·have ly:aq ai C.get 102 (.pointer (some ⟨q2,0,none⟩))= .ok y:=v2.ld rfl fX rfl;have hr:=X6 (show(dF l).length-1<(dF l).length by omega);have hfin:((dF l)[(dF l).length-1]'(by omega)).fin=false:=by
   cases hf:((dF l)[(dF l).length-1]'(by omega)).fin with
   |false=>rfl
   |true=>
    have hm:([],((dF l)[(dF l).length-1]'(by omega)).out)∈ws (dF l) ((dF l).length-1):=by rw [pS s2.1 hr,hf];simp
    rw [s6] at hm;obtain⟨e,he,hee⟩:=YN.1 hm;have:=(hw e he).1;have hz:e.word.drop 0=[]:=congrArg Prod.fst hee;rw [Z5] at hz;rw [hz] at this;simp at this
  have lenC:=hS.len;have e1:aN .sub .i64 (((dF l).length:Nat):Int) ((1:Nat):Int)= .ok (.int .i64 ((dF l).length-1:Nat)):=bq (by omega) (aR (by omega));obtain⟨b,rows,r1,r2,r3⟩:=hS;obtain⟨x,e2,-⟩:=r3 _ _ hr;have ix:=az.idx (tb:=ai) (t:=102) (kd:=.i64) r1 fX mQ (X_.1 e2).1;have lz:=az.load (tb:=ai) (j:=1) r1 u4 rfl e2 rfl (by omega);rw [hfin] at lz;refine⟨127,_,rfl,C,?_,Kp.refl _⟩;refine aT (aB Tryz.func127) (c:=Tryz.f127.body.getD .skip) (by kernel_rfl) (by rw [Tryz.ntmps127];simp) (by kernel_rfl) (by kernel_rfl) ?_;apply W.run 60
  ·intro M;simp (disch:=first|decide+kernel|omega) only [Tryz.f127,Aq,X2,dc,ly,lenC,e1,ix,cR,lz];rfl
  exact⟨by simp,rfl,rfl,by simp only [Tryz.f127,Aq,X2,dc,ly,lenC,e1,ix,cR,lz]<;>rfl⟩
 ·have hk:∀w∈ws (dF l) ((dF l).length-1),w.2+least l≤4294967296:=fun w hwm=>by
   rw [s6] at hwm;obtain⟨e,he,rfl⟩:=YN.1 hwm;have h1:=least_le he;have h2:=tG (hw e he).2.2;show val e-least l+least l≤_;omega
  obtain⟨v,D,⟨g,hg⟩,kD,n,rfl⟩:=Cs (k:=least l) hS s2 s1 (by omega) hk;refine⟨128,_,rfl,D,?_,kD⟩;refine aT (aB Tryz.func128) (c:=Tryz.f128.body.getD .skip) (by kernel_rfl) (by rw [Tryz.ntmps128];simp) (by kernel_rfl) (by kernel_rfl) ?_;apply W.a6 (g) 60
  ·intro M hM;simp (disch:=first|decide+kernel|omega) only [Tryz.f128,Aq,X2,lf,hg,X8,X7];rfl
  exact⟨by simp,rfl,rfl,by simp only [Tryz.f128,Aq,X2,lf,hg,X8,X7]<;>rfl⟩
noncomputable def Fu:Code:=qbk.body.getD .skip
noncomputable def MR:Code:=sub Fu [1,0,1,1,1,0,1,0,0]
theorem Up:qbk.body=some (.seq (sub Fu [0]) (.scope (.seq (sub Fu [1,0,0]) (.seq (sub Fu [1,0,1,0]) (.seq (sub Fu [1,0,1,1,0]) (.seq (.seq (sub Fu [1,0,1,1,1,0,0]) (.block 0 (.loop MR))) (.seq (sub Fu [1,0,1,1,1,1,0]) (sub Fu [1,0,1,1,1,1,1])))))))):=by kernel_rfl
variable {A:Mem}
theorem Hl {l:List aP} (h:Ft l) (hS:eX A (dF l) y):∃v A',bL ai 80 [.int .i64 l.length,.agg ⟨[y,.int .u64 (least l:Nat)]⟩] A v A'∧v= .bool true∧Kp A A':=by
 refine cS (aB Tryz.func80) Up (by rw [Tryz.ntmps80];simp) (by kernel_rfl) (by kernel_rfl) ?_;generalize hq:A.next=q
 have n1:(A.alloc (aa 3 [.int .i64 l.length])).next=q+1:=by rw [ae,hq]
 have n2:((A.alloc (aa 3 [.int .i64 l.length])).alloc (aa 105 [y,.int .u64 (least l:Nat)])).next=q+2:=by rw [ae,n1]
 have kB:=(Kp.alloc A (aa 3 [.int .i64 l.length])).trans (Kp.alloc _ (aa 105 [y,.int .u64 (least l:Nat)]));have v1:=(aF A 3 [.int .i64 l.length]).kp (Kp.alloc _ (aa 105 [y,.int .u64 (least l:Nat)]));have v2:=aF (A.alloc (aa 3 [.int .i64 l.length])) 105 [y,.int .u64 (least l:Nat)];rw [hq] at v1;rw [n1] at v2;apply W.seq;apply W.run 20
 ·intro M;simp (disch:=first|decide+kernel|omega) only [Fu,qbk,Aq,X2,au,dQ,hq,n1];rfl
 show W ai _ _ _;generalize (A.alloc (aa 3 [.int .i64 l.length])).alloc (aa 105 [y,.int .u64 (least l:Nat)])=B at*;have kC:=Kp.alloc B (aa 32 (M8 q (q+1)));have vC:=aF B 32 (M8 q (q+1));have b2:=VT (a:=q) (b:=q+1);apply W.scope;apply W.seq;apply W.run 20
 ·intro M;simp (disch:=first|decide+kernel|omega) only [Fu,qbk,Aq,X2,aS,b2,n2];rfl
 show W ai _ _ _;rw [n2] at vC;generalize B.alloc (aa 32 (M8 q (q+1)))=C at kC vC;have kAC:=kB.trans kC;have v1:=v1.kp kC;have v2:=v2.kp kC;have ll:aO ai .len [204] [.slice (some ⟨q+2,0,none⟩) 5 10]= .ok (.int .i64 (5:Nat)):=dJ U7;apply W.seq;apply W.run 20
 ·intro M;simp (disch:=first|decide+kernel|omega) only [Fu,qbk,Aq,X2];rfl
 apply W.seq;refine W.run 1 (fun m=>rfl) ?_;apply W.seq;apply W.seq;apply W.run 20
 ·intro M;simp (disch:=first|decide+kernel|omega) only [Fu,qbk,Aq,X2,ll];rfl
 apply W.block;refine W.up 5 (fun i t D=>Kp C D∧Sl t [(4,.bool true),(14,.slice (some ⟨q+2,0,none⟩) 5 10),(15,.int .i64 (5:Nat)),(16,.int .i64 i)]) ?_ (Yg _) ⟨Kp.refl _,?_⟩
 ·rintro i t D hi ⟨kD,g4,g14,g15,g16,-⟩;by_cases hlt:i<5
  ·obtain⟨f,c,e1,E,⟨g,hg⟩,kE⟩:=P0 h (hS.kp (kAC.trans kD)) (v1.kp kD) (v2.kp kD) i hlt;have ix:=fZ (tb:=ai) (t:=204) (b:=q+2) (o:=0) (len:=5) (cap:=10) (i:=i) (k:=.i64) U7 XU hlt;rw [Yy] at ix;have lf:aq ai D.get 32 (pw (q+2) i)= .ok (.func (.func f) ⟨[]⟩ ⟨c⟩):=by
    obtain⟨d,hd1,hd2⟩:=bA (t:=32) (p:=false) (by kernel_rfl);exact(vC.kp kD).ld e1 hd1 hd2
   apply W.a6 (g) 20
   ·intro M hM;simp (disch:=first|decide+kernel|omega) only [MR,Fu,qbk,Aq,X2,g14,g15,g16,hlt,ix,lf,hg];rfl
   refine⟨hlt,_,_,rfl,kD.trans kE,?_⟩;simp only [av,aw,T.af,T.ag,T.ak,X2,X3,if_true,if_false,and_true,true_and,g14,g15]
  ·have e:i=5:=by omega
   subst e;apply W.run 20
   ·intro M;simp (disch:=first|decide+kernel|omega) only [MR,Fu,qbk,Aq,X2,g15,g16,Zk];rfl
   apply W.seq;apply W.run 20
   ·intro M;simp (disch:=first|decide+kernel|omega) only [Fu,qbk,Aq,X2,g4];rfl
   apply W.run 20
   ·intro M;simp (disch:=first|decide+kernel|omega) only [Fu,qbk,Aq,X2];rfl
   exact⟨by simp,rfl,_,(by simp only [qbk,Aq,X2]<;>rfl),rfl,kAC.trans kD⟩
 ·simp only [av,aw,T.af,T.ag,T.ak,X2,X3,if_true,if_false,and_true,true_and]
variable {A':Mem} {l:List Value}
theorem mm.Ls {ls:List (List aP)} {r:Nat} {k:Kd} (h:mm A ls y) (hv:VB A 36 r k l) (K:wm r A A'):mm A' ls y:=by
 obtain⟨b,xs,h1,h2,h3⟩:=h;refine⟨b,xs,az.Ls h1 hv (by decide) K,h2,fun i l hl=>?_⟩;obtain⟨x,e1,c,e2⟩:=h3 i l hl;exact⟨x,e1,c,az.Ls e2 hv (by decide) K⟩
def rI (ls:List (List aP)) (k:Nat):List (List UInt8×List UInt8):=eo ls++[(jF,crc.aK (gx (cT ls k)))]
def uE:List UInt8:=[115,101,103,45,55,55]
def iT (ls:List (List aP)) (k:Nat) (o:List UInt8):List (List UInt8×List UInt8):=rI ls k++[(uE,o.take 80)]
theorem sO (ls:List (List aP)) (k:Nat):(rI ls k).length=ls.length+1:=by unfold rI;rw [X',cX];rfl
theorem Je (n:Nat):mh n≠uE:=by unfold mh uE;simp
theorem iP:∀{ls:List (List aP)} {f:List UInt8×List UInt8},f∈eo ls→∃n,1≤n∧n≤ls.length∧f.1=mh n
 |l::r,f,h=>by
  rcases Yp.1 h with rfl|h
  ·exact⟨r.length+1,by omega,by simp,rfl⟩
  ·obtain⟨n,h1,h2,h3⟩:=iP h;exact⟨n,h1,by rw [Yf];omega,h3⟩
variable {k:Nat}
theorem Ib {ls:List (List aP)} {f:List UInt8×List UInt8} (h:f∈rI ls k):f.1≠uE:=by
 rcases Zs.1 h with h|h
 ·obtain⟨n,-,-,e⟩:=iP h;rw [e];exact Je n
 ·rw [Y7.1 h];show jF≠uE;decide
theorem UB:ax ai 29 (pw b 0) 1= .ok (pw b 1):=by kernel_rfl
theorem RT:ax ai 29 (pw b 0) 2= .ok (pw b 2):=by kernel_rfl
theorem RX:ax ai 29 (pw b 0) 3= .ok (pw b 3):=by kernel_rfl
theorem I2:ax ai 29 (pw b 0) 4= .ok (pw b 6):=by kernel_rfl
variable {o:Nat}
theorem UW:ax ai 25 (pw b o) 0= .ok (pw b o):=by kernel_rfl
def pN (x:Value) (k:Nat) (o:List UInt8):List Value:=[x,.int .u8 k,.int .u8 (0:Nat),.int .u8 (0:Nat),.int .u8 (0:Nat),.int .u16 (0:Nat),strOf uE,strOf o]
theorem H_:∀(ls:List (List aP)) (N:Nat),(∀l∈ls,Ft l)→ls.length<N→∀s∈cP ls,IZ N s
 |l::r,N,h,hN,s,hs=>by
  rw [Yf] at hN;rcases Yp.1 hs with rfl|hs
  ·obtain⟨o1,o2,o3,o4,o5,o6,o7,o8,o9⟩:=h l Yk;have hl:=YM.2 o1;have hsl:(crc.aK (ez l)).length=(ez l).length+4:=by unfold crc.aK;rw [X',crc.iN]
   refine⟨⟨by simp,hN⟩,⟨hl,by show l.length≤100000;omega⟩,?_,?_⟩
   ·show 1≤(crc.aK (ez l)).length;omega
   ·show(crc.aK (ez l)).length≤1000000000;omega
  ·exact H_ r N (fun l hl=>h l (Yi _ hl)) (by omega) s hs
theorem D5:∀{ls:List (List aP)} {n:Nat},n∈(cP ls).map (·.1)→n≤ls.length
 |l::r,n,h=>by
  rw [cP,ZB] at h;rcases Yp.1 h with rfl|h
  ·simp
  ·have:=D5 h;rw [Yf];omega
theorem xL:∀ls:List (List aP),((cP ls).map (·.1)).Nodup
 | []=>qbs
 |l::r=>by
  rw [cP,ZB,qbc];refine⟨fun h=>?_,xL r⟩;have:=D5 h;simp at this;omega
theorem B5 {ls:List (List aP)} (h:∀l∈ls,Ft l) (hl:ls.length≤6):oQ (cT ls k):=
 ⟨by show ls.length≤_;omega,⟨by show 1≤ls.length+1+k % 4;omega,by show ls.length+1+k % 4≤_;omega⟩,by show(cP ls).length≤_;rw [dy];omega,H_ ls _ h (by show ls.length<ls.length+1+k % 4;omega),xL ls⟩
theorem Kr:∃A',bL ai 20 [] A (.agg ⟨[.int .i64 (0:Nat),.int .i64 (1:Nat),.int .i64 (1:Nat),.slice none 0 0]⟩) A'∧Kp A A':=by
 have bd:cr ai 36 [(1,.int .i64 (1:Nat)),(2,.int .i64 (1:Nat))]= .ok (.agg ⟨[.int .i64 (0:Nat),.int .i64 (1:Nat),.int .i64 (1:Nat),.slice none 0 0]⟩):=by kernel_rfl
 have s1:aW ai (A.alloc (aa 36 [.int .i64 (0:Nat),.int .i64 (0:Nat),.int .i64 (0:Nat),.slice none 0 0])) 36 (pw A.next 0) (.agg ⟨[.int .i64 (0:Nat),.int .i64 (1:Nat),.int .i64 (1:Nat),.slice none 0 0]⟩)= .ok (A.alloc (aa 36 [.int .i64 (0:Nat),.int .i64 (1:Nat),.int .i64 (1:Nat),.slice none 0 0])):=bn jH rfl rfl (by simp) (by simp [aJ]);have l1:aq ai (A.alloc (aa 36 [.int .i64 (0:Nat),.int .i64 (1:Nat),.int .i64 (1:Nat),.slice none 0 0])).get 36 (pw A.next 0)= .ok (.agg ⟨[.int .i64 (0:Nat),.int .i64 (1:Nat),.int .i64 (1:Nat),.slice none 0 0]⟩):=y7 jH (by kernel_rfl);refine⟨A.alloc (aa 36 [.int .i64 (0:Nat),.int .i64 (1:Nat),.int .i64 (1:Nat),.slice none 0 0]),?_,Kp.alloc _ _⟩;refine aT (aB Tryz.func20) (c:=Tryz.f20.body.getD .skip) (by kernel_rfl) (by rw [Tryz.ntmps20];simp) (by kernel_rfl) (by kernel_rfl) ?_;apply W.run 60
 ·intro M;simp (disch:=first|decide+kernel|omega) only [Tryz.f20,Aq,X2,tR,au,bd,s1,l1];rfl
 exact⟨by simp,rfl,rfl,by simp only [Tryz.f20,Aq,X5,reduceIte,X2,X3,tR,au,bd,s1,l1]<;>rfl⟩
theorem Vk:ZM.body=some (.seq (sub c6 [0]) (.seq (sub c6 [1,0]) (.seq (sub c6 [1,1,0]) (.seq (sub c6 [1,1,1,0]) (.seq (sub c6 [1,1,1,1,0]) (.seq (sub c6 [1,1,1,1,1,0]) (.seq (.seq (sub c6 [1,1,1,1,1,1,0,0]) (.block 0 (.loop Q4))) (.seq (sub c6 [1,1,1,1,1,1,1,0]) (.seq (sub c6 [1,1,1,1,1,1,1,1,0]) (.seq (sub c6 [1,1,1,1,1,1,1,1,1,0]) (.seq (.seq (sub c6 [1,1,1,1,1,1,1,1,1,1,0,0]) (.block 2 (.loop PC))) (.seq (sub c6 [1,1,1,1,1,1,1,1,1,1,1,0]) (.seq (sub c6 [1,1,1,1,1,1,1,1,1,1,1,1,0]) (sub c6 [1,1,1,1,1,1,1,1,1,1,1,1,1])))))))))))))):=by kernel_rfl
variable {fs:List (List UInt8×List UInt8)} {q i:Nat} {t:T Value}
theorem Gy {D:Mem} {x6 x4 x5 x:Value} {o:List UInt8} (hV:VB D 29 q (.var 8) (pN x k o)) (hF:pP D fs x6) (hn:∀f∈fs,f.1≠uE) (hfl:fs.length<100) (hi:i<fs.length) (hS:az D 27 2 b ((fs.take i).map dC) y)
 (hs:Sl t [(1,pw q 0),(3,x4),(5,x5),(6,x6),(13,y),(14,.int .i64 i)]):
 W ai PC ⟨t,167,[],D,none⟩ fun e s'=>e= .nrm∧∃t' D' y',s'=⟨t',167,[],D',none⟩∧(D.next≤D'.next∧∀z,(z=b→y= .slice none 0 0)→z<D.next→D'.get z=D.get z)∧(∃b',D.next≤b'∧az D' 27 2 b' ((fs.take (i+1)).map dC) y')∧Sl t' [(1,pw q 0),(3,x4),(5,x5),(6,x6),(13,y'),(14,.int .i64 (i+1:Nat))]:=by
 obtain⟨g1,g3,g5,g6,g13,g14,-⟩:=hs;have hfi:fs[i]?=some fs[i]:=X6 hi;have hne:=hn _ (YQ hi);have hlen:=hF.len;obtain⟨bb,oo,j1,j2,-⟩:=hF.at hfi;have htk:fs.take (i+1)=fs.take i++[fs[i]]:=Yd hi;generalize fs[i]=f at*;have sE:aW ai (D.alloc (aa 27 [.string .empty,.string .empty])) 27 (pw D.next 0) (.agg ⟨dC f⟩)= .ok (D.alloc (aa 27 (dC f))):=bn Sq rfl rfl (by simp) (sS f);have kE:=Kp.alloc D (aa 27 (dC f));have vE:=aF D 27 (dC f);have nE:(D.alloc (aa 27 (dC f))).next=D.next+1:=ae _ _
 generalize D.alloc (aa 27 (dC f))=E at sE kE vE nE;have V:=hV.kp kE;have lT:aq ai E.get 5 (pw q 3)= .ok (.int .u8 (0:Nat)):=V.ld rfl u5 rfl;have lL:aq ai E.get 5 (pw q 2)= .ok (.int .u8 (0:Nat)):=V.ld rfl u5 rfl;have lN:aq ai E.get 9 (pw q 6)= .ok (strOf uE):=V.ld rfl u9 rfl;have l1:aq ai E.get 9 (pw D.next 0)= .ok (strOf f.1):=vE.ld rfl u9 rfl;have lw:aq ai E.get 27 (pw D.next 0)= .ok (.agg ⟨dC f⟩):=by
  obtain⟨d,hd1,hd2⟩:=bA (t:=27) (p:=true) (by kernel_rfl);exact aQ hd1 hd2 Sq vE.2
 have c1:=bu (tb:=ai) (s:=5) (d:=3) (k:=.u8) (n:=0) (by rw [u5];rfl) u3 (aR (by omega));have hi1:¬(0:Nat)=i+1:=by omega
 have a1:aN .add .i64 ((i:Nat):Int) ((1:Nat):Int)= .ok (.int .i64 (i+1:Nat)):=a9 (aR (by omega));have sh:∀d,hZ .shr d (.int .u8 (0:Nat)) (.int .i64 (i:Nat))= .ok (.int .u8 (0:Nat)):=fun d=>by
  have e:hZ .shr d (.int .u8 (0:Nat)) (.int .i64 (i:Nat))=R.ok (Value.int .u8 (.ofNat (qch 0 (bif Ye i 8 then i else 8)))):=rfl;rw [e];show R.ok (Value.int .u8 (Yv (0>>>(bif Ye i 8 then i else 8))))=_;rw [Nat.zero_shiftRight];rfl
 obtain⟨y',G,happ,hs3,hn3,hf3⟩:=wv (f:=f) (hS.same kE.1 (kE.2 b)) (by rw [Yo];omega);apply W.run 20
 ·intro M;simp (config:={maxSteps:=4000000}) (disch:=first|decide+kernel|omega|simp only [Wq,X2]) only [PC,c6,ZM,Aq,X5,reduceIte,X2,X3,g1,g6,g13,g14,hlen,hi,j1,j2,Md,au,sE,RT,RX,I2,UW,vc,lT,lL,lN,l1,lw,c1,hi1,a1,sh,Nat.zero_and,hne,QW,happ];rfl
 refine⟨rfl,_,G,y',rfl,⟨by omega,fun z hz hlt=>by rw [hf3 z hz (by omega),kE.2 z hlt]⟩,⟨E.next+1,by omega,by rw [htk];exact hs3⟩,?_⟩;simp only [av,aw,T.af,T.ag,T.ak,X2,X3,if_true,if_false,and_true,true_and,g1,g3,g5,g6]
variable {dss:List (List rP)}
theorem Lk {x:Value} {o:List UInt8} (h:yO A dss x) (hok:∀l∈iI dss,Ft l) (hk:k<256):
 ∃v A',bL ai 6 [.agg ⟨pN x k o⟩] A v A'∧Kp A A'∧∃y z,v= .tuple ⟨[y,.agg ⟨bS z (cT (iI dss) k)⟩]⟩∧pP A' (iT (iI dss) k o) y∧fg A' (cP (iI dss)) z:=by
 refine cS (aB Tryz.func6) Vk (by rw [Tryz.ntmps6];simp) (by kernel_rfl) (by kernel_rfl) ?_;generalize hls:iI dss=ls at*;have hl6:ls.length≤6:=by rw [←hls];exact B' dss
 have kB:=Kp.alloc A (aa 29 (pN x k o));have vB:=aF A 29 (pN x k o);have nB:(A.alloc (aa 29 (pN x k o))).next=A.next+1:=ae _ _
 have kC:=Kp.alloc (A.alloc (aa 29 (pN x k o))) (aa 36 [.int .i64 (0:Nat),.int .i64 (0:Nat),.int .i64 (0:Nat),.slice none 0 0]);have vC:=aF (A.alloc (aa 29 (pN x k o))) 36 [.int .i64 (0:Nat),.int .i64 (0:Nat),.int .i64 (0:Nat),.slice none 0 0];have nC:((A.alloc (aa 29 (pN x k o))).alloc (aa 36 [.int .i64 (0:Nat),.int .i64 (0:Nat),.int .i64 (0:Nat),.slice none 0 0])).next=A.next+2:=by rw [ae,nB]
 apply W.seq;apply W.run 20
 ·intro M;simp (disch:=first|decide+kernel|omega) only [c6,ZM,Aq,X2,au,tR];rfl
 show W ai _ _ _;rw [nB] at vC;have vB:=vB.kp kC;have kC:=kB.trans kC;generalize (A.alloc (aa 29 (pN x k o))).alloc (aa 36 [.int .i64 (0:Nat),.int .i64 (0:Nat),.int .i64 (0:Nat),.slice none 0 0])=C at kC vB vC nC;rw [nB];have lw:aq ai C.get 29 (pw A.next 0)= .ok (.agg ⟨pN x k o⟩):=by
  obtain⟨d,hd1,hd2⟩:=bA (t:=29) (p:=true) (by kernel_rfl);exact aQ hd1 hd2 (show aY ai 29= .ok 8 by kernel_rfl) vB.2
 obtain⟨z,D,⟨g1,h1⟩,hL,kD⟩:=Lf (rest:=(pN x k o).tail) (h.kp kC) rfl;rw [hls] at hL;have h1':∀M,g1≤M→bg ai (exec ai M) (.fn 21 [.agg ⟨pN x k o⟩]) C= .ok (.val z D):=h1;have lenD:=hL.len;obtain⟨E,⟨g2,h2⟩,kE⟩:=Kr (A:=D);have sF:aW ai (E.alloc (aa 36 [.int .i64 (0:Nat),.int .i64 (0:Nat),.int .i64 (0:Nat),.slice none 0 0])) 36 (pw E.next 0) (.agg ⟨[.int .i64 (0:Nat),.int .i64 (1:Nat),.int .i64 (1:Nat),.slice none 0 0]⟩)= .ok (E.alloc (aa 36 [.int .i64 (0:Nat),.int .i64 (1:Nat),.int .i64 (1:Nat),.slice none 0 0])):=bn jH rfl rfl (by simp) (by simp [aJ]);have vF:=aF E 36 [.int .i64 ls.length,.int .i64 (1:Nat),.int .i64 (ls.length+1+k % 4:Nat),.slice none 0 0];have kF:=Kp.alloc E (aa 36 [.int .i64 ls.length,.int .i64 (1:Nat),.int .i64 (ls.length+1+k % 4:Nat),.slice none 0 0]);have nF:(E.alloc (aa 36 [.int .i64 ls.length,.int .i64 (1:Nat),.int .i64 (ls.length+1+k % 4:Nat),.slice none 0 0])).next=E.next+1:=ae _ _
 have s1:aW ai (E.alloc (aa 36 [.int .i64 (0:Nat),.int .i64 (1:Nat),.int .i64 (1:Nat),.slice none 0 0])) 3 (pw E.next 0) (.int .i64 ls.length)= .ok (E.alloc (aa 36 [.int .i64 ls.length,.int .i64 (1:Nat),.int .i64 (1:Nat),.slice none 0 0])):=df (by kernel_rfl) rfl rfl (by simp);have s2:aW ai (E.alloc (aa 36 [.int .i64 ls.length,.int .i64 (1:Nat),.int .i64 (1:Nat),.slice none 0 0])) 3 (pw E.next (0+2)) (.int .i64 (ls.length+1+k % 4:Nat))= .ok (E.alloc (aa 36 [.int .i64 ls.length,.int .i64 (1:Nat),.int .i64 (ls.length+1+k % 4:Nat),.slice none 0 0])):=df (by kernel_rfl) rfl rfl (by simp);have kCE:=kD.trans kE;have lk:aq ai (E.alloc (aa 36 [.int .i64 ls.length,.int .i64 (1:Nat),.int .i64 (1:Nat),.slice none 0 0])).get 5 (pw A.next 1)= .ok (.int .u8 k):=((vB.kp kCE).kp (Kp.alloc _ _)).ld rfl u5 rfl;have a1:aN .add .i64 ((ls.length:Nat):Int) ((1:Nat):Int)= .ok (.int .i64 (ls.length+1:Nat)):=a9 (aR (by omega));have a2:aN .add .i64 ((ls.length+1:Nat):Int) ((k % 4:Nat):Int)= .ok (.int .i64 (ls.length+1+k % 4:Nat)):=a9 (aR (by omega));have c4:=bu (tb:=ai) (s:=5) (d:=3) (k:=.u8) (n:=k % 4) (by rw [u5];rfl) u3 (aR (by omega));apply W.seq;apply W.a6 (g1) 20
 ·intro M hM;simp (disch:=first|decide+kernel|omega) only [c6,ZM,Aq,X2,lw,h1'];rfl
 apply W.seq;apply W.a6 (g2) 20
 ·intro M hM;simp (disch:=first|decide+kernel|omega) only [c6,ZM,Aq,X2,h2,tR,au,sF];rfl
 apply W.seq;apply W.run 20
 ·intro M;simp (disch:=first|decide+kernel|omega) only [c6,ZM,Aq,X2,lenD,IC,s1];rfl
 apply W.seq;apply W.run 20
 ·intro M;simp (disch:=first|decide+kernel|omega) only [c6,ZM,Aq,X2,lenD,a1,UB,lk,c4,a2,Df,s2];rfl
 show W ai _ _ _;have hLF:=(hL.kp kE).kp kF;have kAF:=kC.trans (kCE.trans kF);have VBF:=vB.kp (kCE.trans kF);have hn1:=kC.1;have hn2:=kCE.1;generalize E.alloc (aa 36 [.int .i64 ls.length,.int .i64 (1:Nat),.int .i64 (ls.length+1+k % 4:Nat),.slice none 0 0])=F at vF kF nF hLF kAF VBF;apply W.seq;apply W.run 20
 ·intro M;simp (disch:=first|decide+kernel|omega) only [c6,ZM,Aq,X2];rfl
 apply W.seq;apply W.seq;apply W.run 20
 ·intro M;simp (disch:=first|decide+kernel|omega) only [c6,ZM,Aq,X2];rfl
 apply W.block;refine W.up ls.length (fun i t D=>∃y,Tp F E.next ls k i D y∧Sl t [(1,pw A.next 0),(3,pw (A.next+1) 0),(4,z),(5,pw E.next 0),(6,y),(7,.int .i64 i)]) ?_ (Yg _) ⟨.slice none 0 0,⟨wm.refl _ _,F.next,F.next,_,vF,by rw [ZC];exact az.nil _ _ _ _,fun _=>rfl,X9 _,by rw [ZC];exact az.nil _ _ _ _,fun _=>rfl,X9 _⟩,?_⟩
 ·rintro i t D hi ⟨y,hR,hs0⟩;by_cases hlt:i<ls.length
  ·refine(He (by omega) hLF (fun D hD=>hLF.Ls vF hD) hok hl6 hlt hR hs0).mono ?_;rintro e s' ⟨rfl,t',D',y',rfl,hR',hs'⟩;exact⟨hlt,t',D',rfl,y',hR',hs'⟩
  ·have e:i=ls.length:=by omega
   subst e;obtain⟨hK,b1,b2,xs,hV,hS1,hx0,hb1,hS2,hy0,hb2⟩:=hR;obtain⟨g1',g3,g4,g5,g6,g7,-⟩:=hs0;rw [Zt (by rw [dy];exact X9 _)] at hS1;rw [Zt (by rw [cX];exact X9 _)] at hS2;have lenD2:=(hLF.Ls vF hK).len;have hkd:=hK.1;have hz1:(cP ls).map dw=[]→xs= .slice none 0 0:=fun h=>hx0 (by have:=congrArg ZD h;rw [Yb,dy] at this;simpa using this)
   have hz2:(eo ls).map dC=[]→y= .slice none 0 0:=fun h=>hy0 (by have:=congrArg ZD h;rw [Yb,cX] at this;simpa using this)
   have lm:aq ai D.get 36 (pw E.next 0)= .ok (.agg ⟨bS xs (cT ls k)⟩):=by
    obtain⟨d,hd1,hd2⟩:=bA (t:=36) (p:=true) (by kernel_rfl);exact aQ hd1 hd2 jH hV.2
   obtain⟨v,G,⟨g9,h9⟩,rfl,kG⟩:=OF (m:=cT ls k) ⟨b1,hS1⟩ (B5 hok hl6);have VG:=hV.kp kG;have hS1G:=hS1.same kG.1 (kG.2 b1);have hS2G:=hS2.same kG.1 (kG.2 b2);have hkg:=kG.1;obtain⟨y2,H,hap,hS3,hn3,hf3⟩:=wv (f:=(jF,crc.aK (gx (cT ls k)))) hS2G (by rw [cX];omega);have hFH:pP H (rI ls k) y2:=⟨_,hS3⟩;have hS1H:az H 58 3 b1 ((cP ls).map dw) xs:=az.apart hS2G hS1G (by decide) hz2 hz1 (by omega) hf3;have VH:VB H 36 E.next (.var 4) [.int .i64 ls.length,.int .i64 (1:Nat),.int .i64 (ls.length+1+k % 4:Nat),xs]:=⟨by omega,VG.2.same (hf3 _ (fun e=>by omega) (by omega))⟩
   have keepH:∀z,z<F.next→z≠E.next→H.get z=F.get z:=fun z hz hr=>by rw [hf3 z (fun e=>by omega) (by omega),kG.2 z (by omega),hK.2 z hz hr]
   have VIH:VB H 29 A.next (.var 8) (pN x k o):=⟨by omega,VBF.2.same (keepH _ (by omega) (by omega))⟩
   have hmn:∀t:T Value,ev t (.const (.string ⟨#[109,97,110,105,102,101,115,116]⟩))= .ok (strOf jF):=fun t=>rfl
   apply W.run 20
   ·intro M;simp (disch:=first|decide+kernel|omega) only [Q4,c6,ZM,Aq,X2,g4,g7,lenD2];rfl
   apply W.seq;apply W.a6 (g9) 20
   ·intro M hM;simp (disch:=first|decide+kernel|omega) only [c6,ZM,Aq,X2,g5,lm,h9,X8,X7];rfl
   apply W.seq;apply W.run 20
   ·intro M;simp (disch:=first|decide+kernel|omega) only [c6,ZM,Aq,X2,g6,hmn,PQ,QW,hap];rfl
   apply W.seq;apply W.run 20
   ·intro M;simp (disch:=first|decide+kernel|omega) only [c6,ZM,Aq,X2];rfl
   apply W.seq;apply W.seq;apply W.run 20
   ·intro M;simp (disch:=first|decide+kernel|omega) only [c6,ZM,Aq,X2];rfl
   apply W.block;have hol:=sO ls k;refine W.up (rI ls k).length (fun i t D=>Kp H D∧∃b y,H.next≤b∧az D 27 2 b (((rI ls k).take i).map dC) y∧Sl t [(1,pw A.next 0),(3,pw (A.next+1) 0),(5,pw E.next 0),(6,y2),(13,y),(14,.int .i64 i)]) ?_ (Yg _) ⟨Kp.refl _,H.next,.slice none 0 0,X9 _,by rw [ZC];exact az.nil _ _ _ _,?_⟩
   ·rintro i t J hi ⟨kJ,b,y,hb,hS,hs0⟩;have hFJ:=hFH.kp kJ;by_cases hlt:i<(rI ls k).length
    ·refine(Gy (VIH.kp kJ) hFJ (fun f hf=>Ib hf) (by omega) hlt hS hs0).mono ?_;rintro e s' ⟨rfl,t',D',y',rfl,⟨hn',hf'⟩,⟨b',hb',hS'⟩,hs'⟩;have:=kJ.1;exact⟨hlt,t',D',rfl,⟨by omega,fun z hz=>by rw [hf' z (fun e=>by omega) (by omega),kJ.2 z hz]⟩,b',y',by omega,hS',hs'⟩
    ·have e:i=(rI ls k).length:=by omega
     subst e;obtain⟨f1,f3,f5,f6,f13,f14,-⟩:=hs0;rw [Yw] at hS;have lenJ:=hFJ.len;have VIJ:=VIH.kp kJ;have lN:aq ai J.get 9 (pw A.next 6)= .ok (strOf uE):=VIJ.ld rfl u9 rfl;have lO:aq ai J.get 9 (pw A.next (6+1))= .ok (strOf o):=VIJ.ld rfl u9 rfl;have hl1:=cd (tb:=ai) (t:=9) (l:=uE) u9;have hl2:=cd (tb:=ai) (t:=9) (l:=o) u9;have mn:aO ai .min [3,3] [.int .i64 (o.length:Nat),.int .i64 (80:Nat)]= .ok (.int .i64 (min o.length 80:Nat)):=Am.mE;have st:dj ai 9 (strOf o) none (some (.int .i64 (min o.length 80:Nat))) none= .ok (strOf (o.take 80)):=by
      rw [oM u9 (qaM _ _)];congr 2;rcases qbT o.length 80 with h|h
      ·rw [Y4 h,Yw,Zt h]
      ·rw [ZY h]
     obtain⟨y3,L,hap2,hS4,hn4,hf4⟩:=wv (f:=(uE,o.take 80)) hS (by omega);have hkj:=kJ.1;have lmL:aq ai L.get 36 (pw E.next 0)= .ok (.agg ⟨bS xs (cT ls k)⟩):=by
      obtain⟨d,hd1,hd2⟩:=bA (t:=36) (p:=true) (by kernel_rfl);exact aQ hd1 hd2 jH (VH.2.same (by rw [hf4 _ (fun e=>by omega) (by omega),kJ.2 _ (by omega)]))
     have vCL:dD L 36 (A.next+1) (.var 4) [.int .i64 (0:Nat),.int .i64 (0:Nat),.int .i64 (0:Nat),.slice none 0 0]:=vC.2.same (by rw [hf4 _ (fun e=>by omega) (by omega),kJ.2 _ (by omega),keepH _ (by omega) (by omega),kF.2 _ (by omega),kCE.2 _ (by omega)]);have hxs:=az.dm hS1H;obtain⟨N,sN,vN,nN,fN⟩:=bx (tb:=ai) (t:=36) (l':=bS xs (cT ls k)) (by exact jH) vCL rfl (by simp) (by
      intro v hv;simp only [bS,Yp,YH,or_false] at hv;rcases hv with rfl|rfl|rfl|rfl
      ·rfl
      ·rfl
      ·rfl
      ·exact hxs.2)
     have lN2:aq ai N.get 36 (pw (A.next+1) 0)= .ok (.agg ⟨bS xs (cT ls k)⟩):=by
      obtain⟨d,hd1,hd2⟩:=bA (t:=36) (p:=true) (by kernel_rfl);exact aQ hd1 hd2 jH vN
     have h77:uE.length=6:=rfl;rw [h77] at hl1;apply W.run 20
     ·intro M;simp (disch:=first|decide+kernel|omega) only [PC,c6,ZM,Aq,X2,f6,f14,lenJ];rfl
     apply W.seq;apply W.seq;apply W.run 20
     ·intro M;simp (config:={maxSteps:=4000000}) (disch:=first|decide+kernel|omega|simp only [Wq,X2]) only [c6,ZM,Aq,X5,reduceIte,X2,X3,f1,I2,vc,lN,hl1,(show uE.length=6 from rfl),Nat.reduceLT,Nat.reduceLeDiff,bR,eY,bw,bm];rfl
     apply W.run 20
     ·intro M;simp (config:={maxSteps:=4000000}) (disch:=first|decide+kernel|omega|simp only [Wq,X2]) only [c6,ZM,Aq,X5,reduceIte,X2,X3,f1,f13,I2,vc,zL,lN,lO,hl2,mn,st,PQ,QW,hap2,Fq,aC []];rfl
     apply W.seq;apply W.run 20
     ·intro M;simp (config:={maxSteps:=4000000}) (disch:=first|decide+kernel|omega|simp only [Wq,X2]) only [c6,ZM,Aq,X5,reduceIte,X2,X3,f3,f5,lmL,sN,Fq,aC []];rfl
     apply W.run 20
     ·intro M;simp (disch:=first|decide+kernel|omega) only [c6,ZM,Aq,X2];rfl
     have hAF:=kAF.1;refine⟨by simp,rfl,_,(by simp only [ZM,Aq,X2,f3,lN2]<;>rfl),⟨by show A.next≤N.next;omega,fun z hz=>?_⟩,y3,xs,rfl,⟨_,hS4.same (by show _≤N.next;omega) fun _=>fN _ (by omega)⟩,⟨b1,?_⟩⟩
     ·show N.get z=A.get z;rw [fN z (by omega),hf4 z (fun e=>by omega) (by omega),kJ.2 z (by omega),keepH z (by omega) (by omega),kAF.2 z hz]
     ·have e1:az L 58 3 b1 ((cP ls).map dw) xs:=az.apart hS (hS1H.same kJ.1 (kJ.2 b1)) (by decide) (fun h=>by simp [rI] at h) hz1 (by omega) hf4;exact az.fA e1 hz1 (by show _≤N.next;omega) fun hne hlt=>fN b1 (by omega)
   ·simp only [av,aw,T.af,T.ag,T.ak,X2,X3,if_true,if_false,and_true,true_and,g1',g3,g5,g6]
 ·simp only [av,aw,T.af,T.ag,T.ak,X2,X3,if_true,if_false,and_true,true_and]
theorem Rb:aY ai 121= .ok 1:=by kernel_rfl
variable {mn:Nat} {ns:List (List UInt8)}
theorem Bb {w:List UInt8} (hi:ns[i]?=some w) (hnd:ns.Nodup) (h:A.get mn=some (.map (cQ (ns.take i) 0) i)):
 cF ai A 121 (.map (some mn)) (strOf w) (.int .i64 (i+1:Nat))= .ok (A.set mn (.map (cQ (ns.take (i+1)) 0) (i+1))):=by
 obtain⟨hl,rfl⟩:=X_.1 hi;have htl:(ns.take i).length=i:=by rw [Yo];omega
 have hnot:ns[i]∉ns.take i:=fun hm=>by
  obtain⟨j,hj,e⟩:=qay hm;rw [List.getElem_take] at e;exact Zv.1 hnd j i (by omega) hl (by omega) e
 have:=D8 (A:=A) (mn:=mn) (ns:=ns.take i) (w:=ns[i]) (by rw [htl];exact h) hnot;rw [htl] at this;rw [this,Yd hl,X',htl];rfl
variable {m c:Nat}
theorem Gi {ih:Code→St→R (Ex×St)} {es:List MapEntry} (h:A.get m=some (.map es c)):bg ai ih (.fn 156 [.iface 121 (.map (some m))]) A= .ok (.val (.iface 121 (.map (some A.next))) (A.alloc (.map es c))):=by
 have e:bg ai ih (.fn 156 [.iface 121 (.map (some m))]) A=((match A.get m with
  |some (.map es clock)=>R.ok (Value.iface 121 (.map (some A.next)),A.alloc (.map es clock))
  |_=>.no 237).bind fun(v,A')=>.ok (.val v A')):=by kernel_rfl
 rw [e,h];rfl
variable {v:Value}
theorem RD:Hk ai 121 v= .ok (.iface 121 v):=by kernel_rfl
theorem RC:pg ai (.iface 121 (.map (some m))) 121 false= .ok (.map (some m)):=by kernel_rfl
theorem Sj {g:Nat→Option Ob} {x:Operand}:u_ ai g .eql 121 x (.const (.map none)) (.map (some m)) (.map none)= .ok (.bool false):=by kernel_rfl
theorem Ki {es:List MapEntry} (h:A.get m=some (.map es c)):bL ai 108 [.map (some m)] A (.map (some A.next)) (A.alloc (.map es c)):=by
 have k1:=fun ih=>Gi (ih:=ih) h
 refine aT (aB Tryz.func108) (c:=Tryz.f108.body.getD .skip) (by kernel_rfl) (by rw [Tryz.ntmps108];simp) (by kernel_rfl) (by kernel_rfl) ?_;apply W.run 60
 ·intro M;simp (disch:=first|decide+kernel|omega) only [Tryz.f108,Aq,X2,br,Sj,pj,pG,RD,k1,qP,RC];rfl
 exact⟨by simp,rfl,rfl,by simp only [Tryz.f108,Aq,X2,br,Sj,pj,pG,RD,k1,qP,RC]<;>rfl⟩
noncomputable def Py:Code:=qb8.body.getD .skip
noncomputable def Mc:Code:=sub Py [1,0,1,0,0]
theorem Tl:qb8.body=some (.seq (sub Py [0]) (.seq (.seq (sub Py [1,0,0]) (.block 0 (.loop Mc))) (sub Py [1,1]))):=by kernel_rfl
def Kept (A:Mem) (p mn:Nat) (ns:List (List UInt8)):Prop:=∃ml x y,VB A 124 p (.var 4) [ml,.map (some mn),x,y]∧(mn<A.next∧A.get mn=some (.map (cQ ns 0) ns.length))
variable {p:Nat}
theorem DV {ml:Nat} (h:Fold A p ml mn b ns) (hnd:ns.Nodup) (hn:ns.length<1000):
 ∃v A' mk,bL ai 66 [pV p,.int .i64 ns.length] A v A'∧v= .tuple ⟨[]⟩∧Kept A' p mk ns∧A.next≤mk∧A.next≤A'.next∧∀z,z<A.next→z≠p→z≠ml→A'.get z=A.get z:=by
 obtain⟨x,rows,hV,⟨hml,hml'⟩,⟨hmn,hmn'⟩,hmm,hS,hx0,hrl,hR⟩:=h;have hr0:rows=[]→x= .slice none 0 0:=fun h=>hx0 (Yh.1 (by rw [←hrl,h];rfl))
 have hrn:ns≠ []→rows≠ []:=fun h0 h=>h0 (Yh.1 (by rw [←hrl,h];rfl))
 have hpm:=hV.zi hml';have lx:aq ai A.get 122 (pw p 2)= .ok x:=hV.ld rfl vO rfl;have lenx:=az.len (tb:=ai) hS vO;rw [hrl] at lenx;have mn1:aO ai .min [3,3] [.int .i64 ns.length,.int .i64 ns.length]= .ok (.int .i64 ns.length):=by rw [Am.mE,Nat.min_self]
 have mx1:aO ai .max [3,3] [.int .i64 (0:Nat),.int .i64 ns.length]= .ok (.int .i64 ns.length):=by rw [Am.max_i64,qbG (Yg _)]
 obtain⟨x1,hsl,hS1⟩:=JB (tb:=ai) (t:=122) hS vO F0 (by omega) hr0;rw [hrl] at hsl;have len1:=az.len (tb:=ai) hS1 vO;rw [hrl] at len1
 suffices hW:∃v A',bL ai 66 [pV p,.int .i64 ns.length] A v A'∧v= .tuple ⟨[]⟩∧∃mk,Kept A' p mk ns∧A.next≤mk∧A.next≤A'.next∧∀z,z<A.next→z≠p→z≠ml→A'.get z=A.get z by
  obtain⟨v,A',h1,h2,mk,h3⟩:=hW;exact⟨v,A',mk,h1,h2,h3⟩
 refine cS (aB Tryz.func66) Tl (by rw [Tryz.ntmps66];simp) (by kernel_rfl) (by kernel_rfl) ?_;simp only [pV];apply W.seq;apply W.run 20
 ·intro M;simp (disch:=first|decide+kernel|omega) only [Py,qb8,Aq,X2,br,Gx,aV];rfl
 apply W.seq;apply W.seq;apply W.run 20
 ·intro M;simp (config:={maxSteps:=4000000}) (disch:=first|decide+kernel|omega|simp only [Wq,X2]) only [Py,qb8,Aq,X5,reduceIte,X2,X3,aG,a8,tY,lx,lenx,mn1,mx1,hsl,len1,Fq,aC []];rfl
 apply W.block;refine W.up ns.length (fun i t D=>(A.next≤D.next∧∀z,z<A.next→z≠ml→D.get z=A.get z)∧D.get ml=some (.map (cQ (ns.take i) 0) i)∧Sl t [(0,pw p 0),(20,x1),(21,.int .i64 ns.length),(22,.int .i64 i)]) ?_ (Yg _) ⟨⟨X9 _,fun _ _ _=>rfl⟩,by rw [ZC];exact hml',?_⟩
 ·rintro i t D hi ⟨⟨kn,kf⟩,hmD,g0,g20,g21,g22,-⟩;by_cases hlt:i<ns.length
  ·have hni:ns[i]?=some ns[i]:=X6 hlt;obtain⟨tt,ss,e1,e2,e3⟩:=hR i _ hni;have hS1D:az D 177 2 b rows x1:=az.fA hS1 (fun h=>by
    have:=hrn (fun e=>by rw [e] at hlt;simp at hlt);exact absurd h this) kn fun hne hl=>kf b hl (Ne.symm (az.zi hS hml' hne))
   have j1:=az.idx (tb:=ai) (t:=122) (i:=i) (kd:=.i64) hS1D vO F0 (by omega);obtain⟨d,hd1,hd2⟩:=bA (t:=177) (p:=true) (by kernel_rfl);have j2:=az.aQ (tb:=ai) (t:=177) hS1D hd1 hd2 F0 e1;have hupd:=Bb (A:=D) (mn:=ml) hni hnd hmD;generalize ns[i]=w at*;have sE:aW ai (D.alloc (aa 177 [.string .empty,.nilFunc])) 177 (pw D.next 0) (.agg ⟨jV BC tt ss⟩)= .ok (D.alloc (aa 177 (jV BC tt ss))):=bn F0 rfl rfl (by simp) (by simp [jV,aJ,strOf]);have kE:=Kp.alloc D (aa 177 (jV BC tt ss));have vE:=aF D 177 (jV BC tt ss);have nE:(D.alloc (aa 177 (jV BC tt ss))).next=D.next+1:=ae _ _
   generalize D.alloc (aa 177 (jV BC tt ss))=E at sE kE vE nE;have lf:aq ai E.get 128 (pw D.next (0+1))= .ok (.func (.func 65) ⟨[]⟩ ⟨[pV tt,pV ss]⟩):=by
    obtain⟨d,hd,ha⟩:=LD;exact vE.ld rfl hd ha
   have fAE:∀z,z<A.next→z≠ml→E.get z=A.get z:=fun z hz hm=>by rw [kE.2 z (by omega),kf z hz hm]
   have lm:aq ai E.get 121 (pw p 0)= .ok (.map (some ml)):=VB.ld (tb:=ai) ⟨by have:=hV.1;omega,hV.2.same (fAE p hV.1 hpm)⟩ rfl qo rfl;have hmE:E.get ml=some (.map (cQ (ns.take i) 0) i):=by rw [kE.2 ml (by omega)];exact hmD
   have htE:aq ai E.get 3 (pw tt 0)= .ok (.int .i64 (i+1:Nat)):=VB.ld (tb:=ai) ⟨by have:=e2.1;omega,e2.2.same (fAE tt e2.1 (e2.zi hml'))⟩ rfl u3 rfl;have hsE:aq ai E.get 9 (pw ss 0)= .ok (strOf w):=VB.ld (tb:=ai) ⟨by have:=e3.1;omega,e3.2.same (fAE ss e3.1 (e3.zi hml'))⟩ rfl u9 rfl;have hupE:=Bb (A:=E) (mn:=ml) hni hnd hmE;generalize hF:E.set ml (.map (cQ (ns.take (i+1)) 0) (i+1))=F at hupE;have nF:F.next=E.next:=by rw [←hF];exact aX _ _ _
   have hact:bL ai 65 [.map (some ml),pV tt,pV ss] E (.tuple ⟨[]⟩) F:=by
    simp only [pV];refine aT (aB Tryz.func65) (c:=Tryz.f65.body.getD .skip) (by kernel_rfl) (by rw [Tryz.ntmps65];simp) (by kernel_rfl) (by kernel_rfl) ?_;apply W.run 60
    ·intro M;simp (disch:=first|decide+kernel|omega) only [Tryz.f65,Aq,X2,htE,hsE,dL,hupE,cM];rfl
    exact⟨by simp,rfl,rfl,by simp only [Tryz.f65,Aq,X2,htE,hsE,dL,hupE,cM]<;>rfl⟩
   obtain⟨g,hg⟩:=hact;simp only [pV] at hg lf;apply W.a6 (g) 20
   ·intro M hM;simp (config:={maxSteps:=4000000}) (disch:=first|decide+kernel|omega|simp only [Wq,X2]) only [Mc,Py,qb8,Aq,X5,reduceIte,X2,X3,g0,g20,g21,g22,hlt,j1,j2,BJ,au,sE,GP,lf,aG,a8,NW,lm,hg,Fq,aC []];rfl
   refine⟨hlt,_,F,rfl,⟨by omega,fun z hz hm=>by rw [←hF,eB,if_neg hm,fAE z hz hm]⟩,by rw [←hF,eB,if_pos rfl],?_⟩;simp only [av,aw,T.af,T.ag,T.ak,X2,X3,if_true,if_false,and_true,true_and,g0,g20,g21]
  ·have e:i=ns.length:=by omega
   subst e;rw [Yw] at hmD;have VD:VB D 124 p (.var 4) [.map (some ml),.map (some mn),x,.int .i64 ns.length]:=⟨by have:=hV.1;omega,hV.2.same (kf p hV.1 hpm)⟩;have lm:aq ai D.get 121 (pw p 0)= .ok (.map (some ml)):=VD.ld rfl qo rfl;obtain⟨g,hg⟩:=Ki hmD;have kE:=Kp.alloc D (.map (cQ ns 0) ns.length);have hmk:(D.alloc (.map (cQ ns 0) ns.length)).get D.next=some (.map (cQ ns 0) ns.length):=aD _ _
   have nE:(D.alloc (.map (cQ ns 0) ns.length)).next=D.next+1:=ae _ _
   generalize D.alloc (.map (cQ ns 0) ns.length)=E at hg kE hmk nE;have hpD:=VD.1;obtain⟨F,sF,vF,nF,fF⟩:=a_ (tb:=ai) (t:=122) (o:=2) (v:=.slice none 0 0) IG (VD.2.same (kE.2 _ hpD)) (by simp) rfl rfl;obtain⟨G,sG,vG,nG,fG⟩:=a_ (tb:=ai) (t:=121) (o:=1) (v:=.map (some D.next)) Rb vF (by simp) rfl rfl;apply W.run 20
   ·intro M;simp (disch:=first|decide+kernel|omega) only [Mc,Py,qb8,Aq,X2,g21,g22];rfl
   apply W.a6 (g) 20
   ·intro M hM;simp (disch:=first|decide+kernel|omega) only [Py,qb8,Aq,X2,g0,aG,a8,NW,qp,tY,lm,hg,sF,sG];rfl
   refine⟨by simp,rfl,_,(by simp only [qb8,Aq,X2]<;>rfl),rfl,D.next,⟨_,_,_,⟨by show p<G.next;omega,vG⟩,by show D.next<G.next;omega,?_⟩,kn,by show A.next≤G.next;omega,fun z hz hp hm=>?_⟩
   ·show G.get D.next=_
    rw [fG _ (by omega),fF _ (by omega)];exact hmk
   ·show G.get z=A.get z;rw [fG z hp,fF z hp,kE.2 z (by omega),kf z hz hm]
 ·simp only [av,aw,T.af,T.ag,T.ak,X2,X3,if_true,if_false,and_true,true_and]
theorem Mk {ml:Nat} (h:Fold A p ml mn b ns) (hnd:ns.Nodup) (hn:ns.length<1000):
 ∃A' mk,bL ai 28 [pV p] A (.tuple ⟨[]⟩) A'∧Kept A' p mk ns∧A.next≤mk∧A.next≤A'.next∧∀z,z<A.next→z≠p→z≠ml→A'.get z=A.get z:=by
 obtain⟨v,A',mk,⟨g2,h2⟩,rfl,h3⟩:=DV h hnd hn;obtain⟨x,rows,hV,-,-,-,hS,-,hrl,-⟩:=h;have lx:aq ai A.get 122 (pw p 2)= .ok x:=hV.ld rfl vO rfl;have lenx:=az.len (tb:=ai) hS vO;rw [hrl] at lenx;have hp:bL ai 67 [pV p] A (.int .i64 ns.length) A:=by
  simp only [pV];refine aT (aB Tryz.func67) (c:=Tryz.f67.body.getD .skip) (by kernel_rfl) (by rw [Tryz.ntmps67];simp) (by kernel_rfl) (by kernel_rfl) ?_;apply W.run 60
  ·intro M;simp (disch:=first|decide+kernel|omega) only [Tryz.f67,Aq,X2,br,Gx,aV,aG,a8,tY,lx,lenx];rfl
  exact⟨by simp,rfl,rfl,by simp only [Tryz.f67,Aq,X2,br,Gx,aV,aG,a8,tY,lx,lenx]<;>rfl⟩
 obtain⟨g1,h1⟩:=hp;refine⟨A',mk,?_,h3⟩;simp only [pV] at*;refine aT (aB Tryz.func28) (c:=Tryz.f28.body.getD .skip) (by kernel_rfl) (by rw [Tryz.ntmps28];simp) (by kernel_rfl) (by kernel_rfl) ?_;apply W.a6 (g1+g2) 60
 ·intro M hM;simp (disch:=first|decide+kernel|omega) only [Tryz.f28,Aq,X2,h1,h2,cM];rfl
 exact⟨by simp,rfl,rfl,by simp only [Tryz.f28,Aq,X2,h1,h2,cM]<;>rfl⟩
theorem R0 {a:Nat}:cr ai 124 [(0,.map (some a)),(1,.map (some b))]= .ok (.agg ⟨[.map (some a),.map (some b),.slice none 0 0,.int .i64 (0:Nat)]⟩):=by kernel_rfl
theorem MP:∃v A',bL ai 25 [] A v A'∧v=pV (A.next+2)∧Fold A' (A.next+2) A.next (A.next+1) 0 []∧A'.next=A.next+3∧∀z,z<A.next→A'.get z=A.get z:=by
 have n1:(A.alloc (.map [] 0)).next=A.next+1:=ae _ _
 have n2:((A.alloc (.map [] 0)).alloc (.map [] 0)).next=A.next+2:=by rw [ae,n1]
 have n3:(((A.alloc (.map [] 0)).alloc (.map [] 0)).alloc (aa 124 [.map (some A.next),.map (some (A.next+1)),.slice none 0 0,.int .i64 (0:Nat)])).next=A.next+3:=by rw [ae,n2]
 have v:=aF ((A.alloc (.map [] 0)).alloc (.map [] 0)) 124 [.map (some A.next),.map (some (A.next+1)),.slice none 0 0,.int .i64 (0:Nat)];rw [n2] at v;refine⟨_,((A.alloc (.map [] 0)).alloc (.map [] 0)).alloc (aa 124 [.map (some A.next),.map (some (A.next+1)),.slice none 0 0,.int .i64 (0:Nat)]),?_,rfl,⟨_,[],v,⟨by omega,?_⟩,⟨by omega,?_⟩,by omega,az.nil _ _ _ _,fun _=>rfl,rfl,fun i w hw=>by simp at hw⟩,n3,fun z hz=>by rw [aH (by omega),aH (by omega),aH (by omega)]⟩
 ·simp only [pV];refine aT (aB Tryz.func25) (c:=Tryz.f25.body.getD .skip) (by kernel_rfl) (by rw [Tryz.ntmps25];simp) (by kernel_rfl) (by kernel_rfl) ?_;apply W.run 60
  ·intro M;simp (disch:=first|decide+kernel|omega) only [Tryz.f25,Aq,X2,gG,fq,A6,n1,n2,R0,au];rfl
  exact⟨by simp,rfl,rfl,by simp only [Tryz.f25,Aq,X2,gG,fq,A6,n1,n2,R0,au]<;>rfl⟩
 ·rw [aH (by omega),aH (by omega)];exact aD _ _
 ·rw [aH (by omega),←n1];exact aD _ _
theorem RS {s:List UInt8}:cr ai 131 [(0,strOf s),(2,strOf s)]= .ok (.agg ⟨[strOf s,.slice none 0 0,strOf s]⟩):=by kernel_rfl
theorem PJ {s:List UInt8}:bL ai 27 [strOf s] A (pV A.next) (A.alloc (aa 131 [strOf s,.slice none 0 0,strOf s])):=by
 simp only [pV];refine aT (aB Tryz.func27) (c:=Tryz.f27.body.getD .skip) (by kernel_rfl) (by rw [Tryz.ntmps27];simp) (by kernel_rfl) (by kernel_rfl) ?_;apply W.run 60
 ·intro M;simp (disch:=first|decide+kernel|omega) only [Tryz.f27,Aq,X2,RS,au];rfl
 exact⟨by simp,rfl,rfl,by simp only [Tryz.f27,Aq,X2,RS,au]<;>rfl⟩
theorem WN {a:Nat} {n:Int}:cr ai 81 [(0,pV a),(1,.map (some b)),(2,.int .i64 n)]= .ok (.agg ⟨[pV a,.map (some b),.int .i64 n,.int .i64 (0:Nat),.int .i64 (0:Nat),.bool false]⟩):=by kernel_rfl
noncomputable def c8:Code:=qbt.body.getD .skip
noncomputable def Q2:Code:=sub c8 [1,1,1,0,1,0,0]
theorem VJ:qbt.body=some (.seq (sub c8 [0]) (.seq (sub c8 [1,0]) (.seq (sub c8 [1,1,0]) (.seq (.seq (sub c8 [1,1,1,0,0]) (.block 0 (.loop Q2))) (.seq (sub c8 [1,1,1,1,0]) (.seq (sub c8 [1,1,1,1,1,0]) (sub c8 [1,1,1,1,1,1]))))))):=by kernel_rfl
def Gd (pf mf q:Nat):List Value:=[pV pf,.map (some mf),.int .i64 q,.int .i64 (0:Nat),.int .i64 (0:Nat),.bool false]
def SN (A:Mem) (p pf mf ml mn q:Nat) (fs:List (List UInt8×List UInt8)) (i:Nat) (D:Mem):Prop:=∃b ps,Fold D pf ml mn b ((fs.take i).map (·.1))∧VB D 81 p (.var 6) (Gd pf mf q)∧(mf<D.next∧D.get mf=some (.map (eW ps 0) ps.length))∧ps.length=i∧
 (∀(j:Nat) (s:List UInt8×List UInt8),j<i→fs[j]?=some s→∃b d a,ps[j]?=some b∧VB D 131 b (.var 3) [d,a,strOf s.2])∧(A.next≤D.next∧∀z,z<A.next→D.get z=A.get z)∧(i≠0→A.next≤b)
theorem M7 {D:Mem} {pf mf ml:Nat} {x:Value} (hF:pP A fs x) (hw:∀f∈fs,0<f.1.length∧f.1.length≤64) (hnd:(fs.map (·.1)).Nodup) (hl:fs.length<1000) (hi:i<fs.length) (ho:A.next≤p∧A.next≤pf∧A.next≤mf∧A.next≤ml∧A.next≤mn∧mf≠ml∧mf≠mn) (h:SN A p pf mf ml mn q fs i D)
 (hs:Sl t [(5,pV p),(17,x),(18,.int .i64 fs.length),(19,.int .i64 i)]):
 W ai Q2 ⟨t,50,[],D,none⟩ fun e s'=>e= .nrm∧∃t' D',s'=⟨t',50,[],D',none⟩∧SN A p pf mf ml mn q fs (i+1) D'∧Sl t' [(5,pV p),(17,x),(18,.int .i64 fs.length),(19,.int .i64 (i+1:Nat))]:=by
 obtain⟨b,ps,hFo,hV,⟨hmf,hmf'⟩,hpl,hB,hK,hb⟩:=h;obtain⟨g5,g17,g18,g19,-⟩:=hs;obtain⟨o1,o2,o3,o4,o5,o6,o7⟩:=ho;have hfi:fs[i]?=some fs[i]:=X6 hi;have hwi:=hw _ (YQ hi);have hFD:=hF.kp ⟨hK.1,hK.2⟩;obtain⟨bb,oo,j1,j2,-⟩:=hFD.at hfi;have htk:(fs.take (i+1)).map (·.1)=(fs.take i).map (·.1)++[fs[i].1]:=by rw [Yd hi,YV];rfl
 have hnot:fs[i].1∉(fs.take i).map (·.1):=by
  have h1:((fs.take (i+1)).map (·.1)).Nodup:=by
   rw [List.map_take];exact(List.take_sublist _ _).nodup hnd
  rw [htk,qbo] at h1;exact fun hm=>h1.2.2 _ hm _ (List.mem_singleton_self _) rfl
 have hnl:((fs.take i).map (·.1)).length=i:=by rw [Yb,Yo];omega
 generalize hfe:fs[i]=f at*;have sE:aW ai (D.alloc (aa 27 [.string .empty,.string .empty])) 27 (pw D.next 0) (.agg ⟨dC f⟩)= .ok (D.alloc (aa 27 (dC f))):=bn Sq rfl rfl (by simp) (sS f);have kE:=Kp.alloc D (aa 27 (dC f));have vE:=aF D 27 (dC f);have nE:(D.alloc (aa 27 (dC f))).next=D.next+1:=ae _ _
 generalize D.alloc (aa 27 (dC f))=E at sE kE vE nE;have l1:aq ai E.get 9 (pw D.next 0)= .ok (strOf f.1):=vE.ld rfl u9 rfl;have VE:=hV.kp kE;have lpf:aq ai E.get 77 (pw p 0)= .ok (pV pf):=by
  obtain⟨d,hd,ha⟩:=Ml;exact VE.ld rfl hd ha
 have hFoE:Fold E pf ml mn b ((fs.take i).map (·.1)):=by
  obtain⟨x,rows,q1,⟨q2,q3⟩,⟨q4,q5⟩,q6,q7,q8,q9,q10⟩:=hFo;refine⟨x,rows,q1.kp kE,⟨by omega,by rw [kE.2 _ q2];exact q3⟩,⟨by omega,by rw [kE.2 _ q4];exact q5⟩,q6,q7.same kE.1 (kE.2 b),q8,q9,fun j w hw=>?_⟩;obtain⟨t,s,e1,e2,e3⟩:=q10 j w hw;exact⟨t,s,e1,e2.kp kE,e3.kp kE⟩
 obtain⟨v,F,b',⟨g1,h1⟩,rfl,hFoF,hb',hnF,hfF⟩:=FQ hFoE hnot hwi (by omega);rw [hnl] at h1;have hn0:(fs.take i).map (·.1)≠ []→i≠0:=fun h e=>h (by subst e;rfl)
 obtain⟨xo,rowso,qV,⟨-,qml⟩,⟨-,qmn⟩,-,qS,qx0,qrl,-⟩:=hFoE;have hrne:(fs.take i).map (·.1)≠ []→rowso≠ []:=fun h0 h=>h0 (Yh.1 (by rw [←qrl,h];rfl))
 have keep:∀(e:TypeId) (z:Nat) (k:Kd) (l:List Value),VB E e z k l→e≠124→e≠177→VB F e z k l:=fun e z k l hz h1 h2=>⟨by have:=hz.1;omega,hz.2.same (hfF z hz.1 (hz.ne qV h1) (hz.zi qmn) (fun h0=>az.Xh qS hz h2 (hrne h0)))⟩
 have VF:=keep _ _ _ _ VE (by decide) (by decide);have vEF:=keep _ _ _ _ vE (by decide) (by decide);have hmfE:E.get mf=some (.map (eW ps 0) ps.length):=by rw [kE.2 _ hmf];exact hmf'
 have hmfF:F.get mf=some (.map (eW ps 0) ps.length):=by
  rw [hfF mf (by omega) (Ne.symm (qV.zi hmfE)) o7 (fun h0=>az.zi qS hmfE (hrne h0))];exact hmfE
 have l2:aq ai F.get 9 (pw D.next (0+1))= .ok (strOf f.2):=vEF.ld rfl u9 rfl;have lmf:aq ai F.get 79 (pw p 1)= .ok (.map (some mf)):=VF.ld rfl C9 rfl;obtain⟨g2,h2⟩:=PJ (A:=F) (s:=f.2);have kG:=Kp.alloc F (aa 131 [strOf f.2,.slice none 0 0,strOf f.2]);have vG:=aF F 131 [strOf f.2,.slice none 0 0,strOf f.2];have nG:(F.alloc (aa 131 [strOf f.2,.slice none 0 0,strOf f.2])).next=F.next+1:=ae _ _
 generalize F.alloc (aa 131 [strOf f.2,.slice none 0 0,strOf f.2])=G at h2 kG vG nG;have VG:=VF.kp kG;have lmfG:aq ai G.get 79 (pw p 1)= .ok (.map (some mf)):=VG.ld rfl C9 rfl;have hmfG:G.get mf=some (.map (eW ps 0) ps.length):=by rw [kG.2 _ (by omega)];exact hmfF
 have hup:=On (p:=F.next) hmfG;rw [hpl] at hup;generalize hH:G.set mf (.map (eW (ps++[F.next]) 0) (ps++[F.next]).length)=H at hup;have nH:H.next=G.next:=by rw [←hH];exact aX _ _ _
 have fH:∀z,z≠mf→H.get z=G.get z:=fun z hz=>by rw [←hH,eB,if_neg hz]
 have toH:∀(e:TypeId) (z:Nat) (k:Kd) (l:List Value),VB F e z k l→VB H e z k l:=fun e z k l hz=>⟨by have:=hz.1;omega,hz.2.same (by rw [fH z (hz.zi hmfF),kG.2 _ hz.1])⟩
 have smf:cD 100 (.map (some mf)) (.map (some mf))=true:=by simp [cD,rL]
 have a1:aN .add .i64 ((i:Nat):Int) ((1:Nat):Int)= .ok (.int .i64 (i+1:Nat)):=a9 (aR (by omega));simp only [pV] at*;apply W.a6 (g1+g2) 20
 ·intro M hM;simp (config:={maxSteps:=4000000}) (disch:=first|decide+kernel|omega|simp only [Wq,X2]) only [Q2,c8,qbt,Aq,X5,reduceIte,X2,X3,g5,g17,g18,g19,hi,j1,j2,Md,au,sE,aG,a8,AI,EO,lpf,vc,zL,l1,h1,l2,lmf,lmfG,h2,dL,hup,smf,a1,X8,X7,Fq,aC [(3,7)]];rfl
 refine⟨rfl,_,H,rfl,⟨b',ps++[F.next],?_,toH _ _ _ _ VF,⟨by omega,by rw [←hH,eB,if_pos rfl]⟩,by rw [X',hpl];rfl,fun j s hj hsj=>?_,⟨by have:=hK.1;omega,fun z hz=>?_⟩,fun _=>by have:=hK.1;omega⟩,?_⟩
 ·obtain⟨x2,rows2,r1,⟨r2,r3⟩,⟨r4,r5⟩,r6,r7,r8,r9,r10⟩:=hFoF;rw [htk];refine⟨x2,rows2,toH _ _ _ _ r1,⟨by omega,by rw [fH _ (Ne.symm o6),kG.2 _ r2];exact r3⟩,⟨by omega,by rw [fH _ (Ne.symm o7),kG.2 _ r4];exact r5⟩,r6,?_,r8,r9,fun j w hw=>?_⟩
  ·refine az.fA (r7.same kG.1 (kG.2 b')) (fun h=>r8 (Yh.1 (by rw [←r9,h];rfl))) (by omega) fun hne hlt=>fH _ (fun e=>?_)
   exact(az.zi r7 hmfF hne) e.symm
  ·obtain⟨t,s,e1,e2,e3⟩:=r10 j w hw;exact⟨t,s,e1,toH _ _ _ _ e2,toH _ _ _ _ e3⟩
 ·rcases YE j i with hj2|hj2
  ·obtain⟨b0,d,a,e1,e2⟩:=hB j s hj2 hsj;exact⟨b0,d,a,by rw [Yz (by omega)];exact e1,toH _ _ _ _ (keep _ _ _ _ (e2.kp kE) (by decide) (by decide))⟩
  ·have e:j=i:=by omega
   subst e;rw [hfi] at hsj;cases hsj;exact⟨F.next,_,_,by rw [YA (by omega),hpl,Zg];rfl,⟨by have:=vG.1;omega,vG.2.same (fH _ (by omega))⟩⟩
 ·rw [fH z (by omega),kG.2 z (by omega),hfF z (by omega) (by omega) (by omega) (fun h0=>by have:=hb (hn0 h0);omega),kE.2 z (by omega),hK.2 z hz]
 ·simp only [av,aw,T.af,T.ag,T.ak,X2,X3,if_true,if_false,and_true,true_and,g5,g17,g18]
theorem L7 {x:Value} (hF:pP A fs x) (hw:∀f∈fs,0<f.1.length∧f.1.length≤64) (hnd:(fs.map (·.1)).Nodup) (hl:fs.length<1000) (hq:q<9223372036854775808):
 ∃v A',bL ai 8 [x,.int .i64 q] A v A'∧Kp A A'∧∃p,v=pV p∧fT A' p fs:=by
 refine cS (aB Tryz.func8) VJ (by rw [Tryz.ntmps8];simp) (by kernel_rfl) (by kernel_rfl) ?_;have hlen:=hF.len;obtain⟨v,B,⟨g1,h1⟩,rfl,hFo,nB,fB⟩:=MP (A:=A);have hmap:(B.alloc (.map [] 0)).get B.next=some (.map [] 0):=aD _ _
 have n1:(B.alloc (.map [] 0)).next=B.next+1:=ae _ _
 have kC:=(Kp.alloc B (.map [] 0)).trans (Kp.alloc (B.alloc (.map [] 0)) (aa 81 (Gd (A.next+2) B.next q)));have vC:=aF (B.alloc (.map [] 0)) 81 (Gd (A.next+2) B.next q);have nC:((B.alloc (.map [] 0)).alloc (aa 81 (Gd (A.next+2) B.next q))).next=B.next+2:=by rw [ae,n1]
 have hmapC:((B.alloc (.map [] 0)).alloc (aa 81 (Gd (A.next+2) B.next q))).get B.next=some (.map [] 0):=by rw [aH (by omega)];exact hmap
 rw [n1] at vC;have bd:cr ai 81 [(0,pw (A.next+2) 0),(1,.map (some B.next)),(2,.int .i64 q)]= .ok (.agg ⟨Gd (A.next+2) B.next q⟩):=WN;have hq0:¬q<0:=by omega
 simp only [pV] at h1;apply W.seq;apply W.run 20
 ·intro M;simp (disch:=first|decide+kernel|omega) only [c8,qbt,Aq,X2];rfl
 apply W.seq;apply W.run 20
 ·intro M;simp (disch:=first|decide+kernel|omega) only [c8,qbt,Aq,X2];rfl
 apply W.seq;apply W.a6 (g1) 20
 ·intro M hM;simp (disch:=first|decide+kernel|omega) only [c8,qbt,Aq,X2,h1,gG,fq,A6,bd,au,n1];rfl
 show W ai _ _ _;generalize (B.alloc (.map [] 0)).alloc (aa 81 (Gd (A.next+2) B.next q))=C at kC vC nC hmapC;have hAC:Kp A C:=⟨by omega,fun z hz=>by rw [kC.2 z (by omega),fB z hz]⟩;have hFoC:Fold C (A.next+2) A.next (A.next+1) 0 []:=by
  obtain⟨x,rows,q1,⟨q2,q3⟩,⟨q4,q5⟩,q6,q7,q8,q9,q10⟩:=hFo;exact⟨x,rows,q1.kp kC,⟨by omega,by rw [kC.2 _ q2];exact q3⟩,⟨by omega,by rw [kC.2 _ q4];exact q5⟩,q6,q7.same kC.1 (kC.2 0),q8,q9,fun j w hw=>by simp at hw⟩
 apply W.seq;apply W.seq;apply W.run 20
 ·intro M;simp (disch:=first|decide+kernel|omega) only [c8,qbt,Aq,X2,hlen];rfl
 apply W.block;refine W.up fs.length (fun i t D=>SN A (B.next+1) (A.next+2) B.next A.next (A.next+1) q fs i D∧Sl t [(5,pV (B.next+1)),(17,x),(18,.int .i64 fs.length),(19,.int .i64 i)]) ?_ (Yg _) ⟨⟨0,[],hFoC,vC,⟨by omega,hmapC⟩,rfl,fun j s hj=>absurd hj (ZR _),hAC,fun h=>absurd rfl h⟩,?_⟩
 ·rintro i t D hi ⟨hR,hs0⟩;by_cases hlt:i<fs.length
  ·refine(M7 hF hw hnd hl hlt ⟨by omega,by omega,by omega,by omega,by omega,by omega,by omega⟩ hR hs0).mono ?_;rintro e s' ⟨rfl,t',D',rfl,hR',hs'⟩;exact⟨hlt,t',D',rfl,hR',hs'⟩
  ·have e:i=fs.length:=by omega
   subst e;obtain⟨b,ps,hFo,hV,⟨hmf,hmf'⟩,hpl,hB,hK,hb⟩:=hR;obtain⟨f5,f17,f18,f19,-⟩:=hs0;rw [Yw] at hFo;have hnl:(fs.map (·.1)).length=fs.length:=Yb _;obtain⟨E,mk,⟨g2,h2⟩,hKe,hmk,hnE,hfE⟩:=Mk hFo hnd (by omega);obtain⟨_,_,qV,⟨_,qml⟩,_⟩:=hFo;have lpf:aq ai D.get 77 (pw (B.next+1) 0)= .ok (pV (A.next+2)):=by
    obtain⟨d,hd,ha⟩:=Ml;exact hV.ld rfl hd ha
   simp only [pV] at*;apply W.run 20
   ·intro M;simp (disch:=first|decide+kernel|omega) only [Q2,c8,qbt,Aq,X2,f18,f19];rfl
   apply W.seq;apply W.a6 (g2) 20
   ·intro M hM;simp (disch:=first|decide+kernel|omega) only [c8,qbt,Aq,X2,f5,aG,a8,AI,lpf,h2];rfl
   apply W.seq;apply W.run 20
   ·intro M;simp (disch:=first|decide+kernel|omega) only [c8,qbt,Aq,X2,f5];rfl
   apply W.run 20
   ·intro M;simp (disch:=first|decide+kernel|omega) only [c8,qbt,Aq,X2];rfl
   obtain⟨ml',x',y',r1,r2,r3⟩:=hKe;have toE:∀(e:TypeId) (z:Nat) (k:Kd) (l:List Value),VB D e z k l→e≠124→VB E e z k l:=fun e z k l hz he=>⟨by have:=hz.1;omega,hz.2.same (hfE z hz.1 (hz.ne qV he) (hz.zi qml))⟩
   refine⟨by simp,rfl,_,(by simp only [qbt,Aq,X2]<;>rfl),⟨by show A.next≤E.next;have:=hK.1;omega,fun z hz=>by show E.get z=A.get z;rw [hfE z (by have:=hK.1;omega) (by omega) (by omega),hK.2 z hz]⟩,B.next+1,rfl,?_⟩;refine⟨A.next+2,B.next,mk,ps.length,(fs.map (·.1)).length,ps,ml',_,_,_,x',y',toE _ _ _ _ hV (by decide),r1,⟨r2,r3⟩,⟨by show B.next<E.next;omega,?_⟩,fun j s hsj=>?_⟩
   ·show E.get B.next=_
    rw [hfE B.next hmf (Ne.symm (qV.zi hmf')) (by omega)];exact hmf'
   ·obtain⟨b0,d,a,e1,e2⟩:=hB j s (X_.1 hsj).1 hsj;exact⟨b0,d,a,e1,toE _ _ _ _ e2 (by decide)⟩
 ·simp only [av,aw,T.af,T.ag,T.ak,X2,X3,if_true,if_false,and_true,true_and,pV]
theorem Si {ih:Code→St→R (Ex×St)} {s:List UInt8} (h:DG [strOf s] A= .ok (v,A')):bg ai ih (.fn 79 [strOf s]) A= .ok (.val v A'):=
 bW (aB Tryz.func79) (by kernel_rfl) (c:=Z2.body.getD .skip) (by kernel_rfl) (gP (by simp only [ot,jm,T.af];rfl)) h
def M9 (y:Value) (l:List aP):List Value:=[y,.int .u64 (least l:Nat),.int .i64 l.length,.int .i64 (((crc.aK (ez l)).length:Nat):Int)]
def jz (A:Mem) (l:List aP) (v:Value):Prop:=∃p y,v=pV p∧VB A 109 p (.var 4) (M9 y l)∧eX A (dF l) y
theorem jz.kp {l:List aP} (h:jz A l v) (k:Kp A A'):jz A' l v:=by
 obtain⟨p,y,h1,h2,h3⟩:=h;exact⟨p,y,h1,h2.kp k,h3.kp k⟩
variable {n:Nat}
theorem MF {g:Nat→Option Ob}:u_ ai g .neq 146 (.tmp n) (.const .nilIface) .nilIface .nilIface= .ok (.bool false):=by kernel_rfl
theorem Ia {g:Nat→Option Ob} {x:Operand}:u_ ai g .neq 146 x (.const .nilIface) (.iface 192 v) .nilIface= .ok (.bool true):=by kernel_rfl
theorem Sk {k:Int}:cr ai 107 [(0,.agg ⟨[y,.int .u64 k]⟩)]= .ok (.agg ⟨[y,.int .u64 k]⟩):=by kernel_rfl
theorem Ry {k n m:Int}:cr ai 109 [(0,.agg ⟨[y,.int .u64 k]⟩),(1,.int .i64 n),(2,.int .i64 m)]= .ok (.agg ⟨[y,.int .u64 k,.int .i64 n,.int .i64 m]⟩):=by kernel_rfl
theorem lu (l:List UInt8):(crc.aK l).length≤l.length+4:=by
 unfold crc.aK;simp [crc.four]
theorem Cn {s:List UInt8} (hs:s.length<900000) (ho:(crc.dN s).2=false):∃v A',bL ai 36 [strOf s] A v A'∧v= .tuple ⟨[.pointer none,.int .i64 (12:Nat)]⟩∧Kp A A':=by
 obtain⟨v,B,h1,kB,p,rfl⟩:=Ot (A:=A) hs ho;have kp:=fun ih=>Si (ih:=ih) h1
 have kC:=Kp.alloc B (aa 105 [.slice none 0 0,.int .u64 (0:Nat)]);have sC:aW ai (B.alloc (aa 105 [.slice none 0 0,.int .u64 (0:Nat)])) 105 (pw B.next 0) (.agg ⟨[.slice none 0 0,.int .u64 (0:Nat)]⟩)= .ok (B.alloc (aa 105 [.slice none 0 0,.int .u64 (0:Nat)])):=bn eD rfl rfl (by simp) (by simp [aJ]);refine⟨_,_,?_,rfl,kB.trans kC⟩;refine aT (aB Tryz.func36) (c:=Tryz.f36.body.getD .skip) (by kernel_rfl) (by rw [Tryz.ntmps36];simp) (by kernel_rfl) (by kernel_rfl) ?_;apply W.run 60
 ·intro M;simp (config:={maxSteps:=4000000}) (disch:=first|decide+kernel|omega|simp only [Wq,X2]) only [Tryz.f36,Aq,X5,reduceIte,X2,X3,kp,mP,au,sC,X8,X7,eP,og,Ia,aV];rfl
 exact⟨by simp,rfl,rfl,by simp only [Tryz.f36,Aq,X5,reduceIte,X2,X3,kp,mP,au,sC,X8,X7,eP,og,Ia,aV]<;>rfl⟩
theorem xx {l:List aP} (h:Ft l):∃v A',bL ai 36 [strOf (crc.aK (ez l))] A v A'∧Kp A A'∧∃x,v= .tuple ⟨[x,.int .i64 (0:Nat)]⟩∧jz A' l x:=by
 obtain⟨q1,-,-,q4,q5,q6,q7,q8,q9⟩:=id h;have hlen:=lu (ez l);obtain⟨v,B,h1,kB,y,rfl,hS⟩:=Ko (A:=A) (s:=crc.aK (ez l)) (n:=l.length) (k:=least l) (M:=dF l) (by omega) (crc.yy _) (by omega) q6 q5 q7 q8 (by show(ez l).length<_;omega);have kp:=fun ih=>Si (ih:=ih) h1
 have kC:=Kp.alloc B (aa 105 [y,.int .u64 (least l:Nat)]);have vC:=aF B 105 [y,.int .u64 (least l:Nat)];have sC:aW ai (B.alloc (aa 105 [.slice none 0 0,.int .u64 (0:Nat)])) 105 (pw B.next 0) (.agg ⟨[y,.int .u64 (least l:Nat)]⟩)= .ok (B.alloc (aa 105 [y,.int .u64 (least l:Nat)])):=bn eD rfl rfl (by simp) (fun v hv=>by
  simp only [Yp,YH,or_false] at hv;rcases hv with rfl|rfl
  ·exact hS.self.2
  ·rfl)
 generalize hCe:B.alloc (aa 105 [y,.int .u64 (least l:Nat)])=C at kC vC sC;obtain⟨d,hd1,hd2⟩:=bA (t:=105) (p:=true) (by kernel_rfl);have lC:∀D,Kp C D→aq ai D.get 105 (pw B.next 0)= .ok (.agg ⟨[y,.int .u64 (least l:Nat)]⟩):=fun D hD=>aQ hd1 hd2 (l:=[y,.int .u64 (least l:Nat)]) eD (vC.kp hD).2
 have l1:=lC C (Kp.refl _);obtain⟨v,D,⟨g,hg⟩,rfl,kD⟩:=Hl h (hS.kp kC);have l2:=lC D kD;have kE:=Kp.alloc D (aa 109 (M9 y l));have vE:=aF D 109 (M9 y l);have hE:D.alloc (aa 109 [y,.int .u64 (least l:Nat),.int .i64 l.length,.int .i64 (((crc.aK (ez l)).length:Nat):Int)])=D.alloc (aa 109 (M9 y l)):=rfl;have ll:=cd (tb:=ai) (t:=9) (l:=crc.aK (ez l)) u9;refine⟨_,D.alloc (aa 109 (M9 y l)),?_,(kB.trans kC).trans (kD.trans kE),pV D.next,rfl,D.next,y,rfl,vE,hS.kp (kC.trans (kD.trans kE))⟩;simp only [pV];refine aT (aB Tryz.func36) (c:=Tryz.f36.body.getD .skip) (by kernel_rfl) (by rw [Tryz.ntmps36];simp) (by kernel_rfl) (by kernel_rfl) ?_;apply W.a6 (g) 60
 ·intro M hM;simp (config:={maxSteps:=4000000}) (disch:=first|decide+kernel|omega|simp only [Wq,X2]) only [Tryz.f36,Aq,X5,reduceIte,X2,X3,kp,mP,au,sC,X8,X7,eP,og,MF,l1,hg,l2,Sk,ll,Ry,hE,aV];rfl
 exact⟨by simp,rfl,rfl,by simp only [Tryz.f36,Aq,X5,reduceIte,X2,X3,kp,mP,au,sC,X8,X7,eP,og,MF,l1,hg,l2,Sk,ll,Ry,hE,aV]<;>rfl⟩
theorem Ok:ax ai 109 (pw b 0) 1= .ok (pw b 2):=by kernel_rfl
theorem UK {t:Operand}:u_ ai A.get .eql 54 t (.const (.pointer none)) (pw b 0) (.pointer none)= .ok (.bool false):=by kernel_rfl
theorem M6 {l:List aP} (h:jz A l v):bL ai 19 [v] A (.int .i64 l.length) A:=by
 obtain⟨p,y,rfl,h1,-⟩:=h;have l1:aq ai A.get 3 (pw p 2)= .ok (.int .i64 l.length):=h1.ld rfl u3 rfl;simp only [pV];refine aT (aB Tryz.func19) (c:=Tryz.f19.body.getD .skip) (by kernel_rfl) (by rw [Tryz.ntmps19];simp) (by kernel_rfl) (by kernel_rfl) ?_;apply W.run 60
 ·intro M;simp (disch:=first|decide+kernel|omega) only [Tryz.f19,Aq,X2,br,UK,aG,a8,Ok,l1,aV];rfl
 exact⟨by simp,rfl,rfl,by simp only [Tryz.f19,Aq,X2,br,UK,aG,a8,Ok,l1,aV]<;>rfl⟩
theorem GA {s:List UInt8} {n m:Value} (hs:s.length<900000) (ho:(crc.dN s).2=false) (v:VB A 58 q (.var 3) [n,m,.int .i64 s.length]):
 ∃v A',bL ai 35 [strOf s,pV q] A v A'∧v= .tuple ⟨[.pointer none,.bool false]⟩∧Kp A A':=by
 obtain⟨v1,B,⟨g,hg⟩,rfl,kB⟩:=Cn (A:=A) hs ho;have ll:=cd (tb:=ai) (t:=9) (l:=s) u9;have l1:aq ai A.get 3 (pw q (0+2))= .ok (.int .i64 s.length):=v.ld rfl u3 rfl;refine⟨_,B,?_,rfl,kB⟩;simp only [pV];refine aT (aB Tryz.func35) (c:=Tryz.f35.body.getD .skip) (by kernel_rfl) (by rw [Tryz.ntmps35];simp) (by kernel_rfl) (by kernel_rfl) ?_;apply W.a6 (g) 60
 ·intro M hM;simp (config:={maxSteps:=4000000}) (disch:=first|decide+kernel|omega|simp only [Wq,X2]) only [Tryz.f35,Aq,X5,reduceIte,X2,X3,ll,vn,l1,hg,X8,X7,aV,Fq,aC [(7,5)]];rfl
 exact⟨by simp,rfl,rfl,by simp only [Tryz.f35,Aq,X5,reduceIte,X2,X3,ll,vn,l1,hg,X8,X7,aV,Fq,aC [(7,5)]]<;>rfl⟩
theorem T5 {l:List aP} {n:Value} (h:Ft l) (v:VB A 58 q (.var 3) [n,.int .i64 l.length,.int .i64 (((crc.aK (ez l)).length:Nat):Int)]):
 ∃v A',bL ai 35 [strOf (crc.aK (ez l)),pV q] A v A'∧Kp A A'∧∃x,v= .tuple ⟨[x,.bool true]⟩∧jz A' l x:=by
 obtain⟨v1,B,⟨g,hg⟩,kB,x,rfl,hx⟩:=xx (A:=A) h;obtain⟨g2,hg2⟩:=M6 hx;have ll:=cd (tb:=ai) (t:=9) (l:=crc.aK (ez l)) u9;have l1:aq ai A.get 3 (pw q (0+2))= .ok (.int .i64 (((crc.aK (ez l)).length:Nat):Int)):=v.ld rfl u3 rfl;have l2:aq ai B.get 3 (pw q (0+1))= .ok (.int .i64 l.length):=(v.kp kB).ld rfl u3 rfl;have sl:=eg .i64 l.length rfl;refine⟨_,B,?_,kB,x,rfl,hx⟩;simp only [pV];refine aT (aB Tryz.func35) (c:=Tryz.f35.body.getD .skip) (by kernel_rfl) (by rw [Tryz.ntmps35];simp) (by kernel_rfl) (by kernel_rfl) ?_;apply W.a6 (g+g2) 60
 ·intro M hM;simp (config:={maxSteps:=4000000}) (disch:=first|decide+kernel|omega|simp only [Wq,X2]) only [Tryz.f35,Aq,X5,reduceIte,X2,X3,ll,AM,vn,l1,hg,hg2,l2,sl,X8,X7,aV,Fq,aC [(7,5)]];rfl
 exact⟨by simp,rfl,rfl,by simp only [Tryz.f35,Aq,X5,reduceIte,X2,X3,ll,AM,vn,l1,hg,hg2,l2,sl,X8,X7,aV,Fq,aC [(7,5)]]<;>rfl⟩
theorem z8 (h:fT A p fs):bL ai 73 [pw p 0] A (.bool false) A:=by
 obtain⟨pf,mf,mn,cf,cn,ps,ml,q,st,ar,x,y,h1,-⟩:=h;exact Ol h1
theorem Rj (v:VB A 44 q (.var 1) [pw p 0]):aq ai A.get 44 (pw q 0)= .ok (pw p 0):=by
 obtain⟨d,hd1,hd2⟩:=bA (t:=44) (p:=false) (by kernel_rfl);exact v.ld rfl hd1 hd2
variable {is:Bool}
theorem Uh {k0:Nat} {w s:List UInt8} {P:Mem→Value→Prop} (h:fT A p fs) (hw:fileOf fs w=some s) (hs:s.length<1000000000000)
 (v0:VB A 44 k0 (.var 1) [pw p 0]) (v1:VB A 9 (k0+1) (.var 1) [strOf w]) (v2:VB A 90 (k0+2) (.var 1) [.func (.func 35) ⟨[]⟩ ⟨[pw q 0]⟩]) (v3:VB A 3 (k0+3) (.var 1) [.int .i64 (s.length:Nat)])
 (hm:∃v E,bL ai 35 [strOf s,pw q 0] A v E∧Kp A E∧∃x,v= .tuple ⟨[x,.bool is]⟩∧P E x):
 ∃v E,bL ai 81 [pw k0 0,pw (k0+1) 0,pw (k0+3) 0,pw (k0+2) 0] A v E∧Kp A E∧∃x,v= .tuple ⟨[x,.bool is]⟩∧P E x:=by
 obtain⟨g1,h1⟩:=uU h hw hs;obtain⟨v,E,⟨g2,h2⟩,kE,x,rfl,hP⟩:=hm;have l0:=Rj v0;have l1:aq ai A.get 9 (pw (k0+1) 0)= .ok (strOf w):=v1.ld rfl u9 rfl;have l2:aq ai A.get 90 (pw (k0+2) 0)= .ok (.func (.func 35) ⟨[]⟩ ⟨[pw q 0]⟩):=by
  obtain⟨d,hd1,hd2⟩:=bA (t:=90) (p:=false) (by kernel_rfl);exact v2.ld rfl hd1 hd2
 have l3:aq ai A.get 3 (pw (k0+3) 0)= .ok (.int .i64 (s.length:Nat)):=v3.ld rfl u3 rfl;refine⟨_,E,?_,kE,x,rfl,hP⟩;refine aT (aB Tryz.func81) (c:=Tryz.f81.body.getD .skip) (by kernel_rfl) (by rw [Tryz.ntmps81];simp) (by kernel_rfl) (by kernel_rfl) ?_;apply W.a6 (g1+g2) 60
 ·intro M hM;simp (disch:=first|decide+kernel|omega) only [Tryz.f81,Aq,X2,aV,l0,l1,l2,l3,h1,h2,X8,X7];rfl
 exact⟨by simp,rfl,rfl,by simp only [Tryz.f81,Aq,X2,aV,l0,l1,l2,l3,h1,h2,X8,X7]<;>rfl⟩
theorem xT {k0:Nat} {w:List UInt8} {f:Value} {t:TypeId} (hk:A.next=k0):(A.alloc (aa 44 [pw p 0])).next=k0+1∧((A.alloc (aa 44 [pw p 0])).alloc (aa 9 [strOf w])).next=k0+2∧
 ∃D,((A.alloc (aa 44 [pw p 0])).alloc (aa 9 [strOf w])).alloc (aa t [f])=D∧D.next=k0+3∧Kp A D∧VB D 44 k0 (.var 1) [pw p 0]∧VB D 9 (k0+1) (.var 1) [strOf w]∧VB D t (k0+2) (.var 1) [f]:=by
 have h:=CG [(44,[pw p 0]),(9,[strOf w]),(t,[f])] A;have a:=Ik [(44,[pw p 0]),(9,[strOf w]),(t,[f])] A;rw [hk] at a h;have n1:(A.alloc (aa 44 [pw p 0])).next=k0+1:=by rw [ae,hk]
 exact⟨n1,by rw [ae,n1],_,rfl,h.2,h.1,a 0 _ rfl,a 1 _ rfl,a 2 _ rfl⟩
theorem T_ {w s:List UInt8} {n:Value} {P:Mem→Value→Prop} (h:fT A p fs) (hw:fileOf fs w=some s) (hs:s.length<1000000000000)
 (hm:∀D,Kp A D→∃v E,bL ai 35 [strOf s,.pointer (some ⟨q,0,none⟩)] D v E∧Kp D E∧∃x,v= .tuple ⟨[x,.bool is]⟩∧P E x):
 ∃v E,bL ai 37 [.pointer (some ⟨p,0,none⟩),strOf w,.func (.func 35) ⟨[]⟩ ⟨[.pointer (some ⟨q,0,none⟩)]⟩,n] A v E∧Kp A E∧∃x,P E x∧v=(if is then .tuple ⟨[x,.int .i64 (0:Nat)]⟩ else .tuple ⟨[.pointer none,.int .i64 (12:Nat)]⟩):=by
 generalize hk:A.next=k0
 obtain⟨n1,n2,D,hD,n3,kD,w0,w1,w2⟩:=xT (A:=A) (p:=p) (w:=w) (f:=.func (.func 35) ⟨[]⟩ ⟨[.pointer (some ⟨q,0,none⟩)]⟩) (t:=90) hk;have kE:=Kp.alloc D (aa 3 [.int .i64 (s.length:Nat)]);have w3:=aF D 3 [.int .i64 (s.length:Nat)];have sE:aW ai (D.alloc (aa 3 [.int .i64 (0:Nat)])) 3 (.pointer (some ⟨D.next,0,none⟩)) (.int .i64 (s.length:Nat))= .ok (D.alloc (aa 3 [.int .i64 (s.length:Nat)])):=df Q5 rfl rfl (by simp);rw [n3] at sE w3;generalize hE:D.alloc (aa 3 [.int .i64 (s.length:Nat)])=E at*;obtain⟨gd,hgd⟩:=z8 (h.kp kD);obtain⟨gs,hgs⟩:=Dl (w:=w) (h.kp kD);rw [hw] at hgs;simp only [Za,qaH,if_true] at hgs;have l0:=Rj w0;have l1:aq ai D.get 9 (.pointer (some ⟨k0+1,0,none⟩))= .ok (strOf w):=w1.ld rfl u9 rfl;have e44:u_ ai D.get .eql 44 (.tmp 16) (.const (.pointer none)) (.pointer (some ⟨p,0,none⟩)) (.pointer none)= .ok (.bool false):=EE;obtain⟨v,F,⟨gm,hgm⟩,kF,x,rfl,hP⟩:=Uh (h.kp (kD.trans kE)) hw hs (w0.kp kE) (w1.kp kE) (w2.kp kE) w3 (hm E (kD.trans kE));refine⟨_,F,?_,(kD.trans kE).trans kF,x,hP,rfl⟩;cases is with
 |true=>
  simp only [if_true];refine aT (aB Tryz.func37) (c:=Tryz.f37.body.getD .skip) (by kernel_rfl) (by rw [Tryz.ntmps37];simp) (by kernel_rfl) (by kernel_rfl) ?_;apply W.a6 (gd+gs+gm) 60
  ·intro M hM;simp (config:={maxSteps:=4000000}) (disch:=first|decide+kernel|omega|simp only [Wq,X2]) only [Tryz.f37,Aq,X5,reduceIte,X2,X3,aV,cE,ec,dx,hk,n1,n2,hD,l0,br,e44,hgd,l1,hgs,X8,X7,gN,n3,sE,aS,hgm];rfl
  exact⟨by simp,rfl,rfl,by simp only [Tryz.f37,Aq,X5,reduceIte,X2,X3,aV,cE,ec,dx,hk,n1,n2,hD,l0,br,e44,hgd,l1,hgs,X8,X7,gN,n3,sE,aS,hgm]<;>rfl⟩
 |false=>
  simp only [Yj,if_false];refine aT (aB Tryz.func37) (c:=Tryz.f37.body.getD .skip) (by kernel_rfl) (by rw [Tryz.ntmps37];simp) (by kernel_rfl) (by kernel_rfl) ?_;apply W.a6 (gd+gs+gm) 60
  ·intro M hM;simp (config:={maxSteps:=4000000}) (disch:=first|decide+kernel|omega|simp only [Wq,X2]) only [Tryz.f37,Aq,X5,reduceIte,X2,X3,aV,cE,ec,dx,hk,n1,n2,hD,l0,br,e44,hgd,l1,hgs,X8,X7,gN,n3,sE,aS,hgm];rfl
  exact⟨by simp,rfl,rfl,by simp only [Tryz.f37,Aq,X5,reduceIte,X2,X3,aV,cE,ec,dx,hk,n1,n2,hD,l0,br,e44,hgd,l1,hgs,X8,X7,gN,n3,sE,aS,hgm]<;>rfl⟩
def vX (n:Nat) (l:List aP):Nat×Nat×Nat:=(n,l.length,(crc.aK (ez l)).length)
theorem LP {s:List UInt8} {l:List aP} (h:fT A p fs) (hn:1≤n∧n≤6) (hw:fileOf fs (mh n)=some s) (hl:Ft l) (hs:s.length=(crc.aK (ez l)).length) (is:Bool) (hi:if is then s=crc.aK (ez l) else(crc.dN s).2=false):
 ∃v E,bL ai 13 [.pointer (some ⟨p,0,none⟩),.agg ⟨dw (vX n l)⟩] A v E∧Kp A E∧∃x,(is=true→jz E l x)∧v=(if is then .tuple ⟨[x,.int .i64 (0:Nat)]⟩ else .tuple ⟨[.pointer none,.int .i64 (12:Nat)]⟩):=by
 have kB:=Kp.alloc A (aa 58 (dw (vX n l)));have vB:=aF A 58 (dw (vX n l));have hlen:=lu (ez l);have hdl:(ez l).length<800000:=hl.2.2.2.2.2.2.2.2;generalize hB:A.alloc (aa 58 (dw (vX n l)))=B at kB vB;have l0:aq ai B.get 3 (.pointer (some ⟨A.next,0,none⟩))= .ok (.int .i64 n):=vB.ld rfl u3 rfl;have kn:=fun ih A=>(U3 (ih:=ih) (A:=A) hn).1
 obtain⟨v,E,⟨g,hg⟩,kE,x,hx,rfl⟩:=T_ (q:=A.next) (n:=.func (.func 38) ⟨[]⟩ ⟨[]⟩) (is:=is) (P:=fun E x=>is=true→jz E l x) (h.kp kB) hw (by omega) (fun D kD=>by
  cases is with
  |true=>
   obtain rfl:s=crc.aK (ez l):=hi;obtain⟨v,E,h1,h2,x,h3,h4⟩:=T5 (A:=D) (n:=.int .i64 n) hl (vB.kp kD);exact⟨v,E,h1,h2,x,h3,fun _=>h4⟩
  |false=>
   obtain⟨v,E,h1,h2,h3⟩:=GA (A:=D) (n:=.int .i64 n) (m:=.int .i64 l.length) (by omega) hi (by rw [hs];exact vB.kp kD);exact⟨v,E,h1,h3,_,h2,fun h=>by cases h⟩)
 refine⟨_,E,?_,kB.trans kE,x,hx,rfl⟩;cases is with
 |true=>
  simp only [if_true] at hg⊢;refine aT (aB Tryz.func13) (c:=Tryz.f13.body.getD .skip) (by kernel_rfl) (by rw [Tryz.ntmps13];simp) (by kernel_rfl) (by kernel_rfl) ?_;apply W.a6 (g) 60
  ·intro M hM;simp (disch:=first|decide+kernel|omega) only [Tryz.f13,Aq,X2,aV,au,hB,aS,sr,l0,kn,mr,hg,X8,X7];rfl
  exact⟨by simp,rfl,rfl,by simp only [Tryz.f13,Aq,X2,aV,au,hB,aS,sr,l0,kn,mr,hg,X8,X7]<;>rfl⟩
 |false=>
  simp only [Yj,if_false] at hg⊢;refine aT (aB Tryz.func13) (c:=Tryz.f13.body.getD .skip) (by kernel_rfl) (by rw [Tryz.ntmps13];simp) (by kernel_rfl) (by kernel_rfl) ?_;apply W.a6 (g) 60
  ·intro M hM;simp (disch:=first|decide+kernel|omega) only [Tryz.f13,Aq,X2,aV,au,hB,aS,sr,l0,kn,mr,hg,X8,X7];rfl
  exact⟨by simp,rfl,rfl,by simp only [Tryz.f13,Aq,X2,aV,au,hB,aS,sr,l0,kn,mr,hg,X8,X7]<;>rfl⟩
theorem H8:aY ai 117= .ok 1:=by kernel_rfl
theorem Ub:aY ai 41= .ok 1:=by kernel_rfl
theorem s3:aY ai 3= .ok 1:=by kernel_rfl
theorem XF:ai.bp 41=some (.int .i64):=by kernel_rfl
theorem Qc:b7 ai 117= .ok (.slice none 0 0):=by kernel_rfl
theorem GC:b7 ai 41= .ok (.int .i64 (0:Nat)):=by kernel_rfl
theorem Vb:b7 ai 3= .ok (.int .i64 (0:Nat)):=by kernel_rfl
theorem H4:b7 ai 183= .ok (.agg ⟨[.int .u64 (0:Nat),.int .i64 (0:Nat),.int .i64 (0:Nat)]⟩):=by kernel_rfl
theorem WC:aY ai 183= .ok 3:=by kernel_rfl
theorem LY:ax ai 183 (pw b 0) 0= .ok (pw b 0):=by kernel_rfl
theorem Tb:ax ai 183 (pw b 0) 1= .ok (pw b 1):=by kernel_rfl
theorem Mu:ax ai 183 (pw b 0) 2= .ok (pw b 2):=by kernel_rfl
theorem Vq {a b c:Int}:cr ai 183 [(0,.int .u64 a),(1,.int .i64 b),(2,.int .i64 c)]= .ok (.agg ⟨[.int .u64 a,.int .i64 b,.int .i64 c]⟩):=by kernel_rfl
theorem I8 {a:Int}:bc ai 117 1 [(0,.int .u64 a)]= .ok (aa 103 [.int .u64 a],.m_ 1 2):=by kernel_rfl
noncomputable def y_:Code:=qbE.body.getD .skip
theorem S0:qbE.body=some (.seq (sub y_ [0]) (.seq (sub y_ [1,0]) (.seq (.seq (sub y_ [1,1,0,0]) (sub y_ [1,1,0,1])) (.seq (sub y_ [1,1,1,0]) (sub y_ [1,1,1,1]))))):=by kernel_rfl
noncomputable def gT (t0:T Value) (d:Nat):gI:=oP t0 37 [16] (sub y_ [1,1,0,1,0,0]) (sub y_ [1,1,0,1,0,1]) d
theorem TZ:sub y_ [1,1,0,1]= .block 0 (.rangeFunc (.tmp 15) #[16] (sub y_ [1,1,0,1,0,0]) (sub y_ [1,1,0,1,0,1])):=by kernel_rfl
def SV (q lp:Nat) (t0:T Value) (l:List Nat) (B:Mem) (i:Nat) (C:Mem):Prop:=∃b x,VB C 117 (q+1) (.var 1) [x]∧az C 103 1 b ((l.take i).map jo) x∧(i=0→x= .slice none 0 0)∧B.next≤b∧
 C.get (lp+1)=some (.loop (gT t0 lp))∧B.next≤C.next
variable {B:Mem}
theorem MS {lp nx : Nat} {t0 : T Value} {l : List Nat} (hlp : q + 3 < lp) (hlB : lp + 1 < B.next) (h0 : Sl t0 [(5, pV q), (6, pV (q + 1)), (7, pV (q + 2)), (8, pV (q + 3))]) (hm : VB C 3 q (.var 1) [.int .i64 l.length])
    (hv2 : ∃ v, VB C 3 (q + 2) (.var 1) [v]) (hv3 : ∃ v, VB C 41 (q + 3) (.var 1) [v]) (hn : l[i]? = some n) (hll : l.length < 10000) (hI : SV q lp t0 l B i C) :
    ∃ C', (∃ g, ∀ M, g ≤ M → bg ai (exec ai M) (.round (lp + 1) [.agg ⟨[.int .u64 n, .int .i64 nx, .int .i64 (0 : Nat)]⟩]) C = .ok (.val (.bool (decide (i + 1 ≠ l.length))) C')) ∧
      ((i + 1 ≠ l.length → SV q lp t0 l B (i + 1) C' ∧ ∀ z, z < B.next → z ≠ q + 1 → z ≠ lp + 1 → C'.get z = C.get z) ∧
       (i + 1 = l.length → ∃ b x r, VB C' 117 (q + 1) (.var 1) [x] ∧ az C' 103 1 b (l.map jo) x ∧ B.next ≤ b ∧ VB C' 3 (q + 2) (.var 1) [.int .i64 nx] ∧ VB C' 41 (q + 3) (.var 1) [.int .i64 (0 : Nat)] ∧ C'.get (lp + 1) = some (.loop r) ∧ r.state ≠ .busy ∧ r.pending = some .ret ∧ B.next ≤ C'.next ∧
         ∀ z, z < B.next → z ≠ q + 1 → z ≠ q + 2 → z ≠ q + 3 → z ≠ lp + 1 → C'.get z = C.get z)) := by
  obtain ⟨b, x, hV, hS, hx0, hb, hL, hBn⟩ := hI
  obtain ⟨g5, g6, g7, g8, -⟩ := h0
  obtain ⟨hil, hnl⟩ := X_.1 hn
  have htk : l.take (i + 1) = l.take i ++ [n] := by rw [Yd hil, hnl]
  have sD : aW ai (C.alloc (aa 183 [.int .u64 (0 : Nat), .int .i64 (0 : Nat), .int .i64 (0 : Nat)])) 183 (pw C.next 0) (.agg ⟨[.int .u64 n, .int .i64 nx, .int .i64 (0 : Nat)]⟩) = .ok (C.alloc (aa 183 [.int .u64 n, .int .i64 nx, .int .i64 (0 : Nat)])) := bn WC rfl rfl (by simp) (by simp [aJ])
  have kD := Kp.alloc C (aa 183 [.int .u64 n, .int .i64 nx, .int .i64 (0 : Nat)])
  have vD := aF C 183 [.int .u64 n, .int .i64 nx, .int .i64 (0 : Nat)]
  have nD : (C.alloc (aa 183 [.int .u64 n, .int .i64 nx, .int .i64 (0 : Nat)])).next = C.next + 1 := ae _ _
  generalize hD : C.alloc (aa 183 [.int .u64 n, .int .i64 nx, .int .i64 (0 : Nat)]) = D at sD kD vD nD
  have hLD : D.get (lp + 1) = some (.loop (gT t0 lp)) := by rw [kD.2 _ (by omega)]; exact hL
  generalize hE : D.set (lp + 1) (.loop { gT t0 lp with state := .busy }) = E
  have nE : E.next = D.next := by rw [← hE]; exact aX _ _ _
  have fE : ∀ z, z ≠ lp + 1 → E.get z = D.get z := fun z hz => by rw [← hE, aL, if_neg hz]
  have hLE : E.get (lp + 1) = some (.loop { gT t0 lp with state := .busy }) := by rw [← hE, aL, if_pos rfl]
  have fCE : ∀ z, z < C.next → z ≠ lp + 1 → E.get z = C.get z := fun z hz h => by rw [fE z h, kD.2 z hz]
  have vE : VB E 183 C.next (.var 3) [.int .u64 n, .int .i64 nx, .int .i64 (0 : Nat)] := ⟨by omega, vD.2.same (fE _ (by omega))⟩
  have le : aq ai E.get 41 (pw C.next 2) = .ok (.int .i64 (0 : Nat)) := vE.ld rfl XF rfl
  have ln : aq ai E.get 103 (pw C.next 0) = .ok (.int .u64 n) := vE.ld rfl ff rfl
  have hVE : VB E 117 (q + 1) (.var 1) [x] := ⟨by have := hV.1; omega, hV.2.same (fCE _ hV.1 (by omega))⟩
  have lx : aq ai E.get 117 (pw (q + 1) 0) = .ok x := hVE.ld rfl pL rfl
  have hSE : az E 103 1 b ((l.take i).map jo) x := az.fA hS (fun h => hx0 (by
    have := congrArg ZD h
    rw [Yb, Yo, Ys] at this
    omega)) (by omega) fun _ hlt => fCE b hlt (by omega)
  have hbx : ∃ b2, az E 103 1 b2 ((l.take i).map jo) x ∧ b2 ≠ C.next ∧ B.next ≤ b2 := by
    rcases hSE with ⟨h1, h2⟩ | h
    · exact ⟨E.next, .inl ⟨h1, h2⟩, by omega, by omega⟩
    · refine ⟨b, .inr h, ?_, hb⟩
      obtain ⟨_, _, e1, -⟩ := h
      rcases hS with ⟨q1, -⟩ | ⟨_, _, -, q2, -⟩
      · rw [q1] at e1; cases e1
      · omega
  obtain ⟨b2, hSE2, hb2, hb3⟩ := hbx
  obtain ⟨x', F, b', happ, hS', hn', hb', hf'⟩ := El (nl := [n]) hSE2 (by rw [Yo]; simp; omega) (by simp)
  have happ' : bk ai (E.alloc (aa 103 [.int .u64 n])) 117 117 x (.slice (some ⟨E.next, 0, none⟩) 1 2) = .ok (x', F) := happ
  rw [← htk] at hS'
  have hV1 := hV.1
  obtain ⟨G, sG, vG, nG, fG⟩ := a_ (tb := ai) (t := 117) (o := 0) (v := x') H8 (hVE.2.same (hf' _ (by omega) (by omega))) (by simp) (az.dm hS').1 (az.dm hS').2
  have VG : VB G 117 (q + 1) (.var 1) [x'] := ⟨by omega, vG⟩
  have lxG : aq ai G.get 117 (pw (q + 1) 0) = .ok x' := VG.ld rfl pL rfl
  have hSG : az G 103 1 b' ((l.take (i + 1)).map jo) x' := hS'.same (by omega) fun _ => fG b' (by omega)
  have lenG := oN.len ⟨b', hSG⟩
  rw [Yo, Y4 (by omega)] at lenG
  have fGB : ∀ z, z < B.next → z ≠ q + 1 → z ≠ lp + 1 → G.get z = C.get z := fun z hz h1 h2 => by rw [fG z h1, hf' z (by omega) (by omega), fCE z (by omega) h2]
  have lm : aq ai G.get 3 (pw q 0) = .ok (.int .i64 l.length) := VB.ld (tb := ai) ⟨by omega, hm.2.same (fGB q (by omega) (by omega) (by omega))⟩ rfl u3 rfl
  have hLG : G.get (lp + 1) = some (.loop { gT t0 lp with state := .busy }) := by rw [fG _ (by omega), hf' _ (by omega) (by omega)]; exact hLE
  simp only [pV] at g5 g6 g7 g8
  by_cases hlast : i + 1 = l.length
  · rw [decide_eq_false (by simpa using hlast)]
    obtain ⟨v2, hv2⟩ := hv2
    obtain ⟨v3, hv3⟩ := hv3
    have vnx : aq ai G.get 3 (pw C.next 1) = .ok (.int .i64 nx) := VB.ld (tb := ai) ⟨by omega, vE.2.same (by rw [fG C.next (by omega), hf' C.next (by omega) (by omega)])⟩ rfl u3 rfl
    obtain ⟨H, sH, vH, nH, fH⟩ := a_ (tb := ai) (t := 117) (o := 0) (v := x') H8 vG (by simp) (az.dm hS').1 (az.dm hS').2
    have vnxH : aq ai H.get 3 (pw C.next 1) = .ok (.int .i64 nx) := VB.ld (tb := ai) ⟨by omega, vE.2.same (by rw [fH C.next (by omega), fG C.next (by omega), hf' C.next (by omega) (by omega)])⟩ rfl u3 rfl
    have snx := eg .i64 nx rfl
    obtain ⟨I, sI, vI, nI, fI⟩ := a_ (tb := ai) (t := 3) (o := 0) (v := .int .i64 nx) s3 (hv2.2.same (A' := H) (by rw [fH _ (by omega), fGB _ (by omega) (by omega) (by omega)])) (by simp) rfl rfl
    obtain ⟨J, sJ, vJ, nJ, fJ⟩ := a_ (tb := ai) (t := 41) (o := 0) (v := .int .i64 (0 : Nat)) Ub (hv3.2.same (A' := I) (by rw [fI _ (by omega), fH _ (by omega), fGB _ (by omega) (by omega) (by omega)])) (by simp) rfl rfl
    have hq : ∃ C', (∃ g, ∀ M, g ≤ M → bg ai (exec ai M) (.round (lp + 1) [.agg ⟨[.int .u64 n, .int .i64 nx, .int .i64 (0 : Nat)]⟩]) C = .ok (.val (.bool false) C')) ∧ ∃ r : gI, r.state = .done ∧ r.pending = some .ret ∧ C' = J.set (lp + 1) (.loop r) := by
      refine K5 hL (t := t0.set 16 (.agg ⟨[.int .u64 n, .int .i64 nx, .int .i64 (0 : Nat)]⟩)) rfl ?_
      show W ai (sub y_ [1,1,0,1,0,0]) ⟨_, 37, [], C, some (lp + 1)⟩ _
      apply W.run 20
      · intro M
        simp (disch := first | decide +kernel | omega) only [y_, qbE, Aq, X2, H4, au, sD]
        rfl
      refine ⟨rfl, _, hLD, rfl, ?_⟩
      show W ai (sub y_ [1,1,0,1,0,1]) ⟨_, 37, [], D.set (lp + 1) (.loop { gT t0 lp with state := .busy }), some (lp + 1)⟩ _
      rw [hE]
      apply W.run 20
      · intro M
        simp (config := { maxSteps := 4000000 }) (disch := first | decide +kernel | omega | simp only [Wq, X2]) only [y_, qbE, Aq, X5, reduceIte, X2, X3, g5, g6, g7, g8, LY, Tb, Mu, le, ln, lx, I8, happ', sG, lxG, lenG, lm, hlast, vnx, sH, vnxH, snx, sI, sJ, Fq, aC [(2, 3)]]
        rfl
      exact ⟨rfl, rfl, _, by show J.get (lp + 1) = _; rw [fJ _ (by omega), fI _ (by omega), fH _ (by omega)]; exact hLG, _, rfl, rfl, rfl⟩
    obtain ⟨C', hc, r, hr1, hr2, rfl⟩ := hq
    have fr : ∀ z, z ≠ lp + 1 → (J.set (lp + 1) (.loop r)).get z = J.get z := fun z hz => by rw [aL, if_neg hz]
    have nr : (J.set (lp + 1) (.loop r)).next = J.next := aX _ _ _
    refine ⟨_, hc, fun h => absurd hlast h, fun _ => ⟨b', x', r, ⟨by omega, vH.same (by rw [fr _ (by omega), fJ _ (by omega), fI _ (by omega)])⟩, ?_, by omega, ⟨by omega, vI.same (by rw [fr _ (by omega), fJ _ (by omega)])⟩, ⟨by omega, vJ.same (fr _ (by omega))⟩, by rw [aL, if_pos rfl], by rw [hr1]; simp, hr2, by omega, fun z hz h1 h2 h3 h4 => ?_⟩⟩
    · rw [hlast, Yw] at hSG
      exact hSG.same (by omega) fun _ => by rw [fr _ (by omega), fJ _ (by omega), fI _ (by omega), fH _ (by omega)]
    · rw [fr z h4, fJ z h3, fI z h2, fH z h1, fGB z hz h1 h4]
  · rw [decide_eq_true hlast]
    have hq : ∃ C', (∃ g, ∀ M, g ≤ M → bg ai (exec ai M) (.round (lp + 1) [.agg ⟨[.int .u64 n, .int .i64 nx, .int .i64 (0 : Nat)]⟩]) C = .ok (.val (.bool true) C')) ∧ C' = G.set (lp + 1) (.loop (gT t0 lp)) := by
      refine mI hL (t := t0.set 16 (.agg ⟨[.int .u64 n, .int .i64 nx, .int .i64 (0 : Nat)]⟩)) rfl ?_
      show W ai (sub y_ [1,1,0,1,0,0]) ⟨_, 37, [], C, some (lp + 1)⟩ _
      apply W.run 20
      · intro M
        simp (disch := first | decide +kernel | omega) only [y_, qbE, Aq, X2, H4, au, sD]
        rfl
      refine ⟨rfl, _, hLD, rfl, ?_⟩
      show W ai (sub y_ [1,1,0,1,0,1]) ⟨_, 37, [], D.set (lp + 1) (.loop { gT t0 lp with state := .busy }), some (lp + 1)⟩ _
      rw [hE]
      apply W.run 20
      · intro M
        simp (disch := first | decide +kernel | omega) only [y_, qbE, Aq, X2, g5, g6, LY, Mu, le, ln, lx, I8, happ', sG, lxG, lenG, lm, hlast]
        rfl
      exact ⟨rfl, rfl, _, hLG, rfl⟩
    obtain ⟨C', hc, rfl⟩ := hq
    have fr : ∀ z, z ≠ lp + 1 → (G.set (lp + 1) (.loop (gT t0 lp))).get z = G.get z := fun z hz => by rw [aL, if_neg hz]
    have nr : (G.set (lp + 1) (.loop (gT t0 lp))).next = G.next := aX _ _ _
    exact ⟨_, hc, fun _ => ⟨⟨b', x', ⟨by omega, vG.same (fr _ (by omega))⟩, hSG.same (by omega) fun _ => fr _ (by omega), fun h => by omega, by omega, by rw [aL, if_pos rfl], by omega⟩, fun z hz h1 h4 => by rw [fr z h4, fGB z hz h1 h4]⟩, fun h => absurd h hlast⟩
noncomputable def LG:Code:=qci.body.getD .skip
noncomputable def mZ:Code:=sub LG [0,0]
theorem PX:qci.body=some (.block 0 (.loop mZ)):=by kernel_rfl
theorem Ld:mZ= .block 1 (.seq (sub mZ [0,0]) (.seq (sub mZ [0,1,0]) (sub mZ [0,1,1]))):=by kernel_rfl
variable {r:List UInt8}
theorem OL {lp a:Nat} {t0:T Value} {l:List Nat} {s:List UInt8} (hq:q+6=lp) (hlB:B.next=lp+2) (h0:Sl t0 [(5,pV q),(6,pV (q+1)),(7,pV (q+2)),(8,pV (q+3))]) (hL:B.get (lp+1)=some (.loop (gT t0 lp)))
 (v0:VB B 3 q (.var 1) [.int .i64 l.length]) (v1:VB B 117 (q+1) (.var 1) [.slice none 0 0]) (v2:VB B 3 (q+2) (.var 1) [.int .i64 (0:Nat)]) (v3:VB B 41 (q+3) (.var 1) [.int .i64 (0:Nat)]) (v4:VB B 9 (q+4) (.var 1) [strOf s]) (v5:VB B 3 (q+5) (.var 1) [.int .i64 a])
 (hd:s.drop a=bT l++r) (hl0:l≠ []) (hll:l.length<10000) (hw:∀n∈l,n<18446744073709551616) (hs:s.length<900000):
 ∃v C,bL ai 159 [.func (.yield (lp+1)) ⟨[]⟩ ⟨[]⟩,pV (q+4),pV (q+5)] B v C∧∃b x rr,VB C 117 (q+1) (.var 1) [x]∧az C 103 1 b (l.map jo) x∧B.next≤b∧VB C 3 (q+2) (.var 1) [.int .i64 (a+(bT l).length:Nat)]∧VB C 41 (q+3) (.var 1) [.int .i64 (0:Nat)]∧
  C.get (lp+1)=some (.loop rr)∧rr.state≠ .busy∧rr.pending=some .ret∧B.next≤C.next∧∀z,z<q∨z=lp→C.get z=B.get z:=by
 refine eE (aB Tryz.func159) PX (by rw [Tryz.ntmps159];simp) (by kernel_rfl) (by kernel_rfl) ?_;apply W.block;refine W.up l.length (fun i t C=>i<l.length∧SV q lp t0 l B i C∧VB C 3 q (.var 1) [.int .i64 l.length]∧(∃v,VB C 3 (q+2) (.var 1) [v])∧(∃v,VB C 41 (q+3) (.var 1) [v])∧VB C 9 (q+4) (.var 1) [strOf s]∧VB C 3 (q+5) (.var 1) [.int .i64 ((a+(bT (l.take i)).length:Nat):Int)]∧
  (∀z,z<q∨z=lp→C.get z=B.get z)∧Sl t [(0,.func (.yield (lp+1)) ⟨[]⟩ ⟨[]⟩),(1,pV (q+4)),(2,pV (q+5))]) ?_ (Yg _) ⟨YM.2 hl0,⟨B.next,_,v1,.inl ⟨rfl,rfl⟩,fun _=>rfl,X9 _,hL,X9 _⟩,v0,⟨_,v2⟩,⟨_,v3⟩,v4,by simpa [bT] using v5,fun _ _=>rfl,?_⟩
 ·rintro i t C-⟨hi,hI,w0,w2,w3,w4,w5,hf,g0,g1,g2,-⟩;have hbn:B.next≤C.next:=by obtain⟨_,_,-,-,-,-,-,h⟩:=hI;exact h
  have hli:l[i]?=some l[i]:=X6 hi;generalize l[i]=n at hli;have hn:n<18446744073709551616:=hw n (YF hli);obtain⟨hi',hil⟩:=X_.1 hli;have htk:l.take (i+1)=l.take i++[n]:=by rw [Yd hi',hil]
  have e1:bT l=bT (l.take i)++bT (l.drop i):=by unfold bT;rw [←ZQ,qbp]
  have e2:bT (l.drop i)=bH n++bT (l.drop (i+1)):=by rw [Y3 hi',hil];rfl
  have e3:bT (l.take (i+1))=bT (l.take i)++bH n:=by unfold bT;rw [htk,ZQ];simp
  have hdi:s.drop (a+(bT (l.take i)).length)=bH n++(bT (l.drop (i+1))++r):=by rw [←qa0,hd,e1,Y1,qcg,e2,Y1]
  obtain⟨hg,-,hle⟩:=jn hn hdi;rw [qaO,←X',←e3] at hg hle;have kg:=fun ih=>WX (ih:=ih) (A:=C) (s:=s) (a:=a+(bT (l.take i)).length) (by omega) (by rw [e3,X'] at hle;omega)
  rw [hg,vu] at kg;have l4:aq ai C.get 9 (pw (q+4) 0)= .ok (strOf s):=w4.ld rfl u9 rfl;have l5:aq ai C.get 3 (pw (q+5) 0)= .ok (.int .i64 ((a+(bT (l.take i)).length:Nat):Int)):=w5.ld rfl u3 rfl;obtain⟨D,⟨gy,hy⟩,hgo,hend⟩:=MS (nx:=a+(bT (l.take (i+1))).length) (by omega) (by omega) h0 w0 w2 w3 hli hll hI;have hb:=Vq (a:=(n:Int)) (b:=((a+(bT (l.take (i+1))).length:Nat):Int)) (c:=((0:Nat):Int));simp only [pV] at g1 g2;rw [Ld];apply W.block;apply W.seq;apply W.run 20
  ·intro M;simp (config:={maxSteps:=4000000}) (disch:=first|decide+kernel|omega|simp only [Wq,X2]) only [mZ,LG,qci,Aq,X5,reduceIte,X2,X3,g1,g2,l4,l5,kg,X8,X7];rfl
  apply W.seq;by_cases hlast:i+1=l.length
  ·rw [decide_eq_false (by simpa using hlast)] at hy;obtain⟨b,x,rr,r1,r2,r3,r4,r5,r6,r7,r8,r9,r10⟩:=hend hlast;rw [hlast,Yw] at r4;apply W.a6 (gy) 20
   ·intro M hM;simp (config:={maxSteps:=4000000}) (disch:=first|decide+kernel|omega|simp only [Wq,X2]) only [mZ,LG,qci,Aq,X5,reduceIte,X2,X3,g0,hb,hy];rfl
   exact⟨by simp,_,[],rfl,rfl,b,x,rr,r1,r2,r3,r4,r5,r6,r7,r8,r9,fun z hz=>by rw [r10 z (by omega) (by omega) (by omega) (by omega) (by omega),hf z hz]⟩
  ·rw [decide_eq_true hlast] at hy;obtain⟨hI',hf'⟩:=hgo hlast;have hn':B.next≤D.next:=by obtain⟨_,_,-,-,-,-,-,h⟩:=hI';exact h
   have fD:∀z,z<B.next→z≠q+1→z≠lp+1→D.get z=C.get z:=hf'
   obtain⟨E,sE,vE,nE,fE⟩:=a_ (tb:=ai) (t:=3) (o:=0) (v:=.int .i64 ((a+(bT (l.take (i+1))).length:Nat):Int)) s3 (w5.2.same (fD _ (by omega) (by omega) (by omega))) (by simp) rfl rfl;have fEC:∀z,z<B.next→z≠q+1→z≠lp+1→z≠q+5→E.get z=C.get z:=fun z a b c d=>by rw [fE z d,fD z a b c]
   have vb:∀{ty z:Nat} {k:Kd} {vs:List Value},z<B.next→z≠q+1→z≠lp+1→z≠q+5→VB C ty z k vs→VB E ty z k vs:=fun a b c d h=>⟨by omega,h.2.same (fEC _ a b c d)⟩
   apply W.a6 (gy) 20
   ·intro M hM;simp (config:={maxSteps:=4000000}) (disch:=first|decide+kernel|omega|simp only [Wq,X2]) only [mZ,LG,qci,Aq,X5,reduceIte,X2,X3,g0,hb,hy];rfl
   apply W.run 20
   ·intro M;simp (disch:=first|decide+kernel|omega) only [mZ,LG,qci,Aq,X2,g2,sE];rfl
   obtain⟨v2,w2⟩:=w2;obtain⟨v3,w3⟩:=w3;obtain⟨b,x,i1,i2,i3,i4,i5,i6⟩:=hI';refine⟨hi,_,_,rfl,by omega,⟨b,x,⟨by omega,i1.2.same (fE _ (by omega))⟩,i2.same (by omega) fun _=>fE _ (by omega),i3,i4,by rw [fE _ (by omega)];exact i5,by omega⟩,vb (by omega) (by omega) (by omega) (by omega) w0,⟨v2,vb (by omega) (by omega) (by omega) (by omega) w2⟩,⟨v3,vb (by omega) (by omega) (by omega) (by omega) w3⟩,vb (by omega) (by omega) (by omega) (by omega) w4,⟨by omega,vE⟩,fun z hz=>by rw [fEC z (by omega) (by omega) (by omega) (by omega),hf z hz],?_⟩;simp only [av,aw,T.af,T.ag,T.ak,X2,X3,if_true,if_false,and_true,true_and,g0,g1,g2,pV]
 ·simp only [av,aw,T.af,T.ag,T.ak,X2,X3,if_true,if_false,and_true,true_and,pV]
theorem Jk {s:List UInt8} {a:Nat} {l:List Nat} (hd:s.drop a=bT l++r) (hl0:l≠ []) (hll:l.length<10000) (hw:∀n∈l,n<18446744073709551616) (hs:s.length<900000):
 ∃v A',bL ai 70 [strOf s,.int .i64 a,.int .i64 l.length] A v A'∧Kp A A'∧∃x,v= .tuple ⟨[x,.int .i64 (a+(bT l).length:Nat),.int .i64 (0:Nat)]⟩∧oN A' l x:=by
 obtain⟨v,A',hA,hk,x,hv,hx⟩:∃v A',bL ai 70 [strOf s,.int .i64 a,.int .i64 l.length] A v A'∧(Kp A A'∧∃x,v= .tuple ⟨[x,.int .i64 (a+(bT l).length:Nat),.int .i64 (0:Nat)]⟩∧oN A' l x):=by
  refine eE (aB Tryz.func70) S0 (by rw [Tryz.ntmps70];simp) (by kernel_rfl) (by kernel_rfl) ?_;generalize hq:A.next=q
  have n1:(A.alloc (aa 3 [.int .i64 l.length])).next=q+1:=by rw [ae,hq]
  have n2:((A.alloc (aa 3 [.int .i64 l.length])).alloc (aa 117 [.slice none 0 0])).next=q+2:=by rw [ae,n1]
  have n3:(((A.alloc (aa 3 [.int .i64 l.length])).alloc (aa 117 [.slice none 0 0])).alloc (aa 3 [.int .i64 (0:Nat)])).next=q+3:=by rw [ae,n2]
  have k1:=Kp.alloc A (aa 3 [.int .i64 l.length]);have k2:=Kp.alloc (A.alloc (aa 3 [.int .i64 l.length])) (aa 117 [.slice none 0 0]);have k3:=Kp.alloc ((A.alloc (aa 3 [.int .i64 l.length])).alloc (aa 117 [.slice none 0 0])) (aa 3 [.int .i64 (0:Nat)]);have k4:=Kp.alloc (((A.alloc (aa 3 [.int .i64 l.length])).alloc (aa 117 [.slice none 0 0])).alloc (aa 3 [.int .i64 (0:Nat)])) (aa 41 [.int .i64 (0:Nat)]);have v1:=(aF A 3 [.int .i64 l.length]).kp (k2.trans (k3.trans k4));have v2:=(aF (A.alloc (aa 3 [.int .i64 l.length])) 117 [.slice none 0 0]).kp (k3.trans k4);have v3:=(aF ((A.alloc (aa 3 [.int .i64 l.length])).alloc (aa 117 [.slice none 0 0])) 3 [.int .i64 (0:Nat)]).kp k4;have v4:=aF (((A.alloc (aa 3 [.int .i64 l.length])).alloc (aa 117 [.slice none 0 0])).alloc (aa 3 [.int .i64 (0:Nat)])) 41 [.int .i64 (0:Nat)];have kB:=k1.trans (k2.trans (k3.trans k4));have nB:((((A.alloc (aa 3 [.int .i64 l.length])).alloc (aa 117 [.slice none 0 0])).alloc (aa 3 [.int .i64 (0:Nat)])).alloc (aa 41 [.int .i64 (0:Nat)])).next=q+4:=by rw [ae,n3]
  rw [n1] at v2;rw [n2] at v3;rw [n3] at v4;rw [hq] at v1;apply W.seq;apply W.run 20
  ·intro M;simp (disch:=first|decide+kernel|omega) only [y_,qbE,Aq,X2,Qc,Vb,GC,n1,n2,n3,hq];rfl
  show W ai _ _ _;clear k1 k2 k3 k4 n1 n2 n3;generalize (((A.alloc (aa 3 [.int .i64 l.length])).alloc (aa 117 [.slice none 0 0])).alloc (aa 3 [.int .i64 (0:Nat)])).alloc (aa 41 [.int .i64 (0:Nat)])=B at*;have l1:aq ai B.get 3 (pw q 0)= .ok (.int .i64 l.length):=v1.ld rfl u3 rfl;have hl1:¬l.length<1:=by have:=YM.2 hl0;omega
  apply W.seq;apply W.run 20
  ·intro M;simp (disch:=first|decide+kernel|omega) only [y_,qbE,Aq,X2,l1,hl1];rfl
  show W ai _ _ _;have m1:(B.alloc (aa 9 [strOf s])).next=q+5:=by rw [ae,nB]
  have kC:=(Kp.alloc B (aa 9 [strOf s])).trans (Kp.alloc (B.alloc (aa 9 [strOf s])) (aa 3 [.int .i64 a]));have w1:=(aF B 9 [strOf s]).kp (Kp.alloc (B.alloc (aa 9 [strOf s])) (aa 3 [.int .i64 a]));have w2:=aF (B.alloc (aa 9 [strOf s])) 3 [.int .i64 a];have nC:((B.alloc (aa 9 [strOf s])).alloc (aa 3 [.int .i64 a])).next=q+6:=by rw [ae,m1]
  rw [m1] at w2;rw [nB] at w1;have h111:bL ai 111 [strOf s,.int .i64 a] B (.func (.func 159) ⟨[]⟩ ⟨[pw (q+4) 0,pw (q+5) 0]⟩) ((B.alloc (aa 9 [strOf s])).alloc (aa 3 [.int .i64 a])):=by
   refine aT (aB Tryz.func111) (c:=Tryz.f111.body.getD .skip) (by kernel_rfl) (by rw [Tryz.ntmps111];simp) (by kernel_rfl) (by kernel_rfl) ?_;apply W.run 60
   ·intro M;simp (disch:=first|decide+kernel|omega) only [Tryz.f111,Aq,X2,nB,m1,cE,aS];rfl
   exact⟨by simp,rfl,rfl,by simp only [Tryz.f111,Aq,X2,nB,m1,cE,aS]<;>rfl⟩
  generalize (B.alloc (aa 9 [strOf s])).alloc (aa 3 [.int .i64 a])=C at kC w1 w2 nC h111;obtain⟨g1,h1⟩:=h111;apply W.seq;apply W.seq;apply W.a6 (g1) 20
  ·intro M hM;simp (disch:=first|decide+kernel|omega) only [y_,qbE,Aq,X2,h1];rfl
  show W ai (sub y_ [1,1,0,1]) _ _;rw [TZ];apply W.block;generalize ht0:T.set _ _ _=t0;have hsl:Sl t0 [(5,pV q),(6,pV (q+1)),(7,pV (q+2)),(8,pV (q+3)),(15,.func (.func 159) ⟨[]⟩ ⟨[pV (q+4),pV (q+5)]⟩)]:=by rw [←ht0];simp only [av,aw,T.af,T.ag,T.ak,X2,X3,if_true,if_false,and_true,true_and,pV]
  obtain⟨g5,g6,g7,g8,g15,-⟩:=hsl;have kF:=(Kp.alloc C .defd).trans (Kp.alloc (C.alloc .defd) (.loop (gT t0 (q+6))));have nF1:(C.alloc .defd).next=q+7:=by rw [ae,nC]
  have nF:((C.alloc .defd).alloc (.loop (gT t0 (q+6)))).next=q+8:=by rw [ae,nF1]
  have hF1:((C.alloc .defd).alloc (.loop (gT t0 (q+6)))).get (q+7)=some (.loop (gT t0 (q+6))):=by have:=aD (C.alloc .defd) (.loop (gT t0 (q+6)));rwa [nF1] at this
  have hF2:((C.alloc .defd).alloc (.loop (gT t0 (q+6)))).get (q+6)=some .defd:=by
   rw [(Kp.alloc (C.alloc .defd) _).2 _ (by omega)];have:=aD C .defd;rwa [nC] at this
  have u1:=v1.kp (kC.trans kF);have u2:=v2.kp (kC.trans kF);have u3':=v3.kp (kC.trans kF);have u4':=v4.kp (kC.trans kF);have u5':=w1.kp kF;have u6':=w2.kp kF;have kAF:=kB.trans (kC.trans kF);generalize hF:(C.alloc .defd).alloc (.loop (gT t0 (q+6)))=F at*;obtain⟨v,G,hA,b,x,rr,r1,r2,r3,r4,r5,r6,r7,r8,r9,r10⟩:=OL (lp:=q+6) rfl (by omega) ⟨g5,g6,g7,g8,trivial⟩ hF1 u1 u2 u3' u4' u5' u6' hd hl0 hll hw hs;refine W.Hv (fid:=159) (first:=[]) (capt:=[pV (q+4),pV (q+5)]) (v:=v) (A':=G) (r:=rr) (e:=.ret) (by simp only [ev,g15]) (by rw [nC];show bL ai 159 _ ((C.alloc .defd).alloc (.loop (gT t0 (q+6)))) v G;rw [hF];exact hA) (by rw [nC];exact r6) r7 (.inr ⟨r8,rfl⟩) ?_;rw [nC];generalize hH:G.set (q+6+1) (.loop {rr with state:=.exhausted})=H;have nH:H.next=G.next:=by rw [←hH];exact aX _ _ _
  have fH:∀z,z≠q+7→H.get z=G.get z:=fun z hz=>by rw [←hH,aL,if_neg (by omega)]
  obtain⟨I,t1,t2,t3⟩:=iM [q+6] H (by simp) (fun d hd=>by
   rw [Y7] at hd;rw [hd,fH _ (by omega),r10 _ (.inr rfl),hF2])
  have fI:∀z,z≠q+6→z≠q+7→I.get z=G.get z:=fun z h1 h2=>by rw [t3 z (by simpa using h1),fH z h2]
  have m1:aq ai I.get 117 (pw (q+1) 0)= .ok x:=VB.ld (tb:=ai) ⟨by have:=r1.1;omega,r1.2.same (fI _ (by omega) (by omega))⟩ rfl pL rfl;have m2:aq ai I.get 3 (pw (q+2) 0)= .ok (.int .i64 (a+(bT l).length:Nat)):=VB.ld (tb:=ai) ⟨by have:=r1.1;omega,r4.2.same (fI _ (by omega) (by omega))⟩ rfl u3 rfl;have m3:aq ai I.get 41 (pw (q+3) 0)= .ok (.int .i64 (0:Nat)):=VB.ld (tb:=ai) ⟨by have:=r1.1;omega,r5.2.same (fI _ (by omega) (by omega))⟩ rfl XF rfl;simp only [pV] at g6 g7 g8;refine⟨.inr rfl,I,_,t1,(by simp only [qbE,g6,g7,g8,m1,m2,m3,Aq,X2]<;>rfl),⟨by omega,fun z hz=>?_⟩,x,rfl,b,?_⟩
  ·rw [fI z (by omega) (by omega),r10 z (.inl (by omega)),kAF.2 z hz]
  ·exact r2.same (by omega) fun _=>fI b (by omega) (by omega)
 exact⟨v,A',hA,hk,x,hv,hx⟩
theorem FL:ai.bp 188=some (.map 3 3):=by kernel_rfl
theorem Dg:ax ai 39 (pw b 0) 0= .ok (pw b 0):=by kernel_rfl
theorem DT:ax ai 39 (pw b 0) 1= .ok (pw b 1):=by kernel_rfl
theorem zg:ax ai 39 (pw b 0) 2= .ok (pw b 2):=by kernel_rfl
theorem xi:ax ai 39 (pw b 0) 3= .ok (pw b 3):=by kernel_rfl
theorem DF {a:Nat}:jc u6 (.int .i64 a) (.int .i64 b::l)=jc u6 (.int .i64 (min a b:Nat)) l:=by
 have e:jc u6 (.int .i64 a) (.int .i64 b::l)=jc u6 (.int .i64 (bif nu (b:Int) (a:Int) then(b:Int) else(a:Int))) l:=rfl;rw [e,iF];by_cases h:b<a
 ·rw [decide_eq_true (by omega),ZY (by omega)];rfl
 ·rw [decide_eq_false (by omega),Y4 (by omega)];rfl
theorem C5 {a:Nat}:jc uO (.int .i64 a) (.int .i64 b::l)=jc uO (.int .i64 (max a b:Nat)) l:=by
 have e:jc uO (.int .i64 a) (.int .i64 b::l)=jc uO (.int .i64 (bif nu (a:Int) (b:Int) then(b:Int) else(a:Int))) l:=rfl;rw [e,iF];by_cases h:a<b
 ·rw [decide_eq_true (by omega),qbG (by omega)];rfl
 ·rw [decide_eq_false (by omega),qcc (by omega)];rfl
theorem WM {ts:List TypeId} {a:Nat}:aO ai .min ts [.int .i64 a,.int .i64 b,.int .i64 c]= .ok (.int .i64 (min (min a b) c:Nat)):=by
 have e:aO ai .min ts [.int .i64 a,.int .i64 b,.int .i64 c]=jc u6 (.int .i64 a) [.int .i64 b,.int .i64 c]:=by cases ts<;>rfl
 rw [e,DF,DF];rfl
theorem Xs {ts:List TypeId} {a:Nat}:aO ai .max ts [.int .i64 a,.int .i64 b,.int .i64 c]= .ok (.int .i64 (max (max a b) c:Nat)):=by
 have e:aO ai .max ts [.int .i64 a,.int .i64 b,.int .i64 c]=jc uO (.int .i64 a) [.int .i64 b,.int .i64 c]:=by cases ts<;>rfl
 rw [e,C5,C5];rfl
def gh:List Nat→Nat→List MapEntry
 | [],_=>[]
 |n::ns,o=>⟨.int .i64 n,.int .i64 (1:Nat),o⟩::gh ns (o+1)
theorem tj (w:Nat):∀(ns:List Nat) (o j:Nat),w∉ns→findF (.int .i64 w) (gh ns o) j=some none
 | [],o,j,_=>rfl
 |n::ns,o,j,h=>by
  rw [Yp,not_or] at h;have hne:¬((w:Int)=(n:Int)):=by omega
  unfold gh findF;simp only [HO,hne,decide_false];exact tj w ns (o+1) (j+1) h.2
theorem vg (w:Nat):∀(ns:List Nat) (o:Nat),gh (ns++[w]) o=gh ns o++[⟨.int .i64 w,.int .i64 (1:Nat),o+ns.length⟩]
 | [],o=>rfl
 |n::ns,o=>by
  rw [YT,gh,vg w ns (o+1),gh,YT,Yf,show o+1+ns.length=o+(ns.length+1) by omega]
variable {mk:Nat}
theorem JJ {w:Nat} {ns:List Nat} (h:A.get mk=some (.map (gh ns 0) ns.length)) (hw:w∉ns):fx ai A.get 188 (.map (some mk)) (.int .i64 w) false= .ok (.int .i64 (0:Nat)):=by
 have hk:ei ai 3 (.int .i64 w)=true:=by unfold ei;rw [u3]
 unfold fx;simp only [FL,hk,cond_true,iB,h,R.aA,tj w ns 0 0 hw,gN];rfl
theorem OW {w:Nat} {ns:List Nat} (h:A.get mk=some (.map (gh ns 0) ns.length)) (hw:w∉ns):cF ai A 188 (.map (some mk)) (.int .i64 w) (.int .i64 (1:Nat))= .ok (A.set mk (.map (gh (ns++[w]) 0) (ns++[w]).length)):=by
 have hk:ei ai 3 (.int .i64 w)=true:=by unfold ei;rw [u3]
 unfold cF;simp only [FL,hk,cond_true,h,tj w ns 0 0 hw];rw [vg,Yy,X'];rfl
theorem Wd (v:VB A 188 b (.var 1) [.map (some mk)]):aq ai A.get 188 (pw b 0)= .ok (.map (some mk)):=v.ld rfl FL rfl
theorem Qn {D:Mem} {pm pr:Nat} {ns:List Nat} {m:iK} {x:Value} {s:Nat×Nat×Nat} (hm:D.get mk=some (.map (gh ns 0) ns.length)) (hml:mk<D.next) (hs:s.1∉ns) (hok:IZ m.next s) (v1:VB D 188 pm (.var 1) [.map (some mk)]) (v2:VB D 39 pr (.var 4) (bS x m)):
 ∃E,bL ai 114 [.agg ⟨dw s⟩,pw pm 0,pw pr 0] D (.bool false) E∧E.get mk=some (.map (gh (ns++[s.1]) 0) (ns++[s.1]).length)∧D.next≤E.next∧∀z,z<D.next→z≠mk→E.get z=D.get z:=by
 obtain⟨⟨o1,o2⟩,⟨o3,o4⟩,o5,o6⟩:=hok;have kE:=Kp.alloc D (aa 58 (dw s));have vE:=aF D 58 (dw s);have nE:(D.alloc (aa 58 (dw s))).next=D.next+1:=ae _ _
 generalize hEe:D.alloc (aa 58 (dw s))=E at kE vE nE;have hmE:E.get mk=some (.map (gh ns 0) ns.length):=by rw [kE.2 mk hml];exact hm
 have w1:=v1.kp kE;have w2:=v2.kp kE;have lk:=JJ hmE hs;have up:=OW hmE hs;generalize hF:E.set mk (.map (gh (ns++[s.1]) 0) (ns++[s.1]).length)=F at up;have nF:F.next=E.next:=by rw [←hF];exact aX _ _ _
 have fF:∀z,z≠mk→F.get z=E.get z:=fun z hz=>by rw [←hF,eB,if_neg hz]
 have l1:=Wd w1;have e0:aq ai E.get 3 (pw D.next 0)= .ok (.int .i64 s.1):=vE.ld rfl u3 rfl;have vF:=vE.2.same (fF _ (vE.zi hmE));have a0:aq ai F.get 3 (pw D.next 0)= .ok (.int .i64 s.1):=bf u3 rfl vF rfl;have a1:aq ai F.get 3 (pw D.next (0+1))= .ok (.int .i64 s.2.1):=bf u3 rfl vF rfl;have a2:aq ai F.get 3 (pw D.next (0+2))= .ok (.int .i64 s.2.2):=bf u3 rfl vF rfl;have a3:aq ai F.get 3 (pw pr 2)= .ok (.int .i64 m.next):=bf u3 rfl (w2.2.same (fF _ (w2.zi hmE))) rfl;have mn:=WM (ts:=[3,3,3]) (a:=s.1) (b:=s.2.1) (c:=s.2.2);have b1:¬min (min s.1 s.2.1) s.2.2<1:=by omega
 have b2:¬m.next≤s.1:=by omega
 have b3:¬100000<s.2.1:=by omega
 have b4:¬1000000000<s.2.2:=by omega
 refine⟨F,?_,by rw [←hF,eB,if_pos rfl],by omega,fun z hz h=>by rw [fF z h,kE.2 z hz]⟩;refine aT (aB Tryz.func114) (c:=Tryz.f114.body.getD .skip) (by kernel_rfl) (by rw [Tryz.ntmps114];simp) (by kernel_rfl) (by kernel_rfl) ?_;apply W.run 60
 ·intro M;simp (config:={maxSteps:=4000000}) (disch:=first|decide+kernel|omega|simp only [Wq,X2]) only [Tryz.f114,Aq,X5,reduceIte,X2,X3,au,hEe,sr,AM,vn,l1,e0,eO,lk,bR,bw,Zk,dL,up,a0,a1,a2,mn,b1,zg,a3,bO,bm,b2,b3,b4];rfl
 exact⟨by simp,rfl,rfl,by simp only [Tryz.f114,Aq,X5,reduceIte,X2,X3,au,hEe,sr,AM,vn,l1,e0,eO,lk,bR,bw,Zk,dL,up,a0,a1,a2,mn,b1,zg,a3,bO,bm,b2,b3,b4]<;>rfl⟩
noncomputable def xQ:Code:=qbv.body.getD .skip
noncomputable def Gq:Code:=sub xQ [1,0,1,0,0]
theorem PM:qbv.body=some (.seq (sub xQ [0]) (.seq (.seq (sub xQ [1,0,0]) (.block 0 (.loop Gq))) (.seq (sub xQ [1,1,0]) (sub xQ [1,1,1])))):=by kernel_rfl
theorem Qp {A0:Mem} {pm pr:Nat} {m:iK} {x x2:Value} (h:fg A0 m.segs x) (hm:oQ m) (hA:Kp A0 A) (hmk:A0.next≤mk) (hml:mk<A.next) (hg0:A.get mk=some (.map [] 0)) (v1:VB A 188 pm (.var 1) [.map (some mk)]) (v2:VB A 39 pr (.var 4) (bS x2 m)):
 ∃v A',bL ai 162 [x,.func (.func 114) ⟨[]⟩ ⟨[pw pm 0,pw pr 0]⟩] A v A'∧v= .int .i64 (-1)∧A.next≤A'.next∧∀z,z<A.next→z≠mk→A'.get z=A.get z:=by
 obtain⟨-,-,hl,hso,hnd⟩:=hm;refine cS (aB Tryz.func162) PM (by rw [Tryz.ntmps162];simp) (by kernel_rfl) (by kernel_rfl) ?_;have lx:=(h.kp hA).len;apply W.seq;apply W.run 20
 ·intro M;simp (disch:=first|decide+kernel|omega) only [xQ,qbv,Aq,X2];rfl
 apply W.seq;apply W.seq;apply W.run 20
 ·intro M;simp (disch:=first|decide+kernel|omega) only [xQ,qbv,Aq,X2,lx];rfl
 apply W.block;refine W.up m.segs.length (fun i t D=>D.get mk=some (.map (gh ((m.segs.take i).map (·.1)) 0) ((m.segs.take i).map (·.1)).length)∧A.next≤D.next∧(∀z,z<A.next→z≠mk→D.get z=A.get z)∧
  Sl t [(0,x),(1,.func (.func 114) ⟨[]⟩ ⟨[pw pm 0,pw pr 0]⟩),(7,.int .i64 m.segs.length),(8,.int .i64 i)]) ?_ (Yg _) ⟨hg0,X9 _,fun _ _ _=>rfl,?_⟩
 ·rintro i t D hi ⟨hg,hn,hf,g0,g1,g7,g8,-⟩;by_cases hlt:i<m.segs.length
  ·have hsi:m.segs[i]?=some m.segs[i]:=X6 hlt;have hok:=hso _ (YQ hlt);have htk:(m.segs.take (i+1)).map (·.1)=(m.segs.take i).map (·.1)++[(m.segs[i]).1]:=by rw [Yd hlt,YV];rfl
   have hnot:(m.segs[i]).1∉(m.segs.take i).map (·.1):=by
    have h1:((m.segs.take (i+1)).map (·.1)).Nodup:=by
     rw [List.map_take];exact(List.take_sublist _ _).nodup hnd
    rw [htk,qbo] at h1;exact fun hm=>h1.2.2 _ hm _ (List.mem_singleton_self _) rfl
   have kD:Kp A0 D:=⟨by have:=hA.1;omega,fun z hz=>by rw [hf z (by have:=hA.1;omega) (by omega),hA.2 z hz]⟩;obtain⟨b,o,j1,j2,-⟩:=(h.kp kD).at hsi;have keep:∀e z k l,VB A e z k l→VB D e z k l:=fun e z k l h=>⟨by have:=h.1;omega,h.2.same (hf z h.1 (h.zi hg0))⟩
   obtain⟨E,⟨g,hgg⟩,e1,e2,e3⟩:=Qn hg (by omega) hnot hok (keep _ _ _ _ v1) (keep _ _ _ _ v2);rw [←htk] at e1;apply W.a6 (g) 20
   ·intro M hM;simp (disch:=first|decide+kernel|omega) only [Gq,xQ,qbv,Aq,X2,g0,g1,g7,g8,hlt,j1,j2,hgg];rfl
   refine⟨hlt,_,_,rfl,e1,by omega,fun z hz h=>by rw [e3 z (by omega) h,hf z hz h],?_⟩;simp only [av,aw,T.af,T.ag,T.ak,X2,X3,if_true,if_false,and_true,true_and,g0,g1,g7]
  ·have e:i=m.segs.length:=by omega
   subst e;apply W.run 20
   ·intro M;simp (disch:=first|decide+kernel|omega) only [Gq,xQ,qbv,Aq,X2,g7,g8];rfl
   apply W.seq;apply W.run 20
   ·intro M;simp (disch:=first|decide+kernel|omega) only [xQ,qbv,Aq,X2,BP];rfl
   apply W.run 20
   ·intro M;simp (disch:=first|decide+kernel|omega) only [xQ,qbv,Aq,X2];rfl
   exact⟨by simp,rfl,_,(by simp only [qbv,Aq,X2]<;>rfl),rfl,hn,hf⟩
 ·simp only [av,aw,T.af,T.ag,T.ak,X2,X3,if_true,if_false,and_true,true_and]
theorem IF:b7 ai 188= .ok (.map none):=by kernel_rfl
theorem WQ:aY ai 188= .ok 1:=by kernel_rfl
theorem G7 {m:iK} {x:Value} (h:fg A m.segs x) (hm:oQ m):∃A',bL ai 72 [.agg ⟨bS x m⟩] A (.bool true) A'∧Kp A A':=by
 obtain⟨m1,m2,m3,-,-⟩:=id hm;have kB:=Kp.alloc A (aa 39 (bS x m));have vB:=aF A 39 (bS x m);have nB:(A.alloc (aa 39 (bS x m))).next=A.next+1:=ae _ _
 generalize hB:A.alloc (aa 39 (bS x m))=B at kB vB nB;have kC:=Kp.alloc B (.map [] 0);have nC:(B.alloc (.map [] 0)).next=B.next+1:=ae _ _
 have kD:=Kp.alloc (B.alloc (.map [] 0)) (aa 188 [.map (some B.next)]);have vD:=aF (B.alloc (.map [] 0)) 188 [.map (some B.next)];have gD:((B.alloc (.map [] 0)).alloc (aa 188 [.map (some B.next)])).get B.next=some (.map [] 0):=by rw [aH (by omega)];exact aD _ _
 have sD:aW ai ((B.alloc (.map [] 0)).alloc (aa 188 [.map none])) 188 (pw ((B.alloc (.map [] 0)).next) 0) (.map (some B.next))= .ok ((B.alloc (.map [] 0)).alloc (aa 188 [.map (some B.next)])):=df WQ rfl rfl (by simp);have nD:((B.alloc (.map [] 0)).alloc (aa 188 [.map (some B.next)])).next=B.next+2:=by rw [ae,nC]
 rw [nC] at vD sD;generalize hD:(B.alloc (.map [] 0)).alloc (aa 188 [.map (some B.next)])=D at*;have kBD:=kC.trans kD;have wD:=vB.kp kBD;have l0:aq ai B.get 3 (pw A.next 0)= .ok (.int .i64 m.ver):=vB.ld rfl u3 rfl;have l1:aq ai B.get 3 (pw A.next 1)= .ok (.int .i64 (1:Nat)):=vB.ld rfl u3 rfl;have l2:aq ai B.get 3 (pw A.next 2)= .ok (.int .i64 m.next):=vB.ld rfl u3 rfl;have l3:aq ai D.get 34 (pw A.next 3)= .ok x:=wD.ld rfl Fo rfl;have lx:=(h.kp (kB.trans kBD)).len;have mn:=Am.mE (tb:=ai) (ts:=[3,3]) (a:=1) (b:=m.next);have mx:=Xs (ts:=[3,3,3]) (a:=m.ver) (b:=1) (c:=m.next);have b1:1≤min 1 m.next:=by omega
 have b2:max (max m.ver 1) m.next≤900000000:=by omega
 obtain⟨v,E,⟨g,hg⟩,rfl,nE,fE⟩:=Qp (A:=D) (A0:=A) (x2:=x) h hm (kB.trans kBD) (by omega) (by omega) gD vD wD;have h115:bL ai 115 [x,.func (.func 114) ⟨[]⟩ ⟨[pw (B.next+1) 0,pw A.next 0]⟩] D (.bool false) E:=by
  have hz:¬((0:Nat):Int)≤-1:=by omega
  refine aT (aB Tryz.func115) (c:=Tryz.f115.body.getD .skip) (by kernel_rfl) (by rw [Tryz.ntmps115];simp) (by kernel_rfl) (by kernel_rfl) ?_;apply W.a6 (g) 60
  ·intro M hM;simp (disch:=first|decide+kernel|omega) only [Tryz.f115,Aq,X2,hg,bO,hz];rfl
  exact⟨by simp,rfl,rfl,by simp only [Tryz.f115,Aq,X2,hg,bO,hz]<;>rfl⟩
 obtain⟨g2,h2⟩:=h115;refine⟨E,?_,⟨by omega,fun z hz=>by rw [fE z (by omega) (by omega),kBD.2 z (by omega),kB.2 z hz]⟩⟩;refine aT (aB Tryz.func72) (c:=Tryz.f72.body.getD .skip) (by kernel_rfl) (by rw [Tryz.ntmps72];simp) (by kernel_rfl) (by kernel_rfl) ?_;apply W.a6 (g2) 60
 ·intro M hM;simp (config:={maxSteps:=4000000}) (disch:=first|decide+kernel|omega|simp only [Wq,X2]) only [Tryz.f72,Aq,X5,reduceIte,X2,X3,au,hB,Dg,DT,zg,xi,l0,l1,l2,mn,b1,bO,eY,bm,Yg,mx,b2,gG,fq,A6,IF,z_,nC,sD,aS,l3,lx,m3,h2];rfl
 exact⟨by simp,rfl,rfl,by simp only [Tryz.f72,Aq,X5,reduceIte,X2,X3,au,hB,Dg,DT,zg,xi,l0,l1,l2,mn,b1,bO,eY,bm,Yg,mx,b2,gG,fq,A6,IF,z_,nC,sD,aS,l3,lx,m3,h2]<;>rfl⟩
def Wg (n:Nat):Value:=.int .u64 n
def BI (A:Mem) (l:List Nat) (x:Value):Prop:=∃(b o:Nat) (full:List Nat) (k:Kd) (c:Nat),x= .slice (some ⟨b,o,none⟩) l.length c∧b<A.next∧dD A 103 b k (full.map Wg)∧(full.drop o).take l.length=l∧o+l.length≤full.length∧eG c 1=true∧l.length≤bN c
theorem BI.kp {l:List Nat} {x:Value} (h:BI A l x) (k:Kp A A'):BI A' l x:=by
 obtain⟨b,o,full,kd,c,h1,h2,h3,h4⟩:=h;exact⟨b,o,full,kd,c,h1,Yt h2 k.1,h3.same (k.2 b h2),h4⟩
theorem KC (l:List Nat):(l.map jo).flatten=l.map Wg:=jR l
theorem oN.XT {l:List Nat} {x:Value} (h:oN A l x) (h0:l≠ []):BI A l x:=by
 obtain⟨b,h⟩:=h;have h:=az.Ai (by omega) h;rcases h with⟨-,e⟩|⟨k,c,ex,h1,h2,h3,h4,h5,h6⟩
 ·exact absurd (YK.1 e) h0
 ·rw [Yb] at h1 h6;rw [KC] at h3;obtain⟨cs,q1,q2⟩:=h3;exact⟨b,0,l,k,c,h1,h2,⟨cs,q1,fun j hj=>by rw [q2 j (by rw [X'];omega),Yz hj]⟩,by rw [Z5,Yw],by omega,h5,h6⟩
theorem BI.len {l:List Nat} {x:Value} (h:BI A l x):aO ai .len [117] [x]= .ok (.int .i64 (l.length:Nat)):=by
 obtain⟨b,o,full,k,c,rfl,-⟩:=h;exact dJ pL
theorem BI.at {l:List Nat} {x:Value} (h:BI A l x) (hi:l[i]?=some n):∃p,aZ ai 117 x (.int .i64 i)= .ok p∧aq ai A.get 103 p= .ok (.int .u64 n):=by
 obtain⟨b,o,full,k,c,rfl,h2,h3,h4,h5,-⟩:=h;have hil:=(X_.1 hi).1;refine⟨_,fZ pL N2 hil,bf ff rfl h3 ?_⟩;rw [←h4,qah,if_pos (by omega),ZW] at hi;rw [Yr,hi];rfl
theorem BI.tail {l:List Nat} {x:Value} (h:BI A l x) (hm:m≤l.length):∃x',dj ai 117 x (some (.int .i64 m)) none none= .ok x'∧BI A (l.drop m) x':=by
 obtain⟨b,o,full,k,c,rfl,h2,h3,h4,h5,h6,h7⟩:=h;have e1:bound (some (.int .i64 m)) 0 l.length= .ok m:=gi hm;have hd:(full.drop (o+m)).take (l.length-m)=l.drop m:=by rw [←qa0,←List.drop_take,h4]
 cases hx:eA c&&Yc (bN c) m with
 |true=>
  have hc:=Yn (Bool.and_eq_true_iff.1 hx).2;have hl:l.drop m=[]:=qbj (by omega);refine⟨.slice (some ⟨b,o,none⟩) (l.length-m) 0,?_,b,o,full,k,0,by rw [hl,show l.length-m=0 by omega];rfl,h2,h3,by rw [hl];rfl,by rw [hl];simp;omega,rfl,by rw [hl];exact Yg _⟩;unfold dj;simp only [pL,jE,R.aA,e1,N2,hx,cond_true]
 |false=>
  refine⟨.slice (some ⟨b,o+m,none⟩) (l.length-m) (gO c m),?_,b,o+m,full,k,gO c m,by rw [Zj],h2,h3,by rw [Zj];exact hd,by rw [Zj];omega,?_,by rw [Zj,jJ];omega⟩
  ·unfold dj;simp only [pL,jE,R.aA,e1,N2,hx,cond_false,h6,cond_true,jh,Zf]
  ·unfold eG at h6⊢;rw [oE];cases hcx:eA c with
   |true=>rfl
   |false=>rw [hcx] at h6;rw [rZ hcx];exact h6
theorem BI.XI {l:List Nat} {x:Value} (h:BI A l x) (hn:0<n) (hi:i+n≤l.length):∃x',dj ai 117 x (some (.int .i64 i)) (some (.int .i64 (i+n:Nat))) (some (.int .i64 (i+n:Nat)))= .ok x'∧BI A ((l.drop i).take n) x':=by
 obtain⟨b,o,full,k,c,rfl,h2,h3,h4,h5,h6,h7⟩:=h;have e1:bound (some (.int .i64 (i+n:Nat))) 0 (bN c)= .ok (i+n):=gi (by omega);have e2:bound (some (.int .i64 (i+n:Nat))) 0 (i+n)= .ok (i+n):=gi (X9 _);have e3:bound (some (.int .i64 i)) 0 (i+n)= .ok i:=gi (by omega);have hp:Ye 0 (bN c)=true:=by rw [Yl];omega
 have hne:Yc (i+n) i=false:=by
  cases hq:Yc (i+n) i with
  |false=>rfl
  |true=>have:=Yn hq;omega
 have hl:((l.drop i).take n).length=n:=by rw [Yo,Zj];omega
 refine⟨.slice (some ⟨b,o+i,none⟩) n (2*n),?_,b,o+i,full,k,2*n,by rw [hl],h2,h3,?_,by rw [hl];omega,by unfold eG;rw [Go.Am.gM];rfl,by rw [hl,Go.Am.eT];exact X9 _⟩
 ·unfold dj;simp only [pL,e1,R.aA,e2,e3,N2,h6,hp,Bool.and_self,Bool.or_true,cond_true,hne,cond_false,jh,Zf,Nat.add_sub_cancel_left]
 ·rw [hl,←h4,List.drop_take,qb3,Y4 (by omega),qa0]
theorem sY:∀l:List (Nat×Nat×Nat),(dk l).length=3*l.length
 | []=>rfl
 |s::l=>by
  have:=sY l;unfold dk at this⊢;rw [Y0,X',this,Yf];simp only [Yf,Ys];omega
theorem HR:∀{l:List (Nat×Nat×Nat)} {i:Nat} {s:Nat×Nat×Nat},l[i]?=some s→((dk l).drop (3*i)).take 3=[s.1,s.2.1,s.2.2]
 |x::l,0,s,h=>by cases h;rfl
 |x::l,i+1,s,h=>by
  have:=HR (l:=l) (i:=i) h;rw [show 3*(i+1)=3+3*i by omega,←qa0];exact this
noncomputable def MQ:Code:=qck.body.getD .skip
noncomputable def F5:Code:=sub MQ [1,0,0]
theorem Qh:qck.body=some (.seq (sub MQ [0]) (.block 0 (.loop F5))):=by kernel_rfl
def N5 (B:Mem) (ab lp:Nat) (l:List (Nat×Nat×Nat)) (Inv:Nat→Mem→Prop):Prop:=∀(i:Nat) (s:Nat×Nat×Nat) (D:Mem) (x:Value),l[i]?=some s→Inv i D→B.next≤D.next→(∀z,z<B.next→z≠ab→z≠lp→D.get z=B.get z)→BI D [s.1,s.2.1,s.2.2] x→
 ∃E,(∃g,∀M,g≤M→bg ai (exec ai M) (.round lp [x]) D= .ok (.val (.bool true) E))∧Inv (i+1) E∧D.next≤E.next∧∀z,z<B.next→z≠ab→z≠lp→E.get z=D.get z
theorem FU {l:List (Nat×Nat×Nat)} {x:Value} {ab lp:Nat} {Inv:Nat→Mem→Prop} (h:BI A (dk l) x) (hl:l.length≤1000) (hB:Kp A B) (v1:VB B 117 q (.var 1) [x]) (v2:VB B 3 (q+1) (.var 1) [.int .i64 (3:Nat)]) (hq:ab≠q∧ab≠q+1∧lp≠q∧lp≠q+1∧A.next≤ab∧A.next≤lp)
 (hc:N5 B ab lp l Inv) (hI:Inv 0 B):
 ∃v C,bL ai 161 [.func (.yield lp) ⟨[]⟩ ⟨[]⟩,pV q,pV (q+1)] B v C∧Inv l.length C∧B.next≤C.next∧∀z,z<B.next→z≠ab→z≠lp→C.get z=B.get z:=by
 obtain⟨p1,p2,p3,p4,p5,p6⟩:=hq;refine cS (aB Tryz.func161) Qh (by rw [Tryz.ntmps161];simp) (by kernel_rfl) (by kernel_rfl) ?_;have hml:=sY l;simp only [pV];apply W.seq;apply W.run 20
 ·intro M;simp (disch:=first|decide+kernel|omega) only [MQ,qck,Aq,X2];rfl
 apply W.block;refine W.up l.length (fun i t D=>Inv i D∧B.next≤D.next∧(∀z,z<B.next→z≠ab→z≠lp→D.get z=B.get z)∧Sl t [(0,.func (.yield lp) ⟨[]⟩ ⟨[]⟩),(1,pw q 0),(2,pw (q+1) 0),(4,.int .i64 (3*i:Nat))]) ?_ (Yg _) ⟨hI,X9 _,fun _ _ _ _=>rfl,?_⟩
 ·rintro i t D hi ⟨hI,hn,hf,g0,g1,g2,g4,-⟩;have kAD:Kp A D:=⟨by have:=hB.1;omega,fun z hz=>by rw [hf z (by have:=hB.1;omega) (by omega) (by omega),hB.2 z hz]⟩;have hW:=h.kp kAD;have lw:=hW.len;rw [hml] at lw;have l1:aq ai D.get 117 (pw q 0)= .ok x:=bf pL rfl (v1.2.same (hf q v1.1 (by omega) (by omega))) rfl;have l2:aq ai D.get 3 (pw (q+1) 0)= .ok (.int .i64 (3:Nat)):=bf u3 rfl (v2.2.same (hf (q+1) v2.1 (by omega) (by omega))) rfl;by_cases hlt:i<l.length
  ·have hli:l[i]?=some l[i]:=X6 hlt;have hlt3:3*i<3*l.length:=by omega
   obtain⟨y,t1,t2⟩:=hW.tail (m:=3*i) (by omega);have ly:=t2.len;rw [Zj,hml] at ly;have mn:=Am.mE (tb:=ai) (ts:=[3,3]) (a:=3) (b:=3*l.length-3*i);rw [Y4 (by omega)] at mn;obtain⟨z,s1,s2⟩:=hW.XI (i:=3*i) (n:=3) (by omega) (by omega);rw [HR hli] at s2;obtain⟨E,⟨g,hg⟩,hI2,nE,fE⟩:=hc i _ D z hli hI hn hf s2;have a1:aN .add .i64 ((3*i:Nat):Int) ((3:Nat):Int)= .ok (.int .i64 (3*i+3:Nat)):=a9 (aR (by omega));have l3:aq ai E.get 3 (pw (q+1) 0)= .ok (.int .i64 (3:Nat)):=bf u3 rfl (v2.2.same (by rw [fE _ v2.1 (by omega) (by omega),hf (q+1) v2.1 (by omega) (by omega)])) rfl;apply W.a6 (g) 20
   ·intro M hM;simp (config:={maxSteps:=4000000}) (disch:=first|decide+kernel|omega|simp only [Wq,X2]) only [F5,MQ,qck,Aq,X5,reduceIte,X2,X3,g0,g1,g2,g4,l1,lw,hlt3,l2,t1,ly,mn,a1,s1,hg,l3,Fq,aC []];rfl
   refine⟨hlt,_,_,rfl,hI2,by omega,fun z hz h1 h2=>by rw [fE z hz h1 h2,hf z hz h1 h2],?_⟩;simp only [av,aw,T.af,T.ag,T.ak,X2,X3,if_true,if_false,and_true,true_and,g0,g1,g2,Nat.mul_add,Zf]
  ·have e:i=l.length:=by omega
   subst e;apply W.run 20
   ·intro M;simp (disch:=first|decide+kernel|omega) only [F5,MQ,qck,Aq,X2,g1,g4,l1,lw,Zk];rfl
   exact⟨by simp,rfl,_,(by simp only [qck,Aq,X2]<;>rfl),hI,hn,hf⟩
 ·simp only [av,aw,T.af,T.ag,T.ak,X2,X3,if_true,if_false,and_true,true_and]
theorem JE {x:Value}:bL ai 113 [x,.int .i64 (3:Nat)] A (.func (.func 161) ⟨[]⟩ ⟨[pV A.next,pV (A.next+1)]⟩) ((A.alloc (aa 117 [x])).alloc (aa 3 [.int .i64 (3:Nat)]))∨¬(x.cells.toList=[x]):=by
 by_cases hx:x.cells.toList=[x]
 ·left;have e:=ae A (aa 117 [x]);have v:=(aF (A.alloc (aa 117 [x])) 3 [.int .i64 (3:Nat)]);rw [e] at v;have l1:aq ai ((A.alloc (aa 117 [x])).alloc (aa 3 [.int .i64 (3:Nat)])).get 3 (pw (A.next+1) 0)= .ok (.int .i64 (3:Nat)):=v.ld rfl u3 rfl;have h3:¬3<1:=by omega
  simp only [pV];refine aT (aB Tryz.func113) (c:=Tryz.f113.body.getD .skip) (by kernel_rfl) (by rw [Tryz.ntmps113];simp) (by kernel_rfl) (by kernel_rfl) ?_;apply W.run 60
  ·intro M;simp (disch:=first|decide+kernel|omega) only [Tryz.f113,Aq,X2,hx,dQ,e,cE,l1,h3,aS];rfl
  exact⟨by simp,rfl,rfl,by simp only [Tryz.f113,Aq,X2,hx,dQ,e,cE,l1,h3,aS]<;>rfl⟩
 ·exact .inr hx
noncomputable def C0:Code:=qbK.body.getD .skip
theorem Uj:qbK.body=some (.seq (sub C0 [0]) (.seq (sub C0 [1,0]) (.seq (.seq (sub C0 [1,1,0,0]) (.block 0 (.rangeFunc (.tmp 21) #[22] (sub C0 [1,1,0,1,0,0]) (sub C0 [1,1,0,1,0,1])))) (.seq (sub C0 [1,1,1,0]) (sub C0 [1,1,1,1]))))):=by kernel_rfl
noncomputable def lV (t:T Value) (d:Nat):gI:=oP t 42 [22] (sub C0 [1,1,0,1,0,0]) (sub C0 [1,1,0,1,0,1]) d
def Rr (B:Mem) (p lp:Nat) (m:iK) (L:gI) (i:Nat) (D:Mem):Prop:=∃b y,VB D 39 p (.var 4) (bS y m)∧az D 58 3 b ((m.segs.take i).map dw) y∧(i=0→y= .slice none 0 0)∧B.next≤b∧D.get lp=some (.loop L)∧lp<D.next
theorem AL {ih:Code→St→R (Ex×St)} (h:n≤1000000000):bg ai ih (.fn 112 [.int .u64 n]) A= .ok (.val (.int .i64 n) A):=Xl (by omega)
variable {d:Nat}
theorem KE {lp:Nat} {m:iK} (hm:oQ m) (hp:p<lp∧lp<B.next) (hs:Sl t [(2,pV p)]):N5 B p lp m.segs (Rr B p lp m (lV t d)):=by
 rintro i s D x hi ⟨b,y,hV,hS,h0,hb,hL,hlt⟩ hn hf hW;obtain⟨g2,-⟩:=hs;obtain⟨hil,hsi⟩:=X_.1 hi;obtain⟨⟨-,o2⟩,⟨-,o4⟩,-,o6⟩:=hm.2.2.2.1 s (YF hi);have hml:=hm.2.2.1;have hnx:=hm.2.1.2;have htk:m.segs.take (i+1)=m.segs.take i++[s]:=by rw [Yd hil,hsi]
 generalize hE:D.set lp (.loop {lV t d with state:=.busy})=E;have nE:E.next=D.next:=by rw [←hE];exact aX _ _ _
 have fE:∀z,z≠lp→E.get z=D.get z:=fun z hz=>by rw [←hE,aL,if_neg hz]
 have hLE:E.get lp=some (.loop {lV t d with state:=.busy}):=by rw [←hE,aL,if_pos rfl]
 have VE:VB E 39 p (.var 4) (bS y m):=⟨by have:=hV.1;omega,hV.2.same (fE _ (by omega))⟩;have WE:BI E [s.1,s.2.1,s.2.2] x:=by
  obtain⟨b,o,full,k,c,h1,h2,h3,h4⟩:=hW;refine⟨b,o,full,k,c,h1,by omega,h3.same (fE b ?_),h4⟩;rintro rfl;obtain⟨_,e,-⟩:=h3;rw [hL] at e;cases e
 have SE:az E 58 3 b ((m.segs.take i).map dw) y:=az.fA hS (fun h=>h0 (by
  have:=congrArg ZD h;rw [Yb,Yo,Ys] at this;omega)) (by omega) fun _ hlt=>fE b (by omega)
 have hbx:∃b2,az E 58 3 b2 ((m.segs.take i).map dw) y∧b2≠p∧B.next≤b2:=by
  rcases SE with⟨h1,h2⟩|h
  ·exact⟨E.next,.inl ⟨h1,h2⟩,by have:=VE.1;omega,by omega⟩
  ·exact⟨b,.inr h,by omega,hb⟩
 obtain⟨b2,SE2,hb2,hb3⟩:=hbx;obtain⟨p0,i0,d0⟩:=WE.at (i:=0) rfl;obtain⟨p1,i1,d1⟩:=WE.at (i:=1) rfl;obtain⟨p2,i2,d2⟩:=WE.at (i:=2) rfl;have ly:aq ai E.get 34 (pw p 3)= .ok y:=VE.ld rfl Fo rfl;have sy:cD 100 y y=true:=(az.Ai (by omega) SE2).self 99;have q0:=eg .u64 s.2.1 rfl;have q1:=eg .u64 s.2.2 rfl;have k0:=fun ih=>AL (ih:=ih) (A:=E) (n:=s.1) (by omega)
 have k1:=fun ih=>AL (ih:=ih) (A:=E) (n:=s.2.1) (by omega)
 have k2:=fun ih=>AL (ih:=ih) (A:=E) (n:=s.2.2) (by omega)
 obtain⟨y',F,happ,hS',hnF,hfF⟩:=HH (s:=s) SE2 (by rw [Yo];omega);rw [←htk] at hS';have happ':bk ai (E.alloc (aa 58 [.int .i64 s.1,.int .i64 s.2.1,.int .i64 s.2.2])) 34 34 y (.slice (some ⟨E.next,0,none⟩) 1 2)= .ok (y',F):=happ;have hVp:=VE.1;obtain⟨G,sG,vG,nG,fG⟩:=a_ (tb:=ai) (t:=34) (o:=3) (v:=y') OC (VE.2.same (hfF p (fun e=>absurd e.symm hb2) hVp)) (by simp [bS]) (az.dm hS').1 (az.dm hS').2;have hFB:∀z,z<B.next→F.get z=E.get z:=fun z hz=>hfF z (fun e=>by omega) (by omega)
 have hLG:G.get lp=some (.loop {lV t d with state:=.busy}):=by rw [fG _ (by omega),hFB _ hp.2];exact hLE
 simp only [pV] at g2;have hq:∃C,(∃g,∀N,g≤N→bg ai (exec ai N) (.round lp [x]) D= .ok (.val (.bool true) C))∧C=G.set lp (.loop (lV t d)):=by
  refine mI hL (t:=t.set 22 x) rfl ?_;show W ai (sub C0 [1,1,0,1,0,0]) ⟨_,42,[],D,some lp⟩ _;apply W.run 20
  ·intro M;simp (disch:=first|decide+kernel|omega) only [C0,qbK,Aq,X2];rfl
  refine⟨rfl,_,hL,rfl,?_⟩;show W ai (sub C0 [1,1,0,1,0,1]) ⟨_,42,[],D.set lp (.loop {lV t d with state:=.busy}),some lp⟩ _;rw [hE];apply W.run 20
  ·intro M;simp (config:={maxSteps:=4000000}) (disch:=first|decide+kernel|omega|simp only [Wq,X2]) only [C0,qbK,Aq,X5,reduceIte,X2,X3,g2,xi,ly,i0,d0,k0,i1,d1,k1,i2,d2,k2,sy,q0,q1,UU,VW,happ',sG,Fq,aC [(1,5),(8,5),(1,9),(12,5),(12,9),(1,13)]];rfl
  exact⟨rfl,rfl,_,hLG,rfl⟩
 obtain⟨C,hc,rfl⟩:=hq;have fr:∀z,z≠lp→(G.set lp (.loop (lV t d))).get z=G.get z:=fun z hz=>by rw [aL,if_neg hz]
 have nr:(G.set lp (.loop (lV t d))).next=G.next:=aX _ _ _
 refine⟨_,hc,⟨E.next+1,y',⟨by omega,vG.same (fr _ (by omega))⟩,hS'.same (by omega) fun _=>by rw [fr _ (by omega),fG _ (by omega)],fun h=>by omega,by omega,by rw [aL,if_pos rfl],by omega⟩,by omega,fun z hz h1 h2=>by rw [fr z h2,fG z h1,hFB z hz,fE z h2]⟩
theorem Ou:b7 ai 39= .ok (.agg ⟨[.int .i64 (0:Nat),.int .i64 (0:Nat),.int .i64 (0:Nat),.slice none 0 0]⟩):=by kernel_rfl
theorem zQ:aY ai 39= .ok 4:=by kernel_rfl
theorem BI.cell {l:List Nat} {x:Value} (h:BI A l x):x.cells.toList=[x]:=by
 obtain⟨_,_,_,_,_,rfl,-⟩:=h;rfl
theorem Rk {m:iK} {x:Value} (h:oN A ([m.ver,1,m.next,m.segs.length]++dk m.segs) x) (hm:oQ m):∃v A',bL ai 71 [x] A v A'∧Kp A A'∧∃y,v= .agg ⟨bS y m⟩∧fg A' m.segs y:=by
 obtain⟨m1,m2,m3,-,-⟩:=id hm;refine eE (aB Tryz.func71) Uj (by rw [Tryz.ntmps71];simp) (by kernel_rfl) (by kernel_rfl) ?_;generalize hp:A.next=p
 have kB:=Kp.alloc A (aa 39 (bS (.slice none 0 0) m));have vB:=aF A 39 (bS (.slice none 0 0) m);have nB:(A.alloc (aa 39 (bS (.slice none 0 0) m))).next=p+1:=by rw [ae,hp]
 have st:∀(l:List Value) (o:Nat) (n:Nat),o<l.length→aW ai (A.alloc (aa 39 l)) 3 (pw p o) (.int .i64 n)= .ok (A.alloc (aa 39 (l.set o (.int .i64 n)))):=fun l o n ho=>by rw [←hp];exact df Q5 rfl rfl ho
 have st0:=st [.int .i64 (0:Nat),.int .i64 (0:Nat),.int .i64 (0:Nat),.slice none 0 0] 0 m.ver (by simp);have st1:=st [.int .i64 m.ver,.int .i64 (0:Nat),.int .i64 (0:Nat),.slice none 0 0] 1 1 (by simp);have st2:=st [.int .i64 m.ver,.int .i64 (1:Nat),.int .i64 (0:Nat),.slice none 0 0] 2 m.next (by simp)
 simp only [List.set_cons_zero,List.set_cons_succ] at st0 st1 st2;have hA1:=h.kp (Kp.alloc A (aa 39 [.int .i64 (0:Nat),.int .i64 (0:Nat),.int .i64 (0:Nat),.slice none 0 0]));obtain⟨p0,i0,d0⟩:=hA1.at (i:=0) rfl;obtain⟨p1,i1,d1⟩:=hA1.at (i:=1) rfl;obtain⟨p2,i2,d2⟩:=hA1.at (i:=2) rfl;have k0:=fun ih A=>AL (ih:=ih) (A:=A) (n:=m.ver) (by omega)
 have k1:=fun ih A=>AL (ih:=ih) (A:=A) (n:=1) (by omega)
 have k2:=fun ih A=>AL (ih:=ih) (A:=A) (n:=m.next) (by omega)
 have q1:=eg .u64 1 rfl;have q2:=eg .u64 m.next rfl
 apply W.seq;apply W.run 20
 ·intro M;simp (disch:=first|decide+kernel|omega) only [C0,qbK,Aq,X2,hp,Ou,au];rfl
 apply W.seq;apply W.run 20
 ·intro M;simp (config:={maxSteps:=4000000}) (disch:=first|decide+kernel|omega|simp only [Wq,X2]) only [C0,qbK,Aq,X5,reduceIte,X2,X3,i0,d0,k0,i1,d1,k1,i2,d2,k2,q1,q2,Dg,DT,zg,st0,st1,st2,Fq,aC [(6,3),(10,3),(10,7)]];rfl
 show W ai _ _ _;have hBe:A.alloc (aa 39 [.int .i64 m.ver,.int .i64 (1:Nat),.int .i64 m.next,.slice none 0 0])=A.alloc (aa 39 (bS (.slice none 0 0) m)):=rfl;rw [hBe];rw [hp] at vB;generalize A.alloc (aa 39 (bS (.slice none 0 0) m))=B at kB vB nB;obtain⟨z,t1,t2⟩:=(h.XT (by simp)).tail (m:=4) (by simp);have hz:([m.ver,1,m.next,m.segs.length]++dk m.segs).drop 4=dk m.segs:=rfl;rw [hz] at t2;rcases JE (A:=B) (x:=z) with⟨g,hg⟩|hbad
 ·have c1:=(aF B 117 [z]).kp (Kp.alloc _ (aa 3 [.int .i64 (3:Nat)]));have c2:=aF (B.alloc (aa 117 [z])) 3 [.int .i64 (3:Nat)];have n1:(B.alloc (aa 117 [z])).next=p+2:=by rw [ae,nB]
  have n2:((B.alloc (aa 117 [z])).alloc (aa 3 [.int .i64 (3:Nat)])).next=p+3:=by rw [ae,n1]
  have kC:=(Kp.alloc B (aa 117 [z])).trans (Kp.alloc _ (aa 3 [.int .i64 (3:Nat)]));rw [nB] at c1 hg;rw [n1] at c2;generalize (B.alloc (aa 117 [z])).alloc (aa 3 [.int .i64 (3:Nat)])=C at*;apply W.seq;apply W.seq;simp only [pV] at hg;apply W.a6 (g) 20
  ·intro M hM;simp (disch:=first|decide+kernel|omega) only [C0,qbK,Aq,X2,t1,hg];rfl
  apply W.block;generalize ht0:T.set _ _ _=t0;have hsl:Sl t0 [(2,pV p),(21,.func (.func 161) ⟨[]⟩ ⟨[pV (p+1),pV (p+1+1)]⟩)]:=by rw [←ht0];simp only [av,aw,T.af,T.ag,T.ak,X2,X3,if_true,if_false,and_true,true_and,pV]
  clear ht0;obtain⟨h2,h21,-⟩:=hsl;have kJ:=(Kp.alloc C .defd).trans (Kp.alloc (C.alloc .defd) (.loop (lV t0 C.next)));have nJ1:(C.alloc .defd).next=p+4:=by rw [ae,n2]
  have nJ:((C.alloc .defd).alloc (.loop (lV t0 C.next))).next=p+5:=by rw [ae,nJ1]
  have jL:((C.alloc .defd).alloc (.loop (lV t0 C.next))).get (p+4)=some (.loop (lV t0 C.next)):=by have:=aD (C.alloc .defd) (.loop (lV t0 C.next));rwa [nJ1] at this
  have jM:((C.alloc .defd).alloc (.loop (lV t0 C.next))).get (p+3)=some .defd:=by
   rw [(Kp.alloc (C.alloc .defd) _).2 _ (by omega),←n2];exact aD C .defd
  generalize hJ:(C.alloc .defd).alloc (.loop (lV t0 C.next))=J at kJ nJ jL jM;have kBJ:=kC.trans kJ;obtain⟨v,E,hC,⟨b,y,e1,e2,-,e4,e5,e6⟩,nE,fE⟩:=FU (A:=A) (B:=J) (q:=p+1) (ab:=p) (lp:=p+4) (l:=m.segs) (Inv:=Rr J p (p+4) m (lV t0 C.next)) t2 m3 (kB.trans kBJ) (c1.kp kJ) (c2.kp kJ) ⟨by omega,by omega,by omega,by omega,by omega,by omega⟩
   (KE hm ⟨by omega,by omega⟩ ⟨h2,trivial⟩) ⟨J.next,.slice none 0 0,vB.kp kBJ,.inl ⟨rfl,rfl⟩,fun _=>rfl,X9 _,jL,by omega⟩
  rw [Yw] at e2;refine W.tu (fid:=161) (first:=[]) (capt:=[pV (p+1),pV (p+1+1)]) (v:=v) (A':=E) (r:=lV t0 C.next) (by simp only [ev,h21]) (by show bL ai 161 _ ((C.alloc .defd).alloc (.loop (lV t0 C.next))) v E;rw [hJ];have h:=hC;rwa [show p+4=C.next+1 by omega] at h) (by rw [show C.next+1=p+4 by omega];exact e5) (by simp [lV,oP]) rfl ?_;rw [n2];generalize hK:E.set (p+3+1) (.loop {lV t0 (p+3) with state:=.exhausted})=K;have nK:K.next=E.next:=by rw [←hK];exact aX _ _ _
  have fK:∀z,z≠p+4→K.get z=E.get z:=fun z hz=>by rw [←hK,aL,if_neg (by omega)]
  simp only [pV] at h2;have vK:dD K 39 p (.var 4) (bS y m):=e1.2.same (fK _ (by omega));have hy:=az.dm e2;have hone:∀v∈bS y m,aJ v=true:=by
   intro v hv;simp only [bS,Yp,YH,or_false] at hv;rcases hv with rfl|rfl|rfl|rfl
   ·rfl
   ·rfl
   ·rfl
   ·exact hy.2
  obtain⟨F,sF,vF,nF,fF⟩:=bx (tb:=ai) (t:=39) (l':=bS y m) (by exact zQ) vK rfl (by simp [bS]) hone;obtain⟨d,hd1,hd2⟩:=bA (t:=39) (p:=true) (by kernel_rfl);have lK:aq ai K.get 39 (pw p 0)= .ok (.agg ⟨bS y m⟩):=aQ hd1 hd2 (l:=bS y m) zQ vK;apply W.seq;apply W.run 20
  ·intro M;simp (disch:=first|decide+kernel|omega) only [C0,qbK,Aq,X2,h2,lK,sF];rfl
  apply W.run 20
  ·intro M;simp (disch:=first|decide+kernel|omega) only [C0,qbK,Aq,X2];rfl
  obtain⟨I,t1,t2,t3⟩:=iM [p+3] F (by simp) (fun d hd=>by
   rw [Y7] at hd;rw [hd,fF _ (by omega),fK _ (by omega),fE _ (by omega) (by omega) (by omega),jM])
  have fI:∀z,z≠p+3→I.get z=F.get z:=fun z h=>t3 z (by simpa using h)
  have lI:aq ai I.get 39 (pw p 0)= .ok (.agg ⟨bS y m⟩):=aQ hd1 hd2 (l:=bS y m) zQ (vF.same (fI _ (by omega)));refine⟨.inr rfl,I,_,t1,(by simp only [qbK,h2,lI,Aq,X2]<;>rfl),⟨by omega,fun z hz=>?_⟩,y,rfl,b,?_⟩
  ·rw [fI z (by omega),fF z (by omega),fK z (by omega),fE z (by omega) (by omega) (by omega),kBJ.2 z (by omega),kB.2 z (by omega)]
  ·exact e2.same (by omega) fun _=>by rw [fI _ (by omega),fF _ (by omega),fK _ (by omega)]
 ·exact absurd t2.cell hbad
end Go.Proofs.YtggndfefpbmaeaaGreatDoor.sto
end
