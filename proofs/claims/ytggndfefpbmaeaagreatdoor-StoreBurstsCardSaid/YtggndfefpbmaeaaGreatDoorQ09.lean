/- The abstract machine, the walk of the law and its plain laws, made small by a program; part 9: no conditions but those in each theorem. -/
import Derived.Test.YtggndfefpbmaeaaGreatDoorQ08
import Derived.Test.YtggndfefpbmaeaaGreatDoorRows
import Derived.WalkKit
import Derived.ProofKit
import Derived.OpenShut
import Derived.ShutString
import Derived.ChangeOld
import Derived.Below
import Derived.Deep.Slices
import Derived.Deep.Fields
import Derived.ChangeSame
import Derived.MakeChecks
import Derived.LaidMore
import Derived.Lay
import Derived.Stop.Joined
import Derived.ChangeMaps5
set_option maxHeartbeats 16000000
set_option maxRecDepth 100000
set_option linter.unusedSimpArgs false
set_option linter.unusedVariables false
noncomputable section
open Nat renaming reduceEqDiff→X2,reduceAdd→X3,ble→X5,le_refl→X9,beq→Yc,zero_le→Yg,lt_of_lt_of_le→Yt,zero_add→Yy,lt_or_ge→YE,add_zero→YU,shiftRight_eq_div_pow→YX,pow_le_pow_right→Y2,min_eq_left→Y4,lt_of_le_of_lt→Y5,mod_lt→Y8,mod_eq_of_lt→Zb,mul_one→Zf,sub_self→Zg,lt_irrefl→Zk,xor_assoc→Zp,lt_succ_self→Zu,xor_lt_two_pow→ZG,not_lt_zero→ZR,eq_of_testBit_eq→Z6,one_mul→qaz,zero_mul→qaE,xor_zero→qaG,testBit_xor→qaJ,add_assoc→qaO,pow_add→qaX,testBit_two_pow_mul→qa8,eq_zero_or_pos→qbg,testBit_lt_two_pow→qbh,shiftLeft_eq→qbI,min_le_right→qbJ,le_of_lt→qbX,div_le_self→qcd,beq_refl→qcf
open List renaming getElem?_eq_getElem→X6,getElem?_cons_succ→X7,getElem?_cons_zero→X8,getElem?_eq_some_iff→X_,length_append→X',length_map→Yb,length_cons→Yf,length_eq_zero_iff→Yh,mem_cons_of_mem→Yi,mem_cons_self→Yk,length_take→Yo,mem_cons→Yp,getElem?_map→Yr,length_nil→Ys,getElem?_append_left→Yz,getElem?_append_right→YA,mem_of_getElem?→YF,length_set→YG,not_mem_nil→YH,map_eq_nil_iff→YK,length_pos_iff→YM,mem_map→YN,getElem_mem→YQ,cons_append→YT,map_append→YV,getD_eq_getElem?_getD→YZ,flatMap_cons→Y0,drop_eq_getElem_cons→Y3,nil_append→Y6,mem_singleton→Y7,append_nil→Y',range→Zi,getElem?_set→Zn,mem_append→Zs,mem_or_eq_of_mem_set→Zw,foldl_append→ZA,map_cons→ZB,take_zero→ZC,flatMap_append→ZQ,mem_append_right→ZV,drop_zero→Z5,getElem?_range→Z_,take_succ_cons→Z',mem_flatMap→qaf,getElem?_take→qah,nodup_cons→qbc,nodup_append→qbo,take_append_drop→qbp,nodup_nil→qbs,mem_append_left→qbL,drop_succ_cons→qbS,map_set→qbW,drop_left→qcg
open Bool renaming false_eq_true→Yj
open Array renaming getElem?_eq_some_iff→Ym,getElem?_toList→Yu
open Option.some renaming injEq→YB,inj→YJ
open Option renaming map_some→YI,getD_some→Za,isSome_some→qaH
open List.cons renaming injEq→YL
open Go.Proofs.Tryz renaming prog→YO,f3→YW,f30→ZX,f7→Z9,checked→qao,underlying5→qbN,f9→qb5,func3→qce,f158→qcm,f110→qcn
open UInt8 renaming ofNat→Zc,toNat_inj→ZS,toNat_ofNat'→qaA
namespace Go.Proofs.YtggndfefpbmaeaaGreatDoor.sto
open Go.Am Go.Mdl Go.Sto
theorem KV {s:List UInt8} (h:(crc.dN s).2=false):(crc.dN s).1=[]:=by
 unfold crc.dN at h⊢;by_cases h1:s.length<4
 ·rw [if_pos h1]
 ·rw [if_neg h1] at h⊢;by_cases h2:crc.pT (s.take (s.length-4))≠s
  ·rw [if_pos h2]
  ·rw [if_neg h2] at h;cases h
variable {A:Mem}
theorem LW:bL ai 69 [strOf [],strOf [67,77,1]] A (.tuple ⟨[strOf [],.bool false]⟩) A:=by
 have l1:=cd (tb:=ai) (t:=9) (l:=[]) u9;have l2:=cd (tb:=ai) (t:=9) (l:=[67,77,1]) u9;have h1:¬3≤0:=by omega
 have h158:bL ai 158 [strOf [],strOf [67,77,1]] A (.bool false) A:=by
  refine aT (aB Tryz.func158) (c:=qcm.body.getD .skip) (by kernel_rfl) (by rw [Tryz.ntmps158];simp) (by kernel_rfl) (by kernel_rfl) ?_;apply W.run 60
  ·intro M;simp (config:={maxSteps:=4000000}) (disch:=first|decide+kernel|omega|simp only [Wq,X2]) only [qcm,Aq,X5,reduceIte,X2,X3,l1,l2,Ys,Yf,bO,bm,h1];rfl
  exact⟨by simp,rfl,rfl,by simp only [qcm,Aq,X5,reduceIte,X2,X3,l1,l2,Ys,Yf,bO,bm,h1]<;>rfl⟩
 obtain⟨g,hg⟩:=h158;have h110:bL ai 110 [strOf [],strOf [67,77,1]] A (.tuple ⟨[strOf [],.bool false]⟩) A:=by
  refine aT (aB Tryz.func110) (c:=qcn.body.getD .skip) (by kernel_rfl) (by rw [Tryz.ntmps110];simp) (by kernel_rfl) (by kernel_rfl) ?_;apply W.a6 (g) 60
  ·intro M hM;simp (disch:=first|decide+kernel|omega) only [qcn,Aq,X2,hg];rfl
  exact⟨by simp,rfl,rfl,by simp only [qcn,Aq,X2,hg]<;>rfl⟩
 obtain⟨g2,hg2⟩:=h110;refine aT (aB Tryz.func69) (c:=Tryz.f69.body.getD .skip) (by kernel_rfl) (by rw [Tryz.ntmps69];simp) (by kernel_rfl) (by kernel_rfl) ?_;apply W.a6 (g2) 60
 ·intro M hM;simp (disch:=first|decide+kernel|omega) only [Tryz.f69,Aq,X2,hg2,X8,X7];rfl
 exact⟨by simp,rfl,rfl,by simp only [Tryz.f69,Aq,X2,hg2,X8,X7]<;>rfl⟩
variable {r:List UInt8}
theorem Qj (hr:r.length<900000):bL ai 69 [strOf ([67,77,1]++r),strOf [67,77,1]] A (.tuple ⟨[strOf r,.bool true]⟩) A:=by
 have l1:=cd (tb:=ai) (t:=9) (l:=[67,77,1]++r) u9;have l2:=cd (tb:=ai) (t:=9) (l:=[67,77,1]) u9;have e:([67,77,1]++r:List UInt8).length=r.length+3:=by simp
 have h1:3≤r.length+3:=by omega
 have s1:=oM (tb:=ai) (t:=9) (l:=[67,77,1]++r) (k:=.i64) (n:=3) u9 (by rw [e];omega);have s2:=w9 (tb:=ai) (t:=9) (l:=[67,77,1]++r) (k:=.i64) (n:=3) u9 (by rw [e];omega);have t1:([67,77,1]++r:List UInt8).take 3=[67,77,1]:=rfl;have t2:([67,77,1]++r:List UInt8).drop 3=r:=rfl;rw [t1] at s1;rw [t2] at s2;rw [e] at l1;have l2:aO ai .len [9] [strOf [67,77,1]]= .ok (.int .i64 (3:Nat)):=l2;generalize [67,77,1]++r=q at*;have h158:bL ai 158 [strOf q,strOf [67,77,1]] A (.bool true) A:=by
  refine aT (aB Tryz.func158) (c:=qcm.body.getD .skip) (by kernel_rfl) (by rw [Tryz.ntmps158];simp) (by kernel_rfl) (by kernel_rfl) ?_;apply W.run 60
  ·intro M;simp (config:={maxSteps:=4000000}) (disch:=first|decide+kernel|omega|simp only [Wq,X2]) only [qcm,Aq,X5,reduceIte,X2,X3,l1,l2,bO,bm,h1,s1];rfl
  exact⟨by simp,rfl,rfl,by simp only [qcm,Aq,X5,reduceIte,X2,X3,l1,l2,bO,bm,h1,s1]<;>rfl⟩
 obtain⟨g,hg⟩:=h158;have h110:bL ai 110 [strOf q,strOf [67,77,1]] A (.tuple ⟨[strOf r,.bool true]⟩) A:=by
  refine aT (aB Tryz.func110) (c:=qcn.body.getD .skip) (by kernel_rfl) (by rw [Tryz.ntmps110];simp) (by kernel_rfl) (by kernel_rfl) ?_;apply W.a6 (g) 60
  ·intro M hM;simp (disch:=first|decide+kernel|omega) only [qcn,Aq,X2,hg,l2,s2];rfl
  exact⟨by simp,rfl,rfl,by simp only [qcn,Aq,X2,hg,l2,s2]<;>rfl⟩
 obtain⟨g2,hg2⟩:=h110;refine aT (aB Tryz.func69) (c:=Tryz.f69.body.getD .skip) (by kernel_rfl) (by rw [Tryz.ntmps69];simp) (by kernel_rfl) (by kernel_rfl) ?_;apply W.a6 (g2) 60
 ·intro M hM;simp (disch:=first|decide+kernel|omega) only [Tryz.f69,Aq,X2,hg2,X8,X7];rfl
 exact⟨by simp,rfl,rfl,by simp only [Tryz.f69,Aq,X2,hg2,X8,X7]<;>rfl⟩
def b_:List Value:=[.int .i64 (0:Nat),.int .i64 (0:Nat),.int .i64 (0:Nat),.slice none 0 0]
theorem dp:b7 ai 39= .ok (.agg ⟨b_⟩):=Ou
variable {b:Nat} {l:List Value}
theorem lW {k:Kd} (h:dD A 39 b k l) (hl:l.length=4):aq ai A.get 39 (pw b 0)= .ok (.agg ⟨l⟩):=by
 obtain⟨d,hd1,hd2⟩:=bA (t:=39) (p:=true) (by kernel_rfl);exact aQ hd1 hd2 (by rw [hl];exact zQ) h
theorem P1:∀v∈b_,aJ v=true:=by simp [b_,aJ]
theorem Bv {s:List UInt8} (hs:s.length<900000) (ho:(crc.dN s).2=false):∃A',bL ai 30 [strOf s] A (.tuple ⟨[.agg ⟨b_⟩,.int .i64 (16:Nat)]⟩) A'∧Kp A A':=by
 have kB:=Kp.alloc A (aa 39 b_);have vB:=aF A 39 b_;generalize hB:A.alloc (aa 39 b_)=B at kB vB;have ko:=fun ih A=>RH (ih:=ih) (A:=A) hs
 rw [KV ho,ho] at ko;obtain⟨g,hg⟩:=LW (A:=B);have l1:=lW vB.2 rfl;obtain⟨C,sC,vC,nC,fC⟩:=bx (tb:=ai) (t:=39) (l':=b_) (by exact zQ) vB.2 rfl (by simp [b_]) P1;have l2:=lW vC rfl;refine⟨C,?_,⟨by have:=kB.1;omega,fun z hz=>by rw [fC z (by omega),kB.2 z hz]⟩⟩;refine aT (aB Tryz.func30) (c:=ZX.body.getD .skip) (by kernel_rfl) (by rw [Tryz.ntmps30];simp) (by kernel_rfl) (by kernel_rfl) ?_;apply W.a6 (g) 60
 ·intro M hM;simp (config:={maxSteps:=4000000}) (disch:=first|decide+kernel|omega|simp only [Wq,X2]) only [ZX,Aq,X5,reduceIte,X2,X3,dp,au,hB,ko,Is,hg,l1,sC,l2,X8,X7];rfl
 exact⟨by simp,rfl,rfl,by simp only [ZX,Aq,X5,reduceIte,X2,X3,dp,au,hB,ko,Is,hg,l1,sC,l2,X8,X7]<;>rfl⟩
variable {y:Value}
theorem I6 {D:Mem} {b2:Nat} {l nl:List Nat} {x:Value} (h:az D 103 1 b (l.map jo) x) (hy:az D 103 1 b2 (nl.map jo) y) (h0:nl≠ []) (hl:l.length+nl.length≤10000):
 ∃x' D' b',bk ai D 117 117 x y= .ok (x',D')∧az D' 103 1 b' ((l++nl).map jo) x'∧D.next≤D'.next∧(b'=b∨D.next≤b')∧∀z,(z=b→x= .slice none 0 0)→z<D.next→D'.get z=D.get z:=by
 obtain⟨i,t1,t2,t3⟩:=Sf;rcases hy with⟨-,e⟩|⟨k,c,rfl,y2,y3,y4,y5⟩
 ·exact absurd (YK.1 e) h0
 ·rw [Yb];obtain⟨x',D',b',e1,e2,e3,e4,e5⟩:=az.oZ (tb:=ai) (st:=117) (xt:=117) (nl:=nl.map jo) (m:=nl.length) h pL pL rfl Se t1 t2 t3 (by omega) (by omega) (by rw [Yb];omega) (y:=.slice (some ⟨b2,0,none⟩) nl.length c) rfl
   (ek y3 (by rw [Zf,jR,Yb])) (by rw [Yb]) (fun c hc=>by obtain⟨n,-,rfl⟩:=YN.1 hc;rfl) (by
    intro v hv;rw [jR] at hv;obtain⟨n,-,rfl⟩:=YN.1 hv;rfl)
  exact⟨x',D',b',e1,by rw [YV];exact e2,e3,e4,e5⟩
noncomputable def wi:Code:=ZX.body.getD .skip
noncomputable def vf:Code:=sub wi [1,0,1,1,1,1,1,1,0,0,0]
theorem TA:ZX.body=some (.seq (sub wi [0]) (.scope (.seq (sub wi [1,0,0]) (.seq (sub wi [1,0,1,0]) (.seq (sub wi [1,0,1,1,0]) (.seq (sub wi [1,0,1,1,1,0]) (.seq (sub wi [1,0,1,1,1,1,0]) (.seq (sub wi [1,0,1,1,1,1,1,0]) (.seq (.block 1 (.loop vf)) (.seq (sub wi [1,0,1,1,1,1,1,1,1,0]) (.seq (sub wi [1,0,1,1,1,1,1,1,1,1,0]) (.seq (sub wi [1,0,1,1,1,1,1,1,1,1,1,0]) (sub wi [1,0,1,1,1,1,1,1,1,1,1,1]))))))))))))):=by kernel_rfl
theorem tO (a b:List Nat):bT (a++b)=bT a++bT b:=by unfold bT;rw [ZQ]
variable {B:Mem} {p:Nat} {t:T Value}
theorem JR {m:iK} {K:Ex→St→Prop} (hm:oQ m) (hr:r=bT ([m.ver,1,m.next,m.segs.length]++dk m.segs)) (hl:r.length<900000)
 (hs:Sl t [(2,pV p),(3,.int .i64 (0:Nat)),(6,strOf r),(8,.slice none 0 0),(9,.int .i64 (0:Nat)),(10,.int .i64 (4:Nat))])
 (hK:∀t D x,Kp B D→oN D ([m.ver,1,m.next,m.segs.length]++dk m.segs) x→Sl t [(2,pV p),(3,.int .i64 (0:Nat)),(6,strOf r),(8,x),(9,.int .i64 (r.length:Nat))]→K (.exit 1) ⟨t,87,[],D,none⟩):
 W ai (.loop vf) ⟨t,87,[],B,none⟩ K:=by
 obtain⟨g2,g3,g6,g8,g9,g10,-⟩:=hs;obtain⟨m1,m2,m3,m4,-⟩:=hm;have hlen:=sY m.segs;have hw:∀n∈([m.ver,1,m.next,m.segs.length]++dk m.segs),n<18446744073709551616:=by
  intro n hn;rcases Zs.1 hn with hn|hn
  ·simp only [Yp,YH,or_false] at hn;omega
  ·obtain⟨s,hs,hn⟩:=qaf.1 hn;obtain⟨⟨-,o2⟩,⟨-,o4⟩,-,o6⟩:=m4 s hs;simp only [Yp,YH,or_false] at hn;omega
 have hd0:r.drop 0=bT [m.ver,1,m.next,m.segs.length]++bT (dk m.segs):=by rw [Z5,hr,tO]
 obtain⟨v,C,⟨g,hg⟩,kC,y,rfl,hy⟩:=Jk (A:=B) hd0 (by simp) (by simp) (fun n hn=>hw n (qbL _ hn)) hl;have hg':∀M,g≤M→bg ai (exec ai M) (.fn 70 [strOf r,.int .i64 (0:Nat),.int .i64 (4:Nat)]) B=_:=hg;rw [Yy] at hg';obtain⟨by0,hyS⟩:=hy;obtain⟨x1,D,b1,a1,hx1,n1,hb1,f1⟩:=I6 (D:=C) (b:=C.next) (l:=[]) (az.nil _ _ _ _) hyS (by simp) (by simp);rw [Y6] at hx1;have kD:Kp B D:=⟨by have:=kC.1;omega,fun z hz=>by rw [f1 z (fun _=>rfl) (by have:=kC.1;omega),kC.2 z hz]⟩;have hnum:oN D [m.ver,1,m.next,m.segs.length] x1:=⟨b1,hx1⟩;obtain⟨p3,i3,d3⟩:=hnum.at (i:=3) rfl;have l0:aO ai .len [117] [.slice none 0 0]= .ok (.int .i64 (0:Nat)):=dJ pL;have lx:=hnum.len;have hc:¬1000<m.segs.length:=by omega
 have cv:=bu (tb:=ai) (s:=103) (d:=3) (k:=.u64) (n:=m.segs.length) (by rw [ff];rfl) u3 (aR (by omega));have mu:aN .mul .i64 ((3:Nat):Int) ((m.segs.length:Nat):Int)= .ok (.int .i64 (3*m.segs.length:Nat)):=gq (aR (by omega));have ad:aN .add .i64 ((4:Nat):Int) ((3*m.segs.length:Nat):Int)= .ok (.int .i64 (4+3*m.segs.length:Nat)):=a9 (aR (by omega));have h04:0<4:=by omega
 have s4:aN .sub .i64 ((4:Nat):Int) ((0:Nat):Int)= .ok (.int .i64 (4:Nat)):=bq (by omega) (aR (by omega));apply W.round;refine W.to (n:=87) (fun t' D'=>D'=D∧Sl t' [(2,pV p),(3,.int .i64 (0:Nat)),(6,strOf r),(8,x1),(9,.int .i64 ((bT [m.ver,1,m.next,m.segs.length]).length:Nat)),(10,.int .i64 (4+3*m.segs.length:Nat))]) ?_ ?_
 ·apply W.a6 (g) 20
  ·intro M hM;simp (config:={maxSteps:=4000000}) (disch:=first|decide+kernel|omega|simp only [Wq,X2]) only [vf,wi,ZX,Aq,X5,reduceIte,X2,X3,g2,g3,g6,g8,g9,g10,l0,h04,s4,hg',X8,X7,a1,i3,d3,bR,bw,hc,cv,mu,ad];rfl
  refine⟨rfl,_,_,rfl,rfl,?_⟩;simp only [av,aw,T.af,T.ag,T.ak,X2,X3,if_true,if_false,and_true,true_and,g2,g6]
 ·rintro t D' ⟨rfl,g2,g3,g6,g8,g9,g10,-⟩;have lx:aO ai .len [117] [x1]= .ok (.int .i64 (4:Nat)):=lx;show W ai (.loop vf) _ _;apply W.round;by_cases h0:m.segs=[]
  ·have hz:4+3*m.segs.length=4:=by rw [h0];rfl
   rw [hz] at g10;apply W.run 20
   ·intro M;simp (disch:=first|decide+kernel|omega) only [vf,wi,ZX,Aq,X2,g8,g10,lx,Zk];rfl
   have e0:dk m.segs=[]:=by rw [h0];rfl
   have er:(bT [m.ver,1,m.next,m.segs.length]).length=r.length:=by rw [hr,e0,Y']
   rw [er] at g9;refine hK _ _ x1 kD (by rw [e0,Y'];exact hnum) ?_;simp only [av,aw,T.af,T.ag,T.ak,X2,X3,if_true,if_false,and_true,true_and,g2,g3,g6,g8,g9]
  ·have hp:=YM.2 h0;have hd1:r.drop (bT [m.ver,1,m.next,m.segs.length]).length=bT (dk m.segs)++[]:=by rw [hr,tO,qcg,Y']
   have hne:dk m.segs≠ []:=fun h=>by
    have:=hlen;rw [h] at this;simp at this;omega
   obtain⟨v,E,⟨ge,hge⟩,kE,z,rfl,bz,hzS⟩:=Jk (A:=D') hd1 hne (by omega) (fun n hn=>hw n (ZV _ hn)) hl;have er:(bT [m.ver,1,m.next,m.segs.length]).length+(bT (dk m.segs)).length=r.length:=by rw [hr,tO,X']
   rw [hlen,er] at hge;have hx1E:=hx1.same kE.1 (kE.2 b1);obtain⟨x2,F,b2,a2,hx2,n2,hb2,f2⟩:=I6 hx1E hzS hne (by rw [hlen];simp;omega);have hbB:B.next≤b1:=by have:=kC.1;omega
   have h4:4<4+3*m.segs.length:=by omega
   have hn4:¬4+3*m.segs.length=4:=by omega
   have s5:aN .sub .i64 ((4+3*m.segs.length:Nat):Int) ((4:Nat):Int)= .ok (.int .i64 (3*m.segs.length:Nat)):=by rw [bq (by omega) (aR (by omega)),Nat.add_sub_cancel_left]
   have kF:Kp B F:=⟨by have:=kD.1;have:=kE.1;omega,fun w hw=>by rw [f2 w (fun e=>by omega) (by have:=kD.1;have:=kE.1;omega),kE.2 w (by have:=kD.1;omega),kD.2 w hw]⟩;have hnum2:oN F ([m.ver,1,m.next,m.segs.length]++dk m.segs) x2:=⟨b2,hx2⟩;have lx2:=hnum2.len;rw [X',hlen] at lx2;have lx2:aO ai .len [117] [x2]= .ok (.int .i64 (4+3*m.segs.length:Nat)):=lx2;refine W.to (n:=87) (fun t' D'=>D'=F∧Sl t' [(2,pV p),(3,.int .i64 (0:Nat)),(6,strOf r),(8,x2),(9,.int .i64 (r.length:Nat)),(10,.int .i64 (4+3*m.segs.length:Nat))]) ?_ ?_
   ·apply W.a6 (ge) 20
    ·intro M hM;simp (disch:=first|decide+kernel|omega) only [vf,wi,ZX,Aq,X2,g2,g3,g6,g8,g9,g10,lx,h4,s5,hge,X8,X7,a2,hn4];rfl
    refine⟨rfl,_,_,rfl,rfl,?_⟩;simp only [av,aw,T.af,T.ag,T.ak,X2,X3,if_true,if_false,and_true,true_and,g2,g6,g10]
   ·rintro t D' ⟨rfl,g2,g3,g6,g8,g9,g10,-⟩;show W ai (.loop vf) _ _;apply W.round;apply W.run 20
    ·intro M;simp (disch:=first|decide+kernel|omega) only [vf,wi,ZX,Aq,X2,g8,g10,lx2,Zk];rfl
    refine hK _ _ x2 kF hnum2 ?_;simp only [av,aw,T.af,T.ag,T.ak,X2,X3,if_true,if_false,and_true,true_and,g2,g3,g6,g8,g9]
theorem O9 {m:iK} (hm:oQ m) (hl:(gx m).length<800000):∃v A',bL ai 30 [strOf (crc.aK (gx m))] A v A'∧Kp A A'∧∃y,v= .tuple ⟨[.agg ⟨bS y m⟩,.int .i64 (0:Nat)]⟩∧fg A' m.segs y:=by
 obtain⟨v,A',h1,h2⟩:∃v A',bL ai 30 [strOf (crc.aK (gx m))] A v A'∧(Kp A A'∧∃y,v= .tuple ⟨[.agg ⟨bS y m⟩,.int .i64 (0:Nat)]⟩∧fg A' m.segs y):=by
  refine cS (aB Tryz.func30) TA (by rw [Tryz.ntmps30];simp) (by kernel_rfl) (by kernel_rfl) ?_;have hsl:=lu (gx m);have kB:=Kp.alloc A (aa 39 b_);have vB:=aF A 39 b_;have ko:=fun ih A=>RH (ih:=ih) (A:=A) (s:=crc.aK (gx m)) (by omega)
  rw [crc.yy] at ko;apply W.seq;apply W.run 20
  ·intro M;simp (disch:=first|decide+kernel|omega) only [wi,ZX,Aq,X2,dp,au];rfl
  show W ai _ _ _;generalize A.alloc (aa 39 b_)=B at kB vB;have hml:(gx m).length=(bT ([m.ver,1,m.next,m.segs.length]++dk m.segs)).length+3:=by unfold gx;rw [X'];simp;omega
  obtain⟨gc,hc⟩:=Qj (A:=B) (r:=bT ([m.ver,1,m.next,m.segs.length]++dk m.segs)) (by omega);have hcm:([67,77,1]++bT ([m.ver,1,m.next,m.segs.length]++dk m.segs):List UInt8)=gx m:=rfl;rw [hcm] at hc;have lm:=cd (tb:=ai) (t:=9) (l:=gx m) u9;have h3:¬(gx m).length<3:=by omega
  apply W.scope;apply W.seq;apply W.run 20
  ·intro M;simp (disch:=first|decide+kernel|omega) only [wi,ZX,Aq,X2,ko,X8,X7];rfl
  apply W.seq;apply W.a6 (gc) 20
  ·intro M hM;simp (disch:=first|decide+kernel|omega) only [wi,ZX,Aq,X2,Is,hc,X8,X7];rfl
  apply W.seq;apply W.run 20
  ·intro M;simp (disch:=first|decide+kernel|omega) only [wi,ZX,Aq,X2,lm,h3];rfl
  apply W.seq;apply W.run 20
  ·intro M;simp (disch:=first|decide+kernel|omega) only [wi,ZX,Aq,X2];rfl
  apply W.seq;apply W.run 20
  ·intro M;simp (disch:=first|decide+kernel|omega) only [wi,ZX,Aq,X2];rfl
  apply W.seq;refine W.run 1 (fun m=>rfl) ?_;apply W.seq;apply W.block;refine JR (p:=A.next) hm rfl (by omega) (by simp only [av,aw,T.af,T.ag,T.ak,X2,X3,if_true,if_false,and_true,true_and,pV,YT,Y6]) ?_;rintro t D x kD hN ⟨g2,g3,g6,g8,g9,-⟩;generalize hr:bT ([m.ver,1,m.next,m.segs.length]++dk m.segs)=r at*;have lr:=cd (tb:=ai) (t:=9) (l:=r) u9;obtain⟨v,E,⟨ge,hge⟩,kE,y,rfl,hS⟩:=Rk hN hm;have kF:=Kp.alloc E (aa 39 (bS y m));have vF:=aF E 39 (bS y m);have hone:∀v∈bS y m,aJ v=true:=by
   intro v hv;simp only [bS,Yp,YH,or_false] at hv;rcases hv with rfl|rfl|rfl|rfl
   ·rfl
   ·rfl
   ·rfl
   ·exact hS.self.2
  have sF:aW ai (E.alloc (aa 39 b_)) 39 (pw E.next 0) (.agg ⟨bS y m⟩)= .ok (E.alloc (aa 39 (bS y m))):=bn zQ rfl rfl (by simp [b_]) hone;generalize E.alloc (aa 39 (bS y m))=F at kF vF sF;obtain⟨G,⟨gg,hgg⟩,kG⟩:=G7 (hS.kp kF) hm;have lF:=lW vF.2 rfl;have lG:=lW (vF.kp kG).2 rfl;have kBG:=kD.trans (kE.trans (kF.trans kG));obtain⟨H,sH,vH,nH,fH⟩:=bx (tb:=ai) (t:=39) (l':=bS y m) (by exact zQ) (vB.kp kBG).2 rfl (by simp [b_]) hone;have lH:=lW vH rfl;have hSH:=hS.kp (kF.trans kG);simp only [pV] at g2;apply W.seq;apply W.run 20
  ·intro M;simp (disch:=first|decide+kernel|omega) only [wi,ZX,Aq,X2,g3,g6,g9,lr,Zk];rfl
  apply W.seq;apply W.a6 (ge+gg) 20
  ·intro M hM;simp (disch:=first|decide+kernel|omega) only [wi,ZX,Aq,X2,g2,g8,hge,dp,au,sF,lF,hgg,lG,sH];rfl
  refine⟨by simp,rfl,_,(by simp only [ZX,g2,lH,Aq,X2]<;>rfl),⟨by show A.next≤H.next;have:=kB.1;have:=kBG.1;omega,fun z hz=>by show H.get z=A.get z;rw [fH z (by omega),kBG.2 z (by have:=kB.1;omega),kB.2 z hz]⟩,y,rfl,?_⟩;obtain⟨b,hb⟩:=hSH;rcases hb with hb|⟨k,c,q1,q2,q3,q4⟩
  ·exact⟨b,.inl hb⟩
  ·have hne:b≠A.next:=VB.ne (A:=G) ⟨q2,q3⟩ (vB.kp kBG) (by decide)
   exact⟨b,az.same (.inr ⟨k,c,q1,q2,q3,q4⟩) (by show G.next≤H.next;omega) fun _=>fH b hne⟩
 exact⟨v,A',h1,h2⟩
variable {A':Mem}
theorem fg.put {l:List (Nat×Nat×Nat)} {x:Value} {k:Kd} {w:List Value} (h:fg A l x) (v:VB A 39 b k w) (hn:A.next≤A'.next) (hf:∀z,z≠b→A'.get z=A.get z):fg A' l x:=by
 obtain⟨c,hc⟩:=h;rcases hc with hc|⟨k,d,q1,q2,q3,q4⟩
 ·exact⟨c,.inl hc⟩
 ·exact⟨c,az.same (.inr ⟨k,d,q1,q2,q3,q4⟩) hn fun _=>hf c (VB.ne (A:=A) ⟨q2,q3⟩ v (by decide))⟩
def x_ (is:Bool) (m:iK) (E:Mem) (l:List Value):Prop:=l.length=4∧(∀v∈l,aJ v=true)∧(is=true→∃y,l=bS y m∧fg E m.segs y)∧(is=false→l=b_)
variable {is:Bool}
theorem x_.kp {m:iK} {E F:Mem} (h:x_ is m E l) (k:Kp E F):x_ is m F l:=
 ⟨h.1,h.2.1,fun hi=>(h.2.2.1 hi).imp fun y hy=>⟨hy.1,hy.2.kp k⟩,h.2.2.2⟩
theorem x_.put {m:iK} {E F:Mem} {k:Kd} {w:List Value} (h:x_ is m E l) (v:VB E 39 b k w) (hn:E.next≤F.next) (hf:∀z,z≠b→F.get z=E.get z):x_ is m F l:=
 ⟨h.1,h.2.1,fun hi=>(h.2.2.1 hi).imp fun y hy=>⟨hy.1,hy.2.put v hn hf⟩,h.2.2.2⟩
def Ez (is:Bool) (m:iK) (s:List UInt8):Prop:=oQ m∧(gx m).length<800000∧s.length<900000∧(if is then s=crc.aK (gx m) else(crc.dN s).2=false)
theorem U0 {m:iK} {s:List UInt8} (h:Ez is m s) (D:Mem):∃l E,bL ai 30 [strOf s] D (.tuple ⟨[.agg ⟨l⟩,.int .i64 (if is then 0 else 16:Nat)]⟩) E∧Kp D E∧x_ is m E l:=by
 obtain⟨h1,h2,h3,h4⟩:=h;cases is with
 |true=>
  obtain rfl:s=crc.aK (gx m):=h4;obtain⟨v,E,e1,e2,y,rfl,e3⟩:=O9 (A:=D) h1 h2;refine⟨_,E,e1,e2,rfl,fun v hv=>?_,fun _=>⟨y,rfl,e3⟩,fun h=>by cases h⟩;simp only [bS,Yp,YH,or_false] at hv;rcases hv with rfl|rfl|rfl|rfl
  ·rfl
  ·rfl
  ·rfl
  ·exact e3.self.2
 |false=>
  obtain⟨E,e1,e2⟩:=Bv (A:=D) h3 h4;exact⟨_,E,e1,e2,rfl,P1,fun h=>(by cases h),fun _=>rfl⟩
theorem TC {m:iK} {s:List UInt8} (h:Ez is m s) (D:Mem):∃l E,bL ai 29 [strOf s] D (.tuple ⟨[.agg ⟨l⟩,.bool is]⟩) E∧Kp D E∧x_ is m E l:=by
 have kB:=Kp.alloc D (aa 39 b_);have vB:=aF D 39 b_;generalize hB:D.alloc (aa 39 b_)=B at kB vB;obtain⟨l,C,⟨g,hg⟩,kC,hR⟩:=U0 h B;have kE:=Kp.alloc C (aa 39 l);have vE:=aF C 39 l;have sE:aW ai (C.alloc (aa 39 b_)) 39 (.pointer (some ⟨C.next,0,none⟩)) (.agg ⟨l⟩)= .ok (C.alloc (aa 39 l)):=bn (by rw [hR.1];exact zQ) rfl (by rw [hR.1];rfl) (by simp [b_]) hR.2.1;generalize hE:C.alloc (aa 39 l)=E at kE vE sE;have lE:=lW vE.2 hR.1;have wE:=vB.kp (kC.trans kE);obtain⟨F,sF,vF,nF,fF⟩:=bx (tb:=ai) (t:=39) (l':=l) (by exact zQ) wE.2 (by rw [hR.1];rfl) (by simp [b_]) hR.2.1;have lF:=lW vF hR.1;have nC:=kC.1;refine⟨l,F,?_,⟨by have:=kB.1;have:=kE.1;omega,fun z hz=>by rw [fF z (by omega),kE.2 z (by have:=kB.1;omega),kC.2 z (by have:=kB.1;omega),kB.2 z hz]⟩,(hR.kp kE).put wE (by omega) fF⟩;cases is with
 |true=>
  refine aT (aB Tryz.func29) (c:=Tryz.f29.body.getD .skip) (by kernel_rfl) (by rw [Tryz.ntmps29];simp) (by kernel_rfl) (by kernel_rfl) ?_;apply W.a6 (g) 60
  ·intro M hM;simp (disch:=first|decide+kernel|omega) only [Tryz.f29,Aq,X2,dp,au,hB,hg,X8,X7,sE,lE,sF,lF];rfl
  exact⟨by simp,rfl,rfl,by simp only [Tryz.f29,Aq,X2,dp,au,hB,hg,X8,X7,sE,lE,sF,lF]<;>rfl⟩
 |false=>
  refine aT (aB Tryz.func29) (c:=Tryz.f29.body.getD .skip) (by kernel_rfl) (by rw [Tryz.ntmps29];simp) (by kernel_rfl) (by kernel_rfl) ?_;apply W.a6 (g) 60
  ·intro M hM;simp (disch:=first|decide+kernel|omega) only [Tryz.f29,Aq,X2,dp,au,hB,hg,X8,X7,sE,lE,sF,lF];rfl
  exact⟨by simp,rfl,rfl,by simp only [Tryz.f29,Aq,X2,dp,au,hB,hg,X8,X7,sE,lE,sF,lF]<;>rfl⟩
variable {fs:List (List UInt8×List UInt8)}
theorem T4 {k0:Nat} {w s:List UInt8} {m:iK} (h:fT A p fs) (hw:fileOf fs w=some s) (hm:Ez is m s)
 (v0:VB A 44 k0 (.var 1) [pw p 0]) (v1:VB A 9 (k0+1) (.var 1) [strOf w]) (v2:VB A 85 (k0+2) (.var 1) [.func (.func 29) ⟨[]⟩ ⟨[]⟩]) (q:Nat) (v3:VB A 3 q (.var 1) [.int .i64 (s.length:Nat)]):
 ∃l E,bL ai 74 [pw k0 0,pw (k0+1) 0,pw q 0,pw (k0+2) 0] A (.tuple ⟨[.agg ⟨l⟩,.bool is]⟩) E∧Kp A E∧x_ is m E l:=by
 have kB:=Kp.alloc A (aa 39 b_);have vB:=aF A 39 b_;generalize hB:A.alloc (aa 39 b_)=B at kB vB;obtain⟨g1,h1⟩:=uU (h.kp kB) hw (by have:=hm.2.2.1;omega);obtain⟨l,E,⟨g2,h2⟩,kE,hR⟩:=TC hm B;have l0:=Rj (v0.kp kB);have l1:aq ai B.get 9 (pw (k0+1) 0)= .ok (strOf w):=(v1.kp kB).ld rfl u9 rfl;have l2:aq ai B.get 85 (pw (k0+2) 0)= .ok (.func (.func 29) ⟨[]⟩ ⟨[]⟩):=by
  obtain⟨d,hd1,hd2⟩:=bA (t:=85) (p:=false) (by kernel_rfl);exact(v2.kp kB).ld rfl hd1 hd2
 have l3:aq ai B.get 3 (pw q 0)= .ok (.int .i64 (s.length:Nat)):=(v3.kp kB).ld rfl u3 rfl;have wE:=vB.kp kE;obtain⟨F,sF,vF,nF,fF⟩:=bx (tb:=ai) (t:=39) (l':=l) (by exact zQ) wE.2 (by rw [hR.1];rfl) (by simp [b_]) hR.2.1;have lF:=lW vF hR.1;refine⟨l,F,?_,⟨by have:=kB.1;have:=kE.1;omega,fun z hz=>by rw [fF z (by omega),kE.2 z (by have:=kB.1;omega),kB.2 z hz]⟩,hR.put wE (by omega) fF⟩;refine aT (aB Tryz.func74) (c:=Tryz.f74.body.getD .skip) (by kernel_rfl) (by rw [Tryz.ntmps74];simp) (by kernel_rfl) (by kernel_rfl) ?_;apply W.a6 (g1+g2) 60
 ·intro M hM;simp (disch:=first|decide+kernel|omega) only [Tryz.f74,Aq,X2,dp,au,hB,l0,l1,l2,l3,h1,h2,X8,X7,sF,lF];rfl
 exact⟨by simp,rfl,rfl,by simp only [Tryz.f74,Aq,X2,dp,au,hB,l0,l1,l2,l3,h1,h2,X8,X7,sF,lF]<;>rfl⟩
theorem T6 {w s:List UInt8} {n:Value} {m:iK} (h:fT A p fs) (hw:fileOf fs w=some s) (hm:Ez is m s):
 ∃l E,bL ai 31 [.pointer (some ⟨p,0,none⟩),strOf w,.func (.func 29) ⟨[]⟩ ⟨[]⟩,n] A (.tuple ⟨[.agg ⟨l⟩,.int .i64 (if is then 0 else 12:Nat)]⟩) E∧Kp A E∧x_ is m E l:=by
 generalize hk:A.next=k0
 obtain⟨n1,n2,D,hD,n3,kD,w0,w1,w2⟩:=xT (A:=A) (p:=p) (w:=w) (f:=.func (.func 29) ⟨[]⟩ ⟨[]⟩) (t:=85) hk;have kG:=Kp.alloc D (aa 39 b_);have w4:=aF D 39 b_;have n4:(D.alloc (aa 39 b_)).next=k0+4:=by rw [ae,n3]
 rw [n3] at w4;generalize hG:D.alloc (aa 39 b_)=G at kG w4 n4;have kE:=Kp.alloc G (aa 3 [.int .i64 (s.length:Nat)]);have w3:=aF G 3 [.int .i64 (s.length:Nat)];have sE:aW ai (G.alloc (aa 3 [.int .i64 (0:Nat)])) 3 (.pointer (some ⟨G.next,0,none⟩)) (.int .i64 (s.length:Nat))= .ok (G.alloc (aa 3 [.int .i64 (s.length:Nat)])):=df Q5 rfl rfl (by simp);rw [n4] at sE w3;generalize hE:G.alloc (aa 3 [.int .i64 (s.length:Nat)])=E at*;have hGd:=h.kp (kD.trans kG);obtain⟨gd,hgd⟩:=z8 hGd;obtain⟨gs,hgs⟩:=Dl (w:=w) hGd;rw [hw] at hgs;simp only [Za,qaH,if_true] at hgs;have l0:=Rj (w0.kp kG);have l1:aq ai G.get 9 (.pointer (some ⟨k0+1,0,none⟩))= .ok (strOf w):=(w1.kp kG).ld rfl u9 rfl;have e44:u_ ai G.get .eql 44 (.tmp 16) (.const (.pointer none)) (.pointer (some ⟨p,0,none⟩)) (.pointer none)= .ok (.bool false):=EE;have kDE:=kG.trans kE;obtain⟨l,F,⟨gm,hgm⟩,kF,hR⟩:=T4 (h.kp (kD.trans kDE)) hw hm (w0.kp kDE) (w1.kp kDE) (w2.kp kDE) (k0+4) w3;have kH:=Kp.alloc F (aa 39 l);have vH:=aF F 39 l;have sH:aW ai (F.alloc (aa 39 b_)) 39 (.pointer (some ⟨F.next,0,none⟩)) (.agg ⟨l⟩)= .ok (F.alloc (aa 39 l)):=bn (by rw [hR.1];exact zQ) rfl (by rw [hR.1];rfl) (by simp [b_]) hR.2.1;generalize hH:F.alloc (aa 39 l)=H at kH vH sH;have lH:=lW vH.2 hR.1;have w5:=w4.kp (kE.trans (kF.trans kH));have l8:=lW w5.2 rfl;have nF:=kF.1;obtain⟨I,sI,vI,nI,fI⟩:=bx (tb:=ai) (t:=39) (l':=l) (by exact zQ) w5.2 (by rw [hR.1];rfl) (by simp [b_]) hR.2.1;have lI:=lW vI hR.1;have kAI:Kp A I:=⟨by have:=kD.1;have:=kDE.1;have:=kH.1;omega,fun z hz=>by
  have:=kD.1;have:=kDE.1;rw [fI z (by omega),kH.2 z (by omega),kF.2 z (by omega),kDE.2 z (by omega),kD.2 z hz]⟩
 refine⟨l,I,?_,kAI,(hR.kp kH).put w5 (by omega) fI⟩;cases is with
 |true=>
  simp only [if_true];refine aT (aB Tryz.func31) (c:=Tryz.f31.body.getD .skip) (by kernel_rfl) (by rw [Tryz.ntmps31];simp) (by kernel_rfl) (by kernel_rfl) ?_;apply W.a6 (gd+gs+gm) 60
  ·intro M hM;simp (config:={maxSteps:=4000000}) (disch:=first|decide+kernel|omega|simp only [Wq,X2]) only [Tryz.f31,Aq,X5,reduceIte,X2,X3,aV,cE,ec,dx,hk,n1,n2,hD,n3,dp,au,hG,l0,br,e44,hgd,l1,hgs,X8,X7,gN,n4,sE,aS,hgm,sH,lH,sI,lI];rfl
  exact⟨by simp,rfl,rfl,by simp only [Tryz.f31,Aq,X5,reduceIte,X2,X3,aV,cE,ec,dx,hk,n1,n2,hD,n3,dp,au,hG,l0,br,e44,hgd,l1,hgs,X8,X7,gN,n4,sE,aS,hgm,sH,lH,sI,lI]<;>rfl⟩
 |false=>
  have e0:=hR.2.2.2 rfl;rw [←e0] at l8;simp only [Yj,if_false];refine aT (aB Tryz.func31) (c:=Tryz.f31.body.getD .skip) (by kernel_rfl) (by rw [Tryz.ntmps31];simp) (by kernel_rfl) (by kernel_rfl) ?_;apply W.a6 (gd+gs+gm) 60
  ·intro M hM;simp (config:={maxSteps:=4000000}) (disch:=first|decide+kernel|omega|simp only [Wq,X2]) only [Tryz.f31,Aq,X5,reduceIte,X2,X3,aV,cE,ec,dx,hk,n1,n2,hD,n3,dp,au,hG,l0,br,e44,hgd,l1,hgs,X8,X7,gN,n4,sE,aS,hgm,sH,l8,sI,lI];rfl
  exact⟨by simp,rfl,rfl,by simp only [Tryz.f31,Aq,X5,reduceIte,X2,X3,aV,cE,ec,dx,hk,n1,n2,hD,n3,dp,au,hG,l0,br,e44,hgd,l1,hgs,X8,X7,gN,n4,sE,aS,hgm,sH,l8,sI,lI]<;>rfl⟩
theorem Mz {s:List UInt8} {m:iK} (h:fT A p fs) (hw:fileOf fs jF=some s) (hm:Ez is m s):
 ∃l E,bL ai 11 [pw p 0] A (.tuple ⟨[.agg ⟨l⟩,.int .i64 (if is then 0 else 12:Nat)]⟩) E∧Kp A E∧x_ is m E l:=by
 have kB:=Kp.alloc A (aa 39 b_);have vB:=aF A 39 b_;generalize hB:A.alloc (aa 39 b_)=B at kB vB;have kn:=fun ih A=>Xo (ih:=ih) (A:=A)
 obtain⟨l,E,⟨g,hg⟩,kE,hR⟩:=T6 (n:=.func (.func 33) ⟨[]⟩ ⟨[]⟩) (h.kp kB) hw hm;have wE:=vB.kp kE;obtain⟨F,sF,vF,nF,fF⟩:=bx (tb:=ai) (t:=39) (l':=l) (by exact zQ) wE.2 (by rw [hR.1];rfl) (by simp [b_]) hR.2.1;have lF:=lW vF hR.1;refine⟨l,F,?_,⟨by have:=kB.1;have:=kE.1;omega,fun z hz=>by rw [fF z (by omega),kE.2 z (by have:=kB.1;omega),kB.2 z hz]⟩,hR.put wE (by omega) fF⟩;refine aT (aB Tryz.func11) (c:=Tryz.f11.body.getD .skip) (by kernel_rfl) (by rw [Tryz.ntmps11];simp) (by kernel_rfl) (by kernel_rfl) ?_;apply W.a6 (g) 60
 ·intro M hM;simp (disch:=first|decide+kernel|omega) only [Tryz.f11,Aq,X2,dp,au,hB,mr,kn,hg,X8,X7,sF,lF];rfl
 exact⟨by simp,rfl,rfl,by simp only [Tryz.f11,Aq,X2,dp,au,hB,mr,kn,hg,X8,X7,sF,lF]<;>rfl⟩
theorem Wr:ai.bp 40=some (.slice 54):=by kernel_rfl
theorem Xw:cq ai 54= .ok (1,[.pointer none]):=by kernel_rfl
theorem W6:∃i,ai.ty.get 54=some i∧0<i.bytes∧i.bytes≤65536:=by
 have h:((ai.ty.get 54).map fun i=>i.bytes)=some 8:=by kernel_rfl
 cases hq:ai.ty.get 54 with
 |none=>rw [hq] at h;cases h
 |some i=>
  rw [hq] at h;have:i.bytes=8:=by simpa using h
  exact⟨i,rfl,by omega,by omega⟩
theorem Xm:bc ai 40 1 [(0,pw p 0)]= .ok (aa 54 [pw p 0],.m_ 1 2):=by kernel_rfl
def kj (A:Mem) (ls:List (List aP)) (x:Value):Prop:=∃b xs,pQ A 54 b xs x∧xs.length=ls.length∧∀(i:Nat) (l:List aP),ls[i]?=some l→∃v,xs[i]?=some v∧jz A l v
theorem kj.kp {ls:List (List aP)} {x:Value} (h:kj A ls x) (k:Kp A A'):kj A' ls x:=by
 obtain⟨b,xs,h1,h2,h3⟩:=h;exact⟨b,xs,h1.same k.1 (k.2 b),h2,fun i l hl=>(h3 i l hl).imp fun v hv=>⟨hv.1,hv.2.kp k⟩⟩
theorem kj.len {ls:List (List aP)} {x:Value} (h:kj A ls x):aO ai .len [40] [x]= .ok (.int .i64 (ls.length:Nat)):=by
 obtain⟨b,xs,h1,h2,-⟩:=h;rw [←h2];exact h1.len Wr
variable {v:Value}
theorem jz.Ls {l:List aP} {r:Nat} {k:Kd} {w:List Value} (h:jz A l v) (hv:VB A 54 r k w) (K:wm r A A'):jz A' l v:=by
 obtain⟨p,y,h1,h2,b,rows,h3,h4,h5⟩:=h;have hne:p≠r:=VB.ne h2 hv (by decide);refine⟨p,y,h1,⟨by have:=h2.1;have:=K.1;omega,h2.2.same (K.2 p h2.1 hne)⟩,b,rows,az.Ls h3 hv (by decide) K,h4,fun i s hs=>?_⟩;obtain⟨x,e1,c,e2⟩:=h5 i s hs;exact⟨x,e1,c,az.Ls e2 hv (by decide) K⟩
def Ta (fs:List (List UInt8×List UInt8)) (ls:List (List aP)) (j:Option Nat):Prop:=∀(i:Nat) (l:List aP),ls[i]?=some l→Ft l∧∃s,fileOf fs (mh (ls.length-i))=some s∧s.length=(crc.aK (ez l)).length∧(if j=some i then(crc.dN s).2=false else s=crc.aK (ez l))
noncomputable def c7:Code:=Z9.body.getD .skip
noncomputable def JD:Code:=sub c7 [1,0,1,1,1,0,1,0,0]
theorem UT:Z9.body=some (.seq (sub c7 [0]) (.scope (.seq (sub c7 [1,0,0]) (.seq (sub c7 [1,0,1,0]) (.seq (sub c7 [1,0,1,1,0]) (.seq (.seq (sub c7 [1,0,1,1,1,0,0]) (.block 0 (.loop JD))) (.seq (sub c7 [1,0,1,1,1,1,0]) (.seq (sub c7 [1,0,1,1,1,1,1,0]) (sub c7 [1,0,1,1,1,1,1,1]))))))))):=by kernel_rfl
def il (ls:List (List aP)) (j:Option Nat):Nat:=match j with
 |none=>ls.length
 |some i=>min i ls.length
theorem Jl:b7 ai 58= .ok (.agg ⟨[.int .i64 (0:Nat),.int .i64 (0:Nat),.int .i64 (0:Nat)]⟩):=Nk
variable {C:Mem}
theorem MB {ls:List (List aP)} {j:Option Nat} {K:Ex→St→Prop} {v2 v5:Value} (h:fT C p fs) (hF:Ta fs ls j) (hls:ls.length≤6) (hy:fg C (cP ls) y)
 (hs:Sl t [(0,.pointer (some ⟨p,0,none⟩)),(2,v2),(5,v5),(6,.int .i64 (0:Nat)),(7,.slice none 0 0),(17,y),(18,.int .i64 ls.length),(19,.int .i64 (0:Nat))])
 (hK:∀t D x,Kp C D→(il ls j=ls.length→kj D ls x)→Sl t [(2,v2),(5,v5),(6,.int .i64 (if il ls j=ls.length then 0 else 12:Nat)),(7,x)]→K (.exit 0) ⟨t,42,[],D,none⟩):
 W ai (.loop JD) ⟨t,42,[],C,none⟩ K:=by
 have hup:il ls j≤ls.length:=by
  unfold il;cases j with
  |none=>exact X9 _
  |some i=>exact qbJ _ _
 refine W.up (il ls j) (fun i t D=>(∃b xs x,pQ D 54 b xs x∧xs.length=i∧C.next≤b∧(∀(k:Nat) (l:List aP),k<i→ls[k]?=some l→∃v,xs[k]?=some v∧jz D l v)∧Sl t [(7,x)])∧Kp C D∧Sl t [(0,.pointer (some ⟨p,0,none⟩)),(2,v2),(5,v5),(6,.int .i64 (0:Nat)),(17,y),(18,.int .i64 ls.length),(19,.int .i64 i)]) ?_ (Yg _) ⟨⟨C.next,[],.slice none 0 0,.inl ⟨rfl,rfl⟩,rfl,X9 _,fun k l hk=>absurd hk (ZR _),?_⟩,Kp.refl _,?_⟩
 ·rintro i t D hi ⟨⟨b,xs,x,hS,hxl,hb,hX,g7,-⟩,kD,g0,g2,g5,g6,g17,g18,g19,-⟩;by_cases hlt:i<ls.length
  ·have hli:ls[i]?=some ls[i]:=X6 hlt;obtain⟨hok,s,hfs,hsl,hsb⟩:=hF i _ hli;obtain⟨b0,o0,j1,j2,-⟩:=(hy.kp kD).at (uw hli);have sE:aW ai (D.alloc (aa 58 [.int .i64 (0:Nat),.int .i64 (0:Nat),.int .i64 (0:Nat)])) 58 (.pointer (some ⟨D.next,0,none⟩)) (.agg ⟨dw (vX (ls.length-i) ls[i])⟩)= .ok (D.alloc (aa 58 (dw (vX (ls.length-i) ls[i])))):=bn (by exact UQ) rfl rfl (by simp) (by simp [dw,aJ]);have kE:=Kp.alloc D (aa 58 (dw (vX (ls.length-i) ls[i])));have vE:=aF D 58 (dw (vX (ls.length-i) ls[i]));have j2:aq ai D.get 58 (.pointer (some ⟨b0,o0,none⟩))= .ok (.agg ⟨dw (vX (ls.length-i) ls[i])⟩):=j2;generalize hEe:D.alloc (aa 58 (dw (vX (ls.length-i) ls[i])))=E at kE vE sE;have lE:aq ai E.get 58 (.pointer (some ⟨D.next,0,none⟩))= .ok (.agg ⟨dw (vX (ls.length-i) ls[i])⟩):=by
    obtain⟨d,hd1,hd2⟩:=bA (t:=58) (p:=true) (by kernel_rfl);exact aQ hd1 hd2 (l:=dw (vX (ls.length-i) ls[i])) UQ vE.2
   by_cases hji:j=some i
   ·rw [if_pos hji] at hsb;obtain⟨v,F,⟨g,hg⟩,kF,z,-,rfl⟩:=LP (h.kp (kD.trans kE)) (n:=ls.length-i) (by omega) hfs hok hsl false hsb;simp only [Yj,if_false] at hg;have hui:il ls j=i:=by rw [hji];exact Y4 (by omega)
    apply W.a6 (g) 20
    ·intro M hM;simp (disch:=first|decide+kernel|omega) only [JD,c7,Z9,Aq,X2,g0,g17,g18,g19,hlt,j1,j2,Jl,au,sE,aV,lE,hg,X8,X7,show Yc 0 1=false from rfl];rfl
    refine hK _ _ x (kD.trans (kE.trans kF)) (fun e=>by omega) ?_;rw [if_neg (by omega)];simp only [av,aw,T.af,T.ag,T.ak,X2,X3,if_true,if_false,and_true,true_and,g2,g5,g7]
   ·rw [if_neg hji] at hsb;obtain⟨v,F,⟨g,hg⟩,kF,z,hz,rfl⟩:=LP (h.kp (kD.trans kE)) (n:=ls.length-i) (by omega) hfs hok hsl true hsb;simp only [if_true] at hg;have hz:=hz rfl;have hlu:i<il ls j:=by
     rcases YE i (il ls j) with hu|hu
     ·exact hu
     ·have:il ls j=i:=by omega
      unfold il at this;cases j with
      |none=>simp only at this;omega
      |some q=>
       simp only at this;have:q=i:=by omega
       exact absurd (by rw [this]) hji
    obtain⟨pz,yz,hzp,-⟩:=id hz;rw [hzp] at hg;simp only [pV] at hg;obtain⟨ti,t1,t2,t3⟩:=W6;have kEF:=kE.trans kF;have hSF:=hS.same kEF.1 (kEF.2 b);have hbx:∃b2,pQ F 54 b2 xs x∧C.next≤b2∧∀(G:Mem),F.next≤G.next→(∀z,z≠b2→z<F.next→G.get z=F.get z)→∀(l:List aP) v,jz F l v→jz G l v:=by
     rcases hSF with⟨h1,h2⟩|⟨k,c,q1,q2,q3,q4⟩
     ·exact⟨F.next,.inl ⟨h1,h2⟩,by have:=kD.1;have:=kEF.1;omega,fun G hn hf l v hv=>hv.kp ⟨hn,fun z hz=>hf z (by omega) hz⟩⟩
     ·exact⟨b,.inr ⟨k,c,q1,q2,q3,q4⟩,hb,fun G hn hf l v hv=>hv.Ls ⟨q2,q3⟩ ⟨hn,fun z hz h=>hf z h hz⟩⟩
    obtain⟨b2,hSF2,hb2,hkeep⟩:=hbx;have kG:=Kp.alloc F (aa 54 [z]);have nG1:(F.alloc (aa 54 [z])).next=F.next+1:=ae _ _
    obtain⟨x',G,happ,hS',nG,fG⟩:=(hSF2.same kG.1 (kG.2 b2)).append (tb:=ai) (st:=40) (xt:=40) Wr Wr Xw t1 t2 t3 (by omega) (aD F _) (by rw [hzp];rfl);rw [nG1] at nG fG hS';rw [hzp] at happ;simp only [pV] at happ;have a1:aN .add .i64 ((i:Nat):Int) ((1:Nat):Int)= .ok (.int .i64 (i+1:Nat)):=a9 (aR (by omega));have fGF:∀w,w≠b2→w<F.next→G.get w=F.get w:=fun w h1 h2=>by rw [fG w h1 (by omega),kG.2 w h2]
    have nF:=kEF.1;have nD:=kD.1;apply W.a6 (g) 20
    ·intro M hM;simp (disch:=first|decide+kernel|omega) only [JD,c7,Z9,Aq,X2,g0,g7,g17,g18,g19,hlt,j1,j2,Jl,au,sE,aV,lE,hg,X8,X7,Xm,happ,a1];rfl
    refine⟨hlu,_,_,rfl,⟨F.next+1,xs++[z],x',hS',by rw [X',hxl];rfl,by omega,fun k l hk hkl=>?_,?_⟩,⟨by omega,fun w hw=>?_⟩,?_⟩
    ·rcases YE k i with hki|hki
     ·obtain⟨v,e1,e2⟩:=hX k l hki hkl;exact⟨v,by rw [Yz (by omega)];exact e1,hkeep G (by omega) fGF l v (e2.kp kEF)⟩
     ·have:k=i:=by omega
      subst this;rw [hli] at hkl;cases hkl;exact⟨z,by rw [YA (by omega),hxl,Zg];rfl,hkeep G (by omega) fGF _ _ hz⟩
    ·simp only [av,aw,T.af,T.ag,T.ak,X2,X3,if_true,if_false,and_true,true_and]
    ·rw [fGF w (by omega) (by omega),kEF.2 w (by omega),kD.2 w hw]
    ·simp only [av,aw,T.af,T.ag,T.ak,X2,X3,if_true,if_false,and_true,true_and,g0,g2,g5,g17,g18]
  ·have e:i=ls.length:=by omega
   subst e;have hue:il ls j=ls.length:=by omega
   apply W.run 20
   ·intro M;simp (disch:=first|decide+kernel|omega) only [JD,c7,Z9,Aq,X2,g18,g19,Zk];rfl
   refine hK _ _ x kD (fun _=>⟨b,xs,hS,hxl,fun k l hkl=>hX k l (X_.1 hkl).1 hkl⟩) ?_;rw [if_pos hue];simp only [av,aw,T.af,T.ag,T.ak,X2,X3,if_true,if_false,and_true,true_and,g2,g5,g6,g7]
 ·obtain⟨g0,g2,g5,g6,g7,g17,g18,g19,-⟩:=hs;exact⟨g7,trivial⟩
 ·obtain⟨g0,g2,g5,g6,g7,g17,g18,g19,-⟩:=hs;exact⟨g0,g2,g5,g6,g17,g18,g19,trivial⟩
theorem kj.put {ls:List (List aP)} {x:Value} {k:Kd} {w:List Value} (h:kj A ls x) (hv:VB A 39 b k w) (hn:A.next≤A'.next) (hf:∀z,z≠b→A'.get z=A.get z):kj A' ls x:=by
 obtain⟨c,xs,h1,h2,h3⟩:=h;have K:wm b A A':=⟨hn,fun z _ h=>hf z h⟩;refine⟨c,xs,?_,h2,fun i l hl=>?_⟩
 ·rcases h1 with h1|⟨k',d,q1,q2,q3,q4⟩
  ·exact .inl h1
  ·exact pQ.same (.inr ⟨k',d,q1,q2,q3,q4⟩) hn fun _=>hf c (VB.ne (A:=A) ⟨q2,q3⟩ hv (by decide))
 ·obtain⟨v,e1,p,y,f1,f2,c2,rows,f3,f4,f5⟩:=h3 i l hl;refine⟨v,e1,p,y,f1,⟨by have:=f2.1;omega,f2.2.same (hf p (VB.ne f2 hv (by decide)))⟩,c2,rows,az.Ls f3 hv (by decide) K,f4,fun i s hs=>?_⟩;obtain⟨x,g1,c3,g2⟩:=f5 i s hs;exact⟨x,g1,c3,az.Ls g2 hv (by decide) K⟩
variable {k:Nat}
theorem RP {ls:List (List aP)} {j:Option Nat} {s:List UInt8} (h:fT A p fs) (hw:fileOf fs jF=some s) (hm:Ez is (cT ls k) s) (hF:Ta fs ls j) (hls:ls.length≤6):
 ∃l x E,bL ai 7 [.pointer (some ⟨p,0,none⟩)] A (.tuple ⟨[.agg ⟨l⟩,x,.int .i64 (if is=true∧il ls j=ls.length then 0 else 12:Nat)]⟩) E∧Kp A E∧
  ((is=true∧il ls j=ls.length)→(∃y,l=bS y (cT ls k)∧fg E (cP ls) y)∧kj E ls x)∧(¬(is=true∧il ls j=ls.length)→l=b_∧x= .slice none 0 0):=by
 suffices hsuf:∃v E,bL ai 7 [.pointer (some ⟨p,0,none⟩)] A v E∧(∃l x,v= .tuple ⟨[.agg ⟨l⟩,x,.int .i64 (if is=true∧il ls j=ls.length then 0 else 12:Nat)]⟩∧Kp A E∧
  ((is=true∧il ls j=ls.length)→(∃y,l=bS y (cT ls k)∧fg E (cP ls) y)∧kj E ls x)∧(¬(is=true∧il ls j=ls.length)→l=b_∧x= .slice none 0 0)) by
  obtain⟨v,E,h1,l,x,rfl,h2⟩:=hsuf;exact⟨l,x,E,h1,h2⟩
 refine cS (aB Tryz.func7) UT (by rw [Tryz.ntmps7];simp) (by kernel_rfl) (by kernel_rfl) ?_;have kB:=Kp.alloc A (aa 39 b_);have vB:=aF A 39 b_;apply W.seq;apply W.run 20
 ·intro M;simp (disch:=first|decide+kernel|omega) only [c7,Z9,Aq,X2,dp,au];rfl
 show W ai _ _ _;generalize A.alloc (aa 39 b_)=B at kB vB;obtain⟨l,C,⟨g,hg⟩,kC,hR⟩:=Mz (h.kp kB) hw hm;have kD:=Kp.alloc C (aa 39 l);have vD:=aF C 39 l;have sD:aW ai (C.alloc (aa 39 b_)) 39 (.pointer (some ⟨C.next,0,none⟩)) (.agg ⟨l⟩)= .ok (C.alloc (aa 39 l)):=bn (by rw [hR.1];exact zQ) rfl (by rw [hR.1];rfl) (by simp [b_]) hR.2.1;apply W.scope;apply W.seq;apply W.a6 (g) 20
 ·intro M hM;simp (disch:=first|decide+kernel|omega) only [c7,Z9,Aq,X2,hg,X8,X7,dp,au,sD];rfl
 show W ai _ _ _;have hRD:=hR.kp kD;generalize C.alloc (aa 39 l)=D at kD vD sD hRD;have kBD:=kC.trans kD;have wD:=vB.kp kBD;have lD:=lW vD.2 hR.1;apply W.seq;apply W.run 20
 ·intro M;simp (disch:=first|decide+kernel|omega) only [c7,Z9,Aq,X2];rfl
 apply W.seq;refine W.run 1 (fun m=>rfl) ?_;show W ai _ _ _;cases is with
 |false=>
  obtain rfl:=hR.2.2.2 rfl;have ly:aq ai D.get 34 (.pointer (some ⟨C.next,3,none⟩))= .ok (.slice none 0 0):=vD.ld rfl Fo rfl;have ll:aO ai .len [34] [.slice none 0 0]= .ok (.int .i64 (0:Nat)):=dJ Fo;obtain⟨E,sE,vE,nE,fE⟩:=bx (tb:=ai) (t:=39) (l':=b_) (by exact zQ) wD.2 rfl (by simp [b_]) P1;have lE:=lW vE rfl;have bd39:cr ai 39 []= .ok (.agg ⟨b_⟩):=by kernel_rfl
  apply W.seq;apply W.seq;apply W.run 20
  ·intro M;simp (disch:=first|decide+kernel|omega) only [c7,Z9,Aq,X2,xi,ly,ll];rfl
  apply W.block;apply W.round;apply W.run 20
  ·intro M;simp (disch:=first|decide+kernel|omega) only [JD,c7,Z9,Aq,X2,Zk];rfl
  apply W.seq;apply W.run 20
  ·intro M;simp (disch:=first|decide+kernel|omega) only [c7,Z9,Aq,X2,bd39,sE];rfl
  refine⟨by simp,rfl,_,(by simp only [Z9,lE,Aq,X2]<;>rfl),_,_,rfl,⟨by show A.next≤E.next;have:=kB.1;have:=kBD.1;omega,fun z hz=>by show E.get z=A.get z;rw [fE z (by omega),kBD.2 z (by have:=kB.1;omega),kB.2 z hz]⟩,fun hh=>(by cases hh.1),fun _=>⟨rfl,rfl⟩⟩
 |true=>
  obtain⟨y,rfl,hS⟩:=hRD.2.2.1 rfl;have ly:aq ai D.get 34 (.pointer (some ⟨C.next,3,none⟩))= .ok y:=vD.ld rfl Fo rfl;have ll:=hS.len;have e1:(cT ls k).segs.length=ls.length:=dy ls;rw [e1] at ll;apply W.seq;apply W.seq;apply W.run 20
  ·intro M;simp (disch:=first|decide+kernel|omega) only [c7,Z9,Aq,X2,xi,ly,ll];rfl
  apply W.block;refine MB (v2:=pV A.next) (v5:=pV C.next) (h.kp (kB.trans kBD)) hF hls hS (by simp only [av,aw,T.af,T.ag,T.ak,X2,X3,if_true,if_false,and_true,true_and,pV]) ?_;rintro t E x kE hx ⟨g2,g5,g6,g7,-⟩;simp only [pV] at g2 g5;show W ai _ _ _;have wE:=wD.kp kE;by_cases hall:il ls j=ls.length
  ·rw [if_pos hall] at g6;have hX:=hx hall;have lE:=lW (vD.kp kE).2 rfl;have hone:∀v∈bS y (cT ls k),aJ v=true:=hR.2.1;obtain⟨F,sF,vF,nF,fF⟩:=bx (tb:=ai) (t:=39) (l':=bS y (cT ls k)) (by exact zQ) wE.2 rfl (by simp [b_]) hone;have lF:=lW vF rfl;apply W.seq;apply W.run 20
   ·intro M;simp (disch:=first|decide+kernel|omega) only [c7,Z9,Aq,X2,g6];rfl
   apply W.seq;apply W.run 20
   ·intro M;simp (disch:=first|decide+kernel|omega) only [c7,Z9,Aq,X2,g2,g5,g7,lE,sF];rfl
   apply W.run 20
   ·intro M;simp (disch:=first|decide+kernel|omega) only [c7,Z9,Aq,X2];rfl
   refine⟨by simp,rfl,_,(by simp only [Z9,g2,lF,Aq,X2]<;>rfl),_,_,(by rw [if_pos ⟨rfl,hall⟩]),⟨by show A.next≤F.next;have:=kB.1;have:=kBD.1;have:=kE.1;omega,fun z hz=>by show F.get z=A.get z;rw [fF z (by omega),kE.2 z (by have:=kB.1;have:=kBD.1;omega),kBD.2 z (by have:=kB.1;omega),kB.2 z hz]⟩,fun _=>⟨⟨y,rfl,(hS.kp kE).put wE (by show E.next≤F.next;omega) fF⟩,hX.put wE (by show E.next≤F.next;omega) fF⟩,fun hh=>absurd ⟨rfl,hall⟩ hh⟩
  ·rw [if_neg hall] at g6;obtain⟨F,sF,vF,nF,fF⟩:=bx (tb:=ai) (t:=39) (l':=b_) (by exact zQ) wE.2 rfl (by simp [b_]) P1;have lF:=lW vF rfl;have bd39:cr ai 39 []= .ok (.agg ⟨b_⟩):=by kernel_rfl
   apply W.seq;apply W.run 20
   ·intro M;simp (disch:=first|decide+kernel|omega) only [c7,Z9,Aq,X2,g2,g6,bd39,sF];rfl
   refine⟨by simp,rfl,_,(by simp only [Z9,g2,lF,Aq,X2]<;>rfl),_,_,(by rw [if_neg (fun hh=>hall hh.2)]),⟨by show A.next≤F.next;have:=kB.1;have:=kBD.1;have:=kE.1;omega,fun z hz=>by show F.get z=A.get z;rw [fF z (by omega),kE.2 z (by have:=kB.1;have:=kBD.1;omega),kBD.2 z (by have:=kB.1;omega),kB.2 z hz]⟩,fun hh=>absurd hh.2 hall,fun _=>⟨rfl,rfl⟩⟩
def nq (a b c:Nat) (x:Value):List Value:=[.int .i64 a,.int .i64 b,.int .i64 c,x]
theorem fg.m_ {l:List (Nat×Nat×Nat)} {x:Value} (h:fg A l x):∃a n c,x= .slice a n c:=by
 obtain⟨b,⟨rfl,-⟩|⟨_,_,rfl,-⟩⟩:=h
 ·exact⟨_,_,_,rfl⟩
 ·exact⟨_,_,_,rfl⟩
variable {n:Nat}
theorem Vv {a b c:Int} {p:Option Addr}:cr ai 36 [(0,.int .i64 a),(1,.int .i64 b),(2,.int .i64 c),(3,.slice p n k)]= .ok (.agg ⟨[.int .i64 a,.int .i64 b,.int .i64 c,.slice p n k]⟩):=by kernel_rfl
theorem M1 {k:Kd} (h:dD A 36 b k l) (hl:l.length=4):aq ai A.get 36 (pw b 0)= .ok (.agg ⟨l⟩):=by
 obtain⟨d,hd1,hd2⟩:=bA (t:=36) (p:=true) (by kernel_rfl);exact aQ hd1 hd2 (by rw [hl];exact jH) h
variable {c:Nat}
theorem Gj {a:Nat} {x:Value} {l:List (Nat×Nat×Nat)} (h:fg A l x):∃E,bL ai 10 [.agg ⟨nq a b c x⟩] A (.agg ⟨nq a b c x⟩) E∧Kp A E:=by
 obtain⟨p,n,k,rfl⟩:=h.m_;have kB:=Kp.alloc A (aa 39 (nq a b c (.slice p n k)));have vB:=aF A 39 (nq a b c (.slice p n k));generalize hB:A.alloc (aa 39 (nq a b c (.slice p n k)))=B at kB vB;have kC:=Kp.alloc B (aa 36 b_);have vC:=aF B 36 b_;have wB:=vB.kp kC;generalize hC:B.alloc (aa 36 b_)=C at kC vC wB;have l0:aq ai C.get 3 (pw A.next 0)= .ok (.int .i64 a):=wB.ld rfl u3 rfl;have l1:aq ai C.get 3 (pw A.next 1)= .ok (.int .i64 b):=wB.ld rfl u3 rfl;have l2:aq ai C.get 3 (pw A.next 2)= .ok (.int .i64 c):=wB.ld rfl u3 rfl;have l3:aq ai C.get 34 (pw A.next 3)= .ok (.slice p n k):=wB.ld rfl Fo rfl;obtain⟨D,sD,vD,nD,fD⟩:=bx (tb:=ai) (t:=36) (l':=nq a b c (.slice p n k)) (by exact jH) vC.2 rfl (by simp [b_]) (by simp [nq,aJ]);have sD':aW ai C 36 (pw B.next 0) (.agg ⟨[.int .i64 a,.int .i64 b,.int .i64 c,.slice p n k]⟩)= .ok D:=sD;have lD:=M1 vD rfl;have z36:b7 ai 36= .ok (.agg ⟨b_⟩):=tR;refine⟨D,?_,⟨by have:=kB.1;have:=kC.1;omega,fun z hz=>by rw [fD z (by have:=kB.1;omega),kC.2 z (by have:=kB.1;omega),kB.2 z hz]⟩⟩;refine aT (aB Tryz.func10) (c:=Tryz.f10.body.getD .skip) (by kernel_rfl) (by rw [Tryz.ntmps10];simp) (by kernel_rfl) (by kernel_rfl) ?_;apply W.run 60
 ·intro M;simp (disch:=first|decide+kernel|omega) only [Tryz.f10,Aq,X2,au,hB,z36,hC,Dg,DT,zg,xi,l0,l1,l2,l3,Vv,sD',lD];rfl
 exact⟨by simp,rfl,rfl,by simp only [Tryz.f10,Aq,X2,au,hB,z36,hC,Dg,DT,zg,xi,l0,l1,l2,l3,Vv,sD',lD]<;>rfl⟩
theorem QK:fieldsOf (ai.bp 58)=[(false,3,0),(false,3,1),(false,3,2)]:=by kernel_rfl
theorem U5 {g:Nat→Option Ob} {x y:Operand} {s:Nat×Nat×Nat}:u_ ai g .neq 58 x y (.agg ⟨dw s⟩) (.agg ⟨dw s⟩)= .ok (.bool false):=by
 have e:pY ai 58 x y (.agg ⟨dw s⟩) (.agg ⟨dw s⟩)=true:=by
  unfold pY;have:ai.P.eqGuardType ai.P.depth 58=false:=by decide+kernel
  rw [this];rfl
 have q:eZ ai g 100 58 (.agg ⟨dw s⟩) (.agg ⟨dw s⟩)= .ok true:=by
  rw [r_ (by kernel_rfl) QK (by kernel_rfl)];simp only [ib,cond_false,dw];rw [fW u3 rfl rfl,fW (o:=1) u3 rfl rfl,fW (o:=2) u3 rfl rfl];simp only [R.aA,o_ (tb:=ai) (t:=3) u3];simp [R.aA]
 unfold u_;rw [e,cond_true];simp only [];rw [q];rfl
noncomputable def c9:Code:=qb5.body.getD .skip
noncomputable def Ss:Code:=sub c9 [1,1,0,1,0,0]
theorem UR:qb5.body=some (.seq (sub c9 [0]) (.seq (sub c9 [1,0]) (.seq (.seq (sub c9 [1,1,0,0]) (.block 0 (.loop Ss))) (.seq (sub c9 [1,1,1,0]) (sub c9 [1,1,1,1]))))):=by kernel_rfl
theorem ui {a:Nat} {x:Value} {l:List (Nat×Nat×Nat)} (h:fg A l x) (h2:fg A l y) (hl:l.length≤1000):∃v E,bL ai 9 [.agg ⟨nq a b c x⟩,.agg ⟨nq a b c y⟩] A v E∧v= .bool true∧Kp A E:=by
 refine cS (aB Tryz.func9) UR (by rw [Tryz.ntmps9];simp) (by kernel_rfl) (by kernel_rfl) ?_;have n1:(A.alloc (aa 36 (nq a b c x))).next=A.next+1:=ae _ _
 have k1:=Kp.alloc A (aa 36 (nq a b c x));have k2:=Kp.alloc (A.alloc (aa 36 (nq a b c x))) (aa 36 (nq a b c y));have v1:=(aF A 36 (nq a b c x)).kp k2;have v2:=aF (A.alloc (aa 36 (nq a b c x))) 36 (nq a b c y);rw [n1] at v2;apply W.seq;apply W.run 20
 ·intro M;simp (disch:=first|decide+kernel|omega) only [c9,qb5,Aq,X2,au,n1];rfl
 show W ai _ _ _;have kB:=k1.trans k2;generalize (A.alloc (aa 36 (nq a b c x))).alloc (aa 36 (nq a b c y))=B at k2 v1 v2 kB;have a0:aq ai B.get 3 (pw A.next 0)= .ok (.int .i64 a):=v1.ld rfl u3 rfl;have a1:aq ai B.get 3 (pw A.next (0+1))= .ok (.int .i64 b):=v1.ld rfl u3 rfl;have a2:aq ai B.get 3 (pw A.next (0+2))= .ok (.int .i64 c):=v1.ld rfl u3 rfl;have a3:aq ai B.get 34 (pw A.next (0+3))= .ok x:=v1.ld rfl Fo rfl;have b0:aq ai B.get 3 (pw (A.next+1) 0)= .ok (.int .i64 a):=v2.ld rfl u3 rfl;have b1:aq ai B.get 3 (pw (A.next+1) (0+1))= .ok (.int .i64 b):=v2.ld rfl u3 rfl;have b2:aq ai B.get 3 (pw (A.next+1) (0+2))= .ok (.int .i64 c):=v2.ld rfl u3 rfl;have b3:aq ai B.get 34 (pw (A.next+1) (0+3))= .ok y:=v2.ld rfl Fo rfl;have l1:=(h.kp kB).len;have l2:=(h2.kp kB).len;apply W.seq;apply W.run 20
 ·intro M;simp (config:={maxSteps:=4000000}) (disch:=first|decide+kernel|omega|simp only [Wq,X2]) only [c9,qb5,Aq,X5,reduceIte,X2,X3,IC,L0,Df,mi,a0,a1,a2,a3,b0,b1,b2,b3,l1,l2];rfl
 apply W.seq;apply W.seq;apply W.run 20
 ·intro M;simp (disch:=first|decide+kernel|omega) only [c9,qb5,Aq,X2];rfl
 apply W.block;refine W.up l.length (fun i t D=>D=B∧Sl t [(2,pw A.next 0),(3,pw (A.next+1) 0),(5,.int .i64 i)]) ?_ (Yg _) ⟨rfl,?_⟩
 ·rintro i t D hi ⟨rfl,g2,g3,g5,-⟩;by_cases hlt:i<l.length
  ·have hli:l[i]?=some l[i]:=X6 hlt;obtain⟨p1,o1,i1,j1,-⟩:=(h.kp kB).at hli;obtain⟨p2,o2,i2,j2,-⟩:=(h2.kp kB).at hli;have hne:jw (ai.bp 58)=false:=by kernel_rfl
   apply W.run 20
   ·intro M;simp (config:={maxSteps:=4000000}) (disch:=first|decide+kernel|omega|simp only [Wq,X2]) only [Ss,c9,qb5,Aq,X5,reduceIte,X2,X3,g2,g3,g5,mi,a3,b3,l1,hlt,i1,j1,i2,j2,Cc,U5,Fq,aC []];rfl
   refine⟨hlt,_,_,rfl,rfl,?_⟩;simp only [av,aw,T.af,T.ag,T.ak,X2,X3,if_true,if_false,and_true,true_and,g2,g3]
  ·have e:i=l.length:=by omega
   subst e;apply W.run 20
   ·intro M;simp (disch:=first|decide+kernel|omega) only [Ss,c9,qb5,Aq,X2,g2,g5,mi,a3,l1,Zk];rfl
   apply W.seq;apply W.run 20
   ·intro M;simp (disch:=first|decide+kernel|omega) only [c9,qb5,Aq,X2];rfl
   apply W.run 20
   ·intro M;simp (disch:=first|decide+kernel|omega) only [c9,qb5,Aq,X2];rfl
   exact⟨by simp,rfl,_,(by simp only [qb5,Aq,X2]<;>rfl),rfl,kB⟩
 ·simp only [av,aw,T.af,T.ag,T.ak,X2,X3,if_true,if_false,and_true,true_and]
end Go.Proofs.YtggndfefpbmaeaaGreatDoor.sto
namespace Go.Proofs.YtggndfefpbmaeaaGreatDoor.crc
open Go.Am
def qg (at_ p:Nat) (l:List UInt8) (k:Nat):List UInt8:=
 if p>>>k&&&1=1∧at_+k<8*l.length then l.set ((at_+k)/8) (.ofNat ((l.getD ((at_+k)/8) 0).toNat^^^(1<<<((at_+k) % 8) % 256))) else l
def jb (at_ p:Nat) (l:List UInt8):Nat→List UInt8
 |0=>l
 |k+1=>qg at_ p (jb at_ p l k) k
theorem Jy (at_ p:Nat) (l:List UInt8) (k:Nat):(qg at_ p l k).length=l.length:=by
 unfold qg;split<;>simp
theorem pD (at_ p:Nat) (l:List UInt8):∀k,(jb at_ p l k).length=l.length
 |0=>rfl
 |k+1=>by show(qg _ _ _ _).length=_;rw [Jy,pD at_ p l k]
def lj (l:List UInt8) (at_ p:Nat):List UInt8:=jb at_ p l 32
theorem zU (l:List UInt8) (at_ p:Nat):(lj l at_ p).length=l.length:=pD at_ p l 32
end Go.Proofs.YtggndfefpbmaeaaGreatDoor.crc
namespace Go.Proofs.YtggndfefpbmaeaaGreatDoor.crc
def num:List UInt8→Nat
 | []=>0
 |c::l=>c.toNat^^^2^8*num l
theorem IX (k a b:Nat):2^k*(a^^^b)=2^k*a^^^2^k*b:=by
 apply Z6;intro i;simp only [qaJ,qa8];cases decide (i≥k)<;>simp
variable {k:Nat}
theorem pC {a:Nat} (h:a<2^k) (n:Nat):a^^^2^k*n=2^k*n+a:=by
 apply Z6;intro i;rw [Nat.testBit_two_pow_mul_add _ h,qaJ,qa8];by_cases hi:i<k
 ·simp [hi,show¬k≤i by omega]
 ·have:a.testBit i=false:=qbh (Yt h (Y2 (by omega) (by omega)));simp [hi,this,show k≤i by omega]
theorem IJ:∀(x y:List UInt8),x.length=y.length→num x=num y→x=y
 | [],[],_,_=>rfl
 |c::x,d::y,hl,h=>by
  have hc:=c.toNat_lt;have hd:=d.toNat_lt;unfold num at h;rw [pC (k:=8) hc,pC (k:=8) hd] at h;rw [show(2:Nat)^8=256 by rfl] at h hc hd;have h1:c=d:=ZS.1 (by omega);have h2:x=y:=IJ x y (by simpa using hl) (by omega);rw [h1,h2]
theorem rO:∀(l:List UInt8) (n:Nat),lY n l=cu (8*l.length) (n^^^num l)
 | [],n=>by show n=cu 0 (n^^^0);rw [qaG];rfl
 |c::l,n=>by
  show lY (yL n c.toNat) l=_;rw [rO l,C7,Yf,show 8*(l.length+1)=8+8*l.length by omega,jK 8];congr 1;show _=cu 8 (n^^^(c.toNat^^^2^8*num l));rw [←Zp,ga 8 (n^^^c.toNat),fy]
theorem OS {x:Nat} (h:x<4294967296):num (four x)=x:=by
 have e:∀v:Nat,v<256→(Zc v).toNat=v:=fun v hv=>by rw [qaA];exact Zb hv
 unfold four num num num num num;rw [e _ (by omega),e _ (by omega),e _ (by omega),e _ (by omega)];rw [pC (k:=8) (by omega),pC (k:=8) (by omega),pC (k:=8) (by omega),pC (k:=8) (by omega)];omega
theorem not_xor {r:Nat} (h:r<4294967296):r^^^(4294967295-r)=4294967295:=by
 apply Z6;intro i;rw [qaJ,show 4294967295-r=2^32-(r+1) by omega,Nat.testBit_two_pow_sub_succ (by omega:r<2^32),show(4294967295:Nat)=2^32-1 by rfl,Nat.testBit_two_pow_sub_one];by_cases hi:i<32
 ·simp [hi]
 ·have:r.testBit i=false:=qbh (Yt (show r<2^32 by omega) (Y2 (by omega) (by omega)));simp [hi,this]
theorem Da (n:Nat) (a b:List UInt8):lY n (a++b)=lY (lY n a) b:=by unfold lY;rw [ZA]
theorem AP (l:List UInt8):lY 4294967295 (aK l)=cu 32 4294967295:=by
 have h:=BV (n:=4294967295) (by omega) l;unfold aK gU;rw [Da,rO (four _),OS (by omega),iN,not_xor h]
theorem OI (x y:List UInt8) (h:x.length=y.length) (n:Nat):lY n x^^^lY n y=cu (8*x.length) (num x^^^num y):=by
 rw [rO,rO,←h,←ga];congr 1;apply Z6;intro i;simp only [qaJ];cases n.testBit i<;>cases (num x).testBit i<;>cases (num y).testBit i<;>rfl
variable {b:Nat}
theorem xor_zero {a:Nat} (h:a^^^b=0):a=b:=by
 have:a=(a^^^b)^^^b:=by rw [Zp,Nat.xor_self,qaG]
 rw [this,h,Nat.zero_xor]
variable {n:Nat}
theorem KN (h:n<4294967296) (h0:gS n=0):n=0:=by
 unfold gS at h0;by_cases hn:n % 2=1
 ·rw [if_pos hn] at h0;have:=xor_zero h0;omega
 ·rw [if_neg hn,qaG] at h0;omega
theorem xE:∀(k:Nat) {n:Nat},n<4294967296→cu k n=0→n=0
 |0,_,_,h=>h
 |k+1,_,h,h0=>KN h (xE k (Nb h) h0)
theorem H':∀(l:List UInt8) (i v:Nat),i<l.length→v<256→num (l.set i (.ofNat ((l.getD i 0).toNat^^^v)))=num l^^^2^(8*i)*v
 |c::l,0,v,_,hv=>by
  have e:(Zc (c.toNat^^^v)).toNat=c.toNat^^^v:=by
   rw [qaA];exact Zb (ZG (n:=8) c.toNat_lt hv)
  show(Zc (c.toNat^^^v)).toNat^^^2^8*num l=c.toNat^^^2^8*num l^^^2^0*v;rw [e,show 2^0*v=v by omega]
  ac_rfl
 |c::l,i+1,v,hi,hv=>by
  show c.toNat^^^2^8*num (l.set i (.ofNat ((l.getD i 0).toNat^^^v)))=c.toNat^^^2^8*num l^^^_;rw [H' l i v (by simpa using hi) hv,IX,←Nat.mul_assoc,←qaX,show 8+8*i=8*(i+1) by omega,Zp]
theorem C6 (at_ p:Nat) (l:List UInt8):∀k,∃w,w<2^k∧num (jb at_ p l k)=num l^^^2^at_*w
 |0=>⟨0,by decide,by show num l=_;simp⟩
 |k+1=>by
  obtain⟨w,h1,h2⟩:=C6 at_ p l k;show∃w,w<2^(k+1)∧num (qg at_ p (jb at_ p l k) k)=_;unfold qg;split
  ·rename_i h;have h8:(at_+k) % 8<8:=Y8 _ (by omega);have hs:1<<<((at_+k) % 8) % 256=2^((at_+k) % 8):=by
    rw [qbI,qaz];exact Zb (Nat.pow_lt_pow_right (a:=2) (n:=8) (by omega) h8)
   have hk1:2^k<2^(k+1):=Nat.pow_lt_pow_right (a:=2) (by omega) (Zu k);have hv8:2^((at_+k) % 8)<256:=Nat.pow_lt_pow_right (a:=2) (n:=8) (by omega) h8;refine⟨w^^^2^k,ZG (Nat.lt_trans h1 hk1) hk1,?_⟩;rw [hs,H' _ _ _ (by omega) hv8,h2,IX,Zp,←qaX,←qaX,show 8*((at_+k)/8)+(at_+k) % 8=at_+k by omega]
  ·exact⟨w,Yt h1 (Y2 (by omega) (by omega)),h2⟩
theorem KO (l:List UInt8) (at_ p:Nat) (ha:at_≤8*(aK l).length) (hne:lj (aK l) at_ p≠aK l):wF (lj (aK l) at_ p)=([],false):=by
 have hlen:=zU (aK l) at_ p;unfold wF;split
 ·rfl
 split
 ·rfl
 rename_i h4 he;refine absurd ?_ hne;have hy:lj (aK l) at_ p=aK ((lj (aK l) at_ p).take ((lj (aK l) at_ p).length-4)):=by
  unfold aK;unfold aK at he;rw [←Decidable.of_not_not he,qbp]
 have hx:=AP l;have hz:=AP ((lj (aK l) at_ p).take ((lj (aK l) at_ p).length-4));rw [←hy] at hz;have hd:=OI _ _ hlen 4294967295;rw [hx,hz,Nat.xor_self] at hd;obtain⟨w,h1,h2⟩:=C6 at_ p (aK l) 32;have hn:num (lj (aK l) at_ p)^^^num (aK l)=2^at_*w:=by
  show num (jb at_ p (aK l) 32)^^^_=_;rw [h2,Nat.xor_comm (num (aK l)),Zp,Nat.xor_self,qaG]
 rw [hn,hlen,show 8*(aK l).length=at_+(8*(aK l).length-at_) by omega,jK,fy] at hd;have hw:=xE _ (show w<4294967296 by exact h1) hd.symm;subst hw;rw [Nat.mul_zero] at hn;exact IJ _ _ hlen (xor_zero hn)
end Go.Proofs.YtggndfefpbmaeaaGreatDoor.crc
namespace Go.Proofs.YtggndfefpbmaeaaGreatDoor.sto
open Go.Am Go.Mdl Go.Sto
theorem rY:∀{fs:List (List UInt8×List UInt8)} {i:Nat} {f:List UInt8×List UInt8},(fs.map (·.1)).Nodup→fs[i]?=some f→fileOf fs f.1=some f.2
 |g::fs,0,f,_,h=>by
  cases h;unfold fileOf;rw [List.find?_cons,decide_eq_true rfl];rfl
 |g::fs,i+1,f,hn,h=>by
  rw [X7] at h;rw [ZB,qbc] at hn;have hne:f.1≠g.1:=fun e=>hn.1 (e▸YN.2 ⟨f,YF h,rfl⟩)
  have ih:=rY hn.2 h;unfold fileOf at ih⊢;rw [List.find?_cons,decide_eq_false hne];exact ih
variable {b:Nat}
theorem NA {a:Nat} (ha:a≤6) (hb:b≤6) (h:mh a=mh b):a=b:=by
 have:a=0∨a=1∨a=2∨a=3∨a=4∨a=5∨a=6:=by omega
 have:b=0∨b=1∨b=2∨b=3∨b=4∨b=5∨b=6:=by omega
 rcases‹a=0∨_› with rfl|rfl|rfl|rfl|rfl|rfl|rfl<;>rcases‹b=0∨_› with rfl|rfl|rfl|rfl|rfl|rfl|rfl<;>first|rfl|(exact absurd h (by decide))
theorem Eb (n:Nat):mh n≠jF:=by unfold mh jF;simp
theorem u7:∀{ls:List (List aP)},ls.length≤6→((eo ls).map (·.1)).Nodup
 | [],_=>qbs
 |l::r,h=>by
  rw [eo,ZB,qbc];rw [Yf] at h;refine⟨fun hm=>?_,u7 (by omega)⟩;obtain⟨f,hf,he⟩:=YN.1 hm;obtain⟨n,h1,h2,h3⟩:=iP hf;have:=NA (by omega) (by omega) (h3.symm.trans he);omega
theorem KL {ls:List (List aP)} (k:Nat) (o:List UInt8) (h:ls.length≤6):((iT ls k o).map (·.1)).Nodup:=by
 unfold iT;rw [YV,qbo];refine⟨?_,by simp,?_⟩
 ·unfold rI;rw [YV,qbo];refine⟨u7 h,by simp,?_⟩;rintro a ha b hb rfl;obtain⟨f,hf,rfl⟩:=YN.1 ha;obtain⟨n,-,-,e⟩:=iP hf;have:f.1=jF:=by simpa using hb
  exact Eb n (e.symm.trans this)
 ·rintro a ha b hb rfl;obtain⟨f,hf,rfl⟩:=YN.1 ha;have:f.1=uE:=by simpa using hb
  exact Ib hf this
variable {k:Nat}
theorem DW {ls:List (List aP)} {o:List UInt8}:∀f∈iT ls k o,0<f.1.length∧f.1.length≤64:=by
 intro f hf;unfold iT rI at hf;rcases Zs.1 hf with hf|hf
 ·rcases Zs.1 hf with hf|hf
  ·obtain⟨n,-,-,e⟩:=iP hf;rw [e];exact⟨by simp [mh],by simp [mh]⟩
  ·rw [Y7.1 hf];exact⟨by show 0<jF.length;decide,by show jF.length≤64;decide⟩
 ·rw [Y7.1 hf];exact⟨by show 0<uE.length;decide,by show uE.length≤64;decide⟩
theorem wQ (ls:List (List aP)) (k:Nat) (o:List UInt8):(iT ls k o).length=ls.length+2:=by unfold iT;rw [X',sO];rfl
variable {i:Nat}
theorem Bl {ls:List (List aP)} {o:List UInt8} {l:List aP} (h:ls[i]?=some l):(iT ls k o)[i]?=some (mh (ls.length-i),crc.aK (ez l)):=by
 have hi:=(X_.1 h).1;unfold iT rI;rw [Yz (by rw [X',cX];simp;omega),Yz (by rw [cX];exact hi)];exact qn h
theorem nb (ls:List (List aP)) (k:Nat) (o:List UInt8):(iT ls k o)[ls.length]?=some (jF,crc.aK (gx (cT ls k))):=by
 unfold iT rI;rw [Yz (by rw [X',cX];simp),YA (by rw [cX];exact X9 _),cX,Zg];rfl
theorem EN (ls:List (List aP)) (k:Nat) (o:List UInt8):(iT ls k o)[ls.length+1]?=some (uE,o.take 80):=by
 unfold iT;rw [YA (by rw [sO];exact X9 _),sO,Zg];rfl
theorem zV:∀l:List Nat,(∀n∈l,n<18446744073709551616)→(bT l).length≤9*l.length
 | [],_=>X9 _
 |n::l,h=>by
  have h1:=zV l fun x hx=>h x (Yi _ hx)
  have h2:=eM n (h n Yk);unfold bT at h1⊢;rw [Y0,X',Yf];omega
theorem HG {m:iK} (hm:oQ m) (hl:m.segs.length≤6):(gx m).length<800000:=by
 obtain⟨m1,m2,m3,m4,-⟩:=hm;have hlen:=sY m.segs;have:=zV ([m.ver,1,m.next,m.segs.length]++dk m.segs) (fun n hn=>by
  rcases Zs.1 hn with hn|hn
  ·simp only [Yp,YH,or_false] at hn;omega
  ·obtain⟨s,hs,hn⟩:=qaf.1 hn;obtain⟨⟨-,o2⟩,⟨-,o4⟩,-,o6⟩:=m4 s hs;simp only [Yp,YH,or_false] at hn;omega)
 rw [X',hlen] at this;unfold gx;rw [X'];simp only [Yf,Ys] at this⊢;omega
structure XH (ls:List (List aP)) (k q:Nat) (o Y:List UInt8) (G:List (List UInt8×List UInt8)) (is:Bool) (j:Option Nat) (s:List UInt8):Prop where
 man:fileOf G jF=some s
 mans:Ez is (cT ls k) s
 segs:Ta G ls j
 name:∀f∈G,0<f.1.length∧f.1.length≤64
 nodup:(G.map (·.1)).Nodup
 len:G.length=ls.length+2
variable {fs:List (List UInt8×List UInt8)} {q:Nat}
theorem Le {f:List UInt8×List UInt8} {Y:List UInt8} (h:fs[q]?=some f):(fs.set q (f.1,Y)).map (·.1)=fs.map (·.1):=by
 rw [qbW];refine List.ext_getElem? fun i=>?_
 rw [Zn];split
 ·rename_i e;subst e;obtain⟨hi,rfl⟩:=X_.1 h;rw [if_pos (by rw [Yb];exact hi),Yr,h];rfl
 ·rfl
theorem Ow {ls:List (List aP)} {o Y:List UInt8} {f:List UInt8×List UInt8} (hls:ls.length≤6) (hok:∀l∈ls,Ft l) (hf:(iT ls k o)[q]?=some f) (hY:Y=f.2∨q=ls.length+1∨(Y.length=f.2.length∧(crc.dN Y).2=false)):
 ∃s,XH ls k q o Y ((iT ls k o).set q (f.1,Y)) (decide (Y=f.2∨q≠ls.length)) (if Y≠f.2∧q<ls.length then some q else none) s:=by
 have hn:=KL k o hls;have hns:=Le (Y:=Y) hf;have hn':(((iT ls k o).set q (f.1,Y)).map (·.1)).Nodup:=by rw [hns];exact hn
 have hql:=(X_.1 hf).1;have hmo:=B5 (k:=k) hok hls;have hml:=HG hmo (by show(cP ls).length≤6;rw [dy];exact hls);have hsl:=lu (gx (cT ls k));have hat:∀{i:Nat} {g:List UInt8×List UInt8},(iT ls k o)[i]?=some g→((iT ls k o).set q (f.1,Y))[i]?=some (if i=q then(f.1,Y) else g):=fun {i g} h=>by
  rw [Zn];by_cases e:q=i
  ·subst e;rw [if_pos rfl,if_pos hql,if_pos rfl]
  ·rw [if_neg e,if_neg (fun h=>e h.symm),h]
 have hman:=hat (nb ls k o);refine⟨if ls.length=q then Y else crc.aK (gx (cT ls k)),?_,⟨hmo,hml,?_,?_⟩,fun i l hl=>?_,fun g hg=>?_,hn',by rw [YG,wQ]⟩
 ·by_cases e:ls.length=q
  ·rw [if_pos e] at hman⊢;have h1:f.1=jF:=by
    have:=nb ls k o;rw [e,hf] at this;rw [YJ this]
   have:=rY hn' hman;have h2:∀n,f.1=n→fileOf ((iT ls k o).set q (f.1,Y)) n=some Y:=fun n h=>h▸this
   exact h2 _ h1
  ·rw [if_neg e] at hman⊢;exact rY hn' hman
 ·by_cases e:ls.length=q
  ·rw [if_pos e];have h2:f.2=crc.aK (gx (cT ls k)):=by
    have:=nb ls k o;rw [e,hf] at this;rw [YJ this]
   rcases hY with h|h|h
   ·rw [h,h2];omega
   ·omega
   ·rw [h.1,h2];omega
  ·rw [if_neg e];omega
 ·by_cases e:ls.length=q
  ·rw [if_pos e];have h2:f.2=crc.aK (gx (cT ls k)):=by
    have:=nb ls k o;rw [e,hf] at this;rw [YJ this]
   by_cases hs:Y=f.2
   ·rw [decide_eq_true (.inl hs),if_pos rfl,hs,h2]
   ·rw [decide_eq_false (fun h=>h.elim hs (fun h=>h e.symm))];rcases hY with h|h|h
    ·exact absurd h hs
    ·omega
    ·exact h.2
  ·rw [if_neg e,decide_eq_true (.inr (fun h=>e h.symm)),if_pos rfl]
 ·refine⟨hok l (YF hl),?_⟩;have hil:=(X_.1 hl).1;have hs:=Bl (k:=k) (o:=o) hl;have hg:=hat hs;by_cases e:i=q
  ·subst e;rw [hf] at hs;have hfe:=YJ hs;rw [if_pos rfl] at hg;refine⟨Y,?_,?_,?_⟩
   ·have:=rY hn' hg;have h2:∀n,f.1=n→fileOf ((iT ls k o).set i (f.1,Y)) n=some Y:=fun n h=>h▸this
    exact h2 _ (congrArg Prod.fst hfe)
   ·rcases hY with h|h|h
    ·rw [h,hfe]
    ·omega
    ·rw [h.1,hfe]
   ·by_cases hs2:Y=f.2
    ·rw [if_neg (by rw [if_neg (fun h=>h.1 hs2)];simp),hs2,hfe]
    ·rw [if_pos (by rw [if_pos ⟨hs2,hil⟩])];rcases hY with h|h|h
     ·exact absurd h hs2
     ·omega
     ·exact h.2
  ·rw [if_neg e] at hg;refine⟨_,rY hn' hg,rfl,?_⟩;rw [if_neg];intro h;split at h
   ·exact e (YJ h).symm
   ·cases h
 ·rcases Zw hg with hg|rfl
  ·exact DW g hg
  ·exact DW f (YF hf)
noncomputable def c3:Code:=YW.body.getD .skip
noncomputable def na:Code:=sub c3 [1,1,1,1,1,1,1,1,1,1,0,1,0,0]
theorem L6:YW.body=some (.seq (sub c3 [0]) (.seq (sub c3 [1,0]) (.seq (sub c3 [1,1,0]) (.seq (sub c3 [1,1,1,0]) (.seq (sub c3 [1,1,1,1,0]) (.seq (sub c3 [1,1,1,1,1,0]) (.seq (sub c3 [1,1,1,1,1,1,0]) (.seq (sub c3 [1,1,1,1,1,1,1,0]) (.seq (sub c3 [1,1,1,1,1,1,1,1,0]) (.seq (sub c3 [1,1,1,1,1,1,1,1,1,0]) (.seq (.seq (sub c3 [1,1,1,1,1,1,1,1,1,1,0,0]) (.block 0 (.loop na))) (.seq (sub c3 [1,1,1,1,1,1,1,1,1,1,1,0]) (.seq (sub c3 [1,1,1,1,1,1,1,1,1,1,1,1,0]) (.seq (sub c3 [1,1,1,1,1,1,1,1,1,1,1,1,1,0]) (.seq (sub c3 [1,1,1,1,1,1,1,1,1,1,1,1,1,1,0]) (.seq (sub c3 [1,1,1,1,1,1,1,1,1,1,1,1,1,1,1,0]) (.seq (sub c3 [1,1,1,1,1,1,1,1,1,1,1,1,1,1,1,1,0]) (.seq (sub c3 [1,1,1,1,1,1,1,1,1,1,1,1,1,1,1,1,1,0]) (.seq (sub c3 [1,1,1,1,1,1,1,1,1,1,1,1,1,1,1,1,1,1,0]) (sub c3 [1,1,1,1,1,1,1,1,1,1,1,1,1,1,1,1,1,1,1])))))))))))))))))))):=by kernel_rfl
theorem PY:na=(.seq (sub na [0]) (.seq (sub na [1,0]) (sub na [1,1]))):=by kernel_rfl
theorem Ws:ai.bp 23=some (.int .u16):=by kernel_rfl
theorem Wy:ai.bp 30=some (.array 2 23):=by kernel_rfl
theorem Uq:aY ai 23= .ok 1:=by kernel_rfl
theorem Vo (h:i<2):aZ ai 30 (pw b 0) (.int .i64 i)= .ok (pw b i):=by
 have:=iA (tb:=ai) (b:=b) (o:=0) (k:=.i64) Wy Uq h;rwa [Yy] at this
variable {p:Nat}
theorem CL {at_:Nat} {l:List UInt8} (h:¬(p>>>k&&&1=1∧at_+k<8*l.length)):crc.jb at_ p l (k+1)=crc.jb at_ p l k:=by
 show crc.qg _ _ _ _=_;unfold crc.qg;rw [crc.pD,if_neg h]
theorem yA (at_ p:Nat):∀k,crc.jb at_ p [] k=[]
 |0=>rfl
 |k+1=>by rw [CL (fun h=>by have:=h.2;simp at this),yA at_ p k]
variable {A:Mem} {c:Nat} {t:T Value}
theorem KD {p0 p1 pat:Nat} {l:List UInt8} {K:Ex→St→Prop} {x3 x7 x8 x10 x12:Value} (hl:l.length<1000000) (h1:p1<65536) (hp:pat<4294967296) (hv:VB A 30 q (.var 2) [.int .u16 p0,.int .u16 p1]) (hb:Fp A b 5 .mark l) (hqb:q≠b)
 (hs:Sl t [(2,.int .u32 pat),(3,x3),(4,pV q),(7,x7),(8,x8),(10,x10),(12,x12),(13,.slice (some ⟨b,0,none⟩) l.length c),(14,.int .i64 (0:Nat))])
 (hK:∀t D,Fp D b 5 .mark (crc.lj l (p1 % (8*l.length)) pat)→D.next=A.next→(∀z,z≠b→D.get z=A.get z)→Sl t [(3,x3),(7,x7),(8,x8),(10,x10),(12,x12),(13,.slice (some ⟨b,0,none⟩) l.length c)]→K (.exit 0) ⟨t,196,[],D,none⟩):
 W ai (.loop na) ⟨t,196,[],A,none⟩ K:=by
 generalize hN:(if l.length=0 then 0 else 32)=N;refine W.up N (fun k t D=>Fp D b 5 .mark (crc.jb (p1 % (8*l.length)) pat l k)∧D.next=A.next∧(∀z,z≠b→D.get z=A.get z)∧Sl t [(2,.int .u32 pat),(3,x3),(4,pV q),(7,x7),(8,x8),(10,x10),(12,x12),(13,.slice (some ⟨b,0,none⟩) l.length c),(14,.int .i64 k)]) ?_ (Yg _) ⟨hb,rfl,fun _ _=>rfl,hs⟩;rintro k t D hk ⟨hD,nD,fD,g2,g3,g4,g7,g8,g10,g12,g13,g14,-⟩;have hN32:N≤32:=by rw [←hN];split<;>omega
 have hlen:=crc.pD (p1 % (8*l.length)) pat l k;have ln:aO ai .len [48] [.slice (some ⟨b,0,none⟩) l.length c]= .ok (.int .i64 (l.length:Nat)):=dJ NV;have l1:aq ai D.get 23 (pw q 1)= .ok (.int .u16 p1):=VB.ld (tb:=ai) (A:=D) ⟨by rw [nD];exact hv.1,hv.2.same (fD q hqb)⟩ rfl Ws rfl;have c1:=bu (tb:=ai) (s:=23) (d:=3) (k:=.u16) (n:=p1) (by rw [Ws];rfl) u3 (aR (by omega));have i1:=Vo (b:=q) (i:=1) (by omega);have m1:aN .mul .i64 ((8:Nat):Int) ((l.length:Nat):Int)= .ok (.int .i64 (8*l.length:Nat)):=gq (aR (by omega));simp only [pV] at g4;by_cases hlt:k<N
 ·have hl0:0<l.length:=by rcases qbg l.length with h|h;(· rw [if_pos h] at hN;omega);exact h
  have hk32:k<32:=by omega
  have hmod:p1 % (8*l.length)<8*l.length:=Y8 _ (by omega);have hl0':0<8*l.length:=by omega
  generalize hat:p1 % (8*l.length)=at_ at*;have r1:aN .rem .i64 ((p1:Nat):Int) ((8*l.length:Nat):Int)= .ok (.int .i64 at_):=by rw [←hat];exact tp hl0'
  have a1:aN .add .i64 ((at_:Nat):Int) ((k:Nat):Int)= .ok (.int .i64 (at_+k:Nat)):=a9 (aR (by omega));have a2:aN .add .i64 ((k:Nat):Int) ((1:Nat):Int)= .ok (.int .i64 (k+1:Nat)):=a9 (aR (by omega));have hsh:pat>>>k<4294967296:=by rw [YX];exact Y5 (qcd ..) hp
  rw [PY];apply W.seq;apply W.run 20
  ·intro M;simp (config:={maxSteps:=4000000}) (disch:=first|decide+kernel|omega|simp only [Wq,X2]) only [na,c3,YW,Aq,X5,reduceIte,X2,X3,g13,g14,hk32,ln,hl0,bR,bw];rfl
  apply W.seq;apply W.block;apply W.seq;apply W.run 20
  ·intro M;simp (disch:=first|decide+kernel|omega) only [na,c3,YW,Aq,X2,g4,g13,g14,i1,l1,c1,ln,m1,r1,a1];rfl
  apply W.seq;by_cases hbit:pat>>>k&&&1=1
  ·by_cases hpl:at_+k<8*l.length
   ·have hin:(at_+k)/8<l.length:=by omega
    have hin':(at_+k)/8<(crc.jb at_ pat l k).length:=by omega
    have hx1:((crc.jb at_ pat l k).getD ((at_+k)/8) 0).toNat<256:=v_ _;have hx2:1<<<((at_+k) % 8) % 256<256:=Y8 _ (by omega);have hxx:((crc.jb at_ pat l k).getD ((at_+k)/8) 0).toNat^^^(1<<<((at_+k) % 8) % 256)<256:=ZG (n:=8) hx1 hx2;obtain⟨E,hst,hb',hnx,hoth⟩:=KF (tb:=ai) (t:=5) Ca hD hin' hxx;have hld:=LB (tb:=ai) (t:=5) u5 hD hin';have hm8:(at_+k) % 8<8:=Y8 _ (by omega);have ix:=fZ (tb:=ai) (t:=48) (b:=b) (o:=0) (len:=l.length) (cap:=c) (i:=(at_+k)/8) (k:=.i64) NV Ca hin;rw [Yy] at ix;apply W.run 20
    ·intro M;simp (config:={maxSteps:=4000000}) (disch:=first|decide+kernel|omega|simp only [Wq,X2]) only [na,c3,YW,Aq,X5,reduceIte,X2,X3,g2,g13,g14,hk32,hbit,hpl,ln,m1];rfl
    refine W.cond (p:=true) ?_ (fun _=>?_) (fun h=>by cases h)
    ·simp only [fR,T.af,X2,if_true,if_false,dA]
    apply W.run 20
    ·intro M;simp (config:={maxSteps:=4000000}) (disch:=first|decide+kernel|omega|simp only [Wq,X2]) only [na,c3,YW,Aq,X5,reduceIte,X2,X3,g13,ix,hld,hst,hm8,Fq,aC []];rfl
    apply W.run 20
    ·intro M;simp (disch:=first|decide+kernel|omega) only [na,c3,YW,Aq,X2,g14,a2];rfl
    refine⟨hlt,_,_,rfl,?_,by omega,fun z hz=>by rw [hoth z hz,fD z hz],?_⟩
    ·have e:crc.jb at_ pat l (k+1)=(crc.jb at_ pat l k).set ((at_+k)/8) (.ofNat (((crc.jb at_ pat l k).getD ((at_+k)/8) 0).toNat^^^(1<<<((at_+k) % 8) % 256))):=by
      show crc.qg _ _ _ _=_;unfold crc.qg;rw [if_pos ⟨hbit,by omega⟩]
     rw [e];exact hb'
    ·simp only [av,aw,T.af,T.ag,T.ak,X2,X3,if_true,if_false,and_true,true_and,g2,g3,g4,pV,g7,g8,g10,g12,g13]
   ·apply W.run 20
    ·intro M;simp (config:={maxSteps:=4000000}) (disch:=first|decide+kernel|omega|simp only [Wq,X2]) only [na,c3,YW,Aq,X5,reduceIte,X2,X3,g2,g13,g14,hk32,hbit,hpl,ln,m1];rfl
    refine W.cond (p:=false) ?_ (fun h=>by cases h) (fun _=>?_)
    ·simp only [fR,T.af,X2,if_true,if_false,dA]
    apply W.run 20
    ·intro M;simp (disch:=first|decide+kernel|omega) only [na,c3,YW,Aq,X2];rfl
    apply W.run 20
    ·intro M;simp (disch:=first|decide+kernel|omega) only [na,c3,YW,Aq,X2,g14,a2];rfl
    refine⟨hlt,_,_,rfl,by rw [CL (fun h=>hpl h.2)];exact hD,nD,fD,?_⟩;simp only [av,aw,T.af,T.ag,T.ak,X2,X3,if_true,if_false,and_true,true_and,g2,g3,g4,pV,g7,g8,g10,g12,g13]
  ·apply W.run 20
   ·intro M;simp (config:={maxSteps:=4000000}) (disch:=first|decide+kernel|omega|simp only [Wq,X2]) only [na,c3,YW,Aq,X5,reduceIte,X2,X3,g2,g13,g14,hk32,hbit,ln];rfl
   refine W.cond (p:=false) ?_ (fun h=>by cases h) (fun _=>?_)
   ·simp only [fR,T.af,X2,if_true,if_false,dA]
   apply W.run 20
   ·intro M;simp (disch:=first|decide+kernel|omega) only [na,c3,YW,Aq,X2];rfl
   apply W.run 20
   ·intro M;simp (disch:=first|decide+kernel|omega) only [na,c3,YW,Aq,X2,g14,a2];rfl
   refine⟨hlt,_,_,rfl,by rw [CL (fun h=>hbit h.1)];exact hD,nD,fD,?_⟩;simp only [av,aw,T.af,T.ag,T.ak,X2,X3,if_true,if_false,and_true,true_and,g2,g3,g4,pV,g7,g8,g10,g12,g13]
 ·obtain rfl:k=N:=by omega
  have hend:Fp D b 5 .mark (crc.lj l (p1 % (8*l.length)) pat):=by
   by_cases h0:l.length=0
   ·obtain rfl:=Yh.1 h0;rw [yA] at hD;unfold crc.lj;rw [yA];exact hD
   ·rw [if_neg h0] at hN;subst hN;exact hD
  by_cases h0:l.length=0
  ·rw [if_pos h0] at hN;subst hN;rw [h0] at ln;apply W.run 20
   ·intro M;simp (config:={maxSteps:=4000000}) (disch:=first|decide+kernel|omega|simp only [Wq,X2]) only [na,c3,YW,Aq,X5,reduceIte,X2,X3,g13,g14,h0,ln,bR,bw,Nat.reduceLT];rfl
   refine hK _ _ hend nD fD ?_;simp only [av,aw,T.af,T.ag,T.ak,X2,X3,if_true,if_false,and_true,true_and,g3,g7,g8,g10,g12,g13]
  ·rw [if_neg h0] at hN;subst hN;apply W.run 20
   ·intro M;simp (config:={maxSteps:=4000000}) (disch:=first|decide+kernel|omega|simp only [Wq,X2]) only [na,c3,YW,Aq,X5,reduceIte,X2,X3,g13,g14];rfl
   refine hK _ _ hend nD fD ?_;simp only [av,aw,T.af,T.ag,T.ak,X2,X3,if_true,if_false,and_true,true_and,g3,g7,g8,g10,g12,g13]
noncomputable def Uz:Code:=.seq (sub c3 [1,1,1,1,1,1,1,1,1,1,1,1,1,1,1,1,0]) (.seq (sub c3 [1,1,1,1,1,1,1,1,1,1,1,1,1,1,1,1,1,0]) (.seq (sub c3 [1,1,1,1,1,1,1,1,1,1,1,1,1,1,1,1,1,1,0]) (sub c3 [1,1,1,1,1,1,1,1,1,1,1,1,1,1,1,1,1,1,1])))
theorem Fj {x:Value} {m:iK} {l:List (Nat×Nat×Nat)} (h:fg A l x):cD 100 (.agg ⟨bS x m⟩) (.agg ⟨bS x m⟩)=true:=by
 have h1:∀d (n:Nat),cD (d+1) (.int .i64 n) (.int .i64 n)=true:=fun d n=>by
  rw [cD];simp only [sw];simp [dS]
 have h2:∀d,cD (d+1) x x=true:=fun d=>by
  obtain⟨b,⟨rfl,-⟩|⟨_,_,rfl,-⟩⟩:=h<;>simp [cD,xD,rL]
 show cD (98+2) _ _=true;rw [cD];have h0:∀d,cD (d+1) (.int .i64 1) (.int .i64 1)=true:=fun d=>h1 d 1
 simp [bS,h0,h1,h2]
structure Xy (G:Mem) (ls:List (List aP)) (k:Nat) (t:T Value) (is:Bool) (j:Option Nat) (e:Nat):Prop where
 a:∃q8 z,t.get 8=some (pV q8)∧VB G 36 q8 (.var 4) (bS z (cT ls k))∧fg G (cP ls) z
 b:∃x,t.get 10=some x∧kj G ls x
 c:∃q19 l x,t.get 19=some (pV q19)∧VB G 39 q19 (.var 4) l∧t.get 20=some x∧((is=true∧il ls j=ls.length)→(∃y,l=bS y (cT ls k)∧fg G (cP ls) y)∧kj G ls x)∧(¬(is=true∧il ls j=ls.length)→l=b_∧x= .slice none 0 0)
 d:t.get 21=some (.int .i64 e)
theorem Va:aO ai .len [40] [.slice none 0 0]= .ok (.int .i64 (0:Nat)):=dJ Wr
variable {is:Bool}
theorem Kc {G:Mem} {ls:List (List aP)} {j:Option Nat} {f:List UInt8×List UInt8} {x7:Value} {sm:Bool} {K:Ex→St→Prop} (h:Xy G ls k t is j 0) (hg:is=true∧il ls j=ls.length) (hls:ls.length≤6)
 (hF:pP G fs x7) (hf:fs[q]?=some f) (hs:Sl t [(7,x7),(12,.int .i64 q),(16,.bool sm)]) (hsm:sm=true∨f.1=uE)
 (hK:∀t D,Kp G D→t.get 6=some (.bool true)→K .ret ⟨t,196,[],D,none⟩):W ai Uz ⟨t,196,[],G,none⟩ K:=by
 obtain⟨⟨q8,z,g8,v8,hz⟩,⟨x10,g10,h10⟩,⟨q19,l,x20,g19,v19,g20,hc,-⟩,g21⟩:=h;obtain⟨⟨y,rfl,hy⟩,hx⟩:=hc hg;obtain⟨g7,g12,g16,-⟩:=hs;obtain⟨b,o,i1,i2,i3,i4⟩:=hF.at hf;have l19:=lW v19.2 rfl;obtain⟨E,⟨e1,a1⟩,kE⟩:=Gj (a:=(cT ls k).ver) (b:=1) (c:=(cT ls k).next) hy;have a1':∀M,e1≤M→bg ai (exec ai M) (.fn 10 [.agg ⟨bS y (cT ls k)⟩]) G= .ok (.val (.agg ⟨bS y (cT ls k)⟩) E):=a1;have l8:=M1 v8.2 rfl;have l8':=M1 (v8.kp kE).2 rfl;obtain⟨v,F,⟨e2,a2⟩,rfl,kF⟩:=ui (a:=(cT ls k).ver) (b:=1) (c:=(cT ls k).next) (hy.kp kE) (hz.kp kE) (by rw [dy];omega);have a2':∀M,e2≤M→bg ai (exec ai M) (.fn 9 [.agg ⟨bS y (cT ls k)⟩,.agg ⟨bS z (cT ls k)⟩]) E= .ok (.val (.bool true) F):=a2;have n1:=hx.len;have n2:=h10.len;have sv:=Fj (m:=cT ls k) hz;simp only [pV] at g8 g19;have h77:∀t:T Value,ev t (.const (.string ⟨#[115,101,103,45,55,55]⟩))= .ok (strOf uE):=fun t=>rfl
 unfold Uz;apply W.seq;cases sm with
 |true=>
  apply W.a6 (e1+e2) 20
  ·intro M hM;simp (config:={maxSteps:=4000000}) (disch:=first|decide+kernel|omega|simp only [Wq,X2]) only [c3,YW,Aq,X5,reduceIte,X2,X3,g16,g19,g8,g20,g10,g21,l19,a1',l8,l8',a2',n1,n2,sv,Fq,aC [(5,4)]];rfl
  refine hK _ _ (kE.trans kF) ?_;simp only [T.af,X2,if_true,if_false]
 |false=>
  have hn:f.1=uE:=hsm.elim (fun h=>by cases h) id;apply W.a6 (e1+e2) 20
  ·intro M hM;simp (config:={maxSteps:=4000000}) (disch:=first|decide+kernel|omega|simp only [Wq,X2]) only [c3,YW,Aq,X5,reduceIte,X2,X3,g16,g7,g12,i1,vc,i3,hn,h77,g19,g8,g20,g10,g21,l19,a1',l8,l8',a2',n1,n2,sv,Fq,aC [(5,4)]];rfl
  refine hK _ _ (kE.trans kF) ?_;simp only [T.af,X2,if_true,if_false]
theorem I_:cr ai 36 []= .ok (.agg ⟨b_⟩):=by kernel_rfl
theorem Wo:hZ .eql (ai.bp 4) (.bool true) (.bool true)= .ok (.bool true)∧hZ .eql (ai.bp 4) (.bool false) (.bool false)= .ok (.bool true):=⟨by kernel_rfl,by kernel_rfl⟩
theorem Nv {G:Mem} {ls:List (List aP)} {j:Option Nat} {gs:List (List UInt8×List UInt8)} {f:List UInt8×List UInt8} {x7:Value} {s:List UInt8} {K:Ex→St→Prop} (h:Xy G ls k t is j 12) (hg:¬(is=true∧il ls j=ls.length)) (hls:ls.length≤6)
 (hF:pP G fs x7) (hf:fs[q]?=some f) (hs:Sl t [(7,x7),(12,.int .i64 q),(16,.bool false),(18,pV p)]) (hn:f.1≠uE) (hm:is=false↔f.1=jF) (hD:fT G p gs) (hw:fileOf gs jF=some s) (hS:Ez is (cT ls k) s)
 (hK:∀t D,Kp G D→t.get 6=some (.bool true)→K .ret ⟨t,196,[],D,none⟩):W ai Uz ⟨t,196,[],G,none⟩ K:=by
 obtain⟨-,-,⟨q19,l,x20,g19,v19,g20,-,hc⟩,g21⟩:=h;obtain⟨rfl,rfl⟩:=hc hg;obtain⟨g7,g12,g16,g18,-⟩:=hs;obtain⟨b,o,i1,i2,i3,i4⟩:=hF.at hf;obtain⟨l2,E,⟨e1,a1⟩,kE,hR⟩:=Mz hD hw hS;have kF:=Kp.alloc E (aa 39 l2);have vF:=aF E 39 l2;have sF:aW ai (E.alloc (aa 39 b_)) 39 (.pointer (some ⟨E.next,0,none⟩)) (.agg ⟨l2⟩)= .ok (E.alloc (aa 39 l2)):=bn (by rw [hR.1];exact zQ) rfl (by rw [hR.1];rfl) (by simp [b_]) hR.2.1;have kEF:=kE.trans kF;have hF':=hF.kp kEF;have v19':=v19.kp kEF;obtain⟨b',o',i1',i2',i3',i4'⟩:=hF'.at hf;have h77:∀t:T Value,ev t (.const (.string ⟨#[115,101,103,45,55,55]⟩))= .ok (strOf uE):=fun t=>rfl
 have hmn:∀t:T Value,ev t (.const (.string ⟨#[109,97,110,105,102,101,115,116]⟩))= .ok (strOf jF):=fun t=>rfl
 simp only [pV] at g18 g19;unfold Uz;apply W.seq;apply W.run 20
 ·intro M;simp (config:={maxSteps:=4000000}) (disch:=first|decide+kernel|omega|simp only [Wq,X2]) only [c3,YW,Aq,X5,reduceIte,X2,X3,g16,g7,g12,i1,vc,i3,hn,h77];rfl
 apply W.seq;apply W.a6 (e1) 20
 ·intro M hM;simp (disch:=first|decide+kernel|omega) only [c3,YW,Aq,X2,g18,a1,X8,X7,dp,au,sF];rfl
 show W ai _ _ _;generalize E.alloc (aa 39 l2)=F at kF vF kEF hF' v19' i1' i2' i3' i4';have l19:=lW v19'.2 rfl;have hnil:∀A,fg A [] (.slice none 0 0):=fun A=>⟨0,.inl ⟨rfl,rfl⟩⟩
 obtain⟨H,⟨e2,a2⟩,kH⟩:=Gj (a:=0) (b:=0) (c:=0) (hnil F);have a2':∀M,e2≤M→bg ai (exec ai M) (.fn 10 [.agg ⟨b_⟩]) F= .ok (.val (.agg ⟨b_⟩) H):=a2;obtain⟨v,I,⟨e3,a3⟩,rfl,kI⟩:=ui (a:=0) (b:=0) (c:=0) (hnil H) (hnil H) (by simp);have a3':∀M,e3≤M→bg ai (exec ai M) (.fn 9 [.agg ⟨b_⟩,.agg ⟨b_⟩]) H= .ok (.val (.bool true) I):=a3;obtain⟨b2,o2,j1,j2,j3,j4⟩:=((hF'.kp kH).kp kI).at hf;have ln:=Va;apply W.seq;cases is with
 |false=>
  have hn:=hm.1 rfl;apply W.a6 (e2+e3) 20
  ·intro M hM;simp (config:={maxSteps:=4000000}) (disch:=first|decide+kernel|omega|simp only [Wq,X2]) only [c3,YW,Aq,X5,reduceIte,X2,X3,g7,g12,g19,g20,g21,ln,l19,a2',I_,a3',j1,vc,j3,hn,hmn,Wo.1,Wo.2];rfl
  apply W.run 20
  ·intro M;simp (disch:=first|decide+kernel|omega) only [c3,YW,Aq,X2];rfl
  refine hK _ _ (kEF.trans (kH.trans kI)) ?_;simp only [T.af,X2,if_true,if_false]
 |true=>
  have hn:f.1≠jF:=fun h=>by have:=hm.2 h;cases this
  apply W.a6 (e2+e3) 20
  ·intro M hM;simp (config:={maxSteps:=4000000}) (disch:=first|decide+kernel|omega|simp only [Wq,X2]) only [c3,YW,Aq,X5,reduceIte,X2,X3,g7,g12,g19,g20,g21,ln,l19,a2',I_,a3',j1,vc,j3,hn,hmn,Wo.1,Wo.2];rfl
  apply W.run 20
  ·intro M;simp (disch:=first|decide+kernel|omega) only [c3,YW,Aq,X2];rfl
  refine hK _ _ (kEF.trans (kH.trans kI)) ?_;simp only [T.af,X2,if_true,if_false]
variable {o:Nat} {l vs l':List Value}
theorem vd {e t:TypeId} {k:Kd} (v:VB A e b k l) (hs:aY ai t= .ok vs.length) (h1:∀v∈vs,aJ v=true) (h0:vs≠ []) (h2:o+vs.length≤l.length) (hl:l'.length=l.length) (hj:∀j,j<l.length→l'[j]?=if o≤j∧j<o+vs.length then vs[j-o]? else l[j]?):
 ∃A',aW ai A t (pw b o) (.agg ⟨vs⟩)= .ok A'∧VB A' e b k l'∧A'.next=A.next∧∀x,x≠b→A'.get x=A.get x:=by
 obtain⟨A',g1,g2,g3,g4⟩:=v.2.put h1 h2 h0;refine⟨A',?_,⟨by rw [g2];exact v.1,g4 l' hl hj⟩,g2,g3⟩;unfold aW;have hc:(Value.agg ⟨vs⟩).cells.toList=vs:=rfl;simp only [hs,R.aA,hc,qcf,cond_true];exact g1
theorem Vd:bc ai 33 0 []= .ok (aa 27 [],.m_ 0 0):=by kernel_rfl
theorem Xc:cr ai 25 []= .ok (.agg ⟨[.int .u8 (0:Nat),.int .u8 (0:Nat),.int .u16 (0:Nat)]⟩):=by kernel_rfl
theorem Uk:aY ai 25= .ok 3:=by kernel_rfl
variable {y:Value}
theorem Ma {D:Mem} {l:List (List UInt8×List UInt8)} (h:pP D l y) (hl:l.length<1000):
 ∃x E b,bk ai (D.alloc (aa 27 [])) 33 33 (.slice (some ⟨D.next,0,none⟩) 0 0) y= .ok (x,E)∧az E 27 2 b (l.map dC) x∧D.next≤b∧Kp D E:=by
 obtain⟨i,t1,t2,t3⟩:=Vl;have n1:(D.alloc (aa 27 [])).next=D.next+1:=ae _ _
 have h0:az (D.alloc (aa 27 [])) 27 2 D.next [] (.slice (some ⟨D.next,0,none⟩) 0 0):=.inr ⟨.var 0,0,rfl,by omega,gQ D 27 [],by simp,.inl rfl⟩
 obtain⟨bb,hb⟩:=h.kp (Kp.alloc D (aa 27 []));have hy:jC y= .ok l.length∧gX (D.alloc (aa 27 [])).get 2 l.length y= .ok (l.map dC).flatten:=by
  rcases hb with⟨rfl,e⟩|⟨k,c,rfl,e1,e2,e3,e4⟩
  ·have:l=[]:=by simpa using e
   subst this;exact⟨rfl,rfl⟩
  ·rw [Yb];exact⟨rfl,ek e2 (by rw [db e3,Yb])⟩
 obtain⟨x',D',b',e1,e2,e3,e4,e5⟩:=az.oZ (tb:=ai) (st:=33) (xt:=33) (nl:=l.map dC) (m:=l.length) h0 T2 T2 rfl UL t1 t2 t3 (by omega) (by omega) (by simp;omega) (y:=y) hy.1 hy.2 (by rw [Yb]) (fun c hc=>by obtain⟨f,-,rfl⟩:=YN.1 hc;rfl) (by
  intro v hv;obtain⟨c,hc,hv⟩:=List.mem_flatten.1 hv;obtain⟨f,-,rfl⟩:=YN.1 hc;exact sS f v hv)
 exact⟨x',D',b',e1,e2,by omega,by omega,fun z hz=>by rw [e5 z (fun e=>by omega) (by omega),aH (by omega)]⟩
theorem Qq {E:Mem} {l:List (List UInt8×List UInt8)} {f:List UInt8×List UInt8} {x:Value} (Y:List UInt8) (h:az E 27 2 b (l.map dC) x) (hf:l[q]?=some f):
 ∃F,aW ai E 9 (pw b (q*2+1)) (strOf Y)= .ok F∧az F 27 2 b ((l.set q (f.1,Y)).map dC) x∧F.next=E.next∧∀z,z≠b→F.get z=E.get z:=by
 have hm:(l.map dC)[q]?=some (dC f):=by rw [Yr,hf];rfl
 have:=az.field (tb:=ai) (t:=9) (j:=1) (v:=strOf Y) h (by kernel_rfl) hm (by omega) rfl rfl;rwa [show(dC f).set 1 (strOf Y)=dC (f.1,Y) from rfl,←qbW] at this
theorem Te {E:Mem} {l:List (List UInt8×List UInt8)} {x:Value} (h:az E 27 2 b (l.map dC) x) (hq:q<l.length):aZ ai 33 x (.int .i64 q)= .ok (pw b (q*2)):=az.idx h T2 Sq (by rw [Yb];exact hq)
theorem Mn {ls:List (List aP)} {o:List UInt8} {f:List UInt8×List UInt8} (hls:ls.length≤6) (hok:∀l∈ls,Ft l) (hf:(iT ls k o)[q]?=some f):f.2.length<900000∧(q≤ls.length→∃d,f.2=crc.aK d):=by
 have hq:=(X_.1 hf).1;rw [wQ] at hq;by_cases h:q<ls.length
 ·have hl:ls[q]?=some ls[q]:=X6 h;have:=Bl (k:=k) (o:=o) hl;rw [hf] at this;rw [YJ this];obtain⟨-,-,-,-,-,-,-,-,h9⟩:=hok _ (YQ h);have:=lu (ez ls[q]);exact⟨by show(crc.aK (ez ls[q])).length<_;omega,fun _=>⟨_,rfl⟩⟩
 ·by_cases h2:q=ls.length
  ·subst h2;have:=nb ls k o;rw [hf] at this;rw [YJ this];have hml:=HG (B5 (k:=k) hok hls) (by show(cP ls).length≤6;rw [dy];exact hls);have:=lu (gx (cT ls k));exact⟨by show(crc.aK (gx (cT ls k))).length<_;omega,fun _=>⟨_,rfl⟩⟩
  ·obtain rfl:q=ls.length+1:=by omega
   have:=EN ls k o;rw [hf] at this;rw [YJ this];exact⟨by show(o.take 80).length<_;rw [Yo];omega,fun h=>by omega⟩
theorem Sv {ls:List (List aP)} {o:List UInt8} {f:List UInt8×List UInt8} (hf:(iT ls k o)[q]?=some f):(f.1=uE↔q=ls.length+1)∧(f.1=jF↔q=ls.length):=by
 have hq:=(X_.1 hf).1;rw [wQ] at hq;have h77:uE≠jF:=by decide
 by_cases h:q<ls.length
 ·have hl:ls[q]?=some ls[q]:=X6 h;have:=Bl (k:=k) (o:=o) hl;rw [hf] at this;rw [YJ this];exact⟨⟨fun h=>absurd h (Je _),fun h=>by omega⟩,fun h=>absurd h (Eb _),fun h=>by omega⟩
 ·by_cases h2:q=ls.length
  ·subst h2;have:=nb ls k o;rw [hf] at this;rw [YJ this];exact⟨⟨fun h=>absurd h.symm h77,fun h=>by omega⟩,fun _=>rfl,fun _=>rfl⟩
  ·obtain rfl:q=ls.length+1:=by omega
   have:=EN ls k o;rw [hf] at this;rw [YJ this];exact⟨⟨fun _=>rfl,fun _=>rfl⟩,fun h=>absurd h h77,fun h=>by omega⟩
theorem Ri {ls:List (List aP)} {o:List UInt8} (hls:ls.length≤6) (hok:∀l∈ls,Ft l):∃s,XH ls k ls.length o (crc.aK (gx (cT ls k))) (iT ls k o) true none s:=by
 have hf:=nb ls k o;obtain⟨s,h⟩:=Ow (Y:=crc.aK (gx (cT ls k))) hls hok hf (.inl rfl);have e:(iT ls k o).set ls.length (jF,crc.aK (gx (cT ls k)))=iT ls k o:=by
  obtain⟨h1,h2⟩:=X_.1 hf;rw [←h2,List.set_getElem_self]
 simp only [e,true_or,decide_true,ne_eq,not_true_eq_false,false_and,if_false] at h;exact⟨s,h⟩
theorem BR {x:Value} {m:iK} {l:List (Nat×Nat×Nat)} (h:fg A l x):(bS x m).length=4∧∀v∈bS x m,aJ v=true:=by
 refine⟨rfl,fun v hv=>?_⟩;obtain⟨a,n,c,rfl⟩:=h.m_;simp only [bS,Yp,YH,or_false] at hv;rcases hv with rfl|rfl|rfl|rfl<;>rfl
theorem MY:b_.length=4∧∀v∈b_,aJ v=true:=⟨rfl,by simp [b_,aJ]⟩
theorem AK (ls:List (List aP)):il ls none=ls.length:=rfl
def wY (x:Value) (k:Nat) (a b c d:Value) (n o:List UInt8):List Value:=[x,.int .u8 k,a,b,c,d,strOf n,strOf o]
theorem O2 {x a b c d:Value} {n o:List UInt8} (v:VB A 29 q (.var 8) (wY x k a b c d n o)):
 ∃B C D,aW ai A 5 (pw q 2) (.int .u8 (0:Nat))= .ok B∧aW ai B 25 (pw q 3) (.agg ⟨[.int .u8 (0:Nat),.int .u8 (0:Nat),.int .u16 (0:Nat)]⟩)= .ok C∧
  aq ai C.get 9 (pw q (6+1))= .ok (strOf o)∧aW ai C 27 (pw q 6) (.agg ⟨dC (uE,o)⟩)= .ok D∧VB D 29 q (.var 8) (pN x k o)∧D.next=A.next∧∀z,z≠q→D.get z=A.get z:=by
 obtain⟨B,sB,vB,nB,fB⟩:=a_ (tb:=ai) (t:=5) (o:=2) (v:=.int .u8 (0:Nat)) Ca v.2 (by show 2<8;omega) rfl rfl;have vB':VB B 29 q (.var 8) ((wY x k a b c d n o).set 2 (.int .u8 (0:Nat))):=⟨by rw [nB];exact v.1,vB⟩;have e8:∀j,j<8→j=0∨j=1∨j=2∨j=3∨j=4∨j=5∨j=6∨j=7:=fun j h=>by omega
 obtain⟨C,sC,vC,nC,fC⟩:=vd (t:=25) (o:=3) (vs:=[.int .u8 (0:Nat),.int .u8 (0:Nat),.int .u16 (0:Nat)]) (l':=[x,.int .u8 k,.int .u8 (0:Nat),.int .u8 (0:Nat),.int .u8 (0:Nat),.int .u16 (0:Nat),strOf n,strOf o]) vB' Uk (by simp [aJ]) (by simp) (by simp [wY]) rfl (by
  intro j hj;rcases e8 j hj with rfl|rfl|rfl|rfl|rfl|rfl|rfl|rfl<;>rfl)
 have lo:aq ai C.get 9 (pw q (6+1))= .ok (strOf o):=vC.ld rfl u9 rfl;obtain⟨D,sD,vD,nD,fD⟩:=vd (t:=27) (o:=6) (vs:=dC (uE,o)) (l':=pN x k o) vC Sq (sS _) (by simp [dC]) (by simp [dC]) rfl (by
  intro j hj;rcases e8 j hj with rfl|rfl|rfl|rfl|rfl|rfl|rfl|rfl<;>rfl)
 exact⟨B,C,D,sB,sC,lo,sD,vD,by omega,fun z hz=>by rw [fD z hz,fC z hz,fB z hz]⟩
variable {dss:List (List rP)}
theorem QV {x a b c d:Value} {p0 p1 pat:Nat} {n o:List UInt8} (h:yO A dss x) (hw:∀ds∈dss,∀d∈ds,d.wt<4294967296) (hk:k<256) (h0:p0<65536) (h1:p1<65536) (hp:pat<4294967296):
 ∃v A',bL ai 3 [.agg ⟨wY x k a b c d n o⟩,.agg ⟨[.int .u16 p0,.int .u16 p1]⟩,.int .u32 pat] A v A'∧v= .bool true∧Kp A A':=by
 refine cS (aB qce) L6 (by rw [Tryz.ntmps3];simp) (by kernel_rfl) (by kernel_rfl) ?_;have hok:=Sz dss hw;have hls:=B' dss;have nB1:(A.alloc (aa 29 (wY x k a b c d n o))).next=A.next+1:=ae _ _
 have kB:=(Kp.alloc A (aa 29 (wY x k a b c d n o))).trans (Kp.alloc _ (aa 30 [.int .u16 p0,.int .u16 p1]));have vI:=(aF A 29 (wY x k a b c d n o)).kp (Kp.alloc _ (aa 30 [.int .u16 p0,.int .u16 p1]));have vP:=aF (A.alloc (aa 29 (wY x k a b c d n o))) 30 [.int .u16 p0,.int .u16 p1];rw [nB1] at vP;apply W.seq;apply W.run 20
 ·intro M;simp (disch:=first|decide+kernel|omega) only [c3,YW,Aq,X2,au,nB1];rfl
 show W ai _ _ _;have nB:((A.alloc (aa 29 (wY x k a b c d n o))).alloc (aa 30 [.int .u16 p0,.int .u16 p1])).next=A.next+2:=by rw [ae,nB1]
 generalize (A.alloc (aa 29 (wY x k a b c d n o))).alloc (aa 30 [.int .u16 p0,.int .u16 p1])=B at kB vI vP nB;obtain⟨B1,B2,C,s1,s2,lo,s3,vC,nC,fC⟩:=O2 vI;have kC:Kp A C:=⟨by omega,fun z hz=>by rw [fC z (by omega),kB.2 z hz]⟩;have vPC:VB C 30 (A.next+1) (.var 2) [.int .u16 p0,.int .u16 p1]:=⟨by omega,vP.2.same (fC _ (by omega))⟩;have h77:∀t:T Value,ev t (.const (.string ⟨#[115,101,103,45,55,55]⟩))= .ok (strOf uE):=fun t=>rfl
 have kw:∀ih A,bg ai ih (.fn 5 []) A= .ok (.val (.bool true) A):=fun ih A=>S7
 apply W.seq;apply W.run 20
 ·intro M;simp (disch:=first|decide+kernel|omega) only [c3,YW,Aq,X2,kw];rfl
 apply W.seq;apply W.run 20
 ·intro M;simp (disch:=first|decide+kernel|omega) only [c3,YW,Aq,X2,RT,s1];rfl
 apply W.seq;apply W.run 20
 ·intro M;simp (disch:=first|decide+kernel|omega) only [c3,YW,Aq,X2,Xc,RX,s2];rfl
 apply W.seq;apply W.run 20
 ·intro M;simp (disch:=first|decide+kernel|omega) only [c3,YW,Aq,X2,I2,zL,lo,h77,PQ,s3];rfl
 show W ai _ _ _;have lw:aq ai C.get 29 (pw A.next 0)= .ok (.agg ⟨pN x k o⟩):=by
  obtain⟨d,hd1,hd2⟩:=bA (t:=29) (p:=true) (by kernel_rfl);exact aQ hd1 hd2 (show aY ai 29= .ok 8 by kernel_rfl) vC.2
 obtain⟨v,D,⟨g1,e1⟩,kD,y,z,rfl,hF,hz⟩:=Lk (o:=o) (h.kp kC) hok hk;generalize hls2:iI dss=ls at*;have zo:=BR (m:=cT ls k) hz;have sE:aW ai (D.alloc (aa 36 b_)) 36 (pw D.next 0) (.agg ⟨bS z (cT ls k)⟩)= .ok (D.alloc (aa 36 (bS z (cT ls k)))):=bn jH rfl rfl (by simp [b_]) zo.2;have z36:b7 ai 36= .ok (.agg ⟨b_⟩):=tR;have kE:=Kp.alloc D (aa 36 (bS z (cT ls k)));have vE:=aF D 36 (bS z (cT ls k));apply W.seq;apply W.a6 (g1) 20
 ·intro M hM;simp (disch:=first|decide+kernel|omega) only [c3,YW,Aq,X2,lw,e1,X8,X7,z36,au,sE];rfl
 show W ai _ _ _;have hFE:=hF.kp kE;have hzE:=hz.kp kE;have kE':=kD.trans kE;generalize D.alloc (aa 36 (bS z (cT ls k)))=E at kE vE hFE hzE kE';have hfl:=wQ ls k o;obtain⟨s,G0⟩:=Ri (k:=k) (o:=o) hls hok;generalize hfs:iT ls k o=fs at hF hFE hfl G0;obtain⟨v,F,⟨g2,e2⟩,kF,p,rfl,hD⟩:=L7 (q:=1048576) hFE G0.name G0.nodup (by omega) (by omega);obtain⟨l1,x1,G,⟨g3,e3⟩,kG,r1,-⟩:=RP hD G0.man G0.mans G0.segs hls;obtain⟨⟨y1,rfl,hy1⟩,hx1⟩:=r1 ⟨rfl,AK ls⟩;have z39:b7 ai 39= .ok (.agg ⟨b_⟩):=dp;have yo:=BR (m:=cT ls k) hy1;have sH:aW ai (G.alloc (aa 39 b_)) 39 (pw G.next 0) (.agg ⟨bS y1 (cT ls k)⟩)= .ok (G.alloc (aa 39 (bS y1 (cT ls k)))):=bn zQ rfl rfl (by simp [b_]) yo.2;have kH:=Kp.alloc G (aa 39 (bS y1 (cT ls k)));have vH:=aF G 39 (bS y1 (cT ls k));simp only [pV] at e2;rw [if_pos ⟨rfl,AK ls⟩] at e3;have e2':∀M,g2≤M→bg ai (exec ai M) (.fn 8 [y,.int .i64 (1048576:Nat)]) E= .ok (.val (pw p 0) F):=e2;apply W.seq;apply W.a6 (g2+g3) 20
 ·intro M hM;simp (disch:=first|decide+kernel|omega) only [c3,YW,Aq,X2,e2',e3,X8,X7,z39,au,sH];rfl
 show W ai _ _ _;have kEH:=(kF.trans kG).trans kH;have hx1H:=hx1.kp kH;have hy1H:=hy1.kp kH;generalize G.alloc (aa 39 (bS y1 (cT ls k)))=H at kH vH kEH hx1H hy1H;have l9:=lW vH.2 rfl;obtain⟨I,⟨g4,e4⟩,kI⟩:=Gj (a:=(cT ls k).ver) (b:=1) (c:=(cT ls k).next) hy1H;have e4':∀M,g4≤M→bg ai (exec ai M) (.fn 10 [.agg ⟨bS y1 (cT ls k)⟩]) H= .ok (.val (.agg ⟨bS y1 (cT ls k)⟩) I):=e4;have vEH:=vE.kp kEH;have l8:=M1 vEH.2 rfl;have l8':=M1 (vEH.kp kI).2 rfl;obtain⟨v,J,⟨g5,e5⟩,rfl,kJ⟩:=ui (a:=(cT ls k).ver) (b:=1) (c:=(cT ls k).next) (hy1H.kp kI) ((hzE.kp kEH).kp kI) (by rw [dy];omega);have e5':∀M,g5≤M→bg ai (exec ai M) (.fn 9 [.agg ⟨bS y1 (cT ls k)⟩,.agg ⟨bS z (cT ls k)⟩]) I= .ok (.val (.bool true) J):=e5;have kIJ:=kI.trans kJ;have n1:=hx1H.len;have l83:∀D,Kp H D→aq ai D.get 34 (pw D.next (0+3))=aq ai D.get 34 (pw D.next (0+3)):=fun _ _=>rfl
 have lz:aq ai J.get 34 (pw D.next 3)= .ok z:=(vEH.kp kIJ).ld rfl Fo rfl;have n2:=fg.len ((hzE.kp kEH).kp kIJ);rw [dy] at n2;have sv:=Fj (m:=cT ls k) ((hzE.kp kEH).kp kIJ);apply W.seq;apply W.a6 (g4+g5) 20
 ·intro M hM;simp (config:={maxSteps:=4000000}) (disch:=first|decide+kernel|omega|simp only [Wq,X2]) only [c3,YW,Aq,X5,reduceIte,X2,X3,l9,e4',l8,l8',e5',n1,mi,lz,n2,sv,Fq,aC [(5,4)]];rfl
 show W ai _ _ _;have kCJ:=(kE'.trans kEH).trans kIJ;have vPJ:=vPC.kp kCJ;have hFJ:=(hFE.kp kEH).kp kIJ;have lp0:aq ai J.get 23 (pw (A.next+1) 0)= .ok (.int .u16 p0):=vPJ.ld rfl Ws rfl;have i0:=Vo (b:=A.next+1) (i:=0) (by omega);have c0:=bu (tb:=ai) (s:=23) (d:=3) (k:=.u16) (n:=p0) (by rw [Ws];rfl) u3 (aR (by omega));have n3:=hFJ.len;rw [hfl] at n3;have hqlt:p0 % (ls.length+2)<fs.length:=by rw [hfl];exact Y8 _ (by omega)
 have rm:aN .rem .i64 ((p0:Nat):Int) ((ls.length+2:Nat):Int)= .ok (.int .i64 (p0 % (ls.length+2):Nat)):=tp (by omega);generalize hq:p0 % (ls.length+2)=q at hqlt rm;apply W.seq;apply W.run 20
 ·intro M;simp (disch:=first|decide+kernel|omega) only [c3,YW,Aq,X2,i0,lp0,c0,n3,rm];rfl
 show W ai _ _ _;have hf:fs[q]?=some fs[q]:=X6 hqlt;generalize fs[q]=f at hf;obtain⟨fb,fo,j1,j2,j3,j4⟩:=hFJ.at hf;obtain⟨hsz,hseal⟩:=Mn (k:=k) (o:=o) hls hok (by rw [hfs];exact hf);have hnm:=Sv (k:=k) (o:=o) (by rw [hfs];exact hf);have tb48:=sV (tb:=ai) (s:=9) (d:=48) (e:=5) (l:=f.2) u9 NV u5 (by omega);have kK:=Kp.alloc J (.cells 5 .mark 0 (T.bJ .e 0 (f.2.map dq)));have bK:Fp (J.alloc (.cells 5 .mark 0 (T.bJ .e 0 (f.2.map dq)))) J.next 5 .mark f.2:=Bytes.XX (aD _ _)
 have nK:(J.alloc (.cells 5 .mark 0 (T.bJ .e 0 (f.2.map dq)))).next=J.next+1:=ae _ _
 apply W.seq;apply W.run 20
 ·intro M;simp (config:={maxSteps:=4000000}) (disch:=first|decide+kernel|omega|simp only [Wq,X2]) only [c3,YW,Aq,X5,reduceIte,X2,X3,j1,zL,j4,qf _ _ _ _ _ _ _ _ _ _ u9 NV,tb48];rfl
 show W ai _ _ _;generalize J.alloc (.cells 5 .mark 0 (T.bJ .e 0 (f.2.map dq)))=K at kK bK nK;apply W.seq;apply W.seq;apply W.run 20
 ·intro M;simp (disch:=first|decide+kernel|omega) only [c3,YW,Aq,X2];rfl
 apply W.block;have vPK:=vPJ.kp kK;have hnp:=vPJ.1;refine KD (l:=f.2) (c:=fe f.2.length 1) (by omega) h1 hp vPK bK (by omega) (x3:=pV A.next) (x7:=y) (x8:=pV D.next) (x10:=x1) (x12:=.int .i64 q) ?_ ?_
 ·simp only [av,aw,T.af,T.ag,T.ak,X2,X3,if_true,if_false,and_true,true_and,pV]
 intro t L hYL nL fL hsl;obtain⟨q3,g7,g8,g10,g12,g13,-⟩:=hsl;show W ai _ _ _;generalize hY:crc.lj f.2 (p1 % (8*f.2.length)) pat=Y at hYL;have hYl:Y.length=f.2.length:=by rw [←hY,crc.zU]
 have hYc:Y=f.2∨q=ls.length+1∨(Y.length=f.2.length∧(crc.dN Y).2=false):=by
  by_cases e:Y=f.2
  ·exact .inl e
  ·by_cases e2:q≤ls.length
   ·obtain⟨d,hd⟩:=hseal e2;refine .inr (.inr ⟨hYl,?_⟩);rw [crc.Oc,←hY,hd];rw [←hY,hd] at e;rw [crc.KO _ _ _ (qbX (Y8 _ (by unfold crc.aK;rw [X',crc.iN];omega))) e]
   ·exact .inr (.inl (by omega))
 have kL:Kp J L:=⟨by omega,fun z hz=>by rw [fL z (by omega),kK.2 z hz]⟩;have hFL:=hFJ.kp kL;obtain⟨fb2,fo2,w1,w2,w3,w4⟩:=hFL.at hf;have cs:cY ai L.get 48 9 (.slice (some ⟨J.next,0,none⟩) f.2.length (fe f.2.length 1))= .ok (strOf Y):=by
  have:=m7 (tb:=ai) (c:=fe f.2.length 1) NV u9 u5 hYL;rwa [hYl] at this
 obtain⟨x17,M0,bM,ap,hM,hbM,kM⟩:=Ma hFL (by omega);obtain⟨N,sN,hN,nN,fN⟩:=Qq Y hM hf;have ixM:=Te hM hqlt;have kN:Kp L N:=⟨by rw [nN];exact kM.1,fun z hz=>by rw [fN z (by omega),kM.2 z hz]⟩;have csM:cY ai M0.get 48 9 (.slice (some ⟨J.next,0,none⟩) f.2.length (fe f.2.length 1))= .ok (strOf Y):=by
  have:=m7 (tb:=ai) (c:=fe f.2.length 1) NV u9 u5 (hYL.same (kM.2 J.next (by omega)));rwa [hYl] at this
 apply W.seq;apply W.run 20
 ·intro M;simp (config:={maxSteps:=4000000}) (disch:=first|decide+kernel|omega|simp only [Wq,X2]) only [c3,YW,Aq,X5,reduceIte,X2,X3,g7,g12,g13,EY,cs,w1,zL,w4,Fq,aC []];rfl
 apply W.seq;apply W.run 20
 ·intro M;simp (disch:=first|decide+kernel|omega) only [c3,YW,Aq,X2,g7,Vd,ap];rfl
 apply W.seq;apply W.run 20
 ·intro M;simp (disch:=first|decide+kernel|omega) only [c3,YW,Aq,X2,g12,g13,iR _ _ _ _ _ _ _ _ _ _ NV u9,csM,ixM,zL,sN];rfl
 show W ai _ _ _;obtain⟨s2,B0⟩:=Ow (k:=k) (o:=o) (q:=q) (f:=f) (Y:=Y) hls hok (by rw [hfs];exact hf) hYc;rw [hfs] at B0;generalize his:decide (Y=f.2∨q≠ls.length)=is at B0;generalize hj:(if Y≠f.2∧q<ls.length then some q else none)=j at B0;obtain⟨v,O,⟨g9,e9⟩,kO,p2,rfl,hDO⟩:=L7 (q:=1048576) (⟨bM,hN⟩:pP N (fs.set q (f.1,Y)) x17) B0.name B0.nodup (by rw [YG];omega) (by omega);obtain⟨l2,x2,P,⟨g10',e10⟩,kP,r2,r3⟩:=RP hDO B0.man B0.mans B0.segs hls;have hlo:l2.length=4∧∀v∈l2,aJ v=true:=by
  by_cases hg:is=true∧il ls j=ls.length
  ·obtain⟨⟨y2,rfl,hy2⟩,-⟩:=r2 hg;exact BR hy2
  ·obtain⟨rfl,-⟩:=r3 hg;exact MY
 simp only [pV] at e9;have e9':∀M,g9≤M→bg ai (exec ai M) (.fn 8 [x17,.int .i64 (1048576:Nat)]) N= .ok (.val (pw p2 0) O):=e9;have sQ:aW ai (P.alloc (aa 39 b_)) 39 (pw P.next 0) (.agg ⟨l2⟩)= .ok (P.alloc (aa 39 l2)):=bn (by rw [hlo.1];exact zQ) rfl (by rw [hlo.1];rfl) (by simp [b_]) hlo.2;have kQ:=Kp.alloc P (aa 39 l2);have vQ:=aF P 39 l2;rw [hlo.1] at vQ;apply W.seq;apply W.a6 (g9) 20
 ·intro M hM;simp (disch:=first|decide+kernel|omega) only [c3,YW,Aq,X2,e9'];rfl
 apply W.seq;apply W.a6 (g10') 20
 ·intro M hM;simp (disch:=first|decide+kernel|omega) only [c3,YW,Aq,X2,e10,X8,X7,z39,au,sQ];rfl
 show W ai _ _ _;have kJQ:=kL.trans (kN.trans (kO.trans (kP.trans kQ)));have kAQ:=kC.trans (kCJ.trans kJQ);have kOQ:=kP.trans kQ;have hFQ:=hFJ.kp kJQ;have hDQ:=hDO.kp kOQ;have v8Q:=(vEH.kp kIJ).kp kJQ;have hzQ:=((hzE.kp kEH).kp kIJ).kp kJQ;have hx1Q:=(hx1H.kp kIJ).kp kJQ;have r2Q:(is=true∧il ls j=ls.length)→(∃y,l2=bS y (cT ls k)∧fg (P.alloc (aa 39 l2)) (cP ls) y)∧kj (P.alloc (aa 39 l2)) ls x2:=fun hg=>⟨(r2 hg).1.imp fun y hy=>⟨hy.1,hy.2.kp kQ⟩,(r2 hg).2.kp kQ⟩
 generalize P.alloc (aa 39 l2)=Q at kQ vQ kJQ kAQ kOQ hFQ hDQ v8Q hzQ hx1Q r2Q;have hend:∀t D,Kp Q D→t.get 6=some (.bool true)→Wf ai YW (fun v A'=>v= .bool true∧Kp A A') .ret ⟨t,196,[],D,none⟩:=fun t D kD ht=>
  ⟨.inr rfl,rfl,_,(by simp only [YW,Aq,X2,ht]<;>rfl),rfl,kAQ.trans kD⟩
 by_cases hg:is=true∧il ls j=ls.length
 ·rw [if_pos hg];show W ai Uz _ _;refine Kc (is:=is) (j:=j) (k:=k) (q:=q) (f:=f) (fs:=fs) (x7:=y) (sm:=decide (Y=f.2)) ⟨⟨D.next,z,?_,v8Q,hzQ⟩,⟨x1,?_,hx1Q⟩,⟨P.next,l2,x2,?_,vQ,?_,r2Q,r3⟩,?_⟩ hg hls hFQ hf ?_ ?_ hend
  ·simp only [av,aw,T.af,T.ag,T.ak,X2,X3,if_true,if_false,and_true,true_and,g8]
  ·simp only [av,aw,T.af,T.ag,T.ak,X2,X3,if_true,if_false,and_true,true_and,g10]
  ·simp only [av,aw,T.af,T.ag,T.ak,X2,X3,if_true,if_false,and_true,true_and,pV]
  ·simp only [av,aw,T.af,T.ag,T.ak,X2,X3,if_true,if_false,and_true,true_and]
  ·simp only [av,aw,T.af,T.ag,T.ak,X2,X3,if_true,if_false,and_true,true_and]
  ·simp only [av,aw,T.af,T.ag,T.ak,X2,X3,if_true,if_false,and_true,true_and,g7,g12]
  ·by_cases e:Y=f.2
   ·exact .inl (decide_eq_true e)
   ·refine .inr (hnm.1.2 ?_);obtain⟨hg1,hg2⟩:=hg;rw [←his] at hg1;have hne:=of_decide_eq_true hg1;have hq2:¬q<ls.length:=fun hlt=>by
     rw [if_pos ⟨e,hlt⟩] at hj;subst hj;simp only [il] at hg2;omega
    have:=hne.resolve_left e;omega
 ·rw [if_neg hg];have hYn:Y≠f.2:=fun e=>hg ⟨by rw [←his];exact decide_eq_true (.inl e),by rw [←hj,if_neg (fun h=>h.1 e)];rfl⟩
  have hql:q≤ls.length:=by
   refine Nat.le_of_not_lt fun hlt=>hg ⟨by rw [←his];exact decide_eq_true (.inr (by omega)),?_⟩
   rw [←hj,if_neg (fun h=>by have:=h.2;omega)];rfl
  show W ai Uz _ _;refine Nv (is:=is) (j:=j) (k:=k) (q:=q) (f:=f) (fs:=fs) (gs:=fs.set q (f.1,Y)) (s:=s2) (x7:=y) (p:=p2) ⟨⟨D.next,z,?_,v8Q,hzQ⟩,⟨x1,?_,hx1Q⟩,⟨P.next,l2,x2,?_,vQ,?_,r2Q,r3⟩,?_⟩ hg hls hFQ hf ?_ ?_ ?_ hDQ B0.man B0.mans hend
  ·simp only [av,aw,T.af,T.ag,T.ak,X2,X3,if_true,if_false,and_true,true_and,g8]
  ·simp only [av,aw,T.af,T.ag,T.ak,X2,X3,if_true,if_false,and_true,true_and,g10]
  ·simp only [av,aw,T.af,T.ag,T.ak,X2,X3,if_true,if_false,and_true,true_and,pV]
  ·simp only [av,aw,T.af,T.ag,T.ak,X2,X3,if_true,if_false,and_true,true_and]
  ·simp only [av,aw,T.af,T.ag,T.ak,X2,X3,if_true,if_false,and_true,true_and]
  ·rw [decide_eq_false hYn];simp only [av,aw,T.af,T.ag,T.ak,X2,X3,if_true,if_false,and_true,true_and,g7,g12,pV]
  ·intro h;have:=hnm.1.1 h;omega
  ·rw [←his,hnm.2];constructor
   ·intro h;have:=of_decide_eq_false h;by_cases e:q=ls.length
    ·exact e
    ·exact absurd (Or.inr e) this
   ·intro h;exact decide_eq_false (fun h2=>h2.elim hYn (fun h3=>h3 h))
end Go.Proofs.YtggndfefpbmaeaaGreatDoor.sto
namespace Go.Proofs.YtggndfefpbmaeaaGreatDoor.storeBursts
open Go.ChangeShapes Go.WideMaps Go.WideElems Go.WideShapes Go.ChangeAt Go.RowKit Go.Deep Go.Am
open Go.ChangeMaps (open_string shut_string)
theorem own:ownKnob YO.godebug=none:=by kernel_rfl
theorem laidOut:laidOutB YO=true:=by kernel_rfl
theorem Cv {x:Int} (h:(Lit.int .u8 x).wf=true):Value.int .u8 x= .int .u8 (x.toNat:Nat)∧x.toNat<256:=by
 obtain⟨h0,h1⟩:=bounds_u8 h;rw [Int.toNat_of_nonneg h0];exact⟨rfl,by omega⟩
theorem wK {x:Int} (h:(Lit.int .u16 x).wf=true):Value.int .u16 x= .int .u16 (x.toNat:Nat)∧x.toNat<65536:=by
 simp [Lit.wf,IntKind.min,IntKind.max,IntKind.signed,IntKind.bits] at h;rw [Int.toNat_of_nonneg (by omega)];exact⟨rfl,by omega⟩
theorem wJ {x:Int} (h:(Lit.int .u32 x).wf=true):Value.int .u32 x= .int .u32 (x.toNat:Nat)∧x.toNat<4294967296:=by
 simp [Lit.wf,IntKind.min,IntKind.max,IntKind.signed,IntKind.bits] at h;rw [Int.toNat_of_nonneg (by omega)];exact⟨rfl,by omega⟩
section
variable {H:Type} {enc:TypeId×Value→H} {P:Program} {w:World} {base:Nat} {spare:Nat→Bool} {held:Bool}
theorem sK {t e:TypeId} {fs:Array Field} {fuel:Nat} {cs:List Value} {x:DataW H×List MemPlace} (ht:P.underlying t=some (.slice e)) (he:P.underlying e=some (.struct fs))
 (hone:oneCellFields P fs=true) (hC:P.cellsOf e=fs.size) (h:DataW.trod enc P w base spare held fuel t cs=some x):
 (cs=[.slice none 0 0]∧x=(.nil,[]))∨
 ∃(a:Addr) (len cap m:Nat),cs=[.slice (some a) len cap]∧len≤cap∧cap≤maxLen∧m=(if spare a.block then cap else len)∧
  ∀i,i<m→∃(n:Nat),∀(j:Nat) (f:Field),fs[j]?=some f→∃(v:Value) (y:DataW H×List MemPlace),w.cell? (a.add (i*fs.size+j))=some v∧DataW.trod enc P w base spare held n f.type [v]=some y:=by
 rcases open_slice ht h with h0|⟨a,len,cap,m,n,D,Pl,hcs,hb,hl,hm,hmm,hx,hi⟩
 ·exact .inl h0
 ·refine .inr ⟨a,len,cap,m,hcs,hl,hm,hmm,fun i him=>?_⟩;obtain⟨cs',hc,ht'⟩:=hi i him;rw [hC] at hc;obtain⟨ys,n',hn',hy,hlen,hyl,hf⟩:=DataW.trod_struct he ht';obtain⟨_,hcl,hat⟩:=World.cells?_some hc;refine⟨n',fun j f hj=>?_⟩;obtain⟨ho,hk⟩:=hone_of hone j f hj;have hjl:j<fs.size:=(Ym.1 hj).1;have hcell:=hat j hjl;have hv:cs'[j]?=some (cs'[j]'(by omega)):=X6 (by omega)
  have h1:=hf j f hj;rw [ho,hk] at h1;have hone':(cs'.drop j).take 1=[cs'[j]'(by omega)]:=by
   rw [Y3 (by omega)];rfl
  rw [hone'] at h1;have hys:ys[j]?=some (ys[j]'(by omega)):=X6 (by omega)
  refine⟨_,_,?_,h1.trans hys⟩;rw [←Go.Deep.add_add,hcell,hv]
end
def OE (ls:List UInt8):List Value:=ls.map fun b=>.int .u8 (b.toNat:Nat)
def DU (w:World) (v:Value) (ls:List UInt8):Prop:=BB w 1 v ls.length (OE ls)
section
variable {H:Type} {enc:TypeId×Value→H} {w:World} {base fuel:Nat} {held:Bool}
variable {v:Value}
theorem FD {x:DataW H×List MemPlace} (h:DataW.trod enc YO w base (fun _=>true) held fuel 48 [v]=some x):∃ls,DU w v ls:=by
 rcases open_ints Tryz.underlying48 qbN (by kernel_rfl) h with⟨hcs,_⟩|⟨a,len,cap,zs,hcs,-,hl,hm,hz,-,hcell,hwf⟩
 ·simp only [YL,and_true] at hcs;subst hcs;exact⟨[],.inl ⟨rfl,rfl⟩⟩
 ·simp only [YL,and_true] at hcs;subst hcs;simp only [if_true] at hz;by_cases hc0:cap=0
  ·subst hc0;have hl0:len=0:=by omega
   subst hl0;exact⟨[],.inr (.inl ⟨a,rfl,rfl⟩)⟩
  ·have hlen:((zs.take len).map fun z=>Zc z.toNat).length=len:=by
    rw [Yb,Yo];omega
   refine⟨(zs.take len).map fun z=>Zc z.toNat,.inr (.inr ⟨a,cap,by rw [hlen],by omega,by rw [hlen];exact hl,Y5 hm (by decide),fun i hi=>⟨_,hcell i (by omega)⟩,by rw [OE,Yb,Zf],fun i c hi=>?_⟩)⟩;have hil:=(X_.1 hi).1;rw [OE,Yb,hlen] at hil;rw [hcell i (by omega)];unfold OE at hi;rw [Yr,Yr,qah,if_pos hil,X6 (by omega)] at hi;simp only [YI,YB] at hi;have hzi:zs.getD i 0=zs[i]'(by omega):=by
    rw [YZ,X6 (by omega)];rfl
   have hb:=Cv (hwf (zs[i]'(by omega)) (YQ _))
   rw [hzi,←hi,hb.1,qaA,Zb hb.2]
structure Lq where
 v:Value
 ls:List UInt8
 wt:Nat
 gone:Bool
def vZ (d:Lq):List Value:=[d.v,.int .u32 d.wt,.bool d.gone]
theorem JI {v0 v1 v2:Value} {n0 n1 n2:Nat} {y0 y1 y2:DataW H×List MemPlace} (t0:DataW.trod enc YO w base (fun _=>true) held n0 48 [v0]=some y0) (t1:DataW.trod enc YO w base (fun _=>true) held n1 31 [v1]=some y1) (t2:DataW.trod enc YO w base (fun _=>true) held n2 4 [v2]=some y2):
 ∃d:Lq,vZ d=[v0,v1,v2]∧DU w d.v d.ls∧d.wt<4294967296:=by
 obtain⟨ls,hl⟩:=FD t0;obtain⟨m,c1,-,w1⟩:=DataW.trod_int Tryz.underlying31 t1;obtain⟨b,c2,-⟩:=DataW.trod_bool Tryz.underlying4 t2;simp only [YL,and_true] at c1 c2;subst c1 c2;exact⟨⟨v0,ls,m.toNat,b⟩,by unfold vZ;rw [←(wJ w1).1],hl,(wJ w1).2⟩
theorem KM {x:DataW H×List MemPlace} (h:DataW.trod enc YO w base (fun _=>true) held fuel 111 [v]=some x):
 ∃ms:List Lq,(∀m∈ms,DU w m.v m.ls∧m.wt<4294967296)∧BB w 3 v ms.length (ms.map vZ).flatten:=by
 rcases sK Tryz.underlying111 Tryz.underlying235 (by kernel_rfl) (by kernel_rfl) h with⟨hcs,_⟩|⟨a,len,cap,m,hcs,hl,hm,hz,hcell⟩
 ·simp only [YL,and_true] at hcs;subst hcs;exact⟨[],(fun m hm=>by cases hm),.inl ⟨rfl,rfl⟩⟩
 ·simp only [YL,and_true] at hcs;subst hcs;simp only [if_true] at hz;subst hz;by_cases hc0:m=0
  ·subst hc0;have hl0:len=0:=by omega
   subst hl0;exact⟨[],(fun m hm=>by cases hm),.inr (.inl ⟨a,rfl,rfl⟩)⟩
  ·obtain⟨f,hf⟩:=Classical.axiomOfChoice (r:=fun(i:Nat) (d:Lq)=>i<m→(DU w d.v d.ls∧d.wt<4294967296)∧∀j,j<3→w.cell? (a.add (i*3+j))=(vZ d)[j]?) (fun i=>by
    by_cases hi:i<m
    ·obtain⟨n,hfi⟩:=hcell i hi;obtain⟨u0,y0,e0,t0⟩:=hfi 0 _ rfl;obtain⟨u1,y1,e1,t1⟩:=hfi 1 _ rfl;obtain⟨u2,y2,e2,t2⟩:=hfi 2 _ rfl;obtain⟨d,hd,hlw⟩:=JI t0 t1 t2;refine⟨d,fun _=>⟨hlw,fun j hj=>?_⟩⟩;rw [hd];have:j=0∨j=1∨j=2:=by omega
     rcases this with rfl|rfl|rfl
     ·exact e0
     ·exact e1
     ·exact e2
    ·exact⟨⟨.bool true,[],0,false⟩,fun h=>absurd h hi⟩)
   have hlen3:∀l∈((Zi len).map f).map vZ,l.length=3:=fun l hl=>by
    obtain⟨d,-,rfl⟩:=YN.1 hl;rfl
   have hll:((Zi len).map f).length=len:=by rw [Yb,List.length_range]
   refine⟨(Zi len).map f,fun d hd=>?_,.inr (.inr ⟨a,m,by rw [hll],by omega,by rw [hll];exact hl,Y5 hm (by decide),fun i hi=>?_,by rw [db hlen3,Yb],fun i c hi=>?_⟩)⟩
   ·obtain⟨i,hi,rfl⟩:=YN.1 hd;exact(hf i (by have:=List.mem_range.1 hi;omega)).1
   ·have hi3:i/3<m:=by omega
    have e:i/3*3+i % 3=i:=by omega
    have:=(hf (i/3) hi3).2 (i % 3) (Y8 _ (by omega));rw [e] at this;rw [this,X6 (show i % 3<(vZ (f (i/3))).length from Y8 _ (by omega))];exact⟨_,rfl⟩
   ·have hiv:=(X_.1 hi).1;rw [db hlen3,Yb,hll] at hiv;have hi3:i/3<len:=by omega
    have e:i/3*3+i % 3=i:=by omega
    have g:=eR hlen3 (i:=i/3) (j:=i % 3) (l:=vZ (f (i/3))) (by rw [Yr,Yr,Z_ hi3];rfl) (Y8 _ (by omega));rw [e,hi] at g;have:=(hf (i/3) (by omega)).2 (i % 3) (Y8 _ (by omega));rw [e] at this;rw [this,←g]
def HF (w:World) (p:Value×List Lq):Prop:=(∀m∈p.2,DU w m.v m.ls∧m.wt<4294967296)∧BB w 3 p.1 p.2.length (p.2.map vZ).flatten
theorem Rf {x:DataW H×List MemPlace} (h:DataW.trod enc YO w base (fun _=>true) held fuel 22 [v]=some x):
 ∃ps:List (Value×List Lq),(∀p∈ps,HF w p)∧BB w 1 v ps.length (ps.map (·.1)):=by
 have h1:YO.cellsOf 111=1:=by kernel_rfl
 rcases open_slice Tryz.underlying22 h with⟨hcs,_⟩|⟨a,len,cap,m,n,D,Pl,hcs,hb,hl,hm,hz,hx,hi⟩
 ·simp only [YL,and_true] at hcs;subst hcs;exact⟨[],(fun m hm=>by cases hm),.inl ⟨rfl,rfl⟩⟩
 ·simp only [YL,and_true] at hcs;subst hcs;simp only [if_true] at hz;subst hz;by_cases hc0:m=0
  ·subst hc0;have hl0:len=0:=by omega
   subst hl0;exact⟨[],(fun m hm=>by cases hm),.inr (.inl ⟨a,rfl,rfl⟩)⟩
  ·obtain⟨f,hf⟩:=Classical.axiomOfChoice (r:=fun(i:Nat) (p:Value×List Lq)=>i<m→HF w p∧w.cell? (a.add i)=some p.1) (fun i=>by
    by_cases him:i<m
    ·obtain⟨cs',hc,ht'⟩:=hi i him;rw [h1] at hc;obtain⟨_,hcl,hat⟩:=World.cells?_some hc;have hc0:=hat 0 (by omega)
     match cs',hcl with
     | [c],_=>
      obtain⟨ms,g1,g2⟩:=KM ht';refine⟨(c,ms),fun _=>⟨⟨g1,g2⟩,?_⟩⟩;have e:(a.add (i*1)).add 0=a.add i:=by rw [Zf];rfl
      rw [e] at hc0;exact hc0
    ·exact⟨(.bool true,[]),fun h=>absurd h him⟩)
   have hll:((Zi len).map f).length=len:=by rw [Yb,List.length_range]
   refine⟨(Zi len).map f,fun d hd=>?_,.inr (.inr ⟨a,m,by rw [hll],by omega,by rw [hll];exact hl,Y5 hm (by decide),fun i hi=>⟨_,(hf i (by omega)).2⟩,by rw [Yb,Zf],fun i c hi=>?_⟩)⟩
   ·obtain⟨i,hi,rfl⟩:=YN.1 hd;exact(hf i (by have:=List.mem_range.1 hi;omega)).1
   ·have hil:=(X_.1 hi).1;rw [Yb,hll] at hil;rw [Yr,Yr,Z_ hil] at hi;cases hi;exact(hf i (by omega)).2
theorem Ts {cs:List Value} {x:DataW H×List MemPlace} (h:DataW.trod enc YO w base (fun _=>true) held fuel 29 cs=some x):
 ∃(v:Value) (k a b c d:Int) (n o:ByteArray) (m:Nat) (y:DataW H×List MemPlace),cs=[v,.int .u8 k,.int .u8 a,.int .u8 b,.int .u8 c,.int .u16 d,.string n,.string o]∧(Lit.int .u8 k).wf=true∧DataW.trod enc YO w base (fun _=>true) held m 22 [v]=some y:=by
 obtain⟨xs,n,-,-,hlen,hxl0,hf⟩:=DataW.trod_struct Tryz.underlying29 h;have h8:YO.cellsOf 29=8:=by kernel_rfl
 rw [h8] at hlen;have k22:YO.cellsOf 22=1:=by kernel_rfl
 have k5:YO.cellsOf 5=1:=by kernel_rfl
 have k25:YO.cellsOf 25=3:=by kernel_rfl
 have k27:YO.cellsOf 27=2:=by kernel_rfl
 have k9:YO.cellsOf 9=1:=by kernel_rfl
 have k23:YO.cellsOf 23=1:=by kernel_rfl
 match cs,hlen with
 | [c0,c1,c2,c3,c4,c5,c6,c7],_=>
  have f0:=hf 0 {name:= "Lists",type:=22,offset:=0,embedded:=false,tag:= "",pkgPath:= "",byteOffset:=0} rfl;have f1:=hf 1 {name:= "More",type:=5,offset:=1,embedded:=false,tag:= "",pkgPath:= "",byteOffset:=24} rfl;have f2:=hf 2 {name:= "Less",type:=5,offset:=2,embedded:=false,tag:= "",pkgPath:= "",byteOffset:=25} rfl;have f3:=hf 3 {name:= "Turn",type:=25,offset:=3,embedded:=false,tag:= "",pkgPath:= "",byteOffset:=26} rfl;have f4:=hf 4 {name:= "Other",type:=27,offset:=6,embedded:=false,tag:= "",pkgPath:= "",byteOffset:=32} rfl;simp only [k22,k5,k25,k27,Z5,qbS,Z',ZC] at f0 f1 f2 f3 f4;have some_of:∀{xs:List (DataW H×List MemPlace)} {n i:Nat} {t:TypeId} {cs:List Value},i<xs.length→DataW.trod enc YO w base (fun _=>true) held n t cs=xs[i]?→∃y,DataW.trod enc YO w base (fun _=>true) held n t cs=some y:=fun hi he=>⟨_,he.trans (X6 hi)⟩
  have hxl:xs.length=5:=hxl0;obtain⟨y0,f0⟩:=some_of (by omega) f0;obtain⟨y1,f1⟩:=some_of (by omega) f1;obtain⟨y2,f2⟩:=some_of (by omega) f2;obtain⟨y3,f3⟩:=some_of (by omega) f3;obtain⟨y4,f4⟩:=some_of (by omega) f4;obtain⟨m1,e1,-,b1⟩:=DataW.trod_int qbN f1;obtain⟨m2,e2,-,b2⟩:=DataW.trod_int qbN f2;obtain⟨zs,n2,-,-,-,hzl,hz⟩:=DataW.trod_struct Tryz.underlying25 f3;have z0:=hz 0 {name:= "File",type:=5,offset:=0,embedded:=false,tag:= "",pkgPath:= "",byteOffset:=0} rfl;have z1:=hz 1 {name:= "By",type:=5,offset:=1,embedded:=false,tag:= "",pkgPath:= "",byteOffset:=1} rfl;have z2:=hz 2 {name:= "At",type:=23,offset:=2,embedded:=false,tag:= "",pkgPath:= "",byteOffset:=2} rfl;simp only [k5,k23,Z5,qbS,Z',ZC] at z0 z1 z2;have hzl':zs.length=3:=hzl;obtain⟨q0,z0⟩:=some_of (by omega) z0;obtain⟨q1,z1⟩:=some_of (by omega) z1;obtain⟨q2,z2⟩:=some_of (by omega) z2;obtain⟨t0,g0,-,-⟩:=DataW.trod_int qbN z0;obtain⟨t1,g1,-,-⟩:=DataW.trod_int qbN z1;obtain⟨t2,g2,-,-⟩:=DataW.trod_int Tryz.underlying23 z2;obtain⟨us,n3,-,-,-,hul,hu⟩:=DataW.trod_struct Tryz.underlying27 f4;have u0:=hu 0 {name:= "Name",type:=9,offset:=0,embedded:=false,tag:= "",pkgPath:= "",byteOffset:=0} rfl;have u1:=hu 1 {name:= "Bytes",type:=9,offset:=1,embedded:=false,tag:= "",pkgPath:= "",byteOffset:=16} rfl;simp only [k9,Z5,qbS,Z',ZC] at u0 u1;have hul':us.length=2:=hul;obtain⟨r0,u0⟩:=some_of (by omega) u0;obtain⟨r1,u1⟩:=some_of (by omega) u1;obtain⟨s6,e6,-,-⟩:=DataW.trod_string Tryz.underlying9 u0;obtain⟨s7,e7,-,-⟩:=DataW.trod_string Tryz.underlying9 u1;simp only [YL,and_true] at e1 e2 g0 g1 g2 e6 e7;subst e1 e2 g0 g1 g2 e6 e7;exact⟨c0,m1,m2,t0,t1,t2,s6,s7,_,y0,rfl,b1,f0⟩
theorem TF {cs:List Value} {x:DataW H×List MemPlace} (h:DataW.trod enc YO w base (fun _=>true) held fuel 30 cs=some x):
 ∃a b:Int,cs=[.int .u16 a,.int .u16 b]∧(Lit.int .u16 a).wf=true∧(Lit.int .u16 b).wf=true:=by
 obtain⟨xs,n,-,-,hlen,hxl,hf⟩:=DataW.trod_array Tryz.underlying30 h;have h2:YO.cellsOf 30=2:=by kernel_rfl
 have k23:YO.cellsOf 23=1:=by kernel_rfl
 rw [h2] at hlen
 match cs,hlen with
 | [c0,c1],_=>
  have f0:=hf 0 (by omega);have f1:=hf 1 (by omega);simp only [k23,qaE,qaz,Z5,qbS,Z',ZC] at f0 f1;obtain⟨m0,e0,-,b0⟩:=DataW.trod_int Tryz.underlying23 (f0.trans (X6 (by omega)));obtain⟨m1,e1,-,b1⟩:=DataW.trod_int Tryz.underlying23 (f1.trans (X6 (by omega)));simp only [YL,and_true] at e0 e1;subst e0 e1;exact⟨m0,m1,rfl,b0,b1⟩
end
noncomputable def nN (w:World):Nat→Nat→Value→Option Value:=fun _ _ v=>Ap w 1 v
theorem UZ (w:World):WG w [] (nN w):=fun _ _ _ _ h=>O7 h
variable {v:Value}
theorem Pk {w:World} {ls:List UInt8} (h:DU w v ls):∃x,Ap w 1 v=some x∧sto.tM (nV w 0 (nN w)) ls x:=by
 obtain⟨x,h1,h2⟩:=U6 (N:=nN w) (by omega) (by omega) h;refine⟨x,h1,?_⟩;rcases h2 with⟨rfl,h0⟩|⟨rfl,h0⟩|⟨q,off,rfl,hq,h3⟩
 ·exact .inl ⟨rfl,Yh.1 h0⟩
 ·exact .inr (.inl ⟨rfl,Yh.1 h0⟩)
 ·refine .inr (.inr ⟨q,off,_,rfl,?_⟩);rcases h3 with h3|⟨t,fz,c,h4,h5⟩
  ·exact .inl (Yh.1 (by omega))
  ·refine .inr ⟨hq,t,.row,fz,c,h4,fun i b hi=>?_⟩;have hil:=(X_.1 hi).1;exact h5 i (.int .u8 (b.toNat:Nat)) _ (by omega) (by unfold OE;rw [Yr,hi];rfl) (tk rfl)
variable {n:Nat}
theorem Be {w:World} {len:Nat} {cs:List Value} (hn0:0<n) (h:BB w n v len cs):
 ∃x,Ap w 1 v=some x∧((x= .slice none 0 0∧len=0)∨(x=D6∧len=0)∨∃q off cp,x= .slice (some ⟨q,off,none⟩) len cp∧(len=0∨(q<(nV w 0 (nN w)).next∧∃t fz c,(nV w 0 (nN w)).get q=some (.cells t .row fz c)∧∀(i:Nat) (v u:Value),i<len*n→cs[i]?=some v→Ap w 1 v=some u→c.get (off+i)=some u))):=by
 rcases h with⟨rfl,rfl⟩|⟨x,rfl,rfl⟩|⟨x,cap,rfl,hc0,hlc,hcap,hall,hcl,hcell⟩
 ·exact⟨_,H9,.inl ⟨rfl,rfl⟩⟩
 ·exact⟨_,Ij,.inr (.inl ⟨rfl,rfl⟩)⟩
 ·have hpos:0<cap*n:=Nat.mul_pos hc0 hn0;obtain⟨u0,hu0⟩:=hall 0 hpos;have hsp:=Av hu0;obtain⟨xb,xo,xs⟩:=x;simp only at hsp;subst hsp;have h1:bN (fe len 1)=len:=cm (by omega);have h2:iQ (fe len 1)=1:=dG (by omega);have hnp:¬fM (.slice (some ⟨xb,xo,none⟩) len cap)=true:=by simp [fM]
  obtain⟨u,hu⟩:=hall (cap*n-1) (by omega);obtain⟨cs',t,fr,hw,hu2⟩:=wh rfl hu;have hsz:=(Ym.1 hu2).1;have hblk:xb<w.heap.size:=(Ym.1 hw).1;have hcn:cap≤cap*n:=Nat.le_mul_of_pos_right _ hn0;have hreal:VR (rh w []) (.slice (some ⟨xb,xo,none⟩) len (fe len 1)) (.slice (some ⟨xb,xo,none⟩) len cap):=by
   refine VR.slX (l:=⟨xb,0,cs'.size⟩) (o':=xo) (qG hw) (cH _ _) (by rw [h1];exact hlc) ?_ (fun _=>by simp) hcap (by rw [h1];exact X9 _);rw [h2];have e:xo+(cap*n-1)<cs'.size:=hsz;show xo+cap*1≤cs'.size;omega
  refine⟨.slice (some ⟨xb,xo,none⟩) len (fe len 1),?_,.inr (.inr ⟨xb,xo,_,rfl,.inr ⟨hblk,t,_,_,by rw [lQ,hw];rfl,fun i v u hi hv hu=>zM ?_ hu⟩⟩)⟩
  ·unfold Ap;rw [if_neg hnp];simp only [if_neg (show¬(len=0∧cap=0) by omega),if_pos hreal]
  ·obtain⟨cs2,t2,fr2,hw2,hv2⟩:=wh rfl (hcell i v hv);rw [hw] at hw2;cases hw2;rw [Yu];exact hv2
noncomputable def Tj (w:World) (m:Lq):sto.rP:=⟨(Ap w 1 m.v).getD D6,m.ls,m.wt,m.gone⟩
theorem SG {w:World} {m:Lq} (h:DU w m.v m.ls):Ap w 1 m.v=some (Tj w m).xl∧sto.tM (nV w 0 (nN w)) (Tj w m).ls (Tj w m).xl:=by
 obtain⟨x,h1,h2⟩:=Pk h;have e:(Tj w m).xl=x:=by unfold Tj;rw [h1];rfl
 rw [e];exact⟨h1,h2⟩
theorem Tn {w:World} {ms:List Lq} (hl:∀m∈ms,DU w m.v m.ls) (h:BB w 3 v ms.length (ms.map vZ).flatten):∃x,Ap w 1 v=some x∧sto.Lo (nV w 0 (nN w)) (ms.map (Tj w)) x:=by
 obtain⟨x,h1,h2⟩:=Be (by omega) h;refine⟨x,h1,?_⟩;rcases h2 with⟨rfl,h0⟩|⟨rfl,h0⟩|⟨q,off,cp,rfl,h3⟩
 ·rw [Yh.1 h0];exact .inl ⟨rfl,rfl⟩
 ·rw [Yh.1 h0];exact .inr (.inl ⟨rfl,rfl⟩)
 ·refine .inr (.inr ⟨q,off,cp,by rw [Yb],?_⟩);rcases h3 with h0|⟨hq,t,fz,c,h4,h5⟩
  ·rw [Yh.1 h0];exact .inl rfl
  ·refine .inr ⟨hq,t,.row,fz,c,h4,fun i d hi=>?_⟩;rw [Yr] at hi;obtain⟨m,hm,rfl⟩:=Option.map_eq_some_iff.1 hi;have hil:=(X_.1 hm).1;obtain⟨x1,x2⟩:=SG (hl m (YF hm));have hlen3:∀l∈ms.map vZ,l.length=3:=fun l hl=>by
    obtain⟨d,-,rfl⟩:=YN.1 hl;rfl
   have g:∀{j:Nat} {v u:Value},j<3→(vZ m)[j]?=some v→Ap w 1 v=some u→c.get (off+(i*3+j))=some u:=fun {j v u} hj hv hu=>
    h5 (i*3+j) v u (by omega) (by rw [eR hlen3 (l:=vZ m) (by rw [Yr,hm];rfl) hj];exact hv) hu
   have g0:=g (j:=0) (by omega) rfl x1;have g1:=g (j:=1) (by omega) rfl (tk rfl);have g2:=g (j:=2) (by omega) rfl (tk rfl);simp only [YU,←qaO] at g0 g1 g2;exact⟨g0,g1,g2,x2⟩
theorem Q9 {w:World} {ps:List (Value×List Lq)} (hl:∀p∈ps,HF w p) (h:BB w 1 v ps.length (ps.map (·.1))):∃x,Ap w 1 v=some x∧sto.yO (nV w 0 (nN w)) (ps.map fun p=>p.2.map (Tj w)) x:=by
 obtain⟨x,h1,h2⟩:=Be (by omega) h;refine⟨x,h1,?_⟩;rcases h2 with⟨rfl,h0⟩|⟨rfl,h0⟩|⟨q,off,cp,rfl,h3⟩
 ·rw [Yh.1 h0];exact .inl ⟨rfl,rfl⟩
 ·rw [Yh.1 h0];exact .inr (.inl ⟨rfl,rfl⟩)
 ·refine .inr (.inr ⟨q,off,cp,by rw [Yb],?_⟩);rcases h3 with h0|⟨hq,t,fz,c,h4,h5⟩
  ·rw [Yh.1 h0];exact .inl rfl
  ·refine .inr ⟨hq,t,.row,fz,c,h4,fun i ds hi=>?_⟩;rw [Yr] at hi;obtain⟨p,hp,rfl⟩:=Option.map_eq_some_iff.1 hi;have hil:=(X_.1 hp).1;obtain⟨r1,r2⟩:=hl p (YF hp);obtain⟨y,g1,g2⟩:=Tn (fun m hm=>(r1 m hm).1) r2;exact⟨y,h5 i p.1 y (by omega) (by rw [Yr,hp];rfl) g1,g2⟩
theorem walk (hk:b8 sto.bX.P 5 (aM sto.uB)) (v:Value) (k a b c d p0 p1 pt:Int) (n o:ByteArray) (ps:List (Value×List Lq)) (w:World) (hl:∀p∈ps,HF w p) (hp:BB w 1 v ps.length (ps.map (·.1)))
 (w0:(Lit.int .u8 k).wf=true) (w1:(Lit.int .u16 p0).wf=true) (w2:(Lit.int .u16 p1).wf=true) (w3:(Lit.int .u32 pt).wf=true):
 Calls YO 3 #[.agg ⟨[v,.int .u8 k,.int .u8 a,.int .u8 b,.int .u8 c,.int .u16 d,.string n,.string o]⟩,.agg ⟨[.int .u16 p0,.int .u16 p1]⟩,.int .u32 pt] w fun e w'=>e= .returned (.bool true)∧Below w.heap.size w w':=by
 refine(?_:Calls YO 3 #[.agg ⟨[v,.int .u8 k,.int .u8 a,.int .u8 b,.int .u8 c,.int .u16 d,.string n,.string o]⟩,.agg ⟨[.int .u16 p0,.int .u16 p1]⟩,.int .u32 pt] w fun e w'=>e= .returned (.bool true)∧Go.Am.Leaves w w').mono fun e w' h=>⟨h.1,h.2.below⟩
 obtain⟨x,e0,d0⟩:=Q9 hl hp;rw [(Cv w0).1,(wK w1).1,(wK w2).1,(wJ w3).1];refine JM (sto.wR hk) [] (fun l hl=>by cases hl) (UZ w) (sto.aB qce) sto.L6 (args:=[.agg ⟨sto.wY x k.toNat (.int .u8 a) (.int .u8 b) (.int .u8 c) (.int .u16 d) n.data.toList o.data.toList⟩,.agg ⟨[.int .u16 (p0.toNat:Nat),.int .u16 (p1.toNat:Nat)]⟩,.int .u32 (pt.toNat:Nat)])
  (.cons (.agg (.cons (O7 e0) (.cons (.int _ _) (.cons (.int _ _) (.cons (.int _ _) (.cons (.int _ _) (.cons (.int _ _) (.cons (by show VR _ (strOf n.data.toList) _;rw [←A_];exact .string _) (.cons (by show VR _ (strOf o.data.toList) _;rw [←A_];exact .string _) .nil))))))))) (.cons (.agg (.cons (.int _ _) (.cons (.int _ _) .nil))) (.cons (.int _ _) .nil))) ?_
 obtain⟨u,A',h1,rfl,-⟩:=sto.QV (p0:=p0.toNat) (p1:=p1.toNat) (pat:=pt.toNat) (k:=k.toNat) (a:=.int .u8 a) (b:=.int .u8 b) (c:=.int .u8 c) (d:=.int .u16 d) (n:=n.data.toList) (o:=o.data.toList) d0 (fun ds hds d hd=>by
  obtain⟨p,hp,rfl⟩:=YN.1 hds;obtain⟨m,hm,rfl⟩:=YN.1 hd;exact((hl p hp).1 m hm).2) (Cv w0).2 (wK w1).2 (wK w2).2 (wJ w3).2
 exact⟨A',AQ (sto.aB qce) sto.L6 (by kernel_rfl) (by kernel_rfl) h1⟩
def sU:List (String×DataW Unit):=[("math/bits.deBruijn32tab",Rows.laid_math_bits_deBruijn32tab),("math/bits.deBruijn64tab",Rows.laid_math_bits_deBruijn64tab),("internal/strconv.uint64pow10",Rows.laid_internal_strconv_uint64pow10)]
theorem US (os:Os):(World.holding YO os ⟨#[], #[],[]⟩).layFits YO sU []=true:=by kernel_rfl
theorem UD (os:Os):(World.holding YO os ⟨#[], #[],[]⟩).layIfaces YO sU (World.laidAll YO os sU)=true:=by kernel_rfl
theorem Ni (os:Os) (args:Array Value):laidMetH YO sU ((World.laidAll YO os sU).forCall (fun _ _=>0) ⟨#[],args,[]⟩).memory:=by
 rw [Go.MakeChecks.laidMetH_plain _ _ _ (by kernel_rfl)];exact laidMet_laidAll _ (US os) (UD os)
theorem Cu {P:Program} {w:World} {r:Reach} {base:Nat} {t e:TypeId} (ht:P.underlying t=some (.array n e)) (h:Value.okWide P w r base t v):∃cs,v= .agg cs∧cs.size=P.cellsOf t:=by
 simp only [Value.okWide,ht] at h;obtain⟨cs,h1,h2,_⟩:=h;exact⟨cs,h1,h2⟩
theorem lifted (hk:b8 sto.bX.P 5 (aM sto.uB)) (os:Os) (started:os.Started) (H:Type) (enc:TypeId×Value→H):
 ReturnsInHanded {} qao os 3 .any (fun w args=>(Rows.storeBurstsSpec.pre enc YO YW [] false w args∧laidMetH YO sU w)∧sizedMet enc YO YW (OpenSpec.ofChange Rows.storeBurstsSpec) false w args)
  (Rows.storeBurstsSpec.post enc YO YW false true false false):=by
 refine returnsInHanded_of_change_and (C:=qao) (X:=fun w _=>laidMetH YO sU w) (fun _ _ _ hh h=>h.of_heap hh) own started (by kernel_rfl) qce
  (ChangeSpec.witness_shaped (enc:=enc) (C:=qao) (os:=os) (X:=fun w _=>laidMetH YO sU w) false (World.laidAll YO os sU) #[.agg #[.slice none 0 0,.int .u8 0,.int .u8 0,.int .u8 0,.int .u8 0,.int .u16 0,.string ByteArray.empty,.string ByteArray.empty],.agg #[.int .u16 0,.int .u16 0],.int .u32 0] 12 (World.laidAll_os _ _ _) (World.shaped_of_ZipB (by kernel_rfl) (by kernel_rfl)) (by kernel_rfl) (by kernel_rfl) (by kernel_rfl) (Ni os _)) ?_
 intro W base args ds gs before hval0 hW hcnd _ hL _;have hval:∀(j:Nat) t v,YW.params[j]?=some t→args[j]?=some v→Value.okWide YO W .any base t v:=hval0;have hW':=hW;obtain⟨p,q,hA0,hV,rfl,hfz,hnd⟩:=hW;have hA:DataW.TrodAll enc YO W 0 (fun _=>true) true YW.params.toList args.toList ds p:=hA0;rw [Tryz.params3] at hA hval;obtain⟨v0,vs0,d0,ds0,p0,q0,hargs,rfl,rfl,h0,r0⟩:=trodAll_cons hA;obtain⟨v1,vs1,d1,ds1,p1,q1,rfl,rfl,rfl,h1,r1⟩:=trodAll_cons r0;obtain⟨v2,vs2,d2,ds2,p2,q2,rfl,rfl,rfl,h2,r2⟩:=trodAll_cons r1;obtain⟨rfl,rfl,rfl⟩:=trodAll_nil r2;obtain rfl:args= #[v0,v1,v2]:=by cases args;simp_all
 obtain⟨rfl,rfl⟩:=trodVars_none hV;have k0:=h0;have lt0:∀x∈p0,x.block<W.heap.size:=by obtain⟨m,hm⟩:=k0;exact DataW.trod_lt m _ _ _ hm
 have k1:=h1;have lt1:∀x∈p1,x.block<W.heap.size:=by obtain⟨m,hm⟩:=k1;exact DataW.trod_lt m _ _ _ hm
 have k2:=h2;have lt2:∀x∈p2,x.block<W.heap.size:=by obtain⟨m,hm⟩:=k2;exact DataW.trod_lt m _ _ _ hm
 obtain⟨cs0,rfl,-⟩:=okWide_struct Tryz.underlying29 (hval 0 29 v0 rfl rfl);obtain⟨cs1,rfl,-⟩:=Cu Tryz.underlying30 (hval 1 30 v1 rfl rfl);obtain⟨z2,rfl⟩:=okWide_int Tryz.underlying31 (hval 2 31 v2 rfl rfl);obtain⟨v,k,a,b,c,d,n,o,m,y,e0,wk,hv⟩:∃(v:Value) (k a b c d:Int) (n o:ByteArray) (m:Nat) (y:DataW H×List MemPlace),cs0.toList=[v,.int .u8 k,.int .u8 a,.int .u8 b,.int .u8 c,.int .u16 d,.string n,.string o]∧(Lit.int .u8 k).wf=true∧DataW.trod enc YO W 0 (fun _=>true) true m 22 [v]=some y:=by
  obtain⟨fuel,hf⟩:=h0;exact Ts hf
 obtain⟨ps,hps,hpar⟩:=Rf hv;obtain⟨x0,x1,e1,b0,b1⟩:∃a b:Int,cs1.toList=[.int .u16 a,.int .u16 b]∧(Lit.int .u16 a).wf=true∧(Lit.int .u16 b).wf=true:=by
  obtain⟨fuel,hf⟩:=h1;exact TF hf
 have b2:(Lit.int .u32 z2).wf=true:=by
  obtain⟨fuel,hf⟩:=h2;obtain⟨m,e,-,bb⟩:=DataW.trod_int (cs:=[.int .u32 z2]) Tryz.underlying31 hf;simp only [YL,Value.int.injEq,true_and,and_true] at e;rw [e];exact bb
 obtain rfl:cs0=⟨[v,.int .u8 k,.int .u8 a,.int .u8 b,.int .u8 c,.int .u16 d,.string n,.string o]⟩:=by rw [←e0]
 obtain rfl:cs1=⟨[.int .u16 x0,.int .u16 x1]⟩:=by rw [←e1]
 clear hA0 hval0;refine(walk hk v k a b c d x0 x1 z2 n o ps W hps hpar wk b0 b1 b2).mono fun e W' ⟨he,bel⟩=>?_
 subst he;exact⟨_,rfl,_,_,_,[],_,[],hW',trodAll_mk1 (shut_bool Tryz.underlying4 _),(trodAll_cons_mk (Below.trod laidOut (by kernel_rfl) (of_decide_eq_true (by kernel_rfl)) k0 bel lt0) (trodAll_cons_mk (Below.trod laidOut (by kernel_rfl) (of_decide_eq_true (by kernel_rfl)) k1 bel lt1) (trodAll_cons_mk (Below.trod laidOut (by kernel_rfl) (of_decide_eq_true (by kernel_rfl)) k2 bel lt2) trodAll_mk0))),rfl,bel.frame _,fun h=>by cases h⟩
theorem over (hk:b8 sto.bX.P 5 (aM sto.uB)):Rows.storeBurstsRow.holds Tryz.pinned (OpenSpec.ofChange Rows.storeBurstsSpec):=
 OpenClaim.holds_of_wide 3 YW rfl rfl rfl rfl rfl rfl rfl ⟨rfl,rfl,rfl,rfl,rfl⟩ rfl rfl rfl rfl rfl (by kernel_rfl) qce (by kernel_rfl)
  (of_decide_eq_true (by kernel_rfl)) (by unfold Func.isWrapper;first|(rw [if_pos (by decide+kernel)];kernel_rfl)|(rw [if_neg (by decide+kernel)];exact⟨rfl,rfl⟩))
  (fun os started H enc _=>lifted hk os started H enc)
end Go.Proofs.YtggndfefpbmaeaaGreatDoor.storeBursts
end
