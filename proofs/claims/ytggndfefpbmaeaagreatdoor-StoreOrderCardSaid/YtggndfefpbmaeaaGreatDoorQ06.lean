/- The abstract machine, the walk of the law and its plain laws, made small by a program; part 6: no conditions but those in each theorem. -/
import Derived.Test.YtggndfefpbmaeaaGreatDoorQ05
set_option maxHeartbeats 16000000
set_option maxRecDepth 100000
set_option linter.unusedSimpArgs false
set_option linter.unusedVariables false
noncomputable section
open Nat renaming reduceEqDiff→Zf,reduceAdd→Zg,ble→Zj,le_refl→Zn,beq→Zr,blt→Zt,zero_le→Zv,eq_of_beq_eq_true→ZA,blt_eq→ZB,lt_of_lt_of_le→ZJ,le_of_ble_eq_true→ZP,lt_or_ge→ZS,zero_add→ZT,le_trans→ZV,add_zero→Z8,ble_eq_true_of_le→qaf,min_eq_left→qam,mul_one→qaw,sub_self→qaz,sub_zero→qaA,mod_eq_of_lt→qaG,beq_eq→qbd,sub_add_cancel→qbf,min_eq_right→qby,ble_eq→qct,min_le_left→qcu,zero_mul→qcM,min_le_right→qdv,beq_refl→qdA,le_total→qdB
open List renaming getElem?_eq_getElem→Zi,getElem?_cons_succ→Zk,getElem?_eq_some_iff→Zl,getElem?_cons_zero→Zm,length_append→Zo,length_map→Zp,take_succ_eq_append_getElem→Zs,length_cons→Zu,length_eq_zero_iff→Zw,mem_cons_of_mem→Zx,mem_cons_self→Zy,mem_cons→ZC,length_take→ZD,length_nil→ZG,getElem?_map→ZH,take_length→ZL,mem_of_getElem?→ZM,getElem?_append_right→ZN,getElem_mem→ZO,getElem?_append_left→ZU,length_pos_iff→ZW,mem_map→ZX,map_eq_nil_iff→ZZ,not_mem_nil→Z0,map_append→Z3,replicate→Z4,cons_append→Z5,getElem?_eq_none→Z7,mem_singleton→Z9,filter_cons→Z',flatMap_cons→qaa,getD_eq_getElem?_getD→qab,nil_append→qac,append_assoc→qah,getElem?_set→qaj,mem_append→qas,all_eq_true→qat,foldl_cons→qax,mem_filter→qaF,flatMap_append→qaH,take_of_length_le→qaJ,pairwise_iff_getElem→qaK,flatten_cons→qaO,take_zero→qaQ,foldl_append→qa8,take_succ_cons→qbr,mem_flatMap→qbx,mem_of_mem_take→qbK,filter_eq_self→qbS,filter_append→qbV,length_filter_le→qb3,length_replicate→qb4,nodup_cons→qb5,findIdx?_eq_none_iff→qcd,getElem_map→qcj,map→qcW,takeWhile_cons→qc7,map_set→qda,take_take→qdp
open Bool renaming false_eq_true→Zz,and_eq_true→ZF,and_true→qbu,and_false→qdE
open Option.some renaming injEq→ZQ,inj→Z_
open Option renaming map_some→Z1,map_none→qcw
open List.cons renaming injEq→Z2
open UInt8 renaming ofNat→qaD,toNat_inj→qbo,lt_iff_toNat_lt→qb7,toNat_ofNat'→qdo
open Go.Proofs.Tryz renaming f149→qaL,f148→qbi,f58→qbk,f188→qbF,f135→qbY,f233→qb1,f244→qb2,f234→qcg,f21→qcl,f98→qcF,f97→qc4,f141→qdf,f191→qdh,f221→qdk,f245→qdy,f142→qdI,f246→qdQ
open Classical renaming byContradiction→qcb
namespace Go.Proofs.YtggndfefpbmaeaaGreatDoor.sto
open Go.Am Go.Mdl Go.Sto
theorem HQ:af.bp 48=some (.slice 5):=zN
theorem DQ (l m:List UInt8):ek (l++m)=ek l++ek m:=by simp [ek]
theorem Wv:∃d,af.bp 223=some d∧cH d=false:=by
 have h:(af.bp 223).map cH=some false:=by kernel_rfl
 cases hq:af.bp 223 with
 |none=>rw [hq] at h;cases h
 |some d=>rw [hq] at h;exact⟨d,rfl,by simpa using h⟩
theorem Wm:aV af 223= .ok 1:=by kernel_rfl
theorem Wt:aV af 48= .ok 1:=by kernel_rfl
theorem XC:cg af 5= .ok (1,[.int .u8 0]):=by kernel_rfl
theorem Xr:∃i,af.ty.get 5=some i∧i.bytes=1:=by
 have h:((af.ty.get 5).map fun i=>i.bytes)=some 1:=by kernel_rfl
 cases hq:af.ty.get 5 with
 |none=>rw [hq] at h;cases h
 |some i=>rw [hq] at h;exact⟨i,rfl,by simpa using h⟩
theorem XI (b:Nat):ak af 225 (pw b 0) 0= .ok (pw b 0):=by kernel_rfl
theorem X3 (b:Nat):ak af 225 (pw b 0) 1= .ok (pw b 1):=by kernel_rfl
def rN (A:Mem) (e:TypeId) (b:Nat) (l:List Value) (x:Value):Prop:=
 (x= .slice none 0 0∧l=[])∨(l≠ []∧x= .slice (some ⟨b,0,none⟩) l.length (gO l.length 1)∧b<A.next∧dj A e b .row l)
variable {A:Mem} {b:Nat}
theorem rN.nO {e:TypeId} {l:List Value} {x:Value} (h:rN A e b l x):nZ A e b l x:=by
 rcases h with h|⟨_,h1,h2,h3⟩
 ·exact .inl h
 ·exact .inr ⟨.row,_,h1,h2,h3,.inr ⟨rfl,.inl rfl⟩⟩
variable {A':Mem}
theorem rN.same {e:TypeId} {l:List Value} {x:Value} (h:rN A e b l x) (hn:A.next≤A'.next) (hg:b<A.next→A'.get b=A.get b):rN A' e b l x:=by
 rcases h with h|⟨h0,h1,h2,h3⟩
 ·exact .inl h
 ·exact .inr ⟨h0,h1,ZJ h2 hn,h3.same (hg h2)⟩
variable {tb:bL} {z y:Value} {m:Nat}
theorem rN.kN {st xt e:TypeId} {xd:TypeDesc} {i:TypeInfo} {l nl:List Value} {x:Value} (h:rN A e b l x) (hst:tb.bp st=some (.slice e)) (hxt:tb.bp xt=some xd) (hxd:gH xd=false) (hz:cg tb e= .ok (1,[z])) (hi:tb.ty.get e=some i) (hib:0<i.bytes) (hib':i.bytes≤65536)
 (hl:l.length+m≤16777216) (hm0:0<m) (hy:ji y= .ok m) (hnew:fZ A.get 1 m y= .ok nl) (hm:nl.length=m) (h1c:∀v∈nl,aH v=true):
 ∃x' A',ba tb A st xt x y= .ok (x',A')∧rN A' e A.next (l++nl) x'∧A'.next=A.next+1∧∀z,z≠b→z<A.next→A'.get z=A.get z:=by
 have he1:(1:Nat)<65536:=by omega
 have hlim:(Zj (l.length+m) 16777216&&Zj i.bytes 65536&&Zt 0 i.bytes&&Zt 0 1&&Zt 1 65536)=true:=by
  have a1:Zj (l.length+m) 16777216=true:=qaf (by omega);have a2:Zj i.bytes 65536=true:=qaf hib';have a3:Zt 0 i.bytes=true:=by rw [ZB];exact hib
  rw [a1,a2,a3];rfl
 have hone:nl.all aH=true:=qat.2 h1c;have fin:∀(A0:Mem),A0.next=A.next→(∀y,y≠b→A0.get y=A.get y)→
  rN (A0.alloc (.cells e .row 0 (T.bR .e 0 (l++nl)))) e A.next (l++nl) (.slice (some ⟨A.next,0,none⟩) (l.length+m) (gO (l.length+m) 1))∧(A0.alloc (.cells e .row 0 (T.bR .e 0 (l++nl)))).next=A.next+1∧∀y,y≠b→y<A.next→(A0.alloc (.cells e .row 0 (T.bR .e 0 (l++nl)))).get y=A.get y:=by
  intro A0 hn hg;refine⟨.inr ⟨fun h0=>by rw [(List.append_eq_nil_iff.1 h0).2] at hm;simp at hm;omega,by rw [Zo,hm],by rw [ae];omega,ei ?_⟩,by rw [ae,hn],fun y hy hlt=>?_⟩
  ·rw [←hn];exact ay _ _
  ·rw [aB (by omega),hg y hy]
 rcases h with⟨rfl,rfl⟩|⟨h0,rfl,h2,h3⟩
 ·refine⟨.slice (some ⟨A.next,0,none⟩) (0+m) (gO (0+m) 1),A.alloc (.cells e .row 0 (T.bR .e 0 ([]++nl))),?_,fin A rfl (fun _ _=>rfl)⟩;unfold ba cW;have hble:Zj (0+m) (bM 0)=false:=by
   cases hq:Zj (0+m) (bM 0) with
   |false=>rfl
   |true=>have:=ZP hq;have h9:bM 0=0:=rfl;omega
  have hx:ec 0=true:=rfl;have hel:cT A.get 1 0 none= .ok []:=rfl;simp only [ZG] at hlim;simp only [hst,hxt,hxd,cond_false,hz,R.aw,hy,hnew,hble,hi,hlim,cond_true,hel,hx]
 ·obtain⟨cs,hb',hcs⟩:=h3;have hel:cT A.get 1 l.length (some ⟨b,0,none⟩)= .ok l:=kQ ⟨cs,hb',hcs⟩;have hble:Zj (l.length+m) (bM (gO l.length 1))=false:=by
   rw [cz he1];cases hq:Zj (l.length+m) l.length with
   |false=>rfl
   |true=>have:=ZP hq;omega
  have hx:ec (gO l.length 1)=false:=cS _ _;have he:Zr (js (gO l.length 1)) 1=true:=by rw [dS he1];rfl
  have hfz:(Zj 0 (0+l.length*1)&&(Zr e e&&Zt 0 9223372036854775808))=true:=by
   have h0:Zt 0 9223372036854775808=true:=by rw [ZB];omega
   rw [h0];simp
  refine⟨_,(A.set b .dead).alloc (.cells e .row 0 (T.bR .e 0 (l++nl))),?_,fin (A.set b .dead) (aO _ _ _) (fun y hy=>by rw [aC,if_neg hy])⟩;unfold ba cW;simp only [hst,hxt,hxd,cond_false,hz,R.aw,hy,hnew,hble,hi,hlim,cond_true,hel,hx,he,hone,qbu,hb',hfz]
def Bd (bb b:Nat) (bs:List UInt8) (D:Mem):Prop:=∃pa x,dj D 225 bb (.var 2) [pa,x]∧(pa= .pointer none∨pa= .pointer (some ⟨bb,0,none⟩))∧rN D 5 b (ek bs) x∧b≠bb∧bb<D.next
section
variable {ih:Code→St→R (Ex×St)} {dst:Option Tmp} {ty:TypeId} {pos:String} {after:Array Edge} {g:Option (Nat×Bool)} {s:St} {k:St→R (Ex×St)}
theorem Yi (x:Operand):dK af ih {dst,op:=.convert 223 320 x,type:=ty,pos,after,guard:=g} s k=(ev s.t x).bind fun x=>(dw af s.m.get 223 320 x).bind fun v=>bQ s dst v k:=by
 rw [nc (hc:=by kernel_rfl) (hi:=rfl)];simp only [nz,R.a7]
theorem Yj (x:Operand):dK af ih {dst,op:=.convert 320 223 x,type:=ty,pos,after,guard:=g} s k=(ev s.t x).bind fun x=>(dw af s.m.get 320 223 x).bind fun v=>bQ s dst v k:=by
 rw [nc (hc:=by kernel_rfl) (hi:=rfl)];simp only [nz,R.a7]
end
theorem X5 {ih:Code→St→R (Ex×St)} {x:Value}:bc af ih (.fn 223 [x]) A= .ok (.val x A):=by
 have h1:af.fn.get 223=some Tryz.f223:=av Tryz.func223;have h2:Tryz.f223.body=none:=by kernel_rfl
 have h3:af.ex.get 223=some 1:=by kernel_rfl
 have h4:(Tryz.f223.name== "runtime.NumGoroutine")=false:=by kernel_rfl
 unfold bc;simp only [h1,h2,h3,h4,cond_false];rfl
variable {bb:Nat}
theorem XV {D:Mem} {l:List Value} (h:dj D 225 bb (.var 2) l):dw af D.get 223 320 (pw bb 0)= .ok (pw bb 0):=by
 obtain⟨c,e,-⟩:=h;have u1:af.bp 223=some (.pointer 225):=by kernel_rfl
 have u2:af.bp 320=some .unsafePointer:=by kernel_rfl
 have u3:aV af 225= .ok 2:=by kernel_rfl
 unfold dw;simp only [u1,u2,e,u3,R.aw];rfl
theorem XW {D:Mem} {l:List Value} (h:dj D 225 bb (.var 2) l):dw af D.get 320 223 (pw bb 0)= .ok (pw bb 0):=by
 obtain⟨c,e,-⟩:=h;have u1:af.bp 223=some (.pointer 225):=by kernel_rfl
 have u2:af.bp 320=some .unsafePointer:=by kernel_rfl
 have u3:aV af 225= .ok 2:=by kernel_rfl
 have u4:liesAt af.P af.P.depth 225 (2/af.P.cellsOf 225) 0 225 1=true:=by kernel_rfl
 unfold dw;simp only [u1,u2,e,u3,R.aw,u4,cond_true]
noncomputable def Kc:Code:=qdh.body.getD .skip
theorem QE:qdh.body=some (.seq (sub Kc [0]) (sub Kc [1])):=by kernel_rfl
variable {bs:List UInt8}
theorem zb {D:Mem} (h:Bd bb b bs D):∃D',bJ af 191 [pw bb 0] D cQ D'∧Bd bb b bs D'∧D'.next=D.next∧∀y,y≠bb→D'.get y=D.get y:=by
 obtain⟨pa,x,hv,hpa,hs,hbb,hn⟩:=h;obtain⟨d28,w27,w28⟩:=Wv;have hl0:ai af D.get 223 (pw bb 0)= .ok pa:=aU w27 w28 hv rfl;obtain⟨v,D',hg,rfl,h1⟩:∃v D',bJ af 191 [pw bb 0] D v D'∧v=cQ∧(Bd bb b bs D'∧D'.next=D.next∧∀y,y≠bb→D'.get y=D.get y):=by
  refine dQ (av Tryz.func191) QE (by rw [Tryz.ntmps191];simp) (by kernel_rfl) (by kernel_rfl) ?_;apply W.seq;rcases hpa with rfl|rfl
  ·have he:wH af D.get .eql 223 (.tmp 5) (.const (.pointer none)) (.pointer none) (.pointer none)= .ok (.bool true):=by kernel_rfl
   obtain⟨D1,hst,hv1,hn1,hg1⟩:=aY (tb:=af) (t:=223) (o:=0) (v:=pw bb 0) Wm hv (by simp) rfl rfl;apply W.run 20
   ·intro M;simp (disch:=decide+kernel) only [Kc,qdh,Aq,Zf,aA,aX,XI,hl0,bk,he];rfl
   apply W.run 20
   ·intro M;simp (disch:=omega) only [Kc,qdh,Aq,Zf,aA,aX,XI,Yi,Yj,XV hv,XW hv,X5,hst];rfl
   refine⟨.inl rfl,_,[],rfl,?_,rfl,⟨_,x,hv1,.inr rfl,?_,hbb,by rw [hn1];exact hn⟩,hn1,hg1⟩
   ·simp only [qdh,fj]
   ·exact hs.same (by rw [hn1];exact Zn _) (fun _=>hg1 b hbb)
  ·have he:wH af D.get .eql 223 (.tmp 5) (.const (.pointer none)) (pw bb 0) (.pointer none)= .ok (.bool false):=by kernel_rfl
   have he2:wH af D.get .neq 223 (.tmp 17) (.tmp 18) (pw bb 0) (pw bb 0)= .ok (.bool false):=by
    have u1:af.bp 223=some (.pointer 225):=by kernel_rfl
    have hb:Zr bb bb=true:=qdA bb;have u2:aV af 225= .ok 2:=by kernel_rfl
    have u3:Am.ptrEq D.get (some ⟨bb,0,none⟩) (some ⟨bb,0,none⟩)= .ok true:=by
     unfold Am.ptrEq;simp only [hb,cond_true];rfl
    unfold wH ed;simp only [qh,cond_true,u1,u2,u3,R.aw];rfl
   apply W.run 20
   ·intro M;simp (disch:=decide+kernel) only [Kc,qdh,Aq,Zf,aA,aX,XI,hl0,bk,he];rfl
   apply W.run 20
   ·intro M;simp (disch:=decide+kernel) only [Kc,qdh,Aq,Zf,aA,aX,XI,hl0,yP,he2];rfl
   refine⟨.inl rfl,_,[],rfl,?_,rfl,⟨_,x,hv,.inr rfl,hs,hbb,hn⟩,rfl,fun _ _=>rfl⟩;simp only [qdh,fj]
 exact⟨D',hg,h1⟩
theorem Wo (a:Int):a9 af 48 1 [(0,.int .u8 a)]= .ok (aa 5 [.int .u8 a],.nO 1 2):=by kernel_rfl
structure BM (bb b:Nat) (A:Mem) (b':Nat) (A':Mem):Prop where
 n:A.next≤A'.next
 r:A.next≤b'
 g:∀y,y<A.next→y≠bb→y≠b→A'.get y=A.get y
variable {b':Nat} {B C:Mem}
theorem BM.trans {b'':Nat} (h:BM bb b A b' B) (k:BM bb b' B b'' C):BM bb b A b'' C:=⟨ZV h.n k.n,by have:=h.n;have:=k.r;omega,fun y hy h1 h2=>by rw [k.g y (by have:=h.n;omega) h1 (by have:=h.r;omega),h.g y hy h1 h2]⟩
theorem My (c:UInt8):ek [c]=[.int .u8 (c.toNat:Nat)]:=rfl
variable {x':Value}
theorem Mu {D1 D2:Mem} {pa x:Value} (hv:dj D1 225 bb (.var 2) [pa,x]) (hpa:pa= .pointer none∨pa=pw bb 0) (hb:bb<D1.next∧D1.next≤b') (h0:b≠bb)
 (hs:rN D2 5 b' (ek bs) x') (hn2:D1.next≤D2.next) (hg:∀y,y<D1.next→y≠b→D2.get y=D1.get y):∃D3,aT af D2 48 (pw bb 1) x'= .ok D3∧Bd bb b' bs D3∧BM bb b D1 b' D3:=by
 obtain⟨D3,hst,hv3,hn3,hg3⟩:=aY (tb:=af) (t:=48) (o:=1) (v:=x') Wt (hv.same (hg bb hb.1 (Ne.symm h0))) (by simp) hs.nO.cells hs.nO.one;exact⟨D3,hst,⟨pa,x',hv3,hpa,hs.same (by rw [hn3];exact Zn _) (fun _=>hg3 b' (by omega)),by omega,by omega⟩,⟨by omega,hb.2,fun y hy h1 h2=>by rw [hg3 y h1,hg y hy h2]⟩⟩
noncomputable def z9:Code:=qdk.body.getD .skip
theorem QL:qdk.body=some (.seq (sub z9 [0]) (.seq (sub z9 [1,0]) (.seq (sub z9 [1,1,0]) (.seq (sub z9 [1,1,1,0]) (sub z9 [1,1,1,1]))))):=by kernel_rfl
theorem Bv {D:Mem} {c:UInt8} (h:Bd bb b bs D) (hl:bs.length<16000000):∃D' b',bJ af 221 [pw bb 0,.int .u8 (c.toNat:Nat)] D .nilIface D'∧Bd bb b' (bs++[c]) D'∧BM bb b D b' D':=by
 obtain⟨D1,⟨g,hg⟩,⟨pa,x,hv,hpa,hs,hbb,hn⟩,hn1,hg1⟩:=zb h;have hld:ai af D1.get 48 (pw bb 1)= .ok x:=aU HQ rfl hv rfl;obtain⟨ti,ht1,ht2⟩:=Xr;have hn2:(D1.alloc (aa 5 [.int .u8 (c.toNat:Nat)])).next=D1.next+1:=ae _ _
 have hs2:rN (D1.alloc (aa 5 [.int .u8 (c.toNat:Nat)])) 5 b (ek bs) x:=hs.same (by omega) (fun hb=>aB (by omega));obtain⟨x',D3,happ,hs3,hn3,hf3⟩:=hs2.kN (tb:=af) (st:=48) (xt:=48) (m:=1) (nl:=[.int .u8 (c.toNat:Nat)]) (y:=.slice (some ⟨D1.next,0,none⟩) 1 2) HQ HQ rfl XC ht1 (by omega) (by omega) (by rw [en];omega) (by omega) rfl
  (kQ (l:=[.int .u8 (c.toNat:Nat)]) (ei (e:=5) (k:=.var 1) (ay D1 _))) rfl (fun v hv=>by
  rw [Z9.1 hv];rfl)
 have hs4:rN D3 5 (D1.alloc (aa 5 [.int .u8 (c.toNat:Nat)])).next (ek (bs++[c])) x':=by rw [DQ,My];exact hs3
 obtain⟨D4,hst,hB,hK⟩:=Mu hv hpa ⟨hn,by omega⟩ hbb hs4 (by omega) (fun y hy hb=>by rw [hf3 y hb (by omega),aB (by omega)]);obtain⟨v,D',ha,rfl,rfl⟩:∃v D',bJ af 221 [pw bb 0,.int .u8 (c.toNat:Nat)] D v D'∧v= .nilIface∧D'=D4:=by
  refine dQ (av Tryz.func221) QL (by rw [Tryz.ntmps221];simp) (by kernel_rfl) (by kernel_rfl) ?_;apply W.q
  ·intro M;simp (disch:=omega) only [z9,qdk,Aq,Zf,g_];rfl
  apply W.qG (g)
  ·intro M hM;simp (disch:=omega) only [z9,qdk,Aq,Zf,hg];rfl
  apply W.q
  ·intro M;simp (disch:=decide+kernel) only [z9,qdk,Aq,Zf,aA,aX,X3,hld,Wo,happ,hst];rfl
  apply W.q
  ·intro M;simp (disch:=omega) only [z9,qdk,Aq,Zf,g_];rfl
  apply W.run 20
  ·intro M;simp only [z9,qdk,Aq,Zf,g_];rfl
  refine⟨.inr rfl,_,[.nilIface],rfl,?_,rfl,rfl⟩;simp only [qdk,fj,im,T.aD,Zf,if_true,if_false,eH,R.aw]
 exact⟨_,_,ha,hB,⟨by rw [←hn1];exact hK.n,by rw [←hn1];exact hK.r,fun y hy hb h2=>by rw [hK.g y (by omega) hb h2,hg1 y hb]⟩⟩
noncomputable def z7:Code:=qdf.body.getD .skip
theorem Qo:qdf.body=some (.seq (sub z7 [0]) (.seq (sub z7 [1,0]) (.seq (sub z7 [1,1,0]) (.seq (sub z7 [1,1,1,0]) (sub z7 [1,1,1,1]))))):=by kernel_rfl
theorem TZ {l:List UInt8}:fZ A.get 1 l.length (strOf l)= .ok (ek l):=by
 show R.ok (qcW eC (l.take l.length))=_;rw [ZL];rfl
theorem Wi (l:List UInt8):ji (strOf l)= .ok l.length:=rfl
theorem Pb {D:Mem} {cs:List UInt8} (h:Bd bb b bs D) (h0:0<cs.length) (hl:bs.length+cs.length<16000000):∃v D' b',bJ af 141 [pw bb 0,strOf cs] D v D'∧Bd bb b' (bs++cs) D'∧BM bb b D b' D':=by
 obtain⟨D1,⟨g,hg⟩,⟨pa,x,hv,hpa,hs,hbb,hn⟩,hn1,hg1⟩:=zb h;have hld:ai af D1.get 48 (pw bb 1)= .ok x:=aU HQ rfl hv rfl;have ll:=cd (tb:=af) (t:=9) (l:=cs) u9;obtain⟨ti,ht1,ht2⟩:=Xr;obtain⟨x',D3,happ,hs3,hn3,hf3⟩:=hs.kN (tb:=af) (st:=48) (xt:=9) (xd:=.string) (m:=cs.length) (nl:=ek cs) (y:=strOf cs) HQ u9 rfl XC ht1 (by omega) (by omega) (by rw [en];omega) h0 (Wi cs) TZ (en cs) (fun v hv=>by
  unfold ek at hv;obtain⟨c,-,rfl⟩:=ZX.1 hv;rfl)
 have hs4:rN D3 5 D1.next (ek (bs++cs)) x':=by rw [DQ];exact hs3
 obtain⟨D4,hst,hB,hK⟩:=Mu hv hpa ⟨hn,Zn _⟩ hbb hs4 (by omega) (fun y hy hb=>hf3 y hb (by omega));obtain⟨v,D',ha,rfl⟩:∃v D',bJ af 141 [pw bb 0,strOf cs] D v D'∧D'=D4:=by
  refine dQ (av Tryz.func141) Qo (by rw [Tryz.ntmps141];simp) (by kernel_rfl) (by kernel_rfl) ?_;apply W.q
  ·intro M;simp (disch:=omega) only [z7,qdf,Aq,Zf,g_];rfl
  apply W.qG (g)
  ·intro M hM;simp (disch:=omega) only [z7,qdf,Aq,Zf,hg];rfl
  apply W.q
  ·intro M;simp (disch:=decide+kernel) only [z7,qdf,Aq,Zf,aA,aX,X3,hld,happ,hst];rfl
  apply W.q
  ·intro M;simp (disch:=decide+kernel) only [z7,qdf,Aq,Zf,g_,ll];rfl
  apply W.run 20
  ·intro M;simp only [z7,qdf,Aq,Zf];rfl
  refine⟨.inr rfl,_,[.int .i64 (cs.length:Nat),.nilIface],rfl,?_,rfl⟩;simp only [qdf,fj,im,T.aD,Zf,if_true,if_false,eH,R.aw]
 exact⟨_,_,_,ha,hB,⟨by rw [←hn1];exact hK.n,by rw [←hn1];exact hK.r,fun y hy hb h2=>by rw [hK.g y (by omega) hb h2,hg1 y hb]⟩⟩
noncomputable def J_:Code:=qdI.body.getD .skip
theorem Qp:qdI.body=some (.seq (sub J_ [0]) (.seq (sub J_ [1,0]) (sub J_ [1,1]))):=by kernel_rfl
section
variable {ih:Code→St→R (Ex×St)} {dst:Option Tmp} {ty:TypeId} {pos:String} {after:Array Edge} {g:Option (Nat×Bool)} {s:St} {k:St→R (Ex×St)}
theorem Y6 (x:Operand):dK af ih {dst,op:=.call {callee:=.builtin .unsafeSliceData,args:= #[x],argTypes:= #[48]},type:=ty,pos,after,guard:=g} s k=(ev s.t x).bind fun v=>(aL af .unsafeSliceData [48] [v]).bind fun v=>bQ s dst v k:=by
 have hc:cls af (.call {callee:=.builtin .unsafeSliceData,args:= #[x],argTypes:= #[48]})= .P:=by kernel_rfl
 unfold dK;simp only [iB,hc,uM,pC,R.a7,R.aw]
theorem Y7 (x y:Operand):dK af ih {dst,op:=.call {callee:=.builtin .unsafeString,args:= #[x,y],argTypes:= #[280,3]},type:=ty,pos,after,guard:=g} s k=(ev s.t x).bind fun v=>(ev s.t y).bind fun n=>(zO af s.m 280 v n).bind fun r=>bQ {s with m:=r.2} dst r.1 k:=by
 have hc:cls af (.call {callee:=.builtin .unsafeString,args:= #[x,y],argTypes:= #[280,3]})= .L:=by kernel_rfl
 unfold dK;simp only [iB,hc,GS,pC,R.a7,R.aw,gK]
end
theorem B4 (l:List UInt8):bytesOf (ek l)= .ok l:=iR l
theorem PX {D:Mem} (h:dj D 5 b .row (ek bs)) (h0:0<bs.length) (hl:bs.length<16000000):∃D',zO af D 280 (pw b 0) (.int .i64 (bs.length:Nat))= .ok (strOf bs,D')∧D'.next=D.next∧∀y,y≠b→D'.get y=D.get y:=by
 obtain⟨c,h1,h2⟩:=h;have u1:af.bp 280=some (.pointer 5):=by kernel_rfl
 have u2:aV af 5= .ok 1:=by kernel_rfl
 have hn:mo (.int .i64 (bs.length:Nat))= .ok bs.length:=rfl;have hg:c.iX bs.length 0=some (ek bs):=fR c bs.length 0 (ek bs) (en bs) (fun j hj=>by rw [ZT];exact h2 j (by rw [en];exact hj));have hb:(Zr 5 5&&Zr 1 1&&Zt 0 bs.length&&Zj bs.length 16777216&&(Zt 0 9223372036854775808&&Zt (0+bs.length) 9223372036854775808))=true:=by
  have a1:Zt 0 bs.length=true:=by rw [ZB];exact h0
  have a2:Zj bs.length 16777216=true:=qaf (by omega);have a3:Zt (0+bs.length) 9223372036854775808=true:=by rw [ZB];omega
  rw [a1,a2,a3];rfl
 refine⟨D.set b (.cells 5 .row (bif Zj 0 (0+bs.length) then 0+bs.length else 0) c),?_,aO _ _ _,fun y hy=>by rw [aC,if_neg hy]⟩;unfold zO;simp only [hn,R.aw,u1,h1,u5,u2,hb,cond_true,hg,B4]
theorem E9 {D:Mem} (h:Bd bb b bs D) (h0:0<bs.length) (hl:bs.length<16000000):∃D',bJ af 142 [pw bb 0] D (strOf bs) D'∧D'.next=D.next∧∀y,y≠b→D'.get y=D.get y:=by
 obtain⟨pa,x,hv,hpa,hs,hbb,hn⟩:=h;have hld:ai af D.get 48 (pw bb 1)= .ok x:=aU HQ rfl hv rfl;rcases hs with⟨rfl,hnil⟩|⟨hne,rfl,hlt,hV⟩
 ·have:bs.length=0:=by rw [←en,hnil];rfl
  omega
 obtain⟨D1,hu,hn1,hg1⟩:=PX hV h0 hl;rw [en] at hld hv;have hsd:aL af .unsafeSliceData [48] [.slice (some ⟨b,0,none⟩) bs.length (gO bs.length 1)]= .ok (pw b 0):=by
  have hc:Zt 0 (bM (gO bs.length 1))=true:=by rw [cz (by omega),ZB];exact h0
  unfold aL;simp only [hc,cond_true]
 have hln:aL af .len [48] [.slice (some ⟨b,0,none⟩) bs.length (gO bs.length 1)]= .ok (.int .i64 (bs.length:Nat)):=ez HQ;obtain⟨v,D',ha,rfl,rfl⟩:∃v D',bJ af 142 [pw bb 0] D v D'∧v=strOf bs∧D'=D1:=by
  refine dQ (av Tryz.func142) Qp (by rw [Tryz.ntmps142];simp) (by kernel_rfl) (by kernel_rfl) ?_;apply W.q
  ·intro M;simp (disch:=omega) only [J_,qdI,Aq,Zf];rfl
  apply W.q
  ·intro M;simp (disch:=decide+kernel) only [J_,qdI,Aq,Zf,aA,aX,X3,hld,Y6,Y7,hsd,hln,hu];rfl
  apply W.run 20
  ·intro M;simp only [J_,qdI,Aq,Zf];rfl
  refine⟨.inr rfl,_,[strOf bs],rfl,?_,rfl,rfl⟩;simp only [qdI,fj,im,T.aD,Zf,if_true,if_false,eH,R.aw]
 exact⟨_,ha,hn1,hg1⟩
theorem SB:bO af 172= .ok (.agg ⟨[.int .u8 (0:Nat),.int .u64 (0:Nat),.int .i64 (0:Nat)]⟩):=by kernel_rfl
theorem yW (t:T Value) (g:Nat→Option Ob) (a b:TypeId) (x:Operand):nz af t g (.convert a b x)=(ev t x).bind fun x=>dw af g a b x:=rfl
theorem oS (g:Nat→Option Ob) (j:Nat) (t:T Value) (a b:TypeId) (x:Tmp) (v:Value):ef af g ⟨j,t,.convert a b (.tmp x),v⟩=C4 ((ev t (.tmp x)).bind fun x=>dw af g a b x) v:=rfl
theorem DO {c:Int}:a9 af 48 1 [(0,.int .u8 c)]= .ok (aa 5 [.int .u8 c],.nO 1 2):=by kernel_rfl
variable {dst:Option Tmp}
theorem UU {ih:Code→St→R (Ex×St)} {ty:TypeId} {pos:String} {after:Array Edge} {g:Option (Nat×Bool)} {s:St} {k:St→R (Ex×St)} (x:Operand):dK af ih {dst,op:=.convert 48 9 x,type:=ty,pos,after,guard:=g} s k=(ev s.t x).bind fun x=>(dw af s.m.get 48 9 x).bind fun v=>bQ s dst v k:=by
 rw [nc (hc:=by kernel_rfl) (hi:=rfl)];simp only [nz,R.a7]
theorem JH {D:Mem} {c:UInt8}:dw af (D.alloc (aa 5 [.int .u8 (c.toNat:Nat)])).get 48 9 (.slice (some ⟨D.next,0,none⟩) 1 2)= .ok (strOf [c]):=by
 have h:=Dc (Db (D:=D) c.toNat_lt);rw [UInt8.ofNat_toNat] at h;exact h
theorem WD (t:T Value):ev t (.const (.string ⟨#[67,83,1]⟩))= .ok (strOf [67,83,1]):=rfl
theorem cat {a b:List UInt8} (h:(a++b).length<1000000):db .add a b= .ok (strOf (a++b)):=tw (by rw [Zo] at h;omega)
variable {M:List a6} {i:Nat}
theorem BB {s:a6} (h:M[i]?=some s):iG 0 (M.take (i+1))=iG 0 (M.take i)++HK i s:=by
 obtain⟨hi,rfl⟩:=Zl.1 h;rw [Zs hi,BA,ZD,ZT,qam (by omega)]
theorem FA:∀(M:List a6) (j i:Nat),(iG j (M.take i)).length≤(iG j M).length
 | [],j,i=>by rw [List.take_nil];exact Zn _
 |s::M,j,0=>by simp [iG]
 |s::M,j,i+1=>by
  rw [qbr,iG,iG,Zo,Zo];have:=FA M (j+1) i;omega
theorem Ej {i:Nat}:∀(l:List cL) (j:Nat),((l.take j).flatMap (ij i)).length≤(l.flatMap (ij i)).length
 | [],j=>by rw [List.take_nil];exact Zn _
 |a::l,0=>by simp
 |a::l,j+1=>by
  rw [qbr,qaa,qaa,Zo,Zo];have:=Ej (i:=i) l j;omega
variable {j:Nat}
theorem Ku {l:List cL} {a:cL} (h:l[j]?=some a):(l.take (j+1)).flatMap (ij i)=(l.take j).flatMap (ij i)++ij i a:=by
 obtain⟨hj,rfl⟩:=Zl.1 h;rw [Zs hj,qaH];simp
noncomputable def zY:Code:=qbk.body.getD .skip
noncomputable def ie:Code:=sub zY [1,1,1,0,1,0,0]
noncomputable def Ie:Code:=sub ie [1,0,0,1,1,1,0,0]
theorem T7:qbk.body=some (.seq (sub zY [0]) (.seq (sub zY [1,0]) (.seq (sub zY [1,1,0]) (.seq (.seq (sub zY [1,1,1,0,0]) (.block 0 (.loop ie))) (.seq (sub zY [1,1,1,1,0]) (sub zY [1,1,1,1,1])))))):=by kernel_rfl
theorem DT:ie=(.seq (sub ie [0]) (.seq (.block 1 (.seq (sub ie [1,0,0,0]) (.seq (sub ie [1,0,0,1,0]) (.seq (sub ie [1,0,0,1,1,0]) (.block 2 (.loop Ie)))))) (sub ie [1,1]))):=by kernel_rfl
variable {w:List UInt8} {t:T Value}
theorem UZ {D:Mem} {x:Value} {s:a6} {q:Nat} {fp:Value} (hx:ki D s.arcs x) (hs:VB D 164 q (.var 3) (cZ x s)) (hj:j<s.arcs.length) (hl:s.arcs.length≤256) (hi:i<1000000) (ha:∀a∈s.arcs,a.to<i∧a.out<18446744073709551616) (hw:(w++s.arcs.flatMap (ij i)).length<900000)
 (hsl:Sl t [(3,fp),(6,strOf (w++(s.arcs.take j).flatMap (ij i))),(7,.int .i64 i),(8,pw q 0),(9,.int .i64 j)]):
 W af Ie ⟨t,95,[],D,none⟩ fun e s'=>e= .nrm∧∃t' D',s'=⟨t',95,[],D',none⟩∧Kp D D'∧Sl t' [(3,fp),(6,strOf (w++(s.arcs.take (j+1)).flatMap (ij i))),(7,.int .i64 i),(8,pw q 0),(9,.int .i64 (j+1:Nat))]:=by
 obtain⟨g3,g6,g7,g8,g9,-⟩:=hsl;have he:s.arcs[j]?=some s.arcs[j]:=Zi hj;obtain⟨ht,ho⟩:=ha _ (ZO hj);obtain⟨p,j1,j2⟩:=hx.at he;have l0:ai af D.get 162 (pw q 0)= .ok x:=hs.ld rfl kA rfl;have lx:=hx.len;have hf:=Ej (i:=i) s.arcs (j+1);rw [Ku he] at hf⊢;rw [Zo] at hf hw;generalize s.arcs[j]=a at*;generalize (s.arcs.take j).flatMap (ij i)=z at*;have b1:=eU a.out ho;have b2:=eU (i-a.to) (by omega);have eb:(ij i a).length=1+(bI a.out).length+(bI (i-a.to)).length:=by unfold ij;rw [Zu,Zo];omega
 have sE:aT af (D.alloc (aa 172 [.int .u8 (0:Nat),.int .u64 (0:Nat),.int .i64 (0:Nat)])) 172 (pw D.next 0) (.agg ⟨b9 a⟩)= .ok (D.alloc (aa 172 (b9 a))):=a_ L2 rfl rfl (by simp) (H8 a);have kE:=Kp.alloc D (aa 172 (b9 a));have vE:=az D 172 (b9 a);generalize D.alloc (aa 172 (b9 a))=E at sE kE vE;have a0:∀F,Kp E F→ai af F.get 5 (pw D.next 0)= .ok (.int .u8 (a.byte.toNat:Nat)):=fun F h=>(vE.kp h).ld rfl u5 rfl
 have a1:∀F,Kp E F→ai af F.get 103 (pw D.next (0+1))= .ok (.int .u64 a.out):=fun F h=>(vE.kp h).ld rfl eK rfl
 have a2:∀F,Kp E F→ai af F.get 3 (pw D.next (0+2))= .ok (.int .i64 a.to):=fun F h=>(vE.kp h).ld rfl u3 rfl
 have kF:=Kp.alloc E (aa 5 [.int .u8 (a.byte.toNat:Nat)]);have c1:=JH (D:=E) (c:=a.byte);have gE:=ay E (aa 5 [.int .u8 (a.byte.toNat:Nat)]);generalize hF:E.alloc (aa 5 [.int .u8 (a.byte.toNat:Nat)])=F at kF c1 gE;have hd:∀A:Mem,eO (qcW (fun x:Nat×Nat=>x.2) [(3,E.next)]) A=A.set E.next .dead:=fun _=>rfl
 have put:∀G:Mem,G.get=F.get→G.next=F.next→∃G',fT F.get (qcW (fun x:Nat×Nat=>x.2) [(3,E.next)]) (G.set E.next .dead)= .ok G'∧G'.get=F.get∧G'.next=F.next:=fun G hG hn=>by
  refine⟨(G.set E.next .dead).set E.next (aa 5 [.int .u8 (a.byte.toNat:Nat)]),?_,funext fun z=>?_,?_⟩
  ·show(match F.get E.next with|some o=>fT F.get [] ((G.set E.next .dead).set E.next o)|none=>.no 313)=_;rw [gE];rfl
  ·rw [aC];split
   ·rename_i h;rw [h,gE]
   ·rename_i h;rw [aC,if_neg h,hG]
  ·rw [aO,aO,hn]
 obtain⟨F2,bk1,e2,n2⟩:=put F rfl rfl;obtain⟨F3,bk2,e3,n3⟩:=put F2 e2 n2;have x0:=a0 E (Kp.refl _);have x3:=a0 F kF;have x1:=a1 F kF;have x2:=a2 F kF;have y1:=a1 E (Kp.refl _);have y2:=a2 E (Kp.refl _);have k1:=fun ih (A:Mem)=>EA (ih:=ih) (A:=A) ho
 have k2:=fun ih (A:Mem)=>EA (ih:=ih) (A:=A) (show i-a.to<18446744073709551616 by omega)
 have su:aK .sub .i64 ((i:Nat):Int) ((a.to:Nat):Int)= .ok (.int .i64 (i-a.to:Nat)):=bm (by omega) (aR (by omega));have cv:=bx (tb:=af) (s:=3) (d:=103) (k:=.i64) (n:=i-a.to) (by rw [u3];rfl) eK (cJ (by omega));have s1:db .add (w++z) [a.byte]= .ok (strOf (w++z++[a.byte])):=cat (by simp;omega);have s2:db .add (w++z++[a.byte]) (bI a.out)= .ok (strOf (w++z++[a.byte]++bI a.out)):=cat (by simp;omega);have s3:db .add (w++z++[a.byte]++bI a.out) (bI (i-a.to))= .ok (strOf (w++(z++ij i a))):=by
  rw [cat (by simp;omega)];simp [ij]
 have z1:∀n:Int,∀k,bP 100 (.int k n) (.int k n)=true:=fun n k=>by
  have h1:mb n n=true:=by rw [sO];simp
  have h2:dU k k=true:=by cases k<;>rfl
  simp [bP,h1,h2]
 apply W.run 20
 ·intro M;simp (config:={maxSteps:=4000000}) (disch:=first|decide+kernel|omega|simp only [Wq,Zf]) only [Ie,ie,zY,qbk,Aq,Zj,reduceIte,Zf,Zg,g3,g6,g7,g8,g9,df,l0,lx,hj,j1,j2,SB,aj,sE,kR,qK,jQ,x0,x1,x2,y1,y2,DO,hF,UU,yW,oS,hd,bk1,bk2,e2,e3,z1,x3,c1,k1,k2,su,cv,s1,s2,s3,Fq,au [(2,8),(3,8),(4,8),(12,8),(2,15),(3,15),(4,15)]];rfl
 refine⟨rfl,_,F3,rfl,⟨by rw [n3];exact(kE.trans kF).1,fun z hz=>by rw [e3];exact(kE.trans kF).2 z hz⟩,?_⟩;simp only [Sq,Zf,Zg,g3,g7,g8]
variable {n k:Nat}
theorem Sa (h:dY A M y) (hM:M≠ []) (hn:n≤100000) (hl:M.length<1000000) (hL:Lay M) (hk:k<18446744073709551616) (hb:(ja n M k).length<900000):
 ∃v A',bJ af 58 [.int .i64 n,.agg ⟨[y,.int .u64 k]⟩] A v A'∧Kp A A'∧v= .tuple ⟨[strOf (crc.aN (ja n M k)),.int .i64 (0:Nat)]⟩:=by
 refine cM (av Tryz.func58) T7 (by rw [Tryz.ntmps58];simp) (by kernel_rfl) (by kernel_rfl) ?_;have kB:=Kp.alloc A (aa 105 [y,.int .u64 k]);have vB:=az A 105 [y,.int .u64 k];have hy:=h.self;apply W.q
 ·intro M;simp (disch:=omega) only [zY,qbk,Aq,Zf,aj];rfl
 have hB:=h.kp kB;generalize A.alloc (aa 105 [y,.int .u64 k])=B at kB vB hB;obtain⟨d,hd1,hd2⟩:=bg (t:=105) (p:=true) (by kernel_rfl);have lB:ai af B.get 105 (.pointer (some ⟨A.next,0,none⟩))= .ok (.agg ⟨[y,.int .u64 k]⟩):=aI hd1 hd2 dz vB.2;obtain⟨v,C,⟨g1,h1⟩,rfl,kC⟩:=O3 (n:=n) (k:=k) hB hM hn hl hL;have hC:=hB.kp kC;have ly:∀D,Kp C D→ai af D.get 102 (.pointer (some ⟨A.next,0,none⟩))= .ok y:=fun D hD=>((vB.kp kC).kp hD).ld rfl fP rfl
 have lk:∀D,Kp C D→ai af D.get 103 (.pointer (some ⟨A.next,0+1,none⟩))= .ok (.int .u64 k):=fun D hD=>((vB.kp kC).kp hD).ld rfl eK rfl
 have lC:=ly C (Kp.refl _);have lenC:=hC.len;have b1:=eU n (by omega);have b2:=eU M.length (by omega);have b3:=eU k hk;have hbl:3+(bI n).length+(bI M.length).length+(iG 0 M).length+(bI k).length<900000:=by
  unfold ja at hb;simp only [Zo,Zu,ZG] at hb;omega
 have k1:=fun ih=>EA (ih:=ih) (A:=C) (show n<18446744073709551616 by omega)
 have k2:=fun ih=>EA (ih:=ih) (A:=C) (show M.length<18446744073709551616 by omega)
 have cv1:=bx (tb:=af) (s:=3) (d:=103) (k:=.i64) (n:=n) (by rw [u3];rfl) eK (cJ (by omega));have cv2:=bx (tb:=af) (s:=3) (d:=103) (k:=.i64) (n:=M.length) (by rw [u3];rfl) eK (cJ (by omega));have s1:db .add [67,83,1] (bI n)= .ok (strOf ([67,83,1]++bI n)):=cat (by simp;omega);have s2:db .add ([67,83,1]++bI n) (bI M.length)= .ok (strOf ([67,83,1]++bI n++bI M.length)):=cat (by simp;omega);generalize hH: [67,83,1]++bI n++bI M.length=H at s2;simp only [Z5,qac] at s1 s2;have sy:bP 100 y y=true:=by
  obtain⟨b,rows,e,-⟩:=hC;rcases e with⟨rfl,-⟩|⟨_,_,rfl,-⟩
  ·rfl
  ·exact my _ _ _ _
 apply W.qG (g1)
 ·intro M hM;simp (disch:=omega) only [zY,qbk,Aq,Zf,lB,h1];rfl
 apply W.q
 ·intro M;simp (config:={maxSteps:=4000000}) (disch:=first|decide+kernel|omega|simp only [Wq,Zf]) only [zY,qbk,Aq,Zj,reduceIte,Zf,Zg,WD,k1,k2,cv1,cv2,dm,lC,sy,lenC,s1,s2,Fq,au [(5,2)]];rfl
 have hHl:H.length=3+(bI n).length+(bI M.length).length:=by rw [←hH];simp;omega
 apply W.seq;apply W.q
 ·intro M;simp (disch:=omega) only [zY,qbk,Aq,Zf];rfl
 apply W.block;refine W.up M.length (fun i t D=>Kp C D∧Sl t [(3,.pointer (some ⟨A.next,0,none⟩)),(6,strOf (H++iG 0 (M.take i))),(7,.int .i64 i)]) ?_ (Zv _) ⟨Kp.refl _,?_⟩
 ·rintro i t D hi ⟨kD,g3,g6,g7,-⟩;have lD:=ly D kD;have hD:=hC.kp kD;have lenD:=hD.len;have hpre:=FA M 0 (i+1);by_cases hlt:i<M.length
  ·have hMi:M[i]?=some M[i]:=Zi hlt;obtain⟨l1,l2,l3,l4⟩:=hL i _ hMi;obtain⟨x,p,j1,j2,hx,-⟩:=hD.at hMi;rw [BB hMi] at hpre;have htk:=BB hMi;generalize M[i]=s at*;generalize hW:H++iG 0 (M.take i)=w at*;have hwl:w.length+(HK i s).length≤3+(bI n).length+(bI M.length).length+(iG 0 M).length:=by
    rw [←hW,Zo];rw [Zo] at hpre;omega
   have hstl:(HK i s).length=(nu s).length+(s.arcs.flatMap (ij i)).length:=by unfold HK;rw [Zo]
   have sE:=Fv hx;have kE:=Kp.alloc D (aa 164 (cZ x s));have vE:=az D 164 (cZ x s);generalize D.alloc (aa 164 (cZ x s))=E at sE kE vE;have a0:ai af E.get 162 (.pointer (some ⟨D.next,0,none⟩))= .ok x:=vE.ld rfl kA rfl;have a1:ai af E.get 4 (.pointer (some ⟨D.next,0+1,none⟩))= .ok (.bool s.fin):=vE.ld rfl u4 rfl;have a2:ai af E.get 103 (.pointer (some ⟨D.next,0+2,none⟩))= .ok (.int .u64 s.out):=vE.ld rfl eK rfl;have hxE:=hx.kp kE;have lx:=hxE.len;have m1:aK .mul .i64 ((2:Nat):Int) ((s.arcs.length:Nat):Int)= .ok (.int .i64 (2*s.arcs.length:Nat)):=iE (aR (by omega));have m2:aK .add .i64 ((2*s.arcs.length:Nat):Int) ((1:Nat):Int)= .ok (.int .i64 (2*s.arcs.length+1:Nat)):=a8 (aR (by omega));have e1:=fun ih=>EA (ih:=ih) (A:=E) (show 2*s.arcs.length<18446744073709551616 by omega)
   have e2:=fun ih=>EA (ih:=ih) (A:=E) (show 2*s.arcs.length+1<18446744073709551616 by omega)
   have e3:=fun ih=>EA (ih:=ih) (A:=E) l3
   have c1:=bx (tb:=af) (s:=3) (d:=103) (k:=.i64) (n:=2*s.arcs.length) (by rw [u3];rfl) eK (cJ (by omega));have c2:=bx (tb:=af) (s:=3) (d:=103) (k:=.i64) (n:=2*s.arcs.length+1) (by rw [u3];rfl) eK (cJ (by omega));rw [DT];apply W.q
   ·intro M;simp (disch:=decide+kernel) only [ie,zY,qbk,Aq,Zf,g3,g7,dm,lD,lenD,hlt];rfl
   apply W.seq;apply W.block;apply W.q
   ·intro M;simp (disch:=omega) only [ie,zY,qbk,Aq,Zf,g3,g7,dm,lD,j1,j2,jA,aj,sE];rfl
   apply W.seq;refine W.to (n:=95) (fun t D'=>D'=E∧Sl t [(3,.pointer (some ⟨A.next,0,none⟩)),(6,strOf (w++nu s)),(7,.int .i64 i),(8,.pointer (some ⟨D.next,0,none⟩))]) ?_ ?_
   ·cases hf:s.fin with
    |true=>
     rw [hf] at a1;have hh:nu s=bI (2*s.arcs.length+1)++bI s.out:=by unfold nu;rw [hf];rfl
     rw [hh] at hstl⊢;rw [Zo] at hstl;have t1:db .add w (bI (2*s.arcs.length+1))= .ok (strOf (w++bI (2*s.arcs.length+1))):=cat (by simp;omega);have t2:db .add (w++bI (2*s.arcs.length+1)) (bI s.out)= .ok (strOf (w++(bI (2*s.arcs.length+1)++bI s.out))):=by rw [cat (by simp;omega),qah]
     have so:=dP .u64 s.out rfl;apply W.run 20
     ·intro M;simp (config:={maxSteps:=4000000}) (disch:=first|decide+kernel|omega|simp only [Wq,Zf]) only [ie,zY,qbk,Aq,Zj,reduceIte,Zf,Zg,so,g6,df,cR,iu,a0,a1,a2,lx,m1,m2,c2,e2,e3,t1,t2,Fq,au [(10,7)]];rfl
     refine⟨rfl,_,_,rfl,rfl,?_⟩;simp only [Sq,Zf,Zg,g3,g7]
    |false=>
     rw [hf] at a1;have hh:nu s=bI (2*s.arcs.length):=by unfold nu;rw [hf];rfl
     rw [hh] at hstl⊢;have t1:db .add w (bI (2*s.arcs.length))= .ok (strOf (w++bI (2*s.arcs.length))):=cat (by simp;omega);apply W.run 20
     ·intro M;simp (config:={maxSteps:=4000000}) (disch:=first|decide+kernel|omega|simp only [Wq,Zf]) only [ie,zY,qbk,Aq,Zj,reduceIte,Zf,Zg,g6,df,cR,a0,a1,lx,m1,c1,e1,t1,Fq,au []];rfl
     refine⟨rfl,_,_,rfl,rfl,?_⟩;simp only [Sq,Zf,Zg,g3,g7]
   ·rintro t D' ⟨rfl,g3,g6,g7,g8,-⟩;apply W.seq;apply W.run 20
    ·intro M;simp (disch:=omega) only [ie,zY,qbk,Aq,Zf];rfl
    apply W.block;refine W.up s.arcs.length (fun j t D2=>Kp D' D2∧Sl t [(3,.pointer (some ⟨A.next,0,none⟩)),(6,strOf (w++nu s++(s.arcs.take j).flatMap (ij i))),(7,.int .i64 i),(8,.pointer (some ⟨D.next,0,none⟩)),(9,.int .i64 j)]) ?_ (Zv _) ⟨Kp.refl _,?_⟩
    ·rintro j t D' hj ⟨kF,hs0⟩;by_cases hlt2:j<s.arcs.length
     ·refine(UZ (hxE.kp kF) (vE.kp kF) hlt2 l1 (by omega) l4 (by simp only [Zo];omega) hs0).mono ?_;rintro e s' ⟨rfl,t',D2,rfl,kG,hs'⟩;exact⟨hlt2,t',D2,rfl,kF.trans kG,hs'⟩
     ·have e:j=s.arcs.length:=by omega
      subst e;obtain⟨g3,g6,g7,g8,g9,-⟩:=hs0;have a0:ai af D'.get 162 (.pointer (some ⟨D.next,0,none⟩))= .ok x:=(vE.kp kF).ld rfl kA rfl;have lx:=(hxE.kp kF).len;rw [ZL,qah] at g6;apply W.run 20
      ·intro M;simp (disch:=decide+kernel) only [Ie,ie,zY,qbk,Aq,Zf,g8,g9,df,a0,lx];rfl
      show W af (sub ie [1,1]) _ _;apply W.run 20
      ·intro M;simp (disch:=first|decide+kernel|omega) only [ie,zY,qbk,Aq,Zf,g7];rfl
      refine⟨hlt,_,_,rfl,kD.trans (kE.trans kF),?_⟩;simp only [Sq,Zf,Zg,g3,g6];rw [htk,←qah H,hW];rfl
    ·simp only [Sq,Zf,Zg,g3,g6,g7,g8];simp
  ·have e:i=M.length:=by omega
   subst e;rw [ZL] at g6;have lk1:=lk D kD;have k3:=fun ih=>EA (ih:=ih) (A:=D) hk
   have hp:H++iG 0 M++bI k=ja n M k:=by rw [←hH];simp [ja]
   have t1:db .add (H++iG 0 M) (bI k)= .ok (strOf (ja n M k)):=by rw [cat (by simp;omega),hp]
   have ks:=fun ih=>Tp (ih:=ih) (A:=D) hb
   rw [DT];apply W.seq;apply W.run 20
   ·intro M;simp (disch:=decide+kernel) only [ie,zY,qbk,Aq,Zf,g3,g7,dm,lD,lenD];rfl
   apply W.seq;apply W.run 20
   ·intro M;simp (disch:=decide+kernel) only [zY,qbk,Aq,Zf,g3,g6,Cu,lk1,k3,t1,ks];rfl
   apply W.run 20
   ·intro M;simp only [zY,qbk,Aq,Zf];rfl
   exact⟨by simp,rfl,_,(by simp only [qbk,Aq,Zf]<;>rfl),kB.trans (kC.trans kD),rfl⟩
 ·simp only [Sq,Zf,Zg];simp [iG]
def cX (l:List aG):List UInt8:=ja l.length (dC l) (least l)
variable {l:List aG}
theorem Lw {x:Value} (h:dX A l x) (h0:l≠ []) (ha:rL l) (hw:∀e∈l,1≤e.word.length∧e.word.length≤255∧e.weight<4294967296) (hl:l.length≤100000) (hn:(dC l).length<1000000) (hM:dC l≠ []) (hL:Lay (dC l)) (hk:least l<18446744073709551616) (hb:(cX l).length<900000):
 ∃v A',bJ af 22 [x] A v A'∧Kp A A'∧v= .tuple ⟨[strOf (crc.aN (cX l)),.int .i64 (0:Nat)]⟩:=by
 have hlen:=h.len;have hl0:¬l.length=0:=fun e=>h0 (Zw.1 e)
 have hl1:¬100000<l.length:=by omega
 obtain⟨v,B,⟨g1,h1⟩,kB,y,rfl,hS⟩:=run_build h h0 ha hw (by omega) hn;have hy:=hS.self;have cm:=(h.kp kB).len;have sC:aT af (B.alloc (aa 105 [.slice none 0 0,.int .u64 (0:Nat)])) 105 (pw B.next 0) (.agg ⟨[y,.int .u64 (least l:Nat)]⟩)= .ok (B.alloc (aa 105 [y,.int .u64 (least l:Nat)])):=a_ dz rfl rfl (by simp) (by
  intro v hv;simp only [ZC,Z0,or_false] at hv;rcases hv with rfl|rfl
  ·exact hy.2
  ·rfl)
 have kC:=Kp.alloc B (aa 105 [y,.int .u64 (least l:Nat)]);have vC:=az B 105 [y,.int .u64 (least l:Nat)];generalize B.alloc (aa 105 [y,.int .u64 (least l:Nat)])=C at sC kC vC;obtain⟨d,hd1,hd2⟩:=bg (t:=105) (p:=true) (by kernel_rfl);have lC:ai af C.get 105 (pw B.next 0)= .ok (.agg ⟨[y,.int .u64 (least l:Nat)]⟩):=aI hd1 hd2 dz vC.2;have lenC:=((h.kp kB).kp kC).len;obtain⟨v,D,⟨g2,h2⟩,kD,rfl⟩:=Sa (n:=l.length) (hS.kp kC) hM hl hn hL hk hb;refine⟨_,D,?_,kB.trans (kC.trans kD),rfl⟩;refine aP (av Tryz.func22) (c:=Tryz.f22.body.getD .skip) (by kernel_rfl) (by rw [Tryz.ntmps22];simp) (by kernel_rfl) (by kernel_rfl) ?_;apply W.bf (g1+g2) 60
 ·intro M hM;simp (config:={maxSteps:=4000000}) (disch:=first|decide+kernel|omega|simp only [Wq,Zf]) only [Tryz.f22,Aq,Zj,reduceIte,Zf,Zg,hlen,hl0,hl1,bT,bA,h1,tI,aj,sC,lC,lenC,h2,Zm,Zk];rfl
 exact⟨by simp,rfl,rfl,by simp only [Tryz.f22,Aq,Zj,reduceIte,Zf,Zg,hlen,hl0,hl1,bT,bA,h1,tI,aj,sC,lC,lenC,h2,Zm,Zk]<;>rfl⟩
theorem VM:bO af 67= .ok (.agg ⟨[.string .empty,.int .u32 0,.bool false]⟩):=by kernel_rfl
def Ma (A:Mem) (b:Nat) (l:List aG) (x:Value):Prop:=aq A 67 3 b (l.map bH) x
theorem Ma.kp {x:Value} (h:Ma A b l x) (k:Kp A A'):Ma A' b l x:=aq.same h k.1 (k.2 b)
def tJ (A:Mem) (ls:List UInt8) (x:Value):Prop:=
 (x= .slice none 0 0∧ls=[])∨(x=D7∧ls=[])∨∃q off cp,x= .slice (some ⟨q,off,none⟩) ls.length cp∧(ls=[]∨(q<A.next∧∃t kd fz c,A.get q=some (.cells t kd fz c)∧∀(i:Nat) (b:UInt8),ls[i]?=some b→c.get (off+i)=some (.int .u8 (b.toNat:Nat))))
theorem Vf:aV af 5= .ok 1:=by kernel_rfl
theorem tJ.kp {ls:List UInt8} {x:Value} (h:tJ A ls x) (k:Kp A A'):tJ A' ls x:=by
 rcases h with h|h|⟨q,off,cp,h1,h2⟩
 ·exact .inl h
 ·exact .inr (.inl h)
 ·refine .inr (.inr ⟨q,off,cp,h1,?_⟩);rcases h2 with h2|⟨h2,t,kd,fz,c,h3,h4⟩
  ·exact .inl h2
  ·exact .inr ⟨ZJ h2 k.1,t,kd,fz,c,by rw [k.2 _ h2];exact h3,h4⟩
theorem tJ.len {ls:List UInt8} {x:Value} (h:tJ A ls x):aL af .len [48] [x]= .ok (.int .i64 (ls.length:Nat)):=by
 rcases h with⟨rfl,rfl⟩|⟨rfl,rfl⟩|⟨q,off,cp,rfl,-⟩
 ·exact ez HQ
 ·kernel_rfl
 ·exact ez HQ
theorem tJ.at {ls:List UInt8} {x:Value} (h:tJ A ls x) {b:UInt8} (hi:ls[i]?=some b):
 ∃p,aW af 48 x (.int .i64 i)= .ok (.pointer (some p))∧ai af A.get 5 (.pointer (some p))= .ok (.int .u8 (b.toNat:Nat)):=by
 rcases h with⟨-,rfl⟩|⟨-,rfl⟩|⟨q,off,cp,rfl,h2⟩
 ·simp at hi
 ·simp at hi
 ·rcases h2 with rfl|⟨h2,t,kd,fz,c,h3,h4⟩
  ·simp at hi
  ·have hlt:=(Zl.1 hi).1;have hb:Zt i ls.length=true:=by rw [ZB];exact hlt
   have hn:mo (.int .i64 i)= .ok i:=rfl;refine⟨⟨q,off+i*1,none⟩,?_,?_⟩
   ·unfold aW;simp only [hn,HQ,hb,cond_true,Vf,R.aw,jd]
   ·unfold ai;have hg:=h4 i b hi;have hag:cH (.int .u8)=false:=rfl;simp only [h3,u5,hag,cond_false,qaw,hg]
def oP (c:UInt8):UInt8:=if c.toNat % 8<7 then qaD (97+c.toNat % 8 % 3) else c
def pg (ls:List UInt8):List UInt8:=if(ls.take 9).map oP=[] then [97] else(ls.take 9).map oP
theorem N9 (c:UInt8):(oP c).toNat=if c.toNat % 8<7 then 97+c.toNat % 8 % 3 else c.toNat:=by
 unfold oP;split
 ·rw [qdo];omega
 ·rfl
theorem Rw {q:Nat} {b:UInt8} (h:A.get q=some (aa 5 [.int .u8 (b.toNat:Nat)])):dw af A.get 48 9 (.slice (some ⟨q,0,none⟩) 1 2)= .ok (strOf [b]):=by
 have hb:XF A q 5 (.var 1) [b]:=⟨_,h,fun i hi=>by
  have hi0:i=0:=by simp at hi;exact hi
  subst hi0;rfl⟩
 exact zE (l:=[b]) HQ u9 u5 hb
theorem K6 {a:Nat} (h:a+b<256):aK .add .u8 (a:Int) (b:Int)= .ok (.int .u8 (a+b:Nat)):=by
 show R.ok (Value.int .u8 (dp .u8 ((a+b:Nat):Int)))=_;rw [mF,qaG h]
variable {o:Nat}
theorem Cw:ak af 235 (pw b o) 0= .ok (pw b o):=by kernel_rfl
theorem Ur:ak af 235 (pw b o) 1= .ok (pw b (o+1)):=by kernel_rfl
theorem Us:ak af 235 (pw b o) 2= .ok (pw b (o+2)):=by kernel_rfl
noncomputable def jr:Code:=qaL.body.getD .skip
noncomputable def dZ:Code:=sub jr [1,1,0,1,0,0]
theorem Qr:qaL.body=some (.seq (sub jr [0]) (.seq (sub jr [1,0]) (.seq (.seq (sub jr [1,1,0,0]) (.block 0 (.loop dZ))) (.seq (sub jr [1,1,1,0]) (.seq (sub jr [1,1,1,1,0]) (sub jr [1,1,1,1,1])))))):=by kernel_rfl
theorem AH:dZ= .seq (.seq (sub dZ [0,0]) (sub dZ [0,1])) (.seq (.block 1 (.seq (sub dZ [1,0,0,0]) (.seq (sub dZ [1,0,0,1,0]) (sub dZ [1,0,0,1,1])))) (sub dZ [1,1])):=by kernel_rfl
def MY (q:Nat) (w:List UInt8) (i:Nat):List (Nat×Value):=[(1,.pointer (some ⟨q,0,none⟩)),(2,.pointer (some ⟨q+1,0,none⟩)),(3,strOf w),(4,.int .i64 i)]
theorem D8 {q:Nat} {ls:List UInt8} {xl:Value} {K:Ex→St→Prop} {wt:Int} {g:Bool} (hx:tJ C ls xl) (hv:dj C 235 q (.var 3) [xl,.int .u32 wt,.bool g]) {b:UInt8} (hb:ls[i]?=some b) (hw:w.length=i) (hi:i<9) (ht:Sl t (MY q w i))
 (hK:∀t',Sl t' (MY q (w++[oP b]) i)→K .nrm ⟨t',43,[],C.alloc (aa 5 [.int .u8 ((oP b).toNat:Nat)]),none⟩):
 W af (.seq (sub dZ [1,0,0,0]) (.seq (sub dZ [1,0,0,1,0]) (sub dZ [1,0,0,1,1]))) ⟨t,43,[],C,none⟩ K:=by
 obtain⟨g1,g2,g3,g4,-⟩:=ht;obtain⟨p,a1,a2⟩:=hx.at hb;have hl:ai af C.get 48 (pw q 0)= .ok xl:=aU HQ rfl hv rfl;have hlt:=B3 b;have hnat:=N9 b;have hadd:=tw (a:=w) (b:=[oP b]) (by rw [hw];show i+1<_;omega);have hs:=Rw (ay C (aa 5 [.int .u8 ((oP b).toNat:Nat)]));apply W.q
 ·intro M;simp (disch:=omega) only [dZ,jr,qaL,Aq,Zf,g1,g4,Cw,hl,a1,a2];rfl
 apply W.seq;by_cases h7:b.toNat % 8<7
 ·rw [if_pos h7] at hnat;apply W.run 20
  ·intro M;simp (disch:=first|decide+kernel|omega) only [dZ,jr,qaL,Aq,Zf,h7,K6];rfl
  show W af _ _ _;rw [←hnat];apply W.run 20
  ·intro M;simp (disch:=decide+kernel) only [dZ,jr,qaL,Aq,Zf,g3,DO,tN,kY _ _ _ _ _ _ _ _ _ _ HQ u9,hs,hadd];rfl
  refine hK _ ?_;unfold MY;simp only [Sq,Zf,Zg,g1,g2,g4]
 ·rw [if_neg h7] at hnat;apply W.run 20
  ·intro M;simp (disch:=decide+kernel) only [dZ,jr,qaL,Aq,Zf,h7];rfl
  show W af _ _ _;rw [←hnat];apply W.run 20
  ·intro M;simp (disch:=decide+kernel) only [dZ,jr,qaL,Aq,Zf,g3,DO,tN,kY _ _ _ _ _ _ _ _ _ _ HQ u9,hs,hadd];rfl
  refine hK _ ?_;unfold MY;simp only [Sq,Zf,Zg,g1,g2,g4]
theorem JC:aV af 235= .ok 3:=by kernel_rfl
theorem Aj {ls:List UInt8} {b:UInt8} (h:ls[i]?=some b):(ls.take (i+1)).map oP=(ls.take i).map oP++[oP b]:=by
 obtain⟨hlt,rfl⟩:=Zl.1 h;rw [Zs hlt,Z3];rfl
def Aa (ls:List UInt8) (wt:Nat) (g:Bool):aG:=bare ⟨pg ls,wt,g⟩
theorem Wh {wt:Nat} {g:Bool}:cu af 67 [(0,strOf w),(1,.int .u32 wt),(2,.bool g)]= .ok (.agg ⟨bH ⟨w,wt,g⟩⟩):=by kernel_rfl
theorem Lm {ls:List UInt8} {xl:Value} {wt:Nat} {g:Bool} (hx:tJ A ls xl):
 ∃A',bJ af 149 [.agg ⟨[xl,.int .u32 wt,.bool g]⟩] A (.agg ⟨bH (Aa ls wt g)⟩) A'∧Kp A A':=by
 obtain⟨v,A',hg,rfl,hk⟩:∃v A',bJ af 149 [.agg ⟨[xl,.int .u32 wt,.bool g]⟩] A v A'∧v= .agg ⟨bH (Aa ls wt g)⟩∧Kp A A':=by
  refine dQ (av Tryz.func149) Qr (by rw [Tryz.ntmps149];simp) (by kernel_rfl) (by kernel_rfl) ?_;obtain⟨d67,hd1,hd2⟩:=bg (t:=67) (p:=true) (by kernel_rfl);have hv0:dj ((A.alloc (aa 235 [xl,.int .u32 wt,.bool g])).alloc (aa 67 [.string .empty,.int .u32 0,.bool false])) 235 A.next (.var 3) [xl,.int .u32 wt,.bool g]:=(ei (ay _ _)).same (aB (by rw [ae];omega))
  have hz0:dj ((A.alloc (aa 235 [xl,.int .u32 wt,.bool g])).alloc (aa 67 [.string .empty,.int .u32 0,.bool false])) 67 (A.next+1) (.var 3) [.string .empty,.int .u32 0,.bool false]:=ei (ay _ _);have hk0:Kp A ((A.alloc (aa 235 [xl,.int .u32 wt,.bool g])).alloc (aa 67 [.string .empty,.int .u32 0,.bool false])):=(Kp.alloc _ _).trans (Kp.alloc _ _);have hn0:((A.alloc (aa 235 [xl,.int .u32 wt,.bool g])).alloc (aa 67 [.string .empty,.int .u32 0,.bool false])).next=A.next+2:=rfl
  apply W.q
  ·intro M;simp (disch:=omega) only [jr,qaL,Aq,Zf,VM,aj,ae];rfl
  generalize (A.alloc (aa 235 [xl,.int .u32 wt,.bool g])).alloc (aa 67 [.string .empty,.int .u32 0,.bool false])=B at hv0 hz0 hk0 hn0;apply W.q
  ·intro M;simp (disch:=omega) only [jr,qaL,Aq,Zf];rfl
  apply W.seq;apply W.q
  ·intro M;simp (disch:=omega) only [jr,qaL,Aq,Zf];rfl
  apply W.block;have hmin:min ls.length 9≤ls.length∧min ls.length 9≤9:=⟨qcu _ _,qdv _ _⟩;have hmin2:min ls.length 9=ls.length∨min ls.length 9=9:=by omega
  refine W.up (min ls.length 9) (fun i t C=>Kp B C∧Sl t (MY A.next ((ls.take i).map oP) i)) ?_ (Zv _) ⟨Kp.refl _,?_⟩
  ·rintro i t C hi ⟨hk,g1,g2,g3,g4,-⟩;have hxC:=hx.kp (hk0.trans hk);have hvC:dj C 235 A.next (.var 3) [xl,.int .u32 wt,.bool g]:=hv0.same (hk.2 _ (by omega))
   have hl:ai af C.get 48 (pw A.next 0)= .ok xl:=aU HQ rfl hvC rfl;have hlen:=hxC.len;by_cases hlt:i<min ls.length 9
   ·have h1:i<ls.length:=by omega
    have h2:i<9:=by omega
    have hb:ls[i]?=some ls[i]:=Zi h1;rw [AH];apply W.q
    ·intro M;simp (config:={maxSteps:=4000000}) (disch:=first|decide+kernel|omega|simp only [Wq,Zf]) only [dZ,jr,qaL,Aq,Zj,reduceIte,Zf,Zg,g1,g4,Cw,hl,hlen,h1,h2];rfl
    apply W.seq;apply W.block;refine D8 (w:=(ls.take i).map oP) (i:=i) (q:=A.next) hxC hvC hb (by rw [Zp,ZD];omega) h2 (by unfold MY;simp only [Sq,Zf,Zg,g1,g2,g3,g4]) fun t' ht'=>?_
    obtain⟨f1,f2,f3,f4,-⟩:=ht';apply W.run 20
    ·intro M;simp (disch:=first|decide+kernel|omega) only [dZ,jr,qaL,Aq,Zf,f4];rfl
    refine⟨hlt,_,_,rfl,hk.trans (Kp.alloc _ _),?_⟩;rw [Aj hb];unfold MY;simp only [Sq,Zf,Zg,f1,f2,f3]
   ·have hin:i=min ls.length 9:=by omega
    have htk:(ls.take i)=ls.take 9:=by
     rcases hmin2 with h|h
     ·rw [hin,h,ZL,qaJ (by omega)]
     ·rw [hin,h]
    rw [htk] at g3;have hex:W af (.seq (sub dZ [0,0]) (sub dZ [0,1])) ⟨t,43,[],C,none⟩ (fun e s'=>∃t',e= .exit 0∧s'=⟨t',43,[],C,none⟩∧Sl t' (MY A.next ((ls.take 9).map oP) i)):=by
     by_cases h1:i<ls.length
     ·have h2:¬i<9:=by omega
      apply W.run 20
      ·intro M;simp (config:={maxSteps:=4000000}) (disch:=first|decide+kernel|omega|simp only [Wq,Zf]) only [dZ,jr,qaL,Aq,Zj,reduceIte,Zf,Zg,g1,g4,Cw,hl,hlen,h1,h2];rfl
      refine⟨_,rfl,rfl,?_⟩;unfold MY;simp only [Sq,Zf,Zg,g1,g2,g3,g4]
     ·apply W.run 20
      ·intro M;simp (config:={maxSteps:=4000000}) (disch:=first|decide+kernel|omega|simp only [Wq,Zf]) only [dZ,jr,qaL,Aq,Zj,reduceIte,Zf,Zg,g1,g4,Cw,hl,hlen,h1];rfl
      refine⟨_,rfl,rfl,?_⟩;unfold MY;simp only [Sq,Zf,Zg,g1,g2,g3,g4]
    rw [AH];apply W.seq;refine hex.mono ?_;rintro e s' ⟨t',rfl,rfl,f1,f2,f3,f4,-⟩;apply W.seq;have hw:W af (sub jr [1,1,1,0]) ⟨t',43,[],C,none⟩ (fun e s'=>∃t2,e= .nrm∧s'=⟨t2,43,[],C,none⟩∧Sl t2 [(1,pw A.next 0),(2,pw (A.next+1) 0),(3,strOf (pg ls))]):=by
     by_cases h0:(ls.take 9).map oP=[]
     ·have hwd:pg ls=[97]:=by unfold pg;rw [if_pos h0]
      have f3':t'.get 3=some (strOf []):=by rw [f3,h0]
      apply W.run 20
      ·intro M;simp (disch:=decide+kernel) only [jr,qaL,Aq,Zf,f3'];rfl
      refine⟨_,rfl,rfl,?_⟩;rw [hwd];simp only [Sq,Zf,Zg,f1,f2]
     ·have hwd:pg ls=(ls.take 9).map oP:=by unfold pg;rw [if_neg h0]
      rw [←hwd] at f3 h0;apply W.run 20
      ·intro M;simp (disch:=decide+kernel) only [jr,qaL,Aq,Zf,f3,h0];rfl
      refine⟨_,rfl,rfl,?_⟩;simp only [Sq,Zf,Zg,f1,f2,f3]
    refine hw.mono ?_;rintro e s' ⟨t2,rfl,rfl,f1,f2,f3,-⟩;apply W.seq;have l1:ai af C.get 31 (pw A.next (0+1))= .ok (.int .u32 wt):=aU XO rfl hvC rfl;have l2:ai af C.get 4 (pw A.next (0+2))= .ok (.bool g):=aU u4 rfl hvC rfl;have hgb:=fun ih=>Tn (ih:=ih) (A:=C) (e:=⟨pg ls,wt,g⟩)
    have hzD:dj C 67 (A.next+1) (.var 3) [.string .empty,.int .u32 0,.bool false]:=hz0.same (hk.2 _ (by omega));obtain⟨C2,s2,v2,n2,k2⟩:=bK (tb:=af) (t:=67) (l:=[.string .empty,.int .u32 0,.bool false]) (l':=bH (Aa ls wt g)) Sy hzD rfl (by simp) (sd _);have hl2:=aI (tb:=af) hd1 hd2 (l:=bH (Aa ls wt g)) Sy v2;have hk1:=hk0.trans hk;unfold Aa at s2 hl2⊢;apply W.run 20
    ·intro M;simp (disch:=omega) only [jr,qaL,Aq,Zf,f1,f2,f3,Ur,Us,l1,l2,Wh,hgb,s2];rfl
    apply W.run 20
    ·intro M;simp only [jr,qaL,Aq,Zf];rfl
    refine⟨.inr rfl,C2,[.agg ⟨bH (bare ⟨pg ls,wt,g⟩)⟩],rfl,?_,rfl,?_⟩
    ·simp only [qaL,fj,im,T.aD,Zf,if_true,if_false,eH,R.aw,f2,hl2]
    ·exact⟨by rw [n2];exact hk1.1,fun z hz=>by rw [k2 z (by omega),hk1.2 z hz]⟩
  ·unfold MY;simp only [Sq,Zf,Zg];rfl
 exact⟨A',hg,hk⟩
structure rM where
 xl:Value
 ls:List UInt8
 wt:Nat
 gone:Bool
def YN (d:rM):Value:=.agg ⟨[d.xl,.int .u32 d.wt,.bool d.gone]⟩
def L4 (A:Mem) (ds:List rM) (x:Value):Prop:=
 (x= .slice none 0 0∧ds=[])∨(x=D7∧ds=[])∨∃q off cp,x= .slice (some ⟨q,off,none⟩) ds.length cp∧(ds=[]∨(q<A.next∧∃t kd fz c,A.get q=some (.cells t kd fz c)∧
  ∀(i:Nat) (d:rM),ds[i]?=some d→c.get (off+i*3)=some d.xl∧c.get (off+i*3+1)=some (.int .u32 d.wt)∧c.get (off+i*3+2)=some (.bool d.gone)∧tJ A d.ls d.xl))
theorem Su:af.bp 111=some (.slice 235):=by kernel_rfl
variable {ds:List rM}
theorem L4.kp {x:Value} (h:L4 A ds x) (k:Kp A A'):L4 A' ds x:=by
 rcases h with h|h|⟨q,off,cp,h1,h2⟩
 ·exact .inl h
 ·exact .inr (.inl h)
 ·refine .inr (.inr ⟨q,off,cp,h1,?_⟩);rcases h2 with h2|⟨h2,t,kd,fz,c,h3,h4⟩
  ·exact .inl h2
  ·exact .inr ⟨ZJ h2 k.1,t,kd,fz,c,by rw [k.2 _ h2];exact h3,fun i d hd=>⟨(h4 i d hd).1,(h4 i d hd).2.1,(h4 i d hd).2.2.1,(h4 i d hd).2.2.2.kp k⟩⟩
theorem L4.len {x:Value} (h:L4 A ds x):aL af .len [111] [x]= .ok (.int .i64 (ds.length:Nat)):=by
 rcases h with⟨rfl,rfl⟩|⟨rfl,rfl⟩|⟨q,off,cp,rfl,-⟩
 ·exact ez Su
 ·kernel_rfl
 ·exact ez Su
theorem L4.at {x:Value} (h:L4 A ds x) {d:rM} (hi:ds[i]?=some d):
 (∃p,aW af 111 x (.int .i64 i)= .ok (.pointer (some p))∧ai af A.get 235 (.pointer (some p))= .ok (YN d))∧tJ A d.ls d.xl:=by
 rcases h with⟨-,rfl⟩|⟨-,rfl⟩|⟨q,off,cp,rfl,h2⟩
 ·simp at hi
 ·simp at hi
 ·rcases h2 with rfl|⟨h2,t,kd,fz,c,h3,h4⟩
  ·simp at hi
  ·obtain⟨c0,c1,c2,hby⟩:=h4 i d hi;obtain⟨d26,hd1,hd2⟩:=bg (t:=235) (p:=true) (by kernel_rfl);have hlt:=(Zl.1 hi).1;have hb:Zt i ds.length=true:=by rw [ZB];exact hlt
   have hn:mo (.int .i64 i)= .ok i:=rfl;refine⟨⟨⟨q,off+i*3,none⟩,?_,?_⟩,hby⟩
   ·unfold aW;simp only [hn,Su,hb,cond_true,JC,R.aw,jd]
   ·have hgs:c.iX 3 (off+i*3)=some [d.xl,.int .u32 d.wt,.bool d.gone]:=fR _ _ _ _ rfl fun j hj=>by
     have:j=0∨j=1∨j=2:=by omega
     rcases this with rfl|rfl|rfl
     ·exact c0
     ·exact c1
     ·exact c2
    unfold ai;simp only [h3,hd1,hd2,cond_true,JC,R.aw,hgs];rfl
def dE (d:rM):aG:=Aa d.ls d.wt d.gone
noncomputable def Ig:Code:=qcF.body.getD .skip
noncomputable def DV:Code:=sub Ig [1,1,0,1,0,0]
theorem Ud:qcF.body=some (.seq (sub Ig [0]) (.seq (sub Ig [1,0]) (.seq (.seq (sub Ig [1,1,0,0]) (.block 0 (.loop DV))) (.seq (sub Ig [1,1,1,0]) (sub Ig [1,1,1,1]))))):=by kernel_rfl
theorem Fb {x:Value} (h:L4 A ds x) (hn:n≤1000):
 ∃y A',bJ af 98 [x,.int .i64 (n:Nat)] A y A'∧dX A' ((ds.take n).map dE) y∧Kp A A':=by
 obtain⟨v,A',hg,he,hk⟩:∃v A',bJ af 98 [x,.int .i64 (n:Nat)] A v A'∧dX A' ((ds.take n).map dE) v∧Kp A A':=by
  refine dQ (av Tryz.func98) Ud (by rw [Tryz.ntmps98];simp) (by kernel_rfl) (by kernel_rfl) ?_;apply W.q
  ·intro M;simp (disch:=omega) only [Ig,qcF,Aq,Zf];rfl
  apply W.q
  ·intro M;simp (disch:=omega) only [Ig,qcF,Aq,Zf];rfl
  apply W.seq;apply W.q
  ·intro M;simp (disch:=omega) only [Ig,qcF,Aq,Zf];rfl
  apply W.block;have hmin:min ds.length n≤ds.length∧min ds.length n≤n:=⟨qcu _ _,qdv _ _⟩;have hmin2:min ds.length n=ds.length∨min ds.length n=n:=by omega
  refine W.up (min ds.length n) (fun i t C=>∃bo xo,Ma C bo ((ds.take i).map dE) xo∧A.next≤bo∧Kp A C∧Sl t [(0,x),(1,.int .i64 (n:Nat)),(5,xo),(6,.int .i64 i)]) ?_ (Zv _) ⟨A.next,.slice none 0 0,.inl ⟨rfl,rfl⟩,Zn _,Kp.refl _,?_⟩
  ·rintro i t C hi ⟨bo,xo,ho,hbo,hk,g0,g1,g5,g6,-⟩;have hC:=h.kp hk;have hlen:=hC.len;by_cases hlt:i<min ds.length n
   ·have h1:i<ds.length:=by omega
    have h2:i<n:=by omega
    have hd:ds[i]?=some ds[i]:=Zi h1;obtain⟨⟨p,a1,a2⟩,hby⟩:=hC.at hd;obtain⟨C1,⟨g,hg⟩,k1⟩:=Lm (wt:=ds[i].wt) (g:=ds[i].gone) hby;obtain⟨x',C2,happ,w2,n2,k2⟩:=wX (e:=dE ds[i]) (Ma.kp ho k1) (by rw [Zp,ZD];omega);have hbe:a9 af 60 1 [(0,.agg ⟨bH (Aa ds[i].ls ds[i].wt ds[i].gone)⟩)]= .ok (aa 67 (bH (dE ds[i])),.nO 1 2):=FZ;unfold YN at a2;apply W.bf (g) 20
    ·intro M hM;simp (config:={maxSteps:=4000000}) (disch:=first|decide+kernel|omega|simp only [Wq,Zf]) only [DV,Ig,qcF,Aq,Zj,reduceIte,Zf,Zg,g0,g1,g5,g6,hlen,h1,h2,a1,a2,hg,hbe,tN,happ];rfl
    have hkA:=hk.trans k1;refine⟨hlt,_,_,rfl,C1.next+1,x',?_,?_,⟨by rw [n2];have:=hkA.1;omega,fun z hz=>?_⟩,?_⟩
    ·rw [Zs h1,Z3];exact w2
    ·have:=hkA.1;omega
    ·rw [k2 z (fun e=>by omega) (by have:=hkA.1;omega),hkA.2 z hz]
    ·simp only [Sq,Zf,Zg,g0,g1]
   ·have hin:i=min ds.length n:=by omega
    have htk:ds.take i=ds.take n:=by
     rcases hmin2 with h|h
     ·rw [hin,h,ZL,qaJ (by omega)]
     ·rw [hin,h]
    rw [htk] at ho;have hex:W af DV ⟨t,27,[],C,none⟩ (fun e s'=>∃t',e= .exit 0∧s'=⟨t',27,[],C,none⟩∧Sl t' [(5,xo)]):=by
     by_cases h1:i<ds.length
     ·have h2:¬i<n:=by omega
      apply W.run 20
      ·intro M;simp (config:={maxSteps:=4000000}) (disch:=first|decide+kernel|omega|simp only [Wq,Zf]) only [DV,Ig,qcF,Aq,Zj,reduceIte,Zf,Zg,g0,g1,g5,g6,hlen,h1,h2];rfl
      refine⟨_,rfl,rfl,?_⟩;simp only [Sq,Zf,Zg,g5]
     ·apply W.run 20
      ·intro M;simp (config:={maxSteps:=4000000}) (disch:=first|decide+kernel|omega|simp only [Wq,Zf]) only [DV,Ig,qcF,Aq,Zj,reduceIte,Zf,Zg,g0,g1,g5,g6,hlen,h1];rfl
      refine⟨_,rfl,rfl,?_⟩;simp only [Sq,Zf,Zg,g5]
    refine hex.mono ?_;rintro e s' ⟨t',rfl,rfl,f5,-⟩;apply W.q
    ·intro M;simp (disch:=omega) only [Ig,qcF,Aq,Zf,f5];rfl
    apply W.run 20
    ·intro M;simp only [Ig,qcF,Aq,Zf];rfl
    refine⟨.inr rfl,C,[xo],rfl,?_,⟨bo,ho⟩,hk⟩;simp only [qcF,fj,im,T.aD,Zf,if_true,if_false,eH,R.aw]
  ·simp only [Sq,Zf,Zg]
 exact⟨v,A',hg,he,hk⟩
def BL (A0 C:Mem) (b:Nat) (l:List aG) (x:Value):Prop:=aq C 67 3 b (l.map bH) x∧Kp A0 C∧A0.next≤b
theorem BL.nil (A0 C:Mem) (k:Kp A0 C):BL A0 C A0.next [] (.slice none 0 0):=⟨aq.nil _ _ _ _,k,Zn _⟩
theorem BL.push {A0:Mem} {x:Value} (h:BL A0 C b l x) (e:aG) (hl:l.length<1000000):∃x' C',ba af (C.alloc (aa 67 (bH e))) 60 60 x (.slice (some ⟨C.next,0,none⟩) 1 2)= .ok (x',C')∧BL A0 C' (C.next+1) (l++[e]) x':=by
 obtain⟨hs,hk,hb⟩:=h;obtain⟨x',F,h1,h2,h3,h4⟩:=wX (e:=e) hs hl;have hk0:=hk.1;exact⟨x',F,h1,h2,⟨by omega,fun z hz=>by rw [h4 z (by omega) (by omega),hk.2 z hz]⟩,by omega⟩
theorem Ux (a b:List UInt8):(!(aZ a b||eR a b))=aZ b a:=by
 cases h1:aZ b a with
 |true=>
  have h2:aZ a b=false:=by
   cases h:aZ a b with
   |false=>rfl
   |true=>have:=lj _ _ _ h h1;rw [iQ] at this;cases this
  have h3:eR a b=false:=by
   rw [dk];refine beq_eq_false_iff_ne.2 fun e=>?_
   rw [e,iQ] at h1;cases h1
  rw [h2,h3];rfl
 |false=>
  cases h2:aZ a b with
  |true=>rfl
  |false=>
   obtain rfl:=n9 _ _ h2 h1;rw [dk];simp
theorem Ya (a b:List UInt8):db .lss a b= .ok (.bool (aZ a b)):=rfl
theorem X4 (a b:List UInt8):db .gtr a b= .ok (.bool (aZ b a)):=by
 show R.ok (Value.bool (!(aZ a b||eR a b)))=_;rw [Ux]
theorem tO (e:aG):(bare e).word=e.word:=by unfold bare;split<;>rfl
variable {e:aG}
theorem Bc:∀{l:List aG},rL l→nb e l=l.takeWhile (fun y=>aZ y.word e.word)++e::l.filter (fun y=>aZ e.word y.word)
 | [],_=>rfl
 |x::l,h=>by
  have hx:=h.1;unfold nb;by_cases h1:lt x.word e.word
  ·have h2:aZ e.word x.word=false:=by
    cases hq:aZ e.word x.word with
    |false=>rfl
    |true=>exact absurd (Oc h1 hq) (US _)
   rw [if_pos h1,Bc h.2,qc7,if_pos h1,Z',h2];rfl
  ·have htw:(x::l).takeWhile (fun y=>aZ y.word e.word)=[]:=by rw [qc7,if_neg h1]
   rw [if_neg h1,htw];by_cases h3:x.word=e.word
   ·rw [if_pos h3,Z',←h3,if_neg (by rw [iQ];simp)];rw [qbS.2 (fun y hy=>hx y hy)];rfl
   ·have h4:lt e.word x.word:=qcb fun hn=>h3 (Od h1 hn)
    rw [if_neg h3,Z',if_pos h4,qbS.2 (fun y hy=>Oc h4 (hx y hy))];rfl
theorem Dp {p:aG→Bool}:∀{l:List aG} {i:Nat},(∀y∈l.take i,p y=true)→(∀e,l[i]?=some e→p e=false)→l.takeWhile p=l.take i
 | [],i,_,_=>by simp
 |x::l,0,_,h=>by
  rw [qc7,h x rfl];simp
 |x::l,i+1,h1,h2=>by
  rw [qc7,if_pos (h1 x (by simp)),qbr,Dp (i:=i) (fun y hy=>h1 y (by simp [hy])) (fun e he=>h2 e (by simpa using he))]
noncomputable def kq:Code:=qbi.body.getD .skip
noncomputable def B8:Code:=sub kq [1,1,0,1,0,0]
noncomputable def B9:Code:=sub kq [1,1,1,1,0,1,0,0]
theorem Qq:qbi.body=some (.seq (sub kq [0]) (.seq (sub kq [1,0]) (.seq (.seq (sub kq [1,1,0,0]) (.block 0 (.loop B8))) (.seq (sub kq [1,1,1,0]) (.seq (.seq (sub kq [1,1,1,1,0,0]) (.block 2 (.loop B9))) (.seq (sub kq [1,1,1,1,1,0]) (sub kq [1,1,1,1,1,1]))))))):=by kernel_rfl
theorem O4 {x:Value} (h:dX A l x) (ha:rL l) (hl:l.length<400000):∃v A',bJ af 148 [x,.agg ⟨bH e⟩] A v A'∧dX A' (nb (bare e) l) v∧Kp A A':=by
 refine cM (av Tryz.func148) Qq (by rw [Tryz.ntmps148];simp) (by kernel_rfl) (by kernel_rfl) ?_;have hlen:=h.len;have k0:=Kp.alloc A (aa 67 (bH e));have v0:=az A 67 (bH e);apply W.q
 ·intro M;simp (disch:=omega) only [kq,qbi,Aq,Zf,aj];rfl
 have hB:=h.kp k0;generalize A.alloc (aa 67 (bH e))=B at k0 v0 hB;have lwB:∀C,Kp B C→ai af C.get 9 (.pointer (some ⟨A.next,0,none⟩))= .ok (strOf e.word):=fun C k=>(v0.kp k).ld rfl u9 rfl
 obtain⟨d67,hd1,hd2⟩:=bg (t:=67) (p:=true) (by kernel_rfl);apply W.q
 ·intro M;simp (disch:=omega) only [kq,qbi,Aq,Zf];rfl
 apply W.seq;refine W.to (n:=58) (fun t C=>∃b y,BL B C b (l.takeWhile (fun y=>aZ y.word e.word)) y∧Sl t [(0,x),(3,.pointer (some ⟨A.next,0,none⟩)),(5,y)]) ?_ ?_
 ·apply W.seq;apply W.run 20
  ·intro M;simp (disch:=omega) only [kq,qbi,Aq,Zf];rfl
  apply W.block;refine W.up l.length (fun i t C=>(∀y∈l.take i,aZ y.word e.word=true)∧∃b y,BL B C b (l.take i) y∧Sl t [(0,x),(3,.pointer (some ⟨A.next,0,none⟩)),(5,y),(6,.int .i64 i)]) ?_ (Zv _) ⟨(fun y hy=>by simp at hy),_,_,BL.nil B B (Kp.refl _),?_⟩
  ·rintro i t C hi ⟨hall,b,y,hO,g0,g3,g5,g6,-⟩;have lw:=lwB C hO.2.1;by_cases hlt:i<l.length
   ·have he:l[i]?=some l[i]:=Zi hlt;obtain⟨p,i1,i2,q,i3,i4⟩:=(hB.kp hO.2.1).at he;have hls:=Ya (l[i]).word e.word;cases hc:aZ (l[i]).word e.word with
    |true=>
     rw [hc] at hls;have htk:l.take (i+1)=l.take i++[l[i]]:=Zs hlt;obtain⟨y2,D2,happ2,hO3⟩:=hO.push l[i] (by rw [ZD];omega);apply W.run 20
     ·intro M;simp (config:={maxSteps:=4000000}) (disch:=first|decide+kernel|omega|simp only [Wq,Zf]) only [B8,kq,qbi,Aq,Zj,reduceIte,Zf,Zg,g0,g3,g5,g6,hlen,hlt,i1,i2,i3,i4,Ec,lw,hls,FZ,happ2,Fq,au []];rfl
     refine⟨hlt,_,_,rfl,fun z hz=>?_,_,y2,by rw [htk];exact hO3,?_⟩
     ·rw [htk] at hz;rcases qas.1 hz with hz|hz
      ·exact hall z hz
      ·rw [Z9.1 hz];exact hc
     ·simp only [Sq,Zf,Zg,g0,g3]
    |false=>
     rw [hc] at hls;have htw:l.takeWhile (fun y=>aZ y.word e.word)=l.take i:=Dp hall (fun z hz=>by rw [he] at hz;rw [←Z_ hz];exact hc);apply W.run 20
     ·intro M;simp (config:={maxSteps:=4000000}) (disch:=first|decide+kernel|omega|simp only [Wq,Zf]) only [B8,kq,qbi,Aq,Zj,reduceIte,Zf,Zg,g0,g3,g6,hlen,hlt,i1,i3,i4,Ec,lw,hls,Fq,au []];rfl
     refine⟨rfl,_,_,rfl,b,y,by rw [htw];exact hO,?_⟩;simp only [Sq,Zf,Zg,g0,g3,g5]
   ·have hin:i=l.length:=by omega
    subst hin;have htw:l.takeWhile (fun y=>aZ y.word e.word)=l.take l.length:=Dp hall (fun z hz=>by rw [Z7 (Zn _)] at hz;cases hz);apply W.run 20
    ·intro M;simp (config:={maxSteps:=4000000}) (disch:=first|decide+kernel|omega|simp only [Wq,Zf]) only [B8,kq,qbi,Aq,Zj,reduceIte,Zf,Zg,g0,g6,hlen,Fq,au []];rfl
    refine⟨rfl,_,_,rfl,b,y,by rw [htw];exact hO,?_⟩;simp only [Sq,Zf,Zg,g0,g3,g5]
  ·simp only [Sq,Zf,Zg]
 ·rintro t C ⟨b,y,hO,g0,g3,g5,-⟩;show W af _ _ _;have hlt1:(l.takeWhile (fun y=>aZ y.word e.word)).length≤l.length:=(List.takeWhile_sublist _).length_le;have le:ai af C.get 67 (.pointer (some ⟨A.next,0,none⟩))= .ok (.agg ⟨bH e⟩):=aI hd1 hd2 Sy (v0.kp hO.2.1).2;have hg:=fun ih=>Tn (ih:=ih) (A:=C) (e:=e)
  obtain⟨y',E,happ,hO2⟩:=hO.push (bare e) (by omega);apply W.q
  ·intro M;simp (disch:=decide+kernel) only [kq,qbi,Aq,Zf,g3,g5,le,hg,FZ,happ];rfl
  apply W.seq;apply W.q
  ·intro M;simp (disch:=omega) only [kq,qbi,Aq,Zf];rfl
  apply W.block;refine W.up l.length (fun i t C=>∃b y,BL B C b ((l.takeWhile (fun y=>aZ y.word e.word)++[bare e])++(l.take i).filter (fun y=>aZ e.word y.word)) y∧Sl t [(0,x),(3,.pointer (some ⟨A.next,0,none⟩)),(5,y),(7,.int .i64 i)]) ?_ (Zv _) ⟨_,y',by simpa using hO2,?_⟩
  ·rintro i t C hi ⟨b,y,hO,g0,g3,g5,g7,-⟩;have lw:=lwB C hO.2.1;by_cases hlt:i<l.length
   ·have he:l[i]?=some l[i]:=Zi hlt;obtain⟨p,i1,i2,q,i3,i4⟩:=(hB.kp hO.2.1).at he;have hgs:=X4 (l[i]).word e.word;cases hc:aZ e.word (l[i]).word with
    |true=>
     rw [hc] at hgs;have hfl:((l.takeWhile (fun y=>aZ y.word e.word)++[bare e])++(l.take i).filter (fun y=>aZ e.word y.word)).length<1000000:=by
      have:=qb3 (fun y:aG=>aZ e.word y.word) (l.take i);rw [ZD] at this;simp only [Zo,Zu,ZG];omega
     have htk:(l.take (i+1)).filter (fun y=>aZ e.word y.word)=(l.take i).filter (fun y=>aZ e.word y.word)++[l[i]]:=by
      rw [Zs hlt,qbV,Z',if_pos hc];rfl
     obtain⟨y2,D2,happ2,hO3⟩:=hO.push l[i] hfl;apply W.run 20
     ·intro M;simp (config:={maxSteps:=4000000}) (disch:=first|decide+kernel|omega|simp only [Wq,Zf]) only [B9,kq,qbi,Aq,Zj,reduceIte,Zf,Zg,g0,g3,g5,g7,hlen,hlt,i1,i2,i3,i4,Ec,lw,hgs,FZ,happ2,Fq,au []];rfl
     refine⟨hlt,_,_,rfl,_,y2,by rw [htk,←qah];exact hO3,?_⟩;simp only [Sq,Zf,Zg,g0,g3]
    |false=>
     rw [hc] at hgs;have htk:(l.take (i+1)).filter (fun y=>aZ e.word y.word)=(l.take i).filter (fun y=>aZ e.word y.word):=by
      rw [Zs hlt,qbV,Z',if_neg (by rw [hc];decide)];simp
     apply W.run 20
     ·intro M;simp (config:={maxSteps:=4000000}) (disch:=first|decide+kernel|omega|simp only [Wq,Zf]) only [B9,kq,qbi,Aq,Zj,reduceIte,Zf,Zg,g0,g3,g7,hlen,hlt,i1,i3,i4,Ec,lw,hgs,Fq,au []];rfl
     refine⟨hlt,_,_,rfl,b,y,by rw [htk];exact hO,?_⟩;simp only [Sq,Zf,Zg,g0,g3,g5]
   ·have hin:i=l.length:=by omega
    subst hin;rw [ZL] at hO;apply W.run 20
    ·intro M;simp (disch:=decide+kernel) only [B9,kq,qbi,Aq,Zf,g0,g7,hlen];rfl
    apply W.q
    ·intro M;simp (disch:=omega) only [kq,qbi,Aq,Zf,g5];rfl
    apply W.run 20
    ·intro M;simp only [kq,qbi,Aq,Zf];rfl
    refine⟨by simp,rfl,_,(by simp only [qbi,Aq,Zf]<;>rfl),⟨b,?_⟩,k0.trans hO.2.1⟩;rw [Bc ha,tO];have:=hO.1;rwa [qah] at this
  ·simp only [Sq,Zf,Zg,g0,g3]
def mD (more:List aG):List aG:=more.foldl (fun l e=>nb (bare e) l) []
theorem HT (more:List aG) (e:aG):mD (more++[e])=nb (bare e) (mD more):=by
 unfold mD;rw [qa8];rfl
theorem one_le {e:aG}:∀l:List aG,(nb e l).length≤l.length+1
 | []=>by simp [nb]
 |x::l=>by
  have:=one_le (e:=e) l;unfold nb;split
  ·simp only [Zu];omega
  ·split<;>simp
theorem L0 (P:List aG→Prop) (h0:P []) (h1:∀l e,P l→P (nb (bare e) l)) (more:List aG):P (mD more):=by
 unfold mD
 suffices h:∀(more l:List aG),P l→P (more.foldl (fun l e=>nb (bare e) l) l) from h more [] h0
 intro more
 induction more with
 |nil=>exact fun l h=>h
 |cons e more ih=>exact fun l h=>ih _ (h1 l e h)
theorem BG (more:List aG):rL (mD more):=L0 rL trivial (fun l e h=>Jb h) more
theorem BH:∀more:List aG,(mD more).length≤more.length:=by
 intro more;unfold mD
 suffices h:∀(more l:List aG),(more.foldl (fun l e=>nb (bare e) l) l).length≤l.length+more.length by
  have:=h more [];simpa using this
 intro more
 induction more with
 |nil=>exact fun l=>Zn _
 |cons e more ih=>
  intro l;have h1:=ih (nb (bare e) l);have h2:=one_le (e:=bare e) l;rw [qax,Zu];omega
theorem BI {more:List aG} (P:aG→Prop) (h:∀e∈more,P (bare e)):∀e∈mD more,P e:=by
 unfold mD
 suffices H:∀(more l:List aG),(∀e∈more,P (bare e))→(∀e∈l,P e)→∀e∈more.foldl (fun l e=>nb (bare e) l) l,P e from H more [] h (fun e he=>by cases he)
 intro more
 induction more with
 |nil=>exact fun l _ h=>h
 |cons a more ih=>
  intro l h1 h2;refine ih _ (fun e he=>h1 e (Zx _ he)) fun e he=>?_
  rcases CO he with rfl|he
  ·exact h1 a Zy
  ·exact h2 e he
theorem J6:ba af A 60 60 (.slice none 0 0) (.slice none 0 0)= .ok (.slice none 0 0,A):=by kernel_rfl
noncomputable def Kg:Code:=qc4.body.getD .skip
noncomputable def ML:Code:=sub Kg [1,1,0,1,0,0]
theorem Uc:qc4.body=some (.seq (sub Kg [0]) (.seq (sub Kg [1,0]) (.seq (.seq (sub Kg [1,1,0,0]) (.block 0 (.loop ML))) (.seq (sub Kg [1,1,1,0]) (sub Kg [1,1,1,1]))))):=by kernel_rfl
theorem Ly {more:List aG} {xm:Value} (hm:dX A more xm) (hl:more.length<300000):∃v A',bJ af 97 [.slice none 0 0,xm] A v A'∧dX A' (mD more) v∧Kp A A':=by
 refine cM (av Tryz.func97) Uc (by rw [Tryz.ntmps97];simp) (by kernel_rfl) (by kernel_rfl) ?_;have hlen:=hm.len;apply W.q
 ·intro M;simp (disch:=omega) only [Kg,qc4,Aq,Zf];rfl
 apply W.q
 ·intro M;simp (disch:=decide+kernel) only [Kg,qc4,Aq,Zf,J6];rfl
 apply W.seq;apply W.q
 ·intro M;simp (disch:=omega) only [Kg,qc4,Aq,Zf];rfl
 apply W.block;refine W.up more.length (fun i t C=>∃y,dX C (mD (more.take i)) y∧Kp A C∧Sl t [(1,xm),(5,y),(6,.int .i64 i)]) ?_ (Zv _) ⟨_,⟨0,aq.nil _ _ _ _⟩,Kp.refl _,?_⟩
 ·rintro i t C hi ⟨y,hy,kC,g1,g5,g6,-⟩;by_cases hlt:i<more.length
  ·have he:more[i]?=some more[i]:=Zi hlt;obtain⟨p,i1,i2,-⟩:=(hm.kp kC).at he;have hwl:=BH (more.take i);rw [ZD] at hwl;obtain⟨v,D,⟨g,hg⟩,hv,kD⟩:=O4 (e:=more[i]) hy (BG _) (by omega);apply W.bf (g) 20
   ·intro M hM;simp (disch:=first|decide+kernel|omega) only [ML,Kg,qc4,Aq,Zf,g1,g5,g6,hlen,hlt,i1,i2,hg];rfl
   refine⟨hlt,_,_,rfl,v,?_,kC.trans kD,?_⟩
   ·rw [Zs hlt,HT];exact hv
   ·simp only [Sq,Zf,Zg,g1]
  ·have hin:i=more.length:=by omega
   subst hin;rw [ZL] at hy;apply W.run 20
   ·intro M;simp (disch:=decide+kernel) only [ML,Kg,qc4,Aq,Zf,g1,g6,hlen];rfl
   apply W.q
   ·intro M;simp (disch:=omega) only [Kg,qc4,Aq,Zf,g5];rfl
   apply W.run 20
   ·intro M;simp only [Kg,qc4,Aq,Zf];rfl
   exact⟨by simp,rfl,_,(by simp only [qc4,Aq,Zf]<;>rfl),hy,kC⟩
 ·simp only [Sq,Zf,Zg]
def qk (ds:List rM):List aG:=mD ((ds.take 15).map dE)
theorem Lv {x:Value} (h:L4 A ds x):∃v A',bJ af 56 [x,.int .i64 (15:Nat)] A v A'∧dX A' (qk ds) v∧Kp A A':=by
 obtain⟨y,B,⟨g1,h1⟩,hB,kB⟩:=Fb (n:=15) h (by omega);obtain⟨v,C,⟨g2,h2⟩,hC,kC⟩:=Ly hB (by rw [Zp,ZD];omega);refine⟨v,C,?_,hC,kB.trans kC⟩;refine aP (av Tryz.func56) (c:=Tryz.f56.body.getD .skip) (by kernel_rfl) (by rw [Tryz.ntmps56];simp) (by kernel_rfl) (by kernel_rfl) ?_;apply W.bf (g1+g2) 60
 ·intro M hM;simp (disch:=omega) only [Tryz.f56,Aq,Zf,h1,h2];rfl
 exact⟨by simp,rfl,rfl,by simp only [Tryz.f56,Aq,Zf,h1,h2]<;>rfl⟩
theorem Uk (d:rM):1≤(dE d).word.length∧(dE d).word.length≤9:=by
 unfold dE Aa;rw [tO];show 1≤(pg d.ls).length∧(pg d.ls).length≤9;unfold pg;split
 ·simp
 ·rename_i h;have:(qcW oP (List.take 9 d.ls)).length≤9:=by rw [Zp,ZD];omega
  exact⟨ZW.2 h,this⟩
theorem N_ (ds:List rM) (hw:∀d∈ds,d.wt<4294967296):rL (qk ds)∧(qk ds).length≤15∧∀e∈qk ds,(1≤e.word.length∧e.word.length≤9)∧e.weight<4294967296:=by
 refine⟨BG _,ZV (BH _) (by rw [Zp,ZD];omega),BI _ fun e he=>?_⟩;obtain⟨d,hd,rfl⟩:=ZX.1 he;rw [tO];refine⟨Uk d,?_⟩;have hwt:=hw d (qbK hd);unfold dE Aa bare;split<;>simp<;>omega
def xw (A:Mem) (dss:List (List rM)) (x:Value):Prop:=
 (x= .slice none 0 0∧dss=[])∨(x=D7∧dss=[])∨∃q off cp,x= .slice (some ⟨q,off,none⟩) dss.length cp∧(dss=[]∨(q<A.next∧∃t kd fz c,A.get q=some (.cells t kd fz c)∧
  ∀(i:Nat) (ds:List rM),dss[i]?=some ds→∃y,c.get (off+i)=some y∧L4 A ds y))
theorem XN:af.bp 22=some (.slice 111):=by kernel_rfl
theorem YA:aV af 111= .ok 1:=by kernel_rfl
variable {dss:List (List rM)}
theorem xw.kp {x:Value} (h:xw A dss x) (k:Kp A A'):xw A' dss x:=by
 rcases h with h|h|⟨q,off,cp,h1,h2⟩
 ·exact .inl h
 ·exact .inr (.inl h)
 ·refine .inr (.inr ⟨q,off,cp,h1,?_⟩);rcases h2 with h2|⟨h2,t,kd,fz,c,h3,h4⟩
  ·exact .inl h2
  ·exact .inr ⟨ZJ h2 k.1,t,kd,fz,c,by rw [k.2 _ h2];exact h3,fun i d hd=>by
    obtain⟨y,e1,e2⟩:=h4 i d hd;exact⟨y,e1,e2.kp k⟩⟩
theorem xw.len {x:Value} (h:xw A dss x):aL af .len [22] [x]= .ok (.int .i64 (dss.length:Nat)):=by
 rcases h with⟨rfl,rfl⟩|⟨rfl,rfl⟩|⟨q,off,cp,rfl,-⟩
 ·exact ez XN
 ·kernel_rfl
 ·exact ez XN
theorem xw.at {x:Value} (h:xw A dss x) (hi:dss[i]?=some ds):
 ∃p y,aW af 22 x (.int .i64 i)= .ok (.pointer (some p))∧ai af A.get 111 (.pointer (some p))= .ok y∧L4 A ds y:=by
 rcases h with⟨-,rfl⟩|⟨-,rfl⟩|⟨q,off,cp,rfl,h2⟩
 ·simp at hi
 ·simp at hi
 ·rcases h2 with rfl|⟨h2,t,kd,fz,c,h3,h4⟩
  ·simp at hi
  ·have hlt:=(Zl.1 hi).1;have hb:Zt i dss.length=true:=by rw [ZB];exact hlt
   have hn:mo (.int .i64 i)= .ok i:=rfl;obtain⟨y,e1,e2⟩:=h4 i ds hi;refine⟨⟨q,off+i*1,none⟩,y,?_,?_,e2⟩
   ·unfold aW;simp only [hn,XN,hb,cond_true,YA,R.aw,jd]
   ·have hag:cH (.slice 235)=false:=rfl;unfold ai;simp only [h3,Su,hag,cond_false,qaw,e1]
def ic (A:Mem) (ls:List (List aG)) (y:Value):Prop:=∃(b:Nat) (xs:List Value),aq A 60 1 b (xs.map fun v=>[v]) y∧xs.length=ls.length∧∀(i:Nat) (l:List aG),ls[i]?=some l→∃x,xs[i]?=some x∧dX A l x
theorem Vr:af.bp 52=some (.slice 60):=by kernel_rfl
theorem YU:aV af 60= .ok 1:=by kernel_rfl
theorem XD:cg af 60= .ok (1,[.slice none 0 0]):=by kernel_rfl
theorem Xs:∃i,af.ty.get 60=some i∧0<i.bytes∧i.bytes≤65536:=by
 have h:(af.ty.get 60).map (fun i=>Zt 0 i.bytes&&Zj i.bytes 65536)=some true:=by kernel_rfl
 cases hq:af.ty.get 60 with
 |none=>rw [hq] at h;cases h
 |some i=>
  rw [hq] at h;simp only [Z1,ZQ,ZF,ZB] at h;exact⟨i,rfl,h.1,ZP h.2⟩
variable {ls:List (List aG)}
theorem ic.kp (h:ic A ls y) (k:Kp A A'):ic A' ls y:=by
 obtain⟨b,xs,h1,h2,h3⟩:=h;refine⟨b,xs,h1.same k.1 (k.2 b),h2,fun i l hl=>?_⟩;obtain⟨x,e1,e2⟩:=h3 i l hl;exact⟨x,e1,e2.kp k⟩
theorem ic.len (h:ic A ls y):aL af .len [52] [y]= .ok (.int .i64 (ls.length:Nat)):=by
 obtain⟨b,xs,h1,h2,-⟩:=h;have:=aq.len (tb:=af) h1 Vr;rwa [Zp,h2] at this
theorem ic.at (h:ic A ls y) (hi:ls[i]?=some l):∃p x,aW af 52 y (.int .i64 i)= .ok p∧ai af A.get 60 p= .ok x∧dX A l x:=by
 obtain⟨b,xs,h1,h2,h3⟩:=h;obtain⟨x,e1,e2⟩:=h3 i l hi;have hl:i<(xs.map fun v=>[v]).length:=by rw [Zp];exact(Zl.1 e1).1
 refine⟨_,x,aq.idx h1 Vr YU hl,?_,e2⟩;have:=aq.load (tb:=af) (j:=0) (l:=[x]) (v:=x) h1 P7 rfl (by rw [ZH,e1];rfl) rfl (by omega);rwa [Z8] at this
variable {c:Nat}
theorem Ws {a:Option Addr}:a9 af 52 1 [(0,.slice a m c)]= .ok (aa 60 [.slice a m c],.nO 1 2):=by kernel_rfl
theorem Wr {x:Value} (h:dX A l x):a9 af 52 1 [(0,x)]= .ok (aa 60 [x],.nO 1 2):=by
 obtain⟨b,h⟩:=h;rcases h with⟨rfl,-⟩|⟨_,_,rfl,-⟩<;>exact Ws
def ib (dss:List (List rM)):List (List aG):=((dss.take 6).map qk).filter fun l=>!l.isEmpty
theorem IU (h:l∈ib dss):l≠ []:=by
 unfold ib at h;have:=(qaF.1 h).2;rintro rfl;simp at this
theorem HG {e e':TypeId} {n':Nat} {ls ls':List (List Value)} {x:Value} (h:aq A e n b ls x) (h':aq A e' n' b' ls' x') (h0:ls≠ []) (h0':ls'≠ []) (he:e≠e'):b≠b':=by
 rintro rfl;rcases h with⟨-,h⟩|⟨_,_,-,-,⟨_,h1,-⟩,-⟩
 ·exact h0 h
 ·rcases h' with⟨-,h⟩|⟨_,_,-,-,⟨_,h2,-⟩,-⟩
  ·exact h0' h
  ·rw [h1] at h2;injection h2 with h2;injection h2 with h2;exact he h2
theorem Ix:ak af 29 (pw b 0) 0= .ok (pw b 0):=by kernel_rfl
noncomputable def tU:Code:=qcl.body.getD .skip
noncomputable def oc:Code:=sub tU [1,1,0,1,0,0]
theorem Gd:qcl.body=some (.seq (sub tU [0]) (.seq (sub tU [1,0]) (.seq (.seq (sub tU [1,1,0,0]) (.block 0 (.loop oc))) (.seq (sub tU [1,1,1,0]) (sub tU [1,1,1,1]))))):=by kernel_rfl
theorem KG (h:dss[i]?=some ds) (hi:i<6):ib (dss.take (i+1))=if qk ds=[] then ib (dss.take i) else ib (dss.take i)++[qk ds]:=by
 obtain⟨hl,rfl⟩:=Zl.1 h;unfold ib;rw [qdp,qdp,qby (by omega),qby (by omega),Zs hl,Z3,qbV];split
 ·rename_i h0;simp [h0]
 ·rename_i h0;simp [h0]
theorem CE (dss:List (List rM)):(ib dss).length≤6:=by
 unfold ib;refine ZV (qb3 _ _) ?_;rw [Zp,ZD];omega
theorem Lr {x:Value} {rest:List Value} (h:xw A dss x) (hr:rest.length=7):∃v A',bJ af 21 [.agg ⟨x::rest⟩] A v A'∧ic A' (ib dss) v∧Kp A A':=by
 refine cM (av Tryz.func21) Gd (by rw [Tryz.ntmps21];simp) (by kernel_rfl) (by kernel_rfl) ?_;have kB:=Kp.alloc A (aa 29 (x::rest));have vB:=az A 29 (x::rest);apply W.q
 ·intro M;simp (disch:=omega) only [tU,qcl,Aq,Zf,aj];rfl
 have hB:=h.kp kB;generalize A.alloc (aa 29 (x::rest))=B at kB vB hB;have lx:∀D,Kp B D→ai af D.get 22 (.pointer (some ⟨A.next,0,none⟩))= .ok x:=fun D hD=>(vB.kp hD).ld rfl XN rfl
 apply W.q
 ·intro M;simp (disch:=omega) only [tU,qcl,Aq,Zf];rfl
 apply W.seq;apply W.q
 ·intro M;simp (disch:=omega) only [tU,qcl,Aq,Zf];rfl
 apply W.block;have hmin:min dss.length 6≤dss.length∧min dss.length 6≤6:=⟨qcu _ _,qdv _ _⟩;refine W.up (min dss.length 6) (fun i t D=>Kp B D∧∃b xs y,aq D 60 1 b (xs.map fun v=>[v]) y∧B.next≤b∧(xs=[]→y= .slice none 0 0)∧xs.length=(ib (dss.take i)).length∧(∀(j:Nat) (l:List aG),(ib (dss.take i))[j]?=some l→∃x,xs[j]?=some x∧dX D l x)∧Sl t [(1,.pointer (some ⟨A.next,0,none⟩)),(3,y),(4,.int .i64 i)]) ?_ (Zv _) ⟨Kp.refl _,B.next,[],.slice none 0 0,aq.nil _ _ _ _,Zn _,fun _=>rfl,by simp [ib],fun j l hl=>by simp [ib] at hl,?_⟩
 ·rintro i t D hi ⟨kD,b,xs,y,hS,hb,hy0,hxl,hE,g1,g3,g4,-⟩;have lD:=lx D kD;have hD:=hB.kp kD;have lenD:=hD.len;by_cases hlt:i<min dss.length 6
  ·have h1:i<dss.length:=by omega
   have h2:i<6:=by omega
   have hds:dss[i]?=some dss[i]:=Zi h1;obtain⟨p,z,j1,j2,hz⟩:=hD.at hds;have htk:=KG hds h2;have hll:=CE (dss.take i);generalize dss[i]=ds at*;obtain⟨v,E,⟨g,hg⟩,⟨c,hv⟩,kE⟩:=Lv hz;have hlen:=dX.len ⟨c,hv⟩;by_cases h0:qk ds=[]
   ·have h0l:¬0<(qk ds).length:=by rw [h0];simp
    apply W.bf (g) 20
    ·intro M hM;simp (config:={maxSteps:=4000000}) (disch:=first|decide+kernel|omega|simp only [Wq,Zf]) only [oc,tU,qcl,Aq,Zj,reduceIte,Zf,Zg,g1,g3,g4,Ix,lD,lenD,h1,h2,j1,j2,hg,hlen,h0l,bT,bA];rfl
    rw [if_pos h0] at htk;refine⟨hlt,_,_,rfl,kD.trans kE,b,xs,y,hS.same kE.1 (kE.2 b),hb,hy0,by rw [htk];exact hxl,fun j l hl=>?_,?_⟩
    ·rw [htk] at hl;obtain⟨x',e1,e2⟩:=hE j l hl;exact⟨x',e1,e2.kp kE⟩
    ·simp only [Sq,Zf,Zg,g1,g3]
   ·have h0l:0<(qk ds).length:=ZW.2 h0;obtain⟨ti,t1,t2,t3⟩:=Xs;have hSE:aq E 60 1 b (xs.map fun v=>[v]) y:=hS.same kE.1 (kE.2 b);have hSE':aq (E.alloc (aa 60 [v])) 60 1 b (xs.map fun v=>[v]) y:=hSE.same (by rw [ae];omega) fun h=>aB (by omega)
    have hvs:=aq.di hv;obtain⟨x',F,happ,hs3,hn3,hf3⟩:=aq.append (tb:=af) (st:=52) (xt:=52) hSE' Vr Vr XD t1 t2 t3 (by omega) (by omega) (by rw [Zp];omega) (ay E _) rfl (by
     intro w hw;rw [Z9.1 hw];exact hvs.2)
    rw [ae] at hs3 hn3 hf3;have bs:=Wr ⟨_,hv⟩;have hkD:=kD.1;have hkE:=kE.1;have eJ:∀z,z<E.next→(z=b→y= .slice none 0 0)→F.get z=E.get z:=fun z hz hzb=>by rw [hf3 z hzb (by omega),aB (by omega)]
    have keepE:∀{l:List aG} {x:Value},l≠ []→dX E l x→dX F l x:=by
     rintro l x hl ⟨c',e⟩;refine⟨c',e.same (by omega) fun hlt=>eJ c' hlt fun he=>?_⟩;by_cases hx:xs=[]
     ·exact hy0 hx
     ·exact absurd he.symm (HG hSE e (fun e=>hx (ZZ.1 e)) (fun e=>hl (ZZ.1 e)) (by decide))
    apply W.bf (g) 20
    ·intro M hM;simp (config:={maxSteps:=4000000}) (disch:=first|decide+kernel|omega|simp only [Wq,Zf]) only [oc,tU,qcl,Aq,Zj,reduceIte,Zf,Zg,g1,g3,g4,Ix,lD,lenD,h1,h2,j1,j2,hg,hlen,h0l,bT,bA,bs,happ];rfl
    rw [if_neg h0] at htk;refine⟨hlt,_,_,rfl,⟨by omega,fun z hz=>by rw [eJ z (by omega) (fun e=>by omega),kE.2 z (by omega),kD.2 z hz]⟩,E.next+1,xs++[v],x',by rw [Z3];exact hs3,by omega,fun h=>by simp at h,by rw [htk,Zo,Zo,hxl];rfl,fun j l hl=>?_,?_⟩
    ·rw [htk] at hl;rcases ZS j (ib (dss.take i)).length with hj|hj
     ·rw [ZU hj] at hl;obtain⟨x1,e1,e2⟩:=hE j l hl;exact⟨x1,by rw [ZU (by omega)];exact e1,keepE (IU (ZM hl)) (e2.kp kE)⟩
     ·rw [ZN hj] at hl;cases hq:j-(ib (dss.take i)).length with
      |succ n=>rw [hq] at hl;simp at hl
      |zero=>
       rw [hq] at hl;cases hl;exact⟨v,by rw [ZN (by omega),show j-xs.length=0 by omega];rfl,keepE h0 ⟨c,hv⟩⟩
    ·simp only [Sq,Zf,Zg,g1]
  ·have e:i=min dss.length 6:=by omega
   have hfin:ib (dss.take i)=ib dss:=by
    unfold ib;rw [qdp,e];congr 2;rw [show min 6 (min dss.length 6)=min dss.length 6 by omega];rcases qdB dss.length 6 with h|h
    ·rw [qam h,ZL,qaJ h]
    ·rw [qby h]
   rw [hfin] at hxl hE;have hex:W af oc ⟨t,31,[],D,none⟩ (fun e s'=>∃t',e= .exit 0∧s'=⟨t',31,[],D,none⟩∧Sl t' [(3,y)]):=by
    by_cases h1:i<dss.length
    ·have h2:¬i<6:=by omega
     apply W.run 20
     ·intro M;simp (config:={maxSteps:=4000000}) (disch:=first|decide+kernel|omega|simp only [Wq,Zf]) only [oc,tU,qcl,Aq,Zj,reduceIte,Zf,Zg,g1,g4,Ix,lD,lenD,h1,h2];rfl
     refine⟨_,rfl,rfl,?_⟩;simp only [Sq,Zf,Zg,g3]
    ·apply W.run 20
     ·intro M;simp (config:={maxSteps:=4000000}) (disch:=first|decide+kernel|omega|simp only [Wq,Zf]) only [oc,tU,qcl,Aq,Zj,reduceIte,Zf,Zg,g1,g4,Ix,lD,lenD,h1];rfl
     refine⟨_,rfl,rfl,?_⟩;simp only [Sq,Zf,Zg,g3]
   refine hex.mono ?_;rintro e s' ⟨t',rfl,rfl,f3,-⟩;apply W.q
   ·intro M;simp (disch:=omega) only [tU,qcl,Aq,Zf,f3];rfl
   apply W.run 20
   ·intro M;simp only [tU,qcl,Aq,Zf];rfl
   exact⟨by simp,rfl,_,(by simp only [qcl,Aq,Zf]<;>rfl),⟨b,xs,hS,hxl,hE⟩,kB.trans kD⟩
 ·simp only [Sq,Zf,Zg]
variable {r:Nat}
theorem aq.L6 {e e':TypeId} {k:Kd} {l:List Value} {ls:List (List Value)} {x:Value} (h:aq A e n b ls x) (hv:VB A e' r k l) (he:e≠e') (K:wU r A A'):aq A' e n b ls x:=by
 rcases h with h|⟨k',c,h1,h2,⟨cs,h3,h3'⟩,h4⟩
 ·exact .inl h
 ·refine .inr ⟨k',c,h1,ZJ h2 K.1,⟨cs,?_,h3'⟩,h4⟩;rw [K.2 b h2 (fun e1=>?_)]
  ·exact h3
  ·obtain⟨cs',q,-⟩:=hv.2;rw [←e1,h3] at q;injection q with q;injection q with q;exact he q
theorem eZ (n:Nat):bM (2*n)=n∧ec (2*n)=true:=by
 have h:ec (2*n)=true:=by unfold ec;rw [qbd];show 2*n % 2=0;omega
 refine⟨?_,h⟩;unfold bM;rw [h,cond_true];show 2*n/2=n;omega
theorem HH {e t:TypeId} {ls:List (List Value)} {x:Value} (h:aq A e n b ls x) (hu:tb.bp t=some (.slice e)) (hs:aV tb e= .ok n) (hn:n<65536) (h0:ls=[]→x= .slice none 0 0):
 ∃x',cP tb t x none (some (.int .i64 ls.length)) (some (.int .i64 ls.length))= .ok x'∧aq A e n b ls x'∧(x= .slice none 0 0→x'= .slice none 0 0):=by
 have hb:∀m:Nat,bound (some (.int .i64 m)) 0 m= .ok m:=fun m=>by
  show(bif Zj m m then R.ok m else _)=_;rw [show Zj m m=true by rw [qct];exact Zn _];rfl
 rcases h with⟨rfl,rfl⟩|⟨k,c,rfl,h2,h3,h4,h5⟩
 ·refine⟨.slice none 0 0,?_,aq.nil _ _ _ _,fun _=>rfl⟩;unfold cP;simp only [hu,hs,R.aw];rfl
 ·have hne:ls.length≠0:=fun e=>by
   have:=h0 (Zw.1 e);cases this
  have hc:bM c=ls.length∧(ec c||(dT c n&&Zt 0 (bM c)))=true:=by
   rcases h5 with rfl|⟨rfl,-⟩
   ·obtain⟨q1,q2⟩:=eZ ls.length;exact⟨q1,by rw [q2];rfl⟩
   ·have q:=cz (n:=ls.length) hn;refine⟨q,?_⟩;have e1:dT (gO ls.length n) n=true:=by
     unfold dT;rw [cS,cond_false,qbd];show(2*(ls.length*65536+n)+1)/2 % 65536=n;omega
    rw [cS,e1,q,show Zt 0 ls.length=true by rw [ZB];omega];rfl
  refine⟨.slice (some ⟨b,0,none⟩) ls.length (2*ls.length),?_,.inr ⟨k,_,rfl,h2,h3,h4,.inl rfl⟩,fun h=>by cases h⟩;unfold cP;simp only [hu];rw [hc.1];have hb0:bound none 0 ls.length= .ok 0:=rfl;have hc2:=hc.2;rw [hc.1] at hc2;simp only [hb,R.aw,hb0,hs,hc.2,hc2,cond_true,qcM];rw [show Zr ls.length 0=false by cases hq:Zr ls.length 0 with
   |false=>rfl
   |true=>exact absurd (ZA hq) hne]
  rfl
theorem LK {e t:TypeId} {ls:List (List Value)} {x:Value} (h:aq A e n b ls x) (hu:tb.bp t=some (.slice e)) (hs:aV tb e= .ok n) (hn:n<65536) (h0:ls=[]→x= .slice none 0 0):
 ∃x',cP tb t x none (some (.int .i64 ls.length)) none= .ok x'∧aq A e n b ls x':=by
 rcases h with⟨rfl,rfl⟩|⟨k,c,rfl,h2,h3,h4,h5⟩
 ·refine⟨.slice none 0 0,?_,aq.nil _ _ _ _⟩;unfold cP;simp only [hu,hs,R.aw];rfl
 ·have hne:ls.length≠0:=fun e=>by
   have:=h0 (Zw.1 e);cases this
  have hc:bM c=ls.length∧dT c n=true∧fY c 0=c:=by
   rcases h5 with rfl|⟨rfl,-⟩
   ·obtain⟨q1,q2⟩:=eZ ls.length;refine⟨q1,?_,?_⟩
    ·unfold dT;rw [q2];rfl
    ·unfold fY;rw [q2,q1];rfl
   ·have q:=cz (n:=ls.length) hn;have e0:js (gO ls.length n)=n:=by
     show(2*(ls.length*65536+n)+1)/2 % 65536=n;omega
    refine⟨q,?_,?_⟩
    ·unfold dT;rw [cS,cond_false,e0,qbd]
    ·unfold fY;rw [cS,cond_false,q,e0];rfl
  refine⟨.slice (some ⟨b,0,none⟩) ls.length c,?_,.inr ⟨k,_,rfl,h2,h3,h4,h5⟩⟩;unfold cP;simp only [hu];rw [hc.1];have hb:bound (some (.int .i64 ls.length)) ls.length ls.length= .ok ls.length:=by
   show(bif Zj ls.length ls.length then R.ok ls.length else _)=_;rw [show Zj ls.length ls.length=true by rw [qct];exact Zn _];rfl
  have hb0:bound none 0 ls.length= .ok 0:=rfl;simp only [hb,R.aw,hb0,hs,qcM,hc.2.1,hc.2.2,cond_true];rw [show Zr ls.length 0=false by cases hq:Zr ls.length 0 with
   |false=>rfl
   |true=>exact absurd (ZA hq) hne,qdE]
  rfl
theorem vW (w:List UInt8):∀(ns:List (List UInt8)) (o:Nat),cU (ns++[w]) o=cU ns o++[⟨strOf w,.int .i64 (o+ns.length+1:Nat),o+ns.length⟩]
 | [],o=>rfl
 |n::ns,o=>by
  rw [Z5,cU,vW w ns (o+1),cU,Z5,Zu,show o+1+ns.length=o+(ns.length+1) by omega]
theorem vA (p:Nat):∀(ps:List Nat) (o:Nat),fh (ps++[p]) o=fh ps o++[⟨.int .i64 (o+ps.length+1:Nat),.pointer (some ⟨p,0,none⟩),o+ps.length⟩]
 | [],o=>rfl
 |n::ps,o=>by
  rw [Z5,fh,vA p ps (o+1),fh,Z5,Zu,show o+1+ps.length=o+(ps.length+1) by omega]
variable {mn:Nat} {ns:List (List UInt8)}
theorem FH (h:A.get mn=some (.map (cU ns 0) ns.length)) (hw:w∉ns):
 cI af A 121 (.map (some mn)) (strOf w) (.int .i64 (ns.length+1:Nat))= .ok (A.set mn (.map (cU (ns++[w]) 0) (ns++[w]).length)):=by
 have hk:ew af 9 (strOf w)=true:=by unfold ew;rw [u9];rfl
 have hf:ns.findIdx? (fun n=>decide (w=n))=none:=by
  rw [qcd];intro n hn;simpa using fun e:w=n=>hw (e▸hn)
 unfold cI;simp only [rB,hk,cond_true,h,uy,hf,qcw];rw [vW,ZT,Zo];rfl
variable {p:Nat}
theorem PV {mf:Nat} {ps:List Nat} (h:A.get mf=some (.map (fh ps 0) ps.length)):
 cI af A 79 (.map (some mf)) (.int .i64 (ps.length+1:Nat)) (pw p 0)= .ok (A.set mf (.map (fh (ps++[p]) 0) (ps++[p]).length)):=by
 have hk:ew af 3 (.int .i64 (ps.length+1:Nat))=true:=by unfold ew;rw [u3]
 have hf:ps[ps.length]?=none:=Z7 (Zn _);unfold cI;simp only [FD,hk,cond_true,h,uo ps.length ps 0 0 (Zv _),qaA,hf,qcw];rw [vA,ZT,Zo];rfl
variable {l':List Value}
theorem VB.ne {e e':TypeId} {z z':Nat} {k k':Kd} {l:List Value} (h:VB A e z k l) (h':VB A e' z' k' l') (he:e≠e'):z≠z':=by
 rintro rfl;obtain⟨_,q,-⟩:=h.2;obtain⟨_,q2,-⟩:=h'.2;rw [q] at q2;injection q2 with q2;injection q2 with q2;exact he q2
theorem VB.zZ {e:TypeId} {z:Nat} {k:Kd} {l:List Value} {es:List MapEntry} (h:VB A e z k l) (hm:A.get m=some (.map es c)):z≠m:=by
 rintro rfl;obtain⟨_,q,-⟩:=h.2;rw [q] at hm;cases hm
theorem aq.Yg {e e':TypeId} {z:Nat} {k:Kd} {l:List Value} {ls:List (List Value)} {x:Value} (h:aq A e n b ls x) (h':VB A e' z k l) (he:e'≠e) (h0:ls≠ []):z≠b:=by
 rcases h with⟨-,hh⟩|⟨k',_,-,h1,h2,-⟩
 ·exact absurd hh h0
 ·exact VB.ne h' (⟨h1,h2⟩:VB A e b k' _) he
theorem aq.zZ {e:TypeId} {ls:List (List Value)} {x:Value} {es:List MapEntry} (h:aq A e n b ls x) (hm:A.get m=some (.map es c)) (h0:ls≠ []):m≠b:=by
 rcases h with⟨-,hh⟩|⟨k',_,-,h1,h2,-⟩
 ·exact absurd hh h0
 ·exact(VB.zZ (⟨h1,h2⟩:VB A e b k' _) hm).symm
def jC (w:List UInt8) (t s:Nat):List Value:=[strOf w,.func (.func 65) ⟨[]⟩ ⟨[pV t,pV s]⟩]
def Cm:List UInt8:=[99,114,101,97,116,101]
def Fold (A:Mem) (p ml mn b:Nat) (ns:List (List UInt8)):Prop:=∃x rows,VB A 124 p (.var 4) [.map (some ml),.map (some mn),x,.int .i64 ns.length]∧(ml<A.next∧A.get ml=some (.map [] 0))∧(mn<A.next∧A.get mn=some (.map (cU ns 0) ns.length))∧ml≠mn∧
 aq A 177 2 b rows x∧(ns=[]→x= .slice none 0 0)∧rows.length=ns.length∧∀(i:Nat) (w:List UInt8),ns[i]?=some w→∃t s,rows[i]?=some (jC Cm t s)∧VB A 3 t (.var 1) [.int .i64 (i+1:Nat)]∧VB A 9 s (.var 1) [strOf w]
theorem uh:ak af 124 (pw b 0) 2= .ok (pw b 2):=by kernel_rfl
theorem M6:ak af 124 (pw b 0) 3= .ok (pw b 3):=by kernel_rfl
theorem GF:ak af 177 (pw b o) 1= .ok (pw b (o+1)):=by kernel_rfl
theorem Dt:bO af 177= .ok (.agg ⟨[.string .empty,.nilFunc]⟩):=by kernel_rfl
theorem HW:aV af 177= .ok 2:=by kernel_rfl
theorem XB:cg af 177= .ok (2,[.string .empty,.nilFunc]):=by kernel_rfl
theorem wT:af.bp 122=some (.slice 177):=by kernel_rfl
theorem JB:aV af 122= .ok 1:=by kernel_rfl
theorem Ph:aV af 3= .ok 1:=by kernel_rfl
theorem Xp:∃i,af.ty.get 177=some i∧0<i.bytes∧i.bytes≤65536:=by
 have h:(af.ty.get 177).map (fun i=>Zt 0 i.bytes&&Zj i.bytes 65536)=some true:=by kernel_rfl
 cases hq:af.ty.get 177 with
 |none=>rw [hq] at h;cases h
 |some i=>
  rw [hq] at h;simp only [Z1,ZQ,ZF,ZB] at h;exact⟨i,rfl,h.1,ZP h.2⟩
theorem SU {t s:Nat}:cu af 177 [(0,strOf w),(1,.func (.func 65) ⟨[]⟩ ⟨[pw t 0,pw s 0]⟩)]= .ok (.agg ⟨jC w t s⟩):=by kernel_rfl
theorem S3 {t s:Nat}:a9 af 122 1 [(0,.agg ⟨jC w t s⟩)]= .ok (aa 177 (jC w t s),.nO 1 2):=by kernel_rfl
theorem PJ:∃d,af.bp 128=some d∧cH d=false:=bg (by kernel_rfl)
theorem OX {t s k:Nat} (h:A.get mn=some (.map (cU ns 0) ns.length)) (hw:w∉ns) (ht:VB A 3 t (.var 1) [.int .i64 (ns.length+1:Nat)]) (hs:VB A 9 s (.var 1) [strOf w]):
 bJ af 65 [.map (some mn),pV t,pV s] A (.tuple ⟨[]⟩) (A.set mn (.map (cU (ns++[w]) 0) (ns++[w]).length)):=by
 have l1:ai af A.get 9 (pw s 0)= .ok (strOf w):=hs.ld rfl u9 rfl;have l2:ai af A.get 3 (pw t 0)= .ok (.int .i64 (ns.length+1:Nat)):=ht.ld rfl u3 rfl;have l3:=FH h hw;simp only [pV];refine aP (av Tryz.func65) (c:=Tryz.f65.body.getD .skip) (by kernel_rfl) (by rw [Tryz.ntmps65];simp) (by kernel_rfl) (by kernel_rfl) ?_;apply W.run 60
 ·intro M;simp (disch:=omega) only [Tryz.f65,Aq,Zf,l1,l2,dL,l3,cQ];rfl
 exact⟨by simp,rfl,rfl,by simp only [Tryz.f65,Aq,Zf,l1,l2,dL,l3,cQ]<;>rfl⟩
theorem eA {z:Nat} {o:Ob}:(A.set b o).get z=if z=b then some o else A.get z:=aC _ _ _ _
theorem Hj {ml:Nat} (h:Fold A p ml mn b ns) (hw:w∉ns) (hl:0<w.length∧w.length≤64) (hn:ns.length<1000):
 ∃v A' b',bJ af 26 [pV p,strOf w] A v A'∧v= .tuple ⟨[.int .i64 (ns.length+1:Nat),.int .i64 (0:Nat)]⟩∧Fold A' p ml mn b' (ns++[w])∧A.next≤b'∧A.next≤A'.next∧∀z,z<A.next→z≠p→z≠mn→(ns≠ []→z≠b)→A'.get z=A.get z:=by
 obtain⟨x,rows,hV,⟨hml,hml'⟩,⟨hmn,hmn'⟩,hmm,hS,hx0,hrl,hR⟩:=h;have hpA:=hV.1;have hpm:p≠ml∧p≠mn:=⟨hV.zZ hml',hV.zZ hmn'⟩;have hrn:ns≠ []→rows≠ []:=fun h0 h=>h0 (Zw.1 (by rw [←hrl,h];rfl))
 have kB:=Kp.alloc A (aa 9 [strOf w]);have vB:=az A 9 [strOf w];have nB:(A.alloc (aa 9 [strOf w])).next=A.next+1:=ae _ _
 generalize hB:A.alloc (aa 9 [strOf w])=B at kB vB nB;have VB':=hV.kp kB;have lwB:ai af B.get 9 (.pointer (some ⟨A.next,0,none⟩))= .ok (strOf w):=vB.ld rfl u9 rfl;have km:=fun ih=>X9 (ih:=ih) (A:=B) (w:=w)
 rw [decide_eq_true hl] at km;have lm:ai af B.get 121 (.pointer (some ⟨p,1,none⟩))= .ok (.map (some mn)):=VB'.ld rfl rB rfl;have lk:=A8 (A:=B) (w:=w) (ns:=ns) (c:=ns.length) (by rw [kB.2 _ hmn];exact hmn');have hno:numOf ns w=0:=by
  unfold numOf;rw [qcd.2 (fun n hn=>by simpa using fun e:w=n=>hw (e▸hn))];rfl
 rw [hno] at lk;have lc:ai af B.get 3 (.pointer (some ⟨p,3,none⟩))= .ok (.int .i64 ns.length):=VB'.ld rfl u3 rfl;have a1:aK .add .i64 ((ns.length:Nat):Int) ((1:Nat):Int)= .ok (.int .i64 (ns.length+1:Nat)):=a8 (aR (by omega));obtain⟨C,sC,vC,nC,fC⟩:=aY (tb:=af) (t:=3) (o:=3) (v:=.int .i64 (ns.length+1:Nat)) Ph VB'.2 (by simp) rfl rfl;have lcC:ai af C.get 3 (.pointer (some ⟨p,3,none⟩))= .ok (.int .i64 (ns.length+1:Nat)):=aU u3 rfl vC rfl;have sD:aT af (C.alloc (aa 3 [.int .i64 (0:Nat)])) 3 (.pointer (some ⟨C.next,0,none⟩)) (.int .i64 (ns.length+1:Nat))= .ok (C.alloc (aa 3 [.int .i64 (ns.length+1:Nat)])):=da Ph rfl rfl (by simp);have kD:=Kp.alloc C (aa 3 [.int .i64 (ns.length+1:Nat)]);have vD:=az C 3 [.int .i64 (ns.length+1:Nat)];have nD:(C.alloc (aa 3 [.int .i64 (ns.length+1:Nat)])).next=C.next+1:=ae _ _
 generalize hD:C.alloc (aa 3 [.int .i64 (ns.length+1:Nat)])=D at kD vD nD;have ltD:ai af D.get 3 (.pointer (some ⟨C.next,0,none⟩))= .ok (.int .i64 (ns.length+1:Nat)):=vD.ld rfl u3 rfl;have fBD:∀z,z<B.next→z≠p→D.get z=B.get z:=fun z hz hp=>by rw [kD.2 z (by omega),fC z hp]
 have fAD:∀z,z<A.next→z≠p→D.get z=A.get z:=fun z hz hp=>by rw [fBD z (by omega) hp,kB.2 z hz]
 have VD:VB D 124 p (.var 4) [.map (some ml),.map (some mn),x,.int .i64 (ns.length+1:Nat)]:=⟨by omega,(show dj C 124 p (.var 4) [.map (some ml),.map (some mn),x,.int .i64 (ns.length+1:Nat)] from vC).same (kD.2 _ (by omega))⟩;have vsD:VB D 9 A.next (.var 1) [strOf w]:=⟨by omega,vB.2.same (fBD _ (by omega) (by omega))⟩
 have hr0:rows=[]→x= .slice none 0 0:=fun h=>hx0 (Zw.1 (by rw [←hrl,h];rfl))
 have hSD:aq D 177 2 b rows x:=aq.L6 hS hV (by decide) ⟨by omega,fun z hz hp=>fAD z hz hp⟩;have sE:aT af (D.alloc (aa 177 [.string .empty,.nilFunc])) 177 (.pointer (some ⟨D.next,0,none⟩)) (.agg ⟨jC Cm C.next A.next⟩)= .ok (D.alloc (aa 177 (jC Cm C.next A.next))):=a_ HW rfl rfl (by simp) (by simp [jC,aH,strOf]);have kE:=Kp.alloc D (aa 177 (jC Cm C.next A.next));have vE:=az D 177 (jC Cm C.next A.next);have nE:(D.alloc (aa 177 (jC Cm C.next A.next))).next=D.next+1:=ae _ _
 generalize hE:D.alloc (aa 177 (jC Cm C.next A.next))=E at sE kE vE nE;have VE:=VD.kp kE;have lxE:ai af E.get 122 (.pointer (some ⟨p,2,none⟩))= .ok x:=VE.ld rfl wT rfl;have hSE:=hSD.same kE.1 (kE.2 b);have lenE:=aq.len (tb:=af) hSE wT;obtain⟨x1,hsl,hS1,hx1⟩:=HH (tb:=af) (t:=122) hSE wT HW (by omega) hr0;have lwE:ai af E.get 177 (.pointer (some ⟨D.next,0,none⟩))= .ok (.agg ⟨jC Cm C.next A.next⟩):=by
  obtain⟨d,hd1,hd2⟩:=bg (t:=177) (p:=true) (by kernel_rfl);exact aI hd1 hd2 HW vE.2
 obtain⟨ti,t1,t2,t3⟩:=Xp;have hS1':aq (E.alloc (aa 177 (jC Cm C.next A.next))) 177 2 b rows x1:=hS1.same (by rw [ae];omega) fun h=>aB (by omega)
 obtain⟨x2,F,happ,hs3,hn3,hf3⟩:=aq.append (tb:=af) (st:=122) (xt:=122) hS1' wT wT XB t1 t2 t3 (by omega) (by omega) (by omega) (ay E _) rfl (by simp [jC,aH,strOf]);rw [ae] at hs3 hn3 hf3;have keepF:∀z,z<E.next→(ns≠ []→z≠b)→F.get z=E.get z:=fun z hz hb=>by
  rw [hf3 z (fun e=>by
   by_cases h0:ns=[]
   ·exact hx1 (hx0 h0)
   ·exact absurd e (hb h0)) (by omega),aB (by omega)]
 have hpb:ns≠ []→p≠b:=fun h0=>aq.Yg hS hV (by decide) (hrn h0)
 obtain⟨G,sG,vG,nG,fG⟩:=aY (tb:=af) (t:=122) (o:=2) (v:=x2) JB (VE.2.same (keepF p (by omega) hpb)) (by simp) (aq.di hs3).1 (aq.di hs3).2;have keepG:∀z,z<E.next→z≠p→(ns≠ []→z≠b)→G.get z=E.get z:=fun z hz hp hb=>by rw [fG z hp,keepF z hz hb]
 have hbt:∀z (e:TypeId) (k:Kd) (l:List Value),VB D e z k l→e≠177→(ns≠ []→z≠b):=fun z e k l hz he h0=>aq.Yg hSD hz he (hrn h0)
 have vtG:VB G 3 C.next (.var 1) [.int .i64 (ns.length+1:Nat)]:=⟨by omega,vD.2.same (by rw [keepG _ (by omega) (by omega) (hbt _ _ _ _ vD (by decide)),kE.2 _ (by omega)])⟩
 have vsG:VB G 9 A.next (.var 1) [strOf w]:=⟨by omega,vsD.2.same (by rw [keepG _ (by omega) (by omega) (hbt _ _ _ _ vsD (by decide)),kE.2 _ (by omega)])⟩
 have hbm:∀(m:Nat) (es:List MapEntry) (c:Nat),D.get m=some (.map es c)→(ns≠ []→m≠b):=fun m es c hm h0=>aq.zZ hSD hm (hrn h0)
 have hmnD:D.get mn=some (.map (cU ns 0) ns.length):=by rw [fAD mn hmn (Ne.symm hpm.2)];exact hmn'
 have hmlD:D.get ml=some (.map [] 0):=by rw [fAD ml hml (Ne.symm hpm.1)];exact hml'
 have hmnG:G.get mn=some (.map (cU ns 0) ns.length):=by rw [keepG mn (by omega) (Ne.symm hpm.2) (hbm _ _ _ hmnD),kE.2 _ (by omega)];exact hmnD
 have hmlG:G.get ml=some (.map [] 0):=by rw [keepG ml (by omega) (Ne.symm hpm.1) (hbm _ _ _ hmlD),kE.2 _ (by omega)];exact hmlD
 have lfG:ai af G.get 128 (.pointer (some ⟨D.next,0+1,none⟩))= .ok (.func (.func 65) ⟨[]⟩ ⟨[pV C.next,pV A.next]⟩):=by
  obtain⟨d,hd,ha⟩:=PJ;exact aU hd ha (vE.2.same (keepG D.next (by omega) (by omega) (fun h0 e=>by
   have:=zw hSD (hrn h0);omega))) rfl
 have VG:VB G 124 p (.var 4) [.map (some ml),.map (some mn),x2,.int .i64 (ns.length+1:Nat)]:=⟨by omega,vG⟩;have lmG:ai af G.get 121 (.pointer (some ⟨p,1,none⟩))= .ok (.map (some mn)):=VG.ld rfl rB rfl;obtain⟨g1,h1⟩:=OX (k:=0) hmnG hw vtG vsG;generalize hH:G.set mn (.map (cU (ns++[w]) 0) (ns++[w]).length)=H at h1;have nH:H.next=G.next:=by rw [←hH];exact aO _ _ _
 have fH:∀z,z≠mn→H.get z=G.get z:=fun z hz=>by rw [←hH,eA,if_neg hz]
 have hdo:bJ af 64 [pV p,strOf Cm,.func (.func 65) ⟨[]⟩ ⟨[pV C.next,pV A.next]⟩] D (.int .i64 (0:Nat)) H:=by
  simp only [pV] at*;refine aP (av Tryz.func64) (c:=Tryz.f64.body.getD .skip) (by kernel_rfl) (by rw [Tryz.ntmps64];simp) (by kernel_rfl) (by kernel_rfl) ?_;apply W.bf (g1) 60
  ·intro M hM;simp (config:={maxSteps:=4000000}) (disch:=first|decide+kernel|omega|simp only [Wq,Zf]) only [Tryz.f64,Aq,Zj,reduceIte,Zf,Zg,SU,Dt,aj,hE,sE,aA,aX,qJ,uh,lxE,lenE,hsl,lwE,S3,happ,sG,GF,lfG,lmG,h1,Fq,au []];rfl
  exact⟨by simp,rfl,rfl,by simp only [Tryz.f64,Aq,Zj,reduceIte,Zf,Zg,SU,Dt,aj,hE,sE,aA,aX,qJ,uh,lxE,lenE,hsl,lwE,S3,happ,sG,GF,lfG,lmG,h1,Fq,au []]<;>rfl⟩
 obtain⟨g2,h2⟩:=hdo;have ltH:ai af H.get 3 (.pointer (some ⟨C.next,0,none⟩))= .ok (.int .i64 (ns.length+1:Nat)):=VB.ld (tb:=af) ⟨by have:=vD.1;omega,vD.2.same (by rw [fH C.next (vD.zZ hmnD),keepG C.next (by have:=vD.1;omega) (vD.ne VD (by decide)) (hbt _ _ _ _ vD (by decide)),kE.2 _ vD.1])⟩ rfl u3 rfl;have sn:=dP .i64 (ns.length+1) rfl;refine⟨_,H,E.next+1,?_,rfl,⟨x2,rows++[jC Cm C.next A.next],⟨by omega,?_⟩,⟨by omega,?_⟩,⟨by omega,?_⟩,hmm,?_,fun h=>by simp at h,by rw [Zo,Zo,hrl];rfl,fun i u hu=>?_⟩,by omega,by omega,fun z hz hp hm hb=>?_⟩
 ·simp only [pV] at*;have hcr:∀t:T Value,ev t (.const (.string ⟨#[99,114,101,97,116,101]⟩))= .ok (strOf Cm):=fun t=>rfl
  refine aP (av Tryz.func26) (c:=Tryz.f26.body.getD .skip) (by kernel_rfl) (by rw [Tryz.ntmps26];simp) (by kernel_rfl) (by kernel_rfl) ?_;apply W.bf (g2) 60
  ·intro M hM;simp (config:={maxSteps:=4000000}) (disch:=first|decide+kernel|omega|simp only [Wq,Zf]) only [Tryz.f26,Aq,Zj,reduceIte,Zf,Zg,hB,bk,Gy,aQ,aA,aX,lwB,km,qJ,M6,lm,eV,lk,Zm,Zk,lc,a1,sC,lcC,gv,hD,sD,ltD,ltH,sn,yX,aM,hcr,h2,Fq,au [],au [(0,3)]];rfl
  exact⟨by simp,rfl,rfl,by simp only [Tryz.f26,Aq,Zj,reduceIte,Zf,Zg,hB,bk,Gy,aQ,aA,aX,lwB,km,qJ,M6,lm,eV,lk,Zm,Zk,lc,a1,sC,lcC,gv,hD,sD,ltD,ltH,sn,yX,aM,hcr,h2,Fq,au [],au [(0,3)]]<;>rfl⟩
 ·rw [Zo];exact vG.same (fH p hpm.2)
 ·rw [fH ml hmm];exact hmlG
 ·rw [←hH,eA,if_pos rfl]
 ·have e1:aq G 177 2 (E.next+1) (rows++[jC Cm C.next A.next]) x2:=hs3.same (by omega) fun _=>fG _ (by omega)
  exact e1.same (by omega) fun _=>fH _ (by omega)
 ·rcases ZS i ns.length with hi|hi
  ·rw [ZU hi] at hu;obtain⟨t,s,e1,e2,e3⟩:=hR i u hu;have q1:VB D 3 t (.var 1) [.int .i64 (i+1:Nat)]:=⟨by have:=e2.1;omega,e2.2.same (fAD t e2.1 (e2.ne hV (by decide)))⟩;have q2:VB D 9 s (.var 1) [strOf u]:=⟨by have:=e3.1;omega,e3.2.same (fAD s e3.1 (e3.ne hV (by decide)))⟩;have ht1:∀(e:TypeId) (z:Nat) (k:Kd) (l:List Value),VB D e z k l→e≠177→e≠124→VB H e z k l:=fun e z k l hz he he2=>⟨by have:=hz.1;omega,hz.2.same (by
    rw [fH z (hz.zZ hmnD),keepG z (by have:=hz.1;omega) (hz.ne VD he2) (hbt z e k l hz he),kE.2 _ hz.1])⟩
   exact⟨t,s,by rw [ZU (by omega)];exact e1,ht1 _ _ _ _ q1 (by decide) (by decide),ht1 _ _ _ _ q2 (by decide) (by decide)⟩
  ·rw [ZN hi] at hu;cases hq:i-ns.length with
   |succ n=>rw [hq] at hu;simp at hu
   |zero=>
    rw [hq] at hu;cases hu;have e:i=ns.length:=by omega
    subst e;exact⟨C.next,A.next,by rw [ZN (by omega),hrl,qaz];rfl,⟨by omega,vtG.2.same (fH _ (by omega))⟩,⟨by omega,vsG.2.same (fH _ (by omega))⟩⟩
 ·rw [fH z hm,keepG z (by omega) hp hb,kE.2 z (by omega),fAD z hz hp]
theorem Lg {a:cL} {b:UInt8} {pb pa:Nat} (h1:VB A 5 pb (.var 1) [.int .u8 (b.toNat:Nat)]) (h2:VB A 3 pa (.var 1) [.int .i64 i]) (ht:a.to<i):∃v A',bJ af 246 [.agg ⟨b9 a⟩,pV pb,pV pa] A v A'∧v= .bool (decide (a.byte=b))∧Kp A A':=by
 have k:=Kp.alloc A (aa 172 (b9 a));have v:=az A 172 (b9 a);refine⟨_,A.alloc (aa 172 (b9 a)),?_,rfl,k⟩;have h1:=h1.kp k;have h2:=h2.kp k;generalize hB:A.alloc (aa 172 (b9 a))=B at v h1 h2;have l0:ai af B.get 5 (pw A.next 0)= .ok (.int .u8 (a.byte.toNat:Nat)):=v.ld rfl u5 rfl;have l1:ai af B.get 5 (pw pb 0)= .ok (.int .u8 (b.toNat:Nat)):=h1.ld rfl u5 rfl;have l2:ai af B.get 3 (pw A.next (0+2))= .ok (.int .i64 a.to):=v.ld rfl u3 rfl;have l3:ai af B.get 3 (pw pa 0)= .ok (.int .i64 i):=h2.ld rfl u3 rfl;have hz:¬a.to<0:=by omega
 simp only [pV];by_cases he:a.byte=b
 ·subst he;rw [decide_eq_true rfl];refine aP (av Tryz.func246) (c:=qdQ.body.getD .skip) (by kernel_rfl) (by rw [Tryz.ntmps246];simp) (by kernel_rfl) (by kernel_rfl) ?_;apply W.run 60
  ·intro M;simp (config:={maxSteps:=4000000}) (disch:=first|decide+kernel|omega|simp only [Wq,Zf]) only [qdQ,Aq,Zj,reduceIte,Zf,Zg,aj,hB,kR,jQ,l0,l1,l2,l3,bN,bj,hz,ht,Zv];rfl
  exact⟨by simp,rfl,rfl,by simp only [qdQ,Aq,Zj,reduceIte,Zf,Zg,aj,hB,kR,jQ,l0,l1,l2,l3,bN,bj,hz,ht,Zv]<;>rfl⟩
 ·have hn:¬(a.byte.toNat=b.toNat):=fun h=>he (qbo.1 h)
  rw [decide_eq_false he];refine aP (av Tryz.func246) (c:=qdQ.body.getD .skip) (by kernel_rfl) (by rw [Tryz.ntmps246];simp) (by kernel_rfl) (by kernel_rfl) ?_;apply W.run 60
  ·intro M;simp (config:={maxSteps:=4000000}) (disch:=first|decide+kernel|omega|simp only [Wq,Zf]) only [qdQ,Aq,Zj,reduceIte,Zf,Zg,aj,hB,kR,jQ,l0,l1,l2,l3,bN,bj,hz,ht,hn];rfl
  exact⟨by simp,rfl,rfl,by simp only [qdQ,Aq,Zj,reduceIte,Zf,Zg,aj,hB,kR,jQ,l0,l1,l2,l3,bN,bj,hz,ht,hn]<;>rfl⟩
noncomputable def Ce:Code:=qdy.body.getD .skip
noncomputable def Gi:Code:=sub Ce [1,0,1,0,0]
theorem QP:qdy.body=some (.seq (sub Ce [0]) (.seq (.seq (sub Ce [1,0,0]) (.block 0 (.loop Gi))) (.seq (sub Ce [1,1,0]) (sub Ce [1,1,1])))):=by kernel_rfl
theorem Lo {l:List cL} {x:Value} {pb pa:Nat} {a:cL} (hx:ki A l x) (h1:VB A 5 pb (.var 1) [.int .u8 (a.byte.toNat:Nat)]) (h2:VB A 3 pa (.var 1) [.int .i64 n]) (ht:∀a∈l,a.to<n) (hp:(l.map (·.byte)).Pairwise (·<·)) (hl:l.length≤256) (hi:l[i]?=some a):
 ∃v A',bJ af 245 [x,.func (.func 246) ⟨[]⟩ ⟨[pV pb,pV pa]⟩] A v A'∧v= .int .i64 i∧Kp A A':=by
 refine cM (av Tryz.func245) QP (by rw [Tryz.ntmps245];simp) (by kernel_rfl) (by kernel_rfl) ?_;obtain⟨hil,hia⟩:=Zl.1 hi;have lx:=hx.len;simp only [pV];apply W.q
 ·intro M;simp (disch:=first|decide+kernel|omega) only [Ce,qdy,Aq,Zf];rfl
 apply W.seq;apply W.q
 ·intro M;simp (disch:=first|decide+kernel|omega) only [Ce,qdy,Aq,Zf,lx];rfl
 apply W.block;refine W.up i (fun k t D=>Kp A D∧Sl t [(0,x),(1,.func (.func 246) ⟨[]⟩ ⟨[pw pb 0,pw pa 0]⟩),(7,.int .i64 l.length),(8,.int .i64 k)]) ?_ (Zv _) ⟨Kp.refl _,?_⟩
 ·rintro k t D hk ⟨kD,g0,g1,g7,g8,-⟩;have hkl:k<l.length:=by omega
  have hlk:l[k]?=some l[k]:=Zi hkl;obtain⟨p,q1,q2⟩:=(hx.kp kD).at hlk;obtain⟨v,E,⟨g,hg⟩,rfl,kE⟩:=Lg (h1.kp kD) (h2.kp kD) (ht _ (ZO hkl));simp only [pV] at hg;by_cases he:k=i
  ·subst he;have:l[k]=a:=hia;rw [this] at hg q2;rw [decide_eq_true rfl] at hg;apply W.bf (g) 20
   ·intro M hM;simp (disch:=first|decide+kernel|omega) only [Gi,Ce,qdy,Aq,Zf,g0,g1,g7,g8,hkl,q1,q2,hg];rfl
   exact⟨by simp,rfl,_,(by simp only [qdy,Aq,Zf]<;>rfl),rfl,kD.trans kE⟩
  ·have hlt:=qaK.1 hp k i (by rw [Zp];omega) (by rw [Zp];omega) (by omega);rw [qcj,qcj,hia] at hlt;rw [decide_eq_false (fun h=>by rw [h] at hlt;exact absurd hlt (UInt8.lt_irrefl _))] at hg;apply W.bf (g) 20
   ·intro M hM;simp (disch:=first|decide+kernel|omega) only [Gi,Ce,qdy,Aq,Zf,g0,g1,g7,g8,hkl,q1,q2,hg];rfl
   refine⟨by omega,_,_,rfl,kD.trans kE,?_⟩;simp only [Sq,Zf,Zg,g0,g1,g7]
 ·simp only [Sq,Zf,Zg]
theorem dY.get {s:a6} (h:dY A M y) (hi:M[i]?=some s):
 ∃x p q,aW af 102 y (.int .i64 i)= .ok p∧ak af 164 p 0= .ok q∧ki A s.arcs x∧∀A',Kp A A'→ai af A'.get 164 p= .ok (.agg ⟨cZ x s⟩)∧ai af A'.get 162 q= .ok x:=by
 obtain⟨b,rows,h1,h2,h3⟩:=h;obtain⟨x,e1,e2⟩:=h3 i s hi;have hl:i<rows.length:=(Zl.1 e1).1;obtain⟨d,hd1,hd2⟩:=bg (t:=164) (p:=true) (by kernel_rfl);refine⟨x,_,_,aq.idx h1 fP mH hl,df,e2,fun A' k=>?_⟩;have h1:=h1.same k.1 (k.2 b);have:=aq.load (tb:=af) (j:=0) h1 kA rfl e1 rfl (by omega);exact⟨aq.aI h1 hd1 hd2 mH e1,by rwa [Z8] at this⟩
theorem Fi {k:Value} {s:a6} {a:cL} (h:dY A M y) (hn:M[n]?=some s) (ht:∀a∈s.arcs,a.to<n) (hp:(s.arcs.map (·.byte)).Pairwise (·<·)) (hl:s.arcs.length≤256) (hj:s.arcs[j]?=some a):
 ∃v A',bJ af 235 [.agg ⟨[y,k]⟩,.int .i64 n,.int .u8 (a.byte.toNat:Nat)] A v A'∧v= .tuple ⟨[.int .i64 a.to,.int .u64 a.out,.bool true]⟩∧Kp A A':=by
 have kB:=Kp.alloc A (aa 105 [y,k]);have vB:=az A 105 [y,k];generalize hB:A.alloc (aa 105 [y,k])=B at kB vB;have kC:=Kp.alloc B (aa 3 [.int .i64 n]);have vC:=az B 3 [.int .i64 n];generalize hC:B.alloc (aa 3 [.int .i64 n])=C at kC vC;have kD:=Kp.alloc C (aa 5 [.int .u8 (a.byte.toNat:Nat)]);have vD:=az C 5 [.int .u8 (a.byte.toNat:Nat)];generalize hD:C.alloc (aa 5 [.int .u8 (a.byte.toNat:Nat)])=D at kD vD;have vC:=vC.kp kD;have vB:=vB.kp (kC.trans kD);have kAD:=(kB.trans kC).trans kD;have hS:=h.kp kAD;obtain⟨hnl,-⟩:=Zl.1 hn;have lenD:=hS.len;obtain⟨x,p,q,i1,i2,hx,i4⟩:=hS.get hn;obtain⟨v,E,⟨g,hg⟩,rfl,kE⟩:=Lo hx vD vC ht hp hl hj;obtain⟨r,j1,j2⟩:=(hx.kp kE).at hj;have kF:=Kp.alloc E (aa 172 (b9 a));have vF:=az E 172 (b9 a);have sF:=Fw (D:=E) (a:=a);generalize hF:E.alloc (aa 172 (b9 a))=F at kF vF sF;have ly:∀G,Kp D G→ai af G.get 102 (pw A.next 0)= .ok y:=fun G hG=>(vB.kp hG).ld rfl fP rfl
 have l1:=ly D (Kp.refl _);have l2:=ly E kE;have l3:∀G,Kp D G→ai af G.get 3 (pw B.next 0)= .ok (.int .i64 n):=fun G hG=>(vC.kp hG).ld rfl u3 rfl
 have l4:=l3 D (Kp.refl _);have l5:=l3 E kE;have i5:=(i4 D (Kp.refl _)).2;have i6:=(i4 E kE).2;have o1:ai af F.get 103 (pw E.next (0+1))= .ok (.int .u64 a.out):=vF.ld rfl eK rfl;have o2:ai af F.get 3 (pw E.next (0+2))= .ok (.int .i64 a.to):=vF.ld rfl u3 rfl;have hz:¬n<0:=by omega
 have hz2:¬M.length≤n:=by omega
 have hz3:¬j<0:=by omega
 refine⟨_,F,?_,rfl,kAD.trans (kE.trans kF)⟩;simp only [pV] at hg;refine aP (av Tryz.func235) (c:=Tryz.f235.body.getD .skip) (by kernel_rfl) (by rw [Tryz.ntmps235];simp) (by kernel_rfl) (by kernel_rfl) ?_;apply W.bf (g) 60
 ·intro M hM;simp (config:={maxSteps:=4000000}) (disch:=first|decide+kernel|omega|simp only [Wq,Zf]) only [Tryz.f235,Aq,Zj,reduceIte,Zf,Zg,aj,hB,hC,hD,dm,l1,l2,l4,l5,lenD,bN,bj,hz,hz2,hz3,i1,i2,i5,i6,aM,hg,j1,j2,ph,sF,qK,jQ,o1,o2,Fq,au []];rfl
 exact⟨by simp,rfl,rfl,by simp only [Tryz.f235,Aq,Zj,reduceIte,Zf,Zg,aj,hB,hC,hD,dm,l1,l2,l4,l5,lenD,bN,bj,hz,hz2,hz3,i1,i2,i5,i6,aM,hg,j1,j2,ph,sF,qK,jQ,o1,o2,Fq,au []]<;>rfl⟩
noncomputable def rX:Code:=qb2.body.getD .skip
noncomputable def Gh:Code:=sub rX [1,1,0,1,0,0]
theorem QO:qb2.body=some (.seq (sub rX [0]) (.seq (sub rX [1,0]) (.seq (.seq (sub rX [1,1,0,0]) (.block 0 (.loop Gh))) (.seq (sub rX [1,1,1,0]) (sub rX [1,1,1,1]))))):=by kernel_rfl
theorem Fa {l:List UInt8} {x:Value} (h:wq A b l x):∃v A',bJ af 244 [x] A v A'∧v=x∧A'=A:=by
 refine cM (av Tryz.func244) QO (by rw [Tryz.ntmps244];simp) (by kernel_rfl) (by kernel_rfl) ?_;have hl:=h.2.2;have lx:=h.len;apply W.q
 ·intro M;simp (disch:=first|decide+kernel|omega) only [rX,qb2,Aq,Zf];rfl
 apply W.seq;by_cases h2:l.length<2
 ·apply W.run 20
  ·intro M;simp (disch:=decide+kernel) only [rX,qb2,Aq,Zf,lx,h2];rfl
  exact⟨by simp,rfl,_,(by simp only [qb2,Aq,Zf]<;>rfl),rfl,rfl⟩
 ·apply W.run 20
  ·intro M;simp (disch:=decide+kernel) only [rX,qb2,Aq,Zf,lx,h2];rfl
  apply W.seq;apply W.q
  ·intro M;simp (disch:=omega) only [rX,qb2,Aq,Zf];rfl
  apply W.block;refine W.up (l.length-1) (fun k t D=>D=A∧Sl t [(0,x),(3,.int .i64 (k+1:Nat))]) ?_ (Zv _) ⟨rfl,?_⟩
  ·rintro k t D hk ⟨rfl,g0,g3,-⟩;by_cases hlt:k+1<l.length
   ·obtain⟨i1,i2⟩:=h.at hlt;obtain⟨j1,j2⟩:=h.at (i:=k) (by omega);have hle:=h.le (i:=k) (j:=k+1) (by omega) hlt;have hne:¬(l[k+1].toNat=(l[k]'(by omega)).toNat):=fun e=>by
     have:=qb7.1 (qaK.1 h.2.1 k (k+1) (by omega) hlt (by omega));omega
    have s1:aK .sub .i64 ((k+1:Nat):Int) ((1:Nat):Int)= .ok (.int .i64 (k:Nat)):=bm (by omega) (aR (by omega));apply W.run 20
    ·intro M;simp (config:={maxSteps:=4000000}) (disch:=first|decide+kernel|omega|simp only [Wq,Zf]) only [Gh,rX,qb2,Aq,Zj,reduceIte,Zf,Zg,g0,g3,lx,hlt,s1,i1,i2,j1,j2,hne,Fq,au []];rfl
    refine⟨by omega,_,_,rfl,rfl,?_⟩;simp only [Sq,Zf,Zg,g0]
   ·apply W.run 20
    ·intro M;simp (disch:=decide+kernel) only [Gh,rX,qb2,Aq,Zf,g0,g3,lx,hlt];rfl
    apply W.q
    ·intro M;simp (disch:=omega) only [rX,qb2,Aq,Zf,g0];rfl
    apply W.run 20
    ·intro M;simp only [rX,qb2,Aq,Zf];rfl
    exact⟨by simp,rfl,_,(by simp only [qb2,Aq,Zf]<;>rfl),rfl,rfl⟩
  ·simp only [Sq,Zf,Zg]
noncomputable def qA:Code:=qcg.body.getD .skip
noncomputable def Gf:Code:=sub qA [1,1,0,1,0,0]
theorem QN:qcg.body=some (.seq (sub qA [0]) (.seq (sub qA [1,0]) (.seq (.seq (sub qA [1,1,0,0]) (.block 0 (.loop Gf))) (.seq (sub qA [1,1,1,0]) (.seq (sub qA [1,1,1,1,0]) (sub qA [1,1,1,1,1])))))):=by kernel_rfl
theorem Wp (a:Int):a9 af 48 1 [(0,.int .u8 a)]= .ok (aa 5 [.int .u8 a],.nO 1 2):=by kernel_rfl
theorem zc {k:Value} {s:a6} (h:dY A M y) (hn:M[n]?=some s) (ht:∀a∈s.arcs,a.to<n) (hp:(s.arcs.map (·.byte)).Pairwise (·<·)) (hl:s.arcs.length≤256) (hM:M.length<1000000):
 ∃v A',bJ af 234 [.agg ⟨[y,k]⟩,.int .i64 n] A v A'∧Kp A A'∧∃b,wq A' b (s.arcs.map (·.byte)) v∧A.next≤b:=by
 obtain⟨v,A',h1,h2⟩:∃v A',bJ af 234 [.agg ⟨[y,k]⟩,.int .i64 n] A v A'∧(Kp A A'∧∃b,wq A' b (s.arcs.map (·.byte)) v∧A.next≤b):=by
  refine cM (av Tryz.func234) QN (by rw [Tryz.ntmps234];simp) (by kernel_rfl) (by kernel_rfl) ?_;have kB:=Kp.alloc A (aa 105 [y,k]);have vB:=az A 105 [y,k];apply W.q
  ·intro M;simp (disch:=omega) only [qA,qcg,Aq,Zf,aj];rfl
  have hS:=h.kp kB;generalize A.alloc (aa 105 [y,k])=B at kB vB hS;obtain⟨hnl,-⟩:=Zl.1 hn;have ly:ai af B.get 102 (pw A.next 0)= .ok y:=vB.ld rfl fP rfl;have cm:=hS.len;obtain⟨x,p,q,i1,i2,hx,i4⟩:=hS.get hn;have i5:=(i4 B (Kp.refl _)).2;have lx:=hx.len;have hz:¬n<0:=by omega
  have hz2:¬M.length≤n:=by omega
  obtain⟨ti,ht1,ht2⟩:=XM;apply W.q
  ·intro M;simp (config:={maxSteps:=4000000}) (disch:=first|decide+kernel|omega|simp only [Wq,Zf]) only [qA,qcg,Aq,Zj,reduceIte,Zf,Zg,hz,hz2,dm,ly,cm,bN,bj];rfl
  apply W.seq;apply W.q
  ·intro M;simp (disch:=decide+kernel) only [qA,qcg,Aq,Zf,dm,ly,i1,i2,i5,lx];rfl
  apply W.block;refine W.up s.arcs.length (fun i t D=>(∃b z,nZ D 5 b (ek ((s.arcs.take i).map (·.byte))) z∧B.next≤b∧Kp B D∧Sl t [(1,.int .i64 n),(4,z),(21,x),(22,.int .i64 s.arcs.length),(23,.int .i64 i)])) ?_ (Zv _) ⟨B.next,.slice none 0 0,.inl ⟨rfl,rfl⟩,Zn _,Kp.refl _,?_⟩
  ·rintro i t D hi ⟨b,z,hz,hb,kD,g1,g4,g21,g22,g23,-⟩;by_cases hlt:i<s.arcs.length
   ·have hsi:s.arcs[i]?=some s.arcs[i]:=Zi hlt;have htk:(s.arcs.take (i+1)).map (·.byte)=(s.arcs.take i).map (·.byte)++[(s.arcs[i]).byte]:=by rw [Zs hlt,Z3];rfl
    have hto:=ht _ (ZO hlt);obtain⟨r,q1,q2⟩:=(hx.kp kD).at hsi;generalize s.arcs[i]=a at*;have sE:=Fw (D:=D) (a:=a);have vE:=az D 172 (b9 a);have kE:=Kp.alloc D (aa 172 (b9 a));generalize D.alloc (aa 172 (b9 a))=E at sE vE kE;have l0:ai af E.get 5 (pw D.next 0)= .ok (.int .u8 (a.byte.toNat:Nat)):=vE.ld rfl u5 rfl;have l2:ai af E.get 3 (pw D.next (0+2))= .ok (.int .i64 a.to):=vE.ld rfl u3 rfl;have kF:=Kp.alloc E (aa 5 [.int .u8 (a.byte.toNat:Nat)]);have hzF:=hz.same (kE.trans kF).1 ((kE.trans kF).2 b);obtain⟨z',G,happ,hs3,hn3,hf3⟩:=hzF.append (tb:=af) (st:=48) (xt:=48) XK XK XP ht1 (by omega) (by omega) (by unfold ek;simp;omega) (ay E _) rfl;rw [ae] at hs3 hn3 hf3;apply W.run 20
    ·intro M;simp (config:={maxSteps:=4000000}) (disch:=first|decide+kernel|omega|simp only [Wq,Zf]) only [Gf,qA,qcg,Aq,Zj,reduceIte,Zf,Zg,g1,g4,g21,g22,g23,hlt,q1,q2,ph,aj,sE,kR,jQ,l0,l2,bN,bj,Zv,hto,Wp,happ];rfl
    have n1:=kD.1;have n2:=kE.1;refine⟨hlt,_,_,rfl,E.next+1,z',?_,by omega,⟨by omega,fun w hw=>by rw [hf3 w (by omega) (by omega),(kE.trans kF).2 w (by omega),kD.2 w hw]⟩,?_⟩
    ·rw [htk];unfold ek;rw [Z3];exact hs3
    ·simp only [Sq,Zf,Zg,g1,g21,g22]
   ·have e:i=s.arcs.length:=by omega
    subst e;rw [ZL] at hz;have hR:wq D b (s.arcs.map (·.byte)) z:=⟨hz,hp,by rw [Zp];exact hl⟩;obtain⟨E,⟨e1,h1⟩,kE⟩:=O9 hR;obtain⟨v,F,⟨e2,h2⟩,rfl,rfl⟩:=Fa (hR.kp kE);apply W.run 20
    ·intro M;simp (disch:=decide+kernel) only [Gf,qA,qcg,Aq,Zf,g22,g23];rfl
    apply W.qG (e1)
    ·intro M hM;simp (disch:=omega) only [qA,qcg,Aq,Zf,g4,h1];rfl
    apply W.qG (e2)
    ·intro M hM;simp (disch:=omega) only [qA,qcg,Aq,Zf,g4,h2];rfl
    apply W.run 20
    ·intro M;simp only [qA,qcg,Aq,Zf];rfl
    exact⟨by simp,rfl,_,(by simp only [qcg,Aq,Zf]<;>rfl),kB.trans (kD.trans kE),b,hR.kp kE,by have:=kB.1;omega⟩
  ·simp only [Sq,Zf,Zg]
 exact⟨v,A',h1,h2⟩
end Go.Proofs.YtggndfefpbmaeaaGreatDoor.sto
namespace Go.Am
section
variable {tb:bL}
variable {t:T Value} {n:Nat} {A A':Mem} {v:Value}
theorem W.yY {f:Operand} {ps:Array Tmp} {a b:Code} {d:List Nat} {K:Ex→St→Prop} {fid:FuncId} {first capt:List Value} {r:eY} {e:Ex}
 (hf:ev t f= .ok (.func (.func fid) ⟨first⟩ ⟨capt⟩))
 (hc:bJ tb fid (first++[.func (.yield (A.next+1)) ⟨[]⟩ ⟨[]⟩]++capt) ((A.alloc .defd).alloc (.loop (ig t n ps.toList a b A.next))) v A')
 (hr:A'.get (A.next+1)=some (.loop r)) (hst:r.state≠ .busy) (hp:(r.pending=none∧e= .nrm)∨(r.pending=some .ret∧e= .ret))
 (k:K e ⟨t,n,A.next::d,A'.set (A.next+1) (.loop {r with state:=.exhausted}),none⟩):W tb (.rangeFunc f ps a b) ⟨t,n,d,A,none⟩ K:=by
 obtain⟨g,hg⟩:=hc;refine⟨_,_,⟨g+1,fun m=>?_⟩,k⟩;rw [show m+(g+1)=(m+g)+1 by omega,jO];have h1:=hg (m+g) (by omega);unfold fM;simp only [hf,R.aw];have hn:(A.alloc .defd).next=A.next+1:=ae _ _
 rw [hn];have hcal:∀g':Nat→Option Ob,iL tb g' (.func (.func fid) ⟨first⟩ ⟨capt⟩) [.func (.yield (A.next+1)) ⟨[]⟩ ⟨[]⟩]= .ok (.fn fid (first++[.func (.yield (A.next+1)) ⟨[]⟩ ⟨[]⟩]++capt)):=fun _=>rfl
 rw [hcal,R.aw];unfold ig at h1;rw [h1,R.aw];simp only [hr];rcases hp with⟨hp,rfl⟩|⟨hp,rfl⟩
 all_goals
  simp only [hp];cases hs:r.state with
  |busy=>exact absurd hs hst
  |_=>rfl
variable {k:Nat}
theorem W.YT {c:Code} {ro:Option Nat} {K:Ex→St→Prop} (N:Nat) (P:Nat→T Value→Mem→List Nat→Prop)
 (hb:∀k t A d,k≤N→P k t A d→W tb c ⟨t,n,d,A,ro⟩ fun e s'=>match e with
  | .nrm=>k<N∧∃t' A' d',s'=⟨t',n,d',A',ro⟩∧P (k+1) t' A' d'
  |e=>K e s') {d:List Nat} (hk:k≤N) (hp:P k t A d):W tb (.loop c) ⟨t,n,d,A,ro⟩ K:=by
 have main:∀j k t A d,k+j=N→P k t A d→W tb (.loop c) ⟨t,n,d,A,ro⟩ K:=by
  intro j
  induction j with
  |zero=>
   intro k t A d hk hp;refine W.round ((hb k t A d (by omega) hp).mono fun e s' h=>?_);cases e with
   |nrm=>exact absurd h.1 (by omega)
   |_=>exact h
  |succ j ih=>
   intro k t A d hk hp;refine W.round ((hb k t A d (by omega) hp).mono fun e s' h=>?_);cases e with
   |nrm=>
    obtain⟨_,t',A',d',rfl,h'⟩:=h;exact ih (k+1) t' A' d' (by omega) h'
   |_=>exact h
 exact main (N-k) k t A d (by omega) hp
theorem Bq {l:Nat} {args:List Value} {r:eY} {Q:Mem→Prop} (hl:A.get l=some (.loop r)) (ht:setArgs r.n r.params args r.tmps= .ok t)
 (h:W tb r.assign ⟨t,r.n,[],A,some l⟩ fun e s1=>e= .nrm∧∃r1,s1.m.get l=some (.loop r1)∧r1.state= .ready∧W tb r.body ⟨s1.t,s1.n,s1.d,s1.m.set l (.loop {r1 with state:=.busy}),s1.ro⟩ fun e s2=>e= .ret∧s2.d=[]∧∃r2,s2.m.get l=some (.loop r2)∧Q (s2.m.set l (.loop {r2 with state:=.done,pending:=some .ret}))):
 ∃A',(∃g,∀M,g≤M→bc tb (exec tb M) (.round l args) A= .ok (.val (.bool false) A'))∧Q A':=by
 obtain⟨e,s1,⟨f1,h1⟩,rfl,r1,hr1,hst1,e2,s2,⟨f2,h2⟩,rfl,hd,r2,hr2,hQ⟩:=h;refine⟨_,⟨f1+f2,fun M hM=>?_⟩,hQ⟩;show ng (exec tb M) l args A=_;unfold ng;have e1:=h1 (M-f1);rw [qbf (by omega)] at e1;have e2:=h2 (M-f2);rw [qbf (by omega)] at e2;simp only [hl,ht,R.aw,e1,hr1,hst1,e2,hd,hr2]
theorem eP:∀(ds:List Nat) (A:Mem),ds.Nodup→(∀d∈ds,A.get d=some .defd)→∃A',fc ds A= .ok A'∧A'.next=A.next∧∀z,z∉ds→A'.get z=A.get z
 | [],A,_,_=>⟨A,rfl,rfl,fun _ _=>rfl⟩
 |d::ds,A,hn,h=>by
  obtain⟨h1,h2⟩:=qb5.1 hn;obtain⟨A',e1,e2,e3⟩:=eP ds (A.set d .dead) h2 fun x hx=>by rw [aC,if_neg (by rintro rfl;exact h1 hx)];exact h x (Zx _ hx)
  refine⟨A',?_,by rw [e2];exact aO _ _ _,fun z hz=>?_⟩
  ·show(match A.get d with|some .defd=>fc ds (A.set d .dead)|_=>.no 240)=_;rw [h d Zy];exact e1
  ·rw [ZC,not_or] at hz;rw [e3 z hz.2,aC,if_neg hz.1]
end
end Go.Am
namespace Go.Proofs.YtggndfefpbmaeaaGreatDoor.sto
open Go.Am Go.Mdl Go.Sto
def rJ (a:cL):Value:=.agg ⟨[.int .i64 a.to,.int .u64 a.out]⟩
theorem SY {m n:Int}:cu af 305 [(0,.int .i64 m),(1,.int .u64 n)]= .ok (.agg ⟨[.int .i64 m,.int .u64 n]⟩):=by kernel_rfl
variable {A:Mem} {y:Value} {n:Nat}
theorem zh {k:Value}:bJ af 210 [.agg ⟨[y,k]⟩,.int .i64 n] A (.func (.func 233) ⟨[]⟩ ⟨[pV A.next,pV (A.next+1)]⟩) ((A.alloc (aa 105 [y,k])).alloc (aa 3 [.int .i64 n])):=by
 have e:=ae A (aa 105 [y,k]);simp only [pV];refine aP (av Tryz.func210) (c:=Tryz.f210.body.getD .skip) (by kernel_rfl) (by rw [Tryz.ntmps210];simp) (by kernel_rfl) (by kernel_rfl) ?_;apply W.run 60
 ·intro M;simp (disch:=omega) only [Tryz.f210,Aq,Zf,aj,dc,e,bU,aM];rfl
 exact⟨by simp,rfl,rfl,by simp only [Tryz.f210,Aq,Zf,aj,dc,e,bU,aM]<;>rfl⟩
def Mh (B:Mem) (ab lp:Nat) (s:a6) (Inv:Nat→Mem→Prop):Prop:=∀(j:Nat) (a:cL) (D:Mem),s.arcs[j]?=some a→Inv j D→B.next≤D.next→(∀z,z<B.next→z≠ab→z≠lp→D.get z=B.get z)→
 ∃E,(∃g,∀M,g≤M→bc af (exec af M) (.round lp [.int .u8 (a.byte.toNat:Nat),rJ a]) D= .ok (.val (.bool true) E))∧Inv (j+1) E∧D.next≤E.next∧∀z,z<D.next→z≠ab→z≠lp→E.get z=D.get z
noncomputable def Cd:Code:=qb1.body.getD .skip
noncomputable def tV:Code:=sub Cd [1,0,0]
theorem Ic:qb1.body=some (.seq (sub Cd [0]) (.block 0 (.loop tV))):=by kernel_rfl
variable {B:Mem} {M:List a6}
theorem Fk {k:Value} {q ab lp:Nat} {s:a6} {Inv:Nat→Mem→Prop} (h:dY A M y) (hn:M[n]?=some s) (ht:∀a∈s.arcs,a.to<n) (hp:(s.arcs.map (·.byte)).Pairwise (·<·)) (hl:s.arcs.length≤256) (hM:M.length<1000000)
 (hB:Kp A B) (v1:VB B 105 q (.var 2) [y,k]) (v2:VB B 3 (q+1) (.var 1) [.int .i64 n]) (hq:ab≠q∧ab≠q+1∧lp≠q∧lp≠q+1∧A.next≤ab∧A.next≤lp∧ab<B.next∧lp<B.next)
 (hK:∀j D E,Inv j D→Kp D E→Inv j E) (hc:Mh B ab lp s Inv) (hI:Inv 0 B):
 ∃v C,bJ af 233 [.func (.yield lp) ⟨[]⟩ ⟨[]⟩,pV q,pV (q+1)] B v C∧Inv s.arcs.length C∧B.next≤C.next∧∀z,z<B.next→z≠ab→z≠lp→C.get z=B.get z:=by
 obtain⟨p1,p2,p3,p4,p5,p6,p7,p8⟩:=hq;refine cM (av Tryz.func233) Ic (by rw [Tryz.ntmps233];simp) (by kernel_rfl) (by kernel_rfl) ?_;obtain⟨d,hd1,hd2⟩:=bg (t:=105) (p:=true) (by kernel_rfl);have ld1:∀D:Mem,D.get q=B.get q→ai af D.get 105 (pw q 0)= .ok (.agg ⟨[y,k]⟩):=fun D e=>aI hd1 hd2 (l:=[y,k]) dz (v1.2.same e)
 have ld2:∀D:Mem,D.get (q+1)=B.get (q+1)→ai af D.get 3 (pw (q+1) 0)= .ok (.int .i64 n):=fun D e=>aU u3 rfl (v2.2.same e) rfl
 have a1:=ld1 B rfl;have a2:=ld2 B rfl;obtain⟨x,C,⟨g,hg⟩,kC,b,hR,hb⟩:=zc (h.kp hB) hn ht hp hl hM (k:=k);have lx:=hR.len;rw [Zp] at lx;simp only [pV];apply W.qG (g)
 ·intro M hM;simp (disch:=first|decide+kernel|omega) only [Cd,qb1,Aq,Zf,a1,a2,hg,lx];rfl
 apply W.block;refine W.up s.arcs.length (fun j t D=>Inv j D∧B.next≤D.next∧(∀z,z<B.next→z≠ab→z≠lp→D.get z=B.get z)∧wq D b (s.arcs.map (·.byte)) x∧Sl t [(0,.func (.yield lp) ⟨[]⟩ ⟨[]⟩),(1,pw q 0),(2,pw (q+1) 0),(11,x),(12,.int .i64 s.arcs.length),(13,.int .i64 j)]) ?_ (Zv _) ⟨hK _ _ _ hI kC,kC.1,fun z hz _ _=>kC.2 z hz,hR,?_⟩
 ·rintro j t D hj ⟨hI,hn2,hf,hR,g0,g1,g2,g11,g12,g13,-⟩;by_cases hlt:j<s.arcs.length
  ·have hsj:s.arcs[j]?=some s.arcs[j]:=Zi hlt;obtain⟨i1,i2⟩:=hR.at (i:=j) (by rw [Zp];exact hlt);rw [qcj] at i2;have kAD:Kp A D:=⟨by have:=hB.1;omega,fun z hz=>by rw [hf z (by have:=hB.1;omega) (by omega) (by omega),hB.2 z hz]⟩;obtain⟨v,E,⟨g,hg⟩,rfl,kE⟩:=Fi (k:=k) (h.kp kAD) hn ht hp hl hsj;generalize s.arcs[j]=a at*;have nE:=kE.1;obtain⟨F,⟨gy,hy⟩,hI2,nF,fF⟩:=hc j a E hsj (hK _ _ _ hI kE) (by omega) (fun z hz h1 h2=>by rw [kE.2 z (by omega),hf z hz h1 h2]);have b1:=ld1 D (hf q v1.1 (by omega) (by omega));have b2:=ld2 D (hf (q+1) v2.1 (by omega) (by omega));have bd:=SY (m:=(a.to:Int)) (n:=(a.out:Int));unfold rJ at hy;apply W.bf (g+gy) 20
   ·intro M hM;simp (disch:=first|decide+kernel|omega) only [tV,Cd,qb1,Aq,Zf,g0,g1,g2,g11,g12,g13,hlt,i1,i2,b1,b2,hg,Zm,Zk,bd,hy];rfl
   refine⟨hlt,_,_,rfl,hI2,by omega,fun z hz h1 h2=>by rw [fF z (by omega) h1 h2,kE.2 z (by omega),hf z hz h1 h2],⟨(hR.kp kE).1.same nF fun hlt=>fF b hlt (by omega) (by omega),hR.2⟩,?_⟩;simp only [Sq,Zf,Zg,g0,g1,g2,g11,g12]
  ·have e:j=s.arcs.length:=by omega
   subst e;apply W.run 20
   ·intro M;simp (disch:=decide+kernel) only [tV,Cd,qb1,Aq,Zf,g12,g13];rfl
   exact⟨by simp,rfl,_,(by simp only [qb1,Aq,Zf]<;>rfl),hI,hn2,hf⟩
 ·simp only [Sq,Zf,Zg]
section
variable {T:Type} (o:a6→T) (w:T→T→Nat→T) (z:T)
def jx (acc:List T) (s:a6) (j:Nat):T:=(s.arcs.take j).foldl (fun x a=>w x (acc.getD a.to z) a.out) (o s)
def dq (M:List a6):List T:=M.foldl (fun acc s=>acc++[jx o w z acc s s.arcs.length]) []
theorem J3 (M:List a6) (s:a6):dq o w z (M++[s])=dq o w z M++[jx o w z (dq o w z M) s s.arcs.length]:=by unfold dq;rw [qa8];rfl
theorem lR (M:List a6):(dq o w z M).length=M.length:=by
 have:∀(l:List a6) (acc:List T),(l.foldl (fun acc s=>acc++[jx o w z acc s s.arcs.length]) acc).length=acc.length+l.length:=by
  intro l
  induction l with
  |nil=>intro acc;rfl
  |cons s l ih=>intro acc;rw [qax,ih,Zo,Zu,Zu,ZG];omega
 unfold dq;rw [this];simp
variable {j:Nat}
theorem pL {acc:List T} {s:a6} {a:cL} (h:s.arcs[j]?=some a):jx o w z acc s (j+1)=w (jx o w z acc s j) (acc.getD a.to z) a.out:=by
 obtain⟨hj,rfl⟩:=Zl.1 h;unfold jx;rw [Zs hj,qa8];rfl
variable {i:Nat}
theorem Aw {s:a6} (h:M[i]?=some s):dq o w z (M.take (i+1))=dq o w z (M.take i)++[jx o w z (dq o w z (M.take i)) s s.arcs.length]:=by
 obtain⟨hi,rfl⟩:=Zl.1 h;rw [Zs hi,J3]
def jZ (M:List a6) (i:Nat):List T:=dq o w z (M.take i)++Z4 (M.length-i) z
theorem s9 (h:i≤M.length):(jZ o w z M i).length=M.length:=by unfold jZ;rw [Zo,lR,ZD,qb4];omega
variable {k:Nat}
theorem Jl (h:i≤M.length) (hk:k<i) (v:T):((jZ o w z M i).set i v)[k]?=some ((dq o w z (M.take i)).getD k z):=by
 have hl:=lR o w z (M.take i);rw [ZD,qam h] at hl;rw [qaj,if_neg (by omega)];unfold jZ;rw [ZU (by omega),Zi (by omega),qab,Zi (by omega)];rfl
theorem Br {s:a6} (h:M[i]?=some s):(jZ o w z M i).set i (jx o w z (dq o w z (M.take i)) s s.arcs.length)=jZ o w z M (i+1):=by
 have hi:=(Zl.1 h).1;have hl:=lR o w z (M.take i);rw [ZD,qam (by omega)] at hl;unfold jZ;rw [Aw o w z h,List.set_append_right _ _ (by omega),hl,qaz,show M.length-i=(M.length-(i+1))+1 by omega,List.replicate_succ,List.set_cons_zero,qah];rfl
end
theorem y6 (l:List Value):∀n,rf l n=(Z4 n l).flatten
 |0=>rfl
 |n+1=>by
  show l++rf l n=_;rw [y6 l n,List.replicate_succ,qaO]
def lY (v:Int):List Value:=[.int .i64 v]
def tF (v:Int):Value:=.int .i64 v
def zI:Int:=0
theorem LU:af.bp 300=some (.slice 3):=by kernel_rfl
theorem Sj:aV af 300= .ok 1:=by kernel_rfl
theorem P6:aV af 3= .ok 1:=by kernel_rfl
theorem Ye (h:n≤1000000):eT af 300 (.int .i64 (n:Nat)) (.int .i64 (n:Nat))= .ok (aa 3 ((Z4 n zI).map lY).flatten,.nO n (2*n)):=by
 have h1:((af.ty.get 3).map fun i=>i.bytes)=some 8:=by kernel_rfl
 have z3:cg af 3= .ok (1,lY zI):=by kernel_rfl
 have e:mo (.int .i64 (n:Nat))= .ok n:=rfl;cases hq:af.ty.get 3 with
 |none=>rw [hq] at h1;cases h1
 |some i=>
  rw [hq] at h1;have h2:i.bytes=8:=by simpa using h1
  have hb:(Zj n n&&Zj n 1048576&&Zj i.bytes 1048576)=true:=by
   rw [h2];simp;omega
  unfold eT;simp only [LU,e,R.aw,z3,hq,hb,cond_true,y6,List.map_replicate]
variable {b i:Nat}
theorem IT {vs:List Int} {x:Value} (h:aq A 3 1 b (vs.map lY) x) (hi:i<vs.length):aW af 300 x (.int .i64 i)= .ok (pw b (i*1)):=aq.idx h LU P6 (by rw [Zp];exact hi)
theorem UP {vs:List Int} {v:Int} {x:Value} (h:aq A 3 1 b (vs.map lY) x) (hi:vs[i]?=some v):ai af A.get 3 (pw b (i*1))= .ok (tF v):=by
 have:=aq.load (tb:=af) (i:=i) (j:=0) h u3 rfl (by rw [ZH,hi];rfl) rfl (by omega);rwa [Z8] at this
theorem Xl {vs:List Int} {v:Int} {x:Value} (h:aq A 3 1 b (vs.map lY) x) (hi:i<vs.length):∃A',aT af A 3 (pw b (i*1)) (tF v)= .ok A'∧aq A' 3 1 b ((vs.set i v).map lY) x∧A'.next=A.next∧∀y,y≠b→A'.get y=A.get y:=by
 have hm:(vs.map lY)[i]?=some (lY vs[i]):=by rw [ZH,Zi hi];rfl
 obtain⟨A',h1,h2,h3,h4⟩:=aq.field (tb:=af) (t:=3) (i:=i) (j:=0) (v:=tF v) h P6 hm (by omega) rfl rfl;refine⟨A',by rwa [Z8] at h1,?_,h3,h4⟩;rw [qda];exact h2
structure dM where
 n:Nat
 fits:Bool
 any:Bool
def bS (m:dM):List Value:=[.int .u64 m.n,.bool m.fits,.bool m.any]
def kL (m:dM):Value:=.agg ⟨bS m⟩
def zG:dM:=⟨0,false,false⟩
theorem LV:af.bp 306=some (.slice 259):=by kernel_rfl
theorem Sk:aV af 306= .ok 1:=by kernel_rfl
theorem wO:aV af 259= .ok 3:=by kernel_rfl
theorem G9 (m:dM):∀v∈bS m,aH v=true:=by simp [bS,aH]
theorem Yd (h:n≤1000000):eT af 306 (.int .i64 (n:Nat)) (.int .i64 (n:Nat))= .ok (aa 259 ((Z4 n zG).map bS).flatten,.nO n (2*n)):=by
 have h1:((af.ty.get 259).map fun i=>i.bytes)=some 24:=by kernel_rfl
 have z3:cg af 259= .ok (3,bS zG):=by kernel_rfl
 have e:mo (.int .i64 (n:Nat))= .ok n:=rfl;cases hq:af.ty.get 259 with
 |none=>rw [hq] at h1;cases h1
 |some i=>
  rw [hq] at h1;have h2:i.bytes=24:=by simpa using h1
  have hb:(Zj n n&&Zj n 1048576&&Zj i.bytes 1048576)=true:=by
   rw [h2];simp;omega
  unfold eT;simp only [LV,e,R.aw,z3,hq,hb,cond_true,y6,List.map_replicate]
theorem IS {vs:List dM} {x:Value} (h:aq A 259 3 b (vs.map bS) x) (hi:i<vs.length):aW af 306 x (.int .i64 i)= .ok (pw b (i*3)):=aq.idx h LV wO (by rw [Zp];exact hi)
theorem UO {vs:List dM} {v:dM} {x:Value} (h:aq A 259 3 b (vs.map bS) x) (hi:vs[i]?=some v):ai af A.get 259 (pw b (i*3))= .ok (kL v):=by
 obtain⟨d,hd1,hd2⟩:=bg (t:=259) (p:=true) (by kernel_rfl);exact aq.aI h hd1 hd2 wO (by rw [ZH,hi];rfl)
theorem Xk {vs:List dM} {v:dM} {x:Value} (h:aq A 259 3 b (vs.map bS) x) (hi:i<vs.length):∃A',aT af A 259 (pw b (i*3)) (kL v)= .ok A'∧aq A' 259 3 b ((vs.set i v).map bS) x∧A'.next=A.next∧∀y,y≠b→A'.get y=A.get y:=by
 obtain⟨A',h1,h2,h3,h4⟩:=aq.store (tb:=af) (t:=259) (i:=i) (l:=bS v) h wO (by omega) (by rw [Zp];exact hi) rfl (G9 v);refine⟨A',h1,?_,h3,h4⟩;rw [qda];exact h2
def gI (ns:List Nat):List UInt8:=ns.flatMap fun n=>p9 n++[32]
def qu (a:cL):List Nat:=[a.byte.toNat,a.out,a.to]
def vY (s:a6):List Nat:=s.out::s.arcs.flatMap qu
def kz (s:a6):List UInt8:=(if s.fin then [33] else [])++gI (vY s)
theorem Oj {a:Nat} (ha:a<18446744073709551616) (hb:b<18446744073709551616) (h:p9 a=p9 b):a=b:=by
 have h1:=xV 13 a (by omega);have h2:=xV 13 b (by omega);unfold p9 at h;rw [←h1,←h2,h]
theorem JG:∀{x y r q:List UInt8},(∀c∈x,48≤c.toNat)→(∀c∈y,48≤c.toNat)→x++32::r=y++32::q→x=y∧r=q
 | [],[],_,_,_,_,h=>⟨rfl,by simpa using h⟩
 | [],c::y,_,_,_,hy,h=>by
  have:=hy c Zy;simp only [qac,Z5,Z2] at h;rw [←h.1] at this;exact absurd this (by decide)
 |c::x,[],_,_,hx,_,h=>by
  have:=hx c Zy;simp only [qac,Z5,Z2] at h;rw [h.1] at this;exact absurd this (by decide)
 |c::x,d::y,r,q,hx,hy,h=>by
  simp only [Z5,Z2] at h;obtain⟨h1,h2⟩:=JG (fun e he=>hx e (Zx _ he)) (fun e he=>hy e (Zx _ he)) h.2;exact⟨by rw [h.1,h1],h2⟩
theorem JN:∀{l m:List Nat},(∀n∈l,n<18446744073709551616)→(∀n∈m,n<18446744073709551616)→gI l=gI m→l=m
 | [],[],_,_,_=>rfl
 | [],n::m,_,_,h=>by simp [gI] at h
 |n::l,[],_,_,h=>by simp [gI] at h
 |n::l,k::m,hl,hm,h=>by
  simp only [gI,qaa,qah,List.singleton_append] at h;obtain⟨h1,h2⟩:=JG (r_ 13 n) (r_ 13 k) h;rw [Oj (hl n Zy) (hm k Zy) h1,JN (fun e he=>hl e (Zx _ he)) (fun e he=>hm e (Zx _ he)) h2]
theorem DI:∀{l m:List cL},l.flatMap qu=m.flatMap qu→l=m
 | [],[],_=>rfl
 | [],a::m,h=>by simp [qu] at h
 |a::l,[],h=>by simp [qu] at h
 |a::l,b::m,h=>by
  simp only [qaa,qu,Z5,qac,Z2] at h;obtain⟨h1,h2,h3,h4⟩:=h;rw [DI h4];obtain⟨a1,a2,a3⟩:=a;obtain⟨b1,b2,b3⟩:=b;simp only at h1 h2 h3;rw [qbo.1 h1,h2,h3]
def Fit (s:a6):Prop:=s.out<18446744073709551616∧∀a∈s.arcs,a.out<18446744073709551616∧a.to<1000000
theorem Ei {s:a6} (h:Fit s):∀n∈vY s,n<18446744073709551616:=by
 intro n hn;rcases ZC.1 hn with rfl|hn
 ·exact h.1
 ·obtain⟨a,ha,hn⟩:=qbx.1 hn;have:=h.2 a ha;have:=a.byte.toNat_lt;simp only [qu,ZC,Z0,or_false] at hn;omega
theorem Iq (k n:Nat):nU (k+1) n≠ []:=by
 unfold nU;split<;>simp
theorem key_inj {s u:a6} (hs:Fit s) (hu:Fit u) (h:kz s=kz u):s=u:=by
 have hd:∀v:a6,∃c w,gI (vY v)=c::w∧48≤c.toNat:=fun v=>by
  unfold gI vY;rw [qaa];unfold p9;cases hq:nU 13 v.out with
  |nil=>exact absurd hq (Iq _ _)
  |cons c w=>exact⟨c,_,rfl,r_ 13 v.out c (by rw [hq];exact Zy)⟩
 unfold kz at h;have hf:s.fin=u.fin∧gI (vY s)=gI (vY u):=by
  obtain⟨c1,w1,e1,g1⟩:=hd s;obtain⟨c2,w2,e2,g2⟩:=hd u;cases h1:s.fin<;>cases h2:u.fin<;>simp only [h1,h2,if_true,Zz,if_false,qac,Z5,Z2,true_and] at h
  ·exact⟨rfl,h⟩
  ·rw [e1] at h;simp only [Z2] at h;rw [h.1] at g1;exact absurd g1 (by decide)
  ·rw [e2] at h;simp only [Z2] at h;rw [←h.1] at g2;exact absurd g2 (by decide)
  ·exact⟨rfl,h⟩
 have hn:=JN (Ei hs) (Ei hu) hf.2;unfold vY at hn;simp only [Z2] at hn;obtain⟨f1,o1,a1⟩:=s;obtain⟨f2,o2,a2⟩:=u;simp only at hf hn;rw [hf.1,hn.1,DI hn.2]
theorem FC (l m:List Nat):gI (l++m)=gI l++gI m:=by unfold gI;rw [qaH]
theorem tE:∀l:List Nat,(gI l).length≤14*l.length
 | []=>Zn _
 |n::l=>by
  have h1:=tE l;have h2:=xU 13 n;unfold gI at h1⊢;rw [qaa,Zo,Zo,Zu,Zu,ZG];have e:(p9 n).length=(nU 13 n).length:=rfl;rw [e];omega
variable {bb:Nat} {bs:List UInt8}
theorem tc {D:Mem} (h:Bd bb b bs D) (hn:n<18446744073709551616) (hl:bs.length<1000000):∃v D' b',bJ af 219 [.int .u64 n,pw bb 0] D v D'∧Bd bb b' (bs++gI [n]) D'∧BM bb b D b' D':=by
 have hk:=fun ih A=>X6 (ih:=ih) (A:=A) hn
 have hlen:=xU 13 n;obtain⟨v1,D1,b1,⟨g1,h1⟩,q1,k1⟩:=Pb (cs:=p9 n) h (ZW.2 (Iq 12 n)) (by unfold p9;omega);obtain⟨D2,b2,⟨g2,h2⟩,q2,k2⟩:=Bv (c:=32) q1 (by rw [Zo];unfold p9;omega);have h2':∀M,g2≤M→bc af (exec af M) (.fn 221 [pw bb 0,.int .u8 (32:Nat)]) D1= .ok (.val .nilIface D2):=h2;refine⟨cQ,D2,b2,?_,by rw [qah] at q2;simpa [gI] using q2,k1.trans k2⟩;refine aP (av Tryz.func219) (c:=Tryz.f219.body.getD .skip) (by kernel_rfl) (by rw [Tryz.ntmps219];simp) (by kernel_rfl) (by kernel_rfl) ?_;apply W.bf (g1+g2) 60
 ·intro M hM;simp (disch:=omega) only [Tryz.f219,Aq,Zf,hk,h1,h2'];rfl
 exact⟨by simp,rfl,rfl,by simp only [Tryz.f219,Aq,Zf,hk,h1,h2']<;>rfl⟩
noncomputable def lW:Code:=qbF.body.getD .skip
noncomputable def Gb:Code:=sub lW [1,1,1,1,1,0,1,0,0]
theorem QD:qbF.body=some (.seq (sub lW [0]) (.seq (sub lW [1,0]) (.seq (sub lW [1,1,0]) (.seq (sub lW [1,1,1,0]) (.seq (sub lW [1,1,1,1,0]) (.seq (.seq (sub lW [1,1,1,1,1,0,0]) (.block 0 (.loop Gb))) (.seq (sub lW [1,1,1,1,1,1,0]) (sub lW [1,1,1,1,1,1,1])))))))):=by kernel_rfl
theorem SD:bO af 225= .ok (.agg ⟨[.pointer none,.slice none 0 0]⟩):=by kernel_rfl
theorem TY (A:Mem):Bd A.next (A.next+1) [] (A.alloc (aa 225 [.pointer none,.slice none 0 0])):=
 ⟨.pointer none,_,fe A 225 _,.inl rfl,.inl ⟨rfl,rfl⟩,by omega,by rw [ae];omega⟩
theorem Bd.al {D:Mem} (h:Bd bb b bs D) (o:Ob):Bd bb b bs (D.alloc o):=by
 obtain⟨pa,x,h1,h2,h3,h4,h5⟩:=h;exact⟨pa,x,h1.same (aB (by omega)),h2,h3.same (by rw [ae];omega) fun hb=>aB (by omega),h4,by rw [ae];omega⟩
theorem N0 {s:a6} {a:cL} (h:s.arcs[i]?=some a):gI ((s.arcs.take (i+1)).flatMap qu)=gI ((s.arcs.take i).flatMap qu)++gI [a.byte.toNat]++gI [a.out]++gI [a.to]:=by
 obtain⟨hi,rfl⟩:=Zl.1 h;rw [Zs hi,qaH,FC];simp [gI,qu]
theorem Ok (s:a6) (i:Nat):((s.arcs.take i).flatMap qu).length≤3*s.arcs.length:=by
 have:∀l:List cL,(l.flatMap qu).length=3*l.length:=by
  intro l
  induction l with
  |nil=>rfl
  |cons a l ih=>rw [qaa,Zo,ih,Zu];simp only [qu,Zu,ZG];omega
 rw [this,ZD];omega
def wM (s:a6) (i:Nat):List UInt8:=(if s.fin then [33] else [])++gI [s.out]++gI ((s.arcs.take i).flatMap qu)
theorem Ow (s:a6) (i:Nat) (hl:s.arcs.length≤256):(wM s i).length≤20000:=by
 have h1:=tE ((s.arcs.take i).flatMap qu);have h2:=tE [s.out];have h3:=Ok s i;have h4:(if s.fin then [33] else []:List UInt8).length≤1:=by split<;>simp
 unfold wM;rw [Zo,Zo];simp only [Zu,ZG] at h2;omega
theorem Jg (s:a6) (i:Nat):wM s i≠ []:=by
 unfold wM;simp [gI]
theorem Bd.lt {D:Mem} (h:Bd bb b bs D) (h0:bs≠ []):b<D.next:=by
 obtain⟨pa,x,-,-,h3,-,-⟩:=h;rcases h3 with⟨-,e⟩|⟨-,-,h,-⟩
 ·exact absurd (by simpa [ek] using e) h0
 ·exact h
def z4 (p bb:Nat) (C:Mem) (bs:List UInt8) (F:Mem):Prop:=∃b,Bd bb b bs F∧C.next≤b∧C.next≤F.next∧∀y,y<C.next→y≠bb→F.get y=C.get y
variable {p b':Nat} {C F:Mem}
theorem z4.grow {G:Mem} (h1:C.next≤b) (h2:C.next≤F.next) (h3:∀y,y<C.next→y≠bb→F.get y=C.get y) (hB:Bd bb b' bs G) (k:BM bb b F b' G):z4 p bb C bs G:=
 ⟨b',hB,by have:=k.r;omega,by have:=k.n;omega,fun y hy hb=>by rw [k.g y (by omega) hb (by omega),h3 y hy hb]⟩
theorem RY {s:a6} {x:Value} (hx:ki A s.arcs x) (hf:Fit s) (hl:s.arcs.length≤256):∃v A',bJ af 188 [.agg ⟨cZ x s⟩] A v A'∧v=strOf (kz s)∧Kp A A':=by
 refine cM (av Tryz.func188) QD (by rw [Tryz.ntmps188];simp) (by kernel_rfl) (by kernel_rfl) ?_;have kB:=Kp.alloc A (aa 164 (cZ x s));have vB:=az A 164 (cZ x s);apply W.q
 ·intro M;simp (disch:=omega) only [lW,qbF,Aq,Zf,aj];rfl
 have nB:(A.alloc (aa 164 (cZ x s))).next=A.next+1:=ae _ _
 generalize A.alloc (aa 164 (cZ x s))=B at kB vB nB;have bC:=TY B;have kC:=Kp.alloc B (aa 225 [.pointer none,.slice none 0 0]);have nC:(B.alloc (aa 225 [.pointer none,.slice none 0 0])).next=B.next+1:=ae _ _
 apply W.q
 ·intro M;simp (disch:=omega) only [lW,qbF,Aq,Zf,SD,aj];rfl
 generalize B.alloc (aa 225 [.pointer none,.slice none 0 0])=C at bC kC nC;have toK:∀bs D,z4 A.next B.next C bs D→Kp B D:=fun bs D h=>by
  obtain⟨b,-,-,h2,h3⟩:=h;exact⟨by omega,fun z hz=>by rw [h3 z (by omega) (by omega),kC.2 z hz]⟩
 have a1:ai af C.get 4 (.pointer (some ⟨A.next,0+1,none⟩))= .ok (.bool s.fin):=(vB.kp kC).ld rfl u4 rfl;have rC:z4 A.next B.next C [] C:=⟨B.next+1,bC,by omega,Zn _,fun _ _ _=>rfl⟩
 apply W.q
 ·intro M;simp (disch:=omega) only [lW,qbF,Aq,Zf,aM];rfl
 apply W.seq;refine W.to (n:=38) (fun t D=>z4 A.next B.next C (if s.fin then [33] else []) D∧Sl t [(1,.pointer (some ⟨A.next,0,none⟩)),(3,.pointer (some ⟨B.next,0,none⟩)),(4,.func (.func 219) ⟨[]⟩ ⟨[.pointer (some ⟨B.next,0,none⟩)]⟩)]) ?_ ?_
 ·cases hfin:s.fin with
  |true=>
   rw [hfin] at a1;obtain⟨D2,b2,⟨g2,h2⟩,q2,k2⟩:=Bv (c:=33) bC (by simp);have h2':∀M,g2≤M→bc af (exec af M) (.fn 221 [.pointer (some ⟨B.next,0,none⟩),.int .u8 (33:Nat)]) C= .ok (.val .nilIface D2):=h2;apply W.bf (g2) 20
   ·intro M hM;simp (disch:=omega) only [lW,qbF,Aq,Zf,cR,a1,h2'];rfl
   refine⟨rfl,_,_,rfl,z4.grow (by omega) (Zn _) (fun _ _ _=>rfl) q2 k2,?_⟩;simp only [Sq,Zf,Zg]
  |false=>
   rw [hfin] at a1;apply W.run 20
   ·intro M;simp (disch:=omega) only [lW,qbF,Aq,Zf,cR,a1];rfl
   refine⟨rfl,_,_,rfl,rC,?_⟩;simp only [Sq,Zf,Zg]
 ·rintro t D ⟨rD,g1,g3,g4,-⟩;show W af _ _ _;have kD:=toK _ _ rD;have a2:ai af D.get 103 (.pointer (some ⟨A.next,0+2,none⟩))= .ok (.int .u64 s.out):=(vB.kp kD).ld rfl eK rfl;obtain⟨b,bD,m1,m2,m3⟩:=rD;obtain⟨v1,E,b1,⟨e1,h1⟩,bE,kE⟩:=tc bD hf.1 (by split<;>simp);have rE:z4 A.next B.next C (wM s 0) E:=z4.grow m1 m2 m3 (by unfold wM;rw [qaQ];simpa [gI] using bE) kE
  apply W.qG (e1)
  ·intro M hM;simp (disch:=omega) only [lW,qbF,Aq,Zf,g1,g4,iu,a2,h1];rfl
  have kE:=toK _ _ rE;have lx:=(hx.kp (kB.trans kE)).len;have aE:ai af E.get 162 (.pointer (some ⟨A.next,0,none⟩))= .ok x:=(vB.kp kE).ld rfl kA rfl;apply W.seq;apply W.q
  ·intro M;simp (disch:=decide+kernel) only [lW,qbF,Aq,Zf,g1,df,aE,lx];rfl
  apply W.block;refine W.up s.arcs.length (fun i t F=>z4 A.next B.next C (wM s i) F∧Sl t [(3,.pointer (some ⟨B.next,0,none⟩)),(4,.func (.func 219) ⟨[]⟩ ⟨[.pointer (some ⟨B.next,0,none⟩)]⟩),(16,x),(17,.int .i64 s.arcs.length),(18,.int .i64 i)]) ?_ (Zv _) ⟨rE,?_⟩
  ·rintro i t F hi ⟨rF,g3,g4,g16,g17,g18,-⟩;have kF:=toK _ _ rF;obtain⟨b,bF,m1,m2,m3⟩:=rF;have hpl:=Ow s i hl;by_cases hlt:i<s.arcs.length
   ·have hsi:s.arcs[i]?=some s.arcs[i]:=Zi hlt;have hfa:=hf.2 _ (ZO hlt);have hkt:wM s (i+1)=wM s i++gI [(s.arcs[i]).byte.toNat]++gI [(s.arcs[i]).out]++gI [(s.arcs[i]).to]:=by
     unfold wM;rw [N0 hsi];simp only [qah]
    obtain⟨q,q1,q2⟩:=(hx.kp (kB.trans kF)).at hsi;generalize s.arcs[i]=a at*;have sG:=Fw (D:=F) (a:=a);have vG:=az F 172 (b9 a);have kG:=Kp.alloc F (aa 172 (b9 a));have nG:(F.alloc (aa 172 (b9 a))).next=F.next+1:=ae _ _
    have bG:=bF.al (aa 172 (b9 a));generalize F.alloc (aa 172 (b9 a))=G at sG vG kG nG bG;have hbF:b<F.next:=bF.lt (Jg s i)
    have hB:a.byte.toNat<18446744073709551616:=by have:=a.byte.toNat_lt;omega
    have hT:a.to<18446744073709551616:=by omega
    have cv1:=bx (tb:=af) (s:=5) (d:=103) (k:=.u8) (n:=a.byte.toNat) (by rw [u5];rfl) eK (cJ hB);have cv2:=bx (tb:=af) (s:=3) (d:=103) (k:=.i64) (n:=a.to) (by rw [u3];rfl) eK (cJ hT);have t1:=tE [a.byte.toNat];have t2:=tE [a.out];simp only [Zu,ZG] at t1 t2;obtain⟨v1,G1,b1,⟨e1,h1⟩,r1,k1⟩:=tc bG hB (by omega);obtain⟨v2,G2,b2,⟨e2,h2⟩,r2,k2⟩:=tc r1 hfa.1 (by rw [Zo];omega);obtain⟨v3,G3,b3,⟨e3,h3⟩,r3,k3⟩:=tc r2 hT (by rw [Zo,Zo];omega);have n1:=k1.n;have n2:=k2.n;have i1:=k1.r;have i2:=k2.r;have V1:VB G1 172 F.next (.var 3) (b9 a):=⟨by omega,vG.2.same (k1.g _ (by omega) (by omega) (by omega))⟩
    have V2:VB G2 172 F.next (.var 3) (b9 a):=⟨by omega,V1.2.same (k2.g _ (by omega) (by omega) (by omega))⟩
    have l0:ai af G.get 5 (.pointer (some ⟨F.next,0,none⟩))= .ok (.int .u8 (a.byte.toNat:Nat)):=vG.ld rfl u5 rfl;have l1:ai af G1.get 103 (.pointer (some ⟨F.next,0+1,none⟩))= .ok (.int .u64 a.out):=V1.ld rfl eK rfl;have l2:ai af G2.get 3 (.pointer (some ⟨F.next,0+2,none⟩))= .ok (.int .i64 a.to):=V2.ld rfl u3 rfl;apply W.bf (e1+e2+e3) 20
    ·intro M hM;simp (disch:=first|decide+kernel|omega) only [Gb,lW,qbF,Aq,Zf,g3,g4,g16,g17,g18,hlt,q1,q2,ph,aj,sG,kR,qK,jQ,l0,l1,l2,cv1,cv2,h1,h2,h3];rfl
    refine⟨hlt,_,_,rfl,?_,?_⟩
    ·rw [hkt];exact z4.grow (F:=G) (b:=b) m1 (by omega) (fun y hy hb=>by rw [kG.2 y (by omega),m3 y hy hb]) r3 ((k1.trans k2).trans k3)
    ·simp only [Sq,Zf,Zg,g3,g4,g16,g17]
   ·have e:i=s.arcs.length:=by omega
    subst e;have hk:wM s s.arcs.length=kz s:=by
     unfold wM kz vY;rw [ZL,qah,←FC];rfl
    have h0:=ZW.2 (Jg s s.arcs.length);rw [hk] at bF hpl h0;obtain⟨G,⟨e1,h1⟩,nG,fG⟩:=E9 bF h0 (by omega);apply W.run 20
    ·intro M;simp (disch:=decide+kernel) only [Gb,lW,qbF,Aq,Zf,g17,g18];rfl
    apply W.qG (e1)
    ·intro M hM;simp (disch:=omega) only [lW,qbF,Aq,Zf,g3,h1];rfl
    apply W.run 20
    ·intro M;simp only [lW,qbF,Aq,Zf];rfl
    exact⟨by simp,rfl,_,(by simp only [qbF,Aq,Zf]<;>rfl),rfl,by show A.next≤G.next;omega,fun z hz=>by show G.get z=A.get z;rw [fG z (by omega),m3 z (by omega) (by omega),kC.2 z (by omega),kB.2 z hz]⟩
  ·simp only [Sq,Zf,Zg,g3,g4]
theorem HR:af.bp 120=some (.map 9 3):=by kernel_rfl
theorem M_:ak af 208 (pw b 0) 0= .ok (pw b 0):=by kernel_rfl
theorem Na:ak af 208 (pw b 0) 1= .ok (pw b 1):=by kernel_rfl
def mg:List (List UInt8)→Nat→List MapEntry
 | [],_=>[]
 |n::ns,o=>⟨strOf n,.int .i64 o,o⟩::mg ns (o+1)
theorem yy (w:List UInt8):∀(ns:List (List UInt8)) (o j:Nat),w∉ns→findF (strOf w) (mg ns o) j=some none
 | [],o,j,_=>rfl
 |n::ns,o,j,h=>by
  rw [ZC,not_or] at h;unfold mg findF;simp only [IY,h.1,decide_false];exact yy w ns (o+1) (j+1) h.2
theorem yx (w:List UInt8):∀(ns:List (List UInt8)) (o:Nat),mg (ns++[w]) o=mg ns o++[⟨strOf w,.int .i64 (o+ns.length:Nat),o+ns.length⟩]
 | [],o=>rfl
 |n::ns,o=>by
  rw [Z5,mg,yx w ns (o+1),mg,Z5,Zu,show o+1+ns.length=o+(ns.length+1) by omega]
variable {mk:Nat} {w:List UInt8}
theorem Oa {ks:List (List UInt8)} (h:A.get mk=some (.map (mg ks 0) ks.length)) (hw:w∉ks):
 fS af A.get 120 (.map (some mk)) (strOf w) true= .ok (.tuple ⟨[.int .i64 (0:Nat),.bool false]⟩):=by
 have hk:ew af 9 (strOf w)=true:=by unfold ew;rw [u9];rfl
 unfold fS;simp only [HR,hk,cond_true,iU,h,R.aw,yy w ks 0 0 hw,gv]
theorem Sv {ks:List (List UInt8)} (h:A.get mk=some (.map (mg ks 0) ks.length)) (hw:w∉ks):
 cI af A 120 (.map (some mk)) (strOf w) (.int .i64 (ks.length:Nat))= .ok (A.set mk (.map (mg (ks++[w]) 0) (ks++[w]).length)):=by
 have hk:ew af 9 (strOf w)=true:=by unfold ew;rw [u9];rfl
 unfold cI;simp only [HR,hk,cond_true,h,yy w ks 0 0 hw];rw [yx,ZT,Zo];rfl
def P_ (C:Mem) (p mk:Nat) (ks:List (List UInt8)) (F:Mem):Prop:=∃b x rows,VB F 208 p (.var 2) [x,.map (some mk)]∧F.get mk=some (.map (mg ks 0) ks.length)∧aq F 164 3 b rows x∧rows.length=ks.length∧(C.next≤b∧(ks=[]→x= .slice none 0 0)∧p≠mk∧p<C.next∧mk<C.next)∧C.next≤F.next∧∀z,z<C.next→z≠p→z≠mk→F.get z=C.get z
theorem P_.kp {G:Mem} {ks:List (List UInt8)} (h:P_ C p mk ks F) (k:Kp F G):P_ C p mk ks G:=by
 obtain⟨b,x,rows,h1,h2,h3,h4,h5,h6,h7⟩:=h;exact⟨b,x,rows,h1.kp k,by rw [k.2 _ (by omega)];exact h2,h3.same k.1 (k.2 b),h4,h5,ZV h6 k.1,fun z hz a b=>by rw [k.2 z (by omega),h7 z hz a b]⟩
theorem HJ {x:Value} {s:a6} (h:ki A s.arcs x):∀v∈cZ x s,aH v=true:=by
 obtain⟨b,h⟩:=h;intro v hv;simp only [cZ,ZC,Z0,or_false] at hv;rcases hv with rfl|rfl|rfl
 ·exact(aq.di h).2
 ·rfl
 ·rfl
noncomputable def jG:Code:=qbY.body.getD .skip
theorem Qn:qbY.body=some (.seq (sub jG [0]) (.seq (sub jG [1,0]) (.seq (sub jG [1,1,0]) (.seq (sub jG [1,1,1,0]) (.seq (sub jG [1,1,1,1,0]) (sub jG [1,1,1,1,1])))))):=by kernel_rfl
theorem T2:sub jG [1,1,1,0]= .seq (sub jG [1,1,1,0,0]) (sub jG [1,1,1,0,1]):=by kernel_rfl
theorem T3:sub jG [1,1,1,0,1]= .cond (.tmp 20) (.seq (sub jG [1,1,1,0,1,0,0]) (.seq (sub jG [1,1,1,0,1,0,1,0]) (sub jG [1,1,1,0,1,0,1,1]))) (sub jG [1,1,1,0,1,1]):=by kernel_rfl
theorem Hl {ks:List (List UInt8)} {s:a6} {x:Value} (hR:P_ C p mk ks A) (hx:ki A s.arcs x) (hf:Fit s) (hl:s.arcs.length≤256) (hn:kz s∉ks) (hk:ks.length<1000000):
 ∃v A',bJ af 135 [pw p 0,.agg ⟨cZ x s⟩] A v A'∧v= .int .i64 (ks.length:Nat)∧P_ C p mk (ks++[kz s]) A':=by
 refine cM (av Tryz.func135) Qn (by rw [Tryz.ntmps135];simp) (by kernel_rfl) (by kernel_rfl) ?_;have kB:=Kp.alloc A (aa 164 (cZ x s));have vB:=az A 164 (cZ x s);have h1c:=HJ hx;obtain⟨d,hd1,hd2⟩:=bg (t:=164) (p:=true) (by kernel_rfl);apply W.q
 ·intro M;simp (disch:=omega) only [jG,qbY,Aq,Zf,aj];rfl
 have nB:(A.alloc (aa 164 (cZ x s))).next=A.next+1:=ae _ _
 generalize A.alloc (aa 164 (cZ x s))=B at kB vB nB;have lB:ai af B.get 164 (pw A.next 0)= .ok (.agg ⟨cZ x s⟩):=aI hd1 hd2 (l:=cZ x s) mH vB.2;obtain⟨v,D,⟨g1,h1⟩,rfl,kD⟩:=RY (hx.kp kB) hf hl;have hRD:=(hR.kp kB).kp kD;have vD:=vB.kp kD;have lD:ai af D.get 164 (pw A.next 0)= .ok (.agg ⟨cZ x s⟩):=aI hd1 hd2 (l:=cZ x s) mH vD.2;have nD:=kD.1;obtain⟨b,y,rows,q1,q2,q3,q4,⟨q5,q6,q7,q8,q9⟩,q10,q11⟩:=id hRD;have lm:ai af D.get 120 (pw p 1)= .ok (.map (some mk)):=q1.ld rfl HR rfl;have ly:ai af D.get 102 (pw p 0)= .ok y:=q1.ld rfl fP rfl;have lx:=aq.len (tb:=af) (t:=102) q3 fP;rw [q4] at lx;have lk:=Oa q2 hn;have up:=Sv q2 hn;generalize hE:D.set mk (.map (mg (ks++[kz s]) 0) (ks++[kz s]).length)=E at up;have nE:E.next=D.next:=by rw [←hE];exact aO _ _ _
 have fE:∀z,z≠mk→E.get z=D.get z:=fun z hz=>by rw [←hE,eA,if_neg hz]
 have gE:E.get mk=some (.map (mg (ks++[kz s]) 0) (ks++[kz s]).length):=by rw [←hE,eA,if_pos rfl]
 have hmD:∀(e:TypeId) (z:Nat) (k:Kd) (l:List Value),VB D e z k l→z≠mk:=fun e z k l h=>h.zZ q2
 have lE:ai af E.get 164 (pw A.next 0)= .ok (.agg ⟨cZ x s⟩):=aI hd1 hd2 (l:=cZ x s) mH (vD.2.same (fE _ (hmD _ _ _ _ vD)));have qE:=q1.2.same (fE p q7);have lyE:ai af E.get 102 (pw p 0)= .ok y:=aU fP rfl qE rfl;obtain⟨ti,t1,t2,t3⟩:=Tw;have q3E:aq (E.alloc (aa 164 (cZ x s))) 164 3 b rows y:=q3.same (by rw [ae];omega) fun h=>by rw [aB (by omega),fE b (by omega)]
 obtain⟨y',F,happ,hs3,hn3,hf3⟩:=aq.append (tb:=af) (st:=102) (xt:=102) q3E fP fP TD t1 t2 t3 (by omega) (by omega) (by omega) (ay E _) rfl h1c;rw [ae] at hs3 hn3 hf3;have hpb:p=b→y= .slice none 0 0:=fun e=>by omega
 have qF:dj F 208 p (.var 2) [y,.map (some mk)]:=qE.same (by rw [hf3 p hpb (by omega),aB (by omega)]);obtain⟨G,sG,vG,nG,fG⟩:=aY (tb:=af) (o:=0) (v:=y') Jz qF (by simp) (aq.di hs3).1 (aq.di hs3).2;apply W.qG (g1)
 ·intro M hM;simp (disch:=omega) only [jG,qbY,Aq,Zf,lB,h1];rfl
 apply W.q
 ·intro M;simp (disch:=omega) only [jG,qbY,Aq,Zf,aA,aX,Na,lm,eV,lk,Zm,Zk];rfl
 rw [T2];apply W.seq;apply W.q
 ·intro M;simp (disch:=omega) only [jG,qbY,Aq,Zf];rfl
 rw [T3];refine W.cond (p:=true) rfl (fun _=>?_) (fun h=>by cases h);apply W.q
 ·intro M;simp (disch:=decide+kernel) only [jG,qbY,Aq,Zf,aA,aX,M_,ly,lx];rfl
 apply W.q
 ·intro M;simp (disch:=omega) only [jG,qbY,Aq,Zf,aA,aX,Na,lm,dL,up];rfl
 apply W.run 20
 ·intro M;simp (config:={maxSteps:=4000000}) (disch:=first|decide+kernel|omega|simp only [Wq,Zf]) only [jG,qbY,Aq,Zj,reduceIte,Zf,Zg,aA,aX,M_,lyE,lE,S1,happ,sG,Fq,au []];rfl
 apply W.q
 ·intro M;simp (disch:=omega) only [jG,qbY,Aq,Zf];rfl
 apply W.run 20
 ·intro M;simp only [jG,qbY,Aq,Zf];rfl
 have hmF:mk≠p:=Ne.symm q7;have hFk:∀z,z<D.next→z≠p→z≠mk→z≠b→G.get z=D.get z:=fun z h1 h2 h3 h4=>by rw [fG z h2,hf3 z (fun e=>absurd e h4) (by omega),aB (by omega),fE z h3]
 have hbk:mk≠b:=by omega
 refine⟨by simp,rfl,_,(by simp only [qbY,Aq,Zf]<;>rfl),rfl,⟨E.next+1,y',_,⟨by show p<G.next;omega,vG⟩,?_,hs3.same (by show F.next≤G.next;omega) (fun _=>fG _ (by omega)),by rw [Zo,Zo,q4];rfl,⟨by omega,fun h=>by simp at h,q7,q8,q9⟩,by show C.next≤G.next;omega,fun z hz h2 h3=>?_⟩⟩
 ·show G.get mk=_;rw [fG mk hmF,hf3 mk (fun e=>absurd e hbk) (by omega),aB (by omega),gE]
 ·show G.get z=_;rw [hFk z (by omega) h2 h3 (by omega),q11 z hz h2 h3]
end Go.Proofs.YtggndfefpbmaeaaGreatDoor.sto
end
