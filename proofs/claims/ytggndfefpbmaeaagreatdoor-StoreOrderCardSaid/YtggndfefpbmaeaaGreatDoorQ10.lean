/- The abstract machine, the walk of the law and its plain laws, made small by a program; part 10: no conditions but those in each theorem. -/
import Derived.Test.YtggndfefpbmaeaaGreatDoorQ09
import Derived.Test.YtggndfefpbmaeaaGreatDoorRows
import Derived.WalkKit
import Derived.ProofKit
import Derived.OpenShut
import Derived.ShutString
import Derived.ChangeOld
import Derived.Below
import Derived.Deep.Slices
import Derived.Deep.Fields
import Derived.ChangeSame
import Derived.MakeChecks
import Derived.LaidMore
import Derived.Lay
import Derived.Stop.Joined
import Derived.ChangeMaps5
set_option maxHeartbeats 16000000
set_option maxRecDepth 100000
set_option linter.unusedSimpArgs false
set_option linter.unusedVariables false
noncomputable section
open Nat renaming reduceEqDiff→Zf,reduceAdd→Zg,ble→Zj,le_refl→Zn,beq→Zr,blt→Zt,zero_le→Zv,eq_of_beq_eq_true→ZA,blt_eq→ZB,lt_or_ge→ZS,zero_add→ZT,add_zero→Z8,min_eq_left→qam,lt_of_le_of_lt→qan,lt_irrefl→qau,mod_lt→qav,mul_one→qaw,sub_self→qaz,mod_eq_of_lt→qaG,not_lt_zero→qaS,mod→qa0,add_assoc→qa3,beq_eq→qbd,sub_add_cancel→qbf,strongRecOn→qbL,add_sub_cancel_left→qcq,mul_mod_right→qcG,le_of_lt→qdc,beq_refl→qdA
open List renaming getElem?_eq_getElem→Zi,getElem?_cons_succ→Zk,getElem?_eq_some_iff→Zl,getElem?_cons_zero→Zm,length_append→Zo,length_map→Zp,take_succ_eq_append_getElem→Zs,length_cons→Zu,length_eq_zero_iff→Zw,mem_cons_of_mem→Zx,mem_cons_self→Zy,mem_cons→ZC,length_take→ZD,length_nil→ZG,getElem?_map→ZH,take_length→ZL,mem_of_getElem?→ZM,getElem?_append_right→ZN,getElem_mem→ZO,length_set→ZR,getElem?_append_left→ZU,length_pos_iff→ZW,mem_map→ZX,map_eq_nil_iff→ZZ,not_mem_nil→Z0,map_append→Z3,cons_append→Z5,mem_singleton→Z9,flatMap_cons→qaa,getD_eq_getElem?_getD→qab,nil_append→qac,drop_eq_getElem_cons→qad,length_singleton→qae,getElem?_set→qaj,length_drop→qak,map_cons→qar,mem_append→qas,range→qay,mem_filter→qaF,flatMap_append→qaH,take_of_length_le→qaJ,flatten_cons→qaO,mem_append_right→qaP,take_zero→qaQ,getElem?_drop→qaT,drop_zero→qa5,nodup_append→qbm,getElem?_range→qbq,take_succ_cons→qbr,mem_flatMap→qbx,getElem?_take→qbB,getElem?_take_of_lt→qbI,mem_append_left→qbJ,mem_of_mem_take→qbK,nodup_cons→qb5,getElem_map→qcj,nodup_nil→qcI,take_append_drop→qcJ,map→qcW,drop_succ_cons→qc6,map_set→qda
open Prod.mk renaming injEq→Zq
open Bool renaming false_eq_true→Zz,and_true→qbu,or_eq_false_iff→qbH,or_eq_true→qdz,and_false→qdE
open Array renaming getElem?_eq_some_iff→ZE,getElem?_toList→ZK
open Option.some renaming injEq→ZQ,inj→Z_
open Option renaming map_some→Z1,getD_some→qal
open List.cons renaming injEq→Z2
open Go.Proofs.Tryz renaming prog→Z6,f4→qag,f213→qaZ,underlying5→qbl,checked→qbN,f130→qbX,f233→qb1,f12→qcZ,f14→qc0,f212→qdj,func4→qdD,f183→qdP
open UInt8 renaming ofNat→qaD,toNat_ofNat'→qdo
namespace Go.Proofs.YtggndfefpbmaeaaGreatDoor.storeOrder
open Go.ChangeShapes Go.WideMaps Go.WideElems Go.WideShapes Go.ChangeAt Go.RowKit Go.Deep Go.Am
open Go.ChangeMaps (open_string shut_string)
theorem own:ownKnob Z6.godebug=none:=by kernel_rfl
theorem laidOut:laidOutB Z6=true:=by kernel_rfl
theorem mN {x:Int} (h:(Lit.int .u8 x).wf=true):Value.int .u8 x= .int .u8 (x.toNat:Nat)∧x.toNat<256:=by
 obtain⟨h0,h1⟩:=bounds_u8 h;rw [Int.toNat_of_nonneg h0];exact⟨rfl,by omega⟩
theorem JQ {x:Int} (h:(Lit.int .u32 x).wf=true):Value.int .u32 x= .int .u32 (x.toNat:Nat)∧x.toNat<4294967296:=by
 simp [Lit.wf,IntKind.min,IntKind.max,IntKind.signed,IntKind.bits] at h;rw [Int.toNat_of_nonneg (by omega)];exact⟨rfl,by omega⟩
section
variable {H:Type} {enc:TypeId×Value→H} {P:Program} {w:World} {base:Nat} {spare:Nat→Bool} {held:Bool}
theorem sU {t e:TypeId} {fs:Array Field} {fuel:Nat} {cs:List Value} {x:DataW H×List MemPlace} (ht:P.underlying t=some (.slice e)) (he:P.underlying e=some (.struct fs))
 (hone:oneCellFields P fs=true) (hC:P.cellsOf e=fs.size) (h:DataW.trod enc P w base spare held fuel t cs=some x):
 (cs=[.slice none 0 0]∧x=(.nil,[]))∨
 ∃(a:Addr) (len cap m:Nat),cs=[.slice (some a) len cap]∧len≤cap∧cap≤maxLen∧m=(if spare a.block then cap else len)∧
  ∀i,i<m→∃(n:Nat),∀(j:Nat) (f:Field),fs[j]?=some f→∃(v:Value) (y:DataW H×List MemPlace),w.cell? (a.add (i*fs.size+j))=some v∧DataW.trod enc P w base spare held n f.type [v]=some y:=by
 rcases open_slice ht h with h0|⟨a,len,cap,m,n,D,Pl,hcs,hb,hl,hm,hmm,hx,hi⟩
 ·exact .inl h0
 ·refine .inr ⟨a,len,cap,m,hcs,hl,hm,hmm,fun i him=>?_⟩;obtain⟨cs',hc,ht'⟩:=hi i him;rw [hC] at hc;obtain⟨ys,n',hn',hy,hlen,hyl,hf⟩:=DataW.trod_struct he ht';obtain⟨_,hcl,hat⟩:=World.cells?_some hc;refine⟨n',fun j f hj=>?_⟩;obtain⟨ho,hk⟩:=hone_of hone j f hj;have hjl:j<fs.size:=(ZE.1 hj).1;have hcell:=hat j hjl;have hv:cs'[j]?=some (cs'[j]'(by omega)):=Zi (by omega)
  have h1:=hf j f hj;rw [ho,hk] at h1;have hone':(cs'.drop j).take 1=[cs'[j]'(by omega)]:=by
   rw [qad (by omega)];rfl
  rw [hone'] at h1;have hys:ys[j]?=some (ys[j]'(by omega)):=Zi (by omega)
  refine⟨_,_,?_,h1.trans hys⟩;rw [←Go.Deep.add_add,hcell,hv]
end
def Mv (ls:List UInt8):List Value:=ls.map fun b=>.int .u8 (b.toNat:Nat)
def Dz (w:World) (v:Value) (ls:List UInt8):Prop:=BQ w 1 v ls.length (Mv ls)
section
variable {H:Type} {enc:TypeId×Value→H} {w:World} {base fuel:Nat} {held:Bool}
variable {v:Value}
theorem G0 {x:DataW H×List MemPlace} (h:DataW.trod enc Z6 w base (fun _=>true) held fuel 48 [v]=some x):∃ls,Dz w v ls:=by
 rcases open_ints Tryz.underlying48 qbl (by kernel_rfl) h with⟨hcs,_⟩|⟨a,len,cap,zs,hcs,-,hl,hm,hz,-,hcell,hwf⟩
 ·simp only [Z2,and_true] at hcs;subst hcs;exact⟨[],.inl ⟨rfl,rfl⟩⟩
 ·simp only [Z2,and_true] at hcs;subst hcs;simp only [if_true] at hz;by_cases hc0:cap=0
  ·subst hc0;have hl0:len=0:=by omega
   subst hl0;exact⟨[],.inr (.inl ⟨a,rfl,rfl⟩)⟩
  ·have hlen:((zs.take len).map fun z=>qaD z.toNat).length=len:=by
    rw [Zp,ZD];omega
   refine⟨(zs.take len).map fun z=>qaD z.toNat,.inr (.inr ⟨a,cap,by rw [hlen],by omega,by rw [hlen];exact hl,qan hm (by decide),fun i hi=>⟨_,hcell i (by omega)⟩,by rw [Mv,Zp,qaw],fun i c hi=>?_⟩)⟩;have hil:=(Zl.1 hi).1;rw [Mv,Zp,hlen] at hil;rw [hcell i (by omega)];unfold Mv at hi;rw [ZH,ZH,qbB,if_pos hil,Zi (by omega)] at hi;simp only [Z1,ZQ] at hi;have hzi:zs.getD i 0=zs[i]'(by omega):=by
    rw [qab,Zi (by omega)];rfl
   have hb:=mN (hwf (zs[i]'(by omega)) (ZO _))
   rw [hzi,←hi,hb.1,qdo,qaG hb.2]
structure L3 where
 v:Value
 ls:List UInt8
 wt:Nat
 gone:Bool
def wF (d:L3):List Value:=[d.v,.int .u32 d.wt,.bool d.gone]
theorem K4 {v0 v1 v2:Value} {n0 n1 n2:Nat} {y0 y1 y2:DataW H×List MemPlace} (t0:DataW.trod enc Z6 w base (fun _=>true) held n0 48 [v0]=some y0) (t1:DataW.trod enc Z6 w base (fun _=>true) held n1 31 [v1]=some y1) (t2:DataW.trod enc Z6 w base (fun _=>true) held n2 4 [v2]=some y2):
 ∃d:L3,wF d=[v0,v1,v2]∧Dz w d.v d.ls∧d.wt<4294967296:=by
 obtain⟨ls,hl⟩:=G0 t0;obtain⟨m,c1,-,w1⟩:=DataW.trod_int Tryz.underlying31 t1;obtain⟨b,c2,-⟩:=DataW.trod_bool Tryz.underlying4 t2;simp only [Z2,and_true] at c1 c2;subst c1 c2;exact⟨⟨v0,ls,m.toNat,b⟩,by unfold wF;rw [←(JQ w1).1],hl,(JQ w1).2⟩
theorem Kl {x:DataW H×List MemPlace} (h:DataW.trod enc Z6 w base (fun _=>true) held fuel 111 [v]=some x):
 ∃ms:List L3,(∀m∈ms,Dz w m.v m.ls∧m.wt<4294967296)∧BQ w 3 v ms.length (ms.map wF).flatten:=by
 rcases sU Tryz.underlying111 Tryz.underlying235 (by kernel_rfl) (by kernel_rfl) h with⟨hcs,_⟩|⟨a,len,cap,m,hcs,hl,hm,hz,hcell⟩
 ·simp only [Z2,and_true] at hcs;subst hcs;exact⟨[],(fun m hm=>by cases hm),.inl ⟨rfl,rfl⟩⟩
 ·simp only [Z2,and_true] at hcs;subst hcs;simp only [if_true] at hz;subst hz;by_cases hc0:m=0
  ·subst hc0;have hl0:len=0:=by omega
   subst hl0;exact⟨[],(fun m hm=>by cases hm),.inr (.inl ⟨a,rfl,rfl⟩)⟩
  ·obtain⟨f,hf⟩:=Classical.axiomOfChoice (r:=fun(i:Nat) (d:L3)=>i<m→(Dz w d.v d.ls∧d.wt<4294967296)∧∀j,j<3→w.cell? (a.add (i*3+j))=(wF d)[j]?) (fun i=>by
    by_cases hi:i<m
    ·obtain⟨n,hfi⟩:=hcell i hi;obtain⟨u0,y0,e0,t0⟩:=hfi 0 _ rfl;obtain⟨u1,y1,e1,t1⟩:=hfi 1 _ rfl;obtain⟨u2,y2,e2,t2⟩:=hfi 2 _ rfl;obtain⟨d,hd,hlw⟩:=K4 t0 t1 t2;refine⟨d,fun _=>⟨hlw,fun j hj=>?_⟩⟩;rw [hd];have:j=0∨j=1∨j=2:=by omega
     rcases this with rfl|rfl|rfl
     ·exact e0
     ·exact e1
     ·exact e2
    ·exact⟨⟨.bool true,[],0,false⟩,fun h=>absurd h hi⟩)
   have hlen3:∀l∈((qay len).map f).map wF,l.length=3:=fun l hl=>by
    obtain⟨d,-,rfl⟩:=ZX.1 hl;rfl
   have hll:((qay len).map f).length=len:=by rw [Zp,List.length_range]
   refine⟨(qay len).map f,fun d hd=>?_,.inr (.inr ⟨a,m,by rw [hll],by omega,by rw [hll];exact hl,qan hm (by decide),fun i hi=>?_,by rw [dh hlen3,Zp],fun i c hi=>?_⟩)⟩
   ·obtain⟨i,hi,rfl⟩:=ZX.1 hd;exact(hf i (by have:=List.mem_range.1 hi;omega)).1
   ·have hi3:i/3<m:=by omega
    have e:i/3*3+i % 3=i:=by omega
    have:=(hf (i/3) hi3).2 (i % 3) (qav _ (by omega));rw [e] at this;rw [this,Zi (show i % 3<(wF (f (i/3))).length from qav _ (by omega))];exact⟨_,rfl⟩
   ·have hiv:=(Zl.1 hi).1;rw [dh hlen3,Zp,hll] at hiv;have hi3:i/3<len:=by omega
    have e:i/3*3+i % 3=i:=by omega
    have g:=e9 hlen3 (i:=i/3) (j:=i % 3) (l:=wF (f (i/3))) (by rw [ZH,ZH,qbq hi3];rfl) (qav _ (by omega));rw [e,hi] at g;have:=(hf (i/3) (by omega)).2 (i % 3) (qav _ (by omega));rw [e] at this;rw [this,←g]
def H3 (w:World) (p:Value×List L3):Prop:=(∀m∈p.2,Dz w m.v m.ls∧m.wt<4294967296)∧BQ w 3 p.1 p.2.length (p.2.map wF).flatten
theorem RH {x:DataW H×List MemPlace} (h:DataW.trod enc Z6 w base (fun _=>true) held fuel 22 [v]=some x):
 ∃ps:List (Value×List L3),(∀p∈ps,H3 w p)∧BQ w 1 v ps.length (ps.map (·.1)):=by
 have h1:Z6.cellsOf 111=1:=by kernel_rfl
 rcases open_slice Tryz.underlying22 h with⟨hcs,_⟩|⟨a,len,cap,m,n,D,Pl,hcs,hb,hl,hm,hz,hx,hi⟩
 ·simp only [Z2,and_true] at hcs;subst hcs;exact⟨[],(fun m hm=>by cases hm),.inl ⟨rfl,rfl⟩⟩
 ·simp only [Z2,and_true] at hcs;subst hcs;simp only [if_true] at hz;subst hz;by_cases hc0:m=0
  ·subst hc0;have hl0:len=0:=by omega
   subst hl0;exact⟨[],(fun m hm=>by cases hm),.inr (.inl ⟨a,rfl,rfl⟩)⟩
  ·obtain⟨f,hf⟩:=Classical.axiomOfChoice (r:=fun(i:Nat) (p:Value×List L3)=>i<m→H3 w p∧w.cell? (a.add i)=some p.1) (fun i=>by
    by_cases him:i<m
    ·obtain⟨cs',hc,ht'⟩:=hi i him;rw [h1] at hc;obtain⟨_,hcl,hat⟩:=World.cells?_some hc;have hc0:=hat 0 (by omega)
     match cs',hcl with
     | [c],_=>
      obtain⟨ms,g1,g2⟩:=Kl ht';refine⟨(c,ms),fun _=>⟨⟨g1,g2⟩,?_⟩⟩;have e:(a.add (i*1)).add 0=a.add i:=by rw [qaw];rfl
      rw [e] at hc0;exact hc0
    ·exact⟨(.bool true,[]),fun h=>absurd h him⟩)
   have hll:((qay len).map f).length=len:=by rw [Zp,List.length_range]
   refine⟨(qay len).map f,fun d hd=>?_,.inr (.inr ⟨a,m,by rw [hll],by omega,by rw [hll];exact hl,qan hm (by decide),fun i hi=>⟨_,(hf i (by omega)).2⟩,by rw [Zp,qaw],fun i c hi=>?_⟩)⟩
   ·obtain⟨i,hi,rfl⟩:=ZX.1 hd;exact(hf i (by have:=List.mem_range.1 hi;omega)).1
   ·have hil:=(Zl.1 hi).1;rw [Zp,hll] at hil;rw [ZH,ZH,qbq hil] at hi;cases hi;exact(hf i (by omega)).2
theorem UE {cs:List Value} {x:DataW H×List MemPlace} (h:DataW.trod enc Z6 w base (fun _=>true) held fuel 29 cs=some x):
 ∃(v:Value) (k a b c d:Int) (n o:ByteArray) (m:Nat) (y:DataW H×List MemPlace),cs=[v,.int .u8 k,.int .u8 a,.int .u8 b,.int .u8 c,.int .u16 d,.string n,.string o]∧(Lit.int .u8 k).wf=true∧DataW.trod enc Z6 w base (fun _=>true) held m 22 [v]=some y:=by
 obtain⟨xs,n,-,-,hlen,hxl0,hf⟩:=DataW.trod_struct Tryz.underlying29 h;have h8:Z6.cellsOf 29=8:=by kernel_rfl
 rw [h8] at hlen;have k22:Z6.cellsOf 22=1:=by kernel_rfl
 have k5:Z6.cellsOf 5=1:=by kernel_rfl
 have k25:Z6.cellsOf 25=3:=by kernel_rfl
 have k27:Z6.cellsOf 27=2:=by kernel_rfl
 have k9:Z6.cellsOf 9=1:=by kernel_rfl
 have k23:Z6.cellsOf 23=1:=by kernel_rfl
 match cs,hlen with
 | [c0,c1,c2,c3,c4,c5,c6,c7],_=>
  have f0:=hf 0 {name:= "Lists",type:=22,offset:=0,embedded:=false,tag:= "",pkgPath:= "",byteOffset:=0} rfl;have f1:=hf 1 {name:= "More",type:=5,offset:=1,embedded:=false,tag:= "",pkgPath:= "",byteOffset:=24} rfl;have f2:=hf 2 {name:= "Less",type:=5,offset:=2,embedded:=false,tag:= "",pkgPath:= "",byteOffset:=25} rfl;have f3:=hf 3 {name:= "Turn",type:=25,offset:=3,embedded:=false,tag:= "",pkgPath:= "",byteOffset:=26} rfl;have f4:=hf 4 {name:= "Other",type:=27,offset:=6,embedded:=false,tag:= "",pkgPath:= "",byteOffset:=32} rfl;simp only [k22,k5,k25,k27,qa5,qc6,qbr,qaQ] at f0 f1 f2 f3 f4;have some_of:∀{xs:List (DataW H×List MemPlace)} {n i:Nat} {t:TypeId} {cs:List Value},i<xs.length→DataW.trod enc Z6 w base (fun _=>true) held n t cs=xs[i]?→∃y,DataW.trod enc Z6 w base (fun _=>true) held n t cs=some y:=fun hi he=>⟨_,he.trans (Zi hi)⟩
  have hxl:xs.length=5:=hxl0;obtain⟨y0,f0⟩:=some_of (by omega) f0;obtain⟨y1,f1⟩:=some_of (by omega) f1;obtain⟨y2,f2⟩:=some_of (by omega) f2;obtain⟨y3,f3⟩:=some_of (by omega) f3;obtain⟨y4,f4⟩:=some_of (by omega) f4;obtain⟨m1,e1,-,b1⟩:=DataW.trod_int qbl f1;obtain⟨m2,e2,-,b2⟩:=DataW.trod_int qbl f2;obtain⟨zs,n2,-,-,-,hzl,hz⟩:=DataW.trod_struct Tryz.underlying25 f3;have z0:=hz 0 {name:= "File",type:=5,offset:=0,embedded:=false,tag:= "",pkgPath:= "",byteOffset:=0} rfl;have z1:=hz 1 {name:= "By",type:=5,offset:=1,embedded:=false,tag:= "",pkgPath:= "",byteOffset:=1} rfl;have z2:=hz 2 {name:= "At",type:=23,offset:=2,embedded:=false,tag:= "",pkgPath:= "",byteOffset:=2} rfl;simp only [k5,k23,qa5,qc6,qbr,qaQ] at z0 z1 z2;have hzl':zs.length=3:=hzl;obtain⟨q0,z0⟩:=some_of (by omega) z0;obtain⟨q1,z1⟩:=some_of (by omega) z1;obtain⟨q2,z2⟩:=some_of (by omega) z2;obtain⟨t0,g0,-,-⟩:=DataW.trod_int qbl z0;obtain⟨t1,g1,-,-⟩:=DataW.trod_int qbl z1;obtain⟨t2,g2,-,-⟩:=DataW.trod_int Tryz.underlying23 z2;obtain⟨us,n3,-,-,-,hul,hu⟩:=DataW.trod_struct Tryz.underlying27 f4;have u0:=hu 0 {name:= "Name",type:=9,offset:=0,embedded:=false,tag:= "",pkgPath:= "",byteOffset:=0} rfl;have u1:=hu 1 {name:= "Bytes",type:=9,offset:=1,embedded:=false,tag:= "",pkgPath:= "",byteOffset:=16} rfl;simp only [k9,qa5,qc6,qbr,qaQ] at u0 u1;have hul':us.length=2:=hul;obtain⟨r0,u0⟩:=some_of (by omega) u0;obtain⟨r1,u1⟩:=some_of (by omega) u1;obtain⟨s6,e6,-,-⟩:=DataW.trod_string Tryz.underlying9 u0;obtain⟨s7,e7,-,-⟩:=DataW.trod_string Tryz.underlying9 u1;simp only [Z2,and_true] at e1 e2 g0 g1 g2 e6 e7;subst e1 e2 g0 g1 g2 e6 e7;exact⟨c0,m1,m2,t0,t1,t2,s6,s7,_,y0,rfl,b1,f0⟩
end
def nN (w:World):Nat→Nat→Value→Option Value:=fun _ _ v=>Ax w 1 v
theorem W5 (w:World):XR w [] (nN w):=fun _ _ _ _ h=>Mr h
variable {v:Value}
theorem Qg {w:World} {ls:List UInt8} (h:Dz w v ls):∃x,Ax w 1 v=some x∧sto.tJ (pc w 0 (nN w)) ls x:=by
 obtain⟨x,h1,h2⟩:=Xc (N:=nN w) (by omega) (by omega) h;refine⟨x,h1,?_⟩;rcases h2 with⟨rfl,h0⟩|⟨rfl,h0⟩|⟨q,off,rfl,hq,h3⟩
 ·exact .inl ⟨rfl,Zw.1 h0⟩
 ·exact .inr (.inl ⟨rfl,Zw.1 h0⟩)
 ·refine .inr (.inr ⟨q,off,_,rfl,?_⟩);rcases h3 with h3|⟨t,fz,c,h4,h5⟩
  ·exact .inl (Zw.1 (by omega))
  ·refine .inr ⟨hq,t,.row,fz,c,h4,fun i b hi=>?_⟩;have hil:=(Zl.1 hi).1;exact h5 i (.int .u8 (b.toNat:Nat)) _ (by omega) (by unfold Mv;rw [ZH,hi];rfl) (tL rfl)
variable {n:Nat}
theorem Jc {w:World} {len:Nat} {cs:List Value} (hn0:0<n) (h:BQ w n v len cs):
 ∃x,Ax w 1 v=some x∧((x= .slice none 0 0∧len=0)∨(x=D7∧len=0)∨∃q off cp,x= .slice (some ⟨q,off,none⟩) len cp∧(len=0∨(q<(pc w 0 (nN w)).next∧∃t fz c,(pc w 0 (nN w)).get q=some (.cells t .row fz c)∧∀(i:Nat) (v u:Value),i<len*n→cs[i]?=some v→Ax w 1 v=some u→c.get (off+i)=some u))):=by
 rcases h with⟨rfl,rfl⟩|⟨x,rfl,rfl⟩|⟨x,cap,rfl,hc0,hlc,hcap,hall,hcl,hcell⟩
 ·exact⟨_,H7,.inl ⟨rfl,rfl⟩⟩
 ·exact⟨_,H6,.inr (.inl ⟨rfl,rfl⟩)⟩
 ·have hpos:0<cap*n:=Nat.mul_pos hc0 hn0;obtain⟨u0,hu0⟩:=hall 0 hpos;have hsp:=AL hu0;obtain⟨xb,xo,xs⟩:=x;simp only at hsp;subst hsp;have h1:bM (gO len 1)=len:=cz (by omega);have h2:js (gO len 1)=1:=dS (by omega);have hnp:¬nf (.slice (some ⟨xb,xo,none⟩) len cap)=true:=by simp [nf]
  obtain⟨u,hu⟩:=hall (cap*n-1) (by omega);obtain⟨cs',t,fr,hw,hu2⟩:=w_ rfl hu;have hsz:=(ZE.1 hu2).1;have hblk:xb<w.heap.size:=(ZE.1 hw).1;have hcn:cap≤cap*n:=Nat.le_mul_of_pos_right _ hn0;have hreal:VR (vf w []) (.slice (some ⟨xb,xo,none⟩) len (gO len 1)) (.slice (some ⟨xb,xo,none⟩) len cap):=by
   refine VR.slX (l:=⟨xb,0,cs'.size⟩) (o':=xo) (zP hw) (cS _ _) (by rw [h1];exact hlc) ?_ (fun _=>by simp) hcap (by rw [h1];exact Zn _);rw [h2];have e:xo+(cap*n-1)<cs'.size:=hsz;show xo+cap*1≤cs'.size;omega
  refine⟨.slice (some ⟨xb,xo,none⟩) len (gO len 1),?_,.inr (.inr ⟨xb,xo,_,rfl,.inr ⟨hblk,t,_,_,by rw [mB,hw];rfl,fun i v u hi hv hu=>A7 ?_ hu⟩⟩)⟩
  ·unfold Ax;rw [if_neg hnp];simp only [if_neg (show¬(len=0∧cap=0) by omega),if_pos hreal]
  ·obtain⟨cs2,t2,fr2,hw2,hv2⟩:=w_ rfl (hcell i v hv);rw [hw] at hw2;cases hw2;rw [ZK];exact hv2
def Vo (w:World) (m:L3):sto.rM:=⟨(Ax w 1 m.v).getD D7,m.ls,m.wt,m.gone⟩
theorem Vp {w:World} {m:L3} (h:Dz w m.v m.ls):Ax w 1 m.v=some (Vo w m).xl∧sto.tJ (pc w 0 (nN w)) (Vo w m).ls (Vo w m).xl:=by
 obtain⟨x,h1,h2⟩:=Qg h;have e:(Vo w m).xl=x:=by unfold Vo;rw [h1];rfl
 rw [e];exact⟨h1,h2⟩
theorem Uj {w:World} {ms:List L3} (hl:∀m∈ms,Dz w m.v m.ls) (h:BQ w 3 v ms.length (ms.map wF).flatten):∃x,Ax w 1 v=some x∧sto.L4 (pc w 0 (nN w)) (ms.map (Vo w)) x:=by
 obtain⟨x,h1,h2⟩:=Jc (by omega) h;refine⟨x,h1,?_⟩;rcases h2 with⟨rfl,h0⟩|⟨rfl,h0⟩|⟨q,off,cp,rfl,h3⟩
 ·rw [Zw.1 h0];exact .inl ⟨rfl,rfl⟩
 ·rw [Zw.1 h0];exact .inr (.inl ⟨rfl,rfl⟩)
 ·refine .inr (.inr ⟨q,off,cp,by rw [Zp],?_⟩);rcases h3 with h0|⟨hq,t,fz,c,h4,h5⟩
  ·rw [Zw.1 h0];exact .inl rfl
  ·refine .inr ⟨hq,t,.row,fz,c,h4,fun i d hi=>?_⟩;rw [ZH] at hi;obtain⟨m,hm,rfl⟩:=Option.map_eq_some_iff.1 hi;have hil:=(Zl.1 hm).1;obtain⟨x1,x2⟩:=Vp (hl m (ZM hm));have hlen3:∀l∈ms.map wF,l.length=3:=fun l hl=>by
    obtain⟨d,-,rfl⟩:=ZX.1 hl;rfl
   have g:∀{j:Nat} {v u:Value},j<3→(wF m)[j]?=some v→Ax w 1 v=some u→c.get (off+(i*3+j))=some u:=fun {j v u} hj hv hu=>
    h5 (i*3+j) v u (by omega) (by rw [e9 hlen3 (l:=wF m) (by rw [ZH,hm];rfl) hj];exact hv) hu
   have g0:=g (j:=0) (by omega) rfl x1;have g1:=g (j:=1) (by omega) rfl (tL rfl);have g2:=g (j:=2) (by omega) rfl (tL rfl);simp only [Z8,←qa3] at g0 g1 g2;exact⟨g0,g1,g2,x2⟩
theorem Q2 {w:World} {ps:List (Value×List L3)} (hl:∀p∈ps,H3 w p) (h:BQ w 1 v ps.length (ps.map (·.1))):∃x,Ax w 1 v=some x∧sto.xw (pc w 0 (nN w)) (ps.map fun p=>p.2.map (Vo w)) x:=by
 obtain⟨x,h1,h2⟩:=Jc (by omega) h;refine⟨x,h1,?_⟩;rcases h2 with⟨rfl,h0⟩|⟨rfl,h0⟩|⟨q,off,cp,rfl,h3⟩
 ·rw [Zw.1 h0];exact .inl ⟨rfl,rfl⟩
 ·rw [Zw.1 h0];exact .inr (.inl ⟨rfl,rfl⟩)
 ·refine .inr (.inr ⟨q,off,cp,by rw [Zp],?_⟩);rcases h3 with h0|⟨hq,t,fz,c,h4,h5⟩
  ·rw [Zw.1 h0];exact .inl rfl
  ·refine .inr ⟨hq,t,.row,fz,c,h4,fun i ds hi=>?_⟩;rw [ZH] at hi;obtain⟨p,hp,rfl⟩:=Option.map_eq_some_iff.1 hi;have hil:=(Zl.1 hp).1;obtain⟨r1,r2⟩:=hl p (ZM hp);obtain⟨y,g1,g2⟩:=Uj (fun m hm=>(r1 m hm).1) r2;exact⟨y,h5 i p.1 y (by omega) (by rw [ZH,hp];rfl) g1,g2⟩
theorem walk (hk:b7 sto.b6.P 5 (aJ sto.vg)) (v:Value) (k a b c d p0 p1:Int) (n o:ByteArray) (ps:List (Value×List L3)) (w:World) (hl:∀p∈ps,H3 w p) (hp:BQ w 1 v ps.length (ps.map (·.1)))
 (w0:(Lit.int .u8 k).wf=true) (w1:(Lit.int .u8 p0).wf=true) (w2:(Lit.int .u8 p1).wf=true):
 Calls Z6 4 #[.agg ⟨[v,.int .u8 k,.int .u8 a,.int .u8 b,.int .u8 c,.int .u16 d,.string n,.string o]⟩,.int .u8 p0,.int .u8 p1] w fun e w'=>e= .returned (.bool true)∧Below w.heap.size w w':=by
 refine(?_:Calls Z6 4 #[.agg ⟨[v,.int .u8 k,.int .u8 a,.int .u8 b,.int .u8 c,.int .u16 d,.string n,.string o]⟩,.int .u8 p0,.int .u8 p1] w fun e w'=>e= .returned (.bool true)∧Go.Am.Leaves w w').mono fun e w' h=>⟨h.1,h.2.below⟩
 obtain⟨x,e0,d0⟩:=Q2 hl hp;rw [(mN w0).1,(mN w1).1,(mN w2).1];refine J5 (sto.zL hk) [] (fun l hl=>by cases hl) (W5 w) (sto.av qdD) sto.MF (args:=[.agg ⟨sto.CD x k.toNat (.int .u8 a) (.int .u8 b) (.int .u8 c) (.int .u16 d) n.data.toList o.data.toList⟩,.int .u8 (p0.toNat:Nat),.int .u8 (p1.toNat:Nat)])
  (.cons (.agg (.cons (Mr e0) (.cons (.int _ _) (.cons (.int _ _) (.cons (.int _ _) (.cons (.int _ _) (.cons (.int _ _) (.cons (by show VR _ (strOf n.data.toList) _;rw [←Bz];exact .string _) (.cons (by show VR _ (strOf o.data.toList) _;rw [←Bz];exact .string _) .nil))))))))) (.cons (.int _ _) (.cons (.int _ _) .nil))) ?_
 obtain⟨u,A',h1,rfl,-⟩:=sto.OW (p0:=p0.toNat) (p1:=p1.toNat) (k:=k.toNat) (a:=.int .u8 a) (b:=.int .u8 b) (c:=.int .u8 c) (d:=.int .u16 d) (n:=n.data.toList) (o:=o.data.toList) d0 (fun ds hds d hd=>by
  obtain⟨p,hp,rfl⟩:=ZX.1 hds;obtain⟨m,hm,rfl⟩:=ZX.1 hd;exact((hl p hp).1 m hm).2) (mN w0).2 (mN w1).2 (mN w2).2
 exact⟨A',Ay (sto.av qdD) sto.MF (by kernel_rfl) (by kernel_rfl) h1⟩
def sP:List (String×DataW Unit):=[("math/bits.deBruijn32tab",Rows.laid_math_bits_deBruijn32tab),("math/bits.deBruijn64tab",Rows.laid_math_bits_deBruijn64tab),("internal/strconv.uint64pow10",Rows.laid_internal_strconv_uint64pow10)]
theorem WY (os:Os):(World.holding Z6 os ⟨#[], #[],[]⟩).layFits Z6 sP []=true:=by kernel_rfl
theorem WZ (os:Os):(World.holding Z6 os ⟨#[], #[],[]⟩).layIfaces Z6 sP (World.laidAll Z6 os sP)=true:=by kernel_rfl
theorem MW (os:Os) (args:Array Value):laidMetH Z6 sP ((World.laidAll Z6 os sP).forCall (fun _ _=>0) ⟨#[],args,[]⟩).memory:=by
 rw [Go.MakeChecks.laidMetH_plain _ _ _ (by kernel_rfl)];exact laidMet_laidAll _ (WY os) (WZ os)
theorem lifted (hk:b7 sto.b6.P 5 (aJ sto.vg)) (os:Os) (started:os.Started) (H:Type) (enc:TypeId×Value→H):
 ReturnsInHanded {} qbN os 4 .any (fun w args=>(Rows.storeOrderSpec.pre enc Z6 qag [] false w args∧laidMetH Z6 sP w)∧sizedMet enc Z6 qag (OpenSpec.ofChange Rows.storeOrderSpec) false w args)
  (Rows.storeOrderSpec.post enc Z6 qag false true false false):=by
 refine returnsInHanded_of_change_and (C:=qbN) (X:=fun w _=>laidMetH Z6 sP w) (fun _ _ _ hh h=>h.of_heap hh) own started (by kernel_rfl) qdD
  (ChangeSpec.witness_shaped (enc:=enc) (C:=qbN) (os:=os) (X:=fun w _=>laidMetH Z6 sP w) false (World.laidAll Z6 os sP) #[.agg #[.slice none 0 0,.int .u8 0,.int .u8 0,.int .u8 0,.int .u8 0,.int .u16 0,.string ByteArray.empty,.string ByteArray.empty],.int .u8 0,.int .u8 0] 12 (World.laidAll_os _ _ _) (World.shaped_of_ZipB (by kernel_rfl) (by kernel_rfl)) (by kernel_rfl) (by kernel_rfl) (by kernel_rfl) (MW os _)) ?_
 intro W base args ds gs before hval0 hW hcnd _ hL _;have hval:∀(j:Nat) t v,qag.params[j]?=some t→args[j]?=some v→Value.okWide Z6 W .any base t v:=hval0;have hW':=hW;obtain⟨p,q,hA0,hV,rfl,hfz,hnd⟩:=hW;have hA:DataW.TrodAll enc Z6 W 0 (fun _=>true) true qag.params.toList args.toList ds p:=hA0;rw [Tryz.params4] at hA hval;obtain⟨v0,vs0,d0,ds0,p0,q0,hargs,rfl,rfl,h0,r0⟩:=trodAll_cons hA;obtain⟨v1,vs1,d1,ds1,p1,q1,rfl,rfl,rfl,h1,r1⟩:=trodAll_cons r0;obtain⟨v2,vs2,d2,ds2,p2,q2,rfl,rfl,rfl,h2,r2⟩:=trodAll_cons r1;obtain⟨rfl,rfl,rfl⟩:=trodAll_nil r2;obtain rfl:args= #[v0,v1,v2]:=by cases args;simp_all
 obtain⟨rfl,rfl⟩:=trodVars_none hV;have k0:=h0;have lt0:∀x∈p0,x.block<W.heap.size:=by obtain⟨m,hm⟩:=k0;exact DataW.trod_lt m _ _ _ hm
 have k1:=h1;have lt1:∀x∈p1,x.block<W.heap.size:=by obtain⟨m,hm⟩:=k1;exact DataW.trod_lt m _ _ _ hm
 have k2:=h2;have lt2:∀x∈p2,x.block<W.heap.size:=by obtain⟨m,hm⟩:=k2;exact DataW.trod_lt m _ _ _ hm
 obtain⟨cs0,rfl,-⟩:=okWide_struct Tryz.underlying29 (hval 0 29 v0 rfl rfl);obtain⟨z1,rfl⟩:=okWide_int qbl (hval 1 5 v1 rfl rfl);obtain⟨z2,rfl⟩:=okWide_int qbl (hval 2 5 v2 rfl rfl);obtain⟨v,k,a,b,c,d,n,o,m,y,e0,wk,hv⟩:∃(v:Value) (k a b c d:Int) (n o:ByteArray) (m:Nat) (y:DataW H×List MemPlace),cs0.toList=[v,.int .u8 k,.int .u8 a,.int .u8 b,.int .u8 c,.int .u16 d,.string n,.string o]∧(Lit.int .u8 k).wf=true∧DataW.trod enc Z6 W 0 (fun _=>true) true m 22 [v]=some y:=by
  obtain⟨fuel,hf⟩:=h0;exact UE hf
 obtain⟨ps,hps,hpar⟩:=RH hv;have b1:(Lit.int .u8 z1).wf=true:=by
  obtain⟨fuel,hf⟩:=h1;obtain⟨m,e,-,bb⟩:=DataW.trod_int (cs:=[.int .u8 z1]) qbl hf;simp only [Z2,Value.int.injEq,true_and,and_true] at e;rw [e];exact bb
 have b2:(Lit.int .u8 z2).wf=true:=by
  obtain⟨fuel,hf⟩:=h2;obtain⟨m,e,-,bb⟩:=DataW.trod_int (cs:=[.int .u8 z2]) qbl hf;simp only [Z2,Value.int.injEq,true_and,and_true] at e;rw [e];exact bb
 obtain rfl:cs0=⟨[v,.int .u8 k,.int .u8 a,.int .u8 b,.int .u8 c,.int .u16 d,.string n,.string o]⟩:=by rw [←e0]
 clear hA0 hval0;refine(walk hk v k a b c d z1 z2 n o ps W hps hpar wk b1 b2).mono fun e W' ⟨he,bel⟩=>?_
 subst he;exact⟨_,rfl,_,_,_,[],_,[],hW',trodAll_mk1 (shut_bool Tryz.underlying4 _),(trodAll_cons_mk (Below.trod laidOut (by kernel_rfl) (of_decide_eq_true (by kernel_rfl)) k0 bel lt0) (trodAll_cons_mk (Below.trod laidOut (by kernel_rfl) (of_decide_eq_true (by kernel_rfl)) k1 bel lt1) (trodAll_cons_mk (Below.trod laidOut (by kernel_rfl) (of_decide_eq_true (by kernel_rfl)) k2 bel lt2) trodAll_mk0))),rfl,bel.frame _,fun h=>by cases h⟩
theorem over (hk:b7 sto.b6.P 5 (aJ sto.vg)):Rows.storeOrderRow.holds Tryz.pinned (OpenSpec.ofChange Rows.storeOrderSpec):=
 OpenClaim.holds_of_wide 4 qag rfl rfl rfl rfl rfl rfl rfl ⟨rfl,rfl,rfl,rfl,rfl⟩ rfl rfl rfl rfl rfl (by kernel_rfl) qdD (by kernel_rfl)
  (of_decide_eq_true (by kernel_rfl)) (by unfold Func.isWrapper;first|(rw [if_pos (by decide+kernel)];kernel_rfl)|(rw [if_neg (by decide+kernel)];exact⟨rfl,rfl⟩))
  (fun os started H enc _=>lifted hk os started H enc)
end Go.Proofs.YtggndfefpbmaeaaGreatDoor.storeOrder
end
