/- The abstract machine, the walk of the law and its plain laws, made small by a program; part 10: no conditions but those in each theorem. -/
import Derived.Test.YtjoceidiioppiaaGreatDoorQ09
import Derived.Test.YtjoceidiioppiaaGreatDoorRows
import Derived.WalkKit
import Derived.ProofKit
import Derived.OpenShut
import Derived.ShutString
import Derived.ChangeOld
import Derived.Below
import Derived.Deep.Slices
import Derived.Deep.Fields
import Derived.ChangeSame
import Derived.MakeChecks
import Derived.LaidMore
import Derived.Lay
import Derived.Stop.Joined
import Derived.ChangeMaps5
set_option maxHeartbeats 16000000
set_option maxRecDepth 100000
set_option linter.unusedSimpArgs false
set_option linter.unusedVariables false
noncomputable section
open List renaming getElem?_eq_getElem→qan,getElem?_eq_some_iff→qap,length_map→qas,length_take→qaE,getElem?_map→qaN,length_eq_zero_iff→qaP,mem_of_getElem?→qa0,mem_map→qa3,getD_eq_getElem?_getD→qa9,getElem_mem→qbg,drop_eq_getElem_cons→qbi,getElem?_take→qbm,mem_of_mem_take→qbH,range→qbN,take_zero→qcy,getElem?_range→qcZ,take_succ_cons→qc0,drop_zero→qdq
open Nat renaming le_refl→qao,add_zero→qa8,lt_of_le_of_lt→qbj,mod_lt→qbE,mod_eq_of_lt→qbL,mul_one→qb2,add_assoc→qck,one_mul→qcG,zero_mul→qcN
open Array renaming getElem?_eq_some_iff→qaM,getElem?_toList→qaU
open Option.some renaming injEq→qaX
open List.cons renaming injEq→qa4
open Option renaming map_some→qa5
open Go.Proofs.Tryz renaming prog→qba,f4→qbC,checked→qcO,underlying4→qeA,func4→qeJ
open UInt8 renaming ofNat→qbD,toNat_ofNat'→qep
namespace Go.Proofs.YtjoceidiioppiaaGreatDoor.storeLasts
open Go.ChangeShapes Go.WideMaps Go.WideElems Go.WideShapes Go.ChangeAt Go.RowKit Go.Deep Go.Am
open Go.ChangeMaps (open_string shut_string)
theorem own:ownKnob qba.godebug=none:=by kernel_rfl
theorem laidOut:laidOutB qba=true:=by kernel_rfl
theorem Cj {x:Int} (h:(Lit.int .u8 x).wf=true):Value.int .u8 x= .int .u8 (x.toNat:Nat)∧x.toNat<256:=by
 obtain⟨h0,h1⟩:=bounds_u8 h;rw [Int.toNat_of_nonneg h0];exact⟨rfl,by omega⟩
theorem Kn {x:Int} (h:(Lit.int .u32 x).wf=true):Value.int .u32 x= .int .u32 (x.toNat:Nat)∧x.toNat<4294967296:=by
 simp [Lit.wf,IntKind.min,IntKind.max,IntKind.signed,IntKind.bits] at h;rw [Int.toNat_of_nonneg (by omega)];exact⟨rfl,by omega⟩
section
variable {H:Type} {enc:TypeId×Value→H} {P:Program} {w:World} {base:Nat} {spare:Nat→Bool} {held:Bool}
variable {cs:List Value}
theorem r9 {t e:TypeId} {fs:Array Field} {fuel:Nat} {x:DataW H×List MemPlace} (ht:P.underlying t=some (.slice e)) (he:P.underlying e=some (.struct fs))
 (hone:oneCellFields P fs=true) (hC:P.cellsOf e=fs.size) (h:DataW.trod enc P w base spare held fuel t cs=some x):
 (cs=[.slice none 0 0]∧x=(.nil,[]))∨
 ∃(a:Addr) (len cap m:Nat),cs=[.slice (some a) len cap]∧len≤cap∧cap≤maxLen∧m=(if spare a.block then cap else len)∧
  ∀i,i<m→∃(n:Nat),∀(j:Nat) (f:Field),fs[j]?=some f→∃(v:Value) (y:DataW H×List MemPlace),w.cell? (a.add (i*fs.size+j))=some v∧DataW.trod enc P w base spare held n f.type [v]=some y:=by
 rcases open_slice ht h with h0|⟨a,len,cap,m,n,D,Pl,hcs,hb,hl,hm,hmm,hx,hi⟩
 ·exact .inl h0
 ·refine .inr ⟨a,len,cap,m,hcs,hl,hm,hmm,fun i him=>?_⟩;obtain⟨cs',hc,ht'⟩:=hi i him;rw [hC] at hc;obtain⟨ys,n',hn',hy,hlen,hyl,hf⟩:=DataW.trod_struct he ht';obtain⟨_,hcl,hat⟩:=World.cells?_some hc;refine⟨n',fun j f hj=>?_⟩;obtain⟨ho,hk⟩:=hone_of hone j f hj;have hjl:j<fs.size:=(qaM.1 hj).1;have hcell:=hat j hjl;have hv:cs'[j]?=some (cs'[j]'(by omega)):=qan (by omega)
  have h1:=hf j f hj;rw [ho,hk] at h1;have hone':(cs'.drop j).take 1=[cs'[j]'(by omega)]:=by
   rw [qbi (by omega)];rfl
  rw [hone'] at h1;have hys:ys[j]?=some (ys[j]'(by omega)):=qan (by omega)
  refine⟨_,_,?_,h1.trans hys⟩;rw [←Go.Deep.add_add,hcell,hv]
end
def M9 (ls:List UInt8):List Value:=ls.map fun b=>.int .u8 (b.toNat:Nat)
def wA (w:World) (v:Value) (ls:List UInt8):Prop:=zJ w 1 v ls.length (M9 ls)
section
variable {H:Type} {enc:TypeId×Value→H} {w:World} {base fuel:Nat} {held:Bool}
variable {v:Value}
theorem HO {x:DataW H×List MemPlace} (h:DataW.trod enc qba w base (fun _=>true) held fuel 74 [v]=some x):∃ls,wA w v ls:=by
 rcases open_ints Tryz.underlying74 Tryz.underlying5 (by kernel_rfl) h with⟨hcs,_⟩|⟨a,len,cap,zs,hcs,-,hl,hm,hz,-,hcell,hwf⟩
 ·simp only [qa4,and_true] at hcs;subst hcs;exact⟨[],.inl ⟨rfl,rfl⟩⟩
 ·simp only [qa4,and_true] at hcs;subst hcs;simp only [if_true] at hz;by_cases hc0:cap=0
  ·subst hc0;have hl0:len=0:=by omega
   subst hl0;exact⟨[],.inr (.inl ⟨a,rfl,rfl⟩)⟩
  ·have hlen:((zs.take len).map fun z=>qbD z.toNat).length=len:=by
    rw [qas,qaE];omega
   refine⟨(zs.take len).map fun z=>qbD z.toNat,.inr (.inr ⟨a,cap,by rw [hlen],by omega,by rw [hlen];exact hl,qbj hm (by decide),fun i hi=>⟨_,hcell i (by omega)⟩,by rw [M9,qas,qb2],fun i c hi=>?_⟩)⟩;have hil:=(qap.1 hi).1;rw [M9,qas,hlen] at hil;rw [hcell i (by omega)];unfold M9 at hi;rw [qaN,qaN,qbm,if_pos hil,qan (by omega)] at hi;simp only [qa5,qaX] at hi;have hzi:zs.getD i 0=zs[i]'(by omega):=by
    rw [qa9,qan (by omega)];rfl
   have hb:=Cj (hwf (zs[i]'(by omega)) (qbg _))
   rw [hzi,←hi,hb.1,qep,qbL hb.2]
structure QE where
 v:Value
 ls:List UInt8
 wt:Nat
 gone:Bool
def qP (d:QE):List Value:=[d.v,.int .u32 d.wt,.bool d.gone]
theorem Lw {v0 v1 v2:Value} {n0 n1 n2:Nat} {y0 y1 y2:DataW H×List MemPlace} (t0:DataW.trod enc qba w base (fun _=>true) held n0 74 [v0]=some y0) (t1:DataW.trod enc qba w base (fun _=>true) held n1 59 [v1]=some y1) (t2:DataW.trod enc qba w base (fun _=>true) held n2 4 [v2]=some y2):
 ∃d:QE,qP d=[v0,v1,v2]∧wA w d.v d.ls∧d.wt<4294967296:=by
 obtain⟨ls,hl⟩:=HO t0;obtain⟨m,c1,-,w1⟩:=DataW.trod_int Tryz.underlying59 t1;obtain⟨b,c2,-⟩:=DataW.trod_bool qeA t2;simp only [qa4,and_true] at c1 c2;subst c1 c2;exact⟨⟨v0,ls,m.toNat,b⟩,by unfold qP;rw [←(Kn w1).1],hl,(Kn w1).2⟩
theorem AA {x:DataW H×List MemPlace} (h:DataW.trod enc qba w base (fun _=>true) held fuel 30 [v]=some x):
 ∃ms:List QE,(∀m∈ms,wA w m.v m.ls∧m.wt<4294967296)∧zJ w 3 v ms.length (ms.map qP).flatten:=by
 rcases r9 Tryz.underlying30 Tryz.underlying76 (by kernel_rfl) (by kernel_rfl) h with⟨hcs,_⟩|⟨a,len,cap,m,hcs,hl,hm,hz,hcell⟩
 ·simp only [qa4,and_true] at hcs;subst hcs;exact⟨[],(fun m hm=>by cases hm),.inl ⟨rfl,rfl⟩⟩
 ·simp only [qa4,and_true] at hcs;subst hcs;simp only [if_true] at hz;subst hz;by_cases hc0:m=0
  ·subst hc0;have hl0:len=0:=by omega
   subst hl0;exact⟨[],(fun m hm=>by cases hm),.inr (.inl ⟨a,rfl,rfl⟩)⟩
  ·obtain⟨f,hf⟩:=Classical.axiomOfChoice (r:=fun(i:Nat) (d:QE)=>i<m→(wA w d.v d.ls∧d.wt<4294967296)∧∀j,j<3→w.cell? (a.add (i*3+j))=(qP d)[j]?) (fun i=>by
    by_cases hi:i<m
    ·obtain⟨n,hfi⟩:=hcell i hi;obtain⟨u0,y0,e0,t0⟩:=hfi 0 _ rfl;obtain⟨u1,y1,e1,t1⟩:=hfi 1 _ rfl;obtain⟨u2,y2,e2,t2⟩:=hfi 2 _ rfl;obtain⟨d,hd,hlw⟩:=Lw t0 t1 t2;refine⟨d,fun _=>⟨hlw,fun j hj=>?_⟩⟩;rw [hd];have:j=0∨j=1∨j=2:=by omega
     rcases this with rfl|rfl|rfl
     ·exact e0
     ·exact e1
     ·exact e2
    ·exact⟨⟨.bool true,[],0,false⟩,fun h=>absurd h hi⟩)
   have hlen3:∀l∈((qbN len).map f).map qP,l.length=3:=fun l hl=>by
    obtain⟨d,-,rfl⟩:=qa3.1 hl;rfl
   have hll:((qbN len).map f).length=len:=by rw [qas,List.length_range]
   refine⟨(qbN len).map f,fun d hd=>?_,.inr (.inr ⟨a,m,by rw [hll],by omega,by rw [hll];exact hl,qbj hm (by decide),fun i hi=>?_,by rw [cM hlen3,qas],fun i c hi=>?_⟩)⟩
   ·obtain⟨i,hi,rfl⟩:=qa3.1 hd;exact(hf i (by have:=List.mem_range.1 hi;omega)).1
   ·have hi3:i/3<m:=by omega
    have e:i/3*3+i % 3=i:=by omega
    have:=(hf (i/3) hi3).2 (i % 3) (qbE _ (by omega));rw [e] at this;rw [this,qan (show i % 3<(qP (f (i/3))).length from qbE _ (by omega))];exact⟨_,rfl⟩
   ·have hiv:=(qap.1 hi).1;rw [cM hlen3,qas,hll] at hiv;have hi3:i/3<len:=by omega
    have e:i/3*3+i % 3=i:=by omega
    have g:=dy hlen3 (i:=i/3) (j:=i % 3) (l:=qP (f (i/3))) (by rw [qaN,qaN,qcZ hi3];rfl) (qbE _ (by omega));rw [e,hi] at g;have:=(hf (i/3) (by omega)).2 (i % 3) (qbE _ (by omega));rw [e] at this;rw [this,←g]
def D5 (w:World) (v:Value) (ls:List Nat):Prop:=(∀n∈ls,n<65536)∧zJ w 1 v ls.length (ls.map fun(n:Nat)=>Value.int .u16 n)
theorem Jo {x:Int} (h:(Lit.int .u16 x).wf=true):Value.int .u16 x= .int .u16 (x.toNat:Nat)∧x.toNat<65536:=by
 simp [Lit.wf,IntKind.min,IntKind.max,IntKind.signed,IntKind.bits] at h;rw [Int.toNat_of_nonneg (by omega)];exact⟨rfl,by omega⟩
theorem AS {x:DataW H×List MemPlace} (h:DataW.trod enc qba w base (fun _=>true) held fuel 55 [v]=some x):∃ls,D5 w v ls:=by
 rcases open_ints Tryz.underlying55 Tryz.underlying23 (by kernel_rfl) h with⟨hcs,_⟩|⟨a,len,cap,zs,hcs,-,hl,hm,hz,-,hcell,hwf⟩
 ·simp only [qa4,and_true] at hcs;subst hcs;exact⟨[],(fun n h=>by cases h),.inl ⟨rfl,rfl⟩⟩
 ·simp only [qa4,and_true] at hcs;subst hcs;simp only [if_true] at hz;by_cases hc0:cap=0
  ·subst hc0;have hl0:len=0:=by omega
   subst hl0;exact⟨[],(fun n h=>by cases h),.inr (.inl ⟨a,rfl,rfl⟩)⟩
  ·have hlen:((zs.take len).map fun z=>z.toNat).length=len:=by
    rw [qas,qaE];omega
   refine⟨(zs.take len).map fun z=>z.toNat,fun n hn=>?_,.inr (.inr ⟨a,cap,by rw [hlen],by omega,by rw [hlen];exact hl,qbj hm (by decide),fun i hi=>⟨_,hcell i (by omega)⟩,by rw [qas,qb2],fun i c hi=>?_⟩)⟩
   ·obtain⟨z,hz,rfl⟩:=qa3.1 hn;exact(Jo (hwf z (qbH hz))).2
   ·have hil:=(qap.1 hi).1;rw [qas,hlen] at hil;rw [hcell i (by omega)];rw [qaN,qaN,qbm,if_pos hil,qan (by omega)] at hi;simp only [qa5,qaX] at hi;have hzi:zs.getD i 0=zs[i]'(by omega):=by
     rw [qa9,qan (by omega)];rfl
    have hb:=Jo (hwf (zs[i]'(by omega)) (qbg _))
    rw [hzi,←hi,hb.1]
variable {cs:List Value}
theorem NC {x:DataW H×List MemPlace} (h:DataW.trod enc qba w base (fun _=>true) held fuel 58 cs=some x):
 ∃(k:Int) (v0 v1:Value) (l0 l1:List Nat),cs=[.int .u8 k,v0,v1]∧(Lit.int .u8 k).wf=true∧D5 w v0 l0∧D5 w v1 l1:=by
 obtain⟨xs,n,-,-,hlen,hxl0,hf⟩:=DataW.trod_struct Tryz.underlying58 h;have h3:qba.cellsOf 58=3:=by kernel_rfl
 rw [h3] at hlen;have k5:qba.cellsOf 5=1:=by kernel_rfl
 have k56:qba.cellsOf 56=2:=by kernel_rfl
 have k55:qba.cellsOf 55=1:=by kernel_rfl
 match cs,hlen with
 | [c0,c1,c2],_=>
  have f0:=hf 0 {name:= "Stop",type:=5,offset:=0,embedded:=false,tag:= "",pkgPath:= "",byteOffset:=0} rfl;have f1:=hf 1 {name:= "Stays",type:=56,offset:=1,embedded:=false,tag:= "",pkgPath:= "",byteOffset:=8} rfl;simp only [k5,k56,qdq,List.drop_succ_cons,qc0,qcy] at f0 f1;have some_of:∀{xs:List (DataW H×List MemPlace)} {n i:Nat} {t:TypeId} {cs:List Value},i<xs.length→DataW.trod enc qba w base (fun _=>true) held n t cs=xs[i]?→∃y,DataW.trod enc qba w base (fun _=>true) held n t cs=some y:=fun hi he=>⟨_,he.trans (qan hi)⟩
  have hxl:xs.length=2:=hxl0;obtain⟨y0,f0⟩:=some_of (by omega) f0;obtain⟨y1,f1⟩:=some_of (by omega) f1;obtain⟨m,e0,-,b0⟩:=DataW.trod_int Tryz.underlying5 f0;obtain⟨ys,n2,-,-,-,hyl,hy⟩:=DataW.trod_array Tryz.underlying56 f1;have z0:=hy 0 (by omega);have z1:=hy 1 (by omega);simp only [k55,qcN,qcG,qdq,List.drop_succ_cons,qc0,qcy] at z0 z1;obtain⟨q0,z0⟩:=some_of (by omega) z0;obtain⟨q1,z1⟩:=some_of (by omega) z1;obtain⟨l0,g0⟩:=AS z0;obtain⟨l1,g1⟩:=AS z1;simp only [qa4,and_true] at e0;subst e0;exact⟨m,c1,c2,l0,l1,rfl,b0,g0,g1⟩
end
def nN (w:World):Nat→Nat→Value→Option Value:=fun _ _ v=>Af w 1 v
theorem Yf (w:World):Y7 w [] (nN w):=fun _ _ _ _ h=>wH h
variable {b:Nat}
theorem Hz {w:World} {N:Nat→Nat→Value→Option Value} {fz:Nat} {t:TypeId} {k:Kd} {c:T Value} (h:(nZ w 0 N).get b=some (.cells t k fz c)):∃g,fz=g+1:=by
 rw [jG] at h;cases hb:w.heap[b]? with
 |none=>rw [hb] at h;cases h
 |some o=>
  rw [hb] at h;cases o with
  |cells cs t' fr=>
   cases h;exact⟨2*(9223372036854775808+cs.size+fr.2)+1,by omega⟩
  |_=>cases h
variable {v:Value}
theorem Qk {w:World} {ls:List Nat} (h:D5 w v ls):∃x,Af w 1 v=some x∧sto.jg (nZ w 0 (nN w)) ls x:=by
 obtain⟨x,h1,h2⟩:=TV (N:=nN w) (by omega) (by omega) h.2;refine⟨x,h1,h.1,?_⟩;rcases h2 with⟨rfl,h0⟩|⟨rfl,h0⟩|⟨q,off,rfl,hq,h3⟩
 ·exact .inl ⟨rfl,qaP.1 h0⟩
 ·exact .inr (.inl ⟨rfl,qaP.1 h0⟩)
 ·refine .inr (.inr ⟨q,off,_,rfl,?_⟩);rcases h3 with h3|⟨t,fz,c,h4,h5⟩
  ·exact .inl (qaP.1 (by omega))
  ·obtain⟨g,rfl⟩:=Hz h4;have c1:gO (fQ ls.length 1)=1:=c7 (by omega);have c2:bJ (fQ ls.length 1)=ls.length:=cD (by omega);refine .inr ⟨⟨?_,by rw [c2];exact qao _⟩,hq,t,.row,g,c,h4,fun i n hi=>?_⟩
   ·unfold dV;rw [cX,c1];rfl
   ·have hil:=(qap.1 hi).1;exact h5 i (.int .u16 n) _ (by omega) (by rw [qaN,hi];rfl) (pr rfl)
theorem QS {w:World} {ls:List UInt8} (h:wA w v ls):∃x,Af w 1 v=some x∧sto.p' (nZ w 0 (nN w)) ls x:=by
 obtain⟨x,h1,h2⟩:=TV (N:=nN w) (by omega) (by omega) h;refine⟨x,h1,?_⟩;rcases h2 with⟨rfl,h0⟩|⟨rfl,h0⟩|⟨q,off,rfl,hq,h3⟩
 ·exact .inl ⟨rfl,qaP.1 h0⟩
 ·exact .inr (.inl ⟨rfl,qaP.1 h0⟩)
 ·refine .inr (.inr ⟨q,off,_,rfl,?_⟩);rcases h3 with h3|⟨t,fz,c,h4,h5⟩
  ·exact .inl (qaP.1 (by omega))
  ·obtain⟨g,rfl⟩:=Hz h4;refine .inr ⟨hq,t,.row,g,c,h4,fun i b hi=>?_⟩;have hil:=(qap.1 hi).1;exact h5 i (.int .u8 (b.toNat:Nat)) _ (by omega) (by unfold M9;rw [qaN,hi];rfl) (pr rfl)
variable {n:Nat} {cs:List Value}
theorem Sk {w:World} {len:Nat} (hn0:0<n) (h:zJ w n v len cs):
 ∃x,Af w 1 v=some x∧((x= .slice none 0 0∧len=0)∨(x=Ew∧len=0)∨∃q off cp,x= .slice (some ⟨q,off,none⟩) len cp∧(len=0∨(q<(nZ w 0 (nN w)).next∧∃t fz c,(nZ w 0 (nN w)).get q=some (.cells t .row fz c)∧∀(i:Nat) (v u:Value),i<len*n→cs[i]?=some v→Af w 1 v=some u→c.get (off+i)=some u))):=by
 rcases h with⟨rfl,rfl⟩|⟨x,rfl,rfl⟩|⟨x,cap,rfl,hc0,hlc,hcap,hall,hcl,hcell⟩
 ·exact⟨_,IM,.inl ⟨rfl,rfl⟩⟩
 ·exact⟨_,IL,.inr (.inl ⟨rfl,rfl⟩)⟩
 ·have hpos:0<cap*n:=Nat.mul_pos hc0 hn0;obtain⟨u0,hu0⟩:=hall 0 hpos;have hsp:=Aw hu0;obtain⟨xb,xo,xs⟩:=x;simp only at hsp;subst hsp;have h1:bJ (fQ len 1)=len:=cD (by omega);have h2:gO (fQ len 1)=1:=c7 (by omega);have hnp:¬nv (.slice (some ⟨xb,xo,none⟩) len cap)=true:=by simp [nv]
  obtain⟨u,hu⟩:=hall (cap*n-1) (by omega);obtain⟨cs',t,fr,hw,hu2⟩:=vU rfl hu;have hsz:=(qaM.1 hu2).1;have hblk:xb<w.heap.size:=(qaM.1 hw).1;have hcn:cap≤cap*n:=Nat.le_mul_of_pos_right _ hn0;have hreal:VR (ub w []) (.slice (some ⟨xb,xo,none⟩) len (fQ len 1)) (.slice (some ⟨xb,xo,none⟩) len cap):=by
   refine VR.slX (l:=⟨xb,0,cs'.size⟩) (o':=xo) (zt hw) (cX _ _) (by rw [h1];exact hlc) ?_ (fun _=>by simp) hcap (by rw [h1];exact qao _);rw [h2];have e:xo+(cap*n-1)<cs'.size:=hsz;show xo+cap*1≤cs'.size;omega
  refine⟨.slice (some ⟨xb,xo,none⟩) len (fQ len 1),?_,.inr (.inr ⟨xb,xo,_,rfl,.inr ⟨hblk,t,_,_,by rw [jG,hw];rfl,fun i v u hi hv hu=>AY ?_ hu⟩⟩)⟩
  ·unfold Af;rw [if_neg hnp];simp only [if_neg (show¬(len=0∧cap=0) by omega),if_pos hreal]
  ·obtain⟨cs2,t2,fr2,hw2,hv2⟩:=vU rfl (hcell i v hv);rw [hw] at hw2;cases hw2;rw [qaU];exact hv2
def WR (w:World) (m:QE):sto.DT:=⟨(Af w 1 m.v).getD Ew,m.ls,m.wt,m.gone⟩
theorem Wg {w:World} {m:QE} (h:wA w m.v m.ls):Af w 1 m.v=some (WR w m).xl∧sto.p' (nZ w 0 (nN w)) (WR w m).ls (WR w m).xl:=by
 obtain⟨x,h1,h2⟩:=QS h;have e:(WR w m).xl=x:=by unfold WR;rw [h1];rfl
 rw [e];exact⟨h1,h2⟩
theorem NI {w:World} {ms:List QE} (hl:∀m∈ms,wA w m.v m.ls) (h:zJ w 3 v ms.length (ms.map qP).flatten):∃x,Af w 1 v=some x∧sto.Gt (nZ w 0 (nN w)) (ms.map (WR w)) x:=by
 obtain⟨x,h1,h2⟩:=Sk (by omega) h;refine⟨x,h1,?_⟩;rcases h2 with⟨rfl,h0⟩|⟨rfl,h0⟩|⟨q,off,cp,rfl,h3⟩
 ·rw [qaP.1 h0];exact .inl ⟨rfl,rfl⟩
 ·rw [qaP.1 h0];exact .inr (.inl ⟨rfl,rfl⟩)
 ·refine .inr (.inr ⟨q,off,cp,by rw [qas],?_⟩);rcases h3 with h0|⟨hq,t,fz,c,h4,h5⟩
  ·rw [qaP.1 h0];exact .inl rfl
  ·obtain⟨gz,rfl⟩:=Hz h4;refine .inr ⟨hq,t,.row,gz,c,h4,fun i d hi=>?_⟩;rw [qaN] at hi;obtain⟨m,hm,rfl⟩:=Option.map_eq_some_iff.1 hi;have hil:=(qap.1 hm).1;obtain⟨x1,x2⟩:=Wg (hl m (qa0 hm));have hlen3:∀l∈ms.map qP,l.length=3:=fun l hl=>by
    obtain⟨d,-,rfl⟩:=qa3.1 hl;rfl
   have g:∀{j:Nat} {v u:Value},j<3→(qP m)[j]?=some v→Af w 1 v=some u→c.get (off+(i*3+j))=some u:=fun {j v u} hj hv hu=>
    h5 (i*3+j) v u (by omega) (by rw [dy hlen3 (l:=qP m) (by rw [qaN,hm];rfl) hj];exact hv) hu
   have g0:=g (j:=0) (by omega) rfl x1;have g1:=g (j:=1) (by omega) rfl (pr rfl);have g2:=g (j:=2) (by omega) rfl (pr rfl);simp only [qa8,←qck] at g0 g1 g2;exact⟨g0,g1,g2,x2⟩
theorem walk (hk:b9 sto.cg.P 19 (aK sto.ud)) (vd ve v0 v1:Value) (k:Int) (ds es:List QE) (l0 l1:List Nat) (w:World) (hd:∀m∈ds,wA w m.v m.ls∧m.wt<4294967296) (pd:zJ w 3 vd ds.length (ds.map qP).flatten) (he:∀m∈es,wA w m.v m.ls∧m.wt<4294967296) (pe:zJ w 3 ve es.length (es.map qP).flatten)
 (wk:(Lit.int .u8 k).wf=true) (u0:D5 w v0 l0) (u1:D5 w v1 l1):
 Calls qba 4 #[vd,ve,.agg ⟨[.int .u8 k,v0,v1]⟩] w fun e w'=>e= .returned (.bool true)∧Below w.heap.size w w':=by
 refine(?_:Calls qba 4 #[vd,ve,.agg ⟨[.int .u8 k,v0,v1]⟩] w fun e w'=>e= .returned (.bool true)∧Go.Am.Leaves w w').mono fun e w' h=>⟨h.1,h.2.below⟩
 obtain⟨xd,d1,d2⟩:=NI (fun m hm=>(hd m hm).1) pd;obtain⟨xe,e1,e2⟩:=NI (fun m hm=>(he m hm).1) pe;obtain⟨x0,a1,a2⟩:=Qk u0;obtain⟨x1,b1,b2⟩:=Qk u1;rw [(Cj wk).1];refine KD (sto.zm hk) [] (fun l hl=>by cases hl) (Yf w) (sto.aq qeJ) sto.Nk (args:=[xd,xe,.agg ⟨[.int .u8 (k.toNat:Nat),x0,x1]⟩])
  (.cons (wH d1) (.cons (wH e1) (.cons (.agg (.cons (.int _ _) (.cons (wH a1) (.cons (wH b1) .nil)))) .nil))) ?_
 obtain⟨u,A',h1,rfl⟩:=sto.SP d2 e2 (fun d hd'=>by
  obtain⟨m,hm,rfl⟩:=qa3.1 hd';exact(hd m hm).2) (fun d hd'=>by
  obtain⟨m,hm,rfl⟩:=qa3.1 hd';exact(he m hm).2) (Cj wk).2 a2 b2
 exact⟨A',Ag (sto.aq qeJ) sto.Nk (by kernel_rfl) (by kernel_rfl) h1⟩
def rT:List (String×DataW Unit):=[("math/bits.deBruijn32tab",Rows.laid_math_bits_deBruijn32tab),("math/bits.deBruijn64tab",Rows.laid_math_bits_deBruijn64tab),("internal/strconv.uint64pow10",Rows.laid_internal_strconv_uint64pow10)]
theorem Ya (os:Os):(World.holding qba os ⟨#[], #[],[]⟩).layFits qba rT []=true:=by kernel_rfl
theorem Yb (os:Os):(World.holding qba os ⟨#[], #[],[]⟩).layIfaces qba rT (World.laidAll qba os rT)=true:=by kernel_rfl
theorem NH (os:Os) (args:Array Value):laidMetH qba rT ((World.laidAll qba os rT).forCall (fun _ _=>0) ⟨#[],args,[]⟩).memory:=by
 rw [Go.MakeChecks.laidMetH_plain _ _ _ (by kernel_rfl)];exact laidMet_laidAll _ (Ya os) (Yb os)
theorem lifted (hk:b9 sto.cg.P 19 (aK sto.ud)) (os:Os) (started:os.Started) (H:Type) (enc:TypeId×Value→H):
 ReturnsInHanded {} qcO os 4 .any (fun w args=>(Rows.storeLastsSpec.pre enc qba qbC [] false w args∧laidMetH qba rT w)∧sizedMet enc qba qbC (OpenSpec.ofChange Rows.storeLastsSpec) false w args)
  (Rows.storeLastsSpec.post enc qba qbC false true false false):=by
 refine returnsInHanded_of_change_and (C:=qcO) (X:=fun w _=>laidMetH qba rT w) (fun _ _ _ hh h=>h.of_heap hh) own started (by kernel_rfl) qeJ
  (ChangeSpec.witness_shaped (enc:=enc) (C:=qcO) (os:=os) (X:=fun w _=>laidMetH qba rT w) false (World.laidAll qba os rT) #[.slice none 0 0,.slice none 0 0,.agg #[.int .u8 0,.slice none 0 0,.slice none 0 0]] 12 (World.laidAll_os _ _ _) (World.shaped_of_ZipB (by kernel_rfl) (by kernel_rfl)) (by kernel_rfl) (by kernel_rfl) (by kernel_rfl) (NH os _)) ?_
 intro W base args ds gs before hval0 hW hcnd _ hL _;have hval:∀(j:Nat) t v,qbC.params[j]?=some t→args[j]?=some v→Value.okWide qba W .any base t v:=hval0;have hW':=hW;obtain⟨p,q,hA0,hV,rfl,hfz,hnd⟩:=hW;have hA:DataW.TrodAll enc qba W 0 (fun _=>true) true qbC.params.toList args.toList ds p:=hA0;rw [Tryz.params4] at hA hval;obtain⟨v0,vs0,d0,ds0,p0,q0,hargs,rfl,rfl,h0,r0⟩:=trodAll_cons hA;obtain⟨v1,vs1,d1,ds1,p1,q1,rfl,rfl,rfl,h1,r1⟩:=trodAll_cons r0;obtain⟨v2,vs2,d2,ds2,p2,q2,rfl,rfl,rfl,h2,r2⟩:=trodAll_cons r1;obtain⟨rfl,rfl,rfl⟩:=trodAll_nil r2;obtain rfl:args= #[v0,v1,v2]:=by cases args;simp_all
 obtain⟨rfl,rfl⟩:=trodVars_none hV;have k0:=h0;have lt0:∀x∈p0,x.block<W.heap.size:=by obtain⟨m,hm⟩:=k0;exact DataW.trod_lt m _ _ _ hm
 have k1:=h1;have lt1:∀x∈p1,x.block<W.heap.size:=by obtain⟨m,hm⟩:=k1;exact DataW.trod_lt m _ _ _ hm
 have k2:=h2;have lt2:∀x∈p2,x.block<W.heap.size:=by obtain⟨m,hm⟩:=k2;exact DataW.trod_lt m _ _ _ hm
 obtain⟨cs2,rfl,-⟩:=okWide_struct Tryz.underlying58 (hval 2 58 v2 rfl rfl);obtain⟨a0,n0,c0,rfl⟩:=okWide_slice Tryz.underlying30 (hval 0 30 v0 rfl rfl);obtain⟨a1,n1,c1,rfl⟩:=okWide_slice Tryz.underlying30 (hval 1 30 v1 rfl rfl);obtain⟨md,hmd,pmd⟩:∃ms:List QE,(∀m∈ms,wA W m.v m.ls∧m.wt<4294967296)∧zJ W 3 (.slice a0 n0 c0) ms.length (ms.map qP).flatten:=by
  obtain⟨fuel,hf⟩:=h0;exact AA hf
 obtain⟨me,hme,pme⟩:∃ms:List QE,(∀m∈ms,wA W m.v m.ls∧m.wt<4294967296)∧zJ W 3 (.slice a1 n1 c1) ms.length (ms.map qP).flatten:=by
  obtain⟨fuel,hf⟩:=h1;exact AA hf
 obtain⟨k,u0,u1,l0,l1,e0,wk,g0,g1⟩:∃(k:Int) (v0 v1:Value) (l0 l1:List Nat),cs2.toList=[.int .u8 k,v0,v1]∧(Lit.int .u8 k).wf=true∧D5 W v0 l0∧D5 W v1 l1:=by
  obtain⟨fuel,hf⟩:=h2;exact NC hf
 obtain rfl:cs2=⟨[.int .u8 k,u0,u1]⟩:=by rw [←e0]
 clear hA0 hval0;refine(walk hk (.slice a0 n0 c0) (.slice a1 n1 c1) u0 u1 k md me l0 l1 W hmd pmd hme pme wk g0 g1).mono fun e W' ⟨he,bel⟩=>?_
 subst he;exact⟨_,rfl,_,_,_,[],_,[],hW',trodAll_mk1 (shut_bool qeA _),(trodAll_cons_mk (Below.trod laidOut (by kernel_rfl) (of_decide_eq_true (by kernel_rfl)) k0 bel lt0) (trodAll_cons_mk (Below.trod laidOut (by kernel_rfl) (of_decide_eq_true (by kernel_rfl)) k1 bel lt1) (trodAll_cons_mk (Below.trod laidOut (by kernel_rfl) (of_decide_eq_true (by kernel_rfl)) k2 bel lt2) trodAll_mk0))),rfl,bel.frame _,fun h=>by cases h⟩
end Go.Proofs.YtjoceidiioppiaaGreatDoor.storeLasts
end
