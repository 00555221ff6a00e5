/- The abstract machine, the walk of the law and its plain laws, made small by a program; part 10: no conditions but those in each theorem. -/
import Derived.Test.YtdobfpkceacneaaGreatDoorQ09
import Derived.Test.YtdobfpkceacneaaGreatDoorRows
import Derived.WalkKit
import Derived.ProofKit
import Derived.OpenShut
import Derived.ShutString
import Derived.ChangeOld
import Derived.Below
import Derived.Deep.Slices
import Derived.Deep.Fields
import Derived.ChangeSame
import Derived.MakeChecks
import Derived.LaidMore
import Derived.Lay
import Derived.Stop.Joined
import Derived.ChangeMaps5
set_option maxHeartbeats 16000000
set_option maxRecDepth 100000
set_option linter.unusedSimpArgs false
set_option linter.unusedVariables false
set_option linter.defProp false
noncomputable section
open Array renaming getElem?_eq_getElem→D6,getElem?_eq_some_iff→fU,getElem?_toList→fW
open List.cons renaming injEq→ff
open List renaming drop_eq_getElem_cons→nb,drop_zero→vZ,getD_eq_getElem?_getD→ow,getElem?_eq_getElem→aV,getElem?_eq_some_iff→bg,getElem?_map→da,getElem?_range→zN,getElem?_take→oz,getElem_mem→ik,length→Z,length_eq_zero_iff→eQ,length_map→aR,length_take→db,mem_map→dA,mem_of_getElem?→fh,range→jE,take_succ_cons→Ee,take_zero→zT
open Nat renaming add_assoc→rG,add_zero→dN,le_refl→aJ,lt_of_le_of_lt→pU,mod_eq_of_lt→rH,mod_lt→iU,mul_one→nf,one_mul→ta,zero_mul→oB
open Option renaming map_some→fZ,none→Y,some→U
open Option.some renaming injEq→eM
open Go renaming Program→cI,TypeId→aj,Value→O,World→aG
open Go.Proofs.Tryz renaming checked→uq,f3→hU,func3→BX,prog→dq,underlying4→HH,underlying5→HI
open UInt8 renaming ofNat→lZ,toNat_ofNat'→HK
open Bool renaming false→af,true→aa
namespace Go.Proofs.YtdobfpkceacneaaGreatDoor.compactGone
open Go.ChangeShapes Go.WideMaps Go.WideElems Go.WideShapes Go.ChangeAt Go.RowKit Go.Deep Go.Am
open Go.ChangeMaps (open_string shut_string)
def own:ownKnob dq.godebug=Y:=by kernel_rfl
def laidOut:laidOutB dq=aa:=by kernel_rfl
def Cq{x:Int}(h:(Lit.int .u8 x).wf=aa):Value.int .u8 x=.int .u8 (x.toNat:Nat)/\x.toNat<256:=by
 obtain⟨h0,h1⟩:=bounds_u8 h;rw[Int.toNat_of_nonneg h0];exact⟨rfl,by omega⟩
def UE{x:Int}(h:(Lit.int .u32 x).wf=aa):Value.int .u32 x=.int .u32 (x.toNat:Nat)/\x.toNat<4294967296:=by
 simp[Lit.wf,IntKind.min,IntKind.max,IntKind.signed,IntKind.bits]at h;rw[Int.toNat_of_nonneg (by omega)];exact⟨rfl,by omega⟩
section
variable {H:Type}{enc:aj×O->H}{P:cI}{w:aG}{base:Nat}{spare:Nat->Bool}{held:Bool}
def qc7{t e:aj}{fs:Array Field}{fuel:Nat}{cs:List O}{x:DataW H×List MemPlace}(ht:P.underlying t=U (.slice e))(he:P.underlying e=U (.struct fs))
 (hone:oneCellFields P fs=aa)(hC:P.cellsOf e=fs.size)(h:DataW.trod enc P w base spare held fuel t cs=U x):
 (cs=[.slice Y 0 0]/\x=(.nil,[]))\/
 ∃(a:Addr) (len cap m:Nat),cs=[.slice (U a) len cap]/\len<=cap/\cap<=maxLen/\m=(if spare a.block then cap else len)/\
  ∀i,i<m->∃(n:Nat),∀(j:Nat) (f:Field),fs[j]?=U f->∃(v:O) (y:DataW H×List MemPlace),w.cell? (a.add (i*fs.size+j))=U v/\DataW.trod enc P w base spare held n f.type [v]=U y:=by
 rcases open_slice ht h with h0|⟨a,len,cap,m,n,D,Pl,hcs,hb,hl,hm,hmm,hx,hi⟩
 .exact .inl h0
 .refine .inr ⟨a,len,cap,m,hcs,hl,hm,hmm,λ i him=>?_⟩;obtain⟨cs',hc,ht'⟩:=hi i him;rw[hC]at hc;obtain⟨ys,n',hn',hy,hlen,hyl,hf⟩:=DataW.trod_struct he ht';obtain⟨_,hcl,hat⟩:=World.cells?_some hc;refine⟨n',λ j f hj=>?_⟩;obtain⟨ho,hk⟩:=hone_of hone j f hj;have hjl:j<fs.size:=(fU.1 hj).1;have hcell:=hat j hjl;have hv:cs'[j]?=U (cs'[j]'(by omega)):=aV (by omega)
  have h1:=hf j f hj;rw[ho,hk]at h1;have hone':(cs'.drop j).take 1=[cs'[j]'(by omega)]:=by
   rw[nb (by omega)];rfl
  rw[hone']at h1;have hys:ys[j]?=U (ys[j]'(by omega)):=aV (by omega)
  refine⟨_,_,?_,h1.trans hys⟩;rw[<-Go.Deep.add_add,hcell,hv]
end
def Cp(ls:List UInt8):List O:=ls.map λ b=>.int .u8 (b.toNat:Nat)
def xY(w:aG)(v:O)(ls:List UInt8):Prop:=qB w 1 v (Z ls) (Cp ls)
section
variable {H:Type}{enc:aj×O->H}{w:aG}{base fuel:Nat}{held:Bool}
def qbC{v:O}{x:DataW H×List MemPlace}(h:DataW.trod enc dq w base (λ _=>aa) held fuel 123 [v]=U x):∃ls,xY w v ls:=by
 rcases open_ints Tryz.underlying123 HI (by kernel_rfl) h with⟨hcs,_⟩|⟨a,len,cap,zs,hcs,-,hl,hm,hz,-,hcell,hwf⟩
 .simp only[ff,and_true]at hcs;subst hcs;exact⟨[],.inl ⟨rfl,rfl⟩⟩
 .simp only[ff,and_true]at hcs;subst hcs;simp only[bR]at hz;by_cases hc0:cap=0
  .subst hc0;have hl0:len=0:=by omega
   subst hl0;exact⟨[],.inr (.inl ⟨a,rfl,rfl⟩)⟩
  .have hlen:((zs.take len).map λ z=>lZ z.toNat).length=len:=by
    rw[aR,db];omega
   refine⟨(zs.take len).map λ z=>lZ z.toNat,.inr (.inr ⟨a,cap,by rw[hlen],by omega,by rw[hlen];exact hl,pU hm (by decide),λ i hi=>⟨_,hcell i (by omega)⟩,by rw[Cp,aR,nf],λ i c hi=>?_⟩)⟩;have hil:=(bg.1 hi).1;rw[Cp,aR,hlen]at hil;rw[hcell i (by omega)];unfold Cp at hi;rw[da,da,oz,aC hil,aV (by omega)]at hi;simp only[fZ,eM]at hi;have hzi:zs.getD i 0=zs[i]'(by omega):=by
    rw[ow,aV (by omega)];rfl
   have hb:=Cq (hwf (zs[i]'(by omega)) (ik _))
   rw[hzi,<-hi,hb.1,HK,rH hb.2]
structure qv where
 v:O
 ls:List UInt8
 wt:Nat
 gone:Bool
def CH(d:qv):List O:=[d.v,.int .u32 d.wt,.bool d.gone]
def qcU{v0 v1 v2:O}{n0 n1 n2:Nat}{y0 y1 y2:DataW H×List MemPlace}(t0:DataW.trod enc dq w base (λ _=>aa) held n0 123 [v0]=U y0)(t1:DataW.trod enc dq w base (λ _=>aa) held n1 42 [v1]=U y1)(t2:DataW.trod enc dq w base (λ _=>aa) held n2 4 [v2]=U y2):
 ∃d:qv,CH d=[v0,v1,v2]/\xY w d.v d.ls/\d.wt<4294967296:=by
 obtain⟨ls,hl⟩:=qbC t0;obtain⟨m,c1,-,w1⟩:=DataW.trod_int Tryz.underlying42 t1;obtain⟨b,c2,-⟩:=DataW.trod_bool HH t2;simp only[ff,and_true]at c1 c2;subst c1 c2;exact⟨⟨v0,ls,m.toNat,b⟩,by unfold CH;rw[<-(UE w1).1],hl,(UE w1).2⟩
def qd2{D:Type}{C:D->List O}{Q:D->Prop}{t e:aj}{fs:Array Field}{v:O}{x:DataW H×List MemPlace}(hlen:∀d,(C d).length=3)(ht:dq.underlying t=U (.slice e))(he:dq.underlying e=U (.struct fs))(h1:oneCellFields dq fs=aa)(h2:dq.cellsOf e=fs.size)(hfs:fs.size=3)(d0:D)
 (one:∀(w0 w1 w2:O),(∃n y,DataW.trod enc dq w base (λ _=>aa) held n ((fs[0]?.map Field.type).getD 0) [w0]=U y)->(∃n y,DataW.trod enc dq w base (λ _=>aa) held n ((fs[1]?.map Field.type).getD 0) [w1]=U y)->(∃n y,DataW.trod enc dq w base (λ _=>aa) held n ((fs[2]?.map Field.type).getD 0) [w2]=U y)->∃d,C d=[w0,w1,w2]/\Q d)
 (h:DataW.trod enc dq w base (λ _=>aa) held fuel t [v]=U x):
 ∃ms:List D,(∀m∈ms,Q m)/\qB w 3 v (Z ms) (ms.map C).flatten:=by
 rcases qc7 ht he h1 h2 h with⟨hcs,_⟩|⟨a,len,cap,m,hcs,hl,hm,hz,hcell⟩
 .simp only[ff,and_true]at hcs;subst hcs;exact⟨[],(λ m hm=>by cases hm),.inl ⟨rfl,rfl⟩⟩
 .simp only[ff,and_true]at hcs;subst hcs;simp only[bR]at hz;subst hz;by_cases hc0:m=0
  .subst hc0;have hl0:len=0:=by omega
   subst hl0;exact⟨[],(λ m hm=>by cases hm),.inr (.inl ⟨a,rfl,rfl⟩)⟩
  .obtain⟨f,hf⟩:=Classical.axiomOfChoice (r:=λ(i:Nat) (d:D)=>i<m->Q d/\∀j,j<3->w.cell? (a.add (i*3+j))=(C d)[j]?) (λ i=>by
    by_cases hi:i<m
    .obtain⟨n,hfi⟩:=hcell i hi;rw[hfs]at hfi;have fj:∀j,j<3->∃v,w.cell? (a.add (i*3+j))=U v/\∃n y,DataW.trod enc dq w base (λ _=>aa) held n ((fs[j]?.map Field.type).getD 0) [v]=U y:=λ j hj=>by
      have hq:fs[j]?=U (fs[j]'(by omega)):=D6 (by omega)
      obtain⟨v,y,e,t⟩:=hfi j _ hq;rw[hq];exact⟨v,e,n,y,t⟩
     obtain⟨u0,e0,t0⟩:=fj 0 (by omega);obtain⟨u1,e1,t1⟩:=fj 1 (by omega);obtain⟨u2,e2,t2⟩:=fj 2 (by omega);obtain⟨d,hd,hlw⟩:=one u0 u1 u2 t0 t1 t2;refine⟨d,λ _=>⟨hlw,λ j hj=>?_⟩⟩;rw[hd];have:j=0\/j=1\/j=2:=by omega
     rcases this with rfl|rfl|rfl
     .exact e0
     .exact e1
     .exact e2
    .exact⟨d0,λ h=>aZ h hi⟩)
   have hlen3:∀l∈((jE len).map f).map C,Z l=3:=λ l hl=>by
    obtain⟨d,-,rfl⟩:=dA.1 hl;exact hlen d
   have hll:((jE len).map f).length=len:=by rw[aR,List.length_range]
   refine⟨(jE len).map f,λ d hd=>?_,.inr (.inr ⟨a,m,by rw[hll],by omega,by rw[hll];exact hl,pU hm (by decide),λ i hi=>?_,by rw[ic hlen3,aR],λ i c hi=>?_⟩)⟩
   .obtain⟨i,hi,rfl⟩:=dA.1 hd;exact(hf i (by have:=List.mem_range.1 hi;omega)).1
   .have hi3:i/3<m:=by omega
    have e:i/3*3+i % 3=i:=by omega
    have:=(hf (i/3) hi3).2 (i % 3) (iU _ (by omega));rw[e]at this;rw[this,aV (show i % 3<(C (f (i/3))).length by rw[hlen];exact iU _ (by omega))];exact⟨_,rfl⟩
   .have hiv:=(bg.1 hi).1;rw[ic hlen3,aR,hll]at hiv;have hi3:i/3<len:=by omega
    have e:i/3*3+i % 3=i:=by omega
    have g:=nz hlen3 (i:=i/3) (j:=i % 3) (l:=C (f (i/3))) (by rw[da,da,zN hi3];rfl) (iU _ (by omega));rw[e,hi]at g;have:=(hf (i/3) (by omega)).2 (i % 3) (iU _ (by omega));rw[e]at this;rw[this,<-g]
def YQ{v:O}{x:DataW H×List MemPlace}(h:DataW.trod enc dq w base (λ _=>aa) held fuel 64 [v]=U x):
 ∃ms:List qv,(∀m∈ms,xY w m.v m.ls/\m.wt<4294967296)/\qB w 3 v (Z ms) (ms.map CH).flatten:=
 qd2 (λ _=>rfl) Tryz.underlying64 Tryz.underlying205 (by kernel_rfl) (by kernel_rfl) rfl ⟨.bool aa,[],0,af⟩ (λ _ _ _ ⟨_,_,t0⟩ ⟨_,_,t1⟩ ⟨_,_,t2⟩=>qcU t0 t1 t2) h
def qC(w:aG)(p:O×List qv):Prop:=(∀m∈p.2,xY w m.v m.ls/\m.wt<4294967296)/\qB w 3 p.1 p.2.length (p.2.map CH).flatten
def qd0{v:O}{x:DataW H×List MemPlace}(h:DataW.trod enc dq w base (λ _=>aa) held fuel 22 [v]=U x):
 ∃ps:List (O×List qv),(∀p∈ps,qC w p)/\qB w 1 v (Z ps) (ps.map (·.1)):=by
 have h1:dq.cellsOf 64=1:=by kernel_rfl
 rcases open_slice Tryz.underlying22 h with⟨hcs,_⟩|⟨a,len,cap,m,n,D,Pl,hcs,hb,hl,hm,hz,hx,hi⟩
 .simp only[ff,and_true]at hcs;subst hcs;exact⟨[],(λ m hm=>by cases hm),.inl ⟨rfl,rfl⟩⟩
 .simp only[ff,and_true]at hcs;subst hcs;simp only[bR]at hz;subst hz;by_cases hc0:m=0
  .subst hc0;have hl0:len=0:=by omega
   subst hl0;exact⟨[],(λ m hm=>by cases hm),.inr (.inl ⟨a,rfl,rfl⟩)⟩
  .obtain⟨f,hf⟩:=Classical.axiomOfChoice (r:=λ(i:Nat) (p:O×List qv)=>i<m->qC w p/\w.cell? (a.add i)=U p.1) (λ i=>by
    by_cases him:i<m
    .obtain⟨cs',hc,ht'⟩:=hi i him;rw[h1]at hc;obtain⟨_,hcl,hat⟩:=World.cells?_some hc;have hc0:=hat 0 (by omega)
     match cs',hcl with
     | [c],_=>
      obtain⟨ms,g1,g2⟩:=YQ ht';refine⟨(c,ms),λ _=>⟨⟨g1,g2⟩,?_⟩⟩;have e:(a.add (i*1)).add 0=a.add i:=by rw[nf];rfl
      rw[e]at hc0;exact hc0
    .exact⟨(.bool aa,[]),λ h=>aZ h him⟩)
   have hll:((jE len).map f).length=len:=by rw[aR,List.length_range]
   refine⟨(jE len).map f,λ d hd=>?_,.inr (.inr ⟨a,m,by rw[hll],by omega,by rw[hll];exact hl,pU hm (by decide),λ i hi=>⟨_,(hf i (by omega)).2⟩,by rw[aR,nf],λ i c hi=>?_⟩)⟩
   .obtain⟨i,hi,rfl⟩:=dA.1 hd;exact(hf i (by have:=List.mem_range.1 hi;omega)).1
   .have hil:=(bg.1 hi).1;rw[aR,hll]at hil;rw[da,da,zN hil]at hi;cases hi;exact(hf i (by omega)).2
def Vp{cs:List O}{x:DataW H×List MemPlace}(h:DataW.trod enc dq w base (λ _=>aa) held fuel 23 cs=U x):
 ∃a b:Int,cs=[.int .u8 a,.int .u8 b]/\(Lit.int .u8 a).wf=aa/\(Lit.int .u8 b).wf=aa:=by
 obtain⟨xs,n,-,-,hlen,hxl,hf⟩:=DataW.trod_array Tryz.underlying23 h;have h2:dq.cellsOf 23=2:=by kernel_rfl
 have h5:dq.cellsOf 5=1:=by kernel_rfl
 rw[h2]at hlen
 match cs,hlen with
 | [c0,c1],_=>
  have f0:=hf 0 (by omega);have f1:=hf 1 (by omega);simp only[h5,oB,ta,vZ,List.drop_succ_cons,Ee,zT]at f0 f1;rw[aV (by omega)]at f0 f1;obtain⟨a,e0,-,w0⟩:=DataW.trod_int HI f0;obtain⟨b,e1,-,w1⟩:=DataW.trod_int HI f1;simp only[ff,and_true]at e0 e1;subst e0 e1;exact⟨a,b,rfl,w0,w1⟩
end
def nN(w:aG):Nat->Nat->O->Option O:=λ _ _ v=>jI w 1 v
def qch(w:aG):Hr w [] (nN w):=λ _ _ _ _ h=>Mh h
variable {b:Nat}
def OM{w:aG}{N:Nat->Nat->O->Option O}{fz:Nat}{t:aj}{k:Kd}{c:T O}(h:(pO w 0 N).get b=U (.cells t k fz c)):∃g,fz=g+1:=by
 rw[Bm]at h;cases hb:w.heap[b]? with
 |none=>rw[hb]at h;cases h
 |some o=>
  rw[hb]at h;cases o with
  |cells cs t' fr=>
   cases h;exact⟨2*(9223372036854775808+cs.size+fr.2)+1,by omega⟩
  |_=>cases h
def WU{w:aG}{ls:List UInt8}{v:O}(h:xY w v ls):∃x,jI w 1 v=U x/\sto.m9 (pO w 0 (nN w)) ls x:=by
 obtain⟨x,h1,h2⟩:=qdf (N:=nN w) (by omega) (by omega) h;refine⟨x,h1,?_⟩;rcases h2 with⟨rfl,h0⟩|⟨rfl,h0⟩|⟨q,off,rfl,hq,h3⟩
 .exact .inl ⟨rfl,eQ.1 h0⟩
 .exact .inr (.inl ⟨rfl,eQ.1 h0⟩)
 .refine .inr (.inr ⟨q,off,_,rfl,?_⟩);rcases h3 with h3|⟨t,fz,c,h4,h5⟩
  .exact .inl (eQ.1 (by omega))
  .obtain⟨g,rfl⟩:=OM h4;refine .inr ⟨hq,t,.row,g,c,h4,λ i b hi=>?_⟩;have hil:=(bg.1 hi).1;exact h5 i (.int .u8 (b.toNat:Nat)) _ (by omega) (by unfold Cp;rw[da,hi];rfl) (HR rfl)
variable {n:Nat}
def Rn{w:aG}{v:O}{len:Nat}{cs:List O}(hn0:0<n)(h:qB w n v len cs):
 ∃x,jI w 1 v=U x/\((x=.slice Y 0 0/\len=0)\/(x=uI/\len=0)\/∃q off cp,x=.slice (U ⟨q,off,Y⟩) len cp/\(len=0\/(q<(pO w 0 (nN w)).next/\∃t fz c,(pO w 0 (nN w)).get q=U (.cells t .row fz c)/\∀(i:Nat) (v u:O),i<len*n->cs[i]?=U v->jI w 1 v=U u->c.get (off+i)=U u))):=by
 rcases h with⟨rfl,rfl⟩|⟨x,rfl,rfl⟩|⟨x,cap,rfl,hc0,hlc,hcap,hall,hcl,hcell⟩
 .exact⟨_,Mj,.inl ⟨rfl,rfl⟩⟩
 .exact⟨_,Mi,.inr (.inl ⟨rfl,rfl⟩)⟩
 .have hpos:0<cap*n:=Nat.mul_pos hc0 hn0;obtain⟨u0,hu0⟩:=hall 0 hpos;have hsp:=Nf hu0;obtain⟨xb,xo,xs⟩:=x;simp only at hsp;subst hsp;have h1:bH (cu len 1)=len:=gB (by omega);have h2:gM (cu len 1)=1:=lj (by omega);have hnp:¬u7 (.slice (U ⟨xb,xo,Y⟩) len cap)=aa:=by simp[u7]
  obtain⟨u,hu⟩:=hall (cap*n-1) (by omega);obtain⟨cs',t,fr,hw,hu2⟩:=EW rfl hu;have hsz:=(fU.1 hu2).1;have hblk:xb<w.heap.size:=(fU.1 hw).1;have hcn:cap<=cap*n:=Nat.le_mul_of_pos_right _ hn0;have hreal:VR (qq w []) (.slice (U ⟨xb,xo,Y⟩) len (cu len 1)) (.slice (U ⟨xb,xo,Y⟩) len cap):=by
   refine VR.slX (l:=⟨xb,0,cs'.size⟩) (o':=xo) (Uv hw) (iK _ _) (by rw[h1];exact hlc) ?_ (λ _=>by simp) hcap (by rw[h1];exact aJ _);rw[h2];have e:xo+(cap*n-1)<cs'.size:=hsz;show xo+cap*1<=cs'.size;omega
  refine⟨.slice (U ⟨xb,xo,Y⟩) len (cu len 1),?_,.inr (.inr ⟨xb,xo,_,rfl,.inr ⟨hblk,t,_,_,by rw[Bm,hw];rfl,λ i v u hi hv hu=>PC ?_ hu⟩⟩)⟩
  .unfold jI;rw[aq hnp];simp only[aq (show¬(len=0/\cap=0) by omega),aC hreal]
  .obtain⟨cs2,t2,fr2,hw2,hv2⟩:=EW rfl (hcell i v hv);rw[hw]at hw2;cases hw2;rw[fW];exact hv2
def zr(w:aG)(m:qv):sto.gJ:=⟨(jI w 1 m.v).getD uI,m.ls,m.wt,m.gone⟩
def qio{w:aG}{m:qv}(h:xY w m.v m.ls):jI w 1 m.v=U (zr w m).xl/\sto.m9 (pO w 0 (nN w)) (zr w m).ls (zr w m).xl:=by
 obtain⟨x,h1,h2⟩:=WU h;have e:(zr w m).xl=x:=by unfold zr;rw[h1];rfl
 rw[e];exact⟨h1,h2⟩
def qdW{w:aG}{D:Type}{C:D->List O}{v:O}{ms:List D}(hlen:∀d,(C d).length=3)(h:qB w 3 v (Z ms) (ms.map C).flatten):∃x,jI w 1 v=U x/\((x=.slice Y 0 0/\ms=[])\/(x=uI/\ms=[])\/∃q off cp,x=.slice (U ⟨q,off,Y⟩) (Z ms) cp/\(ms=[]\/(q<(pO w 0 (nN w)).next/\∃t fz c,(pO w 0 (nN w)).get q=U (.cells t .row (fz+1) c)/\
 ∀(i:Nat) (m:D),ms[i]?=U m->∀{j:Nat} {v u:O},j<3->(C m)[j]?=U v->jI w 1 v=U u->c.get (off+(i*3+j))=U u))):=by
 obtain⟨x,h1,h2⟩:=Rn (by omega) h;refine⟨x,h1,?_⟩;rcases h2 with⟨rfl,h0⟩|⟨rfl,h0⟩|⟨q,off,cp,rfl,h3⟩
 .exact .inl ⟨rfl,eQ.1 h0⟩
 .exact .inr (.inl ⟨rfl,eQ.1 h0⟩)
 .refine .inr (.inr ⟨q,off,cp,rfl,?_⟩);rcases h3 with h0|⟨hq,t,fz,c,h4,h5⟩
  .exact .inl (eQ.1 h0)
  .obtain⟨gz,rfl⟩:=OM h4;refine .inr ⟨hq,t,gz,c,h4,λ i m hm j v u hj hv hu=>?_⟩;have hil:=(bg.1 hm).1;have hlen3:∀l∈ms.map C,Z l=3:=λ l hl=>by
    obtain⟨d,-,rfl⟩:=dA.1 hl;exact hlen d
   exact h5 (i*3+j) v u (by omega) (by rw[nz hlen3 (l:=C m) (by rw[da,hm];rfl) hj];exact hv) hu
def YP{w:aG}{v:O}{ms:List qv}(hl:∀m∈ms,xY w m.v m.ls)(h:qB w 3 v (Z ms) (ms.map CH).flatten):∃x,jI w 1 v=U x/\sto.ot (pO w 0 (nN w)) (ms.map (zr w)) x:=by
 obtain⟨x,h1,h2⟩:=qdW (λ _=>rfl) h;refine⟨x,h1,?_⟩;rcases h2 with⟨rfl,rfl⟩|⟨rfl,rfl⟩|⟨q,off,cp,rfl,rfl|⟨hq,t,gz,c,h4,h5⟩⟩
 .exact .inl ⟨rfl,rfl⟩
 .exact .inr (.inl ⟨rfl,rfl⟩)
 .exact .inr (.inr ⟨q,off,cp,rfl,.inl rfl⟩)
 .refine .inr (.inr ⟨q,off,cp,by rw[aR],.inr ⟨hq,t,.row,gz,c,h4,λ i d hi=>?_⟩⟩);rw[da]at hi;obtain⟨m,hm,rfl⟩:=Option.map_eq_some_iff.1 hi;obtain⟨x1,x2⟩:=qio (hl m (fh hm));have g:= @h5 i m hm;have g0:=g (j:=0) (by omega) rfl x1;have g1:=g (j:=1) (by omega) rfl (HR rfl);have g2:=g (j:=2) (by omega) rfl (HR rfl);simp only[dN,<-rG]at g0 g1 g2;exact⟨g0,g1,g2,x2⟩
def YS{w:aG}{v:O}{ps:List (O×List qv)}(hl:∀p∈ps,qC w p)(h:qB w 1 v (Z ps) (ps.map (·.1))):∃x,jI w 1 v=U x/\sto.s8 (pO w 0 (nN w)) (ps.map λ p=>p.2.map (zr w)) x:=by
 obtain⟨x,h1,h2⟩:=Rn (by omega) h;refine⟨x,h1,?_⟩;rcases h2 with⟨rfl,h0⟩|⟨rfl,h0⟩|⟨q,off,cp,rfl,h3⟩
 .rw[eQ.1 h0];exact .inl ⟨rfl,rfl⟩
 .rw[eQ.1 h0];exact .inr (.inl ⟨rfl,rfl⟩)
 .refine .inr (.inr ⟨q,off,cp,by rw[aR],?_⟩);rcases h3 with h0|⟨hq,t,fz,c,h4,h5⟩
  .rw[eQ.1 h0];exact .inl rfl
  .refine .inr ⟨hq,t,.row,fz,c,h4,λ i ds hi=>?_⟩;rw[da]at hi;obtain⟨p,hp,rfl⟩:=Option.map_eq_some_iff.1 hi;have hil:=(bg.1 hp).1;obtain⟨r1,r2⟩:=hl p (fh hp);obtain⟨y,g1,g2⟩:=YP (λ m hm=>(r1 m hm).1) r2;exact⟨y,h5 i p.1 y (by omega) (by rw[da,hp];rfl) g1,g2⟩
def walk(hk:fP sto.bc.P 4 (dV sto.Bn))(v:O)(a b:Int)(ps:List (O×List qv))(w:aG)(hl:∀p∈ps,qC w p)(hp:qB w 1 v (Z ps) (ps.map (·.1)))
 (w0:(Lit.int .u8 a).wf=aa)(w1:(Lit.int .u8 b).wf=aa)(hn:Z ps<9223372036854775808):
 Calls dq 3 #[v,.agg ⟨[.int .u8 a,.int .u8 b]⟩] w λ e w'=>e=.returned (.bool aa)/\Below w.heap.size w w':=by
 refine(?_:Calls dq 3 #[v,.agg ⟨[.int .u8 a,.int .u8 b]⟩] w λ e w'=>e=.returned (.bool aa)/\Go.Am.Leaves w w').mono λ e w' h=>⟨h.1,h.2.below⟩
 obtain⟨x,e0,d0⟩:=YS hl hp;rw[(Cq w0).1,(Cq w1).1];refine Vh (sto.Lm hk) [] (λ l hl=>by cases hl) (qch w) (sto.aN BX) sto.IT (args:=[x,.agg ⟨[.int .u8 (a.toNat:Nat),.int .u8 (b.toNat:Nat)]⟩])
  (.cons (Mh e0) (.cons (.agg (.cons (.int _ _) (.cons (.int _ _) .nil))) .nil)) ?_
 obtain⟨u,A',h1,rfl⟩:=sto.qfz (a0:=a.toNat) (b0:=b.toNat) d0 (by rw[aR];exact hn) (λ ds hds d hd=>by
  obtain⟨p,hp,rfl⟩:=dA.1 hds;obtain⟨m,hm,rfl⟩:=dA.1 hd;exact((hl p hp).1 m hm).2) (Cq w0).2 (Cq w1).2
 exact⟨A',Mk (sto.aN BX) sto.IT (by kernel_rfl) (by kernel_rfl) h1⟩
def qcO{P:cI}{w:aG}{r:Reach}{base:Nat}{t e:aj}{v:O}(ht:P.underlying t=U (.array n e))(h:Value.okWide P w r base t v):∃cs,v=.agg cs:=by
 simp only[Value.okWide,ht]at h;obtain⟨cs,h1,_⟩:=h;exact⟨cs,h1⟩
def uT:List (String×DataW Unit):=[("math/bits.deBruijn32tab",Rows.laid_math_bits_deBruijn32tab),("math/bits.deBruijn64tab",Rows.laid_math_bits_deBruijn64tab),("internal/strconv.uint64pow10",Rows.laid_internal_strconv_uint64pow10)]
def qbr(os:Os):(World.holding dq os ⟨#[], #[],[]⟩).layFits dq uT []=aa:=by kernel_rfl
def qbu(os:Os):(World.holding dq os ⟨#[], #[],[]⟩).layIfaces dq uT (World.laidAll dq os uT)=aa:=by kernel_rfl
def YO(os:Os)(args:Array O):laidMetH dq uT ((World.laidAll dq os uT).forCall (λ _ _=>0) ⟨#[],args,[]⟩).memory:=by
 rw[Go.MakeChecks.laidMetH_plain _ _ _ (by kernel_rfl)];exact laidMet_laidAll _ (qbr os) (qbu os)
def lifted(hk:fP sto.bc.P 4 (dV sto.Bn))(os:Os)(started:os.Started)(H:Type)(enc:aj×O->H):
 ReturnsInHanded {} uq os 3 .any (λ w args=>(Rows.compactGoneSpec.pre enc dq hU [] af w args/\laidMetH dq uT w)/\sizedMet enc dq hU (OpenSpec.ofChange Rows.compactGoneSpec) af w args)
  (Rows.compactGoneSpec.post enc dq hU af aa af af):=by
 refine returnsInHanded_of_change_and (C:=uq) (X:=λ w _=>laidMetH dq uT w) (λ _ _ _ hh h=>h.of_heap hh) own started (by kernel_rfl) BX
  (ChangeSpec.witness_shaped (enc:=enc) (C:=uq) (os:=os) (X:=λ w _=>laidMetH dq uT w) af (World.laidAll dq os uT) #[.slice Y 0 0,.agg ⟨[.int .u8 0,.int .u8 0]⟩] 12 (World.laidAll_os _ _ _) (World.shaped_of_ZipB (by kernel_rfl) (by kernel_rfl)) (by kernel_rfl) (by kernel_rfl) (by kernel_rfl) (YO os _)) ?_
 intro W base args ds gs before hval0 hW hcnd _ hL _;have hval:∀(j:Nat) t v,hU.params[j]?=U t->args[j]?=U v->Value.okWide dq W .any base t v:=hval0;have hW':=hW;obtain⟨p,q,hA0,hV,rfl,hfz,hnd⟩:=hW;have hA:DataW.TrodAll enc dq W 0 (λ _=>aa) aa hU.params.toList args.toList ds p:=hA0;rw[Tryz.params3]at hA hval;obtain⟨v0,vs0,d0,ds0,p0,q0,hargs,rfl,rfl,h0,r0⟩:=trodAll_cons hA;obtain⟨v1,vs1,d1,ds1,p1,q1,rfl,rfl,rfl,h1,r1⟩:=trodAll_cons r0;obtain⟨rfl,rfl,rfl⟩:=trodAll_nil r1;obtain rfl:args= #[v0,v1]:=by cases args;simp_all
 obtain⟨rfl,rfl⟩:=trodVars_none hV;have k0:=h0;have lt0:∀x∈p0,x.block<W.heap.size:=by obtain⟨m,hm⟩:=k0;exact DataW.trod_lt m _ _ _ hm
 have k1:=h1;have lt1:∀x∈p1,x.block<W.heap.size:=by obtain⟨m,hm⟩:=k1;exact DataW.trod_lt m _ _ _ hm
 obtain⟨cs1,rfl⟩:=qcO Tryz.underlying23 (hval 1 23 v1 rfl rfl);obtain⟨a0,n0,c0,rfl⟩:=okWide_slice Tryz.underlying22 (hval 0 22 v0 rfl rfl);obtain⟨ps,hps,pps⟩:∃ps:List (O×List qv),(∀p∈ps,qC W p)/\qB W 1 (.slice a0 n0 c0) (Z ps) (ps.map (·.1)):=by
  obtain⟨fuel,hf⟩:=h0;exact qd0 hf
 obtain⟨z0,z1,e0,wk0,wk1⟩:∃a b:Int,cs1.toList=[.int .u8 a,.int .u8 b]/\(Lit.int .u8 a).wf=aa/\(Lit.int .u8 b).wf=aa:=by
  obtain⟨fuel,hf⟩:=h1;exact Vp hf
 obtain rfl:cs1=⟨[.int .u8 z0,.int .u8 z1]⟩:=by rw[<-e0]
 have hpl:Z ps<9223372036854775808:=by
  rcases pps with⟨-,h⟩|⟨_,-,h⟩|⟨_,cap,-,-,h1,h2,-⟩<;>omega
 clear hA0 hval0;refine(walk hk (.slice a0 n0 c0) z0 z1 ps W hps pps wk0 wk1 hpl).mono λ e W' ⟨he,bel⟩=>?_
 subst he;exact⟨_,rfl,_,_,_,[],_,[],hW',trodAll_mk1 (shut_bool HH _),(trodAll_cons_mk (Below.trod laidOut (by kernel_rfl) (of_decide_eq_true (by kernel_rfl)) k0 bel lt0) (trodAll_cons_mk (Below.trod laidOut (by kernel_rfl) (of_decide_eq_true (by kernel_rfl)) k1 bel lt1) trodAll_mk0)),rfl,bel.frame _,λ h=>by cases h⟩
end Go.Proofs.YtdobfpkceacneaaGreatDoor.compactGone
end
