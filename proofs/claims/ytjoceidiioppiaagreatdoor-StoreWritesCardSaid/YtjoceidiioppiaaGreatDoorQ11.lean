/- The abstract machine, the walk of the law and its plain laws, made small by a program; part 11: no conditions but those in each theorem. -/
import Derived.Test.YtjoceidiioppiaaGreatDoorQ10
import Derived.Test.YtjoceidiioppiaaGreatDoorRows
import Derived.WalkKit
import Derived.ProofKit
import Derived.OpenShut
import Derived.ShutString
import Derived.ChangeOld
import Derived.Below
import Derived.Deep.Slices
import Derived.Deep.Fields
import Derived.ChangeSame
import Derived.MakeChecks
import Derived.LaidMore
import Derived.Lay
import Derived.Stop.Joined
import Derived.ChangeMaps5
set_option maxHeartbeats 16000000
set_option maxRecDepth 100000
set_option linter.unusedSimpArgs false
set_option linter.unusedVariables false
set_option linter.defProp false
noncomputable section
open Array renaming getElem?_eq_getElem→DO,getElem?_eq_some_iff→gm,getElem?_toList→gp
open List.cons renaming injEq→gq
open List renaming drop_eq_getElem_cons→mq,getD_eq_getElem?_getD→m_,getElem?_eq_getElem→aZ,getElem?_eq_some_iff→bU,getElem?_map→dN,getElem?_range→BA,getElem?_take→pM,getElem_mem→ff,length→Z,length_eq_zero_iff→eN,length_map→bc,length_take→df,mem_map→eH,mem_of_getElem?→gJ,range→lM
open Nat renaming add_assoc→rk,add_zero→eo,le_refl→aI,lt_of_le_of_lt→mz,mod_eq_of_lt→rm,mod_lt→jV,mul_one→qq
open Option renaming map_some→gX,none→V,some→U
open Option.some renaming injEq→fg
open Go renaming Program→cI,TypeId→au,Value→I,World→aF
open Go.Proofs.Tryz renaming checked→ug,f3→gM,func3→BU,prog→dw,underlying4→HG
open UInt8 renaming ofNat→jY,toNat_ofNat'→HI
open Bool renaming false→ag,true→ae
namespace Go.Proofs.YtjoceidiioppiaaGreatDoor.storeWrites
open Go.ChangeShapes Go.WideMaps Go.WideElems Go.WideShapes Go.ChangeAt Go.RowKit Go.Deep Go.Am
open Go.ChangeMaps (open_string shut_string)
def own:ownKnob dw.godebug=V:=by kernel_rfl
def laidOut:laidOutB dw=ae:=by kernel_rfl
def H7{x:Int}(h:(Lit.int .u8 x).wf=ae):Value.int .u8 x=.int .u8 (x.toNat:Nat)/\x.toNat<256:=by
 obtain⟨h0,h1⟩:=bounds_u8 h;rw[Int.toNat_of_nonneg h0];exact⟨rfl,by omega⟩
def Uz{x:Int}(h:(Lit.int .u32 x).wf=ae):Value.int .u32 x=.int .u32 (x.toNat:Nat)/\x.toNat<4294967296:=by
 simp[Lit.wf,IntKind.min,IntKind.max,IntKind.signed,IntKind.bits]at h;rw[Int.toNat_of_nonneg (by omega)];exact⟨rfl,by omega⟩
section
variable {H:Type}{enc:au×I->H}{P:cI}{w:aF}{base:Nat}{spare:Nat->Bool}{held:Bool}
def qcm{t e:au}{fs:Array Field}{fuel:Nat}{cs:List I}{x:DataW H×List MemPlace}(ht:P.underlying t=U (.slice e))(he:P.underlying e=U (.struct fs))
 (hone:oneCellFields P fs=ae)(hC:P.cellsOf e=fs.size)(h:DataW.trod enc P w base spare held fuel t cs=U x):
 (cs=[.slice V 0 0]/\x=(.nil,[]))\/
 ∃(a:Addr) (len cap m:Nat),cs=[.slice (U a) len cap]/\len<=cap/\cap<=maxLen/\m=(if spare a.block then cap else len)/\
  ∀i,i<m->∃(n:Nat),∀(j:Nat) (f:Field),fs[j]?=U f->∃(v:I) (y:DataW H×List MemPlace),w.cell? (a.add (i*fs.size+j))=U v/\DataW.trod enc P w base spare held n f.type [v]=U y:=by
 rcases open_slice ht h with h0|⟨a,len,cap,m,n,D,Pl,hcs,hb,hl,hm,hmm,hx,hi⟩
 .exact .inl h0
 .refine .inr ⟨a,len,cap,m,hcs,hl,hm,hmm,λ i him=>?_⟩;obtain⟨cs',hc,ht'⟩:=hi i him;rw[hC]at hc;obtain⟨ys,n',hn',hy,hlen,hyl,hf⟩:=DataW.trod_struct he ht';obtain⟨_,hcl,hat⟩:=World.cells?_some hc;refine⟨n',λ j f hj=>?_⟩;obtain⟨ho,hk⟩:=hone_of hone j f hj;have hjl:j<fs.size:=(gm.1 hj).1;have hcell:=hat j hjl;have hv:cs'[j]?=U (cs'[j]'(by omega)):=aZ (by omega)
  have h1:=hf j f hj;rw[ho,hk]at h1;have hone':(cs'.drop j).take 1=[cs'[j]'(by omega)]:=by
   rw[mq (by omega)];rfl
  rw[hone']at h1;have hys:ys[j]?=U (ys[j]'(by omega)):=aZ (by omega)
  refine⟨_,_,?_,h1.trans hys⟩;rw[<-Go.Deep.add_add,hcell,hv]
end
def Cj(ls:List UInt8):List I:=ls.map λ b=>.int .u8 (b.toNat:Nat)
def xO(w:aF)(v:I)(ls:List UInt8):Prop:=qt w 1 v (Z ls) (Cj ls)
section
variable {H:Type}{enc:au×I->H}{w:aF}{base fuel:Nat}{held:Bool}
variable {v:I}
def qba{x:DataW H×List MemPlace}(h:DataW.trod enc dw w base (λ _=>ae) held fuel 74 [v]=U x):∃ls,xO w v ls:=by
 rcases open_ints Tryz.underlying74 Tryz.underlying5 (by kernel_rfl) h with⟨hcs,_⟩|⟨a,len,cap,zs,hcs,-,hl,hm,hz,-,hcell,hwf⟩
 .simp only[gq,and_true]at hcs;subst hcs;exact⟨[],.inl ⟨rfl,rfl⟩⟩
 .simp only[gq,and_true]at hcs;subst hcs;simp only[bB]at hz;by_cases hc0:cap=0
  .subst hc0;have hl0:len=0:=by omega
   subst hl0;exact⟨[],.inr (.inl ⟨a,rfl,rfl⟩)⟩
  .have hlen:((zs.take len).map λ z=>jY z.toNat).length=len:=by
    rw[bc,df];omega
   refine⟨(zs.take len).map λ z=>jY z.toNat,.inr (.inr ⟨a,cap,by rw[hlen],by omega,by rw[hlen];exact hl,mz hm (by decide),λ i hi=>⟨_,hcell i (by omega)⟩,by rw[Cj,bc,qq],λ i c hi=>?_⟩)⟩;have hil:=(bU.1 hi).1;rw[Cj,bc,hlen]at hil;rw[hcell i (by omega)];unfold Cj at hi;rw[dN,dN,pM,aA hil,aZ (by omega)]at hi;simp only[gX,fg]at hi;have hzi:zs.getD i 0=zs[i]'(by omega):=by
    rw[m_,aZ (by omega)];rfl
   have hb:=H7 (hwf (zs[i]'(by omega)) (ff _))
   rw[hzi,<-hi,hb.1,HI,rm hb.2]
structure vk where
 v:I
 ls:List UInt8
 wt:Nat
 gone:Bool
def Cy(d:vk):List I:=[d.v,.int .u32 d.wt,.bool d.gone]
def qb9{v0 v1 v2:I}{n0 n1 n2:Nat}{y0 y1 y2:DataW H×List MemPlace}(t0:DataW.trod enc dw w base (λ _=>ae) held n0 74 [v0]=U y0)(t1:DataW.trod enc dw w base (λ _=>ae) held n1 59 [v1]=U y1)(t2:DataW.trod enc dw w base (λ _=>ae) held n2 4 [v2]=U y2):
 ∃d:vk,Cy d=[v0,v1,v2]/\xO w d.v d.ls/\d.wt<4294967296:=by
 obtain⟨ls,hl⟩:=qba t0;obtain⟨m,c1,-,w1⟩:=DataW.trod_int Tryz.underlying59 t1;obtain⟨b,c2,-⟩:=DataW.trod_bool HG t2;simp only[gq,and_true]at c1 c2;subst c1 c2;exact⟨⟨v0,ls,m.toNat,b⟩,by unfold Cy;rw[<-(Uz w1).1],hl,(Uz w1).2⟩
def R9{D:Type}{C:D->List I}{Q:D->Prop}{t e:au}{fs:Array Field}{x:DataW H×List MemPlace}(hlen:∀d,(C d).length=3)(ht:dw.underlying t=U (.slice e))(he:dw.underlying e=U (.struct fs))(h1:oneCellFields dw fs=ae)(h2:dw.cellsOf e=fs.size)(hfs:fs.size=3)(d0:D)
 (one:∀(w0 w1 w2:I),(∃n y,DataW.trod enc dw w base (λ _=>ae) held n ((fs[0]?.map Field.type).getD 0) [w0]=U y)->(∃n y,DataW.trod enc dw w base (λ _=>ae) held n ((fs[1]?.map Field.type).getD 0) [w1]=U y)->(∃n y,DataW.trod enc dw w base (λ _=>ae) held n ((fs[2]?.map Field.type).getD 0) [w2]=U y)->∃d,C d=[w0,w1,w2]/\Q d)
 (h:DataW.trod enc dw w base (λ _=>ae) held fuel t [v]=U x):
 ∃ms:List D,(∀m∈ms,Q m)/\qt w 3 v (Z ms) (ms.map C).flatten:=by
 rcases qcm ht he h1 h2 h with⟨hcs,_⟩|⟨a,len,cap,m,hcs,hl,hm,hz,hcell⟩
 .simp only[gq,and_true]at hcs;subst hcs;exact⟨[],(λ m hm=>by cases hm),.inl ⟨rfl,rfl⟩⟩
 .simp only[gq,and_true]at hcs;subst hcs;simp only[bB]at hz;subst hz;by_cases hc0:m=0
  .subst hc0;have hl0:len=0:=by omega
   subst hl0;exact⟨[],(λ m hm=>by cases hm),.inr (.inl ⟨a,rfl,rfl⟩)⟩
  .obtain⟨f,hf⟩:=Classical.axiomOfChoice (r:=λ(i:Nat) (d:D)=>i<m->Q d/\∀j,j<3->w.cell? (a.add (i*3+j))=(C d)[j]?) (λ i=>by
    by_cases hi:i<m
    .obtain⟨n,hfi⟩:=hcell i hi;rw[hfs]at hfi;have fj:∀j,j<3->∃v,w.cell? (a.add (i*3+j))=U v/\∃n y,DataW.trod enc dw w base (λ _=>ae) held n ((fs[j]?.map Field.type).getD 0) [v]=U y:=λ j hj=>by
      have hq:fs[j]?=U (fs[j]'(by omega)):=DO (by omega)
      obtain⟨v,y,e,t⟩:=hfi j _ hq;rw[hq];exact⟨v,e,n,y,t⟩
     obtain⟨u0,e0,t0⟩:=fj 0 (by omega);obtain⟨u1,e1,t1⟩:=fj 1 (by omega);obtain⟨u2,e2,t2⟩:=fj 2 (by omega);obtain⟨d,hd,hlw⟩:=one u0 u1 u2 t0 t1 t2;refine⟨d,λ _=>⟨hlw,λ j hj=>?_⟩⟩;rw[hd];have:j=0\/j=1\/j=2:=by omega
     rcases this with rfl|rfl|rfl
     .exact e0
     .exact e1
     .exact e2
    .exact⟨d0,λ h=>aU h hi⟩)
   have hlen3:∀l∈((lM len).map f).map C,Z l=3:=λ l hl=>by
    obtain⟨d,-,rfl⟩:=eH.1 hl;exact hlen d
   have hll:((lM len).map f).length=len:=by rw[bc,List.length_range]
   refine⟨(lM len).map f,λ d hd=>?_,.inr (.inr ⟨a,m,by rw[hll],by omega,by rw[hll];exact hl,mz hm (by decide),λ i hi=>?_,by rw[ju hlen3,bc],λ i c hi=>?_⟩)⟩
   .obtain⟨i,hi,rfl⟩:=eH.1 hd;exact(hf i (by have:=List.mem_range.1 hi;omega)).1
   .have hi3:i/3<m:=by omega
    have e:i/3*3+i % 3=i:=by omega
    have:=(hf (i/3) hi3).2 (i % 3) (jV _ (by omega));rw[e]at this;rw[this,aZ (show i % 3<(C (f (i/3))).length by rw[hlen];exact jV _ (by omega))];exact⟨_,rfl⟩
   .have hiv:=(bU.1 hi).1;rw[ju hlen3,bc,hll]at hiv;have hi3:i/3<len:=by omega
    have e:i/3*3+i % 3=i:=by omega
    have g:=nU hlen3 (i:=i/3) (j:=i % 3) (l:=C (f (i/3))) (by rw[dN,dN,BA hi3];rfl) (jV _ (by omega));rw[e,hi]at g;have:=(hf (i/3) (by omega)).2 (i % 3) (jV _ (by omega));rw[e]at this;rw[this,<-g]
def Yo{x:DataW H×List MemPlace}(h:DataW.trod enc dw w base (λ _=>ae) held fuel 30 [v]=U x):
 ∃ms:List vk,(∀m∈ms,xO w m.v m.ls/\m.wt<4294967296)/\qt w 3 v (Z ms) (ms.map Cy).flatten:=
 R9 (λ _=>rfl) Tryz.underlying30 Tryz.underlying76 (by kernel_rfl) (by kernel_rfl) rfl ⟨.bool ae,[],0,ag⟩ (λ _ _ _ ⟨_,_,t0⟩ ⟨_,_,t1⟩ ⟨_,_,t2⟩=>qb9 t0 t1 t2) h
structure wc where
 v:I
 ms:List vk
 n:Int
 s:Nat
def Bl(m:wc):List I:=[m.v,.int .i16 m.n,.int .u8 m.s]
def US(w:aF)(v:I)(ms:List vk):Prop:=(∀m∈ms,xO w m.v m.ls/\m.wt<4294967296)/\qt w 3 v (Z ms) (ms.map Cy).flatten
def BY(w:aF)(m:wc):Prop:=US w m.v m.ms/\m.s<256
def qcb{v0 v1 v2:I}{n0 n1 n2:Nat}{y0 y1 y2:DataW H×List MemPlace}(t0:DataW.trod enc dw w base (λ _=>ae) held n0 30 [v0]=U y0)(t1:DataW.trod enc dw w base (λ _=>ae) held n1 31 [v1]=U y1)(t2:DataW.trod enc dw w base (λ _=>ae) held n2 5 [v2]=U y2):
 ∃m:wc,Bl m=[v0,v1,v2]/\BY w m:=by
 obtain⟨ms,hl⟩:=Yo t0;obtain⟨n,c1,-,-⟩:=DataW.trod_int Tryz.underlying31 t1;obtain⟨s,c2,-,w2⟩:=DataW.trod_int Tryz.underlying5 t2;simp only[gq,and_true]at c1 c2;subst c1 c2;exact⟨⟨v0,ms,n,s.toNat⟩,by unfold Bl;rw[<-(H7 w2).1],hl,(H7 w2).2⟩
def qiA{x:DataW H×List MemPlace}(h:DataW.trod enc dw w base (λ _=>ae) held fuel 22 [v]=U x):
 ∃ms:List wc,(∀m∈ms,BY w m)/\qt w 3 v (Z ms) (ms.map Bl).flatten:=
 R9 (λ _=>rfl) Tryz.underlying22 Tryz.underlying33 (by kernel_rfl) (by kernel_rfl) rfl ⟨.bool ae,[],0,0⟩ (λ _ _ _ ⟨_,_,t0⟩ ⟨_,_,t1⟩ ⟨_,_,t2⟩=>qcb t0 t1 t2) h
def Pk{x:Int}(h:(Lit.int .u16 x).wf=ae):Value.int .u16 x=.int .u16 (x.toNat:Nat)/\x.toNat<65536:=by
 simp[Lit.wf,IntKind.min,IntKind.max,IntKind.signed,IntKind.bits]at h;rw[Int.toNat_of_nonneg (by omega)];exact⟨rfl,by omega⟩
end
def nN(w:aF):Nat->Nat->I->Option I:=λ _ _ v=>jh w 1 v
def qbC(w:aF):Ho w [] (nN w):=λ _ _ _ _ h=>Me h
variable {b fz:Nat}
def OS{w:aF}{N:Nat->Nat->I->Option I}{t:au}{k:Kd}{c:T I}(h:(pI w 0 N).get b=U (.cells t k fz c)):∃g,fz=g+1:=by
 rw[Bj]at h;cases hb:w.heap[b]? with
 |none=>rw[hb]at h;cases h
 |some o=>
  rw[hb]at h;cases o with
  |cells cs t' fr=>
   cases h;exact⟨2*(9223372036854775808+cs.size+fr.2)+1,by omega⟩
  |_=>cases h
variable {v:I}
def Ws{w:aF}{ls:List UInt8}(h:xO w v ls):∃x,jh w 1 v=U x/\sto.m7 (pI w 0 (nN w)) ls x:=by
 obtain⟨x,h1,h2⟩:=qcw (N:=nN w) (by omega) (by omega) h;refine⟨x,h1,?_⟩;rcases h2 with⟨rfl,h0⟩|⟨rfl,h0⟩|⟨q,off,rfl,hq,h3⟩
 .exact .inl ⟨rfl,eN.1 h0⟩
 .exact .inr (.inl ⟨rfl,eN.1 h0⟩)
 .refine .inr (.inr ⟨q,off,_,rfl,?_⟩);rcases h3 with h3|⟨t,fz,c,h4,h5⟩
  .exact .inl (eN.1 (by omega))
  .obtain⟨g,rfl⟩:=OS h4;refine .inr ⟨hq,t,.row,g,c,h4,λ i b hi=>?_⟩;have hil:=(bU.1 hi).1;exact h5 i (.int .u8 (b.toNat:Nat)) _ (by omega) (by unfold Cj;rw[dN,hi];rfl) (B_ rfl)
variable {n:Nat}
def qcx{w:aF}{len:Nat}{cs:List I}(hn0:0<n)(h:qt w n v len cs):
 ∃x,jh w 1 v=U x/\((x=.slice V 0 0/\len=0)\/(x=tC/\len=0)\/∃q off cp,x=.slice (U ⟨q,off,V⟩) len cp/\(len=0\/(q<(pI w 0 (nN w)).next/\∃t fz c,(pI w 0 (nN w)).get q=U (.cells t .row fz c)/\∀(i:Nat) (v u:I),i<len*n->cs[i]?=U v->jh w 1 v=U u->c.get (off+i)=U u))):=by
 rcases h with⟨rfl,rfl⟩|⟨x,rfl,rfl⟩|⟨x,cap,rfl,hc0,hlc,hcap,hall,hcl,hcell⟩
 .exact⟨_,Mg,.inl ⟨rfl,rfl⟩⟩
 .exact⟨_,Mf,.inr (.inl ⟨rfl,rfl⟩)⟩
 .have hpos:0<cap*n:=Nat.mul_pos hc0 hn0;obtain⟨u0,hu0⟩:=hall 0 hpos;have hsp:=Nj hu0;obtain⟨xb,xo,xs⟩:=x;simp only at hsp;subst hsp;have h1:bV (cP len 1)=len:=iW (by omega);have h2:hY (cP len 1)=1:=mH (by omega);have hnp:¬uT (.slice (U ⟨xb,xo,V⟩) len cap)=ae:=by simp[uT]
  obtain⟨u,hu⟩:=hall (cap*n-1) (by omega);obtain⟨cs',t,fr,hw,hu2⟩:=EX rfl hu;have hsz:=(gm.1 hu2).1;have hblk:xb<w.heap.size:=(gm.1 hw).1;have hcn:cap<=cap*n:=Nat.le_mul_of_pos_right _ hn0;have hreal:VR (qi w []) (.slice (U ⟨xb,xo,V⟩) len (cP len 1)) (.slice (U ⟨xb,xo,V⟩) len cap):=by
   refine VR.slX (l:=⟨xb,0,cs'.size⟩) (o':=xo) (Ur hw) (kU _ _) (by rw[h1];exact hlc) ?_ (λ _=>by simp) hcap (by rw[h1];exact aI _);rw[h2];have e:xo+(cap*n-1)<cs'.size:=hsz;show xo+cap*1<=cs'.size;omega
  refine⟨.slice (U ⟨xb,xo,V⟩) len (cP len 1),?_,.inr (.inr ⟨xb,xo,_,rfl,.inr ⟨hblk,t,_,_,by rw[Bj,hw];rfl,λ i v u hi hv hu=>PR ?_ hu⟩⟩)⟩
  .unfold jh;rw[ax hnp];simp only[ax (show¬(len=0/\cap=0) by omega),aA hreal]
  .obtain⟨cs2,t2,fr2,hw2,hv2⟩:=EX rfl (hcell i v hv);rw[hw]at hw2;cases hw2;rw[gp];exact hv2
def za(w:aF)(m:vk):sto.mj:=⟨(jh w 1 m.v).getD tC,m.ls,m.wt,m.gone⟩
def qhM{w:aF}{m:vk}(h:xO w m.v m.ls):jh w 1 m.v=U (za w m).xl/\sto.m7 (pI w 0 (nN w)) (za w m).ls (za w m).xl:=by
 obtain⟨x,h1,h2⟩:=Ws h;have e:(za w m).xl=x:=by unfold za;rw[h1];rfl
 rw[e];exact⟨h1,h2⟩
def R0{w:aF}{D:Type}{C:D->List I}{ms:List D}(hlen:∀d,(C d).length=3)(h:qt w 3 v (Z ms) (ms.map C).flatten):∃x,jh w 1 v=U x/\((x=.slice V 0 0/\ms=[])\/(x=tC/\ms=[])\/∃q off cp,x=.slice (U ⟨q,off,V⟩) (Z ms) cp/\(ms=[]\/(q<(pI w 0 (nN w)).next/\∃t fz c,(pI w 0 (nN w)).get q=U (.cells t .row (fz+1) c)/\
 ∀(i:Nat) (m:D),ms[i]?=U m->∀{j:Nat} {v u:I},j<3->(C m)[j]?=U v->jh w 1 v=U u->c.get (off+(i*3+j))=U u))):=by
 obtain⟨x,h1,h2⟩:=qcx (by omega) h;refine⟨x,h1,?_⟩;rcases h2 with⟨rfl,h0⟩|⟨rfl,h0⟩|⟨q,off,cp,rfl,h3⟩
 .exact .inl ⟨rfl,eN.1 h0⟩
 .exact .inr (.inl ⟨rfl,eN.1 h0⟩)
 .refine .inr (.inr ⟨q,off,cp,rfl,?_⟩);rcases h3 with h0|⟨hq,t,fz,c,h4,h5⟩
  .exact .inl (eN.1 h0)
  .obtain⟨gz,rfl⟩:=OS h4;refine .inr ⟨hq,t,gz,c,h4,λ i m hm j v u hj hv hu=>?_⟩;have hil:=(bU.1 hm).1;have hlen3:∀l∈ms.map C,Z l=3:=λ l hl=>by
    obtain⟨d,-,rfl⟩:=eH.1 hl;exact hlen d
   exact h5 (i*3+j) v u (by omega) (by rw[nU hlen3 (l:=C m) (by rw[dN,hm];rfl) hj];exact hv) hu
def Yn{w:aF}{ms:List vk}(hl:∀m∈ms,xO w m.v m.ls)(h:qt w 3 v (Z ms) (ms.map Cy).flatten):∃x,jh w 1 v=U x/\sto.m8 (pI w 0 (nN w)) (ms.map (za w)) x:=by
 obtain⟨x,h1,h2⟩:=R0 (λ _=>rfl) h;refine⟨x,h1,?_⟩;rcases h2 with⟨rfl,rfl⟩|⟨rfl,rfl⟩|⟨q,off,cp,rfl,rfl|⟨hq,t,gz,c,h4,h5⟩⟩
 .exact .inl ⟨rfl,rfl⟩
 .exact .inr (.inl ⟨rfl,rfl⟩)
 .exact .inr (.inr ⟨q,off,cp,rfl,.inl rfl⟩)
 .refine .inr (.inr ⟨q,off,cp,by rw[bc],.inr ⟨hq,t,.row,gz,c,h4,λ i d hi=>?_⟩⟩);rw[dN]at hi;obtain⟨m,hm,rfl⟩:=Option.map_eq_some_iff.1 hi;obtain⟨x1,x2⟩:=qhM (hl m (gJ hm));have g:= @h5 i m hm;have g0:=g (j:=0) (by omega) rfl x1;have g1:=g (j:=1) (by omega) rfl (B_ rfl);have g2:=g (j:=2) (by omega) rfl (B_ rfl);simp only[eo,<-rk]at g0 g1 g2;exact⟨g0,g1,g2,x2⟩
def Lw(w:aF)(m:wc):sto.rJ:=⟨m.ms.map (za w),(jh w 1 m.v).getD tC,m.n,m.s⟩
def qiw{w:aF}{ms:List wc}(hl:∀m∈ms,BY w m)(h:qt w 3 v (Z ms) (ms.map Bl).flatten):∃x,jh w 1 v=U x/\sto.te (pI w 0 (nN w)) (ms.map (Lw w)) x:=by
 obtain⟨x,h1,h2⟩:=R0 (λ _=>rfl) h;refine⟨x,h1,?_⟩;rcases h2 with⟨rfl,rfl⟩|⟨rfl,rfl⟩|⟨q,off,cp,rfl,rfl|⟨hq,t,gz,c,h4,h5⟩⟩
 .exact .inl ⟨rfl,rfl⟩
 .exact .inr (.inl ⟨rfl,rfl⟩)
 .exact .inr (.inr ⟨q,off,cp,rfl,.inl rfl⟩)
 .refine .inr (.inr ⟨q,off,cp,by rw[bc],.inr ⟨hq,t,.row,gz,c,h4,λ i d hi=>?_⟩⟩);rw[dN]at hi;obtain⟨m,hm,rfl⟩:=Option.map_eq_some_iff.1 hi;obtain⟨⟨k1,k2⟩,-⟩:=hl m (gJ hm);obtain⟨y,x1,x2⟩:=Yn (λ m hm=>(k1 m hm).1) k2;have e:(Lw w m).x=y:=by unfold Lw;rw[x1];rfl
  have g:= @h5 i m hm;have g0:=g (j:=0) (by omega) rfl x1;have g1:=g (j:=1) (by omega) rfl (B_ rfl);have g2:=g (j:=2) (by omega) rfl (B_ rfl);simp only[eo,<-rk]at g0 g1 g2;rw[e];exact⟨g0,g1,g2,x2⟩
def walk(hk:eG sto.aT.P 19 (cH sto.Bk))(v:I)(k:Int)(ms:List wc)(w:aF)(hm:∀m∈ms,BY w m)(pm:qt w 3 v (Z ms) (ms.map Bl).flatten)
 (wk:(Lit.int .u16 k).wf=ae):
 Calls dw 3 #[v,.int .u16 k] w λ e w'=>e=.returned (.bool ae)/\Below w.heap.size w w':=by
 refine(?_:Calls dw 3 #[v,.int .u16 k] w λ e w'=>e=.returned (.bool ae)/\Go.Am.Leaves w w').mono λ e w' h=>⟨h.1,h.2.below⟩
 obtain⟨x,d1,d2⟩:=qiw hm pm;rw[(Pk wk).1];refine Va (sto.DB hk) [] (λ l hl=>by cases hl) (qbC w) (sto.aD BU) sto.IY (args:=[x,.int .u16 (k.toNat:Nat)])
  (.cons (Me d1) (.cons (.int _ _) .nil)) ?_
 obtain⟨u,A',h1,rfl⟩:=sto.qeE d2 (λ d hd=>by
  obtain⟨m,hq,rfl⟩:=eH.1 hd;refine⟨λ d hd=>?_,(hm m hq).2⟩;obtain⟨o,ho,rfl⟩:=eH.1 hd;exact((hm m hq).1.1 o ho).2) (Pk wk).2
 exact⟨A',Mh (sto.aD BU) sto.IY (by kernel_rfl) (by kernel_rfl) h1⟩
def uM:List (String×DataW Unit):=[("math/bits.deBruijn32tab",Rows.laid_math_bits_deBruijn32tab),("math/bits.deBruijn64tab",Rows.laid_math_bits_deBruijn64tab),("internal/strconv.uint64pow10",Rows.laid_internal_strconv_uint64pow10)]
def qaY(os:Os):(World.holding dw os ⟨#[], #[],[]⟩).layFits dw uM []=ae:=by kernel_rfl
def qa1(os:Os):(World.holding dw os ⟨#[], #[],[]⟩).layIfaces dw uM (World.laidAll dw os uM)=ae:=by kernel_rfl
def Ym(os:Os)(args:Array I):laidMetH dw uM ((World.laidAll dw os uM).forCall (λ _ _=>0) ⟨#[],args,[]⟩).memory:=by
 rw[Go.MakeChecks.laidMetH_plain _ _ _ (by kernel_rfl)];exact laidMet_laidAll _ (qaY os) (qa1 os)
def lifted(hk:eG sto.aT.P 19 (cH sto.Bk))(os:Os)(started:os.Started)(H:Type)(enc:au×I->H):
 ReturnsInHanded {} ug os 3 .any (λ w args=>(Rows.storeWritesSpec.pre enc dw gM [] ag w args/\laidMetH dw uM w)/\sizedMet enc dw gM (OpenSpec.ofChange Rows.storeWritesSpec) ag w args)
  (Rows.storeWritesSpec.post enc dw gM ag ae ag ag):=by
 refine returnsInHanded_of_change_and (C:=ug) (X:=λ w _=>laidMetH dw uM w) (λ _ _ _ hh h=>h.of_heap hh) own started (by kernel_rfl) BU
  (ChangeSpec.witness_shaped (enc:=enc) (C:=ug) (os:=os) (X:=λ w _=>laidMetH dw uM w) ag (World.laidAll dw os uM) #[.slice V 0 0,.int .u16 0] 12 (World.laidAll_os _ _ _) (World.shaped_of_ZipB (by kernel_rfl) (by kernel_rfl)) (by kernel_rfl) (by kernel_rfl) (by kernel_rfl) (Ym os _)) ?_
 intro W base args ds gs before hval0 hW hcnd _ hL _;have hval:∀(j:Nat) t v,gM.params[j]?=U t->args[j]?=U v->Value.okWide dw W .any base t v:=hval0;have hW':=hW;obtain⟨p,q,hA0,hV,rfl,hfz,hnd⟩:=hW;have hA:DataW.TrodAll enc dw W 0 (λ _=>ae) ae gM.params.toList args.toList ds p:=hA0;rw[Tryz.params3]at hA hval;obtain⟨v0,vs0,d0,ds0,p0,q0,hargs,rfl,rfl,h0,r0⟩:=trodAll_cons hA;obtain⟨v1,vs1,d1,ds1,p1,q1,rfl,rfl,rfl,h1,r1⟩:=trodAll_cons r0;obtain⟨rfl,rfl,rfl⟩:=trodAll_nil r1;obtain rfl:args= #[v0,v1]:=by cases args;simp_all
 obtain⟨rfl,rfl⟩:=trodVars_none hV;have k0:=h0;have lt0:∀x∈p0,x.block<W.heap.size:=by obtain⟨m,hm⟩:=k0;exact DataW.trod_lt m _ _ _ hm
 have k1:=h1;have lt1:∀x∈p1,x.block<W.heap.size:=by obtain⟨m,hm⟩:=k1;exact DataW.trod_lt m _ _ _ hm
 obtain⟨a0,n0,c0,rfl⟩:=okWide_slice Tryz.underlying22 (hval 0 22 v0 rfl rfl);obtain⟨z1,rfl⟩:=okWide_int Tryz.underlying23 (hval 1 23 v1 rfl rfl);obtain⟨ms,hms,pms⟩:∃ms:List wc,(∀m∈ms,BY W m)/\qt W 3 (.slice a0 n0 c0) (Z ms) (ms.map Bl).flatten:=by
  obtain⟨fuel,hf⟩:=h0;exact qiA hf
 have wk:(Lit.int .u16 z1).wf=ae:=by
  obtain⟨fuel,hf⟩:=h1;obtain⟨m,e,-,bb⟩:=DataW.trod_int (cs:=[.int .u16 z1]) Tryz.underlying23 hf;simp only[gq,Value.int.injEq,true_and,and_true]at e;rw[e];exact bb
 clear hA0 hval0;refine(walk hk (.slice a0 n0 c0) z1 ms W hms pms wk).mono λ e W' ⟨he,bel⟩=>?_
 subst he;exact⟨_,rfl,_,_,_,[],_,[],hW',trodAll_mk1 (shut_bool HG _),(trodAll_cons_mk (Below.trod laidOut (by kernel_rfl) (of_decide_eq_true (by kernel_rfl)) k0 bel lt0) (trodAll_cons_mk (Below.trod laidOut (by kernel_rfl) (of_decide_eq_true (by kernel_rfl)) k1 bel lt1) trodAll_mk0)),rfl,bel.frame _,λ h=>by cases h⟩
end Go.Proofs.YtjoceidiioppiaaGreatDoor.storeWrites
end
