/- The abstract machine, the walk of the law and its plain laws, made small by a program; part 9: no conditions but those in each theorem. -/
import Derived.Test.YtjoceidiioppiaaGreatDoorQ08
set_option maxHeartbeats 16000000
set_option maxRecDepth 100000
set_option linter.unusedSimpArgs false
set_option linter.unusedVariables false
set_option linter.defProp false
noncomputable section
open Bool renaming and_true→sK,false_eq_true→dR,or_eq_false_iff→Bp,or_eq_true→DP,false→ag,true→ae
open Go renaming Code→aH,Operand→bM,TypeId→au,Value→I
open List renaming cons_append→iP,drop_eq_getElem_cons→mq,drop_length→Bv,drop_zero→DX,exists_cons_of_ne_nil→Hi,exists_mem_of_ne_nil→Bw,flatMap_append→Bz,flatMap_cons→mr,foldl_cons→mu,getElem?_append_left→fe,getElem?_append_right→eV,getElem?_cons_succ→dc,getElem?_cons_zero→c7,getElem?_eq_getElem→aZ,getElem?_eq_none→ky,getElem?_eq_some_iff→bU,getElem?_map→dN,getElem_map→zu,getElem_mem→ff,getElem_of_mem→oU,getElem_take→BB,length→Z,length_append→aY,length_cons→cD,length_eq_zero_iff→eN,length_map→bc,length_nil→eB,length_pos_iff→je,length_singleton→fb,length_take→df,map→tW,map_append→gg,map_cons→lK,map_map→xR,mem_append→mw,mem_append_right→xS,mem_cons→cG,mem_cons_of_mem→cV,mem_cons_self→cJ,mem_flatMap→BD,mem_map→eH,mem_of_getElem?→gJ,mem_of_mem_take→zw,mem_singleton→dX,nil_append→lL,nodup_append→tX,nodup_cons→vw,nodup_nil→nb,not_mem_nil→eC,pairwise_iff_getElem→tY,set_append_right→Eb,take_append_drop→tZ,take_length→dU,take_succ_eq_append_getElem→d_
open Nat renaming add_assoc→rk,add_zero→eo,beq→aL,ble→av,blt→aO,blt_eq→bZ,le_refl→aI,le_trans→dm,lt_irrefl→t_,lt_of_le_of_lt→mz,lt_of_lt_of_le→c9,lt_or_ge→ec,min_eq_left→nf,mul_le_mul→BJ,reduceAdd→ak,reduceEqDiff→aa,strongRecOn→xW,sub_add_cancel→xX,sub_self→iQ,zero_add→ep,zero_le→a8
open Option renaming bind_some→vQ,map_some→gX,none→V,some→U
open Option.some renaming inj→iR,injEq→fg
open Prod.mk renaming injEq→bH
open Go.Proofs.Tryz renaming f11→uj,f12→zJ,f13→x7,f142→oY,f16→ya,f165→s9,f191→o_,f251→BT,f252→nu,f279→rG,f32→ur,f83→rH,f84→uu,func12→zN
namespace Go.Proofs.YtjoceidiioppiaaGreatDoor.sto
open Go.Am Go.Mdl Go.Sto Go.Shelf
variable {M:List aw}{k:Nat}
theorem OO:∀l:List cr,l.foldl (mX M k) V=V
 | []=>rfl
 |a::l=>by rw[mu];exact OO l
theorem OG(l:List cr)(left:Nat):∀n j,j+n=Z l->∃q,j<=q/\q<=Z l/\(∀r (h:r<Z l),j<=r->r<q->(l[r]).to<left)/\(q=Z l\/∃a,l[q]?=U a/\left<=a.to)
 |0,j,h=>⟨j,aI _,by omega,λ r _ h1 h2=>by omega,.inl (by omega)⟩
 |n+1,j,h=>by
  by_cases hj:left<=(l[j]'(by omega)).to
  .exact⟨j,aI _,by omega,λ r _ h1 h2=>by omega,.inr ⟨_,aZ (by omega),hj⟩⟩
  .obtain⟨q,h1,h2,h3,h4⟩:=OG l left n (j+1) (by omega);refine⟨q,by omega,h2,λ r hr ha hb=>?_,h4⟩;rcases ec j r with hlt|hge
   .exact h3 r hr hlt hb
   .have:r=j:=by omega
    subst this;omega
theorem OP{left:Nat}{l:List cr}{q:Nat}(hq:q<=Z l):∀n j,j+n=q->(∀r (h:r<Z l),j<=r->r<q->(l[r]).to<left)->(l.drop j).foldl (mX M k) (U left)=(l.drop q).foldl (mX M k) (U left)
 |0,j,h,_=>by rw[show j=q by omega]
 |n+1,j,h,hs=>by
  have ht:=hs j (by omega) (aI _) (by omega);rw[mq (show j<Z l by omega),mu];have e:mX M k (U left) (l[j]'(by omega))=U left:=by unfold mX;rw[vQ,ax (by omega)]
  rw[e];exact OP hq n (j+1) (by omega) λ r hr h1 h2=>hs r hr (by omega) h2
def kP:=cu o_
def j8:aH:=sub kP [1,0,1,1,1,0,0,0]
def EK:aH:=sub j8 [1,0,1,1,0,0,0]
def W5:o_.body=U (.seq (sub kP [0]) (.scope (.seq (sub kP [1,0,0]) (.seq (sub kP [1,0,1,0]) (.seq (sub kP [1,0,1,1,0]) (.seq (.block 0 (.loop j8)) (.seq (sub kP [1,0,1,1,1,1,0]) (sub kP [1,0,1,1,1,1,1])))))))):=by kernel_rfl
def M7:j8=(.seq (sub j8 [0]) (.block 1 (.seq (sub j8 [1,0,0]) (.seq (sub j8 [1,0,1,0]) (.seq (.block 2 (.loop EK)) (.seq (sub j8 [1,0,1,1,1,0]) (.seq (sub j8 [1,0,1,1,1,1,0]) (sub j8 [1,0,1,1,1,1,1])))))))):=by kernel_rfl
variable {b o:Nat}
def Oj:bK O 334 (pw b o) 0=.ok (pw b o):=by kernel_rfl
def Jn:bK O 334 (pw b o) 1=.ok (pw b (o+1)):=by kernel_rfl
def MB{n:Int}:eu O 334 [(0,.int .i64 n)]=.ok (.agg ⟨[.int .i64 n,iN 0]⟩):=by kernel_rfl
def MR{m n:Int}:eO O 335 1 [(0,.agg ⟨[.int .i64 m,.int .i64 n]⟩)]=.ok (af 334 [.int .i64 m,.int .i64 n],.dZ 1 2):=by kernel_rfl
def Head(B:Mem)(p:Nat)(qi7:List (Nat×Nat))(left:Nat)(t:T I)(D:Mem):Prop:=∃b x,jg D b qi7 x/\B.next<=b/\Kp B D/\Sl t [(1,pV p),(3,.int .i64 left),(4,x)]
def JX{α:Type}(l:List α)(a:α):(l++[a])[Z l]?=U a:=by rw[eV (aI _),iQ];rfl
def qgu{α:Type}(l:List α)(a b:α):(l++[a]).set (Z l) b=l++[b]:=by rw[Eb _ _ (aI _),iQ];rfl
variable {A B:Mem}{y:I}{i j:Nat}{t:T I}
def Rs{D:Mem}{k:I}{q left:Nat}{s:aw}{qi7:List (Nat×Nat)}(h:dA A M y)(hAB:Kp A B)(vB:VB B 115 A.next (.var 2) [y,k])(hi:M[i]?=U s)(hl:Z s.arcs<=256)(hM:Z M<1000000)(hW:Z qi7<100000)(hL:left<1000000)
 (hjq:j<=q)(hq:q<=Z s.arcs)(hsk:∀r (h:r<Z s.arcs),j<=r->r<q->(s.arcs[r]).to<left)(hend:(q=Z s.arcs/\i=left)\/∃a,s.arcs[q]?=U a/\left<=a.to)(hH:Head B A.next (qi7++[(i,j)]) left t D):
 W O j8 ⟨t,79,[],D,V⟩ λ e s'=>e=.nrm/\∃t' D',s'=⟨t',79,[],D',V⟩/\((q=Z s.arcs/\Head B A.next qi7 (left+1) t' D')\/∃a,s.arcs[q]?=U a/\left<=a.to/\Head B A.next (qi7++[(i,q+1)]++[(a.to,0)]) left t' D'):=by
 obtain⟨b,x,hS,hb,hK,g1,g3,g4,-⟩:=hH;obtain⟨xs,p,r,i1,i2,hx,i4⟩:=(h.kp hAB).get hi;have i5:=(i4 D hK).2;have ly:=(vB.kp hK).l0 eg rfl;have ls:=hS.len;rw[aY,fb]at ls;have hpos:0<Z qi7+1:=by omega
 have s1:a_ .sub .i64 ((Z qi7+1:Nat):Int) ((1:Nat):Int)=.ok (iN (Z qi7)):=eQ (by omega) (ct (by omega));have ix:=hS.idx (i:=Z qi7) (by rw[aY,fb];omega);obtain⟨e0,e1⟩:=hS.at (JX qi7 (i,j));simp only[pV]at*;rw[M7];apply W.q
 .intro M;simp(disch:=decide+kernel)only[j8,kP,o_,Aq,aa,g4,ls,dM,dK,hpos];rfl
 apply W.block;apply W.q2
 .intro M _;simp(disch:=first|decide+kernel|omega|simp only[Wq,aa])only[j8,kP,o_,Aq,aa,g4,ls,s1,ix,av,reduceIte,ak,g1,gi,ly,bA,br,Oj,e0,i1,i2,i5,Fq,bQ []];rfl
 apply W.seq;apply W.block;refine W.up q (λ j t D=>∃b x,jg D b (qi7++[(i,j)]) x/\B.next<=b/\Kp B D/\(∀r (h:r<Z s.arcs),j<=r->r<q->(s.arcs[r]).to<left)/\Sl t [(1,pw A.next 0),(3,.int .i64 left),(4,x),(5,pw b (Z qi7*2)),(6,xs)]) ?_ hjq ⟨b,x,hS,hb,hK,hsk,?_⟩
 .rintro j t D hj ⟨b,x,hS,hb,hK,hsk,g1,g3,g4,g5,g6,-⟩;obtain⟨e0,e1⟩:=hS.at (JX qi7 (i,j));have lx:=(hx.kp hK).len;by_cases hlt:j<Z s.arcs
  .have hsj:=aZ hlt;obtain⟨pa,j1,pq,j2,j3⟩:=(hx.kp hK).to hsj;have a1:a_ .add .i64 ((j:Nat):Int) ((1:Nat):Int)=.ok (iN (j+1)):=e_ (ct (by omega));obtain⟨E,sE,hSE,nE,fE⟩:=hS.Ca (n:=j+1) (JX qi7 (i,j));rw[qgu]at hSE;have kE:Kp B E:=⟨by have:=hK.1;omega,λ z hz=>by rw[fE z (by omega),hK.2 z hz]⟩;by_cases hjq:j<q
   .have hto:¬left<=(s.arcs[j]).to:=by have:=hsk j hlt (aI _) hjq;omega
    apply W.run 20
    .intro M;simp(disch:=first|decide+kernel|omega)only[EK,j8,kP,o_,Aq,aa,g3,g5,g6,bA,br,Jn,e1,lx,hlt,j1,j2,j3,a1,sE,iZ,gA,hto];rfl
    refine⟨hjq,_,_,rfl,b,x,hSE,hb,kE,λ r hr h1 h2=>hsk r hr (by omega) h2,?_⟩;simp only[Sq,aa,ak,g1,g3,g4,g5,g6]
   .have e:j=q:=by omega
    subst e;rcases hend with⟨e,-⟩|⟨a,ha,hto⟩
    .omega
    .have ea:s.arcs[j]=a:=by rw[hsj]at ha;exact iR ha
     rw[ea]at j3;have kF:=Kp.alloc E (af 334 (fi (a.to,0)));obtain⟨x',G,b',happ,hSG,hb',nG,fG⟩:=(hSE.same kF.1 (kF.2 _ (by obtain⟨_,_,_,_,h,_⟩:=hSE;exact h))).push (de E _) (by rw[aY,fb];omega);rw[aG]at nG hb' fG;have happ':dJ O (E.alloc (af 334 [iN a.to,iN 0])) 335 335 x (.slice (U ⟨E.next,0,V⟩) 1 2)=.ok (x',G):=happ;apply W.run 20
     .intro M;simp(disch:=first|decide+kernel|omega)only[EK,j8,kP,o_,Aq,aa,g3,g4,g5,g6,bA,br,Jn,e1,lx,hlt,j1,j2,j3,a1,sE,iZ,gA,hto,MB,MR,happ',show aL 1 3=ag from rfl];rfl
     have nk:=kE.1;refine⟨rfl,_,_,rfl,.inr ⟨a,ha,hto,b',x',hSG,by omega,⟨by omega,λ z hz=>by rw[fG z (by omega) (by omega),kF.2 z (by omega),kE.2 z hz]⟩,?_⟩⟩;simp only[Sq,aa,ak,g1,g3,pV]
  .have e:j=Z s.arcs:=by omega
   subst e;have hqe:q=Z s.arcs:=by omega
   subst hqe;rcases hend with⟨-,hil⟩|⟨a,ha,-⟩
   .subst hil;have a1:a_ .add .i64 ((i:Nat):Int) ((1:Nat):Int)=.ok (iN (i+1)):=e_ (ct (by omega));have ls:=hS.len;rw[aY,fb]at ls;obtain⟨x',hsl,hS'⟩:=hS.pop;apply W.run 20
    .intro M;simp(disch:=decide+kernel)only[EK,j8,kP,o_,Aq,aa,g3,g5,g6,bA,br,Jn,e1,lx,t_];rfl
    apply W.q2
    .intro M _;simp(disch:=decide+kernel)only[j8,kP,o_,Aq,aa,g3,g5,bA,br,Oj,e0,a1];rfl
    apply W.run 20
    .intro M;simp(disch:=decide+kernel)only[j8,kP,o_,Aq,aa,g4,ls,s1,hsl];rfl
    refine⟨rfl,_,_,rfl,.inl ⟨rfl,b,x',hS',hb,hK,?_⟩⟩;simp only[Sq,aa,ak,g1,pV]
   .rw[ky (aI _)]at ha;cases ha
 .simp only[Sq,aa,ak,g1,g3,g4]
def Hv(B:Mem)(p:Nat)(K:Ex->St->Prop)(W1:List (Nat×Nat))(l1:Nat)(W2:List (Nat×Nat))(l2:Nat):Prop:=
 (∀t D,Head B p W2 l2 t D->W O (.loop j8) ⟨t,79,[],D,V⟩ K)->∀t D,Head B p W1 l1 t D->W O (.loop j8) ⟨t,79,[],D,V⟩ K
def qcn{k:I}{K:Ex->St->Prop}(h:dA A M y)(hAB:Kp A B)(vB:VB B 115 A.next (.var 2) [y,k])(g:eM M)(hM:Z M<1000000){f:Nat}
 (ih:∀i left L qi7,og M f i left=U L->Z qi7+i<100000->left<=Z M->Hv B A.next K (qi7++[(i,0)]) left qi7 L/\L<=Z M){s:aw}{qi7:List (Nat×Nat)}(hi:M[i]?=U s)(hW:Z qi7+i<100000):
 ∀n j left,j+n=Z s.arcs->left<=Z M->(s.arcs.drop j).foldl (mX M f) (U left)=U i->Hv B A.next K (qi7++[(i,j)]) left qi7 (i+1):=by
 intro n
 induction n using xW with
 |ind n ihn=>
  intro j left hj hle hf hk t D hH;have hfew:=w_ (g i s hi);obtain⟨q,h1,h2,h3,h4⟩:=OG s.arcs left n j hj;rw[OP h2 (q-j) j (by omega) h3]at hf;rcases ec q (Z s.arcs)with hlt|hge
  .have hsq:=aZ hlt;rcases h4 with h4|⟨a,ha,hto⟩
   .omega
   .have ea:s.arcs[q]=a:=by rw[hsq]at ha;exact iR ha
    rw[mq hlt,mu,ea]at hf;have e:mX M f (U left) a=og M f a.to left:=by unfold mX;rw[vQ,aA hto]
    rw[e]at hf;have hai:=(g i s hi).2.2.1 a (gJ ha);cases hv:og M f a.to left with
    |none=>rw[hv,OO]at hf;cases hf
    |some L1=>
     rw[hv]at hf;obtain⟨n1,n2⟩:=ih a.to left L1 (qi7++[(i,q+1)]) hv (by rw[aY,fb];omega) hle;have n3:=ihn (n-(q+1-j)) (by omega) (q+1) L1 (by omega) n2 hf;refine W.round ((Rs h hAB vB hi hfew hM (by omega) (by omega) h1 h2 h3 (.inr ⟨a,ha,hto⟩) hH).mono ?_);rintro e s' ⟨rfl,t',D',rfl,⟨e,-⟩|⟨a',ha',-,hH'⟩⟩
     .omega
     .rw[ha]at ha';cases ha';exact n1 (n3 hk) t' D' hH'
  .have e:q=Z s.arcs:=by omega
   subst e;rw[Bv]at hf;have hil:=(iR hf).symm;refine W.round ((Rs h hAB vB hi hfew hM (by omega) (by omega) h1 h2 h3 (.inl ⟨rfl,hil⟩) hH).mono ?_);rintro e s' ⟨rfl,t',D',rfl,⟨-,hH'⟩|⟨a',ha',-⟩⟩
   .rw[<-hil]at hH';exact hk t' D' hH'
   .rw[ky (aI _)]at ha';cases ha'
theorem Rt{k:I}{K:Ex->St->Prop}(h:dA A M y)(hAB:Kp A B)(vB:VB B 115 A.next (.var 2) [y,k])(g:eM M)(hM:Z M<1000000):
 ∀f i left L qi7,og M f i left=U L->Z qi7+i<100000->left<=Z M->Hv B A.next K (qi7++[(i,0)]) left qi7 L/\L<=Z M
 |0,i,left,L,qi7,hv,_,_=>by cases hv
 |f+1,i,left,L,qi7,hv,hW,hle=>by
  cases hi:M[i]? with
  |none=>rw[og,hi]at hv;cases hv
  |some s=>
   rw[GX hi]at hv;cases hf:s.arcs.foldl (mX M f) (U left)with
   |none=>rw[hf]at hv;cases hv
   |some L'=>
    rw[hf,vQ]at hv;split at hv
    .rename_i e;subst e;cases hv;refine⟨qcn h hAB vB g hM (λ i left L W a b c=>Rt h hAB vB g hM f i left L W a b c) hi hW (Z s.arcs) 0 left (by omega) hle (by rw[DX];exact hf),(bU.1 hi).1⟩
    .cases hv
def qeW{k:I}{f:Nat}(h:dA A M y)(g:eM M)(hM0:M≠ [])(hM:Z M<100000)(hv:og M f (Z M-1) 0=U (Z M)):∃v A',az O 191 [.agg ⟨[y,k]⟩] A v A'/\v=.bool ae/\Kp A A':=by
 refine cZ (aD Tryz.func191) W5 (by kernel_rfl) ?_;have hpos:=je.2 hM0;have kB:=Kp.alloc A (af 115 [y,k]);have vB:=aQ A 115 [y,k];apply W.q
 .intro M;simp(disch:=omega)only[kP,o_,Aq,aa,a7];rfl
 generalize A.alloc (af 115 [y,k])=B at kB vB;have lB:=vB.l0 eg rfl;have cd:=(h.kp kB).len;have s1:a_ .sub .i64 ((Z M:Nat):Int) ((1:Nat):Int)=.ok (iN (Z M-1)):=eQ (by omega) (ct (by omega));have kC:=Kp.alloc B (af 334 (fi (Z M-1,0)));have vC:=aQ B 334 (fi (Z M-1,0));have hC:B.alloc (af 334 [iN (Z M-1),iN 0])=B.alloc (af 334 (fi (Z M-1,0))):=rfl;apply W.scope;apply W.q2
 .intro M _;simp(disch:=decide+kernel)only[kP,o_,Aq,aa,gi,lB,cd,s1,MB,MR,hC];rfl
 generalize B.alloc (af 334 (fi (Z M-1,0)))=C at kC vC;apply W.seq;refine W.run 1 (λ m=>rfl) ?_;apply W.seq;apply W.block;refine(Rt h kB vB g (by omega) f (Z M-1) 0 (Z M) [] hv (by simp;omega) (a8 _)).1 ?_ _ _ ⟨B.next,.slice (U ⟨B.next,0,V⟩) 1 2,qhp vC.1 vC.2,aI _,kC,?_⟩
 .rintro t D ⟨b,x,hS,-,hK,g1,g3,g4,-⟩;have ls:=hS.len;have lD:=(vB.kp hK).l0 eg rfl;have lenD:=(h.kp (kB.trans hK)).len;simp only[pV]at g1;apply W.round;rw[M7];apply W.seq;apply W.run 20
  .intro M;simp(disch:=decide+kernel)only[j8,kP,o_,Aq,aa,g4,ls,dM,dK,eB];rfl
  apply W.seq;apply W.run 20
  .intro M;simp(disch:=decide+kernel)only[kP,o_,Aq,aa,g1,g3,gi,lD,lenD];rfl
  apply W.run 20
  .intro M;simp only[kP,o_,Aq,aa];rfl
  exact⟨by simp,rfl,_,(by simp only[o_,Aq,aa]<;>rfl),rfl,kB.trans hK⟩
 .simp only[Sq,aa,ak,pV]
variable {m:Nat}
def Vy:eu O 179 [(1,.map (U m))]=.ok (.agg ⟨[.slice V 0 0,.map (U m)]⟩):=by kernel_rfl
def qiR:dj O 179=.ok (.agg ⟨[.slice V 0 0,.map V]⟩):=by kernel_rfl
def UL:dj O 188=.ok (.agg ⟨[.slice V 0 0,.bool ag,uN 0,bN 0]⟩):=by kernel_rfl
def Mz{x:I}{s:aw}:eu O 188 [(0,.agg ⟨aS x s⟩)]=.ok (.agg ⟨[x,.bool s.fin,.int .u64 s.out,bN 0]⟩):=by kernel_rfl
def qf6:bk O 179=.ok 2:=by kernel_rfl
def qf7:bk O 188=.ok 4:=by kernel_rfl
def jl:=cu oY
def Cp:aH:=sub jl [1,1,1,1,1,1,0,1,0,0]
def WK:oY.body=U (.seq (sub jl [0]) (.seq (sub jl [1,0]) (.seq (sub jl [1,1,0]) (.seq (sub jl [1,1,1,0]) (.seq (sub jl [1,1,1,1,0]) (.seq (sub jl [1,1,1,1,1,0]) (.seq (.seq (sub jl [1,1,1,1,1,1,0,0]) (.block 0 (.loop Cp))) (.seq (sub jl [1,1,1,1,1,1,1,0]) (sub jl [1,1,1,1,1,1,1,1]))))))))):=by kernel_rfl
def qaO{s:aw}(hn:M.Nodup)(hf:∀s∈M,Fit s)(h:M[i]?=U s):eU s∉(M.take i).map eU:=by
 intro hm;obtain⟨u,hu,he⟩:=eH.1 hm;obtain⟨j,hj,rfl⟩:=oU hu;rw[df]at hj;rw[BB]at he;obtain⟨hi,rfl⟩:=bU.1 h;have:=key_inj (hf _ (ff (by omega))) (hf _ (ff hi)) he;exact tY.1 hn j i (by omega) hi (by omega) this
variable {C:Mem}{p mk:Nat}
def qc3{D:Mem}{s:aw}(h:dA A M y)(g:eM M)(hn:M.Nodup)(hf:∀s∈M,Fit s)(hM:Z M<100000)(hi:M[i]?=U s)(hAC:Kp A C)(hp:A.next<=p/\A.next<=mk)(hR:ud C p mk ((M.take i).map eU) D)
 (hs:Sl t [(4,pV p),(43,y),(44,.int .i64 (Z M)),(45,.int .i64 i)]):
 W O Cp ⟨t,72,[],D,V⟩ λ e s'=>e=.nrm/\∃t' D',s'=⟨t',72,[],D',V⟩/\ud C p mk ((M.take (i+1)).map eU) D'/\Sl t' [(4,pV p),(43,y),(44,.int .i64 (Z M)),(45,.int .i64 (i+1:Nat))]:=by
 obtain⟨g4,g43,g44,g45,-⟩:=hs;have hil:=(bU.1 hi).1;have hkn:=qaO hn hf hi;have htk:(M.take (i+1)).map eU=(M.take i).map eU++[eU s]:=by
  obtain⟨hi',rfl⟩:=bU.1 hi;rw[d_ hi',gg];rfl
 obtain⟨-,-,-,hne,h0⟩:=g i s hi;have hfew:=w_ (g i s hi);have hkl:((M.take i).map eU).length=i:=by rw[bc,df];omega
 have kAD:Kp A D:=by
  obtain⟨_,_,_,-,-,-,-,-,e6,e7⟩:=hR;exact⟨by have:=hAC.1;omega,λ z hz=>by rw[e7 z (by have:=hAC.1;omega) (by omega) (by omega),hAC.2 z hz]⟩
 obtain⟨x,q,j1,j2,hx,-⟩:=(h.kp kAD).at hi;have sE:=xC hx;have kE:=Kp.alloc D (af 186 (aS x s));have vE:=aQ D 186 (aS x s);have hxE:=hx.kp kE;have nE:=aG D (af 186 (aS x s));generalize hEe:D.alloc (af 186 (aS x s))=E at sE kE vE hxE nE;have sF:cm O (E.alloc (af 188 [.slice V 0 0,.bool ag,.int .u64 (0:Nat),.int .u8 (0:Nat)])) 188 (.pointer (U ⟨E.next,0,V⟩)) (.agg ⟨[x,.bool s.fin,.int .u64 s.out,.int .u8 (0:Nat)]⟩)=.ok (E.alloc (af 188 [x,.bool s.fin,.int .u64 s.out,.int .u8 (0:Nat)])):=fP qf7 rfl rfl (by simp) (λ v hv=>by
  simp only[cG,eC,or_false]at hv;rcases hv with rfl|rfl|rfl|rfl
  .obtain⟨b,hb⟩:=hx;exact(aq.dQ hb).2
  all_goals rfl)
 have kF:=Kp.alloc E (af 188 [x,.bool s.fin,.int .u64 s.out,.int .u8 (0:Nat)]);have vF:=aQ E 188 [x,.bool s.fin,.int .u64 s.out,.int .u8 (0:Nat)];generalize hFe:E.alloc (af 188 [x,.bool s.fin,.int .u64 s.out,.int .u8 (0:Nat)])=F at sF kF vF;obtain⟨v1,G,⟨g1,h1⟩,rfl,kG⟩:=qeT (hxE.kp kF) vF hfew h0;obtain⟨v2,H,⟨g2,h2⟩,rfl,hRH⟩:=qem (hR.kp (kE.trans (kF.trans kG))) (hxE.kp (kF.trans kG)) (hf s (gJ hi)) hfew hkn (by rw[hkl];omega);rw[hkl]at h2;obtain⟨d,hd1,hd2⟩:=cF (by kernel_rfl);have l0:=cg hd1 hd2 gV vE.2;have l1:=(vE.kp kF).m1 u4 rfl;have l2:=(vE.kp kF).l0 f_ rfl;have l3:=cg hd1 hd2 (l:=aS x s) gV (vE.kp (kF.trans kG)).2;have lx:=(hxE.kp kF).len;rw[htk];simp only[pV]at g4;cases hfin:s.fin with
 |true=>
  rw[hfin]at l1;apply W.cC (g1+g2) 20
  .intro M hM;simp(disch:=first|decide+kernel|omega|simp only[Wq,aa])only[Cp,jl,oY,Aq,av,reduceIte,aa,ak,g4,g43,g44,g45,hil,j1,j2,rh,a7,sE,l0,Mz,UL,sF,eT,fV,l1,l2,lx,h1,l3,h2];rfl
  refine⟨rfl,_,_,rfl,hRH,?_⟩;simp only[Sq,aa,ak,g4,g43,g44,pV]
 |false=>
  rw[hfin]at l1;have hlen:¬Z s.arcs=0:=by
   rcases hne with h|h
   .rw[hfin]at h;cases h
   .exact λ e=>h (eN.1 e)
  apply W.cC (g1+g2) 20
  .intro M hM;simp(disch:=first|decide+kernel|omega|simp only[Wq,aa])only[Cp,jl,oY,Aq,av,reduceIte,aa,ak,g4,g43,g44,g45,hil,j1,j2,rh,a7,sE,l0,Mz,UL,sF,eT,fV,l1,l2,lx,hlen,h1,l3,h2];rfl
  refine⟨rfl,_,_,rfl,hRH,?_⟩;simp only[Sq,aa,ak,g4,g43,g44,pV]
def qfq{f:Nat}(h:dA A M y)(hM0:M≠ [])(g:Sto.Good M)(hf:∀s∈M,Fit s)(hM:Z M<100000)(hv:og M f (Z M-1) 0=U (Z M)):∃v A',az O 142 [.agg ⟨[y,.int .u64 k]⟩] A v A'/\v=.bool ae/\Kp A A':=by
 refine cZ (aD Tryz.func142) WK (by kernel_rfl) ?_;have hpos:=je.2 hM0;have kB:=Kp.alloc A (af 115 [y,.int .u64 k]);have vB:=aQ A 115 [y,.int .u64 k];apply W.q
 .intro M;simp(disch:=omega)only[jl,oY,Aq,aa,a7];rfl
 have nB:=aG A (af 115 [y,.int .u64 k]);generalize A.alloc (af 115 [y,.int .u64 k])=B at kB vB nB;obtain⟨d,hd1,hd2⟩:=cF (by kernel_rfl);have lw:∀D,Kp B D->aj O D.get 115 (.pointer (U ⟨A.next,0,V⟩))=.ok (.agg ⟨[y,.int .u64 k]⟩):=λ D hD=>cg hd1 hd2 gF (vB.kp hD).2
 have ly:=λ D hD=>(vB.kp (A':=D) hD).l0 eg rfl
 have l1:=lw B (Kp.refl _);obtain⟨v1,C,⟨g1,h1⟩,rfl,kC⟩:=qet (k:=k) (h.kp kB) hM0 g.1 (by omega);apply W.qG (g1)
 .intro M hM;simp(disch:=omega)only[jl,oY,Aq,aa,l1,h1];rfl
 have hr:M[Z M-1]?=U (M[Z M-1]'(by omega)):=aZ (by omega)
 have hne:=(g.1 _ _ hr).2.2.2.1;obtain⟨x,q,j1,j2,hx,-⟩:=(h.kp (kB.trans kC)).at hr;generalize M[Z M-1]'(by omega)=s at*
 have sE:=xC hx;have kE:=Kp.alloc C (af 186 (aS x s));have vE:=aQ C 186 (aS x s);generalize hEe:C.alloc (af 186 (aS x s))=E at sE kE vE;have l2:=ly C kC;have lenC:=(h.kp (kB.trans kC)).len;have s1:a_ .sub .i64 ((Z M:Nat):Int) ((1:Nat):Int)=.ok (.int .i64 (Z M-1:Nat)):=eQ (by omega) (ct (by omega));apply W.q
 .intro M;simp(disch:=first|decide+kernel|omega)only[jl,oY,Aq,aa,gi,l2,lenC,s1,j1,j2,rh,a7,sE];rfl
 have e1:=vE.m1 u4 rfl;have e2:=vE.l0 f_ rfl;have lx:=(hx.kp kE).len;apply W.seq;refine W.to (n:=72) (λ t D=>D=E/\Sl t [(1,.pointer (U ⟨A.next,0,V⟩))]) ?_ ?_
 .cases hfin:s.fin with
  |true=>
   rw[hfin]at e1;apply W.run 20
   .intro M;simp(disch:=first|decide+kernel|omega|simp only[Wq,aa])only[jl,oY,Aq,av,reduceIte,aa,ak,eT,fV,e1];rfl
   refine⟨rfl,_,_,rfl,rfl,?_⟩;simp only[Sq,aa,ak]
  |false=>
   rw[hfin]at e1;have hlen:¬Z s.arcs=0:=by
    rcases hne with h|h
    .rw[hfin]at h;cases h
    .exact λ e=>h (eN.1 e)
   apply W.run 20
   .intro M;simp(disch:=first|decide+kernel|omega|simp only[Wq,aa])only[jl,oY,Aq,av,reduceIte,aa,ak,eT,fV,e1,e2,lx,hlen];rfl
   refine⟨rfl,_,_,rfl,rfl,?_⟩;simp only[Sq,aa,ak]
 .rintro t D ⟨rfl,g1',-⟩;have kBD:=kC.trans kE;have l3:=lw D kBD;obtain⟨v2,F,⟨g2,h2⟩,rfl,kF⟩:=qeW (k:=.int .u64 k) (h.kp (kB.trans kBD)) g.1 hM0 hM hv;apply W.qG (g2)
  .intro M hM;simp(disch:=first|decide+kernel|omega)only[jl,oY,Aq,aa,g1',l3,h2];rfl
  have kAF:=kB.trans (kBD.trans kF);have n1:=aG F (.map [] 0);have k1:=Kp.alloc F (.map [] 0);have k2:=Kp.alloc (F.alloc (.map [] 0)) (af 179 [.slice V 0 0,.map (U F.next)]);have n2:((F.alloc (.map [] 0)).alloc (af 179 [.slice V 0 0,.map (U F.next)])).next=F.next+2:=by rw[aG,n1]
  have v2:=aQ (F.alloc (.map [] 0)) 179 [.slice V 0 0,.map (U F.next)];have m2:((F.alloc (.map [] 0)).alloc (af 179 [.slice V 0 0,.map (U F.next)])).get F.next=U (.map [] 0):=by rw[cY (by omega)];exact de _ _
  have sG:cm O ((F.alloc (.map [] 0)).alloc (af 179 [.slice V 0 0,.map V])) 179 (.pointer (U ⟨(F.alloc (.map [] 0)).next,0,V⟩)) (.agg ⟨[.slice V 0 0,.map (U F.next)]⟩)=.ok _:=fP (l':=[.slice V 0 0,.map (U F.next)]) qf6 rfl rfl (by simp) (by simp[bS]);rw[n1]at v2 sG;apply W.q
  .intro M;simp(disch:=omega)only[jl,oY,Aq,aa,F_,uQ,Eu,Vy,qiR,a7,n1,sG];rfl
  generalize (F.alloc (.map [] 0)).alloc (af 179 [.slice V 0 0,.map (U F.next)])=G at k2 n2 v2 m2 sG;have kAG:=kAF.trans (k1.trans k2);have nF:=kAF.1;have l4:=ly G (kBD.trans (kF.trans (k1.trans k2)));have lenG:=(h.kp kAG).len;have hR:ud G (F.next+1) F.next ((M.take 0).map eU) G:=⟨G.next,.slice V 0 0,[],v2,m2,.inl ⟨rfl,rfl⟩,rfl,⟨aI _,λ _=>rfl,by omega,by omega,by omega⟩,aI _,λ _ _ _ _=>rfl⟩
  apply W.seq;apply W.q
  .intro M;simp(disch:=decide+kernel)only[jl,oY,Aq,aa,g1',gi,l4,lenG];rfl
  apply W.block;refine W.up (Z M) (λ i t D=>ud G (F.next+1) F.next ((M.take i).map eU) D/\Sl t [(4,pV (F.next+1)),(43,y),(44,.int .i64 (Z M)),(45,.int .i64 i)]) ?_ (a8 _) ⟨hR,?_⟩
  .rintro i t D hi ⟨hR,hs⟩;by_cases hlt:i<Z M
   .refine(qc3 h g.1 g.2.1 hf hM (aZ hlt) kAG ⟨by omega,by omega⟩ hR hs).mono ?_;rintro e s' ⟨rfl,t',D',rfl,hR',hs'⟩;exact⟨hlt,t',D',rfl,hR',hs'⟩
   .have e:i=Z M:=by omega
    subst e;obtain⟨_,_,_,-,-,-,-,-,e6,e7⟩:=hR;obtain⟨g4,g43,g44,g45,-⟩:=hs;apply W.run 20
    .intro M;simp(disch:=decide+kernel)only[Cp,jl,oY,Aq,aa,g44,g45];rfl
    apply W.run 40
    .intro M;simp(disch:=omega)only[jl,oY,Aq,aa];rfl
    exact⟨by simp,rfl,_,(by simp only[oY,Aq,aa]<;>rfl),rfl,by show A.next<=D.next;omega,λ z hz=>by show D.get z=A.get z;rw[e7 z (by omega) (by omega) (by omega),kAG.2 z hz]⟩
  .simp only[Sq,aa,ak,pV]
end Go.Proofs.YtjoceidiioppiaaGreatDoor.sto
namespace Go.Sto
open Go.Am Go.Mdl
variable {M:List aw}
def qiC(g:eM M):∀i,i<Z M->ws M i≠ []:=by
 intro i
 induction i using xW with
 |ind i ih=>
  intro hi;have hs:M[i]?=U M[i]:=aZ hi;obtain⟨-,-,h3,h4,-⟩:=g i _ hs;rw[rf g hs];generalize M[i]=s at*;rcases h4 with h4|h4
  .rw[h4];simp
  .obtain⟨a,rs,ha⟩:∃a rs,s.arcs=a::rs:=by cases h:s.arcs with
    |nil=>exact aU h h4
    |cons a rs=>exact⟨a,rs,rfl⟩
   have hlt:=h3 a (by rw[ha];exact cJ);have:=ih a.to hlt (by omega);rw[ha,mr];unfold iz;simp[this]
variable {i:Nat}
def Ru(g:Good M){s:aw}(hs:M[i]?=U s):s.out<=4294967296/\∀a∈s.arcs,a.out<=4294967296:=by
 have hi:=(bU.1 hs).1;have hw:=g.2.2 i hi;rw[rf g.1 hs]at hw;obtain⟨h1,-,h3,-,-⟩:=g.1 i s hs;refine⟨?_,λ a ha=>?_⟩
 .cases hf:s.fin with
  |false=>rw[h1 hf];omega
  |true=>
   rw[hf]at hw;exact hw ([],s.out) (by simp)
 .obtain⟨w,hwm⟩:=Bw _ (qiC g.1 a.to (by have:=h3 a ha;omega));have:=hw (a.byte::w.1,a.out+w.2) (xS _ (BD.2 ⟨a,ha,eH.2 ⟨w,hwm,rfl⟩⟩));simp only at this;omega
end Go.Sto
namespace Go.Proofs.YtjoceidiioppiaaGreatDoor.sto
open Go.Am Go.Mdl Go.Sto
variable {M:List aw}
def qa0(g:Go.Sto.Good M):Lay M:=λ i s hs=>by
 have hm:s∈M:=gJ hs;obtain⟨h1,-,h3,-,-⟩:=g.1 i s hs;obtain⟨h4,h5⟩:=Ru g hs;exact⟨O4 g hm,h1,by omega,λ a ha=>⟨h3 a ha,by have:=h5 a ha;omega⟩⟩
variable {i:Nat}
theorem OK:∀{l:List cr},i<18446744073709551616->(∀a∈l,a.out<18446744073709551616)->(l.flatMap (fx i)).length<=19*Z l
 | [],_,_=>aI _
 |a::l,hi,h=>by
  have h1:=OK (l:=l) hi λ a ha=>h a (cV _ ha)
  have h2:=pB a.out (h a cJ);have h3:=pB (i-a.to) (by omega);have e:(fx i a).length=(bL a.out).length+(bL (i-a.to)).length+1:=by unfold fx;rw[cD,aY]
  rw[mr,aY,cD,e];omega
variable {c:Nat}
theorem TG(hc:c<=256):∀(M:List aw) (i:Nat),i+Z M<1000000->(∀s∈M,Z s.arcs<=c/\s.out<18446744073709551616/\∀a∈s.arcs,a.out<18446744073709551616)->(fX i M).length<=(19*c+18)*Z M
 | [],_,_,_=>aI _
 |s::M,i,hi,h=>by
  rw[cD]at hi;have h1:=TG hc M (i+1) (by omega) λ s hs=>h s (cV _ hs)
  obtain⟨h2,h3,h4⟩:=h s cJ;have h5:=OK (i:=i) (by omega) h4;have h6:(jK s).length<=18:=by
   unfold jK;have e1:=pB (2*Z s.arcs+1) (by omega);have e2:=pB (2*Z s.arcs) (by omega);have e3:=pB s.out h3;split
   .rw[aY];omega
   .omega
  rw[fX,aY,cD];unfold lh;rw[aY,Nat.mul_add];omega
end Go.Proofs.YtjoceidiioppiaaGreatDoor.sto
namespace Go.Proofs.YtjoceidiioppiaaGreatDoor.sto
open Go.Am Go.Mdl Go.Sto Go.Shelf
structure UZ (l:List aK):Prop where
 ne:dx l≠ []
 good:Sto.Good (dx l)
 fit:∀s∈dx l,Fit s
 len:(dx l).length<10000
 visit:og (dx l) (dx l).length ((dx l).length-1) 0=U (dx l).length
 words:ws (dx l) ((dx l).length-1)=l.map (D 0 (least l))
def K8{l:List aK}(h:mo l):UZ l:=by
 obtain⟨h0,ha,hw,-,hlen,-,-,-,-⟩:=h;obtain⟨r1,-,r3,r4,r5,r6⟩:=NB h0 ha λ e he=>⟨(hw e he).2.1,(hw e he).2.2⟩
 have hr:(dv 256 l 0 (least l) []).2=(dx l).length-1:=by
  rcases r4 with⟨-,h⟩|⟨-,h⟩
  .simp at h
  .show _=(dv 256 l 0 (least l) []).1.length-1;omega
 have hpos:0<(dx l).length:=by
  have:(dv 256 l 0 (least l) []).2<(dx l).length:=r3;omega
 refine⟨je.1 hpos,r1,λ s hs=>?_,by omega,?_,?_⟩
 .obtain⟨i,hi,rfl⟩:=oU hs;have hsi:=aZ hi;obtain⟨o1,o2⟩:=Ru r1 hsi;exact⟨mz o1 (by omega),λ a hx=>⟨mz (o2 a hx) (by omega),by have:=(r1.1 i _ hsi).2.2.1 a hx;omega⟩⟩
 .have:=r6 (a8 _) (dx l).length (by rw[hr];omega);rwa[hr]at this
 .rw[<-hr];exact r5
def Di(q1 q2:Nat):List I:=[.func (.func 141) ⟨[]⟩ ⟨[pw q2 0]⟩,.func (.func 143) ⟨[]⟩ ⟨[pw q2 0,pw q1 0]⟩,.func (.func 145) ⟨[]⟩ ⟨[pw q2 0]⟩,.func (.func 147) ⟨[]⟩ ⟨[pw q2 0]⟩,.func (.func 148) ⟨[]⟩ ⟨[pw q2 0]⟩]
variable {b:Nat}
def Wd{a:Nat}:eO O 232 5 [(0,.func (.func 141) ⟨[]⟩ ⟨[pw b 0]⟩),(1,.func (.func 143) ⟨[]⟩ ⟨[pw b 0,pw a 0]⟩),(2,.func (.func 145) ⟨[]⟩ ⟨[pw b 0]⟩),(3,.func (.func 147) ⟨[]⟩ ⟨[pw b 0]⟩),(4,.func (.func 148) ⟨[]⟩ ⟨[pw b 0]⟩)]=.ok (af 53 (Di a b),.dZ 5 10):=by kernel_rfl
def T':O.aB 232=U (.slice 53):=by kernel_rfl
def qf9:bk O 53=.ok 1:=by kernel_rfl
variable {C:Mem}{y:I}
def qc2{l:List aK}{q1 q2:Nat}(h:mo l)(hS:dA C (dx l) y)(v1:VB C 3 q1 (.var 1) [.int .i64 (Z l)])(v2:VB C 115 q2 (.var 2) [y,.int .u64 (least l:Nat)])(i:Nat)(hi:i<5):
 ∃f c,(Di q1 q2)[i]?=U (.func (.func f) ⟨[]⟩ ⟨c⟩)/\∃D,az O f c C (.bool ae) D/\Kp C D:=by
 obtain⟨s1,s2,s3,s4,s5,s6⟩:=K8 h;obtain⟨h0,-,hw,hl,-⟩:=h;obtain⟨d,hd1,hd2⟩:=cF (t:=115) (p:=ae) (by kernel_rfl);have lf:aj O C.get 115 (.pointer (U ⟨q2,0,V⟩))=.ok (.agg ⟨[y,.int .u64 (least l:Nat)]⟩):=cg hd1 hd2 (l:=[y,.int .u64 (least l:Nat)]) gF v2.2;have hpos:=je.2 s1;have hlp:=je.2 h0;have:i=0\/i=1\/i=2\/i=3\/i=4:=by omega
 rcases this with rfl|rfl|rfl|rfl|rfl
 .obtain⟨v,D,⟨g,hg⟩,rfl,kD⟩:=qfq (k:=least l) hS s1 s2 s3 (by omega) s5;refine⟨141,_,rfl,D,?_,kD⟩;refine bX (g) 60 (aD Tryz.func141) (by kernel_rfl) λ M hM=>?_
  simp(disch:=first|decide+kernel|omega)only[Tryz.f141,Aq,aa,lf,hg]<;>rfl
 .have hn:(ws (dx l) ((dx l).length-1)).length=Z l:=by rw[s6,bc]
  obtain⟨v,D,⟨g,hg⟩,rfl,kD⟩:=qdY (k:=.int .u64 (least l:Nat)) hS ⟨rfl,rfl⟩ s2.1 s1 (by omega) (by omega);rw[hn]at hg;have l3:aj O D.get 3 (.pointer (U ⟨q1,0,V⟩))=.ok (.int .i64 (Z l)):=(v1.kp kD).ld rfl u3 rfl;refine⟨143,_,rfl,D,?_,kD⟩;refine bX (g) 60 (aD Tryz.func143) (by kernel_rfl) λ M hM=>?_
  simp(config:={maxSteps:=4000000})(disch:=first|decide+kernel|omega|simp only[Wq,aa])only[Tryz.f143,Aq,av,reduceIte,aa,ak,lf,hg,l3,dM,dK,hlp,c7,dc]<;>rfl
 .obtain⟨v,D,⟨g,hg⟩,kD,x,rfl,-,-,hx⟩:=qeJ (k:=.int .u64 (least l:Nat)) hS s2.1 s1 (by omega);have hle:x<=((255:Nat):Int):=by
   rcases hx with rfl|⟨w,hwm,rfl⟩
   .omega
   .rw[s6]at hwm;obtain⟨e,he,rfl⟩:=eH.1 hwm;have:=(hw e he).2.1;show(((e.word.drop 0).length:Nat):Int)<=_;rw[DX];omega
  refine⟨145,_,rfl,D,?_,kD⟩;refine bX (g) 60 (aD Tryz.func145) (by kernel_rfl) λ M hM=>?_
  simp(disch:=first|decide+kernel|omega)only[Tryz.f145,Aq,aa,lf,hg,tM,hle]<;>rfl
 .have ly:aj O C.get 112 (.pointer (U ⟨q2,0,V⟩))=.ok y:=v2.ld rfl eg rfl;have hr:=aZ (show(dx l).length-1<(dx l).length by omega);have hfin:((dx l)[(dx l).length-1]'(by omega)).fin=ag:=by
   cases hf:((dx l)[(dx l).length-1]'(by omega)).fin with
   |false=>rfl
   |true=>
    have hm:([],((dx l)[(dx l).length-1]'(by omega)).out)∈ws (dx l) ((dx l).length-1):=by rw[rf s2.1 hr,hf];simp
    rw[s6]at hm;obtain⟨e,he,hee⟩:=eH.1 hm;have:=(hw e he).1;have hz:e.word.drop 0=[]:=cX Prod.fst hee;rw[DX]at hz;rw[hz]at this;simp at this
  have lenC:=hS.len;have e1:a_ .sub .i64 (((dx l).length:Nat):Int) ((1:Nat):Int)=.ok (.int .i64 ((dx l).length-1:Nat)):=eQ (by omega) (ct (by omega));obtain⟨b,rows,r1,r2,r3⟩:=hS;obtain⟨x,e2,-⟩:=r3 _ _ hr;have ix:=aq.idx (tb:=O) (t:=112) (kd:=.i64) r1 eg gV (bU.1 e2).1;have lz:=aq.load (tb:=O) (j:=1) r1 u4 rfl e2 rfl (by omega);rw[hfin]at lz;refine⟨147,_,rfl,C,?_,Kp.refl _⟩;refine cq 60 (aD Tryz.func147) (by kernel_rfl) λ M=>?_
  simp(disch:=first|decide+kernel|omega)only[Tryz.f147,Aq,aa,gi,ly,lenC,e1,ix,fV,lz]<;>rfl
 .have hk:∀w∈ws (dx l) ((dx l).length-1),w.2+least l<=4294967296:=λ w hwm=>by
   rw[s6]at hwm;obtain⟨e,he,rfl⟩:=eH.1 hwm;have h1:=least_le he;have h2:=xE (hw e he).2.2;show val e-least l+least l<=_;omega
  obtain⟨v,D,⟨g,hg⟩,kD,n,rfl⟩:=qez (k:=least l) hS s2 s1 (by omega) hk;refine⟨148,_,rfl,D,?_,kD⟩;refine bX (g) 60 (aD Tryz.func148) (by kernel_rfl) λ M hM=>?_
  simp(disch:=first|decide+kernel|omega)only[Tryz.f148,Aq,aa,lf,hg,c7,dc]<;>rfl
def oD:=cu uu
def IT:aH:=sub oD [1,0,1,1,1,0,1,0,0]
def XH:uu.body=U (.seq (sub oD [0]) (.scope (.seq (sub oD [1,0,0]) (.seq (sub oD [1,0,1,0]) (.seq (sub oD [1,0,1,1,0]) (.seq (.seq (sub oD [1,0,1,1,1,0,0]) (.block 0 (.loop IT))) (.seq (sub oD [1,0,1,1,1,1,0]) (sub oD [1,0,1,1,1,1,1])))))))):=by kernel_rfl
variable {A:Mem}
def qfL{l:List aK}(h:mo l)(hS:dA A (dx l) y):∃v A',az O 84 [iN (Z l),.agg ⟨[y,uN (least l)]⟩] A v A'/\v=.bool ae/\Kp A A':=by
 refine cZ (aD Tryz.func84) XH (by kernel_rfl) ?_;generalize hq:A.next=q
 have n1:(A.alloc (af 3 [iN (Z l)])).next=q+1:=by rw[aG,hq]
 have n2:((A.alloc (af 3 [iN (Z l)])).alloc (af 115 [y,uN (least l)])).next=q+2:=by rw[aG,n1]
 have kB:=(Kp.alloc A (af 3 [iN (Z l)])).trans (Kp.alloc _ (af 115 [y,uN (least l)]));have v1:=(aQ A 3 [iN (Z l)]).kp (Kp.alloc _ (af 115 [y,uN (least l)]));have v2:=aQ (A.alloc (af 3 [iN (Z l)])) 115 [y,uN (least l)];rw[hq]at v1;rw[n1]at v2;apply W.q
 .intro M;simp(disch:=first|decide+kernel|omega)only[oD,uu,Aq,aa,a7,uC,hq,n1];rfl
 generalize (A.alloc (af 3 [iN (Z l)])).alloc (af 115 [y,uN (least l)])=B at*;have kC:=Kp.alloc B (af 53 (Di q (q+1)));have vC:=aQ B 53 (Di q (q+1));have b2:=Wd (a:=q) (b:=q+1);apply W.scope;apply W.q
 .intro M;simp(disch:=first|decide+kernel|omega)only[oD,uu,Aq,aa,ki,b2,n2];rfl
 rw[n2]at vC;generalize B.alloc (af 53 (Di q (q+1)))=C at kC vC;have kAC:=kB.trans kC;have v1:=v1.kp kC;have v2:=v2.kp kC;have ll:c_ O .len [232] [.slice (U ⟨q+2,0,V⟩) 5 10]=.ok (iN 5):=mQ T';apply W.q
 .intro M;simp(disch:=first|decide+kernel|omega)only[oD,uu,Aq,aa];rfl
 apply W.seq;refine W.run 1 (λ m=>rfl) ?_;apply W.seq;apply W.q
 .intro M;simp(disch:=first|decide+kernel|omega)only[oD,uu,Aq,aa,ll];rfl
 apply W.block;refine W.up 5 (λ i t D=>Kp C D/\Sl t [(4,.bool ae),(14,.slice (U ⟨q+2,0,V⟩) 5 10),(15,iN 5),(16,.int .i64 i)]) ?_ (a8 _) ⟨Kp.refl _,?_⟩
 .rintro i t D hi ⟨kD,g4,g14,g15,g16,-⟩;by_cases hlt:i<5
  .obtain⟨f,c,e1,E,⟨g,hg⟩,kE⟩:=qc2 h (hS.kp (kAC.trans kD)) (v1.kp kD) (v2.kp kD) i hlt;have ix:=JO (tb:=O) (t:=232) (b:=q+2) (o:=0) (len:=5) (cap:=10) (i:=i) (k:=.i64) T' qf9 hlt;rw[ep]at ix;have lf:aj O D.get 53 (pw (q+2) i)=.ok (.func (.func f) ⟨[]⟩ ⟨c⟩):=by
    obtain⟨d,hd1,hd2⟩:=cF (t:=53) (p:=ag) (by kernel_rfl);exact(vC.kp kD).ld e1 hd1 hd2
   apply W.cC (g) 20
   .intro M hM;simp(disch:=first|decide+kernel|omega)only[IT,oD,uu,Aq,aa,g14,g15,g16,hlt,ix,lf,hg];rfl
   refine⟨hlt,_,_,rfl,kD.trans kE,?_⟩;simp only[Sq,aa,ak,g14,g15]
  .have e:i=5:=by omega
   subst e;apply W.run 20
   .intro M;simp(disch:=first|decide+kernel|omega)only[IT,oD,uu,Aq,aa,g15,g16,t_];rfl
   apply W.run 40
   .intro M;simp(disch:=first|decide+kernel|omega)only[oD,uu,Aq,aa,g4];rfl
   exact⟨by simp,rfl,_,(by simp only[uu,Aq,aa]<;>rfl),rfl,kAC.trans kD⟩
 .simp only[Sq,aa,ak]
variable {A':Mem}{v:I}
def qaH{ih:aH->St->R (Ex×St)}{s:List UInt8}(h:FK [ai s] A=.ok (v,A')):cE O ih (.fn 83 [ai s]) A=.ok (.val v A'):=
 mG (aD Tryz.func83) (by kernel_rfl) (c:=rH.body.getD .skip) (by kernel_rfl) (nV (by simp only[fA,jN,T.bR];rfl)) h
def yZ(y:I)(l:List aK):List I:=[y,uN (least l),iN (Z l),iN ((crc.gk (ke l)).length)]
def sW(A:Mem)(l:List aK)(v:I):Prop:=∃p y,v=pV p/\VB A 150 p (.var 4) (yZ y l)/\dA A (dx l) y
variable {n:Nat}
def qbG{g:Nat->Option Ob}:fU O g .neq 143 (.tmp n) (.const .nilIface) .nilIface .nilIface=.ok (.bool ag):=by kernel_rfl
def Vp{k:Int}:eu O 148 [(0,.agg ⟨[y,.int .u64 k]⟩)]=.ok (.agg ⟨[y,.int .u64 k]⟩):=by kernel_rfl
def Vq{k n m:Int}:eu O 150 [(0,.agg ⟨[y,.int .u64 k]⟩),(1,.int .i64 n),(2,.int .i64 m)]=.ok (.agg ⟨[y,.int .u64 k,.int .i64 n,.int .i64 m]⟩):=by kernel_rfl
def qgm(l:List UInt8):(crc.gk l).length<=Z l+4:=by
 unfold crc.gk;simp[crc.four]
def KV{l:List aK}(h:mo l):∃v A',az O 35 [ai (crc.gk (ke l))] A v A'/\Kp A A'/\∃x,v=.tuple ⟨[x,iN 0]⟩/\sW A' l x:=by
 obtain⟨q1,-,-,q4,q5,q6,q7,q8,q9⟩:=id h;have hlen:=qgm (ke l);obtain⟨v,B,h1,kB,y,rfl,hS⟩:=qcu (A:=A) (s:=crc.gk (ke l)) (n:=Z l) (k:=least l) (M:=dx l) (by omega) (crc.qcl _) (by omega) q6 (by omega) q7 q8 (by show(ke l).length<_;omega);have kp:=λ ih=>qaH (ih:=ih) h1
 have kC:=Kp.alloc B (af 115 [y,uN (least l)]);have vC:=aQ B 115 [y,uN (least l)];have sC:cm O (B.alloc (af 115 [.slice V 0 0,uN 0])) 115 (pw B.next 0) (.agg ⟨[y,uN (least l)]⟩)=.ok (B.alloc (af 115 [y,uN (least l)])):=fP gF rfl rfl (by simp) (λ v hv=>by
  simp only[cG,eC,or_false]at hv;rcases hv with rfl|rfl
  .exact hS.self.2
  .rfl)
 generalize hCe:B.alloc (af 115 [y,uN (least l)])=C at kC vC sC;obtain⟨d,hd1,hd2⟩:=cF (t:=115) (p:=ae) (by kernel_rfl);have lC:∀D,Kp C D->aj O D.get 115 (pw B.next 0)=.ok (.agg ⟨[y,uN (least l)]⟩):=λ D hD=>cg hd1 hd2 (l:=[y,uN (least l)]) gF (vC.kp hD).2
 have l1:=lC C (Kp.refl _);obtain⟨v,D,⟨g,hg⟩,rfl,kD⟩:=qfL h (hS.kp kC);have l2:=lC D kD;have kE:=Kp.alloc D (af 150 (yZ y l));have vE:=aQ D 150 (yZ y l);have hE:D.alloc (af 150 [y,uN (least l),iN (Z l),iN ((crc.gk (ke l)).length)])=D.alloc (af 150 (yZ y l)):=rfl;have ll:=gB (tb:=O) (t:=9) (l:=crc.gk (ke l)) u9;refine⟨_,D.alloc (af 150 (yZ y l)),?_,(kB.trans kC).trans (kD.trans kE),pV D.next,rfl,D.next,y,rfl,vE,hS.kp (kC.trans (kD.trans kE))⟩;simp only[pV];refine bX (g) 60 (aD Tryz.func35) (by kernel_rfl) λ M hM=>?_
 simp(config:={maxSteps:=4000000})(disch:=first|decide+kernel|omega|simp only[Wq,aa])only[Tryz.f35,Aq,av,reduceIte,aa,ak,kp,vf,a7,sC,c7,dc,wM,F',qbG,l1,hg,l2,Vp,ll,Vq,hE,eY]<;>rfl
def YT:bK O 150 (pw b 0) 1=.ok (pw b 2):=by kernel_rfl
def NS{t:bM}:fU O A.get .eql 37 t (.const (.pointer V)) (pw b 0) (.pointer V)=.ok (.bool ag):=by kernel_rfl
def SJ{l:List aK}(h:sW A l v):az O 44 [v] A (iN (Z l)) A:=by
 obtain⟨p,y,rfl,h1,-⟩:=h;have l1:aj O A.get 3 (pw p 2)=.ok (iN (Z l)):=h1.ld rfl u3 rfl;simp only[pV];refine cq 60 (aD Tryz.func44) (by kernel_rfl) λ M=>?_
 simp(disch:=first|decide+kernel|omega)only[Tryz.f44,Aq,aa,fm,NS,bA,br,YT,l1,eY]<;>rfl
inductive uf (b:Nat):List (FuncId×List I)->Mem->Nat->Mem->Prop
 |nil (A:Mem):uf b [] A 0 A
 |ok {f:FuncId} {cs:List I} {r:List (FuncId×List I)} {A B C:Mem} {e:Nat}:az O f cs A (.int .i64 (0:Nat)) B->A.next<=B.next->B.get b=A.get b->uf b r B e C->uf b ((f,cs)::r) A e C
 |err {f:FuncId} {cs:List I} {r:List (FuncId×List I)} {A B:Mem} {e:Nat}:az O f cs A (.int .i64 e) B->e≠0->uf b ((f,cs)::r) A e B
def ez(p:FuncId×List I):I:=.func (.func p.1) ⟨[]⟩ ⟨p.2⟩
def T_:O.aB 141=U (.slice 83):=by kernel_rfl
def qia:∃d,O.aB 83=U d/\en d=ag:=cF (by kernel_rfl)
def qgM:bk O 83=.ok 1:=by kernel_rfl
def rS:=cu ur
def EP:aH:=sub rS [1,0,1,0,0]
def Xy:ur.body=U (.seq (sub rS [0]) (.seq (.seq (sub rS [1,0,0]) (.block 0 (.loop EP))) (.seq (sub rS [1,1,0]) (sub rS [1,1,1])))):=by kernel_rfl
def KZ{A:Mem}{e:Nat}{l:List (FuncId×List I)}{x:I}(hx:aq A 83 1 b (l.map λ p=>[ez p]) x)(h:uf b l A e C)(hl:Z l<1000):az O 32 [x] A (.int .i64 e) C:=by
 refine wg (aD Tryz.func32) Xy (by kernel_rfl) ?_;have hlen:=aq.len hx T_;rw[bc]at hlen;apply W.q
 .intro M;simp(disch:=omega)only[rS,ur,Aq,aa];rfl
 apply W.seq;apply W.q
 .intro M;simp(disch:=decide+kernel)only[rS,ur,Aq,aa,hlen];rfl
 apply W.block;refine W.up (Z l) (λ i t D=>(A.next<=D.next/\D.get b=A.get b)/\uf b (l.drop i) D e C/\Sl t [(6,x),(7,.int .i64 (Z l)),(8,.int .i64 i)]) ?_ (a8 _) ⟨⟨aI _,rfl⟩,h,?_⟩
 .rintro i t D hi ⟨⟨kn,kf⟩,hD,g6,g7,g8,-⟩;by_cases hlt:i<Z l
  .have hp:=aZ hlt;rw[mq hlt]at hD;generalize l[i]=p at*;have hxD:=hx.same kn λ _=>kf
   have j1:=aq.idx (kd:=.i64) hxD T_ qgM (by rw[bc];exact hlt);obtain⟨d,hd1,hd2⟩:=qia;have j2:=aq.load (j:=0) hxD hd1 hd2 (show(l.map λ p=>[ez p])[i]?=U [ez p] by rw[dN,hp];rfl) rfl (by omega);rw[eo]at j2;cases hD with
   |ok h1 h2 h3 h4=>
    obtain⟨g,hg⟩:=h1;simp only[ez]at j2;apply W.cC (g) 20
    .intro M hM;simp(disch:=first|decide+kernel|omega)only[EP,rS,ur,Aq,aa,g6,g7,g8,hlt,j1,j2,hg];rfl
    refine⟨hlt,_,_,rfl,⟨by omega,by rw[h3,kf]⟩,h4,?_⟩;simp only[Sq,aa,ak,g6,g7]
   |err h1 h2=>
    obtain⟨g,hg⟩:=h1;simp only[ez]at j2;apply W.cC (g) 20
    .intro M hM;simp(disch:=first|decide+kernel|omega)only[EP,rS,ur,Aq,aa,g6,g7,g8,hlt,j1,j2,hg,h2];rfl
    exact⟨by simp,rfl,rfl,by simp only[ur,Aq,aa]<;>rfl⟩
  .have ei:i=Z l:=by omega
   subst ei;rw[Bv]at hD;cases hD;apply W.run 20
   .intro M;simp(disch:=decide+kernel)only[EP,rS,ur,Aq,aa,g7,g8];rfl
   apply W.run 40
   .intro M;simp(disch:=omega)only[rS,ur,Aq,aa];rfl
   exact⟨by simp,rfl,rfl,by simp only[ur,Aq,aa]<;>rfl⟩
 .simp only[Sq,aa,ak]
def iH(l:List aK):List UInt8:=crc.gk (ke l)
def qh1:O.aB 38=U (.int .i64):=by kernel_rfl
def qhZ:O.aB 28=U (.slice 61):=by kernel_rfl
def Uj:∃d,O.aB 37=U d/\en d=ag:=cF (by kernel_rfl)
def qgJ:bk O 37=.ok 1:=by kernel_rfl
variable {c:Nat}
def Se{A:Mem}{b:Bool}:az O 30 [.bool b,.int .i64 c] A (.func (.func 31) ⟨[]⟩ ⟨[pV A.next,pV (A.next+1)]⟩) ((A.alloc (af 4 [.bool b])).alloc (af 38 [.int .i64 c])):=by
 have n1:=aG A (af 4 [.bool b]);simp only[pV];refine cq 60 (aD Tryz.func30) (by kernel_rfl) λ M=>?_
 simp(disch:=omega)only[Tryz.f30,Aq,aa,Nk,uC,Ac,n1,ki]<;>rfl
def Dk{A:Mem}{a:Nat}(h:VB A 4 a (.var 1) [.bool ae]):az O 31 [pV a,pV b] A (iN 0) A:=by
 have l1:=h.l0 u4 rfl;simp only[pV];refine cq 60 (aD Tryz.func31) (by kernel_rfl) λ M=>?_
 simp(disch:=omega)only[Tryz.f31,Aq,aa,l1]<;>rfl
def qdt{A:Mem}{a:Nat}(h:VB A 4 a (.var 1) [.bool ag])(h2:VB A 38 b (.var 1) [.int .i64 c]):az O 31 [pV a,pV b] A (.int .i64 c) A:=by
 have l1:=h.l0 u4 rfl;have l2:=h2.l0 qh1 rfl;simp only[pV];refine cq 60 (aD Tryz.func31) (by kernel_rfl) λ M=>?_
 simp(disch:=omega)only[Tryz.f31,Aq,aa,l1,l2]<;>rfl
structure Bu (l:List aK):Prop where
 w:∀e∈l,1<=Z e.word/\Z e.word<=255
 n:Z l<=1000
 ok:l≠ []->dk l->mo l
def qdu{A:Mem}{z5 z9:Nat}{l:List aK}{x s:I}(v5:VB A 28 z5 (.var 1) [x])(v9:VB A 9 z9 (.var 1) [s])(hx:dz A l x)(hl:Bu l):
 ∃(B:Mem) (e:Nat),az O 33 [pV z5,pV z9] A (.int .i64 e) B/\A.next<=B.next/\(∀z,z<A.next->z≠z9->B.get z=A.get z)/\((l=[]/\e=2)\/(¬dk l/\e=15)\/(mo l/\e=0/\VB B 9 z9 (.var 1) [ai (iH l)])):=by
 have l1:=v5.l0 qhZ rfl;obtain⟨e,s',v,B,⟨g,hg⟩,rfl,kB,hc⟩:∃(e:Nat) (s':List UInt8) (v:I) (B:Mem),az O 21 [x] A v B/\v=.tuple ⟨[ai s',.int .i64 e]⟩/\Kp A B/\((l=[]/\e=2)\/(¬dk l/\e=15)\/(mo l/\e=0/\s'=iH l)):=by
  by_cases h0:l=[]
  .subst h0;exact⟨2,[],_,A,qe4 hx,rfl,Kp.refl _,.inl ⟨rfl,rfl⟩⟩
  .by_cases ha:dk l
   .obtain⟨v,B,h,rfl,kB⟩:=qe2 hx (hl.ok h0 ha);exact⟨0,_,_,B,h,rfl,kB,.inr (.inr ⟨hl.ok h0 ha,rfl,rfl⟩)⟩
   .obtain⟨v,B,h,rfl,kB⟩:=qe3 hx ha hl.w (by have:=hl.n;omega);exact⟨15,_,_,B,h,rfl,kB,.inr (.inl ⟨ha,rfl⟩)⟩
 obtain⟨C,sC,vC,nC,fC⟩:=db (o:=0) (v:=ai s') y3 (v9.kp kB).2 (by simp) rfl rfl;have hB:=kB.1;refine⟨C,e,?_,by omega,λ z hz h=>by rw[fC z h,kB.2 z hz],?_⟩
 .simp only[pV]at*;refine bX (g) 60 (aD Tryz.func33) (by kernel_rfl) λ M hM=>?_
  simp(disch:=omega)only[Tryz.f33,Aq,aa,l1,hg,c7,dc,sC]<;>rfl
 .rcases hc with h|h|⟨h1,h2,rfl⟩
  .exact .inl h
  .exact .inr (.inl h)
  .exact .inr (.inr ⟨h1,h2,⟨by have:=(v9.kp kB).1;omega,vC⟩⟩)
def qdv{A:Mem}{z9 z10:Nat}{l:List aK}{s:I}(v9:VB A 9 z9 (.var 1) [ai (iH l)])(v10:VB A 37 z10 (.var 1) [s])(hl:mo l):
 ∃B y,az O 34 [pV z9,pV z10] A (iN 0) B/\VB B 37 z10 (.var 1) [y]/\sW B l y/\A.next<=B.next/\(∀z,z<A.next->z≠z10->B.get z=A.get z):=by
 have l1:=v9.l0 u9 rfl;obtain⟨v,B,⟨g,hg⟩,kB,y,rfl,q,yy,rfl,hS1,hS2⟩:=KV hl;obtain⟨C,sC,vC,nC,fC⟩:=db (o:=0) (v:=pV q) qgJ (v10.kp kB).2 (by simp) rfl rfl;have v10B:=v10.kp kB;have K:=KT.oN v10B (by omega) λ z _=>fC z
 refine⟨C,pV q,?_,⟨by have:=v10B.1;omega,vC⟩,⟨q,yy,rfl,K.vb hS1 (by decide),?_⟩,by have:=kB.1;omega,λ z hz h=>by rw[fC z h,kB.2 z hz]⟩
 .simp only[pV,iH]at*;refine bX (g) 60 (aD Tryz.func34) (by kernel_rfl) λ M hM=>?_
  simp(disch:=omega)only[Tryz.f34,Aq,aa,l1,hg,c7,dc,sC]<;>rfl
 .obtain⟨b,rows,h1,h2,h3⟩:=hS2;refine⟨b,rows,K.iB h1 (by decide),h2,λ i s hs=>?_⟩;obtain⟨x,e1,b',e2⟩:=h3 i s hs;exact⟨x,e1,b',K.iB e2 (by decide)⟩
section
variable {A B:Mem}{p z3 z9 z11 e:Nat}{w s:List UInt8}(v3:VB A 24 z3 (.var 1) [pV p])(v11:VB A 9 z11 (.var 1) [ai w])
include v3
def qdz(h:az O 43 [pV p] A (.int .i64 e) B):az O 42 [pV z3] A (.int .i64 e) B:=by
 have l3:aj O A.get 24 (pw z3 0)=.ok (pV p):=by
  obtain⟨d,hd,ha⟩:=mZ;exact v3.ld rfl hd ha
 obtain⟨g,hg⟩:=h;simp only[pV]at*;refine bX (g) 60 (aD Tryz.func42) (by kernel_rfl) λ M hM=>?_
 simp(disch:=omega)only[Tryz.f42,Aq,aa,l3,hg]<;>rfl
include v11
def qdw(h:az O 37 [pV p,ai w] A (.int .i64 e) B):az O 36 [pV z3,pV z11] A (.int .i64 e) B:=by
 have l3:aj O A.get 24 (pw z3 0)=.ok (pV p):=by
  obtain⟨d,hd,ha⟩:=mZ;exact v3.ld rfl hd ha
 have l11:=v11.l0 u9 rfl;obtain⟨g,hg⟩:=h;simp only[pV]at*;refine bX (g) 60 (aD Tryz.func36) (by kernel_rfl) λ M hM=>?_
 simp(disch:=omega)only[Tryz.f36,Aq,aa,l3,l11,hg]<;>rfl
def qdy(h:az O 41 [pV p,ai w] A (.int .i64 e) B):az O 40 [pV z3,pV z11] A (.int .i64 e) B:=by
 have l3:aj O A.get 24 (pw z3 0)=.ok (pV p):=by
  obtain⟨d,hd,ha⟩:=mZ;exact v3.ld rfl hd ha
 have l11:=v11.l0 u9 rfl;obtain⟨g,hg⟩:=h;simp only[pV]at*;refine bX (g) 60 (aD Tryz.func40) (by kernel_rfl) λ M hM=>?_
 simp(disch:=omega)only[Tryz.f40,Aq,aa,l3,l11,hg]<;>rfl
def qdx(v9:VB A 9 z9 (.var 1) [ai s])(h:az O 39 [pV p,ai w,.slice (U ⟨A.next,0,V⟩) 1 2] (A.alloc (af 9 [ai s])) (.int .i64 e) B):az O 38 [pV z3,pV z11,pV z9] A (.int .i64 e) B:=by
 have l3:aj O A.get 24 (pw z3 0)=.ok (pV p):=by
  obtain⟨d,hd,ha⟩:=mZ;exact v3.ld rfl hd ha
 have l11:=v11.l0 u9 rfl;have l9:=v9.l0 u9 rfl;have bs:=zV (w:=s);obtain⟨g,hg⟩:=h;simp only[pV]at*;refine bX (g) 60 (aD Tryz.func38) (by kernel_rfl) λ M hM=>?_
 simp(disch:=omega)only[Tryz.f38,Aq,aa,l3,l11,l9,bs,hg]<;>rfl
end
def vc(D:ba)(w s:List UInt8):Nat×ba:=
 if(eJ D w).1=0 then
  if(gv (eJ D w).2 (Z D.ns) [] s).1=0 then
   if(gU (gv (eJ D w).2 (Z D.ns) [] s).2 (Z D.ns) ([],s)).1=0 then mU (gU (gv (eJ D w).2 (Z D.ns) [] s).2 (Z D.ns) ([],s)).2
   else gU (gv (eJ D w).2 (Z D.ns) [] s).2 (Z D.ns) ([],s)
  else gv (eJ D w).2 (Z D.ns) [] s
 else eJ D w
variable {ns:List (List UInt8)}{w:List UInt8}
def kK.step(h:kK ns)(hw:w∉ns)(hl:Z w<=64)(hn:Z ns<900):kK (ns++[w]):=by
 refine⟨?_,by rw[aY,fb];omega,λ n hm=>?_⟩
 .rw[tX];exact⟨h.1,vw.2 ⟨eC,nb⟩,λ a ha c hc e=>hw (by rw[dX.1 hc]at e;exact e▸ha)⟩
 .rcases mw.1 hm with hm|hm
  .exact h.2.2 n hm
  .rw[dX.1 hm];omega
def I4{D:ba}(h:fR D)(hN:kK D.ns)(hl:Z w<=64)(hn:Z D.ns<900)(h0:(eJ D w).1=0):
 (eJ D w).2=yE (cL D) w/\w∉D.ns/\fR (eJ D w).2/\kK (eJ D w).2.ns/\(eJ D w).2.ns[Z D.ns]?=U w/\(eJ D w).2.fs[Z D.ns]?=U ([],[]):=by
 unfold eJ at*;cases hd:(cL D).dn with
 |true=>rw[hd]at h0;cases h0
 |false=>
  rw[hd]at h0;simp only[dR,bg]at*;by_cases hw:w∈D.ns
  .rw[aA hw]at h0;cases h0
  .rw[ax hw];refine⟨rfl,hw,h.step.create hw,hN.step hw hl hn,?_,?_⟩
   .show(D.ns++[w])[Z D.ns]?=_;simp
   .show(D.fs++[([],[])])[Z D.ns]?=_;rw[<-h.fl];simp
variable {i:Nat}
def HP{D:ba}{s:List UInt8}(h:fR D)(hf:D.fs[i]?=U ([],[]))(h0:(gv D i [] s).1=0):
 fR (gv D i [] s).2/\(gv D i [] s).2.ns=D.ns/\(gv D i [] s).2.fs[i]?=U ([],s)/\(gv D i [] s).2.st=D.st+1/\(gv D i [] s).2.ar<=D.ar:=by
 unfold gv at*;cases hd:(cL D).dn with
 |true=>rw[hd]at h0;cases h0
 |false=>
  rw[hd]at h0;simp only[dR,bg]at*;have hi:=(bU.1 hf).1;have hf':(cL D).fs[i]?=U ([],[]):=hf;have key:=h.step.append (w:=s) hf';unfold qH at*;split at h0
  .rename_i hc;rw[aA hc]at key⊢;refine⟨key,rfl,List.getElem?_set_self hi,rfl,?_⟩;show(if D.dn then D.ar else D.ar-1)<=D.ar;split<;>omega
  .cases h0
variable {p:Nat}
def qhn{z3 z9 z11:Nat}{D:ba}{s:List UInt8}{k:Kd}{lb:List I}(h:ek A p D)(ho:fR D)(hN:kK D.ns)(hq:D.q<1000000)(hs:D.st<900/\D.ar<1000)(hnn:Z D.ns<900)(hwl:0<Z w/\Z w<=64)
 (hsl:Z s<900000)(v3:VB A 24 z3 (.var 1) [pV p])(v9:VB A 9 z9 (.var 1) [ai s])(v11:VB A 9 z11 (.var 1) [ai w])(vb:VB A 83 b k lb):
 ∃C,uf b [(36,[pV z3,pV z11]),(38,[pV z3,pV z11,pV z9]),(40,[pV z3,pV z11]),(42,[pV z3])] A (vc D w s).1 C/\ek C p (vc D w s).2/\KT dT A C:=by
 obtain⟨v,B,hB,rfl,dB,kB⟩:=qd3 h ⟨by omega,hs.2⟩ hwl (by omega) ho.la;have h1:=qdw v3 v11 hB;unfold vc;by_cases c0:(eJ D w).1=0
 case neg=>rw[ax c0];exact⟨B,.err h1 c0,dB,kB⟩
 rw[aA c0];obtain⟨e1,e2,o1,N1,i1,f1⟩:=I4 ho hN hwl.2 hnn c0;rw[c0]at h1;have q1:(eJ D w).2.q=D.q/\(eJ D w).2.st=D.st+1/\(eJ D w).2.ar<=D.ar/\(eJ D w).2.ns.length=Z D.ns+1:=by
  rw[e1];refine⟨rfl,rfl,?_,by show(D.ns++[w]).length=_;simp⟩;show(if D.dn then D.ar else D.ar-1)<=D.ar;split<;>omega
 generalize (eJ D w).2=D1 at*;have v3B:=kB.vb v3 (by decide);have v9B:=kB.vb v9 (by decide);have v11B:=kB.vb v11 (by decide);have vbB:=kB.vb vb (by decide);have k2:=Kp.alloc B (af 9 [ai s]);have hr2:=aQ B 9 [ai s];have hx2:aq (B.alloc (af 9 [ai s])) 9 1 B.next [[ai s]] (.slice (U ⟨B.next,0,V⟩) 1 2):=.inr ⟨.var 1,2,rfl,hr2.1,hr2.2,λ l hl=>by rw[dX.1 hl];rfl,.inl rfl⟩
 obtain⟨v,C,hC,rfl,dC,kC0⟩:=qd1 (dB.kp k2) ⟨by omega,by omega⟩ N1 o1.u (by omega) i1 f1 hx2 (by simp;omega);have h2:=qdx v3B v11B v9B hC;have kC:=k2.kt.trans kC0;by_cases c1:(gv D1 (Z D.ns) [] s).1=0
 case neg=>rw[ax c1];exact⟨C,.ok h1 kB.1 (kB.2.1 _ _ _ _ (by decide) vb) (.err h2 c1),dC,kB.trans kC⟩
 rw[aA c1];obtain⟨o2,n2,f2,t2,a2⟩:=HP o1 f1 c1;rw[c1]at h2;generalize (gv D1 (Z D.ns) [] s).2=D2 at*;obtain⟨v,E,hE,rfl,dE,kE⟩:=qed (w:=w) dC ⟨by omega,by omega⟩ (by rw[n2];exact i1) f2;have v3C:=kC.vb v3B (by decide);have v11C:=kC.vb v11B (by decide);have vbC:=kC.vb vbB (by decide);have h3:=qdy v3C v11C hE;by_cases c2:(gU D2 (Z D.ns) ([],s)).1=0
 case neg=>rw[ax c2];exact⟨E,.ok h1 kB.1 (kB.2.1 _ _ _ _ (by decide) vb) (.ok h2 kC.1 (kC.2.1 _ _ _ _ (by decide) vbB) (.err h3 c2)),dE,(kB.trans kC).trans kE⟩
 rw[aA c2];rw[c2]at h3;have q3:(gU D2 (Z D.ns) ([],s)).2.st=D2.st+1/\(gU D2 (Z D.ns) ([],s)).2.ar<=D2.ar/\(gU D2 (Z D.ns) ([],s)).2.ns=D2.ns:=by
  have ha:(if D2.dn then D2.ar else D2.ar-1)<=D2.ar:=by split<;>omega
  unfold gU;split<;>exact⟨rfl,ha,rfl⟩
 generalize (gU D2 (Z D.ns) ([],s)).2=D3 at*;obtain⟨v,F,hF,rfl,dF,kF⟩:=qd8 dE ⟨by omega,by omega⟩ (by rw[q3.2.2,n2];omega);have v3E:=kE.vb v3C (by decide);have vbE:=kE.vb vbC (by decide);have h4:=qdz v3E hF;by_cases c3:(mU D3).1=0
 .rw[c3]at h4;exact⟨F,by rw[c3];exact .ok h1 kB.1 (kB.2.1 _ _ _ _ (by decide) vb) (.ok h2 kC.1 (kC.2.1 _ _ _ _ (by decide) vbB) (.ok h3 kE.1 (kE.2.1 _ _ _ _ (by decide) vbC) (.ok h4 kF.1 (kF.2.1 _ _ _ _ (by decide) vbE) (.nil F)))),dF,((kB.trans kC).trans kE).trans kF⟩
 .exact⟨F,.ok h1 kB.1 (kB.2.1 _ _ _ _ (by decide) vb) (.ok h2 kC.1 (kC.2.1 _ _ _ _ (by decide) vbB) (.ok h3 kE.1 (kE.2.1 _ _ _ _ (by decide) vbC) (.err h4 c3))),dF,((kB.trans kC).trans kE).trans kF⟩
variable {B:Mem}{pf ml mn mf:Nat}{ps:List Nat}
def ie.qaS{P:au->Prop}{D:ba}(h:ie A p D pf ml mn b mf ps)(K:KT P A B)(hP:P 81/\P 201/\P 204/\P 3/\P 9/\P 162/\P 213)(hm:∀(m:Nat) (es:List MapEntry) (c:Nat),A.get m=U (.map es c)->B.get m=A.get m):ie B p D pf ml mn b mf ps:=by
 obtain⟨h1,h2,⟨h3,h3'⟩,h4,h5,h6⟩:=h;obtain⟨p1,p2,p3,p4,p5,p6,p7⟩:=hP;refine⟨K.vb h1 p1,h2.kt K ⟨p2,p3,p4,p5⟩ λ m es c h _=>hm m es c h,⟨c9 h3 K.1,by rw[hm _ _ _ h3'];exact h3'⟩,h4,λ i f hf=>?_,h6⟩;obtain⟨q,e1,e2⟩:=h5 i f hf;have e2':=e2;obtain⟨_,e3,-⟩:=e2';exact⟨q,e1,e2.kt K (K.2.1 _ _ _ _ p6 e3) ⟨p7,p5⟩⟩
def sW.kt{P:au->Prop}{l:List aK}(h:sW A l v)(K:KT P A B)(hP:P 150/\P 186/\P 246):sW B l v:=by
 obtain⟨q,y,rfl,h1,b,rows,h2,h3,h4⟩:=h;refine⟨q,y,rfl,K.vb h1 hP.1,b,rows,K.iB h2 hP.2.1,h3,λ i s hs=>?_⟩;obtain⟨x,e1,b',e2⟩:=h4 i s hs;exact⟨x,e1,b',K.iB e2 hP.2.2⟩
def tP:dj O 36=.ok (.agg ⟨[iN 0,iN 0,iN 0]⟩):=by kernel_rfl
def xq:bk O 36=.ok 3:=by kernel_rfl
def qiX:dj O 37=.ok (.pointer V):=by kernel_rfl
def UN:dj O 9=.ok (ai []):=by kernel_rfl
def yq:eu O 36 []=.ok (.agg ⟨[iN 0,iN 0,iN 0]⟩):=by kernel_rfl
def Wa{a b c d e f g h:List I}:eO O 141 8 [(0,ez (31,a)),(1,ez (31,b)),(2,ez (33,c)),(3,ez (34,d)),(4,ez (36,e)),(5,ez (38,f)),(6,ez (40,g)),(7,ez (42,h))]=.ok (af 83 [ez (31,a),ez (31,b),ez (33,c),ez (34,d),ez (36,e),ez (38,f),ez (40,g),ez (42,h)],.dZ 8 16):=by kernel_rfl
def oA:=cu uj
def WI:uj.body=U (.seq (sub oA [0]) (.seq (sub oA [1,0]) (.seq (sub oA [1,1,0]) (.seq (sub oA [1,1,1,0]) (.seq (sub oA [1,1,1,1,0]) (.seq (sub oA [1,1,1,1,1,0]) (.seq (sub oA [1,1,1,1,1,1,0]) (.seq (sub oA [1,1,1,1,1,1,1,0]) (sub oA [1,1,1,1,1,1,1,1]))))))))):=by kernel_rfl
def qbL{t:bM}:fU O A.get .neq 24 t (.const (.pointer V)) (pw b 0) (.pointer V)=.ok (.bool ae):=by kernel_rfl
def Dr:0<(xj n).length/\(xj n).length<=64:=by
 unfold xj;cases aO n 10<;>exact⟨by simp,by simp⟩
def xi(n:Nat)(l:List aK):Nat×Nat×Nat:=(n,Z l,(crc.gk (ke l)).length)
open Classical in
def kj (D:ba) (n:Int) (l:List aK):Nat×ba:=if n<=0\/l=[]then(2,D)else if dk l then vc D (xj n.toNat) (iH l)else(15,D)
def qf2{n:Int}{D:ba}{l:List aK}{x:I}(h:ek A p D)(ho:fR D)(hN:kK D.ns)(hq:D.q<1000000)(hs:D.st<900/\D.ar<1000)(hnn:Z D.ns<900)(hn:-11<=n/\n<=11)(hx:dz A l x)(hl:Bu l):
 ∃v A',az O 11 [pV p,.int .i64 n,x] A v A'/\KT dT A A'/\∃(e:Nat) (D':ba) (sg:Nat×Nat×Nat) (sp:I),v=.tuple ⟨[.agg ⟨cR sg⟩,sp,.int .i64 e]⟩/\ek A' p D'/\(e,D')=kj D n l/\(e=0->sg=xi n.toNat l/\sW A' l sp/\mo l)/\(e≠0->sg=(0,0,0)/\sp=.pointer V):=by
 refine cZ (aD Tryz.func11) WI (by kernel_rfl) ?_;generalize hk:A.next=k
 have hxc:x.cells.toList=[x]/\bS x=ae:=by
  obtain⟨b,hb⟩:=hx;exact aq.dQ hb
 have k1:=Kp.alloc A (af 24 [pV p]);have v1:=aQ A 24 [pV p];have n1:(A.alloc (af 24 [pV p])).next=k+1:=by rw[aG,hk]
 generalize hB1:A.alloc (af 24 [pV p])=B1 at k1 v1 n1;have k2:=Kp.alloc B1 (af 28 [x]);have v2:=aQ B1 28 [x];have n2:(B1.alloc (af 28 [x])).next=k+2:=by rw[aG,n1]
 generalize hB2:B1.alloc (af 28 [x])=B2 at k2 v2 n2;have k3:=Kp.alloc B2 (af 36 (cR (0,0,0)));have v3:=aQ B2 36 (cR (0,0,0));have n3:(B2.alloc (af 36 (cR (0,0,0)))).next=k+3:=by rw[aG,n2]
 generalize hB3:B2.alloc (af 36 (cR (0,0,0)))=B3 at k3 v3 n3;have k4:=Kp.alloc B3 (af 9 [ai []]);have v4:=aQ B3 9 [ai []];have n4:(B3.alloc (af 9 [ai []])).next=k+4:=by rw[aG,n3]
 generalize hB4:B3.alloc (af 9 [ai []])=B4 at k4 v4 n4;have k5:=Kp.alloc B4 (af 37 [.pointer V]);have v5:=aQ B4 37 [.pointer V];have n5:(B4.alloc (af 37 [.pointer V])).next=k+5:=by rw[aG,n4]
 generalize hB5:B4.alloc (af 37 [.pointer V])=B5 at k5 v5 n5;have s6:cm O (B5.alloc (af 9 [ai []])) 9 (pw B5.next 0) (ai (eZ n))=.ok (B5.alloc (af 9 [ai (eZ n)])):=se y3 rfl rfl (by simp);have k6:=Kp.alloc B5 (af 9 [ai (eZ n)]);have v6:=aQ B5 9 [ai (eZ n)];have n6:(B5.alloc (af 9 [ai (eZ n)])).next=k+6:=by rw[aG,n5]
 generalize B5.alloc (af 9 [ai (eZ n)])=B6 at s6 k6 v6 n6;obtain⟨g1,h1⟩:=Se (b:=ae) (c:=1);have k7:=(Kp.alloc B6 (af 4 [.bool ae])).trans (Kp.alloc (B6.alloc (af 4 [.bool ae])) (af 38 [iN 1]));have n7':(B6.alloc (af 4 [.bool ae])).next=k+7:=by rw[aG,n6]
 have v7:=(aQ B6 4 [.bool ae]).kp (Kp.alloc (B6.alloc (af 4 [.bool ae])) (af 38 [iN 1]));have n7:((B6.alloc (af 4 [.bool ae])).alloc (af 38 [iN 1])).next=k+8:=by rw[aG,n7']
 generalize (B6.alloc (af 4 [.bool ae])).alloc (af 38 [iN 1])=B7 at h1 k7 v7 n7;obtain⟨g2,h2⟩:=Se (A:=B7) (b:=decide (eZ n≠ [])) (c:=2);have k8:=(Kp.alloc B7 (af 4 [.bool (decide (eZ n≠ []))])).trans (Kp.alloc (B7.alloc (af 4 [.bool (decide (eZ n≠ []))])) (af 38 [iN 2]));have n8':(B7.alloc (af 4 [.bool (decide (eZ n≠ []))])).next=k+9:=by rw[aG,n7]
 have v8:=(aQ B7 4 [.bool (decide (eZ n≠ []))]).kp (Kp.alloc (B7.alloc (af 4 [.bool (decide (eZ n≠ []))])) (af 38 [iN 2]));have v8b:=aQ (B7.alloc (af 4 [.bool (decide (eZ n≠ []))])) 38 [iN 2];have n8:((B7.alloc (af 4 [.bool (decide (eZ n≠ []))])).alloc (af 38 [iN 2])).next=k+10:=by rw[aG,n8']
 generalize (B7.alloc (af 4 [.bool (decide (eZ n≠ []))])).alloc (af 38 [iN 2])=B8 at h2 k8 v8 v8b n8;rw[hk]at v1;rw[n1]at v2;rw[n2]at v3;rw[n3]at v4;rw[n4]at v5;rw[n5]at v6 s6;rw[n6]at v7 h1;rw[n7]at v8 h2;rw[n8']at v8b;have ls:List (FuncId×List I):=[];generalize hL: [(31,[pV (k+6),pV (k+6+1)]),(31,[pV (k+8),pV (k+8+1)]),(33,[pV (k+1),pV (k+3)]),(34,[pV (k+3),pV (k+4)]),(36,[pV k,pV (k+5)]),(38,[pV k,pV (k+5),pV (k+3)]),(40,[pV k,pV (k+5)]),(42,[pV k])]=L;have bs:=Wa (a:=[pV (k+6),pV (k+6+1)]) (b:=[pV (k+8),pV (k+8+1)]) (c:=[pV (k+1),pV (k+3)]) (d:=[pV (k+3),pV (k+4)]) (e:=[pV k,pV (k+5)]) (f:=[pV k,pV (k+5),pV (k+3)]) (g:=[pV k,pV (k+5)]) (h:=[pV k]);have hrow: [ez (31,[pV (k+6),pV (k+6+1)]),ez (31,[pV (k+8),pV (k+8+1)]),ez (33,[pV (k+1),pV (k+3)]),ez (34,[pV (k+3),pV (k+4)]),ez (36,[pV k,pV (k+5)]),ez (38,[pV k,pV (k+5),pV (k+3)]),ez (40,[pV k,pV (k+5)]),ez (42,[pV k])]=L.map ez:=by rw[<-hL];rfl
 rw[hrow]at bs;have k9:=Kp.alloc B8 (af 83 (L.map ez));have v9:=aQ B8 83 (L.map ez);have n9:(B8.alloc (af 83 (L.map ez))).next=k+11:=by rw[aG,n8]
 generalize hB9:B8.alloc (af 83 (L.map ez))=B9 at k9 v9 n9;rw[n8]at v9;have hsl:aq B9 83 1 (k+10) (L.map λ q=>[ez q]) (.slice (U ⟨k+10,0,V⟩) 8 16):=by
  refine .inr ⟨.var (L.map ez).length,16,by rw[bc,<-hL];rfl,v9.1,?_,λ l hl=>by obtain⟨_,-,rfl⟩:=eH.1 hl;rfl,.inl (by rw[bc,<-hL];rfl)⟩;rw[show(L.map λ q=>[ez q]).flatten=L.map ez by rw[<-hL];rfl];exact v9.2
 have k79:=k8.trans k9;have k69:=k7.trans k79;have k59:=k6.trans k69;have k49:=k5.trans k59;have k39:=k4.trans k49;have k29:=k3.trans k39;have k19:=k2.trans k29;have kA9:=k1.trans k19;have V1:=v1.kp k19;have V2:=v2.kp k29;have V3:=v3.kp k39;have V4:=v4.kp k49;have V5:=v5.kp k59;have V6:=v6.kp k69;have V7:=v7.kp k79;have V8:=v8.kp k9;have V8b:=v8b.kp k9;obtain⟨e,F,D',hSt,KF,hDF,hcase,W3,hF0⟩:∃(e:Nat) (F:Mem) (D':ba),uf (k+10) L B9 e F/\KT dT A F/\ek F p D'/\(e,D')=kj D n l/\VB F 36 (k+2) (.var 3) (cR (0,0,0))/\(e=0->mo l/\∃y,VB F 37 (k+4) (.var 1) [y]/\sW F l y/\VB F 9 (k+3) (.var 1) [ai (iH l)]):=by
  rw[<-hL];by_cases hn0:n<=0
  .have hb:decide (eZ n≠ [])=ag:=by unfold eZ;rw[ax (by omega)];rfl
   rw[hb]at V8;exact⟨2,B9,D,.ok (Dk V7) (aI _) rfl (.err (qdt V8 V8b) (by decide)),kA9.kt,h.kp kA9,by unfold kj;rw[aA (.inl hn0)],V3,λ h=>by cases h⟩
  have hnm:eZ n=xj n.toNat:=aA (by omega);have hb:decide (eZ n≠ [])=ae:=by
   rw[hnm];refine decide_eq_true λ e=>?_
   have:=(Dr (n:=n.toNat)).1;rw[e]at this;simp at this
  rw[hb]at V8;obtain⟨C,e0,h33,nC,fC,hc⟩:=qdu V2 V4 (hx.kp kA9) hl;have kAC:Kp A C:=⟨by have:=kA9.1;omega,λ z hz=>by rw[fC z (by omega) (by omega),kA9.2 z hz]⟩;have bad:e0≠0->(e0,D)=kj D n l->∃(e:Nat) (F:Mem) (D':ba),uf (k+10) [(31,[pV (k+6),pV (k+6+1)]),(31,[pV (k+8),pV (k+8+1)]),(33,[pV (k+1),pV (k+3)]),(34,[pV (k+3),pV (k+4)]),(36,[pV k,pV (k+5)]),(38,[pV k,pV (k+5),pV (k+3)]),(40,[pV k,pV (k+5)]),(42,[pV k])] B9 e F/\KT dT A F/\ek F p D'/\(e,D')=kj D n l/\VB F 36 (k+2) (.var 3) (cR (0,0,0))/\(e=0->mo l/\∃y,VB F 37 (k+4) (.var 1) [y]/\sW F l y/\VB F 9 (k+3) (.var 1) [ai (iH l)]):=λ h1 h2=>
   ⟨e0,C,D,.ok (Dk V7) (aI _) rfl (.ok (Dk V8) (aI _) rfl (.err h33 h1)),kAC.kt,h.kp kAC,h2,⟨by omega,V3.2.same (fC _ (by omega) (by omega))⟩,λ h=>aU h h1⟩
  rcases hc with⟨hl0,rfl⟩|⟨hl0,rfl⟩|⟨hlo,rfl,V9C⟩
  .exact bad (by decide) (by unfold kj;rw[aA (.inr hl0)])
  .have hne:l≠ []:=λ e=>hl0 (by rw[e];trivial)
   exact bad (by decide) (by unfold kj;rw[ax (λ h=>h.elim hn0 hne),ax hl0])
  .obtain⟨E,y,h34,V10E,hSE,nE,fE⟩:=qdv (s:=.pointer V) V9C ⟨by omega,V5.2.same (fC _ (by omega) (by omega))⟩ hlo;have fBE:∀z,z<k+11->z≠k+3->z≠k+4->E.get z=B9.get z:=λ z hz h1 h2=>by rw[fE z (by omega) h2,fC z (by omega) h1]
   have kAE:Kp A E:=⟨by have:=kA9.1;omega,λ z hz=>by rw[fBE z (by omega) (by omega) (by omega),kA9.2 z hz]⟩;have hil:(iH l).length<900000:=by
    have h1:(iH l).length=(ke l).length+4:=by unfold iH crc.gk;rw[aY,crc.An]
    have h2:(ke l).length<800000:=hlo.2.2.2.2.2.2.2.2;omega
   have V9E:VB E 9 (k+3) (.var 1) [ai (iH l)]:=⟨by omega,V9C.2.same (fE _ (by omega) (by omega))⟩;have VrE:VB E 83 (k+10) (.var (L.map ez).length) (L.map ez):=⟨by omega,v9.2.same (fBE _ (by omega) (by omega) (by omega))⟩;rw[hnm]at V6;obtain⟨F,hF,hD,kF⟩:=qhn (z3:=k) (z9:=k+3) (z11:=k+5) (h.kp kAE) ho hN hq hs hnn Dr hil ⟨by omega,V1.2.same (fBE _ (by omega) (by omega) (by omega))⟩ V9E ⟨by omega,V6.2.same (fBE _ (by omega) (by omega) (by omega))⟩ VrE;refine⟨_,F,_,.ok (Dk V7) (aI _) rfl (.ok (Dk V8) (aI _) rfl (.ok h33 nC (fC _ (by omega) (by omega)) (.ok h34 nE (fE _ (by omega) (by omega)) hF))),kAE.kt.trans kF,hD,?_,kF.vb ⟨by omega,V3.2.same (fBE _ (by omega) (by omega) (by omega))⟩ (by decide),λ _=>⟨hlo,y,kF.vb V10E (by decide),hSE.kt kF ⟨by decide,by decide,by decide⟩,kF.vb V9E (by decide)⟩⟩;unfold kj;rw[ax (λ h=>h.elim hn0 hlo.1),aA hlo.2.1]
 obtain⟨g3,h3⟩:=KZ hsl hSt (by rw[<-hL];show 8<1000;omega);have hsN:∀ih A,cE O ih (.fn 29 [iN 4,.int .i64 n]) A=.ok (.val (ai (eZ n)) A):=λ ih A=>(PO hn).1
 have fnl:∀t:T I,ev t (.func 30)=.ok (.func (.func 30) ⟨[]⟩ ⟨[]⟩):=λ t=>yH t 30
 have l11a:aj O B6.get 9 (pw (k+5) 0)=.ok (ai (eZ n)):=v6.ld rfl u9 rfl;have l11b:aj O B7.get 9 (pw (k+5) 0)=.ok (ai (eZ n)):=(v6.kp k7).ld rfl u9 rfl;have lp6:aj O B6.get 24 (pw k 0)=.ok (pV p):=by
  obtain⟨d,hd,ha⟩:=mZ;exact(v1.kp (k2.trans (k3.trans (k4.trans (k5.trans k6))))).ld rfl hd ha
 have hne:ft .neq (eZ n) []=.ok (.bool (decide (eZ n≠ []))):=Ln;generalize decide (eZ n≠ [])=bnm at hne h2;clear hL hrow v1 v2 v3 v4 v5 v6 v7 v8 v8b v9 V1 V2 V4 V5 V6 V7 V8 V8b k19 k29 k39 k49 k59 k69 k79 k1 k2 k3 k4 k5 k6 k7 k8 k9 hsl hSt;have fin:∀(sg:Nat×Nat×Nat),∃G,cm O F 36 (pw (k+2) 0) (.agg ⟨cR sg⟩)=.ok G/\aj O G.get 36 (pw (k+2) 0)=.ok (.agg ⟨cR sg⟩)/\KT dT A G/\ek G p D'/\KT (·≠36) F G:=λ sg=>by
  obtain⟨G,sG,vG,nG,fG⟩:=ku (tb:=O) (t:=36) (l':=cR sg) (by exact xq) W3.2 rfl (by simp[cR]) (by
   intro v hv;simp only[cR,cG,eC,or_false]at hv;rcases hv with rfl|rfl|rfl<;>rfl)
  obtain⟨d,hd1,hd2⟩:=cF (t:=36) (p:=ae) (by kernel_rfl);have K:=KT.oN W3 (B:=G) (by omega) λ z _=>fG z
  obtain⟨pf,ml,mn,b,mf,ps,hP⟩:=hDF;have hkF:=KF.1;refine⟨G,sG,cg hd1 hd2 xq vG,⟨by omega,λ e z q l he hz=>?_,λ z hz=>?_⟩,⟨pf,ml,mn,b,mf,ps,ie.qaS hP K ⟨by decide,by decide,by decide,by decide,by decide,by decide,by decide⟩ λ m es c hm=>fG m (Ne.symm (W3.dP hm))⟩,K⟩
  .have:=hz.1;rw[fG z (by omega),KF.2.1 e z q l he hz]
  .have:=hz.1;rw[fG z (by omega),KF.2.2 z hz]
 simp only[pV,ez]at bs h1 h2 h3 lp6 hB1;simp only[cR]at hB3;simp only[pV];apply W.q2
 .intro M _;simp(disch:=first|decide+kernel|omega)only[oA,uj,Aq,aa,uD,hxc.1,tP,a7,hB1,hB2,hB3,hk,n1,n2,UN,Cw,hB4,n3];rfl
 apply W.q2
 .intro M _;simp(disch:=first|decide+kernel|omega)only[oA,uj,Aq,aa,qiX,uD,hB5,n4,hsN,UN,Cw,s6,n5];rfl
 apply W.ic (g1+g2+g3)
 .intro M hM _;simp(config:={maxSteps:=4000000})(disch:=first|decide+kernel|omega|simp only[Wq,aa])only[oA,uj,Aq,aa,fnl,av,reduceIte,ak,lp6,F',yV,qbL,eY,h1,l11a,l11b,hne,h2,ki,bs,hB9,n8,h3,Dq,Fq,bQ [(5,3)]];rfl
 apply W.seq;by_cases he:e=0
 .obtain⟨hlo,y,Y10,hSF,Y9⟩:=hF0 he;subst he;obtain⟨G,sG,lG,KG,hDG,KFG⟩:=fin (xi n.toNat l);have l10:aj O F.get 37 (pw (k+4) 0)=.ok y:=by
   obtain⟨d,hd,ha⟩:=Uj;exact Y10.ld rfl hd ha
  have l10G:aj O G.get 37 (pw (k+4) 0)=.ok y:=by
   obtain⟨d,hd,ha⟩:=Uj;exact(KFG.vb Y10 (by decide)).ld rfl hd ha
  have l9:aj O F.get 9 (pw (k+3) 0)=.ok (ai (iH l)):=Y9.ld rfl u9 rfl;obtain⟨g4,h4⟩:=SJ hSF;have ll:=gB (tb:=O) (t:=9) (l:=iH l) u9;have hys:dD 100 y y=ae:=by
   obtain⟨q,_,rfl,-⟩:=hSF;exact AO q
  have hyc:∃q,y=pV q:=by
   obtain⟨q,_,rfl,-⟩:=hSF;exact⟨q,rfl⟩
  have hnt:((n.toNat:Nat):Int)=n:=by
   have:¬n<=0:=λ h=>by
    unfold kj at hcase;rw[aA (.inl h)]at hcase;cases hcase
   omega
  simp only[cR,xi,hnt]at sG lG;rw[show crc.gk (ke l)=iH l from rfl]at sG lG;have bd:=MD (a:=n) (b:=(Z l:Int)) (c:=((iH l).length:Int));apply W.run 20
  .intro M;simp(disch:=first|decide+kernel|omega)only[oA,uj,Aq,aa];rfl
  apply W.cC (g4) 40
  .intro M hM;simp(config:={maxSteps:=4000000})(disch:=first|decide+kernel|omega|simp only[Wq,aa])only[oA,uj,Aq,av,reduceIte,aa,ak,l10,l10G,h4,l9,ll,bd,sG,Dq,hys,Fq,bQ [(3,2),(6,2),(6,7)]];rfl
  exact⟨by simp,rfl,_,(by simp only[uj,Aq,aa,lG,cR,xi,hnt]<;>rfl),KG,0,D',xi n.toNat l,y,rfl,hDG,hcase,λ _=>⟨rfl,hSF.kt KFG ⟨by decide,by decide,by decide⟩,hlo⟩,λ h=>aU rfl h⟩
 .obtain⟨G,sG,lG,KG,hDG,KFG⟩:=fin (0,0,0);simp only[cR]at sG lG;apply W.run 20
  .intro M;simp(disch:=first|decide+kernel|omega)only[oA,uj,Aq,aa,he,yq,sG];rfl
  exact⟨by simp,rfl,_,(by simp only[uj,Aq,aa,lG]<;>rfl),KG,e,D',(0,0,0),.pointer V,rfl,hDG,hcase,λ h=>aU h he,λ _=>⟨rfl,rfl⟩⟩
variable {r:Nat}
def gL.kp{D:ba}(h:gL A r D)(k:Kp A B):gL B r D:=h.kd k.kt
def wK{t:bM}:fU O A.get .eql 26 t (.const (.pointer V)) (pw b 0) (.pointer V)=.ok (.bool ag):=by kernel_rfl
variable {z:Nat}{l:List I}
def KR.vb{k:Kd}(h:KR A B)(v:VB A 36 z k l):VB B 36 z k l:=h.kt.vb v (by decide)
variable {F:Mem}
def SP{D:ba}(hB:B=A.alloc (af 36 (cR (0,0,0))))(K:KR B F)(h:gL F r D)(sg:Nat×Nat×Nat):
 ∃G,cm O F 36 (pw A.next 0) (.agg ⟨cR sg⟩)=.ok G/\aj O G.get 36 (pw A.next 0)=.ok (.agg ⟨cR sg⟩)/\KR A G/\gL G r D:=by
 subst hB;have W3:=K.vb (aQ A 36 (cR (0,0,0)));obtain⟨G,sG,vG,nG,fG⟩:=ku (tb:=O) (t:=36) (l':=cR sg) (by exact xq) W3.2 rfl (by simp[cR]) (by
  intro v hv;simp only[cR,cG,eC,or_false]at hv;rcases hv with rfl|rfl|rfl<;>rfl)
 obtain⟨d,hd1,hd2⟩:=cF (t:=36) (p:=ae) (by kernel_rfl);have K36:=KT.oN W3 (B:=G) (by omega) λ z _=>fG z
 have K0:=(Kp.alloc A (af 36 (cR (0,0,0)))).kr.trans K;obtain⟨f,bf,xf,ps,hP⟩:=h;refine⟨G,sG,cg hd1 hd2 xq vG,⟨by have:=K0.1;omega,λ z hz=>?_⟩,⟨f,bf,xf,ps,hP.kt K36 ⟨by decide,by decide,⟨by decide,by decide,by decide⟩,by decide,by decide⟩⟩⟩;rw[fG z (by omega)];exact K0.2 z hz
def qfw{l:List aK}{x:I}(hx:dz A l x)(hl:Bu l):∃(e:Nat) (s:List UInt8) (B:Mem),az O 46 [x] A (.tuple ⟨[ai s,.int .i64 e]⟩) B/\Kp A B/\((l=[]/\e=2)\/(l≠ []/\¬dk l/\e=15)\/(mo l/\e=0/\s=iH l)):=by
 by_cases h0:l=[]
 .subst h0;exact⟨2,[],A,qfu hx,Kp.refl _,.inl ⟨rfl,rfl⟩⟩
 .by_cases ha:dk l
  .have hk:=hl.ok h0 ha;obtain⟨q0,q1,q2,q3,q4,q5,q6,q7,q8⟩:=hk;obtain⟨v,B,h,kB,rfl⟩:=qfs hx q0 q1 q2 (by omega) (by omega) q5 q6 q7 (by omega);exact⟨0,_,B,h,kB,.inr (.inr ⟨hl.ok h0 ha,rfl,rfl⟩)⟩
  .obtain⟨v,B,h,rfl,kB⟩:=qft hx ha hl.w (by have:=hl.n;omega);exact⟨15,_,B,h,kB,.inr (.inl ⟨h0,ha,rfl⟩)⟩
def qfG{n:Int}{D:ba}{l:List aK}{x:I}(h:gL A r D)(ho:fR D)(hN:kK D.ns)(hq:D.q<1000000)(hs:D.st<900/\D.ar<900)(hnn:Z D.ns<900)(hn:-11<=n/\n<=11)(hx:dz A l x)(hl:Bu l):
 ∃v A',az O 12 [pV r,.int .i64 n,x] A v A'/\KR A A'/\∃(e:Nat) (D':ba) (sg:Nat×Nat×Nat),v=.tuple ⟨[.agg ⟨cR sg⟩,.int .i64 e]⟩/\gL A' r D'/\(e,D')=kj D n l/\(e=0->sg=xi n.toNat l)/\(e≠0->sg=(0,0,0)):=by
 have kB:=Kp.alloc A (af 36 (cR (0,0,0)));generalize hB:A.alloc (af 36 (cR (0,0,0)))=B at kB;have hBr:=h.kp kB;have hxB:=hx.kp kB;have hsN:∀ih A,cE O ih (.fn 45 [iN 4,.int .i64 n]) A=.ok (.val (ai (eZ n)) A):=λ ih A=>(PO hn).2
 have bad:∀(e:Nat) (D':ba) (F:Mem),KR B F->gL F r D'->(e,D')=kj D n l->e≠0->(∀G,cm O F 36 (pw A.next 0) (.agg ⟨cR (0,0,0)⟩)=.ok G->aj O G.get 36 (pw A.next 0)=.ok (.agg ⟨cR (0,0,0)⟩)->az O 12 [pV r,.int .i64 n,x] A (.tuple ⟨[.agg ⟨cR (0,0,0)⟩,.int .i64 e]⟩) G)->
  ∃v A',az O 12 [pV r,.int .i64 n,x] A v A'/\KR A A'/\∃(e:Nat) (D':ba) (sg:Nat×Nat×Nat),v=.tuple ⟨[.agg ⟨cR sg⟩,.int .i64 e]⟩/\gL A' r D'/\(e,D')=kj D n l/\(e=0->sg=xi n.toNat l)/\(e≠0->sg=(0,0,0)):=λ e D' F K hD hst he ha=>by
  obtain⟨G,sG,lG,kG,dG⟩:=SP hB.symm K hD (0,0,0);exact⟨_,G,ha G sG lG,kG,e,D',(0,0,0),rfl,dG,hst,λ h=>aU h he,λ _=>rfl⟩
 have heq:ft .eql (eZ n) []=.ok (.bool (decide (eZ n=[]))):=Lm;simp only[cR]at hB bad;simp only[pV]at*;by_cases hn0:n<=0
 .have hb:decide (eZ n=[])=ae:=by unfold eZ;rw[ax (by omega)];rfl
  rw[hb]at heq;refine bad 2 D B (Kp.refl _).kr hBr (by unfold kj;rw[aA (.inl hn0)]) (by decide) λ G sG lG=>?_
  refine cq 60 (aD zN) (by kernel_rfl) λ M=>?_
  simp(disch:=first|decide+kernel|omega)only[zJ,Aq,aa,tP,a7,hB,fm,wK,eY,hsN,heq,tF,yq,sG,lG]<;>rfl
 have hnm:eZ n=xj n.toNat:=aA (by omega);have hb:decide (eZ n=[])=ag:=decide_eq_false λ e=>by
  have:=(Dr (n:=n.toNat)).1;rw[<-hnm,e]at this;simp at this
 rw[hb]at heq;rw[hnm]at hsN heq;obtain⟨e0,s,C,⟨g1,h1⟩,kC,hc⟩:=qfw hxB hl;have hCr:=hBr.kp kC;have sw:=Dr (n:=n.toNat);generalize hw:xj n.toNat=w at*;by_cases he0:e0=0
 case neg=>
  have hst:(e0,D)=kj D n l:=by
   unfold kj;rcases hc with⟨hl0,rfl⟩|⟨hne,hl0,rfl⟩|⟨_,rfl,-⟩
   .rw[aA (.inr hl0)]
   .rw[ax (λ h=>h.elim hn0 hne),ax hl0]
   .exact aU rfl he0
  refine bad e0 D C kC.kr hCr hst he0 λ G sG lG=>?_
  refine bX (g1) 60 (aD zN) (by kernel_rfl) λ M hM=>?_
  simp(disch:=first|decide+kernel|omega)only[zJ,Aq,aa,tP,a7,hB,fm,wK,eY,hsN,heq,tF,h1,c7,dc,he0,yq,sG,lG]<;>rfl
 subst he0;obtain⟨hlo,rfl⟩:mo l/\s=iH l:=by
  rcases hc with⟨-,h⟩|⟨-,-,h⟩|⟨h1,-,h2⟩
  .cases h
  .cases h
  .exact⟨h1,h2⟩
 have hst:kj D n l=vc D w (iH l):=by
  unfold kj;rw[ax (λ h=>h.elim hn0 hlo.1),aA hlo.2.1,hw]
 have hil:(iH l).length<900000:=by
  have h1:(iH l).length=(ke l).length+4:=by unfold iH crc.gk;rw[aY,crc.An]
  have h2:(ke l).length<800000:=hlo.2.2.2.2.2.2.2.2;omega
 have hsg:xi n.toNat l=(n.toNat,Z l,(iH l).length):=rfl;generalize iH l=s at*;rw[hst]at bad⊢;obtain⟨E1,⟨g2,h2⟩,d1,k1⟩:=qfe hCr ⟨by omega,by omega⟩ sw (by omega) ho.k;have kE1:=kC.kr.trans k1;simp only[pV]at h2;have cO:=I4 (w:=w) ho hN sw.2 hnn;by_cases c0:(eJ D w).1=0
 case neg=>
  refine bad (eJ D w).1 (eJ D w).2 E1 kE1 d1 (by unfold vc;rw[ax c0]) c0 λ G sG lG=>?_
  generalize (eJ D w).1=e at*;refine bX (g1+g2) 60 (aD zN) (by kernel_rfl) λ M hM=>?_
  simp(config:={maxSteps:=4000000})(disch:=first|decide+kernel|omega|simp only[Wq,aa])only[zJ,Aq,av,reduceIte,aa,ak,tP,a7,hB,fm,wK,eY,hsN,heq,tF,h1,c7,dc,h2,c0,yq,sG,lG]<;>rfl
 obtain⟨e1,e2,o1,N1,i1,f1⟩:=cO c0;have q1:(eJ D w).2.q=D.q/\(eJ D w).2.st=D.st+1/\(eJ D w).2.ar<=D.ar/\(eJ D w).2.ns.length=Z D.ns+1:=by
  rw[e1];refine⟨rfl,rfl,?_,by show(D.ns++[w]).length=_;simp⟩;show(if D.dn then D.ar else D.ar-1)<=D.ar;split<;>omega
 unfold vc at*;simp only[c0,bB]at h2 bad⊢;generalize (eJ D w).2=D1 at*;have k2:=Kp.alloc E1 (af 9 [ai s]);have hr2:=aQ E1 9 [ai s];have bs:=zV (w:=s);have hx2:aq (E1.alloc (af 9 [ai s])) 9 1 E1.next [[ai s]] (.slice (U ⟨E1.next,0,V⟩) 1 2):=.inr ⟨.var 1,2,rfl,hr2.1,hr2.2,λ l hl=>by rw[dX.1 hl];rfl,.inl rfl⟩
 generalize hE:E1.alloc (af 9 [ai s])=E at k2 hx2;obtain⟨v,E2,⟨g3,h3⟩,rfl,d2,k3⟩:=qfd (d1.kp k2) ⟨by omega,by omega⟩ (by omega) (o1.CN (by omega)) o1.u (by omega) i1 f1 hx2 (by simp;omega);have kE2:=(kE1.trans k2.kr).trans k3;simp only[pV]at h3;by_cases c1:(gv D1 (Z D.ns) [] s).1=0
 case neg=>
  simp only[c1,bg]at bad⊢;refine bad (gv D1 (Z D.ns) [] s).1 (gv D1 (Z D.ns) [] s).2 E2 kE2 d2 rfl c1 λ G sG lG=>?_
  generalize (gv D1 (Z D.ns) [] s).1=e at*;refine bX (g1+g2+g3) 60 (aD zN) (by kernel_rfl) λ M hM=>?_
  simp(config:={maxSteps:=4000000})(disch:=first|decide+kernel|omega|simp only[Wq,aa])only[zJ,Aq,av,reduceIte,aa,ak,tP,a7,hB,fm,wK,eY,hsN,heq,tF,h1,c7,dc,h2,bs,hE,h3,c1,yq,sG,lG]<;>rfl
 obtain⟨o2,n2,f2,t2,a2⟩:=HP o1 f1 c1;simp only[c1,bB]at h3 bad⊢;generalize (gv D1 (Z D.ns) [] s).2=D2 at*;obtain⟨E3,⟨g4,h4⟩,d3,k4⟩:=qfi (w:=w) d2 ⟨by omega,by omega⟩ (by rw[n2];omega) (by rw[n2];exact i1) f2 (by simp;omega);have kE3:=kE2.trans k4;simp only[pV]at h4;by_cases c2:(gU D2 (Z D.ns) ([],s)).1=0
 case neg=>
  simp only[c2,bg]at bad⊢;refine bad (gU D2 (Z D.ns) ([],s)).1 (gU D2 (Z D.ns) ([],s)).2 E3 kE3 d3 rfl c2 λ G sG lG=>?_
  generalize (gU D2 (Z D.ns) ([],s)).1=e at*;refine bX (g1+g2+g3+g4) 60 (aD zN) (by kernel_rfl) λ M hM=>?_
  simp(config:={maxSteps:=4000000})(disch:=first|decide+kernel|omega|simp only[Wq,aa])only[zJ,Aq,av,reduceIte,aa,ak,tP,a7,hB,fm,wK,eY,hsN,heq,tF,h1,c7,dc,h2,bs,hE,h3,h4,c2,yq,sG,lG]<;>rfl
 have q3:(gU D2 (Z D.ns) ([],s)).2.st=D2.st+1/\(gU D2 (Z D.ns) ([],s)).2.ar<=D2.ar/\(gU D2 (Z D.ns) ([],s)).2.ns=D2.ns:=by
  have ha:(if D2.dn then D2.ar else D2.ar-1)<=D2.ar:=by split<;>omega
  unfold gU;split<;>exact⟨rfl,ha,rfl⟩
 simp only[c2,bB]at h4 bad⊢;generalize (gU D2 (Z D.ns) ([],s)).2=D3 at*;obtain⟨E4,⟨g5,h5⟩,d4,k5⟩:=qfh d3 ⟨by omega,by omega⟩ (by rw[q3.2.2,n2];omega);have kE4:=kE3.trans k5;simp only[pV]at h5;by_cases c3:(mU D3).1=0
 case neg=>
  refine bad (mU D3).1 (mU D3).2 E4 kE4 d4 rfl c3 λ G sG lG=>?_
  generalize (mU D3).1=e at*;refine bX (g1+g2+g3+g4+g5) 60 (aD zN) (by kernel_rfl) λ M hM=>?_
  simp(config:={maxSteps:=4000000})(disch:=first|decide+kernel|omega|simp only[Wq,aa])only[zJ,Aq,av,reduceIte,aa,ak,tP,a7,hB,fm,wK,eY,hsN,heq,tF,h1,c7,dc,h2,bs,hE,h3,h4,h5,c3,yq,sG,lG]<;>rfl
 obtain⟨G,sG,lG,kG,dG⟩:=SP (A:=A) (B:=B) (by rw[<-hB];rfl) kE4 d4 (n.toNat,Z l,Z s);rw[c3]at h5;refine⟨_,G,?_,kG,0,(mU D3).2,(n.toNat,Z l,Z s),rfl,dG,by rw[<-c3],λ _=>hsg.symm,λ h=>aU rfl h⟩;have hlen:=hx.len;have ll:=gB (tb:=O) (t:=9) (l:=s) u9;have bd:=MD (a:=n) (b:=(Z l:Int)) (c:=(Z s:Int));have hnt:((n.toNat:Nat):Int)=n:=by omega
 simp only[cR,hnt]at sG lG⊢;refine bX (g1+g2+g3+g4+g5) 60 (aD zN) (by kernel_rfl) λ M hM=>?_
 simp(config:={maxSteps:=4000000})(disch:=first|decide+kernel|omega|simp only[Wq,aa])only[zJ,Aq,av,reduceIte,aa,ak,tP,a7,hB,fm,wK,eY,hsN,heq,tF,h1,c7,dc,h2,bs,hE,h3,h4,h5,hlen,ll,bd,sG,lG]<;>rfl
def fc(X:List Nat)(D:Mem)(r:Nat)(E:Mem)(r':Nat):Prop:=D.next<=E.next/\(r'=r\/D.next<=r')/\∀z,z<D.next->z∉X->z≠r->E.get z=D.get z
variable {X:List Nat}
def fc.trans{D E:Mem}{s t:Nat}(h:fc X D r E s)(k:fc X E s F t):fc X D r F t:=by
 obtain⟨h1,h2,h3⟩:=h;obtain⟨k1,k2,k3⟩:=k;refine⟨by omega,by omega,λ z hz hx hr=>?_⟩;rw[k3 z (by omega) hx (by omega),h3 z hz hx hr]
def fc.kp{D E:Mem}(h:Kp D E):fc X D r E r:=⟨h.1,.inl rfl,λ z hz _ _=>h.2 z hz⟩
def L7(X:List Nat)(lp:Nat)(s:aw)(b:Bool)(Q:Nat->Mem->Nat->Prop):Prop:=∀(j:Nat) (a:cr) (D:Mem) (r:Nat),s.arcs[j]?=U a->Q j D r->
 ∃E r',(∃g,∀M,g<=M->cE O (exec O M) (.round lp [bN a.byte.toNat,oR a]) D=.ok (.val (.bool (b||decide (j+1<Z s.arcs))) E))/\Q (j+1) E r'/\fc X D r E r'
variable {M:List aw}
def qfY{k:I}{q lp r0:Nat}{s:aw}{b:Bool}{Q:Nat->Mem->Nat->Prop}(h:dA A M y)(hn:M[n]?=U s)(ht:∀a∈s.arcs,a.to<n)(hp:(s.arcs.map (·.byte)).Pairwise (·<·))(hl:Z s.arcs<=256)(hM:Z M<1000000)
 (hB:Kp A B)(v1:VB B 115 q (.var 2) [y,k])(v2:VB B 3 (q+1) (.var 1) [.int .i64 n])(hX:∀x,(x∈X\/x=r0)->A.next<=x/\x<B.next/\x≠q/\x≠q+1)
 (hK:∀j D E r,Q j D r->Kp D E->Q j E r)(hc:L7 X lp s b Q)(hI:Q 0 B r0):
 ∃v C,az O 279 [.func (.yield lp) ⟨[]⟩ ⟨[]⟩,pV q,pV (q+1)] B v C/\∃r,Q (Z s.arcs) C r/\fc X B r0 C r:=by
 refine cZ (aD Tryz.func279) M8 (by kernel_rfl) ?_;obtain⟨d,hd1,hd2⟩:=cF (t:=115) (p:=ae) (by kernel_rfl);have uP:∀D:Mem,D.get q=B.get q->aj O D.get 115 (.pointer (U ⟨q,0,V⟩))=.ok (.agg ⟨[y,k]⟩):=λ D e=>cg hd1 hd2 (l:=[y,k]) gF (v1.2.same e)
 have ld2:∀D:Mem,D.get (q+1)=B.get (q+1)->aj O D.get 3 (.pointer (U ⟨q+1,0,V⟩))=.ok (.int .i64 n):=λ D e=>dg u3 rfl (v2.2.same e) rfl
 have a1:=uP B rfl;have a2:=ld2 B rfl;obtain⟨x,C,⟨g,hg⟩,kC,b0,hR,hb⟩:=Sp (h.kp hB) hn ht hp hl hM (k:=k);have lx:=hR.len;rw[bc]at lx;have hr0:=hX r0 (.inr rfl);have hq1:q∉X:=λ h=>(hX q (.inl h)).2.2.1 rfl
 have hq2:q+1∉X:=λ h=>(hX _ (.inl h)).2.2.2 rfl
 have hbX:∀z,B.next<=z->z∉X:=λ z hz h=>by have:=(hX z (.inl h)).2.1;omega
 have hAX:∀z,z<A.next->z∉X:=λ z hz h=>by have:=(hX z (.inl h)).1;omega
 have kCn:=kC.1;simp only[pV];apply W.qG (g)
 .intro M hM;simp(disch:=first|decide+kernel|omega)only[uz,rG,Aq,aa,a1,a2,hg,lx];rfl
 apply W.block;refine W.up (Z s.arcs) (λ j t D=>∃r,Q j D r/\fc X C r0 D r/\Sl t [(0,.func (.yield lp) ⟨[]⟩ ⟨[]⟩),(1,.pointer (U ⟨q,0,V⟩)),(2,.pointer (U ⟨q+1,0,V⟩)),(11,x),(12,.int .i64 (Z s.arcs)),(13,.int .i64 j)]) ?_ (a8 _) ⟨r0,hK _ _ _ _ hI kC,fc.kp (Kp.refl C),?_⟩
 .rintro j t D hj ⟨r,hI,hf,g0,g1,g2,g11,g12,g13,-⟩;have hfB:fc X B r0 D r:=(fc.kp kC).trans hf;by_cases hlt:j<Z s.arcs
  .have hsj:s.arcs[j]?=U s.arcs[j]:=aZ hlt;have hRD:iw D b0 (s.arcs.map (·.byte)) x:=⟨hR.1.same hf.1 λ hz=>hf.2.2 b0 hz (hbX b0 hb) (by omega),hR.2⟩;obtain⟨i1,i2⟩:=hRD.at (i:=j) (by rw[bc];exact hlt);rw[zu]at i2;have hBn:=hB.1;have kAD:Kp A D:=⟨by have:=hfB.1;omega,λ z hz=>by rw[hfB.2.2 z (by omega) (hAX z hz) (by omega),hB.2 z hz]⟩;obtain⟨v,E,⟨g,hg⟩,rfl,kE⟩:=SL (k:=k) (h.kp kAD) hn ht hp hl hsj;generalize s.arcs[j]=a at*;obtain⟨F,r',⟨gy,hy⟩,hI2,hF⟩:=hc j a E r hsj (hK _ _ _ _ hI kE);have hBF:fc X C r0 F r':=(hf.trans (fc.kp kE)).trans hF;have b1:=uP D (hfB.2.2 q v1.1 hq1 (by omega));have b2:=ld2 D (hfB.2.2 (q+1) v2.1 hq2 (by omega));have bd:=MC (m:=(a.to:Int)) (n:=(a.out:Int));unfold oR at hy;cases hu:(b||decide (j+1<Z s.arcs))with
   |true=>
    rw[hu]at hy;apply W.cC (g+gy) 20
    .intro M hM;simp(disch:=first|decide+kernel|omega)only[zY,uz,rG,Aq,aa,g0,g1,g2,g11,g12,g13,hlt,i1,i2,b1,b2,hg,c7,dc,bd,hy];rfl
    refine⟨hlt,_,_,rfl,r',hI2,hBF,?_⟩;simp only[Sq,aa,ak,g0,g1,g2,g11,g12]
   |false=>
    rw[hu]at hy;simp only[Bp,decide_eq_false_iff_not]at hu;have e:j+1=Z s.arcs:=by omega
    apply W.cC (g+gy) 20
    .intro M hM;simp(disch:=first|decide+kernel|omega)only[zY,uz,rG,Aq,aa,g0,g1,g2,g11,g12,g13,hlt,i1,i2,b1,b2,hg,c7,dc,bd,hy];rfl
    exact⟨by simp,rfl,_,(by simp only[rG,Aq,aa]<;>rfl),r',e▸hI2,(fc.kp kC).trans hBF⟩
  .have e:j=Z s.arcs:=by omega
   subst e;apply W.run 20
   .intro M;simp(disch:=first|decide+kernel|omega)only[zY,uz,rG,Aq,aa,g12,g13];rfl
   exact⟨by simp,rfl,_,(by simp only[rG,Aq,aa]<;>rfl),r,hI,hfB⟩
 .simp only[Sq,aa,ak]
def GM:∃d,O.aB 115=U d/\en d=ae:=cF (t:=115) (p:=ae) (by kernel_rfl)
def qeI{a:List UInt8}:az O 253 [ai a,ai []] A (.bool ag) A:=by
 have e:ft .lss a []=.ok (.bool ag):=by
  cases a<;>rfl
 refine cq 60 (aD Tryz.func253) (by kernel_rfl) λ M=>?_
 simp(disch:=decide+kernel)only[Tryz.f253,Aq,aa,e]<;>rfl
def dA.Zl{s:aw}(h:dA A M y)(hi:M[i]?=U s):
 ∃p q1 q2,eE O 112 y (.int .i64 i)=.ok p/\bK O 186 p 1=.ok q1/\bK O 186 p 2=.ok q2/\∀A',Kp A A'->aj O A'.get 4 q1=.ok (.bool s.fin)/\aj O A'.get 113 q2=.ok (.int .u64 s.out):=by
 obtain⟨b,rows,h1,h2,h3⟩:=h;obtain⟨x,e1,e2⟩:=h3 i s hi;have hl:=(bU.1 e1).1;refine⟨_,_,_,aq.idx h1 eg gV hl,fV,nT,λ A' k=>?_⟩;have h1:=h1.same k.1 (k.2 b);exact⟨aq.load h1 u4 rfl e1 rfl (by omega),aq.load h1 dH rfl e1 rfl (by omega)⟩
def jt(p3 p4 p5 p6:Nat):List I:=[pV p3,pV p4,pV p5,pV p6]
def pF(n:Nat):I:=.agg ⟨[.int .u64 n,.bool ae]⟩
structure Hc (A:Mem) (y k:I) (l0 p3 p4 p5 p6:Nat) (X:List Nat) (D:Mem) (r:Nat):Prop where
 kp:Kp A D
 v3:VB D 9 p3 (.var 1) [ai []]
 v4:VB D 115 p4 (.var 2) [y,k]
 v5:VB D 352 p5 (.var 1) [.func (.yield l0) ⟨[]⟩ ⟨[]⟩]
 v6:VB D 353 p6 (.var 1) [.func (.func 252) ⟨[]⟩ ⟨jt p3 p4 p5 p6⟩]
 x:∀x,(x∈X\/x=r)->A.next<=x/\x<D.next
def He(X:List Nat)(l0:Nat)(L:List (List UInt8×Nat))(Q:Nat->Mem->Nat->Prop):Prop:=∀(j:Nat) (w:List UInt8) (v:Nat) (D:Mem) (r:Nat),L[j]?=U (w,v)->Q j D r->
 ∃E r',(∃g,∀M,g<=M->cE O (exec O M) (.round l0 [ai w,pF v]) D=.ok (.val (.bool (decide (j+1<Z L))) E))/\Q (j+1) E r'/\fc X D r E r'
def jq:=cu nu
def wz:aH:=sub jq [1,1,1,1,0,1,0,0]
def wA:aH:=sub jq [1,1,1,1,0,1,0,1]
def Xm:nu.body=U (.seq (sub jq [0]) (.seq (sub jq [1,0]) (.seq (sub jq [1,1,0]) (.seq (sub jq [1,1,1,0]) (.seq (.seq (sub jq [1,1,1,1,0,0]) (.block 0 (.rangeFunc (.tmp 52) #[53,54] wz wA))) (sub jq [1,1,1,1,1])))))):=by kernel_rfl
def gR(t:T I)(d:Nat):jd:=mS t 69 [53,54] wz wA d
def Gu:bk O 280=.ok 2:=by kernel_rfl
def K5:bk O 4=.ok 1:=by kernel_rfl
def qh7:∃d,O.aB 352=U d/\en d=ag:=cF (t:=352) (p:=ag) (by kernel_rfl)
def Uf:∃d,O.aB 353=U d/\en d=ag:=cF (t:=353) (p:=ag) (by kernel_rfl)
def UH:dj O 342=.ok (.agg ⟨[iN 0,uN 0]⟩):=by kernel_rfl
def qhB:bk O 342=.ok 2:=by kernel_rfl
def Ol:bK O 342 (pw b 0) 0=.ok (pw b 0):=by kernel_rfl
def Om:bK O 342 (pw b 0) 1=.ok (pw b 1):=by kernel_rfl
def qgf(d p3 p4 p5 p6:Nat):dD (d+2) (.func (.func 252) ⟨[]⟩ ⟨jt p3 p4 p5 p6⟩) (.func (.func 252) ⟨[]⟩ ⟨jt p3 p4 p5 p6⟩)=ae:=by simp[dD,Dp,jt,pV,xh,tO]
def qge(p3 p4 p5 p6:Nat):dD 100 (.func (.func 252) ⟨[]⟩ ⟨jt p3 p4 p5 p6⟩) (.func (.func 252) ⟨[]⟩ ⟨jt p3 p4 p5 p6⟩)=ae:=qgf 98 p3 p4 p5 p6
def qgi(d l:Nat):dD (d+1) (.func (.yield l) ⟨[]⟩ ⟨[]⟩) (.func (.yield l) ⟨[]⟩ ⟨[]⟩)=ae:=by simp[dD,Dp]
def qgh(l:Nat):dD 100 (.func (.yield l) ⟨[]⟩ ⟨[]⟩) (.func (.yield l) ⟨[]⟩ ⟨[]⟩)=ae:=qgi 99 l
def qgg(n:Nat):dD 100 (.int .i64 n) (.int .i64 n)=ae:=pE .i64 n rfl
def iX(M:List aw)(s:aw)(jj:Nat):Nat:=((s.arcs.take jj).flatMap (iz M)).length
def X9{s:aw}{jj:Nat}{a:cr}(h:s.arcs[jj]?=U a):iX M s (jj+1)=iX M s jj+(ws M a.to).length:=by
 obtain⟨hj,rfl⟩:=bU.1 h;unfold iX;rw[d_ hj,Bz,aY];simp[iz]
def Nr{s:aw}{jj t:Nat}{a:cr}{x:List UInt8×Nat}(h:s.arcs[jj]?=U a)(hx:(ws M a.to)[t]?=U x):(s.arcs.flatMap (iz M))[iX M s jj+t]?=U (a.byte::x.1,a.out+x.2):=by
 obtain⟨hj,rfl⟩:=bU.1 h;have e:s.arcs=s.arcs.take jj++s.arcs[jj]::s.arcs.drop (jj+1):=by rw[<-mq hj,tZ]
 have e2:s.arcs.flatMap (iz M)=(s.arcs.take jj).flatMap (iz M)++(iz M s.arcs[jj]++(s.arcs.drop (jj+1)).flatMap (iz M)):=by
  conv=>lhs;rw[e]
  rw[Bz,mr]
 have ht:=(bU.1 hx).1;rw[e2];unfold iX;rw[eV (by omega),Nat.add_sub_cancel_left,fe (by unfold iz;rw[bc];exact ht)];unfold iz;rw[dN,hx];rfl
def LJ(g:eM M):∀i,i<Z M->0<(ws M i).length:=by
 intro i
 induction i using xW with
 |ind i ih=>
  intro hi;have hs:=aZ hi;rw[rf g hs];obtain⟨-,-,k3,k4,-⟩:=g i _ hs;generalize M[i]=s at*;rw[aY];rcases k4 with k4|k4
  .rw[aA k4,fb];omega
  .obtain⟨a,l,e⟩:=Hi k4;have ha:a∈s.arcs:=by rw[e];exact cJ
   have:=ih a.to (k3 a ha) (Nat.lt_trans (k3 a ha) hi);rw[e,mr,aY];unfold iz;rw[bc];omega
def Hg(M:List aw)(s:aw)(t:T I)(mk lp p10:Nat)(X1:List Nat)(J:Mem)(r1:Nat)(b:Bool)(j1:Nat)(Q:Nat->Mem->Nat->Prop)(jj:Nat)(D:Mem)(r:Nat):Prop:=
 Q (j1+iX M s jj) D r/\fc X1 J r1 D r/\VB D 4 p10 (.var 1) [.bool ag]/\D.get lp=U (.loop (if jj<Z s.arcs\/b=ae then gR t mk else {gR t mk with state:=.done,pending:=U .ret}))
variable {t:T I}{mk:Nat}
def qc8{J:Mem}{k:I}{l0 p3 p4 p5 p6 P0 q8 lp r1:Nat}{L:List (List UInt8×Nat)}{Q:Nat->Mem->Nat->Prop}{s:aw}{j1 v:Nat}{b:Bool}(hs:M[i]?=U s)(g:eM M)(hL:∀x∈L,x.1.length<1000/\x.2<18446744073709551616)
 (hK:∀j D E r,Q j D r->D.next<=E.next->(∀z,(z<P0\/z=r)->E.get z=D.get z)->Q j E r)(hC:∀j D r,Q j D r->Hc A y k l0 p3 p4 p5 p6 X D r/\P0<=D.next/\∀x∈X,x<P0)
 (ih:∀a∈s.arcs,∀w v j D r0,Q j D r0->(∀t x,(ws M a.to)[t]?=U x->L[j+t]?=U (w++x.1,v+x.2))->
  ∃b E,az O 252 ([.int .i64 a.to,ai w,pF v]++jt p3 p4 p5 p6) D b E/\b=.bool (decide (j+(ws M a.to).length<Z L))/\∃r,Q (j+(ws M a.to).length) E r/\fc X D r0 E r)
 (hb:b=decide (j1+iX M s (Z s.arcs)<Z L))(hle:j1+iX M s (Z s.arcs)<=Z L)
 (hW:∀t x,(s.arcs.flatMap (iz M))[t]?=U x->L[j1+t]?=U (w++x.1,v+x.2))
 (v8:VB J 9 q8 (.var 1) [ai w])(v9:VB J 280 (q8+1) (.var 2) [.int .u64 v,.bool ae])(v10:VB J 4 (q8+2) (.var 1) [.bool ag])
 (hP:P0<=q8/\q8+2<mk/\lp=mk+1/\lp<J.next/\(r1<q8\/q8+2<r1)/\r1<mk)
 (hsl:Sl t [(6,pV p6),(8,pV q8),(9,pV (q8+1)),(10,pV (q8+2))]):
 L7 (lp::(q8+2)::X) lp s b (Hg M s t mk lp (q8+2) (lp::(q8+2)::X) J r1 b j1 Q):=by
 rintro jj a D r hj ⟨hQ,hF,w10,hLp⟩;obtain⟨g6,g8,g9,g10,-⟩:=hsl;obtain⟨hP1,hP2,rfl,hP4,hP5,hP6⟩:=hP;obtain⟨hjl,hja⟩:=bU.1 hj;have ham:=gJ hj;have hil:=(bU.1 hs).1;have hto:=(g i s hs).2.2.1 a ham;obtain⟨hc,hPD,hXP⟩:=hC _ _ _ hQ;rw[aA (.inl hjl)]at hLp;have hrr:=hF.2.1;have hXlt:∀z,P0<=z->z∉X:=λ z hz h=>by have:=hXP z h;omega
 have fJ:∀z,z<J.next->P0<=z->z≠mk+1->z≠q8+2->z≠r1->D.get z=J.get z:=λ z hz h0 h1 h2 h3=>hF.2.2 z hz (by simp[h1,h2,hXlt z h0]) h3
 have hDn:J.next<=D.next:=hF.1
 have hpos:=LJ g a.to (by omega);have hwa:∀t x,(ws M a.to)[t]?=U x->L[j1+iX M s jj+t]?=U (w++[a.byte]++x.1,v+a.out+x.2):=λ t x hx=>by
  have:=hW _ _ (Nr hj hx);rw[rk,this];simp[rk]
 have hL0:=hwa 0 _ (aZ hpos);obtain⟨hl1,hl2⟩:=hL _ (gJ hL0);simp only[aY,cD,eB]at hl1;have sE:cm O (D.alloc (af 342 [.int .i64 (0:Nat),.int .u64 (0:Nat)])) 342 (.pointer (U ⟨D.next,0,V⟩)) (oR a)=.ok (D.alloc (af 342 [.int .i64 a.to,.int .u64 a.out])):=fP qhB rfl rfl (by simp) (by simp[bS]);have kE:=Kp.alloc D (af 342 [.int .i64 a.to,.int .u64 a.out]);have vE:=aQ D 342 [.int .i64 a.to,.int .u64 a.out];have nE:(D.alloc (af 342 [.int .i64 a.to,.int .u64 a.out])).next=D.next+1:=aG _ _
 generalize D.alloc (af 342 [.int .i64 a.to,.int .u64 a.out])=E at sE kE vE nE;have hLE:E.get (mk+1)=U (.loop (gR t mk)):=by rw[kE.2 _ (by omega)];exact hLp
 generalize hF1:E.set (mk+1) (.loop {gR t mk with state:=.busy})=F;have nF:F.next=E.next:=by rw[<-hF1];exact cU _ _ _
 have fF:∀z,z≠mk+1->F.get z=E.get z:=λ z hz=>by rw[<-hF1,cN,ax hz]
 have hLF:F.get (mk+1)=U (.loop {gR t mk with state:=.busy}):=by rw[<-hF1,cN,aA rfl]
 have fFD:∀z,z<D.next->z≠mk+1->F.get z=D.get z:=λ z hz h=>by rw[fF z h,kE.2 z hz]
 have kG:=Kp.alloc F (af 5 [.int .u8 (a.byte.toNat:Nat)]);have c1:=TF (D:=F) (c:=a.byte);have gG:=de F (af 5 [.int .u8 (a.byte.toNat:Nat)]);generalize hG:F.alloc (af 5 [.int .u8 (a.byte.toNat:Nat)])=G at kG c1 gG;have hd:∀A:Mem,iq (tW (λ x:Nat×Nat=>x.2) [(5,F.next)]) A=A.set F.next .dead:=λ _=>rfl
 have put:∀H:Mem,H.get=G.get->H.next=G.next->∃G',ji G.get (tW (λ x:Nat×Nat=>x.2) [(5,F.next)]) (H.set F.next .dead)=.ok G'/\G'.get=G.get/\G'.next=G.next:=λ H hH hn=>by
  refine⟨(H.set F.next .dead).set F.next (af 5 [.int .u8 (a.byte.toNat:Nat)]),?_,funext λ z=>?_,?_⟩
  .show(match G.get F.next with|some o=>ji G.get [] ((H.set F.next .dead).set F.next o)|none=>.no 313)=_;rw[gG];rfl
  .rw[cN];split
   .rename_i h;rw[h,gG]
   .rename_i h;rw[cN,ax h,hH]
  .rw[cU,cU,hn]
 obtain⟨G2,bk1,e2,n2⟩:=put G rfl rfl;have kFG2:Kp F G2:=⟨by rw[n2];exact kG.1,λ z hz=>by rw[e2];exact kG.2 z hz⟩;have nG2:F.next<=G2.next:=kFG2.1
 have fG2:∀z,z<D.next->z≠mk+1->G2.get z=D.get z:=λ z hz h=>by rw[kFG2.2 z (by omega),fFD z hz h]
 have hrD:=(hc.x r (.inr rfl)).2;have hQG:Q (j1+iX M s jj) G2 r:=hK _ _ _ _ hQ (by omega) λ z hz=>fG2 z (by omega) (by omega)
 obtain⟨u,H,⟨gb,hgb⟩,hu,r',hQH,hFH⟩:=ih a ham (w++[a.byte]) (v+a.out) _ G2 r hQG hwa;rw[rk,<-X9 hj]at hQH hu;have hub:decide (j1+iX M s (jj+1)<Z L)=(b||decide (jj+1<Z s.arcs)):=by
  rcases ec (jj+1) (Z s.arcs)with hlt|hge
  .rw[decide_eq_true hlt,Bool.or_true];have hj2:s.arcs[jj+1]?=U s.arcs[jj+1]:=aZ hlt;have hp2:=LJ g s.arcs[jj+1].to (by have:=(g i s hs).2.2.1 _ (ff hlt);omega);have h2:=hW _ _ (Nr hj2 (aZ hp2));have:=(bU.1 h2).1;exact decide_eq_true (by omega)
  .rw[decide_eq_false (show¬jj+1<Z s.arcs by omega),Bool.or_false,hb,show jj+1=Z s.arcs by omega]
 rw[hub]at hu;subst hu;have l8:∀N:Mem,(∀z,z<D.next->z≠mk+1->N.get z=D.get z)->aj O N.get 9 (.pointer (U ⟨q8,0,V⟩))=.ok (ai w):=λ N h=>dg u9 rfl (v8.2.same (by rw[h q8 (by omega) (by omega),fJ q8 (by omega) hP1 (by omega) (by omega) (by omega)])) rfl
 have l9:∀N:Mem,(∀z,z<D.next->z≠mk+1->N.get z=D.get z)->aj O N.get 280 (.pointer (U ⟨q8+1,0,V⟩))=.ok (.agg ⟨[.int .u64 v,.bool ae]⟩):=λ N h=>by
  obtain⟨d,hd1,hd2⟩:=cF (t:=280) (p:=ae) (by kernel_rfl);exact cg hd1 hd2 (l:=[.int .u64 v,.bool ae]) Gu (v9.2.same (by rw[h _ (by omega) (by omega),fJ _ (by omega) (by omega) (by omega) (by omega) (by omega)]))
 have l6:∀N:Mem,(∀z,z<D.next->z≠mk+1->N.get z=D.get z)->aj O N.get 353 (.pointer (U ⟨p6,0,V⟩))=.ok (.func (.func 252) ⟨[]⟩ ⟨jt p3 p4 p5 p6⟩):=λ N h=>by
  obtain⟨d,hd1,hd2⟩:=Uf;have hp6:p6≠mk+1:=λ e=>by
   have h6:=hc.v6.2;obtain⟨cs,h6,-⟩:=h6;rw[e,hLp]at h6;cases h6
  exact dg hd1 hd2 (hc.v6.2.same (h p6 hc.v6.1 hp6)) rfl
 have fG:∀z,z<D.next->z≠mk+1->G.get z=D.get z:=λ z hz h=>by rw[kG.2 z (by omega),fFD z hz h]
 have vG:∀N:Mem,(∀z,z<E.next->z≠mk+1->N.get z=E.get z)->aj O N.get 3 (.pointer (U ⟨D.next,0,V⟩))=.ok (.int .i64 a.to)/\aj O N.get 113 (.pointer (U ⟨D.next,1,V⟩))=.ok (.int .u64 a.out):=λ N h=>by
  have:=vE.2.same (h D.next (by omega) (by omega));exact⟨dg u3 rfl this rfl,dg dH rfl this rfl⟩
 have x6:=l6 F fFD;have x6':=l6 G fG;have x8:=l8 F fFD;have x8':=l8 G fG;have x9:=l9 G fG;obtain⟨x0,x1⟩:=vG F λ z hz h=>fF z h
 obtain⟨x0',x1'⟩:=vG G λ z hz h=>by rw[kG.2 z (by omega),fF z h]
 have ka:=λ ih A=>FQ (ih:=ih) (A:=A) (n:=v) (m:=a.out) (f:=ae) (by omega)
 have sc:=qge p3 p4 p5 p6;have si:=qgg a.to;have s1:ft .add w [a.byte]=.ok (ai (w++[a.byte])):=cat (by simp;omega);have hlH:H.get (mk+1)=U (.loop {gR t mk with state:=.busy}):=by
  rw[hFH.2.2 (mk+1) (by omega) (hXlt _ (by omega)) (by omega),kFG2.2 _ (by omega)];exact hLF
 simp only[pV]at g6 g8 g9 g10;simp only[jt,pV,pF,iP,lL]at hgb x6 x6' sc;have fin:∀N:Mem,N.next=H.next->(∀z,z≠mk+1->z≠q8+2->N.get z=H.get z)->VB N 4 (q8+2) (.var 1) [.bool ag]->N.get (mk+1)=U (.loop (if jj+1<Z s.arcs\/b=ae then gR t mk else {gR t mk with state:=.done,pending:=U .ret}))->
  Hg M s t mk (mk+1) (q8+2) ((mk+1)::(q8+2)::X) J r1 b j1 Q (jj+1) N r'/\fc ((mk+1)::(q8+2)::X) D r N r':=λ N hn hf h10 hlp=>by
  have hcH:=(hC _ _ _ hQH).1;have hrH:=(hcH.x r' (.inr rfl)).2;have hr2:r'=r\/G2.next<=r':=hFH.2.1
  have hfr:fc ((mk+1)::(q8+2)::X) D r N r':=⟨by have:=hFH.1;omega,by omega,λ z hz hx hr=>by
   simp only[cG,not_or]at hx;rw[hf z hx.1 hx.2.1,hFH.2.2 z (by omega) hx.2.2 hr,fG2 z hz hx.1]⟩
  exact⟨⟨hK _ _ _ _ hQH (by omega) λ z hz=>hf z (by omega) (by omega),hF.trans hfr,h10,hlp⟩,hfr⟩
 have w10H:VB H 4 (q8+2) (.var 1) [.bool ag]:=⟨by have:=hFH.1;omega,w10.2.same (by rw[hFH.2.2 _ (by omega) (hXlt _ (by omega)) (by omega),fG2 _ (by omega) (by omega)])⟩;cases hu:(b||decide (jj+1<Z s.arcs))with
 |true=>
  rw[hu]at hgb;have hst:jj+1<Z s.arcs\/b=ae:=by
   simp only[DP,decide_eq_true_eq]at hu;exact hu.symm
  have hq:∃C,(∃g,∀N,g<=N->cE O (exec O N) (.round (mk+1) [.int .u8 (a.byte.toNat:Nat),oR a]) D=.ok (.val (.bool ae) C))/\C=H.set (mk+1) (.loop (gR t mk)):=by
   refine Dj hLp (t:=(t.set 53 (.int .u8 (a.byte.toNat:Nat))).set 54 (oR a)) rfl ?_;show W O wz ⟨_,69,[],D,U (mk+1)⟩ _;apply W.run 20
   .intro M;simp(disch:=first|decide+kernel|omega)only[wz,jq,nu,Aq,aa,UH,a7,sE];rfl
   refine⟨rfl,_,hLE,rfl,?_⟩;show W O wA ⟨_,69,[],E.set (mk+1) (.loop {gR t mk with state:=.busy}),U (mk+1)⟩ _;rw[hF1];apply W.cC (gb) 20
   .intro M hM;simp(config:={maxSteps:=4000000})(disch:=first|decide+kernel|omega|simp only[Wq,aa])only[wA,jq,nu,Aq,av,reduceIte,aa,ak,g6,g8,g9,x6,x6',x8,x8',x9,x0,x1,x0',x1',Ol,Om,zU,hG,C7,KB,KJ,c1,hd,bk1,e2,ka,s1,sc,si,hgb,Fq,bQ [(0,11),(2,11),(3,11),(5,11),(6,11)]];rfl
   exact⟨rfl,rfl,_,hlH,rfl⟩
  obtain⟨C,hc,rfl⟩:=hq;have:=fin (H.set (mk+1) (.loop (gR t mk))) (cU _ _ _) (λ z h1 _=>by rw[cN,ax h1]) ⟨by rw[cU];exact w10H.1,w10H.2.same (by rw[cN,ax (by omega)])⟩ (by rw[cN,aA rfl,aA hst]);exact⟨_,r',hc,this.1,this.2⟩
 |false=>
  rw[hu]at hgb;have hst:¬(jj+1<Z s.arcs\/b=ae):=by
   simp only[Bp,decide_eq_false_iff_not]at hu;rintro(h|h)
   .exact hu.2 h
   .rw[h]at hu;cases hu.1
  obtain⟨qi6,sI,vI,nI,fI⟩:=db (tb:=O) (t:=4) (o:=0) (v:=.bool ag) K5 w10H.2 (by simp) rfl rfl;have hlI:qi6.get (mk+1)=U (.loop {gR t mk with state:=.busy}):=by rw[fI _ (by omega)];exact hlH
  have hq:∃C,(∃g,∀N,g<=N->cE O (exec O N) (.round (mk+1) [.int .u8 (a.byte.toNat:Nat),oR a]) D=.ok (.val (.bool ag) C))/\C=qi6.set (mk+1) (.loop {gR t mk with state:=.done,pending:=U .ret}):=by
   refine qda hLp (t:=(t.set 53 (.int .u8 (a.byte.toNat:Nat))).set 54 (oR a)) rfl ?_;show W O wz ⟨_,69,[],D,U (mk+1)⟩ _;apply W.run 20
   .intro M;simp(disch:=first|decide+kernel|omega)only[wz,jq,nu,Aq,aa,UH,a7,sE];rfl
   refine⟨rfl,_,hLE,rfl,?_⟩;show W O wA ⟨_,69,[],E.set (mk+1) (.loop {gR t mk with state:=.busy}),U (mk+1)⟩ _;rw[hF1];apply W.cC (gb) 20
   .intro M hM;simp(config:={maxSteps:=4000000})(disch:=first|decide+kernel|omega|simp only[Wq,aa])only[wA,jq,nu,Aq,av,reduceIte,aa,ak,g6,g8,g9,g10,x6,x6',x8,x8',x9,x0,x1,x0',x1',Ol,Om,zU,hG,C7,KB,KJ,c1,hd,bk1,e2,ka,s1,sc,si,hgb,sI,Fq,bQ [(0,11),(2,11),(3,11),(5,11),(6,11)]];rfl
   exact⟨rfl,rfl,_,hlI,rfl⟩
  obtain⟨C,hc,rfl⟩:=hq;have:=fin (qi6.set (mk+1) (.loop {gR t mk with state:=.done,pending:=U .ret})) (by rw[cU];exact nI) (λ z h1 h2=>by rw[cN,ax h1,fI z h2]) ⟨by rw[cU,nI];exact w10H.1,dp.same (A:=qi6) vI (by rw[cN,ax (by omega)])⟩ (by rw[cN,aA rfl,ax hst]);exact⟨_,r',hc,this.1,this.2⟩
def Fl:bK O 115 (pw b 0) 0=.ok (pw b 0):=by kernel_rfl
def vj(X:List Nat)(L:List (List UInt8×Nat))(Q:Nat->Mem->Nat->Prop)(E3:Mem)(r0 n:Nat)(e:Ex)(s:St):Prop:=
 (e=.nrm\/e=.ret)/\∃A' vs,ir s.d s.m=.ok A'/\eF O s.t A'.get nu.results.toList=.ok vs/\(oneOf vs=.bool (decide (n<Z L))/\∃r,Q n A' r/\fc X E3 r0 A' r)
def T0{E0 E3:Mem}{k:I}{l0 p3 p4 p5 p6 P0 r0 r1:Nat}{L:List (List UInt8×Nat)}{Q:Nat->Mem->Nat->Prop}{s:aw}{j1 v b8:Nat}(hS:dA A M y)(hs:M[i]?=U s)(g:eM M)(hl:Z M<1000000)(hL:∀x∈L,x.1.length<1000/\x.2<18446744073709551616)
 (hK:∀j D E r,Q j D r->D.next<=E.next->(∀z,(z<P0\/z=r)->E.get z=D.get z)->Q j E r)(hC:∀j D r,Q j D r->Hc A y k l0 p3 p4 p5 p6 X D r/\P0<=D.next/\∀x∈X,x<P0)
 (ih:∀a∈s.arcs,∀w v j D r0,Q j D r0->(∀t x,(ws M a.to)[t]?=U x->L[j+t]?=U (w++x.1,v+x.2))->
  ∃b E,az O 252 ([.int .i64 a.to,ai w,pF v]++jt p3 p4 p5 p6) D b E/\b=.bool (decide (j+(ws M a.to).length<Z L))/\∃r,Q (j+(ws M a.to).length) E r/\fc X D r0 E r)
 (hne:s.arcs≠ []\/j1+iX M s (Z s.arcs)<Z L)(hle:j1+iX M s (Z s.arcs)<=Z L)
 (hW:∀t x,(s.arcs.flatMap (iz M))[t]?=U x->L[j1+t]?=U (w++x.1,v+x.2))
 (v8:VB E3 9 b8 (.var 1) [ai w])(v9:VB E3 280 (b8+1) (.var 2) [.int .u64 v,.bool ae])(v10:VB E3 4 (b8+2) (.var 1) [.bool ag])
 (hP:P0<=b8/\b8+2<E3.next/\r0<b8/\E0.next=b8/\A.next<=b8)(hk0:Kp E0 E3)(hQ:Q j1 F r1)(hF:fc X E3 r0 F r1)
 (hsl:Sl t [(0,.int .i64 i),(4,pV p4),(6,pV p6),(8,pV b8),(9,pV (b8+1)),(10,pV (b8+2))]):
 W O (.seq (.seq (sub jq [1,1,1,1,0,0]) (.block 0 (.rangeFunc (.tmp 52) #[53,54] wz wA))) (sub jq [1,1,1,1,1])) ⟨t,69,[],F,V⟩ (vj X L Q E0 r0 (j1+iX M s (Z s.arcs))):=by
 obtain⟨h0,h4,h6,h8,h9,h10,-⟩:=hsl;obtain⟨hP1,hP2,hP3,hP4,hP5⟩:=hP;obtain⟨hc,hPF,hXP⟩:=hC _ _ _ hQ;obtain⟨k1,k2,k3,k4,-⟩:=g i s hs;have hfew:=w_ (g i s hs);have hXlt:∀z,P0<=z->z∉X:=λ z hz h=>by have:=hXP z h;omega
 have nF:=hF.1;have hr1:r1=r0\/E3.next<=r1:=hF.2.1
 have fF:∀z,z<E3.next->P0<=z->z≠r0->F.get z=E3.get z:=λ z hz h0 h=>hF.2.2 z hz (hXlt z h0) h
 obtain⟨d,hd1,hd2⟩:=GM;have ld:aj O F.get 115 (pw p4 0)=.ok (.agg ⟨[y,k]⟩):=cg hd1 hd2 (l:=[y,k]) gF hc.v4.2;obtain⟨gw,hgw⟩:=K4 (A:=F) (y:=y) (k:=k) (n:=i);have x1:=(aQ F 115 [y,k]).kp (Kp.alloc _ (af 3 [.int .i64 i]));have x2:=aQ (F.alloc (af 115 [y,k])) 3 [.int .i64 i];have y1:(F.alloc (af 115 [y,k])).next=F.next+1:=aG _ _
 have y2:((F.alloc (af 115 [y,k])).alloc (af 3 [.int .i64 i])).next=F.next+2:=by rw[aG,y1]
 have kH:=(Kp.alloc F (af 115 [y,k])).trans (Kp.alloc _ (af 3 [.int .i64 i]));rw[y1]at x2;generalize (F.alloc (af 115 [y,k])).alloc (af 3 [.int .i64 i])=H at hgw x1 x2 y2 kH;simp only[pV]at h4 h6 h8 h9 h10 hgw;apply W.seq;apply W.qG (gw)
 .intro M hM;simp(disch:=first|decide+kernel|omega)only[jq,nu,Aq,aa,h0,h4,ld,hgw];rfl
 apply W.block;generalize ht0:T.set _ _ _=t0;have hsl:Sl t0 [(6,pV p6),(8,pV b8),(9,pV (b8+1)),(10,pV (b8+2)),(52,.func (.func 279) ⟨[]⟩ ⟨[pV F.next,pV (F.next+1)]⟩)]:=by
  rw[<-ht0];simp only[Sq,aa,ak,h6,h8,h9,h10,pV]
 clear ht0;obtain⟨h6,h8,h9,h10,h52,-⟩:=hsl;have kJ:=(Kp.alloc H .defd).trans (Kp.alloc (H.alloc .defd) (.loop (gR t0 H.next)));have nJ1:(H.alloc .defd).next=H.next+1:=aG _ _
 have nJ:((H.alloc .defd).alloc (.loop (gR t0 H.next))).next=H.next+2:=by rw[aG,nJ1]
 have jL:((H.alloc .defd).alloc (.loop (gR t0 H.next))).get (H.next+1)=U (.loop (gR t0 H.next)):=by have:=de (H.alloc .defd) (.loop (gR t0 H.next));rwa[nJ1]at this
 have jM:((H.alloc .defd).alloc (.loop (gR t0 H.next))).get H.next=U .defd:=by rw[(Kp.alloc (H.alloc .defd) _).2 _ (by omega)];exact de H .defd
 generalize hJ:(H.alloc .defd).alloc (.loop (gR t0 H.next))=J at kJ nJ jL jM;have kFJ:=kH.trans kJ;have toJ:∀e z k l,VB E3 e z k l->P0<=z->z≠r0->VB J e z k l:=λ e z k l h h0 h1=>VB.kp (A:=F) ⟨by have:=h.1;omega,h.2.same (fF z h.1 h0 h1)⟩ kFJ
 have hcr:=hc.x r1 (.inr rfl);have hKp:=hc.kp.1;have hQJ:Q j1 J r1:=hK _ _ _ _ hQ (by omega) λ z hz=>kFJ.2 z (by omega)
 have hI:Hg M s t0 H.next (H.next+1) (b8+2) ((H.next+1)::(b8+2)::X) J r1 (decide (j1+iX M s (Z s.arcs)<Z L)) j1 Q 0 J r1:=by
  refine⟨by unfold iX;simpa using hQJ,fc.kp (Kp.refl J),toJ _ _ _ _ v10 (by omega) (by omega),?_⟩;rw[aA]
  .exact jL
  .rcases hne with hne|hne
   .exact .inl (je.2 hne)
   .exact .inr (decide_eq_true hne)
 have hKp2:Kp A J:=hc.kp.trans kFJ;obtain⟨va,C,hA,r2,⟨q1,q2,q3,q4⟩,hFC⟩:=qfY (A:=A) (B:=J) (q:=F.next) (lp:=H.next+1) (r0:=r1) (k:=k) (X:=(H.next+1)::(b8+2)::X) hS hs k3 k2 hfew hl hKp2 (x1.kp kJ) (x2.kp kJ)
  (λ x hx=>by
   have h1:x=H.next+1\/x=b8+2\/x∈X\/x=r1:=by
    rcases hx with hx|hx
    .simp only[cG]at hx;rcases hx with hx|hx|hx
     .exact .inl hx
     .exact .inr (.inl hx)
     .exact .inr (.inr (.inl hx))
    .exact .inr (.inr (.inr hx))
   rcases h1 with h1|h1|h1|h1
   .omega
   .omega
   .have q1:=(hc.x x (.inl h1)).1;have q2:=hXP x h1;exact⟨by omega,by omega,by omega,by omega⟩
   .omega)
  (λ jj D E r hq hk=>by
   obtain⟨a1,a2,a3,a4⟩:=hq;obtain⟨b1,b2,b3⟩:=hC _ _ _ a1;have:=(b1.x r (.inr rfl)).2;exact⟨hK _ _ _ _ a1 hk.1 λ z hz=>hk.2 z (by omega),a2.trans (fc.kp hk),a3.kp hk,by rw[hk.2 _ (by have:=a2.1;omega)];exact a4⟩)
  (qc8 hs g hL hK hC ih rfl hle hW (toJ _ _ _ _ v8 (by omega) (by omega)) (toJ _ _ _ _ v9 (by omega) (by omega)) (toJ _ _ _ _ v10 (by omega) (by omega)) ⟨hP1,by omega,rfl,by omega,by omega,by omega⟩ ⟨h6,h8,h9,h10,trivial⟩) hI
 have hans:az O 279 ([]++[.func (.yield (H.next+1)) ⟨[]⟩ ⟨[]⟩]++[pV F.next,pV (F.next+1)]) ((H.alloc .defd).alloc (.loop (mS t0 69 [53,54] wz wA H.next))) va C:=by
  show az O 279 _ ((H.alloc .defd).alloc (.loop (gR t0 H.next))) va C;rw[hJ];exact hA
 have hev:ev t0 (.tmp 52)=.ok (.func (.func 279) ⟨[]⟩ ⟨[pV F.next,pV (F.next+1)]⟩):=by simp only[ev,h52]
 have hr2:r2=r1\/J.next<=r2:=hFC.2.1
 have nC:=hFC.1;have mC:C.get H.next=U .defd:=by rw[hFC.2.2 _ (by omega) (by simp only[cG,not_or];exact⟨by omega,by omega,hXlt _ (by omega)⟩) (by omega),jM]
 have hcC:=(hC _ _ _ q1).1;have hrC:=(hcC.x r2 (.inr rfl)).2;have fin:∀N:Mem,N.next=C.next->(∀z,z≠H.next->z≠H.next+1->z≠b8+2->N.get z=C.get z)->Q (j1+iX M s (Z s.arcs)) N r2/\fc X E0 r0 N r2:=λ N hn hf=>by
  refine⟨hK _ _ _ _ q1 (by omega) λ z hz=>hf z (by omega) (by omega) (by omega),by have:=hk0.1;omega,by have:=hk0.1;omega,λ z hz hx hr=>?_⟩;have hk01:=hk0.1;rw[hf z (by omega) (by omega) (by omega),hFC.2.2 z (by omega) (by simp only[cG,not_or];exact⟨by omega,by omega,hx⟩) (by omega),kFJ.2 z (by omega),hF.2.2 z (by omega) hx hr,hk0.2 z hz]
 generalize hKm:C.set (H.next+1) (.loop {(if Z s.arcs<Z s.arcs\/decide (j1+iX M s (Z s.arcs)<Z L)=ae then gR t0 H.next else {gR t0 H.next with state:=.done,pending:=U .ret})with state:=.exhausted})=Km;have nKm:Km.next=C.next:=by rw[<-hKm];exact cU _ _ _
 have fKm:∀z,z≠H.next+1->Km.get z=C.get z:=λ z hz=>by rw[<-hKm,cN,ax hz]
 have mK:Km.get H.next=U .defd:=by rw[fKm _ (by omega)];exact mC
 have vK:VB Km 4 (b8+2) (.var 1) [.bool ag]:=⟨by rw[nKm];exact q3.1,q3.2.same (fKm _ (by omega))⟩;simp only[pV]at h10;by_cases hb:j1+iX M s (Z s.arcs)<Z L
 .rw[aA (.inr (decide_eq_true hb))]at q4 hKm;refine W.Gh (fid:=279) (first:=[]) (capt:=[pV F.next,pV (F.next+1)]) (v:=va) (A':=C) (r:=gR t0 H.next) (e:=.nrm) hev hans q4 (by simp[gR,mS]) (.inl ⟨rfl,rfl⟩) ?_;rw[hKm];obtain⟨qi6,sI,vI,nI,fI⟩:=db (tb:=O) (t:=4) (o:=0) (v:=.bool ae) K5 vK.2 (by simp) rfl rfl;show W O (sub jq [1,1,1,1,1]) _ _;apply W.run 20
  .intro M;simp(disch:=first|decide+kernel|omega)only[jq,nu,Aq,aa,h10,sI];rfl
  obtain⟨N,t1,t2,t3⟩:=y8 [H.next] qi6 (by simp) (λ d hd=>by
   rw[dX]at hd;rw[hd,fI _ (by omega)];exact mK)
  have lN:aj O N.get 4 (pw (b8+2) 0)=.ok (.bool ae):=dg u4 rfl (vI.same (t3 _ (by simp;omega))) rfl;obtain⟨f1,f2⟩:=fin N (by rw[t2,nI,nKm]) (λ z h1 h2 h3=>by rw[t3 z (by simp[h1]),fI z h3,fKm z h2]);show vj _ _ _ _ _ _ _ _;unfold vj;rw[decide_eq_true hb];exact⟨.inr rfl,N,_,t1,(by simp only[nu,Aq,aa,h10,lN]<;>rfl),rfl,r2,f1,f2⟩
 .rw[ax (by simp[hb])]at q4 hKm;refine W.Gh (fid:=279) (first:=[]) (capt:=[pV F.next,pV (F.next+1)]) (v:=va) (A':=C) (r:={gR t0 H.next with state:=.done,pending:=U .ret}) (e:=.ret) hev hans q4 (by simp) (.inr ⟨rfl,rfl⟩) ?_;rw[hKm];obtain⟨N,t1,t2,t3⟩:=y8 [H.next] Km (by simp) (λ d hd=>by
   rw[dX]at hd;rw[hd];exact mK)
  have lN:aj O N.get 4 (pw (b8+2) 0)=.ok (.bool ag):=dg u4 rfl (vK.2.same (t3 _ (by simp;omega))) rfl;obtain⟨f1,f2⟩:=fin N (by rw[t2,nKm]) (λ z h1 h2 h3=>by rw[t3 z (by simp[h1]),fKm z h2]);show vj _ _ _ _ _ _ _ _;unfold vj;rw[decide_eq_false hb];exact⟨.inr rfl,N,_,t1,(by simp only[nu,Aq,aa,h10,lN]<;>rfl),rfl,r2,f1,f2⟩
def qiZ:dj O 4=.ok (.bool ag):=by kernel_rfl
def qdJ{k:I}{l0 p3 p4 p5 p6 P0:Nat}{L:List (List UInt8×Nat)}{Q:Nat->Mem->Nat->Prop}(hS:dA A M y)(g:eM M)(hl:Z M<1000000)(hL:∀x∈L,x.1.length<1000/\x.2<18446744073709551616)
 (hK:∀j D E r,Q j D r->D.next<=E.next->(∀z,(z<P0\/z=r)->E.get z=D.get z)->Q j E r)(hC:∀j D r,Q j D r->Hc A y k l0 p3 p4 p5 p6 X D r/\P0<=D.next/\∀x∈X,x<P0)(hE:He X l0 L Q):
 ∀i,i<Z M->∀w v j D r0,Q j D r0->(∀t x,(ws M i)[t]?=U x->L[j+t]?=U (w++x.1,v+x.2))->
  ∃b E,az O 252 ([.int .i64 i,ai w,pF v]++jt p3 p4 p5 p6) D b E/\b=.bool (decide (j+(ws M i).length<Z L))/\∃r,Q (j+(ws M i).length) E r/\fc X D r0 E r:=by
 intro i
 induction i using xW with
 |ind i IH=>
 intro hi w v j D r0 hQ hW;obtain⟨hc,hPD,hXP⟩:=hC _ _ _ hQ;have hs:M[i]?=U M[i]:=aZ hi;generalize M[i]=s at hs;obtain⟨k1,k2,k3,k4,-⟩:=g i s hs;have ih:∀a∈s.arcs,∀w v j D r0,Q j D r0->(∀t x,(ws M a.to)[t]?=U x->L[j+t]?=U (w++x.1,v+x.2))->
  ∃b E,az O 252 ([.int .i64 a.to,ai w,pF v]++jt p3 p4 p5 p6) D b E/\b=.bool (decide (j+(ws M a.to).length<Z L))/\∃r,Q (j+(ws M a.to).length) E r/\fc X D r0 E r:=λ a ha=>IH a.to (k3 a ha) (Nat.lt_trans (k3 a ha) hi)
 have hws:=rf g hs;have hcnt:iX M s (Z s.arcs)=(s.arcs.flatMap (iz M)).length:=by unfold iX;rw[dU]
 have hpos:=LJ g i hi;have h00:=hW 0 _ (aZ hpos);have hlast:=hW ((ws M i).length-1) _ (aZ (by omega));have hjl:=(bU.1 hlast).1;obtain⟨hw1,-⟩:=hL _ (gJ h00);simp only[aY]at hw1;refine pS (aD Tryz.func252) Xm (by rw[Tryz.ntmps252];simp[jt]) (by kernel_rfl) (by kernel_rfl) ?_;show W O _ _ (vj X L Q D r0 (j+(ws M i).length));generalize hb8:D.next=b8
 have n1:(D.alloc (af 9 [ai w])).next=b8+1:=by rw[aG,hb8]
 have n2:((D.alloc (af 9 [ai w])).alloc (af 280 [.int .u64 v,.bool ae])).next=b8+2:=by rw[aG,n1]
 have n3:(((D.alloc (af 9 [ai w])).alloc (af 280 [.int .u64 v,.bool ae])).alloc (af 4 [.bool ag])).next=b8+3:=by rw[aG,n2]
 have q1:=Kp.alloc D (af 9 [ai w]);have q2:=Kp.alloc (D.alloc (af 9 [ai w])) (af 280 [.int .u64 v,.bool ae]);have q3:=Kp.alloc ((D.alloc (af 9 [ai w])).alloc (af 280 [.int .u64 v,.bool ae])) (af 4 [.bool ag]);have v8:=((aQ D 9 [ai w]).kp q2).kp q3;have v9:=(aQ (D.alloc (af 9 [ai w])) 280 [.int .u64 v,.bool ae]).kp q3;have v10:=aQ ((D.alloc (af 9 [ai w])).alloc (af 280 [.int .u64 v,.bool ae])) 4 [.bool ag];have hk:=q1.trans (q2.trans q3);rw[hb8]at v8;rw[n1]at v9;rw[n2]at v10;apply W.seq;simp only[pF,jt,pV,iP,lL];apply W.run 20
 .intro M;simp(disch:=first|decide+kernel|omega)only[jq,nu,Aq,aa,a7,Cw,Nk,hb8,n1,n2,qiZ];rfl
 show W O _ _ _;generalize ((D.alloc (af 9 [ai w])).alloc (af 280 [.int .u64 v,.bool ae])).alloc (af 4 [.bool ag])=E at hk n3 v8 v9 v10;have l8:aj O E.get 9 (.pointer (U ⟨b8,0,V⟩))=.ok (ai w):=v8.ld rfl u9 rfl;have l3:aj O E.get 9 (.pointer (U ⟨p3,0,V⟩))=.ok (ai []):=(hc.v3.kp hk).ld rfl u9 rfl;have mn:c_ O .min [3,3] [.int .i64 (Z w:Nat),.int .i64 (0:Nat)]=.ok (.int .i64 (0:Nat)):=by rw[Am.yS,Nat.min_zero]
 have sl:iL O 9 (ai []) V (U (.int .i64 (0:Nat))) V=.ok (ai []):=AR u9 (aI 0);have ll1:c_ O .len [9] [ai w]=.ok (.int .i64 (Z w:Nat)):=gB u9;have ll2:c_ O .len [9] [ai []]=.ok (.int .i64 (0:Nat)):=gB u9;obtain⟨g1,hg1⟩:=qeI (A:=E) (a:=w);apply W.ic (g1)
 .intro M hM _;simp(config:={maxSteps:=4000000})(disch:=first|decide+kernel|omega|simp only[Wq,aa])only[jq,nu,Aq,av,reduceIte,aa,ak,l8,l3,ll1,ll2,mn,sl,hg1,Fq,bQ []];rfl
 obtain⟨p,r1,r2,i1,i2,i3,i4⟩:=hS.Zl hs;have hkE:=hc.kp.trans hk;obtain⟨m1,m2⟩:=i4 E hkE;have m3:aj O E.get 112 (.pointer (U ⟨p4,0,V⟩))=.ok y:=(hc.v4.kp hk).ld rfl eg rfl;have hQE:Q j E r0:=hK _ _ _ _ hQ hk.1 λ z hz=>hk.2 z (by have:=(hc.x r0 (.inr rfl)).2;omega)
 have hrr:=hc.x r0 (.inr rfl);have hkp:=hc.kp.1;cases hf:s.fin with
 |false=>
  rw[hf]at m1 hws;rw[ax (by simp),lL]at hws;rw[hws]at hW hjl⊢;rw[<-hcnt]at hjl⊢;apply W.q
  .intro M;simp(config:={maxSteps:=4000000})(disch:=first|decide+kernel|omega|simp only[Wq,aa])only[jq,nu,Aq,av,reduceIte,aa,ak,Fl,m3,i1,i2,m1,Fq,bQ [(13,22),(14,22)]];rfl
  refine T0 (E3:=E) hS hs g hl hL hK hC ih (.inl ?_) (by omega) hW v8 v9 v10 ⟨by omega,by omega,by omega,hb8,by omega⟩ hk hQE (fc.kp (Kp.refl E)) ?_
  .rcases k4 with k4|k4
   .rw[hf]at k4;cases k4
   .exact k4
  .simp only[Sq,aa,ak,pV]
 |true=>
  rw[hf]at m1 hws;rw[aA rfl]at hws;have e0:L[j]?=U (w,v+s.out):=by
   have:=hW 0 ([],s.out) (by rw[hws];rfl);simpa using this
  have hln:j+(ws M i).length=j+1+iX M s (Z s.arcs):=by rw[hws,hcnt,aY,fb];omega
  have hW':∀t x,(s.arcs.flatMap (iz M))[t]?=U x->L[j+1+t]?=U (w++x.1,v+x.2):=λ t x hx=>by
   rw[rk];exact hW (1+t) x (by rw[hws,eV (by simp),fb,Nat.add_sub_cancel_left];exact hx)
  obtain⟨F,r3,⟨gy,hy⟩,hQF,hFF⟩:=hE j w (v+s.out) E r0 e0 hQE;have hv:=(hL _ (gJ e0)).2;have ka:=λ ih A=>FQ (ih:=ih) (A:=A) (n:=v) (m:=s.out) (f:=ae) hv
  have ly:aj O E.get 352 (.pointer (U ⟨p5,0,V⟩))=.ok (.func (.yield l0) ⟨[]⟩ ⟨[]⟩):=by
   obtain⟨d,hd1,hd2⟩:=qh7;exact(hc.v5.kp hk).ld rfl hd1 hd2
  have ls:aj O E.get 280 (.pointer (U ⟨b8+1,0,V⟩))=.ok (.agg ⟨[.int .u64 v,.bool ae]⟩):=by
   obtain⟨d,hd1,hd2⟩:=cF (t:=280) (p:=ae) (by kernel_rfl);exact cg hd1 hd2 (l:=[.int .u64 v,.bool ae]) Gu v9.2
  have sy:=qgh l0;have hrb:r0<b8:=by omega
  have hXlt:∀z,P0<=z->z∉X:=λ z hz h=>by have:=hXP z h;omega
  have w10:VB F 4 (b8+2) (.var 1) [.bool ag]:=⟨by have:=hFF.1;omega,v10.2.same (hFF.2.2 _ (by omega) (hXlt _ (by omega)) (by omega))⟩;simp only[pF]at hy;have hjl:j+(ws M i).length<=Z L:=by omega
  rw[hln]at hjl⊢;by_cases hlt:j+1<Z L
  .rw[decide_eq_true hlt]at hy;apply W.qG (g1+gy)
   .intro M hM;simp(config:={maxSteps:=4000000})(disch:=first|decide+kernel|omega|simp only[Wq,aa])only[jq,nu,Aq,av,reduceIte,aa,ak,Fl,m3,i1,i2,i3,m1,m2,l8,l3,hg1,ly,ls,ka,hy,sy,Fq,bQ [(13,22),(14,22)]];rfl
   refine T0 (E3:=E) hS hs g hl hL hK hC ih ?_ (by omega) hW' v8 v9 v10 ⟨by omega,by omega,by omega,hb8,by omega⟩ hk hQF hFF ?_
   .by_cases ha:s.arcs=[]
    .refine .inr ?_;rw[hcnt,ha];exact hlt
    .exact .inl ha
   .simp only[Sq,aa,ak,pV]
  .rw[decide_eq_false hlt]at hy;obtain⟨qi6,sI,vI,nI,fI⟩:=db (tb:=O) (t:=4) (o:=0) (v:=.bool ag) K5 w10.2 (by simp) rfl rfl;have lI:aj O qi6.get 4 (.pointer (U ⟨b8+2,0,V⟩))=.ok (.bool ag):=dg u4 rfl vI rfl;apply W.seq;apply W.cC (g1+gy) 20
   .intro M hM;simp(config:={maxSteps:=4000000})(disch:=first|decide+kernel|omega|simp only[Wq,aa])only[jq,nu,Aq,av,reduceIte,aa,ak,Fl,m3,i1,i2,i3,m1,m2,l8,l3,hg1,ly,ls,ka,hy,sy,sI,Fq,bQ [(13,22),(14,22)]];rfl
   show vj _ _ _ _ _ _ _ _;have hz:iX M s (Z s.arcs)=0:=by omega
   rw[hz,eo];unfold vj;rw[decide_eq_false hlt];have hkI:=hFF.1;refine⟨.inr rfl,qi6,_,rfl,(by simp only[nu,Aq,aa,lI]<;>rfl),rfl,r3,hK _ _ _ _ hQF (by omega) λ z hz=>fI z ?_,⟨by omega,by have:=hFF.2.1;omega,λ z hz hx hr=>?_⟩⟩
   .have:=(hC _ _ _ hQF).1.x r3 (.inr rfl);have:=hFF.2.1;omega
   .rw[fI z (by omega),hFF.2.2 z (by omega) hx hr,hk.2 z hz]
end Go.Proofs.YtjoceidiioppiaaGreatDoor.sto
namespace Go.Am
variable {tb:aN}
variable {t:T I}{n i:Nat}{A A':Mem}{v:I}
def W.qcM{f:bM}{ps:Array Tmp}{a b:aH}{d:List Nat}{K:Ex->St->Prop}{fid:FuncId}{first capt:List I}{r:jd}
 (hf:ev t f=.ok (.func (.func fid) ⟨first⟩ ⟨capt⟩))
 (hc:az tb fid (first++[.func (.yield (A.next+1)) ⟨[]⟩ ⟨[]⟩]++capt) ((A.alloc .defd).alloc (.loop (mS t n ps.toList a b A.next))) v A')
 (hr:A'.get (A.next+1)=U (.loop r))(hst:r.state=.done)(hp:r.pending=U (.exit i))
 (k:K (.exit i) ⟨t,n,A.next::d,A'.set (A.next+1) (.loop {r with state:=.exhausted}),V⟩):W tb (.rangeFunc f ps a b) ⟨t,n,d,A,V⟩ K:=by
 obtain⟨g,hg⟩:=hc;refine⟨_,_,⟨g+1,λ m=>?_⟩,k⟩;rw[show m+(g+1)=(m+g)+1 by omega,Jg];have h1:=hg (m+g) (by omega);unfold xc;simp only[hf,R.aW];have hn:(A.alloc .defd).next=A.next+1:=aG _ _
 rw[hn];have hcal:∀g':Nat->Option Ob,tw tb g' (.func (.func fid) ⟨first⟩ ⟨capt⟩) [.func (.yield (A.next+1)) ⟨[]⟩ ⟨[]⟩]=.ok (.fn fid (first++[.func (.yield (A.next+1)) ⟨[]⟩ ⟨[]⟩]++capt)):=λ _=>rfl
 rw[hcal,R.aW];unfold mS at h1;rw[h1,R.aW];simp only[hr,hp,hst];rfl
def qc9{l:Nat}{args:List I}{r:jd}{Q:Mem->Prop}(hl:A.get l=U (.loop r))(ht:setArgs r.n r.params args r.tmps=.ok t)
 (h:W tb r.assign ⟨t,r.n,[],A,U l⟩ λ e s1=>e=.nrm/\∃r1,s1.m.get l=U (.loop r1)/\r1.state=.ready/\W tb r.body ⟨s1.t,s1.n,s1.d,s1.m.set l (.loop {r1 with state:=.busy}),s1.ro⟩ λ e s2=>e=.exit i/\s2.d=[]/\∃r2,s2.m.get l=U (.loop r2)/\Q (s2.m.set l (.loop {r2 with state:=.done,pending:=U (.exit i)}))):
 ∃A',(∃g,∀M,g<=M->cE tb (exec tb M) (.round l args) A=.ok (.val (.bool ag) A'))/\Q A':=by
 obtain⟨e,s1,⟨f1,h1⟩,rfl,r1,hr1,hst1,e2,s2,⟨f2,h2⟩,rfl,hd,r2,hr2,hQ⟩:=h;refine⟨_,⟨f1+f2,λ M hM=>?_⟩,hQ⟩;show uV (exec tb M) l args A=_;unfold uV;have e1:=h1 (M-f1);rw[xX (by omega)]at e1;have e2:=h2 (M-f2);rw[xX (by omega)]at e2;simp only[hl,ht,R.aW,e1,hr1,hst1,e2,hd,hr2]
end Go.Am
namespace Go.Proofs.YtjoceidiioppiaaGreatDoor.sto
open Go.Am Go.Mdl Go.Sto
def G7:dj O 61=.ok (.agg ⟨[ai [],wN 0,.bool ag]⟩):=by kernel_rfl
variable {w:List UInt8}
def VL:eu O 61 [(0,ai w),(2,.bool ae)]=.ok (.agg ⟨[ai w,wN 0,.bool ae]⟩):=by kernel_rfl
def VM{n:Int}:eu O 61 [(0,ai w),(1,.int .u32 n)]=.ok (.agg ⟨[ai w,.int .u32 n,.bool ag]⟩):=by kernel_rfl
def Norm(e:aK):Prop:=(e.gone=ae->e.weight=0)/\e.weight<4294967296
variable {A:Mem}{e:aK}
def qeg(h:Norm e):∃A',az O 213 [ai e.word,.int .u64 (val e:Nat)] A (.tuple ⟨[.agg ⟨aX e⟩,.bool ae]⟩) A'/\Kp A A':=by
 obtain⟨w,n,gn⟩:=e;obtain⟨h1,h2⟩:=h;have h2:n<4294967296:=h2;have kB:=Kp.alloc A (af 61 (aX ⟨w,n,gn⟩));have sB:cm O (A.alloc (af 61 [ai [],.int .u32 (0:Nat),.bool ag])) 61 (.pointer (U ⟨A.next,0,V⟩)) (.agg ⟨aX ⟨w,n,gn⟩⟩)=.ok (A.alloc (af 61 (aX ⟨w,n,gn⟩))):=fP oh rfl rfl (by simp) (CA _);have lB:aj O (A.alloc (af 61 (aX ⟨w,n,gn⟩))).get 61 (.pointer (U ⟨A.next,0,V⟩))=.ok (.agg ⟨aX ⟨w,n,gn⟩⟩):=by
  obtain⟨d,hd1,hd2⟩:=cF (t:=61) (p:=ae) (by kernel_rfl);exact cg hd1 hd2 oh (xF A 61 (aX ⟨w,n,gn⟩))
 refine⟨_,?_,kB⟩;cases gn with
 |true=>
  obtain rfl:=h1 rfl;simp only[val,aX]at sB lB⊢;refine cq 60 (aD Tryz.func213) (by kernel_rfl) λ M=>?_
  simp(disch:=first|decide+kernel|omega)only[Tryz.f213,Aq,aa,G7,a7,VL,sB,lB]<;>rfl
 |false=>
  have hn:¬(n+1=0):=by omega
  have s1:a_ .sub .u64 ((n+1:Nat):Int) ((1:Nat):Int)=.ok (.int .u64 (n:Nat)):=eQ (by omega) (fM (by omega));have hle:¬(4294967295<n):=by omega
  have cv:=eX (tb:=O) (s:=113) (d:=59) (k:=.u64) (n:=n) (by rw[dH];rfl) Bc (by unfold di;show aO n 4294967296=ae;rw[bZ];exact h2);simp only[val,aX,dR,bg]at sB lB⊢;refine cq 60 (aD Tryz.func213) (by kernel_rfl) λ M=>?_
  simp(disch:=first|decide+kernel|omega)only[Tryz.f213,Aq,aa,G7,a7,VM,sB,lB,hn,s1,dM,dK,hle,cv]<;>rfl
end Go.Proofs.YtjoceidiioppiaaGreatDoor.sto
namespace Go.Proofs.YtjoceidiioppiaaGreatDoor.sto
open Go.Am Go.Mdl Go.Sto Go.Shelf
variable {A:Mem}{M:List aw}{y:I}
def qfz{k:I}(h:dA A M y)(hM:M≠ [])(hl:Z M<1000000):∃A',az O 254 [.agg ⟨[y,k]⟩] A (iN (Z M-1)) A'/\Kp A A':=by
 have kB:=Kp.alloc A (af 115 [y,k]);have vB:=aQ A 115 [y,k];generalize hB:A.alloc (af 115 [y,k])=B at kB vB;have ly:aj O B.get 112 (pw A.next 0)=.ok y:=vB.ld rfl eg rfl;have cd:=(h.kp kB).len;have hpos:=je.2 hM;have s1:a_ .sub .i64 ((Z M:Nat):Int) ((1:Nat):Int)=.ok (iN (Z M-1)):=eQ (by omega) (ct (by omega));refine⟨B,?_,kB⟩;refine cq 60 (aD Tryz.func254) (by kernel_rfl) λ M=>?_
 simp(disch:=first|decide+kernel|omega)only[Tryz.f254,Aq,aa,a7,hB,Fl,ly,cd,s1]<;>rfl
def XZ:Value.nilFunc.cells.toList=[.nilFunc]:=rfl
def qiV:dj O 353=.ok .nilFunc:=by kernel_rfl
def qf8:bk O 353=.ok 1:=by kernel_rfl
def VK{x:Int}{f:Bool}:eu O 280 [(0,.int .u64 x),(1,.bool f)]=.ok (.agg ⟨[.int .u64 x,.bool f]⟩):=by kernel_rfl
def sr(M:List aw)(k:Nat):List (List UInt8×Nat):=(ws M (Z M-1)).map λ x=>(x.1,k+x.2)
def wv:=cu BT
def Xl:BT.body=U (.seq (sub wv [0]) (.seq (sub wv [1,0]) (.seq (sub wv [1,1,0]) (.seq (sub wv [1,1,1,0]) (sub wv [1,1,1,1]))))):=by kernel_rfl
variable {k:Nat}{X:List Nat}
def qfX{J:Mem}{lp p3 p4 r0:Nat}{Q:Nat->Mem->Nat->Prop}(hS:dA A M y)(g:eM M)(hM:M≠ [])(hl:Z M<1000000)(hL:∀x∈sr M k,x.1.length<1000/\x.2<18446744073709551616)
 (hK:∀j D E r,Q j D r->D.next<=E.next->(∀z,(z<J.next\/z=r)->E.get z=D.get z)->Q j E r)(hR:∀j D r,Q j D r->r<D.next)(hE:He X lp (sr M k) Q)(hJ:Kp A J)(hX:∀x,(x∈X\/x=r0)->A.next<=x/\x<J.next/\x≠p3/\x≠p4)
 (v3:VB J 9 p3 (.var 1) [ai []])(v4:VB J 115 p4 (.var 2) [y,.int .u64 k])(hI:Q 0 J r0):
 ∃v E,az O 251 [.func (.yield lp) ⟨[]⟩ ⟨[]⟩,pV p3,pV p4] J v E/\∃r,Q (sr M k).length E r/\fc X J r0 E r:=by
 generalize hb:J.next=b5
 have hpos:=je.2 hM;have k1:=Kp.alloc J (af 352 [.func (.yield lp) ⟨[]⟩ ⟨[]⟩]);have n1:(J.alloc (af 352 [.func (.yield lp) ⟨[]⟩ ⟨[]⟩])).next=b5+1:=by rw[aG,hb]
 have w5:=aQ J 352 [.func (.yield lp) ⟨[]⟩ ⟨[]⟩];rw[hb]at w5;generalize hB1:J.alloc (af 352 [.func (.yield lp) ⟨[]⟩ ⟨[]⟩])=B1 at k1 n1 w5;have k2:=Kp.alloc B1 (af 353 [.func (.func 252) ⟨[]⟩ ⟨jt p3 p4 b5 (b5+1)⟩]);have n2:(B1.alloc (af 353 [.func (.func 252) ⟨[]⟩ ⟨jt p3 p4 b5 (b5+1)⟩])).next=b5+2:=by rw[aG,n1]
 have w6:=aQ B1 353 [.func (.func 252) ⟨[]⟩ ⟨jt p3 p4 b5 (b5+1)⟩];have s6:cm O (B1.alloc (af 353 [.nilFunc])) 353 (pw B1.next 0) (.func (.func 252) ⟨[]⟩ ⟨jt p3 p4 b5 (b5+1)⟩)=.ok (B1.alloc (af 353 [.func (.func 252) ⟨[]⟩ ⟨jt p3 p4 b5 (b5+1)⟩])):=fP qf8 rfl rfl (by simp) (by simp[bS]);rw[n1]at w6 s6;generalize B1.alloc (af 353 [.func (.func 252) ⟨[]⟩ ⟨jt p3 p4 b5 (b5+1)⟩])=B at k2 n2 w6 s6;have kJB:=k1.trans k2;have V5:=w5.kp k2;have hSB:=hS.kp (hJ.trans kJB);obtain⟨d,hd1,hd2⟩:=GM;have l4:aj O B.get 115 (pw p4 0)=.ok (.agg ⟨[y,.int .u64 k]⟩):=cg hd1 hd2 (l:=[y,.int .u64 k]) gF (v4.kp kJB).2;obtain⟨C,⟨gr,hgr⟩,kC⟩:=qfz hSB hM hl (k:=.int .u64 k);have kJC:=kJB.trans kC;have l6:aj O C.get 353 (pw (b5+1) 0)=.ok (.func (.func 252) ⟨[]⟩ ⟨jt p3 p4 b5 (b5+1)⟩):=by
  obtain⟨d,hd1,hd2⟩:=Uf;exact(w6.kp kC).ld rfl hd1 hd2
 have l7:aj O C.get 113 (pw p4 (0+1))=.ok (.int .u64 k):=(v4.kp kJC).ld rfl dH rfl;have hr0:=hX r0 (.inr rfl);have hAJ:=hJ.1;have nC:=kC.1;have hQC:Q 0 C r0:=hK _ _ _ _ hI kJC.1 λ z hz=>kJC.2 z (by omega)
 obtain⟨vb,E,⟨gb,hgb⟩,rfl,r,hQE,hFE⟩:=qdJ (A:=A) (M:=M) (y:=y) (k:=.int .u64 k) (l0:=lp) (p3:=p3) (p4:=p4) (p5:=b5) (p6:=b5+1) (P0:=C.next) (X:=X) (L:=sr M k)
  (Q:=λ j D r=>Q j D r/\fc X C r0 D r) hS g hl hL
  (λ j D E r hq hn hz=>⟨hK _ _ _ _ hq.1 hn λ z hz'=>hz z (by have:=kJC.1;omega),⟨by have:=hq.2.1;omega,hq.2.2.1,λ z hz' hx hr=>by rw[hz z (.inl hz'),hq.2.2.2 z hz' hx hr]⟩⟩)
  (λ j D r hq=>by
   obtain⟨hq,hf⟩:=hq;have hrD:=hR _ _ _ hq;have hfn:=hf.1;have hfr:r=r0\/C.next<=r:=hf.2.1
   have kp:∀e z kk l,VB C e z kk l->z∉X->z≠r0->VB D e z kk l:=λ e z kk l h h1 h2=>⟨by have:=h.1;omega,h.2.same (hf.2.2 z h.1 h1 h2)⟩
   refine⟨⟨⟨by have:=kJC.1;omega,λ z hz=>by rw[hf.2.2 z (by have:=kJC.1;omega) (λ hx=>by have:=(hX z (.inl hx)).1;omega) (by omega),kJC.2 z (by omega),hJ.2 z hz]⟩,
    kp _ _ _ _ (v3.kp kJC) (λ hx=>(hX _ (.inl hx)).2.2.1 rfl) (λ e=>hr0.2.2.1 e.symm),kp _ _ _ _ (v4.kp kJC) (λ hx=>(hX _ (.inl hx)).2.2.2 rfl) (λ e=>hr0.2.2.2 e.symm),
    kp _ _ _ _ (V5.kp kC) (λ hx=>by have:=(hX _ (.inl hx)).2.1;omega) (by omega),kp _ _ _ _ (w6.kp kC) (λ hx=>by have:=(hX _ (.inl hx)).2.1;omega) (by omega),λ x hx=>?_⟩,hfn,λ x hx=>by have:=(hX x (.inl hx)).2.1;have:=kJC.1;omega⟩
   rcases hx with hx|rfl
   .have:=hX x (.inl hx);have:=kJC.1;omega
   .have:=kJC.1;omega)
  (λ j w v D r hj hq=>by
   obtain⟨E,r',h1,h2,h3⟩:=hE j w v D r hj hq.1;exact⟨E,r',h1,⟨h2,hq.2.trans h3⟩,h3⟩)
  (Z M-1) (by omega) [] k 0 C r0 ⟨hQC,fc.kp (Kp.refl C)⟩ (λ t x hx=>by
   rw[ep];unfold sr;rw[dN,hx];rfl)
 have hlen:(sr M k).length=(ws M (Z M-1)).length:=by unfold sr;rw[bc]
 rw[ep]at hQE;rw[<-hlen]at hQE;refine cZ (aD Tryz.func251) Xl (by kernel_rfl) ?_;simp only[jt,pV,pF,iP,lL]at hgb s6 l6⊢;apply W.q2
 .intro M _;simp(disch:=first|decide+kernel|omega)only[wv,BT,Aq,aa,yC,hB1,qiV,XZ,n1];rfl
 apply W.ic (gr)
 .intro M hM _;simp(disch:=first|decide+kernel|omega)only[wv,BT,Aq,aa,yC,hb,n1,s6,l4,hgr];rfl
 apply W.cC (gb) 20
 .intro M hM;simp(disch:=first|decide+kernel|omega)only[wv,BT,Aq,aa,a8,decide_true,bB,l6,l7,Fm,VK,hgb];rfl
 exact⟨by simp,rfl,_,(by simp only[BT,Aq,aa]<;>rfl),r,hQE.1,(fc.kp kJC).trans hFE⟩
def SW:bk O 28=.ok 1:=by kernel_rfl
def qiH:dj O 28=.ok (.slice V 0 0):=by kernel_rfl
def UG:dj O 280=.ok (.agg ⟨[uN 0,.bool ag]⟩):=by kernel_rfl
variable {b:Nat}
def Og:bK O 280 (pw b 0) 0=.ok (pw b 0):=by kernel_rfl
def mF:=cu s9
def yA:aH:=sub mF [1,1,0,1,0,0]
def yB:aH:=sub mF [1,1,0,1,0,1]
def WM:s9.body=U (.seq (sub mF [0]) (.seq (sub mF [1,0]) (.seq (.seq (sub mF [1,1,0,0]) (.block 0 (.rangeFunc (.tmp 15) #[16,17] yA yB))) (.seq (sub mF [1,1,1,0]) (sub mF [1,1,1,1]))))):=by kernel_rfl
def iI(t:T I)(d:Nat):jd:=mS t 37 [16,17] yA yB d
def QF(es:List aK)(t:T I)(mk a:Nat)(j:Nat)(D:Mem)(r:Nat):Prop:=
 (r=a\/mk+2<=r)/\r<D.next/\mk+2<=D.next/\VB D 3 (a+1) (.var 1) [iN (Z es)]/\(∃x,VB D 28 (a+2) (.var 1) [x]/\aq D 61 3 r ((es.take j).map aX) x)/\
  D.get (mk+1)=U (.loop (if j<Z es then iI t mk else {iI t mk with state:=.done,pending:=U (.exit 0)}))
variable {t:T I}{mk n:Nat}
def QF.gP{es:List aK}{a:Nat}(hn:n<=mk+2)(ha:a+2<mk)(hmk:mk+1<n):∀j D E r,QF es t mk a j D r->D.next<=E.next->(∀z,(z<n\/z=r)->E.get z=D.get z)->QF es t mk a j E r:=by
 rintro j D E r ⟨h1,h2,h3,h4,⟨x,h5,h6⟩,h7⟩ hl hz;exact⟨h1,by omega,by omega,⟨by have:=h4.1;omega,h4.2.same (hz _ (by omega))⟩,⟨x,⟨by have:=h5.1;omega,h5.2.same (hz _ (by omega))⟩,h6.same hl λ _=>hz _ (.inr rfl)⟩,by rw[hz _ (by omega)];exact h7⟩
def Yr{es:List aK}{a:Nat}{L:List (List UInt8×Nat)}(hL:L=es.map λ e=>(e.word,val e))(hN:∀e∈es,Norm e)(hn:Z es<1000000)(ha:a+2<mk)(hs:Sl t [(5,pV (a+1)),(6,pV (a+2))]):He [a+2,mk+1] (mk+1) L (QF es t mk a):=by
 subst hL;rintro j w v D r hj ⟨hr,hrD,hm,v5,⟨x,v6,hS⟩,hlp⟩;obtain⟨g5,g6,-⟩:=hs;rw[dN]at hj;cases hej:es[j]? with
 |none=>rw[hej]at hj;cases hj
 |some e=>
 rw[hej]at hj;simp only[gX,fg,bH]at hj;obtain⟨rfl,rfl⟩:=hj;obtain⟨hjl,hje⟩:=bU.1 hej;have hNe:=hN e (gJ hej);have hv:val e<=4294967296:=by
  have:=hNe.2;unfold val;split<;>omega
 rw[aA hjl]at hlp;rw[bc];have kE:=Kp.alloc D (af 280 [.int .u64 (val e:Nat),.bool ae]);have vE:=aQ D 280 [.int .u64 (val e:Nat),.bool ae];have nE:=aG D (af 280 [.int .u64 (val e:Nat),.bool ae]);have sE:cm O (D.alloc (af 280 [.int .u64 (0:Nat),.bool ag])) 280 (.pointer (U ⟨D.next,0,V⟩)) (pF (val e))=.ok (D.alloc (af 280 [.int .u64 (val e:Nat),.bool ae])):=fP Gu rfl rfl (by simp) (by simp[bS]);generalize D.alloc (af 280 [.int .u64 (val e:Nat),.bool ae])=E at kE vE nE sE;have hLE:E.get (mk+1)=U (.loop (iI t mk)):=by rw[kE.2 _ (by omega)];exact hlp
 generalize hF1:E.set (mk+1) (.loop {iI t mk with state:=.busy})=F;have nF:F.next=E.next:=by rw[<-hF1];exact cU _ _ _
 have fF:∀z,z≠mk+1->F.get z=E.get z:=λ z hz=>by rw[<-hF1,cN,ax hz]
 have hLF:F.get (mk+1)=U (.loop {iI t mk with state:=.busy}):=by rw[<-hF1,cN,aA rfl]
 have vF:VB F 280 D.next (.var 2) [.int .u64 (val e:Nat),.bool ae]:=⟨by omega,vE.2.same (fF _ (by omega))⟩
 obtain⟨d,hd1,hd2⟩:=cF (by kernel_rfl);have l8:=cg hd1 hd2 Gu vF.2;have l8':=vF.l0 dH rfl;have ks:=λ ih A=>PQ (ih:=ih) (A:=A) (n:=val e) (f:=ae)
 rw[decide_eq_true hv]at ks;simp only[sK]at ks;obtain⟨G,⟨go,hgo⟩,kG⟩:=qeg (A:=F) hNe;have nG:=kG.1;have kH:=Kp.alloc G (af 61 (aX e));have nH:=aG G (af 61 (aX e));have sH:cm O (G.alloc (af 61 [ai [],.int .u32 (0:Nat),.bool ag])) 61 (.pointer (U ⟨G.next,0,V⟩)) (.agg ⟨aX e⟩)=.ok (G.alloc (af 61 (aX e))):=fP oh rfl rfl (by simp) (CA _);have lH:aj O (G.alloc (af 61 (aX e))).get 61 (.pointer (U ⟨G.next,0,V⟩))=.ok (.agg ⟨aX e⟩):=by
  obtain⟨d,hd1,hd2⟩:=cF (p:=ae) (by kernel_rfl);exact cg hd1 hd2 oh (xF G 61 (aX e))
 generalize G.alloc (af 61 (aX e))=H at kH nH sH lH;have fH:∀z,z<D.next->z≠mk+1->H.get z=D.get z:=λ z hz h=>by rw[kH.2 z (by omega),kG.2 z (by omega),fF z h,kE.2 z hz]
 have hSH:=hS.same (by omega) λ h=>fH r h (by omega)
 have l6:aj O H.get 28 (.pointer (U ⟨a+2,0,V⟩))=.ok x:=dg xD rfl (v6.2.same (fH _ v6.1 (by omega))) rfl;obtain⟨x',qi6,happ,hSI,nI,fI⟩:=Er hSH (by rw[df];omega);have happ':=happ;have et:es.take j++[e]=es.take (j+1):=by rw[d_ hjl,hje]
 rw[et]at hSI;have hdn:=v6.1;have v6I:=v6.2.same (by rw[fI _ (by omega) (by omega),fH _ v6.1 (by omega)]);obtain⟨xc1,xc2⟩:=aq.dQ hSI;obtain⟨N,sN,vN,nN,fN⟩:=db (tb:=O) (t:=28) (o:=0) (v:=x') SW v6I (by simp) xc1 xc2;have hSN:=hSI.same (by omega) λ _=>fN _ (by omega)
 have l6':aj O N.get 28 (.pointer (U ⟨a+2,0,V⟩))=.ok x':=dg xD rfl vN rfl;have hlenN:=(show dz N (es.take (j+1)) x' from⟨_,hSN⟩).len;rw[df,nf (by omega)]at hlenN;have fND:∀z,z<D.next->z≠mk+1->z≠a+2->z≠r->N.get z=D.get z:=λ z hz h1 h2 h3=>by rw[fN z h2,fI z h3 (by omega),fH z hz h1]
 have v5N:VB N 3 (a+1) (.var 1) [.int .i64 (Z es)]:=⟨by have:=v5.1;omega,v5.2.same (fND _ v5.1 (by omega) (by omega) (by omega))⟩;have l5:=v5N.l0 u3 rfl;have hlN:N.get (mk+1)=U (.loop {iI t mk with state:=.busy}):=by rw[fN _ (by omega),fI _ (by omega) (by omega),kH.2 _ (by omega),kG.2 _ (by omega)];exact hLF
 simp only[pV]at g5 g6;have fin:∀qi5:Mem,qi5.next=N.next->(∀z,z≠mk+1->qi5.get z=N.get z)->qi5.get (mk+1)=U (.loop (if j+1<Z es then iI t mk else {iI t mk with state:=.done,pending:=U (.exit 0)}))->
  QF es t mk a (j+1) qi5 (H.next+1)/\fc [a+2,mk+1] D r qi5 (H.next+1):=λ qi5 hn hf hl=>by
  refine⟨⟨.inr (by omega),by omega,by omega,⟨by have:=v5N.1;omega,v5N.2.same (hf _ (by omega))⟩,⟨x',⟨by omega,dp.same vN (hf _ (by omega))⟩,hSN.same (by omega) λ _=>hf _ (by omega)⟩,hl⟩,by omega,.inr (by omega),λ z hz hx hr'=>?_⟩;simp only[cG,eC,or_false,not_or]at hx;rw[hf z hx.2,fND z hz hx.2 hx.1 hr']
 by_cases hlt:j+1<Z es
 .have hne:¬(j+1=Z es):=by omega
  rw[decide_eq_true hlt];have hq:∃C,(∃g,∀N,g<=N->cE O (exec O N) (.round (mk+1) [ai e.word,pF (val e)]) D=.ok (.val (.bool ae) C))/\C=N.set (mk+1) (.loop (iI t mk)):=by
   refine Dj hlp (t:=(t.set 16 (ai e.word)).set 17 (pF (val e))) rfl ?_;show W O yA ⟨_,37,[],D,U (mk+1)⟩ _;apply W.run 20
   .intro M;simp(disch:=first|decide+kernel|omega)only[yA,mF,s9,Aq,aa,UG,a7,sE];rfl
   refine⟨rfl,_,hLE,rfl,?_⟩;show W O yB ⟨_,37,[],E.set (mk+1) (.loop {iI t mk with state:=.busy}),U (mk+1)⟩ _;rw[hF1];apply W.cC (go) 20
   .intro M hM;simp(config:={maxSteps:=4000000})(disch:=first|decide+kernel|omega|simp only[Wq,aa])only[yB,mF,s9,Aq,av,reduceIte,aa,ak,g5,g6,l8,l8',Og,ks,hgo,c7,dc,G7,a7,sH,l6,lH,yu,happ',sN,l6',hlenN,l5,hne,Fq,bQ []];rfl
   exact⟨rfl,rfl,_,hlN,rfl⟩
  obtain⟨C,hc,rfl⟩:=hq;have:=fin (N.set (mk+1) (.loop (iI t mk))) (cU _ _ _) (λ z h=>by rw[cN,ax h]) (by rw[cN,aA rfl,aA hlt]);exact⟨_,_,hc,this.1,this.2⟩
 .have heq:j+1=Z es:=by omega
  rw[decide_eq_false hlt];have hq:∃C,(∃g,∀N,g<=N->cE O (exec O N) (.round (mk+1) [ai e.word,pF (val e)]) D=.ok (.val (.bool ag) C))/\C=N.set (mk+1) (.loop {iI t mk with state:=.done,pending:=U (.exit 0)}):=by
   refine qc9 (i:=0) hlp (t:=(t.set 16 (ai e.word)).set 17 (pF (val e))) rfl ?_;show W O yA ⟨_,37,[],D,U (mk+1)⟩ _;apply W.run 20
   .intro M;simp(disch:=first|decide+kernel|omega)only[yA,mF,s9,Aq,aa,UG,a7,sE];rfl
   refine⟨rfl,_,hLE,rfl,?_⟩;show W O yB ⟨_,37,[],E.set (mk+1) (.loop {iI t mk with state:=.busy}),U (mk+1)⟩ _;rw[hF1];apply W.cC (go) 20
   .intro M hM;simp(disch:=first|decide+kernel|omega|simp only[Wq,aa])only[yB,mF,s9,Aq,av,reduceIte,aa,ak,g5,g6,l8,l8',Og,ks,hgo,c7,dc,G7,a7,sH,l6,lH,yu,happ',sN,l6',hlenN,l5,heq,show aL 0 1=ag from rfl,Fq,bQ []];rfl
   exact⟨rfl,rfl,_,hlN,rfl⟩
  obtain⟨C,hc,rfl⟩:=hq;have:=fin (N.set (mk+1) (.loop {iI t mk with state:=.done,pending:=U (.exit 0)})) (cU _ _ _) (λ z h=>by rw[cN,ax h]) (by rw[cN,aA rfl,ax hlt]);exact⟨_,_,hc,this.1,this.2⟩
def qfW{k:I}:az O 212 [.agg ⟨[y,k]⟩,ai []] A (.func (.func 251) ⟨[]⟩ ⟨[pV (A.next+1),pV A.next]⟩) ((A.alloc (af 115 [y,k])).alloc (af 9 [ai []])):=by
 have e:=aG A (af 115 [y,k]);simp only[pV];refine cq 60 (aD Tryz.func212) (by kernel_rfl) λ M=>?_
 simp(disch:=omega)only[Tryz.f212,Aq,aa,a7,Cw,e,Ac,ki]<;>rfl
def qev{es:List aK}(hS:dA A M y)(g:eM M)(hM:M≠ [])(hl:Z M<1000000)(hL:sr M k=es.map λ e=>(e.word,val e))(hw:∀e∈es,Z e.word<1000/\Norm e)(h0:es≠ [])(hn:Z es<1000000):
 ∃v A',az O 165 [.agg ⟨[y,.int .u64 k]⟩,ai [],iN (Z es)] A v A'/\dz A' es v/\Kp A A':=by
 refine pS (aD Tryz.func165) WM (by rw[Tryz.ntmps165];simp) (by kernel_rfl) (by kernel_rfl) ?_;generalize ha:A.next=a
 have n1:(A.alloc (af 115 [y,.int .u64 k])).next=a+1:=by rw[aG,ha]
 have n2:((A.alloc (af 115 [y,.int .u64 k])).alloc (af 3 [iN (Z es)])).next=a+2:=by rw[aG,n1]
 have n3:(((A.alloc (af 115 [y,.int .u64 k])).alloc (af 3 [iN (Z es)])).alloc (af 28 [.slice V 0 0])).next=a+3:=by rw[aG,n2]
 have q1:=Kp.alloc A (af 115 [y,.int .u64 k]);have q2:=Kp.alloc (A.alloc (af 115 [y,.int .u64 k])) (af 3 [iN (Z es)]);have q3:=Kp.alloc ((A.alloc (af 115 [y,.int .u64 k])).alloc (af 3 [iN (Z es)])) (af 28 [.slice V 0 0]);have w3:=((aQ A 115 [y,.int .u64 k]).kp q2).kp q3;have w5:=(aQ (A.alloc (af 115 [y,.int .u64 k])) 3 [iN (Z es)]).kp q3;have w6:=aQ ((A.alloc (af 115 [y,.int .u64 k])).alloc (af 3 [iN (Z es)])) 28 [.slice V 0 0];have hk:=q1.trans (q2.trans q3);rw[ha]at w3;rw[n1]at w5;rw[n2]at w6;have hpos:=je.2 h0;have hlt1:¬(Z es<1):=by omega
 apply W.q
 .intro M;simp(disch:=omega)only[mF,s9,Aq,aa,a7,uC,Nl,ha,n1,n2,qiH];rfl
 generalize ((A.alloc (af 115 [y,.int .u64 k])).alloc (af 3 [iN (Z es)])).alloc (af 28 [.slice V 0 0])=B at hk n3 w3 w5 w6;have l5:=w5.l0 u3 rfl;apply W.q
 .intro M;simp(disch:=decide+kernel)only[mF,s9,Aq,aa,l5,hlt1];rfl
 obtain⟨d,hd1,hd2⟩:=GM;have l3:=cg hd1 hd2 (l:=[y,.int .u64 k]) gF w3.2;obtain⟨gw,hgw⟩:=qfW;have m1:(B.alloc (af 115 [y,.int .u64 k])).next=a+4:=by rw[aG,n3]
 have m2:((B.alloc (af 115 [y,.int .u64 k])).alloc (af 9 [ai []])).next=a+5:=by rw[aG,m1]
 have x4:=(aQ B 115 [y,.int .u64 k]).kp (Kp.alloc _ (af 9 [ai []]));have x3:=aQ (B.alloc (af 115 [y,.int .u64 k])) 9 [ai []];have kC:=(Kp.alloc B (af 115 [y,.int .u64 k])).trans (Kp.alloc _ (af 9 [ai []]));rw[n3]at x4 hgw;rw[m1]at x3;generalize (B.alloc (af 115 [y,.int .u64 k])).alloc (af 9 [ai []])=C at hgw m2 x3 x4 kC;simp only[pV]at hgw;apply W.seq;apply W.qG (gw)
 .intro M hM;simp(disch:=omega)only[mF,s9,Aq,aa,l3,hgw];rfl
 apply W.block;generalize ht0:T.set _ _ _=t0;have hsl:Sl t0 [(5,pV (a+1)),(6,pV (a+2)),(15,.func (.func 251) ⟨[]⟩ ⟨[pV (a+4),pV (a+3)]⟩)]:=by
  rw[<-ht0];simp only[Sq,aa,ak,pV]
 clear ht0;obtain⟨h5,h6,h15,-⟩:=hsl;have nC:=m2;have kJ:=(Kp.alloc C .defd).trans (Kp.alloc (C.alloc .defd) (.loop (iI t0 C.next)));have nJ1:=aG C .defd;have nJ:((C.alloc .defd).alloc (.loop (iI t0 C.next))).next=C.next+2:=by rw[aG,nJ1]
 have jL:((C.alloc .defd).alloc (.loop (iI t0 C.next))).get (C.next+1)=U (.loop (iI t0 C.next)):=by have:=de (C.alloc .defd) (.loop (iI t0 C.next));rwa[nJ1]at this
 have jM:((C.alloc .defd).alloc (.loop (iI t0 C.next))).get C.next=U .defd:=by rw[(Kp.alloc (C.alloc .defd) _).2 _ (by omega)];exact de C .defd
 generalize hJ:(C.alloc .defd).alloc (.loop (iI t0 C.next))=J at kJ nJ jL jM;have kBJ:=kC.trans kJ;have kAJ:=hk.trans kBJ;have hI:QF es t0 C.next a 0 J a:=⟨.inl rfl,by omega,by omega,w5.kp kBJ,⟨_,w6.kp kBJ,.inl ⟨rfl,rfl⟩⟩,by rw[aA hpos];exact jL⟩
 obtain⟨va,E,hA,r,hQE,hFE⟩:=qfX hS g hM hl (by
  rw[hL];intro x hx;obtain⟨e,he,rfl⟩:=eH.1 hx;have:=(hw e he).2.2;refine⟨(hw e he).1,?_⟩;unfold val;split<;>omega)
  (QF.gP (by omega) (by omega) (by omega)) (λ j D r h=>h.2.1) (Yr hL (λ e he=>(hw e he).2) hn (by omega) ⟨h5,h6,trivial⟩) kAJ
  (λ x hx=>by
   simp only[cG,eC,or_false]at hx;omega)
  (x3.kp kJ) (x4.kp kJ) hI
 have hlen:(sr M k).length=Z es:=by rw[hL,bc]
 rw[hlen]at hQE;obtain⟨e1,e2,e3,e4,⟨x,e5,e6⟩,e7⟩:=hQE;rw[ax (t_ _)]at e7;rw[dU]at e6;have hans:az O 251 ([]++[.func (.yield (C.next+1)) ⟨[]⟩ ⟨[]⟩]++[pV (a+4),pV (a+3)]) ((C.alloc .defd).alloc (.loop (mS t0 37 [16,17] yA yB C.next))) va E:=by
  show az O 251 _ ((C.alloc .defd).alloc (.loop (iI t0 C.next))) va E;rw[hJ];exact hA
 have hev:ev t0 (.tmp 15)=.ok (.func (.func 251) ⟨[]⟩ ⟨[pV (a+4),pV (a+3)]⟩):=by simp only[ev,h15]
 refine W.qcM (A':=E) (r:={iI t0 C.next with state:=.done,pending:=U (.exit 0)}) (i:=0) hev hans e7 rfl rfl ?_;generalize hK:E.set (C.next+1) (.loop {({iI t0 C.next with state:=.done,pending:=U (.exit 0)}:jd)with state:=.exhausted})=K;have nK:K.next=E.next:=by rw[<-hK];exact cU _ _ _
 have fK:∀z,z≠C.next+1->K.get z=E.get z:=λ z hz=>by rw[<-hK,cN,ax hz]
 have nE:=hFE.1;have w6K:=e5.2.same (fK _ (by omega));have l6:aj O K.get 28 (pw (a+2) 0)=.ok x:=dg xD rfl w6K rfl;obtain⟨xc1,xc2⟩:=aq.dQ e6;obtain⟨N,sN,vN,nN,fN⟩:=db (tb:=O) (t:=28) (o:=0) (v:=x) SW w6K (by simp) xc1 xc2;simp only[pV]at h6;apply W.run 40
 .intro M;simp(disch:=omega)only[mF,s9,Aq,aa,h6,l6,sN];rfl
 have mE:E.get C.next=U .defd:=by rw[hFE.2.2 _ (by omega) (by simp;omega) (by omega),jM]
 obtain⟨qi5,t1,t2,t3⟩:=y8 [C.next] N (by simp) (λ d hd=>by
  rw[dX]at hd;rw[hd,fN _ (by omega),fK _ (by omega)];exact mE)
 have lO:aj O qi5.get 28 (pw (a+2) 0)=.ok x:=dg xD rfl (vN.same (t3 _ (by simp;omega))) rfl;have hrx:=e1;have hO:dz qi5 es x:=⟨r,e6.same (by omega) λ h=>by rw[t3 _ (by simp;omega),fN _ (by omega),fK _ (by omega)]⟩;have kO:Kp A qi5:=⟨by omega,λ z hz=>by rw[t3 _ (by simp;omega),fN _ (by omega),fK _ (by omega),hFE.2.2 z (by omega) (by simp;omega) (by omega),kAJ.2 z (by omega)]⟩;exact⟨.inr rfl,qi5,[x],t1,(by simp only[s9,Aq,aa,h6,lO]<;>rfl),hO,kO⟩
variable {e:aK}
def qbS(h:e.weight<4294967296):Norm (bare e):=by
 unfold bare Norm;cases hg:e.gone
 .simp[hg,h]
 .simp
def Yl{l:List aK}(h:mo l):sr (dx l) (least l)=l.map λ e=>(e.word,val e):=by
 unfold sr;rw[(K8 h).words,xR];refine List.map_congr_left λ e he=>?_
 have:=least_le he;simp only[Function.comp,D,DX];congr 1;omega
def YR:bK O 148 (pw b 0) 0=.ok (pw b 0):=by kernel_rfl
def YS:bK O 150 (pw b 0) 0=.ok (pw b 0):=by kernel_rfl
def qf5:bk O 148=.ok 2:=by kernel_rfl
variable {v:I}
def qdD{l:List aK}(h:sW A l v)(hl:mo l)(hN:∀e∈l,Norm e):∃x A',az O 14 [v] A x A'/\dz A' l x/\Kp A A':=by
 obtain⟨g1,hg1⟩:=SJ h;obtain⟨p,y,rfl,h1,h2⟩:=h;have so:=K8 hl;obtain⟨q0,-,qw,ql,-⟩:=id hl;have r1:aj O A.get 148 (pw p 0)=.ok (.agg ⟨[y,uN (least l)]⟩):=by
  obtain⟨d,hd1,hd2⟩:=cF (t:=148) (p:=ae) (by kernel_rfl);obtain⟨c,e1,e2⟩:=h1.2;have hg:c.hZ 2 0=U [y,uN (least l)]:=px _ _ _ _ rfl λ j hj=>by
   have:j=0\/j=1:=by omega
   rcases this with rfl|rfl
   .exact e2 0 (by simp[yZ])
   .exact e2 1 (by simp[yZ])
  unfold aj;simp only[e1,hd1,hd2,aJ,qf5,R.aW,hg]
 have kB:=Kp.alloc A (af 148 [y,uN (least l)]);have vB:=aQ A 148 [y,uN (least l)];generalize hB:A.alloc (af 148 [y,uN (least l)])=B at kB vB;have l5:aj O B.get 115 (pw A.next 0)=.ok (.agg ⟨[y,uN (least l)]⟩):=by
  obtain⟨d,hd1,hd2⟩:=GM;exact cg hd1 hd2 (l:=[y,uN (least l)]) gF vB.2
 obtain⟨x,C,⟨g2,hg2⟩,hC,kC⟩:=qev (A:=B) (k:=least l) (es:=l) (h2.kp kB) so.good.1 so.ne (by have:=so.len;omega) (Yl hl) (λ e he=>⟨by have:=(qw e he).2.1;omega,hN e he⟩) q0 (by omega);have a82:az O 105 [.agg ⟨[y,uN (least l)]⟩,ai [],iN (Z l)] A x C:=by
  refine bX (g2) 60 (aD Tryz.func105) (by kernel_rfl) λ M hM=>?_
  simp(disch:=first|decide+kernel|omega)only[Tryz.f105,Aq,aa,a7,hB,YR,l5,hg2,wO]<;>rfl
 obtain⟨g3,hg3⟩:=a82;have a39:az O 51 [pV p,ai [],iN (Z l)] A x C:=by
  simp only[pV];refine bX (g3) 60 (aD Tryz.func51) (by kernel_rfl) λ M hM=>?_
  simp(disch:=first|decide+kernel|omega)only[Tryz.f51,Aq,aa,fm,NS,bA,br,YS,r1,hg3,wO]<;>rfl
 obtain⟨g4,hg4⟩:=a39;refine⟨x,C,?_,hC,kB.trans kC⟩;simp only[pV]at hg1 hg4⊢;refine bX (g1+g4) 60 (aD Tryz.func14) (by kernel_rfl) λ M hM=>?_
 simp(disch:=first|decide+kernel|omega)only[Tryz.f14,Aq,aa,hg1,hg4,wO]<;>rfl
def qgx:fieldsOf (O.aB 61)=[(ag,9,0),(ag,59,1),(ag,4,2)]:=by kernel_rfl
def qbI{g:Nat->Option Ob}{x y:bM}:fU O g .neq 61 x y (.agg ⟨aX e⟩) (.agg ⟨aX e⟩)=.ok (.bool ag):=by
 have e1:pr O 61 x y (.agg ⟨aX e⟩) (.agg ⟨aX e⟩)=ae:=by
  unfold pr;have:O.P.eqGuardType O.P.depth 61=ag:=by decide+kernel
  rw[this];rfl
 have q:iG O g 100 61 (.agg ⟨aX e⟩) (.agg ⟨aX e⟩)=.ok ae:=by
  rw[Fe (by kernel_rfl) qgx (by kernel_rfl)];simp only[uJ,bJ,aX];rw[oO u9 rfl rfl,oO (o:=1) Bc rfl rfl,oO (o:=2) u4 rfl rfl];simp only[R.aW,NV (tb:=O) (t:=9) u9,CB (tb:=O) (t:=59) Bc,YB (tb:=O) (t:=4) u4];simp[R.aW]
 unfold fU;rw[e1,aJ];simp only[];rw[q];rfl
def hU:=cu x7
def wu:aH:=sub hU [1,1,0,1,0,0]
def EF:x7.body=U (.seq (sub hU [0]) (.seq (sub hU [1,0]) (.seq (.seq (sub hU [1,1,0,0]) (.block 0 (.loop wu))) (.seq (sub hU [1,1,1,0]) (sub hU [1,1,1,1]))))):=by kernel_rfl
def qeh{l:List aK}{x:I}(h:dz A l x)(h2:dz A l y)(hl:Z l<1000000):∃v A',az O 13 [x,y] A v A'/\v=.bool ae/\A'=A:=by
 refine cZ (aD Tryz.func13) EF (by kernel_rfl) ?_;have n1:=h.len;have n2:=h2.len;apply W.q2
 .intro M _;simp(disch:=first|decide+kernel|omega)only[hU,x7,Aq,aa,n1,n2];rfl
 apply W.seq;apply W.q
 .intro M;simp(disch:=first|decide+kernel|omega)only[hU,x7,Aq,aa];rfl
 apply W.block;refine W.up (Z l) (λ i t D=>D=A/\Sl t [(0,x),(1,y),(5,.int .i64 i)]) ?_ (a8 _) ⟨rfl,?_⟩
 .rintro i t D hi ⟨rfl,g0,g1,g5,-⟩;by_cases hlt:i<Z l
  .have hli:=aZ hlt;obtain⟨p,i1,i2,-⟩:=h.at hli;obtain⟨q,j1,j2,-⟩:=h2.at hli;apply W.run 20
   .intro M;simp(config:={maxSteps:=4000000})(disch:=first|decide+kernel|omega|simp only[Wq,aa])only[wu,hU,x7,Aq,av,reduceIte,aa,ak,g0,g1,g5,n1,hlt,i1,i2,j1,j2,yV,qbI,Fq,bQ []];rfl
   refine⟨hlt,_,_,rfl,rfl,?_⟩;simp only[Sq,aa,ak,g0,g1]
  .apply W.run 20
   .intro M;simp(disch:=first|decide+kernel|omega)only[wu,hU,x7,Aq,aa,g0,g5,n1,hlt];rfl
   apply W.run 40
   .intro M;simp(disch:=first|decide+kernel|omega)only[hU,x7,Aq,aa];rfl
   exact⟨by simp,rfl,_,(by simp only[x7,Aq,aa]<;>rfl),rfl,rfl⟩
 .simp only[Sq,aa,ak]
theorem TW:∀(l:List aK),(∀e∈l,Z e.word<=9)->jc l<=9*Z l
 | [],_=>aI _
 |x::l,h=>by
  have h1:=TW l λ e he=>h e (cV _ he)
  have h2:=h x cJ;unfold jc at h1⊢;simp only[lK,List.sum_cons,cD];omega
def qal{l:List aK}(hs:jc l<1000)(hw:∀e∈l,e.weight<4294967296):∀i,i<=Z l->ou i (jc (l.take i)) (gD [] (l.take i) S0):=by
 intro i
 induction i with
 |zero=>exact λ _=>PE
 |succ i ih=>
  intro hi;have:=TX l i;have hv:=xE (hw l[i] (ff (by omega)));rw[d_ (by omega),SK,Lq];exact PF (by omega) (ih (by omega)) (by omega)
def qbe{l:List aK}(h0:l≠ [])(ha:dk l)(hl:Z l<=60)(hw:∀e∈l,(1<=Z e.word/\Z e.word<=9)/\e.weight<4294967296):mo l:=by
 obtain⟨r1,-,r3,-,-,-⟩:=NB h0 ha λ e he=>⟨by have:=(hw e he).1.2;omega,(hw e he).2⟩
 have hs:=TW l λ e he=>(hw e he).1.2
 have iv:=qal (by omega) (λ e he=>(hw e he).2) (Z l) (aI _);rw[dU]at iv;obtain⟨M,o,hM,-,hN⟩:=Py (f:=255) h0 ha λ e he=>by have:=(hw e he).1.2;omega
 have iv2:ou (Z l) (jc l) (im 0 (gD [] l S0)):=(CW (d:=0) (by omega) _ _ _ iv).1;rw[show im 0 (gD [] l S0)=(M,o,[])from hM]at iv2;obtain⟨i1,-,i3,i4,-,-⟩:=iv2;have i1:Z o.arcs<=Z l:=i1;have i3:Z M+0<=jc l:=i3;obtain⟨-,n2,-,n4⟩:=QI M (du o);have hdoc:dx l=(eP M (du o)).1:=by unfold dx;rw[<-hN]
 rw[<-hdoc]at n2 n4;have hL:=qa0 r1;have hle:least l<=4294967296:=by
  obtain⟨e,he,h⟩:=yR h0;rw[h];exact xE (hw e he).2
 refine⟨h0,ha,λ e he=>⟨(hw e he).1.1,by have:=(hw e he).1.2;omega,(hw e he).2⟩,⟨by omega,by omega⟩,by omega,λ h=>?_,hL,by omega,?_⟩
 .unfold dx at h;rw[h]at r3;simp at r3
 .have hs:=TG (c:=Z l) (by omega) (dx l) 0 (by omega) λ s hs=>by
   obtain⟨i,hi,e⟩:=oU hs;obtain⟨a1,a2,a3,a4⟩:=hL i s (by rw[<-e];exact aZ hi);refine⟨?_,a3,λ a ha=>(a4 a ha).2⟩;rcases n4 s hs with h|rfl
   .exact(i4 s h).2
   .simpa[du]using i1
  have hmul:(19*Z l+18)*(dx l).length<=1158*541:=BJ (by omega) (by omega);have e1:=pB (Z l) (by omega);have e2:=pB (dx l).length (by omega);have e3:=pB (least l) (by omega);unfold ke iJ;simp only[aY,cD,eB];omega
def vd(ds:List mj)(s:Nat):List aK:=if s % 8=7 then(ds.take 20).map dE else pJ ((ds.take 20).map dE)
def qdd(ds:List mj)(hd:∀d∈ds,d.wt<4294967296):∀e∈(ds.take 20).map dE,((1<=Z e.word/\Z e.word<=9)/\e.weight<4294967296)/\Norm e/\bare e=e:=λ e he=>by
 obtain⟨d,hq,rfl⟩:=eH.1 he;have hw:=hd d (zw hq);have hwt:(dE d).weight<4294967296:=by
  unfold dE tE bare;split<;>simp<;>omega
 have hb:bare (dE d)=dE d:=by
  unfold dE tE bare;cases d.gone<;>simp
 exact⟨⟨Yt d,hwt⟩,by have:=qbS hwt;rwa[hb]at this,hb⟩
def qiv(ds:List mj)(s:Nat)(hd:∀d∈ds,d.wt<4294967296):Bu (vd ds s)/\∀e∈vd ds s,Norm e:=by
 have h:=qdd ds hd;have hl:((ds.take 20).map dE).length<=20:=by rw[bc,df];omega
 have key:(vd ds s).length<=20/\∀e∈vd ds s,((1<=Z e.word/\Z e.word<=9)/\e.weight<4294967296)/\Norm e:=by
  unfold vd;split
  .exact⟨hl,λ e he=>⟨(h e he).1,(h e he).2.1⟩⟩
  .exact⟨dm (Uy _) hl,qim _ λ e he=>by rw[(h e he).2.2];exact⟨(h e he).1,(h e he).2.1⟩⟩
 exact⟨⟨λ e he=>⟨(key.2 e he).1.1.1,by have:=(key.2 e he).1.1.2;omega⟩,by have:=key.1;omega,λ h0 ha=>qbe h0 ha (by have:=key.1;omega) λ e he=>(key.2 e he).1⟩,λ e he=>(key.2 e he).2⟩
variable {ds:List mj}
def qfr{x:I}(h:m8 A ds x):∃v A',az O 7 [x,iN 20] A v A'/\dz A' (pJ ((ds.take 20).map dE)) v/\Kp A A':=by
 obtain⟨y,B,⟨g1,h1⟩,hB,kB⟩:=Sn (n:=20) h (by omega);obtain⟨v,C,⟨g2,h2⟩,hC,kC⟩:=qfF hB (by rw[bc,df];omega);refine⟨v,C,?_,hC,kB.trans kC⟩;refine bX (g1+g2) 60 (aD Tryz.func7) (by kernel_rfl) λ M hM=>?_
 simp(disch:=first|decide+kernel|omega)only[Tryz.f7,Aq,aa,h1,h2]<;>rfl
structure rJ where
 l:List mj
 x:I
 n:Int
 s:Nat
def te(A:Mem)(ws:List rJ)(x:I):Prop:=
 (x=.slice V 0 0/\ws=[])\/(x=tC/\ws=[])\/∃q off cp,x=.slice (U ⟨q,off,V⟩) (Z ws) cp/\(ws=[]\/(q<A.next/\∃t kd fz c,A.get q=U (.cells t kd (fz+1) c)/\
  ∀(i:Nat) (w:rJ),ws[i]?=U w->c.get (off+i*3)=U w.x/\c.get (off+i*3+1)=U (.int .i16 w.n)/\c.get (off+i*3+2)=U (.int .u8 w.s)/\m8 A w.l w.x))
variable {A':Mem}
def te.kf{ws:List rJ}{x:I}(h:te A ws x)(k:m9 A A'):te A' ws x:=by
 rcases h with h|h|⟨q,off,cp,h1,h2⟩
 .exact .inl h
 .exact .inr (.inl h)
 .refine .inr (.inr ⟨q,off,cp,h1,?_⟩);rcases h2 with h2|⟨h2,t,kd,fz,c,h3,h4⟩
  .exact .inl h2
  .exact .inr ⟨c9 h2 k.1,t,kd,fz,c,by rw[k.2 _ ⟨h2,t,kd,fz,c,h3⟩];exact h3,λ i d hd=>⟨(h4 i d hd).1,(h4 i d hd).2.1,(h4 i d hd).2.2.1,(h4 i d hd).2.2.2.kf k⟩⟩
def Ly:O.aB 22=U (.slice 33):=by kernel_rfl
def qgI:bk O 33=.ok 3:=by kernel_rfl
variable {o:Nat}
def Oo:bK O 33 (pw b o) 0=.ok (pw b o):=by kernel_rfl
def Oq:bK O 33 (pw b o) 1=.ok (pw b (o+1)):=by kernel_rfl
def Jp:bK O 33 (pw b o) 2=.ok (pw b (o+2)):=by kernel_rfl
def te.len{ws:List rJ}{x:I}(h:te A ws x):c_ O .len [22] [x]=.ok (iN (Z ws)):=by
 rcases h with⟨rfl,rfl⟩|⟨rfl,rfl⟩|⟨q,off,cp,rfl,-⟩
 .exact mQ Ly
 .kernel_rfl
 .exact mQ Ly
variable {fz:Nat}
def uP{e q:Nat}{t:au}{kd:Kd}{c:T I}{d}(hq:A.get q=U (.cells t kd fz c))(hc:c.get o=U v)(hd:O.aB e=U d)(ha:en d=ag):aj O A.get e (pw q o)=.ok v:=by
 unfold aj;simp only[hq,hd,ha,bJ,hc]
variable {i:Nat}
def te.at{ws:List rJ}{x:I}(h:te A ws x){w:rJ}(hi:ws[i]?=U w):
 ∃q o,eE O 22 x (.int .i64 i)=.ok (pw q o)/\m8 A w.l w.x/\∀M,m9 A M->aj O M.get 30 (pw q o)=.ok w.x/\aj O M.get 31 (pw q (o+1))=.ok (.int .i16 w.n)/\aj O M.get 5 (pw q (o+2))=.ok (.int .u8 w.s):=by
 rcases h with⟨-,rfl⟩|⟨-,rfl⟩|⟨q,off,cp,rfl,h2⟩
 .simp at hi
 .simp at hi
 .rcases h2 with rfl|⟨h2,t,kd,fz,c,h3,h4⟩
  .simp at hi
  .obtain⟨c0,c1,c2,hds⟩:=h4 i w hi;have hlt:=(bU.1 hi).1;have hb:aO i (Z ws)=ae:=by rw[bZ];exact hlt
   have hn:jx (.int .i64 i)=.ok i:=rfl;refine⟨q,off+i*3,?_,hds,λ M K=>?_⟩
   .unfold eE;simp only[hn,Ly,hb,aJ,qgI,R.aW,g_]
   .have h3':M.get q=U (.cells t kd (fz+1) c):=by rw[K.2 _ ⟨h2,t,kd,fz,c,h3⟩];exact h3
    obtain⟨d,hd,ha⟩:∃d,O.aB 31=U d/\en d=ag:=cF (by kernel_rfl);exact⟨uP h3' c0 GN rfl,uP h3' c1 hd ha,uP h3' c2 u5 rfl⟩
structure Nx (D D':ba) (k j:Nat):Prop where
 ok:fR D'
 nm:kK D'.ns
 q:D'.q=D.q
 st:D'.st<=D.st+k
 ar:D'.ar<=D.ar
 ns:Z D'.ns<=Z D.ns+j
section
variable {D D' D2:ba}{k j a b i:Nat}{w s:List UInt8}
def Nx.trans(h:Nx D D' k j)(h':Nx D' D2 a b):Nx D D2 (k+a) (j+b):=⟨h'.ok,h'.nm,h'.q.trans h.q,by have:=h.st;have:=h'.st;omega,dm h'.ar h.ar,by have:=h.ns;have:=h'.ns;omega⟩
def Nx.mono(h:Nx D D' k j)(hk:k<=a)(hj:j<=b):Nx D D' a b:=⟨h.ok,h.nm,h.q,by have:=h.st;omega,h.ar,by have:=h.ns;omega⟩
def zP:(cL D).ar<=D.ar:=by
 show(if D.dn then D.ar else D.ar-1)<=D.ar;split<;>omega
variable (ho:fR D)(hN:kK D.ns)
include ho hN
def Nx.refl:Nx D D 0 0:=⟨ho,hN,rfl,aI _,aI _,aI _⟩
def Nx.step:Nx D (cL D) 1 0:=⟨ho.step,hN,rfl,aI _,zP,aI _⟩
def Yf(hl:Z w<=64)(hn:Z D.ns<900):Nx D (eJ D w).2 1 1:=by
 unfold eJ;split
 .exact(Nx.step ho hN).mono (by omega) (by omega)
 .split
  .exact(Nx.step ho hN).mono (by omega) (by omega)
  .rename_i h1 h2;exact⟨ho.step.create h2,hN.step h2 hl hn,rfl,aI _,zP,by show(D.ns++[w]).length<=_;simp⟩
def Vb(hf:D.fs[i]?=U ([],[])):Nx D (gv D i [] s).2 1 0:=by
 unfold gv;split
 .exact Nx.step ho hN
 .have hk:fR (qH (cL D) i [] s).2:=ho.step.append hf;unfold qH at*;split at hk<;>rename_i hc
  .rw[aA hc];exact⟨hk,hN,rfl,aI _,zP,aI _⟩
  .rw[ax hc];exact⟨hk,hN,rfl,aI _,zP,aI _⟩
variable {g:List UInt8×List UInt8}
def qhA(hf:D.fs[i]?=U g):Nx D (gU D i g).2 1 0:=by
 unfold gU;split
 .exact Nx.step ho hN
 .exact⟨ho.step.sync hf,hN,rfl,aI _,zP,aI _⟩
def qgj:Nx D (mU D).2 1 0:=by
 unfold mU;split
 .exact Nx.step ho hN
 .exact⟨ho.step.qgk,hN,rfl,aI _,zP,aI _⟩
def qiu(hl:Z w<=64)(hn:Z D.ns<900):Nx D (vc D w s).2 4 1:=by
 have h1:=Yf ho hN hl hn;unfold vc;split
 .rename_i c0;obtain⟨-,-,o1,N1,i1,f1⟩:=I4 ho hN hl hn c0;have h2:=h1.trans (Vb (s:=s) o1 N1 f1);split
  .rename_i c1;obtain⟨o2,n2,f2,-,-⟩:=HP o1 f1 c1;have h3:=h2.trans (qhA h2.ok h2.nm f2);split
   .exact(h3.trans (qgj h3.ok h3.nm)).mono (by omega) (by omega)
   .exact h3.mono (by omega) (by omega)
  .exact h2.mono (by omega) (by omega)
 .exact h1.mono (by omega) (by omega)
def qg7{n:Int}{l:List aK}(hn:Z D.ns<900):Nx D (kj D n l).2 4 1:=by
 unfold kj;split
 .exact(Nx.refl ho hN).mono (by omega) (by omega)
 .split
  .exact qiu ho hN Dr.2 hn
  .exact(Nx.refl ho hN).mono (by omega) (by omega)
end
variable {p:Nat}
def qec{D:ba}(h:ek A p D):az O 15 [pV p] A (.int .i64 D.st) A:=by
 obtain⟨pf,ml,mn,b,mf,ps,hV,-⟩:=h;have l3:aj O A.get 3 (pw p 3)=.ok (.int .i64 D.st):=hV.ld rfl u3 rfl;simp only[pV]at*;refine cq 60 (aD Tryz.func15) (by kernel_rfl) λ M=>?_
 simp(disch:=first|decide+kernel|omega)only[Tryz.f15,Aq,aa,fm,uG,eY,bA,br,CL,l3]<;>rfl
def qgy:fieldsOf (O.aB 94)=[(ag,9,0),(ag,9,1)]:=by kernel_rfl
def qbJ{g:Nat->Option Ob}{x y:bM}{s:List UInt8×List UInt8}:fU O g .neq 94 x y (.agg ⟨fW s⟩) (.agg ⟨fW s⟩)=.ok (.bool ag):=by
 have e1:pr O 94 x y (.agg ⟨fW s⟩) (.agg ⟨fW s⟩)=ae:=by
  unfold pr;have:O.P.eqGuardType O.P.depth 94=ag:=by decide+kernel
  rw[this];rfl
 have q:iG O g 100 94 (.agg ⟨fW s⟩) (.agg ⟨fW s⟩)=.ok ae:=by
  rw[Fe (by kernel_rfl) qgy (by kernel_rfl)];simp only[uJ,bJ,fW];rw[oO u9 rfl rfl,oO (o:=1) u9 rfl rfl];simp only[R.aW,NV (tb:=O) (t:=9) u9];simp[R.aW]
 unfold fU;rw[e1,aJ];simp only[];rw[q];rfl
def rO:=cu ya
def Iw:aH:=sub rO [1,1,0,1,0,0]
def W6:ya.body=U (.seq (sub rO [0]) (.seq (sub rO [1,0]) (.seq (.seq (sub rO [1,1,0,0]) (.block 0 (.loop Iw))) (.seq (sub rO [1,1,1,0]) (sub rO [1,1,1,1]))))):=by kernel_rfl
def qew{l:List (List UInt8×List UInt8)}{x:I}(h:pK A l x)(h2:pK A l y)(hl:Z l<1000000):∃v A',az O 16 [x,y] A v A'/\v=.bool ae/\A'=A:=by
 refine cZ (aD Tryz.func16) W6 (by kernel_rfl) ?_;have n1:=h.len;have n2:=h2.len;apply W.q2
 .intro M _;simp(disch:=first|decide+kernel|omega)only[rO,ya,Aq,aa,n1,n2];rfl
 apply W.seq;apply W.q
 .intro M;simp(disch:=first|decide+kernel|omega)only[rO,ya,Aq,aa];rfl
 apply W.block;refine W.up (Z l) (λ i t D=>D=A/\Sl t [(0,x),(1,y),(5,.int .i64 i)]) ?_ (a8 _) ⟨rfl,?_⟩
 .rintro i t D hi ⟨rfl,g0,g1,g5,-⟩;by_cases hlt:i<Z l
  .have hli:=aZ hlt;obtain⟨p,o,i1,i2,-⟩:=h.at hli;obtain⟨q,o',j1,j2,-⟩:=h2.at hli;apply W.run 20
   .intro M;simp(config:={maxSteps:=4000000})(disch:=first|decide+kernel|omega|simp only[Wq,aa])only[Iw,rO,ya,Aq,av,reduceIte,aa,ak,g0,g1,g5,n1,hlt,i1,i2,j1,j2,yV,qbJ,Fq,bQ []];rfl
   refine⟨hlt,_,_,rfl,rfl,?_⟩;simp only[Sq,aa,ak,g0,g1]
  .apply W.run 20
   .intro M;simp(disch:=first|decide+kernel|omega)only[Iw,rO,ya,Aq,aa,g0,g5,n1,hlt];rfl
   apply W.run 40
   .intro M;simp(disch:=first|decide+kernel|omega)only[rO,ya,Aq,aa];rfl
   exact⟨by simp,rfl,_,(by simp only[ya,Aq,aa]<;>rfl),rfl,rfl⟩
 .simp only[Sq,aa,ak]
end Go.Proofs.YtjoceidiioppiaaGreatDoor.sto
end
