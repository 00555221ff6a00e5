/- The abstract machine, the walk of the law and its plain laws, made small by a program; part 2: no conditions but those in each theorem. -/
import Derived.Test.YtdobfpkceacneaaGreatDoorQ01
import Derived.RangeFuncIn
import Derived.Orders
import Derived.Lib.Overlaps
import Derived.Lib.Bytealg
import Derived.Eval
import Derived.Below
import Derived.ChangeSame
import Derived.ProofKit
import Derived.OpenShut
set_option maxHeartbeats 16000000
set_option maxRecDepth 100000
set_option linter.unusedSimpArgs false
set_option linter.unusedVariables false
set_option linter.defProp false
noncomputable section
open Array renaming ext'→m8,getD_eq_getD_getElem?→LO,getElem?_eq_getElem→D6,getElem?_eq_some_iff→fU,getElem?_toList→fW,length_toList→xO,replicate→tZ
open Bool renaming and_eq_true→dz,and_true→sY,eq_iff_iff→qu,false_eq_true→ed,or_eq_false_iff→Bs,or_eq_true→D7,false→af,true→aa
open Classical renaming byContradiction→xT
open Go renaming Code→aH,IntKind→cY,Operand→bA,Program→cI,TypeId→aj,Value→O,World→aG
open Int renaming ofNat→cO,ofNat_eq_natCast→ig
open List renaming all_cons→Eb,all_eq_true→ov,append_nil→kR,filter_cons→kS,getElem?_cons_zero→dX,getElem?_eq_getElem→aV,getElem?_eq_some_iff→bg,getElem?_map→da,getElem?_take→oz,length→Z,length_cons→cd,length_eq_zero_iff→eQ,length_filter_le→By,length_map→aR,map_cons→eU,map_nil→rB,mem_append_left→Hp,mem_append_right→yb,mem_cons→cC,mem_cons_of_mem→cU,mem_cons_self→cM,mem_filter→qy,mem_flatMap→BB,mem_map→dA,mem_of_getElem?→fh,nil_append→lX,range→jE,replicate→fq
open Nat renaming add_zero→dN,beq→aL,beq_eq→pS,ble→au,ble_eq→pT,ble_eq_true_of_le→mJ,blt→aM,blt_eq→bT,eq_of_beq_eq_true→dZ,le_of_ble_eq_true→fQ,le_of_lt→Ef,le_refl→aJ,le_trans→dp,lt_of_le_of_lt→pU,lt_of_lt_of_le→dc,lt_or_ge→d_,lt_succ_self→yg,lt_trichotomy→zX,min_eq_left→oA,min_eq_right→zY,mod_eq_of_lt→rH,mod_lt→iU,mul_one→nf,ne_of_beq_eq_false→Hv,strongRecOn→yi,sub_zero→iV,zero_add→dO,zero_le→a6
open Option renaming bind_some→wj,map_some→fZ,none→Y,some→U
open Option.some renaming inj→je,injEq→eM
open Prod.mk renaming injEq→bf
open Go.Result renaming andThen_ok→aQ
open Go.Sem renaming run_bind→aP,run_pure→aW
open UInt8 renaming ofNat→lZ,toNat_inj→yI,toNat_ofNat'→HK
namespace Go.Am
section
variable {tb:aO}{ih:aH->St->R (Ex×St)}{ι:a8}
variable {r:Nat}{o':Obj}
def qdn{w:aG}{o:Obj}(h:w.heap[r]?=U o):Wu w (w.putObj r o') r o':=by
 have hlt:=(fU.1 h).1;exact⟨by simp,World.putObj_heap_same hlt,λ k _ hne=>World.putObj_heap_other hne,rfl,rfl,rfl⟩
variable {n:Nat}
theorem S4:∀{ps:List Tmp} {vs vs':List O} {t t1:T O} {a:Array O},setArgs n ps vs t=.ok t1->bn ι vs vs'->TR ι n t a->
 Z vs'=Z ps/\TR ι n t1 ((ps.zip vs').foldl (λ tmps (t,a)=>tmps.setIfInBounds t a) a)
 | [],[],_,t,t1,a,h,.nil,ht=>by
  simp only[setArgs,av]at h;subst h;exact⟨rfl,ht⟩
 |p::ps,v::vs,_,t,t1,a,h,.cons hv hvs,ht=>by
  unfold setArgs at h;cases hb:aM p n with
  |false=>rw[hb]at h;cases h
  |true=>
   rw[hb]at h;simp only[aI]at h;obtain⟨h1,h2⟩:=S4 h hvs (ht.set (jK hb) hv);exact⟨by simp[h1],h2⟩
 | [],_::_,_,_,_,_,h,_,_=>by cases h
 |_::_,[],_,_,_,_,h,_,_=>by cases h
variable {A:Mem}
def Rel.loop{w:aG}(hr:Rel ι A w){l:Nat}{ld:Loc}{r:eT}(hg:A.get l=U (.loop r))(hl:ι l=U ld):
 ∃r',w.heap[ld.blk]?=U (.loop r')/\LR ι r r'/\ld.sh=0:=by
 obtain⟨o',hw,h0,r',rfl,h⟩:=hr.obs _ _ _ hg rfl hl;exact⟨r',hw,h,h0⟩
def Rel.J1{w:aG}(hr:Rel ι A w){l:Nat}{ld:Loc}{r q:eT}(hg:A.get l=U (.loop r))(hl:ι l=U ld){r' q':Loop}
 (hw:w.heap[ld.blk]?=U (.loop r'))(h0:ld.sh=0)(hq:LR ι q q'):Rel ι (A.set l (.loop q)) (w.putObj ld.blk (.loop q'))/\bZ ι A w ι (A.set l (.loop q)) (w.putObj ld.blk (.loop q')):=
 hr.sU hg rfl hl (re hg λ _ _ _ h=>by cases h) (λ _ _ _ h=>by cases h) (qdn hw) (by simp) ⟨h0,q',rfl,hq⟩
def qdV(hih:zC tb.P ih){l:Nat}{args:List O}{r:nh}(h:vc ih l args A=.ok r):
 ∃v A',r=.val v A'/\A.next<=A'.next/\∀(ι:a8) (w:aG) (s:Sem Next) (fr:Frame) (cs:List Frame),Rel ι A w->xS tb.P ι w (.round l args) s->ew ι A A'->
  ∃ι' w' v',zD tb.P s w v' w' fr cs/\VR ι' v v'/\Rel ι' A' w'/\bZ ι A w ι' A' w':=by
 unfold vc at h;split at h
 rotate_left
 .cases h
 rename_i ro hg;obtain⟨t,h1,h2⟩:=R.aF h;obtain⟨⟨e1,s1⟩,h3,h4⟩:=R.aF h2;dsimp only at h4;split at h4
 rotate_left
 .cases h4
 rename_i r1 hg1;split at h4
 rotate_left
 .cases h4
 rename_i hready;obtain⟨⟨e2,s2⟩,h5,h6⟩:=R.aF h4;rcases hih _ _ _ _ h3 with⟨v,hv,_⟩|⟨hle1,hc1⟩
 .cases hv
 have main:∀(jump:Option aH) (r2:eT),s2.m.get l=U (.loop r2)->
  (∀(b:Frame) (a:Act) (k:List Item) (fr:Frame) (cs:List Frame) (w w':aG) (ld:Loc) (v:O),b.roundOf=U ld.blk->b.kind=.normal->oW e2 [] k->(Instr.endRound ld.blk jump).run tb.P w=.ok v w'->
   Steps tb.P (lone (b.atR a k) (fr::cs) w) (lone (fr.finish v) cs w'))->
  (∀v,e2≠.dR v)->
  r=.val (.bool jump.isNone) (s2.m.set l (.loop {r2 with state:=if jump.isNone then .ready else .done,pending:=jump}))->
  ∃v A',r=.val v A'/\A.next<=A'.next/\∀(ι:a8) (w:aG) (s:Sem Next) (fr:Frame) (cs:List Frame),Rel ι A w->xS tb.P ι w (.round l args) s->ew ι A A'->
  ∃ι' w' v',zD tb.P s w v' w' fr cs/\VR ι' v v'/\Rel ι' A' w'/\bZ ι A w ι' A' w':=by
  intro jump r2 hg2 hend hnp hres;rcases hih _ _ _ _ h5 with⟨v,hv,_⟩|⟨hle2,hc2⟩
  .exact aZ hv (hnp v)
  rw[cE]at hle2;refine⟨_,_,hres,by rw[cE];exact dp hle1 hle2,λ ι w s fr cs hr hcl hf=>?_⟩;obtain⟨ld,args',hl,hrun,hargs⟩:=hcl;obtain⟨rq,hw,hlr,h0⟩:=hr.loop hg hl;obtain⟨hlen,ht⟩:=S4 h1 hargs hlr.tmps;have hpl:=hlr.params;have hsz:args'.size=rq.params.size:=by
   have:=cV Z hpl;simp only[xO]at this hlen;omega
  have htm:(rq.params.zip args').foldl (λ tmps (t,a)=>tmps.setIfInBounds t a) rq.tmps=(ro.params.zip args'.toList).foldl (λ tmps (t,a)=>tmps.setIfInBounds t a) rq.tmps:=by
   rw[<-Array.foldl_toList,Array.toList_zip,hpl]
  let b:Frame:=Frame.round ld.blk rq.fn ((rq.params.zip args').foldl (λ tmps (t,a)=>tmps.setIfInBounds t a) rq.tmps) rq.assign rq.body .normal;let t0:=(ro.params.zip args'.toList).foldl (λ tmps (t,a)=>tmps.setIfInBounds t a) rq.tmps;have hb:b=b.atR ⟨t0,[]⟩ [.code ro.assign,.beginRound,.code ro.body]:=by
   simp only[Frame.round,Frame.atR,b,t0,htm,hlr.assign,hlr.body]
  have hf1:ew ι A s1.m:=λ x hx1 hx2=>hf x hx1 (by rw[cE];omega)
  obtain⟨ι1,w1,a1,k1,st1,ha1,hs1,hss1⟩:=hc1 ι b ⟨t0,[]⟩ [.beginRound,.code ro.body] (fr::cs) w ⟨hr,ht,⟨ld,hl,rfl⟩,rfl⟩ hf1;cases (show k1=_ from ha1);have hi1:=hss1.fT.le hf1;obtain⟨rq1,hw1,hlr1,_⟩:=hs1.rel.loop hg1 (hi1 _ _ hl);have st2:=stepR_beginRound (P:=tb.P) (b:=b) (a:=a1) (k:=[.code ro.body]) (cs:=fr::cs) rfl (run_beginRound hw1 (by rw[hlr1.state,hready]));have hlr1':LR ι1 {r1 with state:=.busy} {rq1 with state:=.busy}:=⟨rfl,hlr1.pending,hlr1.tmps,hlr1.params,hlr1.assign,hlr1.body,hlr1.defers⟩;obtain⟨hrel1,hst1⟩:=hs1.rel.J1 hg1 (hi1 _ _ hl) hw1 h0 hlr1';have hf2:ew ι1 (s1.m.set l (.loop {r1 with state:=.busy})) s2.m:=by
   intro x hx1 hx2;rw[cE]at hx1;rw[hss1.fT.out x (.inr hx1)];have hle1':A.next<=s1.m.next:=hle1
   exact hf x (by omega) (by rw[cE];exact hx2)
  obtain⟨ι2,w2,a2,k2,mA,ha2,hs2,hss2⟩:=hc2 ι1 b a1 [] (fr::cs) _ ⟨hrel1,hs1.tr,hs1.ro,hs1.dr⟩ hf2;have hi2:=hss2.fT.le hf2;obtain⟨rq2,hw2,hlr2,_⟩:=hs2.rel.loop hg2 (hi2 _ _ (hi1 _ _ hl));have st4:=hend b a2 k2 fr cs w2 _ ld _ rfl rfl ha2 (run_endRound jump hw2);obtain⟨hrel2,hst2⟩:=hs2.rel.J1 (q:={r2 with state:=if jump.isNone then .ready else .done,pending:=jump}) (q':={rq2 with state:=if jump.isNone then .ready else .done,pending:=jump}) hg2 (hi2 _ _ (hi1 _ _ hl)) hw2 h0
   ⟨rfl,rfl,hlr2.tmps,hlr2.params,hlr2.assign,hlr2.body,hlr2.defers⟩
  rw[<-hb]at st1;refine⟨ι2,_,.bool jump.isNone,.inr (.inr ⟨ld.blk,rq.fn,_,rq.assign,rq.body,hrun.trans (run_yield hw hsz),?_⟩),.bool _,hrel2,((hss1.fT.trans hst1).trans hss2.fT).trans hst2⟩;exact((st1.trans (.one st2)).trans mA).trans st4
 dsimp only at h6;split at h6
 .rename_i r2 hd hg2;simp only[av]at h6;exact(main Y r2 hg2 (λ b a k fr cs w w' ld v hb hk ha hr=>by cases (show k=[]from ha);exact .one (stepR_round_end hb hk hr)) (by simp) h6.symm)
 .rename_i id r2 hd hg2;simp only[av]at h6;exact(main (U (.exit id)) r2 hg2 (λ b a k fr cs w w' ld v hb hk ha hr=>by
   obtain⟨k2,rfl,hx⟩:=ha;exact .one (stepR_round_exit hb hk hx hr)) (by simp) h6.symm)
 .rename_i r2 hd hg2;simp only[av]at h6;exact(main (U .ret) r2 hg2 (λ b a k fr cs w w' ld v hb hk ha hr=>by
   obtain⟨k2,rfl⟩:=ha;exact .one (stepR_round_ret hb hk hr)) (by simp) h6.symm)
 .cases h6
end
section
variable {tb:aO}(ok:dP tb){ih:aH->St->R (Ex×St)}{ι:a8}
def HQ(w:aG)(o:Obj):Wu w (w.alloc o) w.heap.size o/\(w.alloc o).heap.size=w.heap.size+1:=
 ⟨⟨by simp[World.size_alloc],World.alloc_heap_new w o,λ k hk _=>by
  show(w.heap.push o)[k]?=w.heap[k]?;rw[Array.getElem?_push_lt hk];exact(D6 hk).symm,rfl,rfl,rfl⟩,World.size_alloc ..⟩
section steps
variable {P:cI}{b:Frame}{a:Act}{k:List Item}{cs:List Frame}{w:aG}
variable {w':aG}{v':O}
def qdu{g:bA}{ps:Array Tmp}{assign body:aH}{l:Nat}{mark:List Deferred}{w₁:aG}
 (he:(Instr.enterLoop b.fn a.tmps ps assign body b.roundOf).run P w=.ok (l,mark) w₁)
 (h:zD P (do let d<-Deferred.ofValue (a.eval g) #[.func (.yield l) #[] #[]];invoke d.target d.args) w₁ v' w' (b.atR {a with defers:=mark++a.defers} (.inRangeFunc l::k)) cs):
 Steps P (lone (b.atR a (.code (.rangeFunc g ps assign body)::k)) cs w) (lone (b.atR {a with defers:=mark++a.defers} (.endRangeFunc l::k)) cs w'):=by
 have hev:=Frame.eval_atR b {a with defers:=mark++a.defers} (.inRangeFunc l::k);simp only[Frame.atR]at hev;have hres:∀u,Sem.run P (resolve ({tmps:=a.tmps,defers:=mark++a.defers}:Act).eval {callee:=.value g,args:= #[.const (.func (.yield l) #[] #[])],argTypes:= #[]} 0) u=
  Sem.run P (Deferred.ofValue (a.eval g) #[.func (.yield l) #[] #[]]) u:=by
  intro u;have e1:({tmps:=a.tmps,defers:=mark++a.defers}:Act).eval g=a.eval g:=by cases g<;>rfl
  have e2:(#[Operand.const (.func (.yield l) #[] #[])].map ({tmps:=a.tmps,defers:=mark++a.defers}:Act).eval)= #[.func (.yield l) #[] #[]]:=by simp[Act.eval]
  simp only[resolve,e1,e2]
 rcases h with h1|⟨f,args,h1,h2⟩|⟨l',f,t,qjX,bd,h1,h2⟩
 .rw[aP]at h1;rw[<-finish_atR_inRangeFunc l v'];refine .one (step_lone_go ?_);simp[stepG,stepG.exec,Frame.atR,Sem.runT_eq,he,GStep.bare_after,stepG.apply,hev,aP,hres,h1]
 .rw[aP]at h1;rw[<-finish_atR_inRangeFunc l v'];refine .head (step_lone_go ?_) h2;simp[stepG,stepG.exec,Frame.atR,Sem.runT_eq,he,GStep.bare_after,stepG.apply,hev,aP,hres,h1]
 .rw[aP]at h1;rw[<-finish_atR_inRangeFunc l v'];refine .head (step_lone_go ?_) h2;simp[stepG,stepG.exec,Frame.atR,Sem.runT_eq,he,GStep.bare_after,stepG.apply,hev,aP,hres,h1]
end steps
include ok in
theorem qbM (hcall:rr tb ih) (f:bA) (ps:Array Tmp) (assign body:aH) (s:St) (e:Ex) (s1:St) (h:xC tb ih f ps.toList assign body 0 s=.ok (e,s1)):
 mF tb.P (.rangeFunc f ps assign body) s e s1:=by
 unfold xC at h;obtain⟨fv,h1,h2⟩:=R.aF h;obtain⟨⟨dfb,A,mark⟩,h3,h4⟩:=R.aF h2;obtain⟨cl,h5,h6⟩:=R.aF h4;obtain⟨res,h7,h8⟩:=R.aF h6;dsimp only at h5 h7 h8;have hlay:s.m.next<=A.next/\∀(ι:a8) (b:Frame) (a:Act) (w:aG),SR ι s b a w->ew ι s.m A->ι A.next=Y->
  ∃ι' w' l markd,(Instr.enterLoop b.fn a.tmps ps assign body b.roundOf).run tb.P w=.ok (l,markd) w'/\ι' A.next=U ⟨l,0,0⟩/\
   Rel ι' (A.alloc (.loop {state:=.ready,pending:=Y,fn:=0,tmps:=s.t,n:=s.n,params:=ps.toList,assign,body,defers:=dfb})) w'/\
   bZ ι s.m w ι' (A.alloc (.loop {state:=.ready,pending:=Y,fn:=0,tmps:=s.t,n:=s.n,params:=ps.toList,assign,body,defers:=dfb})) w'/\
   DR ι' (mark++s.d) (markd++a.defers) b.defers/\gX ι ι':=by
  split at h3
  .rename_i l0 hro;split at h3
   .rename_i r0 hg;simp only[av,bf]at h3;obtain⟨rfl,rfl,rfl⟩:=h3;refine⟨aJ _,λ ι b a w hs hf hn=>?_⟩;have hrr:=hs.ro;rw[hro]at hrr;obtain⟨ld,hl,hb⟩:=hrr;obtain⟨rq,hw,hlr,_⟩:=hs.rel.loop hg hl;obtain⟨ldd,hdl,hde⟩:=hlr.defers;obtain⟨hwu,hsz⟩:=HQ w (.loop {state:=.ready,pending:=Y,fn:=b.fn,tmps:=a.tmps,params:=ps,assign,body,defers:=rq.defers});obtain⟨ι',h9,h10,h11⟩:=hs.rel.tM (ob:=.loop {state:=.ready,pending:=Y,fn:=0,tmps:=s.t,n:=s.n,params:=ps.toList,assign,body,defers:=r0.defers}) hn (λ _ _ _ h=>by cases h) hwu hsz
     (λ ι' hi _=>⟨rfl,_,rfl,rfl,rfl,hs.tr.mono hi,rfl,rfl,rfl,ldd,hi _ _ hdl,hde⟩)
    have hle:=h11.le (λ x hx1 hx2=>by rw[aA]at hx2;rw[show x=s.m.next by omega];exact hn);refine⟨ι',_,_,[],?_,h9,h10,h11,hs.dr.mono hle,hle⟩;rw[hb];exact run_enterLoop_inner hw _ _ _ _ _
   .cases h3
  .rename_i hro;simp only[av,bf]at h3;obtain⟨rfl,rfl,rfl⟩:=h3;refine⟨by rw[aA];omega,λ ι b a w hs hf hn=>?_⟩;have hb:b.roundOf=Y:=by have:=hs.ro;rw[hro]at this;exact this
   rw[aA]at hn;have hn0:=hf _ (aJ _) (by rw[aA];omega);obtain⟨hwu,hsz⟩:=HQ w (.deferred (U []));obtain⟨ι1,h9,h10,h11⟩:=hs.rel.tM (ob:=.defd) (sz:=0) hn0 (λ _ _ _ h=>by cases h) hwu hsz (λ _ _ _=>rfl);have hle1:=h11.le hf;have hn1:ι1 (s.m.alloc .defd).next=Y:=by
    rw[h11.out _ (.inr (aJ _)),aA];exact hn
   obtain⟨hwu2,hsz2⟩:=HQ (w.alloc (.deferred (U []))) (.loop {state:=.ready,pending:=Y,fn:=b.fn,tmps:=a.tmps,params:=ps,assign,body,defers:=w.heap.size});obtain⟨ι2,h12,h13,h14⟩:=h10.tM (ob:=.loop {state:=.ready,pending:=Y,fn:=0,tmps:=s.t,n:=s.n,params:=ps.toList,assign,body,defers:=s.m.next}) hn1 (λ _ _ _ h=>by cases h) hwu2 hsz2
    (λ ι' hi _=>⟨rfl,_,rfl,rfl,rfl,(hs.tr.mono hle1).mono hi,rfl,rfl,rfl,_,hi _ _ h9,rfl⟩)
   have hle2:=h14.le (λ x hx1 hx2=>by rw[aA]at hx2;rw[show x=(s.m.alloc .defd).next by omega];exact hn1);have he:=run_enterLoop_outer (P:=tb.P) (w:=w) b.fn a.tmps ps assign body;rw[World.size_alloc]at h12;refine⟨ι2,_,_,[{target:=.collected w.heap.size,args:= #[]}],?_,h12,h13,h11.trans h14,⟨⟨_,hle2 _ _ h9,rfl⟩,(hs.dr.mono hle1).mono hle2⟩,hle1.trans hle2⟩
   rw[hb];exact he
 obtain⟨hle0,hlay⟩:=hlay;split at h8
 .cases h8
 rename_i v0 A2;rcases hcall cl _ _ h7 with⟨_,_,hq,_⟩|⟨v2,A2',hq,hle2,hsnd⟩
 .cases hq
 cases hq;rw[aA]at hle2;split at h8
 rotate_left
 .cases h8
 rename_i r2 hg2;have main:∀(e0:Ex),r2.state≠.busy->e=e0->s1={s with m:=A2.set A.next (.loop {r2 with state:=.exhausted}),d:=mark++s.d}->(∀k,oW e0 k ((r2.pending.map Item.code).toList++k))->
  mF tb.P (.rangeFunc f ps assign body) s e s1:=by
  rintro e0 hnb rfl rfl harr;refine⟨by show s.m.next<=A2.next;omega,λ ι b a k cs w hs hf=>?_⟩;have hf:∀x,s.m.next<=x->x<A2.next->ι x=Y:=hf
  obtain⟨ι1,w1,l,markd,he,hl,hrel1,hst1,hdr1,hi1⟩:=hlay ι b a w hs (λ x hx1 hx2=>hf x hx1 (by omega)) (hf _ hle0 (by omega));have hev:=(dg h1 hs.tr).mono hi1;have hcl:=Nb ok hrel1 h5 hev (.cons (.yield hl) .nil);obtain⟨ι2,w2,v',hdone,_,hrel2,hst2⟩:=hsnd ι1 w1 _ (b.atR {a with defers:=markd++a.defers} (.inRangeFunc l::k)) cs hrel1 hcl (λ x hx1 hx2=>by
   rw[aA]at hx1;rw[hst1.out x (.inr (by rw[aA];exact hx1))];exact hf x (by omega) hx2)
  have hi2:gX ι1 ι2:=hst2.le (λ x hx1 hx2=>by
   rw[aA]at hx1;rw[hst1.out x (.inr (by rw[aA];exact hx1))];exact hf x (by omega) hx2)
  obtain⟨rq2,hw2,hlr2,h02⟩:=hrel2.loop hg2 (hi2 _ _ hl);obtain⟨hrel3,hst3⟩:=hrel2.J1 (q:={r2 with state:=.exhausted}) (q':={rq2 with state:=.exhausted}) hg2 (hi2 _ _ hl) hw2 h02
   ⟨rfl,hlr2.pending,hlr2.tmps,hlr2.params,hlr2.assign,hlr2.body,hlr2.defers⟩
  have st1:=qdu he hdone;have st2:=stepR_endRangeFunc (P:=tb.P) (b:=b) (a:={a with defers:=markd++a.defers}) (k:=k) (cs:=cs) (run_endLoop hw2 (by rw[hlr2.state];exact hnb));exact⟨ι2,_,_,_,st1.trans (.one st2),by rw[hlr2.pending];exact harr k,⟨hrel3,(hs.tr.mono hi1).mono hi2,(hs.ro.mono hi1).mono hi2,hdr1.mono hi2⟩,⟨(hst1.trans hst2).trans hst3,rfl,rfl⟩⟩
 split at h8
 .cases h8
 .rename_i hp hnb;simp only[av,bf]at h8;exact(main .nrm hnb h8.1.symm h8.2.symm (λ k=>by rw[hp];rfl))
 .rename_i id hp hnb;simp only[av,bf]at h8;exact(main (.exit id) hnb h8.1.symm h8.2.symm (λ k=>by rw[hp];exact⟨k,rfl,rfl⟩))
 .rename_i hp hnb;simp only[av,bf]at h8;exact(main .ret hnb h8.1.symm h8.2.symm (λ k=>by rw[hp];exact⟨k,rfl⟩))
 .cases h8
end
section
variable {tb:aO}{τ τ':T O}
theorem Fc:∀{l:List bA},(∀x∈l,ev τ x=ev τ' x)->eI τ l=eI τ' l
 | [],_=>rfl
 |x::l,h=>by simp only[eI,h x (by simp),Fc (l:=l) λ y hy=>h y (by simp[hy])]
theorem I':∀{l:List (Nat×bA)},(∀x∈l.map (·.2),ev τ x=ev τ' x)->oM τ l=oM τ' l
 | [],_=>rfl
 |(i,x)::l,h=>by simp only[oM,h x (by simp),I' λ y hy=>h y (by simp only[eU,cC];exact .inr hy)]
def Fa:∀{x:Option bA},(∀y∈x.toArray,ev τ y=ev τ' y)->mQ τ x=mQ τ' x
 |none,_=>rfl
 |some x,h=>by simp only[mQ,h x (by simp)]
def ES{c:Call}(h:∀x∈c.operands,ev τ x=ev τ' x):eI τ c.args.toList=eI τ' c.args.toList:=
 Fc λ x hx=>h x (by simp[Call.operands,Array.mem_toList_iff.1 hx])
def Yd{g:Nat->Option Ob}{c:Call}(h:∀x∈c.operands,ev τ x=ev τ' x):qc tb τ g c=qc tb τ' g c:=by
 unfold qc;rw[ES h];cases hc:c.callee with
 |value f=>have hf:ev τ f=ev τ' f:=h f (by simp[Call.operands,hc]);simp only[hf]
 |invoke r m=>have hr:ev τ r=ev τ' r:=h r (by simp[Call.operands,hc]);simp only[hr]
 |builtin b=>rfl
def Rk{o:Op}(h:∀x∈o.operands,ev τ x=ev τ' x):gT tb τ o=gT tb τ' o:=by
 cases o<;>simp only[Op.operands]at h<;>simp only[gT]
 case build t ps=>rw[I' λ x hx=>h x (by simpa using hx)]
 case makeFunc fn a b=>rw[Fc λ x hx=>h x (by simp at hx;simp[hx]),Fc λ x hx=>h x (by simp at hx;simp[hx])]
 case call c=>cases c.callee<;>simp only[ES h]
 case slice t x lo hi mx=>rw[h x (by simp),Fa λ y hy=>h y (by simp[hy]),Fa λ y hy=>h y (by simp[hy]),Fa λ y hy=>h y (by simp[hy])]
 all_goals (first|rfl|(simp_all;done))
def Rz{g:Nat->Option Ob}{o:Op}(h:∀x∈o.operands,ev τ x=ev τ' x):eB tb τ g o=eB tb τ' g o:=by
 cases o<;>simp only[Op.operands]at h<;>simp only[eB]
 case call c=>rw[ES h]
 case load t x=>cases x<;>simp_all
 case indexAddr t x i=>cases x<;>simp_all
 all_goals (first|rfl|(simp_all;done))
def Mb{o:Op}(h:∀x∈o.operands,ev τ x=ev τ' x):l_ tb τ o=l_ tb τ' o:=by
 cases o<;>simp only[Op.operands]at h<;>simp only[l_]
 case buildSlice t n ps=>rw[I' λ x hx=>h x (by simpa using hx)]
 case makeMap t r=>rw[Fa h]
 all_goals (first|rfl|(simp_all;done))
variable {A:Mem}
def qbm{o:Op}(h:∀x∈o.operands,ev τ x=ev τ' x):jX tb τ A o=jX tb τ' A o:=by
 cases o<;>simp only[Op.operands]at h<;>simp only[jX]
 case call c=>rw[ES h]
 all_goals (first|rfl|(simp_all;done))
end
section
variable {tb:aO}{ih:aH->St->R (Ex×St)}
def zF(tb:aO)(ih:aH->St->R (Ex×St))(o:Oper)(t:T O)(A:Mem)(v:O)(A':Mem):Prop:=
 ∀(t':T O) (n:Nat) (d:List Nat) (ro:Option Nat) (k:St->R (Ex×St)),(∀x∈o.op.operands,ev t x=ev t' x)->
  bB tb ih o ⟨t',n,d,A,ro⟩ k=bS ⟨t',n,d,A',ro⟩ o.dst v k
def Kj{o : Oper}{s : St}{k : St -> R (Ex × St)}{r : Ex × St}(h : bB tb ih o s k = .ok r) :
    (∃ v s1, r = (.dR v, s1)) \/ ∃ v A', bS { s with m := A' } o.dst v k = .ok r /\ zF tb ih o s.t s.m v A' /\
      (match cls tb o.op with
       | .P => gT tb s.t o.op = .ok v /\ A' = s.m
       | .Rd => eB tb s.t s.m.get o.op = .ok v /\ A' = s.m
       | .Al => ∃ ob way, l_ tb s.t o.op = .ok (ob, way) /\ A' = s.m.alloc ob /\ v = way.at s.m.next
       | .L => True) := by
  unfold bB at h
  split at h
  . rename_i c hc
    obtain ⟨cl, h1, h2⟩ := R.aF h
    obtain ⟨res, h3, h4⟩ := R.aF h2
    have hop : o.op = .call c := by
      unfold qf at hc
      split at hc
      . rename_i c' hop
        split at hc
        . cases hc
        . simp only [eM] at hc; rw [hop, hc]
      . cases hc
    have hL : cls tb o.op = .L := by
      rw [hop] at hc ⊢
      unfold qf at hc
      simp only at hc
      unfold cls
      simp only
      split at hc
      . cases hc
      . rfl
    split at h4
    . rename_i v A
      refine .inr ⟨v, A, h4, λ t' n d ro k' hx => ?_, ?_⟩
      . have hx' : ∀ x ∈ c.operands, ev s.t x = ev t' x := by rw [hop] at hx; exact hx
        unfold bB
        rw [hc]
        simp only
        rw [<- Yd hx', h1]
        simp only [R.bind, h3]
      . rw [hL]; trivial
    . rename_i v A
      simp only [av] at h4
      exact .inl ⟨v, _, h4.symm⟩
  . rename_i hnc
    split at h
    . rename_i hcls
      obtain ⟨v, h1, h2⟩ := R.aF h
      refine .inr ⟨v, s.m, h2, λ t' n d ro k' hx => ?_, ?_⟩
      . unfold bB
        rw [hnc, hcls]
        simp only
        rw [<- Rk hx, h1]; rfl
      . rw [hcls]; exact ⟨h1, rfl⟩
    . rename_i hcls
      obtain ⟨v, h1, h2⟩ := R.aF h
      refine .inr ⟨v, s.m, h2, λ t' n d ro k' hx => ?_, ?_⟩
      . unfold bB
        rw [hnc, hcls]
        simp only
        rw [<- Rz hx, h1]; rfl
      . rw [hcls]; exact ⟨h1, rfl⟩
    . rename_i hcls
      obtain ⟨⟨ob, way⟩, h1, h2⟩ := R.aF h
      refine .inr ⟨_, _, h2, λ t' n d ro k' hx => ?_, ?_⟩
      . unfold bB
        rw [hnc, hcls]
        simp only
        rw [<- Mb hx, h1]; rfl
      . rw [hcls]; exact ⟨ob, way, h1, rfl, rfl⟩
    . rename_i hcls
      split at h
      . rename_i x hop
        obtain ⟨xv, h1, h2⟩ := R.aF h
        split at h2
        . simp only [av] at h2
          exact .inl ⟨_, _, h2.symm⟩
        . cases h2
      . rename_i hnp
        obtain ⟨⟨v, A⟩, h1, h2⟩ := R.aF h
        refine .inr ⟨v, A, h2, λ t' n d ro k' hx => ?_, ?_⟩
        . unfold bB
          rw [hnc, hcls]
          simp only
          rw [<- qbm hx, h1]; rfl
        . rw [hcls]; trivial
end
section
variable {tb:aO}{ih:aH->St->R (Ex×St)}
theorem UX{α:Type}{f:α->α->Bool}(h:∀x y,f x y=aa->x=y):∀{l m:List α},Z l=Z m->((l.zip m).all λ(x,y)=>f x y)=aa->l=m
 | [],[],_,_=>rfl
 | [],_::_,h1,_=>by simp at h1
 |_::_,[],h1,_=>by simp at h1
 |x::l,y::m,h1,h2=>by
  simp only[List.zip_cons_cons,Eb,dz]at h2;rw[h x y h2.1,UX h (by simpa using h1) h2.2]
def KS{a b:Option Nat}(h:ri a b=aa):a=b:=by
 cases a<;>cases b<;>simp[ri]at h
 .rfl
 .rw[h]
def SW{a b:Addr}(h:tU a b=aa):a=b:=by
 obtain⟨x,y,z⟩:=a;obtain⟨x',y',z'⟩:=b;simp only[tU,dz]at h;obtain⟨⟨h1,h2⟩,h3⟩:=h;have h1:=dZ h1;have h2:=dZ h2;have h3:=KS h3;rw[h1,h2,h3]
def qgS{a b:Fn}(h:Dz a b=aa):a=b:=by
 unfold Dz at h;split at h
 .rw[dZ h]
 .rw[dZ h]
 .cases h
theorem zh:∀(d:Nat) (a b:O),cP d a b=aa->a=b
 |0,_,_,h=>by cases h
 |d+1,a,b,h=>by
  have hl:∀l m:List O,(aL (Z l) (Z m)&&(l.zip m).all λ(x,y)=>cP d x y)=aa->l=m:=by
   intro l m h;simp only[dz]at h;exact UX (zh d) (dZ h.1) h.2
  have hA:∀x y:Array O,(aL (Z x.toList) (Z y.toList)&&(x.toList.zip y.toList).all λ(x,y)=>cP d x y)=aa->x=y:=λ x y h=>m8 (hl _ _ h)
  unfold cP at h;simp only at h;split at h
  .rfl
  .rfl
  .simp only[dz]at h;have h2:=h.2;rw[xj]at h2;rw[C6 h.1,eq_of_beq h2]
  .rename_i x y;rw[pj]at h;have:=eq_of_beq h;congr 1;exact cV ByteArray.mk (m8 this)
  .rfl
  .rw[SW h]
  .simp only[dz]at h;rw[dZ h.1,dZ h.2]
  .simp only[dz]at h;rw[SW h.1.1,dZ h.1.2,dZ h.2]
  .rw[KS h]
  .rw[KS h]
  .rfl
  .rfl
  .simp only[dz]at h;rw[dZ h.1,zh d _ _ h.2]
  .rw[dz,dz]at h;rw[qgS h.1.1,hA _ _ h.1.2,hA _ _ h.2]
  .rw[hA _ _ h]
  .rw[hA _ _ h]
  .rfl
  .cases h
end
section
variable {tb:aO}
theorem I2{acc:List Nat}:∀{es:List Edge} {m:Nat},An acc es=.ok m->
 (∀e∈es,Region.binds .any e=aa->∃a,acc[e.on]?=U a)/\
 ∀i,m.testBit i=aa->∃e∈es,Region.binds .any e=aa/\∃a,acc[e.on]?=U a/\(i=e.on\/a.testBit i=aa)
 | [],m,h=>by
  simp only[An,av]at h;subst h;exact⟨by simp,λ i hi=>by simp at hi⟩
 |e::es,m,h=>by
  unfold An at h;obtain⟨m0,h1,h2⟩:=R.aF h;obtain⟨h3,h4⟩:=I2 h1;cases hb:Region.binds .any e with
  |false=>
   rw[hb]at h2;simp only[ba,av]at h2;subst h2;refine⟨λ x hx hbx=>?_,λ i hi=>?_⟩
   .rcases cC.1 hx with rfl|hx
    .rw[hb]at hbx;cases hbx
    .exact h3 x hx hbx
   .obtain⟨x,hx,hr⟩:=h4 i hi;exact⟨x,cU _ hx,hr⟩
  |true=>
   rw[hb]at h2;simp only[aI]at h2;split at h2
   .rename_i a ha;simp only[av]at h2;subst h2;refine⟨λ x hx hbx=>?_,λ i hi=>?_⟩
    .rcases cC.1 hx with rfl|hx
     .exact⟨a,ha⟩
     .exact h3 x hx hbx
    .have hi':((1<<<e.on|||a)|||m0).testBit i=aa:=hi;simp only[Nat.testBit_or,D7]at hi';rcases hi' with(h5|h5)|h5
     .refine⟨e,cM,hb,a,ha,.inl ?_⟩;rw[Nat.one_shiftLeft,Nat.testBit_two_pow]at h5;simpa using (of_decide_eq_true h5).symm
     .exact⟨e,cM,hb,a,ha,.inr h5⟩
     .obtain⟨x,hx,hr⟩:=h4 i h5;exact⟨x,cU _ hx,hr⟩
   .cases h2
theorem Pn{ops:List Oper}:∀{os:List Oper} {acc:List Nat} {l:List ng},C0 tb ops os acc=.ok l->
 Z l=Z os/\∀j o,os[j]?=U o->∃x,l[j]?=U x/\x.c=cls tb o.op/\x.w=o.dst.toList/\x.r=u_ ops o/\An (acc++(l.take j).map (·.m)) o.after.toList=.ok x.m
 | [],acc,l,h=>by
  simp only[C0,av]at h;subst h;exact⟨rfl,λ j o ho=>by simp at ho⟩
 |o::os,acc,l,h=>by
  unfold C0 at h;obtain⟨m,h1,h2⟩:=R.aF h;rw[Fu]at h2;obtain⟨l',h3,h4⟩:=R.aF h2;simp only[av]at h4;subst h4;obtain⟨h5,h6⟩:=Pn h3;refine⟨by simp[h5],λ j o' ho=>?_⟩;cases j with
  |zero=>
   simp only[dX,eM]at ho;subst ho;exact⟨_,rfl,rfl,rfl,rfl,by simpa using h1⟩
  |succ j=>
   obtain⟨x,e1,e2,e3,e4,e5⟩:=h6 j o' (by simpa using ho);exact⟨x,by simpa using e1,e2,e3,e4,by simpa using e5⟩
def zA(fl:List (Nat×Nat))(i:Nat)(a:ng)(j:Nat)(b:ng):Prop:=
 b.m.testBit i=aa\/(sP a.w b.w=af/\sP a.w b.r=af/\sP a.r b.w=af/\¬(a.c=.L/\b.c=.L)/\
  (a.c=.Rd->b.c=.L->(i,j)∈fl)/\(a.c=.L->b.c=.Rd->(j,i)∈fl)/\(a.c=.Al->b.c=.L->(i,j)∈fl))
variable {i j:Nat}
def zA.mono{fl fl':List (Nat×Nat)}{a b:ng}(hs:∀p∈fl,p∈fl')(h:zA fl i a j b):zA fl' i a j b:=by
 rcases h with h|⟨h1,h2,h3,h4,h5,h6,h7⟩
 .exact .inl h
 .exact .inr ⟨h1,h2,h3,h4,λ x y=>hs _ (h5 x y),λ x y=>hs _ (h6 x y),λ x y=>hs _ (h7 x y)⟩
def qde{a b:ng}{fl:List (Nat×Nat)}(h:Ko i a j b=.ok fl):zA fl i a j b:=by
 unfold Ko at h;cases ht:b.m.testBit i with
 |true=>exact .inl ht
 |false=>
  rw[ht]at h;simp only[ba]at h;cases hm:(sP a.w b.w||sP a.w b.r||sP a.r b.w)with
  |true=>rw[hm]at h;cases h
  |false=>
   rw[hm]at h;simp only[ba]at h;simp only[Bs]at hm;refine .inr ⟨hm.1.1,hm.1.2,hm.2,?_⟩;cases ha:a.c<;>cases hb:b.c<;>rw[ha,hb]at h<;>simp only[av]at h<;>first
    |(cases h;done)
    |(subst h;simp)
theorem UB{b:ng}:∀{l:List ng} {i0:Nat} {fl:List (Nat×Nat)},GZ j b l i0=.ok fl->∀i a,l[i]?=U a->zA fl (i0+i) a j b
 | [],_,_,_,i,a,hi=>by simp at hi
 |x::l,i0,fl,h,i,a,hi=>by
  unfold GZ at h;obtain⟨p,h1,h2⟩:=R.aF h;obtain⟨q,h3,h4⟩:=R.aF h2;simp only[av]at h4;subst h4;cases i with
  |zero=>
   simp only[dX,eM]at hi;subst hi;exact(qde h1).mono λ y hy=>Hp _ hy
  |succ i=>
   have:=UB h3 i a (by simpa using hi);rw[show i0+(i+1)=i0+1+i by omega];exact this.mono λ y hy=>yb _ hy
theorem Rm{all:List ng}:∀{l:List ng} {j0:Nat} {fl:List (Nat×Nat)},F7 all l j0=.ok fl->∀j b,l[j]?=U b->∀i a,i<j0+j->all[i]?=U a->zA fl i a (j0+j) b
 | [],_,_,_,j,b,hj=>by simp at hj
 |x::l,j0,fl,h,j,b,hj=>by
  unfold F7 at h;obtain⟨p,h1,h2⟩:=R.aF h;obtain⟨q,h3,h4⟩:=R.aF h2;simp only[av]at h4;subst h4;intro i a hi ha;cases j with
  |zero=>
   simp only[dX,eM]at hj;subst hj;have:=UB h1 i a (by rw[oz,aC (by omega)];exact ha);rw[dO]at this;exact this.mono λ y hy=>Hp _ hy
  |succ j=>
   have:=Rm h3 j b (by simpa using hj) i a (by omega) ha;rw[show j0+(j+1)=j0+1+j by omega];exact this.mono λ y hy=>yb _ hy
def J5{a b:List Nat}(h:sP a b=af):∀x,x∈a->x∉b:=by
 intro x ha hb;have:sP a b=aa:=List.any_eq_true.2 ⟨x,ha,List.any_eq_true.2 ⟨x,hb,by simp⟩⟩;rw[h]at this;cases this
end
inductive uo (ops:Array Oper):(Nat->Prop)->List Nat->Prop
 |nil {S:Nat->Prop} (h:∀i,i<ops.size->S i):uo ops S []
 |cons {S:Nat->Prop} {i:Nat} {rest:List Nat} {o:Oper} (ho:ops[i]?=U o) (hn:¬S i) (he:∀e∈o.after,Region.binds .any e=aa->S e.on)
  (h:uo ops (λ j=>S j\/j=i) rest):uo ops S (i::rest)
variable {ops:Array Oper}
def uo.congr{S S':Nat->Prop}{l:List Nat}(h:uo ops S l)(hs:∀j,S j↔S' j):uo ops S' l:=by
 have:=funext λ j=>propext (hs j)
 rw[<-this];exact h
def missing(ops:Array Oper)(listed:Array Bool):Nat:=((jE ops.size).filter λ i=>!listed.getD i aa).length
variable {i:Nat}
def Jy{l:Array Bool}(h:i<l.size):l.getD i aa=l.getD i af:=by simp[Array.getD,h]
theorem filter_le{α:Type}{p q:α->Bool}:∀{l:List α},(∀x∈l,q x=aa->p x=aa)->(l.filter q).length<=(l.filter p).length
 | [],_=>by simp
 |y::l,h1=>by
  have ih:=filter_le (l:=l) λ x hx=>h1 x (by simp[hx])
  have hy:=h1 y (by simp);rw[kS,kS];cases hq:q y<;>cases hp:p y<;>simp_all<;>omega
theorem filter_lt{α:Type}{p q:α->Bool}:∀{l:List α},(∀x∈l,q x=aa->p x=aa)->(∃x∈l,p x=aa/\q x=af)->(l.filter q).length<(l.filter p).length
 | [],_,h=>by obtain⟨x,hx,_⟩:=h;cases hx
 |y::l,h1,⟨x,hx,hp,hq⟩=>by
  have hle:=filter_le (l:=l) λ x hx=>h1 x (by simp[hx])
  have hy:=h1 y (by simp);rw[kS,kS];rcases cC.1 hx with rfl|hx
  .simp[hp,hq];omega
  .have ih:=filter_lt (λ x hx=>h1 x (by simp[hx])) ⟨x,hx,hp,hq⟩;cases hqy:q y<;>cases hpy:p y<;>simp_all<;>omega
theorem PT(hback:∀(i:Nat) (o:Oper),ops[i]?=U o->∀e∈o.after,Region.binds .any e=aa->e.on<i):
 ∀(fuel t:Nat) (listed:Array Bool),listed.size=ops.size->missing ops listed<=fuel->uo ops (λ j=>listed.getD j af=aa) (Region.linearise.go .any ops fuel t listed [])
 |0,t,listed,hs,hm=>by
  simp only[Region.linearise.go,List.reverse_nil];refine .nil λ i hi=>?_
  have h0:(jE ops.size).filter (λ i=>!listed.getD i aa)=[]:=eQ.1 (by unfold missing at hm;omega);have:=List.filter_eq_nil_iff.1 h0 i (by simpa using hi);rw[<-Jy (by omega)];simpa using this
 |fuel+1,t,listed,hs,hm=>by
  simp only[Region.linearise.go];change uo ops _ (match(Region.ready .any ops listed)[t % (Region.ready .any ops listed).length]? with
   |some i=>Region.linearise.go .any ops fuel (t/(Region.ready .any ops listed).length) (listed.setIfInBounds i aa) [i]
   |none=>[].reverse)
  cases hi:(Region.ready .any ops listed)[t % (Region.ready .any ops listed).length]? with
  |none=>
   have hnil:Region.ready .any ops listed=[]:=by
    cases hr:Region.ready .any ops listed with
    |nil=>rfl
    |cons x xs=>
     rw[hr]at hi;have hlt:t % (x::xs).length<(x::xs).length:=iU _ (by simp);simp at hi;simp at hlt;omega
   refine .nil λ i=>?_
   induction i using yi with
   |ind i ih=>
    intro hlt;cases hl:listed.getD i af with
    |true=>rfl
    |false=>
     exfalso;have hmem:i∈Region.ready .any ops listed:=by
      rw[mem_ready];refine⟨by rw[Jy (by omega)];exact hl,ops[i],by simp[hlt],λ e he hb=>?_⟩;have:=hback i ops[i] (by simp[hlt]) e he hb;exact ih e.on this (by omega)
     rw[hnil]at hmem;cases hmem
  |some i=>
   simp only[];rw[linearise_go_acc,List.reverse_singleton,List.singleton_append];have hmem:=fh hi;rw[mem_ready]at hmem;obtain⟨h1,o,ho,he⟩:=hmem;have hlt:=(fU.1 ho).1;have hset:∀j,(listed.setIfInBounds i aa).getD j af=aa↔(listed.getD j af=aa\/j=i):=by
    intro j;by_cases hj:j=i
    .subst hj;simp[Array.getD,hs,hlt]
    .rw[getD_set_ne af (Ne.symm hj)];simp[hj]
   refine .cons ho (by rw[<-Jy (by omega),h1];simp) he ((PT hback fuel _ _ (by simpa using hs) ?_).congr hset);have:missing ops (listed.setIfInBounds i aa)<missing ops listed:=by
    refine filter_lt (λ x hx hq=>?_) ⟨i,by simpa using hlt,by simp[h1],by simp[Array.getD,hs,hlt]⟩;by_cases hxi:x=i
    .subst hxi;simp[h1]
    .rw[getD_set_ne aa (Ne.symm hxi)]at hq;exact hq
   omega
section
variable {tb:aO}{ih:aH->St->R (Ex×St)}
def rj(t:T O)(dst:Option Tmp)(v:O):T O:=
 match dst with
 |none=>t
 |some d=>t.set d v
def OS(t:T O)(dst:Option Tmp)(v:O)(x:Nat):(rj t dst v).get x=if dst=U x then U v else t.get x:=by
 cases dst with
 |none=>simp[rj]
 |some d=>
  simp only[rj,T.cq,eM];by_cases h:x=d
  .simp[h]
  .rw[aq h,aq (λ e=>h e.symm)]
variable {dst:Option Tmp}
def Dp{s:St}{v:O}{k:St->R (Ex×St)}{r:Ex×St}(h:bS s dst v k=.ok r):
 k {s with t:=rj s.t dst v}=.ok r/\∀d,dst=U d->d<s.n:=by
 unfold bS at h;split at h
 .exact⟨h,by simp⟩
 .rename_i d;cases hb:aM d s.n with
  |false=>rw[hb]at h;cases h
  |true=>
   rw[hb]at h;simp only[aI,Jq]at h;exact⟨h,λ d' hd=>by cases hd;exact jK hb⟩
def Rt{s:St}{v:O}{k:St->R (Ex×St)}(hd:∀d,dst=U d->d<s.n):bS s dst v k=k {s with t:=rj s.t dst v}:=by
 unfold bS;cases dst with
 |none=>rfl
 |some d=>
  have:aM d s.n=aa:=by rw[bT];exact hd d rfl
  simp only[this,aI,Jq,rj]
theorem CZ:∀(bs:List Nat) (A:Mem),(iy bs A).next=A.next
 | [],_=>rfl
 |b::bs,A=>by rw[iy,CZ bs,cE]
theorem y4:∀(bs:List Nat) (A:Mem) (x:Nat),(iy bs A).get x=if x∈bs then U .dead else A.get x
 | [],_,_=>by simp[iy]
 |b::bs,A,x=>by
  rw[iy,y4 bs,cr];by_cases h:x∈bs
  .simp[h]
  .by_cases h2:x=b<;>simp[h,h2]
theorem EA{g:Nat->Option Ob}:∀{bs:List Nat} {A A':Mem},kh g bs A=.ok A'->A'.next=A.next
 | [],A,A',h=>by simp only[kh,av]at h;rw[h]
 |b::bs,A,A',h=>by
  unfold kh at h;split at h
  .rw[EA h,cE]
  .cases h
theorem Ez{g:Nat->Option Ob}:∀{bs:List Nat} {A A':Mem},kh g bs A=.ok A'->(∀x∈bs,∃o,g x=U o)/\∀x,A'.get x=if x∈bs then g x else A.get x
 | [],A,A',h=>by simp only[kh,av]at h;subst h;exact⟨by simp,by simp⟩
 |b::bs,A,A',h=>by
  unfold kh at h;split at h
  .rename_i o ho;obtain⟨h1,h2⟩:=Ez h;refine⟨λ x hx=>?_,λ x=>?_⟩
   .rcases cC.1 hx with rfl|hx
    .exact⟨o,ho⟩
    .exact h1 x hx
   .rw[h2,cr];by_cases hx:x∈bs
    .simp[hx]
    .by_cases hb:x=b
     .subst hb;simp[hx,ho]
     .simp[hx,hb]
  .cases h
structure L7 (tb : aO) (ih : aH -> St -> R (Ex × St)) (ops : List Oper) (o : Oper) (s s1 : St) (w : Bool) (v : O) (bs : List Nat) : Prop where
  want : jc ops o s.t = .ok w
  dst : ∀ d, o.dst = U d -> d < s.n
  to : s1 = { s with m := s1.m, t := rj s.t o.dst v }
  no : w = af -> v = cL /\ s1.m = s.m
  kind : w = aa -> match cls tb o.op with
       | .P => gT tb s.t o.op = .ok v /\ s1.m = s.m
       | .Rd => eB tb s.t s.m.get o.op = .ok v /\ s1.m = s.m
       | .Al => ∃ ob way, l_ tb s.t o.op = .ok (ob, way) /\ s1.m = s.m.alloc ob /\ v = way.at s.m.next
       | .L => ∃ A1, zF tb ih o s.t (iy bs s.m) v A1 /\ kh s.m.get bs A1 = .ok s1.m
def RO{g:Nat->Option Ob}{x:Rec}(h:jA tb g x=aa):eB tb x.t g x.o=.ok x.v:=by
 unfold jA at h;split at h
 .rename_i v hv;rw[hv,zh _ _ _ h]
 .cases h
variable {r:Nat}
def Kq{l:Nat}{fl:List (Nat×Nat)}(h:(r,l)∈fl):eA r l fl=aa:=
 List.any_eq_true.2 ⟨_,h,by simp⟩
def Xt(tb:aO)(ops:Array Oper)(st:Nat->St)(wb:Nat->Bool)(M:Mem)(i q:Nat)(A:Mem):Prop:=
 ∀b ob,A.get b=U ob->M.get b=U ob\/∃p o,i<=p/\p<q/\ops[p]?=U o/\wb p=aa/\cls tb o.op=.Al/\b=(st p).m.next/\(st (p+1)).m.get b=U ob
def Xt.self{st:Nat->St}{wb:Nat->Bool}{M:Mem}{q:Nat}:Xt tb ops st wb M i q M:=λ _ _ h=>.inl h
variable {A:Mem}{j:Nat}
def Xt.up{st st':Nat->St}{wb wb':Nat->Bool}{M M':Mem}{q:Nat}(h:Xt tb ops st wb M j q A)(hij:i<=j)(hs:∀p,j<=p->st' p=st p)(hw:∀p,j<=p->wb' p=wb p)
 (hM:∀b ob,M.get b=U ob->M'.get b=U ob\/∃p o,i<=p/\p<q/\ops[p]?=U o/\wb' p=aa/\cls tb o.op=.Al/\b=(st' p).m.next/\(st' (p+1)).m.get b=U ob):Xt tb ops st' wb' M' i q A:=by
 intro b ob hb;rcases h b ob hb with h1|⟨p,o,h1,h2,h3,h4,h5,h6,h7⟩
 .exact hM b ob h1
 .exact .inr ⟨p,o,by omega,h2,h3,by rw[hw p h1];exact h4,h5,by rw[hs p h1];exact h6,by rw[hs (p+1) (by omega)];exact h7⟩
structure Row (tb:aO) (ih:aH->St->R (Ex×St)) (ops:Array Oper) (fl:List (Nat×Nat)) (i:Nat) (st:Nat->St) (wb:Nat->Bool) (vv:Nat->O) (hb:Nat->List Nat):Prop where
 step:∀p o,i<=p->ops[p]?=U o->L7 tb ih ops.toList o (st p) (st (p+1)) (wb p) (vv p) (hb p)
 late:∀p q o o',i<=p->p<q->ops[p]?=U o->ops[q]?=U o'->wb p=aa->wb q=aa->cls tb o.op=.Rd->cls tb o'.op=.L->(p,q)∈fl->eB tb (st p).t (st (q+1)).m.get o.op=.ok (vv p)
 early:∀p q o o',i<=p->p<q->ops[p]?=U o->ops[q]?=U o'->wb p=aa->wb q=aa->cls tb o.op=.L->cls tb o'.op=.Rd->(q,p)∈fl->∃A,Xt tb ops st wb (st p).m p q A/\eB tb (st q).t A.get o'.op=.ok (vv q)
 float:∀p q o o',i<=p->p<q->ops[p]?=U o->ops[q]?=U o'->wb p=aa->wb q=aa->cls tb o.op=.Al->cls tb o'.op=.L->(p,q)∈fl->(st p).m.next∈hb q
structure Aa (tb:aO) (ih:aH->St->R (Ex×St)) (ops:Array Oper) (fl:List (Nat×Nat)) (i:Nat) (mems:List (Nat×Mem)) (recs:List Rec) (mks:List (Nat×Nat)) (st:Nat->St) (wb:Nat->Bool) (vv:Nat->O) (hb:Nat->List Nat):Prop where
 row:Row tb ih ops fl i st wb vv hb
 recs:∀x∈recs,∀q o',i<=q->ops[q]?=U o'->wb q=aa->cls tb o'.op=.L->(x.i,q)∈fl->eB tb x.t (st (q+1)).m.get x.o=.ok x.v
 mems:∀m∈mems,∀q o',i<=q->ops[q]?=U o'->wb q=aa->cls tb o'.op=.Rd->(q,m.1)∈fl->∃A,Xt tb ops st wb m.2 i q A/\eB tb (st q).t A.get o'.op=.ok (vv q)
 mks:∀m∈mks,∀q o',i<=q->ops[q]?=U o'->wb q=aa->cls tb o'.op=.L->(m.1,q)∈fl->m.2∈hb q
def Aa.cons{fl:List (Nat×Nat)}{o:Oper}{s:St}{w:Bool}{v:O}{bs:List Nat}{st:Nat->St}{wb:Nat->Bool}{vv:Nat->O}{hb:Nat->List Nat}
 {mems mems':List (Nat×Mem)}{recs recs':List Rec}{mks mks':List (Nat×Nat)}
 (ho:ops[i]?=U o)(h:Aa tb ih ops fl (i+1) mems' recs' mks' st wb vv hb)(hs:L7 tb ih ops.toList o s (st (i+1)) w v bs)
 (hm:∀m∈mems,∃M,(m.1,M)∈mems'/\∀b ob,M.get b=U ob->m.2.get b=U ob\/(w=aa/\cls tb o.op=.Al/\b=s.m.next/\(st (i+1)).m.get b=U ob))(hr:∀x∈recs,x∈recs')(hk:∀x∈mks,x∈mks')
 (hR:w=aa->cls tb o.op=.Rd->⟨i,s.t,o.op,v⟩∈recs'/\∀m∈mems,(i,m.1)∈fl->eB tb s.t m.2.get o.op=.ok v)
 (hL:w=aa->cls tb o.op=.L->(i,s.m)∈mems'/\(∀x∈recs,(x.i,i)∈fl->eB tb x.t (st (i+1)).m.get x.o=.ok x.v)/\∀m∈mks,(m.1,i)∈fl->m.2∈bs)
 (hA:w=aa->cls tb o.op=.Al->(i,s.m.next)∈mks'):
 Aa tb ih ops fl i mems recs mks (λ p=>if p<=i then s else st p) (λ p=>if p<=i then w else wb p) (λ p=>if p<=i then v else vv p) (λ p=>if p<=i then bs else hb p):=by
 have hst:∀p,i<p->(if p<=i then s else st p)=st p:=λ p hp=>aq (by omega)
 have hwb:∀p,i<p->(if p<=i then w else wb p)=wb p:=λ p hp=>aq (by omega)
 have hvv:∀p,i<p->(if p<=i then v else vv p)=vv p:=λ p hp=>aq (by omega)
 have hhb:∀p,i<p->(if p<=i then bs else hb p)=hb p:=λ p hp=>aq (by omega)
 refine⟨⟨λ p o' hp ho'=>?_,λ p q op oq hp hpq hop hoq hwp hwq hcp hcq hfl=>?_,λ p q op oq hp hpq hop hoq hwp hwq hcp hcq hfl=>?_,λ p q op oq hp hpq hop hoq hwp hwq hcp hcq hfl=>?_⟩,
  λ x hx q oq hq hoq hwq hcq hfl=>?_,λ m hmm q oq hq hoq hwq hcq hfl=>?_,λ m hmm q oq hq hoq hwq hcq hfl=>?_⟩
 .by_cases he:p=i
  .subst he;rw[ho]at ho';cases ho';have h3:¬p+1<=p:=by omega
   simp only[h3,bO,aJ,bR];exact hs
  .have h1:¬p<=i:=by omega
   have h2:¬p+1<=i:=by omega
   simp only[h1,h2,bO];exact h.row.step p o' (by omega) ho'
 .simp only[hwb q (by omega)]at hwq;simp only[hst (q+1) (by omega)];by_cases he:p=i
  .subst he;rw[ho]at hop;cases hop;simp only[aJ,bR]at hwp⊢;exact h.recs _ (hR hwp hcp).1 q oq (by omega) hoq hwq hcq hfl
  .simp only[hwb p (by omega)]at hwp;simp only[hst p (by omega),hvv p (by omega)];exact h.row.late p q op oq (by omega) hpq hop hoq hwp hwq hcp hcq hfl
 .simp only[hwb q (by omega)]at hwq;simp only[hst q (by omega),hvv q (by omega)];by_cases he:p=i
  .subst he;rw[ho]at hop;cases hop;simp only[aJ,bR]at hwp⊢;obtain⟨A,hA,hrd⟩:=h.mems _ (hL hwp hcp).1 q oq (by omega) hoq hwq hcq hfl;exact⟨A,hA.up (Nat.le_succ _) (λ x hx=>hst x hx) (λ x hx=>hwb x hx) λ _ _ hb=>.inl hb,hrd⟩
  .simp only[hwb p (by omega)]at hwp;simp only[hst p (by omega)];obtain⟨A,hA,hrd⟩:=h.row.early p q op oq (by omega) hpq hop hoq hwp hwq hcp hcq hfl;exact⟨A,hA.up (aJ _) (λ x hx=>hst x (by omega)) (λ x hx=>hwb x (by omega)) λ _ _ hb=>.inl hb,hrd⟩
 .simp only[hwb q (by omega)]at hwq;simp only[hhb q (by omega)];by_cases he:p=i
  .subst he;rw[ho]at hop;cases hop;simp only[aJ,bR]at hwp⊢;exact h.mks _ (hA hwp hcp) q oq (by omega) hoq hwq hcq hfl
  .simp only[hwb p (by omega)]at hwp;simp only[hst p (by omega)];exact h.row.float p q op oq (by omega) hpq hop hoq hwp hwq hcp hcq hfl
 .simp only[hst (q+1) (by omega)];by_cases he:q=i
  .subst he;rw[ho]at hoq;cases hoq;simp only[aJ,bR]at hwq;exact(hL hwq hcq).2.1 x hx hfl
  .simp only[hwb q (by omega)]at hwq;exact h.recs x (hr x hx) q oq (by omega) hoq hwq hcq hfl
 .by_cases he:q=i
  .subst he;rw[ho]at hoq;cases hoq;simp only[aJ,bR]at hwq⊢;exact⟨m.2,.self,(hR hwq hcq).2 m hmm hfl⟩
  .simp only[hwb q (by omega)]at hwq;simp only[hst q (by omega),hvv q (by omega)];obtain⟨M,hM,hMb⟩:=hm m hmm;obtain⟨A,hA,hrd⟩:=h.mems _ hM q oq (by omega) hoq hwq hcq hfl;refine⟨A,hA.up (Nat.le_succ _) (λ x hx=>hst x hx) (λ x hx=>hwb x hx) λ b ob hb=>?_,hrd⟩;rcases hMb b ob hb with h1|⟨h1,h2,h3,h4⟩
   .exact .inl h1
   .refine .inr ⟨i,o,aJ _,by omega,ho,?_,h2,?_,?_⟩
    .simp only[aJ,bR];exact h1
    .simp only[aJ,bR];exact h3
    .simp only[hst (i+1) (by omega)];exact h4
 .by_cases he:q=i
  .subst he;rw[ho]at hoq;cases hoq;simp only[aJ,bR]at hwq⊢;exact(hL hwq hcq).2.2 m hmm hfl
  .simp only[hwb q (by omega)]at hwq;simp only[hhb q (by omega)];exact h.mks m (hk m hmm) q oq (by omega) hoq hwq hcq hfl
variable {b:Nat}
def Va{o:Oper}{x:Option Ob}{mems:List (Nat×Mem)}{m:Nat×Mem}{w:Bool}(hw:w=aa)(hc:cls tb o.op=.Al)(hx:A.get b=x)(h:m∈mems):
 ∃M,(m.1,M)∈rS b x mems/\∀c ob,M.get c=U ob->m.2.get c=U ob\/(w=aa/\cls tb o.op=.Al/\c=b/\A.get c=U ob):=by
 cases x with
 |none=>exact⟨m.2,h,λ _ _ hb=>.inl hb⟩
 |some y=>
  refine⟨m.2.set b y,dA.2 ⟨m,h,rfl⟩,λ c ob hb=>?_⟩;rw[cr]at hb;split at hb
  .rename_i e;subst e;cases hb;exact .inr ⟨hw,hc,rfl,hx⟩
  .exact .inl hb
theorem AV{fl:List (Nat×Nat)}:∀(l:List Oper) (i:Nat),(∀j,l[j]?=ops[i+j]?)->∀{mems:List (Nat×Mem)} {recs:List Rec} {mks:List (Nat×Nat)} {s s':St},
 dW tb ih ops.toList fl l i mems recs mks s=.ok (.nrm,s')->∃st wb vv hb,st i=s/\st (i+Z l)=s'/\Aa tb ih ops fl i mems recs mks st wb vv hb
 | [],i,hl,mems,recs,mks,s,s',h=>by
  have h':R.ok (Ex.nrm,s)=R.ok (Ex.nrm,s'):=h;simp only[av,bf,true_and]at h';have hno:∀p o,i<=p->ops[p]?=U o->False:=λ p o hp ho=>by
   have:=hl (p-i);rw[show i+(p-i)=p by omega,ho]at this;cases this
  exact⟨λ _=>s,λ _=>af,λ _=>cL,λ _=>[],rfl,h',⟨λ p o hp ho=>(hno p o hp ho).elim,λ p _ o _ hp _ ho=>(hno p o hp ho).elim,λ p _ o _ hp _ ho=>(hno p o hp ho).elim,λ p _ o _ hp _ ho=>(hno p o hp ho).elim⟩,
   λ _ _ p o hp ho=>(hno p o hp ho).elim,λ _ _ p o hp ho=>(hno p o hp ho).elim,λ _ _ p o hp ho=>(hno p o hp ho).elim⟩
 |o::l,i,hl,mems,recs,mks,s,s',h=>by
  have ho:ops[i]?=U o:=by have:=hl 0;simpa using this.symm
  have hl':∀j,l[j]?=ops[i+1+j]?:=λ j=>by
   have:=hl (j+1);rw[show i+1+j=i+(j+1) by omega];simpa using this
  have h':((jc ops.toList o s.t).bind λ w=>
   bif w then
    match cls tb o.op with
    |.L=>bB tb ih o {s with m:=iy ((mks.filter λ x=>eA x.1 i fl).map (·.2)) s.m} λ s'=>
     (kh s.m.get ((mks.filter λ x=>eA x.1 i fl).map (·.2)) s'.m).bind λ A=>
     bif (recs.filter λ x=>eA x.i i fl).all (jA tb A.get)then dW tb ih ops.toList fl l (i+1) ((i,s.m)::mems) recs mks {s' with m:=A}else .no 310
    |.Rd=>(eB tb s.t s.m.get o.op).bind λ v=>
     bif (mems.filter λ m=>eA i m.1 fl).all (λ m=>jA tb m.2.get ⟨i,s.t,o.op,v⟩)then bS s o.dst v (dW tb ih ops.toList fl l (i+1) mems (⟨i,s.t,o.op,v⟩::recs) mks)else .no 311
    |.Al=>bB tb ih o s λ s'=>dW tb ih ops.toList fl l (i+1) (rS s.m.next (s'.m.get s.m.next) mems) recs ((i,s.m.next)::mks) s'
    |.P=>bB tb ih o s (dW tb ih ops.toList fl l (i+1) mems recs mks)
   else bS s o.dst cL (dW tb ih ops.toList fl l (i+1) mems recs mks))=.ok (.nrm,s'):=h
  clear h;obtain⟨w,h1,h2⟩:=R.aF h';clear h';have fin:∀{st:Nat->St} {wb:Nat->Bool} {vv:Nat->O} {hb:Nat->List Nat} {w:Bool} {v:O} {bs:List Nat},st (i+1+Z l)=s'->
   Aa tb ih ops fl i mems recs mks (λ p=>if p<=i then s else st p) (λ p=>if p<=i then w else wb p) (λ p=>if p<=i then v else vv p) (λ p=>if p<=i then bs else hb p)->
   ∃st wb vv hb,st i=s/\st (i+(o::l).length)=s'/\Aa tb ih ops fl i mems recs mks st wb vv hb:=by
   intro st wb vv hb w v bs e h;refine⟨_,_,_,_,by simp,?_,h⟩;have:¬i+(o::l).length<=i:=by simp
   simp only[this,bO];rw[<-e];congr 1;simp only[cd];omega
  cases w with
  |false=>
   rw[ba]at h2;obtain⟨hk,hd⟩:=Dp h2;obtain⟨st,wb,vv,hb,e1,e2,hr⟩:=AV l (i+1) hl' hk;exact fin e2 (hr.cons (bs:=[]) ho ⟨h1,hd,by rw[e1],λ _=>⟨rfl,by rw[e1]⟩,by simp⟩ (λ m h=>⟨m.2,h,λ _ _ hb=>.inl hb⟩) (λ _ h=>h) (λ _ h=>h) (by simp) (by simp) (by simp))
  |true=>
   rw[aI]at h2;split at h2
   .rename_i hc;rcases Kj h2 with⟨v,s1,h3⟩|⟨v,A,hp,hdo,_⟩
    .cases h3
    .obtain⟨hk,hd⟩:=Dp hp;obtain⟨A',hb',h5⟩:=R.aF hk;simp only at h5;cases hq:(recs.filter λ x=>eA x.i i fl).all (jA tb A'.get)with
     |false=>rw[hq]at h5;cases h5
     |true=>
      rw[hq,aI]at h5;obtain⟨st,wb,vv,hb,e1,e2,hr⟩:=AV l (i+1) hl' h5;have hm1:(st (i+1)).m=A':=by rw[e1]
      refine fin e2 (hr.cons (bs:=(mks.filter λ x=>eA x.1 i fl).map (·.2)) ho ⟨h1,hd,by rw[e1],by simp,λ _=>?_⟩ (λ m h=>⟨m.2,cU _ h,λ _ _ hb=>.inl hb⟩) (λ _ h=>h) (λ _ h=>h)
       (λ _ hc'=>by rw[hc]at hc';cases hc') (λ _ _=>⟨cM,λ x hx hfl=>?_,λ m hm hfl=>?_⟩) (λ _ hc'=>by rw[hc]at hc';cases hc'))
      .rw[hc];exact⟨A,hdo,by rw[hm1];exact hb'⟩
      .rw[hm1];exact RO (ov.1 hq x (qy.2 ⟨hx,Kq hfl⟩))
      .exact dA.2 ⟨m,qy.2 ⟨hm,Kq hfl⟩,rfl⟩
   .rename_i hc;obtain⟨v,h3,h4⟩:=R.aF h2;cases hq:(mems.filter λ m=>eA i m.1 fl).all (λ m=>jA tb m.2.get ⟨i,s.t,o.op,v⟩)with
    |false=>rw[hq]at h4;cases h4
    |true=>
     rw[hq,aI]at h4;obtain⟨hk,hd⟩:=Dp h4;obtain⟨st,wb,vv,hb,e1,e2,hr⟩:=AV l (i+1) hl' hk;refine fin e2 (hr.cons (bs:=[]) ho ⟨h1,hd,by rw[e1],by simp,λ _=>?_⟩ (λ m h=>⟨m.2,h,λ _ _ hb=>.inl hb⟩) (λ _ h=>cU _ h) (λ _ h=>h)
      (λ _ _=>⟨cM,λ m hm hfl=>?_⟩) (λ _ hc'=>by rw[hc]at hc';cases hc') (λ _ hc'=>by rw[hc]at hc';cases hc'))
     .rw[hc];exact⟨h3,by rw[e1]⟩
     .exact RO (ov.1 hq m (qy.2 ⟨hm,Kq hfl⟩))
   .rename_i hc;rcases Kj h2 with⟨v,s1,h3⟩|⟨v,A,hp,hdo,hkd⟩
    .cases h3
    .obtain⟨hk,hd⟩:=Dp hp;obtain⟨st,wb,vv,hb,e1,e2,hr⟩:=AV l (i+1) hl' hk;have hm1:(st (i+1)).m=A:=by rw[e1]
     refine fin e2 (hr.cons (bs:=[]) ho ⟨h1,hd,by rw[e1],by simp,λ _=>?_⟩ (λ m h=>Va rfl hc (by rw[e1]) h) (λ _ h=>h) (λ _ h=>cU _ h)
      (λ _ hc'=>by rw[hc]at hc';cases hc') (λ _ hc'=>by rw[hc]at hc';cases hc') (λ _ _=>cM))
     rw[hc]at hkd⊢;simp only at hkd⊢;obtain⟨ob,way,k1,k2,k3⟩:=hkd;exact⟨ob,way,k1,by rw[hm1,k2],k3⟩
   .rename_i hc;rcases Kj h2 with⟨v,s1,h3⟩|⟨v,A,hp,hdo,hkd⟩
    .cases h3
    .obtain⟨hk,hd⟩:=Dp hp;obtain⟨st,wb,vv,hb,e1,e2,hr⟩:=AV l (i+1) hl' hk;have hm1:(st (i+1)).m=A:=by rw[e1]
     refine fin e2 (hr.cons (bs:=[]) ho ⟨h1,hd,by rw[e1],by simp,λ _=>?_⟩ (λ m h=>⟨m.2,h,λ _ _ hb=>.inl hb⟩) (λ _ h=>h) (λ _ h=>h)
      (λ _ hc'=>by rw[hc]at hc';cases hc') (λ _ hc'=>by rw[hc]at hc';cases hc') (λ _ hc'=>by rw[hc]at hc';cases hc'))
     rw[hc]at hkd⊢;simp only at hkd⊢;exact⟨hkd.1,by rw[hm1,hkd.2]⟩
end
section
variable {tb:aO}{ih:aH->St->R (Ex×St)}
structure Stat (tb:aO) (ops:Array Oper) (fl:List (Nat×Nat)) (ah:Nat->Nat->Prop):Prop where
 ap:∀i j oi oj,i<j->ops[i]?=U oi->ops[j]?=U oj->ah i j\/((∀x,oi.dst=U x->oj.dst≠U x)/\(∀x,oi.dst=U x->x∉u_ ops.toList oj)/\(∀x,x∈u_ ops.toList oi->oj.dst≠U x)/\
  ¬(cls tb oi.op=.L/\cls tb oj.op=.L)/\(cls tb oi.op=.Rd->cls tb oj.op=.L->(i,j)∈fl)/\(cls tb oi.op=.L->cls tb oj.op=.Rd->(j,i)∈fl)/\(cls tb oi.op=.Al->cls tb oj.op=.L->(i,j)∈fl))
 edge:∀i o,ops[i]?=U o->∀k,ah k i->∃e∈o.after,Region.binds .any e=aa/\(k=e.on\/ah k e.on)
 back:∀(i:Nat) (o:Oper),ops[i]?=U o->∀e∈o.after,Region.binds .any e=aa->e.on<i
def qhL{ops:Array Oper}{fl:List (Nat×Nat)}(h:uH tb ops.toList=.ok fl):∃ah,Stat tb ops fl ah:=by
 unfold uH at h;obtain⟨l,h1,h2⟩:=R.aF h;obtain⟨hlen,hinfo⟩:=Pn h1;have hpair:=Rm h2;have hops:∀i (o:Oper),ops[i]?=U o->ops.toList[i]?=U o:=λ i o ho=>by rw[fW];exact ho
 refine⟨λ k i=>∃x,l[i]?=U x/\x.m.testBit k=aa,⟨λ i j oi oj hij hi hj=>?_,λ i o ho k hk=>?_,λ i o ho e he hb=>?_⟩⟩
 .obtain⟨x,hx,cx,wx,rx,_⟩:=hinfo i oi (hops _ _ hi);obtain⟨y,hy,cy,wy,ry,_⟩:=hinfo j oj (hops _ _ hj);have ha:=hpair j y hy i x (by omega) hx;rw[dO]at ha;rcases ha with ha|⟨h1,h2,h3,h4,h5,h6,h7⟩
  .exact .inl ⟨y,hy,ha⟩
  .refine .inr ⟨λ z hz hz'=>?_,λ z hz hz'=>?_,λ z hz hz'=>?_,by rw[<-cx,<-cy];exact h4,by rw[<-cx,<-cy];exact h5,by rw[<-cx,<-cy];exact h6,by rw[<-cx,<-cy];exact h7⟩
   .exact J5 h1 z (by rw[wx,hz];simp) (by rw[wy,hz'];simp)
   .exact J5 h2 z (by rw[wx,hz];simp) (by rw[ry];exact hz')
   .exact J5 h3 z (by rw[rx];exact hz) (by rw[wy,hz'];simp)
 .obtain⟨x,hx,hbit⟩:=hk;obtain⟨y,hy,_,_,_,hed⟩:=hinfo i o (hops _ _ ho);rw[hx]at hy;cases hy;obtain⟨e,he,hb,a,hacc,hor⟩:=(I2 hed).2 k hbit;refine⟨e,by simpa using he,hb,?_⟩;rcases hor with rfl|ha
  .exact .inl rfl
  .right;rw[lX,da]at hacc;cases hq:(l.take i)[e.on]? with
   |none=>rw[hq]at hacc;cases hacc
   |some z=>
    rw[hq]at hacc;simp only[fZ,eM]at hacc;rw[oz]at hq;split at hq
    .exact⟨z,hq,by rw[hacc];exact ha⟩
    .cases hq
 .obtain⟨y,hy,_,_,_,hed⟩:=hinfo i o (hops _ _ ho);obtain⟨a,hacc⟩:=(I2 hed).1 e (by simpa using he) hb;rw[lX,da]at hacc;cases hq:(l.take i)[e.on]? with
  |none=>rw[hq]at hacc;cases hacc
  |some z=>
   rw[oz]at hq;split at hq
   .assumption
   .cases hq
def vX(ah:Nat->Nat->Prop)(S:Nat->Prop):Prop:=∀j k,S j->ah k j->S k
def vX.ready{ops:Array Oper}{fl:List (Nat×Nat)}{ah:Nat->Nat->Prop}(hs:Stat tb ops fl ah){S:Nat->Prop}(hc:vX ah S){o:Oper}(ho:ops[i]?=U o)
 (he:∀e∈o.after,Region.binds .any e=aa->S e.on):∀k,ah k i->S k:=by
 intro k hk;obtain⟨e,hm,hb,hor⟩:=hs.edge i o ho k hk;rcases hor with rfl|h
 .exact he e hm hb
 .exact hc _ _ (he e hm hb) h
def vX.add{ah:Nat->Nat->Prop}{S:Nat->Prop}(hc:vX ah S)(hr:∀k,ah k i->S k):vX ah (λ j=>S j\/j=i):=by
 intro j k hj hk;rcases hj with hj|rfl
 .exact .inl (hc j k hj hk)
 .exact .inl (hr k hk)
def Cut(ops:Array Oper)(S:Nat->Prop)(x c:Nat):Prop:=c<=ops.size/\∀j o,ops[j]?=U o->o.dst=U x->(S j↔j<c)
def kT(tb:aO)(ops:Array Oper)(wb:Nat->Bool)(S:Nat->Prop)(q:Nat):Prop:=q<=ops.size/\∀j o,ops[j]?=U o->wb j=aa->cls tb o.op=.L->(S j↔j<q)
section rows
variable {ops:Array Oper}{fl:List (Nat×Nat)}{st:Nat->St}{wb:Nat->Bool}{vv:Nat->O}{hb:Nat->List Nat}
variable {p:Nat}
def xI(h:p<ops.size):∃o,ops[p]?=U o:=⟨ops[p],by simp[h]⟩
def Row.TX(hr:Row tb ih ops fl 0 st wb vv hb){o:Oper}(ho:ops[p]?=U o)(x:Nat):(st (p+1)).t.get x=if o.dst=U x then U (vv p)else(st p).t.get x:=by
 rw[(hr.step p o (a6 _) ho).to];exact OS _ _ _ _
def Row.Lk(hr:Row tb ih ops fl 0 st wb vv hb)(x c:Nat):∀c',c<=c'->c'<=ops.size->(∀p o,c<=p->p<c'->ops[p]?=U o->o.dst≠U x)->(st c').t.get x=(st c).t.get x:=by
 intro c'
 induction c' with
 |zero=>intro h _ _;rw[show c=0 by omega]
 |succ d ih'=>
  intro h1 h2 h3;by_cases he:c=d+1
  .rw[he]
  .obtain⟨o,ho⟩:=xI (ops:=ops) (p:=d) (by omega);rw[hr.TX ho x,aq (h3 d o (by omega) (by omega) ho),ih' (by omega) (by omega) λ p o hp hp' ho=>h3 p o hp (by omega) ho]
variable {c:Nat}
def Row.Yq(hr:Row tb ih ops fl 0 st wb vv hb){S:Nat->Prop}{x c':Nat}(h:Cut ops S x c)(h':Cut ops S x c'):(st c).t.get x=(st c').t.get x:=by
 have main:∀c c',Cut ops S x c->Cut ops S x c'->c<=c'->(st c).t.get x=(st c').t.get x:=by
  intro c c' h h' hle;refine(hr.Lk x c c' hle h'.1 λ p o hp hp' ho hd=>?_).symm;have a1:=h.2 p o ho hd;have a2:=h'.2 p o ho hd;have:=a2.2 hp';have:=a1.1 this;omega
 rcases Nat.le_total c c' with hle|hle
 .exact main c c' h h' hle
 .exact(main c' c h' h hle).symm
def AN(f:Nat->Option O):Nat->T O
 |0=>.e
 |n+1=>match f n with
  |some v=>(AN f n).set n v
  |none=>AN f n
def OP(f:Nat->Option O)(n x:Nat):(AN f n).get x=if x<n then f x else Y:=by
 induction n with
 |zero=>simp[AN,T.pC]
 |succ n ih=>
  unfold AN;cases hf:f n with
  |none=>
   simp only[ih];by_cases h:x<n
   .rw[aC h,aC (by omega)]
   .rw[aq h];by_cases h2:x=n
    .subst h2;simp[hf]
    .rw[aq (by omega)]
  |some v=>
   simp only[T.cq,ih];by_cases h2:x=n
   .subst h2;simp[hf]
   .rw[aq h2];by_cases h:x<n
    .rw[aC h,aC (by omega)]
    .rw[aq h,aq (by omega)]
open Classical in
def snap (ops:Array Oper) (st:Nat->St) (S:Nat->Prop) (n:Nat):T Value:=
 AN (λ x=>if h:∃c,Cut ops S x c then(st h.choose).t.get x else none) n
variable {n:Nat}
def Row.Lb(hr:Row tb ih ops fl 0 st wb vv hb){S:Nat->Prop}{x:Nat}(h:Cut ops S x c)(hn:n<=x->(st c).t.get x=Y):(snap ops st S n).get x=(st c).t.get x:=by
 unfold snap;rw[OP];by_cases hx:x<n
 .rw[aC hx,dif_pos ⟨c,h⟩];exact hr.Yq (Exists.choose_spec ⟨c,h⟩) h
 .rw[aq hx,hn (by omega)]
def qhA{S:Nat->Prop}{x:Nat}{v:O}(h:(snap ops st S n).get x=U v):x<n/\∃c,Cut ops S x c/\(st c).t.get x=U v:=by
 unfold snap at h;rw[OP]at h;split at h
 .rename_i hx;split at h
  .rename_i hc;exact⟨hx,hc.choose,hc.choose_spec,h⟩
  .cases h
 .cases h
def GR(ops:Array Oper)(st:Nat->St)(q b:Nat)(o:Ob):Prop:=
 (b<(st q).m.next/\(st q).m.get b=U o)\/∃p,q<=p/\p<ops.size/\(st p).m.next<=b/\b<(st (p+1)).m.next/\(st (p+1)).m.get b=U o
def GL(ops:Array Oper)(st:Nat->St)(q b:Nat):Prop:=∃o,GR ops st q b o/\alive o=aa
def Row.AK(hr:Row tb ih ops fl 0 st wb vv hb){o:Oper}(ho:ops[p]?=U o)(hn:¬(wb p=aa/\cls tb o.op=.L)):
 (st (p+1)).m=(st p).m\/∃ob,(st (p+1)).m=(st p).m.alloc ob/\wb p=aa/\cls tb o.op=.Al:=by
 have hs:=hr.step p o (a6 _) ho;cases hw:wb p with
 |false=>exact .inl (hs.no hw).2
 |true=>
  have hk:=hs.kind hw;cases hc:cls tb o.op with
  |P=>rw[hc]at hk;exact .inl hk.2
  |Rd=>rw[hc]at hk;exact .inl hk.2
  |Al=>
   rw[hc]at hk;obtain⟨ob,way,_,h2,_⟩:=hk;exact .inr ⟨ob,h2,rfl,rfl⟩
  |L=>exact aZ ⟨hw,hc⟩ hn
variable {b:Nat}{ob:Ob}
def Row.U3(hr:Row tb ih ops fl 0 st wb vv hb){o:Oper}(ho:ops[p]?=U o)(hn:¬(wb p=aa/\cls tb o.op=.L))(h:GR ops st (p+1) b ob):GR ops st p b ob:=by
 have hlt:=(fU.1 ho).1;rcases h with⟨h1,h2⟩|⟨q,h1,h2⟩
 .rcases hr.AK ho hn with h3|⟨ob',h3,_⟩
  .rw[h3]at h1 h2;exact .inl ⟨h1,h2⟩
  .by_cases hb':b<(st p).m.next
   .rw[h3,mo,aq (by omega)]at h2;exact .inl ⟨hb',h2⟩
   .exact .inr ⟨p,aJ _,hlt,by omega,h1,h2⟩
 .exact .inr ⟨q,by omega,h2⟩
def Row.LY(hr:Row tb ih ops fl 0 st wb vv hb){q:Nat}:∀q',q<=q'->q'<=ops.size->(∀p o,q<=p->p<q'->ops[p]?=U o->¬(wb p=aa/\cls tb o.op=.L))->∀{b:Nat} {ob:Ob},GR ops st q' b ob->GR ops st q b ob:=by
 intro q'
 induction q' with
 |zero=>intro h _ _ b ob hg;rw[show q=0 by omega];exact hg
 |succ d ih'=>
  intro h1 h2 h3 b ob hg;by_cases he:q=d+1
  .rw[he];exact hg
  .obtain⟨o,ho⟩:=xI (ops:=ops) (p:=d) (by omega);exact ih' (by omega) (by omega) (λ p o hp hp' ho=>h3 p o hp (by omega) ho) (hr.U3 ho (h3 d o (by omega) (by omega) ho) hg)
def Row.UA(hr:Row tb ih ops fl 0 st wb vv hb){q:Nat}(hw:∀b,(st q).m.next<=b->(st q).m.get b=Y):∀q',q<=q'->q'<=ops.size->(∀p o,q<=p->p<q'->ops[p]?=U o->¬(wb p=aa/\cls tb o.op=.L))->
 ∀b,(st q').m.next<=b->(st q').m.get b=Y:=by
 intro q'
 induction q' with
 |zero=>intro h _ _;rw[show 0=q by omega];exact hw
 |succ d ih'=>
  intro h1 h2 h3 b hb';by_cases he:q=d+1
  .rw[<-he]at hb'⊢;exact hw b hb'
  .obtain⟨o,ho⟩:=xI (ops:=ops) (p:=d) (by omega);have old:=ih' (by omega) (by omega) (λ p o hp hp' ho=>h3 p o hp (by omega) ho);rcases hr.AK ho (h3 d o (by omega) (by omega) ho)with h4|⟨ob',h4,_⟩
   .rw[h4]at hb'⊢;exact old b hb'
   .rw[h4,aA]at hb';rw[h4,mo,aq (by omega)];exact old b (by omega)
def Row.OO(hr:Row tb ih ops fl 0 st wb vv hb){q:Nat}:∀q',q<=q'->q'<=ops.size->(∀p o,q<=p->p<q'->ops[p]?=U o->¬(wb p=aa/\cls tb o.op=.L))->
 ∀b,b<(st q).m.next->(st q').m.get b=(st q).m.get b/\(st q).m.next<=(st q').m.next:=by
 intro q'
 induction q' with
 |zero=>intro h _ _ b _;rw[show q=0 by omega];exact⟨rfl,aJ _⟩
 |succ d ih'=>
  intro h1 h2 h3 b hb';by_cases he:q=d+1
  .rw[he];exact⟨rfl,aJ _⟩
  .obtain⟨o,ho⟩:=xI (ops:=ops) (p:=d) (by omega);have old:=ih' (by omega) (by omega) (λ p o hp hp' ho=>h3 p o hp (by omega) ho) b hb';rcases hr.AK ho (h3 d o (by omega) (by omega) ho)with h4|⟨ob',h4,_⟩
   .rw[h4];exact old
   .rw[h4,mo,aq (by omega),aA];exact⟨old.1,by omega⟩
end rows
end
section
variable {tb:aO}(ok:dP tb){ih:aH->St->R (Ex×St)}
variable {n:Nat}{t:T O}{dst:Option Tmp}{v':O}
def TR.put{ι:a8}{a:Act}{v:O}(h:TR ι n t a.tmps)(hv:VR ι v v')(hd:∀d,dst=U d->d<n):
 TR ι n (rj t dst v) (a.put dst v').tmps/\(a.put dst v').defers=a.defers:=by
 cases dst with
 |none=>exact⟨h,rfl⟩
 |some d=>exact⟨h.set (hd d rfl) hv,rfl⟩
include ok in
def zF.snd (hcall:rr tb ih) {o:Oper} {t:T O} {A A':Mem} {v:O} (h:zF tb ih o t A v A') {t':T O} {n:Nat} {d:List Nat} {ro:Option Nat} (hx:∀x∈o.op.operands,ev t x=ev t' x)
 (hd:∀d,o.dst=U d->d<n) (ops:Array Oper) (i:Nat):Hy tb.P ops i o ⟨t',n,d,A,ro⟩ ⟨rj t' o.dst v,n,d,A',ro⟩:=by
 have h1:=h t' n d ro (λ s=>.ok (.nrm,s)) hx;rw[Rt hd]at h1;rcases Kk ok hcall h1 with⟨v,s1,h3,_⟩|⟨s1,hk,hs⟩
 .cases h3
 .simp only[av,bf,true_and]at hk;subst hk;exact hs
section rows
variable {ops:Array Oper}{fl:List (Nat×Nat)}{st:Nat->St}{wb:Nat->Bool}{vv:Nat->O}{hb:Nat->List Nat}{ah:Nat->Nat->Prop}
include ok in
def Row.qcu (hcall:rr tb ih) (hr:Row tb ih ops fl 0 st wb vv hb) {p:Nat} (hp:p<ops.size):(st p).m.next<=(st (p+1)).m.next:=by
 obtain⟨o,ho⟩:=xI hp;by_cases hL:wb p=aa/\cls tb o.op=.L
 .have hs:=hr.step p o (a6 _) ho;have hk:=hs.kind hL.1;rw[hL.2]at hk;obtain⟨A1,h1,h2⟩:=hk;have:=(zF.snd ok hcall h1 (d:=[]) (ro:=Y) (λ _ _=>rfl) hs.dst ops p).1;rw[EA h2];simpa[CZ]using this
 .rcases hr.AK ho hL with h|⟨ob,h,_⟩
  .rw[h];exact aJ _
  .rw[h,aA];omega
include ok in
def Row.qcs (hcall:rr tb ih) (hr:Row tb ih ops fl 0 st wb vv hb) {p:Nat}:∀{q:Nat},p<=q->q<=ops.size->(st p).m.next<=(st q).m.next:=by
 intro q
 induction q with
 |zero=>intro h _;rw[show p=0 by omega];exact aJ _
 |succ d ih'=>
  intro h1 h2;by_cases he:p=d+1
  .rw[he];exact aJ _
  .exact dp (ih' (by omega) (by omega)) (hr.qcu ok hcall (by omega))
variable {ob:Ob}
def Row.kept(hr:Row tb ih ops fl 0 st wb vv hb){i:Nat}{oi:Oper}(hi:ops[i]?=U oi)(hw:wb i=aa)(hc:cls tb oi.op=.Al)(hm:(st (i+1)).m=(st i).m.alloc ob)
 (hmono:∀p q,p<=q->q<=ops.size->(st p).m.next<=(st q).m.next):
 ∀q,i+1<=q->q<=ops.size->(∀j oj,i<j->j<q->ops[j]?=U oj->wb j=aa->cls tb oj.op=.L->(i,j)∈fl)->(st q).m.get (st i).m.next=U ob:=by
 intro q
 induction q with
 |zero=>intro h;omega
 |succ d ih'=>
  intro h1 h2 h3;by_cases he:i=d
  .subst he;rw[hm,mo,aC rfl]
  .obtain⟨o,ho⟩:=xI (ops:=ops) (p:=d) (by omega);have old:=ih' (by omega) (by omega) λ j oj hj hj'=>h3 j oj hj (by omega)
   by_cases hL:wb d=aa/\cls tb o.op=.L
   .have hk:=(hr.step d o (a6 _) ho).kind hL.1;rw[hL.2]at hk;obtain⟨A1,_,h5⟩:=hk;have hin:=hr.float i d oi o (a6 _) (by omega) hi ho hw hL.1 hc hL.2 (h3 d o (by omega) (by omega) ho hL.1 hL.2);rw[(Ez h5).2,aC hin,old]
   .rcases hr.AK ho hL with h|⟨ob',h,_⟩
    .rw[h];exact old
    .rw[h,mo,aq]
     .exact old
     .have:=hmono (i+1) d (by omega) (by omega);rw[hm,aA]at this;omega
variable {k:Nat}
def Row.OV(hr:Row tb ih ops fl 0 st wb vv hb){q:Nat}{x:Nat}{t:aj}{c:T O}:∀q',q<=q'->q'<=ops.size->(∀p o,q<=p->p<q'->ops[p]?=U o->¬(wb p=aa/\cls tb o.op=.L))->
 (st q').m.get x=U (.cells t .row (GB k) c)->(st q).m.get x=U (.cells t .row (GB k) c):=by
 intro q'
 induction q' with
 |zero=>intro h _ _;rw[show q=0 by omega];exact id
 |succ d ih'=>
  intro h1 h2 h3 hx;by_cases he:q=d+1
  .rw[he];exact hx
  .obtain⟨o,ho⟩:=xI (ops:=ops) (p:=d) (by omega);refine ih' (by omega) (by omega) (λ p o hp hp' ho=>h3 p o hp (by omega) ho) ?_;rcases hr.AK ho (h3 d o (by omega) (by omega) ho)with h4|⟨ob',h4,h5,h6⟩
   .rwa[h4]at hx
   .have hk:=(hr.step d o (a6 _) ho).kind h5;rw[h6]at hk;obtain⟨ob,way,k1,k2,_⟩:=hk;rw[k2,mo]at hx;split at hx
    .exact aZ (je hx) (HO k1 t k c)
    .exact hx
structure Inv (tb:aO) (ops:Array Oper) (st:Nat->St) (wb:Nat->Bool) (ah:Nat->Nat->Prop) (b:Frame) (ι0:a8) (w0:aG) (S:Nat->Prop) (ι:a8) (a:Act) (w:aG):Prop where
 cl:vX ah S
 size:a.tmps.size=(st 0).n
 tm:∀x c v,Cut ops S x c->(st c).t.get x=U v->∃v',a.tmps[x]?=U v'/\VR ι v v'
 ro:BN ι (st 0).ro b.roundOf
 dr:DR ι (st 0).d a.defers b.defers
 wf:∀q,kT tb ops wb S q->∀x,(st q).m.next<=x->(st q).m.get x=Y
 obs:∀q,kT tb ops wb S q->∀x o l,GR ops st q x o->alive o=aa->ι x=U l->∃o',w.heap[l.blk]?=U o'/\OR ι o l o'
 rng:∀x l,ι x=U l->l.blk<w.heap.size
 inj:∀q,kT tb ops wb S q->∀x y l l',GL ops st q x->GL ops st q y->ι x=U l->ι y=U l'->l.blk=l'.blk->x=y
 free:∀i,i<ops.size->¬S i->∀x,(st i).m.next<=x->x<(st (i+1)).m.next->ι x=Y
 out:∀x,x<(st 0).m.next\/(st ops.size).m.next<=x->ι x=ι0 x
 src:∀q,kT tb ops wb S q->∀x l,GL ops st q x->ι x=U l->w0.heap.size<=l.blk\/∃b0 l0,live (st 0).m b0/\ι0 b0=U l0/\l0.blk=l.blk
 fr:∀c,c<w0.heap.size->(∀x l,live (st 0).m x->ι0 x=U l->l.blk≠c)->w.heap[c]?=w0.heap[c]?
 sz:w0.heap.size<=w.heap.size
 os:w.os=w0.os
 tape:w.tape=w0.tape
 output:w.output=w0.output
 kp:∀x l,ι0 x=U l->Still (st 0).m x l->(∀q,kT tb ops wb S q->(st q).m.get x=(st 0).m.get x)/\w.heap[l.blk]?=w0.heap[l.blk]?
 gl:∀q,kT tb ops wb S q->∀x t k c,(st q).m.get x=U (.cells t .row (GB k) c)->∃l,ι x=U l/\l.blk=k/\l.sh=0/\l.sz<=18446744073709551616
structure ke (tb:aO) (ih:aH->St->R (Ex×St)) (ops:Array Oper) (fl:List (Nat×Nat)) (st:Nat->St) (wb:Nat->Bool) (vv:Nat->O) (hb:Nat->List Nat) (ah:Nat->Nat->Prop) (S:Nat->Prop) (i:Nat) (o:Oper):Prop where
 row:Row tb ih ops fl 0 st wb vv hb
 sta:Stat tb ops fl ah
 cl:vX ah S
 ho:ops[i]?=U o
 hn:¬S i
 ready:∀k,ah k i->S k
variable {S:Nat->Prop}{i:Nat}{o:Oper}
def ke.cut(h:ke tb ih ops fl st wb vv hb ah S i o){x:Nat}(hx:x∈u_ ops.toList o):Cut ops S x i:=by
 refine⟨Ef (fU.1 h.ho).1,λ j oj hj hd=>?_⟩;rcases zX j i with hlt|rfl|hgt
 .refine⟨λ _=>hlt,λ _=>?_⟩;rcases h.sta.ap j i oj o hlt hj h.ho with ha|⟨_,h2,_⟩
  .exact h.ready j ha
  .exact aZ hx (h2 x hd)
 .exact⟨λ hs=>aZ hs h.hn,λ hl=>by omega⟩
 .refine⟨λ hs=>?_,λ hl=>by omega⟩;rcases h.sta.ap i j o oj hgt h.ho hj with ha|⟨_,_,h3,_⟩
  .exact aZ (h.cl j i hs ha) h.hn
  .exact aZ hd (h3 x hx)
variable {c:Nat}
def ke.tm(h:ke tb ih ops fl st wb vv hb ah S i o){x:Nat}(hn:∀x c,Cut ops S x c->n<=x->(st c).t.get x=Y)(hc:Cut ops (λ j=>S j\/j=i) x c):
 (rj (snap ops st S n) o.dst (vv i)).get x=(st c).t.get x:=by
 rw[OS];by_cases hd:o.dst=U x
 .rw[aC hd];have hic:=(hc.2 i o h.ho hd).1 (.inr rfl);rw[h.row.Lk x (i+1) c (by omega) hc.1,h.row.TX h.ho,aC hd];intro p op hp hp' hop hdp;have hS:=(hc.2 p op hop hdp).2 hp';rcases hS with hS|rfl
  .rcases h.sta.ap i p o op (by omega) h.ho hop with ha|⟨h1,_⟩
   .exact h.hn (h.cl p i hS ha)
   .exact h1 x hd hdp
  .omega
 .rw[aq hd];have hc':Cut ops S x c:=⟨hc.1,λ j oj hj hdj=>by
   rw[<-hc.2 j oj hj hdj];have:j≠i:=by rintro rfl;rw[h.ho]at hj;cases hj;exact hd hdj
   simp[this]⟩
  exact h.row.Lb hc' (hn x c hc')
def ke.eI(h:ke tb ih ops fl st wb vv hb ah S i o)(hn:∀x c,Cut ops S x c->n<=x->(st c).t.get x=Y):∀y∈o.op.operands,ev (st i).t y=ev (snap ops st S n) y:=by
 intro y hy;cases y with
 |tmp x=>
  have hx:x∈u_ ops.toList o:=by
   unfold u_;exact Hp _ (BB.2 ⟨.tmp x,by simpa using hy,by simp[RG]⟩)
  have hc:=h.cut hx;simp only[ev,h.row.Lb hc (hn x i hc)]
 |_=>rfl
def ke.want(h:ke tb ih ops fl st wb vv hb ah S i o)(hn:∀x c,Cut ops S x c->n<=x->(st c).t.get x=Y):jc ops.toList o (snap ops st S n)=.ok (wb i):=by
 have hw:=(h.row.step i o (a6 _) h.ho).want;rw[<-hw];unfold jc;cases hg:o.guard with
 |none=>rfl
 |some g=>
  obtain⟨j,want⟩:=g;simp only
  cases hj:ops.toList[j]? with
  |none=>rfl
  |some oj=>
   simp only
   cases hd:oj.dst with
   |none=>rfl
   |some d=>
    have hx:d∈u_ ops.toList o:=by
     unfold u_;refine yb _ ?_;rw[hg];simp only[hj,hd];simp
    have hc:=h.cut hx;simp only[h.row.Lb hc (hn d i hc)]
def ke.P_(h:ke tb ih ops fl st wb vv hb ah S i o)(hL:cls tb o.op=.L):kT tb ops wb S i:=by
 refine⟨Ef (fU.1 h.ho).1,λ j oj hj hw hc=>?_⟩;rcases zX j i with hlt|rfl|hgt
 .refine⟨λ _=>hlt,λ _=>?_⟩;rcases h.sta.ap j i oj o hlt hj h.ho with ha|⟨_,_,_,h4,_⟩
  .exact h.ready j ha
  .exact aZ ⟨hc,hL⟩ h4
 .exact⟨λ hs=>aZ hs h.hn,λ hl=>by omega⟩
 .refine⟨λ hs=>?_,λ hl=>by omega⟩;rcases h.sta.ap i j o oj hgt h.ho hj with ha|⟨_,_,_,h4,_⟩
  .exact aZ (h.cl j i hs ha) h.hn
  .exact aZ ⟨hL,hc⟩ h4
def kT.same{q:Nat}(hq:kT tb ops wb (λ j=>S j\/j=i) q)(ho:ops[i]?=U o)(hn:¬(wb i=aa/\cls tb o.op=.L)):kT tb ops wb S q:=
 ⟨hq.1,λ j oj hj hw hc=>by
  rw[<-hq.2 j oj hj hw hc];have:j≠i:=by rintro rfl;rw[ho]at hj;cases hj;exact hn ⟨hw,hc⟩
  simp[this]⟩
section step
variable {b:Frame}{ι0 ι:a8}{w0 w:aG}{a:Act}
def Inv.Ka(hI:Inv tb ops st wb ah b ι0 w0 S ι a w):∀x c,Cut ops S x c->(st 0).n<=x->(st c).t.get x=Y:=by
 intro x c hc hx;cases hg:(st c).t.get x with
 |none=>rfl
 |some v=>
  obtain⟨v',e,_⟩:=hI.tm x c v hc hg;have:=(fU.1 e).1;rw[hI.size]at this;omega
def Inv.tr(hI:Inv tb ops st wb ah b ι0 w0 S ι a w):TR ι (st 0).n (snap ops st S (st 0).n) a.tmps:=by
 refine⟨hI.size,λ x v hv=>?_⟩;obtain⟨_,c,hc,hg⟩:=qhA hv;exact hI.tm x c v hc hg
def Row.Qf(hr:Row tb ih ops fl 0 st wb vv hb):∀p,p<=ops.size->(st p).n=(st 0).n/\(st p).d=(st 0).d/\(st p).ro=(st 0).ro:=by
 intro p
 induction p with
 |zero=>intro _;exact⟨rfl,rfl,rfl⟩
 |succ p ih'=>
  intro hp;obtain⟨o,ho⟩:=xI (ops:=ops) (p:=p) (by omega);rw[(hr.step p o (a6 _) ho).to];exact ih' (by omega)
variable {ι':a8}
def ke.Lo(h:ke tb ih ops fl st wb vv hb ah S i o)(hI:Inv tb ops st wb ah b ι0 w0 S ι a w){a':Act}(ht:TR ι' (st 0).n (rj (snap ops st S (st 0).n) o.dst (vv i)) a'.tmps):
 ∀x c v,Cut ops (λ j=>S j\/j=i) x c->(st c).t.get x=U v->∃v',a'.tmps[x]?=U v'/\VR ι' v v':=by
 intro x c v hc hg;refine ht.2 x v ?_;rw[h.tm hI.Ka hc];exact hg
def ke.I1(h:ke tb ih ops fl st wb vv hb ah S i o):∀d,o.dst=U d->d<(st 0).n:=by
 intro d hd;have:=(h.row.step i o (a6 _) h.ho).dst d hd;rwa[(h.row.Qf i (Ef (fU.1 h.ho).1)).1]at this
def Inv.quiet(hI:Inv tb ops st wb ah b ι0 w0 S ι a w)(h:ke tb ih ops fl st wb vv hb ah S i o)(hL:¬(wb i=aa/\cls tb o.op=.L))(hv:VR ι (vv i) v'):
 Inv tb ops st wb ah b ι0 w0 (λ j=>S j\/j=i) ι (a.put o.dst v') w:=by
 obtain⟨ht,hd⟩:=hI.tr.put hv h.I1;exact {hI with
  cl:=hI.cl.add h.ready
  size:=ht.1
  tm:=h.Lo hI ht
  dr:=by rw[hd];exact hI.dr
  wf:=λ q hq=>hI.wf q (hq.same h.ho hL)
  obs:=λ q hq=>hI.obs q (hq.same h.ho hL)
  inj:=λ q hq=>hI.inj q (hq.same h.ho hL)
  src:=λ q hq=>hI.src q (hq.same h.ho hL)
  free:=λ j hj hn=>hI.free j hj λ hs=>hn (.inl hs)
  kp:=λ x l hl hs=>⟨λ q hq=>(hI.kp x l hl hs).1 q (hq.same h.ho hL),(hI.kp x l hl hs).2⟩
  gl:=λ q hq=>hI.gl q (hq.same h.ho hL)}
def Inv.rel(hI:Inv tb ops st wb ah b ι0 w0 S ι a w){q:Nat}(hq:kT tb ops wb S q):Rel ι (st q).m w:=by
 have hg:∀x o,(st q).m.get x=U o->GR ops st q x o:=by
  intro x o hx;refine .inl ⟨?_,hx⟩;rcases d_ x (st q).m.next with h|h
  .exact h
  .rw[hI.wf q hq x h]at hx;cases hx
 exact⟨hI.wf q hq,λ x o l hx ha hl=>hI.obs q hq x o l (hg x o hx) ha hl,hI.rng,λ x y l l' ⟨o,h1,h2⟩ ⟨o',h3,h4⟩=>hI.inj q hq x y l l' ⟨o,hg _ _ h1,h2⟩ ⟨o',hg _ _ h3,h4⟩,hI.gl q hq⟩
variable {A:Mem}
def Inv.qdx(hI:Inv tb ops st wb ah b ι0 w0 S ι a w)(hr:Row tb ih ops fl 0 st wb vv hb)(hmono:∀p q,p<=q->q<=ops.size->(st p).m.next<=(st q).m.next){q i:Nat}(hq:kT tb ops wb S q)(hX:Xt tb ops st wb (st q).m q i A):
 Rel ι ⟨A.heap,(st ops.size).m.next⟩ w:=by
 have hg:∀x o,A.get x=U o->GR ops st q x o/\((st q).m.get x=U o\/∀t k c,o≠.cells t .row (GB k) c)/\x<(st ops.size).m.next:=by
  intro x o hx;rcases hX x o hx with h|⟨p,o',h1,h2,h3,h4,h5,h6,h7⟩
  .have hlt:x<(st q).m.next:=by
    rcases d_ x (st q).m.next with h'|h'
    .exact h'
    .rw[hI.wf q hq x h']at h;cases h
   exact⟨.inl ⟨hlt,h⟩,.inl h,dc hlt (hmono q _ hq.1 (aJ _))⟩
  .have hp:=(fU.1 h3).1;have hk:=(hr.step p o' (a6 _) h3).kind h4;rw[h5]at hk;obtain⟨ob,way,k1,k2,-⟩:=hk;have hnx:x<(st (p+1)).m.next:=by rw[k2,aA,h6];exact yg _
   have ho:o=ob:=by rw[k2,mo,aC h6]at h7;exact(je h7).symm
   subst ho;exact⟨.inr ⟨p,h1,hp,Nat.le_of_eq h6.symm,hnx,h7⟩,.inr (HO k1),dc hnx (hmono (p+1) _ hp (aJ _))⟩
 refine⟨λ x hx=>?_,λ x o l hx ha hl=>hI.obs q hq x o l (hg x o hx).1 ha hl,hI.rng,λ x y l l' ⟨o,h1,h2⟩ ⟨o',h3,h4⟩=>hI.inj q hq x y l l' ⟨o,(hg _ _ h1).1,h2⟩ ⟨o',(hg _ _ h3).1,h4⟩,λ x t k c hx=>?_⟩
 .cases hy:A.get x with
  |none=>exact hy
  |some o=>exact aZ (hg x o hy).2.2 (Nat.not_lt.2 hx)
 .rcases(hg x _ hx).2.1 with h|h
  .exact hI.gl q hq x t k c h
  .exact aZ rfl (h t k c)
end step
end rows
end
section
variable {tb:aO}(ok:dP tb){ih:aH->St->R (Ex×St)}
section rows
variable {ops:Array Oper}{fl:List (Nat×Nat)}{st:Nat->St}{wb:Nat->Bool}{vv:Nat->O}{hb:Nat->List Nat}{ah:Nat->Nat->Prop}
variable {S:Nat->Prop}{i:Nat}{o:Oper}{b:Frame}{ι0 ι:a8}{w0 w:aG}{a:Act}
variable {ob:Ob}{ι':a8}{w':aG}{v':O}
def Inv.qbV(hI:Inv tb ops st wb ah b ι0 w0 S ι a w)(h:ke tb ih ops fl st wb vv hb ah S i o)(hw:wb i=aa)(hc:cls tb o.op=.Al)(hmono:∀p q,p<=q->q<=ops.size->(st p).m.next<=(st q).m.next)
 (hm:(st (i+1)).m=(st i).m.alloc ob)(hv:VR ι' (vv i) v')
 (hrel:Rel ι' ((⟨.e,(st i).m.next⟩:Mem).alloc ob) w')(hst:bZ ι ⟨.e,(st i).m.next⟩ w ι' ((⟨.e,(st i).m.next⟩:Mem).alloc ob) w'):
 Inv tb ops st wb ah b ι0 w0 (λ j=>S j\/j=i) ι' (a.put o.dst v') w':=by
 have hL:¬(wb i=aa/\cls tb o.op=.L):=λ hx=>by rw[hc]at hx;cases hx.2
 have hlt:=(fU.1 h.ho).1;have hnx:(st (i+1)).m.next=(st i).m.next+1:=by rw[hm,aA]
 have hN:=hI.free i hlt h.hn _ (aJ _) (by omega);have hle:gX ι ι':=hst.le (λ x hx1 hx2=>by
  rw[aA]at hx2;simp only at hx1 hx2;have:x=(st i).m.next:=by omega
  rw[this];exact hN)
 have hout:∀x,x≠(st i).m.next->ι' x=ι x:=λ x hx=>hst.out x (by rw[aA];simp only;omega)
 have hnolive:∀x,¬live (⟨.e,(st i).m.next⟩:Mem) x:=by
  rintro x ⟨o',hx,_⟩;cases hx
 have hfr:∀c,c<w.heap.size->w'.heap[c]?=w.heap[c]?:=λ c hc=>hst.fr c hc λ x l hx _=>aZ hx (hnolive x)
 have hnew:∀l,ι' (st i).m.next=U l->alive ob=aa->w.heap.size<=l.blk:=by
  intro l hl hal;rcases hst.src _ l ⟨ob,by rw[mo,aC rfl],hal⟩ hl with h1|⟨b0,_,h1,_⟩
  .exact h1
  .exact aZ h1 (hnolive b0)
 have hthe:∀q,kT tb ops wb S q->∀o',GR ops st q (st i).m.next o'->o'=ob:=by
  intro q hq o' hg;rcases hg with⟨h1,h2⟩|⟨p,h1,h2,h3,h4,h5⟩
  .have hiq:i<q:=by
    rcases d_ i q with h6|h6
    .exact h6
    .have:=hmono q i h6 (by omega);omega
   have:=h.row.kept h.ho hw hc hm hmono q (by omega) hq.1 (λ j oj hj hj' hoj hwj hcj=>by
    have hS:=(hq.2 j oj hoj hwj hcj).2 hj';rcases h.sta.ap i j o oj hj h.ho hoj with ha|⟨_,_,_,_,_,_,h7⟩
    .exact aZ (h.cl j i hS ha) h.hn
    .exact h7 hc hcj)
   rw[this]at h2;exact(je h2).symm
  .have hpi:p=i:=by
    rcases zX p i with h6|h6|h6
    .have:=hmono (p+1) i (by omega) (by omega);omega
    .exact h6
    .have:=hmono (i+1) p (by omega) (by omega);omega
   subst hpi;rw[hm,mo,aC rfl]at h5;exact(je h5).symm
 obtain⟨ht,hd⟩:=TR.put (hI.tr.mono hle) hv h.I1;refine⟨hI.cl.add h.ready,ht.1,h.Lo hI ht,hI.ro.mono hle,by rw[hd];exact hI.dr.mono hle,λ q hq=>hI.wf q (hq.same h.ho hL),λ q hq x o' l hg hal hl=>?_,hrel.rng,λ q hq x y l l' hx hy hlx hly he=>?_,
  λ j hj hn x hx1 hx2=>?_,λ x hx=>?_,λ q hq x l hx hl=>?_,λ c hc hn=>?_,dp hI.sz hst.size,hst.os.trans hI.os,hst.tape.trans hI.tape,hst.output.trans hI.output,λ x l hl hs=>⟨λ q hq=>(hI.kp x l hl hs).1 q (hq.same h.ho hL),(hfr _ (hI.rng x l (by rw[hI.out x (.inl hs.1)];exact hl))).trans (hI.kp x l hl hs).2⟩,
  λ q hq x t k c hx=>by obtain⟨l,e,r⟩:=hI.gl q (hq.same h.ho hL) x t k c hx;exact⟨l,hle x l e,r⟩⟩
 .have hq':=hq.same h.ho hL;by_cases hx:x=(st i).m.next
  .subst hx;have:=hthe q hq' o' hg;subst this;exact hrel.obs _ o' l (by rw[mo,aC rfl]) hal hl
  .rw[hout x hx]at hl;obtain⟨o2,h1,h2⟩:=hI.obs q hq' x o' l hg hal hl;exact⟨o2,by rw[hfr _ (hI.rng x l hl)];exact h1,h2.mono hle⟩
 .have hq':=hq.same h.ho hL;have hnew':∀{x l},x=(st i).m.next->GL ops st q x->ι' x=U l->w.heap.size<=l.blk:=by
   rintro x l rfl ⟨o',hg,hal⟩ hl;have:=hthe q hq' o' hg;subst this;exact hnew l hl hal
  by_cases ex:x=(st i).m.next
  .by_cases ey:y=(st i).m.next
   .omega
   .have h1:=hnew' ex hx hlx;rw[hout y ey]at hly;have:=hI.rng y l' hly;omega
  .by_cases ey:y=(st i).m.next
   .have h1:=hnew' ey hy hly;rw[hout x ex]at hlx;have:=hI.rng x l hlx;omega
   .rw[hout x ex]at hlx;rw[hout y ey]at hly;exact hI.inj q hq' x y l l' hx hy hlx hly he
 .have hji:j≠i:=λ e=>hn (.inr e)
  have hSj:¬S j:=λ e=>hn (.inl e)
  have hne:x≠(st i).m.next:=by
   rintro rfl;rcases Nat.lt_or_gt_of_ne hji with h6|h6
   .have:=hmono (j+1) i (by omega) (by omega);omega
   .have:=hmono (i+1) j (by omega) (by omega);omega
  rw[hout x hne];exact hI.free j hj hSj x hx1 hx2
 .have h1:=hmono 0 i (by omega) (by omega);have h2:=hmono (i+1) ops.size (by omega) (aJ _);rw[hout x (by omega)];exact hI.out x hx
 .have hq':=hq.same h.ho hL;by_cases ex:x=(st i).m.next
  .obtain⟨o',hg,hal⟩:=hx;subst ex;have:=hthe q hq' o' hg;subst this;exact .inl (dp hI.sz (hnew l hl hal))
  .rw[hout x ex]at hl;exact hI.src q hq' x l hx hl
 .rw[hfr c (dc hc hI.sz)];exact hI.fr c hc hn
def Inv.Yc(hI:Inv tb ops st wb ah b ι0 w0 S ι a w)(h:ke tb ih ops fl st wb vv hb ah S i o)(hw:wb i=aa)(hc:cls tb o.op=.L)(hmono:∀p q,p<=q->q<=ops.size->(st p).m.next<=(st q).m.next)
 {A1:Mem}(hback:kh (st i).m.get (hb i) A1=.ok (st (i+1)).m){a':Act}
 (hs:SR ι' ⟨rj (snap ops st S (st 0).n) o.dst (vv i),(st 0).n,(st 0).d,A1,(st 0).ro⟩ b a' w')(hst:bZ ι (iy (hb i) (st i).m) w ι' A1 w'):
 Inv tb ops st wb ah b ι0 w0 (λ j=>S j\/j=i) ι' a' w':=by
 have hlt:=(fU.1 h.ho).1;have hmi:=h.P_ hc;have hnx1:=(EA hback).symm;have hnx0:(iy (hb i) (st i).m).next=(st i).m.next:=CZ _ _
 obtain⟨hsome,hget⟩:=Ez hback;have hin:∀x,x∈hb i->x<(st i).m.next:=by
  intro x hx;obtain⟨o',ho'⟩:=hsome x hx;rcases d_ x (st i).m.next with h1|h1
  .exact h1
  .rw[hI.wf i hmi x h1]at ho';cases ho'
 have hle:gX ι ι':=hst.le (λ x hx1 hx2=>by
  rw[hnx0]at hx1;rw[hnx1]at hx2;exact hI.free i hlt h.hn x hx1 hx2)
 have hout:∀x,x<(st i).m.next\/(st (i+1)).m.next<=x->ι' x=ι x:=λ x hx=>hst.out x (by rw[hnx0,hnx1];exact hx)
 have hliveA:∀x,live (iy (hb i) (st i).m) x->x∉hb i/\GL ops st i x/\x<(st i).m.next:=by
  rintro x ⟨o',hx,hal⟩;rw[y4]at hx;split at hx
  .cases hx;cases hal
  .rename_i hnot;have hxl:x<(st i).m.next:=by
    rcases d_ x (st i).m.next with h1|h1
    .exact h1
    .rw[hI.wf i hmi x h1]at hx;cases hx
   exact⟨hnot,⟨o',.inl ⟨hxl,hx⟩,hal⟩,hxl⟩
 have hold:∀x l,GL ops st i x->¬live (iy (hb i) (st i).m) x->ι x=U l->w'.heap[l.blk]?=w.heap[l.blk]?:=by
  intro x l hg hnl hl;refine hst.fr _ (hI.rng x l hl) λ y ly hy hly he=>?_
  have:=hI.inj i hmi y x ly l (hliveA y hy).2.1 hg hly hl he;exact hnl (this▸hy)
 have hroute:∀x o',GR ops st (i+1) x o'->(A1.get x=U o')\/(GR ops st i x o'/\¬live (iy (hb i) (st i).m) x/\ι' x=ι x):=by
  intro x o' hg;rcases hg with⟨h1,h2⟩|⟨p,h1,h2,h3,h4,h5⟩
  .rw[hget]at h2;by_cases hx:x∈hb i
   .rw[aC hx]at h2;exact .inr ⟨.inl ⟨hin x hx,h2⟩,λ hl=>(hliveA x hl).1 hx,hout x (.inl (hin x hx))⟩
   .rw[aq hx]at h2;exact .inl h2
  .have hge:=dp (hmono (i+1) p h1 (by omega)) h3;have hge0:=hmono i (i+1) (by omega) (by omega);exact .inr ⟨.inr ⟨p,by omega,h2,h3,h4,h5⟩,λ hl=>by have:=(hliveA x hl).2.2;omega,hout x (.inr hge)⟩
 have hq0:∀q,kT tb ops wb (λ j=>S j\/j=i) q->i+1<=q/\∀p op,i+1<=p->p<q->ops[p]?=U op->¬(wb p=aa/\cls tb op.op=.L):=by
  intro q hq;refine⟨(hq.2 i o h.ho hw hc).1 (.inr rfl),λ p op hp hp' hop hx=>?_⟩;rcases(hq.2 p op hop hx.1 hx.2).2 hp' with hS|rfl
  .have:=(hmi.2 p op hop hx.1 hx.2).1 hS;omega
  .omega
 have hwf1:∀x,(st (i+1)).m.next<=x->(st (i+1)).m.get x=Y:=by
  intro x hx;rw[hget];have:=hmono i (i+1) (by omega) (by omega);rw[aq (λ hx'=>by have:=hin x hx';omega)];exact hs.rel.wf x (by simp only;omega)
 have hobs1:∀x o' l,GR ops st (i+1) x o'->alive o'=aa->ι' x=U l->∃o2,w'.heap[l.blk]?=U o2/\OR ι' o' l o2:=by
  intro x o' l hg hal hl;rcases hroute x o' hg with h1|⟨h1,h2,h3⟩
  .exact hs.rel.obs x o' l h1 hal hl
  .rw[h3]at hl;obtain⟨o2,e,r⟩:=hI.obs i hmi x o' l h1 hal hl;exact⟨o2,by rw[hold x l ⟨o',h1,hal⟩ h2 hl];exact e,r.mono hle⟩
 have hmix:∀x y l l',live A1 x->GL ops st i y->¬live (iy (hb i) (st i).m) y->ι' x=U l->ι y=U l'->l.blk≠l'.blk:=by
  intro x y l l' hx hy hny hlx hly he;rcases hst.src x l hx hlx with h1|⟨b0,l0,h1,h2,h3⟩
  .have:=hI.rng y l' hly;omega
  .have:=hI.inj i hmi b0 y l0 l' (hliveA b0 h1).2.1 hy h2 hly (by omega);exact hny (this▸h1)
 have hinj1:∀x y l l',GL ops st (i+1) x->GL ops st (i+1) y->ι' x=U l->ι' y=U l'->l.blk=l'.blk->x=y:=by
  rintro x y l l' ⟨ox,hx,hax⟩ ⟨oy,hy,hay⟩ hlx hly he;rcases hroute x ox hx with h1|⟨h1,h2,h3⟩
  .rcases hroute y oy hy with k1|⟨k1,k2,k3⟩
   .exact hs.rel.inj x y l l' ⟨ox,h1,hax⟩ ⟨oy,k1,hay⟩ hlx hly he
   .rw[k3]at hly;exact aZ he (hmix x y l l' ⟨ox,h1,hax⟩ ⟨oy,k1,hay⟩ k2 hlx hly)
  .rw[h3]at hlx;rcases hroute y oy hy with k1|⟨k1,k2,k3⟩
   .exact aZ he.symm (hmix y x l' l ⟨oy,k1,hay⟩ ⟨ox,h1,hax⟩ h2 hly hlx)
   .rw[k3]at hly;exact hI.inj i hmi x y l l' ⟨ox,h1,hax⟩ ⟨oy,k1,hay⟩ hlx hly he
 have hGL:∀q,kT tb ops wb (λ j=>S j\/j=i) q->∀x o',GR ops st q x o'->GR ops st (i+1) x o':=λ q hq x o' hg=>h.row.LY q (hq0 q hq).1 hq.1 (hq0 q hq).2 hg
 refine⟨hI.cl.add h.ready,hs.tr.1,h.Lo hI hs.tr,hs.ro,hs.dr,λ q hq=>h.row.UA hwf1 q (hq0 q hq).1 hq.1 (hq0 q hq).2,λ q hq x o' l hg hal hl=>hobs1 x o' l (hGL q hq x o' hg) hal hl,hs.rel.rng,
  λ q hq x y l l' ⟨ox,hx,hax⟩ ⟨oy,hy,hay⟩ hlx hly he=>hinj1 x y l l' ⟨ox,hGL q hq x ox hx,hax⟩ ⟨oy,hGL q hq y oy hy,hay⟩ hlx hly he,
  λ j hj hn x hx1 hx2=>?_,λ x hx=>?_,λ q hq x l ⟨ox,hx,hax⟩ hl=>?_,λ c hc hn=>?_,dp hI.sz hst.size,hst.os.trans hI.os,hst.tape.trans hI.tape,hst.output.trans hI.output,λ x l hl hs=>?_,λ q hq x t k c hx=>?_⟩
 .have hji:j≠i:=λ e=>hn (.inr e)
  have hSj:¬S j:=λ e=>hn (.inl e)
  rw[hout x]
  .exact hI.free j hj hSj x hx1 hx2
  .rcases Nat.lt_or_gt_of_ne hji with h6|h6
   .have:=hmono (j+1) i (by omega) (by omega);left;omega
   .have:=hmono (i+1) j (by omega) (by omega);right;omega
 .have h1:=hmono 0 i (by omega) (by omega);have h2:=hmono (i+1) ops.size (by omega) (aJ _);rw[hout x (by omega)];exact hI.out x hx
 .rcases hroute x ox (hGL q hq x ox hx)with h1|⟨h1,h2,h3⟩
  .rcases hst.src x l ⟨ox,h1,hax⟩ hl with k1|⟨b0,l0,k1,k2,k3⟩
   .exact .inl (dp hI.sz k1)
   .rcases hI.src i hmi b0 l0 (hliveA b0 k1).2.1 k2 with m1|⟨b1,l1,m1,m2,m3⟩
    .left;omega
    .exact .inr ⟨b1,l1,m1,m2,by omega⟩
  .rw[h3]at hl;exact hI.src i hmi x l ⟨ox,h1,hax⟩ hl
 .rw[hst.fr c (dc hc hI.sz)]
  .exact hI.fr c hc hn
  .intro x l hx hl he;rcases hI.src i hmi x l (hliveA x hx).2.1 hl with m1|⟨b1,l1,m1,m2,m3⟩
   .omega
   .exact hn b1 l1 m1 m2 (by omega)
 .have hlx:ι x=U l:=by rw[hI.out x (.inl hs.1)];exact hl
  obtain⟨k1,k2⟩:=hI.kp x l hl hs;have k3:=k1 i hmi;have hlt0:=dc hs.1 (hmono 0 i (by omega) (by omega));obtain⟨_,ty,fz,c,hx2,hx3⟩:=hs;have key:(st (i+1)).m.get x=(st 0).m.get x/\w'.heap[l.blk]?=w.heap[l.blk]?:=by
   by_cases hx:x∈hb i
   .refine⟨by rw[hget,aC hx,k3],hold x l ⟨_,.inl ⟨hlt0,k3.trans hx2⟩,rfl⟩ (λ hl=>(hliveA x hl).1 hx) hlx⟩
   .have hh:(iy (hb i) (st i).m).get x=(st 0).m.get x:=by rw[y4,aq hx,k3]
    obtain⟨e1,e2⟩:=hst.kept x l hlx ⟨by rw[hnx0];exact hlt0,ty,fz,c,hh.trans hx2,hx3⟩;exact⟨by rw[hget,aq hx,e1,hh],e2⟩
  refine⟨λ q hq=>?_,key.2.trans k2⟩;rw[(h.row.OO q (hq0 q hq).1 hq.1 (hq0 q hq).2 x (by have:=hmono i (i+1) (by omega) (by omega);omega)).1,key.1]
 .have hx:=h.row.OV q (hq0 q hq).1 hq.1 (hq0 q hq).2 hx;rw[hget]at hx;split at hx
  .obtain⟨l,e,r⟩:=hI.gl i hmi x t k c hx;exact⟨l,hle x l e,r⟩
  .exact hs.rel.gl x t k c hx
def Zi{p:Nat->Prop}{i:Nat}:∀n,(∃j,i<j/\j<n/\p j)->∃j,i<j/\j<n/\p j/\∀k,j<k->k<n->¬p k:=by
 intro n
 induction n with
 |zero=>rintro⟨j,_,h,_⟩;omega
 |succ n ih=>
  rintro⟨j,h1,h2,h3⟩;by_cases hn:i<n/\p n
  .exact⟨n,hn.1,by omega,hn.2,λ k hk hk'=>by omega⟩
  .have hjn:j≠n:=by rintro rfl;exact hn ⟨h1,h3⟩
   obtain⟨k,k1,k2,k3,k4⟩:=ih ⟨j,h1,by omega,h3⟩;refine⟨k,k1,by omega,k3,λ m hm hm' hp=>?_⟩;by_cases hmn:m=n
   .subst hmn;exact hn ⟨by omega,hp⟩
   .exact k4 m hm (by omega) hp
variable {n:Nat}
def Zh{p:Nat->Prop}(h:∃j,j<n/\p j):∃j,j<n/\p j/\∀k,k<j->¬p k:=by
 obtain⟨j,h1,h2⟩:=h
 induction j using yi with
 |ind j ih=>
  by_cases he:∃k,k<j/\p k
  .obtain⟨k,k1,k2⟩:=he;exact ih k k1 (by omega) k2
  .exact⟨j,h1,h2,λ k hk hp=>he ⟨k,hk,hp⟩⟩
variable {j k:Nat}
def Stat.NL(hst:Stat tb ops fl ah)(hcl:vX ah S){oj ok':Oper}(hj:ops[j]?=U oj)(hk:ops[k]?=U ok')(hjk:j<k)(cj:cls tb oj.op=.L)(ck:cls tb ok'.op=.L)(hS:S k):S j:=by
 rcases hst.ap j k oj ok' hjk hj hk with ha|⟨_,_,_,h4,_⟩
 .exact hcl k j hS ha
 .exact aZ ⟨cj,ck⟩ h4
def ke.reader(h:ke tb ih ops fl st wb vv hb ah S i o)(hw:wb i=aa)(hc:cls tb o.op=.Rd):∃q A,kT tb ops wb S q/\Xt tb ops st wb (st q).m q i A/\eB tb (st i).t A.get o.op=.ok (vv i):=by
 have hlt:=(fU.1 h.ho).1;by_cases hB:∃j,i<j/\j<ops.size/\(S j/\wb j=aa/\∃oj,ops[j]?=U oj/\cls tb oj.op=.L)
 .obtain⟨j,hj1,hj2,⟨hSj,hwj,oj,hoj,hcj⟩,hlast⟩:=Zi ops.size hB;refine⟨j+1,_,⟨by omega,λ k o' hk hwk hck=>⟨λ hS=>?_,λ hle=>?_⟩⟩,.self,?_⟩
  .rcases d_ k (j+1)with h1|h1
   .exact h1
   .exact aZ ⟨hS,hwk,o',hk,hck⟩ (hlast k (by omega) (fU.1 hk).1)
  .rcases d_ k j with h1|h1
   .exact h.sta.NL h.cl hk hoj h1 hck hcj hSj
   .rw[show k=j by omega];exact hSj
  .refine h.row.late i j o oj (a6 _) hj1 h.ho hoj hw hwj hc hcj ?_;rcases h.sta.ap i j o oj hj1 h.ho hoj with ha|⟨_,_,_,_,h5,_⟩
   .exact aZ (h.cl j i hSj ha) h.hn
   .exact h5 hc hcj
 .by_cases hA:∃j,j<i/\(¬S j/\wb j=aa/\∃oj,ops[j]?=U oj/\cls tb oj.op=.L)
  .obtain⟨j,hj1,⟨hSj,hwj,oj,hoj,hcj⟩,hfirst⟩:=Zh hA;have hE:=h.row.early j i oj o (a6 _) hj1 hoj h.ho hwj hw hcj hc (by
    rcases h.sta.ap j i oj o hj1 hoj h.ho with ha|⟨_,_,_,_,_,h6,_⟩
    .exact aZ (h.ready j ha) hSj
    .exact h6 hcj hc)
   obtain⟨A,hA,hrd⟩:=hE;refine⟨j,A,⟨by omega,λ k o' hk hwk hck=>⟨λ hS=>?_,λ hl=>?_⟩⟩,hA,hrd⟩
   .rcases zX k j with h1|rfl|h1
    .exact h1
    .exact aZ hS hSj
    .exact aZ (h.sta.NL h.cl hoj hk h1 hcj hck hS) hSj
   .exact xT λ hS=>hfirst k hl ⟨hS,hwk,o',hk,hck⟩
  .refine⟨i,_,⟨by omega,λ k o' hk hwk hck=>⟨λ hS=>?_,λ hl=>?_⟩⟩,.self,?_⟩
   .rcases zX k i with h1|rfl|h1
    .exact h1
    .exact aZ hS h.hn
    .exact aZ ⟨k,h1,(fU.1 hk).1,hS,hwk,o',hk,hck⟩ hB
   .exact xT λ hS=>hA ⟨k,hl,hS,hwk,o',hk,hck⟩
   .have hk:=(h.row.step i o (a6 _) h.ho).kind hw;rw[hc]at hk;exact hk.1
include ok in
def Inv.step (hcall:rr tb ih) (hI:Inv tb ops st wb ah b ι0 w0 S ι a w) (h:ke tb ih ops fl st wb vv hb ah S i o) (hmono:∀p q,p<=q->q<=ops.size->(st p).m.next<=(st q).m.next)
 {k:List Item} {cs:List Frame} {rest:List Nat}:
 ∃ι' a' w',Steps tb.P (lone (b.atR a (.inRegion ops (i::rest)::k)) cs w) (lone (b.atR a' (.inRegion ops rest::k)) cs w')/\Inv tb ops st wb ah b ι0 w0 (λ j=>S j\/j=i) ι' a' w':=by
 have hs:=h.row.step i o (a6 _) h.ho;have htr:=hI.tr;have hwant:=GY (h.want hI.Ka) htr;have hev:=h.eI hI.Ka;cases hw:wb i with
 |false=>
  have hL:¬(wb i=aa/\cls tb o.op=.L):=λ hx=>by rw[hw]at hx;cases hx.1
  have hstep:=stepR_op_skip (P:=tb.P) (b:=b) (a:=a) (k:=k) (cs:=cs) (w:=w) (rest:=rest) (by rw[h.ho];simp[hwant,hw]);rw[h.ho,wj]at hstep;have hu:VR ι (vv i) undef:=by rw[(hs.no hw).1];exact .tuple .nil
  exact⟨ι,_,w,.one hstep,hI.quiet h hL hu⟩
 |true=>
  rw[hw]at hwant;have hk:=hs.kind hw;cases hc:cls tb o.op with
  |P=>
   rw[hc]at hk;have hL:¬(wb i=aa/\cls tb o.op=.L):=λ hx=>by rw[hc]at hx;cases hx.2
   obtain⟨v',e,hv⟩:=Rl ok (by rw[<-Rk hev];exact hk.1) htr;exact⟨ι,_,w,.one (zm h.ho hwant (AQ (by rw[hc];simp)) (e w) (.inl rfl)),hI.quiet h hL hv⟩
  |Rd=>
   rw[hc]at hk;have hL:¬(wb i=aa/\cls tb o.op=.L):=λ hx=>by rw[hc]at hx;cases hx.2
   obtain⟨q,A,hq,hX,hrd⟩:=h.reader hw hc;obtain⟨v',e,hv⟩:=RC ok (hI.qdx h.row hmono hq hX) (by rw[<-Rz hev];exact hrd) hc htr;exact⟨ι,_,w,.one (zm h.ho hwant (AQ (by rw[hc];simp)) e (.inl rfl)),hI.quiet h hL hv⟩
  |Al=>
   rw[hc]at hk;obtain⟨ob,way,h1,h2,h3⟩:=hk;have hlt:=(fU.1 h.ho).1;have hN:=hI.free i hlt h.hn _ (aJ _) (by rw[h2,aA];omega);have hrel0:Rel ι ⟨.e,(st i).m.next⟩ w:=
    ⟨λ _ _=>rfl,(λ _ _ _ hx _ _=>by cases hx),hI.rng,(λ x _ _ _ hx=>by obtain⟨_,hx,_⟩:=hx;cases hx),(λ _ _ _ _ hx=>by cases hx)⟩
   obtain⟨ι',w',v',e,hv,hrel,hst⟩:=Mc ok hrel0 (by rw[<-Mb hev];exact h1) htr hN;refine⟨ι',_,w',.one (zm h.ho hwant (AQ (by rw[hc];simp)) e (.inl rfl)),hI.qbV h hw hc hmono h2 (by rw[h3];exact hv) hrel hst⟩
  |L=>
   rw[hc]at hk;obtain⟨A1,h1,h2⟩:=hk;have hlt:=(fU.1 h.ho).1;have hmi:=h.P_ hc;have hrel:=hI.rel hmi;have hrelA:Rel ι (iy (hb i) (st i).m) w:=by
    refine⟨λ x hx=>?_,λ x o' l hx hal hl=>?_,hrel.rng,λ x y l l' hx hy=>?_,λ x t k c hx=>?_⟩
    .rw[CZ]at hx;rw[y4,aq]
     .exact hrel.wf x hx
     .intro hx';obtain⟨o',ho'⟩:=(Ez h2).1 x hx';rw[hrel.wf x hx]at ho';cases ho'
    .rw[y4]at hx;split at hx
     .cases hx;cases hal
     .exact hrel.obs x o' l hx hal hl
    .have hl:∀x,live (iy (hb i) (st i).m) x->live (st i).m x:=by
      rintro x ⟨o',hx,hal⟩;rw[y4]at hx;split at hx
      .cases hx;cases hal
      .exact⟨o',hx,hal⟩
     exact hrel.inj x y l l' (hl x hx) (hl y hy)
    .rw[y4]at hx;split at hx
     .cases hx
     .exact hrel.gl x t k c hx
   have hsnd:=zF.snd ok hcall h1 (d:=(st 0).d) (ro:=(st 0).ro) hev h.I1 ops i;obtain⟨ι',w',a',fT,hsr,hss⟩:=hsnd.2 ι b a k cs w rest ⟨hrelA,htr,hI.ro,hI.dr⟩ (λ x hx1 hx2=>by
    simp only[CZ]at hx1;rw[<-EA h2]at hx2;exact hI.free i hlt h.hn x hx1 hx2) hwant h.ho
   exact⟨ι',a',w',fT,hI.Yc h hw hc hmono h2 hsr hss.fT⟩
include ok in
theorem Inv.steps (hcall:rr tb ih) (hr:Row tb ih ops fl 0 st wb vv hb) (hsta:Stat tb ops fl ah) (hmono:∀p q,p<=q->q<=ops.size->(st p).m.next<=(st q).m.next) {k:List Item} {cs:List Frame}:
 ∀(rest:List Nat) (S:Nat->Prop) (ι:a8) (a:Act) (w:aG),uo ops S rest->Inv tb ops st wb ah b ι0 w0 S ι a w->
 ∃ι' a' w' S',Steps tb.P (lone (b.atR a (.inRegion ops rest::k)) cs w) (lone (b.atR a' (.inRegion ops []::k)) cs w')/\Inv tb ops st wb ah b ι0 w0 S' ι' a' w'/\∀i,i<ops.size->S' i
 | [],S,ι,a,w,hs,hI=>by
  cases hs with
  |nil h=>exact⟨ι,a,w,S,.refl _ _,hI,h⟩
 |i::rest,S,ι,a,w,hs,hI=>by
  cases hs with
  |cons ho hn he h=>
   obtain⟨ι1,a1,w1,st1,hI1⟩:=Inv.step ok hcall hI ⟨hr,hsta,hI.cl,ho,hn,hI.cl.ready hsta ho he⟩ hmono;obtain⟨ι2,a2,w2,S2,st2,hI2,hall⟩:=Inv.steps hcall hr hsta hmono rest _ ι1 a1 w1 h hI1;exact⟨ι2,a2,w2,S2,st1.trans st2,hI2,hall⟩
end rows
end
section
variable {tb:aO}(ok:dP tb){ih:aH->St->R (Ex×St)}
include ok in
def YR (hcall:rr tb ih):LU tb ih:=by
 intro ops s s1 h id;unfold regionF at h;simp only[aI]at h;obtain⟨fl,h1,h2⟩:=R.aF h;obtain⟨⟨e,s'⟩,h3,h4⟩:=R.aF h2;clear h h2;cases e with
 |nrm=>
  simp only[av,bf,true_and]at h4;subst h4;obtain⟨ah,hsta⟩:=qhL h1;obtain⟨st,wb,vv,hb,e0,e1,hrow⟩:=AV ops.toList 0 (λ j=>by simp) h3;have hr:=hrow.row;clear hrow;have e1:st ops.size=s':=by rw[<-e1];simp
  have hmono:∀p q,p<=q->q<=ops.size->(st p).m.next<=(st q).m.next:=λ p q h1 h2=>hr.qcs ok hcall h1 h2
  subst e0 e1;refine⟨hmono 0 ops.size (a6 _) (aJ _),λ ι b a k cs w hs hf=>?_⟩;have hsched:=PT hsta.back ops.size (w.tape w.drawn (.order b.fn id)) (tZ ops.size af) (by simp) (by
   unfold missing;exact dp (By _ _) (by simp))
  have hsched:=hsched.congr (S':=λ _=>False) (λ j=>by
   simp only[LO,Array.getElem?_replicate];split<;>simp)
  have hq0:∀q,kT tb ops wb (λ _=>False) q->∀p op,0<=p->p<q->ops[p]?=U op->¬(wb p=aa/\cls tb op.op=.L):=
   λ q hq p op _ hp hop hx=>(hq.2 p op hop hx.1 hx.2).2 hp
  have hcase:∀q,kT tb ops wb (λ _=>False) q->∀x o l,GR ops st q x o->ι x=U l->(st 0).m.get x=U o:=by
   intro q hq x o l hg hl;rcases hr.LY q (a6 _) hq.1 (hq0 q hq) hg with⟨_,k2⟩|⟨p,_,k2,k3,k4,_⟩
   .exact k2
   .have a1:=hmono 0 p (by omega) (by omega);have a2:=hmono (p+1) ops.size (by omega) (aJ _);rw[hf x (by omega) (by omega)]at hl;cases hl
  have hI:Inv tb ops st wb ah b ι {w with drawn:=w.drawn+1} (λ _=>False) ι a {w with drawn:=w.drawn+1}:=by
   refine⟨λ _ _ h=>h.elim,hs.tr.1,λ x c v hc hg=>?_,hs.ro,hs.dr,λ q hq=>hr.UA hs.rel.wf q (a6 _) hq.1 (hq0 q hq),λ q hq x o l hg hal hl=>hs.rel.obs x o l (hcase q hq x o l hg hl) hal hl,hs.rel.rng,
    λ q hq x y l l' ⟨ox,hx,hax⟩ ⟨oy,hy,hay⟩ hlx hly he=>hs.rel.inj x y l l' ⟨ox,hcase q hq x ox l hx hlx,hax⟩ ⟨oy,hcase q hq y oy l' hy hly,hay⟩ hlx hly he,λ i hi _ x hx1 hx2=>?_,λ _ _=>rfl,
    λ q hq x l ⟨ox,hx,hax⟩ hl=>.inr ⟨x,l,⟨ox,hcase q hq x ox l hx hl,hax⟩,hl,rfl⟩,λ _ _ _=>rfl,aJ _,rfl,rfl,rfl,
    λ x l _ hs=>⟨λ q hq=>(hr.OO q (a6 _) hq.1 (hq0 q hq) x hs.1).1,rfl⟩,
    λ q hq x t k c hx=>hs.rel.gl x t k c (hr.OV q (a6 _) hq.1 (hq0 q hq) hx)⟩
   .rw[hr.Lk x 0 c (a6 _) hc.1 λ p o _ hp ho hd=>(hc.2 p o ho hd).2 hp]at hg;exact hs.tr.2 x v hg
   .have a1:=hmono 0 i (by omega) (by omega);have a2:=hmono (i+1) ops.size (by omega) (aJ _);exact hf x (by omega) (by omega)
  obtain⟨ι',a',w',S',fT,hI',hall⟩:=Inv.steps ok hcall hr hsta hmono _ _ _ _ _ hsched hI;have hq:kT tb ops wb S' ops.size:=⟨aJ _,λ j o hj _ _=>by
   have:=(fU.1 hj).1;exact⟨λ _=>this,λ _=>hall j this⟩⟩
  obtain⟨hn1,hn2,hn3⟩:=hr.Qf ops.size (aJ _);have hrel:=hI'.rel hq;refine⟨ι',w',a',k,(Steps.head ?_ fT).trans (.one stepR_region_end),rfl,⟨hrel,⟨by rw[hI'.size,hn1],λ x v hv=>?_⟩,by rw[hn3];exact hI'.ro,by rw[hn2];exact hI'.dr⟩,
   ⟨⟨hmono 0 ops.size (a6 _) (aJ _),hI'.out,λ x l ⟨o,hx,hax⟩ hl=>?_,hI'.fr,hI'.sz,hI'.os,hI'.tape,hI'.output,λ x l hl hs=>⟨(hI'.kp x l hl hs).1 _ hq,(hI'.kp x l hl hs).2⟩⟩,hn1,hn3⟩⟩
  .rw[stepR_region_draw];unfold Region.schedule;rw[ok.mixed];rfl
  .refine hI'.tm x ops.size v ⟨aJ _,λ j o hj _=>?_⟩ hv;have:=(fU.1 hj).1;exact⟨λ _=>this,λ _=>hall j this⟩
  .refine hI'.src ops.size hq x l ⟨o,.inl ⟨?_,hx⟩,hax⟩ hl;rcases d_ x (st ops.size).m.next with h|h
   .exact h
   .rw[hI'.wf _ hq x h]at hx;cases hx
 |_=>simp at h4
end
section
variable {tb:aO}(ok:dP tb){ih:aH->St->R (Ex×St)}{ι:a8}
theorem Nx:∀(n t:Nat) (acc:Array O),(Extern.BytealgMakeNoZero.digits n t acc).size=acc.size+n
 |0,_,_=>rfl
 |n+1,t,acc=>by
  rw[Extern.BytealgMakeNoZero.digits,Nx n,Array.size_push];omega
theorem Nw:∀(n t:Nat) (acc:Array O),(∀v∈acc,bI v=aa)->∀v∈Extern.BytealgMakeNoZero.digits n t acc,bI v=aa
 |0,_,_,h=>h
 |n+1,t,acc,h=>by
  rw[Extern.BytealgMakeNoZero.digits];refine Nw n _ _ λ v hv=>?_
  rcases Array.mem_push.1 hv with h1|rfl
  .exact h v h1
  .rfl
variable {fn:Func}
def tJ {P:Program} {f:FuncId} (hf:P.funcs[f]?=some fn) (hb:fn.body=none) (hn:(fn.name== "runtime.NumGoroutine")=false) (hx:Extern.findNext fn=none) {e:Array Value->Sem Value}
 (he:Extern.find fn=U e) (args:Array O) (w w':aG) (v:O) (h:(e args).run P w=.ok v w'):(callFunc f args).run P w=.ok (.value v) w':=by
 unfold callFunc;simp only[aP,run_program,aQ,hf,hn,hb,hx,he,Option.isNone_none,bR,ed,bO,run_mark,h,aW]
def qbT(ps rs:Array aj)(n:Int):Extern.BytealgMakeNoZero.makeNoZero ps rs #[.int .i64 n]=(do
 let some t:=rs[0]?|stuck "bytealg.MakeNoZero: no result type"
 let .slice elem<-underlying t|stuck "bytealg.MakeNoZero: slice type expected"
 if n<0||n>2^48 then runtimePanic (.error "makeslice: len out of range")
 let cap<-choose (.appendCap n.toNat 0 elem)
 askRoom cap
 let bytes<-choose (.extern "internal/bytealg.MakeNoZero.bytes" 0);let a<-newRow elem (Extern.BytealgMakeNoZero.digits cap bytes #[])
 pure (.slice (U a) n.toNat cap)):=rfl
def Yf(t:aj)(r:Nat):Extern.MapsClone.clone #[.iface t (.map (U r))]=(do
 let .map entries clock<-getObj r|stuck "maps.clone: a map expected"
 pure (.iface t (.map (U (<-newObj (.map entries clock)))))):=rfl
def U_(x y c:Nat)(hc:c<=1){e:Array O->Sem O}(he:(Extern.MathBitsCarry.rows[0]?).map (·.2)=U e)(P:cI)(w:aG):
 (e #[.int .u64 (.ofNat x),.int .u64 (.ofNat y),.int .u64 (.ofNat c)]).run P w=.ok (.tuple #[.int .u64 (.ofNat ((x+y+c) % 18446744073709551616)),.int .u64 (.ofNat ((x+y+c)/18446744073709551616))]) w:=by
 cases he;rcases(show c=0\/c=1 by omega)with rfl|rfl
 .rfl
 .rfl
variable {c:Nat}
def MO{x:UInt8}(hc:c<256):aL x.toNat c=(x==(cO c).toNat.toUInt8):=by
 have e:(cO c).toNat.toUInt8.toNat=c:=by
  show(lZ c).toNat=c;rw[HK];omega
 rw[qu,pS,beq_iff_eq];constructor
 .intro h;apply yI.1;rw[e];exact h
 .intro h;rw[h];exact e
theorem IN(hc:c<256):∀(l:List UInt8) (n:Nat),yS c l n=n+Lib.countByte l (cO c).toNat.toUInt8
 | [],n=>by simp[yS,Lib.countByte]
 |x::l,n=>by
  unfold yS Lib.countByte;rw[MO hc,List.count_cons];cases x==(cO c).toNat.toUInt8 with
  |true=>rw[aI,IN hc];unfold Lib.countByte;simp;omega
  |false=>rw[ba,IN hc];unfold Lib.countByte;simp
def Yp(l:List UInt8)(hc:c<256):Value.int .i64 (.ofNat (yS c l 0))=.int .i64 (Lib.countByte l (cO c).toNat.toUInt8:Nat):=by
 rw[IN hc,dO];rfl
theorem Ro(hc:c<256):∀(l:List UInt8) (n:Nat),Dm c l n=if Lib.indexByte l (cO c).toNat.toUInt8==-1 then-1 else Lib.indexByte l (cO c).toNat.toUInt8+n
 | [],n=>rfl
 |x::l,n=>by
  unfold Dm Lib.indexByte;rw[MO hc];cases hq:x==(cO c).toNat.toUInt8 with
  |true=>simp
  |false=>
   rw[ba,Ro hc];have:=Lib.indexByte_ge l (cO c).toNat.toUInt8;generalize Lib.indexByte l (cO c).toNat.toUInt8=z at this;simp only[ed,bO,beq_iff_eq];by_cases h1:z=-1
   .simp[h1]
   .simp only[aq h1];rw[aq (by omega)];omega
def qdi(l:List UInt8)(hc:c<256):Value.int .i64 (Dm c l 0)=.int .i64 (Lib.indexByte l (cO c).toNat.toUInt8):=by
 rw[Ro hc];split
 .rename_i h;rw[beq_iff_eq]at h;rw[h]
 .simp
include ok in
def Zn {k:Nat} {f:FuncId} {fn:Func} {args:List O} {A A':Mem} {v:O} (hf:tb.fn.get f=U fn) (hx:vY k fn) (h:Jd tb k fn args A=.ok (v,A')):
 A.next<=A'.next/\∀(ι:a8) (w:aG) (args':Array O),Rel ι A w->bn ι args args'.toList->ew ι A A'->
  ∃ι' w' v',(callFunc f args').run tb.P w=.ok (.value v') w'/\VR ι' v v'/\Rel ι' A' w'/\bZ ι A w ι' A' w':=by
 have hf':=ok.fn _ _ hf;obtain⟨hb,hn,hnx,hk⟩:=hx;unfold Jd at h;split at h
 .simp only[av,bf]at h;obtain⟨rfl,rfl⟩:=h;refine⟨aJ _,λ ι w args' hr ha hfree=>?_⟩;obtain⟨l⟩:=args';cases ha with
  |cons hv ht=>
   cases ht with
   |nil=>exact⟨ι,w,_,tJ hf' hb hn hnx hk _ w w _ rfl,hv,hr,bZ.refl _ _ _⟩
 .rename_i a _ _ b _ _;split at h
  .rename_i p q r hp hr0;split at h
   .rename_i e hd;have hb1:=R.aF h;clear h;obtain⟨size,hz,h1⟩:=hb1;cases hq:aL p q with
    |false=>rw[hq]at h1;cases h1
    |true=>
     rw[hq,aI]at h1;obtain rfl:=dZ hq;have hb2:=R.aF h1;clear h1;obtain⟨u,hap,h⟩:=hb2;simp only[av,bf]at h;obtain⟨rfl,rfl⟩:=h;unfold Ml at hap;split at hap
     .rename_i tA nA fzA cA tB xB fzB cB hsa hsb hga hgb;split at hap
      .rename_i v0 hv0;have hne:a.block≠b.block:=λ e=>by rw[e]at hap;simp at hap
       refine⟨aJ _,λ ι w args' hr ha hfree=>?_⟩;obtain⟨l⟩:=args';obtain⟨ab,ao,qjX⟩:=a;obtain⟨bb,bo,bs⟩:=b;simp only at hsa hsb hga hgb hne;subst hsa hsb;have hps:fn.params= #[p,p]:=by apply Array.toList_inj.1;rw[hp]
       have hrs:fn.resultTypes= #[r]:=by apply Array.toList_inj.1;rw[hr0]
       have fin:∀(la lb:Loc) (oa ob la1 lb1 ca cb:Nat),ι ab=U la->ι bb=U lb->
        (Extern.SlicesOverlaps.overlaps fn.params fn.resultTypes #[.slice (U ⟨la.blk,oa,Y⟩) la1 ca,.slice (U ⟨lb.blk,ob,Y⟩) lb1 cb]).run tb.P w=.ok (.bool af) w:=by
        intro la lb oa ob la1 lb1 ca cb hla hlb;obtain⟨o1,hw1,cs1,fr1,rfl,hcs1,_,hk1⟩:=hr.obs _ _ _ hga rfl hla;obtain⟨o2,hw2,cs2,fr2,rfl,hcs2,hc2,_⟩:=hr.obs _ _ _ hgb rfl hlb;obtain⟨_,_,rfl⟩:=hk1;obtain⟨v',hv',_⟩:=hc2 0 v0 hv0;have hsz2:cs2.size≠0:=by have:=(fU.1 hv').1;omega
        have hbl:la.blk≠lb.blk:=λ e=>hne (hr.inj ab bb la lb ⟨_,hga,rfl⟩ ⟨_,hgb,rfl⟩ hla hlb e)
        rw[hps,hrs];exact Lib.run_overlaps_apart w p r e (Uo ok hd) size (jB ok hz) ⟨la.blk,oa,Y⟩ ⟨lb.blk,ob,Y⟩ la1 ca lb1 cb hbl tA tB cs1.size cs2.size
         (by simp only[World.shape?,hw1]) (by simp only[World.shape?,hw2]) hsz2 (by simp[World.frozen?,hw1]) (by simp[World.frozen?,hw1])
       cases ha with
       |cons hv ht=>
        cases ht with
        |cons hu ht=>
         cases ht with
         |nil=>
          cases hv with
          |sl hla _=>cases hu with
           |sl hlb _=>exact⟨ι,w,_,tJ hf' hb hn hnx hk _ w w _ (fin _ _ _ _ _ _ _ _ hla hlb),.bool _,hr,bZ.refl _ _ _⟩
           |slX hlb _ _ _ _ _ _=>exact⟨ι,w,_,tJ hf' hb hn hnx hk _ w w _ (fin _ _ _ _ _ _ _ _ hla hlb),.bool _,hr,bZ.refl _ _ _⟩
          |slX hla _ _ _ _ _ _=>cases hu with
           |sl hlb _=>exact⟨ι,w,_,tJ hf' hb hn hnx hk _ w w _ (fin _ _ _ _ _ _ _ _ hla hlb),.bool _,hr,bZ.refl _ _ _⟩
           |slX hlb _ _ _ _ _ _=>exact⟨ι,w,_,tJ hf' hb hn hnx hk _ w w _ (fin _ _ _ _ _ _ _ _ hla hlb),.bool _,hr,bZ.refl _ _ _⟩
      .cases hap
     .cases hap
   .cases h
  .cases h
 .rename_i n;split at h
  .rename_i p ps hp;split at h
   .rename_i e hd;revert h;generalize hq:(au _ 1048576&&_)=q;intro h;cases q with
    |false=>cases h
    |true=>
     simp only[aI,av,bf]at h;obtain⟨rfl,rfl⟩:=h;refine⟨by rw[aA];omega,λ ι w args' hr ha hfree=>?_⟩;simp only[dz]at hq;have hn2:=fQ hq.1;obtain⟨l⟩:=args';cases ha with
     |cons hv ht=>
      cases ht;cases hv;have h0:fn.resultTypes[0]?=U p:=by
       have:fn.resultTypes.toList[0]?=U p:=by rw[hp];rfl
       rwa[fW]at this
      let cap:=(Question.appendCap n 0 e).cut (w.tape w.drawn (.appendCap n 0 e));have hcap:n<=cap/\cap<2^63:=by
       show n<=n+_ % (2^63-n)/\n+_ % (2^63-n)<2^63;have:w.tape w.drawn (.appendCap n 0 e) % (2^63-n)<2^63-n:=iU _ (by omega);omega
      let bs:=(Question.extern "internal/bytealg.MakeNoZero.bytes" 0).cut (w.tape (w.drawn+1) (.extern "internal/bytealg.MakeNoZero.bytes" 0));let cs:=Extern.BytealgMakeNoZero.digits cap bs #[]
      have hcs:cs.size=cap:=by simp only[cs,Nx];simp
      have hN:=hfree _ (aJ _) (by rw[aA];omega);let w':aG:={w with heap:=w.heap.push (.cells cs e),drawn:=w.drawn+2};have hrun:(Extern.BytealgMakeNoZero.makeNoZero fn.params fn.resultTypes #[.int .i64 (.ofNat n)]).run tb.P w=.ok (.slice (U ⟨w.heap.size,0,Y⟩) n cap) w':=by
       have w1:(decide ((cO n)<0)||decide ((cO n)>2^48))=af:=by
        simp only[ig,Bs,decide_eq_false_iff_not];omega
       rw[qbT];simp only[h0,aP,bK ok hd,aQ,w1,ed,bO,aW,run_choose,Question.forced,run_askRoom,newRow,run_newObj];rfl
      obtain⟨ι',e1,hrel,hst⟩:=hr.tM (w':=w') (ob:=.cells e .row 0 (T.bP .e 0 (fq n (.chan (U 0))))) (sz:=cap) hN (λ _ k _ h=>by simp only[Ob.cells.injEq,GB]at h;omega) (rR w _ _ (by simp)) (by simp[w']) (λ ι' hi hbb=>by
       refine⟨cs,(0,0),rfl,hcs,λ i v hv=>?_,a6 _⟩;rw[T.oO]at hv;by_cases hi:0<=i/\i<0+(fq n (Value.chan (U 0))).length
       .rw[aC hi]at hv;rw[List.getElem?_replicate]at hv;split at hv
        .cases hv;have hlt:i<cs.size:=by simp at hi;omega
         exact⟨cs[i],by simp[hlt],.unk (Nw _ _ _ (by simp) _ (Array.getElem_mem hlt))⟩
        .cases hv
       .rw[aq hi,T.pC]at hv;cases hv)
      refine⟨ι',w',_,tJ hf' hb hn hnx hk _ w w' _ hrun,?_,hrel,hst⟩;have he1:(1:Nat)<65536:=by omega
      exact VR.slX e1 (iK _ _) (by rw[gB he1];exact hcap.1) (by rw[lj he1];simp) (λ _=>rfl) hcap.2 (by rw[gB he1];omega)
   .cases h
  .cases h
 .split at h
  .rename_i es clock hg;simp only[av,bf]at h;obtain⟨rfl,rfl⟩:=h;refine⟨by rw[aA];omega,λ ι w args' hr ha hfree=>?_⟩;obtain⟨l⟩:=args';cases ha with
   |cons hv ht=>
    cases ht;cases hv with
    |iface hv=>
     cases hv with
     |map hl=>
      obtain⟨o',hw,h0,es',rfl,hes⟩:=hr.obs _ _ _ hg rfl hl;have hN:=hfree _ (aJ _) (by rw[aA];omega);let w':aG:={w with heap:=w.heap.push (.map es' clock),drawn:=w.drawn};obtain⟨ι',e1,hrel,hst⟩:=hr.tM (w':=w') (ob:=.map es clock) (sz:=0) hN (λ _ _ _ h=>by cases h) (rR w _ _ (by simp)) (by simp[w']) (λ ι' hi hbb=>⟨rfl,es',rfl,hes.mono hi⟩);refine⟨ι',w',_,tJ hf' hb hn hnx hk _ w w' _ ?_,.iface (.map e1),hrel,hst⟩;rw[Yf];simp only[aP,lr hw (by simp),aQ,run_newObj,aW];rfl
  .cases h
 .rename_i x y c;revert h;generalize hq:au c 1=q;intro h;cases q with
  |false=>cases h
  |true=>
   simp only[aI,av,bf]at h;obtain⟨rfl,rfl⟩:=h;refine⟨aJ _,λ ι w args' hr ha hfree=>?_⟩;obtain⟨l⟩:=args';cases ha with
   |cons h1 ha=>
    cases ha with
    |cons h2 ha=>
     cases ha with
     |cons h3 ha=>
      cases ha;cases h1;cases h2;cases h3;obtain⟨e,he⟩:∃e,(Extern.MathBitsCarry.rows[0]?).map (·.2)=U e:=⟨_,rfl⟩;refine⟨ι,w,_,tJ hf' hb hn hnx (hk.trans he) _ w w _ (U_ x y c (fQ hq) he tb.P w),?_,hr,bZ.refl _ _ _⟩;exact .tuple (.cons (.int _ _) (.cons (.int _ _) .nil))
 .rename_i s c;cases hq:aM c 256 with
  |false=>rw[hq]at h;cases h
  |true=>
   rw[hq]at h;simp only[aI,av,bf]at h;obtain⟨rfl,rfl⟩:=h;refine⟨aJ _,λ ι w args' hr ha hfree=>?_⟩;obtain⟨l⟩:=args';cases ha with
   |cons h1 ha=>
    cases ha with
    |cons h2 ha=>
     cases ha;cases h1;cases h2;refine⟨ι,w,_,tJ hf' hb hn hnx hk _ w w _ (Lib.run_countString s (cO c) w),?_,hr,bZ.refl _ _ _⟩;rw[<-Yp s.data.toList (jK hq)];exact .int _ _
 .rename_i s c;cases hq:aM c 256 with
  |false=>rw[hq]at h;cases h
  |true=>
   rw[hq]at h;simp only[aI,av,bf]at h;obtain⟨rfl,rfl⟩:=h;refine⟨aJ _,λ ι w args' hr ha hfree=>?_⟩;obtain⟨l⟩:=args';cases ha with
   |cons h1 ha=>
    cases ha with
    |cons h2 ha=>
     cases ha;cases h1;cases h2;refine⟨ι,w,_,tJ hf' hb hn hnx hk _ w w _ (Lib.run_indexByteString s (cO c) w),?_,hr,bZ.refl _ _ _⟩;rw[<-qdi s.data.toList (jK hq)];exact .int _ _
 .cases h
end
section
variable {tb:aO}(ok:dP tb){ih:aH->St->R (Ex×St)}{ι:a8}
include ok in
def M_ (hih:zC tb.P ih):rr tb ih:=by
 intro cl A r h;unfold cH at h;split at h
 .rename_i l args;exact .inr (qdV hih h)
 .rename_i f args;split at h
  .cases h
  .rename_i fn hf;cases hng:(fn.name== "runtime.NumGoroutine")with
   |true=>rw[hng]at h;cases h
   |false=>
    rw[hng,ba]at h;have hf':=ok.fn _ _ hf;split at h
    .rename_i hb;split at h
     .rename_i k hk;obtain⟨⟨v,A'⟩,h1,h2⟩:=R.aF h;simp only[av]at h2;obtain⟨hle,hs⟩:=Zn ok hf (ok.ex f k fn hk hf) h1;refine .inr ⟨v,A',h2.symm,hle,λ ι w s fr cs hr hcl hfree=>?_⟩;obtain⟨args',hrun,hargs⟩:=hcl;obtain⟨ι',w',v',e,hv,hrel,hst⟩:=hs ι w args' hr hargs hfree;exact⟨ι',w',v',.inl (hrun.trans e),hv,hrel,hst⟩
     .cases h
    .rename_i c hb;have hcf:∀args' w,(callFunc f args').run tb.P w=.ok (.enter f args') w:=by
      intro args' w;unfold callFunc;simp only[aP,run_program,aQ,hf',hng,hb,Option.isNone_some,ed,bO,aW]
     split at h
     .rename_i hh hhk;obtain⟨⟨v,A'⟩,h1,h2⟩:=R.aF h;simp only[av]at h2;obtain⟨hle,hs⟩:=ok.hk f hh hhk args A v A' h1;refine .inr ⟨v,A',h2.symm,hle,λ ι w s fr cs hr hcl hfree=>?_⟩;obtain⟨args',hrun,hargs⟩:=hcl;obtain⟨ι',w',v',st,hv,hrel,hst⟩:=hs ι w args' hr hargs hfree fr cs;exact⟨ι',w',v',.inr (.inl ⟨f,args',hrun.trans (hcf args' w),st⟩),hv,hrel,hst⟩
     .rcases Jv ok hih hf hb h with⟨v,A',h1,hle,hs⟩|⟨v,A',h1,hle,hs⟩
      .refine .inl ⟨v,A',h1,hle,λ ι w s fr cs hr hcl hfree=>?_⟩;obtain⟨args',hrun,hargs⟩:=hcl;obtain⟨ι',w',v',⟨fr0,st,hfn,hlv⟩,hv,hrel,hst⟩:=hs ι w args' (fr::cs) hr hargs hfree;exact⟨ι',w',v',⟨f,args',hrun.trans (hcf args' w),st.trans (.one (step_leave_panicked hlv))⟩,hv,hrel,hst⟩
      .refine .inr ⟨v,A',h1,hle,λ ι w s fr cs hr hcl hfree=>?_⟩;obtain⟨args',hrun,hargs⟩:=hcl;obtain⟨ι',w',v',⟨fr0,st,hfn,hlv⟩,hv,hrel,hst⟩:=hs ι w args' (fr::cs) hr hargs hfree;exact⟨ι',w',v',.inr (.inl ⟨f,args',hrun.trans (hcf args' w),st.trans (.one (step_leave_returned hlv))⟩),hv,hrel,hst⟩
include ok in
theorem CN:∀n,zC tb.P (exec tb n)
 |0=>by
  intro c s e s1 h;cases h
 |n+1=>by
  have hih:=CN n;have hcall:=M_ ok hih;exact qhM ok hih hcall (YR ok hcall) λ f ps a b s e s1 h=>qbM ok hcall f ps a b s e s1 h
def iB:Mem:=⟨.e,0⟩
def qdw(w:aG):Rel (λ _=>Y) iB w:=
 ⟨λ _ _=>rfl,(λ _ _ _ h=>by cases h),(λ _ _ h=>by cases h),(λ _ _ _ _ h=>by obtain⟨_,h,_⟩:=h;cases h),(λ _ _ _ _ h=>by cases h)⟩
def qcy(b:Nat):¬live iB b:=λ⟨_,h,_⟩=>by cases h
def Leaves(w w':aG):Prop:=(∀c,c<w.heap.size->w'.heap[c]?=w.heap[c]?)/\w.heap.size<=w'.heap.size/\w'.os=w.os/\w'.tape=w.tape/\w'.output=w.output
def isTrue:R nh->Bool
 |.ok (.val (.bool b) _)=>b
 |_=>af
end
def Ll(P:cI)(ex:T Nat):aO:={P:=P,ty:=T.ofList P.types.toList,fn:=T.ofList P.funcs.toList,ex:=ex,hk:=.e}
def TY(C:Checked)(ex:T Nat)(hex:∀f k fn,ex.get f=U k->C.prog.funcs[f]?=U fn->vY k fn):dP (Ll C.prog ex) where
 ty:=λ t i h=>by
  have h':(T.ofList C.prog.types.toList).get t=U i:=h;rw[T.Az,fW]at h';show C.prog.toTables.info? t=U i;unfold Tables.info?;have hlt:=(fU.1 h').1;rw[aC hlt];exact h'
 fn:=λ f fn h=>by
  have h':(T.ofList C.prog.funcs.toList).get f=U fn:=h;rw[T.Az,fW]at h';exact h'
 mixed:=Checked.mixed C
 ex:=λ f k fn h hf=>hex f k fn h (by
  have h':(T.ofList C.prog.funcs.toList).get f=U fn:=hf;rw[T.Az,fW]at h';exact h')
 hk:=λ f h hh=>by cases hh
end Go.Am
namespace Go.Am
open Go.RowKit Go.WideShapes Go.ChangeShapes
variable {w':aG}
def Leaves.below{w:aG}(h:Leaves w w'):Below w.heap.size w w':=⟨h.2.2.1,h.2.2.2.1,h.2.2.2.2,h.2.1,h.1⟩
section
variable {H:Type}{enc:aj×O->H}{P:cI}
end
end Go.Am
namespace Go.Am
section
def flat:Nat->O->Bool
 |0,_=>af
 |d+1,v=>
  match v with
  |.bool _|.int _ _|.string _=>aa
  |.agg l=>l.toList.all (flat d)
  |.tuple l=>l.toList.all (flat d)
  |.nilIface|.pointer Y|.slice Y 0 0|.map Y|.nilFunc=>aa
  |.iface _ v=>flat d v
  |_=>af
mutual
theorem Ju{ι ι':a8}:∀(d:Nat) (v v':O),flat d v=aa->VR ι v v'->VR ι' v v'
 |0,_,_,h,_=>by simp[flat]at h
 |d+1,v,v',h,hv=>by
  unfold flat at h;split at h
  .cases hv;exact .bool _
  .cases hv;exact .int _ _
  .cases hv;exact .string _
  .cases hv with
   |agg hs=>exact .agg (FA d _ _ (ov.1 h) hs)
  .cases hv with
   |tuple hs=>exact .tuple (FA d _ _ (ov.1 h) hs)
  .cases hv;exact .nilIface
  .cases hv;exact .ptrN
  .cases hv;exact .slN
  .cases hv;exact .mapN
  .cases hv;exact .nilFunc
  .cases hv with
   |iface hs=>exact .iface (Ju d _ _ h hs)
  .cases h
theorem FA{ι ι':a8}:∀(d:Nat) (l l':List O),(∀v∈l,flat d v=aa)->bn ι l l'->bn ι' l l'
 |_,[],_,_,h=>by cases h;exact .nil
 |d,v::l,_,hf,h=>by
  cases h with
  |cons hv ht=>exact .cons (Ju d v _ (hf v (by simp)) hv) (FA d l _ (λ x hx=>hf x (by simp[hx])) ht)
end
variable {ι:a8}{A:Mem}{w':aG}
def PR{w:aG}(hr:Rel ι A w)(hl:Leaves w w'):Rel ι A w'/\bZ ι A w ι A w':=by
 refine⟨⟨hr.wf,λ b o l hg ha hb=>?_,λ b l hb=>dc (hr.rng b l hb) hl.2.1,hr.inj,hr.gl⟩,⟨aJ _,λ _ _=>rfl,λ b l hb hll=>.inr ⟨b,l,hb,hll,rfl⟩,λ c hc _=>hl.1 c hc,hl.2.1,hl.2.2.1,hl.2.2.2.1,hl.2.2.2.2,λ b l hb _=>⟨rfl,hl.1 _ (hr.rng b l hb)⟩⟩⟩;obtain⟨o',h1,h2⟩:=hr.obs b o l hg ha hb;exact⟨o',by rw[hl.1 _ (hr.rng b l hb)];exact h1,h2⟩
def dV(sp:List O->Option O):List O->Mem->R (O×Mem):=λ args A=>
 match sp args with
 |some v=>.ok (v,A)
 |none=>.no 600
variable {tb:aO}(ok:dP tb)
include ok in
def xi {f:FuncId} {fn:Func} {c:aH} (hf:tb.fn.get f=U fn) (hb:fn.body=U c) {sp:List O->Option O}
 (h:∀args v,sp args=U v->(∀x∈args,flat 9 x=aa)/\flat 9 v=aa/\∃n A1,call tb n f args iB=.ok (.val v A1)):fP tb.P f (dV sp):=by
 intro args A v A' ha;unfold dV at ha;split at ha
 .rename_i v0 hsp;simp only[av,bf]at ha;obtain⟨rfl,rfl⟩:=ha;obtain⟨hfa,hfv,n,A1,hc⟩:=h args v0 hsp;refine⟨aJ _,λ ι w args' hr hargs _ fr cs=>?_⟩;unfold call at hc;simp only[hf,hb]at hc;rcases Jv ok (CN ok n) hf hb hc with⟨_,_,h1,_⟩|⟨v,A',h1,hle,hs⟩
  .cases h1
  .cases h1;obtain⟨ι',w',v',⟨fr0,st,hfn,hlv⟩,hv,hrel,hst⟩:=hs (λ _=>Y) w args' (fr::cs) (qdw w) (FA 9 _ _ hfa hargs) (λ _ _ _=>rfl);have hl:Leaves w w':=⟨λ c hc=>hst.fr c hc (λ b l hl _=>aZ hl (qcy b)),hst.size,hst.os,hst.tape,hst.output⟩;obtain⟨h2,h3⟩:=PR hr hl;exact⟨ι,w',v',st.trans (.one (step_leave_returned hlv)),Ju 9 _ _ hfv hv,h2,h3⟩
 .cases ha
def aO.sM(tb:aO)(f:FuncId)(h:List O->Mem->R (O×Mem)):aO:={tb with hk:=tb.hk.set f h}
include ok in
def jy {f:FuncId} {h:List O->Mem->R (O×Mem)} (hh:fP tb.P f h):dP (tb.sM f h) where
 ty:=ok.ty
 fn:=ok.fn
 mixed:=ok.mixed
 ex:=ok.ex
 hk:=λ g k hg=>by
  have hg':(tb.hk.set f h).get g=U k:=hg;rw[T.cq]at hg';split at hg'
  .rename_i e;cases hg';rw[e];exact hh
  .exact ok.hk g k hg'
end
section
variable {tb:aO}{ih:aH->St->R (Ex×St)}
def R.aT{α β:Type}(a:α)(f:α->R β):(R.ok a).bind f=f a:=rfl
def CM(n:Nat)(a b:aH)(s:St):exec tb (n+1) (.seq a b) s=(exec tb n a s).bind λ(e,s')=>match e with
 |.nrm=>exec tb n b s'
 |e=>.ok (e,s'):=rfl
def N3(n id:Nat)(ops:Array Oper)(s:St):exec tb (n+1) (.region id ops af) s=j7 tb (exec tb n) ops.toList ops.toList s:=rfl
def N5(n:Nat)(s:St):exec tb (n+1) .skip s=.ok (.nrm,s):=rfl
def N4(n:Nat)(s:St):exec tb (n+1) .ret s=.ok (.ret,s):=rfl
def N2(n id:Nat)(s:St):exec tb (n+1) (.exit id) s=.ok (.exit id,s):=rfl
def Jc(n:Nat)(c:aH)(s:St):exec tb (n+1) (.scope c) s=exec tb n c s:=rfl
def CL(n id:Nat)(c:aH)(s:St):exec tb (n+1) (.block id c) s=(exec tb n c s).bind λ(e,s')=>match e with
 |.exit i=>bif aL i id then .ok (.nrm,s')else .ok (.exit i,s')
 |e=>.ok (e,s'):=rfl
def Fe(n:Nat)(c:bA)(a b:aH)(s:St):exec tb (n+1) (.cond c a b) s=(ev s.t c).bind λ v=>match v with
 |.bool aa=>exec tb n a s
 |.bool af=>exec tb n b s
 |_=>.no 330:=rfl
def Ff(n:Nat)(c:aH)(s:St):exec tb (n+1) (.loop c) s=(exec tb n c s).bind λ(e,s')=>match e with
 |.nrm=>exec tb n (.loop c) s'
 |e=>.ok (e,s'):=rfl
def Np{α:Type}(p:Bool)(x y:R α)(z:R α):(match Value.bool p with
 |.bool aa=>x
 |.bool af=>y
 |_=>z)=if p=aa then x else y:=by cases p<;>rfl
def RY(ops:List Oper)(s:St):j7 tb ih ops [] s=.ok (.nrm,s):=rfl
def RX(ops l:List Oper)(dst:Option Tmp)(op:Op)(ty:aj)(pos:String)(after:Array Edge)(s:St):
 j7 tb ih ops ({dst,op,type:=ty,pos,after,guard:=Y}::l) s=bB tb ih {dst,op,type:=ty,pos,after,guard:=Y} s (j7 tb ih ops l):=rfl
section
variable (dst:Option Tmp)(ty:aj)(pos:String)(after:Array Edge)(g:Option (Nat×Bool))(s:St)(k:St->R (Ex×St))
def QX(x:bA):bB tb ih {dst,op:=.move x,type:=ty,pos,after,guard:=g} s k=(ev s.t x).bind λ v=>bS s dst v k:=rfl
def QC(x:bA):bB tb ih {dst,op:=.assign x,type:=ty,pos,after,guard:=g} s k=(ev s.t x).bind λ v=>bS s dst v k:=rfl
def R.ec{α β γ:Type}(x:R α)(f:α->R β)(h:β->R γ):(x.bind f).bind h=x.bind λ a=>(f a).bind h:=by cases x<;>rfl
def mX{o:Op}(hc:cls tb o=.P)(hi:qf o=Y):bB tb ih {dst,op:=o,type:=ty,pos,after,guard:=g} s k=(gT tb s.t o).bind λ v=>bS s dst v k:=by
 unfold bB;simp only[hi,hc]
def uY{o:Op}(hc:cls tb o=.Rd)(hi:qf o=Y):bB tb ih {dst,op:=o,type:=ty,pos,after,guard:=g} s k=(eB tb s.t s.m.get o).bind λ v=>bS s dst v k:=by
 unfold bB;simp only[hi,hc]
def AS{o:Op}(hc:cls tb o=.Al)(hi:qf o=Y):bB tb ih {dst,op:=o,type:=ty,pos,after,guard:=g} s k=(l_ tb s.t o).bind λ(ob,way)=>bS {s with m:=s.m.alloc ob} dst (way.at s.m.next) k:=by
 unfold bB;simp only[hi,hc]
def Kh(op:BinOp)(t:aj)(x y:bA)(r:aj)(hc:cls tb (.binOp op t x y r)=.P):bB tb ih {dst,op:=.binOp op t x y r,type:=ty,pos,after,guard:=g} s k=
 (ev s.t x).bind λ a=>(ev s.t y).bind λ b=>(iu op (tb.aB t) a b).bind λ v=>bS s dst v k:=by
 rw[mX _ _ _ _ _ _ _ hc rfl];simp only[gT,R.ec]
def qaV:BinOp->Bool
 |.eql|.neq=>af
 |_=>aa
def QB(op:BinOp)(t:aj)(x y:bA)(r:aj)(h:qaV op=aa):bB tb ih {dst,op:=.binOp op t x y r,type:=ty,pos,after,guard:=g} s k=
 (ev s.t x).bind λ a=>(ev s.t y).bind λ b=>(iu op (tb.aB t) a b).bind λ v=>bS s dst v k:=
 Kh _ _ _ _ _ _ _ _ _ _ _ _ (by cases op<;>first|rfl|cases h)
def QY(t:aj)(x y:bA)(r:aj)(h:tv (tb.aB t)=aa):bB tb ih {dst,op:=.binOp .neq t x y r,type:=ty,pos,after,guard:=g} s k=
 (ev s.t x).bind λ a=>(ev s.t y).bind λ b=>(iu .neq (tb.aB t) a b).bind λ v=>bS s dst v k:=
 Kh _ _ _ _ _ _ _ _ _ _ _ _ (by unfold cls;simp only[h,aI])
def QM(t:aj)(x y:bA)(r:aj)(h:tv (tb.aB t)=aa):bB tb ih {dst,op:=.binOp .eql t x y r,type:=ty,pos,after,guard:=g} s k=
 (ev s.t x).bind λ a=>(ev s.t y).bind λ b=>(iu .eql (tb.aB t) a b).bind λ v=>bS s dst v k:=
 Kh _ _ _ _ _ _ _ _ _ _ _ _ (by unfold cls;simp only[h,aI])
def Q2(op:UnOp)(t:aj)(x:bA):bB tb ih {dst,op:=.unOp op t x,type:=ty,pos,after,guard:=g} s k=(ev s.t x).bind λ a=>(Bi op a).bind λ v=>bS s dst v k:=by
 rw[mX _ _ _ _ _ _ _ rfl rfl];simp only[gT,R.ec]
def QQ(t:aj)(x y:bA):bB tb ih {dst,op:=.index t x y,type:=ty,pos,after,guard:=g} s k=(ev s.t x).bind λ a=>(ev s.t y).bind λ b=>(uS tb t a b).bind λ v=>bS s dst v k:=by
 rw[mX _ _ _ _ _ _ _ rfl rfl];simp only[gT,R.ec]
def QR(t:aj)(x:Tmp)(y:bA):bB tb ih {dst,op:=.indexAddr t (.tmp x) y,type:=ty,pos,after,guard:=g} s k=(ev s.t (.tmp x)).bind λ a=>(ev s.t y).bind λ b=>(dQ tb t a b).bind λ v=>bS s dst v k:=by
 rw[mX _ _ _ _ _ _ _ rfl rfl];simp only[gT,R.ec]
def QP(t:aj)(x:bA)(i:Nat):bB tb ih {dst,op:=.fieldAddr t x i,type:=ty,pos,after,guard:=g} s k=(ev s.t x).bind λ a=>(bM tb t a i).bind λ v=>bS s dst v k:=by
 rw[mX _ _ _ _ _ _ _ rfl rfl];simp only[gT,R.ec]
def QO(t:aj)(x:bA)(i:Nat):bB tb ih {dst,op:=.field t x i,type:=ty,pos,after,guard:=g} s k=(ev s.t x).bind λ a=>(Au tb t a i).bind λ v=>bS s dst v k:=by
 rw[mX _ _ _ _ _ _ _ rfl rfl];simp only[gT,R.ec]
def QE(t:aj)(ps:Array (Nat×bA)):bB tb ih {dst,op:=.build t ps,type:=ty,pos,after,guard:=g} s k=(oM s.t ps.toList).bind λ ps=>(ef tb t ps).bind λ v=>bS s dst v k:=by
 rw[mX _ _ _ _ _ _ _ rfl rfl];simp only[gT,R.ec]
def Q0(t:aj)(x:bA)(lo hi mx:Option bA):bB tb ih {dst,op:=.slice t x lo hi mx,type:=ty,pos,after,guard:=g} s k=
 (ev s.t x).bind λ x=>(mQ s.t lo).bind λ lo=>(mQ s.t hi).bind λ hi=>(mQ s.t mx).bind λ mx=>(eD tb t x lo hi mx).bind λ v=>bS s dst v k:=by
 rw[mX _ _ _ _ _ _ _ rfl rfl];simp only[gT,R.ec]
def Je(x:O)(i:Nat):R O:=
 match x with
 |.tuple vs=>match vs.toList[i]? with
  |some v=>.ok v
  |none=>.no 211
 |_=>.no 212
def QN(x:bA)(i:Nat):bB tb ih {dst,op:=.extract x i,type:=ty,pos,after,guard:=g} s k=(ev s.t x).bind λ a=>(Je a i).bind λ v=>bS s dst v k:=by
 rw[mX _ _ _ _ _ _ _ rfl rfl];simp only[gT,R.ec];rfl
def Ga(t:T O)(c:O)(a b:bA):R O:=
 match c with
 |.bool aa=>ev t a
 |.bool af=>ev t b
 |_=>.no 207
def QZ(c a b:bA):bB tb ih {dst,op:=.pick c a b,type:=ty,pos,after,guard:=g} s k=(ev s.t c).bind λ c=>(Ga s.t c a b).bind λ v=>bS s dst v k:=by
 rw[mX _ _ _ _ _ _ _ rfl rfl];simp only[gT,R.ec];rfl
def QT(t:aj)(x:Tmp):bB tb ih {dst,op:=.load t (.tmp x),type:=ty,pos,after,guard:=g} s k=(ev s.t (.tmp x)).bind λ a=>(ax tb s.m.get t a).bind λ v=>bS s dst v k:=by
 rw[uY _ _ _ _ _ _ _ rfl rfl];simp only[eB,R.ec]
def QA(t:aj):bB tb ih {dst,op:=.alloc t,type:=ty,pos,after,guard:=g} s k=(cX tb t).bind λ z=>bS {s with m:=s.m.alloc (ae t z.cells.toList)} dst (Way.ptr.at s.m.next) k:=by
 rw[AS _ _ _ _ _ _ _ rfl rfl];simp only[l_,R.ec,R.aT]
def QD(t:aj)(x:bA):bB tb ih {dst,op:=.box t x,type:=ty,pos,after,guard:=g} s k=(ev s.t x).bind λ v=>bS {s with m:=s.m.alloc (ae t v.cells.toList)} dst (Way.ptr.at s.m.next) k:=by
 rw[AS _ _ _ _ _ _ _ rfl rfl];simp only[l_,R.ec,R.aT]
def QH(t:aj)(len:Nat)(ps:Array (Nat×bA)):bB tb ih {dst,op:=.buildSlice t len ps,type:=ty,pos,after,guard:=g} s k=
 (oM s.t ps.toList).bind λ ps=>(eo tb t len ps).bind λ(ob,way)=>bS {s with m:=s.m.alloc ob} dst (way.at s.m.next) k:=by
 rw[AS _ _ _ _ _ _ _ rfl rfl];simp only[l_,R.ec]
def QU(t:aj)(l c:bA):bB tb ih {dst,op:=.makeSlice t l c,type:=ty,pos,after,guard:=g} s k=
 (ev s.t l).bind λ l=>(ev s.t c).bind λ c=>(qY tb t l c).bind λ(ob,way)=>bS {s with m:=s.m.alloc ob} dst (way.at s.m.next) k:=by
 rw[AS _ _ _ _ _ _ _ rfl rfl];simp only[l_,R.ec]
def Q1(t:aj)(x v:bA):bB tb ih {dst,op:=.store t x v,type:=ty,pos,after,guard:=g} s k=
 (ev s.t x).bind λ x=>(ev s.t v).bind λ v=>(bX tb s.m t x v).bind λ A=>bS {s with m:=A} dst cL k:=by
 unfold bB;show((jX tb s.t s.m (.store t x v)).bind λ(v,A)=>bS {s with m:=A} dst v k)=_;simp only[jX,R.ec,R.aT]
def isNum:Option TypeDesc->Bool
 |some (.int _)=>aa
 |_=>af
def QK(a b:aj)(x:bA)(h:isNum (tb.aB a)=aa):bB tb ih {dst,op:=.convert a b x,type:=ty,pos,after,guard:=g} s k=(ev s.t x).bind λ x=>(pB tb a b x).bind λ v=>bS s dst v k:=by
 have hc:cls tb (.convert a b x)=.P:=by
  unfold cls;cases hu:tb.aB a with
  |none=>rw[hu]at h;cases h
  |some d=>
   rw[hu]at h;cases d<;>first
    |(cases h;done)
    |(simp only[hu];done)
    |(simp only[hu];cases tb.aB b with
     |none=>rfl
     |some d2=>cases d2<;>rfl)
 rw[mX _ _ _ _ _ _ _ hc rfl];simp only[gT,R.ec]
def QL(a b:aj)(x:bA){e:aj}(h:tb.aB a=U .string)(h':tb.aB b=U (.slice e)):bB tb ih {dst,op:=.convert a b x,type:=ty,pos,after,guard:=g} s k=
 (ev s.t x).bind λ x=>(zq tb a b x).bind λ(ob,way)=>bS {s with m:=s.m.alloc ob} dst (way.at s.m.next) k:=by
 have hc:cls tb (.convert a b x)=.Al:=by unfold cls;simp only[h,h']
 rw[AS _ _ _ _ _ _ _ hc rfl];simp only[l_,R.ec]
def Ki(a b:aj)(x:bA){e:aj}(h:tb.aB a=U (.slice e))(h':tb.aB b=U .string):bB tb ih {dst,op:=.convert a b x,type:=ty,pos,after,guard:=g} s k=
 (ev s.t x).bind λ x=>(gN tb s.m.get a b x).bind λ v=>bS s dst v k:=by
 have hc:cls tb (.convert a b x)=.Rd:=by unfold cls;simp only[h,h']
 rw[uY _ _ _ _ _ _ _ hc rfl];simp only[eB,R.ec]
def qaW:Option TypeDesc->Bool
 |some (.map _ _)=>aa
 |_=>af
def QS(args:Array bA)(t:aj)(h:qaW (tb.aB t)=af):bB tb ih {dst,op:=.call {callee:=.builtin .len,args,argTypes:= #[t]},type:=ty,pos,after,guard:=g} s k=
 (eI s.t args.toList).bind λ a=>(cQ tb .len [t] a).bind λ v=>bS s dst v k:=by
 have hc:cls tb (.call {callee:=.builtin .len,args,argTypes:= #[t]})=.P:=by
  unfold cls;cases hu:tb.aB t with
  |none=>simp only[hu]
  |some d=>rw[hu]at h;cases d<;>first|(simp only[hu];done)|cases h
 rw[mX _ _ _ _ _ _ _ hc rfl];simp only[gT,R.ec]
def QV(b:Builtin)(args:Array bA)(ts:Array aj)(h:b=.min\/b=.max\/b=.cap):bB tb ih {dst,op:=.call {callee:=.builtin b,args,argTypes:=ts},type:=ty,pos,after,guard:=g} s k=
 (eI s.t args.toList).bind λ a=>(cQ tb b ts.toList a).bind λ v=>bS s dst v k:=by
 have hc:cls tb (.call {callee:=.builtin b,args,argTypes:=ts})=.P:=by rcases h with rfl|rfl|rfl<;>rfl
 rw[mX _ _ _ _ _ _ _ hc rfl];simp only[gT,R.ec]
def QI(b:Builtin)(args:Array bA)(ts:Array aj)(h:b=.append\/b=.copy):bB tb ih {dst,op:=.call {callee:=.builtin b,args,argTypes:=ts},type:=ty,pos,after,guard:=g} s k=
 (eI s.t args.toList).bind λ a=>(tD tb s.m b ts.toList a).bind λ(v,A)=>bS {s with m:=A} dst v k:=by
 rcases h with rfl|rfl
 all_goals
  unfold bB;show((jX tb s.t s.m (.call _)).bind λ(v,A)=>bS {s with m:=A} dst v k)=_;simp only[jX,R.ec]
def AT(s:St)(dst:Option Tmp)(k:St->R (Ex×St)):nh->R (Ex×St)
 |.val v A=>bS {s with m:=A} dst v k
 |.dR v A=>.ok (.dR v,{s with m:=A})
def QJ(f:FuncId)(args:Array bA)(ts:Array aj):bB tb ih {dst,op:=.call {callee:=.value (.func f),args,argTypes:=ts},type:=ty,pos,after,guard:=g} s k=
 (eI s.t args.toList).bind λ a=>(cH tb ih (.fn f a) s.m).bind λ r=>AT s dst k r:=by
 unfold bB;show((qc tb s.t s.m.get {callee:=.value (.func f),args,argTypes:=ts}).bind λ cl=>(cH tb ih cl s.m).bind λ r=>match r with
  |.val v A=>bS {s with m:=A} dst v k
  |.dR v A=>.ok (.dR v,{s with m:=A}))=_
 have hcl:qc tb s.t s.m.get {callee:=.value (.func f),args,argTypes:=ts}=(eI s.t args.toList).bind λ a=>.ok (.fn f a):=by
  unfold qc;cases eI s.t args.toList with
  |no _=>rfl
  |ok a=>simp only[R.aT,ev,tK,lX,kR]
 rw[hcl];simp only[R.ec,R.aT];cases eI s.t args.toList with
 |no _=>rfl
 |ok a=>
  simp only[R.aT];cases cH tb ih (.fn f a) s.m with
  |no _=>rfl
  |ok r=>cases r<;>rfl
end
def filter_none{α:Type}(l:List α):l.filter (λ _=>af)=[]:=by simp
def O'(A:Mem):iy [] A=A:=rfl
theorem RW(ops:List Oper):∀(l:List Oper) (i:Nat) (mems:List (Nat×Mem)) (recs:List Rec) (mks:List (Nat×Nat)) (s:St),dW tb ih ops [] l i mems recs mks s=j7 tb ih ops l s
 | [],_,_,_,_,_=>rfl
 |o::l,i,mems,recs,mks,s=>by
  show((jc ops o s.t).bind λ w=>
   bif w then
    match cls tb o.op with
    |.L=>bB tb ih o {s with m:=iy ((mks.filter λ x=>eA x.1 i []).map (·.2)) s.m} λ s'=>
     (kh s.m.get ((mks.filter λ x=>eA x.1 i []).map (·.2)) s'.m).bind λ A=>
     bif (recs.filter λ x=>eA x.i i []).all (jA tb A.get)then dW tb ih ops [] l (i+1) ((i,s.m)::mems) recs mks {s' with m:=A}else .no 310
    |.Rd=>(eB tb s.t s.m.get o.op).bind λ v=>
     bif (mems.filter λ m=>eA i m.1 []).all (λ m=>jA tb m.2.get ⟨i,s.t,o.op,v⟩)then bS s o.dst v (dW tb ih ops [] l (i+1) mems (⟨i,s.t,o.op,v⟩::recs) mks)else .no 311
    |.Al=>bB tb ih o s λ s'=>dW tb ih ops [] l (i+1) (rS s.m.next (s'.m.get s.m.next) mems) recs ((i,s.m.next)::mks) s'
    |.P=>bB tb ih o s (dW tb ih ops [] l (i+1) mems recs mks)
   else bS s o.dst cL (dW tb ih ops [] l (i+1) mems recs mks))=((jc ops o s.t).bind λ w=>bif w then bB tb ih o s (j7 tb ih ops l)else bS s o.dst cL (j7 tb ih ops l))
  have e:∀i mems recs mks,dW tb ih ops [] l i mems recs mks=j7 tb ih ops l:=λ i mems recs mks=>funext λ s=>RW ops l i mems recs mks s
  have hp:∀a b:Nat,eA a b []=af:=λ _ _=>rfl
  simp only[e,hp,filter_none,rB,O',kh,R.aT,List.all_nil,aI];cases jc ops o s.t with
  |no _=>rfl
  |ok w=>
   cases w with
   |false=>rfl
   |true=>
    simp only[R.aT,aI];cases hc:cls tb o.op with
    |Rd=>
     simp only
     unfold bB;have hi:qf o.op=Y:=by
      cases ho:qf o.op with
      |none=>rfl
      |some c=>
       exfalso;unfold qf at ho;split at ho
       .rename_i c' hop;rw[hop]at hc;unfold cls at hc;simp only at hc;split at hc
        .rename_i hb;rw[hb]at ho;simp at ho
        .cases hc
       .cases ho
     simp only[hi,hc]
    |_=>rfl
def NC(tb:aO)(ops:List Oper):Bool:=
 match uH tb ops with
 |.ok []=>aa
 |_=>af
variable {n:Nat}{ops:Array Oper}
def N1{id:Nat}{s:St}(h:NC tb ops.toList=aa):exec tb (n+1) (.region id ops aa) s=(j7 tb (exec tb n) ops.toList ops.toList s).bind λ(e,s)=>match e with
 |.nrm=>.ok (.nrm,s)
 |_=>.no 312:=by
 have h':uH tb ops.toList=.ok []:=by
  unfold NC at h;split at h
  .assumption
  .cases h
 show((uH tb ops.toList).bind λ fl=>(dW tb (exec tb n) ops.toList fl ops.toList 0 [] [] [] s).bind λ(e,s)=>_)=_;rw[h'];simp only[R.aT,RW];rfl
def Ru(s:St)(v:O)(k:St->R (Ex×St)):bS s Y v k=k s:=rfl
variable {t:T O}{i:Nat}
def Rv{d:List Nat}{m:Mem}{ro:Option Nat}{v:O}{k:St->R (Ex×St)}(h:i<n):bS ⟨t,n,d,m,ro⟩ (U i) v k=k ⟨t.set i v,n,d,m,ro⟩:=by
 rw[Rt (by simpa using h)];rfl
def Mt(b:Nat):Way.ptr.at b=.pointer (U ⟨b,0,Y⟩):=rfl
def uB(b len cap:Nat):(Way.dy len cap).at b=.slice (U ⟨b,0,Y⟩) len cap:=rfl
def R6{ops l:List Oper}{o:Oper}{s:St}(h:jc ops o s.t=.ok aa):j7 tb ih ops (o::l) s=bB tb ih o s (j7 tb ih ops l):=by
 show((jc ops o s.t).bind λ w=>bif w then bB tb ih o s (j7 tb ih ops l)else bS s o.dst cL (j7 tb ih ops l))=_;rw[h];rfl
def RZ{ops l:List Oper}{o:Oper}{s:St}(h:jc ops o s.t=.ok af):j7 tb ih ops (o::l) s=bS s o.dst cL (j7 tb ih ops l):=by
 show((jc ops o s.t).bind λ w=>bif w then bB tb ih o s (j7 tb ih ops l)else bS s o.dst cL (j7 tb ih ops l))=_;rw[h];rfl
def DT(want:Bool)(v:Option O):R Bool:=
 match v with
 |some (.bool b)=>.ok (bif b then want else !want)
 |some (.tuple _)=>.ok af
 |some _=>.no 257
 |none=>.no 253
def yU:List Oper->Nat->Option Tmp
 | [],_=>Y
 |o::_,0=>o.dst
 |_::l,n+1=>yU l n
def NJ(o:Oper)(l:List Oper):yU (o::l) 0=o.dst:=rfl
def NI(o:Oper)(l:List Oper)(n:Nat):yU (o::l) (n+1)=yU l n:=rfl
theorem NH:∀(l:List Oper) (j:Nat) (d:Tmp),yU l j=U d->∃o,l[j]?=U o/\o.dst=U d
 | [],_,_,h=>by cases h
 |o::_,0,_,h=>⟨o,rfl,h⟩
 |_::l,n+1,d,h=>by
  obtain⟨o,h1,h2⟩:=NH l n d h;exact⟨o,by simpa using h1,h2⟩
def LC(ops:List Oper)(o:Oper)(want:Bool)(t:T O)(d:Option Tmp):R Bool:=
 match d with
 |some d=>DT want (t.get d)
 |none=>jc ops o t
def Ux(ops:List Oper)(dst:Option Tmp)(op:Op)(ty:aj)(pos:String)(after:Array Edge)(j:Nat)(want:Bool)(t:T O):
 jc ops {dst,op,type:=ty,pos,after,guard:=U (j,want)} t=LC ops {dst,op,type:=ty,pos,after,guard:=U (j,want)} want t (yU ops j):=by
 cases hd:yU ops j with
 |none=>rfl
 |some d=>
  obtain⟨o,h1,h2⟩:=NH ops j d hd;unfold jc LC DT;simp only[h1,h2];rfl
def Uw(ops:List Oper)(o:Oper)(want:Bool)(t:T O)(d:Tmp):LC ops o want t (U d)=DT want (t.get d):=rfl
def Uy(want b:Bool):DT want (U (.bool b))=.ok (bif b then want else !want):=rfl
def Uz(want:Bool)(x:Array O):DT want (U (.tuple x))=.ok af:=rfl
def NU(v:Option O):R O:=
 match v with
 |some v=>.ok v
 |none=>.no 200
def sA(t:T O)(i:Nat):ev t (.tmp i)=NU (t.get i):=rfl
def sq(v:O):NU (U v)=.ok v:=rfl
def NX(t:T O)(k:cY)(n:Nat):ev t (.const (.int k (no_index (OfNat.ofNat n))))=.ok (.int k ((OfNat.ofNat n:Nat):Int)):=rfl
def NV(t:T O)(b:Bool):ev t (.const (.bool b))=.ok (.bool b):=rfl
def MB{op:BinOp}{d:Option TypeDesc}{k:cY}{a b:Int}(h1:op≠.shl)(h2:op≠.shr):iu op d (.int k a) (.int k b)=bj op k a b:=by
 have hk:iA k k=aa:=by cases k<;>rfl
 unfold iu;cases op<;>first|exact aZ rfl h1|exact aZ rfl h2|(simp only[hk,aI])
variable {b:Nat}
def Dj{k:cY}{a:Nat}(h:0<b):bj .rem k (a:Int) (b:Int)=.ok (.int k ((a % b:Nat):Int)):=by
 obtain⟨c,rfl⟩:∃c,b=c+1:=⟨b-1,by omega⟩;rfl
def AE(h:n<4294967296):dj .u32 (n:Int)=aa:=by
 show aM n 4294967296=aa;rw[bT];exact h
def uR(h:n<256):dj .u8 (n:Int)=aa:=by
 show aM n 256=aa;rw[bT];exact h
def cS(h:n<9223372036854775808):dj .i64 (n:Int)=aa:=by
 show aM n 9223372036854775808=aa;rw[bT];exact h
def Ra{a:Nat}(h:0<b)(ha:a<4294967296):bj .quo .u32 (a:Int) (b:Int)=.ok (.int .u32 (a/b:Nat)):=by
 obtain⟨c,rfl⟩:∃c,b=c+1:=⟨b-1,by omega⟩;show R.ok (Value.int .u32 (eP .u32 ((a/(c+1):Nat):Int)))=_;unfold eP;rw[AE (pU (Nat.div_le_self ..) ha)];rfl
def Re{a:Nat}(ha:a<4294967296)(hb:b<4294967296):bj .xor .u32 (a:Int) (b:Int)=.ok (.int .u32 (a^^^b:Nat)):=by
 show(bif dj .u32 (a:Int)&&dj .u32 (b:Int)then R.ok (Value.int .u32 (a^^^b:Nat))else .no 12)=_;rw[AE ha,AE hb];rfl
def Q9{k:cY}{a:Nat}:bj .neq k (a:Int) (b:Int)=.ok (.bool (decide (a≠b))):=by
 show R.ok (Value.bool (!aL a b))=_;congr 2;cases h:aL a b with
 |true=>simp[dZ h]
 |false=>simp[Hv h]
def Kl{k:cY}{a:Nat}:bj .lss k (a:Int) (b:Int)=.ok (.bool (decide (a<b))):=by
 show R.ok (Value.bool (aM a b))=_;congr 2;rw[qu];simp[bT]
def Q3{a:Nat}(h:a+b<9223372036854775808):bj .add .i64 (a:Int) (b:Int)=.ok (.int .i64 (a+b:Nat)):=by
 show R.ok (Value.int .i64 (eP .i64 ((a+b:Nat):Int)))=_;unfold eP;rw[cS h];rfl
end
section
variable {tb:aO}{ih:aH->St->R (Ex×St)}
def DW(n:Nat):eP .u8 (n:Int)=((n % 256:Nat):Int):=by
 rw[qt];simp[IntKind.wrap,IntKind.signed,IntKind.bits]
def LF(n:Nat):eP .u32 (n:Int)=((n % 4294967296:Nat):Int):=by
 rw[qt];simp[IntKind.wrap,IntKind.signed,IntKind.bits]
variable {n:Nat}
def LD(h:n<9223372036854775808):eP .i64 (n:Int)=(n:Int):=by
 unfold eP;rw[cS h];rfl
def Qc(h:n<256):n % 256=n:=rH h
def J7(h:n<4294967296):n % 4294967296=n:=rH h
variable {b:Nat}
def Q5{a:Nat}(ha:a<256)(hb:b<256):bj .and .u8 (a:Int) (b:Int)=.ok (.int .u8 (a&&&b:Nat)):=by
 show(bif dj .u8 (a:Int)&&dj .u8 (b:Int)then R.ok (Value.int .u8 (a&&&b:Nat))else .no 10)=_;rw[uR ha,uR hb];rfl
def Rf{a:Nat}(ha:a<256)(hb:b<256):bj .xor .u8 (a:Int) (b:Int)=.ok (.int .u8 (a^^^b:Nat)):=by
 show(bif dj .u8 (a:Int)&&dj .u8 (b:Int)then R.ok (Value.int .u8 (a^^^b:Nat))else .no 12)=_;rw[uR ha,uR hb];rfl
def Rc{a:Nat}(h:b<=a)(ha:a<4294967296):bj .sub .u32 (a:Int) (b:Int)=.ok (.int .u32 (a-b:Nat)):=by
 show R.ok (Value.int .u32 (eP .u32 ((a:Int)-(b:Int))))=_;rw[show(a:Int)-(b:Int)=((a-b:Nat):Int) by omega,LF,J7 (by omega)]
def F5{a:Nat}(h:b<=a)(ha:a<9223372036854775808):bj .sub .i64 (a:Int) (b:Int)=.ok (.int .i64 (a-b:Nat)):=by
 show R.ok (Value.int .i64 (eP .i64 ((a:Int)-(b:Int))))=_;rw[show(a:Int)-(b:Int)=((a-b:Nat):Int) by omega,LD (by omega)]
def Q6{k:cY}{a:Nat}:bj .eql k (a:Int) (b:Int)=.ok (.bool (decide (a=b))):=by
 show R.ok (Value.bool (aL a b))=_;congr 2;cases h:aL a b with
 |true=>simp[dZ h]
 |false=>simp[Hv h]
def Q_(h:n<4294967296):Bi .xor (.int .u32 n)=.ok (.int .u32 (4294967295-n:Nat)):=by
 show(bif IntKind.signed .u32 then R.no 26 else bif dj .u32 (n:Int)then R.ok (Value.int .u32 (.ofNat (2^IntKind.bits .u32-1-n)))else .no 26)=_;rw[AE h];rfl
variable {k':cY}
def MD{d:Option TypeDesc}{k:cY}{a:Nat}(h:b<k.bits):iu .shr d (.int k (a:Int)) (.int k' (b:Int))=.ok (.int k ((a>>>b:Nat):Int)):=by
 have e:iu .shr d (.int k (a:Int)) (.int k' (b:Int))=R.ok (Value.int k (.ofNat (Nat.shiftRight a (bif aM b k.bits then b else k.bits)))):=by cases k<;>rfl
 rw[e];have:aM b k.bits=aa:=by rw[bT];exact h
 rw[this];rfl
def ME{d:Option TypeDesc}{a:Nat}(h:b<32):iu .shr d (.int .u32 a) (.int k' (b:Int))=.ok (.int .u32 (a>>>b:Nat)):=MD h
def MF{d:Option TypeDesc}{a:Nat}(h:b<8):iu .shr d (.int .u8 a) (.int k' (b:Int))=.ok (.int .u8 (a>>>b:Nat)):=MD h
def Q8{a:Nat}(h:a*b<9223372036854775808):bj .mul .i64 (a:Int) (b:Int)=.ok (.int .i64 (a*b:Nat)):=by
 show R.ok (Value.int .i64 (eP .i64 ((a:Int)*(b:Int))))=_;rw[<-Int.natCast_mul,LD h]
def F6{a:Nat}(h:a<b)(hb:b<9223372036854775808):bj .sub .i64 (a:Int) (b:Int)=.ok (.int .i64 (-((b-a:Nat):Int))):=by
 show R.ok (Value.int .i64 (eP .i64 ((a:Int)-(b:Int))))=_;rw[show(a:Int)-(b:Int)=-((b-a:Nat):Int) by omega,qt,xN (by show(-9223372036854775808:Int)<=_;omega) (by show _<=(9223372036854775807:Int);omega)]
def Q7{k:cY}{a:Nat}(h:0<a):bj .lss k (-(a:Int)) (b:Int)=.ok (.bool aa):=by
 obtain⟨c,rfl⟩:∃c,a=c+1:=⟨a-1,by omega⟩;rfl
def DG{a b:List UInt8}(h:Z a+Z b<4611686018427387904):j8 .add a b=.ok (ag (a++b)):=by
 unfold j8;have:aM (Z a+Z b) 4611686018427387904=aa:=by rw[bT];exact h
 simp only[this,aI]
def Lh{a b:List UInt8}:j8 .neq a b=.ok (.bool (decide (a≠b))):=by
 unfold j8;simp only[pj];congr 2;by_cases h:a=b<;>simp[h]
def TF{a b:List UInt8}:j8 .eql a b=.ok (.bool (decide (a=b))):=by
 unfold j8;simp only[pj];congr 2;by_cases h:a=b<;>simp[h]
variable {d:Nat}
def qQ{k:cY}{most:Nat}(h:n<=most):bound (U (.int k (n:Int))) d most=.ok n:=by
 unfold bound;show(bif au n most then R.ok n else .no 31)=_;rw[mJ h];rfl
def tw{most:Nat}:bound Y d most=.ok d:=rfl
def qhx{tb:aO}{t:aj}{l:List UInt8}{lo hi:Option O}{a:Nat}(ht:tb.aB t=U .string)(h1:bound hi (Z l) (Z l)=.ok b)(h2:bound lo 0 b=.ok a):eD tb t (ag l) lo hi Y=.ok (ag ((l.take b).drop a)):=by
 unfold eD ag;simp only[ht,h1,h2,R.aT]
def Gx{tb:aO}{t:aj}{l:List UInt8}{k:cY}(ht:tb.aB t=U .string)(h:n<=Z l):eD tb t (ag l) Y (U (.int k (n:Int))) Y=.ok (ag (l.take n)):=by
 rw[qhx ht (qQ h) tw];rfl
variable {kd:cY}{i:Nat}
def qX{t:aj}{l:List UInt8}(ht:tb.aB t=U .string)(h:i<Z l):uS tb t (ag l) (.int kd (i:Int))=.ok (.int .u8 ((l.getD i 0).toNat:Nat)):=by
 unfold uS ag;simp only[ht];show(match l[i]? with|some b=>R.ok (Value.int .u8 (.ofNat b.toNat))|none=>.no 53)=_;rw[aV h];simp[List.getD,aV h]
def lK{t:aj}{l:List UInt8}(ht:tb.aB t=U .string):cQ tb .len [t] [ag l]=.ok (.int .i64 (Z l:Nat)):=by
 unfold cQ C9 ag;simp only[ht];rfl
def MP(b:UInt8):b.toNat<256:=b.toNat_lt
def N0(t:T O)(s:ByteArray):ev t (.const (.string s))=.ok (ag s.data.toList):=rfl
def MG{op:BinOp}{d:Option TypeDesc}{a b:List UInt8}:iu op d (ag a) (ag b)=j8 op a b:=rfl
def sub:aH->List Nat->aH
 |.seq a b,i::l=>bif aL i 0 then sub a l else sub b l
 |.cond _ a b,i::l=>bif aL i 0 then sub a l else sub b l
 |.block _ c,_::l=>sub c l
 |.loop c,_::l=>sub c l
 |.scope c,_::l=>sub c l
 |.rangeFunc _ _ a b,i::l=>bif aL i 0 then sub a l else sub b l
 |c,_=>c
def TO(c:aH):sub c []=c:=by cases c<;>rfl
def TT(a b:aH)(l:List Nat):sub (.seq a b) (0::l)=sub a l:=rfl
def TU(a b:aH)(l:List Nat):sub (.seq a b) (1::l)=sub b l:=rfl
def TL(x:bA)(a b:aH)(l:List Nat):sub (.cond x a b) (0::l)=sub a l:=rfl
def TM(x:bA)(a b:aH)(l:List Nat):sub (.cond x a b) (1::l)=sub b l:=rfl
def TK(i:Nat)(c:aH)(l:List Nat):sub (.block i c) (0::l)=sub c l:=rfl
def TN(c:aH)(l:List Nat):sub (.loop c) (0::l)=sub c l:=rfl
def TS(c:aH)(l:List Nat):sub (.scope c) (0::l)=sub c l:=rfl
def TP(f:bA)(ps:Array Tmp)(a b:aH)(l:List Nat):sub (.rangeFunc f ps a b) (0::l)=sub a l:=rfl
def TQ(f:bA)(ps:Array Tmp)(a b:aH)(l:List Nat):sub (.rangeFunc f ps a b) (1::l)=sub b l:=rfl
def Qi(n:Nat):aL n n=aa:=by simp
def qZ{tb:aO}{ts:List aj}{a:Nat}:cQ tb .min ts [.int .i64 a,.int .i64 b]=.ok (.int .i64 (min a b:Nat)):=by
 have e:cQ tb .min ts [.int .i64 a,.int .i64 b]=.ok (.int .i64 (bif aM b a then(b:Int)else(a:Int))):=by
  cases ts<;>rfl
 rw[e];cases h:aM b a with
 |true=>
  have:b<a:=by simpa[bT]using h
  rw[zY (by omega)];rfl
 |false=>
  have:¬b<a:=by intro hx;rw[<-bT,h]at hx;cases hx
  rw[oA (by omega)];rfl
def Wn{a b:Bool}:iu .eql (U .bool) (.bool a) (.bool b)=.ok (.bool (a==b)):=by cases a<;>cases b<;>rfl
def Q'{a:Nat}(h:0<b)(ha:a<9223372036854775808):bj .quo .i64 (a:Int) (b:Int)=.ok (.int .i64 (a/b:Nat)):=by
 obtain⟨c,rfl⟩:∃c,b=c+1:=⟨b-1,by omega⟩;show R.ok (Value.int .i64 (eP .i64 ((a/(c+1):Nat):Int)))=_;rw[LD (pU (Nat.div_le_self ..) ha)]
def Q4{a:Nat}(ha:a<4294967296)(hb:b<4294967296):bj .and .u32 (a:Int) (b:Int)=.ok (.int .u32 (a&&&b:Nat)):=by
 show(bif dj .u32 (a:Int)&&dj .u32 (b:Int)then R.ok (Value.int .u32 (a&&&b:Nat))else .no 10)=_;rw[AE ha,AE hb];rfl
def MC{d:Option TypeDesc}{a:Nat}(h:b<8):iu .shl d (.int .u8 a) (.int k' (b:Int))=.ok (.int .u8 (a<<<b % 256:Nat)):=by
 have e:iu .shl d (.int .u8 a) (.int k' (b:Int))=(bif aM b 8 then R.ok (Value.int .u8 (eP .u8 ((a<<<b:Nat):Int)))else .ok (.int .u8 0)):=rfl;have hb:aM b 8=aa:=by rw[bT];exact h
 rw[e,hb,aI,DW]
variable {fn:Func}{A A':Mem}
def qa {f:FuncId} {c:Code} {h:List Value->Mem->R (Value×Mem)} {args:List Value} {v:Value} (hf:tb.fn.get f=some fn) (hn:(fn.name== "runtime.NumGoroutine")=false) (hb:fn.body=some c)
 (hk:tb.hk.get f=U h) (hv:h args A=.ok (v,A')):cH tb ih (.fn f args) A=.ok (.val v A'):=by
 unfold cH;simp only[hf,hn,hb,hk,hv,ba,R.aT]
end
section
variable {tb:aO}
def W(tb:aO)(c:aH)(s:St)(K:Ex->St->Prop):Prop:=∃e s',(∃f,∀m,exec tb (m+f) c s=.ok (e,s'))/\K e s'
variable {s':St}
def W.run{c:aH}{s:St}{K:Ex->St->Prop}(f:Nat){e:Ex}(h:∀m,exec tb (m+f) c s=.ok (e,s'))(k:K e s'):W tb c s K:=⟨e,s',⟨f,h⟩,k⟩
def W.mono{c:aH}{s:St}{K K':Ex->St->Prop}(h:W tb c s K)(hk:∀e s',K e s'->K' e s'):W tb c s K':=by
 obtain⟨e,s',h1,h2⟩:=h;exact⟨e,s',h1,hk _ _ h2⟩
def L_(tb:aO)(b:aH)(K:Ex->St->Prop)(e:Ex)(s:St):Prop:=
 match e with
 |.nrm=>W tb b s K
 |e=>K e s
def W.seq{a b:aH}{s:St}{K:Ex->St->Prop}(h:W tb a s (L_ tb b K)):W tb (.seq a b) s K:=by
 obtain⟨e,s1,⟨f,h1⟩,h2⟩:=h;cases e with
 |nrm=>
  obtain⟨e2,s2,⟨g,h3⟩,h4⟩:=h2;refine⟨e2,s2,⟨f+g+1,λ m=>?_⟩,h4⟩;have e1:=h1 (m+g);have e2':=h3 (m+f);rw[show m+(f+g+1)=(m+g+f)+1 by omega,CM,e1,R.aT];rw[show m+g+f=m+f+g by omega];exact e2'
 |_=>exact⟨_,s1,⟨f+1,λ m=>by rw[show m+(f+1)=(m+f)+1 by omega,CM,h1];rfl⟩,h2⟩
def LQ(id:Nat)(K:Ex->St->Prop)(e:Ex)(s:St):Prop:=
 match e with
 |.exit i=>if i=id then K .nrm s else K (.exit i) s
 |e=>K e s
def W.block{id:Nat}{c:aH}{s:St}{K:Ex->St->Prop}(h:W tb c s (LQ id K)):W tb (.block id c) s K:=by
 obtain⟨e,s1,⟨f,h1⟩,h2⟩:=h;cases e with
 |exit i=>
  unfold LQ at h2;simp only at h2;by_cases hi:i=id
  .subst hi;rw[aC rfl]at h2;exact⟨.nrm,s1,⟨f+1,λ m=>by rw[show m+(f+1)=(m+f)+1 by omega,CL,h1];simp[R.aT]⟩,h2⟩
  .rw[aq hi]at h2;have hb:aL i id=af:=by
    cases hq:aL i id with
    |false=>rfl
    |true=>exact aZ (dZ hq) hi
   exact⟨.exit i,s1,⟨f+1,λ m=>by rw[show m+(f+1)=(m+f)+1 by omega,CL,h1];simp[R.aT,hb]⟩,h2⟩
 |_=>exact⟨_,s1,⟨f+1,λ m=>by rw[show m+(f+1)=(m+f)+1 by omega,CL,h1];rfl⟩,h2⟩
def W.scope{c:aH}{s:St}{K:Ex->St->Prop}(h:W tb c s K):W tb (.scope c) s K:=by
 obtain⟨e,s1,⟨f,h1⟩,h2⟩:=h;exact⟨e,s1,⟨f+1,λ m=>by rw[show m+(f+1)=(m+f)+1 by omega,Jc,h1]⟩,h2⟩
def W.cond{c:bA}{a b:aH}{s:St}{K:Ex->St->Prop}{p:Bool}(hp:ev s.t c=.ok (.bool p))(ha:p=aa->W tb a s K)(hb:p=af->W tb b s K):W tb (.cond c a b) s K:=by
 cases p with
 |true=>
  obtain⟨e,s1,⟨f,h1⟩,h2⟩:=ha rfl;exact⟨e,s1,⟨f+1,λ m=>by rw[show m+(f+1)=(m+f)+1 by omega,Fe,hp,R.aT];exact h1 m⟩,h2⟩
 |false=>
  obtain⟨e,s1,⟨f,h1⟩,h2⟩:=hb rfl;exact⟨e,s1,⟨f+1,λ m=>by rw[show m+(f+1)=(m+f)+1 by omega,Fe,hp,R.aT];exact h1 m⟩,h2⟩
def W.round{c:aH}{s:St}{K:Ex->St->Prop}(h:W tb c s (L_ tb (.loop c) K)):W tb (.loop c) s K:=by
 obtain⟨e,s1,⟨f,h1⟩,h2⟩:=h;cases e with
 |nrm=>
  obtain⟨e2,s2,⟨g,h3⟩,h4⟩:=h2;refine⟨e2,s2,⟨f+g+1,λ m=>?_⟩,h4⟩;rw[show m+(f+g+1)=(m+g+f)+1 by omega,Ff,h1,R.aT];rw[show m+g+f=m+f+g by omega];exact h3 (m+f)
 |_=>exact⟨_,s1,⟨f+1,λ m=>by rw[show m+(f+1)=(m+f)+1 by omega,Ff,h1];rfl⟩,h2⟩
def W.loop{c:aH}{K:Ex->St->Prop}(P:St->Prop)(μ:St->Nat)(hb:∀s,P s->W tb c s λ e s'=>match e with
 |.nrm=>P s'/\μ s'<μ s
 |e=>K e s'):∀{s:St},P s->W tb (.loop c) s K:=by
 have main:∀n s,μ s=n->P s->W tb (.loop c) s K:=by
  intro n
  induction n using yi with
  |ind n ih=>
   intro s hn hp;obtain⟨e,s1,⟨f,h1⟩,h2⟩:=hb s hp;cases e with
   |nrm=>
    obtain⟨e2,s2,⟨g,h3⟩,h4⟩:=ih _ (by rw[<-hn];exact h2.2) s1 rfl h2.1;refine⟨e2,s2,⟨f+g+1,λ m=>?_⟩,h4⟩;have e1:=h1 (m+g);rw[show m+(f+g+1)=(m+g+f)+1 by omega,Ff,e1,R.aT];rw[show m+g+f=m+f+g by omega];exact h3 (m+f)
   |_=>exact⟨_,s1,⟨f+1,λ m=>by rw[show m+(f+1)=(m+f)+1 by omega,Ff,h1];rfl⟩,h2⟩
 exact λ {s} hp=>main _ s rfl hp
def xR(tb:aO)(f:FuncId)(args:List O)(A:Mem)(v:O)(A':Mem):Prop:=∃n,call tb n f args A=.ok (.val v A')
variable {fn:Func}{A:Mem}
def Na{f:FuncId}{c:aH}{args:List O}{Q:O->Mem->Prop}(hf:tb.fn.get f=U fn)(hb:fn.body=U c)(hn:Z args<=fn.ntmps)
 (h:W tb c ⟨T.bP .e 0 args,fn.ntmps,[],A,Y⟩ λ e s=>(e=.nrm\/e=.ret)/\∃A' vs,gU s.d s.m=.ok A'/\eC tb s.t A'.get fn.results.toList=.ok vs/\Q (oneOf vs) A'):
 ∃v A',xR tb f args A v A'/\Q v A':=by
 obtain⟨e,s1,⟨g,h1⟩,he,A',vs,h2,h3,h4⟩:=h;refine⟨_,A',⟨g,?_⟩,h4⟩;unfold call;simp only[hf,hb];unfold uC;have hb:au (Z args) fn.ntmps=aa:=by rw[pT];exact hn
 rw[hb,aI];have:=h1 0;rw[dO]at this;rw[this,R.aT];rcases he with rfl|rfl<;>simp only[h2,h3,R.aT]
def M9 {f:FuncId} {c:Code} {args:List Value} {Q:Value->Mem->Prop} (hf:tb.fn.get f=some fn) (hb:fn.body=some c) (hn:args.length<=fn.ntmps) (hnm:(fn.name== "runtime.NumGoroutine")=false) (hk:tb.hk.get f=none)
 (h:W tb c ⟨T.bP .e 0 args,fn.ntmps,[],A,Y⟩ λ e s=>(e=.nrm\/e=.ret)/\∃A' vs,gU s.d s.m=.ok A'/\eC tb s.t A'.get fn.results.toList=.ok vs/\Q (oneOf vs) A'):
 ∃v A',(∃g,∀m,cH tb (exec tb (m+g)) (.fn f args) A=.ok (.val v A'))/\Q v A':=by
 obtain⟨e,s1,⟨g,h1⟩,he,A',vs,h2,h3,h4⟩:=h;refine⟨_,A',⟨g,λ m=>?_⟩,h4⟩;unfold cH;simp only[hf,hb,hnm,hk,ba];unfold uC;have hb:au (Z args) fn.ntmps=aa:=by rw[pT];exact hn
 rw[hb,aI,h1,R.aT];rcases he with rfl|rfl<;>simp only[h2,h3,R.aT]
end
section
variable {tb:aO}
theorem oP{α:Type}(t:T α):∀(n i:Nat) (l:List α),Z l=n->(∀j,j<n->t.get (i+j)=l[j]?)->t.iX n i=U l
 |0,i,l,hl,_=>by
  have:=eQ.1 hl;rw[this];rfl
 |n+1,i,[],hl,_=>by simp at hl
 |n+1,i,x::l,hl,h=>by
  rw[T.OU];have h0:=h 0 (by omega);simp only[dN,dX]at h0;have ht:t.iX n (i+1)=U l:=oP t n (i+1) l (by simpa using hl) λ j hj=>by
   have:=h (j+1) (by omega);rw[show i+1+j=i+(j+1) by omega,this];simp
  rw[h0,ht]
def Z0{α:Type}(l:List α):(T.bP .e 0 l).iX (Z l) 0=U l:=
 oP _ _ _ _ rfl λ j hj=>by
  rw[T.oO,dO,aC (by omega)];simp
theorem Cs:∀(l:List UInt8),bytesOf (l.map gd)=.ok l
 | []=>rfl
 |b::l=>by
  show(bytesOf (l.map gd)).bind (λ r=>R.ok (lZ b.toNat::r))=_;rw[Cs l,R.aT];simp
def Bytes(A:Mem)(b:Nat)(e:aj)(k:Kd)(l:List UInt8):Prop:=A.get b=U (.cells e k 0 (T.bP .e 0 (l.map gd)))
variable {A:Mem}{b:Nat}
def I3{e:aj}{k:Kd}{l:List UInt8}(h:Bytes A b e k l):gO A.get 1 (Z l) (U ⟨b,0,Y⟩)=.ok (l.map gd):=by
 unfold gO;simp only[nf];cases hn:aL (Z l) 0 with
 |true=>
  have:=eQ.1 (dZ hn);subst this;rfl
 |false=>
  have h':A.get b=_:=h;have hg:(T.bP .e 0 (l.map gd)).iX (Z l) 0=U (l.map gd):=by
   have:=Z0 (l.map gd);rwa[aR]at this
  simp only[ba,h',hg]
variable {c:Nat}
def qh4{e:aj}{k:Kd}{l:List UInt8}{s d:aj}(h1:tb.aB s=U (.slice e))(h2:tb.aB d=U .string)(h3:tb.aB e=U (.int .u8))(h:Bytes A b e k l):
 gN tb A.get s d (.slice (U ⟨b,0,Y⟩) (Z l) c)=.ok (ag l):=by
 unfold gN;simp only[h1,h2,h3,zt,I3 h,R.aT,Cs]
def MU{l:List UInt8}{s d e:aj}(h1:tb.aB s=U .string)(h2:tb.aB d=U (.slice e))(h3:tb.aB e=U (.int .u8))(hl:Z l<4294967296):
 zq tb s d (ag l)=.ok (.cells e .mark 0 (T.bP .e 0 (l.map gd)),.dy (Z l) (cu (Z l) 1)):=by
 unfold zq ag;have:aM (Z l) 4294967296=aa:=by rw[bT];exact hl
 simp only[h1,h2,h3,this,aI]
def WX{v:Nat}(h:v<256):Value.int .u8 v=gd (lZ v):=by
 unfold gd;have e:(lZ v).toNat=v:=by rw[HK];exact rH h
 rw[e];rfl
def cR(A:Mem)(o:Ob):(A.alloc o).get A.next=U o:=by rw[mo,aC rfl]
def c9{o:Ob}{x:Nat}(h:x≠A.next):(A.alloc o).get x=A.get x:=by rw[mo,aq h]
variable {b2:Nat}
def Vl{st xt e:aj}{i:TypeInfo}{k:Kd}{l:List UInt8}{v:Nat}(hst:tb.aB st=U (.slice e))(hxt:tb.aB xt=U (.slice e))(hz:eR tb e=.ok (1,[.int .u8 0]))(hi:tb.ty.get e=U i)(hib:i.bytes=1)
 (hl:Z l<16777216)(hk:k=.mark\/k=.row)(hb:Bytes A b e k l)(hb2:A.get b2=U (ae e [.int .u8 v]))(hv:v<256):
 dm tb A st xt (.slice (U ⟨b,0,Y⟩) (Z l) (cu (Z l) 1)) (.slice (U ⟨b2,0,Y⟩) 1 2)=
  .ok (.slice (U ⟨A.next,0,Y⟩) (Z l+1) (cu (Z l+1) 1),(A.set b .dead).alloc (.cells e k 0 (T.bP .e 0 ((l++[lZ v]).map gd)))):=by
 have he1:(1:Nat)<65536:=by omega
 have hnew:ib A.get 1 1 (.slice (U ⟨b2,0,Y⟩) 1 2)=.ok [gd (lZ v)]:=by
  have hb3:Bytes A b2 e (.var 1) [lZ v]:=by
   show A.get b2=U (.cells e (.var 1) 0 (T.bP .e 0 [gd (lZ v)]));rw[hb2,WX hv];rfl
  exact I3 hb3
 have hble:au (Z l+1) (bH (cu (Z l) 1))=af:=by
  rw[gB he1];cases hq:au (Z l+1) (Z l)with
  |false=>rfl
  |true=>have:=fQ hq;omega
 have hlim:(au (Z l+1) 16777216&&au i.bytes 65536&&aM 0 i.bytes&&aM 0 1&&aM 1 65536)=aa:=by
  have a1:au (Z l+1) 16777216=aa:=mJ (by omega);rw[a1,hib];rfl
 have hb':A.get b=_:=hb;have hx:dH (cu (Z l) 1)=af:=iK _ _;have he:aL (gM (cu (Z l) 1)) 1=aa:=by rw[lj he1];rfl
 have hfz:(au 0 (0+Z l*1)&&(aL e e&&aM 0 9223372036854775808))=aa:=by
  have h0:aM 0 9223372036854775808=aa:=by rw[bT];omega
  rw[h0];simp
 unfold dm gx;simp only[hst,hxt,jx,ba,hz,R.aT,fu,hnew,hble,hi,hlim,aI,I3 hb,hx,he,Eb,List.all_nil,gd,bI,sY,hb',hfz];rcases hk with rfl|rfl<;>simp[gd]
variable {o i:Nat}
def JH{t elem:aj}{len:Nat}{k:cY}(hu:tb.aB t=U (.array len elem))(hs:aY tb elem=.ok 1)(h:i<len):
 dQ tb t (.pointer (U ⟨b,o,Y⟩)) (.int k (i:Int))=.ok (.pointer (U ⟨b,o+i,Y⟩)):=by
 have hb:aM i len=aa:=by rw[bT];exact h
 have hn:iC (.int k (i:Int))=.ok i:=rfl;unfold dQ;simp only[hn,hu,hb,aI,hs,R.aT,fi,nf]
variable {cap:Nat}
def JI{t elem:aj}{len:Nat}{k:cY}(hu:tb.aB t=U (.slice elem))(hs:aY tb elem=.ok 1)(h:i<len):
 dQ tb t (.slice (U ⟨b,o,Y⟩) len cap) (.int k (i:Int))=.ok (.pointer (U ⟨b,o+i,Y⟩)):=by
 have hb:aM i len=aa:=by rw[bT];exact h
 have hn:iC (.int k (i:Int))=.ok i:=rfl;unfold dQ;simp only[hn,hu,hb,aI,hs,R.aT,fi,nf]
variable {l:List O}
def PY{t e:aj}{d:TypeDesc}{v:O}(hu:tb.aB t=U d)(ha:cW d=af)(hg:A.get b=U (ae e l))(hv:l[o]?=U v):
 ax tb A.get t (.pointer (U ⟨b,o,Y⟩))=.ok v:=by
 have ho:=(bg.1 hv).1;have hc:(T.bP .e 0 l).get o=U v:=by
  rw[T.oO,aC (by omega),iV];exact hv
 unfold ax;simp only[hg,ae,hu,ha,ba,hc]
variable {B:Mem}
def qbH{t:aj}(h:A.get b=B.get b):ax tb A.get t (.pointer (U ⟨b,o,Y⟩))=ax tb B.get t (.pointer (U ⟨b,o,Y⟩)):=by
 unfold ax;simp only[h]
variable {n:Nat}
def jY{t e:aj}{a:Option Addr}(hu:tb.aB t=U (.slice e)):cQ tb .len [t] [.slice a n c]=.ok (.int .i64 (n:Nat)):=by
 unfold cQ C9;simp only[hu];rfl
end
section
variable {tb:aO}
def D8(A:Mem)(b:Nat)(e:aj)(k:Kd)(l:List UInt8):Prop:=∃c,A.get b=U (.cells e k 0 c)/\∀i,i<Z l->c.get i=(l.map gd)[i]?
variable {A:Mem}{b:Nat}
def YX{e:aj}{k:Kd}{l:List UInt8}(h:D8 A b e k l):gO A.get 1 (Z l) (U ⟨b,0,Y⟩)=.ok (l.map gd):=by
 obtain⟨c,h1,h2⟩:=h;unfold gO;simp only[nf];cases hn:aL (Z l) 0 with
 |true=>
  have:=eQ.1 (dZ hn);subst this;rfl
 |false=>
  have hg:c.iX (Z l) 0=U (l.map gd):=oP _ _ _ _ (by simp) λ j hj=>by rw[dO];exact h2 j hj
  simp only[ba,h1,hg]
variable {c:Nat}
def TG{e:aj}{k:Kd}{l:List UInt8}{s d:aj}(h1:tb.aB s=U (.slice e))(h2:tb.aB d=U .string)(h3:tb.aB e=U (.int .u8))(h:D8 A b e k l):
 gN tb A.get s d (.slice (U ⟨b,0,Y⟩) (Z l) c)=.ok (ag l):=by
 unfold gN;simp only[h1,h2,h3,zt,YX h,R.aT,Cs]
end
end Go.Am
end
