/- The abstract machine, the walk of the law and its plain laws, made small by a program; part 2: no conditions but those in each theorem. -/
import Derived.Test.YtjoceidiioppiaaGreatDoorQ01
import Derived.RangeFuncRecord
import Derived.RangeFuncNested
import Derived.RangeFuncIn
import Derived.Orders
import Derived.Lib.Overlaps
import Derived.Lib.Bytealg
import Derived.Eval
import Derived.Below
import Derived.ChangeSame
import Derived.ProofKit
import Derived.OpenShut
set_option maxHeartbeats 16000000
set_option maxRecDepth 100000
set_option linter.unusedSimpArgs false
set_option linter.unusedVariables false
set_option linter.defProp false
noncomputable section
open Array renaming ext'→m6,getD_eq_getD_getElem?→LN,getElem?_append_left→DN,getElem?_eq_getElem→DO,getElem?_eq_some_iff→gm,getElem?_toList→gp,length_toList→xI,replicate→tQ
open Bool renaming and_eq_true→dW,eq_iff_iff→qk,false_eq_true→dR,or_eq_false_iff→Bp,or_eq_true→DP,false→ag,true→ae
open Classical renaming byContradiction→xL
open Go renaming Code→aH,IntKind→cS,Operand→bM,Program→cI,TypeId→au,Value→I,World→aF
open Int renaming ofNat→cK,ofNat_eq_natCast→iu
open List renaming all_cons→DV,all_eq_true→oT,append_nil→jT,filter_cons→iD,getElem?_cons_zero→c7,getElem?_map→dN,getElem?_take→pM,length→Z,length_cons→cD,length_eq_zero_iff→eN,length_filter_le→BC,map_cons→lK,map_nil→sQ,mem_append_left→Hm,mem_append_right→xS,mem_cons→cG,mem_cons_of_mem→cV,mem_cons_self→cJ,mem_filter→qn,mem_flatMap→BD,mem_map→eH,mem_of_getElem?→gJ,nil_append→lL,range→lM,replicate→fQ
open List.cons renaming injEq→gq
open Nat renaming beq→aL,beq_eq→qp,ble→av,blt→aO,blt_eq→bZ,div_le_self→Hp,eq_of_beq_eq_true→eW,le_of_ble_eq_true→gK,le_of_lt→BG,le_refl→aI,le_trans→dm,lt_of_le_of_lt→mz,lt_of_lt_of_le→c9,lt_or_ge→ec,lt_succ_self→ua,lt_trichotomy→zC,mod_lt→jV,ne_of_beq_eq_false→Hs,strongRecOn→xW,zero_add→ep,zero_le→a8
open Option renaming bind_some→vQ,map_some→gX,none→V,some→U
open Option.some renaming inj→iR,injEq→fg
open Prod.mk renaming injEq→bH
open Go.Result renaming andThen_ok→aP
open Go.Sem renaming run_bind→aM,run_pure→a6
open UInt8 renaming ofNat→jY,toNat_inj→td,toNat_ofNat'→HI
namespace Go.Am
section
variable {tb:aN}(ok:dO tb){ih:aH->St->R (Ex×St)}{ι:bj}
def oS(e:Ex)(k k':List Item):Prop:=
 match e with
 |.nrm=>k'=k
 |.exit id=>∃k2,k'=.code (.exit id)::k2/\exitTo id k2=exitTo id k
 |.ret=>∃k2,k'=.code .ret::k2
 |.ef _=>False
def mi(P:cI)(c:aH)(s:St)(e:Ex)(s1:St):Prop:=
 s.m.next<=s1.m.next/\∀(ι:bj) (b:Frame) (a:Act) (k:List Item) (cs:List Frame) (w:aF),SR ι s b a w->eA ι s.m s1.m->
  ∃ι' w' a' k',Steps P (lone (b.atR a (.code c::k)) cs w) (lone (b.atR a' k') cs w')/\oS e k k'/\SR ι' s1 b a' w'/\ni ι s w ι' s1 w'
def sP(P:cI)(c:aH)(s:St)(v:I)(s1:St):Prop:=
 s.m.next<=s1.m.next/\∀(ι:bj) (b:Frame) (a:Act) (k:List Item) (cs:List Frame) (w:aF),SR ι s b a w->eA ι s.m s1.m->
  ∃ι' w' a' k' v',Steps P (lone (b.atR a (.code c::k)) cs w) (lone {b.atR a' k' with mode:=.panicking [{v:=v',recovered:=ag}]} cs w')/\VR ι' v v'/\SR ι' s1 b a' w'/\ni ι s w ι' s1 w'
def zm(P:cI)(ih:aH->St->R (Ex×St)):Prop:=
 ∀(c:aH) (s:St) (e:Ex) (s1:St),ih c s=.ok (e,s1)->(∃v,e=.ef v/\sP P c s v s1)\/mi P c s e s1
def LU(tb:aN)(ih:aH->St->R (Ex×St)):Prop:=
 ∀(ops:Array Oper) (s s1:St),regionF tb ih ops.toList ae s=.ok (.nrm,s1)->∀id,mi tb.P (.region id ops ae) s .nrm s1
def mi.here{P:cI}{c:aH}{s:St}{e:Ex}(h:∀(b:Frame) (a:Act) (k:List Item) (cs:List Frame) (w:aF),∃k',Steps P (lone (b.atR a (.code c::k)) cs w) (lone (b.atR a k') cs w)/\oS e k k'):mi P c s e s:=
 ⟨aI _,λ ι b a k cs w hs _=>let⟨k',st,ha⟩:=h b a k cs w;⟨ι,w,a,k',st,ha,hs,ni.refl _ _ _⟩⟩
variable {s1:St}
def mi.seq{P:cI}{c:aH}{s s2:St}{e:Ex}(h1:mi P c s .nrm s1){d:aH}{e2:Ex}(h2:mi P d s1 e2 s2)
 {c':aH}(hst:∀(b:Frame) (a:Act) (k:List Item) (cs:List Frame) (w:aF),∃k1,Steps P (lone (b.atR a (.code c'::k)) cs w) (lone (b.atR a (.code c::k1)) cs w)/\
  ∀(a:Act) (w:aF),∃k2,Steps P (lone (b.atR a k1) cs w) (lone (b.atR a (.code d::k2)) cs w)/\∀k',oS e2 k2 k'->∀(a:Act) (w:aF),∃k'',Steps P (lone (b.atR a k') cs w) (lone (b.atR a k'') cs w)/\oS e k k''):
 mi P c' s e s2:=by
 obtain⟨hle,h1⟩:=h1;obtain⟨hle2,h2⟩:=h2;refine⟨dm hle hle2,λ ι b a k cs w hs hf=>?_⟩;obtain⟨k1,st0,hk⟩:=hst b a k cs w;obtain⟨ι1,w1,a1,k1',st1,ha1,hs1,hss1⟩:=h1 ι b a k1 cs w hs (hf.left hle2);cases (show k1'=k1 from ha1);obtain⟨k2,st2,hk2⟩:=hk a1 w1;obtain⟨ι2,w2,a2,k2',mc,ha2,hs2,hss2⟩:=h2 ι1 b a1 k2 cs w1 hs1 (hf.right hss1.stp);obtain⟨k3,st4,ha3⟩:=hk2 _ ha2 a2 w2;exact⟨ι2,w2,a2,k3,(((st0.trans st1).trans st2).trans mc).trans st4,ha3,hs2,hss1.trans hss2⟩
variable {v:I}
def mi.ef{P:cI}{c c':aH}{s:St}(h:mi P c s (.ef v) s1):sP P c' s v s1:=
 ⟨h.1,λ ι b a k cs w hs hf=>let⟨_,_,_,_,_,ha,_⟩:=h.2 ι b a k cs w hs hf;ha.elim⟩
def sP.wrap{P:cI}{c c':aH}{s:St}(h1:sP P c s v s1)
 (hst:∀(b:Frame) (a:Act) (k:List Item) (cs:List Frame) (w:aF),(∃ι,SR ι s b a w)->∃k1,Steps P (lone (b.atR a (.code c'::k)) cs w) (lone (b.atR a (.code c::k1)) cs w)):sP P c' s v s1:=by
 obtain⟨hle,h1⟩:=h1;refine⟨hle,λ ι b a k cs w hs hf=>?_⟩;obtain⟨k1,st0⟩:=hst b a k cs w ⟨ι,hs⟩;obtain⟨ι1,w1,a1,k2,v1,st1,h⟩:=h1 ι b a k1 cs w hs hf;exact⟨ι1,w1,a1,k2,v1,st0.trans st1,h⟩
def sP.seq{P:cI}{c:aH}{s s2:St}(h1:mi P c s .nrm s1){d:aH}(h2:sP P d s1 v s2){c':aH}
 (hst:∀(b:Frame) (a:Act) (k:List Item) (cs:List Frame) (w:aF),∃k1,Steps P (lone (b.atR a (.code c'::k)) cs w) (lone (b.atR a (.code c::k1)) cs w)/\
  ∀(a:Act) (w:aF),∃k2,Steps P (lone (b.atR a k1) cs w) (lone (b.atR a (.code d::k2)) cs w)):sP P c' s v s2:=by
 obtain⟨hle,h1⟩:=h1;obtain⟨hle2,h2⟩:=h2;refine⟨dm hle hle2,λ ι b a k cs w hs hf=>?_⟩;obtain⟨k1,st0,hk⟩:=hst b a k cs w;obtain⟨ι1,w1,a1,k1',st1,ha1,hs1,hss1⟩:=h1 ι b a k1 cs w hs (hf.left hle2);cases (show k1'=k1 from ha1);obtain⟨k2,st2⟩:=hk a1 w1;obtain⟨ι2,w2,a2,k2',v2,mc,hv2,hs2,hss2⟩:=h2 ι1 b a1 k2 cs w1 hs1 (hf.right hss1.stp);exact⟨ι2,w2,a2,k2',v2,((st0.trans st1).trans st2).trans mc,hv2,hs2,hss1.trans hss2⟩
def mi.wrap{P:cI}{c c':aH}{s:St}{e e':Ex}(h1:mi P c s e s1)
 (hst:∀(b:Frame) (a:Act) (k:List Item) (cs:List Frame) (w:aF),(∃ι,SR ι s b a w)->∃k1,Steps P (lone (b.atR a (.code c'::k)) cs w) (lone (b.atR a (.code c::k1)) cs w)/\
  ∀k',oS e k1 k'->∀(a:Act) (w:aF),∃k'',Steps P (lone (b.atR a k') cs w) (lone (b.atR a k'') cs w)/\oS e' k k''):
 mi P c' s e' s1:=by
 obtain⟨hle,h1⟩:=h1;refine⟨hle,λ ι b a k cs w hs hf=>?_⟩;obtain⟨k1,st0,hk⟩:=hst b a k cs w ⟨ι,hs⟩;obtain⟨ι1,w1,a1,k1',st1,ha1,hs1,hss1⟩:=h1 ι b a k1 cs w hs hf;obtain⟨k3,st4,ha3⟩:=hk _ ha1 a1 w1;exact⟨ι1,w1,a1,k3,(st0.trans st1).trans st4,ha3,hs1,hss1⟩
def oS.push{e:Ex}{k k':List Item}{i:Item}(hi:∀id,i≠.inBlock id)(h:oS e (i::k) k')(he:e≠.nrm):oS e k k':=by
 cases e with
 |nrm=>exact aU rfl he
 |exit id=>
  obtain⟨k2,h1,h2⟩:=h;refine⟨k2,h1,h2.trans ?_⟩;cases i<;>first|rfl|exact aU rfl (hi _)
 |ret=>exact h
 |ef=>exact h
section steps
variable {P:cI}{b:Frame}{a:Act}{k:List Item}{cs:List Frame}{w:aF}
def Tx{c:aH}:step P (lone (b.atR a (.code (.scope c)::k)) cs w)=.next (lone (b.atR a (.code c::.inScope c::k)) cs w):=
 step_lone_go (by simp[stepG,stepG.exec,Frame.atR])
def qhd{c:aH}:step P (lone (b.atR a (.inScope c::k)) cs w)=.next (lone (b.atR a k) cs w):=
 step_lone_go (by simp[stepG,stepG.exec,Frame.atR])
end steps
def Ty{P:cI}{m m' m1 mf:Machine}(h:Steps P m mf)(hm:step P m=.next m1)(hm':step P m'=.next m1)(hne:mf≠m):Steps P m' mf:=by
 obtain⟨n,hn⟩:=h;cases n with
 |zero=>
  simp only[runN,Stepped.next.injEq]at hn;exact aU hn.symm hne
 |succ n=>
  refine⟨n+1,?_⟩;simp only[runN,hm]at hn;simp only[runN,hm',hn]
def oS.ne{e:Ex}{k k':List Item}{c:aH}(h:oS e k k')(h1:∀id,c≠.exit id)(h2:c≠.ret):k'≠.code c::k:=by
 rintro rfl;cases e with
 |nrm=>
  have:=cX Z (show Item.code c::k=k from h);simp at this
 |exit id=>
  obtain⟨k2,h3,_⟩:=h;simp only[gq,Item.code.injEq]at h3;exact h1 _ h3.1
 |ret=>
  obtain⟨k2,h3⟩:=h;simp only[gq,Item.code.injEq]at h3;exact h2 h3.1
 |ef=>exact h
include ok in
def qhb (hih:zm tb.P ih) (hcall:rj tb ih) (hdraw:LU tb ih)
 (hrange:∀f ps a b s e s1,xc tb ih f ps.toList a b 0 s=.ok (e,s1)->mi tb.P (.rangeFunc f ps a b) s e s1):zm tb.P (Li tb ih):=by
 intro c s e s1 h;unfold Li at h;split at h
 ·
  simp only[ay,bH]at h;obtain⟨rfl,rfl⟩:=h;exact .inr (.here λ b a k cs w=>⟨k,.one stepR_skip,rfl⟩)
 .simp only[ay,bH]at h;obtain⟨rfl,rfl⟩:=h;exact .inr (.here λ b a k cs w=>⟨k,.one stepR_label,rfl⟩)
 ·
  rename_i id ops draw;cases draw with
  |true=>
   cases e with
   |nrm=>exact .inr (hdraw ops s s1 h id)
   |_=>
    exfalso;unfold regionF at h;simp only[aJ]at h;obtain⟨fl,_,h2⟩:=R.aC h;obtain⟨⟨e',s'⟩,_,h3⟩:=R.aC h2;cases e'<;>simp at h3
  |false=>
   rcases Sc ok hcall (ops:=ops) ops.toList 0 (λ j=>by simp) (show ja tb ih ops.toList ops.toList s=.ok (e,s1)from h)with⟨v,s2,h1,hle,h2⟩|⟨s2,h1,hle,h2⟩
   .simp only[bH]at h1;obtain⟨rfl,rfl⟩:=h1;refine .inl ⟨v,rfl,hle,λ ι b a k cs w hs hf=>?_⟩;obtain⟨ι1,w1,a1,k1,v1,st1,h3⟩:=h2 ι b a k cs w hs hf;have st2:Steps tb.P (lone (b.atR a (.inRegion ops (lM ops.size)::k)) cs w) (lone {b.atR a1 k1 with mode:=.panicking [{v:=v1,recovered:=ag}]} cs w1):=by
     rw[List.range_eq_range'];simpa using st1
    exact⟨ι1,w1,a1,k1,v1,Steps.head stepR_region st2,h3⟩
   .simp only[bH]at h1;obtain⟨rfl,rfl⟩:=h1;refine .inr ⟨hle,λ ι b a k cs w hs hf=>?_⟩;obtain⟨ι1,w1,a1,st1,hs1,hss1⟩:=h2 ι b a k cs w hs hf;have st2:Steps tb.P (lone (b.atR a (.inRegion ops (lM ops.size)::k)) cs w) (lone (b.atR a1 (.inRegion ops []::k)) cs w1):=by
     rw[List.range_eq_range'];simpa using st1
    exact⟨ι1,w1,a1,k,(Steps.head stepR_region st2).trans (.one stepR_region_end),rfl,hs1,hss1⟩
 ·
  rename_i x y;obtain⟨⟨e1,s2⟩,h1,h2⟩:=R.aC h;rcases hih _ _ _ _ h1 with⟨v,rfl,hp⟩|h3
  .simp only[ay,bH]at h2;obtain⟨rfl,rfl⟩:=h2;exact .inl ⟨v,rfl,hp.wrap λ b a k cs w _=>⟨_,.one stepR_seq⟩⟩
  .cases e1 with
   |nrm=>
    rcases hih _ _ _ _ h2 with⟨v,rfl,hp⟩|h4
    .exact .inl ⟨v,rfl,sP.seq h3 hp λ b a k cs w=>⟨_,.one stepR_seq,λ a w=>⟨k,.refl _ _⟩⟩⟩
    .exact .inr (h3.seq h4 λ b a k cs w=>⟨_,.one stepR_seq,λ a w=>⟨k,.refl _ _,λ k' hk' a w=>⟨k',.refl _ _,hk'⟩⟩⟩)
   |ef v=>
    simp only[ay,bH]at h2;obtain⟨rfl,rfl⟩:=h2;exact .inl ⟨v,rfl,h3.ef⟩
   |_=>
    simp only[ay,bH]at h2;obtain⟨rfl,rfl⟩:=h2;exact .inr (h3.wrap λ b a k cs w _=>⟨_,.one stepR_seq,λ k' hk' a w=>⟨k',.refl _ _,hk'.push (by simp) (by simp)⟩⟩)
 ·
  rename_i cnd x y;obtain⟨v,h1,h2⟩:=R.aC h;split at h2
  .rcases hih _ _ _ _ h2 with⟨v,rfl,hp⟩|h3
   .refine .inl ⟨v,rfl,hp.wrap λ b a k cs w hs=>⟨k,?_⟩⟩;obtain⟨ι,hs⟩:=hs;exact .one (stepR_cond (t:=ae) ((dh h1 hs.tr).Ch))
   .refine .inr (h3.wrap λ b a k cs w hs=>⟨k,?_,λ k' hk' a w=>⟨k',.refl _ _,hk'⟩⟩);obtain⟨ι,hs⟩:=hs;exact .one (stepR_cond (t:=ae) ((dh h1 hs.tr).Ch))
  .rcases hih _ _ _ _ h2 with⟨v,rfl,hp⟩|h3
   .refine .inl ⟨v,rfl,hp.wrap λ b a k cs w hs=>⟨k,?_⟩⟩;obtain⟨ι,hs⟩:=hs;exact .one (stepR_cond (t:=ag) ((dh h1 hs.tr).Ch))
   .refine .inr (h3.wrap λ b a k cs w hs=>⟨k,?_,λ k' hk' a w=>⟨k',.refl _ _,hk'⟩⟩);obtain⟨ι,hs⟩:=hs;exact .one (stepR_cond (t:=ag) ((dh h1 hs.tr).Ch))
  .cases h2
 ·
  rename_i id x;obtain⟨⟨e1,s2⟩,h1,h2⟩:=R.aC h;rcases hih _ _ _ _ h1 with⟨v,rfl,hp⟩|h3
  .simp only[ay,bH]at h2;obtain⟨rfl,rfl⟩:=h2;exact .inl ⟨v,rfl,hp.wrap λ b a k cs w _=>⟨_,.one stepR_block⟩⟩
  .cases e1 with
   |exit i=>
    simp only at h2;cases hb:aL i id with
    |true=>
     rw[hb]at h2;simp only[aJ,ay,bH]at h2;obtain⟨rfl,rfl⟩:=h2;have hi:i=id:=eW hb;subst hi;refine .inr (h3.wrap λ b a k cs w _=>⟨_,.one stepR_block,?_⟩);rintro k' ⟨k2,rfl,hk2⟩ a w;refine⟨k,.one (stepR_exit ?_),rfl⟩;rw[hk2];simp[exitTo]
    |false=>
     rw[hb]at h2;simp only[bJ,ay,bH]at h2;obtain⟨rfl,rfl⟩:=h2;have hi:i≠id:=λ he=>by rw[he]at hb;simp at hb
     refine .inr (h3.wrap λ b a k cs w _=>⟨_,.one stepR_block,?_⟩);rintro k' ⟨k2,rfl,hk2⟩ a w;refine⟨_,.refl _ _,k2,rfl,?_⟩;rw[hk2];have:(id==i)=ag:=by simpa using λ he=>hi he.symm
     simp[exitTo,this]
   |nrm=>
    simp only[ay,bH]at h2;obtain⟨rfl,rfl⟩:=h2;refine .inr (h3.wrap λ b a k cs w _=>⟨_,.one stepR_block,?_⟩);rintro k' rfl a w;exact⟨k,.one stepR_inBlock,rfl⟩
   |ret=>
    simp only[ay,bH]at h2;obtain⟨rfl,rfl⟩:=h2;exact .inr (h3.wrap λ b a k cs w _=>⟨_,.one stepR_block,λ k' hk' a w=>⟨k',.refl _ _,hk'⟩⟩)
   |ef v=>
    simp only[ay,bH]at h2;obtain⟨rfl,rfl⟩:=h2;exact .inl ⟨v,rfl,h3.ef⟩
 ·
  rename_i x;obtain⟨⟨e1,s2⟩,h1,h2⟩:=R.aC h;rcases hih _ _ _ _ h1 with⟨v,rfl,hp⟩|h3
  .simp only[ay,bH]at h2;obtain⟨rfl,rfl⟩:=h2;exact .inl ⟨v,rfl,hp.wrap λ b a k cs w _=>⟨_,.one stepR_loop⟩⟩
  .cases e1 with
   |nrm=>
    rcases hih _ _ _ _ h2 with⟨v,rfl,hp⟩|h4
    .refine .inl ⟨v,rfl,dm h3.1 hp.1,λ ι b a k cs w hs hf=>?_⟩;obtain⟨ι1,w1,a1,k1,st1,ha1,hs1,hss1⟩:=h3.2 ι b a (.inLoop x::k) cs w hs (hf.left hp.1);cases (show k1=.inLoop x::k from ha1);obtain⟨ι2,w2,a2,k2,v2,st2,hv2,hs2,hss2⟩:=hp.2 ι1 b a1 k cs w1 hs1 (hf.right hss1.stp);have hne:lone {b.atR a2 k2 with mode:=.panicking [{v:=v2,recovered:=ag}]} cs w2≠lone (b.atR a1 (.code (.loop x)::k)) cs w1:=by
      intro he;have:=cX (λ m:Machine=>m.gs) he;simp only[lone]at this;have:=cX (λ g:Array Goroutine=>g.toList.map λ g=>g.frame.mode) this;simp[Frame.atR]at this
     exact⟨ι2,w2,a2,k2,v2,(Steps.head stepR_loop st1).trans (Ty st2 stepR_loop stepR_inLoop hne),hv2,hs2,hss1.trans hss2⟩
    .refine .inr ⟨dm h3.1 h4.1,λ ι b a k cs w hs hf=>?_⟩;obtain⟨ι1,w1,a1,k1,st1,ha1,hs1,hss1⟩:=h3.2 ι b a (.inLoop x::k) cs w hs (hf.left h4.1);cases (show k1=.inLoop x::k from ha1);obtain⟨ι2,w2,a2,k2,st2,ha2,hs2,hss2⟩:=h4.2 ι1 b a1 k cs w1 hs1 (hf.right hss1.stp);have hne:lone (b.atR a2 k2) cs w2≠lone (b.atR a1 (.code (.loop x)::k)) cs w1:=by
      intro he;have h5:k2=.code (.loop x)::k:=by
       have:=cX (λ m:Machine=>m.gs) he;simp only[lone]at this;have:=cX (λ g:Array Goroutine=>g.toList.map λ g=>g.frame.todo) this;simpa[Frame.atR]using this
      exact ha2.ne (by simp) (by simp) h5
     exact⟨ι2,w2,a2,k2,(Steps.head stepR_loop st1).trans (Ty st2 stepR_loop stepR_inLoop hne),ha2,hs2,hss1.trans hss2⟩
   |ef v=>
    simp only[ay,bH]at h2;obtain⟨rfl,rfl⟩:=h2;exact .inl ⟨v,rfl,h3.ef⟩
   |_=>
    simp only[ay,bH]at h2;obtain⟨rfl,rfl⟩:=h2;exact .inr (h3.wrap λ b a k cs w _=>⟨_,.one stepR_loop,λ k' hk' a w=>⟨k',.refl _ _,hk'.push (by simp) (by simp)⟩⟩)
 ·
  rcases hih _ _ _ _ h with⟨v,rfl,hp⟩|h3
  .exact .inl ⟨v,rfl,hp.wrap λ b a k cs w _=>⟨_,.one Tx⟩⟩
  .refine .inr (h3.wrap λ b a k cs w _=>⟨_,.one Tx,λ k' hk' a w=>?_⟩);cases e with
   |nrm=>
    cases (show k'=_ from hk');exact⟨k,.one qhd,rfl⟩
   |_=>exact⟨k',.refl _ _,hk'.push (by simp) (by simp)⟩
 .simp only[ay,bH]at h;obtain⟨rfl,rfl⟩:=h;exact .inr (.here λ b a k cs w=>⟨_,.refl _ _,k,rfl,rfl⟩)
 .simp only[ay,bH]at h;obtain⟨rfl,rfl⟩:=h;exact .inr (.here λ b a k cs w=>⟨_,.refl _ _,k,rfl⟩)
 .exact .inr (hrange _ _ _ _ _ _ _ h)
 .cases h
 .cases h
end
section
variable {tb:aN}(ok:dO tb){ih:aH->St->R (Ex×St)}{ι:bj}
variable {fn:Func}
def Frame.NO{P:cI}{f:FuncId}{c:aH}(hf:P.funcs[f]?=U fn)(hb:fn.body=U c)(args:Array I):
 Frame.enter P f args .normal=(Frame.enter P f args .normal).atR ⟨args++tQ (fn.ntmps-args.size) undef,[]⟩ [.code c]:=by
 simp[Frame.enter,Frame.atR,hf,hb]
variable {n:Nat}
def TR.args{args:List I}{args':Array I}(h:bI ι args args'.toList)(hn:Z args<=n):
 TR ι n (T.bW .e 0 args) (args'++tQ (n-args'.size) undef):=by
 have hl:args'.size=Z args:=by have:=h.length;simpa using this
 refine⟨by simp;omega,λ i v hv=>?_⟩;rw[T.oK]at hv;by_cases hi:0<=i/\i<0+Z args
 .rw[aA hi]at hv;obtain⟨v',e,r⟩:=h.get (i-0) v hv;refine⟨v',?_,r⟩;have hi':i<args'.size:=by omega
  rw[DN hi'];simpa using e
 .rw[ax hi]at hv;cases hv
def LW(P:cI)(f:FuncId)(args':Array I)(w:aF)(cs:List Frame)(v':I)(w':aF):Prop:=
 ∃fr,Steps P (lone (Frame.enter P f args' .normal) cs w) (lone fr cs w')/\fr.fn=f/\fr.leaving P w' (.returned v')
def UU(P:cI)(f:FuncId)(args':Array I)(w:aF)(cs:List Frame)(v':I)(w':aF):Prop:=
 ∃fr,Steps P (lone (Frame.enter P f args' .normal) cs w) (lone fr cs w')/\fr.fn=f/\fr.leaving P w' (.panicked [{v:=v',recovered:=ag}])
theorem DA:∀{l:List Nat} {A A':Mem},ir l A=.ok A'->A'.next=A.next
 | [],A,A',h=>by simp only[ir,ay]at h;rw[h]
 |x::l,A,A',h=>by
  unfold ir at h;split at h
  .rw[DA h,cU]
  .cases h
include ok in
def Jz (hih:zm tb.P ih) {f:FuncId} {fn:Func} {c:aH} {args:List I} {A:Mem} (hf:tb.fn.get f=U fn) (hb:fn.body=U c) {r:nh} (h:pT tb ih fn c args A=.ok r):
 (∃v A',r=.ef v A'/\A.next<=A'.next/\∀(ι:bj) (w:aF) (args':Array I) (cs:List Frame),Rel ι A w->bI ι args args'.toList->eA ι A A'->
  ∃ι' w' v',UU tb.P f args' w cs v' w'/\VR ι' v v'/\Rel ι' A' w'/\bY ι A w ι' A' w')\/
 ∃v A',r=.val v A'/\A.next<=A'.next/\∀(ι:bj) (w:aF) (args':Array I) (cs:List Frame),Rel ι A w->bI ι args args'.toList->eA ι A A'->
  ∃ι' w' v',LW tb.P f args' w cs v' w'/\VR ι' v v'/\Rel ι' A' w'/\bY ι A w ι' A' w':=by
 have hf':=ok.fn _ _ hf;unfold pT at h;cases hnb:av (Z args) fn.ntmps with
 |false=>rw[hnb]at h;cases h
 |true=>
 rw[hnb,aJ]at h;have hn:=gK hnb;obtain⟨⟨e,s1⟩,h1,h2⟩:=R.aC h;have main:(e=.nrm\/e=.ret)->((ir s1.d s1.m).bind λ A'=>(eF tb s1.t A'.get fn.results.toList).bind λ vs=>R.ok (nh.val (oneOf vs) A'))=.ok r->
  ∃v A',r=.val v A'/\A.next<=A'.next/\∀(ι:bj) (w:aF) (args':Array I) (cs:List Frame),Rel ι A w->bI ι args args'.toList->eA ι A A'->
  ∃ι' w' v',LW tb.P f args' w cs v' w'/\VR ι' v v'/\Rel ι' A' w'/\bY ι A w ι' A' w':=by
  intro he h3;obtain⟨A',h4,h5⟩:=R.aC h3;obtain⟨vs,h6,h7⟩:=R.aC h5;simp only[ay]at h7;have hnx:=DA h4;rcases hih _ _ _ _ h1 with⟨v,rfl,_⟩|⟨hle,hc⟩
  .rcases he with he|he<;>cases he
  .refine⟨_,_,h7.symm,by rw[hnx];exact hle,λ ι w args' cs hr ha hfree=>?_⟩;have hfree':eA ι A s1.m:=λ b h1 h2=>hfree b h1 (by rw[hnx];exact h2)
   have hs0:SR ι {t:=T.bW .e 0 args,n:=fn.ntmps,d:=[],m:=A,ro:=V} (Frame.enter tb.P f args' .normal) ⟨args'++tQ (fn.ntmps-args'.size) undef,[]⟩ w:=
    ⟨hr,TR.args ha hn,rfl,rfl⟩
   obtain⟨ι1,w1,a1,k1,st1,ha1,hs1,hss1⟩:=hc ι _ _ [] cs w hs0 hfree';rw[<-Frame.NO hf' hb]at st1;obtain⟨todo,st2⟩:∃todo,Steps tb.P (lone ((Frame.enter tb.P f args' .normal).atR a1 k1) cs w1) (lone {(Frame.enter tb.P f args' .normal).atR ⟨a1.tmps,a1.defers⟩ todo with mode:=.returning} cs w1):=by
    rcases he with rfl|rfl
    .cases (show k1=[]from ha1);exact⟨[],.one (stepR_end rfl)⟩
    .obtain⟨k2,rfl⟩:=ha1;exact⟨_,.one (stepR_ret rfl)⟩
   obtain⟨w2,mc,hrel2,hst2⟩:=GH tb.P (b:=Frame.enter tb.P f args' .normal) (t:=a1.tmps) (todo:=todo) (cs:=cs) h4 hs1.dr hs1.rel;obtain⟨v',e1,hv⟩:=KL ok hrel2 hs1.tr h6;exact⟨ι1,w2,v',⟨_,(st1.trans st2).trans mc,rfl,rfl,rfl,rfl,fn,hf',e1⟩,hv,hrel2,hss1.stp.trans hst2⟩
 cases e with
 |ef v=>
  simp only at h2;split at h2
  .rename_i hd;simp only[ay]at h2;refine .inl ⟨v,_,h2.symm,?_⟩;have hp:sP tb.P c {t:=T.bW .e 0 args,n:=fn.ntmps,d:=[],m:=A,ro:=V} v s1:=by
    rcases hih _ _ _ _ h1 with⟨v2,he,hp⟩|hp
    .cases he;exact hp
    .exact hp.ef
   refine⟨hp.1,λ ι w args' cs hr ha hfree=>?_⟩;have hs0:SR ι {t:=T.bW .e 0 args,n:=fn.ntmps,d:=[],m:=A,ro:=V} (Frame.enter tb.P f args' .normal) ⟨args'++tQ (fn.ntmps-args'.size) undef,[]⟩ w:=
    ⟨hr,TR.args ha hn,rfl,rfl⟩
   obtain⟨ι1,w1,a1,k1,v1,st1,hv1,hs1,hss1⟩:=hp.2 ι _ _ [] cs w hs0 hfree;rw[<-Frame.NO hf' hb]at st1;have hdd:a1.defers=[]:=by
    have:=hs1.dr;rw[hd]at this;exact this
   exact⟨ι1,w1,v1,⟨_,st1,rfl,rfl,hdd,fn,hf'⟩,hv1,hs1.rel,hss1.stp⟩
  .cases h2
 |exit id=>cases h2
 |nrm=>exact .inr (main (.inl rfl) h2)
 |ret=>exact .inr (main (.inr rfl) h2)
end
section
variable {tb:aN}{ih:aH->St->R (Ex×St)}{ι:bj}
variable {r:Nat}{o':Obj}
def qcF{w:aF}{o:Obj}(h:w.heap[r]?=U o):Wu w (w.putObj r o') r o':=by
 have hlt:r<w.heap.size:=(gm.1 h).1;exact⟨by simp,World.putObj_heap_same hlt,λ k _ hne=>World.putObj_heap_other hne,rfl,rfl,rfl⟩
variable {n:Nat}
theorem S6:∀{ps:List Tmp} {vs vs':List I} {t t1:T I} {a:Array I},setArgs n ps vs t=.ok t1->bI ι vs vs'->TR ι n t a->
 Z vs'=Z ps/\TR ι n t1 ((ps.zip vs').foldl (λ tmps (t,a)=>tmps.setIfInBounds t a) a)
 | [],[],_,t,t1,a,h,.nil,ht=>by
  simp only[setArgs,ay]at h;subst h;exact⟨rfl,ht⟩
 |p::ps,v::vs,_,t,t1,a,h,.cons hv hvs,ht=>by
  unfold setArgs at h;cases hb:aO p n with
  |false=>rw[hb]at h;cases h
  |true=>
   rw[hb]at h;simp only[aJ]at h;obtain⟨h1,h2⟩:=S6 h hvs (ht.set (jE hb) hv);exact⟨by simp[h1],h2⟩
 | [],_::_,_,_,_,_,h,_,_=>by cases h
 |_::_,[],_,_,_,_,h,_,_=>by cases h
variable {A:Mem}
def Rel.loop{w:aF}(hr:Rel ι A w){l:Nat}{ld:Loc}{r:jd}(hg:A.get l=U (.loop r))(hl:ι l=U ld):
 ∃r',w.heap[ld.blk]?=U (.loop r')/\LR ι r r'/\ld.sh=0:=by
 obtain⟨o',hw,h0,r',rfl,h⟩:=hr.obs _ _ _ hg rfl hl;exact⟨r',hw,h,h0⟩
def Rel.J7{w:aF}(hr:Rel ι A w){l:Nat}{ld:Loc}{r q:jd}(hg:A.get l=U (.loop r))(hl:ι l=U ld){r' q':Loop}
 (hw:w.heap[ld.blk]?=U (.loop r'))(h0:ld.sh=0)(hq:LR ι q q'):Rel ι (A.set l (.loop q)) (w.putObj ld.blk (.loop q'))/\bY ι A w ι (A.set l (.loop q)) (w.putObj ld.blk (.loop q')):=
 hr.sk hg rfl hl (qT hg λ _ _ _ h=>by cases h) (λ _ _ _ h=>by cases h) (qcF hw) (by simp) ⟨h0,q',rfl,hq⟩
def qdb(hih:zm tb.P ih){l:Nat}{args:List I}{r:nh}(h:uV ih l args A=.ok r):
 ∃v A',r=.val v A'/\A.next<=A'.next/\∀(ι:bj) (w:aF) (s:Sem Next) (fr:Frame) (cs:List Frame),Rel ι A w->xK tb.P ι w (.round l args) s->eA ι A A'->
  ∃ι' w' v',zn tb.P s w v' w' fr cs/\VR ι' v v'/\Rel ι' A' w'/\bY ι A w ι' A' w':=by
 unfold uV at h;split at h
 rotate_left
 .cases h
 rename_i ro hg;obtain⟨t,h1,h2⟩:=R.aC h;obtain⟨⟨e1,s1⟩,h3,h4⟩:=R.aC h2;dsimp only at h4;split at h4
 rotate_left
 .cases h4
 rename_i r1 hg1;split at h4
 rotate_left
 .cases h4
 rename_i hready;obtain⟨⟨e2,s2⟩,h5,h6⟩:=R.aC h4;rcases hih _ _ _ _ h3 with⟨v,hv,_⟩|⟨hle1,hc1⟩
 .cases hv
 have main:∀(jump:Option aH) (r2:jd),s2.m.get l=U (.loop r2)->
  (∀(b:Frame) (a:Act) (k:List Item) (fr:Frame) (cs:List Frame) (w w':aF) (ld:Loc) (v:I),b.roundOf=U ld.blk->b.kind=.normal->oS e2 [] k->(Instr.endRound ld.blk jump).run tb.P w=.ok v w'->
   Steps tb.P (lone (b.atR a k) (fr::cs) w) (lone (fr.finish v) cs w'))->
  (∀v,e2≠.ef v)->
  r=.val (.bool jump.isNone) (s2.m.set l (.loop {r2 with state:=if jump.isNone then .ready else .done,pending:=jump}))->
  ∃v A',r=.val v A'/\A.next<=A'.next/\∀(ι:bj) (w:aF) (s:Sem Next) (fr:Frame) (cs:List Frame),Rel ι A w->xK tb.P ι w (.round l args) s->eA ι A A'->
  ∃ι' w' v',zn tb.P s w v' w' fr cs/\VR ι' v v'/\Rel ι' A' w'/\bY ι A w ι' A' w':=by
  intro jump r2 hg2 hend hnp hres;rcases hih _ _ _ _ h5 with⟨v,hv,_⟩|⟨hle2,hc2⟩
  .exact aU hv (hnp v)
  rw[cU]at hle2;refine⟨_,_,hres,by rw[cU];exact dm hle1 hle2,λ ι w s fr cs hr hcl hf=>?_⟩;obtain⟨ld,args',hl,hrun,hargs⟩:=hcl;obtain⟨rq,hw,hlr,h0⟩:=hr.loop hg hl;obtain⟨hlen,ht⟩:=S6 h1 hargs hlr.tmps;have hpl:rq.params.toList=ro.params:=hlr.params;have hsz:args'.size=rq.params.size:=by
   have:=cX Z hpl;simp only[xI]at this hlen;omega
  have htm:(rq.params.zip args').foldl (λ tmps (t,a)=>tmps.setIfInBounds t a) rq.tmps=(ro.params.zip args'.toList).foldl (λ tmps (t,a)=>tmps.setIfInBounds t a) rq.tmps:=by
   rw[<-Array.foldl_toList,Array.toList_zip,hpl]
  let b:Frame:=Frame.round ld.blk rq.fn ((rq.params.zip args').foldl (λ tmps (t,a)=>tmps.setIfInBounds t a) rq.tmps) rq.assign rq.body .normal;let t0:=(ro.params.zip args'.toList).foldl (λ tmps (t,a)=>tmps.setIfInBounds t a) rq.tmps;have hb:b=b.atR ⟨t0,[]⟩ [.code ro.assign,.beginRound,.code ro.body]:=by
   show Frame.round _ _ _ _ _ _=_;simp only[Frame.round,Frame.atR,b,t0,htm,hlr.assign,hlr.body]
  have hf1:eA ι A s1.m:=λ x hx1 hx2=>hf x hx1 (by rw[cU];omega)
  obtain⟨ι1,w1,a1,k1,st1,ha1,hs1,hss1⟩:=hc1 ι b ⟨t0,[]⟩ [.beginRound,.code ro.body] (fr::cs) w ⟨hr,ht,⟨ld,hl,rfl⟩,rfl⟩ hf1;cases (show k1=_ from ha1);have hi1:=hss1.stp.le hf1;obtain⟨rq1,hw1,hlr1,_⟩:=hs1.rel.loop hg1 (hi1 _ _ hl);have st2:=stepR_beginRound (P:=tb.P) (b:=b) (a:=a1) (k:=[.code ro.body]) (cs:=fr::cs) (l:=ld.blk) rfl (run_beginRound hw1 (by rw[hlr1.state,hready]));have hlr1':LR ι1 {r1 with state:=.busy} {rq1 with state:=.busy}:=⟨rfl,hlr1.pending,hlr1.tmps,hlr1.params,hlr1.assign,hlr1.body,hlr1.defers⟩;obtain⟨hrel1,hst1⟩:=hs1.rel.J7 hg1 (hi1 _ _ hl) hw1 h0 hlr1';have hf2:eA ι1 (s1.m.set l (.loop {r1 with state:=.busy})) s2.m:=by
   intro x hx1 hx2;rw[cU]at hx1;rw[hss1.stp.out x (.inr hx1)];have hle1':A.next<=s1.m.next:=hle1
   exact hf x (by omega) (by rw[cU];exact hx2)
  obtain⟨ι2,w2,a2,k2,mc,ha2,hs2,hss2⟩:=hc2 ι1 b a1 [] (fr::cs) _ ⟨hrel1,hs1.tr,hs1.ro,hs1.dr⟩ hf2;have hi2:=hss2.stp.le hf2;obtain⟨rq2,hw2,hlr2,_⟩:=hs2.rel.loop hg2 (hi2 _ _ (hi1 _ _ hl));have st4:=hend b a2 k2 fr cs w2 _ ld _ rfl rfl ha2 (run_endRound (P:=tb.P) jump hw2);obtain⟨hrel2,hst2⟩:=hs2.rel.J7 (q:={r2 with state:=if jump.isNone then .ready else .done,pending:=jump}) (q':={rq2 with state:=if jump.isNone then .ready else .done,pending:=jump}) hg2 (hi2 _ _ (hi1 _ _ hl)) hw2 h0
   ⟨rfl,rfl,hlr2.tmps,hlr2.params,hlr2.assign,hlr2.body,hlr2.defers⟩
  rw[<-hb]at st1;refine⟨ι2,_,.bool jump.isNone,.inr (.inr ⟨ld.blk,rq.fn,_,rq.assign,rq.body,hrun.trans (run_yield hw hsz),?_⟩),.bool _,hrel2,((hss1.stp.trans hst1).trans hss2.stp).trans hst2⟩;exact((st1.trans (.one st2)).trans mc).trans st4
 dsimp only at h6;split at h6
 .rename_i r2 hd hg2;simp only[ay]at h6;exact(main V r2 hg2 (λ b a k fr cs w w' ld v hb hk ha hr=>by cases (show k=[]from ha);exact .one (stepR_round_end hb hk hr)) (by simp) h6.symm)
 .rename_i id r2 hd hg2;simp only[ay]at h6;exact(main (U (.exit id)) r2 hg2 (λ b a k fr cs w w' ld v hb hk ha hr=>by
   obtain⟨k2,rfl,hx⟩:=ha;exact .one (stepR_round_exit hb hk hx hr)) (by simp) h6.symm)
 .rename_i r2 hd hg2;simp only[ay]at h6;exact(main (U .ret) r2 hg2 (λ b a k fr cs w w' ld v hb hk ha hr=>by
   obtain⟨k2,rfl⟩:=ha;exact .one (stepR_round_ret hb hk hr)) (by simp) h6.symm)
 .cases h6
end
section
variable {tb:aN}(ok:dO tb){ih:aH->St->R (Ex×St)}{ι:bj}
def HO(w:aF)(o:Obj):Wu w (w.alloc o) w.heap.size o/\(w.alloc o).heap.size=w.heap.size+1:=
 ⟨⟨by simp[World.size_alloc],World.alloc_heap_new w o,λ k hk _=>by
  show(w.heap.push o)[k]?=w.heap[k]?;rw[Array.getElem?_push_lt hk];exact(DO hk).symm,rfl,rfl,rfl⟩,World.size_alloc ..⟩
section steps
variable {P:cI}{b:Frame}{a:Act}{k:List Item}{cs:List Frame}{w:aF}
variable {w':aF}{v':I}
def qcL{g:bM}{ps:Array Tmp}{assign body:aH}{l:Nat}{mark:List Deferred}{w₁:aF}
 (he:(Instr.enterLoop b.fn a.tmps ps assign body b.roundOf).run P w=.ok (l,mark) w₁)
 (h:zn P (do let d<-Deferred.ofValue (a.eval g) #[.func (.yield l) #[] #[]];invoke d.target d.args) w₁ v' w' (b.atR {a with defers:=mark++a.defers} (.inRangeFunc l::k)) cs):
 Steps P (lone (b.atR a (.code (.rangeFunc g ps assign body)::k)) cs w) (lone (b.atR {a with defers:=mark++a.defers} (.endRangeFunc l::k)) cs w'):=by
 have hev:=Frame.eval_atR b {a with defers:=mark++a.defers} (.inRangeFunc l::k);simp only[Frame.atR]at hev;have hres:∀u,Sem.run P (resolve ({tmps:=a.tmps,defers:=mark++a.defers}:Act).eval {callee:=.value g,args:= #[.const (.func (.yield l) #[] #[])],argTypes:= #[]} 0) u=
  Sem.run P (Deferred.ofValue (a.eval g) #[.func (.yield l) #[] #[]]) u:=by
  intro u;have e1:({tmps:=a.tmps,defers:=mark++a.defers}:Act).eval g=a.eval g:=by cases g<;>rfl
  have e2:(#[Operand.const (.func (.yield l) #[] #[])].map ({tmps:=a.tmps,defers:=mark++a.defers}:Act).eval)= #[.func (.yield l) #[] #[]]:=by simp[Act.eval]
  simp only[resolve,e1,e2]
 rcases h with h1|⟨f,args,h1,h2⟩|⟨l',f,t,qi8,bd,h1,h2⟩
 .rw[aM]at h1;rw[<-finish_atR_inRangeFunc l v'];refine .one (step_lone_go ?_);simp[stepG,stepG.exec,Frame.atR,Sem.runT_eq,he,GStep.bare_after,stepG.apply,hev,aM,hres,h1]
 .rw[aM]at h1;rw[<-finish_atR_inRangeFunc l v'];refine .head (step_lone_go ?_) h2;simp[stepG,stepG.exec,Frame.atR,Sem.runT_eq,he,GStep.bare_after,stepG.apply,hev,aM,hres,h1]
 .rw[aM]at h1;rw[<-finish_atR_inRangeFunc l v'];refine .head (step_lone_go ?_) h2;simp[stepG,stepG.exec,Frame.atR,Sem.runT_eq,he,GStep.bare_after,stepG.apply,hev,aM,hres,h1]
end steps
include ok in
theorem qbg (hcall:rj tb ih) (f:bM) (ps:Array Tmp) (assign body:aH) (s:St) (e:Ex) (s1:St) (h:xc tb ih f ps.toList assign body 0 s=.ok (e,s1)):
 mi tb.P (.rangeFunc f ps assign body) s e s1:=by
 unfold xc at h;obtain⟨fv,h1,h2⟩:=R.aC h;obtain⟨⟨dfb,A,mark⟩,h3,h4⟩:=R.aC h2;obtain⟨cl,h5,h6⟩:=R.aC h4;obtain⟨res,h7,h8⟩:=R.aC h6;dsimp only at h5 h7 h8;have hlay:s.m.next<=A.next/\∀(ι:bj) (b:Frame) (a:Act) (w:aF),SR ι s b a w->eA ι s.m A->ι A.next=V->
  ∃ι' w' l markd,(Instr.enterLoop b.fn a.tmps ps assign body b.roundOf).run tb.P w=.ok (l,markd) w'/\ι' A.next=U ⟨l,0,0⟩/\
   Rel ι' (A.alloc (.loop {state:=.ready,pending:=V,fn:=0,tmps:=s.t,n:=s.n,params:=ps.toList,assign,body,defers:=dfb})) w'/\
   bY ι s.m w ι' (A.alloc (.loop {state:=.ready,pending:=V,fn:=0,tmps:=s.t,n:=s.n,params:=ps.toList,assign,body,defers:=dfb})) w'/\
   DR ι' (mark++s.d) (markd++a.defers) b.defers/\gW ι ι':=by
  split at h3
  .rename_i l0 hro;split at h3
   .rename_i r0 hg;simp only[ay,bH]at h3;obtain⟨rfl,rfl,rfl⟩:=h3;refine⟨aI _,λ ι b a w hs hf hn=>?_⟩;have hrr:=hs.ro;rw[hro]at hrr;obtain⟨ld,hl,hb⟩:=hrr;obtain⟨rq,hw,hlr,_⟩:=hs.rel.loop hg hl;obtain⟨ldd,hdl,hde⟩:=hlr.defers;obtain⟨hwu,hsz⟩:=HO w (.loop {state:=.ready,pending:=V,fn:=b.fn,tmps:=a.tmps,params:=ps,assign,body,defers:=rq.defers});obtain⟨ι',h9,h10,h11⟩:=hs.rel.uE (ob:=.loop {state:=.ready,pending:=V,fn:=0,tmps:=s.t,n:=s.n,params:=ps.toList,assign,body,defers:=r0.defers}) (sz:=0) hn (λ _ _ _ h=>by cases h) hwu hsz
     (λ ι' hi _=>⟨rfl,_,rfl,rfl,rfl,hs.tr.mono hi,rfl,rfl,rfl,ldd,hi _ _ hdl,hde⟩)
    have hle:=h11.le (λ x hx1 hx2=>by rw[aG]at hx2;rw[show x=s.m.next by omega];exact hn);refine⟨ι',_,_,[],?_,h9,h10,h11,hs.dr.mono hle,hle⟩;rw[hb];exact run_enterLoop_inner hw _ _ _ _ _
   .cases h3
  .rename_i hro;simp only[ay,bH]at h3;obtain⟨rfl,rfl,rfl⟩:=h3;refine⟨by rw[aG];omega,λ ι b a w hs hf hn=>?_⟩;have hb:b.roundOf=V:=by have:=hs.ro;rw[hro]at this;exact this
   rw[aG]at hn;have hn0:ι s.m.next=V:=hf _ (aI _) (by rw[aG];omega)
   obtain⟨hwu,hsz⟩:=HO w (.deferred (U []));obtain⟨ι1,h9,h10,h11⟩:=hs.rel.uE (ob:=.defd) (sz:=0) hn0 (λ _ _ _ h=>by cases h) hwu hsz (λ _ _ _=>rfl);have hle1:=h11.le hf;have hn1:ι1 (s.m.alloc .defd).next=V:=by
    rw[h11.out _ (.inr (aI _)),aG];exact hn
   obtain⟨hwu2,hsz2⟩:=HO (w.alloc (.deferred (U []))) (.loop {state:=.ready,pending:=V,fn:=b.fn,tmps:=a.tmps,params:=ps,assign,body,defers:=w.heap.size});obtain⟨ι2,h12,h13,h14⟩:=h10.uE (ob:=.loop {state:=.ready,pending:=V,fn:=0,tmps:=s.t,n:=s.n,params:=ps.toList,assign,body,defers:=s.m.next}) (sz:=0) hn1 (λ _ _ _ h=>by cases h) hwu2 hsz2
    (λ ι' hi _=>⟨rfl,_,rfl,rfl,rfl,(hs.tr.mono hle1).mono hi,rfl,rfl,rfl,_,hi _ _ h9,rfl⟩)
   have hle2:=h14.le (λ x hx1 hx2=>by rw[aG]at hx2;rw[show x=(s.m.alloc .defd).next by omega];exact hn1);have he:=run_enterLoop_outer (P:=tb.P) (w:=w) b.fn a.tmps ps assign body;rw[World.size_alloc]at h12;refine⟨ι2,_,_,[{target:=.collected w.heap.size,args:= #[]}],?_,h12,h13,h11.trans h14,⟨⟨_,hle2 _ _ h9,rfl⟩,(hs.dr.mono hle1).mono hle2⟩,hle1.trans hle2⟩
   rw[hb];exact he
 obtain⟨hle0,hlay⟩:=hlay;split at h8
 .cases h8
 rename_i v0 A2;rcases hcall cl _ _ h7 with⟨_,_,hq,_⟩|⟨v2,A2',hq,hle2,hsnd⟩
 .cases hq
 cases hq;rw[aG]at hle2;split at h8
 rotate_left
 .cases h8
 rename_i r2 hg2;have main:∀(e0:Ex),r2.state≠.busy->e=e0->s1={s with m:=A2.set A.next (.loop {r2 with state:=.exhausted}),d:=mark++s.d}->(∀k,oS e0 k ((r2.pending.map Item.code).toList++k))->
  mi tb.P (.rangeFunc f ps assign body) s e s1:=by
  rintro e0 hnb rfl rfl harr;refine⟨by show s.m.next<=A2.next;omega,λ ι b a k cs w hs hf=>?_⟩;have hf:∀x,s.m.next<=x->x<A2.next->ι x=V:=hf
  obtain⟨ι1,w1,l,markd,he,hl,hrel1,hst1,hdr1,hi1⟩:=hlay ι b a w hs (λ x hx1 hx2=>hf x hx1 (by omega)) (hf _ hle0 (by omega));have hev:VR ι1 fv (a.eval f):=(dh h1 hs.tr).mono hi1;have hcl:=Ng ok hrel1 h5 hev (args':= #[.func (.yield l) #[] #[]]) (.cons (.yield hl) .nil)
  obtain⟨ι2,w2,v',hdone,_,hrel2,hst2⟩:=hsnd ι1 w1 _ (b.atR {a with defers:=markd++a.defers} (.inRangeFunc l::k)) cs hrel1 hcl (λ x hx1 hx2=>by
   rw[aG]at hx1;rw[hst1.out x (.inr (by rw[aG];exact hx1))];exact hf x (by omega) hx2)
  have hi2:gW ι1 ι2:=hst2.le (λ x hx1 hx2=>by
   rw[aG]at hx1;rw[hst1.out x (.inr (by rw[aG];exact hx1))];exact hf x (by omega) hx2)
  obtain⟨rq2,hw2,hlr2,h02⟩:=hrel2.loop hg2 (hi2 _ _ hl);obtain⟨hrel3,hst3⟩:=hrel2.J7 (q:={r2 with state:=.exhausted}) (q':={rq2 with state:=.exhausted}) hg2 (hi2 _ _ hl) hw2 h02
   ⟨rfl,hlr2.pending,hlr2.tmps,hlr2.params,hlr2.assign,hlr2.body,hlr2.defers⟩
  have st1:=qcL (P:=tb.P) (b:=b) (a:=a) (k:=k) (cs:=cs) he hdone;have st2:=stepR_endRangeFunc (P:=tb.P) (b:=b) (a:={a with defers:=markd++a.defers}) (k:=k) (cs:=cs) (run_endLoop hw2 (by rw[hlr2.state];exact hnb));exact⟨ι2,_,_,_,st1.trans (.one st2),by rw[hlr2.pending];exact harr k,⟨hrel3,(hs.tr.mono hi1).mono hi2,(hs.ro.mono hi1).mono hi2,hdr1.mono hi2⟩,⟨(hst1.trans hst2).trans hst3,rfl,rfl⟩⟩
 split at h8
 .cases h8
 .rename_i hp hnb;simp only[ay,bH]at h8;exact(main .nrm hnb h8.1.symm h8.2.symm (λ k=>by rw[hp];rfl))
 .rename_i id hp hnb;simp only[ay,bH]at h8;exact(main (.exit id) hnb h8.1.symm h8.2.symm (λ k=>by rw[hp];exact⟨k,rfl,rfl⟩))
 .rename_i hp hnb;simp only[ay,bH]at h8;exact(main .ret hnb h8.1.symm h8.2.symm (λ k=>by rw[hp];exact⟨k,rfl⟩))
 .cases h8
end
section
variable {tb:aN}{τ τ':T I}
theorem Fi:∀{l:List bM},(∀x∈l,ev τ x=ev τ' x)->fk τ l=fk τ' l
 | [],_=>rfl
 |x::l,h=>by simp only[fk,h x (by simp),Fi (l:=l) λ y hy=>h y (by simp[hy])]
theorem Je:∀{l:List (Nat×bM)},(∀x∈l.map (·.2),ev τ x=ev τ' x)->oI τ l=oI τ' l
 | [],_=>rfl
 |(i,x)::l,h=>by simp only[oI,h x (by simp),Je (l:=l) λ y hy=>h y (by simp only[lK,cG];exact .inr hy)]
def Fg:∀{x:Option bM},(∀y∈x.toArray,ev τ y=ev τ' y)->mI τ x=mI τ' x
 |none,_=>rfl
 |some x,h=>by simp only[mI,h x (by simp)]
def EV{c:Call}(h:∀x∈c.operands,ev τ x=ev τ' x):fk τ c.args.toList=fk τ' c.args.toList:=
 Fi λ x hx=>h x (by simp[Call.operands,Array.mem_toList_iff.1 hx])
def X2{g:Nat->Option Ob}{c:Call}(h:∀x∈c.operands,ev τ x=ev τ' x):rW tb τ g c=rW tb τ' g c:=by
 unfold rW;rw[EV h];cases hc:c.callee with
 |value f=>have hf:ev τ f=ev τ' f:=h f (by simp[Call.operands,hc]);simp only[hf]
 |invoke r m=>have hr:ev τ r=ev τ' r:=h r (by simp[Call.operands,hc]);simp only[hr]
 |builtin b=>rfl
def Rw{o:Op}(h:∀x∈o.operands,ev τ x=ev τ' x):ib tb τ o=ib tb τ' o:=by
 cases o<;>simp only[Op.operands]at h<;>simp only[ib]
 case build t ps=>rw[Je λ x hx=>h x (by simpa using hx)]
 case makeFunc fn a b=>rw[Fi (l:=a.toList) λ x hx=>h x (by simp at hx;simp[hx]),Fi (l:=b.toList) λ x hx=>h x (by simp at hx;simp[hx])]
 case call c=>cases c.callee<;>simp only[EV h]
 case slice t x lo hi mx=>rw[h x (by simp),Fg (x:=lo) λ y hy=>h y (by simp[hy]),Fg (x:=hi) λ y hy=>h y (by simp[hy]),Fg (x:=mx) λ y hy=>h y (by simp[hy])]
 all_goals (first|rfl|(simp_all;done))
def RN{g:Nat->Option Ob}{o:Op}(h:∀x∈o.operands,ev τ x=ev τ' x):eR tb τ g o=eR tb τ' g o:=by
 cases o<;>simp only[Op.operands]at h<;>simp only[eR]
 case call c=>rw[EV h]
 case load t x=>cases x<;>simp_all
 case indexAddr t x i=>cases x<;>simp_all
 all_goals (first|rfl|(simp_all;done))
def L8{o:Op}(h:∀x∈o.operands,ev τ x=ev τ' x):lS tb τ o=lS tb τ' o:=by
 cases o<;>simp only[Op.operands]at h<;>simp only[lS]
 case buildSlice t n ps=>rw[Je λ x hx=>h x (by simpa using hx)]
 case makeMap t r=>rw[Fg h]
 all_goals (first|rfl|(simp_all;done))
variable {A:Mem}
def qaT{o:Op}(h:∀x∈o.operands,ev τ x=ev τ' x):oM tb τ A o=oM tb τ' A o:=by
 cases o<;>simp only[Op.operands]at h<;>simp only[oM]
 case call c=>rw[EV h]
 all_goals (first|rfl|(simp_all;done))
end
section
variable {tb:aN}{ih:aH->St->R (Ex×St)}
def zp(tb:aN)(ih:aH->St->R (Ex×St))(o:Oper)(t:T I)(A:Mem)(v:I)(A':Mem):Prop:=
 ∀(t':T I) (n:Nat) (d:List Nat) (ro:Option Nat) (k:St->R (Ex×St)),(∀x∈o.op.operands,ev t x=ev t' x)->
  bT tb ih o ⟨t',n,d,A,ro⟩ k=b7 ⟨t',n,d,A',ro⟩ o.dst v k
def Ks{o : Oper}{s : St}{k : St -> R (Ex × St)}{r : Ex × St}(h : bT tb ih o s k = .ok r) :
    (∃ v s1, r = (.ef v, s1)) \/ ∃ v A', b7 { s with m := A' } o.dst v k = .ok r /\ zp tb ih o s.t s.m v A' /\
      (match cls tb o.op with
       | .P => ib tb s.t o.op = .ok v /\ A' = s.m
       | .Rd => eR tb s.t s.m.get o.op = .ok v /\ A' = s.m
       | .Al => ∃ ob way, lS tb s.t o.op = .ok (ob, way) /\ A' = s.m.alloc ob /\ v = way.at s.m.next
       | .L => True) := by
  unfold bT at h
  split at h
  . rename_i c hc
    obtain ⟨cl, h1, h2⟩ := R.aC h
    obtain ⟨res, h3, h4⟩ := R.aC h2
    have hop : o.op = .call c := by
      unfold qd at hc
      split at hc
      . rename_i c' hop
        split at hc
        . cases hc
        . simp only [fg] at hc; rw [hop, hc]
      . cases hc
    have hL : cls tb o.op = .L := by
      rw [hop] at hc ⊢
      unfold qd at hc
      simp only at hc
      unfold cls
      simp only
      split at hc
      . cases hc
      . rfl
    split at h4
    . rename_i v A
      refine .inr ⟨v, A, h4, λ t' n d ro k' hx => ?_, ?_⟩
      . have hx' : ∀ x ∈ c.operands, ev s.t x = ev t' x := by rw [hop] at hx; exact hx
        unfold bT
        rw [hc]
        simp only
        rw [<- X2 hx', h1]
        simp only [R.bind, h3]
      . rw [hL]; trivial
    . rename_i v A
      simp only [ay] at h4
      exact .inl ⟨v, _, h4.symm⟩
  . rename_i hnc
    split at h
    . rename_i hcls
      obtain ⟨v, h1, h2⟩ := R.aC h
      refine .inr ⟨v, s.m, h2, λ t' n d ro k' hx => ?_, ?_⟩
      . unfold bT
        rw [hnc, hcls]
        simp only
        rw [<- Rw hx, h1]; rfl
      . rw [hcls]; exact ⟨h1, rfl⟩
    . rename_i hcls
      obtain ⟨v, h1, h2⟩ := R.aC h
      refine .inr ⟨v, s.m, h2, λ t' n d ro k' hx => ?_, ?_⟩
      . unfold bT
        rw [hnc, hcls]
        simp only
        rw [<- RN hx, h1]; rfl
      . rw [hcls]; exact ⟨h1, rfl⟩
    . rename_i hcls
      obtain ⟨⟨ob, way⟩, h1, h2⟩ := R.aC h
      refine .inr ⟨_, _, h2, λ t' n d ro k' hx => ?_, ?_⟩
      . unfold bT
        rw [hnc, hcls]
        simp only
        rw [<- L8 hx, h1]; rfl
      . rw [hcls]; exact ⟨ob, way, h1, rfl, rfl⟩
    . rename_i hcls
      split at h
      . rename_i x hop
        obtain ⟨xv, h1, h2⟩ := R.aC h
        split at h2
        . simp only [ay] at h2
          exact .inl ⟨_, _, h2.symm⟩
        . cases h2
      . rename_i hnp
        obtain ⟨⟨v, A⟩, h1, h2⟩ := R.aC h
        refine .inr ⟨v, A, h2, λ t' n d ro k' hx => ?_, ?_⟩
        . unfold bT
          rw [hnc, hcls]
          simp only
          rw [<- qaT hx, h1]; rfl
        . rw [hcls]; trivial
end
section
variable {tb:aN}{ih:aH->St->R (Ex×St)}
theorem UO{α:Type}{f:α->α->Bool}(h:∀x y,f x y=ae->x=y):∀{l m:List α},Z l=Z m->((l.zip m).all λ(x,y)=>f x y)=ae->l=m
 | [],[],_,_=>rfl
 | [],_::_,h1,_=>by simp at h1
 |_::_,[],h1,_=>by simp at h1
 |x::l,y::m,h1,h2=>by
  simp only[List.zip_cons_cons,DV,dW]at h2;rw[h x y h2.1,UO h (by simpa using h1) h2.2]
def K6{a b:Option Nat}(h:tO a b=ae):a=b:=by
 cases a<;>cases b<;>simp[tO]at h
 .rfl
 .rw[h]
def SX{a b:Addr}(h:xh a b=ae):a=b:=by
 obtain⟨x,y,z⟩:=a;obtain⟨x',y',z'⟩:=b;simp only[xh,dW]at h;obtain⟨⟨h1,h2⟩,h3⟩:=h;have h1:=eW h1;have h2:=eW h2;have h3:=K6 h3;rw[h1,h2,h3]
def qgc{a b:Fn}(h:Dp a b=ae):a=b:=by
 unfold Dp at h;split at h
 .rw[eW h]
 .rw[eW h]
 .cases h
theorem yY:∀(d:Nat) (a b:I),dD d a b=ae->a=b
 |0,_,_,h=>by cases h
 |d+1,a,b,h=>by
  have hl:∀l m:List I,(aL (Z l) (Z m)&&(l.zip m).all λ(x,y)=>dD d x y)=ae->l=m:=by
   intro l m h;simp only[dW]at h;exact UO (yY d) (eW h.1) h.2
  have hA:∀x y:Array I,(aL (Z x.toList) (Z y.toList)&&(x.toList.zip y.toList).all λ(x,y)=>dD d x y)=ae->x=y:=λ x y h=>m6 (hl _ _ h)
  unfold dD at h;simp only at h;split at h
  .rfl
  .rfl
  .simp only[dW]at h;have h2:=h.2;rw[wW]at h2;rw[CY h.1,eq_of_beq h2]
  .rename_i x y;rw[pU]at h;have:=eq_of_beq h;congr 1;exact cX ByteArray.mk (m6 this)
  .rfl
  .rw[SX h]
  .simp only[dW]at h;rw[eW h.1,eW h.2]
  .simp only[dW]at h;rw[SX h.1.1,eW h.1.2,eW h.2]
  .rw[K6 h]
  .rw[K6 h]
  .rfl
  .rfl
  .simp only[dW]at h;rw[eW h.1,yY d _ _ h.2]
  .rw[dW,dW]at h;rw[qgc h.1.1,hA _ _ h.1.2,hA _ _ h.2]
  .rw[hA _ _ h]
  .rw[hA _ _ h]
  .rfl
  .cases h
end
section
variable {tb:aN}
theorem I_{acc:List Nat}:∀{es:List Edge} {m:Nat},z_ acc es=.ok m->
 (∀e∈es,Region.binds .any e=ae->∃a,acc[e.on]?=U a)/\
 ∀i,m.testBit i=ae->∃e∈es,Region.binds .any e=ae/\∃a,acc[e.on]?=U a/\(i=e.on\/a.testBit i=ae)
 | [],m,h=>by
  simp only[z_,ay]at h;subst h;exact⟨by simp,λ i hi=>by simp at hi⟩
 |e::es,m,h=>by
  unfold z_ at h;obtain⟨m0,h1,h2⟩:=R.aC h;obtain⟨h3,h4⟩:=I_ h1;cases hb:Region.binds .any e with
  |false=>
   rw[hb]at h2;simp only[bJ,ay]at h2;subst h2;refine⟨λ x hx hbx=>?_,λ i hi=>?_⟩
   .rcases cG.1 hx with rfl|hx
    .rw[hb]at hbx;cases hbx
    .exact h3 x hx hbx
   .obtain⟨x,hx,hr⟩:=h4 i hi;exact⟨x,cV _ hx,hr⟩
  |true=>
   rw[hb]at h2;simp only[aJ]at h2;split at h2
   .rename_i a ha;simp only[ay]at h2;subst h2;refine⟨λ x hx hbx=>?_,λ i hi=>?_⟩
    .rcases cG.1 hx with rfl|hx
     .exact⟨a,ha⟩
     .exact h3 x hx hbx
    .have hi':((1<<<e.on|||a)|||m0).testBit i=ae:=hi;simp only[Nat.testBit_or,DP]at hi';rcases hi' with(h5|h5)|h5
     .refine⟨e,cJ,hb,a,ha,.inl ?_⟩;rw[Nat.one_shiftLeft,Nat.testBit_two_pow]at h5;simpa using (of_decide_eq_true h5).symm
     .exact⟨e,cJ,hb,a,ha,.inr h5⟩
     .obtain⟨x,hx,hr⟩:=h4 i h5;exact⟨x,cV _ hx,hr⟩
   .cases h2
theorem PC{ops:List Oper}:∀{os:List Oper} {acc:List Nat} {l:List ng},CV tb ops os acc=.ok l->
 Z l=Z os/\∀j o,os[j]?=U o->∃x,l[j]?=U x/\x.c=cls tb o.op/\x.w=o.dst.toList/\x.r=uU ops o/\z_ (acc++(l.take j).map (·.m)) o.after.toList=.ok x.m
 | [],acc,l,h=>by
  simp only[CV,ay]at h;subst h;exact⟨rfl,λ j o ho=>by simp at ho⟩
 |o::os,acc,l,h=>by
  unfold CV at h;obtain⟨m,h1,h2⟩:=R.aC h;rw[FA]at h2;obtain⟨l',h3,h4⟩:=R.aC h2;simp only[ay]at h4;subst h4;obtain⟨h5,h6⟩:=PC h3;refine⟨by simp[h5],λ j o' ho=>?_⟩;cases j with
  |zero=>
   simp only[c7,fg]at ho;subst ho;exact⟨_,rfl,rfl,rfl,rfl,by simpa using h1⟩
  |succ j=>
   obtain⟨x,e1,e2,e3,e4,e5⟩:=h6 j o' (by simpa using ho);exact⟨x,by simpa using e1,e2,e3,e4,by simpa using e5⟩
def zk(fl:List (Nat×Nat))(i:Nat)(a:ng)(j:Nat)(b:ng):Prop:=
 b.m.testBit i=ae\/(r9 a.w b.w=ag/\r9 a.w b.r=ag/\r9 a.r b.w=ag/\¬(a.c=.L/\b.c=.L)/\
  (a.c=.Rd->b.c=.L->(i,j)∈fl)/\(a.c=.L->b.c=.Rd->(j,i)∈fl)/\(a.c=.Al->b.c=.L->(i,j)∈fl))
variable {i j:Nat}
def zk.mono{fl fl':List (Nat×Nat)}{a b:ng}(hs:∀p∈fl,p∈fl')(h:zk fl i a j b):zk fl' i a j b:=by
 rcases h with h|⟨h1,h2,h3,h4,h5,h6,h7⟩
 .exact .inl h
 .exact .inr ⟨h1,h2,h3,h4,λ x y=>hs _ (h5 x y),λ x y=>hs _ (h6 x y),λ x y=>hs _ (h7 x y)⟩
def qcv{a b:ng}{fl:List (Nat×Nat)}(h:Kv i a j b=.ok fl):zk fl i a j b:=by
 unfold Kv at h;cases ht:b.m.testBit i with
 |true=>exact .inl ht
 |false=>
  rw[ht]at h;simp only[bJ]at h;cases hm:(r9 a.w b.w||r9 a.w b.r||r9 a.r b.w)with
  |true=>rw[hm]at h;cases h
  |false=>
   rw[hm]at h;simp only[bJ]at h;simp only[Bp]at hm;refine .inr ⟨hm.1.1,hm.1.2,hm.2,?_⟩;cases ha:a.c<;>cases hb:b.c<;>rw[ha,hb]at h<;>simp only[ay]at h<;>first
    |(cases h;done)
    |(subst h;simp)
theorem Ux{b:ng}:∀{l:List ng} {i0:Nat} {fl:List (Nat×Nat)},G0 j b l i0=.ok fl->∀i a,l[i]?=U a->zk fl (i0+i) a j b
 | [],_,_,_,i,a,hi=>by simp at hi
 |x::l,i0,fl,h,i,a,hi=>by
  unfold G0 at h;obtain⟨p,h1,h2⟩:=R.aC h;obtain⟨q,h3,h4⟩:=R.aC h2;simp only[ay]at h4;subst h4;cases i with
  |zero=>
   simp only[c7,fg]at hi;subst hi;exact(qcv h1).mono λ y hy=>Hm _ hy
  |succ i=>
   have:=Ux h3 i a (by simpa using hi);rw[show i0+(i+1)=i0+1+i by omega];exact this.mono λ y hy=>xS _ hy
theorem Ry{all:List ng}:∀{l:List ng} {j0:Nat} {fl:List (Nat×Nat)},Gc all l j0=.ok fl->∀j b,l[j]?=U b->∀i a,i<j0+j->all[i]?=U a->zk fl i a (j0+j) b
 | [],_,_,_,j,b,hj=>by simp at hj
 |x::l,j0,fl,h,j,b,hj=>by
  unfold Gc at h;obtain⟨p,h1,h2⟩:=R.aC h;obtain⟨q,h3,h4⟩:=R.aC h2;simp only[ay]at h4;subst h4;intro i a hi ha;cases j with
  |zero=>
   simp only[c7,fg]at hj;subst hj;have:=Ux h1 i a (by rw[pM,aA (by omega)];exact ha);rw[ep]at this;exact this.mono λ y hy=>Hm _ hy
  |succ j=>
   have:=Ry h3 j b (by simpa using hj) i a (by omega) ha;rw[show j0+(j+1)=j0+1+j by omega];exact this.mono λ y hy=>xS _ hy
def J9{a b:List Nat}(h:r9 a b=ag):∀x,x∈a->x∉b:=by
 intro x ha hb;have:r9 a b=ae:=List.any_eq_true.2 ⟨x,ha,List.any_eq_true.2 ⟨x,hb,by simp⟩⟩;rw[h]at this;cases this
end
inductive ue (ops:Array Oper):(Nat->Prop)->List Nat->Prop
 |nil {S:Nat->Prop} (h:∀i,i<ops.size->S i):ue ops S []
 |cons {S:Nat->Prop} {i:Nat} {rest:List Nat} {o:Oper} (ho:ops[i]?=U o) (hn:¬S i) (he:∀e∈o.after,Region.binds .any e=ae->S e.on)
  (h:ue ops (λ j=>S j\/j=i) rest):ue ops S (i::rest)
variable {ops:Array Oper}
def ue.congr{S S':Nat->Prop}{l:List Nat}(h:ue ops S l)(hs:∀j,S j↔S' j):ue ops S' l:=by
 have:S=S':=funext λ j=>propext (hs j)
 rw[<-this];exact h
def missing(ops:Array Oper)(listed:Array Bool):Nat:=((lM ops.size).filter λ i=>!listed.getD i ae).length
variable {i:Nat}
def JC{l:Array Bool}(h:i<l.size):l.getD i ae=l.getD i ag:=by simp[Array.getD,h]
theorem filter_le{α:Type}{p q:α->Bool}:∀{l:List α},(∀x∈l,q x=ae->p x=ae)->(l.filter q).length<=(l.filter p).length
 | [],_=>by simp
 |y::l,h1=>by
  have ih:=filter_le (p:=p) (q:=q) (l:=l) λ x hx=>h1 x (by simp[hx])
  have hy:=h1 y (by simp);rw[iD,iD];cases hq:q y<;>cases hp:p y<;>simp_all<;>omega
theorem filter_lt{α:Type}{p q:α->Bool}:∀{l:List α},(∀x∈l,q x=ae->p x=ae)->(∃x∈l,p x=ae/\q x=ag)->(l.filter q).length<(l.filter p).length
 | [],_,h=>by obtain⟨x,hx,_⟩:=h;cases hx
 |y::l,h1,⟨x,hx,hp,hq⟩=>by
  have hle:=filter_le (p:=p) (q:=q) (l:=l) λ x hx=>h1 x (by simp[hx])
  have hy:=h1 y (by simp);rw[iD,iD];rcases cG.1 hx with rfl|hx
  .simp[hp,hq];omega
  .have ih:=filter_lt (p:=p) (q:=q) (l:=l) (λ x hx=>h1 x (by simp[hx])) ⟨x,hx,hp,hq⟩;cases hqy:q y<;>cases hpy:p y<;>simp_all<;>omega
theorem P3(hback:∀(i:Nat) (o:Oper),ops[i]?=U o->∀e∈o.after,Region.binds .any e=ae->e.on<i):
 ∀(fuel t:Nat) (listed:Array Bool),listed.size=ops.size->missing ops listed<=fuel->ue ops (λ j=>listed.getD j ag=ae) (Region.linearise.go .any ops fuel t listed [])
 |0,t,listed,hs,hm=>by
  simp only[Region.linearise.go,List.reverse_nil];refine .nil λ i hi=>?_
  have h0:(lM ops.size).filter (λ i=>!listed.getD i ae)=[]:=eN.1 (by unfold missing at hm;omega);have:=List.filter_eq_nil_iff.1 h0 i (by simpa using hi);rw[<-JC (by omega)];simpa using this
 |fuel+1,t,listed,hs,hm=>by
  simp only[Region.linearise.go];change ue ops _ (match(Region.ready .any ops listed)[t % (Region.ready .any ops listed).length]? with
   |some i=>Region.linearise.go .any ops fuel (t/(Region.ready .any ops listed).length) (listed.setIfInBounds i ae) [i]
   |none=>[].reverse)
  cases hi:(Region.ready .any ops listed)[t % (Region.ready .any ops listed).length]? with
  |none=>
   have hnil:Region.ready .any ops listed=[]:=by
    cases hr:Region.ready .any ops listed with
    |nil=>rfl
    |cons x xs=>
     rw[hr]at hi;have hlt:t % (x::xs).length<(x::xs).length:=jV _ (by simp);simp at hi;simp at hlt;omega
   refine .nil λ i=>?_
   induction i using xW with
   |ind i ih=>
    intro hlt;cases hl:listed.getD i ag with
    |true=>rfl
    |false=>
     exfalso;have hmem:i∈Region.ready .any ops listed:=by
      rw[mem_ready];refine⟨by rw[JC (by omega)];exact hl,ops[i],by simp[hlt],λ e he hb=>?_⟩;have:=hback i ops[i] (by simp[hlt]) e he hb;exact ih e.on this (by omega)
     rw[hnil]at hmem;cases hmem
  |some i=>
   simp only[];rw[linearise_go_acc,List.reverse_singleton,List.singleton_append];have hmem:=gJ hi;rw[mem_ready]at hmem;obtain⟨h1,o,ho,he⟩:=hmem;have hlt:i<ops.size:=(gm.1 ho).1;have hset:∀j,(listed.setIfInBounds i ae).getD j ag=ae↔(listed.getD j ag=ae\/j=i):=by
    intro j;by_cases hj:j=i
    .subst hj;simp[Array.getD,hs,hlt]
    .rw[getD_set_ne ag (Ne.symm hj)];simp[hj]
   refine .cons ho (by rw[<-JC (by omega),h1];simp) he ((P3 hback fuel _ _ (by simpa using hs) ?_).congr hset);have:missing ops (listed.setIfInBounds i ae)<missing ops listed:=by
    refine filter_lt (λ x hx hq=>?_) ⟨i,by simpa using hlt,by simp[h1],by simp[Array.getD,hs,hlt]⟩;by_cases hxi:x=i
    .subst hxi;simp[h1]
    .rw[getD_set_ne ae (Ne.symm hxi)]at hq;exact hq
   omega
section
variable {tb:aN}{ih:aH->St->R (Ex×St)}
def q_(t:T I)(dst:Option Tmp)(v:I):T I:=
 match dst with
 |none=>t
 |some d=>t.set d v
def OY(t:T I)(dst:Option Tmp)(v:I)(x:Nat):(q_ t dst v).get x=if dst=U x then U v else t.get x:=by
 cases dst with
 |none=>simp[q_]
 |some d=>
  simp only[q_,T.bR,fg];by_cases h:x=d
  .simp[h]
  .rw[ax h,ax (λ e=>h e.symm)]
variable {dst:Option Tmp}{v:I}
def Dd{s:St}{k:St->R (Ex×St)}{r:Ex×St}(h:b7 s dst v k=.ok r):
 k {s with t:=q_ s.t dst v}=.ok r/\∀d,dst=U d->d<s.n:=by
 unfold b7 at h;split at h
 .exact⟨h,by simp⟩
 .rename_i d;cases hb:aO d s.n with
  |false=>rw[hb]at h;cases h
  |true=>
   rw[hb]at h;simp only[aJ,Js]at h;exact⟨h,λ d' hd=>by cases hd;exact jE hb⟩
def RG{s:St}{k:St->R (Ex×St)}(hd:∀d,dst=U d->d<s.n):b7 s dst v k=k {s with t:=q_ s.t dst v}:=by
 unfold b7;cases dst with
 |none=>rfl
 |some d=>
  have:aO d s.n=ae:=by rw[bZ];exact hd d rfl
  simp only[this,aJ,Js,q_]
theorem CU:∀(bs:List Nat) (A:Mem),(iq bs A).next=A.next
 | [],_=>rfl
 |b::bs,A=>by rw[iq,CU bs,cU]
theorem yP:∀(bs:List Nat) (A:Mem) (x:Nat),(iq bs A).get x=if x∈bs then U .dead else A.get x
 | [],_,_=>by simp[iq]
 |b::bs,A,x=>by
  rw[iq,yP bs,cN];by_cases h:x∈bs
  .simp[h]
  .by_cases h2:x=b<;>simp[h,h2]
theorem Ew{g:Nat->Option Ob}:∀{bs:List Nat} {A A':Mem},ji g bs A=.ok A'->A'.next=A.next
 | [],A,A',h=>by simp only[ji,ay]at h;rw[h]
 |b::bs,A,A',h=>by
  unfold ji at h;split at h
  .rw[Ew h,cU]
  .cases h
theorem Ev{g:Nat->Option Ob}:∀{bs:List Nat} {A A':Mem},ji g bs A=.ok A'->(∀x∈bs,∃o,g x=U o)/\∀x,A'.get x=if x∈bs then g x else A.get x
 | [],A,A',h=>by simp only[ji,ay]at h;subst h;exact⟨by simp,by simp⟩
 |b::bs,A,A',h=>by
  unfold ji at h;split at h
  .rename_i o ho;obtain⟨h1,h2⟩:=Ev h;refine⟨λ x hx=>?_,λ x=>?_⟩
   .rcases cG.1 hx with rfl|hx
    .exact⟨o,ho⟩
    .exact h1 x hx
   .rw[h2,cN];by_cases hx:x∈bs
    .simp[hx]
    .by_cases hb:x=b
     .subst hb;simp[hx,ho]
     .simp[hx,hb]
  .cases h
structure L6 (tb : aN) (ih : aH -> St -> R (Ex × St)) (ops : List Oper) (o : Oper) (s s1 : St) (w : Bool) (v : I) (bs : List Nat) : Prop where
  want : iM ops o s.t = .ok w
  dst : ∀ d, o.dst = U d -> d < s.n
  to : s1 = { s with m := s1.m, t := q_ s.t o.dst v }
  no : w = ag -> v = cQ /\ s1.m = s.m
  kind : w = ae -> match cls tb o.op with
       | .P => ib tb s.t o.op = .ok v /\ s1.m = s.m
       | .Rd => eR tb s.t s.m.get o.op = .ok v /\ s1.m = s.m
       | .Al => ∃ ob way, lS tb s.t o.op = .ok (ob, way) /\ s1.m = s.m.alloc ob /\ v = way.at s.m.next
       | .L => ∃ A1, zp tb ih o s.t (iq bs s.m) v A1 /\ ji s.m.get bs A1 = .ok s1.m
def RX{g:Nat->Option Ob}{x:Rec}(h:jy tb g x=ae):eR tb x.t g x.o=.ok x.v:=by
 unfold jy at h;split at h
 .rename_i v hv;rw[hv,yY _ _ _ h]
 .cases h
variable {r:Nat}
def Kw{l:Nat}{fl:List (Nat×Nat)}(h:(r,l)∈fl):eK r l fl=ae:=
 List.any_eq_true.2 ⟨_,h,by simp⟩
def Xt(tb:aN)(ops:Array Oper)(st:Nat->St)(wb:Nat->Bool)(M:Mem)(i q:Nat)(A:Mem):Prop:=
 ∀b ob,A.get b=U ob->M.get b=U ob\/∃p o,i<=p/\p<q/\ops[p]?=U o/\wb p=ae/\cls tb o.op=.Al/\b=(st p).m.next/\(st (p+1)).m.get b=U ob
def Xt.self{st:Nat->St}{wb:Nat->Bool}{M:Mem}{q:Nat}:Xt tb ops st wb M i q M:=λ _ _ h=>.inl h
variable {A:Mem}{j:Nat}
def Xt.up{st st':Nat->St}{wb wb':Nat->Bool}{M M':Mem}{q:Nat}(h:Xt tb ops st wb M j q A)(hij:i<=j)(hs:∀p,j<=p->st' p=st p)(hw:∀p,j<=p->wb' p=wb p)
 (hM:∀b ob,M.get b=U ob->M'.get b=U ob\/∃p o,i<=p/\p<q/\ops[p]?=U o/\wb' p=ae/\cls tb o.op=.Al/\b=(st' p).m.next/\(st' (p+1)).m.get b=U ob):Xt tb ops st' wb' M' i q A:=by
 intro b ob hb;rcases h b ob hb with h1|⟨p,o,h1,h2,h3,h4,h5,h6,h7⟩
 .exact hM b ob h1
 .exact .inr ⟨p,o,by omega,h2,h3,by rw[hw p h1];exact h4,h5,by rw[hs p h1];exact h6,by rw[hs (p+1) (by omega)];exact h7⟩
structure Row (tb:aN) (ih:aH->St->R (Ex×St)) (ops:Array Oper) (fl:List (Nat×Nat)) (i:Nat) (st:Nat->St) (wb:Nat->Bool) (vv:Nat->I) (hb:Nat->List Nat):Prop where
 step:∀p o,i<=p->ops[p]?=U o->L6 tb ih ops.toList o (st p) (st (p+1)) (wb p) (vv p) (hb p)
 late:∀p q o o',i<=p->p<q->ops[p]?=U o->ops[q]?=U o'->wb p=ae->wb q=ae->cls tb o.op=.Rd->cls tb o'.op=.L->(p,q)∈fl->eR tb (st p).t (st (q+1)).m.get o.op=.ok (vv p)
 early:∀p q o o',i<=p->p<q->ops[p]?=U o->ops[q]?=U o'->wb p=ae->wb q=ae->cls tb o.op=.L->cls tb o'.op=.Rd->(q,p)∈fl->∃A,Xt tb ops st wb (st p).m p q A/\eR tb (st q).t A.get o'.op=.ok (vv q)
 float:∀p q o o',i<=p->p<q->ops[p]?=U o->ops[q]?=U o'->wb p=ae->wb q=ae->cls tb o.op=.Al->cls tb o'.op=.L->(p,q)∈fl->(st p).m.next∈hb q
structure zH (tb:aN) (ih:aH->St->R (Ex×St)) (ops:Array Oper) (fl:List (Nat×Nat)) (i:Nat) (mems:List (Nat×Mem)) (recs:List Rec) (mks:List (Nat×Nat)) (st:Nat->St) (wb:Nat->Bool) (vv:Nat->I) (hb:Nat->List Nat):Prop where
 row:Row tb ih ops fl i st wb vv hb
 recs:∀x∈recs,∀q o',i<=q->ops[q]?=U o'->wb q=ae->cls tb o'.op=.L->(x.i,q)∈fl->eR tb x.t (st (q+1)).m.get x.o=.ok x.v
 mems:∀m∈mems,∀q o',i<=q->ops[q]?=U o'->wb q=ae->cls tb o'.op=.Rd->(q,m.1)∈fl->∃A,Xt tb ops st wb m.2 i q A/\eR tb (st q).t A.get o'.op=.ok (vv q)
 mks:∀m∈mks,∀q o',i<=q->ops[q]?=U o'->wb q=ae->cls tb o'.op=.L->(m.1,q)∈fl->m.2∈hb q
def zH.cons{fl:List (Nat×Nat)}{o:Oper}{s:St}{w:Bool}{bs:List Nat}{st:Nat->St}{wb:Nat->Bool}{vv:Nat->I}{hb:Nat->List Nat}
 {mems mems':List (Nat×Mem)}{recs recs':List Rec}{mks mks':List (Nat×Nat)}
 (ho:ops[i]?=U o)(h:zH tb ih ops fl (i+1) mems' recs' mks' st wb vv hb)(hs:L6 tb ih ops.toList o s (st (i+1)) w v bs)
 (hm:∀m∈mems,∃M,(m.1,M)∈mems'/\∀b ob,M.get b=U ob->m.2.get b=U ob\/(w=ae/\cls tb o.op=.Al/\b=s.m.next/\(st (i+1)).m.get b=U ob))(hr:∀x∈recs,x∈recs')(hk:∀x∈mks,x∈mks')
 (hR:w=ae->cls tb o.op=.Rd->⟨i,s.t,o.op,v⟩∈recs'/\∀m∈mems,(i,m.1)∈fl->eR tb s.t m.2.get o.op=.ok v)
 (hL:w=ae->cls tb o.op=.L->(i,s.m)∈mems'/\(∀x∈recs,(x.i,i)∈fl->eR tb x.t (st (i+1)).m.get x.o=.ok x.v)/\∀m∈mks,(m.1,i)∈fl->m.2∈bs)
 (hA:w=ae->cls tb o.op=.Al->(i,s.m.next)∈mks'):
 zH tb ih ops fl i mems recs mks (λ p=>if p<=i then s else st p) (λ p=>if p<=i then w else wb p) (λ p=>if p<=i then v else vv p) (λ p=>if p<=i then bs else hb p):=by
 have hst:∀p,i<p->(if p<=i then s else st p)=st p:=λ p hp=>ax (by omega)
 have hwb:∀p,i<p->(if p<=i then w else wb p)=wb p:=λ p hp=>ax (by omega)
 have hvv:∀p,i<p->(if p<=i then v else vv p)=vv p:=λ p hp=>ax (by omega)
 have hhb:∀p,i<p->(if p<=i then bs else hb p)=hb p:=λ p hp=>ax (by omega)
 refine⟨⟨λ p o' hp ho'=>?_,λ p q op oq hp hpq hop hoq hwp hwq hcp hcq hfl=>?_,λ p q op oq hp hpq hop hoq hwp hwq hcp hcq hfl=>?_,λ p q op oq hp hpq hop hoq hwp hwq hcp hcq hfl=>?_⟩,
  λ x hx q oq hq hoq hwq hcq hfl=>?_,λ m hmm q oq hq hoq hwq hcq hfl=>?_,λ m hmm q oq hq hoq hwq hcq hfl=>?_⟩
 .by_cases he:p=i
  .subst he;rw[ho]at ho';cases ho';have h3:¬p+1<=p:=by omega
   simp only[h3,bg,aI,bB];exact hs
  .have h1:¬p<=i:=by omega
   have h2:¬p+1<=i:=by omega
   simp only[h1,h2,bg];exact h.row.step p o' (by omega) ho'
 .simp only[hwb q (by omega)]at hwq;simp only[hst (q+1) (by omega)];by_cases he:p=i
  .subst he;rw[ho]at hop;cases hop;simp only[aI,bB]at hwp⊢;exact h.recs _ (hR hwp hcp).1 q oq (by omega) hoq hwq hcq hfl
  .simp only[hwb p (by omega)]at hwp;simp only[hst p (by omega),hvv p (by omega)];exact h.row.late p q op oq (by omega) hpq hop hoq hwp hwq hcp hcq hfl
 .simp only[hwb q (by omega)]at hwq;simp only[hst q (by omega),hvv q (by omega)];by_cases he:p=i
  .subst he;rw[ho]at hop;cases hop;simp only[aI,bB]at hwp⊢;obtain⟨A,hA,hrd⟩:=h.mems _ (hL hwp hcp).1 q oq (by omega) hoq hwq hcq hfl;exact⟨A,hA.up (Nat.le_succ _) (λ x hx=>hst x hx) (λ x hx=>hwb x hx) λ _ _ hb=>.inl hb,hrd⟩
  .simp only[hwb p (by omega)]at hwp;simp only[hst p (by omega)];obtain⟨A,hA,hrd⟩:=h.row.early p q op oq (by omega) hpq hop hoq hwp hwq hcp hcq hfl;exact⟨A,hA.up (aI _) (λ x hx=>hst x (by omega)) (λ x hx=>hwb x (by omega)) λ _ _ hb=>.inl hb,hrd⟩
 .simp only[hwb q (by omega)]at hwq;simp only[hhb q (by omega)];by_cases he:p=i
  .subst he;rw[ho]at hop;cases hop;simp only[aI,bB]at hwp⊢;exact h.mks _ (hA hwp hcp) q oq (by omega) hoq hwq hcq hfl
  .simp only[hwb p (by omega)]at hwp;simp only[hst p (by omega)];exact h.row.float p q op oq (by omega) hpq hop hoq hwp hwq hcp hcq hfl
 .simp only[hst (q+1) (by omega)];by_cases he:q=i
  .subst he;rw[ho]at hoq;cases hoq;simp only[aI,bB]at hwq;exact(hL hwq hcq).2.1 x hx hfl
  .simp only[hwb q (by omega)]at hwq;exact h.recs x (hr x hx) q oq (by omega) hoq hwq hcq hfl
 .by_cases he:q=i
  .subst he;rw[ho]at hoq;cases hoq;simp only[aI,bB]at hwq⊢;exact⟨m.2,.self,(hR hwq hcq).2 m hmm hfl⟩
  .simp only[hwb q (by omega)]at hwq;simp only[hst q (by omega),hvv q (by omega)];obtain⟨M,hM,hMb⟩:=hm m hmm;obtain⟨A,hA,hrd⟩:=h.mems _ hM q oq (by omega) hoq hwq hcq hfl;refine⟨A,hA.up (Nat.le_succ _) (λ x hx=>hst x hx) (λ x hx=>hwb x hx) λ b ob hb=>?_,hrd⟩;rcases hMb b ob hb with h1|⟨h1,h2,h3,h4⟩
   .exact .inl h1
   .refine .inr ⟨i,o,aI _,by omega,ho,?_,h2,?_,?_⟩
    .simp only[aI,bB];exact h1
    .simp only[aI,bB];exact h3
    .simp only[hst (i+1) (by omega)];exact h4
 .by_cases he:q=i
  .subst he;rw[ho]at hoq;cases hoq;simp only[aI,bB]at hwq⊢;exact(hL hwq hcq).2.2 m hmm hfl
  .simp only[hwb q (by omega)]at hwq;simp only[hhb q (by omega)];exact h.mks m (hk m hmm) q oq (by omega) hoq hwq hcq hfl
variable {b:Nat}
def U5{o:Oper}{x:Option Ob}{mems:List (Nat×Mem)}{m:Nat×Mem}{w:Bool}(hw:w=ae)(hc:cls tb o.op=.Al)(hx:A.get b=x)(h:m∈mems):
 ∃M,(m.1,M)∈rL b x mems/\∀c ob,M.get c=U ob->m.2.get c=U ob\/(w=ae/\cls tb o.op=.Al/\c=b/\A.get c=U ob):=by
 cases x with
 |none=>exact⟨m.2,h,λ _ _ hb=>.inl hb⟩
 |some y=>
  refine⟨m.2.set b y,eH.2 ⟨m,h,rfl⟩,λ c ob hb=>?_⟩;rw[cN]at hb;split at hb
  .rename_i e;subst e;cases hb;exact .inr ⟨hw,hc,rfl,hx⟩
  .exact .inl hb
theorem AN{fl:List (Nat×Nat)}:∀(l:List Oper) (i:Nat),(∀j,l[j]?=ops[i+j]?)->∀{mems:List (Nat×Mem)} {recs:List Rec} {mks:List (Nat×Nat)} {s s':St},
 dY tb ih ops.toList fl l i mems recs mks s=.ok (.nrm,s')->∃st wb vv hb,st i=s/\st (i+Z l)=s'/\zH tb ih ops fl i mems recs mks st wb vv hb
 | [],i,hl,mems,recs,mks,s,s',h=>by
  have h':R.ok (Ex.nrm,s)=R.ok (Ex.nrm,s'):=h;simp only[ay,bH,true_and]at h';have hno:∀p o,i<=p->ops[p]?=U o->False:=λ p o hp ho=>by
   have:=hl (p-i);rw[show i+(p-i)=p by omega,ho]at this;cases this
  exact⟨λ _=>s,λ _=>ag,λ _=>cQ,λ _=>[],rfl,h',⟨λ p o hp ho=>(hno p o hp ho).elim,λ p _ o _ hp _ ho=>(hno p o hp ho).elim,λ p _ o _ hp _ ho=>(hno p o hp ho).elim,λ p _ o _ hp _ ho=>(hno p o hp ho).elim⟩,
   λ _ _ p o hp ho=>(hno p o hp ho).elim,λ _ _ p o hp ho=>(hno p o hp ho).elim,λ _ _ p o hp ho=>(hno p o hp ho).elim⟩
 |o::l,i,hl,mems,recs,mks,s,s',h=>by
  have ho:ops[i]?=U o:=by have:=hl 0;simpa using this.symm
  have hl':∀j,l[j]?=ops[i+1+j]?:=λ j=>by
   have:=hl (j+1);rw[show i+1+j=i+(j+1) by omega];simpa using this
  have h':((iM ops.toList o s.t).bind λ w=>
   bif w then
    match cls tb o.op with
    |.L=>bT tb ih o {s with m:=iq ((mks.filter λ x=>eK x.1 i fl).map (·.2)) s.m} λ s'=>
     (ji s.m.get ((mks.filter λ x=>eK x.1 i fl).map (·.2)) s'.m).bind λ A=>
     bif (recs.filter λ x=>eK x.i i fl).all (jy tb A.get)then dY tb ih ops.toList fl l (i+1) ((i,s.m)::mems) recs mks {s' with m:=A}else .no 310
    |.Rd=>(eR tb s.t s.m.get o.op).bind λ v=>
     bif (mems.filter λ m=>eK i m.1 fl).all (λ m=>jy tb m.2.get ⟨i,s.t,o.op,v⟩)then b7 s o.dst v (dY tb ih ops.toList fl l (i+1) mems (⟨i,s.t,o.op,v⟩::recs) mks)else .no 311
    |.Al=>bT tb ih o s λ s'=>dY tb ih ops.toList fl l (i+1) (rL s.m.next (s'.m.get s.m.next) mems) recs ((i,s.m.next)::mks) s'
    |.P=>bT tb ih o s (dY tb ih ops.toList fl l (i+1) mems recs mks)
   else b7 s o.dst cQ (dY tb ih ops.toList fl l (i+1) mems recs mks))=.ok (.nrm,s'):=h
  clear h;obtain⟨w,h1,h2⟩:=R.aC h';clear h';have fin:∀{st:Nat->St} {wb:Nat->Bool} {vv:Nat->I} {hb:Nat->List Nat} {w:Bool} {v:I} {bs:List Nat},st (i+1+Z l)=s'->
   zH tb ih ops fl i mems recs mks (λ p=>if p<=i then s else st p) (λ p=>if p<=i then w else wb p) (λ p=>if p<=i then v else vv p) (λ p=>if p<=i then bs else hb p)->
   ∃st wb vv hb,st i=s/\st (i+(o::l).length)=s'/\zH tb ih ops fl i mems recs mks st wb vv hb:=by
   intro st wb vv hb w v bs e h;refine⟨_,_,_,_,by simp,?_,h⟩;have:¬i+(o::l).length<=i:=by simp
   simp only[this,bg];rw[<-e];congr 1;simp only[cD];omega
  cases w with
  |false=>
   rw[bJ]at h2;obtain⟨hk,hd⟩:=Dd h2;obtain⟨st,wb,vv,hb,e1,e2,hr⟩:=AN l (i+1) hl' hk;exact fin e2 (hr.cons (w:=ag) (v:=cQ) (bs:=[]) ho ⟨h1,hd,by rw[e1],λ _=>⟨rfl,by rw[e1]⟩,by simp⟩ (λ m h=>⟨m.2,h,λ _ _ hb=>.inl hb⟩) (λ _ h=>h) (λ _ h=>h) (by simp) (by simp) (by simp))
  |true=>
   rw[aJ]at h2;split at h2
   .rename_i hc;rcases Ks h2 with⟨v,s1,h3⟩|⟨v,A,hp,hdo,_⟩
    .cases h3
    .obtain⟨hk,hd⟩:=Dd hp;obtain⟨A',hb',h5⟩:=R.aC hk;simp only at h5;cases hq:(recs.filter λ x=>eK x.i i fl).all (jy tb A'.get)with
     |false=>rw[hq]at h5;cases h5
     |true=>
      rw[hq,aJ]at h5;obtain⟨st,wb,vv,hb,e1,e2,hr⟩:=AN l (i+1) hl' h5;have hm1:(st (i+1)).m=A':=by rw[e1]
      refine fin e2 (hr.cons (w:=ae) (v:=v) (bs:=(mks.filter λ x=>eK x.1 i fl).map (·.2)) ho ⟨h1,hd,by rw[e1],by simp,λ _=>?_⟩ (λ m h=>⟨m.2,cV _ h,λ _ _ hb=>.inl hb⟩) (λ _ h=>h) (λ _ h=>h)
       (λ _ hc'=>by rw[hc]at hc';cases hc') (λ _ _=>⟨cJ,λ x hx hfl=>?_,λ m hm hfl=>?_⟩) (λ _ hc'=>by rw[hc]at hc';cases hc'))
      .rw[hc];exact⟨A,hdo,by rw[hm1];exact hb'⟩
      .rw[hm1];exact RX (oT.1 hq x (qn.2 ⟨hx,Kw hfl⟩))
      .exact eH.2 ⟨m,qn.2 ⟨hm,Kw hfl⟩,rfl⟩
   .rename_i hc;obtain⟨v,h3,h4⟩:=R.aC h2;cases hq:(mems.filter λ m=>eK i m.1 fl).all (λ m=>jy tb m.2.get ⟨i,s.t,o.op,v⟩)with
    |false=>rw[hq]at h4;cases h4
    |true=>
     rw[hq,aJ]at h4;obtain⟨hk,hd⟩:=Dd h4;obtain⟨st,wb,vv,hb,e1,e2,hr⟩:=AN l (i+1) hl' hk;refine fin e2 (hr.cons (w:=ae) (v:=v) (bs:=[]) ho ⟨h1,hd,by rw[e1],by simp,λ _=>?_⟩ (λ m h=>⟨m.2,h,λ _ _ hb=>.inl hb⟩) (λ _ h=>cV _ h) (λ _ h=>h)
      (λ _ _=>⟨cJ,λ m hm hfl=>?_⟩) (λ _ hc'=>by rw[hc]at hc';cases hc') (λ _ hc'=>by rw[hc]at hc';cases hc'))
     .rw[hc];exact⟨h3,by rw[e1]⟩
     .exact RX (oT.1 hq m (qn.2 ⟨hm,Kw hfl⟩))
   .rename_i hc;rcases Ks h2 with⟨v,s1,h3⟩|⟨v,A,hp,hdo,hkd⟩
    .cases h3
    .obtain⟨hk,hd⟩:=Dd hp;obtain⟨st,wb,vv,hb,e1,e2,hr⟩:=AN l (i+1) hl' hk;have hm1:(st (i+1)).m=A:=by rw[e1]
     refine fin e2 (hr.cons (w:=ae) (v:=v) (bs:=[]) ho ⟨h1,hd,by rw[e1],by simp,λ _=>?_⟩ (λ m h=>U5 (w:=ae) rfl hc (by rw[e1]) h) (λ _ h=>h) (λ _ h=>cV _ h)
      (λ _ hc'=>by rw[hc]at hc';cases hc') (λ _ hc'=>by rw[hc]at hc';cases hc') (λ _ _=>cJ))
     rw[hc]at hkd⊢;simp only at hkd⊢;obtain⟨ob,way,k1,k2,k3⟩:=hkd;exact⟨ob,way,k1,by rw[hm1,k2],k3⟩
   .rename_i hc;rcases Ks h2 with⟨v,s1,h3⟩|⟨v,A,hp,hdo,hkd⟩
    .cases h3
    .obtain⟨hk,hd⟩:=Dd hp;obtain⟨st,wb,vv,hb,e1,e2,hr⟩:=AN l (i+1) hl' hk;have hm1:(st (i+1)).m=A:=by rw[e1]
     refine fin e2 (hr.cons (w:=ae) (v:=v) (bs:=[]) ho ⟨h1,hd,by rw[e1],by simp,λ _=>?_⟩ (λ m h=>⟨m.2,h,λ _ _ hb=>.inl hb⟩) (λ _ h=>h) (λ _ h=>h)
      (λ _ hc'=>by rw[hc]at hc';cases hc') (λ _ hc'=>by rw[hc]at hc';cases hc') (λ _ hc'=>by rw[hc]at hc';cases hc'))
     rw[hc]at hkd⊢;simp only at hkd⊢;exact⟨hkd.1,by rw[hm1,hkd.2]⟩
end
section
variable {tb:aN}{ih:aH->St->R (Ex×St)}
structure Stat (tb:aN) (ops:Array Oper) (fl:List (Nat×Nat)) (ah:Nat->Nat->Prop):Prop where
 ap:∀i j oi oj,i<j->ops[i]?=U oi->ops[j]?=U oj->ah i j\/((∀x,oi.dst=U x->oj.dst≠U x)/\(∀x,oi.dst=U x->x∉uU ops.toList oj)/\(∀x,x∈uU ops.toList oi->oj.dst≠U x)/\
  ¬(cls tb oi.op=.L/\cls tb oj.op=.L)/\(cls tb oi.op=.Rd->cls tb oj.op=.L->(i,j)∈fl)/\(cls tb oi.op=.L->cls tb oj.op=.Rd->(j,i)∈fl)/\(cls tb oi.op=.Al->cls tb oj.op=.L->(i,j)∈fl))
 edge:∀i o,ops[i]?=U o->∀k,ah k i->∃e∈o.after,Region.binds .any e=ae/\(k=e.on\/ah k e.on)
 back:∀(i:Nat) (o:Oper),ops[i]?=U o->∀e∈o.after,Region.binds .any e=ae->e.on<i
def qg9{ops:Array Oper}{fl:List (Nat×Nat)}(h:uF tb ops.toList=.ok fl):∃ah,Stat tb ops fl ah:=by
 unfold uF at h;obtain⟨l,h1,h2⟩:=R.aC h;obtain⟨hlen,hinfo⟩:=PC h1;have hpair:=Ry h2;have hops:∀i (o:Oper),ops[i]?=U o->ops.toList[i]?=U o:=λ i o ho=>by rw[gp];exact ho
 refine⟨λ k i=>∃x,l[i]?=U x/\x.m.testBit k=ae,⟨λ i j oi oj hij hi hj=>?_,λ i o ho k hk=>?_,λ i o ho e he hb=>?_⟩⟩
 .obtain⟨x,hx,cx,wx,rx,_⟩:=hinfo i oi (hops _ _ hi);obtain⟨y,hy,cy,wy,ry,_⟩:=hinfo j oj (hops _ _ hj);have ha:=hpair j y hy i x (by omega) hx;rw[ep]at ha;rcases ha with ha|⟨h1,h2,h3,h4,h5,h6,h7⟩
  .exact .inl ⟨y,hy,ha⟩
  .refine .inr ⟨λ z hz hz'=>?_,λ z hz hz'=>?_,λ z hz hz'=>?_,by rw[<-cx,<-cy];exact h4,by rw[<-cx,<-cy];exact h5,by rw[<-cx,<-cy];exact h6,by rw[<-cx,<-cy];exact h7⟩
   .exact J9 h1 z (by rw[wx,hz];simp) (by rw[wy,hz'];simp)
   .exact J9 h2 z (by rw[wx,hz];simp) (by rw[ry];exact hz')
   .exact J9 h3 z (by rw[rx];exact hz) (by rw[wy,hz'];simp)
 .obtain⟨x,hx,hbit⟩:=hk;obtain⟨y,hy,_,_,_,hed⟩:=hinfo i o (hops _ _ ho);rw[hx]at hy;cases hy;obtain⟨e,he,hb,a,hacc,hor⟩:=(I_ hed).2 k hbit;refine⟨e,by simpa using he,hb,?_⟩;rcases hor with rfl|ha
  .exact .inl rfl
  .right;rw[lL,dN]at hacc;cases hq:(l.take i)[e.on]? with
   |none=>rw[hq]at hacc;cases hacc
   |some z=>
    rw[hq]at hacc;simp only[gX,fg]at hacc;rw[pM]at hq;split at hq
    .exact⟨z,hq,by rw[hacc];exact ha⟩
    .cases hq
 .obtain⟨y,hy,_,_,_,hed⟩:=hinfo i o (hops _ _ ho);obtain⟨a,hacc⟩:=(I_ hed).1 e (by simpa using he) hb;rw[lL,dN]at hacc;cases hq:(l.take i)[e.on]? with
  |none=>rw[hq]at hacc;cases hacc
  |some z=>
   rw[pM]at hq;split at hq
   .assumption
   .cases hq
def vi(ah:Nat->Nat->Prop)(S:Nat->Prop):Prop:=∀j k,S j->ah k j->S k
def vi.ready{ops:Array Oper}{fl:List (Nat×Nat)}{ah:Nat->Nat->Prop}(hs:Stat tb ops fl ah){S:Nat->Prop}(hc:vi ah S){o:Oper}(ho:ops[i]?=U o)
 (he:∀e∈o.after,Region.binds .any e=ae->S e.on):∀k,ah k i->S k:=by
 intro k hk;obtain⟨e,hm,hb,hor⟩:=hs.edge i o ho k hk;rcases hor with rfl|h
 .exact he e hm hb
 .exact hc _ _ (he e hm hb) h
def vi.add{ah:Nat->Nat->Prop}{S:Nat->Prop}(hc:vi ah S)(hr:∀k,ah k i->S k):vi ah (λ j=>S j\/j=i):=by
 intro j k hj hk;rcases hj with hj|rfl
 .exact .inl (hc j k hj hk)
 .exact .inl (hr k hk)
def Cut(ops:Array Oper)(S:Nat->Prop)(x c:Nat):Prop:=c<=ops.size/\∀j o,ops[j]?=U o->o.dst=U x->(S j↔j<c)
def kz(tb:aN)(ops:Array Oper)(wb:Nat->Bool)(S:Nat->Prop)(q:Nat):Prop:=q<=ops.size/\∀j o,ops[j]?=U o->wb j=ae->cls tb o.op=.L->(S j↔j<q)
section rows
variable {ops:Array Oper}{fl:List (Nat×Nat)}{st:Nat->St}{wb:Nat->Bool}{vv:Nat->I}{hb:Nat->List Nat}
variable {p:Nat}
def xz(h:p<ops.size):∃o,ops[p]?=U o:=⟨ops[p],by simp[h]⟩
def Row.TY(hr:Row tb ih ops fl 0 st wb vv hb){o:Oper}(ho:ops[p]?=U o)(x:Nat):(st (p+1)).t.get x=if o.dst=U x then U (vv p)else(st p).t.get x:=by
 rw[(hr.step p o (a8 _) ho).to];exact OY _ _ _ _
def Row.Lr(hr:Row tb ih ops fl 0 st wb vv hb)(x c:Nat):∀c',c<=c'->c'<=ops.size->(∀p o,c<=p->p<c'->ops[p]?=U o->o.dst≠U x)->(st c').t.get x=(st c).t.get x:=by
 intro c'
 induction c' with
 |zero=>intro h _ _;rw[show c=0 by omega]
 |succ d ih'=>
  intro h1 h2 h3;by_cases he:c=d+1
  .rw[he]
  .obtain⟨o,ho⟩:=xz (ops:=ops) (p:=d) (by omega);rw[hr.TY ho x,ax (h3 d o (by omega) (by omega) ho),ih' (by omega) (by omega) λ p o hp hp' ho=>h3 p o hp (by omega) ho]
variable {c:Nat}
def Row.Yg(hr:Row tb ih ops fl 0 st wb vv hb){S:Nat->Prop}{x c':Nat}(h:Cut ops S x c)(h':Cut ops S x c'):(st c).t.get x=(st c').t.get x:=by
 have main:∀c c',Cut ops S x c->Cut ops S x c'->c<=c'->(st c).t.get x=(st c').t.get x:=by
  intro c c' h h' hle;refine(hr.Lr x c c' hle h'.1 λ p o hp hp' ho hd=>?_).symm;have a1:=h.2 p o ho hd;have a2:=h'.2 p o ho hd;have:S p:=a2.2 hp';have:=a1.1 this;omega
 rcases Nat.le_total c c' with hle|hle
 .exact main c c' h h' hle
 .exact(main c' c h' h hle).symm
def AB(f:Nat->Option I):Nat->T I
 |0=>.e
 |n+1=>match f n with
  |some v=>(AB f n).set n v
  |none=>AB f n
def OW(f:Nat->Option I)(n x:Nat):(AB f n).get x=if x<n then f x else V:=by
 induction n with
 |zero=>simp[AB,T.pv]
 |succ n ih=>
  unfold AB;cases hf:f n with
  |none=>
   simp only[ih];by_cases h:x<n
   .rw[aA h,aA (by omega)]
   .rw[ax h];by_cases h2:x=n
    .subst h2;simp[hf]
    .rw[ax (by omega)]
  |some v=>
   simp only[T.bR,ih];by_cases h2:x=n
   .subst h2;simp[hf]
   .rw[ax h2];by_cases h:x<n
    .rw[aA h,aA (by omega)]
    .rw[ax h,ax (by omega)]
open Classical in
def snap (ops:Array Oper) (st:Nat->St) (S:Nat->Prop) (n:Nat):T Value:=
 AB (λ x=>if h:∃c,Cut ops S x c then(st h.choose).t.get x else none) n
variable {n:Nat}
def Row.Lg(hr:Row tb ih ops fl 0 st wb vv hb){S:Nat->Prop}{x:Nat}(h:Cut ops S x c)(hn:n<=x->(st c).t.get x=V):(snap ops st S n).get x=(st c).t.get x:=by
 unfold snap;rw[OW];by_cases hx:x<n
 .rw[aA hx,dif_pos ⟨c,h⟩];exact hr.Yg (Exists.choose_spec (p:=λ c=>Cut ops S x c) ⟨c,h⟩) h
 .rw[ax hx,hn (by omega)]
variable {v:I}
def qgX{S:Nat->Prop}{x:Nat}(h:(snap ops st S n).get x=U v):x<n/\∃c,Cut ops S x c/\(st c).t.get x=U v:=by
 unfold snap at h;rw[OW]at h;split at h
 .rename_i hx;split at h
  .rename_i hc;exact⟨hx,hc.choose,hc.choose_spec,h⟩
  .cases h
 .cases h
def GR(ops:Array Oper)(st:Nat->St)(q b:Nat)(o:Ob):Prop:=
 (b<(st q).m.next/\(st q).m.get b=U o)\/∃p,q<=p/\p<ops.size/\(st p).m.next<=b/\b<(st (p+1)).m.next/\(st (p+1)).m.get b=U o
def GL(ops:Array Oper)(st:Nat->St)(q b:Nat):Prop:=∃o,GR ops st q b o/\alive o=ae
def Row.Ay(hr:Row tb ih ops fl 0 st wb vv hb){o:Oper}(ho:ops[p]?=U o)(hn:¬(wb p=ae/\cls tb o.op=.L)):
 (st (p+1)).m=(st p).m\/∃ob,(st (p+1)).m=(st p).m.alloc ob/\wb p=ae/\cls tb o.op=.Al:=by
 have hs:=hr.step p o (a8 _) ho;cases hw:wb p with
 |false=>exact .inl (hs.no hw).2
 |true=>
  have hk:=hs.kind hw;cases hc:cls tb o.op with
  |P=>rw[hc]at hk;exact .inl hk.2
  |Rd=>rw[hc]at hk;exact .inl hk.2
  |Al=>
   rw[hc]at hk;obtain⟨ob,way,_,h2,_⟩:=hk;exact .inr ⟨ob,h2,rfl,rfl⟩
  |L=>exact aU ⟨hw,hc⟩ hn
variable {b:Nat}{ob:Ob}
def Row.UW(hr:Row tb ih ops fl 0 st wb vv hb){o:Oper}(ho:ops[p]?=U o)(hn:¬(wb p=ae/\cls tb o.op=.L))(h:GR ops st (p+1) b ob):GR ops st p b ob:=by
 have hlt:p<ops.size:=(gm.1 ho).1;rcases h with⟨h1,h2⟩|⟨q,h1,h2⟩
 .rcases hr.Ay ho hn with h3|⟨ob',h3,_⟩
  .rw[h3]at h1 h2;exact .inl ⟨h1,h2⟩
  .by_cases hb':b<(st p).m.next
   .rw[h3,ma,ax (by omega)]at h2;exact .inl ⟨hb',h2⟩
   .exact .inr ⟨p,aI _,hlt,by omega,h1,h2⟩
 .exact .inr ⟨q,by omega,h2⟩
def Row.LX(hr:Row tb ih ops fl 0 st wb vv hb){q:Nat}:∀q',q<=q'->q'<=ops.size->(∀p o,q<=p->p<q'->ops[p]?=U o->¬(wb p=ae/\cls tb o.op=.L))->∀{b:Nat} {ob:Ob},GR ops st q' b ob->GR ops st q b ob:=by
 intro q'
 induction q' with
 |zero=>intro h _ _ b ob hg;rw[show q=0 by omega];exact hg
 |succ d ih'=>
  intro h1 h2 h3 b ob hg;by_cases he:q=d+1
  .rw[he];exact hg
  .obtain⟨o,ho⟩:=xz (ops:=ops) (p:=d) (by omega);exact ih' (by omega) (by omega) (λ p o hp hp' ho=>h3 p o hp (by omega) ho) (hr.UW ho (h3 d o (by omega) (by omega) ho) hg)
def Row.Uw(hr:Row tb ih ops fl 0 st wb vv hb){q:Nat}(hw:∀b,(st q).m.next<=b->(st q).m.get b=V):∀q',q<=q'->q'<=ops.size->(∀p o,q<=p->p<q'->ops[p]?=U o->¬(wb p=ae/\cls tb o.op=.L))->
 ∀b,(st q').m.next<=b->(st q').m.get b=V:=by
 intro q'
 induction q' with
 |zero=>intro h _ _;rw[show 0=q by omega];exact hw
 |succ d ih'=>
  intro h1 h2 h3 b hb';by_cases he:q=d+1
  .rw[<-he]at hb'⊢;exact hw b hb'
  .obtain⟨o,ho⟩:=xz (ops:=ops) (p:=d) (by omega);have old:=ih' (by omega) (by omega) (λ p o hp hp' ho=>h3 p o hp (by omega) ho);rcases hr.Ay ho (h3 d o (by omega) (by omega) ho)with h4|⟨ob',h4,_⟩
   .rw[h4]at hb'⊢;exact old b hb'
   .rw[h4,aG]at hb';rw[h4,ma,ax (by omega)];exact old b (by omega)
def Row.OV(hr:Row tb ih ops fl 0 st wb vv hb){q:Nat}:∀q',q<=q'->q'<=ops.size->(∀p o,q<=p->p<q'->ops[p]?=U o->¬(wb p=ae/\cls tb o.op=.L))->
 ∀b,b<(st q).m.next->(st q').m.get b=(st q).m.get b/\(st q).m.next<=(st q').m.next:=by
 intro q'
 induction q' with
 |zero=>intro h _ _ b _;rw[show q=0 by omega];exact⟨rfl,aI _⟩
 |succ d ih'=>
  intro h1 h2 h3 b hb';by_cases he:q=d+1
  .rw[he];exact⟨rfl,aI _⟩
  .obtain⟨o,ho⟩:=xz (ops:=ops) (p:=d) (by omega);have old:=ih' (by omega) (by omega) (λ p o hp hp' ho=>h3 p o hp (by omega) ho) b hb';rcases hr.Ay ho (h3 d o (by omega) (by omega) ho)with h4|⟨ob',h4,_⟩
   .rw[h4];exact old
   .rw[h4,ma,ax (by omega),aG];exact⟨old.1,by omega⟩
end rows
end
section
variable {tb:aN}(ok:dO tb){ih:aH->St->R (Ex×St)}
variable {n:Nat}{t:T I}{dst:Option Tmp}{v v':I}
def TR.put{ι:bj}{a:Act}(h:TR ι n t a.tmps)(hv:VR ι v v')(hd:∀d,dst=U d->d<n):
 TR ι n (q_ t dst v) (a.put dst v').tmps/\(a.put dst v').defers=a.defers:=by
 cases dst with
 |none=>exact⟨h,rfl⟩
 |some d=>exact⟨h.set (hd d rfl) hv,rfl⟩
include ok in
def zp.snd (hcall:rj tb ih) {o:Oper} {t:T I} {A A':Mem} {v:I} (h:zp tb ih o t A v A') {t':T I} {n:Nat} {d:List Nat} {ro:Option Nat} (hx:∀x∈o.op.operands,ev t x=ev t' x)
 (hd:∀d,o.dst=U d->d<n) (ops:Array Oper) (i:Nat):Hw tb.P ops i o ⟨t',n,d,A,ro⟩ ⟨q_ t' o.dst v,n,d,A',ro⟩:=by
 have h1:=h t' n d ro (λ s=>.ok (.nrm,s)) hx;rw[RG hd]at h1;rcases Kt ok hcall (ops:=ops) (i:=i) h1 with⟨v,s1,h3,_⟩|⟨s1,hk,hs⟩
 .cases h3
 .simp only[ay,bH,true_and]at hk;subst hk;exact hs
section rows
variable {ops:Array Oper}{fl:List (Nat×Nat)}{st:Nat->St}{wb:Nat->Bool}{vv:Nat->I}{hb:Nat->List Nat}{ah:Nat->Nat->Prop}
include ok in
def Row.qbQ (hcall:rj tb ih) (hr:Row tb ih ops fl 0 st wb vv hb) {p:Nat} (hp:p<ops.size):(st p).m.next<=(st (p+1)).m.next:=by
 obtain⟨o,ho⟩:=xz (ops:=ops) hp;by_cases hL:wb p=ae/\cls tb o.op=.L
 .have hs:=hr.step p o (a8 _) ho;have hk:=hs.kind hL.1;rw[hL.2]at hk;obtain⟨A1,h1,h2⟩:=hk;have:=(zp.snd ok hcall h1 (t':=(st p).t) (n:=(st p).n) (d:=[]) (ro:=V) (λ _ _=>rfl) hs.dst ops p).1;rw[Ew h2];simpa[CU]using this
 .rcases hr.Ay ho hL with h|⟨ob,h,_⟩
  .rw[h];exact aI _
  .rw[h,aG];omega
include ok in
def Row.qbP (hcall:rj tb ih) (hr:Row tb ih ops fl 0 st wb vv hb) {p:Nat}:∀{q:Nat},p<=q->q<=ops.size->(st p).m.next<=(st q).m.next:=by
 intro q
 induction q with
 |zero=>intro h _;rw[show p=0 by omega];exact aI _
 |succ d ih'=>
  intro h1 h2;by_cases he:p=d+1
  .rw[he];exact aI _
  .exact dm (ih' (by omega) (by omega)) (hr.qbQ ok hcall (by omega))
variable {ob:Ob}
def Row.kept(hr:Row tb ih ops fl 0 st wb vv hb){i:Nat}{oi:Oper}(hi:ops[i]?=U oi)(hw:wb i=ae)(hc:cls tb oi.op=.Al)(hm:(st (i+1)).m=(st i).m.alloc ob)
 (hmono:∀p q,p<=q->q<=ops.size->(st p).m.next<=(st q).m.next):
 ∀q,i+1<=q->q<=ops.size->(∀j oj,i<j->j<q->ops[j]?=U oj->wb j=ae->cls tb oj.op=.L->(i,j)∈fl)->(st q).m.get (st i).m.next=U ob:=by
 intro q
 induction q with
 |zero=>intro h;omega
 |succ d ih'=>
  intro h1 h2 h3;by_cases he:i=d
  .subst he;rw[hm,ma,aA rfl]
  .obtain⟨o,ho⟩:=xz (ops:=ops) (p:=d) (by omega);have old:=ih' (by omega) (by omega) λ j oj hj hj'=>h3 j oj hj (by omega)
   by_cases hL:wb d=ae/\cls tb o.op=.L
   .have hk:=(hr.step d o (a8 _) ho).kind hL.1;rw[hL.2]at hk;obtain⟨A1,_,h5⟩:=hk;have hin:=hr.float i d oi o (a8 _) (by omega) hi ho hw hL.1 hc hL.2 (h3 d o (by omega) (by omega) ho hL.1 hL.2);rw[(Ev h5).2,aA hin,old]
   .rcases hr.Ay ho hL with h|⟨ob',h,_⟩
    .rw[h];exact old
    .rw[h,ma,ax]
     .exact old
     .have:=hmono (i+1) d (by omega) (by omega);rw[hm,aG]at this;omega
variable {k:Nat}
def Row.O1(hr:Row tb ih ops fl 0 st wb vv hb){q:Nat}{x:Nat}{t:au}{c:T I}:∀q',q<=q'->q'<=ops.size->(∀p o,q<=p->p<q'->ops[p]?=U o->¬(wb p=ae/\cls tb o.op=.L))->
 (st q').m.get x=U (.cells t .row (GB k) c)->(st q).m.get x=U (.cells t .row (GB k) c):=by
 intro q'
 induction q' with
 |zero=>intro h _ _;rw[show q=0 by omega];exact id
 |succ d ih'=>
  intro h1 h2 h3 hx;by_cases he:q=d+1
  .rw[he];exact hx
  .obtain⟨o,ho⟩:=xz (ops:=ops) (p:=d) (by omega);refine ih' (by omega) (by omega) (λ p o hp hp' ho=>h3 p o hp (by omega) ho) ?_;rcases hr.Ay ho (h3 d o (by omega) (by omega) ho)with h4|⟨ob',h4,h5,h6⟩
   .rwa[h4]at hx
   .have hk:=(hr.step d o (a8 _) ho).kind h5;rw[h6]at hk;obtain⟨ob,way,k1,k2,_⟩:=hk;rw[k2,ma]at hx;split at hx
    .exact aU (iR hx) (HM k1 t k c)
    .exact hx
structure Inv (tb:aN) (ops:Array Oper) (st:Nat->St) (wb:Nat->Bool) (ah:Nat->Nat->Prop) (b:Frame) (ι0:bj) (w0:aF) (S:Nat->Prop) (ι:bj) (a:Act) (w:aF):Prop where
 cl:vi ah S
 size:a.tmps.size=(st 0).n
 tm:∀x c v,Cut ops S x c->(st c).t.get x=U v->∃v',a.tmps[x]?=U v'/\VR ι v v'
 ro:BN ι (st 0).ro b.roundOf
 dr:DR ι (st 0).d a.defers b.defers
 wf:∀q,kz tb ops wb S q->∀x,(st q).m.next<=x->(st q).m.get x=V
 obs:∀q,kz tb ops wb S q->∀x o l,GR ops st q x o->alive o=ae->ι x=U l->∃o',w.heap[l.blk]?=U o'/\OR ι o l o'
 rng:∀x l,ι x=U l->l.blk<w.heap.size
 inj:∀q,kz tb ops wb S q->∀x y l l',GL ops st q x->GL ops st q y->ι x=U l->ι y=U l'->l.blk=l'.blk->x=y
 free:∀i,i<ops.size->¬S i->∀x,(st i).m.next<=x->x<(st (i+1)).m.next->ι x=V
 out:∀x,x<(st 0).m.next\/(st ops.size).m.next<=x->ι x=ι0 x
 src:∀q,kz tb ops wb S q->∀x l,GL ops st q x->ι x=U l->w0.heap.size<=l.blk\/∃b0 l0,live (st 0).m b0/\ι0 b0=U l0/\l0.blk=l.blk
 fr:∀c,c<w0.heap.size->(∀x l,live (st 0).m x->ι0 x=U l->l.blk≠c)->w.heap[c]?=w0.heap[c]?
 sz:w0.heap.size<=w.heap.size
 os:w.os=w0.os
 tape:w.tape=w0.tape
 output:w.output=w0.output
 kp:∀x l,ι0 x=U l->Still (st 0).m x l->(∀q,kz tb ops wb S q->(st q).m.get x=(st 0).m.get x)/\w.heap[l.blk]?=w0.heap[l.blk]?
 gl:∀q,kz tb ops wb S q->∀x t k c,(st q).m.get x=U (.cells t .row (GB k) c)->∃l,ι x=U l/\l.blk=k/\l.sh=0/\l.sz<=18446744073709551616
structure jW (tb:aN) (ih:aH->St->R (Ex×St)) (ops:Array Oper) (fl:List (Nat×Nat)) (st:Nat->St) (wb:Nat->Bool) (vv:Nat->I) (hb:Nat->List Nat) (ah:Nat->Nat->Prop) (S:Nat->Prop) (i:Nat) (o:Oper):Prop where
 row:Row tb ih ops fl 0 st wb vv hb
 sta:Stat tb ops fl ah
 cl:vi ah S
 ho:ops[i]?=U o
 hn:¬S i
 ready:∀k,ah k i->S k
variable {S:Nat->Prop}{i:Nat}{o:Oper}
def jW.cut(h:jW tb ih ops fl st wb vv hb ah S i o){x:Nat}(hx:x∈uU ops.toList o):Cut ops S x i:=by
 refine⟨BG (gm.1 h.ho).1,λ j oj hj hd=>?_⟩;rcases zC j i with hlt|rfl|hgt
 .refine⟨λ _=>hlt,λ _=>?_⟩;rcases h.sta.ap j i oj o hlt hj h.ho with ha|⟨_,h2,_⟩
  .exact h.ready j ha
  .exact aU hx (h2 x hd)
 .exact⟨λ hs=>aU hs h.hn,λ hl=>by omega⟩
 .refine⟨λ hs=>?_,λ hl=>by omega⟩;rcases h.sta.ap i j o oj hgt h.ho hj with ha|⟨_,_,h3,_⟩
  .exact aU (h.cl j i hs ha) h.hn
  .exact aU hd (h3 x hx)
variable {c:Nat}
def jW.tm(h:jW tb ih ops fl st wb vv hb ah S i o){x:Nat}(hn:∀x c,Cut ops S x c->n<=x->(st c).t.get x=V)(hc:Cut ops (λ j=>S j\/j=i) x c):
 (q_ (snap ops st S n) o.dst (vv i)).get x=(st c).t.get x:=by
 rw[OY];by_cases hd:o.dst=U x
 .rw[aA hd];have hic:i<c:=(hc.2 i o h.ho hd).1 (.inr rfl);rw[h.row.Lr x (i+1) c (by omega) hc.1,h.row.TY h.ho,aA hd];intro p op hp hp' hop hdp;have hS:=(hc.2 p op hop hdp).2 hp';rcases hS with hS|rfl
  .rcases h.sta.ap i p o op (by omega) h.ho hop with ha|⟨h1,_⟩
   .exact h.hn (h.cl p i hS ha)
   .exact h1 x hd hdp
  .omega
 .rw[ax hd];have hc':Cut ops S x c:=⟨hc.1,λ j oj hj hdj=>by
   rw[<-hc.2 j oj hj hdj];have:j≠i:=by rintro rfl;rw[h.ho]at hj;cases hj;exact hd hdj
   simp[this]⟩
  exact h.row.Lg hc' (hn x c hc')
def jW.fk(h:jW tb ih ops fl st wb vv hb ah S i o)(hn:∀x c,Cut ops S x c->n<=x->(st c).t.get x=V):∀y∈o.op.operands,ev (st i).t y=ev (snap ops st S n) y:=by
 intro y hy;cases y with
 |tmp x=>
  have hx:x∈uU ops.toList o:=by
   unfold uU;exact Hm _ (BD.2 ⟨.tmp x,by simpa using hy,by simp[RR]⟩)
  have hc:=h.cut hx;simp only[ev,h.row.Lg hc (hn x i hc)]
 |_=>rfl
def jW.want(h:jW tb ih ops fl st wb vv hb ah S i o)(hn:∀x c,Cut ops S x c->n<=x->(st c).t.get x=V):iM ops.toList o (snap ops st S n)=.ok (wb i):=by
 have hw:=(h.row.step i o (a8 _) h.ho).want;rw[<-hw];unfold iM;cases hg:o.guard with
 |none=>rfl
 |some g=>
  obtain⟨j,want⟩:=g;simp only
  cases hj:ops.toList[j]? with
  |none=>rfl
  |some oj=>
   simp only
   cases hd:oj.dst with
   |none=>rfl
   |some d=>
    have hx:d∈uU ops.toList o:=by
     unfold uU;refine xS _ ?_;rw[hg];simp only[hj,hd];simp
    have hc:=h.cut hx;simp only[h.row.Lg hc (hn d i hc)]
def jW.Qf(h:jW tb ih ops fl st wb vv hb ah S i o)(hL:cls tb o.op=.L):kz tb ops wb S i:=by
 refine⟨BG (gm.1 h.ho).1,λ j oj hj hw hc=>?_⟩;rcases zC j i with hlt|rfl|hgt
 .refine⟨λ _=>hlt,λ _=>?_⟩;rcases h.sta.ap j i oj o hlt hj h.ho with ha|⟨_,_,_,h4,_⟩
  .exact h.ready j ha
  .exact aU ⟨hc,hL⟩ h4
 .exact⟨λ hs=>aU hs h.hn,λ hl=>by omega⟩
 .refine⟨λ hs=>?_,λ hl=>by omega⟩;rcases h.sta.ap i j o oj hgt h.ho hj with ha|⟨_,_,_,h4,_⟩
  .exact aU (h.cl j i hs ha) h.hn
  .exact aU ⟨hL,hc⟩ h4
def kz.same{q:Nat}(hq:kz tb ops wb (λ j=>S j\/j=i) q)(ho:ops[i]?=U o)(hn:¬(wb i=ae/\cls tb o.op=.L)):kz tb ops wb S q:=
 ⟨hq.1,λ j oj hj hw hc=>by
  rw[<-hq.2 j oj hj hw hc];have:j≠i:=by rintro rfl;rw[ho]at hj;cases hj;exact hn ⟨hw,hc⟩
  simp[this]⟩
section step
variable {b:Frame}{ι0 ι:bj}{w0 w:aF}{a:Act}
def Inv.Kg(hI:Inv tb ops st wb ah b ι0 w0 S ι a w):∀x c,Cut ops S x c->(st 0).n<=x->(st c).t.get x=V:=by
 intro x c hc hx;cases hg:(st c).t.get x with
 |none=>rfl
 |some v=>
  obtain⟨v',e,_⟩:=hI.tm x c v hc hg;have:=(gm.1 e).1;rw[hI.size]at this;omega
def Inv.tr(hI:Inv tb ops st wb ah b ι0 w0 S ι a w):TR ι (st 0).n (snap ops st S (st 0).n) a.tmps:=by
 refine⟨hI.size,λ x v hv=>?_⟩;obtain⟨_,c,hc,hg⟩:=qgX hv;exact hI.tm x c v hc hg
def Row.Qp(hr:Row tb ih ops fl 0 st wb vv hb):∀p,p<=ops.size->(st p).n=(st 0).n/\(st p).d=(st 0).d/\(st p).ro=(st 0).ro:=by
 intro p
 induction p with
 |zero=>intro _;exact⟨rfl,rfl,rfl⟩
 |succ p ih'=>
  intro hp;obtain⟨o,ho⟩:=xz (ops:=ops) (p:=p) (by omega);rw[(hr.step p o (a8 _) ho).to];exact ih' (by omega)
variable {ι':bj}
def jW.Lv(h:jW tb ih ops fl st wb vv hb ah S i o)(hI:Inv tb ops st wb ah b ι0 w0 S ι a w){a':Act}(ht:TR ι' (st 0).n (q_ (snap ops st S (st 0).n) o.dst (vv i)) a'.tmps):
 ∀x c v,Cut ops (λ j=>S j\/j=i) x c->(st c).t.get x=U v->∃v',a'.tmps[x]?=U v'/\VR ι' v v':=by
 intro x c v hc hg;refine ht.2 x v ?_;rw[h.tm hI.Kg hc];exact hg
def jW.I9(h:jW tb ih ops fl st wb vv hb ah S i o):∀d,o.dst=U d->d<(st 0).n:=by
 intro d hd;have:=(h.row.step i o (a8 _) h.ho).dst d hd;rwa[(h.row.Qp i (BG (gm.1 h.ho).1)).1]at this
def Inv.quiet(hI:Inv tb ops st wb ah b ι0 w0 S ι a w)(h:jW tb ih ops fl st wb vv hb ah S i o)(hL:¬(wb i=ae/\cls tb o.op=.L))(hv:VR ι (vv i) v'):
 Inv tb ops st wb ah b ι0 w0 (λ j=>S j\/j=i) ι (a.put o.dst v') w:=by
 obtain⟨ht,hd⟩:=hI.tr.put hv h.I9;exact {hI with
  cl:=hI.cl.add h.ready
  size:=ht.1
  tm:=h.Lv hI ht
  dr:=by rw[hd];exact hI.dr
  wf:=λ q hq=>hI.wf q (hq.same h.ho hL)
  obs:=λ q hq=>hI.obs q (hq.same h.ho hL)
  inj:=λ q hq=>hI.inj q (hq.same h.ho hL)
  src:=λ q hq=>hI.src q (hq.same h.ho hL)
  free:=λ j hj hn=>hI.free j hj λ hs=>hn (.inl hs)
  kp:=λ x l hl hs=>⟨λ q hq=>(hI.kp x l hl hs).1 q (hq.same h.ho hL),(hI.kp x l hl hs).2⟩
  gl:=λ q hq=>hI.gl q (hq.same h.ho hL)}
def Inv.rel(hI:Inv tb ops st wb ah b ι0 w0 S ι a w){q:Nat}(hq:kz tb ops wb S q):Rel ι (st q).m w:=by
 have hg:∀x o,(st q).m.get x=U o->GR ops st q x o:=by
  intro x o hx;refine .inl ⟨?_,hx⟩;rcases ec x (st q).m.next with h|h
  .exact h
  .rw[hI.wf q hq x h]at hx;cases hx
 exact⟨hI.wf q hq,λ x o l hx ha hl=>hI.obs q hq x o l (hg x o hx) ha hl,hI.rng,λ x y l l' ⟨o,h1,h2⟩ ⟨o',h3,h4⟩=>hI.inj q hq x y l l' ⟨o,hg _ _ h1,h2⟩ ⟨o',hg _ _ h3,h4⟩,hI.gl q hq⟩
variable {A:Mem}
def Inv.qcP(hI:Inv tb ops st wb ah b ι0 w0 S ι a w)(hr:Row tb ih ops fl 0 st wb vv hb)(hmono:∀p q,p<=q->q<=ops.size->(st p).m.next<=(st q).m.next){q i:Nat}(hq:kz tb ops wb S q)(hX:Xt tb ops st wb (st q).m q i A):
 Rel ι ⟨A.heap,(st ops.size).m.next⟩ w:=by
 have hg:∀x o,A.get x=U o->GR ops st q x o/\((st q).m.get x=U o\/∀t k c,o≠.cells t .row (GB k) c)/\x<(st ops.size).m.next:=by
  intro x o hx;rcases hX x o hx with h|⟨p,o',h1,h2,h3,h4,h5,h6,h7⟩
  .have hlt:x<(st q).m.next:=by
    rcases ec x (st q).m.next with h'|h'
    .exact h'
    .rw[hI.wf q hq x h']at h;cases h
   exact⟨.inl ⟨hlt,h⟩,.inl h,c9 hlt (hmono q _ hq.1 (aI _))⟩
  .have hp:p<ops.size:=(gm.1 h3).1;have hk:=(hr.step p o' (a8 _) h3).kind h4;rw[h5]at hk;obtain⟨ob,way,k1,k2,-⟩:=hk;have hnx:x<(st (p+1)).m.next:=by rw[k2,aG,h6];exact ua _
   have ho:o=ob:=by rw[k2,ma,aA h6]at h7;exact(iR h7).symm
   subst ho;exact⟨.inr ⟨p,h1,hp,Nat.le_of_eq h6.symm,hnx,h7⟩,.inr (HM k1),c9 hnx (hmono (p+1) _ hp (aI _))⟩
 refine⟨λ x hx=>?_,λ x o l hx ha hl=>hI.obs q hq x o l (hg x o hx).1 ha hl,hI.rng,λ x y l l' ⟨o,h1,h2⟩ ⟨o',h3,h4⟩=>hI.inj q hq x y l l' ⟨o,(hg _ _ h1).1,h2⟩ ⟨o',(hg _ _ h3).1,h4⟩,λ x t k c hx=>?_⟩
 .cases hy:A.get x with
  |none=>exact hy
  |some o=>exact aU (hg x o hy).2.2 (Nat.not_lt.2 hx)
 .rcases(hg x _ hx).2.1 with h|h
  .exact hI.gl q hq x t k c h
  .exact aU rfl (h t k c)
end step
end rows
end
section
variable {tb:aN}(ok:dO tb){ih:aH->St->R (Ex×St)}
section rows
variable {ops:Array Oper}{fl:List (Nat×Nat)}{st:Nat->St}{wb:Nat->Bool}{vv:Nat->I}{hb:Nat->List Nat}{ah:Nat->Nat->Prop}
variable {S:Nat->Prop}{i:Nat}{o:Oper}{b:Frame}{ι0 ι:bj}{w0 w:aF}{a:Act}
variable {ob:Ob}{ι':bj}{w':aF}{v':I}
def Inv.qbn(hI:Inv tb ops st wb ah b ι0 w0 S ι a w)(h:jW tb ih ops fl st wb vv hb ah S i o)(hw:wb i=ae)(hc:cls tb o.op=.Al)(hmono:∀p q,p<=q->q<=ops.size->(st p).m.next<=(st q).m.next)
 (hm:(st (i+1)).m=(st i).m.alloc ob)(hv:VR ι' (vv i) v')
 (hrel:Rel ι' ((⟨.e,(st i).m.next⟩:Mem).alloc ob) w')(hst:bY ι ⟨.e,(st i).m.next⟩ w ι' ((⟨.e,(st i).m.next⟩:Mem).alloc ob) w'):
 Inv tb ops st wb ah b ι0 w0 (λ j=>S j\/j=i) ι' (a.put o.dst v') w':=by
 have hL:¬(wb i=ae/\cls tb o.op=.L):=λ hx=>by rw[hc]at hx;cases hx.2
 have hlt:i<ops.size:=(gm.1 h.ho).1;have hnx:(st (i+1)).m.next=(st i).m.next+1:=by rw[hm,aG]
 have hN:ι (st i).m.next=V:=hI.free i hlt h.hn _ (aI _) (by omega)
 have hle:gW ι ι':=hst.le (λ x hx1 hx2=>by
  rw[aG]at hx2;simp only at hx1 hx2;have:x=(st i).m.next:=by omega
  rw[this];exact hN)
 have hout:∀x,x≠(st i).m.next->ι' x=ι x:=λ x hx=>hst.out x (by rw[aG];simp only;omega)
 have hnolive:∀x,¬live (⟨.e,(st i).m.next⟩:Mem) x:=by
  rintro x ⟨o',hx,_⟩;cases hx
 have hfr:∀c,c<w.heap.size->w'.heap[c]?=w.heap[c]?:=λ c hc=>hst.fr c hc λ x l hx _=>aU hx (hnolive x)
 have hnew:∀l,ι' (st i).m.next=U l->alive ob=ae->w.heap.size<=l.blk:=by
  intro l hl hal;rcases hst.src _ l ⟨ob,by rw[ma,aA rfl],hal⟩ hl with h1|⟨b0,_,h1,_⟩
  .exact h1
  .exact aU h1 (hnolive b0)
 have hthe:∀q,kz tb ops wb S q->∀o',GR ops st q (st i).m.next o'->o'=ob:=by
  intro q hq o' hg;rcases hg with⟨h1,h2⟩|⟨p,h1,h2,h3,h4,h5⟩
  .have hiq:i<q:=by
    rcases ec i q with h6|h6
    .exact h6
    .have:=hmono q i h6 (by omega);omega
   have:=h.row.kept h.ho hw hc hm hmono q (by omega) hq.1 (λ j oj hj hj' hoj hwj hcj=>by
    have hS:=(hq.2 j oj hoj hwj hcj).2 hj';rcases h.sta.ap i j o oj hj h.ho hoj with ha|⟨_,_,_,_,_,_,h7⟩
    .exact aU (h.cl j i hS ha) h.hn
    .exact h7 hc hcj)
   rw[this]at h2;exact(iR h2).symm
  .have hpi:p=i:=by
    rcases zC p i with h6|h6|h6
    .have:=hmono (p+1) i (by omega) (by omega);omega
    .exact h6
    .have:=hmono (i+1) p (by omega) (by omega);omega
   subst hpi;rw[hm,ma,aA rfl]at h5;exact(iR h5).symm
 obtain⟨ht,hd⟩:=TR.put (a:=a) (hI.tr.mono hle) hv h.I9;refine⟨hI.cl.add h.ready,ht.1,h.Lv hI ht,hI.ro.mono hle,by rw[hd];exact hI.dr.mono hle,λ q hq=>hI.wf q (hq.same h.ho hL),λ q hq x o' l hg hal hl=>?_,hrel.rng,λ q hq x y l l' hx hy hlx hly he=>?_,
  λ j hj hn x hx1 hx2=>?_,λ x hx=>?_,λ q hq x l hx hl=>?_,λ c hc hn=>?_,dm hI.sz hst.size,hst.os.trans hI.os,hst.tape.trans hI.tape,hst.output.trans hI.output,λ x l hl hs=>⟨λ q hq=>(hI.kp x l hl hs).1 q (hq.same h.ho hL),(hfr _ (hI.rng x l (by rw[hI.out x (.inl hs.1)];exact hl))).trans (hI.kp x l hl hs).2⟩,
  λ q hq x t k c hx=>by obtain⟨l,e,r⟩:=hI.gl q (hq.same h.ho hL) x t k c hx;exact⟨l,hle x l e,r⟩⟩
 .have hq':=hq.same h.ho hL;by_cases hx:x=(st i).m.next
  .subst hx;have:=hthe q hq' o' hg;subst this;exact hrel.obs _ o' l (by rw[ma,aA rfl]) hal hl
  .rw[hout x hx]at hl;obtain⟨o2,h1,h2⟩:=hI.obs q hq' x o' l hg hal hl;exact⟨o2,by rw[hfr _ (hI.rng x l hl)];exact h1,h2.mono hle⟩
 .have hq':=hq.same h.ho hL;have hnew':∀{x l},x=(st i).m.next->GL ops st q x->ι' x=U l->w.heap.size<=l.blk:=by
   rintro x l rfl ⟨o',hg,hal⟩ hl;have:=hthe q hq' o' hg;subst this;exact hnew l hl hal
  by_cases ex:x=(st i).m.next
  .by_cases ey:y=(st i).m.next
   .omega
   .have h1:=hnew' ex hx hlx;rw[hout y ey]at hly;have:=hI.rng y l' hly;omega
  .by_cases ey:y=(st i).m.next
   .have h1:=hnew' ey hy hly;rw[hout x ex]at hlx;have:=hI.rng x l hlx;omega
   .rw[hout x ex]at hlx;rw[hout y ey]at hly;exact hI.inj q hq' x y l l' hx hy hlx hly he
 .have hji:j≠i:=λ e=>hn (.inr e)
  have hSj:¬S j:=λ e=>hn (.inl e)
  have hne:x≠(st i).m.next:=by
   rintro rfl;rcases Nat.lt_or_gt_of_ne hji with h6|h6
   .have:=hmono (j+1) i (by omega) (by omega);omega
   .have:=hmono (i+1) j (by omega) (by omega);omega
  rw[hout x hne];exact hI.free j hj hSj x hx1 hx2
 .have h1:=hmono 0 i (by omega) (by omega);have h2:=hmono (i+1) ops.size (by omega) (aI _);rw[hout x (by omega)];exact hI.out x hx
 .have hq':=hq.same h.ho hL;by_cases ex:x=(st i).m.next
  .obtain⟨o',hg,hal⟩:=hx;subst ex;have:=hthe q hq' o' hg;subst this;exact .inl (dm hI.sz (hnew l hl hal))
  .rw[hout x ex]at hl;exact hI.src q hq' x l hx hl
 .rw[hfr c (c9 hc hI.sz)];exact hI.fr c hc hn
def Inv.X0(hI:Inv tb ops st wb ah b ι0 w0 S ι a w)(h:jW tb ih ops fl st wb vv hb ah S i o)(hw:wb i=ae)(hc:cls tb o.op=.L)(hmono:∀p q,p<=q->q<=ops.size->(st p).m.next<=(st q).m.next)
 {A1:Mem}(hback:ji (st i).m.get (hb i) A1=.ok (st (i+1)).m){a':Act}
 (hs:SR ι' ⟨q_ (snap ops st S (st 0).n) o.dst (vv i),(st 0).n,(st 0).d,A1,(st 0).ro⟩ b a' w')(hst:bY ι (iq (hb i) (st i).m) w ι' A1 w'):
 Inv tb ops st wb ah b ι0 w0 (λ j=>S j\/j=i) ι' a' w':=by
 have hlt:i<ops.size:=(gm.1 h.ho).1;have hmi:=h.Qf hc;have hnx1:A1.next=(st (i+1)).m.next:=(Ew hback).symm
 have hnx0:(iq (hb i) (st i).m).next=(st i).m.next:=CU _ _
 obtain⟨hsome,hget⟩:=Ev hback;have hin:∀x,x∈hb i->x<(st i).m.next:=by
  intro x hx;obtain⟨o',ho'⟩:=hsome x hx;rcases ec x (st i).m.next with h1|h1
  .exact h1
  .rw[hI.wf i hmi x h1]at ho';cases ho'
 have hle:gW ι ι':=hst.le (λ x hx1 hx2=>by
  rw[hnx0]at hx1;rw[hnx1]at hx2;exact hI.free i hlt h.hn x hx1 hx2)
 have hout:∀x,x<(st i).m.next\/(st (i+1)).m.next<=x->ι' x=ι x:=λ x hx=>hst.out x (by rw[hnx0,hnx1];exact hx)
 have hliveA:∀x,live (iq (hb i) (st i).m) x->x∉hb i/\GL ops st i x/\x<(st i).m.next:=by
  rintro x ⟨o',hx,hal⟩;rw[yP]at hx;split at hx
  .cases hx;cases hal
  .rename_i hnot;have hxl:x<(st i).m.next:=by
    rcases ec x (st i).m.next with h1|h1
    .exact h1
    .rw[hI.wf i hmi x h1]at hx;cases hx
   exact⟨hnot,⟨o',.inl ⟨hxl,hx⟩,hal⟩,hxl⟩
 have hold:∀x l,GL ops st i x->¬live (iq (hb i) (st i).m) x->ι x=U l->w'.heap[l.blk]?=w.heap[l.blk]?:=by
  intro x l hg hnl hl;refine hst.fr _ (hI.rng x l hl) λ y ly hy hly he=>?_
  have:=hI.inj i hmi y x ly l (hliveA y hy).2.1 hg hly hl he;exact hnl (this▸hy)
 have hroute:∀x o',GR ops st (i+1) x o'->(A1.get x=U o')\/(GR ops st i x o'/\¬live (iq (hb i) (st i).m) x/\ι' x=ι x):=by
  intro x o' hg;rcases hg with⟨h1,h2⟩|⟨p,h1,h2,h3,h4,h5⟩
  .rw[hget]at h2;by_cases hx:x∈hb i
   .rw[aA hx]at h2;exact .inr ⟨.inl ⟨hin x hx,h2⟩,λ hl=>(hliveA x hl).1 hx,hout x (.inl (hin x hx))⟩
   .rw[ax hx]at h2;exact .inl h2
  .have hge:(st (i+1)).m.next<=x:=dm (hmono (i+1) p h1 (by omega)) h3
   have hge0:=hmono i (i+1) (by omega) (by omega);exact .inr ⟨.inr ⟨p,by omega,h2,h3,h4,h5⟩,λ hl=>by have:=(hliveA x hl).2.2;omega,hout x (.inr hge)⟩
 have hq0:∀q,kz tb ops wb (λ j=>S j\/j=i) q->i+1<=q/\∀p op,i+1<=p->p<q->ops[p]?=U op->¬(wb p=ae/\cls tb op.op=.L):=by
  intro q hq;refine⟨(hq.2 i o h.ho hw hc).1 (.inr rfl),λ p op hp hp' hop hx=>?_⟩;rcases(hq.2 p op hop hx.1 hx.2).2 hp' with hS|rfl
  .have:=(hmi.2 p op hop hx.1 hx.2).1 hS;omega
  .omega
 have hwf1:∀x,(st (i+1)).m.next<=x->(st (i+1)).m.get x=V:=by
  intro x hx;rw[hget];have:=hmono i (i+1) (by omega) (by omega);rw[ax (λ hx'=>by have:=hin x hx';omega)];exact hs.rel.wf x (by simp only;omega)
 have hobs1:∀x o' l,GR ops st (i+1) x o'->alive o'=ae->ι' x=U l->∃o2,w'.heap[l.blk]?=U o2/\OR ι' o' l o2:=by
  intro x o' l hg hal hl;rcases hroute x o' hg with h1|⟨h1,h2,h3⟩
  .exact hs.rel.obs x o' l h1 hal hl
  .rw[h3]at hl;obtain⟨o2,e,r⟩:=hI.obs i hmi x o' l h1 hal hl;exact⟨o2,by rw[hold x l ⟨o',h1,hal⟩ h2 hl];exact e,r.mono hle⟩
 have hmix:∀x y l l',live A1 x->GL ops st i y->¬live (iq (hb i) (st i).m) y->ι' x=U l->ι y=U l'->l.blk≠l'.blk:=by
  intro x y l l' hx hy hny hlx hly he;rcases hst.src x l hx hlx with h1|⟨b0,l0,h1,h2,h3⟩
  .have:=hI.rng y l' hly;omega
  .have:=hI.inj i hmi b0 y l0 l' (hliveA b0 h1).2.1 hy h2 hly (by omega);exact hny (this▸h1)
 have hinj1:∀x y l l',GL ops st (i+1) x->GL ops st (i+1) y->ι' x=U l->ι' y=U l'->l.blk=l'.blk->x=y:=by
  rintro x y l l' ⟨ox,hx,hax⟩ ⟨oy,hy,hay⟩ hlx hly he;rcases hroute x ox hx with h1|⟨h1,h2,h3⟩
  .rcases hroute y oy hy with k1|⟨k1,k2,k3⟩
   .exact hs.rel.inj x y l l' ⟨ox,h1,hax⟩ ⟨oy,k1,hay⟩ hlx hly he
   .rw[k3]at hly;exact aU he (hmix x y l l' ⟨ox,h1,hax⟩ ⟨oy,k1,hay⟩ k2 hlx hly)
  .rw[h3]at hlx;rcases hroute y oy hy with k1|⟨k1,k2,k3⟩
   .exact aU he.symm (hmix y x l' l ⟨oy,k1,hay⟩ ⟨ox,h1,hax⟩ h2 hly hlx)
   .rw[k3]at hly;exact hI.inj i hmi x y l l' ⟨ox,h1,hax⟩ ⟨oy,k1,hay⟩ hlx hly he
 have hGL:∀q,kz tb ops wb (λ j=>S j\/j=i) q->∀x o',GR ops st q x o'->GR ops st (i+1) x o':=λ q hq x o' hg=>h.row.LX q (hq0 q hq).1 hq.1 (hq0 q hq).2 hg
 refine⟨hI.cl.add h.ready,hs.tr.1,h.Lv hI hs.tr,hs.ro,hs.dr,λ q hq=>h.row.Uw hwf1 q (hq0 q hq).1 hq.1 (hq0 q hq).2,λ q hq x o' l hg hal hl=>hobs1 x o' l (hGL q hq x o' hg) hal hl,hs.rel.rng,
  λ q hq x y l l' ⟨ox,hx,hax⟩ ⟨oy,hy,hay⟩ hlx hly he=>hinj1 x y l l' ⟨ox,hGL q hq x ox hx,hax⟩ ⟨oy,hGL q hq y oy hy,hay⟩ hlx hly he,
  λ j hj hn x hx1 hx2=>?_,λ x hx=>?_,λ q hq x l ⟨ox,hx,hax⟩ hl=>?_,λ c hc hn=>?_,dm hI.sz hst.size,hst.os.trans hI.os,hst.tape.trans hI.tape,hst.output.trans hI.output,λ x l hl hs=>?_,λ q hq x t k c hx=>?_⟩
 .have hji:j≠i:=λ e=>hn (.inr e)
  have hSj:¬S j:=λ e=>hn (.inl e)
  rw[hout x]
  .exact hI.free j hj hSj x hx1 hx2
  .rcases Nat.lt_or_gt_of_ne hji with h6|h6
   .have:=hmono (j+1) i (by omega) (by omega);left;omega
   .have:=hmono (i+1) j (by omega) (by omega);right;omega
 .have h1:=hmono 0 i (by omega) (by omega);have h2:=hmono (i+1) ops.size (by omega) (aI _);rw[hout x (by omega)];exact hI.out x hx
 .rcases hroute x ox (hGL q hq x ox hx)with h1|⟨h1,h2,h3⟩
  .rcases hst.src x l ⟨ox,h1,hax⟩ hl with k1|⟨b0,l0,k1,k2,k3⟩
   .exact .inl (dm hI.sz k1)
   .rcases hI.src i hmi b0 l0 (hliveA b0 k1).2.1 k2 with m1|⟨b1,l1,m1,m2,m3⟩
    .left;omega
    .exact .inr ⟨b1,l1,m1,m2,by omega⟩
  .rw[h3]at hl;exact hI.src i hmi x l ⟨ox,h1,hax⟩ hl
 .rw[hst.fr c (c9 hc hI.sz)]
  .exact hI.fr c hc hn
  .intro x l hx hl he;rcases hI.src i hmi x l (hliveA x hx).2.1 hl with m1|⟨b1,l1,m1,m2,m3⟩
   .omega
   .exact hn b1 l1 m1 m2 (by omega)
 .have hlx:ι x=U l:=by rw[hI.out x (.inl hs.1)];exact hl
  obtain⟨k1,k2⟩:=hI.kp x l hl hs;have k3:=k1 i hmi;have hlt0:x<(st i).m.next:=c9 hs.1 (hmono 0 i (by omega) (by omega))
  obtain⟨_,ty,fz,c,hx2,hx3⟩:=hs;have key:(st (i+1)).m.get x=(st 0).m.get x/\w'.heap[l.blk]?=w.heap[l.blk]?:=by
   by_cases hx:x∈hb i
   .refine⟨by rw[hget,aA hx,k3],hold x l ⟨_,.inl ⟨hlt0,k3.trans hx2⟩,rfl⟩ (λ hl=>(hliveA x hl).1 hx) hlx⟩
   .have hh:(iq (hb i) (st i).m).get x=(st 0).m.get x:=by rw[yP,ax hx,k3]
    obtain⟨e1,e2⟩:=hst.kept x l hlx ⟨by rw[hnx0];exact hlt0,ty,fz,c,hh.trans hx2,hx3⟩;exact⟨by rw[hget,ax hx,e1,hh],e2⟩
  refine⟨λ q hq=>?_,key.2.trans k2⟩;rw[(h.row.OV q (hq0 q hq).1 hq.1 (hq0 q hq).2 x (by have:=hmono i (i+1) (by omega) (by omega);omega)).1,key.1]
 .have hx:=h.row.O1 q (hq0 q hq).1 hq.1 (hq0 q hq).2 hx;rw[hget]at hx;split at hx
  .obtain⟨l,e,r⟩:=hI.gl i hmi x t k c hx;exact⟨l,hle x l e,r⟩
  .exact hs.rel.gl x t k c hx
def YJ{p:Nat->Prop}{i:Nat}:∀n,(∃j,i<j/\j<n/\p j)->∃j,i<j/\j<n/\p j/\∀k,j<k->k<n->¬p k:=by
 intro n
 induction n with
 |zero=>rintro⟨j,_,h,_⟩;omega
 |succ n ih=>
  rintro⟨j,h1,h2,h3⟩;by_cases hn:i<n/\p n
  .exact⟨n,hn.1,by omega,hn.2,λ k hk hk'=>by omega⟩
  .have hjn:j≠n:=by rintro rfl;exact hn ⟨h1,h3⟩
   obtain⟨k,k1,k2,k3,k4⟩:=ih ⟨j,h1,by omega,h3⟩;refine⟨k,k1,by omega,k3,λ m hm hm' hp=>?_⟩;by_cases hmn:m=n
   .subst hmn;exact hn ⟨by omega,hp⟩
   .exact k4 m hm (by omega) hp
variable {n:Nat}
def YI{p:Nat->Prop}(h:∃j,j<n/\p j):∃j,j<n/\p j/\∀k,k<j->¬p k:=by
 obtain⟨j,h1,h2⟩:=h
 induction j using xW with
 |ind j ih=>
  by_cases he:∃k,k<j/\p k
  .obtain⟨k,k1,k2⟩:=he;exact ih k k1 (by omega) k2
  .exact⟨j,h1,h2,λ k hk hp=>he ⟨k,hk,hp⟩⟩
variable {j k:Nat}
def Stat.NM(hst:Stat tb ops fl ah)(hcl:vi ah S){oj ok':Oper}(hj:ops[j]?=U oj)(hk:ops[k]?=U ok')(hjk:j<k)(cj:cls tb oj.op=.L)(ck:cls tb ok'.op=.L)(hS:S k):S j:=by
 rcases hst.ap j k oj ok' hjk hj hk with ha|⟨_,_,_,h4,_⟩
 .exact hcl k j hS ha
 .exact aU ⟨cj,ck⟩ h4
def jW.reader(h:jW tb ih ops fl st wb vv hb ah S i o)(hw:wb i=ae)(hc:cls tb o.op=.Rd):∃q A,kz tb ops wb S q/\Xt tb ops st wb (st q).m q i A/\eR tb (st i).t A.get o.op=.ok (vv i):=by
 have hlt:i<ops.size:=(gm.1 h.ho).1;by_cases hB:∃j,i<j/\j<ops.size/\(S j/\wb j=ae/\∃oj,ops[j]?=U oj/\cls tb oj.op=.L)
 .obtain⟨j,hj1,hj2,⟨hSj,hwj,oj,hoj,hcj⟩,hlast⟩:=YJ ops.size hB;refine⟨j+1,_,⟨by omega,λ k o' hk hwk hck=>⟨λ hS=>?_,λ hle=>?_⟩⟩,.self,?_⟩
  .rcases ec k (j+1)with h1|h1
   .exact h1
   .exact aU ⟨hS,hwk,o',hk,hck⟩ (hlast k (by omega) (gm.1 hk).1)
  .rcases ec k j with h1|h1
   .exact h.sta.NM h.cl hk hoj h1 hck hcj hSj
   .rw[show k=j by omega];exact hSj
  .refine h.row.late i j o oj (a8 _) hj1 h.ho hoj hw hwj hc hcj ?_;rcases h.sta.ap i j o oj hj1 h.ho hoj with ha|⟨_,_,_,_,h5,_⟩
   .exact aU (h.cl j i hSj ha) h.hn
   .exact h5 hc hcj
 .by_cases hA:∃j,j<i/\(¬S j/\wb j=ae/\∃oj,ops[j]?=U oj/\cls tb oj.op=.L)
  .obtain⟨j,hj1,⟨hSj,hwj,oj,hoj,hcj⟩,hfirst⟩:=YI hA;have hE:=h.row.early j i oj o (a8 _) hj1 hoj h.ho hwj hw hcj hc (by
    rcases h.sta.ap j i oj o hj1 hoj h.ho with ha|⟨_,_,_,_,_,h6,_⟩
    .exact aU (h.ready j ha) hSj
    .exact h6 hcj hc)
   obtain⟨A,hA,hrd⟩:=hE;refine⟨j,A,⟨by omega,λ k o' hk hwk hck=>⟨λ hS=>?_,λ hl=>?_⟩⟩,hA,hrd⟩
   .rcases zC k j with h1|rfl|h1
    .exact h1
    .exact aU hS hSj
    .exact aU (h.sta.NM h.cl hoj hk h1 hcj hck hS) hSj
   .exact xL λ hS=>hfirst k hl ⟨hS,hwk,o',hk,hck⟩
  .refine⟨i,_,⟨by omega,λ k o' hk hwk hck=>⟨λ hS=>?_,λ hl=>?_⟩⟩,.self,?_⟩
   .rcases zC k i with h1|rfl|h1
    .exact h1
    .exact aU hS h.hn
    .exact aU ⟨k,h1,(gm.1 hk).1,hS,hwk,o',hk,hck⟩ hB
   .exact xL λ hS=>hA ⟨k,hl,hS,hwk,o',hk,hck⟩
   .have hk:=(h.row.step i o (a8 _) h.ho).kind hw;rw[hc]at hk;exact hk.1
include ok in
def Inv.step (hcall:rj tb ih) (hI:Inv tb ops st wb ah b ι0 w0 S ι a w) (h:jW tb ih ops fl st wb vv hb ah S i o) (hmono:∀p q,p<=q->q<=ops.size->(st p).m.next<=(st q).m.next)
 {k:List Item} {cs:List Frame} {rest:List Nat}:
 ∃ι' a' w',Steps tb.P (lone (b.atR a (.inRegion ops (i::rest)::k)) cs w) (lone (b.atR a' (.inRegion ops rest::k)) cs w')/\Inv tb ops st wb ah b ι0 w0 (λ j=>S j\/j=i) ι' a' w':=by
 have hs:=h.row.step i o (a8 _) h.ho;have htr:=hI.tr;have hwant:=GZ (h.want hI.Kg) htr;have hev:=h.fk hI.Kg;cases hw:wb i with
 |false=>
  have hL:¬(wb i=ae/\cls tb o.op=.L):=λ hx=>by rw[hw]at hx;cases hx.1
  have hstep:=stepR_op_skip (P:=tb.P) (b:=b) (a:=a) (k:=k) (cs:=cs) (w:=w) (ops:=ops) (i:=i) (rest:=rest) (by rw[h.ho];simp[hwant,hw]);rw[h.ho,vQ]at hstep;have hu:VR ι (vv i) undef:=by rw[(hs.no hw).1];exact .tuple .nil
  exact⟨ι,_,w,.one hstep,hI.quiet h hL hu⟩
 |true=>
  rw[hw]at hwant;have hk:=hs.kind hw;cases hc:cls tb o.op with
  |P=>
   rw[hc]at hk;have hL:¬(wb i=ae/\cls tb o.op=.L):=λ hx=>by rw[hc]at hx;cases hx.2
   obtain⟨v',e,hv⟩:=Rx ok (by rw[<-Rw hev];exact hk.1) htr;exact⟨ι,_,w,.one (y6 h.ho hwant (AF (tb:=tb) (by rw[hc];simp)) (e w) (.inl rfl)),hI.quiet h hL hv⟩
  |Rd=>
   rw[hc]at hk;have hL:¬(wb i=ae/\cls tb o.op=.L):=λ hx=>by rw[hc]at hx;cases hx.2
   obtain⟨q,A,hq,hX,hrd⟩:=h.reader hw hc;obtain⟨v',e,hv⟩:=RO ok (hI.qcP h.row hmono hq hX) (by rw[<-RN hev];exact hrd) hc htr;exact⟨ι,_,w,.one (y6 h.ho hwant (AF (tb:=tb) (by rw[hc];simp)) e (.inl rfl)),hI.quiet h hL hv⟩
  |Al=>
   rw[hc]at hk;obtain⟨ob,way,h1,h2,h3⟩:=hk;have hlt:i<ops.size:=(gm.1 h.ho).1;have hN:ι (st i).m.next=V:=hI.free i hlt h.hn _ (aI _) (by rw[h2,aG];omega)
   have hrel0:Rel ι ⟨.e,(st i).m.next⟩ w:=
    ⟨λ _ _=>rfl,(λ _ _ _ hx _ _=>by cases hx),hI.rng,(λ x _ _ _ hx=>by obtain⟨_,hx,_⟩:=hx;cases hx),(λ _ _ _ _ hx=>by cases hx)⟩
   obtain⟨ι',w',v',e,hv,hrel,hst⟩:=L9 ok hrel0 (by rw[<-L8 hev];exact h1) htr hN;refine⟨ι',_,w',.one (y6 h.ho hwant (AF (tb:=tb) (by rw[hc];simp)) e (.inl rfl)),hI.qbn h hw hc hmono h2 (by rw[h3];exact hv) hrel hst⟩
  |L=>
   rw[hc]at hk;obtain⟨A1,h1,h2⟩:=hk;have hlt:i<ops.size:=(gm.1 h.ho).1;have hmi:=h.Qf hc;have hrel:=hI.rel hmi;have hrelA:Rel ι (iq (hb i) (st i).m) w:=by
    refine⟨λ x hx=>?_,λ x o' l hx hal hl=>?_,hrel.rng,λ x y l l' hx hy=>?_,λ x t k c hx=>?_⟩
    .rw[CU]at hx;rw[yP,ax]
     .exact hrel.wf x hx
     .intro hx';obtain⟨o',ho'⟩:=(Ev h2).1 x hx';rw[hrel.wf x hx]at ho';cases ho'
    .rw[yP]at hx;split at hx
     .cases hx;cases hal
     .exact hrel.obs x o' l hx hal hl
    .have hl:∀x,live (iq (hb i) (st i).m) x->live (st i).m x:=by
      rintro x ⟨o',hx,hal⟩;rw[yP]at hx;split at hx
      .cases hx;cases hal
      .exact⟨o',hx,hal⟩
     exact hrel.inj x y l l' (hl x hx) (hl y hy)
    .rw[yP]at hx;split at hx
     .cases hx
     .exact hrel.gl x t k c hx
   have hsnd:=zp.snd ok hcall h1 (t':=snap ops st S (st 0).n) (n:=(st 0).n) (d:=(st 0).d) (ro:=(st 0).ro) hev h.I9 ops i;obtain⟨ι',w',a',stp,hsr,hss⟩:=hsnd.2 ι b a k cs w rest ⟨hrelA,htr,hI.ro,hI.dr⟩ (λ x hx1 hx2=>by
    simp only[CU]at hx1;rw[<-Ew h2]at hx2;exact hI.free i hlt h.hn x hx1 hx2) hwant h.ho
   exact⟨ι',a',w',stp,hI.X0 h hw hc hmono h2 hsr hss.stp⟩
include ok in
theorem Inv.steps (hcall:rj tb ih) (hr:Row tb ih ops fl 0 st wb vv hb) (hsta:Stat tb ops fl ah) (hmono:∀p q,p<=q->q<=ops.size->(st p).m.next<=(st q).m.next) {k:List Item} {cs:List Frame}:
 ∀(rest:List Nat) (S:Nat->Prop) (ι:bj) (a:Act) (w:aF),ue ops S rest->Inv tb ops st wb ah b ι0 w0 S ι a w->
 ∃ι' a' w' S',Steps tb.P (lone (b.atR a (.inRegion ops rest::k)) cs w) (lone (b.atR a' (.inRegion ops []::k)) cs w')/\Inv tb ops st wb ah b ι0 w0 S' ι' a' w'/\∀i,i<ops.size->S' i
 | [],S,ι,a,w,hs,hI=>by
  cases hs with
  |nil h=>exact⟨ι,a,w,S,.refl _ _,hI,h⟩
 |i::rest,S,ι,a,w,hs,hI=>by
  cases hs with
  |cons ho hn he h=>
   obtain⟨ι1,a1,w1,st1,hI1⟩:=Inv.step ok hcall hI ⟨hr,hsta,hI.cl,ho,hn,hI.cl.ready hsta ho he⟩ hmono (k:=k) (cs:=cs) (rest:=rest);obtain⟨ι2,a2,w2,S2,st2,hI2,hall⟩:=Inv.steps hcall hr hsta hmono rest _ ι1 a1 w1 h hI1;exact⟨ι2,a2,w2,S2,st1.trans st2,hI2,hall⟩
end rows
end
section
variable {tb:aN}(ok:dO tb){ih:aH->St->R (Ex×St)}
include ok in
def Yp (hcall:rj tb ih):LU tb ih:=by
 intro ops s s1 h id;unfold regionF at h;simp only[aJ]at h;obtain⟨fl,h1,h2⟩:=R.aC h;obtain⟨⟨e,s'⟩,h3,h4⟩:=R.aC h2;clear h h2;cases e with
 |nrm=>
  simp only[ay,bH,true_and]at h4;subst h4;obtain⟨ah,hsta⟩:=qg9 h1;obtain⟨st,wb,vv,hb,e0,e1,hrow⟩:=AN (tb:=tb) (ih:=ih) ops.toList 0 (λ j=>by simp) h3;have hr:=hrow.row;clear hrow;have e1:st ops.size=s':=by rw[<-e1];simp
  have hmono:∀p q,p<=q->q<=ops.size->(st p).m.next<=(st q).m.next:=λ p q h1 h2=>hr.qbP ok hcall h1 h2
  subst e0 e1;refine⟨hmono 0 ops.size (a8 _) (aI _),λ ι b a k cs w hs hf=>?_⟩;have hsched:=P3 hsta.back ops.size (w.tape w.drawn (.order b.fn id)) (tQ ops.size ag) (by simp) (by
   unfold missing;exact dm (BC _ _) (by simp))
  have hsched:=hsched.congr (S':=λ _=>False) (λ j=>by
   simp only[LN,Array.getElem?_replicate];split<;>simp)
  have hq0:∀q,kz tb ops wb (λ _=>False) q->∀p op,0<=p->p<q->ops[p]?=U op->¬(wb p=ae/\cls tb op.op=.L):=
   λ q hq p op _ hp hop hx=>(hq.2 p op hop hx.1 hx.2).2 hp
  have hcase:∀q,kz tb ops wb (λ _=>False) q->∀x o l,GR ops st q x o->ι x=U l->(st 0).m.get x=U o:=by
   intro q hq x o l hg hl;rcases hr.LX q (a8 _) hq.1 (hq0 q hq) hg with⟨_,k2⟩|⟨p,_,k2,k3,k4,_⟩
   .exact k2
   .have a1:=hmono 0 p (by omega) (by omega);have a2:=hmono (p+1) ops.size (by omega) (aI _);rw[hf x (by omega) (by omega)]at hl;cases hl
  have hI:Inv tb ops st wb ah b ι {w with drawn:=w.drawn+1} (λ _=>False) ι a {w with drawn:=w.drawn+1}:=by
   refine⟨λ _ _ h=>h.elim,hs.tr.1,λ x c v hc hg=>?_,hs.ro,hs.dr,λ q hq=>hr.Uw hs.rel.wf q (a8 _) hq.1 (hq0 q hq),λ q hq x o l hg hal hl=>hs.rel.obs x o l (hcase q hq x o l hg hl) hal hl,hs.rel.rng,
    λ q hq x y l l' ⟨ox,hx,hax⟩ ⟨oy,hy,hay⟩ hlx hly he=>hs.rel.inj x y l l' ⟨ox,hcase q hq x ox l hx hlx,hax⟩ ⟨oy,hcase q hq y oy l' hy hly,hay⟩ hlx hly he,λ i hi _ x hx1 hx2=>?_,λ _ _=>rfl,
    λ q hq x l ⟨ox,hx,hax⟩ hl=>.inr ⟨x,l,⟨ox,hcase q hq x ox l hx hl,hax⟩,hl,rfl⟩,λ _ _ _=>rfl,aI _,rfl,rfl,rfl,
    λ x l _ hs=>⟨λ q hq=>(hr.OV q (a8 _) hq.1 (hq0 q hq) x hs.1).1,rfl⟩,
    λ q hq x t k c hx=>hs.rel.gl x t k c (hr.O1 q (a8 _) hq.1 (hq0 q hq) hx)⟩
   .rw[hr.Lr x 0 c (a8 _) hc.1 λ p o _ hp ho hd=>(hc.2 p o ho hd).2 hp]at hg;exact hs.tr.2 x v hg
   .have a1:=hmono 0 i (by omega) (by omega);have a2:=hmono (i+1) ops.size (by omega) (aI _);exact hf x (by omega) (by omega)
  obtain⟨ι',a',w',S',stp,hI',hall⟩:=Inv.steps ok hcall hr hsta hmono (k:=k) (cs:=cs) _ _ _ _ _ hsched hI;have hq:kz tb ops wb S' ops.size:=⟨aI _,λ j o hj _ _=>by
   have:=(gm.1 hj).1;exact⟨λ _=>this,λ _=>hall j this⟩⟩
  obtain⟨hn1,hn2,hn3⟩:=hr.Qp ops.size (aI _);have hrel:=hI'.rel hq;refine⟨ι',w',a',k,(Steps.head ?_ stp).trans (.one stepR_region_end),rfl,⟨hrel,⟨by rw[hI'.size,hn1],λ x v hv=>?_⟩,by rw[hn3];exact hI'.ro,by rw[hn2];exact hI'.dr⟩,
   ⟨⟨hmono 0 ops.size (a8 _) (aI _),hI'.out,λ x l ⟨o,hx,hax⟩ hl=>?_,hI'.fr,hI'.sz,hI'.os,hI'.tape,hI'.output,λ x l hl hs=>⟨(hI'.kp x l hl hs).1 _ hq,(hI'.kp x l hl hs).2⟩⟩,hn1,hn3⟩⟩
  .rw[stepR_region_draw];unfold Region.schedule;rw[ok.mixed];rfl
  .refine hI'.tm x ops.size v ⟨aI _,λ j o hj _=>?_⟩ hv;have:=(gm.1 hj).1;exact⟨λ _=>this,λ _=>hall j this⟩
  .refine hI'.src ops.size hq x l ⟨o,.inl ⟨?_,hx⟩,hax⟩ hl;rcases ec x (st ops.size).m.next with h|h
   .exact h
   .rw[hI'.wf _ hq x h]at hx;cases hx
 |_=>simp at h4
end
section
variable {tb:aN}(ok:dO tb){ih:aH->St->R (Ex×St)}{ι:bj}
theorem Nz:∀(n t:Nat) (acc:Array I),(Extern.BytealgMakeNoZero.digits n t acc).size=acc.size+n
 |0,_,_=>rfl
 |n+1,t,acc=>by
  rw[Extern.BytealgMakeNoZero.digits,Nz n,Array.size_push];omega
theorem Ny:∀(n t:Nat) (acc:Array I),(∀v∈acc,bS v=ae)->∀v∈Extern.BytealgMakeNoZero.digits n t acc,bS v=ae
 |0,_,_,h=>h
 |n+1,t,acc,h=>by
  rw[Extern.BytealgMakeNoZero.digits];refine Ny n _ _ λ v hv=>?_
  rcases Array.mem_push.1 hv with h1|rfl
  .exact h v h1
  .rfl
variable {fn:Func}
def tv {P:Program} {f:FuncId} (hf:P.funcs[f]?=some fn) (hb:fn.body=none) (hn:(fn.name== "runtime.NumGoroutine")=false) (hx:Extern.findNext fn=none) {e:Array Value->Sem Value}
 (he:Extern.find fn=U e) (args:Array I) (w w':aF) (v:I) (h:(e args).run P w=.ok v w'):(callFunc f args).run P w=.ok (.value v) w':=by
 unfold callFunc;simp only[aM,run_program,aP,hf,hn,hb,hx,he,Option.isNone_none,bB,dR,bg,run_mark,h,a6]
def qbl(ps rs:Array au)(n:Int):Extern.BytealgMakeNoZero.makeNoZero ps rs #[.int .i64 n]=(do
 let some t:=rs[0]?|stuck "bytealg.MakeNoZero: no result type"
 let .slice elem<-underlying t|stuck "bytealg.MakeNoZero: slice type expected"
 if n<0||n>2^48 then runtimePanic (.error "makeslice: len out of range")
 let cap<-choose (.appendCap n.toNat 0 elem)
 askRoom cap
 let bytes<-choose (.extern "internal/bytealg.MakeNoZero.bytes" 0);let a<-newRow elem (Extern.BytealgMakeNoZero.digits cap bytes #[])
 pure (.slice (U a) n.toNat cap)):=rfl
def X4(t:au)(r:Nat):Extern.MapsClone.clone #[.iface t (.map (U r))]=(do
 let .map entries clock<-getObj r|stuck "maps.clone: a map expected"
 pure (.iface t (.map (U (<-newObj (.map entries clock)))))):=rfl
def U3(x y c:Nat)(hc:c<=1){e:Array I->Sem I}(he:(Extern.MathBitsCarry.rows[0]?).map (·.2)=U e)(P:cI)(w:aF):
 (e #[.int .u64 (.ofNat x),.int .u64 (.ofNat y),.int .u64 (.ofNat c)]).run P w=.ok (.tuple #[.int .u64 (.ofNat ((x+y+c) % 18446744073709551616)),.int .u64 (.ofNat ((x+y+c)/18446744073709551616))]) w:=by
 cases he;rcases(show c=0\/c=1 by omega)with rfl|rfl
 .rfl
 .rfl
variable {c:Nat}
def MU{x:UInt8}(hc:c<256):aL x.toNat c=(x==(cK c).toNat.toUInt8):=by
 have e:(cK c).toNat.toUInt8.toNat=c:=by
  show(jY c).toNat=c;rw[HI];omega
 rw[qk,qp,beq_iff_eq];constructor
 .intro h;apply td.1;rw[e];exact h
 .intro h;rw[h];exact e
theorem I3(hc:c<256):∀(l:List UInt8) (n:Nat),yD c l n=n+Lib.countByte l (cK c).toNat.toUInt8
 | [],n=>by simp[yD,Lib.countByte]
 |x::l,n=>by
  unfold yD Lib.countByte;rw[MU hc,List.count_cons];cases x==(cK c).toNat.toUInt8 with
  |true=>rw[aJ,I3 hc];unfold Lib.countByte;simp;omega
  |false=>rw[bJ,I3 hc];unfold Lib.countByte;simp
def Ye(l:List UInt8)(hc:c<256):Value.int .i64 (.ofNat (yD c l 0))=.int .i64 (Lib.countByte l (cK c).toNat.toUInt8:Nat):=by
 rw[I3 hc,ep];rfl
theorem Rz(hc:c<256):∀(l:List UInt8) (n:Nat),Db c l n=if Lib.indexByte l (cK c).toNat.toUInt8==-1 then-1 else Lib.indexByte l (cK c).toNat.toUInt8+n
 | [],n=>rfl
 |x::l,n=>by
  unfold Db Lib.indexByte;rw[MU hc];cases hq:x==(cK c).toNat.toUInt8 with
  |true=>simp
  |false=>
   rw[bJ,Rz hc];have:=Lib.indexByte_ge l (cK c).toNat.toUInt8;generalize Lib.indexByte l (cK c).toNat.toUInt8=z at this;simp only[dR,bg,beq_iff_eq];by_cases h1:z=-1
   .simp[h1]
   .simp only[ax h1];rw[ax (by omega)];omega
def qcB(l:List UInt8)(hc:c<256):Value.int .i64 (Db c l 0)=.int .i64 (Lib.indexByte l (cK c).toNat.toUInt8):=by
 rw[Rz hc];split
 .rename_i h;rw[beq_iff_eq]at h;rw[h]
 .simp
include ok in
def YO {k:Nat} {f:FuncId} {fn:Func} {args:List I} {A A':Mem} {v:I} (hf:tb.fn.get f=U fn) (hx:vn k fn) (h:Ji tb k fn args A=.ok (v,A')):
 A.next<=A'.next/\∀(ι:bj) (w:aF) (args':Array I),Rel ι A w->bI ι args args'.toList->eA ι A A'->
  ∃ι' w' v',(callFunc f args').run tb.P w=.ok (.value v') w'/\VR ι' v v'/\Rel ι' A' w'/\bY ι A w ι' A' w':=by
 have hf':=ok.fn _ _ hf;obtain⟨hb,hn,hnx,hk⟩:=hx;unfold Ji at h;split at h
 .simp only[ay,bH]at h;obtain⟨rfl,rfl⟩:=h;refine⟨aI _,λ ι w args' hr ha hfree=>?_⟩;obtain⟨l⟩:=args';cases ha with
  |cons hv ht=>
   cases ht with
   |nil=>exact⟨ι,w,_,tv hf' hb hn hnx hk _ w w _ rfl,hv,hr,bY.refl _ _ _⟩
 .rename_i a _ _ b _ _;split at h
  .rename_i p q r hp hr0;split at h
   .rename_i e hd;have hb1:=R.aC h;clear h;obtain⟨size,hz,h1⟩:=hb1;cases hq:aL p q with
    |false=>rw[hq]at h1;cases h1
    |true=>
     rw[hq,aJ]at h1;obtain rfl:=eW hq;have hb2:=R.aC h1;clear h1;obtain⟨u,hap,h⟩:=hb2;simp only[ay,bH]at h;obtain⟨rfl,rfl⟩:=h;unfold Mj at hap;split at hap
     .rename_i tA nA fzA cA tB xB fzB cB hsa hsb hga hgb;split at hap
      .rename_i v0 hv0;have hne:a.block≠b.block:=λ e=>by rw[e]at hap;simp at hap
       refine⟨aI _,λ ι w args' hr ha hfree=>?_⟩;obtain⟨l⟩:=args';obtain⟨ab,ao,qi8⟩:=a;obtain⟨bb,bo,bs⟩:=b;simp only at hsa hsb hga hgb hne;subst hsa hsb;have hps:fn.params= #[p,p]:=by apply Array.toList_inj.1;rw[hp]
       have hrs:fn.resultTypes= #[r]:=by apply Array.toList_inj.1;rw[hr0]
       have fin:∀(la lb:Loc) (oa ob la1 lb1 ca cb:Nat),ι ab=U la->ι bb=U lb->
        (Extern.SlicesOverlaps.overlaps fn.params fn.resultTypes #[.slice (U ⟨la.blk,oa,V⟩) la1 ca,.slice (U ⟨lb.blk,ob,V⟩) lb1 cb]).run tb.P w=.ok (.bool ag) w:=by
        intro la lb oa ob la1 lb1 ca cb hla hlb;obtain⟨o1,hw1,cs1,fr1,rfl,hcs1,_,hk1⟩:=hr.obs _ _ _ hga rfl hla;obtain⟨o2,hw2,cs2,fr2,rfl,hcs2,hc2,_⟩:=hr.obs _ _ _ hgb rfl hlb;obtain⟨_,_,rfl⟩:=hk1;obtain⟨v',hv',_⟩:=hc2 0 v0 hv0;have hsz2:cs2.size≠0:=by have:=(gm.1 hv').1;omega
        have hbl:la.blk≠lb.blk:=λ e=>hne (hr.inj ab bb la lb ⟨_,hga,rfl⟩ ⟨_,hgb,rfl⟩ hla hlb e)
        rw[hps,hrs];exact Lib.run_overlaps_apart w p r e (Um ok hd) size (jz ok hz) ⟨la.blk,oa,V⟩ ⟨lb.blk,ob,V⟩ la1 ca lb1 cb hbl tA tB cs1.size cs2.size
         (by simp only[World.shape?,hw1]) (by simp only[World.shape?,hw2]) hsz2 (by simp[World.frozen?,hw1]) (by simp[World.frozen?,hw1])
       cases ha with
       |cons hv ht=>
        cases ht with
        |cons hu ht=>
         cases ht with
         |nil=>
          cases hv with
          |sl hla _=>cases hu with
           |sl hlb _=>exact⟨ι,w,_,tv hf' hb hn hnx hk _ w w _ (fin _ _ _ _ _ _ _ _ hla hlb),.bool _,hr,bY.refl _ _ _⟩
           |slX hlb _ _ _ _ _ _=>exact⟨ι,w,_,tv hf' hb hn hnx hk _ w w _ (fin _ _ _ _ _ _ _ _ hla hlb),.bool _,hr,bY.refl _ _ _⟩
          |slX hla _ _ _ _ _ _=>cases hu with
           |sl hlb _=>exact⟨ι,w,_,tv hf' hb hn hnx hk _ w w _ (fin _ _ _ _ _ _ _ _ hla hlb),.bool _,hr,bY.refl _ _ _⟩
           |slX hlb _ _ _ _ _ _=>exact⟨ι,w,_,tv hf' hb hn hnx hk _ w w _ (fin _ _ _ _ _ _ _ _ hla hlb),.bool _,hr,bY.refl _ _ _⟩
      .cases hap
     .cases hap
   .cases h
  .cases h
 .rename_i n;split at h
  .rename_i p ps hp;split at h
   .rename_i e hd;revert h;generalize hq:(av _ 1048576&&_)=q;intro h;cases q with
    |false=>cases h
    |true=>
     simp only[aJ,ay,bH]at h;obtain⟨rfl,rfl⟩:=h;refine⟨by rw[aG];omega,λ ι w args' hr ha hfree=>?_⟩;simp only[dW]at hq;have hn2:n<=1048576:=gK hq.1;obtain⟨l⟩:=args';cases ha with
     |cons hv ht=>
      cases ht;cases hv;have h0:fn.resultTypes[0]?=U p:=by
       have:fn.resultTypes.toList[0]?=U p:=by rw[hp];rfl
       rwa[gp]at this
      let cap:=(Question.appendCap n 0 e).cut (w.tape w.drawn (.appendCap n 0 e));have hcap:n<=cap/\cap<2^63:=by
       show n<=n+_ % (2^63-n)/\n+_ % (2^63-n)<2^63;have:w.tape w.drawn (.appendCap n 0 e) % (2^63-n)<2^63-n:=jV _ (by omega);omega
      let bs:=(Question.extern "internal/bytealg.MakeNoZero.bytes" 0).cut (w.tape (w.drawn+1) (.extern "internal/bytealg.MakeNoZero.bytes" 0));let cs:=Extern.BytealgMakeNoZero.digits cap bs #[]
      have hcs:cs.size=cap:=by simp only[cs,Nz];simp
      have hN:ι A.next=V:=hfree _ (aI _) (by rw[aG];omega)
      let w':aF:={w with heap:=w.heap.push (.cells cs e),drawn:=w.drawn+2};have hrun:(Extern.BytealgMakeNoZero.makeNoZero fn.params fn.resultTypes #[.int .i64 (.ofNat n)]).run tb.P w=.ok (.slice (U ⟨w.heap.size,0,V⟩) n cap) w':=by
       have w1:(decide ((cK n)<0)||decide ((cK n)>2^48))=ag:=by
        simp only[iu,Bp,decide_eq_false_iff_not];omega
       rw[qbl];simp only[h0,aM,bO ok hd,aP,w1,dR,bg,a6,run_choose,Question.forced,run_askRoom,newRow,run_newObj];rfl
      obtain⟨ι',e1,hrel,hst⟩:=hr.uE (w':=w') (ob:=.cells e .row 0 (T.bW .e 0 (fQ n (.chan (U 0))))) (o':=.cells cs e) (sz:=cap) hN (λ _ k _ h=>by simp only[Ob.cells.injEq,GB]at h;omega) (tf w _ _ (by simp)) (by simp[w']) (λ ι' hi hbb=>by
       refine⟨cs,(0,0),rfl,hcs,λ i v hv=>?_,a8 _⟩;rw[T.oK]at hv;by_cases hi:0<=i/\i<0+(fQ n (Value.chan (U 0))).length
       .rw[aA hi]at hv;rw[List.getElem?_replicate]at hv;split at hv
        .cases hv;have hlt:i<cs.size:=by simp at hi;omega
         exact⟨cs[i],by simp[hlt],.unk (Ny _ _ _ (by simp) _ (Array.getElem_mem hlt))⟩
        .cases hv
       .rw[ax hi,T.pv]at hv;cases hv)
      refine⟨ι',w',_,tv hf' hb hn hnx hk _ w w' _ hrun,?_,hrel,hst⟩;have he1:(1:Nat)<65536:=by omega
      exact VR.slX e1 (kU _ _) (by rw[iW he1];exact hcap.1) (by rw[mH he1];simp) (λ _=>rfl) hcap.2 (by rw[iW he1];omega)
   .cases h
  .cases h
 .split at h
  .rename_i es clock hg;simp only[ay,bH]at h;obtain⟨rfl,rfl⟩:=h;refine⟨by rw[aG];omega,λ ι w args' hr ha hfree=>?_⟩;obtain⟨l⟩:=args';cases ha with
   |cons hv ht=>
    cases ht;cases hv with
    |iface hv=>
     cases hv with
     |map hl=>
      obtain⟨o',hw,h0,es',rfl,hes⟩:=hr.obs _ _ _ hg rfl hl;have hN:ι A.next=V:=hfree _ (aI _) (by rw[aG];omega)
      let w':aF:={w with heap:=w.heap.push (.map es' clock),drawn:=w.drawn};obtain⟨ι',e1,hrel,hst⟩:=hr.uE (w':=w') (ob:=.map es clock) (o':=.map es' clock) (sz:=0) hN (λ _ _ _ h=>by cases h) (tf w _ _ (by simp)) (by simp[w']) (λ ι' hi hbb=>⟨rfl,es',rfl,hes.mono hi⟩);refine⟨ι',w',_,tv hf' hb hn hnx hk _ w w' _ ?_,.iface (.map e1),hrel,hst⟩;rw[X4];simp only[aM,l_ hw (by simp),aP,run_newObj,a6];rfl
  .cases h
 .rename_i x y c;revert h;generalize hq:av c 1=q;intro h;cases q with
  |false=>cases h
  |true=>
   simp only[aJ,ay,bH]at h;obtain⟨rfl,rfl⟩:=h;refine⟨aI _,λ ι w args' hr ha hfree=>?_⟩;obtain⟨l⟩:=args';cases ha with
   |cons h1 ha=>
    cases ha with
    |cons h2 ha=>
     cases ha with
     |cons h3 ha=>
      cases ha;cases h1;cases h2;cases h3;obtain⟨e,he⟩:∃e,(Extern.MathBitsCarry.rows[0]?).map (·.2)=U e:=⟨_,rfl⟩;refine⟨ι,w,_,tv hf' hb hn hnx (hk.trans he) _ w w _ (U3 x y c (gK hq) he tb.P w),?_,hr,bY.refl _ _ _⟩;exact .tuple (.cons (.int _ _) (.cons (.int _ _) .nil))
 .rename_i s c;cases hq:aO c 256 with
  |false=>rw[hq]at h;cases h
  |true=>
   rw[hq]at h;simp only[aJ,ay,bH]at h;obtain⟨rfl,rfl⟩:=h;refine⟨aI _,λ ι w args' hr ha hfree=>?_⟩;obtain⟨l⟩:=args';cases ha with
   |cons h1 ha=>
    cases ha with
    |cons h2 ha=>
     cases ha;cases h1;cases h2;refine⟨ι,w,_,tv hf' hb hn hnx hk _ w w _ (Lib.run_countString s (cK c) w),?_,hr,bY.refl _ _ _⟩;rw[<-Ye s.data.toList (jE hq)];exact .int _ _
 .rename_i s c;cases hq:aO c 256 with
  |false=>rw[hq]at h;cases h
  |true=>
   rw[hq]at h;simp only[aJ,ay,bH]at h;obtain⟨rfl,rfl⟩:=h;refine⟨aI _,λ ι w args' hr ha hfree=>?_⟩;obtain⟨l⟩:=args';cases ha with
   |cons h1 ha=>
    cases ha with
    |cons h2 ha=>
     cases ha;cases h1;cases h2;refine⟨ι,w,_,tv hf' hb hn hnx hk _ w w _ (Lib.run_indexByteString s (cK c) w),?_,hr,bY.refl _ _ _⟩;rw[<-qcB s.data.toList (jE hq)];exact .int _ _
 .cases h
end
section
variable {tb:aN}(ok:dO tb){ih:aH->St->R (Ex×St)}{ι:bj}
include ok in
def Nf (hih:zm tb.P ih):rj tb ih:=by
 intro cl A r h;unfold cE at h;split at h
 .rename_i l args;exact .inr (qdb hih h)
 .rename_i f args;split at h
  .cases h
  .rename_i fn hf;cases hng:(fn.name== "runtime.NumGoroutine")with
   |true=>rw[hng]at h;cases h
   |false=>
    rw[hng,bJ]at h;have hf':=ok.fn _ _ hf;split at h
    .rename_i hb;split at h
     .rename_i k hk;obtain⟨⟨v,A'⟩,h1,h2⟩:=R.aC h;simp only[ay]at h2;obtain⟨hle,hs⟩:=YO ok hf (ok.ex f k fn hk hf) h1;refine .inr ⟨v,A',h2.symm,hle,λ ι w s fr cs hr hcl hfree=>?_⟩;obtain⟨args',hrun,hargs⟩:=hcl;obtain⟨ι',w',v',e,hv,hrel,hst⟩:=hs ι w args' hr hargs hfree;exact⟨ι',w',v',.inl (hrun.trans e),hv,hrel,hst⟩
     .cases h
    .rename_i c hb;have hcf:∀args' w,(callFunc f args').run tb.P w=.ok (.enter f args') w:=by
      intro args' w;unfold callFunc;simp only[aM,run_program,aP,hf',hng,hb,Option.isNone_some,dR,bg,a6]
     split at h
     .rename_i hh hhk;obtain⟨⟨v,A'⟩,h1,h2⟩:=R.aC h;simp only[ay]at h2;obtain⟨hle,hs⟩:=ok.hk f hh hhk args A v A' h1;refine .inr ⟨v,A',h2.symm,hle,λ ι w s fr cs hr hcl hfree=>?_⟩;obtain⟨args',hrun,hargs⟩:=hcl;obtain⟨ι',w',v',st,hv,hrel,hst⟩:=hs ι w args' hr hargs hfree fr cs;exact⟨ι',w',v',.inr (.inl ⟨f,args',hrun.trans (hcf args' w),st⟩),hv,hrel,hst⟩
     .rcases Jz ok hih hf hb h with⟨v,A',h1,hle,hs⟩|⟨v,A',h1,hle,hs⟩
      .refine .inl ⟨v,A',h1,hle,λ ι w s fr cs hr hcl hfree=>?_⟩;obtain⟨args',hrun,hargs⟩:=hcl;obtain⟨ι',w',v',⟨fr0,st,hfn,hlv⟩,hv,hrel,hst⟩:=hs ι w args' (fr::cs) hr hargs hfree;exact⟨ι',w',v',⟨f,args',hrun.trans (hcf args' w),st.trans (.one (step_leave_panicked hlv))⟩,hv,hrel,hst⟩
      .refine .inr ⟨v,A',h1,hle,λ ι w s fr cs hr hcl hfree=>?_⟩;obtain⟨args',hrun,hargs⟩:=hcl;obtain⟨ι',w',v',⟨fr0,st,hfn,hlv⟩,hv,hrel,hst⟩:=hs ι w args' (fr::cs) hr hargs hfree;exact⟨ι',w',v',.inr (.inl ⟨f,args',hrun.trans (hcf args' w),st.trans (.one (step_leave_returned hlv))⟩),hv,hrel,hst⟩
include ok in
theorem CE:∀n,zm tb.P (exec tb n)
 |0=>by
  intro c s e s1 h;cases h
 |n+1=>by
  have hih:=CE n;have hcall:=Nf ok hih;exact qhb ok hih hcall (Yp ok hcall) λ f ps a b s e s1 h=>qbg ok hcall f ps a b s e s1 h
def ee:Mem:=⟨.e,0⟩
def qcO(w:aF):Rel (λ _=>V) ee w:=
 ⟨λ _ _=>rfl,(λ _ _ _ h=>by cases h),(λ _ _ h=>by cases h),(λ _ _ _ _ h=>by obtain⟨_,h,_⟩:=h;cases h),(λ _ _ _ _ h=>by cases h)⟩
def qbU(b:Nat):¬live ee b:=λ⟨_,h,_⟩=>by cases h
def Leaves(w w':aF):Prop:=(∀c,c<w.heap.size->w'.heap[c]?=w.heap[c]?)/\w.heap.size<=w'.heap.size/\w'.os=w.os/\w'.tape=w.tape/\w'.output=w.output
def isTrue:R nh->Bool
 |.ok (.val (.bool b) _)=>b
 |_=>ag
end
def Ls(P:cI)(ex:T Nat):aN:={P:=P,ty:=T.ofList P.types.toList,fn:=T.ofList P.funcs.toList,ex:=ex,hk:=.e}
def TZ(C:Checked)(ex:T Nat)(hex:∀f k fn,ex.get f=U k->C.prog.funcs[f]?=U fn->vn k fn):dO (Ls C.prog ex) where
 ty:=λ t i h=>by
  have h':(T.ofList C.prog.types.toList).get t=U i:=h;rw[T.Ao,gp]at h';show C.prog.toTables.info? t=U i;unfold Tables.info?;have hlt:=(gm.1 h').1;rw[aA hlt];exact h'
 fn:=λ f fn h=>by
  have h':(T.ofList C.prog.funcs.toList).get f=U fn:=h;rw[T.Ao,gp]at h';exact h'
 mixed:=Checked.mixed C
 ex:=λ f k fn h hf=>hex f k fn h (by
  have h':(T.ofList C.prog.funcs.toList).get f=U fn:=hf;rw[T.Ao,gp]at h';exact h')
 hk:=λ f h hh=>by cases hh
end Go.Am
namespace Go.Am
open Go.RowKit Go.WideShapes Go.ChangeShapes
variable {w':aF}
def Leaves.below{w:aF}(h:Leaves w w'):Below w.heap.size w w':=⟨h.2.2.1,h.2.2.2.1,h.2.2.2.2,h.2.1,h.1⟩
section
variable {H:Type}{enc:au×I->H}{P:cI}
end
end Go.Am
namespace Go.Am
section
def flat:Nat->I->Bool
 |0,_=>ag
 |d+1,v=>
  match v with
  |.bool _|.int _ _|.string _=>ae
  |.agg l=>l.toList.all (flat d)
  |.tuple l=>l.toList.all (flat d)
  |.nilIface|.pointer V|.slice V 0 0|.map V|.nilFunc=>ae
  |.iface _ v=>flat d v
  |_=>ag
mutual
theorem Jx{ι ι':bj}:∀(d:Nat) (v v':I),flat d v=ae->VR ι v v'->VR ι' v v'
 |0,_,_,h,_=>by simp[flat]at h
 |d+1,v,v',h,hv=>by
  unfold flat at h;split at h
  .cases hv;exact .bool _
  .cases hv;exact .int _ _
  .cases hv;exact .string _
  .cases hv with
   |agg hs=>exact .agg (FG d _ _ (oT.1 h) hs)
  .cases hv with
   |tuple hs=>exact .tuple (FG d _ _ (oT.1 h) hs)
  .cases hv;exact .nilIface
  .cases hv;exact .ptrN
  .cases hv;exact .slN
  .cases hv;exact .mapN
  .cases hv;exact .nilFunc
  .cases hv with
   |iface hs=>exact .iface (Jx d _ _ h hs)
  .cases h
theorem FG{ι ι':bj}:∀(d:Nat) (l l':List I),(∀v∈l,flat d v=ae)->bI ι l l'->bI ι' l l'
 |_,[],_,_,h=>by cases h;exact .nil
 |d,v::l,_,hf,h=>by
  cases h with
  |cons hv ht=>exact .cons (Jx d v _ (hf v (by simp)) hv) (FG d l _ (λ x hx=>hf x (by simp[hx])) ht)
end
variable {ι:bj}{A:Mem}{w':aF}
def P1{w:aF}(hr:Rel ι A w)(hl:Leaves w w'):Rel ι A w'/\bY ι A w ι A w':=by
 refine⟨⟨hr.wf,λ b o l hg ha hb=>?_,λ b l hb=>c9 (hr.rng b l hb) hl.2.1,hr.inj,hr.gl⟩,⟨aI _,λ _ _=>rfl,λ b l hb hll=>.inr ⟨b,l,hb,hll,rfl⟩,λ c hc _=>hl.1 c hc,hl.2.1,hl.2.2.1,hl.2.2.2.1,hl.2.2.2.2,λ b l hb _=>⟨rfl,hl.1 _ (hr.rng b l hb)⟩⟩⟩;obtain⟨o',h1,h2⟩:=hr.obs b o l hg ha hb;exact⟨o',by rw[hl.1 _ (hr.rng b l hb)];exact h1,h2⟩
def cH(sp:List I->Option I):List I->Mem->R (I×Mem):=λ args A=>
 match sp args with
 |some v=>.ok (v,A)
 |none=>.no 600
variable {tb:aN}(ok:dO tb)
include ok in
def qb {f:FuncId} {fn:Func} {c:aH} (hf:tb.fn.get f=U fn) (hb:fn.body=U c) {sp:List I->Option I}
 (h:∀args v,sp args=U v->(∀x∈args,flat 9 x=ae)/\flat 9 v=ae/\∃n A1,call tb n f args ee=.ok (.val v A1)):eG tb.P f (cH sp):=by
 intro args A v A' ha;unfold cH at ha;split at ha
 .rename_i v0 hsp;simp only[ay,bH]at ha;obtain⟨rfl,rfl⟩:=ha;obtain⟨hfa,hfv,n,A1,hc⟩:=h args v0 hsp;refine⟨aI _,λ ι w args' hr hargs _ fr cs=>?_⟩;unfold call at hc;simp only[hf,hb]at hc;rcases Jz ok (CE ok n) hf hb hc with⟨_,_,h1,_⟩|⟨v,A',h1,hle,hs⟩
  .cases h1
  .cases h1;obtain⟨ι',w',v',⟨fr0,st,hfn,hlv⟩,hv,hrel,hst⟩:=hs (λ _=>V) w args' (fr::cs) (qcO w) (FG 9 _ _ hfa hargs) (λ _ _ _=>rfl);have hl:Leaves w w':=⟨λ c hc=>hst.fr c hc (λ b l hl _=>aU hl (qbU b)),hst.size,hst.os,hst.tape,hst.output⟩;obtain⟨h2,h3⟩:=P1 hr hl;exact⟨ι,w',v',st.trans (.one (step_leave_returned hlv)),Jx 9 _ _ hfv hv,h2,h3⟩
 .cases ha
def aN.nX(tb:aN)(f:FuncId)(h:List I->Mem->R (I×Mem)):aN:={tb with hk:=tb.hk.set f h}
include ok in
def fq {f:FuncId} {h:List I->Mem->R (I×Mem)} (hh:eG tb.P f h):dO (tb.nX f h) where
 ty:=ok.ty
 fn:=ok.fn
 mixed:=ok.mixed
 ex:=ok.ex
 hk:=λ g k hg=>by
  have hg':(tb.hk.set f h).get g=U k:=hg;rw[T.bR]at hg';split at hg'
  .rename_i e;cases hg';rw[e];exact hh
  .exact ok.hk g k hg'
end
section
variable {tb:aN}{ih:aH->St->R (Ex×St)}
def R.aW{α β:Type}(a:α)(f:α->R β):(R.ok a).bind f=f a:=rfl
def CD(n:Nat)(a b:aH)(s:St):exec tb (n+1) (.seq a b) s=(exec tb n a s).bind λ(e,s')=>match e with
 |.nrm=>exec tb n b s'
 |e=>.ok (e,s'):=rfl
def N8(n id:Nat)(ops:Array Oper)(s:St):exec tb (n+1) (.region id ops ag) s=ja tb (exec tb n) ops.toList ops.toList s:=rfl
def N_(n:Nat)(s:St):exec tb (n+1) .skip s=.ok (.nrm,s):=rfl
def N9(n:Nat)(s:St):exec tb (n+1) .ret s=.ok (.ret,s):=rfl
def N7(n id:Nat)(s:St):exec tb (n+1) (.exit id) s=.ok (.exit id,s):=rfl
def Jh(n:Nat)(c:aH)(s:St):exec tb (n+1) (.scope c) s=exec tb n c s:=rfl
def CC(n id:Nat)(c:aH)(s:St):exec tb (n+1) (.block id c) s=(exec tb n c s).bind λ(e,s')=>match e with
 |.exit i=>bif aL i id then .ok (.nrm,s')else .ok (.exit i,s')
 |e=>.ok (e,s'):=rfl
def Fj(n:Nat)(c:bM)(a b:aH)(s:St):exec tb (n+1) (.cond c a b) s=(ev s.t c).bind λ v=>match v with
 |.bool ae=>exec tb n a s
 |.bool ag=>exec tb n b s
 |_=>.no 330:=rfl
def Fk(n:Nat)(c:aH)(s:St):exec tb (n+1) (.loop c) s=(exec tb n c s).bind λ(e,s')=>match e with
 |.nrm=>exec tb n (.loop c) s'
 |e=>.ok (e,s'):=rfl
def Nu{α:Type}(p:Bool)(x y:R α)(z:R α):(match Value.bool p with
 |.bool ae=>x
 |.bool ag=>y
 |_=>z)=if p=ae then x else y:=by cases p<;>rfl
def Sa(ops:List Oper)(s:St):ja tb ih ops [] s=.ok (.nrm,s):=rfl
def R'(ops l:List Oper)(dst:Option Tmp)(op:Op)(ty:au)(pos:String)(after:Array Edge)(s:St):
 ja tb ih ops ({dst,op,type:=ty,pos,after,guard:=V}::l) s=bT tb ih {dst,op,type:=ty,pos,after,guard:=V} s (ja tb ih ops l):=rfl
section
variable (dst:Option Tmp)(ty:au)(pos:String)(after:Array Edge)(g:Option (Nat×Bool))(s:St)(k:St->R (Ex×St))
def Q7(x:bM):bT tb ih {dst,op:=.move x,type:=ty,pos,after,guard:=g} s k=(ev s.t x).bind λ v=>b7 s dst v k:=rfl
def QQ(x:bM):bT tb ih {dst,op:=.assign x,type:=ty,pos,after,guard:=g} s k=(ev s.t x).bind λ v=>b7 s dst v k:=rfl
def R.eI{α β γ:Type}(x:R α)(f:α->R β)(h:β->R γ):(x.bind f).bind h=x.bind λ a=>(f a).bind h:=by cases x<;>rfl
def mT{o:Op}(hc:cls tb o=.P)(hi:qd o=V):bT tb ih {dst,op:=o,type:=ty,pos,after,guard:=g} s k=(ib tb s.t o).bind λ v=>b7 s dst v k:=by
 unfold bT;simp only[hi,hc]
def uS{o:Op}(hc:cls tb o=.Rd)(hi:qd o=V):bT tb ih {dst,op:=o,type:=ty,pos,after,guard:=g} s k=(eR tb s.t s.m.get o).bind λ v=>b7 s dst v k:=by
 unfold bT;simp only[hi,hc]
def AJ{o:Op}(hc:cls tb o=.Al)(hi:qd o=V):bT tb ih {dst,op:=o,type:=ty,pos,after,guard:=g} s k=(lS tb s.t o).bind λ(ob,way)=>b7 {s with m:=s.m.alloc ob} dst (way.at s.m.next) k:=by
 unfold bT;simp only[hi,hc]
def Kr(op:BinOp)(t:au)(x y:bM)(r:au)(hc:cls tb (.binOp op t x y r)=.P):bT tb ih {dst,op:=.binOp op t x y r,type:=ty,pos,after,guard:=g} s k=
 (ev s.t x).bind λ a=>(ev s.t y).bind λ b=>(ij op (tb.aB t) a b).bind λ v=>b7 s dst v k:=by
 rw[mT _ _ _ _ _ _ _ hc rfl];simp only[ib,R.eI]
def qaq:BinOp->Bool
 |.eql|.neq=>ag
 |_=>ae
def QP(op:BinOp)(t:au)(x y:bM)(r:au)(h:qaq op=ae):bT tb ih {dst,op:=.binOp op t x y r,type:=ty,pos,after,guard:=g} s k=
 (ev s.t x).bind λ a=>(ev s.t y).bind λ b=>(ij op (tb.aB t) a b).bind λ v=>b7 s dst v k:=
 Kr _ _ _ _ _ _ _ _ _ _ _ _ (by cases op<;>first|rfl|cases h)
def Q8(t:au)(x y:bM)(r:au)(h:th (tb.aB t)=ae):bT tb ih {dst,op:=.binOp .neq t x y r,type:=ty,pos,after,guard:=g} s k=
 (ev s.t x).bind λ a=>(ev s.t y).bind λ b=>(ij .neq (tb.aB t) a b).bind λ v=>b7 s dst v k:=
 Kr _ _ _ _ _ _ _ _ _ _ _ _ (by unfold cls;simp only[h,aJ])
def QX(t:au)(x y:bM)(r:au)(h:th (tb.aB t)=ae):bT tb ih {dst,op:=.binOp .eql t x y r,type:=ty,pos,after,guard:=g} s k=
 (ev s.t x).bind λ a=>(ev s.t y).bind λ b=>(ij .eql (tb.aB t) a b).bind λ v=>b7 s dst v k:=
 Kr _ _ _ _ _ _ _ _ _ _ _ _ (by unfold cls;simp only[h,aJ])
def Ra(op:UnOp)(t:au)(x:bM):bT tb ih {dst,op:=.unOp op t x,type:=ty,pos,after,guard:=g} s k=(ev s.t x).bind λ a=>(Be op a).bind λ v=>b7 s dst v k:=by
 rw[mT _ _ _ _ _ _ _ rfl rfl];simp only[ib,R.eI]
def Q1(t:au)(x y:bM):bT tb ih {dst,op:=.index t x y,type:=ty,pos,after,guard:=g} s k=(ev s.t x).bind λ a=>(ev s.t y).bind λ b=>(uL tb t a b).bind λ v=>b7 s dst v k:=by
 rw[mT _ _ _ _ _ _ _ rfl rfl];simp only[ib,R.eI]
def Q2(t:au)(x:Tmp)(y:bM):bT tb ih {dst,op:=.indexAddr t (.tmp x) y,type:=ty,pos,after,guard:=g} s k=(ev s.t (.tmp x)).bind λ a=>(ev s.t y).bind λ b=>(eE tb t a b).bind λ v=>b7 s dst v k:=by
 rw[mT _ _ _ _ _ _ _ rfl rfl];simp only[ib,R.eI]
def Q0(t:au)(x:bM)(i:Nat):bT tb ih {dst,op:=.fieldAddr t x i,type:=ty,pos,after,guard:=g} s k=(ev s.t x).bind λ a=>(bK tb t a i).bind λ v=>b7 s dst v k:=by
 rw[mT _ _ _ _ _ _ _ rfl rfl];simp only[ib,R.eI]
def QZ(t:au)(x:bM)(i:Nat):bT tb ih {dst,op:=.field t x i,type:=ty,pos,after,guard:=g} s k=(ev s.t x).bind λ a=>(Ag tb t a i).bind λ v=>b7 s dst v k:=by
 rw[mT _ _ _ _ _ _ _ rfl rfl];simp only[ib,R.eI]
def QS(t:au)(ps:Array (Nat×bM)):bT tb ih {dst,op:=.build t ps,type:=ty,pos,after,guard:=g} s k=(oI s.t ps.toList).bind λ ps=>(eu tb t ps).bind λ v=>b7 s dst v k:=by
 rw[mT _ _ _ _ _ _ _ rfl rfl];simp only[ib,R.eI]
def Q_(t:au)(x:bM)(lo hi mx:Option bM):bT tb ih {dst,op:=.slice t x lo hi mx,type:=ty,pos,after,guard:=g} s k=
 (ev s.t x).bind λ x=>(mI s.t lo).bind λ lo=>(mI s.t hi).bind λ hi=>(mI s.t mx).bind λ mx=>(iL tb t x lo hi mx).bind λ v=>b7 s dst v k:=by
 rw[mT _ _ _ _ _ _ _ rfl rfl];simp only[ib,R.eI]
def Jj(x:I)(i:Nat):R I:=
 match x with
 |.tuple vs=>match vs.toList[i]? with
  |some v=>.ok v
  |none=>.no 211
 |_=>.no 212
def QY(x:bM)(i:Nat):bT tb ih {dst,op:=.extract x i,type:=ty,pos,after,guard:=g} s k=(ev s.t x).bind λ a=>(Jj a i).bind λ v=>b7 s dst v k:=by
 rw[mT _ _ _ _ _ _ _ rfl rfl];simp only[ib,R.eI];rfl
def Gf(t:T I)(c:I)(a b:bM):R I:=
 match c with
 |.bool ae=>ev t a
 |.bool ag=>ev t b
 |_=>.no 207
def Q9(c a b:bM):bT tb ih {dst,op:=.pick c a b,type:=ty,pos,after,guard:=g} s k=(ev s.t c).bind λ c=>(Gf s.t c a b).bind λ v=>b7 s dst v k:=by
 rw[mT _ _ _ _ _ _ _ rfl rfl];simp only[ib,R.eI];rfl
def Q4(t:au)(x:Tmp):bT tb ih {dst,op:=.load t (.tmp x),type:=ty,pos,after,guard:=g} s k=(ev s.t (.tmp x)).bind λ a=>(aj tb s.m.get t a).bind λ v=>b7 s dst v k:=by
 rw[uS _ _ _ _ _ _ _ rfl rfl];simp only[eR,R.eI]
def QO(t:au):bT tb ih {dst,op:=.alloc t,type:=ty,pos,after,guard:=g} s k=(dj tb t).bind λ z=>b7 {s with m:=s.m.alloc (af t z.cells.toList)} dst (Way.ptr.at s.m.next) k:=by
 rw[AJ _ _ _ _ _ _ _ rfl rfl];simp only[lS,R.eI,R.aW]
def QR(t:au)(x:bM):bT tb ih {dst,op:=.box t x,type:=ty,pos,after,guard:=g} s k=(ev s.t x).bind λ v=>b7 {s with m:=s.m.alloc (af t v.cells.toList)} dst (Way.ptr.at s.m.next) k:=by
 rw[AJ _ _ _ _ _ _ _ rfl rfl];simp only[lS,R.eI,R.aW]
def QT(t:au)(len:Nat)(ps:Array (Nat×bM)):bT tb ih {dst,op:=.buildSlice t len ps,type:=ty,pos,after,guard:=g} s k=
 (oI s.t ps.toList).bind λ ps=>(eO tb t len ps).bind λ(ob,way)=>b7 {s with m:=s.m.alloc ob} dst (way.at s.m.next) k:=by
 rw[AJ _ _ _ _ _ _ _ rfl rfl];simp only[lS,R.eI]
def Q5(t:au)(l c:bM):bT tb ih {dst,op:=.makeSlice t l c,type:=ty,pos,after,guard:=g} s k=
 (ev s.t l).bind λ l=>(ev s.t c).bind λ c=>(tK tb t l c).bind λ(ob,way)=>b7 {s with m:=s.m.alloc ob} dst (way.at s.m.next) k:=by
 rw[AJ _ _ _ _ _ _ _ rfl rfl];simp only[lS,R.eI]
def Q'(t:au)(x v:bM):bT tb ih {dst,op:=.store t x v,type:=ty,pos,after,guard:=g} s k=
 (ev s.t x).bind λ x=>(ev s.t v).bind λ v=>(cm tb s.m t x v).bind λ A=>b7 {s with m:=A} dst cQ k:=by
 unfold bT;show((oM tb s.t s.m (.store t x v)).bind λ(v,A)=>b7 {s with m:=A} dst v k)=_;simp only[oM,R.eI,R.aW]
def isNum:Option TypeDesc->Bool
 |some (.int _)=>ae
 |_=>ag
def QW(a b:au)(x:bM)(h:isNum (tb.aB a)=ae):bT tb ih {dst,op:=.convert a b x,type:=ty,pos,after,guard:=g} s k=(ev s.t x).bind λ x=>(j' tb a b x).bind λ v=>b7 s dst v k:=by
 have hc:cls tb (.convert a b x)=.P:=by
  unfold cls;cases hu:tb.aB a with
  |none=>rw[hu]at h;cases h
  |some d=>
   rw[hu]at h;cases d<;>first
    |(cases h;done)
    |(simp only[hu];done)
    |(simp only[hu];cases tb.aB b with
     |none=>rfl
     |some d2=>cases d2<;>rfl)
 rw[mT _ _ _ _ _ _ _ hc rfl];simp only[ib,R.eI]
def qce(a b:au)(x:bM){e:au}(h:tb.aB a=U .string)(h':tb.aB b=U (.slice e)):bT tb ih {dst,op:=.convert a b x,type:=ty,pos,after,guard:=g} s k=
 (ev s.t x).bind λ x=>(y_ tb a b x).bind λ(ob,way)=>b7 {s with m:=s.m.alloc ob} dst (way.at s.m.next) k:=by
 have hc:cls tb (.convert a b x)=.Al:=by unfold cls;simp only[h,h']
 rw[AJ _ _ _ _ _ _ _ hc rfl];simp only[lS,R.eI]
def F9(a b:au)(x:bM){e:au}(h:tb.aB a=U (.slice e))(h':tb.aB b=U .string):bT tb ih {dst,op:=.convert a b x,type:=ty,pos,after,guard:=g} s k=
 (ev s.t x).bind λ x=>(gO tb s.m.get a b x).bind λ v=>b7 s dst v k:=by
 have hc:cls tb (.convert a b x)=.Rd:=by unfold cls;simp only[h,h']
 rw[uS _ _ _ _ _ _ _ hc rfl];simp only[eR,R.eI]
def qar:Option TypeDesc->Bool
 |some (.map _ _)=>ae
 |_=>ag
def Q3(args:Array bM)(t:au)(h:qar (tb.aB t)=ag):bT tb ih {dst,op:=.call {callee:=.builtin .len,args,argTypes:= #[t]},type:=ty,pos,after,guard:=g} s k=
 (fk s.t args.toList).bind λ a=>(c_ tb .len [t] a).bind λ v=>b7 s dst v k:=by
 have hc:cls tb (.call {callee:=.builtin .len,args,argTypes:= #[t]})=.P:=by
  unfold cls;cases hu:tb.aB t with
  |none=>simp only[hu]
  |some d=>rw[hu]at h;cases d<;>first|(simp only[hu];done)|cases h
 rw[mT _ _ _ _ _ _ _ hc rfl];simp only[ib,R.eI]
def Q6(b:Builtin)(args:Array bM)(ts:Array au)(h:b=.min\/b=.max\/b=.cap):bT tb ih {dst,op:=.call {callee:=.builtin b,args,argTypes:=ts},type:=ty,pos,after,guard:=g} s k=
 (fk s.t args.toList).bind λ a=>(c_ tb b ts.toList a).bind λ v=>b7 s dst v k:=by
 have hc:cls tb (.call {callee:=.builtin b,args,argTypes:=ts})=.P:=by rcases h with rfl|rfl|rfl<;>rfl
 rw[mT _ _ _ _ _ _ _ hc rfl];simp only[ib,R.eI]
def QU(b:Builtin)(args:Array bM)(ts:Array au)(h:b=.append\/b=.copy):bT tb ih {dst,op:=.call {callee:=.builtin b,args,argTypes:=ts},type:=ty,pos,after,guard:=g} s k=
 (fk s.t args.toList).bind λ a=>(wm tb s.m b ts.toList a).bind λ(v,A)=>b7 {s with m:=A} dst v k:=by
 rcases h with rfl|rfl
 all_goals
  unfold bT;show((oM tb s.t s.m (.call _)).bind λ(v,A)=>b7 {s with m:=A} dst v k)=_;simp only[oM,R.eI]
def Dh(s:St)(dst:Option Tmp)(k:St->R (Ex×St)):nh->R (Ex×St)
 |.val v A=>b7 {s with m:=A} dst v k
 |.ef v A=>.ok (.ef v,{s with m:=A})
def QV(f:FuncId)(args:Array bM)(ts:Array au):bT tb ih {dst,op:=.call {callee:=.value (.func f),args,argTypes:=ts},type:=ty,pos,after,guard:=g} s k=
 (fk s.t args.toList).bind λ a=>(cE tb ih (.fn f a) s.m).bind λ r=>Dh s dst k r:=by
 unfold bT;show((rW tb s.t s.m.get {callee:=.value (.func f),args,argTypes:=ts}).bind λ cl=>(cE tb ih cl s.m).bind λ r=>match r with
  |.val v A=>b7 {s with m:=A} dst v k
  |.ef v A=>.ok (.ef v,{s with m:=A}))=_
 have hcl:rW tb s.t s.m.get {callee:=.value (.func f),args,argTypes:=ts}=(fk s.t args.toList).bind λ a=>.ok (.fn f a):=by
  unfold rW;cases fk s.t args.toList with
  |no _=>rfl
  |ok a=>simp only[R.aW,ev,tw,lL,jT]
 rw[hcl];simp only[R.eI,R.aW];cases fk s.t args.toList with
 |no _=>rfl
 |ok a=>
  simp only[R.aW];cases cE tb ih (.fn f a) s.m with
  |no _=>rfl
  |ok r=>cases r<;>rfl
end
def filter_none{α:Type}(l:List α):l.filter (λ _=>ag)=[]:=by simp
def Po(A:Mem):iq [] A=A:=rfl
theorem R_(ops:List Oper):∀(l:List Oper) (i:Nat) (mems:List (Nat×Mem)) (recs:List Rec) (mks:List (Nat×Nat)) (s:St),dY tb ih ops [] l i mems recs mks s=ja tb ih ops l s
 | [],_,_,_,_,_=>rfl
 |o::l,i,mems,recs,mks,s=>by
  show((iM ops o s.t).bind λ w=>
   bif w then
    match cls tb o.op with
    |.L=>bT tb ih o {s with m:=iq ((mks.filter λ x=>eK x.1 i []).map (·.2)) s.m} λ s'=>
     (ji s.m.get ((mks.filter λ x=>eK x.1 i []).map (·.2)) s'.m).bind λ A=>
     bif (recs.filter λ x=>eK x.i i []).all (jy tb A.get)then dY tb ih ops [] l (i+1) ((i,s.m)::mems) recs mks {s' with m:=A}else .no 310
    |.Rd=>(eR tb s.t s.m.get o.op).bind λ v=>
     bif (mems.filter λ m=>eK i m.1 []).all (λ m=>jy tb m.2.get ⟨i,s.t,o.op,v⟩)then b7 s o.dst v (dY tb ih ops [] l (i+1) mems (⟨i,s.t,o.op,v⟩::recs) mks)else .no 311
    |.Al=>bT tb ih o s λ s'=>dY tb ih ops [] l (i+1) (rL s.m.next (s'.m.get s.m.next) mems) recs ((i,s.m.next)::mks) s'
    |.P=>bT tb ih o s (dY tb ih ops [] l (i+1) mems recs mks)
   else b7 s o.dst cQ (dY tb ih ops [] l (i+1) mems recs mks))=((iM ops o s.t).bind λ w=>bif w then bT tb ih o s (ja tb ih ops l)else b7 s o.dst cQ (ja tb ih ops l))
  have e:∀i mems recs mks,dY tb ih ops [] l i mems recs mks=ja tb ih ops l:=λ i mems recs mks=>funext λ s=>R_ ops l i mems recs mks s
  have hp:∀a b:Nat,eK a b []=ag:=λ _ _=>rfl
  simp only[e,hp,filter_none,sQ,Po,ji,R.aW,List.all_nil,aJ];cases iM ops o s.t with
  |no _=>rfl
  |ok w=>
   cases w with
   |false=>rfl
   |true=>
    simp only[R.aW,aJ];cases hc:cls tb o.op with
    |Rd=>
     simp only
     unfold bT;have hi:qd o.op=V:=by
      cases ho:qd o.op with
      |none=>rfl
      |some c=>
       exfalso;unfold qd at ho;split at ho
       .rename_i c' hop;rw[hop]at hc;unfold cls at hc;simp only at hc;split at hc
        .rename_i hb;rw[hb]at ho;simp at ho
        .cases hc
       .cases ho
     simp only[hi,hc]
    |_=>rfl
def NF(tb:aN)(ops:List Oper):Bool:=
 match uF tb ops with
 |.ok []=>ae
 |_=>ag
variable {n:Nat}{ops:Array Oper}
def N6{id:Nat}{s:St}(h:NF tb ops.toList=ae):exec tb (n+1) (.region id ops ae) s=(ja tb (exec tb n) ops.toList ops.toList s).bind λ(e,s)=>match e with
 |.nrm=>.ok (.nrm,s)
 |_=>.no 312:=by
 have h':uF tb ops.toList=.ok []:=by
  unfold NF at h;split at h
  .assumption
  .cases h
 show((uF tb ops.toList).bind λ fl=>(dY tb (exec tb n) ops.toList fl ops.toList 0 [] [] [] s).bind λ(e,s)=>_)=_;rw[h'];simp only[R.aW,R_];rfl
def RH(s:St)(v:I)(k:St->R (Ex×St)):b7 s V v k=k s:=rfl
variable {t:T I}{i:Nat}{v:I}
def RI{d:List Nat}{m:Mem}{ro:Option Nat}{k:St->R (Ex×St)}(h:i<n):b7 ⟨t,n,d,m,ro⟩ (U i) v k=k ⟨t.set i v,n,d,m,ro⟩:=by
 rw[RG (by simpa using h)];rfl
def Mt(b:Nat):Way.ptr.at b=.pointer (U ⟨b,0,V⟩):=rfl
def Cf(b len cap:Nat):(Way.dZ len cap).at b=.slice (U ⟨b,0,V⟩) len cap:=rfl
def Sd{ops l:List Oper}{o:Oper}{s:St}(h:iM ops o s.t=.ok ae):ja tb ih ops (o::l) s=bT tb ih o s (ja tb ih ops l):=by
 show((iM ops o s.t).bind λ w=>bif w then bT tb ih o s (ja tb ih ops l)else b7 s o.dst cQ (ja tb ih ops l))=_;rw[h];rfl
def Sb{ops l:List Oper}{o:Oper}{s:St}(h:iM ops o s.t=.ok ag):ja tb ih ops (o::l) s=b7 s o.dst cQ (ja tb ih ops l):=by
 show((iM ops o s.t).bind λ w=>bif w then bT tb ih o s (ja tb ih ops l)else b7 s o.dst cQ (ja tb ih ops l))=_;rw[h];rfl
def DJ(want:Bool)(v:Option I):R Bool:=
 match v with
 |some (.bool b)=>.ok (bif b then want else !want)
 |some (.tuple _)=>.ok ag
 |some _=>.no 257
 |none=>.no 253
def yG:List Oper->Nat->Option Tmp
 | [],_=>V
 |o::_,0=>o.dst
 |_::l,n+1=>yG l n
def NK(o:Oper)(l:List Oper):yG (o::l) 0=o.dst:=rfl
def NJ(o:Oper)(l:List Oper)(n:Nat):yG (o::l) (n+1)=yG l n:=rfl
theorem NI:∀(l:List Oper) (j:Nat) (d:Tmp),yG l j=U d->∃o,l[j]?=U o/\o.dst=U d
 | [],_,_,h=>by cases h
 |o::_,0,_,h=>⟨o,rfl,h⟩
 |_::l,n+1,d,h=>by
  obtain⟨o,h1,h2⟩:=NI l n d h;exact⟨o,by simpa using h1,h2⟩
def LG(ops:List Oper)(o:Oper)(want:Bool)(t:T I)(d:Option Tmp):R Bool:=
 match d with
 |some d=>DJ want (t.get d)
 |none=>iM ops o t
def Ut(ops:List Oper)(dst:Option Tmp)(op:Op)(ty:au)(pos:String)(after:Array Edge)(j:Nat)(want:Bool)(t:T I):
 iM ops {dst,op,type:=ty,pos,after,guard:=U (j,want)} t=LG ops {dst,op,type:=ty,pos,after,guard:=U (j,want)} want t (yG ops j):=by
 cases hd:yG ops j with
 |none=>rfl
 |some d=>
  obtain⟨o,h1,h2⟩:=NI ops j d hd;unfold iM LG DJ;simp only[h1,h2];rfl
def Us(ops:List Oper)(o:Oper)(want:Bool)(t:T I)(d:Tmp):LG ops o want t (U d)=DJ want (t.get d):=rfl
def Uu(want b:Bool):DJ want (U (.bool b))=.ok (bif b then want else !want):=rfl
def Uv(want:Bool)(x:Array I):DJ want (U (.tuple x))=.ok ag:=rfl
def NX(v:Option I):R I:=
 match v with
 |some v=>.ok v
 |none=>.no 200
def qP(t:T I)(i:Nat):ev t (.tmp i)=NX (t.get i):=rfl
def qO(v:I):NX (U v)=.ok v:=rfl
def N2(t:T I)(k:cS)(n:Nat):ev t (.const (.int k (no_index (OfNat.ofNat n))))=.ok (.int k ((OfNat.ofNat n:Nat):Int)):=rfl
def NY(t:T I)(b:Bool):ev t (.const (.bool b))=.ok (.bool b):=rfl
def MG{op:BinOp}{d:Option TypeDesc}{k:cS}{a b:Int}(h1:op≠.shl)(h2:op≠.shr):ij op d (.int k a) (.int k b)=a_ op k a b:=by
 have hk:jv k k=ae:=by cases k<;>rfl
 unfold ij;cases op<;>first|exact aU rfl h1|exact aU rfl h2|(simp only[hk,aJ])
variable {b:Nat}
def C_{k:cS}{a:Nat}(h:0<b):a_ .rem k (a:Int) (b:Int)=.ok (.int k ((a % b:Nat):Int)):=by
 obtain⟨c,rfl⟩:∃c,b=c+1:=⟨b-1,by omega⟩;rfl
def As(h:n<4294967296):di .u32 (n:Int)=ae:=by
 show aO n 4294967296=ae;rw[bZ];exact h
def qc(h:n<256):di .u8 (n:Int)=ae:=by
 show aO n 256=ae;rw[bZ];exact h
def ct(h:n<9223372036854775808):di .i64 (n:Int)=ae:=by
 show aO n 9223372036854775808=ae;rw[bZ];exact h
def Rm{a:Nat}(h:0<b)(ha:a<4294967296):a_ .quo .u32 (a:Int) (b:Int)=.ok (.int .u32 (a/b:Nat)):=by
 obtain⟨c,rfl⟩:∃c,b=c+1:=⟨b-1,by omega⟩;show R.ok (Value.int .u32 (eL .u32 ((a/(c+1):Nat):Int)))=_;unfold eL;rw[As (mz (Hp ..) ha)];rfl
def Rq{a:Nat}(ha:a<4294967296)(hb:b<4294967296):a_ .xor .u32 (a:Int) (b:Int)=.ok (.int .u32 (a^^^b:Nat)):=by
 show(bif di .u32 (a:Int)&&di .u32 (b:Int)then R.ok (Value.int .u32 (a^^^b:Nat))else .no 12)=_;rw[As ha,As hb];rfl
def Rj{k:cS}{a:Nat}:a_ .neq k (a:Int) (b:Int)=.ok (.bool (decide (a≠b))):=by
 show R.ok (Value.bool (!aL a b))=_;congr 2;cases h:aL a b with
 |true=>simp[eW h]
 |false=>simp[Hs h]
def Ku{k:cS}{a:Nat}:a_ .lss k (a:Int) (b:Int)=.ok (.bool (decide (a<b))):=by
 show R.ok (Value.bool (aO a b))=_;congr 2;rw[qk];simp[bZ]
def Rb{a:Nat}(h:a+b<9223372036854775808):a_ .add .i64 (a:Int) (b:Int)=.ok (.int .i64 (a+b:Nat)):=by
 show R.ok (Value.int .i64 (eL .i64 ((a+b:Nat):Int)))=_;unfold eL;rw[ct h];rfl
end
end Go.Am
end
