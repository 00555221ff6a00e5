/- The abstract machine, the walk of the law and its plain laws, made small by a program; part 2: no conditions but those in each theorem. -/
import Derived.Test.YtjoceidiioppiaaGreatDoorQ01
import Derived.RangeFuncRecord
import Derived.RangeFuncNested
import Derived.RangeFuncIn
import Derived.Orders
import Derived.Lib.Overlaps
import Derived.Lib.Bytealg
import Derived.Eval
import Derived.Below
import Derived.ChangeSame
import Derived.ProofKit
import Derived.OpenShut
set_option maxHeartbeats 16000000
set_option maxRecDepth 100000
set_option linter.unusedSimpArgs false
set_option linter.unusedVariables false
noncomputable section
open Nat renaming le_refl→qao,ble→qaq,beq→qaw,blt→qax,zero_le→qaB,lt_of_lt_of_le→qaD,le_of_ble_eq_true→qaG,blt_eq→qaH,eq_of_beq_eq_true→qaL,le_trans→qaV,lt_or_ge→qaZ,zero_add→qa1,mod_lt→qbE,lt_succ_self→qbP,beq_eq→qcI,strongRecOn→qcL,lt_trichotomy→qcT,lt_or_gt_of_ne→qeh,le_of_lt→qeF,le_total→qeG
open Prod.mk renaming injEq→qat
open List renaming getElem?_cons_zero→qau,mem_cons_of_mem→qay,mem_cons_self→qaz,length_cons→qaA,mem_cons→qaK,getElem?_map→qaN,length_eq_zero_iff→qaP,mem_of_getElem?→qa0,mem_map→qa3,replicate→qa7,getElem?_take→qbm,filter_cons→qbp,nil_append→qbv,map_cons→qbx,all_eq_true→qby,range→qbN,mem_append_right→qbU,mem_filter→qbV,length→qcE,range'→qcF,mem_flatMap→qds,mem_append_left→qd5,all_cons→qet
open Bool renaming false_eq_true→qaI,and_eq_true→qaO,eq_iff_iff→qbK,or_eq_false_iff→qcH,or_eq_true→qeC
open Array renaming getElem?_eq_some_iff→qaM,getElem?_toList→qaU,ext'→qbT,length_toList→qb5,replicate→qb9,getElem?_append_left→qcr,getElem?_eq_getElem→qdk,getD_eq_getD_getElem?→qdX
open Int renaming ofNat→qaW,ofNat_eq_natCast→qa2
open Option.some renaming injEq→qaX,inj→qbo
open List.cons renaming injEq→qa4
open Option renaming map_some→qa5,bind_some→qcf
open UInt8 renaming ofNat→qbD,toNat_inj→qdf,toNat_ofNat'→qep
open Classical renaming byContradiction→qca
namespace Go.Am
section
variable {tb:bO} (ok:cC tb) {ih:Code→St→R (Ex×St)} {ι:de}
def WZ (ι:de) (ro:Option Nat) (r:Option Nat):Prop:=
 match ro with
 |none=>r=none
 |some l=>∃ld,ι l=some ld∧r=some ld.blk
variable {ι':de}
theorem WZ.mono {ι:de} (hi:eK ι ι') {ro r:Option Nat} (h:WZ ι ro r):WZ ι' ro r:=by
 cases ro with
 |none=>exact h
 |some l=>obtain⟨ld,h1,h2⟩:=h;exact⟨ld,hi _ _ h1,h2⟩
structure SR (ι:de) (s:St) (b:Frame) (a:Act) (w:World):Prop where
 rel:Rel ι s.m w
 tr:TR ι s.n s.t a.tmps
 ro:WZ ι s.ro b.roundOf
 dr:DR ι s.d a.defers b.defers
structure qa (ι:de) (s:St) (w:World) (ι':de) (s':St) (w':World):Prop where
 stp:eH ι s.m w ι' s'.m w'
 n:s'.n=s.n
 ro:s'.ro=s.ro
theorem qa.refl (ι:de) (s:St) (w:World):qa ι s w ι s w:=⟨eH.refl _ _ _,rfl,rfl⟩
variable {s1:St}
theorem qa.trans {ι ι1 ι2:de} {s s2:St} {w w1 w2:World} (h:qa ι s w ι1 s1 w1) (k:qa ι1 s1 w1 ι2 s2 w2):qa ι s w ι2 s2 w2:=
 ⟨h.stp.trans k.stp,k.n.trans h.n,k.ro.trans h.ro⟩
variable {A A':Mem} {vs:List Value}
theorem iH {a:Addr} (h:dc A a vs= .ok A'):A'.next=A.next:=by
 unfold dc at h;split at h
 ·simp only [R.ok.injEq] at h;rw [h]
 ·split at h
  ·obtain⟨_,_,h2⟩:=R.ai h;simp only [R.ok.injEq] at h2;subst h2;rfl
  ·cases h
variable {base:Option Addr} {cap size n:Nat} {v:Value}
theorem rz {elem:TypeId} {len:Nat} {new:List Value} (h4:cO tb A elem base len cap size n new= .ok (v,A')):A.next≤A'.next:=by
 unfold cO at h4;revert h4;generalize (qaq _ (bJ _))=q;intro h4;cases q with
 |true=>
  simp only [cond_true] at h4;split at h4
  ·simp only [R.ok.injEq,qat] at h4;rw [h4.2];exact qao _
  ·split at h4
   ·cases h4
   ·obtain⟨A2,e,h5⟩:=R.ai h4;simp only [R.ok.injEq,qat] at h5;rw [←h5.2,iH e];exact qao _
 |false=>
  simp only [cond_false] at h4;split at h4
  ·cases h4
  ·revert h4;generalize (qaq _ 16777216&&_&&_&&_&&_)=q;intro h4;cases q with
   |false=>cases h4
   |true=>
    simp only [cond_true] at h4;obtain⟨old,_,h5⟩:=R.ai h4;clear h4;revert h5;generalize dN _=q;intro h5;cases q with
    |true=>
     simp only [cond_true,R.ok.injEq,qat] at h5;rw [←h5.2,ae];omega
    |false=>
     simp only [cond_false] at h5;split at h5
     ·revert h5;generalize (qaw (gO _) _&&_)=q;intro h5;cases q with
      |false=>cases h5
      |true=>
       simp only [cond_true] at h5;split at h5
       ·revert h5;generalize (qaq _ _&&(qaw _ _&&qax _ _))=q;intro h5;cases q with
        |false=>cases h5
        |true=>
         simp only [cond_true] at h5;split at h5
         ·cases h5
         ·cases h5
         ·simp only [R.ok.injEq,qat] at h5;rw [←h5.2,ae,aO];omega
       ·cases h5
     ·cases h5
theorem Cc {st xt:TypeId} {s x:Value} (h:bj tb A st xt s x= .ok (v,A')):A.next≤A'.next:=by
 unfold bj at h;split at h
 ·rename_i xd _ _;cases hx:eP xd with
  |true=>
   rw [hx,cond_true] at h;unfold Cd at h;obtain⟨⟨_,_⟩,_,h2⟩:=R.ai h;obtain⟨n,_,h3⟩:=R.ai h2;split at h3
   ·cases h3
   ·revert h3;generalize (qaq n _&&_)=q;intro h3;cases q with
    |false=>cases h3
    |true=>exact rz h3
  |false=>
   rw [hx] at h;simp only [cond_false] at h;obtain⟨⟨_,_⟩,_,h2⟩:=R.ai h;obtain⟨n,_,h3⟩:=R.ai h2;obtain⟨new,_,h4⟩:=R.ai h3;exact rz h4
 ·cases h
theorem nV {t:TypeId} {m k:Value} (h:c_ tb A t m k v= .ok A'):A'.next=A.next:=by
 unfold c_ at h;split at h
 ·rename_i kt _ _ _;cases hk:eQ tb kt k with
  |false=>rw [hk] at h;cases h
  |true=>
   rw [hk] at h;simp only [cond_true] at h;split at h
   ·split at h<;>first
     |(simp only [R.ok.injEq] at h;subst h;rfl)
     |cases h
   ·cases h
 ·cases h
theorem OC {τ:T Value} {o:Op} (h:HI tb τ A o= .ok (v,A')):A.next≤A'.next:=by
 unfold HI at h;split at h
 ·obtain⟨_,_,h2⟩:=R.ai h;obtain⟨_,_,h3⟩:=R.ai h2;obtain⟨A2,h4,h5⟩:=R.ai h3;simp only [R.ok.injEq,qat] at h5;obtain⟨_,rfl⟩:=h5;unfold aW at h4;split at h4
  ·obtain⟨n,_,h6⟩:=R.ai h4;revert h6;generalize qaw _ n=q;intro h6;cases q with
   |false=>cases h6
   |true=>rw [iH h6];exact qao _
  ·cases h4
 ·obtain⟨_,_,h2⟩:=R.ai h;obtain⟨_,_,h3⟩:=R.ai h2;obtain⟨_,_,h4⟩:=R.ai h3;obtain⟨A2,h5,h6⟩:=R.ai h4;simp only [R.ok.injEq,qat] at h6;obtain⟨_,rfl⟩:=h6;rw [nV h5];exact qao _
 ·obtain⟨_,_,h2⟩:=R.ai h;obtain⟨_,_,h3⟩:=R.ai h2;obtain⟨_,_,h4⟩:=R.ai h3;obtain⟨A2,h5,h6⟩:=R.ai h4;simp only [R.ok.injEq,qat] at h6;obtain⟨_,rfl⟩:=h6;rw [nV h5];exact qao _
 ·obtain⟨_,_,h2⟩:=R.ai h;unfold tR at h2;split at h2
  ·simp only [R.ok.injEq,qat] at h2;rw [←h2.2,ae];omega
  ·split at h2
   ·simp only [R.ok.injEq,qat] at h2;rw [←h2.2,ae];omega
   ·cases h2
  ·cases h2
 ·obtain⟨_,_,h2⟩:=R.ai h;unfold JD at h2;split at h2
  ·split at h2
   ·revert h2;generalize qax _ _=q;intro h2;cases q with
    |true=>simp only [cond_true,R.ok.injEq,qat] at h2;rw [←h2.2,aO];exact qao _
    |false=>simp only [cond_false,R.ok.injEq,qat] at h2;rw [h2.2];exact qao _
   ·cases h2
  ·split at h2
   ·split at h2
    ·revert h2;generalize (_&&_)=q;intro h2;cases q with
     |true=>
      simp only [cond_true] at h2;split at h2
      ·simp only [R.ok.injEq,qat] at h2;rw [←h2.2,aO];exact qao _
      ·revert h2;generalize qaw _ _=q;intro h2;cases q with
       |true=>simp only [cond_true,R.ok.injEq,qat] at h2;rw [h2.2];exact qao _
       |false=>cases h2
     |false=>cases h2
    ·cases h2
   ·cases h2
  ·cases h2
 ·obtain⟨_,_,h2⟩:=R.ai h;unfold CJ at h2;split at h2
  ·split at h2
   ·split at h2
    ·revert h2;generalize (_&&_)=q;intro h2;cases q with
     |true=>simp only [cond_true,R.ok.injEq,qat] at h2;rw [h2.2];exact qao _
     |false=>cases h2
    ·cases h2
   ·cases h2
  ·cases h2
 ·split at h
  ·obtain⟨args,_,h2⟩:=R.ai h;unfold gJ at h2;split at h2
   ·exact Cc h2
   ·unfold I3 at h2;split at h2
    ·obtain⟨_,_,h3⟩:=R.ai h2;obtain⟨_,_,h4⟩:=R.ai h3;obtain⟨_,_,h5⟩:=R.ai h4;split at h5
     ·simp only [R.ok.injEq,qat] at h5;rw [h5.2];exact qao _
     ·obtain⟨A2,e,h6⟩:=R.ai h5;simp only [R.ok.injEq,qat] at h6;rw [←h6.2,iH e];exact qao _
    ·cases h2
   ·unfold CE at h2;split at h2
    ·simp only [R.ok.injEq,qat] at h2;rw [h2.2];exact qao _
    ·split at h2
     ·simp only [R.ok.injEq,qat] at h2;rw [←h2.2,aO];exact qao _
     ·cases h2
    ·simp only [R.ok.injEq,qat] at h2;rw [h2.2];exact qao _
    ·revert h2;generalize qaw _ 0=q;intro h2;cases q with
     |true=>simp only [cond_true,R.ok.injEq,qat] at h2;rw [h2.2];exact qao _
     |false=>
      simp only [cond_false] at h2;obtain⟨⟨_,_⟩,_,h3⟩:=R.ai h2;obtain⟨A2,e,h4⟩:=R.ai h3;simp only [R.ok.injEq,qat] at h4;rw [←h4.2,iH e];exact qao _
    ·cases h2
   ·unfold vW at h2;split at h2
    ·revert h2;generalize eQ _ _ _=q;intro h2;cases q with
     |false=>cases h2
     |true=>simp only [cond_true,R.ok.injEq,qat] at h2;rw [h2.2];exact qao _
    ·revert h2;generalize eQ _ _ _=q;intro h2;cases q with
     |false=>cases h2
     |true=>
      simp only [cond_true] at h2;split at h2
      ·split at h2<;>first
        |(simp only [R.ok.injEq,qat] at h2;rw [←h2.2,aO];exact qao _)
        |cases h2
      ·cases h2
    ·cases h2
   ·unfold zq at h2;obtain⟨n,_,h3⟩:=R.ai h2;split at h3
    ·split at h3
     ·obtain⟨sz,_,h4⟩:=R.ai h3;revert h4;generalize (_&&_&&_&&qaq n 16777216&&_)=q;intro h4;cases q with
      |false=>cases h4
      |true=>
       simp only [cond_true] at h4;split at h4
       ·split at h4
        ·cases h4
        ·obtain⟨_,_,h5⟩:=R.ai h4;simp only [R.ok.injEq,qat] at h5;rw [←h5.2,aO];exact qao _
       ·cases h4
     ·cases h3
    ·revert h3;generalize qaw n 0=q;intro h3;cases q with
     |false=>cases h3
     |true=>
      simp only [cond_true,R.ok.injEq,qat] at h3;rw [←h3.2];exact qao _
    ·cases h3
   ·cases h2
  ·cases h
 ·cases h
def gQ (tb:bO) (ih:Code→St→R (Ex×St)):Prop:=
 ∀(cl:Cl) (A:Mem) (r:Gp),bA tb ih cl A= .ok r→(∃v A',r= .kx v A'∧A.next≤A'.next∧∀(ι:de) (w:World) (s:Sem Next) (fr:Frame) (cs:List Frame),Rel ι A w→T_ tb.P ι w cl s→eU ι A A'→
  ∃ι' w' v',BV tb.P s w v' w' fr cs∧VR ι' v v'∧Rel ι' A' w'∧eH ι A w ι' A' w')∨∃v A',r= .val v A'∧A.next≤A'.next∧∀(ι:de) (w:World) (s:Sem Next) (fr:Frame) (cs:List Frame),Rel ι A w→T_ tb.P ι w cl s→eU ι A A'→
  ∃ι' w' v',mj tb.P s w v' w' fr cs∧VR ι' v v'∧Rel ι' A' w'∧eH ι A w ι' A' w'
def ML (P:Program) (ops:Array Oper) (i:Nat) (o:Oper) (s s1:St):Prop:=
 s.m.next≤s1.m.next∧∀(ι:de) (b:Frame) (a:Act) (k:List Item) (cs:List Frame) (w:World) (rest:List Nat),SR ι s b a w→eU ι s.m s1.m→Region.wanted o (yielded ops a.tmps)=true→
  ops[i]?=some o→∃ι' w' a',Steps P (lone (b.atR a (.inRegion ops (i::rest)::k)) cs w) (lone (b.atR a' (.inRegion ops rest::k)) cs w')∧SR ι' s1 b a' w'∧qa ι s w ι' s1 w'
def WW (P:Program) (ops:Array Oper) (i:Nat) (o:Oper) (s:St) (v:Value) (s1:St):Prop:=
 s.m.next≤s1.m.next∧∀(ι:de) (b:Frame) (a:Act) (k:List Item) (cs:List Frame) (w:World) (rest:List Nat),SR ι s b a w→eU ι s.m s1.m→Region.wanted o (yielded ops a.tmps)=true→
  ops[i]?=some o→∃ι' w' v',Steps P (lone (b.atR a (.inRegion ops (i::rest)::k)) cs w) (lone {b.atR a (.inRegion ops (i::rest)::k) with mode:=.panicking [{v:=v',recovered:=false}]} cs w')∧
   VR ι' v v'∧SR ι' s1 b a w'∧qa ι s w ι' s1 w'
variable {dst:Option Tmp}
theorem mI {s:St} {k:St→R (Ex×St)} {r:Ex×St} (h:bR s dst v k= .ok r):
 ∃s1,k s1= .ok r∧s1.m=s.m∧s1.n=s.n∧s1.ro=s.ro∧s1.d=s.d∧∀ι (a:Act) v',TR ι s.n s.t a.tmps→VR ι v v'→TR ι s1.n s1.t (a.put dst v').tmps∧(a.put dst v').defers=a.defers:=by
 unfold bR at h;split at h
 ·exact⟨s,h,rfl,rfl,rfl,rfl,fun ι a v' ht _=>⟨ht,rfl⟩⟩
 ·rename_i d;cases hb:qax d s.n with
  |false=>rw [hb] at h;cases h
  |true=>
   rw [hb] at h;simp only [cond_true,CV] at h;exact⟨_,h,rfl,rfl,rfl,rfl,fun ι a v' ht hv=>⟨ht.set (cS hb) hv,rfl⟩⟩
theorem dR {o:Op} (h:cls tb o≠ .L):∀c,o≠ .defer c:=by
 rintro c rfl;exact h rfl
include ok in
theorem tP (hcall:gQ tb ih) {ops:Array Oper} {i:Nat} {o:Oper} {s:St} {k:St→R (Ex×St)} {r:Ex×St} (h:dL tb ih o s k= .ok r):
 (∃v s1,r=(.kx v,s1)∧WW tb.P ops i o s v s1)∨∃s1,k s1= .ok r∧ML tb.P ops i o s s1:=by
 unfold dL at h;split at h
 ·rename_i c hc;obtain⟨cl,h1,h2⟩:=R.ai h;obtain⟨res,h3,h4⟩:=R.ai h2;split at h4
  ·rename_i v A;obtain⟨s1,hk,hm,hn,hro,hd,hput⟩:=mI h4;refine .inr ⟨s1,hk,?_⟩;rcases hcall cl s.m _ h3 with⟨_,_,he,_⟩|⟨v2,A2,he,hle,hsnd⟩
   ·cases he
   ·cases he;refine⟨by rw [hm];exact hle,fun ι b a k cs w rest hs hf hw ho=>?_⟩;have hcl:=xc ok hs.rel hc h1 hs.tr;obtain⟨ι',w',v',hdone,hv,hrel,hst⟩:=hsnd ι w _ (b.atR a (.inRegion ops (i::rest)::k)) cs hs.rel hcl (by rw [hm] at hf;exact hf);have hi:=hst.le (by rw [hm] at hf;exact hf);have hnd:∀c,o.op≠ .defer c:=by rintro c' he;rw [he] at hc;cases hc
    obtain⟨ht',hd'⟩:=hput ι' a v' (hs.tr.mono hi) hv;refine⟨ι',w',a.put o.dst v',hdone.op ho hw hnd,⟨by rw [hm];exact hrel,ht',by rw [hro];exact hs.ro.mono hi,by rw [hd,hd'];exact hs.dr.mono hi⟩,⟨by rw [hm];exact hst,hn,hro⟩⟩
  ·rename_i v A;simp only [R.ok.injEq] at h4;rcases hcall cl s.m _ h3 with⟨v2,A2,he,hle,hsnd⟩|⟨_,_,he,_⟩
   ·cases he;refine .inl ⟨v,_,h4.symm,hle,fun ι b a k cs w rest hs hf hw ho=>?_⟩;have hcl:=xc ok hs.rel hc h1 hs.tr;obtain⟨ι',w',v',hdone,hv,hrel,hst⟩:=hsnd ι w _ (b.atR a (.inRegion ops (i::rest)::k)) cs hs.rel hcl hf;have hi:=hst.le hf;have hnd:∀c,o.op≠ .defer c:=by rintro c' he;rw [he] at hc;cases hc
    exact⟨ι',w',v',hdone.op ho hw hnd,hv,⟨hrel,hs.tr.mono hi,hs.ro.mono hi,hs.dr.mono hi⟩,⟨hst,rfl,rfl⟩⟩
   ·cases he
 ·rename_i hnc;have quiet:∀{v:Value},bR s o.dst v k= .ok r→(∀c,o.op≠ .defer c)→(∀ι (a:Act) w,Rel ι s.m w→TR ι s.n s.t a.tmps→∃v',(execOp a.eval o).run tb.P w= .ok (.value v') w∧VR ι v v')→
   ∃s1,k s1= .ok r∧ML tb.P ops i o s s1:=by
   intro v h4 hnd hrun;obtain⟨s1,hk,hm,hn,hro,hd,hput⟩:=mI h4;refine⟨s1,hk,by rw [hm];exact qao _,fun ι b a k cs w rest hs hf hw ho=>?_⟩;obtain⟨v',e,hv⟩:=hrun ι a w hs.rel hs.tr;obtain⟨ht',hd'⟩:=hput ι a v' hs.tr hv;exact⟨ι,w,a.put o.dst v',.one (eF ho hw hnd e (.inl rfl)),⟨by rw [hm];exact hs.rel,ht',by rw [hro];exact hs.ro,by rw [hd,hd'];exact hs.dr⟩,⟨by rw [hm];exact eH.refl _ _ _,hn,hro⟩⟩
  split at h
  ·rename_i hcls;obtain⟨v,h1,h2⟩:=R.ai h;refine .inr (quiet h2 (dR (tb:=tb) (by rw [hcls];simp)) fun ι a w _ ht=>?_);obtain⟨v',e,hv⟩:=Bl ok h1 ht;exact⟨v',e w,hv⟩
  ·rename_i hcls;obtain⟨v,h1,h2⟩:=R.ai h;exact .inr (quiet h2 (dR (tb:=tb) (by rw [hcls];simp)) fun ι a w hr ht=>Bq ok hr h1 hcls ht)
  ·rename_i hcls;obtain⟨⟨ob,way⟩,h1,h2⟩:=R.ai h;obtain⟨s1,hk,hm,hn,hro,hd,hput⟩:=mI h2;simp only at hm hn hro hd hput;refine .inr ⟨s1,hk,by rw [hm,ae];omega,fun ι b a k cs w rest hs hf hw ho=>?_⟩;rw [hm] at hf;have hfn:ι s.m.next=none:=hf _ (qao _) (by rw [ae];omega)
   obtain⟨ι',w',v',e,hv,hrel,hst⟩:=Ad ok hs.rel h1 hs.tr hfn;have hi:=hst.le hf;obtain⟨ht',hd'⟩:=hput ι' a v' (hs.tr.mono hi) hv;exact⟨ι',w',a.put o.dst v',.one (eF ho hw (dR (tb:=tb) (by rw [hcls];simp)) e (.inl rfl)),⟨by rw [hm];exact hrel,ht',by rw [hro];exact hs.ro.mono hi,by rw [hd,hd'];exact hs.dr.mono hi⟩,⟨by rw [hm];exact hst,hn,hro⟩⟩
  ·rename_i hcls;split at h
   ·rename_i x hop;obtain⟨xv,h1,h2⟩:=R.ai h;split at h2
    ·rename_i tx vx;simp only [R.ok.injEq] at h2;refine .inl ⟨_,_,h2.symm,qao _,fun ι b a k cs w rest hs hf hw ho=>?_⟩;have hv:=aS h1 hs.tr;have hnd:∀c,o.op≠ .defer c:=by intro c he;rw [hop] at he;cases he
     obtain⟨v',hx',hv'⟩:∃v',a.eval x= .iface tx v'∧VR ι vx v':=by
      revert hv;generalize a.eval x=y;intro hv;cases hv with
      |iface h=>exact⟨_,rfl,h⟩
     refine⟨ι,w,.iface tx v',.one (zd ho hw hnd ?_),.iface hv',hs,qa.refl _ _ _⟩;rw [execOp,hop];simp only [hx',Instr.panic,Sem.run_bind];rfl
    ·cases h2
   ·obtain⟨⟨v,A⟩,h1,h2⟩:=R.ai h;obtain⟨s1,hk,hm,hn,hro,hd,hput⟩:=mI h2;simp only at hm hn hro hd hput;have hnd:∀c,o.op≠ .defer c:=by
     intro c he;rw [he] at h1;cases h1
    refine .inr ⟨s1,hk,by rw [hm];exact OC h1,fun ι b a k cs w rest hs hf hw ho=>?_⟩;rw [hm] at hf;obtain⟨ι',w',nx,v',e,hnx,hv,hrel,hst⟩:=Lj ok hs.rel h1 hs.tr hf;have hi:=hst.le hf;obtain⟨ht',hd'⟩:=hput ι' a v' (hs.tr.mono hi) hv;exact⟨ι',w',a.put o.dst v',.one (eF ho hw hnd e hnx),⟨by rw [hm];exact hrel,ht',by rw [hro];exact hs.ro.mono hi,by rw [hd,hd'];exact hs.dr.mono hi⟩,⟨by rw [hm];exact hst,hn,hro⟩⟩
end
section
variable {tb:bO} (ok:cC tb) {ih:Code→St→R (Ex×St)} {ι:de}
variable {v':Value}
theorem VR.oD {b:Bool} (h:VR ι (.bool b) v'):v'= .bool b:=by cases h;rfl
theorem VR.Mr {x:Array Value} (h:VR ι (.tuple x) v'):∃y,v'= .tuple y:=by cases h;exact⟨_,rfl⟩
variable {ops:Array Oper} {j:Nat} {v:Value}
theorem zC {t:Array Value} {oj:Oper} {d:Tmp} (hj:ops[j]?=some oj) (hd:oj.dst=some d) (hv:t[d]?=some v):
 yielded ops t j=match v with| .bool b=>some b|_=>none:=by
 unfold yielded;rw [hj];simp only [qcf,hd,hv];cases v<;>rfl
variable {n:Nat}
theorem lU {o:Oper} {τ:T Value} {t:Array Value} {b:Bool} (h:fu ops.toList o τ= .ok b) (ht:TR ι n τ t):
 Region.wanted o (yielded ops t)=b:=by
 unfold fu at h;unfold Region.wanted;split at h
 ·rename_i hg;rw [hg];simp only [R.ok.injEq] at h;exact h
 ·rename_i j want hg;rw [hg];simp only
  split at h
  ·rename_i oj hj;have hj':ops[j]?=some oj:=by rw [←hj];simp
   split at h
   ·rename_i d hd;split at h
    ·rename_i c hc;obtain⟨v',e,r⟩:=ht.2 _ _ hc;rw [r.oD] at e;rw [zC hj' hd e];simp only [R.ok.injEq] at h;subst h;cases c<;>cases want<;>rfl
    ·rename_i x hc;obtain⟨v',e,r⟩:=ht.2 _ _ hc;obtain⟨y,rfl⟩:=r.Mr;rw [zC hj' hd e];simp only [R.ok.injEq] at h;subst h;cases want<;>rfl
    ·cases h
    ·cases h
   ·cases h
  ·cases h
def MN (P:Program) (ops:Array Oper) (l:List Nat) (s s1:St):Prop:=
 s.m.next≤s1.m.next∧∀(ι:de) (b:Frame) (a:Act) (k:List Item) (cs:List Frame) (w:World),SR ι s b a w→eU ι s.m s1.m→
  ∃ι' w' a',Steps P (lone (b.atR a (.inRegion ops l::k)) cs w) (lone (b.atR a' (.inRegion ops []::k)) cs w')∧SR ι' s1 b a' w'∧qa ι s w ι' s1 w'
def MM (P:Program) (ops:Array Oper) (l:List Nat) (s:St) (v:Value) (s1:St):Prop:=
 s.m.next≤s1.m.next∧∀(ι:de) (b:Frame) (a:Act) (k:List Item) (cs:List Frame) (w:World),SR ι s b a w→eU ι s.m s1.m→
  ∃ι' w' a' k' v',Steps P (lone (b.atR a (.inRegion ops l::k)) cs w) (lone {b.atR a' k' with mode:=.panicking [{v:=v',recovered:=false}]} cs w')∧VR ι' v v'∧SR ι' s1 b a' w'∧qa ι s w ι' s1 w'
include ok in
theorem sj (hcall:gQ tb ih) {ops:Array Oper}:∀(l:List Oper) (i:Nat),(∀j,l[j]?=ops[i+j]?)→∀{s:St} {r:Ex×St},dY tb ih ops.toList l s= .ok r→
 (∃v s1,r=(.kx v,s1)∧MM tb.P ops (qcF i l.length) s v s1)∨∃s1,r=(.nrm,s1)∧MN tb.P ops (qcF i l.length) s s1
 | [],i,_,s,r,h=>by
  have h':R.ok (Ex.nrm,s)=R.ok r:=h;simp only [R.ok.injEq] at h';exact .inr ⟨s,h'.symm,qao _,fun ι b a k cs w hs _=>⟨ι,w,a,.refl _ _,hs,qa.refl _ _ _⟩⟩
 |o::l,i,hl,s,r,h=>by
  have ho:ops[i]?=some o:=by have:=hl 0;simpa using this.symm
  have hl':∀j,l[j]?=ops[i+1+j]?:=fun j=>by
   have:=hl (j+1);rw [show i+1+j=i+(j+1) by omega];simpa using this
  have h':((fu ops.toList o s.t).bind fun w=>bif w then dL tb ih o s (dY tb ih ops.toList l) else bR s o.dst bL (dY tb ih ops.toList l))= .ok r:=h;obtain⟨wb,h1,h2⟩:=R.ai h';have hgo:∀{s1:St},dY tb ih ops.toList l s1= .ok r→(s.m.next≤s1.m.next∧∀(ι:de) (b:Frame) (a:Act) (k:List Item) (cs:List Frame) (w:World),SR ι s b a w→eU ι s.m s1.m→
   ∃ι' w' a',Steps tb.P (lone (b.atR a (.inRegion ops (i::qcF (i+1) l.length)::k)) cs w) (lone (b.atR a' (.inRegion ops (qcF (i+1) l.length)::k)) cs w')∧SR ι' s1 b a' w'∧qa ι s w ι' s1 w')→
   (∃v s1,r=(.kx v,s1)∧MM tb.P ops (qcF i (o::l).length) s v s1)∨∃s1,r=(.nrm,s1)∧MN tb.P ops (qcF i (o::l).length) s s1:=by
   intro s1 hk ⟨hle,hone⟩;rcases sj hcall l (i+1) hl' hk with⟨v,s2,h3,hle2,h4⟩|⟨s2,h3,hle2,h4⟩
   ·refine .inl ⟨v,s2,h3,qaV hle hle2,fun ι b a k cs w hs hf=>?_⟩;obtain⟨ι1,w1,a1,st1,hs1,hss1⟩:=hone ι b a k cs w hs (hf.left hle2);obtain⟨ι2,w2,a2,k2,v2,st2,hv2,hs2,hss2⟩:=h4 ι1 b a1 k cs w1 hs1 (hf.right hss1.stp);exact⟨ι2,w2,a2,k2,v2,st1.trans st2,hv2,hs2,hss1.trans hss2⟩
   ·refine .inr ⟨s2,h3,qaV hle hle2,fun ι b a k cs w hs hf=>?_⟩;obtain⟨ι1,w1,a1,st1,hs1,hss1⟩:=hone ι b a k cs w hs (hf.left hle2);obtain⟨ι2,w2,a2,st2,hs2,hss2⟩:=h4 ι1 b a1 k cs w1 hs1 (hf.right hss1.stp);exact⟨ι2,w2,a2,st1.trans st2,hs2,hss1.trans hss2⟩
  cases wb with
  |true=>
   rw [cond_true] at h2;rcases tP ok hcall (ops:=ops) (i:=i) h2 with⟨v,s1,h3,hle,h4⟩|⟨s1,hk,hle,h3⟩
   ·refine .inl ⟨v,s1,h3,hle,fun ι b a k cs w hs hf=>?_⟩;obtain⟨ι1,w1,v1,st1,hv1,hs1,hss1⟩:=h4 ι b a k cs w (qcF (i+1) l.length) hs hf (lU h1 hs.tr) ho;exact⟨ι1,w1,a,_,v1,st1,hv1,hs1,hss1⟩
   ·exact hgo hk ⟨hle,fun ι b a k cs w hs hf=>h3 ι b a k cs w _ hs hf (lU h1 hs.tr) ho⟩
  |false=>
   rw [cond_false] at h2;obtain⟨s1,hk,hm,hn,hro,hd,hput⟩:=mI h2;refine hgo hk ⟨by rw [hm];exact qao _,fun ι b a k cs w hs hf=>?_⟩;obtain⟨ht',hd'⟩:=hput ι a undef hs.tr (.tuple .nil);have hstep:=stepR_op_skip (P:=tb.P) (b:=b) (a:=a) (k:=k) (cs:=cs) (w:=w) (ops:=ops) (i:=i) (rest:=qcF (i+1) l.length) (by rw [ho];simp [lU h1 hs.tr]);rw [ho,qcf] at hstep;exact⟨ι,w,a.put o.dst undef,.one hstep,⟨by rw [hm];exact hs.rel,ht',by rw [hro];exact hs.ro,by rw [hd,hd'];exact hs.dr⟩,⟨by rw [hm];exact eH.refl _ _ _,hn,hro⟩⟩
end
section
variable {tb:bO} (ok:cC tb) {ih:Code→St→R (Ex×St)} {ι:de}
def II (e:Ex) (k k':List Item):Prop:=
 match e with
 | .nrm=>k'=k
 | .exit id=>∃k2,k'= .code (.exit id)::k2∧exitTo id k2=exitTo id k
 | .ret=>∃k2,k'= .code .ret::k2
 | .kx _=>False
def ek (P:Program) (c:Code) (s:St) (e:Ex) (s1:St):Prop:=
 s.m.next≤s1.m.next∧∀(ι:de) (b:Frame) (a:Act) (k:List Item) (cs:List Frame) (w:World),SR ι s b a w→eU ι s.m s1.m→
  ∃ι' w' a' k',Steps P (lone (b.atR a (.code c::k)) cs w) (lone (b.atR a' k') cs w')∧II e k k'∧SR ι' s1 b a' w'∧qa ι s w ι' s1 w'
def iE (P:Program) (c:Code) (s:St) (v:Value) (s1:St):Prop:=
 s.m.next≤s1.m.next∧∀(ι:de) (b:Frame) (a:Act) (k:List Item) (cs:List Frame) (w:World),SR ι s b a w→eU ι s.m s1.m→
  ∃ι' w' a' k' v',Steps P (lone (b.atR a (.code c::k)) cs w) (lone {b.atR a' k' with mode:=.panicking [{v:=v',recovered:=false}]} cs w')∧VR ι' v v'∧SR ι' s1 b a' w'∧qa ι s w ι' s1 w'
def Ku (P:Program) (ih:Code→St→R (Ex×St)):Prop:=
 ∀(c:Code) (s:St) (e:Ex) (s1:St),ih c s= .ok (e,s1)→(∃v,e= .kx v∧iE P c s v s1)∨ek P c s e s1
def IJ (tb:bO) (ih:Code→St→R (Ex×St)):Prop:=
 ∀(ops:Array Oper) (s s1:St),regionF tb ih ops.toList true s= .ok (.nrm,s1)→∀id,ek tb.P (.region id ops true) s .nrm s1
theorem ek.here {P:Program} {c:Code} {s:St} {e:Ex} (h:∀(b:Frame) (a:Act) (k:List Item) (cs:List Frame) (w:World),∃k',Steps P (lone (b.atR a (.code c::k)) cs w) (lone (b.atR a k') cs w)∧II e k k'):ek P c s e s:=
 ⟨qao _,fun ι b a k cs w hs _=>let⟨k',st,ha⟩:=h b a k cs w;⟨ι,w,a,k',st,ha,hs,qa.refl _ _ _⟩⟩
variable {s1:St}
theorem ek.seq {P:Program} {c:Code} {s s2:St} {e:Ex} (h1:ek P c s .nrm s1) {d:Code} {e2:Ex} (h2:ek P d s1 e2 s2)
 {c':Code} (hst:∀(b:Frame) (a:Act) (k:List Item) (cs:List Frame) (w:World),∃k1,Steps P (lone (b.atR a (.code c'::k)) cs w) (lone (b.atR a (.code c::k1)) cs w)∧
  ∀(a:Act) (w:World),∃k2,Steps P (lone (b.atR a k1) cs w) (lone (b.atR a (.code d::k2)) cs w)∧∀k',II e2 k2 k'→∀(a:Act) (w:World),∃k'',Steps P (lone (b.atR a k') cs w) (lone (b.atR a k'') cs w)∧II e k k''):
 ek P c' s e s2:=by
 obtain⟨hle,h1⟩:=h1;obtain⟨hle2,h2⟩:=h2;refine⟨qaV hle hle2,fun ι b a k cs w hs hf=>?_⟩;obtain⟨k1,st0,hk⟩:=hst b a k cs w;obtain⟨ι1,w1,a1,k1',st1,ha1,hs1,hss1⟩:=h1 ι b a k1 cs w hs (hf.left hle2);cases (show k1'=k1 from ha1);obtain⟨k2,st2,hk2⟩:=hk a1 w1;obtain⟨ι2,w2,a2,k2',DY,ha2,hs2,hss2⟩:=h2 ι1 b a1 k2 cs w1 hs1 (hf.right hss1.stp);obtain⟨k3,st4,ha3⟩:=hk2 _ ha2 a2 w2;exact⟨ι2,w2,a2,k3,(((st0.trans st1).trans st2).trans DY).trans st4,ha3,hs2,hss1.trans hss2⟩
variable {v:Value}
theorem ek.kx {P:Program} {c c':Code} {s:St} (h:ek P c s (.kx v) s1):iE P c' s v s1:=
 ⟨h.1,fun ι b a k cs w hs hf=>let⟨_,_,_,_,_,ha,_⟩:=h.2 ι b a k cs w hs hf;ha.elim⟩
theorem iE.wrap {P:Program} {c c':Code} {s:St} (h1:iE P c s v s1)
 (hst:∀(b:Frame) (a:Act) (k:List Item) (cs:List Frame) (w:World),(∃ι,SR ι s b a w)→∃k1,Steps P (lone (b.atR a (.code c'::k)) cs w) (lone (b.atR a (.code c::k1)) cs w)):iE P c' s v s1:=by
 obtain⟨hle,h1⟩:=h1;refine⟨hle,fun ι b a k cs w hs hf=>?_⟩;obtain⟨k1,st0⟩:=hst b a k cs w ⟨ι,hs⟩;obtain⟨ι1,w1,a1,k2,v1,st1,h⟩:=h1 ι b a k1 cs w hs hf;exact⟨ι1,w1,a1,k2,v1,st0.trans st1,h⟩
theorem iE.seq {P:Program} {c:Code} {s s2:St} (h1:ek P c s .nrm s1) {d:Code} (h2:iE P d s1 v s2) {c':Code}
 (hst:∀(b:Frame) (a:Act) (k:List Item) (cs:List Frame) (w:World),∃k1,Steps P (lone (b.atR a (.code c'::k)) cs w) (lone (b.atR a (.code c::k1)) cs w)∧
  ∀(a:Act) (w:World),∃k2,Steps P (lone (b.atR a k1) cs w) (lone (b.atR a (.code d::k2)) cs w)):iE P c' s v s2:=by
 obtain⟨hle,h1⟩:=h1;obtain⟨hle2,h2⟩:=h2;refine⟨qaV hle hle2,fun ι b a k cs w hs hf=>?_⟩;obtain⟨k1,st0,hk⟩:=hst b a k cs w;obtain⟨ι1,w1,a1,k1',st1,ha1,hs1,hss1⟩:=h1 ι b a k1 cs w hs (hf.left hle2);cases (show k1'=k1 from ha1);obtain⟨k2,st2⟩:=hk a1 w1;obtain⟨ι2,w2,a2,k2',v2,DY,hv2,hs2,hss2⟩:=h2 ι1 b a1 k2 cs w1 hs1 (hf.right hss1.stp);exact⟨ι2,w2,a2,k2',v2,((st0.trans st1).trans st2).trans DY,hv2,hs2,hss1.trans hss2⟩
theorem ek.wrap {P:Program} {c c':Code} {s:St} {e e':Ex} (h1:ek P c s e s1)
 (hst:∀(b:Frame) (a:Act) (k:List Item) (cs:List Frame) (w:World),(∃ι,SR ι s b a w)→∃k1,Steps P (lone (b.atR a (.code c'::k)) cs w) (lone (b.atR a (.code c::k1)) cs w)∧
  ∀k',II e k1 k'→∀(a:Act) (w:World),∃k'',Steps P (lone (b.atR a k') cs w) (lone (b.atR a k'') cs w)∧II e' k k''):
 ek P c' s e' s1:=by
 obtain⟨hle,h1⟩:=h1;refine⟨hle,fun ι b a k cs w hs hf=>?_⟩;obtain⟨k1,st0,hk⟩:=hst b a k cs w ⟨ι,hs⟩;obtain⟨ι1,w1,a1,k1',st1,ha1,hs1,hss1⟩:=h1 ι b a k1 cs w hs hf;obtain⟨k3,st4,ha3⟩:=hk _ ha1 a1 w1;exact⟨ι1,w1,a1,k3,(st0.trans st1).trans st4,ha3,hs1,hss1⟩
theorem II.push {e:Ex} {k k':List Item} {i:Item} (hi:∀id,i≠ .inBlock id) (h:II e (i::k) k') (he:e≠ .nrm):II e k k':=by
 cases e with
 |nrm=>exact absurd rfl he
 |exit id=>
  obtain⟨k2,h1,h2⟩:=h;refine⟨k2,h1,h2.trans ?_⟩;cases i<;>first|rfl|exact absurd rfl (hi _)
 |ret=>exact h
 |kx=>exact h
section steps
variable {P:Program} {b:Frame} {a:Act} {k:List Item} {cs:List Frame} {w:World}
theorem uW {c:Code}:step P (lone (b.atR a (.code (.scope c)::k)) cs w)= .next (lone (b.atR a (.code c:: .inScope c::k)) cs w):=
 step_lone_go (by simp [stepG,stepG.exec,Frame.atR])
theorem zZ {c:Code}:step P (lone (b.atR a (.inScope c::k)) cs w)= .next (lone (b.atR a k) cs w):=
 step_lone_go (by simp [stepG,stepG.exec,Frame.atR])
end steps
theorem zf {P:Program} {m m' m1 mf:Machine} (h:Steps P m mf) (hm:step P m= .next m1) (hm':step P m'= .next m1) (hne:mf≠m):Steps P m' mf:=by
 obtain⟨n,hn⟩:=h;cases n with
 |zero=>
  simp only [runN,Stepped.next.injEq] at hn;exact absurd hn.symm hne
 |succ n=>
  refine⟨n+1,?_⟩;simp only [runN,hm] at hn;simp only [runN,hm',hn]
theorem II.ne {e:Ex} {k k':List Item} {c:Code} (h:II e k k') (h1:∀id,c≠ .exit id) (h2:c≠ .ret):k'≠ .code c::k:=by
 rintro rfl;cases e with
 |nrm=>
  have:=congrArg qcE (show Item.code c::k=k from h);simp at this
 |exit id=>
  obtain⟨k2,h3,_⟩:=h;simp only [qa4,Item.code.injEq] at h3;exact h1 _ h3.1
 |ret=>
  obtain⟨k2,h3⟩:=h;simp only [qa4,Item.code.injEq] at h3;exact h2 h3.1
 |kx=>exact h
include ok in
theorem F7 (hih:Ku tb.P ih) (hcall:gQ tb ih) (hdraw:IJ tb ih)
 (hrange:∀f ps a b s e s1,fU tb ih f ps.toList a b 0 s= .ok (e,s1)→ek tb.P (.rangeFunc f ps a b) s e s1):Ku tb.P (P5 tb ih):=by
 intro c s e s1 h;unfold P5 at h;split at h
 ·
  simp only [R.ok.injEq,qat] at h;obtain⟨rfl,rfl⟩:=h;exact .inr (.here fun b a k cs w=>⟨k,.one stepR_skip,rfl⟩)
 ·simp only [R.ok.injEq,qat] at h;obtain⟨rfl,rfl⟩:=h;exact .inr (.here fun b a k cs w=>⟨k,.one stepR_label,rfl⟩)
 ·
  rename_i id ops draw;cases draw with
  |true=>
   cases e with
   |nrm=>exact .inr (hdraw ops s s1 h id)
   |_=>
    exfalso;unfold regionF at h;simp only [cond_true] at h;obtain⟨fl,_,h2⟩:=R.ai h;obtain⟨⟨e',s'⟩,_,h3⟩:=R.ai h2;cases e'<;>simp at h3
  |false=>
   rcases sj ok hcall (ops:=ops) ops.toList 0 (fun j=>by simp) (show dY tb ih ops.toList ops.toList s= .ok (e,s1) from h) with⟨v,s2,h1,hle,h2⟩|⟨s2,h1,hle,h2⟩
   ·simp only [qat] at h1;obtain⟨rfl,rfl⟩:=h1;refine .inl ⟨v,rfl,hle,fun ι b a k cs w hs hf=>?_⟩;obtain⟨ι1,w1,a1,k1,v1,st1,h3⟩:=h2 ι b a k cs w hs hf;have st2:Steps tb.P (lone (b.atR a (.inRegion ops (qbN ops.size)::k)) cs w) (lone {b.atR a1 k1 with mode:=.panicking [{v:=v1,recovered:=false}]} cs w1):=by
     rw [List.range_eq_range'];simpa using st1
    exact⟨ι1,w1,a1,k1,v1,Steps.head stepR_region st2,h3⟩
   ·simp only [qat] at h1;obtain⟨rfl,rfl⟩:=h1;refine .inr ⟨hle,fun ι b a k cs w hs hf=>?_⟩;obtain⟨ι1,w1,a1,st1,hs1,hss1⟩:=h2 ι b a k cs w hs hf;have st2:Steps tb.P (lone (b.atR a (.inRegion ops (qbN ops.size)::k)) cs w) (lone (b.atR a1 (.inRegion ops []::k)) cs w1):=by
     rw [List.range_eq_range'];simpa using st1
    exact⟨ι1,w1,a1,k,(Steps.head stepR_region st2).trans (.one stepR_region_end),rfl,hs1,hss1⟩
 ·
  rename_i x y;obtain⟨⟨e1,s2⟩,h1,h2⟩:=R.ai h;rcases hih _ _ _ _ h1 with⟨v,rfl,hp⟩|h3
  ·simp only [R.ok.injEq,qat] at h2;obtain⟨rfl,rfl⟩:=h2;exact .inl ⟨v,rfl,hp.wrap fun b a k cs w _=>⟨_,.one stepR_seq⟩⟩
  ·cases e1 with
   |nrm=>
    rcases hih _ _ _ _ h2 with⟨v,rfl,hp⟩|h4
    ·exact .inl ⟨v,rfl,iE.seq h3 hp fun b a k cs w=>⟨_,.one stepR_seq,fun a w=>⟨k,.refl _ _⟩⟩⟩
    ·exact .inr (h3.seq h4 fun b a k cs w=>⟨_,.one stepR_seq,fun a w=>⟨k,.refl _ _,fun k' hk' a w=>⟨k',.refl _ _,hk'⟩⟩⟩)
   |kx v=>
    simp only [R.ok.injEq,qat] at h2;obtain⟨rfl,rfl⟩:=h2;exact .inl ⟨v,rfl,h3.kx⟩
   |_=>
    simp only [R.ok.injEq,qat] at h2;obtain⟨rfl,rfl⟩:=h2;exact .inr (h3.wrap fun b a k cs w _=>⟨_,.one stepR_seq,fun k' hk' a w=>⟨k',.refl _ _,hk'.push (by simp) (by simp)⟩⟩)
 ·
  rename_i cnd x y;obtain⟨v,h1,h2⟩:=R.ai h;split at h2
  ·rcases hih _ _ _ _ h2 with⟨v,rfl,hp⟩|h3
   ·refine .inl ⟨v,rfl,hp.wrap fun b a k cs w hs=>⟨k,?_⟩⟩;obtain⟨ι,hs⟩:=hs;exact .one (stepR_cond (t:=true) ((aS h1 hs.tr).oD))
   ·refine .inr (h3.wrap fun b a k cs w hs=>⟨k,?_,fun k' hk' a w=>⟨k',.refl _ _,hk'⟩⟩);obtain⟨ι,hs⟩:=hs;exact .one (stepR_cond (t:=true) ((aS h1 hs.tr).oD))
  ·rcases hih _ _ _ _ h2 with⟨v,rfl,hp⟩|h3
   ·refine .inl ⟨v,rfl,hp.wrap fun b a k cs w hs=>⟨k,?_⟩⟩;obtain⟨ι,hs⟩:=hs;exact .one (stepR_cond (t:=false) ((aS h1 hs.tr).oD))
   ·refine .inr (h3.wrap fun b a k cs w hs=>⟨k,?_,fun k' hk' a w=>⟨k',.refl _ _,hk'⟩⟩);obtain⟨ι,hs⟩:=hs;exact .one (stepR_cond (t:=false) ((aS h1 hs.tr).oD))
  ·cases h2
 ·
  rename_i id x;obtain⟨⟨e1,s2⟩,h1,h2⟩:=R.ai h;rcases hih _ _ _ _ h1 with⟨v,rfl,hp⟩|h3
  ·simp only [R.ok.injEq,qat] at h2;obtain⟨rfl,rfl⟩:=h2;exact .inl ⟨v,rfl,hp.wrap fun b a k cs w _=>⟨_,.one stepR_block⟩⟩
  ·cases e1 with
   |exit i=>
    simp only at h2;cases hb:qaw i id with
    |true=>
     rw [hb] at h2;simp only [cond_true,R.ok.injEq,qat] at h2;obtain⟨rfl,rfl⟩:=h2;have hi:i=id:=qaL hb;subst hi;refine .inr (h3.wrap fun b a k cs w _=>⟨_,.one stepR_block,?_⟩);rintro k' ⟨k2,rfl,hk2⟩ a w;refine⟨k,.one (stepR_exit ?_),rfl⟩;rw [hk2];simp [exitTo]
    |false=>
     rw [hb] at h2;simp only [cond_false,R.ok.injEq,qat] at h2;obtain⟨rfl,rfl⟩:=h2;have hi:i≠id:=fun he=>by rw [he] at hb;simp at hb
     refine .inr (h3.wrap fun b a k cs w _=>⟨_,.one stepR_block,?_⟩);rintro k' ⟨k2,rfl,hk2⟩ a w;refine⟨_,.refl _ _,k2,rfl,?_⟩;rw [hk2];have:(id==i)=false:=by simpa using fun he=>hi he.symm
     simp [exitTo,this]
   |nrm=>
    simp only [R.ok.injEq,qat] at h2;obtain⟨rfl,rfl⟩:=h2;refine .inr (h3.wrap fun b a k cs w _=>⟨_,.one stepR_block,?_⟩);rintro k' rfl a w;exact⟨k,.one stepR_inBlock,rfl⟩
   |ret=>
    simp only [R.ok.injEq,qat] at h2;obtain⟨rfl,rfl⟩:=h2;exact .inr (h3.wrap fun b a k cs w _=>⟨_,.one stepR_block,fun k' hk' a w=>⟨k',.refl _ _,hk'⟩⟩)
   |kx v=>
    simp only [R.ok.injEq,qat] at h2;obtain⟨rfl,rfl⟩:=h2;exact .inl ⟨v,rfl,h3.kx⟩
 ·
  rename_i x;obtain⟨⟨e1,s2⟩,h1,h2⟩:=R.ai h;rcases hih _ _ _ _ h1 with⟨v,rfl,hp⟩|h3
  ·simp only [R.ok.injEq,qat] at h2;obtain⟨rfl,rfl⟩:=h2;exact .inl ⟨v,rfl,hp.wrap fun b a k cs w _=>⟨_,.one stepR_loop⟩⟩
  ·cases e1 with
   |nrm=>
    rcases hih _ _ _ _ h2 with⟨v,rfl,hp⟩|h4
    ·refine .inl ⟨v,rfl,qaV h3.1 hp.1,fun ι b a k cs w hs hf=>?_⟩;obtain⟨ι1,w1,a1,k1,st1,ha1,hs1,hss1⟩:=h3.2 ι b a (.inLoop x::k) cs w hs (hf.left hp.1);cases (show k1= .inLoop x::k from ha1);obtain⟨ι2,w2,a2,k2,v2,st2,hv2,hs2,hss2⟩:=hp.2 ι1 b a1 k cs w1 hs1 (hf.right hss1.stp);have hne:lone {b.atR a2 k2 with mode:=.panicking [{v:=v2,recovered:=false}]} cs w2≠lone (b.atR a1 (.code (.loop x)::k)) cs w1:=by
      intro he;have:=congrArg (fun m:Machine=>m.gs) he;simp only [lone] at this;have:=congrArg (fun g:Array Goroutine=>g.toList.map fun g=>g.frame.mode) this;simp [Frame.atR] at this
     exact⟨ι2,w2,a2,k2,v2,(Steps.head stepR_loop st1).trans (zf st2 stepR_loop stepR_inLoop hne),hv2,hs2,hss1.trans hss2⟩
    ·refine .inr ⟨qaV h3.1 h4.1,fun ι b a k cs w hs hf=>?_⟩;obtain⟨ι1,w1,a1,k1,st1,ha1,hs1,hss1⟩:=h3.2 ι b a (.inLoop x::k) cs w hs (hf.left h4.1);cases (show k1= .inLoop x::k from ha1);obtain⟨ι2,w2,a2,k2,st2,ha2,hs2,hss2⟩:=h4.2 ι1 b a1 k cs w1 hs1 (hf.right hss1.stp);have hne:lone (b.atR a2 k2) cs w2≠lone (b.atR a1 (.code (.loop x)::k)) cs w1:=by
      intro he;have h5:k2= .code (.loop x)::k:=by
       have:=congrArg (fun m:Machine=>m.gs) he;simp only [lone] at this;have:=congrArg (fun g:Array Goroutine=>g.toList.map fun g=>g.frame.todo) this;simpa [Frame.atR] using this
      exact ha2.ne (by simp) (by simp) h5
     exact⟨ι2,w2,a2,k2,(Steps.head stepR_loop st1).trans (zf st2 stepR_loop stepR_inLoop hne),ha2,hs2,hss1.trans hss2⟩
   |kx v=>
    simp only [R.ok.injEq,qat] at h2;obtain⟨rfl,rfl⟩:=h2;exact .inl ⟨v,rfl,h3.kx⟩
   |_=>
    simp only [R.ok.injEq,qat] at h2;obtain⟨rfl,rfl⟩:=h2;exact .inr (h3.wrap fun b a k cs w _=>⟨_,.one stepR_loop,fun k' hk' a w=>⟨k',.refl _ _,hk'.push (by simp) (by simp)⟩⟩)
 ·
  rcases hih _ _ _ _ h with⟨v,rfl,hp⟩|h3
  ·exact .inl ⟨v,rfl,hp.wrap fun b a k cs w _=>⟨_,.one uW⟩⟩
  ·refine .inr (h3.wrap fun b a k cs w _=>⟨_,.one uW,fun k' hk' a w=>?_⟩);cases e with
   |nrm=>
    cases (show k'=_ from hk');exact⟨k,.one zZ,rfl⟩
   |_=>exact⟨k',.refl _ _,hk'.push (by simp) (by simp)⟩
 ·simp only [R.ok.injEq,qat] at h;obtain⟨rfl,rfl⟩:=h;exact .inr (.here fun b a k cs w=>⟨_,.refl _ _,k,rfl,rfl⟩)
 ·simp only [R.ok.injEq,qat] at h;obtain⟨rfl,rfl⟩:=h;exact .inr (.here fun b a k cs w=>⟨_,.refl _ _,k,rfl⟩)
 ·exact .inr (hrange _ _ _ _ _ _ _ h)
 ·cases h
 ·cases h
end
section
variable {tb:bO} (ok:cC tb) {ih:Code→St→R (Ex×St)} {ι:de}
variable {fn:Func}
theorem Frame.AD {P:Program} {f:FuncId} {c:Code} (hf:P.funcs[f]?=some fn) (hb:fn.body=some c) (args:Array Value):
 Frame.enter P f args .normal=(Frame.enter P f args .normal).atR ⟨args++qb9 (fn.ntmps-args.size) undef,[]⟩ [.code c]:=by
 simp [Frame.enter,Frame.atR,hf,hb]
variable {n:Nat}
theorem TR.args {args:List Value} {args':Array Value} (h:dv ι args args'.toList) (hn:args.length≤n):
 TR ι n (T.bK .e 0 args) (args'++qb9 (n-args'.size) undef):=by
 have hl:args'.size=args.length:=by have:=h.length;simpa using this
 refine⟨by simp;omega,fun i v hv=>?_⟩;rw [T.dW] at hv;by_cases hi:0≤i∧i<0+args.length
 ·rw [if_pos hi] at hv;obtain⟨v',e,r⟩:=h.get (i-0) v hv;refine⟨v',?_,r⟩;have hi':i<args'.size:=by omega
  rw [qcr hi'];simpa using e
 ·rw [if_neg hi] at hv;cases hv
def MI (P:Program) (f:FuncId) (args':Array Value) (w:World) (cs:List Frame) (v':Value) (w':World):Prop:=
 ∃fr,Steps P (lone (Frame.enter P f args' .normal) cs w) (lone fr cs w')∧fr.fn=f∧fr.leaving P w' (.returned v')
def Ua (P:Program) (f:FuncId) (args':Array Value) (w:World) (cs:List Frame) (v':Value) (w':World):Prop:=
 ∃fr,Steps P (lone (Frame.enter P f args' .normal) cs w) (lone fr cs w')∧fr.fn=f∧fr.leaving P w' (.panicked [{v:=v',recovered:=false}])
theorem kr:∀{l:List Nat} {A A':Mem},eW l A= .ok A'→A'.next=A.next
 | [],A,A',h=>by simp only [eW,R.ok.injEq] at h;rw [h]
 |x::l,A,A',h=>by
  unfold eW at h;split at h
  ·rw [kr h,aO]
  ·cases h
include ok in
theorem xH (hih:Ku tb.P ih) {f:FuncId} {fn:Func} {c:Code} {args:List Value} {A:Mem} (hf:tb.fn.get f=some fn) (hb:fn.body=some c) {r:Gp} (h:mo tb ih fn c args A= .ok r):
 (∃v A',r= .kx v A'∧A.next≤A'.next∧∀(ι:de) (w:World) (args':Array Value) (cs:List Frame),Rel ι A w→dv ι args args'.toList→eU ι A A'→
  ∃ι' w' v',Ua tb.P f args' w cs v' w'∧VR ι' v v'∧Rel ι' A' w'∧eH ι A w ι' A' w')∨
 ∃v A',r= .val v A'∧A.next≤A'.next∧∀(ι:de) (w:World) (args':Array Value) (cs:List Frame),Rel ι A w→dv ι args args'.toList→eU ι A A'→
  ∃ι' w' v',MI tb.P f args' w cs v' w'∧VR ι' v v'∧Rel ι' A' w'∧eH ι A w ι' A' w':=by
 have hf':=ok.fn _ _ hf;unfold mo at h;cases hnb:qaq args.length fn.ntmps with
 |false=>rw [hnb] at h;cases h
 |true=>
 rw [hnb,cond_true] at h;have hn:=qaG hnb;obtain⟨⟨e,s1⟩,h1,h2⟩:=R.ai h;have main:(e= .nrm∨e= .ret)→((eW s1.d s1.m).bind fun A'=>(eV tb s1.t A'.get fn.results.toList).bind fun vs=>R.ok (Gp.val (oneOf vs) A'))= .ok r→
  ∃v A',r= .val v A'∧A.next≤A'.next∧∀(ι:de) (w:World) (args':Array Value) (cs:List Frame),Rel ι A w→dv ι args args'.toList→eU ι A A'→
  ∃ι' w' v',MI tb.P f args' w cs v' w'∧VR ι' v v'∧Rel ι' A' w'∧eH ι A w ι' A' w':=by
  intro he h3;obtain⟨A',h4,h5⟩:=R.ai h3;obtain⟨vs,h6,h7⟩:=R.ai h5;simp only [R.ok.injEq] at h7;have hnx:=kr h4;rcases hih _ _ _ _ h1 with⟨v,rfl,_⟩|⟨hle,hc⟩
  ·rcases he with he|he<;>cases he
  ·refine⟨_,_,h7.symm,by rw [hnx];exact hle,fun ι w args' cs hr ha hfree=>?_⟩;have hfree':eU ι A s1.m:=fun b h1 h2=>hfree b h1 (by rw [hnx];exact h2)
   have hs0:SR ι {t:=T.bK .e 0 args,n:=fn.ntmps,d:=[],m:=A,ro:=none} (Frame.enter tb.P f args' .normal) ⟨args'++qb9 (fn.ntmps-args'.size) undef,[]⟩ w:=
    ⟨hr,TR.args ha hn,rfl,rfl⟩
   obtain⟨ι1,w1,a1,k1,st1,ha1,hs1,hss1⟩:=hc ι _ _ [] cs w hs0 hfree';rw [←Frame.AD hf' hb] at st1;obtain⟨todo,st2⟩:∃todo,Steps tb.P (lone ((Frame.enter tb.P f args' .normal).atR a1 k1) cs w1) (lone {(Frame.enter tb.P f args' .normal).atR ⟨a1.tmps,a1.defers⟩ todo with mode:=.returning} cs w1):=by
    rcases he with rfl|rfl
    ·cases (show k1=[] from ha1);exact⟨[],.one (stepR_end rfl)⟩
    ·obtain⟨k2,rfl⟩:=ha1;exact⟨_,.one (stepR_ret rfl)⟩
   obtain⟨w2,DY,hrel2,hst2⟩:=nP tb.P (b:=Frame.enter tb.P f args' .normal) (t:=a1.tmps) (todo:=todo) (cs:=cs) h4 hs1.dr hs1.rel;obtain⟨v',e1,hv⟩:=mg ok hrel2 hs1.tr h6;exact⟨ι1,w2,v',⟨_,(st1.trans st2).trans DY,rfl,rfl,rfl,rfl,fn,hf',e1⟩,hv,hrel2,hss1.stp.trans hst2⟩
 cases e with
 |kx v=>
  simp only at h2;split at h2
  ·rename_i hd;simp only [R.ok.injEq] at h2;refine .inl ⟨v,_,h2.symm,?_⟩;have hp:iE tb.P c {t:=T.bK .e 0 args,n:=fn.ntmps,d:=[],m:=A,ro:=none} v s1:=by
    rcases hih _ _ _ _ h1 with⟨v2,he,hp⟩|hp
    ·cases he;exact hp
    ·exact hp.kx
   refine⟨hp.1,fun ι w args' cs hr ha hfree=>?_⟩;have hs0:SR ι {t:=T.bK .e 0 args,n:=fn.ntmps,d:=[],m:=A,ro:=none} (Frame.enter tb.P f args' .normal) ⟨args'++qb9 (fn.ntmps-args'.size) undef,[]⟩ w:=
    ⟨hr,TR.args ha hn,rfl,rfl⟩
   obtain⟨ι1,w1,a1,k1,v1,st1,hv1,hs1,hss1⟩:=hp.2 ι _ _ [] cs w hs0 hfree;rw [←Frame.AD hf' hb] at st1;have hdd:a1.defers=[]:=by
    have:=hs1.dr;rw [hd] at this;exact this
   exact⟨ι1,w1,v1,⟨_,st1,rfl,rfl,hdd,fn,hf'⟩,hv1,hs1.rel,hss1.stp⟩
  ·cases h2
 |exit id=>cases h2
 |nrm=>exact .inr (main (.inl rfl) h2)
 |ret=>exact .inr (main (.inr rfl) h2)
end
section
variable {tb:bO} {ih:Code→St→R (Ex×St)} {ι:de}
variable {r:Nat} {o':Obj}
theorem LD {w:World} {o:Obj} (h:w.heap[r]?=some o):Wu w (w.putObj r o') r o':=by
 have hlt:r<w.heap.size:=(qaM.1 h).1;exact⟨by simp,World.putObj_heap_same hlt,fun k _ hne=>World.putObj_heap_other hne,rfl,rfl,rfl⟩
variable {n:Nat}
theorem qy:∀{ps:List Tmp} {vs vs':List Value} {t t1:T Value} {a:Array Value},setArgs n ps vs t= .ok t1→dv ι vs vs'→TR ι n t a→
 vs'.length=ps.length∧TR ι n t1 ((ps.zip vs').foldl (fun tmps (t,a)=>tmps.setIfInBounds t a) a)
 | [],[],_,t,t1,a,h,.nil,ht=>by
  simp only [setArgs,R.ok.injEq] at h;subst h;exact⟨rfl,ht⟩
 |p::ps,v::vs,_,t,t1,a,h,.cons hv hvs,ht=>by
  unfold setArgs at h;cases hb:qax p n with
  |false=>rw [hb] at h;cases h
  |true=>
   rw [hb] at h;simp only [cond_true] at h;obtain⟨h1,h2⟩:=qy h hvs (ht.set (cS hb) hv);exact⟨by simp [h1],h2⟩
 | [],_::_,_,_,_,_,h,_,_=>by cases h
 |_::_,[],_,_,_,_,h,_,_=>by cases h
variable {A:Mem}
theorem Rel.loop {w:World} (hr:Rel ι A w) {l:Nat} {ld:Loc} {r:f_} (hg:A.get l=some (.loop r)) (hl:ι l=some ld):
 ∃r',w.heap[ld.blk]?=some (.loop r')∧LR ι r r'∧ld.sh=0:=by
 obtain⟨o',hw,h0,r',rfl,h⟩:=hr.obs _ _ _ hg rfl hl;exact⟨r',hw,h,h0⟩
theorem Rel.xX {w:World} (hr:Rel ι A w) {l:Nat} {ld:Loc} {r q:f_} (hg:A.get l=some (.loop r)) (hl:ι l=some ld) {r' q':Loop}
 (hw:w.heap[ld.blk]?=some (.loop r')) (h0:ld.sh=0) (hq:LR ι q q'):Rel ι (A.set l (.loop q)) (w.putObj ld.blk (.loop q'))∧eH ι A w ι (A.set l (.loop q)) (w.putObj ld.blk (.loop q')):=
 hr.zn hg rfl hl (eh hg fun _ _ _ h=>by cases h) (fun _ _ _ h=>by cases h) (LD hw) (by simp) ⟨h0,q',rfl,hq⟩
theorem FA (hih:Ku tb.P ih) {l:Nat} {args:List Value} {r:Gp} (h:nw ih l args A= .ok r):
 ∃v A',r= .val v A'∧A.next≤A'.next∧∀(ι:de) (w:World) (s:Sem Next) (fr:Frame) (cs:List Frame),Rel ι A w→T_ tb.P ι w (.round l args) s→eU ι A A'→
  ∃ι' w' v',mj tb.P s w v' w' fr cs∧VR ι' v v'∧Rel ι' A' w'∧eH ι A w ι' A' w':=by
 unfold nw at h;split at h
 rotate_left
 ·cases h
 rename_i ro hg;obtain⟨t,h1,h2⟩:=R.ai h;obtain⟨⟨e1,s1⟩,h3,h4⟩:=R.ai h2;dsimp only at h4;split at h4
 rotate_left
 ·cases h4
 rename_i r1 hg1;split at h4
 rotate_left
 ·cases h4
 rename_i hready;obtain⟨⟨e2,s2⟩,h5,h6⟩:=R.ai h4;rcases hih _ _ _ _ h3 with⟨v,hv,_⟩|⟨hle1,hc1⟩
 ·cases hv
 have main:∀(jump:Option Code) (r2:f_),s2.m.get l=some (.loop r2)→
  (∀(b:Frame) (a:Act) (k:List Item) (fr:Frame) (cs:List Frame) (w w':World) (ld:Loc) (v:Value),b.roundOf=some ld.blk→b.kind= .normal→II e2 [] k→(Instr.endRound ld.blk jump).run tb.P w= .ok v w'→
   Steps tb.P (lone (b.atR a k) (fr::cs) w) (lone (fr.finish v) cs w'))→
  (∀v,e2≠ .kx v)→
  r= .val (.bool jump.isNone) (s2.m.set l (.loop {r2 with state:=if jump.isNone then .ready else .done,pending:=jump}))→
  ∃v A',r= .val v A'∧A.next≤A'.next∧∀(ι:de) (w:World) (s:Sem Next) (fr:Frame) (cs:List Frame),Rel ι A w→T_ tb.P ι w (.round l args) s→eU ι A A'→
  ∃ι' w' v',mj tb.P s w v' w' fr cs∧VR ι' v v'∧Rel ι' A' w'∧eH ι A w ι' A' w':=by
  intro jump r2 hg2 hend hnp hres;rcases hih _ _ _ _ h5 with⟨v,hv,_⟩|⟨hle2,hc2⟩
  ·exact absurd hv (hnp v)
  rw [aO] at hle2;refine⟨_,_,hres,by rw [aO];exact qaV hle1 hle2,fun ι w s fr cs hr hcl hf=>?_⟩;obtain⟨ld,args',hl,hrun,hargs⟩:=hcl;obtain⟨rq,hw,hlr,h0⟩:=hr.loop hg hl;obtain⟨hlen,ht⟩:=qy h1 hargs hlr.tmps;have hpl:rq.params.toList=ro.params:=hlr.params;have hsz:args'.size=rq.params.size:=by
   have:=congrArg qcE hpl;simp only [qb5] at this hlen;omega
  have htm:(rq.params.zip args').foldl (fun tmps (t,a)=>tmps.setIfInBounds t a) rq.tmps=(ro.params.zip args'.toList).foldl (fun tmps (t,a)=>tmps.setIfInBounds t a) rq.tmps:=by
   rw [←Array.foldl_toList,Array.toList_zip,hpl]
  let b:Frame:=Frame.round ld.blk rq.fn ((rq.params.zip args').foldl (fun tmps (t,a)=>tmps.setIfInBounds t a) rq.tmps) rq.assign rq.body .normal;let t0:=(ro.params.zip args'.toList).foldl (fun tmps (t,a)=>tmps.setIfInBounds t a) rq.tmps;have hb:b=b.atR ⟨t0,[]⟩ [.code ro.assign,.beginRound,.code ro.body]:=by
   show Frame.round _ _ _ _ _ _=_;simp only [Frame.round,Frame.atR,b,t0,htm,hlr.assign,hlr.body]
  have hf1:eU ι A s1.m:=fun x hx1 hx2=>hf x hx1 (by rw [aO];omega)
  obtain⟨ι1,w1,a1,k1,st1,ha1,hs1,hss1⟩:=hc1 ι b ⟨t0,[]⟩ [.beginRound,.code ro.body] (fr::cs) w ⟨hr,ht,⟨ld,hl,rfl⟩,rfl⟩ hf1;cases (show k1=_ from ha1);have hi1:=hss1.stp.le hf1;obtain⟨rq1,hw1,hlr1,_⟩:=hs1.rel.loop hg1 (hi1 _ _ hl);have st2:=stepR_beginRound (P:=tb.P) (b:=b) (a:=a1) (k:=[.code ro.body]) (cs:=fr::cs) (l:=ld.blk) rfl (run_beginRound hw1 (by rw [hlr1.state,hready]));have hlr1':LR ι1 {r1 with state:=.busy} {rq1 with state:=.busy}:=⟨rfl,hlr1.pending,hlr1.tmps,hlr1.params,hlr1.assign,hlr1.body,hlr1.defers⟩;obtain⟨hrel1,hst1⟩:=hs1.rel.xX hg1 (hi1 _ _ hl) hw1 h0 hlr1';have hf2:eU ι1 (s1.m.set l (.loop {r1 with state:=.busy})) s2.m:=by
   intro x hx1 hx2;rw [aO] at hx1;rw [hss1.stp.out x (.inr hx1)];have hle1':A.next≤s1.m.next:=hle1
   exact hf x (by omega) (by rw [aO];exact hx2)
  obtain⟨ι2,w2,a2,k2,DY,ha2,hs2,hss2⟩:=hc2 ι1 b a1 [] (fr::cs) _ ⟨hrel1,hs1.tr,hs1.ro,hs1.dr⟩ hf2;have hi2:=hss2.stp.le hf2;obtain⟨rq2,hw2,hlr2,_⟩:=hs2.rel.loop hg2 (hi2 _ _ (hi1 _ _ hl));have st4:=hend b a2 k2 fr cs w2 _ ld _ rfl rfl ha2 (run_endRound (P:=tb.P) jump hw2);obtain⟨hrel2,hst2⟩:=hs2.rel.xX (q:={r2 with state:=if jump.isNone then .ready else .done,pending:=jump}) (q':={rq2 with state:=if jump.isNone then .ready else .done,pending:=jump}) hg2 (hi2 _ _ (hi1 _ _ hl)) hw2 h0
   ⟨rfl,rfl,hlr2.tmps,hlr2.params,hlr2.assign,hlr2.body,hlr2.defers⟩
  rw [←hb] at st1;refine⟨ι2,_,.bool jump.isNone,.inr (.inr ⟨ld.blk,rq.fn,_,rq.assign,rq.body,hrun.trans (run_yield hw hsz),?_⟩),.bool _,hrel2,((hss1.stp.trans hst1).trans hss2.stp).trans hst2⟩;exact((st1.trans (.one st2)).trans DY).trans st4
 dsimp only at h6;split at h6
 ·rename_i r2 hd hg2;simp only [R.ok.injEq] at h6;exact(main none r2 hg2 (fun b a k fr cs w w' ld v hb hk ha hr=>by cases (show k=[] from ha);exact .one (stepR_round_end hb hk hr)) (by simp) h6.symm)
 ·rename_i id r2 hd hg2;simp only [R.ok.injEq] at h6;exact(main (some (.exit id)) r2 hg2 (fun b a k fr cs w w' ld v hb hk ha hr=>by
   obtain⟨k2,rfl,hx⟩:=ha;exact .one (stepR_round_exit hb hk hx hr)) (by simp) h6.symm)
 ·rename_i r2 hd hg2;simp only [R.ok.injEq] at h6;exact(main (some .ret) r2 hg2 (fun b a k fr cs w w' ld v hb hk ha hr=>by
   obtain⟨k2,rfl⟩:=ha;exact .one (stepR_round_ret hb hk hr)) (by simp) h6.symm)
 ·cases h6
end
section
variable {tb:bO} (ok:cC tb) {ih:Code→St→R (Ex×St)} {ι:de}
theorem wF (w:World) (o:Obj):Wu w (w.alloc o) w.heap.size o∧(w.alloc o).heap.size=w.heap.size+1:=
 ⟨⟨by simp [World.size_alloc],World.alloc_heap_new w o,fun k hk _=>by
  show(w.heap.push o)[k]?=w.heap[k]?;rw [Array.getElem?_push_lt hk];exact(qdk hk).symm,rfl,rfl,rfl⟩,World.size_alloc ..⟩
section steps
variable {P:Program} {b:Frame} {a:Act} {k:List Item} {cs:List Frame} {w:World}
variable {w':World} {v':Value}
theorem Dn {g:Operand} {ps:Array Tmp} {assign body:Code} {l:Nat} {mark:List Deferred} {w₁:World}
 (he:(Instr.enterLoop b.fn a.tmps ps assign body b.roundOf).run P w= .ok (l,mark) w₁)
 (h:mj P (do let d←Deferred.ofValue (a.eval g) #[.func (.yield l) #[] #[]];invoke d.target d.args) w₁ v' w' (b.atR {a with defers:=mark++a.defers} (.inRangeFunc l::k)) cs):
 Steps P (lone (b.atR a (.code (.rangeFunc g ps assign body)::k)) cs w) (lone (b.atR {a with defers:=mark++a.defers} (.endRangeFunc l::k)) cs w'):=by
 have hev:=Frame.eval_atR b {a with defers:=mark++a.defers} (.inRangeFunc l::k);simp only [Frame.atR] at hev;have hres:∀u,Sem.run P (resolve ({tmps:=a.tmps,defers:=mark++a.defers}:Act).eval {callee:=.value g,args:= #[.const (.func (.yield l) #[] #[])],argTypes:= #[]} 0) u=
  Sem.run P (Deferred.ofValue (a.eval g) #[.func (.yield l) #[] #[]]) u:=by
  intro u;have e1:({tmps:=a.tmps,defers:=mark++a.defers}:Act).eval g=a.eval g:=by cases g<;>rfl
  have e2:(#[Operand.const (.func (.yield l) #[] #[])].map ({tmps:=a.tmps,defers:=mark++a.defers}:Act).eval)= #[.func (.yield l) #[] #[]]:=by simp [Act.eval]
  simp only [resolve,e1,e2]
 rcases h with h1|⟨f,args,h1,h2⟩|⟨l',f,t,qak,bd,h1,h2⟩
 ·rw [Sem.run_bind] at h1;rw [←finish_atR_inRangeFunc l v'];refine .one (step_lone_go ?_);simp [stepG,stepG.exec,Frame.atR,Sem.runT_eq,he,GStep.bare_after,stepG.apply,hev,Sem.run_bind,hres,h1]
 ·rw [Sem.run_bind] at h1;rw [←finish_atR_inRangeFunc l v'];refine .head (step_lone_go ?_) h2;simp [stepG,stepG.exec,Frame.atR,Sem.runT_eq,he,GStep.bare_after,stepG.apply,hev,Sem.run_bind,hres,h1]
 ·rw [Sem.run_bind] at h1;rw [←finish_atR_inRangeFunc l v'];refine .head (step_lone_go ?_) h2;simp [stepG,stepG.exec,Frame.atR,Sem.runT_eq,he,GStep.bare_after,stepG.apply,hev,Sem.run_bind,hres,h1]
end steps
include ok in
theorem E' (hcall : gQ tb ih) (f : Operand) (ps : Array Tmp) (assign body : Code) (s : St) (e : Ex) (s1 : St) (h : fU tb ih f ps.toList assign body 0 s = .ok (e, s1)) :
    ek tb.P (.rangeFunc f ps assign body) s e s1 := by
  unfold fU at h
  obtain ⟨fv, h1, h2⟩ := R.ai h
  obtain ⟨⟨dfb, A, mark⟩, h3, h4⟩ := R.ai h2
  obtain ⟨cl, h5, h6⟩ := R.ai h4
  obtain ⟨res, h7, h8⟩ := R.ai h6
  dsimp only at h5 h7 h8
  have hlay : s.m.next ≤ A.next ∧ ∀ (ι : de) (b : Frame) (a : Act) (w : World), SR ι s b a w → eU ι s.m A → ι A.next = none →
      ∃ ι' w' l markd, (Instr.enterLoop b.fn a.tmps ps assign body b.roundOf).run tb.P w = .ok (l, markd) w' ∧ ι' A.next = some ⟨l, 0, 0⟩ ∧
        Rel ι' (A.alloc (.loop { state := .ready, pending := none, fn := 0, tmps := s.t, n := s.n, params := ps.toList, assign, body, defers := dfb })) w' ∧
        eH ι s.m w ι' (A.alloc (.loop { state := .ready, pending := none, fn := 0, tmps := s.t, n := s.n, params := ps.toList, assign, body, defers := dfb })) w' ∧
        DR ι' (mark ++ s.d) (markd ++ a.defers) b.defers ∧ eK ι ι' := by
    split at h3
    · rename_i l0 hro
      split at h3
      · rename_i r0 hg
        simp only [R.ok.injEq, qat] at h3
        obtain ⟨rfl, rfl, rfl⟩ := h3
        refine ⟨qao _, fun ι b a w hs hf hn => ?_⟩
        have hrr := hs.ro
        rw [hro] at hrr
        obtain ⟨ld, hl, hb⟩ := hrr
        obtain ⟨rq, hw, hlr, _⟩ := hs.rel.loop hg hl
        obtain ⟨ldd, hdl, hde⟩ := hlr.defers
        obtain ⟨hwu, hsz⟩ := wF w (.loop { state := .ready, pending := none, fn := b.fn, tmps := a.tmps, params := ps, assign, body, defers := rq.defers })
        obtain ⟨ι', h9, h10, h11⟩ := hs.rel.CG (ob := .loop { state := .ready, pending := none, fn := 0, tmps := s.t, n := s.n, params := ps.toList, assign, body, defers := r0.defers }) (sz := 0) hn (fun _ _ _ h => by cases h) hwu hsz
          (fun ι' hi _ => ⟨rfl, _, rfl, rfl, rfl, hs.tr.mono hi, rfl, rfl, rfl, ldd, hi _ _ hdl, hde⟩)
        have hle := h11.le (fun x hx1 hx2 => by rw [ae] at hx2; have : x = s.m.next := by omega
                                                rw [this]; exact hn)
        refine ⟨ι', _, _, [], ?_, h9, h10, h11, hs.dr.mono hle, hle⟩
        rw [hb]
        exact run_enterLoop_inner hw _ _ _ _ _
      · cases h3
    · rename_i hro
      simp only [R.ok.injEq, qat] at h3
      obtain ⟨rfl, rfl, rfl⟩ := h3
      refine ⟨by rw [ae]; omega, fun ι b a w hs hf hn => ?_⟩
      have hb : b.roundOf = none := by have := hs.ro; rw [hro] at this; exact this
      rw [ae] at hn
      have hn0 : ι s.m.next = none := hf _ (qao _) (by rw [ae]; omega)
      obtain ⟨hwu, hsz⟩ := wF w (.deferred (some []))
      obtain ⟨ι1, h9, h10, h11⟩ := hs.rel.CG (ob := .defd) (sz := 0) hn0 (fun _ _ _ h => by cases h) hwu hsz (fun _ _ _ => rfl)
      have hle1 := h11.le hf
      have hn1 : ι1 (s.m.alloc .defd).next = none := by
        rw [h11.out _ (.inr (qao _)), ae]; exact hn
      obtain ⟨hwu2, hsz2⟩ := wF (w.alloc (.deferred (some []))) (.loop { state := .ready, pending := none, fn := b.fn, tmps := a.tmps, params := ps, assign, body, defers := w.heap.size })
      obtain ⟨ι2, h12, h13, h14⟩ := h10.CG (ob := .loop { state := .ready, pending := none, fn := 0, tmps := s.t, n := s.n, params := ps.toList, assign, body, defers := s.m.next }) (sz := 0) hn1 (fun _ _ _ h => by cases h) hwu2 hsz2
        (fun ι' hi _ => ⟨rfl, _, rfl, rfl, rfl, (hs.tr.mono hle1).mono hi, rfl, rfl, rfl, _, hi _ _ h9, rfl⟩)
      have hle2 := h14.le (fun x hx1 hx2 => by rw [ae] at hx2; have : x = (s.m.alloc .defd).next := by omega
                                               rw [this]; exact hn1)
      have he := run_enterLoop_outer (P := tb.P) (w := w) b.fn a.tmps ps assign body
      rw [World.size_alloc] at h12
      refine ⟨ι2, _, _, [{ target := .collected w.heap.size, args := #[] }], ?_, h12, h13, h11.trans h14, ⟨⟨_, hle2 _ _ h9, rfl⟩, (hs.dr.mono hle1).mono hle2⟩, hle1.trans hle2⟩
      rw [hb]
      exact he
  obtain ⟨hle0, hlay⟩ := hlay
  split at h8
  · cases h8
  rename_i v0 A2
  rcases hcall cl _ _ h7 with ⟨_, _, hq, _⟩ | ⟨v2, A2', hq, hle2, hsnd⟩
  · cases hq
  cases hq
  rw [ae] at hle2
  split at h8
  rotate_left
  · cases h8
  rename_i r2 hg2
  have main : ∀ (e0 : Ex), r2.state ≠ .busy → e = e0 → s1 = { s with m := A2.set A.next (.loop { r2 with state := .exhausted }), d := mark ++ s.d } → (∀ k, II e0 k ((r2.pending.map Item.code).toList ++ k)) →
      ek tb.P (.rangeFunc f ps assign body) s e s1 := by
    rintro e0 hnb rfl rfl harr
    refine ⟨by show s.m.next ≤ A2.next; omega, fun ι b a k cs w hs hf => ?_⟩
    have hf : ∀ x, s.m.next ≤ x → x < A2.next → ι x = none := hf
    obtain ⟨ι1, w1, l, markd, he, hl, hrel1, hst1, hdr1, hi1⟩ := hlay ι b a w hs (fun x hx1 hx2 => hf x hx1 (by omega)) (hf _ hle0 (by omega))
    have hev : VR ι1 fv (a.eval f) := (aS h1 hs.tr).mono hi1
    have hcl := qh ok hrel1 h5 hev (args' := #[.func (.yield l) #[] #[]]) (.cons (.yield hl) .nil)
    obtain ⟨ι2, w2, v', hdone, _, hrel2, hst2⟩ := hsnd ι1 w1 _ (b.atR { a with defers := markd ++ a.defers } (.inRangeFunc l :: k)) cs hrel1 hcl (fun x hx1 hx2 => by
      rw [ae] at hx1
      rw [hst1.out x (.inr (by rw [ae]; exact hx1))]
      exact hf x (by omega) hx2)
    have hi2 : eK ι1 ι2 := hst2.le (fun x hx1 hx2 => by
      rw [ae] at hx1
      rw [hst1.out x (.inr (by rw [ae]; exact hx1))]
      exact hf x (by omega) hx2)
    obtain ⟨rq2, hw2, hlr2, h02⟩ := hrel2.loop hg2 (hi2 _ _ hl)
    obtain ⟨hrel3, hst3⟩ := hrel2.xX (q := { r2 with state := .exhausted }) (q' := { rq2 with state := .exhausted }) hg2 (hi2 _ _ hl) hw2 h02
      ⟨rfl, hlr2.pending, hlr2.tmps, hlr2.params, hlr2.assign, hlr2.body, hlr2.defers⟩
    have st1 := Dn (P := tb.P) (b := b) (a := a) (k := k) (cs := cs) he hdone
    have st2 := stepR_endRangeFunc (P := tb.P) (b := b) (a := { a with defers := markd ++ a.defers }) (k := k) (cs := cs) (run_endLoop hw2 (by rw [hlr2.state]; exact hnb))
    exact ⟨ι2, _, _, _, st1.trans (.one st2), by rw [hlr2.pending]; exact harr k, ⟨hrel3, (hs.tr.mono hi1).mono hi2, (hs.ro.mono hi1).mono hi2, hdr1.mono hi2⟩, ⟨(hst1.trans hst2).trans hst3, rfl, rfl⟩⟩
  split at h8
  · cases h8
  · rename_i hp hnb
    simp only [R.ok.injEq, qat] at h8
    exact (main .nrm hnb h8.1.symm h8.2.symm (fun k => by rw [hp]; rfl))
  · rename_i id hp hnb
    simp only [R.ok.injEq, qat] at h8
    exact (main (.exit id) hnb h8.1.symm h8.2.symm (fun k => by rw [hp]; exact ⟨k, rfl, rfl⟩))
  · rename_i hp hnb
    simp only [R.ok.injEq, qat] at h8
    exact (main .ret hnb h8.1.symm h8.2.symm (fun k => by rw [hp]; exact ⟨k, rfl⟩))
  · cases h8
end
section
variable {tb:bO} {τ τ':T Value}
theorem pD:∀{l:List Operand},(∀x∈l,ev τ x=ev τ' x)→pC τ l=pC τ' l
 | [],_=>rfl
 |x::l,h=>by simp only [pC,h x (by simp),pD (l:=l) fun y hy=>h y (by simp [hy])]
theorem tz:∀{l:List (Nat×Operand)},(∀x∈l.map (·.2),ev τ x=ev τ' x)→Hr τ l=Hr τ' l
 | [],_=>rfl
 |(i,x)::l,h=>by simp only [Hr,h x (by simp),tz (l:=l) fun y hy=>h y (by simp only [qbx,qaK];exact .inr hy)]
theorem pA:∀{x:Option Operand},(∀y∈x.toArray,ev τ y=ev τ' y)→EC τ x=EC τ' x
 |none,_=>rfl
 |some x,h=>by simp only [EC,h x (by simp)]
theorem px {c:Call} (h:∀x∈c.operands,ev τ x=ev τ' x):pC τ c.args.toList=pC τ' c.args.toList:=
 pD fun x hx=>h x (by simp [Call.operands,Array.mem_toList_iff.1 hx])
theorem Hl {g:Nat→Option Ob} {c:Call} (h:∀x∈c.operands,ev τ x=ev τ' x):w_ tb τ g c=w_ tb τ' g c:=by
 unfold w_;rw [px h];cases hc:c.callee with
 |value f=>have hf:ev τ f=ev τ' f:=h f (by simp [Call.operands,hc]);simp only [hf]
 |invoke r m=>have hr:ev τ r=ev τ' r:=h r (by simp [Call.operands,hc]);simp only [hr]
 |builtin b=>rfl
theorem Bk {o:Op} (h:∀x∈o.operands,ev τ x=ev τ' x):tQ tb τ o=tQ tb τ' o:=by
 cases o<;>simp only [Op.operands] at h<;>simp only [tQ]
 case build t ps=>rw [tz fun x hx=>h x (by simpa using hx)]
 case makeFunc fn a b=>rw [pD (l:=a.toList) fun x hx=>h x (by simp at hx;simp [hx]),pD (l:=b.toList) fun x hx=>h x (by simp at hx;simp [hx])]
 case call c=>cases c.callee<;>simp only [px h]
 case slice t x lo hi mx=>rw [h x (by simp),pA (x:=lo) fun y hy=>h y (by simp [hy]),pA (x:=hi) fun y hy=>h y (by simp [hy]),pA (x:=mx) fun y hy=>h y (by simp [hy])]
 all_goals (first|rfl|(simp_all;done))
theorem Bp {g:Nat→Option Ob} {o:Op} (h:∀x∈o.operands,ev τ x=ev τ' x):nX tb τ g o=nX tb τ' g o:=by
 cases o<;>simp only [Op.operands] at h<;>simp only [nX]
 case call c=>rw [px h]
 case load t x=>cases x<;>simp_all
 case indexAddr t x i=>cases x<;>simp_all
 all_goals (first|rfl|(simp_all;done))
theorem Ac {o:Op} (h:∀x∈o.operands,ev τ x=ev τ' x):DW tb τ o=DW tb τ' o:=by
 cases o<;>simp only [Op.operands] at h<;>simp only [DW]
 case buildSlice t n ps=>rw [tz fun x hx=>h x (by simpa using hx)]
 case makeMap t r=>rw [pA h]
 all_goals (first|rfl|(simp_all;done))
variable {A:Mem}
theorem Li {o:Op} (h:∀x∈o.operands,ev τ x=ev τ' x):HI tb τ A o=HI tb τ' A o:=by
 cases o<;>simp only [Op.operands] at h<;>simp only [HI]
 case call c=>rw [px h]
 all_goals (first|rfl|(simp_all;done))
end
section
variable {tb:bO} {ih:Code→St→R (Ex×St)}
def Kw (tb:bO) (ih:Code→St→R (Ex×St)) (o:Oper) (t:T Value) (A:Mem) (v:Value) (A':Mem):Prop:=
 ∀(t':T Value) (n:Nat) (d:List Nat) (ro:Option Nat) (k:St→R (Ex×St)),(∀x∈o.op.operands,ev t x=ev t' x)→
  dL tb ih o ⟨t',n,d,A,ro⟩ k=bR ⟨t',n,d,A',ro⟩ o.dst v k
theorem yg {o : Oper} {s : St} {k : St → R (Ex × St)} {r : Ex × St} (h : dL tb ih o s k = .ok r) :
    (∃ v s1, r = (.kx v, s1)) ∨ ∃ v A', bR { s with m := A' } o.dst v k = .ok r ∧ Kw tb ih o s.t s.m v A' ∧
      (match cls tb o.op with
       | .P => tQ tb s.t o.op = .ok v ∧ A' = s.m
       | .Rd => nX tb s.t s.m.get o.op = .ok v ∧ A' = s.m
       | .Al => ∃ ob way, DW tb s.t o.op = .ok (ob, way) ∧ A' = s.m.alloc ob ∧ v = way.at s.m.next
       | .L => True) := by
  unfold dL at h
  split at h
  · rename_i c hc
    obtain ⟨cl, h1, h2⟩ := R.ai h
    obtain ⟨res, h3, h4⟩ := R.ai h2
    have hop : o.op = .call c := by
      unfold iz at hc
      split at hc
      · rename_i c' hop
        split at hc
        · cases hc
        · simp only [qaX] at hc; rw [hop, hc]
      · cases hc
    have hL : cls tb o.op = .L := by
      rw [hop] at hc ⊢
      unfold iz at hc
      simp only at hc
      unfold cls
      simp only
      split at hc
      · cases hc
      · rfl
    split at h4
    · rename_i v A
      refine .inr ⟨v, A, h4, fun t' n d ro k' hx => ?_, ?_⟩
      · have hx' : ∀ x ∈ c.operands, ev s.t x = ev t' x := by rw [hop] at hx; exact hx
        unfold dL
        rw [hc]
        simp only
        rw [← Hl hx', h1]
        simp only [R.bind, h3]
      · rw [hL]; trivial
    · rename_i v A
      simp only [R.ok.injEq] at h4
      exact .inl ⟨v, _, h4.symm⟩
  · rename_i hnc
    split at h
    · rename_i hcls
      obtain ⟨v, h1, h2⟩ := R.ai h
      refine .inr ⟨v, s.m, h2, fun t' n d ro k' hx => ?_, ?_⟩
      · unfold dL
        rw [hnc, hcls]
        simp only
        rw [← Bk hx, h1]; rfl
      · rw [hcls]; exact ⟨h1, rfl⟩
    · rename_i hcls
      obtain ⟨v, h1, h2⟩ := R.ai h
      refine .inr ⟨v, s.m, h2, fun t' n d ro k' hx => ?_, ?_⟩
      · unfold dL
        rw [hnc, hcls]
        simp only
        rw [← Bp hx, h1]; rfl
      · rw [hcls]; exact ⟨h1, rfl⟩
    · rename_i hcls
      obtain ⟨⟨ob, way⟩, h1, h2⟩ := R.ai h
      refine .inr ⟨_, _, h2, fun t' n d ro k' hx => ?_, ?_⟩
      · unfold dL
        rw [hnc, hcls]
        simp only
        rw [← Ac hx, h1]; rfl
      · rw [hcls]; exact ⟨ob, way, h1, rfl, rfl⟩
    · rename_i hcls
      split at h
      · rename_i x hop
        obtain ⟨xv, h1, h2⟩ := R.ai h
        split at h2
        · simp only [R.ok.injEq] at h2
          exact .inl ⟨_, _, h2.symm⟩
        · cases h2
      · rename_i hnp
        obtain ⟨⟨v, A⟩, h1, h2⟩ := R.ai h
        refine .inr ⟨v, A, h2, fun t' n d ro k' hx => ?_, ?_⟩
        · unfold dL
          rw [hnc, hcls]
          simp only
          rw [← Li hx, h1]; rfl
        · rw [hcls]; trivial
end
section
variable {tb:bO} {ih:Code→St→R (Ex×St)}
theorem zD {α:Type} {f:α→α→Bool} (h:∀x y,f x y=true→x=y):∀{l m:List α},l.length=m.length→((l.zip m).all fun(x,y)=>f x y)=true→l=m
 | [],[],_,_=>rfl
 | [],_::_,h1,_=>by simp at h1
 |_::_,[],h1,_=>by simp at h1
 |x::l,y::m,h1,h2=>by
  simp only [List.zip_cons_cons,qet,qaO] at h2;rw [h x y h2.1,zD h (by simpa using h1) h2.2]
theorem y4 {a b:Option Nat} (h:qx a b=true):a=b:=by
 cases a<;>cases b<;>simp [qx] at h
 ·rfl
 ·rw [h]
theorem F1 {a b:Addr} (h:uT a b=true):a=b:=by
 obtain⟨x,y,z⟩:=a;obtain⟨x',y',z'⟩:=b;simp only [uT,qaO] at h;obtain⟨⟨h1,h2⟩,h3⟩:=h;have h1:=qaL h1;have h2:=qaL h2;have h3:=y4 h3;rw [h1,h2,h3]
theorem Mg {a b:Fn} (h:yZ a b=true):a=b:=by
 unfold yZ at h;split at h
 ·rw [qaL h]
 ·rw [qaL h]
 ·cases h
theorem j':∀(d:Nat) (a b:Value),cG d a b=true→a=b
 |0,_,_,h=>by cases h
 |d+1,a,b,h=>by
  have hl:∀l m:List Value,(qaw l.length m.length&&(l.zip m).all fun(x,y)=>cG d x y)=true→l=m:=by
   intro l m h;simp only [qaO] at h;exact zD (j' d) (qaL h.1) h.2
  have hA:∀x y:Array Value,(qaw x.toList.length y.toList.length&&(x.toList.zip y.toList).all fun(x,y)=>cG d x y)=true→x=y:=fun x y h=>qbT (hl _ _ h)
  unfold cG at h;simp only at h;split at h
  ·rfl
  ·rfl
  ·simp only [qaO] at h;have h2:=h.2;rw [lv] at h2;rw [mD h.1,eq_of_beq h2]
  ·rename_i x y;rw [di] at h;have:=eq_of_beq h;congr 1;exact congrArg ByteArray.mk (qbT this)
  ·rfl
  ·rw [F1 h]
  ·simp only [qaO] at h;rw [qaL h.1,qaL h.2]
  ·simp only [qaO] at h;rw [F1 h.1.1,qaL h.1.2,qaL h.2]
  ·rw [y4 h]
  ·rw [y4 h]
  ·rfl
  ·rfl
  ·simp only [qaO] at h;rw [qaL h.1,j' d _ _ h.2]
  ·rw [qaO,qaO] at h;rw [Mg h.1.1,hA _ _ h.1.2,hA _ _ h.2]
  ·rw [hA _ _ h]
  ·rw [hA _ _ h]
  ·rfl
  ·cases h
end
section
variable {tb:bO}
theorem oF {acc:List Nat}:∀{es:List Edge} {m:Nat},tw acc es= .ok m→
 (∀e∈es,Region.binds .any e=true→∃a,acc[e.on]?=some a)∧
 ∀i,m.testBit i=true→∃e∈es,Region.binds .any e=true∧∃a,acc[e.on]?=some a∧(i=e.on∨a.testBit i=true)
 | [],m,h=>by
  simp only [tw,R.ok.injEq] at h;subst h;exact⟨by simp,fun i hi=>by simp at hi⟩
 |e::es,m,h=>by
  unfold tw at h;obtain⟨m0,h1,h2⟩:=R.ai h;obtain⟨h3,h4⟩:=oF h1;cases hb:Region.binds .any e with
  |false=>
   rw [hb] at h2;simp only [cond_false,R.ok.injEq] at h2;subst h2;refine⟨fun x hx hbx=>?_,fun i hi=>?_⟩
   ·rcases qaK.1 hx with rfl|hx
    ·rw [hb] at hbx;cases hbx
    ·exact h3 x hx hbx
   ·obtain⟨x,hx,hr⟩:=h4 i hi;exact⟨x,qay _ hx,hr⟩
  |true=>
   rw [hb] at h2;simp only [cond_true] at h2;split at h2
   ·rename_i a ha;simp only [R.ok.injEq] at h2;subst h2;refine⟨fun x hx hbx=>?_,fun i hi=>?_⟩
    ·rcases qaK.1 hx with rfl|hx
     ·exact⟨a,ha⟩
     ·exact h3 x hx hbx
    ·have hi':((1<<<e.on|||a)|||m0).testBit i=true:=hi;simp only [Nat.testBit_or,qeC] at hi';rcases hi' with(h5|h5)|h5
     ·refine⟨e,qaz,hb,a,ha,.inl ?_⟩;rw [Nat.one_shiftLeft,Nat.testBit_two_pow] at h5;simpa using (of_decide_eq_true h5).symm
     ·exact⟨e,qaz,hb,a,ha,.inr h5⟩
     ·obtain⟨x,hx,hr⟩:=h4 i h5;exact⟨x,qay _ hx,hr⟩
   ·cases h2
theorem xP {ops:List Oper}:∀{os:List Oper} {acc:List Nat} {l:List Gn},EX tb ops os acc= .ok l→
 l.length=os.length∧∀j o,os[j]?=some o→∃x,l[j]?=some x∧x.c=cls tb o.op∧x.w=o.dst.toList∧x.r=jA ops o∧tw (acc++(l.take j).map (·.m)) o.after.toList= .ok x.m
 | [],acc,l,h=>by
  simp only [EX,R.ok.injEq] at h;subst h;exact⟨rfl,fun j o ho=>by simp at ho⟩
 |o::os,acc,l,h=>by
  unfold EX at h;obtain⟨m,h1,h2⟩:=R.ai h;rw [v_] at h2;obtain⟨l',h3,h4⟩:=R.ai h2;simp only [R.ok.injEq] at h4;subst h4;obtain⟨h5,h6⟩:=xP h3;refine⟨by simp [h5],fun j o' ho=>?_⟩;cases j with
  |zero=>
   simp only [qau,qaX] at ho;subst ho;exact⟨_,rfl,rfl,rfl,rfl,by simpa using h1⟩
  |succ j=>
   obtain⟨x,e1,e2,e3,e4,e5⟩:=h6 j o' (by simpa using ho);exact⟨x,by simpa using e1,e2,e3,e4,by simpa using e5⟩
def Aa (fl:List (Nat×Nat)) (i:Nat) (a:Gn) (j:Nat) (b:Gn):Prop:=
 b.m.testBit i=true∨(jZ a.w b.w=false∧jZ a.w b.r=false∧jZ a.r b.w=false∧¬(a.c= .L∧b.c= .L)∧
  (a.c= .Rd→b.c= .L→(i,j)∈fl)∧(a.c= .L→b.c= .Rd→(j,i)∈fl)∧(a.c= .Al→b.c= .L→(i,j)∈fl))
variable {i j:Nat}
theorem Aa.mono {fl fl':List (Nat×Nat)} {a b:Gn} (hs:∀p∈fl,p∈fl') (h:Aa fl i a j b):Aa fl' i a j b:=by
 rcases h with h|⟨h1,h2,h3,h4,h5,h6,h7⟩
 ·exact .inl h
 ·exact .inr ⟨h1,h2,h3,h4,fun x y=>hs _ (h5 x y),fun x y=>hs _ (h6 x y),fun x y=>hs _ (h7 x y)⟩
theorem HY {a b:Gn} {fl:List (Nat×Nat)} (h:O4 i a j b= .ok fl):Aa fl i a j b:=by
 unfold O4 at h;cases ht:b.m.testBit i with
 |true=>exact .inl ht
 |false=>
  rw [ht] at h;simp only [cond_false] at h;cases hm:(jZ a.w b.w||jZ a.w b.r||jZ a.r b.w) with
  |true=>rw [hm] at h;cases h
  |false=>
   rw [hm] at h;simp only [cond_false] at h;simp only [qcH] at hm;refine .inr ⟨hm.1.1,hm.1.2,hm.2,?_⟩;cases ha:a.c<;>cases hb:b.c<;>rw [ha,hb] at h<;>simp only [R.ok.injEq] at h<;>first
    |(cases h;done)
    |(subst h;simp)
theorem ta {b:Gn}:∀{l:List Gn} {i0:Nat} {fl:List (Nat×Nat)},wu j b l i0= .ok fl→∀i a,l[i]?=some a→Aa fl (i0+i) a j b
 | [],_,_,_,i,a,hi=>by simp at hi
 |x::l,i0,fl,h,i,a,hi=>by
  unfold wu at h;obtain⟨p,h1,h2⟩:=R.ai h;obtain⟨q,h3,h4⟩:=R.ai h2;simp only [R.ok.injEq] at h4;subst h4;cases i with
  |zero=>
   simp only [qau,qaX] at hi;subst hi;exact(HY h1).mono fun y hy=>qd5 _ hy
  |succ i=>
   have:=ta h3 i a (by simpa using hi);rw [show i0+(i+1)=i0+1+i by omega];exact this.mono fun y hy=>qbU _ hy
theorem uJ {all:List Gn}:∀{l:List Gn} {j0:Nat} {fl:List (Nat×Nat)},Dl all l j0= .ok fl→∀j b,l[j]?=some b→∀i a,i<j0+j→all[i]?=some a→Aa fl i a (j0+j) b
 | [],_,_,_,j,b,hj=>by simp at hj
 |x::l,j0,fl,h,j,b,hj=>by
  unfold Dl at h;obtain⟨p,h1,h2⟩:=R.ai h;obtain⟨q,h3,h4⟩:=R.ai h2;simp only [R.ok.injEq] at h4;subst h4;intro i a hi ha;cases j with
  |zero=>
   simp only [qau,qaX] at hj;subst hj;have:=ta h1 i a (by rw [qbm,if_pos (by omega)];exact ha);rw [qa1] at this;exact this.mono fun y hy=>qd5 _ hy
  |succ j=>
   have:=uJ h3 j b (by simpa using hj) i a (by omega) ha;rw [show j0+(j+1)=j0+1+j by omega];exact this.mono fun y hy=>qbU _ hy
theorem ni {a b:List Nat} (h:jZ a b=false):∀x,x∈a→x∉b:=by
 intro x ha hb;have:jZ a b=true:=List.any_eq_true.2 ⟨x,ha,List.any_eq_true.2 ⟨x,hb,by simp⟩⟩;rw [h] at this;cases this
end
inductive rn (ops:Array Oper):(Nat→Prop)→List Nat→Prop
 |nil {S:Nat→Prop} (h:∀i,i<ops.size→S i):rn ops S []
 |cons {S:Nat→Prop} {i:Nat} {rest:List Nat} {o:Oper} (ho:ops[i]?=some o) (hn:¬S i) (he:∀e∈o.after,Region.binds .any e=true→S e.on)
  (h:rn ops (fun j=>S j∨j=i) rest):rn ops S (i::rest)
variable {ops:Array Oper}
theorem rn.congr {S S':Nat→Prop} {l:List Nat} (h:rn ops S l) (hs:∀j,S j↔S' j):rn ops S' l:=by
 have:S=S':=funext fun j=>propext (hs j)
 rw [←this];exact h
def missing (ops:Array Oper) (listed:Array Bool):Nat:=((qbN ops.size).filter fun i=>!listed.getD i true).length
variable {i:Nat}
theorem jl {l:Array Bool} (h:i<l.size):l.getD i true=l.getD i false:=by simp [Array.getD,h]
theorem filter_le {α:Type} {p q:α→Bool}:∀{l:List α},(∀x∈l,q x=true→p x=true)→(l.filter q).length≤(l.filter p).length
 | [],_=>by simp
 |y::l,h1=>by
  have ih:=filter_le (p:=p) (q:=q) (l:=l) fun x hx=>h1 x (by simp [hx])
  have hy:=h1 y (by simp);rw [qbp,qbp];cases hq:q y<;>cases hp:p y<;>simp_all<;>omega
theorem filter_lt {α:Type} {p q:α→Bool}:∀{l:List α},(∀x∈l,q x=true→p x=true)→(∃x∈l,p x=true∧q x=false)→(l.filter q).length<(l.filter p).length
 | [],_,h=>by obtain⟨x,hx,_⟩:=h;cases hx
 |y::l,h1,⟨x,hx,hp,hq⟩=>by
  have hle:=filter_le (p:=p) (q:=q) (l:=l) fun x hx=>h1 x (by simp [hx])
  have hy:=h1 y (by simp);rw [qbp,qbp];rcases qaK.1 hx with rfl|hx
  ·simp [hp,hq];omega
  ·have ih:=filter_lt (p:=p) (q:=q) (l:=l) (fun x hx=>h1 x (by simp [hx])) ⟨x,hx,hp,hq⟩;cases hqy:q y<;>cases hpy:p y<;>simp_all<;>omega
theorem nU (hback:∀(i:Nat) (o:Oper),ops[i]?=some o→∀e∈o.after,Region.binds .any e=true→e.on<i):
 ∀(fuel t:Nat) (listed:Array Bool),listed.size=ops.size→missing ops listed≤fuel→rn ops (fun j=>listed.getD j false=true) (Region.linearise.go .any ops fuel t listed [])
 |0,t,listed,hs,hm=>by
  simp only [Region.linearise.go,List.reverse_nil];refine .nil fun i hi=>?_
  have h0:(qbN ops.size).filter (fun i=>!listed.getD i true)=[]:=qaP.1 (by unfold missing at hm;omega);have:=List.filter_eq_nil_iff.1 h0 i (by simpa using hi);rw [←jl (by omega)];simpa using this
 |fuel+1,t,listed,hs,hm=>by
  simp only [Region.linearise.go];change rn ops _ (match(Region.ready .any ops listed)[t % (Region.ready .any ops listed).length]? with
   |some i=>Region.linearise.go .any ops fuel (t/(Region.ready .any ops listed).length) (listed.setIfInBounds i true) [i]
   |none=>[].reverse)
  cases hi:(Region.ready .any ops listed)[t % (Region.ready .any ops listed).length]? with
  |none=>
   have hnil:Region.ready .any ops listed=[]:=by
    cases hr:Region.ready .any ops listed with
    |nil=>rfl
    |cons x xs=>
     rw [hr] at hi;have hlt:t % (x::xs).length<(x::xs).length:=qbE _ (by simp);simp at hi;simp at hlt;omega
   refine .nil fun i=>?_
   induction i using qcL with
   |ind i ih=>
    intro hlt;cases hl:listed.getD i false with
    |true=>rfl
    |false=>
     exfalso;have hmem:i∈Region.ready .any ops listed:=by
      rw [mem_ready];refine⟨by rw [jl (by omega)];exact hl,ops[i],by simp [hlt],fun e he hb=>?_⟩;have:=hback i ops[i] (by simp [hlt]) e he hb;exact ih e.on this (by omega)
     rw [hnil] at hmem;cases hmem
  |some i=>
   simp only [];rw [linearise_go_acc,List.reverse_singleton,List.singleton_append];have hmem:=qa0 hi;rw [mem_ready] at hmem;obtain⟨h1,o,ho,he⟩:=hmem;have hlt:i<ops.size:=(qaM.1 ho).1;have hset:∀j,(listed.setIfInBounds i true).getD j false=true↔(listed.getD j false=true∨j=i):=by
    intro j;by_cases hj:j=i
    ·subst hj;simp [Array.getD,hs,hlt]
    ·rw [getD_set_ne false (Ne.symm hj)];simp [hj]
   refine .cons ho (by rw [←jl (by omega),h1];simp) he ((nU hback fuel _ _ (by simpa using hs) ?_).congr hset);have:missing ops (listed.setIfInBounds i true)<missing ops listed:=by
    refine filter_lt (fun x hx hq=>?_) ⟨i,by simpa using hlt,by simp [h1],by simp [Array.getD,hs,hlt]⟩;by_cases hxi:x=i
    ·subst hxi;simp [h1]
    ·rw [getD_set_ne true (Ne.symm hxi)] at hq;exact hq
   omega
section
variable {tb:bO} {ih:Code→St→R (Ex×St)}
def vz (t:T Value) (dst:Option Tmp) (v:Value):T Value:=
 match dst with
 |none=>t
 |some d=>t.set d v
theorem EN (t:T Value) (dst:Option Tmp) (v:Value) (x:Nat):(vz t dst v).get x=if dst=some x then some v else t.get x:=by
 cases dst with
 |none=>simp [vz]
 |some d=>
  simp only [vz,T.aH,qaX];by_cases h:x=d
  ·simp [h]
  ·rw [if_neg h,if_neg (fun e=>h e.symm)]
variable {dst:Option Tmp} {v:Value}
theorem sd {s:St} {k:St→R (Ex×St)} {r:Ex×St} (h:bR s dst v k= .ok r):
 k {s with t:=vz s.t dst v}= .ok r∧∀d,dst=some d→d<s.n:=by
 unfold bR at h;split at h
 ·exact⟨h,by simp⟩
 ·rename_i d;cases hb:qax d s.n with
  |false=>rw [hb] at h;cases h
  |true=>
   rw [hb] at h;simp only [cond_true,CV] at h;exact⟨h,fun d' hd=>by cases hd;exact cS hb⟩
theorem JQ {s:St} {k:St→R (Ex×St)} (hd:∀d,dst=some d→d<s.n):bR s dst v k=k {s with t:=vz s.t dst v}:=by
 unfold bR;cases dst with
 |none=>rfl
 |some d=>
  have:qax d s.n=true:=by rw [qaH];exact hd d rfl
  simp only [this,cond_true,CV,vz]
theorem jW:∀(bs:List Nat) (A:Mem),(ff bs A).next=A.next
 | [],_=>rfl
 |b::bs,A=>by rw [ff,jW bs,aO]
theorem iw:∀(bs:List Nat) (A:Mem) (x:Nat),(ff bs A).get x=if x∈bs then some .dead else A.get x
 | [],_,_=>by simp [ff]
 |b::bs,A,x=>by
  rw [ff,iw bs,aC];by_cases h:x∈bs
  ·simp [h]
  ·by_cases h2:x=b<;>simp [h,h2]
theorem mV {g:Nat→Option Ob}:∀{bs:List Nat} {A A':Mem},gI g bs A= .ok A'→A'.next=A.next
 | [],A,A',h=>by simp only [gI,R.ok.injEq] at h;rw [h]
 |b::bs,A,A',h=>by
  unfold gI at h;split at h
  ·rw [mV h,aO]
  ·cases h
theorem pv {g:Nat→Option Ob}:∀{bs:List Nat} {A A':Mem},gI g bs A= .ok A'→(∀x∈bs,∃o,g x=some o)∧∀x,A'.get x=if x∈bs then g x else A.get x
 | [],A,A',h=>by simp only [gI,R.ok.injEq] at h;subst h;exact⟨by simp,by simp⟩
 |b::bs,A,A',h=>by
  unfold gI at h;split at h
  ·rename_i o ho;obtain⟨h1,h2⟩:=pv h;refine⟨fun x hx=>?_,fun x=>?_⟩
   ·rcases qaK.1 hx with rfl|hx
    ·exact⟨o,ho⟩
    ·exact h1 x hx
   ·rw [h2,aC];by_cases hx:x∈bs
    ·simp [hx]
    ·by_cases hb:x=b
     ·subst hb;simp [hx,ho]
     ·simp [hx,hb]
  ·cases h
structure Tz (tb : bO) (ih : Code → St → R (Ex × St)) (ops : List Oper) (o : Oper) (s s1 : St) (w : Bool) (v : Value) (bs : List Nat) : Prop where
  want : fu ops o s.t = .ok w
  dst : ∀ d, o.dst = some d → d < s.n
  to : s1 = { s with m := s1.m, t := vz s.t o.dst v }
  no : w = false → v = bL ∧ s1.m = s.m
  kind : w = true → match cls tb o.op with
       | .P => tQ tb s.t o.op = .ok v ∧ s1.m = s.m
       | .Rd => nX tb s.t s.m.get o.op = .ok v ∧ s1.m = s.m
       | .Al => ∃ ob way, DW tb s.t o.op = .ok (ob, way) ∧ s1.m = s.m.alloc ob ∧ v = way.at s.m.next
       | .L => ∃ A1, Kw tb ih o s.t (ff bs s.m) v A1 ∧ gI s.m.get bs A1 = .ok s1.m
theorem Br {g:Nat→Option Ob} {x:Rec} (h:eg tb g x=true):nX tb x.t g x.o= .ok x.v:=by
 unfold eg at h;split at h
 ·rename_i v hv;rw [hv,j' _ _ _ h]
 ·cases h
variable {r:Nat}
theorem mc {l:Nat} {fl:List (Nat×Nat)} (h:(r,l)∈fl):b_ r l fl=true:=
 List.any_eq_true.2 ⟨_,h,by simp⟩
def Xt (tb:bO) (ops:Array Oper) (st:Nat→St) (wb:Nat→Bool) (M:Mem) (i q:Nat) (A:Mem):Prop:=
 ∀b ob,A.get b=some ob→M.get b=some ob∨∃p o,i≤p∧p<q∧ops[p]?=some o∧wb p=true∧cls tb o.op= .Al∧b=(st p).m.next∧(st (p+1)).m.get b=some ob
theorem Xt.self {st:Nat→St} {wb:Nat→Bool} {M:Mem} {q:Nat}:Xt tb ops st wb M i q M:=fun _ _ h=>.inl h
variable {A:Mem} {j:Nat}
theorem Xt.up {st st':Nat→St} {wb wb':Nat→Bool} {M M':Mem} {q:Nat} (h:Xt tb ops st wb M j q A) (hij:i≤j) (hs:∀p,j≤p→st' p=st p) (hw:∀p,j≤p→wb' p=wb p)
 (hM:∀b ob,M.get b=some ob→M'.get b=some ob∨∃p o,i≤p∧p<q∧ops[p]?=some o∧wb' p=true∧cls tb o.op= .Al∧b=(st' p).m.next∧(st' (p+1)).m.get b=some ob):Xt tb ops st' wb' M' i q A:=by
 intro b ob hb;rcases h b ob hb with h1|⟨p,o,h1,h2,h3,h4,h5,h6,h7⟩
 ·exact hM b ob h1
 ·exact .inr ⟨p,o,by omega,h2,h3,by rw [hw p h1];exact h4,h5,by rw [hs p h1];exact h6,by rw [hs (p+1) (by omega)];exact h7⟩
structure Row (tb:bO) (ih:Code→St→R (Ex×St)) (ops:Array Oper) (fl:List (Nat×Nat)) (i:Nat) (st:Nat→St) (wb:Nat→Bool) (vv:Nat→Value) (hb:Nat→List Nat):Prop where
 step:∀p o,i≤p→ops[p]?=some o→Tz tb ih ops.toList o (st p) (st (p+1)) (wb p) (vv p) (hb p)
 late:∀p q o o',i≤p→p<q→ops[p]?=some o→ops[q]?=some o'→wb p=true→wb q=true→cls tb o.op= .Rd→cls tb o'.op= .L→(p,q)∈fl→nX tb (st p).t (st (q+1)).m.get o.op= .ok (vv p)
 early:∀p q o o',i≤p→p<q→ops[p]?=some o→ops[q]?=some o'→wb p=true→wb q=true→cls tb o.op= .L→cls tb o'.op= .Rd→(q,p)∈fl→∃A,Xt tb ops st wb (st p).m p q A∧nX tb (st q).t A.get o'.op= .ok (vv q)
 float:∀p q o o',i≤p→p<q→ops[p]?=some o→ops[q]?=some o'→wb p=true→wb q=true→cls tb o.op= .Al→cls tb o'.op= .L→(p,q)∈fl→(st p).m.next∈hb q
structure Kz (tb:bO) (ih:Code→St→R (Ex×St)) (ops:Array Oper) (fl:List (Nat×Nat)) (i:Nat) (mems:List (Nat×Mem)) (recs:List Rec) (mks:List (Nat×Nat)) (st:Nat→St) (wb:Nat→Bool) (vv:Nat→Value) (hb:Nat→List Nat):Prop where
 row:Row tb ih ops fl i st wb vv hb
 recs:∀x∈recs,∀q o',i≤q→ops[q]?=some o'→wb q=true→cls tb o'.op= .L→(x.i,q)∈fl→nX tb x.t (st (q+1)).m.get x.o= .ok x.v
 mems:∀m∈mems,∀q o',i≤q→ops[q]?=some o'→wb q=true→cls tb o'.op= .Rd→(q,m.1)∈fl→∃A,Xt tb ops st wb m.2 i q A∧nX tb (st q).t A.get o'.op= .ok (vv q)
 mks:∀m∈mks,∀q o',i≤q→ops[q]?=some o'→wb q=true→cls tb o'.op= .L→(m.1,q)∈fl→m.2∈hb q
theorem Kz.cons {fl:List (Nat×Nat)} {o:Oper} {s:St} {w:Bool} {bs:List Nat} {st:Nat→St} {wb:Nat→Bool} {vv:Nat→Value} {hb:Nat→List Nat}
 {mems mems':List (Nat×Mem)} {recs recs':List Rec} {mks mks':List (Nat×Nat)}
 (ho:ops[i]?=some o) (h:Kz tb ih ops fl (i+1) mems' recs' mks' st wb vv hb) (hs:Tz tb ih ops.toList o s (st (i+1)) w v bs)
 (hm:∀m∈mems,∃M,(m.1,M)∈mems'∧∀b ob,M.get b=some ob→m.2.get b=some ob∨(w=true∧cls tb o.op= .Al∧b=s.m.next∧(st (i+1)).m.get b=some ob)) (hr:∀x∈recs,x∈recs') (hk:∀x∈mks,x∈mks')
 (hR:w=true→cls tb o.op= .Rd→⟨i,s.t,o.op,v⟩∈recs'∧∀m∈mems,(i,m.1)∈fl→nX tb s.t m.2.get o.op= .ok v)
 (hL:w=true→cls tb o.op= .L→(i,s.m)∈mems'∧(∀x∈recs,(x.i,i)∈fl→nX tb x.t (st (i+1)).m.get x.o= .ok x.v)∧∀m∈mks,(m.1,i)∈fl→m.2∈bs)
 (hA:w=true→cls tb o.op= .Al→(i,s.m.next)∈mks'):
 Kz tb ih ops fl i mems recs mks (fun p=>if p≤i then s else st p) (fun p=>if p≤i then w else wb p) (fun p=>if p≤i then v else vv p) (fun p=>if p≤i then bs else hb p):=by
 have hst:∀p,i<p→(if p≤i then s else st p)=st p:=fun p hp=>if_neg (by omega)
 have hwb:∀p,i<p→(if p≤i then w else wb p)=wb p:=fun p hp=>if_neg (by omega)
 have hvv:∀p,i<p→(if p≤i then v else vv p)=vv p:=fun p hp=>if_neg (by omega)
 have hhb:∀p,i<p→(if p≤i then bs else hb p)=hb p:=fun p hp=>if_neg (by omega)
 refine⟨⟨fun p o' hp ho'=>?_,fun p q op oq hp hpq hop hoq hwp hwq hcp hcq hfl=>?_,fun p q op oq hp hpq hop hoq hwp hwq hcp hcq hfl=>?_,fun p q op oq hp hpq hop hoq hwp hwq hcp hcq hfl=>?_⟩,
  fun x hx q oq hq hoq hwq hcq hfl=>?_,fun m hmm q oq hq hoq hwq hcq hfl=>?_,fun m hmm q oq hq hoq hwq hcq hfl=>?_⟩
 ·by_cases he:p=i
  ·subst he;rw [ho] at ho';cases ho';have h3:¬p+1≤p:=by omega
   simp only [h3,if_false,qao,if_true];exact hs
  ·have h1:¬p≤i:=by omega
   have h2:¬p+1≤i:=by omega
   simp only [h1,h2,if_false];exact h.row.step p o' (by omega) ho'
 ·simp only [hwb q (by omega)] at hwq;simp only [hst (q+1) (by omega)];by_cases he:p=i
  ·subst he;rw [ho] at hop;cases hop;simp only [qao,if_true] at hwp⊢;exact h.recs _ (hR hwp hcp).1 q oq (by omega) hoq hwq hcq hfl
  ·simp only [hwb p (by omega)] at hwp;simp only [hst p (by omega),hvv p (by omega)];exact h.row.late p q op oq (by omega) hpq hop hoq hwp hwq hcp hcq hfl
 ·simp only [hwb q (by omega)] at hwq;simp only [hst q (by omega),hvv q (by omega)];by_cases he:p=i
  ·subst he;rw [ho] at hop;cases hop;simp only [qao,if_true] at hwp⊢;obtain⟨A,hA,hrd⟩:=h.mems _ (hL hwp hcp).1 q oq (by omega) hoq hwq hcq hfl;exact⟨A,hA.up (Nat.le_succ _) (fun x hx=>hst x hx) (fun x hx=>hwb x hx) fun _ _ hb=>.inl hb,hrd⟩
  ·simp only [hwb p (by omega)] at hwp;simp only [hst p (by omega)];obtain⟨A,hA,hrd⟩:=h.row.early p q op oq (by omega) hpq hop hoq hwp hwq hcp hcq hfl;exact⟨A,hA.up (qao _) (fun x hx=>hst x (by omega)) (fun x hx=>hwb x (by omega)) fun _ _ hb=>.inl hb,hrd⟩
 ·simp only [hwb q (by omega)] at hwq;simp only [hhb q (by omega)];by_cases he:p=i
  ·subst he;rw [ho] at hop;cases hop;simp only [qao,if_true] at hwp⊢;exact h.mks _ (hA hwp hcp) q oq (by omega) hoq hwq hcq hfl
  ·simp only [hwb p (by omega)] at hwp;simp only [hst p (by omega)];exact h.row.float p q op oq (by omega) hpq hop hoq hwp hwq hcp hcq hfl
 ·simp only [hst (q+1) (by omega)];by_cases he:q=i
  ·subst he;rw [ho] at hoq;cases hoq;simp only [qao,if_true] at hwq;exact(hL hwq hcq).2.1 x hx hfl
  ·simp only [hwb q (by omega)] at hwq;exact h.recs x (hr x hx) q oq (by omega) hoq hwq hcq hfl
 ·by_cases he:q=i
  ·subst he;rw [ho] at hoq;cases hoq;simp only [qao,if_true] at hwq⊢;exact⟨m.2,.self,(hR hwq hcq).2 m hmm hfl⟩
  ·simp only [hwb q (by omega)] at hwq;simp only [hst q (by omega),hvv q (by omega)];obtain⟨M,hM,hMb⟩:=hm m hmm;obtain⟨A,hA,hrd⟩:=h.mems _ hM q oq (by omega) hoq hwq hcq hfl;refine⟨A,hA.up (Nat.le_succ _) (fun x hx=>hst x hx) (fun x hx=>hwb x hx) fun b ob hb=>?_,hrd⟩;rcases hMb b ob hb with h1|⟨h1,h2,h3,h4⟩
   ·exact .inl h1
   ·refine .inr ⟨i,o,qao _,by omega,ho,?_,h2,?_,?_⟩
    ·simp only [qao,if_true];exact h1
    ·simp only [qao,if_true];exact h3
    ·simp only [hst (i+1) (by omega)];exact h4
 ·by_cases he:q=i
  ·subst he;rw [ho] at hoq;cases hoq;simp only [qao,if_true] at hwq⊢;exact(hL hwq hcq).2.2 m hmm hfl
  ·simp only [hwb q (by omega)] at hwq;simp only [hhb q (by omega)];exact h.mks m (hk m hmm) q oq (by omega) hoq hwq hcq hfl
variable {b:Nat}
theorem MU {o:Oper} {x:Option Ob} {mems:List (Nat×Mem)} {m:Nat×Mem} {w:Bool} (hw:w=true) (hc:cls tb o.op= .Al) (hx:A.get b=x) (h:m∈mems):
 ∃M,(m.1,M)∈wE b x mems∧∀c ob,M.get c=some ob→m.2.get c=some ob∨(w=true∧cls tb o.op= .Al∧c=b∧A.get c=some ob):=by
 cases x with
 |none=>exact⟨m.2,h,fun _ _ hb=>.inl hb⟩
 |some y=>
  refine⟨m.2.set b y,qa3.2 ⟨m,h,rfl⟩,fun c ob hb=>?_⟩;rw [aC] at hb;split at hb
  ·rename_i e;subst e;cases hb;exact .inr ⟨hw,hc,rfl,hx⟩
  ·exact .inl hb
theorem gM {fl:List (Nat×Nat)}:∀(l:List Oper) (i:Nat),(∀j,l[j]?=ops[i+j]?)→∀{mems:List (Nat×Mem)} {recs:List Rec} {mks:List (Nat×Nat)} {s s':St},
 dX tb ih ops.toList fl l i mems recs mks s= .ok (.nrm,s')→∃st wb vv hb,st i=s∧st (i+l.length)=s'∧Kz tb ih ops fl i mems recs mks st wb vv hb
 | [],i,hl,mems,recs,mks,s,s',h=>by
  have h':R.ok (Ex.nrm,s)=R.ok (Ex.nrm,s'):=h;simp only [R.ok.injEq,qat,true_and] at h';have hno:∀p o,i≤p→ops[p]?=some o→False:=fun p o hp ho=>by
   have:=hl (p-i);rw [show i+(p-i)=p by omega,ho] at this;cases this
  exact⟨fun _=>s,fun _=>false,fun _=>bL,fun _=>[],rfl,h',⟨fun p o hp ho=>(hno p o hp ho).elim,fun p _ o _ hp _ ho=>(hno p o hp ho).elim,fun p _ o _ hp _ ho=>(hno p o hp ho).elim,fun p _ o _ hp _ ho=>(hno p o hp ho).elim⟩,
   fun _ _ p o hp ho=>(hno p o hp ho).elim,fun _ _ p o hp ho=>(hno p o hp ho).elim,fun _ _ p o hp ho=>(hno p o hp ho).elim⟩
 |o::l,i,hl,mems,recs,mks,s,s',h=>by
  have ho:ops[i]?=some o:=by have:=hl 0;simpa using this.symm
  have hl':∀j,l[j]?=ops[i+1+j]?:=fun j=>by
   have:=hl (j+1);rw [show i+1+j=i+(j+1) by omega];simpa using this
  have h':((fu ops.toList o s.t).bind fun w=>
   bif w then
    match cls tb o.op with
    | .L=>dL tb ih o {s with m:=ff ((mks.filter fun x=>b_ x.1 i fl).map (·.2)) s.m} fun s'=>
     (gI s.m.get ((mks.filter fun x=>b_ x.1 i fl).map (·.2)) s'.m).bind fun A=>
     bif (recs.filter fun x=>b_ x.i i fl).all (eg tb A.get) then dX tb ih ops.toList fl l (i+1) ((i,s.m)::mems) recs mks {s' with m:=A} else .no 310
    | .Rd=>(nX tb s.t s.m.get o.op).bind fun v=>
     bif (mems.filter fun m=>b_ i m.1 fl).all (fun m=>eg tb m.2.get ⟨i,s.t,o.op,v⟩) then bR s o.dst v (dX tb ih ops.toList fl l (i+1) mems (⟨i,s.t,o.op,v⟩::recs) mks) else .no 311
    | .Al=>dL tb ih o s fun s'=>dX tb ih ops.toList fl l (i+1) (wE s.m.next (s'.m.get s.m.next) mems) recs ((i,s.m.next)::mks) s'
    | .P=>dL tb ih o s (dX tb ih ops.toList fl l (i+1) mems recs mks)
   else bR s o.dst bL (dX tb ih ops.toList fl l (i+1) mems recs mks))= .ok (.nrm,s'):=h
  clear h;obtain⟨w,h1,h2⟩:=R.ai h';clear h';have fin:∀{st:Nat→St} {wb:Nat→Bool} {vv:Nat→Value} {hb:Nat→List Nat} {w:Bool} {v:Value} {bs:List Nat},st (i+1+l.length)=s'→
   Kz tb ih ops fl i mems recs mks (fun p=>if p≤i then s else st p) (fun p=>if p≤i then w else wb p) (fun p=>if p≤i then v else vv p) (fun p=>if p≤i then bs else hb p)→
   ∃st wb vv hb,st i=s∧st (i+(o::l).length)=s'∧Kz tb ih ops fl i mems recs mks st wb vv hb:=by
   intro st wb vv hb w v bs e h;refine⟨_,_,_,_,by simp,?_,h⟩;have:¬i+(o::l).length≤i:=by simp
   simp only [this,if_false];rw [←e];congr 1;simp only [qaA];omega
  cases w with
  |false=>
   rw [cond_false] at h2;obtain⟨hk,hd⟩:=sd h2;obtain⟨st,wb,vv,hb,e1,e2,hr⟩:=gM l (i+1) hl' hk;exact fin e2 (hr.cons (w:=false) (v:=bL) (bs:=[]) ho ⟨h1,hd,by rw [e1],fun _=>⟨rfl,by rw [e1]⟩,by simp⟩ (fun m h=>⟨m.2,h,fun _ _ hb=>.inl hb⟩) (fun _ h=>h) (fun _ h=>h) (by simp) (by simp) (by simp))
  |true=>
   rw [cond_true] at h2;split at h2
   ·rename_i hc;rcases yg h2 with⟨v,s1,h3⟩|⟨v,A,hp,hdo,_⟩
    ·cases h3
    ·obtain⟨hk,hd⟩:=sd hp;obtain⟨A',hb',h5⟩:=R.ai hk;simp only at h5;cases hq:(recs.filter fun x=>b_ x.i i fl).all (eg tb A'.get) with
     |false=>rw [hq] at h5;cases h5
     |true=>
      rw [hq,cond_true] at h5;obtain⟨st,wb,vv,hb,e1,e2,hr⟩:=gM l (i+1) hl' h5;have hm1:(st (i+1)).m=A':=by rw [e1]
      refine fin e2 (hr.cons (w:=true) (v:=v) (bs:=(mks.filter fun x=>b_ x.1 i fl).map (·.2)) ho ⟨h1,hd,by rw [e1],by simp,fun _=>?_⟩ (fun m h=>⟨m.2,qay _ h,fun _ _ hb=>.inl hb⟩) (fun _ h=>h) (fun _ h=>h)
       (fun _ hc'=>by rw [hc] at hc';cases hc') (fun _ _=>⟨qaz,fun x hx hfl=>?_,fun m hm hfl=>?_⟩) (fun _ hc'=>by rw [hc] at hc';cases hc'))
      ·rw [hc];exact⟨A,hdo,by rw [hm1];exact hb'⟩
      ·rw [hm1];exact Br (qby.1 hq x (qbV.2 ⟨hx,mc hfl⟩))
      ·exact qa3.2 ⟨m,qbV.2 ⟨hm,mc hfl⟩,rfl⟩
   ·rename_i hc;obtain⟨v,h3,h4⟩:=R.ai h2;cases hq:(mems.filter fun m=>b_ i m.1 fl).all (fun m=>eg tb m.2.get ⟨i,s.t,o.op,v⟩) with
    |false=>rw [hq] at h4;cases h4
    |true=>
     rw [hq,cond_true] at h4;obtain⟨hk,hd⟩:=sd h4;obtain⟨st,wb,vv,hb,e1,e2,hr⟩:=gM l (i+1) hl' hk;refine fin e2 (hr.cons (w:=true) (v:=v) (bs:=[]) ho ⟨h1,hd,by rw [e1],by simp,fun _=>?_⟩ (fun m h=>⟨m.2,h,fun _ _ hb=>.inl hb⟩) (fun _ h=>qay _ h) (fun _ h=>h)
      (fun _ _=>⟨qaz,fun m hm hfl=>?_⟩) (fun _ hc'=>by rw [hc] at hc';cases hc') (fun _ hc'=>by rw [hc] at hc';cases hc'))
     ·rw [hc];exact⟨h3,by rw [e1]⟩
     ·exact Br (qby.1 hq m (qbV.2 ⟨hm,mc hfl⟩))
   ·rename_i hc;rcases yg h2 with⟨v,s1,h3⟩|⟨v,A,hp,hdo,hkd⟩
    ·cases h3
    ·obtain⟨hk,hd⟩:=sd hp;obtain⟨st,wb,vv,hb,e1,e2,hr⟩:=gM l (i+1) hl' hk;have hm1:(st (i+1)).m=A:=by rw [e1]
     refine fin e2 (hr.cons (w:=true) (v:=v) (bs:=[]) ho ⟨h1,hd,by rw [e1],by simp,fun _=>?_⟩ (fun m h=>MU (w:=true) rfl hc (by rw [e1]) h) (fun _ h=>h) (fun _ h=>qay _ h)
      (fun _ hc'=>by rw [hc] at hc';cases hc') (fun _ hc'=>by rw [hc] at hc';cases hc') (fun _ _=>qaz))
     rw [hc] at hkd⊢;simp only at hkd⊢;obtain⟨ob,way,k1,k2,k3⟩:=hkd;exact⟨ob,way,k1,by rw [hm1,k2],k3⟩
   ·rename_i hc;rcases yg h2 with⟨v,s1,h3⟩|⟨v,A,hp,hdo,hkd⟩
    ·cases h3
    ·obtain⟨hk,hd⟩:=sd hp;obtain⟨st,wb,vv,hb,e1,e2,hr⟩:=gM l (i+1) hl' hk;have hm1:(st (i+1)).m=A:=by rw [e1]
     refine fin e2 (hr.cons (w:=true) (v:=v) (bs:=[]) ho ⟨h1,hd,by rw [e1],by simp,fun _=>?_⟩ (fun m h=>⟨m.2,h,fun _ _ hb=>.inl hb⟩) (fun _ h=>h) (fun _ h=>h)
      (fun _ hc'=>by rw [hc] at hc';cases hc') (fun _ hc'=>by rw [hc] at hc';cases hc') (fun _ hc'=>by rw [hc] at hc';cases hc'))
     rw [hc] at hkd⊢;simp only at hkd⊢;exact⟨hkd.1,by rw [hm1,hkd.2]⟩
end
section
variable {tb:bO} {ih:Code→St→R (Ex×St)}
structure Stat (tb:bO) (ops:Array Oper) (fl:List (Nat×Nat)) (ah:Nat→Nat→Prop):Prop where
 ap:∀i j oi oj,i<j→ops[i]?=some oi→ops[j]?=some oj→ah i j∨((∀x,oi.dst=some x→oj.dst≠some x)∧(∀x,oi.dst=some x→x∉jA ops.toList oj)∧(∀x,x∈jA ops.toList oi→oj.dst≠some x)∧
  ¬(cls tb oi.op= .L∧cls tb oj.op= .L)∧(cls tb oi.op= .Rd→cls tb oj.op= .L→(i,j)∈fl)∧(cls tb oi.op= .L→cls tb oj.op= .Rd→(j,i)∈fl)∧(cls tb oi.op= .Al→cls tb oj.op= .L→(i,j)∈fl))
 edge:∀i o,ops[i]?=some o→∀k,ah k i→∃e∈o.after,Region.binds .any e=true∧(k=e.on∨ah k e.on)
 back:∀(i:Nat) (o:Oper),ops[i]?=some o→∀e∈o.after,Region.binds .any e=true→e.on<i
theorem tW {ops:Array Oper} {fl:List (Nat×Nat)} (h:gU tb ops.toList= .ok fl):∃ah,Stat tb ops fl ah:=by
 unfold gU at h;obtain⟨l,h1,h2⟩:=R.ai h;obtain⟨hlen,hinfo⟩:=xP h1;have hpair:=uJ h2;have hops:∀i (o:Oper),ops[i]?=some o→ops.toList[i]?=some o:=fun i o ho=>by rw [qaU];exact ho
 refine⟨fun k i=>∃x,l[i]?=some x∧x.m.testBit k=true,⟨fun i j oi oj hij hi hj=>?_,fun i o ho k hk=>?_,fun i o ho e he hb=>?_⟩⟩
 ·obtain⟨x,hx,cx,wx,rx,_⟩:=hinfo i oi (hops _ _ hi);obtain⟨y,hy,cy,wy,ry,_⟩:=hinfo j oj (hops _ _ hj);have ha:=hpair j y hy i x (by omega) hx;rw [qa1] at ha;rcases ha with ha|⟨h1,h2,h3,h4,h5,h6,h7⟩
  ·exact .inl ⟨y,hy,ha⟩
  ·refine .inr ⟨fun z hz hz'=>?_,fun z hz hz'=>?_,fun z hz hz'=>?_,by rw [←cx,←cy];exact h4,by rw [←cx,←cy];exact h5,by rw [←cx,←cy];exact h6,by rw [←cx,←cy];exact h7⟩
   ·exact ni h1 z (by rw [wx,hz];simp) (by rw [wy,hz'];simp)
   ·exact ni h2 z (by rw [wx,hz];simp) (by rw [ry];exact hz')
   ·exact ni h3 z (by rw [rx];exact hz) (by rw [wy,hz'];simp)
 ·obtain⟨x,hx,hbit⟩:=hk;obtain⟨y,hy,_,_,_,hed⟩:=hinfo i o (hops _ _ ho);rw [hx] at hy;cases hy;obtain⟨e,he,hb,a,hacc,hor⟩:=(oF hed).2 k hbit;refine⟨e,by simpa using he,hb,?_⟩;rcases hor with rfl|ha
  ·exact .inl rfl
  ·right;rw [qbv,qaN] at hacc;cases hq:(l.take i)[e.on]? with
   |none=>rw [hq] at hacc;cases hacc
   |some z=>
    rw [hq] at hacc;simp only [qa5,qaX] at hacc;rw [qbm] at hq;split at hq
    ·exact⟨z,hq,by rw [hacc];exact ha⟩
    ·cases hq
 ·obtain⟨y,hy,_,_,_,hed⟩:=hinfo i o (hops _ _ ho);obtain⟨a,hacc⟩:=(oF hed).1 e (by simpa using he) hb;rw [qbv,qaN] at hacc;cases hq:(l.take i)[e.on]? with
  |none=>rw [hq] at hacc;cases hacc
  |some z=>
   rw [qbm] at hq;split at hq
   ·assumption
   ·cases hq
def ow (ah:Nat→Nat→Prop) (S:Nat→Prop):Prop:=∀j k,S j→ah k j→S k
theorem ow.ready {ops:Array Oper} {fl:List (Nat×Nat)} {ah:Nat→Nat→Prop} (hs:Stat tb ops fl ah) {S:Nat→Prop} (hc:ow ah S) {o:Oper} (ho:ops[i]?=some o)
 (he:∀e∈o.after,Region.binds .any e=true→S e.on):∀k,ah k i→S k:=by
 intro k hk;obtain⟨e,hm,hb,hor⟩:=hs.edge i o ho k hk;rcases hor with rfl|h
 ·exact he e hm hb
 ·exact hc _ _ (he e hm hb) h
theorem ow.add {ah:Nat→Nat→Prop} {S:Nat→Prop} (hc:ow ah S) (hr:∀k,ah k i→S k):ow ah (fun j=>S j∨j=i):=by
 intro j k hj hk;rcases hj with hj|rfl
 ·exact .inl (hc j k hj hk)
 ·exact .inl (hr k hk)
def Cut (ops:Array Oper) (S:Nat→Prop) (x c:Nat):Prop:=c≤ops.size∧∀j o,ops[j]?=some o→o.dst=some x→(S j↔j<c)
def mU (tb:bO) (ops:Array Oper) (wb:Nat→Bool) (S:Nat→Prop) (q:Nat):Prop:=q≤ops.size∧∀j o,ops[j]?=some o→wb j=true→cls tb o.op= .L→(S j↔j<q)
section rows
variable {ops:Array Oper} {fl:List (Nat×Nat)} {st:Nat→St} {wb:Nat→Bool} {vv:Nat→Value} {hb:Nat→List Nat}
variable {p:Nat}
theorem fV (h:p<ops.size):∃o,ops[p]?=some o:=⟨ops[p],by simp [h]⟩
theorem Row.Qa (hr:Row tb ih ops fl 0 st wb vv hb) {o:Oper} (ho:ops[p]?=some o) (x:Nat):(st (p+1)).t.get x=if o.dst=some x then some (vv p) else(st p).t.get x:=by
 rw [(hr.step p o (qaB _) ho).to];exact EN _ _ _ _
theorem Row.Iy (hr:Row tb ih ops fl 0 st wb vv hb) (x c:Nat):∀c',c≤c'→c'≤ops.size→(∀p o,c≤p→p<c'→ops[p]?=some o→o.dst≠some x)→(st c').t.get x=(st c).t.get x:=by
 intro c'
 induction c' with
 |zero=>intro h _ _;rw [show c=0 by omega]
 |succ d ih'=>
  intro h1 h2 h3;by_cases he:c=d+1
  ·rw [he]
  ·obtain⟨o,ho⟩:=fV (ops:=ops) (p:=d) (by omega);rw [hr.Qa ho x,if_neg (h3 d o (by omega) (by omega) ho),ih' (by omega) (by omega) fun p o hp hp' ho=>h3 p o hp (by omega) ho]
variable {c:Nat}
theorem Row.ND (hr:Row tb ih ops fl 0 st wb vv hb) {S:Nat→Prop} {x c':Nat} (h:Cut ops S x c) (h':Cut ops S x c'):(st c).t.get x=(st c').t.get x:=by
 have main:∀c c',Cut ops S x c→Cut ops S x c'→c≤c'→(st c).t.get x=(st c').t.get x:=by
  intro c c' h h' hle;refine(hr.Iy x c c' hle h'.1 fun p o hp hp' ho hd=>?_).symm;have a1:=h.2 p o ho hd;have a2:=h'.2 p o ho hd;have:S p:=a2.2 hp';have:=a1.1 this;omega
 rcases qeG c c' with hle|hle
 ·exact main c c' h h' hle
 ·exact(main c' c h' h hle).symm
def WM (f:Nat→Option Value):Nat→T Value
 |0=>.e
 |n+1=>match f n with
  |some v=>(WM f n).set n v
  |none=>WM f n
theorem Jf (f:Nat→Option Value) (n x:Nat):(WM f n).get x=if x<n then f x else none:=by
 induction n with
 |zero=>simp [WM,T.lj]
 |succ n ih=>
  unfold WM;cases hf:f n with
  |none=>
   simp only [ih];by_cases h:x<n
   ·rw [if_pos h,if_pos (by omega)]
   ·rw [if_neg h];by_cases h2:x=n
    ·subst h2;simp [hf]
    ·rw [if_neg (by omega)]
  |some v=>
   simp only [T.aH,ih];by_cases h2:x=n
   ·subst h2;simp [hf]
   ·rw [if_neg h2];by_cases h:x<n
    ·rw [if_pos h,if_pos (by omega)]
    ·rw [if_neg h,if_neg (by omega)]
open Classical in
def snap (ops:Array Oper) (st:Nat→St) (S:Nat→Prop) (n:Nat):T Value:=
 WM (fun x=>if h:∃c,Cut ops S x c then(st h.choose).t.get x else none) n
variable {n:Nat}
theorem Row.zb (hr:Row tb ih ops fl 0 st wb vv hb) {S:Nat→Prop} {x:Nat} (h:Cut ops S x c) (hn:n≤x→(st c).t.get x=none):(snap ops st S n).get x=(st c).t.get x:=by
 unfold snap;rw [Jf];by_cases hx:x<n
 ·rw [if_pos hx,dif_pos ⟨c,h⟩];exact hr.ND (Exists.choose_spec (p:=fun c=>Cut ops S x c) ⟨c,h⟩) h
 ·rw [if_neg hx,hn (by omega)]
variable {v:Value}
theorem Ml {S:Nat→Prop} {x:Nat} (h:(snap ops st S n).get x=some v):x<n∧∃c,Cut ops S x c∧(st c).t.get x=some v:=by
 unfold snap at h;rw [Jf] at h;split at h
 ·rename_i hx;split at h
  ·rename_i hc;exact⟨hx,hc.choose,hc.choose_spec,h⟩
  ·cases h
 ·cases h
def GR (ops:Array Oper) (st:Nat→St) (q b:Nat) (o:Ob):Prop:=
 (b<(st q).m.next∧(st q).m.get b=some o)∨∃p,q≤p∧p<ops.size∧(st p).m.next≤b∧b<(st (p+1)).m.next∧(st (p+1)).m.get b=some o
def GL (ops:Array Oper) (st:Nat→St) (q b:Nat):Prop:=∃o,GR ops st q b o∧alive o=true
theorem Row.tL (hr:Row tb ih ops fl 0 st wb vv hb) {o:Oper} (ho:ops[p]?=some o) (hn:¬(wb p=true∧cls tb o.op= .L)):
 (st (p+1)).m=(st p).m∨∃ob,(st (p+1)).m=(st p).m.alloc ob∧wb p=true∧cls tb o.op= .Al:=by
 have hs:=hr.step p o (qaB _) ho;cases hw:wb p with
 |false=>exact .inl (hs.no hw).2
 |true=>
  have hk:=hs.kind hw;cases hc:cls tb o.op with
  |P=>rw [hc] at hk;exact .inl hk.2
  |Rd=>rw [hc] at hk;exact .inl hk.2
  |Al=>
   rw [hc] at hk;obtain⟨ob,way,_,h2,_⟩:=hk;exact .inr ⟨ob,h2,rfl,rfl⟩
  |L=>exact absurd ⟨hw,hc⟩ hn
variable {b:Nat} {ob:Ob}
theorem Row.QI (hr:Row tb ih ops fl 0 st wb vv hb) {o:Oper} (ho:ops[p]?=some o) (hn:¬(wb p=true∧cls tb o.op= .L)) (h:GR ops st (p+1) b ob):GR ops st p b ob:=by
 have hlt:p<ops.size:=(qaM.1 ho).1;rcases h with⟨h1,h2⟩|⟨q,h1,h2⟩
 ·rcases hr.tL ho hn with h3|⟨ob',h3,_⟩
  ·rw [h3] at h1 h2;exact .inl ⟨h1,h2⟩
  ·by_cases hb':b<(st p).m.next
   ·rw [h3,cQ,if_neg (by omega)] at h2;exact .inl ⟨hb',h2⟩
   ·exact .inr ⟨p,qao _,hlt,by omega,h1,h2⟩
 ·exact .inr ⟨q,by omega,h2⟩
theorem Row.IK (hr:Row tb ih ops fl 0 st wb vv hb) {q:Nat}:∀q',q≤q'→q'≤ops.size→(∀p o,q≤p→p<q'→ops[p]?=some o→¬(wb p=true∧cls tb o.op= .L))→∀{b:Nat} {ob:Ob},GR ops st q' b ob→GR ops st q b ob:=by
 intro q'
 induction q' with
 |zero=>intro h _ _ b ob hg;rw [show q=0 by omega];exact hg
 |succ d ih'=>
  intro h1 h2 h3 b ob hg;by_cases he:q=d+1
  ·rw [he];exact hg
  ·obtain⟨o,ho⟩:=fV (ops:=ops) (p:=d) (by omega);exact ih' (by omega) (by omega) (fun p o hp hp' ho=>h3 p o hp (by omega) ho) (hr.QI ho (h3 d o (by omega) (by omega) ho) hg)
theorem Row.QB (hr:Row tb ih ops fl 0 st wb vv hb) {q:Nat} (hw:∀b,(st q).m.next≤b→(st q).m.get b=none):∀q',q≤q'→q'≤ops.size→(∀p o,q≤p→p<q'→ops[p]?=some o→¬(wb p=true∧cls tb o.op= .L))→
 ∀b,(st q').m.next≤b→(st q').m.get b=none:=by
 intro q'
 induction q' with
 |zero=>intro h _ _;rw [show 0=q by omega];exact hw
 |succ d ih'=>
  intro h1 h2 h3 b hb';by_cases he:q=d+1
  ·rw [←he] at hb'⊢;exact hw b hb'
  ·obtain⟨o,ho⟩:=fV (ops:=ops) (p:=d) (by omega);have old:=ih' (by omega) (by omega) (fun p o hp hp' ho=>h3 p o hp (by omega) ho);rcases hr.tL ho (h3 d o (by omega) (by omega) ho) with h4|⟨ob',h4,_⟩
   ·rw [h4] at hb'⊢;exact old b hb'
   ·rw [h4,ae] at hb';rw [h4,cQ,if_neg (by omega)];exact old b (by omega)
theorem Row.Je (hr:Row tb ih ops fl 0 st wb vv hb) {q:Nat}:∀q',q≤q'→q'≤ops.size→(∀p o,q≤p→p<q'→ops[p]?=some o→¬(wb p=true∧cls tb o.op= .L))→
 ∀b,b<(st q).m.next→(st q').m.get b=(st q).m.get b∧(st q).m.next≤(st q').m.next:=by
 intro q'
 induction q' with
 |zero=>intro h _ _ b _;rw [show q=0 by omega];exact⟨rfl,qao _⟩
 |succ d ih'=>
  intro h1 h2 h3 b hb';by_cases he:q=d+1
  ·rw [he];exact⟨rfl,qao _⟩
  ·obtain⟨o,ho⟩:=fV (ops:=ops) (p:=d) (by omega);have old:=ih' (by omega) (by omega) (fun p o hp hp' ho=>h3 p o hp (by omega) ho) b hb';rcases hr.tL ho (h3 d o (by omega) (by omega) ho) with h4|⟨ob',h4,_⟩
   ·rw [h4];exact old
   ·rw [h4,cQ,if_neg (by omega),ae];exact⟨old.1,by omega⟩
end rows
end
section
variable {tb:bO} (ok:cC tb) {ih:Code→St→R (Ex×St)}
variable {n:Nat} {t:T Value} {dst:Option Tmp} {v v':Value}
theorem TR.put {ι:de} {a:Act} (h:TR ι n t a.tmps) (hv:VR ι v v') (hd:∀d,dst=some d→d<n):
 TR ι n (vz t dst v) (a.put dst v').tmps∧(a.put dst v').defers=a.defers:=by
 cases dst with
 |none=>exact⟨h,rfl⟩
 |some d=>exact⟨h.set (hd d rfl) hv,rfl⟩
include ok in
theorem Kw.snd (hcall:gQ tb ih) {o:Oper} {t:T Value} {A A':Mem} {v:Value} (h:Kw tb ih o t A v A') {t':T Value} {n:Nat} {d:List Nat} {ro:Option Nat} (hx:∀x∈o.op.operands,ev t x=ev t' x)
 (hd:∀d,o.dst=some d→d<n) (ops:Array Oper) (i:Nat):ML tb.P ops i o ⟨t',n,d,A,ro⟩ ⟨vz t' o.dst v,n,d,A',ro⟩:=by
 have h1:=h t' n d ro (fun s=>.ok (.nrm,s)) hx;rw [JQ hd] at h1;rcases tP ok hcall (ops:=ops) (i:=i) h1 with⟨v,s1,h3,_⟩|⟨s1,hk,hs⟩
 ·cases h3
 ·simp only [R.ok.injEq,qat,true_and] at hk;subst hk;exact hs
section rows
variable {ops:Array Oper} {fl:List (Nat×Nat)} {st:Nat→St} {wb:Nat→Bool} {vv:Nat→Value} {hb:Nat→List Nat} {ah:Nat→Nat→Prop}
include ok in
theorem Row.Lt (hcall:gQ tb ih) (hr:Row tb ih ops fl 0 st wb vv hb) {p:Nat} (hp:p<ops.size):(st p).m.next≤(st (p+1)).m.next:=by
 obtain⟨o,ho⟩:=fV (ops:=ops) hp;by_cases hL:wb p=true∧cls tb o.op= .L
 ·have hs:=hr.step p o (qaB _) ho;have hk:=hs.kind hL.1;rw [hL.2] at hk;obtain⟨A1,h1,h2⟩:=hk;have:=(Kw.snd ok hcall h1 (t':=(st p).t) (n:=(st p).n) (d:=[]) (ro:=none) (fun _ _=>rfl) hs.dst ops p).1;rw [mV h2];simpa [jW] using this
 ·rcases hr.tL ho hL with h|⟨ob,h,_⟩
  ·rw [h];exact qao _
  ·rw [h,ae];omega
include ok in
theorem Row.Ls (hcall:gQ tb ih) (hr:Row tb ih ops fl 0 st wb vv hb) {p:Nat}:∀{q:Nat},p≤q→q≤ops.size→(st p).m.next≤(st q).m.next:=by
 intro q
 induction q with
 |zero=>intro h _;rw [show p=0 by omega];exact qao _
 |succ d ih'=>
  intro h1 h2;by_cases he:p=d+1
  ·rw [he];exact qao _
  ·exact qaV (ih' (by omega) (by omega)) (hr.Lt ok hcall (by omega))
variable {ob:Ob}
theorem Row.kept (hr:Row tb ih ops fl 0 st wb vv hb) {i:Nat} {oi:Oper} (hi:ops[i]?=some oi) (hw:wb i=true) (hc:cls tb oi.op= .Al) (hm:(st (i+1)).m=(st i).m.alloc ob)
 (hmono:∀p q,p≤q→q≤ops.size→(st p).m.next≤(st q).m.next):
 ∀q,i+1≤q→q≤ops.size→(∀j oj,i<j→j<q→ops[j]?=some oj→wb j=true→cls tb oj.op= .L→(i,j)∈fl)→(st q).m.get (st i).m.next=some ob:=by
 intro q
 induction q with
 |zero=>intro h;omega
 |succ d ih'=>
  intro h1 h2 h3;by_cases he:i=d
  ·subst he;rw [hm,cQ,if_pos rfl]
  ·obtain⟨o,ho⟩:=fV (ops:=ops) (p:=d) (by omega);have old:=ih' (by omega) (by omega) fun j oj hj hj'=>h3 j oj hj (by omega)
   by_cases hL:wb d=true∧cls tb o.op= .L
   ·have hk:=(hr.step d o (qaB _) ho).kind hL.1;rw [hL.2] at hk;obtain⟨A1,_,h5⟩:=hk;have hin:=hr.float i d oi o (qaB _) (by omega) hi ho hw hL.1 hc hL.2 (h3 d o (by omega) (by omega) ho hL.1 hL.2);rw [(pv h5).2,if_pos hin,old]
   ·rcases hr.tL ho hL with h|⟨ob',h,_⟩
    ·rw [h];exact old
    ·rw [h,cQ,if_neg]
     ·exact old
     ·have:=hmono (i+1) d (by omega) (by omega);rw [hm,ae] at this;omega
variable {k:Nat}
theorem Row.Jj (hr:Row tb ih ops fl 0 st wb vv hb) {q:Nat} {x:Nat} {t:TypeId} {c:T Value}:∀q',q≤q'→q'≤ops.size→(∀p o,q≤p→p<q'→ops[p]?=some o→¬(wb p=true∧cls tb o.op= .L))→
 (st q').m.get x=some (.cells t .row (GB k) c)→(st q).m.get x=some (.cells t .row (GB k) c):=by
 intro q'
 induction q' with
 |zero=>intro h _ _;rw [show q=0 by omega];exact id
 |succ d ih'=>
  intro h1 h2 h3 hx;by_cases he:q=d+1
  ·rw [he];exact hx
  ·obtain⟨o,ho⟩:=fV (ops:=ops) (p:=d) (by omega);refine ih' (by omega) (by omega) (fun p o hp hp' ho=>h3 p o hp (by omega) ho) ?_;rcases hr.tL ho (h3 d o (by omega) (by omega) ho) with h4|⟨ob',h4,h5,h6⟩
   ·rwa [h4] at hx
   ·have hk:=(hr.step d o (qaB _) ho).kind h5;rw [h6] at hk;obtain⟨ob,way,k1,k2,_⟩:=hk;rw [k2,cQ] at hx;split at hx
    ·exact absurd (qbo hx) (GA k1 t k c)
    ·exact hx
structure Inv (tb:bO) (ops:Array Oper) (st:Nat→St) (wb:Nat→Bool) (ah:Nat→Nat→Prop) (b:Frame) (ι0:de) (w0:World) (S:Nat→Prop) (ι:de) (a:Act) (w:World):Prop where
 cl:ow ah S
 size:a.tmps.size=(st 0).n
 tm:∀x c v,Cut ops S x c→(st c).t.get x=some v→∃v',a.tmps[x]?=some v'∧VR ι v v'
 ro:WZ ι (st 0).ro b.roundOf
 dr:DR ι (st 0).d a.defers b.defers
 wf:∀q,mU tb ops wb S q→∀x,(st q).m.next≤x→(st q).m.get x=none
 obs:∀q,mU tb ops wb S q→∀x o l,GR ops st q x o→alive o=true→ι x=some l→∃o',w.heap[l.blk]?=some o'∧OR ι o l o'
 rng:∀x l,ι x=some l→l.blk<w.heap.size
 inj:∀q,mU tb ops wb S q→∀x y l l',GL ops st q x→GL ops st q y→ι x=some l→ι y=some l'→l.blk=l'.blk→x=y
 free:∀i,i<ops.size→¬S i→∀x,(st i).m.next≤x→x<(st (i+1)).m.next→ι x=none
 out:∀x,x<(st 0).m.next∨(st ops.size).m.next≤x→ι x=ι0 x
 src:∀q,mU tb ops wb S q→∀x l,GL ops st q x→ι x=some l→w0.heap.size≤l.blk∨∃b0 l0,live (st 0).m b0∧ι0 b0=some l0∧l0.blk=l.blk
 fr:∀c,c<w0.heap.size→(∀x l,live (st 0).m x→ι0 x=some l→l.blk≠c)→w.heap[c]?=w0.heap[c]?
 sz:w0.heap.size≤w.heap.size
 os:w.os=w0.os
 tape:w.tape=w0.tape
 output:w.output=w0.output
 kp:∀x l,ι0 x=some l→Still (st 0).m x l→(∀q,mU tb ops wb S q→(st q).m.get x=(st 0).m.get x)∧w.heap[l.blk]?=w0.heap[l.blk]?
 gl:∀q,mU tb ops wb S q→∀x t k c,(st q).m.get x=some (.cells t .row (GB k) c)→∃l,ι x=some l∧l.blk=k∧l.sh=0∧l.sz≤18446744073709551616
structure Ab (tb:bO) (ih:Code→St→R (Ex×St)) (ops:Array Oper) (fl:List (Nat×Nat)) (st:Nat→St) (wb:Nat→Bool) (vv:Nat→Value) (hb:Nat→List Nat) (ah:Nat→Nat→Prop) (S:Nat→Prop) (i:Nat) (o:Oper):Prop where
 row:Row tb ih ops fl 0 st wb vv hb
 sta:Stat tb ops fl ah
 cl:ow ah S
 ho:ops[i]?=some o
 hn:¬S i
 ready:∀k,ah k i→S k
variable {S:Nat→Prop} {i:Nat} {o:Oper}
theorem Ab.cut (h:Ab tb ih ops fl st wb vv hb ah S i o) {x:Nat} (hx:x∈jA ops.toList o):Cut ops S x i:=by
 refine⟨qeF (qaM.1 h.ho).1,fun j oj hj hd=>?_⟩;rcases qcT j i with hlt|rfl|hgt
 ·refine⟨fun _=>hlt,fun _=>?_⟩;rcases h.sta.ap j i oj o hlt hj h.ho with ha|⟨_,h2,_⟩
  ·exact h.ready j ha
  ·exact absurd hx (h2 x hd)
 ·exact⟨fun hs=>absurd hs h.hn,fun hl=>by omega⟩
 ·refine⟨fun hs=>?_,fun hl=>by omega⟩;rcases h.sta.ap i j o oj hgt h.ho hj with ha|⟨_,_,h3,_⟩
  ·exact absurd (h.cl j i hs ha) h.hn
  ·exact absurd hd (h3 x hx)
variable {c:Nat}
theorem Ab.tm (h:Ab tb ih ops fl st wb vv hb ah S i o) {x:Nat} (hn:∀x c,Cut ops S x c→n≤x→(st c).t.get x=none) (hc:Cut ops (fun j=>S j∨j=i) x c):
 (vz (snap ops st S n) o.dst (vv i)).get x=(st c).t.get x:=by
 rw [EN];by_cases hd:o.dst=some x
 ·rw [if_pos hd];have hic:i<c:=(hc.2 i o h.ho hd).1 (.inr rfl);rw [h.row.Iy x (i+1) c (by omega) hc.1,h.row.Qa h.ho,if_pos hd];intro p op hp hp' hop hdp;have hS:=(hc.2 p op hop hdp).2 hp';rcases hS with hS|rfl
  ·rcases h.sta.ap i p o op (by omega) h.ho hop with ha|⟨h1,_⟩
   ·exact h.hn (h.cl p i hS ha)
   ·exact h1 x hd hdp
  ·omega
 ·rw [if_neg hd];have hc':Cut ops S x c:=⟨hc.1,fun j oj hj hdj=>by
   rw [←hc.2 j oj hj hdj];have:j≠i:=by rintro rfl;rw [h.ho] at hj;cases hj;exact hd hdj
   simp [this]⟩
  exact h.row.zb hc' (hn x c hc')
theorem Ab.pC (h:Ab tb ih ops fl st wb vv hb ah S i o) (hn:∀x c,Cut ops S x c→n≤x→(st c).t.get x=none):∀y∈o.op.operands,ev (st i).t y=ev (snap ops st S n) y:=by
 intro y hy;cases y with
 |tmp x=>
  have hx:x∈jA ops.toList o:=by
   unfold jA;exact qd5 _ (qds.2 ⟨.tmp x,by simpa using hy,by simp [O9]⟩)
  have hc:=h.cut hx;simp only [ev,h.row.zb hc (hn x i hc)]
 |_=>rfl
theorem Ab.want (h:Ab tb ih ops fl st wb vv hb ah S i o) (hn:∀x c,Cut ops S x c→n≤x→(st c).t.get x=none):fu ops.toList o (snap ops st S n)= .ok (wb i):=by
 have hw:=(h.row.step i o (qaB _) h.ho).want;rw [←hw];unfold fu;cases hg:o.guard with
 |none=>rfl
 |some g=>
  obtain⟨j,want⟩:=g;simp only
  cases hj:ops.toList[j]? with
  |none=>rfl
  |some oj=>
   simp only
   cases hd:oj.dst with
   |none=>rfl
   |some d=>
    have hx:d∈jA ops.toList o:=by
     unfold jA;refine qbU _ ?_;rw [hg];simp only [hj,hd];simp
    have hc:=h.cut hx;simp only [h.row.zb hc (hn d i hc)]
theorem Ab.Yd (h:Ab tb ih ops fl st wb vv hb ah S i o) (hL:cls tb o.op= .L):mU tb ops wb S i:=by
 refine⟨qeF (qaM.1 h.ho).1,fun j oj hj hw hc=>?_⟩;rcases qcT j i with hlt|rfl|hgt
 ·refine⟨fun _=>hlt,fun _=>?_⟩;rcases h.sta.ap j i oj o hlt hj h.ho with ha|⟨_,_,_,h4,_⟩
  ·exact h.ready j ha
  ·exact absurd ⟨hc,hL⟩ h4
 ·exact⟨fun hs=>absurd hs h.hn,fun hl=>by omega⟩
 ·refine⟨fun hs=>?_,fun hl=>by omega⟩;rcases h.sta.ap i j o oj hgt h.ho hj with ha|⟨_,_,_,h4,_⟩
  ·exact absurd (h.cl j i hs ha) h.hn
  ·exact absurd ⟨hL,hc⟩ h4
theorem mU.same {q:Nat} (hq:mU tb ops wb (fun j=>S j∨j=i) q) (ho:ops[i]?=some o) (hn:¬(wb i=true∧cls tb o.op= .L)):mU tb ops wb S q:=
 ⟨hq.1,fun j oj hj hw hc=>by
  rw [←hq.2 j oj hj hw hc];have:j≠i:=by rintro rfl;rw [ho] at hj;cases hj;exact hn ⟨hw,hc⟩
  simp [this]⟩
section step
variable {b:Frame} {ι0 ι:de} {w0 w:World} {a:Act}
theorem Inv.qU (hI:Inv tb ops st wb ah b ι0 w0 S ι a w):∀x c,Cut ops S x c→(st 0).n≤x→(st c).t.get x=none:=by
 intro x c hc hx;cases hg:(st c).t.get x with
 |none=>rfl
 |some v=>
  obtain⟨v',e,_⟩:=hI.tm x c v hc hg;have:=(qaM.1 e).1;rw [hI.size] at this;omega
theorem Inv.tr (hI:Inv tb ops st wb ah b ι0 w0 S ι a w):TR ι (st 0).n (snap ops st S (st 0).n) a.tmps:=by
 refine⟨hI.size,fun x v hv=>?_⟩;obtain⟨_,c,hc,hg⟩:=Ml hv;exact hI.tm x c v hc hg
theorem Row.OS (hr:Row tb ih ops fl 0 st wb vv hb):∀p,p≤ops.size→(st p).n=(st 0).n∧(st p).d=(st 0).d∧(st p).ro=(st 0).ro:=by
 intro p
 induction p with
 |zero=>intro _;exact⟨rfl,rfl,rfl⟩
 |succ p ih'=>
  intro hp;obtain⟨o,ho⟩:=fV (ops:=ops) (p:=p) (by omega);rw [(hr.step p o (qaB _) ho).to];exact ih' (by omega)
variable {ι':de}
theorem Ab.DL (h:Ab tb ih ops fl st wb vv hb ah S i o) (hI:Inv tb ops st wb ah b ι0 w0 S ι a w) {a':Act} (ht:TR ι' (st 0).n (vz (snap ops st S (st 0).n) o.dst (vv i)) a'.tmps):
 ∀x c v,Cut ops (fun j=>S j∨j=i) x c→(st c).t.get x=some v→∃v',a'.tmps[x]?=some v'∧VR ι' v v':=by
 intro x c v hc hg;refine ht.2 x v ?_;rw [h.tm hI.qU hc];exact hg
theorem Ab.Ho (h:Ab tb ih ops fl st wb vv hb ah S i o):∀d,o.dst=some d→d<(st 0).n:=by
 intro d hd;have:=(h.row.step i o (qaB _) h.ho).dst d hd;rwa [(h.row.OS i (qeF (qaM.1 h.ho).1)).1] at this
theorem Inv.quiet (hI:Inv tb ops st wb ah b ι0 w0 S ι a w) (h:Ab tb ih ops fl st wb vv hb ah S i o) (hL:¬(wb i=true∧cls tb o.op= .L)) (hv:VR ι (vv i) v'):
 Inv tb ops st wb ah b ι0 w0 (fun j=>S j∨j=i) ι (a.put o.dst v') w:=by
 obtain⟨ht,hd⟩:=hI.tr.put hv h.Ho;exact {hI with
  cl:=hI.cl.add h.ready
  size:=ht.1
  tm:=h.DL hI ht
  dr:=by rw [hd];exact hI.dr
  wf:=fun q hq=>hI.wf q (hq.same h.ho hL)
  obs:=fun q hq=>hI.obs q (hq.same h.ho hL)
  inj:=fun q hq=>hI.inj q (hq.same h.ho hL)
  src:=fun q hq=>hI.src q (hq.same h.ho hL)
  free:=fun j hj hn=>hI.free j hj fun hs=>hn (.inl hs)
  kp:=fun x l hl hs=>⟨fun q hq=>(hI.kp x l hl hs).1 q (hq.same h.ho hL),(hI.kp x l hl hs).2⟩
  gl:=fun q hq=>hI.gl q (hq.same h.ho hL)}
theorem Inv.rel (hI:Inv tb ops st wb ah b ι0 w0 S ι a w) {q:Nat} (hq:mU tb ops wb S q):Rel ι (st q).m w:=by
 have hg:∀x o,(st q).m.get x=some o→GR ops st q x o:=by
  intro x o hx;refine .inl ⟨?_,hx⟩;rcases qaZ x (st q).m.next with h|h
  ·exact h
  ·rw [hI.wf q hq x h] at hx;cases hx
 exact⟨hI.wf q hq,fun x o l hx ha hl=>hI.obs q hq x o l (hg x o hx) ha hl,hI.rng,fun x y l l' ⟨o,h1,h2⟩ ⟨o',h3,h4⟩=>hI.inj q hq x y l l' ⟨o,hg _ _ h1,h2⟩ ⟨o',hg _ _ h3,h4⟩,hI.gl q hq⟩
variable {A:Mem}
theorem Inv.ZC (hI:Inv tb ops st wb ah b ι0 w0 S ι a w) (hr:Row tb ih ops fl 0 st wb vv hb) (hmono:∀p q,p≤q→q≤ops.size→(st p).m.next≤(st q).m.next) {q i:Nat} (hq:mU tb ops wb S q) (hX:Xt tb ops st wb (st q).m q i A):
 Rel ι ⟨A.heap,(st ops.size).m.next⟩ w:=by
 have hg:∀x o,A.get x=some o→GR ops st q x o∧((st q).m.get x=some o∨∀t k c,o≠ .cells t .row (GB k) c)∧x<(st ops.size).m.next:=by
  intro x o hx;rcases hX x o hx with h|⟨p,o',h1,h2,h3,h4,h5,h6,h7⟩
  ·have hlt:x<(st q).m.next:=by
    rcases qaZ x (st q).m.next with h'|h'
    ·exact h'
    ·rw [hI.wf q hq x h'] at h;cases h
   exact⟨.inl ⟨hlt,h⟩,.inl h,qaD hlt (hmono q _ hq.1 (qao _))⟩
  ·have hp:p<ops.size:=(qaM.1 h3).1;have hk:=(hr.step p o' (qaB _) h3).kind h4;rw [h5] at hk;obtain⟨ob,way,k1,k2,-⟩:=hk;have hnx:x<(st (p+1)).m.next:=by rw [k2,ae,h6];exact qbP _
   have ho:o=ob:=by rw [k2,cQ,if_pos h6] at h7;exact(qbo h7).symm
   subst ho;exact⟨.inr ⟨p,h1,hp,Nat.le_of_eq h6.symm,hnx,h7⟩,.inr (GA k1),qaD hnx (hmono (p+1) _ hp (qao _))⟩
 refine⟨fun x hx=>?_,fun x o l hx ha hl=>hI.obs q hq x o l (hg x o hx).1 ha hl,hI.rng,fun x y l l' ⟨o,h1,h2⟩ ⟨o',h3,h4⟩=>hI.inj q hq x y l l' ⟨o,(hg _ _ h1).1,h2⟩ ⟨o',(hg _ _ h3).1,h4⟩,fun x t k c hx=>?_⟩
 ·cases hy:A.get x with
  |none=>exact hy
  |some o=>exact absurd (hg x o hy).2.2 (Nat.not_lt.2 hx)
 ·rcases(hg x _ hx).2.1 with h|h
  ·exact hI.gl q hq x t k c h
  ·exact absurd rfl (h t k c)
end step
end rows
end
section
variable {tb:bO} (ok:cC tb) {ih:Code→St→R (Ex×St)}
section rows
variable {ops:Array Oper} {fl:List (Nat×Nat)} {st:Nat→St} {wb:Nat→Bool} {vv:Nat→Value} {hb:Nat→List Nat} {ah:Nat→Nat→Prop}
variable {S:Nat→Prop} {i:Nat} {o:Oper} {b:Frame} {ι0 ι:de} {w0 w:World} {a:Act}
variable {ob:Ob} {ι':de} {w':World} {v':Value}
theorem Inv.Yc (hI:Inv tb ops st wb ah b ι0 w0 S ι a w) (h:Ab tb ih ops fl st wb vv hb ah S i o) (hw:wb i=true) (hc:cls tb o.op= .Al) (hmono:∀p q,p≤q→q≤ops.size→(st p).m.next≤(st q).m.next)
 (hm:(st (i+1)).m=(st i).m.alloc ob) (hv:VR ι' (vv i) v')
 (hrel:Rel ι' ((⟨.e,(st i).m.next⟩:Mem).alloc ob) w') (hst:eH ι ⟨.e,(st i).m.next⟩ w ι' ((⟨.e,(st i).m.next⟩:Mem).alloc ob) w'):
 Inv tb ops st wb ah b ι0 w0 (fun j=>S j∨j=i) ι' (a.put o.dst v') w':=by
 have hL:¬(wb i=true∧cls tb o.op= .L):=fun hx=>by rw [hc] at hx;cases hx.2
 have hlt:i<ops.size:=(qaM.1 h.ho).1;have hnx:(st (i+1)).m.next=(st i).m.next+1:=by rw [hm,ae]
 have hN:ι (st i).m.next=none:=hI.free i hlt h.hn _ (qao _) (by omega)
 have hle:eK ι ι':=hst.le (fun x hx1 hx2=>by
  rw [ae] at hx2;simp only at hx1 hx2;have:x=(st i).m.next:=by omega
  rw [this];exact hN)
 have hout:∀x,x≠(st i).m.next→ι' x=ι x:=fun x hx=>hst.out x (by rw [ae];simp only;omega)
 have hnolive:∀x,¬live (⟨.e,(st i).m.next⟩:Mem) x:=by
  rintro x ⟨o',hx,_⟩;cases hx
 have hfr:∀c,c<w.heap.size→w'.heap[c]?=w.heap[c]?:=fun c hc=>hst.fr c hc fun x l hx _=>absurd hx (hnolive x)
 have hnew:∀l,ι' (st i).m.next=some l→alive ob=true→w.heap.size≤l.blk:=by
  intro l hl hal;rcases hst.src _ l ⟨ob,by rw [cQ,if_pos rfl],hal⟩ hl with h1|⟨b0,_,h1,_⟩
  ·exact h1
  ·exact absurd h1 (hnolive b0)
 have hthe:∀q,mU tb ops wb S q→∀o',GR ops st q (st i).m.next o'→o'=ob:=by
  intro q hq o' hg;rcases hg with⟨h1,h2⟩|⟨p,h1,h2,h3,h4,h5⟩
  ·have hiq:i<q:=by
    rcases qaZ i q with h6|h6
    ·exact h6
    ·have:=hmono q i h6 (by omega);omega
   have:=h.row.kept h.ho hw hc hm hmono q (by omega) hq.1 (fun j oj hj hj' hoj hwj hcj=>by
    have hS:=(hq.2 j oj hoj hwj hcj).2 hj';rcases h.sta.ap i j o oj hj h.ho hoj with ha|⟨_,_,_,_,_,_,h7⟩
    ·exact absurd (h.cl j i hS ha) h.hn
    ·exact h7 hc hcj)
   rw [this] at h2;exact(qbo h2).symm
  ·have hpi:p=i:=by
    rcases qcT p i with h6|h6|h6
    ·have:=hmono (p+1) i (by omega) (by omega);omega
    ·exact h6
    ·have:=hmono (i+1) p (by omega) (by omega);omega
   subst hpi;rw [hm,cQ,if_pos rfl] at h5;exact(qbo h5).symm
 obtain⟨ht,hd⟩:=TR.put (a:=a) (hI.tr.mono hle) hv h.Ho;refine⟨hI.cl.add h.ready,ht.1,h.DL hI ht,hI.ro.mono hle,by rw [hd];exact hI.dr.mono hle,fun q hq=>hI.wf q (hq.same h.ho hL),fun q hq x o' l hg hal hl=>?_,hrel.rng,fun q hq x y l l' hx hy hlx hly he=>?_,
  fun j hj hn x hx1 hx2=>?_,fun x hx=>?_,fun q hq x l hx hl=>?_,fun c hc hn=>?_,qaV hI.sz hst.size,hst.os.trans hI.os,hst.tape.trans hI.tape,hst.output.trans hI.output,fun x l hl hs=>⟨fun q hq=>(hI.kp x l hl hs).1 q (hq.same h.ho hL),(hfr _ (hI.rng x l (by rw [hI.out x (.inl hs.1)];exact hl))).trans (hI.kp x l hl hs).2⟩,
  fun q hq x t k c hx=>by obtain⟨l,e,r⟩:=hI.gl q (hq.same h.ho hL) x t k c hx;exact⟨l,hle x l e,r⟩⟩
 ·have hq':=hq.same h.ho hL;by_cases hx:x=(st i).m.next
  ·subst hx;have:=hthe q hq' o' hg;subst this;exact hrel.obs _ o' l (by rw [cQ,if_pos rfl]) hal hl
  ·rw [hout x hx] at hl;obtain⟨o2,h1,h2⟩:=hI.obs q hq' x o' l hg hal hl;exact⟨o2,by rw [hfr _ (hI.rng x l hl)];exact h1,h2.mono hle⟩
 ·have hq':=hq.same h.ho hL;have hnew':∀{x l},x=(st i).m.next→GL ops st q x→ι' x=some l→w.heap.size≤l.blk:=by
   rintro x l rfl ⟨o',hg,hal⟩ hl;have:=hthe q hq' o' hg;subst this;exact hnew l hl hal
  by_cases ex:x=(st i).m.next
  ·by_cases ey:y=(st i).m.next
   ·omega
   ·have h1:=hnew' ex hx hlx;rw [hout y ey] at hly;have:=hI.rng y l' hly;omega
  ·by_cases ey:y=(st i).m.next
   ·have h1:=hnew' ey hy hly;rw [hout x ex] at hlx;have:=hI.rng x l hlx;omega
   ·rw [hout x ex] at hlx;rw [hout y ey] at hly;exact hI.inj q hq' x y l l' hx hy hlx hly he
 ·have hji:j≠i:=fun e=>hn (.inr e)
  have hSj:¬S j:=fun e=>hn (.inl e)
  have hne:x≠(st i).m.next:=by
   rintro rfl;rcases qeh hji with h6|h6
   ·have:=hmono (j+1) i (by omega) (by omega);omega
   ·have:=hmono (i+1) j (by omega) (by omega);omega
  rw [hout x hne];exact hI.free j hj hSj x hx1 hx2
 ·have h1:=hmono 0 i (by omega) (by omega);have h2:=hmono (i+1) ops.size (by omega) (qao _);rw [hout x (by omega)];exact hI.out x hx
 ·have hq':=hq.same h.ho hL;by_cases ex:x=(st i).m.next
  ·obtain⟨o',hg,hal⟩:=hx;subst ex;have:=hthe q hq' o' hg;subst this;exact .inl (qaV hI.sz (hnew l hl hal))
  ·rw [hout x ex] at hl;exact hI.src q hq' x l hx hl
 ·rw [hfr c (qaD hc hI.sz)];exact hI.fr c hc hn
theorem Inv.Rw (hI:Inv tb ops st wb ah b ι0 w0 S ι a w) (h:Ab tb ih ops fl st wb vv hb ah S i o) (hw:wb i=true) (hc:cls tb o.op= .L) (hmono:∀p q,p≤q→q≤ops.size→(st p).m.next≤(st q).m.next)
 {A1:Mem} (hback:gI (st i).m.get (hb i) A1= .ok (st (i+1)).m) {a':Act}
 (hs:SR ι' ⟨vz (snap ops st S (st 0).n) o.dst (vv i),(st 0).n,(st 0).d,A1,(st 0).ro⟩ b a' w') (hst:eH ι (ff (hb i) (st i).m) w ι' A1 w'):
 Inv tb ops st wb ah b ι0 w0 (fun j=>S j∨j=i) ι' a' w':=by
 have hlt:i<ops.size:=(qaM.1 h.ho).1;have hmi:=h.Yd hc;have hnx1:A1.next=(st (i+1)).m.next:=(mV hback).symm
 have hnx0:(ff (hb i) (st i).m).next=(st i).m.next:=jW _ _
 obtain⟨hsome,hget⟩:=pv hback;have hin:∀x,x∈hb i→x<(st i).m.next:=by
  intro x hx;obtain⟨o',ho'⟩:=hsome x hx;rcases qaZ x (st i).m.next with h1|h1
  ·exact h1
  ·rw [hI.wf i hmi x h1] at ho';cases ho'
 have hle:eK ι ι':=hst.le (fun x hx1 hx2=>by
  rw [hnx0] at hx1;rw [hnx1] at hx2;exact hI.free i hlt h.hn x hx1 hx2)
 have hout:∀x,x<(st i).m.next∨(st (i+1)).m.next≤x→ι' x=ι x:=fun x hx=>hst.out x (by rw [hnx0,hnx1];exact hx)
 have hliveA:∀x,live (ff (hb i) (st i).m) x→x∉hb i∧GL ops st i x∧x<(st i).m.next:=by
  rintro x ⟨o',hx,hal⟩;rw [iw] at hx;split at hx
  ·cases hx;cases hal
  ·rename_i hnot;have hxl:x<(st i).m.next:=by
    rcases qaZ x (st i).m.next with h1|h1
    ·exact h1
    ·rw [hI.wf i hmi x h1] at hx;cases hx
   exact⟨hnot,⟨o',.inl ⟨hxl,hx⟩,hal⟩,hxl⟩
 have hold:∀x l,GL ops st i x→¬live (ff (hb i) (st i).m) x→ι x=some l→w'.heap[l.blk]?=w.heap[l.blk]?:=by
  intro x l hg hnl hl;refine hst.fr _ (hI.rng x l hl) fun y ly hy hly he=>?_
  have:=hI.inj i hmi y x ly l (hliveA y hy).2.1 hg hly hl he;exact hnl (this▸hy)
 have hroute:∀x o',GR ops st (i+1) x o'→(A1.get x=some o')∨(GR ops st i x o'∧¬live (ff (hb i) (st i).m) x∧ι' x=ι x):=by
  intro x o' hg;rcases hg with⟨h1,h2⟩|⟨p,h1,h2,h3,h4,h5⟩
  ·rw [hget] at h2;by_cases hx:x∈hb i
   ·rw [if_pos hx] at h2;exact .inr ⟨.inl ⟨hin x hx,h2⟩,fun hl=>(hliveA x hl).1 hx,hout x (.inl (hin x hx))⟩
   ·rw [if_neg hx] at h2;exact .inl h2
  ·have hge:(st (i+1)).m.next≤x:=qaV (hmono (i+1) p h1 (by omega)) h3
   have hge0:=hmono i (i+1) (by omega) (by omega);exact .inr ⟨.inr ⟨p,by omega,h2,h3,h4,h5⟩,fun hl=>by have:=(hliveA x hl).2.2;omega,hout x (.inr hge)⟩
 have hq0:∀q,mU tb ops wb (fun j=>S j∨j=i) q→i+1≤q∧∀p op,i+1≤p→p<q→ops[p]?=some op→¬(wb p=true∧cls tb op.op= .L):=by
  intro q hq;refine⟨(hq.2 i o h.ho hw hc).1 (.inr rfl),fun p op hp hp' hop hx=>?_⟩;rcases(hq.2 p op hop hx.1 hx.2).2 hp' with hS|rfl
  ·have:=(hmi.2 p op hop hx.1 hx.2).1 hS;omega
  ·omega
 have hwf1:∀x,(st (i+1)).m.next≤x→(st (i+1)).m.get x=none:=by
  intro x hx;rw [hget];have:=hmono i (i+1) (by omega) (by omega);rw [if_neg (fun hx'=>by have:=hin x hx';omega)];exact hs.rel.wf x (by simp only;omega)
 have hobs1:∀x o' l,GR ops st (i+1) x o'→alive o'=true→ι' x=some l→∃o2,w'.heap[l.blk]?=some o2∧OR ι' o' l o2:=by
  intro x o' l hg hal hl;rcases hroute x o' hg with h1|⟨h1,h2,h3⟩
  ·exact hs.rel.obs x o' l h1 hal hl
  ·rw [h3] at hl;obtain⟨o2,e,r⟩:=hI.obs i hmi x o' l h1 hal hl;exact⟨o2,by rw [hold x l ⟨o',h1,hal⟩ h2 hl];exact e,r.mono hle⟩
 have hmix:∀x y l l',live A1 x→GL ops st i y→¬live (ff (hb i) (st i).m) y→ι' x=some l→ι y=some l'→l.blk≠l'.blk:=by
  intro x y l l' hx hy hny hlx hly he;rcases hst.src x l hx hlx with h1|⟨b0,l0,h1,h2,h3⟩
  ·have:=hI.rng y l' hly;omega
  ·have:=hI.inj i hmi b0 y l0 l' (hliveA b0 h1).2.1 hy h2 hly (by omega);exact hny (this▸h1)
 have hinj1:∀x y l l',GL ops st (i+1) x→GL ops st (i+1) y→ι' x=some l→ι' y=some l'→l.blk=l'.blk→x=y:=by
  rintro x y l l' ⟨ox,hx,hax⟩ ⟨oy,hy,hay⟩ hlx hly he;rcases hroute x ox hx with h1|⟨h1,h2,h3⟩
  ·rcases hroute y oy hy with k1|⟨k1,k2,k3⟩
   ·exact hs.rel.inj x y l l' ⟨ox,h1,hax⟩ ⟨oy,k1,hay⟩ hlx hly he
   ·rw [k3] at hly;exact absurd he (hmix x y l l' ⟨ox,h1,hax⟩ ⟨oy,k1,hay⟩ k2 hlx hly)
  ·rw [h3] at hlx;rcases hroute y oy hy with k1|⟨k1,k2,k3⟩
   ·exact absurd he.symm (hmix y x l' l ⟨oy,k1,hay⟩ ⟨ox,h1,hax⟩ h2 hly hlx)
   ·rw [k3] at hly;exact hI.inj i hmi x y l l' ⟨ox,h1,hax⟩ ⟨oy,k1,hay⟩ hlx hly he
 have hGL:∀q,mU tb ops wb (fun j=>S j∨j=i) q→∀x o',GR ops st q x o'→GR ops st (i+1) x o':=fun q hq x o' hg=>h.row.IK q (hq0 q hq).1 hq.1 (hq0 q hq).2 hg
 refine⟨hI.cl.add h.ready,hs.tr.1,h.DL hI hs.tr,hs.ro,hs.dr,fun q hq=>h.row.QB hwf1 q (hq0 q hq).1 hq.1 (hq0 q hq).2,fun q hq x o' l hg hal hl=>hobs1 x o' l (hGL q hq x o' hg) hal hl,hs.rel.rng,
  fun q hq x y l l' ⟨ox,hx,hax⟩ ⟨oy,hy,hay⟩ hlx hly he=>hinj1 x y l l' ⟨ox,hGL q hq x ox hx,hax⟩ ⟨oy,hGL q hq y oy hy,hay⟩ hlx hly he,
  fun j hj hn x hx1 hx2=>?_,fun x hx=>?_,fun q hq x l ⟨ox,hx,hax⟩ hl=>?_,fun c hc hn=>?_,qaV hI.sz hst.size,hst.os.trans hI.os,hst.tape.trans hI.tape,hst.output.trans hI.output,fun x l hl hs=>?_,fun q hq x t k c hx=>?_⟩
 ·have hji:j≠i:=fun e=>hn (.inr e)
  have hSj:¬S j:=fun e=>hn (.inl e)
  rw [hout x]
  ·exact hI.free j hj hSj x hx1 hx2
  ·rcases qeh hji with h6|h6
   ·have:=hmono (j+1) i (by omega) (by omega);left;omega
   ·have:=hmono (i+1) j (by omega) (by omega);right;omega
 ·have h1:=hmono 0 i (by omega) (by omega);have h2:=hmono (i+1) ops.size (by omega) (qao _);rw [hout x (by omega)];exact hI.out x hx
 ·rcases hroute x ox (hGL q hq x ox hx) with h1|⟨h1,h2,h3⟩
  ·rcases hst.src x l ⟨ox,h1,hax⟩ hl with k1|⟨b0,l0,k1,k2,k3⟩
   ·exact .inl (qaV hI.sz k1)
   ·rcases hI.src i hmi b0 l0 (hliveA b0 k1).2.1 k2 with m1|⟨b1,l1,m1,m2,m3⟩
    ·left;omega
    ·exact .inr ⟨b1,l1,m1,m2,by omega⟩
  ·rw [h3] at hl;exact hI.src i hmi x l ⟨ox,h1,hax⟩ hl
 ·rw [hst.fr c (qaD hc hI.sz)]
  ·exact hI.fr c hc hn
  ·intro x l hx hl he;rcases hI.src i hmi x l (hliveA x hx).2.1 hl with m1|⟨b1,l1,m1,m2,m3⟩
   ·omega
   ·exact hn b1 l1 m1 m2 (by omega)
 ·have hlx:ι x=some l:=by rw [hI.out x (.inl hs.1)];exact hl
  obtain⟨k1,k2⟩:=hI.kp x l hl hs;have k3:=k1 i hmi;have hlt0:x<(st i).m.next:=qaD hs.1 (hmono 0 i (by omega) (by omega))
  obtain⟨_,ty,fz,c,hx2,hx3⟩:=hs;have key:(st (i+1)).m.get x=(st 0).m.get x∧w'.heap[l.blk]?=w.heap[l.blk]?:=by
   by_cases hx:x∈hb i
   ·refine⟨by rw [hget,if_pos hx,k3],hold x l ⟨_,.inl ⟨hlt0,k3.trans hx2⟩,rfl⟩ (fun hl=>(hliveA x hl).1 hx) hlx⟩
   ·have hh:(ff (hb i) (st i).m).get x=(st 0).m.get x:=by rw [iw,if_neg hx,k3]
    obtain⟨e1,e2⟩:=hst.kept x l hlx ⟨by rw [hnx0];exact hlt0,ty,fz,c,hh.trans hx2,hx3⟩;exact⟨by rw [hget,if_neg hx,e1,hh],e2⟩
  refine⟨fun q hq=>?_,key.2.trans k2⟩;rw [(h.row.Je q (hq0 q hq).1 hq.1 (hq0 q hq).2 x (by have:=hmono i (i+1) (by omega) (by omega);omega)).1,key.1]
 ·have hx:=h.row.Jj q (hq0 q hq).1 hq.1 (hq0 q hq).2 hx;rw [hget] at hx;split at hx
  ·obtain⟨l,e,r⟩:=hI.gl i hmi x t k c hx;exact⟨l,hle x l e,r⟩
  ·exact hs.rel.gl x t k c hx
theorem EE {p:Nat→Prop} {i:Nat}:∀n,(∃j,i<j∧j<n∧p j)→∃j,i<j∧j<n∧p j∧∀k,j<k→k<n→¬p k:=by
 intro n
 induction n with
 |zero=>rintro⟨j,_,h,_⟩;omega
 |succ n ih=>
  rintro⟨j,h1,h2,h3⟩;by_cases hn:i<n∧p n
  ·exact⟨n,hn.1,by omega,hn.2,fun k hk hk'=>by omega⟩
  ·have hjn:j≠n:=by rintro rfl;exact hn ⟨h1,h3⟩
   obtain⟨k,k1,k2,k3,k4⟩:=ih ⟨j,h1,by omega,h3⟩;refine⟨k,k1,by omega,k3,fun m hm hm' hp=>?_⟩;by_cases hmn:m=n
   ·subst hmn;exact hn ⟨by omega,hp⟩
   ·exact k4 m hm (by omega) hp
variable {n:Nat}
theorem CN {p:Nat→Prop} (h:∃j,j<n∧p j):∃j,j<n∧p j∧∀k,k<j→¬p k:=by
 obtain⟨j,h1,h2⟩:=h
 induction j using qcL with
 |ind j ih=>
  by_cases he:∃k,k<j∧p k
  ·obtain⟨k,k1,k2⟩:=he;exact ih k k1 (by omega) k2
  ·exact⟨j,h1,h2,fun k hk hp=>he ⟨k,hk,hp⟩⟩
variable {j k:Nat}
theorem Stat.I6 (hst:Stat tb ops fl ah) (hcl:ow ah S) {oj ok':Oper} (hj:ops[j]?=some oj) (hk:ops[k]?=some ok') (hjk:j<k) (cj:cls tb oj.op= .L) (ck:cls tb ok'.op= .L) (hS:S k):S j:=by
 rcases hst.ap j k oj ok' hjk hj hk with ha|⟨_,_,_,h4,_⟩
 ·exact hcl k j hS ha
 ·exact absurd ⟨cj,ck⟩ h4
theorem Ab.reader (h:Ab tb ih ops fl st wb vv hb ah S i o) (hw:wb i=true) (hc:cls tb o.op= .Rd):∃q A,mU tb ops wb S q∧Xt tb ops st wb (st q).m q i A∧nX tb (st i).t A.get o.op= .ok (vv i):=by
 have hlt:i<ops.size:=(qaM.1 h.ho).1;by_cases hB:∃j,i<j∧j<ops.size∧(S j∧wb j=true∧∃oj,ops[j]?=some oj∧cls tb oj.op= .L)
 ·obtain⟨j,hj1,hj2,⟨hSj,hwj,oj,hoj,hcj⟩,hlast⟩:=EE ops.size hB;refine⟨j+1,_,⟨by omega,fun k o' hk hwk hck=>⟨fun hS=>?_,fun hle=>?_⟩⟩,.self,?_⟩
  ·rcases qaZ k (j+1) with h1|h1
   ·exact h1
   ·exact absurd ⟨hS,hwk,o',hk,hck⟩ (hlast k (by omega) (qaM.1 hk).1)
  ·rcases qaZ k j with h1|h1
   ·exact h.sta.I6 h.cl hk hoj h1 hck hcj hSj
   ·rw [show k=j by omega];exact hSj
  ·refine h.row.late i j o oj (qaB _) hj1 h.ho hoj hw hwj hc hcj ?_;rcases h.sta.ap i j o oj hj1 h.ho hoj with ha|⟨_,_,_,_,h5,_⟩
   ·exact absurd (h.cl j i hSj ha) h.hn
   ·exact h5 hc hcj
 ·by_cases hA:∃j,j<i∧(¬S j∧wb j=true∧∃oj,ops[j]?=some oj∧cls tb oj.op= .L)
  ·obtain⟨j,hj1,⟨hSj,hwj,oj,hoj,hcj⟩,hfirst⟩:=CN hA;have hE:=h.row.early j i oj o (qaB _) hj1 hoj h.ho hwj hw hcj hc (by
    rcases h.sta.ap j i oj o hj1 hoj h.ho with ha|⟨_,_,_,_,_,h6,_⟩
    ·exact absurd (h.ready j ha) hSj
    ·exact h6 hcj hc)
   obtain⟨A,hA,hrd⟩:=hE;refine⟨j,A,⟨by omega,fun k o' hk hwk hck=>⟨fun hS=>?_,fun hl=>?_⟩⟩,hA,hrd⟩
   ·rcases qcT k j with h1|rfl|h1
    ·exact h1
    ·exact absurd hS hSj
    ·exact absurd (h.sta.I6 h.cl hoj hk h1 hcj hck hS) hSj
   ·exact qca fun hS=>hfirst k hl ⟨hS,hwk,o',hk,hck⟩
  ·refine⟨i,_,⟨by omega,fun k o' hk hwk hck=>⟨fun hS=>?_,fun hl=>?_⟩⟩,.self,?_⟩
   ·rcases qcT k i with h1|rfl|h1
    ·exact h1
    ·exact absurd hS h.hn
    ·exact absurd ⟨k,h1,(qaM.1 hk).1,hS,hwk,o',hk,hck⟩ hB
   ·exact qca fun hS=>hA ⟨k,hl,hS,hwk,o',hk,hck⟩
   ·have hk:=(h.row.step i o (qaB _) h.ho).kind hw;rw [hc] at hk;exact hk.1
include ok in
theorem Inv.step (hcall:gQ tb ih) (hI:Inv tb ops st wb ah b ι0 w0 S ι a w) (h:Ab tb ih ops fl st wb vv hb ah S i o) (hmono:∀p q,p≤q→q≤ops.size→(st p).m.next≤(st q).m.next)
 {k:List Item} {cs:List Frame} {rest:List Nat}:
 ∃ι' a' w',Steps tb.P (lone (b.atR a (.inRegion ops (i::rest)::k)) cs w) (lone (b.atR a' (.inRegion ops rest::k)) cs w')∧Inv tb ops st wb ah b ι0 w0 (fun j=>S j∨j=i) ι' a' w':=by
 have hs:=h.row.step i o (qaB _) h.ho;have htr:=hI.tr;have hwant:=lU (h.want hI.qU) htr;have hev:=h.pC hI.qU;cases hw:wb i with
 |false=>
  have hL:¬(wb i=true∧cls tb o.op= .L):=fun hx=>by rw [hw] at hx;cases hx.1
  have hstep:=stepR_op_skip (P:=tb.P) (b:=b) (a:=a) (k:=k) (cs:=cs) (w:=w) (ops:=ops) (i:=i) (rest:=rest) (by rw [h.ho];simp [hwant,hw]);rw [h.ho,qcf] at hstep;have hu:VR ι (vv i) undef:=by rw [(hs.no hw).1];exact .tuple .nil
  exact⟨ι,_,w,.one hstep,hI.quiet h hL hu⟩
 |true=>
  rw [hw] at hwant;have hk:=hs.kind hw;cases hc:cls tb o.op with
  |P=>
   rw [hc] at hk;have hL:¬(wb i=true∧cls tb o.op= .L):=fun hx=>by rw [hc] at hx;cases hx.2
   obtain⟨v',e,hv⟩:=Bl ok (by rw [←Bk hev];exact hk.1) htr;exact⟨ι,_,w,.one (eF h.ho hwant (dR (tb:=tb) (by rw [hc];simp)) (e w) (.inl rfl)),hI.quiet h hL hv⟩
  |Rd=>
   rw [hc] at hk;have hL:¬(wb i=true∧cls tb o.op= .L):=fun hx=>by rw [hc] at hx;cases hx.2
   obtain⟨q,A,hq,hX,hrd⟩:=h.reader hw hc;obtain⟨v',e,hv⟩:=Bq ok (hI.ZC h.row hmono hq hX) (by rw [←Bp hev];exact hrd) hc htr;exact⟨ι,_,w,.one (eF h.ho hwant (dR (tb:=tb) (by rw [hc];simp)) e (.inl rfl)),hI.quiet h hL hv⟩
  |Al=>
   rw [hc] at hk;obtain⟨ob,way,h1,h2,h3⟩:=hk;have hlt:i<ops.size:=(qaM.1 h.ho).1;have hN:ι (st i).m.next=none:=hI.free i hlt h.hn _ (qao _) (by rw [h2,ae];omega)
   have hrel0:Rel ι ⟨.e,(st i).m.next⟩ w:=
    ⟨fun _ _=>rfl,(fun _ _ _ hx _ _=>by cases hx),hI.rng,(fun x _ _ _ hx=>by obtain⟨_,hx,_⟩:=hx;cases hx),(fun _ _ _ _ hx=>by cases hx)⟩
   obtain⟨ι',w',v',e,hv,hrel,hst⟩:=Ad ok hrel0 (by rw [←Ac hev];exact h1) htr hN;refine⟨ι',_,w',.one (eF h.ho hwant (dR (tb:=tb) (by rw [hc];simp)) e (.inl rfl)),hI.Yc h hw hc hmono h2 (by rw [h3];exact hv) hrel hst⟩
  |L=>
   rw [hc] at hk;obtain⟨A1,h1,h2⟩:=hk;have hlt:i<ops.size:=(qaM.1 h.ho).1;have hmi:=h.Yd hc;have hrel:=hI.rel hmi;have hrelA:Rel ι (ff (hb i) (st i).m) w:=by
    refine⟨fun x hx=>?_,fun x o' l hx hal hl=>?_,hrel.rng,fun x y l l' hx hy=>?_,fun x t k c hx=>?_⟩
    ·rw [jW] at hx;rw [iw,if_neg]
     ·exact hrel.wf x hx
     ·intro hx';obtain⟨o',ho'⟩:=(pv h2).1 x hx';rw [hrel.wf x hx] at ho';cases ho'
    ·rw [iw] at hx;split at hx
     ·cases hx;cases hal
     ·exact hrel.obs x o' l hx hal hl
    ·have hl:∀x,live (ff (hb i) (st i).m) x→live (st i).m x:=by
      rintro x ⟨o',hx,hal⟩;rw [iw] at hx;split at hx
      ·cases hx;cases hal
      ·exact⟨o',hx,hal⟩
     exact hrel.inj x y l l' (hl x hx) (hl y hy)
    ·rw [iw] at hx;split at hx
     ·cases hx
     ·exact hrel.gl x t k c hx
   have hsnd:=Kw.snd ok hcall h1 (t':=snap ops st S (st 0).n) (n:=(st 0).n) (d:=(st 0).d) (ro:=(st 0).ro) hev h.Ho ops i;obtain⟨ι',w',a',stp,hsr,hss⟩:=hsnd.2 ι b a k cs w rest ⟨hrelA,htr,hI.ro,hI.dr⟩ (fun x hx1 hx2=>by
    simp only [jW] at hx1;rw [←mV h2] at hx2;exact hI.free i hlt h.hn x hx1 hx2) hwant h.ho
   exact⟨ι',a',w',stp,hI.Rw h hw hc hmono h2 hsr hss.stp⟩
include ok in
theorem Inv.steps (hcall:gQ tb ih) (hr:Row tb ih ops fl 0 st wb vv hb) (hsta:Stat tb ops fl ah) (hmono:∀p q,p≤q→q≤ops.size→(st p).m.next≤(st q).m.next) {k:List Item} {cs:List Frame}:
 ∀(rest:List Nat) (S:Nat→Prop) (ι:de) (a:Act) (w:World),rn ops S rest→Inv tb ops st wb ah b ι0 w0 S ι a w→
 ∃ι' a' w' S',Steps tb.P (lone (b.atR a (.inRegion ops rest::k)) cs w) (lone (b.atR a' (.inRegion ops []::k)) cs w')∧Inv tb ops st wb ah b ι0 w0 S' ι' a' w'∧∀i,i<ops.size→S' i
 | [],S,ι,a,w,hs,hI=>by
  cases hs with
  |nil h=>exact⟨ι,a,w,S,.refl _ _,hI,h⟩
 |i::rest,S,ι,a,w,hs,hI=>by
  cases hs with
  |cons ho hn he h=>
   obtain⟨ι1,a1,w1,st1,hI1⟩:=Inv.step ok hcall hI ⟨hr,hsta,hI.cl,ho,hn,hI.cl.ready hsta ho he⟩ hmono (k:=k) (cs:=cs) (rest:=rest);obtain⟨ι2,a2,w2,S2,st2,hI2,hall⟩:=Inv.steps hcall hr hsta hmono rest _ ι1 a1 w1 h hI1;exact⟨ι2,a2,w2,S2,st1.trans st2,hI2,hall⟩
end rows
end
section
variable {tb:bO} (ok:cC tb) {ih:Code→St→R (Ex×St)}
include ok in
theorem Rz (hcall:gQ tb ih):IJ tb ih:=by
 intro ops s s1 h id;unfold regionF at h;simp only [cond_true] at h;obtain⟨fl,h1,h2⟩:=R.ai h;obtain⟨⟨e,s'⟩,h3,h4⟩:=R.ai h2;clear h h2;cases e with
 |nrm=>
  simp only [R.ok.injEq,qat,true_and] at h4;subst h4;obtain⟨ah,hsta⟩:=tW h1;obtain⟨st,wb,vv,hb,e0,e1,hrow⟩:=gM (tb:=tb) (ih:=ih) ops.toList 0 (fun j=>by simp) h3;have hr:=hrow.row;clear hrow;have e1:st ops.size=s':=by rw [←e1];simp
  have hmono:∀p q,p≤q→q≤ops.size→(st p).m.next≤(st q).m.next:=fun p q h1 h2=>hr.Ls ok hcall h1 h2
  subst e0 e1;refine⟨hmono 0 ops.size (qaB _) (qao _),fun ι b a k cs w hs hf=>?_⟩;have hsched:=nU hsta.back ops.size (w.tape w.drawn (.order b.fn id)) (qb9 ops.size false) (by simp) (by
   unfold missing;exact qaV (List.length_filter_le _ _) (by simp))
  have hsched:=hsched.congr (S':=fun _=>False) (fun j=>by
   simp only [qdX,Array.getElem?_replicate];split<;>simp)
  have hq0:∀q,mU tb ops wb (fun _=>False) q→∀p op,0≤p→p<q→ops[p]?=some op→¬(wb p=true∧cls tb op.op= .L):=
   fun q hq p op _ hp hop hx=>(hq.2 p op hop hx.1 hx.2).2 hp
  have hcase:∀q,mU tb ops wb (fun _=>False) q→∀x o l,GR ops st q x o→ι x=some l→(st 0).m.get x=some o:=by
   intro q hq x o l hg hl;rcases hr.IK q (qaB _) hq.1 (hq0 q hq) hg with⟨_,k2⟩|⟨p,_,k2,k3,k4,_⟩
   ·exact k2
   ·have a1:=hmono 0 p (by omega) (by omega);have a2:=hmono (p+1) ops.size (by omega) (qao _);rw [hf x (by omega) (by omega)] at hl;cases hl
  have hI:Inv tb ops st wb ah b ι {w with drawn:=w.drawn+1} (fun _=>False) ι a {w with drawn:=w.drawn+1}:=by
   refine⟨fun _ _ h=>h.elim,hs.tr.1,fun x c v hc hg=>?_,hs.ro,hs.dr,fun q hq=>hr.QB hs.rel.wf q (qaB _) hq.1 (hq0 q hq),fun q hq x o l hg hal hl=>hs.rel.obs x o l (hcase q hq x o l hg hl) hal hl,hs.rel.rng,
    fun q hq x y l l' ⟨ox,hx,hax⟩ ⟨oy,hy,hay⟩ hlx hly he=>hs.rel.inj x y l l' ⟨ox,hcase q hq x ox l hx hlx,hax⟩ ⟨oy,hcase q hq y oy l' hy hly,hay⟩ hlx hly he,fun i hi _ x hx1 hx2=>?_,fun _ _=>rfl,
    fun q hq x l ⟨ox,hx,hax⟩ hl=>.inr ⟨x,l,⟨ox,hcase q hq x ox l hx hl,hax⟩,hl,rfl⟩,fun _ _ _=>rfl,qao _,rfl,rfl,rfl,
    fun x l _ hs=>⟨fun q hq=>(hr.Je q (qaB _) hq.1 (hq0 q hq) x hs.1).1,rfl⟩,
    fun q hq x t k c hx=>hs.rel.gl x t k c (hr.Jj q (qaB _) hq.1 (hq0 q hq) hx)⟩
   ·rw [hr.Iy x 0 c (qaB _) hc.1 fun p o _ hp ho hd=>(hc.2 p o ho hd).2 hp] at hg;exact hs.tr.2 x v hg
   ·have a1:=hmono 0 i (by omega) (by omega);have a2:=hmono (i+1) ops.size (by omega) (qao _);exact hf x (by omega) (by omega)
  obtain⟨ι',a',w',S',stp,hI',hall⟩:=Inv.steps ok hcall hr hsta hmono (k:=k) (cs:=cs) _ _ _ _ _ hsched hI;have hq:mU tb ops wb S' ops.size:=⟨qao _,fun j o hj _ _=>by
   have:=(qaM.1 hj).1;exact⟨fun _=>this,fun _=>hall j this⟩⟩
  obtain⟨hn1,hn2,hn3⟩:=hr.OS ops.size (qao _);have hrel:=hI'.rel hq;refine⟨ι',w',a',k,(Steps.head ?_ stp).trans (.one stepR_region_end),rfl,⟨hrel,⟨by rw [hI'.size,hn1],fun x v hv=>?_⟩,by rw [hn3];exact hI'.ro,by rw [hn2];exact hI'.dr⟩,
   ⟨⟨hmono 0 ops.size (qaB _) (qao _),hI'.out,fun x l ⟨o,hx,hax⟩ hl=>?_,hI'.fr,hI'.sz,hI'.os,hI'.tape,hI'.output,fun x l hl hs=>⟨(hI'.kp x l hl hs).1 _ hq,(hI'.kp x l hl hs).2⟩⟩,hn1,hn3⟩⟩
  ·rw [stepR_region_draw];unfold Region.schedule;rw [ok.mixed];rfl
  ·refine hI'.tm x ops.size v ⟨qao _,fun j o hj _=>?_⟩ hv;have:=(qaM.1 hj).1;exact⟨fun _=>this,fun _=>hall j this⟩
  ·refine hI'.src ops.size hq x l ⟨o,.inl ⟨?_,hx⟩,hax⟩ hl;rcases qaZ x (st ops.size).m.next with h|h
   ·exact h
   ·rw [hI'.wf _ hq x h] at hx;cases hx
 |_=>simp at h4
end
section
variable {tb:bO} (ok:cC tb) {ih:Code→St→R (Ex×St)} {ι:de}
theorem uu:∀(n t:Nat) (acc:Array Value),(Extern.BytealgMakeNoZero.digits n t acc).size=acc.size+n
 |0,_,_=>rfl
 |n+1,t,acc=>by
  rw [Extern.BytealgMakeNoZero.digits,uu n,Array.size_push];omega
theorem xh:∀(n t:Nat) (acc:Array Value),(∀v∈acc,aJ v=true)→∀v∈Extern.BytealgMakeNoZero.digits n t acc,aJ v=true
 |0,_,_,h=>h
 |n+1,t,acc,h=>by
  rw [Extern.BytealgMakeNoZero.digits];refine xh n _ _ fun v hv=>?_
  rcases Array.mem_push.1 hv with h1|rfl
  ·exact h v h1
  ·rfl
variable {fn:Func}
theorem dq {P:Program} {f:FuncId} (hf:P.funcs[f]?=some fn) (hb:fn.body=none) (hn:(fn.name== "runtime.NumGoroutine")=false) (hx:Extern.findNext fn=none) {e:Array Value→Sem Value}
 (he:Extern.find fn=some e) (args:Array Value) (w w':World) (v:Value) (h:(e args).run P w= .ok v w'):(callFunc f args).run P w= .ok (.value v) w':=by
 unfold callFunc;simp only [Sem.run_bind,run_program,Result.andThen_ok,hf,hn,hb,hx,he,Option.isNone_none,if_true,qaI,if_false,run_mark,h,Sem.run_pure]
theorem zX (ps rs:Array TypeId) (n:Int):Extern.BytealgMakeNoZero.makeNoZero ps rs #[.int .i64 n]=(do
 let some t:=rs[0]?|stuck "bytealg.MakeNoZero: no result type"
 let .slice elem←underlying t|stuck "bytealg.MakeNoZero: slice type expected"
 if n<0||n>2^48 then runtimePanic (.error "makeslice: len out of range")
 let cap←choose (.appendCap n.toNat 0 elem)
 askRoom cap
 let bytes←choose (.extern "internal/bytealg.MakeNoZero.bytes" 0);let a←newRow elem (Extern.BytealgMakeNoZero.digits cap bytes #[])
 pure (.slice (some a) n.toNat cap)):=rfl
theorem Nv (t:TypeId) (r:Nat):Extern.MapsClone.clone #[.iface t (.map (some r))]=(do
 let .map entries clock←getObj r|stuck "maps.clone: a map expected"
 pure (.iface t (.map (some (←newObj (.map entries clock)))))):=rfl
theorem KA (x y c:Nat) (hc:c≤1) {e:Array Value→Sem Value} (he:(Extern.MathBitsCarry.rows[0]?).map (·.2)=some e) (P:Program) (w:World):
 (e #[.int .u64 (.ofNat x),.int .u64 (.ofNat y),.int .u64 (.ofNat c)]).run P w= .ok (.tuple #[.int .u64 (.ofNat ((x+y+c) % 18446744073709551616)),.int .u64 (.ofNat ((x+y+c)/18446744073709551616))]) w:=by
 cases he;rcases(show c=0∨c=1 by omega) with rfl|rfl
 ·rfl
 ·rfl
variable {c:Nat}
theorem Ei {x:UInt8} (hc:c<256):qaw x.toNat c=(x==(qaW c).toNat.toUInt8):=by
 have e:(qaW c).toNat.toUInt8.toNat=c:=by
  show(qbD c).toNat=c;rw [qep];omega
 rw [qbK,qcI,beq_iff_eq];constructor
 ·intro h;apply qdf.1;rw [e];exact h
 ·intro h;rw [h];exact e
theorem qO (hc:c<256):∀(l:List UInt8) (n:Nat),qN c l n=n+Lib.countByte l (qaW c).toNat.toUInt8
 | [],n=>by simp [qN,Lib.countByte]
 |x::l,n=>by
  unfold qN Lib.countByte;rw [Ei hc,List.count_cons];cases x==(qaW c).toNat.toUInt8 with
  |true=>rw [cond_true,qO hc];unfold Lib.countByte;simp;omega
  |false=>rw [cond_false,qO hc];unfold Lib.countByte;simp
theorem KW (l:List UInt8) (hc:c<256):Value.int .i64 (.ofNat (qN c l 0))= .int .i64 (Lib.countByte l (qaW c).toNat.toUInt8:Nat):=by
 rw [qO hc,qa1];rfl
theorem yB (hc:c<256):∀(l:List UInt8) (n:Nat),yA c l n=if Lib.indexByte l (qaW c).toNat.toUInt8==-1 then-1 else Lib.indexByte l (qaW c).toNat.toUInt8+n
 | [],n=>rfl
 |x::l,n=>by
  unfold yA Lib.indexByte;rw [Ei hc];cases hq:x==(qaW c).toNat.toUInt8 with
  |true=>simp
  |false=>
   rw [cond_false,yB hc];have:=Lib.indexByte_ge l (qaW c).toNat.toUInt8;generalize Lib.indexByte l (qaW c).toNat.toUInt8=z at this;simp only [qaI,if_false,beq_iff_eq];by_cases h1:z=-1
   ·simp [h1]
   ·simp only [if_neg h1];rw [if_neg (by omega)];omega
theorem LC (l:List UInt8) (hc:c<256):Value.int .i64 (yA c l 0)= .int .i64 (Lib.indexByte l (qaW c).toNat.toUInt8):=by
 rw [yB hc];split
 ·rename_i h;rw [beq_iff_eq] at h;rw [h]
 ·simp
include ok in
theorem zT {k:Nat} {f:FuncId} {fn:Func} {args:List Value} {A A':Mem} {v:Value} (hf:tb.fn.get f=some fn) (hx:Tv k fn) (h:CO tb k fn args A= .ok (v,A')):
 A.next≤A'.next∧∀(ι:de) (w:World) (args':Array Value),Rel ι A w→dv ι args args'.toList→eU ι A A'→
  ∃ι' w' v',(callFunc f args').run tb.P w= .ok (.value v') w'∧VR ι' v v'∧Rel ι' A' w'∧eH ι A w ι' A' w':=by
 have hf':=ok.fn _ _ hf;obtain⟨hb,hn,hnx,hk⟩:=hx;unfold CO at h;split at h
 ·simp only [R.ok.injEq,qat] at h;obtain⟨rfl,rfl⟩:=h;refine⟨qao _,fun ι w args' hr ha hfree=>?_⟩;obtain⟨l⟩:=args';cases ha with
  |cons hv ht=>
   cases ht with
   |nil=>exact⟨ι,w,_,dq hf' hb hn hnx hk _ w w _ rfl,hv,hr,eH.refl _ _ _⟩
 ·rename_i a _ _ b _ _;split at h
  ·rename_i p q r hp hr0;split at h
   ·rename_i e hd;have hb1:=R.ai h;clear h;obtain⟨size,hz,h1⟩:=hb1;cases hq:qaw p q with
    |false=>rw [hq] at h1;cases h1
    |true=>
     rw [hq,cond_true] at h1;obtain rfl:=qaL hq;have hb2:=R.ai h1;clear h1;obtain⟨u,hap,h⟩:=hb2;simp only [R.ok.injEq,qat] at h;obtain⟨rfl,rfl⟩:=h;unfold MX at hap;split at hap
     ·rename_i tA nA fzA cA tB xB fzB cB hsa hsb hga hgb;split at hap
      ·rename_i v0 hv0;have hne:a.block≠b.block:=fun e=>by rw [e] at hap;simp at hap
       refine⟨qao _,fun ι w args' hr ha hfree=>?_⟩;obtain⟨l⟩:=args';obtain⟨ab,ao,qak⟩:=a;obtain⟨bb,bo,bs⟩:=b;simp only at hsa hsb hga hgb hne;subst hsa hsb;have hps:fn.params= #[p,p]:=by apply Array.toList_inj.1;rw [hp]
       have hrs:fn.resultTypes= #[r]:=by apply Array.toList_inj.1;rw [hr0]
       have fin:∀(la lb:Loc) (oa ob la1 lb1 ca cb:Nat),ι ab=some la→ι bb=some lb→
        (Extern.SlicesOverlaps.overlaps fn.params fn.resultTypes #[.slice (some ⟨la.blk,oa,none⟩) la1 ca,.slice (some ⟨lb.blk,ob,none⟩) lb1 cb]).run tb.P w= .ok (.bool false) w:=by
        intro la lb oa ob la1 lb1 ca cb hla hlb;obtain⟨o1,hw1,cs1,fr1,rfl,hcs1,_,hk1⟩:=hr.obs _ _ _ hga rfl hla;obtain⟨o2,hw2,cs2,fr2,rfl,hcs2,hc2,_⟩:=hr.obs _ _ _ hgb rfl hlb;obtain⟨_,_,rfl⟩:=hk1;obtain⟨v',hv',_⟩:=hc2 0 v0 hv0;have hsz2:cs2.size≠0:=by have:=(qaM.1 hv').1;omega
        have hbl:la.blk≠lb.blk:=fun e=>hne (hr.inj ab bb la lb ⟨_,hga,rfl⟩ ⟨_,hgb,rfl⟩ hla hlb e)
        rw [hps,hrs];exact Lib.run_overlaps_apart w p r e (Qx ok hd) size (b7 ok hz) ⟨la.blk,oa,none⟩ ⟨lb.blk,ob,none⟩ la1 ca lb1 cb hbl tA tB cs1.size cs2.size
         (by simp only [World.shape?,hw1]) (by simp only [World.shape?,hw2]) hsz2 (by simp [World.frozen?,hw1]) (by simp [World.frozen?,hw1])
       cases ha with
       |cons hv ht=>
        cases ht with
        |cons hu ht=>
         cases ht with
         |nil=>
          cases hv with
          |sl hla _=>cases hu with
           |sl hlb _=>exact⟨ι,w,_,dq hf' hb hn hnx hk _ w w _ (fin _ _ _ _ _ _ _ _ hla hlb),.bool _,hr,eH.refl _ _ _⟩
           |slX hlb _ _ _ _ _ _=>exact⟨ι,w,_,dq hf' hb hn hnx hk _ w w _ (fin _ _ _ _ _ _ _ _ hla hlb),.bool _,hr,eH.refl _ _ _⟩
          |slX hla _ _ _ _ _ _=>cases hu with
           |sl hlb _=>exact⟨ι,w,_,dq hf' hb hn hnx hk _ w w _ (fin _ _ _ _ _ _ _ _ hla hlb),.bool _,hr,eH.refl _ _ _⟩
           |slX hlb _ _ _ _ _ _=>exact⟨ι,w,_,dq hf' hb hn hnx hk _ w w _ (fin _ _ _ _ _ _ _ _ hla hlb),.bool _,hr,eH.refl _ _ _⟩
      ·cases hap
     ·cases hap
   ·cases h
  ·cases h
 ·rename_i n;split at h
  ·rename_i p ps hp;split at h
   ·rename_i e hd;revert h;generalize hq:(qaq _ 1048576&&_)=q;intro h;cases q with
    |false=>cases h
    |true=>
     simp only [cond_true,R.ok.injEq,qat] at h;obtain⟨rfl,rfl⟩:=h;refine⟨by rw [ae];omega,fun ι w args' hr ha hfree=>?_⟩;simp only [qaO] at hq;have hn2:n≤1048576:=qaG hq.1;obtain⟨l⟩:=args';cases ha with
     |cons hv ht=>
      cases ht;cases hv;have h0:fn.resultTypes[0]?=some p:=by
       have:fn.resultTypes.toList[0]?=some p:=by rw [hp];rfl
       rwa [qaU] at this
      let cap:=(Question.appendCap n 0 e).cut (w.tape w.drawn (.appendCap n 0 e));have hcap:n≤cap∧cap<2^63:=by
       show n≤n+_ % (2^63-n)∧n+_ % (2^63-n)<2^63;have:w.tape w.drawn (.appendCap n 0 e) % (2^63-n)<2^63-n:=qbE _ (by omega);omega
      let bs:=(Question.extern "internal/bytealg.MakeNoZero.bytes" 0).cut (w.tape (w.drawn+1) (.extern "internal/bytealg.MakeNoZero.bytes" 0));let cs:=Extern.BytealgMakeNoZero.digits cap bs #[]
      have hcs:cs.size=cap:=by simp only [cs,uu];simp
      have hN:ι A.next=none:=hfree _ (qao _) (by rw [ae];omega)
      let w':World:={w with heap:=w.heap.push (.cells cs e),drawn:=w.drawn+2};have hrun:(Extern.BytealgMakeNoZero.makeNoZero fn.params fn.resultTypes #[.int .i64 (.ofNat n)]).run tb.P w= .ok (.slice (some ⟨w.heap.size,0,none⟩) n cap) w':=by
       have w1:(decide ((qaW n)<0)||decide ((qaW n)>2^48))=false:=by
        simp only [qa2,qcH,decide_eq_false_iff_not];omega
       rw [zX];simp only [h0,Sem.run_bind,aD ok hd,Result.andThen_ok,w1,qaI,if_false,Sem.run_pure,run_choose,Question.forced,run_askRoom,newRow,run_newObj];rfl
      obtain⟨ι',e1,hrel,hst⟩:=hr.CG (w':=w') (ob:=.cells e .row 0 (T.bK .e 0 (qa7 n (.chan (some 0))))) (o':=.cells cs e) (sz:=cap) hN (fun _ k _ h=>by simp only [Ob.cells.injEq,GB] at h;omega) (iF w _ _ (by simp)) (by simp [w']) (fun ι' hi hbb=>by
       refine⟨cs,(0,0),rfl,hcs,fun i v hv=>?_,qaB _⟩;rw [T.dW] at hv;by_cases hi:0≤i∧i<0+(qa7 n (Value.chan (some 0))).length
       ·rw [if_pos hi] at hv;rw [List.getElem?_replicate] at hv;split at hv
        ·cases hv;have hlt:i<cs.size:=by simp at hi;omega
         exact⟨cs[i],by simp [hlt],.unk (xh _ _ _ (by simp) _ (Array.getElem_mem hlt))⟩
        ·cases hv
       ·rw [if_neg hi,T.lj] at hv;cases hv)
      refine⟨ι',w',_,dq hf' hb hn hnx hk _ w w' _ hrun,?_,hrel,hst⟩;have he1:(1:Nat)<65536:=by omega
      exact VR.slX e1 (cX _ _) (by rw [cD he1];exact hcap.1) (by rw [c7 he1];simp) (fun _=>rfl) hcap.2 (by rw [cD he1];omega)
   ·cases h
  ·cases h
 ·split at h
  ·rename_i es clock hg;simp only [R.ok.injEq,qat] at h;obtain⟨rfl,rfl⟩:=h;refine⟨by rw [ae];omega,fun ι w args' hr ha hfree=>?_⟩;obtain⟨l⟩:=args';cases ha with
   |cons hv ht=>
    cases ht;cases hv with
    |iface hv=>
     cases hv with
     |map hl=>
      obtain⟨o',hw,h0,es',rfl,hes⟩:=hr.obs _ _ _ hg rfl hl;have hN:ι A.next=none:=hfree _ (qao _) (by rw [ae];omega)
      let w':World:={w with heap:=w.heap.push (.map es' clock),drawn:=w.drawn};obtain⟨ι',e1,hrel,hst⟩:=hr.CG (w':=w') (ob:=.map es clock) (o':=.map es' clock) (sz:=0) hN (fun _ _ _ h=>by cases h) (iF w _ _ (by simp)) (by simp [w']) (fun ι' hi hbb=>⟨rfl,es',rfl,hes.mono hi⟩);refine⟨ι',w',_,dq hf' hb hn hnx hk _ w w' _ ?_,.iface (.map e1),hrel,hst⟩;rw [Nv];simp only [Sem.run_bind,cu hw (by simp),Result.andThen_ok,run_newObj,Sem.run_pure];rfl
  ·cases h
 ·rename_i x y c;revert h;generalize hq:qaq c 1=q;intro h;cases q with
  |false=>cases h
  |true=>
   simp only [cond_true,R.ok.injEq,qat] at h;obtain⟨rfl,rfl⟩:=h;refine⟨qao _,fun ι w args' hr ha hfree=>?_⟩;obtain⟨l⟩:=args';cases ha with
   |cons h1 ha=>
    cases ha with
    |cons h2 ha=>
     cases ha with
     |cons h3 ha=>
      cases ha;cases h1;cases h2;cases h3;obtain⟨e,he⟩:∃e,(Extern.MathBitsCarry.rows[0]?).map (·.2)=some e:=⟨_,rfl⟩;refine⟨ι,w,_,dq hf' hb hn hnx (hk.trans he) _ w w _ (KA x y c (qaG hq) he tb.P w),?_,hr,eH.refl _ _ _⟩;exact .tuple (.cons (.int _ _) (.cons (.int _ _) .nil))
 ·rename_i s c;cases hq:qax c 256 with
  |false=>rw [hq] at h;cases h
  |true=>
   rw [hq] at h;simp only [cond_true,R.ok.injEq,qat] at h;obtain⟨rfl,rfl⟩:=h;refine⟨qao _,fun ι w args' hr ha hfree=>?_⟩;obtain⟨l⟩:=args';cases ha with
   |cons h1 ha=>
    cases ha with
    |cons h2 ha=>
     cases ha;cases h1;cases h2;refine⟨ι,w,_,dq hf' hb hn hnx hk _ w w _ (Lib.run_countString s (qaW c) w),?_,hr,eH.refl _ _ _⟩;rw [←KW s.data.toList (cS hq)];exact .int _ _
 ·rename_i s c;cases hq:qax c 256 with
  |false=>rw [hq] at h;cases h
  |true=>
   rw [hq] at h;simp only [cond_true,R.ok.injEq,qat] at h;obtain⟨rfl,rfl⟩:=h;refine⟨qao _,fun ι w args' hr ha hfree=>?_⟩;obtain⟨l⟩:=args';cases ha with
   |cons h1 ha=>
    cases ha with
    |cons h2 ha=>
     cases ha;cases h1;cases h2;refine⟨ι,w,_,dq hf' hb hn hnx hk _ w w _ (Lib.run_indexByteString s (qaW c) w),?_,hr,eH.refl _ _ _⟩;rw [←LC s.data.toList (cS hq)];exact .int _ _
 ·cases h
end
section
variable {tb:bO} (ok:cC tb) {ih:Code→St→R (Ex×St)} {ι:de}
include ok in
theorem IY (hih:Ku tb.P ih):gQ tb ih:=by
 intro cl A r h;unfold bA at h;split at h
 ·rename_i l args;exact .inr (FA hih h)
 ·rename_i f args;split at h
  ·cases h
  ·rename_i fn hf;cases hng:(fn.name== "runtime.NumGoroutine") with
   |true=>rw [hng] at h;cases h
   |false=>
    rw [hng,cond_false] at h;have hf':=ok.fn _ _ hf;split at h
    ·rename_i hb;split at h
     ·rename_i k hk;obtain⟨⟨v,A'⟩,h1,h2⟩:=R.ai h;simp only [R.ok.injEq] at h2;obtain⟨hle,hs⟩:=zT ok hf (ok.ex f k fn hk hf) h1;refine .inr ⟨v,A',h2.symm,hle,fun ι w s fr cs hr hcl hfree=>?_⟩;obtain⟨args',hrun,hargs⟩:=hcl;obtain⟨ι',w',v',e,hv,hrel,hst⟩:=hs ι w args' hr hargs hfree;exact⟨ι',w',v',.inl (hrun.trans e),hv,hrel,hst⟩
     ·cases h
    ·rename_i c hb;have hcf:∀args' w,(callFunc f args').run tb.P w= .ok (.enter f args') w:=by
      intro args' w;unfold callFunc;simp only [Sem.run_bind,run_program,Result.andThen_ok,hf',hng,hb,Option.isNone_some,qaI,if_false,Sem.run_pure]
     split at h
     ·rename_i hh hhk;obtain⟨⟨v,A'⟩,h1,h2⟩:=R.ai h;simp only [R.ok.injEq] at h2;obtain⟨hle,hs⟩:=ok.hk f hh hhk args A v A' h1;refine .inr ⟨v,A',h2.symm,hle,fun ι w s fr cs hr hcl hfree=>?_⟩;obtain⟨args',hrun,hargs⟩:=hcl;obtain⟨ι',w',v',st,hv,hrel,hst⟩:=hs ι w args' hr hargs hfree fr cs;exact⟨ι',w',v',.inr (.inl ⟨f,args',hrun.trans (hcf args' w),st⟩),hv,hrel,hst⟩
     ·rcases xH ok hih hf hb h with⟨v,A',h1,hle,hs⟩|⟨v,A',h1,hle,hs⟩
      ·refine .inl ⟨v,A',h1,hle,fun ι w s fr cs hr hcl hfree=>?_⟩;obtain⟨args',hrun,hargs⟩:=hcl;obtain⟨ι',w',v',⟨fr0,st,hfn,hlv⟩,hv,hrel,hst⟩:=hs ι w args' (fr::cs) hr hargs hfree;exact⟨ι',w',v',⟨f,args',hrun.trans (hcf args' w),st.trans (.one (step_leave_panicked hlv))⟩,hv,hrel,hst⟩
      ·refine .inr ⟨v,A',h1,hle,fun ι w s fr cs hr hcl hfree=>?_⟩;obtain⟨args',hrun,hargs⟩:=hcl;obtain⟨ι',w',v',⟨fr0,st,hfn,hlv⟩,hv,hrel,hst⟩:=hs ι w args' (fr::cs) hr hargs hfree;exact⟨ι',w',v',.inr (.inl ⟨f,args',hrun.trans (hcf args' w),st.trans (.one (step_leave_returned hlv))⟩),hv,hrel,hst⟩
include ok in
theorem jS:∀n,Ku tb.P (exec tb n)
 |0=>by
  intro c s e s1 h;cases h
 |n+1=>by
  have hih:=jS n;have hcall:=IY ok hih;exact F7 ok hih hcall (Rz ok hcall) fun f ps a b s e s1 h=>E' ok hcall f ps a b s e s1 h
def dZ:Mem:=⟨.e,0⟩
theorem ZB (w:World):Rel (fun _=>none) dZ w:=
 ⟨fun _ _=>rfl,(fun _ _ _ h=>by cases h),(fun _ _ h=>by cases h),(fun _ _ _ _ h=>by obtain⟨_,h,_⟩:=h;cases h),(fun _ _ _ _ h=>by cases h)⟩
theorem Lv (b:Nat):¬live dZ b:=fun⟨_,h,_⟩=>by cases h
def Leaves (w w':World):Prop:=(∀c,c<w.heap.size→w'.heap[c]?=w.heap[c]?)∧w.heap.size≤w'.heap.size∧w'.os=w.os∧w'.tape=w.tape∧w'.output=w.output
def isTrue:R Gp→Bool
 | .ok (.val (.bool b) _)=>b
 |_=>false
end
def Qb (P:Program) (ex:T Nat):bO:={P:=P,ty:=T.ofList P.types.toList,fn:=T.ofList P.funcs.toList,ex:=ex,hk:=.e}
theorem Gb (C:Checked) (ex:T Nat) (hex:∀f k fn,ex.get f=some k→C.prog.funcs[f]?=some fn→Tv k fn):cC (Qb C.prog ex) where
 ty:=fun t i h=>by
  have h':(T.ofList C.prog.types.toList).get t=some i:=h;rw [T.ir,qaU] at h';show C.prog.toTables.info? t=some i;unfold Tables.info?;have hlt:=(qaM.1 h').1;rw [if_pos hlt];exact h'
 fn:=fun f fn h=>by
  have h':(T.ofList C.prog.funcs.toList).get f=some fn:=h;rw [T.ir,qaU] at h';exact h'
 mixed:=Checked.mixed C
 ex:=fun f k fn h hf=>hex f k fn h (by
  have h':(T.ofList C.prog.funcs.toList).get f=some fn:=hf;rw [T.ir,qaU] at h';exact h')
 hk:=fun f h hh=>by cases hh
end Go.Am
namespace Go.Am
open Go.RowKit Go.WideShapes Go.ChangeShapes
variable {w':World}
theorem Leaves.below {w:World} (h:Leaves w w'):Below w.heap.size w w':=⟨h.2.2.1,h.2.2.2.1,h.2.2.2.2,h.2.1,h.1⟩
section
variable {H:Type} {enc:TypeId×Value→H} {P:Program}
end
end Go.Am
end
