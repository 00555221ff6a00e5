/- The abstract machine, the walk of the law and its plain laws, made small by a program; part 1: no conditions but those in each theorem. -/
import Derived.Test.YtjoceidiioppiaaGreatDoorQ00
import Derived.AtR
set_option maxHeartbeats 16000000
set_option maxRecDepth 100000
set_option linter.unusedSimpArgs false
set_option linter.unusedVariables false
noncomputable section
open List renaming getElem?_eq_getElem→qan,length_append→qar,length_map→qas,length_cons→qaA,length_take→qaE,getElem?_append_right→qaF,getElem?_append_left→qaJ,mem_cons→qaK,getElem?_map→qaN,length_eq_zero_iff→qaP,length_nil→qaT,getElem?_eq_none→qbc,all_eq_true→qby,range→qbN,getElem?_drop→qcc,range'→qcF,getElem?_range→qcZ,length_drop→qc3,getElem?_take_of_lt→qdr
open Nat renaming le_refl→qao,ble→qaq,beq→qaw,blt→qax,blt_eq→qaH,eq_of_beq_eq_true→qaL,le_trans→qaV,lt_or_ge→qaZ,zero_add→qa1,add_zero→qa8,min_eq_left→qbr,sub_zero→qbA,mod_lt→qbE,mod_eq_of_lt→qbL,mul_one→qb2,add_right_comm→qcd,add_assoc→qck,add_mul→qcl,one_mul→qcG,mul_le_mul_right→qcK,zero_mul→qcN,min_eq_right→qc6,succ→qdi,add_comm→qdt,succ_eq_add_one→qdA,not_lt_zero→qdD,mul_le_mul→qdV,pow_succ→qdW,min_le_left→qef,eq_zero_or_pos→qeg
open Prod.mk renaming injEq→qat
open Bool renaming false_eq_true→qaI,and_eq_true→qaO,eq_iff_iff→qbK,not_true→qcj,true_and→qcs,or_eq_false_iff→qcH,not_false→qc1,false_and→qdT
open Array renaming getElem?_eq_some_iff→qaM,getElem?_toList→qaU,ext'→qbT,length_toList→qb5,replicate→qb9,getElem?_append_left→qcr,getElem?_eq_getElem→qdk,getElem?_setIfInBounds_ne→qdB,range→qdJ,getElem?_modify→qdS
open Int renaming ofNat→qaW,ofNat_eq_natCast→qa2,toNat_natCast→qdj
open Option.some renaming injEq→qaX,inj→qbo
open List.cons renaming injEq→qa4
open Option renaming map_some→qa5,getD_some→qbG,isSome_none→qbI,isSome_some→qdF
open UInt8 renaming ofNat→qbD
namespace Go.Am
section
variable {tb:bO} (ok:cC tb) {ι:de} {A:Mem} {w:World}
variable {o':Obj} {i:Nat} {v:Value}
theorem w4 {t:TypeId} {x:Kd} {fz:Nat} {c:T Value} {l:Loc} (h:OR ι (.cells t x fz c) l o') (hw:w.heap[l.blk]?=some o') (hv:c.get i=some v):
 ∃v',w.cell? ⟨l.blk,i+l.sh,none⟩=some v'∧VR ι v v':=by
 obtain⟨cs,fr,rfl,h1,h2,h3⟩:=h;obtain⟨v',e,r⟩:=h2 i v hv;exact⟨v',by simp only [World.cell?,hw,qbI,qaI,if_false,e],r⟩
theorem xV {a:Addr} (h:w.cell? a=some v) (P:Program) (m:Mode):(load a m).run P w= .ok v w:=by
 rw [run_load,h]
theorem lK (P:Program) (a:Addr):∀(n i:Nat) (acc:Array Value) (vs:List Value),vs.length=n→(∀j v,vs[j]?=some v→w.cell? (a.add (i+j))=some v)→
 (loadCellsFrom a i n acc).run P w= .ok (acc++vs.toArray) w
 |0,i,acc,vs,hl,_=>by
  cases vs with
  |nil=>simp [loadCellsFrom]
  |cons _ _=>simp at hl
 |n+1,i,acc,vs,hl,h=>by
  cases vs with
  |nil=>simp at hl
  |cons v vs=>
   have h0:w.cell? (a.add i)=some v:=h 0 v rfl;simp only [loadCellsFrom,Sem.run_bind,xV h0,Result.andThen_ok];rw [lK P a n (i+1) (acc.push v) vs (by simpa using hl) fun j u hu=>by rw [qcd,qck];exact h (j+1) u (by simpa using hu)];congr 1;apply qbT;simp
theorem zU (P:Program) (a:Addr) (n:Nat) (vs:List Value) (hl:vs.length=n) (h:∀j v,vs[j]?=some v→w.cell? (a.add j)=some v):(loadCells a n).run P w= .ok vs.toArray w:=by
 unfold loadCells;rw [lK P a n 0 #[] vs hl fun j v hv=>by rw [qa1];exact h j v hv]
 simp
variable {n:Nat} {vs:List Value}
theorem Ji {t:TypeId} {x:Kd} {fz:Nat} {c:T Value} {l:Loc} (h:OR ι (.cells t x fz c) l o') (hw:w.heap[l.blk]?=some o') (hv:c.iu n i=some vs):
 ∃vs',dv ι vs vs'∧vs'.length=n∧∀P (w2:World),w2.heap=w.heap→(loadCells ⟨l.blk,i+l.sh,none⟩ n).run P w2= .ok vs'.toArray w2:=by
 obtain⟨hlen,hget⟩:=T.mz c n i vs hv;have key:∀j,j<n→∃v',w.cell? ⟨l.blk,i+j+l.sh,none⟩=some v'∧(∀v,vs[j]?=some v→VR ι v v'):=by
  intro j hj;have hj':j<vs.length:=by omega
  have e:=hget j hj;rw [qan hj'] at e;obtain⟨v',e1,r⟩:=w4 h hw e;exact⟨v',e1,fun v hv=>by rw [qan hj'] at hv;cases hv;exact r⟩
 let f:Nat→Value:=fun j=>(w.cell? ⟨l.blk,i+j+l.sh,none⟩).getD undef
 refine⟨(qbN n).map f,dv.yd (by simp [hlen]) fun j v v' hv hv'=>?_,by simp,fun P w2 hw2=>zU P _ n _ (by simp) fun j v hv=>?_⟩
 ·have hj:j<n:=by
   rcases qaZ j n with h1|h1
   ·exact h1
   ·rw [qbc (by simp;omega)] at hv';cases hv'
  obtain⟨u,e1,r⟩:=key j hj;rw [qaN,qcZ hj] at hv';simp only [qa5,qaX] at hv';have:f j=u:=by simp only [f,e1,qbG]
  rw [←hv',this];exact r v hv
 ·have hj:j<n:=by
   rcases qaZ j n with h1|h1
   ·exact h1
   ·rw [qbc (by simp;omega)] at hv;cases hv
  obtain⟨u,e1,r⟩:=key j hj;rw [qaN,qcZ hj] at hv;simp only [qa5,qaX] at hv;have:f j=u:=by simp only [f,e1,qbG]
  rw [cH,←hv,this,qcd];have hc:∀a,w2.cell? a=w.cell? a:=fun a=>by simp only [World.cell?,hw2]
  rw [hc];exact e1
include ok in
theorem iY (hr:Rel ι A w) {t:TypeId} {x x' v:Value} (h:ag tb A.get t x= .ok v) (hx:VR ι x x'):
 ∃v',(Instr.loadAt t x').run tb.P w= .ok v' w∧VR ι v v':=by
 unfold ag at h;split at h
 ·rename_i a;cases hx with
  |ptr hl=>
   rename_i b o lc;simp only at h;split at h
   ·rename_i t' xk fz c d _ hg hd;obtain⟨o',hw,ho⟩:=hr.obs _ _ _ hg rfl hl;cases ha:bQ d with
    |true=>
     rw [ha] at h;simp only [cond_true] at h;obtain⟨n,e1,h1⟩:=R.ai h;split at h1
     ·rename_i vs hvs;simp only [R.ok.injEq] at h1;subst h1;obtain⟨vs',r,_,run⟩:=Ji ho hw hvs;refine⟨.agg vs'.toArray,?_,.agg (by simpa using r)⟩;simp only [Instr.loadAt,Instr.sureAddr,loadVar,Sem.run_bind,Sem.run_pure,Result.andThen_ok,pM ok hd,ha,if_true,b7 ok e1,run _ _ rfl]
     ·cases h1
    |false=>
     rw [ha] at h;simp only [cond_false] at h;split at h
     ·rename_i u hu;simp only [R.ok.injEq] at h;subst h;obtain⟨v',e,r⟩:=w4 ho hw hu;refine⟨v',?_,r⟩;simp only [Instr.loadAt,Instr.sureAddr,loadVar,Sem.run_bind,Sem.run_pure,Result.andThen_ok,pM ok hd,ha,qaI,if_false,xV e]
     ·cases h
   ·cases h
 ·cases h
variable {size cap:Nat} {x':Value}
theorem m8 (hr:Rel ι A w) {len:Nat} {a:Option Addr} (h:c9 A.get size n a= .ok vs) (hx:VR ι (.slice a len cap) x') (hn:n≤len):
 ∃a' cap' vs',x'= .slice a' len cap'∧dv ι vs vs'∧(∀b,a'=some b→∀P (w2:World),w2.heap=w.heap→(loadCells b (n*size)).run P w2= .ok vs'.toArray w2)∧(a'=none→vs'=[]∧a=none)∧
  (vs.length=n*size∨a=none):=by
 have fin:∀{b o o':Nat} {lc:Loc},ι b=some lc→(0<n→o'=o+lc.sh)→c9 A.get size n (some ⟨b,o,none⟩)= .ok vs→
  ∃vs',dv ι vs vs'∧(∀P (w2:World),w2.heap=w.heap→(loadCells ⟨lc.blk,o',none⟩ (n*size)).run P w2= .ok vs'.toArray w2)∧vs.length=n*size:=by
  intro b o o' lc hl ho h;unfold c9 at h;simp only at h;cases hb:qaw (n*size) 0 with
  |true=>
   have h0:=beq_true hb;rw [hb] at h;simp only [cond_true,R.ok.injEq] at h;subst h;exact⟨[],.nil,(fun P w2 _=>by rw [h0];rfl),by simp [h0]⟩
  |false=>
   have h0:=beq_false hb;rw [hb] at h;simp only [cond_false] at h;split at h
   ·rename_i t xk fz c _ hg;split at h
    ·rename_i l hlv;simp only [R.ok.injEq] at h;subst h;obtain⟨o1,hw,hor⟩:=hr.obs _ _ _ hg rfl hl;obtain⟨vs',r,hlen,run⟩:=Ji hor hw hlv;have hn0:0<n:=by
      rcases qeg n with h1|h1
      ·rw [h1,qcN] at h0;exact absurd rfl h0
      ·exact h1
     rw [ho hn0];exact⟨vs',r,run,(T.mz c _ _ _ hlv).1⟩
    ·cases h
   ·cases h
 cases hx with
 |slN=>
  simp only [c9,R.ok.injEq] at h;subst h;exact⟨none,0,[],rfl,.nil,(fun b hb=>by cases hb),fun _=>⟨rfl,rfl⟩,.inr rfl⟩
 |sl hl hk=>
  obtain⟨vs',h1,h3,h4⟩:=fin hl (fun _=>rfl) h;exact⟨_,_,vs',rfl,h1,(fun b hb P w2 hw2=>by cases hb;exact h3 P w2 hw2),(fun h=>by cases h),.inl h4⟩
 |slX hl hk hc hsz ho hb hlen=>
  obtain⟨vs',h1,h3,h4⟩:=fin hl (fun h0=>ho (by omega)) h;exact⟨_,_,vs',rfl,h1,(fun b hb P w2 hw2=>by cases hb;exact h3 P w2 hw2),(fun h=>by cases h),.inl h4⟩
theorem rG (P:Program) {why:String}:∀{vs vs':List Value} {l:List UInt8},bytesOf vs= .ok l→dv ι vs vs'→∀(s:ByteArray),
 (forIn vs' s fun c s=>(match c with
  |Value.int IntKind.u8 n=>pure (ForInStep.yield (s.push (qbD n.toNat)))
  |_=>do
   stuck why
   pure (ForInStep.yield s):Sem (ForInStep ByteArray))).run P w= .ok ⟨⟨s.data.toList++l⟩⟩ w
 | [],_,l,h,.nil,s=>by
  simp only [bytesOf,R.ok.injEq] at h;subst h;simp
 |v::vs,_,l,h,.cons hv ht,s=>by
  unfold bytesOf at h;split at h
  ·rename_i heq;cases heq
  ·rename_i n vs2 heq;simp only [qa4] at heq;obtain⟨rfl,rfl⟩:=heq;obtain⟨l',h1,h2⟩:=R.ai h;simp only [R.ok.injEq] at h2;subst h2;cases hv;rw [List.forIn_cons];simp only [Sem.run_bind,Sem.run_pure,Result.andThen_ok];rw [rG P h1 ht];congr 1;apply ByteArray.ext;apply qbT;show(s.push (qbD (qaW n).toNat)).data.toList++l'=_;simp [ByteArray.data_push]
  ·cases h
theorem vM (hr:Rel ι A w) {x:Value} (h:iB A.get x= .ok v) (hx:VR ι x x'):∀P,∃v',(Conv.bytesToString x').run P w= .ok v' w∧VR ι v v':=by
 intro P;unfold iB at h;split at h
 ·simp only [R.ok.injEq] at h;subst h;cases hx;exact⟨.string .empty,rfl,.string _⟩
 ·rename_i a len cap;obtain⟨vs,h1,h2⟩:=R.ai h;obtain⟨l,h3,h4⟩:=R.ai h2;simp only [R.ok.injEq] at h4;subst h4;obtain⟨a',cap',vs',e,r,run,hnone,_⟩:=m8 hr h1 hx (qao _);subst e;cases a' with
  |none=>have:=(hnone rfl).2;cases this
  |some b=>
   refine⟨aj l,?_,.string _⟩;have hrun:=run b rfl P w rfl;rw [qb2] at hrun;simp only [Conv.bytesToString,Sem.run_bind,hrun,Result.andThen_ok];rw [←Array.forIn_toList];refine(congrArg (fun r=>Result.andThen r (fun a w'=>Sem.run P (pure (Value.string a)) w')) (rG (w:=w) P h3 r .empty)).trans ?_;rfl
 ·cases h
theorem bytes_beq (x y:ByteArray):(x==y)=(x.data.toList==y.data.toList):=by
 cases x;cases y;rename_i a b;have:((⟨a⟩:ByteArray)==⟨b⟩)=(a==b):=rfl;rw [this];cases a;cases b;simp
theorem uD {k k' e e':Value} {b:Bool} (h:uC k e=some b) (hk:VR ι k k') (he:VR ι e e'):∀d,((∃x,d=TypeDesc.int x)∧(∃x y,k= .int x y)∨d= .string∧∃x,k= .string x)→
 Instr.sameNow d k' e'=some b:=by
 intro d hd;unfold uC at h;split at h
 ·cases hk;cases he;rename_i kk x kk' y;cases hkk:eD kk kk' with
  |false=>rw [hkk] at h;cases h
  |true=>
   rw [hkk] at h;simp only [cond_true,qaX] at h;subst h;obtain rfl:=mD hkk;rcases hd with⟨⟨_,rfl⟩,_⟩|⟨rfl,_,h⟩
   ·simp only [Instr.sameNow,if_true,lv]
   ·cases h
 ·cases hk;cases he;simp only [qaX] at h;subst h;rename_i x y;rcases hd with⟨_,_,_,h⟩|⟨rfl,_,h⟩
  ·cases h
  ·simp only [Instr.sameNow,di,bytes_beq]
 ·cases h
theorem fM {k k':Value} (hk:VR ι k k') {d:TypeDesc} (hd:(∃x,d=TypeDesc.int x)∧(∃x y,k= .int x y)∨d= .string∧∃x,k= .string x):
 ∀{es es':List MapEntry} {i:Nat} {r:Option (Nat×Value)},findF k es i=some r→wz ι es es'→
 (r=none∧Instr.findNow d k' es' i=some none)∨∃j v v',r=some (j,v)∧Instr.findNow d k' es' i=some (some (j,v'))∧VR ι v v'∧i≤j∧∃e',es'[j-i]?=some e'∧∃e,es[j-i]?=some e∧uC k e.key=some true
 | [],_,i,r,h,.nil=>by
  simp only [findF,qaX] at h;subst h;exact .inl ⟨rfl,rfl⟩
 |e::es,_,i,r,h,.cons hkk hb hv ht=>by
  rename_i e' es';unfold findF at h;split at h
  ·rename_i hq;simp only [qaX] at h;subst h;refine .inr ⟨i,e.val,e'.val,rfl,?_,hv,qao _,e',by simp,e,by simp,hq⟩;unfold Instr.findNow;rw [uD hq hk hkk d hd]
  ·rename_i hq;have hs:=uD hq hk hkk d hd;rcases fM hk hd h ht with⟨h1,h2⟩|⟨j,v,v',h1,h2,h3,h4,x',h5,x,h6,h7⟩
   ·refine .inl ⟨h1,?_⟩;unfold Instr.findNow;rw [hs];exact h2
   ·have hj:j-i=(j-(i+1))+1:=by simp only [qdA] at h4;omega
    refine .inr ⟨j,v,v',h1,?_,h3,by simp only [qdA] at h4;omega,x',by rw [hj];simpa using h5,x,by rw [hj];simpa using h6,h7⟩;unfold Instr.findNow;rw [hs];exact h2
  ·cases h
theorem ng {t:TypeId} {k:Value} (h:eQ tb t k=true):∃d,tb.ba t=some d∧((∃x,d=TypeDesc.int x)∧(∃x y,k= .int x y)∨d= .string∧∃x,k= .string x):=by
 unfold eQ at h;split at h
 ·rename_i x _ _ hd;exact⟨_,hd,.inl ⟨⟨_,rfl⟩,_,_,rfl⟩⟩
 ·rename_i x hd;exact⟨_,hd,.inr ⟨rfl,_,rfl⟩⟩
 ·cases h
include ok in
theorem jx {t:TypeId} {k k':Value} {d:TypeDesc} (hd:tb.ba t=some d) (hk:(∃x,d=TypeDesc.int x)∧(∃x y,k= .int x y)∨d= .string∧∃x,k= .string x) (hv:VR ι k k') (e:Bool) (w:World):
 (Instr.checkKey e 10000 t k').run tb.P w= .ok () w:=by
 rw [show(10000:Nat)=9999+1 from rfl,Instr.checkKey];simp only [Sem.run_bind,aD ok hd,Result.andThen_ok];rcases hk with⟨⟨_,rfl⟩,_,_,rfl⟩|⟨rfl,_,rfl⟩<;>cases hv<;>rfl
include ok in
theorem gL {t:TypeId} {k':Value} {d:TypeDesc} (hd:tb.ba t=some d) {es':List MapEntry} {r:Option (Nat×Value)} (h:Instr.findNow d k' es' 0=some r) (w:World):
 (Instr.findKey t k' es').run tb.P w= .ok r w:=by
 simp only [Instr.findKey,Sem.run_bind,aD ok hd,Result.andThen_ok,h,Sem.run_pure]
variable {r:Nat}
theorem cu {o:Obj} (h:w.heap[r]?=some o) (hc:∀c e f,o≠ .cells c e f) (P:Program):(getObj r).run P w= .ok o w:=by
 simp only [getObj,Sem.run,h]
variable {es:List MapEntry}
theorem oJ (hr:Rel ι A w) {x:Value} (h:iU A.get x= .ok es) (hx:VR ι x x'):
 ∃es':Array MapEntry,wz ι es es'.toList∧((x'= .map none∧es'= #[])∨∃r clock,x'= .map (some r)∧w.heap[r]?=some (.map es' clock)):=by
 unfold iU at h;split at h
 ·simp only [R.ok.injEq] at h;subst h;cases hx;exact⟨#[],.nil,.inl ⟨rfl,rfl⟩⟩
 ·rename_i b;split at h
  ·rename_i es0 clock hg;simp only [R.ok.injEq] at h;subst h;cases hx with
   |map hl=>
    obtain⟨o',hw,_,es',rfl,he⟩:=hr.obs _ _ _ hg rfl hl;exact⟨es',he,.inr ⟨_,clock,rfl,hw⟩⟩
  ·cases h
 ·cases h
include ok in
theorem zV (hr:Rel ι A w) {t:TypeId} {x x' k k' v:Value} {c:Bool} (h:fZ tb A.get t x k c= .ok v) (hx:VR ι x x') (hk:VR ι k k'):
 ∃v',(Instr.lookup t x' k' c).run tb.P w= .ok v' w∧VR ι v v':=by
 unfold fZ at h;split at h
 ·rename_i key elem hd;cases hko:eQ tb key k with
  |false=>rw [hko] at h;cases h
  |true=>
   rw [hko] at h;simp only [cond_true] at h;obtain⟨d,hkd,tc⟩:=ng hko;obtain⟨es,h1,h2⟩:=R.ai h;obtain⟨es',he,hes⟩:=oJ hr h1 hx;have hck:=jx ok hkd tc hk es'.isEmpty w;have fin:∀{z z':Value} {b:Bool},VR ι z z'→VR ι (bif c then Value.tuple ⟨[z,.bool b]⟩ else z) (if c then .tuple #[z',.bool b] else z'):=by
    intro z z' b hz;cases c with
    |false=>exact hz
    |true=>exact .tuple (.cons hz (.cons (.bool _) .nil))
   have run:∀{r:Option (Nat×Value)},Instr.findNow d k' es'.toList 0=some r→(Instr.lookup t x' k' c).run tb.P w=
    ((match(generalizing:=false) r with
     |some (_,v)=>pure (v,true)
     |none=>do pure (←zeroValue elem,false):Sem (Value×Bool)).run tb.P w).andThen fun p w=>.ok (if c then .tuple #[p.1,.bool p.2] else p.1) w:=by
    intro r hr;have fin:∀w:World,Sem.run tb.P (match(generalizing:=false) r with
     |some (_,v)=>do
      let x←pure (v,true)
      pure (if c=true then Value.tuple #[x.1,Value.bool x.2] else x.1)
     |none=>do
      let z←zeroValue elem;let x←pure (z,false)
      pure (if c=true then Value.tuple #[x.1,Value.bool x.2] else x.1)) w=
     ((match(generalizing:=false) r with
     |some (_,v)=>pure (v,true)
     |none=>do pure (←zeroValue elem,false):Sem (Value×Bool)).run tb.P w).andThen fun p w=>.ok (if c then .tuple #[p.1,.bool p.2] else p.1) w:=by
     intro w;cases r with
     |none=>
      simp only [Sem.run_bind,Sem.run_pure,Result.andThen_ok];cases (zeroValue elem).run tb.P w<;>rfl
     |some p=>rfl
    rcases hes with⟨rfl,rfl⟩|⟨r0,clock,rfl,hw⟩
    ·simp only [Instr.lookup,Sem.run_bind,aD ok hd,Result.andThen_ok,Sem.run_pure,hck,gL ok hkd hr];exact fin w
    ·simp only [Instr.lookup,Sem.run_bind,aD ok hd,Result.andThen_ok,Sem.run_pure,cu hw (by simp),hck,gL ok hkd hr];exact fin w
   split at h2
   ·rename_i u hf;simp only [R.ok.injEq] at h2;subst h2;rcases fM hk tc hf he with⟨h3,_⟩|⟨j,v0,v',h3,h4,h5,_⟩
    ·cases h3
    ·cases h3;refine⟨_,?_,fin h5⟩;rw [run h4];rfl
   ·rename_i hf;obtain⟨z,hz,h3⟩:=R.ai h2;simp only [R.ok.injEq] at h3;subst h3;obtain⟨_,_,_,hzv⟩:=iD hz;rcases fM hk tc hf he with⟨_,h4⟩|⟨j,v0,v',h3,_⟩
    ·refine⟨_,?_,fin (hzv ι)⟩;rw [run h4];simp only [Sem.run_bind,mT ok hz,Result.andThen_ok,Sem.run_pure]
    ·cases h3
   ·cases h2
 ·cases h
end
section
variable {tb:bO} (ok:cC tb) {ι:de} {A:Mem} {w:World}
theorem y7 {l:Loc} {cs:Array Value} {t:TypeId} {fr:Nat×Nat} (h:w.heap[l.blk]?=some (.cells cs t fr)):w.shape? l.blk=some (t,cs.size):=by
 simp only [World.shape?,h]
variable {b o:Nat}
theorem AP {s:Option Nat} {cs:Array Value} {t:TypeId} (h:w.heap[b]?=some (.cells cs t (0,0))):w.frozen? ⟨b,o,s⟩=false:=by
 simp only [World.frozen?,h];simp
theorem x7 {s:Option Nat} {x:TypeId×Nat} (h:w.shape? b=some x) (P:Program):(noView ⟨b,o,s⟩).run P w= .ok () w:=by
 simp only [noView,viewAt,Sem.run_bind,run_shape,h,qdF,if_true,Sem.run_pure,Result.andThen_ok,qbI,qaI,if_false]
variable {b':Nat}
theorem Dy {o':Nat} {cs cs':Array Value} {t t':TypeId} (h:w.heap[b]?=some (.cells cs t (0,0))) (h':w.heap[b']?=some (.cells cs' t' (0,0))) (hne:b≠b') (P:Program):
 (sameAddr ⟨b,o,none⟩ ⟨b',o',none⟩).run P w= .ok false w:=by
 have hbe:(b==b')=false:=by simpa using hne
 have s1:w.shape? b=some (t,cs.size):=by simp only [World.shape?,h]
 have s2:w.shape? b'=some (t',cs'.size):=by simp only [World.shape?,h']
 simp only [sameAddr,hbe,qaI,if_false,Sem.run_bind,run_frozen,AP h,AP h',Result.andThen_ok,Bool.and_self,x7 s1,x7 s2,mayBeOne,stringish,run_shape,s1,s2,Sem.run_pure,
  qdT,Bool.or_self]
theorem uK (hr:Rel ι A w) {a b a' b':Option Addr} {r:Bool} (h:ptrEq A.get a b= .ok r) (ha:VR ι (.pointer a) (.pointer a')) (hb:VR ι (.pointer b) (.pointer b')) (P:Program):
 (match a',b' with
  |none,b'=>pure b'.isNone
  |some _,none=>pure false
  |some a',some b'=>sameAddr a' b':Sem Bool).run P w= .ok r w:=by
 cases ha with
 |ptrN=>
  cases hb with
  |ptrN=>simp only [ptrEq,R.ok.injEq] at h;subst h;rfl
  |ptr hl=>simp only [ptrEq,R.ok.injEq] at h;subst h;rfl
 |ptr hl=>
  cases hb with
  |ptrN=>simp only [ptrEq,R.ok.injEq] at h;subst h;rfl
  |ptr hl'=>
   rename_i b o l b' o' l';simp only [ptrEq] at h;cases hbb:qaw b b' with
   |true=>
    obtain rfl:=beq_true hbb;rw [hl] at hl';cases hl';rw [hbb] at h;simp only [cond_true,R.ok.injEq] at h;subst h;simp only [sameAddr,beq_self_eq_true,if_true,Sem.run_pure];congr 1;rw [qbK];simp
   |false=>
    rw [hbb] at h;simp only [cond_false] at h;split at h
    ·rename_i t n fz c t' n' fz' c' hg hg';simp only [R.ok.injEq] at h;subst h;obtain⟨o1,hw1,cs1,fr1,rfl,_,_,_,_,rfl⟩:=hr.obs _ _ _ hg rfl hl;obtain⟨o2,hw2,cs2,fr2,rfl,_,_,_,_,rfl⟩:=hr.obs _ _ _ hg' rfl hl';exact Dy hw1 hw2 (fun he=>beq_false hbb (hr.inj _ _ _ _ ⟨_,hg,rfl⟩ ⟨_,hg',rfl⟩ hl hl' he)) P
    ·cases h
include ok in
theorem qk {eq:TypeId→Value→Value→R Bool} {m:TypeId→Value→Value→Sem Bool} (he:∀t x x' y y' r,eq t x y= .ok r→VR ι x x'→VR ι y y'→(m t x' y').run tb.P w= .ok r w) {xs ys:List Value} {xs' ys':Array Value}
 (hx:dv ι xs xs'.toList) (hy:dv ι ys ys'.toList):∀{fs:List Field} {r:Bool},iX tb eq xs ys fs= .ok r→
 (forIn fs ((none,()):Option Bool×Unit) fun f __s=>
  if f.name≠ "_" then do
   let __do_lift←part f.type xs' f.offset;let __do_lift_1←part f.type ys' f.offset;let __do_lift←m f.type __do_lift __do_lift_1
   if(!__do_lift)=true then pure (ForInStep.done (some false,())) else pure (ForInStep.yield (none,()))
  else(pure (ForInStep.yield (none,())):Sem (ForInStep (Option Bool×Unit)))).run tb.P w= .ok (if r then none else some false,()) w
 | [],r,h=>by simp only [iX,R.ok.injEq] at h;subst h;rfl
 |f::fs,r,h=>by
  unfold iX at h;cases hn:(f.name== "_") with
  |true=>rw [hn] at h;cases h
  |false=>
   rw [hn] at h;simp only [cond_false] at h;obtain⟨a,h1,h2⟩:=R.ai h;obtain⟨b,h3,h4⟩:=R.ai h2;obtain⟨q,h5,h6⟩:=R.ai h4;obtain⟨a',e1,r1⟩:=fT ok h1 hx;obtain⟨b',e2,r2⟩:=fT ok h3 hy;have e3:=he _ _ _ _ _ _ h5 r1 r2;have hn':f.name≠ "_" :=by simpa using hn
   rw [List.forIn_cons];simp only [Sem.run_bind,if_pos hn',e1,e2,e3,Result.andThen_ok];cases q with
   |true=>
    simp only [qcj,qaI,if_false,Sem.run_pure,Result.andThen_ok];exact qk (eq:=eq) he hx hy h6
   |false=>
    simp only [R.ok.injEq] at h6;subst h6;simp
include ok in
theorem rN {eq:TypeId→Value→Value→R Bool} {m:TypeId→Value→Value→Sem Bool} (he:∀t x x' y y' r,eq t x y= .ok r→VR ι x x'→VR ι y y'→(m t x' y').run tb.P w= .ok r w) {xs ys:List Value} {xs' ys':Array Value}
 (hx:dv ι xs xs'.toList) (hy:dv ι ys ys'.toList) {elem:TypeId} {size:Nat}:∀{n i:Nat} {r:Bool},rM tb eq elem size xs ys n i= .ok r→
 (forIn (qcF i n 1) ((none,()):Option Bool×Unit) fun i __s=>(do
  let __do_lift←part elem xs' (i*size);let __do_lift_1←part elem ys' (i*size);let __do_lift←m elem __do_lift __do_lift_1
  if(!__do_lift)=true then pure (ForInStep.done (some false,())) else pure (ForInStep.yield (none,())):Sem (ForInStep (Option Bool×Unit)))).run tb.P w= .ok (if r then none else some false,()) w
 |0,i,r,h=>by simp only [rM,R.ok.injEq] at h;subst h;rfl
 |n+1,i,r,h=>by
  unfold rM at h;obtain⟨a,h1,h2⟩:=R.ai h;obtain⟨b,h3,h4⟩:=R.ai h2;obtain⟨q,h5,h6⟩:=R.ai h4;obtain⟨a',e1,r1⟩:=fT ok h1 hx;obtain⟨b',e2,r2⟩:=fT ok h3 hy;have e3:=he _ _ _ _ _ _ h5 r1 r2;rw [List.range'_succ,List.forIn_cons];simp only [Sem.run_bind,e1,e2,e3,Result.andThen_ok];cases q with
  |true=>
   simp only [qcj,qaI,if_false,Sem.run_pure,Result.andThen_ok];exact rN (eq:=eq) he hx hy h6
  |false=>
   simp only [R.ok.injEq] at h6;subst h6;simp
include ok in
theorem m9 (hr:Rel ι A w):∀(d:Nat) {t:TypeId} {x x' y y':Value} {r:Bool},eC tb A.get d t x y= .ok r→VR ι x x'→VR ι y y'→∀e,d≤e→(Op.equalIn e t x' y').run tb.P w= .ok r w
 |0,t,x,x',y,y',r,h,_,_,_,_=>by cases h
 |d+1,t,x,x',y,y',r,h,hx,hy,e,hle=>by
  obtain⟨e,rfl⟩:∃e',e=e'+1:=⟨e-1,by omega⟩;have ih:∀{t x x' y y' r},eC tb A.get d t x y= .ok r→VR ι x x'→VR ι y y'→(Op.equalIn e t x' y').run tb.P w= .ok r w:=fun h hx hy=>m9 hr d h hx hy e (by omega)
  unfold eC at h;rw [Op.equalIn];split at h
  ·rename_i a b hd;cases hx;cases hy;simp only [R.ok.injEq] at h;subst h;simp only [Sem.run_bind,aD ok hd,Result.andThen_ok];cases a<;>cases b<;>rfl
  ·rename_i k0 k a k' b hd;cases hx;cases hy;cases hk:eD k k' with
   |false=>rw [hk] at h;cases h
   |true=>
    rw [hk] at h;simp only [cond_true,R.ok.injEq] at h;subst h;obtain rfl:=mD hk;simp only [Sem.run_bind,aD ok hd,Result.andThen_ok,if_true,Sem.run_pure,lv]
  ·rename_i a b hd;cases hx;cases hy;simp only [R.ok.injEq] at h;subst h;simp only [Sem.run_bind,aD ok hd,Result.andThen_ok,Sem.run_pure,di,bytes_beq]
  ·rename_i elem a b hd;obtain⟨n,h1,h2⟩:=R.ai h;simp only [Sem.run_bind,aD ok hd,Result.andThen_ok];have hx':∃a',x'= .pointer a':=by cases hx<;>exact⟨_,rfl⟩
   have hy':∃b',y'= .pointer b':=by cases hy<;>exact⟨_,rfl⟩
   obtain⟨a',rfl⟩:=hx';obtain⟨b',rfl⟩:=hy';split at h2
   ·rename_i a0 b0;cases hn:qaw n 0 with
    |true=>rw [hn] at h2;cases h2
    |false=>
     rw [hn] at h2;simp only [cond_false] at h2;have:=uK hr h2 hx hy tb.P;cases hx;cases hy;simp only [Sem.run_bind,b7 ok h1,Result.andThen_ok,if_pos (beq_false hn)];exact this
   ·have:=uK hr h2 hx hy tb.P;rename_i hne;cases hx with
    |ptrN=>exact this
    |ptr hl=>
     cases hy with
     |ptrN=>exact this
     |ptr hl'=>exact(hne _ _ rfl rfl).elim
  ·rename_i ms hd;cases hx;cases hy;simp only [R.ok.injEq] at h;subst h;simp only [Sem.run_bind,aD ok hd,Result.andThen_ok];rfl
  ·rename_i ms u z hd;cases hx;cases hy;simp only [R.ok.injEq] at h;subst h;simp only [Sem.run_bind,aD ok hd,Result.andThen_ok];rfl
  ·rename_i ms u z hd;cases hx;cases hy;simp only [R.ok.injEq] at h;subst h;simp only [Sem.run_bind,aD ok hd,Result.andThen_ok];rfl
  ·rename_i ms tx vx ty vy hd;cases hx with
   |iface hx=>
    cases hy with
    |iface hy=>
     simp only [Sem.run_bind,aD ok hd,Result.andThen_ok];cases hb:qaw tx ty with
     |true=>
      rw [hb] at h;simp only [cond_true] at h;obtain rfl:=beq_true hb;split at h
      ·rename_i i hi;cases hc:i.comparable with
       |false=>rw [hc] at h;cases h
       |true=>
        rw [hc] at h;simp only [cond_true] at h;simp only [ne_eq,not_true_eq_false,if_false,Sem.run_bind,fP ok hi,Result.andThen_ok,hc,qcj,qaI];exact ih h hx hy
      ·cases h
     |false=>
      rw [hb] at h;simp only [cond_false,R.ok.injEq] at h;subst h;simp only [ne_eq,if_pos (beq_false hb),Sem.run_pure]
  ·rename_i fs xs ys hd;cases hx with
   |agg hxs=>
    cases hy with
    |agg hys=>
     cases hs:tb.P.stoodInHeld t with
     |true=>rw [hs] at h;cases h
     |false=>
      rw [hs] at h;simp only [cond_false] at h;simp only [Sem.run_bind,aD ok hd,Result.andThen_ok,run_program,hs,qaI,if_false];rw [←Array.forIn_toList];have:=qk ok (m:=Op.equalIn e) (fun _ _ _ _ _ _ a b c=>ih a b c) hxs hys h;refine(congrArg (fun q=>Result.andThen q _) this).trans ?_;cases r<;>rfl
  ·rename_i len elem xs ys hd;cases hx with
   |agg hxs=>
    cases hy with
    |agg hys=>
     obtain⟨n,h1,h2⟩:=R.ai h;simp only [Sem.run_bind,aD ok hd,Result.andThen_ok,b7 ok h1];rw [Std.Legacy.Range.forIn_eq_forIn_range'];have:=rN ok (m:=Op.equalIn e) (fun _ _ _ _ _ _ a b c=>ih a b c) hxs hys h2;have hsz:Std.Legacy.Range.size [:len]=len:=by simp [Std.Legacy.Range.size]
     rw [hsz];refine(congrArg (fun q=>Result.andThen q _) this).trans ?_;cases r<;>rfl
  ·rename_i e0 l c b l' c' hd;cases hx;simp only [R.ok.injEq] at h;subst h;simp only [Sem.run_bind,aD ok hd,Result.andThen_ok];cases hy<;>rfl
  ·rename_i e0 a l c l' c' hd;cases hy;simp only [R.ok.injEq] at h;subst h;simp only [Sem.run_bind,aD ok hd,Result.andThen_ok];cases hx<;>rfl
  ·rename_i k0 e0 b hd;cases hx;simp only [R.ok.injEq] at h;subst h;simp only [Sem.run_bind,aD ok hd,Result.andThen_ok];cases hy<;>rfl
  ·rename_i k0 e0 a hd;cases hy;simp only [R.ok.injEq] at h;subst h;simp only [Sem.run_bind,aD ok hd,Result.andThen_ok];cases hx;rfl
  ·rename_i hd;cases hx;cases hy;simp only [R.ok.injEq] at h;subst h;simp only [Sem.run_bind,aD ok hd,Result.andThen_ok];rfl
  ·rename_i hd;cases hx;simp only [R.ok.injEq] at h;subst h;simp only [Sem.run_bind,aD ok hd,Result.andThen_ok];cases hy<;>rfl
  ·rename_i hd;cases hy;simp only [R.ok.injEq] at h;subst h;simp only [Sem.run_bind,aD ok hd,Result.andThen_ok];cases hx<;>rfl
  ·cases h
end
section
variable {tb:bO} (ok:cC tb) {ι:de} {A:Mem} {w:World}
variable {d:Nat} {x' y:Value}
theorem EA {g:Nat→Option Ob} {t:TypeId} {ox oy:Operand} {x y':Value} {r:Bool} (h:eC tb g d t x y= .ok r) (hb:lW (tb.ba t)=false) (hm:uv tb t ox oy x y=true)
 (hx:VR ι x x') (hy:VR ι y y'):(∀op,(eqGuard op t ox oy x' y').run tb.P w= .ok () w)∧binOp .eql t x' y'=(do pure (.bool (←Op.equal t x' y')))∧binOp .neq t x' y'=(do pure (.bool (!(←Op.equal t x' y')))):=by
 have plain:∀{a b:Value},(a= .nilIface→b= .nilIface→False)→(∀p q,a= .agg p→b= .agg q→False)→∀op,(eqGuard op t ox oy a b).run tb.P w= .ok () w:=by
  intro a b h1 h2 op;unfold eqGuard;cases op<;>first
   |rfl
   |(cases a<;>first
    |rfl
    |(cases b<;>first
     |rfl
     |exact(h1 rfl rfl).elim
     |exact(h2 _ _ rfl rfl).elim))
 have aggs:∀{a b:Array Value},tb.P.eqGuardType tb.P.depth t=false→∀op,(eqGuard op t ox oy (.agg a) (.agg b)).run tb.P w= .ok () w:=by
  intro a b he op;unfold eqGuard;cases op<;>first
   |rfl
   |(simp only [qcj,qaI,if_false,Sem.run_bind,run_program,Result.andThen_ok,he,qc1,if_true,Sem.run_pure])
 have nils:(oS ox||oS oy)=true→∀op,(eqGuard op t ox oy .nilIface .nilIface).run tb.P w= .ok () w:=by
  intro he op;unfold eqGuard;cases op<;>first
   |rfl
   |(cases ox<;>cases oy<;>first|rfl|(simp [oS] at he))
 cases d with
 |zero=>cases h
 |succ d=>
  unfold eC at h;split at h
  ·rename_i hd;rw [hd] at hb;cases hb
  ·rename_i hd;rw [hd] at hb;cases hb
  ·rename_i hd;rw [hd] at hb;cases hb
  ·cases hx<;>cases hy<;>exact⟨plain (by simp) (by simp),rfl,rfl⟩
  ·cases hx;cases hy;exact⟨nils hm,rfl,rfl⟩
  ·cases hx;cases hy;exact⟨plain (by simp) (by simp),rfl,rfl⟩
  ·cases hx;cases hy;exact⟨plain (by simp) (by simp),rfl,rfl⟩
  ·cases hx;cases hy;exact⟨plain (by simp) (by simp),rfl,rfl⟩
  ·cases hx;cases hy;exact⟨aggs (by simpa [uv] using hm),rfl,rfl⟩
  ·cases hx;cases hy;exact⟨aggs (by simpa [uv] using hm),rfl,rfl⟩
  ·cases hx;cases hy<;>exact⟨plain (by simp) (by simp),rfl,rfl⟩
  ·cases hy;cases hx<;>exact⟨plain (by simp) (by simp),rfl,rfl⟩
  ·cases hx;cases hy<;>exact⟨plain (by simp) (by simp),rfl,rfl⟩
  ·cases hy;cases hx;exact⟨plain (by simp) (by simp),rfl,rfl⟩
  ·cases hx;cases hy;exact⟨plain (by simp) (by simp),rfl,rfl⟩
  ·cases hx;cases hy<;>exact⟨plain (by simp) (by simp),rfl,rfl⟩
  ·cases hy;cases hx<;>exact⟨plain (by simp) (by simp),rfl,rfl⟩
  ·cases h
include ok in
theorem KZ (hr:Rel ι A w) {op:BinOp} {t:TypeId} {ox oy:Operand} {x x' y y' v:Value} (h:vY tb A.get op t ox oy x y= .ok v) (hb:lW (tb.ba t)=false) (hx:VR ι x x') (hy:VR ι y y'):
 ∃v',(do eqGuard op t ox oy x' y';binOp op t x' y':Sem Value).run tb.P w= .ok v' w∧VR ι v v':=by
 unfold vY at h;cases hm:uv tb t ox oy x y with
 |false=>rw [hm] at h;cases h
 |true=>
  rw [hm] at h;simp only [cond_true] at h;split at h
  ·obtain⟨r,h1,h2⟩:=R.ai h;simp only [R.ok.injEq] at h2;subst h2;obtain⟨hg,he,_⟩:=EA (w:=w) h1 hb hm hx hy;refine⟨.bool r,?_,.bool _⟩;have:=m9 ok hr 100 h1 hx hy 10000 (by omega);simp only [Sem.run_bind,hg,Result.andThen_ok,he,Op.equal,Op.maxDepth,this,Sem.run_pure]
  ·obtain⟨r,h1,h2⟩:=R.ai h;simp only [R.ok.injEq] at h2;subst h2;obtain⟨hg,_,he⟩:=EA (w:=w) h1 hb hm hx hy;refine⟨.bool (!r),?_,.bool _⟩;have:=m9 ok hr 100 h1 hx hy 10000 (by omega);simp only [Sem.run_bind,hg,Result.andThen_ok,he,Op.equal,Op.maxDepth,this,Sem.run_pure]
  ·cases h
variable {b o:Nat}
theorem y6 {x:TypeId×Nat} (h:w.shape? b=some x) (P:Program):(Conv.seenAt ⟨b,o,none⟩).run P w= .ok ⟨b,o,none⟩ w:=by
 simp only [Conv.seenAt,viewAt,Sem.run_bind,run_shape,h,qdF,if_true,Sem.run_pure,Result.andThen_ok]
include ok in
theorem CI (hr:Rel ι A w) {s d:TypeId} {x x' v:Value} (h:df tb A.get s d x= .ok v) (hx:VR ι x x'):∃v',(convert s d x').run tb.P w= .ok v' w∧VR ι v v':=by
 unfold df at h;split at h
 ·rename_i e hs hd;split at h
  ·rename_i he;obtain⟨v',e1,r⟩:=vM hr h hx tb.P;refine⟨v',?_,r⟩;have hsl:∃a n c,x'= .slice a n c:=by
    unfold iB at h;split at h
    ·cases hx;exact⟨_,_,_,rfl⟩
    ·cases hx<;>exact⟨_,_,_,rfl⟩
    ·cases h
   obtain⟨a,n,c,rfl⟩:=hsl;simp only [convert,Sem.run_bind,aD ok hs,aD ok hd,Result.andThen_ok,aD ok he];exact e1
  ·cases h
 ·rename_i ty a hs hd;cases hx with
  |ptr hl=>
   rename_i b o l;simp only at h;split at h
   ·rename_i t n fz c _ hg;obtain⟨sz,h1,h2⟩:=R.ai h;cases hc:qax o n&&qax 0 sz with
    |false=>rw [hc] at h2;cases h2
    |true=>
     rw [hc] at h2;simp only [cond_true,R.ok.injEq] at h2;subst h2;simp only [qaO] at hc;have hlt:=cS hc.1;have hsz:=cS hc.2;obtain⟨o1,hw1,cs1,fr1,rfl,hcs,_,hsh,hn,rfl⟩:=hr.obs _ _ _ hg rfl hl;have sh:=y7 hw1;refine⟨_,?_,.ptr hl⟩;have hno:¬cs1.size≤o+l.sh:=by omega
     have hsz':¬(sz=0):=by omega
     simp only [convert,Sem.run_bind,aD ok hs,aD ok hd,Result.andThen_ok,Conv.unsafePointer,y6 sh,cellsIn,run_shape,sh,Sem.run_pure,b7 ok h1,ge_iff_le,hno,decide_false,qdT,
      hsz',Bool.or_self,qaI,if_false]
   ·cases h
 ·rename_i ty a hs hd;cases hx with
  |ptr hl=>
   rename_i b o l;simp only at h;split at h
   ·rename_i t n fz c _ hg;obtain⟨sz,h1,h2⟩:=R.ai h;cases hc:liesAt tb.P tb.P.depth t (n/tb.P.cellsOf t) o ty 1 with
    |false=>rw [hc] at h2;cases h2
    |true=>
     rw [hc] at h2;simp only [cond_true,R.ok.injEq] at h2;subst h2;obtain⟨o1,hw1,cs1,fr1,rfl,hcs,_,hsh,hn,rfl⟩:=hr.obs _ _ _ hg rfl hl;have sh:=y7 hw1;refine⟨_,?_,.ptr hl⟩;have hlies:liesAt tb.P tb.P.depth t (cs1.size/tb.P.cellsOf t) (o+l.sh) ty 1=true:=by
      rw [hcs,hn,hsh];exact hc
     have hv:(variablesAt ⟨l.blk,o+l.sh,none⟩ ty 1).run tb.P w= .ok true w:=by
      simp only [variablesAt,Sem.run_bind,run_program,run_shape,sh,Result.andThen_ok,Sem.run_pure,hlies]
     simp only [convert,Sem.run_bind,aD ok hs,aD ok hd,Result.andThen_ok,Conv.unsafePointer,y6 sh,b7 ok h1,hv,Bool.or_true,if_true,Sem.run_pure]
   ·cases h
 ·cases h
variable {k:Nat} {v:Value}
theorem uA (hr:Rel ι A w) (h:Jk A.get k= .ok v):VR ι v (.pointer (some ⟨k,0,none⟩)):=by
 unfold Jk at h;split at h
 ·rename_i t fz c hg;cases hq:qaw fz (GB k) with
  |false=>rw [hq] at h;cases h
  |true=>
   rw [hq,cond_true] at h;simp only [R.ok.injEq] at h;subst h;obtain rfl:=qaL hq;obtain⟨l,hl,h1,h2,-⟩:=hr.gl _ _ _ _ hg;have:=VR.ptr (o:=0) hl;rw [h1,h2] at this;exact this
 ·cases h
include ok in
theorem Bq (hr:Rel ι A w) {n:Nat} {τ:T Value} {a:Act} {o:Oper} {v:Value} (h:nX tb τ A.get o.op= .ok v) (hc:cls tb o.op= .Rd) (ht:TR ι n τ a.tmps):
 ∃v',(execOp a.eval o).run tb.P w= .ok (.value v') w∧VR ι v v':=by
 have wrap:∀{s:Sem Value},(∃v',s.run tb.P w= .ok v' w∧VR ι v v')→∃v',(do pure (Next.value (←s)):Sem Next).run tb.P w= .ok (.value v') w∧VR ι v v':=by
  rintro s ⟨v',e,r⟩;exact⟨v',by simp only [Sem.run_bind,e,Result.andThen_ok,Sem.run_pure],r⟩
 unfold nX at h;split at h<;>rename_i hop<;>simp only [execOp,hop]
 ·split at h
  ·obtain⟨x,h1,h2⟩:=R.ai h;exact wrap (iY ok hr h2 (uA hr h1))
  ·obtain⟨x,h1,h2⟩:=R.ai h;exact wrap (iY ok hr h2 (aS h1 ht))
 ·split at h
  ·obtain⟨x,h1,h2⟩:=R.ai h;obtain⟨i,h3,h4⟩:=R.ai h2;obtain⟨v',e,r⟩:=mB ok h4 (uA hr h1) (aS h3 ht);exact wrap ⟨v',e w,r⟩
  ·cases h
 ·obtain⟨x,h1,h2⟩:=R.ai h;obtain⟨k,h3,h4⟩:=R.ai h2;exact wrap (zV ok hr h4 (aS h1 ht) (aS h3 ht))
 ·rename_i op ty x y yt;obtain⟨a',h1,h2⟩:=R.ai h;obtain⟨b',h3,h4⟩:=R.ai h2;have hb:lW (tb.ba ty)=false:=by
   rw [hop] at hc;simp only [cls] at hc;split at hc
   ·cases hbb:lW (tb.ba ty) with
    |false=>rfl
    |true=>rw [hbb] at hc;cases hc
   ·cases hbb:lW (tb.ba ty) with
    |false=>rfl
    |true=>rw [hbb] at hc;cases hc
   ·cases hc
  exact wrap (KZ ok hr h4 hb (aS h1 ht) (aS h3 ht))
 ·obtain⟨x,h1,h2⟩:=R.ai h;exact wrap (CI ok hr h2 (aS h1 ht))
 ·rename_i c;split at h
  ·rename_i hcal;obtain⟨args,h1,h2⟩:=R.ai h;have ha:=ik h1 ht;split at h2
   ·rename_i x xs;obtain⟨es,h3,h4⟩:=R.ai h2;simp only [R.ok.injEq] at h4;subst h4;obtain⟨x',t',e,hx,_⟩:=ha.cons_inv;obtain⟨es',he,hes⟩:=oJ hr h3 hx;have hmap:∃ty k e,c.argTypes[0]?=some ty∧tb.ba ty=some (.map k e):=by
     rw [hop] at hc;simp only [cls,hcal] at hc;split at hc
     ·rename_i t l hts;split at hc
      ·rename_i k e hd;exact⟨t,k,e,by rw [←qaU,hts];rfl,hd⟩
      ·cases hc
     ·cases hc
    obtain⟨ty,mk,me,hty,hd⟩:=hmap;have hx0:(c.args.map a.eval)[0]?=some x':=by
     rw [←qaU,Array.toList_map,e];rfl
    refine⟨_,?_,.int .i64 (.ofNat es.length)⟩;have hlen:es'.size=es.length:=by simpa using he.length
    simp only [resolve,hcal,Sem.run_bind,Sem.run_pure,Result.andThen_ok,invoke,builtin,Builtin.len_,hty,hx0,aD ok hd];rcases hes with⟨rfl,rfl⟩|⟨r,clock,rfl,hw⟩
    ·simp only [Sem.run_pure,Result.andThen_ok,←hlen];rfl
    ·simp only [Sem.run_bind,cu hw (by simp),Result.andThen_ok,Sem.run_pure,hlen];rfl
   ·cases h2
  ·cases h
 ·cases h
end
section
variable {tb:bO} (ok:cC tb) {ι:de}
def Made (P:Program) (ι:de) (ob:Ob) (way:Way) (s:Sem Value):Prop:=
 ∀w:World,∃(w':World) (v':Value) (o':Obj) (sz:Nat),s.run P w= .ok v' w'∧Wu w w' w.heap.size o'∧w'.heap.size=w.heap.size+1∧
  ∀ι' b,eK ι ι'→ι' b=some ⟨w.heap.size,0,sz⟩→OR ι' ob ⟨w.heap.size,0,sz⟩ o'∧VR ι' (way.at b) v'
theorem iF (w:World) (o:Obj) (d:Nat) (_:w.drawn≤d):Wu w {w with heap:=w.heap.push o,drawn:=d} w.heap.size o:=
 ⟨by simp,by simp,fun k hk _=>by simp [Array.getElem?_push,Nat.ne_of_lt hk],rfl,rfl,rfl⟩
variable {l:List Value} {b:Nat}
theorem yL {ι:de} {t:TypeId} {cs:Array Value} (h:dv ι l cs.toList):OR ι (aa t l) ⟨b,0,l.length⟩ (.cells cs t):=by
 have hl:=h.length;refine⟨cs,(0,0),rfl,by simpa using hl,fun i v hv=>?_,rfl,rfl,rfl⟩;rw [T.dW] at hv;by_cases hi:0≤i∧i<0+l.length
 ·rw [if_pos hi] at hv;obtain⟨v',e,r⟩:=h.get _ _ hv;exact⟨v',by rw [←qaU];simpa using e,r⟩
 ·rw [if_neg hi,T.lj] at hv;cases hv
variable {v v':Value}
theorem uF {P:Program} {ι:de} {t:TypeId} (h:VR ι v v'):Made P ι (aa t v.cells.toList) .ptr (do pure (.pointer (some (←newVar t v')))):=by
 intro w;refine⟨{w with heap:=w.heap.push (.cells v'.cells t),drawn:=w.drawn},.pointer (some ⟨w.heap.size,0,none⟩),.cells v'.cells t,v.cells.toList.length,?_,iF w _ _ (by simp),by simp,fun ι' b hi hb=>⟨yL (h.mono hi).cells,?_⟩⟩
 ·simp only [newVar,newRow,Sem.run_bind,run_newObj,Result.andThen_ok,Sem.run_pure]
 ·exact VR.ptr (o:=0) hb
theorem lR (zero:List Value):∀n,(qW zero n).length=n*zero.length
 |0=>by simp [qW]
 |n+1=>by simp [qW,lR zero n,qcl];omega
theorem Fv (zero:List Value) (hz:0<zero.length):∀(n i:Nat),i<n*zero.length→(qW zero n)[i]?=zero[i % zero.length]?
 |0,i,h=>by simp at h
 |n+1,i,h=>by
  rw [qcl,qcG] at h;simp only [qW];rcases qaZ i zero.length with h1|h1
  ·rw [qaJ h1,qbL h1]
  ·rw [qaF h1,Fv zero hz n _ (by omega),Nat.mod_eq_sub_mod h1]
theorem wj {zero:List Value} {zs:Array Value} (h:dv ι zero zs.toList) (n:Nat):dv ι (qW zero n) ((qdJ (n*zero.length)).map (zs[· % zs.size]!)).toList:=by
 have hl:zs.size=zero.length:=by simpa using h.length
 refine dv.yd (by simp [lR]) fun i v v' hv hv'=>?_
 have hi:i<n*zero.length:=by
  rcases qaZ i (n*zero.length) with h1|h1
  ·exact h1
  ·rw [qbc (by rw [lR];exact h1)] at hv;cases hv
 have hz:0<zero.length:=by
  rcases qeg zero.length with h1|h1
  ·rw [h1] at hi;simp at hi
  ·exact h1
 rw [Fv zero hz n i hi] at hv;obtain⟨u,e,r⟩:=h.get _ _ hv;have hm:i % zero.length<zs.size:=by rw [hl];exact qbE _ hz
 have:v'=u:=by
  simp only [Array.toList_map,Array.toList_range,qaN,qcZ hi,qa5,qaX] at hv';rw [←hv',hl,getElem!_pos zs _ hm];rw [qaU,qdk hm] at e;simpa using e
 rw [this];exact r
include ok in
theorem hY {t:TypeId} {n:Nat} {z:List Value} (h:cm tb t= .ok (n,z)):n=z.length∧(∀w:World,(sizeOf t).run tb.P w= .ok n w)∧∃zv:Value,(∀w:World,(zeroValue t).run tb.P w= .ok zv w)∧zv.cells.toList=z∧∀ι,dv ι z zv.cells.toList:=by
 unfold cm at h;obtain⟨zv,h1,h2⟩:=R.ai h;obtain⟨m,h3,h4⟩:=R.ai h2;cases hb:qaw zv.cells.toList.length m with
 |false=>rw [hb] at h4;cases h4
 |true=>
  rw [hb] at h4;simp only [cond_true,R.ok.injEq,qat] at h4;obtain⟨rfl,rfl⟩:=h4;obtain⟨_,_,_,hz⟩:=iD h1;exact⟨(beq_true hb).symm,b7 ok h3,zv,mT ok h1,rfl,fun ι=>(hz ι).cells⟩
include ok in
theorem tk {t:TypeId} {len:Nat} {parts parts':List (Nat×Value)} {ob:Ob} {way:Way} (h:a6 tb t len parts= .ok (ob,way)) (hp:Ui ι parts parts'):
 Made tb.P ι ob way (Instr.buildSlice t len parts'.toArray):=by
 unfold a6 at h;split at h
 ·rename_i elem hd;obtain⟨⟨n,zero⟩,h1,h2⟩:=R.ai h;obtain⟨hn,hsz,zv,hzr,hzc,hzv⟩:=hY ok h1;subst hn;simp only at h2;cases hb:qaq (len*zero.length) 16777216 with
  |false=>rw [hb] at h2;cases h2
  |true=>
   rw [hb] at h2;simp only [cond_true] at h2;have hle:=cR hb;split at h2
   ·rename_i cells hf;simp only [R.ok.injEq,qat] at h2;obtain⟨rfl,rfl⟩:=h2;intro w;have hrep:=wj (ι:=ι) (hzv ι) len;obtain⟨r',e,hr⟩:=k_ (pl':=fun i=>some (i*zero.length,zero.length)) (fun i x hx=>hx) hf hrep hp;refine⟨{w with heap:=w.heap.push (.cells r' elem),drawn:=w.drawn},.slice (some ⟨w.heap.size,0,none⟩) len len,.cells r' elem,cells.length,?_,iF w _ _ (by simp),by simp,fun ι' b hi hbb=>⟨yL (hr.mono hi),?_⟩⟩
    ·have hc0:∀f:Nat→Value,len*zero.length=0→(qdJ (len*zero.length)).map f=(qdJ (len*zero.length)).map (zv.cells[· % zv.cells.size]!):=by
      intro f h0;rw [h0];simp
     simp only [Instr.buildSlice,Sem.run_bind,aD ok hd,hsz,Result.andThen_ok,if_neg (by omega:¬len*zero.length>2^24)];by_cases h0:len*zero.length=0
     ·simp only [if_pos h0,Sem.run_bind,Sem.run_pure,Result.andThen_ok,hc0 _ h0,e,newRow,run_newObj]
     ·simp only [if_neg h0,Sem.run_bind,hzr,Sem.run_pure,Result.andThen_ok];simp only [e,newRow,Sem.run_bind,run_newObj,Result.andThen_ok,Sem.run_pure]
    ·have:=VR.sl (ι:=ι') (b:=b) (o:=0) (len:=len) (k:=2*len) hbb (iT _);rw [gp] at this;exact this
   ·cases h2
 ·cases h
include ok in
theorem vk {t:TypeId} {l l' c c':Value} {ob:Ob} {way:Way} (h:eE tb t l c= .ok (ob,way)) (hl:VR ι l l') (hc:VR ι c c'):Made tb.P ι ob way (Instr.makeSlice t l' c'):=by
 unfold eE at h;split at h
 ·rename_i elem hd;obtain⟨ln,h1,h2⟩:=R.ai h;obtain⟨cn,h3,h4⟩:=R.ai h2;obtain⟨⟨n,zero⟩,h5,h6⟩:=R.ai h4;obtain⟨k1,rfl,rfl⟩:=iA h1 hl;obtain⟨k2,rfl,rfl⟩:=iA h3 hc;obtain⟨hn,hsz,zv,hzr,hzc,hzv⟩:=hY ok h5;subst hn;simp only at h6;split at h6
  ·rename_i i hi;cases hb:(qaq ln cn&&qaq cn 1048576&&qaq i.bytes 1048576) with
   |false=>rw [hb] at h6;cases h6
   |true=>
    rw [hb] at h6;simp only [cond_true,R.ok.injEq,qat] at h6;obtain⟨rfl,rfl⟩:=h6;simp only [qaO] at hb;have b1:=cR hb.1.1;have b2:=cR hb.1.2;have b3:=cR hb.2;intro w;have hrep:=wj (ι:=ι) (hzv ι) cn;have w1:IntKind.i64.wrap (qaW ln)=qaW ln:=by
     refine lV ?_ ?_<;>simp only [IntKind.min,IntKind.max,IntKind.signed,IntKind.bits,if_true,qa2]<;>omega
    have w2:IntKind.i64.wrap (qaW cn)=qaW cn:=by
     refine lV ?_ ?_<;>simp only [IntKind.min,IntKind.max,IntKind.signed,IntKind.bits,if_true,qa2]<;>omega
    have hprod:i.bytes*cn≤1048576*1048576:=qdV b3 b2;have t1:(decide (qaW cn<0)||decide ((i.bytes:Int)*qaW cn>2^48)||decide (qaW ln<0)||decide (qaW ln>qaW cn))=false:=by
     have:(i.bytes:Int)*(cn:Int)=((i.bytes*cn:Nat):Int):=by push_cast;rfl
     simp only [qa2,qcH,decide_eq_false_iff_not,this];omega
    have tn:∀k:Nat,(qaW k).toNat=k:=fun _=>rfl
    refine⟨{w with heap:=w.heap.push (.cells ((qdJ (cn*zero.length)).map (zv.cells[· % zv.cells.size]!)) elem),drawn:=w.drawn},.slice (some ⟨w.heap.size,0,none⟩) ln cn,_,(qW zero cn).length,?_,iF w _ _ (by simp),by simp,
     fun ι' b hi hbb=>⟨yL (hrep.mono hi),?_⟩⟩
    ·have hc0:∀f:Nat→Value,cn*zero.length=0→(qdJ (cn*zero.length)).map f=(qdJ (cn*zero.length)).map (zv.cells[· % zv.cells.size]!):=by
      intro f h0;rw [h0];simp
     simp only [Instr.makeSlice,Sem.run_bind,aD ok hd,Result.andThen_ok,asInt,asIntOf,Sem.run_pure,fP ok hi,w1,w2,t1,qaI,if_false,tn,run_askRoom,hsz];by_cases h0:cn*zero.length=0
     ·simp only [if_pos h0,Sem.run_bind,Sem.run_pure,Result.andThen_ok,hc0 _ h0,newRow,run_newObj]
     ·simp only [if_neg h0,Sem.run_bind,hzr,Sem.run_pure,Result.andThen_ok,newRow,run_newObj]
    ·have:=VR.sl (ι:=ι') (b:=b) (o:=0) (len:=ln) (k:=2*cn) hbb (iT _);rw [gp] at this;exact this
  ·cases h6
 ·cases h
theorem qq {α:Type} (f:α→α) (x:α):∀l:List α,(l++[x]).modify l.length f=l++[f x]
 | []=>rfl
 |y::l=>by
  show y::(l++[x]).modify l.length f=_;rw [qq f x l];rfl
theorem KN (s:ByteArray) (extra:Nat):∀(i:Nat) (v:Value),(s.data.toList.map eo)[i]?=some v→∃v',((s.data.map fun b=>Value.int .u8 b.toNat)++qb9 extra (Value.int .u8 0))[i]?=some v'∧VR ι v v':=by
 intro i v h;rw [qaN] at h;cases hb:s.data.toList[i]? with
 |none=>rw [hb] at h;cases h
 |some b=>
  rw [hb] at h;simp only [qa5,qaX] at h;subst h;have hi:i<s.data.size:=by
   rcases qaZ i s.data.size with h1|h1
   ·exact h1
   ·rw [qbc (by simpa using h1)] at hb;cases hb
  refine⟨.int .u8 (.ofNat b.toNat),?_,.int _ _⟩;rw [qcr (by simpa using hi),Array.getElem?_map];rw [qaU] at hb;rw [hb];rfl
include ok in
theorem z7 {s d:TypeId} {x x':Value} {ob:Ob} {way:Way} (h:ku tb s d x= .ok (ob,way)) (hx:VR ι x x'):Made tb.P ι ob way (convert s d x'):=by
 unfold ku at h;split at h
 ·rename_i e s hs hd;cases hx;split at h
  ·rename_i he;cases hb:qax s.data.toList.length 4294967296 with
   |false=>rw [hb] at h;cases h
   |true=>
    rw [hb] at h;simp only [cond_true,R.ok.injEq,qat] at h;obtain⟨rfl,rfl⟩:=h;have hlt:=cS hb;intro w;have hs':=size_data s;let cap:=(Question.appendCap s.size 0 e).cut (w.tape w.drawn (.appendCap s.size 0 e));have hcap:s.size≤cap∧cap<2^63:=by
     show s.size≤s.size+_ % (2^63-s.size)∧s.size+_ % (2^63-s.size)<2^63;have:w.tape w.drawn (.appendCap s.size 0 e) % (2^63-s.size)<2^63-s.size:=qbE _ (by omega);omega
    let cs:=(s.data.map fun b=>Value.int .u8 b.toNat)++qb9 (cap-s.size) (Value.int .u8 0);have hcs:cs.size=cap:=by
     simp only [cs,Array.size_append,Array.size_map,Array.size_replicate];have:s.data.size=s.size:=rfl;omega
    refine⟨{w with heap:=w.heap.push (.cells cs e (cap,cap+1)),drawn:=w.drawn+1},.slice (some ⟨w.heap.size,0,none⟩) s.size cap,.cells cs e (cap,cap+1),cap,?_,iF w _ _ (by simp),by simp,fun ι' b hi hbb=>⟨⟨cs,(cap,cap+1),rfl,hcs,fun i v hv=>?_,fun i hi=>by simp only at hi⊢;omega⟩,?_⟩⟩
    ·have hfr:(freeze ⟨w.heap.size,cs.size,none⟩ 1).run tb.P {w with heap:=w.heap.push (.cells cs e),drawn:=w.drawn+1}= .ok () {w with heap:=w.heap.push (.cells cs e (cap,cap+1)),drawn:=w.drawn+1}:=by
      rw [run_freeze];simp only [World.freeze,Nat.one_ne_zero,if_false,hcs];congr 2;apply qbT;rw [Array.toList_modify,Array.toList_push,Array.toList_push];have:=qq (fun o=>match o with
       | .cells c elem (lo,hi)=>Obj.cells c elem (if lo==hi then(cap,cap+1) else(min lo cap,max hi (cap+1)))
       |o=>o) (Obj.cells cs e) w.heap.toList
      exact this
     have hsh:({w with heap:=w.heap.push (Obj.cells cs e),drawn:=w.drawn+1}:World).shape? w.heap.size=some (e,cs.size):=by
      simp [World.shape?]
     simp only [convert,Sem.run_bind,aD ok hs,aD ok hd,aD ok he,Result.andThen_ok,Conv.stringToBytes,run_choose,Question.forced,qaI,if_false,newRow,run_newObj,Sem.run_pure];have hm:(markStringish ⟨w.heap.size,0,none⟩).run tb.P {w with heap:=w.heap.push (.cells cs e),drawn:=w.drawn+1}= .ok () {w with heap:=w.heap.push (.cells cs e (cap,cap+1)),drawn:=w.drawn+1}:=by
      simp only [markStringish,Sem.run_bind,run_shape,hsh,Result.andThen_ok];exact hfr
     refine(congrArg (fun r=>Result.andThen r _) hm).trans ?_;rfl
    ·rw [T.dW] at hv;by_cases hi:0≤i∧i<0+(s.data.toList.map eo).length
     ·rw [if_pos hi] at hv;obtain⟨v',e1,r⟩:=KN (ι:=ι') s (cap-s.size) _ _ hv;exact⟨v',by simpa using e1,r⟩
     ·rw [if_neg hi,T.lj] at hv;cases hv
    ·have he1:(1:Nat)<65536:=by omega
     have:=VR.slX (ι:=ι') (b:=b) (o:=0) (o':=0) (len:=s.data.toList.length) (k:=fQ s.data.toList.length 1) (cap':=cap) hbb (cX _ _) (by rw [cD he1];omega) (by rw [c7 he1];simp)
      (fun _=>rfl) hcap.2 (by rw [cD he1];omega)
     rw [←hs'] at this;rw [hs'] at this⊢;exact this
  ·cases h
 ·cases h
include ok in
theorem zW {t:TypeId} {r r':Option Value} {ob:Ob} {way:Way} (h:gB tb t r= .ok (ob,way)) (hr:MQ ι r r'):Made tb.P ι ob way (Instr.makeMap t r'):=by
 have fin:∀w:World,∃(w':World) (v':Value) (o':Obj) (sz:Nat),(do pure (Value.map (some (←newObj (.map #[] 0)))):Sem Value).run tb.P w= .ok v' w'∧Wu w w' w.heap.size o'∧w'.heap.size=w.heap.size+1∧
  ∀ι' b,eK ι ι'→ι' b=some ⟨w.heap.size,0,sz⟩→OR ι' (.map [] 0) ⟨w.heap.size,0,sz⟩ o'∧VR ι' (Way.mp.at b) v':=by
  intro w;refine⟨{w with heap:=w.heap.push (.map #[] 0),drawn:=w.drawn},.map (some w.heap.size),.map #[] 0,0,?_,iF w _ _ (by simp),by simp,fun ι' b hi hb=>⟨⟨rfl, #[],rfl,.nil⟩,VR.map hb⟩⟩
  simp only [Sem.run_bind,run_newObj,Result.andThen_ok,Sem.run_pure]
 unfold gB at h;cases hr with
 |none=>
  simp only [R.ok.injEq,qat] at h;obtain⟨rfl,rfl⟩:=h;exact fin
 |some hv=>
  simp only at h;split at h
  ·rename_i k e kd n hd;simp only [R.ok.injEq,qat] at h;obtain⟨rfl,rfl⟩:=h;cases hv;intro w;obtain⟨w',v',o',sz,h1,h2⟩:=fin w;refine⟨w',v',o',sz,?_,h2⟩;simp only [Instr.makeMap,Sem.run_bind,aD ok hd,Result.andThen_ok,asInt,asIntOf,Sem.run_pure];simpa only [Sem.run_bind,Sem.run_pure] using h1
  ·cases h
include ok in
theorem MS {n:Nat} {τ:T Value} {a:Act} {o:Oper} {ob:Ob} {way:Way} (h:DW tb τ o.op= .ok (ob,way)) (ht:TR ι n τ a.tmps):
 ∃s,Made tb.P ι ob way s∧execOp a.eval o=(do pure (Next.value (←s))):=by
 unfold DW at h;split at h<;>rename_i hop<;>simp only [execOp,hop]
 ·rename_i e;obtain⟨z,hz,h1⟩:=R.ai h;simp only [R.ok.injEq,qat] at h1;obtain⟨rfl,rfl⟩:=h1;obtain⟨_,_,_,hzv⟩:=iD hz;refine⟨_,?_,rfl⟩;intro w;obtain⟨w',v',o',sz,h1,h2⟩:=uF (P:=tb.P) (t:=e) (hzv ι) w;refine⟨w',v',o',sz,?_,h2⟩;simp only [Instr.alloc,Sem.run_bind,mT ok hz,Result.andThen_ok];simpa only [Sem.run_bind] using h1
 ·obtain⟨x,h1,h2⟩:=R.ai h;simp only [R.ok.injEq,qat] at h2;obtain⟨rfl,rfl⟩:=h2;exact⟨_,uF (aS h1 ht),rfl⟩
 ·rename_i ty len ps;obtain⟨vs,h1,h2⟩:=R.ai h;have:=tk ok h2 (tC h1 ht);refine⟨_,this,?_⟩;have e:(ps.toList.map fun(i,x)=>(i,a.eval x)).toArray=ps.map fun(i,x)=>(i,a.eval x):=by
   apply qbT;simp
  rw [e]
 ·obtain⟨r,h1,h2⟩:=R.ai h;exact⟨_,zW ok h2 (pB h1 ht),rfl⟩
 ·obtain⟨l,h1,h2⟩:=R.ai h;obtain⟨c,h3,h4⟩:=R.ai h2;exact⟨_,vk ok h4 (aS h1 ht) (aS h3 ht),rfl⟩
 ·obtain⟨x,h1,h2⟩:=R.ai h;exact⟨_,z7 ok h2 (aS h1 ht),rfl⟩
 ·cases h
variable {k:Nat}
theorem R.Df {α:Type} {b:Bool} {x:R α} {r:α} (h:(bif b then x else .no k)= .ok r):x= .ok r:=by
 cases b with
 |false=>cases h
 |true=>exact h
variable {ob:Ob}
theorem GA {τ:T Value} {o:Op} {way:Way} (h:DW tb τ o= .ok (ob,way)):∀t k c,ob≠ .cells t .row (GB k) c:=by
 intro t k c he;subst he;unfold DW at h;split at h
 ·obtain⟨_,_,h2⟩:=R.ai h;simp only [R.ok.injEq,qat,aa] at h2;cases h2.1
 ·obtain⟨_,_,h2⟩:=R.ai h;simp only [R.ok.injEq,qat,aa] at h2;cases h2.1
 ·obtain⟨_,_,h2⟩:=R.ai h;unfold a6 at h2;split at h2
  ·obtain⟨⟨_,_⟩,_,h3⟩:=R.ai h2;have h3:=R.Df h3;split at h3
   ·simp only [R.ok.injEq,qat,aa] at h3;cases h3.1
   ·cases h3
  ·cases h2
 ·obtain⟨_,_,h2⟩:=R.ai h;unfold gB at h2;split at h2
  ·simp only [R.ok.injEq,qat] at h2;cases h2.1
  ·split at h2
   ·simp only [R.ok.injEq,qat] at h2;cases h2.1
   ·cases h2
 ·obtain⟨_,_,h2⟩:=R.ai h;obtain⟨_,_,h3⟩:=R.ai h2;unfold eE at h3;split at h3
  ·obtain⟨_,_,h4⟩:=R.ai h3;obtain⟨_,_,h5⟩:=R.ai h4;obtain⟨⟨_,_⟩,_,h6⟩:=R.ai h5;simp only at h6;split at h6
   ·have h6:=R.Df h6;simp only [R.ok.injEq,qat,aa] at h6;cases h6.1
   ·cases h6
  ·cases h3
 ·obtain⟨_,_,h2⟩:=R.ai h;unfold ku at h2;split at h2
  ·split at h2
   ·have h2:=R.Df h2;simp only [R.ok.injEq,qat] at h2;cases h2.1
   ·cases h2
  ·cases h2
 ·cases h
include ok in
theorem Ad {A:Mem} {w:World} (hr:Rel ι A w) {n:Nat} {τ:T Value} {a:Act} {o:Oper} {ob:Ob} {way:Way} (h:DW tb τ o.op= .ok (ob,way)) (ht:TR ι n τ a.tmps) (hf:ι A.next=none):
 ∃ι' w' v',(execOp a.eval o).run tb.P w= .ok (.value v') w'∧VR ι' (way.at A.next) v'∧Rel ι' (A.alloc ob) w'∧eH ι A w ι' (A.alloc ob) w':=by
 obtain⟨s,hm,he⟩:=MS ok h ht;obtain⟨w',v',o',sz,h1,h2,h3,h4⟩:=hm w;obtain⟨ι',e,hrel,hst⟩:=Rel.CG (ob:=ob) hr hf (GA h) h2 h3 (fun ι' hi hb=>(h4 ι' A.next hi hb).1);have hle:eK ι ι':=hst.le fun b h1 h2=>by
  rw [ae] at h2;have:b=A.next:=by omega
  rw [this];exact hf
 refine⟨ι',w',v',?_,(h4 ι' A.next hle e).2,hrel,hst⟩;rw [he];simp only [Sem.run_bind,h1,Result.andThen_ok,Sem.run_pure]
end
section
variable {tb:bO} (ok:cC tb) {ι:de}
theorem HT (v:Value):v.oneCell'=aJ v:=by cases v<;>rfl
variable {b o:Nat} {v:Value}
theorem Ir {w:World} {cs:Array Value} {t:TypeId} {fr:Nat×Nat} (h:w.heap[b]?=some (.cells cs t fr)):
 Wu w (w.setCell ⟨b,o,none⟩ v) b (.cells (cs.setIfInBounds o v) t fr)∧(w.setCell ⟨b,o,none⟩ v).heap.size=w.heap.size:=by
 refine⟨⟨?_,?_,fun k hk hne=>?_,rfl,rfl,rfl⟩,?_⟩
 ·simp [World.setCell]
 ·simp [World.setCell,qdS,h]
 ·simp [World.setCell,qdS,Ne.symm hne]
 ·simp [World.setCell]
variable {c:Nat}
theorem Wu.trans {w w1 w2:World} {o1 o2:Obj} (h:Wu w w1 c o1) (hs:w1.heap.size=w.heap.size) (k:Wu w1 w2 c o2):Wu w w2 c o2:=
 ⟨qaV h.size k.size,k.at_,fun x hx hne=>(k.ne x (by omega) hne).trans (h.ne x hx hne),k.os.trans h.os,k.tape.trans h.tape,k.output.trans h.output⟩
theorem ki (P:Program) {t:TypeId} {fr:Nat×Nat}:∀(vs:List Value) (w:World) (o i:Nat) (cs:Array Value),w.heap[b]?=some (.cells cs t fr)→
 (∀v∈vs,aJ v=true)→(∀j,j<vs.length→o+i+j<cs.size∧¬(fr.1≤o+i+j∧o+i+j<fr.2))→
 ∃w' cs',(storeCells ⟨b,o,none⟩ vs i).run P w= .ok () w'∧Wu w w' b (.cells cs' t fr)∧w'.heap.size=w.heap.size∧cs'.size=cs.size∧
  ∀j,cs'[j]?=if o+i≤j∧j<o+i+vs.length then vs[j-(o+i)]? else cs[j]?
 | [],w,o,i,cs,h,_,_=>by
  refine⟨w,cs,rfl,⟨qao _,h,fun _ _ _=>rfl,rfl,rfl,rfl⟩,rfl,rfl,fun j=>?_⟩;rw [if_neg];simp only [qaT];omega
 |v::vs,w,o,i,cs,h,h1,hf=>by
  have hv:v.oneCell'=true:=by rw [HT];exact h1 v (by simp)
  obtain⟨hb,hnf⟩:=hf 0 (by simp);obtain⟨hw,hsz⟩:=Ir (o:=o+i) (v:=v) h;have hcell:w.cell? ⟨b,o+i,none⟩=some cs[o+i]:=by
   simp only [World.cell?,h,qbI,qaI,if_false];exact qdk (by omega)
  have hfz:w.frozen? ⟨b,o+i,none⟩=false:=by
   simp only [World.frozen?,h];cases hq:(decide (fr.1≤o+i)&&decide (o+i<fr.2)) with
   |false=>rfl
   |true=>simp only [qaO,decide_eq_true_eq] at hq;exact absurd hq hnf
  have hst:(store ⟨b,o+i,none⟩ v).run P w= .ok () (w.setCell ⟨b,o+i,none⟩ v):=by
   rw [run_store P w _ v .plain hv,hcell];simp [hfz]
  obtain⟨w',cs',r1,r2,r3,r4,r5⟩:=ki P vs (w.setCell ⟨b,o+i,none⟩ v) o (i+1) (cs.setIfInBounds (o+i) v) hw.at_ (fun x hx=>h1 x (by simp [hx]))
   (fun j hj=>by
    have:=hf (j+1) (by simpa using hj);simp only [Array.size_setIfInBounds];rw [show o+(i+1)+j=o+i+(j+1) by omega];exact this)
  refine⟨w',cs',?_,hw.trans hsz r2,by omega,by simpa using r4,fun j=>?_⟩
  ·simp only [storeCells,Sem.run_bind,cH,hst,Result.andThen_ok];exact r1
  ·rw [r5 j];simp only [qaA];by_cases hj:o+(i+1)≤j∧j<o+(i+1)+vs.length
   ·rw [if_pos hj,if_pos (by omega)];rw [show j-(o+i)=(j-(o+(i+1)))+1 by omega];simp
   ·rw [if_neg hj];by_cases hj2:j=o+i
    ·subst hj2;rw [if_pos (by omega)];have hb':o+i<cs.size:=hb;simp [hb']
    ·rw [if_neg (by omega),qdB (Ne.symm hj2)]
variable {m:Nat}
theorem sT {fz:Nat}:∀{vs:List Value} {i:Nat} {c c':T Value},eJ m fz vs i c= .ok c'→
 (∀v∈vs,aJ v=true)∧(vs≠ []→fz≤i)∧(∀j,j<vs.length→(∃x,c.get (i+j)=some x)∨i+j<m)∧∀j,c'.get j=if i≤j∧j<i+vs.length then vs[j-i]? else c.get j
 | [],i,c,c',h=>by
  simp only [eJ,R.ok.injEq] at h;subst h;refine⟨by simp,by simp,by simp,fun j=>?_⟩;rw [if_neg];simp only [qaT];omega
 |v::vs,i,c,c',h=>by
  unfold eJ at h;cases hb:(aJ v&&qaq fz i) with
  |false=>rw [hb] at h;cases h
  |true=>
   rw [hb] at h;simp only [cond_true] at h;simp only [qaO] at hb;have key:((∃x,c.get i=some x)∨i<m)∧eJ m fz vs (qdi i) (c.set i v)= .ok c':=by
    split at h
    ·rename_i x hx;exact⟨.inl ⟨x,hx⟩,h⟩
    ·cases hm:qax i m with
     |false=>rw [hm] at h;cases h
     |true=>rw [hm] at h;rw [qaH] at hm;exact⟨.inr hm,h⟩
   clear h;obtain⟨hx,h⟩:=key
   ·obtain⟨h1,h2,h3,h4⟩:=sT h;refine⟨?_,fun _=>cR hb.2,fun j hj=>?_,fun j=>?_⟩
    ·intro u hu;rcases qaK.1 hu with rfl|hu
     ·exact hb.1
     ·exact h1 u hu
    ·cases j with
     |zero=>exact hx
     |succ j=>
      rw [show i+(j+1)=qdi i+j by simp only [qdA];omega];rcases h3 j (by simpa using hj) with⟨y,hy⟩|hy
      case inr=>exact .inr hy
      rw [T.aH] at hy;by_cases he:qdi i+j=i
      ·simp only [qdA] at he;omega
      ·rw [if_neg he] at hy;exact .inl ⟨y,hy⟩
    ·rw [h4 j];simp only [qdA,qaA];by_cases hj:i+1≤j∧j<i+1+vs.length
     ·rw [if_pos hj,if_pos (by omega),show j-i=(j-(i+1))+1 by omega];simp
     ·rw [if_neg hj,T.aH];by_cases hj2:j=i
      ·subst hj2;rw [if_pos rfl,if_pos (by omega)];simp
      ·rw [if_neg hj2,if_neg (by omega)]
theorem dv.Cb:∀{l l':List Value},dv ι l l'→(∀v∈l,aJ v=true)→∀v∈l',aJ v=true
 |_,_,.nil,_,v,hv=>by cases hv
 |_,_,.cons h ht,h1,v,hv=>by
  rcases qaK.1 hv with rfl|hv
  ·exact h.one (h1 _ (by simp))
  ·exact ht.Cb (fun x hx=>h1 x (by simp [hx])) v hv
variable {i:Nat}
theorem Gf {x : Kd} {fz : Nat} {l : Loc} {fr : Nat × Nat} (h : match x with
      | .var n => l.sh = 0 ∧ l.sz = n ∧ fr = (0, 0)
      | .row => fr.2 ≤ l.sh + fz
      | .mark => ∀ i, i < l.sz → ¬ (fr.1 ≤ i ∧ i < fr.2)
      | .room n => fr.2 ≤ l.sh + fz ∧ l.sh + n ≤ l.sz) (hi : fz ≤ i) (hz : i + l.sh < l.sz) : ¬ (fr.1 ≤ i + l.sh ∧ i + l.sh < fr.2) := by
  cases x with
  | var n => obtain ⟨_, _, rfl⟩ := h; simp
  | row => simp only at h; omega
  | mark => exact h _ hz
  | room n => simp only at h; omega
variable {A A':Mem} {vs:List Value}
theorem fj {w:World} (hr:Rel ι A w) {l:Loc} (hl:ι b=some l) {vs':List Value} (h:dc A ⟨b,o,none⟩ vs= .ok A') (hv:dv ι vs vs') (P:Program):
 ∃w',(storeCells ⟨l.blk,o+l.sh,none⟩ vs').run P w= .ok () w'∧Rel ι A' w'∧eH ι A w ι A' w':=by
 unfold dc at h;split at h
 ·simp only [R.ok.injEq] at h;subst h;cases hv;exact⟨w,rfl,hr,eH.refl ι A w⟩
 ·rename_i hne;split at h
  ·rename_i t x fz c _ hg;obtain⟨c',h1,h2⟩:=R.ai h;simp only [R.ok.injEq] at h2;subst h2;simp only at h1 hg;obtain⟨o1,hw,cs,fr,rfl,hcs,hcell,hfr⟩:=hr.obs _ _ _ hg rfl hl;obtain⟨g1,g2,g3,g4⟩:=sT h1;have hlen:=hv.length;have hin:∀j,j<vs.length→o+j+l.sh<cs.size:=by
    intro j hj;rcases g3 j hj with⟨y,hy⟩|hy
    case inr=>
     cases x with
     |room n=>
      simp only at hfr;have hy:o+j<n:=hy;omega
     |_=>exact absurd hy (qdD _)
    obtain⟨y',e,_⟩:=hcell _ _ hy;rcases qaZ (o+j+l.sh) cs.size with h|h
    ·exact h
    ·rw [Array.getElem?_eq_none h] at e;cases e
   obtain⟨w',cs',r1,r2,r3,r4,r5⟩:=ki P vs' w (o+l.sh) 0 cs hw (hv.Cb g1) (fun j hj=>by
    have hb:=hin j (by omega);rw [show o+l.sh+0+j=o+j+l.sh by omega];exact⟨hb,Gf hfr (by have:=g2 hne;omega) (by omega)⟩)
   refine⟨w',r1,?_⟩;refine hr.zn (ob:=.cells t x fz c') hg rfl hl (hgl:=fun _ _ _ h=>by cases h;exact⟨_,_,rfl⟩) (hns:=eh hg fun t2 fz2 c2 e=>by cases e;exact .inr (by have h1:=g2 hne;have h2:=hin 0 (by cases vs with|nil=>exact absurd rfl hne|cons _ _=>simp);omega)) r2 r3 ⟨cs',fr,rfl,by omega,fun i v hi=>?_,hfr⟩;rw [g4 i] at hi;rw [r5];by_cases hii:o≤i∧i<o+vs.length
   ·rw [if_pos hii] at hi;obtain⟨v',e,r⟩:=hv.get _ _ hi;refine⟨v',?_,r⟩;rw [if_pos (by omega),show i+l.sh-(o+l.sh+0)=i-o by omega];exact e
   ·rw [if_neg hii] at hi;obtain⟨v',e,r⟩:=hcell _ _ hi;refine⟨v',?_,r⟩;rw [if_neg (by omega)];exact e
  ·cases h
include ok in
theorem DH {A A':Mem} {w:World} (hr:Rel ι A w) {t:TypeId} {x x' v v':Value} (h:aW tb A t x v= .ok A') (hx:VR ι x x') (hv:VR ι v v'):
 ∃w',(Instr.storeAt t x' v').run tb.P w= .ok () w'∧Rel ι A' w'∧eH ι A w ι A' w':=by
 unfold aW at h;split at h
 ·cases hx with
  |ptr hl=>
   obtain⟨n,h1,h2⟩:=R.ai h;cases hb:qaw v.cells.toList.length n with
   |false=>rw [hb] at h2;cases h2
   |true=>
    rw [hb] at h2;simp only [cond_true] at h2;have hn:=beq_true hb;obtain⟨w',e,r⟩:=fj hr hl h2 hv.cells tb.P;refine⟨w',?_,r⟩;have hlen:=hv.cells.length;have hsz:¬(v'.cells.size≠n):=by simp only [qb5] at hlen hn;omega
    simp only [Instr.storeAt,Instr.sureAddr,storeVar,Sem.run_bind,Sem.run_pure,Result.andThen_ok,b7 ok h1,if_neg hsz];exact e
 ·cases h
end
section
variable {tb:bO} (ok:cC tb) {ι:de}
variable {A:Mem} {w':World} {b:Nat} {ob:Ob} {o':Obj}
theorem Rel.move {w:World} {o:Ob} {l l2:Loc} (h:Rel ι A w) (hg:A.get b=some o) (ha:alive o=true) (hl:ι b=some l) (hns:¬Still A b l) (hf:ι A.next=none) (hgl:∀t k c,ob≠ .cells t .row (GB k) c)
 (hw:Wu w w' l.blk o') (hs:w'.heap.size=w.heap.size) (h2:l2.blk=l.blk) (ho:∀ι',eK ι ι'→OR ι' ob l2 o'):
 ∃ι',ι' A.next=some l2∧Rel ι' ((A.set b .dead).alloc ob) w'∧eH ι A w ι' ((A.set b .dead).alloc ob) w':=by
 let ι':de:=fun x=>if x=A.next then some l2 else ι x
 have hin:ι' A.next=some l2:=if_pos rfl
 have hne:∀x,x≠A.next→ι' x=ι x:=fun x hx=>if_neg hx
 have hle:eK ι ι':=fun x lx hx=>by
  by_cases e:x=A.next
  ·rw [e,hf] at hx;cases hx
  ·rw [hne x e];exact hx
 have hbn:b≠A.next:=fun e=>by rw [e,hf] at hl;cases hl
 have hnx:(A.set b .dead).next=A.next:=rfl
 have hget:∀x,((A.set b .dead).alloc ob).get x=if x=A.next then some ob else if x=b then some .dead else A.get x:=by
  intro x;rw [cQ,aC];rfl
 have hlive:∀x,x≠A.next→live ((A.set b .dead).alloc ob) x→live A x∧x≠b:=by
  rintro x hx ⟨ox,hox,hal⟩;rw [hget,if_neg hx] at hox;by_cases e:x=b
  ·rw [if_pos e] at hox;cases hox;cases hal
  ·rw [if_neg e] at hox;exact⟨⟨ox,hox,hal⟩,e⟩
 have hother:∀x lx,live A x→x≠b→ι x=some lx→lx.blk≠l.blk:=fun x lx hx hxb hlx he=>hxb (h.inj x b lx l hx ⟨o,hg,ha⟩ hlx hl he)
 refine⟨ι',hin,⟨fun x hx=>?_,fun x ox lx hx hal hlx=>?_,fun x lx hlx=>?_,fun x y lx ly hx hy hlx hly he=>?_,fun x t k c hx=>by
  rw [hget] at hx;by_cases e:x=A.next
  ·rw [if_pos e] at hx;exact absurd (qbo hx) (hgl t k c)
  ·rw [if_neg e] at hx;by_cases eb:x=b
   ·rw [if_pos eb] at hx;cases hx
   ·rw [if_neg eb] at hx;rw [hne x e];exact h.gl x _ _ _ hx⟩,
  ⟨?_,fun x hx=>hne x ?_,fun x lx hx hlx=>?_,fun c hc hn=>hw.ne c hc ?_,by omega,hw.os,hw.tape,hw.output,fun x lx hlx hsx=>by
   have hxb:x≠b:=by
    rintro rfl;rw [hl] at hlx;cases hlx;exact hns hsx
   obtain⟨hxn,t,fz,c,hx2,_⟩:=hsx;exact⟨by rw [hget,if_neg (by omega),if_neg hxb],hw.ne _ (h.rng x lx hlx) (hother x lx ⟨_,hx2,rfl⟩ hxb hlx)⟩⟩⟩
 ·rw [ae,hnx] at hx;rw [hget,if_neg (by omega),if_neg]
  ·exact h.wf x (by omega)
  ·intro e;rw [←e,h.wf x (by omega)] at hg;cases hg
 ·rw [hget] at hx;by_cases e:x=A.next
  ·subst e;rw [if_pos rfl] at hx;cases hx;rw [hin] at hlx;cases hlx;exact⟨o',by rw [h2];exact hw.at_,ho ι' hle⟩
  ·rw [if_neg e] at hx;by_cases eb:x=b
   ·rw [if_pos eb] at hx;cases hx;cases hal
   ·rw [if_neg eb] at hx;rw [hne x e] at hlx;obtain⟨o2,h3,h4⟩:=h.obs x ox lx hx hal hlx;exact⟨o2,by rw [hw.ne _ (h.rng x lx hlx) (hother x lx ⟨ox,hx,hal⟩ eb hlx)];exact h3,h4.mono hle⟩
 ·rw [hs];by_cases e:x=A.next
  ·subst e;rw [hin] at hlx;cases hlx;rw [h2];exact h.rng b l hl
  ·rw [hne x e] at hlx;exact h.rng x lx hlx
 ·by_cases ex:x=A.next
  ·by_cases ey:y=A.next
   ·omega
   ·subst ex;rw [hin] at hlx;cases hlx;rw [hne y ey] at hly;obtain⟨h3,h4⟩:=hlive y ey hy;exact absurd (by omega) (hother y ly h3 h4 hly)
  ·by_cases ey:y=A.next
   ·subst ey;rw [hin] at hly;cases hly;rw [hne x ex] at hlx;obtain⟨h3,h4⟩:=hlive x ex hx;exact absurd (by omega) (hother x lx h3 h4 hlx)
   ·rw [hne x ex] at hlx;rw [hne y ey] at hly;exact h.inj x y lx ly (hlive x ex hx).1 (hlive y ey hy).1 hlx hly he
 ·rw [ae,hnx];omega
 ·rw [ae,hnx] at hx;omega
 ·by_cases e:x=A.next
  ·subst e;rw [hin] at hlx;cases hlx;exact .inr ⟨b,l,⟨o,hg,ha⟩,hl,h2.symm⟩
  ·rw [hne x e] at hlx;exact .inr ⟨x,lx,(hlive x e hx).1,hlx,rfl⟩
 ·rintro rfl;exact hn b l ⟨o,hg,ha⟩ hl rfl
variable {x':Value} {n:Nat}
theorem nh {x:Value} (h:gP x= .ok n) (hx:VR ι x x') (P:Program) (w:World):(Builtin.lenOf x').run P w= .ok n w:=by
 unfold gP at h;split at h
 ·simp only [R.ok.injEq] at h;subst h;cases hx<;>rfl
 ·simp only [R.ok.injEq] at h;subst h;cases hx;simp only [Builtin.lenOf,Sem.run_pure,size_data]
 ·cases h
variable {size m:Nat} {vs:List Value}
theorem rQ {w:World} (hr:Rel ι A w) {x:Value} (h:eN A.get size n x= .ok vs) (hx:VR ι x x') (hm:gP x= .ok m) (hn:n≤m):
 ∃vs',dv ι vs vs'∧∀P (w2:World),w2.heap=w.heap→(Builtin.firstCells size n x').run P w2= .ok vs'.toArray w2:=by
 unfold eN at h;split at h
 ·rename_i a len cap;simp only [gP,R.ok.injEq] at hm;subst hm;obtain⟨a',cap',vs',e,r,run,hnone,_⟩:=m8 hr h hx hn;subst e;refine⟨vs',r,fun P w2 hw2=>?_⟩;cases a' with
  |none=>
   obtain⟨rfl,_⟩:=hnone rfl;rfl
  |some b=>exact run b rfl P w2 hw2
 ·rename_i s;cases hb:qaw size 1 with
  |false=>rw [hb] at h;cases h
  |true=>
  rw [hb] at h;simp only [cond_true,R.ok.injEq] at h;subst h;cases hx;refine⟨((s.extract 0 n).data.map fun b=>Value.int .u8 b.toNat).toList,?_,fun P w2 _=>?_⟩
  ·have e:((s.extract 0 n).data.map fun b=>Value.int .u8 b.toNat).toList=(s.data.toList.take n).map eo:=by
    rw [extract_eq];simp;rfl
   rw [e];have:∀l:List UInt8,dv ι (l.map eo) (l.map eo):=by
    intro l
    induction l with
    |nil=>exact .nil
    |cons b l ih=>exact .cons (.int _ _) ih
   exact this _
  ·simp only [Builtin.firstCells,Sem.run_pure]
 ·cases h
theorem xF {x:Value} (h:eN A.get size n x= .ok vs) (hx:∃x',VR ι x x') (hm:gP x= .ok m) (hn:n≤m):vs.length=n*size:=by
 obtain⟨x',hx⟩:=hx;unfold eN at h;split at h
 ·rename_i a len cap;simp only [gP,R.ok.injEq] at hm;subst hm;unfold c9 at h;split at h
  ·simp only [R.ok.injEq] at h;subst h;cases hx;have:n=0:=by omega
   subst this;simp
  ·rename_i a0;cases hb:qaw (n*size) 0 with
   |true=>
    rw [hb] at h;simp only [cond_true,R.ok.injEq] at h;subst h;rw [beq_true hb];rfl
   |false=>
    rw [hb] at h;simp only [cond_false] at h;split at h
    ·split at h
     ·rename_i hg;simp only [R.ok.injEq] at h;subst h;exact(T.mz _ _ _ _ hg).1
     ·cases h
    ·cases h
 ·rename_i s;simp only [gP,R.ok.injEq] at hm;subst hm;cases hb:qaw size 1 with
  |false=>rw [hb] at h;cases h
  |true=>
   rw [hb] at h;simp only [cond_true,R.ok.injEq] at h;subst h;rw [beq_true hb];simp only [qas,qaE,qb2];omega
 ·cases h
variable {A':Mem} {o cap:Nat}
theorem mQ {w:World} (hr:Rel ι A w) {len off:Nat} {vs':List Value} (hx:VR ι (.slice (some ⟨b,o,none⟩) len cap) x') (h:dc A ⟨b,o+off,none⟩ vs= .ok A') (hv:dv ι vs vs')
 (h0:vs≠ []→0<bJ cap):∃a' cap',x'= .slice (some a') len cap'∧a'.spot=none∧∀P,∃w',(storeCells (a'.add off) vs').run P w= .ok () w'∧Rel ι A' w'∧eH ι A w ι A' w':=by
 cases hx with
 |sl hl hk=>
  rename_i l;refine⟨_,_,rfl,rfl,fun P=>?_⟩;obtain⟨w',e,r⟩:=fj hr hl h hv P;rw [cH,show o+l.sh+off=o+off+l.sh by omega];exact⟨w',e,r⟩
 |slX hl hk hc hsz ho hb hlen=>
  rename_i o' cap' l;refine⟨_,_,rfl,rfl,fun P=>?_⟩;cases hvs:vs with
  |nil=>
   subst hvs;cases hv;simp only [dc,R.ok.injEq] at h;subst h;exact⟨w,rfl,hr,eH.refl ι A w⟩
  |cons v vs0=>
   have:=h0 (by rw [hvs];simp);have ho':=ho (by omega);obtain⟨w',e,r⟩:=fj hr hl h hv P;rw [cH,ho',show o+l.sh+off=o+off+l.sh by omega];exact⟨w',e,r⟩
theorem VR.ny {a:Addr} {len:Nat} (h:VR ι (.slice (some a) len cap) x'):a=⟨a.block,a.off,none⟩:=by
 cases h<;>rfl
include ok in
theorem Es {A A':Mem} {w:World} (hr:Rel ι A w) {dt rt:TypeId} {ts:Array TypeId} {d d' s s' v:Value} {args:Array Value} (h:I3 tb A dt d s= .ok (v,A')) (hd:VR ι d d') (hs:VR ι s s')
 (ht:ts[0]?=some dt) (h0:args[0]?=some d') (h1:args[1]?=some s'):
 ∃w' v',(Builtin.copy_ ts rt args).run tb.P w= .ok v' w'∧VR ι v v'∧Rel ι A' w'∧eH ι A w ι A' w':=by
 unfold I3 at h;split at h
 ·rename_i elem base dl cap hdt;obtain⟨size,e1,h2⟩:=R.ai h;obtain⟨sl,e2,h3⟩:=R.ai h2;simp only at h3;obtain⟨l,e3,h4⟩:=R.ai h3;have hmin:(bif qaq sl dl then sl else dl)=Nat.min sl dl:=by
   cases hb:qaq sl dl with
   |true=>have:=cR hb;simp only [cond_true];exact(qbr this).symm
   |false=>have:=tf hb;simp only [cond_false];exact(qc6 (by omega)).symm
  rw [hmin] at e3 h4;obtain⟨vs',r,run⟩:=rQ hr e3 hs e2 (qef ..);have hl0:l≠ []→0<dl:=by
   intro hne;rcases qeg dl with h0|h0
   ·exfalso;have:=xF e3 ⟨_,hs⟩ e2 (qef ..);rw [h0,show Nat.min sl 0=0 from Nat.min_zero sl,qcN] at this;exact hne (qaP.1 this)
   ·exact h0
  split at h4
  ·simp only [R.ok.injEq,qat] at h4;obtain⟨rfl,rfl⟩:=h4;cases hd;refine⟨w,_,?_,.int _ _,hr,eH.refl ι A w⟩;simp only [Builtin.copy_,ht,h0,h1,Sem.run_bind,aD ok hdt,Result.andThen_ok,nh e2 hs,b7 ok e1,run _ _ rfl,Sem.run_pure];rfl
  ·rename_i a;obtain⟨A2,e4,h5⟩:=R.ai h4;simp only [R.ok.injEq,qat] at h5;obtain⟨rfl,rfl⟩:=h5;have ha:=hd.ny;rw [ha] at hd e4;have core:∃a' cap',d'= .slice (some a') dl cap'∧∃w',(storeCells a' vs').run tb.P w= .ok () w'∧Rel ι A2 w'∧eH ι A w ι A2 w':=by
    cases hx:hd with
    |sl hl hk=>
     obtain⟨w',e,r⟩:=fj hr hl e4 r tb.P;exact⟨_,_,rfl,w',e,r⟩
    |slX hl hk hc hsz ho hb hlen=>
     obtain⟨a',cap',he,hsp,hrun⟩:=mQ (off:=0) hr (.slX hl hk hc hsz ho hb hlen) e4 r (fun hne=>by have:=hl0 hne;omega);cases he;obtain⟨w',e,r⟩:=hrun tb.P;exact⟨_,_,rfl,w',e,r⟩
   obtain⟨a',cap',rfl,w',e,hrel,hst⟩:=core;refine⟨w',_,?_,.int _ _,hrel,hst⟩;simp only [Builtin.copy_,ht,h0,h1,Sem.run_bind,aD ok hdt,Result.andThen_ok,nh e2 hs,b7 ok e1,run _ _ rfl,e,Sem.run_pure];rfl
 ·cases h
end
section
variable {tb:bO} (ok:cC tb) {ι:de}
theorem AR (n:Nat):∀r c,Builtin.growBy n r c≤2^r*(c+768)
 |0,c=>by simp [Builtin.growBy]
 |r+1,c=>by
  unfold Builtin.growBy;have hp:0<2^r:=Nat.pow_pos (by omega);split
  ·calc c≤1*(c+768):=by omega
    _≤2^(r+1)*(c+768):=qcK _ (Nat.pow_pos (by omega))
  ·refine qaV (AR n r _) ?_;rw [qdW,Nat.mul_assoc];exact Nat.mul_le_mul_left _ (by omega)
variable {cap:Nat}
theorem JE {need:Nat} (h:cap<need) (hn:need≤16777216):Builtin.nextslicecap need cap≤2^29:=by
 unfold Builtin.nextslicecap;split
 ·omega
 ·split
  ·omega
  ·refine qaV (AR need 4 cap) ?_;omega
variable {base:Option Addr} {n size:Nat} {x':Value}
theorem N5 (P:Program) {ts:Array TypeId} {rt st xt elem:TypeId} {args:Array Value} {len:Nat} {zv:Value} {i:TypeInfo} {xd:TypeDesc} {old new:List Value} {w:World}
 (ht0:ts[0]?=some st) (ht1:ts[1]?=some xt) (ha0:args[0]?=some (.slice base len cap)) (ha1:args[1]?=some x')
 (hst:∀w:World,(underlying st).run P w= .ok (.slice elem) w) (hxt:∀w:World,(underlying xt).run P w= .ok xd w) (hxd:∀k,xd≠ .int k)
 (hsz:∀w:World,(sizeOf elem).run P w= .ok size w) (hi:∀w:World,(typeInfo elem).run P w= .ok i w) (hz:∀w:World,(zeroValue elem).run P w= .ok zv w)
 (hlen:∀w:World,(Builtin.lenOf x').run P w= .ok n w) (hnew:∀d,(Builtin.firstCells size n x').run P {w with drawn:=d}= .ok new.toArray {w with drawn:=d})
 (hold:∀d,(Builtin.firstCells size len (.slice base len cap)).run P {w with drawn:=d}= .ok old.toArray {w with drawn:=d})
 (hneed:¬(len+n≤cap)) (hmax:len+n≤16777216) (hb:i.bytes≤65536):
 ∃c,len+n≤c∧c<2^63∧(Builtin.append_ ts rt args).run P w=
  .ok (.slice (some ⟨w.heap.size,0,none⟩) (len+n) c) {w with heap:=w.heap.push (.cells (old.toArray++new.toArray++Builtin.zeroCells zv.cells (c-(len+n))) elem),drawn:=w.drawn+1}:=by
 let c:=(Question.appendCap (len+n) cap elem).cut (w.tape w.drawn (.appendCap (len+n) cap elem));have hc:len+n≤c∧c<2^63:=by
  show len+n≤len+n+_ % (2^63-(len+n))∧len+n+_ % (2^63-(len+n))<2^63;have:w.tape w.drawn (.appendCap (len+n) cap elem) % (2^63-(len+n))<2^63-(len+n):=qbE _ (by omega);omega
 refine⟨c,hc.1,hc.2,?_⟩;have hbig:¬(((len+n:Nat):Int)>IntKind.i64.max∧(False∨i.bytes=0)):=by
  simp only [IntKind.max,IntKind.signed,IntKind.bits,if_true];omega
 have hn1:=JE (by omega:cap<len+n) hmax;have hcap:¬(Builtin.nextslicecap (len+n) cap*i.bytes>2^48):=by
  have:Builtin.nextslicecap (len+n) cap*i.bytes≤2^29*65536:=qdV hn1 hb;omega
 have h0:=hnew (w.drawn+1);have h1:=hold (w.drawn+1);unfold Builtin.append_;simp only [ht0,ht1,ha0,ha1,Sem.run_bind,hst,hxt,hsz,hlen,hi,Result.andThen_ok,Sem.run_pure,qaI,if_false,if_neg hneed,if_neg hbig,if_neg hcap,run_choose,Question.forced,run_askRoom,h1,h0,hz,qc1,if_true,newRow,run_newObj];rfl
variable {w':World}
theorem Pb (P:Program) {ts:Array TypeId} {rt st xt elem:TypeId} {args:Array Value} {len:Nat} {xd:TypeDesc} {new:List Value} {w:World}
 (ht0:ts[0]?=some st) (ht1:ts[1]?=some xt) (ha0:args[0]?=some (.slice base len cap)) (ha1:args[1]?=some x')
 (hst:∀w:World,(underlying st).run P w= .ok (.slice elem) w) (hxt:∀w:World,(underlying xt).run P w= .ok xd w) (hxd:∀k,xd≠ .int k)
 (hsz:∀w:World,(sizeOf elem).run P w= .ok size w) (hlen:∀w:World,(Builtin.lenOf x').run P w= .ok n w) (hnew:(Builtin.firstCells size n x').run P w= .ok new.toArray w)
 (hneed:len+n≤cap) (hs:∀a,base=some a→(storeCells (a.add (len*size)) new).run P w= .ok () w') (hn:base=none→w'=w):
 (Builtin.append_ ts rt args).run P w= .ok (.slice base (len+n) cap) w':=by
 unfold Builtin.append_;simp only [ht0,ht1,ha0,ha1,Sem.run_bind,hst,hxt,hsz,hlen,Result.andThen_ok,Sem.run_pure,qaI,if_false,if_pos hneed,qc1,if_true,hnew];cases base with
 |none=>rw [hn rfl];rfl
 |some a=>simp only [Sem.run_bind,hs a rfl,Result.andThen_ok,Sem.run_pure]
theorem yI (z:Array Value) (n:Nat):(Builtin.zeroCells z n).size=n*z.size:=by simp [Builtin.zeroCells]
variable {d:Nat}
theorem Bu {old old' new new':List Value} {cs:Array Value} (ho:dv ι old old') (hn:dv ι new new')
 (h1:∀j,j<old.length→cs[j+d]?=old'[j]?) (h2:∀j,j<new.length→cs[old.length+j+d]?=new'[j]?):
 ∀i v,(T.bK .e 0 (old++new)).get i=some v→∃v',cs[i+d]?=some v'∧VR ι v v':=by
 intro i v hv;rw [T.dW] at hv;by_cases hi:0≤i∧i<0+(old++new).length
 ·rw [if_pos hi] at hv;simp only [qbA] at hv;rcases qaZ i old.length with h|h
  ·rw [qaJ h] at hv;obtain⟨v',e,r⟩:=ho.get _ _ hv;exact⟨v',by rw [h1 i h];exact e,r⟩
  ·rw [qaF h] at hv;obtain⟨v',e,r⟩:=hn.get _ _ hv;have hlt:i-old.length<new.length:=by
    have:=hi.2;simp only [qar] at this;omega
   refine⟨v',?_,r⟩;have:=h2 (i-old.length) hlt;rw [show old.length+(i-old.length)+d=i+d by omega] at this;rw [this];exact e
 ·rw [if_neg hi,T.lj] at hv;cases hv
variable {A:Mem} {b:Nat}
theorem Rel.kill {w:World} {o:Ob} (h:Rel ι A w) (hg:A.get b=some o) (hns:∀l,¬Still A b l):Rel ι (A.set b .dead) w∧eH ι A w ι (A.set b .dead) w:=by
 have hlive:∀x,live (A.set b .dead) x→live A x:=by
  rintro x ⟨ox,hx,hal⟩;rw [aC] at hx;by_cases e:x=b
  ·rw [if_pos e] at hx;cases hx;cases hal
  ·rw [if_neg e] at hx;exact⟨ox,hx,hal⟩
 refine⟨⟨fun x hx=>?_,fun x ox lx hx hal hlx=>?_,h.rng,fun x y lx ly hx hy=>h.inj x y lx ly (hlive x hx) (hlive y hy),fun x t k c hx=>by
  rw [aC] at hx;by_cases e:x=b
  ·rw [if_pos e] at hx;cases hx
  ·rw [if_neg e] at hx;exact h.gl x _ _ _ hx⟩,
  ⟨qao _,fun _ _=>rfl,fun x lx hx hlx=>.inr ⟨x,lx,hlive x hx,hlx,rfl⟩,fun _ _ _=>rfl,qao _,rfl,rfl,rfl,fun x lx _ hsx=>⟨by rw [aC,if_neg (by rintro rfl;exact hns lx hsx)],rfl⟩⟩⟩
 ·rw [aO] at hx;rw [aC,if_neg]
  ·exact h.wf x hx
  ·rintro rfl;rw [h.wf x hx] at hg;cases hg
 ·rw [aC] at hx;by_cases e:x=b
  ·rw [if_pos e] at hx;cases hx;cases hal
  ·rw [if_neg e] at hx;exact h.obs x ox lx hx hal hlx
variable {A':Mem} {v:Value}
theorem qg {w : World} (hr : Rel ι A w) {rt elem : TypeId} {ts : Array TypeId} {len : Nat} {new new' : List Value} {s' zv : Value} {args : Array Value}
    (h4 : cO tb A elem base len cap size n new = .ok (v, A')) (hs : VR ι (.slice base len cap) s') (hz0 : zv.cells.size = size) (rnew : dv ι new new') (hnl : new.length = n * size) (hfree : eU ι A A')
    (hroomR : ∀ (base' : Option Addr) (cap' : Nat) (w' : World), s' = .slice base' len cap' → len + n ≤ cap' → (∀ a, base' = some a → (storeCells (a.add (len * size)) new').run tb.P w = .ok () w') → (base' = none → w' = w) →
      (Builtin.append_ ts rt args).run tb.P w = .ok (.slice base' (len + n) cap') w')
    (hgrowR : ∀ (base' : Option Addr) (cap' : Nat) (old' : List Value) (i : TypeInfo), s' = .slice base' len cap' → tb.ty.get elem = some i →
      (∀ d, (Builtin.firstCells size len (.slice base' len cap')).run tb.P { w with drawn := d } = .ok old'.toArray { w with drawn := d }) → ¬ (len + n ≤ cap') → len + n ≤ 16777216 → i.bytes ≤ 65536 →
      ∃ c, len + n ≤ c ∧ c < 2 ^ 63 ∧ (Builtin.append_ ts rt args).run tb.P w =
        .ok (.slice (some ⟨w.heap.size, 0, none⟩) (len + n) c) { w with heap := w.heap.push (.cells (old'.toArray ++ new'.toArray ++ Builtin.zeroCells zv.cells (c - (len + n))) elem), drawn := w.drawn + 1 }) :
    ∃ ι' w' v', (Builtin.append_ ts rt args).run tb.P w = .ok v' w' ∧ VR ι' v v' ∧ Rel ι' A' w' ∧ eH ι A w ι' A' w' := by
  unfold cO at h4
  cases hroom : qaq (len + n) (bJ cap) with
  | true =>
    rw [hroom] at h4; simp only [cond_true] at h4
    have hle := cR hroom
    split at h4
    · simp only [R.ok.injEq, qat] at h4
      obtain ⟨rfl, rfl⟩ := h4
      cases hs
      have hn0 : n = 0 := by have : bJ 0 = 0 := rfl; omega
      subst hn0
      refine ⟨ι, w, .slice none 0 0, ?_, .slN, hr, eH.refl ι A w⟩
      exact hroomR none 0 w rfl (qao _) (fun a ha => by cases ha) (fun _ => rfl)
    · rename_i a
      split at h4
      · cases h4
      · rename_i hsp
        obtain ⟨A2, e4, h5⟩ := R.ai h4
        simp only [R.ok.injEq, qat] at h5
        obtain ⟨rfl, rfl⟩ := h5
        have ha := hs.ny
        rw [ha] at hs e4
        have hnewlen : new ≠ [] → 0 < n := by
          intro hne
          rcases qeg n with h0 | h0
          · exfalso
            have := hnl
            rw [h0, qcN] at this
            exact hne (qaP.1 this)
          · exact h0
        obtain ⟨a', cap', rfl, hsp', hst2⟩ := mQ (off := len * size) hr hs e4 rnew (fun hne => by have := hnewlen hne; omega)
        obtain ⟨w', run, hrel, hstp⟩ := hst2 tb.P
        have hcap' : bJ cap ≤ cap' := by cases hs with
          | sl hl hk => exact qao _
          | slX hl hk hc _ _ _ _ => exact hc
        refine ⟨ι, w', .slice (some a') (len + n) cap', ?_, ?_, hrel, hstp⟩
        · exact hroomR (some a') cap' w' rfl (by omega) (fun a ha => by cases ha; exact run) (fun ha => by cases ha)
        · rw [ha]
          cases hs with
          | sl hl hk => exact .sl hl hk
          | slX hl hk hc hsz2 ho hb hlen => exact .slX hl hk hc hsz2 ho hb hle
  | false =>
    rw [hroom] at h4; simp only [cond_false] at h4
    have hgt := tf hroom
    split at h4
    · cases h4
    · rename_i i hi
      cases hb : (qaq (len + n) 16777216 && qaq i.bytes 65536 && qax 0 i.bytes && qax 0 size && qax size 65536) with
      | false => rw [hb] at h4; cases h4
      | true =>
        rw [hb] at h4; simp only [cond_true] at h4
        simp only [qaO] at hb
        have b1 := cR hb.1.1.1.1
        have b2 := cR hb.1.1.1.2
        have b4 := cS hb.1.2
        have b5 := cS hb.2
        obtain ⟨old, e4, h5⟩ := R.ai h4
        clear h4
        obtain ⟨base', cap', old', hs', rold, runold, hnone, hlold⟩ := m8 hr e4 hs (qao _)
        subst hs'
        have hfo : ∀ d, (Builtin.firstCells size len (.slice base' len cap')).run tb.P { w with drawn := d } = .ok old'.toArray { w with drawn := d } := by
          intro d
          cases base' with
          | none => obtain ⟨rfl, _⟩ := hnone rfl; rfl
          | some b => exact runold b rfl tb.P _ rfl
        have hol : old.length = len * size := by
          rcases hlold with h | h
          · exact h
          · subst h
            cases hs
            simp only [c9, R.ok.injEq] at e4; subst e4; simp
        have hol' : old'.length = len * size := by rw [rold.length, hol]
        have hnl' : new'.length = n * size := by rw [rnew.length, hnl]
        have grow : ¬ (len + n ≤ cap') → ∀ (A : Mem), Rel ι A w → ∀ (fz : Nat) (xk : Kd), (∀ n, xk ≠ .var n) → (∀ n, xk ≠ .room n) → (∀ k, fz ≠ GB k) → ι A.next = none → ∃ ι' w' v', (Builtin.append_ ts rt args).run tb.P w = .ok v' w' ∧ VR ι' (.slice (some ⟨A.next, 0, none⟩) (len + n) (fQ (len + n) size)) v' ∧
            Rel ι' (A.alloc (.cells elem xk fz (T.bK .e 0 (old ++ new)))) w' ∧ eH ι A w ι' (A.alloc (.cells elem xk fz (T.bK .e 0 (old ++ new)))) w' := by
          intro hno A hr fz xk hxk hxr hfzg hfn
          obtain ⟨c, c1, c2, run⟩ := hgrowR base' cap' old' i rfl hi hfo hno b1 b2
          have hcs : (old'.toArray ++ new'.toArray ++ Builtin.zeroCells zv.cells (c - (len + n))).size = c * size := by
            simp only [Array.size_append, List.size_toArray, yI, hz0, hol', hnl', ← qcl]
            congr 1; omega
          have hOR : ∀ ι', eK ι ι' → OR ι' (.cells elem xk fz (T.bK .e 0 (old ++ new))) ⟨w.heap.size, 0, c * size⟩ (.cells (old'.toArray ++ new'.toArray ++ Builtin.zeroCells zv.cells (c - (len + n))) elem) := by
            intro ι' hi
            refine ⟨_, (0, 0), rfl, hcs, fun i v hv => ?_, ?_⟩
            · refine Bu (d := 0) (rold.mono hi) (rnew.mono hi) (fun j hj => ?_) (fun j hj => ?_) i v hv
              · simp only [qa8]
                rw [qcr (by simp; omega), qcr (by simp; omega)]; simp
              · simp only [qa8]
                rw [qcr (by simp; omega), Array.getElem?_append_right (by simp; omega)]; simp [hol, hol']
            · cases xk with
              | var n => exact absurd rfl (hxk n)
              | row => simp
              | mark => intro i _; simp
              | room n => exact absurd rfl (hxr n)
          obtain ⟨ι', e, hrel, hstp⟩ := Rel.CG (w' := { w with heap := w.heap.push (.cells (old'.toArray ++ new'.toArray ++ Builtin.zeroCells zv.cells (c - (len + n))) elem), drawn := w.drawn + 1 })
            (ob := .cells elem xk fz (T.bK .e 0 (old ++ new))) (sz := c * size) hr hfn (fun t k c' h => by
                            have h2 := congrArg (fun o : Ob => match o with | .cells _ _ fz _ => fz | _ => 0) h
                            exact hfzg _ h2) (iF w _ _ (by simp)) (by simp) (fun ι' hi hb => hOR ι' hi)
          refine ⟨ι', _, _, run, ?_, hrel, hstp⟩
          have hE : size < 65536 := b5
          exact VR.slX (o' := 0) e (cX _ _) (by rw [cD hE]; exact c1) (by rw [c7 hE]; simp) (fun _ => rfl) c2 (by rw [cD hE]; exact qao _)
        cases hcx : dN cap with
        | true =>
          rw [hcx] at h5; simp only [cond_true, R.ok.injEq, qat] at h5
          obtain ⟨rfl, rfl⟩ := h5
          have hfn : ι A.next = none := hfree A.next (qao _) (by rw [ae]; omega)
          refine grow ?_ A hr 0 .row (fun n h => by cases h) (fun n h => by cases h) (fun k h => by unfold GB at h; omega) hfn
          cases hs with
          | slN => have : bJ 0 = 0 := rfl; omega
          | sl hl hk => exact hgt
          | slX hl hk _ _ _ _ _ => rw [hk] at hcx; cases hcx
        | false =>
          rw [hcx] at h5; simp only [cond_false] at h5
          split at h5
          · rename_i a
            cases hc1 : (qaw (gO cap) size && new.all aJ) with
            | false => rw [hc1] at h5; cases h5
            | true =>
              rw [hc1] at h5; simp only [cond_true] at h5
              simp only [qaO] at hc1
              have hE := beq_true hc1.1
              split at h5
              · rename_i t xk fz c hsp hg
                cases hc2 : (qaq fz (a.off + len * size) && (qaw t elem && qax fz 9223372036854775808)) with
                | false => rw [hc2] at h5; cases h5
                | true =>
                  rw [hc2] at h5; simp only [cond_true] at h5
                  simp only [qaO] at hc2
                  have hfz := cR hc2.1
                  have hfzb : fz < 9223372036854775808 := by simpa [qaH] using hc2.2.2
                  obtain rfl := beq_true hc2.2.1
                  have hns : ∀ l, ¬ Still A a.block l := fun l => eh hg fun t2 fz2 c2 e => by cases e; exact .inl (by simpa [qaH] using hc2.2.2)
                  split at h5
                  · cases h5
                  · cases h5
                  · rename_i hnv hnr
                    simp only [R.ok.injEq, qat] at h5
                    obtain ⟨rfl, rfl⟩ := h5
                    have hnA : ((A.set a.block .dead).alloc (.cells t xk (fz - a.off) (T.bK .e 0 (old ++ new)))).next = A.next + 1 := rfl
                    have hfn : ι A.next = none := hfree A.next (qao _) (by rw [hnA]; omega)
                    have ha := hs.ny
                    generalize a.block = b at ha hg hns
                    generalize a.off = o at ha hg hfz
                    have hfzg : ∀ k, fz - o ≠ GB k := fun k h => by unfold GB at h; omega
                    subst ha
                    cases hs with
                    | sl hl hk => rw [hk] at hcx; cases hcx
                    | slX hl hk hc hsz2 ho hb63 hlen =>
                      rename_i o' l
                      obtain ⟨ob0, hw0, cs, fr, rfl, hcs0, hcell0, hfr0⟩ := hr.obs _ _ _ hg rfl hl
                      by_cases hno : len + n ≤ cap'
                      ·
                        have ho' := ho (by omega)
                        subst ho'
                        have hbound : o + l.sh + (len + n) * size ≤ l.sz := by
                          have : (len + n) * size ≤ cap' * gO cap := by rw [hE]; exact qcK _ hno
                          omega
                        have hsplit : (len + n) * size = len * size + n * size := qcl ..
                        obtain ⟨w', cs', r1, r2, r3, r4, r5⟩ := ki tb.P new' w (o + l.sh + len * size) 0 cs hw0 (rnew.Cb (qby.1 hc1.2)) (fun j hj => by
                          rw [hnl'] at hj
                          rw [show o + l.sh + len * size + 0 + j = (o + len * size + j) + l.sh by omega]
                          exact ⟨by omega, Gf hfr0 (by omega) (by omega)⟩)
                        have hgets : ∀ j v, old[j]? = some v → c.get (o + j) = some v := by
                          intro j v hv
                          unfold c9 at e4
                          simp only at e4
                          cases hz : qaw (len * size) 0 with
                          | true =>
                            rw [hz] at e4; simp only [cond_true, R.ok.injEq] at e4; subst e4; simp at hv
                          | false =>
                            rw [hz] at e4; simp only [cond_false, hg] at e4
                            split at e4
                            · rename_i q hq
                              simp only [R.ok.injEq] at e4; subst e4
                              obtain ⟨q1, q2⟩ := T.mz _ _ _ _ hq
                              have hj : j < len * size := by
                                rcases qaZ j (len * size) with h | h
                                · exact h
                                · rw [qbc (by omega)] at hv; cases hv
                              rw [q2 j hj]; exact hv
                            · cases e4
                        have rold2 : dv ι old ((cs.toList.drop (o + l.sh)).take (len * size)) := by
                          refine dv.yd ?_ fun j v v' hv hv' => ?_
                          · simp only [qaE, qc3, qb5]; omega
                          · obtain ⟨u, e, r⟩ := hcell0 _ _ (hgets j v hv)
                            have hj : j < len * size := by
                              rcases qaZ j (len * size) with h | h
                              · exact h
                              · rw [qbc (by omega)] at hv; cases hv
                            rw [qdr hj, qcc, qaU, show o + l.sh + j = o + j + l.sh by omega, e] at hv'
                            cases hv'; exact r
                        obtain ⟨ι', e, hrel, hstp⟩ := Rel.move (l2 := ⟨l.blk, o + l.sh, l.sz⟩) (ob := .cells t xk (fz - o) (T.bK .e 0 (old ++ new))) hr hg rfl hl (hns _) hfn (fun t k c' h => by
                            have h2 := congrArg (fun o : Ob => match o with | .cells _ _ fz _ => fz | _ => 0) h
                            exact hfzg _ h2) r2 r3 rfl (fun ι' hi => by
                          refine ⟨cs', fr, rfl, by simp only; omega, fun i v hv => ?_, ?_⟩
                          · refine Bu (d := o + l.sh) (rold2.mono hi) (rnew.mono hi) (fun j hj => ?_) (fun j hj => ?_) i v hv
                            · rw [r5, if_neg (by omega), qdr (by omega), qcc, qaU, qdt j]
                            · rw [r5, if_pos (by omega), show old.length + j + (o + l.sh) - (o + l.sh + len * size + 0) = j by omega]
                          · cases xk with
                            | var n => exact absurd rfl (hnv n)
                            | row => simp only at hfr0 ⊢; omega
                            | mark => exact hfr0
                            | room n => exact absurd rfl (hnr n))
                        refine ⟨ι', w', .slice (some ⟨l.blk, o + l.sh, none⟩) (len + n) cap', ?_, ?_, hrel, hstp⟩
                        · refine hroomR (some ⟨l.blk, o + l.sh, none⟩) cap' w' rfl hno (fun a ha => ?_) (fun ha => by cases ha)
                          cases ha
                          rw [cH]; exact r1
                        · have hE2 : size < 65536 := b5
                          have := VR.slX (ι := ι') (o := 0) (o' := o + l.sh) (len := len + n) (k := fQ (len + n) size) (cap' := cap') e (cX _ _) (by rw [cD hE2]; exact hno) (by rw [c7 hE2]; rw [hE] at hsz2; exact hsz2) (fun _ => by simp) hb63 (by rw [cD hE2]; exact qao _)
                          exact this
                      ·
                        obtain ⟨hr2, hst2⟩ := hr.kill hg hns
                        obtain ⟨ι', w', v', run, rv, hrel, hstp⟩ := grow hno (A.set b .dead) hr2 (fz - o) xk hnv hnr hfzg hfn
                        exact ⟨ι', w', v', run, rv, hrel, hst2.trans hstp⟩
              · cases h5
          · cases h5
variable {k':IntKind}
theorem K_ (P:Program) {ts:Array TypeId} {rt st xt elem:TypeId} {args:Array Value} {len:Nat} {k:IntKind} {zv:Value} {i:TypeInfo} {old:List Value} {w:World}
 (ht0:ts[0]?=some st) (ht1:ts[1]?=some xt) (ha0:args[0]?=some (.slice base len cap)) (ha1:args[1]?=some (.int k' (n:Int)))
 (hst:∀w:World,(underlying st).run P w= .ok (.slice elem) w) (hxt:∀w:World,(underlying xt).run P w= .ok (.int k) w)
 (hsz:∀w:World,(sizeOf elem).run P w= .ok size w) (hi:∀w:World,(typeInfo elem).run P w= .ok i w) (hz:∀w:World,(zeroValue elem).run P w= .ok zv w) (hzs:zv.cells.size=size)
 (hold:∀d,(Builtin.firstCells size len (.slice base len cap)).run P {w with drawn:=d}= .ok old.toArray {w with drawn:=d})
 (hneed:¬(len+n≤cap)) (hmax:len+n≤16777216) (hb:i.bytes≤65536):
 ∃c,len+n≤c∧c<2^63∧(Builtin.append_ ts rt args).run P w=
  .ok (.slice (some ⟨w.heap.size,0,none⟩) (len+n) c) {w with heap:=w.heap.push (.cells (old.toArray++Builtin.zeroCells zv.cells n++Builtin.zeroCells zv.cells (c-(len+n))) elem),drawn:=w.drawn+1}:=by
 let c:=(Question.appendCap (len+n) cap elem).cut (w.tape w.drawn (.appendCap (len+n) cap elem));have hc:len+n≤c∧c<2^63:=by
  show len+n≤len+n+_ % (2^63-(len+n))∧len+n+_ % (2^63-(len+n))<2^63;have:w.tape w.drawn (.appendCap (len+n) cap elem) % (2^63-(len+n))<2^63-(len+n):=qbE _ (by omega);omega
 refine⟨c,hc.1,hc.2,?_⟩;have hw:IntKind.i64.wrap (n:Int)=n:=by
  have h1:(n:Int) % 2^64=n:=by omega
  have h2:¬((n:Int)≥2^(64-1)):=by omega
  simp only [IntKind.wrap,IntKind.bits,IntKind.signed,h1,qcs,decide_eq_true_eq,if_neg h2]
 have has:∀u:World,(asInt (.int k' (n:Int))).run P u= .ok (n:Int) u:=fun _=>rfl
 have hbig:¬(((len+n:Nat):Int)>IntKind.i64.max∧(True∨i.bytes=0)):=by
  simp only [IntKind.max,IntKind.signed,IntKind.bits,if_true];omega
 have hn1:=JE (by omega:cap<len+n) hmax;have hcap:¬(Builtin.nextslicecap (len+n) cap*i.bytes>2^48):=by
  have:Builtin.nextslicecap (len+n) cap*i.bytes≤2^29*65536:=qdV hn1 hb;omega
 have hneg:¬((n:Int)<0):=by omega
 have hby:¬((n:Int)*(i.bytes:Int)>2^48):=by
  have:n*i.bytes≤16777216*65536:=qdV (by omega) hb;have e:((n*i.bytes:Nat):Int)=(n:Int)*(i.bytes:Int):=by simp
  omega
 have h1:=hold (w.drawn+1);have hzz:n*size=0→Builtin.zeroCells zv.cells n= #[]:=by
  intro h;apply Array.eq_empty_of_size_eq_zero;rw [yI,hzs];exact h
 unfold Builtin.append_;simp only [ht0,ht1,ha0,ha1,Sem.run_bind,hst,hxt,hsz,hi,has,hw,Result.andThen_ok,Sem.run_pure,if_true,if_neg hneg,if_neg hby,qdj,if_neg hneed,if_neg hbig,if_neg hcap,run_choose,Question.forced,run_askRoom,h1,hz,qcj,qaI,if_false,newRow,run_newObj];by_cases h0:n*size=0
 ·simp only [if_pos h0,Sem.run_pure,Result.andThen_ok,hzz h0];rfl
 ·simp only [if_neg h0,Sem.run_bind,hz,Sem.run_pure,Result.andThen_ok];rfl
theorem LH (P:Program) {ts:Array TypeId} {rt st xt elem:TypeId} {args:Array Value} {len:Nat} {k:IntKind} {zv:Value} {i:TypeInfo} {w:World}
 (ht0:ts[0]?=some st) (ht1:ts[1]?=some xt) (ha0:args[0]?=some (.slice base len cap)) (ha1:args[1]?=some (.int k' (n:Int)))
 (hst:∀w:World,(underlying st).run P w= .ok (.slice elem) w) (hxt:∀w:World,(underlying xt).run P w= .ok (.int k) w)
 (hsz:∀w:World,(sizeOf elem).run P w= .ok size w) (hi:∀w:World,(typeInfo elem).run P w= .ok i w) (hz:∀w:World,(zeroValue elem).run P w= .ok zv w) (hzs:zv.cells.size=size)
 (hneed:len+n≤cap) (hmax:n≤16777216) (hb:i.bytes≤65536) (hs:∀a,base=some a→(storeCells (a.add (len*size)) (Builtin.zeroCells zv.cells n).toList).run P w= .ok () w') (hn:base=none→w'=w):
 (Builtin.append_ ts rt args).run P w= .ok (.slice base (len+n) cap) w':=by
 have hw:IntKind.i64.wrap (n:Int)=n:=by
  have h1:(n:Int) % 2^64=n:=by omega
  have h2:¬((n:Int)≥2^(64-1)):=by omega
  simp only [IntKind.wrap,IntKind.bits,IntKind.signed,h1,qcs,decide_eq_true_eq,if_neg h2]
 have has:∀u:World,(asInt (.int k' (n:Int))).run P u= .ok (n:Int) u:=fun _=>rfl
 have hneg:¬((n:Int)<0):=by omega
 have hby:¬((n:Int)*(i.bytes:Int)>2^48):=by
  have:n*i.bytes≤16777216*65536:=qdV hmax hb;have e:((n*i.bytes:Nat):Int)=(n:Int)*(i.bytes:Int):=by simp
  omega
 have hzz:n*size=0→Builtin.zeroCells zv.cells n= #[]:=by
  intro h;apply Array.eq_empty_of_size_eq_zero;rw [yI,hzs];exact h
 unfold Builtin.append_;simp only [ht0,ht1,ha0,ha1,Sem.run_bind,hst,hxt,hsz,hi,has,hw,Result.andThen_ok,Sem.run_pure,if_true,if_neg hneg,if_neg hby,qdj,if_pos hneed,qcj,qaI,if_false];by_cases h0:n*size=0
 ·rw [hzz h0] at hs;simp only [if_pos h0,Sem.run_pure,Result.andThen_ok];cases base with
  |none=>rw [hn rfl];rfl
  |some a=>simp only [Sem.run_bind,hs a rfl,Result.andThen_ok,Sem.run_pure]
 ·simp only [if_neg h0,Sem.run_bind,hz,Sem.run_pure,Result.andThen_ok];cases base with
  |none=>rw [hn rfl];rfl
  |some a=>simp only [Sem.run_bind,hs a rfl,Result.andThen_ok,Sem.run_pure]
include ok in
theorem zL {A A':Mem} {w:World} (hr:Rel ι A w) {st xt rt:TypeId} {ts:Array TypeId} {s s' x x' v:Value} {args:Array Value} (h:bj tb A st xt s x= .ok (v,A')) (hs:VR ι s s') (hx:VR ι x x')
 (ht0:ts[0]?=some st) (ht1:ts[1]?=some xt) (ha0:args[0]?=some s') (ha1:args[1]?=some x') (hfree:eU ι A A'):
 ∃ι' w' v',(Builtin.append_ ts rt args).run tb.P w= .ok v' w'∧VR ι' v v'∧Rel ι' A' w'∧eH ι A w ι' A' w':=by
 unfold bj at h;split at h
 ·rename_i elem base len cap xd hst hxt;cases hxi:eP xd with
  |true=>
   rw [hxi,cond_true] at h;unfold Cd at h;obtain⟨⟨size,zero⟩,e1,h2⟩:=R.ai h;obtain⟨n,e2,h3⟩:=R.ai h2;obtain⟨hsize,hsz,zv,hzr,hzc,hzv⟩:=hY ok e1;have hz0:zv.cells.size=size:=by rw [hsize,←hzc];simp
   obtain⟨k,rfl⟩:∃k,xd= .int k:=by
    cases xd with
    |int k=>exact⟨k,rfl⟩
    |_=>cases hxi
   obtain⟨k',rfl⟩:∃k',x= .int k' (n:Int):=by
    unfold kU at e2;split at e2
    ·rename_i k' m;simp only [R.ok.injEq] at e2;subst e2;exact⟨k',rfl⟩
    ·cases e2
   cases hx;split at h3
   ·cases h3
   ·rename_i i hi;cases hb:(qaq n 16777216&&qaq i.bytes 65536) with
    |false=>rw [hb] at h3;cases h3
    |true=>
     rw [hb,cond_true] at h3;simp only [qaO] at hb;have b1:=cR hb.1;have b2:=cR hb.2;have hrep:dv ι (qW zero n) (Builtin.zeroCells zv.cells n).toList:=by
      have:=wj (hzv ι) n;unfold Builtin.zeroCells;rwa [show n*zero.length=n*zv.cells.size by rw [hz0,hsize]] at this
     refine qg hr (zv:=zv) h3 hs hz0 hrep (by rw [lR,hsize]) hfree (fun base' cap' w' e hle hs2 hn2=>?_) (fun base' cap' old' i' e hi' hfo hno c1 c2=>?_)
     ·subst e;exact LH tb.P ht0 ht1 ha0 ha1 (aD ok hst) (aD ok hxt) hsz (fP ok hi) hzr hz0 hle b1 b2 hs2 hn2
     ·subst e;obtain⟨c,h1,h2,h3⟩:=K_ tb.P ht0 ht1 ha0 ha1 (rt:=rt) (aD ok hst) (aD ok hxt) hsz (fP ok hi) hzr hz0 hfo hno c1 b2;exact⟨c,h1,h2,by rw [h3]⟩
  |false=>
   rw [hxi] at h;simp only [cond_false] at h;have hxd:∀k,xd≠ .int k:=by rintro k rfl;cases hxi
   obtain⟨⟨size,zero⟩,e1,h2⟩:=R.ai h;obtain⟨n,e2,h3⟩:=R.ai h2;obtain⟨new,e3,h4⟩:=R.ai h3;clear h h2 h3;obtain⟨hsize,hsz,zv,hzr,hzc,hzv⟩:=hY ok e1;obtain⟨new',rnew,runnew⟩:=rQ hr e3 hx e2 (qao _);have hz0:zv.cells.size=size:=by rw [hsize,←hzc];simp
   refine qg hr (zv:=zv) h4 hs hz0 rnew (xF e3 ⟨_,hx⟩ e2 (qao _)) hfree (fun base' cap' w' e hle hs2 hn2=>?_) (fun base' cap' old' i' e hi' hfo hno c1 c2=>?_)
   ·subst e;exact Pb tb.P ht0 ht1 ha0 ha1 (aD ok hst) (aD ok hxt) hxd hsz (nh e2 hx tb.P) (runnew tb.P w rfl) hle hs2 hn2
   ·subst e;exact N5 tb.P ht0 ht1 ha0 ha1 (rt:=rt) (aD ok hst) (aD ok hxt) hxd hsz (fP ok hi') hzr (nh e2 hx tb.P) (fun d=>runnew tb.P _ rfl) hfo hno c1 c2
 ·cases h
end
section
variable {tb:bO} (ok:cC tb) {ι:de} {A A':Mem} {w:World}
variable {r:Nat} {o':Obj}
theorem gN {o:Obj} (h:w.heap[r]?=some o) (hc:∀c e f,o≠ .cells c e f) (P:Program):
 ∃w',(setObj r o').run P w= .ok () w'∧Wu w w' r o'∧w'.heap.size=w.heap.size:=by
 have hlt:r<w.heap.size:=(qaM.1 h).1;refine⟨{w with heap:=w.heap.setIfInBounds r o'},?_,⟨by simp,by simp [hlt],fun k hk hne=>?_,rfl,rfl,rfl⟩,by simp⟩
 ·simp only [setObj,Sem.run,h]
 ·exact qdB (Ne.symm hne)
theorem tJ {k k' e e':Value} (h:uC k e=some true) (hk:VR ι k k') (he:VR ι e e') (P:Program) (w:World):(Instr.keyThatStays e' k').run P w= .ok k' w:=by
 have:Instr.sameBits 10000 e' k'=true:=by
  unfold uC at h;split at h
  ·cases hk;cases he;rename_i kk x kk' y;cases hkk:eD kk kk' with
   |false=>rw [hkk] at h;cases h
   |true=>
    rw [hkk] at h;simp only [cond_true,qaX,lv,beq_iff_eq] at h;obtain rfl:=mD hkk;subst h;simp [Instr.sameBits]
  ·cases hk;cases he;rename_i x y;simp only [qaX,di] at h;simp only [Instr.sameBits,bytes_beq];rw [beq_iff_eq] at h⊢;exact h.symm
  ·cases h
 simp only [Instr.keyThatStays,this,if_true,Sem.run_pure]
variable {v v':Value}
theorem sK {k k':Value} (hk:VR ι k k') (hv:VR ι v v'):∀{es es':List MapEntry} (i:Nat),wz ι es es'→wz ι (sA es i k v) (es'.modify i fun e=>{e with key:=k',val:=v'})
 |_,_,i,.nil=>by cases i<;>exact .nil
 |_,_,0,.cons _ hb _ ht=>.cons hk hb hv ht
 |_,_,i+1,.cons hk' hb hv' ht=>.cons hk' hb hv' (sK hk hv i ht)
theorem qi:∀{es es':List MapEntry} (i:Nat),wz ι es es'→wz ι (pz es i) (es'.eraseIdx i)
 |_,_,i,.nil=>by cases i<;>exact .nil
 |_,_,0,.cons _ _ _ ht=>ht
 |_,_,i+1,.cons hk hb hv ht=>.cons hk hb hv (qi i ht)
theorem wz.snoc {e e':MapEntry} (hk:VR ι e.key e'.key) (hb:e'.born=e.born) (hv:VR ι e.val e'.val):∀{l l':List MapEntry},wz ι l l'→wz ι (l++[e]) (l'++[e'])
 |_,_,.nil=>.cons hk hb hv .nil
 |_,_,.cons a b c d=>.cons a b c (wz.snoc hk hb hv d)
theorem wz.get {ι:de}:∀{l l':List MapEntry} {i:Nat} {e e':MapEntry},wz ι l l'→l[i]?=some e→l'[i]?=some e'→VR ι e.key e'.key
 |_,_,i,e,e',.nil,h,_=>by simp at h
 |_,_,0,e,e',.cons hk _ _ _,h,h'=>by simp at h h';subst h h';exact hk
 |_,_,i+1,e,e',.cons _ _ _ ht,h,h'=>by simp at h h';exact ht.get h h'
include ok in
theorem mF (hr:Rel ι A w) {t:TypeId} {m m' k k' v v':Value} (h:c_ tb A t m k v= .ok A') (hm:VR ι m m') (hk:VR ι k k') (hv:VR ι v v'):
 ∃w',(Instr.mapUpdate t m' k' v').run tb.P w= .ok () w'∧Rel ι A' w'∧eH ι A w ι A' w':=by
 unfold c_ at h;split at h
 ·rename_i kt et b hd;cases hko:eQ tb kt k with
  |false=>rw [hko] at h;cases h
  |true=>
   rw [hko] at h;simp only [cond_true] at h;obtain⟨d,hkd,tc⟩:=ng hko;split at h
   ·rename_i es clock hg;cases hm with
    |map hl=>
     rename_i l;obtain⟨o',hw,hsh,es',rfl,he⟩:=hr.obs _ _ _ hg rfl hl;have hck:=jx ok hkd tc hk false w;split at h
     ·rename_i i u hf;simp only [R.ok.injEq] at h;subst h;rcases fM hk tc hf he with⟨h3,_⟩|⟨j,v0,v1,h3,h4,h5,h6,e',h7,e,h8,h9⟩
      ·cases h3
      ·cases h3;simp only [qbA] at h7 h8;have h7':es'[i]?=some e':=by rw [←qaU];exact h7
       have hkeys:VR ι e.key e'.key:=he.get h8 h7;have hstay:=tJ h9 hk hkeys tb.P w;obtain⟨w',r1,r2,r3⟩:=gN (o':=.map (es'.modify i fun e=>{e with key:=k',val:=v'}) clock) hw (by simp) tb.P;refine⟨w',?_,hr.zn (ob:=.map (sA es i k v) clock) hg rfl hl (eh hg fun _ _ _ h=>by cases h) (fun _ _ _ h=>by cases h) r2 r3 ⟨hsh,_,rfl,?_⟩⟩
       ·simp only [Instr.mapUpdate,Sem.run_bind,aD ok hd,Result.andThen_ok,cu hw (by simp),hck,gL ok hkd h4,h7',qa5,qbG,hstay];exact r1
       ·rw [Array.toList_modify];exact sK hk hv i he
     ·rename_i hf;simp only [R.ok.injEq] at h;subst h;rcases fM hk tc hf he with⟨_,h4⟩|⟨j,v0,v1,h3,_⟩
      ·obtain⟨w',r1,r2,r3⟩:=gN (o':=.map (es'.push {key:=k',val:=v',born:=clock}) (clock+1)) hw (by simp) tb.P;refine⟨w',?_,hr.zn (ob:=.map (es++[{key:=k,val:=v,born:=clock}]) (clock+1)) hg rfl hl (eh hg fun _ _ _ h=>by cases h) (fun _ _ _ h=>by cases h) r2 r3 ⟨hsh,_,rfl,?_⟩⟩
       ·simp only [Instr.mapUpdate,Sem.run_bind,aD ok hd,Result.andThen_ok,cu hw (by simp),hck,gL ok hkd h4];exact r1
       ·rw [Array.toList_push];exact wz.snoc (e:=⟨k,v,clock⟩) (e':=⟨k',v',clock⟩) hk rfl hv he
      ·cases h3
     ·cases h
   ·cases h
 ·cases h
include ok in
theorem zQ (hr:Rel ι A w) {t rt:TypeId} {ts:Array TypeId} {m m' k k' v:Value} {args:Array Value} (h:vW tb A t m k= .ok (v,A')) (hm:VR ι m m') (hk:VR ι k k')
 (ht:ts[0]?=some t) (h0:args[0]?=some m') (h1:args[1]?=some k'):
 ∃w' v',(Builtin.delete_ ts rt args).run tb.P w= .ok v' w'∧VR ι v v'∧Rel ι A' w'∧eH ι A w ι A' w':=by
 unfold vW at h;split at h
 ·rename_i kt et hd;cases hko:eQ tb kt k with
  |false=>rw [hko] at h;cases h
  |true=>
   rw [hko] at h;simp only [cond_true,R.ok.injEq,qat] at h;obtain⟨rfl,rfl⟩:=h;obtain⟨d,hkd,tc⟩:=ng hko;cases hm;refine⟨w,.tuple #[],?_,.tuple .nil,hr,eH.refl ι A w⟩
   simp only [Builtin.delete_,ht,h0,h1,Sem.run_bind,aD ok hd,Result.andThen_ok,jx ok hkd tc hk true w,Sem.run_pure]
 ·rename_i kt et b hd;cases hko:eQ tb kt k with
  |false=>rw [hko] at h;cases h
  |true=>
   rw [hko] at h;simp only [cond_true] at h;obtain⟨d,hkd,tc⟩:=ng hko;split at h
   ·rename_i es clock hg;cases hm with
    |map hl=>
     rename_i l;obtain⟨o',hw,hsh,es',rfl,he⟩:=hr.obs _ _ _ hg rfl hl;have hck:=jx ok hkd tc hk es'.isEmpty w;split at h
     ·rename_i i u hf;simp only [R.ok.injEq,qat] at h;obtain⟨rfl,rfl⟩:=h;rcases fM hk tc hf he with⟨h3,_⟩|⟨j,v0,v1,h3,h4,_⟩
      ·cases h3
      ·cases h3;obtain⟨w',r1,r2,r3⟩:=gN (o':=.map (es'.eraseIdxIfInBounds i) clock) hw (by simp) tb.P;obtain⟨hrel,hst⟩:=hr.zn (ob:=.map (pz es i) clock) hg rfl hl (eh hg fun _ _ _ h=>by cases h) (fun _ _ _ h=>by cases h) r2 r3 ⟨hsh,_,rfl,by rw [Array.toList_eraseIdxIfInBounds];exact qi i he⟩;refine⟨w',.tuple #[],?_,.tuple .nil,hrel,hst⟩
       simp only [Builtin.delete_,ht,h0,h1,Sem.run_bind,aD ok hd,Result.andThen_ok,cu hw (by simp),hck,gL ok hkd h4,r1,Sem.run_pure]
     ·rename_i hf;simp only [R.ok.injEq,qat] at h;obtain⟨rfl,rfl⟩:=h;rcases fM hk tc hf he with⟨_,h4⟩|⟨j,v0,v1,h3,_⟩
      ·obtain⟨w',r1,r2,r3⟩:=gN (o':=.map es' clock) hw (by simp) tb.P;obtain⟨hrel,hst⟩:=hr.zn (ob:=.map es clock) hg rfl hl (eh hg fun _ _ _ h=>by cases h) (fun _ _ _ h=>by cases h) r2 r3 ⟨hsh,_,rfl,he⟩;refine⟨w',.tuple #[],?_,.tuple .nil,hrel,hst⟩
       simp only [Builtin.delete_,ht,h0,h1,Sem.run_bind,aD ok hd,Result.andThen_ok,cu hw (by simp),hck,gL ok hkd h4,r1,Sem.run_pure]
      ·cases h3
     ·cases h
   ·cases h
 ·cases h
include ok in
theorem CF (hr:Rel ι A w) {t rt:TypeId} {ts:Array TypeId} {x x' v:Value} {args:Array Value} (h:CE tb A t x= .ok (v,A')) (hx:VR ι x x') (ht:ts[0]?=some t) (h0:args[0]?=some x'):
 ∃w' v',(Builtin.clear_ ts rt args).run tb.P w= .ok v' w'∧VR ι v v'∧Rel ι A' w'∧eH ι A w ι A' w':=by
 unfold CE at h;split at h
 ·rename_i d hd;cases hx;simp only [R.ok.injEq,qat] at h;obtain⟨rfl,rfl⟩:=h;refine⟨w,.tuple #[],?_,.tuple .nil,hr,eH.refl ι A w⟩
  simp only [Builtin.clear_,ht,h0,Sem.run_bind,aD ok hd,Result.andThen_ok,Sem.run_pure]
 ·rename_i d b hd;split at h
  ·rename_i es clock hg;simp only [R.ok.injEq,qat] at h;obtain⟨rfl,rfl⟩:=h;cases hx with
   |map hl=>
    obtain⟨o',hw,hsh,es',rfl,he⟩:=hr.obs _ _ _ hg rfl hl;obtain⟨w',r1,r2,r3⟩:=gN (o':=.map #[] clock) hw (by simp) tb.P
    obtain⟨hrel,hst⟩:=hr.zn (ob:=.map [] clock) hg rfl hl (eh hg fun _ _ _ h=>by cases h) (fun _ _ _ h=>by cases h) r2 r3 ⟨hsh, #[],rfl,.nil⟩
    refine⟨w',.tuple #[],?_,.tuple .nil,hrel,hst⟩
    simp only [Builtin.clear_,ht,h0,Sem.run_bind,aD ok hd,Result.andThen_ok,cu hw (by simp),r1,Sem.run_pure]
  ·cases h
 ·rename_i d n c hd;cases hx;simp only [R.ok.injEq,qat] at h;obtain⟨rfl,rfl⟩:=h;refine⟨w,.tuple #[],?_,.tuple .nil,hr,eH.refl ι A w⟩
  simp only [Builtin.clear_,ht,h0,Sem.run_bind,aD ok hd,Result.andThen_ok,Sem.run_pure]
 ·rename_i elem a n c hd;have ha:=hx.ny;cases hb:qaw n 0 with
  |true=>
   obtain rfl:=beq_true hb;rw [hb] at h;simp only [cond_true,R.ok.injEq,qat] at h;obtain⟨rfl,rfl⟩:=h;refine⟨w,.tuple #[],?_,.tuple .nil,hr,eH.refl ι A w⟩
   cases hx<;>simp only [Builtin.clear_,ht,h0,Sem.run_bind,aD ok hd,Result.andThen_ok,Sem.run_pure]
  |false=>
   have hn:=beq_false hb;rw [hb] at h;simp only [cond_false] at h;obtain⟨⟨size,zero⟩,e1,h2⟩:=R.ai h;obtain⟨A2,e2,h3⟩:=R.ai h2;simp only [R.ok.injEq,qat] at h3;obtain⟨rfl,rfl⟩:=h3;obtain⟨hsize,hsz,zv,hzr,hzc,hzv⟩:=hY ok e1;rw [ha] at hx e2;have hrep:=wj (ι:=ι) (hzv ι) n;have hcap:dN c=true∨0<bJ c:=by
    cases hx with
    |sl hl hk=>exact .inl hk
    |slX hl hk hc hsz ho hb hlen=>exact .inr (by omega)
   have core:∃a' cap',x'= .slice (some a') n cap'∧∃w',(storeCells a' ((qdJ (n*zero.length)).map (zv.cells[· % zv.cells.size]!)).toList).run tb.P w= .ok () w'∧Rel ι A2 w'∧eH ι A w ι A2 w':=by
    cases hx with
    |sl hl hk=>
     obtain⟨w',e,r⟩:=fj hr hl e2 hrep tb.P;exact⟨_,_,rfl,w',e,r⟩
    |slX hl hk hc hsz ho hb hlen=>
     have ho':=ho (by omega);subst ho';obtain⟨w',e,r⟩:=fj hr hl e2 hrep tb.P;exact⟨_,_,rfl,w',e,r⟩
   obtain⟨a',cap',rfl,w',e,hrel,hst⟩:=core;refine⟨w',.tuple #[],?_,.tuple .nil,hrel,hst⟩
   have hzs:zv.cells.size=zero.length:=by rw [←hzc];simp
   have hzz:Builtin.zeroCells zv.cells n=(qdJ (n*zero.length)).map (zv.cells[· % zv.cells.size]!):=by
    unfold Builtin.zeroCells;rw [hzs]
   cases n with
   |zero=>exact absurd rfl hn
   |succ n=>
    simp only [Builtin.clear_,ht,h0,Sem.run_bind,aD ok hd,Result.andThen_ok,hzr,hzz,e,Sem.run_pure]
 ·cases h
include ok in
theorem Dm (hr:Rel ι A w) {t:TypeId} {x x' v:Value} (h:tR tb A t x= .ok (v,A')) (hx:VR ι x x') (hfree:eU ι A A'):
 ∃ι' w' v',(Instr.range t x').run tb.P w= .ok v' w'∧VR ι' v v'∧Rel ι' A' w'∧eH ι A w ι' A' w':=by
 unfold tR at h;split at h
 ·rename_i s hd;cases hx;simp only [R.ok.injEq,qat] at h;obtain⟨rfl,rfl⟩:=h;have hfn:ι A.next=none:=hfree A.next (qao _) (by rw [ae];omega)
  obtain⟨ι',e,hrel,hst⟩:=Rel.CG (w':={w with heap:=w.heap.push (.stringIter s 0),drawn:=w.drawn}) (ob:=.sit s 0) (sz:=0) hr hfn (fun _ _ _ h=>by cases h) (iF w _ _ (by simp)) (by simp) (fun ι' hi hb=>⟨rfl,rfl⟩);refine⟨ι',_,.pointer (some ⟨w.heap.size,0,none⟩),?_,.ptr (o:=0) e,hrel,hst⟩;simp only [Instr.range,Sem.run_bind,aD ok hd,Result.andThen_ok,run_newObj,Sem.run_pure]
 ·rename_i kt vt r hd;split at h
  ·rename_i es c hg;cases hx with
   |map hl=>
    rename_i l;simp only [R.ok.injEq,qat] at h;obtain⟨rfl,rfl⟩:=h;have hfn:ι A.next=none:=hfree A.next (qao _) (by rw [ae];omega)
    obtain⟨o',hw,hsh,es',rfl,hes⟩:=hr.obs _ _ _ hg rfl hl;obtain⟨ι',e,hrel,hst⟩:=Rel.CG (w':={w with heap:=w.heap.push (.mapIter (some l.blk) c #[] c),drawn:=w.drawn}) (ob:=.mit r c none) (sz:=0) hr hfn (fun _ _ _ h=>by cases h) (iF w _ _ (by simp)) (by simp) (fun ι' hi hb=>⟨rfl,l,hi _ _ hl,rfl⟩)
    refine⟨ι',_,.pointer (some ⟨w.heap.size,0,none⟩),?_,.ptr (o:=0) e,hrel,hst⟩;simp only [Instr.range,Sem.run_bind,aD ok hd,cu hw (by simp),Result.andThen_ok,run_newObj,Sem.run_pure]
  ·cases h
 ·cases h
variable {m c k:Nat}
theorem A7 (hr:Rel ι A w) {l:Loc} {b:Option Nat} {e:MapEntry} (hg:A.get r=some (.mit m c b)) (hl:ι r=some l) (hm:A.get m=some (.map [e] k)):
 l.sh=0∧∃lm e',ι m=some lm∧w.heap[l.blk]?=some (.mapIter (some lm.blk) c b.toArray c)∧w.heap[lm.blk]?=some (.map #[e'] k)∧VR ι e.key e'.key∧e'.born=e.born∧VR ι e.val e'.val:=by
 obtain⟨o',hw,hsh,lm,hlm,rfl⟩:=hr.obs _ _ _ hg rfl hl;obtain⟨o2,hw2,_,es,rfl,hes⟩:=hr.obs _ _ _ hm rfl hlm;obtain⟨es⟩:=es;cases hes with
 |cons hk hb hv ht=>cases ht;exact⟨hsh,lm,_,hlm,hw,hw2,hk,hb,hv⟩
variable {x':Value}
theorem Ff (hr:Rel ι A w) {x:Value} {isS:Bool} {rt:TypeId} (h:JD A x isS= .ok (v,A')) (hx:VR ι x x') (P:Program):
 ∃w' v',(Instr.next x' isS rt).run P w= .ok v' w'∧VR ι v v'∧Rel ι A' w'∧eH ι A w ι A' w':=by
 unfold JD at h;split at h
 ·rename_i b;cases hx with
  |ptr hl=>
   rename_i l;split at h
   ·rename_i s pos hg;obtain⟨o',hw,hsh,rfl⟩:=hr.obs _ _ _ hg rfl hl;rw [hsh];cases hb:qax pos s.size with
    |true=>
     have hlt:=cS hb;rw [hb] at h;simp only [cond_true,R.ok.injEq,qat] at h;obtain⟨rfl,rfl⟩:=h;obtain⟨w',r1,r2,r3⟩:=gN (o':=.stringIter s (pos+(Utf8.decode s pos).2)) hw (by simp) P;obtain⟨hrel,hst⟩:=hr.zn (ob:=.sit s (pos+(Utf8.decode s pos).2)) hg rfl hl (eh hg fun _ _ _ h=>by cases h) (fun _ _ _ h=>by cases h) r2 r3 ⟨hsh,rfl⟩;refine⟨w',.tuple #[.bool true,goInt pos,.int .i32 (Utf8.decode s pos).1],?_,.tuple (.cons (.bool _) (.cons (.int _ _) (.cons (.int _ _) .nil))),hrel,hst⟩
     simp only [Instr.next,qa8,Sem.run_bind,cu hw (by simp),Result.andThen_ok,if_pos hlt,r1,Sem.run_pure]
    |false=>
     have hlt:=tj hb;rw [hb] at h;simp only [cond_false,R.ok.injEq,qat] at h;obtain⟨rfl,rfl⟩:=h;refine⟨w,.tuple #[.bool false],?_,.tuple (.cons (.bool _) .nil),hr,eH.refl ι A w⟩
     simp only [Instr.next,qa8,Sem.run_bind,cu hw (by simp),Result.andThen_ok,if_neg hlt,Sem.run_pure]
   ·cases h
 ·rename_i r;cases hx with
  |ptr hl=>
   rename_i l;split at h
   case h_2=>cases h
   rename_i m c b hg;split at h
   case h_2=>cases h
   rename_i e k hm;obtain⟨hsh,lm,e',hlm,hw,hw2,hk,hb,hv⟩:=A7 hr hg hl hm;cases hq:(qaw k c&&qax e.born c) with
   |false=>rw [hq] at h;cases h
   |true=>
    rw [hq,cond_true] at h;simp only [qaO] at hq;obtain rfl:=beq_true hq.1;have hlt:=cS hq.2;rw [←hb] at hlt;have hge:¬(k≤e'.born):=by omega
    rw [hsh];cases b with
    |none=>
     simp only [R.ok.injEq,qat] at h;obtain⟨rfl,rfl⟩:=h;obtain⟨w',r1,r2,r3⟩:=gN (o':=.mapIter (some lm.blk) k #[e'.born] k) hw (by simp) P
     obtain⟨hrel,hst⟩:=hr.zn (ob:=.mit m k (some e.born)) hg rfl hl (eh hg fun _ _ _ h=>by cases h) (fun _ _ _ h=>by cases h) r2 r3 ⟨hsh,lm,hlm,by rw [←hb];rfl⟩;refine⟨w',.tuple #[.bool true,e'.key,e'.val],?_,.tuple (.cons (.bool _) (.cons hk (.cons hv .nil))),hrel,hst⟩
     simp [Instr.next,cu hw (by simp),cu hw2 (by simp),Result.andThen_ok,run_choose,Question.forced,Sem.run_bind,Sem.run_pure,hlt,hge,r1]
    |some x=>
     cases hx2:qaw x e.born with
     |false=>simp only [hx2] at h;cases h
     |true=>
      simp only [hx2,cond_true,R.ok.injEq,qat] at h;obtain⟨rfl,rfl⟩:=h;obtain rfl:=beq_true hx2;refine⟨w,.tuple #[.bool false],?_,.tuple (.cons (.bool _) .nil),hr,eH.refl ι A w⟩
      rw [←hb] at hw;simp [Instr.next,cu hw (by simp),cu hw2 (by simp),Result.andThen_ok,run_choose,Question.forced,Sem.run_bind,Sem.run_pure,hlt,hge]
 ·cases h
theorem CK (hr:Rel ι A w) {x:Value} (h:CJ A x= .ok (v,A')) (hx:VR ι x x') (P:Program):
 ∃w' v',(Instr.entry x').run P w= .ok v' w'∧VR ι v v'∧Rel ι A' w'∧eH ι A w ι A' w':=by
 unfold CJ at h;split at h
 case h_2=>cases h
 rename_i r;cases hx with
 |ptr hl=>
  rename_i l;split at h
  case h_2=>cases h
  rename_i m c x hg;split at h
  case h_2=>cases h
  rename_i e k hm;obtain⟨hsh,lm,e',hlm,hw,hw2,hk,hb,hv⟩:=A7 hr hg hl hm;cases hq:(qaw k c&&qaw x e.born) with
  |false=>rw [hq] at h;cases h
  |true=>
   rw [hq] at h;simp only [cond_true,R.ok.injEq,qat] at h;obtain⟨rfl,rfl⟩:=h;simp only [qaO] at hq;obtain rfl:=beq_true hq.1;obtain rfl:=beq_true hq.2;rw [hsh];refine⟨w,.tuple #[e'.key,e'.val],?_,.tuple (.cons hk (.cons hv .nil)),hr,eH.refl ι A w⟩
   rw [←hb] at hw;simp [Instr.entry,cu hw (by simp),cu hw2 (by simp),Result.andThen_ok,Sem.run_bind,Sem.run_pure]
end
section
variable {tb:bO} (ok:cC tb) {ι:de} {A A':Mem} {w:World}
theorem qn (P:Program) (w:World):∀(vs vs':List Value) (l:List UInt8) (a:Addr) (acc:ByteArray),bytesOf vs= .ok l→dv ι vs vs'→(∀j v,vs'[j]?=some v→w.cell? (a.add j)=some v)→
 (loadBytes a acc vs.length).run P w= .ok ⟨⟨acc.data.toList++l⟩⟩ w
 | [],_,l,a,acc,h,.nil,_=>by
  simp only [bytesOf,R.ok.injEq] at h;subst h;simp [loadBytes]
 |v::vs,_,l,a,acc,h,.cons hv ht,hc=>by
  unfold bytesOf at h;split at h
  ·rename_i heq;cases heq
  ·rename_i n vs2 heq;simp only [qa4] at heq;obtain⟨rfl,rfl⟩:=heq;obtain⟨l',h1,h2⟩:=R.ai h;simp only [R.ok.injEq] at h2;subst h2;cases hv;have h0:w.cell? a=some _:=hc 0 _ rfl;have ih:=qn P w vs _ l' (a.add 1) (acc.push (qaW n).toNat.toUInt8) h1 ht (fun j v hj=>by
    have:=hc (j+1) v (by simpa using hj);have e:(a.add 1).add j=a.add (j+1):=by
     unfold Addr.add;by_cases hj:j=0
     ·subst hj;simp
     ·simp [hj];omega
    rw [e];exact this)
   simp only [qaA,loadBytes,Sem.run_bind,xV h0,Result.andThen_ok];rw [ih];congr 1;apply ByteArray.ext;apply qbT;simp [ByteArray.data_push]
  ·cases h
variable {d:Nat}
theorem vw {P:Program} (t:TypeId):sameLayout P (d+1) t t=true:=by
 simp [sameLayout]
variable {n:Nat}
theorem Db {P:Program} {t:TypeId} {off cells:Nat} (hs:P.cellsOf t=1) (h:off+n≤cells):liesAt P P.depth t (cells/P.cellsOf t) off t n=true:=by
 have hd:P.depth=(2*(P.types.size+Made.depth)+1)+1:=rfl;have h1:rowAt P (sameLayout P P.depth · t) P.depth t (cells/P.cellsOf t) off n=true:=by
  have e:∀d,rowAt P (sameLayout P P.depth · t) (d+1) t (cells/P.cellsOf t) off n=true:=?_
  ·rw [hd];rw [←hd];exact(hd▸e _:rowAt P (sameLayout P P.depth · t) P.depth t (cells/P.cellsOf t) off n=true)
  intro d;rw [rowAt];simp only [hs,Nat.one_ne_zero,if_false,Nat.div_one,Nat.mod_one,beq_self_eq_true,qcs];have:sameLayout P P.depth t t=true:=by rw [hd];exact vw t
  rw [this];simp [h]
 rw [hd,liesAt,h1];rfl
include ok in
theorem Gi (hr:Rel ι A w) {pt rt:TypeId} {ts:Array TypeId} {x x' n n' v:Value} {args:Array Value} (h:zq tb A pt x n= .ok (v,A')) (hx:VR ι x x') (hn:VR ι n n')
 (ht:ts[0]?=some pt) (ha:args= #[x',n']):
 ∃w' v',(Builtin.unsafeString_ ts rt args).run tb.P w= .ok v' w'∧VR ι v v'∧Rel ι A' w'∧eH ι A w ι A' w':=by
 subst ha;unfold zq at h;obtain⟨m,h1,h2⟩:=R.ai h;obtain⟨k,rfl,rfl⟩:=iA h1 hn;clear h;split at h2
 ·rename_i a e hd;cases hx with
  |ptr hl=>
   rename_i b o l;simp only at h2;split at h2
   ·rename_i t xk fz c _ hg hde;obtain⟨size,h3,h4⟩:=R.ai h2;cases hb:(qaw t e&&qaw size 1&&qax 0 m&&qaq m 16777216&&(qax fz 9223372036854775808&&qax (o+m) 9223372036854775808)) with
    |false=>rw [hb] at h4;cases h4
    |true=>
     rw [hb] at h4;simp only [cond_true] at h4;simp only [qaO] at hb;obtain rfl:=beq_true hb.1.1.1.1;have hs1:=beq_true hb.1.1.1.2;have hm0:=cS hb.1.1.2;have hmax:=cR hb.1.2;have hfzb:=cS hb.2.1;have hofb:=cS hb.2.2;split at h4
     ·rename_i vs hvs;split at h4
      ·cases h4
      ·rename_i hnm;obtain⟨bs,h5,h6⟩:=R.ai h4;simp only [R.ok.injEq,qat] at h6;obtain⟨rfl,rfl⟩:=h6;obtain⟨o',hw,hor⟩:=hr.obs _ _ _ hg rfl hl;obtain⟨cs,fr,rfl,hcs,hcell,hfr⟩:=hor;obtain⟨q1,q2⟩:=T.mz _ _ _ _ hvs;have hcs2:∀j,j<m→∃u,cs[o+j+l.sh]?=some u∧∀v,vs[j]?=some v→VR ι v u:=by
        intro j hj;have hj':j<vs.length:=by omega
        have e:=q2 j hj;rw [qan hj'] at e;obtain⟨u,e1,r⟩:=hcell _ _ e;exact⟨u,e1,fun v hv=>by rw [qan hj'] at hv;cases hv;exact r⟩
       have hbound:o+l.sh+m≤cs.size:=by
        obtain⟨u,e,_⟩:=hcs2 (m-1) (by omega);have:=(qaM.1 e).1;omega
       let vs':=(cs.toList.drop (o+l.sh)).take m;have hvr:dv ι vs vs':=by
        refine dv.yd ?_ fun j v v' hv hv'=>?_
        ·simp only [vs',qaE,qc3,qb5];omega
        ·have hj:j<m:=by
          rcases qaZ j m with h|h
          ·exact h
          ·rw [qbc (by omega)] at hv;cases hv
         obtain⟨u,e,r⟩:=hcs2 j hj;simp only [vs'] at hv';rw [qdr hj,qcc,qaU,show o+l.sh+j=o+j+l.sh by omega,e] at hv';cases hv';exact r v hv
       have hlb:=qn tb.P w vs vs' bs ⟨l.blk,o+l.sh,none⟩ .empty h5 hvr (fun j v hv=>by
        have hj:j<m:=by
         rcases qaZ j m with h|h
         ·exact h
         ·simp only [vs'] at hv;rw [qbc (by simp only [qaE];omega)] at hv;cases hv
        simp only [vs'] at hv;rw [qdr hj,qcc,qaU] at hv;rw [cH];simp only [World.cell?,hw,qbI,qaI,if_false];exact hv)
       rw [q1] at hlb;have hcellsOf:tb.P.cellsOf t=1:=by
        unfold aR at h3;split at h3
        ·rename_i i hi;simp only [R.ok.injEq] at h3;simp only [Program.cellsOf,ok.ty t i hi,qa5,qbG];omega
        ·cases h3
       have hlies:=Db (P:=tb.P) (t:=t) (n:=m) (off:=o+l.sh) (cells:=cs.size) hcellsOf hbound;have hva:(variablesAt ⟨l.blk,o+l.sh,none⟩ t m).run tb.P w= .ok true w:=by
        simp only [variablesAt,Sem.run_bind,run_program,run_shape,y7 hw,Result.andThen_ok,Sem.run_pure,hlies]
       let fr':Nat×Nat:=if fr.1==fr.2 then(o+l.sh,o+l.sh+m) else(min fr.1 (o+l.sh),max fr.2 (o+l.sh+m))
       have hwf:Wu w (w.freeze ⟨l.blk,o+l.sh,none⟩ m) l.blk (.cells cs t fr')∧(w.freeze ⟨l.blk,o+l.sh,none⟩ m).heap.size=w.heap.size:=by
        have hm0':¬(m=0):=by omega
        refine⟨⟨?_,?_,fun k hk hne=>?_,?_,?_,?_⟩,?_⟩<;>simp only [World.freeze,if_neg hm0']
        ·simp
        ·simp [qdS,hw,fr']
        ·simp [qdS,Ne.symm hne]
        ·simp
       obtain⟨hrel,hst⟩:=hr.zn (ob:=.cells t .row (bif qaq fz (o+m) then o+m else fz) c) hg rfl hl (eh hg fun t2 fz2 c2 e=>by cases e;exact .inl hfzb) (fun t' k c' h=>by
        exfalso;have h2:(bif qaq fz (o+m) then o+m else fz)=GB k:=by injection h
        unfold GB at h2;cases hq:qaq fz (o+m) with
        |true=>rw [hq,cond_true] at h2;omega
        |false=>rw [hq,cond_false] at h2;omega) hwf.1 hwf.2 ⟨cs,fr',rfl,hcs,hcell,by
        have hfz:o+m≤(bif qaq fz (o+m) then o+m else fz)∧fz≤(bif qaq fz (o+m) then o+m else fz):=by
         cases hq:qaq fz (o+m) with
         |true=>have:=cR hq;simp only [cond_true];omega
         |false=>have:=tf hq;simp only [cond_false];omega
        have hfr2:fr.2≤l.sh+fz:=by
         cases xk with
         |var n=>obtain⟨_,_,rfl⟩:=hfr;simp
         |row=>exact hfr
         |mark=>exact absurd rfl hnm
         |room n=>exact hfr.1
        simp only [fr'];split<;>simp only<;>omega⟩
       refine⟨_,aj bs,?_,.string _,hrel,hst⟩;have hel:(elemOf pt).run tb.P w= .ok t w:=by simp only [elemOf,Sem.run_bind,aD ok hd,Result.andThen_ok,Sem.run_pure]
       have c1:¬(qaW m<0):=by simp only [qa2];omega
       have c2:¬(qaW m>IntKind.i64.max):=by simp only [qa2,IntKind.max,IntKind.signed,IntKind.bits,if_true];omega
       have c3:¬(qaW m=0):=by simp only [qa2];omega
       have tn:(qaW m).toNat=m:=rfl;change Sem.run tb.P (Bind.bind (asInt (.int k (.ofNat m))) _) w=_;simp only [asInt,asIntOf,Sem.run_bind,Sem.run_pure,Result.andThen_ok,ht,if_neg c1,if_neg c2,if_neg c3,hel,tn,hva,if_true,hlb,run_freeze];simp [aj]
     ·cases h4
   ·cases h2
 ·cases hb:qaw m 0 with
  |false=>rw [hb] at h2;cases h2
  |true=>
   rw [hb,cond_true] at h2;simp only [R.ok.injEq,qat] at h2;obtain⟨rfl,rfl⟩:=h2;obtain rfl:=qaL hb;cases hx;refine⟨w,_,?_,.string _,hr,eH.refl _ _ _⟩;change Sem.run tb.P (Bind.bind (asInt (.int k (.ofNat 0))) _) w=_;simp only [asInt,asIntOf,Sem.run_bind,Sem.run_pure,Result.andThen_ok,ht];rfl
 ·cases h2
def YY (nx:Next) (v:Value):Prop:=nx= .value v∨nx= .skip∧v=undef
include ok in
theorem u_ (hr:Rel ι A w) {b:Builtin} {ts:Array TypeId} {cs:Array Bool} {rt:TypeId} {args:List Value} {args':Array Value} {v:Value} (h:gJ tb A b ts.toList args= .ok (v,A')) (ha:dv ι args args'.toList) (hfree:eU ι A A'):
 ∃ι' w' v',(builtin b ts rt cs args').run tb.P w= .ok (.value v') w'∧VR ι' v v'∧Rel ι' A' w'∧eH ι A w ι' A' w':=by
 have wrap:∀{s:Sem Value},(∃ι' w' v',s.run tb.P w= .ok v' w'∧VR ι' v v'∧Rel ι' A' w'∧eH ι A w ι' A' w')→
  ∃ι' w' v',(do pure (Next.value (←s)):Sem Next).run tb.P w= .ok (.value v') w'∧VR ι' v v'∧Rel ι' A' w'∧eH ι A w ι' A' w':=by
  rintro s ⟨ι',w',v',e,r⟩;exact⟨ι',w',v',by simp only [Sem.run_bind,e,Result.andThen_ok,Sem.run_pure],r⟩
 have wrap0:∀{s:Sem Value},(∃w' v',s.run tb.P w= .ok v' w'∧VR ι v v'∧Rel ι A' w'∧eH ι A w ι A' w')→
  ∃ι' w' v',(do pure (Next.value (←s)):Sem Next).run tb.P w= .ok (.value v') w'∧VR ι' v v'∧Rel ι' A' w'∧eH ι A w ι' A' w':=by
  rintro s ⟨w',v',h⟩;exact wrap ⟨ι,w',v',h⟩
 have tsn:∀{t:TypeId} {i:Nat} {l:List TypeId},ts.toList=l→l[i]?=some t→ts[i]?=some t:=by
  rintro t i l rfl e;rw [←qaU];exact e
 have asn:∀{x:Value} {i:Nat} {l:List Value},args'.toList=l→l[i]?=some x→args'[i]?=some x:=by
  rintro t i l rfl e;rw [←qaU];exact e
 unfold gJ at h;split at h
 ·rename_i st xt tl s x sl hts;obtain⟨s',t1,e,hs,h1⟩:=ha.cons_inv;obtain⟨x',t2,e2,hx,h2⟩:=h1.cons_inv;subst e2;exact wrap (zL ok hr h hs hx (tsn hts rfl) (tsn hts rfl) (asn e rfl) (asn e rfl) hfree)
 ·rename_i dt tl d s sl hts;obtain⟨d',t1,e,hd,h1⟩:=ha.cons_inv;obtain⟨s',t2,e2,hs,h2⟩:=h1.cons_inv;subst e2;exact wrap0 (Es ok hr h hd hs (tsn hts rfl) (asn e rfl) (asn e rfl))
 ·rename_i t tl x xl hts;obtain⟨x',t1,e,hx,h1⟩:=ha.cons_inv;exact wrap0 (CF ok hr h hx (tsn hts rfl) (asn e rfl))
 ·rename_i t tl m k kl hts;obtain⟨m',t1,e,hm,h1⟩:=ha.cons_inv;obtain⟨k',t2,e2,hk,h2⟩:=h1.cons_inv;subst e2;exact wrap0 (zQ ok hr h hm hk (tsn hts rfl) (asn e rfl) (asn e rfl))
 ·rename_i t tl x n hts;obtain⟨x',t1,e,hx,h1⟩:=ha.cons_inv;obtain⟨n',t2,e2,hn,h2⟩:=h1.cons_inv;subst e2;cases h2;exact wrap0 (Gi ok hr h hx hn (tsn hts rfl) (by apply qbT;exact e))
 ·cases h
include ok in
theorem Lj (hr:Rel ι A w) {n:Nat} {τ:T Value} {a:Act} {o:Oper} {v:Value} (h:HI tb τ A o.op= .ok (v,A')) (ht:TR ι n τ a.tmps) (hfree:eU ι A A'):
 ∃ι' w' nx v',(execOp a.eval o).run tb.P w= .ok nx w'∧YY nx v'∧VR ι' v v'∧Rel ι' A' w'∧eH ι A w ι' A' w':=by
 have unit:∀{s:Sem Unit},(∃w',s.run tb.P w= .ok () w'∧Rel ι A' w'∧eH ι A w ι A' w')→
  ∃ι' w' nx v',(do s;pure .skip:Sem Next).run tb.P w= .ok nx w'∧YY nx v'∧VR ι' bL v'∧Rel ι' A' w'∧eH ι A w ι' A' w':=by
  rintro s ⟨w',e,r⟩;exact⟨ι,w',.skip,undef,by simp only [Sem.run_bind,e,Result.andThen_ok,Sem.run_pure],.inr ⟨rfl,rfl⟩,.tuple .nil,r⟩
 have val:∀{s:Sem Value},(∃ι' w' v',s.run tb.P w= .ok v' w'∧VR ι' v v'∧Rel ι' A' w'∧eH ι A w ι' A' w')→
  ∃ι' w' nx v',(do pure (Next.value (←s)):Sem Next).run tb.P w= .ok nx w'∧YY nx v'∧VR ι' v v'∧Rel ι' A' w'∧eH ι A w ι' A' w':=by
  rintro s ⟨ι',w',v',e,r⟩;exact⟨ι',w',_,v',by simp only [Sem.run_bind,e,Result.andThen_ok,Sem.run_pure],.inl rfl,r⟩
 unfold HI at h;split at h<;>rename_i hop<;>simp only [execOp,hop]
 ·obtain⟨x,h1,h2⟩:=R.ai h;obtain⟨u,h3,h4⟩:=R.ai h2;obtain⟨A2,h5,h6⟩:=R.ai h4;simp only [R.ok.injEq,qat] at h6;obtain⟨rfl,rfl⟩:=h6;exact unit (DH ok hr h5 (aS h1 ht) (aS h3 ht))
 ·obtain⟨m,h1,h2⟩:=R.ai h;obtain⟨k,h3,h4⟩:=R.ai h2;obtain⟨u,h5,h6⟩:=R.ai h4;obtain⟨A2,h7,h8⟩:=R.ai h6;simp only [R.ok.injEq,qat] at h8;obtain⟨rfl,rfl⟩:=h8;exact unit (mF ok hr h7 (aS h1 ht) (aS h3 ht) (aS h5 ht))
 ·obtain⟨m,h1,h2⟩:=R.ai h;obtain⟨k,h3,h4⟩:=R.ai h2;obtain⟨u,h5,h6⟩:=R.ai h4;obtain⟨A2,h7,h8⟩:=R.ai h6;simp only [R.ok.injEq,qat] at h8;obtain⟨rfl,rfl⟩:=h8;exact unit (mF ok hr h7 (aS h1 ht) (aS h3 ht) (aS h5 ht))
 ·obtain⟨x,h1,h2⟩:=R.ai h;exact val (Dm ok hr h2 (aS h1 ht) hfree)
 ·obtain⟨x,h1,h2⟩:=R.ai h;obtain⟨w',v',r⟩:=Ff (rt:=o.type) hr h2 (aS h1 ht) tb.P;exact val ⟨ι,w',v',r⟩
 ·obtain⟨x,h1,h2⟩:=R.ai h;obtain⟨w',v',r⟩:=CK hr h2 (aS h1 ht) tb.P;exact val ⟨ι,w',v',r⟩
 ·rename_i c;split at h
  ·rename_i b hb;obtain⟨args,h1,h2⟩:=R.ai h;have ha:=ik h1 ht;obtain⟨ι',w',v',e,r⟩:=u_ ok hr (cs:=c.args.map fun| .const _=>true|_=>false) (rt:=o.type) (args':=c.args.map a.eval) h2 (by simpa using ha) hfree;refine⟨ι',w',_,v',?_,.inl rfl,r⟩;simp only [resolve,hb,Sem.run_bind,Sem.run_pure,Result.andThen_ok,invoke];exact e
  ·cases h
 ·cases h
end
section
variable {tb:bO} (ok:cC tb) {ι:de} {A:Mem} {w:World}
inductive WK (ι:de):Pl→Place→Prop
 |val {v v':Value} (h:VR ι v v'):WK ι (.val v) (.val v')
 |var {a a':Addr} (h:VR ι (.pointer (some a)) (.pointer (some a'))):WK ι (.var a) (.var a')
include ok in
theorem gR (hr:Rel ι A w) {t:TypeId} {x:Pl} {x':Place} {v:Value} (h:x.get tb A.get t= .ok v) (hx:WK ι x x'):∃v',(x'.get t).run tb.P w= .ok v' w∧VR ι v v':=by
 cases hx with
 |val hv=>simp only [Pl.get,R.ok.injEq] at h;subst h;exact⟨_,rfl,hv⟩
 |var ha=>
  simp only [Pl.get] at h;obtain⟨v',e,r⟩:=iY ok hr h ha;refine⟨v',?_,r⟩;simpa only [Place.get,Instr.loadAt,Instr.sureAddr,Sem.run_bind,Sem.run_pure,Result.andThen_ok] using e
include ok in
theorem gv (hr:Rel ι A w):∀{path:List FieldStep} {t:TypeId} {x:Pl} {x':Place} {r:TypeId×Pl},lh tb A.get path t x= .ok r→WK ι x x'→
 ∃y',(follow path t x').run tb.P w= .ok (r.1,y') w∧WK ι r.2 y'
 | [],t,x,x',r,h,hx=>by
  simp only [lh,R.ok.injEq] at h;subst h;exact⟨x',rfl,hx⟩
 |s::rest,t,x,x',r,h,hx=>by
  unfold lh at h;split at h
  ·rename_i fs hd;split at h
   ·rename_i f hf;have hf':fs[s.index]?=some f:=by rw [←qaU];exact hf
    obtain⟨n,h1,h2⟩:=R.ai h;clear h;split at h2
    ·rename_i hdr;obtain⟨v,h3,h4⟩:=R.ai h2;obtain⟨v',e1,rv⟩:=gR ok hr h3 hx;split at h4
     ·rename_i a;split at h4
      ·rename_i hsp;cases hb:qaw n 0 with
       |true=>rw [hb] at h4;cases h4
       |false=>
        rw [hb] at h4;simp only [cond_false] at h4;cases rv with
        |ptr hl=>
         rename_i b o l;obtain⟨y',e2,r2⟩:=gv hr h4 (x':=.var ⟨l.blk,o+l.sh+f.offset,none⟩) (.var (by
          have:=VR.ptr (ι:=ι) (o:=o+f.offset) hl;rw [qcd] at this;exact this))
         refine⟨y',?_,r2⟩;simp only [follow,Sem.run_bind,aD ok hd,Result.andThen_ok,hf',hdr,if_true,e1,asAddr,Sem.run_pure,fieldPlace,b7 ok h1,if_neg (beq_false hb),cH];exact e2
      ·cases h4
     ·cases h4
    ·rename_i hdr;split at h2
     ·rename_i a;split at h2
      ·rename_i hsp;cases hb:qaw n 0 with
       |true=>rw [hb] at h2;cases h2
       |false=>
        rw [hb] at h2;simp only [cond_false] at h2;cases hx with
        |var ha=>
         cases ha with
         |ptr hl=>
          rename_i b o l;obtain⟨y',e2,r2⟩:=gv hr h2 (x':=.var ⟨l.blk,o+l.sh+f.offset,none⟩) (.var (by
           have:=VR.ptr (ι:=ι) (o:=o+f.offset) hl;rw [qcd] at this;exact this))
          refine⟨y',?_,r2⟩;simp only [follow,Sem.run_bind,aD ok hd,Result.andThen_ok,hf',hdr,qaI,if_false,Sem.run_pure,fieldPlace,b7 ok h1,if_neg (beq_false hb),cH];exact e2
      ·cases h2
     ·rename_i cs;obtain⟨v,h3,h4⟩:=R.ai h2;cases hx with
      |val hv=>
       cases hv with
       |agg hcs=>
        obtain⟨v',e1,rv⟩:=fT ok h3 hcs;obtain⟨y',e2,r2⟩:=gv hr h4 (.val rv);refine⟨y',?_,r2⟩;simp only [follow,Sem.run_bind,aD ok hd,Result.andThen_ok,hf',hdr,qaI,if_false,e1];exact e2
     ·cases h2
   ·cases h
  ·cases h
include ok in
theorem nY (hr:Rel ι A w) {xt:TypeId} {x:Pl} {x':Place} {ptr:Bool} {wr:Option String} {v:Value} (h:pS tb A.get xt x ptr= .ok v) (hx:WK ι x x'):
 ∃v',(receiverAt xt x' ptr wr).run tb.P w= .ok v' w∧VR ι v v':=by
 unfold pS at h;split at h
 ·rename_i e hd;obtain⟨v',e1,r⟩:=gR ok hr h hx;refine⟨v',?_,r⟩;simp only [receiverAt,Sem.run_bind,aD ok hd,Result.andThen_ok];exact e1
 ·rename_i elem hd;obtain⟨u,h1,h2⟩:=R.ai h;obtain⟨u',e1,ru⟩:=gR ok hr h1 hx;split at h2
  ·rename_i a;have ru0:=ru;cases ru with
   |ptr hl=>
    obtain⟨v',e2,rv⟩:=iY ok hr h2 ru0;refine⟨v',?_,rv⟩;have e3:∀(nm:String) (p:Addr),(Builtin.ssaWrapNilChk_ #[xt] xt #[.pointer (some p),strVal "",strVal nm]).run tb.P w= .ok (.pointer (some p)) w:=fun nm p=>rfl
    simp only [Instr.loadAt,Instr.sureAddr,Sem.run_bind,Sem.run_pure,Result.andThen_ok] at e2;cases wr with
    |none=>
     simp only [receiverAt,Sem.run_bind,aD ok hd,Result.andThen_ok,e1,Sem.run_pure,asAddr];exact e2
    |some nm=>
     simp only [receiverAt,Sem.run_bind,aD ok hd,Result.andThen_ok,e1,e3,asAddr,Sem.run_pure];exact e2
  ·cases h2
 ·rename_i d hne a hd;simp only [R.ok.injEq] at h;subst h;cases hx with
  |var ha=>
   refine⟨_,?_,ha⟩;simp only [receiverAt,Sem.run_bind,aD ok hd,Result.andThen_ok];cases d<;>first|rfl|exact absurd rfl (hne _)
 ·cases h
 ·rename_i d hne hd;obtain⟨v',e1,r⟩:=gR ok hr h hx;refine⟨v',?_,r⟩;simp only [receiverAt,Sem.run_bind,aD ok hd,Result.andThen_ok];cases d<;>first|(cases hx<;>exact e1)|exact absurd rfl (hne _)
 ·cases h
end
section
variable {tb:bO} (ok:cC tb) {ι:de} {A:Mem} {w:World}
include ok in
theorem qp (hr:Rel ι A w):∀(d:Nat) {t:TypeId} {v v':Value} {name:String} {f:FuncId} {r:Value},wi tb A.get d t v name= .ok (f,r)→VR ι v v'→∀e,d≤e→
 ∃r',(method e t v' name).run tb.P w= .ok (f,r') w∧VR ι r r'
 |0,t,v,v',name,f,r,h,_,_,_=>by cases h
 |d+1,t,v,v',name,f,r,h,hv,e,hle=>by
  obtain⟨e,rfl⟩:∃e',e=e'+1:=⟨e-1,by omega⟩;unfold wi at h;split at h
  ·cases h
  ·rename_i i hi;split at h
   ·cases h
   ·rename_i m hm;have hm':i.methods.find? (fun m=>m.name==name)=some m:=by rw [←Array.find?_toList];exact hm
    obtain⟨⟨xt,x⟩,h1,h2⟩:=R.ai h;obtain⟨y',e1,hy⟩:=gv ok hr h1 (.val hv);simp only at e1 hy h2;split at h2
    ·rename_i hf;obtain⟨u,h3,h4⟩:=R.ai h2;obtain⟨u',e2,hu⟩:=gR ok hr h3 hy;split at h4
     ·rename_i t' v0;cases hu with
      |iface hv0=>
       obtain⟨r',e3,hr'⟩:=qp hr d h4 hv0 e (by omega);refine⟨r',?_,hr'⟩;simp only [method,Sem.run_bind,fP ok hi,Result.andThen_ok,hm',e1,hf,e2];exact e3
     ·cases h4
    ·rename_i g ptr hf;obtain⟨u,h3,h4⟩:=R.ai h2;simp only [R.ok.injEq,qat] at h4;obtain⟨rfl,rfl⟩:=h4;obtain⟨r',e2,hr'⟩:=nY ok hr (wr:=if m.path.isEmpty then some ((name.splitOn ".").getLastD name) else none) h3 hy;refine⟨r',?_,hr'⟩;simp only [method,Sem.run_bind,fP ok hi,Result.andThen_ok,hm',e1,hf,e2,Sem.run_pure]
def T_ (P:Program) (ι:de) (w:World) (cl:Cl) (s:Sem Next):Prop:=
 match cl with
 | .fn f args=>∃args':Array Value,s.run P w=(callFunc f args').run P w∧dv ι args args'.toList
 | .round l args=>∃(ld:Loc) (args':Array Value),ι l=some ld∧s.run P w=(Instr.yield ld.blk args').run P w∧dv ι args args'.toList
include ok in
theorem gW (hr:Rel ι A w) {recv recv':Value} {name:String} {args:List Value} {args':Array Value} {cl:Cl} (h:mG tb A.get recv name args= .ok cl) (hv:VR ι recv recv') (ha:dv ι args args'.toList):
 T_ tb.P ι w cl (callMethod recv' name args'):=by
 unfold mG at h;split at h
 ·rename_i t v;obtain⟨⟨f,r⟩,h1,h2⟩:=R.ai h;simp only [R.ok.injEq] at h2;subst h2;cases hv with
  |iface hv0=>
   obtain⟨r',e,hr'⟩:=qp ok hr 100 h1 hv0 (tb.P.types.size+Made.depth) (by unfold Made.depth;omega);refine⟨#[r']++args',?_,by simpa using dv.cons hr' ha⟩
   simp only [callMethod,Sem.run_bind,run_program,Result.andThen_ok,e]
 ·cases h
include ok in
theorem qh (hr:Rel ι A w) {v v':Value} {args:List Value} {args':Array Value} {cl:Cl} (h:iG tb A.get v args= .ok cl) (hv:VR ι v v') (ha:dv ι args args'.toList):
 T_ tb.P ι w cl (do let d←Deferred.ofValue v' args';invoke d.target d.args):=by
 unfold iG at h;split at h
 ·rename_i f first cap
  simp only [R.ok.injEq] at h;subst h;cases hv with
  |func hf h1 h2=>
   rename_i a' b';refine⟨a'++args'++b',?_,?_⟩
   ·simp only [Deferred.ofValue,Sem.run_bind,Sem.run_pure,Result.andThen_ok,invoke]
   ·simpa using (h1.append ha).append h2
 ·rename_i l first cap
  simp only [R.ok.injEq] at h;subst h;cases hv with
  |func hf _ _=>exact hf.elim
  |yield hl=>
   refine⟨_,args',hl,?_,ha⟩;simp only [Deferred.ofValue,Sem.run_bind,Sem.run_pure,Result.andThen_ok,invoke];congr 1;congr 1;simp
 ·rename_i name first cap
  cases hv with
  |func hf h1 h2=>
   rename_i a' b';have hall:=h1.append ha;split at h
   ·rename_i recv rest heq;rw [heq] at hall;obtain⟨recv',t',e,hrv,hrest⟩:=hall.cons_inv;have he:(a'++args')=(recv'::t').toArray:=by apply qbT;simpa using e
    have hm:=gW ok hr (args':=t'.toArray) h hrv (by simpa using hrest);have hrun:(do let d←Deferred.ofValue (.func (.method name) a' b') args';invoke d.target d.args:Sem Next).run tb.P w=(callMethod recv' name t'.toArray).run tb.P w:=by
     simp only [Deferred.ofValue,Sem.run_bind,Sem.run_pure,Result.andThen_ok,invoke,he];simp
    cases cl with
    |fn f args0=>obtain⟨x,e1,e2⟩:=hm;exact⟨x,hrun.trans e1,e2⟩
    |round l args0=>obtain⟨x,y,e0,e1,e2⟩:=hm;exact⟨x,y,e0,hrun.trans e1,e2⟩
   ·cases h
 ·rename_i t name first cap
  cases hv with
  |func hf h1 h2=>
   rename_i a' b';have hall:=h1.append ha;split at h
   ·rename_i recv rest heq;rw [heq] at hall;obtain⟨recv',t',e,hrv,hrest⟩:=hall.cons_inv;have he:(a'++args')=(recv'::t').toArray:=by apply qbT;simpa using e
    split at h
    ·rename_i ms hd;have hm:=gW ok hr (args':=t'.toArray) h hrv (by simpa using hrest);have hrun:(do let d←Deferred.ofValue (.func (.methodOf t name) a' b') args';invoke d.target d.args:Sem Next).run tb.P w=(callMethod recv' name t'.toArray).run tb.P w:=by
      simp only [Deferred.ofValue,Sem.run_bind,Sem.run_pure,Result.andThen_ok,invoke,he];simp [aD ok hd]
     cases cl with
     |fn f args0=>obtain⟨x,e1,e2⟩:=hm;exact⟨x,hrun.trans e1,e2⟩
     |round l args0=>obtain⟨x,y,e0,e1,e2⟩:=hm;exact⟨x,y,e0,hrun.trans e1,e2⟩
    ·rename_i d hne hd;have hm:=gW ok hr (args':=t'.toArray) h (.iface hrv) (by simpa using hrest);have hrun:(do let d←Deferred.ofValue (.func (.methodOf t name) a' b') args';invoke d.target d.args:Sem Next).run tb.P w=(callMethod (.iface t recv') name t'.toArray).run tb.P w:=by
      simp only [Deferred.ofValue,Sem.run_bind,Sem.run_pure,Result.andThen_ok,invoke,he];simp [aD ok hd]
     cases cl with
     |fn f args0=>obtain⟨x,e1,e2⟩:=hm;exact⟨x,hrun.trans e1,e2⟩
     |round l args0=>obtain⟨x,y,e0,e1,e2⟩:=hm;exact⟨x,y,e0,hrun.trans e1,e2⟩
    ·cases h
   ·cases h
 ·rename_i t path f ptr first cap
  cases hv with
  |func hf h1 h2=>
   rename_i a' b';have hall:=h1.append ha;split at h
   ·rename_i x rest heq;rw [heq] at hall;obtain⟨x',t',e,hxv,hrest⟩:=hall.cons_inv;have he:(a'++args')=(x'::t').toArray:=by apply qbT;simpa using e
    obtain⟨⟨xt,y⟩,h3,h4⟩:=R.ai h;obtain⟨r,h5,h6⟩:=R.ai h4;simp only [R.ok.injEq] at h6;subst h6;obtain⟨y',e1,hy⟩:=gv ok hr h3 (.val hxv);obtain⟨r',e2,hr'⟩:=nY ok hr (wr:=none) h5 hy;refine⟨#[r']++t'.toArray,?_,by simpa using dv.cons hr' hrest⟩
    have hrv:(receiverVia t x' path ptr).run tb.P w= .ok r' w:=by
     simp only [receiverVia,Sem.run_bind,e1,Result.andThen_ok];exact e2
    simp only [Deferred.ofValue,Sem.run_bind,Sem.run_pure,Result.andThen_ok,invoke,he];simp [hrv]
   ·cases h
 ·cases h
include ok in
theorem xc (hr:Rel ι A w) {n:Nat} {τ:T Value} {a:Act} {o:Oper} {c:Call} {cl:Cl} (hc:iz o.op=some c) (h:w_ tb τ A.get c= .ok cl) (ht:TR ι n τ a.tmps):
 T_ tb.P ι w cl (execOp a.eval o):=by
 have hop:o.op= .call c∧∀b,c.callee≠ .builtin b:=by
  unfold iz at hc;split at hc
  ·rename_i c0 ho;split at hc
   ·cases hc
   ·rename_i hb;simp only [qaX] at hc;subst hc;exact⟨ho,fun b hb'=>hb b hb'⟩
  ·cases hc
 obtain⟨hop,hnb⟩:=hop;unfold w_ at h;obtain⟨args,h1,h2⟩:=R.ai h;have ha:=ik h1 ht;have ha':dv ι args (c.args.map a.eval).toList:=by simpa using ha
 split at h2
 ·rename_i f hcal;obtain⟨fv,h3,h4⟩:=R.ai h2;have:=qh ok hr h4 (aS h3 ht) ha';have e:execOp a.eval o=(do let d←Deferred.ofValue (a.eval f) (c.args.map a.eval);invoke d.target d.args):=by
   simp only [execOp,hop,resolve,hcal]
  rw [e];exact this
 ·rename_i r name hcal;obtain⟨rv,h3,h4⟩:=R.ai h2;obtain⟨L,hL⟩:∃L:List Value,c.args.map a.eval=L.toArray:=⟨_,(Array.toArray_toList).symm⟩;rw [hL] at ha';have hm:=gW ok hr h4 (aS h3 ht) ha';have e:(execOp a.eval o).run tb.P w=(callMethod (a.eval r) name L.toArray).run tb.P w:=by
   have he: #[a.eval r]++L.toArray=(a.eval r::L).toArray:=by apply qbT;simp
   simp only [execOp,hop,resolve,hcal,Sem.run_bind,Sem.run_pure,Result.andThen_ok,invoke,hL,he];simp
  cases cl with
  |fn f args0=>obtain⟨x,e1,e2⟩:=hm;exact⟨x,e.trans e1,e2⟩
  |round l args0=>obtain⟨x,y,e0,e1,e2⟩:=hm;exact⟨x,y,e0,e.trans e1,e2⟩
 ·cases h2
end
section
variable {tb:bO} (ok:cC tb) {ι:de} {P:Program}
section steps
variable {b:Frame} {a:Act} {k:List Item} {cs:List Frame} {w w':World} {ops:Array Oper} {i:Nat} {rest:List Nat} {o:Oper}
variable {v':Value}
theorem eF {nx:Next} (ho:ops[i]?=some o) (hw:Region.wanted o (yielded ops a.tmps)=true) (hnd:∀c,o.op≠ .defer c) (hr:(execOp a.eval o).run P w= .ok nx w') (hn:YY nx v'):
 step P (lone (b.atR a (.inRegion ops (i::rest)::k)) cs w)= .next (lone (b.atR (a.put o.dst v') (.inRegion ops rest::k)) cs w'):=by
 have hg:=stepGR_op (P:=P) (b:=b) (k:=k) (cs:=cs) (w:=w) (rest:=rest) ho hw;rw [Oper.semAt_eq _ _ _ hnd] at hg;have hfin:∀v,(b.atR a (.inRegion ops (i::rest)::k)).finish v=b.atR (a.put o.dst v) (.inRegion ops rest::k):=by
  intro v;rw [Frame.finish_atR,ho];rfl
 refine step_lone_go ?_;rw [hg];rcases hn with rfl|⟨rfl,rfl⟩
 ·simp [stepG.apply,hr,hfin]
 ·simp [stepG.apply,hr,hfin]
theorem pc {f:FuncId} {args:Array Value} (ho:ops[i]?=some o) (hw:Region.wanted o (yielded ops a.tmps)=true) (hnd:∀c,o.op≠ .defer c) (hr:(execOp a.eval o).run P w= .ok (.enter f args) w'):
 step P (lone (b.atR a (.inRegion ops (i::rest)::k)) cs w)= .next (lone (Frame.enter P f args .normal) (b.atR a (.inRegion ops (i::rest)::k)::cs) w'):=by
 have hg:=stepGR_op (P:=P) (b:=b) (k:=k) (cs:=cs) (w:=w) (rest:=rest) ho hw;rw [Oper.semAt_eq _ _ _ hnd] at hg;refine step_lone_go ?_;rw [hg];simp [stepG.apply,hr,Frame.atR]
theorem ze {l f:Nat} {t:Array Value} {qak bd:Code} (ho:ops[i]?=some o) (hw:Region.wanted o (yielded ops a.tmps)=true) (hnd:∀c,o.op≠ .defer c) (hr:(execOp a.eval o).run P w= .ok (.round l f t qak bd) w'):
 step P (lone (b.atR a (.inRegion ops (i::rest)::k)) cs w)= .next (lone (Frame.round l f t qak bd .normal) (b.atR a (.inRegion ops (i::rest)::k)::cs) w'):=by
 have hg:=stepGR_op (P:=P) (b:=b) (k:=k) (cs:=cs) (w:=w) (rest:=rest) ho hw;rw [Oper.semAt_eq _ _ _ hnd] at hg;refine step_lone_go ?_;rw [hg];simp [stepG.apply,hr]
variable {v:Value}
theorem zd (ho:ops[i]?=some o) (hw:Region.wanted o (yielded ops a.tmps)=true) (hnd:∀c,o.op≠ .defer c) (hr:(execOp a.eval o).run P w= .halt (.panic v) w'):
 step P (lone (b.atR a (.inRegion ops (i::rest)::k)) cs w)= .next (lone {b.atR a (.inRegion ops (i::rest)::k) with mode:=.panicking [{v:=v,recovered:=false}]} cs w'):=by
 have hg:=stepGR_op (P:=P) (b:=b) (k:=k) (cs:=cs) (w:=w) (rest:=rest) ho hw;rw [Oper.semAt_eq _ _ _ hnd] at hg;refine step_lone_go ?_;rw [hg];simp [stepG.apply,hr,Frame.raise_atR]
end steps
def mj (P:Program) (s:Sem Next) (w:World) (v':Value) (w':World) (fr:Frame) (cs:List Frame):Prop:=
 s.run P w= .ok (.value v') w'∨
 (∃f args,s.run P w= .ok (.enter f args) w∧Steps P (lone (Frame.enter P f args .normal) (fr::cs) w) (lone (fr.finish v') cs w'))∨
 (∃l f t qak bd,s.run P w= .ok (.round l f t qak bd) w∧Steps P (lone (Frame.round l f t qak bd .normal) (fr::cs) w) (lone (fr.finish v') cs w'))
def BV (P:Program) (s:Sem Next) (w:World) (v':Value) (w':World) (fr:Frame) (cs:List Frame):Prop:=
 ∃f args,s.run P w= .ok (.enter f args) w∧Steps P (lone (Frame.enter P f args .normal) (fr::cs) w) (lone (fr.raise [{v:=v',recovered:=false}]) cs w')
variable {v':Value}
theorem BV.op {b:Frame} {a:Act} {k:List Item} {cs:List Frame} {w w':World} {ops:Array Oper} {i:Nat} {rest:List Nat} {o:Oper}
 (ho:ops[i]?=some o) (hw:Region.wanted o (yielded ops a.tmps)=true) (hnd:∀c,o.op≠ .defer c) (h:BV P (execOp a.eval o) w v' w' (b.atR a (.inRegion ops (i::rest)::k)) cs):
 Steps P (lone (b.atR a (.inRegion ops (i::rest)::k)) cs w) (lone {b.atR a (.inRegion ops (i::rest)::k) with mode:=.panicking [{v:=v',recovered:=false}]} cs w'):=by
 obtain⟨f,args,h1,h2⟩:=h;rw [Frame.raise_atR] at h2;exact .head (pc ho hw hnd h1) h2
theorem mj.op {b:Frame} {a:Act} {k:List Item} {cs:List Frame} {w w':World} {ops:Array Oper} {i:Nat} {rest:List Nat} {o:Oper}
 (ho:ops[i]?=some o) (hw:Region.wanted o (yielded ops a.tmps)=true) (hnd:∀c,o.op≠ .defer c) (h:mj P (execOp a.eval o) w v' w' (b.atR a (.inRegion ops (i::rest)::k)) cs):
 Steps P (lone (b.atR a (.inRegion ops (i::rest)::k)) cs w) (lone (b.atR (a.put o.dst v') (.inRegion ops rest::k)) cs w'):=by
 have hfin:(b.atR a (.inRegion ops (i::rest)::k)).finish v'=b.atR (a.put o.dst v') (.inRegion ops rest::k):=by
  rw [Frame.finish_atR,ho];rfl
 rcases h with h1|⟨f,args,h1,h2⟩|⟨l,f,t,qak,bd,h1,h2⟩
 ·exact .one (eF ho hw hnd h1 (.inl rfl))
 ·have:=h2;rw [hfin] at this;exact .head (pc ho hw hnd h1) this
 ·have:=h2;rw [hfin] at this;exact .head (ze ho hw hnd h1) this
theorem VR.Sp {a:Addr} (h:VR ι (.pointer (some a)) v'):∃p,v'= .pointer (some p):=by
 cases h;exact⟨_,rfl⟩
include ok in
theorem qX {A:Mem} {w:World} (hr:Rel ι A w) {n:Nat} {τ:T Value} {t:Array Value} (ht:TR ι n τ t):∀{rs:List ResultVar} {vs:List Value},eV tb τ A.get rs= .ok vs→
 ∃vs',(rs.mapM fun
  | .tmp i=>pure (t.getD i undef)
  | .cell i ty=>do loadVar ty (←asAddr (t.getD i undef)):Sem (List Value)).run tb.P w= .ok vs' w∧dv ι vs vs'
 | [],vs,h=>by
  simp only [eV,R.ok.injEq] at h;subst h;exact⟨[],rfl,.nil⟩
 | .tmp i::rs,vs,h=>by
  unfold eV at h;obtain⟨v,h1,h2⟩:=R.ai h;obtain⟨us,h3,h4⟩:=R.ai h2;simp only [R.ok.injEq] at h4;subst h4;obtain⟨us',e,r⟩:=qX hr ht h3;have hv:=aS (a:=⟨t,[]⟩) h1 ht;refine⟨_::us',?_,.cons hv r⟩;simp only [List.mapM_cons,Sem.run_bind,Sem.run_pure,Result.andThen_ok,e];rfl
 | .cell i ty::rs,vs,h=>by
  unfold eV at h;obtain⟨ad,h1,h2⟩:=R.ai h;obtain⟨v,h3,h4⟩:=R.ai h2;obtain⟨us,h5,h6⟩:=R.ai h4;simp only [R.ok.injEq] at h6;subst h6;obtain⟨us',e,r⟩:=qX hr ht h5;have hv:=aS (a:=⟨t,[]⟩) h1 ht;obtain⟨v',e1,rv⟩:=iY ok hr h3 hv;refine⟨v'::us',?_,.cons rv r⟩;obtain⟨p,hp⟩:∃p,Act.eval ⟨t,[]⟩ (.tmp i)= .pointer (some p):=by
   unfold ag at h3;split at h3
   ·exact hv.Sp
   ·cases h3
  rw [hp] at e1;have hp':t.getD i undef= .pointer (some p):=hp;have e3:(loadVar ty p).run tb.P w= .ok v' w:=by
   simpa only [Instr.loadAt,Instr.sureAddr,Sem.run_bind,Sem.run_pure,Result.andThen_ok] using e1
  have e4:(asAddr (t.getD i undef)).run tb.P w= .ok p w:=by rw [hp'];rfl
  simp only [List.mapM_cons,Sem.run_bind,e4,Sem.run_pure,Result.andThen_ok,e3,e]
variable {vs:List Value}
theorem OY {vs':List Value} (h:dv ι vs vs'):VR ι (oneOf vs) (if h:vs'.toArray.size=1 then vs'.toArray[0] else .tuple vs'.toArray):=by
 cases h with
 |nil=>exact .tuple .nil
 |cons hv ht=>
  cases ht with
  |nil=>exact hv
  |cons hv2 ht2=>
   rw [dif_neg (by simp)];exact .tuple (.cons hv (.cons hv2 ht2))
include ok in
theorem mg {A:Mem} {w:World} (hr:Rel ι A w) {n:Nat} {τ:T Value} {t:Array Value} (ht:TR ι n τ t) {fn:Func} {vs:List Value} (h:eV tb τ A.get fn.results.toList= .ok vs):
 ∃v',(results fn t).run tb.P w= .ok v' w∧VR ι (oneOf vs) v':=by
 obtain⟨vs',e,r⟩:=qX ok hr ht h;refine⟨_,?_,OY r⟩;unfold results;rw [Array.mapM_eq_mapM_toList];simp only [Sem.run_bind,Sem.run_map];refine(congrArg (fun q=>Result.andThen (Result.andThen q _) _) e).trans ?_;rfl
def DR (ι:de):List Nat→List Deferred→List Deferred→Prop
 | [],ds,base=>ds=base
 |b::bs,d::ds,base=>(∃l,ι b=some l∧d={target:=.collected l.blk,args:= #[]})∧DR ι bs ds base
 |_::_,[],_=>False
variable {ι':de}
theorem DR.mono {ι:de} (hi:eK ι ι'):∀{bs:List Nat} {ds base:List Deferred},DR ι bs ds base→DR ι' bs ds base
 | [],_,_,h=>h
 |_::_,_::_,_,⟨⟨l,hl,hd⟩,h⟩=>⟨⟨l,hi _ _ hl,hd⟩,DR.mono hi h⟩
 |_::_,[],_,h=>h.elim
theorem nP (P:Program) {b:Frame} {t:Array Value} {todo:List Item} {cs:List Frame}:∀{bs:List Nat} {ds base:List Deferred} {A A':Mem} {w:World},eW bs A= .ok A'→DR ι bs ds base→Rel ι A w→
 ∃w',Steps P (lone {b.atR ⟨t,ds⟩ todo with mode:=.returning} cs w) (lone {b.atR ⟨t,base⟩ todo with mode:=.returning} cs w')∧Rel ι A' w'∧eH ι A w ι A' w'
 | [],ds,base,A,A',w,h,hd,hr=>by
  simp only [eW,R.ok.injEq] at h;subst h;cases (show ds=base from hd);exact⟨w,.refl P _,hr,eH.refl ι A w⟩
 |_::_,[],_,_,_,_,_,h,_=>h.elim
 |x::bs,d::ds,base,A,A',w,h,⟨⟨l,hl,hd⟩,hds⟩,hr=>by
  unfold eW at h;split at h
  ·rename_i hg;obtain⟨o',hw,rfl⟩:=hr.obs _ _ _ hg rfl hl;obtain⟨w1,r1,r2,r3⟩:=gN (o':=.deferred none) hw (by simp) P;obtain⟨hrel,hst⟩:=hr.zn (ob:=.dead) hg rfl hl (eh hg fun _ _ _ h=>by cases h) (fun _ _ _ h=>by cases h) r2 r3 trivial;obtain⟨w',s2,hrel2,hst2⟩:=nP P (b:=b) (t:=t) (todo:=todo) (cs:=cs) h hds hrel;refine⟨w',.head ?_ s2,hrel2,hst.trans hst2⟩;have htake:(Instr.takeDeferred l.blk).run P w= .ok [] w1:=by
    simp only [Instr.takeDeferred,Sem.run_bind,cu hw (by simp),Result.andThen_ok,r1,Sem.run_pure]
   refine step_lone_go ?_;subst hd;simp [stepG,unwind,Frame.atR,Sem.runT_eq,htake]
  ·cases h
end
end Go.Am
end
