/- The abstract machine, the walk of the law and its plain laws, made small by a program; part 1: no conditions but those in each theorem. -/
import Derived.Test.YtjoceidiioppiaaGreatDoorQ00
import Derived.AtR
set_option maxHeartbeats 16000000
set_option maxRecDepth 100000
set_option linter.unusedSimpArgs false
set_option linter.unusedVariables false
set_option linter.defProp false
noncomputable section
open Array renaming ext'→m6,getElem?_append_left→DN,getElem?_eq_getElem→DO,getElem?_eq_some_iff→gm,getElem?_modify→G8,getElem?_setIfInBounds_ne→LO,getElem?_toList→gp,length_toList→xI,range→xJ,replicate→tQ
open Bool renaming and_eq_true→dW,eq_iff_iff→qk,false_and→Bo,false_eq_true→dR,not_false→vg,not_true→ri,or_eq_false_iff→Bp,true_and→tR,false→ag,true→ae
open Go renaming Code→aH,IntKind→cS,Operand→bM,Program→cI,TypeId→au,Value→I,World→aF
open Int renaming ofNat→cK,ofNat_eq_natCast→iu,toNat_natCast→Bt
open List renaming all_eq_true→oT,getElem?_append_left→fe,getElem?_append_right→eV,getElem?_drop→xP,getElem?_eq_getElem→aZ,getElem?_eq_none→ky,getElem?_map→dN,getElem?_range→BA,getElem?_take_of_lt→Hk,length→Z,length_append→aY,length_cons→cD,length_drop→vu,length_eq_zero_iff→eN,length_map→bc,length_nil→eB,length_take→df,mem_cons→cG,range'→sR
open List.cons renaming injEq→gq
open Nat renaming add_comm→xU,add_mul→qo,add_right_comm→xV,add_zero→eo,beq→aL,ble→av,blt→aO,blt_eq→bZ,eq_of_beq_eq_true→eW,eq_zero_or_pos→Hr,le_refl→aI,le_trans→dm,lt_or_ge→ec,min_eq_left→nf,min_eq_right→BI,min_le_left→Ec,mod_eq_of_lt→rm,mod_lt→jV,mul_le_mul→BJ,mul_le_mul_right→BK,mul_one→qq,not_lt_zero→zD,one_mul→uc,pow_succ→zE,sub_zero→kL,succ→qs,succ_eq_add_one→Eg,zero_mul→xZ
open Option renaming bind_some→vQ,getD_some→sU,isSome_none→x5,map_some→gX,none→V,some→U
open Option.some renaming inj→iR,injEq→fg
open Prod.mk renaming injEq→bH
open Go.Result renaming andThen_ok→aP
open Go.Sem renaming run_bind→aM,run_pure→a6
namespace Go.Am
section
variable {tb:aN}(ok:dO tb){ι:bj}{A:Mem}{w:aF}
variable {cs:Array I}
def K9{l:Loc}{t:au}{fr:Nat×Nat}(h:w.heap[l.blk]?=U (.cells cs t fr)):w.shape? l.blk=U (t,cs.size):=by
 simp only[World.shape?,h]
variable {b o:Nat}
def OQ{s:Option Nat}{t:au}(h:w.heap[b]?=U (.cells cs t (0,0))):w.frozen? ⟨b,o,s⟩=ag:=by
 simp only[World.frozen?,h];simp
def QB{s:Option Nat}{x:au×Nat}(h:w.shape? b=U x)(P:cI):(noView ⟨b,o,s⟩).run P w=.ok () w:=by
 simp only[noView,viewAt,aM,run_shape,h,Option.isSome_some,bB,a6,aP,x5,dR,bg]
variable {b':Nat}
def qgb{o':Nat}{cs':Array I}{t t':au}(h:w.heap[b]?=U (.cells cs t (0,0)))(h':w.heap[b']?=U (.cells cs' t' (0,0)))(hne:b≠b')(P:cI):
 (sameAddr ⟨b,o,V⟩ ⟨b',o',V⟩).run P w=.ok ag w:=by
 have hbe:(b==b')=ag:=by simpa using hne
 have s1:w.shape? b=U (t,cs.size):=by simp only[World.shape?,h]
 have s2:w.shape? b'=U (t',cs'.size):=by simp only[World.shape?,h']
 simp only[sameAddr,hbe,dR,bg,aM,run_frozen,OQ h,OQ h',aP,Bool.and_self,QB s1,QB s2,mayBeOne,stringish,run_shape,s1,s2,a6,
  Bo,Bool.or_self]
def RD(hr:Rel ι A w){a b a' b':Option Addr}{r:Bool}(h:ptrEq A.get a b=.ok r)(ha:VR ι (.pointer a) (.pointer a'))(hb:VR ι (.pointer b) (.pointer b'))(P:cI):
 (match a',b' with
  |none,b'=>pure b'.isNone
  |some _,V=>pure ag
  |some a',U b'=>sameAddr a' b':Sem Bool).run P w=.ok r w:=by
 cases ha with
 |ptrN=>
  cases hb with
  |ptrN=>simp only[ptrEq,ay]at h;subst h;rfl
  |ptr hl=>simp only[ptrEq,ay]at h;subst h;rfl
 |ptr hl=>
  cases hb with
  |ptrN=>simp only[ptrEq,ay]at h;subst h;rfl
  |ptr hl'=>
   rename_i b o l b' o' l';simp only[ptrEq]at h;cases hbb:aL b b' with
   |true=>
    obtain rfl:=beq_true hbb;rw[hl]at hl';cases hl';rw[hbb]at h;simp only[aJ,ay]at h;subst h;simp only[sameAddr,beq_self_eq_true,bB,a6];congr 1;rw[qk];simp
   |false=>
    rw[hbb]at h;simp only[bJ]at h;split at h
    .rename_i t n fz c t' n' fz' c' hg hg';simp only[ay]at h;subst h;obtain⟨o1,hw1,cs1,fr1,rfl,_,_,_,_,rfl⟩:=hr.obs _ _ _ hg rfl hl;obtain⟨o2,hw2,cs2,fr2,rfl,_,_,_,_,rfl⟩:=hr.obs _ _ _ hg' rfl hl';exact qgb hw1 hw2 (λ he=>beq_false hbb (hr.inj _ _ _ _ ⟨_,hg,rfl⟩ ⟨_,hg',rfl⟩ hl hl' he)) P
    .cases h
include ok in
theorem Oz {eq:au->I->I->R Bool} {m:au->I->I->Sem Bool} (he:∀t x x' y y' r,eq t x y=.ok r->VR ι x x'->VR ι y y'->(m t x' y').run tb.P w=.ok r w) {xs ys:List I} {xs' ys':Array I}
 (hx:bI ι xs xs'.toList) (hy:bI ι ys ys'.toList):∀{fs:List Field} {r:Bool},wS tb eq xs ys fs=.ok r->
 (forIn fs ((V,()):Option Bool×Unit) λ f __s=>
  if f.name≠ "_" then do
   let __do_lift<-part f.type xs' f.offset;let __do_lift_1<-part f.type ys' f.offset;let __do_lift<-m f.type __do_lift __do_lift_1
   if(!__do_lift)=ae then pure (ForInStep.done (U ag,()))else pure (ForInStep.yield (V,()))
  else(pure (ForInStep.yield (V,())):Sem (ForInStep (Option Bool×Unit)))).run tb.P w=.ok (if r then V else U ag,()) w
 | [],r,h=>by simp only[wS,ay]at h;subst h;rfl
 |f::fs,r,h=>by
  unfold wS at h;cases hn:(f.name== "_")with
  |true=>rw[hn]at h;cases h
  |false=>
   rw[hn]at h;simp only[bJ]at h;obtain⟨a,h1,h2⟩:=R.aC h;obtain⟨b,h3,h4⟩:=R.aC h2;obtain⟨q,h5,h6⟩:=R.aC h4;obtain⟨a',e1,r1⟩:=yU ok h1 hx;obtain⟨b',e2,r2⟩:=yU ok h3 hy;have e3:=he _ _ _ _ _ _ h5 r1 r2;have hn':f.name≠ "_" :=by simpa using hn
   rw[List.forIn_cons];simp only[aM,aA hn',e1,e2,e3,aP];cases q with
   |true=>
    simp only[ri,dR,bg,a6,aP];exact Oz (eq:=eq) he hx hy h6
   |false=>
    simp only[ay]at h6;subst h6;simp
include ok in
theorem NN {eq:au->I->I->R Bool} {m:au->I->I->Sem Bool} (he:∀t x x' y y' r,eq t x y=.ok r->VR ι x x'->VR ι y y'->(m t x' y').run tb.P w=.ok r w) {xs ys:List I} {xs' ys':Array I}
 (hx:bI ι xs xs'.toList) (hy:bI ι ys ys'.toList) {elem:au} {size:Nat}:∀{n i:Nat} {r:Bool},Cz tb eq elem size xs ys n i=.ok r->
 (forIn (sR i n 1) ((V,()):Option Bool×Unit) λ i __s=>(do
  let __do_lift<-part elem xs' (i*size);let __do_lift_1<-part elem ys' (i*size);let __do_lift<-m elem __do_lift __do_lift_1
  if(!__do_lift)=ae then pure (ForInStep.done (U ag,()))else pure (ForInStep.yield (V,())):Sem (ForInStep (Option Bool×Unit)))).run tb.P w=.ok (if r then V else U ag,()) w
 |0,i,r,h=>by simp only[Cz,ay]at h;subst h;rfl
 |n+1,i,r,h=>by
  unfold Cz at h;obtain⟨a,h1,h2⟩:=R.aC h;obtain⟨b,h3,h4⟩:=R.aC h2;obtain⟨q,h5,h6⟩:=R.aC h4;obtain⟨a',e1,r1⟩:=yU ok h1 hx;obtain⟨b',e2,r2⟩:=yU ok h3 hy;have e3:=he _ _ _ _ _ _ h5 r1 r2;rw[List.range'_succ,List.forIn_cons];simp only[aM,e1,e2,e3,aP];cases q with
  |true=>
   simp only[ri,dR,bg,a6,aP];exact NN (eq:=eq) he hx hy h6
  |false=>
   simp only[ay]at h6;subst h6;simp
include ok in
theorem Jc (hr:Rel ι A w):∀(d:Nat) {t:au} {x x' y y':I} {r:Bool},iG tb A.get d t x y=.ok r->VR ι x x'->VR ι y y'->∀e,d<=e->(Op.equalIn e t x' y').run tb.P w=.ok r w
 |0,t,x,x',y,y',r,h,_,_,_,_=>by cases h
 |d+1,t,x,x',y,y',r,h,hx,hy,e,hle=>by
  obtain⟨e,rfl⟩:∃e',e=e'+1:=⟨e-1,by omega⟩;have ih:∀{t x x' y y' r},iG tb A.get d t x y=.ok r->VR ι x x'->VR ι y y'->(Op.equalIn e t x' y').run tb.P w=.ok r w:=λ h hx hy=>Jc hr d h hx hy e (by omega)
  unfold iG at h;rw[Op.equalIn];split at h
  .rename_i a b hd;cases hx;cases hy;simp only[ay]at h;subst h;simp only[aM,bO ok hd,aP];cases a<;>cases b<;>rfl
  .rename_i k0 k a k' b hd;cases hx;cases hy;cases hk:jv k k' with
   |false=>rw[hk]at h;cases h
   |true=>
    rw[hk]at h;simp only[aJ,ay]at h;subst h;obtain rfl:=CY hk;simp only[aM,bO ok hd,aP,bB,a6,wW]
  .rename_i a b hd;cases hx;cases hy;simp only[ay]at h;subst h;simp only[aM,bO ok hd,aP,a6,pU,bytes_beq]
  .rename_i elem a b hd;obtain⟨n,h1,h2⟩:=R.aC h;simp only[aM,bO ok hd,aP];have hx':∃a',x'=.pointer a':=by cases hx<;>exact⟨_,rfl⟩
   have hy':∃b',y'=.pointer b':=by cases hy<;>exact⟨_,rfl⟩
   obtain⟨a',rfl⟩:=hx';obtain⟨b',rfl⟩:=hy';split at h2
   .rename_i a0 b0;cases hn:aL n 0 with
    |true=>rw[hn]at h2;cases h2
    |false=>
     rw[hn]at h2;simp only[bJ]at h2;have:=RD hr h2 hx hy tb.P;cases hx;cases hy;simp only[aM,jz ok h1,aP,aA (beq_false hn)];exact this
   .have:=RD hr h2 hx hy tb.P;rename_i hne;cases hx with
    |ptrN=>exact this
    |ptr hl=>
     cases hy with
     |ptrN=>exact this
     |ptr hl'=>exact(hne _ _ rfl rfl).elim
  .rename_i ms hd;cases hx;cases hy;simp only[ay]at h;subst h;simp only[aM,bO ok hd,aP];rfl
  .rename_i ms u z hd;cases hx;cases hy;simp only[ay]at h;subst h;simp only[aM,bO ok hd,aP];rfl
  .rename_i ms u z hd;cases hx;cases hy;simp only[ay]at h;subst h;simp only[aM,bO ok hd,aP];rfl
  .rename_i ms tx vx ty vy hd;cases hx with
   |iface hx=>
    cases hy with
    |iface hy=>
     simp only[aM,bO ok hd,aP];cases hb:aL tx ty with
     |true=>
      rw[hb]at h;simp only[aJ]at h;obtain rfl:=beq_true hb;split at h
      .rename_i i hi;cases hc:i.comparable with
       |false=>rw[hc]at h;cases h
       |true=>
        rw[hc]at h;simp only[aJ]at h;simp only[ne_eq,not_true_eq_false,bg,aM,rZ ok hi,aP,hc,ri,dR];exact ih h hx hy
      .cases h
     |false=>
      rw[hb]at h;simp only[bJ,ay]at h;subst h;simp only[ne_eq,aA (beq_false hb),a6]
  .rename_i fs xs ys hd;cases hx with
   |agg hxs=>
    cases hy with
    |agg hys=>
     cases hs:tb.P.stoodInHeld t with
     |true=>rw[hs]at h;cases h
     |false=>
      rw[hs]at h;simp only[bJ]at h;simp only[aM,bO ok hd,aP,run_program,hs,dR,bg];rw[<-Array.forIn_toList];have:=Oz ok (m:=Op.equalIn e) (λ _ _ _ _ _ _ a b c=>ih a b c) hxs hys h;refine(cX (λ q=>Result.andThen q _) this).trans ?_;cases r<;>rfl
  .rename_i len elem xs ys hd;cases hx with
   |agg hxs=>
    cases hy with
    |agg hys=>
     obtain⟨n,h1,h2⟩:=R.aC h;simp only[aM,bO ok hd,aP,jz ok h1];rw[Std.Legacy.Range.forIn_eq_forIn_range'];have:=NN ok (m:=Op.equalIn e) (λ _ _ _ _ _ _ a b c=>ih a b c) hxs hys h2;have hsz:Std.Legacy.Range.size [:len]=len:=by simp[Std.Legacy.Range.size]
     rw[hsz];refine(cX (λ q=>Result.andThen q _) this).trans ?_;cases r<;>rfl
  .rename_i e0 l c b l' c' hd;cases hx;simp only[ay]at h;subst h;simp only[aM,bO ok hd,aP];cases hy<;>rfl
  .rename_i e0 a l c l' c' hd;cases hy;simp only[ay]at h;subst h;simp only[aM,bO ok hd,aP];cases hx<;>rfl
  .rename_i k0 e0 b hd;cases hx;simp only[ay]at h;subst h;simp only[aM,bO ok hd,aP];cases hy<;>rfl
  .rename_i k0 e0 a hd;cases hy;simp only[ay]at h;subst h;simp only[aM,bO ok hd,aP];cases hx;rfl
  .rename_i hd;cases hx;cases hy;simp only[ay]at h;subst h;simp only[aM,bO ok hd,aP];rfl
  .rename_i hd;cases hx;simp only[ay]at h;subst h;simp only[aM,bO ok hd,aP];cases hy<;>rfl
  .rename_i hd;cases hy;simp only[ay]at h;subst h;simp only[aM,bO ok hd,aP];cases hx<;>rfl
  .cases h
end
section
variable {tb:aN}(ok:dO tb){ι:bj}{A:Mem}{w:aF}
variable {d:Nat}{x' y:I}
def NT{g:Nat->Option Ob}{t:au}{ox oy:bM}{x y':I}{r:Bool}(h:iG tb g d t x y=.ok r)(hb:th (tb.aB t)=ag)(hm:pr tb t ox oy x y=ae)
 (hx:VR ι x x')(hy:VR ι y y'):(∀op,(eqGuard op t ox oy x' y').run tb.P w=.ok () w)/\binOp .eql t x' y'=(do pure (.bool (<-Op.equal t x' y')))/\binOp .neq t x' y'=(do pure (.bool (!(<-Op.equal t x' y')))):=by
 have plain:∀{a b:I},(a=.nilIface->b=.nilIface->False)->(∀p q,a=.agg p->b=.agg q->False)->∀op,(eqGuard op t ox oy a b).run tb.P w=.ok () w:=by
  intro a b h1 h2 op;unfold eqGuard;cases op<;>first
   |rfl
   |(cases a<;>first
    |rfl
    |(cases b<;>first
     |rfl
     |exact(h1 rfl rfl).elim
     |exact(h2 _ _ rfl rfl).elim))
 have aggs:∀{a b:Array I},tb.P.eqGuardType tb.P.depth t=ag->∀op,(eqGuard op t ox oy (.agg a) (.agg b)).run tb.P w=.ok () w:=by
  intro a b he op;unfold eqGuard;cases op<;>first
   |rfl
   |(simp only[ri,dR,bg,aM,run_program,aP,he,vg,bB,a6])
 have nils:(CX ox||CX oy)=ae->∀op,(eqGuard op t ox oy .nilIface .nilIface).run tb.P w=.ok () w:=by
  intro he op;unfold eqGuard;cases op<;>first
   |rfl
   |(cases ox<;>cases oy<;>first|rfl|(simp[CX]at he))
 cases d with
 |zero=>cases h
 |succ d=>
  unfold iG at h;split at h
  .rename_i hd;rw[hd]at hb;cases hb
  .rename_i hd;rw[hd]at hb;cases hb
  .rename_i hd;rw[hd]at hb;cases hb
  .cases hx<;>cases hy<;>exact⟨plain (by simp) (by simp),rfl,rfl⟩
  .cases hx;cases hy;exact⟨nils hm,rfl,rfl⟩
  .cases hx;cases hy;exact⟨plain (by simp) (by simp),rfl,rfl⟩
  .cases hx;cases hy;exact⟨plain (by simp) (by simp),rfl,rfl⟩
  .cases hx;cases hy;exact⟨plain (by simp) (by simp),rfl,rfl⟩
  .cases hx;cases hy;exact⟨aggs (by simpa[pr]using hm),rfl,rfl⟩
  .cases hx;cases hy;exact⟨aggs (by simpa[pr]using hm),rfl,rfl⟩
  .cases hx;cases hy<;>exact⟨plain (by simp) (by simp),rfl,rfl⟩
  .cases hy;cases hx<;>exact⟨plain (by simp) (by simp),rfl,rfl⟩
  .cases hx;cases hy<;>exact⟨plain (by simp) (by simp),rfl,rfl⟩
  .cases hy;cases hx;exact⟨plain (by simp) (by simp),rfl,rfl⟩
  .cases hx;cases hy;exact⟨plain (by simp) (by simp),rfl,rfl⟩
  .cases hx;cases hy<;>exact⟨plain (by simp) (by simp),rfl,rfl⟩
  .cases hy;cases hx<;>exact⟨plain (by simp) (by simp),rfl,rfl⟩
  .cases h
include ok in
def Yx (hr:Rel ι A w) {op:BinOp} {t:au} {ox oy:bM} {x x' y y' v:I} (h:fU tb A.get op t ox oy x y=.ok v) (hb:th (tb.aB t)=ag) (hx:VR ι x x') (hy:VR ι y y'):
 ∃v',(do eqGuard op t ox oy x' y';binOp op t x' y':Sem I).run tb.P w=.ok v' w/\VR ι v v':=by
 unfold fU at h;cases hm:pr tb t ox oy x y with
 |false=>rw[hm]at h;cases h
 |true=>
  rw[hm]at h;simp only[aJ]at h;split at h
  .obtain⟨r,h1,h2⟩:=R.aC h;simp only[ay]at h2;subst h2;obtain⟨hg,he,_⟩:=NT (w:=w) h1 hb hm hx hy;refine⟨.bool r,?_,.bool _⟩;have:=Jc ok hr 100 h1 hx hy 10000 (by omega);simp only[aM,hg,aP,he,Op.equal,Op.maxDepth,this,a6]
  .obtain⟨r,h1,h2⟩:=R.aC h;simp only[ay]at h2;subst h2;obtain⟨hg,_,he⟩:=NT (w:=w) h1 hb hm hx hy;refine⟨.bool (!r),?_,.bool _⟩;have:=Jc ok hr 100 h1 hx hy 10000 (by omega);simp only[aM,hg,aP,he,Op.equal,Op.maxDepth,this,a6]
  .cases h
variable {b o:Nat}
def S3{x:au×Nat}(h:w.shape? b=U x)(P:cI):(Conv.seenAt ⟨b,o,V⟩).run P w=.ok ⟨b,o,V⟩ w:=by
 simp only[Conv.seenAt,viewAt,aM,run_shape,h,Option.isSome_some,bB,a6,aP]
include ok in
def Ya (hr:Rel ι A w) {s d:au} {x x' v:I} (h:gO tb A.get s d x=.ok v) (hx:VR ι x x'):∃v',(convert s d x').run tb.P w=.ok v' w/\VR ι v v':=by
 unfold gO at h;split at h
 .rename_i e hs hd;split at h
  .rename_i he;obtain⟨v',e1,r⟩:=qhP hr h hx tb.P;refine⟨v',?_,r⟩;have hsl:∃a n c,x'=.slice a n c:=by
    unfold zb at h;split at h
    .cases hx;exact⟨_,_,_,rfl⟩
    .cases hx<;>exact⟨_,_,_,rfl⟩
    .cases h
   obtain⟨a,n,c,rfl⟩:=hsl;simp only[convert,aM,bO ok hs,bO ok hd,aP,bO ok he];exact e1
  .cases h
 .rename_i ty a hs hd;cases hx with
  |ptr hl=>
   rename_i b o l;simp only at h;split at h
   .rename_i t n fz c _ hg;obtain⟨sz,h1,h2⟩:=R.aC h;cases hc:aO o n&&aO 0 sz with
    |false=>rw[hc]at h2;cases h2
    |true=>
     rw[hc]at h2;simp only[aJ,ay]at h2;subst h2;simp only[dW]at hc;have hlt:=jE hc.1;have hsz:=jE hc.2;obtain⟨o1,hw1,cs1,fr1,rfl,hcs,_,hsh,hn,rfl⟩:=hr.obs _ _ _ hg rfl hl;have sh:=K9 hw1;refine⟨_,?_,.ptr hl⟩;have hno:¬cs1.size<=o+l.sh:=by omega
     have hsz':¬(sz=0):=by omega
     simp only[convert,aM,bO ok hs,bO ok hd,aP,Conv.unsafePointer,S3 sh,cellsIn,run_shape,sh,a6,jz ok h1,ge_iff_le,hno,decide_false,Bo,
      hsz',Bool.or_self,dR,bg]
   .cases h
 .rename_i ty a hs hd;cases hx with
  |ptr hl=>
   rename_i b o l;simp only at h;split at h
   .rename_i t n fz c _ hg;obtain⟨sz,h1,h2⟩:=R.aC h;cases hc:liesAt tb.P tb.P.depth t (n/tb.P.cellsOf t) o ty 1 with
    |false=>rw[hc]at h2;cases h2
    |true=>
     rw[hc]at h2;simp only[aJ,ay]at h2;subst h2;obtain⟨o1,hw1,cs1,fr1,rfl,hcs,_,hsh,hn,rfl⟩:=hr.obs _ _ _ hg rfl hl;have sh:=K9 hw1;refine⟨_,?_,.ptr hl⟩;have hlies:liesAt tb.P tb.P.depth t (cs1.size/tb.P.cellsOf t) (o+l.sh) ty 1=ae:=by
      rw[hcs,hn,hsh];exact hc
     have hv:(variablesAt ⟨l.blk,o+l.sh,V⟩ ty 1).run tb.P w=.ok ae w:=by
      simp only[variablesAt,aM,run_program,run_shape,sh,aP,a6,hlies]
     simp only[convert,aM,bO ok hs,bO ok hd,aP,Conv.unsafePointer,S3 sh,jz ok h1,hv,Bool.or_true,bB,a6]
   .cases h
 .cases h
variable {k:Nat}{v:I}
def O2(hr:Rel ι A w)(h:FJ A.get k=.ok v):VR ι v (.pointer (U ⟨k,0,V⟩)):=by
 unfold FJ at h;split at h
 .rename_i t fz c hg;cases hq:aL fz (GB k)with
  |false=>rw[hq]at h;cases h
  |true=>
   rw[hq,aJ]at h;simp only[ay]at h;subst h;obtain rfl:=eW hq;obtain⟨l,hl,h1,h2,-⟩:=hr.gl _ _ _ _ hg;have:=VR.ptr (o:=0) hl;rw[h1,h2]at this;exact this
 .cases h
include ok in
def RO (hr:Rel ι A w) {n:Nat} {τ:T I} {a:Act} {o:Oper} {v:I} (h:eR tb τ A.get o.op=.ok v) (hc:cls tb o.op=.Rd) (ht:TR ι n τ a.tmps):
 ∃v',(execOp a.eval o).run tb.P w=.ok (.value v') w/\VR ι v v':=by
 have wrap:∀{s:Sem I},(∃v',s.run tb.P w=.ok v' w/\VR ι v v')->∃v',(do pure (Next.value (<-s)):Sem Next).run tb.P w=.ok (.value v') w/\VR ι v v':=by
  rintro s ⟨v',e,r⟩;exact⟨v',by simp only[aM,e,aP,a6],r⟩
 unfold eR at h;split at h<;>rename_i hop<;>simp only[execOp,hop]
 .split at h
  .obtain⟨x,h1,h2⟩:=R.aC h;exact wrap (C3 ok hr h2 (O2 hr h1))
  .obtain⟨x,h1,h2⟩:=R.aC h;exact wrap (C3 ok hr h2 (dh h1 ht))
 .split at h
  .obtain⟨x,h1,h2⟩:=R.aC h;obtain⟨i,h3,h4⟩:=R.aC h2;obtain⟨v',e,r⟩:=Pz ok h4 (O2 hr h1) (dh h3 ht);exact wrap ⟨v',e w,r⟩
  .cases h
 .obtain⟨x,h1,h2⟩:=R.aC h;obtain⟨k,h3,h4⟩:=R.aC h2;exact wrap (qbf ok hr h4 (dh h1 ht) (dh h3 ht))
 .rename_i op ty x y yt;obtain⟨a',h1,h2⟩:=R.aC h;obtain⟨b',h3,h4⟩:=R.aC h2;have hb:th (tb.aB ty)=ag:=by
   rw[hop]at hc;simp only[cls]at hc;split at hc
   .cases hbb:th (tb.aB ty)with
    |false=>rfl
    |true=>rw[hbb]at hc;cases hc
   .cases hbb:th (tb.aB ty)with
    |false=>rfl
    |true=>rw[hbb]at hc;cases hc
   .cases hc
  exact wrap (Yx ok hr h4 hb (dh h1 ht) (dh h3 ht))
 .obtain⟨x,h1,h2⟩:=R.aC h;exact wrap (Ya ok hr h2 (dh h1 ht))
 .rename_i c;split at h
  .rename_i hcal;obtain⟨args,h1,h2⟩:=R.aC h;have ha:=yI h1 ht;split at h2
   .rename_i x xs;obtain⟨es,h3,h4⟩:=R.aC h2;simp only[ay]at h4;subst h4;obtain⟨x',t',e,hx,_⟩:=ha.cons_inv;obtain⟨es',he,hes⟩:=NQ hr h3 hx;have hmap:∃ty k e,c.argTypes[0]?=U ty/\tb.aB ty=U (.map k e):=by
     rw[hop]at hc;simp only[cls,hcal]at hc;split at hc
     .rename_i t l hts;split at hc
      .rename_i k e hd;exact⟨t,k,e,by rw[<-gp,hts];rfl,hd⟩
      .cases hc
     .cases hc
    obtain⟨ty,mk,me,hty,hd⟩:=hmap;have hx0:(c.args.map a.eval)[0]?=U x':=by
     rw[<-gp,Array.toList_map,e];rfl
    refine⟨_,?_,.int .i64 (.ofNat (Z es))⟩;have hlen:es'.size=Z es:=by simpa using he.length
    simp only[resolve,hcal,aM,a6,aP,invoke,builtin,Builtin.len_,hty,hx0,bO ok hd];rcases hes with⟨rfl,rfl⟩|⟨r,clock,rfl,hw⟩
    .simp only[a6,aP,<-hlen];rfl
    .simp only[aM,l_ hw (by simp),aP,a6,hlen];rfl
   .cases h2
  .cases h
 .cases h
end
section
variable {tb:aN}(ok:dO tb){ι:bj}
def Made(P:cI)(ι:bj)(ob:Ob)(way:Way)(s:Sem I):Prop:=
 ∀w:aF,∃(w':aF) (v':I) (o':Obj) (sz:Nat),s.run P w=.ok v' w'/\Wu w w' w.heap.size o'/\w'.heap.size=w.heap.size+1/\
  ∀ι' b,gW ι ι'->ι' b=U ⟨w.heap.size,0,sz⟩->OR ι' ob ⟨w.heap.size,0,sz⟩ o'/\VR ι' (way.at b) v'
def tf(w:aF)(o:Obj)(d:Nat)(_:w.drawn<=d):Wu w {w with heap:=w.heap.push o,drawn:=d} w.heap.size o:=
 ⟨by simp,by simp,λ k hk _=>by simp[Array.getElem?_push,Nat.ne_of_lt hk],rfl,rfl,rfl⟩
variable {l:List I}{cs:Array I}{b:Nat}
def KN{ι:bj}{t:au}(h:bI ι l cs.toList):OR ι (af t l) ⟨b,0,Z l⟩ (.cells cs t):=by
 have hl:=h.length;refine⟨cs,(0,0),rfl,by simpa using hl,λ i v hv=>?_,rfl,rfl,rfl⟩;rw[T.oK]at hv;by_cases hi:0<=i/\i<0+Z l
 .rw[aA hi]at hv;obtain⟨v',e,r⟩:=h.get _ _ hv;exact⟨v',by rw[<-gp];simpa using e,r⟩
 .rw[ax hi,T.pv]at hv;cases hv
variable {v v':I}
def Qy{P:cI}{ι:bj}{t:au}(h:VR ι v v'):Made P ι (af t v.cells.toList) .ptr (do pure (.pointer (U (<-newVar t v')))):=by
 intro w;refine⟨{w with heap:=w.heap.push (.cells v'.cells t),drawn:=w.drawn},.pointer (U ⟨w.heap.size,0,V⟩),.cells v'.cells t,Z v.cells.toList,?_,tf w _ _ (by simp),by simp,λ ι' b hi hb=>⟨KN (h.mono hi).cells,?_⟩⟩
 .simp only[newVar,newRow,aM,run_newObj,aP,a6]
 .exact VR.ptr (o:=0) hb
theorem Gj(zero:List I):∀n,(n_ zero n).length=n*Z zero
 |0=>by simp[n_]
 |n+1=>by simp[n_,Gj zero n,qo];omega
theorem RU(zero:List I)(hz:0<Z zero):∀(n i:Nat),i<n*Z zero->(n_ zero n)[i]?=zero[i % Z zero]?
 |0,i,h=>by simp at h
 |n+1,i,h=>by
  rw[qo,uc]at h;simp only[n_];rcases ec i (Z zero)with h1|h1
  .rw[fe h1,rm h1]
  .rw[eV h1,RU zero hz n _ (by omega),Nat.mod_eq_sub_mod h1]
def Gk{zero:List I}{zs:Array I}(h:bI ι zero zs.toList)(n:Nat):bI ι (n_ zero n) ((xJ (n*Z zero)).map (zs[· % zs.size]!)).toList:=by
 have hl:zs.size=Z zero:=by simpa using h.length
 refine bI.C8 (by simp[Gj]) λ i v v' hv hv'=>?_
 have hi:i<n*Z zero:=by
  rcases ec i (n*Z zero)with h1|h1
  .exact h1
  .rw[ky (by rw[Gj];exact h1)]at hv;cases hv
 have hz:0<Z zero:=by
  rcases Hr (Z zero)with h1|h1
  .rw[h1]at hi;simp at hi
  .exact h1
 rw[RU zero hz n i hi]at hv;obtain⟨u,e,r⟩:=h.get _ _ hv;have hm:i % Z zero<zs.size:=by rw[hl];exact jV _ hz
 have:v'=u:=by
  simp only[Array.toList_map,Array.toList_range,dN,BA hi,gX,fg]at hv';rw[<-hv',hl,getElem!_pos zs _ hm];rw[gp,DO hm]at e;simpa using e
 rw[this];exact r
include ok in
def DL {t:au} {n:Nat} {z:List I} (h:fu tb t=.ok (n,z)):n=Z z/\(∀w:aF,(sizeOf t).run tb.P w=.ok n w)/\∃zv:I,(∀w:aF,(zeroValue t).run tb.P w=.ok zv w)/\zv.cells.toList=z/\∀ι,bI ι z zv.cells.toList:=by
 unfold fu at h;obtain⟨zv,h1,h2⟩:=R.aC h;obtain⟨m,h3,h4⟩:=R.aC h2;cases hb:aL (Z zv.cells.toList) m with
 |false=>rw[hb]at h4;cases h4
 |true=>
  rw[hb]at h4;simp only[aJ,ay,bH]at h4;obtain⟨rfl,rfl⟩:=h4;obtain⟨_,_,_,hz⟩:=Bn h1;exact⟨(beq_true hb).symm,jz ok h3,zv,DM ok h1,rfl,λ ι=>(hz ι).cells⟩
include ok in
def Wn {t:au} {len:Nat} {parts parts':List (Nat×I)} {ob:Ob} {way:Way} (h:eO tb t len parts=.ok (ob,way)) (hp:ym ι parts parts'):
 Made tb.P ι ob way (Instr.buildSlice t len parts'.toArray):=by
 unfold eO at h;split at h
 .rename_i elem hd;obtain⟨⟨n,zero⟩,h1,h2⟩:=R.aC h;obtain⟨hn,hsz,zv,hzr,hzc,hzv⟩:=DL ok h1;subst hn;simp only at h2;cases hb:av (len*Z zero) 16777216 with
  |false=>rw[hb]at h2;cases h2
  |true=>
   rw[hb]at h2;simp only[aJ]at h2;have hle:=jD hb;split at h2
   .rename_i cells hf;simp only[ay,bH]at h2;obtain⟨rfl,rfl⟩:=h2;intro w;have hrep:=Gk (ι:=ι) (hzv ι) len;obtain⟨r',e,hr⟩:=FD (pl':=λ i=>U (i*Z zero,Z zero)) (λ i x hx=>hx) hf hrep hp;refine⟨{w with heap:=w.heap.push (.cells r' elem),drawn:=w.drawn},.slice (U ⟨w.heap.size,0,V⟩) len len,.cells r' elem,Z cells,?_,tf w _ _ (by simp),by simp,λ ι' b hi hbb=>⟨KN (hr.mono hi),?_⟩⟩
    .have hc0:∀f:Nat->I,len*Z zero=0->(xJ (len*Z zero)).map f=(xJ (len*Z zero)).map (zv.cells[· % zv.cells.size]!):=by
      intro f h0;rw[h0];simp
     simp only[Instr.buildSlice,aM,bO ok hd,hsz,aP,ax (by omega:¬len*Z zero>2^24)];by_cases h0:len*Z zero=0
     .simp only[aA h0,aM,a6,aP,hc0 _ h0,e,newRow,run_newObj]
     .simp only[ax h0,aM,hzr,a6,aP];simp only[e,newRow,aM,run_newObj,aP,a6]
    .have:=VR.sl (ι:=ι') (b:=b) (o:=0) (len:=len) (k:=2*len) hbb (wF _);rw[tz]at this;exact this
   .cases h2
 .cases h
include ok in
def qbm {t:au} {l l' c c':I} {ob:Ob} {way:Way} (h:tK tb t l c=.ok (ob,way)) (hl:VR ι l l') (hc:VR ι c c'):Made tb.P ι ob way (Instr.makeSlice t l' c'):=by
 unfold tK at h;split at h
 .rename_i elem hd;obtain⟨ln,h1,h2⟩:=R.aC h;obtain⟨cn,h3,h4⟩:=R.aC h2;obtain⟨⟨n,zero⟩,h5,h6⟩:=R.aC h4;obtain⟨k1,rfl,rfl⟩:=AE h1 hl;obtain⟨k2,rfl,rfl⟩:=AE h3 hc;obtain⟨hn,hsz,zv,hzr,hzc,hzv⟩:=DL ok h5;subst hn;simp only at h6;split at h6
  .rename_i i hi;cases hb:(av ln cn&&av cn 1048576&&av i.bytes 1048576)with
   |false=>rw[hb]at h6;cases h6
   |true=>
    rw[hb]at h6;simp only[aJ,ay,bH]at h6;obtain⟨rfl,rfl⟩:=h6;simp only[dW]at hb;have b1:=jD hb.1.1;have b2:=jD hb.1.2;have b3:=jD hb.2;intro w;have hrep:=Gk (ι:=ι) (hzv ι) cn;have w1:IntKind.i64.wrap (cK ln)=cK ln:=by
     refine xG ?_ ?_<;>simp only[IntKind.min,IntKind.max,IntKind.signed,IntKind.bits,bB,iu]<;>omega
    have w2:IntKind.i64.wrap (cK cn)=cK cn:=by
     refine xG ?_ ?_<;>simp only[IntKind.min,IntKind.max,IntKind.signed,IntKind.bits,bB,iu]<;>omega
    have hprod:i.bytes*cn<=1048576*1048576:=BJ b3 b2;have t1:(decide (cK cn<0)||decide ((i.bytes:Int)*cK cn>2^48)||decide (cK ln<0)||decide (cK ln>cK cn))=ag:=by
     have:(i.bytes:Int)*(cn:Int)=((i.bytes*cn:Nat):Int):=by push_cast;rfl
     simp only[iu,Bp,decide_eq_false_iff_not,this];omega
    have tn:∀k:Nat,(cK k).toNat=k:=λ _=>rfl
    refine⟨{w with heap:=w.heap.push (.cells ((xJ (cn*Z zero)).map (zv.cells[· % zv.cells.size]!)) elem),drawn:=w.drawn},.slice (U ⟨w.heap.size,0,V⟩) ln cn,_,(n_ zero cn).length,?_,tf w _ _ (by simp),by simp,
     λ ι' b hi hbb=>⟨KN (hrep.mono hi),?_⟩⟩
    .have hc0:∀f:Nat->I,cn*Z zero=0->(xJ (cn*Z zero)).map f=(xJ (cn*Z zero)).map (zv.cells[· % zv.cells.size]!):=by
      intro f h0;rw[h0];simp
     simp only[Instr.makeSlice,aM,bO ok hd,aP,asInt,asIntOf,a6,rZ ok hi,w1,w2,t1,dR,bg,tn,run_askRoom,hsz];by_cases h0:cn*Z zero=0
     .simp only[aA h0,aM,a6,aP,hc0 _ h0,newRow,run_newObj]
     .simp only[ax h0,aM,hzr,a6,aP,newRow,run_newObj]
    .have:=VR.sl (ι:=ι') (b:=b) (o:=0) (len:=ln) (k:=2*cn) hbb (wF _);rw[tz]at this;exact this
  .cases h6
 .cases h
theorem Qm{α:Type}(f:α->α)(x:α):∀l:List α,(l++[x]).modify (Z l) f=l++[f x]
 | []=>rfl
 |y::l=>by
  show y::(l++[x]).modify (Z l) f=_;rw[Qm f x l];rfl
def Ww(s:ByteArray)(extra:Nat):∀(i:Nat) (v:I),(s.data.toList.map gx)[i]?=U v->∃v',((s.data.map λ b=>Value.int .u8 b.toNat)++tQ extra (Value.int .u8 0))[i]?=U v'/\VR ι v v':=by
 intro i v h;rw[dN]at h;cases hb:s.data.toList[i]? with
 |none=>rw[hb]at h;cases h
 |some b=>
  rw[hb]at h;simp only[gX,fg]at h;subst h;have hi:i<s.data.size:=by
   rcases ec i s.data.size with h1|h1
   .exact h1
   .rw[ky (by simpa using h1)]at hb;cases hb
  refine⟨.int .u8 (.ofNat b.toNat),?_,.int _ _⟩;rw[DN (by simpa using hi),Array.getElem?_map];rw[gp]at hb;rw[hb];rfl
include ok in
def qhL {s d:au} {x x':I} {ob:Ob} {way:Way} (h:y_ tb s d x=.ok (ob,way)) (hx:VR ι x x'):Made tb.P ι ob way (convert s d x'):=by
 unfold y_ at h;split at h
 .rename_i e s hs hd;cases hx;split at h
  .rename_i he;cases hb:aO (Z s.data.toList) 4294967296 with
   |false=>rw[hb]at h;cases h
   |true=>
    rw[hb]at h;simp only[aJ,ay,bH]at h;obtain⟨rfl,rfl⟩:=h;have hlt:=jE hb;intro w;have hs':=size_data s;let cap:=(Question.appendCap s.size 0 e).cut (w.tape w.drawn (.appendCap s.size 0 e));have hcap:s.size<=cap/\cap<2^63:=by
     show s.size<=s.size+_ % (2^63-s.size)/\s.size+_ % (2^63-s.size)<2^63;have:w.tape w.drawn (.appendCap s.size 0 e) % (2^63-s.size)<2^63-s.size:=jV _ (by omega);omega
    let cs:=(s.data.map λ b=>Value.int .u8 b.toNat)++tQ (cap-s.size) (Value.int .u8 0);have hcs:cs.size=cap:=by
     simp only[cs,Array.size_append,Array.size_map,Array.size_replicate];have:s.data.size=s.size:=rfl;omega
    refine⟨{w with heap:=w.heap.push (.cells cs e (cap,cap+1)),drawn:=w.drawn+1},.slice (U ⟨w.heap.size,0,V⟩) s.size cap,.cells cs e (cap,cap+1),cap,?_,tf w _ _ (by simp),by simp,λ ι' b hi hbb=>⟨⟨cs,(cap,cap+1),rfl,hcs,λ i v hv=>?_,λ i hi=>by simp only at hi⊢;omega⟩,?_⟩⟩
    .have hfr:(freeze ⟨w.heap.size,cs.size,V⟩ 1).run tb.P {w with heap:=w.heap.push (.cells cs e),drawn:=w.drawn+1}=.ok () {w with heap:=w.heap.push (.cells cs e (cap,cap+1)),drawn:=w.drawn+1}:=by
      rw[run_freeze];simp only[World.freeze,Nat.one_ne_zero,bg,hcs];congr 2;apply m6;rw[Array.toList_modify,Array.toList_push,Array.toList_push];have:=Qm (λ o=>match o with
       |.cells c elem (lo,hi)=>Obj.cells c elem (if lo==hi then(cap,cap+1)else(min lo cap,max hi (cap+1)))
       |o=>o) (Obj.cells cs e) w.heap.toList
      exact this
     have hsh:({w with heap:=w.heap.push (Obj.cells cs e),drawn:=w.drawn+1}:aF).shape? w.heap.size=U (e,cs.size):=by
      simp[World.shape?]
     simp only[convert,aM,bO ok hs,bO ok hd,bO ok he,aP,Conv.stringToBytes,run_choose,Question.forced,dR,bg,newRow,run_newObj,a6];have hm:(markStringish ⟨w.heap.size,0,V⟩).run tb.P {w with heap:=w.heap.push (.cells cs e),drawn:=w.drawn+1}=.ok () {w with heap:=w.heap.push (.cells cs e (cap,cap+1)),drawn:=w.drawn+1}:=by
      simp only[markStringish,aM,run_shape,hsh,aP];exact hfr
     refine(cX (λ r=>Result.andThen r _) hm).trans ?_;rfl
    .rw[T.oK]at hv;by_cases hi:0<=i/\i<0+(s.data.toList.map gx).length
     .rw[aA hi]at hv;obtain⟨v',e1,r⟩:=Ww (ι:=ι') s (cap-s.size) _ _ hv;exact⟨v',by simpa using e1,r⟩
     .rw[ax hi,T.pv]at hv;cases hv
    .have he1:(1:Nat)<65536:=by omega
     have:=VR.slX (ι:=ι') (b:=b) (o:=0) (o':=0) (len:=Z s.data.toList) (k:=cP (Z s.data.toList) 1) (cap':=cap) hbb (kU _ _) (by rw[iW he1];omega) (by rw[mH he1];simp)
      (λ _=>rfl) hcap.2 (by rw[iW he1];omega)
     rw[<-hs']at this;rw[hs']at this⊢;exact this
  .cases h
 .cases h
include ok in
def qbk {t:au} {r r':Option I} {ob:Ob} {way:Way} (h:uQ tb t r=.ok (ob,way)) (hr:rI ι r r'):Made tb.P ι ob way (Instr.makeMap t r'):=by
 have fin:∀w:aF,∃(w':aF) (v':I) (o':Obj) (sz:Nat),(do pure (Value.map (U (<-newObj (.map #[] 0)))):Sem I).run tb.P w=.ok v' w'/\Wu w w' w.heap.size o'/\w'.heap.size=w.heap.size+1/\
  ∀ι' b,gW ι ι'->ι' b=U ⟨w.heap.size,0,sz⟩->OR ι' (.map [] 0) ⟨w.heap.size,0,sz⟩ o'/\VR ι' (Way.mp.at b) v':=by
  intro w;refine⟨{w with heap:=w.heap.push (.map #[] 0),drawn:=w.drawn},.map (U w.heap.size),.map #[] 0,0,?_,tf w _ _ (by simp),by simp,λ ι' b hi hb=>⟨⟨rfl, #[],rfl,.nil⟩,VR.map hb⟩⟩
  simp only[aM,run_newObj,aP,a6]
 unfold uQ at h;cases hr with
 |none=>
  simp only[ay,bH]at h;obtain⟨rfl,rfl⟩:=h;exact fin
 |some hv=>
  simp only at h;split at h
  .rename_i k e kd n hd;simp only[ay,bH]at h;obtain⟨rfl,rfl⟩:=h;cases hv;intro w;obtain⟨w',v',o',sz,h1,h2⟩:=fin w;refine⟨w',v',o',sz,?_,h2⟩;simp only[Instr.makeMap,aM,bO ok hd,aP,asInt,asIntOf,a6];simpa only[aM,a6]using h1
  .cases h
include ok in
def U2 {n:Nat} {τ:T I} {a:Act} {o:Oper} {ob:Ob} {way:Way} (h:lS tb τ o.op=.ok (ob,way)) (ht:TR ι n τ a.tmps):
 ∃s,Made tb.P ι ob way s/\execOp a.eval o=(do pure (Next.value (<-s))):=by
 unfold lS at h;split at h<;>rename_i hop<;>simp only[execOp,hop]
 .rename_i e;obtain⟨z,hz,h1⟩:=R.aC h;simp only[ay,bH]at h1;obtain⟨rfl,rfl⟩:=h1;obtain⟨_,_,_,hzv⟩:=Bn hz;refine⟨_,?_,rfl⟩;intro w;obtain⟨w',v',o',sz,h1,h2⟩:=Qy (P:=tb.P) (t:=e) (hzv ι) w;refine⟨w',v',o',sz,?_,h2⟩;simp only[Instr.alloc,aM,DM ok hz,aP];simpa only[aM]using h1
 .obtain⟨x,h1,h2⟩:=R.aC h;simp only[ay,bH]at h2;obtain⟨rfl,rfl⟩:=h2;exact⟨_,Qy (dh h1 ht),rfl⟩
 .rename_i ty len ps;obtain⟨vs,h1,h2⟩:=R.aC h;have:=Wn ok h2 (Jf h1 ht);refine⟨_,this,?_⟩;have e:(ps.toList.map λ(i,x)=>(i,a.eval x)).toArray=ps.map λ(i,x)=>(i,a.eval x):=by
   apply m6;simp
  rw[e]
 .obtain⟨r,h1,h2⟩:=R.aC h;exact⟨_,qbk ok h2 (Fh h1 ht),rfl⟩
 .obtain⟨l,h1,h2⟩:=R.aC h;obtain⟨c,h3,h4⟩:=R.aC h2;exact⟨_,qbm ok h4 (dh h1 ht) (dh h3 ht),rfl⟩
 .obtain⟨x,h1,h2⟩:=R.aC h;exact⟨_,qhL ok h2 (dh h1 ht),rfl⟩
 .cases h
variable {k:Nat}
def R.Kn{α:Type}{b:Bool}{x:R α}{r:α}(h:(bif b then x else .no k)=.ok r):x=.ok r:=by
 cases b with
 |false=>cases h
 |true=>exact h
variable {ob:Ob}
def HM{τ:T I}{o:Op}{way:Way}(h:lS tb τ o=.ok (ob,way)):∀t k c,ob≠.cells t .row (GB k) c:=by
 intro t k c he;subst he;unfold lS at h;split at h
 .obtain⟨_,_,h2⟩:=R.aC h;simp only[ay,bH,af]at h2;cases h2.1
 .obtain⟨_,_,h2⟩:=R.aC h;simp only[ay,bH,af]at h2;cases h2.1
 .obtain⟨_,_,h2⟩:=R.aC h;unfold eO at h2;split at h2
  .obtain⟨⟨_,_⟩,_,h3⟩:=R.aC h2;have h3:=R.Kn h3;split at h3
   .simp only[ay,bH,af]at h3;cases h3.1
   .cases h3
  .cases h2
 .obtain⟨_,_,h2⟩:=R.aC h;unfold uQ at h2;split at h2
  .simp only[ay,bH]at h2;cases h2.1
  .split at h2
   .simp only[ay,bH]at h2;cases h2.1
   .cases h2
 .obtain⟨_,_,h2⟩:=R.aC h;obtain⟨_,_,h3⟩:=R.aC h2;unfold tK at h3;split at h3
  .obtain⟨_,_,h4⟩:=R.aC h3;obtain⟨_,_,h5⟩:=R.aC h4;obtain⟨⟨_,_⟩,_,h6⟩:=R.aC h5;simp only at h6;split at h6
   .have h6:=R.Kn h6;simp only[ay,bH,af]at h6;cases h6.1
   .cases h6
  .cases h3
 .obtain⟨_,_,h2⟩:=R.aC h;unfold y_ at h2;split at h2
  .split at h2
   .have h2:=R.Kn h2;simp only[ay,bH]at h2;cases h2.1
   .cases h2
  .cases h2
 .cases h
include ok in
def L9 {A:Mem} {w:aF} (hr:Rel ι A w) {n:Nat} {τ:T I} {a:Act} {o:Oper} {ob:Ob} {way:Way} (h:lS tb τ o.op=.ok (ob,way)) (ht:TR ι n τ a.tmps) (hf:ι A.next=V):
 ∃ι' w' v',(execOp a.eval o).run tb.P w=.ok (.value v') w'/\VR ι' (way.at A.next) v'/\Rel ι' (A.alloc ob) w'/\bY ι A w ι' (A.alloc ob) w':=by
 obtain⟨s,hm,he⟩:=U2 ok h ht;obtain⟨w',v',o',sz,h1,h2,h3,h4⟩:=hm w;obtain⟨ι',e,hrel,hst⟩:=Rel.uE (ob:=ob) hr hf (HM h) h2 h3 (λ ι' hi hb=>(h4 ι' A.next hi hb).1);have hle:gW ι ι':=hst.le λ b h1 h2=>by
  rw[aG]at h2;have:b=A.next:=by omega
  rw[this];exact hf
 refine⟨ι',w',v',?_,(h4 ι' A.next hle e).2,hrel,hst⟩;rw[he];simp only[aM,h1,aP,a6]
end
section
variable {tb:aN}(ok:dO tb){ι:bj}
def qb4(v:I):v.oneCell'=bS v:=by cases v<;>rfl
variable {b o:Nat}{v:I}{cs:Array I}
def qgt{w:aF}{t:au}{fr:Nat×Nat}(h:w.heap[b]?=U (.cells cs t fr)):
 Wu w (w.setCell ⟨b,o,V⟩ v) b (.cells (cs.setIfInBounds o v) t fr)/\(w.setCell ⟨b,o,V⟩ v).heap.size=w.heap.size:=by
 refine⟨⟨?_,?_,λ k hk hne=>?_,rfl,rfl,rfl⟩,?_⟩
 .simp[World.setCell]
 .simp[World.setCell,G8,h]
 .simp[World.setCell,G8,Ne.symm hne]
 .simp[World.setCell]
variable {c:Nat}
def Wu.trans{w w1 w2:aF}{o1 o2:Obj}(h:Wu w w1 c o1)(hs:w1.heap.size=w.heap.size)(k:Wu w1 w2 c o2):Wu w w2 c o2:=
 ⟨dm h.size k.size,k.at_,λ x hx hne=>(k.ne x (by omega) hne).trans (h.ne x hx hne),k.os.trans h.os,k.tape.trans h.tape,k.output.trans h.output⟩
theorem Ll(P:cI){t:au}{fr:Nat×Nat}:∀(vs:List I) (w:aF) (o i:Nat) (cs:Array I),w.heap[b]?=U (.cells cs t fr)->
 (∀v∈vs,bS v=ae)->(∀j,j<Z vs->o+i+j<cs.size/\¬(fr.1<=o+i+j/\o+i+j<fr.2))->
 ∃w' cs',(storeCells ⟨b,o,V⟩ vs i).run P w=.ok () w'/\Wu w w' b (.cells cs' t fr)/\w'.heap.size=w.heap.size/\cs'.size=cs.size/\
  ∀j,cs'[j]?=if o+i<=j/\j<o+i+Z vs then vs[j-(o+i)]? else cs[j]?
 | [],w,o,i,cs,h,_,_=>by
  refine⟨w,cs,rfl,⟨aI _,h,λ _ _ _=>rfl,rfl,rfl,rfl⟩,rfl,rfl,λ j=>?_⟩;rw[ax];simp only[eB];omega
 |v::vs,w,o,i,cs,h,h1,hf=>by
  have hv:v.oneCell'=ae:=by rw[qb4];exact h1 v (by simp)
  obtain⟨hb,hnf⟩:=hf 0 (by simp);obtain⟨hw,hsz⟩:=qgt (o:=o+i) (v:=v) h;have hcell:w.cell? ⟨b,o+i,V⟩=U cs[o+i]:=by
   simp only[World.cell?,h,x5,dR,bg];exact DO (by omega)
  have hfz:w.frozen? ⟨b,o+i,V⟩=ag:=by
   simp only[World.frozen?,h];cases hq:(decide (fr.1<=o+i)&&decide (o+i<fr.2))with
   |false=>rfl
   |true=>simp only[dW,decide_eq_true_eq]at hq;exact aU hq hnf
  have hst:(store ⟨b,o+i,V⟩ v).run P w=.ok () (w.setCell ⟨b,o+i,V⟩ v):=by
   rw[run_store P w _ v .plain hv,hcell];simp[hfz]
  obtain⟨w',cs',r1,r2,r3,r4,r5⟩:=Ll P vs (w.setCell ⟨b,o+i,V⟩ v) o (i+1) (cs.setIfInBounds (o+i) v) hw.at_ (λ x hx=>h1 x (by simp[hx]))
   (λ j hj=>by
    have:=hf (j+1) (by simpa using hj);simp only[Array.size_setIfInBounds];rw[show o+(i+1)+j=o+i+(j+1) by omega];exact this)
  refine⟨w',cs',?_,hw.trans hsz r2,by omega,by simpa using r4,λ j=>?_⟩
  .simp only[storeCells,aM,om,hst,aP];exact r1
  .rw[r5 j];simp only[cD];by_cases hj:o+(i+1)<=j/\j<o+(i+1)+Z vs
   .rw[aA hj,aA (by omega)];rw[show j-(o+i)=(j-(o+(i+1)))+1 by omega];simp
   .rw[ax hj];by_cases hj2:j=o+i
    .subst hj2;rw[aA (by omega)];have hb':o+i<cs.size:=hb;simp[hb']
    .rw[ax (by omega),LO (Ne.symm hj2)]
variable {m fz:Nat}
theorem TA:∀{vs:List I} {i:Nat} {c c':T I},oe m fz vs i c=.ok c'->
 (∀v∈vs,bS v=ae)/\(vs≠ []->fz<=i)/\(∀j,j<Z vs->(∃x,c.get (i+j)=U x)\/i+j<m)/\∀j,c'.get j=if i<=j/\j<i+Z vs then vs[j-i]? else c.get j
 | [],i,c,c',h=>by
  simp only[oe,ay]at h;subst h;refine⟨by simp,by simp,by simp,λ j=>?_⟩;rw[ax];simp only[eB];omega
 |v::vs,i,c,c',h=>by
  unfold oe at h;cases hb:(bS v&&av fz i)with
  |false=>rw[hb]at h;cases h
  |true=>
   rw[hb]at h;simp only[aJ]at h;simp only[dW]at hb;have key:((∃x,c.get i=U x)\/i<m)/\oe m fz vs (qs i) (c.set i v)=.ok c':=by
    split at h
    .rename_i x hx;exact⟨.inl ⟨x,hx⟩,h⟩
    .cases hm:aO i m with
     |false=>rw[hm]at h;cases h
     |true=>rw[hm]at h;rw[bZ]at hm;exact⟨.inr hm,h⟩
   clear h;obtain⟨hx,h⟩:=key
   .obtain⟨h1,h2,h3,h4⟩:=TA h;refine⟨?_,λ _=>jD hb.2,λ j hj=>?_,λ j=>?_⟩
    .intro u hu;rcases cG.1 hu with rfl|hu
     .exact hb.1
     .exact h1 u hu
    .cases j with
     |zero=>exact hx
     |succ j=>
      rw[show i+(j+1)=qs i+j by simp only[Eg];omega];rcases h3 j (by simpa using hj)with⟨y,hy⟩|hy
      case inr=>exact .inr hy
      rw[T.bR]at hy;by_cases he:qs i+j=i
      .simp only[Eg]at he;omega
      .rw[ax he]at hy;exact .inl ⟨y,hy⟩
    .rw[h4 j];simp only[Eg,cD];by_cases hj:i+1<=j/\j<i+1+Z vs
     .rw[aA hj,aA (by omega),show j-i=(j-(i+1))+1 by omega];simp
     .rw[ax hj,T.bR];by_cases hj2:j=i
      .subst hj2;rw[aA rfl,aA (by omega)];simp
      .rw[ax hj2,ax (by omega)]
def bI.HN:∀{l l':List I},bI ι l l'->(∀v∈l,bS v=ae)->∀v∈l',bS v=ae
 |_,_,.nil,_,v,hv=>by cases hv
 |_,_,.cons h ht,h1,v,hv=>by
  rcases cG.1 hv with rfl|hv
  .exact h.one (h1 _ (by simp))
  .exact ht.HN (λ x hx=>h1 x (by simp[hx])) v hv
variable {i:Nat}
def Un{x : Kd}{l : Loc}{fr : Nat × Nat}(h : match x with
      | .var n => l.sh = 0 /\ l.sz = n /\ fr = (0, 0)
      | .row => fr.2 <= l.sh + fz
      | .mark => ∀ i, i < l.sz -> ¬ (fr.1 <= i /\ i < fr.2)
      | .room n => fr.2 <= l.sh + fz /\ l.sh + n <= l.sz)(hi : fz <= i)(hz : i + l.sh < l.sz) : ¬ (fr.1 <= i + l.sh /\ i + l.sh < fr.2) := by
  cases x with
  | var n => obtain ⟨_, _, rfl⟩ := h; simp
  | row => simp only at h; omega
  | mark => exact h _ hz
  | room n => simp only at h; omega
variable {A A':Mem}{vs:List I}
def AS{w:aF}(hr:Rel ι A w){l:Loc}(hl:ι b=U l){vs':List I}(h:lj A ⟨b,o,V⟩ vs=.ok A')(hv:bI ι vs vs')(P:cI):
 ∃w',(storeCells ⟨l.blk,o+l.sh,V⟩ vs').run P w=.ok () w'/\Rel ι A' w'/\bY ι A w ι A' w':=by
 unfold lj at h;split at h
 .simp only[ay]at h;subst h;cases hv;exact⟨w,rfl,hr,bY.refl ι A w⟩
 .rename_i hne;split at h
  .rename_i t x fz c _ hg;obtain⟨c',h1,h2⟩:=R.aC h;simp only[ay]at h2;subst h2;simp only at h1 hg;obtain⟨o1,hw,cs,fr,rfl,hcs,hcell,hfr⟩:=hr.obs _ _ _ hg rfl hl;obtain⟨g1,g2,g3,g4⟩:=TA h1;have hlen:=hv.length;have hin:∀j,j<Z vs->o+j+l.sh<cs.size:=by
    intro j hj;rcases g3 j hj with⟨y,hy⟩|hy
    case inr=>
     cases x with
     |room n=>
      simp only at hfr;have hy:o+j<n:=hy;omega
     |_=>exact aU hy (zD _)
    obtain⟨y',e,_⟩:=hcell _ _ hy;rcases ec (o+j+l.sh) cs.size with h|h
    .exact h
    .rw[Array.getElem?_eq_none h]at e;cases e
   obtain⟨w',cs',r1,r2,r3,r4,r5⟩:=Ll P vs' w (o+l.sh) 0 cs hw (hv.HN g1) (λ j hj=>by
    have hb:=hin j (by omega);rw[show o+l.sh+0+j=o+j+l.sh by omega];exact⟨hb,Un hfr (by have:=g2 hne;omega) (by omega)⟩)
   refine⟨w',r1,?_⟩;refine hr.sk (ob:=.cells t x fz c') hg rfl hl (hgl:=λ _ _ _ h=>by cases h;exact⟨_,_,rfl⟩) (hns:=qT hg λ t2 fz2 c2 e=>by cases e;exact .inr (by have h1:=g2 hne;have h2:=hin 0 (by cases vs with|nil=>exact aU rfl hne|cons _ _=>simp);omega)) r2 r3 ⟨cs',fr,rfl,by omega,λ i v hi=>?_,hfr⟩;rw[g4 i]at hi;rw[r5];by_cases hii:o<=i/\i<o+Z vs
   .rw[aA hii]at hi;obtain⟨v',e,r⟩:=hv.get _ _ hi;refine⟨v',?_,r⟩;rw[aA (by omega),show i+l.sh-(o+l.sh+0)=i-o by omega];exact e
   .rw[ax hii]at hi;obtain⟨v',e,r⟩:=hcell _ _ hi;refine⟨v',?_,r⟩;rw[ax (by omega)];exact e
  .cases h
include ok in
def qhq {A A':Mem} {w:aF} (hr:Rel ι A w) {t:au} {x x' v v':I} (h:cm tb A t x v=.ok A') (hx:VR ι x x') (hv:VR ι v v'):
 ∃w',(Instr.storeAt t x' v').run tb.P w=.ok () w'/\Rel ι A' w'/\bY ι A w ι A' w':=by
 unfold cm at h;split at h
 .cases hx with
  |ptr hl=>
   obtain⟨n,h1,h2⟩:=R.aC h;cases hb:aL (Z v.cells.toList) n with
   |false=>rw[hb]at h2;cases h2
   |true=>
    rw[hb]at h2;simp only[aJ]at h2;have hn:=beq_true hb;obtain⟨w',e,r⟩:=AS hr hl h2 hv.cells tb.P;refine⟨w',?_,r⟩;have hlen:=hv.cells.length;have hsz:¬(v'.cells.size≠n):=by simp only[xI]at hlen hn;omega
    simp only[Instr.storeAt,Instr.sureAddr,storeVar,aM,a6,aP,jz ok h1,ax hsz];exact e
 .cases h
end
section
variable {tb:aN}(ok:dO tb){ι:bj}
variable {A:Mem}{w':aF}{b:Nat}{ob:Ob}{o':Obj}
def Rel.move{w:aF}{o:Ob}{l l2:Loc}(h:Rel ι A w)(hg:A.get b=U o)(ha:alive o=ae)(hl:ι b=U l)(hns:¬Still A b l)(hf:ι A.next=V)(hgl:∀t k c,ob≠.cells t .row (GB k) c)
 (hw:Wu w w' l.blk o')(hs:w'.heap.size=w.heap.size)(h2:l2.blk=l.blk)(ho:∀ι',gW ι ι'->OR ι' ob l2 o'):
 ∃ι',ι' A.next=U l2/\Rel ι' ((A.set b .dead).alloc ob) w'/\bY ι A w ι' ((A.set b .dead).alloc ob) w':=by
 let ι':bj:=λ x=>if x=A.next then U l2 else ι x
 have hin:ι' A.next=U l2:=aA rfl
 have hne:∀x,x≠A.next->ι' x=ι x:=λ x hx=>ax hx
 have hle:gW ι ι':=λ x lx hx=>by
  by_cases e:x=A.next
  .rw[e,hf]at hx;cases hx
  .rw[hne x e];exact hx
 have hbn:b≠A.next:=λ e=>by rw[e,hf]at hl;cases hl
 have hnx:(A.set b .dead).next=A.next:=rfl
 have hget:∀x,((A.set b .dead).alloc ob).get x=if x=A.next then U ob else if x=b then U .dead else A.get x:=by
  intro x;rw[ma,cN];rfl
 have hlive:∀x,x≠A.next->live ((A.set b .dead).alloc ob) x->live A x/\x≠b:=by
  rintro x hx ⟨ox,hox,hal⟩;rw[hget,ax hx]at hox;by_cases e:x=b
  .rw[aA e]at hox;cases hox;cases hal
  .rw[ax e]at hox;exact⟨⟨ox,hox,hal⟩,e⟩
 have hother:∀x lx,live A x->x≠b->ι x=U lx->lx.blk≠l.blk:=λ x lx hx hxb hlx he=>hxb (h.inj x b lx l hx ⟨o,hg,ha⟩ hlx hl he)
 refine⟨ι',hin,⟨λ x hx=>?_,λ x ox lx hx hal hlx=>?_,λ x lx hlx=>?_,λ x y lx ly hx hy hlx hly he=>?_,λ x t k c hx=>by
  rw[hget]at hx;by_cases e:x=A.next
  .rw[aA e]at hx;exact aU (iR hx) (hgl t k c)
  .rw[ax e]at hx;by_cases eb:x=b
   .rw[aA eb]at hx;cases hx
   .rw[ax eb]at hx;rw[hne x e];exact h.gl x _ _ _ hx⟩,
  ⟨?_,λ x hx=>hne x ?_,λ x lx hx hlx=>?_,λ c hc hn=>hw.ne c hc ?_,by omega,hw.os,hw.tape,hw.output,λ x lx hlx hsx=>by
   have hxb:x≠b:=by
    rintro rfl;rw[hl]at hlx;cases hlx;exact hns hsx
   obtain⟨hxn,t,fz,c,hx2,_⟩:=hsx;exact⟨by rw[hget,ax (by omega),ax hxb],hw.ne _ (h.rng x lx hlx) (hother x lx ⟨_,hx2,rfl⟩ hxb hlx)⟩⟩⟩
 .rw[aG,hnx]at hx;rw[hget,ax (by omega),ax]
  .exact h.wf x (by omega)
  .intro e;rw[<-e,h.wf x (by omega)]at hg;cases hg
 .rw[hget]at hx;by_cases e:x=A.next
  .subst e;rw[aA rfl]at hx;cases hx;rw[hin]at hlx;cases hlx;exact⟨o',by rw[h2];exact hw.at_,ho ι' hle⟩
  .rw[ax e]at hx;by_cases eb:x=b
   .rw[aA eb]at hx;cases hx;cases hal
   .rw[ax eb]at hx;rw[hne x e]at hlx;obtain⟨o2,h3,h4⟩:=h.obs x ox lx hx hal hlx;exact⟨o2,by rw[hw.ne _ (h.rng x lx hlx) (hother x lx ⟨ox,hx,hal⟩ eb hlx)];exact h3,h4.mono hle⟩
 .rw[hs];by_cases e:x=A.next
  .subst e;rw[hin]at hlx;cases hlx;rw[h2];exact h.rng b l hl
  .rw[hne x e]at hlx;exact h.rng x lx hlx
 .by_cases ex:x=A.next
  .by_cases ey:y=A.next
   .omega
   .subst ex;rw[hin]at hlx;cases hlx;rw[hne y ey]at hly;obtain⟨h3,h4⟩:=hlive y ey hy;exact aU (by omega) (hother y ly h3 h4 hly)
  .by_cases ey:y=A.next
   .subst ey;rw[hin]at hly;cases hly;rw[hne x ex]at hlx;obtain⟨h3,h4⟩:=hlive x ex hx;exact aU (by omega) (hother x lx h3 h4 hlx)
   .rw[hne x ex]at hlx;rw[hne y ey]at hly;exact h.inj x y lx ly (hlive x ex hx).1 (hlive y ey hy).1 hlx hly he
 .rw[aG,hnx];omega
 .rw[aG,hnx]at hx;omega
 .by_cases e:x=A.next
  .subst e;rw[hin]at hlx;cases hlx;exact .inr ⟨b,l,⟨o,hg,ha⟩,hl,h2.symm⟩
  .rw[hne x e]at hlx;exact .inr ⟨x,lx,(hlive x e hx).1,hlx,rfl⟩
 .rintro rfl;exact hn b l ⟨o,hg,ha⟩ hl rfl
variable {x':I}{n:Nat}
def FW{x:I}(h:gj x=.ok n)(hx:VR ι x x')(P:cI)(w:aF):(Builtin.lenOf x').run P w=.ok n w:=by
 unfold gj at h;split at h
 .simp only[ay]at h;subst h;cases hx<;>rfl
 .simp only[ay]at h;subst h;cases hx;simp only[Builtin.lenOf,a6,size_data]
 .cases h
variable {size m:Nat}{vs:List I}
def OF{w:aF}(hr:Rel ι A w){x:I}(h:jJ A.get size n x=.ok vs)(hx:VR ι x x')(hm:gj x=.ok m)(hn:n<=m):
 ∃vs',bI ι vs vs'/\∀P (w2:aF),w2.heap=w.heap->(Builtin.firstCells size n x').run P w2=.ok vs'.toArray w2:=by
 unfold jJ at h;split at h
 .rename_i a len cap;simp only[gj,ay]at hm;subst hm;obtain⟨a',cap',vs',e,r,run,hnone,_⟩:=Ja hr h hx hn;subst e;refine⟨vs',r,λ P w2 hw2=>?_⟩;cases a' with
  |none=>
   obtain⟨rfl,_⟩:=hnone rfl;rfl
  |some b=>exact run b rfl P w2 hw2
 .rename_i s;cases hb:aL size 1 with
  |false=>rw[hb]at h;cases h
  |true=>
  rw[hb]at h;simp only[aJ,ay]at h;subst h;cases hx;refine⟨((s.extract 0 n).data.map λ b=>Value.int .u8 b.toNat).toList,?_,λ P w2 _=>?_⟩
  .have e:((s.extract 0 n).data.map λ b=>Value.int .u8 b.toNat).toList=(s.data.toList.take n).map gx:=by
    rw[extract_eq];simp;rfl
   rw[e];have:∀l:List UInt8,bI ι (l.map gx) (l.map gx):=by
    intro l
    induction l with
    |nil=>exact .nil
    |cons b l ih=>exact .cons (.int _ _) ih
   exact this _
  .simp only[Builtin.firstCells,a6]
 .cases h
def OE{x:I}(h:jJ A.get size n x=.ok vs)(hx:∃x',VR ι x x')(hm:gj x=.ok m)(hn:n<=m):Z vs=n*size:=by
 obtain⟨x',hx⟩:=hx;unfold jJ at h;split at h
 .rename_i a len cap;simp only[gj,ay]at hm;subst hm;unfold gh at h;split at h
  .simp only[ay]at h;subst h;cases hx;have:n=0:=by omega
   subst this;simp
  .rename_i a0;cases hb:aL (n*size) 0 with
   |true=>
    rw[hb]at h;simp only[aJ,ay]at h;subst h;rw[beq_true hb];rfl
   |false=>
    rw[hb]at h;simp only[bJ]at h;split at h
    .split at h
     .rename_i hg;simp only[ay]at h;subst h;exact(T.CS _ _ _ _ hg).1
     .cases h
    .cases h
 .rename_i s;simp only[gj,ay]at hm;subst hm;cases hb:aL size 1 with
  |false=>rw[hb]at h;cases h
  |true=>
   rw[hb]at h;simp only[aJ,ay]at h;subst h;rw[beq_true hb];simp only[bc,df,qq];omega
 .cases h
variable {A':Mem}{o cap:Nat}
def Tz{w:aF}(hr:Rel ι A w){len off:Nat}{vs':List I}(hx:VR ι (.slice (U ⟨b,o,V⟩) len cap) x')(h:lj A ⟨b,o+off,V⟩ vs=.ok A')(hv:bI ι vs vs')
 (h0:vs≠ []->0<bV cap):∃a' cap',x'=.slice (U a') len cap'/\a'.spot=V/\∀P,∃w',(storeCells (a'.add off) vs').run P w=.ok () w'/\Rel ι A' w'/\bY ι A w ι A' w':=by
 cases hx with
 |sl hl hk=>
  rename_i l;refine⟨_,_,rfl,rfl,λ P=>?_⟩;obtain⟨w',e,r⟩:=AS hr hl h hv P;rw[om,show o+l.sh+off=o+off+l.sh by omega];exact⟨w',e,r⟩
 |slX hl hk hc hsz ho hb hlen=>
  rename_i o' cap' l;refine⟨_,_,rfl,rfl,λ P=>?_⟩;cases hvs:vs with
  |nil=>
   subst hvs;cases hv;simp only[lj,ay]at h;subst h;exact⟨w,rfl,hr,bY.refl ι A w⟩
  |cons v vs0=>
   have:=h0 (by rw[hvs];simp);have ho':=ho (by omega);obtain⟨w',e,r⟩:=AS hr hl h hv P;rw[om,ho',show o+l.sh+off=o+off+l.sh by omega];exact⟨w',e,r⟩
def VR.Gy{a:Addr}{len:Nat}(h:VR ι (.slice (U a) len cap) x'):a=⟨a.block,a.off,V⟩:=by
 cases h<;>rfl
include ok in
def Yd {A A':Mem} {w:aF} (hr:Rel ι A w) {dt rt:au} {ts:Array au} {d d' s s' v:I} {args:Array I} (h:E7 tb A dt d s=.ok (v,A')) (hd:VR ι d d') (hs:VR ι s s')
 (ht:ts[0]?=U dt) (h0:args[0]?=U d') (h1:args[1]?=U s'):
 ∃w' v',(Builtin.copy_ ts rt args).run tb.P w=.ok v' w'/\VR ι v v'/\Rel ι A' w'/\bY ι A w ι A' w':=by
 unfold E7 at h;split at h
 .rename_i elem base dl cap hdt;obtain⟨size,e1,h2⟩:=R.aC h;obtain⟨sl,e2,h3⟩:=R.aC h2;simp only at h3;obtain⟨l,e3,h4⟩:=R.aC h3;have hmin:(bif av sl dl then sl else dl)=Nat.min sl dl:=by
   cases hb:av sl dl with
   |true=>have:=jD hb;simp only[aJ];exact(nf this).symm
   |false=>have:=HY hb;simp only[bJ];exact(BI (by omega)).symm
  rw[hmin]at e3 h4;obtain⟨vs',r,run⟩:=OF hr e3 hs e2 (Ec ..);have hl0:l≠ []->0<dl:=by
   intro hne;rcases Hr dl with h0|h0
   .exfalso;have:=OE e3 ⟨_,hs⟩ e2 (Ec ..);rw[h0,show Nat.min sl 0=0 from Nat.min_zero sl,xZ]at this;exact hne (eN.1 this)
   .exact h0
  split at h4
  .simp only[ay,bH]at h4;obtain⟨rfl,rfl⟩:=h4;cases hd;refine⟨w,_,?_,.int _ _,hr,bY.refl ι A w⟩;simp only[Builtin.copy_,ht,h0,h1,aM,bO ok hdt,aP,FW e2 hs,jz ok e1,run _ _ rfl,a6];rfl
  .rename_i a;obtain⟨A2,e4,h5⟩:=R.aC h4;simp only[ay,bH]at h5;obtain⟨rfl,rfl⟩:=h5;have ha:=hd.Gy;rw[ha]at hd e4;have core:∃a' cap',d'=.slice (U a') dl cap'/\∃w',(storeCells a' vs').run tb.P w=.ok () w'/\Rel ι A2 w'/\bY ι A w ι A2 w':=by
    cases hx:hd with
    |sl hl hk=>
     obtain⟨w',e,r⟩:=AS hr hl e4 r tb.P;exact⟨_,_,rfl,w',e,r⟩
    |slX hl hk hc hsz ho hb hlen=>
     obtain⟨a',cap',he,hsp,hrun⟩:=Tz (off:=0) hr (.slX hl hk hc hsz ho hb hlen) e4 r (λ hne=>by have:=hl0 hne;omega);cases he;obtain⟨w',e,r⟩:=hrun tb.P;exact⟨_,_,rfl,w',e,r⟩
   obtain⟨a',cap',rfl,w',e,hrel,hst⟩:=core;refine⟨w',_,?_,.int _ _,hrel,hst⟩;simp only[Builtin.copy_,ht,h0,h1,aM,bO ok hdt,aP,FW e2 hs,jz ok e1,run _ _ rfl,e,a6];rfl
 .cases h
end
section
variable {tb:aN}(ok:dO tb){ι:bj}
theorem O6(n:Nat):∀r c,Builtin.growBy n r c<=2^r*(c+768)
 |0,c=>by simp[Builtin.growBy]
 |r+1,c=>by
  unfold Builtin.growBy;have hp:0<2^r:=Nat.pow_pos (by omega);split
  .calc c<=1*(c+768):=by omega
    _<=2^(r+1)*(c+768):=BK _ (Nat.pow_pos (by omega))
  .refine dm (O6 n r _) ?_;rw[zE,Nat.mul_assoc];exact Nat.mul_le_mul_left _ (by omega)
variable {cap:Nat}
def Qz{need:Nat}(h:cap<need)(hn:need<=16777216):Builtin.nextslicecap need cap<=2^29:=by
 unfold Builtin.nextslicecap;split
 .omega
 .split
  .omega
  .refine dm (O6 need 4 cap) ?_;omega
variable {base:Option Addr}{n size:Nat}{x':I}
def Zw(P:cI){ts:Array au}{rt st xt elem:au}{args:Array I}{len:Nat}{zv:I}{i:TypeInfo}{xd:TypeDesc}{old new:List I}{w:aF}
 (ht0:ts[0]?=U st)(ht1:ts[1]?=U xt)(ha0:args[0]?=U (.slice base len cap))(ha1:args[1]?=U x')
 (hst:∀w:aF,(underlying st).run P w=.ok (.slice elem) w)(hxt:∀w:aF,(underlying xt).run P w=.ok xd w)(hxd:∀k,xd≠.int k)
 (hsz:∀w:aF,(sizeOf elem).run P w=.ok size w)(hi:∀w:aF,(typeInfo elem).run P w=.ok i w)(hz:∀w:aF,(zeroValue elem).run P w=.ok zv w)
 (hlen:∀w:aF,(Builtin.lenOf x').run P w=.ok n w)(hnew:∀d,(Builtin.firstCells size n x').run P {w with drawn:=d}=.ok new.toArray {w with drawn:=d})
 (hold:∀d,(Builtin.firstCells size len (.slice base len cap)).run P {w with drawn:=d}=.ok old.toArray {w with drawn:=d})
 (hneed:¬(len+n<=cap))(hmax:len+n<=16777216)(hb:i.bytes<=65536):
 ∃c,len+n<=c/\c<2^63/\(Builtin.append_ ts rt args).run P w=
  .ok (.slice (U ⟨w.heap.size,0,V⟩) (len+n) c) {w with heap:=w.heap.push (.cells (old.toArray++new.toArray++Builtin.zeroCells zv.cells (c-(len+n))) elem),drawn:=w.drawn+1}:=by
 let c:=(Question.appendCap (len+n) cap elem).cut (w.tape w.drawn (.appendCap (len+n) cap elem));have hc:len+n<=c/\c<2^63:=by
  show len+n<=len+n+_ % (2^63-(len+n))/\len+n+_ % (2^63-(len+n))<2^63;have:w.tape w.drawn (.appendCap (len+n) cap elem) % (2^63-(len+n))<2^63-(len+n):=jV _ (by omega);omega
 refine⟨c,hc.1,hc.2,?_⟩;have hbig:¬(((len+n:Nat):Int)>IntKind.i64.max/\(False\/i.bytes=0)):=by
  simp only[IntKind.max,IntKind.signed,IntKind.bits,bB];omega
 have hn1:=Qz (by omega:cap<len+n) hmax;have hcap:¬(Builtin.nextslicecap (len+n) cap*i.bytes>2^48):=by
  have:Builtin.nextslicecap (len+n) cap*i.bytes<=2^29*65536:=BJ hn1 hb;omega
 have h0:=hnew (w.drawn+1);have h1:=hold (w.drawn+1);unfold Builtin.append_;simp only[ht0,ht1,ha0,ha1,aM,hst,hxt,hsz,hlen,hi,aP,a6,dR,bg,ax hneed,ax hbig,ax hcap,run_choose,Question.forced,run_askRoom,h1,h0,hz,vg,bB,newRow,run_newObj];rfl
variable {w':aF}
def qc7(P:cI){ts:Array au}{rt st xt elem:au}{args:Array I}{len:Nat}{xd:TypeDesc}{new:List I}{w:aF}
 (ht0:ts[0]?=U st)(ht1:ts[1]?=U xt)(ha0:args[0]?=U (.slice base len cap))(ha1:args[1]?=U x')
 (hst:∀w:aF,(underlying st).run P w=.ok (.slice elem) w)(hxt:∀w:aF,(underlying xt).run P w=.ok xd w)(hxd:∀k,xd≠.int k)
 (hsz:∀w:aF,(sizeOf elem).run P w=.ok size w)(hlen:∀w:aF,(Builtin.lenOf x').run P w=.ok n w)(hnew:(Builtin.firstCells size n x').run P w=.ok new.toArray w)
 (hneed:len+n<=cap)(hs:∀a,base=U a->(storeCells (a.add (len*size)) new).run P w=.ok () w')(hn:base=V->w'=w):
 (Builtin.append_ ts rt args).run P w=.ok (.slice base (len+n) cap) w':=by
 unfold Builtin.append_;simp only[ht0,ht1,ha0,ha1,aM,hst,hxt,hsz,hlen,aP,a6,dR,bg,aA hneed,vg,bB,hnew];cases base with
 |none=>rw[hn rfl];rfl
 |some a=>simp only[aM,hs a rfl,aP,a6]
def KH(z:Array I)(n:Nat):(Builtin.zeroCells z n).size=n*z.size:=by simp[Builtin.zeroCells]
variable {cs:Array I}{d:Nat}
def R8{old old' new new':List I}(ho:bI ι old old')(hn:bI ι new new')
 (h1:∀j,j<Z old->cs[j+d]?=old'[j]?)(h2:∀j,j<Z new->cs[Z old+j+d]?=new'[j]?):
 ∀i v,(T.bW .e 0 (old++new)).get i=U v->∃v',cs[i+d]?=U v'/\VR ι v v':=by
 intro i v hv;rw[T.oK]at hv;by_cases hi:0<=i/\i<0+(old++new).length
 .rw[aA hi]at hv;simp only[kL]at hv;rcases ec i (Z old)with h|h
  .rw[fe h]at hv;obtain⟨v',e,r⟩:=ho.get _ _ hv;exact⟨v',by rw[h1 i h];exact e,r⟩
  .rw[eV h]at hv;obtain⟨v',e,r⟩:=hn.get _ _ hv;have hlt:i-Z old<Z new:=by
    have:=hi.2;simp only[aY]at this;omega
   refine⟨v',?_,r⟩;have:=h2 (i-Z old) hlt;rw[show Z old+(i-Z old)+d=i+d by omega]at this;rw[this];exact e
 .rw[ax hi,T.pv]at hv;cases hv
variable {A:Mem}{b:Nat}
def Rel.kill{w:aF}{o:Ob}(h:Rel ι A w)(hg:A.get b=U o)(hns:∀l,¬Still A b l):Rel ι (A.set b .dead) w/\bY ι A w ι (A.set b .dead) w:=by
 have hlive:∀x,live (A.set b .dead) x->live A x:=by
  rintro x ⟨ox,hx,hal⟩;rw[cN]at hx;by_cases e:x=b
  .rw[aA e]at hx;cases hx;cases hal
  .rw[ax e]at hx;exact⟨ox,hx,hal⟩
 refine⟨⟨λ x hx=>?_,λ x ox lx hx hal hlx=>?_,h.rng,λ x y lx ly hx hy=>h.inj x y lx ly (hlive x hx) (hlive y hy),λ x t k c hx=>by
  rw[cN]at hx;by_cases e:x=b
  .rw[aA e]at hx;cases hx
  .rw[ax e]at hx;exact h.gl x _ _ _ hx⟩,
  ⟨aI _,λ _ _=>rfl,λ x lx hx hlx=>.inr ⟨x,lx,hlive x hx,hlx,rfl⟩,λ _ _ _=>rfl,aI _,rfl,rfl,rfl,λ x lx _ hsx=>⟨by rw[cN,ax (by rintro rfl;exact hns lx hsx)],rfl⟩⟩⟩
 .rw[cU]at hx;rw[cN,ax]
  .exact h.wf x hx
  .rintro rfl;rw[h.wf x hx]at hg;cases hg
 .rw[cN]at hx;by_cases e:x=b
  .rw[aA e]at hx;cases hx;cases hal
  .rw[ax e]at hx;exact h.obs x ox lx hx hal hlx
variable {A':Mem}{v:I}
def Ml{w : aF}(hr : Rel ι A w){rt elem : au}{ts : Array au}{len : Nat}{new new' : List I}{s' zv : I}{args : Array I}
    (h4 : ig tb A elem base len cap size n new = .ok (v, A'))(hs : VR ι (.slice base len cap) s')(hz0 : zv.cells.size = size)(rnew : bI ι new new')(hnl : Z new = n * size)(hfree : eA ι A A')
    (hroomR : ∀ (base' : Option Addr) (cap' : Nat) (w' : aF), s' = .slice base' len cap' -> len + n <= cap' -> (∀ a, base' = U a -> (storeCells (a.add (len * size)) new').run tb.P w = .ok () w') -> (base' = V -> w' = w) ->
      (Builtin.append_ ts rt args).run tb.P w = .ok (.slice base' (len + n) cap') w')
    (hgrowR : ∀ (base' : Option Addr) (cap' : Nat) (old' : List I) (i : TypeInfo), s' = .slice base' len cap' -> tb.ty.get elem = U i ->
      (∀ d, (Builtin.firstCells size len (.slice base' len cap')).run tb.P { w with drawn := d } = .ok old'.toArray { w with drawn := d }) -> ¬ (len + n <= cap') -> len + n <= 16777216 -> i.bytes <= 65536 ->
      ∃ c, len + n <= c /\ c < 2 ^ 63 /\ (Builtin.append_ ts rt args).run tb.P w =
        .ok (.slice (U ⟨w.heap.size, 0, V⟩) (len + n) c) { w with heap := w.heap.push (.cells (old'.toArray ++ new'.toArray ++ Builtin.zeroCells zv.cells (c - (len + n))) elem), drawn := w.drawn + 1 }) :
    ∃ ι' w' v', (Builtin.append_ ts rt args).run tb.P w = .ok v' w' /\ VR ι' v v' /\ Rel ι' A' w' /\ bY ι A w ι' A' w' := by
  unfold ig at h4
  cases hroom : av (len + n) (bV cap) with
  | true =>
    rw [hroom] at h4; simp only [aJ] at h4
    have hle := jD hroom
    split at h4
    . simp only [ay, bH] at h4
      obtain ⟨rfl, rfl⟩ := h4
      cases hs
      have hn0 : n = 0 := by have : bV 0 = 0 := rfl; omega
      subst hn0
      refine ⟨ι, w, .slice V 0 0, ?_, .slN, hr, bY.refl ι A w⟩
      exact hroomR V 0 w rfl (aI _) (λ a ha => by cases ha) (λ _ => rfl)
    . rename_i a
      split at h4
      . cases h4
      . rename_i hsp
        obtain ⟨A2, e4, h5⟩ := R.aC h4
        simp only [ay, bH] at h5
        obtain ⟨rfl, rfl⟩ := h5
        have ha := hs.Gy
        rw [ha] at hs e4
        have hnewlen : new ≠ [] -> 0 < n := by
          intro hne
          rcases Hr n with h0 | h0
          . exfalso
            have := hnl
            rw [h0, xZ] at this
            exact hne (eN.1 this)
          . exact h0
        obtain ⟨a', cap', rfl, hsp', hst2⟩ := Tz (off := len * size) hr hs e4 rnew (λ hne => by have := hnewlen hne; omega)
        obtain ⟨w', run, hrel, hstp⟩ := hst2 tb.P
        have hcap' : bV cap <= cap' := by cases hs with
          | sl hl hk => exact aI _
          | slX hl hk hc _ _ _ _ => exact hc
        refine ⟨ι, w', .slice (U a') (len + n) cap', ?_, ?_, hrel, hstp⟩
        . exact hroomR (U a') cap' w' rfl (by omega) (λ a ha => by cases ha; exact run) (λ ha => by cases ha)
        . rw [ha]
          cases hs with
          | sl hl hk => exact .sl hl hk
          | slX hl hk hc hsz2 ho hb hlen => exact .slX hl hk hc hsz2 ho hb hle
  | false =>
    rw [hroom] at h4; simp only [bJ] at h4
    have hgt := HY hroom
    split at h4
    . cases h4
    . rename_i i hi
      cases hb : (av (len + n) 16777216 && av i.bytes 65536 && aO 0 i.bytes && aO 0 size && aO size 65536) with
      | false => rw [hb] at h4; cases h4
      | true =>
        rw [hb] at h4; simp only [aJ] at h4
        simp only [dW] at hb
        have b1 := jD hb.1.1.1.1
        have b2 := jD hb.1.1.1.2
        have b4 := jE hb.1.2
        have b5 := jE hb.2
        obtain ⟨old, e4, h5⟩ := R.aC h4
        clear h4
        obtain ⟨base', cap', old', hs', rold, runold, hnone, hlold⟩ := Ja hr e4 hs (aI _)
        subst hs'
        have hfo : ∀ d, (Builtin.firstCells size len (.slice base' len cap')).run tb.P { w with drawn := d } = .ok old'.toArray { w with drawn := d } := by
          intro d
          cases base' with
          | none => obtain ⟨rfl, _⟩ := hnone rfl; rfl
          | some b => exact runold b rfl tb.P _ rfl
        have hol : Z old = len * size := by
          rcases hlold with h | h
          . exact h
          . subst h
            cases hs
            simp only [gh, ay] at e4; subst e4; simp
        have hol' : Z old' = len * size := by rw [rold.length, hol]
        have hnl' : Z new' = n * size := by rw [rnew.length, hnl]
        have grow : ¬ (len + n <= cap') -> ∀ (A : Mem), Rel ι A w -> ∀ (fz : Nat) (xk : Kd), (∀ n, xk ≠ .var n) -> (∀ n, xk ≠ .room n) -> (∀ k, fz ≠ GB k) -> ι A.next = V -> ∃ ι' w' v', (Builtin.append_ ts rt args).run tb.P w = .ok v' w' /\ VR ι' (.slice (U ⟨A.next, 0, V⟩) (len + n) (cP (len + n) size)) v' /\
            Rel ι' (A.alloc (.cells elem xk fz (T.bW .e 0 (old ++ new)))) w' /\ bY ι A w ι' (A.alloc (.cells elem xk fz (T.bW .e 0 (old ++ new)))) w' := by
          intro hno A hr fz xk hxk hxr hfzg hfn
          obtain ⟨c, c1, c2, run⟩ := hgrowR base' cap' old' i rfl hi hfo hno b1 b2
          have hcs : (old'.toArray ++ new'.toArray ++ Builtin.zeroCells zv.cells (c - (len + n))).size = c * size := by
            simp only [Array.size_append, List.size_toArray, KH, hz0, hol', hnl', <- qo]
            congr 1; omega
          have hOR : ∀ ι', gW ι ι' -> OR ι' (.cells elem xk fz (T.bW .e 0 (old ++ new))) ⟨w.heap.size, 0, c * size⟩ (.cells (old'.toArray ++ new'.toArray ++ Builtin.zeroCells zv.cells (c - (len + n))) elem) := by
            intro ι' hi
            refine ⟨_, (0, 0), rfl, hcs, λ i v hv => ?_, ?_⟩
            . refine R8 (d := 0) (rold.mono hi) (rnew.mono hi) (λ j hj => ?_) (λ j hj => ?_) i v hv
              . simp only [eo]
                rw [DN (by simp; omega), DN (by simp; omega)]; simp
              . simp only [eo]
                rw [DN (by simp; omega), Array.getElem?_append_right (by simp; omega)]; simp [hol, hol']
            . cases xk with
              | var n => exact aU rfl (hxk n)
              | row => simp
              | mark => intro i _; simp
              | room n => exact aU rfl (hxr n)
          obtain ⟨ι', e, hrel, hstp⟩ := Rel.uE (w' := { w with heap := w.heap.push (.cells (old'.toArray ++ new'.toArray ++ Builtin.zeroCells zv.cells (c - (len + n))) elem), drawn := w.drawn + 1 })
            (ob := .cells elem xk fz (T.bW .e 0 (old ++ new))) (sz := c * size) hr hfn (λ t k c' h => by
                            have h2 := cX (λ o : Ob => match o with | .cells _ _ fz _ => fz | _ => 0) h
                            exact hfzg _ h2) (tf w _ _ (by simp)) (by simp) (λ ι' hi hb => hOR ι' hi)
          refine ⟨ι', _, _, run, ?_, hrel, hstp⟩
          have hE : size < 65536 := b5
          exact VR.slX (o' := 0) e (kU _ _) (by rw [iW hE]; exact c1) (by rw [mH hE]; simp) (λ _ => rfl) c2 (by rw [iW hE]; exact aI _)
        cases hcx : ed cap with
        | true =>
          rw [hcx] at h5; simp only [aJ, ay, bH] at h5
          obtain ⟨rfl, rfl⟩ := h5
          have hfn : ι A.next = V := hfree A.next (aI _) (by rw [aG]; omega)
          refine grow ?_ A hr 0 .row (λ n h => by cases h) (λ n h => by cases h) (λ k h => by unfold GB at h; omega) hfn
          cases hs with
          | slN => have : bV 0 = 0 := rfl; omega
          | sl hl hk => exact hgt
          | slX hl hk _ _ _ _ _ => rw [hk] at hcx; cases hcx
        | false =>
          rw [hcx] at h5; simp only [bJ] at h5
          split at h5
          . rename_i a
            cases hc1 : (aL (hY cap) size && new.all bS) with
            | false => rw [hc1] at h5; cases h5
            | true =>
              rw [hc1] at h5; simp only [aJ] at h5
              simp only [dW] at hc1
              have hE := beq_true hc1.1
              split at h5
              . rename_i t xk fz c hsp hg
                cases hc2 : (av fz (a.off + len * size) && (aL t elem && aO fz 9223372036854775808)) with
                | false => rw [hc2] at h5; cases h5
                | true =>
                  rw [hc2] at h5; simp only [aJ] at h5
                  simp only [dW] at hc2
                  have hfz := jD hc2.1
                  have hfzb : fz < 9223372036854775808 := by simpa [bZ] using hc2.2.2
                  obtain rfl := beq_true hc2.2.1
                  have hns : ∀ l, ¬ Still A a.block l := λ l => qT hg λ t2 fz2 c2 e => by cases e; exact .inl (by simpa [bZ] using hc2.2.2)
                  split at h5
                  . cases h5
                  . cases h5
                  . rename_i hnv hnr
                    simp only [ay, bH] at h5
                    obtain ⟨rfl, rfl⟩ := h5
                    have hnA : ((A.set a.block .dead).alloc (.cells t xk (fz - a.off) (T.bW .e 0 (old ++ new)))).next = A.next + 1 := rfl
                    have hfn : ι A.next = V := hfree A.next (aI _) (by rw [hnA]; omega)
                    have ha := hs.Gy
                    generalize a.block = b at ha hg hns
                    generalize a.off = o at ha hg hfz
                    have hfzg : ∀ k, fz - o ≠ GB k := λ k h => by unfold GB at h; omega
                    subst ha
                    cases hs with
                    | sl hl hk => rw [hk] at hcx; cases hcx
                    | slX hl hk hc hsz2 ho hb63 hlen =>
                      rename_i o' l
                      obtain ⟨ob0, hw0, cs, fr, rfl, hcs0, hcell0, hfr0⟩ := hr.obs _ _ _ hg rfl hl
                      by_cases hno : len + n <= cap'
                      ·
                        have ho' := ho (by omega)
                        subst ho'
                        have hbound : o + l.sh + (len + n) * size <= l.sz := by
                          have : (len + n) * size <= cap' * hY cap := by rw [hE]; exact BK _ hno
                          omega
                        have hsplit : (len + n) * size = len * size + n * size := qo ..
                        obtain ⟨w', cs', r1, r2, r3, r4, r5⟩ := Ll tb.P new' w (o + l.sh + len * size) 0 cs hw0 (rnew.HN (oT.1 hc1.2)) (λ j hj => by
                          rw [hnl'] at hj
                          rw [show o + l.sh + len * size + 0 + j = (o + len * size + j) + l.sh by omega]
                          exact ⟨by omega, Un hfr0 (by omega) (by omega)⟩)
                        have hgets : ∀ j v, old[j]? = U v -> c.get (o + j) = U v := by
                          intro j v hv
                          unfold gh at e4
                          simp only at e4
                          cases hz : aL (len * size) 0 with
                          | true =>
                            rw [hz] at e4; simp only [aJ, ay] at e4; subst e4; simp at hv
                          | false =>
                            rw [hz] at e4; simp only [bJ, hg] at e4
                            split at e4
                            . rename_i q hq
                              simp only [ay] at e4; subst e4
                              obtain ⟨q1, q2⟩ := T.CS _ _ _ _ hq
                              have hj : j < len * size := by
                                rcases ec j (len * size) with h | h
                                . exact h
                                . rw [ky (by omega)] at hv; cases hv
                              rw [q2 j hj]; exact hv
                            . cases e4
                        have rold2 : bI ι old ((cs.toList.drop (o + l.sh)).take (len * size)) := by
                          refine bI.C8 ?_ λ j v v' hv hv' => ?_
                          . simp only [df, vu, xI]; omega
                          . obtain ⟨u, e, r⟩ := hcell0 _ _ (hgets j v hv)
                            have hj : j < len * size := by
                              rcases ec j (len * size) with h | h
                              . exact h
                              . rw [ky (by omega)] at hv; cases hv
                            rw [Hk hj, xP, gp, show o + l.sh + j = o + j + l.sh by omega, e] at hv'
                            cases hv'; exact r
                        obtain ⟨ι', e, hrel, hstp⟩ := Rel.move (l2 := ⟨l.blk, o + l.sh, l.sz⟩) (ob := .cells t xk (fz - o) (T.bW .e 0 (old ++ new))) hr hg rfl hl (hns _) hfn (λ t k c' h => by
                            have h2 := cX (λ o : Ob => match o with | .cells _ _ fz _ => fz | _ => 0) h
                            exact hfzg _ h2) r2 r3 rfl (λ ι' hi => by
                          refine ⟨cs', fr, rfl, by simp only; omega, λ i v hv => ?_, ?_⟩
                          . refine R8 (d := o + l.sh) (rold2.mono hi) (rnew.mono hi) (λ j hj => ?_) (λ j hj => ?_) i v hv
                            . rw [r5, ax (by omega), Hk (by omega), xP, gp, xU j]
                            . rw [r5, aA (by omega), show Z old + j + (o + l.sh) - (o + l.sh + len * size + 0) = j by omega]
                          . cases xk with
                            | var n => exact aU rfl (hnv n)
                            | row => simp only at hfr0 ⊢; omega
                            | mark => exact hfr0
                            | room n => exact aU rfl (hnr n))
                        refine ⟨ι', w', .slice (U ⟨l.blk, o + l.sh, V⟩) (len + n) cap', ?_, ?_, hrel, hstp⟩
                        . refine hroomR (U ⟨l.blk, o + l.sh, V⟩) cap' w' rfl hno (λ a ha => ?_) (λ ha => by cases ha)
                          cases ha
                          rw [om]; exact r1
                        . have hE2 : size < 65536 := b5
                          have := VR.slX (ι := ι') (o := 0) (o' := o + l.sh) (len := len + n) (k := cP (len + n) size) (cap' := cap') e (kU _ _) (by rw [iW hE2]; exact hno) (by rw [mH hE2]; rw [hE] at hsz2; exact hsz2) (λ _ => by simp) hb63 (by rw [iW hE2]; exact aI _)
                          exact this
                      ·
                        obtain ⟨hr2, hst2⟩ := hr.kill hg hns
                        obtain ⟨ι', w', v', run, rv, hrel, hstp⟩ := grow hno (A.set b .dead) hr2 (fz - o) xk hnv hnr hfzg hfn
                        exact ⟨ι', w', v', run, rv, hrel, hst2.trans hstp⟩
              . cases h5
          . cases h5
variable {k':cS}
def Zv(P:cI){ts:Array au}{rt st xt elem:au}{args:Array I}{len:Nat}{k:cS}{zv:I}{i:TypeInfo}{old:List I}{w:aF}
 (ht0:ts[0]?=U st)(ht1:ts[1]?=U xt)(ha0:args[0]?=U (.slice base len cap))(ha1:args[1]?=U (.int k' (n:Int)))
 (hst:∀w:aF,(underlying st).run P w=.ok (.slice elem) w)(hxt:∀w:aF,(underlying xt).run P w=.ok (.int k) w)
 (hsz:∀w:aF,(sizeOf elem).run P w=.ok size w)(hi:∀w:aF,(typeInfo elem).run P w=.ok i w)(hz:∀w:aF,(zeroValue elem).run P w=.ok zv w)(hzs:zv.cells.size=size)
 (hold:∀d,(Builtin.firstCells size len (.slice base len cap)).run P {w with drawn:=d}=.ok old.toArray {w with drawn:=d})
 (hneed:¬(len+n<=cap))(hmax:len+n<=16777216)(hb:i.bytes<=65536):
 ∃c,len+n<=c/\c<2^63/\(Builtin.append_ ts rt args).run P w=
  .ok (.slice (U ⟨w.heap.size,0,V⟩) (len+n) c) {w with heap:=w.heap.push (.cells (old.toArray++Builtin.zeroCells zv.cells n++Builtin.zeroCells zv.cells (c-(len+n))) elem),drawn:=w.drawn+1}:=by
 let c:=(Question.appendCap (len+n) cap elem).cut (w.tape w.drawn (.appendCap (len+n) cap elem));have hc:len+n<=c/\c<2^63:=by
  show len+n<=len+n+_ % (2^63-(len+n))/\len+n+_ % (2^63-(len+n))<2^63;have:w.tape w.drawn (.appendCap (len+n) cap elem) % (2^63-(len+n))<2^63-(len+n):=jV _ (by omega);omega
 refine⟨c,hc.1,hc.2,?_⟩;have hw:IntKind.i64.wrap (n:Int)=n:=by
  have h1:(n:Int) % 2^64=n:=by omega
  have h2:¬((n:Int)>=2^(64-1)):=by omega
  simp only[IntKind.wrap,IntKind.bits,IntKind.signed,h1,tR,decide_eq_true_eq,ax h2]
 have has:∀u:aF,(asInt (.int k' (n:Int))).run P u=.ok (n:Int) u:=λ _=>rfl
 have hbig:¬(((len+n:Nat):Int)>IntKind.i64.max/\(True\/i.bytes=0)):=by
  simp only[IntKind.max,IntKind.signed,IntKind.bits,bB];omega
 have hn1:=Qz (by omega:cap<len+n) hmax;have hcap:¬(Builtin.nextslicecap (len+n) cap*i.bytes>2^48):=by
  have:Builtin.nextslicecap (len+n) cap*i.bytes<=2^29*65536:=BJ hn1 hb;omega
 have hneg:¬((n:Int)<0):=by omega
 have hby:¬((n:Int)*(i.bytes:Int)>2^48):=by
  have:n*i.bytes<=16777216*65536:=BJ (by omega) hb;have e:((n*i.bytes:Nat):Int)=(n:Int)*(i.bytes:Int):=by simp
  omega
 have h1:=hold (w.drawn+1);have hzz:n*size=0->Builtin.zeroCells zv.cells n= #[]:=by
  intro h;apply Array.eq_empty_of_size_eq_zero;rw[KH,hzs];exact h
 unfold Builtin.append_;simp only[ht0,ht1,ha0,ha1,aM,hst,hxt,hsz,hi,has,hw,aP,a6,bB,ax hneg,ax hby,Bt,ax hneed,ax hbig,ax hcap,run_choose,Question.forced,run_askRoom,h1,hz,ri,dR,bg,newRow,run_newObj];by_cases h0:n*size=0
 .simp only[aA h0,a6,aP,hzz h0];rfl
 .simp only[ax h0,aM,hz,a6,aP];rfl
def qc6(P:cI){ts:Array au}{rt st xt elem:au}{args:Array I}{len:Nat}{k:cS}{zv:I}{i:TypeInfo}{w:aF}
 (ht0:ts[0]?=U st)(ht1:ts[1]?=U xt)(ha0:args[0]?=U (.slice base len cap))(ha1:args[1]?=U (.int k' (n:Int)))
 (hst:∀w:aF,(underlying st).run P w=.ok (.slice elem) w)(hxt:∀w:aF,(underlying xt).run P w=.ok (.int k) w)
 (hsz:∀w:aF,(sizeOf elem).run P w=.ok size w)(hi:∀w:aF,(typeInfo elem).run P w=.ok i w)(hz:∀w:aF,(zeroValue elem).run P w=.ok zv w)(hzs:zv.cells.size=size)
 (hneed:len+n<=cap)(hmax:n<=16777216)(hb:i.bytes<=65536)(hs:∀a,base=U a->(storeCells (a.add (len*size)) (Builtin.zeroCells zv.cells n).toList).run P w=.ok () w')(hn:base=V->w'=w):
 (Builtin.append_ ts rt args).run P w=.ok (.slice base (len+n) cap) w':=by
 have hw:IntKind.i64.wrap (n:Int)=n:=by
  have h1:(n:Int) % 2^64=n:=by omega
  have h2:¬((n:Int)>=2^(64-1)):=by omega
  simp only[IntKind.wrap,IntKind.bits,IntKind.signed,h1,tR,decide_eq_true_eq,ax h2]
 have has:∀u:aF,(asInt (.int k' (n:Int))).run P u=.ok (n:Int) u:=λ _=>rfl
 have hneg:¬((n:Int)<0):=by omega
 have hby:¬((n:Int)*(i.bytes:Int)>2^48):=by
  have:n*i.bytes<=16777216*65536:=BJ hmax hb;have e:((n*i.bytes:Nat):Int)=(n:Int)*(i.bytes:Int):=by simp
  omega
 have hzz:n*size=0->Builtin.zeroCells zv.cells n= #[]:=by
  intro h;apply Array.eq_empty_of_size_eq_zero;rw[KH,hzs];exact h
 unfold Builtin.append_;simp only[ht0,ht1,ha0,ha1,aM,hst,hxt,hsz,hi,has,hw,aP,a6,bB,ax hneg,ax hby,Bt,aA hneed,ri,dR,bg];by_cases h0:n*size=0
 .rw[hzz h0]at hs;simp only[aA h0,a6,aP];cases base with
  |none=>rw[hn rfl];rfl
  |some a=>simp only[aM,hs a rfl,aP,a6]
 .simp only[ax h0,aM,hz,a6,aP];cases base with
  |none=>rw[hn rfl];rfl
  |some a=>simp only[aM,hs a rfl,aP,a6]
include ok in
def Ve {A A':Mem} {w:aF} (hr:Rel ι A w) {st xt rt:au} {ts:Array au} {s s' x x' v:I} {args:Array I} (h:dJ tb A st xt s x=.ok (v,A')) (hs:VR ι s s') (hx:VR ι x x')
 (ht0:ts[0]?=U st) (ht1:ts[1]?=U xt) (ha0:args[0]?=U s') (ha1:args[1]?=U x') (hfree:eA ι A A'):
 ∃ι' w' v',(Builtin.append_ ts rt args).run tb.P w=.ok v' w'/\VR ι' v v'/\Rel ι' A' w'/\bY ι A w ι' A' w':=by
 unfold dJ at h;split at h
 .rename_i elem base len cap xd hst hxt;cases hxi:kh xd with
  |true=>
   rw[hxi,aJ]at h;unfold HQ at h;obtain⟨⟨size,zero⟩,e1,h2⟩:=R.aC h;obtain⟨n,e2,h3⟩:=R.aC h2;obtain⟨hsize,hsz,zv,hzr,hzc,hzv⟩:=DL ok e1;have hz0:zv.cells.size=size:=by rw[hsize,<-hzc];simp
   obtain⟨k,rfl⟩:∃k,xd=.int k:=by
    cases xd with
    |int k=>exact⟨k,rfl⟩
    |_=>cases hxi
   obtain⟨k',rfl⟩:∃k',x=.int k' (n:Int):=by
    unfold jx at e2;split at e2
    .rename_i k' m;simp only[ay]at e2;subst e2;exact⟨k',rfl⟩
    .cases e2
   cases hx;split at h3
   .cases h3
   .rename_i i hi;cases hb:(av n 16777216&&av i.bytes 65536)with
    |false=>rw[hb]at h3;cases h3
    |true=>
     rw[hb,aJ]at h3;simp only[dW]at hb;have b1:=jD hb.1;have b2:=jD hb.2;have hrep:bI ι (n_ zero n) (Builtin.zeroCells zv.cells n).toList:=by
      have:=Gk (hzv ι) n;unfold Builtin.zeroCells;rwa[show n*Z zero=n*zv.cells.size by rw[hz0,hsize]]at this
     refine Ml hr (zv:=zv) h3 hs hz0 hrep (by rw[Gj,hsize]) hfree (λ base' cap' w' e hle hs2 hn2=>?_) (λ base' cap' old' i' e hi' hfo hno c1 c2=>?_)
     .subst e;exact qc6 tb.P ht0 ht1 ha0 ha1 (bO ok hst) (bO ok hxt) hsz (rZ ok hi) hzr hz0 hle b1 b2 hs2 hn2
     .subst e;obtain⟨c,h1,h2,h3⟩:=Zv tb.P ht0 ht1 ha0 ha1 (rt:=rt) (bO ok hst) (bO ok hxt) hsz (rZ ok hi) hzr hz0 hfo hno c1 b2;exact⟨c,h1,h2,by rw[h3]⟩
  |false=>
   rw[hxi]at h;simp only[bJ]at h;have hxd:∀k,xd≠.int k:=by rintro k rfl;cases hxi
   obtain⟨⟨size,zero⟩,e1,h2⟩:=R.aC h;obtain⟨n,e2,h3⟩:=R.aC h2;obtain⟨new,e3,h4⟩:=R.aC h3;clear h h2 h3;obtain⟨hsize,hsz,zv,hzr,hzc,hzv⟩:=DL ok e1;obtain⟨new',rnew,runnew⟩:=OF hr e3 hx e2 (aI _);have hz0:zv.cells.size=size:=by rw[hsize,<-hzc];simp
   refine Ml hr (zv:=zv) h4 hs hz0 rnew (OE e3 ⟨_,hx⟩ e2 (aI _)) hfree (λ base' cap' w' e hle hs2 hn2=>?_) (λ base' cap' old' i' e hi' hfo hno c1 c2=>?_)
   .subst e;exact qc7 tb.P ht0 ht1 ha0 ha1 (bO ok hst) (bO ok hxt) hxd hsz (FW e2 hx tb.P) (runnew tb.P w rfl) hle hs2 hn2
   .subst e;exact Zw tb.P ht0 ht1 ha0 ha1 (rt:=rt) (bO ok hst) (bO ok hxt) hxd hsz (rZ ok hi') hzr (FW e2 hx tb.P) (λ d=>runnew tb.P _ rfl) hfo hno c1 c2
 .cases h
end
section
variable {tb:aN}(ok:dO tb){ι:bj}{A A':Mem}{w:aF}
variable {r:Nat}{o':Obj}
def xp{o:Obj}(h:w.heap[r]?=U o)(hc:∀c e f,o≠.cells c e f)(P:cI):
 ∃w',(setObj r o').run P w=.ok () w'/\Wu w w' r o'/\w'.heap.size=w.heap.size:=by
 have hlt:r<w.heap.size:=(gm.1 h).1;refine⟨{w with heap:=w.heap.setIfInBounds r o'},?_,⟨by simp,by simp[hlt],λ k hk hne=>?_,rfl,rfl,rfl⟩,by simp⟩
 .simp only[setObj,Sem.run,h]
 .exact LO (Ne.symm hne)
def qaM{k k' e e':I}(h:wZ k e=U ae)(hk:VR ι k k')(he:VR ι e e')(P:cI)(w:aF):(Instr.keyThatStays e' k').run P w=.ok k' w:=by
 have:Instr.sameBits 10000 e' k'=ae:=by
  unfold wZ at h;split at h
  .cases hk;cases he;rename_i kk x kk' y;cases hkk:jv kk kk' with
   |false=>rw[hkk]at h;cases h
   |true=>
    rw[hkk]at h;simp only[aJ,fg,wW,beq_iff_eq]at h;obtain rfl:=CY hkk;subst h;simp[Instr.sameBits]
  .cases hk;cases he;rename_i x y;simp only[fg,pU]at h;simp only[Instr.sameBits,bytes_beq];rw[beq_iff_eq]at h⊢;exact h.symm
  .cases h
 simp only[Instr.keyThatStays,this,bB,a6]
variable {v v':I}
theorem S7{k k':I}(hk:VR ι k k')(hv:VR ι v v'):∀{es es':List MapEntry} (i:Nat),iO ι es es'->iO ι (Gw es i k v) (es'.modify i λ e=>{e with key:=k',val:=v'})
 |_,_,i,.nil=>by cases i<;>exact .nil
 |_,_,0,.cons _ hb _ ht=>.cons hk hb hv ht
 |_,_,i+1,.cons hk' hb hv' ht=>.cons hk' hb hv' (S7 hk hv i ht)
theorem NG:∀{es es':List MapEntry} (i:Nat),iO ι es es'->iO ι (E_ es i) (es'.eraseIdx i)
 |_,_,i,.nil=>by cases i<;>exact .nil
 |_,_,0,.cons _ _ _ ht=>ht
 |_,_,i+1,.cons hk hb hv ht=>.cons hk hb hv (NG i ht)
theorem iO.snoc{e e':MapEntry}(hk:VR ι e.key e'.key)(hb:e'.born=e.born)(hv:VR ι e.val e'.val):∀{l l':List MapEntry},iO ι l l'->iO ι (l++[e]) (l'++[e'])
 |_,_,.nil=>.cons hk hb hv .nil
 |_,_,.cons a b c d=>.cons a b c (iO.snoc hk hb hv d)
def iO.get{ι:bj}:∀{l l':List MapEntry} {i:Nat} {e e':MapEntry},iO ι l l'->l[i]?=U e->l'[i]?=U e'->VR ι e.key e'.key
 |_,_,i,e,e',.nil,h,_=>by simp at h
 |_,_,0,e,e',.cons hk _ _ _,h,h'=>by simp at h h';subst h h';exact hk
 |_,_,i+1,e,e',.cons _ _ _ ht,h,h'=>by simp at h h';exact ht.get h h'
include ok in
def Qe (hr:Rel ι A w) {t:au} {m m' k k' v v':I} (h:pA tb A t m k v=.ok A') (hm:VR ι m m') (hk:VR ι k k') (hv:VR ι v v'):
 ∃w',(Instr.mapUpdate t m' k' v').run tb.P w=.ok () w'/\Rel ι A' w'/\bY ι A w ι A' w':=by
 unfold pA at h;split at h
 .rename_i kt et b hd;cases hko:h_ tb kt k with
  |false=>rw[hko]at h;cases h
  |true=>
   rw[hko]at h;simp only[aJ]at h;obtain⟨d,hkd,fA⟩:=FR hko;split at h
   .rename_i es clock hg;cases hm with
    |map hl=>
     rename_i l;obtain⟨o',hw,hsh,es',rfl,he⟩:=hr.obs _ _ _ hg rfl hl;have hck:=EY ok hkd fA hk ag w;split at h
     .rename_i i u hf;simp only[ay]at h;subst h;rcases yN hk fA hf he with⟨h3,_⟩|⟨j,v0,v1,h3,h4,h5,h6,e',h7,e,h8,h9⟩
      .cases h3
      .cases h3;simp only[kL]at h7 h8;have h7':es'[i]?=U e':=by rw[<-gp];exact h7
       have hkeys:VR ι e.key e'.key:=he.get h8 h7;have hstay:=qaM h9 hk hkeys tb.P w;obtain⟨w',r1,r2,r3⟩:=xp (o':=.map (es'.modify i λ e=>{e with key:=k',val:=v'}) clock) hw (by simp) tb.P;refine⟨w',?_,hr.sk (ob:=.map (Gw es i k v) clock) hg rfl hl (qT hg λ _ _ _ h=>by cases h) (λ _ _ _ h=>by cases h) r2 r3 ⟨hsh,_,rfl,?_⟩⟩
       .simp only[Instr.mapUpdate,aM,bO ok hd,aP,l_ hw (by simp),hck,Ah ok hkd h4,h7',gX,sU,hstay];exact r1
       .rw[Array.toList_modify];exact S7 hk hv i he
     .rename_i hf;simp only[ay]at h;subst h;rcases yN hk fA hf he with⟨_,h4⟩|⟨j,v0,v1,h3,_⟩
      .obtain⟨w',r1,r2,r3⟩:=xp (o':=.map (es'.push {key:=k',val:=v',born:=clock}) (clock+1)) hw (by simp) tb.P;refine⟨w',?_,hr.sk (ob:=.map (es++[{key:=k,val:=v,born:=clock}]) (clock+1)) hg rfl hl (qT hg λ _ _ _ h=>by cases h) (λ _ _ _ h=>by cases h) r2 r3 ⟨hsh,_,rfl,?_⟩⟩
       .simp only[Instr.mapUpdate,aM,bO ok hd,aP,l_ hw (by simp),hck,Ah ok hkd h4];exact r1
       .rw[Array.toList_push];exact iO.snoc (e:=⟨k,v,clock⟩) (e':=⟨k',v',clock⟩) hk rfl hv he
      .cases h3
     .cases h
   .cases h
 .cases h
include ok in
def Yj (hr:Rel ι A w) {t rt:au} {ts:Array au} {m m' k k' v:I} {args:Array I} (h:E8 tb A t m k=.ok (v,A')) (hm:VR ι m m') (hk:VR ι k k')
 (ht:ts[0]?=U t) (h0:args[0]?=U m') (h1:args[1]?=U k'):
 ∃w' v',(Builtin.delete_ ts rt args).run tb.P w=.ok v' w'/\VR ι v v'/\Rel ι A' w'/\bY ι A w ι A' w':=by
 unfold E8 at h;split at h
 .rename_i kt et hd;cases hko:h_ tb kt k with
  |false=>rw[hko]at h;cases h
  |true=>
   rw[hko]at h;simp only[aJ,ay,bH]at h;obtain⟨rfl,rfl⟩:=h;obtain⟨d,hkd,fA⟩:=FR hko;cases hm;refine⟨w,.tuple #[],?_,.tuple .nil,hr,bY.refl ι A w⟩
   simp only[Builtin.delete_,ht,h0,h1,aM,bO ok hd,aP,EY ok hkd fA hk ae w,a6]
 .rename_i kt et b hd;cases hko:h_ tb kt k with
  |false=>rw[hko]at h;cases h
  |true=>
   rw[hko]at h;simp only[aJ]at h;obtain⟨d,hkd,fA⟩:=FR hko;split at h
   .rename_i es clock hg;cases hm with
    |map hl=>
     rename_i l;obtain⟨o',hw,hsh,es',rfl,he⟩:=hr.obs _ _ _ hg rfl hl;have hck:=EY ok hkd fA hk es'.isEmpty w;split at h
     .rename_i i u hf;simp only[ay,bH]at h;obtain⟨rfl,rfl⟩:=h;rcases yN hk fA hf he with⟨h3,_⟩|⟨j,v0,v1,h3,h4,_⟩
      .cases h3
      .cases h3;obtain⟨w',r1,r2,r3⟩:=xp (o':=.map (es'.eraseIdxIfInBounds i) clock) hw (by simp) tb.P;obtain⟨hrel,hst⟩:=hr.sk (ob:=.map (E_ es i) clock) hg rfl hl (qT hg λ _ _ _ h=>by cases h) (λ _ _ _ h=>by cases h) r2 r3 ⟨hsh,_,rfl,by rw[Array.toList_eraseIdxIfInBounds];exact NG i he⟩;refine⟨w',.tuple #[],?_,.tuple .nil,hrel,hst⟩
       simp only[Builtin.delete_,ht,h0,h1,aM,bO ok hd,aP,l_ hw (by simp),hck,Ah ok hkd h4,r1,a6]
     .rename_i hf;simp only[ay,bH]at h;obtain⟨rfl,rfl⟩:=h;rcases yN hk fA hf he with⟨_,h4⟩|⟨j,v0,v1,h3,_⟩
      .obtain⟨w',r1,r2,r3⟩:=xp (o':=.map es' clock) hw (by simp) tb.P;obtain⟨hrel,hst⟩:=hr.sk (ob:=.map es clock) hg rfl hl (qT hg λ _ _ _ h=>by cases h) (λ _ _ _ h=>by cases h) r2 r3 ⟨hsh,_,rfl,he⟩;refine⟨w',.tuple #[],?_,.tuple .nil,hrel,hst⟩
       simp only[Builtin.delete_,ht,h0,h1,aM,bO ok hd,aP,l_ hw (by simp),hck,Ah ok hkd h4,r1,a6]
      .cases h3
     .cases h
   .cases h
 .cases h
include ok in
def X3 (hr:Rel ι A w) {t rt:au} {ts:Array au} {x x' v:I} {args:Array I} (h:EZ tb A t x=.ok (v,A')) (hx:VR ι x x') (ht:ts[0]?=U t) (h0:args[0]?=U x'):
 ∃w' v',(Builtin.clear_ ts rt args).run tb.P w=.ok v' w'/\VR ι v v'/\Rel ι A' w'/\bY ι A w ι A' w':=by
 unfold EZ at h;split at h
 .rename_i d hd;cases hx;simp only[ay,bH]at h;obtain⟨rfl,rfl⟩:=h;refine⟨w,.tuple #[],?_,.tuple .nil,hr,bY.refl ι A w⟩
  simp only[Builtin.clear_,ht,h0,aM,bO ok hd,aP,a6]
 .rename_i d b hd;split at h
  .rename_i es clock hg;simp only[ay,bH]at h;obtain⟨rfl,rfl⟩:=h;cases hx with
   |map hl=>
    obtain⟨o',hw,hsh,es',rfl,he⟩:=hr.obs _ _ _ hg rfl hl;obtain⟨w',r1,r2,r3⟩:=xp (o':=.map #[] clock) hw (by simp) tb.P
    obtain⟨hrel,hst⟩:=hr.sk (ob:=.map [] clock) hg rfl hl (qT hg λ _ _ _ h=>by cases h) (λ _ _ _ h=>by cases h) r2 r3 ⟨hsh, #[],rfl,.nil⟩
    refine⟨w',.tuple #[],?_,.tuple .nil,hrel,hst⟩
    simp only[Builtin.clear_,ht,h0,aM,bO ok hd,aP,l_ hw (by simp),r1,a6]
  .cases h
 .rename_i d n c hd;cases hx;simp only[ay,bH]at h;obtain⟨rfl,rfl⟩:=h;refine⟨w,.tuple #[],?_,.tuple .nil,hr,bY.refl ι A w⟩
  simp only[Builtin.clear_,ht,h0,aM,bO ok hd,aP,a6]
 .rename_i elem a n c hd;have ha:=hx.Gy;cases hb:aL n 0 with
  |true=>
   obtain rfl:=beq_true hb;rw[hb]at h;simp only[aJ,ay,bH]at h;obtain⟨rfl,rfl⟩:=h;refine⟨w,.tuple #[],?_,.tuple .nil,hr,bY.refl ι A w⟩
   cases hx<;>simp only[Builtin.clear_,ht,h0,aM,bO ok hd,aP,a6]
  |false=>
   have hn:=beq_false hb;rw[hb]at h;simp only[bJ]at h;obtain⟨⟨size,zero⟩,e1,h2⟩:=R.aC h;obtain⟨A2,e2,h3⟩:=R.aC h2;simp only[ay,bH]at h3;obtain⟨rfl,rfl⟩:=h3;obtain⟨hsize,hsz,zv,hzr,hzc,hzv⟩:=DL ok e1;rw[ha]at hx e2;have hrep:=Gk (ι:=ι) (hzv ι) n;have hcap:ed c=ae\/0<bV c:=by
    cases hx with
    |sl hl hk=>exact .inl hk
    |slX hl hk hc hsz ho hb hlen=>exact .inr (by omega)
   have core:∃a' cap',x'=.slice (U a') n cap'/\∃w',(storeCells a' ((xJ (n*Z zero)).map (zv.cells[· % zv.cells.size]!)).toList).run tb.P w=.ok () w'/\Rel ι A2 w'/\bY ι A w ι A2 w':=by
    cases hx with
    |sl hl hk=>
     obtain⟨w',e,r⟩:=AS hr hl e2 hrep tb.P;exact⟨_,_,rfl,w',e,r⟩
    |slX hl hk hc hsz ho hb hlen=>
     have ho':=ho (by omega);subst ho';obtain⟨w',e,r⟩:=AS hr hl e2 hrep tb.P;exact⟨_,_,rfl,w',e,r⟩
   obtain⟨a',cap',rfl,w',e,hrel,hst⟩:=core;refine⟨w',.tuple #[],?_,.tuple .nil,hrel,hst⟩
   have hzs:zv.cells.size=Z zero:=by rw[<-hzc];simp
   have hzz:Builtin.zeroCells zv.cells n=(xJ (n*Z zero)).map (zv.cells[· % zv.cells.size]!):=by
    unfold Builtin.zeroCells;rw[hzs]
   cases n with
   |zero=>exact aU rfl hn
   |succ n=>
    simp only[Builtin.clear_,ht,h0,aM,bO ok hd,aP,hzr,hzz,e,a6]
 .cases h
include ok in
def qcK (hr:Rel ι A w) {t:au} {x x' v:I} (h:AL tb A t x=.ok (v,A')) (hx:VR ι x x') (hfree:eA ι A A'):
 ∃ι' w' v',(Instr.range t x').run tb.P w=.ok v' w'/\VR ι' v v'/\Rel ι' A' w'/\bY ι A w ι' A' w':=by
 unfold AL at h;split at h
 .rename_i s hd;cases hx;simp only[ay,bH]at h;obtain⟨rfl,rfl⟩:=h;have hfn:ι A.next=V:=hfree A.next (aI _) (by rw[aG];omega)
  obtain⟨ι',e,hrel,hst⟩:=Rel.uE (w':={w with heap:=w.heap.push (.stringIter s 0),drawn:=w.drawn}) (ob:=.sit s 0) (sz:=0) hr hfn (λ _ _ _ h=>by cases h) (tf w _ _ (by simp)) (by simp) (λ ι' hi hb=>⟨rfl,rfl⟩);refine⟨ι',_,.pointer (U ⟨w.heap.size,0,V⟩),?_,.ptr (o:=0) e,hrel,hst⟩;simp only[Instr.range,aM,bO ok hd,aP,run_newObj,a6]
 .rename_i kt vt r hd;split at h
  .rename_i es c hg;cases hx with
   |map hl=>
    rename_i l;simp only[ay,bH]at h;obtain⟨rfl,rfl⟩:=h;have hfn:ι A.next=V:=hfree A.next (aI _) (by rw[aG];omega)
    obtain⟨o',hw,hsh,es',rfl,hes⟩:=hr.obs _ _ _ hg rfl hl;obtain⟨ι',e,hrel,hst⟩:=Rel.uE (w':={w with heap:=w.heap.push (.mapIter (U l.blk) c #[] c),drawn:=w.drawn}) (ob:=.mit r c V) (sz:=0) hr hfn (λ _ _ _ h=>by cases h) (tf w _ _ (by simp)) (by simp) (λ ι' hi hb=>⟨rfl,l,hi _ _ hl,rfl⟩)
    refine⟨ι',_,.pointer (U ⟨w.heap.size,0,V⟩),?_,.ptr (o:=0) e,hrel,hst⟩;simp only[Instr.range,aM,bO ok hd,l_ hw (by simp),aP,run_newObj,a6]
  .cases h
 .cases h
variable {m c k:Nat}
def Qk(hr:Rel ι A w){l:Loc}{b:Option Nat}{e:MapEntry}(hg:A.get r=U (.mit m c b))(hl:ι r=U l)(hm:A.get m=U (.map [e] k)):
 l.sh=0/\∃lm e',ι m=U lm/\w.heap[l.blk]?=U (.mapIter (U lm.blk) c b.toArray c)/\w.heap[lm.blk]?=U (.map #[e'] k)/\VR ι e.key e'.key/\e'.born=e.born/\VR ι e.val e'.val:=by
 obtain⟨o',hw,hsh,lm,hlm,rfl⟩:=hr.obs _ _ _ hg rfl hl;obtain⟨o2,hw2,_,es,rfl,hes⟩:=hr.obs _ _ _ hm rfl hlm;obtain⟨es⟩:=es;cases hes with
 |cons hk hb hv ht=>cases ht;exact⟨hsh,lm,_,hlm,hw,hw2,hk,hb,hv⟩
variable {x':I}
def qbO(hr:Rel ι A w){x:I}{isS:Bool}{rt:au}(h:F1 A x isS=.ok (v,A'))(hx:VR ι x x')(P:cI):
 ∃w' v',(Instr.next x' isS rt).run P w=.ok v' w'/\VR ι v v'/\Rel ι A' w'/\bY ι A w ι A' w':=by
 unfold F1 at h;split at h
 .rename_i b;cases hx with
  |ptr hl=>
   rename_i l;split at h
   .rename_i s pos hg;obtain⟨o',hw,hsh,rfl⟩:=hr.obs _ _ _ hg rfl hl;rw[hsh];cases hb:aO pos s.size with
    |true=>
     have hlt:=jE hb;rw[hb]at h;simp only[aJ,ay,bH]at h;obtain⟨rfl,rfl⟩:=h;obtain⟨w',r1,r2,r3⟩:=xp (o':=.stringIter s (pos+(Utf8.decode s pos).2)) hw (by simp) P;obtain⟨hrel,hst⟩:=hr.sk (ob:=.sit s (pos+(Utf8.decode s pos).2)) hg rfl hl (qT hg λ _ _ _ h=>by cases h) (λ _ _ _ h=>by cases h) r2 r3 ⟨hsh,rfl⟩;refine⟨w',.tuple #[.bool ae,goInt pos,.int .i32 (Utf8.decode s pos).1],?_,.tuple (.cons (.bool _) (.cons (.int _ _) (.cons (.int _ _) .nil))),hrel,hst⟩
     simp only[Instr.next,eo,aM,l_ hw (by simp),aP,aA hlt,r1,a6]
    |false=>
     have hlt:=HZ hb;rw[hb]at h;simp only[bJ,ay,bH]at h;obtain⟨rfl,rfl⟩:=h;refine⟨w,.tuple #[.bool ag],?_,.tuple (.cons (.bool _) .nil),hr,bY.refl ι A w⟩
     simp only[Instr.next,eo,aM,l_ hw (by simp),aP,ax hlt,a6]
   .cases h
 .rename_i r;cases hx with
  |ptr hl=>
   rename_i l;split at h
   case h_2=>cases h
   rename_i m c b hg;split at h
   case h_2=>cases h
   rename_i e k hm;obtain⟨hsh,lm,e',hlm,hw,hw2,hk,hb,hv⟩:=Qk hr hg hl hm;cases hq:(aL k c&&aO e.born c)with
   |false=>rw[hq]at h;cases h
   |true=>
    rw[hq,aJ]at h;simp only[dW]at hq;obtain rfl:=beq_true hq.1;have hlt:=jE hq.2;rw[<-hb]at hlt;have hge:¬(k<=e'.born):=by omega
    rw[hsh];cases b with
    |none=>
     simp only[ay,bH]at h;obtain⟨rfl,rfl⟩:=h;obtain⟨w',r1,r2,r3⟩:=xp (o':=.mapIter (U lm.blk) k #[e'.born] k) hw (by simp) P
     obtain⟨hrel,hst⟩:=hr.sk (ob:=.mit m k (U e.born)) hg rfl hl (qT hg λ _ _ _ h=>by cases h) (λ _ _ _ h=>by cases h) r2 r3 ⟨hsh,lm,hlm,by rw[<-hb];rfl⟩;refine⟨w',.tuple #[.bool ae,e'.key,e'.val],?_,.tuple (.cons (.bool _) (.cons hk (.cons hv .nil))),hrel,hst⟩
     simp[Instr.next,l_ hw (by simp),l_ hw2 (by simp),aP,run_choose,Question.forced,aM,a6,hlt,hge,r1]
    |some x=>
     cases hx2:aL x e.born with
     |false=>simp only[hx2]at h;cases h
     |true=>
      simp only[hx2,aJ,ay,bH]at h;obtain⟨rfl,rfl⟩:=h;obtain rfl:=beq_true hx2;refine⟨w,.tuple #[.bool ag],?_,.tuple (.cons (.bool _) .nil),hr,bY.refl ι A w⟩
      rw[<-hb]at hw;simp[Instr.next,l_ hw (by simp),l_ hw2 (by simp),aP,run_choose,Question.forced,aM,a6,hlt,hge]
 .cases h
def Yu(hr:Rel ι A w){x:I}(h:Fb A x=.ok (v,A'))(hx:VR ι x x')(P:cI):
 ∃w' v',(Instr.entry x').run P w=.ok v' w'/\VR ι v v'/\Rel ι A' w'/\bY ι A w ι A' w':=by
 unfold Fb at h;split at h
 case h_2=>cases h
 rename_i r;cases hx with
 |ptr hl=>
  rename_i l;split at h
  case h_2=>cases h
  rename_i m c x hg;split at h
  case h_2=>cases h
  rename_i e k hm;obtain⟨hsh,lm,e',hlm,hw,hw2,hk,hb,hv⟩:=Qk hr hg hl hm;cases hq:(aL k c&&aL x e.born)with
  |false=>rw[hq]at h;cases h
  |true=>
   rw[hq]at h;simp only[aJ,ay,bH]at h;obtain⟨rfl,rfl⟩:=h;simp only[dW]at hq;obtain rfl:=beq_true hq.1;obtain rfl:=beq_true hq.2;rw[hsh];refine⟨w,.tuple #[e'.key,e'.val],?_,.tuple (.cons hk (.cons hv .nil)),hr,bY.refl ι A w⟩
   rw[<-hb]at hw;simp[Instr.entry,l_ hw (by simp),l_ hw2 (by simp),aP,aM,a6]
end
section
variable {tb:aN}(ok:dO tb){ι:bj}{A A':Mem}{w:aF}
theorem P5(P:cI)(w:aF):∀(vs vs':List I) (l:List UInt8) (a:Addr) (acc:ByteArray),bytesOf vs=.ok l->bI ι vs vs'->(∀j v,vs'[j]?=U v->w.cell? (a.add j)=U v)->
 (loadBytes a acc (Z vs)).run P w=.ok ⟨⟨acc.data.toList++l⟩⟩ w
 | [],_,l,a,acc,h,.nil,_=>by
  simp only[bytesOf,ay]at h;subst h;simp[loadBytes]
 |v::vs,_,l,a,acc,h,.cons hv ht,hc=>by
  unfold bytesOf at h;split at h
  .rename_i heq;cases heq
  .rename_i n vs2 heq;simp only[gq]at heq;obtain⟨rfl,rfl⟩:=heq;obtain⟨l',h1,h2⟩:=R.aC h;simp only[ay]at h2;subst h2;cases hv;have h0:w.cell? a=U _:=hc 0 _ rfl;have ih:=P5 P w vs _ l' (a.add 1) (acc.push (cK n).toNat.toUInt8) h1 ht (λ j v hj=>by
    have:=hc (j+1) v (by simpa using hj);have e:(a.add 1).add j=a.add (j+1):=by
     unfold Addr.add;by_cases hj:j=0
     .subst hj;simp
     .simp[hj];omega
    rw[e];exact this)
   simp only[cD,loadBytes,aM,J5 h0,aP];rw[ih];congr 1;apply ByteArray.ext;apply m6;simp[ByteArray.data_push]
  .cases h
variable {d:Nat}
def qgd{P:cI}(t:au):sameLayout P (d+1) t t=ae:=by
 simp[sameLayout]
variable {n:Nat}
def qbb{P:cI}{t:au}{off cells:Nat}(hs:P.cellsOf t=1)(h:off+n<=cells):liesAt P P.depth t (cells/P.cellsOf t) off t n=ae:=by
 have hd:P.depth=(2*(P.types.size+Made.depth)+1)+1:=rfl;have h1:rowAt P (sameLayout P P.depth · t) P.depth t (cells/P.cellsOf t) off n=ae:=by
  have e:∀d,rowAt P (sameLayout P P.depth · t) (d+1) t (cells/P.cellsOf t) off n=ae:=?_
  .rw[hd];rw[<-hd];exact(hd▸e _:rowAt P (sameLayout P P.depth · t) P.depth t (cells/P.cellsOf t) off n=ae)
  intro d;rw[rowAt];simp only[hs,Nat.one_ne_zero,bg,Nat.div_one,Nat.mod_one,beq_self_eq_true,tR];have:sameLayout P P.depth t t=ae:=by rw[hd];exact qgd t
  rw[this];simp[h]
 rw[hd,liesAt,h1];rfl
include ok in
def qig (hr:Rel ι A w) {pt rt:au} {ts:Array au} {x x' n n' v:I} {args:Array I} (h:zf tb A pt x n=.ok (v,A')) (hx:VR ι x x') (hn:VR ι n n')
 (ht:ts[0]?=U pt) (ha:args= #[x',n']):
 ∃w' v',(Builtin.unsafeString_ ts rt args).run tb.P w=.ok v' w'/\VR ι v v'/\Rel ι A' w'/\bY ι A w ι A' w':=by
 subst ha;unfold zf at h;obtain⟨m,h1,h2⟩:=R.aC h;obtain⟨k,rfl,rfl⟩:=AE h1 hn;clear h;split at h2
 .rename_i a e hd;cases hx with
  |ptr hl=>
   rename_i b o l;simp only at h2;split at h2
   .rename_i t xk fz c _ hg hde;obtain⟨size,h3,h4⟩:=R.aC h2;cases hb:(aL t e&&aL size 1&&aO 0 m&&av m 16777216&&(aO fz 9223372036854775808&&aO (o+m) 9223372036854775808))with
    |false=>rw[hb]at h4;cases h4
    |true=>
     rw[hb]at h4;simp only[aJ]at h4;simp only[dW]at hb;obtain rfl:=beq_true hb.1.1.1.1;have hs1:=beq_true hb.1.1.1.2;have hm0:=jE hb.1.1.2;have hmax:=jD hb.1.2;have hfzb:=jE hb.2.1;have hofb:=jE hb.2.2;split at h4
     .rename_i vs hvs;split at h4
      .cases h4
      .rename_i hnm;obtain⟨bs,h5,h6⟩:=R.aC h4;simp only[ay,bH]at h6;obtain⟨rfl,rfl⟩:=h6;obtain⟨o',hw,hor⟩:=hr.obs _ _ _ hg rfl hl;obtain⟨cs,fr,rfl,hcs,hcell,hfr⟩:=hor;obtain⟨q1,q2⟩:=T.CS _ _ _ _ hvs;have hcs2:∀j,j<m->∃u,cs[o+j+l.sh]?=U u/\∀v,vs[j]?=U v->VR ι v u:=by
        intro j hj;have hj':j<Z vs:=by omega
        have e:=q2 j hj;rw[aZ hj']at e;obtain⟨u,e1,r⟩:=hcell _ _ e;exact⟨u,e1,λ v hv=>by rw[aZ hj']at hv;cases hv;exact r⟩
       have hbound:o+l.sh+m<=cs.size:=by
        obtain⟨u,e,_⟩:=hcs2 (m-1) (by omega);have:=(gm.1 e).1;omega
       let vs':=(cs.toList.drop (o+l.sh)).take m;have hvr:bI ι vs vs':=by
        refine bI.C8 ?_ λ j v v' hv hv'=>?_
        .simp only[vs',df,vu,xI];omega
        .have hj:j<m:=by
          rcases ec j m with h|h
          .exact h
          .rw[ky (by omega)]at hv;cases hv
         obtain⟨u,e,r⟩:=hcs2 j hj;simp only[vs']at hv';rw[Hk hj,xP,gp,show o+l.sh+j=o+j+l.sh by omega,e]at hv';cases hv';exact r v hv
       have hlb:=P5 tb.P w vs vs' bs ⟨l.blk,o+l.sh,V⟩ .empty h5 hvr (λ j v hv=>by
        have hj:j<m:=by
         rcases ec j m with h|h
         .exact h
         .simp only[vs']at hv;rw[ky (by simp only[df];omega)]at hv;cases hv
        simp only[vs']at hv;rw[Hk hj,xP,gp]at hv;rw[om];simp only[World.cell?,hw,x5,dR,bg];exact hv)
       rw[q1]at hlb;have hcellsOf:tb.P.cellsOf t=1:=by
        unfold bk at h3;split at h3
        .rename_i i hi;simp only[ay]at h3;simp only[Program.cellsOf,ok.ty t i hi,gX,sU];omega
        .cases h3
       have hlies:=qbb (P:=tb.P) (t:=t) (n:=m) (off:=o+l.sh) (cells:=cs.size) hcellsOf hbound;have hva:(variablesAt ⟨l.blk,o+l.sh,V⟩ t m).run tb.P w=.ok ae w:=by
        simp only[variablesAt,aM,run_program,run_shape,K9 hw,aP,a6,hlies]
       let fr':Nat×Nat:=if fr.1==fr.2 then(o+l.sh,o+l.sh+m)else(min fr.1 (o+l.sh),max fr.2 (o+l.sh+m))
       have hwf:Wu w (w.freeze ⟨l.blk,o+l.sh,V⟩ m) l.blk (.cells cs t fr')/\(w.freeze ⟨l.blk,o+l.sh,V⟩ m).heap.size=w.heap.size:=by
        have hm0':¬(m=0):=by omega
        refine⟨⟨?_,?_,λ k hk hne=>?_,?_,?_,?_⟩,?_⟩<;>simp only[World.freeze,ax hm0']
        .simp
        .simp[G8,hw,fr']
        .simp[G8,Ne.symm hne]
        .simp
       obtain⟨hrel,hst⟩:=hr.sk (ob:=.cells t .row (bif av fz (o+m)then o+m else fz) c) hg rfl hl (qT hg λ t2 fz2 c2 e=>by cases e;exact .inl hfzb) (λ t' k c' h=>by
        exfalso;have h2:(bif av fz (o+m)then o+m else fz)=GB k:=by injection h
        unfold GB at h2;cases hq:av fz (o+m)with
        |true=>rw[hq,aJ]at h2;omega
        |false=>rw[hq,bJ]at h2;omega) hwf.1 hwf.2 ⟨cs,fr',rfl,hcs,hcell,by
        have hfz:o+m<=(bif av fz (o+m)then o+m else fz)/\fz<=(bif av fz (o+m)then o+m else fz):=by
         cases hq:av fz (o+m)with
         |true=>have:=jD hq;simp only[aJ];omega
         |false=>have:=HY hq;simp only[bJ];omega
        have hfr2:fr.2<=l.sh+fz:=by
         cases xk with
         |var n=>obtain⟨_,_,rfl⟩:=hfr;simp
         |row=>exact hfr
         |mark=>exact aU rfl hnm
         |room n=>exact hfr.1
        simp only[fr'];split<;>simp only<;>omega⟩
       refine⟨_,ai bs,?_,.string _,hrel,hst⟩;have hel:(elemOf pt).run tb.P w=.ok t w:=by simp only[elemOf,aM,bO ok hd,aP,a6]
       have c1:¬(cK m<0):=by simp only[iu];omega
       have c2:¬(cK m>IntKind.i64.max):=by simp only[iu,IntKind.max,IntKind.signed,IntKind.bits,bB];omega
       have c3:¬(cK m=0):=by simp only[iu];omega
       have tn:(cK m).toNat=m:=rfl;change Sem.run tb.P (Bind.bind (asInt (.int k (.ofNat m))) _) w=_;simp only[asInt,asIntOf,aM,a6,aP,ht,ax c1,ax c2,ax c3,hel,tn,hva,bB,hlb,run_freeze];simp[ai]
     .cases h4
   .cases h2
 .cases hb:aL m 0 with
  |false=>rw[hb]at h2;cases h2
  |true=>
   rw[hb,aJ]at h2;simp only[ay,bH]at h2;obtain⟨rfl,rfl⟩:=h2;obtain rfl:=eW hb;cases hx;refine⟨w,_,?_,.string _,hr,bY.refl _ _ _⟩;change Sem.run tb.P (Bind.bind (asInt (.int k (.ofNat 0))) _) w=_;simp only[asInt,asIntOf,aM,a6,aP,ht];rfl
 .cases h2
def Ej(nx:Next)(v:I):Prop:=nx=.value v\/nx=.skip/\v=undef
include ok in
def Wo (hr:Rel ι A w) {b:Builtin} {ts:Array au} {cs:Array Bool} {rt:au} {args:List I} {args':Array I} {v:I} (h:wm tb A b ts.toList args=.ok (v,A')) (ha:bI ι args args'.toList) (hfree:eA ι A A'):
 ∃ι' w' v',(builtin b ts rt cs args').run tb.P w=.ok (.value v') w'/\VR ι' v v'/\Rel ι' A' w'/\bY ι A w ι' A' w':=by
 have wrap:∀{s:Sem I},(∃ι' w' v',s.run tb.P w=.ok v' w'/\VR ι' v v'/\Rel ι' A' w'/\bY ι A w ι' A' w')->
  ∃ι' w' v',(do pure (Next.value (<-s)):Sem Next).run tb.P w=.ok (.value v') w'/\VR ι' v v'/\Rel ι' A' w'/\bY ι A w ι' A' w':=by
  rintro s ⟨ι',w',v',e,r⟩;exact⟨ι',w',v',by simp only[aM,e,aP,a6],r⟩
 have wrap0:∀{s:Sem I},(∃w' v',s.run tb.P w=.ok v' w'/\VR ι v v'/\Rel ι A' w'/\bY ι A w ι A' w')->
  ∃ι' w' v',(do pure (Next.value (<-s)):Sem Next).run tb.P w=.ok (.value v') w'/\VR ι' v v'/\Rel ι' A' w'/\bY ι A w ι' A' w':=by
  rintro s ⟨w',v',h⟩;exact wrap ⟨ι,w',v',h⟩
 have tsn:∀{t:au} {i:Nat} {l:List au},ts.toList=l->l[i]?=U t->ts[i]?=U t:=by
  rintro t i l rfl e;rw[<-gp];exact e
 have asn:∀{x:I} {i:Nat} {l:List I},args'.toList=l->l[i]?=U x->args'[i]?=U x:=by
  rintro t i l rfl e;rw[<-gp];exact e
 unfold wm at h;split at h
 .rename_i st xt tl s x sl hts;obtain⟨s',t1,e,hs,h1⟩:=ha.cons_inv;obtain⟨x',t2,e2,hx,h2⟩:=h1.cons_inv;subst e2;exact wrap (Ve ok hr h hs hx (tsn hts rfl) (tsn hts rfl) (asn e rfl) (asn e rfl) hfree)
 .rename_i dt tl d s sl hts;obtain⟨d',t1,e,hd,h1⟩:=ha.cons_inv;obtain⟨s',t2,e2,hs,h2⟩:=h1.cons_inv;subst e2;exact wrap0 (Yd ok hr h hd hs (tsn hts rfl) (asn e rfl) (asn e rfl))
 .rename_i t tl x xl hts;obtain⟨x',t1,e,hx,h1⟩:=ha.cons_inv;exact wrap0 (X3 ok hr h hx (tsn hts rfl) (asn e rfl))
 .rename_i t tl m k kl hts;obtain⟨m',t1,e,hm,h1⟩:=ha.cons_inv;obtain⟨k',t2,e2,hk,h2⟩:=h1.cons_inv;subst e2;exact wrap0 (Yj ok hr h hm hk (tsn hts rfl) (asn e rfl) (asn e rfl))
 .rename_i t tl x n hts;obtain⟨x',t1,e,hx,h1⟩:=ha.cons_inv;obtain⟨n',t2,e2,hn,h2⟩:=h1.cons_inv;subst e2;cases h2;exact wrap0 (qig ok hr h hx hn (tsn hts rfl) (by apply m6;exact e))
 .cases h
include ok in
def qaV (hr:Rel ι A w) {n:Nat} {τ:T I} {a:Act} {o:Oper} {v:I} (h:oM tb τ A o.op=.ok (v,A')) (ht:TR ι n τ a.tmps) (hfree:eA ι A A'):
 ∃ι' w' nx v',(execOp a.eval o).run tb.P w=.ok nx w'/\Ej nx v'/\VR ι' v v'/\Rel ι' A' w'/\bY ι A w ι' A' w':=by
 have unit:∀{s:Sem Unit},(∃w',s.run tb.P w=.ok () w'/\Rel ι A' w'/\bY ι A w ι A' w')->
  ∃ι' w' nx v',(do s;pure .skip:Sem Next).run tb.P w=.ok nx w'/\Ej nx v'/\VR ι' cQ v'/\Rel ι' A' w'/\bY ι A w ι' A' w':=by
  rintro s ⟨w',e,r⟩;exact⟨ι,w',.skip,undef,by simp only[aM,e,aP,a6],.inr ⟨rfl,rfl⟩,.tuple .nil,r⟩
 have val:∀{s:Sem I},(∃ι' w' v',s.run tb.P w=.ok v' w'/\VR ι' v v'/\Rel ι' A' w'/\bY ι A w ι' A' w')->
  ∃ι' w' nx v',(do pure (Next.value (<-s)):Sem Next).run tb.P w=.ok nx w'/\Ej nx v'/\VR ι' v v'/\Rel ι' A' w'/\bY ι A w ι' A' w':=by
  rintro s ⟨ι',w',v',e,r⟩;exact⟨ι',w',_,v',by simp only[aM,e,aP,a6],.inl rfl,r⟩
 unfold oM at h;split at h<;>rename_i hop<;>simp only[execOp,hop]
 .obtain⟨x,h1,h2⟩:=R.aC h;obtain⟨u,h3,h4⟩:=R.aC h2;obtain⟨A2,h5,h6⟩:=R.aC h4;simp only[ay,bH]at h6;obtain⟨rfl,rfl⟩:=h6;exact unit (qhq ok hr h5 (dh h1 ht) (dh h3 ht))
 .obtain⟨m,h1,h2⟩:=R.aC h;obtain⟨k,h3,h4⟩:=R.aC h2;obtain⟨u,h5,h6⟩:=R.aC h4;obtain⟨A2,h7,h8⟩:=R.aC h6;simp only[ay,bH]at h8;obtain⟨rfl,rfl⟩:=h8;exact unit (Qe ok hr h7 (dh h1 ht) (dh h3 ht) (dh h5 ht))
 .obtain⟨m,h1,h2⟩:=R.aC h;obtain⟨k,h3,h4⟩:=R.aC h2;obtain⟨u,h5,h6⟩:=R.aC h4;obtain⟨A2,h7,h8⟩:=R.aC h6;simp only[ay,bH]at h8;obtain⟨rfl,rfl⟩:=h8;exact unit (Qe ok hr h7 (dh h1 ht) (dh h3 ht) (dh h5 ht))
 .obtain⟨x,h1,h2⟩:=R.aC h;exact val (qcK ok hr h2 (dh h1 ht) hfree)
 .obtain⟨x,h1,h2⟩:=R.aC h;obtain⟨w',v',r⟩:=qbO (rt:=o.type) hr h2 (dh h1 ht) tb.P;exact val ⟨ι,w',v',r⟩
 .obtain⟨x,h1,h2⟩:=R.aC h;obtain⟨w',v',r⟩:=Yu hr h2 (dh h1 ht) tb.P;exact val ⟨ι,w',v',r⟩
 .rename_i c;split at h
  .rename_i b hb;obtain⟨args,h1,h2⟩:=R.aC h;have ha:=yI h1 ht;obtain⟨ι',w',v',e,r⟩:=Wo ok hr (cs:=c.args.map λ|.const _=>ae|_=>ag) (rt:=o.type) (args':=c.args.map a.eval) h2 (by simpa using ha) hfree;refine⟨ι',w',_,v',?_,.inl rfl,r⟩;simp only[resolve,hb,aM,a6,aP,invoke];exact e
  .cases h
 .cases h
end
section
variable {tb:aN}(ok:dO tb){ι:bj}{A:Mem}{w:aF}
inductive zF (ι:bj):Pl->Place->Prop
 |val {v v':I} (h:VR ι v v'):zF ι (.val v) (.val v')
 |var {a a':Addr} (h:VR ι (.pointer (U a)) (.pointer (U a'))):zF ι (.var a) (.var a')
include ok in
def BM (hr:Rel ι A w) {t:au} {x:Pl} {x':Place} {v:I} (h:x.get tb A.get t=.ok v) (hx:zF ι x x'):∃v',(x'.get t).run tb.P w=.ok v' w/\VR ι v v':=by
 cases hx with
 |val hv=>simp only[Pl.get,ay]at h;subst h;exact⟨_,rfl,hv⟩
 |var ha=>
  simp only[Pl.get]at h;obtain⟨v',e,r⟩:=C3 ok hr h ha;refine⟨v',?_,r⟩;simpa only[Place.get,Instr.loadAt,Instr.sureAddr,aM,a6,aP]using e
include ok in
theorem CR (hr:Rel ι A w):∀{path:List FieldStep} {t:au} {x:Pl} {x':Place} {r:au×Pl},wU tb A.get path t x=.ok r->zF ι x x'->
 ∃y',(follow path t x').run tb.P w=.ok (r.1,y') w/\zF ι r.2 y'
 | [],t,x,x',r,h,hx=>by
  simp only[wU,ay]at h;subst h;exact⟨x',rfl,hx⟩
 |s::rest,t,x,x',r,h,hx=>by
  unfold wU at h;split at h
  .rename_i fs hd;split at h
   .rename_i f hf;have hf':fs[s.index]?=U f:=by rw[<-gp];exact hf
    obtain⟨n,h1,h2⟩:=R.aC h;clear h;split at h2
    .rename_i hdr;obtain⟨v,h3,h4⟩:=R.aC h2;obtain⟨v',e1,rv⟩:=BM ok hr h3 hx;split at h4
     .rename_i a;split at h4
      .rename_i hsp;cases hb:aL n 0 with
       |true=>rw[hb]at h4;cases h4
       |false=>
        rw[hb]at h4;simp only[bJ]at h4;cases rv with
        |ptr hl=>
         rename_i b o l;obtain⟨y',e2,r2⟩:=CR hr h4 (x':=.var ⟨l.blk,o+l.sh+f.offset,V⟩) (.var (by
          have:=VR.ptr (ι:=ι) (o:=o+f.offset) hl;rw[xV]at this;exact this))
         refine⟨y',?_,r2⟩;simp only[follow,aM,bO ok hd,aP,hf',hdr,bB,e1,asAddr,a6,fieldPlace,jz ok h1,ax (beq_false hb),om];exact e2
      .cases h4
     .cases h4
    .rename_i hdr;split at h2
     .rename_i a;split at h2
      .rename_i hsp;cases hb:aL n 0 with
       |true=>rw[hb]at h2;cases h2
       |false=>
        rw[hb]at h2;simp only[bJ]at h2;cases hx with
        |var ha=>
         cases ha with
         |ptr hl=>
          rename_i b o l;obtain⟨y',e2,r2⟩:=CR hr h2 (x':=.var ⟨l.blk,o+l.sh+f.offset,V⟩) (.var (by
           have:=VR.ptr (ι:=ι) (o:=o+f.offset) hl;rw[xV]at this;exact this))
          refine⟨y',?_,r2⟩;simp only[follow,aM,bO ok hd,aP,hf',hdr,dR,bg,a6,fieldPlace,jz ok h1,ax (beq_false hb),om];exact e2
      .cases h2
     .rename_i cs;obtain⟨v,h3,h4⟩:=R.aC h2;cases hx with
      |val hv=>
       cases hv with
       |agg hcs=>
        obtain⟨v',e1,rv⟩:=yU ok h3 hcs;obtain⟨y',e2,r2⟩:=CR hr h4 (.val rv);refine⟨y',?_,r2⟩;simp only[follow,aM,bO ok hd,aP,hf',hdr,dR,bg,e1];exact e2
     .cases h2
   .cases h
  .cases h
include ok in
def RT (hr:Rel ι A w) {xt:au} {x:Pl} {x':Place} {ptr:Bool} {wr:Option String} {v:I} (h:Gi tb A.get xt x ptr=.ok v) (hx:zF ι x x'):
 ∃v',(receiverAt xt x' ptr wr).run tb.P w=.ok v' w/\VR ι v v':=by
 unfold Gi at h;split at h
 .rename_i e hd;obtain⟨v',e1,r⟩:=BM ok hr h hx;refine⟨v',?_,r⟩;simp only[receiverAt,aM,bO ok hd,aP];exact e1
 .rename_i elem hd;obtain⟨u,h1,h2⟩:=R.aC h;obtain⟨u',e1,ru⟩:=BM ok hr h1 hx;split at h2
  .rename_i a;have ru0:=ru;cases ru with
   |ptr hl=>
    obtain⟨v',e2,rv⟩:=C3 ok hr h2 ru0;refine⟨v',?_,rv⟩;have e3:∀(nm:String) (p:Addr),(Builtin.ssaWrapNilChk_ #[xt] xt #[.pointer (some p),strVal "",strVal nm]).run tb.P w=.ok (.pointer (some p)) w:=λ nm p=>rfl
    simp only[Instr.loadAt,Instr.sureAddr,aM,a6,aP]at e2;cases wr with
    |none=>
     simp only[receiverAt,aM,bO ok hd,aP,e1,a6,asAddr];exact e2
    |some nm=>
     simp only[receiverAt,aM,bO ok hd,aP,e1,e3,asAddr,a6];exact e2
  .cases h2
 .rename_i d hne a hd;simp only[ay]at h;subst h;cases hx with
  |var ha=>
   refine⟨_,?_,ha⟩;simp only[receiverAt,aM,bO ok hd,aP];cases d<;>first|rfl|exact aU rfl (hne _)
 .cases h
 .rename_i d hne hd;obtain⟨v',e1,r⟩:=BM ok hr h hx;refine⟨v',?_,r⟩;simp only[receiverAt,aM,bO ok hd,aP];cases d<;>first|(cases hx<;>exact e1)|exact aU rfl (hne _)
 .cases h
end
section
variable {tb:aN}(ok:dO tb){ι:bj}{A:Mem}{w:aF}
include ok in
theorem Qi (hr:Rel ι A w):∀(d:Nat) {t:au} {v v':I} {name:String} {f:FuncId} {r:I},F0 tb A.get d t v name=.ok (f,r)->VR ι v v'->∀e,d<=e->
 ∃r',(method e t v' name).run tb.P w=.ok (f,r') w/\VR ι r r'
 |0,t,v,v',name,f,r,h,_,_,_=>by cases h
 |d+1,t,v,v',name,f,r,h,hv,e,hle=>by
  obtain⟨e,rfl⟩:∃e',e=e'+1:=⟨e-1,by omega⟩;unfold F0 at h;split at h
  .cases h
  .rename_i i hi;split at h
   .cases h
   .rename_i m hm;have hm':i.methods.find? (λ m=>m.name==name)=U m:=by rw[<-Array.find?_toList];exact hm
    obtain⟨⟨xt,x⟩,h1,h2⟩:=R.aC h;obtain⟨y',e1,hy⟩:=CR ok hr h1 (.val hv);simp only at e1 hy h2;split at h2
    .rename_i hf;obtain⟨u,h3,h4⟩:=R.aC h2;obtain⟨u',e2,hu⟩:=BM ok hr h3 hy;split at h4
     .rename_i t' v0;cases hu with
      |iface hv0=>
       obtain⟨r',e3,hr'⟩:=Qi hr d h4 hv0 e (by omega);refine⟨r',?_,hr'⟩;simp only[method,aM,rZ ok hi,aP,hm',e1,hf,e2];exact e3
     .cases h4
    .rename_i g ptr hf;obtain⟨u,h3,h4⟩:=R.aC h2;simp only[ay,bH]at h4;obtain⟨rfl,rfl⟩:=h4;obtain⟨r',e2,hr'⟩:=RT ok hr (wr:=if m.path.isEmpty then some ((name.splitOn ".").getLastD name)else none) h3 hy;refine⟨r',?_,hr'⟩;simp only[method,aM,rZ ok hi,aP,hm',e1,hf,e2,a6]
def xK(P:cI)(ι:bj)(w:aF)(cl:Cl)(s:Sem Next):Prop:=
 match cl with
 |.fn f args=>∃args':Array I,s.run P w=(callFunc f args').run P w/\bI ι args args'.toList
 |.round l args=>∃(ld:Loc) (args':Array I),ι l=U ld/\s.run P w=(Instr.yield ld.blk args').run P w/\bI ι args args'.toList
include ok in
def FZ (hr:Rel ι A w) {recv recv':I} {name:String} {args:List I} {args':Array I} {cl:Cl} (h:AA tb A.get recv name args=.ok cl) (hv:VR ι recv recv') (ha:bI ι args args'.toList):
 xK tb.P ι w cl (callMethod recv' name args'):=by
 unfold AA at h;split at h
 .rename_i t v;obtain⟨⟨f,r⟩,h1,h2⟩:=R.aC h;simp only[ay]at h2;subst h2;cases hv with
  |iface hv0=>
   obtain⟨r',e,hr'⟩:=Qi ok hr 100 h1 hv0 (tb.P.types.size+Made.depth) (by unfold Made.depth;omega);refine⟨#[r']++args',?_,by simpa using bI.cons hr' ha⟩
   simp only[callMethod,aM,run_program,aP,e]
 .cases h
include ok in
def Ng (hr:Rel ι A w) {v v':I} {args:List I} {args':Array I} {cl:Cl} (h:tw tb A.get v args=.ok cl) (hv:VR ι v v') (ha:bI ι args args'.toList):
 xK tb.P ι w cl (do let d<-Deferred.ofValue v' args';invoke d.target d.args):=by
 unfold tw at h;split at h
 .rename_i f first cap
  simp only[ay]at h;subst h;cases hv with
  |func hf h1 h2=>
   rename_i a' b';refine⟨a'++args'++b',?_,?_⟩
   .simp only[Deferred.ofValue,aM,a6,aP,invoke]
   .simpa using (h1.append ha).append h2
 .rename_i l first cap
  simp only[ay]at h;subst h;cases hv with
  |func hf _ _=>exact hf.elim
  |yield hl=>
   refine⟨_,args',hl,?_,ha⟩;simp only[Deferred.ofValue,aM,a6,aP,invoke];congr 1;congr 1;simp
 .rename_i name first cap
  cases hv with
  |func hf h1 h2=>
   rename_i a' b';have hall:=h1.append ha;split at h
   .rename_i recv rest heq;rw[heq]at hall;obtain⟨recv',t',e,hrv,hrest⟩:=hall.cons_inv;have he:(a'++args')=(recv'::t').toArray:=by apply m6;simpa using e
    have hm:=FZ ok hr (args':=t'.toArray) h hrv (by simpa using hrest);have hrun:(do let d<-Deferred.ofValue (.func (.method name) a' b') args';invoke d.target d.args:Sem Next).run tb.P w=(callMethod recv' name t'.toArray).run tb.P w:=by
     simp only[Deferred.ofValue,aM,a6,aP,invoke,he];simp
    cases cl with
    |fn f args0=>obtain⟨x,e1,e2⟩:=hm;exact⟨x,hrun.trans e1,e2⟩
    |round l args0=>obtain⟨x,y,e0,e1,e2⟩:=hm;exact⟨x,y,e0,hrun.trans e1,e2⟩
   .cases h
 .rename_i t name first cap
  cases hv with
  |func hf h1 h2=>
   rename_i a' b';have hall:=h1.append ha;split at h
   .rename_i recv rest heq;rw[heq]at hall;obtain⟨recv',t',e,hrv,hrest⟩:=hall.cons_inv;have he:(a'++args')=(recv'::t').toArray:=by apply m6;simpa using e
    split at h
    .rename_i ms hd;have hm:=FZ ok hr (args':=t'.toArray) h hrv (by simpa using hrest);have hrun:(do let d<-Deferred.ofValue (.func (.methodOf t name) a' b') args';invoke d.target d.args:Sem Next).run tb.P w=(callMethod recv' name t'.toArray).run tb.P w:=by
      simp only[Deferred.ofValue,aM,a6,aP,invoke,he];simp[bO ok hd]
     cases cl with
     |fn f args0=>obtain⟨x,e1,e2⟩:=hm;exact⟨x,hrun.trans e1,e2⟩
     |round l args0=>obtain⟨x,y,e0,e1,e2⟩:=hm;exact⟨x,y,e0,hrun.trans e1,e2⟩
    .rename_i d hne hd;have hm:=FZ ok hr (args':=t'.toArray) h (.iface hrv) (by simpa using hrest);have hrun:(do let d<-Deferred.ofValue (.func (.methodOf t name) a' b') args';invoke d.target d.args:Sem Next).run tb.P w=(callMethod (.iface t recv') name t'.toArray).run tb.P w:=by
      simp only[Deferred.ofValue,aM,a6,aP,invoke,he];simp[bO ok hd]
     cases cl with
     |fn f args0=>obtain⟨x,e1,e2⟩:=hm;exact⟨x,hrun.trans e1,e2⟩
     |round l args0=>obtain⟨x,y,e0,e1,e2⟩:=hm;exact⟨x,y,e0,hrun.trans e1,e2⟩
    .cases h
   .cases h
 .rename_i t path f ptr first cap
  cases hv with
  |func hf h1 h2=>
   rename_i a' b';have hall:=h1.append ha;split at h
   .rename_i x rest heq;rw[heq]at hall;obtain⟨x',t',e,hxv,hrest⟩:=hall.cons_inv;have he:(a'++args')=(x'::t').toArray:=by apply m6;simpa using e
    obtain⟨⟨xt,y⟩,h3,h4⟩:=R.aC h;obtain⟨r,h5,h6⟩:=R.aC h4;simp only[ay]at h6;subst h6;obtain⟨y',e1,hy⟩:=CR ok hr h3 (.val hxv);obtain⟨r',e2,hr'⟩:=RT ok hr (wr:=V) h5 hy;refine⟨#[r']++t'.toArray,?_,by simpa using bI.cons hr' hrest⟩
    have hrv:(receiverVia t x' path ptr).run tb.P w=.ok r' w:=by
     simp only[receiverVia,aM,e1,aP];exact e2
    simp only[Deferred.ofValue,aM,a6,aP,invoke,he];simp[hrv]
   .cases h
 .cases h
include ok in
def No (hr:Rel ι A w) {n:Nat} {τ:T I} {a:Act} {o:Oper} {c:Call} {cl:Cl} (hc:qd o.op=U c) (h:rW tb τ A.get c=.ok cl) (ht:TR ι n τ a.tmps):
 xK tb.P ι w cl (execOp a.eval o):=by
 have hop:o.op=.call c/\∀b,c.callee≠.builtin b:=by
  unfold qd at hc;split at hc
  .rename_i c0 ho;split at hc
   .cases hc
   .rename_i hb;simp only[fg]at hc;subst hc;exact⟨ho,λ b hb'=>hb b hb'⟩
  .cases hc
 obtain⟨hop,hnb⟩:=hop;unfold rW at h;obtain⟨args,h1,h2⟩:=R.aC h;have ha:=yI h1 ht;have ha':bI ι args (c.args.map a.eval).toList:=by simpa using ha
 split at h2
 .rename_i f hcal;obtain⟨fv,h3,h4⟩:=R.aC h2;have:=Ng ok hr h4 (dh h3 ht) ha';have e:execOp a.eval o=(do let d<-Deferred.ofValue (a.eval f) (c.args.map a.eval);invoke d.target d.args):=by
   simp only[execOp,hop,resolve,hcal]
  rw[e];exact this
 .rename_i r name hcal;obtain⟨rv,h3,h4⟩:=R.aC h2;obtain⟨L,hL⟩:∃L:List I,c.args.map a.eval=L.toArray:=⟨_,(Array.toArray_toList).symm⟩;rw[hL]at ha';have hm:=FZ ok hr h4 (dh h3 ht) ha';have e:(execOp a.eval o).run tb.P w=(callMethod (a.eval r) name L.toArray).run tb.P w:=by
   have he: #[a.eval r]++L.toArray=(a.eval r::L).toArray:=by apply m6;simp
   simp only[execOp,hop,resolve,hcal,aM,a6,aP,invoke,hL,he];simp
  cases cl with
  |fn f args0=>obtain⟨x,e1,e2⟩:=hm;exact⟨x,e.trans e1,e2⟩
  |round l args0=>obtain⟨x,y,e0,e1,e2⟩:=hm;exact⟨x,y,e0,e.trans e1,e2⟩
 .cases h2
end
section
variable {tb:aN}(ok:dO tb){ι:bj}{P:cI}
section steps
variable {b:Frame}{a:Act}{k:List Item}{cs:List Frame}{w w':aF}{ops:Array Oper}{i:Nat}{rest:List Nat}{o:Oper}
variable {v':I}
def y6{nx:Next}(ho:ops[i]?=U o)(hw:Region.wanted o (yielded ops a.tmps)=ae)(hnd:∀c,o.op≠.defer c)(hr:(execOp a.eval o).run P w=.ok nx w')(hn:Ej nx v'):
 step P (lone (b.atR a (.inRegion ops (i::rest)::k)) cs w)=.next (lone (b.atR (a.put o.dst v') (.inRegion ops rest::k)) cs w'):=by
 have hg:=stepGR_op (P:=P) (b:=b) (k:=k) (cs:=cs) (w:=w) (rest:=rest) ho hw;rw[Oper.semAt_eq _ _ _ hnd]at hg;have hfin:∀v,(b.atR a (.inRegion ops (i::rest)::k)).finish v=b.atR (a.put o.dst v) (.inRegion ops rest::k):=by
  intro v;rw[Frame.finish_atR,ho];rfl
 refine step_lone_go ?_;rw[hg];rcases hn with rfl|⟨rfl,rfl⟩
 .simp[stepG.apply,hr,hfin]
 .simp[stepG.apply,hr,hfin]
def Tw{f:FuncId}{args:Array I}(ho:ops[i]?=U o)(hw:Region.wanted o (yielded ops a.tmps)=ae)(hnd:∀c,o.op≠.defer c)(hr:(execOp a.eval o).run P w=.ok (.enter f args) w'):
 step P (lone (b.atR a (.inRegion ops (i::rest)::k)) cs w)=.next (lone (Frame.enter P f args .normal) (b.atR a (.inRegion ops (i::rest)::k)::cs) w'):=by
 have hg:=stepGR_op (P:=P) (b:=b) (k:=k) (cs:=cs) (w:=w) (rest:=rest) ho hw;rw[Oper.semAt_eq _ _ _ hnd]at hg;refine step_lone_go ?_;rw[hg];simp[stepG.apply,hr,Frame.atR]
def qhi{l f:Nat}{t:Array I}{qi8 bd:aH}(ho:ops[i]?=U o)(hw:Region.wanted o (yielded ops a.tmps)=ae)(hnd:∀c,o.op≠.defer c)(hr:(execOp a.eval o).run P w=.ok (.round l f t qi8 bd) w'):
 step P (lone (b.atR a (.inRegion ops (i::rest)::k)) cs w)=.next (lone (Frame.round l f t qi8 bd .normal) (b.atR a (.inRegion ops (i::rest)::k)::cs) w'):=by
 have hg:=stepGR_op (P:=P) (b:=b) (k:=k) (cs:=cs) (w:=w) (rest:=rest) ho hw;rw[Oper.semAt_eq _ _ _ hnd]at hg;refine step_lone_go ?_;rw[hg];simp[stepG.apply,hr]
variable {v:I}
def qhf(ho:ops[i]?=U o)(hw:Region.wanted o (yielded ops a.tmps)=ae)(hnd:∀c,o.op≠.defer c)(hr:(execOp a.eval o).run P w=.halt (.panic v) w'):
 step P (lone (b.atR a (.inRegion ops (i::rest)::k)) cs w)=.next (lone {b.atR a (.inRegion ops (i::rest)::k)with mode:=.panicking [{v:=v,recovered:=ag}]} cs w'):=by
 have hg:=stepGR_op (P:=P) (b:=b) (k:=k) (cs:=cs) (w:=w) (rest:=rest) ho hw;rw[Oper.semAt_eq _ _ _ hnd]at hg;refine step_lone_go ?_;rw[hg];simp[stepG.apply,hr,Frame.raise_atR]
end steps
def zn(P:cI)(s:Sem Next)(w:aF)(v':I)(w':aF)(fr:Frame)(cs:List Frame):Prop:=
 s.run P w=.ok (.value v') w'\/
 (∃f args,s.run P w=.ok (.enter f args) w/\Steps P (lone (Frame.enter P f args .normal) (fr::cs) w) (lone (fr.finish v') cs w'))\/
 (∃l f t qi8 bd,s.run P w=.ok (.round l f t qi8 bd) w/\Steps P (lone (Frame.round l f t qi8 bd .normal) (fr::cs) w) (lone (fr.finish v') cs w'))
def Hb(P:cI)(s:Sem Next)(w:aF)(v':I)(w':aF)(fr:Frame)(cs:List Frame):Prop:=
 ∃f args,s.run P w=.ok (.enter f args) w/\Steps P (lone (Frame.enter P f args .normal) (fr::cs) w) (lone (fr.raise [{v:=v',recovered:=ag}]) cs w')
variable {v':I}
def Hb.op{b:Frame}{a:Act}{k:List Item}{cs:List Frame}{w w':aF}{ops:Array Oper}{i:Nat}{rest:List Nat}{o:Oper}
 (ho:ops[i]?=U o)(hw:Region.wanted o (yielded ops a.tmps)=ae)(hnd:∀c,o.op≠.defer c)(h:Hb P (execOp a.eval o) w v' w' (b.atR a (.inRegion ops (i::rest)::k)) cs):
 Steps P (lone (b.atR a (.inRegion ops (i::rest)::k)) cs w) (lone {b.atR a (.inRegion ops (i::rest)::k)with mode:=.panicking [{v:=v',recovered:=ag}]} cs w'):=by
 obtain⟨f,args,h1,h2⟩:=h;rw[Frame.raise_atR]at h2;exact .head (Tw ho hw hnd h1) h2
def zn.op{b:Frame}{a:Act}{k:List Item}{cs:List Frame}{w w':aF}{ops:Array Oper}{i:Nat}{rest:List Nat}{o:Oper}
 (ho:ops[i]?=U o)(hw:Region.wanted o (yielded ops a.tmps)=ae)(hnd:∀c,o.op≠.defer c)(h:zn P (execOp a.eval o) w v' w' (b.atR a (.inRegion ops (i::rest)::k)) cs):
 Steps P (lone (b.atR a (.inRegion ops (i::rest)::k)) cs w) (lone (b.atR (a.put o.dst v') (.inRegion ops rest::k)) cs w'):=by
 have hfin:(b.atR a (.inRegion ops (i::rest)::k)).finish v'=b.atR (a.put o.dst v') (.inRegion ops rest::k):=by
  rw[Frame.finish_atR,ho];rfl
 rcases h with h1|⟨f,args,h1,h2⟩|⟨l,f,t,qi8,bd,h1,h2⟩
 .exact .one (y6 ho hw hnd h1 (.inl rfl))
 .have:=h2;rw[hfin]at this;exact .head (Tw ho hw hnd h1) this
 .have:=h2;rw[hfin]at this;exact .head (qhi ho hw hnd h1) this
def VR.qcE{a:Addr}(h:VR ι (.pointer (U a)) v'):∃p,v'=.pointer (U p):=by
 cases h;exact⟨_,rfl⟩
include ok in
theorem KK {A:Mem} {w:aF} (hr:Rel ι A w) {n:Nat} {τ:T I} {t:Array I} (ht:TR ι n τ t):∀{rs:List ResultVar} {vs:List I},eF tb τ A.get rs=.ok vs->
 ∃vs',(rs.mapM λ
  |.tmp i=>pure (t.getD i undef)
  |.cell i ty=>do loadVar ty (<-asAddr (t.getD i undef)):Sem (List I)).run tb.P w=.ok vs' w/\bI ι vs vs'
 | [],vs,h=>by
  simp only[eF,ay]at h;subst h;exact⟨[],rfl,.nil⟩
 |.tmp i::rs,vs,h=>by
  unfold eF at h;obtain⟨v,h1,h2⟩:=R.aC h;obtain⟨us,h3,h4⟩:=R.aC h2;simp only[ay]at h4;subst h4;obtain⟨us',e,r⟩:=KK hr ht h3;have hv:=dh (a:=⟨t,[]⟩) h1 ht;refine⟨_::us',?_,.cons hv r⟩;simp only[List.mapM_cons,aM,a6,aP,e];rfl
 |.cell i ty::rs,vs,h=>by
  unfold eF at h;obtain⟨ad,h1,h2⟩:=R.aC h;obtain⟨v,h3,h4⟩:=R.aC h2;obtain⟨us,h5,h6⟩:=R.aC h4;simp only[ay]at h6;subst h6;obtain⟨us',e,r⟩:=KK hr ht h5;have hv:=dh (a:=⟨t,[]⟩) h1 ht;obtain⟨v',e1,rv⟩:=C3 ok hr h3 hv;refine⟨v'::us',?_,.cons rv r⟩;obtain⟨p,hp⟩:∃p,Act.eval ⟨t,[]⟩ (.tmp i)=.pointer (U p):=by
   unfold aj at h3;split at h3
   .exact hv.qcE
   .cases h3
  rw[hp]at e1;have hp':t.getD i undef=.pointer (U p):=hp;have e3:(loadVar ty p).run tb.P w=.ok v' w:=by
   simpa only[Instr.loadAt,Instr.sureAddr,aM,a6,aP]using e1
  have e4:(asAddr (t.getD i undef)).run tb.P w=.ok p w:=by rw[hp'];rfl
  simp only[List.mapM_cons,aM,e4,a6,aP,e3,e]
variable {vs:List I}
def qb5{vs':List I}(h:bI ι vs vs'):VR ι (oneOf vs) (if h:vs'.toArray.size=1 then vs'.toArray[0]else .tuple vs'.toArray):=by
 cases h with
 |nil=>exact .tuple .nil
 |cons hv ht=>
  cases ht with
  |nil=>exact hv
  |cons hv2 ht2=>
   rw[dif_neg (by simp)];exact .tuple (.cons hv (.cons hv2 ht2))
include ok in
def KL {A:Mem} {w:aF} (hr:Rel ι A w) {n:Nat} {τ:T I} {t:Array I} (ht:TR ι n τ t) {fn:Func} {vs:List I} (h:eF tb τ A.get fn.results.toList=.ok vs):
 ∃v',(results fn t).run tb.P w=.ok v' w/\VR ι (oneOf vs) v':=by
 obtain⟨vs',e,r⟩:=KK ok hr ht h;refine⟨_,?_,qb5 r⟩;unfold results;rw[Array.mapM_eq_mapM_toList];simp only[aM,Sem.run_map];refine(cX (λ q=>Result.andThen (Result.andThen q _) _) e).trans ?_;rfl
def DR(ι:bj):List Nat->List Deferred->List Deferred->Prop
 | [],ds,base=>ds=base
 |b::bs,d::ds,base=>(∃l,ι b=U l/\d={target:=.collected l.blk,args:= #[]})/\DR ι bs ds base
 |_::_,[],_=>False
variable {ι':bj}
theorem DR.mono{ι:bj}(hi:gW ι ι'):∀{bs:List Nat} {ds base:List Deferred},DR ι bs ds base->DR ι' bs ds base
 | [],_,_,h=>h
 |_::_,_::_,_,⟨⟨l,hl,hd⟩,h⟩=>⟨⟨l,hi _ _ hl,hd⟩,DR.mono hi h⟩
 |_::_,[],_,h=>h.elim
theorem GH(P:cI){b:Frame}{t:Array I}{todo:List Item}{cs:List Frame}:∀{bs:List Nat} {ds base:List Deferred} {A A':Mem} {w:aF},ir bs A=.ok A'->DR ι bs ds base->Rel ι A w->
 ∃w',Steps P (lone {b.atR ⟨t,ds⟩ todo with mode:=.returning} cs w) (lone {b.atR ⟨t,base⟩ todo with mode:=.returning} cs w')/\Rel ι A' w'/\bY ι A w ι A' w'
 | [],ds,base,A,A',w,h,hd,hr=>by
  simp only[ir,ay]at h;subst h;cases (show ds=base from hd);exact⟨w,.refl P _,hr,bY.refl ι A w⟩
 |_::_,[],_,_,_,_,_,h,_=>h.elim
 |x::bs,d::ds,base,A,A',w,h,⟨⟨l,hl,hd⟩,hds⟩,hr=>by
  unfold ir at h;split at h
  .rename_i hg;obtain⟨o',hw,rfl⟩:=hr.obs _ _ _ hg rfl hl;obtain⟨w1,r1,r2,r3⟩:=xp (o':=.deferred V) hw (by simp) P;obtain⟨hrel,hst⟩:=hr.sk (ob:=.dead) hg rfl hl (qT hg λ _ _ _ h=>by cases h) (λ _ _ _ h=>by cases h) r2 r3 trivial;obtain⟨w',s2,hrel2,hst2⟩:=GH P (b:=b) (t:=t) (todo:=todo) (cs:=cs) h hds hrel;refine⟨w',.head ?_ s2,hrel2,hst.trans hst2⟩;have htake:(Instr.takeDeferred l.blk).run P w=.ok [] w1:=by
    simp only[Instr.takeDeferred,aM,l_ hw (by simp),aP,r1,a6]
   refine step_lone_go ?_;subst hd;simp[stepG,unwind,Frame.atR,Sem.runT_eq,htake]
  .cases h
end
section
variable {tb:aN}(ok:dO tb){ih:aH->St->R (Ex×St)}{ι:bj}
def BN(ι:bj)(ro:Option Nat)(r:Option Nat):Prop:=
 match ro with
 |none=>r=V
 |some l=>∃ld,ι l=U ld/\r=U ld.blk
variable {ι':bj}
def BN.mono{ι:bj}(hi:gW ι ι'){ro r:Option Nat}(h:BN ι ro r):BN ι' ro r:=by
 cases ro with
 |none=>exact h
 |some l=>obtain⟨ld,h1,h2⟩:=h;exact⟨ld,hi _ _ h1,h2⟩
structure SR (ι:bj) (s:St) (b:Frame) (a:Act) (w:aF):Prop where
 rel:Rel ι s.m w
 tr:TR ι s.n s.t a.tmps
 ro:BN ι s.ro b.roundOf
 dr:DR ι s.d a.defers b.defers
structure ni (ι:bj) (s:St) (w:aF) (ι':bj) (s':St) (w':aF):Prop where
 stp:bY ι s.m w ι' s'.m w'
 n:s'.n=s.n
 ro:s'.ro=s.ro
def ni.refl(ι:bj)(s:St)(w:aF):ni ι s w ι s w:=⟨bY.refl _ _ _,rfl,rfl⟩
variable {s1:St}
def ni.trans{ι ι1 ι2:bj}{s s2:St}{w w1 w2:aF}(h:ni ι s w ι1 s1 w1)(k:ni ι1 s1 w1 ι2 s2 w2):ni ι s w ι2 s2 w2:=
 ⟨h.stp.trans k.stp,k.n.trans h.n,k.ro.trans h.ro⟩
variable {A A':Mem}{vs:List I}
def GF{a:Addr}(h:lj A a vs=.ok A'):A'.next=A.next:=by
 unfold lj at h;split at h
 .simp only[ay]at h;rw[h]
 .split at h
  .obtain⟨_,_,h2⟩:=R.aC h;simp only[ay]at h2;subst h2;rfl
  .cases h
variable {base:Option Addr}{cap size n:Nat}{v:I}
def Mk{elem:au}{len:Nat}{new:List I}(h4:ig tb A elem base len cap size n new=.ok (v,A')):A.next<=A'.next:=by
 unfold ig at h4;revert h4;generalize (av _ (bV _))=q;intro h4;cases q with
 |true=>
  simp only[aJ]at h4;split at h4
  .simp only[ay,bH]at h4;rw[h4.2];exact aI _
  .split at h4
   .cases h4
   .obtain⟨A2,e,h5⟩:=R.aC h4;simp only[ay,bH]at h5;rw[<-h5.2,GF e];exact aI _
 |false=>
  simp only[bJ]at h4;split at h4
  .cases h4
  .revert h4;generalize (av _ 16777216&&_&&_&&_&&_)=q;intro h4;cases q with
   |false=>cases h4
   |true=>
    simp only[aJ]at h4;obtain⟨old,_,h5⟩:=R.aC h4;clear h4;revert h5;generalize ed _=q;intro h5;cases q with
    |true=>
     simp only[aJ,ay,bH]at h5;rw[<-h5.2,aG];omega
    |false=>
     simp only[bJ]at h5;split at h5
     .revert h5;generalize (aL (hY _) _&&_)=q;intro h5;cases q with
      |false=>cases h5
      |true=>
       simp only[aJ]at h5;split at h5
       .revert h5;generalize (av _ _&&(aL _ _&&aO _ _))=q;intro h5;cases q with
        |false=>cases h5
        |true=>
         simp only[aJ]at h5;split at h5
         .cases h5
         .cases h5
         .simp only[ay,bH]at h5;rw[<-h5.2,aG,cU];omega
       .cases h5
     .cases h5
def Vd{st xt:au}{s x:I}(h:dJ tb A st xt s x=.ok (v,A')):A.next<=A'.next:=by
 unfold dJ at h;split at h
 .rename_i xd _ _;cases hx:kh xd with
  |true=>
   rw[hx,aJ]at h;unfold HQ at h;obtain⟨⟨_,_⟩,_,h2⟩:=R.aC h;obtain⟨n,_,h3⟩:=R.aC h2;split at h3
   .cases h3
   .revert h3;generalize (av n _&&_)=q;intro h3;cases q with
    |false=>cases h3
    |true=>exact Mk h3
  |false=>
   rw[hx]at h;simp only[bJ]at h;obtain⟨⟨_,_⟩,_,h2⟩:=R.aC h;obtain⟨n,_,h3⟩:=R.aC h2;obtain⟨new,_,h4⟩:=R.aC h3;exact Mk h4
 .cases h
def Qd{t:au}{m k:I}(h:pA tb A t m k v=.ok A'):A'.next=A.next:=by
 unfold pA at h;split at h
 .rename_i kt _ _ _;cases hk:h_ tb kt k with
  |false=>rw[hk]at h;cases h
  |true=>
   rw[hk]at h;simp only[aJ]at h;split at h
   .split at h<;>first
     |(simp only[ay]at h;subst h;rfl)
     |cases h
   .cases h
 .cases h
def qaU{τ:T I}{o:Op}(h:oM tb τ A o=.ok (v,A')):A.next<=A'.next:=by
 unfold oM at h;split at h
 .obtain⟨_,_,h2⟩:=R.aC h;obtain⟨_,_,h3⟩:=R.aC h2;obtain⟨A2,h4,h5⟩:=R.aC h3;simp only[ay,bH]at h5;obtain⟨_,rfl⟩:=h5;unfold cm at h4;split at h4
  .obtain⟨n,_,h6⟩:=R.aC h4;revert h6;generalize aL _ n=q;intro h6;cases q with
   |false=>cases h6
   |true=>rw[GF h6];exact aI _
  .cases h4
 .obtain⟨_,_,h2⟩:=R.aC h;obtain⟨_,_,h3⟩:=R.aC h2;obtain⟨_,_,h4⟩:=R.aC h3;obtain⟨A2,h5,h6⟩:=R.aC h4;simp only[ay,bH]at h6;obtain⟨_,rfl⟩:=h6;rw[Qd h5];exact aI _
 .obtain⟨_,_,h2⟩:=R.aC h;obtain⟨_,_,h3⟩:=R.aC h2;obtain⟨_,_,h4⟩:=R.aC h3;obtain⟨A2,h5,h6⟩:=R.aC h4;simp only[ay,bH]at h6;obtain⟨_,rfl⟩:=h6;rw[Qd h5];exact aI _
 .obtain⟨_,_,h2⟩:=R.aC h;unfold AL at h2;split at h2
  .simp only[ay,bH]at h2;rw[<-h2.2,aG];omega
  .split at h2
   .simp only[ay,bH]at h2;rw[<-h2.2,aG];omega
   .cases h2
  .cases h2
 .obtain⟨_,_,h2⟩:=R.aC h;unfold F1 at h2;split at h2
  .split at h2
   .revert h2;generalize aO _ _=q;intro h2;cases q with
    |true=>simp only[aJ,ay,bH]at h2;rw[<-h2.2,cU];exact aI _
    |false=>simp only[bJ,ay,bH]at h2;rw[h2.2];exact aI _
   .cases h2
  .split at h2
   .split at h2
    .revert h2;generalize (_&&_)=q;intro h2;cases q with
     |true=>
      simp only[aJ]at h2;split at h2
      .simp only[ay,bH]at h2;rw[<-h2.2,cU];exact aI _
      .revert h2;generalize aL _ _=q;intro h2;cases q with
       |true=>simp only[aJ,ay,bH]at h2;rw[h2.2];exact aI _
       |false=>cases h2
     |false=>cases h2
    .cases h2
   .cases h2
  .cases h2
 .obtain⟨_,_,h2⟩:=R.aC h;unfold Fb at h2;split at h2
  .split at h2
   .split at h2
    .revert h2;generalize (_&&_)=q;intro h2;cases q with
     |true=>simp only[aJ,ay,bH]at h2;rw[h2.2];exact aI _
     |false=>cases h2
    .cases h2
   .cases h2
  .cases h2
 .split at h
  .obtain⟨args,_,h2⟩:=R.aC h;unfold wm at h2;split at h2
   .exact Vd h2
   .unfold E7 at h2;split at h2
    .obtain⟨_,_,h3⟩:=R.aC h2;obtain⟨_,_,h4⟩:=R.aC h3;obtain⟨_,_,h5⟩:=R.aC h4;split at h5
     .simp only[ay,bH]at h5;rw[h5.2];exact aI _
     .obtain⟨A2,e,h6⟩:=R.aC h5;simp only[ay,bH]at h6;rw[<-h6.2,GF e];exact aI _
    .cases h2
   .unfold EZ at h2;split at h2
    .simp only[ay,bH]at h2;rw[h2.2];exact aI _
    .split at h2
     .simp only[ay,bH]at h2;rw[<-h2.2,cU];exact aI _
     .cases h2
    .simp only[ay,bH]at h2;rw[h2.2];exact aI _
    .revert h2;generalize aL _ 0=q;intro h2;cases q with
     |true=>simp only[aJ,ay,bH]at h2;rw[h2.2];exact aI _
     |false=>
      simp only[bJ]at h2;obtain⟨⟨_,_⟩,_,h3⟩:=R.aC h2;obtain⟨A2,e,h4⟩:=R.aC h3;simp only[ay,bH]at h4;rw[<-h4.2,GF e];exact aI _
    .cases h2
   .unfold E8 at h2;split at h2
    .revert h2;generalize h_ _ _ _=q;intro h2;cases q with
     |false=>cases h2
     |true=>simp only[aJ,ay,bH]at h2;rw[h2.2];exact aI _
    .revert h2;generalize h_ _ _ _=q;intro h2;cases q with
     |false=>cases h2
     |true=>
      simp only[aJ]at h2;split at h2
      .split at h2<;>first
        |(simp only[ay,bH]at h2;rw[<-h2.2,cU];exact aI _)
        |cases h2
      .cases h2
    .cases h2
   .unfold zf at h2;obtain⟨n,_,h3⟩:=R.aC h2;split at h3
    .split at h3
     .obtain⟨sz,_,h4⟩:=R.aC h3;revert h4;generalize (_&&_&&_&&av n 16777216&&_)=q;intro h4;cases q with
      |false=>cases h4
      |true=>
       simp only[aJ]at h4;split at h4
       .split at h4
        .cases h4
        .obtain⟨_,_,h5⟩:=R.aC h4;simp only[ay,bH]at h5;rw[<-h5.2,cU];exact aI _
       .cases h4
     .cases h3
    .revert h3;generalize aL n 0=q;intro h3;cases q with
     |false=>cases h3
     |true=>
      simp only[aJ,ay,bH]at h3;rw[<-h3.2];exact aI _
    .cases h3
   .cases h2
  .cases h
 .cases h
def rj(tb:aN)(ih:aH->St->R (Ex×St)):Prop:=
 ∀(cl:Cl) (A:Mem) (r:nh),cE tb ih cl A=.ok r->(∃v A',r=.ef v A'/\A.next<=A'.next/\∀(ι:bj) (w:aF) (s:Sem Next) (fr:Frame) (cs:List Frame),Rel ι A w->xK tb.P ι w cl s->eA ι A A'->
  ∃ι' w' v',Hb tb.P s w v' w' fr cs/\VR ι' v v'/\Rel ι' A' w'/\bY ι A w ι' A' w')\/∃v A',r=.val v A'/\A.next<=A'.next/\∀(ι:bj) (w:aF) (s:Sem Next) (fr:Frame) (cs:List Frame),Rel ι A w->xK tb.P ι w cl s->eA ι A A'->
  ∃ι' w' v',zn tb.P s w v' w' fr cs/\VR ι' v v'/\Rel ι' A' w'/\bY ι A w ι' A' w'
def Hw(P:cI)(ops:Array Oper)(i:Nat)(o:Oper)(s s1:St):Prop:=
 s.m.next<=s1.m.next/\∀(ι:bj) (b:Frame) (a:Act) (k:List Item) (cs:List Frame) (w:aF) (rest:List Nat),SR ι s b a w->eA ι s.m s1.m->Region.wanted o (yielded ops a.tmps)=ae->
  ops[i]?=U o->∃ι' w' a',Steps P (lone (b.atR a (.inRegion ops (i::rest)::k)) cs w) (lone (b.atR a' (.inRegion ops rest::k)) cs w')/\SR ι' s1 b a' w'/\ni ι s w ι' s1 w'
def UX(P:cI)(ops:Array Oper)(i:Nat)(o:Oper)(s:St)(v:I)(s1:St):Prop:=
 s.m.next<=s1.m.next/\∀(ι:bj) (b:Frame) (a:Act) (k:List Item) (cs:List Frame) (w:aF) (rest:List Nat),SR ι s b a w->eA ι s.m s1.m->Region.wanted o (yielded ops a.tmps)=ae->
  ops[i]?=U o->∃ι' w' v',Steps P (lone (b.atR a (.inRegion ops (i::rest)::k)) cs w) (lone {b.atR a (.inRegion ops (i::rest)::k)with mode:=.panicking [{v:=v',recovered:=ag}]} cs w')/\
   VR ι' v v'/\SR ι' s1 b a w'/\ni ι s w ι' s1 w'
variable {dst:Option Tmp}
def De{s:St}{k:St->R (Ex×St)}{r:Ex×St}(h:b7 s dst v k=.ok r):
 ∃s1,k s1=.ok r/\s1.m=s.m/\s1.n=s.n/\s1.ro=s.ro/\s1.d=s.d/\∀ι (a:Act) v',TR ι s.n s.t a.tmps->VR ι v v'->TR ι s1.n s1.t (a.put dst v').tmps/\(a.put dst v').defers=a.defers:=by
 unfold b7 at h;split at h
 .exact⟨s,h,rfl,rfl,rfl,rfl,λ ι a v' ht _=>⟨ht,rfl⟩⟩
 .rename_i d;cases hb:aO d s.n with
  |false=>rw[hb]at h;cases h
  |true=>
   rw[hb]at h;simp only[aJ,Js]at h;exact⟨_,h,rfl,rfl,rfl,rfl,λ ι a v' ht hv=>⟨ht.set (jE hb) hv,rfl⟩⟩
def AF{o:Op}(h:cls tb o≠.L):∀c,o≠.defer c:=by
 rintro c rfl;exact h rfl
include ok in
def Kt (hcall:rj tb ih) {ops:Array Oper} {i:Nat} {o:Oper} {s:St} {k:St->R (Ex×St)} {r:Ex×St} (h:bT tb ih o s k=.ok r):
 (∃v s1,r=(.ef v,s1)/\UX tb.P ops i o s v s1)\/∃s1,k s1=.ok r/\Hw tb.P ops i o s s1:=by
 unfold bT at h;split at h
 .rename_i c hc;obtain⟨cl,h1,h2⟩:=R.aC h;obtain⟨res,h3,h4⟩:=R.aC h2;split at h4
  .rename_i v A;obtain⟨s1,hk,hm,hn,hro,hd,hput⟩:=De h4;refine .inr ⟨s1,hk,?_⟩;rcases hcall cl s.m _ h3 with⟨_,_,he,_⟩|⟨v2,A2,he,hle,hsnd⟩
   .cases he
   .cases he;refine⟨by rw[hm];exact hle,λ ι b a k cs w rest hs hf hw ho=>?_⟩;have hcl:=No ok hs.rel hc h1 hs.tr;obtain⟨ι',w',v',hdone,hv,hrel,hst⟩:=hsnd ι w _ (b.atR a (.inRegion ops (i::rest)::k)) cs hs.rel hcl (by rw[hm]at hf;exact hf);have hi:=hst.le (by rw[hm]at hf;exact hf);have hnd:∀c,o.op≠.defer c:=by rintro c' he;rw[he]at hc;cases hc
    obtain⟨ht',hd'⟩:=hput ι' a v' (hs.tr.mono hi) hv;refine⟨ι',w',a.put o.dst v',hdone.op ho hw hnd,⟨by rw[hm];exact hrel,ht',by rw[hro];exact hs.ro.mono hi,by rw[hd,hd'];exact hs.dr.mono hi⟩,⟨by rw[hm];exact hst,hn,hro⟩⟩
  .rename_i v A;simp only[ay]at h4;rcases hcall cl s.m _ h3 with⟨v2,A2,he,hle,hsnd⟩|⟨_,_,he,_⟩
   .cases he;refine .inl ⟨v,_,h4.symm,hle,λ ι b a k cs w rest hs hf hw ho=>?_⟩;have hcl:=No ok hs.rel hc h1 hs.tr;obtain⟨ι',w',v',hdone,hv,hrel,hst⟩:=hsnd ι w _ (b.atR a (.inRegion ops (i::rest)::k)) cs hs.rel hcl hf;have hi:=hst.le hf;have hnd:∀c,o.op≠.defer c:=by rintro c' he;rw[he]at hc;cases hc
    exact⟨ι',w',v',hdone.op ho hw hnd,hv,⟨hrel,hs.tr.mono hi,hs.ro.mono hi,hs.dr.mono hi⟩,⟨hst,rfl,rfl⟩⟩
   .cases he
 .rename_i hnc;have quiet:∀{v:I},b7 s o.dst v k=.ok r->(∀c,o.op≠.defer c)->(∀ι (a:Act) w,Rel ι s.m w->TR ι s.n s.t a.tmps->∃v',(execOp a.eval o).run tb.P w=.ok (.value v') w/\VR ι v v')->
   ∃s1,k s1=.ok r/\Hw tb.P ops i o s s1:=by
   intro v h4 hnd hrun;obtain⟨s1,hk,hm,hn,hro,hd,hput⟩:=De h4;refine⟨s1,hk,by rw[hm];exact aI _,λ ι b a k cs w rest hs hf hw ho=>?_⟩;obtain⟨v',e,hv⟩:=hrun ι a w hs.rel hs.tr;obtain⟨ht',hd'⟩:=hput ι a v' hs.tr hv;exact⟨ι,w,a.put o.dst v',.one (y6 ho hw hnd e (.inl rfl)),⟨by rw[hm];exact hs.rel,ht',by rw[hro];exact hs.ro,by rw[hd,hd'];exact hs.dr⟩,⟨by rw[hm];exact bY.refl _ _ _,hn,hro⟩⟩
  split at h
  .rename_i hcls;obtain⟨v,h1,h2⟩:=R.aC h;refine .inr (quiet h2 (AF (tb:=tb) (by rw[hcls];simp)) λ ι a w _ ht=>?_);obtain⟨v',e,hv⟩:=Rx ok h1 ht;exact⟨v',e w,hv⟩
  .rename_i hcls;obtain⟨v,h1,h2⟩:=R.aC h;exact .inr (quiet h2 (AF (tb:=tb) (by rw[hcls];simp)) λ ι a w hr ht=>RO ok hr h1 hcls ht)
  .rename_i hcls;obtain⟨⟨ob,way⟩,h1,h2⟩:=R.aC h;obtain⟨s1,hk,hm,hn,hro,hd,hput⟩:=De h2;simp only at hm hn hro hd hput;refine .inr ⟨s1,hk,by rw[hm,aG];omega,λ ι b a k cs w rest hs hf hw ho=>?_⟩;rw[hm]at hf;have hfn:ι s.m.next=V:=hf _ (aI _) (by rw[aG];omega)
   obtain⟨ι',w',v',e,hv,hrel,hst⟩:=L9 ok hs.rel h1 hs.tr hfn;have hi:=hst.le hf;obtain⟨ht',hd'⟩:=hput ι' a v' (hs.tr.mono hi) hv;exact⟨ι',w',a.put o.dst v',.one (y6 ho hw (AF (tb:=tb) (by rw[hcls];simp)) e (.inl rfl)),⟨by rw[hm];exact hrel,ht',by rw[hro];exact hs.ro.mono hi,by rw[hd,hd'];exact hs.dr.mono hi⟩,⟨by rw[hm];exact hst,hn,hro⟩⟩
  .rename_i hcls;split at h
   .rename_i x hop;obtain⟨xv,h1,h2⟩:=R.aC h;split at h2
    .rename_i tx vx;simp only[ay]at h2;refine .inl ⟨_,_,h2.symm,aI _,λ ι b a k cs w rest hs hf hw ho=>?_⟩;have hv:=dh h1 hs.tr;have hnd:∀c,o.op≠.defer c:=by intro c he;rw[hop]at he;cases he
     obtain⟨v',hx',hv'⟩:∃v',a.eval x=.iface tx v'/\VR ι vx v':=by
      revert hv;generalize a.eval x=y;intro hv;cases hv with
      |iface h=>exact⟨_,rfl,h⟩
     refine⟨ι,w,.iface tx v',.one (qhf ho hw hnd ?_),.iface hv',hs,ni.refl _ _ _⟩;rw[execOp,hop];simp only[hx',Instr.panic,aM];rfl
    .cases h2
   .obtain⟨⟨v,A⟩,h1,h2⟩:=R.aC h;obtain⟨s1,hk,hm,hn,hro,hd,hput⟩:=De h2;simp only at hm hn hro hd hput;have hnd:∀c,o.op≠.defer c:=by
     intro c he;rw[he]at h1;cases h1
    refine .inr ⟨s1,hk,by rw[hm];exact qaU h1,λ ι b a k cs w rest hs hf hw ho=>?_⟩;rw[hm]at hf;obtain⟨ι',w',nx,v',e,hnx,hv,hrel,hst⟩:=qaV ok hs.rel h1 hs.tr hf;have hi:=hst.le hf;obtain⟨ht',hd'⟩:=hput ι' a v' (hs.tr.mono hi) hv;exact⟨ι',w',a.put o.dst v',.one (y6 ho hw hnd e hnx),⟨by rw[hm];exact hrel,ht',by rw[hro];exact hs.ro.mono hi,by rw[hd,hd'];exact hs.dr.mono hi⟩,⟨by rw[hm];exact hst,hn,hro⟩⟩
end
section
variable {tb:aN}(ok:dO tb){ih:aH->St->R (Ex×St)}{ι:bj}
variable {v':I}
def VR.Ch{b:Bool}(h:VR ι (.bool b) v'):v'=.bool b:=by cases h;rfl
def VR.qhQ{x:Array I}(h:VR ι (.tuple x) v'):∃y,v'=.tuple y:=by cases h;exact⟨_,rfl⟩
variable {ops:Array Oper}{j:Nat}{v:I}
def UF{t:Array I}{oj:Oper}{d:Tmp}(hj:ops[j]?=U oj)(hd:oj.dst=U d)(hv:t[d]?=U v):
 yielded ops t j=match v with|.bool b=>U b|_=>V:=by
 unfold yielded;rw[hj];simp only[vQ,hd,hv];cases v<;>rfl
variable {n:Nat}
def GZ{o:Oper}{τ:T I}{t:Array I}{b:Bool}(h:iM ops.toList o τ=.ok b)(ht:TR ι n τ t):
 Region.wanted o (yielded ops t)=b:=by
 unfold iM at h;unfold Region.wanted;split at h
 .rename_i hg;rw[hg];simp only[ay]at h;exact h
 .rename_i j want hg;rw[hg];simp only
  split at h
  .rename_i oj hj;have hj':ops[j]?=U oj:=by rw[<-hj];simp
   split at h
   .rename_i d hd;split at h
    .rename_i c hc;obtain⟨v',e,r⟩:=ht.2 _ _ hc;rw[r.Ch]at e;rw[UF hj' hd e];simp only[ay]at h;subst h;cases c<;>cases want<;>rfl
    .rename_i x hc;obtain⟨v',e,r⟩:=ht.2 _ _ hc;obtain⟨y,rfl⟩:=r.qhQ;rw[UF hj' hd e];simp only[ay]at h;subst h;cases want<;>rfl
    .cases h
    .cases h
   .cases h
  .cases h
def L0(P:cI)(ops:Array Oper)(l:List Nat)(s s1:St):Prop:=
 s.m.next<=s1.m.next/\∀(ι:bj) (b:Frame) (a:Act) (k:List Item) (cs:List Frame) (w:aF),SR ι s b a w->eA ι s.m s1.m->
  ∃ι' w' a',Steps P (lone (b.atR a (.inRegion ops l::k)) cs w) (lone (b.atR a' (.inRegion ops []::k)) cs w')/\SR ι' s1 b a' w'/\ni ι s w ι' s1 w'
def LZ(P:cI)(ops:Array Oper)(l:List Nat)(s:St)(v:I)(s1:St):Prop:=
 s.m.next<=s1.m.next/\∀(ι:bj) (b:Frame) (a:Act) (k:List Item) (cs:List Frame) (w:aF),SR ι s b a w->eA ι s.m s1.m->
  ∃ι' w' a' k' v',Steps P (lone (b.atR a (.inRegion ops l::k)) cs w) (lone {b.atR a' k' with mode:=.panicking [{v:=v',recovered:=ag}]} cs w')/\VR ι' v v'/\SR ι' s1 b a' w'/\ni ι s w ι' s1 w'
include ok in
theorem Sc (hcall:rj tb ih) {ops:Array Oper}:∀(l:List Oper) (i:Nat),(∀j,l[j]?=ops[i+j]?)->∀{s:St} {r:Ex×St},ja tb ih ops.toList l s=.ok r->
 (∃v s1,r=(.ef v,s1)/\LZ tb.P ops (sR i (Z l)) s v s1)\/∃s1,r=(.nrm,s1)/\L0 tb.P ops (sR i (Z l)) s s1
 | [],i,_,s,r,h=>by
  have h':R.ok (Ex.nrm,s)=R.ok r:=h;simp only[ay]at h';exact .inr ⟨s,h'.symm,aI _,λ ι b a k cs w hs _=>⟨ι,w,a,.refl _ _,hs,ni.refl _ _ _⟩⟩
 |o::l,i,hl,s,r,h=>by
  have ho:ops[i]?=U o:=by have:=hl 0;simpa using this.symm
  have hl':∀j,l[j]?=ops[i+1+j]?:=λ j=>by
   have:=hl (j+1);rw[show i+1+j=i+(j+1) by omega];simpa using this
  have h':((iM ops.toList o s.t).bind λ w=>bif w then bT tb ih o s (ja tb ih ops.toList l)else b7 s o.dst cQ (ja tb ih ops.toList l))=.ok r:=h;obtain⟨wb,h1,h2⟩:=R.aC h';have hgo:∀{s1:St},ja tb ih ops.toList l s1=.ok r->(s.m.next<=s1.m.next/\∀(ι:bj) (b:Frame) (a:Act) (k:List Item) (cs:List Frame) (w:aF),SR ι s b a w->eA ι s.m s1.m->
   ∃ι' w' a',Steps tb.P (lone (b.atR a (.inRegion ops (i::sR (i+1) (Z l))::k)) cs w) (lone (b.atR a' (.inRegion ops (sR (i+1) (Z l))::k)) cs w')/\SR ι' s1 b a' w'/\ni ι s w ι' s1 w')->
   (∃v s1,r=(.ef v,s1)/\LZ tb.P ops (sR i (o::l).length) s v s1)\/∃s1,r=(.nrm,s1)/\L0 tb.P ops (sR i (o::l).length) s s1:=by
   intro s1 hk ⟨hle,hone⟩;rcases Sc hcall l (i+1) hl' hk with⟨v,s2,h3,hle2,h4⟩|⟨s2,h3,hle2,h4⟩
   .refine .inl ⟨v,s2,h3,dm hle hle2,λ ι b a k cs w hs hf=>?_⟩;obtain⟨ι1,w1,a1,st1,hs1,hss1⟩:=hone ι b a k cs w hs (hf.left hle2);obtain⟨ι2,w2,a2,k2,v2,st2,hv2,hs2,hss2⟩:=h4 ι1 b a1 k cs w1 hs1 (hf.right hss1.stp);exact⟨ι2,w2,a2,k2,v2,st1.trans st2,hv2,hs2,hss1.trans hss2⟩
   .refine .inr ⟨s2,h3,dm hle hle2,λ ι b a k cs w hs hf=>?_⟩;obtain⟨ι1,w1,a1,st1,hs1,hss1⟩:=hone ι b a k cs w hs (hf.left hle2);obtain⟨ι2,w2,a2,st2,hs2,hss2⟩:=h4 ι1 b a1 k cs w1 hs1 (hf.right hss1.stp);exact⟨ι2,w2,a2,st1.trans st2,hs2,hss1.trans hss2⟩
  cases wb with
  |true=>
   rw[aJ]at h2;rcases Kt ok hcall (ops:=ops) (i:=i) h2 with⟨v,s1,h3,hle,h4⟩|⟨s1,hk,hle,h3⟩
   .refine .inl ⟨v,s1,h3,hle,λ ι b a k cs w hs hf=>?_⟩;obtain⟨ι1,w1,v1,st1,hv1,hs1,hss1⟩:=h4 ι b a k cs w (sR (i+1) (Z l)) hs hf (GZ h1 hs.tr) ho;exact⟨ι1,w1,a,_,v1,st1,hv1,hs1,hss1⟩
   .exact hgo hk ⟨hle,λ ι b a k cs w hs hf=>h3 ι b a k cs w _ hs hf (GZ h1 hs.tr) ho⟩
  |false=>
   rw[bJ]at h2;obtain⟨s1,hk,hm,hn,hro,hd,hput⟩:=De h2;refine hgo hk ⟨by rw[hm];exact aI _,λ ι b a k cs w hs hf=>?_⟩;obtain⟨ht',hd'⟩:=hput ι a undef hs.tr (.tuple .nil);have hstep:=stepR_op_skip (P:=tb.P) (b:=b) (a:=a) (k:=k) (cs:=cs) (w:=w) (ops:=ops) (i:=i) (rest:=sR (i+1) (Z l)) (by rw[ho];simp[GZ h1 hs.tr]);rw[ho,vQ]at hstep;exact⟨ι,w,a.put o.dst undef,.one hstep,⟨by rw[hm];exact hs.rel,ht',by rw[hro];exact hs.ro,by rw[hd,hd'];exact hs.dr⟩,⟨by rw[hm];exact bY.refl _ _ _,hn,hro⟩⟩
end
end Go.Am
end
