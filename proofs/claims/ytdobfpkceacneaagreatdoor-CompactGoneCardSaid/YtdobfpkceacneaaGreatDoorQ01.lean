/- The abstract machine, the walk of the law and its plain laws, made small by a program; part 1: no conditions but those in each theorem. -/
import Derived.Test.YtdobfpkceacneaaGreatDoorQ00
import Derived.AtR
import Derived.RangeFuncRecord
import Derived.RangeFuncNested
set_option maxHeartbeats 16000000
set_option maxRecDepth 100000
set_option linter.unusedSimpArgs false
set_option linter.unusedVariables false
set_option linter.defProp false
noncomputable section
open Array renaming ext'→m8,getElem?_append_left→D5,getElem?_eq_getElem→D6,getElem?_eq_some_iff→fU,getElem?_modify→G5,getElem?_setIfInBounds_ne→LP,getElem?_toList→fW,length_toList→xO,range→xP,replicate→tZ
open Bool renaming and_eq_true→dz,false_and→zB,false_eq_true→ed,not_false→xQ,not_true→sZ,or_eq_false_iff→Bs,true_and→t_,false→af,true→aa
open Go renaming Code→aH,IntKind→cY,Operand→bA,Program→cI,TypeId→aj,Value→O,World→aG
open Int renaming ofNat→cO,ofNat_eq_natCast→ig,toNat_natCast→D9
open List renaming all_eq_true→ov,getElem?_append_left→eG,getElem?_append_right→ez,getElem?_drop→rz,getElem?_eq_getElem→aV,getElem?_eq_none→lW,getElem?_map→da,getElem?_range→zN,getElem?_take_of_lt→Ho,length→Z,length_append→aU,length_cons→cd,length_drop→qx,length_eq_zero_iff→eQ,length_map→aR,length_nil→dL,length_take→db,mem_cons→cC,range→jE,range'→uf
open List.cons renaming injEq→ff
open Nat renaming add_comm→ye,add_mul→oZ,add_right_comm→yf,add_zero→dN,beq→aL,ble→au,blt→aM,blt_eq→bT,eq_of_beq_eq_true→dZ,eq_zero_or_pos→BH,le_of_ble_eq_true→fQ,le_refl→aJ,le_trans→dp,lt_or_ge→d_,min_eq_left→oA,min_eq_right→zY,min_le_left→Eh,mod_eq_of_lt→rH,mod_lt→iU,mul_le_mul→BI,mul_le_mul_right→BJ,mul_one→nf,not_lt_zero→BK,one_mul→ta,pow_succ→zZ,sub_zero→iV,succ→qA,succ_eq_add_one→El,zero_mul→oB
open Option renaming bind_some→wj,getD_some→td,isSome_none→yl,map_some→fZ,none→Y,some→U
open Option.some renaming inj→je,injEq→eM
open Prod.mk renaming injEq→bf
open Go.Result renaming andThen_ok→aQ
open Go.Sem renaming run_bind→aP,run_pure→aW
namespace Go.Am
section
variable {tb:aO}(ok:dP tb){ι:a8}{A:Mem}{w:aG}
variable {d:Nat}{x' y:O}
def NR{g:Nat->Option Ob}{t:aj}{ox oy:bA}{x y':O}{r:Bool}(h:jV tb g d t x y=.ok r)(hb:tv (tb.aB t)=af)(hm:wZ tb t ox oy x y=aa)
 (hx:VR ι x x')(hy:VR ι y y'):(∀op,(eqGuard op t ox oy x' y').run tb.P w=.ok () w)/\binOp .eql t x' y'=(do pure (.bool (<-Op.equal t x' y')))/\binOp .neq t x' y'=(do pure (.bool (!(<-Op.equal t x' y')))):=by
 have plain:∀{a b:O},(a=.nilIface->b=.nilIface->False)->(∀p q,a=.agg p->b=.agg q->False)->∀op,(eqGuard op t ox oy a b).run tb.P w=.ok () w:=by
  intro a b h1 h2 op;unfold eqGuard;cases op<;>first
   |rfl
   |(cases a<;>first
    |rfl
    |(cases b<;>first
     |rfl
     |exact(h1 rfl rfl).elim
     |exact(h2 _ _ rfl rfl).elim))
 have aggs:∀{a b:Array O},tb.P.eqGuardType tb.P.depth t=af->∀op,(eqGuard op t ox oy (.agg a) (.agg b)).run tb.P w=.ok () w:=by
  intro a b he op;unfold eqGuard;cases op<;>first
   |rfl
   |(simp only[sZ,ed,bO,aP,run_program,aQ,he,xQ,bR,aW])
 have nils:(C4 ox||C4 oy)=aa->∀op,(eqGuard op t ox oy .nilIface .nilIface).run tb.P w=.ok () w:=by
  intro he op;unfold eqGuard;cases op<;>first
   |rfl
   |(cases ox<;>cases oy<;>first|rfl|(simp[C4]at he))
 cases d with
 |zero=>cases h
 |succ d=>
  unfold jV at h;split at h
  .rename_i hd;rw[hd]at hb;cases hb
  .rename_i hd;rw[hd]at hb;cases hb
  .rename_i hd;rw[hd]at hb;cases hb
  .cases hx<;>cases hy<;>exact⟨plain (by simp) (by simp),rfl,rfl⟩
  .cases hx;cases hy;exact⟨nils hm,rfl,rfl⟩
  .cases hx;cases hy;exact⟨plain (by simp) (by simp),rfl,rfl⟩
  .cases hx;cases hy;exact⟨plain (by simp) (by simp),rfl,rfl⟩
  .cases hx;cases hy;exact⟨plain (by simp) (by simp),rfl,rfl⟩
  .cases hx;cases hy;exact⟨aggs (by simpa[wZ]using hm),rfl,rfl⟩
  .cases hx;cases hy;exact⟨aggs (by simpa[wZ]using hm),rfl,rfl⟩
  .cases hx;cases hy<;>exact⟨plain (by simp) (by simp),rfl,rfl⟩
  .cases hy;cases hx<;>exact⟨plain (by simp) (by simp),rfl,rfl⟩
  .cases hx;cases hy<;>exact⟨plain (by simp) (by simp),rfl,rfl⟩
  .cases hy;cases hx;exact⟨plain (by simp) (by simp),rfl,rfl⟩
  .cases hx;cases hy;exact⟨plain (by simp) (by simp),rfl,rfl⟩
  .cases hx;cases hy<;>exact⟨plain (by simp) (by simp),rfl,rfl⟩
  .cases hy;cases hx<;>exact⟨plain (by simp) (by simp),rfl,rfl⟩
  .cases h
include ok in
def Y4 (hr:Rel ι A w) {op:BinOp} {t:aj} {ox oy:bA} {x x' y y' v:O} (h:gP tb A.get op t ox oy x y=.ok v) (hb:tv (tb.aB t)=af) (hx:VR ι x x') (hy:VR ι y y'):
 ∃v',(do eqGuard op t ox oy x' y';binOp op t x' y':Sem O).run tb.P w=.ok v' w/\VR ι v v':=by
 unfold gP at h;cases hm:wZ tb t ox oy x y with
 |false=>rw[hm]at h;cases h
 |true=>
  rw[hm]at h;simp only[aI]at h;split at h
  .obtain⟨r,h1,h2⟩:=R.aF h;simp only[av]at h2;subst h2;obtain⟨hg,he,_⟩:=NR (w:=w) h1 hb hm hx hy;refine⟨.bool r,?_,.bool _⟩;have:=I7 ok hr 100 h1 hx hy 10000 (by omega);simp only[aP,hg,aQ,he,Op.equal,Op.maxDepth,this,aW]
  .obtain⟨r,h1,h2⟩:=R.aF h;simp only[av]at h2;subst h2;obtain⟨hg,_,he⟩:=NR (w:=w) h1 hb hm hx hy;refine⟨.bool (!r),?_,.bool _⟩;have:=I7 ok hr 100 h1 hx hy 10000 (by omega);simp only[aP,hg,aQ,he,Op.equal,Op.maxDepth,this,aW]
  .cases h
variable {b o:Nat}
def SZ{x:aj×Nat}(h:w.shape? b=U x)(P:cI):(Conv.seenAt ⟨b,o,Y⟩).run P w=.ok ⟨b,o,Y⟩ w:=by
 simp only[Conv.seenAt,viewAt,aP,run_shape,h,Option.isSome_some,bR,aW,aQ]
include ok in
def Ym (hr:Rel ι A w) {s d:aj} {x x' v:O} (h:gN tb A.get s d x=.ok v) (hx:VR ι x x'):∃v',(convert s d x').run tb.P w=.ok v' w/\VR ι v v':=by
 unfold gN at h;split at h
 .rename_i e hs hd;split at h
  .rename_i he;obtain⟨v',e1,r⟩:=qir hr h hx tb.P;refine⟨v',?_,r⟩;have hsl:∃a n c,x'=.slice a n c:=by
    unfold zt at h;split at h
    .cases hx;exact⟨_,_,_,rfl⟩
    .cases hx<;>exact⟨_,_,_,rfl⟩
    .cases h
   obtain⟨a,n,c,rfl⟩:=hsl;simp only[convert,aP,bK ok hs,bK ok hd,aQ,bK ok he];exact e1
  .cases h
 .rename_i ty a hs hd;cases hx with
  |ptr hl=>
   rename_i b o l;simp only at h;split at h
   .rename_i t n fz c _ hg;obtain⟨sz,h1,h2⟩:=R.aF h;cases hc:aM o n&&aM 0 sz with
    |false=>rw[hc]at h2;cases h2
    |true=>
     rw[hc]at h2;simp only[aI,av]at h2;subst h2;simp only[dz]at hc;have hlt:=jK hc.1;have hsz:=jK hc.2;obtain⟨o1,hw1,cs1,fr1,rfl,hcs,_,hsh,hn,rfl⟩:=hr.obs _ _ _ hg rfl hl;have sh:=KY hw1;refine⟨_,?_,.ptr hl⟩;have hno:¬cs1.size<=o+l.sh:=by omega
     have hsz':¬(sz=0):=by omega
     simp only[convert,aP,bK ok hs,bK ok hd,aQ,Conv.unsafePointer,SZ sh,cellsIn,run_shape,sh,aW,jB ok h1,ge_iff_le,hno,decide_false,zB,
      hsz',Bool.or_self,ed,bO]
   .cases h
 .rename_i ty a hs hd;cases hx with
  |ptr hl=>
   rename_i b o l;simp only at h;split at h
   .rename_i t n fz c _ hg;obtain⟨sz,h1,h2⟩:=R.aF h;cases hc:liesAt tb.P tb.P.depth t (n/tb.P.cellsOf t) o ty 1 with
    |false=>rw[hc]at h2;cases h2
    |true=>
     rw[hc]at h2;simp only[aI,av]at h2;subst h2;obtain⟨o1,hw1,cs1,fr1,rfl,hcs,_,hsh,hn,rfl⟩:=hr.obs _ _ _ hg rfl hl;have sh:=KY hw1;refine⟨_,?_,.ptr hl⟩;have hlies:liesAt tb.P tb.P.depth t (cs1.size/tb.P.cellsOf t) (o+l.sh) ty 1=aa:=by
      rw[hcs,hn,hsh];exact hc
     have hv:(variablesAt ⟨l.blk,o+l.sh,Y⟩ ty 1).run tb.P w=.ok aa w:=by
      simp only[variablesAt,aP,run_program,run_shape,sh,aQ,aW,hlies]
     simp only[convert,aP,bK ok hs,bK ok hd,aQ,Conv.unsafePointer,SZ sh,jB ok h1,hv,Bool.or_true,bR,aW]
   .cases h
 .cases h
variable {k:Nat}
def OW(hr:Rel ι A w){v:O}(h:FE A.get k=.ok v):VR ι v (.pointer (U ⟨k,0,Y⟩)):=by
 unfold FE at h;split at h
 .rename_i t fz c hg;cases hq:aL fz (GB k)with
  |false=>rw[hq]at h;cases h
  |true=>
   rw[hq,aI]at h;simp only[av]at h;subst h;obtain rfl:=dZ hq;obtain⟨l,hl,h1,h2,-⟩:=hr.gl _ _ _ _ hg;have:=VR.ptr (o:=0) hl;rw[h1,h2]at this;exact this
 .cases h
include ok in
def RC (hr:Rel ι A w) {n:Nat} {τ:T O} {a:Act} {o:Oper} {v:O} (h:eB tb τ A.get o.op=.ok v) (hc:cls tb o.op=.Rd) (ht:TR ι n τ a.tmps):
 ∃v',(execOp a.eval o).run tb.P w=.ok (.value v') w/\VR ι v v':=by
 have wrap:∀{s:Sem O},(∃v',s.run tb.P w=.ok v' w/\VR ι v v')->∃v',(do pure (Next.value (<-s)):Sem Next).run tb.P w=.ok (.value v') w/\VR ι v v':=by
  rintro s ⟨v',e,r⟩;exact⟨v',by simp only[aP,e,aQ,aW],r⟩
 unfold eB at h;split at h<;>rename_i hop<;>simp only[execOp,hop]
 .split at h
  .obtain⟨x,h1,h2⟩:=R.aF h;exact wrap (C_ ok hr h2 (OW hr h1))
  .obtain⟨x,h1,h2⟩:=R.aF h;exact wrap (C_ ok hr h2 (dg h1 ht))
 .split at h
  .obtain⟨x,h1,h2⟩:=R.aF h;obtain⟨i,h3,h4⟩:=R.aF h2;obtain⟨v',e,r⟩:=Pj ok h4 (OW hr h1) (dg h3 ht);exact wrap ⟨v',e w,r⟩
  .cases h
 .obtain⟨x,h1,h2⟩:=R.aF h;obtain⟨k,h3,h4⟩:=R.aF h2;exact wrap (qbL ok hr h4 (dg h1 ht) (dg h3 ht))
 .rename_i op ty x y yt;obtain⟨a',h1,h2⟩:=R.aF h;obtain⟨b',h3,h4⟩:=R.aF h2;have hb:tv (tb.aB ty)=af:=by
   rw[hop]at hc;simp only[cls]at hc;split at hc
   .cases hbb:tv (tb.aB ty)with
    |false=>rfl
    |true=>rw[hbb]at hc;cases hc
   .cases hbb:tv (tb.aB ty)with
    |false=>rfl
    |true=>rw[hbb]at hc;cases hc
   .cases hc
  exact wrap (Y4 ok hr h4 hb (dg h1 ht) (dg h3 ht))
 .obtain⟨x,h1,h2⟩:=R.aF h;exact wrap (Ym ok hr h2 (dg h1 ht))
 .rename_i c;split at h
  .rename_i hcal;obtain⟨args,h1,h2⟩:=R.aF h;have ha:=yV h1 ht;split at h2
   .rename_i x xs;obtain⟨es,h3,h4⟩:=R.aF h2;simp only[av]at h4;subst h4;obtain⟨x',t',e,hx,_⟩:=ha.cons_inv;obtain⟨es',he,hes⟩:=NP hr h3 hx;have hmap:∃ty k e,c.argTypes[0]?=U ty/\tb.aB ty=U (.map k e):=by
     rw[hop]at hc;simp only[cls,hcal]at hc;split at hc
     .rename_i t l hts;split at hc
      .rename_i k e hd;exact⟨t,k,e,by rw[<-fW,hts];rfl,hd⟩
      .cases hc
     .cases hc
    obtain⟨ty,mk,me,hty,hd⟩:=hmap;have hx0:(c.args.map a.eval)[0]?=U x':=by
     rw[<-fW,Array.toList_map,e];rfl
    refine⟨_,?_,.int .i64 (.ofNat (Z es))⟩;have hlen:es'.size=Z es:=by simpa using he.length
    simp only[resolve,hcal,aP,aW,aQ,invoke,builtin,Builtin.len_,hty,hx0,bK ok hd];rcases hes with⟨rfl,rfl⟩|⟨r,clock,rfl,hw⟩
    .simp only[aW,aQ,<-hlen];rfl
    .simp only[aP,lr hw (by simp),aQ,aW,hlen];rfl
   .cases h2
  .cases h
 .cases h
end
section
variable {tb:aO}(ok:dP tb){ι:a8}
def Made(P:cI)(ι:a8)(ob:Ob)(way:Way)(s:Sem O):Prop:=
 ∀w:aG,∃(w':aG) (v':O) (o':Obj) (sz:Nat),s.run P w=.ok v' w'/\Wu w w' w.heap.size o'/\w'.heap.size=w.heap.size+1/\
  ∀ι' b,gX ι ι'->ι' b=U ⟨w.heap.size,0,sz⟩->OR ι' ob ⟨w.heap.size,0,sz⟩ o'/\VR ι' (way.at b) v'
def rR(w:aG)(o:Obj)(d:Nat)(_:w.drawn<=d):Wu w {w with heap:=w.heap.push o,drawn:=d} w.heap.size o:=
 ⟨by simp,by simp,λ k hk _=>by simp[Array.getElem?_push,Nat.ne_of_lt hk],rfl,rfl,rfl⟩
variable {l:List O}{cs:Array O}{b:Nat}
def KE{ι:a8}{t:aj}(h:bn ι l cs.toList):OR ι (ae t l) ⟨b,0,Z l⟩ (.cells cs t):=by
 have hl:=h.length;refine⟨cs,(0,0),rfl,by simpa using hl,λ i v hv=>?_,rfl,rfl,rfl⟩;rw[T.oO]at hv;by_cases hi:0<=i/\i<0+Z l
 .rw[aC hi]at hv;obtain⟨v',e,r⟩:=h.get _ _ hv;exact⟨v',by rw[<-fW];simpa using e,r⟩
 .rw[aq hi,T.pC]at hv;cases hv
variable {v':O}
def Qj{P:cI}{ι:a8}{t:aj}{v:O}(h:VR ι v v'):Made P ι (ae t v.cells.toList) .ptr (do pure (.pointer (U (<-newVar t v')))):=by
 intro w;refine⟨{w with heap:=w.heap.push (.cells v'.cells t),drawn:=w.drawn},.pointer (U ⟨w.heap.size,0,Y⟩),.cells v'.cells t,Z v.cells.toList,?_,rR w _ _ (by simp),by simp,λ ι' b hi hb=>⟨KE (h.mono hi).cells,?_⟩⟩
 .simp only[newVar,newRow,aP,run_newObj,aQ,aW]
 .exact VR.ptr hb
theorem Ge(zero:List O):∀n,(iP zero n).length=n*Z zero
 |0=>by simp[iP]
 |n+1=>by simp[iP,Ge zero n,oZ];omega
theorem RJ(zero:List O)(hz:0<Z zero):∀(n i:Nat),i<n*Z zero->(iP zero n)[i]?=zero[i % Z zero]?
 |0,i,h=>by simp at h
 |n+1,i,h=>by
  rw[oZ,ta]at h;simp only[iP];rcases d_ i (Z zero)with h1|h1
  .rw[eG h1,rH h1]
  .rw[ez h1,RJ zero hz n _ (by omega),Nat.mod_eq_sub_mod h1]
def Gf{zero:List O}{zs:Array O}(h:bn ι zero zs.toList)(n:Nat):bn ι (iP zero n) ((xP (n*Z zero)).map (zs[· % zs.size]!)).toList:=by
 have hl:zs.size=Z zero:=by simpa using h.length
 refine bn.De (by simp[Ge]) λ i v v' hv hv'=>?_
 have hi:i<n*Z zero:=by
  rcases d_ i (n*Z zero)with h1|h1
  .exact h1
  .rw[lW (by rw[Ge];exact h1)]at hv;cases hv
 have hz:0<Z zero:=by
  rcases BH (Z zero)with h1|h1
  .rw[h1]at hi;simp at hi
  .exact h1
 rw[RJ zero hz n i hi]at hv;obtain⟨u,e,r⟩:=h.get _ _ hv;have hm:i % Z zero<zs.size:=by rw[hl];exact iU _ hz
 have:v'=u:=by
  simp only[Array.toList_map,Array.toList_range,da,zN hi,fZ,eM]at hv';rw[<-hv',hl,getElem!_pos zs _ hm];rw[fW,D6 hm]at e;simpa using e
 rw[this];exact r
include ok in
def DX {t:aj} {n:Nat} {z:List O} (h:eR tb t=.ok (n,z)):n=Z z/\(∀w:aG,(sizeOf t).run tb.P w=.ok n w)/\∃zv:O,(∀w:aG,(zeroValue t).run tb.P w=.ok zv w)/\zv.cells.toList=z/\∀ι,bn ι z zv.cells.toList:=by
 unfold eR at h;obtain⟨zv,h1,h2⟩:=R.aF h;obtain⟨m,h3,h4⟩:=R.aF h2;cases hb:aL (Z zv.cells.toList) m with
 |false=>rw[hb]at h4;cases h4
 |true=>
  rw[hb]at h4;simp only[aI,av,bf]at h4;obtain⟨rfl,rfl⟩:=h4;obtain⟨_,_,_,hz⟩:=Br h1;exact⟨(beq_true hb).symm,jB ok h3,zv,DZ ok h1,rfl,λ ι=>(hz ι).cells⟩
include ok in
def WR {t:aj} {len:Nat} {parts parts':List (Nat×O)} {ob:Ob} {way:Way} (h:eo tb t len parts=.ok (ob,way)) (hp:yJ ι parts parts'):
 Made tb.P ι ob way (Instr.buildSlice t len parts'.toArray):=by
 unfold eo at h;split at h
 .rename_i elem hd;obtain⟨⟨n,zero⟩,h1,h2⟩:=R.aF h;obtain⟨hn,hsz,zv,hzr,hzc,hzv⟩:=DX ok h1;subst hn;simp only at h2;cases hb:au (len*Z zero) 16777216 with
  |false=>rw[hb]at h2;cases h2
  |true=>
   rw[hb]at h2;simp only[aI]at h2;have hle:=jJ hb;split at h2
   .rename_i cells hf;simp only[av,bf]at h2;obtain⟨rfl,rfl⟩:=h2;intro w;have hrep:=Gf (ι:=ι) (hzv ι) len;obtain⟨r',e,hr⟩:=Fx (λ i x hx=>hx) hf hrep hp;refine⟨{w with heap:=w.heap.push (.cells r' elem),drawn:=w.drawn},.slice (U ⟨w.heap.size,0,Y⟩) len len,.cells r' elem,Z cells,?_,rR w _ _ (by simp),by simp,λ ι' b hi hbb=>⟨KE (hr.mono hi),?_⟩⟩
    .have hc0:∀f:Nat->O,len*Z zero=0->(xP (len*Z zero)).map f=(xP (len*Z zero)).map (zv.cells[· % zv.cells.size]!):=by
      intro f h0;rw[h0];simp
     simp only[Instr.buildSlice,aP,bK ok hd,hsz,aQ,aq (by omega:¬len*Z zero>2^24)];by_cases h0:len*Z zero=0
     .simp only[aC h0,aP,aW,aQ,hc0 _ h0,e,newRow,run_newObj]
     .simp only[aq h0,aP,hzr,aW,aQ];simp only[e,newRow,aP,run_newObj,aQ,aW]
    .have:=VR.sl (ι:=ι') (o:=0) (len:=len) (k:=2*len) hbb (wV _);rw[qb]at this;exact this
   .cases h2
 .cases h
include ok in
def qbU {t:aj} {l l' c c':O} {ob:Ob} {way:Way} (h:qY tb t l c=.ok (ob,way)) (hl:VR ι l l') (hc:VR ι c c'):Made tb.P ι ob way (Instr.makeSlice t l' c'):=by
 unfold qY at h;split at h
 .rename_i elem hd;obtain⟨ln,h1,h2⟩:=R.aF h;obtain⟨cn,h3,h4⟩:=R.aF h2;obtain⟨⟨n,zero⟩,h5,h6⟩:=R.aF h4;obtain⟨k1,rfl,rfl⟩:=AP h1 hl;obtain⟨k2,rfl,rfl⟩:=AP h3 hc;obtain⟨hn,hsz,zv,hzr,hzc,hzv⟩:=DX ok h5;subst hn;simp only at h6;split at h6
  .rename_i i hi;cases hb:(au ln cn&&au cn 1048576&&au i.bytes 1048576)with
   |false=>rw[hb]at h6;cases h6
   |true=>
    rw[hb]at h6;simp only[aI,av,bf]at h6;obtain⟨rfl,rfl⟩:=h6;simp only[dz]at hb;have b1:=jJ hb.1.1;have b2:=jJ hb.1.2;have b3:=jJ hb.2;intro w;have hrep:=Gf (ι:=ι) (hzv ι) cn;have w1:IntKind.i64.wrap (cO ln)=cO ln:=by
     refine xN ?_ ?_<;>simp only[IntKind.min,IntKind.max,IntKind.signed,IntKind.bits,bR,ig]<;>omega
    have w2:IntKind.i64.wrap (cO cn)=cO cn:=by
     refine xN ?_ ?_<;>simp only[IntKind.min,IntKind.max,IntKind.signed,IntKind.bits,bR,ig]<;>omega
    have hprod:=BI b3 b2;have t1:(decide (cO cn<0)||decide ((i.bytes:Int)*cO cn>2^48)||decide (cO ln<0)||decide (cO ln>cO cn))=af:=by
     have:(i.bytes:Int)*(cn:Int)=((i.bytes*cn:Nat):Int):=by push_cast;rfl
     simp only[ig,Bs,decide_eq_false_iff_not,this];omega
    have tn:∀k:Nat,(cO k).toNat=k:=λ _=>rfl
    refine⟨{w with heap:=w.heap.push (.cells ((xP (cn*Z zero)).map (zv.cells[· % zv.cells.size]!)) elem),drawn:=w.drawn},.slice (U ⟨w.heap.size,0,Y⟩) ln cn,_,(iP zero cn).length,?_,rR w _ _ (by simp),by simp,
     λ ι' b hi hbb=>⟨KE (hrep.mono hi),?_⟩⟩
    .have hc0:∀f:Nat->O,cn*Z zero=0->(xP (cn*Z zero)).map f=(xP (cn*Z zero)).map (zv.cells[· % zv.cells.size]!):=by
      intro f h0;rw[h0];simp
     simp only[Instr.makeSlice,aP,bK ok hd,aQ,asInt,asIntOf,aW,sK ok hi,w1,w2,t1,ed,bO,tn,run_askRoom,hsz];by_cases h0:cn*Z zero=0
     .simp only[aC h0,aP,aW,aQ,hc0 _ h0,newRow,run_newObj]
     .simp only[aq h0,aP,hzr,aW,aQ,newRow,run_newObj]
    .have:=VR.sl (ι:=ι') (o:=0) (len:=ln) (k:=2*cn) hbb (wV _);rw[qb]at this;exact this
  .cases h6
 .cases h
theorem Qd{α:Type}(f:α->α)(x:α):∀l:List α,(l++[x]).modify (Z l) f=l++[f x]
 | []=>rfl
 |y::l=>by
  show y::(l++[x]).modify (Z l) f=_;rw[Qd f x l];rfl
def WW(s:ByteArray)(extra:Nat):∀(i:Nat) (v:O),(s.data.toList.map gd)[i]?=U v->∃v',((s.data.map λ b=>Value.int .u8 b.toNat)++tZ extra (Value.int .u8 0))[i]?=U v'/\VR ι v v':=by
 intro i v h;rw[da]at h;cases hb:s.data.toList[i]? with
 |none=>rw[hb]at h;cases h
 |some b=>
  rw[hb]at h;simp only[fZ,eM]at h;subst h;have hi:i<s.data.size:=by
   rcases d_ i s.data.size with h1|h1
   .exact h1
   .rw[lW (by simpa using h1)]at hb;cases hb
  refine⟨.int .u8 (.ofNat b.toNat),?_,.int _ _⟩;rw[D5 (by simpa using hi),Array.getElem?_map];rw[fW]at hb;rw[hb];rfl
include ok in
def qin {s d:aj} {x x':O} {ob:Ob} {way:Way} (h:zq tb s d x=.ok (ob,way)) (hx:VR ι x x'):Made tb.P ι ob way (convert s d x'):=by
 unfold zq at h;split at h
 .rename_i e s hs hd;cases hx;split at h
  .rename_i he;cases hb:aM (Z s.data.toList) 4294967296 with
   |false=>rw[hb]at h;cases h
   |true=>
    rw[hb]at h;simp only[aI,av,bf]at h;obtain⟨rfl,rfl⟩:=h;have hlt:=jK hb;intro w;have hs':=size_data s;let cap:=(Question.appendCap s.size 0 e).cut (w.tape w.drawn (.appendCap s.size 0 e));have hcap:s.size<=cap/\cap<2^63:=by
     show s.size<=s.size+_ % (2^63-s.size)/\s.size+_ % (2^63-s.size)<2^63;have:w.tape w.drawn (.appendCap s.size 0 e) % (2^63-s.size)<2^63-s.size:=iU _ (by omega);omega
    let cs:=(s.data.map λ b=>Value.int .u8 b.toNat)++tZ (cap-s.size) (Value.int .u8 0);have hcs:cs.size=cap:=by
     simp only[cs,Array.size_append,Array.size_map,Array.size_replicate];have:s.data.size=s.size:=rfl;omega
    refine⟨{w with heap:=w.heap.push (.cells cs e (cap,cap+1)),drawn:=w.drawn+1},.slice (U ⟨w.heap.size,0,Y⟩) s.size cap,.cells cs e (cap,cap+1),cap,?_,rR w _ _ (by simp),by simp,λ ι' b hi hbb=>⟨⟨cs,(cap,cap+1),rfl,hcs,λ i v hv=>?_,λ i hi=>by simp only at hi⊢;omega⟩,?_⟩⟩
    .have hfr:(freeze ⟨w.heap.size,cs.size,Y⟩ 1).run tb.P {w with heap:=w.heap.push (.cells cs e),drawn:=w.drawn+1}=.ok () {w with heap:=w.heap.push (.cells cs e (cap,cap+1)),drawn:=w.drawn+1}:=by
      rw[run_freeze];simp only[World.freeze,Nat.one_ne_zero,bO,hcs];congr 2;apply m8;rw[Array.toList_modify,Array.toList_push,Array.toList_push];have:=Qd (λ o=>match o with
       |.cells c elem (lo,hi)=>Obj.cells c elem (if lo==hi then(cap,cap+1)else(min lo cap,max hi (cap+1)))
       |o=>o) (Obj.cells cs e) w.heap.toList
      exact this
     have hsh:({w with heap:=w.heap.push (Obj.cells cs e),drawn:=w.drawn+1}:aG).shape? w.heap.size=U (e,cs.size):=by
      simp[World.shape?]
     simp only[convert,aP,bK ok hs,bK ok hd,bK ok he,aQ,Conv.stringToBytes,run_choose,Question.forced,ed,bO,newRow,run_newObj,aW];have hm:(markStringish ⟨w.heap.size,0,Y⟩).run tb.P {w with heap:=w.heap.push (.cells cs e),drawn:=w.drawn+1}=.ok () {w with heap:=w.heap.push (.cells cs e (cap,cap+1)),drawn:=w.drawn+1}:=by
      simp only[markStringish,aP,run_shape,hsh,aQ];exact hfr
     refine(cV (λ r=>Result.andThen r _) hm).trans ?_;rfl
    .rw[T.oO]at hv;by_cases hi:0<=i/\i<0+(s.data.toList.map gd).length
     .rw[aC hi]at hv;obtain⟨v',e1,r⟩:=WW (ι:=ι') s (cap-s.size) _ _ hv;exact⟨v',by simpa using e1,r⟩
     .rw[aq hi,T.pC]at hv;cases hv
    .have he1:(1:Nat)<65536:=by omega
     have:=VR.slX (ι:=ι') (o':=0) (len:=Z s.data.toList) (k:=cu (Z s.data.toList) 1) hbb (iK _ _) (by rw[gB he1];omega) (by rw[lj he1];simp)
      (λ _=>rfl) hcap.2 (by rw[gB he1];omega)
     rw[<-hs']at this;rw[hs']at this⊢;exact this
  .cases h
 .cases h
include ok in
def qbS {t:aj} {r r':Option O} {ob:Ob} {way:Way} (h:tP tb t r=.ok (ob,way)) (hr:rQ ι r r'):Made tb.P ι ob way (Instr.makeMap t r'):=by
 have fin:∀w:aG,∃(w':aG) (v':O) (o':Obj) (sz:Nat),(do pure (Value.map (U (<-newObj (.map #[] 0)))):Sem O).run tb.P w=.ok v' w'/\Wu w w' w.heap.size o'/\w'.heap.size=w.heap.size+1/\
  ∀ι' b,gX ι ι'->ι' b=U ⟨w.heap.size,0,sz⟩->OR ι' (.map [] 0) ⟨w.heap.size,0,sz⟩ o'/\VR ι' (Way.mp.at b) v':=by
  intro w;refine⟨{w with heap:=w.heap.push (.map #[] 0),drawn:=w.drawn},.map (U w.heap.size),.map #[] 0,0,?_,rR w _ _ (by simp),by simp,λ ι' b hi hb=>⟨⟨rfl, #[],rfl,.nil⟩,VR.map hb⟩⟩
  simp only[aP,run_newObj,aQ,aW]
 unfold tP at h;cases hr with
 |none=>
  simp only[av,bf]at h;obtain⟨rfl,rfl⟩:=h;exact fin
 |some hv=>
  simp only at h;split at h
  .rename_i k e kd n hd;simp only[av,bf]at h;obtain⟨rfl,rfl⟩:=h;cases hv;intro w;obtain⟨w',v',o',sz,h1,h2⟩:=fin w;refine⟨w',v',o',sz,?_,h2⟩;simp only[Instr.makeMap,aP,bK ok hd,aQ,asInt,asIntOf,aW];simpa only[aP,aW]using h1
  .cases h
include ok in
def U9 {n:Nat} {τ:T O} {a:Act} {o:Oper} {ob:Ob} {way:Way} (h:l_ tb τ o.op=.ok (ob,way)) (ht:TR ι n τ a.tmps):
 ∃s,Made tb.P ι ob way s/\execOp a.eval o=(do pure (Next.value (<-s))):=by
 unfold l_ at h;split at h<;>rename_i hop<;>simp only[execOp,hop]
 .rename_i e;obtain⟨z,hz,h1⟩:=R.aF h;simp only[av,bf]at h1;obtain⟨rfl,rfl⟩:=h1;obtain⟨_,_,_,hzv⟩:=Br hz;refine⟨_,?_,rfl⟩;intro w;obtain⟨w',v',o',sz,h1,h2⟩:=Qj (hzv ι) w;refine⟨w',v',o',sz,?_,h2⟩;simp only[Instr.alloc,aP,DZ ok hz,aQ];simpa only[aP]using h1
 .obtain⟨x,h1,h2⟩:=R.aF h;simp only[av,bf]at h2;obtain⟨rfl,rfl⟩:=h2;exact⟨_,Qj (dg h1 ht),rfl⟩
 .rename_i ty len ps;obtain⟨vs,h1,h2⟩:=R.aF h;have:=WR ok h2 (Ja h1 ht);refine⟨_,this,?_⟩;have e:(ps.toList.map λ(i,x)=>(i,a.eval x)).toArray=ps.map λ(i,x)=>(i,a.eval x):=by
   apply m8;simp
  rw[e]
 .obtain⟨r,h1,h2⟩:=R.aF h;exact⟨_,qbS ok h2 (Fb h1 ht),rfl⟩
 .obtain⟨l,h1,h2⟩:=R.aF h;obtain⟨c,h3,h4⟩:=R.aF h2;exact⟨_,qbU ok h4 (dg h1 ht) (dg h3 ht),rfl⟩
 .obtain⟨x,h1,h2⟩:=R.aF h;exact⟨_,qin ok h2 (dg h1 ht),rfl⟩
 .cases h
variable {k:Nat}
def R.Ke{α:Type}{b:Bool}{x:R α}{r:α}(h:(bif b then x else .no k)=.ok r):x=.ok r:=by
 cases b with
 |false=>cases h
 |true=>exact h
variable {ob:Ob}
def HO{τ:T O}{o:Op}{way:Way}(h:l_ tb τ o=.ok (ob,way)):∀t k c,ob≠.cells t .row (GB k) c:=by
 intro t k c he;subst he;unfold l_ at h;split at h
 .obtain⟨_,_,h2⟩:=R.aF h;simp only[av,bf,ae]at h2;cases h2.1
 .obtain⟨_,_,h2⟩:=R.aF h;simp only[av,bf,ae]at h2;cases h2.1
 .obtain⟨_,_,h2⟩:=R.aF h;unfold eo at h2;split at h2
  .obtain⟨⟨_,_⟩,_,h3⟩:=R.aF h2;have h3:=R.Ke h3;split at h3
   .simp only[av,bf,ae]at h3;cases h3.1
   .cases h3
  .cases h2
 .obtain⟨_,_,h2⟩:=R.aF h;unfold tP at h2;split at h2
  .simp only[av,bf]at h2;cases h2.1
  .split at h2
   .simp only[av,bf]at h2;cases h2.1
   .cases h2
 .obtain⟨_,_,h2⟩:=R.aF h;obtain⟨_,_,h3⟩:=R.aF h2;unfold qY at h3;split at h3
  .obtain⟨_,_,h4⟩:=R.aF h3;obtain⟨_,_,h5⟩:=R.aF h4;obtain⟨⟨_,_⟩,_,h6⟩:=R.aF h5;simp only at h6;split at h6
   .have h6:=R.Ke h6;simp only[av,bf,ae]at h6;cases h6.1
   .cases h6
  .cases h3
 .obtain⟨_,_,h2⟩:=R.aF h;unfold zq at h2;split at h2
  .split at h2
   .have h2:=R.Ke h2;simp only[av,bf]at h2;cases h2.1
   .cases h2
  .cases h2
 .cases h
include ok in
def Mc {A:Mem} {w:aG} (hr:Rel ι A w) {n:Nat} {τ:T O} {a:Act} {o:Oper} {ob:Ob} {way:Way} (h:l_ tb τ o.op=.ok (ob,way)) (ht:TR ι n τ a.tmps) (hf:ι A.next=Y):
 ∃ι' w' v',(execOp a.eval o).run tb.P w=.ok (.value v') w'/\VR ι' (way.at A.next) v'/\Rel ι' (A.alloc ob) w'/\bZ ι A w ι' (A.alloc ob) w':=by
 obtain⟨s,hm,he⟩:=U9 ok h ht;obtain⟨w',v',o',sz,h1,h2,h3,h4⟩:=hm w;obtain⟨ι',e,hrel,hst⟩:=Rel.tM hr hf (HO h) h2 h3 (λ ι' hi hb=>(h4 ι' A.next hi hb).1);have hle:gX ι ι':=hst.le λ b h1 h2=>by
  rw[aA]at h2;have:b=A.next:=by omega
  rw[this];exact hf
 refine⟨ι',w',v',?_,(h4 ι' A.next hle e).2,hrel,hst⟩;rw[he];simp only[aP,h1,aQ,aW]
end
section
variable {tb:aO}(ok:dP tb){ι:a8}
def qcP(v:O):v.oneCell'=bI v:=by cases v<;>rfl
variable {b o:Nat}{cs:Array O}
def qg9{w:aG}{v:O}{t:aj}{fr:Nat×Nat}(h:w.heap[b]?=U (.cells cs t fr)):
 Wu w (w.setCell ⟨b,o,Y⟩ v) b (.cells (cs.setIfInBounds o v) t fr)/\(w.setCell ⟨b,o,Y⟩ v).heap.size=w.heap.size:=by
 refine⟨⟨?_,?_,λ k hk hne=>?_,rfl,rfl,rfl⟩,?_⟩
 .simp[World.setCell]
 .simp[World.setCell,G5,h]
 .simp[World.setCell,G5,Ne.symm hne]
 .simp[World.setCell]
variable {c:Nat}
def Wu.trans{w w1 w2:aG}{o1 o2:Obj}(h:Wu w w1 c o1)(hs:w1.heap.size=w.heap.size)(k:Wu w1 w2 c o2):Wu w w2 c o2:=
 ⟨dp h.size k.size,k.at_,λ x hx hne=>(k.ne x (by omega) hne).trans (h.ne x hx hne),k.os.trans h.os,k.tape.trans h.tape,k.output.trans h.output⟩
theorem Lg(P:cI){t:aj}{fr:Nat×Nat}:∀(vs:List O) (w:aG) (o i:Nat) (cs:Array O),w.heap[b]?=U (.cells cs t fr)->
 (∀v∈vs,bI v=aa)->(∀j,j<Z vs->o+i+j<cs.size/\¬(fr.1<=o+i+j/\o+i+j<fr.2))->
 ∃w' cs',(storeCells ⟨b,o,Y⟩ vs i).run P w=.ok () w'/\Wu w w' b (.cells cs' t fr)/\w'.heap.size=w.heap.size/\cs'.size=cs.size/\
  ∀j,cs'[j]?=if o+i<=j/\j<o+i+Z vs then vs[j-(o+i)]? else cs[j]?
 | [],w,o,i,cs,h,_,_=>by
  refine⟨w,cs,rfl,⟨aJ _,h,λ _ _ _=>rfl,rfl,rfl,rfl⟩,rfl,rfl,λ j=>?_⟩;rw[aq];simp only[dL];omega
 |v::vs,w,o,i,cs,h,h1,hf=>by
  have hv:v.oneCell'=aa:=by rw[qcP];exact h1 v (by simp)
  obtain⟨hb,hnf⟩:=hf 0 (by simp);obtain⟨hw,hsz⟩:=qg9 h;have hcell:w.cell? ⟨b,o+i,Y⟩=U cs[o+i]:=by
   simp only[World.cell?,h,yl,ed,bO];exact D6 (by omega)
  have hfz:w.frozen? ⟨b,o+i,Y⟩=af:=by
   simp only[World.frozen?,h];cases hq:(decide (fr.1<=o+i)&&decide (o+i<fr.2))with
   |false=>rfl
   |true=>simp only[dz,decide_eq_true_eq]at hq;exact aZ hq hnf
  have hst:(store ⟨b,o+i,Y⟩ v).run P w=.ok () (w.setCell ⟨b,o+i,Y⟩ v):=by
   rw[run_store P w _ v .plain hv,hcell];simp[hfz]
  obtain⟨w',cs',r1,r2,r3,r4,r5⟩:=Lg P vs (w.setCell ⟨b,o+i,Y⟩ v) o (i+1) (cs.setIfInBounds (o+i) v) hw.at_ (λ x hx=>h1 x (by simp[hx]))
   (λ j hj=>by
    have:=hf (j+1) (by simpa using hj);simp only[Array.size_setIfInBounds];rw[show o+(i+1)+j=o+i+(j+1) by omega];exact this)
  refine⟨w',cs',?_,hw.trans hsz r2,by omega,by simpa using r4,λ j=>?_⟩
  .simp only[storeCells,aP,om,hst,aQ];exact r1
  .rw[r5 j];simp only[cd];by_cases hj:o+(i+1)<=j/\j<o+(i+1)+Z vs
   .rw[aC hj,aC (by omega)];rw[show j-(o+i)=(j-(o+(i+1)))+1 by omega];simp
   .rw[aq hj];by_cases hj2:j=o+i
    .subst hj2;rw[aC (by omega)];have hb':o+i<cs.size:=hb;simp[hb']
    .rw[aq (by omega),LP (Ne.symm hj2)]
variable {m:Nat}
theorem TD{fz:Nat}:∀{vs:List O} {i:Nat} {c c':T O},nW m fz vs i c=.ok c'->
 (∀v∈vs,bI v=aa)/\(vs≠ []->fz<=i)/\(∀j,j<Z vs->(∃x,c.get (i+j)=U x)\/i+j<m)/\∀j,c'.get j=if i<=j/\j<i+Z vs then vs[j-i]? else c.get j
 | [],i,c,c',h=>by
  simp only[nW,av]at h;subst h;refine⟨by simp,by simp,by simp,λ j=>?_⟩;rw[aq];simp only[dL];omega
 |v::vs,i,c,c',h=>by
  unfold nW at h;cases hb:(bI v&&au fz i)with
  |false=>rw[hb]at h;cases h
  |true=>
   rw[hb]at h;simp only[aI]at h;simp only[dz]at hb;have key:((∃x,c.get i=U x)\/i<m)/\nW m fz vs (qA i) (c.set i v)=.ok c':=by
    split at h
    .rename_i x hx;exact⟨.inl ⟨x,hx⟩,h⟩
    .cases hm:aM i m with
     |false=>rw[hm]at h;cases h
     |true=>rw[hm]at h;rw[bT]at hm;exact⟨.inr hm,h⟩
   clear h;obtain⟨hx,h⟩:=key
   .obtain⟨h1,h2,h3,h4⟩:=TD h;refine⟨?_,λ _=>jJ hb.2,λ j hj=>?_,λ j=>?_⟩
    .intro u hu;rcases cC.1 hu with rfl|hu
     .exact hb.1
     .exact h1 u hu
    .cases j with
     |zero=>exact hx
     |succ j=>
      rw[show i+(j+1)=qA i+j by simp only[El];omega];rcases h3 j (by simpa using hj)with⟨y,hy⟩|hy
      case inr=>exact .inr hy
      rw[T.cq]at hy;by_cases he:qA i+j=i
      .simp only[El]at he;omega
      .rw[aq he]at hy;exact .inl ⟨y,hy⟩
    .rw[h4 j];simp only[El,cd];by_cases hj:i+1<=j/\j<i+1+Z vs
     .rw[aC hj,aC (by omega),show j-i=(j-(i+1))+1 by omega];simp
     .rw[aq hj,T.cq];by_cases hj2:j=i
      .subst hj2;rw[aC rfl,aC (by omega)];simp
      .rw[aq hj2,aq (by omega)]
def bn.HP:∀{l l':List O},bn ι l l'->(∀v∈l,bI v=aa)->∀v∈l',bI v=aa
 |_,_,.nil,_,v,hv=>by cases hv
 |_,_,.cons h ht,h1,v,hv=>by
  rcases cC.1 hv with rfl|hv
  .exact h.one (h1 _ (by simp))
  .exact ht.HP (λ x hx=>h1 x (by simp[hx])) v hv
variable {i:Nat}
def Up{x : Kd}{fz : Nat}{l : Loc}{fr : Nat × Nat}(h : match x with
      | .var n => l.sh = 0 /\ l.sz = n /\ fr = (0, 0)
      | .row => fr.2 <= l.sh + fz
      | .mark => ∀ i, i < l.sz -> ¬ (fr.1 <= i /\ i < fr.2)
      | .room n => fr.2 <= l.sh + fz /\ l.sh + n <= l.sz)(hi : fz <= i)(hz : i + l.sh < l.sz) : ¬ (fr.1 <= i + l.sh /\ i + l.sh < fr.2) := by
  cases x with
  | var n => obtain ⟨_, _, rfl⟩ := h; simp
  | row => simp only at h; omega
  | mark => exact h _ hz
  | room n => simp only at h; omega
variable {A A':Mem}{vs:List O}
def A7{w:aG}(hr:Rel ι A w){l:Loc}(hl:ι b=U l){vs':List O}(h:kQ A ⟨b,o,Y⟩ vs=.ok A')(hv:bn ι vs vs')(P:cI):
 ∃w',(storeCells ⟨l.blk,o+l.sh,Y⟩ vs').run P w=.ok () w'/\Rel ι A' w'/\bZ ι A w ι A' w':=by
 unfold kQ at h;split at h
 .simp only[av]at h;subst h;cases hv;exact⟨w,rfl,hr,bZ.refl ι A w⟩
 .rename_i hne;split at h
  .rename_i t x fz c _ hg;obtain⟨c',h1,h2⟩:=R.aF h;simp only[av]at h2;subst h2;simp only at h1 hg;obtain⟨o1,hw,cs,fr,rfl,hcs,hcell,hfr⟩:=hr.obs _ _ _ hg rfl hl;obtain⟨g1,g2,g3,g4⟩:=TD h1;have hlen:=hv.length;have hin:∀j,j<Z vs->o+j+l.sh<cs.size:=by
    intro j hj;rcases g3 j hj with⟨y,hy⟩|hy
    case inr=>
     cases x with
     |room n=>
      simp only at hfr;have hy:o+j<n:=hy;omega
     |_=>exact aZ hy (BK _)
    obtain⟨y',e,_⟩:=hcell _ _ hy;rcases d_ (o+j+l.sh) cs.size with h|h
    .exact h
    .rw[Array.getElem?_eq_none h]at e;cases e
   obtain⟨w',cs',r1,r2,r3,r4,r5⟩:=Lg P vs' w (o+l.sh) 0 cs hw (hv.HP g1) (λ j hj=>by
    have hb:=hin j (by omega);rw[show o+l.sh+0+j=o+j+l.sh by omega];exact⟨hb,Up hfr (by have:=g2 hne;omega) (by omega)⟩)
   refine⟨w',r1,?_⟩;refine hr.sU hg rfl hl (hgl:=λ _ _ _ h=>by cases h;exact⟨_,_,rfl⟩) (hns:=re hg λ t2 fz2 c2 e=>by cases e;exact .inr (by have h1:=g2 hne;have h2:=hin 0 (by cases vs with|nil=>exact aZ rfl hne|cons _ _=>simp);omega)) r2 r3 ⟨cs',fr,rfl,by omega,λ i v hi=>?_,hfr⟩;rw[g4 i]at hi;rw[r5];by_cases hii:o<=i/\i<o+Z vs
   .rw[aC hii]at hi;obtain⟨v',e,r⟩:=hv.get _ _ hi;refine⟨v',?_,r⟩;rw[aC (by omega),show i+l.sh-(o+l.sh+0)=i-o by omega];exact e
   .rw[aq hii]at hi;obtain⟨v',e,r⟩:=hcell _ _ hi;refine⟨v',?_,r⟩;rw[aq (by omega)];exact e
  .cases h
include ok in
def qh1 {A A':Mem} {w:aG} (hr:Rel ι A w) {t:aj} {x x' v v':O} (h:bX tb A t x v=.ok A') (hx:VR ι x x') (hv:VR ι v v'):
 ∃w',(Instr.storeAt t x' v').run tb.P w=.ok () w'/\Rel ι A' w'/\bZ ι A w ι A' w':=by
 unfold bX at h;split at h
 .cases hx with
  |ptr hl=>
   obtain⟨n,h1,h2⟩:=R.aF h;cases hb:aL (Z v.cells.toList) n with
   |false=>rw[hb]at h2;cases h2
   |true=>
    rw[hb]at h2;simp only[aI]at h2;have hn:=beq_true hb;obtain⟨w',e,r⟩:=A7 hr hl h2 hv.cells tb.P;refine⟨w',?_,r⟩;have hlen:=hv.cells.length;have hsz:¬(v'.cells.size≠n):=by simp only[xO]at hlen hn;omega
    simp only[Instr.storeAt,Instr.sureAddr,storeVar,aP,aW,aQ,jB ok h1,aq hsz];exact e
 .cases h
end
section
variable {tb:aO}(ok:dP tb){ι:a8}
variable {A:Mem}{w':aG}{b:Nat}{ob:Ob}{o':Obj}
def Rel.move{w:aG}{o:Ob}{l l2:Loc}(h:Rel ι A w)(hg:A.get b=U o)(ha:alive o=aa)(hl:ι b=U l)(hns:¬Still A b l)(hf:ι A.next=Y)(hgl:∀t k c,ob≠.cells t .row (GB k) c)
 (hw:Wu w w' l.blk o')(hs:w'.heap.size=w.heap.size)(h2:l2.blk=l.blk)(ho:∀ι',gX ι ι'->OR ι' ob l2 o'):
 ∃ι',ι' A.next=U l2/\Rel ι' ((A.set b .dead).alloc ob) w'/\bZ ι A w ι' ((A.set b .dead).alloc ob) w':=by
 let ι':a8:=λ x=>if x=A.next then U l2 else ι x
 have hin:ι' A.next=U l2:=aC rfl
 have hne:∀x,x≠A.next->ι' x=ι x:=λ x hx=>aq hx
 have hle:gX ι ι':=λ x lx hx=>by
  by_cases e:x=A.next
  .rw[e,hf]at hx;cases hx
  .rw[hne x e];exact hx
 have hbn:b≠A.next:=λ e=>by rw[e,hf]at hl;cases hl
 have hnx:(A.set b .dead).next=A.next:=rfl
 have hget:∀x,((A.set b .dead).alloc ob).get x=if x=A.next then U ob else if x=b then U .dead else A.get x:=by
  intro x;rw[mo,cr];rfl
 have hlive:∀x,x≠A.next->live ((A.set b .dead).alloc ob) x->live A x/\x≠b:=by
  rintro x hx ⟨ox,hox,hal⟩;rw[hget,aq hx]at hox;by_cases e:x=b
  .rw[aC e]at hox;cases hox;cases hal
  .rw[aq e]at hox;exact⟨⟨ox,hox,hal⟩,e⟩
 have hother:∀x lx,live A x->x≠b->ι x=U lx->lx.blk≠l.blk:=λ x lx hx hxb hlx he=>hxb (h.inj x b lx l hx ⟨o,hg,ha⟩ hlx hl he)
 refine⟨ι',hin,⟨λ x hx=>?_,λ x ox lx hx hal hlx=>?_,λ x lx hlx=>?_,λ x y lx ly hx hy hlx hly he=>?_,λ x t k c hx=>by
  rw[hget]at hx;by_cases e:x=A.next
  .rw[aC e]at hx;exact aZ (je hx) (hgl t k c)
  .rw[aq e]at hx;by_cases eb:x=b
   .rw[aC eb]at hx;cases hx
   .rw[aq eb]at hx;rw[hne x e];exact h.gl x _ _ _ hx⟩,
  ⟨?_,λ x hx=>hne x ?_,λ x lx hx hlx=>?_,λ c hc hn=>hw.ne c hc ?_,by omega,hw.os,hw.tape,hw.output,λ x lx hlx hsx=>by
   have hxb:x≠b:=by
    rintro rfl;rw[hl]at hlx;cases hlx;exact hns hsx
   obtain⟨hxn,t,fz,c,hx2,_⟩:=hsx;exact⟨by rw[hget,aq (by omega),aq hxb],hw.ne _ (h.rng x lx hlx) (hother x lx ⟨_,hx2,rfl⟩ hxb hlx)⟩⟩⟩
 .rw[aA,hnx]at hx;rw[hget,aq (by omega),aq]
  .exact h.wf x (by omega)
  .intro e;rw[<-e,h.wf x (by omega)]at hg;cases hg
 .rw[hget]at hx;by_cases e:x=A.next
  .subst e;rw[aC rfl]at hx;cases hx;rw[hin]at hlx;cases hlx;exact⟨o',by rw[h2];exact hw.at_,ho ι' hle⟩
  .rw[aq e]at hx;by_cases eb:x=b
   .rw[aC eb]at hx;cases hx;cases hal
   .rw[aq eb]at hx;rw[hne x e]at hlx;obtain⟨o2,h3,h4⟩:=h.obs x ox lx hx hal hlx;exact⟨o2,by rw[hw.ne _ (h.rng x lx hlx) (hother x lx ⟨ox,hx,hal⟩ eb hlx)];exact h3,h4.mono hle⟩
 .rw[hs];by_cases e:x=A.next
  .subst e;rw[hin]at hlx;cases hlx;rw[h2];exact h.rng b l hl
  .rw[hne x e]at hlx;exact h.rng x lx hlx
 .by_cases ex:x=A.next
  .by_cases ey:y=A.next
   .omega
   .subst ex;rw[hin]at hlx;cases hlx;rw[hne y ey]at hly;obtain⟨h3,h4⟩:=hlive y ey hy;exact aZ (by omega) (hother y ly h3 h4 hly)
  .by_cases ey:y=A.next
   .subst ey;rw[hin]at hly;cases hly;rw[hne x ex]at hlx;obtain⟨h3,h4⟩:=hlive x ex hx;exact aZ (by omega) (hother x lx h3 h4 hlx)
   .rw[hne x ex]at hlx;rw[hne y ey]at hly;exact h.inj x y lx ly (hlive x ex hx).1 (hlive y ey hy).1 hlx hly he
 .rw[aA,hnx];omega
 .rw[aA,hnx]at hx;omega
 .by_cases e:x=A.next
  .subst e;rw[hin]at hlx;cases hlx;exact .inr ⟨b,l,⟨o,hg,ha⟩,hl,h2.symm⟩
  .rw[hne x e]at hlx;exact .inr ⟨x,lx,(hlive x e hx).1,hlx,rfl⟩
 .rintro rfl;exact hn b l ⟨o,hg,ha⟩ hl rfl
variable {x':O}{n:Nat}
def FV{x:O}(h:fu x=.ok n)(hx:VR ι x x')(P:cI)(w:aG):(Builtin.lenOf x').run P w=.ok n w:=by
 unfold fu at h;split at h
 .simp only[av]at h;subst h;cases hx<;>rfl
 .simp only[av]at h;subst h;cases hx;simp only[Builtin.lenOf,aW,size_data]
 .cases h
variable {size m:Nat}{vs:List O}
def Oz{w:aG}(hr:Rel ι A w){x:O}(h:ib A.get size n x=.ok vs)(hx:VR ι x x')(hm:fu x=.ok m)(hn:n<=m):
 ∃vs',bn ι vs vs'/\∀P (w2:aG),w2.heap=w.heap->(Builtin.firstCells size n x').run P w2=.ok vs'.toArray w2:=by
 unfold ib at h;split at h
 .rename_i a len cap;simp only[fu,av]at hm;subst hm;obtain⟨a',cap',vs',e,r,run,hnone,_⟩:=I4 hr h hx hn;subst e;refine⟨vs',r,λ P w2 hw2=>?_⟩;cases a' with
  |none=>
   obtain⟨rfl,_⟩:=hnone rfl;rfl
  |some b=>exact run b rfl P w2 hw2
 .rename_i s;cases hb:aL size 1 with
  |false=>rw[hb]at h;cases h
  |true=>
  rw[hb]at h;simp only[aI,av]at h;subst h;cases hx;refine⟨((s.extract 0 n).data.map λ b=>Value.int .u8 b.toNat).toList,?_,λ P w2 _=>?_⟩
  .have e:((s.extract 0 n).data.map λ b=>Value.int .u8 b.toNat).toList=(s.data.toList.take n).map gd:=by
    rw[extract_eq];simp;rfl
   rw[e];have:∀l:List UInt8,bn ι (l.map gd) (l.map gd):=by
    intro l
    induction l with
    |nil=>exact .nil
    |cons b l ih=>exact .cons (.int _ _) ih
   exact this _
  .simp only[Builtin.firstCells,aW]
 .cases h
def Oy{x:O}(h:ib A.get size n x=.ok vs)(hx:∃x',VR ι x x')(hm:fu x=.ok m)(hn:n<=m):Z vs=n*size:=by
 obtain⟨x',hx⟩:=hx;unfold ib at h;split at h
 .rename_i a len cap;simp only[fu,av]at hm;subst hm;unfold gO at h;split at h
  .simp only[av]at h;subst h;cases hx;have:n=0:=by omega
   subst this;simp
  .rename_i a0;cases hb:aL (n*size) 0 with
   |true=>
    rw[hb]at h;simp only[aI,av]at h;subst h;rw[beq_true hb];rfl
   |false=>
    rw[hb]at h;simp only[ba]at h;split at h
    .split at h
     .rename_i hg;simp only[av]at h;subst h;exact(T.CX _ _ _ _ hg).1
     .cases h
    .cases h
 .rename_i s;simp only[fu,av]at hm;subst hm;cases hb:aL size 1 with
  |false=>rw[hb]at h;cases h
  |true=>
   rw[hb]at h;simp only[aI,av]at h;subst h;rw[beq_true hb];simp only[aR,db,nf];omega
 .cases h
variable {A':Mem}{o cap:Nat}
def TC{w:aG}(hr:Rel ι A w){len off:Nat}{vs':List O}(hx:VR ι (.slice (U ⟨b,o,Y⟩) len cap) x')(h:kQ A ⟨b,o+off,Y⟩ vs=.ok A')(hv:bn ι vs vs')
 (h0:vs≠ []->0<bH cap):∃a' cap',x'=.slice (U a') len cap'/\a'.spot=Y/\∀P,∃w',(storeCells (a'.add off) vs').run P w=.ok () w'/\Rel ι A' w'/\bZ ι A w ι A' w':=by
 cases hx with
 |sl hl hk=>
  rename_i l;refine⟨_,_,rfl,rfl,λ P=>?_⟩;obtain⟨w',e,r⟩:=A7 hr hl h hv P;rw[om,show o+l.sh+off=o+off+l.sh by omega];exact⟨w',e,r⟩
 |slX hl hk hc hsz ho hb hlen=>
  rename_i o' cap' l;refine⟨_,_,rfl,rfl,λ P=>?_⟩;cases hvs:vs with
  |nil=>
   subst hvs;cases hv;simp only[kQ,av]at h;subst h;exact⟨w,rfl,hr,bZ.refl ι A w⟩
  |cons v vs0=>
   have:=h0 (by rw[hvs];simp);have ho':=ho (by omega);obtain⟨w',e,r⟩:=A7 hr hl h hv P;rw[om,ho',show o+l.sh+off=o+off+l.sh by omega];exact⟨w',e,r⟩
def VR.Gw{a:Addr}{len:Nat}(h:VR ι (.slice (U a) len cap) x'):a=⟨a.block,a.off,Y⟩:=by
 cases h<;>rfl
include ok in
def Yo {A A':Mem} {w:aG} (hr:Rel ι A w) {dt rt:aj} {ts:Array aj} {d d' s s' v:O} {args:Array O} (h:yR tb A dt d s=.ok (v,A')) (hd:VR ι d d') (hs:VR ι s s')
 (ht:ts[0]?=U dt) (h0:args[0]?=U d') (h1:args[1]?=U s'):
 ∃w' v',(Builtin.copy_ ts rt args).run tb.P w=.ok v' w'/\VR ι v v'/\Rel ι A' w'/\bZ ι A w ι A' w':=by
 unfold yR at h;split at h
 .rename_i elem base dl cap hdt;obtain⟨size,e1,h2⟩:=R.aF h;obtain⟨sl,e2,h3⟩:=R.aF h2;simp only at h3;obtain⟨l,e3,h4⟩:=R.aF h3;have hmin:(bif au sl dl then sl else dl)=Nat.min sl dl:=by
   cases hb:au sl dl with
   |true=>have:=jJ hb;simp only[aI];exact(oA this).symm
   |false=>have:=HX hb;simp only[ba];exact(zY (by omega)).symm
  rw[hmin]at e3 h4;obtain⟨vs',r,run⟩:=Oz hr e3 hs e2 (Eh ..);have hl0:l≠ []->0<dl:=by
   intro hne;rcases BH dl with h0|h0
   .exfalso;have:=Oy e3 ⟨_,hs⟩ e2 (Eh ..);rw[h0,show Nat.min sl 0=0 from Nat.min_zero sl,oB]at this;exact hne (eQ.1 this)
   .exact h0
  split at h4
  .simp only[av,bf]at h4;obtain⟨rfl,rfl⟩:=h4;cases hd;refine⟨w,_,?_,.int _ _,hr,bZ.refl ι A w⟩;simp only[Builtin.copy_,ht,h0,h1,aP,bK ok hdt,aQ,FV e2 hs,jB ok e1,run _ _ rfl,aW];rfl
  .rename_i a;obtain⟨A2,e4,h5⟩:=R.aF h4;simp only[av,bf]at h5;obtain⟨rfl,rfl⟩:=h5;have ha:=hd.Gw;rw[ha]at hd e4;have core:∃a' cap',d'=.slice (U a') dl cap'/\∃w',(storeCells a' vs').run tb.P w=.ok () w'/\Rel ι A2 w'/\bZ ι A w ι A2 w':=by
    cases hx:hd with
    |sl hl hk=>
     obtain⟨w',e,r⟩:=A7 hr hl e4 r tb.P;exact⟨_,_,rfl,w',e,r⟩
    |slX hl hk hc hsz ho hb hlen=>
     obtain⟨a',cap',he,hsp,hrun⟩:=TC (off:=0) hr (.slX hl hk hc hsz ho hb hlen) e4 r (λ hne=>by have:=hl0 hne;omega);cases he;obtain⟨w',e,r⟩:=hrun tb.P;exact⟨_,_,rfl,w',e,r⟩
   obtain⟨a',cap',rfl,w',e,hrel,hst⟩:=core;refine⟨w',_,?_,.int _ _,hrel,hst⟩;simp only[Builtin.copy_,ht,h0,h1,aP,bK ok hdt,aQ,FV e2 hs,jB ok e1,run _ _ rfl,e,aW];rfl
 .cases h
end
section
variable {tb:aO}(ok:dP tb){ι:a8}
theorem OY(n:Nat):∀r c,Builtin.growBy n r c<=2^r*(c+768)
 |0,c=>by simp[Builtin.growBy]
 |r+1,c=>by
  unfold Builtin.growBy;have hp:0<2^r:=Nat.pow_pos (by omega);split
  .calc c<=1*(c+768):=by omega
    _<=2^(r+1)*(c+768):=BJ _ (Nat.pow_pos (by omega))
  .refine dp (OY n r _) ?_;rw[zZ,Nat.mul_assoc];exact Nat.mul_le_mul_left _ (by omega)
variable {cap:Nat}
def Qk{need:Nat}(h:cap<need)(hn:need<=16777216):Builtin.nextslicecap need cap<=2^29:=by
 unfold Builtin.nextslicecap;split
 .omega
 .split
  .omega
  .refine dp (OY need 4 cap) ?_;omega
variable {base:Option Addr}{n size:Nat}{x':O}
def Z5(P:cI){ts:Array aj}{rt st xt elem:aj}{args:Array O}{len:Nat}{zv:O}{i:TypeInfo}{xd:TypeDesc}{old new:List O}{w:aG}
 (ht0:ts[0]?=U st)(ht1:ts[1]?=U xt)(ha0:args[0]?=U (.slice base len cap))(ha1:args[1]?=U x')
 (hst:∀w:aG,(underlying st).run P w=.ok (.slice elem) w)(hxt:∀w:aG,(underlying xt).run P w=.ok xd w)(hxd:∀k,xd≠.int k)
 (hsz:∀w:aG,(sizeOf elem).run P w=.ok size w)(hi:∀w:aG,(typeInfo elem).run P w=.ok i w)(hz:∀w:aG,(zeroValue elem).run P w=.ok zv w)
 (hlen:∀w:aG,(Builtin.lenOf x').run P w=.ok n w)(hnew:∀d,(Builtin.firstCells size n x').run P {w with drawn:=d}=.ok new.toArray {w with drawn:=d})
 (hold:∀d,(Builtin.firstCells size len (.slice base len cap)).run P {w with drawn:=d}=.ok old.toArray {w with drawn:=d})
 (hneed:¬(len+n<=cap))(hmax:len+n<=16777216)(hb:i.bytes<=65536):
 ∃c,len+n<=c/\c<2^63/\(Builtin.append_ ts rt args).run P w=
  .ok (.slice (U ⟨w.heap.size,0,Y⟩) (len+n) c) {w with heap:=w.heap.push (.cells (old.toArray++new.toArray++Builtin.zeroCells zv.cells (c-(len+n))) elem),drawn:=w.drawn+1}:=by
 let c:=(Question.appendCap (len+n) cap elem).cut (w.tape w.drawn (.appendCap (len+n) cap elem));have hc:len+n<=c/\c<2^63:=by
  show len+n<=len+n+_ % (2^63-(len+n))/\len+n+_ % (2^63-(len+n))<2^63;have:w.tape w.drawn (.appendCap (len+n) cap elem) % (2^63-(len+n))<2^63-(len+n):=iU _ (by omega);omega
 refine⟨c,hc.1,hc.2,?_⟩;have hbig:¬(((len+n:Nat):Int)>IntKind.i64.max/\(False\/i.bytes=0)):=by
  simp only[IntKind.max,IntKind.signed,IntKind.bits,bR];omega
 have hn1:=Qk (by omega:cap<len+n) hmax;have hcap:¬(Builtin.nextslicecap (len+n) cap*i.bytes>2^48):=by
  have:=BI hn1 hb;omega
 have h0:=hnew (w.drawn+1);have h1:=hold (w.drawn+1);unfold Builtin.append_;simp only[ht0,ht1,ha0,ha1,aP,hst,hxt,hsz,hlen,hi,aQ,aW,ed,bO,aq hneed,aq hbig,aq hcap,run_choose,Question.forced,run_askRoom,h1,h0,hz,xQ,bR,newRow,run_newObj];rfl
variable {w':aG}
def qdR(P:cI){ts:Array aj}{rt st xt elem:aj}{args:Array O}{len:Nat}{xd:TypeDesc}{new:List O}{w:aG}
 (ht0:ts[0]?=U st)(ht1:ts[1]?=U xt)(ha0:args[0]?=U (.slice base len cap))(ha1:args[1]?=U x')
 (hst:∀w:aG,(underlying st).run P w=.ok (.slice elem) w)(hxt:∀w:aG,(underlying xt).run P w=.ok xd w)(hxd:∀k,xd≠.int k)
 (hsz:∀w:aG,(sizeOf elem).run P w=.ok size w)(hlen:∀w:aG,(Builtin.lenOf x').run P w=.ok n w)(hnew:(Builtin.firstCells size n x').run P w=.ok new.toArray w)
 (hneed:len+n<=cap)(hs:∀a,base=U a->(storeCells (a.add (len*size)) new).run P w=.ok () w')(hn:base=Y->w'=w):
 (Builtin.append_ ts rt args).run P w=.ok (.slice base (len+n) cap) w':=by
 unfold Builtin.append_;simp only[ht0,ht1,ha0,ha1,aP,hst,hxt,hsz,hlen,aQ,aW,ed,bO,aC hneed,xQ,bR,hnew];cases base with
 |none=>rw[hn rfl];rfl
 |some a=>simp only[aP,hs a rfl,aQ,aW]
def Kz(z:Array O)(n:Nat):(Builtin.zeroCells z n).size=n*z.size:=by simp[Builtin.zeroCells]
variable {cs:Array O}{d:Nat}
def RV{old old' new new':List O}(ho:bn ι old old')(hn:bn ι new new')
 (h1:∀j,j<Z old->cs[j+d]?=old'[j]?)(h2:∀j,j<Z new->cs[Z old+j+d]?=new'[j]?):
 ∀i v,(T.bP .e 0 (old++new)).get i=U v->∃v',cs[i+d]?=U v'/\VR ι v v':=by
 intro i v hv;rw[T.oO]at hv;by_cases hi:0<=i/\i<0+(old++new).length
 .rw[aC hi]at hv;simp only[iV]at hv;rcases d_ i (Z old)with h|h
  .rw[eG h]at hv;obtain⟨v',e,r⟩:=ho.get _ _ hv;exact⟨v',by rw[h1 i h];exact e,r⟩
  .rw[ez h]at hv;obtain⟨v',e,r⟩:=hn.get _ _ hv;have hlt:i-Z old<Z new:=by
    have:=hi.2;simp only[aU]at this;omega
   refine⟨v',?_,r⟩;have:=h2 (i-Z old) hlt;rw[show Z old+(i-Z old)+d=i+d by omega]at this;rw[this];exact e
 .rw[aq hi,T.pC]at hv;cases hv
variable {A:Mem}{b:Nat}
def Rel.kill{w:aG}{o:Ob}(h:Rel ι A w)(hg:A.get b=U o)(hns:∀l,¬Still A b l):Rel ι (A.set b .dead) w/\bZ ι A w ι (A.set b .dead) w:=by
 have hlive:∀x,live (A.set b .dead) x->live A x:=by
  rintro x ⟨ox,hx,hal⟩;rw[cr]at hx;by_cases e:x=b
  .rw[aC e]at hx;cases hx;cases hal
  .rw[aq e]at hx;exact⟨ox,hx,hal⟩
 refine⟨⟨λ x hx=>?_,λ x ox lx hx hal hlx=>?_,h.rng,λ x y lx ly hx hy=>h.inj x y lx ly (hlive x hx) (hlive y hy),λ x t k c hx=>by
  rw[cr]at hx;by_cases e:x=b
  .rw[aC e]at hx;cases hx
  .rw[aq e]at hx;exact h.gl x _ _ _ hx⟩,
  ⟨aJ _,λ _ _=>rfl,λ x lx hx hlx=>.inr ⟨x,lx,hlive x hx,hlx,rfl⟩,λ _ _ _=>rfl,aJ _,rfl,rfl,rfl,λ x lx _ hsx=>⟨by rw[cr,aq (by rintro rfl;exact hns lx hsx)],rfl⟩⟩⟩
 .rw[cE]at hx;rw[cr,aq]
  .exact h.wf x hx
  .rintro rfl;rw[h.wf x hx]at hg;cases hg
 .rw[cr]at hx;by_cases e:x=b
  .rw[aC e]at hx;cases hx;cases hal
  .rw[aq e]at hx;exact h.obs x ox lx hx hal hlx
variable {A':Mem}
def Mn{w : aG}(hr : Rel ι A w){rt elem : aj}{ts : Array aj}{len : Nat}{new new' : List O}{s' v zv : O}{args : Array O}
    (h4 : gx tb A elem base len cap size n new = .ok (v, A'))(hs : VR ι (.slice base len cap) s')(hz0 : zv.cells.size = size)(rnew : bn ι new new')(hnl : Z new = n * size)(hfree : ew ι A A')
    (hroomR : ∀ (base' : Option Addr) (cap' : Nat) (w' : aG), s' = .slice base' len cap' -> len + n <= cap' -> (∀ a, base' = U a -> (storeCells (a.add (len * size)) new').run tb.P w = .ok () w') -> (base' = Y -> w' = w) ->
      (Builtin.append_ ts rt args).run tb.P w = .ok (.slice base' (len + n) cap') w')
    (hgrowR : ∀ (base' : Option Addr) (cap' : Nat) (old' : List O) (i : TypeInfo), s' = .slice base' len cap' -> tb.ty.get elem = U i ->
      (∀ d, (Builtin.firstCells size len (.slice base' len cap')).run tb.P { w with drawn := d } = .ok old'.toArray { w with drawn := d }) -> ¬ (len + n <= cap') -> len + n <= 16777216 -> i.bytes <= 65536 ->
      ∃ c, len + n <= c /\ c < 2 ^ 63 /\ (Builtin.append_ ts rt args).run tb.P w =
        .ok (.slice (U ⟨w.heap.size, 0, Y⟩) (len + n) c) { w with heap := w.heap.push (.cells (old'.toArray ++ new'.toArray ++ Builtin.zeroCells zv.cells (c - (len + n))) elem), drawn := w.drawn + 1 }) :
    ∃ ι' w' v', (Builtin.append_ ts rt args).run tb.P w = .ok v' w' /\ VR ι' v v' /\ Rel ι' A' w' /\ bZ ι A w ι' A' w' := by
  unfold gx at h4
  cases hroom : au (len + n) (bH cap) with
  | true =>
    rw [hroom] at h4; simp only [aI] at h4
    have hle := jJ hroom
    split at h4
    . simp only [av, bf] at h4
      obtain ⟨rfl, rfl⟩ := h4
      cases hs
      have hn0 : n = 0 := by have : bH 0 = 0 := rfl; omega
      subst hn0
      refine ⟨ι, w, .slice Y 0 0, ?_, .slN, hr, bZ.refl ι A w⟩
      exact hroomR Y 0 w rfl (aJ _) (λ a ha => by cases ha) (λ _ => rfl)
    . rename_i a
      split at h4
      . cases h4
      . rename_i hsp
        obtain ⟨A2, e4, h5⟩ := R.aF h4
        simp only [av, bf] at h5
        obtain ⟨rfl, rfl⟩ := h5
        have ha := hs.Gw
        rw [ha] at hs e4
        have hnewlen : new ≠ [] -> 0 < n := by
          intro hne
          rcases BH n with h0 | h0
          . exfalso
            have := hnl
            rw [h0, oB] at this
            exact hne (eQ.1 this)
          . exact h0
        obtain ⟨a', cap', rfl, hsp', hst2⟩ := TC hr hs e4 rnew (λ hne => by have := hnewlen hne; omega)
        obtain ⟨w', run, hrel, hstp⟩ := hst2 tb.P
        have hcap' : bH cap <= cap' := by cases hs with
          | sl hl hk => exact aJ _
          | slX hl hk hc _ _ _ _ => exact hc
        refine ⟨ι, w', .slice (U a') (len + n) cap', ?_, ?_, hrel, hstp⟩
        . exact hroomR (U a') cap' w' rfl (by omega) (λ a ha => by cases ha; exact run) (λ ha => by cases ha)
        . rw [ha]
          cases hs with
          | sl hl hk => exact .sl hl hk
          | slX hl hk hc hsz2 ho hb hlen => exact .slX hl hk hc hsz2 ho hb hle
  | false =>
    rw [hroom] at h4; simp only [ba] at h4
    have hgt := HX hroom
    split at h4
    . cases h4
    . rename_i i hi
      cases hb : (au (len + n) 16777216 && au i.bytes 65536 && aM 0 i.bytes && aM 0 size && aM size 65536) with
      | false => rw [hb] at h4; cases h4
      | true =>
        rw [hb] at h4; simp only [aI] at h4
        simp only [dz] at hb
        have b1 := jJ hb.1.1.1.1
        have b2 := jJ hb.1.1.1.2
        have b4 := jK hb.1.2
        have b5 := jK hb.2
        obtain ⟨old, e4, h5⟩ := R.aF h4
        clear h4
        obtain ⟨base', cap', old', hs', rold, runold, hnone, hlold⟩ := I4 hr e4 hs (aJ _)
        subst hs'
        have hfo : ∀ d, (Builtin.firstCells size len (.slice base' len cap')).run tb.P { w with drawn := d } = .ok old'.toArray { w with drawn := d } := by
          intro d
          cases base' with
          | none => obtain ⟨rfl, _⟩ := hnone rfl; rfl
          | some b => exact runold b rfl tb.P _ rfl
        have hol : Z old = len * size := by
          rcases hlold with h | h
          . exact h
          . subst h
            cases hs
            simp only [gO, av] at e4; subst e4; simp
        have hol' : Z old' = len * size := by rw [rold.length, hol]
        have hnl' : Z new' = n * size := by rw [rnew.length, hnl]
        have grow : ¬ (len + n <= cap') -> ∀ (A : Mem), Rel ι A w -> ∀ (fz : Nat) (xk : Kd), (∀ n, xk ≠ .var n) -> (∀ n, xk ≠ .room n) -> (∀ k, fz ≠ GB k) -> ι A.next = Y -> ∃ ι' w' v', (Builtin.append_ ts rt args).run tb.P w = .ok v' w' /\ VR ι' (.slice (U ⟨A.next, 0, Y⟩) (len + n) (cu (len + n) size)) v' /\
            Rel ι' (A.alloc (.cells elem xk fz (T.bP .e 0 (old ++ new)))) w' /\ bZ ι A w ι' (A.alloc (.cells elem xk fz (T.bP .e 0 (old ++ new)))) w' := by
          intro hno A hr fz xk hxk hxr hfzg hfn
          obtain ⟨c, c1, c2, run⟩ := hgrowR base' cap' old' i rfl hi hfo hno b1 b2
          have hcs : (old'.toArray ++ new'.toArray ++ Builtin.zeroCells zv.cells (c - (len + n))).size = c * size := by
            simp only [Array.size_append, List.size_toArray, Kz, hz0, hol', hnl', <- oZ]
            congr 1; omega
          have hOR : ∀ ι', gX ι ι' -> OR ι' (.cells elem xk fz (T.bP .e 0 (old ++ new))) ⟨w.heap.size, 0, c * size⟩ (.cells (old'.toArray ++ new'.toArray ++ Builtin.zeroCells zv.cells (c - (len + n))) elem) := by
            intro ι' hi
            refine ⟨_, (0, 0), rfl, hcs, λ i v hv => ?_, ?_⟩
            . refine RV (rold.mono hi) (rnew.mono hi) (λ j hj => ?_) (λ j hj => ?_) i v hv
              . simp only [dN]
                rw [D5 (by simp; omega), D5 (by simp; omega)]; simp
              . simp only [dN]
                rw [D5 (by simp; omega), Array.getElem?_append_right (by simp; omega)]; simp [hol, hol']
            . cases xk with
              | var n => exact aZ rfl (hxk n)
              | row => simp
              | mark => intro i _; simp
              | room n => exact aZ rfl (hxr n)
          obtain ⟨ι', e, hrel, hstp⟩ := Rel.tM (w' := { w with heap := w.heap.push (.cells (old'.toArray ++ new'.toArray ++ Builtin.zeroCells zv.cells (c - (len + n))) elem), drawn := w.drawn + 1 })
            hr hfn (λ t k c' h => by
                            have h2 := cV (λ o : Ob => match o with | .cells _ _ fz _ => fz | _ => 0) h
                            exact hfzg _ h2) (rR w _ _ (by simp)) (by simp) (λ ι' hi hb => hOR ι' hi)
          refine ⟨ι', _, _, run, ?_, hrel, hstp⟩
          have hE := b5
          exact VR.slX e (iK _ _) (by rw [gB hE]; exact c1) (by rw [lj hE]; simp) (λ _ => rfl) c2 (by rw [gB hE]; exact aJ _)
        cases hcx : dH cap with
        | true =>
          rw [hcx] at h5; simp only [aI, av, bf] at h5
          obtain ⟨rfl, rfl⟩ := h5
          have hfn := hfree A.next (aJ _) (by rw [aA]; omega)
          refine grow ?_ A hr 0 .row (λ n h => by cases h) (λ n h => by cases h) (λ k h => by unfold GB at h; omega) hfn
          cases hs with
          | slN => have : bH 0 = 0 := rfl; omega
          | sl hl hk => exact hgt
          | slX hl hk _ _ _ _ _ => rw [hk] at hcx; cases hcx
        | false =>
          rw [hcx] at h5; simp only [ba] at h5
          split at h5
          . rename_i a
            cases hc1 : (aL (gM cap) size && new.all bI) with
            | false => rw [hc1] at h5; cases h5
            | true =>
              rw [hc1] at h5; simp only [aI] at h5
              simp only [dz] at hc1
              have hE := beq_true hc1.1
              split at h5
              . rename_i t xk fz c hsp hg
                cases hc2 : (au fz (a.off + len * size) && (aL t elem && aM fz 9223372036854775808)) with
                | false => rw [hc2] at h5; cases h5
                | true =>
                  rw [hc2] at h5; simp only [aI] at h5
                  simp only [dz] at hc2
                  have hfz := jJ hc2.1
                  have hfzb : fz < 9223372036854775808 := by simpa [bT] using hc2.2.2
                  obtain rfl := beq_true hc2.2.1
                  have hns : ∀ l, ¬ Still A a.block l := λ l => re hg λ t2 fz2 c2 e => by cases e; exact .inl (by simpa [bT] using hc2.2.2)
                  split at h5
                  . cases h5
                  . cases h5
                  . rename_i hnv hnr
                    simp only [av, bf] at h5
                    obtain ⟨rfl, rfl⟩ := h5
                    have hnA : ((A.set a.block .dead).alloc (.cells t xk (fz - a.off) (T.bP .e 0 (old ++ new)))).next = A.next + 1 := rfl
                    have hfn := hfree A.next (aJ _) (by rw [hnA]; omega)
                    have ha := hs.Gw
                    generalize a.block = b at ha hg hns
                    generalize a.off = o at ha hg hfz
                    have hfzg : ∀ k, fz - o ≠ GB k := λ k h => by unfold GB at h; omega
                    subst ha
                    cases hs with
                    | sl hl hk => rw [hk] at hcx; cases hcx
                    | slX hl hk hc hsz2 ho hb63 hlen =>
                      rename_i o' l
                      obtain ⟨ob0, hw0, cs, fr, rfl, hcs0, hcell0, hfr0⟩ := hr.obs _ _ _ hg rfl hl
                      by_cases hno : len + n <= cap'
                      ·
                        have ho' := ho (by omega)
                        subst ho'
                        have hbound : o + l.sh + (len + n) * size <= l.sz := by
                          have : (len + n) * size <= cap' * gM cap := by rw [hE]; exact BJ _ hno
                          omega
                        have hsplit : (len + n) * size = len * size + n * size := oZ ..
                        obtain ⟨w', cs', r1, r2, r3, r4, r5⟩ := Lg tb.P new' w (o + l.sh + len * size) 0 cs hw0 (rnew.HP (ov.1 hc1.2)) (λ j hj => by
                          rw [hnl'] at hj
                          rw [show o + l.sh + len * size + 0 + j = (o + len * size + j) + l.sh by omega]
                          exact ⟨by omega, Up hfr0 (by omega) (by omega)⟩)
                        have hgets : ∀ j v, old[j]? = U v -> c.get (o + j) = U v := by
                          intro j v hv
                          unfold gO at e4
                          simp only at e4
                          cases hz : aL (len * size) 0 with
                          | true =>
                            rw [hz] at e4; simp only [aI, av] at e4; subst e4; simp at hv
                          | false =>
                            rw [hz] at e4; simp only [ba, hg] at e4
                            split at e4
                            . rename_i q hq
                              simp only [av] at e4; subst e4
                              obtain ⟨q1, q2⟩ := T.CX _ _ _ _ hq
                              have hj : j < len * size := by
                                rcases d_ j (len * size) with h | h
                                . exact h
                                . rw [lW (by omega)] at hv; cases hv
                              rw [q2 j hj]; exact hv
                            . cases e4
                        have rold2 : bn ι old ((cs.toList.drop (o + l.sh)).take (len * size)) := by
                          refine bn.De ?_ λ j v v' hv hv' => ?_
                          . simp only [db, qx, xO]; omega
                          . obtain ⟨u, e, r⟩ := hcell0 _ _ (hgets j v hv)
                            have hj : j < len * size := by
                              rcases d_ j (len * size) with h | h
                              . exact h
                              . rw [lW (by omega)] at hv; cases hv
                            rw [Ho hj, rz, fW, show o + l.sh + j = o + j + l.sh by omega, e] at hv'
                            cases hv'; exact r
                        obtain ⟨ι', e, hrel, hstp⟩ := Rel.move (l2 := ⟨l.blk, o + l.sh, l.sz⟩) (ob := .cells t xk (fz - o) (T.bP .e 0 (old ++ new))) hr hg rfl hl (hns _) hfn (λ t k c' h => by
                            have h2 := cV (λ o : Ob => match o with | .cells _ _ fz _ => fz | _ => 0) h
                            exact hfzg _ h2) r2 r3 rfl (λ ι' hi => by
                          refine ⟨cs', fr, rfl, by simp only; omega, λ i v hv => ?_, ?_⟩
                          . refine RV (d := o + l.sh) (rold2.mono hi) (rnew.mono hi) (λ j hj => ?_) (λ j hj => ?_) i v hv
                            . rw [r5, aq (by omega), Ho (by omega), rz, fW, ye j]
                            . rw [r5, aC (by omega), show Z old + j + (o + l.sh) - (o + l.sh + len * size + 0) = j by omega]
                          . cases xk with
                            | var n => exact aZ rfl (hnv n)
                            | row => simp only at hfr0 ⊢; omega
                            | mark => exact hfr0
                            | room n => exact aZ rfl (hnr n))
                        refine ⟨ι', w', .slice (U ⟨l.blk, o + l.sh, Y⟩) (len + n) cap', ?_, ?_, hrel, hstp⟩
                        . refine hroomR (U ⟨l.blk, o + l.sh, Y⟩) cap' w' rfl hno (λ a ha => ?_) (λ ha => by cases ha)
                          cases ha
                          rw [om]; exact r1
                        . have hE2 := b5
                          have := VR.slX (ι := ι') (o := 0) (len := len + n) (k := cu (len + n) size) (cap' := cap') e (iK _ _) (by rw [gB hE2]; exact hno) (by rw [lj hE2]; rw [hE] at hsz2; exact hsz2) (λ _ => by simp) hb63 (by rw [gB hE2]; exact aJ _)
                          exact this
                      ·
                        obtain ⟨hr2, hst2⟩ := hr.kill hg hns
                        obtain ⟨ι', w', v', run, rv, hrel, hstp⟩ := grow hno (A.set b .dead) hr2 (fz - o) xk hnv hnr hfzg hfn
                        exact ⟨ι', w', v', run, rv, hrel, hst2.trans hstp⟩
              . cases h5
          . cases h5
variable {k':cY}
def Z4(P:cI){ts:Array aj}{rt st xt elem:aj}{args:Array O}{len:Nat}{k:cY}{zv:O}{i:TypeInfo}{old:List O}{w:aG}
 (ht0:ts[0]?=U st)(ht1:ts[1]?=U xt)(ha0:args[0]?=U (.slice base len cap))(ha1:args[1]?=U (.int k' (n:Int)))
 (hst:∀w:aG,(underlying st).run P w=.ok (.slice elem) w)(hxt:∀w:aG,(underlying xt).run P w=.ok (.int k) w)
 (hsz:∀w:aG,(sizeOf elem).run P w=.ok size w)(hi:∀w:aG,(typeInfo elem).run P w=.ok i w)(hz:∀w:aG,(zeroValue elem).run P w=.ok zv w)(hzs:zv.cells.size=size)
 (hold:∀d,(Builtin.firstCells size len (.slice base len cap)).run P {w with drawn:=d}=.ok old.toArray {w with drawn:=d})
 (hneed:¬(len+n<=cap))(hmax:len+n<=16777216)(hb:i.bytes<=65536):
 ∃c,len+n<=c/\c<2^63/\(Builtin.append_ ts rt args).run P w=
  .ok (.slice (U ⟨w.heap.size,0,Y⟩) (len+n) c) {w with heap:=w.heap.push (.cells (old.toArray++Builtin.zeroCells zv.cells n++Builtin.zeroCells zv.cells (c-(len+n))) elem),drawn:=w.drawn+1}:=by
 let c:=(Question.appendCap (len+n) cap elem).cut (w.tape w.drawn (.appendCap (len+n) cap elem));have hc:len+n<=c/\c<2^63:=by
  show len+n<=len+n+_ % (2^63-(len+n))/\len+n+_ % (2^63-(len+n))<2^63;have:w.tape w.drawn (.appendCap (len+n) cap elem) % (2^63-(len+n))<2^63-(len+n):=iU _ (by omega);omega
 refine⟨c,hc.1,hc.2,?_⟩;have hw:IntKind.i64.wrap (n:Int)=n:=by
  have h1:(n:Int) % 2^64=n:=by omega
  have h2:¬((n:Int)>=2^(64-1)):=by omega
  simp only[IntKind.wrap,IntKind.bits,IntKind.signed,h1,t_,decide_eq_true_eq,aq h2]
 have has:∀u:aG,(asInt (.int k' (n:Int))).run P u=.ok (n:Int) u:=λ _=>rfl
 have hbig:¬(((len+n:Nat):Int)>IntKind.i64.max/\(True\/i.bytes=0)):=by
  simp only[IntKind.max,IntKind.signed,IntKind.bits,bR];omega
 have hn1:=Qk (by omega:cap<len+n) hmax;have hcap:¬(Builtin.nextslicecap (len+n) cap*i.bytes>2^48):=by
  have:=BI hn1 hb;omega
 have hneg:¬((n:Int)<0):=by omega
 have hby:¬((n:Int)*(i.bytes:Int)>2^48):=by
  have:n*i.bytes<=16777216*65536:=BI (by omega) hb;have e:((n*i.bytes:Nat):Int)=(n:Int)*(i.bytes:Int):=by simp
  omega
 have h1:=hold (w.drawn+1);have hzz:n*size=0->Builtin.zeroCells zv.cells n= #[]:=by
  intro h;apply Array.eq_empty_of_size_eq_zero;rw[Kz,hzs];exact h
 unfold Builtin.append_;simp only[ht0,ht1,ha0,ha1,aP,hst,hxt,hsz,hi,has,hw,aQ,aW,bR,aq hneg,aq hby,D9,aq hneed,aq hbig,aq hcap,run_choose,Question.forced,run_askRoom,h1,hz,sZ,ed,bO,newRow,run_newObj];by_cases h0:n*size=0
 .simp only[aC h0,aW,aQ,hzz h0];rfl
 .simp only[aq h0,aP,hz,aW,aQ];rfl
def qdQ(P:cI){ts:Array aj}{rt st xt elem:aj}{args:Array O}{len:Nat}{k:cY}{zv:O}{i:TypeInfo}{w:aG}
 (ht0:ts[0]?=U st)(ht1:ts[1]?=U xt)(ha0:args[0]?=U (.slice base len cap))(ha1:args[1]?=U (.int k' (n:Int)))
 (hst:∀w:aG,(underlying st).run P w=.ok (.slice elem) w)(hxt:∀w:aG,(underlying xt).run P w=.ok (.int k) w)
 (hsz:∀w:aG,(sizeOf elem).run P w=.ok size w)(hi:∀w:aG,(typeInfo elem).run P w=.ok i w)(hz:∀w:aG,(zeroValue elem).run P w=.ok zv w)(hzs:zv.cells.size=size)
 (hneed:len+n<=cap)(hmax:n<=16777216)(hb:i.bytes<=65536)(hs:∀a,base=U a->(storeCells (a.add (len*size)) (Builtin.zeroCells zv.cells n).toList).run P w=.ok () w')(hn:base=Y->w'=w):
 (Builtin.append_ ts rt args).run P w=.ok (.slice base (len+n) cap) w':=by
 have hw:IntKind.i64.wrap (n:Int)=n:=by
  have h1:(n:Int) % 2^64=n:=by omega
  have h2:¬((n:Int)>=2^(64-1)):=by omega
  simp only[IntKind.wrap,IntKind.bits,IntKind.signed,h1,t_,decide_eq_true_eq,aq h2]
 have has:∀u:aG,(asInt (.int k' (n:Int))).run P u=.ok (n:Int) u:=λ _=>rfl
 have hneg:¬((n:Int)<0):=by omega
 have hby:¬((n:Int)*(i.bytes:Int)>2^48):=by
  have:=BI hmax hb;have e:((n*i.bytes:Nat):Int)=(n:Int)*(i.bytes:Int):=by simp
  omega
 have hzz:n*size=0->Builtin.zeroCells zv.cells n= #[]:=by
  intro h;apply Array.eq_empty_of_size_eq_zero;rw[Kz,hzs];exact h
 unfold Builtin.append_;simp only[ht0,ht1,ha0,ha1,aP,hst,hxt,hsz,hi,has,hw,aQ,aW,bR,aq hneg,aq hby,D9,aC hneed,sZ,ed,bO];by_cases h0:n*size=0
 .rw[hzz h0]at hs;simp only[aC h0,aW,aQ];cases base with
  |none=>rw[hn rfl];rfl
  |some a=>simp only[aP,hs a rfl,aQ,aW]
 .simp only[aq h0,aP,hz,aW,aQ];cases base with
  |none=>rw[hn rfl];rfl
  |some a=>simp only[aP,hs a rfl,aQ,aW]
include ok in
def Vk {A A':Mem} {w:aG} (hr:Rel ι A w) {st xt rt:aj} {ts:Array aj} {s s' x x' v:O} {args:Array O} (h:dm tb A st xt s x=.ok (v,A')) (hs:VR ι s s') (hx:VR ι x x')
 (ht0:ts[0]?=U st) (ht1:ts[1]?=U xt) (ha0:args[0]?=U s') (ha1:args[1]?=U x') (hfree:ew ι A A'):
 ∃ι' w' v',(Builtin.append_ ts rt args).run tb.P w=.ok v' w'/\VR ι' v v'/\Rel ι' A' w'/\bZ ι A w ι' A' w':=by
 unfold dm at h;split at h
 .rename_i elem base len cap xd hst hxt;cases hxi:jx xd with
  |true=>
   rw[hxi,aI]at h;unfold Ew at h;obtain⟨⟨size,zero⟩,e1,h2⟩:=R.aF h;obtain⟨n,e2,h3⟩:=R.aF h2;obtain⟨hsize,hsz,zv,hzr,hzc,hzv⟩:=DX ok e1;have hz0:zv.cells.size=size:=by rw[hsize,<-hzc];simp
   obtain⟨k,rfl⟩:∃k,xd=.int k:=by
    cases xd with
    |int k=>exact⟨k,rfl⟩
    |_=>cases hxi
   obtain⟨k',rfl⟩:∃k',x=.int k' (n:Int):=by
    unfold iC at e2;split at e2
    .rename_i k' m;simp only[av]at e2;subst e2;exact⟨k',rfl⟩
    .cases e2
   cases hx;split at h3
   .cases h3
   .rename_i i hi;cases hb:(au n 16777216&&au i.bytes 65536)with
    |false=>rw[hb]at h3;cases h3
    |true=>
     rw[hb,aI]at h3;simp only[dz]at hb;have b1:=jJ hb.1;have b2:=jJ hb.2;have hrep:bn ι (iP zero n) (Builtin.zeroCells zv.cells n).toList:=by
      have:=Gf (hzv ι) n;unfold Builtin.zeroCells;rwa[show n*Z zero=n*zv.cells.size by rw[hz0,hsize]]at this
     refine Mn hr h3 hs hz0 hrep (by rw[Ge,hsize]) hfree (λ base' cap' w' e hle hs2 hn2=>?_) (λ base' cap' old' i' e hi' hfo hno c1 c2=>?_)
     .subst e;exact qdQ tb.P ht0 ht1 ha0 ha1 (bK ok hst) (bK ok hxt) hsz (sK ok hi) hzr hz0 hle b1 b2 hs2 hn2
     .subst e;obtain⟨c,h1,h2,h3⟩:=Z4 tb.P ht0 ht1 ha0 ha1 (bK ok hst) (bK ok hxt) hsz (sK ok hi) hzr hz0 hfo hno c1 b2;exact⟨c,h1,h2,by rw[h3]⟩
  |false=>
   rw[hxi]at h;simp only[ba]at h;have hxd:∀k,xd≠.int k:=by rintro k rfl;cases hxi
   obtain⟨⟨size,zero⟩,e1,h2⟩:=R.aF h;obtain⟨n,e2,h3⟩:=R.aF h2;obtain⟨new,e3,h4⟩:=R.aF h3;clear h h2 h3;obtain⟨hsize,hsz,zv,hzr,hzc,hzv⟩:=DX ok e1;obtain⟨new',rnew,runnew⟩:=Oz hr e3 hx e2 (aJ _);have hz0:zv.cells.size=size:=by rw[hsize,<-hzc];simp
   refine Mn hr h4 hs hz0 rnew (Oy e3 ⟨_,hx⟩ e2 (aJ _)) hfree (λ base' cap' w' e hle hs2 hn2=>?_) (λ base' cap' old' i' e hi' hfo hno c1 c2=>?_)
   .subst e;exact qdR tb.P ht0 ht1 ha0 ha1 (bK ok hst) (bK ok hxt) hxd hsz (FV e2 hx tb.P) (runnew tb.P w rfl) hle hs2 hn2
   .subst e;exact Z5 tb.P ht0 ht1 ha0 ha1 (bK ok hst) (bK ok hxt) hxd hsz (sK ok hi') hzr (FV e2 hx tb.P) (λ d=>runnew tb.P _ rfl) hfo hno c1 c2
 .cases h
end
section
variable {tb:aO}(ok:dP tb){ι:a8}{A A':Mem}{w:aG}
variable {r:Nat}{o':Obj}
def xG{o:Obj}(h:w.heap[r]?=U o)(hc:∀c e f,o≠.cells c e f)(P:cI):
 ∃w',(setObj r o').run P w=.ok () w'/\Wu w w' r o'/\w'.heap.size=w.heap.size:=by
 have hlt:=(fU.1 h).1;refine⟨{w with heap:=w.heap.setIfInBounds r o'},?_,⟨by simp,by simp[hlt],λ k hk hne=>?_,rfl,rfl,rfl⟩,by simp⟩
 .simp only[setObj,Sem.run,h]
 .exact LP (Ne.symm hne)
def qbh{k k' e e':O}(h:xr k e=U aa)(hk:VR ι k k')(he:VR ι e e')(P:cI)(w:aG):(Instr.keyThatStays e' k').run P w=.ok k' w:=by
 have:Instr.sameBits 10000 e' k'=aa:=by
  unfold xr at h;split at h
  .cases hk;cases he;rename_i kk x kk' y;cases hkk:iA kk kk' with
   |false=>rw[hkk]at h;cases h
   |true=>
    rw[hkk]at h;simp only[aI,eM,xj,beq_iff_eq]at h;obtain rfl:=C6 hkk;subst h;simp[Instr.sameBits]
  .cases hk;cases he;rename_i x y;simp only[eM,pj]at h;simp only[Instr.sameBits,bytes_beq];rw[beq_iff_eq]at h⊢;exact h.symm
  .cases h
 simp only[Instr.keyThatStays,this,bR,aW]
variable {v':O}
theorem S5{k k' v:O}(hk:VR ι k k')(hv:VR ι v v'):∀{es es':List MapEntry} (i:Nat),iT ι es es'->iT ι (KX es i k v) (es'.modify i λ e=>{e with key:=k',val:=v'})
 |_,_,i,.nil=>by cases i<;>exact .nil
 |_,_,0,.cons _ hb _ ht=>.cons hk hb hv ht
 |_,_,i+1,.cons hk' hb hv' ht=>.cons hk' hb hv' (S5 hk hv i ht)
theorem ND:∀{es es':List MapEntry} (i:Nat),iT ι es es'->iT ι (Aj es i) (es'.eraseIdx i)
 |_,_,i,.nil=>by cases i<;>exact .nil
 |_,_,0,.cons _ _ _ ht=>ht
 |_,_,i+1,.cons hk hb hv ht=>.cons hk hb hv (ND i ht)
theorem iT.snoc{e e':MapEntry}(hk:VR ι e.key e'.key)(hb:e'.born=e.born)(hv:VR ι e.val e'.val):∀{l l':List MapEntry},iT ι l l'->iT ι (l++[e]) (l'++[e'])
 |_,_,.nil=>.cons hk hb hv .nil
 |_,_,.cons a b c d=>.cons a b c (iT.snoc hk hb hv d)
def iT.get{ι:a8}:∀{l l':List MapEntry} {i:Nat} {e e':MapEntry},iT ι l l'->l[i]?=U e->l'[i]?=U e'->VR ι e.key e'.key
 |_,_,i,e,e',.nil,h,_=>by simp at h
 |_,_,0,e,e',.cons hk _ _ _,h,h'=>by simp at h h';subst h h';exact hk
 |_,_,i+1,e,e',.cons _ _ _ ht,h,h'=>by simp at h h';exact ht.get h h'
include ok in
def P9 (hr:Rel ι A w) {t:aj} {m m' k k' v v':O} (h:mw tb A t m k v=.ok A') (hm:VR ι m m') (hk:VR ι k k') (hv:VR ι v v'):
 ∃w',(Instr.mapUpdate t m' k' v').run tb.P w=.ok () w'/\Rel ι A' w'/\bZ ι A w ι A' w':=by
 unfold mw at h;split at h
 .rename_i kt et b hd;cases hko:e_ tb kt k with
  |false=>rw[hko]at h;cases h
  |true=>
   rw[hko]at h;simp only[aI]at h;obtain⟨d,hkd,gi⟩:=FN hko;split at h
   .rename_i es clock hg;cases hm with
    |map hl=>
     rename_i l;obtain⟨o',hw,hsh,es',rfl,he⟩:=hr.obs _ _ _ hg rfl hl;have hck:=EX ok hkd gi hk af w;split at h
     .rename_i i u hf;simp only[av]at h;subst h;rcases y3 hk gi hf he with⟨h3,_⟩|⟨j,v0,v1,h3,h4,h5,h6,e',h7,e,h8,h9⟩
      .cases h3
      .cases h3;simp only[iV]at h7 h8;have h7':es'[i]?=U e':=by rw[<-fW];exact h7
       have hkeys:=he.get h8 h7;have hstay:=qbh h9 hk hkeys tb.P w;obtain⟨w',r1,r2,r3⟩:=xG (o':=.map (es'.modify i λ e=>{e with key:=k',val:=v'}) clock) hw (by simp) tb.P;refine⟨w',?_,hr.sU hg rfl hl (re hg λ _ _ _ h=>by cases h) (λ _ _ _ h=>by cases h) r2 r3 ⟨hsh,_,rfl,?_⟩⟩
       .simp only[Instr.mapUpdate,aP,bK ok hd,aQ,lr hw (by simp),hck,Aw ok hkd h4,h7',fZ,td,hstay];exact r1
       .rw[Array.toList_modify];exact S5 hk hv i he
     .rename_i hf;simp only[av]at h;subst h;rcases y3 hk gi hf he with⟨_,h4⟩|⟨j,v0,v1,h3,_⟩
      .obtain⟨w',r1,r2,r3⟩:=xG (o':=.map (es'.push {key:=k',val:=v',born:=clock}) (clock+1)) hw (by simp) tb.P;refine⟨w',?_,hr.sU hg rfl hl (re hg λ _ _ _ h=>by cases h) (λ _ _ _ h=>by cases h) r2 r3 ⟨hsh,_,rfl,?_⟩⟩
       .simp only[Instr.mapUpdate,aP,bK ok hd,aQ,lr hw (by simp),hck,Aw ok hkd h4];exact r1
       .rw[Array.toList_push];exact iT.snoc (e:=⟨k,v,clock⟩) (e':=⟨k',v',clock⟩) hk rfl hv he
      .cases h3
     .cases h
   .cases h
 .cases h
include ok in
def YK (hr:Rel ι A w) {t rt:aj} {ts:Array aj} {m m' k k' v:O} {args:Array O} (h:Ai tb A t m k=.ok (v,A')) (hm:VR ι m m') (hk:VR ι k k')
 (ht:ts[0]?=U t) (h0:args[0]?=U m') (h1:args[1]?=U k'):
 ∃w' v',(Builtin.delete_ ts rt args).run tb.P w=.ok v' w'/\VR ι v v'/\Rel ι A' w'/\bZ ι A w ι A' w':=by
 unfold Ai at h;split at h
 .rename_i kt et hd;cases hko:e_ tb kt k with
  |false=>rw[hko]at h;cases h
  |true=>
   rw[hko]at h;simp only[aI,av,bf]at h;obtain⟨rfl,rfl⟩:=h;obtain⟨d,hkd,gi⟩:=FN hko;cases hm;refine⟨w,.tuple #[],?_,.tuple .nil,hr,bZ.refl ι A w⟩
   simp only[Builtin.delete_,ht,h0,h1,aP,bK ok hd,aQ,EX ok hkd gi hk aa w,aW]
 .rename_i kt et b hd;cases hko:e_ tb kt k with
  |false=>rw[hko]at h;cases h
  |true=>
   rw[hko]at h;simp only[aI]at h;obtain⟨d,hkd,gi⟩:=FN hko;split at h
   .rename_i es clock hg;cases hm with
    |map hl=>
     rename_i l;obtain⟨o',hw,hsh,es',rfl,he⟩:=hr.obs _ _ _ hg rfl hl;have hck:=EX ok hkd gi hk es'.isEmpty w;split at h
     .rename_i i u hf;simp only[av,bf]at h;obtain⟨rfl,rfl⟩:=h;rcases y3 hk gi hf he with⟨h3,_⟩|⟨j,v0,v1,h3,h4,_⟩
      .cases h3
      .cases h3;obtain⟨w',r1,r2,r3⟩:=xG hw (by simp) tb.P;obtain⟨hrel,hst⟩:=hr.sU (ob:=.map (Aj es i) clock) hg rfl hl (re hg λ _ _ _ h=>by cases h) (λ _ _ _ h=>by cases h) r2 r3 ⟨hsh,_,rfl,by rw[Array.toList_eraseIdxIfInBounds];exact ND i he⟩;refine⟨w',.tuple #[],?_,.tuple .nil,hrel,hst⟩
       simp only[Builtin.delete_,ht,h0,h1,aP,bK ok hd,aQ,lr hw (by simp),hck,Aw ok hkd h4,r1,aW]
     .rename_i hf;simp only[av,bf]at h;obtain⟨rfl,rfl⟩:=h;rcases y3 hk gi hf he with⟨_,h4⟩|⟨j,v0,v1,h3,_⟩
      .obtain⟨w',r1,r2,r3⟩:=xG hw (by simp) tb.P;obtain⟨hrel,hst⟩:=hr.sU (ob:=.map es clock) hg rfl hl (re hg λ _ _ _ h=>by cases h) (λ _ _ _ h=>by cases h) r2 r3 ⟨hsh,_,rfl,he⟩;refine⟨w',.tuple #[],?_,.tuple .nil,hrel,hst⟩
       simp only[Builtin.delete_,ht,h0,h1,aP,bK ok hd,aQ,lr hw (by simp),hck,Aw ok hkd h4,r1,aW]
      .cases h3
     .cases h
   .cases h
 .cases h
include ok in
def Ye (hr:Rel ι A w) {t rt:aj} {ts:Array aj} {x x' v:O} {args:Array O} (h:EY tb A t x=.ok (v,A')) (hx:VR ι x x') (ht:ts[0]?=U t) (h0:args[0]?=U x'):
 ∃w' v',(Builtin.clear_ ts rt args).run tb.P w=.ok v' w'/\VR ι v v'/\Rel ι A' w'/\bZ ι A w ι A' w':=by
 unfold EY at h;split at h
 .rename_i d hd;cases hx;simp only[av,bf]at h;obtain⟨rfl,rfl⟩:=h;refine⟨w,.tuple #[],?_,.tuple .nil,hr,bZ.refl ι A w⟩
  simp only[Builtin.clear_,ht,h0,aP,bK ok hd,aQ,aW]
 .rename_i d b hd;split at h
  .rename_i es clock hg;simp only[av,bf]at h;obtain⟨rfl,rfl⟩:=h;cases hx with
   |map hl=>
    obtain⟨o',hw,hsh,es',rfl,he⟩:=hr.obs _ _ _ hg rfl hl;obtain⟨w',r1,r2,r3⟩:=xG hw (by simp) tb.P;obtain⟨hrel,hst⟩:=hr.sU (ob:=.map [] clock) hg rfl hl (re hg λ _ _ _ h=>by cases h) (λ _ _ _ h=>by cases h) r2 r3 ⟨hsh, #[],rfl,.nil⟩
    refine⟨w',.tuple #[],?_,.tuple .nil,hrel,hst⟩
    simp only[Builtin.clear_,ht,h0,aP,bK ok hd,aQ,lr hw (by simp),r1,aW]
  .cases h
 .rename_i d n c hd;cases hx;simp only[av,bf]at h;obtain⟨rfl,rfl⟩:=h;refine⟨w,.tuple #[],?_,.tuple .nil,hr,bZ.refl ι A w⟩
  simp only[Builtin.clear_,ht,h0,aP,bK ok hd,aQ,aW]
 .rename_i elem a n c hd;have ha:=hx.Gw;cases hb:aL n 0 with
  |true=>
   obtain rfl:=beq_true hb;rw[hb]at h;simp only[aI,av,bf]at h;obtain⟨rfl,rfl⟩:=h;refine⟨w,.tuple #[],?_,.tuple .nil,hr,bZ.refl ι A w⟩
   cases hx<;>simp only[Builtin.clear_,ht,h0,aP,bK ok hd,aQ,aW]
  |false=>
   have hn:=beq_false hb;rw[hb]at h;simp only[ba]at h;obtain⟨⟨size,zero⟩,e1,h2⟩:=R.aF h;obtain⟨A2,e2,h3⟩:=R.aF h2;simp only[av,bf]at h3;obtain⟨rfl,rfl⟩:=h3;obtain⟨hsize,hsz,zv,hzr,hzc,hzv⟩:=DX ok e1;rw[ha]at hx e2;have hrep:=Gf (ι:=ι) (hzv ι) n;have hcap:dH c=aa\/0<bH c:=by
    cases hx with
    |sl hl hk=>exact .inl hk
    |slX hl hk hc hsz ho hb hlen=>exact .inr (by omega)
   have core:∃a' cap',x'=.slice (U a') n cap'/\∃w',(storeCells a' ((xP (n*Z zero)).map (zv.cells[· % zv.cells.size]!)).toList).run tb.P w=.ok () w'/\Rel ι A2 w'/\bZ ι A w ι A2 w':=by
    cases hx with
    |sl hl hk=>
     obtain⟨w',e,r⟩:=A7 hr hl e2 hrep tb.P;exact⟨_,_,rfl,w',e,r⟩
    |slX hl hk hc hsz ho hb hlen=>
     have ho':=ho (by omega);subst ho';obtain⟨w',e,r⟩:=A7 hr hl e2 hrep tb.P;exact⟨_,_,rfl,w',e,r⟩
   obtain⟨a',cap',rfl,w',e,hrel,hst⟩:=core;refine⟨w',.tuple #[],?_,.tuple .nil,hrel,hst⟩
   have hzs:zv.cells.size=Z zero:=by rw[<-hzc];simp
   have hzz:Builtin.zeroCells zv.cells n=(xP (n*Z zero)).map (zv.cells[· % zv.cells.size]!):=by
    unfold Builtin.zeroCells;rw[hzs]
   cases n with
   |zero=>exact aZ rfl hn
   |succ n=>
    simp only[Builtin.clear_,ht,h0,aP,bK ok hd,aQ,hzr,hzz,e,aW]
 .cases h
include ok in
def qdt (hr:Rel ι A w) {t:aj} {x x' v:O} (h:qn tb A t x=.ok (v,A')) (hx:VR ι x x') (hfree:ew ι A A'):
 ∃ι' w' v',(Instr.range t x').run tb.P w=.ok v' w'/\VR ι' v v'/\Rel ι' A' w'/\bZ ι A w ι' A' w':=by
 unfold qn at h;split at h
 .rename_i s hd;cases hx;simp only[av,bf]at h;obtain⟨rfl,rfl⟩:=h;have hfn:=hfree A.next (aJ _) (by rw[aA];omega)
  obtain⟨ι',e,hrel,hst⟩:=Rel.tM (w':={w with heap:=w.heap.push (.stringIter s 0),drawn:=w.drawn}) (ob:=.sit s 0) (sz:=0) hr hfn (λ _ _ _ h=>by cases h) (rR w _ _ (by simp)) (by simp) (λ ι' hi hb=>⟨rfl,rfl⟩);refine⟨ι',_,.pointer (U ⟨w.heap.size,0,Y⟩),?_,.ptr e,hrel,hst⟩;simp only[Instr.range,aP,bK ok hd,aQ,run_newObj,aW]
 .rename_i kt vt r hd;split at h
  .rename_i es c hg;cases hx with
   |map hl=>
    rename_i l;simp only[av,bf]at h;obtain⟨rfl,rfl⟩:=h;have hfn:=hfree A.next (aJ _) (by rw[aA];omega)
    obtain⟨o',hw,hsh,es',rfl,hes⟩:=hr.obs _ _ _ hg rfl hl;obtain⟨ι',e,hrel,hst⟩:=Rel.tM (w':={w with heap:=w.heap.push (.mapIter (U l.blk) c #[] c),drawn:=w.drawn}) (ob:=.mit r c Y) (sz:=0) hr hfn (λ _ _ _ h=>by cases h) (rR w _ _ (by simp)) (by simp) (λ ι' hi hb=>⟨rfl,l,hi _ _ hl,rfl⟩)
    refine⟨ι',_,.pointer (U ⟨w.heap.size,0,Y⟩),?_,.ptr e,hrel,hst⟩;simp only[Instr.range,aP,bK ok hd,lr hw (by simp),aQ,run_newObj,aW]
  .cases h
 .rename_i kt vt hd;cases hx;simp only[av,bf]at h;obtain⟨rfl,rfl⟩:=h;have hfn:=hfree A.next (aJ _) (by rw[aA];omega)
  obtain⟨ι',e,hrel,hst⟩:=Rel.tM (w':={w with heap:=w.heap.push (.mapIter Y 0 #[] 0),drawn:=w.drawn}) (ob:=.nit) (sz:=0) hr hfn (λ _ _ _ h=>by cases h) (rR w _ _ (by simp)) (by simp) (λ ι' hi hb=>⟨rfl,rfl⟩)
  refine⟨ι',_,.pointer (U ⟨w.heap.size,0,Y⟩),?_,.ptr e,hrel,hst⟩;simp only[Instr.range,aP,bK ok hd,aQ,run_newObj,aW]
 .cases h
variable {m c k:Nat}
def Qb(hr:Rel ι A w){l:Loc}{b:Option Nat}{e:MapEntry}(hg:A.get r=U (.mit m c b))(hl:ι r=U l)(hm:A.get m=U (.map [e] k)):
 l.sh=0/\∃lm e',ι m=U lm/\w.heap[l.blk]?=U (.mapIter (U lm.blk) c b.toArray c)/\w.heap[lm.blk]?=U (.map #[e'] k)/\VR ι e.key e'.key/\e'.born=e.born/\VR ι e.val e'.val:=by
 obtain⟨o',hw,hsh,lm,hlm,rfl⟩:=hr.obs _ _ _ hg rfl hl;obtain⟨o2,hw2,_,es,rfl,hes⟩:=hr.obs _ _ _ hm rfl hlm;obtain⟨es⟩:=es;cases hes with
 |cons hk hb hv ht=>cases ht;exact⟨hsh,lm,_,hlm,hw,hw2,hk,hb,hv⟩
variable {x':O}
def qcr(hr:Rel ι A w){x v:O}{isS:Bool}{rt:aj}(h:y9 A x isS=.ok (v,A'))(hx:VR ι x x')(P:cI):
 ∃w' v',(Instr.next x' isS rt).run P w=.ok v' w'/\VR ι v v'/\Rel ι A' w'/\bZ ι A w ι A' w':=by
 unfold y9 at h;split at h
 .rename_i b;cases hx with
  |ptr hl=>
   rename_i l;split at h
   .rename_i s pos hg;obtain⟨o',hw,hsh,rfl⟩:=hr.obs _ _ _ hg rfl hl;rw[hsh];cases hb:aM pos s.size with
    |true=>
     have hlt:=jK hb;rw[hb]at h;simp only[aI,av,bf]at h;obtain⟨rfl,rfl⟩:=h;obtain⟨w',r1,r2,r3⟩:=xG hw (by simp) P;obtain⟨hrel,hst⟩:=hr.sU (ob:=.sit s (pos+(Utf8.decode s pos).2)) hg rfl hl (re hg λ _ _ _ h=>by cases h) (λ _ _ _ h=>by cases h) r2 r3 ⟨hsh,rfl⟩;refine⟨w',.tuple #[.bool aa,goInt pos,.int .i32 (Utf8.decode s pos).1],?_,.tuple (.cons (.bool _) (.cons (.int _ _) (.cons (.int _ _) .nil))),hrel,hst⟩
     simp only[Instr.next,dN,aP,lr hw (by simp),aQ,aC hlt,r1,aW]
    |false=>
     have hlt:=HY hb;rw[hb]at h;simp only[ba,av,bf]at h;obtain⟨rfl,rfl⟩:=h;refine⟨w,.tuple #[.bool af],?_,.tuple (.cons (.bool _) .nil),hr,bZ.refl ι A w⟩
     simp only[Instr.next,dN,aP,lr hw (by simp),aQ,aq hlt,aW]
   .cases h
 .rename_i r;cases hx with
  |ptr hl=>
   rename_i l;split at h
   case h_3=>cases h
   case h_2 hg=>
    simp only[av,bf]at h;obtain⟨rfl,rfl⟩:=h;obtain⟨o',hw,hsh,rfl⟩:=hr.obs _ _ _ hg rfl hl;refine⟨w,.tuple #[.bool af],?_,.tuple (.cons (.bool _) .nil),hr,bZ.refl ι A w⟩
    rw[hsh];simp[Instr.next,lr hw (by simp),aQ,aP,aW]
   rename_i m c b hg;split at h
   case h_2=>cases h
   rename_i e k hm;obtain⟨hsh,lm,e',hlm,hw,hw2,hk,hb,hv⟩:=Qb hr hg hl hm;cases hq:(aL k c&&aM e.born c)with
   |false=>rw[hq]at h;cases h
   |true=>
    rw[hq,aI]at h;simp only[dz]at hq;obtain rfl:=beq_true hq.1;have hlt:=jK hq.2;rw[<-hb]at hlt;have hge:¬(k<=e'.born):=by omega
    rw[hsh];cases b with
    |none=>
     simp only[av,bf]at h;obtain⟨rfl,rfl⟩:=h;obtain⟨w',r1,r2,r3⟩:=xG (o':=.mapIter (U lm.blk) k #[e'.born] k) hw (by simp) P
     obtain⟨hrel,hst⟩:=hr.sU (ob:=.mit m k (U e.born)) hg rfl hl (re hg λ _ _ _ h=>by cases h) (λ _ _ _ h=>by cases h) r2 r3 ⟨hsh,lm,hlm,by rw[<-hb];rfl⟩;refine⟨w',.tuple #[.bool aa,e'.key,e'.val],?_,.tuple (.cons (.bool _) (.cons hk (.cons hv .nil))),hrel,hst⟩
     simp[Instr.next,lr hw (by simp),lr hw2 (by simp),aQ,run_choose,Question.forced,aP,aW,hlt,hge,r1]
    |some x=>
     cases hx2:aL x e.born with
     |false=>simp only[hx2]at h;cases h
     |true=>
      simp only[hx2,aI,av,bf]at h;obtain⟨rfl,rfl⟩:=h;obtain rfl:=beq_true hx2;refine⟨w,.tuple #[.bool af],?_,.tuple (.cons (.bool _) .nil),hr,bZ.refl ι A w⟩
      rw[<-hb]at hw;simp[Instr.next,lr hw (by simp),lr hw2 (by simp),aQ,run_choose,Question.forced,aP,aW,hlt,hge]
 .cases h
def YZ(hr:Rel ι A w){x v:O}(h:E9 A x=.ok (v,A'))(hx:VR ι x x')(P:cI):
 ∃w' v',(Instr.entry x').run P w=.ok v' w'/\VR ι v v'/\Rel ι A' w'/\bZ ι A w ι A' w':=by
 unfold E9 at h;split at h
 case h_2=>cases h
 rename_i r;cases hx with
 |ptr hl=>
  rename_i l;split at h
  case h_2=>cases h
  rename_i m c x hg;split at h
  case h_2=>cases h
  rename_i e k hm;obtain⟨hsh,lm,e',hlm,hw,hw2,hk,hb,hv⟩:=Qb hr hg hl hm;cases hq:(aL k c&&aL x e.born)with
  |false=>rw[hq]at h;cases h
  |true=>
   rw[hq]at h;simp only[aI,av,bf]at h;obtain⟨rfl,rfl⟩:=h;simp only[dz]at hq;obtain rfl:=beq_true hq.1;obtain rfl:=beq_true hq.2;rw[hsh];refine⟨w,.tuple #[e'.key,e'.val],?_,.tuple (.cons hk (.cons hv .nil)),hr,bZ.refl ι A w⟩
   rw[<-hb]at hw;simp[Instr.entry,lr hw (by simp),lr hw2 (by simp),aQ,aP,aW]
end
section
variable {tb:aO}(ok:dP tb){ι:a8}{A A':Mem}{w:aG}
theorem PW(P:cI)(w:aG):∀(vs vs':List O) (l:List UInt8) (a:Addr) (acc:ByteArray),bytesOf vs=.ok l->bn ι vs vs'->(∀j v,vs'[j]?=U v->w.cell? (a.add j)=U v)->
 (loadBytes a acc (Z vs)).run P w=.ok ⟨⟨acc.data.toList++l⟩⟩ w
 | [],_,l,a,acc,h,.nil,_=>by
  simp only[bytesOf,av]at h;subst h;simp[loadBytes]
 |v::vs,_,l,a,acc,h,.cons hv ht,hc=>by
  unfold bytesOf at h;split at h
  .rename_i heq;cases heq
  .rename_i n vs2 heq;simp only[ff]at heq;obtain⟨rfl,rfl⟩:=heq;obtain⟨l',h1,h2⟩:=R.aF h;simp only[av]at h2;subst h2;cases hv;have h0:w.cell? a=U _:=hc 0 _ rfl;have ih:=PW P w vs _ l' (a.add 1) (acc.push (cO n).toNat.toUInt8) h1 ht (λ j v hj=>by
    have:=hc (j+1) v (by simpa using hj);have e:(a.add 1).add j=a.add (j+1):=by
     unfold Addr.add;by_cases hj:j=0
     .subst hj;simp
     .simp[hj];omega
    rw[e];exact this)
   simp only[cd,loadBytes,aP,JZ h0,aQ];rw[ih];congr 1;apply ByteArray.ext;apply m8;simp[ByteArray.data_push]
  .cases h
variable {d:Nat}
def qgT{P:cI}(t:aj):sameLayout P (d+1) t t=aa:=by
 simp[sameLayout]
variable {n:Nat}
def qbD{P:cI}{t:aj}{off cells:Nat}(hs:P.cellsOf t=1)(h:off+n<=cells):liesAt P P.depth t (cells/P.cellsOf t) off t n=aa:=by
 have hd:P.depth=(2*(P.types.size+Made.depth)+1)+1:=rfl;have h1:rowAt P (sameLayout P P.depth · t) P.depth t (cells/P.cellsOf t) off n=aa:=by
  have e:∀d,rowAt P (sameLayout P P.depth · t) (d+1) t (cells/P.cellsOf t) off n=aa:=?_
  .rw[hd];rw[<-hd];exact(hd▸e _:rowAt P (sameLayout P P.depth · t) P.depth t (cells/P.cellsOf t) off n=aa)
  intro d;rw[rowAt];simp only[hs,Nat.one_ne_zero,bO,Nat.div_one,Nat.mod_one,beq_self_eq_true,t_];have:sameLayout P P.depth t t=aa:=by rw[hd];exact qgT t
  rw[this];simp[h]
 rw[hd,liesAt,h1];rfl
include ok in
def qi7 (hr:Rel ι A w) {pt rt:aj} {ts:Array aj} {x x' n n' v:O} {args:Array O} (h:zx tb A pt x n=.ok (v,A')) (hx:VR ι x x') (hn:VR ι n n')
 (ht:ts[0]?=U pt) (ha:args= #[x',n']):
 ∃w' v',(Builtin.unsafeString_ ts rt args).run tb.P w=.ok v' w'/\VR ι v v'/\Rel ι A' w'/\bZ ι A w ι A' w':=by
 subst ha;unfold zx at h;obtain⟨m,h1,h2⟩:=R.aF h;obtain⟨k,rfl,rfl⟩:=AP h1 hn;clear h;split at h2
 .rename_i a e hd;cases hx with
  |ptr hl=>
   rename_i b o l;simp only at h2;split at h2
   .rename_i t xk fz c _ hg hde;obtain⟨size,h3,h4⟩:=R.aF h2;cases hb:(aL t e&&aL size 1&&aM 0 m&&au m 16777216&&(aM fz 9223372036854775808&&aM (o+m) 9223372036854775808))with
    |false=>rw[hb]at h4;cases h4
    |true=>
     rw[hb]at h4;simp only[aI]at h4;simp only[dz]at hb;obtain rfl:=beq_true hb.1.1.1.1;have hs1:=beq_true hb.1.1.1.2;have hm0:=jK hb.1.1.2;have hmax:=jJ hb.1.2;have hfzb:=jK hb.2.1;have hofb:=jK hb.2.2;split at h4
     .rename_i vs hvs;split at h4
      .cases h4
      .rename_i hnm;obtain⟨bs,h5,h6⟩:=R.aF h4;simp only[av,bf]at h6;obtain⟨rfl,rfl⟩:=h6;obtain⟨o',hw,hor⟩:=hr.obs _ _ _ hg rfl hl;obtain⟨cs,fr,rfl,hcs,hcell,hfr⟩:=hor;obtain⟨q1,q2⟩:=T.CX _ _ _ _ hvs;have hcs2:∀j,j<m->∃u,cs[o+j+l.sh]?=U u/\∀v,vs[j]?=U v->VR ι v u:=by
        intro j hj;have hj':j<Z vs:=by omega
        have e:=q2 j hj;rw[aV hj']at e;obtain⟨u,e1,r⟩:=hcell _ _ e;exact⟨u,e1,λ v hv=>by rw[aV hj']at hv;cases hv;exact r⟩
       have hbound:o+l.sh+m<=cs.size:=by
        obtain⟨u,e,_⟩:=hcs2 (m-1) (by omega);have:=(fU.1 e).1;omega
       let vs':=(cs.toList.drop (o+l.sh)).take m;have hvr:bn ι vs vs':=by
        refine bn.De ?_ λ j v v' hv hv'=>?_
        .simp only[vs',db,qx,xO];omega
        .have hj:j<m:=by
          rcases d_ j m with h|h
          .exact h
          .rw[lW (by omega)]at hv;cases hv
         obtain⟨u,e,r⟩:=hcs2 j hj;simp only[vs']at hv';rw[Ho hj,rz,fW,show o+l.sh+j=o+j+l.sh by omega,e]at hv';cases hv';exact r v hv
       have hlb:=PW tb.P w vs vs' bs ⟨l.blk,o+l.sh,Y⟩ .empty h5 hvr (λ j v hv=>by
        have hj:j<m:=by
         rcases d_ j m with h|h
         .exact h
         .simp only[vs']at hv;rw[lW (by simp only[db];omega)]at hv;cases hv
        simp only[vs']at hv;rw[Ho hj,rz,fW]at hv;rw[om];simp only[World.cell?,hw,yl,ed,bO];exact hv)
       rw[q1]at hlb;have hcellsOf:tb.P.cellsOf t=1:=by
        unfold aY at h3;split at h3
        .rename_i i hi;simp only[av]at h3;simp only[Program.cellsOf,ok.ty t i hi,fZ,td];omega
        .cases h3
       have hlies:=qbD hcellsOf hbound;have hva:(variablesAt ⟨l.blk,o+l.sh,Y⟩ t m).run tb.P w=.ok aa w:=by
        simp only[variablesAt,aP,run_program,run_shape,KY hw,aQ,aW,hlies]
       let fr':Nat×Nat:=if fr.1==fr.2 then(o+l.sh,o+l.sh+m)else(min fr.1 (o+l.sh),max fr.2 (o+l.sh+m))
       have hwf:Wu w (w.freeze ⟨l.blk,o+l.sh,Y⟩ m) l.blk (.cells cs t fr')/\(w.freeze ⟨l.blk,o+l.sh,Y⟩ m).heap.size=w.heap.size:=by
        have hm0':¬(m=0):=by omega
        refine⟨⟨?_,?_,λ k hk hne=>?_,?_,?_,?_⟩,?_⟩<;>simp only[World.freeze,aq hm0']
        .simp
        .simp[G5,hw,fr']
        .simp[G5,Ne.symm hne]
        .simp
       obtain⟨hrel,hst⟩:=hr.sU (ob:=.cells t .row (bif au fz (o+m)then o+m else fz) c) hg rfl hl (re hg λ t2 fz2 c2 e=>by cases e;exact .inl hfzb) (λ t' k c' h=>by
        exfalso;have h2:(bif au fz (o+m)then o+m else fz)=GB k:=by injection h
        unfold GB at h2;cases hq:au fz (o+m)with
        |true=>rw[hq,aI]at h2;omega
        |false=>rw[hq,ba]at h2;omega) hwf.1 hwf.2 ⟨cs,fr',rfl,hcs,hcell,by
        have hfz:o+m<=(bif au fz (o+m)then o+m else fz)/\fz<=(bif au fz (o+m)then o+m else fz):=by
         cases hq:au fz (o+m)with
         |true=>have:=jJ hq;simp only[aI];omega
         |false=>have:=HX hq;simp only[ba];omega
        have hfr2:fr.2<=l.sh+fz:=by
         cases xk with
         |var n=>obtain⟨_,_,rfl⟩:=hfr;simp
         |row=>exact hfr
         |mark=>exact aZ rfl hnm
         |room n=>exact hfr.1
        simp only[fr'];split<;>simp only<;>omega⟩
       refine⟨_,ag bs,?_,.string _,hrel,hst⟩;have hel:(elemOf pt).run tb.P w=.ok t w:=by simp only[elemOf,aP,bK ok hd,aQ,aW]
       have c1:¬(cO m<0):=by simp only[ig];omega
       have c2:¬(cO m>IntKind.i64.max):=by simp only[ig,IntKind.max,IntKind.signed,IntKind.bits,bR];omega
       have c3:¬(cO m=0):=by simp only[ig];omega
       have tn:(cO m).toNat=m:=rfl;change Sem.run tb.P (Bind.bind (asInt (.int k (.ofNat m))) _) w=_;simp only[asInt,asIntOf,aP,aW,aQ,ht,aq c1,aq c2,aq c3,hel,tn,hva,bR,hlb,run_freeze];simp[ag]
     .cases h4
   .cases h2
 .cases hb:aL m 0 with
  |false=>rw[hb]at h2;cases h2
  |true=>
   rw[hb,aI]at h2;simp only[av,bf]at h2;obtain⟨rfl,rfl⟩:=h2;obtain rfl:=dZ hb;cases hx;refine⟨w,_,?_,.string _,hr,bZ.refl _ _ _⟩;change Sem.run tb.P (Bind.bind (asInt (.int k (.ofNat 0))) _) w=_;simp only[asInt,asIntOf,aP,aW,aQ,ht];rfl
 .cases h2
def Eo(nx:Next)(v:O):Prop:=nx=.value v\/nx=.skip/\v=undef
include ok in
def WS (hr:Rel ι A w) {b:Builtin} {ts:Array aj} {cs:Array Bool} {rt:aj} {args:List O} {args':Array O} {v:O} (h:tD tb A b ts.toList args=.ok (v,A')) (ha:bn ι args args'.toList) (hfree:ew ι A A'):
 ∃ι' w' v',(builtin b ts rt cs args').run tb.P w=.ok (.value v') w'/\VR ι' v v'/\Rel ι' A' w'/\bZ ι A w ι' A' w':=by
 have wrap:∀{s:Sem O},(∃ι' w' v',s.run tb.P w=.ok v' w'/\VR ι' v v'/\Rel ι' A' w'/\bZ ι A w ι' A' w')->
  ∃ι' w' v',(do pure (Next.value (<-s)):Sem Next).run tb.P w=.ok (.value v') w'/\VR ι' v v'/\Rel ι' A' w'/\bZ ι A w ι' A' w':=by
  rintro s ⟨ι',w',v',e,r⟩;exact⟨ι',w',v',by simp only[aP,e,aQ,aW],r⟩
 have wrap0:∀{s:Sem O},(∃w' v',s.run tb.P w=.ok v' w'/\VR ι v v'/\Rel ι A' w'/\bZ ι A w ι A' w')->
  ∃ι' w' v',(do pure (Next.value (<-s)):Sem Next).run tb.P w=.ok (.value v') w'/\VR ι' v v'/\Rel ι' A' w'/\bZ ι A w ι' A' w':=by
  rintro s ⟨w',v',h⟩;exact wrap ⟨ι,w',v',h⟩
 have tsn:∀{t:aj} {i:Nat} {l:List aj},ts.toList=l->l[i]?=U t->ts[i]?=U t:=by
  rintro t i l rfl e;rw[<-fW];exact e
 have asn:∀{x:O} {i:Nat} {l:List O},args'.toList=l->l[i]?=U x->args'[i]?=U x:=by
  rintro t i l rfl e;rw[<-fW];exact e
 unfold tD at h;split at h
 .rename_i st xt tl s x sl hts;obtain⟨s',t1,e,hs,h1⟩:=ha.cons_inv;obtain⟨x',t2,e2,hx,h2⟩:=h1.cons_inv;subst e2;exact wrap (Vk ok hr h hs hx (tsn hts rfl) (tsn hts rfl) (asn e rfl) (asn e rfl) hfree)
 .rename_i dt tl d s sl hts;obtain⟨d',t1,e,hd,h1⟩:=ha.cons_inv;obtain⟨s',t2,e2,hs,h2⟩:=h1.cons_inv;subst e2;exact wrap0 (Yo ok hr h hd hs (tsn hts rfl) (asn e rfl) (asn e rfl))
 .rename_i t tl x xl hts;obtain⟨x',t1,e,hx,h1⟩:=ha.cons_inv;exact wrap0 (Ye ok hr h hx (tsn hts rfl) (asn e rfl))
 .rename_i t tl m k kl hts;obtain⟨m',t1,e,hm,h1⟩:=ha.cons_inv;obtain⟨k',t2,e2,hk,h2⟩:=h1.cons_inv;subst e2;exact wrap0 (YK ok hr h hm hk (tsn hts rfl) (asn e rfl) (asn e rfl))
 .rename_i t tl x n hts;obtain⟨x',t1,e,hx,h1⟩:=ha.cons_inv;obtain⟨n',t2,e2,hn,h2⟩:=h1.cons_inv;subst e2;cases h2;exact wrap0 (qi7 ok hr h hx hn (tsn hts rfl) (by apply m8;exact e))
 .cases h
include ok in
def qbo (hr:Rel ι A w) {n:Nat} {τ:T O} {a:Act} {o:Oper} {v:O} (h:jX tb τ A o.op=.ok (v,A')) (ht:TR ι n τ a.tmps) (hfree:ew ι A A'):
 ∃ι' w' nx v',(execOp a.eval o).run tb.P w=.ok nx w'/\Eo nx v'/\VR ι' v v'/\Rel ι' A' w'/\bZ ι A w ι' A' w':=by
 have unit:∀{s:Sem Unit},(∃w',s.run tb.P w=.ok () w'/\Rel ι A' w'/\bZ ι A w ι A' w')->
  ∃ι' w' nx v',(do s;pure .skip:Sem Next).run tb.P w=.ok nx w'/\Eo nx v'/\VR ι' cL v'/\Rel ι' A' w'/\bZ ι A w ι' A' w':=by
  rintro s ⟨w',e,r⟩;exact⟨ι,w',.skip,undef,by simp only[aP,e,aQ,aW],.inr ⟨rfl,rfl⟩,.tuple .nil,r⟩
 have val:∀{s:Sem O},(∃ι' w' v',s.run tb.P w=.ok v' w'/\VR ι' v v'/\Rel ι' A' w'/\bZ ι A w ι' A' w')->
  ∃ι' w' nx v',(do pure (Next.value (<-s)):Sem Next).run tb.P w=.ok nx w'/\Eo nx v'/\VR ι' v v'/\Rel ι' A' w'/\bZ ι A w ι' A' w':=by
  rintro s ⟨ι',w',v',e,r⟩;exact⟨ι',w',_,v',by simp only[aP,e,aQ,aW],.inl rfl,r⟩
 unfold jX at h;split at h<;>rename_i hop<;>simp only[execOp,hop]
 .obtain⟨x,h1,h2⟩:=R.aF h;obtain⟨u,h3,h4⟩:=R.aF h2;obtain⟨A2,h5,h6⟩:=R.aF h4;simp only[av,bf]at h6;obtain⟨rfl,rfl⟩:=h6;exact unit (qh1 ok hr h5 (dg h1 ht) (dg h3 ht))
 .obtain⟨m,h1,h2⟩:=R.aF h;obtain⟨k,h3,h4⟩:=R.aF h2;obtain⟨u,h5,h6⟩:=R.aF h4;obtain⟨A2,h7,h8⟩:=R.aF h6;simp only[av,bf]at h8;obtain⟨rfl,rfl⟩:=h8;exact unit (P9 ok hr h7 (dg h1 ht) (dg h3 ht) (dg h5 ht))
 .obtain⟨m,h1,h2⟩:=R.aF h;obtain⟨k,h3,h4⟩:=R.aF h2;obtain⟨u,h5,h6⟩:=R.aF h4;obtain⟨A2,h7,h8⟩:=R.aF h6;simp only[av,bf]at h8;obtain⟨rfl,rfl⟩:=h8;exact unit (P9 ok hr h7 (dg h1 ht) (dg h3 ht) (dg h5 ht))
 .obtain⟨x,h1,h2⟩:=R.aF h;exact val (qdt ok hr h2 (dg h1 ht) hfree)
 .obtain⟨x,h1,h2⟩:=R.aF h;obtain⟨w',v',r⟩:=qcr hr h2 (dg h1 ht) tb.P;exact val ⟨ι,w',v',r⟩
 .obtain⟨x,h1,h2⟩:=R.aF h;obtain⟨w',v',r⟩:=YZ hr h2 (dg h1 ht) tb.P;exact val ⟨ι,w',v',r⟩
 .rename_i c;split at h
  .rename_i b hb;obtain⟨args,h1,h2⟩:=R.aF h;have ha:=yV h1 ht;obtain⟨ι',w',v',e,r⟩:=WS ok hr (args':=c.args.map a.eval) h2 (by simpa using ha) hfree;refine⟨ι',w',_,v',?_,.inl rfl,r⟩;simp only[resolve,hb,aP,aW,aQ,invoke];exact e
  .cases h
 .cases h
end
section
variable {tb:aO}(ok:dP tb){ι:a8}{A:Mem}{w:aG}
inductive z6 (ι:a8):Pl->Place->Prop
 |val {v v':O} (h:VR ι v v'):z6 ι (.val v) (.val v')
 |var {a a':Addr} (h:VR ι (.pointer (U a)) (.pointer (U a'))):z6 ι (.var a) (.var a')
include ok in
def BM (hr:Rel ι A w) {t:aj} {x:Pl} {x':Place} {v:O} (h:x.get tb A.get t=.ok v) (hx:z6 ι x x'):∃v',(x'.get t).run tb.P w=.ok v' w/\VR ι v v':=by
 cases hx with
 |val hv=>simp only[Pl.get,av]at h;subst h;exact⟨_,rfl,hv⟩
 |var ha=>
  simp only[Pl.get]at h;obtain⟨v',e,r⟩:=C_ ok hr h ha;refine⟨v',?_,r⟩;simpa only[Place.get,Instr.loadAt,Instr.sureAddr,aP,aW,aQ]using e
include ok in
theorem CW (hr:Rel ι A w):∀{path:List FieldStep} {t:aj} {x:Pl} {x':Place} {r:aj×Pl},xg tb A.get path t x=.ok r->z6 ι x x'->
 ∃y',(follow path t x').run tb.P w=.ok (r.1,y') w/\z6 ι r.2 y'
 | [],t,x,x',r,h,hx=>by
  simp only[xg,av]at h;subst h;exact⟨x',rfl,hx⟩
 |s::rest,t,x,x',r,h,hx=>by
  unfold xg at h;split at h
  .rename_i fs hd;split at h
   .rename_i f hf;have hf':fs[s.index]?=U f:=by rw[<-fW];exact hf
    obtain⟨n,h1,h2⟩:=R.aF h;clear h;split at h2
    .rename_i hdr;obtain⟨v,h3,h4⟩:=R.aF h2;obtain⟨v',e1,rv⟩:=BM ok hr h3 hx;split at h4
     .rename_i a;split at h4
      .rename_i hsp;cases hb:aL n 0 with
       |true=>rw[hb]at h4;cases h4
       |false=>
        rw[hb]at h4;simp only[ba]at h4;cases rv with
        |ptr hl=>
         rename_i b o l;obtain⟨y',e2,r2⟩:=CW hr h4 (.var (by
          have:=VR.ptr (ι:=ι) (o:=o+f.offset) hl;rw[yf]at this;exact this))
         refine⟨y',?_,r2⟩;simp only[follow,aP,bK ok hd,aQ,hf',hdr,bR,e1,asAddr,aW,fieldPlace,jB ok h1,aq (beq_false hb),om];exact e2
      .cases h4
     .cases h4
    .rename_i hdr;split at h2
     .rename_i a;split at h2
      .rename_i hsp;cases hb:aL n 0 with
       |true=>rw[hb]at h2;cases h2
       |false=>
        rw[hb]at h2;simp only[ba]at h2;cases hx with
        |var ha=>
         cases ha with
         |ptr hl=>
          rename_i b o l;obtain⟨y',e2,r2⟩:=CW hr h2 (.var (by
           have:=VR.ptr (ι:=ι) (o:=o+f.offset) hl;rw[yf]at this;exact this))
          refine⟨y',?_,r2⟩;simp only[follow,aP,bK ok hd,aQ,hf',hdr,ed,bO,aW,fieldPlace,jB ok h1,aq (beq_false hb),om];exact e2
      .cases h2
     .rename_i cs;obtain⟨v,h3,h4⟩:=R.aF h2;cases hx with
      |val hv=>
       cases hv with
       |agg hcs=>
        obtain⟨v',e1,rv⟩:=zd ok h3 hcs;obtain⟨y',e2,r2⟩:=CW hr h4 (.val rv);refine⟨y',?_,r2⟩;simp only[follow,aP,bK ok hd,aQ,hf',hdr,ed,bO,e1];exact e2
     .cases h2
   .cases h
  .cases h
include ok in
def RI (hr:Rel ι A w) {xt:aj} {x:Pl} {x':Place} {ptr:Bool} {wr:Option String} {v:O} (h:Gd tb A.get xt x ptr=.ok v) (hx:z6 ι x x'):
 ∃v',(receiverAt xt x' ptr wr).run tb.P w=.ok v' w/\VR ι v v':=by
 unfold Gd at h;split at h
 .rename_i e hd;obtain⟨v',e1,r⟩:=BM ok hr h hx;refine⟨v',?_,r⟩;simp only[receiverAt,aP,bK ok hd,aQ];exact e1
 .rename_i elem hd;obtain⟨u,h1,h2⟩:=R.aF h;obtain⟨u',e1,ru⟩:=BM ok hr h1 hx;split at h2
  .rename_i a;have ru0:=ru;cases ru with
   |ptr hl=>
    obtain⟨v',e2,rv⟩:=C_ ok hr h2 ru0;refine⟨v',?_,rv⟩;have e3:∀(nm:String) (p:Addr),(Builtin.ssaWrapNilChk_ #[xt] xt #[.pointer (some p),strVal "",strVal nm]).run tb.P w=.ok (.pointer (some p)) w:=λ nm p=>rfl
    simp only[Instr.loadAt,Instr.sureAddr,aP,aW,aQ]at e2;cases wr with
    |none=>
     simp only[receiverAt,aP,bK ok hd,aQ,e1,aW,asAddr];exact e2
    |some nm=>
     simp only[receiverAt,aP,bK ok hd,aQ,e1,e3,asAddr,aW];exact e2
  .cases h2
 .rename_i d hne a hd;simp only[av]at h;subst h;cases hx with
  |var ha=>
   refine⟨_,?_,ha⟩;simp only[receiverAt,aP,bK ok hd,aQ];cases d<;>first|rfl|exact aZ rfl (hne _)
 .cases h
 .rename_i d hne hd;obtain⟨v',e1,r⟩:=BM ok hr h hx;refine⟨v',?_,r⟩;simp only[receiverAt,aP,bK ok hd,aQ];cases d<;>first|(cases hx<;>exact e1)|exact aZ rfl (hne _)
 .cases h
end
section
variable {tb:aO}(ok:dP tb){ι:a8}{A:Mem}{w:aG}
include ok in
theorem Qa (hr:Rel ι A w):∀(d:Nat) {t:aj} {v v':O} {name:String} {f:FuncId} {r:O},FZ tb A.get d t v name=.ok (f,r)->VR ι v v'->∀e,d<=e->
 ∃r',(method e t v' name).run tb.P w=.ok (f,r') w/\VR ι r r'
 |0,t,v,v',name,f,r,h,_,_,_=>by cases h
 |d+1,t,v,v',name,f,r,h,hv,e,hle=>by
  obtain⟨e,rfl⟩:∃e',e=e'+1:=⟨e-1,by omega⟩;unfold FZ at h;split at h
  .cases h
  .rename_i i hi;split at h
   .cases h
   .rename_i m hm;have hm':i.methods.find? (λ m=>m.name==name)=U m:=by rw[<-Array.find?_toList];exact hm
    obtain⟨⟨xt,x⟩,h1,h2⟩:=R.aF h;obtain⟨y',e1,hy⟩:=CW ok hr h1 (.val hv);simp only at e1 hy h2;split at h2
    .rename_i hf;obtain⟨u,h3,h4⟩:=R.aF h2;obtain⟨u',e2,hu⟩:=BM ok hr h3 hy;split at h4
     .rename_i t' v0;cases hu with
      |iface hv0=>
       obtain⟨r',e3,hr'⟩:=Qa hr d h4 hv0 e (by omega);refine⟨r',?_,hr'⟩;simp only[method,aP,sK ok hi,aQ,hm',e1,hf,e2];exact e3
     .cases h4
    .rename_i g ptr hf;obtain⟨u,h3,h4⟩:=R.aF h2;simp only[av,bf]at h4;obtain⟨rfl,rfl⟩:=h4;obtain⟨r',e2,hr'⟩:=RI ok hr (wr:=if m.path.isEmpty then some ((name.splitOn ".").getLastD name)else none) h3 hy;refine⟨r',?_,hr'⟩;simp only[method,aP,sK ok hi,aQ,hm',e1,hf,e2,aW]
def xS(P:cI)(ι:a8)(w:aG)(cl:Cl)(s:Sem Next):Prop:=
 match cl with
 |.fn f args=>∃args':Array O,s.run P w=(callFunc f args').run P w/\bn ι args args'.toList
 |.round l args=>∃(ld:Loc) (args':Array O),ι l=U ld/\s.run P w=(Instr.yield ld.blk args').run P w/\bn ι args args'.toList
include ok in
def FY (hr:Rel ι A w) {recv recv':O} {name:String} {args:List O} {args':Array O} {cl:Cl} (h:tQ tb A.get recv name args=.ok cl) (hv:VR ι recv recv') (ha:bn ι args args'.toList):
 xS tb.P ι w cl (callMethod recv' name args'):=by
 unfold tQ at h;split at h
 .rename_i t v;obtain⟨⟨f,r⟩,h1,h2⟩:=R.aF h;simp only[av]at h2;subst h2;cases hv with
  |iface hv0=>
   obtain⟨r',e,hr'⟩:=Qa ok hr 100 h1 hv0 (tb.P.types.size+Made.depth) (by unfold Made.depth;omega);refine⟨#[r']++args',?_,by simpa using bn.cons hr' ha⟩
   simp only[callMethod,aP,run_program,aQ,e]
 .cases h
include ok in
def Nb (hr:Rel ι A w) {v v':O} {args:List O} {args':Array O} {cl:Cl} (h:tK tb A.get v args=.ok cl) (hv:VR ι v v') (ha:bn ι args args'.toList):
 xS tb.P ι w cl (do let d<-Deferred.ofValue v' args';invoke d.target d.args):=by
 unfold tK at h;split at h
 .rename_i f first cap
  simp only[av]at h;subst h;cases hv with
  |func hf h1 h2=>
   rename_i a' b';refine⟨a'++args'++b',?_,?_⟩
   .simp only[Deferred.ofValue,aP,aW,aQ,invoke]
   .simpa using (h1.append ha).append h2
 .rename_i l first cap
  simp only[av]at h;subst h;cases hv with
  |func hf _ _=>exact hf.elim
  |yield hl=>
   refine⟨_,args',hl,?_,ha⟩;simp only[Deferred.ofValue,aP,aW,aQ,invoke];congr 1;congr 1;simp
 .rename_i name first cap
  cases hv with
  |func hf h1 h2=>
   rename_i a' b';have hall:=h1.append ha;split at h
   .rename_i recv rest heq;rw[heq]at hall;obtain⟨recv',t',e,hrv,hrest⟩:=hall.cons_inv;have he:(a'++args')=(recv'::t').toArray:=by apply m8;simpa using e
    have hm:=FY ok hr h hrv (by simpa using hrest);have hrun:(do let d<-Deferred.ofValue (.func (.method name) a' b') args';invoke d.target d.args:Sem Next).run tb.P w=(callMethod recv' name t'.toArray).run tb.P w:=by
     simp only[Deferred.ofValue,aP,aW,aQ,invoke,he];simp
    cases cl with
    |fn f args0=>obtain⟨x,e1,e2⟩:=hm;exact⟨x,hrun.trans e1,e2⟩
    |round l args0=>obtain⟨x,y,e0,e1,e2⟩:=hm;exact⟨x,y,e0,hrun.trans e1,e2⟩
   .cases h
 .rename_i t name first cap
  cases hv with
  |func hf h1 h2=>
   rename_i a' b';have hall:=h1.append ha;split at h
   .rename_i recv rest heq;rw[heq]at hall;obtain⟨recv',t',e,hrv,hrest⟩:=hall.cons_inv;have he:(a'++args')=(recv'::t').toArray:=by apply m8;simpa using e
    split at h
    .rename_i ms hd;have hm:=FY ok hr h hrv (by simpa using hrest);have hrun:(do let d<-Deferred.ofValue (.func (.methodOf t name) a' b') args';invoke d.target d.args:Sem Next).run tb.P w=(callMethod recv' name t'.toArray).run tb.P w:=by
      simp only[Deferred.ofValue,aP,aW,aQ,invoke,he];simp[bK ok hd]
     cases cl with
     |fn f args0=>obtain⟨x,e1,e2⟩:=hm;exact⟨x,hrun.trans e1,e2⟩
     |round l args0=>obtain⟨x,y,e0,e1,e2⟩:=hm;exact⟨x,y,e0,hrun.trans e1,e2⟩
    .rename_i d hne hd;have hm:=FY ok hr h (.iface hrv) (by simpa using hrest);have hrun:(do let d<-Deferred.ofValue (.func (.methodOf t name) a' b') args';invoke d.target d.args:Sem Next).run tb.P w=(callMethod (.iface t recv') name t'.toArray).run tb.P w:=by
      simp only[Deferred.ofValue,aP,aW,aQ,invoke,he];simp[bK ok hd]
     cases cl with
     |fn f args0=>obtain⟨x,e1,e2⟩:=hm;exact⟨x,hrun.trans e1,e2⟩
     |round l args0=>obtain⟨x,y,e0,e1,e2⟩:=hm;exact⟨x,y,e0,hrun.trans e1,e2⟩
    .cases h
   .cases h
 .rename_i t path f ptr first cap
  cases hv with
  |func hf h1 h2=>
   rename_i a' b';have hall:=h1.append ha;split at h
   .rename_i x rest heq;rw[heq]at hall;obtain⟨x',t',e,hxv,hrest⟩:=hall.cons_inv;have he:(a'++args')=(x'::t').toArray:=by apply m8;simpa using e
    obtain⟨⟨xt,y⟩,h3,h4⟩:=R.aF h;obtain⟨r,h5,h6⟩:=R.aF h4;simp only[av]at h6;subst h6;obtain⟨y',e1,hy⟩:=CW ok hr h3 (.val hxv);obtain⟨r',e2,hr'⟩:=RI ok hr h5 hy;refine⟨#[r']++t'.toArray,?_,by simpa using bn.cons hr' hrest⟩
    have hrv:(receiverVia t x' path ptr).run tb.P w=.ok r' w:=by
     simp only[receiverVia,aP,e1,aQ];exact e2
    simp only[Deferred.ofValue,aP,aW,aQ,invoke,he];simp[hrv]
   .cases h
 .cases h
include ok in
def Nj (hr:Rel ι A w) {n:Nat} {τ:T O} {a:Act} {o:Oper} {c:Call} {cl:Cl} (hc:qf o.op=U c) (h:qc tb τ A.get c=.ok cl) (ht:TR ι n τ a.tmps):
 xS tb.P ι w cl (execOp a.eval o):=by
 have hop:o.op=.call c/\∀b,c.callee≠.builtin b:=by
  unfold qf at hc;split at hc
  .rename_i c0 ho;split at hc
   .cases hc
   .rename_i hb;simp only[eM]at hc;subst hc;exact⟨ho,λ b hb'=>hb b hb'⟩
  .cases hc
 obtain⟨hop,hnb⟩:=hop;unfold qc at h;obtain⟨args,h1,h2⟩:=R.aF h;have ha:=yV h1 ht;have ha':bn ι args (c.args.map a.eval).toList:=by simpa using ha
 split at h2
 .rename_i f hcal;obtain⟨fv,h3,h4⟩:=R.aF h2;have:=Nb ok hr h4 (dg h3 ht) ha';have e:execOp a.eval o=(do let d<-Deferred.ofValue (a.eval f) (c.args.map a.eval);invoke d.target d.args):=by
   simp only[execOp,hop,resolve,hcal]
  rw[e];exact this
 .rename_i r name hcal;obtain⟨rv,h3,h4⟩:=R.aF h2;obtain⟨L,hL⟩:∃L:List O,c.args.map a.eval=L.toArray:=⟨_,(Array.toArray_toList).symm⟩;rw[hL]at ha';have hm:=FY ok hr h4 (dg h3 ht) ha';have e:(execOp a.eval o).run tb.P w=(callMethod (a.eval r) name L.toArray).run tb.P w:=by
   have he: #[a.eval r]++L.toArray=(a.eval r::L).toArray:=by apply m8;simp
   simp only[execOp,hop,resolve,hcal,aP,aW,aQ,invoke,hL,he];simp
  cases cl with
  |fn f args0=>obtain⟨x,e1,e2⟩:=hm;exact⟨x,e.trans e1,e2⟩
  |round l args0=>obtain⟨x,y,e0,e1,e2⟩:=hm;exact⟨x,y,e0,e.trans e1,e2⟩
 .cases h2
end
section
variable {tb:aO}(ok:dP tb){ι:a8}{P:cI}
section steps
variable {b:Frame}{a:Act}{k:List Item}{cs:List Frame}{w w':aG}{ops:Array Oper}{i:Nat}{rest:List Nat}{o:Oper}
variable {v':O}
def zm{nx:Next}(ho:ops[i]?=U o)(hw:Region.wanted o (yielded ops a.tmps)=aa)(hnd:∀c,o.op≠.defer c)(hr:(execOp a.eval o).run P w=.ok nx w')(hn:Eo nx v'):
 step P (lone (b.atR a (.inRegion ops (i::rest)::k)) cs w)=.next (lone (b.atR (a.put o.dst v') (.inRegion ops rest::k)) cs w'):=by
 have hg:=stepGR_op (P:=P) (b:=b) (k:=k) (cs:=cs) (w:=w) (rest:=rest) ho hw;rw[Oper.semAt_eq _ _ _ hnd]at hg;have hfin:∀v,(b.atR a (.inRegion ops (i::rest)::k)).finish v=b.atR (a.put o.dst v) (.inRegion ops rest::k):=by
  intro v;rw[Frame.finish_atR,ho];rfl
 refine step_lone_go ?_;rw[hg];rcases hn with rfl|⟨rfl,rfl⟩
 .simp[stepG.apply,hr,hfin]
 .simp[stepG.apply,hr,hfin]
def Tz{f:FuncId}{args:Array O}(ho:ops[i]?=U o)(hw:Region.wanted o (yielded ops a.tmps)=aa)(hnd:∀c,o.op≠.defer c)(hr:(execOp a.eval o).run P w=.ok (.enter f args) w'):
 step P (lone (b.atR a (.inRegion ops (i::rest)::k)) cs w)=.next (lone (Frame.enter P f args .normal) (b.atR a (.inRegion ops (i::rest)::k)::cs) w'):=by
 have hg:=stepGR_op (P:=P) (b:=b) (k:=k) (cs:=cs) (w:=w) (rest:=rest) ho hw;rw[Oper.semAt_eq _ _ _ hnd]at hg;refine step_lone_go ?_;rw[hg];simp[stepG.apply,hr,Frame.atR]
def qhT{l f:Nat}{t:Array O}{qjX bd:aH}(ho:ops[i]?=U o)(hw:Region.wanted o (yielded ops a.tmps)=aa)(hnd:∀c,o.op≠.defer c)(hr:(execOp a.eval o).run P w=.ok (.round l f t qjX bd) w'):
 step P (lone (b.atR a (.inRegion ops (i::rest)::k)) cs w)=.next (lone (Frame.round l f t qjX bd .normal) (b.atR a (.inRegion ops (i::rest)::k)::cs) w'):=by
 have hg:=stepGR_op (P:=P) (b:=b) (k:=k) (cs:=cs) (w:=w) (rest:=rest) ho hw;rw[Oper.semAt_eq _ _ _ hnd]at hg;refine step_lone_go ?_;rw[hg];simp[stepG.apply,hr]
def qhQ{v:O}(ho:ops[i]?=U o)(hw:Region.wanted o (yielded ops a.tmps)=aa)(hnd:∀c,o.op≠.defer c)(hr:(execOp a.eval o).run P w=.halt (.panic v) w'):
 step P (lone (b.atR a (.inRegion ops (i::rest)::k)) cs w)=.next (lone {b.atR a (.inRegion ops (i::rest)::k)with mode:=.panicking [{v:=v,recovered:=af}]} cs w'):=by
 have hg:=stepGR_op (P:=P) (b:=b) (k:=k) (cs:=cs) (w:=w) (rest:=rest) ho hw;rw[Oper.semAt_eq _ _ _ hnd]at hg;refine step_lone_go ?_;rw[hg];simp[stepG.apply,hr,Frame.raise_atR]
end steps
def zD(P:cI)(s:Sem Next)(w:aG)(v':O)(w':aG)(fr:Frame)(cs:List Frame):Prop:=
 s.run P w=.ok (.value v') w'\/
 (∃f args,s.run P w=.ok (.enter f args) w/\Steps P (lone (Frame.enter P f args .normal) (fr::cs) w) (lone (fr.finish v') cs w'))\/
 (∃l f t qjX bd,s.run P w=.ok (.round l f t qjX bd) w/\Steps P (lone (Frame.round l f t qjX bd .normal) (fr::cs) w) (lone (fr.finish v') cs w'))
def G8(P:cI)(s:Sem Next)(w:aG)(v':O)(w':aG)(fr:Frame)(cs:List Frame):Prop:=
 ∃f args,s.run P w=.ok (.enter f args) w/\Steps P (lone (Frame.enter P f args .normal) (fr::cs) w) (lone (fr.raise [{v:=v',recovered:=af}]) cs w')
variable {v':O}
def G8.op{b:Frame}{a:Act}{k:List Item}{cs:List Frame}{w w':aG}{ops:Array Oper}{i:Nat}{rest:List Nat}{o:Oper}
 (ho:ops[i]?=U o)(hw:Region.wanted o (yielded ops a.tmps)=aa)(hnd:∀c,o.op≠.defer c)(h:G8 P (execOp a.eval o) w v' w' (b.atR a (.inRegion ops (i::rest)::k)) cs):
 Steps P (lone (b.atR a (.inRegion ops (i::rest)::k)) cs w) (lone {b.atR a (.inRegion ops (i::rest)::k)with mode:=.panicking [{v:=v',recovered:=af}]} cs w'):=by
 obtain⟨f,args,h1,h2⟩:=h;rw[Frame.raise_atR]at h2;exact .head (Tz ho hw hnd h1) h2
def zD.op{b:Frame}{a:Act}{k:List Item}{cs:List Frame}{w w':aG}{ops:Array Oper}{i:Nat}{rest:List Nat}{o:Oper}
 (ho:ops[i]?=U o)(hw:Region.wanted o (yielded ops a.tmps)=aa)(hnd:∀c,o.op≠.defer c)(h:zD P (execOp a.eval o) w v' w' (b.atR a (.inRegion ops (i::rest)::k)) cs):
 Steps P (lone (b.atR a (.inRegion ops (i::rest)::k)) cs w) (lone (b.atR (a.put o.dst v') (.inRegion ops rest::k)) cs w'):=by
 have hfin:(b.atR a (.inRegion ops (i::rest)::k)).finish v'=b.atR (a.put o.dst v') (.inRegion ops rest::k):=by
  rw[Frame.finish_atR,ho];rfl
 rcases h with h1|⟨f,args,h1,h2⟩|⟨l,f,t,qjX,bd,h1,h2⟩
 .exact .one (zm ho hw hnd h1 (.inl rfl))
 .have:=h2;rw[hfin]at this;exact .head (Tz ho hw hnd h1) this
 .have:=h2;rw[hfin]at this;exact .head (qhT ho hw hnd h1) this
def VR.qdl{a:Addr}(h:VR ι (.pointer (U a)) v'):∃p,v'=.pointer (U p):=by
 cases h;exact⟨_,rfl⟩
include ok in
theorem KB {A:Mem} {w:aG} (hr:Rel ι A w) {n:Nat} {τ:T O} {t:Array O} (ht:TR ι n τ t):∀{rs:List ResultVar} {vs:List O},eC tb τ A.get rs=.ok vs->
 ∃vs',(rs.mapM λ
  |.tmp i=>pure (t.getD i undef)
  |.cell i ty=>do loadVar ty (<-asAddr (t.getD i undef)):Sem (List O)).run tb.P w=.ok vs' w/\bn ι vs vs'
 | [],vs,h=>by
  simp only[eC,av]at h;subst h;exact⟨[],rfl,.nil⟩
 |.tmp i::rs,vs,h=>by
  unfold eC at h;obtain⟨v,h1,h2⟩:=R.aF h;obtain⟨us,h3,h4⟩:=R.aF h2;simp only[av]at h4;subst h4;obtain⟨us',e,r⟩:=KB hr ht h3;have hv:=dg (a:=⟨t,[]⟩) h1 ht;refine⟨_::us',?_,.cons hv r⟩;simp only[List.mapM_cons,aP,aW,aQ,e];rfl
 |.cell i ty::rs,vs,h=>by
  unfold eC at h;obtain⟨ad,h1,h2⟩:=R.aF h;obtain⟨v,h3,h4⟩:=R.aF h2;obtain⟨us,h5,h6⟩:=R.aF h4;simp only[av]at h6;subst h6;obtain⟨us',e,r⟩:=KB hr ht h5;have hv:=dg (a:=⟨t,[]⟩) h1 ht;obtain⟨v',e1,rv⟩:=C_ ok hr h3 hv;refine⟨v'::us',?_,.cons rv r⟩;obtain⟨p,hp⟩:∃p,Act.eval ⟨t,[]⟩ (.tmp i)=.pointer (U p):=by
   unfold ax at h3;split at h3
   .exact hv.qdl
   .cases h3
  rw[hp]at e1;have hp':t.getD i undef=.pointer (U p):=hp;have e3:(loadVar ty p).run tb.P w=.ok v' w:=by
   simpa only[Instr.loadAt,Instr.sureAddr,aP,aW,aQ]using e1
  have e4:(asAddr (t.getD i undef)).run tb.P w=.ok p w:=by rw[hp'];rfl
  simp only[List.mapM_cons,aP,e4,aW,aQ,e3,e]
variable {vs:List O}
def qcQ{vs':List O}(h:bn ι vs vs'):VR ι (oneOf vs) (if h:vs'.toArray.size=1 then vs'.toArray[0]else .tuple vs'.toArray):=by
 cases h with
 |nil=>exact .tuple .nil
 |cons hv ht=>
  cases ht with
  |nil=>exact hv
  |cons hv2 ht2=>
   rw[dif_neg (by simp)];exact .tuple (.cons hv (.cons hv2 ht2))
include ok in
def KC {A:Mem} {w:aG} (hr:Rel ι A w) {n:Nat} {τ:T O} {t:Array O} (ht:TR ι n τ t) {fn:Func} {vs:List O} (h:eC tb τ A.get fn.results.toList=.ok vs):
 ∃v',(results fn t).run tb.P w=.ok v' w/\VR ι (oneOf vs) v':=by
 obtain⟨vs',e,r⟩:=KB ok hr ht h;refine⟨_,?_,qcQ r⟩;unfold results;rw[Array.mapM_eq_mapM_toList];simp only[aP,Sem.run_map];refine(cV (λ q=>Result.andThen (Result.andThen q _) _) e).trans ?_;rfl
def DR(ι:a8):List Nat->List Deferred->List Deferred->Prop
 | [],ds,base=>ds=base
 |b::bs,d::ds,base=>(∃l,ι b=U l/\d={target:=.collected l.blk,args:= #[]})/\DR ι bs ds base
 |_::_,[],_=>False
variable {ι':a8}
theorem DR.mono{ι:a8}(hi:gX ι ι'):∀{bs:List Nat} {ds base:List Deferred},DR ι bs ds base->DR ι' bs ds base
 | [],_,_,h=>h
 |_::_,_::_,_,⟨⟨l,hl,hd⟩,h⟩=>⟨⟨l,hi _ _ hl,hd⟩,DR.mono hi h⟩
 |_::_,[],_,h=>h.elim
theorem GH(P:cI){b:Frame}{t:Array O}{todo:List Item}{cs:List Frame}:∀{bs:List Nat} {ds base:List Deferred} {A A':Mem} {w:aG},gU bs A=.ok A'->DR ι bs ds base->Rel ι A w->
 ∃w',Steps P (lone {b.atR ⟨t,ds⟩ todo with mode:=.returning} cs w) (lone {b.atR ⟨t,base⟩ todo with mode:=.returning} cs w')/\Rel ι A' w'/\bZ ι A w ι A' w'
 | [],ds,base,A,A',w,h,hd,hr=>by
  simp only[gU,av]at h;subst h;cases (show ds=base from hd);exact⟨w,.refl P _,hr,bZ.refl ι A w⟩
 |_::_,[],_,_,_,_,_,h,_=>h.elim
 |x::bs,d::ds,base,A,A',w,h,⟨⟨l,hl,hd⟩,hds⟩,hr=>by
  unfold gU at h;split at h
  .rename_i hg;obtain⟨o',hw,rfl⟩:=hr.obs _ _ _ hg rfl hl;obtain⟨w1,r1,r2,r3⟩:=xG (o':=.deferred Y) hw (by simp) P;obtain⟨hrel,hst⟩:=hr.sU (ob:=.dead) hg rfl hl (re hg λ _ _ _ h=>by cases h) (λ _ _ _ h=>by cases h) r2 r3 trivial;obtain⟨w',s2,hrel2,hst2⟩:=GH P h hds hrel;refine⟨w',.head ?_ s2,hrel2,hst.trans hst2⟩;have htake:(Instr.takeDeferred l.blk).run P w=.ok [] w1:=by
    simp only[Instr.takeDeferred,aP,lr hw (by simp),aQ,r1,aW]
   refine step_lone_go ?_;subst hd;simp[stepG,unwind,Frame.atR,Sem.runT_eq,htake]
  .cases h
end
section
variable {tb:aO}(ok:dP tb){ih:aH->St->R (Ex×St)}{ι:a8}
def BN(ι:a8)(ro:Option Nat)(r:Option Nat):Prop:=
 match ro with
 |none=>r=Y
 |some l=>∃ld,ι l=U ld/\r=U ld.blk
variable {ι':a8}
def BN.mono{ι:a8}(hi:gX ι ι'){ro r:Option Nat}(h:BN ι ro r):BN ι' ro r:=by
 cases ro with
 |none=>exact h
 |some l=>obtain⟨ld,h1,h2⟩:=h;exact⟨ld,hi _ _ h1,h2⟩
structure SR (ι:a8) (s:St) (b:Frame) (a:Act) (w:aG):Prop where
 rel:Rel ι s.m w
 tr:TR ι s.n s.t a.tmps
 ro:BN ι s.ro b.roundOf
 dr:DR ι s.d a.defers b.defers
structure ni (ι:a8) (s:St) (w:aG) (ι':a8) (s':St) (w':aG):Prop where
 fT:bZ ι s.m w ι' s'.m w'
 n:s'.n=s.n
 ro:s'.ro=s.ro
def ni.refl(ι:a8)(s:St)(w:aG):ni ι s w ι s w:=⟨bZ.refl _ _ _,rfl,rfl⟩
variable {s1:St}
def ni.trans{ι ι1 ι2:a8}{s s2:St}{w w1 w2:aG}(h:ni ι s w ι1 s1 w1)(k:ni ι1 s1 w1 ι2 s2 w2):ni ι s w ι2 s2 w2:=
 ⟨h.fT.trans k.fT,k.n.trans h.n,k.ro.trans h.ro⟩
variable {A A':Mem}{vs:List O}
def GD{a:Addr}(h:kQ A a vs=.ok A'):A'.next=A.next:=by
 unfold kQ at h;split at h
 .simp only[av]at h;rw[h]
 .split at h
  .obtain⟨_,_,h2⟩:=R.aF h;simp only[av]at h2;subst h2;rfl
  .cases h
variable {base:Option Addr}{cap size n:Nat}
def Mm{elem:aj}{len:Nat}{new:List O}{v:O}(h4:gx tb A elem base len cap size n new=.ok (v,A')):A.next<=A'.next:=by
 unfold gx at h4;revert h4;generalize (au _ (bH _))=q;intro h4;cases q with
 |true=>
  simp only[aI]at h4;split at h4
  .simp only[av,bf]at h4;rw[h4.2];exact aJ _
  .split at h4
   .cases h4
   .obtain⟨A2,e,h5⟩:=R.aF h4;simp only[av,bf]at h5;rw[<-h5.2,GD e];exact aJ _
 |false=>
  simp only[ba]at h4;split at h4
  .cases h4
  .revert h4;generalize (au _ 16777216&&_&&_&&_&&_)=q;intro h4;cases q with
   |false=>cases h4
   |true=>
    simp only[aI]at h4;obtain⟨old,_,h5⟩:=R.aF h4;clear h4;revert h5;generalize dH _=q;intro h5;cases q with
    |true=>
     simp only[aI,av,bf]at h5;rw[<-h5.2,aA];omega
    |false=>
     simp only[ba]at h5;split at h5
     .revert h5;generalize (aL (gM _) _&&_)=q;intro h5;cases q with
      |false=>cases h5
      |true=>
       simp only[aI]at h5;split at h5
       .revert h5;generalize (au _ _&&(aL _ _&&aM _ _))=q;intro h5;cases q with
        |false=>cases h5
        |true=>
         simp only[aI]at h5;split at h5
         .cases h5
         .cases h5
         .simp only[av,bf]at h5;rw[<-h5.2,aA,cE];omega
       .cases h5
     .cases h5
def Vj{st xt:aj}{s x v:O}(h:dm tb A st xt s x=.ok (v,A')):A.next<=A'.next:=by
 unfold dm at h;split at h
 .rename_i xd _ _;cases hx:jx xd with
  |true=>
   rw[hx,aI]at h;unfold Ew at h;obtain⟨⟨_,_⟩,_,h2⟩:=R.aF h;obtain⟨n,_,h3⟩:=R.aF h2;split at h3
   .cases h3
   .revert h3;generalize (au n _&&_)=q;intro h3;cases q with
    |false=>cases h3
    |true=>exact Mm h3
  |false=>
   rw[hx]at h;simp only[ba]at h;obtain⟨⟨_,_⟩,_,h2⟩:=R.aF h;obtain⟨n,_,h3⟩:=R.aF h2;obtain⟨new,_,h4⟩:=R.aF h3;exact Mm h4
 .cases h
def P8{t:aj}{m k v:O}(h:mw tb A t m k v=.ok A'):A'.next=A.next:=by
 unfold mw at h;split at h
 .rename_i kt _ _ _;cases hk:e_ tb kt k with
  |false=>rw[hk]at h;cases h
  |true=>
   rw[hk]at h;simp only[aI]at h;split at h
   .split at h<;>first
     |(simp only[av]at h;subst h;rfl)
     |cases h
   .cases h
 .cases h
def qbn{τ:T O}{o:Op}{v:O}(h:jX tb τ A o=.ok (v,A')):A.next<=A'.next:=by
 unfold jX at h;split at h
 .obtain⟨_,_,h2⟩:=R.aF h;obtain⟨_,_,h3⟩:=R.aF h2;obtain⟨A2,h4,h5⟩:=R.aF h3;simp only[av,bf]at h5;obtain⟨_,rfl⟩:=h5;unfold bX at h4;split at h4
  .obtain⟨n,_,h6⟩:=R.aF h4;revert h6;generalize aL _ n=q;intro h6;cases q with
   |false=>cases h6
   |true=>rw[GD h6];exact aJ _
  .cases h4
 .obtain⟨_,_,h2⟩:=R.aF h;obtain⟨_,_,h3⟩:=R.aF h2;obtain⟨_,_,h4⟩:=R.aF h3;obtain⟨A2,h5,h6⟩:=R.aF h4;simp only[av,bf]at h6;obtain⟨_,rfl⟩:=h6;rw[P8 h5];exact aJ _
 .obtain⟨_,_,h2⟩:=R.aF h;obtain⟨_,_,h3⟩:=R.aF h2;obtain⟨_,_,h4⟩:=R.aF h3;obtain⟨A2,h5,h6⟩:=R.aF h4;simp only[av,bf]at h6;obtain⟨_,rfl⟩:=h6;rw[P8 h5];exact aJ _
 .obtain⟨_,_,h2⟩:=R.aF h;unfold qn at h2;split at h2
  .simp only[av,bf]at h2;rw[<-h2.2,aA];omega
  .split at h2
   .simp only[av,bf]at h2;rw[<-h2.2,aA];omega
   .cases h2
  .simp only[av,bf]at h2;rw[<-h2.2,aA];omega
  .cases h2
 .obtain⟨_,_,h2⟩:=R.aF h;unfold y9 at h2;split at h2
  .split at h2
   .revert h2;generalize aM _ _=q;intro h2;cases q with
    |true=>simp only[aI,av,bf]at h2;rw[<-h2.2,cE];exact aJ _
    |false=>simp only[ba,av,bf]at h2;rw[h2.2];exact aJ _
   .cases h2
  .split at h2
   .split at h2
    .revert h2;generalize (_&&_)=q;intro h2;cases q with
     |true=>
      simp only[aI]at h2;split at h2
      .simp only[av,bf]at h2;rw[<-h2.2,cE];exact aJ _
      .revert h2;generalize aL _ _=q;intro h2;cases q with
       |true=>simp only[aI,av,bf]at h2;rw[h2.2];exact aJ _
       |false=>cases h2
     |false=>cases h2
    .cases h2
   .simp only[av,bf]at h2;rw[h2.2];exact aJ _
   .cases h2
  .cases h2
 .obtain⟨_,_,h2⟩:=R.aF h;unfold E9 at h2;split at h2
  .split at h2
   .split at h2
    .revert h2;generalize (_&&_)=q;intro h2;cases q with
     |true=>simp only[aI,av,bf]at h2;rw[h2.2];exact aJ _
     |false=>cases h2
    .cases h2
   .cases h2
  .cases h2
 .split at h
  .obtain⟨args,_,h2⟩:=R.aF h;unfold tD at h2;split at h2
   .exact Vj h2
   .unfold yR at h2;split at h2
    .obtain⟨_,_,h3⟩:=R.aF h2;obtain⟨_,_,h4⟩:=R.aF h3;obtain⟨_,_,h5⟩:=R.aF h4;split at h5
     .simp only[av,bf]at h5;rw[h5.2];exact aJ _
     .obtain⟨A2,e,h6⟩:=R.aF h5;simp only[av,bf]at h6;rw[<-h6.2,GD e];exact aJ _
    .cases h2
   .unfold EY at h2;split at h2
    .simp only[av,bf]at h2;rw[h2.2];exact aJ _
    .split at h2
     .simp only[av,bf]at h2;rw[<-h2.2,cE];exact aJ _
     .cases h2
    .simp only[av,bf]at h2;rw[h2.2];exact aJ _
    .revert h2;generalize aL _ 0=q;intro h2;cases q with
     |true=>simp only[aI,av,bf]at h2;rw[h2.2];exact aJ _
     |false=>
      simp only[ba]at h2;obtain⟨⟨_,_⟩,_,h3⟩:=R.aF h2;obtain⟨A2,e,h4⟩:=R.aF h3;simp only[av,bf]at h4;rw[<-h4.2,GD e];exact aJ _
    .cases h2
   .unfold Ai at h2;split at h2
    .revert h2;generalize e_ _ _ _=q;intro h2;cases q with
     |false=>cases h2
     |true=>simp only[aI,av,bf]at h2;rw[h2.2];exact aJ _
    .revert h2;generalize e_ _ _ _=q;intro h2;cases q with
     |false=>cases h2
     |true=>
      simp only[aI]at h2;split at h2
      .split at h2<;>first
        |(simp only[av,bf]at h2;rw[<-h2.2,cE];exact aJ _)
        |cases h2
      .cases h2
    .cases h2
   .unfold zx at h2;obtain⟨n,_,h3⟩:=R.aF h2;split at h3
    .split at h3
     .obtain⟨sz,_,h4⟩:=R.aF h3;revert h4;generalize (_&&_&&_&&au n 16777216&&_)=q;intro h4;cases q with
      |false=>cases h4
      |true=>
       simp only[aI]at h4;split at h4
       .split at h4
        .cases h4
        .obtain⟨_,_,h5⟩:=R.aF h4;simp only[av,bf]at h5;rw[<-h5.2,cE];exact aJ _
       .cases h4
     .cases h3
    .revert h3;generalize aL n 0=q;intro h3;cases q with
     |false=>cases h3
     |true=>
      simp only[aI,av,bf]at h3;rw[<-h3.2];exact aJ _
    .cases h3
   .cases h2
  .cases h
 .cases h
def rr(tb:aO)(ih:aH->St->R (Ex×St)):Prop:=
 ∀(cl:Cl) (A:Mem) (r:nh),cH tb ih cl A=.ok r->(∃v A',r=.dR v A'/\A.next<=A'.next/\∀(ι:a8) (w:aG) (s:Sem Next) (fr:Frame) (cs:List Frame),Rel ι A w->xS tb.P ι w cl s->ew ι A A'->
  ∃ι' w' v',G8 tb.P s w v' w' fr cs/\VR ι' v v'/\Rel ι' A' w'/\bZ ι A w ι' A' w')\/∃v A',r=.val v A'/\A.next<=A'.next/\∀(ι:a8) (w:aG) (s:Sem Next) (fr:Frame) (cs:List Frame),Rel ι A w->xS tb.P ι w cl s->ew ι A A'->
  ∃ι' w' v',zD tb.P s w v' w' fr cs/\VR ι' v v'/\Rel ι' A' w'/\bZ ι A w ι' A' w'
def Hy(P:cI)(ops:Array Oper)(i:Nat)(o:Oper)(s s1:St):Prop:=
 s.m.next<=s1.m.next/\∀(ι:a8) (b:Frame) (a:Act) (k:List Item) (cs:List Frame) (w:aG) (rest:List Nat),SR ι s b a w->ew ι s.m s1.m->Region.wanted o (yielded ops a.tmps)=aa->
  ops[i]?=U o->∃ι' w' a',Steps P (lone (b.atR a (.inRegion ops (i::rest)::k)) cs w) (lone (b.atR a' (.inRegion ops rest::k)) cs w')/\SR ι' s1 b a' w'/\ni ι s w ι' s1 w'
def U4(P:cI)(ops:Array Oper)(i:Nat)(o:Oper)(s:St)(v:O)(s1:St):Prop:=
 s.m.next<=s1.m.next/\∀(ι:a8) (b:Frame) (a:Act) (k:List Item) (cs:List Frame) (w:aG) (rest:List Nat),SR ι s b a w->ew ι s.m s1.m->Region.wanted o (yielded ops a.tmps)=aa->
  ops[i]?=U o->∃ι' w' v',Steps P (lone (b.atR a (.inRegion ops (i::rest)::k)) cs w) (lone {b.atR a (.inRegion ops (i::rest)::k)with mode:=.panicking [{v:=v',recovered:=af}]} cs w')/\
   VR ι' v v'/\SR ι' s1 b a w'/\ni ι s w ι' s1 w'
variable {dst:Option Tmp}
def Dq{s:St}{v:O}{k:St->R (Ex×St)}{r:Ex×St}(h:bS s dst v k=.ok r):
 ∃s1,k s1=.ok r/\s1.m=s.m/\s1.n=s.n/\s1.ro=s.ro/\s1.d=s.d/\∀ι (a:Act) v',TR ι s.n s.t a.tmps->VR ι v v'->TR ι s1.n s1.t (a.put dst v').tmps/\(a.put dst v').defers=a.defers:=by
 unfold bS at h;split at h
 .exact⟨s,h,rfl,rfl,rfl,rfl,λ ι a v' ht _=>⟨ht,rfl⟩⟩
 .rename_i d;cases hb:aM d s.n with
  |false=>rw[hb]at h;cases h
  |true=>
   rw[hb]at h;simp only[aI,Jq]at h;exact⟨_,h,rfl,rfl,rfl,rfl,λ ι a v' ht hv=>⟨ht.set (jK hb) hv,rfl⟩⟩
def AQ{o:Op}(h:cls tb o≠.L):∀c,o≠.defer c:=by
 rintro c rfl;exact h rfl
include ok in
def Kk (hcall:rr tb ih) {ops:Array Oper} {i:Nat} {o:Oper} {s:St} {k:St->R (Ex×St)} {r:Ex×St} (h:bB tb ih o s k=.ok r):
 (∃v s1,r=(.dR v,s1)/\U4 tb.P ops i o s v s1)\/∃s1,k s1=.ok r/\Hy tb.P ops i o s s1:=by
 unfold bB at h;split at h
 .rename_i c hc;obtain⟨cl,h1,h2⟩:=R.aF h;obtain⟨res,h3,h4⟩:=R.aF h2;split at h4
  .rename_i v A;obtain⟨s1,hk,hm,hn,hro,hd,hput⟩:=Dq h4;refine .inr ⟨s1,hk,?_⟩;rcases hcall cl s.m _ h3 with⟨_,_,he,_⟩|⟨v2,A2,he,hle,hsnd⟩
   .cases he
   .cases he;refine⟨by rw[hm];exact hle,λ ι b a k cs w rest hs hf hw ho=>?_⟩;have hcl:=Nj ok hs.rel hc h1 hs.tr;obtain⟨ι',w',v',hdone,hv,hrel,hst⟩:=hsnd ι w _ (b.atR a (.inRegion ops (i::rest)::k)) cs hs.rel hcl (by rw[hm]at hf;exact hf);have hi:=hst.le (by rw[hm]at hf;exact hf);have hnd:∀c,o.op≠.defer c:=by rintro c' he;rw[he]at hc;cases hc
    obtain⟨ht',hd'⟩:=hput ι' a v' (hs.tr.mono hi) hv;refine⟨ι',w',a.put o.dst v',hdone.op ho hw hnd,⟨by rw[hm];exact hrel,ht',by rw[hro];exact hs.ro.mono hi,by rw[hd,hd'];exact hs.dr.mono hi⟩,⟨by rw[hm];exact hst,hn,hro⟩⟩
  .rename_i v A;simp only[av]at h4;rcases hcall cl s.m _ h3 with⟨v2,A2,he,hle,hsnd⟩|⟨_,_,he,_⟩
   .cases he;refine .inl ⟨v,_,h4.symm,hle,λ ι b a k cs w rest hs hf hw ho=>?_⟩;have hcl:=Nj ok hs.rel hc h1 hs.tr;obtain⟨ι',w',v',hdone,hv,hrel,hst⟩:=hsnd ι w _ (b.atR a (.inRegion ops (i::rest)::k)) cs hs.rel hcl hf;have hi:=hst.le hf;have hnd:∀c,o.op≠.defer c:=by rintro c' he;rw[he]at hc;cases hc
    exact⟨ι',w',v',hdone.op ho hw hnd,hv,⟨hrel,hs.tr.mono hi,hs.ro.mono hi,hs.dr.mono hi⟩,⟨hst,rfl,rfl⟩⟩
   .cases he
 .rename_i hnc;have quiet:∀{v:O},bS s o.dst v k=.ok r->(∀c,o.op≠.defer c)->(∀ι (a:Act) w,Rel ι s.m w->TR ι s.n s.t a.tmps->∃v',(execOp a.eval o).run tb.P w=.ok (.value v') w/\VR ι v v')->
   ∃s1,k s1=.ok r/\Hy tb.P ops i o s s1:=by
   intro v h4 hnd hrun;obtain⟨s1,hk,hm,hn,hro,hd,hput⟩:=Dq h4;refine⟨s1,hk,by rw[hm];exact aJ _,λ ι b a k cs w rest hs hf hw ho=>?_⟩;obtain⟨v',e,hv⟩:=hrun ι a w hs.rel hs.tr;obtain⟨ht',hd'⟩:=hput ι a v' hs.tr hv;exact⟨ι,w,a.put o.dst v',.one (zm ho hw hnd e (.inl rfl)),⟨by rw[hm];exact hs.rel,ht',by rw[hro];exact hs.ro,by rw[hd,hd'];exact hs.dr⟩,⟨by rw[hm];exact bZ.refl _ _ _,hn,hro⟩⟩
  split at h
  .rename_i hcls;obtain⟨v,h1,h2⟩:=R.aF h;refine .inr (quiet h2 (AQ (by rw[hcls];simp)) λ ι a w _ ht=>?_);obtain⟨v',e,hv⟩:=Rl ok h1 ht;exact⟨v',e w,hv⟩
  .rename_i hcls;obtain⟨v,h1,h2⟩:=R.aF h;exact .inr (quiet h2 (AQ (by rw[hcls];simp)) λ ι a w hr ht=>RC ok hr h1 hcls ht)
  .rename_i hcls;obtain⟨⟨ob,way⟩,h1,h2⟩:=R.aF h;obtain⟨s1,hk,hm,hn,hro,hd,hput⟩:=Dq h2;simp only at hm hn hro hd hput;refine .inr ⟨s1,hk,by rw[hm,aA];omega,λ ι b a k cs w rest hs hf hw ho=>?_⟩;rw[hm]at hf;have hfn:=hf _ (aJ _) (by rw[aA];omega);obtain⟨ι',w',v',e,hv,hrel,hst⟩:=Mc ok hs.rel h1 hs.tr hfn;have hi:=hst.le hf;obtain⟨ht',hd'⟩:=hput ι' a v' (hs.tr.mono hi) hv;exact⟨ι',w',a.put o.dst v',.one (zm ho hw (AQ (by rw[hcls];simp)) e (.inl rfl)),⟨by rw[hm];exact hrel,ht',by rw[hro];exact hs.ro.mono hi,by rw[hd,hd'];exact hs.dr.mono hi⟩,⟨by rw[hm];exact hst,hn,hro⟩⟩
  .rename_i hcls;split at h
   .rename_i x hop;obtain⟨xv,h1,h2⟩:=R.aF h;split at h2
    .rename_i tx vx;simp only[av]at h2;refine .inl ⟨_,_,h2.symm,aJ _,λ ι b a k cs w rest hs hf hw ho=>?_⟩;have hv:=dg h1 hs.tr;have hnd:∀c,o.op≠.defer c:=by intro c he;rw[hop]at he;cases he
     obtain⟨v',hx',hv'⟩:∃v',a.eval x=.iface tx v'/\VR ι vx v':=by
      revert hv;generalize a.eval x=y;intro hv;cases hv with
      |iface h=>exact⟨_,rfl,h⟩
     refine⟨ι,w,.iface tx v',.one (qhQ ho hw hnd ?_),.iface hv',hs,ni.refl _ _ _⟩;rw[execOp,hop];simp only[hx',Instr.panic,aP];rfl
    .cases h2
   .obtain⟨⟨v,A⟩,h1,h2⟩:=R.aF h;obtain⟨s1,hk,hm,hn,hro,hd,hput⟩:=Dq h2;simp only at hm hn hro hd hput;have hnd:∀c,o.op≠.defer c:=by
     intro c he;rw[he]at h1;cases h1
    refine .inr ⟨s1,hk,by rw[hm];exact qbn h1,λ ι b a k cs w rest hs hf hw ho=>?_⟩;rw[hm]at hf;obtain⟨ι',w',nx,v',e,hnx,hv,hrel,hst⟩:=qbo ok hs.rel h1 hs.tr hf;have hi:=hst.le hf;obtain⟨ht',hd'⟩:=hput ι' a v' (hs.tr.mono hi) hv;exact⟨ι',w',a.put o.dst v',.one (zm ho hw hnd e hnx),⟨by rw[hm];exact hrel,ht',by rw[hro];exact hs.ro.mono hi,by rw[hd,hd'];exact hs.dr.mono hi⟩,⟨by rw[hm];exact hst,hn,hro⟩⟩
end
section
variable {tb:aO}(ok:dP tb){ih:aH->St->R (Ex×St)}{ι:a8}
variable {v':O}
def VR.Cn{b:Bool}(h:VR ι (.bool b) v'):v'=.bool b:=by cases h;rfl
def VR.qiu{x:Array O}(h:VR ι (.tuple x) v'):∃y,v'=.tuple y:=by cases h;exact⟨_,rfl⟩
variable {ops:Array Oper}{j:Nat}
def UK{t:Array O}{oj:Oper}{d:Tmp}{v:O}(hj:ops[j]?=U oj)(hd:oj.dst=U d)(hv:t[d]?=U v):
 yielded ops t j=match v with|.bool b=>U b|_=>Y:=by
 unfold yielded;rw[hj];simp only[wj,hd,hv];cases v<;>rfl
variable {n:Nat}
def GY{o:Oper}{τ:T O}{t:Array O}{b:Bool}(h:jc ops.toList o τ=.ok b)(ht:TR ι n τ t):
 Region.wanted o (yielded ops t)=b:=by
 unfold jc at h;unfold Region.wanted;split at h
 .rename_i hg;rw[hg];simp only[av]at h;exact h
 .rename_i j want hg;rw[hg];simp only
  split at h
  .rename_i oj hj;have hj':ops[j]?=U oj:=by rw[<-hj];simp
   split at h
   .rename_i d hd;split at h
    .rename_i c hc;obtain⟨v',e,r⟩:=ht.2 _ _ hc;rw[r.Cn]at e;rw[UK hj' hd e];simp only[av]at h;subst h;cases c<;>cases want<;>rfl
    .rename_i x hc;obtain⟨v',e,r⟩:=ht.2 _ _ hc;obtain⟨y,rfl⟩:=r.qiu;rw[UK hj' hd e];simp only[av]at h;subst h;cases want<;>rfl
    .cases h
    .cases h
   .cases h
  .cases h
def L2(P:cI)(ops:Array Oper)(l:List Nat)(s s1:St):Prop:=
 s.m.next<=s1.m.next/\∀(ι:a8) (b:Frame) (a:Act) (k:List Item) (cs:List Frame) (w:aG),SR ι s b a w->ew ι s.m s1.m->
  ∃ι' w' a',Steps P (lone (b.atR a (.inRegion ops l::k)) cs w) (lone (b.atR a' (.inRegion ops []::k)) cs w')/\SR ι' s1 b a' w'/\ni ι s w ι' s1 w'
def L0(P:cI)(ops:Array Oper)(l:List Nat)(s:St)(v:O)(s1:St):Prop:=
 s.m.next<=s1.m.next/\∀(ι:a8) (b:Frame) (a:Act) (k:List Item) (cs:List Frame) (w:aG),SR ι s b a w->ew ι s.m s1.m->
  ∃ι' w' a' k' v',Steps P (lone (b.atR a (.inRegion ops l::k)) cs w) (lone {b.atR a' k' with mode:=.panicking [{v:=v',recovered:=af}]} cs w')/\VR ι' v v'/\SR ι' s1 b a' w'/\ni ι s w ι' s1 w'
include ok in
theorem R0 (hcall:rr tb ih) {ops:Array Oper}:∀(l:List Oper) (i:Nat),(∀j,l[j]?=ops[i+j]?)->∀{s:St} {r:Ex×St},j7 tb ih ops.toList l s=.ok r->
 (∃v s1,r=(.dR v,s1)/\L0 tb.P ops (uf i (Z l)) s v s1)\/∃s1,r=(.nrm,s1)/\L2 tb.P ops (uf i (Z l)) s s1
 | [],i,_,s,r,h=>by
  have h':R.ok (Ex.nrm,s)=R.ok r:=h;simp only[av]at h';exact .inr ⟨s,h'.symm,aJ _,λ ι b a k cs w hs _=>⟨ι,w,a,.refl _ _,hs,ni.refl _ _ _⟩⟩
 |o::l,i,hl,s,r,h=>by
  have ho:ops[i]?=U o:=by have:=hl 0;simpa using this.symm
  have hl':∀j,l[j]?=ops[i+1+j]?:=λ j=>by
   have:=hl (j+1);rw[show i+1+j=i+(j+1) by omega];simpa using this
  have h':=h;obtain⟨wb,h1,h2⟩:=R.aF h';have hgo:∀{s1:St},j7 tb ih ops.toList l s1=.ok r->(s.m.next<=s1.m.next/\∀(ι:a8) (b:Frame) (a:Act) (k:List Item) (cs:List Frame) (w:aG),SR ι s b a w->ew ι s.m s1.m->
   ∃ι' w' a',Steps tb.P (lone (b.atR a (.inRegion ops (i::uf (i+1) (Z l))::k)) cs w) (lone (b.atR a' (.inRegion ops (uf (i+1) (Z l))::k)) cs w')/\SR ι' s1 b a' w'/\ni ι s w ι' s1 w')->
   (∃v s1,r=(.dR v,s1)/\L0 tb.P ops (uf i (o::l).length) s v s1)\/∃s1,r=(.nrm,s1)/\L2 tb.P ops (uf i (o::l).length) s s1:=by
   intro s1 hk ⟨hle,hone⟩;rcases R0 hcall l (i+1) hl' hk with⟨v,s2,h3,hle2,h4⟩|⟨s2,h3,hle2,h4⟩
   .refine .inl ⟨v,s2,h3,dp hle hle2,λ ι b a k cs w hs hf=>?_⟩;obtain⟨ι1,w1,a1,st1,hs1,hss1⟩:=hone ι b a k cs w hs (hf.left hle2);obtain⟨ι2,w2,a2,k2,v2,st2,hv2,hs2,hss2⟩:=h4 ι1 b a1 k cs w1 hs1 (hf.right hss1.fT);exact⟨ι2,w2,a2,k2,v2,st1.trans st2,hv2,hs2,hss1.trans hss2⟩
   .refine .inr ⟨s2,h3,dp hle hle2,λ ι b a k cs w hs hf=>?_⟩;obtain⟨ι1,w1,a1,st1,hs1,hss1⟩:=hone ι b a k cs w hs (hf.left hle2);obtain⟨ι2,w2,a2,st2,hs2,hss2⟩:=h4 ι1 b a1 k cs w1 hs1 (hf.right hss1.fT);exact⟨ι2,w2,a2,st1.trans st2,hs2,hss1.trans hss2⟩
  cases wb with
  |true=>
   rw[aI]at h2;rcases Kk ok hcall h2 with⟨v,s1,h3,hle,h4⟩|⟨s1,hk,hle,h3⟩
   .refine .inl ⟨v,s1,h3,hle,λ ι b a k cs w hs hf=>?_⟩;obtain⟨ι1,w1,v1,st1,hv1,hs1,hss1⟩:=h4 ι b a k cs w (uf (i+1) (Z l)) hs hf (GY h1 hs.tr) ho;exact⟨ι1,w1,a,_,v1,st1,hv1,hs1,hss1⟩
   .exact hgo hk ⟨hle,λ ι b a k cs w hs hf=>h3 ι b a k cs w _ hs hf (GY h1 hs.tr) ho⟩
  |false=>
   rw[ba]at h2;obtain⟨s1,hk,hm,hn,hro,hd,hput⟩:=Dq h2;refine hgo hk ⟨by rw[hm];exact aJ _,λ ι b a k cs w hs hf=>?_⟩;obtain⟨ht',hd'⟩:=hput ι a undef hs.tr (.tuple .nil);have hstep:=stepR_op_skip (P:=tb.P) (b:=b) (a:=a) (k:=k) (cs:=cs) (w:=w) (rest:=uf (i+1) (Z l)) (by rw[ho];simp[GY h1 hs.tr]);rw[ho,wj]at hstep;exact⟨ι,w,a.put o.dst undef,.one hstep,⟨by rw[hm];exact hs.rel,ht',by rw[hro];exact hs.ro,by rw[hd,hd'];exact hs.dr⟩,⟨by rw[hm];exact bZ.refl _ _ _,hn,hro⟩⟩
end
section
variable {tb:aO}(ok:dP tb){ih:aH->St->R (Ex×St)}{ι:a8}
def oW(e:Ex)(k k':List Item):Prop:=
 match e with
 |.nrm=>k'=k
 |.exit id=>∃k2,k'=.code (.exit id)::k2/\exitTo id k2=exitTo id k
 |.ret=>∃k2,k'=.code .ret::k2
 |.dR _=>False
def mF(P:cI)(c:aH)(s:St)(e:Ex)(s1:St):Prop:=
 s.m.next<=s1.m.next/\∀(ι:a8) (b:Frame) (a:Act) (k:List Item) (cs:List Frame) (w:aG),SR ι s b a w->ew ι s.m s1.m->
  ∃ι' w' a' k',Steps P (lone (b.atR a (.code c::k)) cs w) (lone (b.atR a' k') cs w')/\oW e k k'/\SR ι' s1 b a' w'/\ni ι s w ι' s1 w'
def s7(P:cI)(c:aH)(s:St)(v:O)(s1:St):Prop:=
 s.m.next<=s1.m.next/\∀(ι:a8) (b:Frame) (a:Act) (k:List Item) (cs:List Frame) (w:aG),SR ι s b a w->ew ι s.m s1.m->
  ∃ι' w' a' k' v',Steps P (lone (b.atR a (.code c::k)) cs w) (lone {b.atR a' k' with mode:=.panicking [{v:=v',recovered:=af}]} cs w')/\VR ι' v v'/\SR ι' s1 b a' w'/\ni ι s w ι' s1 w'
def zC(P:cI)(ih:aH->St->R (Ex×St)):Prop:=
 ∀(c:aH) (s:St) (e:Ex) (s1:St),ih c s=.ok (e,s1)->(∃v,e=.dR v/\s7 P c s v s1)\/mF P c s e s1
def LU(tb:aO)(ih:aH->St->R (Ex×St)):Prop:=
 ∀(ops:Array Oper) (s s1:St),regionF tb ih ops.toList aa s=.ok (.nrm,s1)->∀id,mF tb.P (.region id ops aa) s .nrm s1
def mF.here{P:cI}{c:aH}{s:St}{e:Ex}(h:∀(b:Frame) (a:Act) (k:List Item) (cs:List Frame) (w:aG),∃k',Steps P (lone (b.atR a (.code c::k)) cs w) (lone (b.atR a k') cs w)/\oW e k k'):mF P c s e s:=
 ⟨aJ _,λ ι b a k cs w hs _=>let⟨k',st,ha⟩:=h b a k cs w;⟨ι,w,a,k',st,ha,hs,ni.refl _ _ _⟩⟩
variable {s1:St}
def mF.seq{P:cI}{c:aH}{s s2:St}{e:Ex}(h1:mF P c s .nrm s1){d:aH}{e2:Ex}(h2:mF P d s1 e2 s2)
 {c':aH}(hst:∀(b:Frame) (a:Act) (k:List Item) (cs:List Frame) (w:aG),∃k1,Steps P (lone (b.atR a (.code c'::k)) cs w) (lone (b.atR a (.code c::k1)) cs w)/\
  ∀(a:Act) (w:aG),∃k2,Steps P (lone (b.atR a k1) cs w) (lone (b.atR a (.code d::k2)) cs w)/\∀k',oW e2 k2 k'->∀(a:Act) (w:aG),∃k'',Steps P (lone (b.atR a k') cs w) (lone (b.atR a k'') cs w)/\oW e k k''):
 mF P c' s e s2:=by
 obtain⟨hle,h1⟩:=h1;obtain⟨hle2,h2⟩:=h2;refine⟨dp hle hle2,λ ι b a k cs w hs hf=>?_⟩;obtain⟨k1,st0,hk⟩:=hst b a k cs w;obtain⟨ι1,w1,a1,k1',st1,ha1,hs1,hss1⟩:=h1 ι b a k1 cs w hs (hf.left hle2);cases (show k1'=k1 from ha1);obtain⟨k2,st2,hk2⟩:=hk a1 w1;obtain⟨ι2,w2,a2,k2',mA,ha2,hs2,hss2⟩:=h2 ι1 b a1 k2 cs w1 hs1 (hf.right hss1.fT);obtain⟨k3,st4,ha3⟩:=hk2 _ ha2 a2 w2;exact⟨ι2,w2,a2,k3,(((st0.trans st1).trans st2).trans mA).trans st4,ha3,hs2,hss1.trans hss2⟩
def mF.dR{P:cI}{c c':aH}{s:St}{v:O}(h:mF P c s (.dR v) s1):s7 P c' s v s1:=
 ⟨h.1,λ ι b a k cs w hs hf=>let⟨_,_,_,_,_,ha,_⟩:=h.2 ι b a k cs w hs hf;ha.elim⟩
def s7.wrap{P:cI}{c c':aH}{s:St}{v:O}(h1:s7 P c s v s1)
 (hst:∀(b:Frame) (a:Act) (k:List Item) (cs:List Frame) (w:aG),(∃ι,SR ι s b a w)->∃k1,Steps P (lone (b.atR a (.code c'::k)) cs w) (lone (b.atR a (.code c::k1)) cs w)):s7 P c' s v s1:=by
 obtain⟨hle,h1⟩:=h1;refine⟨hle,λ ι b a k cs w hs hf=>?_⟩;obtain⟨k1,st0⟩:=hst b a k cs w ⟨ι,hs⟩;obtain⟨ι1,w1,a1,k2,v1,st1,h⟩:=h1 ι b a k1 cs w hs hf;exact⟨ι1,w1,a1,k2,v1,st0.trans st1,h⟩
def s7.seq{P:cI}{c:aH}{s s2:St}{v:O}(h1:mF P c s .nrm s1){d:aH}(h2:s7 P d s1 v s2){c':aH}
 (hst:∀(b:Frame) (a:Act) (k:List Item) (cs:List Frame) (w:aG),∃k1,Steps P (lone (b.atR a (.code c'::k)) cs w) (lone (b.atR a (.code c::k1)) cs w)/\
  ∀(a:Act) (w:aG),∃k2,Steps P (lone (b.atR a k1) cs w) (lone (b.atR a (.code d::k2)) cs w)):s7 P c' s v s2:=by
 obtain⟨hle,h1⟩:=h1;obtain⟨hle2,h2⟩:=h2;refine⟨dp hle hle2,λ ι b a k cs w hs hf=>?_⟩;obtain⟨k1,st0,hk⟩:=hst b a k cs w;obtain⟨ι1,w1,a1,k1',st1,ha1,hs1,hss1⟩:=h1 ι b a k1 cs w hs (hf.left hle2);cases (show k1'=k1 from ha1);obtain⟨k2,st2⟩:=hk a1 w1;obtain⟨ι2,w2,a2,k2',v2,mA,hv2,hs2,hss2⟩:=h2 ι1 b a1 k2 cs w1 hs1 (hf.right hss1.fT);exact⟨ι2,w2,a2,k2',v2,((st0.trans st1).trans st2).trans mA,hv2,hs2,hss1.trans hss2⟩
def mF.wrap{P:cI}{c c':aH}{s:St}{e e':Ex}(h1:mF P c s e s1)
 (hst:∀(b:Frame) (a:Act) (k:List Item) (cs:List Frame) (w:aG),(∃ι,SR ι s b a w)->∃k1,Steps P (lone (b.atR a (.code c'::k)) cs w) (lone (b.atR a (.code c::k1)) cs w)/\
  ∀k',oW e k1 k'->∀(a:Act) (w:aG),∃k'',Steps P (lone (b.atR a k') cs w) (lone (b.atR a k'') cs w)/\oW e' k k''):
 mF P c' s e' s1:=by
 obtain⟨hle,h1⟩:=h1;refine⟨hle,λ ι b a k cs w hs hf=>?_⟩;obtain⟨k1,st0,hk⟩:=hst b a k cs w ⟨ι,hs⟩;obtain⟨ι1,w1,a1,k1',st1,ha1,hs1,hss1⟩:=h1 ι b a k1 cs w hs hf;obtain⟨k3,st4,ha3⟩:=hk _ ha1 a1 w1;exact⟨ι1,w1,a1,k3,(st0.trans st1).trans st4,ha3,hs1,hss1⟩
def oW.push{e:Ex}{k k':List Item}{i:Item}(hi:∀id,i≠.inBlock id)(h:oW e (i::k) k')(he:e≠.nrm):oW e k k':=by
 cases e with
 |nrm=>exact aZ rfl he
 |exit id=>
  obtain⟨k2,h1,h2⟩:=h;refine⟨k2,h1,h2.trans ?_⟩;cases i<;>first|rfl|exact aZ rfl (hi _)
 |ret=>exact h
 |dR=>exact h
section steps
variable {P:cI}{b:Frame}{a:Act}{k:List Item}{cs:List Frame}{w:aG}
def TA{c:aH}:step P (lone (b.atR a (.code (.scope c)::k)) cs w)=.next (lone (b.atR a (.code c::.inScope c::k)) cs w):=
 step_lone_go (by simp[stepG,stepG.exec,Frame.atR])
def qhO{c:aH}:step P (lone (b.atR a (.inScope c::k)) cs w)=.next (lone (b.atR a k) cs w):=
 step_lone_go (by simp[stepG,stepG.exec,Frame.atR])
end steps
def TB{P:cI}{m m' m1 mf:Machine}(h:Steps P m mf)(hm:step P m=.next m1)(hm':step P m'=.next m1)(hne:mf≠m):Steps P m' mf:=by
 obtain⟨n,hn⟩:=h;cases n with
 |zero=>
  simp only[runN,Stepped.next.injEq]at hn;exact aZ hn.symm hne
 |succ n=>
  refine⟨n+1,?_⟩;simp only[runN,hm]at hn;simp only[runN,hm',hn]
def oW.ne{e:Ex}{k k':List Item}{c:aH}(h:oW e k k')(h1:∀id,c≠.exit id)(h2:c≠.ret):k'≠.code c::k:=by
 rintro rfl;cases e with
 |nrm=>
  have:=cV Z (show Item.code c::k=k from h);simp at this
 |exit id=>
  obtain⟨k2,h3,_⟩:=h;simp only[ff,Item.code.injEq]at h3;exact h1 _ h3.1
 |ret=>
  obtain⟨k2,h3⟩:=h;simp only[ff,Item.code.injEq]at h3;exact h2 h3.1
 |dR=>exact h
include ok in
def qhM (hih:zC tb.P ih) (hcall:rr tb ih) (hdraw:LU tb ih)
 (hrange:∀f ps a b s e s1,xC tb ih f ps.toList a b 0 s=.ok (e,s1)->mF tb.P (.rangeFunc f ps a b) s e s1):zC tb.P (Ld tb ih):=by
 intro c s e s1 h;unfold Ld at h;split at h
 ·
  simp only[av,bf]at h;obtain⟨rfl,rfl⟩:=h;exact .inr (.here λ b a k cs w=>⟨k,.one stepR_skip,rfl⟩)
 .simp only[av,bf]at h;obtain⟨rfl,rfl⟩:=h;exact .inr (.here λ b a k cs w=>⟨k,.one stepR_label,rfl⟩)
 ·
  rename_i id ops draw;cases draw with
  |true=>
   cases e with
   |nrm=>exact .inr (hdraw ops s s1 h id)
   |_=>
    exfalso;unfold regionF at h;simp only[aI]at h;obtain⟨fl,_,h2⟩:=R.aF h;obtain⟨⟨e',s'⟩,_,h3⟩:=R.aF h2;cases e'<;>simp at h3
  |false=>
   rcases R0 ok hcall ops.toList 0 (λ j=>by simp) (show j7 tb ih ops.toList ops.toList s=.ok (e,s1)from h)with⟨v,s2,h1,hle,h2⟩|⟨s2,h1,hle,h2⟩
   .simp only[bf]at h1;obtain⟨rfl,rfl⟩:=h1;refine .inl ⟨v,rfl,hle,λ ι b a k cs w hs hf=>?_⟩;obtain⟨ι1,w1,a1,k1,v1,st1,h3⟩:=h2 ι b a k cs w hs hf;have st2:Steps tb.P (lone (b.atR a (.inRegion ops (jE ops.size)::k)) cs w) (lone {b.atR a1 k1 with mode:=.panicking [{v:=v1,recovered:=af}]} cs w1):=by
     rw[List.range_eq_range'];simpa using st1
    exact⟨ι1,w1,a1,k1,v1,Steps.head stepR_region st2,h3⟩
   .simp only[bf]at h1;obtain⟨rfl,rfl⟩:=h1;refine .inr ⟨hle,λ ι b a k cs w hs hf=>?_⟩;obtain⟨ι1,w1,a1,st1,hs1,hss1⟩:=h2 ι b a k cs w hs hf;have st2:Steps tb.P (lone (b.atR a (.inRegion ops (jE ops.size)::k)) cs w) (lone (b.atR a1 (.inRegion ops []::k)) cs w1):=by
     rw[List.range_eq_range'];simpa using st1
    exact⟨ι1,w1,a1,k,(Steps.head stepR_region st2).trans (.one stepR_region_end),rfl,hs1,hss1⟩
 ·
  rename_i x y;obtain⟨⟨e1,s2⟩,h1,h2⟩:=R.aF h;rcases hih _ _ _ _ h1 with⟨v,rfl,hp⟩|h3
  .simp only[av,bf]at h2;obtain⟨rfl,rfl⟩:=h2;exact .inl ⟨v,rfl,hp.wrap λ b a k cs w _=>⟨_,.one stepR_seq⟩⟩
  .cases e1 with
   |nrm=>
    rcases hih _ _ _ _ h2 with⟨v,rfl,hp⟩|h4
    .exact .inl ⟨v,rfl,s7.seq h3 hp λ b a k cs w=>⟨_,.one stepR_seq,λ a w=>⟨k,.refl _ _⟩⟩⟩
    .exact .inr (h3.seq h4 λ b a k cs w=>⟨_,.one stepR_seq,λ a w=>⟨k,.refl _ _,λ k' hk' a w=>⟨k',.refl _ _,hk'⟩⟩⟩)
   |dR v=>
    simp only[av,bf]at h2;obtain⟨rfl,rfl⟩:=h2;exact .inl ⟨v,rfl,h3.dR⟩
   |_=>
    simp only[av,bf]at h2;obtain⟨rfl,rfl⟩:=h2;exact .inr (h3.wrap λ b a k cs w _=>⟨_,.one stepR_seq,λ k' hk' a w=>⟨k',.refl _ _,hk'.push (by simp) (by simp)⟩⟩)
 ·
  rename_i cnd x y;obtain⟨v,h1,h2⟩:=R.aF h;split at h2
  .rcases hih _ _ _ _ h2 with⟨v,rfl,hp⟩|h3
   .refine .inl ⟨v,rfl,hp.wrap λ b a k cs w hs=>⟨k,?_⟩⟩;obtain⟨ι,hs⟩:=hs;exact .one (stepR_cond ((dg h1 hs.tr).Cn))
   .refine .inr (h3.wrap λ b a k cs w hs=>⟨k,?_,λ k' hk' a w=>⟨k',.refl _ _,hk'⟩⟩);obtain⟨ι,hs⟩:=hs;exact .one (stepR_cond ((dg h1 hs.tr).Cn))
  .rcases hih _ _ _ _ h2 with⟨v,rfl,hp⟩|h3
   .refine .inl ⟨v,rfl,hp.wrap λ b a k cs w hs=>⟨k,?_⟩⟩;obtain⟨ι,hs⟩:=hs;exact .one (stepR_cond ((dg h1 hs.tr).Cn))
   .refine .inr (h3.wrap λ b a k cs w hs=>⟨k,?_,λ k' hk' a w=>⟨k',.refl _ _,hk'⟩⟩);obtain⟨ι,hs⟩:=hs;exact .one (stepR_cond ((dg h1 hs.tr).Cn))
  .cases h2
 ·
  rename_i id x;obtain⟨⟨e1,s2⟩,h1,h2⟩:=R.aF h;rcases hih _ _ _ _ h1 with⟨v,rfl,hp⟩|h3
  .simp only[av,bf]at h2;obtain⟨rfl,rfl⟩:=h2;exact .inl ⟨v,rfl,hp.wrap λ b a k cs w _=>⟨_,.one stepR_block⟩⟩
  .cases e1 with
   |exit i=>
    simp only at h2;cases hb:aL i id with
    |true=>
     rw[hb]at h2;simp only[aI,av,bf]at h2;obtain⟨rfl,rfl⟩:=h2;have hi:=dZ hb;subst hi;refine .inr (h3.wrap λ b a k cs w _=>⟨_,.one stepR_block,?_⟩);rintro k' ⟨k2,rfl,hk2⟩ a w;refine⟨k,.one (stepR_exit ?_),rfl⟩;rw[hk2];simp[exitTo]
    |false=>
     rw[hb]at h2;simp only[ba,av,bf]at h2;obtain⟨rfl,rfl⟩:=h2;have hi:i≠id:=λ he=>by rw[he]at hb;simp at hb
     refine .inr (h3.wrap λ b a k cs w _=>⟨_,.one stepR_block,?_⟩);rintro k' ⟨k2,rfl,hk2⟩ a w;refine⟨_,.refl _ _,k2,rfl,?_⟩;rw[hk2];have:(id==i)=af:=by simpa using λ he=>hi he.symm
     simp[exitTo,this]
   |nrm=>
    simp only[av,bf]at h2;obtain⟨rfl,rfl⟩:=h2;refine .inr (h3.wrap λ b a k cs w _=>⟨_,.one stepR_block,?_⟩);rintro k' rfl a w;exact⟨k,.one stepR_inBlock,rfl⟩
   |ret=>
    simp only[av,bf]at h2;obtain⟨rfl,rfl⟩:=h2;exact .inr (h3.wrap λ b a k cs w _=>⟨_,.one stepR_block,λ k' hk' a w=>⟨k',.refl _ _,hk'⟩⟩)
   |dR v=>
    simp only[av,bf]at h2;obtain⟨rfl,rfl⟩:=h2;exact .inl ⟨v,rfl,h3.dR⟩
 ·
  rename_i x;obtain⟨⟨e1,s2⟩,h1,h2⟩:=R.aF h;rcases hih _ _ _ _ h1 with⟨v,rfl,hp⟩|h3
  .simp only[av,bf]at h2;obtain⟨rfl,rfl⟩:=h2;exact .inl ⟨v,rfl,hp.wrap λ b a k cs w _=>⟨_,.one stepR_loop⟩⟩
  .cases e1 with
   |nrm=>
    rcases hih _ _ _ _ h2 with⟨v,rfl,hp⟩|h4
    .refine .inl ⟨v,rfl,dp h3.1 hp.1,λ ι b a k cs w hs hf=>?_⟩;obtain⟨ι1,w1,a1,k1,st1,ha1,hs1,hss1⟩:=h3.2 ι b a (.inLoop x::k) cs w hs (hf.left hp.1);cases (show k1=.inLoop x::k from ha1);obtain⟨ι2,w2,a2,k2,v2,st2,hv2,hs2,hss2⟩:=hp.2 ι1 b a1 k cs w1 hs1 (hf.right hss1.fT);have hne:lone {b.atR a2 k2 with mode:=.panicking [{v:=v2,recovered:=af}]} cs w2≠lone (b.atR a1 (.code (.loop x)::k)) cs w1:=by
      intro he;have:=cV (λ m:Machine=>m.gs) he;simp only[lone]at this;have:=cV (λ g:Array Goroutine=>g.toList.map λ g=>g.frame.mode) this;simp[Frame.atR]at this
     exact⟨ι2,w2,a2,k2,v2,(Steps.head stepR_loop st1).trans (TB st2 stepR_loop stepR_inLoop hne),hv2,hs2,hss1.trans hss2⟩
    .refine .inr ⟨dp h3.1 h4.1,λ ι b a k cs w hs hf=>?_⟩;obtain⟨ι1,w1,a1,k1,st1,ha1,hs1,hss1⟩:=h3.2 ι b a (.inLoop x::k) cs w hs (hf.left h4.1);cases (show k1=.inLoop x::k from ha1);obtain⟨ι2,w2,a2,k2,st2,ha2,hs2,hss2⟩:=h4.2 ι1 b a1 k cs w1 hs1 (hf.right hss1.fT);have hne:lone (b.atR a2 k2) cs w2≠lone (b.atR a1 (.code (.loop x)::k)) cs w1:=by
      intro he;have h5:k2=.code (.loop x)::k:=by
       have:=cV (λ m:Machine=>m.gs) he;simp only[lone]at this;have:=cV (λ g:Array Goroutine=>g.toList.map λ g=>g.frame.todo) this;simpa[Frame.atR]using this
      exact ha2.ne (by simp) (by simp) h5
     exact⟨ι2,w2,a2,k2,(Steps.head stepR_loop st1).trans (TB st2 stepR_loop stepR_inLoop hne),ha2,hs2,hss1.trans hss2⟩
   |dR v=>
    simp only[av,bf]at h2;obtain⟨rfl,rfl⟩:=h2;exact .inl ⟨v,rfl,h3.dR⟩
   |_=>
    simp only[av,bf]at h2;obtain⟨rfl,rfl⟩:=h2;exact .inr (h3.wrap λ b a k cs w _=>⟨_,.one stepR_loop,λ k' hk' a w=>⟨k',.refl _ _,hk'.push (by simp) (by simp)⟩⟩)
 ·
  rcases hih _ _ _ _ h with⟨v,rfl,hp⟩|h3
  .exact .inl ⟨v,rfl,hp.wrap λ b a k cs w _=>⟨_,.one TA⟩⟩
  .refine .inr (h3.wrap λ b a k cs w _=>⟨_,.one TA,λ k' hk' a w=>?_⟩);cases e with
   |nrm=>
    cases (show k'=_ from hk');exact⟨k,.one qhO,rfl⟩
   |_=>exact⟨k',.refl _ _,hk'.push (by simp) (by simp)⟩
 .simp only[av,bf]at h;obtain⟨rfl,rfl⟩:=h;exact .inr (.here λ b a k cs w=>⟨_,.refl _ _,k,rfl,rfl⟩)
 .simp only[av,bf]at h;obtain⟨rfl,rfl⟩:=h;exact .inr (.here λ b a k cs w=>⟨_,.refl _ _,k,rfl⟩)
 .exact .inr (hrange _ _ _ _ _ _ _ h)
 .cases h
 .cases h
end
section
variable {tb:aO}(ok:dP tb){ih:aH->St->R (Ex×St)}{ι:a8}
variable {fn:Func}
def Frame.NN{P:cI}{f:FuncId}{c:aH}(hf:P.funcs[f]?=U fn)(hb:fn.body=U c)(args:Array O):
 Frame.enter P f args .normal=(Frame.enter P f args .normal).atR ⟨args++tZ (fn.ntmps-args.size) undef,[]⟩ [.code c]:=by
 simp[Frame.enter,Frame.atR,hf,hb]
variable {n:Nat}
def TR.args{args:List O}{args':Array O}(h:bn ι args args'.toList)(hn:Z args<=n):
 TR ι n (T.bP .e 0 args) (args'++tZ (n-args'.size) undef):=by
 have hl:args'.size=Z args:=by have:=h.length;simpa using this
 refine⟨by simp;omega,λ i v hv=>?_⟩;rw[T.oO]at hv;by_cases hi:0<=i/\i<0+Z args
 .rw[aC hi]at hv;obtain⟨v',e,r⟩:=h.get (i-0) v hv;refine⟨v',?_,r⟩;have hi':i<args'.size:=by omega
  rw[D5 hi'];simpa using e
 .rw[aq hi]at hv;cases hv
def LX(P:cI)(f:FuncId)(args':Array O)(w:aG)(cs:List Frame)(v':O)(w':aG):Prop:=
 ∃fr,Steps P (lone (Frame.enter P f args' .normal) cs w) (lone fr cs w')/\fr.fn=f/\fr.leaving P w' (.returned v')
def U2(P:cI)(f:FuncId)(args':Array O)(w:aG)(cs:List Frame)(v':O)(w':aG):Prop:=
 ∃fr,Steps P (lone (Frame.enter P f args' .normal) cs w) (lone fr cs w')/\fr.fn=f/\fr.leaving P w' (.panicked [{v:=v',recovered:=af}])
theorem DI:∀{l:List Nat} {A A':Mem},gU l A=.ok A'->A'.next=A.next
 | [],A,A',h=>by simp only[gU,av]at h;rw[h]
 |x::l,A,A',h=>by
  unfold gU at h;split at h
  .rw[DI h,cE]
  .cases h
include ok in
def Jv (hih:zC tb.P ih) {f:FuncId} {fn:Func} {c:aH} {args:List O} {A:Mem} (hf:tb.fn.get f=U fn) (hb:fn.body=U c) {r:nh} (h:uC tb ih fn c args A=.ok r):
 (∃v A',r=.dR v A'/\A.next<=A'.next/\∀(ι:a8) (w:aG) (args':Array O) (cs:List Frame),Rel ι A w->bn ι args args'.toList->ew ι A A'->
  ∃ι' w' v',U2 tb.P f args' w cs v' w'/\VR ι' v v'/\Rel ι' A' w'/\bZ ι A w ι' A' w')\/
 ∃v A',r=.val v A'/\A.next<=A'.next/\∀(ι:a8) (w:aG) (args':Array O) (cs:List Frame),Rel ι A w->bn ι args args'.toList->ew ι A A'->
  ∃ι' w' v',LX tb.P f args' w cs v' w'/\VR ι' v v'/\Rel ι' A' w'/\bZ ι A w ι' A' w':=by
 have hf':=ok.fn _ _ hf;unfold uC at h;cases hnb:au (Z args) fn.ntmps with
 |false=>rw[hnb]at h;cases h
 |true=>
 rw[hnb,aI]at h;have hn:=fQ hnb;obtain⟨⟨e,s1⟩,h1,h2⟩:=R.aF h;have main:(e=.nrm\/e=.ret)->((gU s1.d s1.m).bind λ A'=>(eC tb s1.t A'.get fn.results.toList).bind λ vs=>R.ok (nh.val (oneOf vs) A'))=.ok r->
  ∃v A',r=.val v A'/\A.next<=A'.next/\∀(ι:a8) (w:aG) (args':Array O) (cs:List Frame),Rel ι A w->bn ι args args'.toList->ew ι A A'->
  ∃ι' w' v',LX tb.P f args' w cs v' w'/\VR ι' v v'/\Rel ι' A' w'/\bZ ι A w ι' A' w':=by
  intro he h3;obtain⟨A',h4,h5⟩:=R.aF h3;obtain⟨vs,h6,h7⟩:=R.aF h5;simp only[av]at h7;have hnx:=DI h4;rcases hih _ _ _ _ h1 with⟨v,rfl,_⟩|⟨hle,hc⟩
  .rcases he with he|he<;>cases he
  .refine⟨_,_,h7.symm,by rw[hnx];exact hle,λ ι w args' cs hr ha hfree=>?_⟩;have hfree':ew ι A s1.m:=λ b h1 h2=>hfree b h1 (by rw[hnx];exact h2)
   have hs0:SR ι {t:=T.bP .e 0 args,n:=fn.ntmps,d:=[],m:=A,ro:=Y} (Frame.enter tb.P f args' .normal) ⟨args'++tZ (fn.ntmps-args'.size) undef,[]⟩ w:=
    ⟨hr,TR.args ha hn,rfl,rfl⟩
   obtain⟨ι1,w1,a1,k1,st1,ha1,hs1,hss1⟩:=hc ι _ _ [] cs w hs0 hfree';rw[<-Frame.NN hf' hb]at st1;obtain⟨todo,st2⟩:∃todo,Steps tb.P (lone ((Frame.enter tb.P f args' .normal).atR a1 k1) cs w1) (lone {(Frame.enter tb.P f args' .normal).atR ⟨a1.tmps,a1.defers⟩ todo with mode:=.returning} cs w1):=by
    rcases he with rfl|rfl
    .cases (show k1=[]from ha1);exact⟨[],.one (stepR_end rfl)⟩
    .obtain⟨k2,rfl⟩:=ha1;exact⟨_,.one (stepR_ret rfl)⟩
   obtain⟨w2,mA,hrel2,hst2⟩:=GH tb.P h4 hs1.dr hs1.rel;obtain⟨v',e1,hv⟩:=KC ok hrel2 hs1.tr h6;exact⟨ι1,w2,v',⟨_,(st1.trans st2).trans mA,rfl,rfl,rfl,rfl,fn,hf',e1⟩,hv,hrel2,hss1.fT.trans hst2⟩
 cases e with
 |dR v=>
  simp only at h2;split at h2
  .rename_i hd;simp only[av]at h2;refine .inl ⟨v,_,h2.symm,?_⟩;have hp:s7 tb.P c {t:=T.bP .e 0 args,n:=fn.ntmps,d:=[],m:=A,ro:=Y} v s1:=by
    rcases hih _ _ _ _ h1 with⟨v2,he,hp⟩|hp
    .cases he;exact hp
    .exact hp.dR
   refine⟨hp.1,λ ι w args' cs hr ha hfree=>?_⟩;have hs0:SR ι {t:=T.bP .e 0 args,n:=fn.ntmps,d:=[],m:=A,ro:=Y} (Frame.enter tb.P f args' .normal) ⟨args'++tZ (fn.ntmps-args'.size) undef,[]⟩ w:=
    ⟨hr,TR.args ha hn,rfl,rfl⟩
   obtain⟨ι1,w1,a1,k1,v1,st1,hv1,hs1,hss1⟩:=hp.2 ι _ _ [] cs w hs0 hfree;rw[<-Frame.NN hf' hb]at st1;have hdd:a1.defers=[]:=by
    have:=hs1.dr;rw[hd]at this;exact this
   exact⟨ι1,w1,v1,⟨_,st1,rfl,rfl,hdd,fn,hf'⟩,hv1,hs1.rel,hss1.fT⟩
  .cases h2
 |exit id=>cases h2
 |nrm=>exact .inr (main (.inl rfl) h2)
 |ret=>exact .inr (main (.inr rfl) h2)
end
end Go.Am
end
