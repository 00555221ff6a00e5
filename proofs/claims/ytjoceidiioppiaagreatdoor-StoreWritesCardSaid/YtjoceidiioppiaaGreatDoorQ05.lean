/- The abstract machine, the walk of the law and its plain laws, made small by a program; part 5: no conditions but those in each theorem. -/
import Derived.Test.YtjoceidiioppiaaGreatDoorQ04
set_option maxHeartbeats 16000000
set_option maxRecDepth 100000
set_option linter.unusedSimpArgs false
set_option linter.unusedVariables false
set_option linter.defProp false
noncomputable section
open Array.mk renaming injEq→G9
open Bool renaming and_eq_true→dW,and_true→sK,not_false→vg,not_true→ri,false→ag,true→ae
open Classical renaming byCases→sM,byContradiction→xL
open Go renaming Code→aH,IntKind→cS,Operand→bM,TypeId→au,Value→I
open Int.ofNat renaming inj→zr
open List renaming all_eq_true→oT,append_assoc→iC,append_nil→jT,cons_append→iP,drop_eq_getElem_cons→mq,drop_eq_nil_of_le→DW,drop_length→Bv,exists_mem_of_ne_nil→Bw,filter_append→zt,filter_cons→iD,filter_eq_self→Bx,filter_nil→DY,findIdx?_eq_none_iff→By,findIdx?_eq_some_iff_getElem→DZ,flatMap_append→Bz,flatMap_cons→mr,foldl_append→tV,foldl_cons→mu,getD_eq_getElem?_getD→m_,getElem?_append_left→fe,getElem?_append_right→eV,getElem?_cons_succ→dc,getElem?_cons_zero→c7,getElem?_eq_getElem→aZ,getElem?_eq_none→ky,getElem?_eq_some_iff→bU,getElem?_map→dN,getElem_mem→ff,getElem_of_mem→oU,getElem_take→BB,length→Z,length_append→aY,length_cons→cD,length_drop→vu,length_eq_zero_iff→eN,length_filter_le→BC,length_map→bc,length_nil→eB,length_pos_iff→je,length_singleton→fb,length_take→df,map→tW,map_append→gg,map_eq_nil_iff→gu,mem_append→mw,mem_cons→cG,mem_cons_of_mem→cV,mem_cons_self→cJ,mem_filter→qn,mem_map→eH,mem_of_getElem?→gJ,mem_singleton→dX,nil_append→lL,nodup_nil→nb,not_mem_nil→eC,pairwise_cons→zy,pairwise_iff_getElem→tY,prefix_append→D9,prefix_refl→D_,takeWhile_cons→BE,take_length→dU,take_of_length_le→BF,take_succ_cons→Hn,take_succ_eq_append_getElem→d_
open List.cons renaming injEq→gq
open Nat renaming add_zero→eo,beq→aL,beq_eq→qp,beq_refl→vz,ble→av,ble_eq→sS,ble_eq_true_of_le→my,blt→aO,blt_eq→bZ,le_of_ble_eq_true→gK,le_of_lt→BG,le_refl→aI,le_trans→dm,lt_irrefl→t_,lt_of_le_of_lt→mz,lt_of_lt_of_le→c9,lt_or_ge→ec,min_eq_left→nf,min_le_left→Ec,min_le_right→Ed,mod_eq_of_lt→rm,mul_one→qq,not_lt_zero→zD,reduceAdd→ak,reduceEqDiff→aa,sub_self→iQ,zero_add→ep,zero_le→a8
open Option renaming map_some→gX,none→V,some→U
open Option.some renaming inj→iR,injEq→fg
open Go.Proofs.Tryz renaming f123→pP,f152→BQ,f156→sZ,f157→x_,f158→iy,f159→nj,f20→ye,f203→yf,f208→ta,f225→BS,f247→nt,f28→lR,f62→ph,f8→v_,f97→nv,prog→dw
open UInt8 renaming lt_iff_toNat_lt→BV,ofNat→jY,toNat_inj→td,toNat_ofNat'→HI
namespace Go.Proofs.YtjoceidiioppiaaGreatDoor.sto
open Go.Am Go.Mdl Go.Sto Go.Shelf
def Bk:List I->Option I
 | []=>U (.bool ae)
 |_=>V
def fA:T (List I->Mem->R (I×Mem)):=(jN.set 83 FK).set 19 (cH Bk)
def O:aN:={aT with hk:=fA}
def DB(h:eG aT.P 19 (cH Bk)):dO O:=fq (fq T5 ZN) h
variable {k:Nat}{fn:Func}
def aD(h:dw.funcs[k]?=U fn):O.fn.get k=U fn:=cM h
def nV{h:List I->Mem->R (I×Mem)}(e:fA.get k=U h):O.hk.get k=U h:=e
section
variable {ih:aH->St->R (Ex×St)}{A:Mem}
variable {n:Nat}
def qaE(hn:n<18446744073709551616):cE O ih (.fn 226 [.int .u64 n]) A=.ok (.val (.agg ⟨jw n⟩) A):=
 rV (x:=n) (aD Tryz.func226) (by kernel_rfl) IE (nV (by simp only[fA,jN,T.bR];rfl)) (λ x y h=>by rw[Ka h]) hn
variable {e:aK}
def JT(h:e.weight<4294967296):cE O ih (.fn 207 [.agg ⟨aX e⟩]) A=.ok (.val (uN (val e)) A):=
 rV (x:=e) (aD Tryz.func207) (c:=Tryz.f207.body.getD .skip) (by kernel_rfl) (by kernel_rfl) (nV (by simp only[fA,jN,T.bR];rfl)) (λ x y h=>by rw[Pt h]) h
variable {w:List UInt8}
def qaD:cE O ih (.fn 246 [ai w]) A=.ok (.val (.bool (decide (1<=Z w/\Z w<=255))) A):=
 rV (x:=w) (aD Tryz.func246) (c:=Tryz.f246.body.getD .skip) (by kernel_rfl) (by kernel_rfl) (nV (by simp only[fA,jN,T.bR];rfl)) (λ x y h=>by rw[Qo h]) trivial
def PN:cE O ih (.fn 132 [ai w]) A=.ok (.val (.bool (decide (0<Z w/\Z w<=64))) A):=
 rV (x:=w) (aD Tryz.func132) (c:=Tryz.f132.body.getD .skip) (by kernel_rfl) (by kernel_rfl) (nV (by simp only[fA,jN,T.bR];rfl)) (λ x y h=>by rw[Qo h]) trivial
def PQ{f:Bool}:cE O ih (.fn 202 [.agg ⟨[.int .u64 n,.bool f]⟩]) A=.ok (.val (.bool (f&&decide (n<=4294967296))) A):=
 rV (x:=(n,f)) (aD Tryz.func202) (c:=Tryz.f202.body.getD .skip) (by kernel_rfl) (by kernel_rfl) (nV (by simp only[fA,jN,T.bR];rfl)) (λ x y h=>by rw[qbD h]) trivial
def wY(hn:n<18446744073709551616):cE O ih (.fn 160 [.int .u64 n]) A=.ok (.val (ai (bL n)) A):=
 rV (x:=n) (aD Tryz.func160) (c:=Tryz.f160.body.getD .skip) (by kernel_rfl) (by kernel_rfl) (nV (by simp only[fA,jN,T.bR];rfl)) (λ x y h=>by rw[Ka h]) hn
def PM:cE O ih (.fn 79 [.agg ⟨aX e⟩]) A=.ok (.val (.agg ⟨aX (bare e)⟩) A):=
 rV (x:=e) (aD Tryz.func79) (c:=Tryz.f79.body.getD .skip) (by kernel_rfl) (by kernel_rfl) (nV (by simp only[fA,jN,T.bR];rfl)) (λ x y h=>by rw[Pt h]) trivial
variable {m:Nat}
def FQ{f:Bool}(h:n+m<18446744073709551616):cE O ih (.fn 200 [.agg ⟨[.int .u64 n,.bool f]⟩,.int .u64 m]) A=.ok (.val (.agg ⟨[uN (n+m),.bool f]⟩) A):=
 rV (x:=((n,f),m)) (aD Tryz.func200) (c:=Tryz.f200.body.getD .skip) (by kernel_rfl) (by kernel_rfl) (nV (by simp only[fA,jN,T.bR];rfl)) (λ x y h=>by
  obtain⟨⟨a,b⟩,c⟩:=x;obtain⟨⟨a',b'⟩,c'⟩:=y;simp only[HK,gq,Value.agg.injEq,G9,Value.int.injEq,Value.bool.injEq,and_true,true_and]at h;obtain⟨⟨h1,h2⟩,h3⟩:=h;cases zr h1;cases zr h3;rw[h2]) h
def PO{n:Int}(h:-11<=n/\n<=11):cE O ih (.fn 29 [iN 4,.int .i64 n]) A=.ok (.val (ai (eZ n)) A)/\cE O ih (.fn 45 [iN 4,.int .i64 n]) A=.ok (.val (ai (eZ n)) A):=by
 have e:tL names [iN 4,.int .i64 n]=U (ai (eZ n)):=by
  obtain⟨k,hk,rfl⟩:∃k:Nat,k<23/\n=Int.subNatNat k 11:=⟨(n+11).toNat,by omega,by rw[Int.subNatNat_eq_coe];omega⟩;clear h
  iterate 23
   rcases k with _|k
   .clear hk;show _=_;kernel_rfl
  omega
 exact⟨mG (aD Tryz.func29) (by kernel_rfl) (c:=Tryz.f29.body.getD .skip) (by kernel_rfl) (nV (by simp only[fA,jN,T.bR];rfl)) (by unfold cH;rw[e]),
  mG (aD Tryz.func45) (by kernel_rfl) (c:=Tryz.f45.body.getD .skip) (by kernel_rfl) (nV (by simp only[fA,jN,T.bR];rfl)) (by unfold cH;rw[e])⟩
def qaG{s:List UInt8}(hs:Z s<900000):cE O ih (.fn 123 [ai s]) A=.ok (.val (ai (crc.gk s)) A):=
 mG (aD Tryz.func123) (by kernel_rfl) (c:=pP.body.getD .skip) (by kernel_rfl) (nV (by simp only[fA,jN,T.bR];rfl)) (by
  have e:crc.uW [ai s]=U (ai (crc.gk s)):=by rw[<-crc.SZ];exact aA hs
  unfold cH;rw[e])
def qaI{s:List UInt8}(hs:Z s<900000):cE O ih (.fn 161 [ai s]) A=.ok (.val (ai (crc.gk s)) A):=
 mG (aD Tryz.func161) (by kernel_rfl) (c:=Tryz.f161.body.getD .skip) (by kernel_rfl) (nV (by simp only[fA,jN,T.bR];rfl)) (by
  have e:crc.Gn [ai s]=U (ai (crc.gk s)):=aA hs;unfold cH;rw[e])
def qaB(hn:n<18446744073709551616):cE O ih (.fn 224 [.int .u64 n,iN 36]) A=.ok (.val (ai (nY n)) A):=
 rV (x:=n) (aD Tryz.func224) (c:=Tryz.f224.body.getD .skip) (by kernel_rfl) (by kernel_rfl) (nV (by simp only[fA,jN,T.bR];rfl)) (λ x y h=>by
  simp only[HL,gq,Value.int.injEq,and_true,true_and]at h;rw[zr h]) hn
variable {ns:List (List UInt8)}
def qaJ{args:List I}(h:vR args A ns):cE O ih (.fn 126 args) A=.ok (.val (sd ns A).1 (sd ns A).2):=
 mG (aD Tryz.func126) (by kernel_rfl) (c:=Tryz.f126.body.getD .skip) (by kernel_rfl) (nV (by simp only[fA,jN,T.bR];rfl)) (Zy h)
def qaK:cE O ih (.fn 19 []) A=.ok (.val (.bool ae) A):=
 mG (aD Tryz.func19) (by kernel_rfl) (c:=Tryz.f19.body.getD .skip) (by kernel_rfl) (nV (by simp only[fA,jN,T.bR];rfl)) rfl
end
def u3:O.aB 3=U (.int .i64):=u7
def u4:O.aB 4=U .bool:=Bh
def u5:O.aB 5=U (.int .u8):=kx
def u9:O.aB 9=U .string:=mh
def dH:O.aB 113=U (.int .u64):=pG
def GI:aN:=(aT.nX 123 (cH crc.uW)).nX 138 (cH crc.Da)
def T4:dO GI:=fq (fq lr crc.JJ) crc.Pr
def Yh:Hd GI qN:=⟨oH.hf,oH.hb,oH.hod,oH.go1,oH.god,oH.dod,oH.hg,oH.hgb,oH.horc,oH.dorc,oH.gorc,oH.ht,oH.hres,oH.hng⟩
def Lu:aN:=GI.nX 83 (yF GI qN 100000)
def qhI:dO Lu:=fq T4 (Nv T4 Yh 100000)
def qit:isTrue (call Lu 1000000 19 [] ee)=ae:=by decide+kernel
def ZX:eG aT.P 19 (cH Bk):=by
 refine qb qhI (cM Tryz.func19) (c:=Tryz.f19.body.getD .skip) (by kernel_rfl) λ args v hv=>?_
 cases args with
 |cons x l=>cases hv
 |nil=>
  cases hv;have h:=qit;refine⟨λ x hx=>(eC hx).elim,rfl,1000000,?_⟩;cases hr:call Lu 1000000 19 [] ee with
  |no _=>rw[hr]at h;cases h
  |ok r=>
   rw[hr]at h;cases r with
   |ef v A=>cases h
   |val v A=>
    cases v with
    |bool b=>have hb':b=ae:=h;subst hb';exact⟨A,rfl⟩
    |_=>cases h
def Bc:O.aB 59=U (.int .u32):=by kernel_rfl
def xD:O.aB 28=U (.slice 61):=by kernel_rfl
def oh:bk O 61=.ok 3:=by kernel_rfl
def Zq:(O.aB 61).map en=U ae:=by kernel_rfl
variable {b o:Nat}
def mJ:bK O 61 (pw b o) 0=.ok (pw b o):=by kernel_rfl
def Y8:bK O 61 (pw b o) 1=.ok (pw b (o+1)):=by kernel_rfl
def Ov:bK O 61 (pw b o) 2=.ok (pw b (o+2)):=by kernel_rfl
def dz(A:Mem)(l:List aK)(x:I):Prop:=∃b,aq A 61 3 b (l.map aX) x
variable {A A':Mem}
def dz.kp{l:List aK}{x:I}(h:dz A l x)(k:Kp A A'):dz A' l x:=by
 obtain⟨b,h⟩:=h;exact⟨b,h.same k.1 (k.2 b)⟩
def dz.len{l:List aK}{x:I}(h:dz A l x):c_ O .len [28] [x]=.ok (iN (Z l)):=by
 obtain⟨b,h⟩:=h;have:=aq.len (tb:=O) h xD;rwa[bc]at this
variable {i:Nat}{e:aK}
def dz.at{l:List aK}{x:I}(h:dz A l x)(hi:l[i]?=U e):
 ∃p,eE O 28 x (.int .i64 i)=.ok p/\aj O A.get 61 p=.ok (.agg ⟨aX e⟩)/\∃q,bK O 61 p 0=.ok q/\aj O A.get 9 q=.ok (ai e.word):=by
 obtain⟨b,h⟩:=h;have hl:i<(l.map aX).length:=by rw[bc];exact(bU.1 hi).1
 have hm:(l.map aX)[i]?=U (aX e):=by rw[dN,hi];rfl
 have hd:∃d,O.aB 61=U d/\en d=ae:=by
  have:=Zq;cases hq:O.aB 61 with
  |none=>rw[hq]at this;cases this
  |some d=>rw[hq]at this;exact⟨d,rfl,by simpa using this⟩
 obtain⟨d,hd1,hd2⟩:=hd;refine⟨_,aq.idx h xD oh hl,aq.cg h hd1 hd2 oh hm,_,mJ,?_⟩;have:=aq.load (j:=0) h u9 rfl hm rfl (by omega);rwa[eo]at this
def qa5{l:List aK}(h:l≠ []):least (l++[e])=min (least l) (val e):=by
 cases l with
 |nil=>exact aU rfl h
 |cons x l=>simp[least,tV]
def xE(h:e.weight<4294967296):val e<=4294967296:=by unfold val;split<;>omega
def rM:=cu x_
def Ib:aH:=sub rM [1,1,0,1,0,0]
def WA:x_.body=U (.seq (sub rM [0]) (.seq (sub rM [1,0]) (.seq (.seq (sub rM [1,1,0,0]) (.block 0 (.loop Ib))) (.seq (sub rM [1,1,1,0]) (sub rM [1,1,1,1]))))):=by kernel_rfl
def Sx{l:List aK}{x:I}(h:dz A l x)(h0:l≠ [])(hw:∀e∈l,e.weight<4294967296)(hl:Z l<1000000):az O 157 [x] A (.int .u64 (least l:Nat)) A:=by
 refine wg (aD Tryz.func157) WA (by kernel_rfl) ?_;obtain⟨e0,l0,rfl⟩:∃e0 l0,l=e0::l0:=by cases l with
  |nil=>exact aU rfl h0
  |cons e l=>exact⟨e,l,rfl⟩
 rw[cD]at hl;obtain⟨p,i1,i2,-⟩:=h.at (i:=0) rfl;have hlen:=h.len;have k0:=λ ih=>JT (ih:=ih) (A:=A) (hw e0 cJ)
 apply W.q2
 .intro M _;simp(disch:=first|decide+kernel|omega)only[rM,x_,Aq,aa,i1,i2,k0];rfl
 apply W.seq;apply W.q
 .intro M;simp(disch:=first|decide+kernel|omega)only[rM,x_,Aq,aa];rfl
 apply W.block;refine W.up (Z l0+1) (λ i t D=>D=A/\1<=i/\Sl t [(0,x),(3,.int .u64 ((least ((e0::l0).take i):Nat):Int)),(4,.int .i64 i)]) ?_ (k:=1) (by omega) ⟨rfl,by omega,?_⟩
 .rintro i t D hi ⟨rfl,h1,g0,g3,g4,-⟩;by_cases hlt:i<Z l0+1
  .have he:(e0::l0)[i]?=U (e0::l0)[i]:=aZ (by rw[cD];omega);obtain⟨p,j1,j2,-⟩:=h.at he;have hm:(e0::l0)[i]∈e0::l0:=ff _;have kv:=λ ih=>JT (ih:=ih) (A:=D) (hw _ hm)
   have e3:min (least ((e0::l0).take i)) (val (e0::l0)[i])=least ((e0::l0).take (i+1)):=by
    rw[d_ (by rw[cD];omega),qa5];intro hn;have:=cX Z hn;rw[df]at this;simp at this;omega
   apply W.run 20
   .intro M;simp(disch:=first|decide+kernel|omega)only[Ib,rM,x_,Aq,aa,g0,g3,g4,hlen,hlt,j1,j2,kv,Qj,e3,cD];rfl
   refine⟨hlt,_,_,rfl,rfl,by omega,?_⟩;simp only[Sq,aa,ak,g0]
  .have e:i=Z l0+1:=by omega
   subst e;rw[BF (by simp)]at g3;apply W.run 20
   .intro M;simp(disch:=first|decide+kernel|omega)only[Ib,rM,x_,Aq,aa,g0,g4,hlen,hlt,cD];rfl
   apply W.run 40
   .intro M;simp(disch:=first|decide+kernel|omega)only[rM,x_,Aq,aa,g3];rfl
   exact⟨by simp,rfl,rfl,by simp only[x_,Aq,aa]<;>rfl⟩
 .simp only[Sq,aa,ak];simp[least]
def f_:O.aB 184=U (.slice 246):=by kernel_rfl
def xH:bk O 246=.ok 3:=by kernel_rfl
def cF{t:au}{p:Bool}(h:(O.aB t).map en=U p):∃d,O.aB t=U d/\en d=p:=by
 cases hq:O.aB t with
 |none=>rw[hq]at h;cases h
 |some d=>rw[hq]at h;exact⟨d,rfl,by simpa using h⟩
def eT:bK O 186 (pw b o) 0=.ok (pw b o):=by kernel_rfl
def fV:bK O 186 (pw b o) 1=.ok (pw b (o+1)):=by kernel_rfl
def nT:bK O 186 (pw b o) 2=.ok (pw b (o+2)):=by kernel_rfl
def gd.len{l:List cr}{x:I}(h:gd A l x):c_ O .len [184] [x]=.ok (iN (Z l)):=by
 obtain⟨b,h⟩:=h;have:=aq.len (tb:=O) h f_;rwa[bc]at this
def gd.at{l:List cr}{x:I}{e:cr}(h:gd A l x)(hi:l[i]?=U e):
 ∃p,eE O 184 x (.int .i64 i)=.ok p/\aj O A.get 246 p=.ok (.agg ⟨bP e⟩):=by
 obtain⟨b,h⟩:=h;have hl:i<(l.map bP).length:=by rw[bc];exact(bU.1 hi).1
 have hm:(l.map bP)[i]?=U (bP e):=by rw[dN,hi];rfl
 obtain⟨d,hd1,hd2⟩:=cF (t:=246) (p:=ae) (by kernel_rfl);exact⟨_,aq.idx h f_ xH hl,aq.cg h hd1 hd2 xH hm⟩
def qgv:fieldsOf (O.aB 246)=[(ag,5,0),(ag,113,1),(ag,3,2)]:=by kernel_rfl
def Yz{x y:bM}{a b:cr}:pr O 246 x y (.agg ⟨bP a⟩) (.agg ⟨bP b⟩)=ae:=by
 unfold pr;have:O.P.eqGuardType O.P.depth 246=ag:=by decide+kernel
 rw[this];rfl
def YA{g:Nat->Option Ob}{a b:cr}:iG O g 100 246 (.agg ⟨bP a⟩) (.agg ⟨bP b⟩)=.ok (decide (a=b)):=by
 rw[Fe (by kernel_rfl) qgv (by kernel_rfl)];simp only[uJ,bJ,bP];rw[oO u5 rfl rfl,oO u5 rfl rfl,oO (o:=1) dH rfl rfl,oO (o:=1) dH rfl rfl,oO (o:=2) u3 rfl rfl,oO (o:=2) u3 rfl rfl];simp only[R.aW,CB (tb:=O) (t:=5) u5,CB (tb:=O) (t:=113) dH,CB (tb:=O) (t:=3) u3];obtain⟨a0,a1,a2⟩:=a;obtain⟨b0,b1,b2⟩:=b;have h0':(((a0.toNat:Nat):Int)=((b0.toNat:Nat):Int))=(a0=b0):=propext ⟨λ h=>td.1 (Int.natCast_inj.1 h),λ h=>by rw[h]⟩;simp only[h0',Int.natCast_inj,cr.mk.injEq];by_cases h0:a0=b0<;>by_cases h1:a1=b1<;>by_cases h2:a2=b2<;>simp[h0,h1,h2,R.aW]
def Qu{g:Nat->Option Ob}{x y:bM}{a b:cr}:fU O g .neq 246 x y (.agg ⟨bP a⟩) (.agg ⟨bP b⟩)=.ok (.bool (!decide (a=b))):=by
 unfold fU;rw[Yz,aJ];simp only[];rw[YA];rfl
def yV(t:T I)(g:Nat->Option Ob)(e:au)(x y:bM)(r:au):eR O t g (.binOp .neq e x y r)=(ev t x).bind λ a=>(ev t y).bind λ b=>fU O g .neq e x y a b:=rfl
def nR:=cu nt
def EM:aH:=sub nR [1,1,0,1,0,0]
def Xi:nt.body=U (.seq (sub nR [0]) (.seq (sub nR [1,0]) (.seq (.seq (sub nR [1,1,0,0]) (.block 0 (.loop EM))) (.seq (sub nR [1,1,1,0]) (sub nR [1,1,1,1]))))):=by kernel_rfl
variable {y:I}
def qdB{s u:aw}{x:I}(hx:gd A s.arcs x)(hy:gd A u.arcs y)(hl:Z s.arcs<1000000):∃v A',az O 247 [.agg ⟨aS x s⟩,.agg ⟨aS y u⟩] A v A'/\v=.bool (decide (s=u))/\Kp A A':=by
 refine cZ (aD Tryz.func247) Xi (by kernel_rfl) ?_;have kB:Kp A ((A.alloc (af 186 (aS x s))).alloc (af 186 (aS y u))):=(Kp.alloc _ _).trans (Kp.alloc _ _);have h1:VB ((A.alloc (af 186 (aS x s))).alloc (af 186 (aS y u))) 186 A.next (.var 3) (aS x s):=(aQ A 186 (aS x s)).kp (Kp.alloc _ _)
 have h2:VB ((A.alloc (af 186 (aS x s))).alloc (af 186 (aS y u))) 186 (A.alloc (af 186 (aS x s))).next (.var 3) (aS y u):=aQ _ 186 (aS y u)
 apply W.q
 .intro M;simp(disch:=first|decide+kernel|omega)only[nR,nt,Aq,aa,a7];rfl
 generalize (A.alloc (af 186 (aS x s))).alloc (af 186 (aS y u))=B at kB h1 h2;generalize (A.alloc (af 186 (aS x s))).next=q at h2
 generalize A.next=p at h1
 have hx:=hx.kp kB;have hy:=hy.kp kB;have a1:aj O B.get 184 (pw p 0)=.ok x:=h1.ld rfl f_ rfl;have a2:aj O B.get 4 (pw p (0+1))=.ok (.bool s.fin):=h1.ld rfl u4 rfl;have a3:aj O B.get 113 (pw p (0+2))=.ok (.int .u64 s.out):=h1.ld rfl dH rfl;have b1:aj O B.get 184 (pw q 0)=.ok y:=h2.ld rfl f_ rfl;have b2:aj O B.get 4 (pw q (0+1))=.ok (.bool u.fin):=h2.ld rfl u4 rfl;have b3:aj O B.get 113 (pw q (0+2))=.ok (.int .u64 u.out):=h2.ld rfl dH rfl;have lx:=hx.len;have ly:=hy.len;apply W.seq;by_cases hsame:s.fin=u.fin/\s.out=u.out/\Z s.arcs=Z u.arcs
 .obtain⟨e1,e2,e3⟩:=hsame;rw[<-e1]at b2;rw[<-e2]at b3;rw[<-e3]at ly;have q1:(s.fin !=s.fin)=ag:=by simp
  apply W.run 20
  .intro M;simp(config:={maxSteps:=4000000})(disch:=first|decide+kernel|omega|simp only[Wq,aa])only[nR,nt,Aq,av,reduceIte,aa,ak,eT,fV,nT,a1,a2,a3,b1,b2,b3,lx,ly,u4,Ci,q1];rfl
  apply W.seq;apply W.q
  .intro M;simp(disch:=first|decide+kernel|omega)only[nR,nt,Aq,aa];rfl
  apply W.block;refine W.up (Z s.arcs) (λ i t D=>D=B/\s.arcs.take i=u.arcs.take i/\Sl t [(2,pw p 0),(3,pw q 0),(5,.int .i64 i)]) ?_ (a8 _) ⟨rfl,rfl,?_⟩
  .rintro i t D hi ⟨rfl,ht,g2,g3,g5,-⟩;by_cases hlt:i<Z s.arcs
   .have m1:s.arcs[i]?=U s.arcs[i]:=aZ hlt;have m2:u.arcs[i]?=U (u.arcs[i]'(by omega)):=aZ (by omega)
    obtain⟨p1,j1,j2⟩:=hx.at m1;obtain⟨p2,j3,j4⟩:=hy.at m2;by_cases he:s.arcs[i]=u.arcs[i]'(by omega)
    .have n1:=λ x y=>Qu (g:=D.get) (x:=x) (y:=y) (a:=s.arcs[i]) (b:=u.arcs[i]'(by omega))
     simp only[he,decide_true,ri]at n1;rw[he]at j2;apply W.run 20
     .intro M;simp(config:={maxSteps:=4000000})(disch:=first|decide+kernel|omega|simp only[Wq,aa])only[EM,nR,nt,Aq,av,reduceIte,aa,ak,g2,g3,g5,lx,hlt,eT,a1,b1,j1,j2,j3,j4,Fq,bQ [],yV,n1];rfl
     refine⟨hlt,_,_,rfl,rfl,?_,?_⟩
     .rw[d_ hlt,d_ (show i<Z u.arcs by omega),ht,he]
     .simp only[Sq,aa,ak,g2,g3]
    .have n1:=λ x y=>Qu (g:=D.get) (x:=x) (y:=y) (a:=s.arcs[i]) (b:=u.arcs[i]'(by omega))
     simp only[he,decide_false,vg]at n1;apply W.run 20
     .intro M;simp(config:={maxSteps:=4000000})(disch:=first|decide+kernel|omega|simp only[Wq,aa])only[EM,nR,nt,Aq,av,reduceIte,aa,ak,g2,g3,g5,lx,hlt,eT,a1,b1,j1,j2,j3,j4,Fq,bQ [],yV,n1];rfl
     refine⟨by simp,rfl,_,(by simp only[nt,Aq,aa]<;>rfl),?_,kB⟩;rw[decide_eq_false λ h=>he (by subst h;rfl)]
   .have e:i=Z s.arcs:=by omega
    subst e;rw[dU,e3,dU]at ht;apply W.run 20
    .intro M;simp(disch:=first|decide+kernel|omega)only[EM,nR,nt,Aq,aa,g2,g5,lx,hlt,eT,a1];rfl
    apply W.run 40
    .intro M;simp(disch:=first|decide+kernel|omega)only[nR,nt,Aq,aa];rfl
    refine⟨by simp,rfl,_,(by simp only[nt,Aq,av,reduceIte,aa,ak]<;>rfl),?_,kB⟩;have:s=u:=by
     obtain⟨f,o,a⟩:=s;obtain⟨f',o',a'⟩:=u;simp only at e1 e2 ht;rw[e1,e2,ht]
    rw[decide_eq_true this]
  .simp only[Sq,aa,ak]
 .have hne:s≠u:=λ h=>hsame (by rw[h];exact⟨rfl,rfl,rfl⟩)
  by_cases e1:s.fin=u.fin
  .rw[<-e1]at b2;have q1:(s.fin !=s.fin)=ag:=by simp
   by_cases e2:s.out=u.out
   .have e3:¬Z s.arcs=Z u.arcs:=λ h=>hsame ⟨e1,e2,h⟩
    rw[<-e2]at b3;apply W.run 20
    .intro M;simp(config:={maxSteps:=4000000})(disch:=first|decide+kernel|omega|simp only[Wq,aa])only[nR,nt,Aq,av,reduceIte,aa,ak,eT,fV,nT,a1,a2,a3,b1,b2,b3,lx,ly,u4,Ci,q1,e3];rfl
    exact⟨by simp,rfl,_,(by simp only[nt,Aq,av,reduceIte,aa,ak]<;>rfl),by rw[decide_eq_false hne],kB⟩
   .apply W.run 20
    .intro M;simp(config:={maxSteps:=4000000})(disch:=first|decide+kernel|omega|simp only[Wq,aa])only[nR,nt,Aq,av,reduceIte,aa,ak,eT,fV,nT,a1,a2,a3,b1,b2,b3,lx,ly,u4,Ci,q1,e2];rfl
    exact⟨by simp,rfl,_,(by simp only[nt,Aq,av,reduceIte,aa,ak]<;>rfl),by rw[decide_eq_false hne],kB⟩
  .have q1:(s.fin !=u.fin)=ae:=by simpa using e1
   apply W.run 20
   .intro M;simp(config:={maxSteps:=4000000})(disch:=first|decide+kernel|omega|simp only[Wq,aa])only[nR,nt,Aq,av,reduceIte,aa,ak,eT,fV,nT,a1,a2,a3,b1,b2,b3,lx,ly,u4,Ci,q1];rfl
   exact⟨by simp,rfl,_,(by simp only[nt,Aq,av,reduceIte,aa,ak]<;>rfl),by rw[decide_eq_false hne],kB⟩
def eg:O.aB 112=U (.slice 186):=by kernel_rfl
def gV:bk O 186=.ok 3:=by kernel_rfl
def LK:fu O 186=.ok (3,[.slice V 0 0,.bool ag,.int .u64 0]):=by kernel_rfl
def Lb:bk O 112=.ok 1:=by kernel_rfl
def CF:bK O 241 (pw b 0) 0=.ok (pw b 0):=by kernel_rfl
def Lx:∃i,O.ty.get 186=U i/\0<i.bytes/\i.bytes<=65536:=by
 have h:(O.ty.get 186).map (λ i=>aO 0 i.bytes&&av i.bytes 65536)=U ae:=by kernel_rfl
 cases hq:O.ty.get 186 with
 |none=>rw[hq]at h;cases h
 |some i=>
  rw[hq]at h;simp only[gX,fg,dW,bZ]at h;exact⟨i,rfl,h.1,gK h.2⟩
def H0{x:I}{s:aw}:eO O 112 1 [(0,.agg ⟨aS x s⟩)]=.ok (af 186 (aS x s),.dZ 1 2):=by kernel_rfl
def jf(A:Mem)(m b:Nat)(M:List aw)(X:Nat->Prop):Prop:=∃x rows,VB A 241 m (.var 1) [x]/\aq A 186 3 b rows x/\((M=[]->x=.slice V 0 0)/\(M≠ []->b≠m/\b<A.next/\¬X b))/\¬X m/\Z rows=Z M/\
 ∀(i:Nat) (s:aw),M[i]?=U s->∃y c,rows[i]?=U (aS y s)/\aq A 246 3 c (s.arcs.map bP) y/\(s.arcs=[]->y=.slice V 0 0)/\(s.arcs≠ []->c≠b/\c≠m/\¬X c)
variable {m:Nat}{M:List aw}
def jf.Nn{X:Nat->Prop}(h:jf A m b M X)(hn:A.next<=A'.next)(hg:∀z,z<A.next->¬X z->A'.get z=A.get z):jf A' m b M X:=by
 obtain⟨x,rows,h1,h2,h3,hX,h4,h5⟩:=h;refine⟨x,rows,⟨c9 h1.1 hn,h1.2.same (hg m h1.1 hX)⟩,aq.jb h2 (λ h=>h3.1 (eN.1 (by rw[<-h4,h];rfl))) hn (λ hne hlt=>hg b hlt (h3.2 λ h=>hne (eN.1 (by rw[h4,h];rfl))).2.2),⟨h3.1,λ h=>⟨(h3.2 h).1,c9 (h3.2 h).2.1 hn,(h3.2 h).2.2⟩⟩,hX,h4,λ i s hs=>?_⟩;obtain⟨y,c,e1,e2,e0,e3⟩:=h5 i s hs;exact⟨y,c,e1,aq.jb e2 (λ h=>e0 (gu.1 h)) hn (λ hne hlt=>hg c hlt (e3 λ h=>hne (by rw[h];rfl)).2.2),e0,e3⟩
def jf.kp{X:Nat->Prop}(h:jf A m b M X)(k:Kp A A'):jf A' m b M X:=h.Nn k.1 λ z hz _=>k.2 z hz
def Z4{s:aw}(h1:M[i]?=U s)(h2:∀j,j<i->M[j]?≠U s):M.findIdx? (λ x=>decide (x=s))=U i:=by
 obtain⟨hl,he⟩:=bU.1 h1;rw[DZ];refine⟨hl,by simp[he],λ j hj=>?_⟩;have:=h2 j hj;rw[aZ (by omega)]at this;simpa using this
def Z5{s:aw}(h2:∀j,j<Z M->M[j]?≠U s):M.findIdx? (λ x=>decide (x=s))=V:=by
 rw[By];intro x hx;obtain⟨j,hj,rfl⟩:=oU hx;have:=h2 j hj;rw[aZ hj]at this;simpa using this
def pX:=cu ta
def EG:aH:=sub pX [1,0,1,0,0]
def WX:ta.body=U (.seq (sub pX [0]) (.seq (.seq (sub pX [1,0,0]) (.block 0 (.loop EG))) (.seq (sub pX [1,1,0]) (.seq (sub pX [1,1,1,0]) (sub pX [1,1,1,1]))))):=by kernel_rfl
variable {c:Nat}
def qeR{X:Nat->Prop}{s:aw}(hM:jf A m b M X)(hX:∀z,X z->z<A.next)(hs:aq A 246 3 c (s.arcs.map bP) y)(hy0:s.arcs=[]->y=.slice V 0 0)(hc:s.arcs≠ []->(M≠ []->c≠b)/\c≠m/\¬X c)(hl:Z s.arcs<1000000)(hl2:∀u∈M,Z u.arcs<1000000)(hML:Z M<1000000):
 ∃v A',az O 208 [.pointer (U ⟨m,0,V⟩),.agg ⟨aS y s⟩] A v A'/\v=.int .i64 ((eP M s).2:Nat)/\∃b',jf A' m b' (eP M s).1 X/\((M≠ []/\b'=b)\/A.next<=b')/\A.next<=A'.next/\∀z,z<A.next->z≠m->(M≠ []->z≠b)->A'.get z=A.get z:=by
 refine cZ (aD Tryz.func208) WX (by kernel_rfl) ?_;have kB:=Kp.alloc A (af 186 (aS y s));have own:=aQ A 186 (aS y s);have hcell:∀v∈aS y s,bS v=ae:=by
  intro v hv;simp only[aS,cG,eC,or_false]at hv;rcases hv with rfl|rfl|rfl
  .exact(aq.dQ hs).2
  .rfl
  .rfl
 apply W.q
 .intro M;simp(disch:=omega)only[pX,ta,Aq,aa,a7];rfl
 generalize A.alloc (af 186 (aS y s))=B at kB own;obtain⟨d,hd1,hd2⟩:=cF (by kernel_rfl);apply W.seq;apply W.q
 .intro M;simp(disch:=omega)only[pX,ta,Aq,aa];rfl
 apply W.block;refine W.up (Z M) (λ i t D=>Kp B D/\(∀j,j<i->M[j]?≠U s)/\Sl t [(0,.pointer (U ⟨m,0,V⟩)),(3,.pointer (U ⟨A.next,0,V⟩)),(5,.int .i64 i)]) ?_ (a8 _) ⟨Kp.refl _,λ j hj=>aU hj (zD _),?_⟩
 .rintro i t D hi ⟨kD,hno,g0,g3,g5,-⟩;have hMD:=(hM.kp kB).kp kD;obtain⟨x,rows,h1,h2,h3,hXm,h4,h5⟩:=id hMD;have lm:=h1.l0 eg rfl;have lo:=cg hd1 hd2 gV (own.kp kD).2;have lx:=aq.len h2 eg;rw[h4]at lx;by_cases hlt:i<Z M
  .have he:=aZ hlt;obtain⟨yi,ci,e1,e2,-⟩:=h5 i _ he;have j1:=aq.idx (i:=i) (kd:=.i64) h2 eg gV (by omega);have j2:=aq.cg h2 hd1 hd2 gV e1;obtain⟨v,E,⟨g,hg⟩,rfl,kE⟩:=qdB ⟨ci,e2⟩ ⟨c,(hs.same kB.1 (kB.2 c)).same kD.1 (kD.2 c)⟩ (hl2 _ (ff _));by_cases hsame:M[i]=s
   .rw[decide_eq_true hsame]at hg;apply W.cC (g) 20
    .intro M hM;simp(disch:=first|decide+kernel|omega|simp only[Wq,aa])only[EG,pX,ta,Aq,av,reduceIte,aa,ak,g0,g3,g5,lm,lo,lx,hlt,bA,br,CF,j1,j2,hg,Fq,bQ []];rfl
    have hn:=F6 (Z4 (by rw[he,hsame]) hno);refine⟨by simp,rfl,_,(by simp only[ta,Aq,aa]<;>rfl),by rw[hn],b,by rw[hn];exact hMD.kp kE,.inl ⟨λ h=>by rw[h]at hlt;simp at hlt,rfl⟩,by show A.next<=E.next;have:=kB.1;have:=kD.1;have:=kE.1;omega,λ z hz _ _=>((kB.trans kD).trans kE).2 z hz⟩
   .rw[decide_eq_false hsame]at hg;apply W.cC (g) 20
    .intro M hM;simp(disch:=first|decide+kernel|omega|simp only[Wq,aa])only[EG,pX,ta,Aq,av,reduceIte,aa,ak,g0,g3,g5,lm,lo,lx,hlt,bA,br,CF,j1,j2,hg,Fq,bQ []];rfl
    refine⟨hlt,_,_,rfl,kD.trans kE,λ j hj=>?_,?_⟩
    .rcases ec j i with h|h
     .exact hno j h
     .rw[show j=i by omega,he];simpa using hsame
    .simp only[Sq,aa,ak,g0,g3]
  .have e:i=Z M:=by omega
   subst e;have hn:=F7 (Z5 hno);obtain⟨ti,t1,t2,t3⟩:=Lx;have h2':aq (D.alloc (af 186 (aS y s))) 186 3 b rows x:=h2.same (by rw[aG];omega) λ h=>cY (by omega)
   obtain⟨x',F,happ,hs3,hn3,hf3⟩:=aq.append h2' eg eg LK t1 t2 t3 (by omega) (by omega) (by omega) (de D _) rfl hcell;rw[aG]at hs3 hn3 hf3;have hmF:=h1.2.same (by rw[hf3 m (λ h=>sM h3.1 λ hne=>aU h.symm (h3.2 hne).1) (by have:=h1.1;omega),cY (by have:=h1.1;omega)]);obtain⟨G,sG,vG,nG,kG⟩:=db (tb:=O) (o:=0) (v:=x') Lb hmF (by simp) (aq.dQ hs3).1 (aq.dQ hs3).2;have lG:aj O G.get 112 (.pointer (U ⟨m,0,V⟩))=.ok x':=dg eg rfl vG rfl;have gP:∀z,z<D.next->z≠m->(M≠ []->z≠b)->G.get z=D.get z:=λ z hz h1 h2=>by rw[kG z h1,hf3 z (λ h=>sM h3.1 λ hne=>aU h (h2 hne)) (by omega),cY (by omega)]
   have hsG:=hs3.same (by omega) λ h=>kG _ (by have:=h1.1;omega)
   have lxG:=aq.len hsG eg;rw[aY,fb,h4]at lxG;have sub1:a_ .sub .i64 ((Z M+1:Nat):Int) ((1:Nat):Int)=.ok (.int .i64 (Z M:Nat)):=eQ (by omega) (ct (by omega));apply W.run 20
   .intro M;simp(disch:=first|decide+kernel|omega)only[EG,pX,ta,Aq,aa,g0,g5,lm,lx,hlt,bA,br,CF];rfl
   apply W.q2
   .intro M _;simp(config:={maxSteps:=4000000})(disch:=first|decide+kernel|omega|simp only[Wq,aa])only[pX,ta,Aq,av,reduceIte,aa,ak,g0,g3,lm,lo,bA,br,CF,H0,happ,sG,Fq,bQ [],lG,lxG,sub1];rfl
   apply W.run 20
   .intro M;simp(disch:=first|decide+kernel|omega)only[pX,ta,Aq,aa];rfl
   refine⟨by simp,rfl,_,(by simp only[ta,Aq,aa]<;>rfl),by rw[hn],D.next+1,?_,.inr ?_,?_,λ z hz hm hb=>?_⟩
   .rw[hn];refine⟨x',rows++[aS y s],⟨?_,vG⟩,hsG,⟨λ h=>by simp at h,λ _=>⟨?_,?_,λ h=>?_⟩⟩,hXm,?_,λ i u hu=>?_⟩
    .show m<G.next
     have:=h1.1;omega
    .have:=h1.1;omega
    .show D.next+1<G.next
     omega
    .have:=hX _ h;have:=kB.1;have:=kD.1;omega
    .rw[aY,aY,h4];rfl
    .rcases ec i (Z M)with hi2|hi2
     .rw[fe hi2]at hu;obtain⟨yi,ci,e1,e2,e0,e3⟩:=h5 i u hu;refine⟨yi,ci,by rw[fe (by omega)];exact e1,aq.jb e2 (λ h=>e0 (gu.1 h)) (by show D.next<=G.next;omega) λ hne hlt=>gP ci hlt (e3 λ h=>hne (by rw[h];rfl)).2.1 (λ _=>(e3 λ h=>hne (by rw[h];rfl)).1),e0,λ h=>⟨?_,(e3 h).2⟩⟩;rcases e2 with⟨_,e2⟩|⟨_,_,_,e2,_⟩
      .exact aU (gu.1 e2) h
      .omega
     .rw[eV hi2]at hu;cases hq:i-Z M with
      |succ n=>rw[hq]at hu;simp at hu
      |zero=>
       rw[hq]at hu;cases hu;have hsD:=(hs.same kB.1 (kB.2 c)).same kD.1 (kD.2 c);refine⟨y,c,by rw[eV (by omega),show i-Z rows=0 by omega];rfl,aq.jb hsD (λ h=>hy0 (gu.1 h)) (by show D.next<=G.next;omega) λ hne hlt=>gP c hlt (hc λ h=>hne (by rw[h];rfl)).2.1 (hc λ h=>hne (by rw[h];rfl)).1,hy0,λ h=>⟨?_,(hc h).2⟩⟩;rcases hsD with⟨_,e2⟩|⟨_,_,_,e2,_⟩
       .exact aU (gu.1 e2) h
       .omega
   .have:=kB.1;have:=kD.1;omega
   .show A.next<=G.next
    have:=kB.1;have:=kD.1;omega
   .show G.get z=A.get z;have:=kB.1;have:=kD.1;rw[gP z (by omega) hm hb,kD.2 z (by omega),kB.2 z hz]
 .simp only[Sq,aa,ak]
variable {w:List UInt8}
def qfZ(h:1<=Z w/\Z w<=255):az O 206 [ai w] A (iN 0) A:=by
 have k:=λ ih=>qaD (ih:=ih) (A:=A) (w:=w)
 rw[decide_eq_true h]at k;refine cq 60 (aD Tryz.func206) (by kernel_rfl) λ M=>?_
 simp(disch:=first|decide+kernel|omega)only[Tryz.f206,Aq,aa,k]<;>rfl
def TC{a b:List UInt8}:ft .geq a b=.ok (.bool (!b6 a b)):=rfl
def Ff(t:T I)(k:cS):ev t (.const (.int k (-1)))=.ok (.int k (-1)):=rfl
theorem HT:∀{l:List aK} {i:Nat} {a b:aK},dk l->l[i]?=U a->l[i+1]?=U b->b6 a.word b.word=ae
 |x::l,0,a,b,h,h1,h2=>by
  cases h1;rw[dc]at h2;exact h.1 b (gJ h2)
 |x::l,i+1,a,b,h,h1,h2=>by
  rw[dc]at h1 h2;exact HT h.2 h1 h2
def qM:=cu sZ
def Cv:aH:=sub qM [1,0,1,0,0]
def XN:sZ.body=U (.seq (sub qM [0]) (.seq (.seq (sub qM [1,0,0]) (.block 0 (.loop Cv))) (.seq (sub qM [1,1,0]) (sub qM [1,1,1])))):=by kernel_rfl
theorem Ms:∀{l:List aK},dk l↔l.Pairwise λ x y=>lt x.word y.word
 | []=>by simp[dk]
 |x::l=>by rw[dk,zy,Ms]
def Et{l:List aK}(h:dk (l.take i))(hi:i<Z l)(hb:0<i->lt (l[i-1]).word (l[i]).word):dk (l.take (i+1)):=by
 rw[Ms]at*;rw[d_ hi,List.pairwise_append];refine⟨h,List.pairwise_singleton _ _,λ a ha b hb'=>?_⟩;rw[dX.1 hb'];obtain⟨j,hj,rfl⟩:=oU ha;rw[df]at hj;have hp:=hb (by omega);rw[BB];by_cases hji:j=i-1
 .subst hji;exact hp
 .have:=tY.1 h j (i-1) (by rw[df];omega) (by rw[df];omega) (by omega);rw[BB,BB]at this;exact tJ this hp
def LQ(l:List aK)(v:I):Prop:=∃(a:Int) (e:Nat),v=.tuple ⟨[.int .i64 a,.int .i64 e]⟩/\(dk l->e=0)/\(¬dk l->e=15)
def Sw{l:List aK}{x:I}(h:dz A l x)(hw:∀e∈l,1<=Z e.word/\Z e.word<=255)(hl:Z l<1000000):∃v A',az O 156 [x] A v A'/\LQ l v/\A'=A:=by
 refine cZ (aD Tryz.func156) XN (by kernel_rfl) ?_;have hlen:=h.len;apply W.q
 .intro M;simp(disch:=first|decide+kernel|omega)only[qM,sZ,Aq,aa];rfl
 apply W.seq;apply W.q
 .intro M;simp(disch:=first|decide+kernel|omega)only[qM,sZ,Aq,aa];rfl
 apply W.block;refine W.up (Z l) (λ i t D=>D=A/\dk (l.take i)/\Sl t [(0,x),(4,.int .i64 i)]) ?_ (a8 _) ⟨rfl,by simp[dk],?_⟩
 .rintro i t D hi ⟨rfl,ha,g0,g4,-⟩;by_cases hlt:i<Z l
  .have he:l[i]?=U l[i]:=aZ hlt;obtain⟨p,j1,j2,q,j3,j4⟩:=h.at he;obtain⟨g,hg⟩:=qfZ (A:=D) (hw _ (ff hlt));by_cases h0:0<i
   .have he2:l[i-1]?=U l[i-1]:=aZ (by omega);obtain⟨p2,k1,k2,q2,k3,k4⟩:=h.at he2;have sub1:a_ .sub .i64 ((i:Nat):Int) ((1:Nat):Int)=.ok (.int .i64 (i-1:Nat)):=eQ (by omega) (ct (by omega));cases hb:b6 (l[i-1]).word (l[i]).word with
    |true=>
     apply W.cC (g) 20
     .intro M hM;simp(config:={maxSteps:=4000000})(disch:=first|decide+kernel|omega|simp only[Wq,aa])only[Cv,qM,sZ,Aq,av,reduceIte,aa,ak,g0,g4,hlen,hlt,j1,j3,j4,hg,dM,dK,h0,sub1,k1,k3,k4,u9,TC,hb,Fq,bQ []];rfl
     refine⟨hlt,_,_,rfl,rfl,Et ha hlt λ _=>hb,?_⟩;simp only[Sq,aa,ak,g0]
    |false=>
     apply W.cC (g) 20
     .intro M hM;simp(config:={maxSteps:=4000000})(disch:=first|decide+kernel|omega|simp only[Wq,aa])only[Cv,qM,sZ,Aq,av,reduceIte,aa,ak,g0,g4,hlen,hlt,j1,j3,j4,hg,dM,dK,h0,sub1,k1,k3,k4,u9,TC,hb,Fq,bQ []];rfl
     refine⟨by simp,rfl,_,(by simp only[sZ,Aq,aa]<;>rfl),⟨i,15,rfl,λ ha=>?_,λ _=>rfl⟩,rfl⟩;rw[HT ha he2 (by rw[show i-1+1=i by omega];exact he)]at hb;cases hb
   .apply W.cC (g) 20
    .intro M hM;simp(config:={maxSteps:=4000000})(disch:=first|decide+kernel|omega|simp only[Wq,aa])only[Cv,qM,sZ,Aq,av,reduceIte,aa,ak,g0,g4,hlen,hlt,j1,j3,j4,hg,dM,dK,h0,Fq,bQ []];rfl
    refine⟨hlt,_,_,rfl,rfl,Et ha hlt λ h=>aU h h0,?_⟩;simp only[Sq,aa,ak,g0]
  .have e:i=Z l:=by omega
   subst e;apply W.run 20
   .intro M;simp(disch:=first|decide+kernel|omega)only[Cv,qM,sZ,Aq,aa,g0,g4,hlen,hlt];rfl
   apply W.run 40
   .intro M;simp(disch:=first|decide+kernel|omega)only[qM,sZ,Aq,aa,Ff];rfl
   rw[dU]at ha;exact⟨by simp,rfl,_,(by simp only[sZ,Aq,aa]<;>rfl),⟨-1,0,rfl,λ _=>rfl,λ h=>aU ha h⟩,rfl⟩
 .simp only[Sq,aa,ak]
end Go.Proofs.YtjoceidiioppiaaGreatDoor.sto
namespace Go.Sto
open Go.Am Go.Mdl Go.Sto Go.Shelf
def QJ(M:List aw)(s:aw):M<+:(eP M s).1:=by
 unfold eP;split
 .exact D_ _
 .exact D9 _ _
def qbY(M:List aw)(s:aw):(eP M s).1[(eP M s).2]?=U s:=by
 cases h:M.findIdx? (λ x=>decide (x=s))with
 |some i=>rw[F6 h];exact JK h
 |none=>rw[F7 h,eV (aI _),iQ];rfl
variable {d:Nat}
theorem Cc{rec:List aK->Nat->List aw->List aw×Nat}{less:Nat}(hrec:∀own n M,M<+:(rec own n M).1):∀(r:List aK) (qi8:List cr) (M:List aw),M<+:(cT rec d less r qi8 M).1/\qi8<+:(cT rec d less r qi8 M).2
 | [],qi8,M=>⟨D_ _,D_ _⟩
 |e::r,qi8,M=>by
  unfold cT;split
  .exact Cc hrec r qi8 M
  .obtain⟨h1,h2⟩:=Cc hrec r (qi8++[⟨(aR d e).getD 0,least ((e::r).filter λ x=>decide (aR d x=aR d e))-less,(rec ((e::r).filter λ x=>decide (aR d x=aR d e)) (least ((e::r).filter λ x=>decide (aR d x=aR d e))) M).2⟩])
    (rec ((e::r).filter λ x=>decide (aR d x=aR d e)) (least ((e::r).filter λ x=>decide (aR d x=aR d e))) M).1
   exact⟨(hrec _ _ _).trans h1,(D9 _ _).trans h2⟩
theorem GA:∀(f:Nat) (l:List aK) (d less:Nat) (M:List aw),M<+:(dv f l d less M).1
 |0,_,_,_,M=>D_ _
 |f+1,l,d,less,M=>by
  unfold dv;exact(Cc (λ own n M=>GA f own (d+1) n M) l [] M).1.trans (QJ _ _)
variable {M:List aw}
def O5{M':List aw}(g:Good M')(h:M<+:M'):Good M:=by
 have g0:eM M:=λ i s hs=>g.1 i s (by rw[Ky h (bU.1 hs).1];exact hs)
 refine⟨g0,h.sublist.nodup g.2.1,λ i hi w hw=>?_⟩;rw[<-G4 g0 h hi]at hw;exact g.2.2 i (c9 hi h.length_le) w hw
theorem CN:∀{l:List UInt8} {n:Nat},l.Pairwise (·<·)->(∀x∈l,n<=x.toNat)->n<=256->Z l+n<=256
 | [],n,_,_,h=>by simpa using h
 |x::l,n,hp,hn,_=>by
  obtain⟨h1,h2⟩:=zy.1 hp;have hx:=x.toNat_lt;have:=CN (l:=l) (n:=x.toNat+1) h2 (λ y hy=>BV.1 (h1 y hy)) (by omega);have:=hn x cJ;rw[cD];omega
variable {i:Nat}
def w_{s:aw}(h:AI i s):Z s.arcs<=256:=by
 have:=CN (n:=0) h.2.1 (λ _ _=>a8 _) (by omega);rwa[bc]at this
def O4(g:Good M){s:aw}(h:s∈M):Z s.arcs<=256:=by
 obtain⟨i,hi,rfl⟩:=oU h;exact w_ (g.1 i _ (aZ hi))
def qg6{f less:Nat}{l:List aK}(g:Good (dv (f+1) l d less M).1):(cT (λ own n M=>dv f own (d+1) n M) d less l [] M).2.length<=256:=by
 have h:=qbY (cT (λ own n M=>dv f own (d+1) n M) d less l [] M).1 ⟨(eh d less l).1,(eh d less l).2,(cT (λ own n M=>dv f own (d+1) n M) d less l [] M).2⟩;exact w_ (g.1 _ _ h)
end Go.Sto
namespace Go.Proofs.YtjoceidiioppiaaGreatDoor.sto
open Go.Am Go.Mdl Go.Sto Go.Shelf
def qiN:fu O 61=.ok (3,[.string .empty,.int .u32 0,.bool ag]):=by kernel_rfl
variable {e:aK}
def yu:eO O 28 1 [(0,.agg ⟨aX e⟩)]=.ok (af 61 (aX e),.dZ 1 2):=by kernel_rfl
def qhX:∃i,O.ty.get 61=U i/\0<i.bytes/\i.bytes<=65536:=by
 have h:(O.ty.get 61).map (λ i=>aO 0 i.bytes&&av i.bytes 65536)=U ae:=by kernel_rfl
 cases hq:O.ty.get 61 with
 |none=>rw[hq]at h;cases h
 |some i=>
  rw[hq]at h;simp only[gX,fg,dW,bZ]at h;exact⟨i,rfl,h.1,gK h.2⟩
def CA(e:aK):∀v∈aX e,bS v=ae:=by
 intro v hv;simp only[aX,cG,eC,or_false]at hv;rcases hv with rfl|rfl|rfl<;>rfl
variable {b:Nat}
def Er{D:Mem}{l:List aK}{x:I}(h:aq D 61 3 b (l.map aX) x)(hl:Z l<1000000):
 ∃x' D',dJ O (D.alloc (af 61 (aX e))) 28 28 x (.slice (U ⟨D.next,0,V⟩) 1 2)=.ok (x',D')/\aq D' 61 3 (D.next+1) ((l++[e]).map aX) x'/\D'.next=D.next+2/\∀z,z≠b->z<D.next->D'.get z=D.get z:=by
 obtain⟨i,t1,t2,t3⟩:=qhX;have h':aq (D.alloc (af 61 (aX e))) 61 3 b (l.map aX) x:=h.same (by rw[aG];omega) λ hh=>cY (by omega)
 obtain⟨x',D',h1,h2,h3,h4⟩:=aq.append (tb:=O) (st:=28) (xt:=28) h' xD xD qiN t1 t2 t3 (by omega) (by omega) (by rw[bc];omega) (de D _) rfl (CA e);rw[aG]at h2 h3 h4;refine⟨x',D',h1,by rw[gg];exact h2,by omega,λ z hz hzn=>by rw[h4 z (λ hh=>aU hh hz) (by omega),cY (by omega)]⟩
variable {i k:Nat}
def Yq{l:List aK}(hik:i<=k)(hk:k<Z l):(l.take (k+1)).drop i=(l.take k).drop i++[l[k]]:=by
 rw[d_ hk,List.drop_append_of_le_length (by rw[df];omega)]
variable {d:Nat}
def yw(h:d<Z e.word):aR d e=U (e.word.getD d 0):=by
 unfold aR;rw[m_,aZ h];rfl
def fy:=cu iy
def Co:aH:=sub fy [1,1,0,1,0,0]
def fh:aH:=sub fy [1,1,1,0,1,0,0]
def yz:aH:=sub fh [1,0,0,1,1,0,1,0,0]
variable {t:T I}
def qct{D:Mem}{l:List aK}{x mv sp:I}{bl less:Nat}{K:Ex->St->Prop}(h:aq D 61 3 bl (l.map aX) x)(he:l[i]?=U e)(hd:d<Z e.word)(hl:Z l<1000000)
 (hw:∀y∈l,Z y.word<1000000)(hs:Sl t [(0,mv),(1,x),(2,.int .i64 d),(3,.int .u64 less),(9,sp),(11,.int .i64 i),(12,.slice V 0 0)])
 (hK:∀t' D' xo bo,Kp D D'->aq D' 61 3 bo ((l.drop i|>.filter λ y=>decide (aR d y=aR d e)).map aX) xo->D.next<=bo->
  Sl t' [(0,mv),(1,x),(2,.int .i64 d),(3,.int .u64 less),(9,sp),(11,.int .i64 i),(12,xo)]->K .nrm ⟨t',143,[],D',V⟩):
 W O (.seq (sub fh [1,0,0,1,1,0,0]) (.block 4 (.loop yz))) ⟨t,143,[],D,V⟩ K:=by
 obtain⟨g0,g1,g2,g3,g9,g11,g12,-⟩:=hs;have hi:i<Z l:=(bU.1 he).1;have hE:dz D l x:=⟨bl,h⟩;obtain⟨pe,i1,-,qe,i3,i4⟩:=hE.at he;have hlen:=hE.len;apply W.q
 .intro M;simp(disch:=first|decide+kernel|omega)only[fh,fy,iy,Aq,aa,g11];rfl
 apply W.block;refine W.up (Z l) (λ k t E=>i<=k/\Kp D E/\∃xo bo,aq E 61 3 bo ((((l.take k).drop i).filter λ y=>decide (aR d y=aR d e)).map aX) xo/\D.next<=bo/\Sl t [(0,mv),(1,x),(2,.int .i64 d),(3,.int .u64 less),(9,sp),(11,.int .i64 i),(12,xo),(13,.int .i64 k)]) ?_ (k:=i) (by omega) ⟨aI _,Kp.refl _,.slice V 0 0,D.next,.inl ⟨rfl,by
  rw[DW (by rw[df];omega)];rfl⟩,aI _,?_⟩
 .rintro k t E hk ⟨hik,kE,xo,bo,hso,hbo,g0,g1,g2,g3,g9,g11,g12,g13,-⟩;have hEE:=hE.kp kE;have hlenE:=hEE.len;by_cases hlt:k<Z l
  .have hy:l[k]?=U l[k]:=aZ hlt;obtain⟨py,j1,j2,qy,j3,j4⟩:=hEE.at hy;obtain⟨pe,i1,-,qe,i3,i4⟩:=hEE.at he;have hwy:=hw _ (ff hlt);have ly:=gB (tb:=O) (t:=9) (l:=l[k].word) u9;have hst:=Yq hik hlt;have ixe:=mO (tb:=O) (t:=9) (kd:=.i64) u9 hd;by_cases h1:d<l[k].word.length
   .have ixy:=mO (tb:=O) (t:=9) (kd:=.i64) u9 h1;by_cases h2:(l[k].word.getD d 0).toNat=(e.word.getD d 0).toNat
    .have hp:decide (aR d l[k]=aR d e)=ae:=by
      rw[yw h1,yw hd,td.1 h2];simp
     have hlo:(((l.take k).drop i).filter λ y=>decide (aR d y=aR d e)).length<1000000:=by
      have:=BC (λ y=>decide (aR d y=aR d e)) ((l.take k).drop i);rw[vu,df]at this;omega
     obtain⟨x',E',ha,hs',hn',hf'⟩:=Er (e:=l[k]) hso hlo;have kEE:Kp D E':=⟨by have:=kE.1;omega,λ z hz=>by rw[hf' z (by omega) (by have:=kE.1;omega),kE.2 z hz]⟩;apply W.run 20
     .intro M;simp(config:={maxSteps:=4000000})(disch:=first|decide+kernel|omega|simp only[Wq,aa])only[yz,fh,fy,iy,Aq,av,reduceIte,aa,ak,g1,g2,g11,g12,g13,hlenE,hlt,j1,j2,j3,j4,i1,i3,i4,ly,dM,dK,h1,ixy,ixe,h2,yu,ha,Fq,bQ []];rfl
     refine⟨hlt,_,_,rfl,by omega,kEE,x',E.next+1,?_,by have:=kE.1;omega,?_⟩
     .rw[hst,zt,iD,aA hp,DY];exact hs'
     .simp only[Sq,aa,ak,g0,g1,g2,g3,g9,g11]
    .have hp:decide (aR d l[k]=aR d e)=ag:=by
      rw[yw h1,yw hd];refine decide_eq_false λ hh=>h2 ?_
      rw[iR hh]
     apply W.run 20
     .intro M;simp(config:={maxSteps:=4000000})(disch:=first|decide+kernel|omega|simp only[Wq,aa])only[yz,fh,fy,iy,Aq,av,reduceIte,aa,ak,g1,g2,g11,g12,g13,hlenE,hlt,j1,j2,j3,j4,i1,i3,i4,ly,dM,dK,h1,ixy,ixe,h2,Fq,bQ []];rfl
     refine⟨hlt,_,_,rfl,by omega,kE,xo,bo,?_,hbo,?_⟩
     .rw[hst,zt,iD,ax (by rw[hp];simp),DY,jT];exact hso
     .simp only[Sq,aa,ak,g0,g1,g2,g3,g9,g11,g12]
   .have hp:decide (aR d l[k]=aR d e)=ag:=by
     rw[yx.2 (show l[k].word.length<=d by omega),yw hd];simp
    apply W.run 20
    .intro M;simp(config:={maxSteps:=4000000})(disch:=first|decide+kernel|omega|simp only[Wq,aa])only[yz,fh,fy,iy,Aq,av,reduceIte,aa,ak,g1,g2,g11,g12,g13,hlenE,hlt,j1,j2,j3,j4,i1,i3,i4,ly,dM,dK,h1,Fq,bQ []];rfl
    refine⟨hlt,_,_,rfl,by omega,kE,xo,bo,?_,hbo,?_⟩
    .rw[hst,zt,iD,ax (by rw[hp];simp),DY,jT];exact hso
    .simp only[Sq,aa,ak,g0,g1,g2,g3,g9,g11,g12]
  .have hkl:k=Z l:=by omega
   subst hkl;rw[dU]at hso;apply W.run 20
   .intro M;simp(disch:=first|decide+kernel|omega)only[yz,fh,fy,iy,Aq,aa,g1,g13,hlenE,hlt];rfl
   refine hK _ E xo bo kE hso hbo ?_;simp only[Sq,aa,ak,g0,g1,g2,g3,g9,g11,g12]
 .simp only[Sq,aa,ak,g0,g1,g2,g3,g9,g11,g12]
def rh:dj O 186=.ok (.agg ⟨[.slice V 0 0,.bool ag,uN 0]⟩):=by kernel_rfl
def qgK:bk O 4=.ok 1:=by kernel_rfl
def qgA:bk O 113=.ok 1:=by kernel_rfl
def Te:bk O 184=.ok 1:=by kernel_rfl
def qiI:fu O 246=.ok (3,[.int .u8 0,.int .u64 0,.int .i64 0]):=by kernel_rfl
variable {o:Nat}
def Oe:bK O 246 (pw b o) 0=.ok (pw b o):=by kernel_rfl
def MQ{a:Nat}{n:Int}:eO O 184 1 [(0,.agg ⟨[.int .u8 a,.int .u64 o,.int .i64 n]⟩)]=.ok (af 246 [.int .u8 a,.int .u64 o,.int .i64 n],.dZ 1 2):=by kernel_rfl
def qhR:∃i,O.ty.get 246=U i/\0<i.bytes/\i.bytes<=65536:=by
 have h:(O.ty.get 246).map (λ i=>aO 0 i.bytes&&av i.bytes 65536)=U ae:=by kernel_rfl
 cases hq:O.ty.get 246 with
 |none=>rw[hq]at h;cases h
 |some i=>
  rw[hq]at h;simp only[gX,fg,dW,bZ]at h;exact⟨i,rfl,h.1,gK h.2⟩
variable {A:Mem}{v:I}
def qg4{a b c:I}(hv:v.cells.toList=[v])(h1:bS v=ae):cm O (A.alloc (af 186 [a,b,c])) 4 (pw A.next (0+1)) v=.ok (A.alloc (af 186 [a,v,c])):=se (o:=1) qgK hv h1 (by simp)
def qg5{a b c:I}(hv:v.cells.toList=[v])(h1:bS v=ae):cm O (A.alloc (af 186 [a,b,c])) 113 (pw A.next (0+2)) v=.ok (A.alloc (af 186 [a,b,v])):=se (o:=2) qgA hv h1 (by simp)
def Zh{less:Nat}{l:List aK}:eh d less (l++[e])=if aR d e=V then(ae,val e-less)else eh d less l:=by
 unfold eh;rw[tV];rfl
def WC:iy.body=U (.seq (sub fy [0]) (.seq (sub fy [1,0]) (.seq (.seq (sub fy [1,1,0,0]) (.block 0 (.loop Co))) (.seq (.seq (sub fy [1,1,1,0,0]) (.block 2 (.loop fh))) (.seq (sub fy [1,1,1,1,0]) (sub fy [1,1,1,1,1])))))):=by kernel_rfl
def MX:fh=(.seq (sub fh [0]) (.seq (.block 3 (.seq (sub fh [1,0,0,0]) (.seq (sub fh [1,0,0,1,0]) (.seq (.seq (sub fh [1,0,0,1,1,0,0]) (.block 4 (.loop yz))) (.seq (sub fh [1,0,0,1,1,1,0]) (sub fh [1,0,0,1,1,1,1])))))) (sub fh [1,1]))):=by kernel_rfl
def Zi{l:List aK}{x mv:I}{bl less:Nat}{K:Ex->St->Prop}(h:aq A 61 3 bl (l.map aX) x)(hl:Z l<1000000)(hb:∀e∈l,d<=Z e.word/\e.weight<4294967296/\less<=val e)
 (hs:Sl t [(0,mv),(1,x),(2,.int .i64 d),(3,.int .u64 less),(9,pw A.next 0)])
 (hK:∀t',Sl t' [(0,mv),(1,x),(2,.int .i64 d),(3,.int .u64 less),(9,pw A.next 0)]->K .nrm ⟨t',143,[],A.alloc (af 186 [.slice V 0 0,.bool (eh d less l).1,uN ((eh d less l).2)]),V⟩):
 W O (.seq (sub fy [1,1,0,0]) (.block 0 (.loop Co))) ⟨t,143,[],A.alloc (af 186 [.slice V 0 0,.bool ag,uN 0]),V⟩ K:=by
 obtain⟨g0,g1,g2,g3,g9,-⟩:=hs;apply W.q
 .intro M;simp(disch:=first|decide+kernel|omega)only[fy,iy,Aq,aa];rfl
 apply W.block;refine W.up (Z l) (λ i t D=>D=A.alloc (af 186 [.slice V 0 0,.bool (eh d less (l.take i)).1,uN ((eh d less (l.take i)).2)])/\Sl t [(0,mv),(1,x),(2,.int .i64 d),(3,.int .u64 less),(9,pw A.next 0),(10,.int .i64 i)]) ?_ (a8 _) ⟨rfl,?_⟩
 .rintro i t D hi ⟨rfl,g0,g1,g2,g3,g9,g10,-⟩;generalize hfi:eh d less (l.take i)=fo;have hE:dz (A.alloc (af 186 [.slice V 0 0,.bool fo.1,uN fo.2])) l x:=dz.kp ⟨bl,h⟩ (Kp.alloc _ _);have hlen:=hE.len;by_cases hlt:i<Z l
  .have he:l[i]?=U l[i]:=aZ hlt;obtain⟨p,j1,j2,q,j3,j4⟩:=hE.at he;obtain⟨hd,hwt,hle⟩:=hb _ (ff hlt);have ly:=gB (tb:=O) (t:=9) (l:=l[i].word) u9;have hsn:eh d less (l.take (i+1))=if aR d l[i]=V then(ae,val l[i]-less)else eh d less (l.take i):=by rw[d_ hlt,Zh]
   by_cases hn:l[i].word.length=d
   .rw[aA (yx.2 (by omega))]at hsn;have kv:=λ ih A=>JT (ih:=ih) (A:=A) hwt
    have hv4:=xE hwt;have s1:a_ .sub .u64 ((val l[i]:Nat):Int) ((less:Nat):Int)=.ok (uN (val l[i]-less)):=eQ hle (fM (by omega));have hE2:dz (A.alloc (af 186 [.slice V 0 0,.bool ae,uN fo.2])) l x:=dz.kp ⟨bl,h⟩ (Kp.alloc _ _);obtain⟨p',j1',j2',-⟩:=hE2.at he;rw[j1]at j1';cases j1';have sA:=qg4 (A:=A) (a:=.slice V 0 0) (b:=.bool fo.1) (c:=uN fo.2) (v:=.bool ae) rfl rfl;have sB:=qg5 (A:=A) (a:=.slice V 0 0) (b:=.bool ae) (c:=uN fo.2) (v:=uN (val l[i]-less)) rfl rfl;apply W.run 20
    .intro M;simp(disch:=first|decide+kernel|omega)only[Co,fy,iy,Aq,aa,g1,g2,g3,g9,g10,hlen,hlt,j1,j2,j2',j3,j4,ly,hn,fV,nT,sA,sB,kv,s1];rfl
    refine⟨hlt,_,_,rfl,by rw[hsn],?_⟩;simp only[Sq,aa,ak,g0,g1,g2,g3,g9]
   .rw[ax (λ h=>hn (by have:=yx.1 h;omega))]at hsn;apply W.run 20
    .intro M;simp(disch:=first|decide+kernel|omega)only[Co,fy,iy,Aq,aa,g1,g2,g9,g10,hlen,hlt,j1,j2,j3,j4,ly,hn];rfl
    refine⟨hlt,_,_,rfl,by rw[hsn,hfi],?_⟩;simp only[Sq,aa,ak,g0,g1,g2,g3,g9]
  .have e:i=Z l:=by omega
   subst e;rw[dU]at hfi;apply W.run 20
   .intro M;simp(disch:=first|decide+kernel|omega)only[Co,fy,iy,Aq,aa,g1,g10,hlen,hlt];rfl
   rw[<-hfi];refine hK _ ?_;simp only[Sq,aa,ak,g0,g1,g2,g3,g9]
 .simp only[Sq,aa,ak,g0,g1,g2,g3,g9]
variable {m:Nat}{M:List aw}
def jf.more{X Y:Nat->Prop}(h:jf A m b M X)(hx:∀z,z<A.next->Y z->X z):jf A m b M Y:=by
 obtain⟨x,rows,h1,h2,h3,hX,h4,h5⟩:=h;refine⟨x,rows,h1,h2,⟨h3.1,λ h=>⟨(h3.2 h).1,(h3.2 h).2.1,λ hy=>(h3.2 h).2.2 (hx _ (h3.2 h).2.1 hy)⟩⟩,λ hy=>hX (hx _ h1.1 hy),h4,λ i s hs=>?_⟩;obtain⟨y,c,e1,e2,e0,e3⟩:=h5 i s hs;refine⟨y,c,e1,e2,e0,λ h=>⟨(e3 h).1,(e3 h).2.1,λ hy=>(e3 h).2.2 (hx c ?_ hy)⟩⟩;rcases e2 with⟨_,e2⟩|⟨_,_,_,e2,_⟩
 .exact aU (gu.1 e2) h
 .exact e2
def jf.not{X:Nat->Prop}(h:jf A m b M X):¬X m/\m<A.next/\(M≠ []->¬X b/\b<A.next):=by
 obtain⟨x,rows,h1,h2,h3,hX,h4,h5⟩:=h;exact⟨hX,h1.1,λ h=>⟨(h3.2 h).2.2,(h3.2 h).2.1⟩⟩
def My{a:Nat}{n:Int}:eu O 246 [(0,.int .u8 a),(1,.int .u64 o),(2,.int .i64 n)]=.ok (.agg ⟨[.int .u8 a,.int .u64 o,.int .i64 n]⟩):=by kernel_rfl
variable {c:Nat}{y:I}
def Ma{D:Mem}{l:List cr}{a:cr}(h:aq D 246 3 c (l.map bP) y)(hl:Z l<1000000):
 ∃y' D',dJ O (D.alloc (af 246 (bP a))) 184 184 y (.slice (U ⟨D.next,0,V⟩) 1 2)=.ok (y',D')/\aq D' 246 3 (D.next+1) ((l++[a]).map bP) y'/\D'.next=D.next+2/\∀z,(z=c->y=.slice V 0 0)->z<D.next->D'.get z=D.get z:=by
 obtain⟨i,t1,t2,t3⟩:=qhR;have h':aq (D.alloc (af 246 (bP a))) 246 3 c (l.map bP) y:=h.same (by rw[aG];omega) λ hh=>cY (by omega)
 obtain⟨x',D',h1,h2,h3,h4⟩:=aq.append (tb:=O) (st:=184) (xt:=184) h' f_ f_ qiI t1 t2 t3 (by omega) (by omega) (by rw[bc];omega) (de D _) rfl (by
  intro v hv;simp only[bP,cG,eC,or_false]at hv;rcases hv with rfl|rfl|rfl<;>rfl)
 rw[aG]at h2 h3 h4;exact⟨x',D',h1,by rw[gg];exact h2,by omega,λ z hz hzn=>by rw[h4 z hz (by omega),cY (by omega)]⟩
def Em(f:Nat):Prop:=∀(l:List aK) (d:Nat) (p:List UInt8) (M:List aw) (A:Mem) (m b bl:Nat) (x:I) (X:Nat->Prop),Go.Sto.Good M->l≠ []->dk l->ot d p l->(∀e∈l,Z e.word<d+f/\Z e.word<1000000/\e.weight<4294967296)->Z l<1000000->jf A m b M X->(∀z,X z->z<A.next)->
 aq A 61 3 bl (l.map aX) x->X bl->(dv f l d (least l) M).1.length<1000000->
 ∃v A',az O 158 [pw m 0,x,.int .i64 d,uN (least l)] A v A'/\v=iN ((dv f l d (least l) M).2)/\∃b',jf A' m b' (dv f l d (least l) M).1 X/\((M≠ []/\b'=b)\/A.next<=b')/\A.next<=A'.next/\∀z,z<A.next->z≠m->(M≠ []->z≠b)->A'.get z=A.get z
def Zz{D:Mem}{l:List aK}{rs:List cr}{x mv fv ov:I}{bl less sp:Nat}{K:Ex->St->Prop}(h:aq D 61 3 bl (l.map aX) x)(hy:aq D 246 3 c (rs.map bP) y)(hS:VB D 186 sp (.var 3) [y,fv,ov])(hi:i<Z l)(hl:Z l<1000000)(hal:Z rs<1000000)(hd:d<=(l[i]).word.length)(hdw:(l[i]).word.length<1000000)
 (hs:Sl t [(0,mv),(1,x),(2,.int .i64 d),(3,.int .u64 less),(9,pw sp 0),(11,.int .i64 i)])
 (hskip:(aR d l[i]=V\/(rs.getLast?).map (·.byte)=aR d l[i])->∀t',Sl t' [(0,mv),(1,x),(2,.int .i64 d),(3,.int .u64 less),(9,pw sp 0),(11,.int .i64 i)]->K (.exit 3) ⟨t',143,[],D,V⟩)
 (hgo:¬(aR d l[i]=V\/(rs.getLast?).map (·.byte)=aR d l[i])->∀t',Sl t' [(0,mv),(1,x),(2,.int .i64 d),(3,.int .u64 less),(9,pw sp 0),(11,.int .i64 i)]->K .nrm ⟨t',143,[],D,V⟩):
 W O (sub fh [1,0,0,0]) ⟨t,143,[],D,V⟩ K:=by
 obtain⟨g0,g1,g2,g3,g9,g11,-⟩:=hs;have hE:dz D l x:=⟨bl,h⟩;have he:l[i]?=U l[i]:=aZ hi;obtain⟨p,j1,j2,q,j3,j4⟩:=hE.at he;have ly:=gB (tb:=O) (t:=9) (l:=l[i].word) u9;have hA:gd D rs y:=⟨c,hy⟩;have la:=hA.len;have a1:aj O D.get 184 (pw sp 0)=.ok y:=hS.ld rfl f_ rfl;by_cases hn:l[i].word.length=d
 .apply W.run 20
  .intro M;simp(config:={maxSteps:=4000000})(disch:=first|decide+kernel|omega|simp only[Wq,aa])only[fh,fy,iy,Aq,av,reduceIte,aa,ak,g1,g2,g9,g11,j1,j3,j4,ly,hn,Fq,bQ []];rfl
  refine hskip (.inl (yx.2 (by omega))) _ ?_;simp only[Sq,aa,ak,g0,g1,g2,g3,g9,g11]
 have hd1:d<l[i].word.length:=by omega
 have hbe:=yw hd1;by_cases h0:rs=[]
 .subst h0;apply W.run 20
  .intro M;simp(config:={maxSteps:=4000000})(disch:=first|decide+kernel|omega|simp only[Wq,aa])only[fh,fy,iy,Aq,av,reduceIte,aa,ak,g1,g2,g9,g11,j1,j3,j4,ly,hn,eT,a1,la,eB,dM,dK,Fq,bQ []];rfl
  refine hgo (by rw[hbe];simp) _ ?_;simp only[Sq,aa,ak,g0,g1,g2,g3,g9,g11]
 have hpos:0<Z rs:=je.2 h0;have hlast:rs[Z rs-1]?=U (rs[Z rs-1]'(by omega)):=aZ (by omega)
 obtain⟨d2,hd2,hd3⟩:=cF (t:=246) (p:=ae) (by kernel_rfl);have k1:=aq.idx (tb:=O) (t:=184) (i:=Z rs-1) (kd:=.i64) hy f_ xH (by rw[bc];omega);have k2:=aq.load (tb:=O) (t:=5) (j:=0) hy u5 rfl (show(rs.map bP)[Z rs-1]?=U (bP (rs[Z rs-1]'(by omega))) by rw[dN,hlast];rfl) rfl (by omega)
 have s1:a_ .sub .i64 ((Z rs:Nat):Int) ((1:Nat):Int)=.ok (iN (Z rs-1)):=eQ (by omega) (ct (by omega));have ixe:=mO (tb:=O) (t:=9) (kd:=.i64) u9 hd1;rw[eo]at k2;have hgl:(rs.getLast?).map (·.byte)=U (rs[Z rs-1]'(by omega)).byte:=by rw[List.getLast?_eq_getElem?,hlast];rfl
 by_cases he2:(rs[Z rs-1]'(by omega)).byte.toNat=(l[i].word.getD d 0).toNat
 .apply W.run 20
  .intro M;simp(config:={maxSteps:=4000000})(disch:=first|decide+kernel|omega|simp only[Wq,aa])only[fh,fy,iy,Aq,av,reduceIte,aa,ak,g1,g2,g9,g11,j1,j3,j4,ly,hn,eT,Oe,a1,la,hpos,dM,dK,s1,k1,k2,ixe,he2,Fq,bQ []];rfl
  refine hskip (.inr (by rw[hgl,hbe,td.1 he2])) _ ?_;simp only[Sq,aa,ak,g0,g1,g2,g3,g9,g11]
 .apply W.run 20
  .intro M;simp(config:={maxSteps:=4000000})(disch:=first|decide+kernel|omega|simp only[Wq,aa])only[fh,fy,iy,Aq,av,reduceIte,aa,ak,g1,g2,g9,g11,j1,j3,j4,ly,hn,eT,Oe,a1,la,hpos,dM,dK,s1,k1,k2,ixe,he2,Fq,bQ []];rfl
  refine hgo (by
   rw[hgl,hbe];rintro(h|h)
   .cases h
   .exact he2 (by rw[iR h])) _ ?_
  simp only[Sq,aa,ak,g0,g1,g2,g3,g9,g11]
theorem Mr:∀{l:List aK},dk l->∀i,dk (l.drop i)
 | [],_,i=>by rw[List.drop_nil];trivial
 |x::l,h,0=>h
 |x::l,h,i+1=>Mr h.2 i
def HB(A:Mem)(l:List aK)(d less:Nat)(rec:List aK->Nat->List aw->List aw×Nat)(R:List aw×List cr)(m b:Nat)(M:List aw)(X:Nat->Prop)(fv ov:I)(r:List aK)(rs:List cr)(Mi:List aw)(D:Mem):Prop:=
 ∃bi y c,cT rec d less r rs Mi=R/\jf D m bi Mi (λ z=>X z\/z=A.next\/(rs≠ []/\z=c))/\((M≠ []/\bi=b)\/A.next<=bi)/\VB D 186 A.next (.var 3) [y,fv,ov]/\
  aq D 246 3 c (rs.map bP) y/\(rs=[]->y=.slice V 0 0)/\(rs≠ []->A.next<c)/\(A.next<D.next/\∀z,z<A.next->z≠m->(M≠ []->z≠b)->D.get z=A.get z)
def Zt{f:Nat}(ih:Em f){l:List aK}{less bl:Nat}{p:List UInt8}{Mi:List aw}{X:Nat->Prop}{fv ov x:I}{R:List aw×List cr}{rs:List cr}{D:Mem}{K:Ex->St->Prop}
 (ha:dk l)(hbg:ot d p l)(hb:∀e∈l,Z e.word<d+(f+1)/\Z e.word<1000000/\e.weight<4294967296/\less<=val e)(hl:Z l<1000000)(hX:∀z,X z->z<A.next)(hxl:aq A 61 3 bl (l.map aX) x)(hXb:X bl)(hmA:¬X m/\m<A.next)(hbA:M≠ []->¬X b)
 (hRg:Go.Sto.Good R.1)(hRl:R.1.length<1000000)(hRa:R.2.length<=256)(hi:i<Z l)(hdl:d<1000000)
 (hgo:¬(aR d l[i]=V\/(rs.getLast?).map (·.byte)=aR d l[i]))
 (h:HB A l d less (λ own n M=>dv f own (d+1) n M) R m b M X fv ov (l.drop i) rs Mi D)
 (hs:Sl t [(0,pw m 0),(1,x),(2,.int .i64 d),(3,.int .u64 less),(9,pw A.next 0),(11,.int .i64 i)])
 (hK:∀t' D' rs' Mi',HB A l d less (λ own n M=>dv f own (d+1) n M) R m b M X fv ov (l.drop (i+1)) rs' Mi' D'->Sl t' [(0,pw m 0),(1,x),(2,.int .i64 d),(3,.int .u64 less),(9,pw A.next 0),(11,.int .i64 i)]->K .nrm ⟨t',143,[],D',V⟩):
 W O (.seq (sub fh [1,0,0,1,0]) (.seq (.seq (sub fh [1,0,0,1,1,0,0]) (.block 4 (.loop yz))) (.seq (sub fh [1,0,0,1,1,1,0]) (sub fh [1,0,0,1,1,1,1])))) ⟨t,143,[],D,V⟩ K:=by
 obtain⟨bi,y,c,h1,h2,h3,h4,h5,h6,h7,h8⟩:=h;obtain⟨g0,g1,g2,g3,g9,g11,-⟩:=hs;have he:l[i]?=U l[i]:=aZ hi;have hmem:=ff hi;obtain⟨hw1,hw2,hw3,hw4⟩:=hb _ hmem;have hdw:d<l[i].word.length:=by
  refine Nat.lt_of_not_le λ hh=>hgo (.inl (yx.2 hh))
 have hbe:=yw hdw;have hbl:=hX _ hXb;have hbm:bl≠m:=λ h=>hmA.1 (h▸hXb)
 have hDA:∀z,X z->D.get z=A.get z:=λ z hz=>h8.2 z (hX z hz) (λ h=>hmA.1 (h▸hz)) (λ hM h=>hbA hM (h▸hz))
 have hxD:aq D 61 3 bl (l.map aX) x:=hxl.same (by have:=h8.1;omega) λ _=>hDA bl hXb
 have hdr:l.drop i=l[i]::l.drop (i+1):=mq hi;rw[hdr]at h1;unfold cT at h1;rw[ax hgo]at h1;apply W.q
 .intro M;simp(disch:=first|decide+kernel|omega)only[fh,fy,iy,Aq,aa];rfl
 apply W.seq;refine qct hxD he hdw hl (λ e he=>(hb e he).2.1) (mv:=pw m 0) (sp:=pw A.next 0) (less:=less) (by
  simp only[Sq,aa,ak,g0,g1,g2,g3,g9,g11]) ?_
 rintro t' E xo bo kE hso hbo ⟨g0,g1,g2,g3,g9,g11,g12,-⟩;show W O _ _ _;rw[hdr]at hso;have hownm:∀e∈(l[i]::l.drop (i+1)).filter (λ x=>decide (aR d x=aR d l[i])),e∈l/\aR d e=aR d l[i]:=λ e he=>by
  obtain⟨e1,e2⟩:=qn.1 he;rw[<-hdr]at e1;exact⟨List.mem_of_mem_drop e1,by simpa using e2⟩
 have hne:(l[i]::l.drop (i+1)).filter (λ x=>decide (aR d x=aR d l[i]))≠ []:=by
  intro h;have:l[i]∈(l[i]::l.drop (i+1)).filter (λ x=>decide (aR d x=aR d l[i])):=qn.2 ⟨cJ,by simp⟩;rw[h]at this;cases this
 have hlen:((l[i]::l.drop (i+1)).filter (λ x=>decide (aR d x=aR d l[i]))).length<1000000:=by
  have:=BC (λ x=>decide (aR d x=aR d l[i])) (l[i]::l.drop (i+1));rw[<-hdr,vu]at this;rw[<-hdr];omega
 have hasc:dk ((l[i]::l.drop (i+1)).filter (λ x=>decide (aR d x=aR d l[i]))):=by rw[<-hdr];exact zQ (Mr ha i)
 generalize (l[i]::l.drop (i+1)).filter (λ x=>decide (aR d x=aR d l[i]))=own at h1 hso hownm hne hlen hasc;obtain⟨gl,hgl⟩:=Sx (A:=E) ⟨bo,hso⟩ hne (λ e he=>(hb e (hownm e he).1).2.2.1) hlen;apply W.qG (gl)
 .intro M hM;simp(disch:=first|decide+kernel|omega)only[fh,fy,iy,Aq,aa,g12,hgl];rfl
 have hpre:=Cc (d:=d) (less:=less) (λ own n M=>GA f own (d+1) n M) (l.drop (i+1)) (rs++[⟨(aR d l[i]).getD 0,least own-less,(dv f own (d+1) (least own) Mi).2⟩]) (dv f own (d+1) (least own) Mi).1;rw[h1]at hpre;have hc:rs≠ []->c<D.next:=λ h=>by
  rcases h5 with⟨_,e⟩|⟨_,_,_,e,_⟩
  .exact aU (gu.1 e) h
  .exact e
 have hboE:bo<E.next:=by
  rcases hso with⟨_,e⟩|⟨_,_,_,e,_⟩
  .exact aU (gu.1 e) hne
  .exact e
 have hkE:=kE.1;have hME:jf E m bi Mi (λ z=>X z\/z=A.next\/(rs≠ []/\z=c)\/z=bo):=(h2.more (λ z hz h=>by
  rcases h with h|h|h|h
  .exact .inl h
  .exact .inr (.inl h)
  .exact .inr (.inr h)
  .omega)).kp kE
 have hown0:=hME.not;obtain⟨v,E2,⟨gs,hgs⟩,rfl,b2,hM2,hb2,hn2,hf2⟩:=ih own (d+1) (p++[l[i].word.getD d 0]) Mi E m bi bo xo _ (O5 hRg ((GA f own (d+1) (least own) Mi).trans hpre.1)) hne hasc (λ e he=>by
  obtain⟨e1,e2⟩:=hownm e he;rw[hbe]at e2;obtain⟨hd,hee⟩:=bU.1 e2;exact⟨by rw[d_ hd,(hbg e e1).1,hee],hd⟩) (λ e he=>by
  have:=hb e (hownm e he).1;exact⟨by omega,this.2.1,this.2.2.1⟩) hlen hME (λ z h=>by
  have:=h8.1;rcases h with h|h|h|h
  .have:=hX z h;omega
  .omega
  .have:=hc h.1;omega
  .omega) hso (.inr (.inr (.inr rfl))) (mz hpre.1.length_le hRl)
 have hkept:∀z,z<E.next->(X z\/z=A.next\/(rs≠ []/\z=c)\/z=bo)->E2.get z=E.get z:=λ z hz h=>hf2 z hz (λ e=>hown0.1 (e▸h)) λ hM e=>(hown0.2.2 hM).1 (e▸h)
 have hAE:A.next<E.next:=by have:=h8.1;omega
 have vE:VB E 186 A.next (.var 3) [y,fv,ov]:=h4.kp kE
 have vE2:VB E2 186 A.next (.var 3) [y,fv,ov]:=⟨by omega,vE.2.same (hkept _ hAE (.inr (.inl rfl)))⟩
 have l1:aj O E.get 184 (pw A.next 0)=.ok y:=vE.ld rfl f_ rfl;have l2:aj O E2.get 184 (pw A.next 0)=.ok y:=vE2.ld rfl f_ rfl;have hxE:aq E 61 3 bl (l.map aX) x:=hxD.same hkE (kE.2 bl);have hxE2:aq E2 61 3 bl (l.map aX) x:=hxE.same hn2 λ h=>hkept bl h (.inl hXb)
 obtain⟨pe,i1,-,qe,i3,i4⟩:=dz.at ⟨bl,hxE⟩ he;obtain⟨pe',i1',-,qe',i3',i4'⟩:=dz.at ⟨bl,hxE2⟩ he;rw[i1]at i1';cases i1';rw[i3]at i3';cases i3';have ixe:=mO (tb:=O) (t:=9) (kd:=.i64) u9 hdw;have hle:less<=least own:=by
  obtain⟨e,he1,he2⟩:=yR hne;rw[he2];exact(hb e (hownm e he1).1).2.2.2
 have hlo:least own<=4294967296:=by
  obtain⟨e,he1,he2⟩:=yR hne;rw[he2];exact xE (hb e (hownm e he1).1).2.2.1
 have s1:a_ .sub .u64 ((least own:Nat):Int) ((less:Nat):Int)=.ok (uN (least own-less)):=eQ hle (fM (by omega));have a1:a_ .add .i64 ((d:Nat):Int) ((1:Nat):Int)=.ok (iN (d+1)):=e_ (ct (by omega));have sy:dD 100 y y=ae:=by
  rcases h5 with⟨rfl,-⟩|⟨_,_,rfl,-⟩
  .rfl
  .exact AP _ _ _ _
 have h5E:aq E2 246 3 c (rs.map bP) y:=aq.jb (aq.jb h5 (λ h=>h6 (gu.1 h)) hkE λ _ h=>kE.2 c h) (λ h=>h6 (gu.1 h)) hn2 λ h hlt=>hkept c hlt (.inr (.inr (.inl ⟨λ e=>h (by rw[e];rfl),rfl⟩)))
 have hrl:Z rs<1000000:=by
  have:=hpre.2.length_le;rw[aY]at this;omega
 generalize hq:dv f own (d+1) (least own) Mi=q at*;obtain⟨y',F,happ,hs3,hn3,hf3⟩:=Ma (a:=⟨l[i].word.getD d 0,least own-less,q.2⟩) h5E hrl;have happ':dJ O (E2.alloc (af 246 [bN ((l[i].word.getD d 0).toNat),uN (least own-less),iN q.2])) 184 184 y (.slice (U ⟨E2.next,0,V⟩) 1 2)=.ok (y',F):=happ;have vF:dp F 186 A.next (.var 3) [y,fv,ov]:=vE2.2.same (hf3 _ (λ e=>by
  by_cases hr:rs=[]
  .exact h6 hr
  .have:=h7 hr;omega) (by omega))
 obtain⟨G,sG,vG,nG,kG⟩:=db (tb:=O) (o:=0) (v:=y') Te vF (by simp) (aq.dQ hs3).1 (aq.dQ hs3).2;apply W.cC (gs) 20
 .intro M hM;simp(config:={maxSteps:=4000000})(disch:=first|decide+kernel|omega|simp only[Wq,aa])only[fh,fy,iy,Aq,av,reduceIte,aa,ak,g0,g1,g2,g3,g9,g11,g12,eT,l1,l2,i1,i3,i4,i4',ixe,s1,a1,hgs,My,MQ,happ',sG,sy,Fq,bQ [(1,17),(6,17)]];rfl
 refine hK _ G _ _ ⟨b2,y',E2.next+1,by rw[hbe]at h1;exact h1,?_,?_,?_,?_,λ h=>by simp at h,λ _=>by omega,by omega,λ z hz hm hM=>?_⟩ ?_
 .have hM3:jf E2 m b2 q.1 (λ z=>X z\/z=A.next\/(rs≠ []/\z=c)\/z=E2.next+1):=hM2.more (λ z hz h=>by
   rcases h with h|h|h|h
   .exact .inl h
   .exact .inr (.inl h)
   .exact .inr (.inr (.inl h))
   .omega)
  refine(hM3.Nn (A':=G) (by omega) λ z hz hnx=>?_).more (λ z hz h=>by
   rcases h with h|h|h
   .exact .inl h
   .exact .inr (.inl h)
   .exact .inr (.inr (.inr h.2)))
  rw[kG z (λ e=>hnx (.inr (.inl e))),hf3 z (λ e=>?_) hz];by_cases hr:rs=[]
  .exact h6 hr
  .exact aU (.inr (.inr (.inl ⟨hr,e⟩))) hnx
 .rcases hb2 with⟨_,e⟩|e
  .rw[e];exact h3
  .exact .inr (by omega)
 .exact⟨by omega,vG⟩
 .exact hs3.same (by omega) λ h=>kG _ (by omega)
 .rw[kG z (by omega),hf3 z (λ e=>?_) (by omega),hf2 z (by omega) hm (λ hMi e=>?_),kE.2 z (by have:=h8.1;omega),h8.2 z hz hm hM]
  .rcases h3 with⟨hM',e'⟩|e'
   .exact hM hM' (by rw[e,e'])
   .omega
  .by_cases hr:rs=[]
   .exact h6 hr
   .have:=h7 hr;omega
 .simp only[Sq,aa,ak,g0,g1,g2,g3,g9,g11]
def jf.free{X:Nat->Prop}(h:jf A m b M X)(h0:M=[])(b':Nat):jf A m b' M X:=by
 obtain⟨x,rows,h1,h2,h3,hX,h4,h5⟩:=h;subst h0;have hr:rows=[]:=eN.1 h4;subst hr;have hx:=h3.1 rfl;subst hx;exact⟨_,[],h1,aq.nil _ _ _ _,⟨λ _=>rfl,λ h=>aU rfl h⟩,hX,h4,λ i s hs=>by simp at hs⟩
def qha{f:Nat}(ih:Em f):Em (f+1):=by
 intro l d p M A m b bl x X hg hne ha hbg hb hl hM hX hxl hXb hlen;refine cZ (aD Tryz.func158) WC (by kernel_rfl) ?_;have hgf:Go.Sto.Good (dv (f+1) l d (least l) M).1:=(Lh (f+1) l d p M hg hne ha hbg λ e he=>⟨(hb e he).1,xE (hb e he).2.2⟩).1;have hRa:=qg6 hgf;have hst:dv (f+1) l d (least l) M=eP (cT (λ own n M=>dv f own (d+1) n M) d (least l) l [] M).1 ⟨(eh d (least l) l).1,(eh d (least l) l).2,(cT (λ own n M=>dv f own (d+1) n M) d (least l) l [] M).2⟩:=rfl;rw[hst]at hgf hlen⊢;generalize hR:cT (λ own n M=>dv f own (d+1) n M) d (least l) l [] M=R at hgf hlen hRa⊢;have hRp:=QJ R.1 ⟨(eh d (least l) l).1,(eh d (least l) l).2,R.2⟩;have hRg:=O5 hgf hRp;have hRl:R.1.length<1000000:=mz hRp.length_le hlen;have hdl:d<1000000:=by
  obtain⟨e,he⟩:=Bw l hne;have:=(hbg e he).2;have:=(hb e he).2.1;omega
 obtain⟨hmX,hmA,hMb⟩:=hM.not;apply W.q2
 .intro M _;simp(disch:=first|decide+kernel|omega)only[fy,iy,Aq,aa,rh,a7];rfl
 apply W.seq;refine Zi (mv:=pw m 0) (less:=least l) hxl hl (λ e he=>⟨(hbg e he).2,(hb e he).2.2,least_le he⟩) (by
  simp only[Sq,aa,ak]) ?_
 rintro t0 ⟨g0,g1,g2,g3,g9,-⟩;show W O _ _ _;generalize (eh d (least l) l).1=fv at*;generalize (eh d (least l) l).2=ov at*;have vS:=aQ A 186 [.slice V 0 0,.bool fv,.int .u64 ov];have kS:=Kp.alloc A (af 186 [.slice V 0 0,.bool fv,.int .u64 ov]);have nS:(A.alloc (af 186 [.slice V 0 0,.bool fv,.int .u64 ov])).next=A.next+1:=aG _ _
 generalize A.alloc (af 186 [.slice V 0 0,.bool fv,.int .u64 ov])=D0 at vS kS nS;apply W.seq;apply W.q
 .intro M;simp(disch:=first|decide+kernel|omega)only[fy,iy,Aq,aa];rfl
 apply W.block;refine W.up (Z l) (λ i t D=>∃rs Mi,HB A l d (least l) (λ own n M=>dv f own (d+1) n M) R m b M X (.bool fv) (.int .u64 ov) (l.drop i) rs Mi D/\Sl t [(0,pw m 0),(1,x),(2,.int .i64 d),(3,uN (least l)),(9,pw A.next 0),(11,.int .i64 i)]) ?_ (a8 _) ⟨[],M,?_,?_⟩
 .rintro i t D hi ⟨rs,Mi,hRn,hs⟩;obtain⟨g0,g1,g2,g3,g9,g11,-⟩:=id hs;obtain⟨bi,y,c,h1,h2,h3,h4,h5,h6,h7,h8⟩:=id hRn;have hDA:∀z,X z->D.get z=A.get z:=λ z hz=>h8.2 z (hX z hz) (λ h=>hmX (h▸hz)) (λ hM h=>(hMb hM).1 (h▸hz))
  have hxD:aq D 61 3 bl (l.map aX) x:=hxl.same (by have:=h8.1;omega) λ _=>hDA bl hXb
  have hlx:=dz.len ⟨bl,hxD⟩;have hrp:=Cc (d:=d) (less:=least l) (λ own n M=>GA f own (d+1) n M) (l.drop i) rs Mi;rw[h1]at hrp;have hrl:Z rs<1000000:=by
   have:=hrp.2.length_le;omega
  by_cases hlt:i<Z l
  .have hmem:=ff hlt;rw[MX];apply W.seq;apply W.run 20
   .intro M;simp(disch:=first|decide+kernel|omega)only[fh,fy,iy,Aq,aa,g1,g11,hlx,hlt];rfl
   apply W.seq;apply W.block;apply W.seq;refine Zz hxD h5 h4 hlt hl hrl (hbg _ hmem).2 (hb _ hmem).2.1 (mv:=pw m 0) (less:=least l) (by
    simp only[Sq,aa,ak,g0,g1,g2,g3,g9,g11]) (λ hsk t' hs2=>?_) (λ hgo t' hs2=>?_)
   .show W O (sub fh [1,1]) _ _;obtain⟨g0,g1,g2,g3,g9,g11,-⟩:=hs2;apply W.run 20
    .intro M;simp(disch:=first|decide+kernel|omega)only[fh,fy,iy,Aq,aa,g11];rfl
    refine⟨hlt,_,_,rfl,rs,Mi,⟨bi,y,c,?_,h2,h3,h4,h5,h6,h7,h8⟩,?_⟩
    .have hdr:l.drop i=l[i]::l.drop (i+1):=mq hlt;rw[hdr]at h1;unfold cT at h1;rw[aA hsk]at h1;exact h1
    .simp only[Sq,aa,ak,g0,g1,g2,g3,g9,g11]
   .show W O _ _ _;refine Zt ih ha hbg (λ e he=>⟨(hb e he).1,(hb e he).2.1,(hb e he).2.2,least_le he⟩) hl hX hxl hXb ⟨hmX,hmA⟩ (λ h=>(hMb h).1) hRg hRl hRa hlt hdl hgo hRn hs2 (λ t3 D3 rs3 M3 hR3 hs3=>?_);show W O (sub fh [1,1]) _ _;obtain⟨g0,g1,g2,g3,g9,g11,-⟩:=hs3;apply W.run 20
    .intro M;simp(disch:=first|decide+kernel|omega)only[fh,fy,iy,Aq,aa,g11];rfl
    refine⟨hlt,_,_,rfl,rs3,M3,hR3,?_⟩;simp only[Sq,aa,ak,g0,g1,g2,g3,g9,g11]
  .have hil:i=Z l:=by omega
   subst hil;rw[Bv]at h1;unfold cT at h1;rw[<-h1]at hgf hlen hRa hRl hRp hRg⊢;rw[MX];apply W.seq;apply W.run 20
   .intro M;simp(disch:=first|decide+kernel|omega)only[fh,fy,iy,Aq,aa,g1,g11,hlx];rfl
   show W O _ _ _;obtain⟨dd,hd1,hd2⟩:=cF (t:=186) (p:=ae) (by kernel_rfl);have lo:aj O D.get 186 (pw A.next 0)=.ok (.agg ⟨aS y ⟨fv,ov,rs⟩⟩):=cg hd1 hd2 (l:=aS y ⟨fv,ov,rs⟩) gV h4.2;have hMD:=h2.more (Y:=X) (λ z _ h=>.inl h);have hnot:=h2.not;obtain⟨v,E,⟨gn,hgn⟩,rfl,b2,hM2,hb2,hn2,hf2⟩:=qeR (s:=⟨fv,ov,rs⟩) hMD (λ z hz=>by have:=hX z hz;have:=h8.1;omega) h5 h6 (λ hr=>⟨λ hM e=>(hnot.2.2 hM).1 (.inr (.inr ⟨hr,e.symm⟩)),by have:=h7 hr;omega,λ hx=>by have:=h7 hr;have:=hX c hx;omega⟩) hrl (λ u hu=>mz (O4 hRg hu) (by omega)) hRl;apply W.cC (gn) 20
   .intro M hM;simp(config:={maxSteps:=4000000})(disch:=first|decide+kernel|omega|simp only[Wq,aa])only[fy,iy,Aq,av,reduceIte,aa,ak,g0,g9,lo,hgn,Fq,bQ []];rfl
   refine⟨by simp,rfl,_,(by simp only[iy,Aq,aa]<;>rfl),rfl,b2,hM2,?_,by have:=h8.1;exact dm (BG this) hn2,λ z hz hm hM=>?_⟩
   .rcases hb2 with⟨_,e⟩|e
    .rw[e];exact h3
    .exact .inr (by have:=h8.1;omega)
   .show E.get z=A.get z;rw[hf2 z (by have:=h8.1;omega) hm (λ hMi e=>?_),h8.2 z hz hm hM];rcases h3 with⟨hM',e'⟩|e'
    .exact hM hM' (by rw[e,e'])
    .omega
 .have hmore:∀z,z<A.next->(X z\/z=A.next\/(([]:List cr)≠ []/\z=0))->X z:=λ z hz h=>by
   rcases h with h|h|h
   .exact h
   .omega
   .exact aU rfl h.1
  by_cases hM0:M=[]
  .exact⟨A.next,.slice V 0 0,0,hR,((hM.free hM0 A.next).more hmore).kp kS,.inr (aI _),vS,aq.nil _ _ _ _,λ _=>rfl,λ h=>aU rfl h,by omega,λ z hz _ _=>kS.2 z hz⟩
  .exact⟨b,.slice V 0 0,0,hR,(hM.more hmore).kp kS,.inl ⟨hM0,rfl⟩,vS,aq.nil _ _ _ _,λ _=>rfl,λ h=>aU rfl h,by omega,λ z hz _ _=>kS.2 z hz⟩
 .simp only[Sq,aa,ak,g0,g1,g2,g3,g9]
theorem Tv:∀f,Em f
 |0=>by
  intro l d p M A m b bl x X hg hne ha hbg hb;obtain⟨e,he⟩:=Bw l hne;have h1:=(hbg e he).2;have h2:=(hb e he).1;omega
 |f+1=>qha (Tv f)
def dA.len(h:dA A M y):c_ O .len [112] [y]=.ok (iN (Z M)):=by
 obtain⟨b,rows,h1,h2,-⟩:=h;have:=aq.len (tb:=O) h1 eg;rwa[h2]at this
def dA.at{s:aw}(h:dA A M y)(hi:M[i]?=U s):
 ∃x p,eE O 112 y (.int .i64 i)=.ok p/\aj O A.get 186 p=.ok (.agg ⟨aS x s⟩)/\gd A s.arcs x/\∃q,bK O 186 p 0=.ok q/\aj O A.get 184 q=.ok x:=by
 obtain⟨b,rows,h1,h2,h3⟩:=h;obtain⟨x,e1,e2⟩:=h3 i s hi;have hl:i<Z rows:=(bU.1 e1).1;obtain⟨d,hd1,hd2⟩:=cF (t:=186) (p:=ae) (by kernel_rfl);refine⟨x,_,aq.idx h1 eg gV hl,aq.cg h1 hd1 hd2 gV e1,e2,_,eT,?_⟩;have:=aq.load (tb:=O) (j:=0) h1 f_ rfl e1 rfl (by omega);rwa[eo]at this
def dx(l:List aK):List aw:=(dv 256 l 0 (least l) []).1
def NB{l:List aK}(h0:l≠ [])(ha:dk l)(hw:∀e∈l,Z e.word<=255/\e.weight<4294967296):nh [] (dv 256 l 0 (least l) []) l 0 (least l):=
 Lh 256 l 0 [] [] ⟨λ i s h=>by simp at h,nb,λ i hi=>by simp at hi⟩ h0 ha (λ e _=>⟨rfl,a8 _⟩) λ e he=>⟨by have:=(hw e he).1;omega,xE (hw e he).2⟩
def gF:bk O 115=.ok 2:=by kernel_rfl
def vf:dj O 115=.ok (.agg ⟨[.slice V 0 0,uN 0]⟩):=by kernel_rfl
def Vu:eu O 241 []=.ok (.agg ⟨[.slice V 0 0]⟩):=by kernel_rfl
def Mw{a:Option Addr}{n:Int}:eu O 115 [(0,.slice a m c),(1,.int .u64 n)]=.ok (.agg ⟨[.slice a m c,.int .u64 n]⟩):=by kernel_rfl
def run_build{l:List aK}{x:I}(h:dz A l x)(h0:l≠ [])(ha:dk l)(hw:∀e∈l,1<=Z e.word/\Z e.word<=255/\e.weight<4294967296)(hl:Z l<1000000)(hn:(dx l).length<1000000):
 ∃v A',az O 96 [x] A v A'/\Kp A A'/\∃y,v=.tuple ⟨[.agg ⟨[y,uN (least l)]⟩,iN 0]⟩/\dA A' (dx l) y:=by
 have kB:=Kp.alloc A (af 115 [.slice V 0 0,uN 0]);have vB:=aQ A 115 [.slice V 0 0,uN 0];obtain⟨_,_,⟨g1,hg1⟩,⟨ca,ce,rfl,hce,-⟩,rfl⟩:=Sw (h.kp kB) (λ e he=>⟨(hw e he).1,(hw e he).2.1⟩) hl;obtain rfl:=hce ha;generalize hB:A.alloc (af 115 [.slice V 0 0,uN 0])=B at kB vB hg1;have hlen:=(h.kp kB).len;have kC:=Kp.alloc B (af 241 [.slice V 0 0]);have vC:=aQ B 241 [.slice V 0 0];have nC:(B.alloc (af 241 [.slice V 0 0])).next=B.next+1:=aG _ _
 obtain⟨g2,hg2⟩:=Sx ((h.kp kB).kp kC) h0 (λ e he=>(hw e he).2.2) hl;generalize hC:B.alloc (af 241 [.slice V 0 0])=C at kC vC nC hg2;obtain⟨b0,h1⟩:=(h.kp kB).kp kC;have hb0:b0<B.next:=by
  obtain⟨b1,h2⟩:=h.kp kB;rcases h1 with⟨-,h1⟩|⟨k,c,h1,-⟩
  .exact aU (gu.1 h1) h0
  .rcases h2 with⟨-,h2⟩|⟨k',c',h2,h3,-⟩
   .exact aU (gu.1 h2) h0
   .rw[h1]at h2;cases h2;exact h3
 have hM:jf C B.next B.next [] λ z=>z<B.next:=⟨_,[],vC,aq.nil _ _ _ _,⟨λ _=>rfl,λ h=>aU rfl h⟩,λ hx=>t_ _ hx,rfl,λ i s hs=>by simp at hs⟩
 obtain⟨v,D,⟨g3,hg3⟩,rfl,b',hM',-,hn',hf'⟩:=Tv 256 l 0 [] [] C B.next B.next b0 x (λ z=>z<B.next) ⟨λ i s h=>by simp at h,nb,λ i hi=>by simp at hi⟩ h0 ha (λ e _=>⟨rfl,a8 _⟩)
  (λ e he=>⟨by have:=(hw e he).2.1;omega,by have:=(hw e he).2.1;omega,(hw e he).2.2⟩) hl hM (λ z hz=>by omega) h1 hb0 hn
 obtain⟨y,rows,m1,m2,m3,-,m4,m5⟩:=hM';have kD:Kp B D:=⟨by omega,λ z hz=>by rw[hf' z (by omega) (by omega) (λ h=>aU rfl h),kC.2 z hz]⟩;have lm:aj O D.get 112 (pw B.next 0)=.ok y:=m1.ld rfl eg rfl;have hy:=aq.dQ m2;obtain⟨E,sE,vE,nE,fE⟩:=ku (tb:=O) (t:=115) (l':=[y,uN (least l)]) (by exact gF) (vB.kp kD).2 rfl (by simp) (by
  intro v hv;simp only[cG,eC,or_false]at hv;rcases hv with rfl|rfl
  .exact hy.2
  .rfl)
 have gP:∀z,z<D.next->¬z<B.next->E.get z=D.get z:=λ z _ hx=>fE z (by have:=vB.1;omega)
 obtain⟨d,hd1,hd2⟩:=cF (t:=115) (p:=ae) (by kernel_rfl);have lE:aj O E.get 115 (pw A.next 0)=.ok (.agg ⟨[y,uN (least l)]⟩):=cg hd1 hd2 gF vE;have hlp:¬Z l=0:=λ e=>h0 (eN.1 e)
 have bd:eu O 115 [(0,y),(1,uN (least l))]=.ok (.agg ⟨[y,uN (least l)]⟩):=by
  rcases m2 with⟨rfl,-⟩|⟨_,_,rfl,-⟩<;>exact Mw
 refine cZ (aD Tryz.func96) (c:=Tryz.f96.body.getD .skip) (by kernel_rfl) (by kernel_rfl) ?_;apply W.cC (g1+g2+g3) 60
 .intro M hM;simp(disch:=first|decide+kernel|omega)only[Tryz.f96,Aq,aa,vf,hB,hg1,Ff,hlen,hlp,Vu,hC,hg2,hg3,bA,br,CF,lm,bd,sE,c7,dc];rfl
 refine⟨by simp,rfl,_,(by simp only[Tryz.f96,Aq,aa,lE]<;>rfl),⟨by have:=kB.1;have:=kD.1;show A.next<=E.next;omega,λ z hz=>?_⟩,y,rfl,b',rows,?_,m4,λ i s hs=>?_⟩
 .show E.get z=A.get z;rw[fE z (by omega),kD.2 z (by have:=kB.1;omega),kB.2 z hz]
 .exact aq.jb m2 (λ h=>m3.1 (eN.1 (by rw[<-m4,h];rfl))) (by show D.next<=E.next;omega) λ hne hlt=>gP b' hlt (m3.2 λ h=>hne (eN.1 (by rw[m4,h];rfl))).2.2
 .obtain⟨x',c,e1,e2,e0,e3⟩:=m5 i s hs;exact⟨x',e1,c,aq.jb e2 (λ h=>e0 (gu.1 h)) (by show D.next<=E.next;omega) λ hne hlt=>gP c hlt (e3 λ h=>hne (by rw[h];rfl)).2.2⟩
def LP(v:I):Prop:=v=.tuple ⟨[.agg ⟨[.slice V 0 0,uN 0]⟩,iN 15]⟩
def Mx:eu O 115 []=.ok (.agg ⟨[.slice V 0 0,uN 0]⟩):=by kernel_rfl
def To{B:Mem}(h:VB A 115 b (.var 2) [.slice V 0 0,uN 0]):∃E,cm O A 115 (pw b 0) (.agg ⟨[.slice V 0 0,uN 0]⟩)=.ok E/\aj O E.get 115 (pw b 0)=.ok (.agg ⟨[.slice V 0 0,uN 0]⟩)/\E.next=A.next/\∀z,z≠b->E.get z=A.get z:=by
 obtain⟨E,sE,vE,nE,fE⟩:=ku (tb:=O) (t:=115) (l':=[.slice V 0 0,uN 0]) (by exact gF) h.2 rfl (by simp) (by
  intro v hv;simp only[cG,eC,or_false]at hv;rcases hv with rfl|rfl<;>rfl)
 obtain⟨d,hd1,hd2⟩:=cF (t:=115) (p:=ae) (by kernel_rfl);exact⟨E,sE,cg hd1 hd2 gF vE,nE,fE⟩
def qdQ{l:List aK}{x:I}(h:dz A l x)(ha:¬dk l)(hw:∀e∈l,1<=Z e.word/\Z e.word<=255)(hl:Z l<1000000):
 ∃v A',az O 96 [x] A v A'/\LP v/\Kp A A':=by
 have kB:=Kp.alloc A (af 115 [.slice V 0 0,uN 0]);have vB:=aQ A 115 [.slice V 0 0,uN 0];obtain⟨_,_,⟨g1,hg1⟩,⟨ca,ce,rfl,-,hce⟩,rfl⟩:=Sw (h.kp kB) hw hl;obtain rfl:=hce ha;obtain⟨E,sE,lE,nE,fE⟩:=To (B:=A) vB;generalize hB:A.alloc (af 115 [.slice V 0 0,uN 0])=B at kB vB hg1 sE nE fE;refine⟨_,E,?_,rfl,⟨by have:=kB.1;omega,λ z hz=>by rw[fE z (by omega),kB.2 z hz]⟩⟩;refine bX (g1) 60 (aD Tryz.func96) (by kernel_rfl) λ M hM=>?_
 simp(disch:=first|decide+kernel|omega)only[Tryz.f96,Aq,aa,vf,a7,hB,hg1,c7,dc,Mx,sE,lE]<;>rfl
def gi:bK O 115 (pw b o) 0=.ok (pw b o):=by kernel_rfl
def Fm:bK O 115 (pw b o) 1=.ok (pw b (o+1)):=by kernel_rfl
def yK:bK O 246 (pw b o) 0=.ok (pw b o):=by kernel_rfl
def wP:bK O 246 (pw b o) 1=.ok (pw b (o+1)):=by kernel_rfl
def tG:bK O 246 (pw b o) 2=.ok (pw b (o+2)):=by kernel_rfl
def gd.to{l:List cr}{x:I}{e:cr}(h:gd A l x)(hi:l[i]?=U e):
 ∃p,eE O 184 x (.int .i64 i)=.ok p/\∃q,bK O 246 p 2=.ok q/\aj O A.get 3 q=.ok (.int .i64 e.to):=by
 obtain⟨b,h⟩:=h;have hl:i<(l.map bP).length:=by rw[bc];exact(bU.1 hi).1
 exact⟨_,aq.idx h f_ xH hl,_,tG,aq.load (tb:=O) (j:=2) h u3 rfl (show(l.map bP)[i]?=U (bP e) by rw[dN,hi];rfl) rfl (by omega)⟩
def xC{D:Mem}{x:I}{s:aw}(h:gd D s.arcs x):cm O (D.alloc (af 186 [.slice V 0 0,.bool ag,uN 0])) 186 (pw D.next 0) (.agg ⟨aS x s⟩)=.ok (D.alloc (af 186 (aS x s))):=by
 obtain⟨b,h⟩:=h;refine fP gV rfl (by simp[aS]) (by simp) ?_;intro v hv;simp only[aS,cG,eC,or_false]at hv;rcases hv with rfl|rfl|rfl
 .exact(aq.dQ h).2
 .rfl
 .rfl
def dA.self(h:dA A M y):y.cells.toList=[y]/\bS y=ae:=by
 obtain⟨b,rows,h1,-⟩:=h;exact aq.dQ h1
def jZ:=cu nj
def lT:aH:=sub jZ [1,1,0,1,0,0]
def Ig:aH:=sub lT [1,0,0,1,1,1,0,0]
def WE:nj.body=U (.seq (sub jZ [0]) (.seq (sub jZ [1,0]) (.seq (.seq (sub jZ [1,1,0,0]) (.block 0 (.loop lT))) (.seq (sub jZ [1,1,1,0]) (sub jZ [1,1,1,1]))))):=by kernel_rfl
def MY:lT=(.seq (sub lT [0]) (.seq (.block 1 (.seq (sub lT [1,0,0,0]) (.seq (sub lT [1,0,0,1,0]) (.seq (sub lT [1,0,0,1,1,0]) (.block 2 (.loop Ig)))))) (sub lT [1,1]))):=by kernel_rfl
variable {n:Nat}
def qfv(h:dA A M y)(hM:M≠ [])(hn:n<=100000)(hl:Z M<1000000)(hL:Lay M):∃v A',az O 159 [.int .i64 n,.agg ⟨[y,.int .u64 k]⟩] A v A'/\v=.bool ae/\Kp A A':=by
 refine cZ (aD Tryz.func159) WE (by kernel_rfl) ?_;have kB:=Kp.alloc A (af 115 [y,.int .u64 k]);have vB:=aQ A 115 [y,.int .u64 k];have hy:=h.self;apply W.q
 .intro M;simp(disch:=first|decide+kernel|omega)only[jZ,nj,Aq,aa,a7];rfl
 have hB:=h.kp kB;generalize A.alloc (af 115 [y,.int .u64 k])=B at kB vB hB;have ly:∀D,Kp B D->aj O D.get 112 (.pointer (U ⟨A.next,0,V⟩))=.ok y:=λ D hD=>(vB.kp hD).ld rfl eg rfl
 have lB:=ly B (Kp.refl _);have cd:=hB.len;have hM1:¬Z M=0:=λ e=>hM (eN.1 e)
 have hn1:¬100000<n:=by omega
 apply W.q
 .intro M;simp(config:={maxSteps:=4000000})(disch:=first|decide+kernel|omega|simp only[Wq,aa])only[jZ,nj,Aq,av,reduceIte,aa,ak,gi,lB,cd,hM1,hn1,dM,dK];rfl
 apply W.seq;apply W.q
 .intro M;simp(disch:=first|decide+kernel|omega)only[jZ,nj,Aq,aa];rfl
 apply W.block;refine W.up (Z M) (λ i t D=>Kp B D/\Sl t [(3,.pointer (U ⟨A.next,0,V⟩)),(5,.int .i64 i)]) ?_ (a8 _) ⟨Kp.refl _,?_⟩
 .rintro i t D hi ⟨kD,g3,g5,-⟩;have lD:=ly D kD;have hD:=hB.kp kD;have lenD:=hD.len;by_cases hlt:i<Z M
  .have hMi:M[i]?=U M[i]:=aZ hlt;obtain⟨l1,l2,l3,l4⟩:=hL i _ hMi;obtain⟨x,p,j1,j2,hx,-⟩:=hD.at hMi;generalize M[i]=s at*;have sE:=xC hx;have kE:=Kp.alloc D (af 186 (aS x s));have vE:=aQ D 186 (aS x s);generalize D.alloc (af 186 (aS x s))=E at sE kE vE;have a0:aj O E.get 184 (.pointer (U ⟨D.next,0,V⟩))=.ok x:=vE.ld rfl f_ rfl;have a1:aj O E.get 4 (.pointer (U ⟨D.next,0+1,V⟩))=.ok (.bool s.fin):=vE.ld rfl u4 rfl;have a2:aj O E.get 113 (.pointer (U ⟨D.next,0+2,V⟩))=.ok (.int .u64 s.out):=vE.ld rfl dH rfl;have hxE:=hx.kp kE;have lx:=hxE.len;have hl1:¬256<Z s.arcs:=by omega
   rw[MY];apply W.q
   .intro M;simp(disch:=first|decide+kernel|omega)only[lT,jZ,nj,Aq,aa,g3,g5,gi,lD,lenD,hlt];rfl
   apply W.seq;apply W.block;apply W.q
   .intro M;simp(disch:=first|decide+kernel|omega)only[lT,jZ,nj,Aq,aa,g3,g5,gi,lD,j1,j2,rh,a7,sE];rfl
   apply W.seq;refine W.to (n:=70) (λ t D'=>D'=E/\Sl t [(3,.pointer (U ⟨A.next,0,V⟩)),(5,.int .i64 i),(6,.pointer (U ⟨D.next,0,V⟩))]) ?_ ?_
   .cases hf:s.fin with
    |true=>
     rw[hf]at a1;apply W.run 20
     .intro M;simp(config:={maxSteps:=4000000})(disch:=first|decide+kernel|omega|simp only[Wq,aa])only[lT,jZ,nj,Aq,av,reduceIte,aa,ak,eT,fV,a0,a1,lx,hl1,dM,dK];rfl
     refine⟨rfl,_,_,rfl,rfl,?_⟩;simp only[Sq,aa,ak,g3,g5]
    |false=>
     rw[hf]at a1;have ho:=l2 hf;rw[ho]at a2;apply W.run 20
     .intro M;simp(config:={maxSteps:=4000000})(disch:=first|decide+kernel|omega|simp only[Wq,aa])only[lT,jZ,nj,Aq,av,reduceIte,aa,ak,eT,fV,nT,a0,a1,a2,lx,hl1,dM,dK];rfl
     refine⟨rfl,_,_,rfl,rfl,?_⟩;simp only[Sq,aa,ak,g3,g5]
   .rintro t D' ⟨rfl,g3,g5,g6,-⟩;apply W.seq;apply W.run 20
    .intro M;simp(disch:=first|decide+kernel|omega)only[lT,jZ,nj,Aq,aa];rfl
    apply W.block;refine W.up (Z s.arcs) (λ j t D''=>D''=D'/\Sl t [(3,.pointer (U ⟨A.next,0,V⟩)),(5,.int .i64 i),(6,.pointer (U ⟨D.next,0,V⟩)),(7,.int .i64 j)]) ?_ (a8 _) ⟨rfl,?_⟩
    .rintro j t D' hj ⟨rfl,g3,g5,g6,g7,-⟩;by_cases hlt2:j<Z s.arcs
     .have hsj:s.arcs[j]?=U s.arcs[j]:=aZ hlt2;obtain⟨q,q1,q2,q3,q4⟩:=hxE.to hsj;have ht:=(l4 _ (ff hlt2)).1;have ht2:¬i<=s.arcs[j].to:=by omega
      apply W.run 20
      .intro M;simp(config:={maxSteps:=4000000})(disch:=first|decide+kernel|omega|simp only[Wq,aa])only[Ig,lT,jZ,nj,Aq,av,reduceIte,aa,ak,g5,g6,g7,eT,a0,lx,hlt2,q1,q3,q4,iZ,gA,ht2];rfl
      refine⟨hlt2,_,_,rfl,rfl,?_⟩;simp only[Sq,aa,ak,g3,g5,g6]
     .have e:j=Z s.arcs:=by omega
      subst e;apply W.run 20
      .intro M;simp(disch:=first|decide+kernel|omega)only[Ig,lT,jZ,nj,Aq,aa,g6,g7,eT,a0,lx];rfl
      show W O (sub lT [1,1]) _ _;apply W.run 20
      .intro M;simp(disch:=first|decide+kernel|omega)only[lT,jZ,nj,Aq,aa,g5];rfl
      refine⟨hlt,_,_,rfl,kD.trans kE,?_⟩;simp only[Sq,aa,ak,g3]
    .simp only[Sq,aa,ak,g3,g5,g6]
  .have e:i=Z M:=by omega
   subst e;rw[MY];apply W.seq;apply W.run 20
   .intro M;simp(disch:=first|decide+kernel|omega)only[lT,jZ,nj,Aq,aa,g3,g5,gi,lD,lenD];rfl
   apply W.seq;apply W.run 20
   .intro M;simp(disch:=first|decide+kernel|omega)only[jZ,nj,Aq,aa];rfl
   apply W.run 20
   .intro M;simp(disch:=first|decide+kernel|omega)only[jZ,nj,Aq,aa];rfl
   exact⟨by simp,rfl,_,(by simp only[nj,Aq,aa]<;>rfl),rfl,kB.trans kD⟩
 .simp only[Sq,aa,ak]
def jS:O.aB 74=U (.slice 5):=zc
def Ia(l m:List UInt8):c6 (l++m)=c6 l++c6 m:=by simp[c6]
def Wl:∃d,O.aB 233=U d/\en d=ag:=by
 have h:(O.aB 233).map en=U ag:=by kernel_rfl
 cases hq:O.aB 233 with
 |none=>rw[hq]at h;cases h
 |some d=>rw[hq]at h;exact⟨d,rfl,by simpa using h⟩
def Wf:bk O 233=.ok 1:=by kernel_rfl
def MT:bk O 74=.ok 1:=by kernel_rfl
def G6:fu O 5=.ok (1,[.int .u8 0]):=by kernel_rfl
def GK:∃i,O.ty.get 5=U i/\i.bytes=1:=by
 have h:((O.ty.get 5).map λ i=>i.bytes)=U 1:=by kernel_rfl
 cases hq:O.ty.get 5 with
 |none=>rw[hq]at h;cases h
 |some i=>rw[hq]at h;exact⟨i,rfl,by simpa using h⟩
def FB(b:Nat):bK O 235 (pw b 0) 0=.ok (pw b 0):=by kernel_rfl
def Jt(b:Nat):bK O 235 (pw b 0) 1=.ok (pw b 1):=by kernel_rfl
def mA(A:Mem)(e:au)(b:Nat)(l:List I)(x:I):Prop:=
 (x=.slice V 0 0/\l=[])\/(l≠ []/\x=.slice (U ⟨b,0,V⟩) (Z l) (cP (Z l) 1)/\b<A.next/\dp A e b .row l)
variable {l:List I}
def mA.dZ{e:au}{x:I}(h:mA A e b l x):eS A e b l x:=by
 rcases h with h|⟨_,h1,h2,h3⟩
 .exact .inl h
 .exact .inr ⟨.row,_,h1,h2,h3,.inr ⟨rfl,.inl rfl⟩⟩
variable {A':Mem}
def mA.same{e:au}{x:I}(h:mA A e b l x)(hn:A.next<=A'.next)(hg:b<A.next->A'.get b=A.get b):mA A' e b l x:=by
 rcases h with h|⟨h0,h1,h2,h3⟩
 .exact .inl h
 .exact .inr ⟨h0,h1,c9 h2 hn,h3.same (hg h2)⟩
variable {tb:aN}
def mA.wi{st xt e:au}{xd:TypeDesc}{i:TypeInfo}{z:I}{nl:List I}{x:I}(h:mA A e b l x)(hst:tb.aB st=U (.slice e))(hxt:tb.aB xt=U xd)(hxd:kh xd=ag)(hz:fu tb e=.ok (1,[z]))(hi:tb.ty.get e=U i)(hib:0<i.bytes)(hib':i.bytes<=65536)
 (hl:Z l+m<=16777216)(hm0:0<m)(hy:gj y=.ok m)(hnew:jJ A.get 1 m y=.ok nl)(hm:Z nl=m)(h1c:∀v∈nl,bS v=ae):
 ∃x' A',dJ tb A st xt x y=.ok (x',A')/\mA A' e A.next (l++nl) x'/\A'.next=A.next+1/\∀z,z≠b->z<A.next->A'.get z=A.get z:=by
 have he1:(1:Nat)<65536:=by omega
 have hlim:(av (Z l+m) 16777216&&av i.bytes 65536&&aO 0 i.bytes&&aO 0 1&&aO 1 65536)=ae:=by
  have a1:=my (by omega);have a2:=my hib';have a3:aO 0 i.bytes=ae:=by rw[bZ];exact hib
  rw[a1,a2,a3];rfl
 have hone:=oT.2 h1c;have fin:∀(A0:Mem),A0.next=A.next->(∀y,y≠b->A0.get y=A.get y)->
  mA (A0.alloc (.cells e .row 0 (T.bW .e 0 (l++nl)))) e A.next (l++nl) (.slice (U ⟨A.next,0,V⟩) (Z l+m) (cP (Z l+m) 1))/\(A0.alloc (.cells e .row 0 (T.bW .e 0 (l++nl)))).next=A.next+1/\∀y,y≠b->y<A.next->(A0.alloc (.cells e .row 0 (T.bW .e 0 (l++nl)))).get y=A.get y:=by
  intro A0 hn hg;refine⟨.inr ⟨λ h0=>by rw[(List.append_eq_nil_iff.1 h0).2]at hm;simp at hm;omega,by rw[aY,hm],by rw[aG];omega,oQ ?_⟩,by rw[aG,hn],λ y hy hlt=>?_⟩
  .rw[<-hn];exact de _ _
  .rw[cY (by omega),hg y hy]
 rcases h with⟨rfl,rfl⟩|⟨h0,rfl,h2,h3⟩
 .refine⟨.slice (U ⟨A.next,0,V⟩) (0+m) (cP (0+m) 1),A.alloc (.cells e .row 0 (T.bW .e 0 ([]++nl))),?_,fin A rfl (λ _ _=>rfl)⟩;unfold dJ ig;have hble:av (0+m) (bV 0)=ag:=by
   cases hq:av (0+m) (bV 0)with
   |false=>rfl
   |true=>have:=gK hq;have h9:bV 0=0:=rfl;omega
  have hx:ed 0=ae:=rfl;have hel:gh A.get 1 0 V=.ok []:=rfl;simp only[eB]at hlim;simp only[hst,hxt,hxd,bJ,hz,R.aW,hy,hnew,hble,hi,hlim,aJ,hel,hx]
 .obtain⟨cs,hb',hcs⟩:=h3;have hel:=Aa ⟨cs,hb',hcs⟩;have hble:av (Z l+m) (bV (cP (Z l) 1))=ag:=by
   rw[iW he1];cases hq:av (Z l+m) (Z l)with
   |false=>rfl
   |true=>have:=gK hq;omega
  have hx:ed (cP (Z l) 1)=ag:=kU _ _;have he:aL (hY (cP (Z l) 1)) 1=ae:=by rw[mH he1];rfl
  have hfz:(av 0 (0+Z l*1)&&(aL e e&&aO 0 9223372036854775808))=ae:=by
   have h0:aO 0 9223372036854775808=ae:=by rw[bZ];omega
   rw[h0];simp
  refine⟨_,(A.set b .dead).alloc (.cells e .row 0 (T.bW .e 0 (l++nl))),?_,fin (A.set b .dead) (cU _ _ _) (λ y hy=>by rw[cN,ax hy])⟩;unfold dJ ig;simp only[hst,hxt,hxd,bJ,hz,R.aW,hy,hnew,hble,hi,hlim,aJ,hel,hx,he,hone,sK,hb',hfz]
def Bd(bb b:Nat)(bs:List UInt8)(D:Mem):Prop:=∃pa x,dp D 235 bb (.var 2) [pa,x]/\(pa=.pointer V\/pa=pw bb 0)/\mA D 5 b (c6 bs) x/\b≠bb/\bb<D.next
section
variable {ih:aH->St->R (Ex×St)}{dst:Option Tmp}{ty:au}{pos:String}{after:Array Edge}{g:Option (Nat×Bool)}{s:St}{k:St->R (Ex×St)}
def qb1(x:bM):bT O ih {dst,op:=.convert 233 346 x,type:=ty,pos,after,guard:=g} s k=(ev s.t x).bind λ x=>(gO O s.m.get 233 346 x).bind λ v=>b7 s dst v k:=by
 rw[uS (hc:=by kernel_rfl) (hi:=rfl)];simp only[eR,R.eI]
def qb3(x:bM):bT O ih {dst,op:=.convert 346 233 x,type:=ty,pos,after,guard:=g} s k=(ev s.t x).bind λ x=>(gO O s.m.get 346 233 x).bind λ v=>b7 s dst v k:=by
 rw[uS (hc:=by kernel_rfl) (hi:=rfl)];simp only[eR,R.eI]
end
def qaA{ih:aH->St->R (Ex×St)}{x:I}:cE O ih (.fn 244 [x]) A=.ok (.val x A):=by
 have h1:=aD Tryz.func244;have h2:Tryz.f244.body=V:=by kernel_rfl
 have h3:O.ex.get 244=U 1:=by kernel_rfl
 have h4:(Tryz.f244.name== "runtime.NumGoroutine")=false:=by kernel_rfl
 unfold cE;simp only[h1,h2,h3,h4,bJ];rfl
variable {bb:Nat}
def Vn{D:Mem}(h:dp D 235 bb (.var 2) l):gO O D.get 233 346 (pw bb 0)=.ok (pw bb 0):=by
 obtain⟨c,e,-⟩:=h;have u1:O.aB 233=U (.pointer 235):=by kernel_rfl
 have u2:O.aB 346=U .unsafePointer:=by kernel_rfl
 have u3:bk O 235=.ok 2:=by kernel_rfl
 unfold gO;simp only[u1,u2,e,u3,R.aW];rfl
def Vo{D:Mem}(h:dp D 235 bb (.var 2) l):gO O D.get 346 233 (pw bb 0)=.ok (pw bb 0):=by
 obtain⟨c,e,-⟩:=h;have u1:O.aB 233=U (.pointer 235):=by kernel_rfl
 have u2:O.aB 346=U .unsafePointer:=by kernel_rfl
 have u3:bk O 235=.ok 2:=by kernel_rfl
 have u4:liesAt O.P O.P.depth 235 (2/O.P.cellsOf 235) 0 235 1=ae:=by kernel_rfl
 unfold gO;simp only[u1,u2,e,u3,R.aW,u4,aJ]
def zX:=cu yf
def Xh:yf.body=U (.seq (sub zX [0]) (sub zX [1])):=by kernel_rfl
variable {bs:List UInt8}
def Sf{D:Mem}(h:Bd bb b bs D):∃D',az O 203 [pw bb 0] D cQ D'/\Bd bb b bs D'/\D'.next=D.next/\∀y,y≠bb->D'.get y=D.get y:=by
 obtain⟨pa,x,hv,hpa,hs,hbb,hn⟩:=h;obtain⟨d28,w27,w28⟩:=Wl;have hl0:aj O D.get 233 (pw bb 0)=.ok pa:=dg w27 w28 hv rfl;obtain⟨v,D',hg,rfl,h1⟩:∃v D',az O 203 [pw bb 0] D v D'/\v=cQ/\(Bd bb b bs D'/\D'.next=D.next/\∀y,y≠bb->D'.get y=D.get y):=by
  refine pS (aD Tryz.func203) Xh (by rw[Tryz.ntmps203];simp) (by kernel_rfl) (by kernel_rfl) ?_;apply W.seq;rcases hpa with rfl|rfl
  .have he:fU O D.get .eql 233 (.tmp 5) (.const (.pointer V)) (.pointer V) (.pointer V)=.ok (.bool ae):=by kernel_rfl
   obtain⟨D1,hst,hv1,hn1,hg1⟩:=db (o:=0) (v:=pw bb 0) Wf hv (by simp) rfl rfl;apply W.run 20
   .intro M;simp(disch:=decide+kernel)only[zX,yf,Aq,aa,bA,br,FB,hl0,fm,he];rfl
   apply W.run 20
   .intro M;simp(disch:=omega)only[zX,yf,Aq,aa,bA,br,FB,qb1,qb3,Vn hv,Vo hv,qaA,hst];rfl
   refine⟨.inl rfl,_,[],rfl,?_,rfl,⟨_,x,hv1,.inr rfl,?_,hbb,by rw[hn1];exact hn⟩,hn1,hg1⟩
   .simp only[yf,eF]
   .exact hs.same (by rw[hn1];exact aI _) (λ _=>hg1 b hbb)
  .have he:fU O D.get .eql 233 (.tmp 5) (.const (.pointer V)) (pw bb 0) (.pointer V)=.ok (.bool ag):=by kernel_rfl
   have he2:fU O D.get .neq 233 (.tmp 17) (.tmp 18) (pw bb 0) (pw bb 0)=.ok (.bool ag):=by
    have u1:O.aB 233=U (.pointer 235):=by kernel_rfl
    have hb:=vz bb;have u2:bk O 235=.ok 2:=by kernel_rfl
    have u3:Am.ptrEq D.get (U ⟨bb,0,V⟩) (U ⟨bb,0,V⟩)=.ok ae:=by
     unfold Am.ptrEq;simp only[hb,aJ];rfl
    unfold fU iG;simp only[pr,aJ,u1,u2,u3,R.aW];rfl
   apply W.run 20
   .intro M;simp(disch:=decide+kernel)only[zX,yf,Aq,aa,bA,br,FB,hl0,fm,he];rfl
   apply W.run 20
   .intro M;simp(disch:=decide+kernel)only[zX,yf,Aq,aa,bA,br,FB,hl0,F',he2];rfl
   refine⟨.inl rfl,_,[],rfl,?_,rfl,⟨_,x,hv,.inr rfl,hs,hbb,hn⟩,rfl,λ _ _=>rfl⟩;simp only[yf,eF]
 exact⟨D',hg,h1⟩
def Wj(a:Int):eO O 74 1 [(0,.int .u8 a)]=.ok (af 5 [.int .u8 a],.dZ 1 2):=by kernel_rfl
structure Grow (bb b:Nat) (A:Mem) (b':Nat) (A':Mem):Prop where
 n:A.next<=A'.next
 r:A.next<=b'
 g:∀y,y<A.next->y≠bb->y≠b->A'.get y=A.get y
variable {b':Nat}{B C:Mem}
def Grow.trans{b'':Nat}(h:Grow bb b A b' B)(k:Grow bb b' B b'' C):Grow bb b A b'' C:=⟨dm h.n k.n,by have:=h.n;have:=k.r;omega,λ y hy h1 h2=>by rw[k.g y (by have:=h.n;omega) h1 (by have:=h.r;omega),h.g y hy h1 h2]⟩
def Wz(c:UInt8):c6 [c]=[bN c.toNat]:=rfl
variable {x':I}
def ME{D1 D2:Mem}{pa x:I}(hv:dp D1 235 bb (.var 2) [pa,x])(hpa:pa=.pointer V\/pa=pw bb 0)(hb:bb<D1.next/\D1.next<=b')(h0:b≠bb)
 (hs:mA D2 5 b' (c6 bs) x')(hn2:D1.next<=D2.next)(hg:∀y,y<D1.next->y≠b->D2.get y=D1.get y):∃D3,cm O D2 74 (pw bb 1) x'=.ok D3/\Bd bb b' bs D3/\Grow bb b D1 b' D3:=by
 obtain⟨D3,hst,hv3,hn3,hg3⟩:=db (o:=1) MT (hv.same (hg bb hb.1 (Ne.symm h0))) (by simp) hs.dZ.cells hs.dZ.one;exact⟨D3,hst,⟨pa,x',hv3,hpa,hs.same (by rw[hn3];exact aI _) (λ _=>hg3 b' (by omega)),by omega,by omega⟩,⟨by omega,hb.2,λ y hy h1 h2=>by rw[hg3 y h1,hg y hy h2]⟩⟩
def wB:=cu BS
def Xo:BS.body=U (.seq (sub wB [0]) (.seq (sub wB [1,0]) (.seq (sub wB [1,1,0]) (.seq (sub wB [1,1,1,0]) (sub wB [1,1,1,1]))))):=by kernel_rfl
def SO{D:Mem}{c:UInt8}(h:Bd bb b bs D)(hl:Z bs<16000000):∃D' b',az O 225 [pw bb 0,bN c.toNat] D .nilIface D'/\Bd bb b' (bs++[c]) D'/\Grow bb b D b' D':=by
 obtain⟨D1,⟨g,hg⟩,⟨pa,x,hv,hpa,hs,hbb,hn⟩,hn1,hg1⟩:=Sf h;have hld:aj O D1.get 74 (pw bb 1)=.ok x:=dg jS rfl hv rfl;obtain⟨ti,ht1,ht2⟩:=GK;have hn2:=aG D1 (af 5 [bN c.toNat]);have hs2:mA (D1.alloc (af 5 [bN c.toNat])) 5 b (c6 bs) x:=hs.same (by omega) (λ hb=>cY (by omega));obtain⟨x',D3,happ,hs3,hn3,hf3⟩:=hs2.wi (y:=.slice (U ⟨D1.next,0,V⟩) 1 2) jS jS rfl G6 ht1 (by omega) (by omega) (by rw[iS];omega) (by omega) rfl
  (Aa (l:=[bN c.toNat]) (oQ (de D1 _))) rfl (λ v hv=>by
  rw[dX.1 hv];rfl)
 have hs4:mA D3 5 (D1.alloc (af 5 [bN c.toNat])).next (c6 (bs++[c])) x':=by rw[Ia,Wz];exact hs3
 obtain⟨D4,hst,hB,hK⟩:=ME hv hpa ⟨hn,by omega⟩ hbb hs4 (by omega) (λ y hy hb=>by rw[hf3 y hb (by omega),cY (by omega)]);obtain⟨v,D',ha,rfl,rfl⟩:∃v D',az O 225 [pw bb 0,bN c.toNat] D v D'/\v=.nilIface/\D'=D4:=by
  refine pS (aD Tryz.func225) Xo (by rw[Tryz.ntmps225];simp) (by kernel_rfl) (by kernel_rfl) ?_;apply W.ic (g)
  .intro M hM _;simp(disch:=omega)only[wB,BS,Aq,aa,wM,hg];rfl
  apply W.q2
  .intro M _;simp(disch:=decide+kernel)only[wB,BS,Aq,aa,bA,br,Jt,hld,Wj,happ,hst,wM];rfl
  apply W.run 20
  .intro M;simp only[wB,BS,Aq,aa,wM];rfl
  refine⟨.inr rfl,_,[.nilIface],rfl,?_,rfl,rfl⟩;simp only[BS,eF,qP,T.bR,aa,bB,bg,qO,R.aW]
 exact⟨_,_,ha,hB,⟨by rw[<-hn1];exact hK.n,by rw[<-hn1];exact hK.r,λ y hy hb h2=>by rw[hK.g y (by omega) hb h2,hg1 y hb]⟩⟩
def wq:=cu BQ
def WT:BQ.body=U (.seq (sub wq [0]) (.seq (sub wq [1,0]) (.seq (sub wq [1,1,0]) (.seq (sub wq [1,1,1,0]) (sub wq [1,1,1,1]))))):=by kernel_rfl
def HW{l:List UInt8}:jJ A.get 1 (Z l) (ai l)=.ok (c6 l):=by
 show R.ok (tW gx (l.take (Z l)))=_;rw[dU];rfl
def MO(l:List UInt8):gj (ai l)=.ok (Z l):=rfl
def qf4{D:Mem}{cs:List UInt8}(h:Bd bb b bs D)(h0:0<Z cs)(hl:Z bs+Z cs<16000000):∃v D' b',az O 152 [pw bb 0,ai cs] D v D'/\Bd bb b' (bs++cs) D'/\Grow bb b D b' D':=by
 obtain⟨D1,⟨g,hg⟩,⟨pa,x,hv,hpa,hs,hbb,hn⟩,hn1,hg1⟩:=Sf h;have hld:aj O D1.get 74 (pw bb 1)=.ok x:=dg jS rfl hv rfl;have ll:=gB (l:=cs) u9;obtain⟨ti,ht1,ht2⟩:=GK;obtain⟨x',D3,happ,hs3,hn3,hf3⟩:=hs.wi jS u9 rfl G6 ht1 (by omega) (by omega) (by rw[iS];omega) h0 (MO cs) HW (iS cs) (λ v hv=>by
  unfold c6 at hv;obtain⟨c,-,rfl⟩:=eH.1 hv;rfl)
 have hs4:mA D3 5 D1.next (c6 (bs++cs)) x':=by rw[Ia];exact hs3
 obtain⟨D4,hst,hB,hK⟩:=ME hv hpa ⟨hn,aI _⟩ hbb hs4 (by omega) (λ y hy hb=>hf3 y hb (by omega));obtain⟨v,D',ha,rfl⟩:∃v D',az O 152 [pw bb 0,ai cs] D v D'/\D'=D4:=by
  refine pS (aD Tryz.func152) WT (by rw[Tryz.ntmps152];simp) (by kernel_rfl) (by kernel_rfl) ?_;apply W.ic (g)
  .intro M hM _;simp(disch:=omega)only[wq,BQ,Aq,aa,wM,hg];rfl
  apply W.q2
  .intro M _;simp(disch:=decide+kernel)only[wq,BQ,Aq,aa,bA,br,Jt,hld,happ,hst,wM,ll];rfl
  apply W.run 20
  .intro M;simp only[wq,BQ,Aq,aa];rfl
  refine⟨.inr rfl,_,[iN (Z cs),.nilIface],rfl,?_,rfl⟩;simp only[BQ,eF,qP,T.bR,aa,bB,bg,qO,R.aW]
 exact⟨_,_,_,ha,hB,⟨by rw[<-hn1];exact hK.n,by rw[<-hn1];exact hK.r,λ y hy hb h2=>by rw[hK.g y (by omega) hb h2,hg1 y hb]⟩⟩
def Cr:=cu Tryz.f153
def WU:Tryz.f153.body=U (.seq (sub Cr [0]) (.seq (sub Cr [1,0]) (sub Cr [1,1]))):=by kernel_rfl
section
variable {ih:aH->St->R (Ex×St)}{dst:Option Tmp}{ty:au}{pos:String}{after:Array Edge}{g:Option (Nat×Bool)}{s:St}{k:St->R (Ex×St)}
def qb0(x:bM):bT O ih {dst,op:=.call {callee:=.builtin .unsafeSliceData,args:= #[x],argTypes:= #[74]},type:=ty,pos,after,guard:=g} s k=(ev s.t x).bind λ v=>(c_ O .unsafeSliceData [74] [v]).bind λ v=>b7 s dst v k:=by
 have hc:cls O (.call {callee:=.builtin .unsafeSliceData,args:= #[x],argTypes:= #[74]})=.P:=by kernel_rfl
 unfold bT;simp only[qd,hc,ib,fk,R.eI,R.aW]
def qb2(x y:bM):bT O ih {dst,op:=.call {callee:=.builtin .unsafeString,args:= #[x,y],argTypes:= #[288,3]},type:=ty,pos,after,guard:=g} s k=(ev s.t x).bind λ v=>(ev s.t y).bind λ n=>(zf O s.m 288 v n).bind λ r=>b7 {s with m:=r.2} dst r.1 k:=by
 have hc:cls O (.call {callee:=.builtin .unsafeString,args:= #[x,y],argTypes:= #[288,3]})=.L:=by kernel_rfl
 unfold bT;simp only[qd,hc,oM,fk,R.eI,R.aW,wm]
end
def Wx(l:List UInt8):bytesOf (c6 l)=.ok l:=Cn l
def qih{D:Mem}(h:dp D 5 b .row (c6 bs))(h0:0<Z bs)(hl:Z bs<16000000):∃D',zf O D 288 (pw b 0) (iN (Z bs))=.ok (ai bs,D')/\D'.next=D.next/\∀y,y≠b->D'.get y=D.get y:=by
 obtain⟨c,h1,h2⟩:=h;have u1:O.aB 288=U (.pointer 5):=by kernel_rfl
 have u2:bk O 5=.ok 1:=by kernel_rfl
 have hn:jx (iN (Z bs))=.ok (Z bs):=rfl;have hg:=px c (Z bs) 0 (c6 bs) (iS bs) (λ j hj=>by rw[ep];exact h2 j (by rw[iS];exact hj));have hb:(aL 5 5&&aL 1 1&&aO 0 (Z bs)&&av (Z bs) 16777216&&(aO 0 9223372036854775808&&aO (0+Z bs) 9223372036854775808))=ae:=by
  have a1:aO 0 (Z bs)=ae:=by rw[bZ];exact h0
  have a2:av (Z bs) 16777216=ae:=my (by omega);have a3:aO (0+Z bs) 9223372036854775808=ae:=by rw[bZ];omega
  rw[a1,a2,a3];rfl
 refine⟨D.set b (.cells 5 .row (bif av 0 (0+Z bs)then 0+Z bs else 0) c),?_,cU _ _ _,λ y hy=>by rw[cN,ax hy]⟩;unfold zf;simp only[hn,R.aW,u1,h1,u5,u2,hb,aJ,hg,Wx]
def qdP{D:Mem}(h:Bd bb b bs D)(h0:0<Z bs)(hl:Z bs<16000000):∃D',az O 153 [pw bb 0] D (ai bs) D'/\D'.next=D.next/\∀y,y≠b->D'.get y=D.get y:=by
 obtain⟨pa,x,hv,hpa,hs,hbb,hn⟩:=h;have hld:aj O D.get 74 (pw bb 1)=.ok x:=dg jS rfl hv rfl;rcases hs with⟨rfl,hnil⟩|⟨hne,rfl,hlt,hV⟩
 .have:Z bs=0:=by rw[<-iS,hnil];rfl
  omega
 obtain⟨D1,hu,hn1,hg1⟩:=qih hV h0 hl;rw[iS]at hld hv;have hsd:c_ O .unsafeSliceData [74] [.slice (U ⟨b,0,V⟩) (Z bs) (cP (Z bs) 1)]=.ok (pw b 0):=by
  have hc:aO 0 (bV (cP (Z bs) 1))=ae:=by rw[iW (by omega),bZ];exact h0
  unfold c_;simp only[hc,aJ]
 have hln:c_ O .len [74] [.slice (U ⟨b,0,V⟩) (Z bs) (cP (Z bs) 1)]=.ok (iN (Z bs)):=mQ jS;obtain⟨v,D',ha,rfl,rfl⟩:∃v D',az O 153 [pw bb 0] D v D'/\v=ai bs/\D'=D1:=by
  refine pS (aD Tryz.func153) WU (by rw[Tryz.ntmps153];simp) (by kernel_rfl) (by kernel_rfl) ?_;apply W.q2
  .intro M _;simp(disch:=decide+kernel)only[Cr,Tryz.f153,Aq,aa,bA,br,Jt,hld,qb0,qb2,hsd,hln,hu];rfl
  apply W.run 20
  .intro M;simp only[Cr,Tryz.f153,Aq,aa];rfl
  refine⟨.inr rfl,_,[ai bs],rfl,?_,rfl,rfl⟩;simp only[Tryz.f153,eF,qP,T.bR,aa,bB,bg,qO,R.aW]
 exact⟨_,ha,hn1,hg1⟩
def qiQ:dj O 246=.ok (.agg ⟨[bN 0,uN 0,iN 0]⟩):=by kernel_rfl
def KB(t:T I)(g:Nat->Option Ob)(a b:au)(x:bM):eR O t g (.convert a b x)=(ev t x).bind λ x=>gO O g a b x:=rfl
def KJ(g:Nat->Option Ob)(j:Nat)(t:T I)(a b:au)(x:Tmp)(v:I):jy O g ⟨j,t,.convert a b (.tmp x),v⟩=KI ((ev t (.tmp x)).bind λ x=>gO O g a b x) v:=rfl
def zU{c:Int}:eO O 74 1 [(0,.int .u8 c)]=.ok (af 5 [.int .u8 c],.dZ 1 2):=by kernel_rfl
variable {dst:Option Tmp}
def C7{ih:aH->St->R (Ex×St)}{ty:au}{pos:String}{after:Array Edge}{g:Option (Nat×Bool)}{s:St}{k:St->R (Ex×St)}(x:bM):bT O ih {dst,op:=.convert 74 9 x,type:=ty,pos,after,guard:=g} s k=(ev s.t x).bind λ x=>(gO O s.m.get 74 9 x).bind λ v=>b7 s dst v k:=by
 rw[uS (hc:=by kernel_rfl) (hi:=rfl)];simp only[eR,R.eI]
def TF{D:Mem}{c:UInt8}:gO O (D.alloc (af 5 [bN c.toNat])).get 74 9 (.slice (U ⟨D.next,0,V⟩) 1 2)=.ok (ai [c]):=by
 have h:=Dt (Le (D:=D) c.toNat_lt);rw[UInt8.ofNat_toNat]at h;exact h
def NZ(t:T I):ev t (.const (.string ⟨#[67,83,1]⟩))=.ok (ai [67,83,1]):=rfl
def cat{a b:List UInt8}(h:(a++b).length<1000000):ft .add a b=.ok (ai (a++b)):=AT (by rw[aY]at h;omega)
def Lp{s:aw}(h:M[i]?=U s):fX 0 (M.take (i+1))=fX 0 (M.take i)++lh i s:=by
 obtain⟨hi,rfl⟩:=bU.1 h;rw[d_ hi,TH,df,ep,nf (by omega)]
theorem Lo:∀(M:List aw) (j i:Nat),(fX j (M.take i)).length<=(fX j M).length
 | [],j,i=>by rw[List.take_nil];exact aI _
 |s::M,j,0=>by simp[fX]
 |s::M,j,i+1=>by
  rw[Hn,fX,fX,aY,aY];have:=Lo M (j+1) i;omega
theorem Jy{i:Nat}:∀(l:List cr) (j:Nat),((l.take j).flatMap (fx i)).length<=(l.flatMap (fx i)).length
 | [],j=>by rw[List.take_nil];exact aI _
 |a::l,0=>by simp
 |a::l,j+1=>by
  rw[Hn,mr,mr,aY,aY];have:=Jy (i:=i) l j;omega
variable {j:Nat}
def OM{l:List cr}{a:cr}(h:l[j]?=U a):(l.take (j+1)).flatMap (fx i)=(l.take j).flatMap (fx i)++fx i a:=by
 obtain⟨hj,rfl⟩:=bU.1 h;rw[d_ hj,Bz];simp
def jH:=cu nv
def lX:aH:=sub jH [1,1,1,0,1,0,0]
def ER:aH:=sub lX [1,0,0,1,1,1,0,0]
def XD:nv.body=U (.seq (sub jH [0]) (.seq (sub jH [1,0]) (.seq (sub jH [1,1,0]) (.seq (.seq (sub jH [1,1,1,0,0]) (.block 0 (.loop lX))) (.seq (sub jH [1,1,1,1,0]) (sub jH [1,1,1,1,1])))))):=by kernel_rfl
def Na:lX=(.seq (sub lX [0]) (.seq (.block 1 (.seq (sub lX [1,0,0,0]) (.seq (sub lX [1,0,0,1,0]) (.seq (sub lX [1,0,0,1,1,0]) (.block 2 (.loop ER)))))) (sub lX [1,1]))):=by kernel_rfl
variable {w:List UInt8}
def qcA{D:Mem}{x:I}{s:aw}{q:Nat}{fp:I}(hx:gd D s.arcs x)(hs:VB D 186 q (.var 3) (aS x s))(hj:j<Z s.arcs)(hl:Z s.arcs<=256)(hi:i<1000000)(ha:∀a∈s.arcs,a.to<i/\a.out<18446744073709551616)(hw:(w++s.arcs.flatMap (fx i)).length<900000)
 (hsl:Sl t [(3,fp),(6,ai (w++(s.arcs.take j).flatMap (fx i))),(7,.int .i64 i),(8,pw q 0),(9,.int .i64 j)]):
 W O ER ⟨t,95,[],D,V⟩ λ e s'=>e=.nrm/\∃t' D',s'=⟨t',95,[],D',V⟩/\Kp D D'/\Sl t' [(3,fp),(6,ai (w++(s.arcs.take (j+1)).flatMap (fx i))),(7,.int .i64 i),(8,pw q 0),(9,iN (j+1))]:=by
 obtain⟨g3,g6,g7,g8,g9,-⟩:=hsl;have he:=aZ hj;obtain⟨ht,ho⟩:=ha _ (ff hj);obtain⟨p,j1,j2⟩:=hx.at he;have l0:=hs.l0 f_ rfl;have lx:=hx.len;have hf:=Jy (i:=i) s.arcs (j+1);rw[OM he]at hf⊢;rw[aY]at hf hw;generalize s.arcs[j]=a at*;generalize (s.arcs.take j).flatMap (fx i)=z at*;have b1:=pB a.out ho;have b2:=pB (i-a.to) (by omega);have eb:(fx i a).length=1+(bL a.out).length+(bL (i-a.to)).length:=by unfold fx;rw[cD,aY];omega
 have sE:cm O (D.alloc (af 246 [bN 0,uN 0,iN 0])) 246 (pw D.next 0) (.agg ⟨bP a⟩)=.ok (D.alloc (af 246 (bP a))):=fP xH rfl rfl (by simp) (Mm a);have kE:=Kp.alloc D (af 246 (bP a));have vE:=aQ D 246 (bP a);generalize D.alloc (af 246 (bP a))=E at sE kE vE;have a0:=λ F h=>(vE.kp (A':=F) h).l0 u5 rfl
 have a1:=λ F h=>(vE.kp (A':=F) h).m1 dH rfl
 have a2:=λ F h=>(vE.kp (A':=F) h).m2 u3 rfl
 have kF:=Kp.alloc E (af 5 [bN a.byte.toNat]);have c1:=TF (D:=E) (c:=a.byte);have gE:=de E (af 5 [bN a.byte.toNat]);generalize hF:E.alloc (af 5 [bN a.byte.toNat])=F at kF c1 gE;have hd:∀A:Mem,iq (tW (λ x:Nat×Nat=>x.2) [(3,E.next)]) A=A.set E.next .dead:=λ _=>rfl
 have put:∀G:Mem,G.get=F.get->G.next=F.next->∃G',ji F.get (tW (λ x:Nat×Nat=>x.2) [(3,E.next)]) (G.set E.next .dead)=.ok G'/\G'.get=F.get/\G'.next=F.next:=λ G hG hn=>by
  refine⟨(G.set E.next .dead).set E.next (af 5 [bN a.byte.toNat]),?_,funext λ z=>?_,?_⟩
  .show(match F.get E.next with|some o=>ji F.get [] ((G.set E.next .dead).set E.next o)|none=>.no 313)=_;rw[gE];rfl
  .rw[cN];split
   .rename_i h;rw[h,gE]
   .rename_i h;rw[cN,ax h,hG]
  .rw[cU,cU,hn]
 obtain⟨F2,bk1,e2,n2⟩:=put F rfl rfl;obtain⟨F3,bk2,e3,n3⟩:=put F2 e2 n2;have x0:=a0 E (Kp.refl _);have x3:=a0 F kF;have x1:=a1 F kF;have x2:=a2 F kF;have y1:=a1 E (Kp.refl _);have y2:=a2 E (Kp.refl _);have k1:=λ ih (A:Mem)=>wY (ih:=ih) (A:=A) ho
 have k2:=λ ih (A:Mem)=>wY (ih:=ih) (A:=A) (show i-a.to<18446744073709551616 by omega)
 have su:=eQ (by omega) (ct (by omega));have cv:=eX (k:=.i64) (n:=i-a.to) (by rw[u3];rfl) dH (fM (by omega));have s1:ft .add (w++z) [a.byte]=.ok (ai (w++z++[a.byte])):=cat (by simp;omega);have s2:ft .add (w++z++[a.byte]) (bL a.out)=.ok (ai (w++z++[a.byte]++bL a.out)):=cat (by simp;omega);have s3:ft .add (w++z++[a.byte]++bL a.out) (bL (i-a.to))=.ok (ai (w++(z++fx i a))):=by
  rw[cat (by simp;omega)];simp[fx]
 have z1:∀n:Int,∀k,dD 100 (.int k n) (.int k n)=ae:=λ n k=>by
  have h1:kV n n=ae:=by rw[JL];simp
  have h2:jv k k=ae:=by cases k<;>rfl
  simp[dD,h1,h2]
 apply W.run 20
 .intro M;simp(config:={maxSteps:=4000000})(disch:=first|decide+kernel|omega|simp only[Wq,aa])only[ER,lX,jH,nv,Aq,av,reduceIte,aa,ak,g3,g6,g7,g8,g9,eT,l0,lx,hj,j1,j2,qiQ,a7,sE,yK,wP,tG,x0,x1,x2,y1,y2,zU,hF,C7,KB,KJ,hd,bk1,bk2,e2,e3,z1,x3,c1,k1,k2,su,cv,s1,s2,s3,Fq,bQ [(2,8),(3,8),(4,8),(12,8),(2,15),(3,15),(4,15)]];rfl
 refine⟨rfl,_,F3,rfl,⟨by rw[n3];exact(kE.trans kF).1,λ z hz=>by rw[e3];exact(kE.trans kF).2 z hz⟩,?_⟩;simp only[Sq,aa,ak,g3,g7,g8]
def qfA(h:dA A M y)(hM:M≠ [])(hn:n<=100000)(hl:Z M<1000000)(hL:Lay M)(hk:k<18446744073709551616)(hb:(iJ n M k).length<900000):
 ∃v A',az O 97 [.int .i64 n,.agg ⟨[y,.int .u64 k]⟩] A v A'/\Kp A A'/\v=.tuple ⟨[ai (crc.gk (iJ n M k)),.int .i64 (0:Nat)]⟩:=by
 refine cZ (aD Tryz.func97) XD (by kernel_rfl) ?_;have kB:=Kp.alloc A (af 115 [y,.int .u64 k]);have vB:=aQ A 115 [y,.int .u64 k];have hy:=h.self;apply W.q
 .intro M;simp(disch:=omega)only[jH,nv,Aq,aa,a7];rfl
 have hB:=h.kp kB;generalize A.alloc (af 115 [y,.int .u64 k])=B at kB vB hB;obtain⟨d,hd1,hd2⟩:=cF (t:=115) (p:=ae) (by kernel_rfl);have lB:aj O B.get 115 (.pointer (U ⟨A.next,0,V⟩))=.ok (.agg ⟨[y,.int .u64 k]⟩):=cg hd1 hd2 gF vB.2;obtain⟨v,C,⟨g1,h1⟩,rfl,kC⟩:=qfv (n:=n) (k:=k) hB hM hn hl hL;have hC:=hB.kp kC;have ly:∀D,Kp C D->aj O D.get 112 (.pointer (U ⟨A.next,0,V⟩))=.ok y:=λ D hD=>((vB.kp kC).kp hD).ld rfl eg rfl
 have lk:∀D,Kp C D->aj O D.get 113 (.pointer (U ⟨A.next,0+1,V⟩))=.ok (.int .u64 k):=λ D hD=>((vB.kp kC).kp hD).ld rfl dH rfl
 have lC:=ly C (Kp.refl _);have lenC:=hC.len;have b1:=pB n (by omega);have b2:=pB (Z M) (by omega);have b3:=pB k hk;have hbl:3+(bL n).length+(bL (Z M)).length+(fX 0 M).length+(bL k).length<900000:=by
  unfold iJ at hb;simp only[aY,cD,eB]at hb;omega
 have k1:=λ ih=>wY (ih:=ih) (A:=C) (show n<18446744073709551616 by omega)
 have k2:=λ ih=>wY (ih:=ih) (A:=C) (show Z M<18446744073709551616 by omega)
 have cv1:=eX (tb:=O) (s:=3) (d:=113) (k:=.i64) (n:=n) (by rw[u3];rfl) dH (fM (by omega));have cv2:=eX (tb:=O) (s:=3) (d:=113) (k:=.i64) (n:=Z M) (by rw[u3];rfl) dH (fM (by omega));have s1:ft .add [67,83,1] (bL n)=.ok (ai ([67,83,1]++bL n)):=cat (by simp;omega);have s2:ft .add ([67,83,1]++bL n) (bL (Z M))=.ok (ai ([67,83,1]++bL n++bL (Z M))):=cat (by simp;omega);generalize hH: [67,83,1]++bL n++bL (Z M)=H at s2;simp only[iP,lL]at s1 s2;have sy:dD 100 y y=ae:=by
  obtain⟨b,rows,e,-⟩:=hC;rcases e with⟨rfl,-⟩|⟨_,_,rfl,-⟩
  .rfl
  .exact AP _ _ _ _
 apply W.ic (g1)
 .intro M hM _;simp(config:={maxSteps:=4000000})(disch:=first|decide+kernel|omega|simp only[Wq,aa])only[jH,nv,Aq,aa,lB,h1,av,reduceIte,ak,NZ,k1,k2,cv1,cv2,gi,lC,sy,lenC,s1,s2,Fq,bQ [(5,2)]];rfl
 have hHl:Z H=3+(bL n).length+(bL (Z M)).length:=by rw[<-hH];simp;omega
 apply W.seq;apply W.q
 .intro M;simp(disch:=first|decide+kernel|omega)only[jH,nv,Aq,aa];rfl
 apply W.block;refine W.up (Z M) (λ i t D=>Kp C D/\Sl t [(3,.pointer (U ⟨A.next,0,V⟩)),(6,ai (H++fX 0 (M.take i))),(7,.int .i64 i)]) ?_ (a8 _) ⟨Kp.refl _,?_⟩
 .rintro i t D hi ⟨kD,g3,g6,g7,-⟩;have lD:=ly D kD;have hD:=hC.kp kD;have lenD:=hD.len;have hpre:=Lo M 0 (i+1);by_cases hlt:i<Z M
  .have hMi:M[i]?=U M[i]:=aZ hlt;obtain⟨l1,l2,l3,l4⟩:=hL i _ hMi;obtain⟨x,p,j1,j2,hx,-⟩:=hD.at hMi;rw[Lp hMi]at hpre;have htk:=Lp hMi;generalize M[i]=s at*;generalize hW:H++fX 0 (M.take i)=w at*;have hwl:Z w+(lh i s).length<=3+(bL n).length+(bL (Z M)).length+(fX 0 M).length:=by
    rw[<-hW,aY];rw[aY]at hpre;omega
   have hstl:(lh i s).length=(jK s).length+(s.arcs.flatMap (fx i)).length:=by unfold lh;rw[aY]
   have sE:=xC hx;have kE:=Kp.alloc D (af 186 (aS x s));have vE:=aQ D 186 (aS x s);generalize D.alloc (af 186 (aS x s))=E at sE kE vE;have a0:aj O E.get 184 (.pointer (U ⟨D.next,0,V⟩))=.ok x:=vE.ld rfl f_ rfl;have a1:aj O E.get 4 (.pointer (U ⟨D.next,0+1,V⟩))=.ok (.bool s.fin):=vE.ld rfl u4 rfl;have a2:aj O E.get 113 (.pointer (U ⟨D.next,0+2,V⟩))=.ok (.int .u64 s.out):=vE.ld rfl dH rfl;have hxE:=hx.kp kE;have lx:=hxE.len;have m1:a_ .mul .i64 ((2:Nat):Int) ((Z s.arcs:Nat):Int)=.ok (.int .i64 (2*Z s.arcs:Nat)):=AK (ct (by omega));have m2:a_ .add .i64 ((2*Z s.arcs:Nat):Int) ((1:Nat):Int)=.ok (.int .i64 (2*Z s.arcs+1:Nat)):=e_ (ct (by omega));have e1:=λ ih=>wY (ih:=ih) (A:=E) (show 2*Z s.arcs<18446744073709551616 by omega)
   have e2:=λ ih=>wY (ih:=ih) (A:=E) (show 2*Z s.arcs+1<18446744073709551616 by omega)
   have e3:=λ ih=>wY (ih:=ih) (A:=E) l3
   have c1:=eX (tb:=O) (s:=3) (d:=113) (k:=.i64) (n:=2*Z s.arcs) (by rw[u3];rfl) dH (fM (by omega));have c2:=eX (tb:=O) (s:=3) (d:=113) (k:=.i64) (n:=2*Z s.arcs+1) (by rw[u3];rfl) dH (fM (by omega));rw[Na];apply W.q
   .intro M;simp(disch:=first|decide+kernel|omega)only[lX,jH,nv,Aq,aa,g3,g7,gi,lD,lenD,hlt];rfl
   apply W.seq;apply W.block;apply W.q
   .intro M;simp(disch:=first|decide+kernel|omega)only[lX,jH,nv,Aq,aa,g3,g7,gi,lD,j1,j2,rh,a7,sE];rfl
   apply W.seq;refine W.to (n:=95) (λ t D'=>D'=E/\Sl t [(3,.pointer (U ⟨A.next,0,V⟩)),(6,ai (w++jK s)),(7,.int .i64 i),(8,.pointer (U ⟨D.next,0,V⟩))]) ?_ ?_
   .cases hf:s.fin with
    |true=>
     rw[hf]at a1;have hh:jK s=bL (2*Z s.arcs+1)++bL s.out:=by unfold jK;rw[hf];rfl
     rw[hh]at hstl⊢;rw[aY]at hstl;have t1:ft .add w (bL (2*Z s.arcs+1))=.ok (ai (w++bL (2*Z s.arcs+1))):=cat (by simp;omega);have t2:ft .add (w++bL (2*Z s.arcs+1)) (bL s.out)=.ok (ai (w++(bL (2*Z s.arcs+1)++bL s.out))):=by rw[cat (by simp;omega),iC]
     have so:=pE .u64 s.out rfl;apply W.run 20
     .intro M;simp(config:={maxSteps:=4000000})(disch:=first|decide+kernel|omega|simp only[Wq,aa])only[lX,jH,nv,Aq,av,reduceIte,aa,ak,so,g6,eT,fV,nT,a0,a1,a2,lx,m1,m2,c2,e2,e3,t1,t2,Fq,bQ [(10,7)]];rfl
     refine⟨rfl,_,_,rfl,rfl,?_⟩;simp only[Sq,aa,ak,g3,g7]
    |false=>
     rw[hf]at a1;have hh:jK s=bL (2*Z s.arcs):=by unfold jK;rw[hf];rfl
     rw[hh]at hstl⊢;have t1:ft .add w (bL (2*Z s.arcs))=.ok (ai (w++bL (2*Z s.arcs))):=cat (by simp;omega);apply W.run 20
     .intro M;simp(config:={maxSteps:=4000000})(disch:=first|decide+kernel|omega|simp only[Wq,aa])only[lX,jH,nv,Aq,av,reduceIte,aa,ak,g6,eT,fV,a0,a1,lx,m1,c1,e1,t1,Fq,bQ []];rfl
     refine⟨rfl,_,_,rfl,rfl,?_⟩;simp only[Sq,aa,ak,g3,g7]
   .rintro t D' ⟨rfl,g3,g6,g7,g8,-⟩;apply W.seq;apply W.run 20
    .intro M;simp(disch:=first|decide+kernel|omega)only[lX,jH,nv,Aq,aa];rfl
    apply W.block;refine W.up (Z s.arcs) (λ j t D2=>Kp D' D2/\Sl t [(3,.pointer (U ⟨A.next,0,V⟩)),(6,ai (w++jK s++(s.arcs.take j).flatMap (fx i))),(7,.int .i64 i),(8,.pointer (U ⟨D.next,0,V⟩)),(9,.int .i64 j)]) ?_ (a8 _) ⟨Kp.refl _,?_⟩
    .rintro j t D' hj ⟨kF,hs0⟩;by_cases hlt2:j<Z s.arcs
     .refine(qcA (hxE.kp kF) (vE.kp kF) hlt2 l1 (by omega) l4 (by simp only[aY];omega) hs0).mono ?_;rintro e s' ⟨rfl,t',D2,rfl,kG,hs'⟩;exact⟨hlt2,t',D2,rfl,kF.trans kG,hs'⟩
     .have e:j=Z s.arcs:=by omega
      subst e;obtain⟨g3,g6,g7,g8,g9,-⟩:=hs0;have a0:aj O D'.get 184 (.pointer (U ⟨D.next,0,V⟩))=.ok x:=(vE.kp kF).ld rfl f_ rfl;have lx:=(hxE.kp kF).len;rw[dU,iC]at g6;apply W.run 20
      .intro M;simp(disch:=first|decide+kernel|omega)only[ER,lX,jH,nv,Aq,aa,g8,g9,eT,a0,lx];rfl
      show W O (sub lX [1,1]) _ _;apply W.run 20
      .intro M;simp(disch:=first|decide+kernel|omega)only[lX,jH,nv,Aq,aa,g7];rfl
      refine⟨hlt,_,_,rfl,kD.trans (kE.trans kF),?_⟩;simp only[Sq,aa,ak,g3,g6];rw[htk,<-iC H,hW];rfl
    .simp only[Sq,aa,ak,g3,g6,g7,g8];simp
  .have e:i=Z M:=by omega
   subst e;rw[dU]at g6;have lk1:=lk D kD;have k3:=λ ih=>wY (ih:=ih) (A:=D) hk
   have hp:H++fX 0 M++bL k=iJ n M k:=by rw[<-hH];simp[iJ]
   have t1:ft .add (H++fX 0 M) (bL k)=.ok (ai (iJ n M k)):=by rw[cat (by simp;omega),hp]
   have ks:=λ ih=>qaI (ih:=ih) (A:=D) hb
   rw[Na];apply W.seq;apply W.run 20
   .intro M;simp(disch:=first|decide+kernel|omega)only[lX,jH,nv,Aq,aa,g3,g7,gi,lD,lenD];rfl
   apply W.seq;apply W.run 20
   .intro M;simp(disch:=first|decide+kernel|omega)only[jH,nv,Aq,aa,g3,g6,Fm,lk1,k3,t1,ks];rfl
   apply W.run 20
   .intro M;simp(disch:=first|decide+kernel|omega)only[jH,nv,Aq,aa];rfl
   exact⟨by simp,rfl,_,(by simp only[nv,Aq,aa]<;>rfl),kB.trans (kC.trans kD),rfl⟩
 .simp only[Sq,aa,ak];simp[fX]
def ke(l:List aK):List UInt8:=iJ (Z l) (dx l) (least l)
def qfs{l:List aK}{x:I}(h:dz A l x)(h0:l≠ [])(ha:dk l)(hw:∀e∈l,1<=Z e.word/\Z e.word<=255/\e.weight<4294967296)(hl:Z l<=100000)(hn:(dx l).length<1000000)(hM:dx l≠ [])(hL:Lay (dx l))(hk:least l<18446744073709551616)(hb:(ke l).length<900000):
 ∃v A',az O 46 [x] A v A'/\Kp A A'/\v=.tuple ⟨[ai (crc.gk (ke l)),iN 0]⟩:=by
 have hlen:=h.len;have hl0:¬Z l=0:=λ e=>h0 (eN.1 e)
 have hl1:¬100000<Z l:=by omega
 obtain⟨v,B,⟨g1,h1⟩,kB,y,rfl,hS⟩:=run_build h h0 ha hw (by omega) hn;have hy:=hS.self;have cd:=(h.kp kB).len;have sC:cm O (B.alloc (af 115 [.slice V 0 0,uN 0])) 115 (pw B.next 0) (.agg ⟨[y,uN (least l)]⟩)=.ok (B.alloc (af 115 [y,uN (least l)])):=fP gF rfl rfl (by simp) (by
  intro v hv;simp only[cG,eC,or_false]at hv;rcases hv with rfl|rfl
  .exact hy.2
  .rfl)
 have kC:=Kp.alloc B (af 115 [y,uN (least l)]);have vC:=aQ B 115 [y,uN (least l)];generalize B.alloc (af 115 [y,uN (least l)])=C at sC kC vC;obtain⟨d,hd1,hd2⟩:=cF (by kernel_rfl);have lC:=cg hd1 hd2 gF vC.2;have lenC:=((h.kp kB).kp kC).len;obtain⟨v,D,⟨g2,h2⟩,kD,rfl⟩:=qfA (hS.kp kC) hM hl hn hL hk hb;refine⟨_,D,?_,kB.trans (kC.trans kD),rfl⟩;refine bX (g1+g2) 60 (aD Tryz.func46) (by kernel_rfl) λ M hM=>?_
 simp(disch:=first|decide+kernel|omega|simp only[Wq,aa])only[Tryz.f46,Aq,av,reduceIte,aa,ak,hlen,hl0,hl1,dM,dK,h1,vf,a7,sC,lC,lenC,h2,c7,dc]<;>rfl
def tF(t:T I):ev t (.const (.string ⟨#[]⟩))=.ok (ai []):=rfl
def Tp:cm O (A.alloc (af 115 [.slice V 0 0,uN 0])) 115 (pw A.next 0) (.agg ⟨[.slice V 0 0,uN 0]⟩)=.ok (A.alloc (af 115 [.slice V 0 0,uN 0])):=fP gF rfl rfl (by simp) (by
 intro v hv;simp only[cG,eC,or_false]at hv;rcases hv with rfl|rfl<;>rfl)
def qfu{x:I}(h:dz A [] x):az O 46 [x] A (.tuple ⟨[ai [],iN 2]⟩) A:=by
 have hl:=h.len;refine cq 60 (aD Tryz.func46) (by kernel_rfl) λ M=>?_
 simp(disch:=decide+kernel)only[Tryz.f46,Aq,aa,hl,eB,tF]<;>rfl
def qft{l:List aK}{x:I}(h:dz A l x)(ha:¬dk l)(hw:∀e∈l,1<=Z e.word/\Z e.word<=255)(hl:Z l<=100000):
 ∃v A',az O 46 [x] A v A'/\v=.tuple ⟨[ai [],iN 15]⟩/\Kp A A':=by
 have hlen:=h.len;have hl0:¬Z l=0:=λ e=>ha (by rw[eN.1 e];trivial)
 have hl1:¬100000<Z l:=by omega
 obtain⟨v,B,⟨g,hg⟩,rfl,kB⟩:=qdQ h ha hw (by omega);have sC:=Tp (A:=B);refine⟨_,_,?_,rfl,kB.trans (Kp.alloc _ (af 115 [.slice V 0 0,uN 0]))⟩;refine bX (g) 60 (aD Tryz.func46) (by kernel_rfl) λ M hM=>?_
 simp(disch:=first|decide+kernel|omega|simp only[Wq,aa])only[Tryz.f46,Aq,av,reduceIte,aa,ak,hlen,hl0,hl1,dM,dK,hg,vf,a7,sC,c7,dc,tF]<;>rfl
def qi0:dj O 61=.ok (.agg ⟨[.string .empty,.int .u32 0,.bool ag]⟩):=by kernel_rfl
def Br(A:Mem)(b:Nat)(l:List aK)(x:I):Prop:=aq A 61 3 b (l.map aX) x
def Br.kp{l:List aK}{x:I}(h:Br A b l x)(k:Kp A A'):Br A' b l x:=aq.same h k.1 (k.2 b)
def m7(A:Mem)(ls:List UInt8)(x:I):Prop:=
 (x=.slice V 0 0/\ls=[])\/(x=tC/\ls=[])\/∃q off cp,x=.slice (U ⟨q,off,V⟩) (Z ls) cp/\(ls=[]\/(q<A.next/\∃t kd fz c,A.get q=U (.cells t kd (fz+1) c)/\∀(i:Nat) (b:UInt8),ls[i]?=U b->c.get (off+i)=U (bN b.toNat)))
def qgL:bk O 5=.ok 1:=by kernel_rfl
def vo(A:Mem)(z:Nat):Prop:=z<A.next/\∃t k f c,A.get z=U (.cells t k (f+1) c)
def m9(A A':Mem):Prop:=A.next<=A'.next/\∀z,vo A z->A'.get z=A.get z
def Kp.f(k:Kp A A'):m9 A A':=⟨k.1,λ z h=>k.2 z h.1⟩
def m7.kf{ls:List UInt8}{x:I}(h:m7 A ls x)(k:m9 A A'):m7 A' ls x:=by
 rcases h with h|h|⟨q,off,cp,h1,h2⟩
 .exact .inl h
 .exact .inr (.inl h)
 .refine .inr (.inr ⟨q,off,cp,h1,?_⟩);rcases h2 with h2|⟨h2,t,kd,fz,c,h3,h4⟩
  .exact .inl h2
  .exact .inr ⟨c9 h2 k.1,t,kd,fz,c,by rw[k.2 _ ⟨h2,t,kd,fz,c,h3⟩];exact h3,h4⟩
def m7.kp{ls:List UInt8}{x:I}(h:m7 A ls x)(k:Kp A A'):m7 A' ls x:=h.kf k.f
def m7.len{ls:List UInt8}{x:I}(h:m7 A ls x):c_ O .len [74] [x]=.ok (iN (Z ls)):=by
 rcases h with⟨rfl,rfl⟩|⟨rfl,rfl⟩|⟨q,off,cp,rfl,-⟩
 .exact mQ jS
 .kernel_rfl
 .exact mQ jS
def m7.at{ls:List UInt8}{x:I}(h:m7 A ls x){b:UInt8}(hi:ls[i]?=U b):
 ∃p,eE O 74 x (.int .i64 i)=.ok (.pointer (U p))/\aj O A.get 5 (.pointer (U p))=.ok (bN b.toNat):=by
 rcases h with⟨-,rfl⟩|⟨-,rfl⟩|⟨q,off,cp,rfl,h2⟩
 .simp at hi
 .simp at hi
 .rcases h2 with rfl|⟨h2,t,kd,fz,c,h3,h4⟩
  .simp at hi
  .have hlt:=(bU.1 hi).1;have hb:aO i (Z ls)=ae:=by rw[bZ];exact hlt
   have hn:jx (.int .i64 i)=.ok i:=rfl;refine⟨⟨q,off+i*1,V⟩,?_,?_⟩
   .unfold eE;simp only[hn,jS,hb,aJ,qgL,R.aW,g_]
   .unfold aj;have hg:=h4 i b hi;have hag:en (.int .u8)=ag:=rfl;simp only[h3,u5,hag,bJ,qq,hg]
def mR(c:UInt8):UInt8:=if c.toNat % 8<7 then jY (97+c.toNat % 8 % 3)else c
def sq(ls:List UInt8):List UInt8:=if(ls.take 9).map mR=[]then [97]else(ls.take 9).map mR
def qa9(c:UInt8):(mR c).toNat=if c.toNat % 8<7 then 97+c.toNat % 8 % 3 else c.toNat:=by
 unfold mR;split
 .rw[HI];omega
 .rfl
def qca{q:Nat}{b:UInt8}(h:A.get q=U (af 5 [bN b.toNat])):gO O A.get 74 9 (.slice (U ⟨q,0,V⟩) 1 2)=.ok (ai [b]):=by
 have hb:DQ A q 5 (.var 1) [b]:=⟨_,h,λ i hi=>by
  have hi0:i=0:=by simp at hi;exact hi
  subst hi0;rfl⟩
 exact TD jS u9 u5 hb
def qch{a:Nat}(h:a+b<256):a_ .add .u8 (a:Int) (b:Int)=.ok (bN (a+b)):=by
 show R.ok (Value.int .u8 (eL .u8 ((a+b:Nat):Int)))=_;rw[DK,rm h]
def Fv:bK O 76 (pw b o) 0=.ok (pw b o):=by kernel_rfl
def Y2:bK O 76 (pw b o) 1=.ok (pw b (o+1)):=by kernel_rfl
def Y3:bK O 76 (pw b o) 2=.ok (pw b (o+2)):=by kernel_rfl
def iF:=cu lR
def jn:aH:=sub iF [1,1,0,1,0,0]
def WW:lR.body=U (.seq (sub iF [0]) (.seq (sub iF [1,0]) (.seq (.seq (sub iF [1,1,0,0]) (.block 0 (.loop jn))) (.seq (sub iF [1,1,1,0]) (.seq (sub iF [1,1,1,1,0]) (sub iF [1,1,1,1,1])))))):=by kernel_rfl
def M5:jn=.seq (.seq (sub jn [0,0]) (sub jn [0,1])) (.seq (.block 1 (.seq (sub jn [1,0,0,0]) (.seq (sub jn [1,0,0,1,0]) (sub jn [1,0,0,1,1])))) (sub jn [1,1])):=by kernel_rfl
def rY(q:Nat)(w:List UInt8)(i:Nat):List (Nat×I):=[(1,pw q 0),(2,pw (q+1) 0),(3,ai w),(4,.int .i64 i)]
def Yv{q:Nat}{ls:List UInt8}{xl:I}{K:Ex->St->Prop}{wt:Int}{g:Bool}(hx:m7 C ls xl)(hv:dp C 76 q (.var 3) [xl,.int .u32 wt,.bool g]){b:UInt8}(hb:ls[i]?=U b)(hw:Z w=i)(hi:i<9)(ht:Sl t (rY q w i))
 (hK:∀t',Sl t' (rY q (w++[mR b]) i)->K .nrm ⟨t',43,[],C.alloc (af 5 [bN ((mR b).toNat)]),V⟩):
 W O (.seq (sub jn [1,0,0,0]) (.seq (sub jn [1,0,0,1,0]) (sub jn [1,0,0,1,1]))) ⟨t,43,[],C,V⟩ K:=by
 obtain⟨g1,g2,g3,g4,-⟩:=ht;obtain⟨p,a1,a2⟩:=hx.at hb;have hl:aj O C.get 74 (pw q 0)=.ok xl:=dg jS rfl hv rfl;have hlt:=H8 b;have hnat:=qa9 b;have hadd:=AT (b:=[mR b]) (by rw[hw];show i+1<_;omega);have hs:=qca (de C (af 5 [bN ((mR b).toNat)]));apply W.q
 .intro M;simp(disch:=omega)only[jn,iF,lR,Aq,aa,g1,g4,Fv,hl,a1,a2];rfl
 apply W.seq;by_cases h7:b.toNat % 8<7
 .rw[aA h7]at hnat;apply W.run 20
  .intro M;simp(disch:=first|decide+kernel|omega)only[jn,iF,lR,Aq,aa,h7,qch];rfl
  rw[<-hnat];apply W.run 20
  .intro M;simp(disch:=decide+kernel)only[jn,iF,lR,Aq,aa,g3,zU,Cf,F9 _ _ _ _ _ _ _ _ _ _ jS u9,hs,hadd];rfl
  refine hK _ ?_;unfold rY;simp only[Sq,aa,ak,g1,g2,g4]
 .rw[ax h7]at hnat;apply W.run 20
  .intro M;simp(disch:=decide+kernel)only[jn,iF,lR,Aq,aa,h7];rfl
  rw[<-hnat];apply W.run 20
  .intro M;simp(disch:=decide+kernel)only[jn,iF,lR,Aq,aa,g3,zU,Cf,F9 _ _ _ _ _ _ _ _ _ _ jS u9,hs,hadd];rfl
  refine hK _ ?_;unfold rY;simp only[Sq,aa,ak,g1,g2,g4]
def Tf:bk O 76=.ok 3:=by kernel_rfl
def qhF{ls:List UInt8}{b:UInt8}(h:ls[i]?=U b):(ls.take (i+1)).map mR=(ls.take i).map mR++[mR b]:=by
 obtain⟨hlt,rfl⟩:=bU.1 h;rw[d_ hlt,gg];rfl
def tE(ls:List UInt8)(wt:Nat)(g:Bool):aK:=bare ⟨sq ls,wt,g⟩
def VU{wt:Nat}{g:Bool}:eu O 61 [(0,ai w),(1,.int .u32 wt),(2,.bool g)]=.ok (.agg ⟨aX ⟨w,wt,g⟩⟩):=by kernel_rfl
def qef{ls:List UInt8}{xl:I}{wt:Nat}{g:Bool}(hx:m7 A ls xl):
 ∃A',az O 28 [.agg ⟨[xl,.int .u32 wt,.bool g]⟩] A (.agg ⟨aX (tE ls wt g)⟩) A'/\Kp A A':=by
 obtain⟨v,A',hg,rfl,hk⟩:∃v A',az O 28 [.agg ⟨[xl,.int .u32 wt,.bool g]⟩] A v A'/\v=.agg ⟨aX (tE ls wt g)⟩/\Kp A A':=by
  refine pS (aD Tryz.func28) WW (by rw[Tryz.ntmps28];simp) (by kernel_rfl) (by kernel_rfl) ?_;obtain⟨d67,hd1,hd2⟩:=cF (by kernel_rfl);have hv0:dp ((A.alloc (af 76 [xl,.int .u32 wt,.bool g])).alloc (af 61 [.string .empty,.int .u32 0,.bool ag])) 76 A.next (.var 3) [xl,.int .u32 wt,.bool g]:=(oQ (de _ _)).same (cY (by rw[aG];omega))
  have hz0:dp ((A.alloc (af 76 [xl,.int .u32 wt,.bool g])).alloc (af 61 [.string .empty,.int .u32 0,.bool ag])) 61 (A.next+1) (.var 3) [.string .empty,.int .u32 0,.bool ag]:=oQ (de _ _);have hk0:Kp A ((A.alloc (af 76 [xl,.int .u32 wt,.bool g])).alloc (af 61 [.string .empty,.int .u32 0,.bool ag])):=(Kp.alloc _ _).trans (Kp.alloc _ _);have hn0:((A.alloc (af 76 [xl,.int .u32 wt,.bool g])).alloc (af 61 [.string .empty,.int .u32 0,.bool ag])).next=A.next+2:=rfl
  apply W.q
  .intro M;simp(disch:=omega)only[iF,lR,Aq,aa,qi0,a7,aG];rfl
  generalize (A.alloc (af 76 [xl,.int .u32 wt,.bool g])).alloc (af 61 [.string .empty,.int .u32 0,.bool ag])=B at hv0 hz0 hk0 hn0;apply W.q
  .intro M;simp(disch:=omega)only[iF,lR,Aq,aa];rfl
  apply W.seq;apply W.q
  .intro M;simp(disch:=omega)only[iF,lR,Aq,aa];rfl
  apply W.block;have hmin:min (Z ls) 9<=Z ls/\min (Z ls) 9<=9:=⟨Ec _ _,Ed _ _⟩;have hmin2:min (Z ls) 9=Z ls\/min (Z ls) 9=9:=by omega
  refine W.up (min (Z ls) 9) (λ i t C=>Kp B C/\Sl t (rY A.next ((ls.take i).map mR) i)) ?_ (a8 _) ⟨Kp.refl _,?_⟩
  .rintro i t C hi ⟨hk,g1,g2,g3,g4,-⟩;have hxC:=hx.kp (hk0.trans hk);have hvC:=hv0.same (hk.2 _ (by omega));have hl:aj O C.get 74 (pw A.next 0)=.ok xl:=dg jS rfl hvC rfl;have hlen:=hxC.len;by_cases hlt:i<min (Z ls) 9
   .have h1:i<Z ls:=by omega
    have h2:i<9:=by omega
    have hb:=aZ h1;rw[M5];apply W.q
    .intro M;simp(disch:=first|decide+kernel|omega|simp only[Wq,aa])only[jn,iF,lR,Aq,av,reduceIte,aa,ak,g1,g4,Fv,hl,hlen,h1,h2];rfl
    apply W.seq;apply W.block;refine Yv (w:=(ls.take i).map mR) hxC hvC hb (by rw[bc,df];omega) h2 (by unfold rY;simp only[Sq,aa,ak,g1,g2,g3,g4]) λ t' ht'=>?_
    obtain⟨f1,f2,f3,f4,-⟩:=ht';apply W.run 20
    .intro M;simp(disch:=first|decide+kernel|omega)only[jn,iF,lR,Aq,aa,f4];rfl
    refine⟨hlt,_,_,rfl,hk.trans (Kp.alloc _ _),?_⟩;rw[qhF hb];unfold rY;simp only[Sq,aa,ak,f1,f2,f3]
   .have hin:i=min (Z ls) 9:=by omega
    have htk:(ls.take i)=ls.take 9:=by
     rcases hmin2 with h|h
     .rw[hin,h,dU,BF (by omega)]
     .rw[hin,h]
    rw[htk]at g3;have hex:W O (.seq (sub jn [0,0]) (sub jn [0,1])) ⟨t,43,[],C,V⟩ (λ e s'=>∃t',e=.exit 0/\s'=⟨t',43,[],C,V⟩/\Sl t' (rY A.next ((ls.take 9).map mR) i)):=by
     by_cases h1:i<Z ls
     .have h2:¬i<9:=by omega
      apply W.run 20
      .intro M;simp(disch:=first|decide+kernel|omega|simp only[Wq,aa])only[jn,iF,lR,Aq,av,reduceIte,aa,ak,g1,g4,Fv,hl,hlen,h1,h2];rfl
      refine⟨_,rfl,rfl,?_⟩;unfold rY;simp only[Sq,aa,ak,g1,g2,g3,g4]
     .apply W.run 20
      .intro M;simp(disch:=first|decide+kernel|omega|simp only[Wq,aa])only[jn,iF,lR,Aq,av,reduceIte,aa,ak,g1,g4,Fv,hl,hlen,h1];rfl
      refine⟨_,rfl,rfl,?_⟩;unfold rY;simp only[Sq,aa,ak,g1,g2,g3,g4]
    rw[M5];apply W.seq;refine hex.mono ?_;rintro e s' ⟨t',rfl,rfl,f1,f2,f3,f4,-⟩;apply W.seq;have hw:W O (sub iF [1,1,1,0]) ⟨t',43,[],C,V⟩ (λ e s'=>∃t2,e=.nrm/\s'=⟨t2,43,[],C,V⟩/\Sl t2 [(1,pw A.next 0),(2,pw (A.next+1) 0),(3,ai (sq ls))]):=by
     by_cases h0:(ls.take 9).map mR=[]
     .have hwd:sq ls=[97]:=by unfold sq;rw[aA h0]
      have f3':t'.get 3=U (ai []):=by rw[f3,h0]
      apply W.run 20
      .intro M;simp(disch:=decide+kernel)only[iF,lR,Aq,aa,f3'];rfl
      refine⟨_,rfl,rfl,?_⟩;rw[hwd];simp only[Sq,aa,ak,f1,f2]
     .have hwd:sq ls=(ls.take 9).map mR:=by unfold sq;rw[ax h0]
      rw[<-hwd]at f3 h0;apply W.run 20
      .intro M;simp(disch:=decide+kernel)only[iF,lR,Aq,aa,f3,h0];rfl
      refine⟨_,rfl,rfl,?_⟩;simp only[Sq,aa,ak,f1,f2,f3]
    refine hw.mono ?_;rintro e s' ⟨t2,rfl,rfl,f1,f2,f3,-⟩;apply W.seq;have l1:aj O C.get 59 (pw A.next (0+1))=.ok (.int .u32 wt):=dg Bc rfl hvC rfl;have l2:aj O C.get 4 (pw A.next (0+2))=.ok (.bool g):=dg u4 rfl hvC rfl;have hgb:=λ ih=>PM (ih:=ih) (A:=C) (e:=⟨sq ls,wt,g⟩)
    have hzD:=hz0.same (hk.2 _ (by omega));obtain⟨C2,s2,v2,n2,k2⟩:=ku (tb:=O) (t:=61) (l:=[.string .empty,.int .u32 0,.bool ag]) (l':=aX (tE ls wt g)) oh hzD rfl (by simp) (CA _);have hl2:=cg hd1 hd2 oh v2;have hk1:=hk0.trans hk;unfold tE at s2 hl2⊢;apply W.run 20
    .intro M;simp(disch:=omega)only[iF,lR,Aq,aa,f1,f2,f3,Y2,Y3,l1,l2,VU,hgb,s2];rfl
    apply W.run 20
    .intro M;simp only[iF,lR,Aq,aa];rfl
    refine⟨.inr rfl,C2,[.agg ⟨aX (bare ⟨sq ls,wt,g⟩)⟩],rfl,?_,rfl,?_⟩
    .simp only[lR,eF,qP,T.bR,aa,bB,bg,qO,R.aW,f2,hl2]
    .exact⟨by rw[n2];exact hk1.1,λ z hz=>by rw[k2 z (by omega),hk1.2 z hz]⟩
  .unfold rY;simp only[Sq,aa,ak];rfl
 exact⟨A',hg,hk⟩
structure mj where
 xl:I
 ls:List UInt8
 wt:Nat
 gone:Bool
def NC(d:mj):I:=.agg ⟨[d.xl,.int .u32 d.wt,.bool d.gone]⟩
def m8(A:Mem)(ds:List mj)(x:I):Prop:=
 (x=.slice V 0 0/\ds=[])\/(x=tC/\ds=[])\/∃q off cp,x=.slice (U ⟨q,off,V⟩) (Z ds) cp/\(ds=[]\/(q<A.next/\∃t kd fz c,A.get q=U (.cells t kd (fz+1) c)/\
  ∀(i:Nat) (d:mj),ds[i]?=U d->c.get (off+i*3)=U d.xl/\c.get (off+i*3+1)=U (.int .u32 d.wt)/\c.get (off+i*3+2)=U (.bool d.gone)/\m7 A d.ls d.xl))
def GN:O.aB 30=U (.slice 76):=by kernel_rfl
variable {ds:List mj}
def m8.kf{x:I}(h:m8 A ds x)(k:m9 A A'):m8 A' ds x:=by
 rcases h with h|h|⟨q,off,cp,h1,h2⟩
 .exact .inl h
 .exact .inr (.inl h)
 .refine .inr (.inr ⟨q,off,cp,h1,?_⟩);rcases h2 with h2|⟨h2,t,kd,fz,c,h3,h4⟩
  .exact .inl h2
  .exact .inr ⟨c9 h2 k.1,t,kd,fz,c,by rw[k.2 _ ⟨h2,t,kd,fz,c,h3⟩];exact h3,λ i d hd=>⟨(h4 i d hd).1,(h4 i d hd).2.1,(h4 i d hd).2.2.1,(h4 i d hd).2.2.2.kf k⟩⟩
def m8.kp{x:I}(h:m8 A ds x)(k:Kp A A'):m8 A' ds x:=h.kf k.f
def m8.len{x:I}(h:m8 A ds x):c_ O .len [30] [x]=.ok (iN (Z ds)):=by
 rcases h with⟨rfl,rfl⟩|⟨rfl,rfl⟩|⟨q,off,cp,rfl,-⟩
 .exact mQ GN
 .kernel_rfl
 .exact mQ GN
def m8.at{x:I}(h:m8 A ds x){d:mj}(hi:ds[i]?=U d):
 (∃p,eE O 30 x (.int .i64 i)=.ok (.pointer (U p))/\aj O A.get 76 (.pointer (U p))=.ok (NC d))/\m7 A d.ls d.xl:=by
 rcases h with⟨-,rfl⟩|⟨-,rfl⟩|⟨q,off,cp,rfl,h2⟩
 .simp at hi
 .simp at hi
 .rcases h2 with rfl|⟨h2,t,kd,fz,c,h3,h4⟩
  .simp at hi
  .obtain⟨c0,c1,c2,hby⟩:=h4 i d hi;obtain⟨d26,hd1,hd2⟩:=cF (t:=76) (p:=ae) (by kernel_rfl);have hlt:=(bU.1 hi).1;have hb:aO i (Z ds)=ae:=by rw[bZ];exact hlt
   have hn:jx (.int .i64 i)=.ok i:=rfl;refine⟨⟨⟨q,off+i*3,V⟩,?_,?_⟩,hby⟩
   .unfold eE;simp only[hn,GN,hb,aJ,Tf,R.aW,g_]
   .have hgs:c.hZ 3 (off+i*3)=U [d.xl,.int .u32 d.wt,.bool d.gone]:=px _ _ _ _ rfl λ j hj=>by
     have:j=0\/j=1\/j=2:=by omega
     rcases this with rfl|rfl|rfl
     .exact c0
     .exact c1
     .exact c2
    unfold aj;simp only[h3,hd1,hd2,aJ,Tf,R.aW,hgs];rfl
def dE(d:mj):aK:=tE d.ls d.wt d.gone
def qL:=cu v_
def Cu:aH:=sub qL [1,1,0,1,0,0]
def XM:v_.body=U (.seq (sub qL [0]) (.seq (sub qL [1,0]) (.seq (.seq (sub qL [1,1,0,0]) (.block 0 (.loop Cu))) (.seq (sub qL [1,1,1,0]) (sub qL [1,1,1,1]))))):=by kernel_rfl
def Sn{x:I}(h:m8 A ds x)(hn:n<=1000):
 ∃y A',az O 8 [x,iN n] A y A'/\dz A' ((ds.take n).map dE) y/\Kp A A':=by
 obtain⟨v,A',hg,he,hk⟩:∃v A',az O 8 [x,iN n] A v A'/\dz A' ((ds.take n).map dE) v/\Kp A A':=by
  refine pS (aD Tryz.func8) XM (by rw[Tryz.ntmps8];simp) (by kernel_rfl) (by kernel_rfl) ?_;apply W.q2
  .intro M _;simp(disch:=omega)only[qL,v_,Aq,aa];rfl
  apply W.seq;apply W.q
  .intro M;simp(disch:=omega)only[qL,v_,Aq,aa];rfl
  apply W.block;have hmin:min (Z ds) n<=Z ds/\min (Z ds) n<=n:=⟨Ec _ _,Ed _ _⟩;have hmin2:min (Z ds) n=Z ds\/min (Z ds) n=n:=by omega
  refine W.up (min (Z ds) n) (λ i t C=>∃bo xo,Br C bo ((ds.take i).map dE) xo/\A.next<=bo/\Kp A C/\Sl t [(0,x),(1,iN n),(5,xo),(6,.int .i64 i)]) ?_ (a8 _) ⟨A.next,.slice V 0 0,.inl ⟨rfl,rfl⟩,aI _,Kp.refl _,?_⟩
  .rintro i t C hi ⟨bo,xo,ho,hbo,hk,g0,g1,g5,g6,-⟩;have hC:=h.kp hk;have hlen:=hC.len;by_cases hlt:i<min (Z ds) n
   .have h1:i<Z ds:=by omega
    have h2:i<n:=by omega
    have hd:=aZ h1;obtain⟨⟨p,a1,a2⟩,hby⟩:=hC.at hd;obtain⟨C1,⟨g,hg⟩,k1⟩:=qef (wt:=ds[i].wt) (g:=ds[i].gone) hby;obtain⟨x',C2,happ,w2,n2,k2⟩:=Er (e:=dE ds[i]) (Br.kp ho k1) (by rw[bc,df];omega);have hbe:eO O 28 1 [(0,.agg ⟨aX (tE ds[i].ls ds[i].wt ds[i].gone)⟩)]=.ok (af 61 (aX (dE ds[i])),.dZ 1 2):=yu;unfold NC at a2;apply W.cC (g) 20
    .intro M hM;simp(config:={maxSteps:=4000000})(disch:=first|decide+kernel|omega|simp only[Wq,aa])only[Cu,qL,v_,Aq,av,reduceIte,aa,ak,g0,g1,g5,g6,hlen,h1,h2,a1,a2,hg,hbe,Cf,happ];rfl
    have hkA:=hk.trans k1;refine⟨hlt,_,_,rfl,C1.next+1,x',?_,?_,⟨by rw[n2];have:=hkA.1;omega,λ z hz=>?_⟩,?_⟩
    .rw[d_ h1,gg];exact w2
    .have:=hkA.1;omega
    .rw[k2 z (λ e=>by omega) (by have:=hkA.1;omega),hkA.2 z hz]
    .simp only[Sq,aa,ak,g0,g1]
   .have hin:i=min (Z ds) n:=by omega
    have htk:ds.take i=ds.take n:=by
     rcases hmin2 with h|h
     .rw[hin,h,dU,BF (by omega)]
     .rw[hin,h]
    rw[htk]at ho;have hex:W O Cu ⟨t,27,[],C,V⟩ (λ e s'=>∃t',e=.exit 0/\s'=⟨t',27,[],C,V⟩/\Sl t' [(5,xo)]):=by
     by_cases h1:i<Z ds
     .have h2:¬i<n:=by omega
      apply W.run 20
      .intro M;simp(disch:=first|decide+kernel|omega|simp only[Wq,aa])only[Cu,qL,v_,Aq,av,reduceIte,aa,ak,g0,g1,g5,g6,hlen,h1,h2];rfl
      refine⟨_,rfl,rfl,?_⟩;simp only[Sq,aa,ak,g5]
     .apply W.run 20
      .intro M;simp(disch:=first|decide+kernel|omega|simp only[Wq,aa])only[Cu,qL,v_,Aq,av,reduceIte,aa,ak,g0,g1,g5,g6,hlen,h1];rfl
      refine⟨_,rfl,rfl,?_⟩;simp only[Sq,aa,ak,g5]
    refine hex.mono ?_;rintro e s' ⟨t',rfl,rfl,f5,-⟩;apply W.run 40
    .intro M;simp(disch:=omega)only[qL,v_,Aq,aa,f5];rfl
    refine⟨.inr rfl,C,[xo],rfl,?_,⟨bo,ho⟩,hk⟩;simp only[v_,eF,qP,T.bR,aa,bB,bg,qO,R.aW]
  .simp only[Sq,aa,ak]
 exact⟨v,A',hg,he,hk⟩
def tT(A0 C:Mem)(b:Nat)(l:List aK)(x:I):Prop:=aq C 61 3 b (l.map aX) x/\Kp A0 C/\A0.next<=b
def tT.nil(A0 C:Mem)(k:Kp A0 C):tT A0 C A0.next [] (.slice V 0 0):=⟨aq.nil _ _ _ _,k,aI _⟩
def tT.push{A0:Mem}{l:List aK}{x:I}(h:tT A0 C b l x)(e:aK)(hl:Z l<1000000):∃x' C',dJ O (C.alloc (af 61 (aX e))) 28 28 x (.slice (U ⟨C.next,0,V⟩) 1 2)=.ok (x',C')/\tT A0 C' (C.next+1) (l++[e]) x':=by
 obtain⟨hs,hk,hb⟩:=h;obtain⟨x',F,h1,h2,h3,h4⟩:=Er hs hl;have hk0:=hk.1;exact⟨x',F,h1,h2,⟨by omega,λ z hz=>by rw[h4 z (by omega) (by omega),hk.2 z hz]⟩,by omega⟩
def Zx(a b:List UInt8):(!(b6 a b||oz a b))=b6 b a:=by
 cases h1:b6 b a with
 |true=>
  have h2:b6 a b=ag:=by
   cases h:b6 a b with
   |false=>rfl
   |true=>have:=H_ _ _ _ h h1;rw[Cm]at this;cases this
  have h3:oz a b=ag:=by
   rw[pU];refine beq_eq_false_iff_ne.2 λ e=>?_
   rw[e,Cm]at h1;cases h1
  rw[h2,h3];rfl
 |false=>
  cases h2:b6 a b with
  |true=>rfl
  |false=>
   obtain rfl:=H' _ _ h2 h1;rw[pU];simp
def Qc(a b:List UInt8):ft .lss a b=.ok (.bool (b6 a b)):=rfl
def JF(a b:List UInt8):ft .gtr a b=.ok (.bool (b6 b a)):=by
 show R.ok (Value.bool (!(b6 a b||oz a b)))=_;rw[Zx]
def Mv(e:aK):(bare e).word=e.word:=by unfold bare;split<;>rfl
theorem QN:∀{l:List aK},dk l->kZ e l=l.takeWhile (λ y=>b6 y.word e.word)++e::l.filter (λ y=>b6 e.word y.word)
 | [],_=>rfl
 |x::l,h=>by
  have hx:=h.1;unfold kZ;by_cases h1:lt x.word e.word
  .have h2:b6 e.word x.word=ag:=by
    cases hq:b6 e.word x.word with
    |false=>rfl
    |true=>exact aU (tJ h1 hq) (FX _)
   rw[aA h1,QN h.2,BE,aA h1,iD,h2];rfl
  .have htw:(x::l).takeWhile (λ y=>b6 y.word e.word)=[]:=by rw[BE,ax h1]
   rw[ax h1,htw];by_cases h3:x.word=e.word
   .rw[aA h3,iD,<-h3,ax (by rw[Cm];simp)];rw[Bx.2 (λ y hy=>hx y hy)];rfl
   .have h4:=xL λ hn=>h3 (Ax h1 hn)
    rw[ax h3,iD,aA h4,Bx.2 (λ y hy=>tJ h4 (hx y hy))];rfl
theorem DF{α:Type}{p:α->Bool}:∀{l:List α} {i:Nat},(∀y∈l.take i,p y=ae)->(∀e,l[i]?=U e->p e=ag)->l.takeWhile p=l.take i
 | [],i,_,_=>by simp
 |x::l,0,_,h=>by
  rw[BE,h x rfl];simp
 |x::l,i+1,h1,h2=>by
  rw[BE,aA (h1 x (by simp)),Hn,DF (i:=i) (λ y hy=>h1 y (by simp[hy])) (λ e he=>h2 e (by simpa using he))]
def jF:=cu ph
def ED:aH:=sub jF [1,1,0,1,0,0]
def EE:aH:=sub jF [1,1,1,1,0,1,0,0]
def WV:ph.body=U (.seq (sub jF [0]) (.seq (sub jF [1,0]) (.seq (.seq (sub jF [1,1,0,0]) (.block 0 (.loop ED))) (.seq (sub jF [1,1,1,0]) (.seq (.seq (sub jF [1,1,1,1,0,0]) (.block 2 (.loop EE))) (.seq (sub jF [1,1,1,1,1,0]) (sub jF [1,1,1,1,1,1]))))))):=by kernel_rfl
def qfy{l:List aK}{x:I}(h:dz A l x)(ha:dk l)(hl:Z l<400000):∃v A',az O 62 [x,.agg ⟨aX e⟩] A v A'/\dz A' (kZ (bare e) l) v/\Kp A A':=by
 refine cZ (aD Tryz.func62) WV (by kernel_rfl) ?_;have hlen:=h.len;have k0:=Kp.alloc A (af 61 (aX e));have v0:=aQ A 61 (aX e);apply W.q
 .intro M;simp(disch:=omega)only[jF,ph,Aq,aa,a7];rfl
 have hB:=h.kp k0;generalize A.alloc (af 61 (aX e))=B at k0 v0 hB;have lwB:=λ C k=>(v0.kp (A':=C) k).l0 u9 rfl
 obtain⟨d67,hd1,hd2⟩:=cF (t:=61) (p:=ae) (by kernel_rfl);apply W.q
 .intro M;simp(disch:=first|decide+kernel|omega)only[jF,ph,Aq,aa];rfl
 apply W.seq;refine W.to (n:=58) (λ t C=>∃b y,tT B C b (l.takeWhile (λ y=>b6 y.word e.word)) y/\Sl t [(0,x),(3,.pointer (U ⟨A.next,0,V⟩)),(5,y)]) ?_ ?_
 .apply W.seq;apply W.run 20
  .intro M;simp(disch:=first|decide+kernel|omega)only[jF,ph,Aq,aa];rfl
  apply W.block;refine W.up (Z l) (λ i t C=>(∀y∈l.take i,b6 y.word e.word=ae)/\∃b y,tT B C b (l.take i) y/\Sl t [(0,x),(3,.pointer (U ⟨A.next,0,V⟩)),(5,y),(6,.int .i64 i)]) ?_ (a8 _) ⟨(λ y hy=>by simp at hy),_,_,tT.nil B B (Kp.refl _),?_⟩
  .rintro i t C hi ⟨hall,b,y,hO,g0,g3,g5,g6,-⟩;have lw:=lwB C hO.2.1;by_cases hlt:i<Z l
   .have he:l[i]?=U l[i]:=aZ hlt;obtain⟨p,i1,i2,q,i3,i4⟩:=(hB.kp hO.2.1).at he;have hls:=Qc (l[i]).word e.word;cases hc:b6 (l[i]).word e.word with
    |true=>
     rw[hc]at hls;have htk:l.take (i+1)=l.take i++[l[i]]:=d_ hlt;obtain⟨y2,D2,happ2,hO3⟩:=hO.push l[i] (by rw[df];omega);apply W.run 20
     .intro M;simp(config:={maxSteps:=4000000})(disch:=first|decide+kernel|omega|simp only[Wq,aa])only[ED,jF,ph,Aq,av,reduceIte,aa,ak,g0,g3,g5,g6,hlen,hlt,i1,i2,i3,i4,mJ,lw,hls,yu,happ2,Fq,bQ []];rfl
     refine⟨hlt,_,_,rfl,λ z hz=>?_,_,y2,by rw[htk];exact hO3,?_⟩
     .rw[htk]at hz;rcases mw.1 hz with hz|hz
      .exact hall z hz
      .rw[dX.1 hz];exact hc
     .simp only[Sq,aa,ak,g0,g3]
    |false=>
     rw[hc]at hls;have htw:l.takeWhile (λ y=>b6 y.word e.word)=l.take i:=DF hall (λ z hz=>by rw[he]at hz;rw[<-iR hz];exact hc);apply W.run 20
     .intro M;simp(config:={maxSteps:=4000000})(disch:=first|decide+kernel|omega|simp only[Wq,aa])only[ED,jF,ph,Aq,av,reduceIte,aa,ak,g0,g3,g6,hlen,hlt,i1,i3,i4,mJ,lw,hls,Fq,bQ []];rfl
     refine⟨rfl,_,_,rfl,b,y,by rw[htw];exact hO,?_⟩;simp only[Sq,aa,ak,g0,g3,g5]
   .have hin:i=Z l:=by omega
    subst hin;have htw:l.takeWhile (λ y=>b6 y.word e.word)=l.take (Z l):=DF hall (λ z hz=>by rw[ky (aI _)]at hz;cases hz);apply W.run 20
    .intro M;simp(config:={maxSteps:=4000000})(disch:=first|decide+kernel|omega|simp only[Wq,aa])only[ED,jF,ph,Aq,av,reduceIte,aa,ak,g0,g6,hlen,Fq,bQ []];rfl
    refine⟨rfl,_,_,rfl,b,y,by rw[htw];exact hO,?_⟩;simp only[Sq,aa,ak,g0,g3,g5]
  .simp only[Sq,aa,ak]
 .rintro t C ⟨b,y,hO,g0,g3,g5,-⟩;show W O _ _ _;have hlt1:(l.takeWhile (λ y=>b6 y.word e.word)).length<=Z l:=(List.takeWhile_sublist _).length_le;have le:aj O C.get 61 (.pointer (U ⟨A.next,0,V⟩))=.ok (.agg ⟨aX e⟩):=cg hd1 hd2 oh (v0.kp hO.2.1).2;have hg:=λ ih=>PM (ih:=ih) (A:=C) (e:=e)
  obtain⟨y',E,happ,hO2⟩:=hO.push (bare e) (by omega);apply W.q
  .intro M;simp(disch:=first|decide+kernel|omega)only[jF,ph,Aq,aa,g3,g5,le,hg,yu,happ];rfl
  apply W.seq;apply W.q
  .intro M;simp(disch:=first|decide+kernel|omega)only[jF,ph,Aq,aa];rfl
  apply W.block;refine W.up (Z l) (λ i t C=>∃b y,tT B C b ((l.takeWhile (λ y=>b6 y.word e.word)++[bare e])++(l.take i).filter (λ y=>b6 e.word y.word)) y/\Sl t [(0,x),(3,.pointer (U ⟨A.next,0,V⟩)),(5,y),(7,.int .i64 i)]) ?_ (a8 _) ⟨_,y',by simpa using hO2,?_⟩
  .rintro i t C hi ⟨b,y,hO,g0,g3,g5,g7,-⟩;have lw:=lwB C hO.2.1;by_cases hlt:i<Z l
   .have he:l[i]?=U l[i]:=aZ hlt;obtain⟨p,i1,i2,q,i3,i4⟩:=(hB.kp hO.2.1).at he;have hgs:=JF (l[i]).word e.word;cases hc:b6 e.word (l[i]).word with
    |true=>
     rw[hc]at hgs;have hfl:((l.takeWhile (λ y=>b6 y.word e.word)++[bare e])++(l.take i).filter (λ y=>b6 e.word y.word)).length<1000000:=by
      have:=BC (λ y:aK=>b6 e.word y.word) (l.take i);rw[df]at this;simp only[aY,cD,eB];omega
     have htk:(l.take (i+1)).filter (λ y=>b6 e.word y.word)=(l.take i).filter (λ y=>b6 e.word y.word)++[l[i]]:=by
      rw[d_ hlt,zt,iD,aA hc];rfl
     obtain⟨y2,D2,happ2,hO3⟩:=hO.push l[i] hfl;apply W.run 20
     .intro M;simp(config:={maxSteps:=4000000})(disch:=first|decide+kernel|omega|simp only[Wq,aa])only[EE,jF,ph,Aq,av,reduceIte,aa,ak,g0,g3,g5,g7,hlen,hlt,i1,i2,i3,i4,mJ,lw,hgs,yu,happ2,Fq,bQ []];rfl
     refine⟨hlt,_,_,rfl,_,y2,by rw[htk,<-iC];exact hO3,?_⟩;simp only[Sq,aa,ak,g0,g3]
    |false=>
     rw[hc]at hgs;have htk:(l.take (i+1)).filter (λ y=>b6 e.word y.word)=(l.take i).filter (λ y=>b6 e.word y.word):=by
      rw[d_ hlt,zt,iD,ax (by rw[hc];decide)];simp
     apply W.run 20
     .intro M;simp(config:={maxSteps:=4000000})(disch:=first|decide+kernel|omega|simp only[Wq,aa])only[EE,jF,ph,Aq,av,reduceIte,aa,ak,g0,g3,g7,hlen,hlt,i1,i3,i4,mJ,lw,hgs,Fq,bQ []];rfl
     refine⟨hlt,_,_,rfl,b,y,by rw[htk];exact hO,?_⟩;simp only[Sq,aa,ak,g0,g3,g5]
   .have hin:i=Z l:=by omega
    subst hin;rw[dU]at hO;apply W.run 20
    .intro M;simp(disch:=first|decide+kernel|omega)only[EE,jF,ph,Aq,aa,g0,g7,hlen];rfl
    apply W.run 40
    .intro M;simp(disch:=first|decide+kernel|omega)only[jF,ph,Aq,aa,g5];rfl
    refine⟨by simp,rfl,_,(by simp only[ph,Aq,aa]<;>rfl),⟨b,?_⟩,k0.trans hO.2.1⟩;rw[QN ha,Mv];have:=hO.1;rwa[iC]at this
  .simp only[Sq,aa,ak,g0,g3]
def pJ(more:List aK):List aK:=more.foldl (λ l e=>kZ (bare e) l) []
def qio(more:List aK)(e:aK):pJ (more++[e])=kZ (bare e) (pJ more):=by
 unfold pJ;rw[tV];rfl
theorem one_le{e:aK}:∀l:List aK,(kZ e l).length<=Z l+1
 | []=>by simp[kZ]
 |x::l=>by
  have:=one_le (e:=e) l;unfold kZ;split
  .simp only[cD];omega
  .split<;>simp
def qin(P:List aK->Prop)(h0:P [])(h1:∀l e,P l->P (kZ (bare e) l))(more:List aK):P (pJ more):=by
 unfold pJ
 suffices h:∀(more l:List aK),P l->P (more.foldl (λ l e=>kZ (bare e) l) l)from h more [] h0
 intro more
 induction more with
 |nil=>exact λ l h=>h
 |cons e more ih=>exact λ l h=>ih _ (h1 l e h)
def qil(more:List aK):dk (pJ more):=qin dk trivial (λ l e h=>QM h) more
def Uy:∀more:List aK,(pJ more).length<=Z more:=by
 intro more;unfold pJ
 suffices h:∀(more l:List aK),(more.foldl (λ l e=>kZ (bare e) l) l).length<=Z l+Z more by
  have:=h more [];simpa using this
 intro more
 induction more with
 |nil=>exact λ l=>aI _
 |cons e more ih=>
  intro l;have h1:=ih (kZ (bare e) l);have h2:=one_le (e:=bare e) l;rw[mu,cD];omega
def qim{more:List aK}(P:aK->Prop)(h:∀e∈more,P (bare e)):∀e∈pJ more,P e:=by
 unfold pJ
 suffices H:∀(more l:List aK),(∀e∈more,P (bare e))->(∀e∈l,P e)->∀e∈more.foldl (λ l e=>kZ (bare e) l) l,P e from H more [] h (λ e he=>by cases he)
 intro more
 induction more with
 |nil=>exact λ l _ h=>h
 |cons a more ih=>
  intro l h1 h2;refine ih _ (λ e he=>h1 e (cV _ he)) λ e he=>?_
  rcases Kq he with rfl|he
  .exact h1 a cJ
  .exact h2 e he
def Vc:dJ O A 28 28 (.slice V 0 0) (.slice V 0 0)=.ok (.slice V 0 0,A):=by kernel_rfl
def rU:=cu ye
def IX:aH:=sub rU [1,1,0,1,0,0]
def XL:ye.body=U (.seq (sub rU [0]) (.seq (sub rU [1,0]) (.seq (.seq (sub rU [1,1,0,0]) (.block 0 (.loop IX))) (.seq (sub rU [1,1,1,0]) (sub rU [1,1,1,1]))))):=by kernel_rfl
def qfF{more:List aK}{xm:I}(hm:dz A more xm)(hl:Z more<300000):∃v A',az O 20 [.slice V 0 0,xm] A v A'/\dz A' (pJ more) v/\Kp A A':=by
 refine cZ (aD Tryz.func20) XL (by kernel_rfl) ?_;have hlen:=hm.len;apply W.q2
 .intro M _;simp(disch:=decide+kernel)only[rU,ye,Aq,aa,Vc];rfl
 apply W.seq;apply W.q
 .intro M;simp(disch:=omega)only[rU,ye,Aq,aa];rfl
 apply W.block;refine W.up (Z more) (λ i t C=>∃y,dz C (pJ (more.take i)) y/\Kp A C/\Sl t [(1,xm),(5,y),(6,.int .i64 i)]) ?_ (a8 _) ⟨_,⟨0,aq.nil _ _ _ _⟩,Kp.refl _,?_⟩
 .rintro i t C hi ⟨y,hy,kC,g1,g5,g6,-⟩;by_cases hlt:i<Z more
  .have he:=aZ hlt;obtain⟨p,i1,i2,-⟩:=(hm.kp kC).at he;have hwl:=Uy (more.take i);rw[df]at hwl;obtain⟨v,D,⟨g,hg⟩,hv,kD⟩:=qfy (e:=more[i]) hy (qil _) (by omega);apply W.cC (g) 20
   .intro M hM;simp(disch:=first|decide+kernel|omega)only[IX,rU,ye,Aq,aa,g1,g5,g6,hlen,hlt,i1,i2,hg];rfl
   refine⟨hlt,_,_,rfl,v,?_,kC.trans kD,?_⟩
   .rw[d_ hlt,qio];exact hv
   .simp only[Sq,aa,ak,g1]
  .have hin:i=Z more:=by omega
   subst hin;rw[dU]at hy;apply W.run 20
   .intro M;simp(disch:=decide+kernel)only[IX,rU,ye,Aq,aa,g1,g6,hlen];rfl
   apply W.run 40
   .intro M;simp(disch:=omega)only[rU,ye,Aq,aa,g5];rfl
   exact⟨by simp,rfl,_,(by simp only[ye,Aq,aa]<;>rfl),hy,kC⟩
 .simp only[Sq,aa,ak]
def Yt(d:mj):1<=(dE d).word.length/\(dE d).word.length<=9:=by
 unfold dE tE;rw[Mv];unfold sq;split
 .simp
 .rename_i h;have:(tW mR (List.take 9 d.ls)).length<=9:=by rw[bc,df];omega
  exact⟨je.2 h,this⟩
variable {ls:List (List I)}
def y5{e e':au}{n':Nat}{ls':List (List I)}{x:I}(h:aq A e n b ls x)(h':aq A e' n' b' ls' x')(h0:ls≠ [])(h0':ls'≠ [])(he:e≠e'):b≠b':=by
 rintro rfl;rcases h with⟨-,h⟩|⟨_,_,-,-,⟨_,h1,-⟩,-⟩
 .exact h0 h
 .rcases h' with⟨-,h⟩|⟨_,_,-,-,⟨_,h2,-⟩,-⟩
  .exact h0' h
  .rw[h1]at h2;injection h2 with h2;injection h2 with h2;exact he h2
variable {r:Nat}
def aq.JW{e e':au}{k:Kd}{x:I}(h:aq A e n b ls x)(hv:VB A e' r k l)(he:e≠e')(K:lv r A A'):aq A' e n b ls x:=by
 rcases h with h|⟨k',c,h1,h2,⟨cs,h3,h3'⟩,h4⟩
 .exact .inl h
 .refine .inr ⟨k',c,h1,c9 h2 K.1,⟨cs,?_,h3'⟩,h4⟩;rw[K.2 b h2 (λ e1=>?_)]
  .exact h3
  .obtain⟨cs',q,-⟩:=hv.2;rw[<-e1,h3]at q;injection q with q;injection q with q;exact he q
structure qi2 where
 ver:Nat
 next:Nat
 segs:List (Nat×Nat×Nat)
def cR(s:Nat×Nat×Nat):List I:=[.int .i64 s.1,.int .i64 s.2.1,.int .i64 s.2.2]
def ia(l:List Nat):List UInt8:=l.flatMap bL
def C6(n:Nat):List I:=[.int .u64 n]
def sT(A:Mem)(l:List Nat)(x:I):Prop:=∃b,aq A 113 1 b (l.map C6) x
def T9:O.aB 251=U (.slice 113):=by kernel_rfl
def qiD:bk O 113=.ok 1:=by kernel_rfl
def sT.kp{l:List Nat}{x:I}(h:sT A l x)(k:Kp A A'):sT A' l x:=by
 obtain⟨b,h⟩:=h;exact⟨b,h.same k.1 (k.2 b)⟩
def sT.len{l:List Nat}{x:I}(h:sT A l x):c_ O .len [251] [x]=.ok (iN (Z l)):=by
 obtain⟨b,h⟩:=h;have:=aq.len (tb:=O) h T9;rwa[bc]at this
def sT.at{l:List Nat}{x:I}(h:sT A l x)(hi:l[i]?=U n):∃p,eE O 251 x (.int .i64 i)=.ok p/\aj O A.get 113 p=.ok (.int .u64 n):=by
 obtain⟨b,h⟩:=h;have hl:i<(l.map C6).length:=by rw[bc];exact(bU.1 hi).1
 have hm:(l.map C6)[i]?=U (C6 n):=by rw[dN,hi];rfl
 refine⟨_,aq.idx h T9 qiD hl,?_⟩;have:=aq.load (tb:=O) (j:=0) h dH rfl hm rfl (by omega);rwa[eo]at this
def QK{l:List Nat}(h:l[i]?=U n):ia (l.take (i+1))=ia (l.take i)++bL n:=by
 obtain⟨hi,rfl⟩:=bU.1 h;unfold ia;rw[d_ hi,Bz];simp
theorem Kk:∀(l:List Nat),(∀n∈l,n<18446744073709551616)->(ia l).length<=9*Z l
 | [],_=>aI _
 |n::l,h=>by
  have h1:=pB n (h n cJ);have h2:=Kk l λ n hn=>h n (cV _ hn)
  unfold ia at h2⊢;rw[mr,aY,cD];omega
def jc(l:List aK):Nat:=(l.map (·.word.length)).sum
def mo(l:List aK):Prop:=l≠ []/\dk l/\(∀e∈l,1<=Z e.word/\Z e.word<=255/\e.weight<4294967296)/\(Z l<=100/\jc l<999)/\(dx l).length<10000/\dx l≠ []/\Lay (dx l)/\least l<18446744073709551616/\(ke l).length<800000
def fW(f:List UInt8×List UInt8):List I:=[ai f.1,ai f.2]
def pK(A:Mem)(l:List (List UInt8×List UInt8))(x:I):Prop:=∃b,aq A 94 2 b (l.map fW) x
def pK.kp{l:List (List UInt8×List UInt8)}{x:I}(h:pK A l x)(k:Kp A A'):pK A' l x:=by
 obtain⟨b,h⟩:=h;exact⟨b,h.same k.1 (k.2 b)⟩
def GP:O.aB 51=U (.slice 94):=by kernel_rfl
def z27:bk O 94=.ok 2:=by kernel_rfl
def qiL:fu O 94=.ok (2,[.string .empty,.string .empty]):=by kernel_rfl
def qiU:dj O 94=.ok (.agg ⟨[.string .empty,.string .empty]⟩):=by kernel_rfl
def qhU:∃i,O.ty.get 94=U i/\0<i.bytes/\i.bytes<=65536:=by
 have h:(O.ty.get 94).map (λ i=>aO 0 i.bytes&&av i.bytes 65536)=U ae:=by kernel_rfl
 cases hq:O.ty.get 94 with
 |none=>rw[hq]at h;cases h
 |some i=>
  rw[hq]at h;simp only[gX,fg,dW,bZ]at h;exact⟨i,rfl,h.1,gK h.2⟩
def pK.len{l:List (List UInt8×List UInt8)}{x:I}(h:pK A l x):c_ O .len [51] [x]=.ok (iN (Z l)):=by
 obtain⟨b,h⟩:=h;have:=aq.len (tb:=O) h GP;rwa[bc]at this
def Oi:bK O 94 (pw b o) 1=.ok (pw b (o+1)):=by kernel_rfl
def pK.at{l:List (List UInt8×List UInt8)}{x:I}{f:List UInt8×List UInt8}(h:pK A l x)(hi:l[i]?=U f):
 ∃b o,eE O 51 x (.int .i64 i)=.ok (pw b o)/\aj O A.get 94 (pw b o)=.ok (.agg ⟨fW f⟩)/\aj O A.get 9 (pw b o)=.ok (ai f.1)/\aj O A.get 9 (pw b (o+1))=.ok (ai f.2):=by
 obtain⟨b,h⟩:=h;have hl:i<(l.map fW).length:=by rw[bc];exact(bU.1 hi).1
 have hm:(l.map fW)[i]?=U (fW f):=by rw[dN,hi];rfl
 obtain⟨d,hd1,hd2⟩:=cF (t:=94) (p:=ae) (by kernel_rfl);refine⟨b,_,aq.idx h GP z27 hl,aq.cg h hd1 hd2 z27 hm,?_,aq.load (tb:=O) (j:=1) h u9 rfl hm rfl (by omega)⟩;have:=aq.load (tb:=O) (j:=0) h u9 rfl hm rfl (by omega);rwa[eo]at this
def Ju(f:List UInt8×List UInt8):∀v∈fW f,bS v=ae:=by
 intro v hv;simp only[fW,cG,eC,or_false]at hv;rcases hv with rfl|rfl<;>rfl
def MA{a b:List UInt8}:eu O 94 [(0,ai a),(1,ai b)]=.ok (.agg ⟨fW (a,b)⟩):=by kernel_rfl
def MS{f:List UInt8×List UInt8}:eO O 51 1 [(0,.agg ⟨fW f⟩)]=.ok (af 94 (fW f),.dZ 1 2):=by kernel_rfl
def U8{D:Mem}{l:List (List UInt8×List UInt8)}{x:I}{f:List UInt8×List UInt8}(h:aq D 94 2 b (l.map fW) x)(hl:Z l<1000):
 ∃x' D',dJ O (D.alloc (af 94 (fW f))) 51 51 x (.slice (U ⟨D.next,0,V⟩) 1 2)=.ok (x',D')/\aq D' 94 2 (D.next+1) ((l++[f]).map fW) x'/\D'.next=D.next+2/\∀z,(z=b->x=.slice V 0 0)->z<D.next->D'.get z=D.get z:=by
 obtain⟨i,t1,t2,t3⟩:=qhU;have h':aq (D.alloc (af 94 (fW f))) 94 2 b (l.map fW) x:=h.same (by rw[aG];omega) λ hh=>cY (by omega)
 obtain⟨x',D',h1,h2,h3,h4⟩:=aq.append (tb:=O) (st:=51) (xt:=51) h' GP GP qiL t1 t2 t3 (by omega) (by omega) (by rw[bc];omega) (de D _) rfl (Ju f);rw[aG]at h2 h3 h4;exact⟨x',D',h1,by rw[gg];exact h2,by omega,λ z hz hzn=>by rw[h4 z hz (by omega),cY (by omega)]⟩
def MD{a b c:Int}:eu O 36 [(0,.int .i64 a),(1,.int .i64 b),(2,.int .i64 c)]=.ok (.agg ⟨[.int .i64 a,.int .i64 b,.int .i64 c]⟩):=by kernel_rfl
def sb(st e n:Nat):Bool:=
 (match O.aB st with
 |some (.slice e')=>aL e' e
 |_=>ag)&&(match fu O e,bk O e,O.ty.get e with
 |.ok (m,_),.ok m',U i=>aL m n&&(aL m' n&&(aO 0 i.bytes&&av i.bytes 65536))
 |_,_,_=>ag)&&(aO 0 n&&aO n 65536)
def mW{st e n:Nat}(h:sb st e n=ae):O.aB st=U (.slice e)/\(∃z,fu O e=.ok (n,z))/\bk O e=.ok n/\(∃i,O.ty.get e=U i/\0<i.bytes/\i.bytes<=65536)/\0<n/\n<65536:=by
 unfold sb at h;simp only[dW,bZ]at h;obtain⟨⟨h1,h2⟩,h3⟩:=h;split at h1
 .rename_i e' he;split at h2
  .rename_i m z m' i hz hs hi;simp only[dW,bZ,qp,sS]at h1 h2;obtain⟨rfl,rfl,h4,h5⟩:=h2;subst h1;exact⟨he,⟨z,hz⟩,hs,⟨i,hi,h4,h5⟩,h3⟩
  .cases h2
 .cases h1
section
variable {st e n b:Nat}{A D:Mem}{ls:List (List I)}{x:I}(ht:sb st e n=ae)
include ht
def y4(h:aq A e n b ls x):c_ O .len [st] [x]=.ok (iN (Z ls)):=aq.len h (mW ht).1
def xx(h:aq A e n b ls x)(hi:i<Z ls):eE O st x (.int .i64 i)=.ok (pw b (i*n)):=aq.idx h (mW ht).1 (mW ht).2.2.1 hi
def Gx{r:List I}(h:aq D e n b ls x)(hl:Z ls<1000000)(hr:Z r=n)(h1:∀v∈r,bS v=ae):
 ∃x' D',dJ O (D.alloc (af e r)) st st x (.slice (U ⟨D.next,0,V⟩) 1 2)=.ok (x',D')/\aq D' e n (D.next+1) (ls++[r]) x'/\D'.next=D.next+2/\∀z,z≠b->z<D.next->D'.get z=D.get z:=by
 obtain⟨hu,⟨z,hz⟩,hs,⟨i,t1,t2,t3⟩,n0,n1⟩:=mW ht;have h':aq (D.alloc (af e r)) e n b ls x:=h.same (by rw[aG];omega) λ hh=>cY (by omega)
 obtain⟨x',D',g1,g2,g3,g4⟩:=aq.append (tb:=O) (st:=st) (xt:=st) h' hu hu hz t1 t2 t3 n0 n1 (by omega) (de D _) hr h1;rw[aG]at g2 g3 g4;exact⟨x',D',g1,g2,by omega,λ z hz hzn=>by rw[g4 z (λ hh=>aU hh hz) (by omega),cY (by omega)]⟩
end
def aq.first{A:Mem}{e n b:Nat}{ls:List (List I)}{x:I}(h:aq A e n b ls x):gj x=.ok (Z ls)/\jJ A.get n (Z ls) x=.ok ls.flatten/\∀l∈ls,Z l=n:=by
 rcases h with⟨rfl,rfl⟩|⟨k,c,rfl,h2,h3,h4,-⟩
 .exact⟨rfl,by simp[jJ,gh],λ l hl=>by cases hl⟩
 .exact⟨rfl,wH h3 (ju h4),h4⟩
def Ld{st e n b:Nat}{D:Mem}{ls:List (List I)}{x:I}(ht:sb st e n=ae)(h:aq D e n b ls x)(hl:Z ls<1000000)(h1:∀l∈ls,∀v∈l,bS v=ae):
 ∃x' D' b',dJ O (D.alloc (af e [])) st st (.slice (U ⟨D.next,0,V⟩) 0 0) x=.ok (x',D')/\aq D' e n b' ls x'/\D.next<D'.next/\D.next<=b'/\Kp D D'/\b'<D'.next:=by
 obtain⟨hu,⟨z,hz⟩,hs,⟨i,t1,t2,t3⟩,n0,n1⟩:=mW ht;have k:=Kp.alloc D (af e []);have nE:(D.alloc (af e [])).next=D.next+1:=aG _ _
 have h0:aq (D.alloc (af e [])) e n D.next [] (.slice (U ⟨D.next,0,V⟩) 0 0):=.inr ⟨.var 0,0,rfl,by omega,oQ (k:=.var 0) (de D (af e [])),λ l hl=>aU hl eC,.inl rfl⟩
 obtain⟨f1,f2,f3⟩:=aq.first (h.same (A':=D.alloc (af e [])) k.1 (k.2 b))
 obtain⟨x',D',b',g1,g2,g3,g4,g5⟩:=aq.wi (tb:=O) (st:=st) (xt:=st) h0 hu hu rfl hz t1 t2 t3 n0 n1 (by simp;omega) f1 f2 rfl f3 λ v hv=>by
  obtain⟨l,hl,hv⟩:=List.mem_flatten.1 hv;exact h1 l hl v hv
 have kk:Kp D D':=⟨by omega,λ z hz=>by rw[g5 z (λ hh=>by omega) (by omega),k.2 z hz]⟩;rcases g2 with⟨hx,hls⟩|⟨k',c',q1,q2,q3⟩
 .exact⟨x',D',D.next,g1,.inl ⟨hx,hls⟩,by omega,aI _,kk,by omega⟩
 .exact⟨x',D',b',g1,.inr ⟨k',c',q1,q2,q3⟩,by omega,by omega,kk,q2⟩
end Go.Proofs.YtjoceidiioppiaaGreatDoor.sto
end
