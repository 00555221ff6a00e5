/- The abstract machine, the walk of the law and its plain laws, made small by a program; part 5: no conditions but those in each theorem. -/
import Derived.Test.YtdobfpkceacneaaGreatDoorQ04
set_option maxHeartbeats 16000000
set_option maxRecDepth 100000
set_option linter.unusedSimpArgs false
set_option linter.unusedVariables false
set_option linter.defProp false
noncomputable section
open Bool renaming and_eq_true→dz,false_eq_true→ed,or_eq_false_iff→Bs,or_eq_true→D7,false→af,true→aa
open Classical renaming byContradiction→xT
open Go renaming Code→aH,IntKind→cY,Operand→bA,TypeId→aj,Value→O
open List renaming append_assoc→jD,cons_append→ij,drop_drop→He,drop_eq_getElem_cons→nb,drop_zero→vZ,exists_cons_of_ne_nil→Hh,filter_append→Hj,filter_cons→kS,filter_eq_self→Bw,findIdx?_eq_none_iff→Hk,flatMap_append→zL,flatMap_cons→j',flatten_cons→s9,foldl_append→zM,foldl_cons→mG,getElem?_append_left→eG,getElem?_append_right→ez,getElem?_cons_succ→dU,getElem?_cons_zero→dX,getElem?_drop→rz,getElem?_eq_getElem→aV,getElem?_eq_none→lW,getElem?_eq_some_iff→bg,getElem?_map→da,getElem?_take→oz,getElem_map→v_,getElem_mem→ik,length→Z,length_append→aU,length_cons→cd,length_drop→qx,length_eq_zero_iff→eQ,length_filter_le→By,length_map→aR,length_nil→dL,length_pos_iff→iG,length_singleton→fg,length_take→db,map→ya,map_append→fY,map_cons→eU,mem_append→mI,mem_cons→cC,mem_cons_of_mem→cU,mem_cons_self→cM,mem_flatten→Hq,mem_map→dA,mem_of_getElem?→fh,mem_singleton→ee,nil_append→lX,nodup_cons→zQ,not_mem_nil→en,pairwise_iff_getElem→ue,range→jE,takeWhile_cons→BE,take_append_drop→s_,take_length→dY,take_of_length_le→ug,take_succ_cons→Ee,take_succ_eq_append_getElem→eH,take_take→zS
open Nat renaming add_assoc→rG,add_comm→ye,add_mul→oZ,add_sub_cancel→zW,add_zero→dN,beq→aL,beq_eq→pS,beq_refl→uj,ble→au,ble_eq→pT,blt→aM,blt_eq→bT,eq_of_beq_eq_true→dZ,le_of_ble_eq_true→fQ,le_refl→aJ,lt_irrefl→gY,lt_of_lt_of_le→dc,lt_or_ge→d_,min_eq_left→oA,min_le_left→Eh,min_le_right→Hu,mod_eq_of_lt→rH,mod_lt→iU,mul_mod_right→Ej,mul_one→nf,reduceAdd→ak,reduceEqDiff→V,strongRecOn→yi,sub_add_cancel→wh,sub_zero→iV,zero_add→dO,zero_le→a6,zero_mul→oB
open Option renaming getD_some→td,map_none→Hz,map_some→fZ,none→Y,some→U
open Option.some renaming inj→je,injEq→eM
open Go.Proofs.Tryz renaming f123→o0,f124→lY,f199→uv,f207→mN,f263→BV,f264→np,f280→rM,f281→uw,f290→tq,f291→Ac,f295→Ad,f298→wu,f303→wv,f67→yG,f68→wB
open UInt8 renaming lt_iff_toNat_lt→BY,ofNat→lZ,toNat_inj→yI,toNat_ofNat'→HK
namespace Go.Proofs.YtdobfpkceacneaaGreatDoor.sto
open Go.Am Go.Mdl Go.Sto Go.Shelf
def qjO:cX I 44=.ok (.agg ⟨[.string .empty,.int .u32 0,.bool af]⟩):=by kernel_rfl
def Bu(A:Mem)(b:Nat)(l:List aD)(x:O):Prop:=ai A 44 3 b (l.map aS) x
variable {A A':Mem}{b:Nat}
def Bu.kp{l:List aD}{x:O}(h:Bu A b l x)(k:Kp A A'):Bu A' b l x:=ai.same h k.1 (k.2 b)
def m9(A:Mem)(ls:List UInt8)(x:O):Prop:=
 (x=.slice Y 0 0/\ls=[])\/(x=uI/\ls=[])\/∃q off cp,x=.slice (U ⟨q,off,Y⟩) (Z ls) cp/\(ls=[]\/(q<A.next/\∃t kd fz c,A.get q=U (.cells t kd (fz+1) c)/\∀(i:Nat) (b:UInt8),ls[i]?=U b->c.get (off+i)=U (bN b.toNat)))
def qhn:aY I 5=.ok 1:=by kernel_rfl
def Z9:Ob->Prop
 |.cells _ _ (_+1) _=>True
 |.loop _=>True
 |.defd=>True
 |_=>False
def ud(A:Mem)(z:Nat):Prop:=z<A.next/\∃o,A.get z=U o/\Z9 o
def Hd(A A':Mem):Prop:=A.next<=A'.next/\∀z,ud A z->A'.get z=A.get z
def Kp.f(k:Kp A A'):Hd A A':=⟨k.1,λ z h=>k.2 z h.1⟩
def m9.kf{ls:List UInt8}{x:O}(h:m9 A ls x)(k:Hd A A'):m9 A' ls x:=by
 rcases h with h|h|⟨q,off,cp,h1,h2⟩
 .exact .inl h
 .exact .inr (.inl h)
 .refine .inr (.inr ⟨q,off,cp,h1,?_⟩);rcases h2 with h2|⟨h2,t,kd,fz,c,h3,h4⟩
  .exact .inl h2
  .exact .inr ⟨dc h2 k.1,t,kd,fz,c,by rw[k.2 _ ⟨h2,_,h3,trivial⟩];exact h3,h4⟩
def m9.kp{ls:List UInt8}{x:O}(h:m9 A ls x)(k:Kp A A'):m9 A' ls x:=h.kf k.f
def m9.len{ls:List UInt8}{x:O}(h:m9 A ls x):cQ I .len [123] [x]=.ok (iN (Z ls)):=by
 rcases h with⟨rfl,rfl⟩|⟨rfl,rfl⟩|⟨q,off,cp,rfl,-⟩
 .exact jY j_
 .kernel_rfl
 .exact jY j_
variable {i:Nat}
def m9.at{ls:List UInt8}{x:O}(h:m9 A ls x){b:UInt8}(hi:ls[i]?=U b):
 ∃p,dQ I 123 x (.int .i64 i)=.ok (.pointer (U p))/\ax I A.get 5 (.pointer (U p))=.ok (bN b.toNat):=by
 rcases h with⟨-,rfl⟩|⟨-,rfl⟩|⟨q,off,cp,rfl,h2⟩
 .simp at hi
 .simp at hi
 .rcases h2 with rfl|⟨h2,t,kd,fz,c,h3,h4⟩
  .simp at hi
  .have hlt:=(bg.1 hi).1;have hb:aM i (Z ls)=aa:=by rw[bT];exact hlt
   have hn:iC (.int .i64 i)=.ok i:=rfl;refine⟨⟨q,off+i*1,Y⟩,?_,?_⟩
   .unfold dQ;simp only[hn,j_,hb,aI,qhn,R.aT,fi]
   .unfold ax;have hg:=h4 i b hi;have hag:cW (.int .u8)=af:=rfl;simp only[h3,u5,hag,ba,nf,hg]
def mU(c:UInt8):UInt8:=if c.toNat % 8<7 then lZ (97+c.toNat % 8 % 3)else c
def vu(ls:List UInt8):List UInt8:=if(ls.take 9).map mU=[]then [97]else(ls.take 9).map mU
def qbB(c:UInt8):(mU c).toNat=if c.toNat % 8<7 then 97+c.toNat % 8 % 3 else c.toNat:=by
 unfold mU;split
 .rw[HK];omega
 .rfl
def qcV{q:Nat}{b:UInt8}(h:A.get q=U (ae 5 [bN b.toNat])):gN I A.get 123 9 (.slice (U ⟨q,0,Y⟩) 1 2)=.ok (ag [b]):=by
 have hb:D8 A q 5 (.var 1) [b]:=⟨_,h,λ i hi=>by
  have hi0:i=0:=by simp at hi;exact hi
  subst hi0;rfl⟩
 exact TG j_ u9 u5 hb
def qc4{a:Nat}(h:a+b<256):bj .add .u8 (a:Int) (b:Int)=.ok (bN (a+b)):=by
 show R.ok (Value.int .u8 (eP .u8 ((a+b:Nat):Int)))=_;rw[DW,rH h]
variable {o:Nat}
def Fl:bM I 205 (pw b o) 0=.ok (pw b o):=by kernel_rfl
def Zv:bM I 205 (pw b o) 1=.ok (pw b (o+1)):=by kernel_rfl
def Zw:bM I 205 (pw b o) 2=.ok (pw b (o+2)):=by kernel_rfl
def iJ:=cg lY
def jo:aH:=sub iJ [1,1,0,1,0,0]
def Xl:lY.body=U (.seq (sub iJ [0]) (.seq (sub iJ [1,0]) (.seq (.seq (sub iJ [1,1,0,0]) (.block 0 (.loop jo))) (.seq (sub iJ [1,1,1,0]) (.seq (sub iJ [1,1,1,1,0]) (sub iJ [1,1,1,1,1])))))):=by kernel_rfl
def MZ:jo=.seq (.seq (sub jo [0,0]) (sub jo [0,1])) (.seq (.block 1 (.seq (sub jo [1,0,0,0]) (.seq (sub jo [1,0,0,1,0]) (sub jo [1,0,0,1,1])))) (sub jo [1,1])):=by kernel_rfl
def sm(q:Nat)(w:List UInt8)(i:Nat):List (Nat×O):=[(1,pw q 0),(2,pw (q+1) 0),(3,ag w),(4,.int .i64 i)]
variable {C:Mem}{w:List UInt8}{t:T O}
def Y0{q:Nat}{ls:List UInt8}{xl:O}{K:Ex->St->Prop}{wt:Int}{g:Bool}(hx:m9 C ls xl)(hv:de C 205 q (.var 3) [xl,.int .u32 wt,.bool g]){b:UInt8}(hb:ls[i]?=U b)(hw:Z w=i)(hi:i<9)(ht:Sl t (sm q w i))
 (hK:∀t',Sl t' (sm q (w++[mU b]) i)->K .nrm ⟨t',43,[],C.alloc (ae 5 [bN ((mU b).toNat)]),Y⟩):
 W I (.seq (sub jo [1,0,0,0]) (.seq (sub jo [1,0,0,1,0]) (sub jo [1,0,0,1,1]))) ⟨t,43,[],C,Y⟩ K:=by
 obtain⟨g1,g2,g3,g4,-⟩:=ht;obtain⟨p,a1,a2⟩:=hx.at hb;have hl:ax I C.get 123 (pw q 0)=.ok xl:=c7 j_ rfl hv rfl;have hlt:=MP b;have hnat:=qbB b;have hadd:=DG (b:=[mU b]) (by rw[hw];show i+1<_;omega);have hs:=qcV (cR C (ae 5 [bN ((mU b).toNat)]));apply W.q
 .intro M;simp(disch:=omega)only[jo,iJ,lY,Aq,V,g1,g4,Fl,hl,a1,a2];rfl
 apply W.seq;by_cases h7:b.toNat % 8<7
 .rw[aC h7]at hnat;apply W.run 20
  .intro M;simp(disch:=first|decide+kernel|omega)only[jo,iJ,lY,Aq,V,h7,qc4];rfl
  rw[<-hnat];apply W.run 20
  .intro M;simp(disch:=decide+kernel)only[jo,iJ,lY,Aq,V,g3,Co,uB,Ki _ _ _ _ _ _ _ _ _ _ j_ u9,hs,hadd];rfl
  refine hK _ ?_;unfold sm;simp only[Sq,V,ak,g1,g2,g4]
 .rw[aq h7]at hnat;apply W.run 20
  .intro M;simp(disch:=decide+kernel)only[jo,iJ,lY,Aq,V,h7];rfl
  rw[<-hnat];apply W.run 20
  .intro M;simp(disch:=decide+kernel)only[jo,iJ,lY,Aq,V,g3,Co,uB,Ki _ _ _ _ _ _ _ _ _ _ j_ u9,hs,hadd];rfl
  refine hK _ ?_;unfold sm;simp only[Sq,V,ak,g1,g2,g4]
def Te:aY I 205=.ok 3:=by kernel_rfl
def qij{ls:List UInt8}{b:UInt8}(h:ls[i]?=U b):(ls.take (i+1)).map mU=(ls.take i).map mU++[mU b]:=by
 obtain⟨hlt,rfl⟩:=bg.1 h;rw[eH hlt,fY];rfl
def uJ(ls:List UInt8)(wt:Nat)(g:Bool):aD:=bare ⟨vu ls,wt,g⟩
def Wi{wt:Nat}{g:Bool}:ef I 44 [(0,ag w),(1,.int .u32 wt),(2,.bool g)]=.ok (.agg ⟨aS ⟨w,wt,g⟩⟩):=by kernel_rfl
def qe9{ls:List UInt8}{xl:O}{wt:Nat}{g:Bool}(hx:m9 A ls xl):
 ∃A',az I 124 [.agg ⟨[xl,.int .u32 wt,.bool g]⟩] A (.agg ⟨aS (uJ ls wt g)⟩) A'/\Kp A A':=by
 obtain⟨v,A',hg,rfl,hk⟩:∃v A',az I 124 [.agg ⟨[xl,.int .u32 wt,.bool g]⟩] A v A'/\v=.agg ⟨aS (uJ ls wt g)⟩/\Kp A A':=by
  refine mc (aN Tryz.func124) Xl (by rw[Tryz.ntmps124];simp) (by kernel_rfl) (by kernel_rfl) ?_;obtain⟨d67,hd1,hd2⟩:=b9 (by kernel_rfl);have hv0:de ((A.alloc (ae 205 [xl,.int .u32 wt,.bool g])).alloc (ae 44 [.string .empty,.int .u32 0,.bool af])) 205 A.next (.var 3) [xl,.int .u32 wt,.bool g]:=(og (cR _ _)).same (c9 (by rw[aA];omega))
  have hz0:de ((A.alloc (ae 205 [xl,.int .u32 wt,.bool g])).alloc (ae 44 [.string .empty,.int .u32 0,.bool af])) 44 (A.next+1) (.var 3) [.string .empty,.int .u32 0,.bool af]:=og (cR _ _);have hk0:Kp A ((A.alloc (ae 205 [xl,.int .u32 wt,.bool g])).alloc (ae 44 [.string .empty,.int .u32 0,.bool af])):=(Kp.alloc _ _).trans (Kp.alloc _ _);have hn0:((A.alloc (ae 205 [xl,.int .u32 wt,.bool g])).alloc (ae 44 [.string .empty,.int .u32 0,.bool af])).next=A.next+2:=rfl
  apply W.q
  .intro M;simp(disch:=omega)only[iJ,lY,Aq,V,qjO,aX,aA];rfl
  generalize (A.alloc (ae 205 [xl,.int .u32 wt,.bool g])).alloc (ae 44 [.string .empty,.int .u32 0,.bool af])=B at hv0 hz0 hk0 hn0;apply W.q
  .intro M;simp(disch:=omega)only[iJ,lY,Aq,V];rfl
  apply W.seq;apply W.q
  .intro M;simp(disch:=omega)only[iJ,lY,Aq,V];rfl
  apply W.block;have hmin:min (Z ls) 9<=Z ls/\min (Z ls) 9<=9:=⟨Eh _ _,Hu _ _⟩;have hmin2:min (Z ls) 9=Z ls\/min (Z ls) 9=9:=by omega
  refine W.up (min (Z ls) 9) (λ i t C=>Kp B C/\Sl t (sm A.next ((ls.take i).map mU) i)) ?_ (a6 _) ⟨Kp.refl _,?_⟩
  .rintro i t C hi ⟨hk,g1,g2,g3,g4,-⟩;have hxC:=hx.kp (hk0.trans hk);have hvC:=hv0.same (hk.2 _ (by omega));have hl:ax I C.get 123 (pw A.next 0)=.ok xl:=c7 j_ rfl hvC rfl;have hlen:=hxC.len;by_cases hlt:i<min (Z ls) 9
   .have h1:i<Z ls:=by omega
    have h2:i<9:=by omega
    have hb:=aV h1;rw[MZ];apply W.q
    .intro M;simp(disch:=first|decide+kernel|omega|simp only[Wq,V])only[jo,iJ,lY,Aq,au,reduceIte,V,ak,g1,g4,Fl,hl,hlen,h1,h2];rfl
    apply W.seq;apply W.block;refine Y0 (w:=(ls.take i).map mU) hxC hvC hb (by rw[aR,db];omega) h2 (by unfold sm;simp only[Sq,V,ak,g1,g2,g3,g4]) λ t' ht'=>?_
    obtain⟨f1,f2,f3,f4,-⟩:=ht';apply W.run 20
    .intro M;simp(disch:=first|decide+kernel|omega)only[jo,iJ,lY,Aq,V,f4];rfl
    refine⟨hlt,_,_,rfl,hk.trans (Kp.alloc _ _),?_⟩;rw[qij hb];unfold sm;simp only[Sq,V,ak,f1,f2,f3]
   .have hin:i=min (Z ls) 9:=by omega
    have htk:(ls.take i)=ls.take 9:=by
     rcases hmin2 with h|h
     .rw[hin,h,dY,ug (by omega)]
     .rw[hin,h]
    rw[htk]at g3;have hex:W I (.seq (sub jo [0,0]) (sub jo [0,1])) ⟨t,43,[],C,Y⟩ (λ e s'=>∃t',e=.exit 0/\s'=⟨t',43,[],C,Y⟩/\Sl t' (sm A.next ((ls.take 9).map mU) i)):=by
     by_cases h1:i<Z ls
     .have h2:¬i<9:=by omega
      apply W.run 20
      .intro M;simp(disch:=first|decide+kernel|omega|simp only[Wq,V])only[jo,iJ,lY,Aq,au,reduceIte,V,ak,g1,g4,Fl,hl,hlen,h1,h2];rfl
      refine⟨_,rfl,rfl,?_⟩;unfold sm;simp only[Sq,V,ak,g1,g2,g3,g4]
     .apply W.run 20
      .intro M;simp(disch:=first|decide+kernel|omega|simp only[Wq,V])only[jo,iJ,lY,Aq,au,reduceIte,V,ak,g1,g4,Fl,hl,hlen,h1];rfl
      refine⟨_,rfl,rfl,?_⟩;unfold sm;simp only[Sq,V,ak,g1,g2,g3,g4]
    rw[MZ];apply W.seq;refine hex.mono ?_;rintro e s' ⟨t',rfl,rfl,f1,f2,f3,f4,-⟩;apply W.seq;have hw:W I (sub iJ [1,1,1,0]) ⟨t',43,[],C,Y⟩ (λ e s'=>∃t2,e=.nrm/\s'=⟨t2,43,[],C,Y⟩/\Sl t2 [(1,pw A.next 0),(2,pw (A.next+1) 0),(3,ag (vu ls))]):=by
     by_cases h0:(ls.take 9).map mU=[]
     .have hwd:vu ls=[97]:=by unfold vu;rw[aC h0]
      have f3':t'.get 3=U (ag []):=by rw[f3,h0]
      apply W.run 20
      .intro M;simp(disch:=decide+kernel)only[iJ,lY,Aq,V,f3'];rfl
      refine⟨_,rfl,rfl,?_⟩;rw[hwd];simp only[Sq,V,ak,f1,f2]
     .have hwd:vu ls=(ls.take 9).map mU:=by unfold vu;rw[aq h0]
      rw[<-hwd]at f3 h0;apply W.run 20
      .intro M;simp(disch:=decide+kernel)only[iJ,lY,Aq,V,f3,h0];rfl
      refine⟨_,rfl,rfl,?_⟩;simp only[Sq,V,ak,f1,f2,f3]
    refine hw.mono ?_;rintro e s' ⟨t2,rfl,rfl,f1,f2,f3,-⟩;apply W.seq;have l1:ax I C.get 42 (pw A.next (0+1))=.ok (.int .u32 wt):=c7 Bh rfl hvC rfl;have l2:ax I C.get 4 (pw A.next (0+2))=.ok (.bool g):=c7 u4 rfl hvC rfl;have hgb:=λ ih=>Py (ih:=ih) (A:=C) (e:=⟨vu ls,wt,g⟩)
    have hzD:=hz0.same (hk.2 _ (by omega));obtain⟨C2,s2,v2,n2,k2⟩:=ja (tb:=I) (t:=44) (l:=[.string .empty,.int .u32 0,.bool af]) (l':=aS (uJ ls wt g)) jd hzD rfl (by simp) (wX _);have hl2:=bU hd1 hd2 jd v2;have hk1:=hk0.trans hk;unfold uJ at s2 hl2⊢;apply W.run 20
    .intro M;simp(disch:=omega)only[iJ,lY,Aq,V,f1,f2,f3,Zv,Zw,l1,l2,Wi,hgb,s2];rfl
    apply W.run 20
    .intro M;simp only[iJ,lY,Aq,V];rfl
    refine⟨.inr rfl,C2,[.agg ⟨aS (bare ⟨vu ls,wt,g⟩)⟩],rfl,?_,rfl,?_⟩
    .simp only[lY,eC,sA,T.cq,V,bR,bO,sq,R.aT,f2,hl2]
    .exact⟨by rw[n2];exact hk1.1,λ z hz=>by rw[k2 z (by omega),hk1.2 z hz]⟩
  .unfold sm;simp only[Sq,V,ak];rfl
 exact⟨A',hg,hk⟩
structure gJ where
 xl:O
 ls:List UInt8
 wt:Nat
 gone:Bool
def NA(d:gJ):O:=.agg ⟨[d.xl,.int .u32 d.wt,.bool d.gone]⟩
def ot(A:Mem)(ds:List gJ)(x:O):Prop:=
 (x=.slice Y 0 0/\ds=[])\/(x=uI/\ds=[])\/∃q off cp,x=.slice (U ⟨q,off,Y⟩) (Z ds) cp/\(ds=[]\/(q<A.next/\∃t kd fz c,A.get q=U (.cells t kd (fz+1) c)/\
  ∀(i:Nat) (d:gJ),ds[i]?=U d->c.get (off+i*3)=U d.xl/\c.get (off+i*3+1)=U (.int .u32 d.wt)/\c.get (off+i*3+2)=U (.bool d.gone)/\m9 A d.ls d.xl))
def Lr:I.aB 64=U (.slice 205):=by kernel_rfl
variable {ds:List gJ}
def ot.kf{x:O}(h:ot A ds x)(k:Hd A A'):ot A' ds x:=by
 rcases h with h|h|⟨q,off,cp,h1,h2⟩
 .exact .inl h
 .exact .inr (.inl h)
 .refine .inr (.inr ⟨q,off,cp,h1,?_⟩);rcases h2 with h2|⟨h2,t,kd,fz,c,h3,h4⟩
  .exact .inl h2
  .exact .inr ⟨dc h2 k.1,t,kd,fz,c,by rw[k.2 _ ⟨h2,_,h3,trivial⟩];exact h3,λ i d hd=>⟨(h4 i d hd).1,(h4 i d hd).2.1,(h4 i d hd).2.2.1,(h4 i d hd).2.2.2.kf k⟩⟩
def ot.kp{x:O}(h:ot A ds x)(k:Kp A A'):ot A' ds x:=h.kf k.f
def ot.len{x:O}(h:ot A ds x):cQ I .len [64] [x]=.ok (iN (Z ds)):=by
 rcases h with⟨rfl,rfl⟩|⟨rfl,rfl⟩|⟨q,off,cp,rfl,-⟩
 .exact jY Lr
 .kernel_rfl
 .exact jY Lr
def ot.at{x:O}(h:ot A ds x){d:gJ}(hi:ds[i]?=U d):
 (∃p,dQ I 64 x (.int .i64 i)=.ok (.pointer (U p))/\ax I A.get 205 (.pointer (U p))=.ok (NA d))/\m9 A d.ls d.xl:=by
 rcases h with⟨-,rfl⟩|⟨-,rfl⟩|⟨q,off,cp,rfl,h2⟩
 .simp at hi
 .simp at hi
 .rcases h2 with rfl|⟨h2,t,kd,fz,c,h3,h4⟩
  .simp at hi
  .obtain⟨c0,c1,c2,hby⟩:=h4 i d hi;obtain⟨d26,hd1,hd2⟩:=b9 (t:=205) (p:=aa) (by kernel_rfl);have hlt:=(bg.1 hi).1;have hb:aM i (Z ds)=aa:=by rw[bT];exact hlt
   have hn:iC (.int .i64 i)=.ok i:=rfl;refine⟨⟨⟨q,off+i*3,Y⟩,?_,?_⟩,hby⟩
   .unfold dQ;simp only[hn,Lr,hb,aI,Te,R.aT,fi]
   .have hgs:c.iX 3 (off+i*3)=U [d.xl,.int .u32 d.wt,.bool d.gone]:=oP _ _ _ _ rfl λ j hj=>by
     have:j=0\/j=1\/j=2:=by omega
     rcases this with rfl|rfl|rfl
     .exact c0
     .exact c1
     .exact c2
    unfold ax;simp only[h3,hd1,hd2,aI,Te,R.aT,hgs];rfl
def dE(d:gJ):aD:=uJ d.ls d.wt d.gone
def qR:=cg wB
def CA:aH:=sub qR [1,1,0,1,0,0]
def X3:wB.body=U (.seq (sub qR [0]) (.seq (sub qR [1,0]) (.seq (.seq (sub qR [1,1,0,0]) (.block 0 (.loop CA))) (.seq (sub qR [1,1,1,0]) (sub qR [1,1,1,1]))))):=by kernel_rfl
variable {n:Nat}
def qe8{x:O}(h:ot A ds x)(hn:n<=1000):
 ∃y A',az I 68 [x,iN n] A y A'/\dK A' ((ds.take n).map dE) y/\Kp A A':=by
 obtain⟨v,A',hg,he,hk⟩:∃v A',az I 68 [x,iN n] A v A'/\dK A' ((ds.take n).map dE) v/\Kp A A':=by
  refine mc (aN Tryz.func68) X3 (by rw[Tryz.ntmps68];simp) (by kernel_rfl) (by kernel_rfl) ?_;apply W.q2
  .intro M _;simp(disch:=omega)only[qR,wB,Aq,V];rfl
  apply W.seq;apply W.q
  .intro M;simp(disch:=omega)only[qR,wB,Aq,V];rfl
  apply W.block;have hmin:min (Z ds) n<=Z ds/\min (Z ds) n<=n:=⟨Eh _ _,Hu _ _⟩;have hmin2:min (Z ds) n=Z ds\/min (Z ds) n=n:=by omega
  refine W.up (min (Z ds) n) (λ i t C=>∃bo xo,Bu C bo ((ds.take i).map dE) xo/\A.next<=bo/\Kp A C/\Sl t [(0,x),(1,iN n),(5,xo),(6,.int .i64 i)]) ?_ (a6 _) ⟨A.next,.slice Y 0 0,.inl ⟨rfl,rfl⟩,aJ _,Kp.refl _,?_⟩
  .rintro i t C hi ⟨bo,xo,ho,hbo,hk,g0,g1,g5,g6,-⟩;have hC:=h.kp hk;have hlen:=hC.len;by_cases hlt:i<min (Z ds) n
   .have h1:i<Z ds:=by omega
    have h2:i<n:=by omega
    have hd:=aV h1;obtain⟨⟨p,a1,a2⟩,hby⟩:=hC.at hd;obtain⟨C1,⟨g,hg⟩,k1⟩:=qe9 (wt:=ds[i].wt) (g:=ds[i].gone) hby;obtain⟨x',C2,happ,w2,n2,k2⟩:=Eu (e:=dE ds[i]) (Bu.kp ho k1) (by rw[aR,db];omega);have hbe:eo I 40 1 [(0,.agg ⟨aS (uJ ds[i].ls ds[i].wt ds[i].gone)⟩)]=.ok (ae 44 (aS (dE ds[i])),.dy 1 2):=wK;unfold NA at a2;apply W.ct (g) 20
    .intro M hM;simp(config:={maxSteps:=4000000})(disch:=first|decide+kernel|omega|simp only[Wq,V])only[CA,qR,wB,Aq,au,reduceIte,V,ak,g0,g1,g5,g6,hlen,h1,h2,a1,a2,hg,hbe,uB,happ];rfl
    have hkA:=hk.trans k1;refine⟨hlt,_,_,rfl,C1.next+1,x',?_,?_,⟨by rw[n2];have:=hkA.1;omega,λ z hz=>?_⟩,?_⟩
    .rw[eH h1,fY];exact w2
    .have:=hkA.1;omega
    .rw[k2 z (λ e=>by omega) (by have:=hkA.1;omega),hkA.2 z hz]
    .simp only[Sq,V,ak,g0,g1]
   .have hin:i=min (Z ds) n:=by omega
    have htk:ds.take i=ds.take n:=by
     rcases hmin2 with h|h
     .rw[hin,h,dY,ug (by omega)]
     .rw[hin,h]
    rw[htk]at ho;have hex:W I CA ⟨t,27,[],C,Y⟩ (λ e s'=>∃t',e=.exit 0/\s'=⟨t',27,[],C,Y⟩/\Sl t' [(5,xo)]):=by
     by_cases h1:i<Z ds
     .have h2:¬i<n:=by omega
      apply W.run 20
      .intro M;simp(disch:=first|decide+kernel|omega|simp only[Wq,V])only[CA,qR,wB,Aq,au,reduceIte,V,ak,g0,g1,g5,g6,hlen,h1,h2];rfl
      refine⟨_,rfl,rfl,?_⟩;simp only[Sq,V,ak,g5]
     .apply W.run 20
      .intro M;simp(disch:=first|decide+kernel|omega|simp only[Wq,V])only[CA,qR,wB,Aq,au,reduceIte,V,ak,g0,g1,g5,g6,hlen,h1];rfl
      refine⟨_,rfl,rfl,?_⟩;simp only[Sq,V,ak,g5]
    refine hex.mono ?_;rintro e s' ⟨t',rfl,rfl,f5,-⟩;apply W.run 40
    .intro M;simp(disch:=omega)only[qR,wB,Aq,V,f5];rfl
    refine⟨.inr rfl,C,[xo],rfl,?_,⟨bo,ho⟩,hk⟩;simp only[wB,eC,sA,T.cq,V,bR,bO,sq,R.aT]
  .simp only[Sq,V,ak]
 exact⟨v,A',hg,he,hk⟩
def ua(A0 C:Mem)(b:Nat)(l:List aD)(x:O):Prop:=ai C 44 3 b (l.map aS) x/\Kp A0 C/\A0.next<=b
def ua.nil(A0 C:Mem)(k:Kp A0 C):ua A0 C A0.next [] (.slice Y 0 0):=⟨ai.nil _ _ _ _,k,aJ _⟩
def ua.push{A0:Mem}{l:List aD}{x:O}(h:ua A0 C b l x)(e:aD)(hl:Z l<1000000):∃x' C',dm I (C.alloc (ae 44 (aS e))) 40 40 x (.slice (U ⟨C.next,0,Y⟩) 1 2)=.ok (x',C')/\ua A0 C' (C.next+1) (l++[e]) x':=by
 obtain⟨hs,hk,hb⟩:=h;obtain⟨x',F,h1,h2,h3,h4⟩:=Eu hs hl;have hk0:=hk.1;exact⟨x',F,h1,h2,⟨by omega,λ z hz=>by rw[h4 z (by omega) (by omega),hk.2 z hz]⟩,by omega⟩
def Z7(a b:List UInt8):(!(cJ a b||nt a b))=cJ b a:=by
 cases h1:cJ b a with
 |true=>
  have h2:cJ a b=af:=by
   cases h:cJ a b with
   |false=>rfl
   |true=>have:=H5 _ _ _ h h1;rw[Cr]at this;cases this
  have h3:nt a b=af:=by
   rw[pj];refine beq_eq_false_iff_ne.2 λ e=>?_
   rw[e,Cr]at h1;cases h1
  rw[h2,h3];rfl
 |false=>
  cases h2:cJ a b with
  |true=>rfl
  |false=>
   obtain rfl:=H6 _ _ h2 h1;rw[pj];simp
def P6(a b:List UInt8):j8 .lss a b=.ok (.bool (cJ a b)):=rfl
def Z6(a b:List UInt8):j8 .gtr a b=.ok (.bool (cJ b a)):=by
 show R.ok (Value.bool (!(cJ a b||nt a b)))=_;rw[Z7]
def Mu(e:aD):(bare e).word=e.word:=by unfold bare;split<;>rfl
variable {e:aD}
theorem Qz:∀{l:List aD},gp l->lM e l=l.takeWhile (λ y=>cJ y.word e.word)++e::l.filter (λ y=>cJ e.word y.word)
 | [],_=>rfl
 |x::l,h=>by
  have hx:=h.1;unfold lM;by_cases h1:lt x.word e.word
  .have h2:cJ e.word x.word=af:=by
    cases hq:cJ e.word x.word with
    |false=>rfl
    |true=>exact aZ (uV h1 hq) (FW _)
   rw[aC h1,Qz h.2,BE,aC h1,kS,h2];rfl
  .have htw:(x::l).takeWhile (λ y=>cJ y.word e.word)=[]:=by rw[BE,aq h1]
   rw[aq h1,htw];by_cases h3:x.word=e.word
   .rw[aC h3,kS,<-h3,aq (by rw[Cr];simp)];rw[Bw.2 (λ y hy=>hx y hy)];rfl
   .have h4:=xT λ hn=>h3 (AJ h1 hn)
    rw[aq h3,kS,aC h4,Bw.2 (λ y hy=>uV h4 (hx y hy))];rfl
theorem Lp{α:Type}{p:α->Bool}:∀{l:List α} {i:Nat},(∀y∈l.take i,p y=aa)->(∀e,l[i]?=U e->p e=af)->l.takeWhile p=l.take i
 | [],i,_,_=>by simp
 |x::l,0,_,h=>by
  rw[BE,h x rfl];simp
 |x::l,i+1,h1,h2=>by
  rw[BE,aC (h1 x (by simp)),Ee,Lp (i:=i) (λ y hy=>h1 y (by simp[hy])) (λ e he=>h2 e (by simpa using he))]
def jN:=cg o0
def EG:aH:=sub jN [1,1,0,1,0,0]
def EH:aH:=sub jN [1,1,1,1,0,1,0,0]
def Xk:o0.body=U (.seq (sub jN [0]) (.seq (sub jN [1,0]) (.seq (.seq (sub jN [1,1,0,0]) (.block 0 (.loop EG))) (.seq (sub jN [1,1,1,0]) (.seq (.seq (sub jN [1,1,1,1,0,0]) (.block 2 (.loop EH))) (.seq (sub jN [1,1,1,1,1,0]) (sub jN [1,1,1,1,1,1]))))))):=by kernel_rfl
def qf9{l:List aD}{x:O}(h:dK A l x)(ha:gp l)(hl:Z l<400000):∃v A',az I 123 [x,.agg ⟨aS e⟩] A v A'/\dK A' (lM (bare e) l) v/\Kp A A':=by
 refine c_ (aN Tryz.func123) Xk (by kernel_rfl) ?_;have hlen:=h.len;have k0:=Kp.alloc A (ae 44 (aS e));have v0:=aK A 44 (aS e);apply W.q
 .intro M;simp(disch:=omega)only[jN,o0,Aq,V,aX];rfl
 have hB:=h.kp k0;generalize A.alloc (ae 44 (aS e))=B at k0 v0 hB;have lwB:=λ C k=>(v0.kp (A':=C) k).l0 u9 rfl
 obtain⟨d67,hd1,hd2⟩:=b9 (t:=44) (p:=aa) (by kernel_rfl);apply W.q
 .intro M;simp(disch:=first|decide+kernel|omega)only[jN,o0,Aq,V];rfl
 apply W.seq;refine W.to (n:=58) (λ t C=>∃b y,ua B C b (l.takeWhile (λ y=>cJ y.word e.word)) y/\Sl t [(0,x),(3,.pointer (U ⟨A.next,0,Y⟩)),(5,y)]) ?_ ?_
 .apply W.seq;apply W.run 20
  .intro M;simp(disch:=first|decide+kernel|omega)only[jN,o0,Aq,V];rfl
  apply W.block;refine W.up (Z l) (λ i t C=>(∀y∈l.take i,cJ y.word e.word=aa)/\∃b y,ua B C b (l.take i) y/\Sl t [(0,x),(3,.pointer (U ⟨A.next,0,Y⟩)),(5,y),(6,.int .i64 i)]) ?_ (a6 _) ⟨(λ y hy=>by simp at hy),_,_,ua.nil B B (Kp.refl _),?_⟩
  .rintro i t C hi ⟨hall,b,y,hO,g0,g3,g5,g6,-⟩;have lw:=lwB C hO.2.1;by_cases hlt:i<Z l
   .have he:l[i]?=U l[i]:=aV hlt;obtain⟨p,i1,i2,q,i3,i4⟩:=(hB.kp hO.2.1).at he;have hls:=P6 (l[i]).word e.word;cases hc:cJ (l[i]).word e.word with
    |true=>
     rw[hc]at hls;have htk:l.take (i+1)=l.take i++[l[i]]:=eH hlt;obtain⟨y2,D2,happ2,hO3⟩:=hO.push l[i] (by rw[db];omega);apply W.run 20
     .intro M;simp(config:={maxSteps:=4000000})(disch:=first|decide+kernel|omega|simp only[Wq,V])only[EG,jN,o0,Aq,au,reduceIte,V,ak,g0,g3,g5,g6,hlen,hlt,i1,i2,i3,i4,ny,lw,hls,wK,happ2,Fq,bY []];rfl
     refine⟨hlt,_,_,rfl,λ z hz=>?_,_,y2,by rw[htk];exact hO3,?_⟩
     .rw[htk]at hz;rcases mI.1 hz with hz|hz
      .exact hall z hz
      .rw[ee.1 hz];exact hc
     .simp only[Sq,V,ak,g0,g3]
    |false=>
     rw[hc]at hls;have htw:l.takeWhile (λ y=>cJ y.word e.word)=l.take i:=Lp hall (λ z hz=>by rw[he]at hz;rw[<-je hz];exact hc);apply W.run 20
     .intro M;simp(config:={maxSteps:=4000000})(disch:=first|decide+kernel|omega|simp only[Wq,V])only[EG,jN,o0,Aq,au,reduceIte,V,ak,g0,g3,g6,hlen,hlt,i1,i3,i4,ny,lw,hls,Fq,bY []];rfl
     refine⟨rfl,_,_,rfl,b,y,by rw[htw];exact hO,?_⟩;simp only[Sq,V,ak,g0,g3,g5]
   .have hin:i=Z l:=by omega
    subst hin;have htw:l.takeWhile (λ y=>cJ y.word e.word)=l.take (Z l):=Lp hall (λ z hz=>by rw[lW (aJ _)]at hz;cases hz);apply W.run 20
    .intro M;simp(config:={maxSteps:=4000000})(disch:=first|decide+kernel|omega|simp only[Wq,V])only[EG,jN,o0,Aq,au,reduceIte,V,ak,g0,g6,hlen,Fq,bY []];rfl
    refine⟨rfl,_,_,rfl,b,y,by rw[htw];exact hO,?_⟩;simp only[Sq,V,ak,g0,g3,g5]
  .simp only[Sq,V,ak]
 .rintro t C ⟨b,y,hO,g0,g3,g5,-⟩;show W I _ _ _;have hlt1:(l.takeWhile (λ y=>cJ y.word e.word)).length<=Z l:=(List.takeWhile_sublist _).length_le;have le:ax I C.get 44 (.pointer (U ⟨A.next,0,Y⟩))=.ok (.agg ⟨aS e⟩):=bU hd1 hd2 jd (v0.kp hO.2.1).2;have hg:=λ ih=>Py (ih:=ih) (A:=C) (e:=e)
  obtain⟨y',E,happ,hO2⟩:=hO.push (bare e) (by omega);apply W.q
  .intro M;simp(disch:=first|decide+kernel|omega)only[jN,o0,Aq,V,g3,g5,le,hg,wK,happ];rfl
  apply W.seq;apply W.q
  .intro M;simp(disch:=first|decide+kernel|omega)only[jN,o0,Aq,V];rfl
  apply W.block;refine W.up (Z l) (λ i t C=>∃b y,ua B C b ((l.takeWhile (λ y=>cJ y.word e.word)++[bare e])++(l.take i).filter (λ y=>cJ e.word y.word)) y/\Sl t [(0,x),(3,.pointer (U ⟨A.next,0,Y⟩)),(5,y),(7,.int .i64 i)]) ?_ (a6 _) ⟨_,y',by simpa using hO2,?_⟩
  .rintro i t C hi ⟨b,y,hO,g0,g3,g5,g7,-⟩;have lw:=lwB C hO.2.1;by_cases hlt:i<Z l
   .have he:l[i]?=U l[i]:=aV hlt;obtain⟨p,i1,i2,q,i3,i4⟩:=(hB.kp hO.2.1).at he;have hgs:=Z6 (l[i]).word e.word;cases hc:cJ e.word (l[i]).word with
    |true=>
     rw[hc]at hgs;have hfl:((l.takeWhile (λ y=>cJ y.word e.word)++[bare e])++(l.take i).filter (λ y=>cJ e.word y.word)).length<1000000:=by
      have:=By (λ y:aD=>cJ e.word y.word) (l.take i);rw[db]at this;simp only[aU,cd,dL];omega
     have htk:(l.take (i+1)).filter (λ y=>cJ e.word y.word)=(l.take i).filter (λ y=>cJ e.word y.word)++[l[i]]:=by
      rw[eH hlt,Hj,kS,aC hc];rfl
     obtain⟨y2,D2,happ2,hO3⟩:=hO.push l[i] hfl;apply W.run 20
     .intro M;simp(config:={maxSteps:=4000000})(disch:=first|decide+kernel|omega|simp only[Wq,V])only[EH,jN,o0,Aq,au,reduceIte,V,ak,g0,g3,g5,g7,hlen,hlt,i1,i2,i3,i4,ny,lw,hgs,wK,happ2,Fq,bY []];rfl
     refine⟨hlt,_,_,rfl,_,y2,by rw[htk,<-jD];exact hO3,?_⟩;simp only[Sq,V,ak,g0,g3]
    |false=>
     rw[hc]at hgs;have htk:(l.take (i+1)).filter (λ y=>cJ e.word y.word)=(l.take i).filter (λ y=>cJ e.word y.word):=by
      rw[eH hlt,Hj,kS,aq (by rw[hc];decide)];simp
     apply W.run 20
     .intro M;simp(config:={maxSteps:=4000000})(disch:=first|decide+kernel|omega|simp only[Wq,V])only[EH,jN,o0,Aq,au,reduceIte,V,ak,g0,g3,g7,hlen,hlt,i1,i3,i4,ny,lw,hgs,Fq,bY []];rfl
     refine⟨hlt,_,_,rfl,b,y,by rw[htk];exact hO,?_⟩;simp only[Sq,V,ak,g0,g3,g5]
   .have hin:i=Z l:=by omega
    subst hin;rw[dY]at hO;apply W.run 20
    .intro M;simp(disch:=first|decide+kernel|omega)only[EH,jN,o0,Aq,V,g0,g7,hlen];rfl
    apply W.run 40
    .intro M;simp(disch:=first|decide+kernel|omega)only[jN,o0,Aq,V,g5];rfl
    refine⟨by simp,rfl,_,(by simp only[o0,Aq,V]<;>rfl),⟨b,?_⟩,k0.trans hO.2.1⟩;rw[Qz ha,Mu];have:=hO.1;rwa[jD]at this
  .simp only[Sq,V,ak,g0,g3]
def qs(more:List aD):List aD:=more.foldl (λ l e=>lM (bare e) l) []
def qje(more:List aD)(e:aD):qs (more++[e])=lM (bare e) (qs more):=by
 unfold qs;rw[zM];rfl
theorem one_le{e:aD}:∀l:List aD,(lM e l).length<=Z l+1
 | []=>by simp[lM]
 |x::l=>by
  have:=one_le (e:=e) l;unfold lM;split
  .simp only[cd];omega
  .split<;>simp
def qjd(P:List aD->Prop)(h0:P [])(h1:∀l e,P l->P (lM (bare e) l))(more:List aD):P (qs more):=by
 unfold qs
 suffices h:∀(more l:List aD),P l->P (more.foldl (λ l e=>lM (bare e) l) l)from h more [] h0
 intro more
 induction more with
 |nil=>exact λ l h=>h
 |cons e more ih=>exact λ l h=>ih _ (h1 l e h)
def UC(more:List aD):gp (qs more):=qjd gp trivial (λ l e h=>Qy h) more
def UD:∀more:List aD,(qs more).length<=Z more:=by
 intro more;unfold qs
 suffices h:∀(more l:List aD),(more.foldl (λ l e=>lM (bare e) l) l).length<=Z l+Z more by
  have:=h more [];simpa using this
 intro more
 induction more with
 |nil=>exact λ l=>aJ _
 |cons e more ih=>
  intro l;have h1:=ih (lM (bare e) l);have h2:=one_le (e:=bare e) l;rw[mG,cd];omega
def qjc{more:List aD}(P:aD->Prop)(h:∀e∈more,P (bare e)):∀e∈qs more,P e:=by
 unfold qs
 suffices H:∀(more l:List aD),(∀e∈more,P (bare e))->(∀e∈l,P e)->∀e∈more.foldl (λ l e=>lM (bare e) l) l,P e from H more [] h (λ e he=>by cases he)
 intro more
 induction more with
 |nil=>exact λ l _ h=>h
 |cons a more ih=>
  intro l h1 h2;refine ih _ (λ e he=>h1 e (cU _ he)) λ e he=>?_
  rcases Kg he with rfl|he
  .exact h1 a cM
  .exact h2 e he
def Vi:dm I A 40 40 (.slice Y 0 0) (.slice Y 0 0)=.ok (.slice Y 0 0,A):=by kernel_rfl
def sa:=cg yG
def II:aH:=sub sa [1,1,0,1,0,0]
def X2:yG.body=U (.seq (sub sa [0]) (.seq (sub sa [1,0]) (.seq (.seq (sub sa [1,1,0,0]) (.block 0 (.loop II))) (.seq (sub sa [1,1,1,0]) (sub sa [1,1,1,1]))))):=by kernel_rfl
def qgg{more:List aD}{xm:O}(hm:dK A more xm)(hl:Z more<300000):∃v A',az I 67 [.slice Y 0 0,xm] A v A'/\dK A' (qs more) v/\Kp A A':=by
 refine c_ (aN Tryz.func67) X2 (by kernel_rfl) ?_;have hlen:=hm.len;apply W.q2
 .intro M _;simp(disch:=decide+kernel)only[sa,yG,Aq,V,Vi];rfl
 apply W.seq;apply W.q
 .intro M;simp(disch:=omega)only[sa,yG,Aq,V];rfl
 apply W.block;refine W.up (Z more) (λ i t C=>∃y,dK C (qs (more.take i)) y/\Kp A C/\Sl t [(1,xm),(5,y),(6,.int .i64 i)]) ?_ (a6 _) ⟨_,⟨0,ai.nil _ _ _ _⟩,Kp.refl _,?_⟩
 .rintro i t C hi ⟨y,hy,kC,g1,g5,g6,-⟩;by_cases hlt:i<Z more
  .have he:=aV hlt;obtain⟨p,i1,i2,-⟩:=(hm.kp kC).at he;have hwl:=UD (more.take i);rw[db]at hwl;obtain⟨v,D,⟨g,hg⟩,hv,kD⟩:=qf9 (e:=more[i]) hy (UC _) (by omega);apply W.ct (g) 20
   .intro M hM;simp(disch:=first|decide+kernel|omega)only[II,sa,yG,Aq,V,g1,g5,g6,hlen,hlt,i1,i2,hg];rfl
   refine⟨hlt,_,_,rfl,v,?_,kC.trans kD,?_⟩
   .rw[eH hlt,qje];exact hv
   .simp only[Sq,V,ak,g1]
  .have hin:i=Z more:=by omega
   subst hin;rw[dY]at hy;apply W.run 20
   .intro M;simp(disch:=decide+kernel)only[II,sa,yG,Aq,V,g1,g6,hlen];rfl
   apply W.run 40
   .intro M;simp(disch:=omega)only[sa,yG,Aq,V,g5];rfl
   exact⟨by simp,rfl,_,(by simp only[yG,Aq,V]<;>rfl),hy,kC⟩
 .simp only[Sq,V,ak]
def YY(d:gJ):1<=(dE d).word.length/\(dE d).word.length<=9:=by
 unfold dE uJ;rw[Mu];unfold vu;split
 .simp
 .rename_i h;have:(ya mU (List.take 9 d.ls)).length<=9:=by rw[aR,db];omega
  exact⟨iG.2 h,this⟩
def s8(A:Mem)(dss:List (List gJ))(x:O):Prop:=
 (x=.slice Y 0 0/\dss=[])\/(x=uI/\dss=[])\/∃q off cp,x=.slice (U ⟨q,off,Y⟩) (Z dss) cp/\(dss=[]\/(q<A.next/\∃t kd fz c,A.get q=U (.cells t kd fz c)/\
  ∀(i:Nat) (ds:List gJ),dss[i]?=U ds->∃y,c.get (off+i)=U y/\ot A ds y))
def qjn:aY I 64=.ok 1:=by kernel_rfl
variable {dss:List (List gJ)}
def s8.kp{x:O}(h:s8 A dss x)(k:Kp A A'):s8 A' dss x:=by
 rcases h with h|h|⟨q,off,cp,h1,h2⟩
 .exact .inl h
 .exact .inr (.inl h)
 .refine .inr (.inr ⟨q,off,cp,h1,?_⟩);rcases h2 with h2|⟨h2,t,kd,fz,c,h3,h4⟩
  .exact .inl h2
  .exact .inr ⟨dc h2 k.1,t,kd,fz,c,by rw[k.2 _ h2];exact h3,λ i d hd=>by
    obtain⟨y,e1,e2⟩:=h4 i d hd;exact⟨y,e1,e2.kp k⟩⟩
def uh(A:Mem)(ls:List (List aD))(y:O):Prop:=∃(b:Nat) (xs:List O),ai A 40 1 b (xs.map λ v=>[v]) y/\Z xs=Z ls/\∀(i:Nat) (l:List aD),ls[i]?=U l->∃x,xs[i]?=U x/\dK A l x
variable {y:O}
def uh.kp{ls:List (List aD)}(h:uh A ls y)(k:Kp A A'):uh A' ls y:=by
 obtain⟨b,xs,h1,h2,h3⟩:=h;refine⟨b,xs,h1.same k.1 (k.2 b),h2,λ i l hl=>?_⟩;obtain⟨x,e1,e2⟩:=h3 i l hl;exact⟨x,e1,e2.kp k⟩
def dK.self{l:List aD}{x:O}(h:dK A l x):x.cells.toList=[x]/\bI x=aa:=by
 obtain⟨b,h⟩:=h;exact ai.di h
variable {b':Nat}{ls:List (List O)}{x':O}
def zk{e e':aj}{n':Nat}{ls':List (List O)}{x:O}(h:ai A e n b ls x)(h':ai A e' n' b' ls' x')(h0:ls≠ [])(h0':ls'≠ [])(he:e≠e'):b≠b':=by
 rintro rfl;rcases h with⟨-,h⟩|⟨_,_,-,-,⟨_,h1,-⟩,-⟩
 .exact h0 h
 .rcases h' with⟨-,h⟩|⟨_,_,-,-,⟨_,h2,-⟩,-⟩
  .exact h0' h
  .rw[h1]at h2;injection h2 with h2;injection h2 with h2;exact he h2
variable {r:Nat}{l:List O}
def ai.JQ{e e':aj}{k:Kd}{x:O}(h:ai A e n b ls x)(hv:VB A e' r k l)(he:e≠e')(K:lV r A A'):ai A' e n b ls x:=by
 rcases h with h|⟨k',c,h1,h2,⟨cs,h3,h3'⟩,h4⟩
 .exact .inl h
 .refine .inr ⟨k',c,h1,dc h2 K.1,⟨cs,?_,h3'⟩,h4⟩;rw[K.2 b h2 (λ e1=>?_)]
  .exact h3
  .obtain⟨cs',q,-⟩:=hv.2;rw[<-e1,h3]at q;injection q with q;injection q with q;exact he q
structure ui where
 ver:Nat
 next:Nat
 dv:List (Nat×Nat×Nat)
def cF(s:Nat×Nat×Nat):List O:=[.int .i64 s.1,.int .i64 s.2.1,.int .i64 s.2.2]
def qD(A:Mem)(l:List (Nat×Nat×Nat))(x:O):Prop:=∃b,ai A 57 3 b (l.map cF) x
def mW(x:O)(m:ui):List O:=[.int .i64 m.ver,iN 1,.int .i64 m.next,x]
def KW(next:Nat)(s:Nat×Nat×Nat):Prop:=(1<=s.1/\s.1<next)/\(1<=s.2.1/\s.2.1<=100000)/\1<=s.2.2/\s.2.2<=1000000000
def zU(m:ui):Prop:=m.ver<=900000000/\(1<=m.next/\m.next<=900000000)/\Z m.dv<=1000/\(∀s∈m.dv,KW m.next s)/\(m.dv.map (·.1)).Nodup
def fS(l:List Nat):List UInt8:=l.flatMap cZ
def pE(l:List (Nat×Nat×Nat)):List Nat:=l.flatMap λ s=>[s.1,s.2.1,s.2.2]
def qh(m:ui):List UInt8:=[67,77,1]++fS ([m.ver,1,m.next,Z m.dv]++pE m.dv)
def qD.kp{l:List (Nat×Nat×Nat)}{x:O}(h:qD A l x)(k:Kp A A'):qD A' l x:=by
 obtain⟨b,h⟩:=h;exact⟨b,h.same k.1 (k.2 b)⟩
def Lu:I.aB 26=U (.slice 57):=by kernel_rfl
def vR:aY I 57=.ok 3:=by kernel_rfl
def UW:cX I 57=.ok (.agg ⟨[iN 0,iN 0,iN 0]⟩):=by kernel_rfl
def Jn:bM I 57 (pw b o) 0=.ok (pw b o):=by kernel_rfl
def Og:bM I 57 (pw b o) 1=.ok (pw b (o+1)):=by kernel_rfl
def Oh:bM I 57 (pw b o) 2=.ok (pw b (o+2)):=by kernel_rfl
def qD.len{l:List (Nat×Nat×Nat)}{x:O}(h:qD A l x):cQ I .len [26] [x]=.ok (iN (Z l)):=by
 obtain⟨b,h⟩:=h;have:=ai.len h Lu;rwa[aR]at this
def qD.at{l:List (Nat×Nat×Nat)}{x:O}{s:Nat×Nat×Nat}(h:qD A l x)(hi:l[i]?=U s):
 ∃b o,dQ I 26 x (.int .i64 i)=.ok (pw b o)/\ax I A.get 57 (pw b o)=.ok (.agg ⟨cF s⟩)/\ax I A.get 3 (pw b o)=.ok (.int .i64 s.1)/\
  ax I A.get 3 (pw b (o+1))=.ok (.int .i64 s.2.1)/\ax I A.get 3 (pw b (o+2))=.ok (.int .i64 s.2.2):=by
 obtain⟨b,h⟩:=h;have hl:i<(l.map cF).length:=by rw[aR];exact(bg.1 hi).1
 have hm:(l.map cF)[i]?=U (cF s):=by rw[da,hi];rfl
 obtain⟨d,hd1,hd2⟩:=b9 (by kernel_rfl);refine⟨b,_,ai.idx h Lu vR hl,ai.bU h hd1 hd2 vR hm,?_,ai.load h u3 rfl hm rfl (by omega),ai.load h u3 rfl hm rfl (by omega)⟩;have:=ai.load (j:=0) h u3 rfl hm rfl (by omega);rwa[dN]at this
def qj(n:Nat):List O:=[.int .u64 n]
def tc(A:Mem)(l:List Nat)(x:O):Prop:=∃b,ai A 147 1 b (l.map qj) x
def GK:I.aB 196=U (.slice 147):=by kernel_rfl
def qjm:aY I 147=.ok 1:=by kernel_rfl
def qjr:eR I 147=.ok (1,[.int .u64 0]):=by kernel_rfl
def qiv:∃i,I.ty.get 147=U i/\0<i.bytes/\i.bytes<=65536:=by
 have h:(I.ty.get 147).map (λ i=>aM 0 i.bytes&&au i.bytes 65536)=U aa:=by kernel_rfl
 cases hq:I.ty.get 147 with
 |none=>rw[hq]at h;cases h
 |some i=>
  rw[hq]at h;simp only[fZ,eM,dz,bT]at h;exact⟨i,rfl,h.1,fQ h.2⟩
def tc.kp{l:List Nat}{x:O}(h:tc A l x)(k:Kp A A'):tc A' l x:=by
 obtain⟨b,h⟩:=h;exact⟨b,h.same k.1 (k.2 b)⟩
def tc.len{l:List Nat}{x:O}(h:tc A l x):cQ I .len [196] [x]=.ok (iN (Z l)):=by
 obtain⟨b,h⟩:=h;have:=ai.len h GK;rwa[aR]at this
def tc.at{l:List Nat}{x:O}(h:tc A l x)(hi:l[i]?=U n):∃p,dQ I 196 x (.int .i64 i)=.ok p/\ax I A.get 147 p=.ok (.int .u64 n):=by
 obtain⟨b,h⟩:=h;have hl:i<(l.map qj).length:=by rw[aR];exact(bg.1 hi).1
 have hm:(l.map qj)[i]?=U (qj n):=by rw[da,hi];rfl
 refine⟨_,ai.idx h GK qjm hl,?_⟩;have:=ai.load (j:=0) h eE rfl hm rfl (by omega);rwa[dN]at this
def Qu{l:List Nat}(h:l[i]?=U n):fS (l.take (i+1))=fS (l.take i)++cZ n:=by
 obtain⟨hi,rfl⟩:=bg.1 h;unfold fS;rw[eH hi,zL];simp
theorem F2:∀(l:List Nat),(∀n∈l,n<18446744073709551616)->(fS l).length<=9*Z l
 | [],_=>aJ _
 |n::l,h=>by
  have h1:=tR n (h n cM);have h2:=F2 l λ n hn=>h n (cU _ hn)
  unfold fS at h2⊢;rw[j',aU,cd];omega
theorem Fy:∀l:List Nat,(l.map qj).flatten=l.map λ n:Nat=>Value.int .u64 n
 | []=>rfl
 |n::l=>by rw[eU,s9,Fy l];rfl
def Qv{D:Mem}{l:List Nat}(h0:l≠ []):ai (D.alloc (ae 147 (l.map λ n:Nat=>Value.int .u64 n))) 147 1 D.next (l.map qj) (.slice (U ⟨D.next,0,Y⟩) (Z l) (2*Z l)):=by
 refine .inr ⟨.var (Z l),2*Z l,by rw[aR],by rw[aA];omega,?_,λ c hc=>by obtain⟨n,-,rfl⟩:=dA.1 hc;rfl,.inl (by rw[aR])⟩;have e:=Fy l;rw[e];have:=sV D 147 (l.map λ n:Nat=>Value.int .u64 n);rwa[aR]at this
def Ve{D:Mem}{l nl:List Nat}{x:O}(h:ai D 147 1 b (l.map qj) x)(hl:Z l+Z nl<=10000)(h0:nl≠ []):
 ∃x' D' b',dm I (D.alloc (ae 147 (nl.map λ n:Nat=>Value.int .u64 n))) 196 196 x (.slice (U ⟨D.next,0,Y⟩) (Z nl) (2*Z nl))=.ok (x',D')/\ai D' 147 1 b' ((l++nl).map qj) x'/\D.next<=D'.next/\(b'=b\/D.next<=b')/\∀z,z≠b->z<D.next->D'.get z=D.get z:=by
 obtain⟨i,t1,t2,t3⟩:=qiv;have h':ai (D.alloc (ae 147 (nl.map λ n:Nat=>Value.int .u64 n))) 147 1 b (l.map qj) x:=h.same (by rw[aA];omega) λ hh=>c9 (by omega)
 have hn:=Qv (D:=D) h0;have hv:de (D.alloc (ae 147 (nl.map λ n:Nat=>Value.int .u64 n))) 147 D.next (.var (Z nl)) ((nl.map qj).flatten):=by
  have e:=Fy nl;rw[e];have:=sV D 147 (nl.map λ n:Nat=>Value.int .u64 n);rwa[aR]at this
 obtain⟨x',D',b',e1,e2,e3,e4,e5⟩:=ai.tu h' GK GK rfl qjr t1 t2 t3 (by omega) (by omega) (by rw[aR];omega) (y:=.slice (U ⟨D.next,0,Y⟩) (Z nl) (2*Z nl)) rfl
  (tN hv (by rw[nf,Fy,aR])) (by rw[aR]) (λ c hc=>by obtain⟨n,-,rfl⟩:=dA.1 hc;rfl) (by
   intro v hv;obtain⟨c,hc,hv⟩:=Hq.1 hv;obtain⟨n,-,rfl⟩:=dA.1 hc;rw[ee.1 hv];rfl)
 rw[aA]at e3 e4 e5;refine⟨x',D',b',e1,by rw[fY];exact e2,by omega,by omega,λ z hz hzn=>by rw[e5 z (λ e=>aZ e hz) (by omega),c9 (by omega)]⟩
def Wv{a b c d:Int}:eo I 196 4 [(0,.int .u64 a),(1,.int .u64 b),(2,.int .u64 c),(3,.int .u64 d)]=.ok (ae 147 [.int .u64 a,.int .u64 b,.int .u64 c,.int .u64 d],.dy 4 8):=by kernel_rfl
def Wt{a b c:Int}:eo I 196 3 [(0,.int .u64 a),(1,.int .u64 b),(2,.int .u64 c)]=.ok (ae 147 [.int .u64 a,.int .u64 b,.int .u64 c],.dy 3 6):=by kernel_rfl
def Y'(t:T O):ev t (.const (.string ⟨#[67,77,1]⟩))=.ok (ag [67,77,1]):=rfl
def qbX{l:List (Nat×Nat×Nat)}{s:Nat×Nat×Nat}(h:l[i]?=U s):pE (l.take (i+1))=pE (l.take i)++[s.1,s.2.1,s.2.2]:=by
 obtain⟨hi,rfl⟩:=bg.1 h;unfold pE;rw[eH hi,zL];simp
theorem FX:∀l:List (Nat×Nat×Nat),(pE l).length=3*Z l
 | []=>rfl
 |s::l=>by
  have:=FX l;unfold pE at this⊢;rw[j',aU,this];simp;omega
theorem J2{next:Nat}:∀{l:List (Nat×Nat×Nat)},(∀s∈l,KW next s)->next<=900000000->∀n∈pE l,n<18446744073709551616
 |s::l,h,hn,n,hm=>by
  unfold pE at hm;rw[j']at hm;rcases mI.1 hm with hm|hm
  .obtain⟨⟨_,_⟩,⟨_,_⟩,_,_⟩:=h s cM;simp only[cC,en,or_false]at hm;rcases hm with rfl|rfl|rfl<;>omega
  .exact J2 (λ s hs=>h s (cU _ hs)) hn n hm
def jb(l:List aD):Nat:=(l.map (·.word.length)).sum
def oX(l:List aD):Prop:=l≠ []/\gp l/\(∀e∈l,1<=Z e.word/\Z e.word<=255/\e.weight<4294967296)/\(Z l<=100/\jb l<999)/\(dx l).length<10000/\dx l≠ []/\Lay (dx l)/\least l<18446744073709551616/\(iw l).length<800000
def nT:List (List aD)->List (Nat×Nat×Nat)
 | []=>[]
 |l::r=>(Z r+1,Z l,(crc.ek (iw l)).length)::nT r
theorem vi:∀ls,(nT ls).length=Z ls
 | []=>rfl
 |l::r=>by rw[nT,cd,vi r,cd]
theorem Gr:∀{ls:List (List aD)} {i:Nat} {l:List aD},ls[i]?=U l->(nT ls)[i]?=U (Z ls-i,Z l,(crc.ek (iw l)).length)
 |x::r,0,l,h=>by
  cases h;rfl
 |x::r,i+1,l,h=>by
  rw[dU]at h;rw[nT,dU,Gr h,cd,show Z r+1-(i+1)=Z r-i by omega]
def jW(f:List UInt8×List UInt8):List O:=[ag f.1,ag f.2]
def ub(A:Mem)(l:List (List UInt8×List UInt8))(x:O):Prop:=∃b,ai A 170 2 b (l.map jW) x
def ub.kp{l:List (List UInt8×List UInt8)}{x:O}(h:ub A l x)(k:Kp A A'):ub A' l x:=by
 obtain⟨b,h⟩:=h;exact⟨b,h.same k.1 (k.2 b)⟩
def GO:I.aB 167=U (.slice 170):=by kernel_rfl
def z27:aY I 170=.ok 2:=by kernel_rfl
def qjv:eR I 170=.ok (2,[.string .empty,.string .empty]):=by kernel_rfl
def qjF:cX I 170=.ok (.agg ⟨[.string .empty,.string .empty]⟩):=by kernel_rfl
def qiz:∃i,I.ty.get 170=U i/\0<i.bytes/\i.bytes<=65536:=by
 have h:(I.ty.get 170).map (λ i=>aM 0 i.bytes&&au i.bytes 65536)=U aa:=by kernel_rfl
 cases hq:I.ty.get 170 with
 |none=>rw[hq]at h;cases h
 |some i=>
  rw[hq]at h;simp only[fZ,eM,dz,bT]at h;exact⟨i,rfl,h.1,fQ h.2⟩
def ub.len{l:List (List UInt8×List UInt8)}{x:O}(h:ub A l x):cQ I .len [167] [x]=.ok (iN (Z l)):=by
 obtain⟨b,h⟩:=h;have:=ai.len h GO;rwa[aR]at this
def Zz:bM I 170 (pw b o) 1=.ok (pw b (o+1)):=by kernel_rfl
def ub.at{l:List (List UInt8×List UInt8)}{x:O}{f:List UInt8×List UInt8}(h:ub A l x)(hi:l[i]?=U f):
 ∃b o,dQ I 167 x (.int .i64 i)=.ok (pw b o)/\ax I A.get 170 (pw b o)=.ok (.agg ⟨jW f⟩)/\ax I A.get 9 (pw b o)=.ok (ag f.1)/\ax I A.get 9 (pw b (o+1))=.ok (ag f.2):=by
 obtain⟨b,h⟩:=h;have hl:i<(l.map jW).length:=by rw[aR];exact(bg.1 hi).1
 have hm:(l.map jW)[i]?=U (jW f):=by rw[da,hi];rfl
 obtain⟨d,hd1,hd2⟩:=b9 (by kernel_rfl);refine⟨b,_,ai.idx h GO z27 hl,ai.bU h hd1 hd2 z27 hm,?_,ai.load h u9 rfl hm rfl (by omega)⟩;have:=ai.load (j:=0) h u9 rfl hm rfl (by omega);rwa[dN]at this
def Oq(f:List UInt8×List UInt8):∀v∈jW f,bI v=aa:=by
 intro v hv;simp only[jW,cC,en,or_false]at hv;rcases hv with rfl|rfl<;>rfl
def VV{a b:List UInt8}:ef I 170 [(0,ag a),(1,ag b)]=.ok (.agg ⟨jW (a,b)⟩):=by kernel_rfl
def WJ{f:List UInt8×List UInt8}:eo I 167 1 [(0,.agg ⟨jW f⟩)]=.ok (ae 170 (jW f),.dy 1 2):=by kernel_rfl
def Vd{D:Mem}{l:List (List UInt8×List UInt8)}{x:O}{f:List UInt8×List UInt8}(h:ai D 170 2 b (l.map jW) x)(hl:Z l<1000):
 ∃x' D',dm I (D.alloc (ae 170 (jW f))) 167 167 x (.slice (U ⟨D.next,0,Y⟩) 1 2)=.ok (x',D')/\ai D' 170 2 (D.next+1) ((l++[f]).map jW) x'/\D'.next=D.next+2/\∀z,(z=b->x=.slice Y 0 0)->z<D.next->D'.get z=D.get z:=by
 obtain⟨i,t1,t2,t3⟩:=qiz;have h':ai (D.alloc (ae 170 (jW f))) 170 2 b (l.map jW) x:=h.same (by rw[aA];omega) λ hh=>c9 (by omega)
 obtain⟨x',D',h1,h2,h3,h4⟩:=ai.append h' GO GO qjv t1 t2 t3 (by omega) (by omega) (by rw[aR];omega) (cR D _) rfl (Oq f);rw[aA]at h2 h3 h4;exact⟨x',D',h1,by rw[fY];exact h2,by omega,λ z hz hzn=>by rw[h4 z hz (by omega),c9 (by omega)]⟩
def VY{a b c:Int}:ef I 57 [(0,.int .i64 a),(1,.int .i64 b),(2,.int .i64 c)]=.ok (.agg ⟨[.int .i64 a,.int .i64 b,.int .i64 c]⟩):=by kernel_rfl
def pI(st e n:Nat):Bool:=
 (match I.aB st with
 |some (.slice e')=>aL e' e
 |_=>af)&&(match eR I e,aY I e,I.ty.get e with
 |.ok (m,_),.ok m',U i=>aL m n&&(aL m' n&&(aM 0 i.bytes&&au i.bytes 65536))
 |_,_,_=>af)&&(aM 0 n&&aM n 65536)
def A4{st e n:Nat}(h:pI st e n=aa):I.aB st=U (.slice e)/\(∃z,eR I e=.ok (n,z))/\aY I e=.ok n/\(∃i,I.ty.get e=U i/\0<i.bytes/\i.bytes<=65536)/\0<n/\n<65536:=by
 unfold pI at h;simp only[dz,bT]at h;obtain⟨⟨h1,h2⟩,h3⟩:=h;split at h1
 .rename_i e' he;split at h2
  .rename_i m z m' i hz hs hi;simp only[dz,bT,pS,pT]at h1 h2;obtain⟨rfl,rfl,h4,h5⟩:=h2;subst h1;exact⟨he,⟨z,hz⟩,hs,⟨i,hi,h4,h5⟩,h3⟩
  .cases h2
 .cases h1
section
variable {st e n b:Nat}{A D:Mem}{ls:List (List O)}{x:O}(ht:pI st e n=aa)
include ht
def tW(h:ai A e n b ls x):cQ I .len [st] [x]=.ok (iN (Z ls)):=ai.len h (A4 ht).1
def zj(h:ai A e n b ls x)(hi:i<Z ls):dQ I st x (.int .i64 i)=.ok (pw b (i*n)):=ai.idx h (A4 ht).1 (A4 ht).2.2.1 hi
end
def ai.first{A:Mem}{e n b:Nat}{ls:List (List O)}{x:O}(h:ai A e n b ls x):fu x=.ok (Z ls)/\ib A.get n (Z ls) x=.ok ls.flatten/\∀l∈ls,Z l=n:=by
 rcases h with⟨rfl,rfl⟩|⟨k,c,rfl,h2,h3,h4,-⟩
 .exact⟨rfl,by simp[ib,gO],λ l hl=>by cases hl⟩
 .exact⟨rfl,tN h3 (ic h4),h4⟩
def qhq{st e n b:Nat}{D:Mem}{ls:List (List O)}{x:O}(ht:pI st e n=aa)(h:ai D e n b ls x)(hl:Z ls<1000000)(h1:∀l∈ls,∀v∈l,bI v=aa):
 ∃x' D' b',dm I (D.alloc (ae e [])) st st (.slice (U ⟨D.next,0,Y⟩) 0 0) x=.ok (x',D')/\ai D' e n b' ls x'/\D.next<D'.next/\D.next<=b'/\Kp D D'/\b'<D'.next:=by
 obtain⟨hu,⟨z,hz⟩,hs,⟨i,t1,t2,t3⟩,n0,n1⟩:=A4 ht;have k:=Kp.alloc D (ae e []);have nE:=aA D (ae e []);have h0:ai (D.alloc (ae e [])) e n D.next [] (.slice (U ⟨D.next,0,Y⟩) 0 0):=.inr ⟨.var 0,0,rfl,by omega,og (cR D (ae e [])),λ l hl=>aZ hl en,.inl rfl⟩
 obtain⟨f1,f2,f3⟩:=ai.first (h.same k.1 (k.2 b))
 obtain⟨x',D',b',g1,g2,g3,g4,g5⟩:=ai.tu h0 hu hu rfl hz t1 t2 t3 n0 n1 (by simp;omega) f1 f2 rfl f3 λ v hv=>by
  obtain⟨l,hl,hv⟩:=Hq.1 hv;exact h1 l hl v hv
 have kk:Kp D D':=⟨by omega,λ z hz=>by rw[g5 z (λ hh=>by omega) (by omega),k.2 z hz]⟩;rcases g2 with⟨hx,hls⟩|⟨k',c',q1,q2,q3⟩
 .exact⟨x',D',D.next,g1,.inl ⟨hx,hls⟩,by omega,aJ _,kk,by omega⟩
 .exact⟨x',D',b',g1,.inr ⟨k',c',q1,q2,q3⟩,by omega,by omega,kk,q2⟩
end Go.Proofs.YtdobfpkceacneaaGreatDoor.sto
namespace Go.Am
open Go.Am Go.Mdl Go.Sto Go.Shelf
section
variable {tb:aO}
def ZZ(b:Nat)(w:List (List O)):O:=.slice (U ⟨b,0,Y⟩) (Z w) (2*Z w)
def eZ(A:Mem)(e:aj)(n:Nat)(ls:List (List O))(x:O):Prop:=
 (x=.slice Y 0 0/\ls=[])\/∃b c p w,x=.slice (U ⟨b,p*n,Y⟩) (Z ls) c/\ai A e n b w (ZZ b w)/\(w.drop p).take (Z ls)=ls/\gh c n=aa/\Z ls<=bH c
variable {c n:Nat}
def EU(h:dH c=aa):gh c n=aa:=by unfold gh;rw[h];rfl
variable {m:Nat}
def EV(h:n<65536):gh (cu m n) n=aa:=by
 unfold gh;rw[iK,ba,lj h];exact uj n
variable {A:Mem}{b:Nat}{ls:List (List O)}
def ai.sub{e:Nat}{x:O}(h:ai A e n b ls x)(hn:n<65536):eZ A e n ls x:=by
 rcases h with h|⟨k,c,rfl,h2,h3,h4,h5⟩
 .exact .inl h
 .refine .inr ⟨b,c,0,ls,by rw[oB],.inr ⟨k,_,rfl,h2,h3,h4,.inl rfl⟩,by rw[vZ,dY],?_⟩;rcases h5 with rfl|⟨rfl,-⟩
  .exact⟨EU (by show aL (2*Z ls % 2) 0=aa;rw[Ej];rfl),by rw[qb];exact aJ _⟩
  .exact⟨EV hn,by rw[gB hn];exact aJ _⟩
variable {A':Mem}
def eZ.same{e:Nat}{x:O}(h:eZ A e n ls x)(hn:A.next<=A'.next)(hg:∀z,z<A.next->A'.get z=A.get z):eZ A' e n ls x:=by
 rcases h with h|⟨b,c,p,w,h1,h2,h3⟩
 .exact .inl h
 .exact .inr ⟨b,c,p,w,h1,h2.same hn (hg b),h3⟩
def eZ.self{e:Nat}{x:O}(h:eZ A e n ls x):x.cells.toList=[x]/\bI x=aa:=by
 rcases h with⟨rfl,-⟩|⟨b,c,p,w,rfl,-⟩<;>exact⟨rfl,rfl⟩
def eZ.len{e t t':Nat}{x:O}(h:eZ A e n ls x)(hu:tb.aB t=U (.slice t')):cQ tb .len [t] [x]=.ok (iN (Z ls)):=by
 rcases h with⟨rfl,rfl⟩|⟨b,c,p,w,rfl,-⟩<;>exact jY hu
variable {i j:Nat}
def eZ.cut{e t:Nat}{x:O}{hi:Option O}(h:eZ A e n ls x)(hu:tb.aB t=U (.slice e))(hs:aY tb e=.ok n)(hh:∀m,Z ls<=m->bound hi (Z ls) m=.ok j)(hij:i<=j)(hj:j<=Z ls):
 ∃x',eD tb t x (U (.int .i64 i)) hi Y=.ok x'/\eZ A e n ((ls.drop i).take (j-i)) x':=by
 have hlo:bound (U (.int .i64 i)) 0 j=.ok i:=qQ hij;rcases h with⟨rfl,rfl⟩|⟨b,c,p,w,rfl,h2,h3,h4,h5⟩
 .have e1:bound hi 0 (bH 0)=.ok j:=hh _ (a6 _);refine⟨.slice Y 0 0,?_,.inl ⟨rfl,by simp⟩⟩;unfold eD;simp only[hu,e1,R.aT,hlo,hs]
 .have e1:=hh _ h5;have hl:((ls.drop i).take (j-i)).length=j-i:=by rw[db,qx];omega
  cases hx:dH c&&aL (bH c) i with
  |true=>
   have hc:=dZ (Bool.and_eq_true_iff.1 hx).2;have e2:j-i=0:=by omega
   refine⟨.slice (U ⟨b,p*n,Y⟩) (j-i) 0,?_,.inr ⟨b,0,p,w,by rw[hl],h2,by rw[e2];rfl,EU rfl,by rw[hl,e2];exact a6 _⟩⟩;unfold eD;simp only[hu,e1,R.aT,hlo,hs,hx,aI]
  |false=>
   refine⟨.slice (U ⟨b,p*n+i*n,Y⟩) (j-i) (jt c i),?_,.inr ⟨b,jt c i,p+i,w,by rw[hl,oZ],h2,?_,?_,by rw[hl,uG];omega⟩⟩
   .unfold eD;simp only[hu,e1,R.aT,hlo,hs,hx,ba,h4,aI,fi]
   .rw[hl,<-He,<-h3,List.drop_take,zS,oA (by omega)]
   .cases hcx:dH c with
    |true=>exact EU (by rw[yP];exact hcx)
    |false=>
     unfold gh at h4;rw[hcx,ba]at h4;have he:=dZ h4;unfold jt;rw[hcx,ba,he];exact EV (by rw[<-he];exact iU _ (by omega))
variable {l:List O}{kd:cY}
def eZ.at{e t:Nat}{x:O}(h:eZ A e n ls x)(hu:tb.aB t=U (.slice e))(hs:aY tb e=.ok n)(hi:ls[i]?=U l):
 ∃b o,dQ tb t x (.int kd (i:Int))=.ok (pw b o)/\b<A.next/\(∀d,tb.aB e=U d->cW d=aa->ax tb A.get e (pw b o)=.ok (.agg ⟨l⟩))/\
  ∀(t':aj) (d:TypeDesc) (j:Nat) (v:O),tb.aB t'=U d->cW d=af->l[j]?=U v->ax tb A.get t' (pw b (o+j))=.ok v:=by
 have hil:=(bg.1 hi).1;rcases h with⟨rfl,rfl⟩|⟨b,c,p,w,rfl,h2,h3,h4,h5⟩
 .simp at hil
 .have hw:w[p+i]?=U l:=by
   rw[<-h3,oz,aC hil,rz]at hi;exact hi
  have hlt:=(bg.1 hw).1;have hll:Z l=n:=by
   rcases h2 with⟨-,rfl⟩|⟨k,c',-,-,-,h6,-⟩
   .simp at hlt
   .exact h6 l (fh hw)
  refine⟨b,(p+i)*n,?_,?_,λ d h6 h7=>ai.bU h2 h6 h7 hs hw,λ t' d j v h6 h7 h8=>ai.load h2 h6 h7 hw h8 (by rw[<-hll];exact(bg.1 h8).1)⟩
  .have hb:aM i (Z ls)=aa:=by rw[bT];exact hil
   have hn:iC (.int kd (i:Int))=.ok i:=rfl;unfold dQ;simp only[hn,hu,hb,aI,hs,R.aT,fi,oZ]
  .rcases h2 with⟨h6,-⟩|⟨k,c',-,h6,-⟩
   .cases h6
   .exact h6
end
end Go.Am
namespace Go.Proofs.YtdobfpkceacneaaGreatDoor.sto
open Go.Am Go.Mdl Go.Sto Go.Shelf
def DC{D:Mem}{a:cK}:bX I (D.alloc (ae 304 [bN 0,uN 0,iN 0])) 304 (pw D.next 0) (.agg ⟨cD a⟩)=.ok (D.alloc (ae 304 (cD a))):=ep Bp rfl rfl (by simp) (by simp[cD,bI])
def zy:cX I 304=.ok (.agg ⟨[bN 0,uN 0,iN 0]⟩):=by kernel_rfl
def C7(l:List cK)(j:Nat):Int:=if j=0 then-1 else(((l[j-1]?).map λ a=>a.byte.toNat).getD 0:Nat)
variable {j:Nat}
def qbp{l:List cK}(hp:(l.map (·.byte)).Pairwise (·<·))(hj:j<Z l):¬(((l[j].byte.toNat:Nat):Int)<=C7 l j):=by
 unfold C7;split
 .omega
 .rename_i h0;rw[aV (by omega)];have:=ue.1 hp (j-1) j (by rw[aR];omega) (by rw[aR];omega) (by omega);rw[v_,v_]at this;have:=BY.1 this;simp only[fZ,td];omega
def I9(t:T O):ev t (.const (.int .i64 (-1)))=.ok (.int .i64 (-1)):=rfl
def kr:=cg mN
def jO:aH:=sub kr [1,0,1,0,0]
def Ik:aH:=sub jO [1,1,0,0,1,1,1,1,0,0]
def Xn:mN.body=U (.seq (sub kr [0]) (.seq (.seq (sub kr [1,0,0]) (.block 0 (.loop jO))) (.seq (sub kr [1,1,0]) (sub kr [1,1,1])))):=by kernel_rfl
def M0:jO=(.seq (sub jO [0]) (.seq (sub jO [1,0]) (.seq (.block 1 (.seq (sub jO [1,1,0,0,0]) (.seq (sub jO [1,1,0,0,1,0]) (.seq (sub jO [1,1,0,0,1,1,0]) (.seq (sub jO [1,1,0,0,1,1,1,0]) (.block 2 (.loop Ik))))))) (sub jO [1,1,1])))):=by kernel_rfl
variable {A:Mem}{M:List ay}{y:O}{k:Nat}
def qfo(h:dJ A M y)(hM:M≠ [])(hg:eF M)(hl:Z M<1000000):∃v A',az I 207 [.agg ⟨[y,.int .u64 k]⟩] A v A'/\v=.bool aa/\Kp A A':=by
 refine c_ (aN Tryz.func207) Xn (by kernel_rfl) ?_;have kB:=Kp.alloc A (ae 149 [y,.int .u64 k]);have vB:=aK A 149 [y,.int .u64 k];apply W.q
 .intro M;simp(disch:=omega)only[kr,mN,Aq,V,aX];rfl
 have hB:=h.kp kB;generalize A.alloc (ae 149 [y,.int .u64 k])=B at kB vB hB;have ly:=λ D hD=>(vB.kp (A':=D) hD).l0 eK rfl
 have lB:=ly B (Kp.refl _);have c6:=hB.len;apply W.seq;apply W.q
 .intro M;simp(disch:=decide+kernel)only[kr,mN,Aq,V,jv,lB,c6];rfl
 apply W.block;refine W.up (Z M) (λ i t D=>Kp B D/\Sl t [(1,.pointer (U ⟨A.next,0,Y⟩)),(9,y),(10,.int .i64 (Z M)),(11,.int .i64 i)]) ?_ (a6 _) ⟨Kp.refl _,?_⟩
 .rintro i t D hi ⟨kD,g1,g9,g10,g11,-⟩;have hD:=hB.kp kD;by_cases hlt:i<Z M
  .have hMi:=aV hlt;obtain⟨l1,l2,l3,-,-⟩:=hg i _ hMi;have hfew:=y_ (hg i _ hMi);obtain⟨x,p,j1,j2,hx,-⟩:=hD.at hMi;generalize M[i]=s at*;have sE:=A6 hx;have kE:=Kp.alloc D (ae 239 (a_ x s));have vE:=aK D 239 (a_ x s);generalize D.alloc (ae 239 (a_ x s))=E at sE kE vE;have a0:=vE.l0 j9 rfl;have a1:=vE.m1 u4 rfl;have a2:=vE.m2 eE rfl;have hxE:=hx.kp kE;have lx:=hxE.len;rw[M0];apply W.q2
   .intro M _;simp(disch:=decide+kernel)only[jO,kr,mN,Aq,V,g10,g11,hlt];rfl
   apply W.seq;apply W.block;apply W.q
   .intro M;simp(disch:=omega)only[jO,kr,mN,Aq,V,g9,g11,j1,j2,vS,aX,sE];rfl
   apply W.seq;refine W.to (n:=56) (λ t D'=>D'=E/\Sl t [(1,.pointer (U ⟨A.next,0,Y⟩)),(3,.int .i64 i),(4,.pointer (U ⟨D.next,0,Y⟩)),(9,y),(10,.int .i64 (Z M)),(11,.int .i64 i)]) ?_ ?_
   .cases hf:s.fin with
    |true=>
     rw[hf]at a1;apply W.run 20
     .intro M;simp(disch:=first|decide+kernel|omega|simp only[Wq,V])only[jO,kr,mN,Aq,au,reduceIte,V,ak,jw,a1];rfl
     refine⟨rfl,_,_,rfl,rfl,?_⟩;simp only[Sq,V,ak,g1,g9,g10,g11]
    |false=>
     rw[hf]at a1;have ho:=l1 hf;rw[ho]at a2;apply W.run 20
     .intro M;simp(disch:=first|decide+kernel|omega|simp only[Wq,V])only[jO,kr,mN,Aq,au,reduceIte,V,ak,jw,uL,a1,a2];rfl
     refine⟨rfl,_,_,rfl,rfl,?_⟩;simp only[Sq,V,ak,g1,g9,g10,g11]
   .rintro t D' ⟨rfl,g1,g3,g4,g9,g10,g11,-⟩;apply W.q
    .intro M;simp(disch:=omega)only[jO,kr,mN,Aq,V,I9];rfl
    apply W.seq;apply W.run 20
    .intro M;simp(disch:=decide+kernel)only[jO,kr,mN,Aq,V,g4,mm,a0,lx];rfl
    apply W.block;refine W.up (Z s.arcs) (λ j t F=>Kp D' F/\Sl t [(1,.pointer (U ⟨A.next,0,Y⟩)),(3,.int .i64 i),(5,.int .i64 (C7 s.arcs j)),(9,y),(10,.int .i64 (Z M)),(11,.int .i64 i),(25,x),(26,.int .i64 (Z s.arcs)),(27,.int .i64 j)]) ?_ (a6 _) ⟨Kp.refl _,?_⟩
    .rintro j t F hj ⟨kF,g1,g3,g5,g9,g10,g11,g25,g26,g27,-⟩;by_cases hlt2:j<Z s.arcs
     .have hsj:=aV hlt2;obtain⟨q,q1,q2⟩:=(hxE.kp kF).at hsj;have ht:=l3 _ (ik hlt2);have hla:=qbp l2 hlt2;have hlv:C7 s.arcs (j+1)=((s.arcs[j].byte.toNat:Nat):Int):=by unfold C7;rw[aq (by omega),zW,hsj];rfl
      generalize s.arcs[j]=a at*;have sG:=DC (D:=F) (a:=a);have kG:=Kp.alloc F (ae 304 (cD a));have vG:=aK F 304 (cD a);generalize F.alloc (ae 304 (cD a))=G at sG kG vG;have b0:=vG.l0 u5 rfl;have b2:=vG.m2 u3 rfl;have ht2:¬i<=a.to:=by omega
      have cv:=ia (s:=5) (d:=3) (k:=.u8) (n:=a.byte.toNat) (by rw[u5];rfl) u3 (cS (by have:=a.byte.toNat_lt;omega));apply W.run 20
      .intro M;simp(disch:=first|decide+kernel|omega|simp only[Wq,V])only[Ik,jO,kr,mN,Aq,au,reduceIte,V,ak,g3,g5,g25,g26,g27,hlt2,q1,q2,zy,aX,sG,Ap,uM,b0,b2,iZ,hZ,ht2,cv,u6,hla];rfl
      refine⟨hlt2,_,_,rfl,kF.trans kG,?_⟩;simp only[Sq,V,ak,g1,g3,g9,g10,g11,g25,g26,hlv]
     .have e:j=Z s.arcs:=by omega
      subst e;apply W.run 20
      .intro M;simp(disch:=decide+kernel)only[Ik,jO,kr,mN,Aq,V,g26,g27];rfl
      apply W.run 20
      .intro M;simp(disch:=first|decide+kernel|omega)only[jO,kr,mN,Aq,V,g11];rfl
      refine⟨hlt,_,_,rfl,kD.trans (kE.trans kF),?_⟩;simp only[Sq,V,ak,g1,g9,g10]
    .simp only[Sq,V,ak,g1,g3,g9,g10,g11];rfl
  .have e:i=Z M:=by omega
   subst e;have lD:=ly D kD;have lenD:=hD.len;have hpos:=iG.2 hM;rw[M0];apply W.q
   .intro M;simp(disch:=decide+kernel)only[jO,kr,mN,Aq,V,g10,g11];rfl
   apply W.seq;apply W.run 20
   .intro M;simp only[jO,kr,mN,Aq,V];rfl
   apply W.seq;apply W.run 20
   .intro M;simp(disch:=decide+kernel)only[kr,mN,Aq,V,g1,jv,lD,lenD,fm,fk,hpos];rfl
   apply W.run 20
   .intro M;simp only[kr,mN,Aq,V];rfl
   exact⟨by simp,rfl,_,(by simp only[mN,Aq,V]<;>rfl),rfl,kB.trans kD⟩
 .simp only[Sq,V,ak]
def mT(s:Nat×Bool)(a:cK):Nat×Bool:=if s.2=af\/a.out<s.1 then(a.out,aa)else s
theorem PO:∀(l:List cK) (s:Nat×Bool),(s=(0,aa)\/∃a∈l,a.out=0)->l.foldl mT s=(0,aa)
 | [],s,h=>by
  rcases h with h|⟨a,h,-⟩
  .exact h
  .cases h
 |a::l,s,h=>by
  rw[mG];refine PO l _ ?_;rcases h with rfl|⟨b,hb,h0⟩
  .exact .inl (by unfold mT;rw[aq (by simp)])
  .rcases cC.1 hb with rfl|hb
   .refine .inl ?_;unfold mT;obtain⟨n,an⟩:=s;cases an with
    |false=>simp[h0]
    |true=>
     by_cases hn:b.out<n
     .rw[aC (.inr hn),h0]
     .rw[aq (by simp;omega)];rw[h0]at hn;have:n=0:=by omega
      rw[this]
   .exact .inr ⟨b,hb,h0⟩
variable {b o:Nat}
def uO:bM I 241 (pw b o) 0=.ok (pw b o):=by kernel_rfl
def pZ:=cg uv
def Cv:aH:=sub pZ [1,1,0,1,0,0]
def Xp:uv.body=U (.seq (sub pZ [0]) (.seq (sub pZ [1,0]) (.seq (.seq (sub pZ [1,1,0,0]) (.block 0 (.loop Cv))) (.seq (sub pZ [1,1,1,0]) (sub pZ [1,1,1,1]))))):=by kernel_rfl
variable {p:Nat}
def Sz{s:ay}{x z:O}(hx:gV A s.arcs x)(hp:VB A 241 p (.var 4) [x,.bool s.fin,.int .u64 s.out,z])(hl:Z s.arcs<=256):∃v A',az I 199 [.pointer (U ⟨p,0,Y⟩)] A v A'/\v=.int .u64 (((s.arcs.foldl mT (s.out,s.fin)).1:Nat):Int)/\Kp A A':=by
 refine c_ (aN Tryz.func199) Xp (by kernel_rfl) ?_;have a0:=hp.l0 j9 rfl;have a1:=hp.m1 u4 rfl;have a2:=hp.m2 eE rfl;have lx:=hx.len;apply W.q2
 .intro M _;simp(disch:=first|decide+kernel|omega|simp only[Wq,V])only[pZ,uv,Aq,V,au,reduceIte,ak,bW,bV,uO,jw,uL,a1,a2,Fq,bY []];rfl
 apply W.seq;apply W.q
 .intro M;simp(disch:=decide+kernel)only[pZ,uv,Aq,V,bW,bV,uO,mm,a0,lx];rfl
 apply W.block;refine W.up (Z s.arcs) (λ j t D=>Kp A D/\Sl t [(3,.int .u64 ((((s.arcs.take j).foldl mT (s.out,s.fin)).1:Nat):Int)),(4,.bool ((s.arcs.take j).foldl mT (s.out,s.fin)).2),(21,x),(22,.int .i64 (Z s.arcs)),(23,.int .i64 j)]) ?_ (a6 _) ⟨Kp.refl _,?_⟩
 .rintro j t D hj ⟨kD,g3,g4,g21,g22,g23,-⟩;by_cases hlt:j<Z s.arcs
  .have hsj:=aV hlt;obtain⟨q,q1,q2⟩:=(hx.kp kD).at hsj;have htk:(s.arcs.take (j+1)).foldl mT (s.out,s.fin)=mT ((s.arcs.take j).foldl mT (s.out,s.fin)) s.arcs[j]:=by rw[eH hlt,zM];rfl
   generalize s.arcs[j]=a at*;generalize (s.arcs.take j).foldl mT (s.out,s.fin)=w at*;obtain⟨n,an⟩:=w;have sG:=DC (D:=D) (a:=a);have kG:=Kp.alloc D (ae 304 (cD a));have vG:=aK D 304 (cD a);generalize D.alloc (ae 304 (cD a))=G at sG kG vG;have b1:=vG.m1 eE rfl;cases an with
   |false=>
    have e:mT (n,af) a=(a.out,aa):=by unfold mT;rw[aC (.inl rfl)]
    apply W.run 20
    .intro M;simp(disch:=first|decide+kernel|omega|simp only[Wq,V])only[Cv,pZ,uv,Aq,au,reduceIte,V,ak,g3,g4,g21,g22,g23,hlt,q1,q2,zy,aX,sG,yW,b1];rfl
    refine⟨hlt,_,_,rfl,kD.trans kG,?_⟩;rw[htk,e];simp only[Sq,V,ak,g21,g22]
   |true=>
    by_cases hn:a.out<n
    .have e:mT (n,aa) a=(a.out,aa):=by unfold mT;rw[aC (.inr hn)]
     apply W.run 20
     .intro M;simp(disch:=first|decide+kernel|omega|simp only[Wq,V])only[Cv,pZ,uv,Aq,au,reduceIte,V,ak,g3,g4,g21,g22,g23,hlt,q1,q2,zy,aX,sG,yW,b1,hn];rfl
     refine⟨hlt,_,_,rfl,kD.trans kG,?_⟩;rw[htk,e];simp only[Sq,V,ak,g21,g22]
    .have e:mT (n,aa) a=(n,aa):=by unfold mT;rw[aq (by simp;omega)]
     apply W.run 20
     .intro M;simp(disch:=first|decide+kernel|omega|simp only[Wq,V])only[Cv,pZ,uv,Aq,au,reduceIte,V,ak,g3,g4,g21,g22,g23,hlt,q1,q2,zy,aX,sG,yW,b1,hn];rfl
     refine⟨hlt,_,_,rfl,kD.trans kG,?_⟩;rw[htk,e];simp only[Sq,V,ak,g3,g4,g21,g22]
  .have e:j=Z s.arcs:=by omega
   subst e;rw[dY]at g3;apply W.run 20
   .intro M;simp(disch:=decide+kernel)only[Cv,pZ,uv,Aq,V,g22,g23];rfl
   apply W.run 40
   .intro M;simp(disch:=omega)only[pZ,uv,Aq,V,g3];rfl
   exact⟨by simp,rfl,_,(by simp only[uv,Aq,V]<;>rfl),rfl,kD⟩
 .simp only[Sq,V,ak];simp
def qfR{s:ay}{x z:O}(hx:gV A s.arcs x)(hp:VB A 241 p (.var 4) [x,.bool s.fin,.int .u64 s.out,z])(hl:Z s.arcs<=256)(h0:(s.fin=aa/\s.out=0)\/∃a∈s.arcs,a.out=0):∃v A',az I 199 [pw p 0] A v A'/\v=uN 0/\Kp A A':=by
 obtain⟨v,A',h1,rfl,h3⟩:=Sz hx hp hl;refine⟨_,A',h1,?_,h3⟩;rw[PO s.arcs (s.out,s.fin) (h0.imp (λ h=>by rw[h.1,h.2]) id)]
def xK:∃d,I.aB 98=U d/\cW d=af:=by
 have h:(I.aB 98).map cW=U af:=by kernel_rfl
 cases hq:I.aB 98 with
 |none=>rw[hq]at h;cases h
 |some d=>rw[hq]at h;exact⟨d,rfl,by simpa using h⟩
def Bl:I.aB 99=U (.map 3 173):=by kernel_rfl
def pM:I.aB 162=U (.map 9 3):=by kernel_rfl
def vU:cX I 3=.ok (iN 0):=by kernel_rfl
def uP:bM I 101 (pw b 0) 0=.ok (pw b 0):=by kernel_rfl
def Fp:bM I 101 (pw b 0) 1=.ok (pw b 1):=by kernel_rfl
def Fs:bM I 101 (pw b 0) 5=.ok (pw b 5):=by kernel_rfl
def Fh:bM I 165 (pw b 0) 0=.ok (pw b 0):=by kernel_rfl
def w_:bM I 165 (pw b 0) 1=.ok (pw b 1):=by kernel_rfl
def Fi:bM I 228 (pw b 0) 2=.ok (pw b 2):=by kernel_rfl
def numOf(ns:List (List UInt8))(w:List UInt8):Nat:=((ns.findIdx? λ n=>decide (w=n)).map (·+1)).getD 0
variable {mn c:Nat}{ns:List (List UInt8)}{w:List UInt8}
def J0(h:A.get mn=U (.map (dh ns 0) c)):
 oQ I A.get 162 (.map (U mn)) (ag w) aa=.ok (.tuple ⟨[.int .i64 (numOf ns w:Nat),.bool (decide (numOf ns w≠0))]⟩):=by
 have hk:e_ I 9 (ag w)=aa:=by unfold e_;rw[u9];rfl
 unfold oQ numOf;simp only[pM,hk,aI,uK,h,R.aT,Db,vU];cases ns.findIdx? λ n=>decide (w=n)with
 |none=>rfl
 |some i=>simp[ye]
def wY{t:bA}:gP I A.get .eql 98 t (.const (.pointer Y)) (pw b 0) (.pointer Y)=.ok (.bool af):=by kernel_rfl
variable {pf:Nat}
def Sn{ml x:O}(h:VB A 165 pf (.var 4) [ml,.map (U mn),x,y])(hm:A.get mn=U (.map (dh ns 0) c)):
 az I 168 [pw pf 0,ag w] A (.tuple ⟨[iN (numOf ns w),.bool (decide (numOf ns w≠0))]⟩) A:=by
 have l1:=h.l1 pM rfl;have l2:=J0 (w:=w) hm;refine cG 60 (aN Tryz.func168) (by kernel_rfl) λ M=>?_
 simp(disch:=decide+kernel)only[Tryz.f168,Aq,V,eW,wY,bW,bV,w_,l1,uZ,l2,dX,dU,eO]<;>rfl
variable {mf:Nat}{ps:List Nat}
def P2{q:Nat}(h:A.get mf=U (.map (mR ps 0) c))(hq:ps[q]?=U p):
 oQ I A.get 99 (.map (U mf)) (iN (q+1)) af=.ok (pw p 0):=by
 have hk:e_ I 3 (iN (q+1))=aa:=by unfold e_;rw[u3]
 unfold oQ;simp only[Bl,hk,aI,uK,h,R.aT,Js q ps 0 0 (a6 _),iV,hq];rfl
def UZ(A:Mem)(p:Nat)(fs:List (List UInt8×List UInt8)):Prop:=
 ∃pf mf mn cf cn ps ml q st ar x y,VB A 101 p (.var 6) [pw pf 0,.map (U mf),q,st,ar,.bool af]/\VB A 165 pf (.var 4) [ml,.map (U mn),x,y]/\
  (mn<A.next/\A.get mn=U (.map (dh (fs.map (·.1)) 0) cn))/\(mf<A.next/\A.get mf=U (.map (mR ps 0) cf))/\
  ∀(i:Nat) (s:List UInt8×List UInt8),fs[i]?=U s->∃b d a,ps[i]?=U b/\VB A 228 b (.var 3) [d,a,ag s.2]
def fileOf(fs:List (List UInt8×List UInt8))(w:List UInt8):Option (List UInt8):=(fs.find? λ f=>decide (w=f.1)).map (·.2)
theorem Qq(w:List UInt8):∀fs:List (List UInt8×List UInt8),(numOf (fs.map (·.1)) w=0/\fileOf fs w=Y)\/∃i s,numOf (fs.map (·.1)) w=i+1/\fs[i]?=U s/\fileOf fs w=U s.2
 | []=>.inl ⟨rfl,rfl⟩
 |f::fs=>by
  unfold numOf fileOf;rw[eU,List.findIdx?_cons,List.find?_cons];by_cases h:w=f.1
  .simp only[h,decide_true,bR];exact .inr ⟨0,f,rfl,rfl,rfl⟩
  .simp only[h,decide_false,ed,bO];rcases Qq w fs with⟨h1,h2⟩|⟨i,s,h1,h2,h3⟩
   .unfold numOf at h1;unfold fileOf at h2;refine .inl ⟨?_,h2⟩;cases hq:(fs.map (·.1)).findIdx? λ n=>decide (w=n)with
    |none=>rfl
    |some i=>rw[hq]at h1;simp at h1
   .unfold numOf at h1;unfold fileOf at h3;refine .inr ⟨i+1,s,?_,h2,h3⟩;cases hq:(fs.map (·.1)).findIdx? λ n=>decide (w=n)with
    |none=>rw[hq]at h1;simp at h1
    |some j=>rw[hq]at h1;simp only[fZ,td]at h1⊢;omega
def CK{t:bA}:gP I A.get .eql 25 t (.const (.pointer Y)) (pw b 0) (.pointer Y)=.ok (.bool af):=by kernel_rfl
def E'{t:bA}:gP I A.get .eql 173 t (.const (.pointer Y)) (pw b 0) (.pointer Y)=.ok (.bool af):=by kernel_rfl
def qe1{a b c d e:O}{z:Bool}(h:VB A 101 p (.var 6) [a,b,c,d,e,.bool z]):az I 39 [pw p 0] A (.bool z) A:=by
 have l1:=h.l5 u4 rfl;refine cG 60 (aN Tryz.func39) (by kernel_rfl) λ M=>?_
 simp(disch:=first|decide+kernel|omega|simp only[Wq,V])only[Tryz.f39,Aq,au,reduceIte,V,ak,eW,CK,bW,bV,Fs,l1,eO]<;>rfl
def Fw(ps:List Nat)(n:Nat):O:=.pointer ((if n=0 then Y else ps[n-1]?).map λ b=>⟨b,0,Y⟩)
def run_read{cf cn:Nat}{ml q st ar x:O}{fs:List (List UInt8×List UInt8)}(h1:VB A 101 p (.var 6) [pw pf 0,.map (U mf),q,st,ar,.bool af])(h2:VB A 165 pf (.var 4) [ml,.map (U mn),x,y])
 (h3:A.get mn=U (.map (dh (fs.map (·.1)) 0) cn))(h4:A.get mf=U (.map (mR ps 0) cf))(h5:∀(i:Nat) (s:List UInt8×List UInt8),fs[i]?=U s->∃b,ps[i]?=U b):
 az I 222 [pw p 0,ag w] A (.tuple ⟨[Fw ps (numOf (fs.map (·.1)) w),iN (if numOf (fs.map (·.1)) w=0 then 9 else 0)]⟩) A:=by
 have l0:ax I A.get 98 (pw p 0)=.ok (pw pf 0):=by obtain⟨d,hd,ha⟩:=xK;exact h1.ld rfl hd ha
 have l1:=h1.l1 Bl rfl;have l5:=h1.l5 u4 rfl;obtain⟨g,hg⟩:=Sn h2 h3;rcases Qq w fs with⟨e1,-⟩|⟨i,s,e1,e2,-⟩
 .rw[e1]at hg⊢;refine bQ (g) 60 (aN Tryz.func222) (by kernel_rfl) λ M hM=>?_
  simp(disch:=first|decide+kernel|omega)only[Tryz.f222,Aq,V,eW,CK,bW,bV,uP,Fp,Fs,l0,l1,l5,hg,dX,dU,eO,Fw,Hz]<;>rfl
 .rw[e1]at hg⊢;obtain⟨b,hb⟩:=h5 i s e2;have l2:=P2 h4 hb;refine bQ (g) 60 (aN Tryz.func222) (by kernel_rfl) λ M hM=>?_
  simp(disch:=first|decide+kernel|omega)only[Tryz.f222,Aq,V,eW,CK,bW,bV,uP,Fp,Fs,l0,l1,l5,hg,dX,dU,eO,Fw,uZ,l2,Nat.add_one_ne_zero,zW,hb,fZ]<;>rfl
def qeO{d a:O}{s:List UInt8}(h:VB A 228 b (.var 3) [d,a,ag s]):az I 223 [pw b 0] A (ag s) A:=by
 have l2:=h.l2 u9 rfl;refine cG 60 (aN Tryz.func223) (by kernel_rfl) λ M=>?_
 simp(disch:=decide+kernel)only[Tryz.f223,Aq,V,eW,E',bW,bV,Fi,l2,eO]<;>rfl
def Gb:I.aB 123=U (.slice 5):=DP
def q5:aY I 5=.ok 1:=by kernel_rfl
def im(A:Mem)(b:Nat)(l:List UInt8)(x:O):Prop:=eY A 5 b (dw l) x/\l.Pairwise (·<·)/\Z l<=256
variable {B:Mem}
def im.kp{l:List UInt8}{x:O}(h:im A b l x)(k:Kp A B):im B b l x:=⟨h.1.same k.1 (k.2 b),h.2⟩
def im.len{l:List UInt8}{x:O}(h:im A b l x):cQ I .len [123] [x]=.ok (iN (Z l)):=by
 have:=eY.len h.1 Gb;rwa[jk]at this
variable {i:Nat}
def im.at{l:List UInt8}{x:O}(h:im A b l x)(hi:i<Z l):dQ I 123 x (.int .i64 i)=.ok (pw b i)/\ax I A.get 5 (pw b i)=.ok (bN (l[i].toNat)):=
 ⟨eY.idx h.1 Gb q5 (by rw[jk];exact hi),eY.load h.1 u5 rfl (by unfold dw;rw[da,aV hi];rfl)⟩
def im.le{l:List UInt8}{x:O}(h:im A b l x)(hij:i<=j)(hj:j<Z l):¬l[j].toNat<(l[i]'(by omega)).toNat:=by
 rcases d_ i j with hlt|hge
 .have:=BY.1 (ue.1 h.2.1 i j (by omega) hj hlt);omega
 .have:i=j:=by omega
  subst this;omega
variable {n:Nat}
def qeL:az I 311 [.int .u8 n] A (.bool af) A:=by
 refine cG 60 (aN Tryz.func311) (by kernel_rfl) λ M=>?_
 simp(disch:=decide+kernel)only[Tryz.f311,Aq,V]<;>rfl
def qeK{a:Nat}:az I 304 [.int .u8 a,.int .u8 b] A (.bool (decide (a<b))) A:=by
 obtain⟨g1,h1⟩:=qeL (A:=A) (n:=a);refine bQ (g1) 60 (aN Tryz.func304) (by kernel_rfl) λ M hM=>?_
 simp(disch:=first|decide+kernel|omega|simp only[Wq,V])only[Tryz.f304,Aq,au,reduceIte,V,ak,h1]<;>rfl
def im.less{l:List UInt8}{x:O}(h:im A b l x)(hij:i<=j)(hj:j<Z l):∃g,∀M,g<=M->cH I (exec I M) (.fn 304 [bN (l[j].toNat),bN ((l[i]'(by omega)).toNat)]) A=.ok (.val (.bool af) A):=by
 have h1:=qeK (A:=A) (a:=l[j].toNat) (b:=(l[i]'(by omega)).toNat)
 rwa[decide_eq_false (h.le hij hj)]at h1
def wU:=cg wu
def rV:aH:=sub wU [1,0,0]
def M5:aH:=sub rV [1,0,0,1,0,0]
def XM:wu.body=U (.seq (sub wU [0]) (.block 0 (.loop rV))):=by kernel_rfl
def M4:rV=(.seq (sub rV [0]) (.seq (.block 1 (.seq (sub rV [1,0,0,0]) (.block 2 (.loop M5)))) (sub rV [1,1]))):=by kernel_rfl
def qfx{l:List UInt8}{x:O}(h:im A b l x):∃v A',az I 298 [x,iN 0,iN (Z l)] A v A'/\v=cL/\A'=A:=by
 refine c_ (aN Tryz.func298) XM (by kernel_rfl) ?_;have hl:=h.2.2;apply W.q
 .intro M;simp(disch:=decide+kernel)only[wU,wu,Aq,V];rfl
 apply W.block;refine W.up (Z l-1) (λ k t D=>D=A/\Sl t [(0,x),(1,iN 0),(2,iN (Z l)),(6,iN (k+1))]) ?_ (a6 _) ⟨rfl,?_⟩
 .rintro k t D hk ⟨rfl,g0,g1,g2,g6,-⟩;by_cases hlt:k+1<Z l
  .obtain⟨i1,i2⟩:=h.at hlt;obtain⟨j1,j2⟩:=h.at (i:=k) (by omega);obtain⟨g,hg⟩:=h.less (i:=k) (by omega) hlt;have s1:bj .sub .i64 ((k+1:Nat):Int) ((1:Nat):Int)=.ok (iN k):=gS (by omega) (cS (by omega));have hz:0<k+1:=by omega
   rw[M4];apply W.q
   .intro M;simp(disch:=decide+kernel)only[rV,wU,wu,Aq,V,g2,g6,hlt];rfl
   apply W.seq;apply W.block;apply W.q
   .intro M;simp(disch:=first|decide+kernel|omega)only[rV,wU,wu,Aq,V,g6];rfl
   apply W.block;apply W.round;apply W.ct (g) 20
   .intro M hM;simp(config:={maxSteps:=4000000})(disch:=first|decide+kernel|omega|simp only[Wq,V])only[M5,rV,wU,wu,Aq,au,reduceIte,V,ak,g0,g1,g2,g6,fm,fk,hz,s1,i1,i2,j1,j2,hg,Fq,bY []];rfl
   apply W.run 20
   .intro M;simp(disch:=first|decide+kernel|omega)only[rV,wU,wu,Aq,V,g6];rfl
   refine⟨by omega,_,_,rfl,rfl,?_⟩;simp only[Sq,V,ak,g0,g1,g2]
  .rw[M4];apply W.seq;apply W.run 20
   .intro M;simp(disch:=decide+kernel)only[rV,wU,wu,Aq,V,g2,g6,hlt];rfl
   exact⟨by simp,rfl,_,(by simp only[wu,Aq,V]<;>rfl),rfl,rfl⟩
 .simp only[Sq,V,ak]
def rW:=cg wv
def rX:aH:=sub rW [1,1,0,1,0,0]
def IB:aH:=sub rX [1,0,0,0,0,0]
def XN:wv.body=U (.seq (sub rW [0]) (.seq (sub rW [1,0]) (.seq (.seq (sub rW [1,1,0,0]) (.block 0 (.loop rX))) (sub rW [1,1,1])))):=by kernel_rfl
def XO:rX=(.seq (sub rX [0]) (.seq (.block 1 (.seq (.block 2 (.loop IB)) (.seq (sub rX [1,0,0,1,0]) (sub rX [1,0,0,1,1])))) (sub rX [1,1]))):=by kernel_rfl
def qf2{l:List UInt8}{x:O}(h:im A b l x)(h0:0<Z l):∃v A',az I 303 [x,iN 0,iN (Z l)] A v A'/\v=.bool aa/\A'=A:=by
 refine c_ (aN Tryz.func303) XN (by kernel_rfl) ?_;have hl:=h.2.2;apply W.q2
 .intro M _;simp(disch:=decide+kernel)only[rW,wv,Aq,V];rfl
 apply W.seq;apply W.q
 .intro M;simp(disch:=omega)only[rW,wv,Aq,V];rfl
 apply W.block;apply W.round;rw[XO];have h5:0<5:=by omega
 apply W.q
 .intro M;simp(disch:=decide+kernel)only[rX,rW,wv,Aq,V,h5];rfl
 apply W.seq;apply W.block;apply W.seq;apply W.block;refine W.up (Z l-1) (λ k t D=>D=A/\Sl t [(0,x),(2,iN (Z l)),(7,iN (k+1))]) ?_ (a6 _) ⟨rfl,?_⟩
 .rintro k t D hk ⟨rfl,g0,g2,g7,-⟩;by_cases hlt:k+1<Z l
  .obtain⟨i1,i2⟩:=h.at hlt;obtain⟨j1,j2⟩:=h.at (i:=k) (by omega);obtain⟨g,hg⟩:=h.less (i:=k) (by omega) hlt;have s1:bj .sub .i64 ((k+1:Nat):Int) ((1:Nat):Int)=.ok (iN k):=gS (by omega) (cS (by omega));apply W.ct (g) 20
   .intro M hM;simp(config:={maxSteps:=4000000})(disch:=first|decide+kernel|omega|simp only[Wq,V])only[IB,rX,rW,wv,Aq,au,reduceIte,V,ak,g0,g2,g7,hlt,s1,i1,i2,j1,j2,hg,Fq,bY []];rfl
   refine⟨by omega,_,_,rfl,rfl,?_⟩;simp only[Sq,V,ak,g0,g2]
  .have e:k+1=Z l:=by omega
   rw[e]at g7;apply W.run 20
   .intro M;simp(disch:=first|decide+kernel|omega|simp only[Wq,V])only[IB,rX,rW,wv,Aq,au,reduceIte,V,ak,g0,g2,g7,gY,Fq,bY []];rfl
   apply W.seq;apply W.run 20
   .intro M;simp(disch:=decide+kernel)only[rX,rW,wv,Aq,V,g2,g7];rfl
   exact⟨by simp,rfl,_,(by simp only[wv,Aq,V]<;>rfl),rfl,rfl⟩
 .simp only[Sq,V,ak]
def SA{q l:_}{x:O}(h:im A b l x)(hij:i<=j)(hj:j<Z l):az I 312 [x,.int .i64 i,.int .i64 j,q] A (.tuple ⟨[.int .i64 i,.int .i64 j]⟩) A:=by
 obtain⟨i1,i2⟩:=h.at hj;obtain⟨j1,j2⟩:=h.at (i:=i) (by omega);obtain⟨g,hg⟩:=h.less hij hj;refine bQ (g) 60 (aN Tryz.func312) (by kernel_rfl) λ M hM=>?_
 simp(disch:=first|decide+kernel|omega|simp only[Wq,V])only[Tryz.f312,Aq,au,reduceIte,V,ak,i1,i2,j1,j2,hg,Fq,bY []]<;>rfl
def Sx{q l:_}{x:O}(h:im A b l x)(hij:i<=j)(hjk:j<=k)(hk:k<Z l):az I 310 [x,.int .i64 i,.int .i64 j,.int .i64 k,q] A (.int .i64 j) A:=by
 obtain⟨g1,h1⟩:=SA (q:=q) h hij (by omega);obtain⟨g2,h2⟩:=SA (q:=q) h hjk hk;refine bQ (g1+g2) 60 (aN Tryz.func310) (by kernel_rfl) λ M hM=>?_
 simp(disch:=omega)only[Tryz.f310,Aq,V,h1,h2,dX,dU]<;>rfl
def KM{q l:_}{x:O}(h:im A b l x)(h1:1<=i)(hi:i+1<Z l):az I 309 [x,.int .i64 i,q] A (.int .i64 i) A:=by
 obtain⟨g,hg⟩:=Sx (q:=q) (i:=i-1) (j:=i) h (by omega) (by omega) hi;have hl:=h.2.2;have s1:=gS (by omega) (cS (by omega));have a1:bj .add .i64 ((i:Nat):Int) ((1:Nat):Int)=.ok (iN (i+1)):=fc (cS (by omega));refine bQ (g) 60 (aN Tryz.func309) (by kernel_rfl) λ M hM=>?_
 simp(disch:=first|decide+kernel|omega)only[Tryz.f309,Aq,V,hg,s1,a1]<;>rfl
def qfX{l:List UInt8}{x:O}(h:im A b l x)(h0:13<=Z l):∃m A',az I 301 [x,iN 0,iN (Z l)] A (.tuple ⟨[iN m,iN 1]⟩) A'/\Kp A A':=by
 have hl:=h.2.2;have kB:=Kp.alloc A (ae 3 [iN 0]);have vB:=aK A 3 [iN 0];have hB:=h.kp kB;refine⟨Z l/4*2,A.alloc (ae 3 [iN 0]),?_,kB⟩;generalize hBe:A.alloc (ae 3 [iN 0])=B at kB vB hB;have lB:=vB.l0 u3 rfl;obtain⟨g,hg⟩:=Sx (q:=pV A.next) (i:=Z l/4) (j:=Z l/4*2) (k:=Z l/4*3) hB (by omega) (by omega) (by omega);obtain⟨g1,h1⟩:=KM (q:=pV A.next) (i:=Z l/4) hB (by omega) (by omega);obtain⟨g2,h2⟩:=KM (q:=pV A.next) (i:=Z l/4*2) hB (by omega) (by omega);obtain⟨g3,h3⟩:=KM (q:=pV A.next) (i:=Z l/4*3) hB (by omega) (by omega);have q1:∀c:Nat,c<=3->bj .mul .i64 ((Z l/4:Nat):Int) ((c:Nat):Int)=.ok (iN (Z l/4*c)):=λ c hc=>Di (cS (by have:Z l/4*c<=Z l/4*3:=Nat.mul_le_mul_left _ hc;omega))
 have m1:=q1 1 (by omega);have m2:=q1 2 (by omega);have m3:=q1 3 (by omega);rw[nf]at m1;have a0:∀n:Nat,n<1000->bj .add .i64 ((0:Nat):Int) ((n:Nat):Int)=.ok (iN n):=λ n hn=>by rw[fc (cS (by omega)),dO]
 have a1:=a0 (Z l/4) (by omega);have a2:=a0 (Z l/4*2) (by omega);have a3:=a0 (Z l/4*3) (by omega);have h8:8<=Z l:=by omega
 simp only[pV]at*;by_cases h50:50<=Z l
 .skip
  refine bQ (g+g1+g2+g3) 60 (aN Tryz.func301) (by kernel_rfl) λ M hM=>?_
  simp(config:={maxSteps:=4000000})(disch:=first|decide+kernel|omega|simp only[Wq,V])only[Tryz.f301,Aq,au,reduceIte,V,ak,vU,sd,iV,hBe,m1,m2,m3,a1,a2,a3,iZ,hZ,h8,h50,hg,h1,h2,h3,lB]<;>rfl
 .skip
  refine bQ (g) 60 (aN Tryz.func301) (by kernel_rfl) λ M hM=>?_
  simp(config:={maxSteps:=4000000})(disch:=first|decide+kernel|omega|simp only[Wq,V])only[Tryz.f301,Aq,au,reduceIte,V,ak,vU,sd,iV,hBe,m1,m2,m3,a1,a2,a3,iZ,hZ,h8,h50,hg,lB]<;>rfl
def Ah:=cg Ad
def IA:aH:=sub Ah [1,1,0,0]
def XL:Ad.body=U (.seq (sub Ah [0]) (.seq (sub Ah [1,0]) (.block 0 (.loop IA)))):=by kernel_rfl
variable {m:Nat}
def qfW{l:List UInt8}{x:O}(h:im A b l x)(hm:0<Z l->m≠0):∃v A',az I 295 [x,iN 0,iN (Z l),.int .i64 m] A v A'/\v=cL/\Kp A A':=by
 refine c_ (aN Tryz.func295) XL (by kernel_rfl) ?_;have hl:=h.2.2;apply W.q2
 .intro M _;simp(disch:=omega)only[Ah,Ad,Aq,V];rfl
 apply W.block;apply W.round;by_cases h12:Z l<=12
 .obtain⟨v,B,⟨g,hg⟩,rfl,rfl⟩:=qfx h;apply W.ct (g) 20
  .intro M hM;simp(disch:=first|decide+kernel|omega)only[IA,Ah,Ad,Aq,V,iV,h12,hg];rfl
  exact⟨by simp,rfl,_,(by simp only[Ad,Aq,V]<;>rfl),rfl,Kp.refl _⟩
 .obtain⟨p,B,⟨g,hg⟩,kB⟩:=qfX h (by omega);obtain⟨v,C,⟨g2,hg2⟩,rfl,rfl⟩:=qf2 (h.kp kB) (by omega);have hm:=hm (by omega);apply W.ct (g+g2) 20
  .intro M hM;simp(config:={maxSteps:=4000000})(disch:=first|decide+kernel|omega|simp only[Wq,V])only[IA,Ah,Ad,Aq,au,reduceIte,V,ak,iV,h12,hg,hg2,hm,dX,dU,Fq,bY []];rfl
  exact⟨by simp,rfl,_,(by simp only[Ad,Aq,V]<;>rfl),rfl,kB⟩
def Pm{l:List UInt8}(hl:(aL (Z l) 256&&(jE 256).all λ i=>aL (l.getD i 0).toNat (f_ i))=aa)(h:n<256):uS I 9 (ag l) (.int .u8 n)=.ok (bN (f_ n)):=Pk hl h
def qfA(hn:n<=256):∃m:Nat,(0<n->m≠0)/\az I 227 [.int .u64 n] A (.int .i64 m) A:=by
 have k1:¬4294967296<=n:=by omega
 have k2:¬65536<=n:=by omega
 by_cases h:n<256
 .have k3:¬256<=n:=by omega
  have hb:=MI h;have hp:0<n->f_ n≠0:=λ h=>by unfold f_;rw[aq (by omega)];omega
  have c1:=ia (k:=.u64) (by rw[eE];rfl) u5 (uR h);have c2:=ia (tb:=I) (s:=5) (d:=3) (k:=.u8) (n:=f_ n) (by rw[u5];rfl) u3 (cS (by omega));refine⟨f_ n,hp,?_⟩;refine cG 60 (aN Tryz.func227) (by kernel_rfl) λ M=>?_
  simp(disch:=first|decide+kernel|omega)only[Tryz.f227,Aq,V,iZ,hZ,k1,k2,k3,c1,c2,Pm,dO]<;>rfl
 .have e:n=256:=by omega
  subst e;have c1:=ia (tb:=I) (s:=147) (d:=5) (k:=.u64) (n:=256>>>8) (by rw[eE];rfl) u5 (by rfl);have c2:=ia (tb:=I) (s:=5) (d:=3) (k:=.u8) (n:=f_ (256>>>8)) (by rw[u5];rfl) u3 (by kernel_rfl);refine⟨8+f_ (256>>>8),by omega,?_⟩;refine cG 60 (aN Tryz.func227) (by kernel_rfl) λ M=>?_
  simp only[Tryz.f227,Aq,V,iZ,hZ,k1,k2,aJ,c1,c2,Pm,K0,dO]<;>rfl
def qiR:I.aB 295=U (.int .u64):=by kernel_rfl
def qeJ(hn:n<=256):∃m:Nat,(0<n->m≠0)/\az I 194 [.int .u64 n] A (.int .i64 m) A:=by
 obtain⟨m,hm,g,hg⟩:=qfA (A:=A) hn;refine⟨m,hm,?_⟩;refine bQ (g) 60 (aN Tryz.func194) (by kernel_rfl) λ M hM=>?_
 simp(disch:=omega)only[Tryz.f194,Aq,V,hg]<;>rfl
def SF{l:List UInt8}{x:O}(h:im A b l x):∃A',az I 289 [x] A cL A'/\Kp A A':=by
 obtain⟨m,hm,g,hg⟩:=qeJ (A:=A) h.2.2;obtain⟨v,B,⟨g2,h2⟩,rfl,kB⟩:=qfW h hm;have hl:=h.2.2;have lx:=h.len;have cv:=ia (k:=.i64) (n:=Z l) (by rw[u3];rfl) qiR (iz (by omega));refine⟨B,?_,kB⟩;refine bQ (g+g2) 60 (aN Tryz.func289) (by kernel_rfl) λ M hM=>?_
 simp(disch:=first|decide+kernel|omega)only[Tryz.f289,Aq,V,lx,cv,hg,h2]<;>rfl
def qb(n:Nat):bH (2*n)=n/\dH (2*n)=aa:=by
 have h:dH (2*n)=aa:=by unfold dH;rw[pS];show 2*n % 2=0;omega
 refine⟨?_,h⟩;unfold bH;rw[h,aI];show 2*n/2=n;omega
variable {tb:aO}{ls:List (List O)}
def Tn{e t:aj}{x:O}(h:ai A e n b ls x)(hu:tb.aB t=U (.slice e))(hs:aY tb e=.ok n)(hn:n<65536)(h0:ls=[]->x=.slice Y 0 0):
 ∃x',eD tb t x Y (U (.int .i64 (Z ls))) (U (.int .i64 (Z ls)))=.ok x'/\ai A e n b ls x'/\(x=.slice Y 0 0->x'=.slice Y 0 0):=by
 have hb:∀m:Nat,bound (U (.int .i64 m)) 0 m=.ok m:=λ m=>by
  show(bif au m m then R.ok m else _)=_;rw[show au m m=aa by rw[pT];exact aJ _];rfl
 rcases h with⟨rfl,rfl⟩|⟨k,c,rfl,h2,h3,h4,h5⟩
 .refine⟨.slice Y 0 0,?_,ai.nil _ _ _ _,λ _=>rfl⟩;unfold eD;simp only[hu,hs,R.aT];rfl
 .have hne:Z ls≠0:=λ e=>by
   have:=h0 (eQ.1 e);cases this
  have hc:bH c=Z ls/\(dH c||(gh c n&&aM 0 (bH c)))=aa:=by
   rcases h5 with rfl|⟨rfl,-⟩
   .obtain⟨q1,q2⟩:=qb (Z ls);exact⟨q1,by rw[q2];rfl⟩
   .have q:=gB (n:=Z ls) hn;refine⟨q,?_⟩;have e1:gh (cu (Z ls) n) n=aa:=by
     unfold gh;rw[iK,ba,pS];show(2*(Z ls*65536+n)+1)/2 % 65536=n;omega
    rw[iK,e1,q,show aM 0 (Z ls)=aa by rw[bT];omega];rfl
  refine⟨.slice (U ⟨b,0,Y⟩) (Z ls) (2*Z ls),?_,.inr ⟨k,_,rfl,h2,h3,h4,.inl rfl⟩,λ h=>by cases h⟩;unfold eD;simp only[hu];rw[hc.1];have hb0:bound Y 0 (Z ls)=.ok 0:=rfl;have hc2:=hc.2;rw[hc.1]at hc2;simp only[hb,R.aT,hb0,hs,hc.2,hc2,aI,oB];rw[show aL (Z ls) 0=af by cases hq:aL (Z ls) 0 with
   |false=>rfl
   |true=>exact aZ (dZ hq) hne]
  rfl
def qhw{e t:aj}{x:O}(h:ai A e n b ls x)(hu:tb.aB t=U (.slice e))(hs:aY tb e=.ok n)(hn:n<65536)(h0:ls=[]->x=.slice Y 0 0):
 ∃x',eD tb t x Y (U (.int .i64 (Z ls))) Y=.ok x'/\ai A e n b ls x':=by
 rcases h with⟨rfl,rfl⟩|⟨k,c,rfl,h2,h3,h4,h5⟩
 .refine⟨.slice Y 0 0,?_,ai.nil _ _ _ _⟩;unfold eD;simp only[hu,hs,R.aT];rfl
 .have hne:Z ls≠0:=λ e=>by
   have:=h0 (eQ.1 e);cases this
  have hc:bH c=Z ls/\gh c n=aa/\jt c 0=c:=by
   rcases h5 with rfl|⟨rfl,-⟩
   .obtain⟨q1,q2⟩:=qb (Z ls);refine⟨q1,?_,?_⟩
    .unfold gh;rw[q2];rfl
    .unfold jt;rw[q2,q1];rfl
   .have q:=gB (n:=Z ls) hn;have e0:gM (cu (Z ls) n)=n:=by
     show(2*(Z ls*65536+n)+1)/2 % 65536=n;omega
    refine⟨q,?_,?_⟩
    .unfold gh;rw[iK,ba,e0,pS]
    .unfold jt;rw[iK,ba,q,e0];rfl
  refine⟨.slice (U ⟨b,0,Y⟩) (Z ls) c,?_,.inr ⟨k,_,rfl,h2,h3,h4,h5⟩⟩;unfold eD;simp only[hu];rw[hc.1];have hb:bound (U (.int .i64 (Z ls))) (Z ls) (Z ls)=.ok (Z ls):=by
   show(bif au (Z ls) (Z ls)then R.ok (Z ls)else _)=_;rw[show au (Z ls) (Z ls)=aa by rw[pT];exact aJ _];rfl
  have hb0:bound Y 0 (Z ls)=.ok 0:=rfl;simp only[hb,R.aT,hb0,hs,oB,hc.2.1,hc.2.2,aI];rw[show aL (Z ls) 0=af by cases hq:aL (Z ls) 0 with
   |false=>rfl
   |true=>exact aZ (dZ hq) hne,Bool.and_false]
  rfl
theorem J9(w:List UInt8):∀(ns:List (List UInt8)) (o:Nat),dh (ns++[w]) o=dh ns o++[⟨ag w,.int .i64 (o+Z ns+1:Nat),o+Z ns⟩]
 | [],o=>rfl
 |n::ns,o=>by
  rw[ij,dh,J9 w ns (o+1),dh,ij,cd,show o+1+Z ns=o+(Z ns+1) by omega]
theorem Ot(p:Nat):∀(ps:List Nat) (o:Nat),mR (ps++[p]) o=mR ps o++[⟨.int .i64 (o+Z ps+1:Nat),.pointer (U ⟨p,0,Y⟩),o+Z ps⟩]
 | [],o=>rfl
 |n::ps,o=>by
  rw[ij,mR,Ot p ps (o+1),mR,ij,cd,show o+1+Z ps=o+(Z ps+1) by omega]
def Us(h:A.get mn=U (.map (dh ns 0) (Z ns)))(hw:w∉ns):
 mw I A 162 (.map (U mn)) (ag w) (iN (Z ns+1))=.ok (A.set mn (.map (dh (ns++[w]) 0) (ns++[w]).length)):=by
 have hk:e_ I 9 (ag w)=aa:=by unfold e_;rw[u9];rfl
 have hf:ns.findIdx? (λ n=>decide (w=n))=Y:=by
  rw[Hk];intro n hn;simpa using λ e:w=n=>hw (e▸hn)
 unfold mw;simp only[pM,hk,aI,h,Db,hf,Hz];rw[J9,dO,aU];rfl
def qi3(h:A.get mf=U (.map (mR ps 0) (Z ps))):
 mw I A 99 (.map (U mf)) (iN (Z ps+1)) (pw p 0)=.ok (A.set mf (.map (mR (ps++[p]) 0) (ps++[p]).length)):=by
 have hk:e_ I 3 (iN (Z ps+1))=aa:=by unfold e_;rw[u3]
 have hf:ps[Z ps]?=Y:=lW (aJ _);unfold mw;simp only[Bl,hk,aI,h,Js (Z ps) ps 0 0 (a6 _),iV,hf,Hz];rw[Ot,dO,aU];rfl
variable {z:Nat}{l:List O}
def VB.ne{e e':aj}{z':Nat}{k k':Kd}{l':List O}(h:VB A e z k l)(h':VB A e' z' k' l')(he:e≠e'):z≠z':=by
 rintro rfl;obtain⟨_,q,-⟩:=h.2;obtain⟨_,q2,-⟩:=h'.2;rw[q]at q2;injection q2 with q2;injection q2 with q2;exact he q2
variable {es:List MapEntry}
def VB.cN{e:aj}{k:Kd}(h:VB A e z k l)(hm:A.get m=U (.map es c)):z≠m:=by
 rintro rfl;obtain⟨_,q,-⟩:=h.2;rw[q]at hm;cases hm
def ai.gj{e e':aj}{k:Kd}{x:O}(h:ai A e n b ls x)(h':VB A e' z k l)(he:e'≠e)(h0:ls≠ []):z≠b:=by
 rcases h with⟨-,hh⟩|⟨k',_,-,h1,h2,-⟩
 .exact aZ hh h0
 .exact VB.ne h' (⟨h1,h2⟩:VB A e b k' _) he
def ai.cN{e:aj}{x:O}(h:ai A e n b ls x)(hm:A.get m=U (.map es c))(h0:ls≠ []):m≠b:=by
 rcases h with⟨-,hh⟩|⟨k',_,-,h1,h2,-⟩
 .exact aZ hh h0
 .exact(VB.cN (⟨h1,h2⟩:VB A e b k' _) hm).symm
def iI(w:List UInt8)(t s:Nat):List O:=[ag w,.func (.func 142) ⟨[]⟩ ⟨[pV t,pV s]⟩]
def jT:List UInt8:=[99,114,101,97,116,101]
def Fold(A:Mem)(p ml mn b:Nat)(ns:List (List UInt8)):Prop:=∃x rows,VB A 165 p (.var 4) [.map (U ml),.map (U mn),x,iN (Z ns)]/\(ml<A.next/\A.get ml=U (.map [] 0))/\(mn<A.next/\A.get mn=U (.map (dh ns 0) (Z ns)))/\ml≠mn/\
 ai A 297 2 b rows x/\(ns=[]->x=.slice Y 0 0)/\Z rows=Z ns/\∀(i:Nat) (w:List UInt8),ns[i]?=U w->∃t s,rows[i]?=U (iI jT t s)/\VB A 3 t (.var 1) [iN (i+1)]/\VB A 9 s (.var 1) [ag w]
def xa:bM I 165 (pw b 0) 2=.ok (pw b 2):=by kernel_rfl
def Zr:bM I 165 (pw b 0) 3=.ok (pw b 3):=by kernel_rfl
def Fj:bM I 297 (pw b o) 1=.ok (pw b (o+1)):=by kernel_rfl
def G4:cX I 297=.ok (.agg ⟨[.string .empty,.nilFunc]⟩):=by kernel_rfl
def pP:aY I 297=.ok 2:=by kernel_rfl
def qjt:eR I 297=.ok (2,[.string .empty,.nilFunc]):=by kernel_rfl
def jC:I.aB 163=U (.slice 297):=by kernel_rfl
def Gt:aY I 163=.ok 1:=by kernel_rfl
def Gu:aY I 3=.ok 1:=by kernel_rfl
def qix:∃i,I.ty.get 297=U i/\0<i.bytes/\i.bytes<=65536:=by
 have h:(I.ty.get 297).map (λ i=>aM 0 i.bytes&&au i.bytes 65536)=U aa:=by kernel_rfl
 cases hq:I.ty.get 297 with
 |none=>rw[hq]at h;cases h
 |some i=>
  rw[hq]at h;simp only[fZ,eM,dz,bT]at h;exact⟨i,rfl,h.1,fQ h.2⟩
def VK{t s:Nat}:ef I 297 [(0,ag w),(1,.func (.func 142) ⟨[]⟩ ⟨[pw t 0,pw s 0]⟩)]=.ok (.agg ⟨iI w t s⟩):=by kernel_rfl
def Ww{t s:Nat}:eo I 163 1 [(0,.agg ⟨iI w t s⟩)]=.ok (ae 297 (iI w t s),.dy 1 2):=by kernel_rfl
def GP:∃d,I.aB 225=U d/\cW d=af:=b9 (by kernel_rfl)
def Su{t s k:Nat}(h:A.get mn=U (.map (dh ns 0) (Z ns)))(hw:w∉ns)(ht:VB A 3 t (.var 1) [iN (Z ns+1)])(hs:VB A 9 s (.var 1) [ag w]):
 az I 142 [.map (U mn),pV t,pV s] A (.tuple ⟨[]⟩) (A.set mn (.map (dh (ns++[w]) 0) (ns++[w]).length)):=by
 have l1:=hs.l0 u9 rfl;have l2:=ht.l0 u3 rfl;have l3:=Us h hw;simp only[pV];refine cG 60 (aN Tryz.func142) (by kernel_rfl) λ M=>?_
 simp(disch:=omega)only[Tryz.f142,Aq,V,l1,l2,zb,l3,cL]<;>rfl
def mq{o:Ob}:(A.set b o).get z=if z=b then U o else A.get z:=cr _ _ _ _
def qeF{a:cK}{b:UInt8}{pb pa:Nat}(h1:VB A 5 pb (.var 1) [bN b.toNat])(h2:VB A 3 pa (.var 1) [.int .i64 i])(ht:a.to<i):∃v A',az I 292 [.agg ⟨cD a⟩,pV pb,pV pa] A v A'/\v=.bool (decide (a.byte=b))/\Kp A A':=by
 have k:=Kp.alloc A (ae 304 (cD a));have v:=aK A 304 (cD a);refine⟨_,A.alloc (ae 304 (cD a)),?_,rfl,k⟩;have h1:=h1.kp k;have h2:=h2.kp k;generalize hB:A.alloc (ae 304 (cD a))=B at v h1 h2;have l0:=v.l0 u5 rfl;have l1:=h1.l0 u5 rfl;have l2:=v.m2 u3 rfl;have l3:=h2.l0 u3 rfl;have hz:¬a.to<0:=by omega
 simp only[pV];by_cases he:a.byte=b
 .subst he;rw[decide_eq_true rfl];refine cG 60 (aN Tryz.func292) (by kernel_rfl) λ M=>?_
  simp(disch:=first|decide+kernel|omega|simp only[Wq,V])only[Tryz.f292,Aq,au,reduceIte,V,ak,aX,hB,Ap,uM,l0,l1,l2,l3,iZ,hZ,hz,ht,a6]<;>rfl
 .have hn:¬(a.byte.toNat=b.toNat):=λ h=>he (yI.1 h)
  rw[decide_eq_false he];refine cG 60 (aN Tryz.func292) (by kernel_rfl) λ M=>?_
  simp(disch:=decide+kernel)only[Tryz.f292,Aq,V,aX,hB,Ap,uM,l0,l1,l2,l3,iZ,hZ,hz,ht,hn]<;>rfl
def uF:=cg Ac
def Iz:aH:=sub uF [1,0,1,0,0]
def XK:Ac.body=U (.seq (sub uF [0]) (.seq (.seq (sub uF [1,0,0]) (.block 0 (.loop Iz))) (.seq (sub uF [1,1,0]) (sub uF [1,1,1])))):=by kernel_rfl
def qfw{l:List cK}{x:O}{pb pa:Nat}{a:cK}(hx:gV A l x)(h1:VB A 5 pb (.var 1) [bN a.byte.toNat])(h2:VB A 3 pa (.var 1) [.int .i64 n])(ht:∀a∈l,a.to<n)(hp:(l.map (·.byte)).Pairwise (·<·))(hl:Z l<=256)(hi:l[i]?=U a):
 ∃v A',az I 291 [x,.func (.func 292) ⟨[]⟩ ⟨[pV pb,pV pa]⟩] A v A'/\v=.int .i64 i/\Kp A A':=by
 refine c_ (aN Tryz.func291) XK (by kernel_rfl) ?_;obtain⟨hil,hia⟩:=bg.1 hi;have lx:=hx.len;simp only[pV];apply W.q
 .intro M;simp(disch:=omega)only[uF,Ac,Aq,V];rfl
 apply W.seq;apply W.q
 .intro M;simp(disch:=decide+kernel)only[uF,Ac,Aq,V,lx];rfl
 apply W.block;refine W.up i (λ k t D=>Kp A D/\Sl t [(0,x),(1,.func (.func 292) ⟨[]⟩ ⟨[pw pb 0,pw pa 0]⟩),(7,iN (Z l)),(8,.int .i64 k)]) ?_ (a6 _) ⟨Kp.refl _,?_⟩
 .rintro k t D hk ⟨kD,g0,g1,g7,g8,-⟩;have hkl:k<Z l:=by omega
  have hlk:=aV hkl;obtain⟨p,q1,q2⟩:=(hx.kp kD).at hlk;obtain⟨v,E,⟨g,hg⟩,rfl,kE⟩:=qeF (h1.kp kD) (h2.kp kD) (ht _ (ik hkl));simp only[pV]at hg;by_cases he:k=i
  .subst he;have:=hia;rw[this]at hg q2;rw[decide_eq_true rfl]at hg;apply W.ct (g) 20
   .intro M hM;simp(disch:=first|decide+kernel|omega)only[Iz,uF,Ac,Aq,V,g0,g1,g7,g8,hkl,q1,q2,hg];rfl
   exact⟨by simp,rfl,_,(by simp only[Ac,Aq,V]<;>rfl),rfl,kD.trans kE⟩
  .have hlt:=ue.1 hp k i (by rw[aR];omega) (by rw[aR];omega) (by omega);rw[v_,v_,hia]at hlt;rw[decide_eq_false (λ h=>by rw[h]at hlt;exact aZ hlt (UInt8.lt_irrefl _))]at hg;apply W.ct (g) 20
   .intro M hM;simp(disch:=first|decide+kernel|omega)only[Iz,uF,Ac,Aq,V,g0,g1,g7,g8,hkl,q1,q2,hg];rfl
   refine⟨by omega,_,_,rfl,kD.trans kE,?_⟩;simp only[Sq,V,ak,g0,g1,g7]
 .simp only[Sq,V,ak]
def dJ.get{s:ay}(h:dJ A M y)(hi:M[i]?=U s):
 ∃x p q,dQ I 146 y (.int .i64 i)=.ok p/\bM I 239 p 0=.ok q/\gV A s.arcs x/\∀A',Kp A A'->ax I A'.get 239 p=.ok (.agg ⟨a_ x s⟩)/\ax I A'.get 237 q=.ok x:=by
 obtain⟨b,rows,h1,h2,h3⟩:=h;obtain⟨x,e1,e2⟩:=h3 i s hi;have hl:=(bg.1 e1).1;obtain⟨d,hd1,hd2⟩:=b9 (by kernel_rfl);refine⟨x,_,_,ai.idx h1 eK iS hl,mm,e2,λ A' k=>?_⟩;have h1:=h1.same k.1 (k.2 b);have:=ai.load (j:=0) h1 j9 rfl e1 rfl (by omega);exact⟨ai.bU h1 hd1 hd2 iS e1,by rwa[dN]at this⟩
def SG{k:O}{s:ay}{a:cK}(h:dJ A M y)(hn:M[n]?=U s)(ht:∀a∈s.arcs,a.to<n)(hp:(s.arcs.map (·.byte)).Pairwise (·<·))(hl:Z s.arcs<=256)(hj:s.arcs[j]?=U a):
 ∃v A',az I 282 [.agg ⟨[y,k]⟩,.int .i64 n,bN a.byte.toNat] A v A'/\v=.tuple ⟨[.int .i64 a.to,.int .u64 a.out,.bool aa]⟩/\Kp A A':=by
 have kB:=Kp.alloc A (ae 149 [y,k]);have vB:=aK A 149 [y,k];generalize hB:A.alloc (ae 149 [y,k])=B at kB vB;have kC:=Kp.alloc B (ae 3 [.int .i64 n]);have vC:=aK B 3 [.int .i64 n];generalize hC:B.alloc (ae 3 [.int .i64 n])=C at kC vC;have kD:=Kp.alloc C (ae 5 [bN a.byte.toNat]);have vD:=aK C 5 [bN a.byte.toNat];generalize hD:C.alloc (ae 5 [bN a.byte.toNat])=D at kD vD;have vC:=vC.kp kD;have vB:=vB.kp (kC.trans kD);have kAD:=(kB.trans kC).trans kD;have hS:=h.kp kAD;obtain⟨hnl,-⟩:=bg.1 hn;have lenD:=hS.len;obtain⟨x,p,q,i1,i2,hx,i4⟩:=hS.get hn;obtain⟨v,E,⟨g,hg⟩,rfl,kE⟩:=qfw hx vD vC ht hp hl hj;obtain⟨r,j1,j2⟩:=(hx.kp kE).at hj;have kF:=Kp.alloc E (ae 304 (cD a));have vF:=aK E 304 (cD a);have sF:=DC (D:=E) (a:=a);generalize hF:E.alloc (ae 304 (cD a))=F at kF vF sF;have ly:=λ G hG=>(vB.kp (A':=G) hG).l0 eK rfl
 have l1:=ly D (Kp.refl _);have l2:=ly E kE;have l3:=λ G hG=>(vC.kp (A':=G) hG).l0 u3 rfl
 have l4:=l3 D (Kp.refl _);have l5:=l3 E kE;have i5:=(i4 D (Kp.refl _)).2;have i6:=(i4 E kE).2;have o1:=vF.m1 eE rfl;have o2:=vF.m2 u3 rfl;have hz:¬n<0:=by omega
 have hz2:¬Z M<=n:=by omega
 have hz3:¬j<0:=by omega
 refine⟨_,F,?_,rfl,kAD.trans (kE.trans kF)⟩;simp only[pV]at hg;refine bQ (g) 60 (aN Tryz.func282) (by kernel_rfl) λ M hM=>?_
 simp(config:={maxSteps:=4000000})(disch:=first|decide+kernel|omega|simp only[Wq,V])only[Tryz.f282,Aq,au,reduceIte,V,ak,aX,hB,hC,hD,jv,l1,l2,l4,l5,lenD,iZ,hZ,hz,hz2,hz3,i1,i2,i5,i6,fb,hg,j1,j2,zy,sF,yW,uM,o1,o2,Fq,bY []]<;>rfl
def p_:=cg tq
def Iy:aH:=sub p_ [1,1,0,1,0,0]
def XJ:tq.body=U (.seq (sub p_ [0]) (.seq (sub p_ [1,0]) (.seq (.seq (sub p_ [1,1,0,0]) (.block 0 (.loop Iy))) (.seq (sub p_ [1,1,1,0]) (sub p_ [1,1,1,1]))))):=by kernel_rfl
def qeS{l:List UInt8}{x:O}(h:im A b l x):∃v A',az I 290 [x] A v A'/\v=x/\A'=A:=by
 refine c_ (aN Tryz.func290) XJ (by kernel_rfl) ?_;have hl:=h.2.2;have lx:=h.len;apply W.q
 .intro M;simp(disch:=omega)only[p_,tq,Aq,V];rfl
 apply W.seq;by_cases h2:Z l<2
 .apply W.run 20
  .intro M;simp(disch:=decide+kernel)only[p_,tq,Aq,V,lx,h2];rfl
  exact⟨by simp,rfl,_,(by simp only[tq,Aq,V]<;>rfl),rfl,rfl⟩
 .apply W.run 20
  .intro M;simp(disch:=decide+kernel)only[p_,tq,Aq,V,lx,h2];rfl
  apply W.seq;apply W.q
  .intro M;simp(disch:=omega)only[p_,tq,Aq,V];rfl
  apply W.block;refine W.up (Z l-1) (λ k t D=>D=A/\Sl t [(0,x),(3,iN (k+1))]) ?_ (a6 _) ⟨rfl,?_⟩
  .rintro k t D hk ⟨rfl,g0,g3,-⟩;by_cases hlt:k+1<Z l
   .obtain⟨i1,i2⟩:=h.at hlt;obtain⟨j1,j2⟩:=h.at (i:=k) (by omega);have hle:=h.le (i:=k) (by omega) hlt;have hne:¬(l[k+1].toNat=(l[k]'(by omega)).toNat):=λ e=>by
     have:=BY.1 (ue.1 h.2.1 k (k+1) (by omega) hlt (by omega));omega
    have s1:bj .sub .i64 ((k+1:Nat):Int) ((1:Nat):Int)=.ok (iN k):=gS (by omega) (cS (by omega));apply W.run 20
    .intro M;simp(disch:=first|decide+kernel|omega|simp only[Wq,V])only[Iy,p_,tq,Aq,au,reduceIte,V,ak,g0,g3,lx,hlt,s1,i1,i2,j1,j2,hne,Fq,bY []];rfl
    refine⟨by omega,_,_,rfl,rfl,?_⟩;simp only[Sq,V,ak,g0]
   .apply W.run 20
    .intro M;simp(disch:=decide+kernel)only[Iy,p_,tq,Aq,V,g0,g3,lx,hlt];rfl
    apply W.run 40
    .intro M;simp(disch:=omega)only[p_,tq,Aq,V,g0];rfl
    exact⟨by simp,rfl,_,(by simp only[tq,Aq,V]<;>rfl),rfl,rfl⟩
  .simp only[Sq,V,ak]
def px:=cg uw
def Iw:aH:=sub px [1,1,0,1,0,0]
def XH:uw.body=U (.seq (sub px [0]) (.seq (sub px [1,0]) (.seq (.seq (sub px [1,1,0,0]) (.block 0 (.loop Iw))) (.seq (sub px [1,1,1,0]) (.seq (sub px [1,1,1,1,0]) (sub px [1,1,1,1,1])))))):=by kernel_rfl
def WL(a:Int):eo I 123 1 [(0,.int .u8 a)]=.ok (ae 5 [.int .u8 a],.dy 1 2):=by kernel_rfl
def Sm{k:O}{s:ay}(h:dJ A M y)(hn:M[n]?=U s)(ht:∀a∈s.arcs,a.to<n)(hp:(s.arcs.map (·.byte)).Pairwise (·<·))(hl:Z s.arcs<=256)(hM:Z M<1000000):
 ∃v A',az I 281 [.agg ⟨[y,k]⟩,.int .i64 n] A v A'/\Kp A A'/\∃b,im A' b (s.arcs.map (·.byte)) v/\A.next<=b:=by
 obtain⟨v,A',h1,h2⟩:∃v A',az I 281 [.agg ⟨[y,k]⟩,.int .i64 n] A v A'/\(Kp A A'/\∃b,im A' b (s.arcs.map (·.byte)) v/\A.next<=b):=by
  refine c_ (aN Tryz.func281) XH (by kernel_rfl) ?_;have kB:=Kp.alloc A (ae 149 [y,k]);have vB:=aK A 149 [y,k];apply W.q
  .intro M;simp(disch:=omega)only[px,uw,Aq,V,aX];rfl
  have hS:=h.kp kB;generalize A.alloc (ae 149 [y,k])=B at kB vB hS;obtain⟨hnl,-⟩:=bg.1 hn;have ly:=vB.l0 eK rfl;have c6:=hS.len;obtain⟨x,p,q,i1,i2,hx,i4⟩:=hS.get hn;have i5:=(i4 B (Kp.refl _)).2;have lx:=hx.len;have hz:¬n<0:=by omega
  have hz2:¬Z M<=n:=by omega
  obtain⟨ti,ht1,ht2⟩:=Lq;apply W.q
  .intro M;simp(disch:=first|decide+kernel|omega|simp only[Wq,V])only[px,uw,Aq,au,reduceIte,V,ak,hz,hz2,jv,ly,c6,iZ,hZ];rfl
  apply W.seq;apply W.q
  .intro M;simp(disch:=decide+kernel)only[px,uw,Aq,V,jv,ly,i1,i2,i5,lx];rfl
  apply W.block;refine W.up (Z s.arcs) (λ i t D=>(∃b z,eY D 5 b (dw ((s.arcs.take i).map (·.byte))) z/\B.next<=b/\Kp B D/\Sl t [(1,.int .i64 n),(4,z),(21,x),(22,iN (Z s.arcs)),(23,.int .i64 i)])) ?_ (a6 _) ⟨B.next,.slice Y 0 0,.inl ⟨rfl,rfl⟩,aJ _,Kp.refl _,?_⟩
  .rintro i t D hi ⟨b,z,hz,hb,kD,g1,g4,g21,g22,g23,-⟩;by_cases hlt:i<Z s.arcs
   .have hsi:=aV hlt;have htk:(s.arcs.take (i+1)).map (·.byte)=(s.arcs.take i).map (·.byte)++[(s.arcs[i]).byte]:=by rw[eH hlt,fY];rfl
    have hto:=ht _ (ik hlt);obtain⟨r,q1,q2⟩:=(hx.kp kD).at hsi;generalize s.arcs[i]=a at*;have sE:=DC (D:=D) (a:=a);have vE:=aK D 304 (cD a);have kE:=Kp.alloc D (ae 304 (cD a));generalize D.alloc (ae 304 (cD a))=E at sE vE kE;have l0:=vE.l0 u5 rfl;have l2:=vE.m2 u3 rfl;have kF:=Kp.alloc E (ae 5 [bN a.byte.toNat]);have hzF:=hz.same (kE.trans kF).1 ((kE.trans kF).2 b);obtain⟨z',G,happ,hs3,hn3,hf3⟩:=hzF.append Gb Gb LK ht1 (by omega) (by omega) (by unfold dw;simp;omega) (cR E _) rfl;rw[aA]at hs3 hn3 hf3;apply W.run 20
    .intro M;simp(disch:=first|decide+kernel|omega|simp only[Wq,V])only[Iw,px,uw,Aq,au,reduceIte,V,ak,g1,g4,g21,g22,g23,hlt,q1,q2,zy,aX,sE,Ap,uM,l0,l2,iZ,hZ,a6,hto,WL,happ];rfl
    have n1:=kD.1;have n2:=kE.1;refine⟨hlt,_,_,rfl,E.next+1,z',?_,by omega,⟨by omega,λ w hw=>by rw[hf3 w (by omega) (by omega),(kE.trans kF).2 w (by omega),kD.2 w hw]⟩,?_⟩
    .rw[htk];unfold dw;rw[fY];exact hs3
    .simp only[Sq,V,ak,g1,g21,g22]
   .have e:i=Z s.arcs:=by omega
    subst e;rw[dY]at hz;have hR:im D b (s.arcs.map (·.byte)) z:=⟨hz,hp,by rw[aR];exact hl⟩;obtain⟨E,⟨e1,h1⟩,kE⟩:=SF hR;obtain⟨v,F,⟨e2,h2⟩,rfl,rfl⟩:=qeS (hR.kp kE);apply W.run 20
    .intro M;simp(disch:=decide+kernel)only[Iw,px,uw,Aq,V,g22,g23];rfl
    apply W.ie (e1+e2)
    .intro M hM _;simp(disch:=omega)only[px,uw,Aq,V,g4,h1,h2];rfl
    apply W.run 20
    .intro M;simp only[px,uw,Aq,V];rfl
    exact⟨by simp,rfl,_,(by simp only[uw,Aq,V]<;>rfl),kB.trans (kD.trans kE),b,hR.kp kE,by have:=kB.1;omega⟩
  .simp only[Sq,V,ak]
 exact⟨v,A',h1,h2⟩
end Go.Proofs.YtdobfpkceacneaaGreatDoor.sto
namespace Go.Am
open Go.Am Go.Mdl Go.Sto Go.Shelf
section
variable {tb:aO}
variable {t:T O}{n:Nat}{A A':Mem}
def W.Gc{f:bA}{ps:Array Tmp}{a b:aH}{d:List Nat}{K:Ex->St->Prop}{fid:FuncId}{first capt:List O}{v:O}{r:eT}{e:Ex}
 (hf:ev t f=.ok (.func (.func fid) ⟨first⟩ ⟨capt⟩))
 (hc:az tb fid (first++[.func (.yield (A.next+1)) ⟨[]⟩ ⟨[]⟩]++capt) ((A.alloc .defd).alloc (.loop (gR t n ps.toList a b A.next))) v A')
 (hr:A'.get (A.next+1)=U (.loop r))(hst:r.state≠.busy)(hp:(r.pending=Y/\e=.nrm)\/(r.pending=U .ret/\e=.ret))
 (k:K e ⟨t,n,A.next::d,A'.set (A.next+1) (.loop {r with state:=.exhausted}),Y⟩):W tb (.rangeFunc f ps a b) ⟨t,n,d,A,Y⟩ K:=by
 obtain⟨g,hg⟩:=hc;refine⟨_,_,⟨g+1,λ m=>?_⟩,k⟩;rw[show m+(g+1)=(m+g)+1 by omega,Jb];have h1:=hg (m+g) (by omega);unfold xC;simp only[hf,R.aT];have hn:=aA A .defd;rw[hn];have hcal:∀g':Nat->Option Ob,tK tb g' (.func (.func fid) ⟨first⟩ ⟨capt⟩) [.func (.yield (A.next+1)) ⟨[]⟩ ⟨[]⟩]=.ok (.fn fid (first++[.func (.yield (A.next+1)) ⟨[]⟩ ⟨[]⟩]++capt)):=λ _=>rfl
 rw[hcal,R.aT];unfold gR at h1;rw[h1,R.aT];simp only[hr];rcases hp with⟨hp,rfl⟩|⟨hp,rfl⟩
 all_goals
  simp only[hp];cases hs:r.state with
  |busy=>exact aZ hs hst
  |_=>rfl
variable {k:Nat}
def W.Uq{c:aH}{ro:Option Nat}{K:Ex->St->Prop}(N:Nat)(P:Nat->T O->Mem->List Nat->Prop)
 (hb:∀k t A d,k<=N->P k t A d->W tb c ⟨t,n,d,A,ro⟩ λ e s'=>match e with
  |.nrm=>k<N/\∃t' A' d',s'=⟨t',n,d',A',ro⟩/\P (k+1) t' A' d'
  |e=>K e s'){d:List Nat}(hk:k<=N)(hp:P k t A d):W tb (.loop c) ⟨t,n,d,A,ro⟩ K:=by
 have main:∀j k t A d,k+j=N->P k t A d->W tb (.loop c) ⟨t,n,d,A,ro⟩ K:=by
  intro j
  induction j with
  |zero=>
   intro k t A d hk hp;refine W.round ((hb k t A d (by omega) hp).mono λ e s' h=>?_);cases e with
   |nrm=>exact aZ h.1 (by omega)
   |_=>exact h
  |succ j ih=>
   intro k t A d hk hp;refine W.round ((hb k t A d (by omega) hp).mono λ e s' h=>?_);cases e with
   |nrm=>
    obtain⟨_,t',A',d',rfl,h'⟩:=h;exact ih (k+1) t' A' d' (by omega) h'
   |_=>exact h
 exact main (N-k) k t A d (by omega) hp
def qdU{l:Nat}{args:List O}{r:eT}{Q:Mem->Prop}(hl:A.get l=U (.loop r))(ht:setArgs r.n r.params args r.tmps=.ok t)
 (h:W tb r.assign ⟨t,r.n,[],A,U l⟩ λ e s1=>e=.nrm/\∃r1,s1.m.get l=U (.loop r1)/\r1.state=.ready/\W tb r.body ⟨s1.t,s1.n,s1.d,s1.m.set l (.loop {r1 with state:=.busy}),s1.ro⟩ λ e s2=>e=.ret/\s2.d=[]/\∃r2,s2.m.get l=U (.loop r2)/\Q (s2.m.set l (.loop {r2 with state:=.done,pending:=U .ret}))):
 ∃A',(∃g,∀M,g<=M->cH tb (exec tb M) (.round l args) A=.ok (.val (.bool af) A'))/\Q A':=by
 obtain⟨e,s1,⟨f1,h1⟩,rfl,r1,hr1,hst1,e2,s2,⟨f2,h2⟩,rfl,hd,r2,hr2,hQ⟩:=h;refine⟨_,⟨f1+f2,λ M hM=>?_⟩,hQ⟩;show vc (exec tb M) l args A=_;unfold vc;have e1:=h1 (M-f1);rw[wh (by omega)]at e1;have e2:=h2 (M-f2);rw[wh (by omega)]at e2;simp only[hl,ht,R.aT,e1,hr1,hst1,e2,hd,hr2]
theorem tX:∀(ds:List Nat) (A:Mem),ds.Nodup->(∀d∈ds,A.get d=U .defd)->∃A',gU ds A=.ok A'/\A'.next=A.next/\∀z,z∉ds->A'.get z=A.get z
 | [],A,_,_=>⟨A,rfl,rfl,λ _ _=>rfl⟩
 |d::ds,A,hn,h=>by
  obtain⟨h1,h2⟩:=zQ.1 hn;obtain⟨A',e1,e2,e3⟩:=tX ds (A.set d .dead) h2 λ x hx=>by rw[cr,aq (by rintro rfl;exact h1 hx)];exact h x (cU _ hx)
  refine⟨A',?_,by rw[e2];exact cE _ _ _,λ z hz=>?_⟩
  .show(match A.get d with|some .defd=>gU ds (A.set d .dead)|_=>.no 240)=_;rw[h d cM];exact e1
  .rw[cC,not_or]at hz;rw[e3 z hz.2,cr,aq hz.1]
end
end Go.Am
namespace Go.Proofs.YtdobfpkceacneaaGreatDoor.sto
open Go.Am Go.Mdl Go.Sto Go.Shelf
def oV(a:cK):O:=.agg ⟨[.int .i64 a.to,.int .u64 a.out]⟩
def My{m n:Int}:ef I 375 [(0,.int .i64 m),(1,.int .u64 n)]=.ok (.agg ⟨[.int .i64 m,.int .u64 n]⟩):=by kernel_rfl
variable {A:Mem}{y:O}{n:Nat}
def KP{k:O}:az I 257 [.agg ⟨[y,k]⟩,.int .i64 n] A (.func (.func 280) ⟨[]⟩ ⟨[pV A.next,pV (A.next+1)]⟩) ((A.alloc (ae 149 [y,k])).alloc (ae 3 [.int .i64 n])):=by
 have e:=aA A (ae 149 [y,k]);simp only[pV];refine cG 60 (aN Tryz.func257) (by kernel_rfl) λ M=>?_
 simp(disch:=omega)only[Tryz.f257,Aq,V,aX,sd,e,qU,fb]<;>rfl
def HG(B:Mem)(ab lp:Nat)(s:ay)(Inv:Nat->Mem->Prop):Prop:=∀(j:Nat) (a:cK) (D:Mem),s.arcs[j]?=U a->Inv j D->B.next<=D.next->(∀z,z<B.next->z≠ab->z≠lp->D.get z=B.get z)->
 ∃E,(∃g,∀M,g<=M->cH I (exec I M) (.round lp [bN a.byte.toNat,oV a]) D=.ok (.val (.bool aa) E))/\Inv (j+1) E/\D.next<=E.next/\∀z,z<D.next->z≠ab->z≠lp->E.get z=D.get z
def uE:=cg rM
def Ag:aH:=sub uE [1,0,0]
def M3:rM.body=U (.seq (sub uE [0]) (.block 0 (.loop Ag))):=by kernel_rfl
variable {B:Mem}{M:List ay}
def SN{k:O}{q ab lp:Nat}{s:ay}{Inv:Nat->Mem->Prop}(h:dJ A M y)(hn:M[n]?=U s)(ht:∀a∈s.arcs,a.to<n)(hp:(s.arcs.map (·.byte)).Pairwise (·<·))(hl:Z s.arcs<=256)(hM:Z M<1000000)
 (hB:Kp A B)(v1:VB B 149 q (.var 2) [y,k])(v2:VB B 3 (q+1) (.var 1) [.int .i64 n])(hq:ab≠q/\ab≠q+1/\lp≠q/\lp≠q+1/\A.next<=ab/\A.next<=lp/\ab<B.next/\lp<B.next)
 (hK:∀j D E,Inv j D->Kp D E->Inv j E)(hc:HG B ab lp s Inv)(hI:Inv 0 B):
 ∃v C,az I 280 [.func (.yield lp) ⟨[]⟩ ⟨[]⟩,pV q,pV (q+1)] B v C/\Inv (Z s.arcs) C/\B.next<=C.next/\∀z,z<B.next->z≠ab->z≠lp->C.get z=B.get z:=by
 obtain⟨p1,p2,p3,p4,p5,p6,p7,p8⟩:=hq;refine c_ (aN Tryz.func280) M3 (by kernel_rfl) ?_;obtain⟨d,hd1,hd2⟩:=b9 (by kernel_rfl);have ld1:∀D:Mem,D.get q=B.get q->ax I D.get 149 (pw q 0)=.ok (.agg ⟨[y,k]⟩):=λ D e=>bU hd1 hd2 iE (v1.2.same e)
 have ld2:∀D:Mem,D.get (q+1)=B.get (q+1)->ax I D.get 3 (pw (q+1) 0)=.ok (.int .i64 n):=λ D e=>c7 u3 rfl (v2.2.same e) rfl
 have a1:=ld1 B rfl;have a2:=ld2 B rfl;obtain⟨x,C,⟨g,hg⟩,kC,b,hR,hb⟩:=Sm (h.kp hB) hn ht hp hl hM (k:=k);have lx:=hR.len;rw[aR]at lx;simp only[pV];apply W.qG (g)
 .intro M hM;simp(disch:=first|decide+kernel|omega)only[uE,rM,Aq,V,a1,a2,hg,lx];rfl
 apply W.block;refine W.up (Z s.arcs) (λ j t D=>Inv j D/\B.next<=D.next/\(∀z,z<B.next->z≠ab->z≠lp->D.get z=B.get z)/\im D b (s.arcs.map (·.byte)) x/\Sl t [(0,.func (.yield lp) ⟨[]⟩ ⟨[]⟩),(1,pw q 0),(2,pw (q+1) 0),(11,x),(12,iN (Z s.arcs)),(13,.int .i64 j)]) ?_ (a6 _) ⟨hK _ _ _ hI kC,kC.1,λ z hz _ _=>kC.2 z hz,hR,?_⟩
 .rintro j t D hj ⟨hI,hn2,hf,hR,g0,g1,g2,g11,g12,g13,-⟩;by_cases hlt:j<Z s.arcs
  .have hsj:=aV hlt;obtain⟨i1,i2⟩:=hR.at (by rw[aR];exact hlt);rw[v_]at i2;have kAD:Kp A D:=⟨by have:=hB.1;omega,λ z hz=>by rw[hf z (by have:=hB.1;omega) (by omega) (by omega),hB.2 z hz]⟩;obtain⟨v,E,⟨g,hg⟩,rfl,kE⟩:=SG (k:=k) (h.kp kAD) hn ht hp hl hsj;generalize s.arcs[j]=a at*;have nE:=kE.1;obtain⟨F,⟨gy,hy⟩,hI2,nF,fF⟩:=hc j a E hsj (hK _ _ _ hI kE) (by omega) (λ z hz h1 h2=>by rw[kE.2 z (by omega),hf z hz h1 h2]);have b1:=ld1 D (hf q v1.1 (by omega) (by omega));have b2:=ld2 D (hf (q+1) v2.1 (by omega) (by omega));have bd:=My (m:=(a.to:Int)) (n:=(a.out:Int));unfold oV at hy;apply W.ct (g+gy) 20
   .intro M hM;simp(disch:=first|decide+kernel|omega)only[Ag,uE,rM,Aq,V,g0,g1,g2,g11,g12,g13,hlt,i1,i2,b1,b2,hg,dX,dU,bd,hy];rfl
   refine⟨hlt,_,_,rfl,hI2,by omega,λ z hz h1 h2=>by rw[fF z (by omega) h1 h2,kE.2 z (by omega),hf z hz h1 h2],⟨(hR.kp kE).1.same nF λ hlt=>fF b hlt (by omega) (by omega),hR.2⟩,?_⟩;simp only[Sq,V,ak,g0,g1,g2,g11,g12]
  .have e:j=Z s.arcs:=by omega
   subst e;apply W.run 20
   .intro M;simp(disch:=decide+kernel)only[Ag,uE,rM,Aq,V,g12,g13];rfl
   exact⟨by simp,rfl,_,(by simp only[rM,Aq,V]<;>rfl),hI,hn2,hf⟩
 .simp only[Sq,V,ak]
def dS(X:List Nat)(D:Mem)(r:Nat)(E:Mem)(r':Nat):Prop:=D.next<=E.next/\(r'=r\/D.next<=r')/\∀z,z<D.next->z∉X->z≠r->E.get z=D.get z
variable {X:List Nat}{r:Nat}
def dS.trans{D E F:Mem}{s t:Nat}(h:dS X D r E s)(k:dS X E s F t):dS X D r F t:=by
 obtain⟨h1,h2,h3⟩:=h;obtain⟨k1,k2,k3⟩:=k;refine⟨by omega,by omega,λ z hz hx hr=>?_⟩;rw[k3 z (by omega) hx (by omega),h3 z hz hx hr]
def dS.kp{D E:Mem}(h:Kp D E):dS X D r E r:=⟨h.1,.inl rfl,λ z hz _ _=>h.2 z hz⟩
def L8(X:List Nat)(lp:Nat)(s:ay)(b:Bool)(Q:Nat->Mem->Nat->Prop):Prop:=∀(j:Nat) (a:cK) (D:Mem) (r:Nat),s.arcs[j]?=U a->Q j D r->
 ∃E r',(∃g,∀M,g<=M->cH I (exec I M) (.round lp [bN a.byte.toNat,oV a]) D=.ok (.val (.bool (b||decide (j+1<Z s.arcs))) E))/\Q (j+1) E r'/\dS X D r E r'
def qgz{k:O}{q lp r0:Nat}{s:ay}{b:Bool}{Q:Nat->Mem->Nat->Prop}(h:dJ A M y)(hn:M[n]?=U s)(ht:∀a∈s.arcs,a.to<n)(hp:(s.arcs.map (·.byte)).Pairwise (·<·))(hl:Z s.arcs<=256)(hM:Z M<1000000)
 (hB:Kp A B)(v1:VB B 149 q (.var 2) [y,k])(v2:VB B 3 (q+1) (.var 1) [.int .i64 n])(hX:∀x,(x∈X\/x=r0)->A.next<=x/\x<B.next/\x≠q/\x≠q+1)
 (hK:∀j D E r,Q j D r->Kp D E->Q j E r)(hc:L8 X lp s b Q)(hI:Q 0 B r0):
 ∃v C,az I 280 [.func (.yield lp) ⟨[]⟩ ⟨[]⟩,pV q,pV (q+1)] B v C/\∃r,Q (Z s.arcs) C r/\dS X B r0 C r:=by
 refine c_ (aN Tryz.func280) M3 (by kernel_rfl) ?_;obtain⟨d,hd1,hd2⟩:=b9 (by kernel_rfl);have ld1:∀D:Mem,D.get q=B.get q->ax I D.get 149 (.pointer (U ⟨q,0,Y⟩))=.ok (.agg ⟨[y,k]⟩):=λ D e=>bU hd1 hd2 iE (v1.2.same e)
 have ld2:∀D:Mem,D.get (q+1)=B.get (q+1)->ax I D.get 3 (.pointer (U ⟨q+1,0,Y⟩))=.ok (.int .i64 n):=λ D e=>c7 u3 rfl (v2.2.same e) rfl
 have a1:=ld1 B rfl;have a2:=ld2 B rfl;obtain⟨x,C,⟨g,hg⟩,kC,b0,hR,hb⟩:=Sm (h.kp hB) hn ht hp hl hM (k:=k);have lx:=hR.len;rw[aR]at lx;have hr0:=hX r0 (.inr rfl);have hq1:q∉X:=λ h=>(hX q (.inl h)).2.2.1 rfl
 have hq2:q+1∉X:=λ h=>(hX _ (.inl h)).2.2.2 rfl
 have hbX:∀z,B.next<=z->z∉X:=λ z hz h=>by have:=(hX z (.inl h)).2.1;omega
 have hAX:∀z,z<A.next->z∉X:=λ z hz h=>by have:=(hX z (.inl h)).1;omega
 have kCn:=kC.1;simp only[pV];apply W.qG (g)
 .intro M hM;simp(disch:=first|decide+kernel|omega)only[uE,rM,Aq,V,a1,a2,hg,lx];rfl
 apply W.block;refine W.up (Z s.arcs) (λ j t D=>∃r,Q j D r/\dS X C r0 D r/\Sl t [(0,.func (.yield lp) ⟨[]⟩ ⟨[]⟩),(1,.pointer (U ⟨q,0,Y⟩)),(2,.pointer (U ⟨q+1,0,Y⟩)),(11,x),(12,.int .i64 (Z s.arcs)),(13,.int .i64 j)]) ?_ (a6 _) ⟨r0,hK _ _ _ _ hI kC,dS.kp (Kp.refl C),?_⟩
 .rintro j t D hj ⟨r,hI,hf,g0,g1,g2,g11,g12,g13,-⟩;have hfB:=(dS.kp kC).trans hf;by_cases hlt:j<Z s.arcs
  .have hsj:=aV hlt;have hRD:im D b0 (s.arcs.map (·.byte)) x:=⟨hR.1.same hf.1 λ hz=>hf.2.2 b0 hz (hbX b0 hb) (by omega),hR.2⟩;obtain⟨i1,i2⟩:=hRD.at (by rw[aR];exact hlt);rw[v_]at i2;have hBn:=hB.1;have kAD:Kp A D:=⟨by have:=hfB.1;omega,λ z hz=>by rw[hfB.2.2 z (by omega) (hAX z hz) (by omega),hB.2 z hz]⟩;obtain⟨v,E,⟨g,hg⟩,rfl,kE⟩:=SG (k:=k) (h.kp kAD) hn ht hp hl hsj;generalize s.arcs[j]=a at*;obtain⟨F,r',⟨gy,hy⟩,hI2,hF⟩:=hc j a E r hsj (hK _ _ _ _ hI kE);have hBF:=(hf.trans (dS.kp kE)).trans hF;have b1:=ld1 D (hfB.2.2 q v1.1 hq1 (by omega));have b2:=ld2 D (hfB.2.2 (q+1) v2.1 hq2 (by omega));have bd:=My (m:=(a.to:Int)) (n:=(a.out:Int));unfold oV at hy;cases hu:(b||decide (j+1<Z s.arcs))with
   |true=>
    rw[hu]at hy;apply W.ct (g+gy) 20
    .intro M hM;simp(disch:=first|decide+kernel|omega)only[Ag,uE,rM,Aq,V,g0,g1,g2,g11,g12,g13,hlt,i1,i2,b1,b2,hg,dX,dU,bd,hy];rfl
    refine⟨hlt,_,_,rfl,r',hI2,hBF,?_⟩;simp only[Sq,V,ak,g0,g1,g2,g11,g12]
   |false=>
    rw[hu]at hy;simp only[Bs,decide_eq_false_iff_not]at hu;have e:j+1=Z s.arcs:=by omega
    apply W.ct (g+gy) 20
    .intro M hM;simp(disch:=first|decide+kernel|omega)only[Ag,uE,rM,Aq,V,g0,g1,g2,g11,g12,g13,hlt,i1,i2,b1,b2,hg,dX,dU,bd,hy];rfl
    exact⟨by simp,rfl,_,(by simp only[rM,Aq,V]<;>rfl),r',e▸hI2,(dS.kp kC).trans hBF⟩
  .have e:j=Z s.arcs:=by omega
   subst e;apply W.run 20
   .intro M;simp(disch:=decide+kernel)only[Ag,uE,rM,Aq,V,g12,g13];rfl
   exact⟨by simp,rfl,_,(by simp only[rM,Aq,V]<;>rfl),r,hI,hfB⟩
 .simp only[Sq,V,ak]
def DL:∃d,I.aB 149=U d/\cW d=aa:=b9 (t:=149) (p:=aa) (by kernel_rfl)
def qfC{a:List UInt8}:az I 129 [ag a,ag []] A (.bool af) A:=by
 have e:j8 .lss a []=.ok (.bool af):=by
  cases a<;>rfl
 refine cG 60 (aN Tryz.func129) (by kernel_rfl) λ M=>?_
 simp(disch:=decide+kernel)only[Tryz.f129,Aq,V,e]<;>rfl
variable {i:Nat}
def dJ.ZW{s:ay}(h:dJ A M y)(hi:M[i]?=U s):
 ∃p q1 q2,dQ I 146 y (.int .i64 i)=.ok p/\bM I 239 p 1=.ok q1/\bM I 239 p 2=.ok q2/\∀A',Kp A A'->ax I A'.get 4 q1=.ok (.bool s.fin)/\ax I A'.get 147 q2=.ok (.int .u64 s.out):=by
 obtain⟨b,rows,h1,h2,h3⟩:=h;obtain⟨x,e1,e2⟩:=h3 i s hi;have hl:=(bg.1 e1).1;refine⟨_,_,_,ai.idx h1 eK iS hl,jw,uL,λ A' k=>?_⟩;have h1:=h1.same k.1 (k.2 b);exact⟨ai.load h1 u4 rfl e1 rfl (by omega),ai.load h1 eE rfl e1 rfl (by omega)⟩
def ju(p3 p4 p5 p6:Nat):List O:=[pV p3,pV p4,pV p5,pV p6]
def pK(n:Nat):O:=.agg ⟨[.int .u64 n,.bool aa]⟩
structure G9 (A:Mem) (y k:O) (l0 p3 p4 p5 p6:Nat) (X:List Nat) (D:Mem) (r:Nat):Prop where
 kp:Kp A D
 v3:VB D 9 p3 (.var 1) [ag []]
 v4:VB D 149 p4 (.var 2) [y,k]
 v5:VB D 385 p5 (.var 1) [.func (.yield l0) ⟨[]⟩ ⟨[]⟩]
 v6:VB D 386 p6 (.var 1) [.func (.func 264) ⟨[]⟩ ⟨ju p3 p4 p5 p6⟩]
 x:∀x,(x∈X\/x=r)->A.next<=x/\x<D.next
def Ha(X:List Nat)(l0:Nat)(L:List (List UInt8×Nat))(Q:Nat->Mem->Nat->Prop):Prop:=∀(j:Nat) (w:List UInt8) (v:Nat) (D:Mem) (r:Nat),L[j]?=U (w,v)->Q j D r->
 ∃E r',(∃g,∀M,g<=M->cH I (exec I M) (.round l0 [ag w,pK v]) D=.ok (.val (.bool (decide (j+1<Z L))) E))/\Q (j+1) E r'/\dS X D r E r'
def jQ:=cg np
def wR:aH:=sub jQ [1,1,1,1,0,1,0,0]
def wS:aH:=sub jQ [1,1,1,1,0,1,0,1]
def XE:np.body=U (.seq (sub jQ [0]) (.seq (sub jQ [1,0]) (.seq (sub jQ [1,1,0]) (.seq (sub jQ [1,1,1,0]) (.seq (.seq (sub jQ [1,1,1,1,0,0]) (.block 0 (.rangeFunc (.tmp 52) #[53,54] wR wS))) (sub jQ [1,1,1,1,1])))))):=by kernel_rfl
def gI(t:T O)(d:Nat):eT:=gR t 69 [53,54] wR wS d
def Gl:aY I 321=.ok 2:=by kernel_rfl
def KQ:aY I 4=.ok 1:=by kernel_rfl
def qiQ:∃d,I.aB 385=U d/\cW d=af:=b9 (t:=385) (p:=af) (by kernel_rfl)
def Uf:∃d,I.aB 386=U d/\cW d=af:=b9 (t:=386) (p:=af) (by kernel_rfl)
def UM:cX I 375=.ok (.agg ⟨[iN 0,uN 0]⟩):=by kernel_rfl
def qif:aY I 375=.ok 2:=by kernel_rfl
variable {b:Nat}
def Oc:bM I 375 (pw b 0) 0=.ok (pw b 0):=by kernel_rfl
def Od:bM I 375 (pw b 0) 1=.ok (pw b 1):=by kernel_rfl
def qgV(d p3 p4 p5 p6:Nat):cP (d+2) (.func (.func 264) ⟨[]⟩ ⟨ju p3 p4 p5 p6⟩) (.func (.func 264) ⟨[]⟩ ⟨ju p3 p4 p5 p6⟩)=aa:=by simp[cP,Dz,ju,pV,tU,ri]
def qgU(p3 p4 p5 p6:Nat):cP 100 (.func (.func 264) ⟨[]⟩ ⟨ju p3 p4 p5 p6⟩) (.func (.func 264) ⟨[]⟩ ⟨ju p3 p4 p5 p6⟩)=aa:=qgV 98 p3 p4 p5 p6
def qgZ(d l:Nat):cP (d+1) (.func (.yield l) ⟨[]⟩ ⟨[]⟩) (.func (.yield l) ⟨[]⟩ ⟨[]⟩)=aa:=by simp[cP,Dz]
def qgY(l:Nat):cP 100 (.func (.yield l) ⟨[]⟩ ⟨[]⟩) (.func (.yield l) ⟨[]⟩ ⟨[]⟩)=aa:=qgZ 99 l
def qgX(n:Nat):cP 100 (.int .i64 n) (.int .i64 n)=aa:=tV .i64 n rfl
def iW(M:List ay)(s:ay)(jj:Nat):Nat:=((s.arcs.take jj).flatMap (ir M)).length
def Yk{s:ay}{jj:Nat}{a:cK}(h:s.arcs[jj]?=U a):iW M s (jj+1)=iW M s jj+(ws M a.to).length:=by
 obtain⟨hj,rfl⟩:=bg.1 h;unfold iW;rw[eH hj,zL,aU];simp[ir]
def Nm{s:ay}{jj t:Nat}{a:cK}{x:List UInt8×Nat}(h:s.arcs[jj]?=U a)(hx:(ws M a.to)[t]?=U x):(s.arcs.flatMap (ir M))[iW M s jj+t]?=U (a.byte::x.1,a.out+x.2):=by
 obtain⟨hj,rfl⟩:=bg.1 h;have e:s.arcs=s.arcs.take jj++s.arcs[jj]::s.arcs.drop (jj+1):=by rw[<-nb hj,s_]
 have e2:s.arcs.flatMap (ir M)=(s.arcs.take jj).flatMap (ir M)++(ir M s.arcs[jj]++(s.arcs.drop (jj+1)).flatMap (ir M)):=by
  conv=>lhs;rw[e]
  rw[zL,j']
 have ht:=(bg.1 hx).1;rw[e2];unfold iW;rw[ez (by omega),Nat.add_sub_cancel_left,eG (by unfold ir;rw[aR];exact ht)];unfold ir;rw[da,hx];rfl
def LH(g:eF M):∀i,i<Z M->0<(ws M i).length:=by
 intro i
 induction i using yi with
 |ind i ih=>
  intro hi;have hs:=aV hi;rw[rp g hs];obtain⟨-,-,k3,k4,-⟩:=g i _ hs;generalize M[i]=s at*;rw[aU];rcases k4 with k4|k4
  .rw[aC k4,fg];omega
  .obtain⟨a,l,e⟩:=Hh k4;have ha:a∈s.arcs:=by rw[e];exact cM
   have:=ih a.to (k3 a ha) (Nat.lt_trans (k3 a ha) hi);rw[e,j',aU];unfold ir;rw[aR];omega
def Hc(M:List ay)(s:ay)(t:T O)(mk lp p10:Nat)(X1:List Nat)(J:Mem)(r1:Nat)(b:Bool)(j1:Nat)(Q:Nat->Mem->Nat->Prop)(jj:Nat)(D:Mem)(r:Nat):Prop:=
 Q (j1+iW M s jj) D r/\dS X1 J r1 D r/\VB D 4 p10 (.var 1) [.bool af]/\D.get lp=U (.loop (if jj<Z s.arcs\/b=aa then gI t mk else {gI t mk with state:=.done,pending:=U .ret}))
variable {t:T O}{mk:Nat}{w:List UInt8}
def qdS{J:Mem}{k:O}{l0 p3 p4 p5 p6 P0 q8 lp r1:Nat}{L:List (List UInt8×Nat)}{Q:Nat->Mem->Nat->Prop}{s:ay}{j1 v:Nat}{b:Bool}(hs:M[i]?=U s)(g:eF M)(hL:∀x∈L,x.1.length<1000/\x.2<18446744073709551616)
 (hK:∀j D E r,Q j D r->D.next<=E.next->(∀z,(z<P0\/z=r)->E.get z=D.get z)->Q j E r)(hC:∀j D r,Q j D r->G9 A y k l0 p3 p4 p5 p6 X D r/\P0<=D.next/\∀x∈X,x<P0)
 (ih:∀a∈s.arcs,∀w v j D r0,Q j D r0->(∀t x,(ws M a.to)[t]?=U x->L[j+t]?=U (w++x.1,v+x.2))->
  ∃b E,az I 264 ([.int .i64 a.to,ag w,pK v]++ju p3 p4 p5 p6) D b E/\b=.bool (decide (j+(ws M a.to).length<Z L))/\∃r,Q (j+(ws M a.to).length) E r/\dS X D r0 E r)
 (hb:b=decide (j1+iW M s (Z s.arcs)<Z L))(hle:j1+iW M s (Z s.arcs)<=Z L)
 (hW:∀t x,(s.arcs.flatMap (ir M))[t]?=U x->L[j1+t]?=U (w++x.1,v+x.2))
 (v8:VB J 9 q8 (.var 1) [ag w])(v9:VB J 321 (q8+1) (.var 2) [.int .u64 v,.bool aa])(v10:VB J 4 (q8+2) (.var 1) [.bool af])
 (hP:P0<=q8/\q8+2<mk/\lp=mk+1/\lp<J.next/\(r1<q8\/q8+2<r1)/\r1<mk)
 (hsl:Sl t [(6,pV p6),(8,pV q8),(9,pV (q8+1)),(10,pV (q8+2))]):
 L8 (lp::(q8+2)::X) lp s b (Hc M s t mk lp (q8+2) (lp::(q8+2)::X) J r1 b j1 Q):=by
 rintro jj a D r hj ⟨hQ,hF,w10,hLp⟩;obtain⟨g6,g8,g9,g10,-⟩:=hsl;obtain⟨hP1,hP2,rfl,hP4,hP5,hP6⟩:=hP;obtain⟨hjl,hja⟩:=bg.1 hj;have ham:=fh hj;have hil:=(bg.1 hs).1;have hto:=(g i s hs).2.2.1 a ham;obtain⟨hc,hPD,hXP⟩:=hC _ _ _ hQ;rw[aC (.inl hjl)]at hLp;have hrr:=hF.2.1;have hXlt:∀z,P0<=z->z∉X:=λ z hz h=>by have:=hXP z h;omega
 have fJ:∀z,z<J.next->P0<=z->z≠mk+1->z≠q8+2->z≠r1->D.get z=J.get z:=λ z hz h0 h1 h2 h3=>hF.2.2 z hz (by simp[h1,h2,hXlt z h0]) h3
 have hDn:J.next<=D.next:=hF.1
 have hpos:=LH g a.to (by omega);have hwa:∀t x,(ws M a.to)[t]?=U x->L[j1+iW M s jj+t]?=U (w++[a.byte]++x.1,v+a.out+x.2):=λ t x hx=>by
  have:=hW _ _ (Nm hj hx);rw[rG,this];simp[rG]
 have hL0:=hwa 0 _ (aV hpos);obtain⟨hl1,hl2⟩:=hL _ (fh hL0);simp only[aU,cd,dL]at hl1;have sE:bX I (D.alloc (ae 375 [.int .i64 (0:Nat),.int .u64 (0:Nat)])) 375 (.pointer (U ⟨D.next,0,Y⟩)) (oV a)=.ok (D.alloc (ae 375 [.int .i64 a.to,.int .u64 a.out])):=ep qif rfl rfl (by simp) (by simp[bI]);have kE:=Kp.alloc D (ae 375 [.int .i64 a.to,.int .u64 a.out]);have vE:=aK D 375 [.int .i64 a.to,.int .u64 a.out];have nE:(D.alloc (ae 375 [.int .i64 a.to,.int .u64 a.out])).next=D.next+1:=aA _ _
 generalize D.alloc (ae 375 [.int .i64 a.to,.int .u64 a.out])=E at sE kE vE nE;have hLE:E.get (mk+1)=U (.loop (gI t mk)):=by rw[kE.2 _ (by omega)];exact hLp
 generalize hF1:E.set (mk+1) (.loop {gI t mk with state:=.busy})=F;have nF:F.next=E.next:=by rw[<-hF1];exact cE _ _ _
 have fF:∀z,z≠mk+1->F.get z=E.get z:=λ z hz=>by rw[<-hF1,cr,aq hz]
 have hLF:F.get (mk+1)=U (.loop {gI t mk with state:=.busy}):=by rw[<-hF1,cr,aC rfl]
 have fFD:∀z,z<D.next->z≠mk+1->F.get z=D.get z:=λ z hz h=>by rw[fF z h,kE.2 z hz]
 have kG:=Kp.alloc F (ae 5 [.int .u8 (a.byte.toNat:Nat)]);have c1:=qh5 (D:=F) (c:=a.byte);have gG:=cR F (ae 5 [.int .u8 (a.byte.toNat:Nat)]);generalize hG:F.alloc (ae 5 [.int .u8 (a.byte.toNat:Nat)])=G at kG c1 gG;have hd:∀A:Mem,iy (ya (λ x:Nat×Nat=>x.2) [(5,F.next)]) A=A.set F.next .dead:=λ _=>rfl
 have put:∀H:Mem,H.get=G.get->H.next=G.next->∃G',kh G.get (ya (λ x:Nat×Nat=>x.2) [(5,F.next)]) (H.set F.next .dead)=.ok G'/\G'.get=G.get/\G'.next=G.next:=λ H hH hn=>by
  refine⟨(H.set F.next .dead).set F.next (ae 5 [.int .u8 (a.byte.toNat:Nat)]),?_,funext λ z=>?_,?_⟩
  .show(match G.get F.next with|some o=>kh G.get [] ((H.set F.next .dead).set F.next o)|none=>.no 313)=_;rw[gG];rfl
  .rw[cr];split
   .rename_i h;rw[h,gG]
   .rename_i h;rw[cr,aq h,hH]
  .rw[cE,cE,hn]
 obtain⟨G2,bk1,e2,n2⟩:=put G rfl rfl;have kFG2:Kp F G2:=⟨by rw[n2];exact kG.1,λ z hz=>by rw[e2];exact kG.2 z hz⟩;have nG2:F.next<=G2.next:=kFG2.1
 have fG2:∀z,z<D.next->z≠mk+1->G2.get z=D.get z:=λ z hz h=>by rw[kFG2.2 z (by omega),fFD z hz h]
 have hrD:=(hc.x r (.inr rfl)).2;have hQG:Q (j1+iW M s jj) G2 r:=hK _ _ _ _ hQ (by omega) λ z hz=>fG2 z (by omega) (by omega)
 obtain⟨u,H,⟨gb,hgb⟩,hu,r',hQH,hFH⟩:=ih a ham (w++[a.byte]) (v+a.out) _ G2 r hQG hwa;rw[rG,<-Yk hj]at hQH hu;have hub:decide (j1+iW M s (jj+1)<Z L)=(b||decide (jj+1<Z s.arcs)):=by
  rcases d_ (jj+1) (Z s.arcs)with hlt|hge
  .rw[decide_eq_true hlt,Bool.or_true];have hj2:s.arcs[jj+1]?=U s.arcs[jj+1]:=aV hlt;have hp2:=LH g s.arcs[jj+1].to (by have:=(g i s hs).2.2.1 _ (ik hlt);omega);have h2:=hW _ _ (Nm hj2 (aV hp2));have:=(bg.1 h2).1;exact decide_eq_true (by omega)
  .rw[decide_eq_false (show¬jj+1<Z s.arcs by omega),Bool.or_false,hb,show jj+1=Z s.arcs by omega]
 rw[hub]at hu;subst hu;have l8:∀N:Mem,(∀z,z<D.next->z≠mk+1->N.get z=D.get z)->ax I N.get 9 (.pointer (U ⟨q8,0,Y⟩))=.ok (ag w):=λ N h=>c7 u9 rfl (v8.2.same (by rw[h q8 (by omega) (by omega),fJ q8 (by omega) hP1 (by omega) (by omega) (by omega)])) rfl
 have l9:∀N:Mem,(∀z,z<D.next->z≠mk+1->N.get z=D.get z)->ax I N.get 321 (.pointer (U ⟨q8+1,0,Y⟩))=.ok (.agg ⟨[.int .u64 v,.bool aa]⟩):=λ N h=>by
  obtain⟨d,hd1,hd2⟩:=b9 (t:=321) (p:=aa) (by kernel_rfl);exact bU hd1 hd2 (l:=[.int .u64 v,.bool aa]) Gl (v9.2.same (by rw[h _ (by omega) (by omega),fJ _ (by omega) (by omega) (by omega) (by omega) (by omega)]))
 have l6:∀N:Mem,(∀z,z<D.next->z≠mk+1->N.get z=D.get z)->ax I N.get 386 (.pointer (U ⟨p6,0,Y⟩))=.ok (.func (.func 264) ⟨[]⟩ ⟨ju p3 p4 p5 p6⟩):=λ N h=>by
  obtain⟨d,hd1,hd2⟩:=Uf;have hp6:p6≠mk+1:=λ e=>by
   have h6:=hc.v6.2;obtain⟨cs,h6,-⟩:=h6;rw[e,hLp]at h6;cases h6
  exact c7 hd1 hd2 (hc.v6.2.same (h p6 hc.v6.1 hp6)) rfl
 have fG:∀z,z<D.next->z≠mk+1->G.get z=D.get z:=λ z hz h=>by rw[kG.2 z (by omega),fFD z hz h]
 have vG:∀N:Mem,(∀z,z<E.next->z≠mk+1->N.get z=E.get z)->ax I N.get 3 (.pointer (U ⟨D.next,0,Y⟩))=.ok (.int .i64 a.to)/\ax I N.get 147 (.pointer (U ⟨D.next,1,Y⟩))=.ok (.int .u64 a.out):=λ N h=>by
  have:=vE.2.same (h D.next (by omega) (by omega));exact⟨c7 u3 rfl this rfl,c7 eE rfl this rfl⟩
 have x6:=l6 F fFD;have x6':=l6 G fG;have x8:=l8 F fFD;have x8':=l8 G fG;have x9:=l9 G fG;obtain⟨x0,x1⟩:=vG F λ z hz h=>fF z h
 obtain⟨x0',x1'⟩:=vG G λ z hz h=>by rw[kG.2 z (by omega),fF z h]
 have ka:=λ ih A=>FM (ih:=ih) (A:=A) (n:=v) (m:=a.out) (f:=aa) (by omega)
 have sc:=qgU p3 p4 p5 p6;have si:=qgX a.to;have s1:j8 .add w [a.byte]=.ok (ag (w++[a.byte])):=cat (by simp;omega);have hlH:H.get (mk+1)=U (.loop {gI t mk with state:=.busy}):=by
  rw[hFH.2.2 (mk+1) (by omega) (hXlt _ (by omega)) (by omega),kFG2.2 _ (by omega)];exact hLF
 simp only[pV]at g6 g8 g9 g10;simp only[ju,pV,pK,ij,lX]at hgb x6 x6' sc;have fin:∀N:Mem,N.next=H.next->(∀z,z≠mk+1->z≠q8+2->N.get z=H.get z)->VB N 4 (q8+2) (.var 1) [.bool af]->N.get (mk+1)=U (.loop (if jj+1<Z s.arcs\/b=aa then gI t mk else {gI t mk with state:=.done,pending:=U .ret}))->
  Hc M s t mk (mk+1) (q8+2) ((mk+1)::(q8+2)::X) J r1 b j1 Q (jj+1) N r'/\dS ((mk+1)::(q8+2)::X) D r N r':=λ N hn hf h10 hlp=>by
  have hcH:=(hC _ _ _ hQH).1;have hrH:=(hcH.x r' (.inr rfl)).2;have hr2:r'=r\/G2.next<=r':=hFH.2.1
  have hfr:dS ((mk+1)::(q8+2)::X) D r N r':=⟨by have:=hFH.1;omega,by omega,λ z hz hx hr=>by
   simp only[cC,not_or]at hx;rw[hf z hx.1 hx.2.1,hFH.2.2 z (by omega) hx.2.2 hr,fG2 z hz hx.1]⟩
  exact⟨⟨hK _ _ _ _ hQH (by omega) λ z hz=>hf z (by omega) (by omega),hF.trans hfr,h10,hlp⟩,hfr⟩
 have w10H:VB H 4 (q8+2) (.var 1) [.bool af]:=⟨by have:=hFH.1;omega,w10.2.same (by rw[hFH.2.2 _ (by omega) (hXlt _ (by omega)) (by omega),fG2 _ (by omega) (by omega)])⟩;cases hu:(b||decide (jj+1<Z s.arcs))with
 |true=>
  rw[hu]at hgb;have hst:jj+1<Z s.arcs\/b=aa:=by
   simp only[D7,decide_eq_true_eq]at hu;exact hu.symm
  have hq:∃C,(∃g,∀N,g<=N->cH I (exec I N) (.round (mk+1) [.int .u8 (a.byte.toNat:Nat),oV a]) D=.ok (.val (.bool aa) C))/\C=H.set (mk+1) (.loop (gI t mk)):=by
   refine xF hLp (t:=(t.set 53 (.int .u8 (a.byte.toNat:Nat))).set 54 (oV a)) rfl ?_;show W I wR ⟨_,69,[],D,U (mk+1)⟩ _;apply W.run 20
   .intro M;simp(disch:=first|decide+kernel|omega)only[wR,jQ,np,Aq,V,UM,aX,sE];rfl
   refine⟨rfl,_,hLE,rfl,?_⟩;show W I wS ⟨_,69,[],E.set (mk+1) (.loop {gI t mk with state:=.busy}),U (mk+1)⟩ _;rw[hF1];apply W.ct (gb) 20
   .intro M hM;simp(config:={maxSteps:=4000000})(disch:=first|decide+kernel|omega|simp only[Wq,V])only[wS,jQ,np,Aq,au,reduceIte,V,ak,g6,g8,g9,x6,x6',x8,x8',x9,x0,x1,x0',x1',Oc,Od,Co,hG,F3,RA,RN,c1,hd,bk1,e2,ka,s1,sc,si,hgb,Fq,bY [(0,11),(2,11),(3,11),(5,11),(6,11)]];rfl
   exact⟨rfl,rfl,_,hlH,rfl⟩
  obtain⟨C,hc,rfl⟩:=hq;have:=fin (H.set (mk+1) (.loop (gI t mk))) (cE _ _ _) (λ z h1 _=>by rw[cr,aq h1]) ⟨by rw[cE];exact w10H.1,w10H.2.same (by rw[cr,aq (by omega)])⟩ (by rw[cr,aC rfl,aC hst]);exact⟨_,r',hc,this.1,this.2⟩
 |false=>
  rw[hu]at hgb;have hst:¬(jj+1<Z s.arcs\/b=aa):=by
   simp only[Bs,decide_eq_false_iff_not]at hu;rintro(h|h)
   .exact hu.2 h
   .rw[h]at hu;cases hu.1
  obtain⟨qjV,sI,vI,nI,fI⟩:=df (tb:=I) (t:=4) (o:=0) (v:=.bool af) KQ w10H.2 (by simp) rfl rfl;have hlI:qjV.get (mk+1)=U (.loop {gI t mk with state:=.busy}):=by rw[fI _ (by omega)];exact hlH
  have hq:∃C,(∃g,∀N,g<=N->cH I (exec I N) (.round (mk+1) [.int .u8 (a.byte.toNat:Nat),oV a]) D=.ok (.val (.bool af) C))/\C=qjV.set (mk+1) (.loop {gI t mk with state:=.done,pending:=U .ret}):=by
   refine qdU hLp (t:=(t.set 53 (.int .u8 (a.byte.toNat:Nat))).set 54 (oV a)) rfl ?_;show W I wR ⟨_,69,[],D,U (mk+1)⟩ _;apply W.run 20
   .intro M;simp(disch:=first|decide+kernel|omega)only[wR,jQ,np,Aq,V,UM,aX,sE];rfl
   refine⟨rfl,_,hLE,rfl,?_⟩;show W I wS ⟨_,69,[],E.set (mk+1) (.loop {gI t mk with state:=.busy}),U (mk+1)⟩ _;rw[hF1];apply W.ct (gb) 20
   .intro M hM;simp(config:={maxSteps:=4000000})(disch:=first|decide+kernel|omega|simp only[Wq,V])only[wS,jQ,np,Aq,au,reduceIte,V,ak,g6,g8,g9,g10,x6,x6',x8,x8',x9,x0,x1,x0',x1',Oc,Od,Co,hG,F3,RA,RN,c1,hd,bk1,e2,ka,s1,sc,si,hgb,sI,Fq,bY [(0,11),(2,11),(3,11),(5,11),(6,11)]];rfl
   exact⟨rfl,rfl,_,hlI,rfl⟩
  obtain⟨C,hc,rfl⟩:=hq;have:=fin (qjV.set (mk+1) (.loop {gI t mk with state:=.done,pending:=U .ret})) (by rw[cE];exact nI) (λ z h1 h2=>by rw[cr,aq h1,fI z h2]) ⟨by rw[cE,nI];exact w10H.1,de.same (A:=qjV) vI (by rw[cr,aq (by omega)])⟩ (by rw[cr,aC rfl,aq hst]);exact⟨_,r',hc,this.1,this.2⟩
def CO:bM I 149 (pw b 0) 0=.ok (pw b 0):=by kernel_rfl
def zH(X:List Nat)(L:List (List UInt8×Nat))(Q:Nat->Mem->Nat->Prop)(E3:Mem)(r0 n:Nat)(e:Ex)(s:St):Prop:=
 (e=.nrm\/e=.ret)/\∃A' vs,gU s.d s.m=.ok A'/\eC I s.t A'.get np.results.toList=.ok vs/\(oneOf vs=.bool (decide (n<Z L))/\∃r,Q n A' r/\dS X E3 r0 A' r)
def TZ{E0 E3 F:Mem}{k:O}{l0 p3 p4 p5 p6 P0 r0 r1:Nat}{L:List (List UInt8×Nat)}{Q:Nat->Mem->Nat->Prop}{s:ay}{j1 v b8:Nat}(hS:dJ A M y)(hs:M[i]?=U s)(g:eF M)(hl:Z M<1000000)(hL:∀x∈L,x.1.length<1000/\x.2<18446744073709551616)
 (hK:∀j D E r,Q j D r->D.next<=E.next->(∀z,(z<P0\/z=r)->E.get z=D.get z)->Q j E r)(hC:∀j D r,Q j D r->G9 A y k l0 p3 p4 p5 p6 X D r/\P0<=D.next/\∀x∈X,x<P0)
 (ih:∀a∈s.arcs,∀w v j D r0,Q j D r0->(∀t x,(ws M a.to)[t]?=U x->L[j+t]?=U (w++x.1,v+x.2))->
  ∃b E,az I 264 ([.int .i64 a.to,ag w,pK v]++ju p3 p4 p5 p6) D b E/\b=.bool (decide (j+(ws M a.to).length<Z L))/\∃r,Q (j+(ws M a.to).length) E r/\dS X D r0 E r)
 (hne:s.arcs≠ []\/j1+iW M s (Z s.arcs)<Z L)(hle:j1+iW M s (Z s.arcs)<=Z L)
 (hW:∀t x,(s.arcs.flatMap (ir M))[t]?=U x->L[j1+t]?=U (w++x.1,v+x.2))
 (v8:VB E3 9 b8 (.var 1) [ag w])(v9:VB E3 321 (b8+1) (.var 2) [.int .u64 v,.bool aa])(v10:VB E3 4 (b8+2) (.var 1) [.bool af])
 (hP:P0<=b8/\b8+2<E3.next/\r0<b8/\E0.next=b8/\A.next<=b8)(hk0:Kp E0 E3)(hQ:Q j1 F r1)(hF:dS X E3 r0 F r1)
 (hsl:Sl t [(0,.int .i64 i),(4,pV p4),(6,pV p6),(8,pV b8),(9,pV (b8+1)),(10,pV (b8+2))]):
 W I (.seq (.seq (sub jQ [1,1,1,1,0,0]) (.block 0 (.rangeFunc (.tmp 52) #[53,54] wR wS))) (sub jQ [1,1,1,1,1])) ⟨t,69,[],F,Y⟩ (zH X L Q E0 r0 (j1+iW M s (Z s.arcs))):=by
 obtain⟨h0,h4,h6,h8,h9,h10,-⟩:=hsl;obtain⟨hP1,hP2,hP3,hP4,hP5⟩:=hP;obtain⟨hc,hPF,hXP⟩:=hC _ _ _ hQ;obtain⟨k1,k2,k3,k4,-⟩:=g i s hs;have hfew:=y_ (g i s hs);have hXlt:∀z,P0<=z->z∉X:=λ z hz h=>by have:=hXP z h;omega
 have nF:=hF.1;have hr1:=hF.2.1;have fF:∀z,z<E3.next->P0<=z->z≠r0->F.get z=E3.get z:=λ z hz h0 h=>hF.2.2 z hz (hXlt z h0) h
 obtain⟨d,hd1,hd2⟩:=DL;have ld:=bU hd1 hd2 (l:=[y,k]) iE hc.v4.2;obtain⟨gw,hgw⟩:=KP;have x1:=(aK F 149 [y,k]).kp (Kp.alloc _ (ae 3 [.int .i64 i]));have x2:=aK (F.alloc (ae 149 [y,k])) 3 [.int .i64 i];have y1:=aA F (ae 149 [y,k]);have y2:((F.alloc (ae 149 [y,k])).alloc (ae 3 [.int .i64 i])).next=F.next+2:=by rw[aA,y1]
 have kH:=(Kp.alloc F (ae 149 [y,k])).trans (Kp.alloc _ (ae 3 [.int .i64 i]));rw[y1]at x2;generalize (F.alloc (ae 149 [y,k])).alloc (ae 3 [.int .i64 i])=H at hgw x1 x2 y2 kH;simp only[pV]at h4 h6 h8 h9 h10 hgw;apply W.seq;apply W.qG (gw)
 .intro M hM;simp(disch:=omega)only[jQ,np,Aq,V,h0,h4,ld,hgw];rfl
 apply W.block;generalize ht0:T.set _ _ _=t0;have hsl:Sl t0 [(6,pV p6),(8,pV b8),(9,pV (b8+1)),(10,pV (b8+2)),(52,.func (.func 280) ⟨[]⟩ ⟨[pV F.next,pV (F.next+1)]⟩)]:=by
  rw[<-ht0];simp only[Sq,V,ak,h6,h8,h9,h10,pV]
 clear ht0;obtain⟨h6,h8,h9,h10,h52,-⟩:=hsl;have kJ:=(Kp.alloc H .defd).trans (Kp.alloc (H.alloc .defd) (.loop (gI t0 H.next)));have nJ1:=aA H .defd;have nJ:((H.alloc .defd).alloc (.loop (gI t0 H.next))).next=H.next+2:=by rw[aA,nJ1]
 have jL:((H.alloc .defd).alloc (.loop (gI t0 H.next))).get (H.next+1)=U (.loop (gI t0 H.next)):=by have:=cR (H.alloc .defd) (.loop (gI t0 H.next));rwa[nJ1]at this
 have jM:((H.alloc .defd).alloc (.loop (gI t0 H.next))).get H.next=U .defd:=by rw[(Kp.alloc (H.alloc .defd) _).2 _ (by omega)];exact cR H .defd
 generalize hJ:(H.alloc .defd).alloc (.loop (gI t0 H.next))=J at kJ nJ jL jM;have kFJ:=kH.trans kJ;have toJ:∀e z k l,VB E3 e z k l->P0<=z->z≠r0->VB J e z k l:=λ e z k l h h0 h1=>VB.kp ⟨by have:=h.1;omega,h.2.same (fF z h.1 h0 h1)⟩ kFJ
 have hcr:=hc.x r1 (.inr rfl);have hKp:=hc.kp.1;have hQJ:=hK _ _ _ _ hQ (by omega) λ z hz=>kFJ.2 z (by omega)
 have hI:Hc M s t0 H.next (H.next+1) (b8+2) ((H.next+1)::(b8+2)::X) J r1 (decide (j1+iW M s (Z s.arcs)<Z L)) j1 Q 0 J r1:=by
  refine⟨by unfold iW;simpa using hQJ,dS.kp (Kp.refl J),toJ _ _ _ _ v10 (by omega) (by omega),?_⟩;rw[aC]
  .exact jL
  .rcases hne with hne|hne
   .exact .inl (iG.2 hne)
   .exact .inr (decide_eq_true hne)
 have hKp2:=hc.kp.trans kFJ;obtain⟨va,C,hA,r2,⟨q1,q2,q3,q4⟩,hFC⟩:=qgz hS hs k3 k2 hfew hl hKp2 (x1.kp kJ) (x2.kp kJ)
  (λ x hx=>by
   have h1:x=H.next+1\/x=b8+2\/x∈X\/x=r1:=by
    rcases hx with hx|hx
    .simp only[cC]at hx;rcases hx with hx|hx|hx
     .exact .inl hx
     .exact .inr (.inl hx)
     .exact .inr (.inr (.inl hx))
    .exact .inr (.inr (.inr hx))
   rcases h1 with h1|h1|h1|h1
   .omega
   .omega
   .have q1:=(hc.x x (.inl h1)).1;have q2:=hXP x h1;exact⟨by omega,by omega,by omega,by omega⟩
   .omega)
  (λ jj D E r hq hk=>by
   obtain⟨a1,a2,a3,a4⟩:=hq;obtain⟨b1,b2,b3⟩:=hC _ _ _ a1;have:=(b1.x r (.inr rfl)).2;exact⟨hK _ _ _ _ a1 hk.1 λ z hz=>hk.2 z (by omega),a2.trans (dS.kp hk),a3.kp hk,by rw[hk.2 _ (by have:=a2.1;omega)];exact a4⟩)
  (qdS hs g hL hK hC ih rfl hle hW (toJ _ _ _ _ v8 (by omega) (by omega)) (toJ _ _ _ _ v9 (by omega) (by omega)) (toJ _ _ _ _ v10 (by omega) (by omega)) ⟨hP1,by omega,rfl,by omega,by omega,by omega⟩ ⟨h6,h8,h9,h10,trivial⟩) hI
 have hans:az I 280 ([]++[.func (.yield (H.next+1)) ⟨[]⟩ ⟨[]⟩]++[pV F.next,pV (F.next+1)]) ((H.alloc .defd).alloc (.loop (gR t0 69 [53,54] wR wS H.next))) va C:=by
  show az I 280 _ ((H.alloc .defd).alloc (.loop (gI t0 H.next))) va C;rw[hJ];exact hA
 have hev:ev t0 (.tmp 52)=.ok (.func (.func 280) ⟨[]⟩ ⟨[pV F.next,pV (F.next+1)]⟩):=by simp only[ev,h52]
 have hr2:=hFC.2.1;have nC:=hFC.1;have mC:C.get H.next=U .defd:=by rw[hFC.2.2 _ (by omega) (by simp only[cC,not_or];exact⟨by omega,by omega,hXlt _ (by omega)⟩) (by omega),jM]
 have hcC:=(hC _ _ _ q1).1;have hrC:=(hcC.x r2 (.inr rfl)).2;have fin:∀N:Mem,N.next=C.next->(∀z,z≠H.next->z≠H.next+1->z≠b8+2->N.get z=C.get z)->Q (j1+iW M s (Z s.arcs)) N r2/\dS X E0 r0 N r2:=λ N hn hf=>by
  refine⟨hK _ _ _ _ q1 (by omega) λ z hz=>hf z (by omega) (by omega) (by omega),by have:=hk0.1;omega,by have:=hk0.1;omega,λ z hz hx hr=>?_⟩;have hk01:=hk0.1;rw[hf z (by omega) (by omega) (by omega),hFC.2.2 z (by omega) (by simp only[cC,not_or];exact⟨by omega,by omega,hx⟩) (by omega),kFJ.2 z (by omega),hF.2.2 z (by omega) hx hr,hk0.2 z hz]
 generalize hKm:C.set (H.next+1) (.loop {(if Z s.arcs<Z s.arcs\/decide (j1+iW M s (Z s.arcs)<Z L)=aa then gI t0 H.next else {gI t0 H.next with state:=.done,pending:=U .ret})with state:=.exhausted})=Km;have nKm:Km.next=C.next:=by rw[<-hKm];exact cE _ _ _
 have fKm:∀z,z≠H.next+1->Km.get z=C.get z:=λ z hz=>by rw[<-hKm,cr,aq hz]
 have mK:Km.get H.next=U .defd:=by rw[fKm _ (by omega)];exact mC
 have vK:VB Km 4 (b8+2) (.var 1) [.bool af]:=⟨by rw[nKm];exact q3.1,q3.2.same (fKm _ (by omega))⟩;simp only[pV]at h10;by_cases hb:j1+iW M s (Z s.arcs)<Z L
 .rw[aC (.inr (decide_eq_true hb))]at q4 hKm;refine W.Gc (v:=va) (A':=C) (r:=gI t0 H.next) (e:=.nrm) hev hans q4 (by simp[gI,gR]) (.inl ⟨rfl,rfl⟩) ?_;rw[hKm];obtain⟨qjV,sI,vI,nI,fI⟩:=df (tb:=I) (t:=4) (o:=0) (v:=.bool aa) KQ vK.2 (by simp) rfl rfl;apply W.run 20
  .intro M;simp only[jQ,np,Aq,V,h10,sI];rfl
  obtain⟨N,t1,t2,t3⟩:=tX [H.next] qjV (by simp) (λ d hd=>by
   rw[ee]at hd;rw[hd,fI _ (by omega)];exact mK)
  have lN:ax I N.get 4 (pw (b8+2) 0)=.ok (.bool aa):=c7 u4 rfl (vI.same (t3 _ (by simp;omega))) rfl;obtain⟨f1,f2⟩:=fin N (by rw[t2,nI,nKm]) (λ z h1 h2 h3=>by rw[t3 z (by simp[h1]),fI z h3,fKm z h2]);unfold zH;rw[decide_eq_true hb];exact⟨.inr rfl,N,_,t1,(by simp only[np,Aq,V,h10,lN]<;>rfl),rfl,r2,f1,f2⟩
 .rw[aq (by simp[hb])]at q4 hKm;refine W.Gc (fid:=280) (first:=[]) (capt:=[pV F.next,pV (F.next+1)]) (v:=va) (A':=C) (r:={gI t0 H.next with state:=.done,pending:=U .ret}) (e:=.ret) hev hans q4 (by simp) (.inr ⟨rfl,rfl⟩) ?_;rw[hKm];obtain⟨N,t1,t2,t3⟩:=tX [H.next] Km (by simp) (λ d hd=>by
   rw[ee]at hd;rw[hd];exact mK)
  have lN:ax I N.get 4 (pw (b8+2) 0)=.ok (.bool af):=c7 u4 rfl (vK.2.same (t3 _ (by simp;omega))) rfl;obtain⟨f1,f2⟩:=fin N (by rw[t2,nKm]) (λ z h1 h2 h3=>by rw[t3 z (by simp[h1]),fKm z h2]);unfold zH;rw[decide_eq_false hb];exact⟨.inr rfl,N,_,t1,(by simp only[np,Aq,V,h10,lN]<;>rfl),rfl,r2,f1,f2⟩
def qjN:cX I 4=.ok (.bool af):=by kernel_rfl
def qeH{k:O}{l0 p3 p4 p5 p6 P0:Nat}{L:List (List UInt8×Nat)}{Q:Nat->Mem->Nat->Prop}(hS:dJ A M y)(g:eF M)(hl:Z M<1000000)(hL:∀x∈L,x.1.length<1000/\x.2<18446744073709551616)
 (hK:∀j D E r,Q j D r->D.next<=E.next->(∀z,(z<P0\/z=r)->E.get z=D.get z)->Q j E r)(hC:∀j D r,Q j D r->G9 A y k l0 p3 p4 p5 p6 X D r/\P0<=D.next/\∀x∈X,x<P0)(hE:Ha X l0 L Q):
 ∀i,i<Z M->∀w v j D r0,Q j D r0->(∀t x,(ws M i)[t]?=U x->L[j+t]?=U (w++x.1,v+x.2))->
  ∃b E,az I 264 ([.int .i64 i,ag w,pK v]++ju p3 p4 p5 p6) D b E/\b=.bool (decide (j+(ws M i).length<Z L))/\∃r,Q (j+(ws M i).length) E r/\dS X D r0 E r:=by
 intro i
 induction i using yi with
 |ind i IH=>
 intro hi w v j D r0 hQ hW;obtain⟨hc,hPD,hXP⟩:=hC _ _ _ hQ;have hs:=aV hi;generalize M[i]=s at hs;obtain⟨k1,k2,k3,k4,-⟩:=g i s hs;have ih:∀a∈s.arcs,∀w v j D r0,Q j D r0->(∀t x,(ws M a.to)[t]?=U x->L[j+t]?=U (w++x.1,v+x.2))->
  ∃b E,az I 264 ([.int .i64 a.to,ag w,pK v]++ju p3 p4 p5 p6) D b E/\b=.bool (decide (j+(ws M a.to).length<Z L))/\∃r,Q (j+(ws M a.to).length) E r/\dS X D r0 E r:=λ a ha=>IH a.to (k3 a ha) (Nat.lt_trans (k3 a ha) hi)
 have hws:=rp g hs;have hcnt:iW M s (Z s.arcs)=(s.arcs.flatMap (ir M)).length:=by unfold iW;rw[dY]
 have hpos:=LH g i hi;have h00:=hW 0 _ (aV hpos);have hlast:=hW ((ws M i).length-1) _ (aV (by omega));have hjl:=(bg.1 hlast).1;obtain⟨hw1,-⟩:=hL _ (fh h00);simp only[aU]at hw1;refine mc (aN Tryz.func264) XE (by rw[Tryz.ntmps264];simp[ju]) (by kernel_rfl) (by kernel_rfl) ?_;show W I _ _ (zH X L Q D r0 (j+(ws M i).length));generalize hb8:D.next=b8
 have n1:(D.alloc (ae 9 [ag w])).next=b8+1:=by rw[aA,hb8]
 have n2:((D.alloc (ae 9 [ag w])).alloc (ae 321 [.int .u64 v,.bool aa])).next=b8+2:=by rw[aA,n1]
 have n3:(((D.alloc (ae 9 [ag w])).alloc (ae 321 [.int .u64 v,.bool aa])).alloc (ae 4 [.bool af])).next=b8+3:=by rw[aA,n2]
 have q1:=Kp.alloc D (ae 9 [ag w]);have q2:=Kp.alloc (D.alloc (ae 9 [ag w])) (ae 321 [.int .u64 v,.bool aa]);have q3:=Kp.alloc ((D.alloc (ae 9 [ag w])).alloc (ae 321 [.int .u64 v,.bool aa])) (ae 4 [.bool af]);have v8:=((aK D 9 [ag w]).kp q2).kp q3;have v9:=(aK (D.alloc (ae 9 [ag w])) 321 [.int .u64 v,.bool aa]).kp q3;have v10:=aK ((D.alloc (ae 9 [ag w])).alloc (ae 321 [.int .u64 v,.bool aa])) 4 [.bool af];have hk:=q1.trans (q2.trans q3);rw[hb8]at v8;rw[n1]at v9;rw[n2]at v10;apply W.seq;simp only[pK,ju,pV,ij,lX];apply W.run 20
 .intro M;simp(disch:=first|decide+kernel|omega)only[jQ,np,Aq,V,aX,sj,Ng,hb8,n1,n2,qjN];rfl
 show W I _ _ _;generalize ((D.alloc (ae 9 [ag w])).alloc (ae 321 [.int .u64 v,.bool aa])).alloc (ae 4 [.bool af])=E at hk n3 v8 v9 v10;have l8:ax I E.get 9 (.pointer (U ⟨b8,0,Y⟩))=.ok (ag w):=v8.ld rfl u9 rfl;have l3:ax I E.get 9 (.pointer (U ⟨p3,0,Y⟩))=.ok (ag []):=(hc.v3.kp hk).ld rfl u9 rfl;have mn:cQ I .min [3,3] [.int .i64 (Z w:Nat),.int .i64 (0:Nat)]=.ok (.int .i64 (0:Nat)):=by rw[Am.qZ,Nat.min_zero]
 have sl:eD I 9 (ag []) Y (U (.int .i64 (0:Nat))) Y=.ok (ag []):=Gx u9 (aJ 0);have ll1:cQ I .len [9] [ag w]=.ok (.int .i64 (Z w:Nat)):=lK u9;have ll2:cQ I .len [9] [ag []]=.ok (.int .i64 (0:Nat)):=lK u9;obtain⟨g1,hg1⟩:=qfC (A:=E) (a:=w);apply W.ie (g1)
 .intro M hM _;simp(config:={maxSteps:=4000000})(disch:=first|decide+kernel|omega|simp only[Wq,V])only[jQ,np,Aq,au,reduceIte,V,ak,l8,l3,ll1,ll2,mn,sl,hg1,Fq,bY []];rfl
 obtain⟨p,r1,r2,i1,i2,i3,i4⟩:=hS.ZW hs;have hkE:=hc.kp.trans hk;obtain⟨m1,m2⟩:=i4 E hkE;have m3:ax I E.get 146 (.pointer (U ⟨p4,0,Y⟩))=.ok y:=(hc.v4.kp hk).ld rfl eK rfl;have hQE:Q j E r0:=hK _ _ _ _ hQ hk.1 λ z hz=>hk.2 z (by have:=(hc.x r0 (.inr rfl)).2;omega)
 have hrr:=hc.x r0 (.inr rfl);have hkp:=hc.kp.1;cases hf:s.fin with
 |false=>
  rw[hf]at m1 hws;rw[aq (by simp),lX]at hws;rw[hws]at hW hjl⊢;rw[<-hcnt]at hjl⊢;apply W.q
  .intro M;simp(config:={maxSteps:=4000000})(disch:=first|decide+kernel|omega|simp only[Wq,V])only[jQ,np,Aq,au,reduceIte,V,ak,CO,m3,i1,i2,m1,Fq,bY [(13,22),(14,22)]];rfl
  refine TZ (E3:=E) hS hs g hl hL hK hC ih (.inl ?_) (by omega) hW v8 v9 v10 ⟨by omega,by omega,by omega,hb8,by omega⟩ hk hQE (dS.kp (Kp.refl E)) ?_
  .rcases k4 with k4|k4
   .rw[hf]at k4;cases k4
   .exact k4
  .simp only[Sq,V,ak,pV]
 |true=>
  rw[hf]at m1 hws;rw[aC rfl]at hws;have e0:L[j]?=U (w,v+s.out):=by
   have:=hW 0 ([],s.out) (by rw[hws];rfl);simpa using this
  have hln:j+(ws M i).length=j+1+iW M s (Z s.arcs):=by rw[hws,hcnt,aU,fg];omega
  have hW':∀t x,(s.arcs.flatMap (ir M))[t]?=U x->L[j+1+t]?=U (w++x.1,v+x.2):=λ t x hx=>by
   rw[rG];exact hW (1+t) x (by rw[hws,ez (by simp),fg,Nat.add_sub_cancel_left];exact hx)
  obtain⟨F,r3,⟨gy,hy⟩,hQF,hFF⟩:=hE j w (v+s.out) E r0 e0 hQE;have hv:=(hL _ (fh e0)).2;have ka:=λ ih A=>FM (ih:=ih) (A:=A) (n:=v) (m:=s.out) (f:=aa) hv
  have ly:ax I E.get 385 (.pointer (U ⟨p5,0,Y⟩))=.ok (.func (.yield l0) ⟨[]⟩ ⟨[]⟩):=by
   obtain⟨d,hd1,hd2⟩:=qiQ;exact(hc.v5.kp hk).ld rfl hd1 hd2
  have ls:ax I E.get 321 (.pointer (U ⟨b8+1,0,Y⟩))=.ok (.agg ⟨[.int .u64 v,.bool aa]⟩):=by
   obtain⟨d,hd1,hd2⟩:=b9 (t:=321) (p:=aa) (by kernel_rfl);exact bU hd1 hd2 (l:=[.int .u64 v,.bool aa]) Gl v9.2
  have sy:=qgY l0;have hrb:r0<b8:=by omega
  have hXlt:∀z,P0<=z->z∉X:=λ z hz h=>by have:=hXP z h;omega
  have w10:VB F 4 (b8+2) (.var 1) [.bool af]:=⟨by have:=hFF.1;omega,v10.2.same (hFF.2.2 _ (by omega) (hXlt _ (by omega)) (by omega))⟩;simp only[pK]at hy;have hjl:j+(ws M i).length<=Z L:=by omega
  rw[hln]at hjl⊢;by_cases hlt:j+1<Z L
  .rw[decide_eq_true hlt]at hy;apply W.qG (g1+gy)
   .intro M hM;simp(config:={maxSteps:=4000000})(disch:=first|decide+kernel|omega|simp only[Wq,V])only[jQ,np,Aq,au,reduceIte,V,ak,CO,m3,i1,i2,i3,m1,m2,l8,l3,hg1,ly,ls,ka,hy,sy,Fq,bY [(13,22),(14,22)]];rfl
   refine TZ (E3:=E) hS hs g hl hL hK hC ih ?_ (by omega) hW' v8 v9 v10 ⟨by omega,by omega,by omega,hb8,by omega⟩ hk hQF hFF ?_
   .by_cases ha:s.arcs=[]
    .refine .inr ?_;rw[hcnt,ha];exact hlt
    .exact .inl ha
   .simp only[Sq,V,ak,pV]
  .rw[decide_eq_false hlt]at hy;obtain⟨qjV,sI,vI,nI,fI⟩:=df (tb:=I) (t:=4) (o:=0) (v:=.bool af) KQ w10.2 (by simp) rfl rfl;have lI:ax I qjV.get 4 (.pointer (U ⟨b8+2,0,Y⟩))=.ok (.bool af):=c7 u4 rfl vI rfl;apply W.seq;apply W.ct (g1+gy) 20
   .intro M hM;simp(config:={maxSteps:=4000000})(disch:=first|decide+kernel|omega|simp only[Wq,V])only[jQ,np,Aq,au,reduceIte,V,ak,CO,m3,i1,i2,i3,m1,m2,l8,l3,hg1,ly,ls,ka,hy,sy,sI,Fq,bY [(13,22),(14,22)]];rfl
   show zH _ _ _ _ _ _ _ _;have hz:iW M s (Z s.arcs)=0:=by omega
   rw[hz,dN];unfold zH;rw[decide_eq_false hlt];have hkI:=hFF.1;refine⟨.inr rfl,qjV,_,rfl,(by simp only[np,Aq,V,lI]<;>rfl),rfl,r3,hK _ _ _ _ hQF (by omega) λ z hz=>fI z ?_,⟨by omega,by have:=hFF.2.1;omega,λ z hz hx hr=>?_⟩⟩
   .have:=(hC _ _ _ hQF).1.x r3 (.inr rfl);have:=hFF.2.1;omega
   .rw[fI z (by omega),hFF.2.2 z (by omega) hx hr,hk.2 z hz]
end Go.Proofs.YtdobfpkceacneaaGreatDoor.sto
namespace Go.Am
variable {tb:aO}
variable {t:T O}{n i:Nat}{A A':Mem}
def W.qdv{f:bA}{ps:Array Tmp}{a b:aH}{d:List Nat}{K:Ex->St->Prop}{fid:FuncId}{first capt:List O}{v:O}{r:eT}
 (hf:ev t f=.ok (.func (.func fid) ⟨first⟩ ⟨capt⟩))
 (hc:az tb fid (first++[.func (.yield (A.next+1)) ⟨[]⟩ ⟨[]⟩]++capt) ((A.alloc .defd).alloc (.loop (gR t n ps.toList a b A.next))) v A')
 (hr:A'.get (A.next+1)=U (.loop r))(hst:r.state=.done)(hp:r.pending=U (.exit i))
 (k:K (.exit i) ⟨t,n,A.next::d,A'.set (A.next+1) (.loop {r with state:=.exhausted}),Y⟩):W tb (.rangeFunc f ps a b) ⟨t,n,d,A,Y⟩ K:=by
 obtain⟨g,hg⟩:=hc;refine⟨_,_,⟨g+1,λ m=>?_⟩,k⟩;rw[show m+(g+1)=(m+g)+1 by omega,Jb];have h1:=hg (m+g) (by omega);unfold xC;simp only[hf,R.aT];have hn:=aA A .defd;rw[hn];have hcal:∀g':Nat->Option Ob,tK tb g' (.func (.func fid) ⟨first⟩ ⟨capt⟩) [.func (.yield (A.next+1)) ⟨[]⟩ ⟨[]⟩]=.ok (.fn fid (first++[.func (.yield (A.next+1)) ⟨[]⟩ ⟨[]⟩]++capt)):=λ _=>rfl
 rw[hcal,R.aT];unfold gR at h1;rw[h1,R.aT];simp only[hr,hp,hst];rfl
def qdT{l:Nat}{args:List O}{r:eT}{Q:Mem->Prop}(hl:A.get l=U (.loop r))(ht:setArgs r.n r.params args r.tmps=.ok t)
 (h:W tb r.assign ⟨t,r.n,[],A,U l⟩ λ e s1=>e=.nrm/\∃r1,s1.m.get l=U (.loop r1)/\r1.state=.ready/\W tb r.body ⟨s1.t,s1.n,s1.d,s1.m.set l (.loop {r1 with state:=.busy}),s1.ro⟩ λ e s2=>e=.exit i/\s2.d=[]/\∃r2,s2.m.get l=U (.loop r2)/\Q (s2.m.set l (.loop {r2 with state:=.done,pending:=U (.exit i)}))):
 ∃A',(∃g,∀M,g<=M->cH tb (exec tb M) (.round l args) A=.ok (.val (.bool af) A'))/\Q A':=by
 obtain⟨e,s1,⟨f1,h1⟩,rfl,r1,hr1,hst1,e2,s2,⟨f2,h2⟩,rfl,hd,r2,hr2,hQ⟩:=h;refine⟨_,⟨f1+f2,λ M hM=>?_⟩,hQ⟩;show vc (exec tb M) l args A=_;unfold vc;have e1:=h1 (M-f1);rw[wh (by omega)]at e1;have e2:=h2 (M-f2);rw[wh (by omega)]at e2;simp only[hl,ht,R.aT,e1,hr1,hst1,e2,hd,hr2]
end Go.Am
namespace Go.Proofs.YtdobfpkceacneaaGreatDoor.sto
open Go.Am Go.Mdl Go.Sto
def zz:cX I 44=.ok (.agg ⟨[ag [],wN 0,.bool af]⟩):=by kernel_rfl
variable {w:List UInt8}
def V0:ef I 44 [(0,ag w),(2,.bool aa)]=.ok (.agg ⟨[ag w,wN 0,.bool aa]⟩):=by kernel_rfl
def V_{n:Int}:ef I 44 [(0,ag w),(1,.int .u32 n)]=.ok (.agg ⟨[ag w,.int .u32 n,.bool af]⟩):=by kernel_rfl
def Norm(e:aD):Prop:=(e.gone=aa->e.weight=0)/\e.weight<4294967296
variable {A:Mem}{e:aD}
def qfa(h:Norm e):∃A',az I 229 [ag e.word,.int .u64 (val e:Nat)] A (.tuple ⟨[.agg ⟨aS e⟩,.bool aa]⟩) A'/\Kp A A':=by
 obtain⟨w,n,gn⟩:=e;obtain⟨h1,h2⟩:=h;have h2:n<4294967296:=h2;have kB:=Kp.alloc A (ae 44 (aS ⟨w,n,gn⟩));have sB:bX I (A.alloc (ae 44 [ag [],.int .u32 (0:Nat),.bool af])) 44 (.pointer (U ⟨A.next,0,Y⟩)) (.agg ⟨aS ⟨w,n,gn⟩⟩)=.ok (A.alloc (ae 44 (aS ⟨w,n,gn⟩))):=ep jd rfl rfl (by simp) (wX _);have lB:ax I (A.alloc (ae 44 (aS ⟨w,n,gn⟩))).get 44 (.pointer (U ⟨A.next,0,Y⟩))=.ok (.agg ⟨aS ⟨w,n,gn⟩⟩):=by
  obtain⟨d,hd1,hd2⟩:=b9 (by kernel_rfl);exact bU hd1 hd2 jd (sV A 44 (aS ⟨w,n,gn⟩))
 refine⟨_,?_,kB⟩;cases gn with
 |true=>
  obtain rfl:=h1 rfl;simp only[val,aS]at sB lB⊢;refine cG 60 (aN Tryz.func229) (by kernel_rfl) λ M=>?_
  simp(disch:=decide+kernel)only[Tryz.f229,Aq,V,zz,aX,V0,sB,lB]<;>rfl
 |false=>
  have hn:¬(n+1=0):=by omega
  have s1:bj .sub .u64 ((n+1:Nat):Int) ((1:Nat):Int)=.ok (.int .u64 (n:Nat)):=gS (by omega) (iz (by omega));have hle:¬(4294967295<n):=by omega
  have cv:=ia (d:=42) (k:=.u64) (n:=n) (by rw[eE];rfl) Bh (by unfold dj;show aM n 4294967296=aa;rw[bT];exact h2);simp only[val,aS,ed,bO]at sB lB⊢;refine cG 60 (aN Tryz.func229) (by kernel_rfl) λ M=>?_
  simp(disch:=decide+kernel)only[Tryz.f229,Aq,V,zz,aX,V_,sB,lB,hn,s1,fm,fk,hle,cv]<;>rfl
end Go.Proofs.YtdobfpkceacneaaGreatDoor.sto
namespace Go.Proofs.YtdobfpkceacneaaGreatDoor.sto
open Go.Am Go.Mdl Go.Sto Go.Shelf
variable {A:Mem}{M:List ay}{y:O}
def qga{k:O}(h:dJ A M y)(hM:M≠ [])(hl:Z M<1000000):∃A',az I 265 [.agg ⟨[y,k]⟩] A (iN (Z M-1)) A'/\Kp A A':=by
 have kB:=Kp.alloc A (ae 149 [y,k]);have vB:=aK A 149 [y,k];generalize hB:A.alloc (ae 149 [y,k])=B at kB vB;have ly:=vB.l0 eK rfl;have c6:=(h.kp kB).len;have hpos:=iG.2 hM;have s1:bj .sub .i64 ((Z M:Nat):Int) ((1:Nat):Int)=.ok (iN (Z M-1)):=gS (by omega) (cS (by omega));refine⟨B,?_,kB⟩;refine cG 60 (aN Tryz.func265) (by kernel_rfl) λ M=>?_
 simp(disch:=decide+kernel)only[Tryz.f265,Aq,V,aX,hB,CO,ly,c6,s1]<;>rfl
def Nh:Value.nilFunc.cells.toList=[.nilFunc]:=rfl
def qjH:cX I 386=.ok .nilFunc:=by kernel_rfl
def qgL:aY I 386=.ok 1:=by kernel_rfl
def VU{x:Int}{f:Bool}:ef I 321 [(0,.int .u64 x),(1,.bool f)]=.ok (.agg ⟨[.int .u64 x,.bool f]⟩):=by kernel_rfl
def sW(M:List ay)(k:Nat):List (List UInt8×Nat):=(ws M (Z M-1)).map λ x=>(x.1,k+x.2)
def wQ:=cg BV
def XD:BV.body=U (.seq (sub wQ [0]) (.seq (sub wQ [1,0]) (.seq (sub wQ [1,1,0]) (.seq (sub wQ [1,1,1,0]) (sub wQ [1,1,1,1]))))):=by kernel_rfl
variable {k:Nat}{X:List Nat}
def qgy{J:Mem}{lp p3 p4 r0:Nat}{Q:Nat->Mem->Nat->Prop}(hS:dJ A M y)(g:eF M)(hM:M≠ [])(hl:Z M<1000000)(hL:∀x∈sW M k,x.1.length<1000/\x.2<18446744073709551616)
 (hK:∀j D E r,Q j D r->D.next<=E.next->(∀z,(z<J.next\/z=r)->E.get z=D.get z)->Q j E r)(hR:∀j D r,Q j D r->r<D.next)(hE:Ha X lp (sW M k) Q)(hJ:Kp A J)(hX:∀x,(x∈X\/x=r0)->A.next<=x/\x<J.next/\x≠p3/\x≠p4)
 (v3:VB J 9 p3 (.var 1) [ag []])(v4:VB J 149 p4 (.var 2) [y,.int .u64 k])(hI:Q 0 J r0):
 ∃v E,az I 263 [.func (.yield lp) ⟨[]⟩ ⟨[]⟩,pV p3,pV p4] J v E/\∃r,Q (sW M k).length E r/\dS X J r0 E r:=by
 generalize hb:J.next=b5
 have hpos:=iG.2 hM;have k1:=Kp.alloc J (ae 385 [.func (.yield lp) ⟨[]⟩ ⟨[]⟩]);have n1:(J.alloc (ae 385 [.func (.yield lp) ⟨[]⟩ ⟨[]⟩])).next=b5+1:=by rw[aA,hb]
 have w5:=aK J 385 [.func (.yield lp) ⟨[]⟩ ⟨[]⟩];rw[hb]at w5;generalize hB1:J.alloc (ae 385 [.func (.yield lp) ⟨[]⟩ ⟨[]⟩])=B1 at k1 n1 w5;have k2:=Kp.alloc B1 (ae 386 [.func (.func 264) ⟨[]⟩ ⟨ju p3 p4 b5 (b5+1)⟩]);have n2:(B1.alloc (ae 386 [.func (.func 264) ⟨[]⟩ ⟨ju p3 p4 b5 (b5+1)⟩])).next=b5+2:=by rw[aA,n1]
 have w6:=aK B1 386 [.func (.func 264) ⟨[]⟩ ⟨ju p3 p4 b5 (b5+1)⟩];have s6:bX I (B1.alloc (ae 386 [.nilFunc])) 386 (pw B1.next 0) (.func (.func 264) ⟨[]⟩ ⟨ju p3 p4 b5 (b5+1)⟩)=.ok (B1.alloc (ae 386 [.func (.func 264) ⟨[]⟩ ⟨ju p3 p4 b5 (b5+1)⟩])):=ep qgL rfl rfl (by simp) (by simp[bI]);rw[n1]at w6 s6;generalize B1.alloc (ae 386 [.func (.func 264) ⟨[]⟩ ⟨ju p3 p4 b5 (b5+1)⟩])=B at k2 n2 w6 s6;have kJB:=k1.trans k2;have V5:=w5.kp k2;have hSB:=hS.kp (hJ.trans kJB);obtain⟨d,hd1,hd2⟩:=DL;have l4:=bU hd1 hd2 (l:=[y,.int .u64 k]) iE (v4.kp kJB).2;obtain⟨C,⟨gr,hgr⟩,kC⟩:=qga hSB hM hl (k:=.int .u64 k);have kJC:=kJB.trans kC;have l6:ax I C.get 386 (pw (b5+1) 0)=.ok (.func (.func 264) ⟨[]⟩ ⟨ju p3 p4 b5 (b5+1)⟩):=by
  obtain⟨d,hd1,hd2⟩:=Uf;exact(w6.kp kC).ld rfl hd1 hd2
 have l7:=(v4.kp kJC).m1 eE rfl;have hr0:=hX r0 (.inr rfl);have hAJ:=hJ.1;have nC:=kC.1;have hQC:=hK _ _ _ _ hI kJC.1 λ z hz=>kJC.2 z (by omega)
 obtain⟨vb,E,⟨gb,hgb⟩,rfl,r,hQE,hFE⟩:=qeH (p3:=p3) (p4:=p4) (p5:=b5) (p6:=b5+1) (P0:=C.next) (X:=X) (L:=sW M k)
  (Q:=λ j D r=>Q j D r/\dS X C r0 D r) hS g hl hL
  (λ j D E r hq hn hz=>⟨hK _ _ _ _ hq.1 hn λ z hz'=>hz z (by have:=kJC.1;omega),⟨by have:=hq.2.1;omega,hq.2.2.1,λ z hz' hx hr=>by rw[hz z (.inl hz'),hq.2.2.2 z hz' hx hr]⟩⟩)
  (λ j D r hq=>by
   obtain⟨hq,hf⟩:=hq;have hrD:=hR _ _ _ hq;have hfn:=hf.1;have hfr:r=r0\/C.next<=r:=hf.2.1
   have kp:∀e z kk l,VB C e z kk l->z∉X->z≠r0->VB D e z kk l:=λ e z kk l h h1 h2=>⟨by have:=h.1;omega,h.2.same (hf.2.2 z h.1 h1 h2)⟩
   refine⟨⟨⟨by have:=kJC.1;omega,λ z hz=>by rw[hf.2.2 z (by have:=kJC.1;omega) (λ hx=>by have:=(hX z (.inl hx)).1;omega) (by omega),kJC.2 z (by omega),hJ.2 z hz]⟩,
    kp _ _ _ _ (v3.kp kJC) (λ hx=>(hX _ (.inl hx)).2.2.1 rfl) (λ e=>hr0.2.2.1 e.symm),kp _ _ _ _ (v4.kp kJC) (λ hx=>(hX _ (.inl hx)).2.2.2 rfl) (λ e=>hr0.2.2.2 e.symm),
    kp _ _ _ _ (V5.kp kC) (λ hx=>by have:=(hX _ (.inl hx)).2.1;omega) (by omega),kp _ _ _ _ (w6.kp kC) (λ hx=>by have:=(hX _ (.inl hx)).2.1;omega) (by omega),λ x hx=>?_⟩,hfn,λ x hx=>by have:=(hX x (.inl hx)).2.1;have:=kJC.1;omega⟩
   rcases hx with hx|rfl
   .have:=hX x (.inl hx);have:=kJC.1;omega
   .have:=kJC.1;omega)
  (λ j w v D r hj hq=>by
   obtain⟨E,r',h1,h2,h3⟩:=hE j w v D r hj hq.1;exact⟨E,r',h1,⟨h2,hq.2.trans h3⟩,h3⟩)
  (Z M-1) (by omega) [] k 0 C r0 ⟨hQC,dS.kp (Kp.refl C)⟩ (λ t x hx=>by
   rw[dO];unfold sW;rw[da,hx];rfl)
 have hlen:(sW M k).length=(ws M (Z M-1)).length:=by unfold sW;rw[aR]
 rw[dO]at hQE;rw[<-hlen]at hQE;refine c_ (aN Tryz.func263) XD (by kernel_rfl) ?_;simp only[ju,pV,pK,ij,lX]at hgb s6 l6⊢;apply W.q2
 .intro M _;simp(disch:=first|decide+kernel|omega)only[wQ,BV,Aq,V,tL,hB1,qjH,Nh,n1];rfl
 apply W.ie (gr)
 .intro M hM _;simp(disch:=first|decide+kernel|omega)only[wQ,BV,Aq,V,tL,hb,n1,s6,l4,hgr];rfl
 apply W.ct (gb) 20
 .intro M hM;simp(disch:=first|decide+kernel|omega)only[wQ,BV,Aq,V,a6,decide_true,bR,l6,l7,Fg,VU,hgb];rfl
 exact⟨by simp,rfl,_,(by simp only[BV,Aq,V]<;>rfl),r,hQE.1,(dS.kp kJC).trans hFE⟩
end Go.Proofs.YtdobfpkceacneaaGreatDoor.sto
end
