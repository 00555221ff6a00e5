/- The abstract machine, the walk of the law and its plain laws, made small by a program; part 6: no conditions but those in each theorem. -/
import Derived.Test.YtjoceidiioppiaaGreatDoorQ05
set_option maxHeartbeats 16000000
set_option maxRecDepth 100000
set_option linter.unusedSimpArgs false
set_option linter.unusedVariables false
set_option linter.defProp false
noncomputable section
open Bool renaming and_eq_true→dW,and_true→sK,false_eq_true→dR,or_eq_true→DP,false→ag,true→ae
open Classical renaming byCases→sM,byContradiction→xL
open Go renaming Code→aH,Operand→bM,TypeId→au,Value→I
open List renaming all_eq_true→oT,append_assoc→iC,append_nil→jT,cons_append→iP,drop_eq_getElem_cons→mq,filter_append→zt,filter_cons→iD,filter_eq_self→Bx,filter_nil→DY,findIdx?_eq_none_iff→By,findIdx?_eq_some_iff_getElem→DZ,flatten_append→D5,flatten_cons→vq,flatten_nil→Hj,foldl_append→tV,getElem?_append_left→fe,getElem?_append_right→eV,getElem?_cons_succ→dc,getElem?_cons_zero→c7,getElem?_eq_getElem→aZ,getElem?_eq_none→ky,getElem?_eq_some_iff→bU,getElem?_map→dN,getElem?_set→pL,getElem?_take→pM,getElem?_zip_eq_some→LY,getElem_mem→ff,getElem_of_mem→oU,getElem_take→BB,length→Z,length_append→aY,length_cons→cD,length_eq_zero_iff→eN,length_filter_le→BC,length_map→bc,length_nil→eB,length_pos_iff→je,length_set→dS,length_singleton→fb,length_take→df,map_append→gg,map_cons→lK,map_map→xR,mem_append→mw,mem_cons→cG,mem_cons_of_mem→cV,mem_cons_self→cJ,mem_map→eH,mem_of_getElem?→gJ,mem_or_eq_of_mem_set→zx,mem_singleton→dX,nodup_append→tX,nodup_cons→vw,nodup_nil→nb,not_mem_nil→eC,pairwise_cons→zy,pairwise_iff_getElem→tY,reverse_cons→Ea,takeWhile_cons→BE,take_append_drop→tZ,take_length→dU,take_of_length_le→BF,take_succ_eq_append_getElem→d_,take_zero→zz
open Nat renaming add_comm→xU,add_mul→qo,add_sub_cancel→zB,add_zero→eo,beq→aL,beq_eq→qp,beq_refl→vz,ble→av,ble_eq→sS,ble_eq_true_of_le→my,blt→aO,blt_eq→bZ,eq_of_beq_eq_true→eW,le_of_ble_eq_true→gK,le_refl→aI,le_trans→dm,lt_irrefl→t_,lt_of_lt_of_le→c9,lt_or_ge→ec,max_eq_right→ub,min_eq_left→nf,min_eq_right→BI,min_le_right→Ed,mul_le_mul_right→BK,one_mul→uc,reduceAdd→ak,reduceEqDiff→aa,sub_add_cancel→xX,sub_self→iQ,sub_zero→kL,zero_add→ep,zero_le→a8,zero_mul→xZ
open Option renaming getD_some→sU,map_none→Hx,map_some→gX,none→V,some→U
open Option.some renaming inj→iR,injEq→fg
open Go.Proofs.Tryz renaming f101→uh,f108→ui,f164→oZ,f17→yb,f184→BR,f26→vU,f55→vY,f57→yh,f66→yj,f67→vZ,f85→pj,f90→yl
open UInt8 renaming lt_iff_toNat_lt→BV,toNat_inj→td
namespace Go.Proofs.YtjoceidiioppiaaGreatDoor.sto
open Go.Am Go.Mdl Go.Sto Go.Shelf
def zd:∃d,O.aB 78=U d/\en d=ag:=by
 have h:(O.aB 78).map en=U ag:=by kernel_rfl
 cases hq:O.aB 78 with
 |none=>rw[hq]at h;cases h
 |some d=>rw[hq]at h;exact⟨d,rfl,by simpa using h⟩
def Bi:O.aB 79=U (.map 3 96):=by kernel_rfl
def u6:O.aB 199=U (.map 9 3):=by kernel_rfl
def zj:dj O 3=.ok (iN 0):=by kernel_rfl
variable {b:Nat}
def wQ:bK O 81 (pw b 0) 0=.ok (pw b 0):=by kernel_rfl
def Fy:bK O 81 (pw b 0) 1=.ok (pw b 1):=by kernel_rfl
def uI:bK O 81 (pw b 0) 5=.ok (pw b 5):=by kernel_rfl
def Oa:bK O 201 (pw b 0) 0=.ok (pw b 0):=by kernel_rfl
def Ad:bK O 201 (pw b 0) 1=.ok (pw b 1):=by kernel_rfl
def Fp:bK O 162 (pw b 0) 2=.ok (pw b 2):=by kernel_rfl
def numOf(ns:List (List UInt8))(w:List UInt8):Nat:=((ns.findIdx? λ n=>decide (w=n)).map (·+1)).getD 0
variable {A:Mem}{mn c:Nat}{ns:List (List UInt8)}{w:List UInt8}
def J6(h:A.get mn=U (.map (dL ns 0) c)):
 qf O A.get 199 (.map (U mn)) (ai w) ae=.ok (.tuple ⟨[.int .i64 (numOf ns w:Nat),.bool (decide (numOf ns w≠0))]⟩):=by
 have hk:h_ O 9 (ai w)=ae:=by unfold h_;rw[u9];rfl
 unfold qf numOf;simp only[u6,hk,aJ,wJ,h,R.aW,Kc,zj];cases ns.findIdx? λ n=>decide (w=n)with
 |none=>rfl
 |some i=>simp[xU]
def Ab{t:bM}:fU O A.get .eql 78 t (.const (.pointer V)) (pw b 0) (.pointer V)=.ok (.bool ag):=by kernel_rfl
variable {pf:Nat}{y:I}
def Sr{ml x:I}(h:VB A 201 pf (.var 4) [ml,.map (U mn),x,y])(hm:A.get mn=U (.map (dL ns 0) c)):
 az O 68 [pw pf 0,ai w] A (.tuple ⟨[iN (numOf ns w),.bool (decide (numOf ns w≠0))]⟩) A:=by
 have l1:=h.l1 u6 rfl;have l2:=J6 (w:=w) hm;refine cq 60 (aD Tryz.func68) (by kernel_rfl) λ M=>?_
 simp(disch:=decide+kernel)only[Tryz.f68,Aq,aa,fm,Ab,bA,br,Ad,l1,xa,l2,c7,dc,eY]<;>rfl
variable {mf p:Nat}{ps:List Nat}
def P'{q:Nat}(h:A.get mf=U (.map (mM ps 0) c))(hq:ps[q]?=U p):
 qf O A.get 79 (.map (U mf)) (iN (q+1)) ag=.ok (pw p 0):=by
 have hk:h_ O 3 (iN (q+1))=ae:=by unfold h_;rw[u3]
 unfold qf;simp only[Bi,hk,aJ,wJ,h,R.aW,Jv q ps 0 0 (a8 _),kL,hq];rfl
def UR(A:Mem)(p:Nat)(fs:List (List UInt8×List UInt8)):Prop:=
 ∃pf mf mn cf cn ps ml q st ar x y,VB A 81 p (.var 6) [pw pf 0,.map (U mf),q,st,ar,.bool ag]/\VB A 201 pf (.var 4) [ml,.map (U mn),x,y]/\
  (mn<A.next/\A.get mn=U (.map (dL (fs.map (·.1)) 0) cn))/\(mf<A.next/\A.get mf=U (.map (mM ps 0) cf))/\
  ∀(i:Nat) (s:List UInt8×List UInt8),fs[i]?=U s->∃b d a,ps[i]?=U b/\VB A 162 b (.var 3) [d,a,ai s.2]
def fileOf(fs:List (List UInt8×List UInt8))(w:List UInt8):Option (List UInt8):=(fs.find? λ f=>decide (w=f.1)).map (·.2)
theorem QH(w:List UInt8):∀fs:List (List UInt8×List UInt8),(numOf (fs.map (·.1)) w=0/\fileOf fs w=V)\/∃i s,numOf (fs.map (·.1)) w=i+1/\fs[i]?=U s/\fileOf fs w=U s.2
 | []=>.inl ⟨rfl,rfl⟩
 |f::fs=>by
  unfold numOf fileOf;rw[lK,List.findIdx?_cons,List.find?_cons];by_cases h:w=f.1
  .simp only[h,decide_true,bB];exact .inr ⟨0,f,rfl,rfl,rfl⟩
  .simp only[h,decide_false,dR,bg];rcases QH w fs with⟨h1,h2⟩|⟨i,s,h1,h2,h3⟩
   .unfold numOf at h1;unfold fileOf at h2;refine .inl ⟨?_,h2⟩;cases hq:(fs.map (·.1)).findIdx? λ n=>decide (w=n)with
    |none=>rfl
    |some i=>rw[hq]at h1;simp at h1
   .unfold numOf at h1;unfold fileOf at h3;refine .inr ⟨i+1,s,?_,h2,h3⟩;cases hq:(fs.map (·.1)).findIdx? λ n=>decide (w=n)with
    |none=>rw[hq]at h1;simp at h1
    |some j=>rw[hq]at h1;simp only[gX,sU]at h1⊢;omega
def uG{t:bM}:fU O A.get .eql 24 t (.const (.pointer V)) (pw b 0) (.pointer V)=.ok (.bool ag):=by kernel_rfl
def Fc{t:bM}:fU O A.get .eql 96 t (.const (.pointer V)) (pw b 0) (.pointer V)=.ok (.bool ag):=by kernel_rfl
def Sk{a b c d e:I}{z:Bool}(h:VB A 81 p (.var 6) [a,b,c,d,e,.bool z]):az O 106 [pw p 0] A (.bool z) A:=by
 have l1:=h.l5 u4 rfl;refine cq 60 (aD Tryz.func106) (by kernel_rfl) λ M=>?_
 simp(disch:=first|decide+kernel|omega|simp only[Wq,aa])only[Tryz.f106,Aq,av,reduceIte,aa,ak,fm,uG,bA,br,uI,l1,eY]<;>rfl
def FC(ps:List Nat)(n:Nat):I:=.pointer ((if n=0 then V else ps[n-1]?).map λ b=>⟨b,0,V⟩)
def run_read{cf cn:Nat}{ml q st ar x:I}{fs:List (List UInt8×List UInt8)}(h1:VB A 81 p (.var 6) [pw pf 0,.map (U mf),q,st,ar,.bool ag])(h2:VB A 201 pf (.var 4) [ml,.map (U mn),x,y])
 (h3:A.get mn=U (.map (dL (fs.map (·.1)) 0) cn))(h4:A.get mf=U (.map (mM ps 0) cf))(h5:∀(i:Nat) (s:List UInt8×List UInt8),fs[i]?=U s->∃b,ps[i]?=U b):
 az O 53 [pw p 0,ai w] A (.tuple ⟨[FC ps (numOf (fs.map (·.1)) w),iN (if numOf (fs.map (·.1)) w=0 then 9 else 0)]⟩) A:=by
 have l0:aj O A.get 78 (pw p 0)=.ok (pw pf 0):=by obtain⟨d,hd,ha⟩:=zd;exact h1.ld rfl hd ha
 have l1:=h1.l1 Bi rfl;have l5:=h1.l5 u4 rfl;obtain⟨g,hg⟩:=Sr h2 h3;rcases QH w fs with⟨e1,-⟩|⟨i,s,e1,e2,-⟩
 .rw[e1]at hg⊢;refine bX (g) 60 (aD Tryz.func53) (by kernel_rfl) λ M hM=>?_
  simp(disch:=first|decide+kernel|omega)only[Tryz.f53,Aq,aa,fm,uG,bA,br,wQ,Fy,uI,l0,l1,l5,hg,c7,dc,eY,FC,Hx]<;>rfl
 .rw[e1]at hg⊢;obtain⟨b,hb⟩:=h5 i s e2;have l2:=P' h4 hb;refine bX (g) 60 (aD Tryz.func53) (by kernel_rfl) λ M hM=>?_
  simp(disch:=first|decide+kernel|omega)only[Tryz.f53,Aq,aa,fm,uG,bA,br,wQ,Fy,uI,l0,l1,l5,hg,c7,dc,eY,FC,xa,l2,Nat.add_one_ne_zero,zB,hb,gX]<;>rfl
def qdR{d a:I}{s:List UInt8}(h:VB A 162 b (.var 3) [d,a,ai s]):az O 54 [pw b 0] A (ai s) A:=by
 have l2:=h.l2 u9 rfl;refine cq 60 (aD Tryz.func54) (by kernel_rfl) λ M=>?_
 simp(disch:=decide+kernel)only[Tryz.f54,Aq,aa,fm,Fc,bA,br,Fp,l2,eY]<;>rfl
def tz(n:Nat):bV (2*n)=n/\ed (2*n)=ae:=by
 have h:ed (2*n)=ae:=by unfold ed;rw[qp];show 2*n % 2=0;omega
 refine⟨?_,h⟩;unfold bV;rw[h,aJ];show 2*n/2=n;omega
variable {tb:aN}{n:Nat}{ls:List (List I)}
def qgV{e t:au}{x:I}(h:aq A e n b ls x)(hu:tb.aB t=U (.slice e))(hs:bk tb e=.ok n)(hn:n<65536)(h0:ls=[]->x=.slice V 0 0):
 ∃x',iL tb t x V (U (.int .i64 (Z ls))) (U (.int .i64 (Z ls)))=.ok x'/\aq A e n b ls x'/\(x=.slice V 0 0->x'=.slice V 0 0):=by
 have hb:∀m:Nat,bound (U (.int .i64 m)) 0 m=.ok m:=λ m=>by
  show(bif av m m then R.ok m else _)=_;rw[show av m m=ae by rw[sS];exact aI _];rfl
 rcases h with⟨rfl,rfl⟩|⟨k,c,rfl,h2,h3,h4,h5⟩
 .refine⟨.slice V 0 0,?_,aq.nil _ _ _ _,λ _=>rfl⟩;unfold iL;simp only[hu,hs,R.aW];rfl
 .have hne:Z ls≠0:=λ e=>by
   have:=h0 (eN.1 e);cases this
  have hc:bV c=Z ls/\(ed c||(lY c n&&aO 0 (bV c)))=ae:=by
   rcases h5 with rfl|⟨rfl,-⟩
   .obtain⟨q1,q2⟩:=tz (Z ls);exact⟨q1,by rw[q2];rfl⟩
   .have q:=iW (n:=Z ls) hn;refine⟨q,?_⟩;have e1:lY (cP (Z ls) n) n=ae:=by
     unfold lY;rw[kU,bJ,qp];show(2*(Z ls*65536+n)+1)/2 % 65536=n;omega
    rw[kU,e1,q,show aO 0 (Z ls)=ae by rw[bZ];omega];rfl
  refine⟨.slice (U ⟨b,0,V⟩) (Z ls) (2*Z ls),?_,.inr ⟨k,_,rfl,h2,h3,h4,.inl rfl⟩,λ h=>by cases h⟩;unfold iL;simp only[hu];rw[hc.1];have hb0:bound V 0 (Z ls)=.ok 0:=rfl;have hc2:=hc.2;rw[hc.1]at hc2;simp only[hb,R.aW,hb0,hs,hc.2,hc2,aJ,xZ];rw[show aL (Z ls) 0=ag by cases hq:aL (Z ls) 0 with
   |false=>rfl
   |true=>exact aU (eW hq) hne]
  rfl
theorem Qr(w:List UInt8):∀(ns:List (List UInt8)) (o:Nat),dL (ns++[w]) o=dL ns o++[⟨ai w,.int .i64 (o+Z ns+1:Nat),o+Z ns⟩]
 | [],o=>rfl
 |n::ns,o=>by
  rw[iP,dL,Qr w ns (o+1),dL,iP,cD,show o+1+Z ns=o+(Z ns+1) by omega]
theorem OA(p:Nat):∀(ps:List Nat) (o:Nat),mM (ps++[p]) o=mM ps o++[⟨.int .i64 (o+Z ps+1:Nat),.pointer (U ⟨p,0,V⟩),o+Z ps⟩]
 | [],o=>rfl
 |n::ps,o=>by
  rw[iP,mM,OA p ps (o+1),mM,iP,cD,show o+1+Z ps=o+(Z ps+1) by omega]
def Uq(h:A.get mn=U (.map (dL ns 0) (Z ns)))(hw:w∉ns):
 pA O A 199 (.map (U mn)) (ai w) (iN (Z ns+1))=.ok (A.set mn (.map (dL (ns++[w]) 0) (ns++[w]).length)):=by
 have hk:h_ O 9 (ai w)=ae:=by unfold h_;rw[u9];rfl
 have hf:ns.findIdx? (λ n=>decide (w=n))=V:=by
  rw[By];intro n hn;simpa using λ e:w=n=>hw (e▸hn)
 unfold pA;simp only[u6,hk,aJ,h,Kc,hf,Hx];rw[Qr,ep,aY];rfl
def qid(h:A.get mf=U (.map (mM ps 0) (Z ps))):
 pA O A 79 (.map (U mf)) (iN (Z ps+1)) (pw p 0)=.ok (A.set mf (.map (mM (ps++[p]) 0) (ps++[p]).length)):=by
 have hk:h_ O 3 (iN (Z ps+1))=ae:=by unfold h_;rw[u3]
 have hf:ps[Z ps]?=V:=ky (aI _);unfold pA;simp only[Bi,hk,aJ,h,Jv (Z ps) ps 0 0 (a8 _),kL,hf,Hx];rw[OA,ep,aY];rfl
variable {z:Nat}{l:List I}
def VB.ne{e e':au}{z':Nat}{k k':Kd}{l':List I}(h:VB A e z k l)(h':VB A e' z' k' l')(he:e≠e'):z≠z':=by
 rintro rfl;obtain⟨_,q,-⟩:=h.2;obtain⟨_,q2,-⟩:=h'.2;rw[q]at q2;injection q2 with q2;injection q2 with q2;exact he q2
variable {m:Nat}{es:List MapEntry}
def VB.dP{e:au}{k:Kd}(h:VB A e z k l)(hm:A.get m=U (.map es c)):z≠m:=by
 rintro rfl;obtain⟨_,q,-⟩:=h.2;rw[q]at hm;cases hm
def aq.iA{e e':au}{k:Kd}{x:I}(h:aq A e n b ls x)(h':VB A e' z k l)(he:e'≠e)(h0:ls≠ []):z≠b:=by
 rcases h with⟨-,hh⟩|⟨k',_,-,h1,h2,-⟩
 .exact aU hh h0
 .exact VB.ne h' (⟨h1,h2⟩:VB A e b k' _) he
def aq.dP{e:au}{x:I}(h:aq A e n b ls x)(hm:A.get m=U (.map es c))(h0:ls≠ []):m≠b:=by
 rcases h with⟨-,hh⟩|⟨k',_,-,h1,h2,-⟩
 .exact aU hh h0
 .exact(VB.dP (⟨h1,h2⟩:VB A e b k' _) hm).symm
def iE(w:List UInt8)(t s:Nat):List I:=[ai w,.func (.func 134) ⟨[]⟩ ⟨[pV t,pV s]⟩]
def kc:List UInt8:=[99,114,101,97,116,101]
def Fold(A:Mem)(p ml mn b:Nat)(ns:List (List UInt8)):Prop:=∃x rows,VB A 201 p (.var 4) [.map (U ml),.map (U mn),x,iN (Z ns)]/\(ml<A.next/\A.get ml=U (.map [] 0))/\(mn<A.next/\A.get mn=U (.map (dL ns 0) (Z ns)))/\ml≠mn/\
 aq A 204 2 b rows x/\(ns=[]->x=.slice V 0 0)/\Z rows=Z ns/\∀(i:Nat) (w:List UInt8),ns[i]?=U w->∃t s,rows[i]?=U (iE kc t s)/\VB A 3 t (.var 1) [iN (i+1)]/\VB A 9 s (.var 1) [ai w]
def Fo:bK O 201 (pw b 0) 2=.ok (pw b 2):=by kernel_rfl
def YU:bK O 201 (pw b 0) 3=.ok (pw b 3):=by kernel_rfl
variable {o:Nat}
def Of:bK O 204 (pw b o) 1=.ok (pw b (o+1)):=by kernel_rfl
def UK:dj O 204=.ok (.agg ⟨[.string .empty,.nilFunc]⟩):=by kernel_rfl
def zh:bk O 204=.ok 2:=by kernel_rfl
def qiJ:fu O 204=.ok (2,[.string .empty,.nilFunc]):=by kernel_rfl
def re:O.aB 198=U (.slice 204):=by kernel_rfl
def Tc:bk O 198=.ok 1:=by kernel_rfl
def sa:bk O 3=.ok 1:=by kernel_rfl
def qhS:∃i,O.ty.get 204=U i/\0<i.bytes/\i.bytes<=65536:=by
 have h:(O.ty.get 204).map (λ i=>aO 0 i.bytes&&av i.bytes 65536)=U ae:=by kernel_rfl
 cases hq:O.ty.get 204 with
 |none=>rw[hq]at h;cases h
 |some i=>
  rw[hq]at h;simp only[gX,fg,dW,bZ]at h;exact⟨i,rfl,h.1,gK h.2⟩
def Vx{t s:Nat}:eu O 204 [(0,ai w),(1,.func (.func 134) ⟨[]⟩ ⟨[pw t 0,pw s 0]⟩)]=.ok (.agg ⟨iE w t s⟩):=by kernel_rfl
def V0{t s:Nat}:eO O 198 1 [(0,.agg ⟨iE w t s⟩)]=.ok (af 204 (iE w t s),.dZ 1 2):=by kernel_rfl
def Ua:∃d,O.aB 202=U d/\en d=ag:=cF (by kernel_rfl)
def qeF{t s k:Nat}(h:A.get mn=U (.map (dL ns 0) (Z ns)))(hw:w∉ns)(ht:VB A 3 t (.var 1) [iN (Z ns+1)])(hs:VB A 9 s (.var 1) [ai w]):
 az O 134 [.map (U mn),pV t,pV s] A (.tuple ⟨[]⟩) (A.set mn (.map (dL (ns++[w]) 0) (ns++[w]).length)):=by
 have l1:=hs.l0 u9 rfl;have l2:=ht.l0 u3 rfl;have l3:=Uq h hw;simp only[pV];refine cq 60 (aD Tryz.func134) (by kernel_rfl) λ M=>?_
 simp(disch:=omega)only[Tryz.f134,Aq,aa,l1,l2,C9,l3,cQ]<;>rfl
def tH{o:Ob}:(A.set b o).get z=if z=b then U o else A.get z:=cN _ _ _ _
def qgB:bk O 199=.ok 1:=by kernel_rfl
variable {i:Nat}
def qie(hi:ns[i]?=U w)(hnd:ns.Nodup)(h:A.get mn=U (.map (dL (ns.take i) 0) i)):
 pA O A 199 (.map (U mn)) (ai w) (iN (i+1))=.ok (A.set mn (.map (dL (ns.take (i+1)) 0) (i+1))):=by
 obtain⟨hl,rfl⟩:=bU.1 hi;have htl:(ns.take i).length=i:=by rw[df];omega
 have hnot:ns[i]∉ns.take i:=λ hm=>by
  obtain⟨j,hj,e⟩:=oU hm;rw[BB]at e;exact tY.1 hnd j i (by omega) hl (by omega) e
 have:=Uq (by rw[htl];exact h) hnot;rw[htl]at this;rw[this,d_ hl,aY,htl];rfl
def XT{ih:aH->St->R (Ex×St)}(h:A.get m=U (.map es c)):cE O ih (.fn 180 [.iface 199 (.map (U m))]) A=.ok (.val (.iface 199 (.map (U A.next))) (A.alloc (.map es c))):=by
 have e:cE O ih (.fn 180 [.iface 199 (.map (U m))]) A=((match A.get m with
  |some (.map es clock)=>R.ok (Value.iface 199 (.map (U A.next)),A.alloc (.map es clock))
  |_=>.no 237).bind λ(v,A')=>.ok (.val v A')):=by kernel_rfl
 rw[e,h];rfl
variable {v:I}
def Z9:Pw O 199 v=.ok (.iface 199 v):=by kernel_rfl
def Vi:Ce O (.iface 199 (.map (U m))) 199 ag=.ok (.map (U m)):=by kernel_rfl
def Yw{g:Nat->Option Ob}{x:bM}:fU O g .eql 199 x (.const (.map V)) (.map (U m)) (.map V)=.ok (.bool ag):=by kernel_rfl
def qdU(h:A.get m=U (.map es c)):az O 125 [.map (U m)] A (.map (U A.next)) (A.alloc (.map es c)):=by
 have k1:=λ ih=>XT (ih:=ih) h
 refine cq 60 (aD Tryz.func125) (by kernel_rfl) λ M=>?_
 simp(disch:=decide+kernel)only[Tryz.f125,Aq,aa,fm,Yw,N4,qcf,Z9,k1,qcc,Vi]<;>rfl
def uB:=cu yj
def IS:aH:=sub uB [1,0,1,0,0]
def XF:yj.body=U (.seq (sub uB [0]) (.seq (.seq (sub uB [1,0,0]) (.block 0 (.loop IS))) (sub uB [1,1]))):=by kernel_rfl
end Go.Proofs.YtjoceidiioppiaaGreatDoor.sto
namespace Go.Am
open Go.Am Go.Mdl Go.Sto Go.Shelf
section
variable {tb:aN}{e st:au}{n:Nat}
def gZ(A:Mem)(e:au)(n b:Nat)(P:List (List I))(x:I):Prop:=∃(Q:List (List I)) (c:Nat) (k:Kd),x=.slice (U ⟨b,0,V⟩) (Z P) c/\b<A.next/\dp A e b k Q.flatten/\(∀l∈Q,Z l=n)/\bV c=Z Q/\Z P<=Z Q/\Q.take (Z P)=P/\(ed c=ae\/(ed c=ag/\hY c=n/\k=.row))
variable {A A':Mem}{b:Nat}{P:List (List I)}
def gZ.same{x:I}(h:gZ A e n b P x)(hn:A.next<=A'.next)(hg:A'.get b=A.get b):gZ A' e n b P x:=by
 obtain⟨Q,c,k,h1,h2,h3,h4⟩:=h;exact⟨Q,c,k,h1,c9 h2 hn,h3.same hg,h4⟩
def gZ.len{x:I}(h:gZ A e n b P x)(hu:tb.aB st=U (.slice e)):c_ tb .len [st] [x]=.ok (iN (Z P)):=by
 obtain⟨Q,c,k,rfl,-⟩:=h;exact mQ hu
variable {i:Nat}
def gZ.idx{x:I}(h:gZ A e n b P x)(hu:tb.aB st=U (.slice e))(hs:bk tb e=.ok n)(hi:i<Z P):eE tb st x (.int .i64 i)=.ok (pw b (i*n)):=by
 obtain⟨Q,c,k,rfl,-⟩:=h;have hb:aO i (Z P)=ae:=by rw[bZ];exact hi
 have hn:jx (.int .i64 i)=.ok i:=rfl;unfold eE;simp only[hn,hu,hb,aJ,hs,R.aW,g_,ep]
variable {l:List I}
def gZ.row{x:I}(h:gZ A e n b P x)(hi:P[i]?=U l):Z l=n/\∃k Q,dp A e b k Q/\∀j,j<n->Q[i*n+j]?=l[j]?:=by
 obtain⟨Q,c,k,rfl,h2,h3,hq,h4,h5,h6,h7⟩:=h;have hil:=(bU.1 hi).1;have hr:Q[i]?=U l:=by rw[<-hi,<-h6,pM,aA hil]
 exact⟨hq l (gJ hr),k,_,h3,λ j hj=>nU hq hr hj⟩
variable {j:Nat}{v:I}
def gZ.load{x:I}{t:au}{d:TypeDesc}(h:gZ A e n b P x)(hi:P[i]?=U l)(hu:tb.aB t=U d)(ha:en d=ag)(hj:l[j]?=U v):aj tb A.get t (pw b (i*n+j))=.ok v:=by
 obtain⟨hl,k,Q,h1,h2⟩:=h.row hi;exact dg hu ha h1 (by rw[h2 j (by rw[<-hl];exact(bU.1 hj).1)];exact hj)
def gZ.cg{x:I}{t:au}{d:TypeDesc}(h:gZ A e n b P x)(hu:tb.aB t=U d)(ha:en d=ae)(hs:bk tb t=.ok n)(hi:P[i]?=U l):aj tb A.get t (pw b (i*n))=.ok (.agg ⟨l⟩):=by
 obtain⟨Q,c,k,rfl,h2,⟨cs,h5,h6⟩,hq,h4,h8,h9,h7⟩:=h;have hil:=(bU.1 hi).1;have hr:Q[i]?=U l:=by rw[<-hi,<-h9,pM,aA hil]
 have hl:=hq l (gJ hr);have hg:=px _ _ _ _ hl λ j hj=>by rw[h6 (i*n+j) (CQ hq (by omega) hj),nU hq hr hj]
 unfold aj;simp only[h5,hu,ha,aJ,hs,R.aW,hg]
def gZ.field{x:I}{t:au}(h:gZ A e n b P x)(hs:bk tb t=.ok 1)(hi:P[i]?=U l)(hj:j<n)(hv:v.cells.toList=[v])(h1c:bS v=ae):
 ∃A',cm tb A t (pw b (i*n+j)) v=.ok A'/\gZ A' e n b (P.set i (l.set j v)) x/\A'.next=A.next/\∀z,z≠b->A'.get z=A.get z:=by
 obtain⟨Q,c,k,rfl,h2,h3,hq,h4,h5,h6,h7⟩:=h;have hil:=(bU.1 hi).1;have hr:Q[i]?=U l:=by rw[<-hi,<-h6,pM,aA hil]
 have hl:=hq l (gJ hr);have hlen:=CQ hq (i:=i) (by omega) hj;have hq':∀x∈Q.set i (l.set j v),Z x=n:=λ x hx=>by
  rcases zx hx with hx|rfl
  .exact hq x hx
  .rw[dS];exact hl
 obtain⟨A',g1,g2,g3,g4⟩:=h3.put (o:=i*n+j) (λ w hw=>by rw[dX.1 hw];exact h1c) (by rw[fb];omega) (by simp);refine⟨A',?_,⟨Q.set i (l.set j v),c,k,by rw[dS],by omega,g4 _ (by rw[ju hq',ju hq,dS]) λ m hm=>?_,hq',by rw[dS];exact h4,by rw[dS,dS];exact h5,by rw[dS,List.take_set,h6],h7⟩,g2,g3⟩
 .unfold cm;simp only[hs,R.aW,hv,fb,vz,aJ];exact g1
 .rw[Ai hq (by rw[dS];exact hl) (by omega) m hm,fb];by_cases hin:i*n<=m/\m<i*n+n
  .rw[aA hin,pL];by_cases hmj:j=m-i*n
   .rw[aA hmj,aA (by omega),aA ⟨by omega,by omega⟩];have:m-(i*n+j)=0:=by omega
    rw[this];rfl
   .rw[ax hmj,ax (by omega)];have:=nU hq hr (j:=m-i*n) (by omega);rw[show i*n+(m-i*n)=m by omega]at this;exact this.symm
  .rw[ax hin,ax (by omega)]
def gZ.push{b2:Nat}{p z:List I}{x:I}{ti:TypeInfo}(h:gZ A e n b P x)(hu:tb.aB st=U (.slice e))(hz:fu tb e=.ok (n,z))(t1:tb.ty.get e=U ti)(t2:0<ti.bytes)(t3:ti.bytes<=65536)(hn0:0<n)(hn1:n<65536)(hb2:A.get b2=U (af e p))(hp:Z p=n)(h1c:∀v∈p,bS v=ae)(hl:Z P<1000000)(hP:n*Z P<9000000000000000000):
 ∃x' A' b',dJ tb A st st x (.slice (U ⟨b2,0,V⟩) 1 2)=.ok (x',A')/\gZ A' e n b' (P++[p]) x'/\(b'=b\/b'=A.next)/\A.next<=A'.next/\∀y,y≠b->y<A.next->A'.get y=A.get y:=by
 obtain⟨Q,c,k,rfl,h2,h3,hq,h4,h5,h6,h7⟩:=h;have hnew:jJ A.get n 1 (.slice (U ⟨b2,0,V⟩) 1 2)=.ok p:=wH (oQ hb2) (by rw[uc];exact hp);have hlen:=ju hq;by_cases hroom:Z P+1<=Z Q
 .have hmul:=BK n hroom;rw[qo,uc]at hmul;obtain⟨A',e1,e2,e3,e4⟩:=h3.put (o:=Z P*n) h1c (by omega) (λ hh=>by rw[hh]at hp;simp at hp;omega);have hble:av (Z P+1) (bV c)=ae:=my (by omega);have hq':∀x∈Q.set (Z P) p,Z x=n:=λ x hx=>by
   rcases zx hx with hx|rfl
   .exact hq x hx
   .exact hp
  refine⟨.slice (U ⟨b,0,V⟩) (Z P+1) c,A',b,?_,⟨Q.set (Z P) p,c,k,by rw[aY];rfl,by omega,?_,hq',by rw[dS];exact h4,by rw[dS,aY];exact hroom,?_,h7⟩,.inl rfl,by omega,λ y hy _=>e3 y hy⟩
  .unfold dJ ig;simp only[hu,kh,bJ,hz,R.aW,gj,hnew,hble,aJ,g_,ep,e1]
  .refine e4 _ ?_ λ j hj=>?_
   .rw[hlen,ju hq',dS]
   .rw[Ai hq hp (by omega) j hj,hp]
  .rw[aY,fb,d_ (by rw[dS];omega),List.take_set_of_le (aI _),h6,List.getElem_set_self]
 .have hRP:Q=P:=by rw[<-h6,BF (by omega)]
  have hble:av (Z P+1) (bV c)=ag:=by
   cases hq:av (Z P+1) (bV c)with
   |false=>rfl
   |true=>have:=gK hq;omega
  have hlim:(av (Z P+1) 16777216&&av ti.bytes 65536&&aO 0 ti.bytes&&aO 0 n&&aO n 65536)=ae:=by
   have a1:av (Z P+1) 16777216=ae:=my (by omega);have a2:=my t3;have a3:aO 0 ti.bytes=ae:=by rw[bZ];exact t2
   have a4:aO 0 n=ae:=by rw[bZ];exact hn0
   have a5:aO n 65536=ae:=by rw[bZ];exact hn1
   rw[a1,a2,a3,a4,a5];rfl
  have hel:=wH h3 (by rw[hlen,hRP]);have fin:∀A0:Mem,A0.next=A.next->gZ (A0.alloc (.cells e .row 0 (T.bW .e 0 (Q.flatten++p)))) e n A.next (P++[p]) (.slice (U ⟨A.next,0,V⟩) (Z P+1) (cP (Z P+1) n)):=λ A0 hn=>
   ⟨P++[p],cP (Z P+1) n,.row,by rw[aY];rfl,by rw[aG];omega,by rw[D5,<-hRP];simp only[vq,Hj,jT];exact oQ (by rw[<-hn];exact de _ _),λ l hl=>by
    rcases mw.1 hl with hl|hl
    .exact hq l (hRP▸hl)
    .rw[dX.1 hl];exact hp,by rw[iW hn1,aY];rfl,aI _,dU,.inr ⟨kU _ _,mH hn1,rfl⟩⟩
  rcases h7 with hx|⟨hx,he,rfl⟩
  .refine⟨_,A.alloc (.cells e .row 0 (T.bW .e 0 (Q.flatten++p))),A.next,?_,fin A rfl,.inr rfl,by rw[aG];omega,λ y _ hlt=>cY (by omega)⟩;unfold dJ ig;simp only[hu,kh,bJ,hz,R.aW,gj,hnew,hble,t1,hlim,aJ,hel,hx]
  .obtain⟨cs,q1,q2⟩:=h3;have hone:=oT.2 h1c;have hbe:aL (hY c) n=ae:=by rw[he];exact vz n
   have hfz:(av 0 (0+Z P*n)&&(aL e e&&aO 0 9223372036854775808))=ae:=by
    have h0:aO 0 9223372036854775808=ae:=by rw[bZ];omega
    rw[h0,vz];simp
   refine⟨_,(A.set b .dead).alloc (.cells e .row 0 (T.bW .e 0 (Q.flatten++p))),A.next,?_,fin (A.set b .dead) (cU _ _ _),.inr rfl,by rw[aG,cU];omega,λ y hy hlt=>by rw[cY (by rw[cU];omega),cN,ax hy]⟩;unfold dJ ig;simp only[hu,kh,bJ,hz,R.aW,gj,hnew,hble,t1,hlim,aJ,hel,hx,hbe,hone,sK,q1,hfz]
def gZ.pop{p:List I}{x:I}(h:gZ A e n b (P++[p]) x)(hu:tb.aB st=U (.slice e))(hs:bk tb e=.ok n):∃x',iL tb st x V (U (.int .i64 (Z P:Nat))) V=.ok x'/\gZ A e n b P x':=by
 obtain⟨Q,c,k,rfl,h2,h3,hq,h4,h5,h6,h7⟩:=h;rw[aY,fb]at*;have e1:bound (U (.int .i64 (Z P:Nat))) (Z P+1) (bV c)=.ok (Z P):=zT (by omega);have hx:(ed c&&aL (bV c) 0)=ag:=by
  have:aL (bV c) 0=ag:=by
   cases hq:aL (bV c) 0 with
   |false=>rfl
   |true=>have:=eW hq;omega
  rw[this,Bool.and_false]
 have hf:lY c n=ae:=by
  unfold lY;rcases h7 with h|⟨h,he,-⟩
  .rw[h];rfl
  .rw[h,he,bJ];exact vz n
 refine⟨.slice (U ⟨b,0,V⟩) (Z P) (p_ c 0),?_,Q,p_ c 0,k,rfl,h2,h3,hq,by rw[wE,h4,kL],by omega,?_,?_⟩
 .unfold iL;simp only[hu,e1,R.aW,zS,hs,hx,bJ,hf,aJ,g_,xZ,eo,kL]
 .have:=cX (List.take (Z P)) h6;rwa[List.take_take,nf (by omega),List.take_left]at this
 .rw[z6];rcases h7 with h|⟨h,he,hk⟩
  .exact .inl h
  .exact .inr ⟨h,by rw[EW h];exact he,hk⟩
def qho{p:List I}{k:Kd}(hb:b<A.next)(h:dp A e b k p)(hp:Z p=n):gZ A e n b [p] (.slice (U ⟨b,0,V⟩) 1 2):=
 ⟨[p],2,k,rfl,hb,by simpa using h,λ l hl=>by rw[dX.1 hl];exact hp,rfl,aI _,rfl,.inl rfl⟩
end
end Go.Am
namespace Go.Proofs.YtjoceidiioppiaaGreatDoor.sto
open Go.Am Go.Mdl Go.Sto Go.Shelf
def mm(A:Mem)(p ml mn b k la:Nat)(ns:List (List UInt8)):Prop:=∃x rows,VB A 201 p (.var 4) [.map (U ml),.map (U mn),x,.int .i64 la]/\(ml<A.next/\A.get ml=U (.map (dL (ns.take k) 0) k))/\(mn<A.next/\A.get mn=U (.map (dL ns 0) (Z ns)))/\ml≠mn/\
 aq A 204 2 b rows x/\(rows=[]->x=.slice V 0 0)/\k+Z rows=Z ns/\∀(i:Nat) (w:List UInt8),ns[k+i]?=U w->∃t s,rows[i]?=U (iE kc t s)/\VB A 3 t (.var 1) [iN (k+i+1)]/\VB A 9 s (.var 1) [ai w]
variable {A B:Mem}{p ml mn b k la:Nat}{ns:List (List UInt8)}
def mm.kp(h:mm A p ml mn b k la ns)(q:Kp A B):mm B p ml mn b k la ns:=by
 obtain⟨x,rows,h1,⟨h2,h3⟩,⟨h4,h5⟩,h6,h7,h8,h9,h10⟩:=h;refine⟨x,rows,h1.kp q,⟨c9 h2 q.1,by rw[q.2 _ h2];exact h3⟩,⟨c9 h4 q.1,by rw[q.2 _ h4];exact h5⟩,h6,h7.same q.1 (q.2 b),h8,h9,λ i w hw=>?_⟩;obtain⟨t,s,e1,e2,e3⟩:=h10 i w hw;exact⟨t,s,e1,e2.kp q,e3.kp q⟩
variable {w:List UInt8}
def qd0(h:mm A p ml mn b k (Z ns) ns)(hw:w∉ns)(hl:0<Z w/\Z w<=64)(hn:Z ns<1000):
 ∃v A' b',az O 76 [pV p,ai w] A v A'/\v=.tuple ⟨[.int .i64 (Z ns+1:Nat),.int .i64 (0:Nat)]⟩/\mm A' p ml mn b' k (ns++[w]).length (ns++[w])/\A.next<=b'/\A.next<=A'.next/\∀z,z<A.next->z≠p->z≠mn->(k<Z ns->z≠b)->A'.get z=A.get z:=by
 obtain⟨x,rows,hV,⟨hml,hml'⟩,⟨hmn,hmn'⟩,hmm,hS,hx0,hrl,hR⟩:=h;have hpA:=hV.1;have hpm:p≠ml/\p≠mn:=⟨hV.dP hml',hV.dP hmn'⟩;have hrn:k<Z ns->rows≠ []:=λ h0 h=>by rw[h,eB]at hrl;omega
 have hrn':∀{z:Nat},(k<Z ns->z≠b)->rows≠ []->z≠b:=λ h h0=>h (by have:=je.2 h0;omega)
 have kB:=Kp.alloc A (af 9 [ai w]);have vB:=aQ A 9 [ai w];have nB:=aG A (af 9 [ai w]);generalize hB:A.alloc (af 9 [ai w])=B at kB vB nB;have VB':=hV.kp kB;have lwB:aj O B.get 9 (.pointer (U ⟨A.next,0,V⟩))=.ok (ai w):=vB.ld rfl u9 rfl;have km:=λ ih=>PN (ih:=ih) (A:=B) (w:=w)
 rw[decide_eq_true hl]at km;have lm:aj O B.get 199 (.pointer (U ⟨p,1,V⟩))=.ok (.map (U mn)):=VB'.ld rfl u6 rfl;have lk:=J6 (A:=B) (w:=w) (ns:=ns) (c:=Z ns) (by rw[kB.2 _ hmn];exact hmn');have hno:numOf ns w=0:=by
  unfold numOf;rw[By.2 (λ n hn=>by simpa using λ e:w=n=>hw (e▸hn))];rfl
 rw[hno]at lk;have lc:aj O B.get 3 (.pointer (U ⟨p,3,V⟩))=.ok (.int .i64 (Z ns)):=VB'.ld rfl u3 rfl;have a1:a_ .add .i64 ((Z ns:Nat):Int) ((1:Nat):Int)=.ok (.int .i64 (Z ns+1:Nat)):=e_ (ct (by omega));obtain⟨C,sC,vC,nC,fC⟩:=db (tb:=O) (t:=3) (o:=3) (v:=.int .i64 (Z ns+1:Nat)) sa VB'.2 (by simp) rfl rfl;have lcC:aj O C.get 3 (.pointer (U ⟨p,3,V⟩))=.ok (.int .i64 (Z ns+1:Nat)):=dg u3 rfl vC rfl;have sD:cm O (C.alloc (af 3 [.int .i64 (0:Nat)])) 3 (.pointer (U ⟨C.next,0,V⟩)) (.int .i64 (Z ns+1:Nat))=.ok (C.alloc (af 3 [.int .i64 (Z ns+1:Nat)])):=se sa rfl rfl (by simp);have kD:=Kp.alloc C (af 3 [.int .i64 (Z ns+1:Nat)]);have vD:=aQ C 3 [.int .i64 (Z ns+1:Nat)];have nD:(C.alloc (af 3 [.int .i64 (Z ns+1:Nat)])).next=C.next+1:=aG _ _
 generalize hD:C.alloc (af 3 [.int .i64 (Z ns+1:Nat)])=D at kD vD nD;have ltD:aj O D.get 3 (.pointer (U ⟨C.next,0,V⟩))=.ok (.int .i64 (Z ns+1:Nat)):=vD.ld rfl u3 rfl;have fBD:∀z,z<B.next->z≠p->D.get z=B.get z:=λ z hz hp=>by rw[kD.2 z (by omega),fC z hp]
 have fAD:∀z,z<A.next->z≠p->D.get z=A.get z:=λ z hz hp=>by rw[fBD z (by omega) hp,kB.2 z hz]
 have VD:VB D 201 p (.var 4) [.map (U ml),.map (U mn),x,.int .i64 (Z ns+1:Nat)]:=⟨by omega,(show dp C 201 p (.var 4) [.map (U ml),.map (U mn),x,.int .i64 (Z ns+1:Nat)]from vC).same (kD.2 _ (by omega))⟩;have vsD:VB D 9 A.next (.var 1) [ai w]:=⟨by omega,vB.2.same (fBD _ (by omega) (by omega))⟩
 have hr0:=hx0;have hSD:aq D 204 2 b rows x:=aq.JW hS hV (by decide) ⟨by omega,λ z hz hp=>fAD z hz hp⟩;have sE:cm O (D.alloc (af 204 [.string .empty,.nilFunc])) 204 (.pointer (U ⟨D.next,0,V⟩)) (.agg ⟨iE kc C.next A.next⟩)=.ok (D.alloc (af 204 (iE kc C.next A.next))):=fP zh rfl rfl (by simp) (by simp[iE,bS,ai]);have kE:=Kp.alloc D (af 204 (iE kc C.next A.next));have vE:=aQ D 204 (iE kc C.next A.next);have nE:(D.alloc (af 204 (iE kc C.next A.next))).next=D.next+1:=aG _ _
 generalize hE:D.alloc (af 204 (iE kc C.next A.next))=E at sE kE vE nE;have VE:=VD.kp kE;have lxE:aj O E.get 198 (.pointer (U ⟨p,2,V⟩))=.ok x:=VE.ld rfl re rfl;have hSE:=hSD.same kE.1 (kE.2 b);have lenE:=aq.len (tb:=O) hSE re;obtain⟨x1,hsl,hS1,hx1⟩:=qgV (tb:=O) (t:=198) hSE re zh (by omega) hr0;have lwE:aj O E.get 204 (.pointer (U ⟨D.next,0,V⟩))=.ok (.agg ⟨iE kc C.next A.next⟩):=by
  obtain⟨d,hd1,hd2⟩:=cF (t:=204) (p:=ae) (by kernel_rfl);exact cg hd1 hd2 zh vE.2
 obtain⟨ti,t1,t2,t3⟩:=qhS;have hS1':aq (E.alloc (af 204 (iE kc C.next A.next))) 204 2 b rows x1:=hS1.same (by rw[aG];omega) λ h=>cY (by omega)
 obtain⟨x2,F,happ,hs3,hn3,hf3⟩:=aq.append (tb:=O) (st:=198) (xt:=198) hS1' re re qiJ t1 t2 t3 (by omega) (by omega) (by omega) (de E _) rfl (by simp[iE,bS,ai]);rw[aG]at hs3 hn3 hf3;have keepF:∀z,z<E.next->(k<Z ns->z≠b)->F.get z=E.get z:=λ z hz hb=>by
  rw[hf3 z (λ e=>by
   by_cases h0:rows=[]
   .exact hx1 (hx0 h0)
   .exact aU e (hrn' hb h0)) (by omega),cY (by omega)]
 have hpb:k<Z ns->p≠b:=λ h0=>aq.iA hS hV (by decide) (hrn h0)
 obtain⟨G,sG,vG,nG,fG⟩:=db (tb:=O) (t:=198) (o:=2) (v:=x2) Tc (VE.2.same (keepF p (by omega) hpb)) (by simp) (aq.dQ hs3).1 (aq.dQ hs3).2;have keepG:∀z,z<E.next->z≠p->(k<Z ns->z≠b)->G.get z=E.get z:=λ z hz hp hb=>by rw[fG z hp,keepF z hz hb]
 have hbt:∀z (e:au) (kd:Kd) (l:List I),VB D e z kd l->e≠204->(k<Z ns->z≠b):=λ z e kd l hz he h0=>aq.iA hSD hz he (hrn h0)
 have vtG:VB G 3 C.next (.var 1) [.int .i64 (Z ns+1:Nat)]:=⟨by omega,vD.2.same (by rw[keepG _ (by omega) (by omega) (hbt _ _ _ _ vD (by decide)),kE.2 _ (by omega)])⟩
 have vsG:VB G 9 A.next (.var 1) [ai w]:=⟨by omega,vsD.2.same (by rw[keepG _ (by omega) (by omega) (hbt _ _ _ _ vsD (by decide)),kE.2 _ (by omega)])⟩
 have hbm:∀(m:Nat) (es:List MapEntry) (c:Nat),D.get m=U (.map es c)->(k<Z ns->m≠b):=λ m es c hm h0=>aq.dP hSD hm (hrn h0)
 have hmnD:D.get mn=U (.map (dL ns 0) (Z ns)):=by rw[fAD mn hmn (Ne.symm hpm.2)];exact hmn'
 have hmlD:D.get ml=U (.map (dL (ns.take k) 0) k):=by rw[fAD ml hml (Ne.symm hpm.1)];exact hml'
 have hmnG:G.get mn=U (.map (dL ns 0) (Z ns)):=by rw[keepG mn (by omega) (Ne.symm hpm.2) (hbm _ _ _ hmnD),kE.2 _ (by omega)];exact hmnD
 have hmlG:G.get ml=U (.map (dL (ns.take k) 0) k):=by rw[keepG ml (by omega) (Ne.symm hpm.1) (hbm _ _ _ hmlD),kE.2 _ (by omega)];exact hmlD
 have lfG:aj O G.get 202 (.pointer (U ⟨D.next,0+1,V⟩))=.ok (.func (.func 134) ⟨[]⟩ ⟨[pV C.next,pV A.next]⟩):=by
  obtain⟨d,hd,ha⟩:=Ua;exact dg hd ha (vE.2.same (keepG D.next (by omega) (by omega) (λ h0 e=>by
   have:=xy hSD (hrn h0);omega))) rfl
 have VG:VB G 201 p (.var 4) [.map (U ml),.map (U mn),x2,.int .i64 (Z ns+1:Nat)]:=⟨by omega,vG⟩;have lmG:aj O G.get 199 (.pointer (U ⟨p,1,V⟩))=.ok (.map (U mn)):=VG.ld rfl u6 rfl;obtain⟨g1,h1⟩:=qeF (k:=0) hmnG hw vtG vsG;generalize hH:G.set mn (.map (dL (ns++[w]) 0) (ns++[w]).length)=H at h1;have nH:H.next=G.next:=by rw[<-hH];exact cU _ _ _
 have fH:∀z,z≠mn->H.get z=G.get z:=λ z hz=>by rw[<-hH,tH,ax hz]
 have hdo:az O 133 [pV p,ai kc,.func (.func 134) ⟨[]⟩ ⟨[pV C.next,pV A.next]⟩] D (.int .i64 (0:Nat)) H:=by
  simp only[pV]at*;refine bX (g1) 60 (aD Tryz.func133) (by kernel_rfl) λ M hM=>?_
  simp(config:={maxSteps:=4000000})(disch:=first|decide+kernel|omega|simp only[Wq,aa])only[Tryz.f133,Aq,av,reduceIte,aa,ak,Vx,UK,a7,hE,sE,bA,br,Ad,Fo,lxE,lenE,hsl,lwE,V0,happ,sG,Of,lfG,lmG,h1,Fq,bQ []]<;>rfl
 obtain⟨g2,h2⟩:=hdo;have ltH:aj O H.get 3 (.pointer (U ⟨C.next,0,V⟩))=.ok (.int .i64 (Z ns+1:Nat)):=VB.ld (tb:=O) ⟨by have:=vD.1;omega,vD.2.same (by rw[fH C.next (vD.dP hmnD),keepG C.next (by have:=vD.1;omega) (vD.ne VD (by decide)) (hbt _ _ _ _ vD (by decide)),kE.2 _ vD.1])⟩ rfl u3 rfl;have sn:=pE .i64 (Z ns+1) rfl;refine⟨_,H,E.next+1,?_,rfl,⟨x2,rows++[iE kc C.next A.next],⟨by omega,?_⟩,⟨by omega,?_⟩,⟨by omega,?_⟩,hmm,?_,λ h=>by simp at h,by rw[aY,aY,<-hrl];rfl,λ i u hu=>?_⟩,by omega,by omega,λ z hz hp hm hb=>?_⟩
 .simp only[pV]at*;have hcr:∀t:T I,ev t (.const (.string ⟨#[99,114,101,97,116,101]⟩))=.ok (ai kc):=λ t=>rfl
  refine bX (g2) 60 (aD Tryz.func76) (by kernel_rfl) λ M hM=>?_
  simp(config:={maxSteps:=4000000})(disch:=first|decide+kernel|omega|simp only[Wq,aa])only[Tryz.f76,Aq,av,reduceIte,aa,ak,hB,fm,Ab,eY,bA,br,lwB,km,Ad,YU,lm,xa,lk,c7,dc,lc,a1,sC,lcC,zj,hD,sD,ltD,ltH,sn,KC,ki,hcr,h2,Fq,bQ [],bQ [(0,3)]]<;>rfl
 .rw[aY];exact vG.same (fH p hpm.2)
 .rw[fH ml hmm,List.take_append_of_le_length (by omega)];exact hmlG
 .rw[<-hH,tH,aA rfl]
 .have e1:aq G 204 2 (E.next+1) (rows++[iE kc C.next A.next]) x2:=hs3.same (by omega) λ _=>fG _ (by omega)
  exact e1.same (by omega) λ _=>fH _ (by omega)
 .rcases ec (k+i) (Z ns)with hi|hi
  .rw[fe hi]at hu;obtain⟨t,s,e1,e2,e3⟩:=hR i u hu;have q1:VB D 3 t (.var 1) [.int .i64 (k+i+1:Nat)]:=⟨by have:=e2.1;omega,e2.2.same (fAD t e2.1 (e2.ne hV (by decide)))⟩;have q2:VB D 9 s (.var 1) [ai u]:=⟨by have:=e3.1;omega,e3.2.same (fAD s e3.1 (e3.ne hV (by decide)))⟩;have ht1:∀(e:au) (z:Nat) (kd:Kd) (l:List I),VB D e z kd l->e≠204->e≠201->VB H e z kd l:=λ e z kd l hz he he2=>⟨by have:=hz.1;omega,hz.2.same (by
    rw[fH z (hz.dP hmnD),keepG z (by have:=hz.1;omega) (hz.ne VD he2) (hbt z e kd l hz he),kE.2 _ hz.1])⟩
   exact⟨t,s,by rw[fe (by omega)];exact e1,ht1 _ _ _ _ q1 (by decide) (by decide),ht1 _ _ _ _ q2 (by decide) (by decide)⟩
  .rw[eV hi]at hu;cases hq:k+i-Z ns with
   |succ n=>rw[hq]at hu;simp at hu
   |zero=>
    rw[hq]at hu;cases hu;have e:i=Z rows:=by omega
    subst e;rw[hrl];exact⟨C.next,A.next,by rw[eV (by omega),iQ];rfl,⟨by omega,vtG.2.same (fH _ (by omega))⟩,⟨by omega,vsG.2.same (fH _ (by omega))⟩⟩
 .rw[fH z hm,keepG z (by omega) hp hb,kE.2 z (by omega),fAD z hz hp]
variable {n:Nat}
def qfO(h:mm A p ml mn b k la ns)(hnd:ns.Nodup)(hn:Z ns<1000):
 ∃v A' mk,az O 66 [pV p,.int .i64 n] A v A'/\v=.tuple ⟨[]⟩/\mm A' p ml mk b (k+min n (Z ns-k)) la (ns.take (k+min n (Z ns-k)))/\A.next<=mk/\A.next<=A'.next/\∀z,z<A.next->z≠p->z≠ml->A'.get z=A.get z:=by
 obtain⟨x,rows,hV,⟨hml,hml'⟩,⟨hmn,hmn'⟩,hmm,hS,hx0,hrl,hR⟩:=h;have hpm:=hV.dP hml';have lx:=hV.l2 re rfl;have lenx:=aq.len hS re;generalize hm:min n (Z ns-k)=m;have hmr:m<=Z rows:=by omega
 have mn1:c_ O .min [3,3] [.int .i64 n,iN (Z rows)]=.ok (.int .i64 m):=by rw[Am.yS,<-hm];congr 3;omega
 have mx1:c_ O .max [3,3] [iN 0,.int .i64 m]=.ok (.int .i64 m):=by rw[Am.max_i64,ub (a8 _)]
 obtain⟨x1,hsl,hS1⟩:=jX.cut (hS.DD (by omega)) re zh hmr;have len1:=jX.len hS1 re;rw[df,nf hmr]at len1
 suffices hW:∃v A',az O 66 [pV p,.int .i64 n] A v A'/\v=.tuple ⟨[]⟩/\∃mk,mm A' p ml mk b (k+m) la (ns.take (k+m))/\A.next<=mk/\A.next<=A'.next/\∀z,z<A.next->z≠p->z≠ml->A'.get z=A.get z by
  obtain⟨v,A',h1,h2,mk,h3⟩:=hW;exact⟨v,A',mk,h1,h2,h3⟩
 refine cZ (aD Tryz.func66) XF (by kernel_rfl) ?_;simp only[pV];apply W.q
 .intro M;simp(disch:=decide+kernel)only[uB,yj,Aq,aa,fm,Ab,eY];rfl
 apply W.seq;apply W.q
 .intro M;simp(disch:=first|decide+kernel|omega|simp only[Wq,aa])only[uB,yj,Aq,av,reduceIte,aa,ak,bA,br,Fo,lx,lenx,mn1,mx1,hsl,len1,Fq,bQ []];rfl
 apply W.block;refine W.up m (λ i t D=>(A.next<=D.next/\∀z,z<A.next->z≠ml->D.get z=A.get z)/\D.get ml=U (.map (dL (ns.take (k+i)) 0) (k+i))/\Sl t [(0,pw p 0),(20,x1),(21,.int .i64 m),(22,.int .i64 i)]) ?_ (a8 _) ⟨⟨aI _,λ _ _ _=>rfl⟩,hml',?_⟩
 .rintro i t D hi ⟨⟨kn,kf⟩,hmD,g0,g20,g21,g22,-⟩;by_cases hlt:i<m
  .have hni:ns[k+i]?=U (ns[k+i]'(by omega)):=aZ (by omega)
   obtain⟨tt,ss,e1,e2,e3⟩:=hR i _ hni;have hS1D:=hS1.same kn λ hl=>kf b hl (Ne.symm (aq.dP hS hml' (λ e=>by rw[e]at e1;simp at e1)))
   have j1:=jX.idx (i:=i) (kd:=.i64) hS1D re zh (by rw[df];omega);obtain⟨d,hd1,hd2⟩:=cF (by kernel_rfl);have j2:=jX.cg hS1D hd1 hd2 zh (by rw[pM,aA hlt];exact e1);generalize ns[k+i]'(by omega)=w at*
   have sE:cm O (D.alloc (af 204 [.string .empty,.nilFunc])) 204 (pw D.next 0) (.agg ⟨iE kc tt ss⟩)=.ok (D.alloc (af 204 (iE kc tt ss))):=fP zh rfl rfl (by simp) (by simp[iE,bS,ai]);have kE:=Kp.alloc D (af 204 (iE kc tt ss));have vE:=aQ D 204 (iE kc tt ss);have nE:=aG D (af 204 (iE kc tt ss));generalize D.alloc (af 204 (iE kc tt ss))=E at sE kE vE nE;have lf:aj O E.get 202 (pw D.next (0+1))=.ok (.func (.func 134) ⟨[]⟩ ⟨[pV tt,pV ss]⟩):=by
    obtain⟨d,hd,ha⟩:=Ua;exact vE.ld rfl hd ha
   have fAE:∀z,z<A.next->z≠ml->E.get z=A.get z:=λ z hz hm=>by rw[kE.2 z (by omega),kf z hz hm]
   have lm:aj O E.get 199 (pw p 0)=.ok (.map (U ml)):=VB.ld (tb:=O) ⟨by have:=hV.1;omega,hV.2.same (fAE p hV.1 hpm)⟩ rfl u6 rfl;have hmE:E.get ml=U (.map (dL (ns.take (k+i)) 0) (k+i)):=by rw[kE.2 ml (by omega)];exact hmD
   have htE:aj O E.get 3 (pw tt 0)=.ok (iN (k+i+1)):=VB.ld (tb:=O) ⟨by have:=e2.1;omega,e2.2.same (fAE tt e2.1 (e2.dP hml'))⟩ rfl u3 rfl;have hsE:aj O E.get 9 (pw ss 0)=.ok (ai w):=VB.ld (tb:=O) ⟨by have:=e3.1;omega,e3.2.same (fAE ss e3.1 (e3.dP hml'))⟩ rfl u9 rfl;have hupE:=qie hni hnd hmE;generalize hF:E.set ml (.map (dL (ns.take (k+i+1)) 0) (k+i+1))=F at hupE;have nF:F.next=E.next:=by rw[<-hF];exact cU _ _ _
   have hact:az O 134 [.map (U ml),pV tt,pV ss] E (.tuple ⟨[]⟩) F:=by
    simp only[pV];refine cq 60 (aD Tryz.func134) (by kernel_rfl) λ M=>?_
    simp(disch:=omega)only[Tryz.f134,Aq,aa,htE,hsE,C9,hupE,cQ]<;>rfl
   obtain⟨g,hg⟩:=hact;simp only[pV]at hg lf;apply W.cC (g) 20
   .intro M hM;simp(disch:=first|decide+kernel|omega|simp only[Wq,aa])only[IS,uB,yj,Aq,av,reduceIte,aa,ak,g0,g20,g21,g22,hlt,j1,j2,UK,a7,sE,Of,lf,bA,br,Oa,lm,hg,Fq,bQ []];rfl
   refine⟨hlt,_,F,rfl,⟨by omega,λ z hz hm=>by rw[<-hF,tH,ax hm,fAE z hz hm]⟩,by rw[<-hF,tH,aA rfl];rfl,?_⟩;simp only[Sq,aa,ak,g0,g20,g21]
  .have e:i=m:=by omega
   subst e;have VD:VB D 201 p (.var 4) [.map (U ml),.map (U mn),x,.int .i64 la]:=⟨by have:=hV.1;omega,hV.2.same (kf p hV.1 hpm)⟩;have lm:=VD.l0 u6 rfl;obtain⟨g,hg⟩:=qdU hmD;have kE:=Kp.alloc D (.map (dL (ns.take (k+i)) 0) (k+i));have hmk:(D.alloc (.map (dL (ns.take (k+i)) 0) (k+i))).get D.next=U (.map (dL (ns.take (k+i)) 0) (k+i)):=de _ _
   have nE:=aG D (.map (dL (ns.take (k+i)) 0) (k+i));generalize D.alloc (.map (dL (ns.take (k+i)) 0) (k+i))=E at hg kE hmk nE;have hpD:=VD.1;have hmlD:ml<D.next:=by omega
   obtain⟨F,sF,vF,nF,fF⟩:=db (tb:=O) (t:=198) (o:=2) (v:=.slice V 0 0) Tc (VD.2.same (kE.2 _ hpD)) (by simp) rfl rfl;obtain⟨G,sG,vG,nG,fG⟩:=db (tb:=O) (t:=199) (o:=1) (v:=.map (U D.next)) qgB vF (by simp) rfl rfl;apply W.run 20
   .intro M;simp(disch:=decide+kernel)only[IS,uB,yj,Aq,aa,g21,g22];rfl
   apply W.cC (g) 20
   .intro M hM;simp(disch:=omega)only[uB,yj,Aq,aa,g0,bA,br,Oa,Ad,Fo,lm,hg,sF,sG];rfl
   have htl:(ns.take (k+i)).length=k+i:=by rw[df];omega
   refine⟨by simp,rfl,_,(by simp only[yj,Aq,aa]<;>rfl),rfl,D.next,⟨.slice V 0 0,[],⟨by show p<G.next;omega,vG⟩,⟨by show ml<G.next;omega,?_⟩,⟨by show D.next<G.next;omega,?_⟩,by omega,aq.nil _ _ _ _,λ _=>rfl,by rw[htl];rfl,λ j w hw=>?_⟩,kn,by show A.next<=G.next;omega,λ z hz hp hm=>?_⟩
   .show G.get ml=_;rw[fG ml (Ne.symm hpm),fF ml (Ne.symm hpm),kE.2 ml hmlD,List.take_take,Nat.min_self];exact hmD
   .show G.get D.next=_
    rw[fG _ (by omega),fF _ (by omega),htl];exact hmk
   .rw[ky (by rw[htl];omega)]at hw;cases hw
   .show G.get z=A.get z;rw[fG z hp,fF z hp,kE.2 z (by omega),kf z hz hm]
 .simp only[Sq,aa,ak]
def tU(A:Mem)(f:Nat)(d:List UInt8)(a:I)(s:List UInt8):Prop:=VB A 162 f (.var 3) [ai d,a,ai s]
def qI(q:Nat):I:=.func (.func 155) ⟨[]⟩ ⟨[pV q]⟩
def YV:bK O 162 (pw b 0) 0=.ok (pw b 0):=by kernel_rfl
def Oc:bK O 162 (pw b 0) 1=.ok (pw b 1):=by kernel_rfl
def GO:O.aB 160=U (.slice 213):=by kernel_rfl
def Td:bk O 160=.ok 1:=by kernel_rfl
def y3:bk O 9=.ok 1:=by kernel_rfl
variable {m:Nat}
def qey:az O 129 [.int .i64 n,iN 0,.int .i64 m] A (iN (min n m)) A:=by
 have m1:c_ O .min [3,3] [.int .i64 n,.int .i64 m]=.ok (iN (min n m)):=Am.yS;have m2:c_ O .max [3,3] [iN 0,iN (min n m)]=.ok (iN (min n m)):=by rw[Am.max_i64,ub (a8 _)]
 refine cq 60 (aD Tryz.func129) (by kernel_rfl) λ M=>?_
 simp(disch:=first|decide+kernel|omega)only[Tryz.f129,Aq,aa,m1,m2]<;>rfl
def qei{s:List UInt8}{q:Nat}(h:VB A 9 q (.var 1) [ai w])(hl:Z s+Z w<1000000):az O 155 [ai s,.int .i64 n,pV q] A (ai (s++w.take (min n (Z w)))) A:=by
 have l1:aj O A.get 9 (pw q 0)=.ok (ai w):=h.ld rfl u9 rfl;have ll:=gB (tb:=O) (t:=9) (l:=w) u9;obtain⟨g,hg⟩:=qey (A:=A) (n:=n) (m:=Z w);have s1:=AR (tb:=O) (t:=9) (l:=w) (k:=.i64) (n:=min n (Z w)) u9 (Ed _ _);have ad:ft .add s (w.take (min n (Z w)))=.ok (ai (s++w.take (min n (Z w)))):=AT (by rw[df];omega);simp only[pV];refine bX (g) 60 (aD Tryz.func155) (by kernel_rfl) λ M hM=>?_
 simp(config:={maxSteps:=4000000})(disch:=first|decide+kernel|omega|simp only[Wq,aa])only[Tryz.f155,Aq,av,reduceIte,aa,ak,l1,ll,hg,s1,ad,Fq,bQ [(1,5)],Dq]<;>rfl
def qep{f:Nat}{d s:List UInt8}{a:I}(h:tU A f d a s):∃v A',az O 130 [pV f,ai w] A v A'/\v=cQ/\tU A' f w (.slice V 0 0) w/\A'.next=A.next/\∀z,z≠f->A'.get z=A.get z:=by
 obtain⟨B,s1,v1,n1,f1⟩:=db (tb:=O) (t:=9) (o:=0) (v:=ai w) y3 h.2 (by simp) rfl rfl;obtain⟨C,s2,v2,n2,f2⟩:=db (tb:=O) (t:=9) (o:=2) (v:=ai w) y3 v1 (by simp) rfl rfl;obtain⟨D,s3,v3,n3,f3⟩:=db (tb:=O) (t:=160) (o:=1) (v:=.slice V 0 0) Td v2 (by simp) rfl rfl;refine⟨cQ,D,?_,rfl,⟨by have:=h.1;omega,v3⟩,by omega,λ z hz=>by rw[f3 z hz,f2 z hz,f1 z hz]⟩;simp only[pV];refine cq 60 (aD Tryz.func130) (by kernel_rfl) λ M=>?_
 simp(disch:=first|decide+kernel|omega)only[Tryz.f130,Aq,aa,bA,br,YV,Oc,Fp,s1,s2,s3,cQ]<;>rfl
def qex{f:Nat}{d s:List UInt8}{a:I}(h:tU A f d a s):∃v A',az O 93 [pV f] A v A'/\v=iN 0/\tU A' f s (.slice V 0 0) s/\A'.next=A.next/\∀z,z≠f->A'.get z=A.get z:=by
 obtain⟨v,B,⟨g,hg⟩,rfl,hB⟩:=qep (w:=s) h;have l2:aj O A.get 9 (pw f 2)=.ok (ai s):=h.ld rfl u9 rfl;refine⟨_,B,?_,rfl,hB⟩;simp only[pV]at*;refine bX (g) 60 (aD Tryz.func93) (by kernel_rfl) λ M hM=>?_
 simp(disch:=first|decide+kernel|omega)only[Tryz.f93,Aq,aa,fm,Fc,eY,bA,br,Fp,l2,hg]<;>rfl
def KQ{x:I}(h:aq A 9 1 b [[ai w]] x):az O 89 [x,ai []] A (ai w) A:=by
 have DG:O.aB 91=U (.slice 9):=by kernel_rfl
 have ll:=aq.len (tb:=O) h DG;have j1:=aq.idx (tb:=O) (t:=91) (i:=0) (kd:=.i64) h DG (by kernel_rfl) (by simp);have j2:=aq.load (tb:=O) (t:=9) (j:=0) h u9 rfl (show [[ai w]][0]?=U [ai w]from rfl) rfl (by omega);refine cq 60 (aD Tryz.func89) (by kernel_rfl) λ M=>?_
 simp(disch:=first|decide+kernel|omega)only[Tryz.f89,Aq,aa,ll,j1,j2,cD,eB]<;>rfl
def qiM:fu O 213=.ok (1,[.nilFunc]):=by kernel_rfl
def qhV:∃i,O.ty.get 213=U i/\0<i.bytes/\i.bytes<=65536:=by
 have h:(O.ty.get 213).map (λ i=>aO 0 i.bytes&&av i.bytes 65536)=U ae:=by kernel_rfl
 cases hq:O.ty.get 213 with
 |none=>rw[hq]at h;cases h
 |some i=>
  rw[hq]at h;simp only[gX,fg,dW,bZ]at h;exact⟨i,rfl,h.1,gK h.2⟩
def V_{q:Nat}:eO O 160 1 [(0,qI q)]=.ok (af 213 [qI q],.dZ 1 2):=by kernel_rfl
def qdT:az O 205 [.slice V 0 0] A (.slice V 0 0) A:=by
 have l1:c_ O .len [160] [.slice V 0 0]=.ok (iN 0):=mQ GO;have s1:iL O 160 (.slice V 0 0) V (U (iN 0)) (U (iN 0))=.ok (.slice V 0 0):=by kernel_rfl
 refine cq 60 (aD Tryz.func205) (by kernel_rfl) λ M=>?_
 simp(disch:=first|decide+kernel|omega)only[Tryz.f205,Aq,aa,l1,s1]<;>rfl
def qel{f q:Nat}{d s:List UInt8}(h:tU A f d (.slice V 0 0) s)(hq:VB A 9 q (.var 1) [ai w])(hl:Z s+Z w<1000000):
 ∃v A',az O 154 [pV f,qI q] A v A'/\v=cQ/\(∃b x,tU A' f d x (s++w)/\aq A' 213 1 b [[qI q]] x/\A.next<=b)/\A.next<=A'.next/\∀z,z<A.next->z≠f->A'.get z=A.get z:=by
 have l1:aj O A.get 160 (pw f 1)=.ok (.slice V 0 0):=h.ld rfl GO rfl;obtain⟨g1,h1⟩:=qdT (A:=A);have kB:=Kp.alloc A (af 213 [qI q]);obtain⟨ti,t1,t2,t3⟩:=qhV;obtain⟨x,C,e1,e2,e3,e4⟩:=(aq.nil (A.alloc (af 213 [qI q])) 213 1 0).append (tb:=O) (st:=160) (xt:=160) GO GO qiM t1 t2 t3 (by omega) (by omega) (by simp) (de A _) rfl (by simp[qI,bS]);have nB:(A.alloc (af 213 [qI q])).next=A.next+1:=aG _ _
 have fC:∀z,z<A.next->C.get z=A.get z:=λ z hz=>by rw[e4 z (λ _=>rfl) (by omega),kB.2 z hz]
 have hf:=h.1;have hqA:=hq.1;obtain⟨D,s2,v2,n2,f2⟩:=db (tb:=O) (t:=160) (o:=1) (v:=x) Td (h.2.same (fC f hf)) (by simp) (aq.dQ e2).1 (aq.dQ e2).2;have l2:aj O D.get 9 (pw f 2)=.ok (ai s):=dg u9 rfl v2 rfl;have hqf:q≠f:=hq.ne h (by decide);have hqD:VB D 9 q (.var 1) [ai w]:=⟨by omega,hq.2.same (by rw[f2 q hqf,fC q hqA])⟩;obtain⟨g2,h2⟩:=qei (n:=4611686018427387904) (s:=s) hqD hl;rw[BI (by omega),dU]at h2;obtain⟨E,s3,v3,n3,f3⟩:=db (tb:=O) (t:=9) (o:=2) (v:=ai (s++w)) y3 v2 (by simp) rfl rfl;refine⟨cQ,E,?_,rfl,⟨A.next+1,x,⟨by omega,v3⟩,?_,by omega⟩,by omega,λ z hz hzf=>by rw[f3 z hzf,f2 z hzf,fC z hz]⟩
 .have bs:=V_ (q:=q);simp only[pV,qI]at*;refine bX (g1+g2) 60 (aD Tryz.func154) (by kernel_rfl) λ M hM=>?_
  simp(disch:=first|decide+kernel|omega)only[Tryz.f154,Aq,aa,bA,br,Oc,Fp,l1,h1,bs,e1,s2,l2,h2,s3,cQ]<;>rfl
 .rw[nB]at e2;exact e2.same (by omega) λ _=>by rw[f3 _ (by omega),f2 _ (by omega)]
def qek{f:Nat}{d s:List UInt8}{x:I}(h:tU A f d (.slice V 0 0) s)(hx:aq A 9 1 b [[ai w]] x)(h0:w≠ [])(hl:Z s+Z w<1000000):
 ∃v A',az O 91 [pV f,x] A v A'/\v=iN 0/\(∃b q y,tU A' f d y (s++w)/\aq A' 213 1 b [[qI q]] y/\A.next<=b/\A.next<=q/\VB A' 9 q (.var 1) [ai w])/\A.next<=A'.next/\∀z,z<A.next->z≠f->A'.get z=A.get z:=by
 obtain⟨g1,h1⟩:=KQ hx;have kB:=Kp.alloc A (af 9 [ai w]);have vB:=aQ A 9 [ai w];have sB:cm O (A.alloc (af 9 [ai []])) 9 (pw A.next 0) (ai w)=.ok (A.alloc (af 9 [ai w])):=se y3 rfl rfl (by simp);have z9:dj O 9=.ok (ai []):=by kernel_rfl
 have nB:(A.alloc (af 9 [ai w])).next=A.next+1:=aG _ _
 generalize A.alloc (af 9 [ai w])=B at kB vB sB nB;have lB:aj O B.get 9 (pw A.next 0)=.ok (ai w):=vB.ld rfl u9 rfl;obtain⟨v,C,⟨g2,h2⟩,rfl,⟨b',y,p1,p2,p3⟩,p4,p5⟩:=qel (VB.kp h kB) vB hl;have he:∀t:T I,ev t (.const (.string ⟨#[]⟩))=.ok (ai []):=λ _=>rfl
 refine⟨_,C,?_,rfl,⟨b',A.next,y,p1,p2,by omega,aI _,⟨by omega,vB.2.same (p5 _ (by omega) ?_)⟩⟩,by omega,λ z hz hf=>by rw[p5 z (by omega) hf,kB.2 z hz]⟩
 .have cB:(ai []).cells.toList=[ai []]:=rfl;simp only[pV,qI,cQ]at*;refine bX (g1+g2) 60 (aD Tryz.func91) (by kernel_rfl) λ M hM=>?_
  simp(disch:=first|decide+kernel|omega)only[Tryz.f91,Aq,aa,fm,Fc,eY,he,h1,z9,cB,sB,lB,h0,h2]<;>rfl
 .have:=h.1;omega
def CL:bK O 81 (pw b 0) 3=.ok (pw b 3):=by kernel_rfl
def CM:bK O 81 (pw b 0) 4=.ok (pw b 4):=by kernel_rfl
def Ti:bk O 4=.ok 1:=by kernel_rfl
def oE:=cu pj
def IV:pj.body=U (.seq (sub oE [0]) (.seq (sub oE [1,0]) (.seq (sub oE [1,1,0]) (.seq (sub oE [1,1,1,0]) (.seq (sub oE [1,1,1,1,0]) (sub oE [1,1,1,1,1])))))):=by kernel_rfl
def qea{a:Nat}{fd mf q:I}(h:VB A 81 p (.var 6) [fd,mf,q,.int .i64 n,.int .i64 a,.bool ag])(hn:n<1000)(ha:a<1000):
 ∃B,VB B 81 p (.var 6) [fd,mf,q,.int .i64 (n+1:Nat),.int .i64 (a-1:Nat),.bool (decide (a=1))]/\B.next=A.next/\(∀z,z≠p->B.get z=A.get z)/\
  (a=1->∀fn,az O 85 [pV p,fn] A (.int .i64 (13:Nat)) B)/\
  (a≠1->∀(f:Nat) (cs:List I) (e:Nat) (C:Mem),az O f cs B (.int .i64 e) C->az O 85 [pV p,.func (.func f) ⟨[]⟩ ⟨cs⟩] A (.int .i64 e) C):=by
 have l3:aj O A.get 3 (.pointer (U ⟨p,3,V⟩))=.ok (.int .i64 n):=h.ld rfl u3 rfl;have a1:a_ .add .i64 ((n:Nat):Int) ((1:Nat):Int)=.ok (.int .i64 (n+1:Nat)):=e_ (ct (by omega));obtain⟨B,sB,vB,nB,fB⟩:=db (tb:=O) (t:=3) (o:=3) (v:=.int .i64 (n+1:Nat)) sa h.2 (by simp) rfl rfl;have l4:aj O B.get 3 (.pointer (U ⟨p,4,V⟩))=.ok (.int .i64 a):=dg u3 rfl vB rfl;have l5:aj O B.get 4 (.pointer (U ⟨p,5,V⟩))=.ok (.bool ag):=dg u4 rfl vB rfl;have hp:=h.1;cases a with
 |zero=>
  refine⟨B,⟨by omega,vB⟩,nB,fB,λ e=>(by cases e),λ _ f cs e C ⟨g,hg⟩=>?_⟩;refine wg (aD Tryz.func85) IV (by kernel_rfl) ?_;simp only[pV];apply W.q2
  .intro M _;simp(disch:=first|decide+kernel|omega)only[oE,pj,Aq,aa,fm,uG,eY];rfl
  apply W.q2
  .intro M _;simp(config:={maxSteps:=4000000})(disch:=first|decide+kernel|omega|simp only[Wq,aa])only[oE,pj,Aq,aa,bA,br,CL,l3,a1,sB,av,reduceIte,ak,CM,l4,dM,dK,t_];rfl
  apply W.cC (g) 40
  .intro M hM;simp(disch:=first|decide+kernel|omega)only[oE,pj,Aq,aa,bA,br,uI,l5,hg];rfl
  exact⟨by simp,rfl,rfl,by simp only[pj,Aq,aa]<;>rfl⟩
 |succ a=>
  have s1:a_ .sub .i64 ((a+1:Nat):Int) ((1:Nat):Int)=.ok (.int .i64 (a:Nat)):=eQ (by omega) (ct (by omega));obtain⟨C,sC,vC,nC,fC⟩:=db (tb:=O) (t:=3) (o:=4) (v:=.int .i64 (a:Nat)) sa vB (by simp) rfl rfl;have l6:aj O C.get 3 (.pointer (U ⟨p,4,V⟩))=.ok (.int .i64 a):=dg u3 rfl vC rfl;obtain⟨D,sD,vD,nD,fD⟩:=db (tb:=O) (t:=4) (o:=5) (v:=.bool (decide (a=0))) Ti vC (by simp) rfl rfl;have l7:aj O D.get 4 (.pointer (U ⟨p,5,V⟩))=.ok (.bool (decide (a=0))):=dg u4 rfl vD rfl;have hd:decide (a+1=1)=decide (a=0):=by simp
  refine⟨D,⟨by omega,by rw[hd,zB];exact vD⟩,by omega,λ z hz=>by rw[fD z hz,fC z hz,fB z hz],λ e fn=>?_,λ e f cs v E ⟨g,hg⟩=>?_⟩
  .have e0:a=0:=by omega
   subst e0;rw[show decide (0=0)=ae from rfl]at sD l7;refine wg (aD Tryz.func85) IV (by kernel_rfl) ?_;simp only[pV];apply W.q2
   .intro M _;simp(disch:=first|decide+kernel|omega)only[oE,pj,Aq,aa,fm,uG,eY];rfl
   apply W.q2
   .intro M _;simp(config:={maxSteps:=4000000})(disch:=first|decide+kernel|omega|simp only[Wq,aa])only[oE,pj,Aq,aa,bA,br,CL,l3,a1,sB,av,reduceIte,ak,CM,uI,l4,l5,dM,dK,Nat.succ_pos,s1,sC,l6,sD];rfl
   apply W.seq;apply W.run 20
   .intro M;simp(disch:=first|decide+kernel|omega)only[oE,pj,Aq,aa,bA,br,uI,l7];rfl
   exact⟨by simp,rfl,rfl,by simp only[pj,Aq,aa]<;>rfl⟩
  .have e0:a≠0:=by omega
   rw[decide_eq_false e0]at sD l7;refine wg (aD Tryz.func85) IV (by kernel_rfl) ?_;simp only[pV];apply W.q2
   .intro M _;simp(disch:=first|decide+kernel|omega)only[oE,pj,Aq,aa,fm,uG,eY];rfl
   apply W.q2
   .intro M _;simp(config:={maxSteps:=4000000})(disch:=first|decide+kernel|omega|simp only[Wq,aa])only[oE,pj,Aq,aa,bA,br,CL,l3,a1,sB,av,reduceIte,ak,CM,uI,l4,l5,dM,dK,Nat.succ_pos,s1,sC,l6,e0,sD];rfl
   apply W.cC (g) 40
   .intro M hM;simp(disch:=first|decide+kernel|omega)only[oE,pj,Aq,aa,bA,br,uI,l7,hg];rfl
   exact⟨by simp,rfl,rfl,by simp only[pj,Aq,aa]<;>rfl⟩
def qeb{a:Nat}{fd mf q:I}(h:VB A 81 p (.var 6) [fd,mf,q,.int .i64 n,.int .i64 a,.bool ae])(hn:n<1000)(ha:a<1000):
 ∃B,VB B 81 p (.var 6) [fd,mf,q,iN (n+1),.int .i64 a,.bool ae]/\B.next=A.next/\(∀z,z≠p->B.get z=A.get z)/\∀fn,az O 85 [pV p,fn] A (iN 13) B:=by
 have l3:aj O A.get 3 (pw p 3)=.ok (.int .i64 n):=h.ld rfl u3 rfl;have a1:a_ .add .i64 ((n:Nat):Int) ((1:Nat):Int)=.ok (iN (n+1)):=e_ (ct (by omega));obtain⟨B,sB,vB,nB,fB⟩:=db (tb:=O) (t:=3) (o:=3) (v:=iN (n+1)) sa h.2 (by simp) rfl rfl;have l4:aj O B.get 3 (pw p 4)=.ok (.int .i64 a):=dg u3 rfl vB rfl;have l5:aj O B.get 4 (pw p 5)=.ok (.bool ae):=dg u4 rfl vB rfl;have hp:=h.1;refine⟨B,⟨by omega,vB⟩,nB,fB,λ fn=>?_⟩;simp only[pV];by_cases h0:0<a
 all_goals
  skip
  refine cq 60 (aD Tryz.func85) (by kernel_rfl) λ M=>?_
  simp(config:={maxSteps:=4000000})(disch:=first|decide+kernel|omega|simp only[Wq,aa])only[pj,Aq,av,reduceIte,aa,ak,fm,uG,eY,bA,br,CL,CM,uI,l3,a1,sB,l4,l5,dM,dK,h0]<;>rfl
def Vr{a:Nat}:eu O 201 [(0,.map (U a)),(1,.map (U b))]=.ok (.agg ⟨[.map (U a),.map (U b),.slice V 0 0,iN 0]⟩):=by kernel_rfl
def qes:∃v A',az O 75 [] A v A'/\v=pV (A.next+2)/\Fold A' (A.next+2) A.next (A.next+1) 0 []/\A'.next=A.next+3/\∀z,z<A.next->A'.get z=A.get z:=by
 have n1:=aG A (.map [] 0);have n2:((A.alloc (.map [] 0)).alloc (.map [] 0)).next=A.next+2:=by rw[aG,n1]
 have n3:(((A.alloc (.map [] 0)).alloc (.map [] 0)).alloc (af 201 [.map (U A.next),.map (U (A.next+1)),.slice V 0 0,iN 0])).next=A.next+3:=by rw[aG,n2]
 have v:=aQ ((A.alloc (.map [] 0)).alloc (.map [] 0)) 201 [.map (U A.next),.map (U (A.next+1)),.slice V 0 0,iN 0];rw[n2]at v;refine⟨_,((A.alloc (.map [] 0)).alloc (.map [] 0)).alloc (af 201 [.map (U A.next),.map (U (A.next+1)),.slice V 0 0,iN 0]),?_,rfl,⟨_,[],v,⟨by omega,?_⟩,⟨by omega,?_⟩,by omega,aq.nil _ _ _ _,λ _=>rfl,rfl,λ i w hw=>by simp at hw⟩,n3,λ z hz=>by rw[cY (by omega),cY (by omega),cY (by omega)]⟩
 .simp only[pV];refine cq 60 (aD Tryz.func75) (by kernel_rfl) λ M=>?_
  simp only[Tryz.f75,Aq,aa,F_,uQ,Eu,n1,n2,Vr,a7]<;>rfl
 .rw[cY (by omega),cY (by omega)];exact de _ _
 .rw[cY (by omega),<-n1];exact de _ _
def Vs{s:List UInt8}:eu O 162 [(0,ai s),(2,ai s)]=.ok (.agg ⟨[ai s,.slice V 0 0,ai s]⟩):=by kernel_rfl
def qeP{s:List UInt8}:az O 77 [ai s] A (pV A.next) (A.alloc (af 162 [ai s,.slice V 0 0,ai s])):=by
 simp only[pV];refine cq 60 (aD Tryz.func77) (by kernel_rfl) λ M=>?_
 simp(disch:=omega)only[Tryz.f77,Aq,aa,Vs,a7]<;>rfl
def VN{a:Nat}{n:Int}:eu O 81 [(0,pV a),(1,.map (U b)),(2,.int .i64 n)]=.ok (.agg ⟨[pV a,.map (U b),.int .i64 n,iN 0,iN 0,.bool ag]⟩):=by kernel_rfl
def c8:=cu vU
def Nb:aH:=sub c8 [1,1,1,0,1,0,0]
def XJ:vU.body=U (.seq (sub c8 [0]) (.seq (sub c8 [1,0]) (.seq (sub c8 [1,1,0]) (.seq (.seq (sub c8 [1,1,1,0,0]) (.block 0 (.loop Nb))) (.seq (sub c8 [1,1,1,1,0]) (.seq (sub c8 [1,1,1,1,1,0]) (sub c8 [1,1,1,1,1,1]))))))):=by kernel_rfl
def z8(pf mf q:Nat):List I:=[pV pf,.map (U mf),.int .i64 q,iN 0,iN 0,.bool ag]
def KT(P:au->Prop)(A B:Mem):Prop:=A.next<=B.next/\(∀(e:au) (z:Nat) (k:Kd) (l:List I),P e->VB A e z k l->B.get z=A.get z)/\∀z,vo A z->B.get z=A.get z
section
variable {P:au->Prop}{A B:Mem}(K:KT P A B)
include K
variable {z:Nat}{l:List I}
def KT.vb{e:au}{k:Kd}(h:VB A e z k l)(hp:P e):VB B e z k l:=⟨c9 h.1 K.1,h.2.same (K.2.1 _ _ _ _ hp h)⟩
variable {ls:List (List I)}
def KT.iB{e:au}{b:Nat}{x:I}(h:aq A e n b ls x)(hp:P e):aq B e n b ls x:=by
 rcases h with h|⟨k,c,h1,h2,h3,h4⟩
 .exact .inl h
 .exact .inr ⟨k,c,h1,c9 h2 K.1,h3.same (K.2.1 e b k _ hp ⟨h2,h3⟩),h4⟩
def KT.f:m9 A B:=⟨K.1,K.2.2⟩
variable {C:Mem}
def KT.trans(L:KT P B C):KT P A C:=⟨dm K.1 L.1,λ e z k l hp h=>by rw[L.2.1 e z k l hp (K.vb h hp),K.2.1 e z k l hp h],λ z h=>by
 have e:=K.2.2 z h;rw[<-e];obtain⟨h1,t,k,f,c,h2⟩:=h;exact L.2.2 z ⟨c9 h1 K.1,t,k,f,c,e.trans h2⟩⟩
def KT.mono{Q:au->Prop}(h:∀e,Q e->P e):KT Q A B:=⟨K.1,λ e z k l hp=>K.2.1 e z k l (h e hp),K.2.2⟩
def mm.kt{p ml mn b:Nat}(h:mm A p ml mn b k la ns)(hP:P 201/\P 204/\P 3/\P 9)(hm:∀(m:Nat) (es:List MapEntry) (c:Nat),A.get m=U (.map es c)->m=ml\/m=mn->B.get m=A.get m):mm B p ml mn b k la ns:=by
 obtain⟨x,rows,h1,⟨h2,h3⟩,⟨h4,h5⟩,h6,h7,h8,h9,h10⟩:=h;refine⟨x,rows,K.vb h1 hP.1,⟨c9 h2 K.1,by rw[hm _ _ _ h3 (.inl rfl)];exact h3⟩,⟨c9 h4 K.1,by rw[hm _ _ _ h5 (.inr rfl)];exact h5⟩,h6,K.iB h7 hP.2.1,h8,h9,λ i w hw=>?_⟩;obtain⟨t,s,e1,e2,e3⟩:=h10 i w hw;exact⟨t,s,e1,K.vb e2 hP.2.2.1,K.vb e3 hP.2.2.2⟩
end
def Kp.kt{P:au->Prop}{A B:Mem}(k:Kp A B):KT P A B:=⟨k.1,λ _ z _ _ _ h=>k.2 z h.1,λ z h=>k.2 z h.1⟩
variable {z r:Nat}{l:List I}
def vo.ne{A:Mem}{e:au}{k:Kd}(h:vo A z)(hv:VB A e r k l):z≠r:=by
 rintro rfl;obtain⟨-,t,k',f,c,h1⟩:=h;obtain⟨-,c',h2,-⟩:=hv;rw[h1]at h2;cases h2
variable {c:Nat}{es:List MapEntry}
def vo.dP{A:Mem}(h:vo A z)(hm:A.get m=U (.map es c)):z≠m:=by
 rintro rfl;obtain⟨-,t,k',f,c,h1⟩:=h;rw[h1]at hm;cases hm
variable {ls:List (List I)}
def vo.qbN{A:Mem}{e:au}{b:Nat}{x:I}(h:vo A z)(hs:aq A e n b ls x)(h0:ls≠ []):z≠b:=by
 rcases hs with⟨-,hh⟩|⟨k',_,-,h1,h2,-⟩
 .exact aU hh h0
 .exact h.ne (⟨h1,h2⟩:VB A e b k' _)
def KT.oN{A B:Mem}{e:au}{k:Kd}(hv:VB A e r k l)(h:A.next<=B.next)(hf:∀z,z<A.next->z≠r->B.get z=A.get z):KT (·≠e) A B:=⟨h,λ _ z _ _ he h=>hf z h.1 (h.ne hv he),λ z h=>hf z h.1 (h.ne hv)⟩
def dT(e:au):Prop:=e≠81/\e≠201/\e≠204/\e≠162/\e≠213
instance {e:au}:Decidable (dT e):=by unfold dT;infer_instance
def xM(A:Mem)(q:Nat)(f:List UInt8×List UInt8):Prop:=∃a,tU A q f.1 a (f.1++f.2)/\((f.2=[]/\a=.slice V 0 0)\/(f.2≠ []/\∃b r,aq A 213 1 b [[qI r]] a/\VB A 9 r (.var 1) [ai f.2]))
def xM.kt{P:au->Prop}{A B:Mem}{q:Nat}{f:List UInt8×List UInt8}(h:xM A q f)(K:KT P A B)(h1:B.get q=A.get q)(hP:P 213/\P 9):xM B q f:=by
 obtain⟨a,e1,e2⟩:=h;refine⟨a,⟨c9 e1.1 K.1,e1.2.same h1⟩,?_⟩;rcases e2 with h|⟨h,b,r,e3,e4⟩
 .exact .inl h
 .exact .inr ⟨h,b,r,K.iB e3 hP.1,K.vb e4 hP.2⟩
structure ba where
 k:Nat
 la:Nat
 ns:List (List UInt8)
 fs:List (List UInt8×List UInt8)
 st:Nat
 ar:Nat
 dn:Bool
 q:Nat
def ie(A:Mem)(p:Nat)(D:ba)(pf ml mn b mf:Nat)(ps:List Nat):Prop:=
 VB A 81 p (.var 6) [pV pf,.map (U mf),.int .i64 D.q,.int .i64 D.st,.int .i64 D.ar,.bool D.dn]/\mm A pf ml mn b D.k D.la D.ns/\(mf<A.next/\A.get mf=U (.map (mM ps 0) (Z ps)))/\
 (Z ps=Z D.fs/\Z D.fs=Z D.ns/\ps.Nodup/\D.ns.Nodup)/\(∀(i:Nat) (f:List UInt8×List UInt8),D.fs[i]?=U f->∃q,ps[i]?=U q/\xM A q f)/\mf≠ml/\mf≠mn
def ek(A:Mem)(p:Nat)(D:ba):Prop:=∃pf ml mn b mf ps,ie A p D pf ml mn b mf ps
section
variable {A B:Mem}{p pf ml mn b mf:Nat}{D:ba}{ps:List Nat}
def ie.kp(h:ie A p D pf ml mn b mf ps)(k:Kp A B):ie B p D pf ml mn b mf ps:=by
 obtain⟨h1,h2,⟨h3,h3'⟩,h4,h5,h6⟩:=h;refine⟨h1.kp k,h2.kp k,⟨c9 h3 k.1,by rw[k.2 _ h3];exact h3'⟩,h4,λ i f hf=>?_,h6⟩;obtain⟨q,e1,e2⟩:=h5 i f hf;exact⟨q,e1,e2.kt (P:=λ _=>True) (Kp.kt k) (k.2 q e2.choose_spec.1.1) ⟨trivial,trivial⟩⟩
def ek.kp(h:ek A p D)(k:Kp A B):ek B p D:=by
 obtain⟨pf,ml,mn,b,mf,ps,h⟩:=h;exact⟨pf,ml,mn,b,mf,ps,h.kp k⟩
def ie.file(h:ie A p D pf ml mn b mf ps){q:Nat}(hq:q∈ps):∃k l,VB A 162 q k l:=by
 obtain⟨-,-,-,⟨h4,-⟩,h5,-⟩:=h;obtain⟨i,hi,rfl⟩:=oU hq;obtain⟨q,e1,_,e2,-⟩:=h5 i _ (aZ (by omega));rw[aZ hi]at e1;cases e1;exact⟨_,_,e2⟩
def ie.LC{D':ba}(h:ie A p D pf ml mn b mf ps)(hD:D'.k=D.k/\D'.la=D.la/\D'.ns=D.ns/\D'.fs=D.fs/\D'.q=D.q)(vB:VB B 81 p (.var 6) [pV pf,.map (U mf),.int .i64 D'.q,.int .i64 D'.st,.int .i64 D'.ar,.bool D'.dn])
 (nB:A.next<=B.next)(fB:∀z,z<A.next->z≠p->B.get z=A.get z):ie B p D' pf ml mn b mf ps:=by
 obtain⟨h1,h2,⟨h3,h3'⟩,h4,h5,h6⟩:=h;obtain⟨d1,d2,d3,d4,d5⟩:=hD;have K:=KT.oN h1 nB fB;refine⟨vB,by rw[d1,d2,d3];exact h2.kt K ⟨by decide,by decide,by decide,by decide⟩ λ m es c hm hl=>fB m (by have:=h2;obtain⟨_,_,-,⟨q,-⟩,⟨r,-⟩,-⟩:=this;rcases hl with rfl|rfl<;>assumption) (Ne.symm (h1.dP hm)),⟨by omega,by rw[fB mf h3 (Ne.symm (h1.dP h3'))];exact h3'⟩,by rw[d3,d4];exact h4,λ i f hf=>?_,h6⟩;rw[d4]at hf;obtain⟨q,e1,e2⟩:=h5 i f hf;exact⟨q,e1,e2.kt K (fB q e2.choose_spec.1.1 (VB.ne e2.choose_spec.1 h1 (by decide))) ⟨by decide,by decide⟩⟩
variable {i:Nat}
def ie.set{q:Nat}{f:List UInt8×List UInt8}(h:ie A p D pf ml mn b mf ps)(hi:ps[i]?=U q)(hf:xM B q f)(nB:A.next<=B.next)(fB:∀z,z<A.next->z≠q->B.get z=A.get z):ie B p {D with fs:=D.fs.set i f} pf ml mn b mf ps/\KT dT A B:=by
 have hq:=h.file (gJ hi);obtain⟨h1,h2,⟨h3,h3'⟩,⟨h4,h4',h4n,h4m⟩,h5,h6⟩:=h;obtain⟨kq,lq,hq⟩:=hq;have K:=KT.oN hq nB fB;have hil:=(bU.1 hi).1;refine⟨⟨K.vb h1 (by decide),h2.kt K ⟨by decide,by decide,by decide,by decide⟩ λ m es c hm hl=>fB m (by have:=h2;obtain⟨_,_,-,⟨q,-⟩,⟨r,-⟩,-⟩:=this;rcases hl with rfl|rfl<;>assumption) (Ne.symm (hq.dP hm)),⟨by omega,by rw[fB mf h3 (Ne.symm (hq.dP h3'))];exact h3'⟩,⟨by rw[dS];exact h4,by rw[dS];exact h4',h4n,h4m⟩,λ j g hg=>?_,h6⟩,K.mono λ e he=>he.2.2.2.1⟩;by_cases hj:i=j
 .subst hj;rw[List.getElem?_set_self (by omega)]at hg;cases hg;exact⟨q,hi,hf⟩
 .rw[List.getElem?_set_ne hj]at hg;obtain⟨q',e1,e2⟩:=h5 j g hg;have hne:q'≠q:=by
   rintro rfl;obtain⟨hjl,ej⟩:=bU.1 e1;obtain⟨_,ei⟩:=bU.1 hi;rcases Nat.lt_or_gt_of_ne hj with hl|hl
   .exact tY.1 h4n i j hil hjl hl (ei.trans ej.symm)
   .exact tY.1 h4n j i hjl hil hl (ej.trans ei.symm)
  exact⟨q',e1,e2.kt K (fB q' e2.choose_spec.1.1 hne) ⟨by decide,by decide⟩⟩
def cL(D:ba):ba:={D with st:=D.st+1,ar:=if D.dn then D.ar else D.ar-1,dn:=D.dn||decide (D.ar=1)}
def ie.step(h:ie A p D pf ml mn b mf ps)(hs:D.st<1000/\D.ar<1000):
 ∃B,ie B p (cL D) pf ml mn b mf ps/\B.next=A.next/\(∀z,z≠p->B.get z=A.get z)/\KT dT A B/\((cL D).dn=ae->∀fn,az O 85 [pV p,fn] A (.int .i64 (13:Nat)) B)/\
  ((cL D).dn=ag->∀(f:Nat) (cs:List I) (e:Nat) (C:Mem),az O f cs B (.int .i64 e) C->az O 85 [pV p,.func (.func f) ⟨[]⟩ ⟨cs⟩] A (.int .i64 e) C):=by
 have h1:=h.1;cases hd:D.dn with
 |false=>
  rw[hd]at h1;obtain⟨B,vB,nB,fB,g1,g2⟩:=qea h1 hs.1 hs.2;exact⟨B,h.LC (D':=cL D) ⟨rfl,rfl,rfl,rfl,rfl⟩ (by unfold cL;rw[hd];exact vB) (by omega) λ z _=>fB z,nB,fB,(KT.oN h1 (by omega) λ z _=>fB z).mono λ e he=>he.1,λ e=>g1 (by simpa[cL,hd]using e),λ e=>g2 (by simpa[cL,hd]using e)⟩
 |true=>
  rw[hd]at h1;obtain⟨B,vB,nB,fB,g1⟩:=qeb h1 hs.1 hs.2;exact⟨B,h.LC (D':=cL D) ⟨rfl,rfl,rfl,rfl,rfl⟩ (by unfold cL;rw[hd];exact vB) (by omega) λ z _=>fB z,nB,fB,(KT.oN h1 (by omega) λ z _=>fB z).mono λ e he=>he.1,λ _=>g1,λ e=>by simp[cL,hd]at e⟩
def ba.all(D:ba):List (List UInt8×List UInt8):=D.ns.zip (D.fs.map λ f=>f.1++f.2)
def ie.at(h:ie A p D pf ml mn b mf ps)(hd:D.dn=ag):UR A p D.all:=by
 obtain⟨h1,⟨x,rows,h2,-,⟨h3,h3'⟩,-⟩,⟨h4,h4'⟩,⟨h5,h5',-⟩,h6,-⟩:=h;rw[hd]at h1;have e1:D.all.map (·.1)=D.ns:=List.map_fst_zip (by rw[bc];omega);refine⟨pf,mf,mn,_,_,ps,_,_,_,_,_,_,h1,h2,⟨h3,by rw[e1];exact h3'⟩,⟨h4,h4'⟩,λ i s hs=>?_⟩;unfold ba.all at hs;rw[LY,dN]at hs;obtain⟨-,hs⟩:=hs;cases hf:D.fs[i]? with
 |none=>rw[hf]at hs;cases hs
 |some f=>
  rw[hf]at hs;have hs:f.1++f.2=s.2:=iR hs;obtain⟨q,e1,a,e2,-⟩:=h6 i f hf;exact⟨q,_,_,e1,by rw[<-hs];exact e2⟩
end
def t133:sb 133 163 1=ae:=by kernel_rfl
def t163:sb 163 166 2=ae:=by kernel_rfl
def t91:sb 91 9 1=ae:=by kernel_rfl
def Ub:∃d,O.aB 163=U d/\en d=ag:=cF (by kernel_rfl)
def Fs:bK O 135 (pw b 0) 0=.ok (pw b 0):=by kernel_rfl
def YW:bK O 135 (pw b 0) 1=.ok (pw b 1):=by kernel_rfl
variable {o:Nat}
def yJ:bK O 166 (pw b o) 0=.ok (pw b o):=by kernel_rfl
def YX:bK O 166 (pw b o) 1=.ok (pw b (o+1)):=by kernel_rfl
def jQ(x:List UInt8×Nat):List I:=[ai x.1,.int .i64 x.2]
def oV(A:Mem)(l:List (List UInt8×Nat))(x:I):Prop:=∃b,aq A 166 2 b (l.map jQ) x
section
variable {A A':Mem}{l:List (List UInt8×Nat)}{x:I}
def oV.kp(h:oV A l x)(k:Kp A A'):oV A' l x:=by
 obtain⟨b,h⟩:=h;exact⟨b,h.same k.1 (k.2 b)⟩
def oV.len(h:oV A l x):c_ O .len [163] [x]=.ok (iN (Z l)):=by
 obtain⟨b,h⟩:=h;have:=y4 t163 h;rwa[bc]at this
variable {i:Nat}
def oV.at{f:List UInt8×Nat}(h:oV A l x)(hi:l[i]?=U f):
 ∃b o,eE O 163 x (.int .i64 i)=.ok (pw b o)/\aj O A.get 166 (pw b o)=.ok (.agg ⟨jQ f⟩)/\aj O A.get 9 (pw b o)=.ok (ai f.1)/\aj O A.get 3 (pw b (o+1))=.ok (.int .i64 f.2):=by
 obtain⟨b,h⟩:=h;have hl:i<(l.map jQ).length:=by rw[bc];exact(bU.1 hi).1
 have hm:(l.map jQ)[i]?=U (jQ f):=by rw[dN,hi];rfl
 obtain⟨d,hd1,hd2⟩:=cF (t:=166) (p:=ae) (by kernel_rfl);refine⟨b,_,xx t163 h hl,aq.cg h hd1 hd2 (mW t163).2.2.1 hm,?_,aq.load (tb:=O) (j:=1) h u3 rfl hm rfl (by omega)⟩;have:=aq.load (tb:=O) (j:=0) h u9 rfl hm rfl (by omega);rwa[eo]at this
def Kb(f:List UInt8×Nat):∀v∈jQ f,bS v=ae:=by
 intro v hv;simp only[jQ,cG,eC,or_false]at hv;rcases hv with rfl|rfl<;>rfl
end
def rz(A:Mem)(f:Nat)(l:List (List UInt8×Nat))(k la:Nat):Prop:=
 ∃xw bw xs x,VB A 135 f (.var 2) [xw,.int .i64 la]/\aq A 163 1 bw ((xs++[x]).map λ v=>[v]) xw/\Z xs=k/\(∀v∈xs,bS v=ae)/\oV A l x
def oV.one{A:Mem}{l:List (List UInt8×Nat)}{x:I}(h:oV A l x):x.cells.toList=[x]/\bS x=ae:=by
 obtain⟨b,h⟩:=h;exact aq.dQ h
section
variable {A:Mem}{f bw la:Nat}{xw x:I}{xs:List I}(hV:VB A 135 f (.var 2) [xw,.int .i64 la])(hS:aq A 163 1 bw ((xs++[x]).map λ v=>[v]) xw)(hk:Z xs<1000000)
include hV hS hk
def KY:az O 107 [pV f] A x A:=by
 have hl:=y4 t133 hS;have ix:=xx t133 hS (i:=Z xs) (by simp);rw[bc,aY,fb]at hl;have a1:a_ .sub .i64 ((Z xs+1:Nat):Int) ((1:Nat):Int)=.ok (iN (Z xs)):=eQ (by omega) (ct (by omega));have l0:aj O A.get 133 (pw f 0)=.ok xw:=hV.ld rfl (mW t133).1 rfl;obtain⟨d,hd1,hd2⟩:=Ub;have lx:=aq.load (tb:=O) (t:=163) (i:=Z xs) (j:=0) (l:=[x]) (v:=x) hS hd1 hd2 (by simp) rfl (by omega);rw[eo]at lx;simp only[pV];refine cq 60 (aD Tryz.func107) (by kernel_rfl) λ M=>?_
 simp(config:={maxSteps:=4000000})(disch:=first|decide+kernel|omega|simp only[Wq,aa])only[Tryz.f107,Aq,av,reduceIte,aa,ak,bA,br,Fs,l0,hl,a1,ix,lx,Fq,bQ []]<;>rfl
def SI:az O 104 [pV f] A (iN (Z xs)) A:=by
 have hl:=y4 t133 hS;rw[bc,aY,fb]at hl;have a1:a_ .sub .i64 ((Z xs+1:Nat):Int) ((1:Nat):Int)=.ok (iN (Z xs)):=eQ (by omega) (ct (by omega));have l0:aj O A.get 133 (pw f 0)=.ok xw:=hV.ld rfl (mW t133).1 rfl;simp only[pV];refine cq 60 (aD Tryz.func104) (by kernel_rfl) λ M=>?_
 simp(disch:=first|decide+kernel|omega)only[Tryz.f104,Aq,aa,bA,br,Fs,l0,hl,a1]<;>rfl
end
def SG{A:Mem}(h:0<Z w/\Z w<=64):az O 162 [ai w] A (.bool ae) A:=by
 have hl:=gB (tb:=O) (t:=9) (l:=w) u9;refine cq 60 (aD Tryz.func162) (by kernel_rfl) λ M=>?_
 simp(config:={maxSteps:=4000000})(disch:=first|decide+kernel|omega|simp only[Wq,aa])only[Tryz.f162,Aq,av,reduceIte,aa,ak,hl,dM,tM,gA,dK,h.1,h.2]<;>rfl
def qU(l:List (List UInt8×Nat))(w:List UInt8):Nat:=((l.find? λ x=>decide (x.1=w)).map (·.2)).getD 0
def qJ:=cu ui
def Ez:aH:=sub qJ [1,1,0,1,0,0]
def WG:ui.body=U (.seq (sub qJ [0]) (.seq (sub qJ [1,0]) (.seq (.seq (sub qJ [1,1,0,0]) (.block 0 (.loop Ez))) (.seq (sub qJ [1,1,1,0]) (sub qJ [1,1,1,1]))))):=by kernel_rfl
def KX{A:Mem}{f la:Nat}{l:List (List UInt8×Nat)}(h:rz A f l k la)(hk:k<1000000)(h0:∀y∈l,y.2≠0)(hl:Z l<1000000):
 az O 108 [pV f,ai w] A (.tuple ⟨[.int .i64 (qU l w:Int),.bool (decide (qU l w≠0))]⟩) A:=by
 obtain⟨v,A',hA,rfl,rfl⟩:∃v A',az O 108 [pV f,ai w] A v A'/\v=.tuple ⟨[.int .i64 (qU l w:Int),.bool (decide (qU l w≠0))]⟩/\A'=A:=by
  obtain⟨xw,bw,xs,x,hV,hS,rfl,h1,hN⟩:=h;obtain⟨g,hg⟩:=KY hV hS hk;have hlen:=hN.len;refine cZ (aD Tryz.func108) WG (by kernel_rfl) ?_;simp only[pV]at*;apply W.ic (g)
  .intro M hM _;simp(disch:=first|decide+kernel|omega)only[qJ,ui,Aq,aa,hg];rfl
  apply W.seq;apply W.q
  .intro M;simp(disch:=first|decide+kernel|omega)only[qJ,ui,Aq,aa];rfl
  apply W.block;refine W.up (Z l) (λ i t D=>D=A/\(∀y∈l.take i,¬y.1=w)/\Sl t [(1,ai w),(6,x),(7,.int .i64 i)]) ?_ (a8 _) ⟨rfl,λ y hy=>by simp at hy,?_⟩
  .rintro i t D hi ⟨rfl,hno,g1,g6,g7,-⟩;by_cases hlt:i<Z l
   .have he:l[i]?=U l[i]:=aZ hlt;have htk:l.take (i+1)=l.take i++[l[i]]:=d_ hlt;have hdr:l=l.take i++l[i]::l.drop (i+1):=by rw[<-mq hlt,tZ]
    have hm0:=h0 _ (ff hlt);obtain⟨b,o,j1,j2,j3,j4⟩:=hN.at he;generalize l[i]=y at*;by_cases hw:y.1=w
    .apply W.run 20
     .intro M;simp(disch:=first|decide+kernel|omega)only[Ez,qJ,ui,Aq,aa,g1,g6,g7,hlen,hlt,j1,yJ,j3,hw,YX,j4];rfl
     have hn:qU l w=y.2:=by
      unfold qU;rw[hdr,List.find?_append,List.find?_eq_none.2 λ z hz=>by simpa using hno z hz];simp[hw]
     refine⟨by simp,rfl,_,(by simp only[ui,Aq,aa]<;>rfl),?_,rfl⟩;rw[hn,decide_eq_true hm0]
    .apply W.run 20
     .intro M;simp(disch:=first|decide+kernel|omega)only[Ez,qJ,ui,Aq,aa,g1,g6,g7,hlen,hlt,j1,yJ,j3,hw];rfl
     refine⟨hlt,_,_,rfl,rfl,λ z hz=>?_,?_⟩
     .rw[htk]at hz;rcases mw.1 hz with h|h
      .exact hno z h
      .rw[dX.1 h];exact hw
     .simp only[Sq,aa,ak,g1,g6]
   .have e:i=Z l:=by omega
    subst e;rw[dU]at hno;have hn:qU l w=0:=by
     unfold qU;rw[List.find?_eq_none.2 λ z hz=>by simpa using hno z hz];rfl
    apply W.run 20
    .intro M;simp(disch:=first|decide+kernel|omega)only[Ez,qJ,ui,Aq,aa,g6,g7,hlen,hlt];rfl
    apply W.run 40
    .intro M;simp(disch:=first|decide+kernel|omega)only[qJ,ui,Aq,aa];rfl
    refine⟨by simp,rfl,_,(by simp only[ui,Aq,aa]<;>rfl),?_,rfl⟩;rw[hn];rfl
  .simp only[Sq,aa,ak]
 exact hA
def oW(e n:Nat)(B C:Mem)(b:Nat)(ls:List (List I))(y:I):Prop:=aq C e n b ls y/\Kp B C/\B.next<=b
variable {C:Mem}
def oW.nil{e:Nat}(k:Kp B C):oW e n B C B.next [] (.slice V 0 0):=⟨aq.nil _ _ _ _,k,aI _⟩
variable {y:I}
def oW.push{st e:Nat}(h:oW e n B C b ls y)(ht:sb st e n=ae)(r:List I)(hl:Z ls<1000000)(hr:Z r=n)(h1:∀v∈r,bS v=ae):
 ∃y2 D2,dJ O (C.alloc (af e r)) st st y (.slice (U ⟨C.next,0,V⟩) 1 2)=.ok (y2,D2)/\oW e n B D2 (C.next+1) (ls++[r]) y2:=by
 obtain⟨h2,h3,h4⟩:=h;obtain⟨y2,D2,g1,g2,g3,g4⟩:=Gx ht h2 hl hr h1;have:=h3.1;exact⟨y2,D2,g1,g2,⟨by omega,λ z hz=>by rw[g4 z (by omega) (by omega),h3.2 z hz]⟩,by omega⟩
def tI(l:List (List UInt8×Nat))(x:List UInt8×Nat):List (List UInt8×Nat):=l.takeWhile (λ y=>b6 y.1 x.1)++x::l.filter (λ y=>b6 x.1 y.1)
def H4{e:List UInt8×Nat}:eO O 163 1 [(0,.agg ⟨jQ e⟩)]=.ok (af 166 (jQ e),.dZ 1 2):=by kernel_rfl
def jG:=cu oZ
def EH:aH:=sub jG [1,1,0,1,0,0]
def EI:aH:=sub jG [1,1,1,1,0,1,0,0]
def WZ:oZ.body=U (.seq (sub jG [0]) (.seq (sub jG [1,0]) (.seq (.seq (sub jG [1,1,0,0]) (.block 0 (.loop EH))) (.seq (sub jG [1,1,1,0]) (.seq (.seq (sub jG [1,1,1,1,0,0]) (.block 2 (.loop EI))) (.seq (sub jG [1,1,1,1,1,0]) (sub jG [1,1,1,1,1,1]))))))):=by kernel_rfl
def qfp{l:List (List UInt8×Nat)}{x:I}{e:List UInt8×Nat}(h:oV A l x)(hl:Z l<400000):∃v A',az O 164 [x,.agg ⟨jQ e⟩] A v A'/\oV A' (tI l e) v/\Kp A A':=by
 refine cZ (aD Tryz.func164) WZ (by kernel_rfl) ?_;have hlen:=h.len;have k0:=Kp.alloc A (af 166 (jQ e));have v0:=aQ A 166 (jQ e);apply W.q
 .intro M;simp(disch:=first|decide+kernel|omega)only[jG,oZ,Aq,aa,a7];rfl
 have hB:=h.kp k0;generalize A.alloc (af 166 (jQ e))=B at k0 v0 hB;have lwB:∀C,Kp B C->aj O C.get 9 (.pointer (U ⟨A.next,0,V⟩))=.ok (ai e.1):=λ C k=>(v0.kp k).ld rfl u9 rfl
 obtain⟨d67,hd1,hd2⟩:=cF (t:=166) (p:=ae) (by kernel_rfl);apply W.q
 .intro M;simp(disch:=first|decide+kernel|omega)only[jG,oZ,Aq,aa];rfl
 apply W.seq;refine W.to (n:=57) (λ t C=>∃b y,oW 166 2 B C b ((l.takeWhile λ y=>b6 y.1 e.1).map jQ) y/\Sl t [(0,x),(3,.pointer (U ⟨A.next,0,V⟩)),(5,y)]) ?_ ?_
 .apply W.seq;apply W.run 20
  .intro M;simp(disch:=first|decide+kernel|omega)only[jG,oZ,Aq,aa];rfl
  apply W.block;refine W.up (Z l) (λ i t C=>(∀y∈l.take i,b6 y.1 e.1=ae)/\∃b y,oW 166 2 B C b ((l.take i).map jQ) y/\Sl t [(0,x),(3,.pointer (U ⟨A.next,0,V⟩)),(5,y),(6,.int .i64 i)]) ?_ (a8 _) ⟨(λ y hy=>by simp at hy),_,_,oW.nil (Kp.refl _),?_⟩
  .rintro i t C hi ⟨hall,b,y,hO,g0,g3,g5,g6,-⟩;have lw:=lwB C hO.2.1;by_cases hlt:i<Z l
   .have he:l[i]?=U l[i]:=aZ hlt;obtain⟨p,q,i1,i2,i3,i4⟩:=(hB.kp hO.2.1).at he;have hls:=Qc (l[i]).1 e.1;cases hc:b6 (l[i]).1 e.1 with
    |true=>
     rw[hc]at hls;have htk:l.take (i+1)=l.take i++[l[i]]:=d_ hlt;obtain⟨y2,D2,happ2,hO3⟩:=hO.push t163 (jQ l[i]) (by rw[bc,df];omega) rfl (Kb _);apply W.run 20
     .intro M;simp(config:={maxSteps:=4000000})(disch:=first|decide+kernel|omega|simp only[Wq,aa])only[EH,jG,oZ,Aq,av,reduceIte,aa,ak,g0,g3,g5,g6,hlen,hlt,i1,i2,i3,i4,yJ,lw,hls,H4,happ2,Fq,bQ []];rfl
     refine⟨hlt,_,_,rfl,λ z hz=>?_,_,y2,by rw[htk,gg];exact hO3,?_⟩
     .rw[htk]at hz;rcases mw.1 hz with hz|hz
      .exact hall z hz
      .rw[dX.1 hz];exact hc
     .simp only[Sq,aa,ak,g0,g3]
    |false=>
     rw[hc]at hls;have htw:l.takeWhile (λ y=>b6 y.1 e.1)=l.take i:=DF hall (λ z hz=>by rw[he]at hz;rw[<-iR hz];exact hc);apply W.run 20
     .intro M;simp(config:={maxSteps:=4000000})(disch:=first|decide+kernel|omega|simp only[Wq,aa])only[EH,jG,oZ,Aq,av,reduceIte,aa,ak,g0,g3,g6,hlen,hlt,i1,i3,i4,yJ,lw,hls,Fq,bQ []];rfl
     refine⟨rfl,_,_,rfl,b,y,by rw[htw];exact hO,?_⟩;simp only[Sq,aa,ak,g0,g3,g5]
   .have hin:i=Z l:=by omega
    subst hin;have htw:l.takeWhile (λ y=>b6 y.1 e.1)=l.take (Z l):=DF hall (λ z hz=>by rw[ky (aI _)]at hz;cases hz);apply W.run 20
    .intro M;simp(config:={maxSteps:=4000000})(disch:=first|decide+kernel|omega|simp only[Wq,aa])only[EH,jG,oZ,Aq,av,reduceIte,aa,ak,g0,g6,hlen,Fq,bQ []];rfl
    refine⟨rfl,_,_,rfl,b,y,by rw[htw];exact hO,?_⟩;simp only[Sq,aa,ak,g0,g3,g5]
  .simp only[Sq,aa,ak]
 .rintro t C ⟨b,y,hO,g0,g3,g5,-⟩;show W O _ _ _;have hlt1:(l.takeWhile (λ y=>b6 y.1 e.1)).length<=Z l:=(List.takeWhile_sublist _).length_le;have le:aj O C.get 166 (.pointer (U ⟨A.next,0,V⟩))=.ok (.agg ⟨jQ e⟩):=cg hd1 hd2 (mW t163).2.2.1 (v0.kp hO.2.1).2;obtain⟨y',E,happ,hO2⟩:=hO.push t163 (jQ e) (by rw[bc];omega) rfl (Kb _);apply W.q
  .intro M;simp(disch:=first|decide+kernel|omega)only[jG,oZ,Aq,aa,g3,g5,le,H4,happ];rfl
  apply W.seq;apply W.q
  .intro M;simp(disch:=first|decide+kernel|omega)only[jG,oZ,Aq,aa];rfl
  apply W.block;refine W.up (Z l) (λ i t C=>∃b y,oW 166 2 B C b (((l.takeWhile (λ y=>b6 y.1 e.1)++[e])++(l.take i).filter (λ y=>b6 e.1 y.1)).map jQ) y/\Sl t [(0,x),(3,.pointer (U ⟨A.next,0,V⟩)),(5,y),(7,.int .i64 i)]) ?_ (a8 _) ⟨_,y',by simpa using hO2,?_⟩
  .rintro i t C hi ⟨b,y,hO,g0,g3,g5,g7,-⟩;have lw:=lwB C hO.2.1;by_cases hlt:i<Z l
   .have he:l[i]?=U l[i]:=aZ hlt;obtain⟨p,q,i1,i2,i3,i4⟩:=(hB.kp hO.2.1).at he;have hgs:=JF (l[i]).1 e.1;have htk:l.take (i+1)=l.take i++[l[i]]:=d_ hlt;cases hc:b6 e.1 (l[i]).1 with
    |true=>
     rw[hc]at hgs;have hfl:=BC (λ y=>b6 e.1 y.1) (l.take i);rw[df]at hfl;obtain⟨y2,D2,happ2,hO3⟩:=hO.push t163 (jQ l[i]) (by rw[bc,aY,aY,fb];omega) rfl (Kb _);apply W.run 20
     .intro M;simp(config:={maxSteps:=4000000})(disch:=first|decide+kernel|omega|simp only[Wq,aa])only[EI,jG,oZ,Aq,av,reduceIte,aa,ak,g0,g3,g5,g7,hlen,hlt,i1,i2,i3,i4,yJ,lw,hgs,H4,happ2,Fq,bQ []];rfl
     refine⟨hlt,_,_,rfl,_,y2,by rw[htk,zt,iD,aA hc,DY,<-iC,gg];exact hO3,?_⟩;simp only[Sq,aa,ak,g0,g3]
    |false=>
     rw[hc]at hgs;apply W.run 20
     .intro M;simp(config:={maxSteps:=4000000})(disch:=first|decide+kernel|omega|simp only[Wq,aa])only[EI,jG,oZ,Aq,av,reduceIte,aa,ak,g0,g3,g5,g7,hlen,hlt,i1,i3,i4,yJ,lw,hgs,Fq,bQ []];rfl
     refine⟨hlt,_,_,rfl,b,y,by rw[htk,zt,iD,ax (by rw[hc];simp),DY,jT];exact hO,?_⟩;simp only[Sq,aa,ak,g0,g3,g5]
   .have hin:i=Z l:=by omega
    subst hin;rw[dU]at hO;apply W.run 20
    .intro M;simp(disch:=first|decide+kernel|omega)only[EI,jG,oZ,Aq,aa,g0,g7,hlen];rfl
    apply W.run 40
    .intro M;simp(disch:=first|decide+kernel|omega)only[jG,oZ,Aq,aa,g5];rfl
    refine⟨by simp,rfl,_,(by simp only[oZ,Aq,aa]<;>rfl),⟨b,?_⟩,k0.trans hO.2.1⟩;have:=hO.1;rw[iC]at this;exact this
  .simp only[Sq,aa,ak,g0,g3]
end Go.Proofs.YtjoceidiioppiaaGreatDoor.sto
namespace Go.Am
open Go.Am Go.Mdl Go.Sto Go.Shelf
section
variable {tb:aN}
variable {t:T I}{n:Nat}{A A':Mem}{v:I}
def W.Gh{f:bM}{ps:Array Tmp}{a b:aH}{d:List Nat}{K:Ex->St->Prop}{fid:FuncId}{first capt:List I}{r:jd}{e:Ex}
 (hf:ev t f=.ok (.func (.func fid) ⟨first⟩ ⟨capt⟩))
 (hc:az tb fid (first++[.func (.yield (A.next+1)) ⟨[]⟩ ⟨[]⟩]++capt) ((A.alloc .defd).alloc (.loop (mS t n ps.toList a b A.next))) v A')
 (hr:A'.get (A.next+1)=U (.loop r))(hst:r.state≠.busy)(hp:(r.pending=V/\e=.nrm)\/(r.pending=U .ret/\e=.ret))
 (k:K e ⟨t,n,A.next::d,A'.set (A.next+1) (.loop {r with state:=.exhausted}),V⟩):W tb (.rangeFunc f ps a b) ⟨t,n,d,A,V⟩ K:=by
 obtain⟨g,hg⟩:=hc;refine⟨_,_,⟨g+1,λ m=>?_⟩,k⟩;rw[show m+(g+1)=(m+g)+1 by omega,Jg];have h1:=hg (m+g) (by omega);unfold xc;simp only[hf,R.aW];have hn:(A.alloc .defd).next=A.next+1:=aG _ _
 rw[hn];have hcal:∀g':Nat->Option Ob,tw tb g' (.func (.func fid) ⟨first⟩ ⟨capt⟩) [.func (.yield (A.next+1)) ⟨[]⟩ ⟨[]⟩]=.ok (.fn fid (first++[.func (.yield (A.next+1)) ⟨[]⟩ ⟨[]⟩]++capt)):=λ _=>rfl
 rw[hcal,R.aW];unfold mS at h1;rw[h1,R.aW];simp only[hr];rcases hp with⟨hp,rfl⟩|⟨hp,rfl⟩
 all_goals
  simp only[hp];cases hs:r.state with
  |busy=>exact aU hs hst
  |_=>rfl
variable {k:Nat}
def W.Uo{c:aH}{ro:Option Nat}{K:Ex->St->Prop}(N:Nat)(P:Nat->T I->Mem->List Nat->Prop)
 (hb:∀k t A d,k<=N->P k t A d->W tb c ⟨t,n,d,A,ro⟩ λ e s'=>match e with
  |.nrm=>k<N/\∃t' A' d',s'=⟨t',n,d',A',ro⟩/\P (k+1) t' A' d'
  |e=>K e s'){d:List Nat}(hk:k<=N)(hp:P k t A d):W tb (.loop c) ⟨t,n,d,A,ro⟩ K:=by
 have main:∀j k t A d,k+j=N->P k t A d->W tb (.loop c) ⟨t,n,d,A,ro⟩ K:=by
  intro j
  induction j with
  |zero=>
   intro k t A d hk hp;refine W.round ((hb k t A d (by omega) hp).mono λ e s' h=>?_);cases e with
   |nrm=>exact aU h.1 (by omega)
   |_=>exact h
  |succ j ih=>
   intro k t A d hk hp;refine W.round ((hb k t A d (by omega) hp).mono λ e s' h=>?_);cases e with
   |nrm=>
    obtain⟨_,t',A',d',rfl,h'⟩:=h;exact ih (k+1) t' A' d' (by omega) h'
   |_=>exact h
 exact main (N-k) k t A d (by omega) hp
def qda{l:Nat}{args:List I}{r:jd}{Q:Mem->Prop}(hl:A.get l=U (.loop r))(ht:setArgs r.n r.params args r.tmps=.ok t)
 (h:W tb r.assign ⟨t,r.n,[],A,U l⟩ λ e s1=>e=.nrm/\∃r1,s1.m.get l=U (.loop r1)/\r1.state=.ready/\W tb r.body ⟨s1.t,s1.n,s1.d,s1.m.set l (.loop {r1 with state:=.busy}),s1.ro⟩ λ e s2=>e=.ret/\s2.d=[]/\∃r2,s2.m.get l=U (.loop r2)/\Q (s2.m.set l (.loop {r2 with state:=.done,pending:=U .ret}))):
 ∃A',(∃g,∀M,g<=M->cE tb (exec tb M) (.round l args) A=.ok (.val (.bool ag) A'))/\Q A':=by
 obtain⟨e,s1,⟨f1,h1⟩,rfl,r1,hr1,hst1,e2,s2,⟨f2,h2⟩,rfl,hd,r2,hr2,hQ⟩:=h;refine⟨_,⟨f1+f2,λ M hM=>?_⟩,hQ⟩;show uV (exec tb M) l args A=_;unfold uV;have e1:=h1 (M-f1);rw[xX (by omega)]at e1;have e2:=h2 (M-f2);rw[xX (by omega)]at e2;simp only[hl,ht,R.aW,e1,hr1,hst1,e2,hd,hr2]
theorem y8:∀(ds:List Nat) (A:Mem),ds.Nodup->(∀d∈ds,A.get d=U .defd)->∃A',ir ds A=.ok A'/\A'.next=A.next/\∀z,z∉ds->A'.get z=A.get z
 | [],A,_,_=>⟨A,rfl,rfl,λ _ _=>rfl⟩
 |d::ds,A,hn,h=>by
  obtain⟨h1,h2⟩:=vw.1 hn;obtain⟨A',e1,e2,e3⟩:=y8 ds (A.set d .dead) h2 λ x hx=>by rw[cN,ax (by rintro rfl;exact h1 hx)];exact h x (cV _ hx)
  refine⟨A',?_,by rw[e2];exact cU _ _ _,λ z hz=>?_⟩
  .show(match A.get d with|some .defd=>ir ds (A.set d .dead)|_=>.no 240)=_;rw[h d cJ];exact e1
  .rw[cG,not_or]at hz;rw[e3 z hz.2,cN,ax hz.1]
end
end Go.Am
namespace Go.Proofs.YtjoceidiioppiaaGreatDoor.sto
open Go.Am Go.Mdl Go.Sto Go.Shelf
def sm:O.aB 91=U (.slice 9):=by kernel_rfl
def Tj:bk O 91=.ok 1:=by kernel_rfl
def qi1:dj O 91=.ok (.slice V 0 0):=by kernel_rfl
def z9:bk O 9=.ok 1:=by kernel_rfl
def qiO:fu O 9=.ok (1,[.string .empty]):=by kernel_rfl
def qhY:∃i,O.ty.get 9=U i/\0<i.bytes/\i.bytes<=65536:=by
 have h:(O.ty.get 9).map (λ i=>aO 0 i.bytes&&av i.bytes 65536)=U ae:=by kernel_rfl
 cases hq:O.ty.get 9 with
 |none=>rw[hq]at h;cases h
 |some i=>
  rw[hq]at h;simp only[gX,fg,dW,bZ]at h;exact⟨i,rfl,h.1,gK h.2⟩
variable {w:List UInt8}
def zV:eO O 91 1 [(0,ai w)]=.ok (af 9 [ai w],.dZ 1 2):=by kernel_rfl
abbrev wa (A:Mem) (b:Nat) (l:List (List UInt8)) (x:I):Prop:=aq A 9 1 b (l.map λ n=>[ai n]) x
variable {A:Mem}{m:Nat}
def qeL:az O 127 [.map (U m)] A (.func (.func 183) ⟨[]⟩ ⟨[pV A.next]⟩) (A.alloc (af 199 [.map (U m)])):=by
 simp only[pV];refine cq 60 (aD Tryz.func127) (by kernel_rfl) λ M=>?_
 simp(disch:=omega)only[Tryz.f127,Aq,aa,XX,Ac,ki]<;>rfl
def qeN{x:I}(hx:x.cells.toList=[x]):az O 128 [x] A (.func (.func 184) ⟨[]⟩ ⟨[pV A.next]⟩) (A.alloc (af 91 [x])):=by
 simp only[pV];refine cq 60 (aD Tryz.func128) (by kernel_rfl) λ M=>?_
 simp(disch:=omega)only[Tryz.f128,Aq,aa,hx,Ac,ki]<;>rfl
variable {B:Mem}{n b:Nat}{ls:List (List I)}
def aq.Mu{e:au}{x:I}(h:aq A e n b ls x)(k:A.next<=B.next)(hz:x=.slice V 0 0\/B.get b=A.get b):aq B e n b ls x:=by
 rcases hz with rfl|hz
 .rcases h with h|⟨_,_,h,-⟩
  .exact .inl h
  .cases h
 .exact h.same k λ _=>hz
def Ct:=cu BR
def Iy:aH:=sub Ct [1,0,0]
def Xc:BR.body=U (.seq (sub Ct [0]) (.block 0 (.loop Iy))):=by kernel_rfl
def qfS{q lp:Nat}{x:I}{ls:List (List UInt8)}{Inv:Nat->Mem->Prop}(v1:VB B 91 q (.var 1) [x])(hx:wa B b ls x)(hl:Z ls<1000000)(hk:∀j D,Inv j D->B.next<=D.next/\D.get q=B.get q/\D.get b=B.get b)
 (hc:∀j n D,ls[j]?=U n->Inv j D->∃E,(∃g,∀M,g<=M->cE O (exec O M) (.round lp [ai n]) D=.ok (.val (.bool ae) E))/\Inv (j+1) E)(hI:Inv 0 B):
 ∃v C,az O 184 [.func (.yield lp) ⟨[]⟩ ⟨[]⟩,pV q] B v C/\Inv (Z ls) C:=by
 refine cZ (aD Tryz.func184) Xc (by kernel_rfl) ?_;have l1:=v1.l0 sm rfl;have len:=aq.len hx sm;rw[bc]at len;simp only[pV];apply W.q
 .intro M;simp(disch:=decide+kernel)only[Ct,BR,Aq,aa,l1,len];rfl
 apply W.block;refine W.up (Z ls) (λ j t D=>Inv j D/\Sl t [(0,.func (.yield lp) ⟨[]⟩ ⟨[]⟩),(5,x),(6,iN (Z ls)),(7,.int .i64 j)]) ?_ (a8 _) ⟨hI,?_⟩
 .rintro j t D hj ⟨hI,g0,g5,g6,g7,-⟩;by_cases hlt:j<Z ls
  .have hsj:=aZ hlt;obtain⟨d1,-,d3⟩:=hk j D hI;have hxD:=hx.same d1 λ _=>d3
   have j1:=aq.idx (kd:=.i64) hxD sm z9 (by rw[bc];exact hlt);have j2:=aq.load (j:=0) hxD u9 rfl (show(ls.map λ n=>[ai n])[j]?=U [ai ls[j]] by rw[dN,hsj];rfl) rfl (by omega);rw[eo]at j2;obtain⟨E,⟨g,hg⟩,hE⟩:=hc j _ D hsj hI;apply W.cC (g) 20
   .intro M hM;simp(disch:=first|decide+kernel|omega)only[Iy,Ct,BR,Aq,aa,g0,g5,g6,g7,hlt,j1,j2,hg];rfl
   refine⟨hlt,_,E,rfl,hE,?_⟩;simp only[Sq,aa,ak,g0,g5,g6]
  .have e:j=Z ls:=by omega
   subst e;apply W.run 20
   .intro M;simp(disch:=decide+kernel)only[Iy,Ct,BR,Aq,aa,g6,g7];rfl
   exact⟨by simp,rfl,_,(by simp only[BR,Aq,aa]<;>rfl),hI⟩
 .simp only[Sq,aa,ak]
def po:=cu vZ
def ES:aH:=sub po [1,1,1,0,1,0,0]
def ET:aH:=sub po [1,1,1,0,1,0,1]
def XG:vZ.body=U (.seq (sub po [0]) (.seq (sub po [1,0]) (.seq (sub po [1,1,0]) (.seq (.seq (sub po [1,1,1,0,0]) (.block 0 (.rangeFunc (.tmp 14) #[15] ES ET))) (.seq (sub po [1,1,1,1,0]) (sub po [1,1,1,1,1])))))):=by kernel_rfl
theorem OL:∀l:List (List UInt8),(l.map λ n=>[ai n]).flatten=l.map ai
 | []=>rfl
 |n::l=>by rw[lK,vq,OL l];rfl
def kX(t:T I)(d:Nat):jd:=mS t 21 [15] ES ET d
def kK(ns:List (List UInt8)):Prop:=ns.Nodup/\Z ns<1000/\∀n∈ns,Z n<1000
variable {p:Nat}{y:I}{ns:List (List UInt8)}
def qeO{a x:I}(h:VB A 201 p (.var 4) [a,.map (U m),x,y])(hm:m<A.next/\A.get m=U (.map (dL ns 0) (Z ns)))(hn:kK ns):
 ∃v A',az O 67 [pV p] A v A'/\(∃b,wa A' b (oc ns) v)/\Kp A A':=by
 refine pS (aD Tryz.func67) XG (by rw[Tryz.ntmps67];simp) (by kernel_rfl) (by kernel_rfl) ?_;generalize hk:A.next=k
 have sl:(oc ns).length=Z ns:=List.length_mergeSort ns;have hlen:=hn.2.1;have kB:=Kp.alloc A (af 91 [.slice V 0 0]);have vB:=aQ A 91 [.slice V 0 0];have nB:(A.alloc (af 91 [.slice V 0 0])).next=k+1:=by rw[aG,hk]
 rw[hk]at vB;simp only[pV];apply W.q
 .intro M;simp(disch:=omega)only[po,vZ,Aq,aa,qi1,hk];rfl
 generalize A.alloc (af 91 [.slice V 0 0])=B at*;have lm:=(h.kp kB).l1 u6 rfl;obtain⟨g1,h1⟩:=qeL;have kC:=Kp.alloc B (af 199 [.map (U m)]);have vC:=aQ B 199 [.map (U m)];have nC:(B.alloc (af 199 [.map (U m)])).next=k+2:=by rw[aG,nB]
 rw[nB]at vC;generalize B.alloc (af 199 [.map (U m)])=C at*;have hmC:C.get m=U (.map (dL ns 0) (Z ns)):=by rw[(kB.trans kC).2 m hm.1];exact hm.2
 have sat:vR [.func (.func 183) ⟨[]⟩ ⟨[pw (k+1) 0]⟩] C ns:=⟨k+1,m,rfl,vC,hmC,hn.1,hn.2⟩;have h2:=λ ih=>qaJ (ih:=ih) sat
 obtain⟨z,ob,e2,hS⟩:∃z ob,sd ns C=(z,C.alloc ob)/\wa (C.alloc ob) (k+2) (oc ns) z:=by
  unfold sd;by_cases h0:ns=[]
  .rw[aA h0];exact⟨_,_,rfl,.inl ⟨rfl,by rw[eN.1 (sl.trans (by rw[h0];rfl))];rfl⟩⟩
  .rw[ax h0,nC];exact⟨_,_,rfl,.inr ⟨.row,cP (Z ns) 1,by rw[bc,sl],by rw[aG];omega,⟨_,by rw[<-nC];exact de _ _,λ j hj=>by
    rw[OL]at hj⊢;rw[T.oK,aA (by omega)];rfl⟩,λ l hl=>by
    obtain⟨n,-,rfl⟩:=eH.1 hl;rfl,.inr ⟨by rw[bc,sl],.inl rfl⟩⟩⟩
 rw[e2]at h2;have kD:=Kp.alloc C ob;have nD:(C.alloc ob).next=k+3:=by rw[aG,nC]
 simp only[pV]at h1;rw[nB]at h1;apply W.ic (g1)
 .intro M hM _;simp(disch:=first|decide+kernel|omega)only[po,vZ,Aq,aa,fm,Ab,eY,bA,br,Ad,lm,h1,h2];rfl
 clear e2;generalize C.alloc ob=D at*;obtain⟨g3,h3⟩:=qeN (aq.dQ hS).1;have kE:=Kp.alloc D (af 91 [z]);have vE:=aQ D 91 [z];have nE:(D.alloc (af 91 [z])).next=k+4:=by rw[aG,nD]
 simp only[pV]at h3;rw[nD]at h3 vE;apply W.seq;apply W.qG (g3)
 .intro M hM;simp(disch:=omega)only[po,vZ,Aq,aa,h3];rfl
 generalize D.alloc (af 91 [z])=E at*;apply W.block;generalize ht0:T.set _ _ _=t0;have hsl:Sl t0 [(2,pV k),(14,.func (.func 184) ⟨[]⟩ ⟨[pV (k+3)]⟩)]:=by
  rw[<-ht0];simp only[Sq,aa,ak,pV]
 clear ht0;obtain⟨s2,s14,-⟩:=hsl;have nJ1:(E.alloc .defd).next=k+5:=by rw[aG,nE]
 have kJ:=(Kp.alloc E .defd).trans (Kp.alloc (E.alloc .defd) (.loop (kX t0 (k+4))));have nJ:((E.alloc .defd).alloc (.loop (kX t0 (k+4)))).next=k+6:=by rw[aG,nJ1]
 have jL:((E.alloc .defd).alloc (.loop (kX t0 (k+4)))).get (k+5)=U (.loop (kX t0 (k+4))):=by have:=de (E.alloc .defd) (.loop (kX t0 (k+4)));rwa[nJ1]at this
 have jM:((E.alloc .defd).alloc (.loop (kX t0 (k+4)))).get (k+4)=U .defd:=by rw[(Kp.alloc (E.alloc .defd) _).2 _ (by omega),<-nE];exact de E .defd
 generalize hJ:(E.alloc .defd).alloc (.loop (kX t0 (k+4)))=J at kJ nJ jL jM;have kDJ:=kE.trans kJ;have hSJ:=hS.same kDJ.1 (kDJ.2 _);have vBJ:=(((vB.kp kC).kp kD).kp kE).kp kJ;obtain⟨ti,t1,t2,t3⟩:=qhY;obtain⟨v,M,hM,hI⟩:=qfS (Inv:=λ j D=>(J.next<=D.next/\∀z,z<J.next->z≠k->z≠k+5->D.get z=J.get z)/\D.get (k+5)=U (.loop (kX t0 (k+4)))/\∃y b,VB D 91 k (.var 1) [y]/\wa D b ((oc ns).take j) y/\(b<k+6->y=.slice V 0 0)) (vE.kp kJ) hSJ (by omega) (λ j D ⟨⟨d1,d2⟩,_⟩=>⟨d1,d2 _ (by omega) (by omega) (by omega),d2 _ (by omega) (by omega) (by omega)⟩) (λ j n D hj ⟨⟨d1,d2⟩,d3,y,b,d4,d5,d6⟩=>by
  generalize hF:D.set (k+5) (.loop {kX t0 (k+4)with state:=.busy})=F;have nF:F.next=D.next:=by rw[<-hF];exact cU _ _ _
  have fF:∀z,z≠k+5->F.get z=D.get z:=λ z hz=>by rw[<-hF,cN,ax hz]
  have hLF:F.get (k+5)=U (.loop {kX t0 (k+4)with state:=.busy}):=by rw[<-hF,cN,aA rfl]
  have lF:aj O F.get 91 (pw k 0)=.ok y:=dg sm rfl (d4.2.same (fF k (by omega))) rfl;have kG:=Kp.alloc F (af 9 [ai n]);have d5F:wa F b ((oc ns).take j) y:=aq.Mu d5 (by omega) (by
   by_cases hb:b<k+6
   .exact .inl (d6 hb)
   .exact .inr (fF b (by omega)))
  obtain⟨y',G,happ,hs3,hn3,hf3⟩:=(d5F.same kG.1 (kG.2 b)).append sm sm qiO t1 t2 t3 (by omega) (by omega) (by rw[bc,df];omega) (de F _) rfl (by simp[ai,bS]);rw[aG]at hs3 hn3 hf3;have fG:∀z,z<k+6->G.get z=F.get z:=λ z hz=>by rw[hf3 z (λ e=>d6 (by omega)) (by omega),kG.2 z (by omega)]
  obtain⟨H,sH,vH,nH,fH⟩:=db (o:=0) (v:=y') Tj (d4.2.same (by rw[fG k (by omega),fF k (by omega)])) (by simp) (aq.dQ hs3).1 (aq.dQ hs3).2;have bs:=zV (w:=n);have hq:∃C,(∃g,∀N,g<=N->cE O (exec O N) (.round (k+5) [ai n]) D=.ok (.val (.bool ae) C))/\C=H.set (k+5) (.loop (kX t0 (k+4))):=by
   refine Dj d3 (t:=t0.set 15 (ai n)) rfl ?_;show W O ES ⟨_,21,[],D,U (k+5)⟩ _;simp only[pV]at s2;apply W.run 20
   .intro M;simp(disch:=first|decide+kernel|omega)only[ES,po,vZ,Aq,aa];rfl
   refine⟨rfl,_,d3,rfl,?_⟩;show W O ET ⟨_,21,[],D.set (k+5) (.loop {kX t0 (k+4)with state:=.busy}),U (k+5)⟩ _;rw[hF];apply W.run 20
   .intro M;simp(disch:=first|decide+kernel|omega)only[ET,po,vZ,Aq,aa,s2,lF,bs,happ,sH];rfl
   exact⟨rfl,rfl,_,by rw[fH _ (by omega),fG _ (by omega)];exact hLF,rfl⟩
  obtain⟨C,hc,rfl⟩:=hq;have fr:∀z,z≠k+5->(H.set (k+5) (.loop (kX t0 (k+4)))).get z=H.get z:=λ z hz=>by rw[cN,ax hz]
  have nr:(H.set (k+5) (.loop (kX t0 (k+4)))).next=H.next:=cU _ _ _
  refine⟨_,hc,⟨by omega,λ z hz h1 h2=>by rw[fr z h2,fH z h1,fG z (by omega),fF z h2,d2 z hz h1 h2]⟩,by rw[cN,aA rfl],y',F.next+1,⟨by omega,vH.same (fr k (by omega))⟩,?_,λ h=>by omega⟩;have e:=hs3.same (A':=H.set (k+5) (.loop (kX t0 (k+4)))) (by omega) λ _=>by rw[fr _ (by omega),fH _ (by omega)]
  rw[List.take_add_one,hj];show aq _ _ _ _ (((oc ns).take j++[n]).map _) _;rw[gg];exact e) ⟨⟨aI _,λ _ _ _ _=>rfl⟩,jL,.slice V 0 0,k+6,vBJ,aq.nil _ _ _ _,λ h=>by omega⟩
 rw[dU]at hI;obtain⟨⟨i1,i2⟩,i3,y,b,i4,i5,i6⟩:=hI;refine W.AL (fid:=184) (first:=[]) (capt:=[pV (k+3)]) (v:=v) (A':=M) (r:=kX t0 (k+4)) (by simp only[ev,s14]) (by
  rw[nE];show az O 184 _ ((E.alloc .defd).alloc (.loop (kX t0 (k+4)))) v M;rw[hJ];exact hM) (by rw[nE];exact i3) (by simp[kX,mS]) rfl ?_
 rw[nE];generalize hN:M.set (k+5) (.loop {kX t0 (k+4)with state:=.exhausted})=N;have nN:N.next=M.next:=by rw[<-hN];exact cU _ _ _
 have fN:∀z,z≠k+5->N.get z=M.get z:=λ z hz=>by rw[<-hN,cN,ax hz]
 have lN:aj O N.get 91 (pw k 0)=.ok y:=dg sm rfl (i4.2.same (fN k (by omega))) rfl;obtain⟨qi5,sO,vO,nO,fO⟩:=db (tb:=O) (t:=91) (o:=0) (v:=y) Tj (i4.2.same (fN k (by omega))) (by simp) (aq.dQ i5).1 (aq.dQ i5).2;obtain⟨Q,m1,m2,m3⟩:=y8 [k+4] qi5 (by simp) (λ d hd=>by
  rw[dX.1 hd,fO _ (by omega),fN _ (by omega),i2 _ (by omega) (by omega) (by omega)];exact jM)
 have lQ:aj O Q.get 91 (pw k 0)=.ok y:=dg sm rfl (vO.same (m3 k (by simp))) rfl;simp only[pV]at s2;apply W.run 40
 .intro M;simp(disch:=omega)only[po,vZ,Aq,aa,s2,lN,sO];rfl
 refine⟨.inr rfl,Q,_,m1,(by simp only[vZ,s2,lQ,Aq,aa]<;>rfl),⟨b,?_⟩,by omega,λ z hz=>?_⟩
 .refine aq.Mu i5 (by omega) ?_;by_cases hb:b<k+6
  .exact .inl (i6 hb)
  .exact .inr (by rw[m3 b (by simp;omega),fO b (by omega),fN b (by omega)])
 .rw[m3 z (by simp;omega),fO z (by omega),fN z (by omega),i2 z (by omega) (by omega) (by omega),kDJ.2 z (by omega),kD.2 z (by omega),kC.2 z (by omega),kB.2 z (by omega)]
variable {v:I}
def H3(hv:v.cells.toList=[v]):eO O 133 1 [(0,v)]=.ok (af 163 [v],.dZ 1 2):=by
 have hz:fu O 163=.ok (1,[.slice V 0 0]):=by kernel_rfl
 unfold eO;simp only[(mW t133).1,hz,R.aW,n_,wT,hv];rfl
def V':eO O 133 0 []=.ok (af 163 [],.dZ 0 0):=by kernel_rfl
def SQ:bk O 133=.ok 1:=by kernel_rfl
section
variable {A:Mem}{f bw la:Nat}{xw x:I}{xs:List I}(hV:VB A 135 f (.var 2) [xw,.int .i64 la])(hS:aq A 163 1 bw ((xs++[x]).map λ v=>[v]) xw)(hk:Z xs<900000)
include hV hS hk
variable {x':I}
def qfa(h1:∀v∈xs++[x],bS v=ae)(hx':x'.cells.toList=[x']/\bS x'=ae):
 ∃B xw' bw',az O 163 [pV f,x'] A (.tuple ⟨[]⟩) B/\VB B 135 f (.var 2) [xw',.int .i64 la]/\aq B 163 1 bw' (((xs++[x])++[x']).map λ v=>[v]) xw'/\A.next<=B.next/\∀z,z<A.next->z≠f->B.get z=A.get z:=by
 obtain⟨x1,D1,b1,ap1,s1,n1,nb1,k1,-⟩:=Ld t133 hS (by simp;omega) λ l hl v hv=>by
  obtain⟨y,hy,rfl⟩:=eH.1 hl;rw[dX.1 hv];exact h1 y hy
 obtain⟨x2,D2,ap2,s2,n2,f2⟩:=Gx t133 s1 (by simp;omega) rfl (λ v hv=>by rw[dX.1 hv];exact hx'.2);have l0:aj O (A.alloc (af 163 [])).get 133 (pw f 0)=.ok xw:=(hV.kp (Kp.alloc A _)).ld rfl (mW t133).1 rfl;have hf:=hV.1;have hfb:f≠b1:=by omega
 have V2:VB D2 135 f (.var 2) [xw,.int .i64 la]:=⟨by omega,hV.2.same (by rw[f2 f hfb (by omega),k1.2 f hf])⟩;obtain⟨E,sE,vE,nE,fE⟩:=db (o:=0) SQ V2.2 (by simp) (aq.dQ s2).1 (aq.dQ s2).2;have b0:=V';have bb:=H3 hx'.1;refine⟨E,x2,D1.next+1,?_,⟨by omega,vE⟩,?_,by omega,λ z hz hzf=>by rw[fE z hzf,f2 z (by omega) (by omega),k1.2 z hz]⟩
 .simp only[pV];refine cq 60 (aD Tryz.func163) (by kernel_rfl) λ M=>?_
  simp(disch:=decide+kernel)only[Tryz.f163,Aq,aa,bA,br,Fs,b0,l0,ap1,bb,ap2,sE,cQ]<;>rfl
 .have:=s2.same (by omega) λ _=>fE _ (by omega)
  rw[gg];exact this
def qfD(hx:x.cells.toList=[x]/\bS x=ae):∃B xw' bw',az O 103 [pV f,iN (Z xs)] A (.tuple ⟨[]⟩) B/\VB B 135 f (.var 2) [xw',.int .i64 la]/\aq B 163 1 bw' (([]++[x]).map λ v=>[v]) xw'/\A.next<=B.next/\∀z,z<A.next->z≠f->B.get z=A.get z:=by
 obtain⟨g,hg⟩:=SI hV hS (by omega);have m1:c_ O .min [3,3] [iN (Z xs),iN (Z xs)]=.ok (iN (Z xs)):=by rw[Am.yS,Nat.min_self]
 have m2:c_ O .max [3,3] [iN 0,iN (Z xs)]=.ok (iN (Z xs)):=by rw[Am.max_i64,ub (a8 _)]
 have ix:=xx t133 hS (i:=Z xs) (by simp);have l0:aj O A.get 133 (pw f 0)=.ok xw:=hV.ld rfl (mW t133).1 rfl;obtain⟨d,hd1,hd2⟩:=Ub;have lx:=aq.load (i:=Z xs) (j:=0) (l:=[x]) hS hd1 hd2 (by simp) rfl (by omega);rw[eo]at lx;have k1:=Kp.alloc A (af 163 [x]);have v1:=aQ A 163 [x];have n1:=aG A (af 163 [x]);have hf:=hV.1;obtain⟨E,sE,vE,nE,fE⟩:=db (o:=0) (v:=.slice (U ⟨A.next,0,V⟩) 1 2) SQ (hV.kp k1).2 (by simp) rfl rfl;have bb:=H3 hx.1;have hS':aq E 163 1 A.next (([]++[x]).map λ v=>[v]) (.slice (U ⟨A.next,0,V⟩) 1 2):=.inr ⟨.var 1,2,rfl,by omega,v1.2.same (fE _ (by omega)),λ l hl=>by rw[dX.1 hl];rfl,.inl rfl⟩
 refine⟨E,_,A.next,?_,⟨by omega,vE⟩,hS',by omega,λ z hz hzf=>by rw[fE z hzf,k1.2 z hz]⟩;simp only[pV]at*;refine bX (g) 60 (aD Tryz.func103) (by kernel_rfl) λ M hM=>?_
 simp(disch:=first|decide+kernel|omega)only[Tryz.f103,Aq,aa,hg,m1,m2,bA,br,Fs,l0,ix,lx,bb,sE,cQ]<;>rfl
end
variable {k:Nat}
def qfc{A:Mem}{f la:Nat}{l:List (List UInt8×Nat)}(h:rz A f l k la)(hk:k<900000)(hla:la<900000)(h0:∀y∈l,y.2≠0)(hl:Z l<400000)(hw:0<Z w/\Z w<=64)(hn:qU l w=0):
 ∃B,az O 99 [pV f,ai w] A (.tuple ⟨[iN (la+1),iN 0]⟩) B/\rz B f (tI l (w,la+1)) (k+1) (la+1)/\A.next<=B.next/\∀z,z<A.next->z≠f->B.get z=A.get z:=by
 obtain⟨g1,hg1⟩:=KX h (by omega) h0 (by omega);rw[hn]at hg1;obtain⟨g2,hg2⟩:=SG (A:=A) hw;obtain⟨xw,bw,xs,x,hV,hS,rfl,h1,hN⟩:=h;have l1:=hV.l1 u3 rfl;have a1:a_ .add .i64 ((la:Nat):Int) ((1:Nat):Int)=.ok (iN (la+1)):=e_ (ct (by omega));obtain⟨B,sB,vB,nB,fB⟩:=db (t:=3) (o:=1) (v:=iN (la+1)) sa hV.2 (by simp) rfl rfl;have hf:=hV.1;have VB':VB B 135 f (.var 2) [xw,iN (la+1)]:=⟨by omega,vB⟩;have K:=KT.oN hV (by omega) λ z _=>fB z
 have hSB:=K.iB hS (by decide);obtain⟨bn,hNb⟩:=hN;have hNB:oV B l x:=⟨bn,K.iB hNb (by decide)⟩;obtain⟨g3,hg3⟩:=KY VB' hSB (by omega);have l1B:aj O B.get 3 (pw f 1)=.ok (iN (la+1)):=VB'.ld rfl u3 rfl;obtain⟨v,C,⟨g4,hg4⟩,hNC,kC⟩:=qfp (e:=(w,la+1)) hNB hl;obtain⟨E,xw',bw',⟨g5,hg5⟩,V5,S5,n5,f5⟩:=qfa (VB'.kp kC) (hSB.same kC.1 (kC.2 bw)) hk (λ v hv=>by
  rcases mw.1 hv with h|h
  .exact h1 v h
  .rw[dX.1 h];exact hNB.one.2) hNC.one
 have l1E:aj O E.get 3 (pw f 1)=.ok (iN (la+1)):=V5.ld rfl u3 rfl;have bd:eu O 166 [(0,ai w),(1,iN (la+1))]=.ok (.agg ⟨jQ (w,la+1)⟩):=by kernel_rfl
 have sn:=pE .i64 (la+1) rfl;have kC1:=kC.1;obtain⟨bm,hm⟩:=hNC;have hmE:oV E (tI l (w,la+1)) v:=⟨bm,(KT.oN (VB'.kp kC) n5 f5).iB hm (by decide)⟩;refine⟨E,?_,⟨xw',bw',xs++[x],v,V5,S5,by simp,λ y hy=>?_,hmE⟩,by omega,λ z hz hzf=>by rw[f5 z (by omega) hzf,kC.2 z (by omega),fB z hzf]⟩
 .simp only[pV]at*;refine bX (g1+g2+g3+g4+g5) 60 (aD Tryz.func99) (by kernel_rfl) λ M hM=>?_
  simp(config:={maxSteps:=4000000})(disch:=first|decide+kernel|omega|simp only[Wq,aa])only[Tryz.f99,Aq,av,reduceIte,aa,ak,hg1,c7,dc,hg2,bA,br,YW,l1,a1,sB,hg3,l1B,bd,hg4,hg5,l1E,sn,Fq,bQ [(7,2)]]<;>rfl
 .rcases mw.1 hy with h|h
  .exact h1 y h
  .rw[dX.1 h];exact hNB.one.2
def qfE{A:Mem}{f la:Nat}{l:List (List UInt8×Nat)}(h:rz A f l k la)(hk:k<900000)(h0:∀y∈l,y.2≠0)(hl:Z l<400000)(hw:0<Z w/\Z w<=64)(hn:qU l w≠0):
 az O 99 [pV f,ai w] A (.tuple ⟨[iN 0,iN 8]⟩) A:=by
 obtain⟨g1,hg1⟩:=KX h (by omega) h0 (by omega);rw[decide_eq_true hn]at hg1;obtain⟨g2,hg2⟩:=SG (A:=A) hw;simp only[pV]at*;refine bX (g1+g2) 60 (aD Tryz.func99) (by kernel_rfl) λ M hM=>?_
 simp(disch:=omega)only[Tryz.f99,Aq,aa,hg1,c7,dc,hg2]<;>rfl
def p9:=cu vY
def IN:aH:=sub p9 [1,1,1,0,1,0,0]
def XB:vY.body=U (.seq (sub p9 [0]) (.seq (sub p9 [1,0]) (.seq (sub p9 [1,1,0]) (.seq (.seq (sub p9 [1,1,1,0,0]) (.block 0 (.loop IN))) (.seq (sub p9 [1,1,1,1,0]) (sub p9 [1,1,1,1,1])))))):=by kernel_rfl
def qfx{A:Mem}{f la:Nat}{l:List (List UInt8×Nat)}(h:rz A f l k la)(hk:k<900000)(hl:Z l<400000):
 ∃v A',az O 55 [pV f] A v A'/\(∃b,wa A' b (l.map (·.1)) v)/\Kp A A':=by
 obtain⟨xw,bw,xs,x,hV,hS,rfl,h1,hN⟩:=h;obtain⟨g,hg⟩:=KY hV hS (by omega);have hlen:=hN.len;refine cZ (aD Tryz.func55) XB (by kernel_rfl) ?_;simp only[pV]at*;apply W.q2
 .intro M _;simp(disch:=omega)only[p9,vY,Aq,aa];rfl
 apply W.qG (g)
 .intro M hM;simp(disch:=omega)only[p9,vY,Aq,aa,hg];rfl
 apply W.seq;apply W.q
 .intro M;simp(disch:=omega)only[p9,vY,Aq,aa];rfl
 apply W.block;refine W.up (Z l) (λ i t C=>∃b y,oW 9 1 A C b ((l.take i).map λ z=>[ai z.1]) y/\Sl t [(3,y),(4,x),(5,.int .i64 i)]) ?_ (a8 _) ⟨_,_,oW.nil (Kp.refl _),?_⟩
 .rintro i t C hi ⟨b,y,hO,g3,g4,g5,-⟩;by_cases hlt:i<Z l
  .have he:=aZ hlt;have htk:=d_ hlt;obtain⟨p,q,i1,i2,i3,i4⟩:=(hN.kp hO.2.1).at he;generalize l[i]=z at*;obtain⟨y2,D2,happ,hO2⟩:=hO.push t91 [ai z.1] (by rw[bc,df];omega) rfl (λ v hv=>by rw[dX.1 hv];rfl);have bs:=zV (w:=z.1);apply W.run 20
   .intro M;simp(disch:=first|decide+kernel|omega)only[IN,p9,vY,Aq,aa,g3,g4,g5,hlen,hlt,i1,yJ,i3,bs,happ];rfl
   refine⟨hlt,_,_,rfl,_,y2,by rw[htk,gg];exact hO2,?_⟩;simp only[Sq,aa,ak,g4]
  .have e:i=Z l:=by omega
   subst e;rw[dU]at hO;apply W.run 20
   .intro M;simp(disch:=decide+kernel)only[IN,p9,vY,Aq,aa,g4,g5,hlen,hlt];rfl
   apply W.run 40
   .intro M;simp(disch:=omega)only[p9,vY,Aq,aa,g3];rfl
   refine⟨by simp,rfl,_,(by simp only[vY,Aq,aa]<;>rfl),⟨b,?_⟩,hO.2.1⟩;have:=hO.1;show aq _ 9 1 b ((l.map (·.1)).map λ w=>[ai w]) y;rw[xR];exact this
 .simp only[Sq,aa,ak]
def qfn{A:Mem}:∃f A',az O 27 [] A (pV f) A'/\rz A' f [] 0 0/\Kp A A'/\A.next<=f:=by
 have bb:=H3 (v:=.slice V 0 0) rfl;have bd:eu O 135 [(0,.slice (U ⟨A.next,0,V⟩) 1 2)]=.ok (.agg ⟨[.slice (U ⟨A.next,0,V⟩) 1 2,iN 0]⟩):=by kernel_rfl
 have k1:=Kp.alloc A (af 163 [.slice V 0 0]);have v1:=aQ A 163 [.slice V 0 0];have n1:=aG A (af 163 [.slice V 0 0]);have k2:=Kp.alloc (A.alloc (af 163 [.slice V 0 0])) (af 135 [.slice (U ⟨A.next,0,V⟩) 1 2,iN 0]);have v2:=aQ (A.alloc (af 163 [.slice V 0 0])) 135 [.slice (U ⟨A.next,0,V⟩) 1 2,iN 0];have n2:((A.alloc (af 163 [.slice V 0 0])).alloc (af 135 [.slice (U ⟨A.next,0,V⟩) 1 2,iN 0])).next=A.next+2:=by rw[aG,n1]
 rw[n1]at v2;refine⟨A.next+1,_,?_,⟨_,A.next,[],.slice V 0 0,v2,.inr ⟨.var 1,2,rfl,by omega,(v1.kp k2).2,λ l hl=>by rw[dX.1 hl];rfl,.inl rfl⟩,rfl,λ v hv=>aU hv eC,⟨0,aq.nil _ _ _ _⟩⟩,k1.trans k2,by omega⟩;simp only[pV];refine cq 60 (aD Tryz.func27) (by kernel_rfl) λ M=>?_
 simp(disch:=omega)only[Tryz.f27,Aq,aa,wO,bb,bd,n1,a7]<;>rfl
def t156:sb 156 169 3=ae:=by kernel_rfl
def Od:bK O 158 (pw b 0) 0=.ok (pw b 0):=by kernel_rfl
def Ft:bK O 158 (pw b 0) 1=.ok (pw b 1):=by kernel_rfl
def YY:bK O 169 (pw b 0) 0=.ok (pw b 0):=by kernel_rfl
def YZ:bK O 169 (pw b 0) 2=.ok (pw b 2):=by kernel_rfl
def pD(w:List UInt8):List I:=[.bool ag,iN 0,ai w]
def RP(w:List UInt8):∀v∈pD w,bS v=ae:=by
 intro v hv;simp only[pD,cG,eC,or_false]at hv;rcases hv with rfl|rfl|rfl<;>rfl
def I1{a b:List UInt8}(h:Z a+Z b<1000000):ft .add a b=.ok (ai (a++b)):=AT (by omega)
def qfg{s:List UInt8}(h:Z s+Z w<1000000):az O 109 [ai s,.agg ⟨pD w⟩] A (ai (s++w)) (A.alloc (af 169 (pD w))):=by
 have hv:=aQ A 169 (pD w);have l1:aj O (A.alloc (af 169 (pD w))).get 4 (pw A.next 0)=.ok (.bool ag):=hv.ld rfl u4 rfl;have l2:aj O (A.alloc (af 169 (pD w))).get 9 (pw A.next 2)=.ok (ai w):=hv.ld rfl u9 rfl;have hc:=I1 h;refine cq 60 (aD Tryz.func109) (by kernel_rfl) λ M=>?_
 simp(disch:=first|decide+kernel|omega)only[Tryz.f109,Aq,aa,a7,YY,YZ,l1,l2,hc]<;>rfl
def rr(A:Mem)(p:Nat)(d:List UInt8)(L:List (List UInt8)):Prop:=∃x b,VB A 158 p (.var 2) [ai d,x]/\aq A 169 3 b (L.map pD) x
def rT:=cu yh
def IP:aH:=sub rT [1,1,0,1,0,0]
def XC:yh.body=U (.seq (sub rT [0]) (.seq (sub rT [1,0]) (.seq (.seq (sub rT [1,1,0,0]) (.block 0 (.loop IP))) (.seq (sub rT [1,1,1,0]) (sub rT [1,1,1,1]))))):=by kernel_rfl
def Zk(L:List (List UInt8))(i:Nat):(L.take i).flatten.length<=Z L.flatten:=by
 conv=>rhs;rw[<-tZ i L,D5,aY]
 omega
def SE{d:List UInt8}{L:List (List UInt8)}(h:rr A p d L)(hl:Z L<1000)(hd:Z d+Z L.flatten<1000000):
 ∃v A',az O 57 [pV p] A v A'/\v=ai (d++L.flatten)/\Kp A A':=by
 obtain⟨x,b,hV,hS⟩:=h;refine cZ (aD Tryz.func57) XC (by kernel_rfl) ?_;have l0:aj O A.get 9 (pw p 0)=.ok (ai d):=hV.ld rfl u9 rfl;obtain⟨d169,hd1,hd2⟩:=cF (t:=169) (p:=ae) (by kernel_rfl);simp only[pV];apply W.q2
 .intro M _;simp(disch:=first|decide+kernel|omega)only[rT,yh,Aq,aa,bA,br,Od,l0];rfl
 apply W.seq;apply W.q
 .intro M;simp(disch:=first|decide+kernel|omega)only[rT,yh,Aq,aa];rfl
 apply W.block;refine W.up (Z L) (λ i t C=>Kp A C/\Sl t [(0,pV p),(3,ai (d++(L.take i).flatten)),(4,.int .i64 i)]) ?_ (a8 _) ⟨Kp.refl _,?_⟩
 .rintro i t C hi ⟨kC,g0,g3,g4,-⟩;have hSC:=hS.same kC.1 (kC.2 b);have l1:aj O C.get 156 (pw p 1)=.ok x:=(hV.kp kC).ld rfl (mW t156).1 rfl;have hlen:=y4 t156 hSC;rw[bc]at hlen;simp only[pV]at g0;by_cases hlt:i<Z L
  .have he:(L.map pD)[i]?=U (pD L[i]):=by rw[dN,aZ hlt];rfl
   have htk:(L.take (i+1)).flatten=(L.take i).flatten++L[i]:=by rw[d_ hlt,D5];simp
   have hle:=Zk L (i+1);rw[htk,aY]at hle;generalize L[i]=w at*;have ix:=xx t156 hSC (i:=i) (by rw[bc];exact hlt);have la:=aq.cg (tb:=O) (t:=169) hSC hd1 hd2 (mW t156).2.2.1 he;obtain⟨g,hg⟩:=qfg (A:=C) (s:=d++(L.take i).flatten) (w:=w) (by rw[aY];omega);apply W.cC (g) 20
   .intro M hM;simp(disch:=first|decide+kernel|omega)only[IP,rT,yh,Aq,aa,g0,g3,g4,bA,br,Ft,l1,hlen,hlt,ix,la,hg];rfl
   refine⟨hlt,_,_,rfl,kC.trans (Kp.alloc _ _),?_⟩;rw[htk,<-iC];simp only[Sq,aa,ak,g0,pV]
  .have e:i=Z L:=by omega
   subst e;rw[dU]at g3;apply W.run 20
   .intro M;simp(disch:=first|decide+kernel|omega)only[IP,rT,yh,Aq,aa,g0,g4,bA,br,Ft,l1,hlen,hlt];rfl
   apply W.run 40
   .intro M;simp(disch:=first|decide+kernel|omega)only[rT,yh,Aq,aa,g3];rfl
   exact⟨by simp,rfl,_,(by simp only[yh,Aq,aa]<;>rfl),rfl,kC⟩
 .rw[zz,Hj,jT];simp only[Sq,aa,ak,pV]
def SS:bk O 156=.ok 1:=by kernel_rfl
def Wc:eO O 156 0 []=.ok (af 169 [],.dZ 0 0):=by kernel_rfl
def Wb:eO O 156 1 [(0,.agg ⟨pD w⟩)]=.ok (af 169 (pD w),.dZ 1 2):=by kernel_rfl
def Vv:eu O 169 [(2,ai w)]=.ok (.agg ⟨pD w⟩):=by kernel_rfl
def rN:=cu uh
def Ie:aH:=sub rN [1,0,1,0,0]
def WD:uh.body=U (.seq (sub rN [0]) (.seq (.seq (sub rN [1,0,0]) (.block 0 (.loop Ie))) (.seq (sub rN [1,1,0]) (sub rN [1,1,1])))):=by kernel_rfl
def qfm{bx:Nat}{d s:List UInt8}{L:List (List UInt8)}(h:rr A p d L)(hl:Z L<1000)(hx:aq A 9 1 bx [[ai s]] y)(hs:Z s<1000000):
 ∃v B,az O 101 [pV p,y] A v B/\v=.tuple ⟨[]⟩/\rr B p d (if s=[]then L else L++[s])/\A.next<=B.next/\∀z,z<A.next->z≠p->B.get z=A.get z:=by
 refine cZ (aD Tryz.func101) WD (by kernel_rfl) ?_;have hlen:=y4 t91 hx;have ix:=xx t91 hx (i:=0) (by simp);have ls:=aq.load (tb:=O) (t:=9) (i:=0) (j:=0) (l:=[ai s]) (v:=ai s) hx u9 rfl rfl rfl (by omega);have hc:=I1 (a:=[]) (b:=s) (by simpa using hs);have h00:(0:Nat)*1+0=0*1:=rfl;simp only[pV];apply W.q
 .intro M;simp(disch:=first|decide+kernel|omega)only[rN,uh,Aq,aa];rfl
 apply W.seq;refine W.to (n:=33) (λ t C=>C=A/\Sl t [(0,pV p),(4,ai s)]) ?_ ?_
 .apply W.seq;apply W.run 20
  .intro M;simp(disch:=first|decide+kernel|omega)only[rN,uh,Aq,aa];rfl
  apply W.block;refine W.up 1 (λ i t C=>C=A/\Sl t [(0,pV p),(1,y),(4,ai (if i=0 then []else s)),(5,.int .i64 i)]) ?_ (a8 _) ⟨rfl,?_⟩
  .rintro i t C hi ⟨rfl,g0,g1,g4,g5,-⟩;by_cases hlt:i<1
   .obtain rfl:i=0:=by omega
    apply W.run 20
    .intro M;simp(disch:=first|decide+kernel|omega)only[Ie,rN,uh,Aq,aa,g1,g4,g5,hlen,fb,hlt,ix,ls,h00,aA,hc];rfl
    refine⟨hlt,_,_,rfl,rfl,?_⟩;simp only[Sq,aa,ak,g0,g1]
   .obtain rfl:i=1:=by omega
    apply W.run 20
    .intro M;simp(disch:=first|decide+kernel|omega)only[Ie,rN,uh,Aq,aa,g1,g5,hlen,fb];rfl
    refine⟨rfl,_,_,rfl,rfl,?_⟩;simp only[Sq,aa,ak,g0,g4]
  .simp only[Sq,aa,ak,pV]
 .rintro t C ⟨rfl,g0,g4,-⟩;show W O _ _ _;simp only[pV]at g0;obtain⟨x,b,hV,hS⟩:=h;by_cases h0:s=[]
  .subst h0;apply W.run 40
   .intro M;simp(disch:=first|decide+kernel|omega)only[rN,uh,Aq,aa,g4];rfl
   exact⟨by simp,rfl,_,(by simp only[uh,Aq,aa]<;>rfl),rfl,⟨x,b,hV,hS⟩,aI _,λ _ _ _=>rfl⟩
  .obtain⟨x1,D1,b1,ap1,s1,n1,nb1,k1,-⟩:=Ld t156 hS (by rw[bc];omega) λ l hl v hv=>by
    obtain⟨y,hy,rfl⟩:=eH.1 hl;exact RP y v hv
   obtain⟨x2,D2,ap2,s2,n2,f2⟩:=Gx t156 (r:=pD s) s1 (by rw[bc];omega) rfl (RP s);have l0:aj O (C.alloc (af 169 [])).get 156 (pw p 1)=.ok x:=(hV.kp (Kp.alloc C _)).ld rfl (mW t156).1 rfl;have hf:=hV.1;have V2:VB D2 158 p (.var 2) [ai d,x]:=⟨by omega,hV.2.same (by rw[f2 p (by omega) (by omega),k1.2 p hf])⟩;obtain⟨E,sE,vE,nE,fE⟩:=db (tb:=O) (t:=156) (o:=1) (v:=x2) SS V2.2 (by simp) (aq.dQ s2).1 (aq.dQ s2).2;have b0:=Wc;apply W.run 40
   .intro M;simp(disch:=first|decide+kernel|omega)only[rN,uh,Aq,aa,g4,h0,g0,bA,br,Ft,b0,l0,ap1,Vv,Wb,ap2,sE];rfl
   refine⟨by simp,rfl,_,(by simp only[uh,Aq,aa]<;>rfl),rfl,⟨x2,D1.next+1,⟨by show p<E.next;omega,vE⟩,?_⟩,by show C.next<=E.next;omega,λ z hz hzf=>by show E.get z=_;rw[fE z hzf,f2 z (by omega) (by omega),k1.2 z hz]⟩;rw[ax h0,gg];exact s2.same (by show D2.next<=E.next;omega) λ _=>fE _ (by omega)
def qfo{d:List UInt8}{L:List (List UInt8)}(h:rr A p d L)(hl:Z L<1000)(hd:Z d+Z L.flatten<1000000):
 ∃B,az O 102 [pV p] A (.tuple ⟨[]⟩) B/\rr B p (d++L.flatten) []/\A.next<=B.next/\∀z,z<A.next->z≠p->B.get z=A.get z:=by
 obtain⟨v,B,⟨g,hg⟩,rfl,kB⟩:=SE h hl hd;obtain⟨x,b,hV,hS⟩:=h;have hf:=hV.1;have kn:=kB.1;obtain⟨C,sC,vC,nC,fC⟩:=db (tb:=O) (t:=9) (o:=0) (v:=ai (d++L.flatten)) (by exact z9) (hV.kp kB).2 (by simp) rfl rfl;obtain⟨E,sE,vE,nE,fE⟩:=db (tb:=O) (t:=156) (o:=1) (v:=.slice V 0 0) SS vC (by simp) rfl rfl;refine⟨E,?_,⟨_,0,⟨by omega,vE⟩,aq.nil _ _ _ _⟩,by omega,λ z hz hzf=>by rw[fE z hzf,fC z hzf,kB.2 z hz]⟩;simp only[pV]at*;refine bX (g) 60 (aD Tryz.func102) (by kernel_rfl) λ M hM=>?_
 simp(disch:=first|decide+kernel|omega)only[Tryz.f102,Aq,aa,hg,bA,br,Od,Ft,sC,wO,sE,cQ]<;>rfl
variable {ml mn la:Nat}
def SM(h:mm A p ml mn b k la ns)(hnd:ns.Nodup)(hn:Z ns<1000):
 ∃A' mk,az O 78 [pV p] A (.tuple ⟨[]⟩) A'/\mm A' p ml mk b (Z ns) la ns/\A.next<=mk/\A.next<=A'.next/\∀z,z<A.next->z≠p->z≠ml->A'.get z=A.get z:=by
 obtain⟨v,A',mk,⟨g2,h2⟩,rfl,h3,h4⟩:=qfO (n:=Z ns-k) h hnd hn;obtain⟨x,rows,hV,-,-,-,hS,-,hrl,-⟩:=h;have lx:aj O A.get 198 (pw p 2)=.ok x:=hV.ld rfl re rfl;have lenx:=aq.len (tb:=O) hS re;have er:Z rows=Z ns-k:=by omega
 rw[er]at lenx;have hp:az O 135 [pV p] A (iN (Z ns-k)) A:=by
  simp only[pV];refine cq 60 (aD Tryz.func135) (by kernel_rfl) λ M=>?_
  simp(disch:=first|decide+kernel|omega)only[Tryz.f135,Aq,aa,fm,Ab,eY,bA,br,Fo,lx,lenx]<;>rfl
 obtain⟨g1,h1⟩:=hp;rw[Nat.min_self,Nat.add_sub_cancel' (by omega),dU]at h3;refine⟨A',mk,?_,h3,h4⟩;simp only[pV]at*;refine bX (g1+g2) 60 (aD Tryz.func78) (by kernel_rfl) λ M hM=>?_
 simp(disch:=first|decide+kernel|omega)only[Tryz.f78,Aq,aa,h1,h2,cQ]<;>rfl
def qbH{t:bM}:fU O A.get .neq 24 t (.const (.pointer V)) (pw b 0) (.pointer V)=.ok (.bool ae):=by kernel_rfl
def D0(q:Nat):ba:=⟨0,0,[],[],0,0,ag,q⟩
def qd6{quo:Nat}:∃v A',az O 26 [.slice V 0 0,.int .i64 quo] A v A'/\Kp A A'/\∃p,v=pV p/\ek A' p (D0 quo):=by
 refine cZ (aD Tryz.func26) XJ (by kernel_rfl) ?_;have hlen:=pK.len (A:=A) (l:=[]) ⟨0,aq.nil A 94 2 0⟩;obtain⟨v,B,⟨g1,h1⟩,rfl,hFo,nB,fB⟩:=qes (A:=A);have hmap:(B.alloc (.map [] 0)).get B.next=U (.map [] 0):=de _ _
 have n1:(B.alloc (.map [] 0)).next=B.next+1:=aG _ _
 have kC:=(Kp.alloc B (.map [] 0)).trans (Kp.alloc (B.alloc (.map [] 0)) (af 81 (z8 (A.next+2) B.next quo)));have vC:=aQ (B.alloc (.map [] 0)) 81 (z8 (A.next+2) B.next quo);have nC:((B.alloc (.map [] 0)).alloc (af 81 (z8 (A.next+2) B.next quo))).next=B.next+2:=by rw[aG,n1]
 have hmapC:((B.alloc (.map [] 0)).alloc (af 81 (z8 (A.next+2) B.next quo))).get B.next=U (.map [] 0):=by rw[cY (by omega)];exact hmap
 rw[n1]at vC;have bd:eu O 81 [(0,pw (A.next+2) 0),(1,.map (U B.next)),(2,.int .i64 quo)]=.ok (.agg ⟨z8 (A.next+2) B.next quo⟩):=VN;have hq0:¬quo<0:=by omega
 simp only[pV]at h1;apply W.q2
 .intro M _;simp(disch:=first|decide+kernel|omega)only[c8,vU,Aq,aa];rfl
 apply W.qG (g1)
 .intro M hM;simp(disch:=first|decide+kernel|omega)only[c8,vU,Aq,aa,h1,F_,uQ,Eu,bd,a7,n1];rfl
 generalize (B.alloc (.map [] 0)).alloc (af 81 (z8 (A.next+2) B.next quo))=C at kC vC nC hmapC;have hAC:Kp A C:=⟨by omega,λ z hz=>by rw[kC.2 z (by omega),fB z hz]⟩;have hFoC:mm C (A.next+2) A.next (A.next+1) 0 0 0 []:=by
  obtain⟨x,rows,q1,⟨q2,q3⟩,⟨q4,q5⟩,q6,q7,q8,q9,q10⟩:=hFo;exact⟨x,rows,q1.kp kC,⟨by omega,by rw[kC.2 _ q2];exact q3⟩,⟨by omega,by rw[kC.2 _ q4];exact q5⟩,q6,q7.same kC.1 (kC.2 0),λ _=>q8 rfl,by rw[q9];rfl,λ j w hw=>by simp at hw⟩
 apply W.seq;apply W.q
 .intro M;simp(disch:=first|decide+kernel|omega)only[c8,vU,Aq,aa,hlen];rfl
 apply W.block;refine W.up 0 (λ i t D=>D=C/\Sl t [(5,pV (B.next+1)),(18,iN 0),(19,.int .i64 i)]) ?_ (a8 _) ⟨rfl,?_⟩
 .rintro i t D hi ⟨rfl,f5,f18,f19,-⟩;obtain rfl:i=0:=by omega
  obtain⟨E,mk,⟨g2,h2⟩,hKe,hmk,hnE,hfE⟩:=SM hFoC nb (by simp);obtain⟨_,_,qV,⟨_,qml⟩,_⟩:=hFoC;have lpf:aj O D.get 78 (pw (B.next+1) 0)=.ok (pV (A.next+2)):=by
   obtain⟨d,hd,ha⟩:=zd;exact vC.ld rfl hd ha
  simp only[pV]at*;apply W.run 20
  .intro M;simp(disch:=first|decide+kernel|omega)only[Nb,c8,vU,Aq,aa,f18,f19];rfl
  apply W.ic (g2)
  .intro M hM _;simp(disch:=first|decide+kernel|omega)only[c8,vU,Aq,aa,f5,bA,br,wQ,lpf,h2];rfl
  apply W.run 20
  .intro M;simp(disch:=first|decide+kernel|omega)only[c8,vU,Aq,aa];rfl
  refine⟨by simp,rfl,_,(by simp only[vU,Aq,aa]<;>rfl),⟨by show A.next<=E.next;omega,λ z hz=>by show E.get z=A.get z;rw[hfE z (by omega) (by omega) (by omega),hAC.2 z hz]⟩,B.next+1,rfl,A.next+2,A.next,mk,0,B.next,[],⟨by show B.next+1<E.next;omega,vC.2.same (hfE _ (by omega) (by omega) (by omega))⟩,hKe,⟨by show B.next<E.next;omega,?_⟩,⟨rfl,rfl,nb,nb⟩,λ i f hf=>by simp[D0]at hf,by omega,by omega⟩;show E.get B.next=_
  rw[hfE B.next (by omega) (by omega) (by omega)];exact hmapC
 .simp only[Sq,aa,ak];exact⟨rfl,rfl⟩
def qd5{quo:Nat}:∃v A',az O 5 [.int .i64 quo] A v A'/\Kp A A'/\∃p,v=pV p/\ek A' p (D0 quo):=by
 obtain⟨v,A',⟨g,h⟩,hk,p,rfl,hD⟩:=qd6 (A:=A) (quo:=quo);refine⟨_,A',?_,hk,p,rfl,hD⟩;simp only[pV]at*;refine bX (g) 60 (aD Tryz.func5) (by kernel_rfl) λ M hM=>?_
 simp(disch:=first|decide+kernel|omega)only[Tryz.f5,Aq,aa,h,eY]<;>rfl
def qd2{a:Nat}{D:ba}(h:ek A p D):∃v A',az O 9 [pV p,.int .i64 a] A v A'/\v=cQ/\ek A' p {D with ar:=a}/\KT dT A A':=by
 obtain⟨pf,ml,mn,b,mf,ps,h⟩:=h;obtain⟨B,sB,vB,nB,fB⟩:=db (tb:=O) (t:=3) (o:=4) (v:=.int .i64 a) sa h.1.2 (by simp) rfl rfl;have hn:A.next<=B.next:=by omega
 have mx1:c_ O .max [3,3] [iN 0,.int .i64 a]=.ok (.int .i64 a):=by rw[Am.max_i64,ub (a8 _)]
 refine⟨_,B,?_,rfl,⟨pf,ml,mn,b,mf,ps,h.LC (D':={D with ar:=a}) ⟨rfl,rfl,rfl,rfl,rfl⟩ ⟨by have:=h.1.1;omega,vB⟩ hn λ z _=>fB z⟩,(KT.oN h.1 hn λ z _=>fB z).mono λ e he=>he.1⟩;simp only[pV];refine cq 60 (aD Tryz.func9) (by kernel_rfl) λ M=>?_
 simp(disch:=first|decide+kernel|omega)only[Tryz.f9,Aq,aa,F',qbH,eY,bA,br,CM,mx1,sB,cQ]<;>rfl
def mZ:∃d,O.aB 24=U d/\en d=ag:=cF (by kernel_rfl)
def AO(b:Nat):dD 100 (pw b 0) (pw b 0)=ae:=by simp[dD,xh,tO]
variable {i:Nat}
def AH(hnd:ns.Nodup)(hi:ns[i]?=U w):numOf ns w=i+1:=by
 obtain⟨hl,rfl⟩:=bU.1 hi;unfold numOf;have:ns.findIdx? (λ n=>decide (ns[i]=n))=U i:=by
  rw[DZ];refine⟨hl,by simp,λ j hj=>?_⟩;simp only[decide_eq_true_eq];exact λ e=>tY.1 hnd j i (by omega) hl hj e.symm
 rw[this];rfl
def yE(D:ba)(w:List UInt8):ba:={D with ns:=D.ns++[w],fs:=D.fs++[([],[])],la:=D.la+1}
def qdZ{z1 z2:Nat}{D:ba}(h:ek A p D)(v1:VB A 24 z1 (.var 1) [pV p])(v2:VB A 9 z2 (.var 1) [ai w])(hw:w∉D.ns)(hl:0<Z w/\Z w<=64)(hn:Z D.ns<1000)(hla:D.la=Z D.ns):
 ∃B,az O 86 [pV z1,pV z2] A (.int .i64 (0:Nat)) B/\ek B p (yE D w)/\KT dT A B:=by
 obtain⟨pf,ml,mn,b,mf,ps,hP⟩:=h;have hpfs:=λ q hq=>hP.file (q:=q) hq
 obtain⟨hV,hF,⟨hmf,hmf'⟩,⟨hl1,hl2,hnd,hnn⟩,hfl,hm1,hm2⟩:=hP;rw[hla]at hF;obtain⟨v,F,b',⟨g1,h1⟩,rfl,hFF,hb',hnF,hfF⟩:=qd0 hF hw hl hn;obtain⟨xo,rowso,qV,⟨-,qml⟩,⟨-,qmn⟩,-,qS,qx0,qrl,-⟩:=hF;have hrn:D.k<Z D.ns->rowso≠ []:=λ h0 h=>by rw[h,eB]at qrl;omega
 have K1:KT (λ e=>e≠201/\e≠204) A F:=⟨hnF,λ e z k l he hz=>hfF z hz.1 (hz.ne qV he.1) (hz.dP qmn) λ h0=>aq.iA qS hz he.2 (hrn h0),λ z h=>hfF z h.1 (h.ne qV) (h.dP qmn) λ h0=>h.qbN qS (hrn h0)⟩;have l1:aj O A.get 24 (.pointer (U ⟨z1,0,V⟩))=.ok (pV p):=by
  obtain⟨d,hd,ha⟩:=mZ;exact v1.ld rfl hd ha
 have l2:=v2.l0 u9 rfl;have lpf:aj O A.get 78 (.pointer (U ⟨p,0,V⟩))=.ok (pV pf):=by
  obtain⟨d,hd,ha⟩:=zd;exact hV.ld rfl hd ha
 have VF:=K1.vb hV (by decide);have v1F:=K1.vb v1 (by decide);have l1F:aj O F.get 24 (.pointer (U ⟨z1,0,V⟩))=.ok (pV p):=by
  obtain⟨d,hd,ha⟩:=mZ;exact v1F.ld rfl hd ha
 have lmF:=VF.l1 Bi rfl;have hmfF:F.get mf=U (.map (mM ps 0) (Z ps)):=by rw[hfF mf hmf (Ne.symm (qV.dP hmf')) hm2 (λ h0=>aq.dP qS hmf' (hrn h0))];exact hmf'
 obtain⟨g2,h2⟩:=qeP;have kG:=Kp.alloc F (af 162 [ai [],.slice V 0 0,ai []]);have vG:=aQ F 162 [ai [],.slice V 0 0,ai []];have nG:=aG F (af 162 [ai [],.slice V 0 0,ai []]);generalize F.alloc (af 162 [ai [],.slice V 0 0,ai []])=G at h2 kG vG nG;have hmfG:G.get mf=U (.map (mM ps 0) (Z ps)):=by rw[kG.2 _ (by omega)];exact hmfF
 have hup:=qid (p:=F.next) hmfG;have hpn:Z ps=Z D.ns:=by omega
 rw[hpn]at hup;have l1G:aj O G.get 24 (.pointer (U ⟨z1,0,V⟩))=.ok (pV p):=by
  obtain⟨d,hd,ha⟩:=mZ;exact(v1F.kp kG).ld rfl hd ha
 have lmG:=(VF.kp kG).l1 Bi rfl;generalize hH:G.set mf (.map (mM (ps++[F.next]) 0) (ps++[F.next]).length)=H at hup;have nH:H.next=G.next:=by rw[<-hH];exact cU _ _ _
 have fH:∀z,z≠mf->H.get z=G.get z:=λ z hz=>by rw[<-hH,tH,ax hz]
 have K2:KT (λ _=>True) F H:=⟨by omega,λ e z k l _ hz=>by rw[fH z (hz.dP hmfF),kG.2 z hz.1],λ z h=>by rw[fH z (h.dP hmfF),kG.2 z h.1]⟩;have he:∀t:T I,ev t (.const (.string ⟨#[]⟩))=.ok (ai []):=λ _=>rfl
 have smf:dD 100 (.map (U mf)) (.map (U mf))=ae:=by simp[dD,tO]
 have sn:=pE .i64 (Z D.ns+1) rfl;refine⟨H,?_,⟨pf,ml,mn,b',mf,ps++[F.next],K2.vb VF trivial,?_,⟨by omega,by rw[<-hH,tH,aA rfl]⟩,⟨?_,?_,?_,?_⟩,λ i f hf=>?_,hm1,hm2⟩,(K1.mono λ e he=>⟨he.2.1,he.2.2.1⟩).trans (K2.mono λ _ _=>trivial)⟩
 .simp only[pV]at*;refine bX (g1+g2) 60 (aD Tryz.func86) (by kernel_rfl) λ M hM=>?_
  simp(disch:=first|decide+kernel|omega|simp only[Wq,aa])only[Tryz.f86,Aq,av,reduceIte,aa,ak,l1,l2,lpf,bA,br,wQ,Fy,h1,c7,dc,l1F,l1G,lmF,lmG,AO,he,h2,C9,hup,smf,sn,Fq,bQ [(0,5),(3,5)]]<;>rfl
 .show mm H pf ml mn b' D.k (D.la+1) (D.ns++[w]);rw[hla];rw[aY]at hFF;exact hFF.kt K2 ⟨trivial,trivial,trivial,trivial⟩ λ m es c hm hl=>by
   have hmF:m<F.next:=by
    obtain⟨_,_,-,⟨q,-⟩,⟨r,-⟩,-⟩:=hFF;rcases hl with rfl|rfl<;>assumption
   rw[fH m (by rintro rfl;exact hl.elim hm1 hm2),kG.2 m hmF]
 .show _=(D.fs++[_]).length;rw[aY,aY,hl1];rfl
 .show(D.fs++[_]).length=(D.ns++[w]).length;rw[aY,aY,hl2];rfl
 .rw[tX];refine⟨hnd,vw.2 ⟨eC,nb⟩,λ a ha c hc=>?_⟩;obtain⟨_,_,hz⟩:=hpfs a ha;rw[dX.1 hc];have:=hz.1;omega
 .show(D.ns++[w]).Nodup;rw[tX];exact⟨hnn,vw.2 ⟨eC,nb⟩,λ a ha c hc e=>hw (by rw[dX.1 hc]at e;exact e▸ha)⟩
 .replace hf:(D.fs++[([],[])])[i]?=U f:=hf;rcases ec i (Z D.fs)with hi|hi
  .rw[fe hi]at hf;obtain⟨q,e1,e2⟩:=hfl i f hf;have e2':=e2;obtain⟨_,e3,-⟩:=e2';exact⟨q,by rw[fe (by omega)];exact e1,(e2.kt K1 (hfF q e3.1 (VB.ne e3 qV (by decide)) (VB.dP e3 qmn) λ h0=>aq.iA qS e3 (by decide) (hrn h0)) ⟨by decide,by decide⟩).kt K2 (by rw[fH q (VB.dP e3 hmf'),kG.2 q (by have:=e3.1;omega)]) ⟨trivial,trivial⟩⟩
  .rw[eV hi]at hf;cases hq:i-Z D.fs with
   |succ n=>rw[hq]at hf;simp at hf
   |zero=>
    rw[hq]at hf;cases hf;obtain rfl:i=Z D.fs:=by omega
    exact⟨F.next,by rw[eV (by omega),hl1,iQ];rfl,_,⟨by omega,vG.2.same (fH _ (by omega))⟩,.inl ⟨rfl,rfl⟩⟩
def qfR(h:mm A p ml mn b k la ns)(hw:numOf ns w≠0)(hl:0<Z w/\Z w<=64):
 az O 76 [pV p,ai w] A (.tuple ⟨[iN 0,iN 8]⟩) (A.alloc (af 9 [ai w])):=by
 obtain⟨x,rows,hV,-,⟨hmn,hmn'⟩,-⟩:=h;have kB:=Kp.alloc A (af 9 [ai w]);have vB:=aQ A 9 [ai w];have lwB:aj O (A.alloc (af 9 [ai w])).get 9 (pw A.next 0)=.ok (ai w):=vB.ld rfl u9 rfl;have km:=λ ih=>PN (ih:=ih) (A:=A.alloc (af 9 [ai w])) (w:=w)
 rw[decide_eq_true hl]at km;have lm:aj O (A.alloc (af 9 [ai w])).get 199 (pw p 1)=.ok (.map (U mn)):=(hV.kp kB).ld rfl u6 rfl;have lk:=J6 (w:=w) (by rw[kB.2 _ hmn];exact hmn');rw[decide_eq_true hw]at lk;have hc:(ai w).cells.toList=[ai w]:=rfl;simp only[pV];refine cq 60 (aD Tryz.func76) (by kernel_rfl) λ M=>?_
 simp(disch:=first|decide+kernel|omega|simp only[Wq,aa])only[Tryz.f76,Aq,av,reduceIte,aa,ak,hc,fm,Ab,eY,lwB,km,bA,br,Ad,lm,xa,lk,KC,c7,dc,Fq,bQ []]<;>rfl
def qfQ{z1 z2:Nat}{D:ba}(h:ek A p D)(v1:VB A 24 z1 (.var 1) [pV p])(v2:VB A 9 z2 (.var 1) [ai w])(hw:w∈D.ns)(hl:0<Z w/\Z w<=64):
 ∃B,az O 86 [pV z1,pV z2] A (iN 8) B/\ek B p D/\KT dT A B:=by
 obtain⟨i,hi,e⟩:=oU hw;have h':=h;obtain⟨pf,ml,mn,b,mf,ps,hV,hF,-,⟨-,-,-,hnn⟩,-⟩:=h';obtain⟨g1,h1⟩:=qfR hF (by rw[AH hnn (by rw[<-e];exact aZ hi)];omega) hl;have kB:=Kp.alloc A (af 9 [ai w]);have l1:aj O A.get 24 (pw z1 0)=.ok (pV p):=by
  obtain⟨d,hd,ha⟩:=mZ;exact v1.ld rfl hd ha
 have l2:=v2.l0 u9 rfl;have lpf:aj O A.get 78 (pw p 0)=.ok (pV pf):=by
  obtain⟨d,hd,ha⟩:=zd;exact hV.ld rfl hd ha
 refine⟨_,?_,h.kp kB,kB.kt⟩;simp only[pV]at*;refine bX (g1) 60 (aD Tryz.func86) (by kernel_rfl) λ M hM=>?_
 simp(disch:=first|decide+kernel|omega|simp only[Wq,aa])only[Tryz.f86,Aq,av,reduceIte,aa,ak,l1,l2,lpf,bA,br,wQ,h1,c7,dc,Fq,bQ []]<;>rfl
def eJ(D:ba)(w:List UInt8):Nat×ba:=if(cL D).dn then(13,cL D)else if w∈D.ns then(8,cL D)else(0,yE (cL D) w)
def qd3{D:ba}(h:ek A p D)(hs:D.st<1000/\D.ar<1000)(hl:0<Z w/\Z w<=64)(hn:Z D.ns<1000)(hla:D.la=Z D.ns):
 ∃v A',az O 37 [pV p,ai w] A v A'/\v=.int .i64 ((eJ D w).1:Int)/\ek A' p (eJ D w).2/\KT dT A A':=by
 have kB:=Kp.alloc A (af 24 [pV p]);have vB:=aQ A 24 [pV p];have nB:=aG A (af 24 [pV p]);generalize hB:A.alloc (af 24 [pV p])=B at kB vB nB;have kC:=Kp.alloc B (af 9 [ai w]);have vC:=aQ B 9 [ai w];have nC:=aG B (af 9 [ai w]);generalize hC:B.alloc (af 9 [ai w])=C at kC vC nC;rw[nB]at vC;have vBC:=vB.kp kC;obtain⟨pf,ml,mn,b,mf,ps,hP⟩:=h.kp (kB.trans kC);obtain⟨E,hE,nE,fE,kE,g1,g2⟩:=hP.step hs;have lp:aj O C.get 24 (.pointer (U ⟨A.next,0,V⟩))=.ok (pV p):=by
  obtain⟨d,hd,ha⟩:=mZ;exact vBC.ld rfl hd ha
 have hE':ek E p (cL D):=⟨pf,ml,mn,b,mf,ps,hE⟩;obtain⟨e,F,⟨g,hg⟩,he,hD,kF⟩:∃(e:Nat) (F:Mem),az O 85 [pV p,.func (.func 86) ⟨[]⟩ ⟨[pV A.next,pV (A.next+1)]⟩] C (.int .i64 e) F/\(eJ D w).1=e/\ek F p (eJ D w).2/\KT dT E F:=by
  unfold eJ;cases h1:(cL D).dn with
  |true=>exact⟨13,E,g1 h1 _,rfl,hE',Kp.kt (Kp.refl _)⟩
  |false=>
   simp only[dR,bg];by_cases hw:w∈D.ns
   .rw[aA hw];obtain⟨F,hF,hD,kF⟩:=qfQ hE' (kE.vb vBC (by decide)) (kE.vb vC (by decide)) hw hl;exact⟨8,F,g2 h1 _ _ _ _ hF,rfl,hD,kF⟩
   .rw[ax hw];obtain⟨F,hF,hD,kF⟩:=qdZ hE' (kE.vb vBC (by decide)) (kE.vb vC (by decide)) hw hl hn hla;exact⟨0,F,g2 h1 _ _ _ _ hF,rfl,hD,kF⟩
 refine⟨_,F,?_,rfl,hD,((kB.trans kC).kt.trans kE).trans kF⟩;rw[he];simp only[pV]at*;refine bX (g) 60 (aD Tryz.func37) (by kernel_rfl) λ M hM=>?_
 simp(disch:=omega)only[Tryz.f37,Aq,aa,uD,hB,hC,nB,lp,ki,hg]<;>rfl
def K7(D:ba):ba:={D with k:=Z D.ns}
def qfH{z1:Nat}{D:ba}(h:ek A p D)(v1:VB A 24 z1 (.var 1) [pV p])(hn:Z D.ns<1000):
 ∃B,az O 94 [pV z1] A (iN 0) B/\ek B p (K7 D)/\KT dT A B:=by
 obtain⟨pf,ml,mn,b,mf,ps,hV,hF,⟨hmf,hmf'⟩,⟨hl1,hl2,hnd,hnn⟩,hfl,hm1,hm2⟩:=h;obtain⟨B,mk,⟨g1,h1⟩,hFB,hmk,hnB,hfB⟩:=SM hF hnn hn;obtain⟨_,_,qV,⟨_,qml⟩,-⟩:=hF;have K:KT (λ e=>e≠201) A B:=⟨hnB,λ e z k l he hz=>hfB z hz.1 (hz.ne qV he) (hz.dP qml),λ z h=>hfB z h.1 (h.ne qV) (h.dP qml)⟩;have l1:aj O A.get 24 (pw z1 0)=.ok (pV p):=by
  obtain⟨d,hd,ha⟩:=mZ;exact v1.ld rfl hd ha
 have lpf:aj O A.get 78 (pw p 0)=.ok (pV pf):=by
  obtain⟨d,hd,ha⟩:=zd;exact hV.ld rfl hd ha
 refine⟨B,?_,⟨pf,ml,mk,b,mf,ps,K.vb hV (by decide),hFB,⟨by omega,by rw[hfB mf hmf (Ne.symm (qV.dP hmf')) hm1];exact hmf'⟩,⟨hl1,hl2,hnd,hnn⟩,λ i f hf=>?_,hm1,by omega⟩,K.mono λ e he=>he.2.1⟩
 .simp only[pV]at*;refine bX (g1) 60 (aD Tryz.func94) (by kernel_rfl) λ M hM=>?_
  simp(disch:=omega)only[Tryz.f94,Aq,aa,l1,lpf,bA,br,wQ,h1]<;>rfl
 .obtain⟨q,e1,e2⟩:=hfl i f hf;have e2':=e2;obtain⟨_,e3,-⟩:=e2';exact⟨q,e1,e2.kt K (hfB q e3.1 (VB.ne e3 qV (by decide)) (VB.dP e3 qml)) ⟨by decide,by decide⟩⟩
def mU(D:ba):Nat×ba:=if(cL D).dn then(13,cL D)else(0,K7 (cL D))
def qd8{D:ba}(h:ek A p D)(hs:D.st<1000/\D.ar<1000)(hn:Z D.ns<1000):
 ∃v A',az O 43 [pV p] A v A'/\v=.int .i64 ((mU D).1:Int)/\ek A' p (mU D).2/\KT dT A A':=by
 have kB:=Kp.alloc A (af 24 [pV p]);have vB:=aQ A 24 [pV p];have nB:=aG A (af 24 [pV p]);generalize hB:A.alloc (af 24 [pV p])=B at kB vB nB;obtain⟨pf,ml,mn,b,mf,ps,hP⟩:=h.kp kB;obtain⟨E,hE,nE,fE,kE,g1,g2⟩:=hP.step hs;have lp:aj O B.get 24 (.pointer (U ⟨A.next,0,V⟩))=.ok (pV p):=by
  obtain⟨d,hd,ha⟩:=mZ;exact vB.ld rfl hd ha
 have hE':ek E p (cL D):=⟨pf,ml,mn,b,mf,ps,hE⟩;obtain⟨e,F,⟨g,hg⟩,he,hD,kF⟩:∃(e:Nat) (F:Mem),az O 85 [pV p,.func (.func 94) ⟨[]⟩ ⟨[pV A.next]⟩] B (.int .i64 e) F/\(mU D).1=e/\ek F p (mU D).2/\KT dT E F:=by
  unfold mU;cases h1:(cL D).dn with
  |true=>exact⟨13,E,g1 h1 _,rfl,hE',Kp.kt (Kp.refl _)⟩
  |false=>
   obtain⟨F,hF,hD,kF⟩:=qfH hE' (kE.vb vB (by decide)) hn;exact⟨0,F,g2 h1 _ _ _ _ hF,rfl,hD,kF⟩
 refine⟨_,F,?_,rfl,hD,(kB.kt.trans kE).trans kF⟩;rw[he];simp only[pV]at*;refine bX (g) 60 (aD Tryz.func43) (by kernel_rfl) λ M hM=>?_
 simp(disch:=omega)only[Tryz.f43,Aq,aa,uD,hB,lp,ki,hg]<;>rfl
def qh5:∃d,O.aB 155=U d/\en d=ag:=cF (by kernel_rfl)
variable {pf mf:Nat}{ps:List Nat}
def qeS{z1 z2 z3 q f e:Nat}{D:ba}{cs:List I}(h:ie A p D pf ml mn b mf ps)(v1:VB A 24 z1 (.var 1) [pV p])(v2:VB A 9 z2 (.var 1) [ai w])(v3:VB A 155 z3 (.var 1) [.func (.func f) ⟨[]⟩ ⟨cs⟩])
 (hi:D.ns[i]?=U w)(hq:ps[i]?=U q)(hc:az O f (pV q::cs) A (.int .i64 e) B):az O 150 [pV z1,pV z2,pV z3] A (.int .i64 e) B:=by
 obtain⟨hV,⟨x,rows,qV,-,⟨-,qmn⟩,-⟩,⟨-,hmf⟩,⟨-,-,-,hnn⟩,-⟩:=h;obtain⟨g1,h1⟩:=Sr (w:=w) qV qmn;rw[AH hnn hi]at h1;have lk:=P' hmf hq;have l1:aj O A.get 24 (pw z1 0)=.ok (pV p):=by
  obtain⟨d,hd,ha⟩:=mZ;exact v1.ld rfl hd ha
 have l2:aj O A.get 9 (pw z2 0)=.ok (ai w):=v2.ld rfl u9 rfl;have l3:aj O A.get 155 (pw z3 0)=.ok (.func (.func f) ⟨[]⟩ ⟨cs⟩):=by
  obtain⟨d,hd,ha⟩:=qh5;exact v3.ld rfl hd ha
 have lpf:aj O A.get 78 (pw p 0)=.ok (pV pf):=by
  obtain⟨d,hd,ha⟩:=zd;exact hV.ld rfl hd ha
 have lmf:aj O A.get 79 (pw p 1)=.ok (.map (U mf)):=hV.ld rfl Bi rfl;obtain⟨g2,h2⟩:=hc;simp only[pV]at*;refine bX (g1+g2) 60 (aD Tryz.func150) (by kernel_rfl) λ M hM=>?_
 simp(config:={maxSteps:=4000000})(disch:=first|decide+kernel|omega|simp only[Wq,aa])only[Tryz.f150,Aq,av,reduceIte,aa,ak,l1,l2,l3,lpf,lmf,bA,br,wQ,Fy,h1,c7,dc,Nat.add_one_ne_zero,xa,lk,KC,AO,h2,Fq,bQ []]<;>rfl
def Sj{f:Nat}{D:ba}{cs:List I}(h:ie A p D pf ml mn b mf ps)(hs:D.st<1000/\D.ar<1000)(hi:D.ns[i]?=U w):
 ∃B,ie B p (cL D) pf ml mn b mf ps/\KT dT A B/\((cL D).dn=ae->az O 87 [pV p,ai w,.func (.func f) ⟨[]⟩ ⟨cs⟩] A (iN 13) B)/\
  ((cL D).dn=ag->∀(q e:Nat) (C:Mem),ps[i]?=U q->az O f (pV q::cs) B (.int .i64 e) C->az O 87 [pV p,ai w,.func (.func f) ⟨[]⟩ ⟨cs⟩] A (.int .i64 e) C):=by
 have k1:=Kp.alloc A (af 24 [pV p]);have v1:=aQ A 24 [pV p];have n1:(A.alloc (af 24 [pV p])).next=A.next+1:=aG _ _
 generalize hB1:A.alloc (af 24 [pV p])=B1 at k1 v1 n1;have k2:=Kp.alloc B1 (af 9 [ai w]);have v2:=aQ B1 9 [ai w];have n2:(B1.alloc (af 9 [ai w])).next=A.next+2:=by rw[aG,n1]
 generalize hB2:B1.alloc (af 9 [ai w])=B2 at k2 v2 n2;have k3:=Kp.alloc B2 (af 155 [.func (.func f) ⟨[]⟩ ⟨cs⟩]);have v3:=aQ B2 155 [.func (.func f) ⟨[]⟩ ⟨cs⟩];have n3:(B2.alloc (af 155 [.func (.func f) ⟨[]⟩ ⟨cs⟩])).next=A.next+3:=by rw[aG,n2]
 generalize hB3:B2.alloc (af 155 [.func (.func f) ⟨[]⟩ ⟨cs⟩])=B3 at k3 v3 n3;rw[n1]at v2;rw[n2]at v3;have v1':=(v1.kp k2).kp k3;have v2':=v2.kp k3;have kB:=(k1.trans k2).trans k3;obtain⟨E,hE,nE,fE,kE,g1,g2⟩:=(h.kp kB).step hs;have lp:aj O B3.get 24 (pw A.next 0)=.ok (pV p):=by
  obtain⟨d,hd,ha⟩:=mZ;exact v1'.ld rfl hd ha
 refine⟨E,hE,kB.kt.trans kE,λ h1=>?_,λ h1 q e C hq hc=>?_⟩
 .obtain⟨g,hg⟩:=g1 h1 (.func (.func 150) ⟨[]⟩ ⟨[pV A.next,pV (A.next+1),pV (A.next+2)]⟩);simp only[pV]at*;refine bX (g) 60 (aD Tryz.func87) (by kernel_rfl) λ M hM=>?_
  simp(disch:=first|decide+kernel|omega)only[Tryz.f87,Aq,aa,uD,yC,hB1,hB2,hB3,n1,n2,lp,ki,hg]<;>rfl
 .obtain⟨g,hg⟩:=g2 h1 _ _ _ _ (qeS hE (kE.vb v1' (by decide)) (kE.vb v2' (by decide)) (kE.vb v3 (by decide)) hi hq hc);simp only[pV]at*;refine bX (g) 60 (aD Tryz.func87) (by kernel_rfl) λ M hM=>?_
  simp(disch:=first|decide+kernel|omega)only[Tryz.f87,Aq,aa,uD,yC,hB1,hB2,hB3,n1,n2,lp,ki,hg]<;>rfl
def Dz(D:ba)(i:Nat)(f:List UInt8×List UInt8):ba:={D with fs:=D.fs.set i (f.1++f.2,[])}
def gU(D:ba)(i:Nat)(f:List UInt8×List UInt8):Nat×ba:=if(cL D).dn then(13,cL D)else(0,Dz (cL D) i f)
def qed{D:ba}{f:List UInt8×List UInt8}(h:ek A p D)(hs:D.st<1000/\D.ar<1000)(hi:D.ns[i]?=U w)(hf:D.fs[i]?=U f):
 ∃v A',az O 41 [pV p,ai w] A v A'/\v=.int .i64 ((gU D i f).1:Int)/\ek A' p (gU D i f).2/\KT dT A A':=by
 obtain⟨pf,ml,mn,b,mf,ps,hP⟩:=h;obtain⟨B,hB,kB,g1,g2⟩:=Sj (f:=92) (cs:=[]) hP hs hi;obtain⟨e,C,⟨g,hg⟩,he,hD,kC⟩:∃(e:Nat) (C:Mem),az O 87 [pV p,ai w,.func (.func 92) ⟨[]⟩ ⟨[]⟩] A (.int .i64 e) C/\(gU D i f).1=e/\ek C p (gU D i f).2/\KT dT B C:=by
  unfold gU;cases h1:(cL D).dn with
  |true=>exact⟨13,B,g1 h1,rfl,⟨pf,ml,mn,b,mf,ps,hB⟩,Kp.kt (Kp.refl _)⟩
  |false=>
   obtain⟨q,hq,a,e2,-⟩:=hB.2.2.2.2.1 i f hf;obtain⟨v,C,⟨g3,h3⟩,rfl,h4,nC,fC⟩:=qex e2;obtain⟨s1,s2⟩:=hB.set hq (f:=(f.1++f.2,[])) ⟨_,by rw[jT];exact h4,.inl ⟨rfl,rfl⟩⟩ (by omega) λ z _=>fC z
   have h5:az O 92 [pV q] B (.int .i64 (0:Nat)) C:=by
    simp only[pV]at*;refine bX (g3) 60 (aD Tryz.func92) (by kernel_rfl) λ M hM=>?_
    simp(disch:=first|decide+kernel|omega)only[Tryz.f92,Aq,aa,h3]<;>rfl
   exact⟨0,C,g2 h1 q 0 C hq h5,rfl,⟨pf,ml,mn,b,mf,ps,s1⟩,s2⟩
 refine⟨_,C,?_,rfl,hD,kB.trans kC⟩;rw[he];simp only[pV]at*;refine bX (g) 60 (aD Tryz.func41) (by kernel_rfl) λ M hM=>?_
 simp(disch:=first|decide+kernel|omega)only[Tryz.f41,Aq,aa,yH,hg]<;>rfl
def BO(l:List (List UInt8×Nat)):Prop:=l.Pairwise λ x y=>lt x.1 y.1
def qag{y x:List UInt8×Nat}{l:List (List UInt8×Nat)}(h:BO (y::l))(hn:y.1≠x.1):tI (y::l) x=if lt y.1 x.1 then y::tI l x else x::y::l:=by
 have hx:=(zy.1 h).1;unfold tI;by_cases h1:lt y.1 x.1
 .have h2:b6 x.1 y.1=ag:=by
   cases hq:b6 x.1 y.1 with
   |false=>rfl
   |true=>exact aU (tJ h1 hq) (FX _)
  rw[aA h1,BE,aA h1,iD,h2];rfl
 .have h4:lt x.1 y.1:=xL λ hc=>hn (Ax h1 hc)
  rw[ax h1,BE,ax h1,iD,aA h4,Bx.2 λ z hz=>tJ h4 (hx z hz)];rfl
theorem PD{x:List UInt8×Nat}:∀{l:List (List UInt8×Nat)},BO l->(∀y∈l,y.1≠x.1)->BO (tI l x)/\(tI l x).Perm (x::l)
 | [],_,_=>⟨List.pairwise_singleton _ _,List.Perm.refl _⟩
 |y::l,h,hn=>by
  have hx:=zy.1 h;have hyx:=hn y cJ;rw[qag h hyx];obtain⟨i1,i2⟩:=PD hx.2 λ z hz=>hn z (cV _ hz)
  by_cases h1:lt y.1 x.1
  .rw[aA h1];refine⟨zy.2 ⟨λ z hz=>?_,i1⟩,(i2.cons y).trans (List.Perm.swap x y l)⟩;rcases cG.1 (i2.mem_iff.1 hz)with rfl|hz
   .exact h1
   .exact hx.1 z hz
  .have h4:lt x.1 y.1:=xL λ hc=>hyx (Ax h1 hc)
   rw[ax h1];refine⟨zy.2 ⟨λ z hz=>?_,h⟩,List.Perm.refl _⟩;rcases cG.1 hz with rfl|hz
   .exact h4
   .exact tJ h4 (hx.1 z hz)
def kY(ns:List (List UInt8)):List (List UInt8×Nat):=ns.zipIdx.foldl (λ l p=>tI l (p.1,p.2+1)) []
def QG(ns:List (List UInt8))(w:List UInt8):kY (ns++[w])=tI (kY ns) (w,Z ns+1):=by
 simp[kY,List.zipIdx_append,tV]
def qgY{α:Type}{P:List α->Prop}(h0:P [])(h1:∀l w,P l->P (l++[w]))(l:List α):P l:=by
 rw[<-List.reverse_reverse l]
 induction l.reverse with
 |nil=>exact h0
 |cons a l ih=>rw[Ea];exact h1 _ _ ih
def C5(ns:List (List UInt8)):ns.Nodup->BO (kY ns)/\(kY ns).Perm (ns.zipIdx.map λ p=>(p.1,p.2+1)):=by
 refine qgY (P:=λ ns=>ns.Nodup->BO (kY ns)/\(kY ns).Perm (ns.zipIdx.map λ p=>(p.1,p.2+1))) (λ _=>⟨List.Pairwise.nil,List.Perm.refl _⟩) (λ ns w ih hd=>?_) ns;rw[tX]at hd;obtain⟨i1,i2⟩:=ih hd.1;have hn:∀y∈kY ns,y.1≠w:=λ y hy e=>by
  obtain⟨p,hp,rfl⟩:=eH.1 (i2.mem_iff.1 hy);have:=(List.mem_zipIdx hp).2.2;simp only at e;exact hd.2.2 p.1 (by rw[this];exact ff _) w (by simp) e
 rw[QG];obtain⟨j1,j2⟩:=PD (x:=(w,Z ns+1)) i1 hn;refine⟨j1,j2.trans ?_⟩;rw[List.zipIdx_append,gg];exact((i2.cons _).trans (List.perm_append_singleton _ _).symm).trans (by simp)
def F4(hd:ns.Nodup){y:List UInt8×Nat}:y∈kY ns↔∃i,ns[i]?=U y.1/\y.2=i+1:=by
 rw[(C5 ns hd).2.mem_iff,eH];constructor
 .rintro⟨⟨w,i⟩,hp,rfl⟩;exact⟨i,List.mem_zipIdx_iff_getElem?.1 hp,rfl⟩
 .rintro⟨i,h1,h2⟩;exact⟨(y.1,i),List.mem_zipIdx_iff_getElem?.2 h1,by rw[<-h2]⟩
def AG(hd:ns.Nodup):(kY ns).length=Z ns:=by rw[(C5 ns hd).2.length_eq];simp
def Ki(hd:ns.Nodup):∀y∈kY ns,y.2≠0:=λ y hy=>by
 obtain⟨i,-,h⟩:=(F4 hd).1 hy;omega
def Kh(hd:ns.Nodup)(w:List UInt8):qU (kY ns) w=numOf ns w:=by
 unfold qU;cases hq:(kY ns).find? λ x=>decide (x.1=w)with
 |none=>
  have hw:w∉ns:=λ hm=>by
   obtain⟨i,hi,e⟩:=oU hm;have:=List.find?_eq_none.1 hq (w,i+1) ((F4 hd).2 ⟨i,by rw[<-e];exact aZ hi,rfl⟩);simp at this
  unfold numOf;rw[By.2 λ x hx=>by simp only[decide_eq_false_iff_not];rintro rfl;exact hw hx];rfl
 |some y=>
  have h1:=List.find?_some hq;obtain⟨i,h2,h3⟩:=(F4 hd).1 (List.mem_of_find?_eq_some hq);rw[show y.1=w by simpa using h1]at h2;show y.2=_;rw[h3,AH hd h2]
def J2(a b:List UInt8):a<=b↔¬lt b a:=by
 show¬(b<a)↔_;have:∀a b:List UInt8,(a<b)↔lt a b:=by
  intro a
  induction a with
  |nil=>intro b;show _↔b6 _ _=ae;cases b<;>simp[b6]
  |cons x a ih=>
   intro b;show _↔b6 _ _=ae;cases b with
   |nil=>simp[b6]
   |cons y b=>
    rw[List.cons_lt_cons_iff,ih b];simp[b6,BV,<-td]
 rw[this]
def QE(hd:ns.Nodup):(kY ns).map (·.1)=oc ns:=by
 have h1:((kY ns).map (·.1)).Perm ns:=by
  refine((C5 ns hd).2.map _).trans ?_;rw[xR];have:ns.zipIdx.map ((λ x:List UInt8×Nat=>x.1)∘λ p=>(p.1,p.2+1))=ns:=by
   rw[show((λ x:List UInt8×Nat=>x.1)∘λ p:List UInt8×Nat=>(p.1,p.2+1))=Prod.fst from rfl,List.zipIdx_map_fst]
  rw[this]
 refine List.Perm.eq_of_pairwise (le:=λ a b=>¬lt b a) (λ a b _ _ h1 h2=>Ax h2 h1) ?_ ?_ (h1.trans (List.mergeSort_perm _ _).symm)
 .rw[List.pairwise_map];exact(C5 ns hd).1.imp λ h h'=>FX _ (tJ h h')
 .have:=List.pairwise_mergeSort (le:=λ x y:List UInt8=>decide (x<=y)) (λ a b c h1 h2=>by
   simp only[decide_eq_true_eq,J2]at*;intro h3;exact sM (λ h:lt a b=>h2 (tJ h3 h)) (λ h=>h2 (by rw[<-Ax h h1];exact h3))) (λ a b=>by
   simp only[DP,decide_eq_true_eq,J2];exact sM (λ h:lt b a=>.inr λ h'=>FX _ (tJ h h')) .inl) ns
  exact this.imp λ h=>by simpa[J2]using h
def qd4{D:ba}(h:ek A p D)(hn:kK D.ns):∃v A',az O 52 [pV p] A v A'/\(∃b,wa A' b (if D.dn then []else oc D.ns) v)/\Kp A A':=by
 obtain⟨pf,ml,mn,b,mf,ps,hV,⟨x,rows,qV,-,qm,-⟩,-⟩:=h;cases hd:D.dn with
 |true=>
  rw[hd]at hV;obtain⟨g1,h1⟩:=Sk hV;refine⟨.slice V 0 0,A,?_,⟨0,aq.nil _ _ _ _⟩,Kp.refl _⟩;simp only[pV]at*;refine bX (g1) 60 (aD Tryz.func52) (by kernel_rfl) λ M hM=>?_
  simp(disch:=omega)only[Tryz.f52,Aq,aa,wO,h1]<;>rfl
 |false=>
  rw[hd]at hV;obtain⟨g1,h1⟩:=Sk hV;have lpf:aj O A.get 78 (.pointer (U ⟨p,0,V⟩))=.ok (pV pf):=by
   obtain⟨d,hd,ha⟩:=zd;exact hV.ld rfl hd ha
  obtain⟨v,A',⟨g2,h2⟩,⟨b,h3⟩,h4⟩:=qeO qV qm hn;refine⟨v,A',?_,⟨b,h3⟩,h4⟩;have hv:=(aq.dQ h3).2;simp only[pV]at*;refine bX (g1+g2) 60 (aD Tryz.func52) (by kernel_rfl) λ M hM=>?_
  simp(disch:=omega)only[Tryz.f52,Aq,aa,wO,h1,bA,br,wQ,lpf,h2]<;>rfl
def U'{D:ba}(h:ek A p D):Z D.all=Z D.ns/\D.all.map (·.1)=D.ns:=by
 obtain⟨pf,ml,mn,b,mf,ps,-,-,-,⟨-,h5,-⟩,-⟩:=h;have e1:D.all.map (·.1)=D.ns:=List.map_fst_zip (by rw[bc];omega);exact⟨by rw[<-e1,bc],e1⟩
def qd7{D:ba}{s:List UInt8×List UInt8}(h:ek A p D)(hd:D.dn=ag)(hi:D.all[i]?=U s):∃q,az O 53 [pV p,ai s.1] A (.tuple ⟨[pV q,iN 0]⟩) A/\az O 54 [pV q] A (ai s.2) A:=by
 obtain⟨he,hm⟩:=U' h;obtain⟨pf,ml,mn,b,mf,ps,hP⟩:=h;obtain⟨pf',mf',mn',cf,cn,ps',ml',q,st,ar,x,y,h1,h2,⟨-,h3⟩,⟨-,h4⟩,h5⟩:=hP.at hd;have hr:=run_read (w:=s.1) h1 h2 h3 h4 λ i s hs=>(h5 i s hs).imp λ b hb=>hb.choose_spec.choose_spec.1
 obtain⟨bq,d,a,e1,e2⟩:=h5 i s hi;have hnum:numOf (D.all.map (·.1)) s.1=i+1:=AH (by rw[hm];exact hP.2.2.2.1.2.2.2) (by rw[dN,hi];rfl);rw[hnum]at hr;refine⟨bq,?_,qdR e2⟩;unfold FC at hr;rw[ax (Nat.succ_ne_zero i),ax (Nat.succ_ne_zero i),zB,e1]at hr;exact hr
def ba.fl(D:ba):List (List UInt8×List UInt8):=(kY D.ns).map λ y=>(y.1,((D.fs[y.2-1]?).map λ f=>f.1++f.2).getD [])
def OJ{D:ba}(hd:D.ns.Nodup):D.fl.map (·.1)=oc D.ns:=by
 rw[<-QE hd];unfold ba.fl;rw[xR];rfl
def FE{D:ba}(hd:D.ns.Nodup):Z D.fl=Z D.ns:=by
 unfold ba.fl;rw[bc,AG hd]
def OI{D:ba}(hd:D.ns.Nodup)(hf:Z D.fs=Z D.ns){s:List UInt8×List UInt8}(h:s∈D.fl):∃i:Nat,D.all[i]?=U s:=by
 obtain⟨y,hy,rfl⟩:=eH.1 h;obtain⟨i,h1,h2⟩:=(F4 hd).1 hy;refine⟨i,?_⟩;have hi:=(bU.1 h1).1;unfold ba.all;rw[LY,dN,h2,zB,aZ (show i<Z D.fs by omega)];exact⟨h1,rfl⟩
def ba.fv(D:ba):List (List UInt8×List UInt8):=if D.dn then []else D.fl
def Zo{D:ba}{s:List UInt8×List UInt8}(h:s∈D.fv):D.dn=ag/\s∈D.fl:=by
 unfold ba.fv at h;cases hd:D.dn with
 |true=>simp[hd]at h
 |false=>exact⟨rfl,by simpa[hd]using h⟩
def Zp{D:ba}(hd:D.ns.Nodup):D.fv.map (·.1)=if D.dn then []else oc D.ns:=by
 unfold ba.fv;split
 .rfl
 .exact OJ hd
def OT{D:ba}(hd:D.ns.Nodup):Z D.fv<=Z D.ns:=by
 unfold ba.fv;split
 .exact a8 _
 .exact Nat.le_of_eq (FE hd)
def tk:=cu yb
def Ix:aH:=sub tk [1,0,1,0,0]
def Xb:yb.body=U (.seq (sub tk [0]) (.seq (.seq (sub tk [1,0,0]) (.block 0 (.loop Ix))) (.seq (sub tk [1,1,0]) (sub tk [1,1,1])))):=by kernel_rfl
def Si{D:ba}(h:ek A p D)(hn:kK D.ns):∃v A',az O 17 [pV p] A v A'/\pK A' D.fv v/\Kp A A':=by
 refine cZ (aD Tryz.func17) Xb (by kernel_rfl) ?_;have hl:=OT hn.1;have hm:=Zp hn.1;have hff:Z D.fs=Z D.ns:=by
  obtain⟨_,_,_,_,_,_,-,-,-,⟨-,e,-⟩,-⟩:=h;exact e
 obtain⟨v,B,⟨g1,h1⟩,⟨b,hb⟩,kB⟩:=qd4 h hn;rw[<-hm]at hb;have hlen:=aq.len hb sm;rw[bc,bc]at hlen;have hnl:=hn.2.1;simp only[pV]at h1;apply W.q
 .intro M;simp(disch:=omega)only[tk,yb,Aq,aa];rfl
 apply W.seq;apply W.seq;simp only[pV];apply W.cC (g1) 20
 .intro M hM;simp(disch:=first|decide+kernel|omega)only[tk,yb,Aq,aa,h1,hlen];rfl
 apply W.block;refine W.up (Z D.fv) (λ i t C=>∃b' y,aq C 94 2 b' ((D.fv.take i).map fW) y/\Kp B C/\B.next<=b'/\Sl t [(0,pw p 0),(2,y),(8,v),(9,iN (Z D.fv)),(10,.int .i64 i)]) ?_ (a8 _) ⟨B.next,_,aq.nil _ _ _ _,Kp.refl _,aI _,?_⟩
 .rintro i t C hi ⟨b',y,hy,kC,hb',g0,g2,g8,g9,g10,-⟩;by_cases hlt:i<Z D.fv
  .have hs:=aZ (by omega);have hw:(D.fv.map (·.1))[i]?=U D.fv[i].1:=by rw[dN,hs];rfl
   obtain⟨hd,hmem⟩:=Zo (ff hlt);have htk:=d_ (by omega);obtain⟨j,hj⟩:=OI hn.1 hff hmem;generalize D.fv[i]=s at*;have hbC:=hb.same kC.1 (kC.2 b);have j1:=aq.idx (kd:=.i64) hbC sm z9 (by rw[bc,bc];exact hlt);have j2:=aq.load (j:=0) hbC u9 rfl (show((D.fv.map (·.1)).map λ n=>[ai n])[i]?=U [ai s.1] by rw[dN,hw];rfl) rfl (by omega);rw[eo]at j2;obtain⟨q,⟨g3,h3⟩,⟨g4,h4⟩⟩:=qd7 ((h.kp kB).kp kC) hd hj;obtain⟨y',E,happ,hs',nE,fE⟩:=U8 (f:=s) hy (by rw[df];omega);have bd:=MA (a:=s.1) (b:=s.2);have bs:=MS (f:=s);have hkn:=kC.1;simp only[pV]at h3 h4;apply W.cC (g3+g4) 20
   .intro M hM;simp(disch:=first|decide+kernel|omega)only[Ix,tk,yb,Aq,aa,g0,g2,g8,g9,g10,hlt,j1,j2,h3,h4,c7,dc,bd,bs,happ];rfl
   refine⟨hlt,_,E,rfl,C.next+1,y',by rw[htk];exact hs',⟨by omega,λ z hz=>?_⟩,by omega,?_⟩
   .rw[fE z (λ e=>by omega) (by omega),kC.2 z hz]
   .simp only[Sq,aa,ak,g0,g8,g9]
  .have e:i=Z D.fv:=by omega
   subst e;rw[dU]at hy;have hyc:=aq.dQ hy;apply W.run 20
   .intro M;simp(disch:=decide+kernel)only[Ix,tk,yb,Aq,aa,g9,g10];rfl
   apply W.run 40
   .intro M;simp(disch:=omega)only[tk,yb,Aq,aa,g2];rfl
   exact⟨by simp,rfl,_,(by simp only[yb,Aq,aa]<;>rfl),⟨b',hy⟩,kB.trans kC⟩
 .simp only[Sq,aa,ak]
def tu:=cu yl
def IW:aH:=sub tu [1,0,1,0,0]
def XK:yl.body=U (.seq (sub tu [0]) (.seq (.seq (sub tu [1,0,0]) (.block 0 (.loop IW))) (.seq (sub tu [1,1,0]) (sub tu [1,1,1])))):=by kernel_rfl
def gT(l:List (List UInt8×List UInt8)):Nat:=(l.map λ f=>f.2.length).sum
def TU{l:List (List UInt8×List UInt8)}(h:i<Z l):gT (l.take (i+1))=gT (l.take i)+l[i].2.length:=by
 unfold gT;rw[d_ h,gg,List.sum_append];simp
def TT(l:List (List UInt8×List UInt8))(i:Nat):gT (l.take i)<=gT l:=by
 conv=>rhs;rw[<-tZ i l]
 unfold gT;rw[gg,List.sum_append];omega
def qee{D:ba}(h:ek A p D)(hd:D.dn=ag)(hn:kK D.ns)(hs:gT D.fl<100000000):∃v A',az O 90 [pV p] A v A'/\v=.int .i64 (gT D.fl:Int)/\Kp A A':=by
 refine cZ (aD Tryz.func90) XK (by kernel_rfl) ?_;have hnl:Z D.fl<1000:=by rw[FE hn.1];exact hn.2.1
 obtain⟨v,B,⟨g1,h1⟩,hF,kB⟩:=Si h hn;rw[show D.fv=D.fl by unfold ba.fv;rw[hd];rfl]at hF;have hlen:=hF.len;simp only[pV]at h1;apply W.q
 .intro M;simp(disch:=omega)only[tu,yl,Aq,aa];rfl
 apply W.seq;apply W.seq;simp only[pV];apply W.cC (g1) 20
 .intro M hM;simp(disch:=first|decide+kernel|omega)only[tu,yl,Aq,aa,h1,hlen];rfl
 apply W.block;refine W.up (Z D.fl) (λ i t C=>Kp B C/\Sl t [(2,.int .i64 (gT (D.fl.take i):Int)),(6,v),(7,iN (Z D.fl)),(8,.int .i64 i)]) ?_ (a8 _) ⟨Kp.refl _,?_⟩
 .rintro i t C hi ⟨kC,g2,g6,g7,g8,-⟩;by_cases hlt:i<Z D.fl
  .have hs':=aZ hlt;have ht:=TU hlt;have hle:=TT D.fl (i+1);generalize D.fl[i]=s at*;obtain⟨bb,oo,j1,j2,-⟩:=(hF.kp kC).at hs';have sE:cm O (C.alloc (af 94 [.string .empty,.string .empty])) 94 (pw C.next 0) (.agg ⟨fW s⟩)=.ok (C.alloc (af 94 (fW s))):=fP z27 rfl rfl (by simp) (Ju s);have kE:=Kp.alloc C (af 94 (fW s));have vE:=aQ C 94 (fW s);generalize C.alloc (af 94 (fW s))=E at sE kE vE;have l1:=vE.m1 u9 rfl;have ll:=gB (l:=s.2) u9;have a1:a_ .add .i64 ((gT (D.fl.take i):Nat):Int) ((s.2.length:Nat):Int)=.ok (iN (gT (D.fl.take (i+1)))):=by
    rw[ht];exact e_ (ct (by omega))
   apply W.run 20
   .intro M;simp(disch:=first|decide+kernel|omega)only[IW,tu,yl,Aq,aa,g2,g6,g7,g8,hlt,j1,j2,qiU,a7,sE,Oi,l1,ll,a1];rfl
   refine⟨hlt,_,E,rfl,kC.trans kE,?_⟩;simp only[Sq,aa,ak,g6,g7]
  .have e:i=Z D.fl:=by omega
   subst e;rw[dU]at g2;apply W.run 20
   .intro M;simp(disch:=decide+kernel)only[IW,tu,yl,Aq,aa,g7,g8];rfl
   apply W.run 40
   .intro M;simp(disch:=omega)only[tu,yl,Aq,aa,g2];rfl
   exact⟨by simp,rfl,_,(by simp only[yl,Aq,aa]<;>rfl),rfl,kB.trans kC⟩
 .simp only[Sq,aa,ak];exact rfl
def Ow:bK O 81 (pw b 0) 2=.ok (pw b 2):=by kernel_rfl
def Jd(t:T I):ev t (.const (.string ⟨#[]⟩))=.ok (ai []):=rfl
def qej{q:Nat}{d:List UInt8}{x:I}(h:xM A q (d,[]))(hx:aq A 9 1 b [[ai w]] x)(hl:Z d+Z w<1000000):
 ∃B,az O 91 [pV q,x] A (iN 0) B/\xM B q (d,w)/\A.next<=B.next/\∀z,z<A.next->z≠q->B.get z=A.get z:=by
 obtain⟨a,e2,e3⟩:=h;have ea:a=.slice V 0 0:=by
  rcases e3 with⟨-,h⟩|⟨h,-⟩
  .exact h
  .exact aU rfl h
 subst ea;rw[show(d,([]:List UInt8)).1++(d,([]:List UInt8)).2=d from jT d]at e2;by_cases h0:w=[]
 .subst h0;obtain⟨g1,h1⟩:=KQ hx;have kB:=Kp.alloc A (af 9 [ai []]);have vB:=aQ A 9 [ai []];have sB:cm O (A.alloc (af 9 [ai []])) 9 (pw A.next 0) (ai [])=.ok (A.alloc (af 9 [ai []])):=se y3 rfl rfl (by simp);have z9:dj O 9=.ok (ai []):=by kernel_rfl
  have lB:aj O (A.alloc (af 9 [ai []])).get 9 (pw A.next 0)=.ok (ai []):=vB.ld rfl u9 rfl;have cB:(ai []).cells.toList=[ai []]:=rfl;refine⟨_,?_,⟨_,(e2.kp kB:VB _ 162 q (.var 3) _)|>λ h=>by rw[jT];exact h,.inl ⟨rfl,rfl⟩⟩,kB.1,λ z hz _=>kB.2 z hz⟩;simp only[pV]at*;refine bX (g1) 60 (aD Tryz.func91) (by kernel_rfl) λ M hM=>?_
  simp(disch:=first|decide+kernel|omega)only[Tryz.f91,Aq,aa,fm,Fc,eY,Jd,h1,z9,cB,sB,lB]<;>rfl
 .obtain⟨v,E,hE,rfl,⟨b',r,y,m1,m2,m3,m4,m5⟩,nE,fE⟩:=qek (w:=w) e2 hx h0 hl;exact⟨E,hE,⟨y,m1,.inr ⟨h0,b',r,m2,m5⟩⟩,nE,fE⟩
def used(D:ba):Nat:=gT D.fl
def wh(D:ba)(i:Nat)(d w:List UInt8):ba:={D with fs:=D.fs.set i (d,w)}
def qH(D:ba)(i:Nat)(d w:List UInt8):Nat×ba:=if Z w<=D.q-used D then(0,wh D i d w)else(10,wh D i d (w.take (D.q-used D)))
def qdG{q z1 z2 bx:Nat}{D:ba}{d:List UInt8}{x:I}(h:ie A p D pf ml mn b mf ps)(hd:D.dn=ag)(hn:kK D.ns)(hu:used D<=D.q)(hqq:D.q<100000000)
 (hf:D.fs[i]?=U (d,[]))(hq:ps[i]?=U q)(hx:aq A 9 1 bx [[ai w]] x)(v1:VB A 91 z1 (.var 1) [x])(v2:VB A 24 z2 (.var 1) [pV p])(hdl:Z d+Z w<1000000):
 ∃B,az O 88 [pV q,pV z1,pV z2] A (.int .i64 ((qH D i d w).1:Int)) B/\ie B p (qH D i d w).2 pf ml mn b mf ps/\KT dT A B:=by
 obtain⟨g1,h1⟩:=KQ hx;have l1:aj O A.get 91 (pw z1 0)=.ok x:=v1.ld rfl sm rfl;have l2:aj O A.get 24 (pw z2 0)=.ok (pV p):=by
  obtain⟨d,hd,ha⟩:=mZ;exact v2.ld rfl hd ha
 have lq:aj O A.get 3 (pw p 2)=.ok (.int .i64 D.q):=h.1.ld rfl u3 rfl;unfold used at hu;obtain⟨v,B,⟨g2,h2⟩,rfl,kB⟩:=qee ⟨pf,ml,mn,b,mf,ps,h⟩ hd hn (by omega);have l2B:aj O B.get 24 (pw z2 0)=.ok (pV p):=by
  obtain⟨d,hd,ha⟩:=mZ;exact(v2.kp kB).ld rfl hd ha
 have lqB:aj O B.get 3 (pw p 2)=.ok (.int .i64 D.q):=(h.kp kB).1.ld rfl u3 rfl;have s1:a_ .sub .i64 ((D.q:Nat):Int) ((gT D.fl:Nat):Int)=.ok (iN (D.q-gT D.fl)):=eQ (by omega) (ct (by omega));have mx1:c_ O .max [3,3] [iN 0,iN (D.q-gT D.fl)]=.ok (iN (D.q-gT D.fl)):=by rw[Am.max_i64,ub (a8 _)]
 have ll:=gB (tb:=O) (t:=9) (l:=w) u9;have sn:=pE .i64 D.q rfl;obtain⟨s,hs,hsw⟩:∃s,qH D i d w=(if Z w<=D.q-gT D.fl then 0 else 10,wh D i d s)/\s=if Z w<=D.q-gT D.fl then w else w.take (D.q-gT D.fl):=by
  unfold qH used;split
  .exact⟨w,rfl,rfl⟩
  .exact⟨w.take (D.q-gT D.fl),rfl,rfl⟩
 have hsl:Z s<=Z w:=by
  rw[hsw];split
  .exact aI _
  .exact List.length_take_le' ..
 have kC:=Kp.alloc B (af 9 [ai s]);have vC:=aQ B 9 [ai s];have bs:=zV (w:=s);generalize hC:B.alloc (af 9 [ai s])=C at kC vC;have hP:=(h.kp kB).kp kC;have hxC:aq C 9 1 B.next [[ai s]] (.slice (U ⟨B.next,0,V⟩) 1 2):=.inr ⟨.var 1,2,rfl,vC.1,vC.2,λ l hl=>by rw[dX.1 hl];rfl,.inl rfl⟩
 obtain⟨q',hq',hM⟩:=hP.2.2.2.2.1 i _ hf;rw[hq]at hq';cases hq';obtain⟨E,⟨g3,h3⟩,hE,nE,fE⟩:=qej hM hxC (by omega);obtain⟨s2,s3⟩:=hP.set hq hE nE fE;refine⟨E,?_,by rw[hs];exact s2,(kB.trans kC).kt.trans s3⟩;rw[hs];clear hs;simp only[pV]at*;by_cases hg:Z w<=D.q-gT D.fl
 .rw[aA hg]at hsw⊢;subst hsw;have hg':¬D.q-gT D.fl<Z s:=by omega
  refine bX (g1+g2+g3) 60 (aD Tryz.func88) (by kernel_rfl) λ M hM=>?_
  simp(config:={maxSteps:=4000000})(disch:=first|decide+kernel|omega|simp only[Wq,aa])only[Tryz.f88,Aq,av,reduceIte,aa,ak,l1,l2,Jd,h1,lq,h2,l2B,lqB,bA,br,Ow,s1,mx1,ll,dM,dK,hg',bs,hC,h3,sn,AO,Fq,bQ [(0,5),(3,5)]]<;>rfl
 .rw[ax hg]at hsw⊢;have hg':D.q-gT D.fl<Z w:=by omega
  have st:=AR (tb:=O) (t:=9) (l:=w) (k:=.i64) (n:=D.q-gT D.fl) u9 (by omega);rw[<-hsw]at st;refine bX (g1+g2+g3) 60 (aD Tryz.func88) (by kernel_rfl) λ M hM=>?_
  simp(config:={maxSteps:=4000000})(disch:=first|decide+kernel|omega|simp only[Wq,aa])only[Tryz.f88,Aq,av,reduceIte,aa,ak,l1,l2,Jd,h1,lq,h2,l2B,lqB,bA,br,Ow,s1,mx1,ll,dM,dK,hg',st,bs,hC,h3,sn,AO,Fq,bQ [(0,5),(3,5)]]<;>rfl
def gv(D:ba)(i:Nat)(d w:List UInt8):Nat×ba:=if(cL D).dn then(13,cL D)else qH (cL D) i d w
def qd1{bx:Nat}{D:ba}{d n:List UInt8}{x:I}(h:ek A p D)(hs:D.st<1000/\D.ar<1000)(hn:kK D.ns)(hu:used D<=D.q)(hqq:D.q<100000000)(hi:D.ns[i]?=U n)
 (hf:D.fs[i]?=U (d,[]))(hx:aq A 9 1 bx [[ai w]] x)(hdl:Z d+Z w<1000000):
 ∃v A',az O 39 [pV p,ai n,x] A v A'/\v=.int .i64 ((gv D i d w).1:Int)/\ek A' p (gv D i d w).2/\KT dT A A':=by
 have hxc:=(aq.dQ hx).1;have k1:=Kp.alloc A (af 24 [pV p]);have v1:=aQ A 24 [pV p];have n1:(A.alloc (af 24 [pV p])).next=A.next+1:=aG _ _
 generalize hB1:A.alloc (af 24 [pV p])=B1 at k1 v1 n1;have k2:=Kp.alloc B1 (af 91 [x]);have v2:=aQ B1 91 [x];have n2:(B1.alloc (af 91 [x])).next=A.next+2:=by rw[aG,n1]
 generalize hB2:B1.alloc (af 91 [x])=B2 at k2 v2 n2;rw[n1]at v2;have kB:=k1.trans k2;have v1':=v1.kp k2;obtain⟨pf,ml,mn,b,mf,ps,hP⟩:=h.kp kB;obtain⟨B,hB,kE,g1,g2⟩:=Sj (f:=88) (cs:=[pV (A.next+1),pV A.next]) hP hs hi;have lp:aj O B2.get 24 (.pointer (U ⟨A.next,0,V⟩))=.ok (pV p):=by
  obtain⟨d,hd,ha⟩:=mZ;exact v1'.ld rfl hd ha
 obtain⟨e,C,⟨g,hg⟩,he,hD,kC⟩:∃(e:Nat) (C:Mem),az O 87 [pV p,ai n,.func (.func 88) ⟨[]⟩ ⟨[pV (A.next+1),pV A.next]⟩] B2 (.int .i64 e) C/\(gv D i d w).1=e/\ek C p (gv D i d w).2/\KT dT B C:=by
  unfold gv;cases h1:(cL D).dn with
  |true=>exact⟨13,B,g1 h1,rfl,⟨pf,ml,mn,b,mf,ps,hB⟩,Kp.kt (Kp.refl _)⟩
  |false=>
   obtain⟨q,hq',-⟩:=hB.2.2.2.2.1 i _ hf;obtain⟨C,hC,hD,kC⟩:=qdG (w:=w) hB h1 hn hu hqq hf hq' (kE.iB (hx.same kB.1 (kB.2 bx)) (by decide)) (kE.vb v2 (by decide)) (kE.vb v1' (by decide)) hdl;exact⟨_,C,g2 h1 q _ C hq' hC,rfl,⟨pf,ml,mn,b,mf,ps,hD⟩,kC⟩
 refine⟨_,C,?_,rfl,hD,(kB.kt.trans kE).trans kC⟩;rw[he];simp only[pV]at*;refine bX (g) 60 (aD Tryz.func39) (by kernel_rfl) λ M hM=>?_
 simp(disch:=first|decide+kernel|omega)only[Tryz.f39,Aq,aa,uD,hxc,hB1,hB2,n1,lp,ki,hg]<;>rfl
end Go.Proofs.YtjoceidiioppiaaGreatDoor.sto
end
