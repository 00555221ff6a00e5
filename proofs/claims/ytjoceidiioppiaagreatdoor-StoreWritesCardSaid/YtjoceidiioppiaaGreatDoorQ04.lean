/- The abstract machine, the walk of the law and its plain laws, made small by a program; part 4: no conditions but those in each theorem. -/
import Derived.Test.YtjoceidiioppiaaGreatDoorQ03
import Derived.Test.YtjoceidiioppiaaGreatDoorChecked
import Derived.KernelRfl
import Derived.Shelf.SlIter.Nil
import Derived.Shelf.SlIter.Sorted
import Derived.Shelf.SortM.Plain
import Derived.Shelf.SortM.SortNone
set_option maxHeartbeats 16000000
set_option maxRecDepth 100000
set_option linter.unusedSimpArgs false
set_option linter.unusedVariables false
set_option linter.defProp false
noncomputable section
open Array renaming getElem?_eq_some_iff→gm,getElem?_toList→gp,length_toList→xI
open Array.mk renaming injEq→G9
open Bool renaming and_eq_true→dW,and_true→sK,false_and→Bo,false_eq_true→dR,not_false→vg,not_true→ri,true_and→tR,false→ag,true→ae
open Classical renaming byCases→sM
open Go renaming Code→aH,IntKind→cS,Operand→bM,Program→cI,TypeId→au,Value→I,World→aF
open Int.ofNat renaming inj→zr
open Int renaming toNat_natCast→Bt
open List renaming all_cons→DV,append_assoc→iC,append_nil→jT,cons_append→iP,drop_eq_getElem_cons→mq,drop_eq_nil_iff→Hh,drop_eq_nil_of_le→DW,drop_length→Bv,drop_zero→DX,exists_mem_of_ne_nil→Bw,filter_cons→iD,filter_eq_self→Bx,findIdx?_eq_none_iff→By,findIdx?_eq_some_iff_getElem→DZ,flatMap_cons→mr,foldl_append→tV,foldl_cons→mu,getD_eq_getElem?_getD→m_,getElem?_append_left→fe,getElem?_append_right→eV,getElem?_cons_succ→dc,getElem?_cons_zero→c7,getElem?_drop→xP,getElem?_eq_getElem→aZ,getElem?_eq_some_iff→bU,getElem?_map→dN,getElem?_range→BA,getElem?_take→pM,getElem_mem→ff,length→Z,length_append→aY,length_cons→cD,length_drop→vu,length_eq_zero_iff→eN,length_map→bc,length_nil→eB,length_pos_iff→je,length_set→dS,length_singleton→fb,length_take→df,map→tW,map_append→gg,map_cons→lK,map_eq_nil_iff→gu,map_map→xR,map_nil→sQ,mem_append→mw,mem_cons→cG,mem_cons_of_mem→cV,mem_cons_self→cJ,mem_filter→qn,mem_flatMap→BD,mem_map→eH,mem_or_eq_of_mem_set→zx,mem_singleton→dX,nil_append→lL,nodup_append→tX,not_mem_nil→eC,pairwise_cons→zy,prefix_append→D9,prefix_refl→D_,range→lM,range'→sR,replicate→fQ,take_append_drop→tZ,take_length→dU,take_succ_eq_append_getElem→d_
open List.cons renaming injEq→gq
open Nat renaming add_assoc→rk,add_comm→xU,add_zero→eo,beq→aL,beq_eq→qp,ble→av,ble_eq→sS,blt→aO,blt_eq→bZ,eq_of_beq_eq_true→eW,le_of_ble_eq_true→gK,le_of_lt→BG,le_refl→aI,le_trans→dm,log2_lt→BH,lt_irrefl→t_,lt_of_lt_of_le→c9,lt_or_ge→ec,lt_succ_self→ua,lt_trichotomy→zC,min_eq_left→nf,min_eq_right→BI,min_le_left→Ec,min_le_right→Ed,mod_eq_of_lt→rm,mod_lt→jV,mod_two_eq_zero_or_one→Ee,mul_one→qq,not_lt_zero→zD,pow_add→BL,pow_le_pow_right→rn,pow_succ→zE,reduceAdd→ak,reduceEqDiff→aa,shiftLeft_eq→Ht,shiftRight_eq_div_pow→rp,strongRecOn→xW,sub_add_cancel→xX,sub_lt_sub_left→Hu,sub_self→iQ,sub_zero→kL,two_pow_pos→xY,xor_assoc→vM,xor_lt_two_pow→Eh,xor_zero→Ei,zero_add→ep,zero_le→a8
open Option renaming getD_some→sU,map_some→gX,ne_none_iff_exists'→L2,none→V,some→U
open Option.some renaming injEq→fg
open Go.Proofs.Tryz renaming checked→ug,f123→pP,f140→oX,f189→pQ,f211→np,f227→qA,f234→qB,f263→vV,f83→rH,prog→dw,underlying4→HG,underlying9→En,zeroValue9→HH
open UInt8 renaming ofNat→jY,toNat_ofNat_of_lt'→HJ
namespace Go.Sto
open Go.Am Go.Mdl
structure cr where
 byte:UInt8
 out:Nat
 to:Nat
deriving DecidableEq
structure aw where
 fin:Bool
 out:Nat
 arcs:List cr
deriving DecidableEq
def val(e:aK):Nat:=if e.gone then 0 else e.weight+1
def least:List aK->Nat
 | []=>0
 |x::l=>l.foldl (λ n e=>min n (val e)) (val x)
def eP(M:List aw)(s:aw):List aw×Nat:=
 match M.findIdx? (λ x=>decide (x=s))with
 |some i=>(M,i)
 |none=>(M++[s],Z M)
def aR(d:Nat)(e:aK):Option UInt8:=e.word[d]?
def cT(rec:List aK->Nat->List aw->List aw×Nat)(d less:Nat):List aK->List cr->List aw->List aw×List cr
 | [],qi8,M=>(M,qi8)
 |e::r,qi8,M=>
  if aR d e=V\/(qi8.getLast?).map (·.byte)=aR d e then cT rec d less r qi8 M
  else
   cT rec d less r (qi8++[⟨(aR d e).getD 0,least ((e::r).filter λ x=>decide (aR d x=aR d e))-less,(rec ((e::r).filter λ x=>decide (aR d x=aR d e)) (least ((e::r).filter λ x=>decide (aR d x=aR d e))) M).2⟩])
    (rec ((e::r).filter λ x=>decide (aR d x=aR d e)) (least ((e::r).filter λ x=>decide (aR d x=aR d e))) M).1
def eh(d less:Nat)(l:List aK):Bool×Nat:=l.foldl (λ s e=>if aR d e=V then(ae,val e-less)else s) (ag,0)
def dv:Nat->List aK->Nat->Nat->List aw->List aw×Nat
 |0,_,_,_,M=>(M,0)
 |f+1,l,d,less,M=>
  eP (cT (λ own n M=>dv f own (d+1) n M) d less l [] M).1 ⟨(eh d less l).1,(eh d less l).2,(cT (λ own n M=>dv f own (d+1) n M) d less l [] M).2⟩
def u_(M:List aw):Nat->Nat->List (List UInt8×Nat)
 |0,_=>[]
 |k+1,i=>match M[i]? with
  |none=>[]
  |some s=>(if s.fin then [([],s.out)]else [])++s.arcs.flatMap λ a=>(u_ M k a.to).map λ w=>(a.byte::w.1,a.out+w.2)
def AI(i:Nat)(s:aw):Prop:=(s.fin=ag->s.out=0)/\(s.arcs.map (·.byte)).Pairwise (·<·)/\(∀a∈s.arcs,a.to<i)/\(s.fin=ae\/s.arcs≠ [])/\((s.fin=ae/\s.out=0)\/∃a∈s.arcs,a.out=0)
def eM(M:List aw):Prop:=∀i s,M[i]?=U s->AI i s
theorem CP{α β:Type}{f g:α->List β}:∀{l:List α},(∀a∈l,f a=g a)->l.flatMap f=l.flatMap g
 | [],_=>rfl
 |x::l,h=>by rw[mr,mr,h x cJ,CP λ a ha=>h a (cV _ ha)]
variable {M:List aw}{i:Nat}
def Ky{M':List aw}(h:M<+:M')(hi:i<Z M):M'[i]?=M[i]?:=by
 obtain⟨t,rfl⟩:=h;rw[fe hi]
theorem UA{M':List aw}(g:eM M)(h:M<+:M'):∀k i,i<Z M->u_ M' k i=u_ M k i
 |0,_,_=>rfl
 |k+1,i,hi=>by
  unfold u_;rw[Ky h hi];have hs:M[i]?=U M[i]:=aZ hi;rw[hs];simp only
  congr 1;refine CP λ a ha=>?_
  rw[UA g h k a.to (Nat.lt_trans ((g i _ hs).2.2.1 a ha) hi)]
def qis(g:eM M):∀i k,i<k->u_ M k i=u_ M (i+1) i:=by
 intro i
 induction i using xW with
 |ind i ih=>
  intro k hk;obtain⟨k',rfl⟩:∃k',k=k'+1:=⟨k-1,by omega⟩;unfold u_;cases hs:M[i]? with
  |none=>rfl
  |some s=>
   simp only
   congr 1;refine CP λ a ha=>?_
   have ht:=(g i s hs).2.2.1 a ha;rw[ih a.to ht k' (by omega),ih a.to ht i ht]
def ws(M:List aw)(i:Nat):List (List UInt8×Nat):=u_ M (i+1) i
def iz(M:List aw)(a:cr):List (List UInt8×Nat):=(ws M a.to).map λ w=>(a.byte::w.1,a.out+w.2)
def rf(g:eM M){s:aw}(h:M[i]?=U s):ws M i=(if s.fin then [([],s.out)]else [])++s.arcs.flatMap (iz M):=by
 unfold ws;rw[u_,h];simp only
 congr 1;refine CP λ a ha=>?_
 unfold iz ws;rw[qis g a.to i ((g i s h).2.2.1 a ha)]
def G4{M':List aw}(g:eM M)(h:M<+:M')(hi:i<Z M):ws M' i=ws M i:=UA g h _ _ hi
def Good(M:List aw):Prop:=eM M/\M.Nodup/\∀i,i<Z M->∀w∈ws M i,w.2<=4294967296
def og(M:List aw):Nat->Nat->Nat->Option Nat
 |0,_,_=>V
 |k+1,i,left=>match M[i]? with
  |none=>V
  |some s=>(s.arcs.foldl (λ o a=>o.bind λ L=>if L<=a.to then og M k a.to L else U L) (U left)).bind λ L=>if i=L then U (L+1)else V
def mX(M:List aw)(k:Nat)(o:Option Nat)(a:cr):Option Nat:=o.bind λ L=>if L<=a.to then og M k a.to L else U L
theorem fold_congr{α β:Type}{f g:β->α->β}:∀{l:List α} {b:β},(∀a∈l,∀b,f b a=g b a)->l.foldl f b=l.foldl g b
 | [],_,_=>rfl
 |x::l,b,h=>by rw[mu,mu,h x cJ,fold_congr λ a ha=>h a (cV _ ha)]
variable {k:Nat}
def GX{left:Nat}{s:aw}(h:M[i]?=U s):og M (k+1) i left=(s.arcs.foldl (mX M k) (U left)).bind λ L=>if i=L then U (L+1)else V:=by
 rw[og,h];rfl
theorem LD{M':List aw}(g:eM M)(h:M<+:M'):∀k i left,i<Z M->og M' k i left=og M k i left
 |0,_,_,_=>rfl
 |k+1,i,left,hi=>by
  have hs:M[i]?=U M[i]:=aZ hi;rw[GX hs,GX ((Ky h hi).trans hs)];congr 1;refine fold_congr λ a ha o=>?_
  unfold mX;congr 1;funext L;rw[LD g h k a.to L (Nat.lt_trans ((g i _ hs).2.2.1 a ha) hi)]
def F6{s:aw}(h:M.findIdx? (λ x=>decide (x=s))=U i):eP M s=(M,i):=by unfold eP;rw[h]
def F7{s:aw}(h:M.findIdx? (λ x=>decide (x=s))=V):eP M s=(M++[s],Z M):=by unfold eP;rw[h]
def JK{s:aw}(h:M.findIdx? (λ x=>decide (x=s))=U i):M[i]?=U s:=by
 obtain⟨hi,hp,-⟩:=DZ.1 h;rw[aZ hi];simpa using hp
def Pv{s:aw}(h:M.findIdx? (λ x=>decide (x=s))=V):s∉M:=by
 intro hs;have:=By.1 h s hs;simp at this
def O3{s:aw}(g:eM M)(hs:AI (Z M) s):eM (M++[s]):=by
 intro i x h;rcases ec i (Z M)with hi|hi
 .rw[fe hi]at h;exact g i x h
 .rw[eV hi]at h;cases hq:i-Z M with
  |zero=>
   rw[hq]at h;cases h;rwa[show i=Z M by omega]
  |succ n=>
   rw[hq]at h;simp at h
def UB{s:aw}(g:eM M)(hs:AI (Z M) s):ws (M++[s]) (Z M)=(if s.fin then [([],s.out)]else [])++s.arcs.flatMap (iz M):=by
 rw[rf (O3 g hs) (show(M++[s])[Z M]?=U s by rw[eV (aI _),iQ];rfl)];congr 1;refine CP λ a ha=>?_
 unfold iz;rw[G4 g (D9 _ _) (hs.2.2.1 a ha)]
def Zu{s:aw}(g:Good M)(hs:AI (Z M) s)(hn:s∉M)(hv:∀w∈(if s.fin then [([],s.out)]else [])++s.arcs.flatMap (iz M),w.2<=4294967296):Good (M++[s]):=by
 refine⟨O3 g.1 hs,?_,λ i hi w hw=>?_⟩
 .rw[tX];refine⟨g.2.1,by simp,λ a ha b hb=>?_⟩;rw[dX]at hb;rintro rfl;subst hb;exact hn ha
 .rw[aY,fb]at hi;rcases ec i (Z M)with h|h
  .rw[G4 g.1 (D9 _ _) h]at hw;exact g.2.2 i h w hw
  .obtain rfl:i=Z M:=by omega
   rw[UB g.1 hs]at hw;exact hv w hw
theorem JB:∀(l:List aK) (n:Nat),l.foldl (λ n e=>min n (val e)) n<=n/\∀e∈l,l.foldl (λ n e=>min n (val e)) n<=val e
 | [],n=>⟨aI _,λ _ h=>(by cases h)⟩
 |x::l,n=>by
  obtain⟨h1,h2⟩:=JB l (min n (val x));refine⟨dm h1 (Ec _ _),λ e he=>?_⟩;rcases cG.1 he with rfl|he
  .exact dm h1 (Ed _ _)
  .exact h2 e he
variable {e:aK}
def least_le{l:List aK}(h:e∈l):least l<=val e:=by
 cases l with
 |nil=>cases h
 |cons x l=>
  rcases cG.1 h with rfl|h
  .exact(JB l _).1
  .exact(JB l _).2 e h
theorem ON:∀(l:List aK) (n:Nat),l.foldl (λ n e=>min n (val e)) n=n\/∃e∈l,l.foldl (λ n e=>min n (val e)) n=val e
 | [],n=>.inl rfl
 |x::l,n=>by
  rw[mu];rcases ON l (min n (val x))with h|⟨e,he,h⟩
  .rcases Nat.le_total n (val x)with hl|hl
   .exact .inl (by rw[h,nf hl])
   .exact .inr ⟨x,cJ,by rw[h,BI hl]⟩
  .exact .inr ⟨e,cV _ he,h⟩
def yR{l:List aK}(h:l≠ []):∃e∈l,least l=val e:=by
 cases l with
 |nil=>exact aU rfl h
 |cons x l=>
  rcases ON l (val x)with h|⟨e,he,h⟩
  .exact⟨x,cJ,h⟩
  .exact⟨e,cV _ he,h⟩
def ot(d:Nat)(p:List UInt8)(l:List aK):Prop:=∀e∈l,e.word.take d=p/\d<=Z e.word
variable {d:Nat}
def MF{p:List UInt8}(h:e.word.take d=p):e.word=p++e.word.drop d:=by rw[<-h,tZ]
def yx:aR d e=V↔Z e.word<=d:=List.getElem?_eq_none_iff
def I8{b:UInt8}(h:aR d e=U b):e.word.drop d=b::e.word.drop (d+1):=by
 obtain⟨hd,rfl⟩:=bU.1 h;rw[mq hd]
def NH(h:aR d e=V):e.word.drop d=[]:=Hh.2 (yx.1 h)
def qbh{p a b:List UInt8}:lt (p++a) (p++b)↔lt a b:=by
 induction p with
 |nil=>rfl
 |cons x p ih=>
  unfold lt at ih⊢;rw[iP,iP,<-ih];simp[b6]
def qbi{x y:UInt8}{a b:List UInt8}(h:lt (x::a) (y::b)):x<=y:=by
 unfold lt at h;simp only[b6]at h;rcases ec x.toNat y.toNat with hx|hx
 .exact BG hx
 .rcases ec y.toNat x.toNat with hy|hy
  .simp_all;omega
  .exact UInt8.le_iff_toNat_le.2 hy
def qbj{a:List UInt8}:¬lt a []:=by
 unfold lt;cases a<;>simp[b6]
def Cd{p:List UInt8}{x y:aK}(hx:x.word.take d=p)(hy:y.word.take d=p)(h:lt x.word y.word):∃c,aR d y=U c/\∀b,aR d x=U b->b<=c:=by
 rw[MF hx,MF hy,qbh]at h;cases hq:aR d y with
 |none=>rw[NH hq]at h;exact aU h qbj
 |some c=>
  refine⟨c,rfl,λ b hb=>?_⟩;rw[I8 hb,I8 hq]at h;exact qbi h
theorem zQ{p:aK->Bool}:∀{l:List aK},dk l->dk (l.filter p)
 | [],_=>trivial
 |x::l,h=>by
  rw[iD];split
  .exact⟨λ y hy=>h.1 y (qn.1 hy).1,zQ h.2⟩
  .exact zQ h.2
def D(d less:Nat)(e:aK):List UInt8×Nat:=(e.word.drop d,val e-less)
theorem Kx{p:List UInt8}{b:UInt8}:∀{r:List aK},dk r->ot d p r->(∀y∈r,∃c,aR d y=U c/\b<=c)->r=r.filter (λ x=>decide (aR d x=U b))++r.filter (λ x=>decide (aR d x≠U b))
 | [],_,_,_=>rfl
 |x::r,ha,hb,h=>by
  obtain⟨c,hc,hbc⟩:=h x cJ;rw[iD,iD];by_cases hcb:c=b
  .subst hcb;rw[aA (by simp[hc]),ax (by simp[hc]),iP];congr 1;exact Kx ha.2 (λ e he=>hb e (cV _ he)) λ y hy=>h y (cV _ hy)
  .rw[ax (by simp[hc,hcb]),aA (by simp[hc,hcb])];have hall:∀y∈r,aR d y≠U b:=by
    intro y hy hyb;obtain⟨c',h1,h2⟩:=Cd (hb x cJ).1 (hb y (cV _ hy)).1 (ha.1 y hy);have:=h2 c hc;rw[hyb]at h1;cases h1;exact hcb (UInt8.le_antisymm this hbc)
   rw[List.filter_eq_nil_iff.2 (λ y hy=>by simpa using hall y hy),Bx.2 (λ y hy=>by simpa using hall y hy)];rfl
def nh(M:List aw)(q:List aw×Nat)(l:List aK)(d less:Nat):Prop:=
 Good q.1/\M<+:q.1/\q.2<q.1.length/\((q.1=M/\q.2<Z M)\/(Z M<=q.2/\q.1.length=q.2+1))/\ws q.1 q.2=l.map (D d less)/\(Z M<=q.2->∀k,q.2<k->og q.1 k q.2 (Z M)=U q.1.length)
def L4(rec:List aK->Nat->List aw->List aw×Nat)(d n:Nat)(p:List UInt8):Prop:=
 ∀own M b,Good M->own≠ []->dk own->ot (d+1) (p++[b]) own->(∀e∈own,Z e.word<n/\val e<=4294967296)->nh M (rec own (least own) M) own (d+1) (least own)
variable {n:Nat}
theorem HS{rec:List aK->Nat->List aw->List aw×Nat}{less:Nat}{p:List UInt8}(hrec:L4 rec d n p):
 ∀(r:List aK) (qi8:List cr) (M:List aw),Good M->dk r->ot d p r->(∀e∈r,Z e.word<n/\val e<=4294967296)->(∀e∈r,less<=val e)->
  (∀y∈r,∀b,(qi8.getLast?).map (·.byte)=U b->∃c,aR d y=U c/\b<=c)->
  ∃new,(cT rec d less r qi8 M).2=qi8++new/\Good (cT rec d less r qi8 M).1/\M<+:(cT rec d less r qi8 M).1/\(new.map (·.byte)).Pairwise (·<·)/\
   (∀a∈new,∀b,(qi8.getLast?).map (·.byte)=U b->b<a.byte)/\(∀a∈new,a.to<(cT rec d less r qi8 M).1.length)/\
   ((cT rec d less r qi8 M).1=M\/∃a∈new,a.to+1=(cT rec d less r qi8 M).1.length)/\
   new.flatMap (iz (cT rec d less r qi8 M).1)=(r.filter λ x=>decide (aR d x≠V/\aR d x≠(qi8.getLast?).map (·.byte))).map (D d less)/\
   ∀k,(cT rec d less r qi8 M).1.length<=k->new.foldl (mX (cT rec d less r qi8 M).1 k) (U (Z M))=U (cT rec d less r qi8 M).1.length
 | [],qi8,M,g,_,_,_,_,_=>by
  unfold cT;exact⟨[],by simp,g,D_ _,by simp,λ a ha=>(by cases ha),λ a ha=>(by cases ha),.inl rfl,by simp,λ k _=>rfl⟩
 |e::r,qi8,M,g,ha,hb,hl,hv,hy=>by
  have hb':ot d p r:=λ x hx=>hb x (cV _ hx)
  have hl':∀x∈r,Z x.word<n/\val x<=4294967296:=λ x hx=>hl x (cV _ hx)
  have hv':∀x∈r,less<=val x:=λ x hx=>hv x (cV _ hx)
  unfold cT;by_cases hskip:aR d e=V\/(qi8.getLast?).map (·.byte)=aR d e
  .rw[aA hskip];obtain⟨new,h1,h2,h3,h4,h5,h6,h7,h8,h9⟩:=HS hrec r qi8 M g ha.2 hb' hl' hv' λ y hr b=>hy y (cV _ hr) b
   refine⟨new,h1,h2,h3,h4,h5,h6,h7,?_,h9⟩;rw[h8,iD,ax];rcases hskip with h|h
   .simp[h]
   .simp[h]
  .rw[ax hskip];simp only[not_or]at hskip;obtain⟨hn,hla⟩:=hskip;obtain⟨b,hbe⟩:∃b,aR d e=U b:=L2.1 hn;have hge:∀y∈e::r,∃c,aR d y=U c/\b<=c:=by
    intro y hyr;rcases cG.1 hyr with rfl|hyr
    .exact⟨b,hbe,UInt8.le_refl _⟩
    .obtain⟨c,h1,h2⟩:=Cd (hb e cJ).1 (hb' y hyr).1 (ha.1 y hyr);exact⟨c,h1,h2 b hbe⟩
   have hown:∀x∈(e::r).filter (λ x=>decide (aR d x=aR d e)),x∈e::r/\aR d x=U b:=by
    intro x hx;obtain⟨h1,h2⟩:=qn.1 hx;exact⟨h1,by rw[<-hbe];simpa using h2⟩
   have hne:(e::r).filter (λ x=>decide (aR d x=aR d e))≠ []:=by
    intro h;have:e∈(e::r).filter (λ x=>decide (aR d x=aR d e)):=qn.2 ⟨cJ,by simp⟩;rw[h]at this;cases this
   have hsplit:=Kx (b:=b) ha hb hge;have hbo:ot (d+1) (p++[b]) ((e::r).filter λ x=>decide (aR d x=aR d e)):=by
    intro x hx;obtain⟨h1,h2⟩:=hown x hx;obtain⟨hd,he⟩:=bU.1 h2;refine⟨?_,hd⟩;rw[d_ hd,(hb x h1).1,he]
   generalize hO:(e::r).filter (λ x=>decide (aR d x=aR d e))=own at hown hne hbo;obtain⟨r1,r2,r3,r4,r5,r6⟩:=hrec own M b g hne (hO▸zQ ha) hbo λ x hx=>hl x (hown x hx).1
   generalize hq:rec own (least own) M=q at r1 r2 r3 r4 r5 r6;have hlast:(((qi8++[(⟨(aR d e).getD 0,least own-less,q.2⟩:cr)]).getLast?).map (·.byte))=U b:=by
    rw[List.getLast?_append];simp[hbe]
   obtain⟨new,h1,h2,h3,h4,h5,h6,h7,h8,h9⟩:=HS hrec r (qi8++[⟨(aR d e).getD 0,least own-less,q.2⟩]) q.1 r1 ha.2 hb' hl' hv' (by
    intro y hyr b' hb2;rw[hlast]at hb2;cases hb2;exact hge y (cV _ hyr))
   generalize cT rec d less r (qi8++[⟨(aR d e).getD 0,least own-less,q.2⟩]) q.1=z at h1 h2 h3 h4 h5 h6 h7 h8 h9;have hqz:q.2<z.1.length:=c9 r3 h3.length_le;refine⟨⟨(aR d e).getD 0,least own-less,q.2⟩::new,by rw[h1,iC];rfl,h2,r2.trans h3,?_,?_,?_,?_,?_,?_⟩
   .rw[lK,zy];refine⟨λ c hc=>?_,h4⟩;obtain⟨a,ha1,rfl⟩:=eH.1 hc;have:=h5 a ha1 b hlast;simpa[hbe]using this
   .intro a ha1 b' hb2;have hlt:b'<b:=by
     obtain⟨c,h1,h2⟩:=hy e cJ b' hb2;rw[hbe]at h1;cases h1;refine UInt8.lt_of_le_of_ne h2 λ h=>hla ?_
     rw[hb2,hbe,h]
    rcases cG.1 ha1 with rfl|ha1
    .simpa[hbe]using hlt
    .exact UInt8.lt_trans hlt (h5 a ha1 b hlast)
   .intro a ha1;rcases cG.1 ha1 with rfl|ha1
    .exact hqz
    .exact h6 a ha1
   .rcases h7 with h7|⟨a,ha1,h7⟩
    .rcases r4 with⟨r4,-⟩|⟨-,r4⟩
     .exact .inl (h7.trans r4)
     .exact .inr ⟨_,cJ,by rw[h7];exact r4.symm⟩
    .exact .inr ⟨a,cV _ ha1,h7⟩
   .rw[mr,h8,hlast];have hall:(e::r).filter (λ x=>decide (aR d x≠V/\aR d x≠(qi8.getLast?).map (·.byte)))=e::r:=by
     rw[Bx];intro y hyr;obtain⟨c,h1,h2⟩:=hge y hyr;simp only[ne_eq,decide_not,Bool.decide_and,h1,reduceCtorEq,not_false_eq_true,decide_true,tR,decide_false,vg];simp only[Bool.not_eq_eq_eq_not,ri,decide_eq_false_iff_not];intro hc;obtain⟨c',h3,h4⟩:=hy e cJ c hc.symm;rw[hbe]at h3;cases h3;have:c=b:=UInt8.le_antisymm h4 h2;subst this;exact hla (by rw[<-hc,hbe])
    rw[hall]
    conv=>rhs;rw[hsplit]
    rw[gg];congr 1
    .have hO':(e::r).filter (λ x=>decide (aR d x=U b))=own:=by rw[<-hO,hbe]
     rw[hO'];unfold iz;simp only
     rw[G4 r1.1 h3 r3,r5,xR];refine List.map_congr_left λ x hx=>?_
     obtain⟨h1,h2⟩:=hown x hx;have hle:=least_le hx;have hll:less<=least own:=by
      obtain⟨y,hy1,hy2⟩:=yR hne;rw[hy2];exact hv y (hown y hy1).1
     simp only[Function.comp,D,hbe,sU];rw[I8 h2];congr 1;omega
    .congr 1;rw[iD,ax (by simp[hbe])];refine List.filter_congr λ y hyr=>?_
     obtain⟨c,h1,-⟩:=hge y (cV _ hyr);simp[h1]
   .intro k hk;rw[mu];have:mX z.1 k (U (Z M)) ⟨(aR d e).getD 0,least own-less,q.2⟩=U q.1.length:=by
     unfold mX;show(if Z M<=q.2 then og z.1 k q.2 (Z M)else U (Z M))=_;rcases r4 with⟨r4,r4'⟩|⟨r4,-⟩
     .rw[ax (by omega),r4]
     .rw[aA r4,LD r1.1 h3 k q.2 (Z M) r3];exact r6 r4 k (by omega)
    rw[this];exact h9 k hk
theorem OD{less:Nat}:∀{l:List aK} {o:Bool×Nat},(∀e∈l,aR d e≠V)->l.foldl (λ s e=>if aR d e=V then(ae,val e-less)else s) o=o
 | [],_,_=>rfl
 |x::l,o,h=>by
  rw[mu,ax (h x cJ)];exact OD λ e he=>h e (cV _ he)
def Zj{less:Nat}{p:List UInt8}:∀{l:List aK},dk l->ot d p l->((eh d less l).1=ag->(eh d less l).2=0)/\
 l.map (D d less)=(if(eh d less l).1 then [([],(eh d less l).2)]else [])++(l.filter λ x=>decide (aR d x≠V)).map (D d less)
 | [],_,_=>⟨λ _=>rfl,rfl⟩
 |x::l,ha,hb=>by
  have hs:∀y∈l,aR d y≠V:=by
   intro y hy;obtain⟨c,h1,-⟩:=Cd (hb x cJ).1 (hb y (cV _ hy)).1 (ha.1 y hy);rw[h1];simp
  have hf:l.filter (λ x=>decide (aR d x≠V))=l:=Bx.2 λ y hy=>by simpa using hs y hy
  unfold eh;rw[mu,OD hs,iD,hf];by_cases hx:aR d x=V
  .have h1:decide (aR d x≠V)=ag:=by simp[hx]
   rw[h1];simp[hx,D,NH hx]
  .have h1:decide (aR d x≠V)=ae:=by simpa using hx
   rw[h1];simp[hx]
theorem Lh:∀(f:Nat) (l:List aK) (d:Nat) (p:List UInt8) (M:List aw),Good M->l≠ []->dk l->ot d p l->(∀e∈l,Z e.word<d+f/\val e<=4294967296)->nh M (dv f l d (least l) M) l d (least l)
 |0,l,d,p,M,g,hne,ha,hb,hl=>by
  obtain⟨x,hx⟩:=Bw l hne;have:=(hl x hx).1;have:=(hb x hx).2;omega
 |f+1,l,d,p,M,g,hne,ha,hb,hl=>by
  have hrec:L4 (λ own n M=>dv f own (d+1) n M) d (d+(f+1)) p:=λ own M b g1 h1 h2 h3 h4=>Lh f own (d+1) (p++[b]) M g1 h1 h2 h3 λ e he=>⟨by have:=(h4 e he).1;omega,(h4 e he).2⟩
  obtain⟨new,h1,h2,h3,h4,-,h6,h7,h8,h9⟩:=HS (less:=least l) hrec l [] M g ha hb hl (λ e he=>least_le he) (λ y hy b hb=>by cases hb);obtain⟨f1,f2⟩:=Zj (less:=least l) ha hb;unfold dv;generalize cT (λ own n M=>dv f own (d+1) n M) d (least l) l [] M=z at h1 h2 h3 h4 h6 h7 h8 h9;generalize eh d (least l) l=o at f1 f2;rw[lL]at h1;rw[h1];have hf0:(l.filter λ x=>decide (aR d x≠V/\aR d x≠(([]:List cr).getLast?).map (·.byte)))=l.filter λ x=>decide (aR d x≠V):=List.filter_congr λ x _=>by simp
  rw[hf0]at h8;have hw:l.map (D d (least l))=(if o.1 then [([],o.2)]else [])++new.flatMap (iz z.1):=by rw[h8];exact f2
  have hs:AI z.1.length ⟨o.1,o.2,new⟩:=by
   refine⟨f1,h4,h6,?_,?_⟩
   .cases ho:o.1 with
    |true=>exact .inl rfl
    |false=>
     refine .inr λ hn=>?_
     simp only at hn;rw[ho,hn]at hw;simp at hw;exact hne hw
   .obtain⟨x,hx,hxv⟩:=yR hne;have hm:D d (least l) x∈l.map (D d (least l)):=eH.2 ⟨x,hx,rfl⟩;rw[hw]at hm;have hx0:(D d (least l) x).2=0:=by unfold D;simp only;omega
    rcases mw.1 hm with hm|hm
    .cases ho:o.1 with
     |true=>
      rw[ho,aA rfl,dX]at hm;rw[hm]at hx0;exact .inl ⟨rfl,hx0⟩
     |false=>
      rw[ho]at hm;simp at hm
    .obtain⟨a,ha1,ha2⟩:=BD.1 hm;obtain⟨w,-,hw2⟩:=eH.1 ha2;rw[<-hw2]at hx0;exact .inr ⟨a,ha1,by simp only at hx0;omega⟩
  cases hi:z.1.findIdx? (λ x=>decide (x=⟨o.1,o.2,new⟩))with
  |some j=>
   rw[F6 hi];have hj:=JK hi;have hjl:j<z.1.length:=(bU.1 hj).1;have hz:z.1=M:=by
    rcases h7 with h7|⟨a,ha1,h7⟩
    .exact h7
    .have:=(h2.1 j _ hj).2.2.1 a ha1;omega
   refine⟨h2,h3,hjl,.inl ⟨hz,by rw[<-hz];exact hjl⟩,?_,λ h=>?_⟩
   .rw[hw,rf h2.1 hj]
   .simp only at h;rw[<-hz]at h;omega
  |none=>
   rw[F7 hi];have hn:=Pv hi;have g2:=Zu h2 hs hn λ w hw1=>by
    rw[<-hw]at hw1;obtain⟨x,hx,rfl⟩:=eH.1 hw1;exact dm (Nat.sub_le _ _) (hl x hx).2
   have hget:(z.1++[(⟨o.1,o.2,new⟩:aw)])[z.1.length]?=U ⟨o.1,o.2,new⟩:=by rw[eV (aI _),iQ];rfl
   have hp:z.1<+:z.1++[(⟨o.1,o.2,new⟩:aw)]:=D9 _ _;refine⟨g2,h3.trans hp,by simp,.inr ⟨h3.length_le,by simp⟩,by rw[hw];exact UB h2.1 hs,λ _ k hk=>?_⟩
   .simp only at hk;obtain⟨k',rfl⟩:∃k',k=k'+1:=⟨k-1,by omega⟩;rw[GX hget];have:List.foldl (mX (z.1++[(⟨o.1,o.2,new⟩:aw)]) k') (U (Z M)) new=U z.1.length:=by
     rw[<-h9 k' (by omega)];refine fold_congr λ a ha1 b=>?_
     unfold mX;congr 1;funext L;rw[LD h2.1 hp k' a.to L (h6 a ha1)]
    show(List.foldl (mX (z.1++[(⟨o.1,o.2,new⟩:aw)]) k') (U (Z M)) new).bind _=_;rw[this];simp
end Go.Sto
namespace Go.Proofs.YtjoceidiioppiaaGreatDoor.sto
open Go.Am Go.Mdl Go.Sto
def Ue:aT.aB 59=U (.int .u32):=by kernel_rfl
def AQ:bk aT 61=.ok 3:=by kernel_rfl
variable {b:Nat}
def NL:bK aT 61 (pw b 0) 1=.ok (pw b 1):=by kernel_rfl
def Fa:bK aT 61 (pw b 0) 2=.ok (pw b 2):=by kernel_rfl
def aX(e:aK):List I:=[ai e.word,.int .u32 e.weight,.bool e.gone]
def aQ(A:Mem)(e:au)(l:List I):VB (A.alloc (af e l)) e A.next (.var (Z l)) l:=⟨by rw[aG];omega,xF A e l⟩
def Rc{a:Nat}(h:a+b<18446744073709551616):a_ .add .u64 (a:Int) (b:Int)=.ok (uN (a+b)):=e_ (fM h)
variable {A:Mem}{e:aK}
def qfT(he:e.weight<4294967296):az aT 207 [.agg ⟨aX e⟩] A (.int .u64 (val e:Nat)) (A.alloc (af 61 (aX e))):=by
 have hv:=aQ A 61 (aX e);have l1:aj aT (A.alloc (af 61 (aX e))).get 59 (.pointer (U ⟨A.next,1,V⟩))=.ok (.int .u32 e.weight):=hv.ld rfl Ue rfl;have l2:aj aT (A.alloc (af 61 (aX e))).get 4 (.pointer (U ⟨A.next,2,V⟩))=.ok (.bool e.gone):=hv.ld rfl Bh rfl;have c1:=eX (tb:=aT) (s:=59) (d:=113) (k:=.u32) (n:=e.weight) (by rw[Ue];rfl) pG (fM (by omega));unfold val;cases hg:e.gone with
 |true=>
  rw[hg]at l2;refine cq 60 (cM Tryz.func207) (by kernel_rfl) λ M=>?_
  simp(disch:=first|decide+kernel|omega)only[Tryz.f207,Aq,aa,a7,Fa,l2]<;>rfl
 |false=>
  rw[hg]at l2;refine cq 60 (cM Tryz.func207) (by kernel_rfl) λ M=>?_
  simp(disch:=first|decide+kernel|omega)only[Tryz.f207,Aq,aa,a7,NL,Fa,l1,l2,c1,Rc]<;>rfl
def yn(e:aK):List I:=[.agg ⟨aX e⟩]
def Pt{x y:aK}(h:yn x=yn y):x=y:=by
 obtain⟨w,n,g⟩:=x;obtain⟨w',n',g'⟩:=y;simp only[yn,aX,gq,Value.agg.injEq,G9,Value.int.injEq,Value.bool.injEq,and_true,true_and]at h;obtain⟨h1,h2,h3⟩:=h;have h1:w=w':=by unfold ai at h1;simpa using h1
 cases zr h2;subst h1 h3;rfl
variable {w:List UInt8}
def qeB:az aT 246 [ai w] A (.bool (decide (1<=Z w/\Z w<=255))) A:=by
 have hl:=gB (tb:=aT) (t:=9) (l:=w) mh;by_cases h1:1<=Z w<;>by_cases h2:Z w<=255
 all_goals
  refine cq 60 (cM Tryz.func246) (by kernel_rfl) λ M=>?_
  simp(config:={maxSteps:=4000000})(disch:=first|decide+kernel|omega|simp only[Wq,aa])only[Tryz.f246,Aq,av,reduceIte,aa,ak,hl,iZ,tM,gA,h1,h2,and_true,true_and,and_false,false_and]<;>rfl
def qeK:az aT 132 [ai w] A (.bool (decide (0<Z w/\Z w<=64))) A:=by
 have hl:=gB (tb:=aT) (t:=9) (l:=w) mh;by_cases h1:0<Z w<;>by_cases h2:Z w<=64
 all_goals
  refine cq 60 (cM Tryz.func132) (by kernel_rfl) λ M=>?_
  simp(config:={maxSteps:=4000000})(disch:=first|decide+kernel|omega|simp only[Wq,aa])only[Tryz.f132,Aq,av,reduceIte,aa,ak,hl,dM,tM,gA,dK,h1,h2,and_true,true_and,and_false,false_and]<;>rfl
variable {n:Nat}
def qeQ(hn:n<1099511627776):az aT 216 [.int .u64 n] A (.int .i64 n) A:=by
 have m1:c_ aT .min [113,113] [.int .u64 n,uN 1099511627776]=.ok (.int .u64 n):=by
  rw[Qj,nf (by omega)]
 have c1:=eX (tb:=aT) (s:=113) (d:=3) (k:=.u64) (n:=n) (by rw[pG];rfl) u7 (ct (by omega));refine cq 60 (cM Tryz.func216) (by kernel_rfl) λ M=>?_
 simp(disch:=first|decide+kernel|omega)only[Tryz.f216,Aq,aa,m1,c1]<;>rfl
def qfN{f:Bool}:az aT 202 [.agg ⟨[.int .u64 n,.bool f]⟩] A (.bool (f&&decide (n<=4294967296))) (A.alloc (af 280 [.int .u64 n,.bool f])):=by
 have hv:=aQ A 280 [.int .u64 n,.bool f];have l1:aj aT (A.alloc (af 280 [.int .u64 n,.bool f])).get 113 (pw A.next 0)=.ok (.int .u64 n):=hv.ld rfl pG rfl;have l2:aj aT (A.alloc (af 280 [.int .u64 n,.bool f])).get 4 (pw A.next 1)=.ok (.bool f):=hv.ld rfl Bh rfl;have f0:∀b,bK aT 280 (pw b 0) 0=.ok (pw b 0):=λ b=>by kernel_rfl
 have f1:∀b,bK aT 280 (pw b 0) 1=.ok (pw b 1):=λ b=>by kernel_rfl
 cases f
 all_goals
  refine cq 60 (cM Tryz.func202) (by kernel_rfl) λ M=>?_
  simp(config:={maxSteps:=4000000})(disch:=first|decide+kernel|omega|simp only[Wq,aa])only[Tryz.f202,Aq,av,reduceIte,aa,ak,a7,f0,f1,l1,l2,tM,gA,tR,Bo]<;>rfl
abbrev I7:List UInt8:=[48,49,50,51,52,53,54,55,56,57,97,98,99,100,101,102,103,104,105,106,107,108,109,110,111,112,113,114,115,116,117,118,119,120,121,122]
def oF(d:Nat):UInt8:=I7.getD d 0
def lZ:Nat->Nat->List UInt8
 |0,_=>[]
 |k+1,n=>if n<36 then [oF n]else lZ k (n/36)++[oF (n % 36)]
def nY(n:Nat):List UInt8:=lZ 13 n
theorem I5:∀k n,(lZ k n).length<=k
 |0,_=>aI _
 |k+1,n=>by
  unfold lZ;split
  .simp
  .rw[aY];have:=I5 k (n/36);simp;omega
def GV(c:UInt8):Nat:=if c<58 then c.toNat-48 else c.toNat-87
def GW:∀d,d<36->GV (oF d)=d/\48<=(oF d).toNat:=by decide
theorem I6:∀k n,n<36^k->(lZ k n).foldl (λ a c=>36*a+GV c) 0=n
 |0,n,h=>by simp at h;subst h;rfl
 |k+1,n,h=>by
  unfold lZ;split
  .rename_i h1;show 36*0+GV (oF n)=n;rw[(GW n h1).1];omega
  .rw[tV,I6 k (n/36) (by rw[zE]at h;omega)];show 36*(n/36)+GV (oF (n % 36))=n;rw[(GW _ (jV _ (by omega))).1];omega
theorem E9:∀k n,∀c∈lZ k n,48<=c.toNat
 |0,_,c,h=>by cases h
 |k+1,n,c,h=>by
  unfold lZ at h;split at h
  .rename_i h1;rw[dX.1 h];exact(GW n h1).2
  .rcases mw.1 h with h|h
   .exact E9 k _ c h
   .rw[dX.1 h];exact(GW _ (jV _ (by omega))).2
def qiG:dj aT 372=.ok (.agg ⟨fQ 65 (.int .u8 0)⟩):=by kernel_rfl
def Uh:aT.aB 372=U (.array 65 5):=by kernel_rfl
variable {i:Nat}
def PI(h:i<65):eE aT 372 (pw b 0) (.int .i64 i)=.ok (pw b i):=by
 have:=JN (b:=b) (o:=0) (k:=.i64) Uh xr h;rwa[ep]at this
variable {o c:Nat}{l:List I}
def qht{k:Kd}{e:au}(h:dp A e b k l)(hw:l.drop o=c6 w)(h0:w≠ []):gO aT A.get 74 9 (.slice (U ⟨b,o,V⟩) (Z w) c)=.ok (ai w):=by
 obtain⟨cs,h1,h2⟩:=h;have hg:cs.hZ (Z w) o=U (c6 w):=px cs (Z w) o (c6 w) (iS w) (λ j hj=>by
  have e1:(c6 w)[j]?=l[o+j]?:=by rw[<-hw,xP]
  rw[e1];refine h2 (o+j) ?_;have:=cX Z hw;rw[vu,iS]at this;omega)
 have hb:aL (Z w) 0=ag:=by
  cases hq:aL (Z w) 0 with
  |false=>rfl
  |true=>
   have:=eW hq;exact aU (eN.1 (by omega)) h0
 unfold gO;simp only[zc,mh,kx,zb,gh,hb,bJ,h1,qq,hg,R.aW];rw[show bytesOf (c6 w)=.ok w from Cn w];rfl
def qgS(h:i<65):iL aT 372 (.pointer (U ⟨b,0,V⟩)) (U (.int .i64 i)) V V=.ok (.slice (U ⟨b,i,V⟩) (65-i) (2*(65-i))):=by
 have e1:bound (U (.int .i64 i)) 0 65=.ok i:=by
  show(bif av i 65 then R.ok i else _)=_;rw[show av i 65=ae by rw[sS];omega];rfl
 have e2:bound V 65 65=.ok 65:=rfl;have e3:aL 65 i=ag:=by
  cases hq:aL 65 i with
  |false=>rfl
  |true=>have:=eW hq;omega
 unfold iL;simp only[Uh,e2,e1,R.aW,xr,e3,bJ,g_,qq,ep]
variable {d:Nat}
def Nm{kd:cS}(h:d<36):uL aT 9 (ai I7) (.int kd (d:Int))=.ok (bN ((oF d).toNat)):=mO mh h
def N0(t:T I):ev t (.const (.string ⟨#[48,49,50,51,52,53,54,55,56,57,97,98,99,100,101,102,103,104,105,106,107,108,109,110,111,112,113,114,115,116,117,118,119,120,121,122]⟩))=.ok (ai I7):=rfl
def gN:=cu qB
def IC:aH:=sub gN [1,1,1,1,1,0,1,1,1,0,0,0]
def Xk:qB.body=U (.seq (sub gN [0]) (.seq (sub gN [1,0]) (.seq (sub gN [1,1,0]) (.seq (sub gN [1,1,1,0]) (.seq (sub gN [1,1,1,1,0]) (.seq (.seq (sub gN [1,1,1,1,1,0,0]) (sub gN [1,1,1,1,1,0,1])) (.seq (sub gN [1,1,1,1,1,1,0]) (.seq (sub gN [1,1,1,1,1,1,1,0]) (.seq (sub gN [1,1,1,1,1,1,1,1,0]) (sub gN [1,1,1,1,1,1,1,1,1])))))))))):=by kernel_rfl
def Xj:sub gN [1,1,1,1,1,0,1]=.cond (.tmp 34) (sub gN [1,1,1,1,1,0,1,0]) (.seq (sub gN [1,1,1,1,1,0,1,1,0]) (.seq (.block 2 (.loop IC)) (.seq (sub gN [1,1,1,1,1,0,1,1,1,1,0]) (sub gN [1,1,1,1,1,0,1,1,1,1,1])))):=by kernel_rfl
def qe6:az aT 276 [iN 36] A (.bool ag) A:=by
 have e:a_ .and .i64 ((36:Nat):Int) ((35:Nat):Int)=.ok (iN 32):=by kernel_rfl
 have e2:a_ .sub .i64 ((36:Nat):Int) ((1:Nat):Int)=.ok (iN 35):=by kernel_rfl
 refine cq 60 (cM Tryz.func276) (by kernel_rfl) λ M=>?_
 simp only[Tryz.f276,Aq,aa,e,e2]<;>rfl
def qdL(hn:n<18446744073709551616):∃v A',az aT 234 [.slice V 0 0,.int .u64 n,iN 36,.bool ag,.bool ag] A v A'/\v=.tuple ⟨[.slice V 0 0,ai (nY n)]⟩:=by
 refine cZ (cM Tryz.func234) Xk (by kernel_rfl) ?_;obtain⟨g,hg⟩:=qe6 (A:=A.alloc (af 372 (fQ 65 (.int .u8 0))));apply W.q2
 .intro M _;simp(disch:=first|decide+kernel|omega|simp only[Wq,aa])only[gN,qB,Aq,aa,av,reduceIte,ak,dM,dK,Nat.reduceLT];rfl
 apply W.q2
 .intro M _;simp(disch:=omega)only[gN,qB,Aq,aa,qiG,a7];rfl
 apply W.q
 .intro M;simp(disch:=first|decide+kernel|omega)only[gN,qB,Aq,aa];rfl
 apply W.seq;apply W.seq;apply W.cC (g) 20
 .intro M hM;simp(disch:=first|decide+kernel|omega)only[gN,qB,Aq,aa,hg];rfl
 show W aT (sub gN [1,1,1,1,1,0,1]) _ _;rw[Xj];refine W.cond (p:=ag) (by simp only[T.bR,aa,bB,bg,qP,qO]) (λ h=>by cases h) λ _=>?_
 have cv:=eX (tb:=aT) (s:=3) (d:=113) (k:=.i64) (n:=36) (by rw[u7];rfl) pG (fM (by omega));apply W.q
 .intro M;simp(disch:=first|decide+kernel|omega)only[gN,qB,Aq,aa,cv];rfl
 apply W.seq;apply W.block;refine W.up 12 (λ j t D=>∃l u w,D=A.alloc (af 372 l)/\Z l=65/\(∀v∈l,bS v=ae)/\nY n=lZ (13-j) u++w/\u<36^(13-j)/\u<18446744073709551616/\Z w=j/\l.drop (65-j)=c6 w/\Sl t [(1,.int .u64 u),(3,.bool ag),(4,.bool ag),(10,.slice V 0 0),(12,pw A.next 0),(13,iN (65-j)),(17,uN 36)]) ?_ (a8 _) ⟨_,n,[],rfl,by simp,by simp[bS],by rw[jT];rfl,by omega,hn,rfl,by rw[DW (by simp)];rfl,?_⟩
 .rintro j t D hj ⟨l,u,w,rfl,hl,h1,hd,hu,hu2,hw,hdr,g1,g3,g4,g10,g12,g13,g17,-⟩;have s1:a_ .sub .i64 ((65-j:Nat):Int) ((1:Nat):Int)=.ok (iN (65-(j+1))):=by rw[eQ (by omega) (ct (by omega)),show 65-j-1=65-(j+1) by omega]
  have st:∀c:UInt8,cm aT (A.alloc (af 372 l)) 5 (pw A.next (65-(j+1))) (bN c.toNat)=.ok (A.alloc (af 372 (l.set (65-(j+1)) (bN c.toNat)))):=λ c=>se xr rfl rfl (by omega)
  have hset:∀c:UInt8,(l.set (65-(j+1)) (bN c.toNat)).drop (65-(j+1))=c6 (c::w):=λ c=>by
   rw[mq (by rw[dS];omega),List.getElem_set_self,show 65-(j+1)+1=65-j by omega,List.drop_set_of_lt (by omega),hdr];rfl
  obtain⟨k,hk⟩:∃k,13-j=k+1:=⟨12-j,by omega⟩;rw[hk]at hd hu;by_cases hge:36<=u
  .have q1:=Gb (b:=36) hu2 (by omega);have m1:a_ .mul .u64 ((u/36:Nat):Int) ((36:Nat):Int)=.ok (uN (u/36*36)):=AK (fM (by omega));have s2:a_ .sub .u64 ((u:Nat):Int) ((u/36*36:Nat):Int)=.ok (uN (u % 36)):=by rw[eQ (by omega) (fM (by omega)),show u-u/36*36=u % 36 by omega]
   have ix:=Nm (d:=u % 36) (kd:=.u64) (jV _ (by omega));have st1:=st (oF (u % 36));have hd2:lZ (k+1) u=lZ k (u/36)++[oF (u % 36)]:=by rw[lZ,ax (by omega)]
   apply W.run 20
   .intro M;simp(disch:=first|decide+kernel|omega)only[IC,gN,qB,Aq,aa,g1,g12,g13,g17,iZ,gA,hge,s1,q1,m1,s2,N0,ix,PI,st1];rfl
   have hj2:j<12:=by
    rcases ec j 12 with h|h
    .exact h
    .have e:k=0:=by omega
     subst e;simp at hu;omega
   refine⟨hj2,_,_,rfl,_,u/36,oF (u % 36)::w,rfl,by rw[dS];exact hl,λ v hv=>?_,?_,?_,by omega,by rw[cD,hw],hset _,?_⟩
   .rcases zx hv with hv|rfl
    .exact h1 v hv
    .rfl
   .rw[hd,hd2,show 13-(j+1)=k by omega,iC];rfl
   .rw[show 13-(j+1)=k by omega];rw[zE]at hu;omega
   .simp only[Sq,aa,ak,g3,g4,g10,g12,g17]
  .have ix:=Nm (d:=u) (kd:=.u64) (by omega);have st1:=st (oF u);have hd2:lZ (k+1) u=[oF u]:=by rw[lZ,aA (by omega)]
   rw[hd2]at hd;have sl:=qgS (b:=A.next) (i:=65-(j+1)) (by omega);have hsv:gO aT (A.alloc (af 372 (l.set (65-(j+1)) (bN ((oF u).toNat))))).get 74 9 (.slice (U ⟨A.next,65-(j+1),V⟩) (65-(65-(j+1))) (2*(65-(65-(j+1)))))=.ok (ai (nY n)):=by
    have h:=qht (A:=A.alloc (af 372 (l.set (65-(j+1)) (bN ((oF u).toNat))))) (c:=2*(j+1)) (xF A 372 _) (hset (oF u)) (by simp);rw[cD,hw]at h;rw[show 65-(65-(j+1))=j+1 by omega,hd];exact h
   apply W.run 20
   .intro M;simp(disch:=first|decide+kernel|omega)only[IC,gN,qB,Aq,aa,g1,g17,iZ,gA,hge];rfl
   apply W.run 40
   .intro M;simp(disch:=first|decide+kernel|omega)only[gN,qB,Aq,aa,g13,s1,g1,g12,N0,ix,PI,st1];rfl
   apply W.q2
   .intro M _;simp(disch:=first|decide+kernel|omega)only[gN,qB,Aq,aa,g3,g4];rfl
   apply W.run 40
   .intro M;simp(disch:=first|decide+kernel|omega)only[gN,qB,Aq,aa,g12,sl,Kl,hsv];rfl
   exact⟨by simp,rfl,_,(by simp only[qB,Aq,aa,g10]<;>rfl),rfl⟩
 .simp only[Sq,aa,ak]
def qeq(hn:n<18446744073709551616):∃A',az aT 224 [.int .u64 n,iN 36] A (ai (nY n)) A':=by
 obtain⟨v,B,⟨g,hg⟩,rfl⟩:=qdL (A:=A) hn;have h237:az aT 260 [.int .u64 n,iN 36] A (ai (nY n)) B:=by
  refine bX (g) 60 (cM Tryz.func260) (by kernel_rfl) λ M hM=>?_
  simp(disch:=first|decide+kernel|omega)only[Tryz.f260,Aq,aa,hg,c7,dc]<;>rfl
 obtain⟨g2,hg2⟩:=h237;refine⟨B,?_⟩;refine bX (g2) 60 (cM Tryz.func224) (by kernel_rfl) λ M hM=>?_
 simp(disch:=omega)only[Tryz.f224,Aq,aa,hg2]<;>rfl
end Go.Proofs.YtjoceidiioppiaaGreatDoor.sto
namespace Go.Proofs.YtjoceidiioppiaaGreatDoor.crc
open Go.Am
noncomputable def aT:aN:=Ls ug.prog .e
def lr:dO aT:=TZ ug _ λ f k fn h=>by cases h
variable {k:Nat}{fn:Func}
def cM(h:dw.funcs[k]?=U fn):aT.fn.get k=U fn:=by
 show(T.ofList ug.prog.funcs.toList).get k=_;rw[T.Ao,gp];exact h
def mh:aT.aB 9=U .string:=by kernel_rfl
def Lz:aT.aB 59=U (.int .u32):=by kernel_rfl
def kx:aT.aB 5=U (.int .u8):=by kernel_rfl
def uw(n b:Nat):Nat:=if n % 2≠b then n/2^^^3988292384 else n/2
variable {n:Nat}
def VS(b:Nat)(h:n<4294967296):uw n b<4294967296:=by
 unfold uw;split
 .exact Eh (n:=32) (by omega) (by omega)
 .omega
def qdK(n b:Nat)(hn:n<4294967296):call aT 30 250 [.int .u32 n,.int .u32 b] ee=.ok (.val (.int .u32 (uw n b)) ee):=by
 unfold call;simp only[cM Tryz.func250];simp only[Tryz.f250,pT,cD,eB];have h2:n/2<4294967296:=by omega
 by_cases hb:n % 2=b
 all_goals
  simp(disch:=first|decide+kernel|omega|simp only[Wq,aa])only[Aq,av,reduceIte,aa,ak,hb];simp[uw,hb]
def qfP(n:Nat)(hn:n<4294967296):call aT 30 249 [.int .u32 n] ee=.ok (.val (wN (4294967295-n)) ee):=by
 unfold call;simp only[cM Tryz.func249];simp only[Tryz.f249,pT,cD,eB];simp(disch:=first|decide+kernel|omega|simp only[Wq,aa])only[Aq,av,reduceIte,aa,ak]
def zR:List I->Option I
 | [.int .u32 (.ofNat n),.int .u32 (.ofNat b)]=>if n<4294967296 then U (.int .u32 (uw n b))else V
 |_=>V
def AY:List I->Option I
 | [.int .u32 (.ofNat n)]=>if n<4294967296 then U (.int .u32 (4294967295-n:Nat))else V
 |_=>V
def ZC:eG aT.P 250 (cH zR):=by
 refine qb lr (cM Tryz.func250) (c:=(Tryz.f250.body).getD .skip) (by kernel_rfl) λ args v h=>?_
 unfold zR at h;split at h
 .rename_i n b;split at h
  .rename_i hn;cases h;exact⟨by simp[flat],by simp[flat],_,_,qdK n b hn⟩
  .cases h
 .cases h
def ZV:eG aT.P 249 (cH AY):=by
 refine qb lr (cM Tryz.func249) (c:=(Tryz.f249.body).getD .skip) (by kernel_rfl) λ args v h=>?_
 unfold AY at h;split at h
 .rename_i n;split at h
  .rename_i hn;cases h;exact⟨by simp[flat],by simp[flat],_,_,qfP n hn⟩
  .cases h
 .cases h
def O:aN:=(aT.nX 250 (cH zR)).nX 249 (cH AY)
def DB:dO O:=fq (fq lr ZC) ZV
variable {A:Mem}{b:Nat}
def call19{ih:aH->St->R (Ex×St)}(hn:n<4294967296):cE O ih (.fn 250 [.int .u32 n,.int .u32 b]) A=.ok (.val (.int .u32 (uw n b)) A):=
 mG (c:=(Tryz.f250.body).getD .skip) (cM Tryz.func250) (by kernel_rfl) (by kernel_rfl) (h:=cH zR) (by kernel_rfl) (by
  unfold cH;show(match zR [.int .u32 (.ofNat n),.int .u32 (.ofNat b)]with|some v=>R.ok (v,A)|none=>.no 600)=_;simp only[zR,aA hn])
def call18{ih:aH->St->R (Ex×St)}(hn:n<4294967296):cE O ih (.fn 249 [.int .u32 n]) A=.ok (.val (wN (4294967295-n)) A):=
 mG (c:=(Tryz.f249.body).getD .skip) (cM Tryz.func249) (by kernel_rfl) (by kernel_rfl) (h:=cH AY) (by kernel_rfl) (by
  unfold cH;show(match AY [.int .u32 (.ofNat n)]with|some v=>R.ok (v,A)|none=>.no 600)=_;simp only[AY,aA hn])
def DH:O.aB 9=U .string:=mh
def Uc:O.aB 59=U (.int .u32):=Lz
def LA:O.aB 5=U (.int .u8):=kx
def KM(p:Nat×Nat):Nat×Nat:=(uw p.1 (p.2 % 2),p.2/2)
def qY:Nat->Nat×Nat->Nat×Nat
 |0,p=>p
 |k+1,p=>KM (qY k p)
theorem Gl{p:Nat×Nat}(h1:p.1<4294967296)(h2:p.2<4294967296):∀k,(qY k p).1<4294967296/\(qY k p).2<4294967296
 |0=>⟨h1,h2⟩
 |k+1=>by
  obtain⟨a,b⟩:=Gl h1 h2 k;refine⟨VS _ a,?_⟩;show(qY k p).2/2<_;omega
def zW(n c:Nat):Nat:=(qY 8 (n,c)).1
variable {c:Nat}
def Wv(h:n<4294967296)(h2:c<4294967296):zW n c<4294967296:=(Gl (p:=(n,c)) h h2 8).1
def sf(n:Nat)(l:List UInt8):Nat:=l.foldl (λ n c=>zW n c.toNat) n
def TV(h:n<4294967296)(l:List UInt8):sf n l<4294967296:=by
 unfold sf
 induction l generalizing n with
 |nil=>exact h
 |cons c l ih=>exact ih (Wv h (by have:=c.toNat_lt;omega))
def lU:=cu np
def nz:aH:=sub lU [1,1,0,1,0,0]
def EB:aH:=sub nz [1,0,0,1,1,0,0]
def MZ:np.body=U (.seq (sub lU [0]) (.seq (sub lU [1,0]) (.seq (.seq (sub lU [1,1,0,0]) (.block 0 (.loop nz))) (.seq (sub lU [1,1,1,0]) (sub lU [1,1,1,1]))))):=by kernel_rfl
def WL:nz=(.seq (.seq (sub nz [0,0]) (sub nz [0,1])) (.seq (.block 1 (.seq (sub nz [1,0,0,0]) (.seq (sub nz [1,0,0,1,0]) (.block 2 (.loop EB))))) (sub nz [1,1]))):=by kernel_rfl
def In(l:List UInt8)(a:Nat)(p:Nat×Nat)(i:Nat)(s:St):Prop:=
 s.n=30/\s.d=[]/\s.ro=V/\s.m=ee/\s.t.get 0=U (ai l)/\s.t.get 4=U (.int .i64 (a:Nat))/\s.t.get 3=U (.int .u32 ((qY i p).1:Nat))/\s.t.get 5=U (.int .u32 ((qY i p).2:Nat))/\s.t.get 6=U (.int .i64 (i:Nat))
def qaf{l:List UInt8}{a n0:Nat}(h1:n0<4294967296)(h2:c<4294967296){s:St}{K:Ex->St->Prop}(h:In l a (n0,c) 0 s)
 (hk:∀t:T I,t.get 0=U (ai l)->t.get 4=U (.int .i64 (a:Nat))->t.get 3=U (.int .u32 (zW n0 c:Nat))->K (.exit 2) ⟨t,30,[],ee,V⟩):W O (.loop EB) s K:=by
 refine W.loop (λ s=>∃i,i<=8/\In l a (n0,c) i s) (λ s=>8-(match s.t.get 6 with|some (.int _ i)=>i.toNat|_=>0)) ?_ ⟨0,by omega,h⟩;rintro⟨t,n,d,m,ro⟩ ⟨i,hi,h01,h02,h03,h04,g0,g4,g3,g5,g6⟩;simp only at h01 h02 h03 h04 g0 g4 g3 g5 g6;subst h01 h02 h03 h04;obtain⟨b1,b2⟩:=Gl (p:=(n0,c)) h1 h2 i;by_cases hlt:i<8
 .apply W.run 20
  .intro m;simp(disch:=first|decide+kernel|omega)only[EB,nz,lU,np,Aq,aa,g0,g3,g4,g5,g6,call19,hlt];rfl
  .refine⟨⟨i+1,by omega,rfl,rfl,rfl,rfl,?_,?_,?_,?_,?_⟩,?_⟩
   .simp only[T.bR,aa,bB,bg,g0]
   .simp only[T.bR,aa,bB,bg,g4]
   .simp only[T.bR,aa,bB,bg];rfl
   .simp only[T.bR,aa,bB,bg];rfl
   .simp only[T.bR,aa,bB,bg]
   .simp only[T.bR,aa,bB,bg,g6,Bt];exact Hu (by omega) (ua _)
 .have h8:i=8:=by omega
  subst h8;apply W.run 20
  .intro m;simp(disch:=first|decide+kernel|omega)only[EB,nz,lU,np,Aq,aa,g0,g3,g4,g5,g6,call19];rfl
  .refine hk _ ?_ ?_ ?_
   .simp only[T.bR,aa,bB,bg,g0]
   .simp only[T.bR,aa,bB,bg,g4]
   .simp only[T.bR,aa,bB,bg,g3];rfl
def Out(l:List UInt8)(k:Nat)(s:St):Prop:=
 s.n=30/\s.d=[]/\s.ro=V/\s.m=ee/\s.t.get 0=U (ai l)/\s.t.get 4=U (.int .i64 (k:Nat))/\s.t.get 3=U (.int .u32 (sf 4294967295 (l.take k):Nat))
def qhw(n:Nat)(l:List UInt8)(k:Nat)(h:k<Z l):sf n (l.take (k+1))=zW (sf n (l.take k)) (l.getD k 0).toNat:=by
 unfold sf;rw[d_ h,tV];simp[List.getD,aZ h]
def qcp{l:List UInt8}(hl:Z l<9223372036854775807){s:St}{K:Ex->St->Prop}(h:Out l 0 s)
 (hk:∀t:T I,t.get 3=U (.int .u32 (sf 4294967295 l:Nat))->K (.exit 0) ⟨t,30,[],ee,V⟩):W O (.loop nz) s K:=by
 refine W.loop (λ s=>∃k,k<=Z l/\Out l k s) (λ s=>Z l-(match s.t.get 4 with|some (.int _ i)=>i.toNat|_=>0)) ?_ ⟨0,by omega,h⟩;rintro⟨t,n,d,m,ro⟩ ⟨k,hk1,h01,h02,h03,h04,g0,g4,g3⟩;simp only at h01 h02 h03 h04 g0 g4 g3;subst h01 h02 h03 h04;have b3:=TV (n:=4294967295) (by omega) (l.take k);have b5:=H8 (l.getD k 0);rw[WL];by_cases hlt:k<Z l
 .apply W.seq;apply W.run 20
  .intro m;simp(disch:=first|decide+kernel|omega)only[nz,lU,np,Aq,aa,g0,g3,g4,gB DH,hlt];rfl
  apply W.seq;apply W.block;apply W.seq;apply W.run 20
  .intro m;simp(disch:=first|decide+kernel|omega)only[nz,lU,np,Aq,aa,g0,g3,g4,mO DH,j',LA,Uc];rfl
  apply W.seq;apply W.run 20
  .intro m;simp(disch:=first|decide+kernel|omega)only[nz,lU,np,Aq,aa];rfl
  apply W.block;refine qaf (l:=l) (a:=k) (n0:=sf 4294967295 (l.take k)) (c:=(l.getD k 0).toNat) b3 (by omega) ⟨rfl,rfl,rfl,rfl,?_,?_,?_,?_,?_⟩ ?_
  .simp only[T.bR,aa,bB,bg,g0]
  .simp only[T.bR,aa,bB,bg,g4]
  .simp only[T.bR,aa,bB,bg,g3];first|done|rfl
  .simp only[T.bR,aa,bB,bg];first|done|rfl
  .simp only[T.bR,aa,bB,bg];first|done|rfl
  intro t2 q0 q4 q3;apply W.run 20
  .intro m;simp(disch:=first|decide+kernel|omega)only[nz,lU,np,Aq,aa,q0,q3,q4];rfl
  refine⟨⟨k+1,by omega,rfl,rfl,rfl,rfl,?_,?_,?_⟩,?_⟩
  .simp only[T.bR,aa,bB,bg,q0]
  .simp only[T.bR,aa,bB,bg]
  .simp only[T.bR,aa,bB,bg,q3,qhw _ _ _ hlt]
  .simp only[T.bR,aa,bB,bg,g4,Bt];exact Hu (by omega) (ua _)
 .have hkl:k=Z l:=by omega
  subst hkl;rw[dU]at g3;apply W.seq;apply W.run 20
  .intro m;simp(disch:=first|decide+kernel|omega)only[nz,lU,np,Aq,aa,g0,g3,g4,gB DH];rfl
  refine hk _ ?_;simp only[T.bR,aa,bB,bg,g3]
def r_(l:List UInt8):Nat:=4294967295-sf 4294967295 l
def qfl(l:List UInt8)(hl:Z l<9223372036854775807):tS O 211 [ai l] ee (.int .u32 (r_ l:Nat)) ee:=by
 have b:=TV (n:=4294967295) (by omega) l;obtain⟨v,A',h1,h2,h3⟩:∃v A',tS O 211 [ai l] ee v A'/\v=.int .u32 (r_ l:Nat)/\A'=ee:=by
  refine IZ (cM Tryz.func211) MZ (by rw[Tryz.ntmps211];simp) ?_;apply W.seq;apply W.run 20
  .intro m;simp(disch:=first|decide+kernel|omega)only[lU,np,Aq,aa];rfl
  apply W.seq;apply W.run 20
  .intro m;simp(disch:=first|decide+kernel|omega)only[lU,np,Aq,aa,call18];rfl
  apply W.seq;apply W.seq;apply W.run 20
  .intro m;simp(disch:=first|decide+kernel|omega)only[lU,np,Aq,aa];rfl
  apply W.block;refine qcp hl ⟨rfl,rfl,rfl,rfl,?_,?_,?_⟩ ?_
  .simp only[T.bR,T.gS,T.jR,aa,bB,bg]
  .simp only[T.bR,T.gS,T.jR,aa,bB,bg];first|done|rfl
  .simp only[T.bR,T.gS,T.jR,aa,bB,bg];first|done|rfl
  intro t g3;apply W.seq;apply W.run 20
  .intro m;simp(disch:=first|decide+kernel|omega)only[lU,np,Aq,aa,g3,call18];rfl
  apply W.run 20
  .intro m;simp(disch:=first|decide+kernel|omega)only[lU,np,Aq,aa];rfl
  refine⟨.inr rfl,ee,[.int .u32 (r_ l:Nat)],rfl,?_,rfl,rfl⟩;simp only[np,eF,qP,T.bR,aa,bB,bg,qO,R.aW];rfl
 subst h2 h3;exact h1
def four(n:Nat):List UInt8:=[.ofNat (n % 256),.ofNat (n/256 % 256),.ofNat (n/65536 % 256),.ofNat (n/16777216)]
def GQ:O.aB 74=U (.slice 5):=by kernel_rfl
def Wg(a b c d:Int):eO O 74 4 [(0,.int .u8 a),(1,.int .u8 b),(2,.int .u8 c),(3,.int .u8 d)]=.ok (af 5 [.int .u8 a,.int .u8 b,.int .u8 c,.int .u8 d],.dZ 4 8):=by kernel_rfl
variable {d:Nat}
def X_{a:Nat}(ha:a<256)(hb:b<256)(hc:c<256)(hd:d<256):
 gO O (A.alloc (af 5 [.int .u8 a,.int .u8 b,.int .u8 c,.int .u8 d])).get 74 9 (.slice (U ⟨A.next,0,V⟩) 4 8)=.ok (ai [.ofNat a,.ofNat b,.ofNat c,.ofNat d]):=by
 refine TE (l:=[.ofNat a,.ofNat b,.ofNat c,.ofNat d]) (k:=.var 4) GQ DH LA ?_;unfold Bytes;rw[de,Ck ha,Ck hb,Ck hc,Ck hd];rfl
def qeu(n:Nat)(hn:n<4294967296):∃A,call O 30 210 [.int .u32 n] ee=.ok (.val (ai (four n)) A):=by
 apply Exists.intro;unfold call;simp only[show O.fn.get 210=U Tryz.f210 from cM Tryz.func210];simp only[Tryz.f210,pT,cD,eB];simp(disch:=first|decide+kernel|omega)only[Aq,aa,j',LA,Uc,Wg,F9 _ _ _ _ _ _ _ _ _ _ GQ DH,X_];rfl
def AU:List I->Option I
 | [.string s]=>if Z s.data.toList<1000000 then U (.int .u32 (r_ s.data.toList:Nat))else V
 |_=>V
def Ak:List I->Option I
 | [.int .u32 (.ofNat n)]=>if n<4294967296 then U (ai (four n))else V
 |_=>V
def ZS:eG O.P 211 (cH AU):=by
 refine qb DB (cM Tryz.func211) MZ λ args v h=>?_
 unfold AU at h;split at h
 .rename_i s;split at h
  .rename_i hn;cases h;obtain⟨n,hr⟩:=qfl s.data.toList (by omega);exact⟨by simp[flat],by simp[flat],n,_,hr⟩
  .cases h
 .cases h
def ZE:eG O.P 210 (cH Ak):=by
 refine qb DB (cM Tryz.func210) (c:=(Tryz.f210.body).getD .skip) (by kernel_rfl) λ args v h=>?_
 unfold Ak at h;split at h
 .rename_i n;split at h
  .rename_i hn;cases h;obtain⟨A,hr⟩:=qeu n hn;exact⟨by simp[flat],by simp[flat,ai],30,_,hr⟩
  .cases h
 .cases h
def sj:aN:=(O.nX 211 (cH AU)).nX 210 (cH Ak)
def Lt:dO sj:=fq (fq DB ZS) ZE
def call12{ih:aH->St->R (Ex×St)}{l:List UInt8}(hl:Z l<1000000):cE sj ih (.fn 211 [ai l]) A=.ok (.val (.int .u32 (r_ l:Nat)) A):=
 mG (c:=(np.body).getD .skip) (cM Tryz.func211) (by kernel_rfl) (by kernel_rfl) (h:=cH AU) (by kernel_rfl) (by
  unfold cH;show(match AU [.string ⟨⟨l⟩⟩]with|some v=>R.ok (v,A)|none=>.no 600)=_;simp only[AU,aA hl])
def call17{ih:aH->St->R (Ex×St)}(hn:n<4294967296):cE sj ih (.fn 210 [.int .u32 n]) A=.ok (.val (ai (four n)) A):=
 mG (c:=(Tryz.f210.body).getD .skip) (cM Tryz.func210) (by kernel_rfl) (by kernel_rfl) (h:=cH Ak) (by kernel_rfl) (by
  unfold cH;simp only[Ak,aA hn])
def qcN(l:List UInt8):r_ l<4294967296:=by unfold r_;omega
def An(n:Nat):(four n).length=4:=rfl
def gk(l:List UInt8):List UInt8:=l++four (r_ l)
def qfk(l:List UInt8)(hl:Z l<1000000):call sj 30 161 [ai l] ee=.ok (.val (ai (gk l)) ee):=by
 have hs:=qcN l;have hfl:=An (r_ l);unfold call;simp only[show sj.fn.get 161=U Tryz.f161 from cM Tryz.func161];simp only[Tryz.f161,pT,cD,eB];simp(disch:=first|decide+kernel|omega)only[Aq,aa,call12,call17,An];rfl
def y9(i:Nat):Nat:=(qY 4 (i,0)).1
def uZ:List I:=(lM 16).map λ i=>.int .u32 (y9 i:Nat)
def rb:I:=.agg ⟨uZ⟩
variable {i:Nat}
def T6(h:i<16):y9 i<4294967296:=(Gl (p:=(i,0)) (by show i<_;omega) (by show 0<_;omega) 4).1
def qhC(h:i<16):uZ[i]?=U (.int .u32 (y9 i:Nat)):=by
 unfold uZ;rw[dN,BA h];rfl
def KZ:∃A,call sj 30 262 [] ee=.ok (.val rb A):=by
 have h:(match call sj 30 262 [] ee with|.ok (.val v _)=>dD 9 v rb|_=>ag)=ae:=by decide+kernel
 revert h;cases call sj 30 262 [] ee with
 |no _=>intro h;cases h
 |ok r=>
  cases r with
  |ef _ _=>intro h;cases h
  |val v A=>
   intro h;exact⟨A,by rw[yY _ _ _ h]⟩
def GC:List I->Option I
 | []=>U rb
 |_=>V
def ZR:eG sj.P 262 (cH GC):=by
 refine qb Lt (cM Tryz.func262) (c:=(Tryz.f262.body).getD .skip) (by kernel_rfl) λ args v h=>?_
 unfold GC at h;split at h
 .cases h;obtain⟨A,hr⟩:=KZ;exact⟨by simp,by decide+kernel,30,A,hr⟩
 .cases h
def fY:aN:=sj.nX 262 (cH GC)
def T1:dO fY:=fq Lt ZR
def call20{ih:aH->St->R (Ex×St)}:cE fY ih (.fn 262 []) A=.ok (.val rb A):=
 mG (c:=(Tryz.f262.body).getD .skip) (cM Tryz.func262) (by kernel_rfl) (by kernel_rfl) (h:=cH GC) (by kernel_rfl) rfl
def Ul:fY.aB 9=U .string:=mh
def Ui:fY.aB 74=U (.slice 5):=GQ
def Ud:fY.aB 59=U (.int .u32):=Lz
def Uk:fY.aB 5=U (.int .u8):=kx
def qh9:fY.aB 358=U (.array 16 59):=by kernel_rfl
def qgD:bk fY 59=.ok 1:=by kernel_rfl
def xr:bk fY 5=.ok 1:=by kernel_rfl
def yO(n h:Nat):Nat:=n>>>4^^^y9 (n % 256&&&15^^^h)
def B'(n:Nat):n&&&15=n % 16:=Nat.and_two_pow_sub_one_eq_mod n 4
def Pu{h:Nat}(hh:h<16):(n % 256&&&15)^^^h<16:=Eh (n:=4) (by rw[B'];exact jV _ (by omega)) hh
def JH{h:Nat}(hn:n<4294967296)(hh:h<16):yO n h<4294967296:=
 Eh (n:=32) (by rw[rp];omega) (T6 (Pu hh))
def iV:=cu vV
def EO:aH:=sub iV [1,0,1,0,0]
def EN:vV.body=U (.seq (sub iV [0]) (.seq (.seq (sub iV [1,0,0]) (.block 0 (.loop EO))) (.seq (sub iV [1,1,0]) (sub iV [1,1,1])))):=by kernel_rfl
variable {t:T I}
def Pm{bt h0 h1:Nat}(hn:n<4294967296)(hh0:h0<16)(hh1:h1<16)(hi:i<2)(hb:A.get b=U (af 5 [.int .u8 (h0:Nat),.int .u8 (h1:Nat)]))(hbt:A.get bt=U (af 358 uZ))
 (g9:t.get 9=U (.slice (U ⟨b,0,V⟩) 2 4))(g10:t.get 10=U (.int .i64 (2:Nat)))(g11:t.get 11=U (.int .i64 (i:Nat)))(g1:t.get 1=U (.int .u32 (n:Nat)))(g3:t.get 3=U (pw bt 0))
 {K:Ex->St->Prop}(hk:∀t':T I,t'.get 9=U (.slice (U ⟨b,0,V⟩) 2 4)->t'.get 10=U (.int .i64 (2:Nat))->t'.get 11=U (.int .i64 (i+1:Nat))->t'.get 1=U (.int .u32 (yO n (if i=0 then h0 else h1):Nat))->t'.get 3=U (pw bt 0)->K .nrm ⟨t',27,[],A,V⟩):
 W fY EO ⟨t,27,[],A,V⟩ K:=by
 have hh:(if i=0 then h0 else h1)<16:=by split<;>assumption
 have hx:=Pu (n:=n) hh;have hl:aj fY A.get 5 (pw b (0+i))=.ok (bN (if i=0 then h0 else h1)):=by
  refine P7 Uk rfl hb ?_;rw[ep];rcases(show i=0\/i=1 by omega)with rfl|rfl<;>rfl
 have hl2:aj fY A.get 59 (pw bt (0+(n % 256&&&15^^^(if i=0 then h0 else h1))))=.ok (.int .u32 (y9 (n % 256&&&15^^^(if i=0 then h0 else h1)):Nat)):=by
  refine P7 Ud rfl hbt ?_;rw[ep];exact qhC hx
 have ht:=T6 hx;have hand:n % 256&&&15<256:=by rw[B'];omega
 have hsh:n>>>4<4294967296:=by rw[rp];omega
 revert hh hx hl hl2 ht hk;generalize (if i=0 then h0 else h1)=h;intro hk hh hx hl hl2 ht;apply W.run 20
 .intro m;simp(disch:=first|decide+kernel|omega)only[EO,iV,vV,Aq,aa,g9,g10,g11,g1,g3,hi,JO Ui xr,JN qh9 qgD,hl,hl2,j',Ud,Uk];rfl
 .apply hk
  all_goals simp only[T.bR,aa,bB,bg,g9,g10,g3]
  rfl
def AZ(n h0 h1:Nat):Nat:=yO (yO n h0) h1
def KP{h0 h1:Nat}(hn:n<4294967296)(hh0:h0<16)(hh1:h1<16)(hb:A.get b=U (af 5 [.int .u8 (h0:Nat),.int .u8 (h1:Nat)]))(hlt:b≠A.next):
 ∃g,∀m,cE fY (exec fY (m+g)) (.fn 263 [rb,.int .u32 (n:Nat),.slice (U ⟨b,0,V⟩) 2 4]) A=.ok (.val (.int .u32 (AZ n h0 h1:Nat)) (A.alloc (af 358 uZ))):=by
 have hb':(A.alloc (af 358 uZ)).get b=U (af 5 [.int .u8 (h0:Nat),.int .u8 (h1:Nat)]):=by rw[cY hlt];exact hb
 obtain⟨v,A',⟨g,h1⟩,h2,h3⟩:∃v A',(∃g,∀m,cE fY (exec fY (m+g)) (.fn 263 [rb,.int .u32 (n:Nat),.slice (U ⟨b,0,V⟩) 2 4]) A=.ok (.val v A'))/\v=.int .u32 (AZ n h0 h1:Nat)/\A'=A.alloc (af 358 uZ):=by
  refine Nd (cM Tryz.func263) EN (by rw[Tryz.ntmps263];simp) (by kernel_rfl) (by kernel_rfl) ?_;apply W.seq;apply W.run 20
  .intro m;simp(disch:=first|decide+kernel|omega)only[iV,vV,Aq,aa];rfl
  apply W.seq;apply W.seq;apply W.run 20
  .intro m;simp(disch:=first|decide+kernel|omega)only[iV,vV,Aq,aa,mQ Ui];rfl
  apply W.block;apply W.round;refine Pm (b:=b) (bt:=A.next) (n:=n) (h0:=h0) (h1:=h1) (i:=0) hn hh0 hh1 (by omega) hb' (de _ _) ?_ ?_ ?_ ?_ ?_ ?_
  .simp only[T.bR,T.gS,T.jR,aa,ak,bB,bg]
  .simp only[T.bR,T.gS,T.jR,aa,ak,bB,bg]
  .simp only[T.bR,T.gS,T.jR,aa,ak,bB,bg]
  .simp only[T.bR,T.gS,T.jR,aa,ak,bB,bg]
  .simp only[T.bR,T.gS,T.jR,aa,ak,bB,bg]
  intro t g9 g10 g11 g1 g3;apply W.round;refine Pm (b:=b) (bt:=A.next) (n:=yO n h0) (h0:=h0) (h1:=h1) (i:=1) (JH hn hh0) hh0 hh1 (by omega) hb' (de _ _) g9 g10 g11 g1 g3 ?_;intro t g9 g10 g11 g1 g3;apply W.round;apply W.run 20
  .intro m;simp(disch:=first|decide+kernel|omega)only[EO,iV,vV,Aq,aa,g9,g10,g11,g1,g3];rfl
  apply W.seq;apply W.run 20
  .intro m;simp(disch:=first|decide+kernel|omega)only[iV,vV,Aq,aa,g1];rfl
  apply W.run 20
  .intro m;simp(disch:=first|decide+kernel|omega)only[iV,vV,Aq,aa];rfl
  refine⟨.inr rfl,A.alloc (af 358 uZ),[.int .u32 (AZ n h0 h1:Nat)],rfl,?_,rfl,rfl⟩;simp only[vV,eF,qP,T.bR,aa,bB,bg,qO,R.aW];rfl
 subst h2 h3;exact⟨g,h1⟩
def Dw(n:Nat)(c:UInt8):Nat:=AZ n (c.toNat&&&15) (c.toNat>>>4)
def P4(c:UInt8):c.toNat&&&15<16:=by rw[B'];exact jV _ (by omega)
def Pn(c:UInt8):c.toNat>>>4<16:=by have:=c.toNat_lt;rw[rp];omega
def qhk(h:n<4294967296)(c:UInt8):Dw n c<4294967296:=JH (JH h (P4 c)) (Pn c)
def qR(n:Nat)(l:List UInt8):Nat:=l.foldl Dw n
def Qn(h:n<4294967296)(l:List UInt8):qR n l<4294967296:=by
 unfold qR
 induction l generalizing n with
 |nil=>exact h
 |cons c l ih=>exact ih (qhk h c)
def qbA(n:Nat)(l:List UInt8)(k:Nat)(h:k<Z l):qR n (l.take (k+1))=Dw (qR n (l.take k)) (l.getD k 0):=by
 unfold qR;rw[d_ h,tV];simp[List.getD,aZ h]
def hU:=cu qA
def wu:aH:=sub hU [1,1,1,0,1,0,0]
def EF:qA.body=U (.seq (sub hU [0]) (.seq (sub hU [1,0]) (.seq (sub hU [1,1,0]) (.seq (.seq (sub hU [1,1,1,0,0]) (.block 0 (.loop wu))) (.seq (sub hU [1,1,1,1,0]) (sub hU [1,1,1,1,1])))))):=by kernel_rfl
def yr(a b:Int):eO fY 74 2 [(0,.int .u8 a),(1,.int .u8 b)]=.ok (af 5 [.int .u8 a,.int .u8 b],.dZ 2 4):=by kernel_rfl
def qiY:dj fY 358=.ok (.agg ⟨fQ 16 (.int .u32 0)⟩):=by kernel_rfl
def Az:Mem:=
 match cm fY (ee.alloc (af 358 (fQ 16 (.int .u32 0)))) 358 (.pointer (U ⟨ee.next,0,V⟩)) rb with
 |.ok A=>A
 |_=>ee
def qbr:cm fY (ee.alloc (af 358 (fQ 16 (.int .u32 0)))) 358 (pw ee.next 0) rb=.ok Az:=by kernel_rfl
def qbs:aj fY Az.get 358 (.pointer (U ⟨0,0,V⟩))=.ok rb:=by
 have h:(match aj fY Az.get 358 (.pointer (U ⟨0,0,V⟩))with|.ok v=>dD 9 v rb|_=>ag)=ae:=by decide+kernel
 revert h;cases aj fY Az.get 358 (.pointer (U ⟨0,0,V⟩))with
 |no _=>intro h;cases h
 |ok v=>intro h;rw[yY _ _ _ h]
def qbt:Az.next=1:=by kernel_rfl
def L3(l:List UInt8)(n0 k:Nat)(s:St):Prop:=
 s.n=31/\s.d=[]/\s.ro=V/\1<=s.m.next/\s.m.get 0=Az.get 0/\s.t.get 1=U (ai l)/\s.t.get 5=U (pw 0 0)/\s.t.get 12=U (.int .i64 (Z l:Nat))/\
 s.t.get 13=U (.int .i64 (k:Nat))/\s.t.get 6=U (.int .u32 (qR n0 (l.take k):Nat))
def qco{l:List UInt8}{n0:Nat}(hn:n0<4294967296)(hl:Z l<9223372036854775807){s:St}{K:Ex->St->Prop}(h:L3 l n0 0 s)
 (hk:∀(t:T I) (A:Mem),t.get 6=U (.int .u32 (qR n0 l:Nat))->K (.exit 0) ⟨t,31,[],A,V⟩):W fY (.loop wu) s K:=by
 refine W.loop (λ s=>∃k,k<=Z l/\L3 l n0 k s) (λ s=>Z l-(match s.t.get 13 with|some (.int _ i)=>i.toNat|_=>0)) ?_ ⟨0,by omega,h⟩;rintro⟨t,n,d,A,ro⟩ ⟨k,hk1,h01,h02,h03,hA,hA0,g1,g5,g12,g13,g6⟩;simp only at h01 h02 h03 hA hA0 g1 g5 g12 g13 g6;subst h01 h02 h03;have b3:=Qn hn (l.take k);have b5:=H8 (l.getD k 0);by_cases hlt:k<Z l
 .have hl1:=P4 (l.getD k 0);have hl2:=Pn (l.getD k 0);have hne:A.next≠(A.alloc (af 5 [.int .u8 ((l.getD k 0).toNat&&&15:Nat),.int .u8 ((l.getD k 0).toNat>>>4:Nat)])).next:=by rw[aG];omega
  obtain⟨g,hby⟩:=KP (A:=A.alloc (af 5 [.int .u8 ((l.getD k 0).toNat&&&15:Nat),.int .u8 ((l.getD k 0).toNat>>>4:Nat)])) (b:=A.next) b3 hl1 hl2 (de _ _) hne;have hld:aj fY A.get 358 (pw 0 0)=.ok rb:=by rw[qbd hA0];exact qbs
  apply W.run (g+20)
  .intro m;have hby':∀j,cE fY (exec fY ((m+g)+j)) (.fn 263 [rb,.int .u32 (qR n0 (l.take k):Nat),.slice (U ⟨A.next,0,V⟩) 2 4]) (A.alloc (af 5 [.int .u8 ((l.getD k 0).toNat&&&15:Nat),.int .u8 ((l.getD k 0).toNat>>>4:Nat)]))=.ok (.val (.int .u32 (AZ (qR n0 (l.take k)) ((l.getD k 0).toNat&&&15) ((l.getD k 0).toNat>>>4):Nat)) ((A.alloc (af 5 [.int .u8 ((l.getD k 0).toNat&&&15:Nat),.int .u8 ((l.getD k 0).toNat>>>4:Nat)])).alloc (af 358 uZ))):=
    λ j=>by rw[show m+g+j=(m+j)+g by omega];exact hby (m+j)
   rw[<-rk];revert hby';generalize m+g=M;intro hby';simp(disch:=first|decide+kernel|omega)only[wu,hU,qA,Aq,aa,g1,g5,g6,g12,g13,hlt,mO Ul,yr,hld,hby'];rfl
  .refine⟨⟨k+1,by omega,rfl,rfl,rfl,?_,?_,?_,?_,?_,?_,?_⟩,?_⟩
   .simp only[aG];omega
   .rw[cY (by rw[aG];omega),cY (by omega)];exact hA0
   .simp only[T.bR,aa,bB,bg,g1]
   .simp only[T.bR,aa,bB,bg,g5]
   .simp only[T.bR,aa,bB,bg,g12]
   .simp only[T.bR,aa,bB,bg]
   .simp only[T.bR,aa,bB,bg,qbA _ _ _ hlt];rfl
   .simp only[T.bR,aa,bB,bg,g13,Bt];exact Hu (by omega) (ua _)
 .have hkl:k=Z l:=by omega
  subst hkl;rw[dU]at g6;apply W.run 20
  .intro m;simp(disch:=first|decide+kernel|omega)only[wu,hU,qA,Aq,aa,g12,g13];rfl
  refine hk _ _ ?_;simp only[T.bR,aa,bB,bg,g6]
def uR(n:Nat)(l:List UInt8):Nat:=4294967295-qR (4294967295-n) l
def qeM(n:Nat)(l:List UInt8)(hn:n<4294967296)(hl:Z l<9223372036854775807):∃A,tS fY 227 [.int .u32 (n:Nat),ai l] ee (.int .u32 (uR n l:Nat)) A:=by
 have b:=Qn (n:=4294967295-n) (by omega) l;obtain⟨v,A',h1,h2⟩:∃v A',tS fY 227 [.int .u32 (n:Nat),ai l] ee v A'/\v=.int .u32 (uR n l:Nat):=by
  refine IZ (cM Tryz.func227) EF (by rw[Tryz.ntmps227];simp) ?_;apply W.seq;apply W.run 20
  .intro m;simp(disch:=first|decide+kernel|omega)only[hU,qA,Aq,aa];rfl
  apply W.seq;apply W.run 20
  .intro m;simp(disch:=first|decide+kernel|omega)only[hU,qA,Aq,aa,call20,qiY,Value.cells,qbr];rfl
  apply W.seq;apply W.run 20
  .intro m;simp(disch:=first|decide+kernel|omega)only[hU,qA,Aq,aa];rfl
  apply W.seq;apply W.seq;apply W.run 20
  .intro m;simp(disch:=first|decide+kernel|omega)only[hU,qA,Aq,aa,gB Ul];rfl
  apply W.block;refine qco (l:=l) (n0:=4294967295-n) (by omega) hl ⟨rfl,rfl,rfl,by rw[qbt];omega,rfl,?_,?_,?_,?_,?_⟩ ?_
  .simp only[T.bR,T.gS,T.jR,aa,ak,bB,bg]
  .simp only[T.bR,T.gS,T.jR,aa,ak,bB,bg];rfl
  .simp only[T.bR,T.gS,T.jR,aa,ak,bB,bg]
  .simp only[T.bR,T.gS,T.jR,aa,ak,bB,bg]
  .simp only[T.bR,T.gS,T.jR,aa,ak,bB,bg];rfl
  intro t A g6;apply W.seq;apply W.run 20
  .intro m;simp(disch:=first|decide+kernel|omega)only[hU,qA,Aq,aa,g6];rfl
  apply W.run 20
  .intro m;simp(disch:=first|decide+kernel|omega)only[hU,qA,Aq,aa];rfl
  refine⟨.inr rfl,A,[.int .u32 (uR n l:Nat)],rfl,?_,rfl⟩;simp only[qA,eF,qP,T.bR,aa,bB,bg,qO,R.aW];rfl
 subst h2;exact⟨A',h1⟩
def AD:List I->Option I
 | [.int .u32 (.ofNat n),.string s]=>if n<4294967296/\Z s.data.toList<1000000 then U (.int .u32 (uR n s.data.toList:Nat))else V
 |_=>V
def ZJ:eG fY.P 227 (cH AD):=by
 refine qb T1 (f:=227) (fn:=qA) (cM Tryz.func227) EF λ args v h=>?_
 unfold AD at h;split at h
 .rename_i n s;split at h
  .rename_i hn;cases h;obtain⟨A,k,hr⟩:=qeM n s.data.toList hn.1 (by omega);exact⟨by simp[flat],by simp[flat],k,A,hr⟩
  .cases h
 .cases h
def AW:aN:=fY.nX 227 (cH AD)
def T2:dO AW:=fq T1 ZJ
def call14{ih:aH->St->R (Ex×St)}{l:List UInt8}(hn:n<4294967296)(hl:Z l<1000000):cE AW ih (.fn 227 [.int .u32 n,ai l]) A=.ok (.val (.int .u32 (uR n l:Nat)) A):=
 mG (c:=(qA.body).getD .skip) (cM Tryz.func227) (by kernel_rfl) (by kernel_rfl) (h:=cH AD) (by kernel_rfl) (by
  unfold cH;show(match AD [.int .u32 (.ofNat n),.string ⟨⟨l⟩⟩]with|some v=>R.ok (v,A)|none=>.no 600)=_;simp only[AD,aA (And.intro hn hl)])
def y7(l:List UInt8):Nat:=uR 0 l
def qby(n:Nat)(l:List UInt8):uR n l<4294967296:=by unfold uR;omega
def qfM(l:List UInt8)(hl:Z l<1000000):call AW 30 179 [ai l] ee=.ok (.val (.int .u32 (y7 l:Nat)) ee):=by
 unfold call;simp only[show AW.fn.get 179=U Tryz.f179 from cM Tryz.func179];simp only[Tryz.f179,pT,cD,eB];simp(disch:=first|decide+kernel|omega)only[Aq,aa,call14];rfl
def AV:List I->Option I
 | [.string s]=>if Z s.data.toList<1000000 then U (.int .u32 (y7 s.data.toList:Nat))else V
 |_=>V
def ZT:eG AW.P 179 (cH AV):=by
 refine qb T2 (f:=179) (fn:=Tryz.f179) (cM Tryz.func179) (c:=(Tryz.f179.body).getD .skip) (by kernel_rfl) λ args v h=>?_
 unfold AV at h;split at h
 .rename_i s;split at h
  .rename_i hn;cases h;exact⟨by simp[flat],by simp[flat],30,_,qfM s.data.toList hn⟩
  .cases h
 .cases h
def mg:aN:=AW.nX 179 (cH AV)
def T3:dO mg:=fq T2 ZT
def call11{ih:aH->St->R (Ex×St)}{l:List UInt8}(hl:Z l<1000000):cE mg ih (.fn 179 [ai l]) A=.ok (.val (.int .u32 (y7 l:Nat)) A):=
 mG (c:=(Tryz.f179.body).getD .skip) (cM Tryz.func179) (by kernel_rfl) (by kernel_rfl) (h:=cH AV) (by kernel_rfl) (by
  unfold cH;show(match AV [.string ⟨⟨l⟩⟩]with|some v=>R.ok (v,A)|none=>.no 600)=_;simp only[AV,aA hl])
def GU:mg.aB 9=U .string:=mh
def Bg:mg.aB 74=U (.slice 5):=GQ
def qh6:mg.aB 59=U (.int .u32):=Lz
def LB:mg.aB 5=U (.int .u8):=kx
def G5:fu mg 5=.ok (1,[.int .u8 0]):=by kernel_rfl
def GJ:∃i,mg.ty.get 5=U i/\i.bytes=1:=by
 have h:(mg.ty.get 5).map (·.bytes)=U 1:=by kernel_rfl
 cases hq:mg.ty.get 5 with
 |none=>rw[hq]at h;cases h
 |some i=>rw[hq]at h;exact⟨i,rfl,by simpa using h⟩
def wj(a:Int):eO mg 74 1 [(0,.int .u8 a)]=.ok (af 5 [.int .u8 a],.dZ 1 2):=by kernel_rfl
def aR(n k:Nat):UInt8:=.ofNat (n>>>(8*k) % 256)
def Zn(h:n<4294967296):four n=(lM 4).map (aR n):=by
 show _=[aR n 0,aR n 1,aR n 2,aR n 3];unfold four aR;simp only[rp];have e:n/2^(8*3) % 256=n/16777216:=by
  show n/16777216 % 256=_;omega
 rw[e];simp
def oB:=cu pP
def EC:aH:=sub oB [1,1,1,0,1,0,0]
def M4:pP.body=U (.seq (sub oB [0]) (.seq (sub oB [1,0]) (.seq (sub oB [1,1,0]) (.seq (.seq (sub oB [1,1,1,0,0]) (.block 0 (.loop EC))) (.seq (sub oB [1,1,1,1,0]) (sub oB [1,1,1,1,1])))))):=by kernel_rfl
def L5(l:List UInt8)(n k:Nat)(s:St):Prop:=
 s.n=24/\s.d=[]/\s.ro=V/\∃b,b<s.m.next/\Bytes s.m b 5 .mark (l++((lM k).map (aR n)))/\s.t.get 3=U (.slice (U ⟨b,0,V⟩) (Z l+k) (cP (Z l+k) 1))/\s.t.get 4=U (.int .u32 (n:Nat))/\s.t.get 10=U (.int .i64 (k:Nat))
def qgl{l:List UInt8}(hn:n<4294967296)(hl:Z l<1000000){s:St}{K:Ex->St->Prop}(h:L5 l n 0 s)
 (hk:∀(t:T I) (A:Mem) (b:Nat),Bytes A b 5 .mark (l++four n)->t.get 3=U (.slice (U ⟨b,0,V⟩) (l++four n).length (cP (Z l+4) 1))->K (.exit 0) ⟨t,24,[],A,V⟩):W mg (.loop EC) s K:=by
 refine W.loop (λ s=>∃k,k<=4/\L5 l n k s) (λ s=>4-(match s.t.get 10 with|some (.int _ i)=>i.toNat|_=>0)) ?_ ⟨0,by omega,h⟩;rintro⟨t,nn,d,A,ro⟩ ⟨k,hk1,h01,h02,h03,b,hbn,hbb,g3,g4,g10⟩;simp only at h01 h02 h03 hbn hbb g3 g4 g10;subst h01 h02 h03;by_cases hlt:k<4
 .have h8:8*k<32:=by omega
  have hv:n>>>(8*k) % 256<256:=jV _ (by omega);have hlen:(l++(lM k).map (aR n)).length=Z l+k:=by simp
  obtain⟨i,hi,hib⟩:=GJ;have hbb1:Bytes (A.alloc (af 5 [.int .u8 (n>>>(8*k) % 256:Nat)])) b 5 .mark (l++(lM k).map (aR n)):=by
   unfold Bytes;rw[cY (by omega)];exact hbb
  have happ:=Vf (tb:=mg) (A:=A.alloc (af 5 [.int .u8 (n>>>(8*k) % 256:Nat)])) (b:=b) (b2:=A.next) (v:=n>>>(8*k) % 256) Bg Bg G5 hi hib (by omega) (.inl rfl) hbb1 (de _ _) hv;rw[hlen]at happ;have hbl:wm mg (A.alloc (af 5 [.int .u8 (n>>>(8*k) % 256:Nat)])) .append [74,74] [.slice (U ⟨b,0,V⟩) (Z l+k) (cP (Z l+k) 1),.slice (U ⟨A.next,0,V⟩) 1 2]=_:=happ;apply W.run 20
  .intro m;simp(disch:=first|decide+kernel|omega)only[EC,oB,pP,Aq,aa,g3,g4,g10,hlt,wj,j',qh6,LB,happ];rfl
  .refine⟨⟨k+1,by omega,rfl,rfl,rfl,(A.alloc (af 5 [.int .u8 (n>>>(8*k) % 256:Nat)])).next,?_,?_,?_,?_,?_⟩,?_⟩
   rotate_left 2
   .simp only[T.bR,aa,bB,bg];rfl
   .simp only[T.bR,aa,bB,bg,g4]
   .simp only[T.bR,aa,bB,bg]
   .simp only[T.bR,aa,bB,bg,g10,Bt];exact Hu (by omega) (ua _)
   .simp only[aG,cU];omega
   .unfold Bytes;have e:(A.alloc (af 5 [.int .u8 (n>>>(8*k) % 256:Nat)])).next=((A.alloc (af 5 [.int .u8 (n>>>(8*k) % 256:Nat)])).set b .dead).next:=by rw[cU]
    simp only[];have e2:l++tW (aR n) (lM (k+1))=l++tW (aR n) (lM k)++[jY (n>>>(8*k) % 256)]:=by
     rw[List.range_succ,gg,iC];rfl
    rw[e,de,e2]
 .have hk4:k=4:=by omega
  subst hk4;rw[<-Zn hn]at hbb;apply W.run 20
  .intro m;simp(disch:=first|decide+kernel|omega)only[EC,oB,pP,Aq,aa,g10];rfl
  refine hk _ _ b hbb ?_;simp only[T.bR,aa,bB,bg,g3,aY,An]
def uX(l:List UInt8):List UInt8:=l++four (y7 l)
def qfI(l:List UInt8)(hl:Z l<900000):∃A,tS mg 123 [ai l] ee (ai (uX l)) A:=by
 have b:=qby 0 l;obtain⟨v,A',h1,h2⟩:∃v A',tS mg 123 [ai l] ee v A'/\v=ai (uX l):=by
  refine IZ (cM Tryz.func123) M4 (by rw[Tryz.ntmps123];simp) ?_;apply W.seq;apply W.run 20
  .intro m;simp(disch:=first|decide+kernel|omega)only[oB,pP,Aq,aa];rfl
  apply W.seq;apply W.run 20
  .intro m;simp(disch:=first|decide+kernel|omega)only[oB,pP,Aq,aa,qce _ _ _ _ _ _ _ _ _ _ GU Bg,Wy GU Bg LB];rfl
  apply W.seq;apply W.run 20
  .intro m;simp(disch:=first|decide+kernel|omega)only[oB,pP,Aq,aa,call11];rfl
  apply W.seq;apply W.seq;apply W.run 20
  .intro m;simp(disch:=first|decide+kernel|omega)only[oB,pP,Aq,aa];rfl
  apply W.block;refine qgl (l:=l) (n:=y7 l) b (by omega) ⟨rfl,rfl,rfl,ee.next,by simp only[aG];omega,?_,?_,?_,?_⟩ ?_
  .unfold Bytes;simp only[de,List.range_zero,sQ,jT]
  .simp only[T.bR,T.gS,T.jR,aa,ak,bB,bg,eo]
  .simp only[T.bR,T.gS,T.jR,aa,ak,bB,bg]
  .simp only[T.bR,T.gS,T.jR,aa,ak,bB,bg]
  intro t A b hb g3;apply W.seq;apply W.run 20
  .intro m;simp(disch:=first|decide+kernel|omega)only[oB,pP,Aq,aa,g3,F9 _ _ _ _ _ _ _ _ _ _ Bg GU,TE Bg GU LB hb];rfl
  apply W.run 20
  .intro m;simp(disch:=first|decide+kernel|omega)only[oB,pP,Aq,aa];rfl
  refine⟨.inr rfl,A,[ai (uX l)],rfl,?_,rfl⟩;simp only[pP,eF,qP,T.bR,aa,bB,bg,qO,R.aW];rfl
 subst h2;exact⟨A',h1⟩
def uW:List I->Option I
 | [.string s]=>if Z s.data.toList<900000 then U (ai (uX s.data.toList))else V
 |_=>V
def JJ:eG mg.P 123 (cH uW):=by
 refine qb T3 (f:=123) (fn:=pP) (cM Tryz.func123) M4 λ args v h=>?_
 unfold uW at h;split at h
 .rename_i s;split at h
  .rename_i hn;cases h;obtain⟨A,k,hr⟩:=qfI s.data.toList hn;exact⟨by simp[flat],by simp[flat,ai],k,A,hr⟩
  .cases h
 .cases h
def AX:aN:=mg.nX 123 (cH uW)
def qhG:dO AX:=fq T3 JJ
def DI:AX.aB 9=U .string:=mh
def call13{ih:aH->St->R (Ex×St)}{l:List UInt8}(hl:Z l<900000):cE AX ih (.fn 123 [ai l]) A=.ok (.val (ai (uX l)) A):=
 mG (c:=(pP.body).getD .skip) (cM Tryz.func123) (by kernel_rfl) (by kernel_rfl) (h:=cH uW) (by kernel_rfl) (by
  unfold cH;show(match uW [.string ⟨⟨l⟩⟩]with|some v=>R.ok (v,A)|none=>.no 600)=_;simp only[uW,aA hl])
def pC(l:List UInt8):List UInt8×Bool:=
 if Z l<4 then([],ag)else if uX (l.take (Z l-4))≠l then([],ag)else(l.take (Z l-4),ae)
def KV(l:List UInt8)(hl:Z l<900000):call AX 30 138 [ai l] ee=.ok (.val (.tuple ⟨[ai (pC l).1,.bool (pC l).2]⟩) ee):=by
 have ht:(l.take (Z l-4)).length<900000:=by rw[df];omega
 unfold call;simp only[show AX.fn.get 138=U Tryz.f138 from cM Tryz.func138];simp only[Tryz.f138,pT,cD,eB];by_cases h4:Z l<4
 .simp(disch:=first|omega|decide+kernel|(simp only[Ut,Us,NK,NJ,T.bR,T.pv,aa,bB,bg,Uu,Uv,cQ,aJ,bJ,ri,vg,List.toList_toArray]))only[av,aJ,bJ,T.gS,T.jR,CD,CC,Qt,N8,Fj,N_,N9,N7,Jh,R',Sa,Q7,QQ,QP,Q8,QX,Ra,Q1,Q2,Q0,QZ,QS,Q_,QY,Q9,Q4,QO,QR,QT,Q5,Q',QW,Q3,Q6,QU,QV,Dh,qP,qO,N2,NY,N5,fk,oI,mI,R.aW,RI,RH,T.bR,T.pv,MG,C_,Rm,Rq,Rj,Rg,Ku,Rb,Rp,Rf,Rr,Rk,MJ,MK,Ri,Rl,Re,MH,DK,LI,Ql,J',Nu,t_,zD,bB,bg,reduceIte,aa,ak,ne_eq,not_true_eq_false,not_false_eq_true,decide_true,decide_false,dR,ri,vg,TM,TQ,TS,TJ,TK,TI,TL,TP,TN,TO,sU,Mt,Cf,Sd,Sb,N6,Rn,Ro,Rh,ML,AT,Ln,Lm,ir,eF,oneOf,Gf,Jj,gB DI,h4];simp[pC,h4]
 .have h4':4<=Z l:=by omega
  by_cases he:uX (l.take (Z l-4))=l
  .simp(disch:=first|decide+kernel|omega|simp only[Wq,aa])only[Aq,av,reduceIte,aa,ak,gB DI,AR DI,call13,he];simp[pC,h4,he]
  .simp(disch:=first|decide+kernel|omega|simp only[Wq,aa])only[Aq,av,reduceIte,aa,ak,gB DI,AR DI,call13,he];simp[pC,h4,he]
end Go.Proofs.YtjoceidiioppiaaGreatDoor.crc
namespace Go.Proofs.YtjoceidiioppiaaGreatDoor.crc
def UC(a b:Nat):(a^^^b) % 2=(a % 2+b % 2) % 2:=by
 have h:(a^^^b) % 2^1=a % 2^1^^^b % 2^1:=Nat.xor_mod_two_pow;rw[show(2:Nat)^1=2 by rfl]at h;rw[h];rcases Ee a with ha|ha<;>rcases Ee b with hb|hb<;>rw[ha,hb]<;>rfl
def oP(n:Nat):Nat:=n/2^^^(if n % 2=1 then 3988292384 else 0)
def gH:Nat->Nat->Nat
 |0,n=>n
 |k+1,n=>gH k (oP n)
def Lj(a b:Nat):oP (a^^^b)=oP a^^^oP b:=by
 unfold oP;have h1:(a^^^b)/2=a/2^^^b/2:=Nat.xor_div_two;have h2:(a^^^b) % 2=(a % 2+b % 2) % 2:=UC _ _;rw[h1,h2];rcases Ee a with ha|ha<;>rcases Ee b with hb|hb<;>rw[ha,hb]
 .simp
 .simp[vM]
 .simp only[ak,Nat.reduceMod,bB,Nat.zero_ne_one,bg,Ei];rw[vM,vM,Nat.xor_comm (b/2)]
 .simp only[ak,Nat.reduceMod,bB,Nat.zero_ne_one,bg,Ei];rw[vM,<-vM 3988292384,Nat.xor_comm 3988292384 (b/2),vM (b/2),Nat.xor_self,Ei]
theorem Dx:∀(k a b:Nat),gH k (a^^^b)=gH k a^^^gH k b
 |0,_,_=>rfl
 |k+1,a,b=>by
  show gH k (oP (a^^^b))=_;rw[Lj,Dx k];rfl
def qhc(n:Nat):oP (2*n)=n:=by
 unfold oP;rw[ax (by omega),Ei];omega
theorem GD:∀(k n:Nat),gH k (2^k*n)=n
 |0,n=>by show 2^0*n=n;omega
 |k+1,n=>by
  show gH k (oP (2^(k+1)*n))=n;rw[show 2^(k+1)*n=2*(2^k*n) by rw[zE];ac_rfl,qhc,GD k]
theorem Lk:∀(j k n:Nat),gH (j+k) n=gH k (gH j n)
 |0,k,n=>by rw[ep];rfl
 |j+1,k,n=>by
  rw[show j+1+k=(j+k)+1 by omega];exact Lk j k _
def VQ(n b:Nat)(hb:b<2):uw n b=oP (n^^^b):=by
 unfold uw oP;have h1:(n^^^b)/2=n/2:=by rw[Nat.xor_div_two,show b/2=0 by omega,Ei]
 have h2:(n^^^b) % 2=(n % 2+b % 2) % 2:=UC _ _;rw[h1,h2];rcases Ee n with hn|hn<;>rcases(show b=0\/b=1 by omega)with rfl|rfl<;>rw[hn]<;>simp
def RZ:∀(k n c:Nat),qY k (n,c)=(gH k (n^^^(c % 2^k)),c/2^k):=by
 intro k;have main:∀(k n c:Nat),qY k (n,c)=(gH k n^^^gH k (c % 2^k),c/2^k):=by
  intro k
  induction k with
  |zero=>intro n c;simp[qY,gH,Nat.mod_one]
  |succ k ih=>
   intro n c;show KM (qY k (n,c))=_;rw[ih];unfold KM;simp only[];have hb:c/2^k % 2<2:=jV _ (by omega);rw[VQ _ _ hb];have e1:∀x,oP (gH k x)=gH (k+1) x:=λ x=>by
    have:=Lk k 1 x;rw[this];rfl
   have e2:c % 2^(k+1)=(c % 2^k)^^^(2^k*(c/2^k % 2)):=by
    apply Nat.eq_of_testBit_eq;intro i;rw[Nat.testBit_xor,Nat.testBit_mod_two_pow,Nat.testBit_mod_two_pow,Nat.testBit_two_pow_mul];rcases zC i k with h|h|h
    .simp[h,show i<k+1 by omega,show¬k<=i by omega]
    .subst h;simp[Nat.testBit_eq_decide_div_mod_eq]
    .have:(c/2^k % 2).testBit (i-k)=ag:=by
      apply Nat.testBit_lt_two_pow
      calc c/2^k % 2<2:=hb
       _=2^1:=rfl
       _<=2^(i-k):=rn (by omega) (by omega)
     simp[this,show¬i<k by omega,show¬i<k+1 by omega]
   have e3:oP (c/2^k % 2)=gH (k+1) (2^k*(c/2^k % 2)):=by
    rw[<-e1,GD]
   rw[Lj,Lj,e1,e1,e3,e2,Dx,vM,zE,Nat.div_div_eq_div_mul]
 intro n c;rw[main,Dx]
def qhJ(i:Nat):y9 i=gH 4 i:=by
 unfold y9;rw[RZ];simp
def UD(n h:Nat):n^^^h=(16*(n/16))^^^(n % 16^^^h):=by
 rw[<-vM];congr 1;apply Nat.eq_of_testBit_eq;intro i;rw[Nat.testBit_xor,show(16:Nat)=2^4 by rfl,Nat.testBit_two_pow_mul,Nat.testBit_mod_two_pow,Nat.testBit_div_two_pow];rcases ec i 4 with h|h
 .simp[h,show¬4<=i by omega]
 .simp[h,show¬i<4 by omega,show i-4+4=i by omega]
def Pj(n h:Nat):yO n h=gH 4 (n^^^h):=by
 have e:gH 4 (n^^^h)=n/16^^^gH 4 (n % 16^^^h):=by
  rw[UD n h,Dx,show(16:Nat)*(n/16)=2^4*(n/16) by rfl,GD]
 rw[e];unfold yO;rw[qhJ,B',show n % 256 % 16=n % 16 by omega,rp]
def Wt(n:Nat)(c:UInt8):zW n c.toNat=gH 8 (n^^^c.toNat):=by
 unfold zW;rw[RZ];rw[rm c.toNat_lt]
def qhj(n:Nat)(c:UInt8):Dw n c=gH 8 (n^^^c.toNat):=by
 unfold Dw AZ;rw[Pj,Pj,B',show(8:Nat)=4+4 by rfl,Lk];congr 1;have hc:c.toNat=(16*(c.toNat/16))^^^(c.toNat % 16):=by
  have:=UD c.toNat 0;simpa using this
 have e:n^^^c.toNat=(n^^^c.toNat % 16)^^^(2^4*(c.toNat/16)):=by
  rw[vM,Nat.xor_comm (c.toNat % 16)];exact cX (n^^^·) hc
 have e2:gH 4 (n^^^c.toNat)=gH 4 (n^^^c.toNat % 16)^^^c.toNat/16:=by
  rw[e,Dx 4 (n^^^c.toNat % 16),GD]
 rw[e2,rp]
def qbz(n:Nat)(l:List UInt8):qR n l=sf n l:=by
 unfold qR sf
 induction l generalizing n with
 |nil=>rfl
 |cons c l ih=>simp only[mu];rw[qhj,<-Wt];exact ih _
def qhv(l:List UInt8):y7 l=r_ l:=by
 unfold y7 uR r_;rw[qbz]
def SZ(l:List UInt8):uX l=gk l:=by unfold uX gk;rw[qhv]
def qcl(l:List UInt8):pC (gk l)=(l,ae):=by
 have hl:(gk l).length=Z l+4:=by unfold gk;rw[aY,An]
 have ht:(gk l).take ((gk l).length-4)=l:=by rw[hl];unfold gk;simp
 unfold pC;rw[ax (by omega),ht,SZ,ax (by simp)]
end Go.Proofs.YtjoceidiioppiaaGreatDoor.crc
namespace Go.Proofs.YtjoceidiioppiaaGreatDoor.crc
open Go.Am
def Da:List I->Option I
 | [.string s]=>if Z s.data.toList<900000 then U (.tuple ⟨[ai (pC s.data.toList).1,.bool (pC s.data.toList).2]⟩)else V
 |_=>V
def Gn:List I->Option I
 | [.string s]=>if Z s.data.toList<900000 then U (ai (gk s.data.toList))else V
 |_=>V
def Pr:eG AX.P 138 (cH Da):=by
 refine qb qhG (cM Tryz.func138) (c:=(Tryz.f138.body).getD .skip) (by kernel_rfl) λ args v h=>?_
 unfold Da at h;split at h
 .rename_i s;split at h
  .rename_i hn;cases h;exact⟨by simp[flat],by simp[flat,ai],30,_,KV s.data.toList hn⟩
  .cases h
 .cases h
def ZP:eG sj.P 161 (cH Gn):=by
 refine qb Lt (cM Tryz.func161) (c:=(Tryz.f161.body).getD .skip) (by kernel_rfl) λ args v h=>?_
 unfold Gn at h;split at h
 .rename_i s;split at h
  .rename_i hn;cases h;exact⟨by simp[flat],by simp[flat,ai],30,_,qfk s.data.toList (by omega)⟩
  .cases h
 .cases h
end Go.Proofs.YtjoceidiioppiaaGreatDoor.crc
namespace Go.Proofs.YtjoceidiioppiaaGreatDoor.sto
open Go.Am Go.Mdl Go.Sto Go.Shelf
def qaR:Go.Shelf.Ren:=⟨λ|10=>183|n=>n,λ|33=>216|23=>199|0=>0|4=>4|26=>9|3=>3|n=>n,λ|n=>n⟩
def qaQ:Go.Proofs.SlLaysZ.n10 dw qaR:={
 mixed:=by kernel_rfl
 f10:=⟨Tryz.f183.name,by decide,Tryz.func183.trans (cX U (by kernel_rfl))⟩
 t0:=Tryz.underlying0
 a0:=Tryz.isAgg0
 z0:=Tryz.sizeOf0
 v0:=Tryz.zeroValue0
 t4:=HG
 a4:=Tryz.isAgg4
 z4:=Tryz.sizeOf4
 v4:=Tryz.zeroValue4
 t23:=Tryz.underlying199
 a23:=Tryz.isAgg199
 z23:=Tryz.sizeOf199
 v23:=Tryz.zeroValue199
 t26:=En
 a26:=Tryz.isAgg9
 z26:=Tryz.sizeOf9
 v26:=HH
 t33:=Tryz.underlying216
 a33:=Tryz.isAgg216
 z33:=Tryz.sizeOf216
 v33:=Tryz.zeroValue216}
def Tm:Go.Shelf.Ren:=⟨λ|6=>126|8=>181|9=>182|11=>228|13=>230|12=>229|23=>273|24=>261|14=>264|15=>265|16=>266|17=>267|18=>268|19=>269|20=>270|21=>271|22=>272|25=>282|26=>283|27=>284|28=>285|29=>286|30=>259|31=>293|n=>n,λ|26=>9|28=>208|24=>91|0=>0|3=>3|37=>321|48=>59|50=>113|4=>4|40=>363|39=>362|45=>122|5=>5|9=>9|51=>378|55=>381|57=>387|58=>264|33=>216|n=>n,λ|n=>n⟩
def qg1:Go.Proofs.SlLaysZ.n6 dw Tm:={
 mixed:=by kernel_rfl
 f6:=⟨Tryz.f126.name,by decide,Tryz.func126.trans (cX U (by kernel_rfl))⟩
 f8:=⟨Tryz.f181.name,by decide,Tryz.func181.trans (cX U (by kernel_rfl))⟩
 f11:=⟨Tryz.f228.name,by decide,Tryz.func228.trans (cX U (by kernel_rfl))⟩
 t0:=Tryz.underlying0
 a0:=Tryz.isAgg0
 z0:=Tryz.sizeOf0
 v0:=Tryz.zeroValue0
 t24:=Tryz.underlying91
 a24:=Tryz.isAgg91
 z24:=Tryz.sizeOf91
 v24:=Tryz.zeroValue91
 t26:=En
 a26:=Tryz.isAgg9
 z26:=Tryz.sizeOf9
 v26:=HH
 t28:=Tryz.underlying208
 a28:=Tryz.isAgg208
 z28:=Tryz.sizeOf208
 v28:=Tryz.zeroValue208
 i26:=by kernel_rfl}
def qgZ:Go.Shelf.Ren:=⟨λ|6=>182|8=>230|9=>229|19=>273|20=>261|21=>264|22=>265|23=>266|24=>267|25=>268|26=>269|27=>270|28=>271|29=>272|36=>282|31=>283|32=>284|37=>285|38=>286|39=>259|41=>293|n=>n,λ|27=>91|29=>9|3=>3|32=>321|26=>91|0=>0|44=>59|46=>113|4=>4|36=>363|35=>362|41=>122|5=>5|9=>9|53=>378|57=>381|63=>387|64=>264|n=>n,λ|n=>n⟩
def Tl:Go.Proofs.SlLaysM.n6 dw qgZ:={
 mixed:=by kernel_rfl
 f6:=⟨Tryz.f182.name,by decide,Tryz.func182.trans (cX U (by kernel_rfl))⟩
 f8:=Tryz.func230.trans (cX U (by kernel_rfl))
 f9:=⟨Tryz.f229.name,by decide,Tryz.func229.trans (cX U (by kernel_rfl))⟩
 f19:=Tryz.func273.trans (cX U (by kernel_rfl))
 f20:=Tryz.func261.trans (cX U (by kernel_rfl))
 f21:=⟨Tryz.f264.name,by decide,Tryz.func264.trans (cX U (by kernel_rfl))⟩
 f22:=⟨Tryz.f265.name,by decide,Tryz.func265.trans (cX U (by kernel_rfl))⟩
 f23:=⟨Tryz.f266.name,by decide,Tryz.func266.trans (cX U (by kernel_rfl))⟩
 f24:=⟨Tryz.f267.name,by decide,Tryz.func267.trans (cX U (by kernel_rfl))⟩
 f25:=⟨Tryz.f268.name,by decide,Tryz.func268.trans (cX U (by kernel_rfl))⟩
 f26:=⟨Tryz.f269.name,by decide,Tryz.func269.trans (cX U (by kernel_rfl))⟩
 f27:=⟨Tryz.f270.name,by decide,Tryz.func270.trans (cX U (by kernel_rfl))⟩
 f28:=⟨Tryz.f271.name,by decide,Tryz.func271.trans (cX U (by kernel_rfl))⟩
 f29:=⟨Tryz.f272.name,by decide,Tryz.func272.trans (cX U (by kernel_rfl))⟩
 f31:=Tryz.func283.trans (cX U (by kernel_rfl))
 f32:=Tryz.func284.trans (cX U (by kernel_rfl))
 f36:=⟨Tryz.f282.name,by decide,Tryz.func282.trans (cX U (by kernel_rfl))⟩
 f37:=⟨Tryz.f285.name,by decide,Tryz.func285.trans (cX U (by kernel_rfl))⟩
 f38:=⟨Tryz.f286.name,by decide,Tryz.func286.trans (cX U (by kernel_rfl))⟩
 f39:=⟨Tryz.f259.name,by decide,Tryz.func259.trans (cX U (by kernel_rfl))⟩
 f41:=⟨Tryz.f293.name,by decide,Tryz.func293.trans (cX U (by kernel_rfl))⟩
 t0:=Tryz.underlying0
 a0:=Tryz.isAgg0
 z0:=Tryz.sizeOf0
 v0:=Tryz.zeroValue0
 t3:=Tryz.underlying3
 a3:=Tryz.isAgg3
 z3:=Tryz.sizeOf3
 v3:=Tryz.zeroValue3
 t4:=HG
 a4:=Tryz.isAgg4
 z4:=Tryz.sizeOf4
 v4:=Tryz.zeroValue4
 t5:=Tryz.underlying5
 a5:=Tryz.isAgg5
 z5:=Tryz.sizeOf5
 v5:=Tryz.zeroValue5
 t9:=En
 a9:=Tryz.isAgg9
 z9:=Tryz.sizeOf9
 v9:=HH
 t26:=Tryz.underlying91
 a26:=Tryz.isAgg91
 z26:=Tryz.sizeOf91
 v26:=Tryz.zeroValue91
 t27:=Tryz.underlying91
 a27:=Tryz.isAgg91
 z27:=Tryz.sizeOf91
 v27:=Tryz.zeroValue91
 t29:=En
 a29:=Tryz.isAgg9
 z29:=Tryz.sizeOf9
 v29:=HH
 t32:=Tryz.underlying321
 a32:=Tryz.isAgg321
 z32:=Tryz.sizeOf321
 v32:=Tryz.zeroValue321
 t35:=Tryz.underlying362
 a35:=Tryz.isAgg362
 z35:=Tryz.sizeOf362
 v35:=Tryz.zeroValue362
 t36:=Tryz.underlying363
 a36:=Tryz.isAgg363
 z36:=Tryz.sizeOf363
 v36:=Tryz.zeroValue363
 t41:=Tryz.underlying122
 a41:=Tryz.isAgg122
 z41:=Tryz.sizeOf122
 v41:=Tryz.zeroValue122
 t44:=Tryz.underlying59
 a44:=Tryz.isAgg59
 z44:=Tryz.sizeOf59
 v44:=Tryz.zeroValue59
 t46:=Tryz.underlying113
 a46:=Tryz.isAgg113
 z46:=Tryz.sizeOf113
 v46:=Tryz.zeroValue113
 t53:=Tryz.underlying378
 a53:=Tryz.isAgg378
 z53:=Tryz.sizeOf378
 v53:=Tryz.zeroValue378
 t57:=Tryz.underlying381
 a57:=Tryz.isAgg381
 z57:=Tryz.sizeOf381
 v57:=Tryz.zeroValue381
 t63:=Tryz.underlying387
 a63:=Tryz.isAgg387
 z63:=Tryz.sizeOf387
 v63:=Tryz.zeroValue387
 t64:=Tryz.underlying264
 a64:=Tryz.isAgg264
 z64:=Tryz.sizeOf264
 v64:=Tryz.zeroValue264}
def oc(ns:List (List UInt8)):List (List UInt8):=ns.mergeSort λ x y=>decide (x<=y)
def vR(args:List I)(A:Mem)(ns:List (List UInt8)):Prop:=∃bp m,args=[.func (.func 183) ⟨[]⟩ ⟨[pw bp 0]⟩]/\VB A 199 bp (.var 1) [.map (U m)]/\A.get m=U (.map (dL ns 0) (Z ns))/\ns.Nodup/\Z ns<1000/\∀n∈ns,Z n<1000
theorem Qq:∀{ns ns':List (List UInt8)} {o:Nat},dL ns o=dL ns' o->ns=ns'
 | [],[],_,_=>rfl
 | [],_::_,_,h=>by cases h
 |_::_,[],_,h=>by cases h
 |n::ns,n'::ns',o,h=>by
  rw[dL,dL,gq]at h;have h1:=cX MapEntry.key h.1;rw[Qq h.2,show n=n' by unfold ai at h1;simpa using h1]
variable {A:Mem}{ns:List (List UInt8)}
def qg0{args:List I}{ns':List (List UInt8)}(h:vR args A ns)(h':vR args A ns'):ns'=ns:=by
 obtain⟨bp,m,rfl,⟨-,c,q1,q2⟩,q3,-⟩:=h;obtain⟨bp',m',e,⟨-,c',r1,r2⟩,r3,-⟩:=h';simp only[gq,Value.func.injEq,G9,Value.pointer.injEq,fg,Addr.mk.injEq,and_true,true_and]at e;subst e;rw[q1]at r1;injection r1 with r1;injection r1 with _ _ _ r1;subst r1;have e2:=(q2 0 (by simp)).symm.trans (r2 0 (by simp));simp only[c7,fg,Value.map.injEq]at e2;subst e2;rw[q3]at r3;injection r3 with r3;injection r3 with r3 _;exact(Qq r3).symm
def sd(ns:List (List UInt8))(A:Mem):I×Mem:=if ns=[]then(.slice V 0 0,A.alloc .dead)else(.slice (U ⟨A.next,0,V⟩) (Z ns) (cP (Z ns) 1),A.alloc (.cells 9 .row 0 (T.bW .e 0 ((oc ns).map ai))))
variable {ι:bj}{w':aF}
def qcQ{w:aF}(hs:bY ι A w ι A w')(hr:Rel ι A w'):Rel ι (A.alloc .dead) w'/\bY ι A w ι (A.alloc .dead) w':=by
 have hl:∀b,live (A.alloc .dead) b->live A b:=by
  rintro b ⟨o,h1,h2⟩;by_cases e:b=A.next
  .subst e;rw[de]at h1;cases h1;cases h2
  .exact⟨o,by rwa[cY e]at h1,h2⟩
 refine⟨⟨λ b hb=>?_,λ b o l h1 h2 h3=>?_,hr.rng,λ b b' l l' h h'=>hr.inj b b' l l' (hl b h) (hl b' h'),λ b t k c h=>?_⟩,⟨by rw[aG];omega,λ _ _=>rfl,λ b l h=>hs.src b l (hl b h),hs.fr,hs.size,hs.os,hs.tape,hs.output,λ b l h h'=>⟨cY (by have:=h'.1;omega),(hs.kept b l h h').2⟩⟩⟩
 .rw[aG]at hb;rw[cY (by omega)];exact hr.wf b (by omega)
 .by_cases e:b=A.next
  .subst e;rw[de]at h1;cases h1;cases h2
  .rw[cY e]at h1;exact hr.obs b o l h1 h2 h3
 .by_cases e:b=A.next
  .subst e;rw[de]at h;cases h
  .rw[cY e]at h;exact hr.gl b t k c h
open Classical in
def CT:List Value->Mem->R (Value×Mem):=λ args A=>if h:∃ns,vR args A ns then .ok (sd h.choose A)else .no 900
def Zy{args:List I}(h:vR args A ns):CT args A=.ok (sd ns A):=by
 have h':∃ns,vR args A ns:=⟨ns,h⟩;unfold CT;rw[dif_pos h',qg0 h h'.choose_spec]
theorem NW:∀{ns:List (List UInt8)} {o:Nat} {l:List MapEntry},iO ι (dL ns o) l->l=dL ns o
 | [],_,_,h=>by cases h;rfl
 |n::ns,o,_,h=>by
  rw[dL]at h;cases h with
  |cons hk hb hv ht=>
   rename_i e l;obtain⟨k,v,b⟩:=e;cases hk;cases hv;cases hb;rw[NW ht];rfl
theorem Ke:∀(ns:List (List UInt8)) (o:Nat),(dL ns o).map (·.key)=ns.map ai
 | [],_=>rfl
 |n::ns,o=>by rw[dL,lK,Ke ns,lK]
theorem Qs:∀(ns:List (List UInt8)) (o:Nat),(dL ns o).map (·.born)=(sR o (Z ns))
 | [],_=>rfl
 |n::ns,o=>by rw[dL,lK,Qs ns,cD,List.range'_succ]
def qg2(m:Nat):AnyZ.SortsIn dw Tm Fence.wide m:=
 ⟨λ blk off cap ss W hH hblk hsz=>callsIn_wide.2 (AnyM.slices_Sort_string Tl blk off cap ss W hH hblk hsz),λ p cap W=>callsIn_wide.2 (AnyM.slices_Sort_string_none Tl p cap W)⟩
abbrev C4:I->Option (DataW Unit×List MemPlace):=λ _=>U (.nil,[])
variable {v:I}{b:Nat}
def RQ{n:List UInt8}(hn:Z n<1000):WideElems.rd dw 9 C4 ⟨ai n,v,b⟩=U (.string n,.nil):=by
 have hu:=En;have hl:(⟨⟨n⟩⟩:ByteArray).size<=maxLen:=by
  show Z n<=maxLen;unfold maxLen;omega
 unfold WideElems.rd keyOf mapKey ai;simp only[hu,aA hl];rfl
theorem RY:∀{ns:List (List UInt8)} (o:Nat),(∀n∈ns,Z n<1000)->(dL ns o).map (WideElems.rg dw 9 C4)=ns.map λ n=>(.string n,.nil)
 | [],_,_=>rfl
 |n::ns,o,h=>by
  rw[dL,lK,RY (o+1) λ n hn=>h n (cV _ hn),lK];unfold WideElems.rg;rw[RQ (h n cJ)];rfl
theorem Qg{x:MapEntry}:∀{ns:List (List UInt8)} {o:Nat},x∈dL ns o->∃n v b,n∈ns/\x=⟨ai n,v,b⟩
 |n::ns,o,h=>by
  rcases cG.1 h with rfl|h
  .exact⟨n,_,_,cJ,rfl⟩
  .obtain⟨n',v,b,h1,h2⟩:=Qg h;exact⟨n',v,b,cV _ h1,h2⟩
def bI.qbR{a:Array I}(h:bI ι [] a.toList):a= #[]:=by
 obtain⟨l⟩:=a;cases h;rfl
def bI.QL{a:Array I}(h:bI ι [v] a.toList):∃v',a= #[v']/\VR ι v v':=by
 obtain⟨l⟩:=a;cases h with
 |cons h1 h2=>cases h2;exact⟨_,rfl,h1⟩
def ZQ:eG aT.P 126 CT:=by
 intro args A v A' ha;unfold CT at ha;by_cases hc:∃ns,vR args A ns
 case neg=>rw[dif_neg hc]at ha;cases ha
 rw[dif_pos hc]at ha;have hs:=hc.choose_spec;generalize hc.choose=ns at ha hs;obtain⟨rfl,rfl⟩:(sd ns A).1=v/\(sd ns A).2=A':=by
  injection ha with ha;exact⟨cX (·.1) ha,cX (·.2) ha⟩
 obtain⟨bp,m,rfl,⟨-,c,q1,q2⟩,q3,hnd,hl,hn⟩:=hs;refine⟨by unfold sd;split<;>(show A.next<=(A.alloc _).next;rw[aG];omega),λ ι w args' hr hargs hf fr cs=>?_⟩;obtain⟨l,hlb,rfl⟩:∃l,ι bp=U l/\args'= #[.func (.func 183) #[] #[.pointer (U ⟨l.blk,0+l.sh,V⟩)]]:=by
  obtain⟨v',rfl,hv⟩:=bI.QL hargs;cases hv;rename_i a' b' h1 h2;obtain rfl:=bI.qbR h1;obtain⟨v2,rfl,h3⟩:=bI.QL h2;cases h3;rename_i h5;exact⟨_,h5,rfl⟩
 obtain⟨o1,g1,cs1,fr1,rfl,g2,g3,g4,g5,g6⟩:=hr.obs bp _ l q1 rfl hlb;obtain⟨v1,g7,g8⟩:=g3 0 _ (q2 0 (by simp));cases g8 with
 |map hm=>
 rename_i lm;obtain⟨o2,k1,-,es',rfl,k2⟩:=hr.obs m _ lm q3 rfl hm;have hes:=NW k2;have hcell:w.cell? ⟨l.blk,0,V⟩=U (.map (U lm.blk)):=by
  unfold World.cell?;rw[g4]at g7;simp only[g1];exact g7
 have hkn:(es'.toList.map (·.key)).Nodup:=by
  rw[hes,Ke];exact List.pairwise_map.2 (hnd.imp λ hne e=>hne (by unfold ai at e;simpa using e))
 have hbn:es'.toList.map (·.born)=sR 0 (Z ns):=by rw[hes,Qs]
 have hsz:es'.size=Z ns:=by rw[<-xI,hes];simpa using cX Z (Ke ns 0)
 have hF:WideElems.Fit dw 9 C4 es' (Z ns):=⟨by rw[hsz];unfold maxLen;omega,⟨λ x hx=>by
  have:x.born∈es'.toList.map (·.born):=List.mem_map_of_mem hx;rw[hbn,List.mem_range'_1]at this;omega,by rw[hbn];exact List.nodup_range',hkn⟩,λ x hx=>by
  rw[hes]at hx;have:=Qg hx;obtain⟨n,v,b,h1,rfl⟩:=this;exact⟨_,RQ (hn n h1)⟩⟩
 generalize hD:((es'.toList.map (WideElems.rg dw 9 C4)).foldr DataW.insert []:List (Lit×DataW Unit))=D at*;have hown:w.ownsMap dw 9 C4 lm.blk (Z ns) (.map D):=⟨es',Z ns,k1,hF,by omega,by rw[<-hD]⟩;have hperm:D.Perm (ns.map λ n=>(.string n,.nil)):=by
  rw[<-hD,hes,RY 0 hn];exact Go.WideShapes.sorted_perm _
 have hDl:Z D=Z ns:=by rw[hperm.length_eq,bc]
 have hstr:(Go.strKeys (.map D:DataW Unit)).Perm ns:=by
  have:=hperm.map λ p:Lit×DataW Unit=>Go.strOf p.1
  rw[xR]at this;exact this.trans (by rw[show(λ p:Lit×DataW Unit=>Go.strOf p.1)∘(λ n=>((.string n,.nil):Lit×DataW Unit))=id from rfl,List.map_id])
 have hms:Maps.size (.map D:DataW Unit)=Z ns:=hDl;have hseq:SeqGives Fence.wide 2 dw 183 #[.pointer (U ⟨l.blk,0+l.sh,V⟩)] encStr (λ ss=>ss.Perm (Go.strKeys (.map D:DataW Unit))) (Maps.size (.map D:DataW Unit)) w:=by
  rw[g4];exact AnyZ.keys_gives qaQ Fence.wide 2 trivial rfl (by omega) l.blk lm.blk (Z ns) (.map D) w (hr.rng _ _ hlb) hcell hown
 have hcall:=callsIn_wide.1 (AnyZ.sorted_in qg1 Fence.wide 5 trivial trivial trivial trivial rfl (by omega) (qg2 _) (enters_of Tryz.func182 (by kernel_rfl) rfl) 183 _ trivial (enters_of Tryz.func183 (by kernel_rfl) rfl) _ _ (by rw[hms];unfold maxLen;omega) (by rw[hms];omega) w hseq);obtain⟨e,w',fr0,⟨v,ss,rfl,hss,hrow,hnil,hB⟩,st,-,hlv⟩:=hcall (fr::cs);have hssn:=hss.trans hstr;have hsl:=hssn.length_eq;have hm:(ss.mergeSort λ x y=>decide (x<=y))=oc ns:=Go.mergeSort_of_perm hssn;rw[hm]at hrow;by_cases h0:ns=[]
 .have hv:=hnil.2 (eN.1 (by rw[hsl,h0];rfl));have hL:Go.Am.Leaves w w':=⟨λ k hk=>hB.block k hk,hB.size,hB.os,hB.tape,hB.output⟩;obtain⟨e1,e2⟩:=P1 hr hL;obtain⟨e3,e4⟩:=qcQ e2 e1;unfold sd at hf⊢;rw[aA h0]at hf⊢;exact⟨ι,w',_,Steps.trans st (.one (step_leave_returned hlv)),by rw[hv];exact .slN,e3,e4⟩
 unfold sd at hf⊢;rw[ax h0]at hf⊢;obtain⟨-,⟨-,hz⟩|⟨g,cap,cur,rfl,r1,r2,r3,r4,r5,r6⟩⟩:=hrow
 .exact aU (eN.1 (hsl▸hz)) h0
 rw[qq]at r5 r6;have hsn:(oc ns).length=Z ns:=List.length_mergeSort ns;have hor:∀(i:Nat) (v:I),(T.bW .e 0 ((oc ns).map ai)).get i=U v->∃v',cur[i+0]?=U v'/\∀ι',VR ι' v v':=λ i v hi=>by
  rw[T.oK]at hi;split at hi
  .rename_i hlt;rw[bc]at hlt;rw[kL,dN]at hi;have e1:((oc ns).map encStr)[i]?=U v:=by rw[dN];exact hi
   rw[<-r6,pM,aA (by omega),gp]at e1;refine⟨v,e1,λ ι'=>?_⟩;rw[aZ (by omega)]at hi;cases hi;exact .string _
  .rw[T.pv]at hi;cases hi
 obtain⟨ι',i1,i2,i3⟩:=hr.Nt (ob:=.cells 9 .row 0 (T.bW .e 0 ((oc ns).map ai))) (hf A.next (aI _) (by show A.next<(A.alloc _).next;rw[aG];omega)) (λ t k c h=>by
  injection h with _ _ h;unfold GB at h;omega) r1 ⟨hB.size,r2,λ k hk _=>hB.block k hk,hB.os,hB.tape,hB.output⟩ (gm.1 r2).1 λ ι' _ _=>⟨cur,(0,0),rfl,r5,λ i v hi=>(hor i v hi).imp λ v' h=>⟨h.1,h.2 ι'⟩,a8 _⟩
 refine⟨ι',w',_,Steps.trans st (.one (step_leave_returned hlv)),?_,i2,i3⟩;have hcn:bV (cP (Z ns) 1)=Z ns:=iW (by omega);have:=VR.slX (len:=Z ns) (k:=cP (Z ns) 1) (cap':=cap) i1 (kU _ _) (by omega) (by rw[mH (by omega)];show 0+cap*1<=cap;omega) (λ _=>rfl) (by unfold maxLen at r4;omega) (by omega);rw[hsl];exact this
end Go.Proofs.YtjoceidiioppiaaGreatDoor.sto
namespace Go.Am
def mL{X:Type}(P:X->Prop)(a:X->List I)(r:X->I):List I->Option I:=λ args=>
 open Classical in if h:∃x,P x/\args=a x then U (r h.choose)else V
def Zb{X:Type}{P:X->Prop}{a:X->List I}{r:X->I}(hi:∀x y,a x=a y->r x=r y){x:X}(hx:P x):mL P a r (a x)=U (r x):=by
 unfold mL;have h:∃y,P y/\a x=a y:=⟨x,hx,rfl⟩;rw[dif_pos h,hi _ _ h.choose_spec.2.symm]
variable {tb:aN}
variable {fn:Func}
def qQ (ok:dO tb) {f:FuncId} {c:Code} {X:Type} {P:X->Prop} {a:X->List Value} {r:X->Value} (hf:tb.fn.get f=some fn) (hb:fn.body=some c) (hnm:(fn.name== "runtime.NumGoroutine")=false) (hk:tb.hk.get f=none)
 (h:∀x,P x->(∀v∈a x,flat 9 v=ae)/\flat 9 (r x)=ae/\∃A',az tb f (a x) ee (r x) A'):eG tb.P f (cH (mL P a r)):=by
 refine qb ok hf hb λ args v hv=>?_
 unfold mL at hv;split at hv
 .rename_i hx;cases hv;obtain⟨hp,he⟩:=hx.choose_spec;obtain⟨h1,h2,A',h3⟩:=h _ hp;obtain⟨n,hn⟩:=Mh hf hb hnm hk h3;refine⟨λ v hv=>h1 v (he▸hv),h2,n,A',?_⟩;rw[<-hn];exact cX (λ l=>call tb n f l ee) he
 .cases hv
def rV {ih:Code->St->R (Ex×St)} {A:Mem} {f:FuncId} {c:Code} {X:Type} {P:X->Prop} {a:X->List Value} {r:X->Value} (hf:tb.fn.get f=some fn) (hn:(fn.name== "runtime.NumGoroutine")=false) (hb:fn.body=some c)
 (hk:tb.hk.get f=U (cH (mL P a r))) (hi:∀x y,a x=a y->r x=r y) {x:X} (hx:P x):cE tb ih (.fn f (a x)) A=.ok (.val (r x) A):=by
 refine mG hf hn hb hk ?_;unfold cH;rw[Zb hi hx]
end Go.Am
namespace Go.Proofs.YtjoceidiioppiaaGreatDoor.sto
open Go.Am Go.Mdl Go.Sto
def str_inj{a b:List UInt8}(h:ai a=ai b):a=b:=by unfold ai at h;simpa using h
def BZ(x:List UInt8×Nat):List I:=[ai x.1,.int .i64 x.2]
def Rv(x:List UInt8×Nat):Prop:=x.1.length<1000000/\x.2<=x.1.length
def ZY:∀x y,BZ x=BZ y->uK (qa x.1 x.2)=uK (qa y.1 y.2):=by
 rintro⟨s,a⟩ ⟨s',a'⟩ h;simp only[BZ,gq,Value.int.injEq,and_true,true_and]at h;obtain⟨h1,h2⟩:=h;cases str_inj h1;cases zr h2;rfl
def Pa:=cH (mL Rv BZ λ x=>uK (qa x.1 x.2))
def ZF:eG aT.P 239 Pa:=qQ lr (cM Tryz.func239) It (by kernel_rfl) (by kernel_rfl) λ x hx=>⟨by simp[BZ,flat,ai],by simp[uK,flat],by
 obtain⟨v,A',h,rfl⟩:=run_get hx.1 hx.2;exact⟨A',h⟩⟩
def rK(x:Nat):List I:=[.int .u64 x]
def Ka{x y:Nat}(h:rK x=rK y):x=y:=by
 simp only[rK,gq,Value.int.injEq,and_true,true_and]at h;exact zr h
def JG:=cH (mL (λ x:Nat=>x<18446744073709551616) rK λ x=>ai (bL x))
def Ps:eG aT.P 209 JG:=qQ lr (cM Tryz.func209) Ih (by kernel_rfl) (by kernel_rfl) λ x hx=>⟨by simp[rK,flat],by simp[flat,ai],by
 obtain⟨v,A',h,rfl⟩:=qe9 hx;exact⟨A',h⟩⟩
def Pc:=cH (mL (λ x:Nat=>x<18446744073709551616) rK λ x=>.agg ⟨jw x⟩)
def qaZ(x:Nat):flat 9 (.agg ⟨jw x⟩)=ae:=by
 simp only[flat,jw,gQ,c6,List.all_append,List.all_map,List.all_replicate,DV,List.all_nil,sK,dW];simp[Function.comp_def,flat,gx]
def ZH:eG aT.P 226 Pc:=qQ lr (cM Tryz.func226) IE (by kernel_rfl) (by kernel_rfl) λ x hx=>⟨by simp[rK,flat],qaZ x,by
 obtain⟨v,A',h,rfl⟩:=Sv hx;exact⟨A',h⟩⟩
def Ph:=cH (mL (λ e:aK=>e.weight<4294967296) yn λ e=>.int .u64 (val e:Nat))
def ZW:eG aT.P 207 Ph:=qQ lr (cM Tryz.func207) (c:=Tryz.f207.body.getD .skip) (by kernel_rfl) (by kernel_rfl) (by kernel_rfl) λ e he=>⟨by simp[yn,aX,flat,ai],by simp[flat],_,qfT he⟩
def yo(w:List UInt8):List I:=[ai w]
def Qo{x y:List UInt8}(h:yo x=yo y):x=y:=by
 simp only[yo,gq,and_true]at h;exact str_inj h
def Pb:=cH (mL (λ _=>True) yo λ w=>.bool (decide (1<=Z w/\Z w<=255)))
def ZG:eG aT.P 246 Pb:=qQ lr (cM Tryz.func246) (c:=Tryz.f246.body.getD .skip) (by kernel_rfl) (by kernel_rfl) (by kernel_rfl) λ x _=>⟨by simp[yo,flat,ai],by simp[flat],_,qeB⟩
def Pd:=cH (mL (λ _=>True) yo λ w=>.bool (decide (0<Z w/\Z w<=64)))
def ZI:eG aT.P 132 Pd:=qQ lr (cM Tryz.func132) (c:=Tryz.f132.body.getD .skip) (by kernel_rfl) (by kernel_rfl) (by kernel_rfl) λ x _=>⟨by simp[yo,flat,ai],by simp[flat],_,qeK⟩
def Pe:=cH (mL (λ n:Nat=>n<1099511627776) rK λ n=>.int .i64 n)
def ZL:eG aT.P 216 Pe:=qQ lr (cM Tryz.func216) (c:=Tryz.f216.body.getD .skip) (by kernel_rfl) (by kernel_rfl) (by kernel_rfl) λ x hx=>⟨by simp[rK,flat],by simp[flat],_,qeQ hx⟩
def B0(x:Nat×Bool):List I:=[.agg ⟨[.int .u64 x.1,.bool x.2]⟩]
def qbD{x y:Nat×Bool}(h:B0 x=B0 y):x=y:=by
 obtain⟨a,b⟩:=x;obtain⟨a',b'⟩:=y;simp only[B0,gq,Value.agg.injEq,G9,Value.int.injEq,Value.bool.injEq,and_true,true_and]at h;cases zr h.1;cases h.2;rfl
def Pg:=cH (mL (λ _=>True) B0 λ x=>.bool (x.2&&decide (x.1<=4294967296)))
def ZU:eG aT.P 202 Pg:=qQ lr (cM Tryz.func202) (c:=Tryz.f202.body.getD .skip) (by kernel_rfl) (by kernel_rfl) (by kernel_rfl) λ x _=>⟨by simp[B0,flat],by simp[flat],_,qfN⟩
def DC:aN:=aT.nX 209 JG
def qhH:dO DC:=fq lr Ps
def Pf:=cH (mL (λ x:Nat=>x<18446744073709551616) rK λ x=>ai (bL x))
variable {n:Nat}
def qeU{A:Mem}(h:n<18446744073709551616):az DC 160 [.int .u64 n] A (ai (bL n)) A:=by
 have k:∀ih,cE DC ih (.fn 209 [.int .u64 n]) A=.ok (.val (ai (bL n)) A):=λ ih=>rV (tb:=DC) (x:=n) (cM Tryz.func209) (by kernel_rfl) Ih (by simp only[DC,aN.nX,T.bR];rfl) (λ x y h=>by rw[Ka h]) h
 refine cq 60 (cM Tryz.func160) (by kernel_rfl) λ M=>?_
 simp(disch:=omega)only[Tryz.f160,Aq,aa,k]<;>rfl
def ZM:eG aT.P 160 Pf:=qQ qhH (cM Tryz.func160) (c:=Tryz.f160.body.getD .skip) (by kernel_rfl) (by kernel_rfl) (by kernel_rfl) λ x hx=>⟨by simp[rK,flat],by simp[flat,ai],_,qeU hx⟩
def bare(e:aK):aK:=if e.gone then⟨e.word,0,ae⟩else e
def O_:=cH (mL (λ _=>True) yn λ e=>.agg ⟨aX (bare e)⟩)
def Mc{t:au}(h:(aT.aB t).map en=U ae):∃d,aT.aB t=U d/\en d=ae:=by
 cases hq:aT.aB t with
 |none=>rw[hq]at h;cases h
 |some d=>rw[hq]at h;exact⟨d,rfl,by simpa using h⟩
def LM:dj aT 61=.ok (.agg ⟨[.string .empty,wN 0,.bool ag]⟩):=by kernel_rfl
def qgH:bk aT 59=.ok 1:=by kernel_rfl
def Jb(e:aK):∀v∈aX e,bS v=ae:=by
 intro v hv;simp only[aX,cG,eC,or_false]at hv;rcases hv with rfl|rfl|rfl<;>rfl
variable {e:aK}
def qdI{A:Mem}:∃v A',az aT 79 [.agg ⟨aX e⟩] A v A'/\v=.agg ⟨aX (bare e)⟩:=by
 have v1:=aQ A 61 (aX e);generalize hB:A.alloc (af 61 (aX e))=B at v1;have v2:=aQ B 61 [.string .empty,.int .u32 (0:Nat),.bool ag];have v1:=v1.kp (Kp.alloc B (af 61 [.string .empty,.int .u32 (0:Nat),.bool ag]));have hne:B.next≠A.next:=by rw[<-hB,aG];omega
 generalize hC:B.alloc (af 61 [.string .empty,.int .u32 (0:Nat),.bool ag])=C at v2 v1;have lg:=v1.l2 Bh rfl;obtain⟨d,hd1,hd2⟩:=Mc (by kernel_rfl);cases hg:e.gone with
 |true=>
  rw[hg]at lg;obtain⟨D,sD,vD,nD,fD⟩:=db (o:=1) (v:=.int .u32 (0:Nat)) qgH v1.2 (by simp[aX]) rfl rfl;have el:(aX e).set 1 (.int .u32 (0:Nat))=aX (bare e):=by simp[aX,bare,hg]
  rw[el]at vD;have lw:=cg hd1 hd2 AQ vD;obtain⟨E,sE,vE,-⟩:=ku (l':=aX (bare e)) (by exact AQ) (v2.2.same (fD _ hne)) rfl (by simp) (Jb _);have lE:aj aT E.get 61 (.pointer (U ⟨B.next,0,V⟩))=.ok (.agg ⟨aX (bare e)⟩):=cg hd1 hd2 AQ vE;refine⟨_,E,?_,rfl⟩;refine cq 60 (cM Tryz.func79) (by kernel_rfl) λ M=>?_
  simp(disch:=omega)only[Tryz.f79,Aq,aa,a7,LM,hB,hC,NL,Fa,lg,sD,lw,sE,lE]<;>rfl
 |false=>
  rw[hg]at lg;have el:aX e=aX (bare e):=by simp[bare,hg]
  have lw:aj aT C.get 61 (.pointer (U ⟨A.next,0,V⟩))=.ok (.agg ⟨aX e⟩):=cg hd1 hd2 AQ v1.2;obtain⟨E,sE,vE,-⟩:=ku (l':=aX e) (by exact AQ) v2.2 rfl (by simp) (Jb _);have lE:aj aT E.get 61 (.pointer (U ⟨B.next,0,V⟩))=.ok (.agg ⟨aX e⟩):=cg hd1 hd2 AQ vE;refine⟨_,E,?_,cX (λ l=>Value.agg ⟨l⟩) el⟩;refine cq 60 (cM Tryz.func79) (by kernel_rfl) λ M=>?_
  simp(disch:=omega)only[Tryz.f79,Aq,aa,a7,LM,hB,hC,Fa,lg,lw,sE,lE]<;>rfl
def ZB:eG aT.P 79 O_:=qQ lr (cM Tryz.func79) (c:=Tryz.f79.body.getD .skip) (by kernel_rfl) (by kernel_rfl) (by kernel_rfl) λ e _=>⟨by simp[yn,aX,flat,ai],by simp[aX,flat,ai],by
 obtain⟨v,A',h,rfl⟩:=qdI;exact⟨A',h⟩⟩
def HK(x:(Nat×Bool)×Nat):List I:=[.agg ⟨[.int .u64 x.1.1,.bool x.1.2]⟩,.int .u64 x.2]
def hAnd:=cH (mL (λ x:(Nat×Bool)×Nat=>x.1.1+x.2<18446744073709551616) HK λ x=>.agg ⟨[.int .u64 (x.1.1+x.2:Nat),.bool x.1.2]⟩)
variable {m:Nat}
def XS{ih:aH->St->R (Ex×St)}{A:Mem}(h:n+m<18446744073709551616):cE aT ih (.fn 243 [.int .u64 n,.int .u64 m,uN 0]) A=.ok (.val (.tuple ⟨[uN (n+m),uN 0]⟩) A):=by
 have e:cE aT ih (.fn 243 [.int .u64 n,.int .u64 m,uN 0]) A=.ok (.val (.tuple ⟨[uN ((n+m+0) % 18446744073709551616),uN ((n+m+0)/18446744073709551616)]⟩) A):=by kernel_rfl
 rw[e,eo,rm h,Nat.div_eq_of_lt h]
def Tg:bk aT 280=.ok 2:=by kernel_rfl
def qiT:dj aT 280=.ok (.agg ⟨[uN 0,.bool ag]⟩):=by kernel_rfl
variable {b o:Nat}
def Y4:bK aT 280 (pw b o) 0=.ok (pw b o):=by kernel_rfl
def Y5:bK aT 280 (pw b o) 1=.ok (pw b (o+1)):=by kernel_rfl
def VJ{x:Int}{f:Bool}:eu aT 280 [(0,.int .u64 x),(1,.bool f)]=.ok (.agg ⟨[.int .u64 x,.bool f]⟩):=by kernel_rfl
def qdF{A:Mem}{f:Bool}(h:n+m<18446744073709551616):∃v A',az aT 200 [.agg ⟨[.int .u64 n,.bool f]⟩,.int .u64 m] A v A'/\v=.agg ⟨[uN (n+m),.bool f]⟩:=by
 have v1:=aQ A 280 [.int .u64 n,.bool f];generalize hB:A.alloc (af 280 [.int .u64 n,.bool f])=B at v1;have v2:=aQ B 280 [uN 0,.bool ag];have v1:=v1.kp (Kp.alloc B (af 280 [uN 0,.bool ag]));generalize hC:B.alloc (af 280 [uN 0,.bool ag])=C at v2 v1;have l1:=v1.l0 pG rfl;have l2:=v1.m1 Bh rfl;obtain⟨d,hd1,hd2⟩:=Mc (by kernel_rfl);have ka:=λ ih=>XS (ih:=ih) (A:=C) h
 obtain⟨E,sE,vE,-⟩:=ku (l':=[uN (n+m),.bool f]) (by exact Tg) v2.2 rfl (by simp) (by simp[bS]);have lE:=cg hd1 hd2 Tg vE;refine⟨_,E,?_,rfl⟩;cases f
 all_goals
  refine cq 60 (cM Tryz.func200) (by kernel_rfl) λ M=>?_
  simp(disch:=first|decide+kernel|omega|simp only[Wq,aa])only[Tryz.f200,Aq,av,reduceIte,aa,ak,a7,qiT,hB,hC,Y4,Y5,l1,l2,ka,VJ,sE,lE,c7,dc]<;>rfl
def ZA:eG aT.P 200 hAnd:=qQ lr (cM Tryz.func200) (c:=Tryz.f200.body.getD .skip) (by kernel_rfl) (by kernel_rfl) (by kernel_rfl) λ x hx=>⟨by simp[HK,flat],by simp[flat],by
 obtain⟨v,A',h,rfl⟩:=qdF hx;exact⟨A',h⟩⟩
def HL(n:Nat):List I:=[.int .u64 n,iN 36]
def O':=cH (mL (λ n:Nat=>n<18446744073709551616) HL λ n=>ai (nY n))
def ZD:eG aT.P 224 O':=qQ lr (cM Tryz.func224) (c:=Tryz.f224.body.getD .skip) (by kernel_rfl) (by kernel_rfl) (by kernel_rfl) λ n hn=>⟨by simp[HL,flat],by simp[flat,ai],qeq hn⟩
def xj(n:Nat):List UInt8:=bif aO n 10 then [115,101,103,45,.ofNat (48+n)]else [115,101,103,45,49,.ofNat (38+n)]
def qbo:List UInt8:=[109,97,110,105,102,101,115,116]
def eZ(n:Int):List UInt8:=if 0<n then xj n.toNat else []
def names:zA:=([.int .i64 1,.int .i64 0],ai qbo)::(lM 23).map λ i=>([.int .i64 4,.int .i64 (Int.subNatNat i 11)],ai (eZ (Int.subNatNat i 11)))
def qbE:FY aT 100000 29 names=ae:=by kernel_rfl
def qbF:FY aT 100000 45 names=ae:=by kernel_rfl
variable {fn:Func}
def Pq{f:FuncId}{c:aH}(hf:aT.fn.get f=U fn)(hb:fn.body=U c){l:zA}(h:FY aT n f l=ae):eG aT.P f (cH (tL l)):=(qbu lr hf hb h).hk f _ (by simp only[aN.nX,T.bR];rfl)
def ZK:eG aT.P 29 (cH (tL names)):=Pq (cM Tryz.func29) (c:=Tryz.f29.body.getD .skip) (by kernel_rfl) qbE
def ZO:eG aT.P 45 (cH (tL names)):=Pq (cM Tryz.func45) (c:=Tryz.f45.body.getD .skip) (by kernel_rfl) qbF
def jN:T (List I->Mem->R (I×Mem)):=((((((((((((((((((aT.hk.set 123 (cH crc.uW)).set 226 Pc).set 239 Pa).set 209 JG).set 207 Ph).set 246 Pb).set 132 Pd).set 216 Pe).set 202 Pg).set 160 Pf).set 79 O_).set 200 hAnd).set 224 O').set 29 (cH (tL names))).set 45 (cH (tL names))).set 161 (cH crc.Gn)).set 138 (cH crc.Da))).set 126 CT
def aV:aN:={aT with hk:=jN}
def T5:dO aV:=fq (fq (fq (fq (fq (fq (fq (fq (fq (fq (fq (fq (fq (fq (fq (fq (fq (fq lr crc.JJ) ZH) ZF) Ps) ZW) ZG) ZI) ZL) ZU) ZM) ZB) ZA) ZD) ZK) ZO) crc.ZP) crc.Pr) ZQ
variable {k:Nat}
def oJ(h:dw.funcs[k]?=U fn):aV.fn.get k=U fn:=cM h
def Pp{h:List I->Mem->R (I×Mem)}(e:jN.get k=U h):aV.hk.get k=U h:=e
section
variable {ih:aH->St->R (Ex×St)}{A:Mem}
def qaC{s:List UInt8}{a:Nat}(hs:Z s<1000000)(ha:a<=Z s):cE aV ih (.fn 239 [ai s,.int .i64 a]) A=.ok (.val (uK (qa s a)) A):=
 rV (oJ Tryz.func239) (by kernel_rfl) It (Pp (by simp only[jN,T.bR];rfl)) ZY (show Rv (s,a)from⟨hs,ha⟩)
def qaF{s:List UInt8}(hs:Z s<900000):cE aV ih (.fn 138 [ai s]) A=.ok (.val (.tuple ⟨[ai (crc.pC s).1,.bool (crc.pC s).2]⟩) A):=
 mG (oJ Tryz.func138) (by kernel_rfl) (c:=Tryz.f138.body.getD .skip) (by kernel_rfl) (Pp (by simp only[jN,T.bR];rfl)) (by
  have e:crc.Da [ai s]=U (.tuple ⟨[ai (crc.pC s).1,.bool (crc.pC s).2]⟩):=aA hs;unfold cH;rw[e])
end
end Go.Proofs.YtjoceidiioppiaaGreatDoor.sto
namespace Go.Proofs.YtjoceidiioppiaaGreatDoor.sto
open Go.Am Go.Mdl Go.Sto Go.Shelf
theorem Qb(n:Nat):∀{m i:Nat},i<m->(pz n m)[i]?=U (.ofNat (n>>>(8*i) % 256))
 |m+1,i,h=>by
  unfold pz;rcases ec i m with h1|h1
  .rw[fe (by rw[w4];exact h1)];exact Qb n h1
  .rw[eV (by rw[w4];exact h1),w4,show i-m=0 by omega,show i=m by omega];rfl
variable {n:Nat}
theorem OU{s:List UInt8}{a:Nat}:∀{i:Nat},(∀j,j<i->s[a+1+j]?=U (.ofNat (n>>>(8*j) % 256)))->mN s a i=n % 2^(8*i)
 |0,_=>by simp[mN,Nat.mod_one]
 |i+1,h=>by
  unfold mN;rw[OU λ j hj=>h j (by omega)];have h1:s.getD (a+1+i) 0=.ofNat (n>>>(8*i) % 256):=by rw[m_,h i (by omega)];rfl
  rw[h1,HJ (show n>>>(8*i) % 256<256 by omega),Nat.or_comm,<-Nat.shiftLeft_add_eq_or_of_lt (jV _ (xY _)),Ht,rp,show 8*(i+1)=8*i+8 by omega,BL,show(2:Nat)^8=256 from rfl,Nat.mod_mul,Nat.mul_comm (n/2^(8*i) % 256),xU]
def pB(n:Nat)(hn:n<18446744073709551616):(bL n).length<=9:=by
 have:=Aw hn;rw[F5];unfold iY;split<;>omega
def Kj(n:Nat):0<(bL n).length:=by
 rw[F5];unfold iY;split<;>omega
def wV{s r:List UInt8}{a:Nat}(hn:n<18446744073709551616)(h:s.drop a=bL n++r):qa s a=(n,a+(bL n).length,0)/\s.drop (a+(bL n).length)=r/\a+(bL n).length<=Z s:=by
 have hr:s.drop (a+(bL n).length)=r:=by rw[<-List.drop_drop,h,List.drop_left]
 have hlen:Z s-a=(bL n).length+Z r:=by rw[<-vu,h,aY]
 have hg:∀j x,(bL n)[j]?=U x->s[a+j]?=U x:=λ j x hx=>by
  rw[<-xP,h,fe (bU.1 hx).1];exact hx
 have hpos:=Kj n;refine⟨?_,hr,by omega⟩;unfold qa;rw[ax (by omega)];by_cases h248:n<248
 .have e:bL n=[.ofNat n]:=by unfold bL;rw[aA h248]
  have h0:(s.getD a 0).toNat=n:=by
   rw[m_,show s[a]?=U (.ofNat n)from hg 0 (.ofNat n) (by rw[e];rfl)];exact HJ (show n<256 by omega)
  rw[h0,aA h248,e];rfl
 .have e:bL n=.ofNat (247+cd n)::pz n (cd n):=by unfold bL;rw[ax h248]
  have hl:=Aw hn;have el:(bL n).length=1+cd n:=by rw[e,cD,w4];omega
  have hb:fS n=n.log2+1:=by unfold fS;rw[ax (by omega)]
  have hlp:0<cd n:=by unfold cd;omega
  have h0:(s.getD a 0).toNat=247+cd n:=by
   rw[m_,show s[a]?=U (.ofNat (247+cd n))from hg 0 _ (by rw[e];rfl)];exact HJ (show 247+cd n<256 by omega)
  have hlt:n<2^(8*cd n):=c9 ((BH (by omega)).1 (ua n.log2)) (rn (by omega) (by unfold cd;omega));have hgs:mN s a (cd n)=n:=by
   rw[OU λ j hj=>?_,rm hlt];rw[rk];exact hg (1+j) _ (by rw[e,xU 1 j,dc];exact Qb n hj)
  rw[h0,ax (by omega),show 247+cd n-247=cd n by omega,ax (by omega),hgs,aA (by unfold iY;rw[ax h248]),el,rk]
def fx(i:Nat)(a:cr):List UInt8:=a.byte::(bL a.out++bL (i-a.to))
def jK(s:aw):List UInt8:=if s.fin then bL (2*Z s.arcs+1)++bL s.out else bL (2*Z s.arcs)
def lh(i:Nat)(s:aw):List UInt8:=jK s++s.arcs.flatMap (fx i)
def fX:Nat->List aw->List UInt8
 |_,[]=>[]
 |i,s::M=>lh i s++fX (i+1) M
theorem TH:∀(M:List aw) (i:Nat) (s:aw),fX i (M++[s])=fX i M++lh (i+Z M) s
 | [],i,s=>by simp[fX]
 |x::M,i,s=>by
  rw[iP,fX,TH M (i+1) s,fX,iC,cD,show i+1+Z M=i+(Z M+1) by omega]
def iJ(n:Nat)(M:List aw)(k:Nat):List UInt8:=[67,83,1]++(bL n++(bL (Z M)++(fX 0 M++bL k)))
def Lay(M:List aw):Prop:=∀(i:Nat) (s:aw),M[i]?=U s->Z s.arcs<=256/\(s.fin=ag->s.out=0)/\s.out<18446744073709551616/\∀a∈s.arcs,a.to<i/\a.out<18446744073709551616
def bP(a:cr):List I:=[bN a.byte.toNat,.int .u64 a.out,.int .i64 a.to]
def gd(A:Mem)(l:List cr)(x:I):Prop:=∃b,aq A 246 3 b (l.map bP) x
variable {A A':Mem}
def gd.kp{l:List cr}{x:I}(h:gd A l x)(k:Kp A A'):gd A' l x:=by
 obtain⟨b,h⟩:=h;exact⟨b,h.same k.1 (k.2 b)⟩
def aS(x:I)(s:aw):List I:=[x,.bool s.fin,.int .u64 s.out]
variable {b:Nat}{ls:List (List I)}
def aq.dQ{e:au}{x:I}(h:aq A e n b ls x):x.cells.toList=[x]/\bS x=ae:=by
 rcases h with⟨rfl,-⟩|⟨k,c,rfl,-⟩<;>exact⟨rfl,rfl⟩
def aq.jb{e:au}{x:I}(h:aq A e n b ls x)(h0:ls=[]->x=.slice V 0 0)(hn:A.next<=A'.next)(hg:ls≠ []->b<A.next->A'.get b=A.get b):aq A' e n b ls x:=by
 by_cases hl:ls=[]
 .exact .inl ⟨h0 hl,hl⟩
 .exact aq.same h hn (hg hl)
def dA(A:Mem)(M:List aw)(y:I):Prop:=∃b rows,aq A 186 3 b rows y/\Z rows=Z M/\∀(i:Nat) (s:aw),M[i]?=U s->∃x,rows[i]?=U (aS x s)/\gd A s.arcs x
variable {M:List aw}{y:I}
def dA.kp(h:dA A M y)(k:Kp A A'):dA A' M y:=by
 obtain⟨b,rows,h1,h2,h3⟩:=h;refine⟨b,rows,h1.same k.1 (k.2 b),h2,λ i s hs=>?_⟩;obtain⟨x,e1,e2⟩:=h3 i s hs;exact⟨x,e1,e2.kp k⟩
def yH(t:T I)(n:Nat):ev t (.func n)=.ok (.func (.func n) ⟨[]⟩ ⟨[]⟩):=rfl
def i3:aV.aB 3=U (.int .i64):=u7
def i4:aV.aB 4=U .bool:=Bh
def i5:aV.aB 5=U (.int .u8):=kx
def i9:aV.aB 9=U .string:=mh
def i103:aV.aB 113=U (.int .u64):=pG
def Dn:bk aV 3=.ok 1:=by kernel_rfl
def we{t:au}{p:Bool}(h:(aV.aB t).map en=U p):∃d,aV.aB t=U d/\en d=p:=by
 cases hq:aV.aB t with
 |none=>rw[hq]at h;cases h
 |some d=>rw[hq]at h;exact⟨d,rfl,by simpa using h⟩
variable {v:I}
def VB.lp{e t:au}(h:VB A e b (.var 1) [v])(ht:(aV.aB t).map en=U ag):aj aV A.get t (pw b 0)=.ok v:=by
 obtain⟨d,hd,ha⟩:=we ht;exact h.ld rfl hd ha
def Jk:bK aV 225 (pw b 0) 0=.ok (pw b 0):=by kernel_rfl
def CG:bK aV 225 (pw b 0) 1=.ok (pw b 1):=by kernel_rfl
def pV(b:Nat):I:=pw b 0
def gY(A:Mem)(p:Nat)(s:List UInt8)(a:Nat):Prop:=VB A 225 p (.var 2) [ai s,.int .i64 a]
variable {p:Nat}
def gY.kp{a:Nat}{s:List UInt8}(h:gY A p s a)(k:Kp A A'):gY A' p s a:=VB.kp h k
def gY.s{a:Nat}{s:List UInt8}(h:gY A p s a):aj aV A.get 9 (pw p 0)=.ok (ai s):=h.ld rfl i9 rfl
def gY.a{a:Nat}{s:List UInt8}(h:gY A p s a):aj aV A.get 3 (pw p 1)=.ok (.int .i64 a):=h.ld rfl i3 rfl
def gY.go{a:Nat}{s:List UInt8}(h:gY A p s a):∃A',cm aV A 3 (pw p 1) (.int .i64 b)=.ok A'/\gY A' p s b/\A'.next=A.next/\∀z,z≠p->A'.get z=A.get z:=by
 obtain⟨A',h1,h2,h3,h4⟩:=db (tb:=aV) (t:=3) (o:=1) (v:=.int .i64 b) Dn h.2 (by simp) rfl rfl;exact⟨A',h1,⟨by have:=h.1;omega,h2⟩,h3,h4⟩
def lv(p:Nat)(A A':Mem):Prop:=A.next<=A'.next/\∀z,z<A.next->z≠p->A'.get z=A.get z
def lv.refl(p:Nat)(A:Mem):lv p A A:=⟨aI _,λ _ _ _=>rfl⟩
def Kp.x(p:Nat)(h:Kp A A'):lv p A A':=⟨h.1,λ z hz _=>h.2 z hz⟩
variable {B C:Mem}
def lv.trans(h:lv p A B)(k:lv p B C):lv p A C:=⟨dm h.1 k.1,λ z hz hp=>by rw[k.2 z (by have:=h.1;omega) hp,h.2 z hz hp]⟩
def qdq{q a:Nat}{s:List UInt8}(h:gY A p s a)(hq:VB A 223 q (.var 1) [pV p])(hs:Z s<900000)(ha:a<=Z s):az aV 238 [pV q] A (uK (qa s a)) A:=by
 have l1:aj aV A.get 223 (pw q 0)=.ok (pV p):=hq.lp (by kernel_rfl);have l2:=h.s;have l3:=h.a;have kg:=λ ih=>qaC (ih:=ih) (A:=A) (show Z s<1000000 by omega) ha
 refine cq 60 (oJ Tryz.func238) (by kernel_rfl) λ M=>?_
 simp(config:={maxSteps:=4000000})(disch:=first|decide+kernel|omega|simp only[Wq,aa])only[Tryz.f238,Aq,av,reduceIte,aa,ak,pV,l1,l2,l3,bA,br,Jk,CG,kg,uK,c7,dc,Fq,bQ []]<;>rfl
variable {r:Nat}
def qdr{q lo hi:Nat}(hq:VB A 113 q (.var 1) [.int .u64 lo])(hr:VB A 113 r (.var 1) [.int .u64 hi])(h:lo<=n/\n<=hi):az aV 240 [.int .u64 n,pV q,pV r] A (iN 0) A:=by
 have l1:aj aV A.get 113 (pw q 0)=.ok (.int .u64 lo):=hq.ld rfl i103 rfl;have l2:aj aV A.get 113 (pw r 0)=.ok (.int .u64 hi):=hr.ld rfl i103 rfl;have e1:¬n<lo:=by omega
 have e2:¬hi<n:=by omega
 refine cq 60 (oJ Tryz.func240) (by kernel_rfl) λ M=>?_
 simp(config:={maxSteps:=4000000})(disch:=first|decide+kernel|omega|simp only[Wq,aa])only[Tryz.f240,Aq,av,reduceIte,aa,ak,pV,l1,l2,dM,dK,e1,e2]<;>rfl
def yW{a lo hi:Nat}{s r:List UInt8}(h:gY A p s a)(hs:Z s<900000)(hn:n<18446744073709551616)(hd:s.drop a=bL n++r)(hr:lo<=n/\n<=hi):
 ∃v A',az aV 188 [pV p,.int .u64 lo,.int .u64 hi] A v A'/\v=.int .u64 n/\gY A' p s (a+(bL n).length)/\lv p A A':=by
 obtain⟨hg,-,hle⟩:=wV hn hd;have ha:a<=Z s:=by omega
 have kB:=Kp.alloc A (af 223 [pV p]);have v1:=aQ A 223 [pV p];generalize hB:A.alloc (af 223 [pV p])=B at kB v1;have kC:=Kp.alloc B (af 113 [.int .u64 lo]);have v2:=aQ B 113 [.int .u64 lo];generalize hC:B.alloc (af 113 [.int .u64 lo])=C at kC v2;have kD:=Kp.alloc C (af 113 [.int .u64 hi]);have v3:=aQ C 113 [.int .u64 hi];generalize hD:C.alloc (af 113 [.int .u64 hi])=D at kD v3;have v1:=v1.kp (kC.trans kD);have v2:=v2.kp kD;have kAD:=kB.trans (kC.trans kD);have hD':=h.kp kAD;obtain⟨g1,h1⟩:=qdq hD' v1 hs ha;obtain⟨g2,h2⟩:=qdr v2 v3 hr;rw[hg]at h1;have l1:aj aV D.get 223 (pw A.next 0)=.ok (pV p):=v1.lp (by kernel_rfl);obtain⟨E,sE,rE,nE,fE⟩:=hD'.go (b:=a+(bL n).length);have h206:az aV 237 [pV p,.func (.func 238) ⟨[]⟩ ⟨[pV A.next]⟩,.func (.func 240) ⟨[]⟩ ⟨[pV B.next,pV C.next]⟩] D (.int .u64 n) E:=by
  simp only[pV,uK]at*;refine bX (g1+g2) 60 (oJ Tryz.func237) (by kernel_rfl) λ M hM=>?_
  simp(config:={maxSteps:=4000000})(disch:=first|decide+kernel|omega|simp only[Wq,aa])only[Tryz.f237,Aq,av,reduceIte,aa,ak,h1,h2,c7,dc,bA,br,CG,sE]<;>rfl
 obtain⟨g3,h3⟩:=h206;refine⟨_,E,?_,rfl,rE,(kAD.x p).trans ⟨by omega,λ z _ hz=>fE z hz⟩⟩;simp only[pV]at*;refine bX (g3) 60 (oJ Tryz.func188) (by kernel_rfl) λ M hM=>?_
 simp(disch:=first|decide+kernel|omega)only[Tryz.f188,Aq,aa,uD,hB,hC,hD,l1,h3,ki]<;>rfl
def qdp{q a:Nat}{c:UInt8}{s r:List UInt8}(h:gY A p s a)(hq:VB A 223 q (.var 1) [pV p])(hs:Z s<900000)(hd:s.drop a=c::r):az aV 236 [pV q] A (.tuple ⟨[bN c.toNat,iN (a+1),iN 0]⟩) A:=by
 have hlt:a<Z s:=by
  rcases ec a (Z s)with h|h
  .exact h
  .rw[Hh.2 h]at hd;cases hd
 have hc:s.getD a 0=c:=by
  have:s[a]?=U c:=by rw[<-eo a,<-xP,hd];rfl
  rw[m_,this];rfl
 have l1:aj aV A.get 223 (pw q 0)=.ok (pV p):=hq.lp (by kernel_rfl);have l2:=h.s;have l3:=h.a;have hl:=gB (tb:=aV) (t:=9) (l:=s) i9;have hx:=mO (tb:=aV) (t:=9) (kd:=.i64) i9 hlt;rw[hc]at hx;have hne:¬a=Z s:=by omega
 have a1:a_ .add .i64 ((a:Nat):Int) ((1:Nat):Int)=.ok (iN (a+1)):=e_ (ct (by omega));refine cq 60 (oJ Tryz.func236) (by kernel_rfl) λ M=>?_
 simp(config:={maxSteps:=4000000})(disch:=first|decide+kernel|omega|simp only[Wq,aa])only[Tryz.f236,Aq,av,reduceIte,aa,ak,pV,l1,l2,l3,bA,br,Jk,CG,hl,hx,hne,a1,Fq,bQ []]<;>rfl
def Sg{a f:Nat}{y:List I}{c:UInt8}{s r:List UInt8}(h:gY A p s a)(hs:Z s<900000)(hd:s.drop a=c::r)(hf:∀B,Kp A B->az aV f (bN c.toNat::y) B (iN 0) B):
 ∃v A',az aV 186 [pV p,.func (.func f) ⟨[]⟩ ⟨y⟩] A v A'/\v=bN c.toNat/\gY A' p s (a+1)/\lv p A A':=by
 have kB:=Kp.alloc A (af 223 [pV p]);have v1:=aQ A 223 [pV p];generalize hB:A.alloc (af 223 [pV p])=B at kB v1;have hB':=h.kp kB;obtain⟨g1,h1⟩:=qdp hB' v1 hs hd;obtain⟨g2,h2⟩:=hf B kB;have l1:aj aV B.get 223 (pw A.next 0)=.ok (pV p):=v1.lp (by kernel_rfl);obtain⟨E,sE,rE,nE,fE⟩:=hB'.go (b:=a+1);have h204:az aV 235 [pV p,.func (.func 236) ⟨[]⟩ ⟨[pV A.next]⟩,.func (.func f) ⟨[]⟩ ⟨y⟩] B (bN c.toNat) E:=by
  simp only[pV]at*;refine bX (g1+g2) 60 (oJ Tryz.func235) (by kernel_rfl) λ M hM=>?_
  simp(config:={maxSteps:=4000000})(disch:=first|decide+kernel|omega|simp only[Wq,aa])only[Tryz.f235,Aq,av,reduceIte,aa,ak,h1,h2,c7,dc,bA,br,CG,sE]<;>rfl
 obtain⟨g3,h3⟩:=h204;refine⟨_,E,?_,rfl,rE,(kB.x p).trans ⟨by omega,λ z _ hz=>fE z hz⟩⟩;simp only[pV]at*;refine bX (g3) 60 (oJ Tryz.func186) (by kernel_rfl) λ M hM=>?_
 simp(disch:=first|decide+kernel|omega)only[Tryz.f186,Aq,aa,uD,hB,l1,h3,ki]<;>rfl
def qds{c:UInt8}:az aV 241 [bN c.toNat] A (iN 0) A:=by
 refine cq 60 (oJ Tryz.func241) (by kernel_rfl) λ M=>?_
 simp(disch:=first|decide+kernel|omega)only[Tryz.f241,Aq,aa]<;>rfl
variable {i:Nat}
def qdo{q:Nat}{c:UInt8}(hq:VB A 3 q (.var 1) [.int .i64 i])(hi:i<3)(hc: [67,83,1][i]?=U c):az aV 187 [bN c.toNat,pV q] A (iN 0) A:=by
 have l1:aj aV A.get 3 (pw q 0)=.ok (.int .i64 i):=hq.ld rfl i3 rfl;have hx:=mO (tb:=aV) (t:=9) (kd:=.i64) (l:=[67,83,1]) i9 (i:=i) hi;have e:([67,83,1]:List UInt8).getD i 0=c:=by rw[m_,hc];rfl
 rw[e]at hx;refine cq 60 (oJ Tryz.func187) (by kernel_rfl) λ M=>?_
 simp(disch:=first|decide+kernel|omega)only[Tryz.f187,Aq,aa,pV,l1,hx]<;>rfl
end Go.Proofs.YtjoceidiioppiaaGreatDoor.sto
namespace Go.Am
variable {tb:aN}{n:Nat}
def W.to{c:aH}{s:St}{K:Ex->St->Prop}(P:T I->Mem->Prop)(h:W tb c s λ e s'=>e=.nrm/\∃t D,s'=⟨t,n,[],D,V⟩/\P t D)(k:∀t D,P t D->K .nrm ⟨t,n,[],D,V⟩):W tb c s K:=h.mono λ e s' hs=>by
 obtain⟨rfl,t,D,rfl,hp⟩:=hs;exact k t D hp
end Go.Am
namespace Go.Proofs.YtjoceidiioppiaaGreatDoor.sto
open Go.Am Go.Sto
def JQ:aV.aB 184=U (.slice 246):=by kernel_rfl
def PJ:bk aV 246=.ok 3:=by kernel_rfl
def qaw:fu aV 246=.ok (3,[.int .u8 0,.int .u64 0,.int .i64 0]):=by kernel_rfl
def qaz:dj aV 246=.ok (.agg ⟨[bN 0,uN 0,iN 0]⟩):=by kernel_rfl
def qay:dj aV 186=.ok (.agg ⟨[.slice V 0 0,.bool ag,uN 0]⟩):=by kernel_rfl
def JS:bk aV 186=.ok 3:=by kernel_rfl
def qao:bk aV 184=.ok 1:=by kernel_rfl
def JP:bk aV 113=.ok 1:=by kernel_rfl
def qap:bk aV 4=.ok 1:=by kernel_rfl
variable {b o:Nat}
def Z_:bK aV 186 (pw b o) 0=.ok (pw b o):=by kernel_rfl
def FN:bK aV 186 (pw b o) 1=.ok (pw b (o+1)):=by kernel_rfl
def Z':bK aV 186 (pw b o) 2=.ok (pw b (o+2)):=by kernel_rfl
def qaa:bK aV 246 (pw b o) 1=.ok (pw b (o+1)):=by kernel_rfl
def qab:bK aV 246 (pw b o) 2=.ok (pw b (o+2)):=by kernel_rfl
def Z0{a:Int}:eu aV 246 [(0,.int .u8 a)]=.ok (.agg ⟨[.int .u8 a,uN 0,iN 0]⟩):=by kernel_rfl
def Z3{a o n:Int}:eO aV 184 1 [(0,.agg ⟨[.int .u8 a,.int .u64 o,.int .i64 n]⟩)]=.ok (af 246 [.int .u8 a,.int .u64 o,.int .i64 n],.dZ 1 2):=by kernel_rfl
def qau:∃i,aV.ty.get 246=U i/\0<i.bytes/\i.bytes<=65536:=by
 have h:(aV.ty.get 246).map (λ i=>aO 0 i.bytes&&av i.bytes 65536)=U ae:=by kernel_rfl
 cases hq:aV.ty.get 246 with
 |none=>rw[hq]at h;cases h
 |some i=>
  rw[hq]at h;simp only[gX,fg,dW,bZ]at h;exact⟨i,rfl,h.1,gK h.2⟩
def Mm(a:cr):∀v∈bP a,bS v=ae:=by
 intro v hv;simp only[bP,cG,eC,or_false]at hv;rcases hv with rfl|rfl|rfl<;>rfl
variable {c:Nat}{y:I}
def ZZ{D:Mem}{l:List cr}{a:cr}(h:aq D 246 3 c (l.map bP) y)(hl:Z l<1000000):
 ∃y' D',dJ aV (D.alloc (af 246 (bP a))) 184 184 y (.slice (U ⟨D.next,0,V⟩) 1 2)=.ok (y',D')/\aq D' 246 3 (D.next+1) ((l++[a]).map bP) y'/\D'.next=D.next+2/\∀z,(z=c->y=.slice V 0 0)->z<D.next->D'.get z=D.get z:=by
 obtain⟨i,t1,t2,t3⟩:=qau;have h':aq (D.alloc (af 246 (bP a))) 246 3 c (l.map bP) y:=h.same (by rw[aG];omega) λ hh=>cY (by omega)
 obtain⟨x',D',h1,h2,h3,h4⟩:=aq.append h' JQ JQ qaw t1 t2 t3 (by omega) (by omega) (by rw[bc];omega) (de D _) rfl (Mm a);rw[aG]at h2 h3 h4;exact⟨x',D',h1,by rw[gg];exact h2,by omega,λ z hz hzn=>by rw[h4 z hz (by omega),cY (by omega)]⟩
variable {A:Mem}{n:Nat}{ls:List (List I)}
def xy{e:au}{x:I}(h:aq A e n b ls x)(h0:ls≠ []):b<A.next:=by
 rcases h with⟨-,h⟩|⟨_,_,_,h,_⟩
 .exact aU h h0
 .exact h
def kN:=cu pQ
def EJ:aH:=sub kN [1,1,1,0,1,0,0]
def W0:pQ.body=U (.seq (sub kN [0]) (.seq (sub kN [1,0]) (.seq (.seq (sub kN [1,1,0,0]) (sub kN [1,1,0,1])) (.seq (.seq (sub kN [1,1,1,0,0]) (.block 0 (.loop EJ))) (.seq (sub kN [1,1,1,1,0]) (sub kN [1,1,1,1,1])))))):=by kernel_rfl
def El(p q i:Nat)(st:aw)(s r:List UInt8)(k:Nat)(D:Mem):Prop:=∃a c x,gY D p s a/\s.drop a=(st.arcs.drop k).flatMap (fx i)++r/\a+((st.arcs.drop k).flatMap (fx i)).length+Z r=Z s/\VB D 186 q (.var 3) (aS x ⟨st.fin,st.out,[]⟩)/\
 aq D 246 3 c ((st.arcs.take k).map bP) x/\(k=0->x=.slice V 0 0)/\(k≠0->q<c)
variable {w:List UInt8}
def Vk{s r:List UInt8}{a:Nat}(h:s.drop a=w++r)(hw:a<=Z s):a+Z w+Z r=Z s:=by
 have:=cX Z h;rw[vu,aY]at this;omega
variable {p i k:Nat}{t:T I}
def Vh{q:Nat}{st:aw}{s r:List UInt8}{D:Mem}(hs:Z s<900000)(hpq:p<q)(hi:i<1000000)(hl:Z st.arcs<=256)(ha:∀x∈st.arcs,x.to<i/\x.out<18446744073709551616)(hk:k<Z st.arcs)(h:El p q i st s r k D)
 (hsl:Sl t [(0,pV p),(1,.int .u64 i),(4,pV q),(19,uN (Z st.arcs)),(20,.int .u64 k)]):
 W aV EJ ⟨t,43,[],D,V⟩ λ e s'=>e=.nrm/\∃t' D',s'=⟨t',43,[],D',V⟩/\El p q i st s r (k+1) D'/\(D.next<=D'.next/\∀z,z<q->z≠p->D'.get z=D.get z)/\Sl t' [(0,pV p),(1,.int .u64 i),(4,pV q),(19,uN (Z st.arcs)),(20,uN (k+1))]:=by
 obtain⟨a,c,x,hR,hd,hae,hV,hS,hx0,hc⟩:=h;obtain⟨g0,g1,g4,g19,g20,-⟩:=hsl;have hmem:=ff hk;obtain⟨ht,ho⟩:=ha _ hmem;have hdk:=mq hk;rw[hdk,mr]at hd hae;have htk:=d_ hk;generalize st.arcs[k]=ar at*;generalize hw:(st.arcs.drop (k+1)).flatMap (fx i)=w at*;have hcD:k≠0->c<D.next:=λ h0=>xy hS (by
  intro hn;have:=cX Z hn;rw[bc,df,eB]at this;omega)
 have hd1:s.drop a=ar.byte::(bL ar.out++(bL (i-ar.to)++(w++r))):=by rw[hd];simp[fx]
 obtain⟨v1,E1,⟨e1,h1⟩,rfl,R1,K1⟩:=Sg hR hs hd1 λ B _=>qds
 have hd2:s.drop (a+1)=bL ar.out++(bL (i-ar.to)++(w++r)):=by rw[<-List.drop_drop,hd1];rfl
 have kF:=Kp.alloc E1 (af 246 [bN ar.byte.toNat,uN 0,iN 0]);have v2:=aQ E1 246 [bN ar.byte.toNat,uN 0,iN 0];have sF:cm aV (E1.alloc (af 246 [bN 0,uN 0,iN 0])) 246 (pw E1.next 0) (.agg ⟨[bN ar.byte.toNat,uN 0,iN 0]⟩)=.ok (E1.alloc (af 246 [bN ar.byte.toNat,uN 0,iN 0])):=fP PJ rfl rfl (by simp) (by simp[bS]);have nF:=aG E1 (af 246 [bN ar.byte.toNat,uN 0,iN 0]);have R2:=R1.kp kF;generalize E1.alloc (af 246 [bN ar.byte.toNat,uN 0,iN 0])=F at kF v2 sF nF R2;obtain⟨v3,E2,⟨e2,h2⟩,rfl,R3,K2⟩:=yW (hi:=18446744073709551615) R2 hs ho hd2 ⟨a8 _,by omega⟩;obtain⟨-,hd3,-⟩:=wV ho hd2;have hpD:=hR.1;have n1:=K1.1;have n2:=K2.1;obtain⟨G,sG,vG,nG,fG⟩:=db (o:=1) (v:=.int .u64 ar.out) JP (v2.2.same (K2.2 _ (by omega) (by omega))) (by simp) rfl rfl;have R4:gY G p s (a+1+(bL ar.out).length):=⟨by rw[nG];exact R3.1,R3.2.same (fG p (by omega))⟩;obtain⟨v4,E3,⟨e3,h3⟩,rfl,R5,K3⟩:=yW (n:=i-ar.to) (lo:=1) (hi:=i) R4 hs (by omega) hd3 ⟨by omega,by omega⟩;obtain⟨-,hd4,hle⟩:=wV (show i-ar.to<18446744073709551616 by omega) hd3;have n3:=K3.1;have su:a_ .sub .u64 ((i:Nat):Int) ((i-ar.to:Nat):Int)=.ok (uN ar.to):=by rw[eQ (by omega) (fM (by omega)),show i-(i-ar.to)=ar.to by omega]
 have cv:=eX (tb:=aV) (s:=113) (d:=3) (k:=.u64) (n:=ar.to) (by rw[i103];rfl) i3 (ct (by omega));obtain⟨H,sH,vH,nH,fH⟩:=db (tb:=aV) (t:=3) (o:=2) (v:=.int .i64 ar.to) Dn (vG.same (K3.2 _ (by omega) (by omega))) (by simp) rfl rfl;have lw:aj aV H.get 246 (pw E1.next 0)=.ok (.agg ⟨bP ar⟩):=by
  obtain⟨d,hd1,hd2⟩:=we (by kernel_rfl);exact cg hd1 hd2 PJ vH
 have gP:∀z,z<D.next->z≠p->H.get z=D.get z:=λ z hz hp=>by
  rw[fH z (by omega),K3.2 z (by omega) hp,fG z (by omega),K2.2 z (by omega) hp,kF.2 z (by omega),K1.2 z hz hp]
 have hqD:=hV.1;have VH:=hV.2.same (gP q hqD (by omega));have lx:aj aV H.get 184 (pw q 0)=.ok x:=VB.ld (tb:=aV) ⟨by omega,VH⟩ rfl JQ rfl;have SH:aq H 246 3 c ((st.arcs.take k).map bP) x:=aq.jb hS (λ h=>hx0 (by
  have:=cX Z h;rw[bc,df,eB]at this;omega)) (by omega) λ hne hlt=>gP c hlt (by
   have:k≠0:=λ h=>hne (by rw[h];rfl)
   have:=hc this;omega)
 obtain⟨y',J,happ,hs3,hn3,hf3⟩:=ZZ SH (by rw[df];omega);have happ':dJ aV (H.alloc (af 246 [bN ar.byte.toNat,.int .u64 ar.out,.int .i64 ar.to])) 184 184 x (.slice (U ⟨H.next,0,V⟩) 1 2)=.ok (y',J):=happ;have hqc:q=c->x=.slice V 0 0:=λ e=>sM (λ h0:k=0=>hx0 h0) λ h0=>by have:=hc h0;omega
 obtain⟨L,sL,vL,nL,fL⟩:=db (tb:=aV) (t:=184) (o:=0) (v:=y') qao (VH.same (hf3 q hqc (by omega))) (by simp[aS]) (aq.dQ hs3).1 (aq.dQ hs3).2;have RL:gY L p s (a+1+(bL ar.out).length+(bL (i-ar.to)).length):=⟨by have:=R5.1;omega,R5.2.same (by
  have hp5:=R5.1;rw[fL p (by omega),hf3 p (λ e=>sM (λ h0:k=0=>hx0 h0) λ h0=>by have:=hc h0;omega) (by omega),fH p (by omega)])⟩
 have a1:a_ .add .u64 ((k:Nat):Int) ((1:Nat):Int)=.ok (uN (k+1)):=e_ (fM (by omega));have lk:a_ .lss .u64 ((k:Nat):Int) ((Z st.arcs:Nat):Int)=.ok (.bool ae):=by rw[Ku];simp[hk]
 simp only[pV]at*;apply W.cC (e1+e2+e3) 20
 .intro M hM;simp(disch:=first|decide+kernel|omega)only[EJ,kN,pQ,Aq,aa,yH,g0,g1,g4,g19,g20,lk,h1,Z0,qaz,a7,sF,h2,qaa,qab,sG,h3,su,cv,sH,Z_,lx,lw,bP,Z3,happ',sL,a1];rfl
 refine⟨rfl,_,L,rfl,⟨_,H.next+1,y',RL,by rw[hw];exact hd4,by rw[hw];simp only[fx,cD,aY]at hae;omega,⟨by omega,vL⟩,?_,λ h=>by omega,λ _=>?_⟩,⟨by omega,λ z hz hp=>?_⟩,?_⟩
 .rw[htk];exact hs3.same (by omega) λ h=>fL _ (by omega)
 .omega
 .rw[fL z (by omega),hf3 z (λ e=>sM (λ h0:k=0=>hx0 h0) λ h0=>by have:=hc h0;omega) (by omega),gP z (by omega) hp]
 .simp only[Sq,aa,ak,g0,g1,g4,g19]
def JI(st:aw):jK st=bL (2*Z st.arcs+(if st.fin then 1 else 0))++(if st.fin then bL st.out else []):=by
 unfold jK;cases st.fin<;>simp
def qfB{a:Nat}{s r:List UInt8}{st:aw}(h:gY A p s a)(hs:Z s<900000)(hi:i<1000000)(hl:Z st.arcs<=256)(hf:st.fin=ag->st.out=0)(ho:st.out<18446744073709551616)(ha:∀x∈st.arcs,x.to<i/\x.out<18446744073709551616)(hd:s.drop a=lh i st++r):
 ∃v A',az aV 189 [pV p,.int .u64 i] A v A'/\gY A' p s (a+(lh i st).length)/\lv p A A'/\∃x c,v=.agg ⟨aS x st⟩/\aq A' 246 3 c (st.arcs.map bP) x/\(st.arcs=[]->x=.slice V 0 0)/\(st.arcs≠ []->A.next<c):=by
 refine cZ (oJ Tryz.func189) W0 (by kernel_rfl) ?_;have hae:a<=Z s:=by
  rcases ec (Z s) a with h|h
  .rw[Hh.2 (by omega)]at hd;have:=cX Z hd;have h1:=Kj (2*Z st.arcs+(if st.fin then 1 else 0));unfold lh at this;rw[JI]at this;simp only[eB,aY]at this;omega
  .exact h
 have hend:=Vk hd hae;have kB:=Kp.alloc A (af 186 [.slice V 0 0,.bool ag,.int .u64 (0:Nat)]);have vB:=aQ A 186 [.slice V 0 0,.bool ag,.int .u64 (0:Nat)];apply W.seq;apply W.run 20
 .intro M;simp(disch:=omega)only[kN,pQ,Aq,aa,qay,a7];rfl
 have RB:=h.kp kB;generalize A.alloc (af 186 [.slice V 0 0,.bool ag,.int .u64 (0:Nat)])=B at kB vB RB;have hpA:=h.1;have hd0:s.drop a=bL (2*Z st.arcs+(if st.fin then 1 else 0))++((if st.fin then bL st.out else [])++(st.arcs.flatMap (fx i)++r)):=by rw[hd,lh,JI];simp
 have hn:2*Z st.arcs+(if st.fin then 1 else 0)<=513:=by split<;>omega
 obtain⟨v1,C,⟨e1,h1⟩,rfl,R1,K1⟩:=yW RB hs (by omega) hd0 ⟨a8 _,hn⟩;obtain⟨-,hd1,-⟩:=wV (show 2*Z st.arcs+(if st.fin then 1 else 0)<18446744073709551616 by omega) hd0;have hstl:(lh i st).length=(bL (2*Z st.arcs+(if st.fin then 1 else 0))).length+(if st.fin then bL st.out else []).length+(st.arcs.flatMap (fx i)).length:=by rw[lh,JI];simp[rk]
 have b1:=vB.1;have k1:=K1.1;have kb:=kB.1;have hrem:a_ .rem .u64 ((2*Z st.arcs+(if st.fin then 1 else 0):Nat):Int) ((2:Nat):Int)=.ok (.int .u64 (if st.fin then 1 else 0:Nat)):=by
  have e:(2*Z st.arcs+(if st.fin then 1 else 0)) % 2=(if st.fin then 1 else 0):=by split<;>omega
  rw[C_ (by omega),e]
 have hquo:a_ .quo .u64 ((2*Z st.arcs+(if st.fin then 1 else 0):Nat):Int) ((2:Nat):Int)=.ok (.int .u64 (Z st.arcs:Nat)):=by
  rw[Gb (by omega) (by omega)];congr 3;split<;>omega
 generalize hN:2*Z st.arcs+(if st.fin then 1 else 0)=N at*;obtain⟨E,sE,vE,nE,fE⟩:=db (o:=1) (v:=.bool st.fin) qap (vB.2.same (K1.2 _ b1 (by omega))) (by simp) rfl rfl;have R2:gY E p s (a+(bL N).length):=⟨by have:=R1.1;omega,R1.2.same (fE p (by omega))⟩;have lf:aj aV E.get 4 (.pointer (U ⟨A.next,0+1,V⟩))=.ok (.bool st.fin):=VB.ld ⟨by omega,vE⟩ rfl i4 rfl;have kE:lv p A E:=⟨by omega,λ z hz hp=>by rw[fE z (by omega),K1.2 z (by omega) hp,kB.2 z hz]⟩;apply W.seq;simp only[pV]at*;apply W.cC (e1) 20
 .intro M hM;simp(disch:=omega)only[kN,pQ,Aq,aa,h1];rfl
 apply W.seq;refine W.to (n:=43) (λ t D=>El p A.next i st s r 0 D/\lv p A D/\Sl t [(0,pV p),(1,.int .u64 i),(4,pV A.next),(5,.int .u64 N)]) ?_ ?_
 .cases hfin:st.fin with
  |false=>
   rw[hfin]at hrem lf hd1 vE sE;apply W.seq;apply W.run 20
   .intro M;simp(disch:=decide+kernel)only[kN,pQ,Aq,aa,hrem,FN,sE];rfl
   apply W.run 20
   .intro M;simp(disch:=omega)only[kN,pQ,Aq,aa,FN,lf];rfl
   refine⟨rfl,_,E,rfl,⟨_,A.next,.slice V 0 0,R2,by simpa using hd1,?_,?_,aq.nil _ _ _ _,λ _=>rfl,λ h=>aU rfl h⟩,kE,?_⟩
   .rw[hfin]at hstl;simp at hstl;simp;omega
   .refine⟨by omega,?_⟩;rw[hf hfin];simpa[aS,hfin]using vE
   .simp only[Sq,aa,ak,pV]
  |true=>
   rw[hfin]at hrem lf hd1 vE sE;have hd1':s.drop (a+(bL N).length)=bL st.out++(st.arcs.flatMap (fx i)++r):=by simpa using hd1
   obtain⟨v3,E2,⟨e2,h2⟩,rfl,R3,K2⟩:=yW (lo:=0) (hi:=18446744073709551615) R2 hs ho hd1' ⟨a8 _,by omega⟩;obtain⟨-,hd3,-⟩:=wV ho hd1';have k2:=K2.1;obtain⟨G,sG,vG,nG,fG⟩:=db (tb:=aV) (t:=113) (o:=2) (v:=.int .u64 st.out) JP (vE.same (K2.2 _ (by omega) (by omega))) (by simp) rfl rfl;simp only[pV]at h2;apply W.seq;apply W.run 20
   .intro M;simp(disch:=decide+kernel)only[kN,pQ,Aq,aa,hrem,FN,sE];rfl
   apply W.cC (e2) 20
   .intro M hM;simp(disch:=omega)only[kN,pQ,Aq,aa,FN,Z',lf,h2,sG];rfl
   refine⟨rfl,_,G,rfl,⟨_,A.next,.slice V 0 0,⟨by have:=R3.1;omega,R3.2.same (fG p (by omega))⟩,by simpa using hd3,?_,?_,aq.nil _ _ _ _,λ _=>rfl,λ h=>aU rfl h⟩,⟨by have:=kE.1;omega,λ z hz hp=>by rw[fG z (by omega),K2.2 z (by have:=kE.1;omega) hp,kE.2 z hz hp]⟩,?_⟩
   .rw[hfin]at hstl;simp at hstl;simp;omega
   .exact⟨by omega,by simpa[aS,hfin]using vG⟩
   .simp only[Sq,aa,ak,pV]
 .rintro t D ⟨hR,hK,hs0⟩;obtain⟨g0,g1,g4,g5,-⟩:=hs0;apply W.seq;apply W.seq;apply W.run 20
  .intro M;simp(disch:=decide+kernel)only[kN,pQ,Aq,aa,g5,hquo];rfl
  apply W.block;refine W.up (Z st.arcs) (λ k t D=>El p A.next i st s r k D/\lv p A D/\Sl t [(0,pV p),(1,.int .u64 i),(4,pV A.next),(19,.int .u64 (Z st.arcs:Nat)),(20,.int .u64 k)]) ?_ (a8 _) ⟨hR,hK,?_⟩
  .rintro k t D hk ⟨hR,hK,hs0⟩;by_cases hlt:k<Z st.arcs
   .refine(Vh hs hpA hi hl ha hlt hR hs0).mono ?_;rintro e s' ⟨rfl,t',D',rfl,hR',hk',hs'⟩;exact⟨hlt,t',D',rfl,hR',⟨dm hK.1 hk'.1,λ z hz hp=>by rw[hk'.2 z hz hp,hK.2 z hz hp]⟩,hs'⟩
   .have e:k=Z st.arcs:=by omega
    subst e;obtain⟨a',c,x,q1,q2,q3,q4,q5,q6,q7⟩:=hR;obtain⟨g0,g1,g4,g19,g20,-⟩:=hs0;rw[Bv,List.flatMap_nil]at q2 q3;rw[dU]at q5;have lw:aj aV D.get 186 (.pointer (U ⟨A.next,0,V⟩))=.ok (.agg ⟨aS x st⟩):=by
     obtain⟨d,hd1,hd2⟩:=we (by kernel_rfl);exact cg hd1 hd2 JS q4.2
    obtain⟨G,sG,vG,nG,fG⟩:=ku (tb:=aV) (t:=186) (l':=aS x st) (by exact JS) q4.2 rfl (by simp[aS]) (by
     intro v hv;simp only[aS,cG,eC,or_false]at hv;rcases hv with rfl|rfl|rfl
     .exact(aq.dQ q5).2
     .rfl
     .rfl)
    have lG:aj aV G.get 186 (.pointer (U ⟨A.next,0,V⟩))=.ok (.agg ⟨aS x st⟩):=by
     obtain⟨d,hd1,hd2⟩:=we (t:=186) (p:=ae) (by kernel_rfl);exact cg hd1 hd2 JS vG
    simp only[pV]at g4;apply W.run 20
    .intro M;simp(disch:=first|decide+kernel|omega)only[EJ,kN,pQ,Aq,aa,g19,g20];rfl
    show W aV _ _ _;apply W.seq;apply W.run 20
    .intro M;simp(disch:=first|decide+kernel|omega)only[kN,pQ,Aq,aa,g4,lw,sG];rfl
    apply W.run 20
    .intro M;simp only[kN,pQ,Aq,aa];rfl
    refine⟨by simp,rfl,_,(by simp only[pQ,Aq,aa,g4,lG]<;>rfl),⟨by have:=q1.1;show _<G.next;omega,?_⟩,⟨by have:=hK.1;show _<=G.next;omega,λ z hz hp=>by rw[fG z (by omega),hK.2 z hz hp]⟩,x,c,rfl,?_,λ h=>q6 (by rw[h];rfl),λ h=>q7 (λ e=>h (eN.1 e))⟩
    .have e:a+(lh i st).length=a':=by simp at q3;omega
     rw[e];exact q1.2.same (fG p (by omega))
    .exact aq.jb q5 (λ h=>q6 (by have:=cX Z h;simpa using this)) (by show _<=G.next;omega) λ hne _=>fG c (by
      have:=q7 (λ e=>hne (gu.2 (eN.1 e)));omega)
  .simp only[Sq,aa,ak,g0,g1,g4]
end Go.Proofs.YtjoceidiioppiaaGreatDoor.sto
namespace Go.Proofs.YtjoceidiioppiaaGreatDoor.sto
open Go.Am Go.Mdl Go.Sto Go.Shelf
def FP:aV.aB 112=U (.slice 186):=by kernel_rfl
def qav:fu aV 186=.ok (3,[.slice V 0 0,.bool ag,.int .u64 0]):=by kernel_rfl
def qam:bk aV 112=.ok 1:=by kernel_rfl
def wX:bk aV 115=.ok 2:=by kernel_rfl
def PK:dj aV 115=.ok (.agg ⟨[.slice V 0 0,uN 0]⟩):=by kernel_rfl
def PL:dj aV 3=.ok (iN 0):=by kernel_rfl
variable {b o:Nat}
def Z7:bK aV 115 (pw b o) 0=.ok (pw b o):=by kernel_rfl
def Z8:bK aV 115 (pw b o) 1=.ok (pw b (o+1)):=by kernel_rfl
def Z2{x:I}{s:aw}:eO aV 112 1 [(0,.agg ⟨aS x s⟩)]=.ok (af 186 (aS x s),.dZ 1 2):=by kernel_rfl
def qat:∃i,aV.ty.get 186=U i/\0<i.bytes/\i.bytes<=65536:=by
 have h:(aV.ty.get 186).map (λ i=>aO 0 i.bytes&&av i.bytes 65536)=U ae:=by kernel_rfl
 cases hq:aV.ty.get 186 with
 |none=>rw[hq]at h;cases h
 |some i=>
  rw[hq]at h;simp only[gX,fg,dW,bZ]at h;exact⟨i,rfl,h.1,gK h.2⟩
def jk:=cu oX
def Ik:aH:=sub jk [1,0,1,0,0]
def EA:aH:=sub jk [1,1,1,0,1,0,0]
def WJ:oX.body=U (.seq (sub jk [0]) (.seq (.seq (sub jk [1,0,0]) (.block 0 (.loop Ik))) (.seq (sub jk [1,1,0]) (.seq (.seq (sub jk [1,1,1,0,0]) (.block 2 (.loop EA))) (.seq (sub jk [1,1,1,1,0]) (.seq (sub jk [1,1,1,1,1,0]) (.seq (sub jk [1,1,1,1,1,1,0]) (sub jk [1,1,1,1,1,1,1])))))))):=by kernel_rfl
def HC(p q:Nat)(M:List aw)(s r:List UInt8)(k:Nat)(D:Mem):Prop:=∃a b rows y,gY D p s a/\s.drop a=fX k (M.drop k)++r/\VB D 115 q (.var 2) [y,uN 0]/\
 aq D 186 3 b rows y/\Z rows=k/\(k=0->y=.slice V 0 0)/\(k≠0->q<b)/\
 ∀(i:Nat) (st:aw),i<k->M[i]?=U st->∃x c,rows[i]?=U (aS x st)/\aq D 246 3 c (st.arcs.map bP) x/\(st.arcs=[]->x=.slice V 0 0)/\(st.arcs≠ []->q<c/\c≠b)
variable {p k:Nat}{M:List aw}{t:T I}
def qg8{q:Nat}{s r:List UInt8}{D:Mem}{x2:I}(hs:Z s<900000)(hpq:p<q)(hL:Lay M)(hM:Z M<1000000)(hk:k<Z M)(h:HC p q M s r k D)
 (hsl:Sl t [(0,pV p),(2,x2),(3,pV q),(5,.int .u64 k),(6,uN (Z M))]):
 W aV EA ⟨t,52,[],D,V⟩ λ e s'=>e=.nrm/\∃t' D',s'=⟨t',52,[],D',V⟩/\HC p q M s r (k+1) D'/\(D.next<=D'.next/\∀z,z<q->z≠p->D'.get z=D.get z)/\Sl t' [(0,pV p),(2,x2),(3,pV q),(5,uN (k+1)),(6,uN (Z M))]:=by
 obtain⟨a,b,rows,y,hR,hd,hV,hS,hrl,hy0,hb,hA⟩:=h;obtain⟨g0,g2,g3,g5,g6,-⟩:=hsl;have hMk:=aZ hk;obtain⟨l1,l2,l3,l4⟩:=hL k _ hMk;have hdk:=mq hk;rw[hdk,fX,iC]at hd;generalize hst:M[k]=st at*;have hpD:=hR.1;have hqD:=hV.1;obtain⟨v1,E,⟨e1,h1⟩,hRE,hKE,x,c,rfl,hc1,hc2,hc3⟩:=qfB hR hs (by omega) l1 l2 l3 l4 hd;have hdE:s.drop (a+(lh k st).length)=fX (k+1) (M.drop (k+1))++r:=by rw[<-List.drop_drop,hd,List.drop_left]
 have kE:=hKE.1;have hVE:=hV.2.same (hKE.2 q hqD (by omega));have ly1:=hV.l0 FP rfl;have ly2:aj aV E.get 112 (pw q 0)=.ok y:=VB.ld ⟨by omega,hVE⟩ rfl FP rfl;have sy:dD 100 y y=ae:=by
  rcases hS with⟨rfl,-⟩|⟨_,_,rfl,-⟩
  .rfl
  .exact AP _ _ _ _
 have hr0:k≠0->rows≠ []:=λ h0 h=>h0 (by rw[<-hrl,h];rfl)
 have hbD:k≠0->b<D.next:=λ h0=>xy hS (hr0 h0)
 have hSE:aq E 186 3 b rows y:=aq.jb hS (λ h=>hy0 (by rw[<-hrl,h];rfl)) kE λ hne hlt=>hKE.2 b hlt (by
  have:=hb (λ h=>hne (eN.1 (by rw[hrl,h])));omega)
 obtain⟨ti,t1,t2,t3⟩:=qat;have hcell:∀v∈aS x st,bS v=ae:=by
  intro v hv;simp only[aS,cG,eC,or_false]at hv;rcases hv with rfl|rfl|rfl
  .exact(aq.dQ hc1).2
  .rfl
  .rfl
 have hSE':aq (E.alloc (af 186 (aS x st))) 186 3 b rows y:=hSE.same (by rw[aG];omega) λ h=>cY (by omega)
 obtain⟨y',F,happ,hs3,hn3,hf3⟩:=aq.append hSE' FP FP qav t1 t2 t3 (by omega) (by omega) (by omega) (de E _) rfl hcell;rw[aG]at hs3 hn3 hf3;have hq0:q=b->y=.slice V 0 0:=λ e=>sM (λ h0:k=0=>hy0 h0) λ h0=>by have:=hb h0;omega
 have hp0:p=b->y=.slice V 0 0:=λ e=>sM (λ h0:k=0=>hy0 h0) λ h0=>by have:=hb h0;omega
 have keepF:∀z,z<E.next->(z=b->y=.slice V 0 0)->F.get z=E.get z:=λ z hz h=>by rw[hf3 z h (by omega),cY (by omega)]
 obtain⟨G,sG,vG,nG,fG⟩:=db (o:=0) (v:=y') qam (hVE.same (keepF q (by omega) hq0)) (by simp) (aq.dQ hs3).1 (aq.dQ hs3).2;have a1:a_ .add .u64 ((k:Nat):Int) ((1:Nat):Int)=.ok (uN (k+1)):=e_ (fM (by omega));have hkeep:∀z,z<E.next->(z=b->y=.slice V 0 0)->z≠q->G.get z=E.get z:=λ z hz h hq=>by rw[fG z hq,keepF z hz h]
 simp only[pV]at*;apply W.cC (e1) 20
 .intro M hM;simp(disch:=first|decide+kernel|omega|simp only[Wq,aa])only[EA,jk,oX,Aq,av,reduceIte,aa,ak,g0,g3,g5,g6,hk,Z7,ly1,ly2,h1,Z2,happ,sG,sy,a1,Fq,bQ [(1,4)]];rfl
 refine⟨rfl,_,G,rfl,⟨_,E.next+1,rows++[aS x st],y',⟨by have:=hRE.1;omega,hRE.2.same (hkeep p (by omega) hp0 (by omega))⟩,hdE,⟨by omega,vG⟩,hs3.same (by omega) λ h=>fG _ (by omega),by rw[aY,hrl];rfl,λ h=>by omega,λ _=>by omega,λ i u hi hu=>?_⟩,⟨by omega,λ z hz hp=>?_⟩,?_⟩
 .rcases ec i k with hik|hik
  .obtain⟨x',c',e1,e2,e3,e4⟩:=hA i u hik hu;refine⟨x',c',by rw[fe (by omega)];exact e1,aq.jb e2 (λ h=>e3 (gu.1 h)) (by omega) λ hne hlt=>?_,e3,λ h=>⟨(e4 h).1,?_⟩⟩
   .have:=e4 (λ h=>hne (by rw[h];rfl));rw[hkeep c' (by omega) (λ e=>aU e this.2) (by omega),hKE.2 c' hlt (by omega)]
   .have:=xy e2 (λ e=>h (gu.1 e));omega
  .have e:i=k:=by omega
   subst e;rw[hMk]at hu;cases hu;refine⟨x,c,by rw[eV (by omega),hrl,iQ];rfl,aq.jb hc1 (λ h=>hc2 (gu.1 h)) (by omega) λ hne hlt=>?_,hc2,λ h=>⟨?_,?_⟩⟩
   .have h4:=hc3 (λ h=>hne (by rw[h];rfl));exact hkeep c hlt (λ e=>sM (λ h0:i=0=>hy0 h0) λ h0=>by have:=hbD h0;omega) (by omega)
   .have:=hc3 h;omega
   .have:=xy hc1 (λ e=>h (gu.1 e));omega
 .rw[hkeep z (by omega) (λ e=>sM (λ h0:k=0=>hy0 h0) λ h0=>by have:=hb h0;omega) (by omega),hKE.2 z (by omega) hp]
 .simp only[Sq,aa,ak,g0,g2,g3,g6]
def HD(q:Nat)(A:Mem)(M:List aw)(y:I):Prop:=∃b rows,aq A 186 3 b rows y/\Z rows=Z M/\q<b/\∀(i:Nat) (s:aw),M[i]?=U s->∃x c,rows[i]?=U (aS x s)/\aq A 246 3 c (s.arcs.map bP) x/\(s.arcs=[]->x=.slice V 0 0)/\(s.arcs≠ []->q<c)
variable {A A':Mem}{y:I}
def HD.qhu{q:Nat}(h:HD q A M y)(hn:A.next<=A'.next)(hg:∀z,z<A.next->q<z->A'.get z=A.get z):dA A' M y:=by
 obtain⟨b,rows,h1,h2,h3,h4⟩:=h;refine⟨b,rows,h1.same hn λ hlt=>hg b hlt h3,h2,λ i s hs=>?_⟩;obtain⟨x,c,e1,e2,e3,e4⟩:=h4 i s hs;exact⟨x,e1,c,aq.jb e2 (λ h=>e3 (gu.1 h)) hn λ hne hlt=>hg c hlt (e4 λ h=>hne (by rw[h];rfl))⟩
variable {n:Nat}
def qdC{s:List UInt8}(h:gY A p s 0)(hs:Z s<900000)(hd:s=iJ n M k)(hn:n<=100000)(hM0:M≠ [])(hM:Z M<1000000)(hL:Lay M)(hk:k<18446744073709551616):
 ∃v A',az aV 140 [pV p] A v A'/\lv p A A'/\∃y,v=.tuple ⟨[.int .i64 n,.agg ⟨[y,.int .u64 k]⟩]⟩/\HD A.next A' M y:=by
 refine cZ (oJ Tryz.func140) WJ (by kernel_rfl) ?_;have kB:=Kp.alloc A (af 115 [.slice V 0 0,uN 0]);have vB:=aQ A 115 [.slice V 0 0,uN 0];have hpA:=h.1;apply W.seq;apply W.run 20
 .intro M;simp(disch:=omega)only[jk,oX,Aq,aa,PK,a7];rfl
 have RB:=h.kp kB;generalize A.alloc (af 115 [.slice V 0 0,uN 0])=B at kB vB RB;have hqB:=vB.1;apply W.seq;apply W.seq;apply W.run 20
 .intro M;simp(disch:=omega)only[jk,oX,Aq,aa];rfl
 apply W.block;refine W.up 3 (λ i t D=>gY D p s i/\lv p B D/\Sl t [(0,pV p),(2,iN 0),(3,pV A.next),(7,.int .i64 i)]) ?_ (a8 _) ⟨RB,lv.refl _ _,?_⟩
 .rintro i t D hi ⟨hR,hK,g0,g2,g3,g7,-⟩;by_cases hlt:i<3
  .have sD:cm aV (D.alloc (af 3 [iN 0])) 3 (pw D.next 0) (.int .i64 i)=.ok (D.alloc (af 3 [.int .i64 i])):=se Dn rfl rfl (by simp);have kE:=Kp.alloc D (af 3 [.int .i64 i]);have vE:=aQ D 3 [.int .i64 i];have RE:=hR.kp kE;generalize D.alloc (af 3 [.int .i64 i])=E at sD kE vE RE;obtain⟨c,r,hc,hdr⟩:∃c r,([67,83,1]:List UInt8)[i]?=U c/\s.drop i=c::r:=by
    rw[hd];have:i=0\/i=1\/i=2:=by omega
    rcases this with rfl|rfl|rfl<;>exact⟨_,_,rfl,rfl⟩
   obtain⟨v1,F,⟨e1,h1⟩,rfl,R1,K1⟩:=Sg RE hs hdr λ B hB=>qdo (vE.kp hB) hlt hc
   have a1:a_ .add .i64 ((i:Nat):Int) ((1:Nat):Int)=.ok (iN (i+1)):=e_ (ct (by omega));simp only[pV]at*;apply W.cC (e1) 20
   .intro M hM;simp(disch:=first|decide+kernel|omega)only[Ik,jk,oX,Aq,aa,g0,g7,hlt,PL,sD,ki,h1,a1];rfl
   refine⟨hlt,_,F,rfl,R1,hK.trans ((kE.x p).trans K1),?_⟩;simp only[Sq,aa,ak,g0,g2,g3]
  .have e:i=3:=by omega
   subst e;have hd3:s.drop 3=bL n++(bL (Z M)++(fX 0 M++bL k)):=by rw[hd];rfl
   have hqD:A.next<D.next:=by have:=hK.1;omega
   have VD:VB D 115 A.next (.var 2) [.slice V 0 0,uN 0]:=⟨hqD,vB.2.same (hK.2 _ hqB (by omega))⟩
   obtain⟨v1,E1,⟨e1,h1⟩,rfl,R1,K1⟩:=yW hR hs (by omega) hd3 ⟨a8 _,hn⟩;obtain⟨-,hd4,-⟩:=wV (show n<18446744073709551616 by omega) hd3;obtain⟨v2,E2,⟨e2,h2⟩,rfl,R2,K2⟩:=yW (lo:=1) (hi:=18446744073709551615) R1 hs (by omega) hd4 ⟨je.2 hM0,by omega⟩;obtain⟨-,hd5,-⟩:=wV (show Z M<18446744073709551616 by omega) hd4;have cv:=eX (tb:=aV) (s:=113) (d:=3) (k:=.u64) (n:=n) (by rw[i103];rfl) i3 (ct (by omega));have K12:=K1.trans K2;have n12:=K12.1;have V2:VB E2 115 A.next (.var 2) [.slice V 0 0,uN 0]:=⟨by omega,VD.2.same (K12.2 _ hqD (by omega))⟩
   simp only[pV]at*;apply W.run 20
   .intro M;simp(disch:=decide+kernel)only[Ik,jk,oX,Aq,aa,g7];rfl
   apply W.seq;apply W.cC (e1) 20
   .intro M hM;simp(disch:=first|decide+kernel|omega)only[jk,oX,Aq,aa,g0,h1,cv];rfl
   apply W.seq;apply W.seq;apply W.cC (e2) 20
   .intro M hM;simp(disch:=omega)only[jk,oX,Aq,aa,g0,h2];rfl
   apply W.block;refine W.up (Z M) (λ j t D=>HC p A.next M s (bL k) j D/\lv p A D/\Sl t [(0,pV p),(2,.int .i64 n),(3,pV A.next),(5,.int .u64 j),(6,uN (Z M))]) ?_ (a8 _) ⟨⟨_,A.next,[],_,R2,by rw[DX];exact hd5,V2,aq.nil _ _ _ _,rfl,λ _=>rfl,λ h=>aU rfl h,λ i st hi=>aU hi (zD _)⟩,(kB.x p).trans (hK.trans K12),?_⟩
   .rintro j t D hj ⟨hR,hK,hs0⟩;by_cases hlt:j<Z M
    .refine(qg8 hs hpA hL hM hlt hR hs0).mono ?_;rintro e s' ⟨rfl,t',D',rfl,hR',hk',hs'⟩;exact⟨hlt,t',D',rfl,hR',⟨dm hK.1 hk'.1,λ z hz hp=>by rw[hk'.2 z hz hp,hK.2 z hz hp]⟩,hs'⟩
    .have e:j=Z M:=by omega
     subst e;obtain⟨a,b,rows,y,q1,q2,q3,q4,q5,q6,q7,q8⟩:=hR;obtain⟨g0,g2,g3,g5,g6,-⟩:=hs0;rw[Bv]at q2;have q2':s.drop a=bL k++[]:=by rw[jT];exact q2
     obtain⟨v3,E,⟨e3,h3⟩,rfl,R3,K3⟩:=yW (lo:=0) (hi:=18446744073709551615) q1 hs hk q2' ⟨a8 _,by omega⟩;obtain⟨-,hd6,hle⟩:=wV hk q2';have n3:=K3.1;have hM1:Z M≠0:=λ e=>hM0 (eN.1 e)
     have hqb:=q7 hM1;obtain⟨F,sF,vF,nF,fF⟩:=db (tb:=aV) (t:=113) (o:=1) (v:=.int .u64 k) JP (q3.2.same (K3.2 _ q3.1 (by omega))) (by simp) rfl rfl;have hq3:=q3.1;have RF:gY F p s (a+(bL k).length):=⟨by have:=R3.1;omega,R3.2.same (fF p (by omega))⟩;have hend:¬a+(bL k).length<Z s:=by
      have:=Hh.1 hd6;omega
     have la:=RF.a;have lb:=RF.s;have hl:=gB (tb:=aV) (t:=9) (l:=s) i9;have lw:aj aV F.get 115 (pw A.next 0)=.ok (.agg ⟨[y,.int .u64 k]⟩):=by
      obtain⟨d,hd1,hd2⟩:=we (by kernel_rfl);exact cg hd1 hd2 wX vF
     have hys:=aq.dQ q4;obtain⟨G,sG,vG,nG,fG⟩:=ku (tb:=aV) (t:=115) (l':=[y,.int .u64 k]) (by exact wX) vF rfl (by simp) (by
      intro v hv;simp only[cG,eC,or_false]at hv;rcases hv with rfl|rfl
      .exact hys.2
      .rfl)
     have lG:aj aV G.get 115 (pw A.next 0)=.ok (.agg ⟨[y,.int .u64 k]⟩):=by
      obtain⟨d,hd1,hd2⟩:=we (by kernel_rfl);exact cg hd1 hd2 wX vG
     have fG':∀z,z<D.next->z≠p->z≠A.next->G.get z=D.get z:=λ z hz hp hq=>by rw[fG z hq,fF z hq,K3.2 z hz hp]
     simp only[pV]at*;apply W.run 20
     .intro M;simp(disch:=decide+kernel)only[EA,jk,oX,Aq,aa,g5,g6];rfl
     apply W.seq;apply W.cC (e3) 20
     .intro M hM;simp(disch:=omega)only[jk,oX,Aq,aa,g0,g3,h3,Z8,sF];rfl
     apply W.seq;apply W.run 20
     .intro M;simp(disch:=first|decide+kernel|omega|simp only[Wq,aa])only[jk,oX,Aq,av,reduceIte,aa,ak,g0,bA,br,Jk,CG,la,lb,hl,hend,Fq,bQ []];rfl
     apply W.seq;apply W.run 20
     .intro M;simp(disch:=first|decide+kernel|omega|simp only[Wq,aa])only[jk,oX,Aq,av,reduceIte,aa,ak,g2,g3,lw,sG,Fq,bQ []];rfl
     apply W.run 20
     .intro M;simp only[jk,oX,Aq,aa];rfl
     refine⟨by simp,rfl,_,(by simp only[oX,Aq,aa,g2,g3,lG]<;>rfl),⟨by have:=hK.1;show _<=G.next;omega,λ z hz hp=>by rw[fG' z (by have:=hK.1;omega) hp (by omega),hK.2 z hz hp]⟩,y,rfl,b,rows,q4.same (by show _<=G.next;omega) λ hlt=>fG' b hlt (by omega) (by omega),q5,hqb,λ i st hst=>?_⟩;obtain⟨x,c,u1,u2,u3,u4⟩:=q8 i st (bU.1 hst).1 hst;exact⟨x,c,u1,aq.jb u2 (λ h=>u3 (gu.1 h)) (by show _<=G.next;omega) λ hne hlt=>by
      have:=(u4 λ h=>hne (by rw[h];rfl)).1;exact fG' c hlt (by omega) (by omega),u3,λ h=>(u4 h).1⟩
   .simp only[Sq,aa,ak,g0,g2,g3,pV]
 .simp only[Sq,aa,ak,pV]
end Go.Proofs.YtjoceidiioppiaaGreatDoor.sto
namespace Go.Am
variable {tb:aN}
def Dy(h:Nat->List I->Mem->R (I×Mem)):List I->Mem->R (I×Mem):=λ args A=>
 open Classical in if e:∃r N,∀n,N<=n->h n args A=.ok r then .ok e.choose else .no 0
def qhz{P:cI}{f:FuncId}{h:Nat->List I->Mem->R (I×Mem)}(hn:∀n,eG P f (h n)):eG P f (Dy h):=by
 intro args A v A' e;unfold Dy at e;split at e
 .rename_i hx;obtain⟨N,hN⟩:=hx.choose_spec;rw[R.ok.inj e]at hN;exact hn N args A v A' (hN N (aI _))
 .cases e
variable {A:Mem}
def qhy{h:Nat->List I->Mem->R (I×Mem)}{args:List I}{r:I×Mem}{N:Nat}(e:∀n,N<=n->h n args A=.ok r):Dy h args A=.ok r:=by
 unfold Dy;have hx:∃r N,∀n,N<=n->h n args A=.ok r:=⟨r,N,e⟩;rw[dif_pos hx];obtain⟨N',hN⟩:=hx.choose_spec;have h1:=hN (N+N') (by omega);rw[e _ (by omega)]at h1;rw[R.ok.inj h1]
def UT(e2:Ex)(s2:St)(rv:I)(A1:Mem):Prop:=
 match e2 with
 |.ef v=>s2.d=[]/\rv=v/\A1=s2.m
 |.exit _=>False
 |_=>ir s2.d s2.m=.ok A1/\rv=.nilIface
def Yi{D:zo}{args:List I}{Q:I->Mem->Prop}(hn:Z args<=D.fn.ntmps)
 (h:W tb D.c0 ⟨T.bW .e 0 args,D.fn.ntmps,[],A,V⟩ λ e s0=>e=.nrm/\∃s1 cap,(∀ih,bT tb ih D.o1 s0 (λ s=>.ok (.nrm,s))=.ok (.nrm,s1))/\s1.d=[]/\s1.t.get D.x=U (.func (.func D.g) ⟨[]⟩ ⟨cap⟩)/\Z cap<=D.gf.ntmps/\
  W tb D.c2 s1 λ e2 s2=>∃rv A1,UT e2 s2 rv A1/\W tb D.c3 ⟨(T.bW .e 0 cap).set D.t rv,D.gf.ntmps,[],A1,V⟩ λ e3 s3=>(e3=.nrm\/e3=.ret)/\∃A2 vs,ir s3.d s3.m=.ok A2/\eF tb s2.t A2.get D.fn.results.toList=.ok vs/\Q (oneOf vs) A2):
 ∃v A2,(∃N,∀n,N<=n->yF tb D n args A=.ok (v,A2))/\Q v A2:=by
 obtain⟨e0,s0,⟨f0,h0⟩,he0,s1,cap,h1,hd1,hx,hc,e2,s2,⟨f2,h2⟩,rv,A1,hE,e3,s3,⟨f3,h3⟩,he3,A2,vs,h4,h5,hQ⟩:=h;subst he0;refine⟨_,A2,⟨f0+f2+f3,λ n hN=>?_⟩,hQ⟩;have x0:=h0 (n-f0);have x2:=h2 (n-f2);have x3:=h3 (n-f3);rw[xX (by omega)]at x0 x2 x3;have hrec:Dg tb D n cap rv A1=.ok A2:=by
  unfold Dg;rw[show av (Z cap) D.gf.ntmps=ae by rw[sS];exact hc,aJ,x3,R.aW];rcases he3 with rfl|rfl<;>exact h4
 unfold yF;rw[show av (Z args) D.fn.ntmps=ae by rw[sS];exact hn,aJ,x0,R.aW];simp only[h1,R.aW,hd1,hx];rw[show aL D.g D.g=ae by rw[qp],aJ,x2,R.aW];cases e2 with
 |ef v=>
  obtain⟨q1,rfl,rfl⟩:=hE;simp only[q1,R.aW,lL,hrec,h5]
 |exit _=>exact hE.elim
 |nrm=>
  obtain⟨q1,rfl⟩:=hE;simp only[q1,R.aW,lL,hrec,h5]
 |ret=>
  obtain⟨q1,rfl⟩:=hE;simp only[q1,R.aW,lL,hrec,h5]
section
variable {ih:aH->St->R (Ex×St)}{dst:Option Tmp}{ty:au}{pos:String}{after:Array Edge}{g:Option (Nat×Bool)}{s:St}{k:St->R (Ex×St)}
def qcc(x:bM)(a t:au)(b:Bool):bT tb ih {dst,op:=.typeAssert x a t b,type:=ty,pos,after,guard:=g} s k=(ev s.t x).bind λ x=>(Ce tb x t b).bind λ v=>b7 s dst v k:=by
 rw[mT (hc:=rfl) (hi:=rfl)];simp only[ib,R.eI]
def Pw(tb:aN)(t:au)(x:I):R I:=match tb.aB t with
 |some (.interface _)=>.no 208
 |some _=>.ok (.iface t x)
 |none=>.no 209
def qcf(t:au)(x:bM):bT tb ih {dst,op:=.makeInterface t x,type:=ty,pos,after,guard:=g} s k=(ev s.t x).bind λ x=>(Pw tb t x).bind λ v=>b7 s dst v k:=by
 rw[mT (hc:=rfl) (hi:=rfl)];simp only[ib,R.eI];rfl
def wM(t:T I):ev t (.const .nilIface)=.ok .nilIface:=rfl
end
end Go.Am
namespace Go.Proofs.YtjoceidiioppiaaGreatDoor.sto
open Go.Am Go.Sto
def gC:=cu rH
def FH:=cu Tryz.f137
def F8(c:aH)(i:Nat):Oper:=
 match c with
 |.region _ ops _=>ops.toList.getD i default
 |_=>default
noncomputable def qN:zo:={f:=83,fn:=rH,c0:=sub gC [0],id1:=1,o1:=F8 (sub gC [1,0]) 0,od:=F8 (sub gC [1,0]) 1,c2:=sub gC [1,1],x:=7,g:=137,gf:=Tryz.f137,id3:=0,orc:=F8 (sub FH [0]) 0,t:=6,c3:=sub FH [1]}
def oH:Hd aV qN where
 hf:=oJ Tryz.func83
 hb:=by kernel_rfl
 hod:=by kernel_rfl
 go1:=by kernel_rfl
 god:=by kernel_rfl
 dod:=by kernel_rfl
 hg:=oJ Tryz.func137
 hgb:=by kernel_rfl
 horc:=by kernel_rfl
 dorc:=by kernel_rfl
 gorc:=by kernel_rfl
 ht:=by show Nat.lt _ _;exact gK (by kernel_rfl)
 hres:=by kernel_rfl
 hng:=by kernel_rfl
def FK:=Dy (yF aV qN)
def ZN:eG aT.P 83 FK:=qhz λ n=>Nv T5 oH n
def Xz:qN.c3=sub FH [1]:=rfl
def Xx:qN.c2=.seq (sub gC [1,1,0]) (.seq (sub gC [1,1,1,0]) (.seq (sub gC [1,1,1,1,0]) (.seq (sub gC [1,1,1,1,1,0]) (sub gC [1,1,1,1,1,1])))):=by kernel_rfl
def qax:dj aV 143=.ok .nilIface:=by kernel_rfl
def qan:bk aV 143=.ok 1:=by kernel_rfl
def Z1{l:List UInt8}:eu aV 225 [(0,ai l)]=.ok (.agg ⟨[ai l,iN 0]⟩):=by kernel_rfl
variable {n:Nat}
def Z6{g:Nat->Option Ob}:fU aV g .eql 20 (.tmp n) (.const .nilIface) .nilIface .nilIface=.ok (.bool ae):=by kernel_rfl
structure qi3 (A:Mem) (q:Nat) (v:List I):Prop where
 a:VB A 3 q (.var 1) [v.getD 0 .nilIface]
 b:VB A 115 (q+1) (.var 2) [v.getD 1 .nilIface,v.getD 2 .nilIface]
 c:VB A 143 (q+2) (.var 1) [v.getD 3 .nilIface]
def XY:Value.nilIface.cells.toList=[.nilIface]:=rfl
variable {A:Mem}{M:List aw}
def qcu{s:List UInt8}{k:Nat}(hs:Z s<900000)(ho:crc.pC s=(iJ n M k,ae))(hn:n<=100000)(hM0:M≠ [])(hM:Z M<1000000)(hL:Lay M)(hk:k<18446744073709551616)(hb:(iJ n M k).length<900000):
 ∃v A',FK [ai s] A=.ok (v,A')/\Kp A A'/\∃y,v=.tuple ⟨[.int .i64 n,.agg ⟨[y,.int .u64 k]⟩,.nilIface]⟩/\dA A' M y:=by
 suffices h:∃v A',(∃N,∀n,N<=n->yF aV qN n [ai s] A=.ok (v,A'))/\(Kp A A'/\∃y,v=.tuple ⟨[.int .i64 n,.agg ⟨[y,.int .u64 k]⟩,.nilIface]⟩/\dA A' M y) by
  obtain⟨v,A',⟨N,hN⟩,h⟩:=h;exact⟨v,A',qhy hN,h⟩
 have kB:=Kp.alloc A (af 3 [iN 0]);have v1:=aQ A 3 [iN 0];have nB:=aG A (af 3 [iN 0]);generalize hB:A.alloc (af 3 [iN 0])=B at kB v1 nB;have kC:=Kp.alloc B (af 115 [.slice V 0 0,uN 0]);have v2:=aQ B 115 [.slice V 0 0,uN 0];have nC:=aG B (af 115 [.slice V 0 0,uN 0]);generalize hC:B.alloc (af 115 [.slice V 0 0,uN 0])=C at kC v2 nC;have kD:=Kp.alloc C (af 143 [.nilIface]);have v3:=aQ C 143 [.nilIface];have nD:=aG C (af 143 [.nilIface]);generalize hD:C.alloc (af 143 [.nilIface])=D at kD v3 nD;have v1:=v1.kp (kC.trans kD);have v2:=v2.kp kD;have kAD:=kB.trans (kC.trans kD);have kE:=Kp.alloc D (af 225 [ai (iJ n M k),iN 0]);have vE:=aQ D 225 [ai (iJ n M k),iN 0];have nE:=aG D (af 225 [ai (iJ n M k),iN 0]);generalize hE:D.alloc (af 225 [ai (iJ n M k),iN 0])=E at kE vE nE;obtain⟨v,F,⟨g1,h1⟩,hKF,y,rfl,hS⟩:=qdC vE hb rfl hn hM0 hM hL hk;have nF:=hKF.1;have keepF:∀z,z<D.next->F.get z=D.get z:=λ z hz=>by rw[hKF.2 z (by omega) (by omega),kE.2 z hz]
 have hy:y.cells.toList=[y]/\bS y=ae:=by
  obtain⟨b,rows,e,-⟩:=hS;exact aq.dQ e
 have h1y:∀v∈ [y,Value.int .u64 k],bS v=ae:=by
  intro v hv;simp only[cG,eC,or_false]at hv;rcases hv with rfl|rfl
  .exact hy.2
  .rfl
 obtain⟨d,hd1,hd2⟩:=we (by kernel_rfl);have w1:=v1.1;have w2:=v2.1;have w3:=v3.1;obtain⟨G,sG,vG,nG,fG⟩:=db (o:=0) (v:=.int .i64 n) Dn (v1.2.same (keepF _ w1)) (by simp) rfl rfl;obtain⟨H,sH,vH,nH,fH⟩:=ku (t:=115) (l':=[y,.int .u64 k]) (by exact wX) (v2.2.same (by rw[fG _ (by omega),keepF _ w2])) rfl (by simp) h1y;have l1:aj aV H.get 3 (pw A.next 0)=.ok (.int .i64 n):=dg i3 rfl (vG.same (fH _ (by omega))) rfl;have l2:=cg hd1 hd2 wX vH;obtain⟨qi6,sI,vI,nI,fI⟩:=db (tb:=aV) (t:=3) (o:=0) (v:=.int .i64 n) Dn (vG.same (fH A.next (by omega))) (by simp) rfl rfl;obtain⟨J,sJ,vJ,nJ,fJ⟩:=ku (by exact wX) (vH.same (fI B.next (by omega))) rfl (by simp) h1y;obtain⟨L,sL,vL,nL,fL⟩:=db (tb:=aV) (t:=143) (o:=0) (v:=.nilIface) qan (v3.2.same (by rw[fJ _ (by omega),fI _ (by omega),fH _ (by omega),fG _ (by omega),keepF _ w3])) (by simp) rfl rfl;have m1:aj aV L.get 3 (pw A.next 0)=.ok (.int .i64 n):=dg i3 rfl (vI.same (by rw[fL _ (by omega),fJ _ (by omega)])) rfl;have m2:aj aV L.get 115 (pw B.next 0)=.ok (.agg ⟨[y,.int .u64 k]⟩):=cg hd1 hd2 wX (vJ.same (fL _ (by omega)));have m3:aj aV L.get 143 (pw C.next 0)=.ok .nilIface:=by
  obtain⟨d,hd1,hd2⟩:=we (by kernel_rfl);exact dg hd1 hd2 vL rfl
 have hL3:∀z,z<F.next->z≠A.next->z≠B.next->z≠C.next->L.get z=F.get z:=λ z _ a b c=>by rw[fL z c,fJ z b,fI z a,fH z b,fG z a]
 have l2':aj aV qi6.get 115 (pw B.next 0)=.ok (.agg ⟨[y,.int .u64 k]⟩):=cg hd1 hd2 wX (vH.same (fI _ (by omega)));have sv:dD 100 (.agg ⟨[y,.int .u64 k]⟩) (.agg ⟨[y,.int .u64 k]⟩)=ae:=by
  obtain⟨b,rows,e,-⟩:=hS;have h1:dD 99 y y=ae:=by
   rcases e with⟨rfl,-⟩|⟨_,_,rfl,-⟩
   .rfl
   .simp[dD,xh,tO]
  have h2:dD 99 (.int .u64 k) (.int .u64 k)=ae:=by
   show(jv .u64 .u64&&kV (k:Int) (k:Int))=ae;simp[kV,jv]
  show(aL 2 2&&(dD 99 y y&&(dD 99 (.int .u64 k) (.int .u64 k)&&ae)))=ae;rw[h1,h2];rfl
 have ko:=λ ih=>qaF (ih:=ih) (A:=D) hs
 rw[ho]at ko;refine Yi (by show 1<=rH.ntmps;rw[Tryz.ntmps83];omega) ?_;apply W.run 20
 .intro M;simp(disch:=omega)only[qN,gC,rH,Aq,aa,PL,PK,qax,a7,XY,hB,hC,hD];rfl
 refine⟨rfl,_,[pV A.next,pV B.next,pV C.next],λ ih=>by
  simp only[qN,gC,rH,F8,ki,Aq,aa];rfl,by rfl,by
  simp only[T.bR,aa,bB,bg,pV];rfl,by
  show 3<=Tryz.f137.ntmps;rw[Tryz.ntmps137];omega,?_⟩
 .show W aV qN.c2 _ _;rw[Xx];apply W.seq;apply W.run 20
  .intro M;simp(disch:=omega)only[gC,rH,Aq,aa,ko,c7,dc];rfl
  apply W.seq;apply W.run 20
  .intro M;simp(disch:=omega)only[gC,rH,Aq,aa];rfl
  apply W.seq;simp only[pV]at h1;apply W.cC (g1) 20
  .intro M hM;simp(disch:=omega)only[gC,rH,Aq,aa,Z1,a7,hE,h1,c7,dc,sG,sH];rfl
  apply W.seq;apply W.run 20
  .intro M;simp(disch:=first|decide+kernel|omega|simp only[Wq,aa])only[gC,rH,Aq,av,reduceIte,aa,ak,l1,l2,sI,l2',sv,sJ,sL,wM,Fq,bQ [(1,2)]];rfl
  apply W.run 20
  .intro M;simp only[gC,rH,Aq,aa];rfl
  refine⟨.nilIface,L,⟨rfl,rfl⟩,?_⟩;rw[Xz];apply W.run 20
  .intro M;simp(disch:=decide+kernel)only[FH,Tryz.f137,Aq,aa,qN,wM,fm,Z6];rfl
  refine⟨.inl rfl,L,_,rfl,(by simp only[qN,rH,m1,m2,m3,Aq,aa]<;>rfl),⟨by omega,λ z hz=>?_⟩,y,rfl,?_⟩
  .rw[hL3 z (by omega) (by omega) (by omega) (by omega),keepF z (by omega),kAD.2 z hz]
  .exact hS.qhu (by omega) λ z h1 h2=>hL3 z h1 (by omega) (by omega) (by omega)
end Go.Proofs.YtjoceidiioppiaaGreatDoor.sto
end
